/- Each operation of SxB is what the machine does: first part: lists, numbers, texts, loads. -/
import Derived.Test.YtlcobcpgaoeijaaGreatSxB
set_option linter.unusedVariables false
set_option linter.unusedSimpArgs false
namespace Sx
open Go
variable {P : Program} {E : Env} {ρ : Map} {S : Slots} {H : Heap} {a : Act} {w : World} {Z : Zone}
section lists
theorem rels_length : ∀ {ss : List SV} {vs : List Value}, SV.rels Z ρ ss vs → vs.length = ss.length
  | [], vs, h => by simp only [SV.rels] at h; simp [h]
  | s :: ss, vs, h => by
    simp only [SV.rels] at h
    obtain ⟨v, r, rfl, _, h⟩ := h
    simp [rels_length h]
theorem rels_drop : ∀ {ss : List SV} {vs : List Value} (n : Nat), SV.rels Z ρ ss vs → SV.rels Z ρ (ss.drop n) (vs.drop n)
  | _, _, 0, h => by simpa using h
  | [], vs, n + 1, h => by simp only [SV.rels] at h; simp [h, SV.rels]
  | s :: ss, vs, n + 1, h => by
    simp only [SV.rels] at h
    obtain ⟨v, r, rfl, _, h⟩ := h
    simpa using rels_drop n h
theorem rels_take : ∀ {ss : List SV} {vs : List Value} (n : Nat), SV.rels Z ρ ss vs → SV.rels Z ρ (ss.take n) (vs.take n)
  | _, _, 0, h => by simp [SV.rels]
  | [], vs, n + 1, h => by simp only [SV.rels] at h; simp [h, SV.rels]
  | s :: ss, vs, n + 1, h => by
    simp only [SV.rels] at h
    obtain ⟨v, r, rfl, h1, h⟩ := h
    simp only [List.take_succ_cons, SV.rels]
    exact ⟨v, _, rfl, h1, rels_take n h⟩
theorem rels_append : ∀ {ss ss' : List SV} {vs vs' : List Value}, SV.rels Z ρ ss vs → SV.rels Z ρ ss' vs' → SV.rels Z ρ (ss ++ ss') (vs ++ vs')
  | [], _, vs, _, h, h' => by simp only [SV.rels] at h; subst h; simpa using h'
  | s :: ss, _, vs, _, h, h' => by
    simp only [SV.rels] at h
    obtain ⟨v, r, rfl, h1, h⟩ := h
    simp only [List.cons_append, SV.rels]
    exact ⟨v, _, rfl, h1, rels_append h h'⟩
theorem rels_split : ∀ {ss ss' : List SV} {vs : List Value}, SV.rels Z ρ (ss ++ ss') vs → ∃ v1 v2, vs = v1 ++ v2 ∧ SV.rels Z ρ ss v1 ∧ SV.rels Z ρ ss' v2
  | [], _, vs, h => ⟨[], vs, rfl, by simp [SV.rels], by simpa using h⟩
  | s :: ss, _, vs, h => by
    simp only [List.cons_append, SV.rels] at h
    obtain ⟨v, r, rfl, h1, h⟩ := h
    obtain ⟨v1, v2, rfl, h2, h3⟩ := rels_split h
    exact ⟨v :: v1, v2, rfl, by simp only [SV.rels]; exact ⟨v, v1, rfl, h1, h2⟩, h3⟩
theorem rels_head {s : SV} {ss : List SV} {vs : List Value} (h : SV.rels Z ρ (s :: ss) vs) : ∃ v r, vs = v :: r ∧ SV.rel Z ρ s v ∧ SV.rels Z ρ ss r := by
  simpa only [SV.rels] using h
theorem rels_cons {s : SV} {ss : List SV} {v : Value} {vs : List Value} (h : SV.rel Z ρ s v) (h' : SV.rels Z ρ ss vs) : SV.rels Z ρ (s :: ss) (v :: vs) := by
  simp only [SV.rels]; exact ⟨v, vs, rfl, h, h'⟩
theorem rels_lits : ∀ (vs : List Value), SV.rels Z ρ (vs.map .lit) vs
  | [] => by simp [SV.rels]
  | v :: vs => rels_cons (by simp [SV.rel]) (rels_lits vs)
theorem rel_cells {s : SV} {v : Value} (h : SV.rel Z ρ s v) (hj : s ≠ .junk) (ht : ∀ c, s ≠ .tup c) (hl : ∀ c, s ≠ .lit (.tuple c)) : SV.rels Z ρ s.cells v.cells.toList := by
  cases s with
  | lit x =>
    have hv : v = x := by simpa only [SV.rel] using h
    subst hv
    cases v <;> simp only [SV.cells, Value.cells] <;> first | exact rels_lits _ | exact rels_cons (by simp [SV.rel]) (by simp [SV.rels])
  | agg cs =>
    simp only [SV.rel] at h
    obtain ⟨vs, rfl, h⟩ := h
    simpa [SV.cells, Value.cells] using h
  | junk => exact absurd rfl hj
  | tup c => exact absurd rfl (ht c)
  | ptr _ _ => 
    have h' := h; simp only [SV.rel] at h'; obtain ⟨b, C, bs, _, rfl⟩ := h'
    exact rels_cons h (by simp [SV.rels])
  | ept _ _ _ _ =>
    have h' := h; simp only [SV.rel] at h'; obtain ⟨b, C, bs, _, rfl⟩ := h'
    exact rels_cons h (by simp [SV.rels])
  | sl _ _ _ _ =>
    have h' := h; simp only [SV.rel] at h'
    rcases h' with ⟨_, _, _, rfl⟩ | ⟨b, C, bs, cap, o, _, rfl, _⟩
    · exact rels_cons h (by simp [SV.rels])
    · exact rels_cons h (by simp [SV.rels])
  | imm t l =>
    have h' := h; simp only [SV.rel, Ty.reads] at h'
    obtain ⟨u, hu, h'⟩ := h'
    simp only [List.cons.injEq, and_true] at hu
    subst hu
    rcases h' with ⟨_, rfl⟩ | ⟨b, o, cap, arr, et, fz, rfl, _⟩ | ⟨_, a, cap, rfl⟩
    · exact rels_cons h (by simp [SV.rels])
    · exact rels_cons h (by simp [SV.rels])
    · exact rels_cons h (by simp [SV.rels])
  | ipt _ _ _ _ =>
    have h' := h; simp only [SV.rel] at h'; obtain ⟨b, o, arr, et, fz, rfl, _⟩ := h'
    exact rels_cons h (by simp [SV.rels])
  | fn _ _ =>
    have h' := h; simp only [SV.rel] at h'; obtain ⟨vs, rfl, _⟩ := h'
    exact rels_cons h (by simp [SV.rels])
  | mp _ =>
    have h' := h; simp only [SV.rel] at h'; obtain ⟨b, C, bs, _, rfl⟩ := h'
    exact rels_cons h (by simp [SV.rels])
  | tref _ _ =>
    have h' := h; simp only [SV.rel] at h'; obtain ⟨b, C, bs, k, _, _, rfl⟩ := h'
    exact rels_cons h (by simp [SV.rels])
  | kseq _ _ _ =>
    have h' := h; simp only [SV.rel] at h'; obtain ⟨b, C, bs, k, fz, _, rfl, _⟩ := h'
    exact rels_cons h (by simp [SV.rels])
theorem rels_junk : ∀ {n : Nat} {vs : List Value}, vs.length = n ↔ SV.rels Z ρ (List.replicate n .junk) vs
  | 0, vs => by simp [SV.rels]
  | n + 1, [] => by simp [List.replicate_succ, SV.rels]
  | n + 1, v :: vs => by
    rw [List.replicate_succ, List.length_cons]
    simp only [SV.rels, SV.rel]
    constructor
    · intro h
      exact ⟨v, vs, rfl, trivial, rels_junk.1 (by omega)⟩
    · rintro ⟨v', r, h1, _, h2⟩
      injection h1 with h1 h3
      subst h3
      rw [rels_junk.2 h2]
theorem reads_iff : ∀ {t : Ty} {x : t.den} {vs : List Value}, t.reads Z x vs ↔ SV.rels Z ρ (t.cells x) vs
  | .int k, n, vs => by simp [Ty.reads, Ty.cells, SV.rels, SV.rel]
  | .bool, n, vs => by simp [Ty.reads, Ty.cells, SV.rels, SV.rel]
  | .str, n, vs => by simp [Ty.reads, Ty.cells, SV.rels, SV.rel]
  | .unit, n, vs => by simp [Ty.reads, Ty.cells, SV.rels]
  | .imm t, l, vs => by
    simp only [Ty.cells, SV.rels, SV.rel]
    constructor
    · intro h
      have h' := h
      simp only [Ty.reads] at h'
      obtain ⟨v, rfl, _⟩ := h'
      exact ⟨v, [], rfl, h, rfl⟩
    · rintro ⟨v, r, rfl, h, rfl⟩
      exact h
  | .pair a b, x, vs => by
    simp only [Ty.reads, Ty.cells]
    constructor
    · rintro ⟨v1, v2, rfl, h1, h2⟩
      exact rels_append (reads_iff.1 h1) (reads_iff.1 h2)
    · intro h
      obtain ⟨v1, v2, rfl, h1, h2⟩ := rels_split h
      exact ⟨v1, v2, rfl, reads_iff.2 h1, reads_iff.2 h2⟩
  | .opt t, x, vs => by
    match x with
    | some d =>
      simp only [Ty.reads, Ty.cells]
      exact reads_iff
    | none =>
      simp only [Ty.reads, Ty.cells]
      exact rels_junk
theorem cells_length : ∀ (t : Ty) (x : t.den), (t.cells x).length = t.width
  | .int _, _ => rfl
  | .bool, _ => rfl
  | .str, _ => rfl
  | .unit, _ => rfl
  | .imm _, _ => rfl
  | .pair a b, x => by simp [Ty.cells, Ty.width, cells_length a, cells_length b]
  | .opt t, x => by
    match x with
    | some d => simp only [Ty.cells, Ty.width]; exact cells_length t d
    | none => simp [Ty.cells, Ty.width]
end lists
def HeldBy (E : Env) (ρ : Map) (S : Slots) (a : Act) : Prop := ∀ t, SV.rel E.Z ρ (look S t) (a.tmps.getD t undef)
theorem ev_rel (h : HeldBy E ρ S a) (x : Operand) : SV.rel E.Z ρ (ev S x) (a.eval x) := by
  cases x with
  | tmp t => exact h t
  | const v => simp [ev, SV.rel, Act.eval]
  | global g => simp [ev, SV.rel, Act.eval]
  | func f => simp [ev, SV.rel, Act.eval]
theorem rel_lit {x v : Value} (h : SV.rel Z ρ (.lit x) v) : v = x := by simpa only [SV.rel] using h
def Yields (P : Program) (E : Env) (ρ : Map) (s : Sem Value) (w : World) (Q : SV → Prop) : Prop := ∃ sv v, Q sv ∧ s.run P w = .ok v w ∧ SV.rel E.Z ρ sv v
theorem yields_lit {s : Sem Value} {v : Value} {Q : SV → Prop} (hq : Q (.lit v)) (h : s.run P w = .ok v w) : Yields P E ρ s w Q := ⟨_, v, hq, h, by simp [SV.rel]⟩
section bin
theorem beq_bytes (x y : ByteArray) : (x.toList == y.toList) = (x == y) := (beq_toListBytes x y).symm
theorem guard_int (op : BinOp) (t : TypeId) (x y : Operand) (k : IntKind) (n : Int) (b : Value) : (eqGuard op t x y (.int k n) b).run P w = .ok () w := by
  unfold eqGuard; cases op <;> simp
theorem guard_str (op : BinOp) (t : TypeId) (x y : Operand) (s : ByteArray) (b : Value) : (eqGuard op t x y (.string s) b).run P w = .ok () w := by
  unfold eqGuard; cases op <;> simp
theorem guard_bool (op : BinOp) (t : TypeId) (x y : Operand) (s : Bool) (b : Value) : (eqGuard op t x y (.bool s) b).run P w = .ok () w := by
  unfold eqGuard; cases op <;> simp
theorem guard_ptr (op : BinOp) (t : TypeId) (x y : Operand) (s : Option Addr) (b : Value) : (eqGuard op t x y (.pointer s) b).run P w = .ok () w := by
  unfold eqGuard; cases op <;> simp
theorem run_guarded {op : BinOp} {t : TypeId} {ox oy : Operand} {a b v : Value} (hg : (eqGuard op t ox oy a b).run P w = .ok () w) (h : (Go.binOp op t a b).run P w = .ok v w) :
    (do eqGuard op t ox oy a b; Go.binOp op t a b : Sem Value).run P w = .ok v w := by
  simp only [Sem.run_bind, hg, Result.andThen_ok, h]
theorem info_of_underlying {t : TypeId} {d : TypeDesc} (h : P.underlying t = some d) : ∃ i, P.info? t = some i := by
  unfold Program.underlying at h
  split at h
  · exact ⟨_, by assumption⟩
  · exact ⟨_, by assumption⟩
  · cases h
theorem run_sizeOf' {t : TypeId} {d : TypeDesc} (h : P.underlying t = some d) : (Go.sizeOf t).run P w = .ok (P.cellsOf t) w := by
  obtain ⟨i, hi⟩ := info_of_underlying h
  simp [Go.sizeOf, typeInfo, hi, Program.cellsOf]
theorem aggO_some {t : TypeId} {b : Bool} (h : aggO P t = some b) : (∃ d, P.underlying t = some d) ∧ ∀ w, (isAgg t).run P w = .ok b w := by
  unfold aggO at h
  split at h
  · rename_i fs hu; injection h with h; subst h
    exact ⟨⟨_, hu⟩, fun w => by simp [isAgg, run_underlying hu]⟩
  · rename_i fs hu; injection h with h; subst h
    exact ⟨⟨_, hu⟩, fun w => by simp [isAgg, run_underlying hu]⟩
  · rename_i d hd hn hu; injection h with h; subst h
    refine ⟨⟨_, hu⟩, fun w => ?_⟩
    simp [isAgg, run_underlying hu]
  · cases h
theorem cut_some {cs r : List SV} {off n : Nat} (h : cut cs off n = some r) : r = (cs.drop off).take n ∧ r.length = n := by
  unfold cut at h
  dsimp only at h
  split at h
  · rename_i hl; injection h with h; exact ⟨h.symm, h ▸ Nat.eq_of_beq_eq_true hl⟩
  · cases h
theorem run_part {t : TypeId} {cs : List SV} {off : Nat} {s : SV} {vs : Array Value} (h : partO P t cs off = some s) (hr : SV.rels Z ρ cs vs.toList) :
    ∃ v, (part t vs off).run P w = .ok v w ∧ SV.rel Z ρ s v := by
  unfold partO at h
  split at h
  · rename_i ha
    obtain ⟨⟨d, hu⟩, ha⟩ := aggO_some ha
    split at h
    · rename_i r hc; injection h with h; subst h
      obtain ⟨hr1, hr2⟩ := cut_some hc
      have e : (vs.extract off (off + P.cellsOf t)).toList = (vs.toList.drop off).take (P.cellsOf t) := by
        rw [Array.toList_extract, List.extract_eq_take_drop]; congr 1; omega
      refine ⟨.agg (vs.extract off (off + P.cellsOf t)), ?_, ?_⟩
      · simp [part, ha, run_sizeOf' hu]
      · simp only [SV.rel]
        refine ⟨(vs.toList.drop off).take (P.cellsOf t), ?_, ?_⟩
        · rw [← e]
        · rw [hr1]; exact rels_take _ (rels_drop _ hr)
    · cases h
  · rename_i ha
    obtain ⟨⟨d, hu⟩, ha⟩ := aggO_some ha
    split at h
    · rename_i v r hd; injection h with h; subst h
      have h' := rels_drop off hr
      rw [hd] at h'
      obtain ⟨u, us, hu', h1, _⟩ := rels_head h'
      have hget : vs[off]? = some u := by
        have : (vs.toList.drop off)[0]? = some u := by rw [hu']; rfl
        simpa using this
      exact ⟨u, by simp [part, ha, hget], h1⟩
    · cases h
  · cases h
theorem loadVar_cells {t : TypeId} {cs : List SV} {off : Nat} {s : SV} {b o : Nat} {arr : Array Value} {et : TypeId} {fz : Nat × Nat} {vs : List Value}
    (hb : w.heap[b]? = some (.cells arr et fz)) (h : partO P t cs off = some s) (hr : SV.rels Z ρ cs vs) (hv : ∀ j, j < vs.length → arr[o + j]? = vs[j]?) :
    ∃ v, (loadVar t ⟨b, o + off, none⟩).run P w = .ok v w ∧ SV.rel Z ρ s v := by
  have hcell : ∀ j u, vs[j]? = some u → w.cell? ⟨b, o + j, none⟩ = some u := fun j u hu => by
    have hj : j < vs.length := by
      rcases Nat.lt_or_ge j vs.length with h | h
      · exact h
      · simp [List.getElem?_eq_none h] at hu
    simp [World.cell?, hb, hv j hj, hu]
  unfold partO at h
  split at h
  · rename_i ha
    obtain ⟨⟨d, hu⟩, ha⟩ := aggO_some ha
    split at h
    · rename_i r hc; injection h with h; subst h
      obtain ⟨hr1, hr2⟩ := cut_some hc
      have hrr : SV.rels Z ρ r ((vs.drop off).take (P.cellsOf t)) := by rw [hr1]; exact rels_take _ (rels_drop _ hr)
      have hlen := rels_length hrr
      rw [hr2] at hlen
      have hl := run_loadCells_list (P := P) w ⟨b, o + off, none⟩ ((vs.drop off).take (P.cellsOf t)) (fun j u hu => by
        have hadd : (⟨b, o + off, none⟩ : Addr).add j = ⟨b, o + (off + j), none⟩ := by unfold Addr.add; split <;> simp_all [Nat.add_assoc]
        rw [hadd]
        apply hcell
        rw [List.getElem?_take] at hu
        split at hu
        · simpa using hu
        · cases hu)
      rw [hlen] at hl
      refine ⟨.agg ((vs.drop off).take (P.cellsOf t)).toArray, ?_, ?_⟩
      · simp only [loadVar, Sem.run_bind, ha, Result.andThen_ok, if_true, run_sizeOf' hu, hl, Sem.run_pure]
      · simp only [SV.rel]; exact ⟨_, rfl, hrr⟩
    · cases h
  · rename_i ha
    obtain ⟨⟨d, hu⟩, ha⟩ := aggO_some ha
    split at h
    · rename_i v r hd; injection h with h; subst h
      have h' := rels_drop off hr
      rw [hd] at h'
      obtain ⟨u, us, hu', h1, _⟩ := rels_head h'
      have hget : vs[off]? = some u := by
        have : (vs.drop off)[0]? = some u := by rw [hu']; rfl
        simpa using this
      refine ⟨u, ?_, h1⟩
      simp [loadVar, ha, hcell off u hget]
    · cases h
  · cases h
theorem lies_cons {t : Ty} {x : t.den} {l : List t.den} {u us : List Value} (hu : u.length = t.width) (h1 : t.reads Z x u) (h2 : t.lies Z l us 0) : t.lies Z (x :: l) (u ++ us) 0 := fun i hi => by
  cases i with
  | zero =>
    simp only [Nat.zero_mul, Nat.add_zero, List.drop_zero, List.getElem_cons_zero]
    rw [List.take_append_of_le_length (by omega), List.take_of_length_le (by omega)]
    exact h1
  | succ i =>
    have := h2 i (by simpa using hi)
    simp only [Nat.zero_add, List.getElem_cons_succ] at this ⊢
    have e : (i + 1) * t.width = u.length + i * t.width := by rw [hu, Nat.add_mul]; omega
    rw [e, List.drop_append]
    have e2 : u.drop (u.length + i * t.width) = [] := List.drop_eq_nil_of_le (by omega)
    rw [e2, List.nil_append, show u.length + i * t.width - u.length = i * t.width by omega]
    exact this
theorem apart_lies {V W : Zone} (hV : ∀ b o, V b = some o → Z b = some o) (hW : ∀ b o, W b = some o → Z b = some o) {e2 : TypeId} {t : Ty} : ∀ {l : List (List t.den)} {us : List Value} {bs : List Nat}, t.apart V W e2 l us bs → us.length = l.length ∧ (Ty.imm t).lies Z l us 0
  | [], us, bs, h => by
    obtain ⟨rfl, rfl⟩ := h
    exact ⟨rfl, fun i hi => by simp at hi⟩
  | L :: l, us, bs, h => by
    obtain ⟨v, vs, rfl, h⟩ := h
    have key : ∀ bs', t.apart V W e2 l vs bs' → (Ty.imm t).reads Z L [v] → (v :: vs).length = (L :: l).length ∧ (Ty.imm t).lies Z (L :: l) (v :: vs) 0 := fun bs' h1 h2 => by
      obtain ⟨g1, g2⟩ := apart_lies hV hW h1
      exact ⟨by simp [g1], lies_cons (u := [v]) rfl h2 g2⟩
    rcases h with ⟨h1, h2, h3⟩ | ⟨b, o, cap, arr, l', h1, h2, h0, h3, h4, h5, h6, h7, h8⟩
    · subst h1; subst h2
      exact key _ h3 ⟨_, rfl, .inl ⟨rfl, rfl⟩⟩
    · by_cases hc : cap = 0
      · have hL : L = [] := List.eq_nil_of_length_eq_zero (by omega)
        subst hL
        exact key _ h8 ⟨_, rfl, .inr (.inr ⟨rfl, _, _, h2⟩)⟩
      · have ho : o = 0 := h0.resolve_left hc
        subst ho
        refine key _ h8 ⟨_, rfl, .inr (.inl ⟨b, 0, cap, arr, e2, (0, 0), h2, h5, hW _ _ h3, fun i hi => ?_⟩)⟩
        exact Ty.reads_zone hV t _ _ (h7 i hi)
theorem lies_take_of {t : Ty} {l : List t.den} {vs : List Value} {n : Nat} (h : t.lies Z l (vs.take n) 0) (hn : l.length * t.width ≤ n) : t.lies Z l vs 0 := fun i hi => by
  have h1 := h i hi
  simp only [Nat.zero_add] at h1 ⊢
  have hm : i * t.width + t.width ≤ l.length * t.width := by
    have : (i + 1) * t.width ≤ l.length * t.width := Nat.mul_le_mul_right _ hi
    rw [Nat.add_mul] at this; omega
  rw [List.drop_take, List.take_take, Nat.min_eq_left (by omega)] at h1
  exact h1
theorem dview_row {h : Nat} {et e2 : TypeId} {ty : Ty} {l : List ty.den} {g j : Nat} {x : Option (Nat × Nat)} (hs : Sat E ρ H w) (ho : H[h]? = some (.dview et e2 ty l g j x)) : (ρ h = some .nil ∧ l = []) ∨
    ∃ b C bs vs, ρ h = some (.at b C bs) ∧ w.heap[b]? = some (.cells vs et (0, 0)) ∧ vs.size = C * ty.width ∧ l.length ≤ C ∧ C ≤ maxLen ∧ ty.lies E.Z l vs.toList 0 := by
  obtain ⟨c, hc, h | ⟨b, C, bs, vs, gb, h1, h2, h3, h4, h5, h6, h7⟩⟩ := hs.objs _ _ ho
  · exact .inl h
  · exact .inr ⟨b, C, bs, vs, h1, hs.zone _ _ h2, h3, h4, h5, h6⟩
theorem Sat.row {h : Nat} {et : TypeId} {ty : Ty} {l : List ty.den} (hs : Sat E ρ H w) (hh : rowAt H h = some (.row et ty l)) : (ρ h = some .nil ∧ l = []) ∨
    ∃ b C bs vs, ρ h = some (.at b C bs) ∧ w.heap[b]? = some (.cells vs et (0, 0)) ∧ vs.size = C * ty.width ∧ l.length ≤ C ∧ C ≤ maxLen ∧ ty.lies E.Z l vs.toList 0 := by
  unfold rowAt at hh
  split at hh
  case h_2 => cases hh
  rename_i o ho
  have hob := hs.objs _ _ ho
  injection hh with hh
  cases o with
  | row et' ty' l' =>
    simp only [SO.asRow] at hh
    injection hh with e1 e2 e3; subst e1; subst e2; subst e3
    rcases hob with h | ⟨b, C, vs, h1, h2⟩
    · exact .inl h
    · exact .inr ⟨b, C, [], vs, h1, h2⟩
  | view et' ty' l' =>
    simp only [SO.asRow] at hh
    injection hh with e1 e2 e3; subst e1; subst e2; subst e3
    rcases hob with h | ⟨b, C, bs, vs, h1, h2, h3⟩
    · exact .inl h
    · exact .inr ⟨b, C, bs, vs, h1, hs.zone _ _ h2, h3⟩
  | kept et' e2 ty' l' =>
    simp only [SO.asRow] at hh
    injection hh with e1 e2 e3; subst e1; subst e2; subst e3
    rcases hob with h | ⟨b, C, bs, vs, us, h1, h2, h3, h4, h5, h6, h7, h8, h9⟩
    · exact .inl h
    · obtain ⟨_, h10⟩ := apart_lies (fun _ _ h => h) (fun _ _ h => h) h9
      refine .inr ⟨b, C, bs, vs, h1, h2, by rw [h3]; simp [Ty.width], h4, h5, ?_⟩
      rw [← h8] at h10
      exact lies_take_of h10 (by simp [Ty.width])
  | drow et' e2 ty' l' =>
    simp only [SO.asRow] at hh
    injection hh with e1 e2 e3; subst e1; subst e2; subst e3
    obtain ⟨c, hc, h | ⟨b, C, ds, vs, h1, h2, h3, h4, h5, h6, h7⟩⟩ := hob
    · exact .inl h
    · exact .inr ⟨b, C, ds, vs, h1, h2, h3, h4, h5, h6⟩
  | dview et' e2 ty' l' g j x =>
    cases x with
    | some x => simp [SO.asRow] at hh
    | none =>
      simp only [SO.asRow] at hh
      injection hh with e1 e2 e3; subst e1; subst e2; subst e3
      exact dview_row hs ho
  | hold et' ty' l' =>
    simp only [SO.asRow] at hh
    injection hh with e1 e2 e3; subst e1; subst e2; subst e3
    rcases hob with h | ⟨b, C, bs, vs, h1, h2, h3, h4, h5, h6, _⟩
    · exact .inl h
    · exact .inr ⟨b, C, bs, vs, h1, hs.zone _ _ h2, h3, h4, h5, h6⟩
  | cells _ _ => simp [SO.asRow] at hh
  | prow _ _ _ _ _ _ => simp [SO.asRow] at hh
  | dead => simp [SO.asRow] at hh
  | lists _ _ _ _ _ _ _ => simp [SO.asRow] at hh
  | tmap _ _ _ => simp [SO.asRow] at hh
  | imap _ _ => simp [SO.asRow] at hh
  | alias _ _ => simp [SO.asRow] at hh
theorem rowAt_lists {h : Nat} {et e2 : TypeId} {ty : Ty} {A B D : List (List ty.den)} {x : Option (Nat × Nat)} (hh : rowAt H h = some (.lists et e2 ty A B x D)) : H[h]? = some (.lists et e2 ty A B x D) := by
  unfold rowAt at hh
  split at hh
  case h_2 => cases hh
  rename_i o ho
  injection hh with hh
  cases o with
  | lists _ _ _ _ _ _ _ => simp only [SO.asRow] at hh; rw [ho, hh]
  | dview _ _ _ _ _ _ x => cases x <;> simp only [SO.asRow] at hh <;> cases hh
  | _ => simp only [SO.asRow] at hh; cases hh
theorem rowAt_dview {h : Nat} {et e2 : TypeId} {ty : Ty} {L : List ty.den} {g j : Nat} {x : Option (Nat × Nat)} (hh : rowAt H h = some (.dview et e2 ty L g j x)) : H[h]? = some (.dview et e2 ty L g j x) := by
  unfold rowAt at hh
  split at hh
  case h_2 => cases hh
  rename_i o ho
  injection hh with hh
  cases o with
  | dview _ _ _ _ _ _ x =>
    cases x with
    | none => simp only [SO.asRow] at hh; cases hh
    | some x => simp only [SO.asRow] at hh; rw [ho, hh]
  | _ => simp only [SO.asRow] at hh; cases hh
theorem colV_get {wd j : Nat} : ∀ {n : Nat} {vs : List Value} {i : Nat}, i < n → (colV wd j n vs)[i]? = some (vs.getD (i * wd + j) undef)
  | 0, _, _, h => by omega
  | n + 1, vs, 0, _ => by simp [colV]
  | n + 1, vs, i + 1, h => by
    rw [colV, List.getElem?_cons_succ, colV_get (by omega)]
    rw [List.getD_eq_getElem?_getD, List.getD_eq_getElem?_getD, List.getElem?_drop, show wd + (i * wd + j) = (i + 1) * wd + j by rw [Nat.add_mul]; omega]
theorem colV_len {wd j : Nat} : ∀ {n : Nat} {vs : List Value}, (colV wd j n vs).length = n
  | 0, _ => rfl
  | n + 1, vs => by rw [colV, List.length_cons, colV_len]
theorem col_lt : ∀ {t : Ty} {c : Col t}, t.col = some c → c.j < t.width
  | .imm u, c, h => by simp only [Ty.col, Option.some.injEq] at h; subst h; simp [Ty.width]
  | .pair a b, c, h => by
    simp only [Ty.col] at h
    split at h
    · rename_i d hd
      injection h with h; subst h
      have := col_lt hd
      simp only [Ty.width]; omega
    · split at h
      · rename_i d hd
        injection h with h; subst h
        have := col_lt hd
        simp only [Ty.width]; omega
      · cases h
  | .int _, _, h => by cases h
  | .bool, _, h => by cases h
  | .str, _, h => by cases h
  | .unit, _, h => by cases h
  | .opt _, _, h => by cases h
theorem apart_length {V W : Nat → Option Obj} {e2 : TypeId} {t : Ty} : ∀ {l : List (List t.den)} {us : List Value} {bs : List Nat}, t.apart V W e2 l us bs → us.length = l.length
  | [], us, bs, h => by obtain ⟨rfl, rfl⟩ := h; rfl
  | L :: l, us, bs, h => by
    obtain ⟨v, vs, rfl, h⟩ := h
    rcases h with ⟨_, _, h3⟩ | ⟨b, o, cap, arr, l', _, _, _, _, _, _, _, _, h8⟩
    · simp [apart_length h3]
    · simp [apart_length h8]
theorem xload_sound {t : TypeId} {s : SV} {v : Value} {Q : SV → Prop} (hs : Sat E ρ H w) (hv : SV.rel E.Z ρ s v) (h : (xload P H t s).Leads Q) :
    Yields P E ρ (Instr.loadAt t v) w Q := by
  unfold xload at h
  split at h
  · rename_i hd off
    split at h
    · rename_i et cs hh
      obtain ⟨b, C, vs, h1, h2, h3⟩ := hs.objs _ _ hh
      simp only [SV.rel] at hv
      obtain ⟨b', C', bs', h1', rfl⟩ := hv
      rw [h1] at h1'; injection h1' with h1'; injection h1' with e1 e2 e3; subst e1
      unfold fromCells at h
      split at h
      · rename_i sv hp
        obtain ⟨u, hu1, hu2⟩ := loadVar_cells (o := 0) h2 hp h3 (fun j _ => by simp)
        exact ⟨sv, u, h, by simpa [Instr.loadAt, Instr.sureAddr] using hu1, hu2⟩
      · exact h.elim
    · exact h.elim
  · rename_i hd wd i j
    split at h
    · rename_i et ty l hh
      split at h
      case isFalse => exact h.elim
      rename_i hwd
      have := Nat.eq_of_beq_eq_true hwd
      subst this
      obtain ⟨hi, h⟩ := h
      simp only [SV.rel] at hv
      obtain ⟨b', C', bs', h1', rfl⟩ := hv
      rcases hs.row hh with ⟨h0, _⟩ | ⟨b, C, bs, vs, h1, h2, h3, h4, h5, h6⟩
      · rw [h0] at h1'; cases h1'
      rw [h1] at h1'; injection h1' with h1'; injection h1' with e1 e2 e3; subst e1
      unfold fromCells at h
      split at h
      · rename_i sv hp
        have hr := h6 i hi
        rw [Nat.zero_add] at hr
        rw [show l.getD i ty.dflt = l[i] by simp [List.getD, hi]] at hp
        have hr' := (reads_iff (ρ := ρ)).1 hr
        obtain ⟨u, hu1, hu2⟩ := loadVar_cells (o := i * ty.width) h2 hp hr' (fun k hk => by
          rw [List.getElem?_take, if_pos (by simp at hk; omega)]; simp)
        exact ⟨sv, u, h, by simpa [Instr.loadAt, Instr.sureAddr] using hu1, hu2⟩
      · exact h.elim
    · rename_i et e2 ty l g i0 k n hh
      split at h
      case h_2 => exact h.elim
      rename_i c hc
      split at h
      case isFalse => exact h.elim
      rename_i hwd
      have := Nat.eq_of_beq_eq_true hwd
      subst this
      have hd0 := rowAt_dview hh
      simp only [SV.rel] at hv
      obtain ⟨b', C', bs', h1', rfl⟩ := hv
      split at h
      · rename_i hj
        have := Nat.eq_of_beq_eq_true hj
        subst this
        obtain ⟨hi, h⟩ := h
        obtain ⟨c', hc', ⟨h0, _⟩ | ⟨b, C, bs, vs, gb, h1, h2, h3, h4, h5, h6, hgb, _, i', v, h9, h10, h11⟩⟩ := hs.objs _ _ hd0
        · rw [h0] at h1'; cases h1'
        rw [hc] at hc'; injection hc' with hc'; subst hc'
        rw [h1] at h1'; injection h1' with h1'; injection h1' with e1 e2 e3; subst e1
        have : i' = i := by omega
        subst this
        have hlen := (List.getElem?_eq_some_iff.1 h10).1
        rw [colV_len] at hlen
        rw [colV_get hlen] at h10
        injection h10 with h10
        have hcj := col_lt hc
        have hlt : i' * ty.width + c.j < vs.toList.length := by
          have : (i' + 1) * ty.width ≤ C * ty.width := Nat.mul_le_mul_right _ (by omega)
          rw [Nat.add_mul] at this
          rw [Array.length_toList]; omega
        unfold fromCells at h
        split at h
        · rename_i sv hp
          obtain ⟨u, hu1, hu2⟩ := loadVar_cells (o := i' * ty.width + c.j) (hs.zone _ _ h2) hp (rels_cons h11 (by simp [SV.rels]) : SV.rels E.Z ρ [.sl k c.u.width 0 n] [v]) (fun m hm => by
            have hm0 : m = 0 := by simpa using hm
            subst hm0
            rw [← h10, List.getD_eq_getElem?_getD, List.getElem?_eq_getElem hlt]
            simp)
          exact ⟨sv, u, h, by simpa [Instr.loadAt, Instr.sureAddr] using hu1, hu2⟩
        · exact h.elim
      · obtain ⟨hi, h⟩ := h
        rcases dview_row hs hd0 with ⟨h0, _⟩ | ⟨b, C, bs, vs, h1, h2, h3, h4, h5, h6⟩
        · rw [h0] at h1'; cases h1'
        rw [h1] at h1'; injection h1' with h1'; injection h1' with e1 e2 e3; subst e1
        unfold fromCells at h
        split at h
        · rename_i sv hp
          have hr := h6 i hi
          rw [Nat.zero_add] at hr
          rw [show l.getD i ty.dflt = l[i] by simp [List.getD, hi]] at hp
          have hr' := (reads_iff (ρ := ρ)).1 hr
          obtain ⟨u, hu1, hu2⟩ := loadVar_cells (o := i * ty.width) h2 hp hr' (fun k hk => by
            rw [List.getElem?_take, if_pos (by simp at hk; omega)]; simp)
          exact ⟨sv, u, h, by simpa [Instr.loadAt, Instr.sureAddr] using hu1, hu2⟩
        · exact h.elim
    · rename_i et e2 ty A B k n D hh
      split at h
      case isFalse => exact h.elim
      rename_i hwd
      have := Nat.eq_of_beq_eq_true hwd
      subst this
      obtain ⟨hi, h⟩ := h
      subst hi
      simp only [SV.rel] at hv
      obtain ⟨b', C', bs', h1', rfl⟩ := hv
      rcases hs.objs _ _ (rowAt_lists hh) with ⟨h0, _⟩ | ⟨b, C, ps, ds, vs, ua, ub, ux, ud, rest, h1, h2, h3, h4, h5, h6, h7, h8, h9, ⟨v, h10, h11⟩, h12⟩
      · rw [h0] at h1'; cases h1'
      rw [h1] at h1'; injection h1' with h1'; injection h1' with e1 e2 e3; subst e1
      unfold fromCells at h
      split at h
      · rename_i sv hp
        have hlb := apart_length h9
        obtain ⟨u, hu1, hu2⟩ := loadVar_cells (o := (A.length + B.length) * 1) h2 hp (rels_cons h11 (by simp [SV.rels]) : SV.rels E.Z ρ [.sl k ty.width 0 n] [v]) (fun m hm => by
          have hm0 : m = 0 := by simpa using hm
          subst hm0
          have e : vs.toList[A.length + B.length]? = some v := by
            rw [h6, h10, ← h7, ← hlb, ← List.append_assoc, List.getElem?_append_right (by simp)]
            simp
          simpa using e)
        exact ⟨sv, u, h, by simpa [Instr.loadAt, Instr.sureAddr] using hu1, hu2⟩
      · exact h.elim
    · exact h.elim
  · rename_i ty l i j
    obtain ⟨hi, h⟩ := h
    simp only [SV.rel] at hv
    obtain ⟨b, o, arr, et, fz, rfl, hz, hl⟩ := hv
    unfold fromCells at h
    split at h
    · rename_i sv hp
      have hr := hl i hi
      rw [show l.getD i ty.dflt = l[i] by simp [List.getD, hi]] at hp
      have hr' := (reads_iff (ρ := ρ)).1 hr
      obtain ⟨u, hu1, hu2⟩ := loadVar_cells (o := o + i * ty.width) (hs.zone _ _ hz) hp hr' (fun k hk => by
          rw [List.getElem?_take, if_pos (by simp at hk; omega)]; simp)
      exact ⟨sv, u, h, by simpa [Instr.loadAt, Instr.sureAddr] using hu1, hu2⟩
    · exact h.elim
  · exact h.elim
end bin
end Sx
