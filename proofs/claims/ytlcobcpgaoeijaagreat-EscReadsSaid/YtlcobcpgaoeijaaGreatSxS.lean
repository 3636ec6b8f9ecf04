/- Arguments that read as data, in symbols. -/
import Derived.Test.YtlcobcpgaoeijaaGreatSxR
import Derived.ProofKit
import Derived.OpenShut
set_option linter.unusedVariables false
set_option linter.unusedSimpArgs false
namespace Sx
open Go
theorem bytes_beq (a b : ByteArray) : (a == b) = true ↔ a = b := by
  cases a with | mk d => cases b with | mk e =>
  have h : (ByteArray.mk d == ByteArray.mk e) = (d == e) := rfl
  rw [h, beq_iff_eq]; constructor
  · rintro rfl; rfl
  · intro h; injection h
theorem bytes_self (a : ByteArray) : (a == a) = true := (bytes_beq a a).2 rfl
variable {P : Program} {w : World}
def Ty.wf : (t : Ty) → t.den → Prop
  | .int k, n => (Lit.int k n).wf = true
  | .bool, _ => True
  | .str, s => s.size ≤ maxLen
  | .unit, _ => True
  | .pair a b, x => a.wf x.1 ∧ b.wf x.2
  | .imm t, l => l.length ≤ maxLen ∧ ∀ x ∈ l, t.wf x
  | .opt t, x => match x with
    | none => True
    | some d => t.wf d
def laidF (P : Program) (f : TypeId → Bool) (wd : TypeId → Nat) : Nat → List Field → Bool
  | _, [] => true
  | off, x :: r => Nat.beq x.offset off && f x.type && Nat.beq (P.cellsOf x.type) (wd x.type) && laidF P f wd (off + wd x.type) r
def widthOf (P : Program) (n : Nat) (t : TypeId) : Nat := match tyOf P n t with
  | some ty => ty.width
  | none => 0
def tidy (P : Program) : Nat → TypeId → Bool
  | 0, _ => false
  | n + 1, t => match P.underlying t with
    | some (.slice e) => tidy P n e && Nat.beq (P.cellsOf e) (widthOf P n e) && Nat.blt 0 (widthOf P n e)
    | some (.struct fs) => laidF P (tidy P n) (widthOf P n) 0 fs.toList && Nat.beq (P.cellsOf t) (widthOf P (n + 1) t)
    | _ => true
def zoneOf (w : World) : Zone := fun b => w.heap[b]?
theorem getElem?_lt {α : Type} {l : List α} {i : Nat} {x : α} (h : l[i]? = some x) : i < l.length := by
  rcases Nat.lt_or_ge i l.length with h1 | h1
  · exact h1
  · rw [List.getElem?_eq_none h1] at h; cases h
theorem mapM_cells : ∀ {n : Nat} {f : Nat → Option Value} {cs : List Value}, (List.range n).mapM f = some cs → cs.length = n ∧ ∀ i, i < n → f i = cs[i]? := by
  intro n f
  suffices h : ∀ (l : List Nat) (cs : List Value), l.mapM f = some cs → cs.length = l.length ∧ ∀ i (hi : i < l.length), f l[i] = cs[i]? by
    intro cs hcs
    obtain ⟨h1, h2⟩ := h _ _ hcs
    simp at h1
    exact ⟨h1, fun i hi => by have := h2 i (by simpa using hi); rwa [List.getElem_range] at this⟩
  intro l
  induction l with
  | nil => intro cs h; simp at h; subst h; exact ⟨rfl, fun i hi => by simp at hi⟩
  | cons x l ih =>
    intro cs h
    simp only [List.mapM_cons] at h
    cases hx : f x with
    | none => rw [hx] at h; simp at h
    | some v =>
      rw [hx] at h
      cases hl : l.mapM f with
      | none => rw [hl] at h; simp at h
      | some r =>
        rw [hl] at h
        simp at h; subst h
        obtain ⟨h1, h2⟩ := ih r hl
        refine ⟨by simp [h1], fun i hi => ?_⟩
        cases i with
        | zero => simpa using hx
        | succ i => simpa using h2 i (by simpa using hi)
section
variable {HH : Type} {enc : TypeId × Value → HH} {base : Nat} {spare : Nat → Bool} {held : Bool}
theorem cells?_at {a : Addr} {n : Nat} {cs : List Value} (h : w.cells? base a n = some cs) (hn : 0 < n) : ∃ arr et fz, a.spot = none ∧ w.heap[a.block]? = some (.cells arr et fz) ∧ cs = (arr.toList.drop a.off).take n ∧ cs.length = n := by
  unfold World.cells? at h
  split at h
  · obtain ⟨h1, h2⟩ := mapM_cells h
    have h0 := h2 0 hn
    have hc : ∃ v, w.cell? (a.add 0) = some v := by
      rw [h0]
      exact ⟨cs[0]'(by omega), List.getElem?_eq_getElem _⟩
    obtain ⟨v, hv⟩ := hc
    have hsp : a.spot = none := by
      have := World.cell?_spot hv
      simpa [Addr.add] using this
    obtain ⟨b, o, sp⟩ := a
    simp only at hsp; subst hsp
    rw [add_lit] at hv
    unfold World.cell? at hv
    simp only at hv
    split at hv
    · rename_i arr et fz hb
      refine ⟨arr, et, fz, rfl, hb, ?_, h1⟩
      apply List.ext_getElem?
      intro i
      by_cases hi : i < n
      · rw [← h2 i hi, add_lit]
        simp [World.cell?, hb, hi]
      · rw [List.getElem?_eq_none (by omega), List.getElem?_eq_none (by simp; omega)]
    · cases hv
  · cases h
theorem reads_struct {n : Nat} {spare : Nat → Bool} {held : Bool} {fuel : Nat} (ih : ∀ (t : TypeId) (ty : Ty) (cs : List Value) (x : DataW HH × List MemPlace), tyOf P n t = some ty → tidy P n t = true → DataW.trod enc P w base spare held fuel t cs = some x →
      ∃ d : ty.den, ty.reads (zoneOf w) d cs ∧ ty.wf d) :
    ∀ (fs : List Field) (off : Nat) (ty : Ty) (cs : List Value) (xs : List (DataW HH × List MemPlace)),
      fs.foldr (fun f r => joinTy (tyOf P n f.type) r) (some .unit) = some ty → laidF P (tidy P n) (widthOf P n) off fs = true → off + ty.width = cs.length → xs.length = fs.length →
      (∀ (i : Nat) (f : Field), fs[i]? = some f → DataW.trod enc P w base spare held fuel f.type ((cs.drop f.offset).take (P.cellsOf f.type)) = xs[i]?) →
      ∃ d : ty.den, ty.reads (zoneOf w) d (cs.drop off) ∧ ty.wf d
  | [], off, ty, cs, xs, ht, _, hlen, _, _ => by
    simp only [List.foldr_nil, Option.some.injEq] at ht; subst ht
    simp only [Ty.width] at hlen
    exact ⟨(), by simp only [Ty.reads]; exact List.drop_eq_nil_of_le (by omega), trivial⟩
  | f :: fs, off, ty, cs, [], ht, hl, hlen, hxs, hall => by simp at hxs
  | f :: fs, off, ty, cs, x :: xs, ht, hl, hlen, hxs, hall => by
    simp only [laidF, Bool.and_eq_true] at hl
    obtain ⟨⟨⟨ho, htd⟩, hw⟩, hl⟩ := hl
    have ho := Nat.eq_of_beq_eq_true ho
    have hw := Nat.eq_of_beq_eq_true hw
    simp only [List.foldr_cons] at ht
    generalize hr : fs.foldr (fun f r => joinTy (tyOf P n f.type) r) (some .unit) = r at ht
    have h0 := hall 0 f rfl
    simp only [List.getElem?_cons_zero] at h0
    rw [ho, hw] at h0
    have hrest : ∀ (i : Nat) (g : Field), fs[i]? = some g → DataW.trod enc P w base spare held fuel g.type ((cs.drop g.offset).take (P.cellsOf g.type)) = xs[i]? := fun i g hg => by
      have := hall (i + 1) g (by simpa using hg)
      simpa using this
    unfold joinTy at ht
    split at ht
    · rename_i a hta
      injection ht with ht; subst ht
      have hwd : widthOf P n f.type = a.width := by simp [widthOf, hta]
      rw [hwd] at h0 hl
      obtain ⟨d, h1, h2⟩ := ih _ _ _ _ hta htd h0
      rw [List.take_of_length_le (by simp; omega)] at h1
      exact ⟨d, h1, h2⟩
    · rename_i a b hne hta
      injection ht with ht; subst ht
      have hwd : widthOf P n f.type = a.width := by simp [widthOf, hta]
      rw [hwd] at h0 hl
      simp only [Ty.width] at hlen
      obtain ⟨d, h1, h2⟩ := ih _ _ _ _ hta htd h0
      obtain ⟨d', h3, h4⟩ := reads_struct ih fs (off + a.width) b cs xs hr hl (by omega) (by simpa using hxs) hrest
      refine ⟨(d, d'), ?_, h2, h4⟩
      simp only [Ty.reads]
      refine ⟨_, _, ?_, h1, h3⟩
      rw [← List.drop_drop, List.take_append_drop]
    · cases ht
theorem trod_reads {spare : Nat → Bool} {held : Bool} : ∀ (n : Nat) (t : TypeId) (ty : Ty) (fuel : Nat) (cs : List Value) (x : DataW HH × List MemPlace), tyOf P n t = some ty → tidy P n t = true → DataW.trod enc P w base spare held fuel t cs = some x →
    ∃ d : ty.den, ty.reads (zoneOf w) d cs ∧ ty.wf d
  | 0, t, ty, fuel, cs, x, ht, _, _ => by simp [tyOf] at ht
  | n + 1, t, ty, fuel, cs, x, ht, hd, h => by
    simp only [tyOf] at ht
    simp only [tidy] at hd
    split at ht
    · rename_i k hu
      injection ht with ht; subst ht
      obtain ⟨m, rfl, _, hw⟩ := DataW.trod_int hu h
      exact ⟨m, by simp [Ty.reads], hw⟩
    · rename_i hu
      injection ht with ht; subst ht
      obtain ⟨b, rfl, _⟩ := DataW.trod_bool hu h
      exact ⟨b, by simp [Ty.reads], trivial⟩
    · rename_i hu
      injection ht with ht; subst ht
      obtain ⟨s, rfl, _, hs⟩ := DataW.trod_string hu h
      exact ⟨s, by simp [Ty.reads], hs⟩
    · rename_i e hu
      rw [hu] at hd
      simp only [Bool.and_eq_true] at hd
      cases hte : tyOf P n e with
      | none => rw [hte] at ht; cases ht
      | some te =>
        rw [hte] at ht
        injection ht with ht; subst ht
        have hwe : P.cellsOf e = te.width := by rw [Nat.eq_of_beq_eq_true hd.1.2]; simp [widthOf, hte]
        have hpos : 0 < te.width := by
          have := Nat.le_of_ble_eq_true hd.2
          simp only [widthOf, hte] at this
          exact this
        rcases DataW.trod_slice hu h with ⟨rfl, _⟩ | ⟨a, len, cap, elems, rest, m, _, rfl, _, hb, hle, hm, hlen, hel, _, _⟩
        · exact ⟨[], by simp only [Ty.reads]; exact ⟨_, rfl, .inl (by simp)⟩, by simp [Ty.wf]⟩
        · rcases Nat.eq_zero_or_pos len with h0 | h0
          · subst h0
            exact ⟨[], by simp only [Ty.reads]; exact ⟨_, rfl, .inr (.inr ⟨trivial, _, _, rfl⟩)⟩, by simp [Ty.wf]⟩
          · have each : ∀ i, i < len → ∃ (cs : List Value) (d : te.den), w.cells? base (a.add (i * te.width)) te.width = some cs ∧ te.reads (zoneOf w) d cs ∧ te.wf d := fun i hi => by
              have h1 := hel i hi
              rw [hwe] at h1
              have : ∃ y, elems[i]? = some y := ⟨_, List.getElem?_eq_getElem (by omega)⟩
              obtain ⟨y, hy⟩ := this
              rw [hy] at h1
              cases hc : w.cells? base (a.add (i * te.width)) te.width with
              | none => rw [hc] at h1; cases h1
              | some cs =>
                rw [hc] at h1
                obtain ⟨d, g1, g2⟩ := trod_reads n e te _ _ _ hte hd.1.1 h1
                exact ⟨cs, d, rfl, g1, g2⟩
            obtain ⟨b, o, sp⟩ := a
            have hsp : sp = none := by
              obtain ⟨cs, d, g1, _⟩ := each 0 h0
              obtain ⟨_, _, _, g3, _⟩ := cells?_at g1 hpos
              simpa [Addr.add] using g3
            subst hsp
            have hblk : ∃ arr et fz, w.heap[b]? = some (.cells arr et fz) ∧ ∀ i, i < len → ∃ d : te.den, te.reads (zoneOf w) d ((arr.toList.drop (o + i * te.width)).take te.width) ∧ te.wf d := by
              obtain ⟨cs, d, g1, _⟩ := each 0 h0
              obtain ⟨arr, et, fz, _, g4, _⟩ := cells?_at g1 hpos
              rw [add_lit] at g4
              refine ⟨arr, et, fz, g4, fun i hi => ?_⟩
              obtain ⟨cs, d, g1, g2, g3⟩ := each i hi
              obtain ⟨arr', et', fz', _, g4', g5, _⟩ := cells?_at g1 hpos
              rw [add_lit] at g4' g5
              simp only at g4' g5 g4
              rw [g4] at g4'; injection g4' with g4'; injection g4' with e1 e2 e3; subst e1
              subst g5
              exact ⟨d, g2, g3⟩
            obtain ⟨arr, et, fz, hb', hd'⟩ := hblk
            refine ⟨List.ofFn fun i : Fin len => Classical.choose (hd' i.1 i.2), ?_, ?_⟩
            · simp only [Ty.reads]
              refine ⟨_, rfl, .inr (.inl ⟨b, o, cap, arr, et, fz, by simp, by simpa using hle, hb', fun i hi => ?_⟩)⟩
              have hi' : i < len := by simpa using hi
              simp only [List.getElem_ofFn]
              exact (Classical.choose_spec (hd' i hi')).1
            · simp only [Ty.wf, List.length_ofFn]
              refine ⟨by omega, fun x hx => ?_⟩
              rw [List.mem_ofFn] at hx
              obtain ⟨i, rfl⟩ := hx
              exact (Classical.choose_spec (hd' i.1 i.2)).2
    · rename_i fs hu
      rw [hu] at hd
      simp only [Bool.and_eq_true] at hd
      obtain ⟨xs, m, rfl, _, hlen, hxs, hall⟩ := DataW.trod_struct hu h
      have hw : P.cellsOf t = ty.width := by rw [Nat.eq_of_beq_eq_true hd.2]; simp [widthOf, tyOf, hu, ht]
      have := reads_struct (fun t ty cs x => trod_reads n t ty m cs x) fs.toList 0 ty cs xs ht hd.1 (by omega) (by simpa using hxs) (fun i f hf => hall i f (by simpa using hf))
      simpa using this
    · cases ht
end
end Sx
