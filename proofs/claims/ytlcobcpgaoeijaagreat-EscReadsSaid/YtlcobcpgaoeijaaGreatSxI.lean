/- Appends: the operation. -/
import Derived.Test.YtlcobcpgaoeijaaGreatSxH
set_option linter.unusedVariables false
set_option linter.unusedSimpArgs false
namespace Sx
open Go
variable {P : Program} {E : Env} {ρ : Map} {S : Slots} {H : Heap} {a : Act} {w w' : World} {Z : Zone}
def Small (n m bytes : Nat) : Prop := ((n + m : Nat) : Int) ≤ 9223372036854775807 ∧ (n + m) * bytes ≤ 140737488355328
def bytesOf (P : Program) (e : TypeId) : Nat := match P.info? e with
  | some i => i.bytes
  | none => 0
def Ty.firm : Ty → Bool
  | .opt _ => false
  | .pair a b => a.firm && b.firm
  | _ => true
theorem firm_one : ∀ {t : Ty} {x : t.den}, t.firm = true → (t.cells x).all SV.one = true
  | .int _, _, _ => rfl
  | .bool, _, _ => rfl
  | .str, _, _ => rfl
  | .unit, _, _ => rfl
  | .imm _, _, _ => rfl
  | .pair a b, x, h => by
    simp only [Ty.firm, Bool.and_eq_true] at h
    simp only [Ty.cells, List.all_append, firm_one h.1, firm_one h.2]; rfl
  | .opt _, _, h => by cases h
def rowB (P : Program) (e : TypeId) (ty : Ty) : Bool := szIs P e ty.width && Nat.blt 0 ty.width && ty.firm && (match zeros P e with
  | some z => Nat.beq z.length ty.width
  | none => false)
def srcB (P : Program) (u : TypeId) (x : SV) : Bool := match P.underlying u, x with
  | some (.slice _), .lit (.slice _ _ _) => true
  | some (.slice _), .sl _ _ _ _ => true
  | some (.slice _), .imm _ _ => true
  | some .string, .lit (.string _) => true
  | _, _ => false
def xappend (P : Program) (H : Heap) (t u : TypeId) (s x : SV) : Tree (SV × Heap) := match P.underlying t with
  | some (.slice e) => if srcB P u x then match s with
    | .lit (.slice none 0 0) => match tyOf P 6 e with
      | some ty => if rowB P e ty then (xelems H ty x).bind fun M => .need (Small 0 M.length (bytesOf P e)) (.ret (.sl H.length ty.width 0 M.length, H ++ [.row e ty M])) else .fail
      | none => .fail
    | .sl h wd 0 len => match H[h]? with
      | some (.row et ty L) => if Nat.beq et e && Nat.beq wd ty.width && rowB P e ty then (xelems H ty x).bind fun M =>
          .ite (decide (len + M.length ≤ L.length)) (.ret (.sl h wd 0 (len + M.length), H.set h (.row et ty (L.take len ++ M ++ L.drop (len + M.length)))))
          (.need (len ≤ L.length) (.need (Small len M.length (bytesOf P e)) (.ret (.sl H.length wd 0 (len + M.length), H.set h .dead ++ [.row e ty (L.take len ++ M)])))) else .fail
      | _ => .fail
    | _ => .fail
    else .fail
  | _ => .fail
def xappendX (P : Program) (H : Heap) (t u : TypeId) (s x : SV) : Tree (SV × Heap) := match P.underlying t with
  | some (.slice e) => if srcB P u x then match s with
    | .lit (.slice none 0 0) => match tyOf P 6 e with
      | some ty => if rowB P e ty then (xelems H ty x).bind fun M => .need (Small 0 M.length (bytesOf P e)) (.ret (.sl H.length ty.width 0 M.length, H ++ [.row e ty M])) else .fail
      | none => .fail
    | .sl h wd 0 len => match H[h]? with
      | some (.row et ty L) => if Nat.beq et e && Nat.beq wd ty.width && rowB P e ty then (xelems H ty x).bind fun M =>
          if M.isEmpty then .fail else .need (len = L.length) (.need (Small len M.length (bytesOf P e)) (.ret (.sl H.length wd 0 (len + M.length), H.set h .dead ++ [.row e ty (L ++ M)]))) else .fail
      | _ => .fail
    | _ => .fail
    else .fail
  | _ => .fail
theorem xappendX_leads {H : Heap} {t u : TypeId} {s x : SV} {Q : SV × Heap → Prop} (h : (xappendX P H t u s x).Leads Q) : (xappend P H t u s x).Leads Q := by
  unfold xappendX at h
  split at h
  case h_2 => exact h.elim
  rename_i e hu
  split at h
  case isFalse => exact h.elim
  rename_i hsrc
  split at h
  · simp only [xappend, hu, if_pos hsrc]; exact h
  · rename_i hd wd len
    split at h
    case h_2 => exact h.elim
    rename_i et ty L hH
    simp only [xappend, hu, if_pos hsrc, hH]
    split at h
    case isFalse => exact h.elim
    rename_i hb
    rw [if_pos hb]
    rw [Tree.leads_bind] at h ⊢
    refine Tree.leads_mono (fun M hM => ?_) h
    split at hM
    · exact hM.elim
    · rename_i hne
      have hpos : 0 < M.length := by
        cases M with
        | nil => exact absurd rfl hne
        | cons m r => simp
      obtain ⟨hlen, hsm, hq⟩ := hM
      subst hlen
      refine br_intro (fun g => absurd (of_decide_eq_true g) (by omega)) (fun _ => ⟨Nat.le_refl _, hsm, ?_⟩)
      rw [List.take_length]; exact hq
  · exact h.elim
def xappendE (P : Program) (H : Heap) (t u : TypeId) (s x : SV) : Tree (SV × Heap) := match P.underlying t with
  | some (.slice e) => if srcB P u x then match s with
    | .lit (.slice none 0 0) => match tyOf P 6 e with
      | some ty => if rowB P e ty then (xelems H ty x).bind fun M => .need (Small 0 M.length (bytesOf P e)) (.ret (.sl H.length ty.width 0 M.length, H ++ [.row e ty M])) else .fail
      | none => .fail
    | .sl h wd 0 len => match H[h]? with
      | some (.row et ty L) => if Nat.beq et e && Nat.beq wd ty.width && rowB P e ty then (xelems H ty x).bind fun M =>
          .need (len = L.length ∧ 0 < M.length) (.need (Small len M.length (bytesOf P e)) (.ret (.sl H.length wd 0 (len + M.length), H.set h .dead ++ [.row e ty (L ++ M)]))) else .fail
      | _ => .fail
    | _ => .fail
    else .fail
  | _ => .fail
theorem xappendE_leads {H : Heap} {t u : TypeId} {s x : SV} {Q : SV × Heap → Prop} (h : (xappendE P H t u s x).Leads Q) : (xappend P H t u s x).Leads Q := by
  unfold xappendE at h
  split at h
  case h_2 => exact h.elim
  rename_i e hu
  split at h
  case isFalse => exact h.elim
  rename_i hsrc
  split at h
  · simp only [xappend, hu, if_pos hsrc]; exact h
  · rename_i hd wd len
    split at h
    case h_2 => exact h.elim
    rename_i et ty L hH
    simp only [xappend, hu, if_pos hsrc, hH]
    split at h
    case isFalse => exact h.elim
    rename_i hb
    rw [if_pos hb]
    rw [Tree.leads_bind] at h ⊢
    refine Tree.leads_mono (fun M hM => ?_) h
    obtain ⟨⟨hlen, hpos⟩, hsm, hq⟩ := hM
    subst hlen
    refine br_intro (fun g => absurd (of_decide_eq_true g) (by omega)) (fun _ => ⟨Nat.le_refl _, hsm, ?_⟩)
    rw [List.take_length]; exact hq
  · exact h.elim
def xappendG (P : Program) (H : Heap) (t u : TypeId) (s x : SV) : Tree (SV × Heap) := match P.underlying t with
  | some (.slice e) => if srcB P u x then match s with
    | .lit (.slice none 0 0) => match tyOf P 6 e with
      | some ty => if rowB P e ty then (xelems H ty x).bind fun M => .need (Small 0 M.length (bytesOf P e)) (.ret (.sl H.length ty.width 0 M.length, H ++ [.row e ty M])) else .fail
      | none => .fail
    | .sl h wd 0 len => match H[h]? with
      | some (.row et ty L) => if Nat.beq et e && Nat.beq wd ty.width && rowB P e ty then (xelems H ty x).bind fun M =>
          .need (len = L.length) (.ite (decide (M.length = 0)) (.ret (.sl h wd 0 len, H)) (.need (Small len M.length (bytesOf P e)) (.ret (.sl H.length wd 0 (len + M.length), H.set h .dead ++ [.row e ty (L ++ M)])))) else .fail
      | _ => .fail
    | _ => .fail
    else .fail
  | _ => .fail
theorem xappendG_leads {H : Heap} {t u : TypeId} {s x : SV} {Q : SV × Heap → Prop} (h : (xappendG P H t u s x).Leads Q) : (xappend P H t u s x).Leads Q := by
  unfold xappendG at h
  split at h
  case h_2 => exact h.elim
  rename_i e hu
  split at h
  case isFalse => exact h.elim
  rename_i hsrc
  split at h
  · simp only [xappend, hu, if_pos hsrc]; exact h
  · rename_i hd wd len
    split at h
    case h_2 => exact h.elim
    rename_i et ty L hH
    simp only [xappend, hu, if_pos hsrc, hH]
    split at h
    case isFalse => exact h.elim
    rename_i hb
    rw [if_pos hb]
    rw [Tree.leads_bind] at h ⊢
    refine Tree.leads_mono (fun M hM => ?_) h
    obtain ⟨hlen, hq⟩ := hM
    subst hlen
    have hq := br_iff.1 hq
    refine br_intro (fun g => ?_) (fun g => ?_)
    · have g := of_decide_eq_true g
      have h0 : M.length = 0 := by omega
      have hM : M = [] := List.length_eq_zero_iff.1 h0
      have h1 := hq.1 (decide_eq_true h0)
      subst hM
      have e1 : H.set hd (.row et ty (L.take L.length ++ [] ++ L.drop (L.length + ([] : List ty.den).length))) = H := by
        have : L.take L.length ++ [] ++ L.drop (L.length + ([] : List ty.den).length) = L := by simp
        rw [this]
        obtain ⟨hlt, hget⟩ := List.getElem?_eq_some_iff.1 hH
        rw [← hget]; exact List.set_getElem_self hlt
      show Q (_, _)
      rw [e1]; exact h1
    · have g := of_decide_eq_false g
      have h1 := hq.2 (decide_eq_false (by omega))
      refine ⟨Nat.le_refl _, h1.1, ?_⟩
      rw [List.take_length]; exact h1.2
  · exact h.elim
theorem rowB_firm {e : TypeId} {ty : Ty} (h : rowB P e ty = true) : ty.firm = true := by
  unfold rowB at h
  simp only [Bool.and_eq_true] at h
  exact h.1.2
theorem rowB_facts {e : TypeId} {ty : Ty} (h : rowB P e ty = true) : ∃ (i : TypeInfo) (z : Value), P.info? e = some i ∧ i.size = ty.width ∧ i.zero = some z ∧ z.cells.size = ty.width ∧ 0 < ty.width ∧ i.bytes = bytesOf P e := by
  unfold rowB at h
  simp only [Bool.and_eq_true] at h
  obtain ⟨⟨⟨h1, h2⟩, _⟩, h3⟩ := h
  have h2 : 0 < ty.width := Nat.lt_of_lt_of_le (Nat.zero_lt_succ 0) (Nat.le_of_ble_eq_true h2)
  unfold szIs at h1
  split at h1
  · rename_i i hi
    have h1 := Nat.eq_of_beq_eq_true h1
    unfold zeros at h3
    rw [hi] at h3
    dsimp only at h3
    split at h3
    · rename_i z hz
      split at hz
      · rename_i v hv
        injection hz with hz; subst hz
        have h3 := Nat.eq_of_beq_eq_true h3
        exact ⟨i, v, hi, h1, hv, by simpa using h3, h2, by simp [bytesOf, hi]⟩
      · cases hz
    · cases h3
  · cases h1
theorem srcB_facts {u : TypeId} {x : SV} (h : srcB P u x = true) : ∃ d, P.underlying u = some d ∧ ∀ k, d ≠ .int k := by
  unfold srcB at h
  split at h
  all_goals first | (rename_i hu; exact ⟨_, hu, fun k e => by cases e⟩) | cases h
section run
variable {t u ty e : TypeId} {i : TypeInfo} {z : Value} {d : TypeDesc} {n cap m : Nat} {base : Option Addr} {x : Value} {news : List Value}
variable (ht : P.underlying t = some (.slice e)) (hu : P.underlying u = some d) (hd : ∀ k, d ≠ .int k) (hi : P.info? e = some i) (hz : i.zero = some z)
include ht hu hd hi
theorem run_append_fits0 (hsrc : Source P w i.size x m news) (hfit : n + m ≤ cap) (hb : base = none ∨ news = []) :
    (Builtin.append_ #[t, u] ty #[.slice base n cap, x]).run P w = .ok (.slice base (n + m) cap) w := by
  obtain ⟨h1, h2, h3, h4⟩ := hsrc
  cases base with
  | none => simp [Builtin.append_, run_underlying ht, run_underlying hu, Go.sizeOf, typeInfo, hi, h1, h3, hfit]
  | some ad =>
    rcases hb with hb | hb
    · cases hb
    · subst hb
      simp [Builtin.append_, run_underlying ht, run_underlying hu, Go.sizeOf, typeInfo, hi, h1, h3, hfit, storeCells]
theorem run_append_fits1 {b : Nat} {cur : Array Value} (hsrc : Source P w i.size x m news) (hfit : n + m ≤ cap) (hg : w.heap[b]? = some (.cells cur e (0, 0)))
    (hlen : n * i.size + news.length ≤ cur.size) (h1c : ∀ v ∈ news, v.oneCell' = true) :
    (Builtin.append_ #[t, u] ty #[.slice (some ⟨b, 0, none⟩) n cap, x]).run P w =
      .ok (.slice (some ⟨b, 0, none⟩) (n + m) cap) (w.setRow b (cur.toList.take (n * i.size) ++ news ++ cur.toList.drop (n * i.size + news.length)).toArray) := by
  obtain ⟨h1, h2, h3, h4⟩ := hsrc
  have hst := run_storeCells_at P b (n * i.size) e news 0 cur w hg (by simpa using hlen) h1c
  simp only [Nat.add_zero] at hst
  simp [Builtin.append_, run_underlying ht, run_underlying hu, Go.sizeOf, typeInfo, hi, h1, h3, hfit, add_lit, hst]
include hz in
theorem run_append_grows1 {olds : List Value} (hsrc : Source P w i.size x m news) (hgrow : cap < n + m) (h63 : ((n + m : Nat) : Int) ≤ 9223372036854775807) (hby : (n + m) * i.bytes ≤ 140737488355328)
    (hold : (Builtin.firstCells i.size n (.slice base n cap)).run P w.drew = .ok olds.toArray w.drew) :
    (Builtin.append_ #[t, u] ty #[.slice base n cap, x]).run P w =
      .ok (.slice (some ⟨w.heap.size, 0, none⟩) (n + m) (grownCap w (n + m) cap e))
        (w.drew.alloc (.cells (olds.toArray ++ news.toArray ++ Builtin.zeroCells z.cells (grownCap w (n + m) cap e - (n + m))) e)) := by
  obtain ⟨h1, h2, h3, h4⟩ := hsrc
  have hn : ¬ (n + m ≤ cap) := by omega
  have h63' : ¬ (9223372036854775807 < ((n : Int) + (m : Int))) := by omega
  have h48' : ¬ (281474976710656 < Builtin.nextslicecap (n + m) cap * i.bytes) := by have := growslice_fits hgrow hby; omega
  simp [Builtin.append_, run_underlying ht, run_underlying hu, Go.sizeOf, typeInfo, zeroValue, hi, hz, h1, hn, h63', h48', Question.forced, hold, h4, newRow, grownCap]
  congr 2
  apply Array.ext'
  simp [List.append_assoc]
end run
theorem lies_snoc {t : Ty} {l l' : List t.den} {vs vs' : List Value} (r : List Value) (h : t.lies Z l vs 0) (h' : t.lies Z l' vs' 0) (hl : vs.length = l.length * t.width) (hl' : vs'.length = l'.length * t.width) :
    t.lies Z (l ++ l') (vs ++ vs' ++ r) 0 := fun i hi => by
  rw [Nat.zero_add]
  by_cases e : i < l.length
  · have h1 := h i e
    rw [Nat.zero_add] at h1
    have hm : i * t.width + t.width ≤ l.length * t.width := by
      have : (i + 1) * t.width ≤ l.length * t.width := Nat.mul_le_mul_right _ e
      rw [Nat.add_mul] at this; omega
    rw [List.append_assoc, List.drop_append_of_le_length (by omega), List.take_append_of_le_length (by simp; omega), List.getElem_append_left e]
    exact h1
  · have hi' : i - l.length < l'.length := by simp at hi; omega
    have h1 := h' (i - l.length) hi'
    rw [Nat.zero_add] at h1
    have hm : (i - l.length) * t.width + t.width ≤ l'.length * t.width := by
      have : (i - l.length + 1) * t.width ≤ l'.length * t.width := Nat.mul_le_mul_right _ hi'
      rw [Nat.add_mul] at this; omega
    have hi2 : i * t.width = vs.length + (i - l.length) * t.width := by
      rw [hl, ← Nat.add_mul]; congr 1; omega
    rw [hi2, ← List.drop_drop, List.append_assoc, List.drop_left, List.drop_append_of_le_length (by omega), List.take_append_of_le_length (by simp; omega), List.getElem_append_right (by omega)]
    exact h1
theorem Sat.drew (hs : Sat E ρ H w) : Sat E ρ H w.drew := ⟨hs.os, hs.tape, hs.output, hs.free, hs.objs, hs.inj, hs.zle, hs.keep, hs.apart, hs.fresh, hs.old⟩
theorem not_claimed_nil {k : Nat} : ¬ claimed (some .nil) k := fun ⟨_, _, _, h, _⟩ => by injection h with h; cases h
theorem Sat.allocNil' {ob : SO} (hs : Sat E ρ H w) (hob : SO.rel E.Z (ρ.put H.length .nil) w H.length ob) : Sat E (ρ.put H.length .nil) (H ++ [ob]) w := by
  have hle := Map.le_put (x := .nil) (hs.free _ (Nat.le_refl _))
  have hget : ∀ h (o : SO), (H ++ [ob])[h]? = some o → (h < H.length ∧ H[h]? = some o) ∨ (h = H.length ∧ o = ob) := fun h o ho => by
    rw [List.getElem?_append] at ho
    split at ho
    · exact .inl ⟨by assumption, ho⟩
    · have hh : h = H.length := by
        rcases Nat.lt_or_ge H.length h with h1 | h1
        · rw [List.getElem?_eq_none (by simp; omega)] at ho; cases ho
        · omega
      subst hh; simp at ho; exact .inr ⟨rfl, ho.symm⟩
  refine ⟨hs.os, hs.tape, hs.output, ?_, ?_, ?_, hs.zle, hs.keep, ?_, ?_, hs.old⟩
  · intro h hh
    simp at hh
    rw [put_ne (by omega)]; exact hs.free _ (by omega)
  · intro h o ho
    rcases hget h o ho with ⟨h1, h2⟩ | ⟨rfl, rfl⟩
    · exact SO.rel_keep (hs.objs _ _ h2) hle (fun b _ x hx => hx)
    · exact hob
  · intro h h' o o' b ho ho' hl hl' hb hb'
    rcases hget h o ho with ⟨h1, h2⟩ | ⟨rfl, rfl⟩
    · rw [put_ne (by omega)] at hb
      rcases hget h' o' ho' with ⟨h1', h2'⟩ | ⟨rfl, rfl⟩
      · rw [put_ne (by omega)] at hb'
        exact hs.inj _ _ _ _ _ h2 h2' hl hl' hb hb'
      · rw [Map.put_same] at hb'; exact absurd hb' not_claimed_nil
    · rw [Map.put_same] at hb; exact absurd hb not_claimed_nil
  · intro h o b ho hl hb
    rcases hget h o ho with ⟨h1, h2⟩ | ⟨rfl, rfl⟩
    · rw [put_ne (by omega)] at hb
      exact hs.apart _ _ _ h2 hl hb
    · rw [Map.put_same] at hb; exact absurd (SO.owned_claimed hb) not_claimed_nil
  · intro h o b ho hl hb
    rcases hget h o ho with ⟨h1, h2⟩ | ⟨rfl, rfl⟩
    · rw [put_ne (by omega)] at hb
      exact hs.fresh _ _ _ h2 hl hb
    · rw [Map.put_same] at hb; exact absurd hb not_claimed_nil
theorem Sat.allocNil {e : TypeId} {ty : Ty} (hs : Sat E ρ H w) : Sat E (ρ.put H.length .nil) (H ++ [.row e ty []]) w := hs.allocNil' (.inl ⟨Map.put_same _ _ _, rfl⟩)
theorem grown_row {e : TypeId} {ty : Ty} {l : List ty.den} {cells : List Value} {z : Value} {C h : Nat} (hz : z.cells.size = ty.width) (hl : ty.lies Z l cells 0) (hlen : cells.length = l.length * ty.width)
    (hC : l.length ≤ C) (hm : C ≤ maxLen) (hρ : ρ h = some (.at w.heap.size C [])) :
    SO.rel Z ρ (w.drew.alloc (.cells (cells.toArray ++ Builtin.zeroCells z.cells (C - l.length)) e)) h (.row e ty l) := by
  simp only [SO.rel]
  refine .inr ⟨w.heap.size, C, _, hρ, alloc_new w.drew _, ?_, hC, hm, ?_⟩
  · simp only [Array.size_append, List.size_toArray, size_zeroCells, hz, hlen, ← Nat.add_mul]
    congr 1; omega
  · have := lies_snoc (Z := Z) (Builtin.zeroCells z.cells (C - l.length)).toList hl (lies_nil (t := ty) (vs := []) (o := 0)) hlen (by simp)
    simpa using this
theorem getElem?_lt' {α : Type} {l : List α} {i : Nat} {x : α} (h : l[i]? = some x) : i < l.length := by
  rcases Nat.lt_or_ge i l.length with h1 | h1
  · exact h1
  · rw [List.getElem?_eq_none h1] at h; cases h
theorem lies_from {t : Ty} {l : List t.den} {vs : List Value} {o : Nat} (h : t.lies Z l vs o) : t.lies Z l (vs.drop o) 0 := fun i hi => by
  have := h i hi
  rw [List.drop_drop, Nat.zero_add]
  exact this
theorem lies_part {t : Ty} {l : List t.den} {vs : List Value} (h : t.lies Z l vs 0) (n : Nat) : t.lies Z (l.take n) ((vs.take (n * t.width))) 0 := fun i hi => by
  have hi' : i < n ∧ i < l.length := by rw [List.length_take] at hi; omega
  have h1 := h i hi'.2
  have hm : i * t.width + t.width ≤ n * t.width := by
    have : (i + 1) * t.width ≤ n * t.width := Nat.mul_le_mul_right _ hi'.1
    rw [Nat.add_mul] at this; omega
  rw [Nat.zero_add] at h1 ⊢
  rw [List.getElem_take, List.drop_take, List.take_take, Nat.min_eq_left (by omega)]
  exact h1
theorem lies_over {t : Ty} {L M : List t.den} {vs news : List Value} {n : Nat} (h : t.lies Z L vs 0) (h' : t.lies Z M news 0) (hn : n + M.length ≤ L.length) (hlen : L.length * t.width ≤ vs.length) (hl' : news.length = M.length * t.width) :
    t.lies Z (L.take n ++ M ++ L.drop (n + M.length)) (vs.take (n * t.width) ++ news ++ vs.drop (n * t.width + news.length)) 0 := by
  have hmul : (n + M.length) * t.width ≤ L.length * t.width := Nat.mul_le_mul_right _ hn
  have hnm : (n + M.length) * t.width = n * t.width + news.length := by rw [Nat.add_mul, hl']
  have h1 := lies_part h n
  have e1 : (vs.take (n * t.width)).length = (L.take n).length * t.width := by
    rw [List.length_take, List.length_take, Nat.min_eq_left (by omega), Nat.min_eq_left (by omega)]
  have h2 := lies_snoc (Z := Z) [] h1 h' e1 hl'
  rw [List.append_nil] at h2
  have h3 := lies_from (lies_drop h (n + M.length))
  rw [Nat.zero_add, hnm] at h3
  have h4 := lies_cells h3
  rw [List.drop_zero] at h4
  have e2 : (vs.take (n * t.width) ++ news).length = (L.take n ++ M).length * t.width := by
    rw [List.length_append, List.length_append, e1, hl', Nat.add_mul]
  have e3 : ((vs.drop (n * t.width + news.length)).take ((L.drop (n + M.length)).length * t.width)).length = (L.drop (n + M.length)).length * t.width := by
    rw [List.length_take, List.length_drop, List.length_drop, Nat.sub_mul, hnm]
    omega
  have h5 := lies_snoc (Z := Z) ((vs.drop (n * t.width + news.length)).drop ((L.drop (n + M.length)).length * t.width)) h2 h4 e2 e3
  rw [List.append_assoc (vs.take (n * t.width) ++ news), List.take_append_drop] at h5
  exact h5
theorem xappend_sound {t u ty0 : TypeId} {s x : SV} {vs vx : Value} {Q : SV × Heap → Prop} (hs : Sat E ρ H w) (hv : SV.rel E.Z ρ s vs) (hx : SV.rel E.Z ρ x vx)
    (h : (xappend P H t u s x).Leads Q) : ∃ sv H' v w' ρ', Q (sv, H') ∧ (Builtin.append_ #[t, u] ty0 #[vs, vx]).run P w = .ok v w' ∧ SV.rel E.Z ρ' sv v ∧ Sat E ρ' H' w' ∧
      Map.le ρ ρ' ∧ (∀ k, k < H.length → ρ' k = ρ k) ∧ H.length ≤ H'.length := by
  unfold xappend at h
  split at h
  case h_2 => exact h.elim
  rename_i e ht
  split at h
  case isFalse => exact h.elim
  rename_i hsrcB
  obtain ⟨d, hu, hd⟩ := srcB_facts hsrcB
  split at h
  · -- a nil base
    have := rel_lit hv; subst this
    split at h
    case h_2 => exact h.elim
    rename_i ty hty
    split at h
    case isFalse => exact h.elim
    rename_i hrow
    obtain ⟨i, z, hi, hsz, hz, hzs, hw0, hby⟩ := rowB_facts hrow
    rw [Tree.leads_bind] at h
    obtain ⟨M, news, ⟨⟨hb1, hb2⟩, hq⟩, hn, hl, _, hsrc⟩ := xelems_sound (P := P) hs hx h
    rw [← hsz] at hsrc
    by_cases hm : M.length = 0
    · have hM : M = [] := List.eq_nil_of_length_eq_zero hm
      subst hM
      have hnews : news = [] := List.eq_nil_of_length_eq_zero (by simpa using hn)
      subst hnews
      refine ⟨_, _, .slice none 0 0, w, _, hq, ?_, ?_, hs.allocNil, Map.le_put (hs.free _ (Nat.le_refl _)), fun k hk => put_ne (by omega), by simp⟩
      · simpa using run_append_fits0 (ty := ty0) (n := 0) (cap := 0) ht hu hd hi hsrc (by simp) (.inl rfl)
      · simp only [SV.rel]; exact .inl ⟨Map.put_same _ _ _, by simp, by simp, trivial⟩
    · have hr := run_append_grows1 (ty := ty0) (n := 0) (cap := 0) (base := none) (olds := []) ht hu hd hi hz hsrc (by omega) hb1 (by rw [hby]; exact hb2) (by simp [Builtin.firstCells])
      simp only [Nat.zero_add] at hr hb1 hb2
      have hC1 := grownCap_ge w M.length 0 e
      have hC2 := grownCap_le_maxLen w M.length 0 e (by unfold maxLen; omega)
      refine ⟨_, _, _, _, ρ.put H.length (.at w.heap.size (grownCap w M.length 0 e) []), hq, hr, ?_, ?_, Map.le_put (hs.free _ (Nat.le_refl _)), fun k hk => put_ne (by omega), by simp⟩
      · simp only [SV.rel]
        exact .inr ⟨_, _, _, _, 0, Map.put_same _ _ _, rfl, by omega, hC1, .inr (by simp)⟩
      · have := grown_row (Z := E.Z) (w := w) (e := e) (z := z) (ρ := ρ.put H.length (.at w.heap.size (grownCap w M.length 0 e) [])) (h := H.length) hzs hl hn hC1 hC2 (Map.put_same _ _ _)
        have h2 := Sat.alloc (w := w.drew) (C := grownCap w M.length 0 e) hs.drew this
        simpa using h2
  · -- a base that is there
    rename_i h0 wd len
    split at h
    case h_2 => exact h.elim
    rename_i et ty L hh
    split at h
    case isFalse => exact h.elim
    rename_i hcond
    simp only [Bool.and_eq_true] at hcond
    obtain ⟨⟨hc1, hc2⟩, hrow⟩ := hcond
    have := Nat.eq_of_beq_eq_true hc1; subst this
    have := Nat.eq_of_beq_eq_true hc2; subst this
    obtain ⟨i, z, hi, hsz, hz, hzs, hw0, hby⟩ := rowB_facts hrow
    rw [Tree.leads_bind] at h
    obtain ⟨M, news, hq0, hn, hl, _, hsrc⟩ := xelems_sound (P := P) hs hx h
    rw [← hsz] at hsrc
    have hobj := hs.objs _ _ hh
    simp only [SO.rel] at hobj
    simp only [SV.rel] at hv
    have hnewM : ∀ v ∈ news, v.oneCell' = true := by
      have h1 := reads_all (ρ := ρ) hl hn
      refine rels_one h1 ?_
      rw [List.all_eq_true]
      intro c hc
      obtain ⟨x, _, hx⟩ := List.mem_flatMap.1 hc
      exact List.all_eq_true.1 (firm_one (x := x) (rowB_firm hrow)) c hx
    simp only [Tree.Leads] at hq0
    by_cases hin : len + M.length ≤ L.length
    · -- there is room among the elements
      have hq := (br_iff.1 hq0).1 (by simpa using hin)
      rcases hv with ⟨h1, _, hL, rfl⟩ | ⟨b, C, bs, cap, o, h1, rfl, h2, h3, h4⟩
      · have hL0 : L = [] := by
          rcases hobj with ⟨_, h⟩ | ⟨b, C, vs, h1', _⟩
          · exact h
          · rw [h1] at h1'; cases h1'
        subst hL0; subst hL
        have hM : M = [] := List.eq_nil_of_length_eq_zero (by simpa using hin)
        subst hM
        have hnews : news = [] := List.eq_nil_of_length_eq_zero (by simpa using hn)
        subst hnews
        refine ⟨_, _, .slice none 0 0, w, ρ, hq, ?_, ?_, ?_, Map.le_refl ρ, fun k _ => rfl, by simp⟩
        · simpa using run_append_fits0 (ty := ty0) (n := 0) (cap := 0) ht hu hd hi hsrc (by simp) (.inl rfl)
        · simp only [SV.rel]; exact .inl ⟨h1, by simp, by simp, trivial⟩
        · have e : List.set H h0 (.row et ty (List.take 0 [] ++ [] ++ List.drop (0 + 0) [])) = H := by
            apply List.ext_getElem?
            intro k
            by_cases hk : k = h0
            · subst hk
              rw [List.getElem?_set_self (getElem?_lt' hh)]
              exact hh.symm
            · rw [List.getElem?_set_ne (Ne.symm hk)]
          simp only [List.length_nil] at *
          rw [e]; exact hs
      · rcases hobj with ⟨h0', _⟩ | ⟨b', C', vs, h1', h2', h3', h4', h5', h6'⟩
        · rw [h0'] at h1; cases h1
        rw [h1] at h1'; injection h1' with h1'; injection h1' with e1 e2 e3; subst e1; subst e2; subst e3
        have hcap : cap = C := by omega
        subst hcap
        have hvl : vs.toList.length = cap * ty.width := by simpa using h3'
        have hLw : L.length * ty.width ≤ cap * ty.width := Nat.mul_le_mul_right _ h4'
        by_cases hcap0 : cap = 0
        · subst hcap0
          have hL0 : L = [] := List.eq_nil_of_length_eq_zero (by omega)
          subst hL0
          have hl0 : len = 0 := by omega
          subst hl0
          have hM0 : M = [] := List.eq_nil_of_length_eq_zero (by simpa using hin)
          subst hM0
          have hnews : news = [] := List.eq_nil_of_length_eq_zero (by simpa using hn)
          subst hnews
          refine ⟨_, _, .slice (some ⟨b, o, none⟩) 0 0, w, ρ, hq, ?_, ?_, ?_, Map.le_refl ρ, fun k _ => rfl, by simp⟩
          · simpa using run_append_fits0 (ty := ty0) (n := 0) (cap := 0) (base := some ⟨b, o, none⟩) ht hu hd hi hsrc (by simp) (.inr rfl)
          · simp only [SV.rel]; exact .inr ⟨b, 0, _, 0, o, h1, rfl, rfl, Nat.le_refl _, .inl rfl⟩
          · refine Sat.set hs hh rfl h1 rfl rfl rfl (fun k hk => rfl) ?_ rfl
            exact .inr ⟨b, 0, vs, h1, h2', h3', by simp, h5', lies_nil⟩
        · have ho : o = 0 := by
            rcases h4 with h4 | h4
            · exact absurd h4 hcap0
            · simpa using h4
          subst ho
          have hmul : (len + M.length) * ty.width ≤ L.length * ty.width := Nat.mul_le_mul_right _ hin
          have hnm : (len + M.length) * ty.width = len * ty.width + news.length := by rw [Nat.add_mul, hn]
          have hr := run_append_fits1 (ty := ty0) (n := len) (cap := cap) ht hu hd hi hsrc (by omega) h2' (by rw [hsz, h3']; omega) hnewM
          rw [hsz] at hr
          refine ⟨_, _, _, _, ρ, hq, hr, ?_, ?_, Map.le_refl ρ, fun k _ => rfl, by simp⟩
          · simp only [SV.rel]; exact .inr ⟨b, cap, _, cap, 0, h1, rfl, by omega, by omega, .inr (by simp)⟩
          · refine Sat.set hs hh rfl h1 rfl rfl rfl (fun k hk => setRow_other w b k _ hk) ?_ rfl
            refine .inr ⟨b, cap, _, h1, setRow_heap w b vs _ et (0, 0) h2', ?_, ?_, h5', ?_⟩
            · simp; omega
            · simp; omega
            · simpa using lies_over (Z := E.Z) h6' hl hin (by omega) hn
    have hq := (br_iff.1 hq0).2 (by simpa using hin)
    obtain ⟨hlenL, ⟨hb1, hb2⟩, hq⟩ := hq
    rcases hv with ⟨h1, _, hL, rfl⟩ | ⟨b, C, bs, cap, o, h1, rfl, h2, h3, h4⟩
    · -- it was nil
      subst hL
      have eL : List.take 0 L = [] := rfl
      rw [eL] at hq
      by_cases hm : M.length = 0
      · have hM : M = [] := List.eq_nil_of_length_eq_zero hm
        subst hM
        have hnews : news = [] := List.eq_nil_of_length_eq_zero (by simpa using hn)
        subst hnews
        refine ⟨_, _, .slice none 0 0, w, ρ.put H.length .nil, hq, ?_, ?_, ?_, Map.le_put (hs.free _ (Nat.le_refl _)), fun k hk => put_ne (by omega), by simp⟩
        · simpa using run_append_fits0 (ty := ty0) (n := 0) (cap := 0) ht hu hd hi hsrc (by simp) (.inl rfl)
        · simp only [SV.rel]; exact .inl ⟨Map.put_same _ _ _, by simp, by simp, trivial⟩
        · refine Sat.release hs hh rfl rfl rfl rfl rfl (fun k _ y hy => hy) (fun b C l e => by cases e) ?_
          exact .inl ⟨Map.put_same _ _ _, rfl⟩
      · have hr := run_append_grows1 (ty := ty0) (n := 0) (cap := 0) (base := none) (olds := []) ht hu hd hi hz hsrc (by omega) (by simpa using hb1) (by rw [hby]; simpa using hb2) (by simp [Builtin.firstCells])
        simp only [Nat.zero_add] at hr
        have hC1 := grownCap_ge w M.length 0 et
        have hC2 := grownCap_le_maxLen w M.length 0 et (by simp at hb1; unfold maxLen; omega)
        refine ⟨_, _, _, _, ρ.put H.length (.at w.heap.size (grownCap w M.length 0 et) []), hq, hr, ?_, ?_, Map.le_put (hs.free _ (Nat.le_refl _)), fun k hk => put_ne (by omega), by simp⟩
        · simp only [SV.rel]
          exact .inr ⟨_, _, _, grownCap w M.length 0 et, 0, Map.put_same _ _ _, by simp, by omega, by simpa using hC1, .inr (by simp)⟩
        · refine Sat.release hs hh rfl rfl rfl rfl rfl (fun k _ y hy => ?_) (fun b C l e => ?_) ?_
          · have : (w.drew.alloc (.cells (([] : List Value).toArray ++ news.toArray ++ Builtin.zeroCells z.cells (grownCap w M.length 0 et - M.length)) et)).heap[k]? = w.drew.heap[k]? := heap_alloc_old w.drew _ (block_lt hy)
            rw [this]; exact hy
          · injection e with e1 e2 e3; subst e1; subst e3; exact ⟨rfl, .inr (by simp)⟩
          · have := grown_row (Z := E.Z) (w := w) (e := et) (z := z) (ρ := ρ.put H.length (.at w.heap.size (grownCap w M.length 0 et) [])) (h := H.length) hzs hl hn hC1 hC2 (Map.put_same _ _ _)
            simpa using this
    · rcases hobj with ⟨h0', _⟩ | ⟨b', C', vs, h1', h2', h3', h4', h5', h6'⟩
      · rw [h0'] at h1; cases h1
      rw [h1] at h1'; injection h1' with h1'; injection h1' with e1 e2 e3; subst e1; subst e2; subst e3
      have hcap : cap = C := by omega
      subst hcap
      have hvl : vs.toList.length = cap * ty.width := by simpa using h3'
      have hLw : len * ty.width ≤ cap * ty.width := Nat.mul_le_mul_right _ (by omega)
      have hLn : (L.take len).length = len := by rw [List.length_take]; omega
      have holdlen : (vs.toList.take (len * ty.width)).length = len * ty.width := by simp; omega
      have holdlen' : (vs.toList.take (len * ty.width)).length = (L.take len).length * ty.width := by rw [holdlen, hLn]
      have holdlies : ty.lies E.Z (L.take len) (vs.toList.take (len * ty.width)) 0 := lies_part h6' len
      by_cases hroom : len + M.length ≤ cap
      · by_cases hcap0 : cap = 0
        · subst hcap0
          have hL0 : L = [] := List.eq_nil_of_length_eq_zero (by omega)
          have hM0 : M = [] := List.eq_nil_of_length_eq_zero (by omega)
          have hl0 : len = 0 := by omega
          subst hL0; subst hM0; subst hl0
          have hnews : news = [] := List.eq_nil_of_length_eq_zero (by simpa using hn)
          subst hnews
          refine ⟨_, _, .slice (some ⟨b, o, none⟩) 0 0, w, ρ.put H.length (.at b 0 []), hq, ?_, ?_, ?_, Map.le_put (hs.free _ (Nat.le_refl _)), fun k hk => put_ne (by omega), by simp⟩
          · simpa using run_append_fits0 (ty := ty0) (n := 0) (cap := 0) (base := some ⟨b, o, none⟩) ht hu hd hi hsrc (by simp) (.inr rfl)
          · simp only [SV.rel]; exact .inr ⟨b, 0, _, 0, o, Map.put_same _ _ _, rfl, rfl, Nat.le_refl _, .inl rfl⟩
          · refine Sat.release hs hh rfl rfl rfl rfl rfl (fun k _ y hy => hy) (fun b' C' l' e => ?_) ?_
            · injection e with e1 e2 e3; subst e1; subst e3; exact ⟨rfl, .inl ⟨_, _, h1⟩⟩
            · exact .inr ⟨b, 0, vs, Map.put_same _ _ _, h2', h3', by simp, h5', lies_nil⟩
        · have ho : o = 0 := by
            rcases h4 with h4 | h4
            · exact absurd h4 hcap0
            · simpa using h4
          subst ho
          have hMw : len * ty.width + M.length * ty.width ≤ cap * ty.width := by rw [← Nat.add_mul]; exact Nat.mul_le_mul_right _ hroom
          have hr := run_append_fits1 (ty := ty0) (n := len) (cap := cap) ht hu hd hi hsrc hroom h2' (by rw [hsz, hn, h3']; exact hMw) hnewM
          rw [hsz] at hr
          refine ⟨_, _, _, _, ρ.put H.length (.at b cap []), hq, hr, ?_, ?_, Map.le_put (hs.free _ (Nat.le_refl _)), fun k hk => put_ne (by omega), by simp⟩
          · simp only [SV.rel]; exact .inr ⟨b, cap, _, cap, 0, Map.put_same _ _ _, rfl, by omega, hroom, .inr (by simp)⟩
          · refine Sat.release hs hh rfl rfl rfl rfl rfl (fun k hk y hy => ?_) (fun b' C' l' e => ?_) ?_
            · rw [setRow_other w b k _ (fun e => hk cap _ (by rw [e]; exact h1))]; exact hy
            · injection e with e1 e2 e3; subst e1; subst e3; exact ⟨rfl, .inl ⟨_, _, h1⟩⟩
            · refine .inr ⟨b, cap, _, Map.put_same _ _ _, setRow_heap w b vs _ et (0, 0) h2', ?_, by rw [List.length_append, hLn]; exact hroom, h5', ?_⟩
              · simp; omega
              · simpa using lies_snoc (Z := E.Z) _ holdlies hl holdlen' hn
      · have hgrow : cap < len + M.length := by omega
        have hold : (Builtin.firstCells i.size len (.slice (some ⟨b, o, none⟩) len cap)).run P w.drew = .ok (vs.toList.take (len * ty.width)).toArray w.drew := by
          rw [hsz]
          by_cases hL0 : len = 0
          · rw [hL0]; simp [Builtin.firstCells, loadCells, loadCellsFrom]
          · have ho : o = 0 := by
              rcases h4 with h4 | h4
              · omega
              · simpa using h4
            subst ho
            have := (source_row (P := P) (w := w) (c := cap) (size := ty.width) (m := len) (o := 0) h2' (by rw [h3']; simpa using hLw)).2.2.2
            simpa using this
        have hr := run_append_grows1 (ty := ty0) (n := len) (cap := cap) (base := some ⟨b, o, none⟩) ht hu hd hi hz hsrc hgrow hb1 (by rw [hby]; exact hb2) hold
        have hC1 := grownCap_ge w (len + M.length) cap et
        have hC2 := grownCap_le_maxLen w (len + M.length) cap et (by unfold maxLen; omega)
        have hlies : ty.lies E.Z (L.take len ++ M) (vs.toList.take (len * ty.width) ++ news) 0 := by
          simpa using lies_snoc (Z := E.Z) [] holdlies hl holdlen' hn
        have hlen2 : (vs.toList.take (len * ty.width) ++ news).length = (L.take len ++ M).length * ty.width := by
          rw [List.length_append, holdlen', hn, List.length_append, Nat.add_mul]
        refine ⟨_, _, _, _, ρ.put H.length (.at w.heap.size (grownCap w (len + M.length) cap et) []), hq, hr, ?_, ?_, Map.le_put (hs.free _ (Nat.le_refl _)), fun k hk => put_ne (by omega), by simp⟩
        · simp only [SV.rel]
          exact .inr ⟨_, _, _, _, 0, Map.put_same _ _ _, rfl, by omega, hC1, .inr (by simp)⟩
        · refine Sat.release hs hh rfl rfl rfl rfl rfl (fun k _ y hy => ?_) (fun b C l e => ?_) ?_
          · have : ∀ o : Obj, (w.drew.alloc o).heap[k]? = w.drew.heap[k]? := fun o => heap_alloc_old w.drew _ (block_lt hy)
            rw [this]; exact hy
          · injection e with e1 e2 e3; subst e1; subst e3; exact ⟨rfl, .inr (by simp)⟩
          · have := grown_row (Z := E.Z) (w := w) (e := et) (z := z) (ρ := ρ.put H.length (.at w.heap.size (grownCap w (len + M.length) cap et) [])) (h := H.length) hzs hlies hlen2 (by rw [List.length_append, hLn]; exact hC1) hC2 (Map.put_same _ _ _)
            rw [List.length_append, hLn] at this; simpa using this
  · exact h.elim
end Sx
