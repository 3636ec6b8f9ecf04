/- A slice's elements, cleared. -/
import Derived.Test.YtlcobcpgaoeijaaGreatSxI
set_option linter.unusedVariables false
set_option linter.unusedSimpArgs false
namespace Sx
open Go
variable {P : Program} {E : Env} {ρ : Map} {S : Slots} {H : Heap} {a : Act} {w w' : World} {Z : Zone}
def xclear (P : Program) (H : Heap) (t : TypeId) (x : SV) : Tree Heap := match P.underlying t, x with
  | some (.slice e), .sl h wd off len => match H[h]? with
    | some (.row et ty L) => if Nat.beq et e && Nat.beq wd ty.width && rowB P e ty then match zeros P e with
      | some z => match ty.ofCells z with
        | some d => .need (off + len ≤ L.length) (.ret (H.set h (.row et ty (L.take off ++ List.replicate len d ++ L.drop (off + len)))))
        | none => .fail
      | none => .fail
      else .fail
    | _ => .fail
  | _, _ => .fail
theorem zeroCells_list {z : Array Value} {n : Nat} (h : 0 < z.size) : (Builtin.zeroCells z n).toList = (List.replicate n z.toList).flatten := by
  simp only [Builtin.zeroCells, Array.toList_map, Array.toList_range]
  exact reps_map h z rfl n
theorem flatten_len {z : List Value} : ∀ n : Nat, (List.replicate n z).flatten.length = n * z.length
  | 0 => by simp
  | n + 1 => by rw [List.replicate_succ, List.flatten_cons, List.length_append, flatten_len n, Nat.add_mul]; omega
theorem lies_replicate {t : Ty} {d : t.den} {z : List Value} (h : t.reads Z d z) : ∀ n : Nat, t.lies Z (List.replicate n d) (List.replicate n z).flatten 0
  | 0 => lies_nil
  | n + 1 => by
    have hz := reads_length h
    have h1 : t.lies Z [d] z 0 := fun i hi => by
      have : i = 0 := by simpa using hi
      subst this
      simp only [Nat.zero_mul, Nat.add_zero, List.drop_zero, List.getElem_cons_zero]
      rw [List.take_of_length_le (by omega)]
      exact h
    have := lies_snoc (Z := Z) [] h1 (lies_replicate h n) (by simpa using hz) (by rw [flatten_len, hz, List.length_replicate])
    simpa [List.replicate_succ] using this
theorem set_same {h : Nat} {o : SO} (e : H[h]? = some o) : H.set h o = H := by
  apply List.ext_getElem?
  intro k
  by_cases hk : k = h
  · subst hk
    rw [List.getElem?_set_self (getElem?_lt' e)]; exact e.symm
  · rw [List.getElem?_set_ne (Ne.symm hk)]
theorem xclear_sound {t ty0 : TypeId} {x : SV} {vx : Value} {Q : Heap → Prop} (hs : Sat E ρ H w) (hx : SV.rel E.Z ρ x vx) (h : (xclear P H t x).Leads Q) :
    ∃ H' w', Q H' ∧ (Builtin.clear_ #[t] ty0 #[vx]).run P w = .ok (.tuple #[]) w' ∧ Sat E ρ H' w' ∧ H'.length = H.length := by
  unfold xclear at h
  split at h
  case h_2 => exact h.elim
  rename_i e h0 wd off len hu
  split at h
  case h_2 => exact h.elim
  rename_i et ty L hh
  split at h
  case isFalse => exact h.elim
  rename_i hcond
  simp only [Bool.and_eq_true] at hcond
  obtain ⟨⟨hc1, hc2⟩, hrow⟩ := hcond
  have := Nat.eq_of_beq_eq_true hc1; subst this
  have := Nat.eq_of_beq_eq_true hc2; subst this
  obtain ⟨i, z, hi, hsz, hz, hzs, hw0, hby⟩ := rowB_facts hrow
  split at h
  case h_2 => exact h.elim
  rename_i zs hzz
  split at h
  case h_2 => exact h.elim
  rename_i d hd
  obtain ⟨hle, hq⟩ := h
  have hzeq : zs = z.cells.toList.map .lit := by
    unfold zeros at hzz
    rw [hi] at hzz
    simp only [hz, Option.some.injEq] at hzz
    exact hzz.symm
  subst hzeq
  have hread : ty.reads E.Z d z.cells.toList := ofCells_sound hd (rels_lits (ρ := ρ) _)
  have hobj := hs.objs _ _ hh
  simp only [SO.rel] at hobj
  simp only [SV.rel] at hx
  by_cases hl0 : len = 0
  · subst hl0
    refine ⟨_, w, hq, ?_, ?_, by simp⟩
    · rcases hx with ⟨_, _, _, rfl⟩ | ⟨b, C, bs, cap, o, _, rfl, _⟩ <;> simp [Builtin.clear_, run_underlying hu]
    · have e : L.take off ++ List.replicate 0 d ++ L.drop (off + 0) = L := by simp
      rw [e, set_same hh]; exact hs
  · rcases hx with ⟨_, _, hl, _⟩ | ⟨b, C, bs, cap, o, h1, rfl, h2, h3, h4⟩
    · exact absurd hl hl0
    rcases hobj with ⟨h0', _⟩ | ⟨b', C', vs, h1', h2', h3', h4', h5', h6'⟩
    · rw [h0'] at h1; cases h1
    rw [h1] at h1'; injection h1' with h1'; injection h1' with e1 e2 e3; subst e1; subst e2; subst e3
    have ho : o = off * ty.width := by
      rcases h4 with h4 | h4
      · omega
      · exact h4
    subst ho
    have hzl := zeroCells_list (z := z.cells) (n := len) (by omega)
    have hzlen : (Builtin.zeroCells z.cells len).toList.length = len * ty.width := by rw [hzl, flatten_len]; simp [hzs]
    have hLw : L.length * ty.width ≤ C * ty.width := Nat.mul_le_mul_right _ h4'
    have hmul : (off + len) * ty.width ≤ L.length * ty.width := Nat.mul_le_mul_right _ hle
    have hone : ∀ v ∈ (Builtin.zeroCells z.cells len).toList, v.oneCell' = true := by
      intro v hv
      rw [hzl] at hv
      obtain ⟨l, hl, hvl⟩ := List.mem_flatten.1 hv
      have := (List.mem_replicate.1 hl).2
      subst this
      exact rels_one (reads_iff (ρ := ρ) |>.1 hread) (firm_one (x := d) (rowB_firm hrow)) v hvl
    have hst := run_storeCells_at P b (off * ty.width) et (Builtin.zeroCells z.cells len).toList 0 vs w h2' (by rw [hzlen, h3', Nat.add_zero, ← Nat.add_mul]; omega) hone
    simp only [Nat.add_zero] at hst
    refine ⟨_, w.setRow b (vs.toList.take (off * ty.width) ++ (Builtin.zeroCells z.cells len).toList ++ vs.toList.drop (off * ty.width + (Builtin.zeroCells z.cells len).toList.length)).toArray, hq, ?_, ?_, by simp⟩
    · obtain ⟨n, rfl⟩ : ∃ n, len = n + 1 := ⟨len - 1, by omega⟩
      simp [Builtin.clear_, run_underlying hu, zeroValue, typeInfo, hi, hz, hst]
    · refine Sat.set hs hh rfl h1 rfl rfl rfl (fun k hk => setRow_other w b k _ hk) ?_ rfl
      refine .inr ⟨b, C, _, h1, setRow_heap w b vs _ et (0, 0) h2', ?_, ?_, h5', ?_⟩
      · have : off * ty.width + len * ty.width ≤ vs.size := by rw [h3', ← Nat.add_mul]; omega
        simp only [List.size_toArray, List.length_append, List.length_take, List.length_drop, Array.length_toList, hzlen]
        omega
      · simp; omega
      · have := lies_over (Z := E.Z) (M := List.replicate len d) (news := (Builtin.zeroCells z.cells len).toList) (n := off) h6' (by have := lies_replicate hread len; rw [hzl]; exact this) (by simpa using hle) (by have : vs.toList.length = vs.size := Array.length_toList; omega) (by rw [hzlen]; simp)
        simpa using this
end Sx
