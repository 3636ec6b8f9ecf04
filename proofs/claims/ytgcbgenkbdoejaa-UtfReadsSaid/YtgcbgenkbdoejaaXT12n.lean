/- Part of a proof: the walk of the functions that the law calls. -/
import Derived.Test.YtgcbgenkbdoejaaSxT
import Derived.Test.YtgcbgenkbdoejaaXT12m
set_option linter.unusedVariables false
open Go Sx Go.Proofs
namespace T12
set_option maxRecDepth 100000
set_option maxHeartbeats 4000000
attribute [local irreducible] Tree.Leads
attribute [local irreducible] marks
theorem marked_get : ∀ (l : List (List Int)) (k i : Nat) (h : i < (marked k l).length) (h' : i < l.length), (marked k l)[i] = marks ((k + i : Nat) : Int) 0 l[i].length
  | [], _, _, h, _ => by cases h
  | x :: l, k, 0, _, _ => rfl
  | x :: l, k, i + 1, h, h' => by
    simp only [marked, List.getElem_cons_succ]
    rw [marked_get l (k + 1) i _ (Nat.lt_of_succ_lt_succ h'), show k + 1 + i = k + (i + 1) by omega]
theorem grown_get : ∀ (l : List (List Int)) (k i : Nat) (h : i < (grown k l).length) (h' : i < l.length), (grown k l)[i] = l[i] ++ marks ((k + i : Nat) : Int) l[i].length 72
  | [], _, _, h, _ => by cases h
  | x :: l, k, 0, _, _ => rfl
  | x :: l, k, i + 1, h, h' => by
    simp only [grown, List.getElem_cons_succ]
    rw [grown_get l (k + 1) i _ (Nat.lt_of_succ_lt_succ h'), show k + 1 + i = k + (i + 1) by omega]
theorem marked_ok (LL : List (List Int)) (i : Nat) (h : i < (marked 0 LL).length) : (marked 0 LL)[i] = marks i 0 (marked 0 LL)[i].length := by
  have h' : i < LL.length := by rw [marked_len] at h; exact h
  have e := marked_get LL 0 i h h'
  rw [Nat.zero_add] at e
  have el : ((marked 0 LL)[i]).length = LL[i].length := by rw [e, marks_len]
  rw [el]; exact e
theorem grown_ok (LL : List (List Int)) (i : Nat) (h : i < (grown 0 (marked 0 LL)).length) : (grown 0 (marked 0 LL))[i] = marks i 0 (grown 0 (marked 0 LL))[i].length := by
  have h' : i < (marked 0 LL).length := by rw [grown_len] at h; exact h
  have e := grown_get (marked 0 LL) 0 i h h'
  have em := marked_ok LL i h'
  rw [Nat.zero_add] at e
  generalize (marked 0 LL)[i] = M at *
  have el : ((grown 0 (marked 0 LL))[i]).length = M.length + 72 := by rw [e, List.length_append, marks_len]
  rw [el, marks_append, ← em, Nat.zero_add]; exact e
theorem mem_get {α : Type} {l : List α} {x : α} (h : x ∈ l) : ∃ (i : Nat) (hi : i < l.length), x = l[i] := by
  obtain ⟨i, hi, e⟩ := List.getElem_of_mem h
  exact ⟨i, hi, e.symm⟩
theorem marked_small (LL : List (List Int)) {n : Nat} (hL : ∀ l ∈ LL, l.length ≤ n) : ∀ l ∈ marked 0 LL, l.length ≤ n := fun l hl => by
  obtain ⟨i, hi, rfl⟩ := mem_get hl
  have h' : i < LL.length := by rw [marked_len] at hi; exact hi
  rw [marked_get LL 0 i hi h', marks_len]
  exact hL _ (List.getElem_mem h')
theorem grown_small (LL : List (List Int)) {n : Nat} (hL : ∀ l ∈ LL, l.length ≤ n) : ∀ l ∈ grown 0 LL, l.length ≤ n + 72 := fun l hl => by
  obtain ⟨i, hi, rfl⟩ := mem_get hl
  have h' : i < LL.length := by rw [grown_len] at hi; exact hi
  rw [grown_get LL 0 i hi h', List.length_append, marks_len]
  have := hL _ (List.getElem_mem h')
  omega
noncomputable def K24 : Table := ((((((KN.add 33 (.go s33)).add 43 (.go s43)).add 49 (.go s49)).add 57 (.go s57)).add 4000039 .thaw))
theorem K24_ok : TableOK Try.prog K24 true := add_ok (e := .thaw) (add_ok (e := .go s57) (add_ok (e := .go s49) (add_ok (e := .go s43) (add_ok (e := .go s33) KN_ok.up s33_ok) s43_ok) s49_ok) s57_ok) rfl
theorem v24 (LL WW : List (List Int)) (Q : SV × Heap × List Nat → Prop) (hn : LL.length ≤ 1000) (hL : ∀ l ∈ LL, l.length ≤ 900000) (he : LL = WW)
    (hq : Q (.lit (.bool true), [.cells 55 (bk (.sl 1 1 0 LL.length) .junk), .row 22 (.imm (.int .i32)) (marked 0 LL), .dead], [1, 2])) :
    (bodySumm K24 Try.prog Try.f24 noAn [.ptr 0 0] [.cells 55 (bk (.sl 1 1 0 LL.length) (.sl 2 1 0 WW.length)), .kept 22 21 (.int .i32) LL, .row 22 (.imm (.int .i32)) WW]).Leads Q := by
  refine Sx.by_text (q :=
      ((List.length LL = List.length WW ∧ List.length LL ≤ (1000 : Nat) ∧ (∀ (l : List (Sx.Ty.den (Sx.Ty.int Go.IntKind.i32))), l ∈ LL → List.length l ≤ (1000000 : Nat)) ∧ ∀ (l
      : Sx.Ty.den (Sx.Ty.imm (Sx.Ty.int Go.IntKind.i32))), l ∈ WW → List.length l ≤ (1000000 : Nat)) ∧ T12.bk (Sx.SV.sl (1 : Nat) (1 : Nat) (0 : Nat) (List.length LL)) (Sx.SV.sl
      (2 : Nat) (1 : Nat) (0 : Nat) (List.length WW)) = T12.bk (Sx.SV.sl (1 : Nat) (1 : Nat) (0 : Nat) (List.length LL)) (Sx.SV.sl (2 : Nat) (1 : Nat) (0 : Nat) (List.length
      WW))) ∧ Sx.br (!Decidable.decide (LL = WW)) (Q (Sx.SV.lit (Go.Value.bool Bool.false), [Sx.SO.cells (55 : Nat) (T12.bk (Sx.SV.sl (1 : Nat) (1 : Nat) (0 : Nat) (List.length
      LL)) (Sx.SV.sl (2 : Nat) (1 : Nat) (0 : Nat) (List.length WW))), Sx.SO.kept (22 : Nat) (21 : Nat) (Sx.Ty.int Go.IntKind.i32) LL, Sx.SO.row (22 : Nat) (Sx.Ty.imm (Sx.Ty.int
      Go.IntKind.i32)) WW], [])) (((List.length LL ≤ (1000 : Nat) ∧ ∀ (l : List (Sx.Ty.den (Sx.Ty.int Go.IntKind.i32))), l ∈ LL → List.length l ≤ (1000000 : Nat)) ∧ T12.bk
      (Sx.SV.sl (1 : Nat) (1 : Nat) (0 : Nat) (List.length LL)) Sx.SV.junk = T12.bk (Sx.SV.sl (1 : Nat) (1 : Nat) (0 : Nat) (List.length LL)) Sx.SV.junk) ∧ ((List.length
      (T12.marked (0 : Nat) LL) ≤ (1000 : Nat) ∧ ∀ (l : List (Sx.Ty.den (Sx.Ty.int Go.IntKind.i32))), l ∈ T12.marked (0 : Nat) LL → List.length l ≤ (900000 : Nat)) ∧ T12.bk
      (Sx.SV.sl (1 : Nat) (1 : Nat) (0 : Nat) (List.length LL)) Sx.SV.junk = T12.bk (Sx.SV.sl (1 : Nat) (1 : Nat) (0 : Nat) (List.length (T12.marked (0 : Nat) LL))) Sx.SV.junk)
      ∧ (List.length (T12.marked (0 : Nat) LL) = List.length (T12.grown (0 : Nat) (T12.marked (0 : Nat) LL)) ∧ (List.length (T12.grown (0 : Nat) (T12.marked (0 : Nat) LL)) ≤
      (1000 : Nat) ∧ ∀ (l : Sx.Ty.den (Sx.Ty.imm (Sx.Ty.int Go.IntKind.i32))), l ∈ T12.grown (0 : Nat) (T12.marked (0 : Nat) LL) → List.length l ≤ (1000000 : Nat)) ∧ ∀ (i : Nat)
      (h : i < List.length (T12.grown (0 : Nat) (T12.marked (0 : Nat) LL))), (T12.grown (0 : Nat) (T12.marked (0 : Nat) LL))[i] = T12.marks (↑i : Int) (0 : Nat) (List.length
      (T12.grown (0 : Nat) (T12.marked (0 : Nat) LL))[i])) ∧ (List.length LL = List.length (T12.marked (0 : Nat) LL) ∧ (List.length (T12.marked (0 : Nat) LL) ≤ (1000 : Nat) ∧ ∀
      (l : Sx.Ty.den (Sx.Ty.imm (Sx.Ty.int Go.IntKind.i32))), l ∈ T12.marked (0 : Nat) LL → List.length l ≤ (1000000 : Nat)) ∧ ∀ (i : Nat) (h : i < List.length (T12.marked (0 :
      Nat) LL)), (T12.marked (0 : Nat) LL)[i] = T12.marks (↑i : Int) (0 : Nat) (List.length (T12.marked (0 : Nat) LL)[i])) ∧ Q (Sx.SV.lit (Go.Value.bool Bool.true), [Sx.SO.cells
      (55 : Nat) (T12.bk (Sx.SV.sl (1 : Nat) (1 : Nat) (0 : Nat) (List.length LL)) Sx.SV.junk), Sx.SO.row (22 : Nat) (Sx.Ty.imm (Sx.Ty.int Go.IntKind.i32)) (T12.marked (0 : Nat)
      LL), Sx.SO.dead], [(1 : Nat), (2 : Nat)]))) (by kernel_rfl) ?_
  subst he
  have ml := marked_len 0 LL
  have gl := grown_len 0 (marked 0 LL)
  have h6 : ∀ l ∈ LL, l.length ≤ 1000000 := fun l hl => Nat.le_trans (hL l hl) (by omega)
  refine ⟨⟨⟨rfl, hn, h6, h6⟩, rfl⟩, br_intro (fun g => by simp at g) (fun _ => ⟨⟨⟨hn, h6⟩, rfl⟩, ⟨⟨by omega, marked_small LL hL⟩, by rw [ml]⟩, ⟨by omega, ⟨by omega, fun l hl => ?_⟩, grown_ok LL⟩, ⟨ml.symm, ⟨by omega, marked_small LL h6⟩, marked_ok LL⟩, hq⟩)⟩
  have := grown_small (marked 0 LL) (marked_small LL hL) l hl
  omega
/-- Apart, where all is as it was. -/
noncomputable def s24 : Summ := fun args H => match args, H with
  | [.ptr 0 0], [.cells 55 cs, .kept 22 21 (.int .i32) LL, .row 22 (.imm (.int .i32)) WW] => .need ((LL.length ≤ 1000 ∧ (∀ l ∈ LL, l.length ≤ 900000) ∧ LL = WW) ∧ cs = bk (.sl 1 1 0 LL.length) (.sl 2 1 0 WW.length))
      (.ret (.lit (.bool true), [.cells 55 (bk (.sl 1 1 0 LL.length) .junk), .row 22 (.imm (.int .i32)) (marked 0 LL), .dead], [1, 2]))
  | _, _ => .fail
theorem s24_bye : ByeOK Try.prog 24 (byeS s24) := by
  refine bye_of_body (fn := Try.f24) (c := Try.f24.body.get!) K24_ok (by kernel_rfl) (by kernel_rfl) (by kernel_rfl) fun args H Q h => ?_
  unfold s24 at h
  split at h
  · rename_i cs LL WW
    simp only [Tree.Leads] at h
    obtain ⟨⟨⟨h1, h2, h3⟩, rfl⟩, hq⟩ := h
    exact ⟨_, v24 LL WW Q h1 h2 h3 hq⟩
  · simp only [Tree.Leads] at h
end T12
