/- Part of a proof: the walk of the functions that the law calls. -/
import Derived.Test.YtgcbgenkbdoejaaSxT
import Derived.Test.YtgcbgenkbdoejaaXT12e
set_option linter.unusedVariables false
open Go Sx Go.Proofs
namespace T12
set_option maxRecDepth 100000
set_option maxHeartbeats 1000000
attribute [local irreducible] Tree.Leads
def nl : SV := .lit (.slice none 0 0)
def bk (a b : SV) : List SV := [nl, nl, nl, nl, a, b, nl, nl, nl, nl, nl, nl, nl, nl, nl, nl]
/-- A copy, as data. -/
noncomputable def E25 : Nat → Option Ann := An1 999999 { live := [], mv := [], head := fun _ _ => { X := Nat, inv := fun _ => ([], []), ok := fun _ => False, mu := fun _ => 0 }, hook := 6, hk2 := 2 }
theorem v25 (n : Nat) (R : List Int) (Q : SV × Heap × List Nat → Prop) (hn : n ≤ R.length) (hR : R.length ≤ 1000000) (hq : Q (.imm (.int .i32) (R.take n), [.view 21 (.int .i32) R], [])) :
    (bodySumm T3 Try.prog Try.f25 E25 [.sl 0 1 0 n] [.view 21 (.int .i32) R]).Leads Q := by
  refine Sx.by_text (q :=
      (0 : Nat) + n ≤ List.length R ∧ ((↑((0 : Nat) + List.length (List.take n (List.drop (0 : Nat) R))) : Int) ≤ (9223372036854775807 : Int) ∧ ((0 : Nat) + List.length
      (List.take n (List.drop (0 : Nat) R))) * Sx.bytesOf Go.Proofs.Try.prog (21 : Nat) ≤ (140737488355328 : Nat)) ∧ (0 : Nat) + List.length (List.take n (List.drop (0 : Nat)
      R)) ≤ List.length (List.take n (List.drop (0 : Nat) R)) ∧ Q (Sx.SV.imm (Sx.Ty.int Go.IntKind.i32) (List.take (List.length (List.take n (List.drop (0 : Nat) R))) (List.drop
      (0 : Nat) (List.take n (List.drop (0 : Nat) R)))), [Sx.SO.view (21 : Nat) (Sx.Ty.int Go.IntKind.i32) R], [])) (by kernel_rfl) ?_
  have hb : bytesOf Try.prog 21 = 4 := by kernel_rfl
  have hl : (R.take n).length = n := by rw [List.length_take]; omega
  rw [List.drop_zero, List.drop_zero, List.take_length, hl, hb]
  exact ⟨by omega, ⟨by omega, by omega⟩, by omega, hq⟩
noncomputable def s25 : Summ := fun args H => match args, H with
  | [.sl 0 1 0 n], [.view 21 (.int .i32) R] => .need (n ≤ R.length ∧ R.length ≤ 1000000) (.ret (.imm (.int .i32) (R.take n), [.view 21 (.int .i32) R], []))
  | _, _ => .fail
theorem s25_ok : SummOK Try.prog 25 s25 := by
  refine summ_of_body (fn := Try.f25) (c := Try.f25.body.get!) T3_ok (by kernel_rfl) (by kernel_rfl) (by kernel_rfl) fun args H Q h => ?_
  unfold s25 at h
  split at h
  · rename_i n R
    simp only [Tree.Leads] at h
    exact ⟨E25, v25 n R Q h.1.1 h.1.2 h.2⟩
  · simp only [Tree.Leads] at h
/-- With rows that are kept. -/
noncomputable def K1 : Table := (T3.add 25 (.go s25)).add 3000048 (.ext fun _ _ => .fail)
theorem K1_ok : TableOK Try.prog K1 := add_ok (add_ok T3_ok s25_ok) (fun _ _ _ _ _ _ _ _ _ h => by simp only [Tree.Leads] at h)
theorem v20 (n : Nat) (R : List Int) (LL WW : List (List Int)) (Q : SV × Heap × List Nat → Prop) (hn : n ≤ R.length) (hR : R.length ≤ 1000000) (hL : LL.length ≤ 100) (hW : WW.length ≤ 100)
    (hq : Q (.tup [], [.cells 55 (bk (.sl 2 1 0 (LL.length + 1)) (.sl 3 1 0 (WW.length + 1))), .view 21 (.int .i32) R, .kept 22 21 (.int .i32) (LL ++ [R.take n]), .row 22 (.imm (.int .i32)) (WW ++ [R.take n])], [2, 3])) :
    (bodySumm K1 Try.prog Try.f20 noAn [.ptr 0 0, .sl 1 1 0 n] [.cells 55 (bk (.sl 2 1 0 LL.length) (.sl 3 1 0 WW.length)), .row 21 (.int .i32) R, .kept 22 21 (.int .i32) LL, .row 22 (.imm (.int .i32)) WW]).Leads Q := by
  refine Sx.by_text (q :=
      Sx.br (Decidable.decide ((↑(List.length LL) : Int) < (250 : Int))) (n ≤ List.length R ∧ (List.length LL = List.length LL ∧ (1 : Nat) = (1 : Nat)) ∧ ((↑(List.length LL + (1
      : Nat)) : Int) ≤ (9223372036854775807 : Int) ∧ (List.length LL + (1 : Nat)) * Sx.bytesOf Go.Proofs.Try.prog (22 : Nat) ≤ (140737488355328 : Nat)) ∧ ∀ (b : Bool), True →
      Sx.br b ((n ≤ List.length R ∧ List.length R ≤ (1000000 : Nat)) ∧ (1 : Nat) ≤ (1 : Nat) ∧ Sx.br (Decidable.decide (List.length WW + (1 : Nat) ≤ List.length WW)) (Q
      (Sx.SV.tup ([] : List Sx.SV), [Sx.SO.cells (55 : Nat) (T12.bk (Sx.SV.sl (2 : Nat) (1 : Nat) (0 : Nat) (List.length LL + (1 : Nat))) (Sx.SV.sl (3 : Nat) (1 : Nat) (0 : Nat)
      (List.length WW + (1 : Nat)))), Sx.SO.view (21 : Nat) (Sx.Ty.int Go.IntKind.i32) R, Sx.SO.kept (22 : Nat) (21 : Nat) (Sx.Ty.int Go.IntKind.i32) (LL ++ [List.take n R]),
      Sx.SO.row (22 : Nat) (Sx.Ty.imm (Sx.Ty.int Go.IntKind.i32)) (List.take (List.length WW) WW ++ [List.take n R] ++ List.drop (List.length WW + (1 : Nat)) WW)], [(2 : Nat)]))
      (List.length WW ≤ List.length WW ∧ ((↑(List.length WW + (1 : Nat)) : Int) ≤ (9223372036854775807 : Int) ∧ (List.length WW + (1 : Nat)) * Sx.bytesOf Go.Proofs.Try.prog (22
      : Nat) ≤ (140737488355328 : Nat)) ∧ Q (Sx.SV.tup ([] : List Sx.SV), [Sx.SO.cells (55 : Nat) (T12.bk (Sx.SV.sl (2 : Nat) (1 : Nat) (0 : Nat) (List.length LL + (1 : Nat)))
      (Sx.SV.sl (3 : Nat) (1 : Nat) (0 : Nat) (List.length WW + (1 : Nat)))), Sx.SO.view (21 : Nat) (Sx.Ty.int Go.IntKind.i32) R, Sx.SO.kept (22 : Nat) (21 : Nat) (Sx.Ty.int
      Go.IntKind.i32) (LL ++ [List.take n R]), Sx.SO.row (22 : Nat) (Sx.Ty.imm (Sx.Ty.int Go.IntKind.i32)) (List.take (List.length WW) WW ++ [List.take n R])], [(2 : Nat), (3 :
      Nat)]))) ((n ≤ List.length R ∧ List.length R ≤ (1000000 : Nat)) ∧ (1 : Nat) ≤ (1 : Nat) ∧ Sx.br (Decidable.decide (List.length WW + (1 : Nat) ≤ List.length WW)) (Q
      (Sx.SV.tup ([] : List Sx.SV), [Sx.SO.cells (55 : Nat) (T12.bk (Sx.SV.sl (2 : Nat) (1 : Nat) (0 : Nat) (List.length LL + (1 : Nat))) (Sx.SV.sl (3 : Nat) (1 : Nat) (0 : Nat)
      (List.length WW + (1 : Nat)))), Sx.SO.view (21 : Nat) (Sx.Ty.int Go.IntKind.i32) R, Sx.SO.kept (22 : Nat) (21 : Nat) (Sx.Ty.int Go.IntKind.i32) (LL ++ [List.take n R]),
      Sx.SO.row (22 : Nat) (Sx.Ty.imm (Sx.Ty.int Go.IntKind.i32)) (List.take (List.length WW) WW ++ [List.take n R] ++ List.drop (List.length WW + (1 : Nat)) WW)], [(2 : Nat)]))
      (List.length WW ≤ List.length WW ∧ ((↑(List.length WW + (1 : Nat)) : Int) ≤ (9223372036854775807 : Int) ∧ (List.length WW + (1 : Nat)) * Sx.bytesOf Go.Proofs.Try.prog (22
      : Nat) ≤ (140737488355328 : Nat)) ∧ Q (Sx.SV.tup ([] : List Sx.SV), [Sx.SO.cells (55 : Nat) (T12.bk (Sx.SV.sl (2 : Nat) (1 : Nat) (0 : Nat) (List.length LL + (1 : Nat)))
      (Sx.SV.sl (3 : Nat) (1 : Nat) (0 : Nat) (List.length WW + (1 : Nat)))), Sx.SO.view (21 : Nat) (Sx.Ty.int Go.IntKind.i32) R, Sx.SO.kept (22 : Nat) (21 : Nat) (Sx.Ty.int
      Go.IntKind.i32) (LL ++ [List.take n R]), Sx.SO.row (22 : Nat) (Sx.Ty.imm (Sx.Ty.int Go.IntKind.i32)) (List.take (List.length WW) WW ++ [List.take n R])], [(2 : Nat), (3 :
      Nat)])))) (Q (Sx.SV.tup ([] : List Sx.SV), [Sx.SO.cells (55 : Nat) (T12.bk (Sx.SV.sl (2 : Nat) (1 : Nat) (0 : Nat) (List.length LL)) (Sx.SV.sl (3 : Nat) (1 : Nat) (0 :
      Nat) (List.length WW))), Sx.SO.row (21 : Nat) (Sx.Ty.int Go.IntKind.i32) R, Sx.SO.kept (22 : Nat) (21 : Nat) (Sx.Ty.int Go.IntKind.i32) LL, Sx.SO.row (22 : Nat) (Sx.Ty.imm
      (Sx.Ty.int Go.IntKind.i32)) WW], []))) (by kernel_rfl) ?_
  have hb : bytesOf Try.prog 22 = 24 := by kernel_rfl
  rw [hb, List.take_length]
  refine br_intro (fun _ => ⟨hn, ⟨rfl, rfl⟩, ⟨by omega, by omega⟩, fun b _ => br_intro (fun _ => ?_) (fun _ => ?_)⟩) (fun h => by have := of_decide_eq_false h; omega)
  all_goals exact ⟨⟨hn, hR⟩, by omega, br_intro (fun h => by have := of_decide_eq_true h; omega) (fun _ => ⟨by omega, ⟨by omega, by omega⟩, hq⟩)⟩
theorem v20n (n : Nat) (R : List Int) (Q : SV × Heap × List Nat → Prop) (hn : n ≤ R.length) (hR : R.length ≤ 1000000)
    (hq : Q (.tup [], [.cells 55 (bk (.sl 2 1 0 1) (.sl 3 1 0 1)), .view 21 (.int .i32) R, .kept 22 21 (.int .i32) [R.take n], .row 22 (.imm (.int .i32)) [R.take n]], [])) :
    (bodySumm K1 Try.prog Try.f20 noAn [.ptr 0 0, .sl 1 1 0 n] [.cells 55 (bk nl nl), .row 21 (.int .i32) R]).Leads Q := by
  refine Sx.by_text (q :=
      n ≤ List.length R ∧ ((0 : Nat) = (0 : Nat) ∧ (1 : Nat) = (1 : Nat)) ∧ ((↑(1 : Nat) : Int) ≤ (9223372036854775807 : Int) ∧ (1 : Nat) * Sx.bytesOf Go.Proofs.Try.prog (22 :
      Nat) ≤ (140737488355328 : Nat)) ∧ ∀ (b : Bool), True → Sx.br b ((n ≤ List.length R ∧ List.length R ≤ (1000000 : Nat)) ∧ (1 : Nat) ≤ (1 : Nat) ∧ ((↑(1 : Nat) : Int) ≤
      (9223372036854775807 : Int) ∧ (1 : Nat) * Sx.bytesOf Go.Proofs.Try.prog (22 : Nat) ≤ (140737488355328 : Nat)) ∧ Q (Sx.SV.tup ([] : List Sx.SV), [Sx.SO.cells (55 : Nat)
      (T12.bk (Sx.SV.sl (2 : Nat) (1 : Nat) (0 : Nat) (1 : Nat)) (Sx.SV.sl (3 : Nat) (1 : Nat) (0 : Nat) (1 : Nat))), Sx.SO.view (21 : Nat) (Sx.Ty.int Go.IntKind.i32) R,
      Sx.SO.kept (22 : Nat) (21 : Nat) (Sx.Ty.int Go.IntKind.i32) [List.take n R], Sx.SO.row (22 : Nat) (Sx.Ty.imm (Sx.Ty.int Go.IntKind.i32)) [List.take n R]], [])) ((n ≤
      List.length R ∧ List.length R ≤ (1000000 : Nat)) ∧ (1 : Nat) ≤ (1 : Nat) ∧ ((↑(1 : Nat) : Int) ≤ (9223372036854775807 : Int) ∧ (1 : Nat) * Sx.bytesOf Go.Proofs.Try.prog
      (22 : Nat) ≤ (140737488355328 : Nat)) ∧ Q (Sx.SV.tup ([] : List Sx.SV), [Sx.SO.cells (55 : Nat) (T12.bk (Sx.SV.sl (2 : Nat) (1 : Nat) (0 : Nat) (1 : Nat)) (Sx.SV.sl (3 :
      Nat) (1 : Nat) (0 : Nat) (1 : Nat))), Sx.SO.view (21 : Nat) (Sx.Ty.int Go.IntKind.i32) R, Sx.SO.kept (22 : Nat) (21 : Nat) (Sx.Ty.int Go.IntKind.i32) [List.take n R],
      Sx.SO.row (22 : Nat) (Sx.Ty.imm (Sx.Ty.int Go.IntKind.i32)) [List.take n R]], []))) (by kernel_rfl) ?_
  have hb : bytesOf Try.prog 22 = 24 := by kernel_rfl
  rw [hb]
  refine ⟨hn, ⟨rfl, rfl⟩, ⟨by omega, by omega⟩, fun b _ => br_intro (fun _ => ?_) (fun _ => ?_)⟩
  all_goals exact ⟨⟨hn, hR⟩, by omega, ⟨by omega, by omega⟩, hq⟩
noncomputable def s20 : Summ := fun args H => match args, H with
  | [.ptr 0 0, .sl 1 1 0 n], [.cells 55 cs, .row 21 (.int .i32) R, .kept 22 21 (.int .i32) LL, .row 22 (.imm (.int .i32)) WW] => .need ((n ≤ R.length ∧ R.length ≤ 1000000) ∧ LL.length ≤ 100 ∧ WW.length ≤ 100 ∧ cs = bk (.sl 2 1 0 LL.length) (.sl 3 1 0 WW.length))
      (.ret (.tup [], [.cells 55 (bk (.sl 2 1 0 (LL.length + 1)) (.sl 3 1 0 (WW.length + 1))), .view 21 (.int .i32) R, .kept 22 21 (.int .i32) (LL ++ [R.take n]), .row 22 (.imm (.int .i32)) (WW ++ [R.take n])], [2, 3]))
  | [.ptr 0 0, .sl 1 1 0 n], [.cells 55 cs, .row 21 (.int .i32) R] => .need ((n ≤ R.length ∧ R.length ≤ 1000000) ∧ cs = bk nl nl)
      (.ret (.tup [], [.cells 55 (bk (.sl 2 1 0 1) (.sl 3 1 0 1)), .view 21 (.int .i32) R, .kept 22 21 (.int .i32) [R.take n], .row 22 (.imm (.int .i32)) [R.take n]], []))
  | _, _ => .fail
theorem s20_ok : SummOK Try.prog 20 s20 := by
  refine summ_of_body (fn := Try.f20) (c := Try.f20.body.get!) K1_ok (by kernel_rfl) (by kernel_rfl) (by kernel_rfl) fun args H Q h => ?_
  unfold s20 at h
  split at h
  · rename_i n cs R LL WW
    simp only [Tree.Leads] at h
    obtain ⟨⟨⟨h1, h2⟩, h3, h4, rfl⟩, hq⟩ := h
    exact ⟨noAn, v20 n R LL WW Q h1 h2 h3 h4 hq⟩
  · rename_i n cs R
    simp only [Tree.Leads] at h
    obtain ⟨⟨⟨h1, h2⟩, rfl⟩, hq⟩ := h
    exact ⟨noAn, v20n n R Q h1 h2 hq⟩
  · simp only [Tree.Leads] at h
/-- Two lists, element by element. -/
noncomputable def A13b (X Y : List Int) : Ann := { live := [0, 1, 5], mv := [], head := fun vals H => match vals with | [a, b, _] => { X := Nat, inv := fun i => ([a, b, .lit (.int .i64 i)], H), ok := fun i => i ≤ X.length ∧ X.take i = Y.take i, mu := fun i => X.length - i } | _ => { X := Nat, inv := fun _ => ([], []), ok := fun _ => False, mu := fun _ => 0 } }
theorem v13b (X Y : List Int) (Q : SV × Heap × List Nat → Prop) (hX : X.length ≤ 1000000) (hY : Y.length ≤ 1000000) (hq : Q (.lit (.bool (decide (X = Y))), [], [])) : (bodySumm T3 Try.prog Try.f13 (An1 0 (A13b X Y)) [.imm (.int .i32) X, .imm (.int .i32) Y] []).Leads Q := by
  refine Sx.by_text (q :=
      Sx.br ((↑(List.length X) : Int) != (↑(List.length Y) : Int)) (Q (Sx.SV.lit (Go.Value.bool Bool.false), ([] : List Sx.SO), [])) ((∃ (x : Nat), ([Sx.SV.imm (Sx.Ty.int
      Go.IntKind.i32) X, Sx.SV.imm (Sx.Ty.int Go.IntKind.i32) Y, Sx.SV.lit (Go.Value.int Go.IntKind.i64 (0 : Int))], ([] : List Sx.SO)) = ([Sx.SV.imm (Sx.Ty.int Go.IntKind.i32)
      X, Sx.SV.imm (Sx.Ty.int Go.IntKind.i32) Y, Sx.SV.lit (Go.Value.int Go.IntKind.i64 (↑x : Int))], ([] : List Sx.SO)) ∧ x ≤ List.length X ∧ List.take x X = List.take x Y) ∧ ∀
      (b : Nat), b ≤ List.length X ∧ List.take b X = List.take b Y → Sx.br (Decidable.decide ((↑b : Int) < (↑(List.length X) : Int))) (((0 : Int) ≤ (↑b : Int) ∧ (↑b : Int) <
      (↑(List.length X) : Int)) ∧ b < List.length X ∧ ((0 : Int) ≤ (↑b : Int) ∧ (↑b : Int) < (↑(List.length Y) : Int)) ∧ b < List.length Y ∧ Sx.br (!List.getD X b (Sx.Ty.dflt
      (Sx.Ty.int Go.IntKind.i32)) == List.getD Y b (Sx.Ty.dflt (Sx.Ty.int Go.IntKind.i32))) (Q (Sx.SV.lit (Go.Value.bool Bool.false), ([] : List Sx.SO), [])) ((∃ (x' : Nat),
      ([Sx.SV.imm (Sx.Ty.int Go.IntKind.i32) X, Sx.SV.imm (Sx.Ty.int Go.IntKind.i32) Y, Sx.SV.lit (Go.Value.int Go.IntKind.i64 (Go.IntKind.wrap Go.IntKind.i64 ((↑b : Int) + (1 :
      Int))))], ([] : List Sx.SO)) = ([Sx.SV.imm (Sx.Ty.int Go.IntKind.i32) X, Sx.SV.imm (Sx.Ty.int Go.IntKind.i32) Y, Sx.SV.lit (Go.Value.int Go.IntKind.i64 (↑x' : Int))], ([]
      : List Sx.SO)) ∧ (x' ≤ List.length X ∧ List.take x' X = List.take x' Y) ∧ List.length X - x' < List.length X - b) ∧ True)) (Q (Sx.SV.lit (Go.Value.bool Bool.true), ([] :
      List Sx.SO), [])))) (by kernel_rfl) ?_
  refine br_intro (fun h => ?_) (fun h => ?_)
  · have h : (X.length : Int) ≠ (Y.length : Nat) := by simpa using h
    rw [decF (p := X = Y) (fun e => by rw [e] at h; exact h rfl)] at hq
    exact hq
  · have h : (X.length : Int) = (Y.length : Nat) := by simpa using h
    refine ⟨⟨0, rfl, by omega, rfl⟩, fun i hi => br_intro (fun hlt => ?_) (fun hge => ?_)⟩
    · have hlt := of_decide_eq_true hlt
      refine ⟨by omega, by omega, by omega, by omega, br_intro (fun g => ?_) (fun g => ⟨⟨i + 1, ?_, ⟨by omega, ?_⟩, by omega⟩, trivial⟩)⟩
      · have g : X.getD i (Ty.int IntKind.i32).dflt ≠ Y.getD i (Ty.int IntKind.i32).dflt := by simpa using g
        rw [decF (PL.not_same g)] at hq
        exact hq
      · rw [wrap1 i (by omega)]
      · have g : X.getD i (Ty.int IntKind.i32).dflt = Y.getD i (Ty.int IntKind.i32).dflt := by simpa using g
        exact PL.take_step (by omega) (by omega) hi.2 g
    · have hge := of_decide_eq_false hge
      rw [decide_eq_true (p := X = Y) (PL.take_all (i := i) (by omega) (by omega) hi.2)] at hq
      exact hq
theorem v13v (A B : List Int) (a b m n : Nat) (Q : SV × Heap × List Nat → Prop) (hm : a + m ≤ A.length) (hn : b + n ≤ B.length) (hm2 : m ≤ 1000000) (hq : Q (.lit (.bool (decide ((A.drop a).take m = (B.drop b).take n))), [.view 21 (.int .i32) A, .row 21 (.int .i32) B], [])) : (bodySumm T3 Try.prog Try.f13 (An1 0 (A13 ((A.drop a).take m) ((B.drop b).take n) m)) [.sl 0 1 a m, .sl 1 1 b n] [.view 21 (.int .i32) A, .row 21 (.int .i32) B]).Leads Q := by
  refine Sx.by_text (q :=
      Sx.br ((↑m : Int) != (↑n : Int)) (Q (Sx.SV.lit (Go.Value.bool Bool.false), [Sx.SO.view (21 : Nat) (Sx.Ty.int Go.IntKind.i32) A, Sx.SO.row (21 : Nat) (Sx.Ty.int
      Go.IntKind.i32) B], [])) ((∃ (x : Nat), ([Sx.SV.sl (0 : Nat) (1 : Nat) a m, Sx.SV.sl (1 : Nat) (1 : Nat) b n, Sx.SV.lit (Go.Value.int Go.IntKind.i64 (0 : Int))],
      [Sx.SO.view (21 : Nat) (Sx.Ty.int Go.IntKind.i32) A, Sx.SO.row (21 : Nat) (Sx.Ty.int Go.IntKind.i32) B]) = ([Sx.SV.sl (0 : Nat) (1 : Nat) a m, Sx.SV.sl (1 : Nat) (1 : Nat)
      b n, Sx.SV.lit (Go.Value.int Go.IntKind.i64 (↑x : Int))], [Sx.SO.view (21 : Nat) (Sx.Ty.int Go.IntKind.i32) A, Sx.SO.row (21 : Nat) (Sx.Ty.int Go.IntKind.i32) B]) ∧ x ≤ m
      ∧ List.take x (List.take m (List.drop a A)) = List.take x (List.take n (List.drop b B))) ∧ ∀ (b_1 : Nat), b_1 ≤ m ∧ List.take b_1 (List.take m (List.drop a A)) = List.take
      b_1 (List.take n (List.drop b B)) → Sx.br (Decidable.decide ((↑b_1 : Int) < (↑m : Int))) (((0 : Int) ≤ (↑b_1 : Int) ∧ (↑b_1 : Int) < (↑m : Int)) ∧ a + b_1 < List.length A
      ∧ ((0 : Int) ≤ (↑b_1 : Int) ∧ (↑b_1 : Int) < (↑n : Int)) ∧ b + b_1 < List.length B ∧ Sx.br (!List.getD A (a + b_1) (Sx.Ty.dflt (Sx.Ty.int Go.IntKind.i32)) == List.getD B
      (b + b_1) (Sx.Ty.dflt (Sx.Ty.int Go.IntKind.i32))) (Q (Sx.SV.lit (Go.Value.bool Bool.false), [Sx.SO.view (21 : Nat) (Sx.Ty.int Go.IntKind.i32) A, Sx.SO.row (21 : Nat)
      (Sx.Ty.int Go.IntKind.i32) B], [])) ((∃ (x' : Nat), ([Sx.SV.sl (0 : Nat) (1 : Nat) a m, Sx.SV.sl (1 : Nat) (1 : Nat) b n, Sx.SV.lit (Go.Value.int Go.IntKind.i64
      (Go.IntKind.wrap Go.IntKind.i64 ((↑b_1 : Int) + (1 : Int))))], [Sx.SO.view (21 : Nat) (Sx.Ty.int Go.IntKind.i32) A, Sx.SO.row (21 : Nat) (Sx.Ty.int Go.IntKind.i32) B]) =
      ([Sx.SV.sl (0 : Nat) (1 : Nat) a m, Sx.SV.sl (1 : Nat) (1 : Nat) b n, Sx.SV.lit (Go.Value.int Go.IntKind.i64 (↑x' : Int))], [Sx.SO.view (21 : Nat) (Sx.Ty.int
      Go.IntKind.i32) A, Sx.SO.row (21 : Nat) (Sx.Ty.int Go.IntKind.i32) B]) ∧ (x' ≤ m ∧ List.take x' (List.take m (List.drop a A)) = List.take x' (List.take n (List.drop b B)))
      ∧ m - x' < m - b_1) ∧ True)) (Q (Sx.SV.lit (Go.Value.bool Bool.true), [Sx.SO.view (21 : Nat) (Sx.Ty.int Go.IntKind.i32) A, Sx.SO.row (21 : Nat) (Sx.Ty.int Go.IntKind.i32)
      B], [])))) (by kernel_rfl) ?_
  generalize hX : (A.drop a).take m = X at *
  have hXl : X.length = m := by rw [← hX]; exact PL.part_len A a m hm
  have hXg : ∀ i, i < m → A.getD (a + i) (Ty.int IntKind.i32).dflt = X.getD i (Ty.int IntKind.i32).dflt := fun i hi => by rw [← hX]; exact PL.getD_part A a m i _ hi
  generalize hY : (B.drop b).take n = Y at *
  have hYl : Y.length = n := by rw [← hY]; exact PL.part_len B b n hn
  have hYg : ∀ i, i < n → B.getD (b + i) (Ty.int IntKind.i32).dflt = Y.getD i (Ty.int IntKind.i32).dflt := fun i hi => by rw [← hY]; exact PL.getD_part B b n i _ hi
  refine br_intro (fun h => ?_) (fun h => ?_)
  · have h : (m : Int) ≠ (n : Nat) := by simpa using h
    rw [decF (p := X = Y) (fun e => by rw [e] at hXl; omega)] at hq
    exact hq
  · have h : (m : Int) = (n : Nat) := by simpa using h
    refine ⟨⟨0, rfl, by omega, rfl⟩, fun i hi => br_intro (fun hlt => ?_) (fun hge => ?_)⟩
    · have hlt := of_decide_eq_true hlt
      rw [hXg i (by omega), hYg i (by omega)]
      refine ⟨by omega, by omega, by omega, by omega, br_intro (fun g => ?_) (fun g => ⟨⟨i + 1, ?_, ⟨by omega, ?_⟩, by omega⟩, trivial⟩)⟩
      · have g : X.getD i (Ty.int IntKind.i32).dflt ≠ Y.getD i (Ty.int IntKind.i32).dflt := fun e => by rw [e] at g; simp at g
        rw [decF (PL.not_same g)] at hq
        exact hq
      · rw [wrap1 i (by omega)]
      · have g : X.getD i (Ty.int IntKind.i32).dflt = Y.getD i (Ty.int IntKind.i32).dflt := by
          simpa using g
        exact PL.take_step (by omega) (by omega) hi.2 g
    · have hge := of_decide_eq_false hge
      rw [decide_eq_true (p := X = Y) (PL.take_all (i := i) (by omega) (by omega) hi.2)] at hq
      exact hq
theorem v13r (X B : List Int) (b n : Nat) (Q : SV × Heap × List Nat → Prop) (hX : X.length ≤ 1000000) (hn : b + n ≤ B.length) (hq : Q (.lit (.bool (decide (X = (B.drop b).take n))), [.row 21 (.int .i32) B], [])) : (bodySumm T3 Try.prog Try.f13 (An1 0 (A13b X ((B.drop b).take n))) [.imm (.int .i32) X, .sl 0 1 b n] [.row 21 (.int .i32) B]).Leads Q := by
  refine Sx.by_text (q :=
      Sx.br ((↑(List.length X) : Int) != (↑n : Int)) (Q (Sx.SV.lit (Go.Value.bool Bool.false), [Sx.SO.row (21 : Nat) (Sx.Ty.int Go.IntKind.i32) B], [])) ((∃ (x : Nat),
      ([Sx.SV.imm (Sx.Ty.int Go.IntKind.i32) X, Sx.SV.sl (0 : Nat) (1 : Nat) b n, Sx.SV.lit (Go.Value.int Go.IntKind.i64 (0 : Int))], [Sx.SO.row (21 : Nat) (Sx.Ty.int
      Go.IntKind.i32) B]) = ([Sx.SV.imm (Sx.Ty.int Go.IntKind.i32) X, Sx.SV.sl (0 : Nat) (1 : Nat) b n, Sx.SV.lit (Go.Value.int Go.IntKind.i64 (↑x : Int))], [Sx.SO.row (21 :
      Nat) (Sx.Ty.int Go.IntKind.i32) B]) ∧ x ≤ List.length X ∧ List.take x X = List.take x (List.take n (List.drop b B))) ∧ ∀ (b_1 : Nat), b_1 ≤ List.length X ∧ List.take b_1 X
      = List.take b_1 (List.take n (List.drop b B)) → Sx.br (Decidable.decide ((↑b_1 : Int) < (↑(List.length X) : Int))) (((0 : Int) ≤ (↑b_1 : Int) ∧ (↑b_1 : Int) <
      (↑(List.length X) : Int)) ∧ b_1 < List.length X ∧ ((0 : Int) ≤ (↑b_1 : Int) ∧ (↑b_1 : Int) < (↑n : Int)) ∧ b + b_1 < List.length B ∧ Sx.br (!List.getD X b_1 (Sx.Ty.dflt
      (Sx.Ty.int Go.IntKind.i32)) == List.getD B (b + b_1) (Sx.Ty.dflt (Sx.Ty.int Go.IntKind.i32))) (Q (Sx.SV.lit (Go.Value.bool Bool.false), [Sx.SO.row (21 : Nat) (Sx.Ty.int
      Go.IntKind.i32) B], [])) ((∃ (x' : Nat), ([Sx.SV.imm (Sx.Ty.int Go.IntKind.i32) X, Sx.SV.sl (0 : Nat) (1 : Nat) b n, Sx.SV.lit (Go.Value.int Go.IntKind.i64
      (Go.IntKind.wrap Go.IntKind.i64 ((↑b_1 : Int) + (1 : Int))))], [Sx.SO.row (21 : Nat) (Sx.Ty.int Go.IntKind.i32) B]) = ([Sx.SV.imm (Sx.Ty.int Go.IntKind.i32) X, Sx.SV.sl (0
      : Nat) (1 : Nat) b n, Sx.SV.lit (Go.Value.int Go.IntKind.i64 (↑x' : Int))], [Sx.SO.row (21 : Nat) (Sx.Ty.int Go.IntKind.i32) B]) ∧ (x' ≤ List.length X ∧ List.take x' X =
      List.take x' (List.take n (List.drop b B))) ∧ List.length X - x' < List.length X - b_1) ∧ True)) (Q (Sx.SV.lit (Go.Value.bool Bool.true), [Sx.SO.row (21 : Nat) (Sx.Ty.int
      Go.IntKind.i32) B], [])))) (by kernel_rfl) ?_
  generalize hY : (B.drop b).take n = Y at *
  have hYl : Y.length = n := by rw [← hY]; exact PL.part_len B b n hn
  have hYg : ∀ i, i < n → B.getD (b + i) (Ty.int IntKind.i32).dflt = Y.getD i (Ty.int IntKind.i32).dflt := fun i hi => by rw [← hY]; exact PL.getD_part B b n i _ hi
  refine br_intro (fun h => ?_) (fun h => ?_)
  · have h : (X.length : Int) ≠ (n : Nat) := by simpa using h
    rw [decF (p := X = Y) (fun e => by rw [e] at h; omega)] at hq
    exact hq
  · have h : (X.length : Int) = (n : Nat) := by simpa using h
    refine ⟨⟨0, rfl, by omega, rfl⟩, fun i hi => br_intro (fun hlt => ?_) (fun hge => ?_)⟩
    · have hlt := of_decide_eq_true hlt
      rw [hYg i (by omega)]
      refine ⟨by omega, by omega, by omega, by omega, br_intro (fun g => ?_) (fun g => ⟨⟨i + 1, ?_, ⟨by omega, ?_⟩, by omega⟩, trivial⟩)⟩
      · have g : X.getD i (Ty.int IntKind.i32).dflt ≠ Y.getD i (Ty.int IntKind.i32).dflt := fun e => by rw [e] at g; simp at g
        rw [decF (PL.not_same g)] at hq
        exact hq
      · rw [wrap1 i (by omega)]
      · have g : X.getD i (Ty.int IntKind.i32).dflt = Y.getD i (Ty.int IntKind.i32).dflt := by simpa using g
        exact PL.take_step (by omega) (by omega) hi.2 g
    · have hge := of_decide_eq_false hge
      rw [decide_eq_true (p := X = Y) (PL.take_all (i := i) (by omega) (by omega) hi.2)] at hq
      exact hq
noncomputable def s13k : Summ := fun args H => match args, H with
  | [.imm (.int .i32) X, .imm (.int .i32) Y], [] => .need (X.length ≤ 1000000 ∧ Y.length ≤ 1000000) (.ret (.lit (.bool (decide (X = Y))), [], []))
  | [.imm (.int .i32) X, .sl 0 1 b n], [.row 21 (.int .i32) B] => .need (X.length ≤ 1000000 ∧ b + n ≤ B.length) (.ret (.lit (.bool (decide (X = (B.drop b).take n))), [.row 21 (.int .i32) B], []))
  | [.sl 0 1 a m, .sl 1 1 b n], [.view 21 (.int .i32) A, .row 21 (.int .i32) B] => .need (a + m ≤ A.length ∧ b + n ≤ B.length ∧ m ≤ 1000000) (.ret (.lit (.bool (decide ((A.drop a).take m = (B.drop b).take n))), [.view 21 (.int .i32) A, .row 21 (.int .i32) B], []))
  | _, _ => .fail
theorem s13k_ok : SummOK Try.prog 13 s13k := by
  refine summ_of_body (fn := Try.f13) (c := Try.f13.body.get!) T3_ok (by kernel_rfl) (by kernel_rfl) (by kernel_rfl) fun args H Q h => ?_
  unfold s13k at h
  split at h
  · simp only [Tree.Leads] at h
    exact ⟨_, v13b _ _ Q h.1.1 h.1.2 h.2⟩
  · simp only [Tree.Leads] at h
    exact ⟨_, v13r _ _ _ _ Q h.1.1 h.1.2 h.2⟩
  · simp only [Tree.Leads] at h
    exact ⟨_, v13v _ _ _ _ _ _ Q h.1.1 h.1.2.1 h.1.2.2 h.2⟩
  · simp only [Tree.Leads] at h
end T12
