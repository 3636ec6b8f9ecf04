/- Part of a proof: the walk of the functions that the law calls. -/
import Derived.Test.YtbfiikegaljagaaSxT
import Derived.Test.YtbfiikegaljagaaProg
set_option linter.unusedVariables false
open Go Sx Go.Proofs
namespace T24
set_option maxRecDepth 100000
attribute [local irreducible] Tree.Leads
noncomputable def T0 : Table := (Table.none.add 70 (.ext (xAtomicAdd .i64))).add 71 (.ext (xAtomicLoad .i64))
theorem T0_ok : TableOK Try.prog T0 := by
  refine add_ok (add_ok none_ok ?_) ?_
  · exact atomicAdd_ok (fn := Try.f70) (by kernel_rfl) (by kernel_rfl) (by kernel_rfl) (by kernel_rfl) (by kernel_rfl)
  · exact atomicLoad_ok (fn := Try.f71) (by kernel_rfl) (by kernel_rfl) (by kernel_rfl) (by kernel_rfl) (by kernel_rfl)
noncomputable def T1 : Table := ((T0.add 53 (.go (bodySumm T0 Try.prog Try.f53 noAn))).add 54 (.go (bodySumm T0 Try.prog Try.f54 noAn))).add 18 (.go (bodySumm T0 Try.prog Try.f18 noAn))
theorem T1_ok : TableOK Try.prog T1 := by
  refine add_ok (add_ok (add_ok T0_ok ?_) ?_) ?_
  · exact bodySumm_sound (c := Try.f53.body.get!) T0_ok (by kernel_rfl) (by kernel_rfl) (by kernel_rfl)
  · exact bodySumm_sound (c := Try.f54.body.get!) T0_ok (by kernel_rfl) (by kernel_rfl) (by kernel_rfl)
  · exact bodySumm_sound (c := Try.f18.body.get!) T0_ok (by kernel_rfl) (by kernel_rfl) (by kernel_rfl)
noncomputable def T2 : Table := ((T1.add 17 (.go (bodySumm T1 Try.prog Try.f17 noAn))).add 19 (.go (bodySumm T1 Try.prog Try.f19 noAn))).add 9 (.go (bodySumm T1 Try.prog Try.f9 noAn))
noncomputable def T3 : Table := ((T2.add 6 (.go (bodySumm T2 Try.prog Try.f6 noAn))).add 12 (.go (bodySumm T2 Try.prog Try.f12 noAn))).add 10 (.go (bodySumm T2 Try.prog Try.f10 noAn))
noncomputable def T4 : Table := (T3.add 7 (.go (bodySumm T3 Try.prog Try.f7 noAn))).add 8 (.go (bodySumm T3 Try.prog Try.f8 noAn))
theorem v5 (Q : SV × Heap × List Nat → Prop) (hq : Q (.lit (.bool true), [], [])) : (bodySumm T4 Try.prog Try.f5 noAn [] []).Leads Q := by
  refine Sx.by_text (q :=
      ((0 : Int) ≤ (0 : Int) ∧ (0 : Int) < (↑(2 : Nat) : Int)) ∧ (0 : Nat) < (2 : Nat) ∧ (1 : Nat) ≤ (1 : Nat) ∧ ((↑(1 : Nat) : Int) ≤ (9223372036854775807 : Int) ∧ (1 : Nat) *
      Sx.bytesOf Go.Proofs.Try.prog (37 : Nat) ≤ (140737488355328 : Nat)) ∧ ((0 : Int) ≤ IntKind.wrap IntKind.i64 ((0 : Int) + (1 : Int)) ∧ IntKind.wrap IntKind.i64 ((0 : Int) +
      (1 : Int)) < (↑(2 : Nat) : Int)) ∧ (1 : Nat) < (2 : Nat) ∧ (1 : Nat) ≤ (1 : Nat) ∧ (1 : Nat) ≤ (1 : Nat) ∧ ((↑(2 : Nat) : Int) ≤ (9223372036854775807 : Int) ∧ (2 : Nat) *
      Sx.bytesOf Go.Proofs.Try.prog (37 : Nat) ≤ (140737488355328 : Nat)) ∧ ((0 : Int) ≤ (0 : Int) ∧ (0 : Int) < (↑(1 : Nat) : Int)) ∧ (0 : Nat) < (1 : Nat) ∧ ((0 : Int) ≤ (0 :
      Int) ∧ (0 : Int) < (↑(2 : Nat) : Int)) ∧ (0 : Nat) < (2 : Nat) ∧ (1 : Nat) ≤ (1 : Nat) ∧ (2 : Nat) ≤ (2 : Nat) ∧ ((↑(3 : Nat) : Int) ≤ (9223372036854775807 : Int) ∧ (3 :
      Nat) * Sx.bytesOf Go.Proofs.Try.prog (37 : Nat) ≤ (140737488355328 : Nat)) ∧ ((0 : Int) ≤ (2 : Int) ∧ (2 : Int) < (↑(3 : Nat) : Int)) ∧ (2 : Nat) < (3 : Nat) ∧ ((0 : Int)
      ≤ (↑(3 : Nat) : Int) ∧ (↑(3 : Nat) : Int) ≤ (↑(3 : Nat) : Int)) ∧ ((0 : Int) ≤ IntKind.wrap IntKind.i64 ((2 : Int) + (1 : Int)) ∧ IntKind.wrap IntKind.i64 ((2 : Int) + (1
      : Int)) ≤ (↑(3 : Nat) : Int)) ∧ ((0 : Int) ≤ (2 : Int) ∧ (2 : Int) ≤ (↑(3 : Nat) : Int)) ∧ ((0 : Int) ≤ (2 : Int) ∧ (2 : Int) ≤ (↑(3 : Nat) : Int)) ∧ True ∧ True ∧ ((0 :
      Int) ≤ IntKind.wrap IntKind.i64 ((2 : Int) + (1 : Int)) ∧ IntKind.wrap IntKind.i64 ((2 : Int) + (1 : Int)) ≤ (↑(3 : Nat) : Int)) ∧ (3 : Nat) ≤ (3 : Nat) ∧ ((0 : Int) ≤
      (↑(3 : Nat) : Int) ∧ (↑(3 : Nat) : Int) ≤ (↑(3 : Nat) : Int)) ∧ ((0 : Int) ≤ (↑(2 : Nat) : Int) ∧ (↑(2 : Nat) : Int) ≤ (↑(3 : Nat) : Int)) ∧ (3 : Nat) ≤ (3 : Nat) ∧ Q
      (SV.lit (Value.bool true), ([] : List Sx.SO), [])) (by kernel_rfl) ?_
  have hb : bytesOf Try.prog 37 = 32 := by kernel_rfl
  simp only [hb, IntKind.wrap_i64]
  refine ⟨by omega, by omega, by omega, by omega, by omega, by omega, by omega, by omega, by omega, by omega, by omega, by omega, by omega, by omega, by omega, by omega, by omega, by omega, by omega, by omega, by omega, by omega, trivial, trivial, by omega, by omega, by omega, by omega, by omega, hq⟩
end T24
