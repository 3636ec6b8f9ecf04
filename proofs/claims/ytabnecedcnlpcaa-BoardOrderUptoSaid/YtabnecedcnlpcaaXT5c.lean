/- Part of a proof: the walk of the functions that the law calls. -/
import Derived.Test.YtabnecedcnlpcaaXT5b
set_option linter.unusedVariables false
open Go Sx Go.Proofs
namespace T5
set_option maxRecDepth 100000
set_option maxHeartbeats 1000000
attribute [local irreducible] Tree.Leads
noncomputable def T5 : Table := ((T4.add 43 (.call xClone)).add 29 (.call (xKeys 41 55))).add 28 (.call (xSorted 9 41 55 Try.prog))
theorem T5_ok : TableOK Try.prog T5 := by
  refine add_ok (add_ok (add_ok T4_ok ?_) ?_) ?_
  · exact xClone_ok (fn := Try.f43) (c := Try.f43.body.get!) (by kernel_rfl) (by kernel_rfl) (by kernel_rfl) Try.clone43
  · exact xKeys_ok (fn := Try.f29) (c := Try.f29.body.get!) (by kernel_rfl) (by kernel_rfl) (by kernel_rfl) Try.keysC
  · exact xSorted_ok (fn := Try.f28) (c := Try.f28.body.get!) (by kernel_rfl) (by kernel_rfl) (by kernel_rfl) Try.sortsKeys
noncomputable def T6 : Table := T5.add 35 (.go (bodySumm T5 Try.prog Try.f35 noAn))
theorem T6_ok : TableOK Try.prog T6 := add_ok T5_ok (bodySumm_sound (c := Try.f35.body.get!) T5_ok (by kernel_rfl) (by kernel_rfl) (by kernel_rfl))
def mapOf (l : List (ByteArray × Int)) : SO := .tmap (mapR Try.prog 9) 31 l
end T5
