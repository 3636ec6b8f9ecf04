/- Part of a proof: the walk of the functions that the law calls. -/
import Derived.Test.YtabnecedcnlpcaaGreatXT6b
set_option linter.unusedVariables false
open Go Sx Go.Proofs
namespace W5
set_option maxRecDepth 100000
set_option maxHeartbeats 1000000
attribute [local irreducible] Tree.Leads
noncomputable def T5 : Table := ((T4.add 100 (.call xClone)).add 19 (.call (xKeys 65 38))).add 18 (.call (xSorted 9 65 38 Tryz.prog))
theorem T5_ok : TableOK Tryz.prog T5 := by
  refine add_ok (add_ok (add_ok T4_ok ?_) ?_) ?_
  · exact xClone_ok (fn := Tryz.f100) (c := Tryz.f100.body.get!) (by kernel_rfl) (by kernel_rfl) (by kernel_rfl) Tryz.clone43
  · exact xKeys_ok (fn := Tryz.f19) (c := Tryz.f19.body.get!) (by kernel_rfl) (by kernel_rfl) (by kernel_rfl) Tryz.keysC
  · exact xSorted_ok (fn := Tryz.f18) (c := Tryz.f18.body.get!) (by kernel_rfl) (by kernel_rfl) (by kernel_rfl) Tryz.sortsKeys
noncomputable def T6 : Table := T5.add 67 (.go (bodySumm T5 Tryz.prog Tryz.f67 noAn))
theorem T6_ok : TableOK Tryz.prog T6 := add_ok T5_ok (bodySumm_sound (c := Tryz.f67.body.get!) T5_ok (by kernel_rfl) (by kernel_rfl) (by kernel_rfl))
def mapOf (l : List (ByteArray × Int)) : SO := .tmap (mapR Tryz.prog 9) 64 l
end W5
