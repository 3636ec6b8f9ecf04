/- Part of a proof: the walk of the functions that the law calls. -/
import Derived.Test.YtabnecedcnlpcaaGreatSxT
import Derived.Test.YtabnecedcnlpcaaGreatProg
import Derived.Test.YtabnecedcnlpcaaGreatXPL
set_option linter.unusedVariables false
open Go Sx Go.Proofs
namespace W5
set_option maxRecDepth 100000
set_option maxHeartbeats 1000000
attribute [local irreducible] Tree.Leads
noncomputable def T0 : Table := (((((((((Table.none.add 83 (.ext xAtomicAddT)).add 84 (.ext xAtomicLoadT)).add 87 (.ext (xAtomicLoad .u32))).add 102 (.ext xAtomicStore)).add 90 (.ext (xAtomicCas .i32))).add 98 (.ext (xAtomicAdd .i32))).add 89 (.ext xMark0)).add 91 (.ext xMark0)).add 92 (.ext xMarked)).add 97 (.ext xMarked)
theorem T0_ok : TableOK Tryz.prog T0 := by
  refine add_ok (add_ok (add_ok (add_ok (add_ok (add_ok (add_ok (add_ok (add_ok (add_ok none_ok ?_) ?_) ?_) ?_) ?_) ?_) ?_) ?_) ?_) ?_
  · exact atomicAddT_ok (fn := Tryz.f83) (by kernel_rfl) (by kernel_rfl) (by kernel_rfl) (by kernel_rfl) (by kernel_rfl)
  · exact atomicLoadT_ok (fn := Tryz.f84) (by kernel_rfl) (by kernel_rfl) (by kernel_rfl) (by kernel_rfl) (by kernel_rfl)
  · exact atomicLoad_ok (fn := Tryz.f87) (by kernel_rfl) (by kernel_rfl) (by kernel_rfl) (by kernel_rfl) (by kernel_rfl)
  · exact atomicStore_ok (fn := Tryz.f102) (by kernel_rfl) (by kernel_rfl) (by kernel_rfl) (by kernel_rfl) (by kernel_rfl)
  · exact atomicCas_ok (fn := Tryz.f90) (by kernel_rfl) (by kernel_rfl) (by kernel_rfl) (by kernel_rfl) (by kernel_rfl)
  · exact atomicAdd_ok (fn := Tryz.f98) (by kernel_rfl) (by kernel_rfl) (by kernel_rfl) (by kernel_rfl) (by kernel_rfl)
  · exact mark0_ok (fn := Tryz.f89) .disable (by kernel_rfl) (by kernel_rfl) (by kernel_rfl) (by kernel_rfl) (by kernel_rfl)
  · exact mark0_ok (fn := Tryz.f91) .enable (by kernel_rfl) (by kernel_rfl) (by kernel_rfl) (by kernel_rfl) (by kernel_rfl)
  · exact marked_ok (fn := Tryz.f92) .acquire (by kernel_rfl) (by kernel_rfl) (by kernel_rfl) (by kernel_rfl) (by kernel_rfl)
  · exact marked_ok (fn := Tryz.f97) .releaseMerge (by kernel_rfl) (by kernel_rfl) (by kernel_rfl) (by kernel_rfl) (by kernel_rfl)
noncomputable def T1 : Table := ((((T0.add 103 (.go (bodySumm T0 Tryz.prog Tryz.f103 noAn))).add 62 (.go (bodySumm T0 Tryz.prog Tryz.f62 noAn))).add 66 (.go (bodySumm T0 Tryz.prog Tryz.f66 noAn))).add 55 (.go (bodySumm T0 Tryz.prog Tryz.f55 noAn))).add 57 (.go (bodySumm T0 Tryz.prog Tryz.f57 noAn))
theorem T1_ok : TableOK Tryz.prog T1 := by
  refine add_ok (add_ok (add_ok (add_ok (add_ok T0_ok ?_) ?_) ?_) ?_) ?_
  · exact bodySumm_sound (c := Tryz.f103.body.get!) T0_ok (by kernel_rfl) (by kernel_rfl) (by kernel_rfl)
  · exact bodySumm_sound (c := Tryz.f62.body.get!) T0_ok (by kernel_rfl) (by kernel_rfl) (by kernel_rfl)
  · exact bodySumm_sound (c := Tryz.f66.body.get!) T0_ok (by kernel_rfl) (by kernel_rfl) (by kernel_rfl)
  · exact bodySumm_sound (c := Tryz.f55.body.get!) T0_ok (by kernel_rfl) (by kernel_rfl) (by kernel_rfl)
  · exact bodySumm_sound (c := Tryz.f57.body.get!) T0_ok (by kernel_rfl) (by kernel_rfl) (by kernel_rfl)
noncomputable def T2 : Table := ((((T1.add 60 (.go (bodySumm T1 Tryz.prog Tryz.f60 noAn))).add 88 (.god (bodySummD T1 Tryz.prog Tryz.f88 noAn))).add 17 (.go (bodySumm T1 Tryz.prog Tryz.f17 noAn))).add 20 (.god (bodySummD T1 Tryz.prog Tryz.f20 noAn))).add 16 (.go (bodySumm T1 Tryz.prog Tryz.f16 noAn))
theorem T2_ok : TableOK Tryz.prog T2 := by
  refine add_ok (add_ok (add_ok (add_ok (add_ok T1_ok ?_) ?_) ?_) ?_) ?_
  · exact bodySumm_sound (c := Tryz.f60.body.get!) T1_ok (by kernel_rfl) (by kernel_rfl) (by kernel_rfl)
  · exact bodySummD_sound (c := Tryz.f88.body.get!) T1_ok (by kernel_rfl) (by kernel_rfl) (by kernel_rfl)
  · exact bodySumm_sound (c := Tryz.f17.body.get!) T1_ok (by kernel_rfl) (by kernel_rfl) (by kernel_rfl)
  · exact bodySummD_sound (c := Tryz.f20.body.get!) T1_ok (by kernel_rfl) (by kernel_rfl) (by kernel_rfl)
  · exact bodySumm_sound (c := Tryz.f16.body.get!) T1_ok (by kernel_rfl) (by kernel_rfl) (by kernel_rfl)
noncomputable def T3 : Table := T2.add 61 (.go (bodySumm T2 Tryz.prog Tryz.f61 noAn))
theorem T3_ok : TableOK Tryz.prog T3 := add_ok T2_ok (bodySumm_sound (c := Tryz.f61.body.get!) T2_ok (by kernel_rfl) (by kernel_rfl) (by kernel_rfl))
noncomputable def T4 : Table := T3.add 15 (.go (bodySumm T3 Tryz.prog Tryz.f15 noAn))
theorem T4_ok : TableOK Tryz.prog T4 := add_ok T3_ok (bodySumm_sound (c := Tryz.f15.body.get!) T3_ok (by kernel_rfl) (by kernel_rfl) (by kernel_rfl))
def bcells (u : Int) (m : SV) : List SV := [.lit (.int .u32 u), .lit (.int .i32 0), .lit (.int .u32 0), .lit (.int .i32 0), .lit (.int .u32 0), m]
end W5
