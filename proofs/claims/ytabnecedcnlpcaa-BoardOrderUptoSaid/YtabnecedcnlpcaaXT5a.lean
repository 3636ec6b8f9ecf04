/- Part of a proof: the walk of the functions that the law calls. -/
import Derived.Test.YtabnecedcnlpcaaSxT
import Derived.Test.YtabnecedcnlpcaaProg
import Derived.Test.YtabnecedcnlpcaaXPL
set_option linter.unusedVariables false
open Go Sx Go.Proofs
namespace T5
set_option maxRecDepth 100000
set_option maxHeartbeats 1000000
attribute [local irreducible] Tree.Leads
noncomputable def T0 : Table := (((((((((Table.none.add 31 (.ext xAtomicAddT)).add 32 (.ext xAtomicLoadT)).add 44 (.ext (xAtomicLoad .u32))).add 57 (.ext xAtomicStore)).add 47 (.ext (xAtomicCas .i32))).add 55 (.ext (xAtomicAdd .i32))).add 46 (.ext xMark0)).add 48 (.ext xMark0)).add 49 (.ext xMarked)).add 54 (.ext xMarked)
theorem T0_ok : TableOK Try.prog T0 := by
  refine add_ok (add_ok (add_ok (add_ok (add_ok (add_ok (add_ok (add_ok (add_ok (add_ok none_ok ?_) ?_) ?_) ?_) ?_) ?_) ?_) ?_) ?_) ?_
  · exact atomicAddT_ok (fn := Try.f31) (by kernel_rfl) (by kernel_rfl) (by kernel_rfl) (by kernel_rfl) (by kernel_rfl)
  · exact atomicLoadT_ok (fn := Try.f32) (by kernel_rfl) (by kernel_rfl) (by kernel_rfl) (by kernel_rfl) (by kernel_rfl)
  · exact atomicLoad_ok (fn := Try.f44) (by kernel_rfl) (by kernel_rfl) (by kernel_rfl) (by kernel_rfl) (by kernel_rfl)
  · exact atomicStore_ok (fn := Try.f57) (by kernel_rfl) (by kernel_rfl) (by kernel_rfl) (by kernel_rfl) (by kernel_rfl)
  · exact atomicCas_ok (fn := Try.f47) (by kernel_rfl) (by kernel_rfl) (by kernel_rfl) (by kernel_rfl) (by kernel_rfl)
  · exact atomicAdd_ok (fn := Try.f55) (by kernel_rfl) (by kernel_rfl) (by kernel_rfl) (by kernel_rfl) (by kernel_rfl)
  · exact mark0_ok (fn := Try.f46) .disable (by kernel_rfl) (by kernel_rfl) (by kernel_rfl) (by kernel_rfl) (by kernel_rfl)
  · exact mark0_ok (fn := Try.f48) .enable (by kernel_rfl) (by kernel_rfl) (by kernel_rfl) (by kernel_rfl) (by kernel_rfl)
  · exact marked_ok (fn := Try.f49) .acquire (by kernel_rfl) (by kernel_rfl) (by kernel_rfl) (by kernel_rfl) (by kernel_rfl)
  · exact marked_ok (fn := Try.f54) .releaseMerge (by kernel_rfl) (by kernel_rfl) (by kernel_rfl) (by kernel_rfl) (by kernel_rfl)
noncomputable def T1 : Table := ((((T0.add 58 (.go (bodySumm T0 Try.prog Try.f58 noAn))).add 38 (.go (bodySumm T0 Try.prog Try.f38 noAn))).add 42 (.go (bodySumm T0 Try.prog Try.f42 noAn))).add 17 (.go (bodySumm T0 Try.prog Try.f17 noAn))).add 19 (.go (bodySumm T0 Try.prog Try.f19 noAn))
theorem T1_ok : TableOK Try.prog T1 := by
  refine add_ok (add_ok (add_ok (add_ok (add_ok T0_ok ?_) ?_) ?_) ?_) ?_
  · exact bodySumm_sound (c := Try.f58.body.get!) T0_ok (by kernel_rfl) (by kernel_rfl) (by kernel_rfl)
  · exact bodySumm_sound (c := Try.f38.body.get!) T0_ok (by kernel_rfl) (by kernel_rfl) (by kernel_rfl)
  · exact bodySumm_sound (c := Try.f42.body.get!) T0_ok (by kernel_rfl) (by kernel_rfl) (by kernel_rfl)
  · exact bodySumm_sound (c := Try.f17.body.get!) T0_ok (by kernel_rfl) (by kernel_rfl) (by kernel_rfl)
  · exact bodySumm_sound (c := Try.f19.body.get!) T0_ok (by kernel_rfl) (by kernel_rfl) (by kernel_rfl)
noncomputable def T2 : Table := ((((T1.add 36 (.go (bodySumm T1 Try.prog Try.f36 noAn))).add 45 (.god (bodySummD T1 Try.prog Try.f45 noAn))).add 27 (.go (bodySumm T1 Try.prog Try.f27 noAn))).add 30 (.god (bodySummD T1 Try.prog Try.f30 noAn))).add 26 (.go (bodySumm T1 Try.prog Try.f26 noAn))
theorem T2_ok : TableOK Try.prog T2 := by
  refine add_ok (add_ok (add_ok (add_ok (add_ok T1_ok ?_) ?_) ?_) ?_) ?_
  · exact bodySumm_sound (c := Try.f36.body.get!) T1_ok (by kernel_rfl) (by kernel_rfl) (by kernel_rfl)
  · exact bodySummD_sound (c := Try.f45.body.get!) T1_ok (by kernel_rfl) (by kernel_rfl) (by kernel_rfl)
  · exact bodySumm_sound (c := Try.f27.body.get!) T1_ok (by kernel_rfl) (by kernel_rfl) (by kernel_rfl)
  · exact bodySummD_sound (c := Try.f30.body.get!) T1_ok (by kernel_rfl) (by kernel_rfl) (by kernel_rfl)
  · exact bodySumm_sound (c := Try.f26.body.get!) T1_ok (by kernel_rfl) (by kernel_rfl) (by kernel_rfl)
noncomputable def T3 : Table := T2.add 37 (.go (bodySumm T2 Try.prog Try.f37 noAn))
theorem T3_ok : TableOK Try.prog T3 := add_ok T2_ok (bodySumm_sound (c := Try.f37.body.get!) T2_ok (by kernel_rfl) (by kernel_rfl) (by kernel_rfl))
noncomputable def T4 : Table := T3.add 25 (.go (bodySumm T3 Try.prog Try.f25 noAn))
theorem T4_ok : TableOK Try.prog T4 := add_ok T3_ok (bodySumm_sound (c := Try.f25.body.get!) T3_ok (by kernel_rfl) (by kernel_rfl) (by kernel_rfl))
def bcells (u : Int) (m : SV) : List SV := [.lit (.int .u32 u), .lit (.int .i32 0), .lit (.int .u32 0), .lit (.int .i32 0), .lit (.int .u32 0), m]
end T5
