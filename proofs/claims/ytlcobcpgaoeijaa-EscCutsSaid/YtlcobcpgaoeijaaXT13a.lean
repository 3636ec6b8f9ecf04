/- Part of a proof: the walk of the functions that the law calls. -/
import Derived.Test.YtlcobcpgaoeijaaSxT
import Derived.Test.YtlcobcpgaoeijaaProg
import Derived.Test.YtlcobcpgaoeijaaXP12
import Derived.Test.YtlcobcpgaoeijaaXPL
open Go Sx Go.Proofs
namespace T13
set_option maxRecDepth 100000
set_option maxHeartbeats 1000000
attribute [local irreducible] Tree.Leads
noncomputable def T0 : Table := ((((((((Table.none.add 34 (.ext (xAtomicLoad .u32))).add 46 (.ext xAtomicStore)).add 53 (.ext (xAtomicCas .i32))).add 58 (.ext (xAtomicAdd .i32))).add 52 (.ext xMark0)).add 54 (.ext xMark0)).add 55 (.ext xMarked)).add 57 (.ext xMarked))
theorem T0_ok : TableOK Try.prog T0 := by
  refine add_ok (add_ok (add_ok (add_ok (add_ok (add_ok (add_ok (add_ok none_ok ?_) ?_) ?_) ?_) ?_) ?_) ?_) ?_
  · exact atomicLoad_ok (fn := Try.f34) (by kernel_rfl) (by kernel_rfl) (by kernel_rfl) (by kernel_rfl) (by kernel_rfl)
  · exact atomicStore_ok (fn := Try.f46) (by kernel_rfl) (by kernel_rfl) (by kernel_rfl) (by kernel_rfl) (by kernel_rfl)
  · exact atomicCas_ok (fn := Try.f53) (by kernel_rfl) (by kernel_rfl) (by kernel_rfl) (by kernel_rfl) (by kernel_rfl)
  · exact atomicAdd_ok (fn := Try.f58) (by kernel_rfl) (by kernel_rfl) (by kernel_rfl) (by kernel_rfl) (by kernel_rfl)
  · exact mark0_ok (fn := Try.f52) .disable (by kernel_rfl) (by kernel_rfl) (by kernel_rfl) (by kernel_rfl) (by kernel_rfl)
  · exact mark0_ok (fn := Try.f54) .enable (by kernel_rfl) (by kernel_rfl) (by kernel_rfl) (by kernel_rfl) (by kernel_rfl)
  · exact marked_ok (fn := Try.f55) .acquire (by kernel_rfl) (by kernel_rfl) (by kernel_rfl) (by kernel_rfl) (by kernel_rfl)
  · exact marked_ok (fn := Try.f57) .releaseMerge (by kernel_rfl) (by kernel_rfl) (by kernel_rfl) (by kernel_rfl) (by kernel_rfl)
noncomputable def T1 : Table := ((T0.add 47 (.go (bodySumm T0 Try.prog Try.f47 noAn))).add 44 (.go (bodySumm T0 Try.prog Try.f44 noAn))).add 45 (.go (bodySumm T0 Try.prog Try.f45 noAn))
theorem T1_ok : TableOK Try.prog T1 := by
  refine add_ok (add_ok (add_ok T0_ok ?_) ?_) ?_
  · exact bodySumm_sound (c := Try.f47.body.get!) T0_ok (by kernel_rfl) (by kernel_rfl) (by kernel_rfl)
  · exact bodySumm_sound (c := Try.f44.body.get!) T0_ok (by kernel_rfl) (by kernel_rfl) (by kernel_rfl)
  · exact bodySumm_sound (c := Try.f45.body.get!) T0_ok (by kernel_rfl) (by kernel_rfl) (by kernel_rfl)
noncomputable def T2 : Table := ((((T1.add 26 (.go (bodySumm T1 Try.prog Try.f26 noAn))).add 37 (.god (bodySummD T1 Try.prog Try.f37 noAn))).add 35 (.go (bodySumm T1 Try.prog Try.f35 noAn))).add 36 (.god (bodySummD T1 Try.prog Try.f36 noAn))).add 21 (.go (bodySumm T1 Try.prog Try.f21 noAn))
theorem T2_ok : TableOK Try.prog T2 := by
  refine add_ok (add_ok (add_ok (add_ok (add_ok T1_ok ?_) ?_) ?_) ?_) ?_
  · exact bodySumm_sound (c := Try.f26.body.get!) T1_ok (by kernel_rfl) (by kernel_rfl) (by kernel_rfl)
  · exact bodySummD_sound (c := Try.f37.body.get!) T1_ok (by kernel_rfl) (by kernel_rfl) (by kernel_rfl)
  · exact bodySumm_sound (c := Try.f35.body.get!) T1_ok (by kernel_rfl) (by kernel_rfl) (by kernel_rfl)
  · exact bodySummD_sound (c := Try.f36.body.get!) T1_ok (by kernel_rfl) (by kernel_rfl) (by kernel_rfl)
  · exact bodySumm_sound (c := Try.f21.body.get!) T1_ok (by kernel_rfl) (by kernel_rfl) (by kernel_rfl)
noncomputable def T3 : Table := T2.add 27 (.go (bodySumm T2 Try.prog Try.f27 noAn))
theorem T3_ok : TableOK Try.prog T3 := by
  refine add_ok T2_ok ?_
  exact bodySumm_sound (c := Try.f27.body.get!) T2_ok (by kernel_rfl) (by kernel_rfl) (by kernel_rfl)
end T13
