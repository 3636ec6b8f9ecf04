/- Part of a proof: the walk of the functions that the law calls. -/
import Derived.Test.YtbfiikegaljagaaXT24d
set_option linter.unusedVariables false
open Go Sx Go.Proofs
namespace T24
set_option maxRecDepth 100000
set_option maxHeartbeats 1000000
attribute [local irreducible] Tree.Leads
theorem T2_ok : TableOK Try.prog T2 := by
  refine add_ok (add_ok (add_ok T1_ok ?_) ?_) ?_
  · exact bodySumm_sound (c := Try.f17.body.get!) T1_ok (by kernel_rfl) (by kernel_rfl) (by kernel_rfl)
  · exact bodySumm_sound (c := Try.f19.body.get!) T1_ok (by kernel_rfl) (by kernel_rfl) (by kernel_rfl)
  · exact bodySumm_sound (c := Try.f9.body.get!) T1_ok (by kernel_rfl) (by kernel_rfl) (by kernel_rfl)
theorem T3_ok : TableOK Try.prog T3 := by
  refine add_ok (add_ok (add_ok T2_ok ?_) ?_) ?_
  · exact bodySumm_sound (c := Try.f6.body.get!) T2_ok (by kernel_rfl) (by kernel_rfl) (by kernel_rfl)
  · exact bodySumm_sound (c := Try.f12.body.get!) T2_ok (by kernel_rfl) (by kernel_rfl) (by kernel_rfl)
  · exact bodySumm_sound (c := Try.f10.body.get!) T2_ok (by kernel_rfl) (by kernel_rfl) (by kernel_rfl)
theorem T4_ok : TableOK Try.prog T4 := by
  refine add_ok (add_ok T3_ok ?_) ?_
  · exact bodySumm_sound (c := Try.f7.body.get!) T3_ok (by kernel_rfl) (by kernel_rfl) (by kernel_rfl)
  · exact bodySumm_sound (c := Try.f8.body.get!) T3_ok (by kernel_rfl) (by kernel_rfl) (by kernel_rfl)
noncomputable def s5 : Summ := fun args H => match args, H with
  | [], [] => .ret (.lit (.bool true), [], [])
  | _, _ => .fail
theorem s5_ok : SummOK Try.prog 5 s5 := by
  refine summ_of_body (fn := Try.f5) (c := Try.f5.body.get!) T4_ok (by kernel_rfl) (by kernel_rfl) (by kernel_rfl) fun args H Q h => ?_
  unfold s5 at h
  split at h
  · simp only [Tree.Leads] at h
    exact ⟨noAn, v5 Q h⟩
  · simp only [Tree.Leads] at h
noncomputable def U5 : Table := (((U3.add 6 (.go s6)).add 7 (.go s7)).add 8 (.go s8)).add 5 (.go s5)
theorem U5_ok : TableOK Try.prog U5 := add_ok (add_ok (add_ok (add_ok U3_ok s6_ok) s7_ok) s8_ok) s5_ok
end T24
