/- Part of a proof: the walk of the functions that the law calls. -/
import Derived.Test.YtabnecedcnlpcaaGreatXT6d
set_option linter.unusedVariables false
open Go Sx Go.Proofs
namespace W5
set_option maxRecDepth 100000
set_option maxHeartbeats 1000000
attribute [local irreducible] Tree.Leads
noncomputable def T7a : Table := (T6.add 85 (.ext (xAtomicCas .i64))).add 86 (.ext (xAtomicSwap .i64))
theorem T7a_ok : TableOK Tryz.prog T7a := by
  refine add_ok (add_ok T6_ok ?_) ?_
  · exact atomicCas_ok (fn := Tryz.f85) (by kernel_rfl) (by kernel_rfl) (by kernel_rfl) (by kernel_rfl) (by kernel_rfl)
  · exact atomicSwap_ok (fn := Tryz.f86) (by kernel_rfl) (by kernel_rfl) (by kernel_rfl) (by kernel_rfl) (by kernel_rfl)
noncomputable def T7 : Table := (((T7a.add 58 (.go (bodySumm T7a Tryz.prog Tryz.f58 noAn))).add 59 (.go (bodySumm T7a Tryz.prog Tryz.f59 noAn))).add 56 (.go (bodySumm T7a Tryz.prog Tryz.f56 noAn))).add 21 (.go (bodySumm T7a Tryz.prog Tryz.f21 An24))
theorem T7_ok : TableOK Tryz.prog T7 := by
  refine add_ok (add_ok (add_ok (add_ok T7a_ok ?_) ?_) ?_) ?_
  · exact bodySumm_sound (c := Tryz.f58.body.get!) T7a_ok (by kernel_rfl) (by kernel_rfl) (by kernel_rfl)
  · exact bodySumm_sound (c := Tryz.f59.body.get!) T7a_ok (by kernel_rfl) (by kernel_rfl) (by kernel_rfl)
  · exact bodySumm_sound (c := Tryz.f56.body.get!) T7a_ok (by kernel_rfl) (by kernel_rfl) (by kernel_rfl)
  · exact bodySumm_sound (c := Tryz.f21.body.get!) T7a_ok (by kernel_rfl) (by kernel_rfl) (by kernel_rfl)
noncomputable def A8 (et e2 : TypeId) (n x : Int) : Ann := { live := [0, 5], mv := [], head := fun _ _ => { X := Unit, inv := fun _ => ([.ptr 0 0, .lit (.int .i64 x)], [.cells et [.lit (.int .i64 n)], .row e2 (.int .i64) [x]]), ok := fun _ => True, mu := fun _ => 0 } }
theorem v8 (et e2 : TypeId) (n x : Int) (Q : SV × Heap × List Nat → Prop)
    (hq : br (decide (n ≥ x)) (Q (.lit (.int .i64 n), [.cells et [.lit (.int .i64 n)], .row e2 (.int .i64) [x]], [])) (Q (.lit (.int .i64 x), [.cells et [.lit (.int .i64 x)], .row e2 (.int .i64) [x]], []))) :
    (bodySumm T7 Tryz.prog Tryz.f12 (An1 0 (A8 et e2 n x)) [.ptr 0 0, .sl 1 1 0 1] [.cells et [.lit (.int .i64 n)], .row e2 (.int .i64) [x]]).Leads Q := by
  refine Sx.by_text (q :=
      ((0 : Int) ≤ (0 : Int) ∧ (0 : Int) < (↑(1 : Nat) : Int)) ∧ (0 : Nat) < (1 : Nat) ∧ (∃ (x_1 : Unit), ([SV.ptr (0 : Nat) (0 : Nat), SV.lit (Value.int IntKind.i64 (List.getD
      [x] (0 : Nat) (Ty.dflt (Ty.int IntKind.i64))))], [SO.cells et [SV.lit (Value.int IntKind.i64 n)], SO.row e2 (Ty.int IntKind.i64) [x]]) = ([SV.ptr (0 : Nat) (0 : Nat),
      SV.lit (Value.int IntKind.i64 x)], [SO.cells et [SV.lit (Value.int IntKind.i64 n)], SO.row e2 (Ty.int IntKind.i64) [x]]) ∧ True) ∧ ∀ (b : Unit), True → br (decide (n ≥ x))
      (Q (SV.lit (Value.int IntKind.i64 n), [SO.cells et [SV.lit (Value.int IntKind.i64 n)], SO.row e2 (Ty.int IntKind.i64) [x]], [])) (br (n == n) (Q (SV.lit (Value.int
      IntKind.i64 x), [SO.cells et [SV.lit (Value.int IntKind.i64 x)], SO.row e2 (Ty.int IntKind.i64) [x]], [])) ((∃ (x' : Unit), ([SV.ptr (0 : Nat) (0 : Nat), SV.lit (Value.int
      IntKind.i64 x)], [SO.cells et [SV.lit (Value.int IntKind.i64 n)], SO.row e2 (Ty.int IntKind.i64) [x]]) = ([SV.ptr (0 : Nat) (0 : Nat), SV.lit (Value.int IntKind.i64 x)],
      [SO.cells et [SV.lit (Value.int IntKind.i64 n)], SO.row e2 (Ty.int IntKind.i64) [x]]) ∧ True ∧ (0 : Nat) < (0 : Nat)) ∧ True))) (by kernel_rfl) ?_
  refine ⟨by omega, by simp, ⟨(), by simp, trivial⟩, fun _ _ => ?_⟩
  rw [br_iff] at hq
  refine br_intro hq.1 fun h => br_intro (fun _ => hq.2 h) (fun h => by simp at h)
noncomputable def s8 : Summ := fun args H => match args, H with
  | [.ptr 0 0, .sl 1 1 0 1], [.cells et [.lit (.int .i64 n)], .row e2 (.int .i64) [x]] => .ite (decide (n ≥ x)) (.ret (.lit (.int .i64 n), [.cells et [.lit (.int .i64 n)], .row e2 (.int .i64) [x]], [])) (.ret (.lit (.int .i64 x), [.cells et [.lit (.int .i64 x)], .row e2 (.int .i64) [x]], []))
  | _, _ => .fail
theorem s8_ok : SummOK Tryz.prog 12 s8 := by
  refine summ_of_body (fn := Tryz.f12) (c := Tryz.f12.body.get!) T7_ok (by kernel_rfl) (by kernel_rfl) (by kernel_rfl) fun args H Q h => ?_
  unfold s8 at h
  split at h
  · rename_i et n e2 x
    simp only [Tree.Leads] at h
    exact ⟨An1 0 (A8 et e2 n x), v8 et e2 n x Q h⟩
  · simp only [Tree.Leads] at h
noncomputable def T8 : Table := (((T7.add 11 (.go (bodySumm T7 Tryz.prog Tryz.f11 noAn))).add 12 (.go s8)).add 14 (.go (bodySumm T7 Tryz.prog Tryz.f14 noAn))).add 13 (.go (bodySumm T7 Tryz.prog Tryz.f13 noAn))
theorem T8_ok : TableOK Tryz.prog T8 := by
  refine add_ok (add_ok (add_ok (add_ok T7_ok ?_) s8_ok) ?_) ?_
  · exact bodySumm_sound (c := Tryz.f11.body.get!) T7_ok (by kernel_rfl) (by kernel_rfl) (by kernel_rfl)
  · exact bodySumm_sound (c := Tryz.f14.body.get!) T7_ok (by kernel_rfl) (by kernel_rfl) (by kernel_rfl)
  · exact bodySumm_sound (c := Tryz.f13.body.get!) T7_ok (by kernel_rfl) (by kernel_rfl) (by kernel_rfl)
theorem v6 (Q : SV × Heap × List Nat → Prop) (hq : Q (.lit (.bool true), [], [])) : (bodySumm T8 Tryz.prog Tryz.f4 noAn [] []).Leads Q := by
  refine Sx.by_text (q :=
      ((0 : Int) ≤ (0 : Int) ∧ (0 : Int) < (↑(2 : Nat) : Int)) ∧ (0 : Nat) < (2 : Nat) ∧ ((0 : Int) ≤ IntKind.wrap IntKind.i64 ((0 : Int) + (1 : Int)) ∧ IntKind.wrap IntKind.i64
      ((0 : Int) + (1 : Int)) < (↑(2 : Nat) : Int)) ∧ (1 : Nat) < (2 : Nat) ∧ Q (SV.lit (Value.bool true), ([] : List Sx.SO), [])) (by kernel_rfl) ?_
  refine ⟨by omega, by omega, ?_, by omega, hq⟩
  simp only [IntKind.wrap_i64]; omega
noncomputable def s6 : Summ := fun args H => match args, H with
  | [], [] => .ret (.lit (.bool true), [], [])
  | _, _ => .fail
theorem s6_ok : SummOK Tryz.prog 4 s6 := by
  refine summ_of_body (fn := Tryz.f4) (c := Tryz.f4.body.get!) T8_ok (by kernel_rfl) (by kernel_rfl) (by kernel_rfl) fun args H Q h => ?_
  unfold s6 at h
  split at h <;> simp only [Tree.Leads] at h
  exact ⟨_, v6 Q h⟩
end W5
