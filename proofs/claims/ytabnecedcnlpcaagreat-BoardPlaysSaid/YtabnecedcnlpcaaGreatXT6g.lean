/- Part of a proof: the walk of the functions that the law calls. -/
import Derived.Test.YtabnecedcnlpcaaGreatSxT
import Derived.Test.YtabnecedcnlpcaaGreatXPB6
set_option linter.unusedVariables false
open Go Sx Go.Proofs
namespace W5
set_option maxRecDepth 100000
set_option maxHeartbeats 1000000
attribute [local irreducible] Tree.Leads
/-- A mark's name. -/
def nm (i k : Int) : ByteArray := bsOf [109, IntKind.u8.wrap (IntKind.i64.wrap (65 + i.tmod 26)), IntKind.u8.wrap (IntKind.i64.wrap (65 + (IntKind.i64.wrap (i.tdiv 26)).tmod 26)), IntKind.u8.wrap (IntKind.i64.wrap (48 + k.tmod 10)), IntKind.u8.wrap (IntKind.i64.wrap (48 + (IntKind.i64.wrap (k.tdiv 10)).tmod 10)), IntKind.u8.wrap (IntKind.i64.wrap (48 + (IntKind.i64.wrap (k.tdiv 100)).tmod 10))]
theorem v101 (i k : Int) (Q : SV × Heap × List Nat → Prop) (hq : Q (.lit (.string (nm i k)), [], [])) :
    (bodySumm Table.none Tryz.prog Tryz.f101 noAn [.lit (.int .i64 i), .lit (.int .i64 k)] []).Leads Q := by
  refine Sx.by_text (q :=
      ((26 : Int) = (0 : Int) → False) ∧ ((26 : Int) = (0 : Int) → False) ∧ ((26 : Int) = (0 : Int) → False) ∧ ((10 : Int) = (0 : Int) → False) ∧ ((10 : Int) = (0 : Int) →
      False) ∧ ((10 : Int) = (0 : Int) → False) ∧ ((100 : Int) = (0 : Int) → False) ∧ ((10 : Int) = (0 : Int) → False) ∧ (6 : Nat) ≤ (6 : Nat) ∧ Q (SV.lit (Value.string (Sx.bsOf
      [(109 : Int), IntKind.wrap IntKind.u8 (IntKind.wrap IntKind.i64 ((65 : Int) + Int.tmod i (26 : Int))), IntKind.wrap IntKind.u8 (IntKind.wrap IntKind.i64 ((65 : Int) +
      Int.tmod (IntKind.wrap IntKind.i64 (Int.tdiv i (26 : Int))) (26 : Int))), IntKind.wrap IntKind.u8 (IntKind.wrap IntKind.i64 ((48 : Int) + Int.tmod k (10 : Int))),
      IntKind.wrap IntKind.u8 (IntKind.wrap IntKind.i64 ((48 : Int) + Int.tmod (IntKind.wrap IntKind.i64 (Int.tdiv k (10 : Int))) (10 : Int))), IntKind.wrap IntKind.u8
      (IntKind.wrap IntKind.i64 ((48 : Int) + Int.tmod (IntKind.wrap IntKind.i64 (Int.tdiv k (100 : Int))) (10 : Int)))])), ([] : List Sx.SO), [])) (by kernel_rfl) ?_
  exact ⟨by omega, by omega, by omega, by omega, by omega, by omega, by omega, by omega, by omega, hq⟩
noncomputable def s101 : Summ := fun args H => match args, H with
  | [.lit (.int .i64 i), .lit (.int .i64 k)], [] => .ret (.lit (.string (nm i k)), [], [])
  | _, _ => .fail
theorem s101_ok : SummOK Tryz.prog 101 s101 := by
  refine summ_of_body (fn := Tryz.f101) (c := Tryz.f101.body.get!) none_ok (by kernel_rfl) (by kernel_rfl) (by kernel_rfl) fun args H Q h => ?_
  unfold s101 at h
  split at h
  · simp only [Tree.Leads] at h
    exact ⟨_, v101 _ _ Q h⟩
  · simp only [Tree.Leads] at h
noncomputable def TN : Table := Table.none.add 101 (.go s101)
theorem TN_ok : TableOK Tryz.prog TN := add_ok none_ok s101_ok
end W5
