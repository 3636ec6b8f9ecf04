/- Part of a proof: the walk of the functions that the law calls. -/
import Derived.Test.YtbfiikegaljagaaXT24a
set_option linter.unusedVariables false
open Go Sx Go.Proofs
namespace T24
set_option maxRecDepth 100000
set_option maxHeartbeats 1000000
attribute [local irreducible] Tree.Leads
@[reducible] def pty : Ty := .pair (.int .i64) (.pair (.int .i64) .str)
def pz : pty.den := ((0 : Int), (0 : Int), ByteArray.empty)
/-- A row out of which an element is deleted. -/
def delAt (R : List pty.den) (m k : Nat) : List pty.den := R.take k ++ (R.drop (k + 1)).take (m - (k + 1)) ++ [pz] ++ R.drop m
theorem v18 (R : List pty.den) (m k : Nat) (Q : SV × Heap × List Nat → Prop) (hk : k < m) (hm : m ≤ R.length) (hs : m ≤ 1000000)
    (hq : Q (.sl 0 3 0 (m - 1), [.row 37 pty (delAt R m k)], [])) : (bodySumm T0 Try.prog Try.f18 noAn [.sl 0 3 0 m, .lit (.int .i64 k), .lit (.int .i64 ((k : Int) + 1))] [.row 37 pty R]).Leads Q := by
  refine Sx.by_text (q :=
      ((0 : Int) ≤ (↑m : Int) ∧ (↑m : Int) ≤ (↑(List.length R) : Int)) ∧ ((0 : Int) ≤ (↑k : Int) + (1 : Int) ∧ (↑k : Int) + (1 : Int) ≤ (↑m : Int)) ∧ ((0 : Int) ≤ (↑k : Int) ∧
      (↑k : Int) ≤ (↑(k + nat_lit 1) : Int)) ∧ br ((↑k : Int) == (↑k : Int) + (1 : Int)) (Q (SV.sl (0 : Nat) (3 : Nat) (0 : Nat) m, [SO.row (37 : Nat) (Ty.pair (Ty.int
      IntKind.i64) (Ty.pair (Ty.int IntKind.i64) Ty.str)) R], [])) (((0 : Int) ≤ (↑k : Int) ∧ (↑k : Int) ≤ (↑(List.length R) : Int)) ∧ True ∧ True ∧ ((0 : Int) ≤ (↑k : Int) + (1
      : Int) ∧ (↑k : Int) + (1 : Int) ≤ (↑m : Int)) ∧ (0 : Nat) + (k + nat_lit 1) + (m - (k + nat_lit 1)) ≤ List.length R ∧ br (decide (k + List.length (List.take (m - (k +
      nat_lit 1)) (List.drop ((0 : Nat) + (k + nat_lit 1)) R)) ≤ List.length R)) (((0 : Int) ≤ (↑m : Int) ∧ (↑m : Int) ≤ (↑(List.length (List.take k R ++ List.take (m - (k +
      nat_lit 1)) (List.drop ((0 : Nat) + (k + nat_lit 1)) R) ++ List.drop (k + List.length (List.take (m - (k + nat_lit 1)) (List.drop ((0 : Nat) + (k + nat_lit 1)) R))) R)) :
      Int)) ∧ ((0 : Int) ≤ (↑(k + List.length (List.take (m - (k + nat_lit 1)) (List.drop ((0 : Nat) + (k + nat_lit 1)) R))) : Int) ∧ (↑(k + List.length (List.take (m - (k +
      nat_lit 1)) (List.drop ((0 : Nat) + (k + nat_lit 1)) R))) : Int) ≤ (↑m : Int)) ∧ (0 : Nat) + (k + List.length (List.take (m - (k + nat_lit 1)) (List.drop ((0 : Nat) + (k +
      nat_lit 1)) R))) + (m - (k + List.length (List.take (m - (k + nat_lit 1)) (List.drop ((0 : Nat) + (k + nat_lit 1)) R)))) ≤ List.length (List.take k R ++ List.take (m - (k
      + nat_lit 1)) (List.drop ((0 : Nat) + (k + nat_lit 1)) R) ++ List.drop (k + List.length (List.take (m - (k + nat_lit 1)) (List.drop ((0 : Nat) + (k + nat_lit 1)) R))) R) ∧
      Q (SV.sl (0 : Nat) (3 : Nat) (0 : Nat) (k + List.length (List.take (m - (k + nat_lit 1)) (List.drop ((0 : Nat) + (k + nat_lit 1)) R))), [SO.row (37 : Nat) (Ty.pair (Ty.int
      IntKind.i64) (Ty.pair (Ty.int IntKind.i64) Ty.str)) (List.take ((0 : Nat) + (k + List.length (List.take (m - (k + nat_lit 1)) (List.drop ((0 : Nat) + (k + nat_lit 1))
      R)))) (List.take k R ++ List.take (m - (k + nat_lit 1)) (List.drop ((0 : Nat) + (k + nat_lit 1)) R) ++ List.drop (k + List.length (List.take (m - (k + nat_lit 1))
      (List.drop ((0 : Nat) + (k + nat_lit 1)) R))) R) ++ List.replicate (m - (k + List.length (List.take (m - (k + nat_lit 1)) (List.drop ((0 : Nat) + (k + nat_lit 1)) R))))
      ((0 : Int), (0 : Int), { data := #[] }) ++ List.drop ((0 : Nat) + (k + List.length (List.take (m - (k + nat_lit 1)) (List.drop ((0 : Nat) + (k + nat_lit 1)) R))) + (m - (k
      + List.length (List.take (m - (k + nat_lit 1)) (List.drop ((0 : Nat) + (k + nat_lit 1)) R))))) (List.take k R ++ List.take (m - (k + nat_lit 1)) (List.drop ((0 : Nat) + (k
      + nat_lit 1)) R) ++ List.drop (k + List.length (List.take (m - (k + nat_lit 1)) (List.drop ((0 : Nat) + (k + nat_lit 1)) R))) R))], [])) (k ≤ List.length R ∧ ((↑(k +
      List.length (List.take (m - (k + nat_lit 1)) (List.drop ((0 : Nat) + (k + nat_lit 1)) R))) : Int) ≤ (9223372036854775807 : Int) ∧ (k + List.length (List.take (m - (k +
      nat_lit 1)) (List.drop ((0 : Nat) + (k + nat_lit 1)) R))) * Sx.bytesOf Go.Proofs.Try.prog (37 : Nat) ≤ (140737488355328 : Nat)) ∧ ((0 : Int) ≤ (↑m : Int) ∧ (↑m : Int) ≤
      (↑(List.length (List.take k R ++ List.take (m - (k + nat_lit 1)) (List.drop ((0 : Nat) + (k + nat_lit 1)) R))) : Int)) ∧ ((0 : Int) ≤ (↑(k + List.length (List.take (m - (k
      + nat_lit 1)) (List.drop ((0 : Nat) + (k + nat_lit 1)) R))) : Int) ∧ (↑(k + List.length (List.take (m - (k + nat_lit 1)) (List.drop ((0 : Nat) + (k + nat_lit 1)) R))) :
      Int) ≤ (↑m : Int)) ∧ (0 : Nat) + (k + List.length (List.take (m - (k + nat_lit 1)) (List.drop ((0 : Nat) + (k + nat_lit 1)) R))) + (m - (k + List.length (List.take (m - (k
      + nat_lit 1)) (List.drop ((0 : Nat) + (k + nat_lit 1)) R)))) ≤ List.length (List.take k R ++ List.take (m - (k + nat_lit 1)) (List.drop ((0 : Nat) + (k + nat_lit 1)) R)) ∧
      Q (SV.sl (1 : Nat) (3 : Nat) (0 : Nat) (k + List.length (List.take (m - (k + nat_lit 1)) (List.drop ((0 : Nat) + (k + nat_lit 1)) R))), [SO.dead, SO.row (37 : Nat)
      (Ty.pair (Ty.int IntKind.i64) (Ty.pair (Ty.int IntKind.i64) Ty.str)) (List.take ((0 : Nat) + (k + List.length (List.take (m - (k + nat_lit 1)) (List.drop ((0 : Nat) + (k +
      nat_lit 1)) R)))) (List.take k R ++ List.take (m - (k + nat_lit 1)) (List.drop ((0 : Nat) + (k + nat_lit 1)) R)) ++ List.replicate (m - (k + List.length (List.take (m - (k
      + nat_lit 1)) (List.drop ((0 : Nat) + (k + nat_lit 1)) R)))) ((0 : Int), (0 : Int), { data := #[] }) ++ List.drop ((0 : Nat) + (k + List.length (List.take (m - (k +
      nat_lit 1)) (List.drop ((0 : Nat) + (k + nat_lit 1)) R))) + (m - (k + List.length (List.take (m - (k + nat_lit 1)) (List.drop ((0 : Nat) + (k + nat_lit 1)) R)))))
      (List.take k R ++ List.take (m - (k + nat_lit 1)) (List.drop ((0 : Nat) + (k + nat_lit 1)) R)))], [])))) (by kernel_rfl) ?_
  simp only [Nat.zero_add]
  generalize hT : List.take (m - (k + 1)) (List.drop (k + 1) R) = T
  have hlen : T.length = m - (k + 1) := by rw [← hT, List.length_take, List.length_drop]; omega
  have hA : (List.take k R ++ T).length = m - 1 := by rw [List.length_append, List.length_take, hlen]; omega
  have e2 : k + T.length = m - 1 := by omega
  refine ⟨by omega, by omega, by omega, br_intro (fun h => by simp at h; omega) (fun _ => ⟨by omega, trivial, trivial, by omega, by omega, ?_⟩)⟩
  simp only [e2]
  refine br_intro (fun _ => ?_) (fun h => by have h := of_decide_eq_false h; omega)
  have hX : (List.take k R ++ T ++ List.drop (m - 1) R).length = R.length := by rw [List.length_append, hA, List.length_drop]; omega
  have e3 : m - (m - 1) = 1 := by omega
  have e4 : m - 1 + 1 = m := by omega
  have e5 : (List.take k R ++ T ++ List.drop (m - 1) R).take (m - 1) = List.take k R ++ T := by rw [← hA, List.take_left]
  have e6 : (List.take k R ++ T ++ List.drop (m - 1) R).drop m = List.drop m R := by
    have h1 : (List.take k R ++ T ++ List.drop (m - 1) R).drop ((List.take k R ++ T).length + 1) = List.drop (m - 1 + 1) R := by
      rw [← List.drop_drop, List.drop_left, List.drop_drop]
    rw [hA, e4] at h1
    exact h1
  rw [hX]
  simp only [e3, e4, e5, e6]
  refine ⟨by omega, by omega, by omega, ?_⟩
  unfold delAt at hq
  rw [hT] at hq
  exact hq
end T24
