/- Part of a proof: the walk of the functions that the law calls. -/
import Derived.Test.YtgcbgenkbdoejaaSxT
import Derived.Test.YtgcbgenkbdoejaaXT12n
set_option linter.unusedVariables false
open Go Sx Go.Proofs
namespace T12
set_option maxRecDepth 100000
set_option maxHeartbeats 8000000
attribute [local irreducible] Tree.Leads
/-- May these bytes begin a rune; are they one? (the document's) -/
def tails (c : Int) : List Int → Bool
  | [] => true
  | d :: r => decide (lowOf c ≤ d ∧ d ≤ highOf c) && r.all fun x => decide (128 ≤ x ∧ x ≤ 191)
def rmay : List Int → Bool × Bool
  | [] => (false, false)
  | c :: r => if c < 128 then (true, r.isEmpty) else if wid c = 0 then (false, false) else if tails c r then (true, decide ((r.length : Int) + 1 = wid c)) else (false, false)
theorem rmay1 {c : Int} {r : List Int} (h : c < 128) : rmay (c :: r) = (true, r.isEmpty) := by simp only [rmay]; rw [if_pos h]
theorem rmay0 {c : Int} {r : List Int} (h : 128 ≤ c) (h2 : c < 194 ∨ 244 < c) : rmay (c :: r) = (false, false) := by
  simp only [rmay]; rw [if_neg (by omega), if_pos (by unfold wid; rw [if_neg (by omega), if_neg (by omega), if_neg (by omega), if_neg (by omega)])]
theorem rmayT {c : Int} {r : List Int} (h : 194 ≤ c ∧ c ≤ 244) (ht : tails c r = true) {w : Int} (hw : wid c = w) {x : Bool} (hx : decide ((r.length : Int) + 1 = w) = x) : rmay (c :: r) = (true, x) := by
  have h0 : wid c ≠ 0 := by
    rcases (show (194 ≤ c ∧ c ≤ 223) ∨ (224 ≤ c ∧ c ≤ 239) ∨ (240 ≤ c ∧ c ≤ 244) by omega) with h | h | h
    · rw [wid2 h]; omega
    · rw [wid3 h]; omega
    · rw [wid4 h]; omega
  simp only [rmay]; rw [if_neg (by omega), if_neg h0, if_pos ht, hw, hx]
theorem rmayF {c : Int} {r : List Int} (h : 194 ≤ c ∧ c ≤ 244) (ht : tails c r = false) : rmay (c :: r) = (false, false) := by
  have h0 : wid c ≠ 0 := by
    rcases (show (194 ≤ c ∧ c ≤ 223) ∨ (224 ≤ c ∧ c ≤ 239) ∨ (240 ≤ c ∧ c ≤ 244) by omega) with h | h | h
    · rw [wid2 h]; omega
    · rw [wid3 h]; omega
    · rw [wid4 h]; omega
  simp only [rmay]; rw [if_neg (by omega), if_neg h0, if_neg (by rw [ht]; simp)]
/-- The bounds of a second byte, once for all. -/
theorem low_high (c : Int) : (lowOf c = 160 ∧ c = 224 ∨ lowOf c = 144 ∧ c = 240 ∨ lowOf c = 128 ∧ c ≠ 224 ∧ c ≠ 240) ∧ (highOf c = 159 ∧ c = 237 ∨ highOf c = 143 ∧ c = 244 ∨ highOf c = 191 ∧ c ≠ 237 ∧ c ≠ 244) := by
  unfold lowOf highOf
  repeat' split
  all_goals omega
theorem v67a (c : Int) (hc : Byte c) (Q : SV × Heap × List Nat → Prop) (hq : Q (.tup [.lit (.bool (rmay [c]).1), .lit (.bool (rmay [c]).2)], [.row 5 (.int .u8) [c]], [])) :
    (bodySumm Table.none Try.prog Try.f67 noAn [.sl 0 1 0 1] [.row 5 (.int .u8) [c]]).Leads Q := by
  refine Sx.by_text (q :=
      ((0 : Int) ≤ (0 : Int) ∧ (0 : Int) < (↑(1 : Nat) : Int)) ∧ (0 : Nat) < (1 : Nat) ∧ Sx.br (Decidable.decide (List.getD [c] (0 : Nat) (Sx.Ty.dflt (Sx.Ty.int Go.IntKind.u8))
      < (128 : Int))) (Q (Sx.SV.tup [Sx.SV.lit (Go.Value.bool Bool.true), Sx.SV.lit (Go.Value.bool Bool.true)], [Sx.SO.row (5 : Nat) (Sx.Ty.int Go.IntKind.u8) [c]], [])) (Sx.br
      (Decidable.decide (List.getD [c] (0 : Nat) (Sx.Ty.dflt (Sx.Ty.int Go.IntKind.u8)) ≥ (194 : Int))) (Sx.br (Decidable.decide (List.getD [c] (0 : Nat) (Sx.Ty.dflt (Sx.Ty.int
      Go.IntKind.u8)) ≤ (223 : Int))) (Q (Sx.SV.tup [Sx.SV.lit (Go.Value.bool Bool.true), Sx.SV.lit (Go.Value.bool Bool.false)], [Sx.SO.row (5 : Nat) (Sx.Ty.int Go.IntKind.u8)
      [c]], [])) (Sx.br (Decidable.decide (List.getD [c] (0 : Nat) (Sx.Ty.dflt (Sx.Ty.int Go.IntKind.u8)) ≥ (224 : Int))) (Sx.br (Decidable.decide (List.getD [c] (0 : Nat)
      (Sx.Ty.dflt (Sx.Ty.int Go.IntKind.u8)) ≤ (239 : Int))) (Sx.br (List.getD [c] (0 : Nat) (Sx.Ty.dflt (Sx.Ty.int Go.IntKind.u8)) == (224 : Int)) (Sx.br (List.getD [c] (0 :
      Nat) (Sx.Ty.dflt (Sx.Ty.int Go.IntKind.u8)) == (237 : Int)) (Q (Sx.SV.tup [Sx.SV.lit (Go.Value.bool Bool.true), Sx.SV.lit (Go.Value.bool Bool.false)], [Sx.SO.row (5 : Nat)
      (Sx.Ty.int Go.IntKind.u8) [c]], [])) (Q (Sx.SV.tup [Sx.SV.lit (Go.Value.bool Bool.true), Sx.SV.lit (Go.Value.bool Bool.false)], [Sx.SO.row (5 : Nat) (Sx.Ty.int
      Go.IntKind.u8) [c]], []))) (Sx.br (List.getD [c] (0 : Nat) (Sx.Ty.dflt (Sx.Ty.int Go.IntKind.u8)) == (237 : Int)) (Q (Sx.SV.tup [Sx.SV.lit (Go.Value.bool Bool.true),
      Sx.SV.lit (Go.Value.bool Bool.false)], [Sx.SO.row (5 : Nat) (Sx.Ty.int Go.IntKind.u8) [c]], [])) (Q (Sx.SV.tup [Sx.SV.lit (Go.Value.bool Bool.true), Sx.SV.lit
      (Go.Value.bool Bool.false)], [Sx.SO.row (5 : Nat) (Sx.Ty.int Go.IntKind.u8) [c]], [])))) (Sx.br (Decidable.decide (List.getD [c] (0 : Nat) (Sx.Ty.dflt (Sx.Ty.int
      Go.IntKind.u8)) ≥ (240 : Int))) (Sx.br (Decidable.decide (List.getD [c] (0 : Nat) (Sx.Ty.dflt (Sx.Ty.int Go.IntKind.u8)) ≤ (244 : Int))) (Sx.br (List.getD [c] (0 : Nat)
      (Sx.Ty.dflt (Sx.Ty.int Go.IntKind.u8)) == (240 : Int)) (Sx.br (List.getD [c] (0 : Nat) (Sx.Ty.dflt (Sx.Ty.int Go.IntKind.u8)) == (244 : Int)) (Q (Sx.SV.tup [Sx.SV.lit
      (Go.Value.bool Bool.true), Sx.SV.lit (Go.Value.bool Bool.false)], [Sx.SO.row (5 : Nat) (Sx.Ty.int Go.IntKind.u8) [c]], [])) (Q (Sx.SV.tup [Sx.SV.lit (Go.Value.bool
      Bool.true), Sx.SV.lit (Go.Value.bool Bool.false)], [Sx.SO.row (5 : Nat) (Sx.Ty.int Go.IntKind.u8) [c]], []))) (Sx.br (List.getD [c] (0 : Nat) (Sx.Ty.dflt (Sx.Ty.int
      Go.IntKind.u8)) == (244 : Int)) (Q (Sx.SV.tup [Sx.SV.lit (Go.Value.bool Bool.true), Sx.SV.lit (Go.Value.bool Bool.false)], [Sx.SO.row (5 : Nat) (Sx.Ty.int Go.IntKind.u8)
      [c]], [])) (Q (Sx.SV.tup [Sx.SV.lit (Go.Value.bool Bool.true), Sx.SV.lit (Go.Value.bool Bool.false)], [Sx.SO.row (5 : Nat) (Sx.Ty.int Go.IntKind.u8) [c]], [])))) (Q
      (Sx.SV.tup [Sx.SV.lit (Go.Value.bool Bool.false), Sx.SV.lit (Go.Value.bool Bool.false)], [Sx.SO.row (5 : Nat) (Sx.Ty.int Go.IntKind.u8) [c]], []))) (Q (Sx.SV.tup
      [Sx.SV.lit (Go.Value.bool Bool.false), Sx.SV.lit (Go.Value.bool Bool.false)], [Sx.SO.row (5 : Nat) (Sx.Ty.int Go.IntKind.u8) [c]], [])))) (Sx.br (Decidable.decide
      (List.getD [c] (0 : Nat) (Sx.Ty.dflt (Sx.Ty.int Go.IntKind.u8)) ≥ (240 : Int))) (Sx.br (Decidable.decide (List.getD [c] (0 : Nat) (Sx.Ty.dflt (Sx.Ty.int Go.IntKind.u8)) ≤
      (244 : Int))) (Sx.br (List.getD [c] (0 : Nat) (Sx.Ty.dflt (Sx.Ty.int Go.IntKind.u8)) == (240 : Int)) (Sx.br (List.getD [c] (0 : Nat) (Sx.Ty.dflt (Sx.Ty.int Go.IntKind.u8))
      == (244 : Int)) (Q (Sx.SV.tup [Sx.SV.lit (Go.Value.bool Bool.true), Sx.SV.lit (Go.Value.bool Bool.false)], [Sx.SO.row (5 : Nat) (Sx.Ty.int Go.IntKind.u8) [c]], [])) (Q
      (Sx.SV.tup [Sx.SV.lit (Go.Value.bool Bool.true), Sx.SV.lit (Go.Value.bool Bool.false)], [Sx.SO.row (5 : Nat) (Sx.Ty.int Go.IntKind.u8) [c]], []))) (Sx.br (List.getD [c] (0
      : Nat) (Sx.Ty.dflt (Sx.Ty.int Go.IntKind.u8)) == (244 : Int)) (Q (Sx.SV.tup [Sx.SV.lit (Go.Value.bool Bool.true), Sx.SV.lit (Go.Value.bool Bool.false)], [Sx.SO.row (5 :
      Nat) (Sx.Ty.int Go.IntKind.u8) [c]], [])) (Q (Sx.SV.tup [Sx.SV.lit (Go.Value.bool Bool.true), Sx.SV.lit (Go.Value.bool Bool.false)], [Sx.SO.row (5 : Nat) (Sx.Ty.int
      Go.IntKind.u8) [c]], [])))) (Q (Sx.SV.tup [Sx.SV.lit (Go.Value.bool Bool.false), Sx.SV.lit (Go.Value.bool Bool.false)], [Sx.SO.row (5 : Nat) (Sx.Ty.int Go.IntKind.u8)
      [c]], []))) (Q (Sx.SV.tup [Sx.SV.lit (Go.Value.bool Bool.false), Sx.SV.lit (Go.Value.bool Bool.false)], [Sx.SO.row (5 : Nat) (Sx.Ty.int Go.IntKind.u8) [c]], []))))) (Sx.br
      (Decidable.decide (List.getD [c] (0 : Nat) (Sx.Ty.dflt (Sx.Ty.int Go.IntKind.u8)) ≥ (224 : Int))) (Sx.br (Decidable.decide (List.getD [c] (0 : Nat) (Sx.Ty.dflt (Sx.Ty.int
      Go.IntKind.u8)) ≤ (239 : Int))) (Sx.br (List.getD [c] (0 : Nat) (Sx.Ty.dflt (Sx.Ty.int Go.IntKind.u8)) == (224 : Int)) (Sx.br (List.getD [c] (0 : Nat) (Sx.Ty.dflt
      (Sx.Ty.int Go.IntKind.u8)) == (237 : Int)) (Q (Sx.SV.tup [Sx.SV.lit (Go.Value.bool Bool.true), Sx.SV.lit (Go.Value.bool Bool.false)], [Sx.SO.row (5 : Nat) (Sx.Ty.int
      Go.IntKind.u8) [c]], [])) (Q (Sx.SV.tup [Sx.SV.lit (Go.Value.bool Bool.true), Sx.SV.lit (Go.Value.bool Bool.false)], [Sx.SO.row (5 : Nat) (Sx.Ty.int Go.IntKind.u8) [c]],
      []))) (Sx.br (List.getD [c] (0 : Nat) (Sx.Ty.dflt (Sx.Ty.int Go.IntKind.u8)) == (237 : Int)) (Q (Sx.SV.tup [Sx.SV.lit (Go.Value.bool Bool.true), Sx.SV.lit (Go.Value.bool
      Bool.false)], [Sx.SO.row (5 : Nat) (Sx.Ty.int Go.IntKind.u8) [c]], [])) (Q (Sx.SV.tup [Sx.SV.lit (Go.Value.bool Bool.true), Sx.SV.lit (Go.Value.bool Bool.false)],
      [Sx.SO.row (5 : Nat) (Sx.Ty.int Go.IntKind.u8) [c]], [])))) (Sx.br (Decidable.decide (List.getD [c] (0 : Nat) (Sx.Ty.dflt (Sx.Ty.int Go.IntKind.u8)) ≥ (240 : Int))) (Sx.br
      (Decidable.decide (List.getD [c] (0 : Nat) (Sx.Ty.dflt (Sx.Ty.int Go.IntKind.u8)) ≤ (244 : Int))) (Sx.br (List.getD [c] (0 : Nat) (Sx.Ty.dflt (Sx.Ty.int Go.IntKind.u8)) ==
      (240 : Int)) (Sx.br (List.getD [c] (0 : Nat) (Sx.Ty.dflt (Sx.Ty.int Go.IntKind.u8)) == (244 : Int)) (Q (Sx.SV.tup [Sx.SV.lit (Go.Value.bool Bool.true), Sx.SV.lit
      (Go.Value.bool Bool.false)], [Sx.SO.row (5 : Nat) (Sx.Ty.int Go.IntKind.u8) [c]], [])) (Q (Sx.SV.tup [Sx.SV.lit (Go.Value.bool Bool.true), Sx.SV.lit (Go.Value.bool
      Bool.false)], [Sx.SO.row (5 : Nat) (Sx.Ty.int Go.IntKind.u8) [c]], []))) (Sx.br (List.getD [c] (0 : Nat) (Sx.Ty.dflt (Sx.Ty.int Go.IntKind.u8)) == (244 : Int)) (Q
      (Sx.SV.tup [Sx.SV.lit (Go.Value.bool Bool.true), Sx.SV.lit (Go.Value.bool Bool.false)], [Sx.SO.row (5 : Nat) (Sx.Ty.int Go.IntKind.u8) [c]], [])) (Q (Sx.SV.tup [Sx.SV.lit
      (Go.Value.bool Bool.true), Sx.SV.lit (Go.Value.bool Bool.false)], [Sx.SO.row (5 : Nat) (Sx.Ty.int Go.IntKind.u8) [c]], [])))) (Q (Sx.SV.tup [Sx.SV.lit (Go.Value.bool
      Bool.false), Sx.SV.lit (Go.Value.bool Bool.false)], [Sx.SO.row (5 : Nat) (Sx.Ty.int Go.IntKind.u8) [c]], []))) (Q (Sx.SV.tup [Sx.SV.lit (Go.Value.bool Bool.false),
      Sx.SV.lit (Go.Value.bool Bool.false)], [Sx.SO.row (5 : Nat) (Sx.Ty.int Go.IntKind.u8) [c]], [])))) (Sx.br (Decidable.decide (List.getD [c] (0 : Nat) (Sx.Ty.dflt (Sx.Ty.int
      Go.IntKind.u8)) ≥ (240 : Int))) (Sx.br (Decidable.decide (List.getD [c] (0 : Nat) (Sx.Ty.dflt (Sx.Ty.int Go.IntKind.u8)) ≤ (244 : Int))) (Sx.br (List.getD [c] (0 : Nat)
      (Sx.Ty.dflt (Sx.Ty.int Go.IntKind.u8)) == (240 : Int)) (Sx.br (List.getD [c] (0 : Nat) (Sx.Ty.dflt (Sx.Ty.int Go.IntKind.u8)) == (244 : Int)) (Q (Sx.SV.tup [Sx.SV.lit
      (Go.Value.bool Bool.true), Sx.SV.lit (Go.Value.bool Bool.false)], [Sx.SO.row (5 : Nat) (Sx.Ty.int Go.IntKind.u8) [c]], [])) (Q (Sx.SV.tup [Sx.SV.lit (Go.Value.bool
      Bool.true), Sx.SV.lit (Go.Value.bool Bool.false)], [Sx.SO.row (5 : Nat) (Sx.Ty.int Go.IntKind.u8) [c]], []))) (Sx.br (List.getD [c] (0 : Nat) (Sx.Ty.dflt (Sx.Ty.int
      Go.IntKind.u8)) == (244 : Int)) (Q (Sx.SV.tup [Sx.SV.lit (Go.Value.bool Bool.true), Sx.SV.lit (Go.Value.bool Bool.false)], [Sx.SO.row (5 : Nat) (Sx.Ty.int Go.IntKind.u8)
      [c]], [])) (Q (Sx.SV.tup [Sx.SV.lit (Go.Value.bool Bool.true), Sx.SV.lit (Go.Value.bool Bool.false)], [Sx.SO.row (5 : Nat) (Sx.Ty.int Go.IntKind.u8) [c]], [])))) (Q
      (Sx.SV.tup [Sx.SV.lit (Go.Value.bool Bool.false), Sx.SV.lit (Go.Value.bool Bool.false)], [Sx.SO.row (5 : Nat) (Sx.Ty.int Go.IntKind.u8) [c]], []))) (Q (Sx.SV.tup
      [Sx.SV.lit (Go.Value.bool Bool.false), Sx.SV.lit (Go.Value.bool Bool.false)], [Sx.SO.row (5 : Nat) (Sx.Ty.int Go.IntKind.u8) [c]], [])))))) (by kernel_rfl) ?_
  simp only [List.getD_cons_zero]
  refine ⟨by omega, by omega, ?_⟩
  repeat' (refine br_intro (fun h => ?_) (fun h => ?_))
  all_goals simp only [decide_eq_true_eq, decide_eq_false_iff_not, beq_iff_eq, beq_eq_false_iff_ne] at *
  all_goals first
    | (exfalso; omega)
    | (rw [rmay1 (by omega)] at hq; exact hq)
    | (rw [rmay0 (by omega) (by omega)] at hq; exact hq)
    | (rw [rmayT (w := 2) (x := false) (by omega) rfl (wid2 (by omega)) rfl] at hq; exact hq)
    | (rw [rmayT (w := 3) (x := false) (by omega) rfl (wid3 (by omega)) rfl] at hq; exact hq)
    | (rw [rmayT (w := 4) (x := false) (by omega) rfl (wid4 (by omega)) rfl] at hq; exact hq)
theorem v67b (c d : Int) (hc : Byte c) (hd : Byte d) (h194 : 194 ≤ c ∧ c ≤ 244) (Q : SV × Heap × List Nat → Prop) (hq : Q (.tup [.lit (.bool (rmay [c, d]).1), .lit (.bool (rmay [c, d]).2)], [.row 5 (.int .u8) [c, d]], [])) :
    (bodySumm Table.none Try.prog Try.f67 noAn [.sl 0 1 0 2] [.row 5 (.int .u8) [c, d]]).Leads Q := by
  refine Sx.by_text (q :=
      ((0 : Int) ≤ (0 : Int) ∧ (0 : Int) < (↑(2 : Nat) : Int)) ∧ (0 : Nat) < (2 : Nat) ∧ Sx.br (Decidable.decide (List.getD [c, d] (0 : Nat) (Sx.Ty.dflt (Sx.Ty.int
      Go.IntKind.u8)) < (128 : Int))) (Q (Sx.SV.tup [Sx.SV.lit (Go.Value.bool Bool.true), Sx.SV.lit (Go.Value.bool Bool.false)], [Sx.SO.row (5 : Nat) (Sx.Ty.int Go.IntKind.u8)
      [c, d]], [])) (Sx.br (Decidable.decide (List.getD [c, d] (0 : Nat) (Sx.Ty.dflt (Sx.Ty.int Go.IntKind.u8)) ≥ (194 : Int))) (Sx.br (Decidable.decide (List.getD [c, d] (0 :
      Nat) (Sx.Ty.dflt (Sx.Ty.int Go.IntKind.u8)) ≤ (223 : Int))) (((0 : Int) ≤ (1 : Int) ∧ (1 : Int) < (↑(2 : Nat) : Int)) ∧ (1 : Nat) < (2 : Nat) ∧ Sx.br (Decidable.decide
      (List.getD [c, d] (1 : Nat) (Sx.Ty.dflt (Sx.Ty.int Go.IntKind.u8)) < (128 : Int))) (Q (Sx.SV.tup [Sx.SV.lit (Go.Value.bool Bool.false), Sx.SV.lit (Go.Value.bool
      Bool.false)], [Sx.SO.row (5 : Nat) (Sx.Ty.int Go.IntKind.u8) [c, d]], [])) (((0 : Int) ≤ (1 : Int) ∧ (1 : Int) < (↑(2 : Nat) : Int)) ∧ (1 : Nat) < (2 : Nat) ∧ Sx.br
      (Decidable.decide (List.getD [c, d] (1 : Nat) (Sx.Ty.dflt (Sx.Ty.int Go.IntKind.u8)) > (191 : Int))) (Q (Sx.SV.tup [Sx.SV.lit (Go.Value.bool Bool.false), Sx.SV.lit
      (Go.Value.bool Bool.false)], [Sx.SO.row (5 : Nat) (Sx.Ty.int Go.IntKind.u8) [c, d]], [])) (((0 : Int) ≤ (1 : Int) ∧ (1 : Int) < (↑(2 : Nat) : Int)) ∧ (1 : Nat) < (2 : Nat)
      ∧ Sx.br (Decidable.decide (List.getD [c, d] (1 : Nat) (Sx.Ty.dflt (Sx.Ty.int Go.IntKind.u8)) < (128 : Int))) (Q (Sx.SV.tup [Sx.SV.lit (Go.Value.bool Bool.false), Sx.SV.lit
      (Go.Value.bool Bool.false)], [Sx.SO.row (5 : Nat) (Sx.Ty.int Go.IntKind.u8) [c, d]], [])) (((0 : Int) ≤ (1 : Int) ∧ (1 : Int) < (↑(2 : Nat) : Int)) ∧ (1 : Nat) < (2 : Nat)
      ∧ Sx.br (Decidable.decide (List.getD [c, d] (1 : Nat) (Sx.Ty.dflt (Sx.Ty.int Go.IntKind.u8)) > (191 : Int))) (Q (Sx.SV.tup [Sx.SV.lit (Go.Value.bool Bool.false), Sx.SV.lit
      (Go.Value.bool Bool.false)], [Sx.SO.row (5 : Nat) (Sx.Ty.int Go.IntKind.u8) [c, d]], [])) (Q (Sx.SV.tup [Sx.SV.lit (Go.Value.bool Bool.true), Sx.SV.lit (Go.Value.bool
      Bool.true)], [Sx.SO.row (5 : Nat) (Sx.Ty.int Go.IntKind.u8) [c, d]], [])))))) (Sx.br (Decidable.decide (List.getD [c, d] (0 : Nat) (Sx.Ty.dflt (Sx.Ty.int Go.IntKind.u8)) ≥
      (224 : Int))) (Sx.br (Decidable.decide (List.getD [c, d] (0 : Nat) (Sx.Ty.dflt (Sx.Ty.int Go.IntKind.u8)) ≤ (239 : Int))) (Sx.br (List.getD [c, d] (0 : Nat) (Sx.Ty.dflt
      (Sx.Ty.int Go.IntKind.u8)) == (224 : Int)) (Sx.br (List.getD [c, d] (0 : Nat) (Sx.Ty.dflt (Sx.Ty.int Go.IntKind.u8)) == (237 : Int)) (((0 : Int) ≤ (1 : Int) ∧ (1 : Int) <
      (↑(2 : Nat) : Int)) ∧ (1 : Nat) < (2 : Nat) ∧ Sx.br (Decidable.decide (List.getD [c, d] (1 : Nat) (Sx.Ty.dflt (Sx.Ty.int Go.IntKind.u8)) < (160 : Int))) (Q (Sx.SV.tup
      [Sx.SV.lit (Go.Value.bool Bool.false), Sx.SV.lit (Go.Value.bool Bool.false)], [Sx.SO.row (5 : Nat) (Sx.Ty.int Go.IntKind.u8) [c, d]], [])) (((0 : Int) ≤ (1 : Int) ∧ (1 :
      Int) < (↑(2 : Nat) : Int)) ∧ (1 : Nat) < (2 : Nat) ∧ Sx.br (Decidable.decide (List.getD [c, d] (1 : Nat) (Sx.Ty.dflt (Sx.Ty.int Go.IntKind.u8)) > (159 : Int))) (Q
      (Sx.SV.tup [Sx.SV.lit (Go.Value.bool Bool.false), Sx.SV.lit (Go.Value.bool Bool.false)], [Sx.SO.row (5 : Nat) (Sx.Ty.int Go.IntKind.u8) [c, d]], [])) (((0 : Int) ≤ (1 :
      Int) ∧ (1 : Int) < (↑(2 : Nat) : Int)) ∧ (1 : Nat) < (2 : Nat) ∧ Sx.br (Decidable.decide (List.getD [c, d] (1 : Nat) (Sx.Ty.dflt (Sx.Ty.int Go.IntKind.u8)) < (128 : Int)))
      (Q (Sx.SV.tup [Sx.SV.lit (Go.Value.bool Bool.false), Sx.SV.lit (Go.Value.bool Bool.false)], [Sx.SO.row (5 : Nat) (Sx.Ty.int Go.IntKind.u8) [c, d]], [])) (((0 : Int) ≤ (1 :
      Int) ∧ (1 : Int) < (↑(2 : Nat) : Int)) ∧ (1 : Nat) < (2 : Nat) ∧ Sx.br (Decidable.decide (List.getD [c, d] (1 : Nat) (Sx.Ty.dflt (Sx.Ty.int Go.IntKind.u8)) > (191 : Int)))
      (Q (Sx.SV.tup [Sx.SV.lit (Go.Value.bool Bool.false), Sx.SV.lit (Go.Value.bool Bool.false)], [Sx.SO.row (5 : Nat) (Sx.Ty.int Go.IntKind.u8) [c, d]], [])) (Q (Sx.SV.tup
      [Sx.SV.lit (Go.Value.bool Bool.true), Sx.SV.lit (Go.Value.bool Bool.false)], [Sx.SO.row (5 : Nat) (Sx.Ty.int Go.IntKind.u8) [c, d]], [])))))) (((0 : Int) ≤ (1 : Int) ∧ (1
      : Int) < (↑(2 : Nat) : Int)) ∧ (1 : Nat) < (2 : Nat) ∧ Sx.br (Decidable.decide (List.getD [c, d] (1 : Nat) (Sx.Ty.dflt (Sx.Ty.int Go.IntKind.u8)) < (160 : Int))) (Q
      (Sx.SV.tup [Sx.SV.lit (Go.Value.bool Bool.false), Sx.SV.lit (Go.Value.bool Bool.false)], [Sx.SO.row (5 : Nat) (Sx.Ty.int Go.IntKind.u8) [c, d]], [])) (((0 : Int) ≤ (1 :
      Int) ∧ (1 : Int) < (↑(2 : Nat) : Int)) ∧ (1 : Nat) < (2 : Nat) ∧ Sx.br (Decidable.decide (List.getD [c, d] (1 : Nat) (Sx.Ty.dflt (Sx.Ty.int Go.IntKind.u8)) > (191 : Int)))
      (Q (Sx.SV.tup [Sx.SV.lit (Go.Value.bool Bool.false), Sx.SV.lit (Go.Value.bool Bool.false)], [Sx.SO.row (5 : Nat) (Sx.Ty.int Go.IntKind.u8) [c, d]], [])) (((0 : Int) ≤ (1 :
      Int) ∧ (1 : Int) < (↑(2 : Nat) : Int)) ∧ (1 : Nat) < (2 : Nat) ∧ Sx.br (Decidable.decide (List.getD [c, d] (1 : Nat) (Sx.Ty.dflt (Sx.Ty.int Go.IntKind.u8)) < (128 : Int)))
      (Q (Sx.SV.tup [Sx.SV.lit (Go.Value.bool Bool.false), Sx.SV.lit (Go.Value.bool Bool.false)], [Sx.SO.row (5 : Nat) (Sx.Ty.int Go.IntKind.u8) [c, d]], [])) (((0 : Int) ≤ (1 :
      Int) ∧ (1 : Int) < (↑(2 : Nat) : Int)) ∧ (1 : Nat) < (2 : Nat) ∧ Sx.br (Decidable.decide (List.getD [c, d] (1 : Nat) (Sx.Ty.dflt (Sx.Ty.int Go.IntKind.u8)) > (191 : Int)))
      (Q (Sx.SV.tup [Sx.SV.lit (Go.Value.bool Bool.false), Sx.SV.lit (Go.Value.bool Bool.false)], [Sx.SO.row (5 : Nat) (Sx.Ty.int Go.IntKind.u8) [c, d]], [])) (Q (Sx.SV.tup
      [Sx.SV.lit (Go.Value.bool Bool.true), Sx.SV.lit (Go.Value.bool Bool.false)], [Sx.SO.row (5 : Nat) (Sx.Ty.int Go.IntKind.u8) [c, d]], []))))))) (Sx.br (List.getD [c, d] (0
      : Nat) (Sx.Ty.dflt (Sx.Ty.int Go.IntKind.u8)) == (237 : Int)) (((0 : Int) ≤ (1 : Int) ∧ (1 : Int) < (↑(2 : Nat) : Int)) ∧ (1 : Nat) < (2 : Nat) ∧ Sx.br (Decidable.decide
      (List.getD [c, d] (1 : Nat) (Sx.Ty.dflt (Sx.Ty.int Go.IntKind.u8)) < (128 : Int))) (Q (Sx.SV.tup [Sx.SV.lit (Go.Value.bool Bool.false), Sx.SV.lit (Go.Value.bool
      Bool.false)], [Sx.SO.row (5 : Nat) (Sx.Ty.int Go.IntKind.u8) [c, d]], [])) (((0 : Int) ≤ (1 : Int) ∧ (1 : Int) < (↑(2 : Nat) : Int)) ∧ (1 : Nat) < (2 : Nat) ∧ Sx.br
      (Decidable.decide (List.getD [c, d] (1 : Nat) (Sx.Ty.dflt (Sx.Ty.int Go.IntKind.u8)) > (159 : Int))) (Q (Sx.SV.tup [Sx.SV.lit (Go.Value.bool Bool.false), Sx.SV.lit
      (Go.Value.bool Bool.false)], [Sx.SO.row (5 : Nat) (Sx.Ty.int Go.IntKind.u8) [c, d]], [])) (((0 : Int) ≤ (1 : Int) ∧ (1 : Int) < (↑(2 : Nat) : Int)) ∧ (1 : Nat) < (2 : Nat)
      ∧ Sx.br (Decidable.decide (List.getD [c, d] (1 : Nat) (Sx.Ty.dflt (Sx.Ty.int Go.IntKind.u8)) < (128 : Int))) (Q (Sx.SV.tup [Sx.SV.lit (Go.Value.bool Bool.false), Sx.SV.lit
      (Go.Value.bool Bool.false)], [Sx.SO.row (5 : Nat) (Sx.Ty.int Go.IntKind.u8) [c, d]], [])) (((0 : Int) ≤ (1 : Int) ∧ (1 : Int) < (↑(2 : Nat) : Int)) ∧ (1 : Nat) < (2 : Nat)
      ∧ Sx.br (Decidable.decide (List.getD [c, d] (1 : Nat) (Sx.Ty.dflt (Sx.Ty.int Go.IntKind.u8)) > (191 : Int))) (Q (Sx.SV.tup [Sx.SV.lit (Go.Value.bool Bool.false), Sx.SV.lit
      (Go.Value.bool Bool.false)], [Sx.SO.row (5 : Nat) (Sx.Ty.int Go.IntKind.u8) [c, d]], [])) (Q (Sx.SV.tup [Sx.SV.lit (Go.Value.bool Bool.true), Sx.SV.lit (Go.Value.bool
      Bool.false)], [Sx.SO.row (5 : Nat) (Sx.Ty.int Go.IntKind.u8) [c, d]], [])))))) (((0 : Int) ≤ (1 : Int) ∧ (1 : Int) < (↑(2 : Nat) : Int)) ∧ (1 : Nat) < (2 : Nat) ∧ Sx.br
      (Decidable.decide (List.getD [c, d] (1 : Nat) (Sx.Ty.dflt (Sx.Ty.int Go.IntKind.u8)) < (128 : Int))) (Q (Sx.SV.tup [Sx.SV.lit (Go.Value.bool Bool.false), Sx.SV.lit
      (Go.Value.bool Bool.false)], [Sx.SO.row (5 : Nat) (Sx.Ty.int Go.IntKind.u8) [c, d]], [])) (((0 : Int) ≤ (1 : Int) ∧ (1 : Int) < (↑(2 : Nat) : Int)) ∧ (1 : Nat) < (2 : Nat)
      ∧ Sx.br (Decidable.decide (List.getD [c, d] (1 : Nat) (Sx.Ty.dflt (Sx.Ty.int Go.IntKind.u8)) > (191 : Int))) (Q (Sx.SV.tup [Sx.SV.lit (Go.Value.bool Bool.false), Sx.SV.lit
      (Go.Value.bool Bool.false)], [Sx.SO.row (5 : Nat) (Sx.Ty.int Go.IntKind.u8) [c, d]], [])) (((0 : Int) ≤ (1 : Int) ∧ (1 : Int) < (↑(2 : Nat) : Int)) ∧ (1 : Nat) < (2 : Nat)
      ∧ Sx.br (Decidable.decide (List.getD [c, d] (1 : Nat) (Sx.Ty.dflt (Sx.Ty.int Go.IntKind.u8)) < (128 : Int))) (Q (Sx.SV.tup [Sx.SV.lit (Go.Value.bool Bool.false), Sx.SV.lit
      (Go.Value.bool Bool.false)], [Sx.SO.row (5 : Nat) (Sx.Ty.int Go.IntKind.u8) [c, d]], [])) (((0 : Int) ≤ (1 : Int) ∧ (1 : Int) < (↑(2 : Nat) : Int)) ∧ (1 : Nat) < (2 : Nat)
      ∧ Sx.br (Decidable.decide (List.getD [c, d] (1 : Nat) (Sx.Ty.dflt (Sx.Ty.int Go.IntKind.u8)) > (191 : Int))) (Q (Sx.SV.tup [Sx.SV.lit (Go.Value.bool Bool.false), Sx.SV.lit
      (Go.Value.bool Bool.false)], [Sx.SO.row (5 : Nat) (Sx.Ty.int Go.IntKind.u8) [c, d]], [])) (Q (Sx.SV.tup [Sx.SV.lit (Go.Value.bool Bool.true), Sx.SV.lit (Go.Value.bool
      Bool.false)], [Sx.SO.row (5 : Nat) (Sx.Ty.int Go.IntKind.u8) [c, d]], [])))))))) (Sx.br (Decidable.decide (List.getD [c, d] (0 : Nat) (Sx.Ty.dflt (Sx.Ty.int
      Go.IntKind.u8)) ≥ (240 : Int))) (Sx.br (Decidable.decide (List.getD [c, d] (0 : Nat) (Sx.Ty.dflt (Sx.Ty.int Go.IntKind.u8)) ≤ (244 : Int))) (Sx.br (List.getD [c, d] (0 :
      Nat) (Sx.Ty.dflt (Sx.Ty.int Go.IntKind.u8)) == (240 : Int)) (Sx.br (List.getD [c, d] (0 : Nat) (Sx.Ty.dflt (Sx.Ty.int Go.IntKind.u8)) == (244 : Int)) (((0 : Int) ≤ (1 :
      Int) ∧ (1 : Int) < (↑(2 : Nat) : Int)) ∧ (1 : Nat) < (2 : Nat) ∧ Sx.br (Decidable.decide (List.getD [c, d] (1 : Nat) (Sx.Ty.dflt (Sx.Ty.int Go.IntKind.u8)) < (144 : Int)))
      (Q (Sx.SV.tup [Sx.SV.lit (Go.Value.bool Bool.false), Sx.SV.lit (Go.Value.bool Bool.false)], [Sx.SO.row (5 : Nat) (Sx.Ty.int Go.IntKind.u8) [c, d]], [])) (((0 : Int) ≤ (1 :
      Int) ∧ (1 : Int) < (↑(2 : Nat) : Int)) ∧ (1 : Nat) < (2 : Nat) ∧ Sx.br (Decidable.decide (List.getD [c, d] (1 : Nat) (Sx.Ty.dflt (Sx.Ty.int Go.IntKind.u8)) > (143 : Int)))
      (Q (Sx.SV.tup [Sx.SV.lit (Go.Value.bool Bool.false), Sx.SV.lit (Go.Value.bool Bool.false)], [Sx.SO.row (5 : Nat) (Sx.Ty.int Go.IntKind.u8) [c, d]], [])) (((0 : Int) ≤ (1 :
      Int) ∧ (1 : Int) < (↑(2 : Nat) : Int)) ∧ (1 : Nat) < (2 : Nat) ∧ Sx.br (Decidable.decide (List.getD [c, d] (1 : Nat) (Sx.Ty.dflt (Sx.Ty.int Go.IntKind.u8)) < (128 : Int)))
      (Q (Sx.SV.tup [Sx.SV.lit (Go.Value.bool Bool.false), Sx.SV.lit (Go.Value.bool Bool.false)], [Sx.SO.row (5 : Nat) (Sx.Ty.int Go.IntKind.u8) [c, d]], [])) (((0 : Int) ≤ (1 :
      Int) ∧ (1 : Int) < (↑(2 : Nat) : Int)) ∧ (1 : Nat) < (2 : Nat) ∧ Sx.br (Decidable.decide (List.getD [c, d] (1 : Nat) (Sx.Ty.dflt (Sx.Ty.int Go.IntKind.u8)) > (191 : Int)))
      (Q (Sx.SV.tup [Sx.SV.lit (Go.Value.bool Bool.false), Sx.SV.lit (Go.Value.bool Bool.false)], [Sx.SO.row (5 : Nat) (Sx.Ty.int Go.IntKind.u8) [c, d]], [])) (Q (Sx.SV.tup
      [Sx.SV.lit (Go.Value.bool Bool.true), Sx.SV.lit (Go.Value.bool Bool.false)], [Sx.SO.row (5 : Nat) (Sx.Ty.int Go.IntKind.u8) [c, d]], [])))))) (((0 : Int) ≤ (1 : Int) ∧ (1
      : Int) < (↑(2 : Nat) : Int)) ∧ (1 : Nat) < (2 : Nat) ∧ Sx.br (Decidable.decide (List.getD [c, d] (1 : Nat) (Sx.Ty.dflt (Sx.Ty.int Go.IntKind.u8)) < (144 : Int))) (Q
      (Sx.SV.tup [Sx.SV.lit (Go.Value.bool Bool.false), Sx.SV.lit (Go.Value.bool Bool.false)], [Sx.SO.row (5 : Nat) (Sx.Ty.int Go.IntKind.u8) [c, d]], [])) (((0 : Int) ≤ (1 :
      Int) ∧ (1 : Int) < (↑(2 : Nat) : Int)) ∧ (1 : Nat) < (2 : Nat) ∧ Sx.br (Decidable.decide (List.getD [c, d] (1 : Nat) (Sx.Ty.dflt (Sx.Ty.int Go.IntKind.u8)) > (191 : Int)))
      (Q (Sx.SV.tup [Sx.SV.lit (Go.Value.bool Bool.false), Sx.SV.lit (Go.Value.bool Bool.false)], [Sx.SO.row (5 : Nat) (Sx.Ty.int Go.IntKind.u8) [c, d]], [])) (((0 : Int) ≤ (1 :
      Int) ∧ (1 : Int) < (↑(2 : Nat) : Int)) ∧ (1 : Nat) < (2 : Nat) ∧ Sx.br (Decidable.decide (List.getD [c, d] (1 : Nat) (Sx.Ty.dflt (Sx.Ty.int Go.IntKind.u8)) < (128 : Int)))
      (Q (Sx.SV.tup [Sx.SV.lit (Go.Value.bool Bool.false), Sx.SV.lit (Go.Value.bool Bool.false)], [Sx.SO.row (5 : Nat) (Sx.Ty.int Go.IntKind.u8) [c, d]], [])) (((0 : Int) ≤ (1 :
      Int) ∧ (1 : Int) < (↑(2 : Nat) : Int)) ∧ (1 : Nat) < (2 : Nat) ∧ Sx.br (Decidable.decide (List.getD [c, d] (1 : Nat) (Sx.Ty.dflt (Sx.Ty.int Go.IntKind.u8)) > (191 : Int)))
      (Q (Sx.SV.tup [Sx.SV.lit (Go.Value.bool Bool.false), Sx.SV.lit (Go.Value.bool Bool.false)], [Sx.SO.row (5 : Nat) (Sx.Ty.int Go.IntKind.u8) [c, d]], [])) (Q (Sx.SV.tup
      [Sx.SV.lit (Go.Value.bool Bool.true), Sx.SV.lit (Go.Value.bool Bool.false)], [Sx.SO.row (5 : Nat) (Sx.Ty.int Go.IntKind.u8) [c, d]], []))))))) (Sx.br (List.getD [c, d] (0
      : Nat) (Sx.Ty.dflt (Sx.Ty.int Go.IntKind.u8)) == (244 : Int)) (((0 : Int) ≤ (1 : Int) ∧ (1 : Int) < (↑(2 : Nat) : Int)) ∧ (1 : Nat) < (2 : Nat) ∧ Sx.br (Decidable.decide
      (List.getD [c, d] (1 : Nat) (Sx.Ty.dflt (Sx.Ty.int Go.IntKind.u8)) < (128 : Int))) (Q (Sx.SV.tup [Sx.SV.lit (Go.Value.bool Bool.false), Sx.SV.lit (Go.Value.bool
      Bool.false)], [Sx.SO.row (5 : Nat) (Sx.Ty.int Go.IntKind.u8) [c, d]], [])) (((0 : Int) ≤ (1 : Int) ∧ (1 : Int) < (↑(2 : Nat) : Int)) ∧ (1 : Nat) < (2 : Nat) ∧ Sx.br
      (Decidable.decide (List.getD [c, d] (1 : Nat) (Sx.Ty.dflt (Sx.Ty.int Go.IntKind.u8)) > (143 : Int))) (Q (Sx.SV.tup [Sx.SV.lit (Go.Value.bool Bool.false), Sx.SV.lit
      (Go.Value.bool Bool.false)], [Sx.SO.row (5 : Nat) (Sx.Ty.int Go.IntKind.u8) [c, d]], [])) (((0 : Int) ≤ (1 : Int) ∧ (1 : Int) < (↑(2 : Nat) : Int)) ∧ (1 : Nat) < (2 : Nat)
      ∧ Sx.br (Decidable.decide (List.getD [c, d] (1 : Nat) (Sx.Ty.dflt (Sx.Ty.int Go.IntKind.u8)) < (128 : Int))) (Q (Sx.SV.tup [Sx.SV.lit (Go.Value.bool Bool.false), Sx.SV.lit
      (Go.Value.bool Bool.false)], [Sx.SO.row (5 : Nat) (Sx.Ty.int Go.IntKind.u8) [c, d]], [])) (((0 : Int) ≤ (1 : Int) ∧ (1 : Int) < (↑(2 : Nat) : Int)) ∧ (1 : Nat) < (2 : Nat)
      ∧ Sx.br (Decidable.decide (List.getD [c, d] (1 : Nat) (Sx.Ty.dflt (Sx.Ty.int Go.IntKind.u8)) > (191 : Int))) (Q (Sx.SV.tup [Sx.SV.lit (Go.Value.bool Bool.false), Sx.SV.lit
      (Go.Value.bool Bool.false)], [Sx.SO.row (5 : Nat) (Sx.Ty.int Go.IntKind.u8) [c, d]], [])) (Q (Sx.SV.tup [Sx.SV.lit (Go.Value.bool Bool.true), Sx.SV.lit (Go.Value.bool
      Bool.false)], [Sx.SO.row (5 : Nat) (Sx.Ty.int Go.IntKind.u8) [c, d]], [])))))) (((0 : Int) ≤ (1 : Int) ∧ (1 : Int) < (↑(2 : Nat) : Int)) ∧ (1 : Nat) < (2 : Nat) ∧ Sx.br
      (Decidable.decide (List.getD [c, d] (1 : Nat) (Sx.Ty.dflt (Sx.Ty.int Go.IntKind.u8)) < (128 : Int))) (Q (Sx.SV.tup [Sx.SV.lit (Go.Value.bool Bool.false), Sx.SV.lit
      (Go.Value.bool Bool.false)], [Sx.SO.row (5 : Nat) (Sx.Ty.int Go.IntKind.u8) [c, d]], [])) (((0 : Int) ≤ (1 : Int) ∧ (1 : Int) < (↑(2 : Nat) : Int)) ∧ (1 : Nat) < (2 : Nat)
      ∧ Sx.br (Decidable.decide (List.getD [c, d] (1 : Nat) (Sx.Ty.dflt (Sx.Ty.int Go.IntKind.u8)) > (191 : Int))) (Q (Sx.SV.tup [Sx.SV.lit (Go.Value.bool Bool.false), Sx.SV.lit
      (Go.Value.bool Bool.false)], [Sx.SO.row (5 : Nat) (Sx.Ty.int Go.IntKind.u8) [c, d]], [])) (((0 : Int) ≤ (1 : Int) ∧ (1 : Int) < (↑(2 : Nat) : Int)) ∧ (1 : Nat) < (2 : Nat)
      ∧ Sx.br (Decidable.decide (List.getD [c, d] (1 : Nat) (Sx.Ty.dflt (Sx.Ty.int Go.IntKind.u8)) < (128 : Int))) (Q (Sx.SV.tup [Sx.SV.lit (Go.Value.bool Bool.false), Sx.SV.lit
      (Go.Value.bool Bool.false)], [Sx.SO.row (5 : Nat) (Sx.Ty.int Go.IntKind.u8) [c, d]], [])) (((0 : Int) ≤ (1 : Int) ∧ (1 : Int) < (↑(2 : Nat) : Int)) ∧ (1 : Nat) < (2 : Nat)
      ∧ Sx.br (Decidable.decide (List.getD [c, d] (1 : Nat) (Sx.Ty.dflt (Sx.Ty.int Go.IntKind.u8)) > (191 : Int))) (Q (Sx.SV.tup [Sx.SV.lit (Go.Value.bool Bool.false), Sx.SV.lit
      (Go.Value.bool Bool.false)], [Sx.SO.row (5 : Nat) (Sx.Ty.int Go.IntKind.u8) [c, d]], [])) (Q (Sx.SV.tup [Sx.SV.lit (Go.Value.bool Bool.true), Sx.SV.lit (Go.Value.bool
      Bool.false)], [Sx.SO.row (5 : Nat) (Sx.Ty.int Go.IntKind.u8) [c, d]], [])))))))) (Q (Sx.SV.tup [Sx.SV.lit (Go.Value.bool Bool.false), Sx.SV.lit (Go.Value.bool
      Bool.false)], [Sx.SO.row (5 : Nat) (Sx.Ty.int Go.IntKind.u8) [c, d]], []))) (Q (Sx.SV.tup [Sx.SV.lit (Go.Value.bool Bool.false), Sx.SV.lit (Go.Value.bool Bool.false)],
      [Sx.SO.row (5 : Nat) (Sx.Ty.int Go.IntKind.u8) [c, d]], [])))) (Sx.br (Decidable.decide (List.getD [c, d] (0 : Nat) (Sx.Ty.dflt (Sx.Ty.int Go.IntKind.u8)) ≥ (240 : Int)))
      (Sx.br (Decidable.decide (List.getD [c, d] (0 : Nat) (Sx.Ty.dflt (Sx.Ty.int Go.IntKind.u8)) ≤ (244 : Int))) (Sx.br (List.getD [c, d] (0 : Nat) (Sx.Ty.dflt (Sx.Ty.int
      Go.IntKind.u8)) == (240 : Int)) (Sx.br (List.getD [c, d] (0 : Nat) (Sx.Ty.dflt (Sx.Ty.int Go.IntKind.u8)) == (244 : Int)) (((0 : Int) ≤ (1 : Int) ∧ (1 : Int) < (↑(2 : Nat)
      : Int)) ∧ (1 : Nat) < (2 : Nat) ∧ Sx.br (Decidable.decide (List.getD [c, d] (1 : Nat) (Sx.Ty.dflt (Sx.Ty.int Go.IntKind.u8)) < (144 : Int))) (Q (Sx.SV.tup [Sx.SV.lit
      (Go.Value.bool Bool.false), Sx.SV.lit (Go.Value.bool Bool.false)], [Sx.SO.row (5 : Nat) (Sx.Ty.int Go.IntKind.u8) [c, d]], [])) (((0 : Int) ≤ (1 : Int) ∧ (1 : Int) < (↑(2
      : Nat) : Int)) ∧ (1 : Nat) < (2 : Nat) ∧ Sx.br (Decidable.decide (List.getD [c, d] (1 : Nat) (Sx.Ty.dflt (Sx.Ty.int Go.IntKind.u8)) > (143 : Int))) (Q (Sx.SV.tup
      [Sx.SV.lit (Go.Value.bool Bool.false), Sx.SV.lit (Go.Value.bool Bool.false)], [Sx.SO.row (5 : Nat) (Sx.Ty.int Go.IntKind.u8) [c, d]], [])) (((0 : Int) ≤ (1 : Int) ∧ (1 :
      Int) < (↑(2 : Nat) : Int)) ∧ (1 : Nat) < (2 : Nat) ∧ Sx.br (Decidable.decide (List.getD [c, d] (1 : Nat) (Sx.Ty.dflt (Sx.Ty.int Go.IntKind.u8)) < (128 : Int))) (Q
      (Sx.SV.tup [Sx.SV.lit (Go.Value.bool Bool.false), Sx.SV.lit (Go.Value.bool Bool.false)], [Sx.SO.row (5 : Nat) (Sx.Ty.int Go.IntKind.u8) [c, d]], [])) (((0 : Int) ≤ (1 :
      Int) ∧ (1 : Int) < (↑(2 : Nat) : Int)) ∧ (1 : Nat) < (2 : Nat) ∧ Sx.br (Decidable.decide (List.getD [c, d] (1 : Nat) (Sx.Ty.dflt (Sx.Ty.int Go.IntKind.u8)) > (191 : Int)))
      (Q (Sx.SV.tup [Sx.SV.lit (Go.Value.bool Bool.false), Sx.SV.lit (Go.Value.bool Bool.false)], [Sx.SO.row (5 : Nat) (Sx.Ty.int Go.IntKind.u8) [c, d]], [])) (Q (Sx.SV.tup
      [Sx.SV.lit (Go.Value.bool Bool.true), Sx.SV.lit (Go.Value.bool Bool.false)], [Sx.SO.row (5 : Nat) (Sx.Ty.int Go.IntKind.u8) [c, d]], [])))))) (((0 : Int) ≤ (1 : Int) ∧ (1
      : Int) < (↑(2 : Nat) : Int)) ∧ (1 : Nat) < (2 : Nat) ∧ Sx.br (Decidable.decide (List.getD [c, d] (1 : Nat) (Sx.Ty.dflt (Sx.Ty.int Go.IntKind.u8)) < (144 : Int))) (Q
      (Sx.SV.tup [Sx.SV.lit (Go.Value.bool Bool.false), Sx.SV.lit (Go.Value.bool Bool.false)], [Sx.SO.row (5 : Nat) (Sx.Ty.int Go.IntKind.u8) [c, d]], [])) (((0 : Int) ≤ (1 :
      Int) ∧ (1 : Int) < (↑(2 : Nat) : Int)) ∧ (1 : Nat) < (2 : Nat) ∧ Sx.br (Decidable.decide (List.getD [c, d] (1 : Nat) (Sx.Ty.dflt (Sx.Ty.int Go.IntKind.u8)) > (191 : Int)))
      (Q (Sx.SV.tup [Sx.SV.lit (Go.Value.bool Bool.false), Sx.SV.lit (Go.Value.bool Bool.false)], [Sx.SO.row (5 : Nat) (Sx.Ty.int Go.IntKind.u8) [c, d]], [])) (((0 : Int) ≤ (1 :
      Int) ∧ (1 : Int) < (↑(2 : Nat) : Int)) ∧ (1 : Nat) < (2 : Nat) ∧ Sx.br (Decidable.decide (List.getD [c, d] (1 : Nat) (Sx.Ty.dflt (Sx.Ty.int Go.IntKind.u8)) < (128 : Int)))
      (Q (Sx.SV.tup [Sx.SV.lit (Go.Value.bool Bool.false), Sx.SV.lit (Go.Value.bool Bool.false)], [Sx.SO.row (5 : Nat) (Sx.Ty.int Go.IntKind.u8) [c, d]], [])) (((0 : Int) ≤ (1 :
      Int) ∧ (1 : Int) < (↑(2 : Nat) : Int)) ∧ (1 : Nat) < (2 : Nat) ∧ Sx.br (Decidable.decide (List.getD [c, d] (1 : Nat) (Sx.Ty.dflt (Sx.Ty.int Go.IntKind.u8)) > (191 : Int)))
      (Q (Sx.SV.tup [Sx.SV.lit (Go.Value.bool Bool.false), Sx.SV.lit (Go.Value.bool Bool.false)], [Sx.SO.row (5 : Nat) (Sx.Ty.int Go.IntKind.u8) [c, d]], [])) (Q (Sx.SV.tup
      [Sx.SV.lit (Go.Value.bool Bool.true), Sx.SV.lit (Go.Value.bool Bool.false)], [Sx.SO.row (5 : Nat) (Sx.Ty.int Go.IntKind.u8) [c, d]], []))))))) (Sx.br (List.getD [c, d] (0
      : Nat) (Sx.Ty.dflt (Sx.Ty.int Go.IntKind.u8)) == (244 : Int)) (((0 : Int) ≤ (1 : Int) ∧ (1 : Int) < (↑(2 : Nat) : Int)) ∧ (1 : Nat) < (2 : Nat) ∧ Sx.br (Decidable.decide
      (List.getD [c, d] (1 : Nat) (Sx.Ty.dflt (Sx.Ty.int Go.IntKind.u8)) < (128 : Int))) (Q (Sx.SV.tup [Sx.SV.lit (Go.Value.bool Bool.false), Sx.SV.lit (Go.Value.bool
      Bool.false)], [Sx.SO.row (5 : Nat) (Sx.Ty.int Go.IntKind.u8) [c, d]], [])) (((0 : Int) ≤ (1 : Int) ∧ (1 : Int) < (↑(2 : Nat) : Int)) ∧ (1 : Nat) < (2 : Nat) ∧ Sx.br
      (Decidable.decide (List.getD [c, d] (1 : Nat) (Sx.Ty.dflt (Sx.Ty.int Go.IntKind.u8)) > (143 : Int))) (Q (Sx.SV.tup [Sx.SV.lit (Go.Value.bool Bool.false), Sx.SV.lit
      (Go.Value.bool Bool.false)], [Sx.SO.row (5 : Nat) (Sx.Ty.int Go.IntKind.u8) [c, d]], [])) (((0 : Int) ≤ (1 : Int) ∧ (1 : Int) < (↑(2 : Nat) : Int)) ∧ (1 : Nat) < (2 : Nat)
      ∧ Sx.br (Decidable.decide (List.getD [c, d] (1 : Nat) (Sx.Ty.dflt (Sx.Ty.int Go.IntKind.u8)) < (128 : Int))) (Q (Sx.SV.tup [Sx.SV.lit (Go.Value.bool Bool.false), Sx.SV.lit
      (Go.Value.bool Bool.false)], [Sx.SO.row (5 : Nat) (Sx.Ty.int Go.IntKind.u8) [c, d]], [])) (((0 : Int) ≤ (1 : Int) ∧ (1 : Int) < (↑(2 : Nat) : Int)) ∧ (1 : Nat) < (2 : Nat)
      ∧ Sx.br (Decidable.decide (List.getD [c, d] (1 : Nat) (Sx.Ty.dflt (Sx.Ty.int Go.IntKind.u8)) > (191 : Int))) (Q (Sx.SV.tup [Sx.SV.lit (Go.Value.bool Bool.false), Sx.SV.lit
      (Go.Value.bool Bool.false)], [Sx.SO.row (5 : Nat) (Sx.Ty.int Go.IntKind.u8) [c, d]], [])) (Q (Sx.SV.tup [Sx.SV.lit (Go.Value.bool Bool.true), Sx.SV.lit (Go.Value.bool
      Bool.false)], [Sx.SO.row (5 : Nat) (Sx.Ty.int Go.IntKind.u8) [c, d]], [])))))) (((0 : Int) ≤ (1 : Int) ∧ (1 : Int) < (↑(2 : Nat) : Int)) ∧ (1 : Nat) < (2 : Nat) ∧ Sx.br
      (Decidable.decide (List.getD [c, d] (1 : Nat) (Sx.Ty.dflt (Sx.Ty.int Go.IntKind.u8)) < (128 : Int))) (Q (Sx.SV.tup [Sx.SV.lit (Go.Value.bool Bool.false), Sx.SV.lit
      (Go.Value.bool Bool.false)], [Sx.SO.row (5 : Nat) (Sx.Ty.int Go.IntKind.u8) [c, d]], [])) (((0 : Int) ≤ (1 : Int) ∧ (1 : Int) < (↑(2 : Nat) : Int)) ∧ (1 : Nat) < (2 : Nat)
      ∧ Sx.br (Decidable.decide (List.getD [c, d] (1 : Nat) (Sx.Ty.dflt (Sx.Ty.int Go.IntKind.u8)) > (191 : Int))) (Q (Sx.SV.tup [Sx.SV.lit (Go.Value.bool Bool.false), Sx.SV.lit
      (Go.Value.bool Bool.false)], [Sx.SO.row (5 : Nat) (Sx.Ty.int Go.IntKind.u8) [c, d]], [])) (((0 : Int) ≤ (1 : Int) ∧ (1 : Int) < (↑(2 : Nat) : Int)) ∧ (1 : Nat) < (2 : Nat)
      ∧ Sx.br (Decidable.decide (List.getD [c, d] (1 : Nat) (Sx.Ty.dflt (Sx.Ty.int Go.IntKind.u8)) < (128 : Int))) (Q (Sx.SV.tup [Sx.SV.lit (Go.Value.bool Bool.false), Sx.SV.lit
      (Go.Value.bool Bool.false)], [Sx.SO.row (5 : Nat) (Sx.Ty.int Go.IntKind.u8) [c, d]], [])) (((0 : Int) ≤ (1 : Int) ∧ (1 : Int) < (↑(2 : Nat) : Int)) ∧ (1 : Nat) < (2 : Nat)
      ∧ Sx.br (Decidable.decide (List.getD [c, d] (1 : Nat) (Sx.Ty.dflt (Sx.Ty.int Go.IntKind.u8)) > (191 : Int))) (Q (Sx.SV.tup [Sx.SV.lit (Go.Value.bool Bool.false), Sx.SV.lit
      (Go.Value.bool Bool.false)], [Sx.SO.row (5 : Nat) (Sx.Ty.int Go.IntKind.u8) [c, d]], [])) (Q (Sx.SV.tup [Sx.SV.lit (Go.Value.bool Bool.true), Sx.SV.lit (Go.Value.bool
      Bool.false)], [Sx.SO.row (5 : Nat) (Sx.Ty.int Go.IntKind.u8) [c, d]], [])))))))) (Q (Sx.SV.tup [Sx.SV.lit (Go.Value.bool Bool.false), Sx.SV.lit (Go.Value.bool
      Bool.false)], [Sx.SO.row (5 : Nat) (Sx.Ty.int Go.IntKind.u8) [c, d]], []))) (Q (Sx.SV.tup [Sx.SV.lit (Go.Value.bool Bool.false), Sx.SV.lit (Go.Value.bool Bool.false)],
      [Sx.SO.row (5 : Nat) (Sx.Ty.int Go.IntKind.u8) [c, d]], []))))) (Sx.br (Decidable.decide (List.getD [c, d] (0 : Nat) (Sx.Ty.dflt (Sx.Ty.int Go.IntKind.u8)) ≥ (224 : Int)))
      (Sx.br (Decidable.decide (List.getD [c, d] (0 : Nat) (Sx.Ty.dflt (Sx.Ty.int Go.IntKind.u8)) ≤ (239 : Int))) (Sx.br (List.getD [c, d] (0 : Nat) (Sx.Ty.dflt (Sx.Ty.int
      Go.IntKind.u8)) == (224 : Int)) (Sx.br (List.getD [c, d] (0 : Nat) (Sx.Ty.dflt (Sx.Ty.int Go.IntKind.u8)) == (237 : Int)) (((0 : Int) ≤ (1 : Int) ∧ (1 : Int) < (↑(2 : Nat)
      : Int)) ∧ (1 : Nat) < (2 : Nat) ∧ Sx.br (Decidable.decide (List.getD [c, d] (1 : Nat) (Sx.Ty.dflt (Sx.Ty.int Go.IntKind.u8)) < (160 : Int))) (Q (Sx.SV.tup [Sx.SV.lit
      (Go.Value.bool Bool.false), Sx.SV.lit (Go.Value.bool Bool.false)], [Sx.SO.row (5 : Nat) (Sx.Ty.int Go.IntKind.u8) [c, d]], [])) (((0 : Int) ≤ (1 : Int) ∧ (1 : Int) < (↑(2
      : Nat) : Int)) ∧ (1 : Nat) < (2 : Nat) ∧ Sx.br (Decidable.decide (List.getD [c, d] (1 : Nat) (Sx.Ty.dflt (Sx.Ty.int Go.IntKind.u8)) > (159 : Int))) (Q (Sx.SV.tup
      [Sx.SV.lit (Go.Value.bool Bool.false), Sx.SV.lit (Go.Value.bool Bool.false)], [Sx.SO.row (5 : Nat) (Sx.Ty.int Go.IntKind.u8) [c, d]], [])) (((0 : Int) ≤ (1 : Int) ∧ (1 :
      Int) < (↑(2 : Nat) : Int)) ∧ (1 : Nat) < (2 : Nat) ∧ Sx.br (Decidable.decide (List.getD [c, d] (1 : Nat) (Sx.Ty.dflt (Sx.Ty.int Go.IntKind.u8)) < (128 : Int))) (Q
      (Sx.SV.tup [Sx.SV.lit (Go.Value.bool Bool.false), Sx.SV.lit (Go.Value.bool Bool.false)], [Sx.SO.row (5 : Nat) (Sx.Ty.int Go.IntKind.u8) [c, d]], [])) (((0 : Int) ≤ (1 :
      Int) ∧ (1 : Int) < (↑(2 : Nat) : Int)) ∧ (1 : Nat) < (2 : Nat) ∧ Sx.br (Decidable.decide (List.getD [c, d] (1 : Nat) (Sx.Ty.dflt (Sx.Ty.int Go.IntKind.u8)) > (191 : Int)))
      (Q (Sx.SV.tup [Sx.SV.lit (Go.Value.bool Bool.false), Sx.SV.lit (Go.Value.bool Bool.false)], [Sx.SO.row (5 : Nat) (Sx.Ty.int Go.IntKind.u8) [c, d]], [])) (Q (Sx.SV.tup
      [Sx.SV.lit (Go.Value.bool Bool.true), Sx.SV.lit (Go.Value.bool Bool.false)], [Sx.SO.row (5 : Nat) (Sx.Ty.int Go.IntKind.u8) [c, d]], [])))))) (((0 : Int) ≤ (1 : Int) ∧ (1
      : Int) < (↑(2 : Nat) : Int)) ∧ (1 : Nat) < (2 : Nat) ∧ Sx.br (Decidable.decide (List.getD [c, d] (1 : Nat) (Sx.Ty.dflt (Sx.Ty.int Go.IntKind.u8)) < (160 : Int))) (Q
      (Sx.SV.tup [Sx.SV.lit (Go.Value.bool Bool.false), Sx.SV.lit (Go.Value.bool Bool.false)], [Sx.SO.row (5 : Nat) (Sx.Ty.int Go.IntKind.u8) [c, d]], [])) (((0 : Int) ≤ (1 :
      Int) ∧ (1 : Int) < (↑(2 : Nat) : Int)) ∧ (1 : Nat) < (2 : Nat) ∧ Sx.br (Decidable.decide (List.getD [c, d] (1 : Nat) (Sx.Ty.dflt (Sx.Ty.int Go.IntKind.u8)) > (191 : Int)))
      (Q (Sx.SV.tup [Sx.SV.lit (Go.Value.bool Bool.false), Sx.SV.lit (Go.Value.bool Bool.false)], [Sx.SO.row (5 : Nat) (Sx.Ty.int Go.IntKind.u8) [c, d]], [])) (((0 : Int) ≤ (1 :
      Int) ∧ (1 : Int) < (↑(2 : Nat) : Int)) ∧ (1 : Nat) < (2 : Nat) ∧ Sx.br (Decidable.decide (List.getD [c, d] (1 : Nat) (Sx.Ty.dflt (Sx.Ty.int Go.IntKind.u8)) < (128 : Int)))
      (Q (Sx.SV.tup [Sx.SV.lit (Go.Value.bool Bool.false), Sx.SV.lit (Go.Value.bool Bool.false)], [Sx.SO.row (5 : Nat) (Sx.Ty.int Go.IntKind.u8) [c, d]], [])) (((0 : Int) ≤ (1 :
      Int) ∧ (1 : Int) < (↑(2 : Nat) : Int)) ∧ (1 : Nat) < (2 : Nat) ∧ Sx.br (Decidable.decide (List.getD [c, d] (1 : Nat) (Sx.Ty.dflt (Sx.Ty.int Go.IntKind.u8)) > (191 : Int)))
      (Q (Sx.SV.tup [Sx.SV.lit (Go.Value.bool Bool.false), Sx.SV.lit (Go.Value.bool Bool.false)], [Sx.SO.row (5 : Nat) (Sx.Ty.int Go.IntKind.u8) [c, d]], [])) (Q (Sx.SV.tup
      [Sx.SV.lit (Go.Value.bool Bool.true), Sx.SV.lit (Go.Value.bool Bool.false)], [Sx.SO.row (5 : Nat) (Sx.Ty.int Go.IntKind.u8) [c, d]], []))))))) (Sx.br (List.getD [c, d] (0
      : Nat) (Sx.Ty.dflt (Sx.Ty.int Go.IntKind.u8)) == (237 : Int)) (((0 : Int) ≤ (1 : Int) ∧ (1 : Int) < (↑(2 : Nat) : Int)) ∧ (1 : Nat) < (2 : Nat) ∧ Sx.br (Decidable.decide
      (List.getD [c, d] (1 : Nat) (Sx.Ty.dflt (Sx.Ty.int Go.IntKind.u8)) < (128 : Int))) (Q (Sx.SV.tup [Sx.SV.lit (Go.Value.bool Bool.false), Sx.SV.lit (Go.Value.bool
      Bool.false)], [Sx.SO.row (5 : Nat) (Sx.Ty.int Go.IntKind.u8) [c, d]], [])) (((0 : Int) ≤ (1 : Int) ∧ (1 : Int) < (↑(2 : Nat) : Int)) ∧ (1 : Nat) < (2 : Nat) ∧ Sx.br
      (Decidable.decide (List.getD [c, d] (1 : Nat) (Sx.Ty.dflt (Sx.Ty.int Go.IntKind.u8)) > (159 : Int))) (Q (Sx.SV.tup [Sx.SV.lit (Go.Value.bool Bool.false), Sx.SV.lit
      (Go.Value.bool Bool.false)], [Sx.SO.row (5 : Nat) (Sx.Ty.int Go.IntKind.u8) [c, d]], [])) (((0 : Int) ≤ (1 : Int) ∧ (1 : Int) < (↑(2 : Nat) : Int)) ∧ (1 : Nat) < (2 : Nat)
      ∧ Sx.br (Decidable.decide (List.getD [c, d] (1 : Nat) (Sx.Ty.dflt (Sx.Ty.int Go.IntKind.u8)) < (128 : Int))) (Q (Sx.SV.tup [Sx.SV.lit (Go.Value.bool Bool.false), Sx.SV.lit
      (Go.Value.bool Bool.false)], [Sx.SO.row (5 : Nat) (Sx.Ty.int Go.IntKind.u8) [c, d]], [])) (((0 : Int) ≤ (1 : Int) ∧ (1 : Int) < (↑(2 : Nat) : Int)) ∧ (1 : Nat) < (2 : Nat)
      ∧ Sx.br (Decidable.decide (List.getD [c, d] (1 : Nat) (Sx.Ty.dflt (Sx.Ty.int Go.IntKind.u8)) > (191 : Int))) (Q (Sx.SV.tup [Sx.SV.lit (Go.Value.bool Bool.false), Sx.SV.lit
      (Go.Value.bool Bool.false)], [Sx.SO.row (5 : Nat) (Sx.Ty.int Go.IntKind.u8) [c, d]], [])) (Q (Sx.SV.tup [Sx.SV.lit (Go.Value.bool Bool.true), Sx.SV.lit (Go.Value.bool
      Bool.false)], [Sx.SO.row (5 : Nat) (Sx.Ty.int Go.IntKind.u8) [c, d]], [])))))) (((0 : Int) ≤ (1 : Int) ∧ (1 : Int) < (↑(2 : Nat) : Int)) ∧ (1 : Nat) < (2 : Nat) ∧ Sx.br
      (Decidable.decide (List.getD [c, d] (1 : Nat) (Sx.Ty.dflt (Sx.Ty.int Go.IntKind.u8)) < (128 : Int))) (Q (Sx.SV.tup [Sx.SV.lit (Go.Value.bool Bool.false), Sx.SV.lit
      (Go.Value.bool Bool.false)], [Sx.SO.row (5 : Nat) (Sx.Ty.int Go.IntKind.u8) [c, d]], [])) (((0 : Int) ≤ (1 : Int) ∧ (1 : Int) < (↑(2 : Nat) : Int)) ∧ (1 : Nat) < (2 : Nat)
      ∧ Sx.br (Decidable.decide (List.getD [c, d] (1 : Nat) (Sx.Ty.dflt (Sx.Ty.int Go.IntKind.u8)) > (191 : Int))) (Q (Sx.SV.tup [Sx.SV.lit (Go.Value.bool Bool.false), Sx.SV.lit
      (Go.Value.bool Bool.false)], [Sx.SO.row (5 : Nat) (Sx.Ty.int Go.IntKind.u8) [c, d]], [])) (((0 : Int) ≤ (1 : Int) ∧ (1 : Int) < (↑(2 : Nat) : Int)) ∧ (1 : Nat) < (2 : Nat)
      ∧ Sx.br (Decidable.decide (List.getD [c, d] (1 : Nat) (Sx.Ty.dflt (Sx.Ty.int Go.IntKind.u8)) < (128 : Int))) (Q (Sx.SV.tup [Sx.SV.lit (Go.Value.bool Bool.false), Sx.SV.lit
      (Go.Value.bool Bool.false)], [Sx.SO.row (5 : Nat) (Sx.Ty.int Go.IntKind.u8) [c, d]], [])) (((0 : Int) ≤ (1 : Int) ∧ (1 : Int) < (↑(2 : Nat) : Int)) ∧ (1 : Nat) < (2 : Nat)
      ∧ Sx.br (Decidable.decide (List.getD [c, d] (1 : Nat) (Sx.Ty.dflt (Sx.Ty.int Go.IntKind.u8)) > (191 : Int))) (Q (Sx.SV.tup [Sx.SV.lit (Go.Value.bool Bool.false), Sx.SV.lit
      (Go.Value.bool Bool.false)], [Sx.SO.row (5 : Nat) (Sx.Ty.int Go.IntKind.u8) [c, d]], [])) (Q (Sx.SV.tup [Sx.SV.lit (Go.Value.bool Bool.true), Sx.SV.lit (Go.Value.bool
      Bool.false)], [Sx.SO.row (5 : Nat) (Sx.Ty.int Go.IntKind.u8) [c, d]], [])))))))) (Sx.br (Decidable.decide (List.getD [c, d] (0 : Nat) (Sx.Ty.dflt (Sx.Ty.int
      Go.IntKind.u8)) ≥ (240 : Int))) (Sx.br (Decidable.decide (List.getD [c, d] (0 : Nat) (Sx.Ty.dflt (Sx.Ty.int Go.IntKind.u8)) ≤ (244 : Int))) (Sx.br (List.getD [c, d] (0 :
      Nat) (Sx.Ty.dflt (Sx.Ty.int Go.IntKind.u8)) == (240 : Int)) (Sx.br (List.getD [c, d] (0 : Nat) (Sx.Ty.dflt (Sx.Ty.int Go.IntKind.u8)) == (244 : Int)) (((0 : Int) ≤ (1 :
      Int) ∧ (1 : Int) < (↑(2 : Nat) : Int)) ∧ (1 : Nat) < (2 : Nat) ∧ Sx.br (Decidable.decide (List.getD [c, d] (1 : Nat) (Sx.Ty.dflt (Sx.Ty.int Go.IntKind.u8)) < (144 : Int)))
      (Q (Sx.SV.tup [Sx.SV.lit (Go.Value.bool Bool.false), Sx.SV.lit (Go.Value.bool Bool.false)], [Sx.SO.row (5 : Nat) (Sx.Ty.int Go.IntKind.u8) [c, d]], [])) (((0 : Int) ≤ (1 :
      Int) ∧ (1 : Int) < (↑(2 : Nat) : Int)) ∧ (1 : Nat) < (2 : Nat) ∧ Sx.br (Decidable.decide (List.getD [c, d] (1 : Nat) (Sx.Ty.dflt (Sx.Ty.int Go.IntKind.u8)) > (143 : Int)))
      (Q (Sx.SV.tup [Sx.SV.lit (Go.Value.bool Bool.false), Sx.SV.lit (Go.Value.bool Bool.false)], [Sx.SO.row (5 : Nat) (Sx.Ty.int Go.IntKind.u8) [c, d]], [])) (((0 : Int) ≤ (1 :
      Int) ∧ (1 : Int) < (↑(2 : Nat) : Int)) ∧ (1 : Nat) < (2 : Nat) ∧ Sx.br (Decidable.decide (List.getD [c, d] (1 : Nat) (Sx.Ty.dflt (Sx.Ty.int Go.IntKind.u8)) < (128 : Int)))
      (Q (Sx.SV.tup [Sx.SV.lit (Go.Value.bool Bool.false), Sx.SV.lit (Go.Value.bool Bool.false)], [Sx.SO.row (5 : Nat) (Sx.Ty.int Go.IntKind.u8) [c, d]], [])) (((0 : Int) ≤ (1 :
      Int) ∧ (1 : Int) < (↑(2 : Nat) : Int)) ∧ (1 : Nat) < (2 : Nat) ∧ Sx.br (Decidable.decide (List.getD [c, d] (1 : Nat) (Sx.Ty.dflt (Sx.Ty.int Go.IntKind.u8)) > (191 : Int)))
      (Q (Sx.SV.tup [Sx.SV.lit (Go.Value.bool Bool.false), Sx.SV.lit (Go.Value.bool Bool.false)], [Sx.SO.row (5 : Nat) (Sx.Ty.int Go.IntKind.u8) [c, d]], [])) (Q (Sx.SV.tup
      [Sx.SV.lit (Go.Value.bool Bool.true), Sx.SV.lit (Go.Value.bool Bool.false)], [Sx.SO.row (5 : Nat) (Sx.Ty.int Go.IntKind.u8) [c, d]], [])))))) (((0 : Int) ≤ (1 : Int) ∧ (1
      : Int) < (↑(2 : Nat) : Int)) ∧ (1 : Nat) < (2 : Nat) ∧ Sx.br (Decidable.decide (List.getD [c, d] (1 : Nat) (Sx.Ty.dflt (Sx.Ty.int Go.IntKind.u8)) < (144 : Int))) (Q
      (Sx.SV.tup [Sx.SV.lit (Go.Value.bool Bool.false), Sx.SV.lit (Go.Value.bool Bool.false)], [Sx.SO.row (5 : Nat) (Sx.Ty.int Go.IntKind.u8) [c, d]], [])) (((0 : Int) ≤ (1 :
      Int) ∧ (1 : Int) < (↑(2 : Nat) : Int)) ∧ (1 : Nat) < (2 : Nat) ∧ Sx.br (Decidable.decide (List.getD [c, d] (1 : Nat) (Sx.Ty.dflt (Sx.Ty.int Go.IntKind.u8)) > (191 : Int)))
      (Q (Sx.SV.tup [Sx.SV.lit (Go.Value.bool Bool.false), Sx.SV.lit (Go.Value.bool Bool.false)], [Sx.SO.row (5 : Nat) (Sx.Ty.int Go.IntKind.u8) [c, d]], [])) (((0 : Int) ≤ (1 :
      Int) ∧ (1 : Int) < (↑(2 : Nat) : Int)) ∧ (1 : Nat) < (2 : Nat) ∧ Sx.br (Decidable.decide (List.getD [c, d] (1 : Nat) (Sx.Ty.dflt (Sx.Ty.int Go.IntKind.u8)) < (128 : Int)))
      (Q (Sx.SV.tup [Sx.SV.lit (Go.Value.bool Bool.false), Sx.SV.lit (Go.Value.bool Bool.false)], [Sx.SO.row (5 : Nat) (Sx.Ty.int Go.IntKind.u8) [c, d]], [])) (((0 : Int) ≤ (1 :
      Int) ∧ (1 : Int) < (↑(2 : Nat) : Int)) ∧ (1 : Nat) < (2 : Nat) ∧ Sx.br (Decidable.decide (List.getD [c, d] (1 : Nat) (Sx.Ty.dflt (Sx.Ty.int Go.IntKind.u8)) > (191 : Int)))
      (Q (Sx.SV.tup [Sx.SV.lit (Go.Value.bool Bool.false), Sx.SV.lit (Go.Value.bool Bool.false)], [Sx.SO.row (5 : Nat) (Sx.Ty.int Go.IntKind.u8) [c, d]], [])) (Q (Sx.SV.tup
      [Sx.SV.lit (Go.Value.bool Bool.true), Sx.SV.lit (Go.Value.bool Bool.false)], [Sx.SO.row (5 : Nat) (Sx.Ty.int Go.IntKind.u8) [c, d]], []))))))) (Sx.br (List.getD [c, d] (0
      : Nat) (Sx.Ty.dflt (Sx.Ty.int Go.IntKind.u8)) == (244 : Int)) (((0 : Int) ≤ (1 : Int) ∧ (1 : Int) < (↑(2 : Nat) : Int)) ∧ (1 : Nat) < (2 : Nat) ∧ Sx.br (Decidable.decide
      (List.getD [c, d] (1 : Nat) (Sx.Ty.dflt (Sx.Ty.int Go.IntKind.u8)) < (128 : Int))) (Q (Sx.SV.tup [Sx.SV.lit (Go.Value.bool Bool.false), Sx.SV.lit (Go.Value.bool
      Bool.false)], [Sx.SO.row (5 : Nat) (Sx.Ty.int Go.IntKind.u8) [c, d]], [])) (((0 : Int) ≤ (1 : Int) ∧ (1 : Int) < (↑(2 : Nat) : Int)) ∧ (1 : Nat) < (2 : Nat) ∧ Sx.br
      (Decidable.decide (List.getD [c, d] (1 : Nat) (Sx.Ty.dflt (Sx.Ty.int Go.IntKind.u8)) > (143 : Int))) (Q (Sx.SV.tup [Sx.SV.lit (Go.Value.bool Bool.false), Sx.SV.lit
      (Go.Value.bool Bool.false)], [Sx.SO.row (5 : Nat) (Sx.Ty.int Go.IntKind.u8) [c, d]], [])) (((0 : Int) ≤ (1 : Int) ∧ (1 : Int) < (↑(2 : Nat) : Int)) ∧ (1 : Nat) < (2 : Nat)
      ∧ Sx.br (Decidable.decide (List.getD [c, d] (1 : Nat) (Sx.Ty.dflt (Sx.Ty.int Go.IntKind.u8)) < (128 : Int))) (Q (Sx.SV.tup [Sx.SV.lit (Go.Value.bool Bool.false), Sx.SV.lit
      (Go.Value.bool Bool.false)], [Sx.SO.row (5 : Nat) (Sx.Ty.int Go.IntKind.u8) [c, d]], [])) (((0 : Int) ≤ (1 : Int) ∧ (1 : Int) < (↑(2 : Nat) : Int)) ∧ (1 : Nat) < (2 : Nat)
      ∧ Sx.br (Decidable.decide (List.getD [c, d] (1 : Nat) (Sx.Ty.dflt (Sx.Ty.int Go.IntKind.u8)) > (191 : Int))) (Q (Sx.SV.tup [Sx.SV.lit (Go.Value.bool Bool.false), Sx.SV.lit
      (Go.Value.bool Bool.false)], [Sx.SO.row (5 : Nat) (Sx.Ty.int Go.IntKind.u8) [c, d]], [])) (Q (Sx.SV.tup [Sx.SV.lit (Go.Value.bool Bool.true), Sx.SV.lit (Go.Value.bool
      Bool.false)], [Sx.SO.row (5 : Nat) (Sx.Ty.int Go.IntKind.u8) [c, d]], [])))))) (((0 : Int) ≤ (1 : Int) ∧ (1 : Int) < (↑(2 : Nat) : Int)) ∧ (1 : Nat) < (2 : Nat) ∧ Sx.br
      (Decidable.decide (List.getD [c, d] (1 : Nat) (Sx.Ty.dflt (Sx.Ty.int Go.IntKind.u8)) < (128 : Int))) (Q (Sx.SV.tup [Sx.SV.lit (Go.Value.bool Bool.false), Sx.SV.lit
      (Go.Value.bool Bool.false)], [Sx.SO.row (5 : Nat) (Sx.Ty.int Go.IntKind.u8) [c, d]], [])) (((0 : Int) ≤ (1 : Int) ∧ (1 : Int) < (↑(2 : Nat) : Int)) ∧ (1 : Nat) < (2 : Nat)
      ∧ Sx.br (Decidable.decide (List.getD [c, d] (1 : Nat) (Sx.Ty.dflt (Sx.Ty.int Go.IntKind.u8)) > (191 : Int))) (Q (Sx.SV.tup [Sx.SV.lit (Go.Value.bool Bool.false), Sx.SV.lit
      (Go.Value.bool Bool.false)], [Sx.SO.row (5 : Nat) (Sx.Ty.int Go.IntKind.u8) [c, d]], [])) (((0 : Int) ≤ (1 : Int) ∧ (1 : Int) < (↑(2 : Nat) : Int)) ∧ (1 : Nat) < (2 : Nat)
      ∧ Sx.br (Decidable.decide (List.getD [c, d] (1 : Nat) (Sx.Ty.dflt (Sx.Ty.int Go.IntKind.u8)) < (128 : Int))) (Q (Sx.SV.tup [Sx.SV.lit (Go.Value.bool Bool.false), Sx.SV.lit
      (Go.Value.bool Bool.false)], [Sx.SO.row (5 : Nat) (Sx.Ty.int Go.IntKind.u8) [c, d]], [])) (((0 : Int) ≤ (1 : Int) ∧ (1 : Int) < (↑(2 : Nat) : Int)) ∧ (1 : Nat) < (2 : Nat)
      ∧ Sx.br (Decidable.decide (List.getD [c, d] (1 : Nat) (Sx.Ty.dflt (Sx.Ty.int Go.IntKind.u8)) > (191 : Int))) (Q (Sx.SV.tup [Sx.SV.lit (Go.Value.bool Bool.false), Sx.SV.lit
      (Go.Value.bool Bool.false)], [Sx.SO.row (5 : Nat) (Sx.Ty.int Go.IntKind.u8) [c, d]], [])) (Q (Sx.SV.tup [Sx.SV.lit (Go.Value.bool Bool.true), Sx.SV.lit (Go.Value.bool
      Bool.false)], [Sx.SO.row (5 : Nat) (Sx.Ty.int Go.IntKind.u8) [c, d]], [])))))))) (Q (Sx.SV.tup [Sx.SV.lit (Go.Value.bool Bool.false), Sx.SV.lit (Go.Value.bool
      Bool.false)], [Sx.SO.row (5 : Nat) (Sx.Ty.int Go.IntKind.u8) [c, d]], []))) (Q (Sx.SV.tup [Sx.SV.lit (Go.Value.bool Bool.false), Sx.SV.lit (Go.Value.bool Bool.false)],
      [Sx.SO.row (5 : Nat) (Sx.Ty.int Go.IntKind.u8) [c, d]], [])))) (Sx.br (Decidable.decide (List.getD [c, d] (0 : Nat) (Sx.Ty.dflt (Sx.Ty.int Go.IntKind.u8)) ≥ (240 : Int)))
      (Sx.br (Decidable.decide (List.getD [c, d] (0 : Nat) (Sx.Ty.dflt (Sx.Ty.int Go.IntKind.u8)) ≤ (244 : Int))) (Sx.br (List.getD [c, d] (0 : Nat) (Sx.Ty.dflt (Sx.Ty.int
      Go.IntKind.u8)) == (240 : Int)) (Sx.br (List.getD [c, d] (0 : Nat) (Sx.Ty.dflt (Sx.Ty.int Go.IntKind.u8)) == (244 : Int)) (((0 : Int) ≤ (1 : Int) ∧ (1 : Int) < (↑(2 : Nat)
      : Int)) ∧ (1 : Nat) < (2 : Nat) ∧ Sx.br (Decidable.decide (List.getD [c, d] (1 : Nat) (Sx.Ty.dflt (Sx.Ty.int Go.IntKind.u8)) < (144 : Int))) (Q (Sx.SV.tup [Sx.SV.lit
      (Go.Value.bool Bool.false), Sx.SV.lit (Go.Value.bool Bool.false)], [Sx.SO.row (5 : Nat) (Sx.Ty.int Go.IntKind.u8) [c, d]], [])) (((0 : Int) ≤ (1 : Int) ∧ (1 : Int) < (↑(2
      : Nat) : Int)) ∧ (1 : Nat) < (2 : Nat) ∧ Sx.br (Decidable.decide (List.getD [c, d] (1 : Nat) (Sx.Ty.dflt (Sx.Ty.int Go.IntKind.u8)) > (143 : Int))) (Q (Sx.SV.tup
      [Sx.SV.lit (Go.Value.bool Bool.false), Sx.SV.lit (Go.Value.bool Bool.false)], [Sx.SO.row (5 : Nat) (Sx.Ty.int Go.IntKind.u8) [c, d]], [])) (((0 : Int) ≤ (1 : Int) ∧ (1 :
      Int) < (↑(2 : Nat) : Int)) ∧ (1 : Nat) < (2 : Nat) ∧ Sx.br (Decidable.decide (List.getD [c, d] (1 : Nat) (Sx.Ty.dflt (Sx.Ty.int Go.IntKind.u8)) < (128 : Int))) (Q
      (Sx.SV.tup [Sx.SV.lit (Go.Value.bool Bool.false), Sx.SV.lit (Go.Value.bool Bool.false)], [Sx.SO.row (5 : Nat) (Sx.Ty.int Go.IntKind.u8) [c, d]], [])) (((0 : Int) ≤ (1 :
      Int) ∧ (1 : Int) < (↑(2 : Nat) : Int)) ∧ (1 : Nat) < (2 : Nat) ∧ Sx.br (Decidable.decide (List.getD [c, d] (1 : Nat) (Sx.Ty.dflt (Sx.Ty.int Go.IntKind.u8)) > (191 : Int)))
      (Q (Sx.SV.tup [Sx.SV.lit (Go.Value.bool Bool.false), Sx.SV.lit (Go.Value.bool Bool.false)], [Sx.SO.row (5 : Nat) (Sx.Ty.int Go.IntKind.u8) [c, d]], [])) (Q (Sx.SV.tup
      [Sx.SV.lit (Go.Value.bool Bool.true), Sx.SV.lit (Go.Value.bool Bool.false)], [Sx.SO.row (5 : Nat) (Sx.Ty.int Go.IntKind.u8) [c, d]], [])))))) (((0 : Int) ≤ (1 : Int) ∧ (1
      : Int) < (↑(2 : Nat) : Int)) ∧ (1 : Nat) < (2 : Nat) ∧ Sx.br (Decidable.decide (List.getD [c, d] (1 : Nat) (Sx.Ty.dflt (Sx.Ty.int Go.IntKind.u8)) < (144 : Int))) (Q
      (Sx.SV.tup [Sx.SV.lit (Go.Value.bool Bool.false), Sx.SV.lit (Go.Value.bool Bool.false)], [Sx.SO.row (5 : Nat) (Sx.Ty.int Go.IntKind.u8) [c, d]], [])) (((0 : Int) ≤ (1 :
      Int) ∧ (1 : Int) < (↑(2 : Nat) : Int)) ∧ (1 : Nat) < (2 : Nat) ∧ Sx.br (Decidable.decide (List.getD [c, d] (1 : Nat) (Sx.Ty.dflt (Sx.Ty.int Go.IntKind.u8)) > (191 : Int)))
      (Q (Sx.SV.tup [Sx.SV.lit (Go.Value.bool Bool.false), Sx.SV.lit (Go.Value.bool Bool.false)], [Sx.SO.row (5 : Nat) (Sx.Ty.int Go.IntKind.u8) [c, d]], [])) (((0 : Int) ≤ (1 :
      Int) ∧ (1 : Int) < (↑(2 : Nat) : Int)) ∧ (1 : Nat) < (2 : Nat) ∧ Sx.br (Decidable.decide (List.getD [c, d] (1 : Nat) (Sx.Ty.dflt (Sx.Ty.int Go.IntKind.u8)) < (128 : Int)))
      (Q (Sx.SV.tup [Sx.SV.lit (Go.Value.bool Bool.false), Sx.SV.lit (Go.Value.bool Bool.false)], [Sx.SO.row (5 : Nat) (Sx.Ty.int Go.IntKind.u8) [c, d]], [])) (((0 : Int) ≤ (1 :
      Int) ∧ (1 : Int) < (↑(2 : Nat) : Int)) ∧ (1 : Nat) < (2 : Nat) ∧ Sx.br (Decidable.decide (List.getD [c, d] (1 : Nat) (Sx.Ty.dflt (Sx.Ty.int Go.IntKind.u8)) > (191 : Int)))
      (Q (Sx.SV.tup [Sx.SV.lit (Go.Value.bool Bool.false), Sx.SV.lit (Go.Value.bool Bool.false)], [Sx.SO.row (5 : Nat) (Sx.Ty.int Go.IntKind.u8) [c, d]], [])) (Q (Sx.SV.tup
      [Sx.SV.lit (Go.Value.bool Bool.true), Sx.SV.lit (Go.Value.bool Bool.false)], [Sx.SO.row (5 : Nat) (Sx.Ty.int Go.IntKind.u8) [c, d]], []))))))) (Sx.br (List.getD [c, d] (0
      : Nat) (Sx.Ty.dflt (Sx.Ty.int Go.IntKind.u8)) == (244 : Int)) (((0 : Int) ≤ (1 : Int) ∧ (1 : Int) < (↑(2 : Nat) : Int)) ∧ (1 : Nat) < (2 : Nat) ∧ Sx.br (Decidable.decide
      (List.getD [c, d] (1 : Nat) (Sx.Ty.dflt (Sx.Ty.int Go.IntKind.u8)) < (128 : Int))) (Q (Sx.SV.tup [Sx.SV.lit (Go.Value.bool Bool.false), Sx.SV.lit (Go.Value.bool
      Bool.false)], [Sx.SO.row (5 : Nat) (Sx.Ty.int Go.IntKind.u8) [c, d]], [])) (((0 : Int) ≤ (1 : Int) ∧ (1 : Int) < (↑(2 : Nat) : Int)) ∧ (1 : Nat) < (2 : Nat) ∧ Sx.br
      (Decidable.decide (List.getD [c, d] (1 : Nat) (Sx.Ty.dflt (Sx.Ty.int Go.IntKind.u8)) > (143 : Int))) (Q (Sx.SV.tup [Sx.SV.lit (Go.Value.bool Bool.false), Sx.SV.lit
      (Go.Value.bool Bool.false)], [Sx.SO.row (5 : Nat) (Sx.Ty.int Go.IntKind.u8) [c, d]], [])) (((0 : Int) ≤ (1 : Int) ∧ (1 : Int) < (↑(2 : Nat) : Int)) ∧ (1 : Nat) < (2 : Nat)
      ∧ Sx.br (Decidable.decide (List.getD [c, d] (1 : Nat) (Sx.Ty.dflt (Sx.Ty.int Go.IntKind.u8)) < (128 : Int))) (Q (Sx.SV.tup [Sx.SV.lit (Go.Value.bool Bool.false), Sx.SV.lit
      (Go.Value.bool Bool.false)], [Sx.SO.row (5 : Nat) (Sx.Ty.int Go.IntKind.u8) [c, d]], [])) (((0 : Int) ≤ (1 : Int) ∧ (1 : Int) < (↑(2 : Nat) : Int)) ∧ (1 : Nat) < (2 : Nat)
      ∧ Sx.br (Decidable.decide (List.getD [c, d] (1 : Nat) (Sx.Ty.dflt (Sx.Ty.int Go.IntKind.u8)) > (191 : Int))) (Q (Sx.SV.tup [Sx.SV.lit (Go.Value.bool Bool.false), Sx.SV.lit
      (Go.Value.bool Bool.false)], [Sx.SO.row (5 : Nat) (Sx.Ty.int Go.IntKind.u8) [c, d]], [])) (Q (Sx.SV.tup [Sx.SV.lit (Go.Value.bool Bool.true), Sx.SV.lit (Go.Value.bool
      Bool.false)], [Sx.SO.row (5 : Nat) (Sx.Ty.int Go.IntKind.u8) [c, d]], [])))))) (((0 : Int) ≤ (1 : Int) ∧ (1 : Int) < (↑(2 : Nat) : Int)) ∧ (1 : Nat) < (2 : Nat) ∧ Sx.br
      (Decidable.decide (List.getD [c, d] (1 : Nat) (Sx.Ty.dflt (Sx.Ty.int Go.IntKind.u8)) < (128 : Int))) (Q (Sx.SV.tup [Sx.SV.lit (Go.Value.bool Bool.false), Sx.SV.lit
      (Go.Value.bool Bool.false)], [Sx.SO.row (5 : Nat) (Sx.Ty.int Go.IntKind.u8) [c, d]], [])) (((0 : Int) ≤ (1 : Int) ∧ (1 : Int) < (↑(2 : Nat) : Int)) ∧ (1 : Nat) < (2 : Nat)
      ∧ Sx.br (Decidable.decide (List.getD [c, d] (1 : Nat) (Sx.Ty.dflt (Sx.Ty.int Go.IntKind.u8)) > (191 : Int))) (Q (Sx.SV.tup [Sx.SV.lit (Go.Value.bool Bool.false), Sx.SV.lit
      (Go.Value.bool Bool.false)], [Sx.SO.row (5 : Nat) (Sx.Ty.int Go.IntKind.u8) [c, d]], [])) (((0 : Int) ≤ (1 : Int) ∧ (1 : Int) < (↑(2 : Nat) : Int)) ∧ (1 : Nat) < (2 : Nat)
      ∧ Sx.br (Decidable.decide (List.getD [c, d] (1 : Nat) (Sx.Ty.dflt (Sx.Ty.int Go.IntKind.u8)) < (128 : Int))) (Q (Sx.SV.tup [Sx.SV.lit (Go.Value.bool Bool.false), Sx.SV.lit
      (Go.Value.bool Bool.false)], [Sx.SO.row (5 : Nat) (Sx.Ty.int Go.IntKind.u8) [c, d]], [])) (((0 : Int) ≤ (1 : Int) ∧ (1 : Int) < (↑(2 : Nat) : Int)) ∧ (1 : Nat) < (2 : Nat)
      ∧ Sx.br (Decidable.decide (List.getD [c, d] (1 : Nat) (Sx.Ty.dflt (Sx.Ty.int Go.IntKind.u8)) > (191 : Int))) (Q (Sx.SV.tup [Sx.SV.lit (Go.Value.bool Bool.false), Sx.SV.lit
      (Go.Value.bool Bool.false)], [Sx.SO.row (5 : Nat) (Sx.Ty.int Go.IntKind.u8) [c, d]], [])) (Q (Sx.SV.tup [Sx.SV.lit (Go.Value.bool Bool.true), Sx.SV.lit (Go.Value.bool
      Bool.false)], [Sx.SO.row (5 : Nat) (Sx.Ty.int Go.IntKind.u8) [c, d]], [])))))))) (Q (Sx.SV.tup [Sx.SV.lit (Go.Value.bool Bool.false), Sx.SV.lit (Go.Value.bool
      Bool.false)], [Sx.SO.row (5 : Nat) (Sx.Ty.int Go.IntKind.u8) [c, d]], []))) (Q (Sx.SV.tup [Sx.SV.lit (Go.Value.bool Bool.false), Sx.SV.lit (Go.Value.bool Bool.false)],
      [Sx.SO.row (5 : Nat) (Sx.Ty.int Go.IntKind.u8) [c, d]], [])))))) (by kernel_rfl) ?_
  simp only [List.getD_cons_zero, List.getD_cons_succ]
  have hlh := low_high c
  have ht : tails c [d] = decide (lowOf c ≤ d ∧ d ≤ highOf c) := by simp [tails]
  refine ⟨by omega, by omega, br_intro (fun h => by have := of_decide_eq_true h; omega) (fun _ => ?_)⟩
  repeat' first | (refine br_intro (fun h => ?_) (fun h => ?_)) | (refine And.intro (by omega) ?_)
  all_goals simp only [decide_eq_true_eq, decide_eq_false_iff_not, beq_iff_eq, beq_eq_false_iff_ne] at *
  all_goals first
    | (exfalso; omega)
    | (rw [rmayT (w := 2) (x := true) (by omega) (by rw [ht]; exact decide_eq_true (by omega)) (wid2 (by omega)) rfl] at hq; exact hq)
    | (rw [rmayT (w := 3) (x := false) (by omega) (by rw [ht]; exact decide_eq_true (by omega)) (wid3 (by omega)) rfl] at hq; exact hq)
    | (rw [rmayT (w := 4) (x := false) (by omega) (by rw [ht]; exact decide_eq_true (by omega)) (wid4 (by omega)) rfl] at hq; exact hq)
    | (rw [rmayF (by omega) (by rw [ht]; exact decide_eq_false (by omega))] at hq; exact hq)
theorem v67c (c d e : Int) (h194 : 224 ≤ c ∧ c ≤ 244) (hd : lowOf c ≤ d ∧ d ≤ highOf c) (Q : SV × Heap × List Nat → Prop) (hq : Q (.tup [.lit (.bool (rmay [c, d, e]).1), .lit (.bool (rmay [c, d, e]).2)], [.row 5 (.int .u8) [c, d, e]], [])) :
    (bodySumm Table.none Try.prog Try.f67 noAn [.sl 0 1 0 3] [.row 5 (.int .u8) [c, d, e]]).Leads Q := by
  refine Sx.by_text (q :=
      ((0 : Int) ≤ (0 : Int) ∧ (0 : Int) < (↑(3 : Nat) : Int)) ∧ (0 : Nat) < (3 : Nat) ∧ Sx.br (Decidable.decide (List.getD [c, d, e] (0 : Nat) (Sx.Ty.dflt (Sx.Ty.int
      Go.IntKind.u8)) < (128 : Int))) (Q (Sx.SV.tup [Sx.SV.lit (Go.Value.bool Bool.true), Sx.SV.lit (Go.Value.bool Bool.false)], [Sx.SO.row (5 : Nat) (Sx.Ty.int Go.IntKind.u8)
      [c, d, e]], [])) (Sx.br (Decidable.decide (List.getD [c, d, e] (0 : Nat) (Sx.Ty.dflt (Sx.Ty.int Go.IntKind.u8)) ≥ (194 : Int))) (Sx.br (Decidable.decide (List.getD [c, d,
      e] (0 : Nat) (Sx.Ty.dflt (Sx.Ty.int Go.IntKind.u8)) ≤ (223 : Int))) (((0 : Int) ≤ (1 : Int) ∧ (1 : Int) < (↑(3 : Nat) : Int)) ∧ (1 : Nat) < (3 : Nat) ∧ Sx.br
      (Decidable.decide (List.getD [c, d, e] (1 : Nat) (Sx.Ty.dflt (Sx.Ty.int Go.IntKind.u8)) < (128 : Int))) (Q (Sx.SV.tup [Sx.SV.lit (Go.Value.bool Bool.false), Sx.SV.lit
      (Go.Value.bool Bool.false)], [Sx.SO.row (5 : Nat) (Sx.Ty.int Go.IntKind.u8) [c, d, e]], [])) (((0 : Int) ≤ (1 : Int) ∧ (1 : Int) < (↑(3 : Nat) : Int)) ∧ (1 : Nat) < (3 :
      Nat) ∧ Sx.br (Decidable.decide (List.getD [c, d, e] (1 : Nat) (Sx.Ty.dflt (Sx.Ty.int Go.IntKind.u8)) > (191 : Int))) (Q (Sx.SV.tup [Sx.SV.lit (Go.Value.bool Bool.false),
      Sx.SV.lit (Go.Value.bool Bool.false)], [Sx.SO.row (5 : Nat) (Sx.Ty.int Go.IntKind.u8) [c, d, e]], [])) (((0 : Int) ≤ (1 : Int) ∧ (1 : Int) < (↑(3 : Nat) : Int)) ∧ (1 :
      Nat) < (3 : Nat) ∧ Sx.br (Decidable.decide (List.getD [c, d, e] (1 : Nat) (Sx.Ty.dflt (Sx.Ty.int Go.IntKind.u8)) < (128 : Int))) (Q (Sx.SV.tup [Sx.SV.lit (Go.Value.bool
      Bool.false), Sx.SV.lit (Go.Value.bool Bool.false)], [Sx.SO.row (5 : Nat) (Sx.Ty.int Go.IntKind.u8) [c, d, e]], [])) (((0 : Int) ≤ (1 : Int) ∧ (1 : Int) < (↑(3 : Nat) :
      Int)) ∧ (1 : Nat) < (3 : Nat) ∧ Sx.br (Decidable.decide (List.getD [c, d, e] (1 : Nat) (Sx.Ty.dflt (Sx.Ty.int Go.IntKind.u8)) > (191 : Int))) (Q (Sx.SV.tup [Sx.SV.lit
      (Go.Value.bool Bool.false), Sx.SV.lit (Go.Value.bool Bool.false)], [Sx.SO.row (5 : Nat) (Sx.Ty.int Go.IntKind.u8) [c, d, e]], [])) (((0 : Int) ≤ Go.IntKind.wrap
      Go.IntKind.i64 ((1 : Int) + (1 : Int)) ∧ Go.IntKind.wrap Go.IntKind.i64 ((1 : Int) + (1 : Int)) < (↑(3 : Nat) : Int)) ∧ (2 : Nat) < (3 : Nat) ∧ Sx.br (Decidable.decide
      (List.getD [c, d, e] (2 : Nat) (Sx.Ty.dflt (Sx.Ty.int Go.IntKind.u8)) < (128 : Int))) (Q (Sx.SV.tup [Sx.SV.lit (Go.Value.bool Bool.false), Sx.SV.lit (Go.Value.bool
      Bool.false)], [Sx.SO.row (5 : Nat) (Sx.Ty.int Go.IntKind.u8) [c, d, e]], [])) (((0 : Int) ≤ Go.IntKind.wrap Go.IntKind.i64 ((1 : Int) + (1 : Int)) ∧ Go.IntKind.wrap
      Go.IntKind.i64 ((1 : Int) + (1 : Int)) < (↑(3 : Nat) : Int)) ∧ (2 : Nat) < (3 : Nat) ∧ Sx.br (Decidable.decide (List.getD [c, d, e] (2 : Nat) (Sx.Ty.dflt (Sx.Ty.int
      Go.IntKind.u8)) > (191 : Int))) (Q (Sx.SV.tup [Sx.SV.lit (Go.Value.bool Bool.false), Sx.SV.lit (Go.Value.bool Bool.false)], [Sx.SO.row (5 : Nat) (Sx.Ty.int Go.IntKind.u8)
      [c, d, e]], [])) (Q (Sx.SV.tup [Sx.SV.lit (Go.Value.bool Bool.true), Sx.SV.lit (Go.Value.bool Bool.false)], [Sx.SO.row (5 : Nat) (Sx.Ty.int Go.IntKind.u8) [c, d, e]],
      [])))))))) (Sx.br (Decidable.decide (List.getD [c, d, e] (0 : Nat) (Sx.Ty.dflt (Sx.Ty.int Go.IntKind.u8)) ≥ (224 : Int))) (Sx.br (Decidable.decide (List.getD [c, d, e] (0
      : Nat) (Sx.Ty.dflt (Sx.Ty.int Go.IntKind.u8)) ≤ (239 : Int))) (Sx.br (List.getD [c, d, e] (0 : Nat) (Sx.Ty.dflt (Sx.Ty.int Go.IntKind.u8)) == (224 : Int)) (Sx.br
      (List.getD [c, d, e] (0 : Nat) (Sx.Ty.dflt (Sx.Ty.int Go.IntKind.u8)) == (237 : Int)) (((0 : Int) ≤ (1 : Int) ∧ (1 : Int) < (↑(3 : Nat) : Int)) ∧ (1 : Nat) < (3 : Nat) ∧
      Sx.br (Decidable.decide (List.getD [c, d, e] (1 : Nat) (Sx.Ty.dflt (Sx.Ty.int Go.IntKind.u8)) < (160 : Int))) (Q (Sx.SV.tup [Sx.SV.lit (Go.Value.bool Bool.false),
      Sx.SV.lit (Go.Value.bool Bool.false)], [Sx.SO.row (5 : Nat) (Sx.Ty.int Go.IntKind.u8) [c, d, e]], [])) (((0 : Int) ≤ (1 : Int) ∧ (1 : Int) < (↑(3 : Nat) : Int)) ∧ (1 :
      Nat) < (3 : Nat) ∧ Sx.br (Decidable.decide (List.getD [c, d, e] (1 : Nat) (Sx.Ty.dflt (Sx.Ty.int Go.IntKind.u8)) > (159 : Int))) (Q (Sx.SV.tup [Sx.SV.lit (Go.Value.bool
      Bool.false), Sx.SV.lit (Go.Value.bool Bool.false)], [Sx.SO.row (5 : Nat) (Sx.Ty.int Go.IntKind.u8) [c, d, e]], [])) (((0 : Int) ≤ (1 : Int) ∧ (1 : Int) < (↑(3 : Nat) :
      Int)) ∧ (1 : Nat) < (3 : Nat) ∧ Sx.br (Decidable.decide (List.getD [c, d, e] (1 : Nat) (Sx.Ty.dflt (Sx.Ty.int Go.IntKind.u8)) < (128 : Int))) (Q (Sx.SV.tup [Sx.SV.lit
      (Go.Value.bool Bool.false), Sx.SV.lit (Go.Value.bool Bool.false)], [Sx.SO.row (5 : Nat) (Sx.Ty.int Go.IntKind.u8) [c, d, e]], [])) (((0 : Int) ≤ (1 : Int) ∧ (1 : Int) <
      (↑(3 : Nat) : Int)) ∧ (1 : Nat) < (3 : Nat) ∧ Sx.br (Decidable.decide (List.getD [c, d, e] (1 : Nat) (Sx.Ty.dflt (Sx.Ty.int Go.IntKind.u8)) > (191 : Int))) (Q (Sx.SV.tup
      [Sx.SV.lit (Go.Value.bool Bool.false), Sx.SV.lit (Go.Value.bool Bool.false)], [Sx.SO.row (5 : Nat) (Sx.Ty.int Go.IntKind.u8) [c, d, e]], [])) (((0 : Int) ≤ Go.IntKind.wrap
      Go.IntKind.i64 ((1 : Int) + (1 : Int)) ∧ Go.IntKind.wrap Go.IntKind.i64 ((1 : Int) + (1 : Int)) < (↑(3 : Nat) : Int)) ∧ (2 : Nat) < (3 : Nat) ∧ Sx.br (Decidable.decide
      (List.getD [c, d, e] (2 : Nat) (Sx.Ty.dflt (Sx.Ty.int Go.IntKind.u8)) < (128 : Int))) (Q (Sx.SV.tup [Sx.SV.lit (Go.Value.bool Bool.false), Sx.SV.lit (Go.Value.bool
      Bool.false)], [Sx.SO.row (5 : Nat) (Sx.Ty.int Go.IntKind.u8) [c, d, e]], [])) (((0 : Int) ≤ Go.IntKind.wrap Go.IntKind.i64 ((1 : Int) + (1 : Int)) ∧ Go.IntKind.wrap
      Go.IntKind.i64 ((1 : Int) + (1 : Int)) < (↑(3 : Nat) : Int)) ∧ (2 : Nat) < (3 : Nat) ∧ Sx.br (Decidable.decide (List.getD [c, d, e] (2 : Nat) (Sx.Ty.dflt (Sx.Ty.int
      Go.IntKind.u8)) > (191 : Int))) (Q (Sx.SV.tup [Sx.SV.lit (Go.Value.bool Bool.false), Sx.SV.lit (Go.Value.bool Bool.false)], [Sx.SO.row (5 : Nat) (Sx.Ty.int Go.IntKind.u8)
      [c, d, e]], [])) (Q (Sx.SV.tup [Sx.SV.lit (Go.Value.bool Bool.true), Sx.SV.lit (Go.Value.bool Bool.true)], [Sx.SO.row (5 : Nat) (Sx.Ty.int Go.IntKind.u8) [c, d, e]],
      [])))))))) (((0 : Int) ≤ (1 : Int) ∧ (1 : Int) < (↑(3 : Nat) : Int)) ∧ (1 : Nat) < (3 : Nat) ∧ Sx.br (Decidable.decide (List.getD [c, d, e] (1 : Nat) (Sx.Ty.dflt
      (Sx.Ty.int Go.IntKind.u8)) < (160 : Int))) (Q (Sx.SV.tup [Sx.SV.lit (Go.Value.bool Bool.false), Sx.SV.lit (Go.Value.bool Bool.false)], [Sx.SO.row (5 : Nat) (Sx.Ty.int
      Go.IntKind.u8) [c, d, e]], [])) (((0 : Int) ≤ (1 : Int) ∧ (1 : Int) < (↑(3 : Nat) : Int)) ∧ (1 : Nat) < (3 : Nat) ∧ Sx.br (Decidable.decide (List.getD [c, d, e] (1 : Nat)
      (Sx.Ty.dflt (Sx.Ty.int Go.IntKind.u8)) > (191 : Int))) (Q (Sx.SV.tup [Sx.SV.lit (Go.Value.bool Bool.false), Sx.SV.lit (Go.Value.bool Bool.false)], [Sx.SO.row (5 : Nat)
      (Sx.Ty.int Go.IntKind.u8) [c, d, e]], [])) (((0 : Int) ≤ (1 : Int) ∧ (1 : Int) < (↑(3 : Nat) : Int)) ∧ (1 : Nat) < (3 : Nat) ∧ Sx.br (Decidable.decide (List.getD [c, d, e]
      (1 : Nat) (Sx.Ty.dflt (Sx.Ty.int Go.IntKind.u8)) < (128 : Int))) (Q (Sx.SV.tup [Sx.SV.lit (Go.Value.bool Bool.false), Sx.SV.lit (Go.Value.bool Bool.false)], [Sx.SO.row (5
      : Nat) (Sx.Ty.int Go.IntKind.u8) [c, d, e]], [])) (((0 : Int) ≤ (1 : Int) ∧ (1 : Int) < (↑(3 : Nat) : Int)) ∧ (1 : Nat) < (3 : Nat) ∧ Sx.br (Decidable.decide (List.getD
      [c, d, e] (1 : Nat) (Sx.Ty.dflt (Sx.Ty.int Go.IntKind.u8)) > (191 : Int))) (Q (Sx.SV.tup [Sx.SV.lit (Go.Value.bool Bool.false), Sx.SV.lit (Go.Value.bool Bool.false)],
      [Sx.SO.row (5 : Nat) (Sx.Ty.int Go.IntKind.u8) [c, d, e]], [])) (((0 : Int) ≤ Go.IntKind.wrap Go.IntKind.i64 ((1 : Int) + (1 : Int)) ∧ Go.IntKind.wrap Go.IntKind.i64 ((1 :
      Int) + (1 : Int)) < (↑(3 : Nat) : Int)) ∧ (2 : Nat) < (3 : Nat) ∧ Sx.br (Decidable.decide (List.getD [c, d, e] (2 : Nat) (Sx.Ty.dflt (Sx.Ty.int Go.IntKind.u8)) < (128 :
      Int))) (Q (Sx.SV.tup [Sx.SV.lit (Go.Value.bool Bool.false), Sx.SV.lit (Go.Value.bool Bool.false)], [Sx.SO.row (5 : Nat) (Sx.Ty.int Go.IntKind.u8) [c, d, e]], [])) (((0 :
      Int) ≤ Go.IntKind.wrap Go.IntKind.i64 ((1 : Int) + (1 : Int)) ∧ Go.IntKind.wrap Go.IntKind.i64 ((1 : Int) + (1 : Int)) < (↑(3 : Nat) : Int)) ∧ (2 : Nat) < (3 : Nat) ∧
      Sx.br (Decidable.decide (List.getD [c, d, e] (2 : Nat) (Sx.Ty.dflt (Sx.Ty.int Go.IntKind.u8)) > (191 : Int))) (Q (Sx.SV.tup [Sx.SV.lit (Go.Value.bool Bool.false),
      Sx.SV.lit (Go.Value.bool Bool.false)], [Sx.SO.row (5 : Nat) (Sx.Ty.int Go.IntKind.u8) [c, d, e]], [])) (Q (Sx.SV.tup [Sx.SV.lit (Go.Value.bool Bool.true), Sx.SV.lit
      (Go.Value.bool Bool.true)], [Sx.SO.row (5 : Nat) (Sx.Ty.int Go.IntKind.u8) [c, d, e]], []))))))))) (Sx.br (List.getD [c, d, e] (0 : Nat) (Sx.Ty.dflt (Sx.Ty.int
      Go.IntKind.u8)) == (237 : Int)) (((0 : Int) ≤ (1 : Int) ∧ (1 : Int) < (↑(3 : Nat) : Int)) ∧ (1 : Nat) < (3 : Nat) ∧ Sx.br (Decidable.decide (List.getD [c, d, e] (1 : Nat)
      (Sx.Ty.dflt (Sx.Ty.int Go.IntKind.u8)) < (128 : Int))) (Q (Sx.SV.tup [Sx.SV.lit (Go.Value.bool Bool.false), Sx.SV.lit (Go.Value.bool Bool.false)], [Sx.SO.row (5 : Nat)
      (Sx.Ty.int Go.IntKind.u8) [c, d, e]], [])) (((0 : Int) ≤ (1 : Int) ∧ (1 : Int) < (↑(3 : Nat) : Int)) ∧ (1 : Nat) < (3 : Nat) ∧ Sx.br (Decidable.decide (List.getD [c, d, e]
      (1 : Nat) (Sx.Ty.dflt (Sx.Ty.int Go.IntKind.u8)) > (159 : Int))) (Q (Sx.SV.tup [Sx.SV.lit (Go.Value.bool Bool.false), Sx.SV.lit (Go.Value.bool Bool.false)], [Sx.SO.row (5
      : Nat) (Sx.Ty.int Go.IntKind.u8) [c, d, e]], [])) (((0 : Int) ≤ (1 : Int) ∧ (1 : Int) < (↑(3 : Nat) : Int)) ∧ (1 : Nat) < (3 : Nat) ∧ Sx.br (Decidable.decide (List.getD
      [c, d, e] (1 : Nat) (Sx.Ty.dflt (Sx.Ty.int Go.IntKind.u8)) < (128 : Int))) (Q (Sx.SV.tup [Sx.SV.lit (Go.Value.bool Bool.false), Sx.SV.lit (Go.Value.bool Bool.false)],
      [Sx.SO.row (5 : Nat) (Sx.Ty.int Go.IntKind.u8) [c, d, e]], [])) (((0 : Int) ≤ (1 : Int) ∧ (1 : Int) < (↑(3 : Nat) : Int)) ∧ (1 : Nat) < (3 : Nat) ∧ Sx.br (Decidable.decide
      (List.getD [c, d, e] (1 : Nat) (Sx.Ty.dflt (Sx.Ty.int Go.IntKind.u8)) > (191 : Int))) (Q (Sx.SV.tup [Sx.SV.lit (Go.Value.bool Bool.false), Sx.SV.lit (Go.Value.bool
      Bool.false)], [Sx.SO.row (5 : Nat) (Sx.Ty.int Go.IntKind.u8) [c, d, e]], [])) (((0 : Int) ≤ Go.IntKind.wrap Go.IntKind.i64 ((1 : Int) + (1 : Int)) ∧ Go.IntKind.wrap
      Go.IntKind.i64 ((1 : Int) + (1 : Int)) < (↑(3 : Nat) : Int)) ∧ (2 : Nat) < (3 : Nat) ∧ Sx.br (Decidable.decide (List.getD [c, d, e] (2 : Nat) (Sx.Ty.dflt (Sx.Ty.int
      Go.IntKind.u8)) < (128 : Int))) (Q (Sx.SV.tup [Sx.SV.lit (Go.Value.bool Bool.false), Sx.SV.lit (Go.Value.bool Bool.false)], [Sx.SO.row (5 : Nat) (Sx.Ty.int Go.IntKind.u8)
      [c, d, e]], [])) (((0 : Int) ≤ Go.IntKind.wrap Go.IntKind.i64 ((1 : Int) + (1 : Int)) ∧ Go.IntKind.wrap Go.IntKind.i64 ((1 : Int) + (1 : Int)) < (↑(3 : Nat) : Int)) ∧ (2 :
      Nat) < (3 : Nat) ∧ Sx.br (Decidable.decide (List.getD [c, d, e] (2 : Nat) (Sx.Ty.dflt (Sx.Ty.int Go.IntKind.u8)) > (191 : Int))) (Q (Sx.SV.tup [Sx.SV.lit (Go.Value.bool
      Bool.false), Sx.SV.lit (Go.Value.bool Bool.false)], [Sx.SO.row (5 : Nat) (Sx.Ty.int Go.IntKind.u8) [c, d, e]], [])) (Q (Sx.SV.tup [Sx.SV.lit (Go.Value.bool Bool.true),
      Sx.SV.lit (Go.Value.bool Bool.true)], [Sx.SO.row (5 : Nat) (Sx.Ty.int Go.IntKind.u8) [c, d, e]], [])))))))) (((0 : Int) ≤ (1 : Int) ∧ (1 : Int) < (↑(3 : Nat) : Int)) ∧ (1
      : Nat) < (3 : Nat) ∧ Sx.br (Decidable.decide (List.getD [c, d, e] (1 : Nat) (Sx.Ty.dflt (Sx.Ty.int Go.IntKind.u8)) < (128 : Int))) (Q (Sx.SV.tup [Sx.SV.lit (Go.Value.bool
      Bool.false), Sx.SV.lit (Go.Value.bool Bool.false)], [Sx.SO.row (5 : Nat) (Sx.Ty.int Go.IntKind.u8) [c, d, e]], [])) (((0 : Int) ≤ (1 : Int) ∧ (1 : Int) < (↑(3 : Nat) :
      Int)) ∧ (1 : Nat) < (3 : Nat) ∧ Sx.br (Decidable.decide (List.getD [c, d, e] (1 : Nat) (Sx.Ty.dflt (Sx.Ty.int Go.IntKind.u8)) > (191 : Int))) (Q (Sx.SV.tup [Sx.SV.lit
      (Go.Value.bool Bool.false), Sx.SV.lit (Go.Value.bool Bool.false)], [Sx.SO.row (5 : Nat) (Sx.Ty.int Go.IntKind.u8) [c, d, e]], [])) (((0 : Int) ≤ (1 : Int) ∧ (1 : Int) <
      (↑(3 : Nat) : Int)) ∧ (1 : Nat) < (3 : Nat) ∧ Sx.br (Decidable.decide (List.getD [c, d, e] (1 : Nat) (Sx.Ty.dflt (Sx.Ty.int Go.IntKind.u8)) < (128 : Int))) (Q (Sx.SV.tup
      [Sx.SV.lit (Go.Value.bool Bool.false), Sx.SV.lit (Go.Value.bool Bool.false)], [Sx.SO.row (5 : Nat) (Sx.Ty.int Go.IntKind.u8) [c, d, e]], [])) (((0 : Int) ≤ (1 : Int) ∧ (1
      : Int) < (↑(3 : Nat) : Int)) ∧ (1 : Nat) < (3 : Nat) ∧ Sx.br (Decidable.decide (List.getD [c, d, e] (1 : Nat) (Sx.Ty.dflt (Sx.Ty.int Go.IntKind.u8)) > (191 : Int))) (Q
      (Sx.SV.tup [Sx.SV.lit (Go.Value.bool Bool.false), Sx.SV.lit (Go.Value.bool Bool.false)], [Sx.SO.row (5 : Nat) (Sx.Ty.int Go.IntKind.u8) [c, d, e]], [])) (((0 : Int) ≤
      Go.IntKind.wrap Go.IntKind.i64 ((1 : Int) + (1 : Int)) ∧ Go.IntKind.wrap Go.IntKind.i64 ((1 : Int) + (1 : Int)) < (↑(3 : Nat) : Int)) ∧ (2 : Nat) < (3 : Nat) ∧ Sx.br
      (Decidable.decide (List.getD [c, d, e] (2 : Nat) (Sx.Ty.dflt (Sx.Ty.int Go.IntKind.u8)) < (128 : Int))) (Q (Sx.SV.tup [Sx.SV.lit (Go.Value.bool Bool.false), Sx.SV.lit
      (Go.Value.bool Bool.false)], [Sx.SO.row (5 : Nat) (Sx.Ty.int Go.IntKind.u8) [c, d, e]], [])) (((0 : Int) ≤ Go.IntKind.wrap Go.IntKind.i64 ((1 : Int) + (1 : Int)) ∧
      Go.IntKind.wrap Go.IntKind.i64 ((1 : Int) + (1 : Int)) < (↑(3 : Nat) : Int)) ∧ (2 : Nat) < (3 : Nat) ∧ Sx.br (Decidable.decide (List.getD [c, d, e] (2 : Nat) (Sx.Ty.dflt
      (Sx.Ty.int Go.IntKind.u8)) > (191 : Int))) (Q (Sx.SV.tup [Sx.SV.lit (Go.Value.bool Bool.false), Sx.SV.lit (Go.Value.bool Bool.false)], [Sx.SO.row (5 : Nat) (Sx.Ty.int
      Go.IntKind.u8) [c, d, e]], [])) (Q (Sx.SV.tup [Sx.SV.lit (Go.Value.bool Bool.true), Sx.SV.lit (Go.Value.bool Bool.true)], [Sx.SO.row (5 : Nat) (Sx.Ty.int Go.IntKind.u8)
      [c, d, e]], [])))))))))) (Sx.br (Decidable.decide (List.getD [c, d, e] (0 : Nat) (Sx.Ty.dflt (Sx.Ty.int Go.IntKind.u8)) ≥ (240 : Int))) (Sx.br (Decidable.decide (List.getD
      [c, d, e] (0 : Nat) (Sx.Ty.dflt (Sx.Ty.int Go.IntKind.u8)) ≤ (244 : Int))) (Sx.br (List.getD [c, d, e] (0 : Nat) (Sx.Ty.dflt (Sx.Ty.int Go.IntKind.u8)) == (240 : Int))
      (Sx.br (List.getD [c, d, e] (0 : Nat) (Sx.Ty.dflt (Sx.Ty.int Go.IntKind.u8)) == (244 : Int)) (((0 : Int) ≤ (1 : Int) ∧ (1 : Int) < (↑(3 : Nat) : Int)) ∧ (1 : Nat) < (3 :
      Nat) ∧ Sx.br (Decidable.decide (List.getD [c, d, e] (1 : Nat) (Sx.Ty.dflt (Sx.Ty.int Go.IntKind.u8)) < (144 : Int))) (Q (Sx.SV.tup [Sx.SV.lit (Go.Value.bool Bool.false),
      Sx.SV.lit (Go.Value.bool Bool.false)], [Sx.SO.row (5 : Nat) (Sx.Ty.int Go.IntKind.u8) [c, d, e]], [])) (((0 : Int) ≤ (1 : Int) ∧ (1 : Int) < (↑(3 : Nat) : Int)) ∧ (1 :
      Nat) < (3 : Nat) ∧ Sx.br (Decidable.decide (List.getD [c, d, e] (1 : Nat) (Sx.Ty.dflt (Sx.Ty.int Go.IntKind.u8)) > (143 : Int))) (Q (Sx.SV.tup [Sx.SV.lit (Go.Value.bool
      Bool.false), Sx.SV.lit (Go.Value.bool Bool.false)], [Sx.SO.row (5 : Nat) (Sx.Ty.int Go.IntKind.u8) [c, d, e]], [])) (((0 : Int) ≤ (1 : Int) ∧ (1 : Int) < (↑(3 : Nat) :
      Int)) ∧ (1 : Nat) < (3 : Nat) ∧ Sx.br (Decidable.decide (List.getD [c, d, e] (1 : Nat) (Sx.Ty.dflt (Sx.Ty.int Go.IntKind.u8)) < (128 : Int))) (Q (Sx.SV.tup [Sx.SV.lit
      (Go.Value.bool Bool.false), Sx.SV.lit (Go.Value.bool Bool.false)], [Sx.SO.row (5 : Nat) (Sx.Ty.int Go.IntKind.u8) [c, d, e]], [])) (((0 : Int) ≤ (1 : Int) ∧ (1 : Int) <
      (↑(3 : Nat) : Int)) ∧ (1 : Nat) < (3 : Nat) ∧ Sx.br (Decidable.decide (List.getD [c, d, e] (1 : Nat) (Sx.Ty.dflt (Sx.Ty.int Go.IntKind.u8)) > (191 : Int))) (Q (Sx.SV.tup
      [Sx.SV.lit (Go.Value.bool Bool.false), Sx.SV.lit (Go.Value.bool Bool.false)], [Sx.SO.row (5 : Nat) (Sx.Ty.int Go.IntKind.u8) [c, d, e]], [])) (((0 : Int) ≤ Go.IntKind.wrap
      Go.IntKind.i64 ((1 : Int) + (1 : Int)) ∧ Go.IntKind.wrap Go.IntKind.i64 ((1 : Int) + (1 : Int)) < (↑(3 : Nat) : Int)) ∧ (2 : Nat) < (3 : Nat) ∧ Sx.br (Decidable.decide
      (List.getD [c, d, e] (2 : Nat) (Sx.Ty.dflt (Sx.Ty.int Go.IntKind.u8)) < (128 : Int))) (Q (Sx.SV.tup [Sx.SV.lit (Go.Value.bool Bool.false), Sx.SV.lit (Go.Value.bool
      Bool.false)], [Sx.SO.row (5 : Nat) (Sx.Ty.int Go.IntKind.u8) [c, d, e]], [])) (((0 : Int) ≤ Go.IntKind.wrap Go.IntKind.i64 ((1 : Int) + (1 : Int)) ∧ Go.IntKind.wrap
      Go.IntKind.i64 ((1 : Int) + (1 : Int)) < (↑(3 : Nat) : Int)) ∧ (2 : Nat) < (3 : Nat) ∧ Sx.br (Decidable.decide (List.getD [c, d, e] (2 : Nat) (Sx.Ty.dflt (Sx.Ty.int
      Go.IntKind.u8)) > (191 : Int))) (Q (Sx.SV.tup [Sx.SV.lit (Go.Value.bool Bool.false), Sx.SV.lit (Go.Value.bool Bool.false)], [Sx.SO.row (5 : Nat) (Sx.Ty.int Go.IntKind.u8)
      [c, d, e]], [])) (Q (Sx.SV.tup [Sx.SV.lit (Go.Value.bool Bool.true), Sx.SV.lit (Go.Value.bool Bool.false)], [Sx.SO.row (5 : Nat) (Sx.Ty.int Go.IntKind.u8) [c, d, e]],
      [])))))))) (((0 : Int) ≤ (1 : Int) ∧ (1 : Int) < (↑(3 : Nat) : Int)) ∧ (1 : Nat) < (3 : Nat) ∧ Sx.br (Decidable.decide (List.getD [c, d, e] (1 : Nat) (Sx.Ty.dflt
      (Sx.Ty.int Go.IntKind.u8)) < (144 : Int))) (Q (Sx.SV.tup [Sx.SV.lit (Go.Value.bool Bool.false), Sx.SV.lit (Go.Value.bool Bool.false)], [Sx.SO.row (5 : Nat) (Sx.Ty.int
      Go.IntKind.u8) [c, d, e]], [])) (((0 : Int) ≤ (1 : Int) ∧ (1 : Int) < (↑(3 : Nat) : Int)) ∧ (1 : Nat) < (3 : Nat) ∧ Sx.br (Decidable.decide (List.getD [c, d, e] (1 : Nat)
      (Sx.Ty.dflt (Sx.Ty.int Go.IntKind.u8)) > (191 : Int))) (Q (Sx.SV.tup [Sx.SV.lit (Go.Value.bool Bool.false), Sx.SV.lit (Go.Value.bool Bool.false)], [Sx.SO.row (5 : Nat)
      (Sx.Ty.int Go.IntKind.u8) [c, d, e]], [])) (((0 : Int) ≤ (1 : Int) ∧ (1 : Int) < (↑(3 : Nat) : Int)) ∧ (1 : Nat) < (3 : Nat) ∧ Sx.br (Decidable.decide (List.getD [c, d, e]
      (1 : Nat) (Sx.Ty.dflt (Sx.Ty.int Go.IntKind.u8)) < (128 : Int))) (Q (Sx.SV.tup [Sx.SV.lit (Go.Value.bool Bool.false), Sx.SV.lit (Go.Value.bool Bool.false)], [Sx.SO.row (5
      : Nat) (Sx.Ty.int Go.IntKind.u8) [c, d, e]], [])) (((0 : Int) ≤ (1 : Int) ∧ (1 : Int) < (↑(3 : Nat) : Int)) ∧ (1 : Nat) < (3 : Nat) ∧ Sx.br (Decidable.decide (List.getD
      [c, d, e] (1 : Nat) (Sx.Ty.dflt (Sx.Ty.int Go.IntKind.u8)) > (191 : Int))) (Q (Sx.SV.tup [Sx.SV.lit (Go.Value.bool Bool.false), Sx.SV.lit (Go.Value.bool Bool.false)],
      [Sx.SO.row (5 : Nat) (Sx.Ty.int Go.IntKind.u8) [c, d, e]], [])) (((0 : Int) ≤ Go.IntKind.wrap Go.IntKind.i64 ((1 : Int) + (1 : Int)) ∧ Go.IntKind.wrap Go.IntKind.i64 ((1 :
      Int) + (1 : Int)) < (↑(3 : Nat) : Int)) ∧ (2 : Nat) < (3 : Nat) ∧ Sx.br (Decidable.decide (List.getD [c, d, e] (2 : Nat) (Sx.Ty.dflt (Sx.Ty.int Go.IntKind.u8)) < (128 :
      Int))) (Q (Sx.SV.tup [Sx.SV.lit (Go.Value.bool Bool.false), Sx.SV.lit (Go.Value.bool Bool.false)], [Sx.SO.row (5 : Nat) (Sx.Ty.int Go.IntKind.u8) [c, d, e]], [])) (((0 :
      Int) ≤ Go.IntKind.wrap Go.IntKind.i64 ((1 : Int) + (1 : Int)) ∧ Go.IntKind.wrap Go.IntKind.i64 ((1 : Int) + (1 : Int)) < (↑(3 : Nat) : Int)) ∧ (2 : Nat) < (3 : Nat) ∧
      Sx.br (Decidable.decide (List.getD [c, d, e] (2 : Nat) (Sx.Ty.dflt (Sx.Ty.int Go.IntKind.u8)) > (191 : Int))) (Q (Sx.SV.tup [Sx.SV.lit (Go.Value.bool Bool.false),
      Sx.SV.lit (Go.Value.bool Bool.false)], [Sx.SO.row (5 : Nat) (Sx.Ty.int Go.IntKind.u8) [c, d, e]], [])) (Q (Sx.SV.tup [Sx.SV.lit (Go.Value.bool Bool.true), Sx.SV.lit
      (Go.Value.bool Bool.false)], [Sx.SO.row (5 : Nat) (Sx.Ty.int Go.IntKind.u8) [c, d, e]], []))))))))) (Sx.br (List.getD [c, d, e] (0 : Nat) (Sx.Ty.dflt (Sx.Ty.int
      Go.IntKind.u8)) == (244 : Int)) (((0 : Int) ≤ (1 : Int) ∧ (1 : Int) < (↑(3 : Nat) : Int)) ∧ (1 : Nat) < (3 : Nat) ∧ Sx.br (Decidable.decide (List.getD [c, d, e] (1 : Nat)
      (Sx.Ty.dflt (Sx.Ty.int Go.IntKind.u8)) < (128 : Int))) (Q (Sx.SV.tup [Sx.SV.lit (Go.Value.bool Bool.false), Sx.SV.lit (Go.Value.bool Bool.false)], [Sx.SO.row (5 : Nat)
      (Sx.Ty.int Go.IntKind.u8) [c, d, e]], [])) (((0 : Int) ≤ (1 : Int) ∧ (1 : Int) < (↑(3 : Nat) : Int)) ∧ (1 : Nat) < (3 : Nat) ∧ Sx.br (Decidable.decide (List.getD [c, d, e]
      (1 : Nat) (Sx.Ty.dflt (Sx.Ty.int Go.IntKind.u8)) > (143 : Int))) (Q (Sx.SV.tup [Sx.SV.lit (Go.Value.bool Bool.false), Sx.SV.lit (Go.Value.bool Bool.false)], [Sx.SO.row (5
      : Nat) (Sx.Ty.int Go.IntKind.u8) [c, d, e]], [])) (((0 : Int) ≤ (1 : Int) ∧ (1 : Int) < (↑(3 : Nat) : Int)) ∧ (1 : Nat) < (3 : Nat) ∧ Sx.br (Decidable.decide (List.getD
      [c, d, e] (1 : Nat) (Sx.Ty.dflt (Sx.Ty.int Go.IntKind.u8)) < (128 : Int))) (Q (Sx.SV.tup [Sx.SV.lit (Go.Value.bool Bool.false), Sx.SV.lit (Go.Value.bool Bool.false)],
      [Sx.SO.row (5 : Nat) (Sx.Ty.int Go.IntKind.u8) [c, d, e]], [])) (((0 : Int) ≤ (1 : Int) ∧ (1 : Int) < (↑(3 : Nat) : Int)) ∧ (1 : Nat) < (3 : Nat) ∧ Sx.br (Decidable.decide
      (List.getD [c, d, e] (1 : Nat) (Sx.Ty.dflt (Sx.Ty.int Go.IntKind.u8)) > (191 : Int))) (Q (Sx.SV.tup [Sx.SV.lit (Go.Value.bool Bool.false), Sx.SV.lit (Go.Value.bool
      Bool.false)], [Sx.SO.row (5 : Nat) (Sx.Ty.int Go.IntKind.u8) [c, d, e]], [])) (((0 : Int) ≤ Go.IntKind.wrap Go.IntKind.i64 ((1 : Int) + (1 : Int)) ∧ Go.IntKind.wrap
      Go.IntKind.i64 ((1 : Int) + (1 : Int)) < (↑(3 : Nat) : Int)) ∧ (2 : Nat) < (3 : Nat) ∧ Sx.br (Decidable.decide (List.getD [c, d, e] (2 : Nat) (Sx.Ty.dflt (Sx.Ty.int
      Go.IntKind.u8)) < (128 : Int))) (Q (Sx.SV.tup [Sx.SV.lit (Go.Value.bool Bool.false), Sx.SV.lit (Go.Value.bool Bool.false)], [Sx.SO.row (5 : Nat) (Sx.Ty.int Go.IntKind.u8)
      [c, d, e]], [])) (((0 : Int) ≤ Go.IntKind.wrap Go.IntKind.i64 ((1 : Int) + (1 : Int)) ∧ Go.IntKind.wrap Go.IntKind.i64 ((1 : Int) + (1 : Int)) < (↑(3 : Nat) : Int)) ∧ (2 :
      Nat) < (3 : Nat) ∧ Sx.br (Decidable.decide (List.getD [c, d, e] (2 : Nat) (Sx.Ty.dflt (Sx.Ty.int Go.IntKind.u8)) > (191 : Int))) (Q (Sx.SV.tup [Sx.SV.lit (Go.Value.bool
      Bool.false), Sx.SV.lit (Go.Value.bool Bool.false)], [Sx.SO.row (5 : Nat) (Sx.Ty.int Go.IntKind.u8) [c, d, e]], [])) (Q (Sx.SV.tup [Sx.SV.lit (Go.Value.bool Bool.true),
      Sx.SV.lit (Go.Value.bool Bool.false)], [Sx.SO.row (5 : Nat) (Sx.Ty.int Go.IntKind.u8) [c, d, e]], [])))))))) (((0 : Int) ≤ (1 : Int) ∧ (1 : Int) < (↑(3 : Nat) : Int)) ∧ (1
      : Nat) < (3 : Nat) ∧ Sx.br (Decidable.decide (List.getD [c, d, e] (1 : Nat) (Sx.Ty.dflt (Sx.Ty.int Go.IntKind.u8)) < (128 : Int))) (Q (Sx.SV.tup [Sx.SV.lit (Go.Value.bool
      Bool.false), Sx.SV.lit (Go.Value.bool Bool.false)], [Sx.SO.row (5 : Nat) (Sx.Ty.int Go.IntKind.u8) [c, d, e]], [])) (((0 : Int) ≤ (1 : Int) ∧ (1 : Int) < (↑(3 : Nat) :
      Int)) ∧ (1 : Nat) < (3 : Nat) ∧ Sx.br (Decidable.decide (List.getD [c, d, e] (1 : Nat) (Sx.Ty.dflt (Sx.Ty.int Go.IntKind.u8)) > (191 : Int))) (Q (Sx.SV.tup [Sx.SV.lit
      (Go.Value.bool Bool.false), Sx.SV.lit (Go.Value.bool Bool.false)], [Sx.SO.row (5 : Nat) (Sx.Ty.int Go.IntKind.u8) [c, d, e]], [])) (((0 : Int) ≤ (1 : Int) ∧ (1 : Int) <
      (↑(3 : Nat) : Int)) ∧ (1 : Nat) < (3 : Nat) ∧ Sx.br (Decidable.decide (List.getD [c, d, e] (1 : Nat) (Sx.Ty.dflt (Sx.Ty.int Go.IntKind.u8)) < (128 : Int))) (Q (Sx.SV.tup
      [Sx.SV.lit (Go.Value.bool Bool.false), Sx.SV.lit (Go.Value.bool Bool.false)], [Sx.SO.row (5 : Nat) (Sx.Ty.int Go.IntKind.u8) [c, d, e]], [])) (((0 : Int) ≤ (1 : Int) ∧ (1
      : Int) < (↑(3 : Nat) : Int)) ∧ (1 : Nat) < (3 : Nat) ∧ Sx.br (Decidable.decide (List.getD [c, d, e] (1 : Nat) (Sx.Ty.dflt (Sx.Ty.int Go.IntKind.u8)) > (191 : Int))) (Q
      (Sx.SV.tup [Sx.SV.lit (Go.Value.bool Bool.false), Sx.SV.lit (Go.Value.bool Bool.false)], [Sx.SO.row (5 : Nat) (Sx.Ty.int Go.IntKind.u8) [c, d, e]], [])) (((0 : Int) ≤
      Go.IntKind.wrap Go.IntKind.i64 ((1 : Int) + (1 : Int)) ∧ Go.IntKind.wrap Go.IntKind.i64 ((1 : Int) + (1 : Int)) < (↑(3 : Nat) : Int)) ∧ (2 : Nat) < (3 : Nat) ∧ Sx.br
      (Decidable.decide (List.getD [c, d, e] (2 : Nat) (Sx.Ty.dflt (Sx.Ty.int Go.IntKind.u8)) < (128 : Int))) (Q (Sx.SV.tup [Sx.SV.lit (Go.Value.bool Bool.false), Sx.SV.lit
      (Go.Value.bool Bool.false)], [Sx.SO.row (5 : Nat) (Sx.Ty.int Go.IntKind.u8) [c, d, e]], [])) (((0 : Int) ≤ Go.IntKind.wrap Go.IntKind.i64 ((1 : Int) + (1 : Int)) ∧
      Go.IntKind.wrap Go.IntKind.i64 ((1 : Int) + (1 : Int)) < (↑(3 : Nat) : Int)) ∧ (2 : Nat) < (3 : Nat) ∧ Sx.br (Decidable.decide (List.getD [c, d, e] (2 : Nat) (Sx.Ty.dflt
      (Sx.Ty.int Go.IntKind.u8)) > (191 : Int))) (Q (Sx.SV.tup [Sx.SV.lit (Go.Value.bool Bool.false), Sx.SV.lit (Go.Value.bool Bool.false)], [Sx.SO.row (5 : Nat) (Sx.Ty.int
      Go.IntKind.u8) [c, d, e]], [])) (Q (Sx.SV.tup [Sx.SV.lit (Go.Value.bool Bool.true), Sx.SV.lit (Go.Value.bool Bool.false)], [Sx.SO.row (5 : Nat) (Sx.Ty.int Go.IntKind.u8)
      [c, d, e]], [])))))))))) (Q (Sx.SV.tup [Sx.SV.lit (Go.Value.bool Bool.false), Sx.SV.lit (Go.Value.bool Bool.false)], [Sx.SO.row (5 : Nat) (Sx.Ty.int Go.IntKind.u8) [c, d,
      e]], []))) (Q (Sx.SV.tup [Sx.SV.lit (Go.Value.bool Bool.false), Sx.SV.lit (Go.Value.bool Bool.false)], [Sx.SO.row (5 : Nat) (Sx.Ty.int Go.IntKind.u8) [c, d, e]], []))))
      (Sx.br (Decidable.decide (List.getD [c, d, e] (0 : Nat) (Sx.Ty.dflt (Sx.Ty.int Go.IntKind.u8)) ≥ (240 : Int))) (Sx.br (Decidable.decide (List.getD [c, d, e] (0 : Nat)
      (Sx.Ty.dflt (Sx.Ty.int Go.IntKind.u8)) ≤ (244 : Int))) (Sx.br (List.getD [c, d, e] (0 : Nat) (Sx.Ty.dflt (Sx.Ty.int Go.IntKind.u8)) == (240 : Int)) (Sx.br (List.getD [c,
      d, e] (0 : Nat) (Sx.Ty.dflt (Sx.Ty.int Go.IntKind.u8)) == (244 : Int)) (((0 : Int) ≤ (1 : Int) ∧ (1 : Int) < (↑(3 : Nat) : Int)) ∧ (1 : Nat) < (3 : Nat) ∧ Sx.br
      (Decidable.decide (List.getD [c, d, e] (1 : Nat) (Sx.Ty.dflt (Sx.Ty.int Go.IntKind.u8)) < (144 : Int))) (Q (Sx.SV.tup [Sx.SV.lit (Go.Value.bool Bool.false), Sx.SV.lit
      (Go.Value.bool Bool.false)], [Sx.SO.row (5 : Nat) (Sx.Ty.int Go.IntKind.u8) [c, d, e]], [])) (((0 : Int) ≤ (1 : Int) ∧ (1 : Int) < (↑(3 : Nat) : Int)) ∧ (1 : Nat) < (3 :
      Nat) ∧ Sx.br (Decidable.decide (List.getD [c, d, e] (1 : Nat) (Sx.Ty.dflt (Sx.Ty.int Go.IntKind.u8)) > (143 : Int))) (Q (Sx.SV.tup [Sx.SV.lit (Go.Value.bool Bool.false),
      Sx.SV.lit (Go.Value.bool Bool.false)], [Sx.SO.row (5 : Nat) (Sx.Ty.int Go.IntKind.u8) [c, d, e]], [])) (((0 : Int) ≤ (1 : Int) ∧ (1 : Int) < (↑(3 : Nat) : Int)) ∧ (1 :
      Nat) < (3 : Nat) ∧ Sx.br (Decidable.decide (List.getD [c, d, e] (1 : Nat) (Sx.Ty.dflt (Sx.Ty.int Go.IntKind.u8)) < (128 : Int))) (Q (Sx.SV.tup [Sx.SV.lit (Go.Value.bool
      Bool.false), Sx.SV.lit (Go.Value.bool Bool.false)], [Sx.SO.row (5 : Nat) (Sx.Ty.int Go.IntKind.u8) [c, d, e]], [])) (((0 : Int) ≤ (1 : Int) ∧ (1 : Int) < (↑(3 : Nat) :
      Int)) ∧ (1 : Nat) < (3 : Nat) ∧ Sx.br (Decidable.decide (List.getD [c, d, e] (1 : Nat) (Sx.Ty.dflt (Sx.Ty.int Go.IntKind.u8)) > (191 : Int))) (Q (Sx.SV.tup [Sx.SV.lit
      (Go.Value.bool Bool.false), Sx.SV.lit (Go.Value.bool Bool.false)], [Sx.SO.row (5 : Nat) (Sx.Ty.int Go.IntKind.u8) [c, d, e]], [])) (((0 : Int) ≤ Go.IntKind.wrap
      Go.IntKind.i64 ((1 : Int) + (1 : Int)) ∧ Go.IntKind.wrap Go.IntKind.i64 ((1 : Int) + (1 : Int)) < (↑(3 : Nat) : Int)) ∧ (2 : Nat) < (3 : Nat) ∧ Sx.br (Decidable.decide
      (List.getD [c, d, e] (2 : Nat) (Sx.Ty.dflt (Sx.Ty.int Go.IntKind.u8)) < (128 : Int))) (Q (Sx.SV.tup [Sx.SV.lit (Go.Value.bool Bool.false), Sx.SV.lit (Go.Value.bool
      Bool.false)], [Sx.SO.row (5 : Nat) (Sx.Ty.int Go.IntKind.u8) [c, d, e]], [])) (((0 : Int) ≤ Go.IntKind.wrap Go.IntKind.i64 ((1 : Int) + (1 : Int)) ∧ Go.IntKind.wrap
      Go.IntKind.i64 ((1 : Int) + (1 : Int)) < (↑(3 : Nat) : Int)) ∧ (2 : Nat) < (3 : Nat) ∧ Sx.br (Decidable.decide (List.getD [c, d, e] (2 : Nat) (Sx.Ty.dflt (Sx.Ty.int
      Go.IntKind.u8)) > (191 : Int))) (Q (Sx.SV.tup [Sx.SV.lit (Go.Value.bool Bool.false), Sx.SV.lit (Go.Value.bool Bool.false)], [Sx.SO.row (5 : Nat) (Sx.Ty.int Go.IntKind.u8)
      [c, d, e]], [])) (Q (Sx.SV.tup [Sx.SV.lit (Go.Value.bool Bool.true), Sx.SV.lit (Go.Value.bool Bool.false)], [Sx.SO.row (5 : Nat) (Sx.Ty.int Go.IntKind.u8) [c, d, e]],
      [])))))))) (((0 : Int) ≤ (1 : Int) ∧ (1 : Int) < (↑(3 : Nat) : Int)) ∧ (1 : Nat) < (3 : Nat) ∧ Sx.br (Decidable.decide (List.getD [c, d, e] (1 : Nat) (Sx.Ty.dflt
      (Sx.Ty.int Go.IntKind.u8)) < (144 : Int))) (Q (Sx.SV.tup [Sx.SV.lit (Go.Value.bool Bool.false), Sx.SV.lit (Go.Value.bool Bool.false)], [Sx.SO.row (5 : Nat) (Sx.Ty.int
      Go.IntKind.u8) [c, d, e]], [])) (((0 : Int) ≤ (1 : Int) ∧ (1 : Int) < (↑(3 : Nat) : Int)) ∧ (1 : Nat) < (3 : Nat) ∧ Sx.br (Decidable.decide (List.getD [c, d, e] (1 : Nat)
      (Sx.Ty.dflt (Sx.Ty.int Go.IntKind.u8)) > (191 : Int))) (Q (Sx.SV.tup [Sx.SV.lit (Go.Value.bool Bool.false), Sx.SV.lit (Go.Value.bool Bool.false)], [Sx.SO.row (5 : Nat)
      (Sx.Ty.int Go.IntKind.u8) [c, d, e]], [])) (((0 : Int) ≤ (1 : Int) ∧ (1 : Int) < (↑(3 : Nat) : Int)) ∧ (1 : Nat) < (3 : Nat) ∧ Sx.br (Decidable.decide (List.getD [c, d, e]
      (1 : Nat) (Sx.Ty.dflt (Sx.Ty.int Go.IntKind.u8)) < (128 : Int))) (Q (Sx.SV.tup [Sx.SV.lit (Go.Value.bool Bool.false), Sx.SV.lit (Go.Value.bool Bool.false)], [Sx.SO.row (5
      : Nat) (Sx.Ty.int Go.IntKind.u8) [c, d, e]], [])) (((0 : Int) ≤ (1 : Int) ∧ (1 : Int) < (↑(3 : Nat) : Int)) ∧ (1 : Nat) < (3 : Nat) ∧ Sx.br (Decidable.decide (List.getD
      [c, d, e] (1 : Nat) (Sx.Ty.dflt (Sx.Ty.int Go.IntKind.u8)) > (191 : Int))) (Q (Sx.SV.tup [Sx.SV.lit (Go.Value.bool Bool.false), Sx.SV.lit (Go.Value.bool Bool.false)],
      [Sx.SO.row (5 : Nat) (Sx.Ty.int Go.IntKind.u8) [c, d, e]], [])) (((0 : Int) ≤ Go.IntKind.wrap Go.IntKind.i64 ((1 : Int) + (1 : Int)) ∧ Go.IntKind.wrap Go.IntKind.i64 ((1 :
      Int) + (1 : Int)) < (↑(3 : Nat) : Int)) ∧ (2 : Nat) < (3 : Nat) ∧ Sx.br (Decidable.decide (List.getD [c, d, e] (2 : Nat) (Sx.Ty.dflt (Sx.Ty.int Go.IntKind.u8)) < (128 :
      Int))) (Q (Sx.SV.tup [Sx.SV.lit (Go.Value.bool Bool.false), Sx.SV.lit (Go.Value.bool Bool.false)], [Sx.SO.row (5 : Nat) (Sx.Ty.int Go.IntKind.u8) [c, d, e]], [])) (((0 :
      Int) ≤ Go.IntKind.wrap Go.IntKind.i64 ((1 : Int) + (1 : Int)) ∧ Go.IntKind.wrap Go.IntKind.i64 ((1 : Int) + (1 : Int)) < (↑(3 : Nat) : Int)) ∧ (2 : Nat) < (3 : Nat) ∧
      Sx.br (Decidable.decide (List.getD [c, d, e] (2 : Nat) (Sx.Ty.dflt (Sx.Ty.int Go.IntKind.u8)) > (191 : Int))) (Q (Sx.SV.tup [Sx.SV.lit (Go.Value.bool Bool.false),
      Sx.SV.lit (Go.Value.bool Bool.false)], [Sx.SO.row (5 : Nat) (Sx.Ty.int Go.IntKind.u8) [c, d, e]], [])) (Q (Sx.SV.tup [Sx.SV.lit (Go.Value.bool Bool.true), Sx.SV.lit
      (Go.Value.bool Bool.false)], [Sx.SO.row (5 : Nat) (Sx.Ty.int Go.IntKind.u8) [c, d, e]], []))))))))) (Sx.br (List.getD [c, d, e] (0 : Nat) (Sx.Ty.dflt (Sx.Ty.int
      Go.IntKind.u8)) == (244 : Int)) (((0 : Int) ≤ (1 : Int) ∧ (1 : Int) < (↑(3 : Nat) : Int)) ∧ (1 : Nat) < (3 : Nat) ∧ Sx.br (Decidable.decide (List.getD [c, d, e] (1 : Nat)
      (Sx.Ty.dflt (Sx.Ty.int Go.IntKind.u8)) < (128 : Int))) (Q (Sx.SV.tup [Sx.SV.lit (Go.Value.bool Bool.false), Sx.SV.lit (Go.Value.bool Bool.false)], [Sx.SO.row (5 : Nat)
      (Sx.Ty.int Go.IntKind.u8) [c, d, e]], [])) (((0 : Int) ≤ (1 : Int) ∧ (1 : Int) < (↑(3 : Nat) : Int)) ∧ (1 : Nat) < (3 : Nat) ∧ Sx.br (Decidable.decide (List.getD [c, d, e]
      (1 : Nat) (Sx.Ty.dflt (Sx.Ty.int Go.IntKind.u8)) > (143 : Int))) (Q (Sx.SV.tup [Sx.SV.lit (Go.Value.bool Bool.false), Sx.SV.lit (Go.Value.bool Bool.false)], [Sx.SO.row (5
      : Nat) (Sx.Ty.int Go.IntKind.u8) [c, d, e]], [])) (((0 : Int) ≤ (1 : Int) ∧ (1 : Int) < (↑(3 : Nat) : Int)) ∧ (1 : Nat) < (3 : Nat) ∧ Sx.br (Decidable.decide (List.getD
      [c, d, e] (1 : Nat) (Sx.Ty.dflt (Sx.Ty.int Go.IntKind.u8)) < (128 : Int))) (Q (Sx.SV.tup [Sx.SV.lit (Go.Value.bool Bool.false), Sx.SV.lit (Go.Value.bool Bool.false)],
      [Sx.SO.row (5 : Nat) (Sx.Ty.int Go.IntKind.u8) [c, d, e]], [])) (((0 : Int) ≤ (1 : Int) ∧ (1 : Int) < (↑(3 : Nat) : Int)) ∧ (1 : Nat) < (3 : Nat) ∧ Sx.br (Decidable.decide
      (List.getD [c, d, e] (1 : Nat) (Sx.Ty.dflt (Sx.Ty.int Go.IntKind.u8)) > (191 : Int))) (Q (Sx.SV.tup [Sx.SV.lit (Go.Value.bool Bool.false), Sx.SV.lit (Go.Value.bool
      Bool.false)], [Sx.SO.row (5 : Nat) (Sx.Ty.int Go.IntKind.u8) [c, d, e]], [])) (((0 : Int) ≤ Go.IntKind.wrap Go.IntKind.i64 ((1 : Int) + (1 : Int)) ∧ Go.IntKind.wrap
      Go.IntKind.i64 ((1 : Int) + (1 : Int)) < (↑(3 : Nat) : Int)) ∧ (2 : Nat) < (3 : Nat) ∧ Sx.br (Decidable.decide (List.getD [c, d, e] (2 : Nat) (Sx.Ty.dflt (Sx.Ty.int
      Go.IntKind.u8)) < (128 : Int))) (Q (Sx.SV.tup [Sx.SV.lit (Go.Value.bool Bool.false), Sx.SV.lit (Go.Value.bool Bool.false)], [Sx.SO.row (5 : Nat) (Sx.Ty.int Go.IntKind.u8)
      [c, d, e]], [])) (((0 : Int) ≤ Go.IntKind.wrap Go.IntKind.i64 ((1 : Int) + (1 : Int)) ∧ Go.IntKind.wrap Go.IntKind.i64 ((1 : Int) + (1 : Int)) < (↑(3 : Nat) : Int)) ∧ (2 :
      Nat) < (3 : Nat) ∧ Sx.br (Decidable.decide (List.getD [c, d, e] (2 : Nat) (Sx.Ty.dflt (Sx.Ty.int Go.IntKind.u8)) > (191 : Int))) (Q (Sx.SV.tup [Sx.SV.lit (Go.Value.bool
      Bool.false), Sx.SV.lit (Go.Value.bool Bool.false)], [Sx.SO.row (5 : Nat) (Sx.Ty.int Go.IntKind.u8) [c, d, e]], [])) (Q (Sx.SV.tup [Sx.SV.lit (Go.Value.bool Bool.true),
      Sx.SV.lit (Go.Value.bool Bool.false)], [Sx.SO.row (5 : Nat) (Sx.Ty.int Go.IntKind.u8) [c, d, e]], [])))))))) (((0 : Int) ≤ (1 : Int) ∧ (1 : Int) < (↑(3 : Nat) : Int)) ∧ (1
      : Nat) < (3 : Nat) ∧ Sx.br (Decidable.decide (List.getD [c, d, e] (1 : Nat) (Sx.Ty.dflt (Sx.Ty.int Go.IntKind.u8)) < (128 : Int))) (Q (Sx.SV.tup [Sx.SV.lit (Go.Value.bool
      Bool.false), Sx.SV.lit (Go.Value.bool Bool.false)], [Sx.SO.row (5 : Nat) (Sx.Ty.int Go.IntKind.u8) [c, d, e]], [])) (((0 : Int) ≤ (1 : Int) ∧ (1 : Int) < (↑(3 : Nat) :
      Int)) ∧ (1 : Nat) < (3 : Nat) ∧ Sx.br (Decidable.decide (List.getD [c, d, e] (1 : Nat) (Sx.Ty.dflt (Sx.Ty.int Go.IntKind.u8)) > (191 : Int))) (Q (Sx.SV.tup [Sx.SV.lit
      (Go.Value.bool Bool.false), Sx.SV.lit (Go.Value.bool Bool.false)], [Sx.SO.row (5 : Nat) (Sx.Ty.int Go.IntKind.u8) [c, d, e]], [])) (((0 : Int) ≤ (1 : Int) ∧ (1 : Int) <
      (↑(3 : Nat) : Int)) ∧ (1 : Nat) < (3 : Nat) ∧ Sx.br (Decidable.decide (List.getD [c, d, e] (1 : Nat) (Sx.Ty.dflt (Sx.Ty.int Go.IntKind.u8)) < (128 : Int))) (Q (Sx.SV.tup
      [Sx.SV.lit (Go.Value.bool Bool.false), Sx.SV.lit (Go.Value.bool Bool.false)], [Sx.SO.row (5 : Nat) (Sx.Ty.int Go.IntKind.u8) [c, d, e]], [])) (((0 : Int) ≤ (1 : Int) ∧ (1
      : Int) < (↑(3 : Nat) : Int)) ∧ (1 : Nat) < (3 : Nat) ∧ Sx.br (Decidable.decide (List.getD [c, d, e] (1 : Nat) (Sx.Ty.dflt (Sx.Ty.int Go.IntKind.u8)) > (191 : Int))) (Q
      (Sx.SV.tup [Sx.SV.lit (Go.Value.bool Bool.false), Sx.SV.lit (Go.Value.bool Bool.false)], [Sx.SO.row (5 : Nat) (Sx.Ty.int Go.IntKind.u8) [c, d, e]], [])) (((0 : Int) ≤
      Go.IntKind.wrap Go.IntKind.i64 ((1 : Int) + (1 : Int)) ∧ Go.IntKind.wrap Go.IntKind.i64 ((1 : Int) + (1 : Int)) < (↑(3 : Nat) : Int)) ∧ (2 : Nat) < (3 : Nat) ∧ Sx.br
      (Decidable.decide (List.getD [c, d, e] (2 : Nat) (Sx.Ty.dflt (Sx.Ty.int Go.IntKind.u8)) < (128 : Int))) (Q (Sx.SV.tup [Sx.SV.lit (Go.Value.bool Bool.false), Sx.SV.lit
      (Go.Value.bool Bool.false)], [Sx.SO.row (5 : Nat) (Sx.Ty.int Go.IntKind.u8) [c, d, e]], [])) (((0 : Int) ≤ Go.IntKind.wrap Go.IntKind.i64 ((1 : Int) + (1 : Int)) ∧
      Go.IntKind.wrap Go.IntKind.i64 ((1 : Int) + (1 : Int)) < (↑(3 : Nat) : Int)) ∧ (2 : Nat) < (3 : Nat) ∧ Sx.br (Decidable.decide (List.getD [c, d, e] (2 : Nat) (Sx.Ty.dflt
      (Sx.Ty.int Go.IntKind.u8)) > (191 : Int))) (Q (Sx.SV.tup [Sx.SV.lit (Go.Value.bool Bool.false), Sx.SV.lit (Go.Value.bool Bool.false)], [Sx.SO.row (5 : Nat) (Sx.Ty.int
      Go.IntKind.u8) [c, d, e]], [])) (Q (Sx.SV.tup [Sx.SV.lit (Go.Value.bool Bool.true), Sx.SV.lit (Go.Value.bool Bool.false)], [Sx.SO.row (5 : Nat) (Sx.Ty.int Go.IntKind.u8)
      [c, d, e]], [])))))))))) (Q (Sx.SV.tup [Sx.SV.lit (Go.Value.bool Bool.false), Sx.SV.lit (Go.Value.bool Bool.false)], [Sx.SO.row (5 : Nat) (Sx.Ty.int Go.IntKind.u8) [c, d,
      e]], []))) (Q (Sx.SV.tup [Sx.SV.lit (Go.Value.bool Bool.false), Sx.SV.lit (Go.Value.bool Bool.false)], [Sx.SO.row (5 : Nat) (Sx.Ty.int Go.IntKind.u8) [c, d, e]], [])))))
      (Sx.br (Decidable.decide (List.getD [c, d, e] (0 : Nat) (Sx.Ty.dflt (Sx.Ty.int Go.IntKind.u8)) ≥ (224 : Int))) (Sx.br (Decidable.decide (List.getD [c, d, e] (0 : Nat)
      (Sx.Ty.dflt (Sx.Ty.int Go.IntKind.u8)) ≤ (239 : Int))) (Sx.br (List.getD [c, d, e] (0 : Nat) (Sx.Ty.dflt (Sx.Ty.int Go.IntKind.u8)) == (224 : Int)) (Sx.br (List.getD [c,
      d, e] (0 : Nat) (Sx.Ty.dflt (Sx.Ty.int Go.IntKind.u8)) == (237 : Int)) (((0 : Int) ≤ (1 : Int) ∧ (1 : Int) < (↑(3 : Nat) : Int)) ∧ (1 : Nat) < (3 : Nat) ∧ Sx.br
      (Decidable.decide (List.getD [c, d, e] (1 : Nat) (Sx.Ty.dflt (Sx.Ty.int Go.IntKind.u8)) < (160 : Int))) (Q (Sx.SV.tup [Sx.SV.lit (Go.Value.bool Bool.false), Sx.SV.lit
      (Go.Value.bool Bool.false)], [Sx.SO.row (5 : Nat) (Sx.Ty.int Go.IntKind.u8) [c, d, e]], [])) (((0 : Int) ≤ (1 : Int) ∧ (1 : Int) < (↑(3 : Nat) : Int)) ∧ (1 : Nat) < (3 :
      Nat) ∧ Sx.br (Decidable.decide (List.getD [c, d, e] (1 : Nat) (Sx.Ty.dflt (Sx.Ty.int Go.IntKind.u8)) > (159 : Int))) (Q (Sx.SV.tup [Sx.SV.lit (Go.Value.bool Bool.false),
      Sx.SV.lit (Go.Value.bool Bool.false)], [Sx.SO.row (5 : Nat) (Sx.Ty.int Go.IntKind.u8) [c, d, e]], [])) (((0 : Int) ≤ (1 : Int) ∧ (1 : Int) < (↑(3 : Nat) : Int)) ∧ (1 :
      Nat) < (3 : Nat) ∧ Sx.br (Decidable.decide (List.getD [c, d, e] (1 : Nat) (Sx.Ty.dflt (Sx.Ty.int Go.IntKind.u8)) < (128 : Int))) (Q (Sx.SV.tup [Sx.SV.lit (Go.Value.bool
      Bool.false), Sx.SV.lit (Go.Value.bool Bool.false)], [Sx.SO.row (5 : Nat) (Sx.Ty.int Go.IntKind.u8) [c, d, e]], [])) (((0 : Int) ≤ (1 : Int) ∧ (1 : Int) < (↑(3 : Nat) :
      Int)) ∧ (1 : Nat) < (3 : Nat) ∧ Sx.br (Decidable.decide (List.getD [c, d, e] (1 : Nat) (Sx.Ty.dflt (Sx.Ty.int Go.IntKind.u8)) > (191 : Int))) (Q (Sx.SV.tup [Sx.SV.lit
      (Go.Value.bool Bool.false), Sx.SV.lit (Go.Value.bool Bool.false)], [Sx.SO.row (5 : Nat) (Sx.Ty.int Go.IntKind.u8) [c, d, e]], [])) (((0 : Int) ≤ Go.IntKind.wrap
      Go.IntKind.i64 ((1 : Int) + (1 : Int)) ∧ Go.IntKind.wrap Go.IntKind.i64 ((1 : Int) + (1 : Int)) < (↑(3 : Nat) : Int)) ∧ (2 : Nat) < (3 : Nat) ∧ Sx.br (Decidable.decide
      (List.getD [c, d, e] (2 : Nat) (Sx.Ty.dflt (Sx.Ty.int Go.IntKind.u8)) < (128 : Int))) (Q (Sx.SV.tup [Sx.SV.lit (Go.Value.bool Bool.false), Sx.SV.lit (Go.Value.bool
      Bool.false)], [Sx.SO.row (5 : Nat) (Sx.Ty.int Go.IntKind.u8) [c, d, e]], [])) (((0 : Int) ≤ Go.IntKind.wrap Go.IntKind.i64 ((1 : Int) + (1 : Int)) ∧ Go.IntKind.wrap
      Go.IntKind.i64 ((1 : Int) + (1 : Int)) < (↑(3 : Nat) : Int)) ∧ (2 : Nat) < (3 : Nat) ∧ Sx.br (Decidable.decide (List.getD [c, d, e] (2 : Nat) (Sx.Ty.dflt (Sx.Ty.int
      Go.IntKind.u8)) > (191 : Int))) (Q (Sx.SV.tup [Sx.SV.lit (Go.Value.bool Bool.false), Sx.SV.lit (Go.Value.bool Bool.false)], [Sx.SO.row (5 : Nat) (Sx.Ty.int Go.IntKind.u8)
      [c, d, e]], [])) (Q (Sx.SV.tup [Sx.SV.lit (Go.Value.bool Bool.true), Sx.SV.lit (Go.Value.bool Bool.true)], [Sx.SO.row (5 : Nat) (Sx.Ty.int Go.IntKind.u8) [c, d, e]],
      [])))))))) (((0 : Int) ≤ (1 : Int) ∧ (1 : Int) < (↑(3 : Nat) : Int)) ∧ (1 : Nat) < (3 : Nat) ∧ Sx.br (Decidable.decide (List.getD [c, d, e] (1 : Nat) (Sx.Ty.dflt
      (Sx.Ty.int Go.IntKind.u8)) < (160 : Int))) (Q (Sx.SV.tup [Sx.SV.lit (Go.Value.bool Bool.false), Sx.SV.lit (Go.Value.bool Bool.false)], [Sx.SO.row (5 : Nat) (Sx.Ty.int
      Go.IntKind.u8) [c, d, e]], [])) (((0 : Int) ≤ (1 : Int) ∧ (1 : Int) < (↑(3 : Nat) : Int)) ∧ (1 : Nat) < (3 : Nat) ∧ Sx.br (Decidable.decide (List.getD [c, d, e] (1 : Nat)
      (Sx.Ty.dflt (Sx.Ty.int Go.IntKind.u8)) > (191 : Int))) (Q (Sx.SV.tup [Sx.SV.lit (Go.Value.bool Bool.false), Sx.SV.lit (Go.Value.bool Bool.false)], [Sx.SO.row (5 : Nat)
      (Sx.Ty.int Go.IntKind.u8) [c, d, e]], [])) (((0 : Int) ≤ (1 : Int) ∧ (1 : Int) < (↑(3 : Nat) : Int)) ∧ (1 : Nat) < (3 : Nat) ∧ Sx.br (Decidable.decide (List.getD [c, d, e]
      (1 : Nat) (Sx.Ty.dflt (Sx.Ty.int Go.IntKind.u8)) < (128 : Int))) (Q (Sx.SV.tup [Sx.SV.lit (Go.Value.bool Bool.false), Sx.SV.lit (Go.Value.bool Bool.false)], [Sx.SO.row (5
      : Nat) (Sx.Ty.int Go.IntKind.u8) [c, d, e]], [])) (((0 : Int) ≤ (1 : Int) ∧ (1 : Int) < (↑(3 : Nat) : Int)) ∧ (1 : Nat) < (3 : Nat) ∧ Sx.br (Decidable.decide (List.getD
      [c, d, e] (1 : Nat) (Sx.Ty.dflt (Sx.Ty.int Go.IntKind.u8)) > (191 : Int))) (Q (Sx.SV.tup [Sx.SV.lit (Go.Value.bool Bool.false), Sx.SV.lit (Go.Value.bool Bool.false)],
      [Sx.SO.row (5 : Nat) (Sx.Ty.int Go.IntKind.u8) [c, d, e]], [])) (((0 : Int) ≤ Go.IntKind.wrap Go.IntKind.i64 ((1 : Int) + (1 : Int)) ∧ Go.IntKind.wrap Go.IntKind.i64 ((1 :
      Int) + (1 : Int)) < (↑(3 : Nat) : Int)) ∧ (2 : Nat) < (3 : Nat) ∧ Sx.br (Decidable.decide (List.getD [c, d, e] (2 : Nat) (Sx.Ty.dflt (Sx.Ty.int Go.IntKind.u8)) < (128 :
      Int))) (Q (Sx.SV.tup [Sx.SV.lit (Go.Value.bool Bool.false), Sx.SV.lit (Go.Value.bool Bool.false)], [Sx.SO.row (5 : Nat) (Sx.Ty.int Go.IntKind.u8) [c, d, e]], [])) (((0 :
      Int) ≤ Go.IntKind.wrap Go.IntKind.i64 ((1 : Int) + (1 : Int)) ∧ Go.IntKind.wrap Go.IntKind.i64 ((1 : Int) + (1 : Int)) < (↑(3 : Nat) : Int)) ∧ (2 : Nat) < (3 : Nat) ∧
      Sx.br (Decidable.decide (List.getD [c, d, e] (2 : Nat) (Sx.Ty.dflt (Sx.Ty.int Go.IntKind.u8)) > (191 : Int))) (Q (Sx.SV.tup [Sx.SV.lit (Go.Value.bool Bool.false),
      Sx.SV.lit (Go.Value.bool Bool.false)], [Sx.SO.row (5 : Nat) (Sx.Ty.int Go.IntKind.u8) [c, d, e]], [])) (Q (Sx.SV.tup [Sx.SV.lit (Go.Value.bool Bool.true), Sx.SV.lit
      (Go.Value.bool Bool.true)], [Sx.SO.row (5 : Nat) (Sx.Ty.int Go.IntKind.u8) [c, d, e]], []))))))))) (Sx.br (List.getD [c, d, e] (0 : Nat) (Sx.Ty.dflt (Sx.Ty.int
      Go.IntKind.u8)) == (237 : Int)) (((0 : Int) ≤ (1 : Int) ∧ (1 : Int) < (↑(3 : Nat) : Int)) ∧ (1 : Nat) < (3 : Nat) ∧ Sx.br (Decidable.decide (List.getD [c, d, e] (1 : Nat)
      (Sx.Ty.dflt (Sx.Ty.int Go.IntKind.u8)) < (128 : Int))) (Q (Sx.SV.tup [Sx.SV.lit (Go.Value.bool Bool.false), Sx.SV.lit (Go.Value.bool Bool.false)], [Sx.SO.row (5 : Nat)
      (Sx.Ty.int Go.IntKind.u8) [c, d, e]], [])) (((0 : Int) ≤ (1 : Int) ∧ (1 : Int) < (↑(3 : Nat) : Int)) ∧ (1 : Nat) < (3 : Nat) ∧ Sx.br (Decidable.decide (List.getD [c, d, e]
      (1 : Nat) (Sx.Ty.dflt (Sx.Ty.int Go.IntKind.u8)) > (159 : Int))) (Q (Sx.SV.tup [Sx.SV.lit (Go.Value.bool Bool.false), Sx.SV.lit (Go.Value.bool Bool.false)], [Sx.SO.row (5
      : Nat) (Sx.Ty.int Go.IntKind.u8) [c, d, e]], [])) (((0 : Int) ≤ (1 : Int) ∧ (1 : Int) < (↑(3 : Nat) : Int)) ∧ (1 : Nat) < (3 : Nat) ∧ Sx.br (Decidable.decide (List.getD
      [c, d, e] (1 : Nat) (Sx.Ty.dflt (Sx.Ty.int Go.IntKind.u8)) < (128 : Int))) (Q (Sx.SV.tup [Sx.SV.lit (Go.Value.bool Bool.false), Sx.SV.lit (Go.Value.bool Bool.false)],
      [Sx.SO.row (5 : Nat) (Sx.Ty.int Go.IntKind.u8) [c, d, e]], [])) (((0 : Int) ≤ (1 : Int) ∧ (1 : Int) < (↑(3 : Nat) : Int)) ∧ (1 : Nat) < (3 : Nat) ∧ Sx.br (Decidable.decide
      (List.getD [c, d, e] (1 : Nat) (Sx.Ty.dflt (Sx.Ty.int Go.IntKind.u8)) > (191 : Int))) (Q (Sx.SV.tup [Sx.SV.lit (Go.Value.bool Bool.false), Sx.SV.lit (Go.Value.bool
      Bool.false)], [Sx.SO.row (5 : Nat) (Sx.Ty.int Go.IntKind.u8) [c, d, e]], [])) (((0 : Int) ≤ Go.IntKind.wrap Go.IntKind.i64 ((1 : Int) + (1 : Int)) ∧ Go.IntKind.wrap
      Go.IntKind.i64 ((1 : Int) + (1 : Int)) < (↑(3 : Nat) : Int)) ∧ (2 : Nat) < (3 : Nat) ∧ Sx.br (Decidable.decide (List.getD [c, d, e] (2 : Nat) (Sx.Ty.dflt (Sx.Ty.int
      Go.IntKind.u8)) < (128 : Int))) (Q (Sx.SV.tup [Sx.SV.lit (Go.Value.bool Bool.false), Sx.SV.lit (Go.Value.bool Bool.false)], [Sx.SO.row (5 : Nat) (Sx.Ty.int Go.IntKind.u8)
      [c, d, e]], [])) (((0 : Int) ≤ Go.IntKind.wrap Go.IntKind.i64 ((1 : Int) + (1 : Int)) ∧ Go.IntKind.wrap Go.IntKind.i64 ((1 : Int) + (1 : Int)) < (↑(3 : Nat) : Int)) ∧ (2 :
      Nat) < (3 : Nat) ∧ Sx.br (Decidable.decide (List.getD [c, d, e] (2 : Nat) (Sx.Ty.dflt (Sx.Ty.int Go.IntKind.u8)) > (191 : Int))) (Q (Sx.SV.tup [Sx.SV.lit (Go.Value.bool
      Bool.false), Sx.SV.lit (Go.Value.bool Bool.false)], [Sx.SO.row (5 : Nat) (Sx.Ty.int Go.IntKind.u8) [c, d, e]], [])) (Q (Sx.SV.tup [Sx.SV.lit (Go.Value.bool Bool.true),
      Sx.SV.lit (Go.Value.bool Bool.true)], [Sx.SO.row (5 : Nat) (Sx.Ty.int Go.IntKind.u8) [c, d, e]], [])))))))) (((0 : Int) ≤ (1 : Int) ∧ (1 : Int) < (↑(3 : Nat) : Int)) ∧ (1
      : Nat) < (3 : Nat) ∧ Sx.br (Decidable.decide (List.getD [c, d, e] (1 : Nat) (Sx.Ty.dflt (Sx.Ty.int Go.IntKind.u8)) < (128 : Int))) (Q (Sx.SV.tup [Sx.SV.lit (Go.Value.bool
      Bool.false), Sx.SV.lit (Go.Value.bool Bool.false)], [Sx.SO.row (5 : Nat) (Sx.Ty.int Go.IntKind.u8) [c, d, e]], [])) (((0 : Int) ≤ (1 : Int) ∧ (1 : Int) < (↑(3 : Nat) :
      Int)) ∧ (1 : Nat) < (3 : Nat) ∧ Sx.br (Decidable.decide (List.getD [c, d, e] (1 : Nat) (Sx.Ty.dflt (Sx.Ty.int Go.IntKind.u8)) > (191 : Int))) (Q (Sx.SV.tup [Sx.SV.lit
      (Go.Value.bool Bool.false), Sx.SV.lit (Go.Value.bool Bool.false)], [Sx.SO.row (5 : Nat) (Sx.Ty.int Go.IntKind.u8) [c, d, e]], [])) (((0 : Int) ≤ (1 : Int) ∧ (1 : Int) <
      (↑(3 : Nat) : Int)) ∧ (1 : Nat) < (3 : Nat) ∧ Sx.br (Decidable.decide (List.getD [c, d, e] (1 : Nat) (Sx.Ty.dflt (Sx.Ty.int Go.IntKind.u8)) < (128 : Int))) (Q (Sx.SV.tup
      [Sx.SV.lit (Go.Value.bool Bool.false), Sx.SV.lit (Go.Value.bool Bool.false)], [Sx.SO.row (5 : Nat) (Sx.Ty.int Go.IntKind.u8) [c, d, e]], [])) (((0 : Int) ≤ (1 : Int) ∧ (1
      : Int) < (↑(3 : Nat) : Int)) ∧ (1 : Nat) < (3 : Nat) ∧ Sx.br (Decidable.decide (List.getD [c, d, e] (1 : Nat) (Sx.Ty.dflt (Sx.Ty.int Go.IntKind.u8)) > (191 : Int))) (Q
      (Sx.SV.tup [Sx.SV.lit (Go.Value.bool Bool.false), Sx.SV.lit (Go.Value.bool Bool.false)], [Sx.SO.row (5 : Nat) (Sx.Ty.int Go.IntKind.u8) [c, d, e]], [])) (((0 : Int) ≤
      Go.IntKind.wrap Go.IntKind.i64 ((1 : Int) + (1 : Int)) ∧ Go.IntKind.wrap Go.IntKind.i64 ((1 : Int) + (1 : Int)) < (↑(3 : Nat) : Int)) ∧ (2 : Nat) < (3 : Nat) ∧ Sx.br
      (Decidable.decide (List.getD [c, d, e] (2 : Nat) (Sx.Ty.dflt (Sx.Ty.int Go.IntKind.u8)) < (128 : Int))) (Q (Sx.SV.tup [Sx.SV.lit (Go.Value.bool Bool.false), Sx.SV.lit
      (Go.Value.bool Bool.false)], [Sx.SO.row (5 : Nat) (Sx.Ty.int Go.IntKind.u8) [c, d, e]], [])) (((0 : Int) ≤ Go.IntKind.wrap Go.IntKind.i64 ((1 : Int) + (1 : Int)) ∧
      Go.IntKind.wrap Go.IntKind.i64 ((1 : Int) + (1 : Int)) < (↑(3 : Nat) : Int)) ∧ (2 : Nat) < (3 : Nat) ∧ Sx.br (Decidable.decide (List.getD [c, d, e] (2 : Nat) (Sx.Ty.dflt
      (Sx.Ty.int Go.IntKind.u8)) > (191 : Int))) (Q (Sx.SV.tup [Sx.SV.lit (Go.Value.bool Bool.false), Sx.SV.lit (Go.Value.bool Bool.false)], [Sx.SO.row (5 : Nat) (Sx.Ty.int
      Go.IntKind.u8) [c, d, e]], [])) (Q (Sx.SV.tup [Sx.SV.lit (Go.Value.bool Bool.true), Sx.SV.lit (Go.Value.bool Bool.true)], [Sx.SO.row (5 : Nat) (Sx.Ty.int Go.IntKind.u8)
      [c, d, e]], [])))))))))) (Sx.br (Decidable.decide (List.getD [c, d, e] (0 : Nat) (Sx.Ty.dflt (Sx.Ty.int Go.IntKind.u8)) ≥ (240 : Int))) (Sx.br (Decidable.decide (List.getD
      [c, d, e] (0 : Nat) (Sx.Ty.dflt (Sx.Ty.int Go.IntKind.u8)) ≤ (244 : Int))) (Sx.br (List.getD [c, d, e] (0 : Nat) (Sx.Ty.dflt (Sx.Ty.int Go.IntKind.u8)) == (240 : Int))
      (Sx.br (List.getD [c, d, e] (0 : Nat) (Sx.Ty.dflt (Sx.Ty.int Go.IntKind.u8)) == (244 : Int)) (((0 : Int) ≤ (1 : Int) ∧ (1 : Int) < (↑(3 : Nat) : Int)) ∧ (1 : Nat) < (3 :
      Nat) ∧ Sx.br (Decidable.decide (List.getD [c, d, e] (1 : Nat) (Sx.Ty.dflt (Sx.Ty.int Go.IntKind.u8)) < (144 : Int))) (Q (Sx.SV.tup [Sx.SV.lit (Go.Value.bool Bool.false),
      Sx.SV.lit (Go.Value.bool Bool.false)], [Sx.SO.row (5 : Nat) (Sx.Ty.int Go.IntKind.u8) [c, d, e]], [])) (((0 : Int) ≤ (1 : Int) ∧ (1 : Int) < (↑(3 : Nat) : Int)) ∧ (1 :
      Nat) < (3 : Nat) ∧ Sx.br (Decidable.decide (List.getD [c, d, e] (1 : Nat) (Sx.Ty.dflt (Sx.Ty.int Go.IntKind.u8)) > (143 : Int))) (Q (Sx.SV.tup [Sx.SV.lit (Go.Value.bool
      Bool.false), Sx.SV.lit (Go.Value.bool Bool.false)], [Sx.SO.row (5 : Nat) (Sx.Ty.int Go.IntKind.u8) [c, d, e]], [])) (((0 : Int) ≤ (1 : Int) ∧ (1 : Int) < (↑(3 : Nat) :
      Int)) ∧ (1 : Nat) < (3 : Nat) ∧ Sx.br (Decidable.decide (List.getD [c, d, e] (1 : Nat) (Sx.Ty.dflt (Sx.Ty.int Go.IntKind.u8)) < (128 : Int))) (Q (Sx.SV.tup [Sx.SV.lit
      (Go.Value.bool Bool.false), Sx.SV.lit (Go.Value.bool Bool.false)], [Sx.SO.row (5 : Nat) (Sx.Ty.int Go.IntKind.u8) [c, d, e]], [])) (((0 : Int) ≤ (1 : Int) ∧ (1 : Int) <
      (↑(3 : Nat) : Int)) ∧ (1 : Nat) < (3 : Nat) ∧ Sx.br (Decidable.decide (List.getD [c, d, e] (1 : Nat) (Sx.Ty.dflt (Sx.Ty.int Go.IntKind.u8)) > (191 : Int))) (Q (Sx.SV.tup
      [Sx.SV.lit (Go.Value.bool Bool.false), Sx.SV.lit (Go.Value.bool Bool.false)], [Sx.SO.row (5 : Nat) (Sx.Ty.int Go.IntKind.u8) [c, d, e]], [])) (((0 : Int) ≤ Go.IntKind.wrap
      Go.IntKind.i64 ((1 : Int) + (1 : Int)) ∧ Go.IntKind.wrap Go.IntKind.i64 ((1 : Int) + (1 : Int)) < (↑(3 : Nat) : Int)) ∧ (2 : Nat) < (3 : Nat) ∧ Sx.br (Decidable.decide
      (List.getD [c, d, e] (2 : Nat) (Sx.Ty.dflt (Sx.Ty.int Go.IntKind.u8)) < (128 : Int))) (Q (Sx.SV.tup [Sx.SV.lit (Go.Value.bool Bool.false), Sx.SV.lit (Go.Value.bool
      Bool.false)], [Sx.SO.row (5 : Nat) (Sx.Ty.int Go.IntKind.u8) [c, d, e]], [])) (((0 : Int) ≤ Go.IntKind.wrap Go.IntKind.i64 ((1 : Int) + (1 : Int)) ∧ Go.IntKind.wrap
      Go.IntKind.i64 ((1 : Int) + (1 : Int)) < (↑(3 : Nat) : Int)) ∧ (2 : Nat) < (3 : Nat) ∧ Sx.br (Decidable.decide (List.getD [c, d, e] (2 : Nat) (Sx.Ty.dflt (Sx.Ty.int
      Go.IntKind.u8)) > (191 : Int))) (Q (Sx.SV.tup [Sx.SV.lit (Go.Value.bool Bool.false), Sx.SV.lit (Go.Value.bool Bool.false)], [Sx.SO.row (5 : Nat) (Sx.Ty.int Go.IntKind.u8)
      [c, d, e]], [])) (Q (Sx.SV.tup [Sx.SV.lit (Go.Value.bool Bool.true), Sx.SV.lit (Go.Value.bool Bool.false)], [Sx.SO.row (5 : Nat) (Sx.Ty.int Go.IntKind.u8) [c, d, e]],
      [])))))))) (((0 : Int) ≤ (1 : Int) ∧ (1 : Int) < (↑(3 : Nat) : Int)) ∧ (1 : Nat) < (3 : Nat) ∧ Sx.br (Decidable.decide (List.getD [c, d, e] (1 : Nat) (Sx.Ty.dflt
      (Sx.Ty.int Go.IntKind.u8)) < (144 : Int))) (Q (Sx.SV.tup [Sx.SV.lit (Go.Value.bool Bool.false), Sx.SV.lit (Go.Value.bool Bool.false)], [Sx.SO.row (5 : Nat) (Sx.Ty.int
      Go.IntKind.u8) [c, d, e]], [])) (((0 : Int) ≤ (1 : Int) ∧ (1 : Int) < (↑(3 : Nat) : Int)) ∧ (1 : Nat) < (3 : Nat) ∧ Sx.br (Decidable.decide (List.getD [c, d, e] (1 : Nat)
      (Sx.Ty.dflt (Sx.Ty.int Go.IntKind.u8)) > (191 : Int))) (Q (Sx.SV.tup [Sx.SV.lit (Go.Value.bool Bool.false), Sx.SV.lit (Go.Value.bool Bool.false)], [Sx.SO.row (5 : Nat)
      (Sx.Ty.int Go.IntKind.u8) [c, d, e]], [])) (((0 : Int) ≤ (1 : Int) ∧ (1 : Int) < (↑(3 : Nat) : Int)) ∧ (1 : Nat) < (3 : Nat) ∧ Sx.br (Decidable.decide (List.getD [c, d, e]
      (1 : Nat) (Sx.Ty.dflt (Sx.Ty.int Go.IntKind.u8)) < (128 : Int))) (Q (Sx.SV.tup [Sx.SV.lit (Go.Value.bool Bool.false), Sx.SV.lit (Go.Value.bool Bool.false)], [Sx.SO.row (5
      : Nat) (Sx.Ty.int Go.IntKind.u8) [c, d, e]], [])) (((0 : Int) ≤ (1 : Int) ∧ (1 : Int) < (↑(3 : Nat) : Int)) ∧ (1 : Nat) < (3 : Nat) ∧ Sx.br (Decidable.decide (List.getD
      [c, d, e] (1 : Nat) (Sx.Ty.dflt (Sx.Ty.int Go.IntKind.u8)) > (191 : Int))) (Q (Sx.SV.tup [Sx.SV.lit (Go.Value.bool Bool.false), Sx.SV.lit (Go.Value.bool Bool.false)],
      [Sx.SO.row (5 : Nat) (Sx.Ty.int Go.IntKind.u8) [c, d, e]], [])) (((0 : Int) ≤ Go.IntKind.wrap Go.IntKind.i64 ((1 : Int) + (1 : Int)) ∧ Go.IntKind.wrap Go.IntKind.i64 ((1 :
      Int) + (1 : Int)) < (↑(3 : Nat) : Int)) ∧ (2 : Nat) < (3 : Nat) ∧ Sx.br (Decidable.decide (List.getD [c, d, e] (2 : Nat) (Sx.Ty.dflt (Sx.Ty.int Go.IntKind.u8)) < (128 :
      Int))) (Q (Sx.SV.tup [Sx.SV.lit (Go.Value.bool Bool.false), Sx.SV.lit (Go.Value.bool Bool.false)], [Sx.SO.row (5 : Nat) (Sx.Ty.int Go.IntKind.u8) [c, d, e]], [])) (((0 :
      Int) ≤ Go.IntKind.wrap Go.IntKind.i64 ((1 : Int) + (1 : Int)) ∧ Go.IntKind.wrap Go.IntKind.i64 ((1 : Int) + (1 : Int)) < (↑(3 : Nat) : Int)) ∧ (2 : Nat) < (3 : Nat) ∧
      Sx.br (Decidable.decide (List.getD [c, d, e] (2 : Nat) (Sx.Ty.dflt (Sx.Ty.int Go.IntKind.u8)) > (191 : Int))) (Q (Sx.SV.tup [Sx.SV.lit (Go.Value.bool Bool.false),
      Sx.SV.lit (Go.Value.bool Bool.false)], [Sx.SO.row (5 : Nat) (Sx.Ty.int Go.IntKind.u8) [c, d, e]], [])) (Q (Sx.SV.tup [Sx.SV.lit (Go.Value.bool Bool.true), Sx.SV.lit
      (Go.Value.bool Bool.false)], [Sx.SO.row (5 : Nat) (Sx.Ty.int Go.IntKind.u8) [c, d, e]], []))))))))) (Sx.br (List.getD [c, d, e] (0 : Nat) (Sx.Ty.dflt (Sx.Ty.int
      Go.IntKind.u8)) == (244 : Int)) (((0 : Int) ≤ (1 : Int) ∧ (1 : Int) < (↑(3 : Nat) : Int)) ∧ (1 : Nat) < (3 : Nat) ∧ Sx.br (Decidable.decide (List.getD [c, d, e] (1 : Nat)
      (Sx.Ty.dflt (Sx.Ty.int Go.IntKind.u8)) < (128 : Int))) (Q (Sx.SV.tup [Sx.SV.lit (Go.Value.bool Bool.false), Sx.SV.lit (Go.Value.bool Bool.false)], [Sx.SO.row (5 : Nat)
      (Sx.Ty.int Go.IntKind.u8) [c, d, e]], [])) (((0 : Int) ≤ (1 : Int) ∧ (1 : Int) < (↑(3 : Nat) : Int)) ∧ (1 : Nat) < (3 : Nat) ∧ Sx.br (Decidable.decide (List.getD [c, d, e]
      (1 : Nat) (Sx.Ty.dflt (Sx.Ty.int Go.IntKind.u8)) > (143 : Int))) (Q (Sx.SV.tup [Sx.SV.lit (Go.Value.bool Bool.false), Sx.SV.lit (Go.Value.bool Bool.false)], [Sx.SO.row (5
      : Nat) (Sx.Ty.int Go.IntKind.u8) [c, d, e]], [])) (((0 : Int) ≤ (1 : Int) ∧ (1 : Int) < (↑(3 : Nat) : Int)) ∧ (1 : Nat) < (3 : Nat) ∧ Sx.br (Decidable.decide (List.getD
      [c, d, e] (1 : Nat) (Sx.Ty.dflt (Sx.Ty.int Go.IntKind.u8)) < (128 : Int))) (Q (Sx.SV.tup [Sx.SV.lit (Go.Value.bool Bool.false), Sx.SV.lit (Go.Value.bool Bool.false)],
      [Sx.SO.row (5 : Nat) (Sx.Ty.int Go.IntKind.u8) [c, d, e]], [])) (((0 : Int) ≤ (1 : Int) ∧ (1 : Int) < (↑(3 : Nat) : Int)) ∧ (1 : Nat) < (3 : Nat) ∧ Sx.br (Decidable.decide
      (List.getD [c, d, e] (1 : Nat) (Sx.Ty.dflt (Sx.Ty.int Go.IntKind.u8)) > (191 : Int))) (Q (Sx.SV.tup [Sx.SV.lit (Go.Value.bool Bool.false), Sx.SV.lit (Go.Value.bool
      Bool.false)], [Sx.SO.row (5 : Nat) (Sx.Ty.int Go.IntKind.u8) [c, d, e]], [])) (((0 : Int) ≤ Go.IntKind.wrap Go.IntKind.i64 ((1 : Int) + (1 : Int)) ∧ Go.IntKind.wrap
      Go.IntKind.i64 ((1 : Int) + (1 : Int)) < (↑(3 : Nat) : Int)) ∧ (2 : Nat) < (3 : Nat) ∧ Sx.br (Decidable.decide (List.getD [c, d, e] (2 : Nat) (Sx.Ty.dflt (Sx.Ty.int
      Go.IntKind.u8)) < (128 : Int))) (Q (Sx.SV.tup [Sx.SV.lit (Go.Value.bool Bool.false), Sx.SV.lit (Go.Value.bool Bool.false)], [Sx.SO.row (5 : Nat) (Sx.Ty.int Go.IntKind.u8)
      [c, d, e]], [])) (((0 : Int) ≤ Go.IntKind.wrap Go.IntKind.i64 ((1 : Int) + (1 : Int)) ∧ Go.IntKind.wrap Go.IntKind.i64 ((1 : Int) + (1 : Int)) < (↑(3 : Nat) : Int)) ∧ (2 :
      Nat) < (3 : Nat) ∧ Sx.br (Decidable.decide (List.getD [c, d, e] (2 : Nat) (Sx.Ty.dflt (Sx.Ty.int Go.IntKind.u8)) > (191 : Int))) (Q (Sx.SV.tup [Sx.SV.lit (Go.Value.bool
      Bool.false), Sx.SV.lit (Go.Value.bool Bool.false)], [Sx.SO.row (5 : Nat) (Sx.Ty.int Go.IntKind.u8) [c, d, e]], [])) (Q (Sx.SV.tup [Sx.SV.lit (Go.Value.bool Bool.true),
      Sx.SV.lit (Go.Value.bool Bool.false)], [Sx.SO.row (5 : Nat) (Sx.Ty.int Go.IntKind.u8) [c, d, e]], [])))))))) (((0 : Int) ≤ (1 : Int) ∧ (1 : Int) < (↑(3 : Nat) : Int)) ∧ (1
      : Nat) < (3 : Nat) ∧ Sx.br (Decidable.decide (List.getD [c, d, e] (1 : Nat) (Sx.Ty.dflt (Sx.Ty.int Go.IntKind.u8)) < (128 : Int))) (Q (Sx.SV.tup [Sx.SV.lit (Go.Value.bool
      Bool.false), Sx.SV.lit (Go.Value.bool Bool.false)], [Sx.SO.row (5 : Nat) (Sx.Ty.int Go.IntKind.u8) [c, d, e]], [])) (((0 : Int) ≤ (1 : Int) ∧ (1 : Int) < (↑(3 : Nat) :
      Int)) ∧ (1 : Nat) < (3 : Nat) ∧ Sx.br (Decidable.decide (List.getD [c, d, e] (1 : Nat) (Sx.Ty.dflt (Sx.Ty.int Go.IntKind.u8)) > (191 : Int))) (Q (Sx.SV.tup [Sx.SV.lit
      (Go.Value.bool Bool.false), Sx.SV.lit (Go.Value.bool Bool.false)], [Sx.SO.row (5 : Nat) (Sx.Ty.int Go.IntKind.u8) [c, d, e]], [])) (((0 : Int) ≤ (1 : Int) ∧ (1 : Int) <
      (↑(3 : Nat) : Int)) ∧ (1 : Nat) < (3 : Nat) ∧ Sx.br (Decidable.decide (List.getD [c, d, e] (1 : Nat) (Sx.Ty.dflt (Sx.Ty.int Go.IntKind.u8)) < (128 : Int))) (Q (Sx.SV.tup
      [Sx.SV.lit (Go.Value.bool Bool.false), Sx.SV.lit (Go.Value.bool Bool.false)], [Sx.SO.row (5 : Nat) (Sx.Ty.int Go.IntKind.u8) [c, d, e]], [])) (((0 : Int) ≤ (1 : Int) ∧ (1
      : Int) < (↑(3 : Nat) : Int)) ∧ (1 : Nat) < (3 : Nat) ∧ Sx.br (Decidable.decide (List.getD [c, d, e] (1 : Nat) (Sx.Ty.dflt (Sx.Ty.int Go.IntKind.u8)) > (191 : Int))) (Q
      (Sx.SV.tup [Sx.SV.lit (Go.Value.bool Bool.false), Sx.SV.lit (Go.Value.bool Bool.false)], [Sx.SO.row (5 : Nat) (Sx.Ty.int Go.IntKind.u8) [c, d, e]], [])) (((0 : Int) ≤
      Go.IntKind.wrap Go.IntKind.i64 ((1 : Int) + (1 : Int)) ∧ Go.IntKind.wrap Go.IntKind.i64 ((1 : Int) + (1 : Int)) < (↑(3 : Nat) : Int)) ∧ (2 : Nat) < (3 : Nat) ∧ Sx.br
      (Decidable.decide (List.getD [c, d, e] (2 : Nat) (Sx.Ty.dflt (Sx.Ty.int Go.IntKind.u8)) < (128 : Int))) (Q (Sx.SV.tup [Sx.SV.lit (Go.Value.bool Bool.false), Sx.SV.lit
      (Go.Value.bool Bool.false)], [Sx.SO.row (5 : Nat) (Sx.Ty.int Go.IntKind.u8) [c, d, e]], [])) (((0 : Int) ≤ Go.IntKind.wrap Go.IntKind.i64 ((1 : Int) + (1 : Int)) ∧
      Go.IntKind.wrap Go.IntKind.i64 ((1 : Int) + (1 : Int)) < (↑(3 : Nat) : Int)) ∧ (2 : Nat) < (3 : Nat) ∧ Sx.br (Decidable.decide (List.getD [c, d, e] (2 : Nat) (Sx.Ty.dflt
      (Sx.Ty.int Go.IntKind.u8)) > (191 : Int))) (Q (Sx.SV.tup [Sx.SV.lit (Go.Value.bool Bool.false), Sx.SV.lit (Go.Value.bool Bool.false)], [Sx.SO.row (5 : Nat) (Sx.Ty.int
      Go.IntKind.u8) [c, d, e]], [])) (Q (Sx.SV.tup [Sx.SV.lit (Go.Value.bool Bool.true), Sx.SV.lit (Go.Value.bool Bool.false)], [Sx.SO.row (5 : Nat) (Sx.Ty.int Go.IntKind.u8)
      [c, d, e]], [])))))))))) (Q (Sx.SV.tup [Sx.SV.lit (Go.Value.bool Bool.false), Sx.SV.lit (Go.Value.bool Bool.false)], [Sx.SO.row (5 : Nat) (Sx.Ty.int Go.IntKind.u8) [c, d,
      e]], []))) (Q (Sx.SV.tup [Sx.SV.lit (Go.Value.bool Bool.false), Sx.SV.lit (Go.Value.bool Bool.false)], [Sx.SO.row (5 : Nat) (Sx.Ty.int Go.IntKind.u8) [c, d, e]], []))))
      (Sx.br (Decidable.decide (List.getD [c, d, e] (0 : Nat) (Sx.Ty.dflt (Sx.Ty.int Go.IntKind.u8)) ≥ (240 : Int))) (Sx.br (Decidable.decide (List.getD [c, d, e] (0 : Nat)
      (Sx.Ty.dflt (Sx.Ty.int Go.IntKind.u8)) ≤ (244 : Int))) (Sx.br (List.getD [c, d, e] (0 : Nat) (Sx.Ty.dflt (Sx.Ty.int Go.IntKind.u8)) == (240 : Int)) (Sx.br (List.getD [c,
      d, e] (0 : Nat) (Sx.Ty.dflt (Sx.Ty.int Go.IntKind.u8)) == (244 : Int)) (((0 : Int) ≤ (1 : Int) ∧ (1 : Int) < (↑(3 : Nat) : Int)) ∧ (1 : Nat) < (3 : Nat) ∧ Sx.br
      (Decidable.decide (List.getD [c, d, e] (1 : Nat) (Sx.Ty.dflt (Sx.Ty.int Go.IntKind.u8)) < (144 : Int))) (Q (Sx.SV.tup [Sx.SV.lit (Go.Value.bool Bool.false), Sx.SV.lit
      (Go.Value.bool Bool.false)], [Sx.SO.row (5 : Nat) (Sx.Ty.int Go.IntKind.u8) [c, d, e]], [])) (((0 : Int) ≤ (1 : Int) ∧ (1 : Int) < (↑(3 : Nat) : Int)) ∧ (1 : Nat) < (3 :
      Nat) ∧ Sx.br (Decidable.decide (List.getD [c, d, e] (1 : Nat) (Sx.Ty.dflt (Sx.Ty.int Go.IntKind.u8)) > (143 : Int))) (Q (Sx.SV.tup [Sx.SV.lit (Go.Value.bool Bool.false),
      Sx.SV.lit (Go.Value.bool Bool.false)], [Sx.SO.row (5 : Nat) (Sx.Ty.int Go.IntKind.u8) [c, d, e]], [])) (((0 : Int) ≤ (1 : Int) ∧ (1 : Int) < (↑(3 : Nat) : Int)) ∧ (1 :
      Nat) < (3 : Nat) ∧ Sx.br (Decidable.decide (List.getD [c, d, e] (1 : Nat) (Sx.Ty.dflt (Sx.Ty.int Go.IntKind.u8)) < (128 : Int))) (Q (Sx.SV.tup [Sx.SV.lit (Go.Value.bool
      Bool.false), Sx.SV.lit (Go.Value.bool Bool.false)], [Sx.SO.row (5 : Nat) (Sx.Ty.int Go.IntKind.u8) [c, d, e]], [])) (((0 : Int) ≤ (1 : Int) ∧ (1 : Int) < (↑(3 : Nat) :
      Int)) ∧ (1 : Nat) < (3 : Nat) ∧ Sx.br (Decidable.decide (List.getD [c, d, e] (1 : Nat) (Sx.Ty.dflt (Sx.Ty.int Go.IntKind.u8)) > (191 : Int))) (Q (Sx.SV.tup [Sx.SV.lit
      (Go.Value.bool Bool.false), Sx.SV.lit (Go.Value.bool Bool.false)], [Sx.SO.row (5 : Nat) (Sx.Ty.int Go.IntKind.u8) [c, d, e]], [])) (((0 : Int) ≤ Go.IntKind.wrap
      Go.IntKind.i64 ((1 : Int) + (1 : Int)) ∧ Go.IntKind.wrap Go.IntKind.i64 ((1 : Int) + (1 : Int)) < (↑(3 : Nat) : Int)) ∧ (2 : Nat) < (3 : Nat) ∧ Sx.br (Decidable.decide
      (List.getD [c, d, e] (2 : Nat) (Sx.Ty.dflt (Sx.Ty.int Go.IntKind.u8)) < (128 : Int))) (Q (Sx.SV.tup [Sx.SV.lit (Go.Value.bool Bool.false), Sx.SV.lit (Go.Value.bool
      Bool.false)], [Sx.SO.row (5 : Nat) (Sx.Ty.int Go.IntKind.u8) [c, d, e]], [])) (((0 : Int) ≤ Go.IntKind.wrap Go.IntKind.i64 ((1 : Int) + (1 : Int)) ∧ Go.IntKind.wrap
      Go.IntKind.i64 ((1 : Int) + (1 : Int)) < (↑(3 : Nat) : Int)) ∧ (2 : Nat) < (3 : Nat) ∧ Sx.br (Decidable.decide (List.getD [c, d, e] (2 : Nat) (Sx.Ty.dflt (Sx.Ty.int
      Go.IntKind.u8)) > (191 : Int))) (Q (Sx.SV.tup [Sx.SV.lit (Go.Value.bool Bool.false), Sx.SV.lit (Go.Value.bool Bool.false)], [Sx.SO.row (5 : Nat) (Sx.Ty.int Go.IntKind.u8)
      [c, d, e]], [])) (Q (Sx.SV.tup [Sx.SV.lit (Go.Value.bool Bool.true), Sx.SV.lit (Go.Value.bool Bool.false)], [Sx.SO.row (5 : Nat) (Sx.Ty.int Go.IntKind.u8) [c, d, e]],
      [])))))))) (((0 : Int) ≤ (1 : Int) ∧ (1 : Int) < (↑(3 : Nat) : Int)) ∧ (1 : Nat) < (3 : Nat) ∧ Sx.br (Decidable.decide (List.getD [c, d, e] (1 : Nat) (Sx.Ty.dflt
      (Sx.Ty.int Go.IntKind.u8)) < (144 : Int))) (Q (Sx.SV.tup [Sx.SV.lit (Go.Value.bool Bool.false), Sx.SV.lit (Go.Value.bool Bool.false)], [Sx.SO.row (5 : Nat) (Sx.Ty.int
      Go.IntKind.u8) [c, d, e]], [])) (((0 : Int) ≤ (1 : Int) ∧ (1 : Int) < (↑(3 : Nat) : Int)) ∧ (1 : Nat) < (3 : Nat) ∧ Sx.br (Decidable.decide (List.getD [c, d, e] (1 : Nat)
      (Sx.Ty.dflt (Sx.Ty.int Go.IntKind.u8)) > (191 : Int))) (Q (Sx.SV.tup [Sx.SV.lit (Go.Value.bool Bool.false), Sx.SV.lit (Go.Value.bool Bool.false)], [Sx.SO.row (5 : Nat)
      (Sx.Ty.int Go.IntKind.u8) [c, d, e]], [])) (((0 : Int) ≤ (1 : Int) ∧ (1 : Int) < (↑(3 : Nat) : Int)) ∧ (1 : Nat) < (3 : Nat) ∧ Sx.br (Decidable.decide (List.getD [c, d, e]
      (1 : Nat) (Sx.Ty.dflt (Sx.Ty.int Go.IntKind.u8)) < (128 : Int))) (Q (Sx.SV.tup [Sx.SV.lit (Go.Value.bool Bool.false), Sx.SV.lit (Go.Value.bool Bool.false)], [Sx.SO.row (5
      : Nat) (Sx.Ty.int Go.IntKind.u8) [c, d, e]], [])) (((0 : Int) ≤ (1 : Int) ∧ (1 : Int) < (↑(3 : Nat) : Int)) ∧ (1 : Nat) < (3 : Nat) ∧ Sx.br (Decidable.decide (List.getD
      [c, d, e] (1 : Nat) (Sx.Ty.dflt (Sx.Ty.int Go.IntKind.u8)) > (191 : Int))) (Q (Sx.SV.tup [Sx.SV.lit (Go.Value.bool Bool.false), Sx.SV.lit (Go.Value.bool Bool.false)],
      [Sx.SO.row (5 : Nat) (Sx.Ty.int Go.IntKind.u8) [c, d, e]], [])) (((0 : Int) ≤ Go.IntKind.wrap Go.IntKind.i64 ((1 : Int) + (1 : Int)) ∧ Go.IntKind.wrap Go.IntKind.i64 ((1 :
      Int) + (1 : Int)) < (↑(3 : Nat) : Int)) ∧ (2 : Nat) < (3 : Nat) ∧ Sx.br (Decidable.decide (List.getD [c, d, e] (2 : Nat) (Sx.Ty.dflt (Sx.Ty.int Go.IntKind.u8)) < (128 :
      Int))) (Q (Sx.SV.tup [Sx.SV.lit (Go.Value.bool Bool.false), Sx.SV.lit (Go.Value.bool Bool.false)], [Sx.SO.row (5 : Nat) (Sx.Ty.int Go.IntKind.u8) [c, d, e]], [])) (((0 :
      Int) ≤ Go.IntKind.wrap Go.IntKind.i64 ((1 : Int) + (1 : Int)) ∧ Go.IntKind.wrap Go.IntKind.i64 ((1 : Int) + (1 : Int)) < (↑(3 : Nat) : Int)) ∧ (2 : Nat) < (3 : Nat) ∧
      Sx.br (Decidable.decide (List.getD [c, d, e] (2 : Nat) (Sx.Ty.dflt (Sx.Ty.int Go.IntKind.u8)) > (191 : Int))) (Q (Sx.SV.tup [Sx.SV.lit (Go.Value.bool Bool.false),
      Sx.SV.lit (Go.Value.bool Bool.false)], [Sx.SO.row (5 : Nat) (Sx.Ty.int Go.IntKind.u8) [c, d, e]], [])) (Q (Sx.SV.tup [Sx.SV.lit (Go.Value.bool Bool.true), Sx.SV.lit
      (Go.Value.bool Bool.false)], [Sx.SO.row (5 : Nat) (Sx.Ty.int Go.IntKind.u8) [c, d, e]], []))))))))) (Sx.br (List.getD [c, d, e] (0 : Nat) (Sx.Ty.dflt (Sx.Ty.int
      Go.IntKind.u8)) == (244 : Int)) (((0 : Int) ≤ (1 : Int) ∧ (1 : Int) < (↑(3 : Nat) : Int)) ∧ (1 : Nat) < (3 : Nat) ∧ Sx.br (Decidable.decide (List.getD [c, d, e] (1 : Nat)
      (Sx.Ty.dflt (Sx.Ty.int Go.IntKind.u8)) < (128 : Int))) (Q (Sx.SV.tup [Sx.SV.lit (Go.Value.bool Bool.false), Sx.SV.lit (Go.Value.bool Bool.false)], [Sx.SO.row (5 : Nat)
      (Sx.Ty.int Go.IntKind.u8) [c, d, e]], [])) (((0 : Int) ≤ (1 : Int) ∧ (1 : Int) < (↑(3 : Nat) : Int)) ∧ (1 : Nat) < (3 : Nat) ∧ Sx.br (Decidable.decide (List.getD [c, d, e]
      (1 : Nat) (Sx.Ty.dflt (Sx.Ty.int Go.IntKind.u8)) > (143 : Int))) (Q (Sx.SV.tup [Sx.SV.lit (Go.Value.bool Bool.false), Sx.SV.lit (Go.Value.bool Bool.false)], [Sx.SO.row (5
      : Nat) (Sx.Ty.int Go.IntKind.u8) [c, d, e]], [])) (((0 : Int) ≤ (1 : Int) ∧ (1 : Int) < (↑(3 : Nat) : Int)) ∧ (1 : Nat) < (3 : Nat) ∧ Sx.br (Decidable.decide (List.getD
      [c, d, e] (1 : Nat) (Sx.Ty.dflt (Sx.Ty.int Go.IntKind.u8)) < (128 : Int))) (Q (Sx.SV.tup [Sx.SV.lit (Go.Value.bool Bool.false), Sx.SV.lit (Go.Value.bool Bool.false)],
      [Sx.SO.row (5 : Nat) (Sx.Ty.int Go.IntKind.u8) [c, d, e]], [])) (((0 : Int) ≤ (1 : Int) ∧ (1 : Int) < (↑(3 : Nat) : Int)) ∧ (1 : Nat) < (3 : Nat) ∧ Sx.br (Decidable.decide
      (List.getD [c, d, e] (1 : Nat) (Sx.Ty.dflt (Sx.Ty.int Go.IntKind.u8)) > (191 : Int))) (Q (Sx.SV.tup [Sx.SV.lit (Go.Value.bool Bool.false), Sx.SV.lit (Go.Value.bool
      Bool.false)], [Sx.SO.row (5 : Nat) (Sx.Ty.int Go.IntKind.u8) [c, d, e]], [])) (((0 : Int) ≤ Go.IntKind.wrap Go.IntKind.i64 ((1 : Int) + (1 : Int)) ∧ Go.IntKind.wrap
      Go.IntKind.i64 ((1 : Int) + (1 : Int)) < (↑(3 : Nat) : Int)) ∧ (2 : Nat) < (3 : Nat) ∧ Sx.br (Decidable.decide (List.getD [c, d, e] (2 : Nat) (Sx.Ty.dflt (Sx.Ty.int
      Go.IntKind.u8)) < (128 : Int))) (Q (Sx.SV.tup [Sx.SV.lit (Go.Value.bool Bool.false), Sx.SV.lit (Go.Value.bool Bool.false)], [Sx.SO.row (5 : Nat) (Sx.Ty.int Go.IntKind.u8)
      [c, d, e]], [])) (((0 : Int) ≤ Go.IntKind.wrap Go.IntKind.i64 ((1 : Int) + (1 : Int)) ∧ Go.IntKind.wrap Go.IntKind.i64 ((1 : Int) + (1 : Int)) < (↑(3 : Nat) : Int)) ∧ (2 :
      Nat) < (3 : Nat) ∧ Sx.br (Decidable.decide (List.getD [c, d, e] (2 : Nat) (Sx.Ty.dflt (Sx.Ty.int Go.IntKind.u8)) > (191 : Int))) (Q (Sx.SV.tup [Sx.SV.lit (Go.Value.bool
      Bool.false), Sx.SV.lit (Go.Value.bool Bool.false)], [Sx.SO.row (5 : Nat) (Sx.Ty.int Go.IntKind.u8) [c, d, e]], [])) (Q (Sx.SV.tup [Sx.SV.lit (Go.Value.bool Bool.true),
      Sx.SV.lit (Go.Value.bool Bool.false)], [Sx.SO.row (5 : Nat) (Sx.Ty.int Go.IntKind.u8) [c, d, e]], [])))))))) (((0 : Int) ≤ (1 : Int) ∧ (1 : Int) < (↑(3 : Nat) : Int)) ∧ (1
      : Nat) < (3 : Nat) ∧ Sx.br (Decidable.decide (List.getD [c, d, e] (1 : Nat) (Sx.Ty.dflt (Sx.Ty.int Go.IntKind.u8)) < (128 : Int))) (Q (Sx.SV.tup [Sx.SV.lit (Go.Value.bool
      Bool.false), Sx.SV.lit (Go.Value.bool Bool.false)], [Sx.SO.row (5 : Nat) (Sx.Ty.int Go.IntKind.u8) [c, d, e]], [])) (((0 : Int) ≤ (1 : Int) ∧ (1 : Int) < (↑(3 : Nat) :
      Int)) ∧ (1 : Nat) < (3 : Nat) ∧ Sx.br (Decidable.decide (List.getD [c, d, e] (1 : Nat) (Sx.Ty.dflt (Sx.Ty.int Go.IntKind.u8)) > (191 : Int))) (Q (Sx.SV.tup [Sx.SV.lit
      (Go.Value.bool Bool.false), Sx.SV.lit (Go.Value.bool Bool.false)], [Sx.SO.row (5 : Nat) (Sx.Ty.int Go.IntKind.u8) [c, d, e]], [])) (((0 : Int) ≤ (1 : Int) ∧ (1 : Int) <
      (↑(3 : Nat) : Int)) ∧ (1 : Nat) < (3 : Nat) ∧ Sx.br (Decidable.decide (List.getD [c, d, e] (1 : Nat) (Sx.Ty.dflt (Sx.Ty.int Go.IntKind.u8)) < (128 : Int))) (Q (Sx.SV.tup
      [Sx.SV.lit (Go.Value.bool Bool.false), Sx.SV.lit (Go.Value.bool Bool.false)], [Sx.SO.row (5 : Nat) (Sx.Ty.int Go.IntKind.u8) [c, d, e]], [])) (((0 : Int) ≤ (1 : Int) ∧ (1
      : Int) < (↑(3 : Nat) : Int)) ∧ (1 : Nat) < (3 : Nat) ∧ Sx.br (Decidable.decide (List.getD [c, d, e] (1 : Nat) (Sx.Ty.dflt (Sx.Ty.int Go.IntKind.u8)) > (191 : Int))) (Q
      (Sx.SV.tup [Sx.SV.lit (Go.Value.bool Bool.false), Sx.SV.lit (Go.Value.bool Bool.false)], [Sx.SO.row (5 : Nat) (Sx.Ty.int Go.IntKind.u8) [c, d, e]], [])) (((0 : Int) ≤
      Go.IntKind.wrap Go.IntKind.i64 ((1 : Int) + (1 : Int)) ∧ Go.IntKind.wrap Go.IntKind.i64 ((1 : Int) + (1 : Int)) < (↑(3 : Nat) : Int)) ∧ (2 : Nat) < (3 : Nat) ∧ Sx.br
      (Decidable.decide (List.getD [c, d, e] (2 : Nat) (Sx.Ty.dflt (Sx.Ty.int Go.IntKind.u8)) < (128 : Int))) (Q (Sx.SV.tup [Sx.SV.lit (Go.Value.bool Bool.false), Sx.SV.lit
      (Go.Value.bool Bool.false)], [Sx.SO.row (5 : Nat) (Sx.Ty.int Go.IntKind.u8) [c, d, e]], [])) (((0 : Int) ≤ Go.IntKind.wrap Go.IntKind.i64 ((1 : Int) + (1 : Int)) ∧
      Go.IntKind.wrap Go.IntKind.i64 ((1 : Int) + (1 : Int)) < (↑(3 : Nat) : Int)) ∧ (2 : Nat) < (3 : Nat) ∧ Sx.br (Decidable.decide (List.getD [c, d, e] (2 : Nat) (Sx.Ty.dflt
      (Sx.Ty.int Go.IntKind.u8)) > (191 : Int))) (Q (Sx.SV.tup [Sx.SV.lit (Go.Value.bool Bool.false), Sx.SV.lit (Go.Value.bool Bool.false)], [Sx.SO.row (5 : Nat) (Sx.Ty.int
      Go.IntKind.u8) [c, d, e]], [])) (Q (Sx.SV.tup [Sx.SV.lit (Go.Value.bool Bool.true), Sx.SV.lit (Go.Value.bool Bool.false)], [Sx.SO.row (5 : Nat) (Sx.Ty.int Go.IntKind.u8)
      [c, d, e]], [])))))))))) (Q (Sx.SV.tup [Sx.SV.lit (Go.Value.bool Bool.false), Sx.SV.lit (Go.Value.bool Bool.false)], [Sx.SO.row (5 : Nat) (Sx.Ty.int Go.IntKind.u8) [c, d,
      e]], []))) (Q (Sx.SV.tup [Sx.SV.lit (Go.Value.bool Bool.false), Sx.SV.lit (Go.Value.bool Bool.false)], [Sx.SO.row (5 : Nat) (Sx.Ty.int Go.IntKind.u8) [c, d, e]], [])))))) (by kernel_rfl) ?_
  simp only [List.getD_cons_zero, List.getD_cons_succ]
  have hlh := low_high c
  have w2 : IntKind.i64.wrap (1 + 1) = 2 := by decide
  rw [w2]
  have ht : tails c [d, e] = decide (128 ≤ e ∧ e ≤ 191) := by simp [tails, hd]
  refine ⟨by omega, by omega, br_intro (fun h => by have := of_decide_eq_true h; omega) (fun _ => ?_)⟩
  repeat' first | (refine br_intro (fun h => ?_) (fun h => ?_)) | (refine And.intro (by omega) ?_)
  all_goals simp only [decide_eq_true_eq, decide_eq_false_iff_not, beq_iff_eq, beq_eq_false_iff_ne] at *
  all_goals first
    | (exfalso; omega)
    | (rw [rmayT (w := 3) (x := true) (by omega) (by rw [ht]; exact decide_eq_true (by omega)) (wid3 (by omega)) rfl] at hq; exact hq)
    | (rw [rmayT (w := 4) (x := false) (by omega) (by rw [ht]; exact decide_eq_true (by omega)) (wid4 (by omega)) rfl] at hq; exact hq)
    | (rw [rmayF (by omega) (by rw [ht]; exact decide_eq_false (by omega))] at hq; exact hq)
theorem v67d (c d e f : Int) (h194 : 240 ≤ c ∧ c ≤ 244) (hd : lowOf c ≤ d ∧ d ≤ highOf c) (he : 128 ≤ e ∧ e ≤ 191) (Q : SV × Heap × List Nat → Prop) (hq : Q (.tup [.lit (.bool (rmay [c, d, e, f]).1), .lit (.bool (rmay [c, d, e, f]).2)], [.row 5 (.int .u8) [c, d, e, f]], [])) :
    (bodySumm Table.none Try.prog Try.f67 noAn [.sl 0 1 0 4] [.row 5 (.int .u8) [c, d, e, f]]).Leads Q := by
  refine Sx.by_text (q :=
      ((0 : Int) ≤ (0 : Int) ∧ (0 : Int) < (↑(4 : Nat) : Int)) ∧ (0 : Nat) < (4 : Nat) ∧ Sx.br (Decidable.decide (List.getD [c, d, e, f] (0 : Nat) (Sx.Ty.dflt (Sx.Ty.int
      Go.IntKind.u8)) < (128 : Int))) (Q (Sx.SV.tup [Sx.SV.lit (Go.Value.bool Bool.true), Sx.SV.lit (Go.Value.bool Bool.false)], [Sx.SO.row (5 : Nat) (Sx.Ty.int Go.IntKind.u8)
      [c, d, e, f]], [])) (Sx.br (Decidable.decide (List.getD [c, d, e, f] (0 : Nat) (Sx.Ty.dflt (Sx.Ty.int Go.IntKind.u8)) ≥ (194 : Int))) (Sx.br (Decidable.decide (List.getD
      [c, d, e, f] (0 : Nat) (Sx.Ty.dflt (Sx.Ty.int Go.IntKind.u8)) ≤ (223 : Int))) (((0 : Int) ≤ (1 : Int) ∧ (1 : Int) < (↑(4 : Nat) : Int)) ∧ (1 : Nat) < (4 : Nat) ∧ Sx.br
      (Decidable.decide (List.getD [c, d, e, f] (1 : Nat) (Sx.Ty.dflt (Sx.Ty.int Go.IntKind.u8)) < (128 : Int))) (Q (Sx.SV.tup [Sx.SV.lit (Go.Value.bool Bool.false), Sx.SV.lit
      (Go.Value.bool Bool.false)], [Sx.SO.row (5 : Nat) (Sx.Ty.int Go.IntKind.u8) [c, d, e, f]], [])) (((0 : Int) ≤ (1 : Int) ∧ (1 : Int) < (↑(4 : Nat) : Int)) ∧ (1 : Nat) < (4
      : Nat) ∧ Sx.br (Decidable.decide (List.getD [c, d, e, f] (1 : Nat) (Sx.Ty.dflt (Sx.Ty.int Go.IntKind.u8)) > (191 : Int))) (Q (Sx.SV.tup [Sx.SV.lit (Go.Value.bool
      Bool.false), Sx.SV.lit (Go.Value.bool Bool.false)], [Sx.SO.row (5 : Nat) (Sx.Ty.int Go.IntKind.u8) [c, d, e, f]], [])) (((0 : Int) ≤ (1 : Int) ∧ (1 : Int) < (↑(4 : Nat) :
      Int)) ∧ (1 : Nat) < (4 : Nat) ∧ Sx.br (Decidable.decide (List.getD [c, d, e, f] (1 : Nat) (Sx.Ty.dflt (Sx.Ty.int Go.IntKind.u8)) < (128 : Int))) (Q (Sx.SV.tup [Sx.SV.lit
      (Go.Value.bool Bool.false), Sx.SV.lit (Go.Value.bool Bool.false)], [Sx.SO.row (5 : Nat) (Sx.Ty.int Go.IntKind.u8) [c, d, e, f]], [])) (((0 : Int) ≤ (1 : Int) ∧ (1 : Int) <
      (↑(4 : Nat) : Int)) ∧ (1 : Nat) < (4 : Nat) ∧ Sx.br (Decidable.decide (List.getD [c, d, e, f] (1 : Nat) (Sx.Ty.dflt (Sx.Ty.int Go.IntKind.u8)) > (191 : Int))) (Q
      (Sx.SV.tup [Sx.SV.lit (Go.Value.bool Bool.false), Sx.SV.lit (Go.Value.bool Bool.false)], [Sx.SO.row (5 : Nat) (Sx.Ty.int Go.IntKind.u8) [c, d, e, f]], [])) (((0 : Int) ≤
      Go.IntKind.wrap Go.IntKind.i64 ((1 : Int) + (1 : Int)) ∧ Go.IntKind.wrap Go.IntKind.i64 ((1 : Int) + (1 : Int)) < (↑(4 : Nat) : Int)) ∧ (2 : Nat) < (4 : Nat) ∧ Sx.br
      (Decidable.decide (List.getD [c, d, e, f] (2 : Nat) (Sx.Ty.dflt (Sx.Ty.int Go.IntKind.u8)) < (128 : Int))) (Q (Sx.SV.tup [Sx.SV.lit (Go.Value.bool Bool.false), Sx.SV.lit
      (Go.Value.bool Bool.false)], [Sx.SO.row (5 : Nat) (Sx.Ty.int Go.IntKind.u8) [c, d, e, f]], [])) (((0 : Int) ≤ Go.IntKind.wrap Go.IntKind.i64 ((1 : Int) + (1 : Int)) ∧
      Go.IntKind.wrap Go.IntKind.i64 ((1 : Int) + (1 : Int)) < (↑(4 : Nat) : Int)) ∧ (2 : Nat) < (4 : Nat) ∧ Sx.br (Decidable.decide (List.getD [c, d, e, f] (2 : Nat)
      (Sx.Ty.dflt (Sx.Ty.int Go.IntKind.u8)) > (191 : Int))) (Q (Sx.SV.tup [Sx.SV.lit (Go.Value.bool Bool.false), Sx.SV.lit (Go.Value.bool Bool.false)], [Sx.SO.row (5 : Nat)
      (Sx.Ty.int Go.IntKind.u8) [c, d, e, f]], [])) (((0 : Int) ≤ Go.IntKind.wrap Go.IntKind.i64 (Go.IntKind.wrap Go.IntKind.i64 ((1 : Int) + (1 : Int)) + (1 : Int)) ∧
      Go.IntKind.wrap Go.IntKind.i64 (Go.IntKind.wrap Go.IntKind.i64 ((1 : Int) + (1 : Int)) + (1 : Int)) < (↑(4 : Nat) : Int)) ∧ (3 : Nat) < (4 : Nat) ∧ Sx.br (Decidable.decide
      (List.getD [c, d, e, f] (3 : Nat) (Sx.Ty.dflt (Sx.Ty.int Go.IntKind.u8)) < (128 : Int))) (Q (Sx.SV.tup [Sx.SV.lit (Go.Value.bool Bool.false), Sx.SV.lit (Go.Value.bool
      Bool.false)], [Sx.SO.row (5 : Nat) (Sx.Ty.int Go.IntKind.u8) [c, d, e, f]], [])) (((0 : Int) ≤ Go.IntKind.wrap Go.IntKind.i64 (Go.IntKind.wrap Go.IntKind.i64 ((1 : Int) +
      (1 : Int)) + (1 : Int)) ∧ Go.IntKind.wrap Go.IntKind.i64 (Go.IntKind.wrap Go.IntKind.i64 ((1 : Int) + (1 : Int)) + (1 : Int)) < (↑(4 : Nat) : Int)) ∧ (3 : Nat) < (4 : Nat)
      ∧ Sx.br (Decidable.decide (List.getD [c, d, e, f] (3 : Nat) (Sx.Ty.dflt (Sx.Ty.int Go.IntKind.u8)) > (191 : Int))) (Q (Sx.SV.tup [Sx.SV.lit (Go.Value.bool Bool.false),
      Sx.SV.lit (Go.Value.bool Bool.false)], [Sx.SO.row (5 : Nat) (Sx.Ty.int Go.IntKind.u8) [c, d, e, f]], [])) (Q (Sx.SV.tup [Sx.SV.lit (Go.Value.bool Bool.true), Sx.SV.lit
      (Go.Value.bool Bool.false)], [Sx.SO.row (5 : Nat) (Sx.Ty.int Go.IntKind.u8) [c, d, e, f]], [])))))))))) (Sx.br (Decidable.decide (List.getD [c, d, e, f] (0 : Nat)
      (Sx.Ty.dflt (Sx.Ty.int Go.IntKind.u8)) ≥ (224 : Int))) (Sx.br (Decidable.decide (List.getD [c, d, e, f] (0 : Nat) (Sx.Ty.dflt (Sx.Ty.int Go.IntKind.u8)) ≤ (239 : Int)))
      (Sx.br (List.getD [c, d, e, f] (0 : Nat) (Sx.Ty.dflt (Sx.Ty.int Go.IntKind.u8)) == (224 : Int)) (Sx.br (List.getD [c, d, e, f] (0 : Nat) (Sx.Ty.dflt (Sx.Ty.int
      Go.IntKind.u8)) == (237 : Int)) (((0 : Int) ≤ (1 : Int) ∧ (1 : Int) < (↑(4 : Nat) : Int)) ∧ (1 : Nat) < (4 : Nat) ∧ Sx.br (Decidable.decide (List.getD [c, d, e, f] (1 :
      Nat) (Sx.Ty.dflt (Sx.Ty.int Go.IntKind.u8)) < (160 : Int))) (Q (Sx.SV.tup [Sx.SV.lit (Go.Value.bool Bool.false), Sx.SV.lit (Go.Value.bool Bool.false)], [Sx.SO.row (5 :
      Nat) (Sx.Ty.int Go.IntKind.u8) [c, d, e, f]], [])) (((0 : Int) ≤ (1 : Int) ∧ (1 : Int) < (↑(4 : Nat) : Int)) ∧ (1 : Nat) < (4 : Nat) ∧ Sx.br (Decidable.decide (List.getD
      [c, d, e, f] (1 : Nat) (Sx.Ty.dflt (Sx.Ty.int Go.IntKind.u8)) > (159 : Int))) (Q (Sx.SV.tup [Sx.SV.lit (Go.Value.bool Bool.false), Sx.SV.lit (Go.Value.bool Bool.false)],
      [Sx.SO.row (5 : Nat) (Sx.Ty.int Go.IntKind.u8) [c, d, e, f]], [])) (((0 : Int) ≤ (1 : Int) ∧ (1 : Int) < (↑(4 : Nat) : Int)) ∧ (1 : Nat) < (4 : Nat) ∧ Sx.br
      (Decidable.decide (List.getD [c, d, e, f] (1 : Nat) (Sx.Ty.dflt (Sx.Ty.int Go.IntKind.u8)) < (128 : Int))) (Q (Sx.SV.tup [Sx.SV.lit (Go.Value.bool Bool.false), Sx.SV.lit
      (Go.Value.bool Bool.false)], [Sx.SO.row (5 : Nat) (Sx.Ty.int Go.IntKind.u8) [c, d, e, f]], [])) (((0 : Int) ≤ (1 : Int) ∧ (1 : Int) < (↑(4 : Nat) : Int)) ∧ (1 : Nat) < (4
      : Nat) ∧ Sx.br (Decidable.decide (List.getD [c, d, e, f] (1 : Nat) (Sx.Ty.dflt (Sx.Ty.int Go.IntKind.u8)) > (191 : Int))) (Q (Sx.SV.tup [Sx.SV.lit (Go.Value.bool
      Bool.false), Sx.SV.lit (Go.Value.bool Bool.false)], [Sx.SO.row (5 : Nat) (Sx.Ty.int Go.IntKind.u8) [c, d, e, f]], [])) (((0 : Int) ≤ Go.IntKind.wrap Go.IntKind.i64 ((1 :
      Int) + (1 : Int)) ∧ Go.IntKind.wrap Go.IntKind.i64 ((1 : Int) + (1 : Int)) < (↑(4 : Nat) : Int)) ∧ (2 : Nat) < (4 : Nat) ∧ Sx.br (Decidable.decide (List.getD [c, d, e, f]
      (2 : Nat) (Sx.Ty.dflt (Sx.Ty.int Go.IntKind.u8)) < (128 : Int))) (Q (Sx.SV.tup [Sx.SV.lit (Go.Value.bool Bool.false), Sx.SV.lit (Go.Value.bool Bool.false)], [Sx.SO.row (5
      : Nat) (Sx.Ty.int Go.IntKind.u8) [c, d, e, f]], [])) (((0 : Int) ≤ Go.IntKind.wrap Go.IntKind.i64 ((1 : Int) + (1 : Int)) ∧ Go.IntKind.wrap Go.IntKind.i64 ((1 : Int) + (1
      : Int)) < (↑(4 : Nat) : Int)) ∧ (2 : Nat) < (4 : Nat) ∧ Sx.br (Decidable.decide (List.getD [c, d, e, f] (2 : Nat) (Sx.Ty.dflt (Sx.Ty.int Go.IntKind.u8)) > (191 : Int))) (Q
      (Sx.SV.tup [Sx.SV.lit (Go.Value.bool Bool.false), Sx.SV.lit (Go.Value.bool Bool.false)], [Sx.SO.row (5 : Nat) (Sx.Ty.int Go.IntKind.u8) [c, d, e, f]], [])) (((0 : Int) ≤
      Go.IntKind.wrap Go.IntKind.i64 (Go.IntKind.wrap Go.IntKind.i64 ((1 : Int) + (1 : Int)) + (1 : Int)) ∧ Go.IntKind.wrap Go.IntKind.i64 (Go.IntKind.wrap Go.IntKind.i64 ((1 :
      Int) + (1 : Int)) + (1 : Int)) < (↑(4 : Nat) : Int)) ∧ (3 : Nat) < (4 : Nat) ∧ Sx.br (Decidable.decide (List.getD [c, d, e, f] (3 : Nat) (Sx.Ty.dflt (Sx.Ty.int
      Go.IntKind.u8)) < (128 : Int))) (Q (Sx.SV.tup [Sx.SV.lit (Go.Value.bool Bool.false), Sx.SV.lit (Go.Value.bool Bool.false)], [Sx.SO.row (5 : Nat) (Sx.Ty.int Go.IntKind.u8)
      [c, d, e, f]], [])) (((0 : Int) ≤ Go.IntKind.wrap Go.IntKind.i64 (Go.IntKind.wrap Go.IntKind.i64 ((1 : Int) + (1 : Int)) + (1 : Int)) ∧ Go.IntKind.wrap Go.IntKind.i64
      (Go.IntKind.wrap Go.IntKind.i64 ((1 : Int) + (1 : Int)) + (1 : Int)) < (↑(4 : Nat) : Int)) ∧ (3 : Nat) < (4 : Nat) ∧ Sx.br (Decidable.decide (List.getD [c, d, e, f] (3 :
      Nat) (Sx.Ty.dflt (Sx.Ty.int Go.IntKind.u8)) > (191 : Int))) (Q (Sx.SV.tup [Sx.SV.lit (Go.Value.bool Bool.false), Sx.SV.lit (Go.Value.bool Bool.false)], [Sx.SO.row (5 :
      Nat) (Sx.Ty.int Go.IntKind.u8) [c, d, e, f]], [])) (Q (Sx.SV.tup [Sx.SV.lit (Go.Value.bool Bool.true), Sx.SV.lit (Go.Value.bool Bool.false)], [Sx.SO.row (5 : Nat)
      (Sx.Ty.int Go.IntKind.u8) [c, d, e, f]], [])))))))))) (((0 : Int) ≤ (1 : Int) ∧ (1 : Int) < (↑(4 : Nat) : Int)) ∧ (1 : Nat) < (4 : Nat) ∧ Sx.br (Decidable.decide
      (List.getD [c, d, e, f] (1 : Nat) (Sx.Ty.dflt (Sx.Ty.int Go.IntKind.u8)) < (160 : Int))) (Q (Sx.SV.tup [Sx.SV.lit (Go.Value.bool Bool.false), Sx.SV.lit (Go.Value.bool
      Bool.false)], [Sx.SO.row (5 : Nat) (Sx.Ty.int Go.IntKind.u8) [c, d, e, f]], [])) (((0 : Int) ≤ (1 : Int) ∧ (1 : Int) < (↑(4 : Nat) : Int)) ∧ (1 : Nat) < (4 : Nat) ∧ Sx.br
      (Decidable.decide (List.getD [c, d, e, f] (1 : Nat) (Sx.Ty.dflt (Sx.Ty.int Go.IntKind.u8)) > (191 : Int))) (Q (Sx.SV.tup [Sx.SV.lit (Go.Value.bool Bool.false), Sx.SV.lit
      (Go.Value.bool Bool.false)], [Sx.SO.row (5 : Nat) (Sx.Ty.int Go.IntKind.u8) [c, d, e, f]], [])) (((0 : Int) ≤ (1 : Int) ∧ (1 : Int) < (↑(4 : Nat) : Int)) ∧ (1 : Nat) < (4
      : Nat) ∧ Sx.br (Decidable.decide (List.getD [c, d, e, f] (1 : Nat) (Sx.Ty.dflt (Sx.Ty.int Go.IntKind.u8)) < (128 : Int))) (Q (Sx.SV.tup [Sx.SV.lit (Go.Value.bool
      Bool.false), Sx.SV.lit (Go.Value.bool Bool.false)], [Sx.SO.row (5 : Nat) (Sx.Ty.int Go.IntKind.u8) [c, d, e, f]], [])) (((0 : Int) ≤ (1 : Int) ∧ (1 : Int) < (↑(4 : Nat) :
      Int)) ∧ (1 : Nat) < (4 : Nat) ∧ Sx.br (Decidable.decide (List.getD [c, d, e, f] (1 : Nat) (Sx.Ty.dflt (Sx.Ty.int Go.IntKind.u8)) > (191 : Int))) (Q (Sx.SV.tup [Sx.SV.lit
      (Go.Value.bool Bool.false), Sx.SV.lit (Go.Value.bool Bool.false)], [Sx.SO.row (5 : Nat) (Sx.Ty.int Go.IntKind.u8) [c, d, e, f]], [])) (((0 : Int) ≤ Go.IntKind.wrap
      Go.IntKind.i64 ((1 : Int) + (1 : Int)) ∧ Go.IntKind.wrap Go.IntKind.i64 ((1 : Int) + (1 : Int)) < (↑(4 : Nat) : Int)) ∧ (2 : Nat) < (4 : Nat) ∧ Sx.br (Decidable.decide
      (List.getD [c, d, e, f] (2 : Nat) (Sx.Ty.dflt (Sx.Ty.int Go.IntKind.u8)) < (128 : Int))) (Q (Sx.SV.tup [Sx.SV.lit (Go.Value.bool Bool.false), Sx.SV.lit (Go.Value.bool
      Bool.false)], [Sx.SO.row (5 : Nat) (Sx.Ty.int Go.IntKind.u8) [c, d, e, f]], [])) (((0 : Int) ≤ Go.IntKind.wrap Go.IntKind.i64 ((1 : Int) + (1 : Int)) ∧ Go.IntKind.wrap
      Go.IntKind.i64 ((1 : Int) + (1 : Int)) < (↑(4 : Nat) : Int)) ∧ (2 : Nat) < (4 : Nat) ∧ Sx.br (Decidable.decide (List.getD [c, d, e, f] (2 : Nat) (Sx.Ty.dflt (Sx.Ty.int
      Go.IntKind.u8)) > (191 : Int))) (Q (Sx.SV.tup [Sx.SV.lit (Go.Value.bool Bool.false), Sx.SV.lit (Go.Value.bool Bool.false)], [Sx.SO.row (5 : Nat) (Sx.Ty.int Go.IntKind.u8)
      [c, d, e, f]], [])) (((0 : Int) ≤ Go.IntKind.wrap Go.IntKind.i64 (Go.IntKind.wrap Go.IntKind.i64 ((1 : Int) + (1 : Int)) + (1 : Int)) ∧ Go.IntKind.wrap Go.IntKind.i64
      (Go.IntKind.wrap Go.IntKind.i64 ((1 : Int) + (1 : Int)) + (1 : Int)) < (↑(4 : Nat) : Int)) ∧ (3 : Nat) < (4 : Nat) ∧ Sx.br (Decidable.decide (List.getD [c, d, e, f] (3 :
      Nat) (Sx.Ty.dflt (Sx.Ty.int Go.IntKind.u8)) < (128 : Int))) (Q (Sx.SV.tup [Sx.SV.lit (Go.Value.bool Bool.false), Sx.SV.lit (Go.Value.bool Bool.false)], [Sx.SO.row (5 :
      Nat) (Sx.Ty.int Go.IntKind.u8) [c, d, e, f]], [])) (((0 : Int) ≤ Go.IntKind.wrap Go.IntKind.i64 (Go.IntKind.wrap Go.IntKind.i64 ((1 : Int) + (1 : Int)) + (1 : Int)) ∧
      Go.IntKind.wrap Go.IntKind.i64 (Go.IntKind.wrap Go.IntKind.i64 ((1 : Int) + (1 : Int)) + (1 : Int)) < (↑(4 : Nat) : Int)) ∧ (3 : Nat) < (4 : Nat) ∧ Sx.br (Decidable.decide
      (List.getD [c, d, e, f] (3 : Nat) (Sx.Ty.dflt (Sx.Ty.int Go.IntKind.u8)) > (191 : Int))) (Q (Sx.SV.tup [Sx.SV.lit (Go.Value.bool Bool.false), Sx.SV.lit (Go.Value.bool
      Bool.false)], [Sx.SO.row (5 : Nat) (Sx.Ty.int Go.IntKind.u8) [c, d, e, f]], [])) (Q (Sx.SV.tup [Sx.SV.lit (Go.Value.bool Bool.true), Sx.SV.lit (Go.Value.bool Bool.false)],
      [Sx.SO.row (5 : Nat) (Sx.Ty.int Go.IntKind.u8) [c, d, e, f]], []))))))))))) (Sx.br (List.getD [c, d, e, f] (0 : Nat) (Sx.Ty.dflt (Sx.Ty.int Go.IntKind.u8)) == (237 : Int))
      (((0 : Int) ≤ (1 : Int) ∧ (1 : Int) < (↑(4 : Nat) : Int)) ∧ (1 : Nat) < (4 : Nat) ∧ Sx.br (Decidable.decide (List.getD [c, d, e, f] (1 : Nat) (Sx.Ty.dflt (Sx.Ty.int
      Go.IntKind.u8)) < (128 : Int))) (Q (Sx.SV.tup [Sx.SV.lit (Go.Value.bool Bool.false), Sx.SV.lit (Go.Value.bool Bool.false)], [Sx.SO.row (5 : Nat) (Sx.Ty.int Go.IntKind.u8)
      [c, d, e, f]], [])) (((0 : Int) ≤ (1 : Int) ∧ (1 : Int) < (↑(4 : Nat) : Int)) ∧ (1 : Nat) < (4 : Nat) ∧ Sx.br (Decidable.decide (List.getD [c, d, e, f] (1 : Nat)
      (Sx.Ty.dflt (Sx.Ty.int Go.IntKind.u8)) > (159 : Int))) (Q (Sx.SV.tup [Sx.SV.lit (Go.Value.bool Bool.false), Sx.SV.lit (Go.Value.bool Bool.false)], [Sx.SO.row (5 : Nat)
      (Sx.Ty.int Go.IntKind.u8) [c, d, e, f]], [])) (((0 : Int) ≤ (1 : Int) ∧ (1 : Int) < (↑(4 : Nat) : Int)) ∧ (1 : Nat) < (4 : Nat) ∧ Sx.br (Decidable.decide (List.getD [c, d,
      e, f] (1 : Nat) (Sx.Ty.dflt (Sx.Ty.int Go.IntKind.u8)) < (128 : Int))) (Q (Sx.SV.tup [Sx.SV.lit (Go.Value.bool Bool.false), Sx.SV.lit (Go.Value.bool Bool.false)],
      [Sx.SO.row (5 : Nat) (Sx.Ty.int Go.IntKind.u8) [c, d, e, f]], [])) (((0 : Int) ≤ (1 : Int) ∧ (1 : Int) < (↑(4 : Nat) : Int)) ∧ (1 : Nat) < (4 : Nat) ∧ Sx.br
      (Decidable.decide (List.getD [c, d, e, f] (1 : Nat) (Sx.Ty.dflt (Sx.Ty.int Go.IntKind.u8)) > (191 : Int))) (Q (Sx.SV.tup [Sx.SV.lit (Go.Value.bool Bool.false), Sx.SV.lit
      (Go.Value.bool Bool.false)], [Sx.SO.row (5 : Nat) (Sx.Ty.int Go.IntKind.u8) [c, d, e, f]], [])) (((0 : Int) ≤ Go.IntKind.wrap Go.IntKind.i64 ((1 : Int) + (1 : Int)) ∧
      Go.IntKind.wrap Go.IntKind.i64 ((1 : Int) + (1 : Int)) < (↑(4 : Nat) : Int)) ∧ (2 : Nat) < (4 : Nat) ∧ Sx.br (Decidable.decide (List.getD [c, d, e, f] (2 : Nat)
      (Sx.Ty.dflt (Sx.Ty.int Go.IntKind.u8)) < (128 : Int))) (Q (Sx.SV.tup [Sx.SV.lit (Go.Value.bool Bool.false), Sx.SV.lit (Go.Value.bool Bool.false)], [Sx.SO.row (5 : Nat)
      (Sx.Ty.int Go.IntKind.u8) [c, d, e, f]], [])) (((0 : Int) ≤ Go.IntKind.wrap Go.IntKind.i64 ((1 : Int) + (1 : Int)) ∧ Go.IntKind.wrap Go.IntKind.i64 ((1 : Int) + (1 : Int))
      < (↑(4 : Nat) : Int)) ∧ (2 : Nat) < (4 : Nat) ∧ Sx.br (Decidable.decide (List.getD [c, d, e, f] (2 : Nat) (Sx.Ty.dflt (Sx.Ty.int Go.IntKind.u8)) > (191 : Int))) (Q
      (Sx.SV.tup [Sx.SV.lit (Go.Value.bool Bool.false), Sx.SV.lit (Go.Value.bool Bool.false)], [Sx.SO.row (5 : Nat) (Sx.Ty.int Go.IntKind.u8) [c, d, e, f]], [])) (((0 : Int) ≤
      Go.IntKind.wrap Go.IntKind.i64 (Go.IntKind.wrap Go.IntKind.i64 ((1 : Int) + (1 : Int)) + (1 : Int)) ∧ Go.IntKind.wrap Go.IntKind.i64 (Go.IntKind.wrap Go.IntKind.i64 ((1 :
      Int) + (1 : Int)) + (1 : Int)) < (↑(4 : Nat) : Int)) ∧ (3 : Nat) < (4 : Nat) ∧ Sx.br (Decidable.decide (List.getD [c, d, e, f] (3 : Nat) (Sx.Ty.dflt (Sx.Ty.int
      Go.IntKind.u8)) < (128 : Int))) (Q (Sx.SV.tup [Sx.SV.lit (Go.Value.bool Bool.false), Sx.SV.lit (Go.Value.bool Bool.false)], [Sx.SO.row (5 : Nat) (Sx.Ty.int Go.IntKind.u8)
      [c, d, e, f]], [])) (((0 : Int) ≤ Go.IntKind.wrap Go.IntKind.i64 (Go.IntKind.wrap Go.IntKind.i64 ((1 : Int) + (1 : Int)) + (1 : Int)) ∧ Go.IntKind.wrap Go.IntKind.i64
      (Go.IntKind.wrap Go.IntKind.i64 ((1 : Int) + (1 : Int)) + (1 : Int)) < (↑(4 : Nat) : Int)) ∧ (3 : Nat) < (4 : Nat) ∧ Sx.br (Decidable.decide (List.getD [c, d, e, f] (3 :
      Nat) (Sx.Ty.dflt (Sx.Ty.int Go.IntKind.u8)) > (191 : Int))) (Q (Sx.SV.tup [Sx.SV.lit (Go.Value.bool Bool.false), Sx.SV.lit (Go.Value.bool Bool.false)], [Sx.SO.row (5 :
      Nat) (Sx.Ty.int Go.IntKind.u8) [c, d, e, f]], [])) (Q (Sx.SV.tup [Sx.SV.lit (Go.Value.bool Bool.true), Sx.SV.lit (Go.Value.bool Bool.false)], [Sx.SO.row (5 : Nat)
      (Sx.Ty.int Go.IntKind.u8) [c, d, e, f]], [])))))))))) (((0 : Int) ≤ (1 : Int) ∧ (1 : Int) < (↑(4 : Nat) : Int)) ∧ (1 : Nat) < (4 : Nat) ∧ Sx.br (Decidable.decide
      (List.getD [c, d, e, f] (1 : Nat) (Sx.Ty.dflt (Sx.Ty.int Go.IntKind.u8)) < (128 : Int))) (Q (Sx.SV.tup [Sx.SV.lit (Go.Value.bool Bool.false), Sx.SV.lit (Go.Value.bool
      Bool.false)], [Sx.SO.row (5 : Nat) (Sx.Ty.int Go.IntKind.u8) [c, d, e, f]], [])) (((0 : Int) ≤ (1 : Int) ∧ (1 : Int) < (↑(4 : Nat) : Int)) ∧ (1 : Nat) < (4 : Nat) ∧ Sx.br
      (Decidable.decide (List.getD [c, d, e, f] (1 : Nat) (Sx.Ty.dflt (Sx.Ty.int Go.IntKind.u8)) > (191 : Int))) (Q (Sx.SV.tup [Sx.SV.lit (Go.Value.bool Bool.false), Sx.SV.lit
      (Go.Value.bool Bool.false)], [Sx.SO.row (5 : Nat) (Sx.Ty.int Go.IntKind.u8) [c, d, e, f]], [])) (((0 : Int) ≤ (1 : Int) ∧ (1 : Int) < (↑(4 : Nat) : Int)) ∧ (1 : Nat) < (4
      : Nat) ∧ Sx.br (Decidable.decide (List.getD [c, d, e, f] (1 : Nat) (Sx.Ty.dflt (Sx.Ty.int Go.IntKind.u8)) < (128 : Int))) (Q (Sx.SV.tup [Sx.SV.lit (Go.Value.bool
      Bool.false), Sx.SV.lit (Go.Value.bool Bool.false)], [Sx.SO.row (5 : Nat) (Sx.Ty.int Go.IntKind.u8) [c, d, e, f]], [])) (((0 : Int) ≤ (1 : Int) ∧ (1 : Int) < (↑(4 : Nat) :
      Int)) ∧ (1 : Nat) < (4 : Nat) ∧ Sx.br (Decidable.decide (List.getD [c, d, e, f] (1 : Nat) (Sx.Ty.dflt (Sx.Ty.int Go.IntKind.u8)) > (191 : Int))) (Q (Sx.SV.tup [Sx.SV.lit
      (Go.Value.bool Bool.false), Sx.SV.lit (Go.Value.bool Bool.false)], [Sx.SO.row (5 : Nat) (Sx.Ty.int Go.IntKind.u8) [c, d, e, f]], [])) (((0 : Int) ≤ Go.IntKind.wrap
      Go.IntKind.i64 ((1 : Int) + (1 : Int)) ∧ Go.IntKind.wrap Go.IntKind.i64 ((1 : Int) + (1 : Int)) < (↑(4 : Nat) : Int)) ∧ (2 : Nat) < (4 : Nat) ∧ Sx.br (Decidable.decide
      (List.getD [c, d, e, f] (2 : Nat) (Sx.Ty.dflt (Sx.Ty.int Go.IntKind.u8)) < (128 : Int))) (Q (Sx.SV.tup [Sx.SV.lit (Go.Value.bool Bool.false), Sx.SV.lit (Go.Value.bool
      Bool.false)], [Sx.SO.row (5 : Nat) (Sx.Ty.int Go.IntKind.u8) [c, d, e, f]], [])) (((0 : Int) ≤ Go.IntKind.wrap Go.IntKind.i64 ((1 : Int) + (1 : Int)) ∧ Go.IntKind.wrap
      Go.IntKind.i64 ((1 : Int) + (1 : Int)) < (↑(4 : Nat) : Int)) ∧ (2 : Nat) < (4 : Nat) ∧ Sx.br (Decidable.decide (List.getD [c, d, e, f] (2 : Nat) (Sx.Ty.dflt (Sx.Ty.int
      Go.IntKind.u8)) > (191 : Int))) (Q (Sx.SV.tup [Sx.SV.lit (Go.Value.bool Bool.false), Sx.SV.lit (Go.Value.bool Bool.false)], [Sx.SO.row (5 : Nat) (Sx.Ty.int Go.IntKind.u8)
      [c, d, e, f]], [])) (((0 : Int) ≤ Go.IntKind.wrap Go.IntKind.i64 (Go.IntKind.wrap Go.IntKind.i64 ((1 : Int) + (1 : Int)) + (1 : Int)) ∧ Go.IntKind.wrap Go.IntKind.i64
      (Go.IntKind.wrap Go.IntKind.i64 ((1 : Int) + (1 : Int)) + (1 : Int)) < (↑(4 : Nat) : Int)) ∧ (3 : Nat) < (4 : Nat) ∧ Sx.br (Decidable.decide (List.getD [c, d, e, f] (3 :
      Nat) (Sx.Ty.dflt (Sx.Ty.int Go.IntKind.u8)) < (128 : Int))) (Q (Sx.SV.tup [Sx.SV.lit (Go.Value.bool Bool.false), Sx.SV.lit (Go.Value.bool Bool.false)], [Sx.SO.row (5 :
      Nat) (Sx.Ty.int Go.IntKind.u8) [c, d, e, f]], [])) (((0 : Int) ≤ Go.IntKind.wrap Go.IntKind.i64 (Go.IntKind.wrap Go.IntKind.i64 ((1 : Int) + (1 : Int)) + (1 : Int)) ∧
      Go.IntKind.wrap Go.IntKind.i64 (Go.IntKind.wrap Go.IntKind.i64 ((1 : Int) + (1 : Int)) + (1 : Int)) < (↑(4 : Nat) : Int)) ∧ (3 : Nat) < (4 : Nat) ∧ Sx.br (Decidable.decide
      (List.getD [c, d, e, f] (3 : Nat) (Sx.Ty.dflt (Sx.Ty.int Go.IntKind.u8)) > (191 : Int))) (Q (Sx.SV.tup [Sx.SV.lit (Go.Value.bool Bool.false), Sx.SV.lit (Go.Value.bool
      Bool.false)], [Sx.SO.row (5 : Nat) (Sx.Ty.int Go.IntKind.u8) [c, d, e, f]], [])) (Q (Sx.SV.tup [Sx.SV.lit (Go.Value.bool Bool.true), Sx.SV.lit (Go.Value.bool Bool.false)],
      [Sx.SO.row (5 : Nat) (Sx.Ty.int Go.IntKind.u8) [c, d, e, f]], [])))))))))))) (Sx.br (Decidable.decide (List.getD [c, d, e, f] (0 : Nat) (Sx.Ty.dflt (Sx.Ty.int
      Go.IntKind.u8)) ≥ (240 : Int))) (Sx.br (Decidable.decide (List.getD [c, d, e, f] (0 : Nat) (Sx.Ty.dflt (Sx.Ty.int Go.IntKind.u8)) ≤ (244 : Int))) (Sx.br (List.getD [c, d,
      e, f] (0 : Nat) (Sx.Ty.dflt (Sx.Ty.int Go.IntKind.u8)) == (240 : Int)) (Sx.br (List.getD [c, d, e, f] (0 : Nat) (Sx.Ty.dflt (Sx.Ty.int Go.IntKind.u8)) == (244 : Int)) (((0
      : Int) ≤ (1 : Int) ∧ (1 : Int) < (↑(4 : Nat) : Int)) ∧ (1 : Nat) < (4 : Nat) ∧ Sx.br (Decidable.decide (List.getD [c, d, e, f] (1 : Nat) (Sx.Ty.dflt (Sx.Ty.int
      Go.IntKind.u8)) < (144 : Int))) (Q (Sx.SV.tup [Sx.SV.lit (Go.Value.bool Bool.false), Sx.SV.lit (Go.Value.bool Bool.false)], [Sx.SO.row (5 : Nat) (Sx.Ty.int Go.IntKind.u8)
      [c, d, e, f]], [])) (((0 : Int) ≤ (1 : Int) ∧ (1 : Int) < (↑(4 : Nat) : Int)) ∧ (1 : Nat) < (4 : Nat) ∧ Sx.br (Decidable.decide (List.getD [c, d, e, f] (1 : Nat)
      (Sx.Ty.dflt (Sx.Ty.int Go.IntKind.u8)) > (143 : Int))) (Q (Sx.SV.tup [Sx.SV.lit (Go.Value.bool Bool.false), Sx.SV.lit (Go.Value.bool Bool.false)], [Sx.SO.row (5 : Nat)
      (Sx.Ty.int Go.IntKind.u8) [c, d, e, f]], [])) (((0 : Int) ≤ (1 : Int) ∧ (1 : Int) < (↑(4 : Nat) : Int)) ∧ (1 : Nat) < (4 : Nat) ∧ Sx.br (Decidable.decide (List.getD [c, d,
      e, f] (1 : Nat) (Sx.Ty.dflt (Sx.Ty.int Go.IntKind.u8)) < (128 : Int))) (Q (Sx.SV.tup [Sx.SV.lit (Go.Value.bool Bool.false), Sx.SV.lit (Go.Value.bool Bool.false)],
      [Sx.SO.row (5 : Nat) (Sx.Ty.int Go.IntKind.u8) [c, d, e, f]], [])) (((0 : Int) ≤ (1 : Int) ∧ (1 : Int) < (↑(4 : Nat) : Int)) ∧ (1 : Nat) < (4 : Nat) ∧ Sx.br
      (Decidable.decide (List.getD [c, d, e, f] (1 : Nat) (Sx.Ty.dflt (Sx.Ty.int Go.IntKind.u8)) > (191 : Int))) (Q (Sx.SV.tup [Sx.SV.lit (Go.Value.bool Bool.false), Sx.SV.lit
      (Go.Value.bool Bool.false)], [Sx.SO.row (5 : Nat) (Sx.Ty.int Go.IntKind.u8) [c, d, e, f]], [])) (((0 : Int) ≤ Go.IntKind.wrap Go.IntKind.i64 ((1 : Int) + (1 : Int)) ∧
      Go.IntKind.wrap Go.IntKind.i64 ((1 : Int) + (1 : Int)) < (↑(4 : Nat) : Int)) ∧ (2 : Nat) < (4 : Nat) ∧ Sx.br (Decidable.decide (List.getD [c, d, e, f] (2 : Nat)
      (Sx.Ty.dflt (Sx.Ty.int Go.IntKind.u8)) < (128 : Int))) (Q (Sx.SV.tup [Sx.SV.lit (Go.Value.bool Bool.false), Sx.SV.lit (Go.Value.bool Bool.false)], [Sx.SO.row (5 : Nat)
      (Sx.Ty.int Go.IntKind.u8) [c, d, e, f]], [])) (((0 : Int) ≤ Go.IntKind.wrap Go.IntKind.i64 ((1 : Int) + (1 : Int)) ∧ Go.IntKind.wrap Go.IntKind.i64 ((1 : Int) + (1 : Int))
      < (↑(4 : Nat) : Int)) ∧ (2 : Nat) < (4 : Nat) ∧ Sx.br (Decidable.decide (List.getD [c, d, e, f] (2 : Nat) (Sx.Ty.dflt (Sx.Ty.int Go.IntKind.u8)) > (191 : Int))) (Q
      (Sx.SV.tup [Sx.SV.lit (Go.Value.bool Bool.false), Sx.SV.lit (Go.Value.bool Bool.false)], [Sx.SO.row (5 : Nat) (Sx.Ty.int Go.IntKind.u8) [c, d, e, f]], [])) (((0 : Int) ≤
      Go.IntKind.wrap Go.IntKind.i64 (Go.IntKind.wrap Go.IntKind.i64 ((1 : Int) + (1 : Int)) + (1 : Int)) ∧ Go.IntKind.wrap Go.IntKind.i64 (Go.IntKind.wrap Go.IntKind.i64 ((1 :
      Int) + (1 : Int)) + (1 : Int)) < (↑(4 : Nat) : Int)) ∧ (3 : Nat) < (4 : Nat) ∧ Sx.br (Decidable.decide (List.getD [c, d, e, f] (3 : Nat) (Sx.Ty.dflt (Sx.Ty.int
      Go.IntKind.u8)) < (128 : Int))) (Q (Sx.SV.tup [Sx.SV.lit (Go.Value.bool Bool.false), Sx.SV.lit (Go.Value.bool Bool.false)], [Sx.SO.row (5 : Nat) (Sx.Ty.int Go.IntKind.u8)
      [c, d, e, f]], [])) (((0 : Int) ≤ Go.IntKind.wrap Go.IntKind.i64 (Go.IntKind.wrap Go.IntKind.i64 ((1 : Int) + (1 : Int)) + (1 : Int)) ∧ Go.IntKind.wrap Go.IntKind.i64
      (Go.IntKind.wrap Go.IntKind.i64 ((1 : Int) + (1 : Int)) + (1 : Int)) < (↑(4 : Nat) : Int)) ∧ (3 : Nat) < (4 : Nat) ∧ Sx.br (Decidable.decide (List.getD [c, d, e, f] (3 :
      Nat) (Sx.Ty.dflt (Sx.Ty.int Go.IntKind.u8)) > (191 : Int))) (Q (Sx.SV.tup [Sx.SV.lit (Go.Value.bool Bool.false), Sx.SV.lit (Go.Value.bool Bool.false)], [Sx.SO.row (5 :
      Nat) (Sx.Ty.int Go.IntKind.u8) [c, d, e, f]], [])) (Q (Sx.SV.tup [Sx.SV.lit (Go.Value.bool Bool.true), Sx.SV.lit (Go.Value.bool Bool.true)], [Sx.SO.row (5 : Nat)
      (Sx.Ty.int Go.IntKind.u8) [c, d, e, f]], [])))))))))) (((0 : Int) ≤ (1 : Int) ∧ (1 : Int) < (↑(4 : Nat) : Int)) ∧ (1 : Nat) < (4 : Nat) ∧ Sx.br (Decidable.decide
      (List.getD [c, d, e, f] (1 : Nat) (Sx.Ty.dflt (Sx.Ty.int Go.IntKind.u8)) < (144 : Int))) (Q (Sx.SV.tup [Sx.SV.lit (Go.Value.bool Bool.false), Sx.SV.lit (Go.Value.bool
      Bool.false)], [Sx.SO.row (5 : Nat) (Sx.Ty.int Go.IntKind.u8) [c, d, e, f]], [])) (((0 : Int) ≤ (1 : Int) ∧ (1 : Int) < (↑(4 : Nat) : Int)) ∧ (1 : Nat) < (4 : Nat) ∧ Sx.br
      (Decidable.decide (List.getD [c, d, e, f] (1 : Nat) (Sx.Ty.dflt (Sx.Ty.int Go.IntKind.u8)) > (191 : Int))) (Q (Sx.SV.tup [Sx.SV.lit (Go.Value.bool Bool.false), Sx.SV.lit
      (Go.Value.bool Bool.false)], [Sx.SO.row (5 : Nat) (Sx.Ty.int Go.IntKind.u8) [c, d, e, f]], [])) (((0 : Int) ≤ (1 : Int) ∧ (1 : Int) < (↑(4 : Nat) : Int)) ∧ (1 : Nat) < (4
      : Nat) ∧ Sx.br (Decidable.decide (List.getD [c, d, e, f] (1 : Nat) (Sx.Ty.dflt (Sx.Ty.int Go.IntKind.u8)) < (128 : Int))) (Q (Sx.SV.tup [Sx.SV.lit (Go.Value.bool
      Bool.false), Sx.SV.lit (Go.Value.bool Bool.false)], [Sx.SO.row (5 : Nat) (Sx.Ty.int Go.IntKind.u8) [c, d, e, f]], [])) (((0 : Int) ≤ (1 : Int) ∧ (1 : Int) < (↑(4 : Nat) :
      Int)) ∧ (1 : Nat) < (4 : Nat) ∧ Sx.br (Decidable.decide (List.getD [c, d, e, f] (1 : Nat) (Sx.Ty.dflt (Sx.Ty.int Go.IntKind.u8)) > (191 : Int))) (Q (Sx.SV.tup [Sx.SV.lit
      (Go.Value.bool Bool.false), Sx.SV.lit (Go.Value.bool Bool.false)], [Sx.SO.row (5 : Nat) (Sx.Ty.int Go.IntKind.u8) [c, d, e, f]], [])) (((0 : Int) ≤ Go.IntKind.wrap
      Go.IntKind.i64 ((1 : Int) + (1 : Int)) ∧ Go.IntKind.wrap Go.IntKind.i64 ((1 : Int) + (1 : Int)) < (↑(4 : Nat) : Int)) ∧ (2 : Nat) < (4 : Nat) ∧ Sx.br (Decidable.decide
      (List.getD [c, d, e, f] (2 : Nat) (Sx.Ty.dflt (Sx.Ty.int Go.IntKind.u8)) < (128 : Int))) (Q (Sx.SV.tup [Sx.SV.lit (Go.Value.bool Bool.false), Sx.SV.lit (Go.Value.bool
      Bool.false)], [Sx.SO.row (5 : Nat) (Sx.Ty.int Go.IntKind.u8) [c, d, e, f]], [])) (((0 : Int) ≤ Go.IntKind.wrap Go.IntKind.i64 ((1 : Int) + (1 : Int)) ∧ Go.IntKind.wrap
      Go.IntKind.i64 ((1 : Int) + (1 : Int)) < (↑(4 : Nat) : Int)) ∧ (2 : Nat) < (4 : Nat) ∧ Sx.br (Decidable.decide (List.getD [c, d, e, f] (2 : Nat) (Sx.Ty.dflt (Sx.Ty.int
      Go.IntKind.u8)) > (191 : Int))) (Q (Sx.SV.tup [Sx.SV.lit (Go.Value.bool Bool.false), Sx.SV.lit (Go.Value.bool Bool.false)], [Sx.SO.row (5 : Nat) (Sx.Ty.int Go.IntKind.u8)
      [c, d, e, f]], [])) (((0 : Int) ≤ Go.IntKind.wrap Go.IntKind.i64 (Go.IntKind.wrap Go.IntKind.i64 ((1 : Int) + (1 : Int)) + (1 : Int)) ∧ Go.IntKind.wrap Go.IntKind.i64
      (Go.IntKind.wrap Go.IntKind.i64 ((1 : Int) + (1 : Int)) + (1 : Int)) < (↑(4 : Nat) : Int)) ∧ (3 : Nat) < (4 : Nat) ∧ Sx.br (Decidable.decide (List.getD [c, d, e, f] (3 :
      Nat) (Sx.Ty.dflt (Sx.Ty.int Go.IntKind.u8)) < (128 : Int))) (Q (Sx.SV.tup [Sx.SV.lit (Go.Value.bool Bool.false), Sx.SV.lit (Go.Value.bool Bool.false)], [Sx.SO.row (5 :
      Nat) (Sx.Ty.int Go.IntKind.u8) [c, d, e, f]], [])) (((0 : Int) ≤ Go.IntKind.wrap Go.IntKind.i64 (Go.IntKind.wrap Go.IntKind.i64 ((1 : Int) + (1 : Int)) + (1 : Int)) ∧
      Go.IntKind.wrap Go.IntKind.i64 (Go.IntKind.wrap Go.IntKind.i64 ((1 : Int) + (1 : Int)) + (1 : Int)) < (↑(4 : Nat) : Int)) ∧ (3 : Nat) < (4 : Nat) ∧ Sx.br (Decidable.decide
      (List.getD [c, d, e, f] (3 : Nat) (Sx.Ty.dflt (Sx.Ty.int Go.IntKind.u8)) > (191 : Int))) (Q (Sx.SV.tup [Sx.SV.lit (Go.Value.bool Bool.false), Sx.SV.lit (Go.Value.bool
      Bool.false)], [Sx.SO.row (5 : Nat) (Sx.Ty.int Go.IntKind.u8) [c, d, e, f]], [])) (Q (Sx.SV.tup [Sx.SV.lit (Go.Value.bool Bool.true), Sx.SV.lit (Go.Value.bool Bool.true)],
      [Sx.SO.row (5 : Nat) (Sx.Ty.int Go.IntKind.u8) [c, d, e, f]], []))))))))))) (Sx.br (List.getD [c, d, e, f] (0 : Nat) (Sx.Ty.dflt (Sx.Ty.int Go.IntKind.u8)) == (244 : Int))
      (((0 : Int) ≤ (1 : Int) ∧ (1 : Int) < (↑(4 : Nat) : Int)) ∧ (1 : Nat) < (4 : Nat) ∧ Sx.br (Decidable.decide (List.getD [c, d, e, f] (1 : Nat) (Sx.Ty.dflt (Sx.Ty.int
      Go.IntKind.u8)) < (128 : Int))) (Q (Sx.SV.tup [Sx.SV.lit (Go.Value.bool Bool.false), Sx.SV.lit (Go.Value.bool Bool.false)], [Sx.SO.row (5 : Nat) (Sx.Ty.int Go.IntKind.u8)
      [c, d, e, f]], [])) (((0 : Int) ≤ (1 : Int) ∧ (1 : Int) < (↑(4 : Nat) : Int)) ∧ (1 : Nat) < (4 : Nat) ∧ Sx.br (Decidable.decide (List.getD [c, d, e, f] (1 : Nat)
      (Sx.Ty.dflt (Sx.Ty.int Go.IntKind.u8)) > (143 : Int))) (Q (Sx.SV.tup [Sx.SV.lit (Go.Value.bool Bool.false), Sx.SV.lit (Go.Value.bool Bool.false)], [Sx.SO.row (5 : Nat)
      (Sx.Ty.int Go.IntKind.u8) [c, d, e, f]], [])) (((0 : Int) ≤ (1 : Int) ∧ (1 : Int) < (↑(4 : Nat) : Int)) ∧ (1 : Nat) < (4 : Nat) ∧ Sx.br (Decidable.decide (List.getD [c, d,
      e, f] (1 : Nat) (Sx.Ty.dflt (Sx.Ty.int Go.IntKind.u8)) < (128 : Int))) (Q (Sx.SV.tup [Sx.SV.lit (Go.Value.bool Bool.false), Sx.SV.lit (Go.Value.bool Bool.false)],
      [Sx.SO.row (5 : Nat) (Sx.Ty.int Go.IntKind.u8) [c, d, e, f]], [])) (((0 : Int) ≤ (1 : Int) ∧ (1 : Int) < (↑(4 : Nat) : Int)) ∧ (1 : Nat) < (4 : Nat) ∧ Sx.br
      (Decidable.decide (List.getD [c, d, e, f] (1 : Nat) (Sx.Ty.dflt (Sx.Ty.int Go.IntKind.u8)) > (191 : Int))) (Q (Sx.SV.tup [Sx.SV.lit (Go.Value.bool Bool.false), Sx.SV.lit
      (Go.Value.bool Bool.false)], [Sx.SO.row (5 : Nat) (Sx.Ty.int Go.IntKind.u8) [c, d, e, f]], [])) (((0 : Int) ≤ Go.IntKind.wrap Go.IntKind.i64 ((1 : Int) + (1 : Int)) ∧
      Go.IntKind.wrap Go.IntKind.i64 ((1 : Int) + (1 : Int)) < (↑(4 : Nat) : Int)) ∧ (2 : Nat) < (4 : Nat) ∧ Sx.br (Decidable.decide (List.getD [c, d, e, f] (2 : Nat)
      (Sx.Ty.dflt (Sx.Ty.int Go.IntKind.u8)) < (128 : Int))) (Q (Sx.SV.tup [Sx.SV.lit (Go.Value.bool Bool.false), Sx.SV.lit (Go.Value.bool Bool.false)], [Sx.SO.row (5 : Nat)
      (Sx.Ty.int Go.IntKind.u8) [c, d, e, f]], [])) (((0 : Int) ≤ Go.IntKind.wrap Go.IntKind.i64 ((1 : Int) + (1 : Int)) ∧ Go.IntKind.wrap Go.IntKind.i64 ((1 : Int) + (1 : Int))
      < (↑(4 : Nat) : Int)) ∧ (2 : Nat) < (4 : Nat) ∧ Sx.br (Decidable.decide (List.getD [c, d, e, f] (2 : Nat) (Sx.Ty.dflt (Sx.Ty.int Go.IntKind.u8)) > (191 : Int))) (Q
      (Sx.SV.tup [Sx.SV.lit (Go.Value.bool Bool.false), Sx.SV.lit (Go.Value.bool Bool.false)], [Sx.SO.row (5 : Nat) (Sx.Ty.int Go.IntKind.u8) [c, d, e, f]], [])) (((0 : Int) ≤
      Go.IntKind.wrap Go.IntKind.i64 (Go.IntKind.wrap Go.IntKind.i64 ((1 : Int) + (1 : Int)) + (1 : Int)) ∧ Go.IntKind.wrap Go.IntKind.i64 (Go.IntKind.wrap Go.IntKind.i64 ((1 :
      Int) + (1 : Int)) + (1 : Int)) < (↑(4 : Nat) : Int)) ∧ (3 : Nat) < (4 : Nat) ∧ Sx.br (Decidable.decide (List.getD [c, d, e, f] (3 : Nat) (Sx.Ty.dflt (Sx.Ty.int
      Go.IntKind.u8)) < (128 : Int))) (Q (Sx.SV.tup [Sx.SV.lit (Go.Value.bool Bool.false), Sx.SV.lit (Go.Value.bool Bool.false)], [Sx.SO.row (5 : Nat) (Sx.Ty.int Go.IntKind.u8)
      [c, d, e, f]], [])) (((0 : Int) ≤ Go.IntKind.wrap Go.IntKind.i64 (Go.IntKind.wrap Go.IntKind.i64 ((1 : Int) + (1 : Int)) + (1 : Int)) ∧ Go.IntKind.wrap Go.IntKind.i64
      (Go.IntKind.wrap Go.IntKind.i64 ((1 : Int) + (1 : Int)) + (1 : Int)) < (↑(4 : Nat) : Int)) ∧ (3 : Nat) < (4 : Nat) ∧ Sx.br (Decidable.decide (List.getD [c, d, e, f] (3 :
      Nat) (Sx.Ty.dflt (Sx.Ty.int Go.IntKind.u8)) > (191 : Int))) (Q (Sx.SV.tup [Sx.SV.lit (Go.Value.bool Bool.false), Sx.SV.lit (Go.Value.bool Bool.false)], [Sx.SO.row (5 :
      Nat) (Sx.Ty.int Go.IntKind.u8) [c, d, e, f]], [])) (Q (Sx.SV.tup [Sx.SV.lit (Go.Value.bool Bool.true), Sx.SV.lit (Go.Value.bool Bool.true)], [Sx.SO.row (5 : Nat)
      (Sx.Ty.int Go.IntKind.u8) [c, d, e, f]], [])))))))))) (((0 : Int) ≤ (1 : Int) ∧ (1 : Int) < (↑(4 : Nat) : Int)) ∧ (1 : Nat) < (4 : Nat) ∧ Sx.br (Decidable.decide
      (List.getD [c, d, e, f] (1 : Nat) (Sx.Ty.dflt (Sx.Ty.int Go.IntKind.u8)) < (128 : Int))) (Q (Sx.SV.tup [Sx.SV.lit (Go.Value.bool Bool.false), Sx.SV.lit (Go.Value.bool
      Bool.false)], [Sx.SO.row (5 : Nat) (Sx.Ty.int Go.IntKind.u8) [c, d, e, f]], [])) (((0 : Int) ≤ (1 : Int) ∧ (1 : Int) < (↑(4 : Nat) : Int)) ∧ (1 : Nat) < (4 : Nat) ∧ Sx.br
      (Decidable.decide (List.getD [c, d, e, f] (1 : Nat) (Sx.Ty.dflt (Sx.Ty.int Go.IntKind.u8)) > (191 : Int))) (Q (Sx.SV.tup [Sx.SV.lit (Go.Value.bool Bool.false), Sx.SV.lit
      (Go.Value.bool Bool.false)], [Sx.SO.row (5 : Nat) (Sx.Ty.int Go.IntKind.u8) [c, d, e, f]], [])) (((0 : Int) ≤ (1 : Int) ∧ (1 : Int) < (↑(4 : Nat) : Int)) ∧ (1 : Nat) < (4
      : Nat) ∧ Sx.br (Decidable.decide (List.getD [c, d, e, f] (1 : Nat) (Sx.Ty.dflt (Sx.Ty.int Go.IntKind.u8)) < (128 : Int))) (Q (Sx.SV.tup [Sx.SV.lit (Go.Value.bool
      Bool.false), Sx.SV.lit (Go.Value.bool Bool.false)], [Sx.SO.row (5 : Nat) (Sx.Ty.int Go.IntKind.u8) [c, d, e, f]], [])) (((0 : Int) ≤ (1 : Int) ∧ (1 : Int) < (↑(4 : Nat) :
      Int)) ∧ (1 : Nat) < (4 : Nat) ∧ Sx.br (Decidable.decide (List.getD [c, d, e, f] (1 : Nat) (Sx.Ty.dflt (Sx.Ty.int Go.IntKind.u8)) > (191 : Int))) (Q (Sx.SV.tup [Sx.SV.lit
      (Go.Value.bool Bool.false), Sx.SV.lit (Go.Value.bool Bool.false)], [Sx.SO.row (5 : Nat) (Sx.Ty.int Go.IntKind.u8) [c, d, e, f]], [])) (((0 : Int) ≤ Go.IntKind.wrap
      Go.IntKind.i64 ((1 : Int) + (1 : Int)) ∧ Go.IntKind.wrap Go.IntKind.i64 ((1 : Int) + (1 : Int)) < (↑(4 : Nat) : Int)) ∧ (2 : Nat) < (4 : Nat) ∧ Sx.br (Decidable.decide
      (List.getD [c, d, e, f] (2 : Nat) (Sx.Ty.dflt (Sx.Ty.int Go.IntKind.u8)) < (128 : Int))) (Q (Sx.SV.tup [Sx.SV.lit (Go.Value.bool Bool.false), Sx.SV.lit (Go.Value.bool
      Bool.false)], [Sx.SO.row (5 : Nat) (Sx.Ty.int Go.IntKind.u8) [c, d, e, f]], [])) (((0 : Int) ≤ Go.IntKind.wrap Go.IntKind.i64 ((1 : Int) + (1 : Int)) ∧ Go.IntKind.wrap
      Go.IntKind.i64 ((1 : Int) + (1 : Int)) < (↑(4 : Nat) : Int)) ∧ (2 : Nat) < (4 : Nat) ∧ Sx.br (Decidable.decide (List.getD [c, d, e, f] (2 : Nat) (Sx.Ty.dflt (Sx.Ty.int
      Go.IntKind.u8)) > (191 : Int))) (Q (Sx.SV.tup [Sx.SV.lit (Go.Value.bool Bool.false), Sx.SV.lit (Go.Value.bool Bool.false)], [Sx.SO.row (5 : Nat) (Sx.Ty.int Go.IntKind.u8)
      [c, d, e, f]], [])) (((0 : Int) ≤ Go.IntKind.wrap Go.IntKind.i64 (Go.IntKind.wrap Go.IntKind.i64 ((1 : Int) + (1 : Int)) + (1 : Int)) ∧ Go.IntKind.wrap Go.IntKind.i64
      (Go.IntKind.wrap Go.IntKind.i64 ((1 : Int) + (1 : Int)) + (1 : Int)) < (↑(4 : Nat) : Int)) ∧ (3 : Nat) < (4 : Nat) ∧ Sx.br (Decidable.decide (List.getD [c, d, e, f] (3 :
      Nat) (Sx.Ty.dflt (Sx.Ty.int Go.IntKind.u8)) < (128 : Int))) (Q (Sx.SV.tup [Sx.SV.lit (Go.Value.bool Bool.false), Sx.SV.lit (Go.Value.bool Bool.false)], [Sx.SO.row (5 :
      Nat) (Sx.Ty.int Go.IntKind.u8) [c, d, e, f]], [])) (((0 : Int) ≤ Go.IntKind.wrap Go.IntKind.i64 (Go.IntKind.wrap Go.IntKind.i64 ((1 : Int) + (1 : Int)) + (1 : Int)) ∧
      Go.IntKind.wrap Go.IntKind.i64 (Go.IntKind.wrap Go.IntKind.i64 ((1 : Int) + (1 : Int)) + (1 : Int)) < (↑(4 : Nat) : Int)) ∧ (3 : Nat) < (4 : Nat) ∧ Sx.br (Decidable.decide
      (List.getD [c, d, e, f] (3 : Nat) (Sx.Ty.dflt (Sx.Ty.int Go.IntKind.u8)) > (191 : Int))) (Q (Sx.SV.tup [Sx.SV.lit (Go.Value.bool Bool.false), Sx.SV.lit (Go.Value.bool
      Bool.false)], [Sx.SO.row (5 : Nat) (Sx.Ty.int Go.IntKind.u8) [c, d, e, f]], [])) (Q (Sx.SV.tup [Sx.SV.lit (Go.Value.bool Bool.true), Sx.SV.lit (Go.Value.bool Bool.true)],
      [Sx.SO.row (5 : Nat) (Sx.Ty.int Go.IntKind.u8) [c, d, e, f]], [])))))))))))) (Q (Sx.SV.tup [Sx.SV.lit (Go.Value.bool Bool.false), Sx.SV.lit (Go.Value.bool Bool.false)],
      [Sx.SO.row (5 : Nat) (Sx.Ty.int Go.IntKind.u8) [c, d, e, f]], []))) (Q (Sx.SV.tup [Sx.SV.lit (Go.Value.bool Bool.false), Sx.SV.lit (Go.Value.bool Bool.false)], [Sx.SO.row
      (5 : Nat) (Sx.Ty.int Go.IntKind.u8) [c, d, e, f]], [])))) (Sx.br (Decidable.decide (List.getD [c, d, e, f] (0 : Nat) (Sx.Ty.dflt (Sx.Ty.int Go.IntKind.u8)) ≥ (240 : Int)))
      (Sx.br (Decidable.decide (List.getD [c, d, e, f] (0 : Nat) (Sx.Ty.dflt (Sx.Ty.int Go.IntKind.u8)) ≤ (244 : Int))) (Sx.br (List.getD [c, d, e, f] (0 : Nat) (Sx.Ty.dflt
      (Sx.Ty.int Go.IntKind.u8)) == (240 : Int)) (Sx.br (List.getD [c, d, e, f] (0 : Nat) (Sx.Ty.dflt (Sx.Ty.int Go.IntKind.u8)) == (244 : Int)) (((0 : Int) ≤ (1 : Int) ∧ (1 :
      Int) < (↑(4 : Nat) : Int)) ∧ (1 : Nat) < (4 : Nat) ∧ Sx.br (Decidable.decide (List.getD [c, d, e, f] (1 : Nat) (Sx.Ty.dflt (Sx.Ty.int Go.IntKind.u8)) < (144 : Int))) (Q
      (Sx.SV.tup [Sx.SV.lit (Go.Value.bool Bool.false), Sx.SV.lit (Go.Value.bool Bool.false)], [Sx.SO.row (5 : Nat) (Sx.Ty.int Go.IntKind.u8) [c, d, e, f]], [])) (((0 : Int) ≤
      (1 : Int) ∧ (1 : Int) < (↑(4 : Nat) : Int)) ∧ (1 : Nat) < (4 : Nat) ∧ Sx.br (Decidable.decide (List.getD [c, d, e, f] (1 : Nat) (Sx.Ty.dflt (Sx.Ty.int Go.IntKind.u8)) >
      (143 : Int))) (Q (Sx.SV.tup [Sx.SV.lit (Go.Value.bool Bool.false), Sx.SV.lit (Go.Value.bool Bool.false)], [Sx.SO.row (5 : Nat) (Sx.Ty.int Go.IntKind.u8) [c, d, e, f]],
      [])) (((0 : Int) ≤ (1 : Int) ∧ (1 : Int) < (↑(4 : Nat) : Int)) ∧ (1 : Nat) < (4 : Nat) ∧ Sx.br (Decidable.decide (List.getD [c, d, e, f] (1 : Nat) (Sx.Ty.dflt (Sx.Ty.int
      Go.IntKind.u8)) < (128 : Int))) (Q (Sx.SV.tup [Sx.SV.lit (Go.Value.bool Bool.false), Sx.SV.lit (Go.Value.bool Bool.false)], [Sx.SO.row (5 : Nat) (Sx.Ty.int Go.IntKind.u8)
      [c, d, e, f]], [])) (((0 : Int) ≤ (1 : Int) ∧ (1 : Int) < (↑(4 : Nat) : Int)) ∧ (1 : Nat) < (4 : Nat) ∧ Sx.br (Decidable.decide (List.getD [c, d, e, f] (1 : Nat)
      (Sx.Ty.dflt (Sx.Ty.int Go.IntKind.u8)) > (191 : Int))) (Q (Sx.SV.tup [Sx.SV.lit (Go.Value.bool Bool.false), Sx.SV.lit (Go.Value.bool Bool.false)], [Sx.SO.row (5 : Nat)
      (Sx.Ty.int Go.IntKind.u8) [c, d, e, f]], [])) (((0 : Int) ≤ Go.IntKind.wrap Go.IntKind.i64 ((1 : Int) + (1 : Int)) ∧ Go.IntKind.wrap Go.IntKind.i64 ((1 : Int) + (1 : Int))
      < (↑(4 : Nat) : Int)) ∧ (2 : Nat) < (4 : Nat) ∧ Sx.br (Decidable.decide (List.getD [c, d, e, f] (2 : Nat) (Sx.Ty.dflt (Sx.Ty.int Go.IntKind.u8)) < (128 : Int))) (Q
      (Sx.SV.tup [Sx.SV.lit (Go.Value.bool Bool.false), Sx.SV.lit (Go.Value.bool Bool.false)], [Sx.SO.row (5 : Nat) (Sx.Ty.int Go.IntKind.u8) [c, d, e, f]], [])) (((0 : Int) ≤
      Go.IntKind.wrap Go.IntKind.i64 ((1 : Int) + (1 : Int)) ∧ Go.IntKind.wrap Go.IntKind.i64 ((1 : Int) + (1 : Int)) < (↑(4 : Nat) : Int)) ∧ (2 : Nat) < (4 : Nat) ∧ Sx.br
      (Decidable.decide (List.getD [c, d, e, f] (2 : Nat) (Sx.Ty.dflt (Sx.Ty.int Go.IntKind.u8)) > (191 : Int))) (Q (Sx.SV.tup [Sx.SV.lit (Go.Value.bool Bool.false), Sx.SV.lit
      (Go.Value.bool Bool.false)], [Sx.SO.row (5 : Nat) (Sx.Ty.int Go.IntKind.u8) [c, d, e, f]], [])) (((0 : Int) ≤ Go.IntKind.wrap Go.IntKind.i64 (Go.IntKind.wrap
      Go.IntKind.i64 ((1 : Int) + (1 : Int)) + (1 : Int)) ∧ Go.IntKind.wrap Go.IntKind.i64 (Go.IntKind.wrap Go.IntKind.i64 ((1 : Int) + (1 : Int)) + (1 : Int)) < (↑(4 : Nat) :
      Int)) ∧ (3 : Nat) < (4 : Nat) ∧ Sx.br (Decidable.decide (List.getD [c, d, e, f] (3 : Nat) (Sx.Ty.dflt (Sx.Ty.int Go.IntKind.u8)) < (128 : Int))) (Q (Sx.SV.tup [Sx.SV.lit
      (Go.Value.bool Bool.false), Sx.SV.lit (Go.Value.bool Bool.false)], [Sx.SO.row (5 : Nat) (Sx.Ty.int Go.IntKind.u8) [c, d, e, f]], [])) (((0 : Int) ≤ Go.IntKind.wrap
      Go.IntKind.i64 (Go.IntKind.wrap Go.IntKind.i64 ((1 : Int) + (1 : Int)) + (1 : Int)) ∧ Go.IntKind.wrap Go.IntKind.i64 (Go.IntKind.wrap Go.IntKind.i64 ((1 : Int) + (1 :
      Int)) + (1 : Int)) < (↑(4 : Nat) : Int)) ∧ (3 : Nat) < (4 : Nat) ∧ Sx.br (Decidable.decide (List.getD [c, d, e, f] (3 : Nat) (Sx.Ty.dflt (Sx.Ty.int Go.IntKind.u8)) > (191
      : Int))) (Q (Sx.SV.tup [Sx.SV.lit (Go.Value.bool Bool.false), Sx.SV.lit (Go.Value.bool Bool.false)], [Sx.SO.row (5 : Nat) (Sx.Ty.int Go.IntKind.u8) [c, d, e, f]], [])) (Q
      (Sx.SV.tup [Sx.SV.lit (Go.Value.bool Bool.true), Sx.SV.lit (Go.Value.bool Bool.true)], [Sx.SO.row (5 : Nat) (Sx.Ty.int Go.IntKind.u8) [c, d, e, f]], [])))))))))) (((0 :
      Int) ≤ (1 : Int) ∧ (1 : Int) < (↑(4 : Nat) : Int)) ∧ (1 : Nat) < (4 : Nat) ∧ Sx.br (Decidable.decide (List.getD [c, d, e, f] (1 : Nat) (Sx.Ty.dflt (Sx.Ty.int
      Go.IntKind.u8)) < (144 : Int))) (Q (Sx.SV.tup [Sx.SV.lit (Go.Value.bool Bool.false), Sx.SV.lit (Go.Value.bool Bool.false)], [Sx.SO.row (5 : Nat) (Sx.Ty.int Go.IntKind.u8)
      [c, d, e, f]], [])) (((0 : Int) ≤ (1 : Int) ∧ (1 : Int) < (↑(4 : Nat) : Int)) ∧ (1 : Nat) < (4 : Nat) ∧ Sx.br (Decidable.decide (List.getD [c, d, e, f] (1 : Nat)
      (Sx.Ty.dflt (Sx.Ty.int Go.IntKind.u8)) > (191 : Int))) (Q (Sx.SV.tup [Sx.SV.lit (Go.Value.bool Bool.false), Sx.SV.lit (Go.Value.bool Bool.false)], [Sx.SO.row (5 : Nat)
      (Sx.Ty.int Go.IntKind.u8) [c, d, e, f]], [])) (((0 : Int) ≤ (1 : Int) ∧ (1 : Int) < (↑(4 : Nat) : Int)) ∧ (1 : Nat) < (4 : Nat) ∧ Sx.br (Decidable.decide (List.getD [c, d,
      e, f] (1 : Nat) (Sx.Ty.dflt (Sx.Ty.int Go.IntKind.u8)) < (128 : Int))) (Q (Sx.SV.tup [Sx.SV.lit (Go.Value.bool Bool.false), Sx.SV.lit (Go.Value.bool Bool.false)],
      [Sx.SO.row (5 : Nat) (Sx.Ty.int Go.IntKind.u8) [c, d, e, f]], [])) (((0 : Int) ≤ (1 : Int) ∧ (1 : Int) < (↑(4 : Nat) : Int)) ∧ (1 : Nat) < (4 : Nat) ∧ Sx.br
      (Decidable.decide (List.getD [c, d, e, f] (1 : Nat) (Sx.Ty.dflt (Sx.Ty.int Go.IntKind.u8)) > (191 : Int))) (Q (Sx.SV.tup [Sx.SV.lit (Go.Value.bool Bool.false), Sx.SV.lit
      (Go.Value.bool Bool.false)], [Sx.SO.row (5 : Nat) (Sx.Ty.int Go.IntKind.u8) [c, d, e, f]], [])) (((0 : Int) ≤ Go.IntKind.wrap Go.IntKind.i64 ((1 : Int) + (1 : Int)) ∧
      Go.IntKind.wrap Go.IntKind.i64 ((1 : Int) + (1 : Int)) < (↑(4 : Nat) : Int)) ∧ (2 : Nat) < (4 : Nat) ∧ Sx.br (Decidable.decide (List.getD [c, d, e, f] (2 : Nat)
      (Sx.Ty.dflt (Sx.Ty.int Go.IntKind.u8)) < (128 : Int))) (Q (Sx.SV.tup [Sx.SV.lit (Go.Value.bool Bool.false), Sx.SV.lit (Go.Value.bool Bool.false)], [Sx.SO.row (5 : Nat)
      (Sx.Ty.int Go.IntKind.u8) [c, d, e, f]], [])) (((0 : Int) ≤ Go.IntKind.wrap Go.IntKind.i64 ((1 : Int) + (1 : Int)) ∧ Go.IntKind.wrap Go.IntKind.i64 ((1 : Int) + (1 : Int))
      < (↑(4 : Nat) : Int)) ∧ (2 : Nat) < (4 : Nat) ∧ Sx.br (Decidable.decide (List.getD [c, d, e, f] (2 : Nat) (Sx.Ty.dflt (Sx.Ty.int Go.IntKind.u8)) > (191 : Int))) (Q
      (Sx.SV.tup [Sx.SV.lit (Go.Value.bool Bool.false), Sx.SV.lit (Go.Value.bool Bool.false)], [Sx.SO.row (5 : Nat) (Sx.Ty.int Go.IntKind.u8) [c, d, e, f]], [])) (((0 : Int) ≤
      Go.IntKind.wrap Go.IntKind.i64 (Go.IntKind.wrap Go.IntKind.i64 ((1 : Int) + (1 : Int)) + (1 : Int)) ∧ Go.IntKind.wrap Go.IntKind.i64 (Go.IntKind.wrap Go.IntKind.i64 ((1 :
      Int) + (1 : Int)) + (1 : Int)) < (↑(4 : Nat) : Int)) ∧ (3 : Nat) < (4 : Nat) ∧ Sx.br (Decidable.decide (List.getD [c, d, e, f] (3 : Nat) (Sx.Ty.dflt (Sx.Ty.int
      Go.IntKind.u8)) < (128 : Int))) (Q (Sx.SV.tup [Sx.SV.lit (Go.Value.bool Bool.false), Sx.SV.lit (Go.Value.bool Bool.false)], [Sx.SO.row (5 : Nat) (Sx.Ty.int Go.IntKind.u8)
      [c, d, e, f]], [])) (((0 : Int) ≤ Go.IntKind.wrap Go.IntKind.i64 (Go.IntKind.wrap Go.IntKind.i64 ((1 : Int) + (1 : Int)) + (1 : Int)) ∧ Go.IntKind.wrap Go.IntKind.i64
      (Go.IntKind.wrap Go.IntKind.i64 ((1 : Int) + (1 : Int)) + (1 : Int)) < (↑(4 : Nat) : Int)) ∧ (3 : Nat) < (4 : Nat) ∧ Sx.br (Decidable.decide (List.getD [c, d, e, f] (3 :
      Nat) (Sx.Ty.dflt (Sx.Ty.int Go.IntKind.u8)) > (191 : Int))) (Q (Sx.SV.tup [Sx.SV.lit (Go.Value.bool Bool.false), Sx.SV.lit (Go.Value.bool Bool.false)], [Sx.SO.row (5 :
      Nat) (Sx.Ty.int Go.IntKind.u8) [c, d, e, f]], [])) (Q (Sx.SV.tup [Sx.SV.lit (Go.Value.bool Bool.true), Sx.SV.lit (Go.Value.bool Bool.true)], [Sx.SO.row (5 : Nat)
      (Sx.Ty.int Go.IntKind.u8) [c, d, e, f]], []))))))))))) (Sx.br (List.getD [c, d, e, f] (0 : Nat) (Sx.Ty.dflt (Sx.Ty.int Go.IntKind.u8)) == (244 : Int)) (((0 : Int) ≤ (1 :
      Int) ∧ (1 : Int) < (↑(4 : Nat) : Int)) ∧ (1 : Nat) < (4 : Nat) ∧ Sx.br (Decidable.decide (List.getD [c, d, e, f] (1 : Nat) (Sx.Ty.dflt (Sx.Ty.int Go.IntKind.u8)) < (128 :
      Int))) (Q (Sx.SV.tup [Sx.SV.lit (Go.Value.bool Bool.false), Sx.SV.lit (Go.Value.bool Bool.false)], [Sx.SO.row (5 : Nat) (Sx.Ty.int Go.IntKind.u8) [c, d, e, f]], [])) (((0
      : Int) ≤ (1 : Int) ∧ (1 : Int) < (↑(4 : Nat) : Int)) ∧ (1 : Nat) < (4 : Nat) ∧ Sx.br (Decidable.decide (List.getD [c, d, e, f] (1 : Nat) (Sx.Ty.dflt (Sx.Ty.int
      Go.IntKind.u8)) > (143 : Int))) (Q (Sx.SV.tup [Sx.SV.lit (Go.Value.bool Bool.false), Sx.SV.lit (Go.Value.bool Bool.false)], [Sx.SO.row (5 : Nat) (Sx.Ty.int Go.IntKind.u8)
      [c, d, e, f]], [])) (((0 : Int) ≤ (1 : Int) ∧ (1 : Int) < (↑(4 : Nat) : Int)) ∧ (1 : Nat) < (4 : Nat) ∧ Sx.br (Decidable.decide (List.getD [c, d, e, f] (1 : Nat)
      (Sx.Ty.dflt (Sx.Ty.int Go.IntKind.u8)) < (128 : Int))) (Q (Sx.SV.tup [Sx.SV.lit (Go.Value.bool Bool.false), Sx.SV.lit (Go.Value.bool Bool.false)], [Sx.SO.row (5 : Nat)
      (Sx.Ty.int Go.IntKind.u8) [c, d, e, f]], [])) (((0 : Int) ≤ (1 : Int) ∧ (1 : Int) < (↑(4 : Nat) : Int)) ∧ (1 : Nat) < (4 : Nat) ∧ Sx.br (Decidable.decide (List.getD [c, d,
      e, f] (1 : Nat) (Sx.Ty.dflt (Sx.Ty.int Go.IntKind.u8)) > (191 : Int))) (Q (Sx.SV.tup [Sx.SV.lit (Go.Value.bool Bool.false), Sx.SV.lit (Go.Value.bool Bool.false)],
      [Sx.SO.row (5 : Nat) (Sx.Ty.int Go.IntKind.u8) [c, d, e, f]], [])) (((0 : Int) ≤ Go.IntKind.wrap Go.IntKind.i64 ((1 : Int) + (1 : Int)) ∧ Go.IntKind.wrap Go.IntKind.i64
      ((1 : Int) + (1 : Int)) < (↑(4 : Nat) : Int)) ∧ (2 : Nat) < (4 : Nat) ∧ Sx.br (Decidable.decide (List.getD [c, d, e, f] (2 : Nat) (Sx.Ty.dflt (Sx.Ty.int Go.IntKind.u8)) <
      (128 : Int))) (Q (Sx.SV.tup [Sx.SV.lit (Go.Value.bool Bool.false), Sx.SV.lit (Go.Value.bool Bool.false)], [Sx.SO.row (5 : Nat) (Sx.Ty.int Go.IntKind.u8) [c, d, e, f]],
      [])) (((0 : Int) ≤ Go.IntKind.wrap Go.IntKind.i64 ((1 : Int) + (1 : Int)) ∧ Go.IntKind.wrap Go.IntKind.i64 ((1 : Int) + (1 : Int)) < (↑(4 : Nat) : Int)) ∧ (2 : Nat) < (4 :
      Nat) ∧ Sx.br (Decidable.decide (List.getD [c, d, e, f] (2 : Nat) (Sx.Ty.dflt (Sx.Ty.int Go.IntKind.u8)) > (191 : Int))) (Q (Sx.SV.tup [Sx.SV.lit (Go.Value.bool
      Bool.false), Sx.SV.lit (Go.Value.bool Bool.false)], [Sx.SO.row (5 : Nat) (Sx.Ty.int Go.IntKind.u8) [c, d, e, f]], [])) (((0 : Int) ≤ Go.IntKind.wrap Go.IntKind.i64
      (Go.IntKind.wrap Go.IntKind.i64 ((1 : Int) + (1 : Int)) + (1 : Int)) ∧ Go.IntKind.wrap Go.IntKind.i64 (Go.IntKind.wrap Go.IntKind.i64 ((1 : Int) + (1 : Int)) + (1 : Int))
      < (↑(4 : Nat) : Int)) ∧ (3 : Nat) < (4 : Nat) ∧ Sx.br (Decidable.decide (List.getD [c, d, e, f] (3 : Nat) (Sx.Ty.dflt (Sx.Ty.int Go.IntKind.u8)) < (128 : Int))) (Q
      (Sx.SV.tup [Sx.SV.lit (Go.Value.bool Bool.false), Sx.SV.lit (Go.Value.bool Bool.false)], [Sx.SO.row (5 : Nat) (Sx.Ty.int Go.IntKind.u8) [c, d, e, f]], [])) (((0 : Int) ≤
      Go.IntKind.wrap Go.IntKind.i64 (Go.IntKind.wrap Go.IntKind.i64 ((1 : Int) + (1 : Int)) + (1 : Int)) ∧ Go.IntKind.wrap Go.IntKind.i64 (Go.IntKind.wrap Go.IntKind.i64 ((1 :
      Int) + (1 : Int)) + (1 : Int)) < (↑(4 : Nat) : Int)) ∧ (3 : Nat) < (4 : Nat) ∧ Sx.br (Decidable.decide (List.getD [c, d, e, f] (3 : Nat) (Sx.Ty.dflt (Sx.Ty.int
      Go.IntKind.u8)) > (191 : Int))) (Q (Sx.SV.tup [Sx.SV.lit (Go.Value.bool Bool.false), Sx.SV.lit (Go.Value.bool Bool.false)], [Sx.SO.row (5 : Nat) (Sx.Ty.int Go.IntKind.u8)
      [c, d, e, f]], [])) (Q (Sx.SV.tup [Sx.SV.lit (Go.Value.bool Bool.true), Sx.SV.lit (Go.Value.bool Bool.true)], [Sx.SO.row (5 : Nat) (Sx.Ty.int Go.IntKind.u8) [c, d, e, f]],
      [])))))))))) (((0 : Int) ≤ (1 : Int) ∧ (1 : Int) < (↑(4 : Nat) : Int)) ∧ (1 : Nat) < (4 : Nat) ∧ Sx.br (Decidable.decide (List.getD [c, d, e, f] (1 : Nat) (Sx.Ty.dflt
      (Sx.Ty.int Go.IntKind.u8)) < (128 : Int))) (Q (Sx.SV.tup [Sx.SV.lit (Go.Value.bool Bool.false), Sx.SV.lit (Go.Value.bool Bool.false)], [Sx.SO.row (5 : Nat) (Sx.Ty.int
      Go.IntKind.u8) [c, d, e, f]], [])) (((0 : Int) ≤ (1 : Int) ∧ (1 : Int) < (↑(4 : Nat) : Int)) ∧ (1 : Nat) < (4 : Nat) ∧ Sx.br (Decidable.decide (List.getD [c, d, e, f] (1 :
      Nat) (Sx.Ty.dflt (Sx.Ty.int Go.IntKind.u8)) > (191 : Int))) (Q (Sx.SV.tup [Sx.SV.lit (Go.Value.bool Bool.false), Sx.SV.lit (Go.Value.bool Bool.false)], [Sx.SO.row (5 :
      Nat) (Sx.Ty.int Go.IntKind.u8) [c, d, e, f]], [])) (((0 : Int) ≤ (1 : Int) ∧ (1 : Int) < (↑(4 : Nat) : Int)) ∧ (1 : Nat) < (4 : Nat) ∧ Sx.br (Decidable.decide (List.getD
      [c, d, e, f] (1 : Nat) (Sx.Ty.dflt (Sx.Ty.int Go.IntKind.u8)) < (128 : Int))) (Q (Sx.SV.tup [Sx.SV.lit (Go.Value.bool Bool.false), Sx.SV.lit (Go.Value.bool Bool.false)],
      [Sx.SO.row (5 : Nat) (Sx.Ty.int Go.IntKind.u8) [c, d, e, f]], [])) (((0 : Int) ≤ (1 : Int) ∧ (1 : Int) < (↑(4 : Nat) : Int)) ∧ (1 : Nat) < (4 : Nat) ∧ Sx.br
      (Decidable.decide (List.getD [c, d, e, f] (1 : Nat) (Sx.Ty.dflt (Sx.Ty.int Go.IntKind.u8)) > (191 : Int))) (Q (Sx.SV.tup [Sx.SV.lit (Go.Value.bool Bool.false), Sx.SV.lit
      (Go.Value.bool Bool.false)], [Sx.SO.row (5 : Nat) (Sx.Ty.int Go.IntKind.u8) [c, d, e, f]], [])) (((0 : Int) ≤ Go.IntKind.wrap Go.IntKind.i64 ((1 : Int) + (1 : Int)) ∧
      Go.IntKind.wrap Go.IntKind.i64 ((1 : Int) + (1 : Int)) < (↑(4 : Nat) : Int)) ∧ (2 : Nat) < (4 : Nat) ∧ Sx.br (Decidable.decide (List.getD [c, d, e, f] (2 : Nat)
      (Sx.Ty.dflt (Sx.Ty.int Go.IntKind.u8)) < (128 : Int))) (Q (Sx.SV.tup [Sx.SV.lit (Go.Value.bool Bool.false), Sx.SV.lit (Go.Value.bool Bool.false)], [Sx.SO.row (5 : Nat)
      (Sx.Ty.int Go.IntKind.u8) [c, d, e, f]], [])) (((0 : Int) ≤ Go.IntKind.wrap Go.IntKind.i64 ((1 : Int) + (1 : Int)) ∧ Go.IntKind.wrap Go.IntKind.i64 ((1 : Int) + (1 : Int))
      < (↑(4 : Nat) : Int)) ∧ (2 : Nat) < (4 : Nat) ∧ Sx.br (Decidable.decide (List.getD [c, d, e, f] (2 : Nat) (Sx.Ty.dflt (Sx.Ty.int Go.IntKind.u8)) > (191 : Int))) (Q
      (Sx.SV.tup [Sx.SV.lit (Go.Value.bool Bool.false), Sx.SV.lit (Go.Value.bool Bool.false)], [Sx.SO.row (5 : Nat) (Sx.Ty.int Go.IntKind.u8) [c, d, e, f]], [])) (((0 : Int) ≤
      Go.IntKind.wrap Go.IntKind.i64 (Go.IntKind.wrap Go.IntKind.i64 ((1 : Int) + (1 : Int)) + (1 : Int)) ∧ Go.IntKind.wrap Go.IntKind.i64 (Go.IntKind.wrap Go.IntKind.i64 ((1 :
      Int) + (1 : Int)) + (1 : Int)) < (↑(4 : Nat) : Int)) ∧ (3 : Nat) < (4 : Nat) ∧ Sx.br (Decidable.decide (List.getD [c, d, e, f] (3 : Nat) (Sx.Ty.dflt (Sx.Ty.int
      Go.IntKind.u8)) < (128 : Int))) (Q (Sx.SV.tup [Sx.SV.lit (Go.Value.bool Bool.false), Sx.SV.lit (Go.Value.bool Bool.false)], [Sx.SO.row (5 : Nat) (Sx.Ty.int Go.IntKind.u8)
      [c, d, e, f]], [])) (((0 : Int) ≤ Go.IntKind.wrap Go.IntKind.i64 (Go.IntKind.wrap Go.IntKind.i64 ((1 : Int) + (1 : Int)) + (1 : Int)) ∧ Go.IntKind.wrap Go.IntKind.i64
      (Go.IntKind.wrap Go.IntKind.i64 ((1 : Int) + (1 : Int)) + (1 : Int)) < (↑(4 : Nat) : Int)) ∧ (3 : Nat) < (4 : Nat) ∧ Sx.br (Decidable.decide (List.getD [c, d, e, f] (3 :
      Nat) (Sx.Ty.dflt (Sx.Ty.int Go.IntKind.u8)) > (191 : Int))) (Q (Sx.SV.tup [Sx.SV.lit (Go.Value.bool Bool.false), Sx.SV.lit (Go.Value.bool Bool.false)], [Sx.SO.row (5 :
      Nat) (Sx.Ty.int Go.IntKind.u8) [c, d, e, f]], [])) (Q (Sx.SV.tup [Sx.SV.lit (Go.Value.bool Bool.true), Sx.SV.lit (Go.Value.bool Bool.true)], [Sx.SO.row (5 : Nat)
      (Sx.Ty.int Go.IntKind.u8) [c, d, e, f]], [])))))))))))) (Q (Sx.SV.tup [Sx.SV.lit (Go.Value.bool Bool.false), Sx.SV.lit (Go.Value.bool Bool.false)], [Sx.SO.row (5 : Nat)
      (Sx.Ty.int Go.IntKind.u8) [c, d, e, f]], []))) (Q (Sx.SV.tup [Sx.SV.lit (Go.Value.bool Bool.false), Sx.SV.lit (Go.Value.bool Bool.false)], [Sx.SO.row (5 : Nat) (Sx.Ty.int
      Go.IntKind.u8) [c, d, e, f]], []))))) (Sx.br (Decidable.decide (List.getD [c, d, e, f] (0 : Nat) (Sx.Ty.dflt (Sx.Ty.int Go.IntKind.u8)) ≥ (224 : Int))) (Sx.br
      (Decidable.decide (List.getD [c, d, e, f] (0 : Nat) (Sx.Ty.dflt (Sx.Ty.int Go.IntKind.u8)) ≤ (239 : Int))) (Sx.br (List.getD [c, d, e, f] (0 : Nat) (Sx.Ty.dflt (Sx.Ty.int
      Go.IntKind.u8)) == (224 : Int)) (Sx.br (List.getD [c, d, e, f] (0 : Nat) (Sx.Ty.dflt (Sx.Ty.int Go.IntKind.u8)) == (237 : Int)) (((0 : Int) ≤ (1 : Int) ∧ (1 : Int) < (↑(4
      : Nat) : Int)) ∧ (1 : Nat) < (4 : Nat) ∧ Sx.br (Decidable.decide (List.getD [c, d, e, f] (1 : Nat) (Sx.Ty.dflt (Sx.Ty.int Go.IntKind.u8)) < (160 : Int))) (Q (Sx.SV.tup
      [Sx.SV.lit (Go.Value.bool Bool.false), Sx.SV.lit (Go.Value.bool Bool.false)], [Sx.SO.row (5 : Nat) (Sx.Ty.int Go.IntKind.u8) [c, d, e, f]], [])) (((0 : Int) ≤ (1 : Int) ∧
      (1 : Int) < (↑(4 : Nat) : Int)) ∧ (1 : Nat) < (4 : Nat) ∧ Sx.br (Decidable.decide (List.getD [c, d, e, f] (1 : Nat) (Sx.Ty.dflt (Sx.Ty.int Go.IntKind.u8)) > (159 : Int)))
      (Q (Sx.SV.tup [Sx.SV.lit (Go.Value.bool Bool.false), Sx.SV.lit (Go.Value.bool Bool.false)], [Sx.SO.row (5 : Nat) (Sx.Ty.int Go.IntKind.u8) [c, d, e, f]], [])) (((0 : Int)
      ≤ (1 : Int) ∧ (1 : Int) < (↑(4 : Nat) : Int)) ∧ (1 : Nat) < (4 : Nat) ∧ Sx.br (Decidable.decide (List.getD [c, d, e, f] (1 : Nat) (Sx.Ty.dflt (Sx.Ty.int Go.IntKind.u8)) <
      (128 : Int))) (Q (Sx.SV.tup [Sx.SV.lit (Go.Value.bool Bool.false), Sx.SV.lit (Go.Value.bool Bool.false)], [Sx.SO.row (5 : Nat) (Sx.Ty.int Go.IntKind.u8) [c, d, e, f]],
      [])) (((0 : Int) ≤ (1 : Int) ∧ (1 : Int) < (↑(4 : Nat) : Int)) ∧ (1 : Nat) < (4 : Nat) ∧ Sx.br (Decidable.decide (List.getD [c, d, e, f] (1 : Nat) (Sx.Ty.dflt (Sx.Ty.int
      Go.IntKind.u8)) > (191 : Int))) (Q (Sx.SV.tup [Sx.SV.lit (Go.Value.bool Bool.false), Sx.SV.lit (Go.Value.bool Bool.false)], [Sx.SO.row (5 : Nat) (Sx.Ty.int Go.IntKind.u8)
      [c, d, e, f]], [])) (((0 : Int) ≤ Go.IntKind.wrap Go.IntKind.i64 ((1 : Int) + (1 : Int)) ∧ Go.IntKind.wrap Go.IntKind.i64 ((1 : Int) + (1 : Int)) < (↑(4 : Nat) : Int)) ∧
      (2 : Nat) < (4 : Nat) ∧ Sx.br (Decidable.decide (List.getD [c, d, e, f] (2 : Nat) (Sx.Ty.dflt (Sx.Ty.int Go.IntKind.u8)) < (128 : Int))) (Q (Sx.SV.tup [Sx.SV.lit
      (Go.Value.bool Bool.false), Sx.SV.lit (Go.Value.bool Bool.false)], [Sx.SO.row (5 : Nat) (Sx.Ty.int Go.IntKind.u8) [c, d, e, f]], [])) (((0 : Int) ≤ Go.IntKind.wrap
      Go.IntKind.i64 ((1 : Int) + (1 : Int)) ∧ Go.IntKind.wrap Go.IntKind.i64 ((1 : Int) + (1 : Int)) < (↑(4 : Nat) : Int)) ∧ (2 : Nat) < (4 : Nat) ∧ Sx.br (Decidable.decide
      (List.getD [c, d, e, f] (2 : Nat) (Sx.Ty.dflt (Sx.Ty.int Go.IntKind.u8)) > (191 : Int))) (Q (Sx.SV.tup [Sx.SV.lit (Go.Value.bool Bool.false), Sx.SV.lit (Go.Value.bool
      Bool.false)], [Sx.SO.row (5 : Nat) (Sx.Ty.int Go.IntKind.u8) [c, d, e, f]], [])) (((0 : Int) ≤ Go.IntKind.wrap Go.IntKind.i64 (Go.IntKind.wrap Go.IntKind.i64 ((1 : Int) +
      (1 : Int)) + (1 : Int)) ∧ Go.IntKind.wrap Go.IntKind.i64 (Go.IntKind.wrap Go.IntKind.i64 ((1 : Int) + (1 : Int)) + (1 : Int)) < (↑(4 : Nat) : Int)) ∧ (3 : Nat) < (4 : Nat)
      ∧ Sx.br (Decidable.decide (List.getD [c, d, e, f] (3 : Nat) (Sx.Ty.dflt (Sx.Ty.int Go.IntKind.u8)) < (128 : Int))) (Q (Sx.SV.tup [Sx.SV.lit (Go.Value.bool Bool.false),
      Sx.SV.lit (Go.Value.bool Bool.false)], [Sx.SO.row (5 : Nat) (Sx.Ty.int Go.IntKind.u8) [c, d, e, f]], [])) (((0 : Int) ≤ Go.IntKind.wrap Go.IntKind.i64 (Go.IntKind.wrap
      Go.IntKind.i64 ((1 : Int) + (1 : Int)) + (1 : Int)) ∧ Go.IntKind.wrap Go.IntKind.i64 (Go.IntKind.wrap Go.IntKind.i64 ((1 : Int) + (1 : Int)) + (1 : Int)) < (↑(4 : Nat) :
      Int)) ∧ (3 : Nat) < (4 : Nat) ∧ Sx.br (Decidable.decide (List.getD [c, d, e, f] (3 : Nat) (Sx.Ty.dflt (Sx.Ty.int Go.IntKind.u8)) > (191 : Int))) (Q (Sx.SV.tup [Sx.SV.lit
      (Go.Value.bool Bool.false), Sx.SV.lit (Go.Value.bool Bool.false)], [Sx.SO.row (5 : Nat) (Sx.Ty.int Go.IntKind.u8) [c, d, e, f]], [])) (Q (Sx.SV.tup [Sx.SV.lit
      (Go.Value.bool Bool.true), Sx.SV.lit (Go.Value.bool Bool.false)], [Sx.SO.row (5 : Nat) (Sx.Ty.int Go.IntKind.u8) [c, d, e, f]], [])))))))))) (((0 : Int) ≤ (1 : Int) ∧ (1 :
      Int) < (↑(4 : Nat) : Int)) ∧ (1 : Nat) < (4 : Nat) ∧ Sx.br (Decidable.decide (List.getD [c, d, e, f] (1 : Nat) (Sx.Ty.dflt (Sx.Ty.int Go.IntKind.u8)) < (160 : Int))) (Q
      (Sx.SV.tup [Sx.SV.lit (Go.Value.bool Bool.false), Sx.SV.lit (Go.Value.bool Bool.false)], [Sx.SO.row (5 : Nat) (Sx.Ty.int Go.IntKind.u8) [c, d, e, f]], [])) (((0 : Int) ≤
      (1 : Int) ∧ (1 : Int) < (↑(4 : Nat) : Int)) ∧ (1 : Nat) < (4 : Nat) ∧ Sx.br (Decidable.decide (List.getD [c, d, e, f] (1 : Nat) (Sx.Ty.dflt (Sx.Ty.int Go.IntKind.u8)) >
      (191 : Int))) (Q (Sx.SV.tup [Sx.SV.lit (Go.Value.bool Bool.false), Sx.SV.lit (Go.Value.bool Bool.false)], [Sx.SO.row (5 : Nat) (Sx.Ty.int Go.IntKind.u8) [c, d, e, f]],
      [])) (((0 : Int) ≤ (1 : Int) ∧ (1 : Int) < (↑(4 : Nat) : Int)) ∧ (1 : Nat) < (4 : Nat) ∧ Sx.br (Decidable.decide (List.getD [c, d, e, f] (1 : Nat) (Sx.Ty.dflt (Sx.Ty.int
      Go.IntKind.u8)) < (128 : Int))) (Q (Sx.SV.tup [Sx.SV.lit (Go.Value.bool Bool.false), Sx.SV.lit (Go.Value.bool Bool.false)], [Sx.SO.row (5 : Nat) (Sx.Ty.int Go.IntKind.u8)
      [c, d, e, f]], [])) (((0 : Int) ≤ (1 : Int) ∧ (1 : Int) < (↑(4 : Nat) : Int)) ∧ (1 : Nat) < (4 : Nat) ∧ Sx.br (Decidable.decide (List.getD [c, d, e, f] (1 : Nat)
      (Sx.Ty.dflt (Sx.Ty.int Go.IntKind.u8)) > (191 : Int))) (Q (Sx.SV.tup [Sx.SV.lit (Go.Value.bool Bool.false), Sx.SV.lit (Go.Value.bool Bool.false)], [Sx.SO.row (5 : Nat)
      (Sx.Ty.int Go.IntKind.u8) [c, d, e, f]], [])) (((0 : Int) ≤ Go.IntKind.wrap Go.IntKind.i64 ((1 : Int) + (1 : Int)) ∧ Go.IntKind.wrap Go.IntKind.i64 ((1 : Int) + (1 : Int))
      < (↑(4 : Nat) : Int)) ∧ (2 : Nat) < (4 : Nat) ∧ Sx.br (Decidable.decide (List.getD [c, d, e, f] (2 : Nat) (Sx.Ty.dflt (Sx.Ty.int Go.IntKind.u8)) < (128 : Int))) (Q
      (Sx.SV.tup [Sx.SV.lit (Go.Value.bool Bool.false), Sx.SV.lit (Go.Value.bool Bool.false)], [Sx.SO.row (5 : Nat) (Sx.Ty.int Go.IntKind.u8) [c, d, e, f]], [])) (((0 : Int) ≤
      Go.IntKind.wrap Go.IntKind.i64 ((1 : Int) + (1 : Int)) ∧ Go.IntKind.wrap Go.IntKind.i64 ((1 : Int) + (1 : Int)) < (↑(4 : Nat) : Int)) ∧ (2 : Nat) < (4 : Nat) ∧ Sx.br
      (Decidable.decide (List.getD [c, d, e, f] (2 : Nat) (Sx.Ty.dflt (Sx.Ty.int Go.IntKind.u8)) > (191 : Int))) (Q (Sx.SV.tup [Sx.SV.lit (Go.Value.bool Bool.false), Sx.SV.lit
      (Go.Value.bool Bool.false)], [Sx.SO.row (5 : Nat) (Sx.Ty.int Go.IntKind.u8) [c, d, e, f]], [])) (((0 : Int) ≤ Go.IntKind.wrap Go.IntKind.i64 (Go.IntKind.wrap
      Go.IntKind.i64 ((1 : Int) + (1 : Int)) + (1 : Int)) ∧ Go.IntKind.wrap Go.IntKind.i64 (Go.IntKind.wrap Go.IntKind.i64 ((1 : Int) + (1 : Int)) + (1 : Int)) < (↑(4 : Nat) :
      Int)) ∧ (3 : Nat) < (4 : Nat) ∧ Sx.br (Decidable.decide (List.getD [c, d, e, f] (3 : Nat) (Sx.Ty.dflt (Sx.Ty.int Go.IntKind.u8)) < (128 : Int))) (Q (Sx.SV.tup [Sx.SV.lit
      (Go.Value.bool Bool.false), Sx.SV.lit (Go.Value.bool Bool.false)], [Sx.SO.row (5 : Nat) (Sx.Ty.int Go.IntKind.u8) [c, d, e, f]], [])) (((0 : Int) ≤ Go.IntKind.wrap
      Go.IntKind.i64 (Go.IntKind.wrap Go.IntKind.i64 ((1 : Int) + (1 : Int)) + (1 : Int)) ∧ Go.IntKind.wrap Go.IntKind.i64 (Go.IntKind.wrap Go.IntKind.i64 ((1 : Int) + (1 :
      Int)) + (1 : Int)) < (↑(4 : Nat) : Int)) ∧ (3 : Nat) < (4 : Nat) ∧ Sx.br (Decidable.decide (List.getD [c, d, e, f] (3 : Nat) (Sx.Ty.dflt (Sx.Ty.int Go.IntKind.u8)) > (191
      : Int))) (Q (Sx.SV.tup [Sx.SV.lit (Go.Value.bool Bool.false), Sx.SV.lit (Go.Value.bool Bool.false)], [Sx.SO.row (5 : Nat) (Sx.Ty.int Go.IntKind.u8) [c, d, e, f]], [])) (Q
      (Sx.SV.tup [Sx.SV.lit (Go.Value.bool Bool.true), Sx.SV.lit (Go.Value.bool Bool.false)], [Sx.SO.row (5 : Nat) (Sx.Ty.int Go.IntKind.u8) [c, d, e, f]], []))))))))))) (Sx.br
      (List.getD [c, d, e, f] (0 : Nat) (Sx.Ty.dflt (Sx.Ty.int Go.IntKind.u8)) == (237 : Int)) (((0 : Int) ≤ (1 : Int) ∧ (1 : Int) < (↑(4 : Nat) : Int)) ∧ (1 : Nat) < (4 : Nat)
      ∧ Sx.br (Decidable.decide (List.getD [c, d, e, f] (1 : Nat) (Sx.Ty.dflt (Sx.Ty.int Go.IntKind.u8)) < (128 : Int))) (Q (Sx.SV.tup [Sx.SV.lit (Go.Value.bool Bool.false),
      Sx.SV.lit (Go.Value.bool Bool.false)], [Sx.SO.row (5 : Nat) (Sx.Ty.int Go.IntKind.u8) [c, d, e, f]], [])) (((0 : Int) ≤ (1 : Int) ∧ (1 : Int) < (↑(4 : Nat) : Int)) ∧ (1 :
      Nat) < (4 : Nat) ∧ Sx.br (Decidable.decide (List.getD [c, d, e, f] (1 : Nat) (Sx.Ty.dflt (Sx.Ty.int Go.IntKind.u8)) > (159 : Int))) (Q (Sx.SV.tup [Sx.SV.lit (Go.Value.bool
      Bool.false), Sx.SV.lit (Go.Value.bool Bool.false)], [Sx.SO.row (5 : Nat) (Sx.Ty.int Go.IntKind.u8) [c, d, e, f]], [])) (((0 : Int) ≤ (1 : Int) ∧ (1 : Int) < (↑(4 : Nat) :
      Int)) ∧ (1 : Nat) < (4 : Nat) ∧ Sx.br (Decidable.decide (List.getD [c, d, e, f] (1 : Nat) (Sx.Ty.dflt (Sx.Ty.int Go.IntKind.u8)) < (128 : Int))) (Q (Sx.SV.tup [Sx.SV.lit
      (Go.Value.bool Bool.false), Sx.SV.lit (Go.Value.bool Bool.false)], [Sx.SO.row (5 : Nat) (Sx.Ty.int Go.IntKind.u8) [c, d, e, f]], [])) (((0 : Int) ≤ (1 : Int) ∧ (1 : Int) <
      (↑(4 : Nat) : Int)) ∧ (1 : Nat) < (4 : Nat) ∧ Sx.br (Decidable.decide (List.getD [c, d, e, f] (1 : Nat) (Sx.Ty.dflt (Sx.Ty.int Go.IntKind.u8)) > (191 : Int))) (Q
      (Sx.SV.tup [Sx.SV.lit (Go.Value.bool Bool.false), Sx.SV.lit (Go.Value.bool Bool.false)], [Sx.SO.row (5 : Nat) (Sx.Ty.int Go.IntKind.u8) [c, d, e, f]], [])) (((0 : Int) ≤
      Go.IntKind.wrap Go.IntKind.i64 ((1 : Int) + (1 : Int)) ∧ Go.IntKind.wrap Go.IntKind.i64 ((1 : Int) + (1 : Int)) < (↑(4 : Nat) : Int)) ∧ (2 : Nat) < (4 : Nat) ∧ Sx.br
      (Decidable.decide (List.getD [c, d, e, f] (2 : Nat) (Sx.Ty.dflt (Sx.Ty.int Go.IntKind.u8)) < (128 : Int))) (Q (Sx.SV.tup [Sx.SV.lit (Go.Value.bool Bool.false), Sx.SV.lit
      (Go.Value.bool Bool.false)], [Sx.SO.row (5 : Nat) (Sx.Ty.int Go.IntKind.u8) [c, d, e, f]], [])) (((0 : Int) ≤ Go.IntKind.wrap Go.IntKind.i64 ((1 : Int) + (1 : Int)) ∧
      Go.IntKind.wrap Go.IntKind.i64 ((1 : Int) + (1 : Int)) < (↑(4 : Nat) : Int)) ∧ (2 : Nat) < (4 : Nat) ∧ Sx.br (Decidable.decide (List.getD [c, d, e, f] (2 : Nat)
      (Sx.Ty.dflt (Sx.Ty.int Go.IntKind.u8)) > (191 : Int))) (Q (Sx.SV.tup [Sx.SV.lit (Go.Value.bool Bool.false), Sx.SV.lit (Go.Value.bool Bool.false)], [Sx.SO.row (5 : Nat)
      (Sx.Ty.int Go.IntKind.u8) [c, d, e, f]], [])) (((0 : Int) ≤ Go.IntKind.wrap Go.IntKind.i64 (Go.IntKind.wrap Go.IntKind.i64 ((1 : Int) + (1 : Int)) + (1 : Int)) ∧
      Go.IntKind.wrap Go.IntKind.i64 (Go.IntKind.wrap Go.IntKind.i64 ((1 : Int) + (1 : Int)) + (1 : Int)) < (↑(4 : Nat) : Int)) ∧ (3 : Nat) < (4 : Nat) ∧ Sx.br (Decidable.decide
      (List.getD [c, d, e, f] (3 : Nat) (Sx.Ty.dflt (Sx.Ty.int Go.IntKind.u8)) < (128 : Int))) (Q (Sx.SV.tup [Sx.SV.lit (Go.Value.bool Bool.false), Sx.SV.lit (Go.Value.bool
      Bool.false)], [Sx.SO.row (5 : Nat) (Sx.Ty.int Go.IntKind.u8) [c, d, e, f]], [])) (((0 : Int) ≤ Go.IntKind.wrap Go.IntKind.i64 (Go.IntKind.wrap Go.IntKind.i64 ((1 : Int) +
      (1 : Int)) + (1 : Int)) ∧ Go.IntKind.wrap Go.IntKind.i64 (Go.IntKind.wrap Go.IntKind.i64 ((1 : Int) + (1 : Int)) + (1 : Int)) < (↑(4 : Nat) : Int)) ∧ (3 : Nat) < (4 : Nat)
      ∧ Sx.br (Decidable.decide (List.getD [c, d, e, f] (3 : Nat) (Sx.Ty.dflt (Sx.Ty.int Go.IntKind.u8)) > (191 : Int))) (Q (Sx.SV.tup [Sx.SV.lit (Go.Value.bool Bool.false),
      Sx.SV.lit (Go.Value.bool Bool.false)], [Sx.SO.row (5 : Nat) (Sx.Ty.int Go.IntKind.u8) [c, d, e, f]], [])) (Q (Sx.SV.tup [Sx.SV.lit (Go.Value.bool Bool.true), Sx.SV.lit
      (Go.Value.bool Bool.false)], [Sx.SO.row (5 : Nat) (Sx.Ty.int Go.IntKind.u8) [c, d, e, f]], [])))))))))) (((0 : Int) ≤ (1 : Int) ∧ (1 : Int) < (↑(4 : Nat) : Int)) ∧ (1 :
      Nat) < (4 : Nat) ∧ Sx.br (Decidable.decide (List.getD [c, d, e, f] (1 : Nat) (Sx.Ty.dflt (Sx.Ty.int Go.IntKind.u8)) < (128 : Int))) (Q (Sx.SV.tup [Sx.SV.lit (Go.Value.bool
      Bool.false), Sx.SV.lit (Go.Value.bool Bool.false)], [Sx.SO.row (5 : Nat) (Sx.Ty.int Go.IntKind.u8) [c, d, e, f]], [])) (((0 : Int) ≤ (1 : Int) ∧ (1 : Int) < (↑(4 : Nat) :
      Int)) ∧ (1 : Nat) < (4 : Nat) ∧ Sx.br (Decidable.decide (List.getD [c, d, e, f] (1 : Nat) (Sx.Ty.dflt (Sx.Ty.int Go.IntKind.u8)) > (191 : Int))) (Q (Sx.SV.tup [Sx.SV.lit
      (Go.Value.bool Bool.false), Sx.SV.lit (Go.Value.bool Bool.false)], [Sx.SO.row (5 : Nat) (Sx.Ty.int Go.IntKind.u8) [c, d, e, f]], [])) (((0 : Int) ≤ (1 : Int) ∧ (1 : Int) <
      (↑(4 : Nat) : Int)) ∧ (1 : Nat) < (4 : Nat) ∧ Sx.br (Decidable.decide (List.getD [c, d, e, f] (1 : Nat) (Sx.Ty.dflt (Sx.Ty.int Go.IntKind.u8)) < (128 : Int))) (Q
      (Sx.SV.tup [Sx.SV.lit (Go.Value.bool Bool.false), Sx.SV.lit (Go.Value.bool Bool.false)], [Sx.SO.row (5 : Nat) (Sx.Ty.int Go.IntKind.u8) [c, d, e, f]], [])) (((0 : Int) ≤
      (1 : Int) ∧ (1 : Int) < (↑(4 : Nat) : Int)) ∧ (1 : Nat) < (4 : Nat) ∧ Sx.br (Decidable.decide (List.getD [c, d, e, f] (1 : Nat) (Sx.Ty.dflt (Sx.Ty.int Go.IntKind.u8)) >
      (191 : Int))) (Q (Sx.SV.tup [Sx.SV.lit (Go.Value.bool Bool.false), Sx.SV.lit (Go.Value.bool Bool.false)], [Sx.SO.row (5 : Nat) (Sx.Ty.int Go.IntKind.u8) [c, d, e, f]],
      [])) (((0 : Int) ≤ Go.IntKind.wrap Go.IntKind.i64 ((1 : Int) + (1 : Int)) ∧ Go.IntKind.wrap Go.IntKind.i64 ((1 : Int) + (1 : Int)) < (↑(4 : Nat) : Int)) ∧ (2 : Nat) < (4 :
      Nat) ∧ Sx.br (Decidable.decide (List.getD [c, d, e, f] (2 : Nat) (Sx.Ty.dflt (Sx.Ty.int Go.IntKind.u8)) < (128 : Int))) (Q (Sx.SV.tup [Sx.SV.lit (Go.Value.bool
      Bool.false), Sx.SV.lit (Go.Value.bool Bool.false)], [Sx.SO.row (5 : Nat) (Sx.Ty.int Go.IntKind.u8) [c, d, e, f]], [])) (((0 : Int) ≤ Go.IntKind.wrap Go.IntKind.i64 ((1 :
      Int) + (1 : Int)) ∧ Go.IntKind.wrap Go.IntKind.i64 ((1 : Int) + (1 : Int)) < (↑(4 : Nat) : Int)) ∧ (2 : Nat) < (4 : Nat) ∧ Sx.br (Decidable.decide (List.getD [c, d, e, f]
      (2 : Nat) (Sx.Ty.dflt (Sx.Ty.int Go.IntKind.u8)) > (191 : Int))) (Q (Sx.SV.tup [Sx.SV.lit (Go.Value.bool Bool.false), Sx.SV.lit (Go.Value.bool Bool.false)], [Sx.SO.row (5
      : Nat) (Sx.Ty.int Go.IntKind.u8) [c, d, e, f]], [])) (((0 : Int) ≤ Go.IntKind.wrap Go.IntKind.i64 (Go.IntKind.wrap Go.IntKind.i64 ((1 : Int) + (1 : Int)) + (1 : Int)) ∧
      Go.IntKind.wrap Go.IntKind.i64 (Go.IntKind.wrap Go.IntKind.i64 ((1 : Int) + (1 : Int)) + (1 : Int)) < (↑(4 : Nat) : Int)) ∧ (3 : Nat) < (4 : Nat) ∧ Sx.br (Decidable.decide
      (List.getD [c, d, e, f] (3 : Nat) (Sx.Ty.dflt (Sx.Ty.int Go.IntKind.u8)) < (128 : Int))) (Q (Sx.SV.tup [Sx.SV.lit (Go.Value.bool Bool.false), Sx.SV.lit (Go.Value.bool
      Bool.false)], [Sx.SO.row (5 : Nat) (Sx.Ty.int Go.IntKind.u8) [c, d, e, f]], [])) (((0 : Int) ≤ Go.IntKind.wrap Go.IntKind.i64 (Go.IntKind.wrap Go.IntKind.i64 ((1 : Int) +
      (1 : Int)) + (1 : Int)) ∧ Go.IntKind.wrap Go.IntKind.i64 (Go.IntKind.wrap Go.IntKind.i64 ((1 : Int) + (1 : Int)) + (1 : Int)) < (↑(4 : Nat) : Int)) ∧ (3 : Nat) < (4 : Nat)
      ∧ Sx.br (Decidable.decide (List.getD [c, d, e, f] (3 : Nat) (Sx.Ty.dflt (Sx.Ty.int Go.IntKind.u8)) > (191 : Int))) (Q (Sx.SV.tup [Sx.SV.lit (Go.Value.bool Bool.false),
      Sx.SV.lit (Go.Value.bool Bool.false)], [Sx.SO.row (5 : Nat) (Sx.Ty.int Go.IntKind.u8) [c, d, e, f]], [])) (Q (Sx.SV.tup [Sx.SV.lit (Go.Value.bool Bool.true), Sx.SV.lit
      (Go.Value.bool Bool.false)], [Sx.SO.row (5 : Nat) (Sx.Ty.int Go.IntKind.u8) [c, d, e, f]], [])))))))))))) (Sx.br (Decidable.decide (List.getD [c, d, e, f] (0 : Nat)
      (Sx.Ty.dflt (Sx.Ty.int Go.IntKind.u8)) ≥ (240 : Int))) (Sx.br (Decidable.decide (List.getD [c, d, e, f] (0 : Nat) (Sx.Ty.dflt (Sx.Ty.int Go.IntKind.u8)) ≤ (244 : Int)))
      (Sx.br (List.getD [c, d, e, f] (0 : Nat) (Sx.Ty.dflt (Sx.Ty.int Go.IntKind.u8)) == (240 : Int)) (Sx.br (List.getD [c, d, e, f] (0 : Nat) (Sx.Ty.dflt (Sx.Ty.int
      Go.IntKind.u8)) == (244 : Int)) (((0 : Int) ≤ (1 : Int) ∧ (1 : Int) < (↑(4 : Nat) : Int)) ∧ (1 : Nat) < (4 : Nat) ∧ Sx.br (Decidable.decide (List.getD [c, d, e, f] (1 :
      Nat) (Sx.Ty.dflt (Sx.Ty.int Go.IntKind.u8)) < (144 : Int))) (Q (Sx.SV.tup [Sx.SV.lit (Go.Value.bool Bool.false), Sx.SV.lit (Go.Value.bool Bool.false)], [Sx.SO.row (5 :
      Nat) (Sx.Ty.int Go.IntKind.u8) [c, d, e, f]], [])) (((0 : Int) ≤ (1 : Int) ∧ (1 : Int) < (↑(4 : Nat) : Int)) ∧ (1 : Nat) < (4 : Nat) ∧ Sx.br (Decidable.decide (List.getD
      [c, d, e, f] (1 : Nat) (Sx.Ty.dflt (Sx.Ty.int Go.IntKind.u8)) > (143 : Int))) (Q (Sx.SV.tup [Sx.SV.lit (Go.Value.bool Bool.false), Sx.SV.lit (Go.Value.bool Bool.false)],
      [Sx.SO.row (5 : Nat) (Sx.Ty.int Go.IntKind.u8) [c, d, e, f]], [])) (((0 : Int) ≤ (1 : Int) ∧ (1 : Int) < (↑(4 : Nat) : Int)) ∧ (1 : Nat) < (4 : Nat) ∧ Sx.br
      (Decidable.decide (List.getD [c, d, e, f] (1 : Nat) (Sx.Ty.dflt (Sx.Ty.int Go.IntKind.u8)) < (128 : Int))) (Q (Sx.SV.tup [Sx.SV.lit (Go.Value.bool Bool.false), Sx.SV.lit
      (Go.Value.bool Bool.false)], [Sx.SO.row (5 : Nat) (Sx.Ty.int Go.IntKind.u8) [c, d, e, f]], [])) (((0 : Int) ≤ (1 : Int) ∧ (1 : Int) < (↑(4 : Nat) : Int)) ∧ (1 : Nat) < (4
      : Nat) ∧ Sx.br (Decidable.decide (List.getD [c, d, e, f] (1 : Nat) (Sx.Ty.dflt (Sx.Ty.int Go.IntKind.u8)) > (191 : Int))) (Q (Sx.SV.tup [Sx.SV.lit (Go.Value.bool
      Bool.false), Sx.SV.lit (Go.Value.bool Bool.false)], [Sx.SO.row (5 : Nat) (Sx.Ty.int Go.IntKind.u8) [c, d, e, f]], [])) (((0 : Int) ≤ Go.IntKind.wrap Go.IntKind.i64 ((1 :
      Int) + (1 : Int)) ∧ Go.IntKind.wrap Go.IntKind.i64 ((1 : Int) + (1 : Int)) < (↑(4 : Nat) : Int)) ∧ (2 : Nat) < (4 : Nat) ∧ Sx.br (Decidable.decide (List.getD [c, d, e, f]
      (2 : Nat) (Sx.Ty.dflt (Sx.Ty.int Go.IntKind.u8)) < (128 : Int))) (Q (Sx.SV.tup [Sx.SV.lit (Go.Value.bool Bool.false), Sx.SV.lit (Go.Value.bool Bool.false)], [Sx.SO.row (5
      : Nat) (Sx.Ty.int Go.IntKind.u8) [c, d, e, f]], [])) (((0 : Int) ≤ Go.IntKind.wrap Go.IntKind.i64 ((1 : Int) + (1 : Int)) ∧ Go.IntKind.wrap Go.IntKind.i64 ((1 : Int) + (1
      : Int)) < (↑(4 : Nat) : Int)) ∧ (2 : Nat) < (4 : Nat) ∧ Sx.br (Decidable.decide (List.getD [c, d, e, f] (2 : Nat) (Sx.Ty.dflt (Sx.Ty.int Go.IntKind.u8)) > (191 : Int))) (Q
      (Sx.SV.tup [Sx.SV.lit (Go.Value.bool Bool.false), Sx.SV.lit (Go.Value.bool Bool.false)], [Sx.SO.row (5 : Nat) (Sx.Ty.int Go.IntKind.u8) [c, d, e, f]], [])) (((0 : Int) ≤
      Go.IntKind.wrap Go.IntKind.i64 (Go.IntKind.wrap Go.IntKind.i64 ((1 : Int) + (1 : Int)) + (1 : Int)) ∧ Go.IntKind.wrap Go.IntKind.i64 (Go.IntKind.wrap Go.IntKind.i64 ((1 :
      Int) + (1 : Int)) + (1 : Int)) < (↑(4 : Nat) : Int)) ∧ (3 : Nat) < (4 : Nat) ∧ Sx.br (Decidable.decide (List.getD [c, d, e, f] (3 : Nat) (Sx.Ty.dflt (Sx.Ty.int
      Go.IntKind.u8)) < (128 : Int))) (Q (Sx.SV.tup [Sx.SV.lit (Go.Value.bool Bool.false), Sx.SV.lit (Go.Value.bool Bool.false)], [Sx.SO.row (5 : Nat) (Sx.Ty.int Go.IntKind.u8)
      [c, d, e, f]], [])) (((0 : Int) ≤ Go.IntKind.wrap Go.IntKind.i64 (Go.IntKind.wrap Go.IntKind.i64 ((1 : Int) + (1 : Int)) + (1 : Int)) ∧ Go.IntKind.wrap Go.IntKind.i64
      (Go.IntKind.wrap Go.IntKind.i64 ((1 : Int) + (1 : Int)) + (1 : Int)) < (↑(4 : Nat) : Int)) ∧ (3 : Nat) < (4 : Nat) ∧ Sx.br (Decidable.decide (List.getD [c, d, e, f] (3 :
      Nat) (Sx.Ty.dflt (Sx.Ty.int Go.IntKind.u8)) > (191 : Int))) (Q (Sx.SV.tup [Sx.SV.lit (Go.Value.bool Bool.false), Sx.SV.lit (Go.Value.bool Bool.false)], [Sx.SO.row (5 :
      Nat) (Sx.Ty.int Go.IntKind.u8) [c, d, e, f]], [])) (Q (Sx.SV.tup [Sx.SV.lit (Go.Value.bool Bool.true), Sx.SV.lit (Go.Value.bool Bool.true)], [Sx.SO.row (5 : Nat)
      (Sx.Ty.int Go.IntKind.u8) [c, d, e, f]], [])))))))))) (((0 : Int) ≤ (1 : Int) ∧ (1 : Int) < (↑(4 : Nat) : Int)) ∧ (1 : Nat) < (4 : Nat) ∧ Sx.br (Decidable.decide
      (List.getD [c, d, e, f] (1 : Nat) (Sx.Ty.dflt (Sx.Ty.int Go.IntKind.u8)) < (144 : Int))) (Q (Sx.SV.tup [Sx.SV.lit (Go.Value.bool Bool.false), Sx.SV.lit (Go.Value.bool
      Bool.false)], [Sx.SO.row (5 : Nat) (Sx.Ty.int Go.IntKind.u8) [c, d, e, f]], [])) (((0 : Int) ≤ (1 : Int) ∧ (1 : Int) < (↑(4 : Nat) : Int)) ∧ (1 : Nat) < (4 : Nat) ∧ Sx.br
      (Decidable.decide (List.getD [c, d, e, f] (1 : Nat) (Sx.Ty.dflt (Sx.Ty.int Go.IntKind.u8)) > (191 : Int))) (Q (Sx.SV.tup [Sx.SV.lit (Go.Value.bool Bool.false), Sx.SV.lit
      (Go.Value.bool Bool.false)], [Sx.SO.row (5 : Nat) (Sx.Ty.int Go.IntKind.u8) [c, d, e, f]], [])) (((0 : Int) ≤ (1 : Int) ∧ (1 : Int) < (↑(4 : Nat) : Int)) ∧ (1 : Nat) < (4
      : Nat) ∧ Sx.br (Decidable.decide (List.getD [c, d, e, f] (1 : Nat) (Sx.Ty.dflt (Sx.Ty.int Go.IntKind.u8)) < (128 : Int))) (Q (Sx.SV.tup [Sx.SV.lit (Go.Value.bool
      Bool.false), Sx.SV.lit (Go.Value.bool Bool.false)], [Sx.SO.row (5 : Nat) (Sx.Ty.int Go.IntKind.u8) [c, d, e, f]], [])) (((0 : Int) ≤ (1 : Int) ∧ (1 : Int) < (↑(4 : Nat) :
      Int)) ∧ (1 : Nat) < (4 : Nat) ∧ Sx.br (Decidable.decide (List.getD [c, d, e, f] (1 : Nat) (Sx.Ty.dflt (Sx.Ty.int Go.IntKind.u8)) > (191 : Int))) (Q (Sx.SV.tup [Sx.SV.lit
      (Go.Value.bool Bool.false), Sx.SV.lit (Go.Value.bool Bool.false)], [Sx.SO.row (5 : Nat) (Sx.Ty.int Go.IntKind.u8) [c, d, e, f]], [])) (((0 : Int) ≤ Go.IntKind.wrap
      Go.IntKind.i64 ((1 : Int) + (1 : Int)) ∧ Go.IntKind.wrap Go.IntKind.i64 ((1 : Int) + (1 : Int)) < (↑(4 : Nat) : Int)) ∧ (2 : Nat) < (4 : Nat) ∧ Sx.br (Decidable.decide
      (List.getD [c, d, e, f] (2 : Nat) (Sx.Ty.dflt (Sx.Ty.int Go.IntKind.u8)) < (128 : Int))) (Q (Sx.SV.tup [Sx.SV.lit (Go.Value.bool Bool.false), Sx.SV.lit (Go.Value.bool
      Bool.false)], [Sx.SO.row (5 : Nat) (Sx.Ty.int Go.IntKind.u8) [c, d, e, f]], [])) (((0 : Int) ≤ Go.IntKind.wrap Go.IntKind.i64 ((1 : Int) + (1 : Int)) ∧ Go.IntKind.wrap
      Go.IntKind.i64 ((1 : Int) + (1 : Int)) < (↑(4 : Nat) : Int)) ∧ (2 : Nat) < (4 : Nat) ∧ Sx.br (Decidable.decide (List.getD [c, d, e, f] (2 : Nat) (Sx.Ty.dflt (Sx.Ty.int
      Go.IntKind.u8)) > (191 : Int))) (Q (Sx.SV.tup [Sx.SV.lit (Go.Value.bool Bool.false), Sx.SV.lit (Go.Value.bool Bool.false)], [Sx.SO.row (5 : Nat) (Sx.Ty.int Go.IntKind.u8)
      [c, d, e, f]], [])) (((0 : Int) ≤ Go.IntKind.wrap Go.IntKind.i64 (Go.IntKind.wrap Go.IntKind.i64 ((1 : Int) + (1 : Int)) + (1 : Int)) ∧ Go.IntKind.wrap Go.IntKind.i64
      (Go.IntKind.wrap Go.IntKind.i64 ((1 : Int) + (1 : Int)) + (1 : Int)) < (↑(4 : Nat) : Int)) ∧ (3 : Nat) < (4 : Nat) ∧ Sx.br (Decidable.decide (List.getD [c, d, e, f] (3 :
      Nat) (Sx.Ty.dflt (Sx.Ty.int Go.IntKind.u8)) < (128 : Int))) (Q (Sx.SV.tup [Sx.SV.lit (Go.Value.bool Bool.false), Sx.SV.lit (Go.Value.bool Bool.false)], [Sx.SO.row (5 :
      Nat) (Sx.Ty.int Go.IntKind.u8) [c, d, e, f]], [])) (((0 : Int) ≤ Go.IntKind.wrap Go.IntKind.i64 (Go.IntKind.wrap Go.IntKind.i64 ((1 : Int) + (1 : Int)) + (1 : Int)) ∧
      Go.IntKind.wrap Go.IntKind.i64 (Go.IntKind.wrap Go.IntKind.i64 ((1 : Int) + (1 : Int)) + (1 : Int)) < (↑(4 : Nat) : Int)) ∧ (3 : Nat) < (4 : Nat) ∧ Sx.br (Decidable.decide
      (List.getD [c, d, e, f] (3 : Nat) (Sx.Ty.dflt (Sx.Ty.int Go.IntKind.u8)) > (191 : Int))) (Q (Sx.SV.tup [Sx.SV.lit (Go.Value.bool Bool.false), Sx.SV.lit (Go.Value.bool
      Bool.false)], [Sx.SO.row (5 : Nat) (Sx.Ty.int Go.IntKind.u8) [c, d, e, f]], [])) (Q (Sx.SV.tup [Sx.SV.lit (Go.Value.bool Bool.true), Sx.SV.lit (Go.Value.bool Bool.true)],
      [Sx.SO.row (5 : Nat) (Sx.Ty.int Go.IntKind.u8) [c, d, e, f]], []))))))))))) (Sx.br (List.getD [c, d, e, f] (0 : Nat) (Sx.Ty.dflt (Sx.Ty.int Go.IntKind.u8)) == (244 : Int))
      (((0 : Int) ≤ (1 : Int) ∧ (1 : Int) < (↑(4 : Nat) : Int)) ∧ (1 : Nat) < (4 : Nat) ∧ Sx.br (Decidable.decide (List.getD [c, d, e, f] (1 : Nat) (Sx.Ty.dflt (Sx.Ty.int
      Go.IntKind.u8)) < (128 : Int))) (Q (Sx.SV.tup [Sx.SV.lit (Go.Value.bool Bool.false), Sx.SV.lit (Go.Value.bool Bool.false)], [Sx.SO.row (5 : Nat) (Sx.Ty.int Go.IntKind.u8)
      [c, d, e, f]], [])) (((0 : Int) ≤ (1 : Int) ∧ (1 : Int) < (↑(4 : Nat) : Int)) ∧ (1 : Nat) < (4 : Nat) ∧ Sx.br (Decidable.decide (List.getD [c, d, e, f] (1 : Nat)
      (Sx.Ty.dflt (Sx.Ty.int Go.IntKind.u8)) > (143 : Int))) (Q (Sx.SV.tup [Sx.SV.lit (Go.Value.bool Bool.false), Sx.SV.lit (Go.Value.bool Bool.false)], [Sx.SO.row (5 : Nat)
      (Sx.Ty.int Go.IntKind.u8) [c, d, e, f]], [])) (((0 : Int) ≤ (1 : Int) ∧ (1 : Int) < (↑(4 : Nat) : Int)) ∧ (1 : Nat) < (4 : Nat) ∧ Sx.br (Decidable.decide (List.getD [c, d,
      e, f] (1 : Nat) (Sx.Ty.dflt (Sx.Ty.int Go.IntKind.u8)) < (128 : Int))) (Q (Sx.SV.tup [Sx.SV.lit (Go.Value.bool Bool.false), Sx.SV.lit (Go.Value.bool Bool.false)],
      [Sx.SO.row (5 : Nat) (Sx.Ty.int Go.IntKind.u8) [c, d, e, f]], [])) (((0 : Int) ≤ (1 : Int) ∧ (1 : Int) < (↑(4 : Nat) : Int)) ∧ (1 : Nat) < (4 : Nat) ∧ Sx.br
      (Decidable.decide (List.getD [c, d, e, f] (1 : Nat) (Sx.Ty.dflt (Sx.Ty.int Go.IntKind.u8)) > (191 : Int))) (Q (Sx.SV.tup [Sx.SV.lit (Go.Value.bool Bool.false), Sx.SV.lit
      (Go.Value.bool Bool.false)], [Sx.SO.row (5 : Nat) (Sx.Ty.int Go.IntKind.u8) [c, d, e, f]], [])) (((0 : Int) ≤ Go.IntKind.wrap Go.IntKind.i64 ((1 : Int) + (1 : Int)) ∧
      Go.IntKind.wrap Go.IntKind.i64 ((1 : Int) + (1 : Int)) < (↑(4 : Nat) : Int)) ∧ (2 : Nat) < (4 : Nat) ∧ Sx.br (Decidable.decide (List.getD [c, d, e, f] (2 : Nat)
      (Sx.Ty.dflt (Sx.Ty.int Go.IntKind.u8)) < (128 : Int))) (Q (Sx.SV.tup [Sx.SV.lit (Go.Value.bool Bool.false), Sx.SV.lit (Go.Value.bool Bool.false)], [Sx.SO.row (5 : Nat)
      (Sx.Ty.int Go.IntKind.u8) [c, d, e, f]], [])) (((0 : Int) ≤ Go.IntKind.wrap Go.IntKind.i64 ((1 : Int) + (1 : Int)) ∧ Go.IntKind.wrap Go.IntKind.i64 ((1 : Int) + (1 : Int))
      < (↑(4 : Nat) : Int)) ∧ (2 : Nat) < (4 : Nat) ∧ Sx.br (Decidable.decide (List.getD [c, d, e, f] (2 : Nat) (Sx.Ty.dflt (Sx.Ty.int Go.IntKind.u8)) > (191 : Int))) (Q
      (Sx.SV.tup [Sx.SV.lit (Go.Value.bool Bool.false), Sx.SV.lit (Go.Value.bool Bool.false)], [Sx.SO.row (5 : Nat) (Sx.Ty.int Go.IntKind.u8) [c, d, e, f]], [])) (((0 : Int) ≤
      Go.IntKind.wrap Go.IntKind.i64 (Go.IntKind.wrap Go.IntKind.i64 ((1 : Int) + (1 : Int)) + (1 : Int)) ∧ Go.IntKind.wrap Go.IntKind.i64 (Go.IntKind.wrap Go.IntKind.i64 ((1 :
      Int) + (1 : Int)) + (1 : Int)) < (↑(4 : Nat) : Int)) ∧ (3 : Nat) < (4 : Nat) ∧ Sx.br (Decidable.decide (List.getD [c, d, e, f] (3 : Nat) (Sx.Ty.dflt (Sx.Ty.int
      Go.IntKind.u8)) < (128 : Int))) (Q (Sx.SV.tup [Sx.SV.lit (Go.Value.bool Bool.false), Sx.SV.lit (Go.Value.bool Bool.false)], [Sx.SO.row (5 : Nat) (Sx.Ty.int Go.IntKind.u8)
      [c, d, e, f]], [])) (((0 : Int) ≤ Go.IntKind.wrap Go.IntKind.i64 (Go.IntKind.wrap Go.IntKind.i64 ((1 : Int) + (1 : Int)) + (1 : Int)) ∧ Go.IntKind.wrap Go.IntKind.i64
      (Go.IntKind.wrap Go.IntKind.i64 ((1 : Int) + (1 : Int)) + (1 : Int)) < (↑(4 : Nat) : Int)) ∧ (3 : Nat) < (4 : Nat) ∧ Sx.br (Decidable.decide (List.getD [c, d, e, f] (3 :
      Nat) (Sx.Ty.dflt (Sx.Ty.int Go.IntKind.u8)) > (191 : Int))) (Q (Sx.SV.tup [Sx.SV.lit (Go.Value.bool Bool.false), Sx.SV.lit (Go.Value.bool Bool.false)], [Sx.SO.row (5 :
      Nat) (Sx.Ty.int Go.IntKind.u8) [c, d, e, f]], [])) (Q (Sx.SV.tup [Sx.SV.lit (Go.Value.bool Bool.true), Sx.SV.lit (Go.Value.bool Bool.true)], [Sx.SO.row (5 : Nat)
      (Sx.Ty.int Go.IntKind.u8) [c, d, e, f]], [])))))))))) (((0 : Int) ≤ (1 : Int) ∧ (1 : Int) < (↑(4 : Nat) : Int)) ∧ (1 : Nat) < (4 : Nat) ∧ Sx.br (Decidable.decide
      (List.getD [c, d, e, f] (1 : Nat) (Sx.Ty.dflt (Sx.Ty.int Go.IntKind.u8)) < (128 : Int))) (Q (Sx.SV.tup [Sx.SV.lit (Go.Value.bool Bool.false), Sx.SV.lit (Go.Value.bool
      Bool.false)], [Sx.SO.row (5 : Nat) (Sx.Ty.int Go.IntKind.u8) [c, d, e, f]], [])) (((0 : Int) ≤ (1 : Int) ∧ (1 : Int) < (↑(4 : Nat) : Int)) ∧ (1 : Nat) < (4 : Nat) ∧ Sx.br
      (Decidable.decide (List.getD [c, d, e, f] (1 : Nat) (Sx.Ty.dflt (Sx.Ty.int Go.IntKind.u8)) > (191 : Int))) (Q (Sx.SV.tup [Sx.SV.lit (Go.Value.bool Bool.false), Sx.SV.lit
      (Go.Value.bool Bool.false)], [Sx.SO.row (5 : Nat) (Sx.Ty.int Go.IntKind.u8) [c, d, e, f]], [])) (((0 : Int) ≤ (1 : Int) ∧ (1 : Int) < (↑(4 : Nat) : Int)) ∧ (1 : Nat) < (4
      : Nat) ∧ Sx.br (Decidable.decide (List.getD [c, d, e, f] (1 : Nat) (Sx.Ty.dflt (Sx.Ty.int Go.IntKind.u8)) < (128 : Int))) (Q (Sx.SV.tup [Sx.SV.lit (Go.Value.bool
      Bool.false), Sx.SV.lit (Go.Value.bool Bool.false)], [Sx.SO.row (5 : Nat) (Sx.Ty.int Go.IntKind.u8) [c, d, e, f]], [])) (((0 : Int) ≤ (1 : Int) ∧ (1 : Int) < (↑(4 : Nat) :
      Int)) ∧ (1 : Nat) < (4 : Nat) ∧ Sx.br (Decidable.decide (List.getD [c, d, e, f] (1 : Nat) (Sx.Ty.dflt (Sx.Ty.int Go.IntKind.u8)) > (191 : Int))) (Q (Sx.SV.tup [Sx.SV.lit
      (Go.Value.bool Bool.false), Sx.SV.lit (Go.Value.bool Bool.false)], [Sx.SO.row (5 : Nat) (Sx.Ty.int Go.IntKind.u8) [c, d, e, f]], [])) (((0 : Int) ≤ Go.IntKind.wrap
      Go.IntKind.i64 ((1 : Int) + (1 : Int)) ∧ Go.IntKind.wrap Go.IntKind.i64 ((1 : Int) + (1 : Int)) < (↑(4 : Nat) : Int)) ∧ (2 : Nat) < (4 : Nat) ∧ Sx.br (Decidable.decide
      (List.getD [c, d, e, f] (2 : Nat) (Sx.Ty.dflt (Sx.Ty.int Go.IntKind.u8)) < (128 : Int))) (Q (Sx.SV.tup [Sx.SV.lit (Go.Value.bool Bool.false), Sx.SV.lit (Go.Value.bool
      Bool.false)], [Sx.SO.row (5 : Nat) (Sx.Ty.int Go.IntKind.u8) [c, d, e, f]], [])) (((0 : Int) ≤ Go.IntKind.wrap Go.IntKind.i64 ((1 : Int) + (1 : Int)) ∧ Go.IntKind.wrap
      Go.IntKind.i64 ((1 : Int) + (1 : Int)) < (↑(4 : Nat) : Int)) ∧ (2 : Nat) < (4 : Nat) ∧ Sx.br (Decidable.decide (List.getD [c, d, e, f] (2 : Nat) (Sx.Ty.dflt (Sx.Ty.int
      Go.IntKind.u8)) > (191 : Int))) (Q (Sx.SV.tup [Sx.SV.lit (Go.Value.bool Bool.false), Sx.SV.lit (Go.Value.bool Bool.false)], [Sx.SO.row (5 : Nat) (Sx.Ty.int Go.IntKind.u8)
      [c, d, e, f]], [])) (((0 : Int) ≤ Go.IntKind.wrap Go.IntKind.i64 (Go.IntKind.wrap Go.IntKind.i64 ((1 : Int) + (1 : Int)) + (1 : Int)) ∧ Go.IntKind.wrap Go.IntKind.i64
      (Go.IntKind.wrap Go.IntKind.i64 ((1 : Int) + (1 : Int)) + (1 : Int)) < (↑(4 : Nat) : Int)) ∧ (3 : Nat) < (4 : Nat) ∧ Sx.br (Decidable.decide (List.getD [c, d, e, f] (3 :
      Nat) (Sx.Ty.dflt (Sx.Ty.int Go.IntKind.u8)) < (128 : Int))) (Q (Sx.SV.tup [Sx.SV.lit (Go.Value.bool Bool.false), Sx.SV.lit (Go.Value.bool Bool.false)], [Sx.SO.row (5 :
      Nat) (Sx.Ty.int Go.IntKind.u8) [c, d, e, f]], [])) (((0 : Int) ≤ Go.IntKind.wrap Go.IntKind.i64 (Go.IntKind.wrap Go.IntKind.i64 ((1 : Int) + (1 : Int)) + (1 : Int)) ∧
      Go.IntKind.wrap Go.IntKind.i64 (Go.IntKind.wrap Go.IntKind.i64 ((1 : Int) + (1 : Int)) + (1 : Int)) < (↑(4 : Nat) : Int)) ∧ (3 : Nat) < (4 : Nat) ∧ Sx.br (Decidable.decide
      (List.getD [c, d, e, f] (3 : Nat) (Sx.Ty.dflt (Sx.Ty.int Go.IntKind.u8)) > (191 : Int))) (Q (Sx.SV.tup [Sx.SV.lit (Go.Value.bool Bool.false), Sx.SV.lit (Go.Value.bool
      Bool.false)], [Sx.SO.row (5 : Nat) (Sx.Ty.int Go.IntKind.u8) [c, d, e, f]], [])) (Q (Sx.SV.tup [Sx.SV.lit (Go.Value.bool Bool.true), Sx.SV.lit (Go.Value.bool Bool.true)],
      [Sx.SO.row (5 : Nat) (Sx.Ty.int Go.IntKind.u8) [c, d, e, f]], [])))))))))))) (Q (Sx.SV.tup [Sx.SV.lit (Go.Value.bool Bool.false), Sx.SV.lit (Go.Value.bool Bool.false)],
      [Sx.SO.row (5 : Nat) (Sx.Ty.int Go.IntKind.u8) [c, d, e, f]], []))) (Q (Sx.SV.tup [Sx.SV.lit (Go.Value.bool Bool.false), Sx.SV.lit (Go.Value.bool Bool.false)], [Sx.SO.row
      (5 : Nat) (Sx.Ty.int Go.IntKind.u8) [c, d, e, f]], [])))) (Sx.br (Decidable.decide (List.getD [c, d, e, f] (0 : Nat) (Sx.Ty.dflt (Sx.Ty.int Go.IntKind.u8)) ≥ (240 : Int)))
      (Sx.br (Decidable.decide (List.getD [c, d, e, f] (0 : Nat) (Sx.Ty.dflt (Sx.Ty.int Go.IntKind.u8)) ≤ (244 : Int))) (Sx.br (List.getD [c, d, e, f] (0 : Nat) (Sx.Ty.dflt
      (Sx.Ty.int Go.IntKind.u8)) == (240 : Int)) (Sx.br (List.getD [c, d, e, f] (0 : Nat) (Sx.Ty.dflt (Sx.Ty.int Go.IntKind.u8)) == (244 : Int)) (((0 : Int) ≤ (1 : Int) ∧ (1 :
      Int) < (↑(4 : Nat) : Int)) ∧ (1 : Nat) < (4 : Nat) ∧ Sx.br (Decidable.decide (List.getD [c, d, e, f] (1 : Nat) (Sx.Ty.dflt (Sx.Ty.int Go.IntKind.u8)) < (144 : Int))) (Q
      (Sx.SV.tup [Sx.SV.lit (Go.Value.bool Bool.false), Sx.SV.lit (Go.Value.bool Bool.false)], [Sx.SO.row (5 : Nat) (Sx.Ty.int Go.IntKind.u8) [c, d, e, f]], [])) (((0 : Int) ≤
      (1 : Int) ∧ (1 : Int) < (↑(4 : Nat) : Int)) ∧ (1 : Nat) < (4 : Nat) ∧ Sx.br (Decidable.decide (List.getD [c, d, e, f] (1 : Nat) (Sx.Ty.dflt (Sx.Ty.int Go.IntKind.u8)) >
      (143 : Int))) (Q (Sx.SV.tup [Sx.SV.lit (Go.Value.bool Bool.false), Sx.SV.lit (Go.Value.bool Bool.false)], [Sx.SO.row (5 : Nat) (Sx.Ty.int Go.IntKind.u8) [c, d, e, f]],
      [])) (((0 : Int) ≤ (1 : Int) ∧ (1 : Int) < (↑(4 : Nat) : Int)) ∧ (1 : Nat) < (4 : Nat) ∧ Sx.br (Decidable.decide (List.getD [c, d, e, f] (1 : Nat) (Sx.Ty.dflt (Sx.Ty.int
      Go.IntKind.u8)) < (128 : Int))) (Q (Sx.SV.tup [Sx.SV.lit (Go.Value.bool Bool.false), Sx.SV.lit (Go.Value.bool Bool.false)], [Sx.SO.row (5 : Nat) (Sx.Ty.int Go.IntKind.u8)
      [c, d, e, f]], [])) (((0 : Int) ≤ (1 : Int) ∧ (1 : Int) < (↑(4 : Nat) : Int)) ∧ (1 : Nat) < (4 : Nat) ∧ Sx.br (Decidable.decide (List.getD [c, d, e, f] (1 : Nat)
      (Sx.Ty.dflt (Sx.Ty.int Go.IntKind.u8)) > (191 : Int))) (Q (Sx.SV.tup [Sx.SV.lit (Go.Value.bool Bool.false), Sx.SV.lit (Go.Value.bool Bool.false)], [Sx.SO.row (5 : Nat)
      (Sx.Ty.int Go.IntKind.u8) [c, d, e, f]], [])) (((0 : Int) ≤ Go.IntKind.wrap Go.IntKind.i64 ((1 : Int) + (1 : Int)) ∧ Go.IntKind.wrap Go.IntKind.i64 ((1 : Int) + (1 : Int))
      < (↑(4 : Nat) : Int)) ∧ (2 : Nat) < (4 : Nat) ∧ Sx.br (Decidable.decide (List.getD [c, d, e, f] (2 : Nat) (Sx.Ty.dflt (Sx.Ty.int Go.IntKind.u8)) < (128 : Int))) (Q
      (Sx.SV.tup [Sx.SV.lit (Go.Value.bool Bool.false), Sx.SV.lit (Go.Value.bool Bool.false)], [Sx.SO.row (5 : Nat) (Sx.Ty.int Go.IntKind.u8) [c, d, e, f]], [])) (((0 : Int) ≤
      Go.IntKind.wrap Go.IntKind.i64 ((1 : Int) + (1 : Int)) ∧ Go.IntKind.wrap Go.IntKind.i64 ((1 : Int) + (1 : Int)) < (↑(4 : Nat) : Int)) ∧ (2 : Nat) < (4 : Nat) ∧ Sx.br
      (Decidable.decide (List.getD [c, d, e, f] (2 : Nat) (Sx.Ty.dflt (Sx.Ty.int Go.IntKind.u8)) > (191 : Int))) (Q (Sx.SV.tup [Sx.SV.lit (Go.Value.bool Bool.false), Sx.SV.lit
      (Go.Value.bool Bool.false)], [Sx.SO.row (5 : Nat) (Sx.Ty.int Go.IntKind.u8) [c, d, e, f]], [])) (((0 : Int) ≤ Go.IntKind.wrap Go.IntKind.i64 (Go.IntKind.wrap
      Go.IntKind.i64 ((1 : Int) + (1 : Int)) + (1 : Int)) ∧ Go.IntKind.wrap Go.IntKind.i64 (Go.IntKind.wrap Go.IntKind.i64 ((1 : Int) + (1 : Int)) + (1 : Int)) < (↑(4 : Nat) :
      Int)) ∧ (3 : Nat) < (4 : Nat) ∧ Sx.br (Decidable.decide (List.getD [c, d, e, f] (3 : Nat) (Sx.Ty.dflt (Sx.Ty.int Go.IntKind.u8)) < (128 : Int))) (Q (Sx.SV.tup [Sx.SV.lit
      (Go.Value.bool Bool.false), Sx.SV.lit (Go.Value.bool Bool.false)], [Sx.SO.row (5 : Nat) (Sx.Ty.int Go.IntKind.u8) [c, d, e, f]], [])) (((0 : Int) ≤ Go.IntKind.wrap
      Go.IntKind.i64 (Go.IntKind.wrap Go.IntKind.i64 ((1 : Int) + (1 : Int)) + (1 : Int)) ∧ Go.IntKind.wrap Go.IntKind.i64 (Go.IntKind.wrap Go.IntKind.i64 ((1 : Int) + (1 :
      Int)) + (1 : Int)) < (↑(4 : Nat) : Int)) ∧ (3 : Nat) < (4 : Nat) ∧ Sx.br (Decidable.decide (List.getD [c, d, e, f] (3 : Nat) (Sx.Ty.dflt (Sx.Ty.int Go.IntKind.u8)) > (191
      : Int))) (Q (Sx.SV.tup [Sx.SV.lit (Go.Value.bool Bool.false), Sx.SV.lit (Go.Value.bool Bool.false)], [Sx.SO.row (5 : Nat) (Sx.Ty.int Go.IntKind.u8) [c, d, e, f]], [])) (Q
      (Sx.SV.tup [Sx.SV.lit (Go.Value.bool Bool.true), Sx.SV.lit (Go.Value.bool Bool.true)], [Sx.SO.row (5 : Nat) (Sx.Ty.int Go.IntKind.u8) [c, d, e, f]], [])))))))))) (((0 :
      Int) ≤ (1 : Int) ∧ (1 : Int) < (↑(4 : Nat) : Int)) ∧ (1 : Nat) < (4 : Nat) ∧ Sx.br (Decidable.decide (List.getD [c, d, e, f] (1 : Nat) (Sx.Ty.dflt (Sx.Ty.int
      Go.IntKind.u8)) < (144 : Int))) (Q (Sx.SV.tup [Sx.SV.lit (Go.Value.bool Bool.false), Sx.SV.lit (Go.Value.bool Bool.false)], [Sx.SO.row (5 : Nat) (Sx.Ty.int Go.IntKind.u8)
      [c, d, e, f]], [])) (((0 : Int) ≤ (1 : Int) ∧ (1 : Int) < (↑(4 : Nat) : Int)) ∧ (1 : Nat) < (4 : Nat) ∧ Sx.br (Decidable.decide (List.getD [c, d, e, f] (1 : Nat)
      (Sx.Ty.dflt (Sx.Ty.int Go.IntKind.u8)) > (191 : Int))) (Q (Sx.SV.tup [Sx.SV.lit (Go.Value.bool Bool.false), Sx.SV.lit (Go.Value.bool Bool.false)], [Sx.SO.row (5 : Nat)
      (Sx.Ty.int Go.IntKind.u8) [c, d, e, f]], [])) (((0 : Int) ≤ (1 : Int) ∧ (1 : Int) < (↑(4 : Nat) : Int)) ∧ (1 : Nat) < (4 : Nat) ∧ Sx.br (Decidable.decide (List.getD [c, d,
      e, f] (1 : Nat) (Sx.Ty.dflt (Sx.Ty.int Go.IntKind.u8)) < (128 : Int))) (Q (Sx.SV.tup [Sx.SV.lit (Go.Value.bool Bool.false), Sx.SV.lit (Go.Value.bool Bool.false)],
      [Sx.SO.row (5 : Nat) (Sx.Ty.int Go.IntKind.u8) [c, d, e, f]], [])) (((0 : Int) ≤ (1 : Int) ∧ (1 : Int) < (↑(4 : Nat) : Int)) ∧ (1 : Nat) < (4 : Nat) ∧ Sx.br
      (Decidable.decide (List.getD [c, d, e, f] (1 : Nat) (Sx.Ty.dflt (Sx.Ty.int Go.IntKind.u8)) > (191 : Int))) (Q (Sx.SV.tup [Sx.SV.lit (Go.Value.bool Bool.false), Sx.SV.lit
      (Go.Value.bool Bool.false)], [Sx.SO.row (5 : Nat) (Sx.Ty.int Go.IntKind.u8) [c, d, e, f]], [])) (((0 : Int) ≤ Go.IntKind.wrap Go.IntKind.i64 ((1 : Int) + (1 : Int)) ∧
      Go.IntKind.wrap Go.IntKind.i64 ((1 : Int) + (1 : Int)) < (↑(4 : Nat) : Int)) ∧ (2 : Nat) < (4 : Nat) ∧ Sx.br (Decidable.decide (List.getD [c, d, e, f] (2 : Nat)
      (Sx.Ty.dflt (Sx.Ty.int Go.IntKind.u8)) < (128 : Int))) (Q (Sx.SV.tup [Sx.SV.lit (Go.Value.bool Bool.false), Sx.SV.lit (Go.Value.bool Bool.false)], [Sx.SO.row (5 : Nat)
      (Sx.Ty.int Go.IntKind.u8) [c, d, e, f]], [])) (((0 : Int) ≤ Go.IntKind.wrap Go.IntKind.i64 ((1 : Int) + (1 : Int)) ∧ Go.IntKind.wrap Go.IntKind.i64 ((1 : Int) + (1 : Int))
      < (↑(4 : Nat) : Int)) ∧ (2 : Nat) < (4 : Nat) ∧ Sx.br (Decidable.decide (List.getD [c, d, e, f] (2 : Nat) (Sx.Ty.dflt (Sx.Ty.int Go.IntKind.u8)) > (191 : Int))) (Q
      (Sx.SV.tup [Sx.SV.lit (Go.Value.bool Bool.false), Sx.SV.lit (Go.Value.bool Bool.false)], [Sx.SO.row (5 : Nat) (Sx.Ty.int Go.IntKind.u8) [c, d, e, f]], [])) (((0 : Int) ≤
      Go.IntKind.wrap Go.IntKind.i64 (Go.IntKind.wrap Go.IntKind.i64 ((1 : Int) + (1 : Int)) + (1 : Int)) ∧ Go.IntKind.wrap Go.IntKind.i64 (Go.IntKind.wrap Go.IntKind.i64 ((1 :
      Int) + (1 : Int)) + (1 : Int)) < (↑(4 : Nat) : Int)) ∧ (3 : Nat) < (4 : Nat) ∧ Sx.br (Decidable.decide (List.getD [c, d, e, f] (3 : Nat) (Sx.Ty.dflt (Sx.Ty.int
      Go.IntKind.u8)) < (128 : Int))) (Q (Sx.SV.tup [Sx.SV.lit (Go.Value.bool Bool.false), Sx.SV.lit (Go.Value.bool Bool.false)], [Sx.SO.row (5 : Nat) (Sx.Ty.int Go.IntKind.u8)
      [c, d, e, f]], [])) (((0 : Int) ≤ Go.IntKind.wrap Go.IntKind.i64 (Go.IntKind.wrap Go.IntKind.i64 ((1 : Int) + (1 : Int)) + (1 : Int)) ∧ Go.IntKind.wrap Go.IntKind.i64
      (Go.IntKind.wrap Go.IntKind.i64 ((1 : Int) + (1 : Int)) + (1 : Int)) < (↑(4 : Nat) : Int)) ∧ (3 : Nat) < (4 : Nat) ∧ Sx.br (Decidable.decide (List.getD [c, d, e, f] (3 :
      Nat) (Sx.Ty.dflt (Sx.Ty.int Go.IntKind.u8)) > (191 : Int))) (Q (Sx.SV.tup [Sx.SV.lit (Go.Value.bool Bool.false), Sx.SV.lit (Go.Value.bool Bool.false)], [Sx.SO.row (5 :
      Nat) (Sx.Ty.int Go.IntKind.u8) [c, d, e, f]], [])) (Q (Sx.SV.tup [Sx.SV.lit (Go.Value.bool Bool.true), Sx.SV.lit (Go.Value.bool Bool.true)], [Sx.SO.row (5 : Nat)
      (Sx.Ty.int Go.IntKind.u8) [c, d, e, f]], []))))))))))) (Sx.br (List.getD [c, d, e, f] (0 : Nat) (Sx.Ty.dflt (Sx.Ty.int Go.IntKind.u8)) == (244 : Int)) (((0 : Int) ≤ (1 :
      Int) ∧ (1 : Int) < (↑(4 : Nat) : Int)) ∧ (1 : Nat) < (4 : Nat) ∧ Sx.br (Decidable.decide (List.getD [c, d, e, f] (1 : Nat) (Sx.Ty.dflt (Sx.Ty.int Go.IntKind.u8)) < (128 :
      Int))) (Q (Sx.SV.tup [Sx.SV.lit (Go.Value.bool Bool.false), Sx.SV.lit (Go.Value.bool Bool.false)], [Sx.SO.row (5 : Nat) (Sx.Ty.int Go.IntKind.u8) [c, d, e, f]], [])) (((0
      : Int) ≤ (1 : Int) ∧ (1 : Int) < (↑(4 : Nat) : Int)) ∧ (1 : Nat) < (4 : Nat) ∧ Sx.br (Decidable.decide (List.getD [c, d, e, f] (1 : Nat) (Sx.Ty.dflt (Sx.Ty.int
      Go.IntKind.u8)) > (143 : Int))) (Q (Sx.SV.tup [Sx.SV.lit (Go.Value.bool Bool.false), Sx.SV.lit (Go.Value.bool Bool.false)], [Sx.SO.row (5 : Nat) (Sx.Ty.int Go.IntKind.u8)
      [c, d, e, f]], [])) (((0 : Int) ≤ (1 : Int) ∧ (1 : Int) < (↑(4 : Nat) : Int)) ∧ (1 : Nat) < (4 : Nat) ∧ Sx.br (Decidable.decide (List.getD [c, d, e, f] (1 : Nat)
      (Sx.Ty.dflt (Sx.Ty.int Go.IntKind.u8)) < (128 : Int))) (Q (Sx.SV.tup [Sx.SV.lit (Go.Value.bool Bool.false), Sx.SV.lit (Go.Value.bool Bool.false)], [Sx.SO.row (5 : Nat)
      (Sx.Ty.int Go.IntKind.u8) [c, d, e, f]], [])) (((0 : Int) ≤ (1 : Int) ∧ (1 : Int) < (↑(4 : Nat) : Int)) ∧ (1 : Nat) < (4 : Nat) ∧ Sx.br (Decidable.decide (List.getD [c, d,
      e, f] (1 : Nat) (Sx.Ty.dflt (Sx.Ty.int Go.IntKind.u8)) > (191 : Int))) (Q (Sx.SV.tup [Sx.SV.lit (Go.Value.bool Bool.false), Sx.SV.lit (Go.Value.bool Bool.false)],
      [Sx.SO.row (5 : Nat) (Sx.Ty.int Go.IntKind.u8) [c, d, e, f]], [])) (((0 : Int) ≤ Go.IntKind.wrap Go.IntKind.i64 ((1 : Int) + (1 : Int)) ∧ Go.IntKind.wrap Go.IntKind.i64
      ((1 : Int) + (1 : Int)) < (↑(4 : Nat) : Int)) ∧ (2 : Nat) < (4 : Nat) ∧ Sx.br (Decidable.decide (List.getD [c, d, e, f] (2 : Nat) (Sx.Ty.dflt (Sx.Ty.int Go.IntKind.u8)) <
      (128 : Int))) (Q (Sx.SV.tup [Sx.SV.lit (Go.Value.bool Bool.false), Sx.SV.lit (Go.Value.bool Bool.false)], [Sx.SO.row (5 : Nat) (Sx.Ty.int Go.IntKind.u8) [c, d, e, f]],
      [])) (((0 : Int) ≤ Go.IntKind.wrap Go.IntKind.i64 ((1 : Int) + (1 : Int)) ∧ Go.IntKind.wrap Go.IntKind.i64 ((1 : Int) + (1 : Int)) < (↑(4 : Nat) : Int)) ∧ (2 : Nat) < (4 :
      Nat) ∧ Sx.br (Decidable.decide (List.getD [c, d, e, f] (2 : Nat) (Sx.Ty.dflt (Sx.Ty.int Go.IntKind.u8)) > (191 : Int))) (Q (Sx.SV.tup [Sx.SV.lit (Go.Value.bool
      Bool.false), Sx.SV.lit (Go.Value.bool Bool.false)], [Sx.SO.row (5 : Nat) (Sx.Ty.int Go.IntKind.u8) [c, d, e, f]], [])) (((0 : Int) ≤ Go.IntKind.wrap Go.IntKind.i64
      (Go.IntKind.wrap Go.IntKind.i64 ((1 : Int) + (1 : Int)) + (1 : Int)) ∧ Go.IntKind.wrap Go.IntKind.i64 (Go.IntKind.wrap Go.IntKind.i64 ((1 : Int) + (1 : Int)) + (1 : Int))
      < (↑(4 : Nat) : Int)) ∧ (3 : Nat) < (4 : Nat) ∧ Sx.br (Decidable.decide (List.getD [c, d, e, f] (3 : Nat) (Sx.Ty.dflt (Sx.Ty.int Go.IntKind.u8)) < (128 : Int))) (Q
      (Sx.SV.tup [Sx.SV.lit (Go.Value.bool Bool.false), Sx.SV.lit (Go.Value.bool Bool.false)], [Sx.SO.row (5 : Nat) (Sx.Ty.int Go.IntKind.u8) [c, d, e, f]], [])) (((0 : Int) ≤
      Go.IntKind.wrap Go.IntKind.i64 (Go.IntKind.wrap Go.IntKind.i64 ((1 : Int) + (1 : Int)) + (1 : Int)) ∧ Go.IntKind.wrap Go.IntKind.i64 (Go.IntKind.wrap Go.IntKind.i64 ((1 :
      Int) + (1 : Int)) + (1 : Int)) < (↑(4 : Nat) : Int)) ∧ (3 : Nat) < (4 : Nat) ∧ Sx.br (Decidable.decide (List.getD [c, d, e, f] (3 : Nat) (Sx.Ty.dflt (Sx.Ty.int
      Go.IntKind.u8)) > (191 : Int))) (Q (Sx.SV.tup [Sx.SV.lit (Go.Value.bool Bool.false), Sx.SV.lit (Go.Value.bool Bool.false)], [Sx.SO.row (5 : Nat) (Sx.Ty.int Go.IntKind.u8)
      [c, d, e, f]], [])) (Q (Sx.SV.tup [Sx.SV.lit (Go.Value.bool Bool.true), Sx.SV.lit (Go.Value.bool Bool.true)], [Sx.SO.row (5 : Nat) (Sx.Ty.int Go.IntKind.u8) [c, d, e, f]],
      [])))))))))) (((0 : Int) ≤ (1 : Int) ∧ (1 : Int) < (↑(4 : Nat) : Int)) ∧ (1 : Nat) < (4 : Nat) ∧ Sx.br (Decidable.decide (List.getD [c, d, e, f] (1 : Nat) (Sx.Ty.dflt
      (Sx.Ty.int Go.IntKind.u8)) < (128 : Int))) (Q (Sx.SV.tup [Sx.SV.lit (Go.Value.bool Bool.false), Sx.SV.lit (Go.Value.bool Bool.false)], [Sx.SO.row (5 : Nat) (Sx.Ty.int
      Go.IntKind.u8) [c, d, e, f]], [])) (((0 : Int) ≤ (1 : Int) ∧ (1 : Int) < (↑(4 : Nat) : Int)) ∧ (1 : Nat) < (4 : Nat) ∧ Sx.br (Decidable.decide (List.getD [c, d, e, f] (1 :
      Nat) (Sx.Ty.dflt (Sx.Ty.int Go.IntKind.u8)) > (191 : Int))) (Q (Sx.SV.tup [Sx.SV.lit (Go.Value.bool Bool.false), Sx.SV.lit (Go.Value.bool Bool.false)], [Sx.SO.row (5 :
      Nat) (Sx.Ty.int Go.IntKind.u8) [c, d, e, f]], [])) (((0 : Int) ≤ (1 : Int) ∧ (1 : Int) < (↑(4 : Nat) : Int)) ∧ (1 : Nat) < (4 : Nat) ∧ Sx.br (Decidable.decide (List.getD
      [c, d, e, f] (1 : Nat) (Sx.Ty.dflt (Sx.Ty.int Go.IntKind.u8)) < (128 : Int))) (Q (Sx.SV.tup [Sx.SV.lit (Go.Value.bool Bool.false), Sx.SV.lit (Go.Value.bool Bool.false)],
      [Sx.SO.row (5 : Nat) (Sx.Ty.int Go.IntKind.u8) [c, d, e, f]], [])) (((0 : Int) ≤ (1 : Int) ∧ (1 : Int) < (↑(4 : Nat) : Int)) ∧ (1 : Nat) < (4 : Nat) ∧ Sx.br
      (Decidable.decide (List.getD [c, d, e, f] (1 : Nat) (Sx.Ty.dflt (Sx.Ty.int Go.IntKind.u8)) > (191 : Int))) (Q (Sx.SV.tup [Sx.SV.lit (Go.Value.bool Bool.false), Sx.SV.lit
      (Go.Value.bool Bool.false)], [Sx.SO.row (5 : Nat) (Sx.Ty.int Go.IntKind.u8) [c, d, e, f]], [])) (((0 : Int) ≤ Go.IntKind.wrap Go.IntKind.i64 ((1 : Int) + (1 : Int)) ∧
      Go.IntKind.wrap Go.IntKind.i64 ((1 : Int) + (1 : Int)) < (↑(4 : Nat) : Int)) ∧ (2 : Nat) < (4 : Nat) ∧ Sx.br (Decidable.decide (List.getD [c, d, e, f] (2 : Nat)
      (Sx.Ty.dflt (Sx.Ty.int Go.IntKind.u8)) < (128 : Int))) (Q (Sx.SV.tup [Sx.SV.lit (Go.Value.bool Bool.false), Sx.SV.lit (Go.Value.bool Bool.false)], [Sx.SO.row (5 : Nat)
      (Sx.Ty.int Go.IntKind.u8) [c, d, e, f]], [])) (((0 : Int) ≤ Go.IntKind.wrap Go.IntKind.i64 ((1 : Int) + (1 : Int)) ∧ Go.IntKind.wrap Go.IntKind.i64 ((1 : Int) + (1 : Int))
      < (↑(4 : Nat) : Int)) ∧ (2 : Nat) < (4 : Nat) ∧ Sx.br (Decidable.decide (List.getD [c, d, e, f] (2 : Nat) (Sx.Ty.dflt (Sx.Ty.int Go.IntKind.u8)) > (191 : Int))) (Q
      (Sx.SV.tup [Sx.SV.lit (Go.Value.bool Bool.false), Sx.SV.lit (Go.Value.bool Bool.false)], [Sx.SO.row (5 : Nat) (Sx.Ty.int Go.IntKind.u8) [c, d, e, f]], [])) (((0 : Int) ≤
      Go.IntKind.wrap Go.IntKind.i64 (Go.IntKind.wrap Go.IntKind.i64 ((1 : Int) + (1 : Int)) + (1 : Int)) ∧ Go.IntKind.wrap Go.IntKind.i64 (Go.IntKind.wrap Go.IntKind.i64 ((1 :
      Int) + (1 : Int)) + (1 : Int)) < (↑(4 : Nat) : Int)) ∧ (3 : Nat) < (4 : Nat) ∧ Sx.br (Decidable.decide (List.getD [c, d, e, f] (3 : Nat) (Sx.Ty.dflt (Sx.Ty.int
      Go.IntKind.u8)) < (128 : Int))) (Q (Sx.SV.tup [Sx.SV.lit (Go.Value.bool Bool.false), Sx.SV.lit (Go.Value.bool Bool.false)], [Sx.SO.row (5 : Nat) (Sx.Ty.int Go.IntKind.u8)
      [c, d, e, f]], [])) (((0 : Int) ≤ Go.IntKind.wrap Go.IntKind.i64 (Go.IntKind.wrap Go.IntKind.i64 ((1 : Int) + (1 : Int)) + (1 : Int)) ∧ Go.IntKind.wrap Go.IntKind.i64
      (Go.IntKind.wrap Go.IntKind.i64 ((1 : Int) + (1 : Int)) + (1 : Int)) < (↑(4 : Nat) : Int)) ∧ (3 : Nat) < (4 : Nat) ∧ Sx.br (Decidable.decide (List.getD [c, d, e, f] (3 :
      Nat) (Sx.Ty.dflt (Sx.Ty.int Go.IntKind.u8)) > (191 : Int))) (Q (Sx.SV.tup [Sx.SV.lit (Go.Value.bool Bool.false), Sx.SV.lit (Go.Value.bool Bool.false)], [Sx.SO.row (5 :
      Nat) (Sx.Ty.int Go.IntKind.u8) [c, d, e, f]], [])) (Q (Sx.SV.tup [Sx.SV.lit (Go.Value.bool Bool.true), Sx.SV.lit (Go.Value.bool Bool.true)], [Sx.SO.row (5 : Nat)
      (Sx.Ty.int Go.IntKind.u8) [c, d, e, f]], [])))))))))))) (Q (Sx.SV.tup [Sx.SV.lit (Go.Value.bool Bool.false), Sx.SV.lit (Go.Value.bool Bool.false)], [Sx.SO.row (5 : Nat)
      (Sx.Ty.int Go.IntKind.u8) [c, d, e, f]], []))) (Q (Sx.SV.tup [Sx.SV.lit (Go.Value.bool Bool.false), Sx.SV.lit (Go.Value.bool Bool.false)], [Sx.SO.row (5 : Nat) (Sx.Ty.int
      Go.IntKind.u8) [c, d, e, f]], [])))))) (by kernel_rfl) ?_
  simp only [List.getD_cons_zero, List.getD_cons_succ]
  have hlh := low_high c
  have w2 : IntKind.i64.wrap (1 + 1) = 2 := by decide
  have w3 : IntKind.i64.wrap (2 + 1) = 3 := by decide
  rw [w2, w3]
  have ht : tails c [d, e, f] = decide (128 ≤ f ∧ f ≤ 191) := by simp [tails, hd, he]
  refine ⟨by omega, by omega, br_intro (fun h => by have := of_decide_eq_true h; omega) (fun _ => ?_)⟩
  repeat' first | (refine br_intro (fun h => ?_) (fun h => ?_)) | (refine And.intro (by omega) ?_)
  all_goals simp only [decide_eq_true_eq, decide_eq_false_iff_not, beq_iff_eq, beq_eq_false_iff_ne] at *
  all_goals first
    | (exfalso; omega)
    | (rw [rmayT (w := 4) (x := true) (by omega) (by rw [ht]; exact decide_eq_true (by omega)) (wid4 (by omega)) rfl] at hq; exact hq)
    | (rw [rmayF (by omega) (by rw [ht]; exact decide_eq_false (by omega))] at hq; exact hq)
end T12
