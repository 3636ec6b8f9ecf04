/- Part of a proof: the walks of the functions that the law calls, and their plain laws; no condition. -/
import Derived.Test.YtlcobcpgaoeijaaGreatSxT
import Derived.Test.YtlcobcpgaoeijaaGreatM1
set_option linter.unusedVariables false
set_option linter.unusedSimpArgs false
section
open Go Sx Go.Proofs
namespace T12
set_option maxRecDepth 100000
set_option maxHeartbeats 8000000
attribute [local irreducible] Tree.Leads
/-- May these bytes begin a rune; are they one? (the document's) -/
def tails (c : Int) : List Int → Bool
  | [] => true
  | d :: r => decide (lowOf c ≤ d ∧ d ≤ highOf c) && r.all fun x => decide (128 ≤ x ∧ x ≤ 191)
def rmay : List Int → Bool × Bool
  | [] => (false, false)
  | c :: r => if c < 128 then (true, r.isEmpty) else if wid c = 0 then (false, false) else if tails c r then (true, decide ((r.length : Int) + 1 = wid c)) else (false, false)
theorem rmay1 {c : Int} {r : List Int} (h : c < 128) : rmay (c :: r) = (true, r.isEmpty) := by simp only [rmay]; rw [if_pos h]
theorem rmay0 {c : Int} {r : List Int} (h : 128 ≤ c) (h2 : c < 194 ∨ 244 < c) : rmay (c :: r) = (false, false) := by
  simp only [rmay]; rw [if_neg (by omega), if_pos (by unfold wid; rw [if_neg (by omega), if_neg (by omega), if_neg (by omega), if_neg (by omega)])]
theorem rmayT {c : Int} {r : List Int} (h : 194 ≤ c ∧ c ≤ 244) (ht : tails c r = true) {w : Int} (hw : wid c = w) {x : Bool} (hx : decide ((r.length : Int) + 1 = w) = x) : rmay (c :: r) = (true, x) := by
  have h0 : wid c ≠ 0 := by
    rcases (show (194 ≤ c ∧ c ≤ 223) ∨ (224 ≤ c ∧ c ≤ 239) ∨ (240 ≤ c ∧ c ≤ 244) by omega) with h | h | h
    · rw [wid2 h]; omega
    · rw [wid3 h]; omega
    · rw [wid4 h]; omega
  simp only [rmay]; rw [if_neg (by omega), if_neg h0, if_pos ht, hw, hx]
theorem rmayF {c : Int} {r : List Int} (h : 194 ≤ c ∧ c ≤ 244) (ht : tails c r = false) : rmay (c :: r) = (false, false) := by
  have h0 : wid c ≠ 0 := by
    rcases (show (194 ≤ c ∧ c ≤ 223) ∨ (224 ≤ c ∧ c ≤ 239) ∨ (240 ≤ c ∧ c ≤ 244) by omega) with h | h | h
    · rw [wid2 h]; omega
    · rw [wid3 h]; omega
    · rw [wid4 h]; omega
  simp only [rmay]; rw [if_neg (by omega), if_neg h0, if_neg (by rw [ht]; simp)]
/-- The bounds of a second byte, once for all. -/
theorem low_high (c : Int) : (lowOf c = 160 ∧ c = 224 ∨ lowOf c = 144 ∧ c = 240 ∨ lowOf c = 128 ∧ c ≠ 224 ∧ c ≠ 240) ∧ (highOf c = 159 ∧ c = 237 ∨ highOf c = 143 ∧ c = 244 ∨ highOf c = 191 ∧ c ≠ 237 ∧ c ≠ 244) := by
  unfold lowOf highOf
  repeat' split
  all_goals omega
noncomputable abbrev zT13rp_1 (c : Int) : SV × Heap × List Nat := (SV.tup [SV.lit (Value.bool true), SV.lit (Value.bool false)], [SO.row 5 (Ty.int IntKind.u8) [c]], [])
noncomputable abbrev zT13rp_0 (c : Int) (Q : SV × Heap × List Nat → Prop) := (br (decide (List.getD [c] 0 (Ty.dflt (Ty.int IntKind.u8)) ≥ (240 : Int))) (br (decide (List.getD [c] 0 (Ty.dflt (Ty.int IntKind.u8)) ≤ (244 : Int))) (br (List.getD [c] 0 (Ty.dflt (Ty.int IntKind.u8)) == (240 : Int)) (br (List.getD [c] 0 (Ty.dflt (Ty.int IntKind.u8)) == (244 : Int)) (Q (zT13rp_1 c)) (Q (zT13rp_1 c))) (br (List.getD [c] 0 (Ty.dflt (Ty.int IntKind.u8)) == (244 : Int)) (Q (zT13rp_1 c)) (Q (zT13rp_1 c)))) (Q (SV.tup [SV.lit (Value.bool false), SV.lit (Value.bool false)], [SO.row 5 (Ty.int IntKind.u8) [c]], []))) (Q (SV.tup [SV.lit (Value.bool false), SV.lit (Value.bool false)], [SO.row 5 (Ty.int IntKind.u8) [c]], [])))
noncomputable abbrev zT13rp_2 (c : Int) (Q : SV × Heap × List Nat → Prop) := (br (decide (List.getD [c] 0 (Ty.dflt (Ty.int IntKind.u8)) ≥ (224 : Int))) (br (decide (List.getD [c] 0 (Ty.dflt (Ty.int IntKind.u8)) ≤ (239 : Int))) (br (List.getD [c] 0 (Ty.dflt (Ty.int IntKind.u8)) == (224 : Int)) (br (List.getD [c] 0 (Ty.dflt (Ty.int IntKind.u8)) == (237 : Int)) (Q (zT13rp_1 c)) (Q (zT13rp_1 c))) (br (List.getD [c] 0 (Ty.dflt (Ty.int IntKind.u8)) == (237 : Int)) (Q (zT13rp_1 c)) (Q (zT13rp_1 c)))) (zT13rp_0 c Q)) (zT13rp_0 c Q))
theorem v67a (c : Int) (hc : Byte c) (Q : SV × Heap × List Nat → Prop) (hq : Q (.tup [.lit (.bool (rmay [c]).1), .lit (.bool (rmay [c]).2)], [.row 5 (.int .u8) [c]], [])) :
    (bodySumm Table.none Tryz.prog Tryz.f95 noAn [.sl 0 1 0 1] [.row 5 (.int .u8) [c]]).Leads Q := by
  refine Sx.by_text (q :=
   ((0 : Int) ≤ (0 : Int) ∧ (0 : Int) < (↑(1 : Nat) : Int)) ∧ 0 < 1 ∧ br (decide (List.getD [c] 0 (Ty.dflt (Ty.int IntKind.u8)) < (128 : Int))) (Q (SV.tup [SV.lit (Value.bool
   true), SV.lit (Value.bool true)], [SO.row 5 (Ty.int IntKind.u8) [c]], [])) (br (decide (List.getD [c] 0 (Ty.dflt (Ty.int IntKind.u8)) ≥ (194 : Int))) (br (decide
   (List.getD [c] 0 (Ty.dflt (Ty.int IntKind.u8)) ≤ (223 : Int))) (Q (zT13rp_1 c)) (zT13rp_2 c Q)) (zT13rp_2 c Q))) (by kernel_rfl) ?_
  delta zT13rp_0 zT13rp_1 zT13rp_2
  simp only [List.getD_cons_zero]
  refine ⟨by omega, by omega, ?_⟩
  repeat' (refine br_intro (fun h => ?_) (fun h => ?_))
  all_goals simp only [decide_eq_true_eq, decide_eq_false_iff_not, beq_iff_eq, beq_eq_false_iff_ne] at *
  all_goals first
    | (exfalso; omega)
    | (rw [rmay1 (by omega)] at hq; exact hq)
    | (rw [rmay0 (by omega) (by omega)] at hq; exact hq)
    | (rw [rmayT (w := 2) (x := false) (by omega) rfl (wid2 (by omega)) rfl] at hq; exact hq)
    | (rw [rmayT (w := 3) (x := false) (by omega) rfl (wid3 (by omega)) rfl] at hq; exact hq)
    | (rw [rmayT (w := 4) (x := false) (by omega) rfl (wid4 (by omega)) rfl] at hq; exact hq)
noncomputable abbrev zT13rp_7 := ((0 : Int) ≤ (1 : Int) ∧ (1 : Int) < (↑(2 : Nat) : Int))
noncomputable abbrev zT13rp_5 (c : Int) (d : Int) (Q : SV × Heap × List Nat → Prop) := (Q (SV.tup [SV.lit (Value.bool false), SV.lit (Value.bool false)], [SO.row 5 (Ty.int IntKind.u8) [c, d]], []))
noncomputable abbrev zT13rp_8 (c : Int) (d : Int) := (decide (List.getD [c, d] 1 (Ty.dflt (Ty.int IntKind.u8)) < (128 : Int)))
noncomputable abbrev zT13rp_9 (c : Int) (d : Int) := (decide (List.getD [c, d] 1 (Ty.dflt (Ty.int IntKind.u8)) > (191 : Int)))
noncomputable abbrev zT13rp_4 (c : Int) (d : Int) (Q : SV × Heap × List Nat → Prop) := ((zT13rp_7) ∧ 1 < 2 ∧ br (zT13rp_8 c d) (zT13rp_5 c d Q) ((zT13rp_7) ∧ 1 < 2 ∧ br (zT13rp_9 c d) (zT13rp_5 c d Q) (Q (SV.tup [SV.lit (Value.bool true), SV.lit (Value.bool false)], [SO.row 5 (Ty.int IntKind.u8) [c, d]], []))))
noncomputable abbrev zT13rp_3 (c : Int) (d : Int) (Q : SV × Heap × List Nat → Prop) := (br (decide (List.getD [c, d] 0 (Ty.dflt (Ty.int IntKind.u8)) ≥ (240 : Int))) (br (decide (List.getD [c, d] 0 (Ty.dflt (Ty.int IntKind.u8)) ≤ (244 : Int))) (br (List.getD [c, d] 0 (Ty.dflt (Ty.int IntKind.u8)) == (240 : Int)) (br (List.getD [c, d] 0 (Ty.dflt (Ty.int IntKind.u8)) == (244 : Int)) ((zT13rp_7) ∧ 1 < 2 ∧ br (decide (List.getD [c, d] 1 (Ty.dflt (Ty.int IntKind.u8)) < (144 : Int))) (zT13rp_5 c d Q) ((zT13rp_7) ∧ 1 < 2 ∧ br (decide (List.getD [c, d] 1 (Ty.dflt (Ty.int IntKind.u8)) > (143 : Int))) (zT13rp_5 c d Q) (zT13rp_4 c d Q))) ((zT13rp_7) ∧ 1 < 2 ∧ br (decide (List.getD [c, d] 1 (Ty.dflt (Ty.int IntKind.u8)) < (144 : Int))) (zT13rp_5 c d Q) ((zT13rp_7) ∧ 1 < 2 ∧ br (zT13rp_9 c d) (zT13rp_5 c d Q) (zT13rp_4 c d Q)))) (br (List.getD [c, d] 0 (Ty.dflt (Ty.int IntKind.u8)) == (244 : Int)) ((zT13rp_7) ∧ 1 < 2 ∧ br (zT13rp_8 c d) (zT13rp_5 c d Q) ((zT13rp_7) ∧ 1 < 2 ∧ br (decide (List.getD [c, d] 1 (Ty.dflt (Ty.int IntKind.u8)) > (143 : Int))) (zT13rp_5 c d Q) (zT13rp_4 c d Q))) ((zT13rp_7) ∧ 1 < 2 ∧ br (zT13rp_8 c d) (zT13rp_5 c d Q) ((zT13rp_7) ∧ 1 < 2 ∧ br (zT13rp_9 c d) (zT13rp_5 c d Q) (zT13rp_4 c d Q))))) (zT13rp_5 c d Q)) (zT13rp_5 c d Q))
noncomputable abbrev zT13rp_6 (c : Int) (d : Int) (Q : SV × Heap × List Nat → Prop) := (br (decide (List.getD [c, d] 0 (Ty.dflt (Ty.int IntKind.u8)) ≥ (224 : Int))) (br (decide (List.getD [c, d] 0 (Ty.dflt (Ty.int IntKind.u8)) ≤ (239 : Int))) (br (List.getD [c, d] 0 (Ty.dflt (Ty.int IntKind.u8)) == (224 : Int)) (br (List.getD [c, d] 0 (Ty.dflt (Ty.int IntKind.u8)) == (237 : Int)) ((zT13rp_7) ∧ 1 < 2 ∧ br (decide (List.getD [c, d] 1 (Ty.dflt (Ty.int IntKind.u8)) < (160 : Int))) (zT13rp_5 c d Q) ((zT13rp_7) ∧ 1 < 2 ∧ br (decide (List.getD [c, d] 1 (Ty.dflt (Ty.int IntKind.u8)) > (159 : Int))) (zT13rp_5 c d Q) (zT13rp_4 c d Q))) ((zT13rp_7) ∧ 1 < 2 ∧ br (decide (List.getD [c, d] 1 (Ty.dflt (Ty.int IntKind.u8)) < (160 : Int))) (zT13rp_5 c d Q) ((zT13rp_7) ∧ 1 < 2 ∧ br (zT13rp_9 c d) (zT13rp_5 c d Q) (zT13rp_4 c d Q)))) (br (List.getD [c, d] 0 (Ty.dflt (Ty.int IntKind.u8)) == (237 : Int)) ((zT13rp_7) ∧ 1 < 2 ∧ br (zT13rp_8 c d) (zT13rp_5 c d Q) ((zT13rp_7) ∧ 1 < 2 ∧ br (decide (List.getD [c, d] 1 (Ty.dflt (Ty.int IntKind.u8)) > (159 : Int))) (zT13rp_5 c d Q) (zT13rp_4 c d Q))) ((zT13rp_7) ∧ 1 < 2 ∧ br (zT13rp_8 c d) (zT13rp_5 c d Q) ((zT13rp_7) ∧ 1 < 2 ∧ br (zT13rp_9 c d) (zT13rp_5 c d Q) (zT13rp_4 c d Q))))) (zT13rp_3 c d Q)) (zT13rp_3 c d Q))
theorem v67b (c d : Int) (hc : Byte c) (hd : Byte d) (h194 : 194 ≤ c ∧ c ≤ 244) (Q : SV × Heap × List Nat → Prop) (hq : Q (.tup [.lit (.bool (rmay [c, d]).1), .lit (.bool (rmay [c, d]).2)], [.row 5 (.int .u8) [c, d]], [])) :
    (bodySumm Table.none Tryz.prog Tryz.f95 noAn [.sl 0 1 0 2] [.row 5 (.int .u8) [c, d]]).Leads Q := by
  refine Sx.by_text (q :=
   ((0 : Int) ≤ (0 : Int) ∧ (0 : Int) < (↑(2 : Nat) : Int)) ∧ 0 < 2 ∧ br (decide (List.getD [c, d] 0 (Ty.dflt (Ty.int IntKind.u8)) < (128 : Int))) (Q (SV.tup [SV.lit
   (Value.bool true), SV.lit (Value.bool false)], [SO.row 5 (Ty.int IntKind.u8) [c, d]], [])) (br (decide (List.getD [c, d] 0 (Ty.dflt (Ty.int IntKind.u8)) ≥ (194 : Int)))
   (br (decide (List.getD [c, d] 0 (Ty.dflt (Ty.int IntKind.u8)) ≤ (223 : Int))) ((zT13rp_7) ∧ 1 < 2 ∧ br (zT13rp_8 c d) (zT13rp_5 c d Q) ((zT13rp_7) ∧ 1 < 2 ∧ br (zT13rp_9 c
   d) (zT13rp_5 c d Q) ((zT13rp_7) ∧ 1 < 2 ∧ br (zT13rp_8 c d) (zT13rp_5 c d Q) ((zT13rp_7) ∧ 1 < 2 ∧ br (zT13rp_9 c d) (zT13rp_5 c d Q) (Q (SV.tup [SV.lit (Value.bool true),
   SV.lit (Value.bool true)], [SO.row 5 (Ty.int IntKind.u8) [c, d]], [])))))) (zT13rp_6 c d Q)) (zT13rp_6 c d Q))) (by kernel_rfl) ?_
  delta zT13rp_3 zT13rp_4 zT13rp_5 zT13rp_6 zT13rp_7 zT13rp_8 zT13rp_9
  simp only [List.getD_cons_zero, List.getD_cons_succ]
  have hlh := low_high c
  have ht : tails c [d] = decide (lowOf c ≤ d ∧ d ≤ highOf c) := by simp [tails]
  refine ⟨by omega, by omega, br_intro (fun h => by have := of_decide_eq_true h; omega) (fun _ => ?_)⟩
  repeat' first | (refine br_intro (fun h => ?_) (fun h => ?_)) | (refine And.intro (by omega) ?_)
  all_goals simp only [decide_eq_true_eq, decide_eq_false_iff_not, beq_iff_eq, beq_eq_false_iff_ne] at *
  all_goals first
    | (exfalso; omega)
    | (rw [rmayT (w := 2) (x := true) (by omega) (by rw [ht]; exact decide_eq_true (by omega)) (wid2 (by omega)) rfl] at hq; exact hq)
    | (rw [rmayT (w := 3) (x := false) (by omega) (by rw [ht]; exact decide_eq_true (by omega)) (wid3 (by omega)) rfl] at hq; exact hq)
    | (rw [rmayT (w := 4) (x := false) (by omega) (by rw [ht]; exact decide_eq_true (by omega)) (wid4 (by omega)) rfl] at hq; exact hq)
    | (rw [rmayF (by omega) (by rw [ht]; exact decide_eq_false (by omega))] at hq; exact hq)
noncomputable abbrev zT13rp_15 := ((0 : Int) ≤ (1 : Int) ∧ (1 : Int) < (↑(3 : Nat) : Int))
noncomputable abbrev zT13rp_13 (c : Int) (d : Int) (e : Int) (Q : SV × Heap × List Nat → Prop) := (Q (SV.tup [SV.lit (Value.bool false), SV.lit (Value.bool false)], [SO.row 5 (Ty.int IntKind.u8) [c, d, e]], []))
noncomputable abbrev zT13rp_17 (c : Int) (d : Int) (e : Int) := (decide (List.getD [c, d, e] 1 (Ty.dflt (Ty.int IntKind.u8)) < (128 : Int)))
noncomputable abbrev zT13rp_18 (c : Int) (d : Int) (e : Int) := (decide (List.getD [c, d, e] 1 (Ty.dflt (Ty.int IntKind.u8)) > (191 : Int)))
noncomputable abbrev zT13rp_16 := ((0 : Int) ≤ IntKind.wrap IntKind.i64 ((1 : Int) + (1 : Int)) ∧ IntKind.wrap IntKind.i64 ((1 : Int) + (1 : Int)) < (↑(3 : Nat) : Int))
noncomputable abbrev zT13rp_12 (c : Int) (d : Int) (e : Int) (Q : SV × Heap × List Nat → Prop) := ((zT13rp_15) ∧ 1 < 3 ∧ br (zT13rp_17 c d e) (zT13rp_13 c d e Q) ((zT13rp_15) ∧ 1 < 3 ∧ br (zT13rp_18 c d e) (zT13rp_13 c d e Q) ((zT13rp_16) ∧ 2 < 3 ∧ br (decide (List.getD [c, d, e] 2 (Ty.dflt (Ty.int IntKind.u8)) < (128 : Int))) (zT13rp_13 c d e Q) ((zT13rp_16) ∧ 2 < 3 ∧ br (decide (List.getD [c, d, e] 2 (Ty.dflt (Ty.int IntKind.u8)) > (191 : Int))) (zT13rp_13 c d e Q) (Q (SV.tup [SV.lit (Value.bool true), SV.lit (Value.bool false)], [SO.row 5 (Ty.int IntKind.u8) [c, d, e]], []))))))
noncomputable abbrev zT13rp_10 (c : Int) (d : Int) (e : Int) (Q : SV × Heap × List Nat → Prop) := (br (decide (List.getD [c, d, e] 0 (Ty.dflt (Ty.int IntKind.u8)) ≥ (240 : Int))) (br (decide (List.getD [c, d, e] 0 (Ty.dflt (Ty.int IntKind.u8)) ≤ (244 : Int))) (br (List.getD [c, d, e] 0 (Ty.dflt (Ty.int IntKind.u8)) == (240 : Int)) (br (List.getD [c, d, e] 0 (Ty.dflt (Ty.int IntKind.u8)) == (244 : Int)) ((zT13rp_15) ∧ 1 < 3 ∧ br (decide (List.getD [c, d, e] 1 (Ty.dflt (Ty.int IntKind.u8)) < (144 : Int))) (zT13rp_13 c d e Q) ((zT13rp_15) ∧ 1 < 3 ∧ br (decide (List.getD [c, d, e] 1 (Ty.dflt (Ty.int IntKind.u8)) > (143 : Int))) (zT13rp_13 c d e Q) (zT13rp_12 c d e Q))) ((zT13rp_15) ∧ 1 < 3 ∧ br (decide (List.getD [c, d, e] 1 (Ty.dflt (Ty.int IntKind.u8)) < (144 : Int))) (zT13rp_13 c d e Q) ((zT13rp_15) ∧ 1 < 3 ∧ br (zT13rp_18 c d e) (zT13rp_13 c d e Q) (zT13rp_12 c d e Q)))) (br (List.getD [c, d, e] 0 (Ty.dflt (Ty.int IntKind.u8)) == (244 : Int)) ((zT13rp_15) ∧ 1 < 3 ∧ br (zT13rp_17 c d e) (zT13rp_13 c d e Q) ((zT13rp_15) ∧ 1 < 3 ∧ br (decide (List.getD [c, d, e] 1 (Ty.dflt (Ty.int IntKind.u8)) > (143 : Int))) (zT13rp_13 c d e Q) (zT13rp_12 c d e Q))) ((zT13rp_15) ∧ 1 < 3 ∧ br (zT13rp_17 c d e) (zT13rp_13 c d e Q) ((zT13rp_15) ∧ 1 < 3 ∧ br (zT13rp_18 c d e) (zT13rp_13 c d e Q) (zT13rp_12 c d e Q))))) (zT13rp_13 c d e Q)) (zT13rp_13 c d e Q))
noncomputable abbrev zT13rp_11 (c : Int) (d : Int) (e : Int) (Q : SV × Heap × List Nat → Prop) := ((zT13rp_15) ∧ 1 < 3 ∧ br (zT13rp_17 c d e) (zT13rp_13 c d e Q) ((zT13rp_15) ∧ 1 < 3 ∧ br (zT13rp_18 c d e) (zT13rp_13 c d e Q) ((zT13rp_16) ∧ 2 < 3 ∧ br (decide (List.getD [c, d, e] 2 (Ty.dflt (Ty.int IntKind.u8)) < (128 : Int))) (zT13rp_13 c d e Q) ((zT13rp_16) ∧ 2 < 3 ∧ br (decide (List.getD [c, d, e] 2 (Ty.dflt (Ty.int IntKind.u8)) > (191 : Int))) (zT13rp_13 c d e Q) (Q (SV.tup [SV.lit (Value.bool true), SV.lit (Value.bool true)], [SO.row 5 (Ty.int IntKind.u8) [c, d, e]], []))))))
noncomputable abbrev zT13rp_14 (c : Int) (d : Int) (e : Int) (Q : SV × Heap × List Nat → Prop) := (br (decide (List.getD [c, d, e] 0 (Ty.dflt (Ty.int IntKind.u8)) ≥ (224 : Int))) (br (decide (List.getD [c, d, e] 0 (Ty.dflt (Ty.int IntKind.u8)) ≤ (239 : Int))) (br (List.getD [c, d, e] 0 (Ty.dflt (Ty.int IntKind.u8)) == (224 : Int)) (br (List.getD [c, d, e] 0 (Ty.dflt (Ty.int IntKind.u8)) == (237 : Int)) ((zT13rp_15) ∧ 1 < 3 ∧ br (decide (List.getD [c, d, e] 1 (Ty.dflt (Ty.int IntKind.u8)) < (160 : Int))) (zT13rp_13 c d e Q) ((zT13rp_15) ∧ 1 < 3 ∧ br (decide (List.getD [c, d, e] 1 (Ty.dflt (Ty.int IntKind.u8)) > (159 : Int))) (zT13rp_13 c d e Q) (zT13rp_11 c d e Q))) ((zT13rp_15) ∧ 1 < 3 ∧ br (decide (List.getD [c, d, e] 1 (Ty.dflt (Ty.int IntKind.u8)) < (160 : Int))) (zT13rp_13 c d e Q) ((zT13rp_15) ∧ 1 < 3 ∧ br (zT13rp_18 c d e) (zT13rp_13 c d e Q) (zT13rp_11 c d e Q)))) (br (List.getD [c, d, e] 0 (Ty.dflt (Ty.int IntKind.u8)) == (237 : Int)) ((zT13rp_15) ∧ 1 < 3 ∧ br (zT13rp_17 c d e) (zT13rp_13 c d e Q) ((zT13rp_15) ∧ 1 < 3 ∧ br (decide (List.getD [c, d, e] 1 (Ty.dflt (Ty.int IntKind.u8)) > (159 : Int))) (zT13rp_13 c d e Q) (zT13rp_11 c d e Q))) ((zT13rp_15) ∧ 1 < 3 ∧ br (zT13rp_17 c d e) (zT13rp_13 c d e Q) ((zT13rp_15) ∧ 1 < 3 ∧ br (zT13rp_18 c d e) (zT13rp_13 c d e Q) (zT13rp_11 c d e Q))))) (zT13rp_10 c d e Q)) (zT13rp_10 c d e Q))
theorem v67c (c d e : Int) (h194 : 224 ≤ c ∧ c ≤ 244) (hd : lowOf c ≤ d ∧ d ≤ highOf c) (Q : SV × Heap × List Nat → Prop) (hq : Q (.tup [.lit (.bool (rmay [c, d, e]).1), .lit (.bool (rmay [c, d, e]).2)], [.row 5 (.int .u8) [c, d, e]], [])) :
    (bodySumm Table.none Tryz.prog Tryz.f95 noAn [.sl 0 1 0 3] [.row 5 (.int .u8) [c, d, e]]).Leads Q := by
  refine Sx.by_text (q :=
   ((0 : Int) ≤ (0 : Int) ∧ (0 : Int) < (↑(3 : Nat) : Int)) ∧ 0 < 3 ∧ br (decide (List.getD [c, d, e] 0 (Ty.dflt (Ty.int IntKind.u8)) < (128 : Int))) (Q (SV.tup [SV.lit
   (Value.bool true), SV.lit (Value.bool false)], [SO.row 5 (Ty.int IntKind.u8) [c, d, e]], [])) (br (decide (List.getD [c, d, e] 0 (Ty.dflt (Ty.int IntKind.u8)) ≥ (194 :
   Int))) (br (decide (List.getD [c, d, e] 0 (Ty.dflt (Ty.int IntKind.u8)) ≤ (223 : Int))) ((zT13rp_15) ∧ 1 < 3 ∧ br (zT13rp_17 c d e) (zT13rp_13 c d e Q) ((zT13rp_15) ∧ 1 <
   3 ∧ br (zT13rp_18 c d e) (zT13rp_13 c d e Q) (zT13rp_12 c d e Q))) (zT13rp_14 c d e Q)) (zT13rp_14 c d e Q))) (by kernel_rfl) ?_
  delta zT13rp_10 zT13rp_11 zT13rp_12 zT13rp_13 zT13rp_14 zT13rp_15 zT13rp_16 zT13rp_17 zT13rp_18
  simp only [List.getD_cons_zero, List.getD_cons_succ]
  have hlh := low_high c
  have w2 : IntKind.i64.wrap (1 + 1) = 2 := by decide
  rw [w2]
  have ht : tails c [d, e] = decide (128 ≤ e ∧ e ≤ 191) := by simp [tails, hd]
  refine ⟨by omega, by omega, br_intro (fun h => by have := of_decide_eq_true h; omega) (fun _ => ?_)⟩
  repeat' first | (refine br_intro (fun h => ?_) (fun h => ?_)) | (refine And.intro (by omega) ?_)
  all_goals simp only [decide_eq_true_eq, decide_eq_false_iff_not, beq_iff_eq, beq_eq_false_iff_ne] at *
  all_goals first
    | (exfalso; omega)
    | (rw [rmayT (w := 3) (x := true) (by omega) (by rw [ht]; exact decide_eq_true (by omega)) (wid3 (by omega)) rfl] at hq; exact hq)
    | (rw [rmayT (w := 4) (x := false) (by omega) (by rw [ht]; exact decide_eq_true (by omega)) (wid4 (by omega)) rfl] at hq; exact hq)
    | (rw [rmayF (by omega) (by rw [ht]; exact decide_eq_false (by omega))] at hq; exact hq)
noncomputable abbrev zT13rp_24 := ((0 : Int) ≤ (1 : Int) ∧ (1 : Int) < (↑(4 : Nat) : Int))
noncomputable abbrev zT13rp_22 (c : Int) (d : Int) (e : Int) (f : Int) (Q : SV × Heap × List Nat → Prop) := (Q (SV.tup [SV.lit (Value.bool false), SV.lit (Value.bool false)], [SO.row 5 (Ty.int IntKind.u8) [c, d, e, f]], []))
noncomputable abbrev zT13rp_27 (c : Int) (d : Int) (e : Int) (f : Int) := (decide (List.getD [c, d, e, f] 1 (Ty.dflt (Ty.int IntKind.u8)) < (128 : Int)))
noncomputable abbrev zT13rp_28 (c : Int) (d : Int) (e : Int) (f : Int) := (decide (List.getD [c, d, e, f] 1 (Ty.dflt (Ty.int IntKind.u8)) > (191 : Int)))
noncomputable abbrev zT13rp_26 := ((0 : Int) ≤ IntKind.wrap IntKind.i64 ((1 : Int) + (1 : Int)) ∧ IntKind.wrap IntKind.i64 ((1 : Int) + (1 : Int)) < (↑(4 : Nat) : Int))
noncomputable abbrev zT13rp_25 := ((0 : Int) ≤ IntKind.wrap IntKind.i64 (IntKind.wrap IntKind.i64 ((1 : Int) + (1 : Int)) + (1 : Int)) ∧ IntKind.wrap IntKind.i64 (IntKind.wrap IntKind.i64 ((1 : Int) + (1 : Int)) + (1 : Int)) < (↑(4 : Nat) : Int))
noncomputable abbrev zT13rp_21 (c : Int) (d : Int) (e : Int) (f : Int) (Q : SV × Heap × List Nat → Prop) := ((zT13rp_24) ∧ 1 < 4 ∧ br (zT13rp_27 c d e f) (zT13rp_22 c d e f Q) ((zT13rp_24) ∧ 1 < 4 ∧ br (zT13rp_28 c d e f) (zT13rp_22 c d e f Q) ((zT13rp_26) ∧ 2 < 4 ∧ br (decide (List.getD [c, d, e, f] 2 (Ty.dflt (Ty.int IntKind.u8)) < (128 : Int))) (zT13rp_22 c d e f Q) ((zT13rp_26) ∧ 2 < 4 ∧ br (decide (List.getD [c, d, e, f] 2 (Ty.dflt (Ty.int IntKind.u8)) > (191 : Int))) (zT13rp_22 c d e f Q) ((zT13rp_25) ∧ 3 < 4 ∧ br (decide (List.getD [c, d, e, f] 3 (Ty.dflt (Ty.int IntKind.u8)) < (128 : Int))) (zT13rp_22 c d e f Q) ((zT13rp_25) ∧ 3 < 4 ∧ br (decide (List.getD [c, d, e, f] 3 (Ty.dflt (Ty.int IntKind.u8)) > (191 : Int))) (zT13rp_22 c d e f Q) (Q (SV.tup [SV.lit (Value.bool true), SV.lit (Value.bool true)], [SO.row 5 (Ty.int IntKind.u8) [c, d, e, f]], []))))))))
noncomputable abbrev zT13rp_19 (c : Int) (d : Int) (e : Int) (f : Int) (Q : SV × Heap × List Nat → Prop) := (br (decide (List.getD [c, d, e, f] 0 (Ty.dflt (Ty.int IntKind.u8)) ≥ (240 : Int))) (br (decide (List.getD [c, d, e, f] 0 (Ty.dflt (Ty.int IntKind.u8)) ≤ (244 : Int))) (br (List.getD [c, d, e, f] 0 (Ty.dflt (Ty.int IntKind.u8)) == (240 : Int)) (br (List.getD [c, d, e, f] 0 (Ty.dflt (Ty.int IntKind.u8)) == (244 : Int)) ((zT13rp_24) ∧ 1 < 4 ∧ br (decide (List.getD [c, d, e, f] 1 (Ty.dflt (Ty.int IntKind.u8)) < (144 : Int))) (zT13rp_22 c d e f Q) ((zT13rp_24) ∧ 1 < 4 ∧ br (decide (List.getD [c, d, e, f] 1 (Ty.dflt (Ty.int IntKind.u8)) > (143 : Int))) (zT13rp_22 c d e f Q) (zT13rp_21 c d e f Q))) ((zT13rp_24) ∧ 1 < 4 ∧ br (decide (List.getD [c, d, e, f] 1 (Ty.dflt (Ty.int IntKind.u8)) < (144 : Int))) (zT13rp_22 c d e f Q) ((zT13rp_24) ∧ 1 < 4 ∧ br (zT13rp_28 c d e f) (zT13rp_22 c d e f Q) (zT13rp_21 c d e f Q)))) (br (List.getD [c, d, e, f] 0 (Ty.dflt (Ty.int IntKind.u8)) == (244 : Int)) ((zT13rp_24) ∧ 1 < 4 ∧ br (zT13rp_27 c d e f) (zT13rp_22 c d e f Q) ((zT13rp_24) ∧ 1 < 4 ∧ br (decide (List.getD [c, d, e, f] 1 (Ty.dflt (Ty.int IntKind.u8)) > (143 : Int))) (zT13rp_22 c d e f Q) (zT13rp_21 c d e f Q))) ((zT13rp_24) ∧ 1 < 4 ∧ br (zT13rp_27 c d e f) (zT13rp_22 c d e f Q) ((zT13rp_24) ∧ 1 < 4 ∧ br (zT13rp_28 c d e f) (zT13rp_22 c d e f Q) (zT13rp_21 c d e f Q))))) (zT13rp_22 c d e f Q)) (zT13rp_22 c d e f Q))
noncomputable abbrev zT13rp_20 (c : Int) (d : Int) (e : Int) (f : Int) (Q : SV × Heap × List Nat → Prop) := ((zT13rp_24) ∧ 1 < 4 ∧ br (zT13rp_27 c d e f) (zT13rp_22 c d e f Q) ((zT13rp_24) ∧ 1 < 4 ∧ br (zT13rp_28 c d e f) (zT13rp_22 c d e f Q) ((zT13rp_26) ∧ 2 < 4 ∧ br (decide (List.getD [c, d, e, f] 2 (Ty.dflt (Ty.int IntKind.u8)) < (128 : Int))) (zT13rp_22 c d e f Q) ((zT13rp_26) ∧ 2 < 4 ∧ br (decide (List.getD [c, d, e, f] 2 (Ty.dflt (Ty.int IntKind.u8)) > (191 : Int))) (zT13rp_22 c d e f Q) ((zT13rp_25) ∧ 3 < 4 ∧ br (decide (List.getD [c, d, e, f] 3 (Ty.dflt (Ty.int IntKind.u8)) < (128 : Int))) (zT13rp_22 c d e f Q) ((zT13rp_25) ∧ 3 < 4 ∧ br (decide (List.getD [c, d, e, f] 3 (Ty.dflt (Ty.int IntKind.u8)) > (191 : Int))) (zT13rp_22 c d e f Q) (Q (SV.tup [SV.lit (Value.bool true), SV.lit (Value.bool false)], [SO.row 5 (Ty.int IntKind.u8) [c, d, e, f]], []))))))))
noncomputable abbrev zT13rp_23 (c : Int) (d : Int) (e : Int) (f : Int) (Q : SV × Heap × List Nat → Prop) := (br (decide (List.getD [c, d, e, f] 0 (Ty.dflt (Ty.int IntKind.u8)) ≥ (224 : Int))) (br (decide (List.getD [c, d, e, f] 0 (Ty.dflt (Ty.int IntKind.u8)) ≤ (239 : Int))) (br (List.getD [c, d, e, f] 0 (Ty.dflt (Ty.int IntKind.u8)) == (224 : Int)) (br (List.getD [c, d, e, f] 0 (Ty.dflt (Ty.int IntKind.u8)) == (237 : Int)) ((zT13rp_24) ∧ 1 < 4 ∧ br (decide (List.getD [c, d, e, f] 1 (Ty.dflt (Ty.int IntKind.u8)) < (160 : Int))) (zT13rp_22 c d e f Q) ((zT13rp_24) ∧ 1 < 4 ∧ br (decide (List.getD [c, d, e, f] 1 (Ty.dflt (Ty.int IntKind.u8)) > (159 : Int))) (zT13rp_22 c d e f Q) (zT13rp_20 c d e f Q))) ((zT13rp_24) ∧ 1 < 4 ∧ br (decide (List.getD [c, d, e, f] 1 (Ty.dflt (Ty.int IntKind.u8)) < (160 : Int))) (zT13rp_22 c d e f Q) ((zT13rp_24) ∧ 1 < 4 ∧ br (zT13rp_28 c d e f) (zT13rp_22 c d e f Q) (zT13rp_20 c d e f Q)))) (br (List.getD [c, d, e, f] 0 (Ty.dflt (Ty.int IntKind.u8)) == (237 : Int)) ((zT13rp_24) ∧ 1 < 4 ∧ br (zT13rp_27 c d e f) (zT13rp_22 c d e f Q) ((zT13rp_24) ∧ 1 < 4 ∧ br (decide (List.getD [c, d, e, f] 1 (Ty.dflt (Ty.int IntKind.u8)) > (159 : Int))) (zT13rp_22 c d e f Q) (zT13rp_20 c d e f Q))) ((zT13rp_24) ∧ 1 < 4 ∧ br (zT13rp_27 c d e f) (zT13rp_22 c d e f Q) ((zT13rp_24) ∧ 1 < 4 ∧ br (zT13rp_28 c d e f) (zT13rp_22 c d e f Q) (zT13rp_20 c d e f Q))))) (zT13rp_19 c d e f Q)) (zT13rp_19 c d e f Q))
theorem v67d (c d e f : Int) (h194 : 240 ≤ c ∧ c ≤ 244) (hd : lowOf c ≤ d ∧ d ≤ highOf c) (he : 128 ≤ e ∧ e ≤ 191) (Q : SV × Heap × List Nat → Prop) (hq : Q (.tup [.lit (.bool (rmay [c, d, e, f]).1), .lit (.bool (rmay [c, d, e, f]).2)], [.row 5 (.int .u8) [c, d, e, f]], [])) :
    (bodySumm Table.none Tryz.prog Tryz.f95 noAn [.sl 0 1 0 4] [.row 5 (.int .u8) [c, d, e, f]]).Leads Q := by
  refine Sx.by_text (q :=
   ((0 : Int) ≤ (0 : Int) ∧ (0 : Int) < (↑(4 : Nat) : Int)) ∧ 0 < 4 ∧ br (decide (List.getD [c, d, e, f] 0 (Ty.dflt (Ty.int IntKind.u8)) < (128 : Int))) (Q (SV.tup [SV.lit
   (Value.bool true), SV.lit (Value.bool false)], [SO.row 5 (Ty.int IntKind.u8) [c, d, e, f]], [])) (br (decide (List.getD [c, d, e, f] 0 (Ty.dflt (Ty.int IntKind.u8)) ≥ (194
   : Int))) (br (decide (List.getD [c, d, e, f] 0 (Ty.dflt (Ty.int IntKind.u8)) ≤ (223 : Int))) ((zT13rp_24) ∧ 1 < 4 ∧ br (zT13rp_27 c d e f) (zT13rp_22 c d e f Q)
   ((zT13rp_24) ∧ 1 < 4 ∧ br (zT13rp_28 c d e f) (zT13rp_22 c d e f Q) (zT13rp_20 c d e f Q))) (zT13rp_23 c d e f Q)) (zT13rp_23 c d e f Q))) (by kernel_rfl) ?_
  delta zT13rp_19 zT13rp_20 zT13rp_21 zT13rp_22 zT13rp_23 zT13rp_24 zT13rp_25 zT13rp_26 zT13rp_27 zT13rp_28
  simp only [List.getD_cons_zero, List.getD_cons_succ]
  have hlh := low_high c
  have w2 : IntKind.i64.wrap (1 + 1) = 2 := by decide
  have w3 : IntKind.i64.wrap (2 + 1) = 3 := by decide
  rw [w2, w3]
  have ht : tails c [d, e, f] = decide (128 ≤ f ∧ f ≤ 191) := by simp [tails, hd, he]
  refine ⟨by omega, by omega, br_intro (fun h => by have := of_decide_eq_true h; omega) (fun _ => ?_)⟩
  repeat' first | (refine br_intro (fun h => ?_) (fun h => ?_)) | (refine And.intro (by omega) ?_)
  all_goals simp only [decide_eq_true_eq, decide_eq_false_iff_not, beq_iff_eq, beq_eq_false_iff_ne] at *
  all_goals first
    | (exfalso; omega)
    | (rw [rmayT (w := 4) (x := true) (by omega) (by rw [ht]; exact decide_eq_true (by omega)) (wid4 (by omega)) rfl] at hq; exact hq)
    | (rw [rmayF (by omega) (by rw [ht]; exact decide_eq_false (by omega))] at hq; exact hq)
end T12
end
section
open Go Sx Go.Proofs
namespace T12
set_option maxRecDepth 100000
set_option maxHeartbeats 8000000
attribute [local irreducible] Tree.Leads
/-- What may be half read, exactly. -/
def Good2 (h : List Int) : Prop := match h with
  | [] => True
  | [c] => 194 ≤ c ∧ c ≤ 244
  | [c, d] => (224 ≤ c ∧ c ≤ 244) ∧ lowOf c ≤ d ∧ d ≤ highOf c
  | [c, d, e] => (240 ≤ c ∧ c ≤ 244) ∧ (lowOf c ≤ d ∧ d ≤ highOf c) ∧ 128 ≤ e ∧ e ≤ 191
  | _ => False
theorem low128 (c : Int) : 128 ≤ lowOf c ∧ highOf c ≤ 191 := by have := low_high c; omega
theorem good2_good {h : List Int} (hg : Good2 h) : Good h := by
  match h, hg with
  | [], _ => trivial
  | [c], hg => exact hg
  | [c, d], hg => have := low128 c; exact ⟨hg.1.1, hg.1.2, by have := hg.2.1; omega, by have := hg.2.2; omega⟩
  | [c, d, e], hg => have := low128 c; obtain ⟨h1, h2, h3⟩ := hg; exact ⟨h1.1, h1.2, by omega, by omega, h3.1, h3.2⟩
noncomputable def s67 : Summ := fun args H => match args, H with
  | [.sl 0 1 0 n], [.row 5 (.int .u8) L] => .need (n = L.length ∧ ∃ B x, L = B ++ [x] ∧ Good2 B ∧ Byte x) (.ret (.tup [.lit (.bool (rmay L).1), .lit (.bool (rmay L).2)], [.row 5 (.int .u8) L], []))
  | _, _ => .fail
theorem s67_ok : SummOK Tryz.prog 95 s67 := by
  refine summ_of_body (fn := Tryz.f95) (c := Tryz.f95.body.get!) none_ok (by kernel_rfl) (by kernel_rfl) (by kernel_rfl) fun args H Q h => ?_
  unfold s67 at h
  split at h
  · rename_i n L
    simp only [Tree.Leads] at h
    obtain ⟨⟨rfl, B, x, rfl, hg, hx⟩, hq⟩ := h
    refine ⟨noAn, ?_⟩
    match B, hg with
    | [], _ => exact v67a x hx Q hq
    | [c], hg => exact v67b c x ⟨by have := hg.1; omega, by have := hg.2; omega⟩ hx hg Q hq
    | [c, d], hg => exact v67c c d x hg.1 hg.2 Q hq
    | [c, d, e], hg => exact v67d c d e x hg.1 hg.2.1 hg.2.2 Q hq
  · simp only [Tree.Leads] at h
theorem w32 {x : Int} (h : -2147483648 ≤ x ∧ x ≤ 2147483647) : IntKind.i32.wrap x = x := by rw [IntKind.wrap_i32]; omega
theorem same32 {H : Heap} {Q : SV × Heap × List Nat → Prop} {x y : Int} (h : x = y) (hq : Q (.lit (.int .i32 x), H, [])) : Q (.lit (.int .i32 y), H, []) := h ▸ hq
theorem v68a (c d : Int) (hc : 194 ≤ c ∧ c ≤ 223) (hd : 128 ≤ d ∧ d ≤ 191) (Q : SV × Heap × List Nat → Prop) (hq : Q (.lit (.int .i32 (whole [c, d])), [.row 5 (.int .u8) [c, d]], [])) :
    (bodySumm Table.none Tryz.prog Tryz.f96 noAn [.sl 0 1 0 2] [.row 5 (.int .u8) [c, d]]).Leads Q := by
  refine Sx.by_text (q :=
   ((0 : Int) ≤ (0 : Int) ∧ (0 : Int) < (↑(2 : Nat) : Int)) ∧ 0 < 2 ∧ ((0 : Int) ≤ (1 : Int) ∧ (1 : Int) < (↑(2 : Nat) : Int)) ∧ 1 < 2 ∧ Q (SV.lit (Value.int IntKind.i32
   (IntKind.wrap IntKind.i32 (IntKind.wrap IntKind.i32 (IntKind.wrap IntKind.i32 (IntKind.wrap IntKind.i32 (IntKind.wrap IntKind.i32 (List.getD [c, d] 0 (Ty.dflt (Ty.int
   IntKind.u8))) - (192 : Int)) * (64 : Int)) + IntKind.wrap IntKind.i32 (List.getD [c, d] 1 (Ty.dflt (Ty.int IntKind.u8)))) - (128 : Int)))), [SO.row 5 (Ty.int IntKind.u8)
   [c, d]], [])) (by kernel_rfl) ?_
  simp only [List.getD_cons_zero, List.getD_cons_succ]
  refine ⟨by omega, by omega, by omega, by omega, same32 ?_ hq⟩
  rw [w32 (x := c) (by omega), w32 (x := c - 192) (by omega), w32 (x := (c - 192) * 64) (by omega), w32 (x := d) (by omega), w32 (x := (c - 192) * 64 + d) (by omega), w32 (by omega)]
  simp only [whole]; omega
theorem v68b (c d e : Int) (hc : 224 ≤ c ∧ c ≤ 239) (hd : 128 ≤ d ∧ d ≤ 191) (he : 128 ≤ e ∧ e ≤ 191) (Q : SV × Heap × List Nat → Prop) (hq : Q (.lit (.int .i32 (whole [c, d, e])), [.row 5 (.int .u8) [c, d, e]], [])) :
    (bodySumm Table.none Tryz.prog Tryz.f96 noAn [.sl 0 1 0 3] [.row 5 (.int .u8) [c, d, e]]).Leads Q := by
  refine Sx.by_text (q :=
   ((0 : Int) ≤ (0 : Int) ∧ (0 : Int) < (↑(3 : Nat) : Int)) ∧ 0 < 3 ∧ ((0 : Int) ≤ (1 : Int) ∧ (1 : Int) < (↑(3 : Nat) : Int)) ∧ 1 < 3 ∧ ((0 : Int) ≤ IntKind.wrap IntKind.i64
   ((1 : Int) + (1 : Int)) ∧ IntKind.wrap IntKind.i64 ((1 : Int) + (1 : Int)) < (↑(3 : Nat) : Int)) ∧ 2 < 3 ∧ Q (SV.lit (Value.int IntKind.i32 (IntKind.wrap IntKind.i32
   (IntKind.wrap IntKind.i32 (IntKind.wrap IntKind.i32 (IntKind.wrap IntKind.i32 (IntKind.wrap IntKind.i32 (IntKind.wrap IntKind.i32 (IntKind.wrap IntKind.i32 (IntKind.wrap
   IntKind.i32 (List.getD [c, d, e] 0 (Ty.dflt (Ty.int IntKind.u8))) - (224 : Int)) * (64 : Int)) + IntKind.wrap IntKind.i32 (List.getD [c, d, e] 1 (Ty.dflt (Ty.int
   IntKind.u8)))) - (128 : Int)) * (64 : Int)) + IntKind.wrap IntKind.i32 (List.getD [c, d, e] 2 (Ty.dflt (Ty.int IntKind.u8)))) - (128 : Int)))), [SO.row 5 (Ty.int
   IntKind.u8) [c, d, e]], [])) (by kernel_rfl) ?_
  have w2 : IntKind.i64.wrap (1 + 1) = 2 := by decide
  simp only [List.getD_cons_zero, List.getD_cons_succ, w2]
  refine ⟨by omega, by omega, by omega, by omega, by omega, by omega, same32 ?_ hq⟩
  rw [w32 (x := c) (by omega), w32 (x := c - 224) (by omega), w32 (x := (c - 224) * 64) (by omega), w32 (x := d) (by omega), w32 (x := (c - 224) * 64 + d) (by omega), w32 (x := (c - 224) * 64 + d - 128) (by omega),
    w32 (x := ((c - 224) * 64 + d - 128) * 64) (by omega), w32 (x := e) (by omega), w32 (x := ((c - 224) * 64 + d - 128) * 64 + e) (by omega), w32 (by omega)]
  simp only [whole]; omega
theorem v68c (c d e f : Int) (hc : 240 ≤ c ∧ c ≤ 244) (hd : 128 ≤ d ∧ d ≤ 191) (he : 128 ≤ e ∧ e ≤ 191) (hf : 128 ≤ f ∧ f ≤ 191) (Q : SV × Heap × List Nat → Prop) (hq : Q (.lit (.int .i32 (whole [c, d, e, f])), [.row 5 (.int .u8) [c, d, e, f]], [])) :
    (bodySumm Table.none Tryz.prog Tryz.f96 noAn [.sl 0 1 0 4] [.row 5 (.int .u8) [c, d, e, f]]).Leads Q := by
  refine Sx.by_text (q :=
   ((0 : Int) ≤ (0 : Int) ∧ (0 : Int) < (↑(4 : Nat) : Int)) ∧ 0 < 4 ∧ ((0 : Int) ≤ (1 : Int) ∧ (1 : Int) < (↑(4 : Nat) : Int)) ∧ 1 < 4 ∧ ((0 : Int) ≤ IntKind.wrap IntKind.i64
   ((1 : Int) + (1 : Int)) ∧ IntKind.wrap IntKind.i64 ((1 : Int) + (1 : Int)) < (↑(4 : Nat) : Int)) ∧ 2 < 4 ∧ ((0 : Int) ≤ IntKind.wrap IntKind.i64 (IntKind.wrap IntKind.i64
   ((1 : Int) + (1 : Int)) + (1 : Int)) ∧ IntKind.wrap IntKind.i64 (IntKind.wrap IntKind.i64 ((1 : Int) + (1 : Int)) + (1 : Int)) < (↑(4 : Nat) : Int)) ∧ 3 < 4 ∧ Q (SV.lit
   (Value.int IntKind.i32 (IntKind.wrap IntKind.i32 (IntKind.wrap IntKind.i32 (IntKind.wrap IntKind.i32 (IntKind.wrap IntKind.i32 (IntKind.wrap IntKind.i32 (IntKind.wrap
   IntKind.i32 (IntKind.wrap IntKind.i32 (IntKind.wrap IntKind.i32 (IntKind.wrap IntKind.i32 (IntKind.wrap IntKind.i32 (IntKind.wrap IntKind.i32 (List.getD [c, d, e, f] 0
   (Ty.dflt (Ty.int IntKind.u8))) - (240 : Int)) * (64 : Int)) + IntKind.wrap IntKind.i32 (List.getD [c, d, e, f] 1 (Ty.dflt (Ty.int IntKind.u8)))) - (128 : Int)) * (64 :
   Int)) + IntKind.wrap IntKind.i32 (List.getD [c, d, e, f] 2 (Ty.dflt (Ty.int IntKind.u8)))) - (128 : Int)) * (64 : Int)) + IntKind.wrap IntKind.i32 (List.getD [c, d, e, f]
   3 (Ty.dflt (Ty.int IntKind.u8)))) - (128 : Int)))), [SO.row 5 (Ty.int IntKind.u8) [c, d, e, f]], [])) (by kernel_rfl) ?_
  have w2 : IntKind.i64.wrap (1 + 1) = 2 := by decide
  have w3 : IntKind.i64.wrap (2 + 1) = 3 := by decide
  simp only [List.getD_cons_zero, List.getD_cons_succ, w2, w3]
  refine ⟨by omega, by omega, by omega, by omega, by omega, by omega, by omega, by omega, same32 ?_ hq⟩
  rw [w32 (x := c) (by omega), w32 (x := c - 240) (by omega), w32 (x := (c - 240) * 64) (by omega), w32 (x := d) (by omega), w32 (x := (c - 240) * 64 + d) (by omega), w32 (x := (c - 240) * 64 + d - 128) (by omega),
    w32 (x := ((c - 240) * 64 + d - 128) * 64) (by omega), w32 (x := e) (by omega), w32 (x := ((c - 240) * 64 + d - 128) * 64 + e) (by omega), w32 (x := ((c - 240) * 64 + d - 128) * 64 + e - 128) (by omega),
    w32 (x := (((c - 240) * 64 + d - 128) * 64 + e - 128) * 64) (by omega), w32 (x := f) (by omega), w32 (x := (((c - 240) * 64 + d - 128) * 64 + e - 128) * 64 + f) (by omega), w32 (by omega)]
  simp only [whole]; omega
/-- Bytes that are one whole rune, of two bytes and more. -/
def Whole (L : List Int) : Prop := match L with
  | [c, d] => (194 ≤ c ∧ c ≤ 223) ∧ 128 ≤ d ∧ d ≤ 191
  | [c, d, e] => (224 ≤ c ∧ c ≤ 239) ∧ (128 ≤ d ∧ d ≤ 191) ∧ 128 ≤ e ∧ e ≤ 191
  | [c, d, e, f] => (240 ≤ c ∧ c ≤ 244) ∧ (128 ≤ d ∧ d ≤ 191) ∧ (128 ≤ e ∧ e ≤ 191) ∧ 128 ≤ f ∧ f ≤ 191
  | _ => False
noncomputable def s68 : Summ := fun args H => match args, H with
  | [.sl 0 1 0 n], [.row 5 (.int .u8) L] => .need (n = L.length ∧ Whole L) (.ret (.lit (.int .i32 (whole L)), [.row 5 (.int .u8) L], []))
  | _, _ => .fail
theorem s68_ok : SummOK Tryz.prog 96 s68 := by
  refine summ_of_body (fn := Tryz.f96) (c := Tryz.f96.body.get!) none_ok (by kernel_rfl) (by kernel_rfl) (by kernel_rfl) fun args H Q h => ?_
  unfold s68 at h
  split at h
  · rename_i n L
    simp only [Tree.Leads] at h
    obtain ⟨⟨rfl, hw⟩, hq⟩ := h
    refine ⟨noAn, ?_⟩
    match L, hw with
    | [c, d], hw => exact v68a c d hw.1 hw.2 Q hq
    | [c, d, e], hw => exact v68b c d e hw.1 hw.2.1 hw.2.2 Q hq
    | [c, d, e, f], hw => exact v68c c d e f hw.1 hw.2.1 hw.2.2.1 hw.2.2.2 Q hq
  · simp only [Tree.Leads] at h
/-- The document's step is the reader's. -/
theorem step_first' {c : Int} : step [] c = if (rmay [c]).1 then (if (rmay [c]).2 then ([c], []) else ([], [c])) else ([65533], []) := by
  simp only [step, step0, rmay, tails]
  by_cases h1 : c < 128
  · rw [if_pos h1]
    have : wid c = 1 := by unfold wid; rw [if_pos h1]
    simp [this]
  · rw [if_neg h1]
    by_cases h2 : wid c = 0
    · simp [h2]
    · have h3 : wid c ≠ 1 := by unfold wid; rw [if_neg h1]; repeat' split
                                all_goals omega
      have h4 : ¬ ((([] : List Int).length : Int) + 1 = wid c) := by simpa using fun e => h3 e.symm
      simp [h2, h3]
      intro h; exact absurd h.symm h3
theorem step_next {B : List Int} {x : Int} (hg : Good2 B) (hB : B ≠ []) (hx : Byte x) :
    (((rmay (B ++ [x])).1 = true ∧ (rmay (B ++ [x])).2 = true) → Whole (B ++ [x]) ∧ step B x = ([whole (B ++ [x])], [])) ∧
    (((rmay (B ++ [x])).1 = true ∧ (rmay (B ++ [x])).2 = false) → Good2 (B ++ [x]) ∧ step B x = ([], B ++ [x])) ∧
    ((rmay (B ++ [x])).1 = false → step B x = (65533 :: (step [] x).1, (step [] x).2)) := by
  match B, hg, hB with
  | [c], hg, _ =>
    have hg : 194 ≤ c ∧ c ≤ 244 := hg
    have hlh := low128 c
    have hm : may [c] x = decide (lowOf c ≤ x ∧ x ≤ highOf c) := rfl
    have ht : tails c [x] = decide (lowOf c ≤ x ∧ x ≤ highOf c) := by simp [tails]
    simp only [List.cons_append, List.nil_append]
    by_cases h : lowOf c ≤ x ∧ x ≤ highOf c
    · have ht' : tails c [x] = true := by rw [ht]; exact decide_eq_true h
      have hm' : may [c] x = true := by rw [hm]; exact decide_eq_true h
      rcases (show (194 ≤ c ∧ c ≤ 223) ∨ (224 ≤ c ∧ c ≤ 239) ∨ (240 ≤ c ∧ c ≤ 244) by omega) with hc | hc | hc
      · rw [rmayT hg ht' (wid2 hc) (x := true) rfl]
        refine ⟨fun _ => ⟨⟨hc, by omega, by omega⟩, step_last hm' (by rw [wid2 hc]; simp)⟩, fun h => (by cases h.2), fun h => (by cases h)⟩
      · rw [rmayT hg ht' (wid3 hc) (x := false) rfl]
        refine ⟨fun h => (by cases h.2), fun _ => ⟨⟨⟨by omega, by omega⟩, h⟩, step_more hm' (by rw [wid3 hc]; simp)⟩, fun h => (by cases h)⟩
      · rw [rmayT hg ht' (wid4 hc) (x := false) rfl]
        refine ⟨fun h => (by cases h.2), fun _ => ⟨⟨⟨by omega, by omega⟩, h⟩, step_more hm' (by rw [wid4 hc]; simp)⟩, fun h => (by cases h)⟩
    · have ht' : tails c [x] = false := by rw [ht]; exact decide_eq_false h
      have hm' : may [c] x = false := by rw [hm]; exact decide_eq_false h
      rw [rmayF hg ht']
      refine ⟨fun h => (by cases h.1), fun h => (by cases h.1), fun _ => ?_⟩
      show (if may [c] x = true then _ else _) = _
      rw [if_neg (by rw [hm']; simp)]; rfl
  | [c, d], hg, _ =>
    obtain ⟨hg, hd⟩ := hg
    have hlh := low128 c
    have hm : may [c, d] x = decide (128 ≤ x ∧ x ≤ 191) := rfl
    have ht : tails c [d, x] = decide (128 ≤ x ∧ x ≤ 191) := by simp [tails, hd]
    simp only [List.cons_append, List.nil_append]
    by_cases h : 128 ≤ x ∧ x ≤ 191
    · have ht' : tails c [d, x] = true := by rw [ht]; exact decide_eq_true h
      have hm' : may [c, d] x = true := by rw [hm]; exact decide_eq_true h
      rcases (show (224 ≤ c ∧ c ≤ 239) ∨ (240 ≤ c ∧ c ≤ 244) by omega) with hc | hc
      · rw [rmayT (by omega) ht' (wid3 hc) (x := true) rfl]
        refine ⟨fun _ => ⟨⟨hc, ⟨by omega, by omega⟩, h⟩, step_last hm' (by rw [wid3 hc]; simp)⟩, fun h => (by cases h.2), fun h => (by cases h)⟩
      · rw [rmayT (by omega) ht' (wid4 hc) (x := false) rfl]
        refine ⟨fun h => (by cases h.2), fun _ => ⟨⟨hc, hd, h⟩, step_more hm' (by rw [wid4 hc]; simp)⟩, fun h => (by cases h)⟩
    · have ht' : tails c [d, x] = false := by rw [ht]; exact decide_eq_false h
      have hm' : may [c, d] x = false := by rw [hm]; exact decide_eq_false h
      rw [rmayF (by omega) ht']
      refine ⟨fun h => (by cases h.1), fun h => (by cases h.1), fun _ => ?_⟩
      show (if may [c, d] x = true then _ else _) = _
      rw [if_neg (by rw [hm']; simp)]; rfl
  | [c, d, e], hg, _ =>
    obtain ⟨hg, hd, he⟩ := hg
    have hlh := low128 c
    have hm : may [c, d, e] x = decide (128 ≤ x ∧ x ≤ 191) := rfl
    have ht : tails c [d, e, x] = decide (128 ≤ x ∧ x ≤ 191) := by simp [tails, hd, he]
    simp only [List.cons_append, List.nil_append]
    by_cases h : 128 ≤ x ∧ x ≤ 191
    · have ht' : tails c [d, e, x] = true := by rw [ht]; exact decide_eq_true h
      have hm' : may [c, d, e] x = true := by rw [hm]; exact decide_eq_true h
      rw [rmayT (by omega) ht' (wid4 hg) (x := true) rfl]
      refine ⟨fun _ => ⟨⟨hg, ⟨by omega, by omega⟩, he, h⟩, step_last hm' (by rw [wid4 hg]; simp)⟩, fun h => (by cases h.2), fun h => (by cases h)⟩
    · have ht' : tails c [d, e, x] = false := by rw [ht]; exact decide_eq_false h
      have hm' : may [c, d, e] x = false := by rw [hm]; exact decide_eq_false h
      rw [rmayF (by omega) ht']
      refine ⟨fun h => (by cases h.1), fun h => (by cases h.1), fun _ => ?_⟩
      show (if may [c, d, e] x = true then _ else _) = _
      rw [if_neg (by rw [hm']; simp)]; rfl
theorem good2_first {x : Int} (h : (rmay [x]).1 = true) (h2 : (rmay [x]).2 = false) : Good2 [x] := by
  by_cases h1 : x < 128
  · rw [rmay1 h1] at h2; cases h2
  · by_cases h3 : x < 194 ∨ 244 < x
    · rw [rmay0 (by omega) h3] at h; cases h
    · exact ⟨by omega, by omega⟩
end T12
end
