/- Part of a proof: the walks of the functions that the law calls, and their plain laws; no condition. -/
import Derived.Test.YtlcobcpgaoeijaaGreatSxT
import Derived.Test.YtlcobcpgaoeijaaGreatM11
set_option linter.unusedVariables false
set_option linter.unusedSimpArgs false
open Go Sx Go.Proofs T12
namespace T13
set_option maxRecDepth 100000
set_option maxHeartbeats 8000000
attribute [local irreducible] Tree.Leads
noncomputable abbrev zT13rd_16 := ((↑(2 : Nat) : Int) ≤ (9223372036854775807 : Int) ∧ 2 * Sx.bytesOf Go.Proofs.Tryz.prog 21 ≤ 140737488355328)
noncomputable abbrev zT13rd_7 := ((↑(1 : Nat) : Int) ≤ (9223372036854775807 : Int) ∧ 1 * Sx.bytesOf Go.Proofs.Tryz.prog 69 ≤ 140737488355328)
noncomputable abbrev zT13rd_15 := ((0 : Int) ≤ IntKind.wrap IntKind.i64 ((0 : Int) + (1 : Int)) ∧ IntKind.wrap IntKind.i64 ((0 : Int) + (1 : Int)) < (↑(2 : Nat) : Int))
noncomputable abbrev zT13rd_9 := ((↑(2 : Nat) : Int) ≤ (9223372036854775807 : Int) ∧ 2 * Sx.bytesOf Go.Proofs.Tryz.prog 69 ≤ 140737488355328)
noncomputable abbrev zT13rd_1 (inter : ByteArray) (mk : Int) (nu : List Int) (any : Bool) (first : Bool) (wrong : Bool) (bo : List Int) := [SV.lit (Value.string T13.sG), SV.sl 1 1 0 0, SV.lit (Value.string inter), SV.lit (Value.int IntKind.i64 mk), SV.sl 2 1 0 (List.length nu), SV.lit (Value.bool any), SV.lit (Value.bool first), SV.lit (Value.bool wrong), SV.sl 3 1 0 (List.length bo)]
noncomputable abbrev zT13rd_0 (inter : ByteArray) (mk : Int) (nu : List Int) (any : Bool) (first : Bool) (wrong : Bool) (bo : List Int) (c : Int) (Q : SV × Heap × List Nat → Prop) := (br (Prod.snd (T12.rmay [c])) (1 ≤ 1 ∧ 1 = 1 ∧ (zT13rd_16) ∧ ((0 : Int) ≤ (0 : Int) ∧ (0 : Int) < (↑(2 : Nat) : Int)) ∧ 0 < 2 ∧ 1 ≤ 1 ∧ (zT13rd_7) ∧ (zT13rd_15) ∧ 1 < 2 ∧ 1 ≤ 1 ∧ 1 = 1 ∧ (zT13rd_9) ∧ Q (SV.sl 4 7 0 2, [SO.cells 51 (zT13rd_1 inter mk nu any first wrong bo), SO.row 5 (Ty.int IntKind.u8) [], SO.row 3 (Ty.int IntKind.i64) nu, SO.row 5 (Ty.int IntKind.u8) bo, SO.row 69 T13.aty [((1 : Int), List.getD [(65533 : Int), IntKind.wrap IntKind.i32 c] 0 (Ty.dflt (Ty.int IntKind.i32)), (0 : Int), (0 : Int), [], { data := #[] }, { data := #[] }), ((1 : Int), List.getD [(65533 : Int), IntKind.wrap IntKind.i32 c] 1 (Ty.dflt (Ty.int IntKind.i32)), (0 : Int), (0 : Int), [], { data := #[] }, { data := #[] })]], [1])) (((0 : Int) ≤ (0 : Int) ∧ (0 : Int) < (↑(1 : Nat) : Int)) ∧ 0 < 1 ∧ 1 ≤ 1 ∧ (zT13rd_7) ∧ Q (SV.sl 4 7 0 1, [SO.cells 51 [SV.lit (Value.string T13.sG), SV.sl 1 1 0 1, SV.lit (Value.string inter), SV.lit (Value.int IntKind.i64 mk), SV.sl 2 1 0 (List.length nu), SV.lit (Value.bool any), SV.lit (Value.bool first), SV.lit (Value.bool wrong), SV.sl 3 1 0 (List.length bo)], SO.row 5 (Ty.int IntKind.u8) [c], SO.row 3 (Ty.int IntKind.i64) nu, SO.row 5 (Ty.int IntKind.u8) bo, SO.row 69 T13.aty [((1 : Int), List.getD [(65533 : Int)] 0 (Ty.dflt (Ty.int IntKind.i32)), (0 : Int), (0 : Int), [], { data := #[] }, { data := #[] })]], [1])))
noncomputable abbrev zT13rd_2 (B : List Int) (inter : ByteArray) (mk : Int) (nu : List Int) (any : Bool) (first : Bool) (wrong : Bool) (bo : List Int) := [SV.lit (Value.string T13.sG), SV.sl 1 1 0 (List.length B), SV.lit (Value.string inter), SV.lit (Value.int IntKind.i64 mk), SV.sl 2 1 0 (List.length nu), SV.lit (Value.bool any), SV.lit (Value.bool first), SV.lit (Value.bool wrong), SV.sl 3 1 0 (List.length bo)]
noncomputable abbrev zT13rd_3 (B : List Int) (inter : ByteArray) (mk : Int) (nu : List Int) (any : Bool) (first : Bool) (wrong : Bool) (bo : List Int) (c : Int) : SV × Heap × List Nat := (SV.sl 4 7 0 0, [SO.cells 51 [SV.lit (Value.string T13.sG), SV.sl 1 1 0 (List.length (List.take (List.length B) (List.drop 0 B)) + 1), SV.lit (Value.string inter), SV.lit (Value.int IntKind.i64 mk), SV.sl 2 1 0 (List.length nu), SV.lit (Value.bool any), SV.lit (Value.bool first), SV.lit (Value.bool wrong), SV.sl 3 1 0 (List.length bo)], SO.row 5 (Ty.int IntKind.u8) (List.take (List.length B) (List.drop 0 B) ++ [c]), SO.row 3 (Ty.int IntKind.i64) nu, SO.row 5 (Ty.int IntKind.u8) bo, SO.row 69 T13.aty []], [1])
noncomputable abbrev zT13rd_4 (inter : ByteArray) (mk : Int) (nu : List Int) (any : Bool) (first : Bool) (wrong : Bool) (bo : List Int) : SV × Heap × List Nat := (SV.sl 4 7 0 2, [SO.cells 51 (zT13rd_1 inter mk nu any first wrong bo), SO.row 5 (Ty.int IntKind.u8) [], SO.row 3 (Ty.int IntKind.i64) nu, SO.row 5 (Ty.int IntKind.u8) bo, SO.row 69 T13.aty [((1 : Int), List.getD [(65533 : Int), (65533 : Int)] 0 (Ty.dflt (Ty.int IntKind.i32)), (0 : Int), (0 : Int), [], { data := #[] }, { data := #[] }), ((1 : Int), List.getD [(65533 : Int), (65533 : Int)] 1 (Ty.dflt (Ty.int IntKind.i32)), (0 : Int), (0 : Int), [], { data := #[] }, { data := #[] })]], [1])
noncomputable abbrev zT13rd_5 (B : List Int) : SV × Heap × List Nat := (SV.sl 4 7 0 0, [SO.cells 51 [SV.lit (Value.string { data := #[] }), SV.sl 1 1 0 (List.length B), SV.lit (Value.string { data := #[] }), SV.lit (Value.int IntKind.i64 (0 : Int)), SV.sl 2 1 0 0, SV.lit (Value.bool false), SV.lit (Value.bool true), SV.lit (Value.bool false), SV.sl 3 1 0 0], SO.row 5 (Ty.int IntKind.u8) B, SO.row 3 (Ty.int IntKind.i64) [], SO.row 5 (Ty.int IntKind.u8) [], SO.row 69 T13.aty []], [2, 3])
noncomputable abbrev zT13rd_17 := ((↑(1 : Nat) : Int) ≤ (9223372036854775807 : Int) ∧ 1 * Sx.bytesOf Go.Proofs.Tryz.prog 21 ≤ 140737488355328)
noncomputable abbrev zT13rd_6 (B : List Int) (inter : ByteArray) (mk : Int) (nu : List Int) (any : Bool) (first : Bool) (wrong : Bool) (bo : List Int) (c : Int) (Q : SV × Heap × List Nat → Prop) := (br (Prod.snd (T12.rmay [c])) (1 ≤ 1 ∧ (zT13rd_17) ∧ ((0 : Int) ≤ (0 : Int) ∧ (0 : Int) < (↑(1 : Nat) : Int)) ∧ 0 < 1 ∧ 1 ≤ 1 ∧ (zT13rd_7) ∧ Q (SV.sl 4 7 0 1, [SO.cells 51 (zT13rd_2 B inter mk nu any first wrong bo), SO.row 5 (Ty.int IntKind.u8) B, SO.row 3 (Ty.int IntKind.i64) nu, SO.row 5 (Ty.int IntKind.u8) bo, SO.row 69 T13.aty [((1 : Int), List.getD [IntKind.wrap IntKind.i32 c] 0 (Ty.dflt (Ty.int IntKind.i32)), (0 : Int), (0 : Int), [], { data := #[] }, { data := #[] })]], [])) (Q (SV.sl 4 7 0 0, [SO.cells 51 [SV.lit (Value.string T13.sG), SV.sl 1 1 0 1, SV.lit (Value.string inter), SV.lit (Value.int IntKind.i64 mk), SV.sl 2 1 0 (List.length nu), SV.lit (Value.bool any), SV.lit (Value.bool first), SV.lit (Value.bool wrong), SV.sl 3 1 0 (List.length bo)], SO.row 5 (Ty.int IntKind.u8) [c], SO.row 3 (Ty.int IntKind.i64) nu, SO.row 5 (Ty.int IntKind.u8) bo, SO.row 69 T13.aty []], [1])))
noncomputable abbrev zT13rd_8 : SV × Heap × List Nat := (SV.sl 4 7 0 1, [SO.cells 51 [SV.lit (Value.string { data := #[] }), SV.sl 1 1 0 0, SV.lit (Value.string { data := #[] }), SV.lit (Value.int IntKind.i64 (0 : Int)), SV.sl 2 1 0 0, SV.lit (Value.bool false), SV.lit (Value.bool true), SV.lit (Value.bool false), SV.sl 3 1 0 0], SO.row 5 (Ty.int IntKind.u8) [], SO.row 3 (Ty.int IntKind.i64) [], SO.row 5 (Ty.int IntKind.u8) [], SO.row 69 T13.aty [((1 : Int), (65533 : Int), (0 : Int), (0 : Int), [], { data := #[] }, { data := #[] })]], [1, 2, 3])
noncomputable abbrev zT13rd_10 (inter : ByteArray) (mk : Int) (nu : List Int) (any : Bool) (first : Bool) (wrong : Bool) (bo : List Int) : SV × Heap × List Nat := (SV.sl 4 7 0 1, [SO.cells 51 (zT13rd_1 inter mk nu any first wrong bo), SO.row 5 (Ty.int IntKind.u8) [], SO.row 3 (Ty.int IntKind.i64) nu, SO.row 5 (Ty.int IntKind.u8) bo, SO.row 69 T13.aty [((1 : Int), (65533 : Int), (0 : Int), (0 : Int), [], { data := #[] }, { data := #[] })]], [1])
noncomputable abbrev zT13rd_11 (B : List Int) (inter : ByteArray) (mk : Int) (nu : List Int) (any : Bool) (first : Bool) (wrong : Bool) (bo : List Int) : SV × Heap × List Nat := (SV.sl 4 7 0 0, [SO.cells 51 (zT13rd_2 B inter mk nu any first wrong bo), SO.row 5 (Ty.int IntKind.u8) B, SO.row 3 (Ty.int IntKind.i64) nu, SO.row 5 (Ty.int IntKind.u8) bo, SO.row 69 T13.aty []], [])
noncomputable abbrev zT13rd_12 (B : List Int) (inter : ByteArray) (mk : Int) (nu : List Int) (any : Bool) (first : Bool) (wrong : Bool) (bo : List Int) (c : Int) (Q : SV × Heap × List Nat → Prop) := ((List.length (List.take (List.length B) (List.drop 0 B)) + 1 = List.length (List.take (List.length B) (List.drop 0 B) ++ [c]) ∧ T12.Whole (List.take (List.length B) (List.drop 0 B) ++ [c])) ∧ ((0 : Int) ≤ (0 : Int) ∧ (0 : Int) < (↑(1 : Nat) : Int)) ∧ 0 < 1 ∧ 1 ≤ 1 ∧ (zT13rd_7) ∧ Q (SV.sl 4 7 0 1, [SO.cells 51 (zT13rd_1 inter mk nu any first wrong bo), SO.row 5 (Ty.int IntKind.u8) [], SO.row 3 (Ty.int IntKind.i64) nu, SO.row 5 (Ty.int IntKind.u8) bo, SO.row 69 T13.aty [((1 : Int), List.getD [T12.whole (List.take (List.length B) (List.drop 0 B) ++ [c])] 0 (Ty.dflt (Ty.int IntKind.i32)), (0 : Int), (0 : Int), [], { data := #[] }, { data := #[] })]], [1]))
noncomputable abbrev zT13rd_13 (inter : ByteArray) (mk : Int) (nu : List Int) (any : Bool) (first : Bool) (wrong : Bool) (bo : List Int) (c : Int) (Q : SV × Heap × List Nat → Prop) := (br (Prod.snd (T12.rmay [c])) (1 ≤ 1 ∧ (zT13rd_17) ∧ ((0 : Int) ≤ (0 : Int) ∧ (0 : Int) < (↑(1 : Nat) : Int)) ∧ 0 < 1 ∧ 1 ≤ 1 ∧ 1 = 1 ∧ (zT13rd_9) ∧ Q (SV.sl 4 7 0 2, [SO.cells 51 (zT13rd_1 inter mk nu any first wrong bo), SO.row 5 (Ty.int IntKind.u8) [], SO.row 3 (Ty.int IntKind.i64) nu, SO.row 5 (Ty.int IntKind.u8) bo, SO.row 69 T13.aty [((1 : Int), (65533 : Int), (0 : Int), (0 : Int), [], { data := #[] }, { data := #[] }), ((1 : Int), List.getD [IntKind.wrap IntKind.i32 c] 0 (Ty.dflt (Ty.int IntKind.i32)), (0 : Int), (0 : Int), [], { data := #[] }, { data := #[] })]], [1])) (Q (SV.sl 4 7 0 1, [SO.cells 51 [SV.lit (Value.string T13.sG), SV.sl 1 1 0 1, SV.lit (Value.string inter), SV.lit (Value.int IntKind.i64 mk), SV.sl 2 1 0 (List.length nu), SV.lit (Value.bool any), SV.lit (Value.bool first), SV.lit (Value.bool wrong), SV.sl 3 1 0 (List.length bo)], SO.row 5 (Ty.int IntKind.u8) [c], SO.row 3 (Ty.int IntKind.i64) nu, SO.row 5 (Ty.int IntKind.u8) bo, SO.row 69 T13.aty [((1 : Int), (65533 : Int), (0 : Int), (0 : Int), [], { data := #[] }, { data := #[] })]], [1])))
noncomputable abbrev zT13rd_14 (B : List Int) : SV × Heap × List Nat := (SV.sl 4 7 0 0, [SO.cells 51 [SV.lit (Value.string { data := #[(101 : UInt8), (115 : UInt8), (99 : UInt8)] }), SV.sl 1 1 0 (List.length B), SV.lit (Value.string { data := #[] }), SV.lit (Value.int IntKind.i64 (0 : Int)), SV.sl 2 1 0 0, SV.lit (Value.bool false), SV.lit (Value.bool true), SV.lit (Value.bool false), SV.sl 3 1 0 0], SO.row 5 (Ty.int IntKind.u8) B, SO.row 3 (Ty.int IntKind.i64) [], SO.row 5 (Ty.int IntKind.u8) [], SO.row 69 T13.aty []], [2, 3])
noncomputable abbrev zT13rd_18 : SV × Heap × List Nat := (SV.sl 4 7 0 1, [SO.cells 51 [SV.lit (Value.string { data := #[(101 : UInt8), (115 : UInt8), (99 : UInt8)] }), SV.sl 1 1 0 0, SV.lit (Value.string { data := #[] }), SV.lit (Value.int IntKind.i64 (0 : Int)), SV.sl 2 1 0 0, SV.lit (Value.bool false), SV.lit (Value.bool true), SV.lit (Value.bool false), SV.sl 3 1 0 0], SO.row 5 (Ty.int IntKind.u8) [], SO.row 3 (Ty.int IntKind.i64) [], SO.row 5 (Ty.int IntKind.u8) [], SO.row 69 T13.aty [((1 : Int), (65533 : Int), (0 : Int), (0 : Int), [], { data := #[] }, { data := #[] })]], [1, 2, 3])
noncomputable abbrev zT13rd_19 (B : List Int) (inter : ByteArray) (mk : Int) (nu : List Int) (any : Bool) (first : Bool) (wrong : Bool) (bo : List Int) : SV × Heap × List Nat := (SV.sl 4 7 0 1, [SO.cells 51 (zT13rd_2 B inter mk nu any first wrong bo), SO.row 5 (Ty.int IntKind.u8) B, SO.row 3 (Ty.int IntKind.i64) nu, SO.row 5 (Ty.int IntKind.u8) bo, SO.row 69 T13.aty [((1 : Int), List.getD [(65533 : Int)] 0 (Ty.dflt (Ty.int IntKind.i32)), (0 : Int), (0 : Int), [], { data := #[] }, { data := #[] })]], [])
noncomputable abbrev zT13rd_20 (B : List Int) (c : Int) := (Prod.fst (T12.rmay (List.take (List.length B) (List.drop 0 B) ++ [c])))
noncomputable abbrev zT13rd_21 (B : List Int) := ((↑(0 + List.length (List.take (List.length B) (List.drop 0 B))) : Int) ≤ (9223372036854775807 : Int) ∧ (0 + List.length (List.take (List.length B) (List.drop 0 B))) * Sx.bytesOf Go.Proofs.Tryz.prog 5 ≤ 140737488355328)
noncomputable abbrev zT13rd_22 (B : List Int) := ((↑(List.length (List.take (List.length B) (List.drop 0 B)) + 1) : Int) ≤ (9223372036854775807 : Int) ∧ (List.length (List.take (List.length B) (List.drop 0 B)) + 1) * Sx.bytesOf Go.Proofs.Tryz.prog 5 ≤ 140737488355328)
noncomputable abbrev zT13rd_23 (B : List Int) (inter : ByteArray) (mk : Int) (nu : List Int) (any : Bool) (first : Bool) (wrong : Bool) (bo : List Int) (c : Int) : SV × Heap × List Nat := (SV.sl 4 7 0 1, [SO.cells 51 (zT13rd_2 B inter mk nu any first wrong bo), SO.row 5 (Ty.int IntKind.u8) B, SO.row 3 (Ty.int IntKind.i64) nu, SO.row 5 (Ty.int IntKind.u8) bo, SO.row 69 T13.aty [((2 : Int), (0 : Int), IntKind.wrap IntKind.i64 c, (0 : Int), [], { data := #[] }, { data := #[] })]], [])
theorem vrg (B : List Int) (inter : ByteArray) (mk : Int) (nu : List Int) (any first wrong : Bool) (bo : List Int) (c : Int) (hc : Byte c) (hg : Good2 B) (Q : SV × Heap × List Nat → Prop) (hq : GoesR (RS.ground ⟨sG, B, inter, mk, nu, any, first, wrong, bo⟩ c) Q) : (bodySumm R3 Tryz.prog Tryz.f21 Zr [.ptr 0 0, .lit (.int .u8 c)] (rrows sG B B.length inter mk nu nu.length any first wrong bo bo.length)).Leads Q := by
  refine Sx.by_text (q :=
   br (decide (c < (32 : Int))) (br ((↑(List.length B) : Int) == (0 : Int)) (br (c == (24 : Int)) (Q (zT13rd_5 B)) (br (c == (26 : Int)) (Q (zT13rd_5 B)) (br (c == (27 :
   Int)) (Q (zT13rd_14 B)) (br (decide (c < (32 : Int))) (1 ≤ 1 ∧ (zT13rd_7) ∧ Q (zT13rd_23 B inter mk nu any first wrong bo c)) (br (decide (c < (32 : Int))) (br (c == (7 :
   Int)) (Q (zT13rd_11 B inter mk nu any first wrong bo)) (Q (zT13rd_11 B inter mk nu any first wrong bo))) (br (c == (127 : Int)) (Q (zT13rd_11 B inter mk nu any first wrong
   bo)) (br (decide ((↑(List.length B) : Int) > (0 : Int))) (0 + List.length B ≤ List.length B ∧ (zT13rd_21 B) ∧ 1 ≤ 1 ∧ List.length (List.take (List.length B) (List.drop 0
   B)) = List.length (List.take (List.length B) (List.drop 0 B)) ∧ (zT13rd_22 B) ∧ (List.length (List.take (List.length B) (List.drop 0 B)) + 1 = List.length (List.take
   (List.length B) (List.drop 0 B) ++ [c]) ∧ ∃ (u0 : List Int), ∃ (u1 : Int), List.take (List.length B) (List.drop 0 B) ++ [c] = u0 ++ [u1] ∧ T12.Good2 u0 ∧ (0 : Int) ≤ u1 ∧
   u1 ≤ (255 : Int)) ∧ br (zT13rd_20 B c) (br (Prod.snd (T12.rmay (List.take (List.length B) (List.drop 0 B) ++ [c]))) (zT13rd_12 B inter mk nu any first wrong bo c Q) (br
   (zT13rd_20 B c) (Q (zT13rd_3 B inter mk nu any first wrong bo c)) ((1 = 1 ∧ ∃ (u2 : List Int), ∃ (u3 : Int), [c] = u2 ++ [u3] ∧ T12.Good2 u2 ∧ (0 : Int) ≤ u3 ∧ u3 ≤ (255 :
   Int)) ∧ br (!Prod.fst (T12.rmay [c])) (1 ≤ 1 ∧ 1 = 1 ∧ (zT13rd_16) ∧ ((0 : Int) ≤ (0 : Int) ∧ (0 : Int) < (↑(2 : Nat) : Int)) ∧ 0 < 2 ∧ 1 ≤ 1 ∧ (zT13rd_7) ∧ (zT13rd_15) ∧
   1 < 2 ∧ 1 ≤ 1 ∧ 1 = 1 ∧ (zT13rd_9) ∧ Q (zT13rd_4 inter mk nu any first wrong bo)) (zT13rd_0 inter mk nu any first wrong bo c Q)))) (br (zT13rd_20 B c) (Q (zT13rd_3 B inter
   mk nu any first wrong bo c)) ((1 = 1 ∧ ∃ (u4 : List Int), ∃ (u5 : Int), [c] = u4 ++ [u5] ∧ T12.Good2 u4 ∧ (0 : Int) ≤ u5 ∧ u5 ≤ (255 : Int)) ∧ br (!Prod.fst (T12.rmay
   [c])) (1 ≤ 1 ∧ 1 = 1 ∧ (zT13rd_16) ∧ ((0 : Int) ≤ (0 : Int) ∧ (0 : Int) < (↑(2 : Nat) : Int)) ∧ 0 < 2 ∧ 1 ≤ 1 ∧ (zT13rd_7) ∧ (zT13rd_15) ∧ 1 < 2 ∧ 1 ≤ 1 ∧ 1 = 1 ∧
   (zT13rd_9) ∧ Q (zT13rd_4 inter mk nu any first wrong bo)) (zT13rd_0 inter mk nu any first wrong bo c Q)))) ((1 = 1 ∧ ∃ (u6 : List Int), ∃ (u7 : Int), [c] = u6 ++ [u7] ∧
   T12.Good2 u6 ∧ (0 : Int) ≤ u7 ∧ u7 ≤ (255 : Int)) ∧ br (!Prod.fst (T12.rmay [c])) (1 ≤ 1 ∧ (zT13rd_17) ∧ ((0 : Int) ≤ (0 : Int) ∧ (0 : Int) < (↑(1 : Nat) : Int)) ∧ 0 < 1 ∧
   1 ≤ 1 ∧ (zT13rd_7) ∧ Q (zT13rd_19 B inter mk nu any first wrong bo)) (zT13rd_6 B inter mk nu any first wrong bo c Q))))))))) (br (c == (24 : Int)) (Q (zT13rd_8)) (br (c ==
   (26 : Int)) (Q (zT13rd_8)) (br (c == (27 : Int)) (Q (zT13rd_18)) (br (decide (c < (32 : Int))) (1 ≤ 1 ∧ 1 = 1 ∧ (zT13rd_9) ∧ Q (SV.sl 4 7 0 2, [SO.cells 51 (zT13rd_1 inter
   mk nu any first wrong bo), SO.row 5 (Ty.int IntKind.u8) [], SO.row 3 (Ty.int IntKind.i64) nu, SO.row 5 (Ty.int IntKind.u8) bo, SO.row 69 T13.aty [((1 : Int), (65533 :
   Int), (0 : Int), (0 : Int), [], { data := #[] }, { data := #[] }), ((2 : Int), (0 : Int), IntKind.wrap IntKind.i64 c, (0 : Int), [], { data := #[] }, { data := #[] })]],
   [1])) (br (decide (c < (32 : Int))) (br (c == (7 : Int)) (Q (zT13rd_10 inter mk nu any first wrong bo)) (Q (zT13rd_10 inter mk nu any first wrong bo))) (br (c == (127 :
   Int)) (Q (zT13rd_10 inter mk nu any first wrong bo)) ((1 = 1 ∧ ∃ (u8 : List Int), ∃ (u9 : Int), [c] = u8 ++ [u9] ∧ T12.Good2 u8 ∧ (0 : Int) ≤ u9 ∧ u9 ≤ (255 : Int)) ∧ br
   (!Prod.fst (T12.rmay [c])) (1 ≤ 1 ∧ (zT13rd_17) ∧ ((0 : Int) ≤ (0 : Int) ∧ (0 : Int) < (↑(1 : Nat) : Int)) ∧ 0 < 1 ∧ 1 ≤ 1 ∧ 1 = 1 ∧ (zT13rd_9) ∧ Q (SV.sl 4 7 0 2,
   [SO.cells 51 (zT13rd_1 inter mk nu any first wrong bo), SO.row 5 (Ty.int IntKind.u8) [], SO.row 3 (Ty.int IntKind.i64) nu, SO.row 5 (Ty.int IntKind.u8) bo, SO.row 69
   T13.aty [((1 : Int), (65533 : Int), (0 : Int), (0 : Int), [], { data := #[] }, { data := #[] }), ((1 : Int), List.getD [(65533 : Int)] 0 (Ty.dflt (Ty.int IntKind.i32)), (0
   : Int), (0 : Int), [], { data := #[] }, { data := #[] })]], [1])) (zT13rd_13 inter mk nu any first wrong bo c Q))))))))) (br (c == (127 : Int)) (br ((↑(List.length B) :
   Int) == (0 : Int)) (br (c == (24 : Int)) (Q (zT13rd_5 B)) (br (c == (26 : Int)) (Q (zT13rd_5 B)) (br (c == (27 : Int)) (Q (zT13rd_14 B)) (br (decide (c < (32 : Int))) (1 ≤
   1 ∧ (zT13rd_7) ∧ Q (zT13rd_23 B inter mk nu any first wrong bo c)) (br (decide (c < (32 : Int))) (br (c == (7 : Int)) (Q (zT13rd_11 B inter mk nu any first wrong bo)) (Q
   (zT13rd_11 B inter mk nu any first wrong bo))) (br (c == (127 : Int)) (Q (zT13rd_11 B inter mk nu any first wrong bo)) (br (decide ((↑(List.length B) : Int) > (0 : Int)))
   (0 + List.length B ≤ List.length B ∧ (zT13rd_21 B) ∧ 1 ≤ 1 ∧ List.length (List.take (List.length B) (List.drop 0 B)) = List.length (List.take (List.length B) (List.drop 0
   B)) ∧ (zT13rd_22 B) ∧ (List.length (List.take (List.length B) (List.drop 0 B)) + 1 = List.length (List.take (List.length B) (List.drop 0 B) ++ [c]) ∧ ∃ (u10 : List Int), ∃
   (u11 : Int), List.take (List.length B) (List.drop 0 B) ++ [c] = u10 ++ [u11] ∧ T12.Good2 u10 ∧ (0 : Int) ≤ u11 ∧ u11 ≤ (255 : Int)) ∧ br (zT13rd_20 B c) (br (Prod.snd
   (T12.rmay (List.take (List.length B) (List.drop 0 B) ++ [c]))) (zT13rd_12 B inter mk nu any first wrong bo c Q) (br (zT13rd_20 B c) (Q (zT13rd_3 B inter mk nu any first
   wrong bo c)) ((1 = 1 ∧ ∃ (u12 : List Int), ∃ (u13 : Int), [c] = u12 ++ [u13] ∧ T12.Good2 u12 ∧ (0 : Int) ≤ u13 ∧ u13 ≤ (255 : Int)) ∧ br (!Prod.fst (T12.rmay [c])) (1 ≤ 1
   ∧ 1 = 1 ∧ (zT13rd_16) ∧ ((0 : Int) ≤ (0 : Int) ∧ (0 : Int) < (↑(2 : Nat) : Int)) ∧ 0 < 2 ∧ 1 ≤ 1 ∧ (zT13rd_7) ∧ (zT13rd_15) ∧ 1 < 2 ∧ 1 ≤ 1 ∧ 1 = 1 ∧ (zT13rd_9) ∧ Q
   (zT13rd_4 inter mk nu any first wrong bo)) (zT13rd_0 inter mk nu any first wrong bo c Q)))) (br (zT13rd_20 B c) (Q (zT13rd_3 B inter mk nu any first wrong bo c)) ((1 = 1 ∧
   ∃ (u14 : List Int), ∃ (u15 : Int), [c] = u14 ++ [u15] ∧ T12.Good2 u14 ∧ (0 : Int) ≤ u15 ∧ u15 ≤ (255 : Int)) ∧ br (!Prod.fst (T12.rmay [c])) (1 ≤ 1 ∧ 1 = 1 ∧ (zT13rd_16) ∧
   ((0 : Int) ≤ (0 : Int) ∧ (0 : Int) < (↑(2 : Nat) : Int)) ∧ 0 < 2 ∧ 1 ≤ 1 ∧ (zT13rd_7) ∧ (zT13rd_15) ∧ 1 < 2 ∧ 1 ≤ 1 ∧ 1 = 1 ∧ (zT13rd_9) ∧ Q (zT13rd_4 inter mk nu any
   first wrong bo)) (zT13rd_0 inter mk nu any first wrong bo c Q)))) ((1 = 1 ∧ ∃ (u16 : List Int), ∃ (u17 : Int), [c] = u16 ++ [u17] ∧ T12.Good2 u16 ∧ (0 : Int) ≤ u17 ∧ u17 ≤
   (255 : Int)) ∧ br (!Prod.fst (T12.rmay [c])) (1 ≤ 1 ∧ (zT13rd_17) ∧ ((0 : Int) ≤ (0 : Int) ∧ (0 : Int) < (↑(1 : Nat) : Int)) ∧ 0 < 1 ∧ 1 ≤ 1 ∧ (zT13rd_7) ∧ Q (zT13rd_19 B
   inter mk nu any first wrong bo)) (zT13rd_6 B inter mk nu any first wrong bo c Q))))))))) (br (c == (24 : Int)) (Q (zT13rd_8)) (br (c == (26 : Int)) (Q (zT13rd_8)) (br (c
   == (27 : Int)) (Q (zT13rd_18)) (br (decide (c < (32 : Int))) (1 ≤ 1 ∧ 1 = 1 ∧ (zT13rd_9) ∧ Q (SV.sl 4 7 0 2, [SO.cells 51 (zT13rd_1 inter mk nu any first wrong bo), SO.row
   5 (Ty.int IntKind.u8) [], SO.row 3 (Ty.int IntKind.i64) nu, SO.row 5 (Ty.int IntKind.u8) bo, SO.row 69 T13.aty [((1 : Int), (65533 : Int), (0 : Int), (0 : Int), [], { data
   := #[] }, { data := #[] }), ((2 : Int), (0 : Int), IntKind.wrap IntKind.i64 c, (0 : Int), [], { data := #[] }, { data := #[] })]], [1])) (br (decide (c < (32 : Int))) (br
   (c == (7 : Int)) (Q (zT13rd_10 inter mk nu any first wrong bo)) (Q (zT13rd_10 inter mk nu any first wrong bo))) (br (c == (127 : Int)) (Q (zT13rd_10 inter mk nu any first
   wrong bo)) ((1 = 1 ∧ ∃ (u18 : List Int), ∃ (u19 : Int), [c] = u18 ++ [u19] ∧ T12.Good2 u18 ∧ (0 : Int) ≤ u19 ∧ u19 ≤ (255 : Int)) ∧ br (!Prod.fst (T12.rmay [c])) (1 ≤ 1 ∧
   (zT13rd_17) ∧ ((0 : Int) ≤ (0 : Int) ∧ (0 : Int) < (↑(1 : Nat) : Int)) ∧ 0 < 1 ∧ 1 ≤ 1 ∧ 1 = 1 ∧ (zT13rd_9) ∧ Q (SV.sl 4 7 0 2, [SO.cells 51 (zT13rd_1 inter mk nu any
   first wrong bo), SO.row 5 (Ty.int IntKind.u8) [], SO.row 3 (Ty.int IntKind.i64) nu, SO.row 5 (Ty.int IntKind.u8) bo, SO.row 69 T13.aty [((1 : Int), (65533 : Int), (0 :
   Int), (0 : Int), [], { data := #[] }, { data := #[] }), ((1 : Int), List.getD [(65533 : Int)] 0 (Ty.dflt (Ty.int IntKind.i32)), (0 : Int), (0 : Int), [], { data := #[] },
   { data := #[] })]], [1])) (zT13rd_13 inter mk nu any first wrong bo c Q))))))))) (br (c == (24 : Int)) (Q (zT13rd_5 B)) (br (c == (26 : Int)) (Q (zT13rd_5 B)) (br (c ==
   (27 : Int)) (Q (zT13rd_14 B)) (br (decide (c < (32 : Int))) (1 ≤ 1 ∧ (zT13rd_7) ∧ Q (zT13rd_23 B inter mk nu any first wrong bo c)) (br (decide (c < (32 : Int))) (br (c ==
   (7 : Int)) (Q (zT13rd_11 B inter mk nu any first wrong bo)) (Q (zT13rd_11 B inter mk nu any first wrong bo))) (br (c == (127 : Int)) (Q (zT13rd_11 B inter mk nu any first
   wrong bo)) (br (decide ((↑(List.length B) : Int) > (0 : Int))) (0 + List.length B ≤ List.length B ∧ (zT13rd_21 B) ∧ 1 ≤ 1 ∧ List.length (List.take (List.length B)
   (List.drop 0 B)) = List.length (List.take (List.length B) (List.drop 0 B)) ∧ (zT13rd_22 B) ∧ (List.length (List.take (List.length B) (List.drop 0 B)) + 1 = List.length
   (List.take (List.length B) (List.drop 0 B) ++ [c]) ∧ ∃ (u20 : List Int), ∃ (u21 : Int), List.take (List.length B) (List.drop 0 B) ++ [c] = u20 ++ [u21] ∧ T12.Good2 u20 ∧
   (0 : Int) ≤ u21 ∧ u21 ≤ (255 : Int)) ∧ br (zT13rd_20 B c) (br (Prod.snd (T12.rmay (List.take (List.length B) (List.drop 0 B) ++ [c]))) (zT13rd_12 B inter mk nu any first
   wrong bo c Q) (br (zT13rd_20 B c) (Q (zT13rd_3 B inter mk nu any first wrong bo c)) ((1 = 1 ∧ ∃ (u22 : List Int), ∃ (u23 : Int), [c] = u22 ++ [u23] ∧ T12.Good2 u22 ∧ (0 :
   Int) ≤ u23 ∧ u23 ≤ (255 : Int)) ∧ br (!Prod.fst (T12.rmay [c])) (1 ≤ 1 ∧ 1 = 1 ∧ (zT13rd_16) ∧ ((0 : Int) ≤ (0 : Int) ∧ (0 : Int) < (↑(2 : Nat) : Int)) ∧ 0 < 2 ∧ 1 ≤ 1 ∧
   (zT13rd_7) ∧ (zT13rd_15) ∧ 1 < 2 ∧ 1 ≤ 1 ∧ 1 = 1 ∧ (zT13rd_9) ∧ Q (zT13rd_4 inter mk nu any first wrong bo)) (zT13rd_0 inter mk nu any first wrong bo c Q)))) (br
   (zT13rd_20 B c) (Q (zT13rd_3 B inter mk nu any first wrong bo c)) ((1 = 1 ∧ ∃ (u24 : List Int), ∃ (u25 : Int), [c] = u24 ++ [u25] ∧ T12.Good2 u24 ∧ (0 : Int) ≤ u25 ∧ u25 ≤
   (255 : Int)) ∧ br (!Prod.fst (T12.rmay [c])) (1 ≤ 1 ∧ 1 = 1 ∧ (zT13rd_16) ∧ ((0 : Int) ≤ (0 : Int) ∧ (0 : Int) < (↑(2 : Nat) : Int)) ∧ 0 < 2 ∧ 1 ≤ 1 ∧ (zT13rd_7) ∧
   (zT13rd_15) ∧ 1 < 2 ∧ 1 ≤ 1 ∧ 1 = 1 ∧ (zT13rd_9) ∧ Q (zT13rd_4 inter mk nu any first wrong bo)) (zT13rd_0 inter mk nu any first wrong bo c Q)))) ((1 = 1 ∧ ∃ (u26 : List
   Int), ∃ (u27 : Int), [c] = u26 ++ [u27] ∧ T12.Good2 u26 ∧ (0 : Int) ≤ u27 ∧ u27 ≤ (255 : Int)) ∧ br (!Prod.fst (T12.rmay [c])) (1 ≤ 1 ∧ (zT13rd_17) ∧ ((0 : Int) ≤ (0 :
   Int) ∧ (0 : Int) < (↑(1 : Nat) : Int)) ∧ 0 < 1 ∧ 1 ≤ 1 ∧ (zT13rd_7) ∧ Q (zT13rd_19 B inter mk nu any first wrong bo)) (zT13rd_6 B inter mk nu any first wrong bo c
   Q))))))))))) (by kernel_rfl) ?_
  delta zT13rd_0 zT13rd_1 zT13rd_2 zT13rd_3 zT13rd_4 zT13rd_5 zT13rd_6 zT13rd_7 zT13rd_8 zT13rd_9 zT13rd_10 zT13rd_11 zT13rd_12 zT13rd_13 zT13rd_14 zT13rd_15 zT13rd_16 zT13rd_17 zT13rd_18 zT13rd_19 zT13rd_20 zT13rd_21 zT13rd_22 zT13rd_23
  have hbs : bytesOf Tryz.prog 69 = 88 := by kernel_rfl
  have hbt : bytesOf Tryz.prog 5 = 1 := by kernel_rfl
  have hbr : bytesOf Tryz.prog 21 = 4 := by kernel_rfl
  have hb1 := hc.1
  have hb2 := hc.2
  have hw64 : IntKind.i64.wrap c = c := by rw [IntKind.wrap_i64]; omega
  have hw32 : IntKind.i32.wrap c = c := by rw [IntKind.wrap_i32]; omega
  have hw01 : IntKind.i64.wrap (0 + 1) = 1 := by decide
  have one : ∃ B x, [c] = B ++ [x] ∧ Good2 B ∧ 0 ≤ x ∧ x ≤ 255 := ⟨[], c, rfl, trivial, hc⟩
  have oneB : ∃ B1 x, B ++ [c] = B1 ++ [x] ∧ Good2 B1 ∧ 0 ≤ x ∧ x ≤ 255 := ⟨B, c, rfl, hg, hc⟩
  have hst := step_first' (c := c)
  have hl3 := good_len (good2_good hg)
  have hlen : (B ++ [c]).length = B.length + 1 := by rw [List.length_append]; rfl
  have hnext : 0 < B.length → _ := fun hp => step_next (x := c) hg (fun e => by rw [e] at hp; simp at hp) hc
  have hBl : B.length = 0 → B = [] := List.eq_nil_of_length_eq_zero
  unfold GoesR at hq
  simp only [hw64, hw32, hw01, hbs, hbt, hbr, List.getD_cons_zero, List.getD_cons_succ, List.drop_zero, List.take_length, Nat.zero_add, hlen]
  repeat' first
    | (intro _ _)
    | (refine br_intro (fun h => ?_) (fun h => ?_))
    | (refine And.intro ?_ ?_)
  all_goals first | omega | exact one | exact oneB | rfl | exact True.intro | (simp only [beq_iff_eq, beq_eq_false_iff_ne, decide_eq_true_eq, decide_eq_false_iff_not, ne_eq, Bool.not_eq_true', Bool.not_eq_false'] at *) | skip
  all_goals first | omega | exact ((hnext (by omega)).1 ⟨by assumption, by assumption⟩).1 | refine hq _ _ _ _ _ _ _ _ _ _ _ _ _ _ _ ?_ ?_ ?_ ?_ ?_ rfl | skip
  all_goals clear hq
  all_goals first
    | rfl
    | (simp only [List.length_append, List.length_cons, List.length_nil]; done)
    | (have hB : B = [] := hBl (by omega)
       subst hB
       have e7 : ¬ c = 127 := by omega
       simp [RS.ground, RS.begin, RS.utf, aControl, aPrint, fl, e0, sG, sE, *]; done)
    | (have hB : B = [] := hBl (by omega)
       subst hB
       simp [RS.ground, RS.begin, RS.utf, aControl, aPrint, fl, e0, sG, sE, *]; done)
    | (have hB : 0 < B.length := by omega
       have e1 := ((hnext hB).1 ⟨by assumption, by assumption⟩).2
       have e2 : ¬ (c < 32 ∨ c = 127) := by omega
       simp [RS.ground, RS.begin, RS.utf, aControl, aPrint, fl, e0, sG, sE, *]; done)
    | (have hB : 0 < B.length := by omega
       have e1 := ((hnext hB).2.1 ⟨by assumption, by assumption⟩).2
       have e2 : ¬ (c < 32 ∨ c = 127) := by omega
       simp [RS.ground, RS.begin, RS.utf, aControl, aPrint, fl, e0, sG, sE, *]; done)
    | (have hB : 0 < B.length := by omega
       have e1 := (hnext hB).2.2 (by assumption)
       have e2 : ¬ (c < 32 ∨ c = 127) := by omega
       simp [RS.ground, RS.begin, RS.utf, aControl, aPrint, fl, e0, sG, sE, *]; done)
    | (have hB : 0 < B.length := by omega
       have hB2 : ¬ B = [] := fun e => by rw [e] at hB; simp at hB
       have e7 : ¬ c = 127 := by omega
       simp [RS.ground, RS.begin, RS.utf, aControl, aPrint, fl, e0, sG, sE, *]; done)
    | (have hB : 0 < B.length := by omega
       have hB2 : ¬ B = [] := fun e => by rw [e] at hB; simp at hB
       simp [RS.ground, RS.begin, RS.utf, aControl, aPrint, fl, e0, sG, sE, *]; done)
    | (exfalso
       have a : (rmay (B ++ [c])).1 = true := by assumption
       have b : (rmay (B ++ [c])).1 = false := by assumption
       rw [a] at b
       cases b)
    | (have hB : 0 < B.length := by omega
       have e1 := ((hnext hB).2.1 ⟨by assumption, by assumption⟩).2
       have e2 : ¬ (c < 32 ∨ c = 127) := by omega
       simp only [RS.ground, if_neg e2, RS.utf, e1, List.map_nil])
    | skip
end T13

