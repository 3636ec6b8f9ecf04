/- Part of a proof: the walks of the functions that the law calls, and their plain laws; no condition. -/
import Derived.Test.YtlcobcpgaoeijaaGreatSxT
import Derived.Test.YtlcobcpgaoeijaaGreatM11
set_option linter.unusedVariables false
set_option linter.unusedSimpArgs false
open Go Sx Go.Proofs T12
namespace T13
set_option maxRecDepth 100000
set_option maxHeartbeats 8000000
attribute [local irreducible] Tree.Leads
noncomputable abbrev zT13rc_0 (inter : ByteArray) (mk : Int) (nu : List Int) (any : Bool) (wrong : Bool) (bo : List Int) (c : Int) (Q : SV × Heap × List Nat → Prop) := (br (!any) (((0 : Int) ≤ IntKind.wrap IntKind.i64 ((↑(1 : Nat) : Int) - (1 : Int)) ∧ IntKind.wrap IntKind.i64 ((↑(1 : Nat) : Int) - (1 : Int)) < (↑(1 : Nat) : Int)) ∧ 0 < 1 ∧ ((0 : Int) ≤ IntKind.wrap IntKind.i64 ((↑(1 : Nat) : Int) - (1 : Int)) ∧ IntKind.wrap IntKind.i64 ((↑(1 : Nat) : Int) - (1 : Int)) < (↑(1 : Nat) : Int)) ∧ 0 < 1 ∧ Q (SV.sl 4 7 0 0, [SO.cells 51 [SV.lit (Value.string T13.sC), SV.sl 1 1 0 0, SV.lit (Value.string inter), SV.lit (Value.int IntKind.i64 mk), SV.sl 2 1 0 1, SV.lit (Value.bool true), SV.lit (Value.bool false), SV.lit (Value.bool wrong), SV.sl 3 1 0 (List.length bo)], SO.row 5 (Ty.int IntKind.u8) [], SO.row 3 (Ty.int IntKind.i64) [Min.min (IntKind.wrap IntKind.i64 (IntKind.wrap IntKind.i64 (Max.max (List.getD [(-1 : Int)] 0 (Ty.dflt (Ty.int IntKind.i64))) (0 : Int) * (10 : Int)) + IntKind.wrap IntKind.i64 (IntKind.wrap IntKind.u8 (c - (48 : Int))))) (9999 : Int)], SO.row 5 (Ty.int IntKind.u8) bo, SO.row 69 T13.aty []], [2])) (((0 : Int) ≤ IntKind.wrap IntKind.i64 ((↑(List.length nu) : Int) - (1 : Int)) ∧ IntKind.wrap IntKind.i64 ((↑(List.length nu) : Int) - (1 : Int)) < (↑(List.length nu) : Int)) ∧ 0 + Int.toNat (IntKind.wrap IntKind.i64 ((↑(List.length nu) : Int) - (1 : Int))) < List.length nu ∧ ((0 : Int) ≤ IntKind.wrap IntKind.i64 ((↑(List.length nu) : Int) - (1 : Int)) ∧ IntKind.wrap IntKind.i64 ((↑(List.length nu) : Int) - (1 : Int)) < (↑(List.length nu) : Int)) ∧ 0 + Int.toNat (IntKind.wrap IntKind.i64 ((↑(List.length nu) : Int) - (1 : Int))) < List.length nu ∧ Q (SV.sl 4 7 0 0, [SO.cells 51 [SV.lit (Value.string T13.sC), SV.sl 1 1 0 0, SV.lit (Value.string inter), SV.lit (Value.int IntKind.i64 mk), SV.sl 2 1 0 (List.length nu), SV.lit (Value.bool true), SV.lit (Value.bool false), SV.lit (Value.bool wrong), SV.sl 3 1 0 (List.length bo)], SO.row 5 (Ty.int IntKind.u8) [], SO.row 3 (Ty.int IntKind.i64) (List.set nu (0 + Int.toNat (IntKind.wrap IntKind.i64 ((↑(List.length nu) : Int) - (1 : Int)))) (Min.min (IntKind.wrap IntKind.i64 (IntKind.wrap IntKind.i64 (Max.max (List.getD nu (0 + Int.toNat (IntKind.wrap IntKind.i64 ((↑(List.length nu) : Int) - (1 : Int)))) (Ty.dflt (Ty.int IntKind.i64))) (0 : Int) * (10 : Int)) + IntKind.wrap IntKind.i64 (IntKind.wrap IntKind.u8 (c - (48 : Int))))) (9999 : Int))), SO.row 5 (Ty.int IntKind.u8) bo, SO.row 69 T13.aty []], [])))
noncomputable abbrev zT13rc_1 (inter : ByteArray) (mk : Int) (nu : List Int) (any : Bool) (wrong : Bool) (bo : List Int) (Q : SV × Heap × List Nat → Prop) := (br (!any) (1 ≤ 1 ∧ 1 = 1 ∧ ((↑(2 : Nat) : Int) ≤ (9223372036854775807 : Int) ∧ 2 * Sx.bytesOf Go.Proofs.Tryz.prog 3 ≤ 140737488355328) ∧ Q (SV.sl 4 7 0 0, [SO.cells 51 [SV.lit (Value.string T13.sC), SV.sl 1 1 0 0, SV.lit (Value.string inter), SV.lit (Value.int IntKind.i64 mk), SV.sl 2 1 0 2, SV.lit (Value.bool true), SV.lit (Value.bool false), SV.lit (Value.bool wrong), SV.sl 3 1 0 (List.length bo)], SO.row 5 (Ty.int IntKind.u8) [], SO.row 3 (Ty.int IntKind.i64) [(-1 : Int), (-1 : Int)], SO.row 5 (Ty.int IntKind.u8) bo, SO.row 69 T13.aty []], [2])) (br (decide ((↑(List.length nu) : Int) ≤ (8 : Int))) (1 ≤ 1 ∧ List.length nu = List.length nu ∧ ((↑(List.length nu + 1) : Int) ≤ (9223372036854775807 : Int) ∧ (List.length nu + 1) * Sx.bytesOf Go.Proofs.Tryz.prog 3 ≤ 140737488355328) ∧ Q (SV.sl 4 7 0 0, [SO.cells 51 [SV.lit (Value.string T13.sC), SV.sl 1 1 0 0, SV.lit (Value.string inter), SV.lit (Value.int IntKind.i64 mk), SV.sl 2 1 0 (List.length nu + 1), SV.lit (Value.bool true), SV.lit (Value.bool false), SV.lit (Value.bool wrong), SV.sl 3 1 0 (List.length bo)], SO.row 5 (Ty.int IntKind.u8) [], SO.row 3 (Ty.int IntKind.i64) (nu ++ [(-1 : Int)]), SO.row 5 (Ty.int IntKind.u8) bo, SO.row 69 T13.aty []], [2])) (Q (SV.sl 4 7 0 0, [SO.cells 51 [SV.lit (Value.string T13.sC), SV.sl 1 1 0 0, SV.lit (Value.string inter), SV.lit (Value.int IntKind.i64 mk), SV.sl 2 1 0 (List.length nu), SV.lit (Value.bool true), SV.lit (Value.bool false), SV.lit (Value.bool wrong), SV.sl 3 1 0 (List.length bo)], SO.row 5 (Ty.int IntKind.u8) [], SO.row 3 (Ty.int IntKind.i64) nu, SO.row 5 (Ty.int IntKind.u8) bo, SO.row 69 T13.aty []], []))))
noncomputable abbrev zT13rc_7 := [SV.lit (Value.string { data := #[] }), SV.sl 1 1 0 0, SV.lit (Value.string { data := #[] }), SV.lit (Value.int IntKind.i64 (0 : Int)), SV.sl 2 1 0 0, SV.lit (Value.bool false), SV.lit (Value.bool true), SV.lit (Value.bool false), SV.sl 3 1 0 0]
noncomputable abbrev zT13rc_2 (inter : ByteArray) (mk : Int) (nu : List Int) (c : Int) : SV × Heap × List Nat := (SV.sl 4 7 0 1, [SO.cells 51 (zT13rc_7), SO.row 5 (Ty.int IntKind.u8) [], SO.row 3 (Ty.int IntKind.i64) [], SO.row 5 (Ty.int IntKind.u8) [], SO.row 69 T13.aty [((4 : Int), (0 : Int), IntKind.wrap IntKind.i64 c, mk, List.take (List.length (List.take (Int.toNat (Min.min (↑(List.length nu) : Int) (8 : Int))) (List.drop 0 nu))) (List.drop 0 (List.take (Int.toNat (Min.min (↑(List.length nu) : Int) (8 : Int))) (List.drop 0 nu))), inter, { data := #[] })]], [2, 3])
noncomputable abbrev zT13rc_3 (Q : SV × Heap × List Nat → Prop) := (Q (SV.sl 4 7 0 0, [SO.cells 51 (zT13rc_7), SO.row 5 (Ty.int IntKind.u8) [], SO.row 3 (Ty.int IntKind.i64) [], SO.row 5 (Ty.int IntKind.u8) [], SO.row 69 T13.aty []], [2, 3]))
noncomputable abbrev zT13rc_4 (nu : List Int) := ((↑(0 + List.length (List.take (Int.toNat (Min.min (↑(List.length nu) : Int) (8 : Int))) (List.drop 0 nu))) : Int) ≤ (9223372036854775807 : Int) ∧ (0 + List.length (List.take (Int.toNat (Min.min (↑(List.length nu) : Int) (8 : Int))) (List.drop 0 nu))) * Sx.bytesOf Go.Proofs.Tryz.prog 3 ≤ 140737488355328)
noncomputable abbrev zT13rc_5 (inter : ByteArray) (mk : Int) (nu : List Int) (any : Bool) (bo : List Int) : SV × Heap × List Nat := (SV.sl 4 7 0 0, [SO.cells 51 [SV.lit (Value.string T13.sC), SV.sl 1 1 0 0, SV.lit (Value.string inter), SV.lit (Value.int IntKind.i64 mk), SV.sl 2 1 0 (List.length nu), SV.lit (Value.bool any), SV.lit (Value.bool false), SV.lit (Value.bool true), SV.sl 3 1 0 (List.length bo)], SO.row 5 (Ty.int IntKind.u8) [], SO.row 3 (Ty.int IntKind.i64) nu, SO.row 5 (Ty.int IntKind.u8) bo, SO.row 69 T13.aty []], [])
noncomputable abbrev zT13rc_6 (nu : List Int) := ((0 : Int) ≤ Min.min (↑(List.length nu) : Int) (8 : Int) ∧ Min.min (↑(List.length nu) : Int) (8 : Int) ≤ (↑(List.length nu) : Int))
noncomputable abbrev zT13rc_8 (inter : ByteArray) (mk : Int) (nu : List Int) (any : Bool) (first : Bool) (wrong : Bool) (bo : List Int) : SV × Heap × List Nat := (SV.sl 4 7 0 0, [SO.cells 51 [SV.lit (Value.string T13.sC), SV.sl 1 1 0 0, SV.lit (Value.string inter), SV.lit (Value.int IntKind.i64 mk), SV.sl 2 1 0 (List.length nu), SV.lit (Value.bool any), SV.lit (Value.bool first), SV.lit (Value.bool wrong), SV.sl 3 1 0 (List.length bo)], SO.row 5 (Ty.int IntKind.u8) [], SO.row 3 (Ty.int IntKind.i64) nu, SO.row 5 (Ty.int IntKind.u8) bo, SO.row 69 T13.aty []], [])
theorem vrc (inter : ByteArray) (mk : Int) (nu : List Int) (any first wrong : Bool) (bo : List Int) (c : Int) (hc : Byte c) (hi : inter.size ≤ 3) (hn : nu.length ≤ 9) (hn0 : any = true → 0 < nu.length) (hxn : ∀ x ∈ nu, -1 ≤ x ∧ x ≤ 9999) (Q : SV × Heap × List Nat → Prop) (hq : GoesR (RS.csi ⟨sC, [], inter, mk, nu, any, first, wrong, bo⟩ c) Q) : (bodySumm R3 Tryz.prog Tryz.f21 Zr [.ptr 0 0, .lit (.int .u8 c)] (rrows sC [] 0 inter mk nu nu.length any first wrong bo bo.length)).Leads Q := by
  refine Sx.by_text (q :=
   br (c == (24 : Int)) (zT13rc_3 Q) (br (c == (26 : Int)) (zT13rc_3 Q) (br (c == (27 : Int)) (Q (SV.sl 4 7 0 0, [SO.cells 51 [SV.lit (Value.string { data := #[(101 : UInt8),
   (115 : UInt8), (99 : UInt8)] }), SV.sl 1 1 0 0, SV.lit (Value.string { data := #[] }), SV.lit (Value.int IntKind.i64 (0 : Int)), SV.sl 2 1 0 0, SV.lit (Value.bool false),
   SV.lit (Value.bool true), SV.lit (Value.bool false), SV.sl 3 1 0 0], SO.row 5 (Ty.int IntKind.u8) [], SO.row 3 (Ty.int IntKind.i64) [], SO.row 5 (Ty.int IntKind.u8) [],
   SO.row 69 T13.aty []], [2, 3])) (br (decide (c < (32 : Int))) (1 ≤ 1 ∧ ((↑(1 : Nat) : Int) ≤ (9223372036854775807 : Int) ∧ 1 * Sx.bytesOf Go.Proofs.Tryz.prog 69 ≤
   140737488355328) ∧ Q (SV.sl 4 7 0 1, [SO.cells 51 [SV.lit (Value.string T13.sC), SV.sl 1 1 0 0, SV.lit (Value.string inter), SV.lit (Value.int IntKind.i64 mk), SV.sl 2 1 0
   (List.length nu), SV.lit (Value.bool any), SV.lit (Value.bool first), SV.lit (Value.bool wrong), SV.sl 3 1 0 (List.length bo)], SO.row 5 (Ty.int IntKind.u8) [], SO.row 3
   (Ty.int IntKind.i64) nu, SO.row 5 (Ty.int IntKind.u8) bo, SO.row 69 T13.aty [((2 : Int), (0 : Int), IntKind.wrap IntKind.i64 c, (0 : Int), [], { data := #[] }, { data :=
   #[] })]], [])) (br (decide (c < (32 : Int))) (br (c == (7 : Int)) (Q (zT13rc_8 inter mk nu any first wrong bo)) (Q (zT13rc_8 inter mk nu any first wrong bo))) (br (c ==
   (127 : Int)) (Q (zT13rc_8 inter mk nu any first wrong bo)) (br (decide (c ≥ (128 : Int))) ((1 = 1 ∧ ∃ (u0 : List Int), ∃ (u1 : Int), [c] = u0 ++ [u1] ∧ T12.Good2 u0 ∧ (0 :
   Int) ≤ u1 ∧ u1 ≤ (255 : Int)) ∧ br (!Prod.fst (T12.rmay [c])) (1 ≤ 1 ∧ ((↑(1 : Nat) : Int) ≤ (9223372036854775807 : Int) ∧ 1 * Sx.bytesOf Go.Proofs.Tryz.prog 21 ≤
   140737488355328) ∧ ((0 : Int) ≤ (0 : Int) ∧ (0 : Int) < (↑(1 : Nat) : Int)) ∧ 0 < 1 ∧ 1 ≤ 1 ∧ ((↑(1 : Nat) : Int) ≤ (9223372036854775807 : Int) ∧ 1 * Sx.bytesOf
   Go.Proofs.Tryz.prog 69 ≤ 140737488355328) ∧ Q (SV.sl 4 7 0 1, [SO.cells 51 (zT13rc_7), SO.row 5 (Ty.int IntKind.u8) [], SO.row 3 (Ty.int IntKind.i64) [], SO.row 5 (Ty.int
   IntKind.u8) [], SO.row 69 T13.aty [((1 : Int), List.getD [(65533 : Int)] 0 (Ty.dflt (Ty.int IntKind.i32)), (0 : Int), (0 : Int), [], { data := #[] }, { data := #[] })]],
   [2, 3])) (br (Prod.snd (T12.rmay [c])) (1 ≤ 1 ∧ ((↑(1 : Nat) : Int) ≤ (9223372036854775807 : Int) ∧ 1 * Sx.bytesOf Go.Proofs.Tryz.prog 21 ≤ 140737488355328) ∧ ((0 : Int) ≤
   (0 : Int) ∧ (0 : Int) < (↑(1 : Nat) : Int)) ∧ 0 < 1 ∧ 1 ≤ 1 ∧ ((↑(1 : Nat) : Int) ≤ (9223372036854775807 : Int) ∧ 1 * Sx.bytesOf Go.Proofs.Tryz.prog 69 ≤ 140737488355328)
   ∧ Q (SV.sl 4 7 0 1, [SO.cells 51 (zT13rc_7), SO.row 5 (Ty.int IntKind.u8) [], SO.row 3 (Ty.int IntKind.i64) [], SO.row 5 (Ty.int IntKind.u8) [], SO.row 69 T13.aty [((1 :
   Int), List.getD [IntKind.wrap IntKind.i32 c] 0 (Ty.dflt (Ty.int IntKind.i32)), (0 : Int), (0 : Int), [], { data := #[] }, { data := #[] })]], [2, 3])) (Q (SV.sl 4 7 0 0,
   [SO.cells 51 [SV.lit (Value.string { data := #[] }), SV.sl 1 1 0 1, SV.lit (Value.string { data := #[] }), SV.lit (Value.int IntKind.i64 (0 : Int)), SV.sl 2 1 0 0, SV.lit
   (Value.bool false), SV.lit (Value.bool true), SV.lit (Value.bool false), SV.sl 3 1 0 0], SO.row 5 (Ty.int IntKind.u8) [c], SO.row 3 (Ty.int IntKind.i64) [], SO.row 5
   (Ty.int IntKind.u8) [], SO.row 69 T13.aty []], [1, 2, 3])))) (br (decide (c < (48 : Int))) (br (decide ((↑(ByteArray.size inter) : Int) ≥ (2 : Int))) (Q (zT13rc_5 inter mk
   nu any bo)) (1 ≤ 1 ∧ (↑(ByteArray.size inter + ByteArray.size (Sx.bsOf [c])) : Int) ≤ (9223372036854775807 : Int) ∧ Q (SV.sl 4 7 0 0, [SO.cells 51 [SV.lit (Value.string
   T13.sC), SV.sl 1 1 0 0, SV.lit (Value.string (inter ++ Sx.bsOf [c])), SV.lit (Value.int IntKind.i64 mk), SV.sl 2 1 0 (List.length nu), SV.lit (Value.bool any), SV.lit
   (Value.bool false), SV.lit (Value.bool wrong), SV.sl 3 1 0 (List.length bo)], SO.row 5 (Ty.int IntKind.u8) [], SO.row 3 (Ty.int IntKind.i64) nu, SO.row 5 (Ty.int
   IntKind.u8) bo, SO.row 69 T13.aty []], []))) (br (decide (c ≥ (60 : Int))) (br (decide (c ≤ (63 : Int))) (br first (Q (SV.sl 4 7 0 0, [SO.cells 51 [SV.lit (Value.string
   T13.sC), SV.sl 1 1 0 0, SV.lit (Value.string inter), SV.lit (Value.int IntKind.i64 (IntKind.wrap IntKind.i64 c)), SV.sl 2 1 0 (List.length nu), SV.lit (Value.bool any),
   SV.lit (Value.bool false), SV.lit (Value.bool wrong), SV.sl 3 1 0 (List.length bo)], SO.row 5 (Ty.int IntKind.u8) [], SO.row 3 (Ty.int IntKind.i64) nu, SO.row 5 (Ty.int
   IntKind.u8) bo, SO.row 69 T13.aty []], [])) (br (decide (c ≥ (60 : Int))) (br (decide (c ≤ (63 : Int))) (Q (zT13rc_5 inter mk nu any bo)) (br (c == (58 : Int)) (Q
   (zT13rc_5 inter mk nu any bo)) (br (decide (c ≤ (59 : Int))) (br (!inter == { data := #[] }) (Q (zT13rc_5 inter mk nu any bo)) (br (decide (c ≤ (57 : Int))) (zT13rc_0
   inter mk nu any wrong bo c Q) (br (c == (59 : Int)) (zT13rc_1 inter mk nu any wrong bo Q) ((zT13rc_6 nu) ∧ True ∧ ∀ (u2 : Bool), True → br u2 (0 + Int.toNat (Min.min
   (↑(List.length nu) : Int) (8 : Int)) ≤ List.length nu ∧ (zT13rc_4 nu) ∧ br (!wrong) (0 + List.length (List.take (Int.toNat (Min.min (↑(List.length nu) : Int) (8 : Int)))
   (List.drop 0 nu)) ≤ List.length (List.take (Int.toNat (Min.min (↑(List.length nu) : Int) (8 : Int))) (List.drop 0 nu)) ∧ Q (zT13rc_2 inter mk nu c)) (zT13rc_3 Q)) (0 +
   Int.toNat (Min.min (↑(List.length nu) : Int) (8 : Int)) ≤ List.length nu ∧ (zT13rc_4 nu) ∧ br (!wrong) (0 + List.length (List.take (Int.toNat (Min.min (↑(List.length nu) :
   Int) (8 : Int))) (List.drop 0 nu)) ≤ List.length (List.take (Int.toNat (Min.min (↑(List.length nu) : Int) (8 : Int))) (List.drop 0 nu)) ∧ Q (zT13rc_2 inter mk nu c))
   (zT13rc_3 Q)))))) (br (decide (c ≤ (57 : Int))) (zT13rc_0 inter mk nu any wrong bo c Q) (br (c == (59 : Int)) (zT13rc_1 inter mk nu any wrong bo Q) ((zT13rc_6 nu) ∧ True ∧
   ∀ (u3 : Bool), True → br u3 (0 + Int.toNat (Min.min (↑(List.length nu) : Int) (8 : Int)) ≤ List.length nu ∧ (zT13rc_4 nu) ∧ br (!wrong) (0 + List.length (List.take
   (Int.toNat (Min.min (↑(List.length nu) : Int) (8 : Int))) (List.drop 0 nu)) ≤ List.length (List.take (Int.toNat (Min.min (↑(List.length nu) : Int) (8 : Int))) (List.drop 0
   nu)) ∧ Q (zT13rc_2 inter mk nu c)) (zT13rc_3 Q)) (0 + Int.toNat (Min.min (↑(List.length nu) : Int) (8 : Int)) ≤ List.length nu ∧ (zT13rc_4 nu) ∧ br (!wrong) (0 +
   List.length (List.take (Int.toNat (Min.min (↑(List.length nu) : Int) (8 : Int))) (List.drop 0 nu)) ≤ List.length (List.take (Int.toNat (Min.min (↑(List.length nu) : Int)
   (8 : Int))) (List.drop 0 nu)) ∧ Q (zT13rc_2 inter mk nu c)) (zT13rc_3 Q)))))))) (br (c == (58 : Int)) (Q (zT13rc_5 inter mk nu any bo)) (br (decide (c ≤ (59 : Int))) (br
   (!inter == { data := #[] }) (Q (zT13rc_5 inter mk nu any bo)) (br (decide (c ≤ (57 : Int))) (zT13rc_0 inter mk nu any wrong bo c Q) (br (c == (59 : Int)) (zT13rc_1 inter
   mk nu any wrong bo Q) ((zT13rc_6 nu) ∧ True ∧ ∀ (u4 : Bool), True → br u4 (0 + Int.toNat (Min.min (↑(List.length nu) : Int) (8 : Int)) ≤ List.length nu ∧ (zT13rc_4 nu) ∧
   br (!wrong) (0 + List.length (List.take (Int.toNat (Min.min (↑(List.length nu) : Int) (8 : Int))) (List.drop 0 nu)) ≤ List.length (List.take (Int.toNat (Min.min
   (↑(List.length nu) : Int) (8 : Int))) (List.drop 0 nu)) ∧ Q (zT13rc_2 inter mk nu c)) (zT13rc_3 Q)) (0 + Int.toNat (Min.min (↑(List.length nu) : Int) (8 : Int)) ≤
   List.length nu ∧ (zT13rc_4 nu) ∧ br (!wrong) (0 + List.length (List.take (Int.toNat (Min.min (↑(List.length nu) : Int) (8 : Int))) (List.drop 0 nu)) ≤ List.length
   (List.take (Int.toNat (Min.min (↑(List.length nu) : Int) (8 : Int))) (List.drop 0 nu)) ∧ Q (zT13rc_2 inter mk nu c)) (zT13rc_3 Q)))))) (br (decide (c ≤ (57 : Int)))
   (zT13rc_0 inter mk nu any wrong bo c Q) (br (c == (59 : Int)) (zT13rc_1 inter mk nu any wrong bo Q) ((zT13rc_6 nu) ∧ True ∧ ∀ (u5 : Bool), True → br u5 (0 + Int.toNat
   (Min.min (↑(List.length nu) : Int) (8 : Int)) ≤ List.length nu ∧ (zT13rc_4 nu) ∧ br (!wrong) (0 + List.length (List.take (Int.toNat (Min.min (↑(List.length nu) : Int) (8 :
   Int))) (List.drop 0 nu)) ≤ List.length (List.take (Int.toNat (Min.min (↑(List.length nu) : Int) (8 : Int))) (List.drop 0 nu)) ∧ Q (zT13rc_2 inter mk nu c)) (zT13rc_3 Q))
   (0 + Int.toNat (Min.min (↑(List.length nu) : Int) (8 : Int)) ≤ List.length nu ∧ (zT13rc_4 nu) ∧ br (!wrong) (0 + List.length (List.take (Int.toNat (Min.min (↑(List.length
   nu) : Int) (8 : Int))) (List.drop 0 nu)) ≤ List.length (List.take (Int.toNat (Min.min (↑(List.length nu) : Int) (8 : Int))) (List.drop 0 nu)) ∧ Q (zT13rc_2 inter mk nu c))
   (zT13rc_3 Q))))))))) (br (decide (c ≥ (60 : Int))) (br (decide (c ≤ (63 : Int))) (Q (zT13rc_5 inter mk nu any bo)) (br (c == (58 : Int)) (Q (zT13rc_5 inter mk nu any bo))
   (br (decide (c ≤ (59 : Int))) (br (!inter == { data := #[] }) (Q (zT13rc_5 inter mk nu any bo)) (br (decide (c ≤ (57 : Int))) (zT13rc_0 inter mk nu any wrong bo c Q) (br
   (c == (59 : Int)) (zT13rc_1 inter mk nu any wrong bo Q) ((zT13rc_6 nu) ∧ True ∧ ∀ (u6 : Bool), True → br u6 (0 + Int.toNat (Min.min (↑(List.length nu) : Int) (8 : Int)) ≤
   List.length nu ∧ (zT13rc_4 nu) ∧ br (!wrong) (0 + List.length (List.take (Int.toNat (Min.min (↑(List.length nu) : Int) (8 : Int))) (List.drop 0 nu)) ≤ List.length
   (List.take (Int.toNat (Min.min (↑(List.length nu) : Int) (8 : Int))) (List.drop 0 nu)) ∧ Q (zT13rc_2 inter mk nu c)) (zT13rc_3 Q)) (0 + Int.toNat (Min.min (↑(List.length
   nu) : Int) (8 : Int)) ≤ List.length nu ∧ (zT13rc_4 nu) ∧ br (!wrong) (0 + List.length (List.take (Int.toNat (Min.min (↑(List.length nu) : Int) (8 : Int))) (List.drop 0
   nu)) ≤ List.length (List.take (Int.toNat (Min.min (↑(List.length nu) : Int) (8 : Int))) (List.drop 0 nu)) ∧ Q (zT13rc_2 inter mk nu c)) (zT13rc_3 Q)))))) (br (decide (c ≤
   (57 : Int))) (zT13rc_0 inter mk nu any wrong bo c Q) (br (c == (59 : Int)) (zT13rc_1 inter mk nu any wrong bo Q) ((zT13rc_6 nu) ∧ True ∧ ∀ (u7 : Bool), True → br u7 (0 +
   Int.toNat (Min.min (↑(List.length nu) : Int) (8 : Int)) ≤ List.length nu ∧ (zT13rc_4 nu) ∧ br (!wrong) (0 + List.length (List.take (Int.toNat (Min.min (↑(List.length nu) :
   Int) (8 : Int))) (List.drop 0 nu)) ≤ List.length (List.take (Int.toNat (Min.min (↑(List.length nu) : Int) (8 : Int))) (List.drop 0 nu)) ∧ Q (zT13rc_2 inter mk nu c))
   (zT13rc_3 Q)) (0 + Int.toNat (Min.min (↑(List.length nu) : Int) (8 : Int)) ≤ List.length nu ∧ (zT13rc_4 nu) ∧ br (!wrong) (0 + List.length (List.take (Int.toNat (Min.min
   (↑(List.length nu) : Int) (8 : Int))) (List.drop 0 nu)) ≤ List.length (List.take (Int.toNat (Min.min (↑(List.length nu) : Int) (8 : Int))) (List.drop 0 nu)) ∧ Q (zT13rc_2
   inter mk nu c)) (zT13rc_3 Q)))))))) (br (c == (58 : Int)) (Q (zT13rc_5 inter mk nu any bo)) (br (decide (c ≤ (59 : Int))) (br (!inter == { data := #[] }) (Q (zT13rc_5
   inter mk nu any bo)) (br (decide (c ≤ (57 : Int))) (zT13rc_0 inter mk nu any wrong bo c Q) (br (c == (59 : Int)) (zT13rc_1 inter mk nu any wrong bo Q) ((zT13rc_6 nu) ∧
   True ∧ ∀ (u8 : Bool), True → br u8 (0 + Int.toNat (Min.min (↑(List.length nu) : Int) (8 : Int)) ≤ List.length nu ∧ (zT13rc_4 nu) ∧ br (!wrong) (0 + List.length (List.take
   (Int.toNat (Min.min (↑(List.length nu) : Int) (8 : Int))) (List.drop 0 nu)) ≤ List.length (List.take (Int.toNat (Min.min (↑(List.length nu) : Int) (8 : Int))) (List.drop 0
   nu)) ∧ Q (zT13rc_2 inter mk nu c)) (zT13rc_3 Q)) (0 + Int.toNat (Min.min (↑(List.length nu) : Int) (8 : Int)) ≤ List.length nu ∧ (zT13rc_4 nu) ∧ br (!wrong) (0 +
   List.length (List.take (Int.toNat (Min.min (↑(List.length nu) : Int) (8 : Int))) (List.drop 0 nu)) ≤ List.length (List.take (Int.toNat (Min.min (↑(List.length nu) : Int)
   (8 : Int))) (List.drop 0 nu)) ∧ Q (zT13rc_2 inter mk nu c)) (zT13rc_3 Q)))))) (br (decide (c ≤ (57 : Int))) (zT13rc_0 inter mk nu any wrong bo c Q) (br (c == (59 : Int))
   (zT13rc_1 inter mk nu any wrong bo Q) ((zT13rc_6 nu) ∧ True ∧ ∀ (u9 : Bool), True → br u9 (0 + Int.toNat (Min.min (↑(List.length nu) : Int) (8 : Int)) ≤ List.length nu ∧
   (zT13rc_4 nu) ∧ br (!wrong) (0 + List.length (List.take (Int.toNat (Min.min (↑(List.length nu) : Int) (8 : Int))) (List.drop 0 nu)) ≤ List.length (List.take (Int.toNat
   (Min.min (↑(List.length nu) : Int) (8 : Int))) (List.drop 0 nu)) ∧ Q (zT13rc_2 inter mk nu c)) (zT13rc_3 Q)) (0 + Int.toNat (Min.min (↑(List.length nu) : Int) (8 : Int)) ≤
   List.length nu ∧ (zT13rc_4 nu) ∧ br (!wrong) (0 + List.length (List.take (Int.toNat (Min.min (↑(List.length nu) : Int) (8 : Int))) (List.drop 0 nu)) ≤ List.length
   (List.take (Int.toNat (Min.min (↑(List.length nu) : Int) (8 : Int))) (List.drop 0 nu)) ∧ Q (zT13rc_2 inter mk nu c)) (zT13rc_3 Q))))))))) (br (decide (c ≥ (60 : Int))) (br
   (decide (c ≤ (63 : Int))) (Q (zT13rc_5 inter mk nu any bo)) (br (c == (58 : Int)) (Q (zT13rc_5 inter mk nu any bo)) (br (decide (c ≤ (59 : Int))) (br (!inter == { data :=
   #[] }) (Q (zT13rc_5 inter mk nu any bo)) (br (decide (c ≤ (57 : Int))) (zT13rc_0 inter mk nu any wrong bo c Q) (br (c == (59 : Int)) (zT13rc_1 inter mk nu any wrong bo Q)
   ((zT13rc_6 nu) ∧ True ∧ ∀ (u10 : Bool), True → br u10 (0 + Int.toNat (Min.min (↑(List.length nu) : Int) (8 : Int)) ≤ List.length nu ∧ (zT13rc_4 nu) ∧ br (!wrong) (0 +
   List.length (List.take (Int.toNat (Min.min (↑(List.length nu) : Int) (8 : Int))) (List.drop 0 nu)) ≤ List.length (List.take (Int.toNat (Min.min (↑(List.length nu) : Int)
   (8 : Int))) (List.drop 0 nu)) ∧ Q (zT13rc_2 inter mk nu c)) (zT13rc_3 Q)) (0 + Int.toNat (Min.min (↑(List.length nu) : Int) (8 : Int)) ≤ List.length nu ∧ (zT13rc_4 nu) ∧
   br (!wrong) (0 + List.length (List.take (Int.toNat (Min.min (↑(List.length nu) : Int) (8 : Int))) (List.drop 0 nu)) ≤ List.length (List.take (Int.toNat (Min.min
   (↑(List.length nu) : Int) (8 : Int))) (List.drop 0 nu)) ∧ Q (zT13rc_2 inter mk nu c)) (zT13rc_3 Q)))))) (br (decide (c ≤ (57 : Int))) (zT13rc_0 inter mk nu any wrong bo c
   Q) (br (c == (59 : Int)) (zT13rc_1 inter mk nu any wrong bo Q) ((zT13rc_6 nu) ∧ True ∧ ∀ (u11 : Bool), True → br u11 (0 + Int.toNat (Min.min (↑(List.length nu) : Int) (8 :
   Int)) ≤ List.length nu ∧ (zT13rc_4 nu) ∧ br (!wrong) (0 + List.length (List.take (Int.toNat (Min.min (↑(List.length nu) : Int) (8 : Int))) (List.drop 0 nu)) ≤ List.length
   (List.take (Int.toNat (Min.min (↑(List.length nu) : Int) (8 : Int))) (List.drop 0 nu)) ∧ Q (zT13rc_2 inter mk nu c)) (zT13rc_3 Q)) (0 + Int.toNat (Min.min (↑(List.length
   nu) : Int) (8 : Int)) ≤ List.length nu ∧ (zT13rc_4 nu) ∧ br (!wrong) (0 + List.length (List.take (Int.toNat (Min.min (↑(List.length nu) : Int) (8 : Int))) (List.drop 0
   nu)) ≤ List.length (List.take (Int.toNat (Min.min (↑(List.length nu) : Int) (8 : Int))) (List.drop 0 nu)) ∧ Q (zT13rc_2 inter mk nu c)) (zT13rc_3 Q)))))))) (br (c == (58 :
   Int)) (Q (zT13rc_5 inter mk nu any bo)) (br (decide (c ≤ (59 : Int))) (br (!inter == { data := #[] }) (Q (zT13rc_5 inter mk nu any bo)) (br (decide (c ≤ (57 : Int)))
   (zT13rc_0 inter mk nu any wrong bo c Q) (br (c == (59 : Int)) (zT13rc_1 inter mk nu any wrong bo Q) ((zT13rc_6 nu) ∧ True ∧ ∀ (u12 : Bool), True → br u12 (0 + Int.toNat
   (Min.min (↑(List.length nu) : Int) (8 : Int)) ≤ List.length nu ∧ (zT13rc_4 nu) ∧ br (!wrong) (0 + List.length (List.take (Int.toNat (Min.min (↑(List.length nu) : Int) (8 :
   Int))) (List.drop 0 nu)) ≤ List.length (List.take (Int.toNat (Min.min (↑(List.length nu) : Int) (8 : Int))) (List.drop 0 nu)) ∧ Q (zT13rc_2 inter mk nu c)) (zT13rc_3 Q))
   (0 + Int.toNat (Min.min (↑(List.length nu) : Int) (8 : Int)) ≤ List.length nu ∧ (zT13rc_4 nu) ∧ br (!wrong) (0 + List.length (List.take (Int.toNat (Min.min (↑(List.length
   nu) : Int) (8 : Int))) (List.drop 0 nu)) ≤ List.length (List.take (Int.toNat (Min.min (↑(List.length nu) : Int) (8 : Int))) (List.drop 0 nu)) ∧ Q (zT13rc_2 inter mk nu c))
   (zT13rc_3 Q)))))) (br (decide (c ≤ (57 : Int))) (zT13rc_0 inter mk nu any wrong bo c Q) (br (c == (59 : Int)) (zT13rc_1 inter mk nu any wrong bo Q) ((zT13rc_6 nu) ∧ True ∧
   ∀ (u13 : Bool), True → br u13 (0 + Int.toNat (Min.min (↑(List.length nu) : Int) (8 : Int)) ≤ List.length nu ∧ (zT13rc_4 nu) ∧ br (!wrong) (0 + List.length (List.take
   (Int.toNat (Min.min (↑(List.length nu) : Int) (8 : Int))) (List.drop 0 nu)) ≤ List.length (List.take (Int.toNat (Min.min (↑(List.length nu) : Int) (8 : Int))) (List.drop 0
   nu)) ∧ Q (zT13rc_2 inter mk nu c)) (zT13rc_3 Q)) (0 + Int.toNat (Min.min (↑(List.length nu) : Int) (8 : Int)) ≤ List.length nu ∧ (zT13rc_4 nu) ∧ br (!wrong) (0 +
   List.length (List.take (Int.toNat (Min.min (↑(List.length nu) : Int) (8 : Int))) (List.drop 0 nu)) ≤ List.length (List.take (Int.toNat (Min.min (↑(List.length nu) : Int)
   (8 : Int))) (List.drop 0 nu)) ∧ Q (zT13rc_2 inter mk nu c)) (zT13rc_3 Q))))))))))))))))) (by kernel_rfl) ?_
  delta zT13rc_0 zT13rc_1 zT13rc_2 zT13rc_3 zT13rc_4 zT13rc_5 zT13rc_6 zT13rc_7 zT13rc_8
  have hbs : bytesOf Tryz.prog 69 = 88 := by kernel_rfl
  have hbt : bytesOf Tryz.prog 5 = 1 := by kernel_rfl
  have hbr : bytesOf Tryz.prog 21 = 4 := by kernel_rfl
  have hbi : bytesOf Tryz.prog 3 = 8 := by kernel_rfl
  have hb1 := hc.1
  have hb2 := hc.2
  have hw64 : IntKind.i64.wrap c = c := by rw [IntKind.wrap_i64]; omega
  have hw32 : IntKind.i32.wrap c = c := by rw [IntKind.wrap_i32]; omega
  have one : ∃ B x, [c] = B ++ [x] ∧ Good2 B ∧ 0 ≤ x ∧ x ≤ 255 := ⟨[], c, rfl, trivial, hc⟩
  have hsz1 : (bsOf [c]).size = 1 := rfl
  have hst := step_first' (c := c)
  have hl : IntKind.i64.wrap ((nu.length : Int) - 1) = (nu.length : Int) - 1 := by rw [IntKind.wrap_i64]; omega
  have hl1 : IntKind.i64.wrap (((1 : Nat) : Int) - 1) = 0 := by decide
  have ht : 0 + ((nu.length : Int) - 1).toNat = nu.length - 1 := by omega
  have hd : IntKind.i64.wrap (IntKind.u8.wrap (c - 48)) = (c - 48) % 256 := by rw [IntKind.wrap_u8, IntKind.wrap_i64]; omega
  have hnum : ∀ k : Nat, IntKind.i64.wrap (IntKind.i64.wrap (max (nu.getD k (Ty.int IntKind.i64).dflt) 0 * 10) + (c - 48) % 256) = max (nu.getD k 0) 0 * 10 + (c - 48) % 256 := fun k => by
    have e : nu.getD k (Ty.int IntKind.i64).dflt = nu.getD k (0 : Int) := rfl
    have hx : -1 ≤ nu.getD k (0 : Int) ∧ nu.getD k (0 : Int) ≤ 9999 := by
      rw [List.getD_eq_getElem?_getD]
      cases hk : nu[k]? with
      | none => simp
      | some x => exact hxn x (List.mem_of_getElem? hk)
    rw [e]
    generalize nu.getD k (0 : Int) = x at hx
    have : 0 ≤ max x 0 ∧ max x 0 ≤ 9999 := by omega
    generalize max x 0 = y at this
    rw [IntKind.wrap_i64, IntKind.wrap_i64]; omega
  have hnum1 : IntKind.i64.wrap (IntKind.i64.wrap (max (-1 : Int) 0 * 10) + (c - 48) % 256) = (c - 48) % 256 := by
    have e : max (-1 : Int) 0 = 0 := by decide
    rw [e, IntKind.wrap_i64, IntKind.wrap_i64]; omega
  have hm8 : (min (nu.length : Int) 8).toNat = min nu.length 8 := by omega
  have hml : (List.take (min nu.length 8) nu).length = min nu.length 8 := by rw [List.length_take]; omega
  have htt : List.take (min nu.length 8) (List.take (min nu.length 8) nu) = List.take (min nu.length 8) nu := by rw [List.take_take, Nat.min_self]
  have hdd : 48 ≤ c → (c - 48) % 256 = c - 48 := fun h => by omega
  have h10 : max (-1 : Int) 0 * 10 = 0 := by decide
  unfold GoesR at hq
  simp only [emptyB, hw64, hw32, hsz1, hbs, hbt, hbr, hbi, hl, hl1, hd, ht, hnum, hnum1, hm8, List.getD_cons_zero, List.drop_zero, List.take_length, hml, htt, Nat.zero_add]
  repeat' first
    | (intro _ _)
    | (refine br_intro (fun h => ?_) (fun h => ?_))
    | (refine And.intro ?_ ?_)
  all_goals first | omega | exact one | rfl | exact True.intro | (simp only [beq_iff_eq, beq_eq_false_iff_ne, decide_eq_true_eq, decide_eq_false_iff_not, ne_eq, Bool.not_eq_true', Bool.not_eq_false'] at *) | skip
  all_goals first | omega | (have hp := hn0 (by assumption); omega) | refine hq _ _ _ _ _ _ _ _ _ _ _ _ _ _ _ ?_ ?_ ?_ ?_ ?_ rfl
  all_goals clear hq
  all_goals first
    | rfl
    | (simp only [List.length_append, List.length_cons, List.length_nil, List.length_set]; done)
    | (simp [RS.csi, RS.begin, RS.utf, RS.inters, RS.nums1, aControl, aPrint, e0, sG, sE, sC, sO, sD, *]; done)
    | (have e1 : ¬ (c = 24 ∨ c = 26) := by omega
       have e2 : ¬ c = 27 := by omega
       have e3 : ¬ c < 32 := by omega
       have e4 : ¬ c = 127 := by omega
       simp [RS.csi, RS.begin, RS.utf, RS.inters, RS.nums1, aControl, aPrint, e0, sG, sE, sC, sO, sD, *]; done)
    | (have e1 : ¬ (c = 24 ∨ c = 26) := by omega
       have e2 : ¬ c = 27 := by omega
       have e3 : ¬ c < 32 := by omega
       have e4 : ¬ c = 127 := by omega
       have e5 : ¬ 128 ≤ c := by omega
       have e6 : ¬ c < 48 := by omega
       have e9 := hdd (by omega)
       simp [RS.csi, RS.begin, RS.utf, RS.inters, RS.nums1, aControl, aPrint, e0, sG, sE, sC, sO, sD, *]; done)
    | skip
end T13

