/- Part of a proof: the walks of the functions that the law calls, and their plain laws; no condition. -/
import Derived.Test.YtlcobcpgaoeijaaGreatSxT
import Derived.Test.YtlcobcpgaoeijaaGreatM10
import Derived.Test.YtlcobcpgaoeijaaGreatM2
set_option linter.unusedVariables false
set_option linter.unusedSimpArgs false
section
open Go Sx Go.Proofs T12
namespace T13
set_option maxRecDepth 100000
set_option maxHeartbeats 8000000
attribute [local irreducible] Tree.Leads
def rcells (st : ByteArray) (b : Nat) (inter : ByteArray) (mk : Int) (n : Nat) (any first wrong : Bool) (t : Nat) : List SV :=
  [.lit (.string st), .sl 1 1 0 b, .lit (.string inter), .lit (.int .i64 mk), .sl 2 1 0 n, .lit (.bool any), .lit (.bool first), .lit (.bool wrong), .sl 3 1 0 t]
def rrows (st : ByteArray) (B : List Int) (nb : Nat) (inter : ByteArray) (mk : Int) (nu : List Int) (nn : Nat) (any first wrong : Bool) (bo : List Int) (nt : Nat) : Heap :=
  [.cells 51 (rcells st nb inter mk nn any first wrong nt), .row 5 (.int .u8) B, .row 3 (.int .i64) nu, .row 5 (.int .u8) bo]
def rH (r : RS) : Heap := rrows r.st r.half r.half.length r.inter r.mark r.nums r.nums.length r.any r.first r.wrong r.body r.body.length
/-- Behind a byte, by the document. -/
def GoesR (p : RS × List aty.den) (Q : SV × Heap × List Nat → Prop) : Prop :=
  ∀ st B nb inter mk nu nn any first wrong bo nt A na mv, p = (⟨st, B, inter, mk, nu, any, first, wrong, bo⟩, A) → nb = B.length → nn = nu.length → nt = bo.length → na = A.length → memN 0 mv = false →
    Q (.sl 4 7 0 na, [.cells 51 (rcells st nb inter mk nn any first wrong nt), .row 5 (.int .u8) B, .row 3 (.int .i64) nu, .row 5 (.int .u8) bo, .row 69 aty A], mv)
noncomputable def R1 : Table := (((((((Table.none.add 95 (.go s67)).add 96 (.go s68)).exact 41).exact 22).exact 44).exact 98))
theorem R1_ok : TableOK Tryz.prog R1 := exact_ok (exact_ok (exact_ok (exact_ok (add_ok (add_ok none_ok s67_ok) s68_ok))))
noncomputable def R2 : Table := ((((R1.add 93 (.call (inlSumm R1 Tryz.prog Tryz.f93))).add 64 (.call (inlSumm R1 Tryz.prog Tryz.f64))).add 65 (.call (inlSumm R1 Tryz.prog Tryz.f65))).add 94 (.call (inlSumm R1 Tryz.prog Tryz.f94))).add 68 (.call (inlSumm R1 Tryz.prog Tryz.f68))
theorem R2_ok : TableOK Tryz.prog R2 := add_ok (add_ok (add_ok (add_ok (add_ok R1_ok (inlSumm_sound (c := Tryz.f93.body.get!) R1_ok (by kernel_rfl) (by kernel_rfl) (by kernel_rfl))) (inlSumm_sound (c := Tryz.f64.body.get!) R1_ok (by kernel_rfl) (by kernel_rfl) (by kernel_rfl))) (inlSumm_sound (c := Tryz.f65.body.get!) R1_ok (by kernel_rfl) (by kernel_rfl) (by kernel_rfl))) (inlSumm_sound (c := Tryz.f94.body.get!) R1_ok (by kernel_rfl) (by kernel_rfl) (by kernel_rfl))) (inlSumm_sound (c := Tryz.f68.body.get!) R1_ok (by kernel_rfl) (by kernel_rfl) (by kernel_rfl))
noncomputable def R3 : Table := ((R2.add 63 (.call (inlSumm R2 Tryz.prog Tryz.f63))).add 66 (.call (inlSumm R2 Tryz.prog Tryz.f66))).add 67 (.call (inlSumm R2 Tryz.prog Tryz.f67))
theorem R3_ok : TableOK Tryz.prog R3 := add_ok (add_ok (add_ok R2_ok (inlSumm_sound (c := Tryz.f63.body.get!) R2_ok (by kernel_rfl) (by kernel_rfl) (by kernel_rfl))) (inlSumm_sound (c := Tryz.f66.body.get!) R2_ok (by kernel_rfl) (by kernel_rfl) (by kernel_rfl))) (inlSumm_sound (c := Tryz.f67.body.get!) R2_ok (by kernel_rfl) (by kernel_rfl) (by kernel_rfl))
noncomputable def Zr : Nat → Option Ann := An1 999999 { live := [], mv := [], nilS := [(4, 69, aty)], nilH := [(51, 1, 5, .int .u8), (51, 4, 3, .int .i64), (51, 8, 5, .int .u8)], head := fun _ _ => { X := Nat, inv := fun _ => ([], []), ok := fun _ => False, mu := fun _ => 0 } }
noncomputable abbrev zT13ra_2 (B : List Int) := [SV.lit (Value.string { data := #[] }), SV.sl 1 1 0 (List.length B), SV.lit (Value.string { data := #[] }), SV.lit (Value.int IntKind.i64 (0 : Int)), SV.sl 2 1 0 0, SV.lit (Value.bool false), SV.lit (Value.bool true), SV.lit (Value.bool false), SV.sl 3 1 0 0]
noncomputable abbrev zT13ra_1 (B : List Int) (inter : ByteArray) (mk : Int) (nu : List Int) (any : Bool) (first : Bool) (wrong : Bool) (bo : List Int) (c : Int) (Q : SV × Heap × List Nat → Prop) := (br (decide ((↑(List.length bo) : Int) < (60 : Int))) (1 ≤ 1 ∧ List.length bo = List.length bo ∧ ((↑(List.length bo + 1) : Int) ≤ (9223372036854775807 : Int) ∧ (List.length bo + 1) * Sx.bytesOf Go.Proofs.Tryz.prog 5 ≤ 140737488355328) ∧ Q (SV.sl 4 7 0 0, [SO.cells 51 [SV.lit (Value.string T13.sO), SV.sl 1 1 0 (List.length B), SV.lit (Value.string inter), SV.lit (Value.int IntKind.i64 mk), SV.sl 2 1 0 (List.length nu), SV.lit (Value.bool any), SV.lit (Value.bool first), SV.lit (Value.bool wrong), SV.sl 3 1 0 (List.length bo + 1)], SO.row 5 (Ty.int IntKind.u8) B, SO.row 3 (Ty.int IntKind.i64) nu, SO.row 5 (Ty.int IntKind.u8) (bo ++ [c]), SO.row 69 T13.aty []], [3])) (Q (SV.sl 4 7 0 0, [SO.cells 51 [SV.lit (Value.string T13.sO), SV.sl 1 1 0 (List.length B), SV.lit (Value.string inter), SV.lit (Value.int IntKind.i64 mk), SV.sl 2 1 0 (List.length nu), SV.lit (Value.bool any), SV.lit (Value.bool first), SV.lit (Value.bool wrong), SV.sl 3 1 0 (List.length bo)], SO.row 5 (Ty.int IntKind.u8) B, SO.row 3 (Ty.int IntKind.i64) nu, SO.row 5 (Ty.int IntKind.u8) bo, SO.row 69 T13.aty []], [])))
noncomputable abbrev zT13ra_0 (B : List Int) (inter : ByteArray) (mk : Int) (nu : List Int) (any : Bool) (first : Bool) (wrong : Bool) (bo : List Int) (c : Int) (Q : SV × Heap × List Nat → Prop) := (br (decide (c < (32 : Int))) (br (c == (7 : Int)) (0 + List.length bo ≤ List.length bo ∧ Q (SV.sl 4 7 0 1, [SO.cells 51 (zT13ra_2 B), SO.row 5 (Ty.int IntKind.u8) B, SO.row 3 (Ty.int IntKind.i64) [], SO.row 5 (Ty.int IntKind.u8) [], SO.row 69 T13.aty [((5 : Int), (0 : Int), (0 : Int), (0 : Int), [], { data := #[] }, Sx.bsOf (List.take (List.length bo) (List.drop 0 bo)))]], [2, 3])) (Q (SV.sl 4 7 0 0, [SO.cells 51 [SV.lit (Value.string T13.sO), SV.sl 1 1 0 (List.length B), SV.lit (Value.string inter), SV.lit (Value.int IntKind.i64 mk), SV.sl 2 1 0 (List.length nu), SV.lit (Value.bool any), SV.lit (Value.bool first), SV.lit (Value.bool wrong), SV.sl 3 1 0 (List.length bo)], SO.row 5 (Ty.int IntKind.u8) B, SO.row 3 (Ty.int IntKind.i64) nu, SO.row 5 (Ty.int IntKind.u8) bo, SO.row 69 T13.aty []], []))) (br (c == (127 : Int)) (zT13ra_1 B inter mk nu any first wrong bo c Q) (zT13ra_1 B inter mk nu any first wrong bo c Q)))
theorem vro (B : List Int) (inter : ByteArray) (mk : Int) (nu : List Int) (any first wrong : Bool) (bo : List Int) (c : Int) (hc : Byte c) (hb : bo.length ≤ 100) (Q : SV × Heap × List Nat → Prop) (hq : GoesR (RS.osc ⟨sO, B, inter, mk, nu, any, first, wrong, bo⟩ c) Q) : (bodySumm R3 Tryz.prog Tryz.f21 Zr [.ptr 0 0, .lit (.int .u8 c)] (rrows sO B B.length inter mk nu nu.length any first wrong bo bo.length)).Leads Q := by
  refine Sx.by_text (q :=
   br (c == (24 : Int)) (Q (SV.sl 4 7 0 0, [SO.cells 51 (zT13ra_2 B), SO.row 5 (Ty.int IntKind.u8) B, SO.row 3 (Ty.int IntKind.i64) [], SO.row 5 (Ty.int IntKind.u8) [],
   SO.row 69 T13.aty []], [2, 3])) (br (c == (26 : Int)) (Q (SV.sl 4 7 0 0, [SO.cells 51 (zT13ra_2 B), SO.row 5 (Ty.int IntKind.u8) B, SO.row 3 (Ty.int IntKind.i64) [],
   SO.row 5 (Ty.int IntKind.u8) [], SO.row 69 T13.aty []], [2, 3])) (br (c == (27 : Int)) (0 + List.length bo ≤ List.length bo ∧ 1 ≤ 1 ∧ ((↑(1 : Nat) : Int) ≤
   (9223372036854775807 : Int) ∧ 1 * Sx.bytesOf Go.Proofs.Tryz.prog 69 ≤ 140737488355328) ∧ Q (SV.sl 4 7 0 1, [SO.cells 51 [SV.lit (Value.string { data := #[(101 : UInt8),
   (115 : UInt8), (99 : UInt8)] }), SV.sl 1 1 0 (List.length B), SV.lit (Value.string { data := #[] }), SV.lit (Value.int IntKind.i64 (0 : Int)), SV.sl 2 1 0 0, SV.lit
   (Value.bool false), SV.lit (Value.bool true), SV.lit (Value.bool false), SV.sl 3 1 0 0], SO.row 5 (Ty.int IntKind.u8) B, SO.row 3 (Ty.int IntKind.i64) [], SO.row 5 (Ty.int
   IntKind.u8) [], SO.row 69 T13.aty [((5 : Int), (0 : Int), (0 : Int), (0 : Int), [], { data := #[] }, Sx.bsOf (List.take (List.length bo) (List.drop 0 bo)))]], [2, 3])) (br
   (decide (c < (32 : Int))) (zT13ra_0 B inter mk nu any first wrong bo c Q) (zT13ra_0 B inter mk nu any first wrong bo c Q))))) (by kernel_rfl) ?_
  delta zT13ra_0 zT13ra_1 zT13ra_2
  have hbs : bytesOf Tryz.prog 69 = 88 := by kernel_rfl
  have hbt : bytesOf Tryz.prog 5 = 1 := by kernel_rfl
  have hb1 := hc.1
  have hb2 := hc.2
  unfold GoesR at hq
  simp only [List.take_length, List.drop_zero, hbs, hbt]
  repeat' first
    | (refine br_intro (fun h => ?_) (fun h => ?_))
    | (refine And.intro ?_ ?_)
  all_goals first | omega | (simp only [beq_iff_eq, beq_eq_false_iff_ne, decide_eq_true_eq, decide_eq_false_iff_not, ne_eq] at *) | skip
  all_goals first | omega | refine hq _ _ _ _ _ _ _ _ _ _ _ _ _ _ _ ?_ ?_ ?_ ?_ ?_ rfl
  all_goals clear hq
  all_goals first
    | rfl
    | (simp only [List.length_append, List.length_cons, List.length_nil]; done)
    | (simp [RS.osc, RS.begin, RS.keep, aOsc, e0, sG, sE, *]; done)
    | skip
end T13
end
section
open Go Sx Go.Proofs T12
namespace T13
set_option maxRecDepth 100000
set_option maxHeartbeats 8000000
attribute [local irreducible] Tree.Leads
noncomputable abbrev zT13rb_1 (B : List Int) (inter : ByteArray) (mk : Int) (nu : List Int) (any : Bool) (first : Bool) (wrong : Bool) (bo : List Int) : SV × Heap × List Nat := (SV.sl 4 7 0 0, [SO.cells 51 [SV.lit (Value.string T13.sD), SV.sl 1 1 0 (List.length B), SV.lit (Value.string inter), SV.lit (Value.int IntKind.i64 mk), SV.sl 2 1 0 (List.length nu), SV.lit (Value.bool any), SV.lit (Value.bool first), SV.lit (Value.bool wrong), SV.sl 3 1 0 (List.length bo)], SO.row 5 (Ty.int IntKind.u8) B, SO.row 3 (Ty.int IntKind.i64) nu, SO.row 5 (Ty.int IntKind.u8) bo, SO.row 69 T13.aty []], [])
noncomputable abbrev zT13rb_0 (B : List Int) (inter : ByteArray) (mk : Int) (nu : List Int) (any : Bool) (first : Bool) (wrong : Bool) (bo : List Int) (c : Int) (Q : SV × Heap × List Nat → Prop) := (br (decide ((↑(List.length bo) : Int) < (60 : Int))) (1 ≤ 1 ∧ List.length bo = List.length bo ∧ ((↑(List.length bo + 1) : Int) ≤ (9223372036854775807 : Int) ∧ (List.length bo + 1) * Sx.bytesOf Go.Proofs.Tryz.prog 5 ≤ 140737488355328) ∧ Q (SV.sl 4 7 0 0, [SO.cells 51 [SV.lit (Value.string T13.sD), SV.sl 1 1 0 (List.length B), SV.lit (Value.string inter), SV.lit (Value.int IntKind.i64 mk), SV.sl 2 1 0 (List.length nu), SV.lit (Value.bool any), SV.lit (Value.bool first), SV.lit (Value.bool wrong), SV.sl 3 1 0 (List.length bo + 1)], SO.row 5 (Ty.int IntKind.u8) B, SO.row 3 (Ty.int IntKind.i64) nu, SO.row 5 (Ty.int IntKind.u8) (bo ++ [c]), SO.row 69 T13.aty []], [3])) (Q (zT13rb_1 B inter mk nu any first wrong bo)))
noncomputable abbrev zT13rb_2 (B : List Int) : SV × Heap × List Nat := (SV.sl 4 7 0 0, [SO.cells 51 [SV.lit (Value.string { data := #[] }), SV.sl 1 1 0 (List.length B), SV.lit (Value.string { data := #[] }), SV.lit (Value.int IntKind.i64 (0 : Int)), SV.sl 2 1 0 0, SV.lit (Value.bool false), SV.lit (Value.bool true), SV.lit (Value.bool false), SV.sl 3 1 0 0], SO.row 5 (Ty.int IntKind.u8) B, SO.row 3 (Ty.int IntKind.i64) [], SO.row 5 (Ty.int IntKind.u8) [], SO.row 69 T13.aty []], [2, 3])
theorem vrd (B : List Int) (inter : ByteArray) (mk : Int) (nu : List Int) (any first wrong : Bool) (bo : List Int) (c : Int) (hc : Byte c) (hb : bo.length ≤ 100) (Q : SV × Heap × List Nat → Prop) (hq : GoesR (RS.dcs ⟨sD, B, inter, mk, nu, any, first, wrong, bo⟩ c) Q) : (bodySumm R3 Tryz.prog Tryz.f21 Zr [.ptr 0 0, .lit (.int .u8 c)] (rrows sD B B.length inter mk nu nu.length any first wrong bo bo.length)).Leads Q := by
  refine Sx.by_text (q :=
   br (c == (24 : Int)) (Q (zT13rb_2 B)) (br (c == (26 : Int)) (Q (zT13rb_2 B)) (br (c == (27 : Int)) (0 + List.length bo ≤ List.length bo ∧ 1 ≤ 1 ∧ ((↑(1 : Nat) : Int) ≤
   (9223372036854775807 : Int) ∧ 1 * Sx.bytesOf Go.Proofs.Tryz.prog 69 ≤ 140737488355328) ∧ Q (SV.sl 4 7 0 1, [SO.cells 51 [SV.lit (Value.string { data := #[(101 : UInt8),
   (115 : UInt8), (99 : UInt8)] }), SV.sl 1 1 0 (List.length B), SV.lit (Value.string { data := #[] }), SV.lit (Value.int IntKind.i64 (0 : Int)), SV.sl 2 1 0 0, SV.lit
   (Value.bool false), SV.lit (Value.bool true), SV.lit (Value.bool false), SV.sl 3 1 0 0], SO.row 5 (Ty.int IntKind.u8) B, SO.row 3 (Ty.int IntKind.i64) [], SO.row 5 (Ty.int
   IntKind.u8) [], SO.row 69 T13.aty [((6 : Int), (0 : Int), (0 : Int), (0 : Int), [], { data := #[] }, Sx.bsOf (List.take (List.length bo) (List.drop 0 bo)))]], [2, 3])) (br
   (decide (c < (32 : Int))) (br (decide (c < (32 : Int))) (br (c == (7 : Int)) (Q (zT13rb_1 B inter mk nu any first wrong bo)) (Q (zT13rb_1 B inter mk nu any first wrong
   bo))) (br (c == (127 : Int)) (zT13rb_0 B inter mk nu any first wrong bo c Q) (zT13rb_0 B inter mk nu any first wrong bo c Q))) (br (decide (c < (32 : Int))) (br (c == (7 :
   Int)) (Q (zT13rb_1 B inter mk nu any first wrong bo)) (Q (zT13rb_1 B inter mk nu any first wrong bo))) (br (c == (127 : Int)) (zT13rb_0 B inter mk nu any first wrong bo c
   Q) (zT13rb_0 B inter mk nu any first wrong bo c Q))))))) (by kernel_rfl) ?_
  delta zT13rb_0 zT13rb_1 zT13rb_2
  have hbs : bytesOf Tryz.prog 69 = 88 := by kernel_rfl
  have hbt : bytesOf Tryz.prog 5 = 1 := by kernel_rfl
  have hb1 := hc.1
  have hb2 := hc.2
  unfold GoesR at hq
  simp only [List.take_length, List.drop_zero, hbs, hbt]
  repeat' first
    | (refine br_intro (fun h => ?_) (fun h => ?_))
    | (refine And.intro ?_ ?_)
  all_goals first | omega | (simp only [beq_iff_eq, beq_eq_false_iff_ne, decide_eq_true_eq, decide_eq_false_iff_not, ne_eq] at *) | skip
  all_goals first | omega | refine hq _ _ _ _ _ _ _ _ _ _ _ _ _ _ _ ?_ ?_ ?_ ?_ ?_ rfl
  all_goals clear hq
  all_goals first
    | rfl
    | (simp only [List.length_append, List.length_cons, List.length_nil]; done)
    | (simp [RS.dcs, RS.begin, RS.keep, aDcs, e0, sG, sE, *]; done)
    | skip
theorem emptyB (s : ByteArray) : (s == ({ data := #[] } : ByteArray)) = decide (s.size = 0) := by
  rw [Bool.eq_iff_iff, bytes_beq, decide_eq_true_eq]
  constructor
  · rintro rfl; rfl
  · intro e
    have : strInts s = [] := List.eq_nil_of_length_eq_zero (by rw [strInts_size]; exact e)
    rw [← bsOf_strInts s, this]; rfl
noncomputable abbrev zT13rb_4 := [SV.lit (Value.string { data := #[] }), SV.sl 1 1 0 0, SV.lit (Value.string { data := #[] }), SV.lit (Value.int IntKind.i64 (0 : Int)), SV.sl 2 1 0 0, SV.lit (Value.bool false), SV.lit (Value.bool true), SV.lit (Value.bool false), SV.sl 3 1 0 0]
noncomputable abbrev zT13rb_6 : SV × Heap × List Nat := (SV.sl 4 7 0 0, [SO.cells 51 (zT13rb_4), SO.row 5 (Ty.int IntKind.u8) [], SO.row 3 (Ty.int IntKind.i64) [], SO.row 5 (Ty.int IntKind.u8) [], SO.row 69 T13.aty []], [2, 3])
noncomputable abbrev zT13rb_3 (inter : ByteArray) (wrong : Bool) (c : Int) (Q : SV × Heap × List Nat → Prop) := (br (c == (80 : Int)) (br (inter == { data := #[] }) (Q (SV.sl 4 7 0 0, [SO.cells 51 [SV.lit (Value.string { data := #[(100 : UInt8), (99 : UInt8), (115 : UInt8)] }), SV.sl 1 1 0 0, SV.lit (Value.string { data := #[] }), SV.lit (Value.int IntKind.i64 (0 : Int)), SV.sl 2 1 0 0, SV.lit (Value.bool false), SV.lit (Value.bool true), SV.lit (Value.bool false), SV.sl 3 1 0 0], SO.row 5 (Ty.int IntKind.u8) [], SO.row 3 (Ty.int IntKind.i64) [], SO.row 5 (Ty.int IntKind.u8) [], SO.row 69 T13.aty []], [2, 3])) (br wrong (Q (zT13rb_6)) (Q (SV.sl 4 7 0 1, [SO.cells 51 (zT13rb_4), SO.row 5 (Ty.int IntKind.u8) [], SO.row 3 (Ty.int IntKind.i64) [], SO.row 5 (Ty.int IntKind.u8) [], SO.row 69 T13.aty [((3 : Int), (0 : Int), IntKind.wrap IntKind.i64 c, (0 : Int), [], inter, { data := #[] })]], [2, 3])))) (br wrong (Q (zT13rb_6)) (Q (SV.sl 4 7 0 1, [SO.cells 51 (zT13rb_4), SO.row 5 (Ty.int IntKind.u8) [], SO.row 3 (Ty.int IntKind.i64) [], SO.row 5 (Ty.int IntKind.u8) [], SO.row 69 T13.aty [((3 : Int), (0 : Int), IntKind.wrap IntKind.i64 c, (0 : Int), [], inter, { data := #[] })]], [2, 3]))))
noncomputable abbrev zT13rb_5 (inter : ByteArray) (mk : Int) (nu : List Int) (any : Bool) (first : Bool) (wrong : Bool) (bo : List Int) : SV × Heap × List Nat := (SV.sl 4 7 0 0, [SO.cells 51 [SV.lit (Value.string T13.sE), SV.sl 1 1 0 0, SV.lit (Value.string inter), SV.lit (Value.int IntKind.i64 mk), SV.sl 2 1 0 (List.length nu), SV.lit (Value.bool any), SV.lit (Value.bool first), SV.lit (Value.bool wrong), SV.sl 3 1 0 (List.length bo)], SO.row 5 (Ty.int IntKind.u8) [], SO.row 3 (Ty.int IntKind.i64) nu, SO.row 5 (Ty.int IntKind.u8) bo, SO.row 69 T13.aty []], [])
noncomputable abbrev zT13rb_7 (inter : ByteArray) (wrong : Bool) (c : Int) (Q : SV × Heap × List Nat → Prop) := (br (c == (93 : Int)) (br (inter == { data := #[] }) (Q (SV.sl 4 7 0 0, [SO.cells 51 [SV.lit (Value.string { data := #[(111 : UInt8), (115 : UInt8), (99 : UInt8)] }), SV.sl 1 1 0 0, SV.lit (Value.string { data := #[] }), SV.lit (Value.int IntKind.i64 (0 : Int)), SV.sl 2 1 0 0, SV.lit (Value.bool false), SV.lit (Value.bool true), SV.lit (Value.bool false), SV.sl 3 1 0 0], SO.row 5 (Ty.int IntKind.u8) [], SO.row 3 (Ty.int IntKind.i64) [], SO.row 5 (Ty.int IntKind.u8) [], SO.row 69 T13.aty []], [2, 3])) (zT13rb_3 inter wrong c Q)) (zT13rb_3 inter wrong c Q))
theorem vre (inter : ByteArray) (mk : Int) (nu : List Int) (any first wrong : Bool) (bo : List Int) (c : Int) (hc : Byte c) (hi : inter.size ≤ 3) (Q : SV × Heap × List Nat → Prop) (hq : GoesR (RS.esc ⟨sE, [], inter, mk, nu, any, first, wrong, bo⟩ c) Q) : (bodySumm R3 Tryz.prog Tryz.f21 Zr [.ptr 0 0, .lit (.int .u8 c)] (rrows sE [] 0 inter mk nu nu.length any first wrong bo bo.length)).Leads Q := by
  refine Sx.by_text (q :=
   br (c == (24 : Int)) (Q (zT13rb_6)) (br (c == (26 : Int)) (Q (zT13rb_6)) (br (c == (27 : Int)) (Q (SV.sl 4 7 0 0, [SO.cells 51 [SV.lit (Value.string { data := #[(101 :
   UInt8), (115 : UInt8), (99 : UInt8)] }), SV.sl 1 1 0 0, SV.lit (Value.string { data := #[] }), SV.lit (Value.int IntKind.i64 (0 : Int)), SV.sl 2 1 0 0, SV.lit (Value.bool
   false), SV.lit (Value.bool true), SV.lit (Value.bool false), SV.sl 3 1 0 0], SO.row 5 (Ty.int IntKind.u8) [], SO.row 3 (Ty.int IntKind.i64) [], SO.row 5 (Ty.int
   IntKind.u8) [], SO.row 69 T13.aty []], [2, 3])) (br (decide (c < (32 : Int))) (1 ≤ 1 ∧ ((↑(1 : Nat) : Int) ≤ (9223372036854775807 : Int) ∧ 1 * Sx.bytesOf
   Go.Proofs.Tryz.prog 69 ≤ 140737488355328) ∧ Q (SV.sl 4 7 0 1, [SO.cells 51 [SV.lit (Value.string T13.sE), SV.sl 1 1 0 0, SV.lit (Value.string inter), SV.lit (Value.int
   IntKind.i64 mk), SV.sl 2 1 0 (List.length nu), SV.lit (Value.bool any), SV.lit (Value.bool first), SV.lit (Value.bool wrong), SV.sl 3 1 0 (List.length bo)], SO.row 5
   (Ty.int IntKind.u8) [], SO.row 3 (Ty.int IntKind.i64) nu, SO.row 5 (Ty.int IntKind.u8) bo, SO.row 69 T13.aty [((2 : Int), (0 : Int), IntKind.wrap IntKind.i64 c, (0 : Int),
   [], { data := #[] }, { data := #[] })]], [])) (br (decide (c < (32 : Int))) (br (c == (7 : Int)) (Q (zT13rb_5 inter mk nu any first wrong bo)) (Q (zT13rb_5 inter mk nu any
   first wrong bo))) (br (c == (127 : Int)) (Q (zT13rb_5 inter mk nu any first wrong bo)) (br (decide (c ≥ (128 : Int))) ((1 = 1 ∧ ∃ (u0 : List Int), ∃ (u1 : Int), [c] = u0
   ++ [u1] ∧ T12.Good2 u0 ∧ (0 : Int) ≤ u1 ∧ u1 ≤ (255 : Int)) ∧ br (!Prod.fst (T12.rmay [c])) (1 ≤ 1 ∧ ((↑(1 : Nat) : Int) ≤ (9223372036854775807 : Int) ∧ 1 * Sx.bytesOf
   Go.Proofs.Tryz.prog 21 ≤ 140737488355328) ∧ ((0 : Int) ≤ (0 : Int) ∧ (0 : Int) < (↑(1 : Nat) : Int)) ∧ 0 < 1 ∧ 1 ≤ 1 ∧ ((↑(1 : Nat) : Int) ≤ (9223372036854775807 : Int) ∧
   1 * Sx.bytesOf Go.Proofs.Tryz.prog 69 ≤ 140737488355328) ∧ Q (SV.sl 4 7 0 1, [SO.cells 51 (zT13rb_4), SO.row 5 (Ty.int IntKind.u8) [], SO.row 3 (Ty.int IntKind.i64) [],
   SO.row 5 (Ty.int IntKind.u8) [], SO.row 69 T13.aty [((1 : Int), List.getD [(65533 : Int)] 0 (Ty.dflt (Ty.int IntKind.i32)), (0 : Int), (0 : Int), [], { data := #[] }, {
   data := #[] })]], [2, 3])) (br (Prod.snd (T12.rmay [c])) (1 ≤ 1 ∧ ((↑(1 : Nat) : Int) ≤ (9223372036854775807 : Int) ∧ 1 * Sx.bytesOf Go.Proofs.Tryz.prog 21 ≤
   140737488355328) ∧ ((0 : Int) ≤ (0 : Int) ∧ (0 : Int) < (↑(1 : Nat) : Int)) ∧ 0 < 1 ∧ 1 ≤ 1 ∧ ((↑(1 : Nat) : Int) ≤ (9223372036854775807 : Int) ∧ 1 * Sx.bytesOf
   Go.Proofs.Tryz.prog 69 ≤ 140737488355328) ∧ Q (SV.sl 4 7 0 1, [SO.cells 51 (zT13rb_4), SO.row 5 (Ty.int IntKind.u8) [], SO.row 3 (Ty.int IntKind.i64) [], SO.row 5 (Ty.int
   IntKind.u8) [], SO.row 69 T13.aty [((1 : Int), List.getD [IntKind.wrap IntKind.i32 c] 0 (Ty.dflt (Ty.int IntKind.i32)), (0 : Int), (0 : Int), [], { data := #[] }, { data
   := #[] })]], [2, 3])) (Q (SV.sl 4 7 0 0, [SO.cells 51 [SV.lit (Value.string { data := #[] }), SV.sl 1 1 0 1, SV.lit (Value.string { data := #[] }), SV.lit (Value.int
   IntKind.i64 (0 : Int)), SV.sl 2 1 0 0, SV.lit (Value.bool false), SV.lit (Value.bool true), SV.lit (Value.bool false), SV.sl 3 1 0 0], SO.row 5 (Ty.int IntKind.u8) [c],
   SO.row 3 (Ty.int IntKind.i64) [], SO.row 5 (Ty.int IntKind.u8) [], SO.row 69 T13.aty []], [1, 2, 3])))) (br (decide (c < (48 : Int))) (br (decide ((↑(ByteArray.size inter)
   : Int) ≥ (2 : Int))) (Q (SV.sl 4 7 0 0, [SO.cells 51 [SV.lit (Value.string T13.sE), SV.sl 1 1 0 0, SV.lit (Value.string inter), SV.lit (Value.int IntKind.i64 mk), SV.sl 2
   1 0 (List.length nu), SV.lit (Value.bool any), SV.lit (Value.bool first), SV.lit (Value.bool true), SV.sl 3 1 0 (List.length bo)], SO.row 5 (Ty.int IntKind.u8) [], SO.row
   3 (Ty.int IntKind.i64) nu, SO.row 5 (Ty.int IntKind.u8) bo, SO.row 69 T13.aty []], [])) (1 ≤ 1 ∧ (↑(ByteArray.size inter + ByteArray.size (Sx.bsOf [c])) : Int) ≤
   (9223372036854775807 : Int) ∧ Q (SV.sl 4 7 0 0, [SO.cells 51 [SV.lit (Value.string T13.sE), SV.sl 1 1 0 0, SV.lit (Value.string (inter ++ Sx.bsOf [c])), SV.lit (Value.int
   IntKind.i64 mk), SV.sl 2 1 0 (List.length nu), SV.lit (Value.bool any), SV.lit (Value.bool first), SV.lit (Value.bool wrong), SV.sl 3 1 0 (List.length bo)], SO.row 5
   (Ty.int IntKind.u8) [], SO.row 3 (Ty.int IntKind.i64) nu, SO.row 5 (Ty.int IntKind.u8) bo, SO.row 69 T13.aty []], []))) (br (c == (91 : Int)) (br (inter == { data := #[]
   }) (Q (SV.sl 4 7 0 0, [SO.cells 51 [SV.lit (Value.string { data := #[(99 : UInt8), (115 : UInt8), (105 : UInt8)] }), SV.sl 1 1 0 0, SV.lit (Value.string { data := #[] }),
   SV.lit (Value.int IntKind.i64 (0 : Int)), SV.sl 2 1 0 0, SV.lit (Value.bool false), SV.lit (Value.bool true), SV.lit (Value.bool false), SV.sl 3 1 0 0], SO.row 5 (Ty.int
   IntKind.u8) [], SO.row 3 (Ty.int IntKind.i64) [], SO.row 5 (Ty.int IntKind.u8) [], SO.row 69 T13.aty []], [2, 3])) (zT13rb_7 inter wrong c Q)) (zT13rb_7 inter wrong c
   Q)))))))))) (by kernel_rfl) ?_
  delta zT13rb_3 zT13rb_4 zT13rb_5 zT13rb_6 zT13rb_7
  have hbs : bytesOf Tryz.prog 69 = 88 := by kernel_rfl
  have hbt : bytesOf Tryz.prog 5 = 1 := by kernel_rfl
  have hbr : bytesOf Tryz.prog 21 = 4 := by kernel_rfl
  have hb1 := hc.1
  have hb2 := hc.2
  have hw64 : IntKind.i64.wrap c = c := by rw [IntKind.wrap_i64]; omega
  have hw32 : IntKind.i32.wrap c = c := by rw [IntKind.wrap_i32]; omega
  have one : ∃ B x, [c] = B ++ [x] ∧ Good2 B ∧ 0 ≤ x ∧ x ≤ 255 := ⟨[], c, rfl, trivial, hc⟩
  have hsz1 : (bsOf [c]).size = 1 := rfl
  have hst := step_first' (c := c)
  unfold GoesR at hq
  simp only [emptyB, hw64, hw32, hsz1, hbs, hbt, hbr, List.getD_cons_zero]
  repeat' first
    | (refine br_intro (fun h => ?_) (fun h => ?_))
    | (refine And.intro ?_ ?_)
  all_goals first | omega | exact one | rfl | (simp only [beq_iff_eq, beq_eq_false_iff_ne, decide_eq_true_eq, decide_eq_false_iff_not, ne_eq, Bool.not_eq_true', Bool.not_eq_false'] at *) | skip
  all_goals first | omega | refine hq _ _ _ _ _ _ _ _ _ _ _ _ _ _ _ ?_ ?_ ?_ ?_ ?_ rfl
  all_goals clear hq
  all_goals first
    | rfl
    | (simp only [List.length_append, List.length_cons, List.length_nil]; done)
    | (simp [RS.esc, RS.begin, RS.utf, RS.inters, aControl, aPrint, e0, sG, sE, sC, sO, sD, *]; done)
    | (have e1 : ¬ (c = 24 ∨ c = 26) := by omega
       have e2 : ¬ c = 27 := by omega
       have e3 : ¬ c < 32 := by omega
       simp [RS.esc, RS.begin, RS.utf, RS.inters, aControl, aPrint, e0, sG, sE, sC, sO, sD, *]; done)
    | skip
end T13
end
