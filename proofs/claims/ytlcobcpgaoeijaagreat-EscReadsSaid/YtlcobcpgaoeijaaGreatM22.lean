/- Part of a proof: the walks of the functions that the law calls, and their plain laws; no condition. -/
import Derived.Test.YtlcobcpgaoeijaaGreatSxT
import Derived.Test.YtlcobcpgaoeijaaGreatM15
import Derived.Test.YtlcobcpgaoeijaaGreatM20
import Derived.Test.YtlcobcpgaoeijaaGreatM21
set_option linter.unusedVariables false
set_option linter.unusedSimpArgs false
open Go Sx Go.Proofs
namespace B13
open T13 (aty Few)
set_option maxRecDepth 100000
set_option maxHeartbeats 40000000
attribute [local irreducible] Tree.Leads
noncomputable def G4 : Table := (Table.none.add 76 (.go s76h)).add 1500044 (.ext fun _ _ => .fail)
theorem G4_ok : TableOK Tryz.prog G4 := add_ok (add_ok none_ok s76h_ok) (fun _ _ _ _ _ _ _ _ _ h => by simp only [Tree.Leads] at h)
def growna (i : Nat) : List (List aty.den) → List (List aty.den)
  | [] => []
  | l :: r => (l ++ marksA i l.length 72) :: growna (i + 1) r
noncomputable def A49a (LL : List (List aty.den)) (AA : List (List Int)) : Ann := { live := [0, 3, 4], mv := [1, 2], hook := 2, hk2 := 69, nilS := [(3, 44, .imm aty)], head := fun _ _ => { X := Nat, inv := fun i => ([.ptr 0 0, .sl 3 1 0 i, .lit (.int .i64 i)], [.cells 62 (bk (.sl 1 1 0 AA.length) .junk (.sl 2 1 0 LL.length) .junk), .row 22 (.imm (.int .i64)) AA, .lists 44 69 aty (LL.take i) [] none (LL.drop i), .row 44 (.imm aty) (growna 0 (LL.take i))]), ok := fun i => i ≤ LL.length, mu := fun i => LL.length - i } }
def left2a (vals : List SV) : Bool := match vals with
  | [_, _, _, .sl h _ _ _, _] => !(Nat.beq h 3)
  | _ => false
noncomputable def B49a (LL : List (List aty.den)) : Ann := { live := [0, 3, 4, 5, 6], mv := [1, 2], leave := fun vals _ => left2a vals, next := 1000, head := fun vals H => match vals, H with | [a, o, .lit (.int .i64 i), _, _], [c, x, l, _, u] => { X := Nat, inv := fun k => ([a, o, .lit (.int .i64 i), .sl 3 7 0 ((LL.getD i.toNat []).length + k), .lit (.int .i64 k)], [c, x, l, .row 69 aty (LL.getD i.toNat [] ++ marksA i (LL.getD i.toNat []).length k), u]), ok := fun k => k ≤ 12, mu := fun k => 12 - k } | _, _ => { X := Nat, inv := fun _ => ([], []), ok := fun _ => False, mu := fun _ => 0 } }
noncomputable def D49a (LL : List (List aty.den)) : Ann := { live := [0, 3, 4, 5, 6], mv := [1, 2], head := fun vals H => match vals, H with | [a, o, .lit (.int .i64 i), _, _], [c, x, l, r, u, _] => { X := Nat, inv := fun k => ([a, o, .lit (.int .i64 i), .sl 5 7 0 ((LL.getD i.toNat []).length + k), .lit (.int .i64 k)], [c, x, l, r, u, .row 69 aty (LL.getD i.toNat [] ++ marksA i (LL.getD i.toNat []).length k)]), ok := fun k => k ≤ 12, mu := fun k => 12 - k } | _, _ => { X := Nat, inv := fun _ => ([], []), ok := fun _ => False, mu := fun _ => 0 } }
noncomputable def Z3a : Ann := { live := [], mv := [], head := fun _ _ => { X := Nat, inv := fun _ => ([], []), ok := fun _ => False, mu := fun _ => 0 }, hook := 3, hk2 := 69 }
noncomputable def N49a (LL : List (List aty.den)) (AA : List (List Int)) : Nat → Option Ann := fun k => if Nat.beq k 0 then some (A49a LL AA) else if Nat.beq k 2 then some (B49a LL) else if Nat.beq k 1000 then some (D49a LL) else if Nat.beq k 999999 then some Z3a else none
theorem marksA_append (i : Int) (k m : Nat) : ∀ n, marksA i k (m + n) = marksA i k m ++ marksA i (k + m) n
  | 0 => by simp [marksA]
  | n + 1 => by
    rw [← Nat.add_assoc, marksA, marksA_append i k m n, marksA, List.append_assoc]
    rw [show k + (m + n) = k + m + n by omega]
theorem grownA_len (i : Nat) : ∀ l, (growna i l).length = l.length
  | [] => rfl
  | x :: l => by simp only [growna, List.length_cons, grownA_len (i + 1) l]
theorem grownA_snoc (x : List aty.den) : ∀ (l : List (List aty.den)) (i : Nat), growna i (l ++ [x]) = growna i l ++ [x ++ marksA ((i + l.length : Nat) : Int) x.length 72]
  | [], i => rfl
  | y :: l, i => by
    simp only [List.cons_append, growna, grownA_snoc x l (i + 1), List.length_cons]
    rw [show i + 1 + l.length = i + (l.length + 1) by omega]
attribute [local irreducible] marksA
noncomputable abbrev zB13l_0 (LL : List (List aty.den)) (AA : List (List Int)) := [SV.lit (Value.slice Option.none 0 0), SV.lit (Value.slice Option.none 0 0), SV.sl 1 1 0 (List.length AA), SV.junk, SV.lit (Value.slice Option.none 0 0), SV.lit (Value.slice Option.none 0 0), SV.lit (Value.slice Option.none 0 0), SV.lit (Value.slice Option.none 0 0), SV.sl 2 1 0 (List.length LL), SV.junk, SV.lit (Value.slice Option.none 0 0), SV.lit (Value.slice Option.none 0 0), SV.lit (Value.slice Option.none 0 0), SV.lit (Value.slice Option.none 0 0), SV.lit (Value.slice Option.none 0 0), SV.lit (Value.slice Option.none 0 0)]
noncomputable abbrev zB13l_1 (LL : List (List aty.den)) (u1 : Nat) (u3 : Nat) := B13.marksA (↑u1 : Int) (List.length (List.getD LL u1 [])) u3
noncomputable abbrev zB13l_2 (u1 : Nat) := [SV.ptr 0 0, SV.sl 3 1 0 (u1 + 1), SV.lit (Value.int IntKind.i64 (IntKind.wrap IntKind.i64 ((↑u1 : Int) + (1 : Int))))]
noncomputable abbrev zB13l_3 (LL : List (List aty.den)) (u1 : Nat) (u3 : Nat) (u14 : List (Ty.den T13.aty)) := (List.getD LL u1 [] ++ (zB13l_1 LL u1 u3) ++ List.take 60 (List.drop 0 u14))
noncomputable abbrev zB13l_4 (LL : List (List aty.den)) (AA : List (List Int)) (u1 : Nat) := [SO.cells 62 (zB13l_0 LL AA), SO.row 22 (Ty.imm (Ty.int IntKind.i64)) AA, SO.lists 44 69 T13.aty (List.take u1 LL) [] (Option.some (3, List.length (List.getD (List.drop u1 LL) 0 []))) (List.drop 1 (List.drop u1 LL)), SO.row 69 T13.aty (List.getD (List.drop u1 LL) 0 []), SO.row 44 (Ty.imm T13.aty) (B13.growna 0 (List.take u1 LL))]
theorem v49a (LL : List (List aty.den)) (AA : List (List Int)) (Q : SV × Heap × List Nat → Prop) (hn : LL.length ≤ 1000) (hL : ∀ l ∈ LL, l.length ≤ 900000)
    (hq : Q (.sl 3 1 0 LL.length, [.cells 62 (bk (.sl 1 1 0 AA.length) .junk (.sl 2 1 0 LL.length) .junk), .row 22 (.imm (.int .i64)) AA, .row 44 (.imm aty) LL, .row 44 (.imm aty) (growna 0 LL)], [1, 2])) :
    (bodySumm G4 Tryz.prog Tryz.f43 (N49a LL AA) [.ptr 0 0] [.cells 62 (bk (.sl 1 1 0 AA.length) .junk (.sl 2 1 0 LL.length) .junk), .row 22 (.imm (.int .i64)) AA, .lists 44 69 aty [] [] none LL]).Leads Q := by
  refine Sx.by_text (q :=
   (∃ (u0 : Nat), ([SV.ptr 0 0, SV.sl 3 1 0 0, SV.lit (Value.int IntKind.i64 (0 : Int))], [SO.cells 62 (zB13l_0 LL AA), SO.row 22 (Ty.imm (Ty.int IntKind.i64)) AA, SO.lists
   44 69 T13.aty [] [] Option.none LL, SO.row 44 (Ty.imm T13.aty) []]) = ([SV.ptr 0 0, SV.sl 3 1 0 u0, SV.lit (Value.int IntKind.i64 (↑u0 : Int))], [SO.cells 62 (zB13l_0 LL
   AA), SO.row 22 (Ty.imm (Ty.int IntKind.i64)) AA, SO.lists 44 69 T13.aty (List.take u0 LL) [] Option.none (List.drop u0 LL), SO.row 44 (Ty.imm T13.aty) (B13.growna 0
   (List.take u0 LL))]) ∧ u0 ≤ List.length LL) ∧ ∀ (u1 : Nat), u1 ≤ List.length LL → br (decide (0 < List.length (List.drop u1 LL))) (br (decide ((↑u1 : Int) < (↑(List.length
   LL) : Int))) (((0 : Int) ≤ (↑u1 : Int) ∧ (↑u1 : Int) < (↑(List.length LL) : Int)) ∧ 0 + u1 = List.length (List.take u1 LL) ∧ (∃ (u2 : Nat), ([SV.ptr 0 0, SV.sl 4 1 0 u1,
   SV.lit (Value.int IntKind.i64 (↑u1 : Int)), SV.sl 3 7 0 (List.length (List.getD (List.drop u1 LL) 0 [])), SV.lit (Value.int IntKind.i64 (0 : Int))], (zB13l_4 LL AA u1)) =
   ([SV.ptr 0 0, SV.sl 4 1 0 u1, SV.lit (Value.int IntKind.i64 (↑u1 : Int)), SV.sl 3 7 0 (List.length (List.getD LL u1 []) + u2), SV.lit (Value.int IntKind.i64 (↑u2 : Int))],
   [SO.cells 62 (zB13l_0 LL AA), SO.row 22 (Ty.imm (Ty.int IntKind.i64)) AA, SO.lists 44 69 T13.aty (List.take u1 LL) [] (Option.some (3, List.length (List.getD (List.drop u1
   LL) 0 []))) (List.drop 1 (List.drop u1 LL)), SO.row 69 T13.aty (List.getD LL u1 [] ++ B13.marksA (↑u1 : Int) (List.length (List.getD LL u1 [])) u2), SO.row 44 (Ty.imm
   T13.aty) (B13.growna 0 (List.take u1 LL))]) ∧ u2 ≤ 12) ∧ ∀ (u3 : Nat), u3 ≤ 12 → br (decide ((↑u3 : Int) < (12 : Int))) ((((0 : Int) ≤ (↑u1 : Int) ∧ (0 : Int) ≤
   (↑(List.length (List.getD LL u1 []) + u3) : Int) ∧ (0 : Int) ≤ (1 : Int)) ∧ (↑(List.length (List.getD LL u1 []) + u3) : Int) ≤ (1000000 : Int) ∧ (1 : Int) ≤ (1000000 :
   Int)) ∧ ∀ (u4 : List (Ty.den T13.aty)), B13.MkOfA (↑u1 : Int) (List.length (List.getD LL u1 []) + u3) 1 u4 → 1 ≤ List.length u4 ∧ List.length (List.getD LL u1 []) + u3 =
   List.length (List.getD LL u1 [] ++ (zB13l_1 LL u1 u3)) ∧ ((↑(List.length (List.getD LL u1 []) + u3 + List.length (List.take 1 (List.drop 0 u4))) : Int) ≤
   (9223372036854775807 : Int) ∧ (List.length (List.getD LL u1 []) + u3 + List.length (List.take 1 (List.drop 0 u4))) * Sx.bytesOf Go.Proofs.Tryz.prog 69 ≤ 140737488355328) ∧
   ∀ (u5 : Bool), True → br u5 ((∃ (u6 : Nat), ([SV.ptr 0 0, SV.sl 4 1 0 u1, SV.lit (Value.int IntKind.i64 (↑u1 : Int)), SV.sl 3 7 0 (List.length (List.getD LL u1 []) + u3 +
   List.length (List.take 1 (List.drop 0 u4))), SV.lit (Value.int IntKind.i64 (IntKind.wrap IntKind.i64 ((↑u3 : Int) + (1 : Int))))], [SO.cells 62 (zB13l_0 LL AA), SO.row 22
   (Ty.imm (Ty.int IntKind.i64)) AA, SO.lists 44 69 T13.aty (List.take u1 LL) [] (Option.some (3, List.length (List.getD (List.drop u1 LL) 0 []))) (List.drop 1 (List.drop u1
   LL)), SO.row 69 T13.aty (List.getD LL u1 [] ++ (zB13l_1 LL u1 u3) ++ List.take 1 (List.drop 0 u4)), SO.row 44 (Ty.imm T13.aty) (B13.growna 0 (List.take u1 LL))]) =
   ([SV.ptr 0 0, SV.sl 4 1 0 u1, SV.lit (Value.int IntKind.i64 (↑u1 : Int)), SV.sl 3 7 0 (List.length (List.getD LL u1 []) + u6), SV.lit (Value.int IntKind.i64 (↑u6 : Int))],
   [SO.cells 62 (zB13l_0 LL AA), SO.row 22 (Ty.imm (Ty.int IntKind.i64)) AA, SO.lists 44 69 T13.aty (List.take u1 LL) [] (Option.some (3, List.length (List.getD (List.drop u1
   LL) 0 []))) (List.drop 1 (List.drop u1 LL)), SO.row 69 T13.aty (List.getD LL u1 [] ++ B13.marksA (↑u1 : Int) (List.length (List.getD LL u1 [])) u6), SO.row 44 (Ty.imm
   T13.aty) (B13.growna 0 (List.take u1 LL))]) ∧ u6 ≤ 12 ∧ 12 - u6 < 12 - u3) ∧ True) ((∃ (u7 : Nat), ([SV.ptr 0 0, SV.sl 4 1 0 u1, SV.lit (Value.int IntKind.i64 (↑u1 :
   Int)), SV.sl 5 7 0 (List.length (List.getD LL u1 []) + u3 + List.length (List.take 1 (List.drop 0 u4))), SV.lit (Value.int IntKind.i64 (IntKind.wrap IntKind.i64 ((↑u3 :
   Int) + (1 : Int))))], [SO.cells 62 (zB13l_0 LL AA), SO.row 22 (Ty.imm (Ty.int IntKind.i64)) AA, SO.lists 44 69 T13.aty (List.take u1 LL) [] (Option.some (3, List.length
   (List.getD (List.drop u1 LL) 0 []))) (List.drop 1 (List.drop u1 LL)), SO.row 69 T13.aty (List.getD LL u1 [] ++ (zB13l_1 LL u1 u3)), SO.row 44 (Ty.imm T13.aty) (B13.growna
   0 (List.take u1 LL)), SO.row 69 T13.aty (List.getD LL u1 [] ++ (zB13l_1 LL u1 u3) ++ List.take 1 (List.drop 0 u4))]) = ([SV.ptr 0 0, SV.sl 4 1 0 u1, SV.lit (Value.int
   IntKind.i64 (↑u1 : Int)), SV.sl 5 7 0 (List.length (List.getD LL u1 []) + u7), SV.lit (Value.int IntKind.i64 (↑u7 : Int))], [SO.cells 62 (zB13l_0 LL AA), SO.row 22 (Ty.imm
   (Ty.int IntKind.i64)) AA, SO.lists 44 69 T13.aty (List.take u1 LL) [] (Option.some (3, List.length (List.getD (List.drop u1 LL) 0 []))) (List.drop 1 (List.drop u1 LL)),
   SO.row 69 T13.aty (List.getD LL u1 [] ++ (zB13l_1 LL u1 u3)), SO.row 44 (Ty.imm T13.aty) (B13.growna 0 (List.take u1 LL)), SO.row 69 T13.aty (List.getD LL u1 [] ++
   B13.marksA (↑u1 : Int) (List.length (List.getD LL u1 [])) u7)]) ∧ u7 ≤ 12) ∧ ∀ (u8 : Nat), u8 ≤ 12 → br (decide ((↑u8 : Int) < (12 : Int))) ((((0 : Int) ≤ (↑u1 : Int) ∧ (0
   : Int) ≤ (↑(List.length (List.getD LL u1 []) + u8) : Int) ∧ (0 : Int) ≤ (1 : Int)) ∧ (↑(List.length (List.getD LL u1 []) + u8) : Int) ≤ (1000000 : Int) ∧ (1 : Int) ≤
   (1000000 : Int)) ∧ ∀ (u9 : List (Ty.den T13.aty)), B13.MkOfA (↑u1 : Int) (List.length (List.getD LL u1 []) + u8) 1 u9 → 1 ≤ List.length u9 ∧ (List.length (List.getD LL u1
   []) + u8 = List.length (List.getD LL u1 [] ++ B13.marksA (↑u1 : Int) (List.length (List.getD LL u1 [])) u8) ∧ 0 < List.length (List.take 1 (List.drop 0 u9))) ∧
   ((↑(List.length (List.getD LL u1 []) + u8 + List.length (List.take 1 (List.drop 0 u9))) : Int) ≤ (9223372036854775807 : Int) ∧ (List.length (List.getD LL u1 []) + u8 +
   List.length (List.take 1 (List.drop 0 u9))) * Sx.bytesOf Go.Proofs.Tryz.prog 69 ≤ 140737488355328) ∧ (∃ (u10 : Nat), ([SV.ptr 0 0, SV.sl 4 1 0 u1, SV.lit (Value.int
   IntKind.i64 (↑u1 : Int)), SV.sl 5 7 0 (List.length (List.getD LL u1 []) + u8 + List.length (List.take 1 (List.drop 0 u9))), SV.lit (Value.int IntKind.i64 (IntKind.wrap
   IntKind.i64 ((↑u8 : Int) + (1 : Int))))], [SO.cells 62 (zB13l_0 LL AA), SO.row 22 (Ty.imm (Ty.int IntKind.i64)) AA, SO.lists 44 69 T13.aty (List.take u1 LL) []
   (Option.some (3, List.length (List.getD (List.drop u1 LL) 0 []))) (List.drop 1 (List.drop u1 LL)), SO.row 69 T13.aty (List.getD LL u1 [] ++ (zB13l_1 LL u1 u3)), SO.row 44
   (Ty.imm T13.aty) (B13.growna 0 (List.take u1 LL)), SO.row 69 T13.aty (List.getD LL u1 [] ++ B13.marksA (↑u1 : Int) (List.length (List.getD LL u1 [])) u8 ++ List.take 1
   (List.drop 0 u9))]) = ([SV.ptr 0 0, SV.sl 4 1 0 u1, SV.lit (Value.int IntKind.i64 (↑u1 : Int)), SV.sl 5 7 0 (List.length (List.getD LL u1 []) + u10), SV.lit (Value.int
   IntKind.i64 (↑u10 : Int))], [SO.cells 62 (zB13l_0 LL AA), SO.row 22 (Ty.imm (Ty.int IntKind.i64)) AA, SO.lists 44 69 T13.aty (List.take u1 LL) [] (Option.some (3,
   List.length (List.getD (List.drop u1 LL) 0 []))) (List.drop 1 (List.drop u1 LL)), SO.row 69 T13.aty (List.getD LL u1 [] ++ (zB13l_1 LL u1 u3)), SO.row 44 (Ty.imm T13.aty)
   (B13.growna 0 (List.take u1 LL)), SO.row 69 T13.aty (List.getD LL u1 [] ++ B13.marksA (↑u1 : Int) (List.length (List.getD LL u1 [])) u10)]) ∧ u10 ≤ 12 ∧ 12 - u10 < 12 -
   u8) ∧ True) ((((0 : Int) ≤ (↑u1 : Int) ∧ (0 : Int) ≤ (↑(List.length (List.getD LL u1 []) + u8) : Int) ∧ (0 : Int) ≤ (60 : Int)) ∧ (↑(List.length (List.getD LL u1 []) + u8)
   : Int) ≤ (1000000 : Int) ∧ (60 : Int) ≤ (1000000 : Int)) ∧ ∀ (u11 : List (Ty.den T13.aty)), B13.MkOfA (↑u1 : Int) (List.length (List.getD LL u1 []) + u8) 60 u11 → 60 ≤
   List.length u11 ∧ (List.length (List.getD LL u1 []) + u8 = List.length (List.getD LL u1 [] ++ B13.marksA (↑u1 : Int) (List.length (List.getD LL u1 [])) u8) ∧ 0 <
   List.length (List.take 60 (List.drop 0 u11))) ∧ ((↑(List.length (List.getD LL u1 []) + u8 + List.length (List.take 60 (List.drop 0 u11))) : Int) ≤ (9223372036854775807 :
   Int) ∧ (List.length (List.getD LL u1 []) + u8 + List.length (List.take 60 (List.drop 0 u11))) * Sx.bytesOf Go.Proofs.Tryz.prog 69 ≤ 140737488355328) ∧ 0 + (List.length
   (List.getD LL u1 []) + u8 + List.length (List.take 60 (List.drop 0 u11))) ≤ List.length (List.getD LL u1 [] ++ B13.marksA (↑u1 : Int) (List.length (List.getD LL u1 [])) u8
   ++ List.take 60 (List.drop 0 u11)) ∧ 1 ≤ 1 ∧ br (decide (u1 + 1 ≤ List.length (B13.growna 0 (List.take u1 LL)))) (List.length (List.getD (List.drop u1 LL) 0 []) ≤
   List.length (List.getD LL u1 [] ++ (zB13l_1 LL u1 u3)) ∧ (∃ (u12 : Nat), ((zB13l_2 u1), [SO.cells 62 (zB13l_0 LL AA), SO.row 22 (Ty.imm (Ty.int IntKind.i64)) AA, SO.lists
   44 69 T13.aty (List.take u1 LL ++ [List.take (List.length (List.getD (List.drop u1 LL) 0 [])) (List.getD LL u1 [] ++ (zB13l_1 LL u1 u3))]) [] Option.none (List.drop 1
   (List.drop u1 LL)), SO.row 44 (Ty.imm T13.aty) (List.take u1 (B13.growna 0 (List.take u1 LL)) ++ [List.take (List.length (List.getD LL u1 []) + u8 + List.length (List.take
   60 (List.drop 0 u11))) (List.drop 0 (List.getD LL u1 [] ++ B13.marksA (↑u1 : Int) (List.length (List.getD LL u1 [])) u8 ++ List.take 60 (List.drop 0 u11)))] ++ List.drop
   (u1 + 1) (B13.growna 0 (List.take u1 LL)))]) = ([SV.ptr 0 0, SV.sl 3 1 0 u12, SV.lit (Value.int IntKind.i64 (↑u12 : Int))], [SO.cells 62 (zB13l_0 LL AA), SO.row 22 (Ty.imm
   (Ty.int IntKind.i64)) AA, SO.lists 44 69 T13.aty (List.take u12 LL) [] Option.none (List.drop u12 LL), SO.row 44 (Ty.imm T13.aty) (B13.growna 0 (List.take u12 LL))]) ∧ u12
   ≤ List.length LL ∧ List.length LL - u12 < List.length LL - u1) ∧ True) (u1 ≤ List.length (B13.growna 0 (List.take u1 LL)) ∧ ((↑(u1 + 1) : Int) ≤ (9223372036854775807 :
   Int) ∧ (u1 + 1) * Sx.bytesOf Go.Proofs.Tryz.prog 44 ≤ 140737488355328) ∧ List.length (List.getD (List.drop u1 LL) 0 []) ≤ List.length (List.getD LL u1 [] ++ (zB13l_1 LL u1
   u3)) ∧ (∃ (u13 : Nat), ((zB13l_2 u1), [SO.cells 62 (zB13l_0 LL AA), SO.row 22 (Ty.imm (Ty.int IntKind.i64)) AA, SO.lists 44 69 T13.aty (List.take u1 LL ++ [List.take
   (List.length (List.getD (List.drop u1 LL) 0 [])) (List.getD LL u1 [] ++ (zB13l_1 LL u1 u3))]) [] Option.none (List.drop 1 (List.drop u1 LL)), SO.row 44 (Ty.imm T13.aty)
   (List.take u1 (B13.growna 0 (List.take u1 LL)) ++ [List.take (List.length (List.getD LL u1 []) + u8 + List.length (List.take 60 (List.drop 0 u11))) (List.drop 0 (List.getD
   LL u1 [] ++ B13.marksA (↑u1 : Int) (List.length (List.getD LL u1 [])) u8 ++ List.take 60 (List.drop 0 u11)))])]) = ([SV.ptr 0 0, SV.sl 3 1 0 u13, SV.lit (Value.int
   IntKind.i64 (↑u13 : Int))], [SO.cells 62 (zB13l_0 LL AA), SO.row 22 (Ty.imm (Ty.int IntKind.i64)) AA, SO.lists 44 69 T13.aty (List.take u13 LL) [] Option.none (List.drop
   u13 LL), SO.row 44 (Ty.imm T13.aty) (B13.growna 0 (List.take u13 LL))]) ∧ u13 ≤ List.length LL ∧ List.length LL - u13 < List.length LL - u1) ∧ True)))) ((((0 : Int) ≤ (↑u1
   : Int) ∧ (0 : Int) ≤ (↑(List.length (List.getD LL u1 []) + u3) : Int) ∧ (0 : Int) ≤ (60 : Int)) ∧ (↑(List.length (List.getD LL u1 []) + u3) : Int) ≤ (1000000 : Int) ∧ (60
   : Int) ≤ (1000000 : Int)) ∧ ∀ (u14 : List (Ty.den T13.aty)), B13.MkOfA (↑u1 : Int) (List.length (List.getD LL u1 []) + u3) 60 u14 → 60 ≤ List.length u14 ∧ List.length
   (List.getD LL u1 []) + u3 = List.length (List.getD LL u1 [] ++ (zB13l_1 LL u1 u3)) ∧ ((↑(List.length (List.getD LL u1 []) + u3 + List.length (List.take 60 (List.drop 0
   u14))) : Int) ≤ (9223372036854775807 : Int) ∧ (List.length (List.getD LL u1 []) + u3 + List.length (List.take 60 (List.drop 0 u14))) * Sx.bytesOf Go.Proofs.Tryz.prog 69 ≤
   140737488355328) ∧ ∀ (u15 : Bool), True → br u15 (0 + (List.length (List.getD LL u1 []) + u3 + List.length (List.take 60 (List.drop 0 u14))) ≤ List.length (zB13l_3 LL u1
   u3 u14) ∧ 1 ≤ 1 ∧ br (decide (u1 + 1 ≤ List.length (B13.growna 0 (List.take u1 LL)))) (List.length (List.getD (List.drop u1 LL) 0 []) ≤ List.length (zB13l_3 LL u1 u3 u14)
   ∧ (∃ (u16 : Nat), ((zB13l_2 u1), [SO.cells 62 (zB13l_0 LL AA), SO.row 22 (Ty.imm (Ty.int IntKind.i64)) AA, SO.lists 44 69 T13.aty (List.take u1 LL ++ [List.take
   (List.length (List.getD (List.drop u1 LL) 0 [])) (zB13l_3 LL u1 u3 u14)]) [] Option.none (List.drop 1 (List.drop u1 LL)), SO.row 44 (Ty.imm T13.aty) (List.take u1
   (B13.growna 0 (List.take u1 LL)) ++ [List.take (List.length (List.getD LL u1 []) + u3 + List.length (List.take 60 (List.drop 0 u14))) (List.drop 0 (zB13l_3 LL u1 u3 u14))]
   ++ List.drop (u1 + 1) (B13.growna 0 (List.take u1 LL)))]) = ([SV.ptr 0 0, SV.sl 3 1 0 u16, SV.lit (Value.int IntKind.i64 (↑u16 : Int))], [SO.cells 62 (zB13l_0 LL AA),
   SO.row 22 (Ty.imm (Ty.int IntKind.i64)) AA, SO.lists 44 69 T13.aty (List.take u16 LL) [] Option.none (List.drop u16 LL), SO.row 44 (Ty.imm T13.aty) (B13.growna 0
   (List.take u16 LL))]) ∧ u16 ≤ List.length LL ∧ List.length LL - u16 < List.length LL - u1) ∧ True) (u1 ≤ List.length (B13.growna 0 (List.take u1 LL)) ∧ ((↑(u1 + 1) : Int)
   ≤ (9223372036854775807 : Int) ∧ (u1 + 1) * Sx.bytesOf Go.Proofs.Tryz.prog 44 ≤ 140737488355328) ∧ List.length (List.getD (List.drop u1 LL) 0 []) ≤ List.length (zB13l_3 LL
   u1 u3 u14) ∧ (∃ (u17 : Nat), ((zB13l_2 u1), [SO.cells 62 (zB13l_0 LL AA), SO.row 22 (Ty.imm (Ty.int IntKind.i64)) AA, SO.lists 44 69 T13.aty (List.take u1 LL ++ [List.take
   (List.length (List.getD (List.drop u1 LL) 0 [])) (zB13l_3 LL u1 u3 u14)]) [] Option.none (List.drop 1 (List.drop u1 LL)), SO.row 44 (Ty.imm T13.aty) (List.take u1
   (B13.growna 0 (List.take u1 LL)) ++ [List.take (List.length (List.getD LL u1 []) + u3 + List.length (List.take 60 (List.drop 0 u14))) (List.drop 0 (zB13l_3 LL u1 u3
   u14))])]) = ([SV.ptr 0 0, SV.sl 3 1 0 u17, SV.lit (Value.int IntKind.i64 (↑u17 : Int))], [SO.cells 62 (zB13l_0 LL AA), SO.row 22 (Ty.imm (Ty.int IntKind.i64)) AA, SO.lists
   44 69 T13.aty (List.take u17 LL) [] Option.none (List.drop u17 LL), SO.row 44 (Ty.imm T13.aty) (B13.growna 0 (List.take u17 LL))]) ∧ u17 ≤ List.length LL ∧ List.length LL
   - u17 < List.length LL - u1) ∧ True)) (0 + (List.length (List.getD LL u1 []) + u3 + List.length (List.take 60 (List.drop 0 u14))) ≤ List.length (zB13l_3 LL u1 u3 u14) ∧ 1
   ≤ 1 ∧ br (decide (u1 + 1 ≤ List.length (B13.growna 0 (List.take u1 LL)))) (List.length (List.getD (List.drop u1 LL) 0 []) ≤ List.length (List.getD LL u1 [] ++ (zB13l_1 LL
   u1 u3)) ∧ (∃ (u18 : Nat), ((zB13l_2 u1), [SO.cells 62 (zB13l_0 LL AA), SO.row 22 (Ty.imm (Ty.int IntKind.i64)) AA, SO.lists 44 69 T13.aty (List.take u1 LL ++ [List.take
   (List.length (List.getD (List.drop u1 LL) 0 [])) (List.getD LL u1 [] ++ (zB13l_1 LL u1 u3))]) [] Option.none (List.drop 1 (List.drop u1 LL)), SO.row 44 (Ty.imm T13.aty)
   (List.take u1 (B13.growna 0 (List.take u1 LL)) ++ [List.take (List.length (List.getD LL u1 []) + u3 + List.length (List.take 60 (List.drop 0 u14))) (List.drop 0 (zB13l_3
   LL u1 u3 u14))] ++ List.drop (u1 + 1) (B13.growna 0 (List.take u1 LL)))]) = ([SV.ptr 0 0, SV.sl 3 1 0 u18, SV.lit (Value.int IntKind.i64 (↑u18 : Int))], [SO.cells 62
   (zB13l_0 LL AA), SO.row 22 (Ty.imm (Ty.int IntKind.i64)) AA, SO.lists 44 69 T13.aty (List.take u18 LL) [] Option.none (List.drop u18 LL), SO.row 44 (Ty.imm T13.aty)
   (B13.growna 0 (List.take u18 LL))]) ∧ u18 ≤ List.length LL ∧ List.length LL - u18 < List.length LL - u1) ∧ True) (u1 ≤ List.length (B13.growna 0 (List.take u1 LL)) ∧
   ((↑(u1 + 1) : Int) ≤ (9223372036854775807 : Int) ∧ (u1 + 1) * Sx.bytesOf Go.Proofs.Tryz.prog 44 ≤ 140737488355328) ∧ List.length (List.getD (List.drop u1 LL) 0 []) ≤
   List.length (List.getD LL u1 [] ++ (zB13l_1 LL u1 u3)) ∧ (∃ (u19 : Nat), ((zB13l_2 u1), [SO.cells 62 (zB13l_0 LL AA), SO.row 22 (Ty.imm (Ty.int IntKind.i64)) AA, SO.lists
   44 69 T13.aty (List.take u1 LL ++ [List.take (List.length (List.getD (List.drop u1 LL) 0 [])) (List.getD LL u1 [] ++ (zB13l_1 LL u1 u3))]) [] Option.none (List.drop 1
   (List.drop u1 LL)), SO.row 44 (Ty.imm T13.aty) (List.take u1 (B13.growna 0 (List.take u1 LL)) ++ [List.take (List.length (List.getD LL u1 []) + u3 + List.length (List.take
   60 (List.drop 0 u14))) (List.drop 0 (zB13l_3 LL u1 u3 u14))])]) = ([SV.ptr 0 0, SV.sl 3 1 0 u19, SV.lit (Value.int IntKind.i64 (↑u19 : Int))], [SO.cells 62 (zB13l_0 LL
   AA), SO.row 22 (Ty.imm (Ty.int IntKind.i64)) AA, SO.lists 44 69 T13.aty (List.take u19 LL) [] Option.none (List.drop u19 LL), SO.row 44 (Ty.imm T13.aty) (B13.growna 0
   (List.take u19 LL))]) ∧ u19 ≤ List.length LL ∧ List.length LL - u19 < List.length LL - u1) ∧ True)))) (Q (SV.sl 4 1 0 u1, (zB13l_4 LL AA u1), [2, 1, 2]))) (br (decide
   ((↑u1 : Int) < (↑(List.length LL) : Int))) (((0 : Int) ≤ (↑u1 : Int) ∧ (↑u1 : Int) < (↑(List.length LL) : Int)) ∧ False) (List.length (List.drop u1 LL) = 0 ∧ Q (SV.sl 3 1
   0 u1, [SO.cells 62 (zB13l_0 LL AA), SO.row 22 (Ty.imm (Ty.int IntKind.i64)) AA, SO.row 44 (Ty.imm T13.aty) (List.take u1 LL), SO.row 44 (Ty.imm T13.aty) (B13.growna 0
   (List.take u1 LL))], [1, 2])))) (by kernel_rfl) ?_
  delta zB13l_0 zB13l_1 zB13l_2 zB13l_3 zB13l_4
  have hb1 : bytesOf Tryz.prog 69 = 88 := by kernel_rfl
  have hb2 : bytesOf Tryz.prog 44 = 24 := by kernel_rfl
  rw [hb1, hb2]
  refine ⟨⟨0, rfl, by omega⟩, fun i hi => br_intro (fun hd => ?_) (fun hd => ?_)⟩
  · have hd := of_decide_eq_true hd
    rw [List.length_drop] at hd
    have hi2 : i < LL.length := by omega
    have e := List.drop_eq_getElem_cons hi2
    have eg : LL.getD i [] = LL[i] := by rw [List.getD_eq_getElem?_getD, List.getElem?_eq_getElem hi2]; rfl
    have hlen := hL _ (List.getElem_mem hi2)
    have etk : LL.take (i + 1) = LL.take i ++ [LL[i]] := by rw [List.take_add_one, List.getElem?_eq_getElem hi2]; rfl
    have hgs : growna 0 (LL.take (i + 1)) = growna 0 (LL.take i) ++ [LL[i] ++ marksA (i : Int) LL[i].length 72] := by
      rw [etk, grownA_snoc, List.length_take, Nat.min_eq_left hi, Nat.zero_add]
    have hml := grownA_len 0 (LL.take i)
    have htl : (LL.take i).length = i := by rw [List.length_take]; omega
    rw [htl] at hml
    rw [e, eg]
    simp only [List.getD_cons_zero, List.drop_succ_cons, List.drop_zero, List.drop_drop]
    generalize LL[i] = R at *
    have hml2 : ∀ (a : Int) (k n : Nat), (marksA a k n).length = n := marksA_len
    have one : ∀ k, marksA (i : Int) R.length (k + 1) = marksA (i : Int) R.length k ++ marksA (i : Int) (R.length + k) 1 := fun k => marksA_append _ _ _ _
    have h72 : marksA (i : Int) R.length 72 = marksA (i : Int) R.length 12 ++ marksA (i : Int) (R.length + 12) 60 := marksA_append _ _ 12 60
    have t1 : ∀ (a : Int) (k n : Nat), (marksA a k n).take n = marksA a k n := fun a k n => List.take_of_length_le (by rw [hml2]; exact Nat.le_refl _)
    have tR : ∀ X : List aty.den, (R ++ X).take R.length = R := fun X => List.take_left
    have w1 : ∀ n : Nat, n ≤ 2000 → IntKind.i64.wrap ((n : Int) + 1) = ((n + 1 : Nat) : Int) := fun n hn => wrap1 n (by omega)
    have tX : (R ++ marksA (i : Int) R.length 12 ++ marksA (i : Int) (R.length + 12) 60).take (R.length + 12 + 60) = R ++ marksA (i : Int) R.length 72 := by
      rw [h72, ← List.append_assoc]
      exact List.take_of_length_le (by rw [List.length_append, List.length_append, hml2, hml2]; omega)
    generalize growna 0 (LL.take i) = G at *
    have hG : G.take i = G := List.take_of_length_le (by omega)
    refine br_intro (fun hlt => ⟨by omega, by omega, ⟨0, by simp [marksA], by omega⟩, fun k hk => br_intro (fun hk2 => ⟨⟨by omega, by omega, by omega⟩, fun l hl => ?_⟩) (fun hk2 => ⟨⟨by omega, by omega, by omega⟩, fun l hl => ?_⟩)⟩) (fun hge => by have := of_decide_eq_false hge; omega)
    · have hk2 := of_decide_eq_true hk2
      obtain rfl := hl.eq
      rw [t1 i (R.length + k) 1, hml2 i (R.length + k) 1]
      refine ⟨by omega, by rw [List.length_append, hml2], ⟨by omega, by omega⟩, fun c _ => br_intro (fun _ => ⟨⟨k + 1, ?_, by omega, by omega⟩, trivial⟩) (fun _ => ⟨⟨k + 1, ?_, by omega⟩, fun j hj => br_intro (fun hj2 => ⟨⟨by omega, by omega, by omega⟩, fun l hl => ?_⟩) (fun hj2 => ⟨⟨by omega, by omega, by omega⟩, fun l hl => ?_⟩)⟩)⟩
      · rw [w1 k (by omega), one k, List.append_assoc]; rfl
      · rw [w1 k (by omega), one k, List.append_assoc]; rfl
      · have hj2 := of_decide_eq_true hj2
        obtain rfl := hl.eq
        rw [t1 i (R.length + j) 1, hml2 i (R.length + j) 1]
        refine ⟨by omega, ⟨by rw [List.length_append, hml2], by omega⟩, ⟨by omega, by omega⟩, ⟨j + 1, ?_, by omega, by omega⟩, trivial⟩
        rw [w1 j (by omega), one j, List.append_assoc]; rfl
      · have hj2 := of_decide_eq_false hj2
        have : j = 12 := by omega
        subst this
        obtain rfl := hl.eq
        rw [t1 i (R.length + 12) 60, hml2 i (R.length + 12) 60]
        refine ⟨by omega, ⟨by rw [List.length_append, hml2], by omega⟩, ⟨by omega, by omega⟩, by rw [List.length_append, List.length_append, hml2, hml2]; omega, by omega, br_intro (fun h => by have := of_decide_eq_true h; omega) (fun _ => ⟨by omega, ⟨by omega, by omega⟩, by rw [List.length_append]; omega, ⟨i + 1, ?_, by omega, by omega⟩, trivial⟩)⟩
        rw [w1 i (by omega), hgs, etk, tR, tX, hG]
    · have hk2 := of_decide_eq_false hk2
      have : k = 12 := by omega
      subst this
      obtain rfl := hl.eq
      rw [t1 i (R.length + 12) 60, hml2 i (R.length + 12) 60]
      refine ⟨by omega, by rw [List.length_append, hml2], ⟨by omega, by omega⟩, fun c _ => br_intro (fun _ => ?_) (fun _ => ?_)⟩
      · refine ⟨by rw [List.length_append, List.length_append, hml2, hml2]; omega, by omega, br_intro (fun h => by have := of_decide_eq_true h; omega) (fun _ => ⟨by omega, ⟨by omega, by omega⟩, by rw [List.length_append, List.length_append]; omega, ⟨i + 1, ?_, by omega, by omega⟩, trivial⟩)⟩
        rw [w1 i (by omega), hgs, etk, tX, hG, List.append_assoc R, tR]
      · refine ⟨by rw [List.length_append, List.length_append, hml2, hml2]; omega, by omega, br_intro (fun h => by have := of_decide_eq_true h; omega) (fun _ => ⟨by omega, ⟨by omega, by omega⟩, by rw [List.length_append]; omega, ⟨i + 1, ?_, by omega, by omega⟩, trivial⟩)⟩
        rw [w1 i (by omega), hgs, etk, tR, tX, hG]
  · have hd := of_decide_eq_false hd
    rw [List.length_drop] at hd
    have : i = LL.length := by omega
    subst this
    refine br_intro (fun h => by have := of_decide_eq_true h; omega) (fun _ => ⟨by rw [List.length_drop]; omega, ?_⟩)
    rw [List.take_length]
    exact hq
noncomputable def s49a : Summ := fun args H => match args, H with
  | [.ptr 0 0], [.cells 62 cs, .row 22 (.imm (.int .i64)) AA, .lists 44 69 (Ty.pair (Ty.int IntKind.i64) (Ty.pair (Ty.int IntKind.i32) (Ty.pair (Ty.int IntKind.i64) (Ty.pair (Ty.int IntKind.i64) (Ty.pair (Ty.imm (Ty.int IntKind.i64)) (Ty.pair Ty.str Ty.str)))))) [] [] none LL] => .need ((LL.length ≤ 1000 ∧ ∀ l ∈ LL, l.length ≤ 900000) ∧ cs = bk (.sl 1 1 0 AA.length) .junk (.sl 2 1 0 LL.length) .junk)
      (.ret (.sl 3 1 0 LL.length, [.cells 62 cs, .row 22 (.imm (.int .i64)) AA, .row 44 (.imm aty) LL, .row 44 (.imm aty) (growna 0 LL)], [1, 2]))
  | _, _ => .fail
theorem s49a_ok : SummOK Tryz.prog 43 s49a := by
  refine summ_of_body (fn := Tryz.f43) (c := Tryz.f43.body.get!) G4_ok (by kernel_rfl) (by kernel_rfl) (by kernel_rfl) fun args H Q h => ?_
  unfold s49a at h
  split at h
  · rename_i cs AA LL
    simp only [Tree.Leads] at h
    obtain ⟨⟨⟨h1, h2⟩, rfl⟩, hq⟩ := h
    exact ⟨_, v49a LL AA Q h1 h2 hq⟩
  · simp only [Tree.Leads] at h
end B13

