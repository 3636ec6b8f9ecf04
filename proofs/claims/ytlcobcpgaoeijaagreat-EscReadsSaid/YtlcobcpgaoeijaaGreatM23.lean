/- Part of a proof: the walks of the functions that the law calls, and their plain laws; no condition. -/
import Derived.Test.YtlcobcpgaoeijaaGreatSxT
import Derived.Test.YtlcobcpgaoeijaaGreatM1
import Derived.Test.YtlcobcpgaoeijaaGreatM21
set_option linter.unusedVariables false
set_option linter.unusedSimpArgs false
section
open Go Sx Go.Proofs
open T13 (aty)
namespace B13
set_option maxRecDepth 100000
set_option maxHeartbeats 40000000
attribute [local irreducible] Tree.Leads
structure MkOf (i : Int) (k n : Nat) (l : List Int) : Prop where
  eq : l = marks i k n
/-- Marks, under a name. -/
noncomputable def s79h : Summ := fun args H => match args, H with
  | [.lit (.int .i64 i), .lit (.int .i64 k), .lit (.int .i64 n)], [] => .need ((0 ≤ i ∧ 0 ≤ k ∧ 0 ≤ n) ∧ k ≤ 1000000 ∧ n ≤ 1000000) (.any (List Int) (MkOf i k.toNat n.toNat) fun l => .ret (.sl 0 1 0 n.toNat, [.row 3 (.int .i64) l], []))
  | _, _ => .fail
theorem s79h_ok : SummOK Tryz.prog 78 s79h := by
  refine summ_of_body (fn := Tryz.f78) (c := Tryz.f78.body.get!) none_ok (by kernel_rfl) (by kernel_rfl) (by kernel_rfl) fun args H Q h => ?_
  unfold s79h at h
  split at h
  · rename_i i k n
    simp only [Tree.Leads] at h
    obtain ⟨⟨⟨h1, h2, h3⟩, h4, h5⟩, hq⟩ := h
    obtain ⟨i, rfl⟩ : ∃ m : Nat, i = m := ⟨i.toNat, by omega⟩
    obtain ⟨k, rfl⟩ : ∃ m : Nat, k = m := ⟨k.toNat, by omega⟩
    obtain ⟨n, rfl⟩ : ∃ m : Nat, n = m := ⟨n.toNat, by omega⟩
    exact ⟨_, v79 i k n Q (by omega) (by omega) (hq _ ⟨rfl⟩)⟩
  · simp only [Tree.Leads] at h
noncomputable def K2h : Table := (Table.none.add 78 (.go s79h)).add 20 (.go s13k)
theorem K2h_ok : TableOK Tryz.prog K2h := add_ok (add_ok none_ok s79h_ok) s13k_ok
/-- Appends both ways. -/
noncomputable def K3 : Table := K2h.add 1500022 (.ext fun _ _ => .fail)
theorem K3_ok : TableOK Tryz.prog K3 := add_ok K2h_ok (fun _ _ _ _ _ _ _ _ _ h => by simp only [Tree.Leads] at h)
def grown (i : Nat) : List (List Int) → List (List Int)
  | [] => []
  | l :: r => (l ++ marks i l.length 72) :: grown (i + 1) r
noncomputable def A49 (LL : List (List Int)) (AA : List (List aty.den)) : Ann := { live := [0, 3, 4], mv := [1, 2], hook := 2, hk2 := 3, nilS := [(3, 22, .imm (.int .i64))], head := fun _ _ => { X := Nat, inv := fun i => ([.ptr 0 0, .sl 3 1 0 i, .lit (.int .i64 i)], [.cells 62 (bk (.sl 1 1 0 LL.length) .junk (.sl 2 1 0 AA.length) .junk), .lists 22 3 (.int .i64) (LL.take i) [] none (LL.drop i), .lists 44 69 aty [] [] none AA, .row 22 (.imm (.int .i64)) (grown 0 (LL.take i))]), ok := fun i => i ≤ LL.length, mu := fun i => LL.length - i } }
def left2 (vals : List SV) : Bool := match vals with
  | [_, _, _, .sl h _ _ _, _] => !(Nat.beq h 2)
  | _ => false
noncomputable def B49 (LL : List (List Int)) : Ann := { live := [0, 3, 4, 5, 6], mv := [1, 2], leave := fun vals _ => left2 vals, next := 1000, head := fun vals H => match vals, H with | [a, o, .lit (.int .i64 i), _, _], [c, l, _, x, u] => { X := Nat, inv := fun k => ([a, o, .lit (.int .i64 i), .sl 2 1 0 ((LL.getD i.toNat []).length + k), .lit (.int .i64 k)], [c, l, .row 3 (.int .i64) (LL.getD i.toNat [] ++ marks i (LL.getD i.toNat []).length k), x, u]), ok := fun k => k ≤ 12, mu := fun k => 12 - k } | _, _ => { X := Nat, inv := fun _ => ([], []), ok := fun _ => False, mu := fun _ => 0 } }
noncomputable def D49 (LL : List (List Int)) : Ann := { live := [0, 3, 4, 5, 6], mv := [1, 2], head := fun vals H => match vals, H with | [a, o, .lit (.int .i64 i), _, _], [c, l, r, x, u, _] => { X := Nat, inv := fun k => ([a, o, .lit (.int .i64 i), .sl 5 1 0 ((LL.getD i.toNat []).length + k), .lit (.int .i64 k)], [c, l, r, x, u, .row 3 (.int .i64) (LL.getD i.toNat [] ++ marks i (LL.getD i.toNat []).length k)]), ok := fun k => k ≤ 12, mu := fun k => 12 - k } | _, _ => { X := Nat, inv := fun _ => ([], []), ok := fun _ => False, mu := fun _ => 0 } }
noncomputable def Z3 : Ann := { live := [], mv := [], head := fun _ _ => { X := Nat, inv := fun _ => ([], []), ok := fun _ => False, mu := fun _ => 0 }, hook := 3, hk2 := 3 }
noncomputable def N49 (LL : List (List Int)) (AA : List (List aty.den)) : Nat → Option Ann := fun k => if Nat.beq k 0 then some (A49 LL AA) else if Nat.beq k 2 then some (B49 LL) else if Nat.beq k 1000 then some (D49 LL) else if Nat.beq k 999999 then some Z3 else none
theorem marks_append (i : Int) (k m : Nat) : ∀ n, marks i k (m + n) = marks i k m ++ marks i (k + m) n
  | 0 => by simp [marks]
  | n + 1 => by
    rw [← Nat.add_assoc, marks, marks_append i k m n, marks, List.append_assoc]
    rw [show k + (m + n) = k + m + n by omega]
theorem grown_len (i : Nat) : ∀ l, (grown i l).length = l.length
  | [] => rfl
  | x :: l => by simp only [grown, List.length_cons, grown_len (i + 1) l]
theorem grown_snoc (x : List Int) : ∀ (l : List (List Int)) (i : Nat), grown i (l ++ [x]) = grown i l ++ [x ++ marks ((i + l.length : Nat) : Int) x.length 72]
  | [], i => rfl
  | y :: l, i => by
    simp only [List.cons_append, grown, grown_snoc x l (i + 1), List.length_cons]
    rw [show i + 1 + l.length = i + (l.length + 1) by omega]
attribute [local irreducible] marks
noncomputable abbrev zB13c_0 (LL : List (List Int)) (AA : List (List aty.den)) := [SV.lit (Value.slice Option.none 0 0), SV.lit (Value.slice Option.none 0 0), SV.sl 1 1 0 (List.length LL), SV.junk, SV.lit (Value.slice Option.none 0 0), SV.lit (Value.slice Option.none 0 0), SV.lit (Value.slice Option.none 0 0), SV.lit (Value.slice Option.none 0 0), SV.sl 2 1 0 (List.length AA), SV.junk, SV.lit (Value.slice Option.none 0 0), SV.lit (Value.slice Option.none 0 0), SV.lit (Value.slice Option.none 0 0), SV.lit (Value.slice Option.none 0 0), SV.lit (Value.slice Option.none 0 0), SV.lit (Value.slice Option.none 0 0)]
noncomputable abbrev zB13c_1 (LL : List (List Int)) (AA : List (List aty.den)) := [SV.lit (Value.slice Option.none 0 0), SV.lit (Value.slice Option.none 0 0), SV.sl 1 1 0 (List.length LL), SV.junk, SV.lit (Value.slice Option.none 0 0), SV.lit (Value.slice Option.none 0 0), SV.lit (Value.slice Option.none 0 0), SV.lit (Value.slice Option.none 0 0), SV.sl 3 1 0 (List.length AA), SV.junk, SV.lit (Value.slice Option.none 0 0), SV.lit (Value.slice Option.none 0 0), SV.lit (Value.slice Option.none 0 0), SV.lit (Value.slice Option.none 0 0), SV.lit (Value.slice Option.none 0 0), SV.lit (Value.slice Option.none 0 0)]
noncomputable abbrev zB13c_2 (LL : List (List Int)) (u1 : Nat) (u3 : Nat) := B13.marks (↑u1 : Int) (List.length (List.getD LL u1 [])) u3
noncomputable abbrev zB13c_3 (u1 : Nat) := [SV.ptr 0 0, SV.sl 3 1 0 (u1 + 1), SV.lit (Value.int IntKind.i64 (IntKind.wrap IntKind.i64 ((↑u1 : Int) + (1 : Int))))]
noncomputable abbrev zB13c_4 (LL : List (List Int)) (u1 : Nat) (u3 : Nat) (u14 : List Int) := (List.getD LL u1 [] ++ (zB13c_2 LL u1 u3) ++ List.take 60 (List.drop 0 u14))
noncomputable abbrev zB13c_5 (LL : List (List Int)) (AA : List (List aty.den)) (u1 : Nat) := [SO.cells 62 (zB13c_1 LL AA), SO.lists 22 3 (Ty.int IntKind.i64) (List.take u1 LL) [] (Option.some (2, List.length (List.getD (List.drop u1 LL) 0 []))) (List.drop 1 (List.drop u1 LL)), SO.row 3 (Ty.int IntKind.i64) (List.getD (List.drop u1 LL) 0 []), SO.lists 44 69 T13.aty [] [] Option.none AA, SO.row 22 (Ty.imm (Ty.int IntKind.i64)) (B13.grown 0 (List.take u1 LL))]
theorem v49 (LL : List (List Int)) (AA : List (List aty.den)) (Q : SV × Heap × List Nat → Prop) (hn : LL.length ≤ 1000) (hL : ∀ l ∈ LL, l.length ≤ 900000)
    (hq : Q (.sl 3 1 0 LL.length, [.cells 62 (bk (.sl 1 1 0 LL.length) .junk (.sl 2 1 0 AA.length) .junk), .row 22 (.imm (.int .i64)) LL, .lists 44 69 aty [] [] none AA, .row 22 (.imm (.int .i64)) (grown 0 LL)], [1, 2])) :
    (bodySumm K3 Tryz.prog Tryz.f40 (N49 LL AA) [.ptr 0 0] [.cells 62 (bk (.sl 1 1 0 LL.length) .junk (.sl 2 1 0 AA.length) .junk), .lists 22 3 (.int .i64) [] [] none LL, .lists 44 69 aty [] [] none AA]).Leads Q := by
  refine Sx.by_text (q :=
   (∃ (u0 : Nat), ([SV.ptr 0 0, SV.sl 3 1 0 0, SV.lit (Value.int IntKind.i64 (0 : Int))], [SO.cells 62 (zB13c_0 LL AA), SO.lists 22 3 (Ty.int IntKind.i64) [] [] Option.none
   LL, SO.lists 44 69 T13.aty [] [] Option.none AA, SO.row 22 (Ty.imm (Ty.int IntKind.i64)) []]) = ([SV.ptr 0 0, SV.sl 3 1 0 u0, SV.lit (Value.int IntKind.i64 (↑u0 : Int))],
   [SO.cells 62 (zB13c_0 LL AA), SO.lists 22 3 (Ty.int IntKind.i64) (List.take u0 LL) [] Option.none (List.drop u0 LL), SO.lists 44 69 T13.aty [] [] Option.none AA, SO.row 22
   (Ty.imm (Ty.int IntKind.i64)) (B13.grown 0 (List.take u0 LL))]) ∧ u0 ≤ List.length LL) ∧ ∀ (u1 : Nat), u1 ≤ List.length LL → br (decide (0 < List.length (List.drop u1
   LL))) (br (decide ((↑u1 : Int) < (↑(List.length LL) : Int))) (((0 : Int) ≤ (↑u1 : Int) ∧ (↑u1 : Int) < (↑(List.length LL) : Int)) ∧ 0 + u1 = List.length (List.take u1 LL)
   ∧ (∃ (u2 : Nat), ([SV.ptr 0 0, SV.sl 4 1 0 u1, SV.lit (Value.int IntKind.i64 (↑u1 : Int)), SV.sl 2 1 0 (List.length (List.getD (List.drop u1 LL) 0 [])), SV.lit (Value.int
   IntKind.i64 (0 : Int))], (zB13c_5 LL AA u1)) = ([SV.ptr 0 0, SV.sl 4 1 0 u1, SV.lit (Value.int IntKind.i64 (↑u1 : Int)), SV.sl 2 1 0 (List.length (List.getD LL u1 []) +
   u2), SV.lit (Value.int IntKind.i64 (↑u2 : Int))], [SO.cells 62 (zB13c_1 LL AA), SO.lists 22 3 (Ty.int IntKind.i64) (List.take u1 LL) [] (Option.some (2, List.length
   (List.getD (List.drop u1 LL) 0 []))) (List.drop 1 (List.drop u1 LL)), SO.row 3 (Ty.int IntKind.i64) (List.getD LL u1 [] ++ B13.marks (↑u1 : Int) (List.length (List.getD LL
   u1 [])) u2), SO.lists 44 69 T13.aty [] [] Option.none AA, SO.row 22 (Ty.imm (Ty.int IntKind.i64)) (B13.grown 0 (List.take u1 LL))]) ∧ u2 ≤ 12) ∧ ∀ (u3 : Nat), u3 ≤ 12 → br
   (decide ((↑u3 : Int) < (12 : Int))) ((((0 : Int) ≤ (↑u1 : Int) ∧ (0 : Int) ≤ (↑(List.length (List.getD LL u1 []) + u3) : Int) ∧ (0 : Int) ≤ (1 : Int)) ∧ (↑(List.length
   (List.getD LL u1 []) + u3) : Int) ≤ (1000000 : Int) ∧ (1 : Int) ≤ (1000000 : Int)) ∧ ∀ (u4 : List Int), B13.MkOf (↑u1 : Int) (List.length (List.getD LL u1 []) + u3) 1 u4 →
   1 ≤ List.length u4 ∧ List.length (List.getD LL u1 []) + u3 = List.length (List.getD LL u1 [] ++ (zB13c_2 LL u1 u3)) ∧ ((↑(List.length (List.getD LL u1 []) + u3 +
   List.length (List.take 1 (List.drop 0 u4))) : Int) ≤ (9223372036854775807 : Int) ∧ (List.length (List.getD LL u1 []) + u3 + List.length (List.take 1 (List.drop 0 u4))) *
   Sx.bytesOf Go.Proofs.Tryz.prog 3 ≤ 140737488355328) ∧ ∀ (u5 : Bool), True → br u5 ((∃ (u6 : Nat), ([SV.ptr 0 0, SV.sl 4 1 0 u1, SV.lit (Value.int IntKind.i64 (↑u1 : Int)),
   SV.sl 2 1 0 (List.length (List.getD LL u1 []) + u3 + List.length (List.take 1 (List.drop 0 u4))), SV.lit (Value.int IntKind.i64 (IntKind.wrap IntKind.i64 ((↑u3 : Int) + (1
   : Int))))], [SO.cells 62 (zB13c_1 LL AA), SO.lists 22 3 (Ty.int IntKind.i64) (List.take u1 LL) [] (Option.some (2, List.length (List.getD (List.drop u1 LL) 0 [])))
   (List.drop 1 (List.drop u1 LL)), SO.row 3 (Ty.int IntKind.i64) (List.getD LL u1 [] ++ (zB13c_2 LL u1 u3) ++ List.take 1 (List.drop 0 u4)), SO.lists 44 69 T13.aty [] []
   Option.none AA, SO.row 22 (Ty.imm (Ty.int IntKind.i64)) (B13.grown 0 (List.take u1 LL))]) = ([SV.ptr 0 0, SV.sl 4 1 0 u1, SV.lit (Value.int IntKind.i64 (↑u1 : Int)), SV.sl
   2 1 0 (List.length (List.getD LL u1 []) + u6), SV.lit (Value.int IntKind.i64 (↑u6 : Int))], [SO.cells 62 (zB13c_1 LL AA), SO.lists 22 3 (Ty.int IntKind.i64) (List.take u1
   LL) [] (Option.some (2, List.length (List.getD (List.drop u1 LL) 0 []))) (List.drop 1 (List.drop u1 LL)), SO.row 3 (Ty.int IntKind.i64) (List.getD LL u1 [] ++ B13.marks
   (↑u1 : Int) (List.length (List.getD LL u1 [])) u6), SO.lists 44 69 T13.aty [] [] Option.none AA, SO.row 22 (Ty.imm (Ty.int IntKind.i64)) (B13.grown 0 (List.take u1 LL))])
   ∧ u6 ≤ 12 ∧ 12 - u6 < 12 - u3) ∧ True) ((∃ (u7 : Nat), ([SV.ptr 0 0, SV.sl 4 1 0 u1, SV.lit (Value.int IntKind.i64 (↑u1 : Int)), SV.sl 5 1 0 (List.length (List.getD LL u1
   []) + u3 + List.length (List.take 1 (List.drop 0 u4))), SV.lit (Value.int IntKind.i64 (IntKind.wrap IntKind.i64 ((↑u3 : Int) + (1 : Int))))], [SO.cells 62 (zB13c_1 LL AA),
   SO.lists 22 3 (Ty.int IntKind.i64) (List.take u1 LL) [] (Option.some (2, List.length (List.getD (List.drop u1 LL) 0 []))) (List.drop 1 (List.drop u1 LL)), SO.row 3 (Ty.int
   IntKind.i64) (List.getD LL u1 [] ++ (zB13c_2 LL u1 u3)), SO.lists 44 69 T13.aty [] [] Option.none AA, SO.row 22 (Ty.imm (Ty.int IntKind.i64)) (B13.grown 0 (List.take u1
   LL)), SO.row 3 (Ty.int IntKind.i64) (List.getD LL u1 [] ++ (zB13c_2 LL u1 u3) ++ List.take 1 (List.drop 0 u4))]) = ([SV.ptr 0 0, SV.sl 4 1 0 u1, SV.lit (Value.int
   IntKind.i64 (↑u1 : Int)), SV.sl 5 1 0 (List.length (List.getD LL u1 []) + u7), SV.lit (Value.int IntKind.i64 (↑u7 : Int))], [SO.cells 62 (zB13c_1 LL AA), SO.lists 22 3
   (Ty.int IntKind.i64) (List.take u1 LL) [] (Option.some (2, List.length (List.getD (List.drop u1 LL) 0 []))) (List.drop 1 (List.drop u1 LL)), SO.row 3 (Ty.int IntKind.i64)
   (List.getD LL u1 [] ++ (zB13c_2 LL u1 u3)), SO.lists 44 69 T13.aty [] [] Option.none AA, SO.row 22 (Ty.imm (Ty.int IntKind.i64)) (B13.grown 0 (List.take u1 LL)), SO.row 3
   (Ty.int IntKind.i64) (List.getD LL u1 [] ++ B13.marks (↑u1 : Int) (List.length (List.getD LL u1 [])) u7)]) ∧ u7 ≤ 12) ∧ ∀ (u8 : Nat), u8 ≤ 12 → br (decide ((↑u8 : Int) <
   (12 : Int))) ((((0 : Int) ≤ (↑u1 : Int) ∧ (0 : Int) ≤ (↑(List.length (List.getD LL u1 []) + u8) : Int) ∧ (0 : Int) ≤ (1 : Int)) ∧ (↑(List.length (List.getD LL u1 []) + u8)
   : Int) ≤ (1000000 : Int) ∧ (1 : Int) ≤ (1000000 : Int)) ∧ ∀ (u9 : List Int), B13.MkOf (↑u1 : Int) (List.length (List.getD LL u1 []) + u8) 1 u9 → 1 ≤ List.length u9 ∧
   (List.length (List.getD LL u1 []) + u8 = List.length (List.getD LL u1 [] ++ B13.marks (↑u1 : Int) (List.length (List.getD LL u1 [])) u8) ∧ 0 < List.length (List.take 1
   (List.drop 0 u9))) ∧ ((↑(List.length (List.getD LL u1 []) + u8 + List.length (List.take 1 (List.drop 0 u9))) : Int) ≤ (9223372036854775807 : Int) ∧ (List.length (List.getD
   LL u1 []) + u8 + List.length (List.take 1 (List.drop 0 u9))) * Sx.bytesOf Go.Proofs.Tryz.prog 3 ≤ 140737488355328) ∧ (∃ (u10 : Nat), ([SV.ptr 0 0, SV.sl 4 1 0 u1, SV.lit
   (Value.int IntKind.i64 (↑u1 : Int)), SV.sl 5 1 0 (List.length (List.getD LL u1 []) + u8 + List.length (List.take 1 (List.drop 0 u9))), SV.lit (Value.int IntKind.i64
   (IntKind.wrap IntKind.i64 ((↑u8 : Int) + (1 : Int))))], [SO.cells 62 (zB13c_1 LL AA), SO.lists 22 3 (Ty.int IntKind.i64) (List.take u1 LL) [] (Option.some (2, List.length
   (List.getD (List.drop u1 LL) 0 []))) (List.drop 1 (List.drop u1 LL)), SO.row 3 (Ty.int IntKind.i64) (List.getD LL u1 [] ++ (zB13c_2 LL u1 u3)), SO.lists 44 69 T13.aty []
   [] Option.none AA, SO.row 22 (Ty.imm (Ty.int IntKind.i64)) (B13.grown 0 (List.take u1 LL)), SO.row 3 (Ty.int IntKind.i64) (List.getD LL u1 [] ++ B13.marks (↑u1 : Int)
   (List.length (List.getD LL u1 [])) u8 ++ List.take 1 (List.drop 0 u9))]) = ([SV.ptr 0 0, SV.sl 4 1 0 u1, SV.lit (Value.int IntKind.i64 (↑u1 : Int)), SV.sl 5 1 0
   (List.length (List.getD LL u1 []) + u10), SV.lit (Value.int IntKind.i64 (↑u10 : Int))], [SO.cells 62 (zB13c_1 LL AA), SO.lists 22 3 (Ty.int IntKind.i64) (List.take u1 LL)
   [] (Option.some (2, List.length (List.getD (List.drop u1 LL) 0 []))) (List.drop 1 (List.drop u1 LL)), SO.row 3 (Ty.int IntKind.i64) (List.getD LL u1 [] ++ (zB13c_2 LL u1
   u3)), SO.lists 44 69 T13.aty [] [] Option.none AA, SO.row 22 (Ty.imm (Ty.int IntKind.i64)) (B13.grown 0 (List.take u1 LL)), SO.row 3 (Ty.int IntKind.i64) (List.getD LL u1
   [] ++ B13.marks (↑u1 : Int) (List.length (List.getD LL u1 [])) u10)]) ∧ u10 ≤ 12 ∧ 12 - u10 < 12 - u8) ∧ True) ((((0 : Int) ≤ (↑u1 : Int) ∧ (0 : Int) ≤ (↑(List.length
   (List.getD LL u1 []) + u8) : Int) ∧ (0 : Int) ≤ (60 : Int)) ∧ (↑(List.length (List.getD LL u1 []) + u8) : Int) ≤ (1000000 : Int) ∧ (60 : Int) ≤ (1000000 : Int)) ∧ ∀ (u11 :
   List Int), B13.MkOf (↑u1 : Int) (List.length (List.getD LL u1 []) + u8) 60 u11 → 60 ≤ List.length u11 ∧ (List.length (List.getD LL u1 []) + u8 = List.length (List.getD LL
   u1 [] ++ B13.marks (↑u1 : Int) (List.length (List.getD LL u1 [])) u8) ∧ 0 < List.length (List.take 60 (List.drop 0 u11))) ∧ ((↑(List.length (List.getD LL u1 []) + u8 +
   List.length (List.take 60 (List.drop 0 u11))) : Int) ≤ (9223372036854775807 : Int) ∧ (List.length (List.getD LL u1 []) + u8 + List.length (List.take 60 (List.drop 0 u11)))
   * Sx.bytesOf Go.Proofs.Tryz.prog 3 ≤ 140737488355328) ∧ 0 + (List.length (List.getD LL u1 []) + u8 + List.length (List.take 60 (List.drop 0 u11))) ≤ List.length (List.getD
   LL u1 [] ++ B13.marks (↑u1 : Int) (List.length (List.getD LL u1 [])) u8 ++ List.take 60 (List.drop 0 u11)) ∧ 1 ≤ 1 ∧ br (decide (u1 + 1 ≤ List.length (B13.grown 0
   (List.take u1 LL)))) (List.length (List.getD (List.drop u1 LL) 0 []) ≤ List.length (List.getD LL u1 [] ++ (zB13c_2 LL u1 u3)) ∧ (∃ (u12 : Nat), ((zB13c_3 u1), [SO.cells 62
   (zB13c_0 LL AA), SO.lists 22 3 (Ty.int IntKind.i64) (List.take u1 LL ++ [List.take (List.length (List.getD (List.drop u1 LL) 0 [])) (List.getD LL u1 [] ++ (zB13c_2 LL u1
   u3))]) [] Option.none (List.drop 1 (List.drop u1 LL)), SO.lists 44 69 T13.aty [] [] Option.none AA, SO.row 22 (Ty.imm (Ty.int IntKind.i64)) (List.take u1 (B13.grown 0
   (List.take u1 LL)) ++ [List.take (List.length (List.getD LL u1 []) + u8 + List.length (List.take 60 (List.drop 0 u11))) (List.drop 0 (List.getD LL u1 [] ++ B13.marks (↑u1
   : Int) (List.length (List.getD LL u1 [])) u8 ++ List.take 60 (List.drop 0 u11)))] ++ List.drop (u1 + 1) (B13.grown 0 (List.take u1 LL)))]) = ([SV.ptr 0 0, SV.sl 3 1 0 u12,
   SV.lit (Value.int IntKind.i64 (↑u12 : Int))], [SO.cells 62 (zB13c_0 LL AA), SO.lists 22 3 (Ty.int IntKind.i64) (List.take u12 LL) [] Option.none (List.drop u12 LL),
   SO.lists 44 69 T13.aty [] [] Option.none AA, SO.row 22 (Ty.imm (Ty.int IntKind.i64)) (B13.grown 0 (List.take u12 LL))]) ∧ u12 ≤ List.length LL ∧ List.length LL - u12 <
   List.length LL - u1) ∧ True) (u1 ≤ List.length (B13.grown 0 (List.take u1 LL)) ∧ ((↑(u1 + 1) : Int) ≤ (9223372036854775807 : Int) ∧ (u1 + 1) * Sx.bytesOf
   Go.Proofs.Tryz.prog 22 ≤ 140737488355328) ∧ List.length (List.getD (List.drop u1 LL) 0 []) ≤ List.length (List.getD LL u1 [] ++ (zB13c_2 LL u1 u3)) ∧ (∃ (u13 : Nat),
   ((zB13c_3 u1), [SO.cells 62 (zB13c_0 LL AA), SO.lists 22 3 (Ty.int IntKind.i64) (List.take u1 LL ++ [List.take (List.length (List.getD (List.drop u1 LL) 0 [])) (List.getD
   LL u1 [] ++ (zB13c_2 LL u1 u3))]) [] Option.none (List.drop 1 (List.drop u1 LL)), SO.lists 44 69 T13.aty [] [] Option.none AA, SO.row 22 (Ty.imm (Ty.int IntKind.i64))
   (List.take u1 (B13.grown 0 (List.take u1 LL)) ++ [List.take (List.length (List.getD LL u1 []) + u8 + List.length (List.take 60 (List.drop 0 u11))) (List.drop 0 (List.getD
   LL u1 [] ++ B13.marks (↑u1 : Int) (List.length (List.getD LL u1 [])) u8 ++ List.take 60 (List.drop 0 u11)))])]) = ([SV.ptr 0 0, SV.sl 3 1 0 u13, SV.lit (Value.int
   IntKind.i64 (↑u13 : Int))], [SO.cells 62 (zB13c_0 LL AA), SO.lists 22 3 (Ty.int IntKind.i64) (List.take u13 LL) [] Option.none (List.drop u13 LL), SO.lists 44 69 T13.aty
   [] [] Option.none AA, SO.row 22 (Ty.imm (Ty.int IntKind.i64)) (B13.grown 0 (List.take u13 LL))]) ∧ u13 ≤ List.length LL ∧ List.length LL - u13 < List.length LL - u1) ∧
   True)))) ((((0 : Int) ≤ (↑u1 : Int) ∧ (0 : Int) ≤ (↑(List.length (List.getD LL u1 []) + u3) : Int) ∧ (0 : Int) ≤ (60 : Int)) ∧ (↑(List.length (List.getD LL u1 []) + u3) :
   Int) ≤ (1000000 : Int) ∧ (60 : Int) ≤ (1000000 : Int)) ∧ ∀ (u14 : List Int), B13.MkOf (↑u1 : Int) (List.length (List.getD LL u1 []) + u3) 60 u14 → 60 ≤ List.length u14 ∧
   List.length (List.getD LL u1 []) + u3 = List.length (List.getD LL u1 [] ++ (zB13c_2 LL u1 u3)) ∧ ((↑(List.length (List.getD LL u1 []) + u3 + List.length (List.take 60
   (List.drop 0 u14))) : Int) ≤ (9223372036854775807 : Int) ∧ (List.length (List.getD LL u1 []) + u3 + List.length (List.take 60 (List.drop 0 u14))) * Sx.bytesOf
   Go.Proofs.Tryz.prog 3 ≤ 140737488355328) ∧ ∀ (u15 : Bool), True → br u15 (0 + (List.length (List.getD LL u1 []) + u3 + List.length (List.take 60 (List.drop 0 u14))) ≤
   List.length (zB13c_4 LL u1 u3 u14) ∧ 1 ≤ 1 ∧ br (decide (u1 + 1 ≤ List.length (B13.grown 0 (List.take u1 LL)))) (List.length (List.getD (List.drop u1 LL) 0 []) ≤
   List.length (zB13c_4 LL u1 u3 u14) ∧ (∃ (u16 : Nat), ((zB13c_3 u1), [SO.cells 62 (zB13c_0 LL AA), SO.lists 22 3 (Ty.int IntKind.i64) (List.take u1 LL ++ [List.take
   (List.length (List.getD (List.drop u1 LL) 0 [])) (zB13c_4 LL u1 u3 u14)]) [] Option.none (List.drop 1 (List.drop u1 LL)), SO.lists 44 69 T13.aty [] [] Option.none AA,
   SO.row 22 (Ty.imm (Ty.int IntKind.i64)) (List.take u1 (B13.grown 0 (List.take u1 LL)) ++ [List.take (List.length (List.getD LL u1 []) + u3 + List.length (List.take 60
   (List.drop 0 u14))) (List.drop 0 (zB13c_4 LL u1 u3 u14))] ++ List.drop (u1 + 1) (B13.grown 0 (List.take u1 LL)))]) = ([SV.ptr 0 0, SV.sl 3 1 0 u16, SV.lit (Value.int
   IntKind.i64 (↑u16 : Int))], [SO.cells 62 (zB13c_0 LL AA), SO.lists 22 3 (Ty.int IntKind.i64) (List.take u16 LL) [] Option.none (List.drop u16 LL), SO.lists 44 69 T13.aty
   [] [] Option.none AA, SO.row 22 (Ty.imm (Ty.int IntKind.i64)) (B13.grown 0 (List.take u16 LL))]) ∧ u16 ≤ List.length LL ∧ List.length LL - u16 < List.length LL - u1) ∧
   True) (u1 ≤ List.length (B13.grown 0 (List.take u1 LL)) ∧ ((↑(u1 + 1) : Int) ≤ (9223372036854775807 : Int) ∧ (u1 + 1) * Sx.bytesOf Go.Proofs.Tryz.prog 22 ≤
   140737488355328) ∧ List.length (List.getD (List.drop u1 LL) 0 []) ≤ List.length (zB13c_4 LL u1 u3 u14) ∧ (∃ (u17 : Nat), ((zB13c_3 u1), [SO.cells 62 (zB13c_0 LL AA),
   SO.lists 22 3 (Ty.int IntKind.i64) (List.take u1 LL ++ [List.take (List.length (List.getD (List.drop u1 LL) 0 [])) (zB13c_4 LL u1 u3 u14)]) [] Option.none (List.drop 1
   (List.drop u1 LL)), SO.lists 44 69 T13.aty [] [] Option.none AA, SO.row 22 (Ty.imm (Ty.int IntKind.i64)) (List.take u1 (B13.grown 0 (List.take u1 LL)) ++ [List.take
   (List.length (List.getD LL u1 []) + u3 + List.length (List.take 60 (List.drop 0 u14))) (List.drop 0 (zB13c_4 LL u1 u3 u14))])]) = ([SV.ptr 0 0, SV.sl 3 1 0 u17, SV.lit
   (Value.int IntKind.i64 (↑u17 : Int))], [SO.cells 62 (zB13c_0 LL AA), SO.lists 22 3 (Ty.int IntKind.i64) (List.take u17 LL) [] Option.none (List.drop u17 LL), SO.lists 44
   69 T13.aty [] [] Option.none AA, SO.row 22 (Ty.imm (Ty.int IntKind.i64)) (B13.grown 0 (List.take u17 LL))]) ∧ u17 ≤ List.length LL ∧ List.length LL - u17 < List.length LL
   - u1) ∧ True)) (0 + (List.length (List.getD LL u1 []) + u3 + List.length (List.take 60 (List.drop 0 u14))) ≤ List.length (zB13c_4 LL u1 u3 u14) ∧ 1 ≤ 1 ∧ br (decide (u1 +
   1 ≤ List.length (B13.grown 0 (List.take u1 LL)))) (List.length (List.getD (List.drop u1 LL) 0 []) ≤ List.length (List.getD LL u1 [] ++ (zB13c_2 LL u1 u3)) ∧ (∃ (u18 :
   Nat), ((zB13c_3 u1), [SO.cells 62 (zB13c_0 LL AA), SO.lists 22 3 (Ty.int IntKind.i64) (List.take u1 LL ++ [List.take (List.length (List.getD (List.drop u1 LL) 0 []))
   (List.getD LL u1 [] ++ (zB13c_2 LL u1 u3))]) [] Option.none (List.drop 1 (List.drop u1 LL)), SO.lists 44 69 T13.aty [] [] Option.none AA, SO.row 22 (Ty.imm (Ty.int
   IntKind.i64)) (List.take u1 (B13.grown 0 (List.take u1 LL)) ++ [List.take (List.length (List.getD LL u1 []) + u3 + List.length (List.take 60 (List.drop 0 u14))) (List.drop
   0 (zB13c_4 LL u1 u3 u14))] ++ List.drop (u1 + 1) (B13.grown 0 (List.take u1 LL)))]) = ([SV.ptr 0 0, SV.sl 3 1 0 u18, SV.lit (Value.int IntKind.i64 (↑u18 : Int))],
   [SO.cells 62 (zB13c_0 LL AA), SO.lists 22 3 (Ty.int IntKind.i64) (List.take u18 LL) [] Option.none (List.drop u18 LL), SO.lists 44 69 T13.aty [] [] Option.none AA, SO.row
   22 (Ty.imm (Ty.int IntKind.i64)) (B13.grown 0 (List.take u18 LL))]) ∧ u18 ≤ List.length LL ∧ List.length LL - u18 < List.length LL - u1) ∧ True) (u1 ≤ List.length
   (B13.grown 0 (List.take u1 LL)) ∧ ((↑(u1 + 1) : Int) ≤ (9223372036854775807 : Int) ∧ (u1 + 1) * Sx.bytesOf Go.Proofs.Tryz.prog 22 ≤ 140737488355328) ∧ List.length
   (List.getD (List.drop u1 LL) 0 []) ≤ List.length (List.getD LL u1 [] ++ (zB13c_2 LL u1 u3)) ∧ (∃ (u19 : Nat), ((zB13c_3 u1), [SO.cells 62 (zB13c_0 LL AA), SO.lists 22 3
   (Ty.int IntKind.i64) (List.take u1 LL ++ [List.take (List.length (List.getD (List.drop u1 LL) 0 [])) (List.getD LL u1 [] ++ (zB13c_2 LL u1 u3))]) [] Option.none (List.drop
   1 (List.drop u1 LL)), SO.lists 44 69 T13.aty [] [] Option.none AA, SO.row 22 (Ty.imm (Ty.int IntKind.i64)) (List.take u1 (B13.grown 0 (List.take u1 LL)) ++ [List.take
   (List.length (List.getD LL u1 []) + u3 + List.length (List.take 60 (List.drop 0 u14))) (List.drop 0 (zB13c_4 LL u1 u3 u14))])]) = ([SV.ptr 0 0, SV.sl 3 1 0 u19, SV.lit
   (Value.int IntKind.i64 (↑u19 : Int))], [SO.cells 62 (zB13c_0 LL AA), SO.lists 22 3 (Ty.int IntKind.i64) (List.take u19 LL) [] Option.none (List.drop u19 LL), SO.lists 44
   69 T13.aty [] [] Option.none AA, SO.row 22 (Ty.imm (Ty.int IntKind.i64)) (B13.grown 0 (List.take u19 LL))]) ∧ u19 ≤ List.length LL ∧ List.length LL - u19 < List.length LL
   - u1) ∧ True)))) (Q (SV.sl 4 1 0 u1, (zB13c_5 LL AA u1), [1, 2, 1, 2]))) (br (decide ((↑u1 : Int) < (↑(List.length LL) : Int))) (((0 : Int) ≤ (↑u1 : Int) ∧ (↑u1 : Int) <
   (↑(List.length LL) : Int)) ∧ False) (List.length (List.drop u1 LL) = 0 ∧ Q (SV.sl 3 1 0 u1, [SO.cells 62 (zB13c_0 LL AA), SO.row 22 (Ty.imm (Ty.int IntKind.i64))
   (List.take u1 LL), SO.lists 44 69 T13.aty [] [] Option.none AA, SO.row 22 (Ty.imm (Ty.int IntKind.i64)) (B13.grown 0 (List.take u1 LL))], [1, 2])))) (by kernel_rfl) ?_
  delta zB13c_0 zB13c_1 zB13c_2 zB13c_3 zB13c_4 zB13c_5
  have hb1 : bytesOf Tryz.prog 3 = 8 := by kernel_rfl
  have hb2 : bytesOf Tryz.prog 22 = 24 := by kernel_rfl
  rw [hb1, hb2]
  refine ⟨⟨0, rfl, by omega⟩, fun i hi => br_intro (fun hd => ?_) (fun hd => ?_)⟩
  · have hd := of_decide_eq_true hd
    rw [List.length_drop] at hd
    have hi2 : i < LL.length := by omega
    have e := List.drop_eq_getElem_cons hi2
    have eg : LL.getD i [] = LL[i] := by rw [List.getD_eq_getElem?_getD, List.getElem?_eq_getElem hi2]; rfl
    have hlen := hL _ (List.getElem_mem hi2)
    have etk : LL.take (i + 1) = LL.take i ++ [LL[i]] := by rw [List.take_add_one, List.getElem?_eq_getElem hi2]; rfl
    have hgs : grown 0 (LL.take (i + 1)) = grown 0 (LL.take i) ++ [LL[i] ++ marks (i : Int) LL[i].length 72] := by
      rw [etk, grown_snoc, List.length_take, Nat.min_eq_left hi, Nat.zero_add]
    have hml := grown_len 0 (LL.take i)
    have htl : (LL.take i).length = i := by rw [List.length_take]; omega
    rw [htl] at hml
    rw [e, eg]
    simp only [List.getD_cons_zero, List.drop_succ_cons, List.drop_zero, List.drop_drop]
    generalize LL[i] = R at *
    have hml2 : ∀ (a : Int) (k n : Nat), (marks a k n).length = n := marks_len
    have one : ∀ k, marks (i : Int) R.length (k + 1) = marks (i : Int) R.length k ++ marks (i : Int) (R.length + k) 1 := fun k => marks_append _ _ _ _
    have h72 : marks (i : Int) R.length 72 = marks (i : Int) R.length 12 ++ marks (i : Int) (R.length + 12) 60 := marks_append _ _ 12 60
    have t1 : ∀ (a : Int) (k n : Nat), (marks a k n).take n = marks a k n := fun a k n => List.take_of_length_le (by rw [hml2]; exact Nat.le_refl _)
    have tR : ∀ X : List Int, (R ++ X).take R.length = R := fun X => List.take_left
    have w1 : ∀ n : Nat, n ≤ 2000 → IntKind.i64.wrap ((n : Int) + 1) = ((n + 1 : Nat) : Int) := fun n hn => wrap1 n (by omega)
    have tX : (R ++ marks (i : Int) R.length 12 ++ marks (i : Int) (R.length + 12) 60).take (R.length + 12 + 60) = R ++ marks (i : Int) R.length 72 := by
      rw [h72, ← List.append_assoc]
      exact List.take_of_length_le (by rw [List.length_append, List.length_append, hml2, hml2]; omega)
    generalize grown 0 (LL.take i) = G at *
    have hG : G.take i = G := List.take_of_length_le (by omega)
    refine br_intro (fun hlt => ⟨by omega, by omega, ⟨0, by simp [marks], by omega⟩, fun k hk => br_intro (fun hk2 => ⟨⟨by omega, by omega, by omega⟩, fun l hl => ?_⟩) (fun hk2 => ⟨⟨by omega, by omega, by omega⟩, fun l hl => ?_⟩)⟩) (fun hge => by have := of_decide_eq_false hge; omega)
    · have hk2 := of_decide_eq_true hk2
      obtain rfl := hl.eq
      rw [t1 i (R.length + k) 1, hml2 i (R.length + k) 1]
      refine ⟨by omega, by rw [List.length_append, hml2], ⟨by omega, by omega⟩, fun c _ => br_intro (fun _ => ⟨⟨k + 1, ?_, by omega, by omega⟩, trivial⟩) (fun _ => ⟨⟨k + 1, ?_, by omega⟩, fun j hj => br_intro (fun hj2 => ⟨⟨by omega, by omega, by omega⟩, fun l hl => ?_⟩) (fun hj2 => ⟨⟨by omega, by omega, by omega⟩, fun l hl => ?_⟩)⟩)⟩
      · rw [w1 k (by omega), one k, List.append_assoc]; rfl
      · rw [w1 k (by omega), one k, List.append_assoc]; rfl
      · have hj2 := of_decide_eq_true hj2
        obtain rfl := hl.eq
        rw [t1 i (R.length + j) 1, hml2 i (R.length + j) 1]
        refine ⟨by omega, ⟨by rw [List.length_append, hml2], by omega⟩, ⟨by omega, by omega⟩, ⟨j + 1, ?_, by omega, by omega⟩, trivial⟩
        rw [w1 j (by omega), one j, List.append_assoc]; rfl
      · have hj2 := of_decide_eq_false hj2
        have : j = 12 := by omega
        subst this
        obtain rfl := hl.eq
        rw [t1 i (R.length + 12) 60, hml2 i (R.length + 12) 60]
        refine ⟨by omega, ⟨by rw [List.length_append, hml2], by omega⟩, ⟨by omega, by omega⟩, by rw [List.length_append, List.length_append, hml2, hml2]; omega, by omega, br_intro (fun h => by have := of_decide_eq_true h; omega) (fun _ => ⟨by omega, ⟨by omega, by omega⟩, by rw [List.length_append]; omega, ⟨i + 1, ?_, by omega, by omega⟩, trivial⟩)⟩
        rw [w1 i (by omega), hgs, etk, tR, tX, hG]
    · have hk2 := of_decide_eq_false hk2
      have : k = 12 := by omega
      subst this
      obtain rfl := hl.eq
      rw [t1 i (R.length + 12) 60, hml2 i (R.length + 12) 60]
      refine ⟨by omega, by rw [List.length_append, hml2], ⟨by omega, by omega⟩, fun c _ => br_intro (fun _ => ?_) (fun _ => ?_)⟩
      · refine ⟨by rw [List.length_append, List.length_append, hml2, hml2]; omega, by omega, br_intro (fun h => by have := of_decide_eq_true h; omega) (fun _ => ⟨by omega, ⟨by omega, by omega⟩, by rw [List.length_append, List.length_append]; omega, ⟨i + 1, ?_, by omega, by omega⟩, trivial⟩)⟩
        rw [w1 i (by omega), hgs, etk, tX, hG, List.append_assoc R, tR]
      · refine ⟨by rw [List.length_append, List.length_append, hml2, hml2]; omega, by omega, br_intro (fun h => by have := of_decide_eq_true h; omega) (fun _ => ⟨by omega, ⟨by omega, by omega⟩, by rw [List.length_append]; omega, ⟨i + 1, ?_, by omega, by omega⟩, trivial⟩)⟩
        rw [w1 i (by omega), hgs, etk, tR, tX, hG]
  · have hd := of_decide_eq_false hd
    rw [List.length_drop] at hd
    have : i = LL.length := by omega
    subst this
    refine br_intro (fun h => by have := of_decide_eq_true h; omega) (fun _ => ⟨by rw [List.length_drop]; omega, ?_⟩)
    rw [List.take_length]
    exact hq
noncomputable def s49 : Summ := fun args H => match args, H with
  | [.ptr 0 0], [.cells 62 cs, .lists 22 3 (.int .i64) [] [] none LL, .lists 44 69 (Ty.pair (Ty.int IntKind.i64) (Ty.pair (Ty.int IntKind.i32) (Ty.pair (Ty.int IntKind.i64) (Ty.pair (Ty.int IntKind.i64) (Ty.pair (Ty.imm (Ty.int IntKind.i64)) (Ty.pair Ty.str Ty.str)))))) [] [] none AA] => .need ((LL.length ≤ 1000 ∧ ∀ l ∈ LL, l.length ≤ 900000) ∧ cs = bk (.sl 1 1 0 LL.length) .junk (.sl 2 1 0 AA.length) .junk)
      (.ret (.sl 3 1 0 LL.length, [.cells 62 cs, .row 22 (.imm (.int .i64)) LL, .lists 44 69 aty [] [] none AA, .row 22 (.imm (.int .i64)) (grown 0 LL)], [1, 2]))
  | _, _ => .fail
theorem s49_ok : SummOK Tryz.prog 40 s49 := by
  refine summ_of_body (fn := Tryz.f40) (c := Tryz.f40.body.get!) K3_ok (by kernel_rfl) (by kernel_rfl) (by kernel_rfl) fun args H Q h => ?_
  unfold s49 at h
  split at h
  · rename_i cs LL AA
    simp only [Tree.Leads] at h
    obtain ⟨⟨⟨h1, h2⟩, rfl⟩, hq⟩ := h
    exact ⟨_, v49 LL AA Q h1 h2 hq⟩
  · simp only [Tree.Leads] at h
/-- Are these all marks? -/
noncomputable def A57 (n : Nat) : Ann := { live := [0, 3], mv := [], head := fun vals H => match vals with | [a, _] => { X := Nat, inv := fun i => ([a, .lit (.int .i64 i)], H), ok := fun i => i ≤ n, mu := fun i => n - i } | _ => { X := Nat, inv := fun _ => ([], []), ok := fun _ => False, mu := fun _ => 0 } }
noncomputable abbrev zB13c_6 (G : List (List Int)) (u1 : Nat) := (List.getD G (0 + u1) (Ty.dflt (Ty.imm (Ty.int IntKind.i64))))
theorem v57 (G : List (List Int)) (Q : SV × Heap × List Nat → Prop) (hn : G.length ≤ 1000) (hL : ∀ l ∈ G, l.length ≤ 1000000) (hm : ∀ (i : Nat) (h : i < G.length), G[i] = marks i 0 G[i].length)
    (hq : Q (.lit (.bool true), [.row 22 (.imm (.int .i64)) G], [])) :
    (bodySumm K2 Tryz.prog Tryz.f48 (An1 0 (A57 G.length)) [.sl 0 1 0 G.length] [.row 22 (.imm (.int .i64)) G]).Leads Q := by
  refine Sx.by_text (q :=
   (∃ (u0 : Nat), ([SV.sl 0 1 0 (List.length G), SV.lit (Value.int IntKind.i64 (0 : Int))], [SO.row 22 (Ty.imm (Ty.int IntKind.i64)) G]) = ([SV.sl 0 1 0 (List.length G),
   SV.lit (Value.int IntKind.i64 (↑u0 : Int))], [SO.row 22 (Ty.imm (Ty.int IntKind.i64)) G]) ∧ u0 ≤ List.length G) ∧ ∀ (u1 : Nat), u1 ≤ List.length G → br (decide ((↑u1 :
   Int) < (↑(List.length G) : Int))) (((0 : Int) ≤ (↑u1 : Int) ∧ (↑u1 : Int) < (↑(List.length G) : Int)) ∧ ((0 : Int) ≤ (↑u1 : Int) ∧ (↑u1 : Int) < (↑(List.length G) : Int))
   ∧ 0 + u1 < List.length G ∧ ∀ (u2 : Bool), True → br u2 (0 + u1 < List.length G ∧ (((0 : Int) ≤ (↑u1 : Int) ∧ (0 : Int) ≤ (0 : Int) ∧ (0 : Int) ≤ (↑(List.length (zB13c_6 G
   u1)) : Int)) ∧ (0 : Int) ≤ (1000000 : Int) ∧ (↑(List.length (zB13c_6 G u1)) : Int) ≤ (1000000 : Int)) ∧ (List.length (zB13c_6 G u1) ≤ 1000000 ∧ 0 + List.length (zB13c_6 G
   u1) ≤ List.length (B13.marks (↑u1 : Int) 0 (List.length (zB13c_6 G u1)))) ∧ br (!decide (List.getD G (0 + u1) (Ty.dflt (Ty.imm (Ty.int IntKind.i64))) = List.take
   (List.length (zB13c_6 G u1)) (List.drop 0 (B13.marks (↑u1 : Int) 0 (List.length (zB13c_6 G u1)))))) (Q (SV.lit (Value.bool false), [SO.row 22 (Ty.imm (Ty.int IntKind.i64))
   G], [])) ((∃ (u3 : Nat), ([SV.sl 0 1 0 (List.length G), SV.lit (Value.int IntKind.i64 (IntKind.wrap IntKind.i64 ((↑u1 : Int) + (1 : Int))))], [SO.row 22 (Ty.imm (Ty.int
   IntKind.i64)) G]) = ([SV.sl 0 1 0 (List.length G), SV.lit (Value.int IntKind.i64 (↑u3 : Int))], [SO.row 22 (Ty.imm (Ty.int IntKind.i64)) G]) ∧ u3 ≤ List.length G ∧
   List.length G - u3 < List.length G - u1) ∧ True)) ((((0 : Int) ≤ (↑u1 : Int) ∧ (0 : Int) ≤ (0 : Int) ∧ (0 : Int) ≤ (↑(List.length (zB13c_6 G u1)) : Int)) ∧ (0 : Int) ≤
   (1000000 : Int) ∧ (↑(List.length (zB13c_6 G u1)) : Int) ≤ (1000000 : Int)) ∧ 0 + u1 < List.length G ∧ (List.length (zB13c_6 G u1) ≤ 1000000 ∧ 0 + List.length (zB13c_6 G
   u1) ≤ List.length (B13.marks (↑u1 : Int) 0 (List.length (zB13c_6 G u1)))) ∧ br (!decide (List.getD G (0 + u1) (Ty.dflt (Ty.imm (Ty.int IntKind.i64))) = List.take
   (List.length (zB13c_6 G u1)) (List.drop 0 (B13.marks (↑u1 : Int) 0 (List.length (zB13c_6 G u1)))))) (Q (SV.lit (Value.bool false), [SO.row 22 (Ty.imm (Ty.int IntKind.i64))
   G], [])) ((∃ (u4 : Nat), ([SV.sl 0 1 0 (List.length G), SV.lit (Value.int IntKind.i64 (IntKind.wrap IntKind.i64 ((↑u1 : Int) + (1 : Int))))], [SO.row 22 (Ty.imm (Ty.int
   IntKind.i64)) G]) = ([SV.sl 0 1 0 (List.length G), SV.lit (Value.int IntKind.i64 (↑u4 : Int))], [SO.row 22 (Ty.imm (Ty.int IntKind.i64)) G]) ∧ u4 ≤ List.length G ∧
   List.length G - u4 < List.length G - u1) ∧ True))) (Q (SV.lit (Value.bool true), [SO.row 22 (Ty.imm (Ty.int IntKind.i64)) G], []))) (by kernel_rfl) ?_
  delta zB13c_6
  refine ⟨⟨0, rfl, by omega⟩, fun i hi => br_intro (fun hlt => ?_) (fun _ => hq)⟩
  have hlt := of_decide_eq_true hlt
  have hi2 : i < G.length := by omega
  have eg : G.getD (0 + i) (Ty.imm (.int .i64)).dflt = G[i] := by rw [Nat.zero_add, List.getD_eq_getElem?_getD, List.getElem?_eq_getElem hi2]; rfl
  rw [eg]
  have h1 := hL _ (List.getElem_mem hi2)
  have h2 := hm i hi2
  generalize G[i] = R at *
  have ht : ((marks (i : Int) 0 R.length).drop 0).take R.length = R := by rw [List.drop_zero, ← h2]; exact List.take_of_length_le (Nat.le_refl _)
  have hl2 := marks_len (i : Int) 0 R.length
  have fin : br (!decide (R = List.take R.length (List.drop 0 (marks (i : Int) 0 R.length)))) (Q (SV.lit (Value.bool false), [SO.row 22 (Ty.int IntKind.i64).imm G], [])) ((∃ x', ([SV.sl 0 1 0 G.length, SV.lit (Value.int IntKind.i64 (IntKind.i64.wrap (i + 1)))], [SO.row 22 (Ty.int IntKind.i64).imm G]) = ([SV.sl 0 1 0 G.length, SV.lit (Value.int IntKind.i64 (x' : Nat))], [SO.row 22 (Ty.int IntKind.i64).imm G]) ∧ x' ≤ G.length ∧ G.length - x' < G.length - i) ∧ True) := by
    rw [ht]
    refine br_intro (fun g => by simp at g) (fun _ => ⟨⟨i + 1, by rw [wrap1 i (by omega)], by omega, by omega⟩, trivial⟩)
  exact ⟨by omega, by omega, by omega, fun b _ => br_intro (fun _ => ⟨by omega, by omega, by omega, fin⟩) (fun _ => ⟨by omega, by omega, by omega, fin⟩)⟩
noncomputable def s57 : Summ := fun args H => match args, H with
  | [.sl 0 1 0 n], [.row 22 (.imm (.int .i64)) G] => .need (n = G.length ∧ (G.length ≤ 1000 ∧ ∀ l ∈ G, l.length ≤ 1000000) ∧ ∀ (i : Nat) (h : i < G.length), G[i] = marks i 0 G[i].length) (.ret (.lit (.bool true), [.row 22 (.imm (.int .i64)) G], []))
  | _, _ => .fail
theorem s57_ok : SummOK Tryz.prog 48 s57 := by
  refine summ_of_body (fn := Tryz.f48) (c := Tryz.f48.body.get!) K2_ok (by kernel_rfl) (by kernel_rfl) (by kernel_rfl) fun args H Q h => ?_
  unfold s57 at h
  split at h
  · rename_i n G
    simp only [Tree.Leads] at h
    obtain ⟨⟨rfl, ⟨h1, h2⟩, h3⟩, hq⟩ := h
    exact ⟨_, v57 G Q h1 h2 h3 hq⟩
  · simp only [Tree.Leads] at h
end B13
end
section
open Go Sx Go.Proofs
open T13 (aty)
namespace B13
set_option maxRecDepth 100000
set_option maxHeartbeats 40000000
attribute [local irreducible] Tree.Leads
attribute [local irreducible] marks
theorem marked_get : ∀ (l : List (List Int)) (k i : Nat) (h : i < (marked k l).length) (h' : i < l.length), (marked k l)[i] = marks ((k + i : Nat) : Int) 0 l[i].length
  | [], _, _, h, _ => by cases h
  | x :: l, k, 0, _, _ => rfl
  | x :: l, k, i + 1, h, h' => by
    simp only [marked, List.getElem_cons_succ]
    rw [marked_get l (k + 1) i _ (Nat.lt_of_succ_lt_succ h'), show k + 1 + i = k + (i + 1) by omega]
theorem grown_get : ∀ (l : List (List Int)) (k i : Nat) (h : i < (grown k l).length) (h' : i < l.length), (grown k l)[i] = l[i] ++ marks ((k + i : Nat) : Int) l[i].length 72
  | [], _, _, h, _ => by cases h
  | x :: l, k, 0, _, _ => rfl
  | x :: l, k, i + 1, h, h' => by
    simp only [grown, List.getElem_cons_succ]
    rw [grown_get l (k + 1) i _ (Nat.lt_of_succ_lt_succ h'), show k + 1 + i = k + (i + 1) by omega]
theorem marked_ok (LL : List (List Int)) (i : Nat) (h : i < (marked 0 LL).length) : (marked 0 LL)[i] = marks i 0 (marked 0 LL)[i].length := by
  have h' : i < LL.length := by rw [marked_len] at h; exact h
  have e := marked_get LL 0 i h h'
  rw [Nat.zero_add] at e
  have el : ((marked 0 LL)[i]).length = LL[i].length := by rw [e, marks_len]
  rw [el]; exact e
theorem grown_ok (LL : List (List Int)) (i : Nat) (h : i < (grown 0 (marked 0 LL)).length) : (grown 0 (marked 0 LL))[i] = marks i 0 (grown 0 (marked 0 LL))[i].length := by
  have h' : i < (marked 0 LL).length := by rw [grown_len] at h; exact h
  have e := grown_get (marked 0 LL) 0 i h h'
  have em := marked_ok LL i h'
  rw [Nat.zero_add] at e
  generalize (marked 0 LL)[i] = M at *
  have el : ((grown 0 (marked 0 LL))[i]).length = M.length + 72 := by rw [e, List.length_append, marks_len]
  rw [el, marks_append, ← em, Nat.zero_add]; exact e
theorem mem_get {α : Type} {l : List α} {x : α} (h : x ∈ l) : ∃ (i : Nat) (hi : i < l.length), x = l[i] := by
  obtain ⟨i, hi, e⟩ := List.getElem_of_mem h
  exact ⟨i, hi, e.symm⟩
theorem marked_small (LL : List (List Int)) {n : Nat} (hL : ∀ l ∈ LL, l.length ≤ n) : ∀ l ∈ marked 0 LL, l.length ≤ n := fun l hl => by
  obtain ⟨i, hi, rfl⟩ := mem_get hl
  have h' : i < LL.length := by rw [marked_len] at hi; exact hi
  rw [marked_get LL 0 i hi h', marks_len]
  exact hL _ (List.getElem_mem h')
theorem grown_small (LL : List (List Int)) {n : Nat} (hL : ∀ l ∈ LL, l.length ≤ n) : ∀ l ∈ grown 0 LL, l.length ≤ n + 72 := fun l hl => by
  obtain ⟨i, hi, rfl⟩ := mem_get hl
  have h' : i < LL.length := by rw [grown_len] at hi; exact hi
  rw [grown_get LL 0 i hi h', List.length_append, marks_len]
  have := hL _ (List.getElem_mem h')
  omega
end B13
end
