/- Part of a proof: the walks of the functions that the law calls, and their plain laws; no condition. -/
import Derived.Test.YtlcobcpgaoeijaaGreatSxT
import Derived.Test.YtlcobcpgaoeijaaGreatM1
import Derived.Test.YtlcobcpgaoeijaaGreatM16
import Derived.Test.YtlcobcpgaoeijaaGreatM15
import Derived.Test.YtlcobcpgaoeijaaGreatM20
set_option linter.unusedVariables false
set_option linter.unusedSimpArgs false
section
open Go Sx Go.Proofs
open T13 (aty)
namespace B13
set_option maxRecDepth 100000
set_option maxHeartbeats 40000000
attribute [local irreducible] Tree.Leads
/-- Marks in one list. -/
noncomputable def B43 : Ann := { live := [0, 2, 3, 4], mv := [1, 2], head := fun vals H => match vals, H with | [a, i, s, _], [c, l, .row 3 (.int .i64) R, x, .row 3 (.int .i64) M] => { X := Nat, inv := fun k => ([a, i, s, .lit (.int .i64 k)], [c, l, .row 3 (.int .i64) (M.take k ++ R.drop k), x, .row 3 (.int .i64) M]), ok := fun k => k ≤ M.length, mu := fun k => M.length - k } | _, _ => { X := Nat, inv := fun _ => ([], []), ok := fun _ => False, mu := fun _ => 0 } }
def marked (i : Nat) : List (List Int) → List (List Int)
  | [] => []
  | l :: r => marks i 0 l.length :: marked (i + 1) r
noncomputable def A43 (LL : List (List Int)) (AA : List (List aty.den)) : Ann := { live := [0, 2], mv := [1, 2], hook := 1, hk2 := 3, head := fun _ _ => { X := Nat, inv := fun i => ([.ptr 0 0, .lit (.int .i64 i)], [.cells 62 (bk (.sl 1 1 0 LL.length) .junk (.sl 2 1 0 AA.length) .junk), .lists 22 3 (.int .i64) [] (marked 0 (LL.take i)) none (LL.drop i), .lists 44 69 aty [] [] none AA]), ok := fun i => i ≤ LL.length, mu := fun i => LL.length - i } }
theorem marked_len (i : Nat) : ∀ l, (marked i l).length = l.length
  | [] => rfl
  | x :: l => by simp only [marked, List.length_cons, marked_len (i + 1) l]
theorem marked_snoc (x : List Int) : ∀ (l : List (List Int)) (i : Nat), marked i (l ++ [x]) = marked i l ++ [marks ((i + l.length : Nat) : Int) 0 x.length]
  | [], i => rfl
  | y :: l, i => by
    simp only [List.cons_append, marked, marked_snoc x l (i + 1), List.length_cons]
    rw [show i + 1 + l.length = i + (l.length + 1) by omega]
theorem set_step {α : Type} {M R : List α} {k : Nat} (d : α) (h : M.length = R.length) (hk : k < R.length) : (M.take k ++ R.drop k).set (0 + k) (M.getD (0 + k) d) = M.take (k + 1) ++ R.drop (k + 1) := by
  have hl : (M.take k).length = k := by rw [List.length_take]; omega
  rw [Nat.zero_add, List.set_append_right _ _ (by omega), hl, Nat.sub_self, List.drop_eq_getElem_cons hk, List.set_cons_zero, List.take_add_one, List.getElem?_eq_getElem (by omega), List.getD_eq_getElem?_getD, List.getElem?_eq_getElem (by omega)]
  simp only [Option.getD, Option.toList, List.append_assoc, List.cons_append, List.nil_append]
noncomputable def Z4 : Ann := { live := [], mv := [], head := fun _ _ => { X := Nat, inv := fun _ => ([], []), ok := fun _ => False, mu := fun _ => 0 }, hook := 4, hk2 := 3 }
noncomputable abbrev zB13b_0 (LL : List (List Int)) (AA : List (List aty.den)) := [SV.lit (Value.slice Option.none 0 0), SV.lit (Value.slice Option.none 0 0), SV.sl 1 1 0 (List.length LL), SV.junk, SV.lit (Value.slice Option.none 0 0), SV.lit (Value.slice Option.none 0 0), SV.lit (Value.slice Option.none 0 0), SV.lit (Value.slice Option.none 0 0), SV.sl 2 1 0 (List.length AA), SV.junk, SV.lit (Value.slice Option.none 0 0), SV.lit (Value.slice Option.none 0 0), SV.lit (Value.slice Option.none 0 0), SV.lit (Value.slice Option.none 0 0), SV.lit (Value.slice Option.none 0 0), SV.lit (Value.slice Option.none 0 0)]
noncomputable abbrev zB13b_1 (LL : List (List Int)) (AA : List (List aty.den)) := [SV.lit (Value.slice Option.none 0 0), SV.lit (Value.slice Option.none 0 0), SV.sl 1 1 0 (List.length LL), SV.junk, SV.lit (Value.slice Option.none 0 0), SV.lit (Value.slice Option.none 0 0), SV.lit (Value.slice Option.none 0 0), SV.lit (Value.slice Option.none 0 0), SV.sl 3 1 0 (List.length AA), SV.junk, SV.lit (Value.slice Option.none 0 0), SV.lit (Value.slice Option.none 0 0), SV.lit (Value.slice Option.none 0 0), SV.lit (Value.slice Option.none 0 0), SV.lit (Value.slice Option.none 0 0), SV.lit (Value.slice Option.none 0 0)]
noncomputable abbrev zB13b_2 (LL : List (List Int)) (u1 : Nat) := (B13.marks (↑u1 : Int) 0 (List.length (List.getD (List.drop u1 LL) 0 [])))
theorem v43 (LL : List (List Int)) (AA : List (List aty.den)) (Q : SV × Heap × List Nat → Prop) (hn : LL.length ≤ 1000) (hL : ∀ l ∈ LL, l.length ≤ 1000000)
    (hq : Q (.tup [], [.cells 62 (bk (.sl 1 1 0 LL.length) .junk (.sl 2 1 0 AA.length) .junk), .lists 22 3 (.int .i64) [] [] none (marked 0 LL), .lists 44 69 aty [] [] none AA], [1, 2])) :
    (bodySumm K2 Tryz.prog Tryz.f34 (An3 0 (A43 LL AA) 2 B43 999999 Z4) [.ptr 0 0] [.cells 62 (bk (.sl 1 1 0 LL.length) .junk (.sl 2 1 0 AA.length) .junk), .lists 22 3 (.int .i64) [] [] none LL, .lists 44 69 aty [] [] none AA]).Leads Q := by
  refine Sx.by_text (q :=
   (∃ (u0 : Nat), ([SV.ptr 0 0, SV.lit (Value.int IntKind.i64 (0 : Int))], [SO.cells 62 (zB13b_0 LL AA), SO.lists 22 3 (Ty.int IntKind.i64) [] [] Option.none LL, SO.lists 44
   69 T13.aty [] [] Option.none AA]) = ([SV.ptr 0 0, SV.lit (Value.int IntKind.i64 (↑u0 : Int))], [SO.cells 62 (zB13b_0 LL AA), SO.lists 22 3 (Ty.int IntKind.i64) []
   (B13.marked 0 (List.take u0 LL)) Option.none (List.drop u0 LL), SO.lists 44 69 T13.aty [] [] Option.none AA]) ∧ u0 ≤ List.length LL) ∧ ∀ (u1 : Nat), u1 ≤ List.length LL →
   br (decide (0 < List.length (List.drop u1 LL))) (br (decide ((↑u1 : Int) < (↑(List.length LL) : Int))) (((0 : Int) ≤ (↑u1 : Int) ∧ (↑u1 : Int) < (↑(List.length LL) : Int))
   ∧ 0 + u1 = 0 + List.length (B13.marked 0 (List.take u1 LL)) ∧ (((0 : Int) ≤ (↑u1 : Int) ∧ (0 : Int) ≤ (0 : Int) ∧ (0 : Int) ≤ (↑(List.length (List.getD (List.drop u1 LL) 0
   [])) : Int)) ∧ (0 : Int) ≤ (1000000 : Int) ∧ (↑(List.length (List.getD (List.drop u1 LL) 0 [])) : Int) ≤ (1000000 : Int)) ∧ (∃ (u2 : Nat), ([SV.ptr 0 0, SV.lit (Value.int
   IntKind.i64 (↑u1 : Int)), SV.sl 4 1 0 (List.length (List.getD (List.drop u1 LL) 0 [])), SV.lit (Value.int IntKind.i64 (0 : Int))], [SO.cells 62 (zB13b_1 LL AA), SO.lists
   22 3 (Ty.int IntKind.i64) [] (B13.marked 0 (List.take u1 LL)) (Option.some (2, List.length (List.getD (List.drop u1 LL) 0 []))) (List.drop 1 (List.drop u1 LL)), SO.row 3
   (Ty.int IntKind.i64) (List.getD (List.drop u1 LL) 0 []), SO.lists 44 69 T13.aty [] [] Option.none AA, SO.row 3 (Ty.int IntKind.i64) (zB13b_2 LL u1)]) = ([SV.ptr 0 0,
   SV.lit (Value.int IntKind.i64 (↑u1 : Int)), SV.sl 4 1 0 (List.length (List.getD (List.drop u1 LL) 0 [])), SV.lit (Value.int IntKind.i64 (↑u2 : Int))], [SO.cells 62
   (zB13b_1 LL AA), SO.lists 22 3 (Ty.int IntKind.i64) [] (B13.marked 0 (List.take u1 LL)) (Option.some (2, List.length (List.getD (List.drop u1 LL) 0 []))) (List.drop 1
   (List.drop u1 LL)), SO.row 3 (Ty.int IntKind.i64) (List.take u2 (zB13b_2 LL u1) ++ List.drop u2 (List.getD (List.drop u1 LL) 0 [])), SO.lists 44 69 T13.aty [] []
   Option.none AA, SO.row 3 (Ty.int IntKind.i64) (zB13b_2 LL u1)]) ∧ u2 ≤ List.length (zB13b_2 LL u1)) ∧ ∀ (u3 : Nat), u3 ≤ List.length (zB13b_2 LL u1) → br (decide ((↑u3 :
   Int) < (↑(List.length (List.getD (List.drop u1 LL) 0 [])) : Int))) (((0 : Int) ≤ (↑u1 : Int) ∧ (↑u1 : Int) < (↑(List.length LL) : Int)) ∧ 0 + u1 = 0 + List.length
   (B13.marked 0 (List.take u1 LL)) ∧ ((0 : Int) ≤ (↑u3 : Int) ∧ (↑u3 : Int) < (↑(List.length (List.getD (List.drop u1 LL) 0 [])) : Int)) ∧ 0 + u3 < List.length (zB13b_2 LL
   u1) ∧ ((0 : Int) ≤ (↑u3 : Int) ∧ (↑u3 : Int) < (↑(List.length (List.getD (List.drop u1 LL) 0 [])) : Int)) ∧ 0 + u3 < List.length (List.take u3 (zB13b_2 LL u1) ++ List.drop
   u3 (List.getD (List.drop u1 LL) 0 [])) ∧ (∃ (u4 : Nat), ([SV.ptr 0 0, SV.lit (Value.int IntKind.i64 (↑u1 : Int)), SV.sl 4 1 0 (List.length (List.getD (List.drop u1 LL) 0
   [])), SV.lit (Value.int IntKind.i64 (IntKind.wrap IntKind.i64 ((↑u3 : Int) + (1 : Int))))], [SO.cells 62 (zB13b_1 LL AA), SO.lists 22 3 (Ty.int IntKind.i64) [] (B13.marked
   0 (List.take u1 LL)) (Option.some (2, List.length (List.getD (List.drop u1 LL) 0 []))) (List.drop 1 (List.drop u1 LL)), SO.row 3 (Ty.int IntKind.i64) (List.set (List.take
   u3 (zB13b_2 LL u1) ++ List.drop u3 (List.getD (List.drop u1 LL) 0 [])) (0 + u3) (List.getD (zB13b_2 LL u1) (0 + u3) (Ty.dflt (Ty.int IntKind.i64)))), SO.lists 44 69
   T13.aty [] [] Option.none AA, SO.row 3 (Ty.int IntKind.i64) (zB13b_2 LL u1)]) = ([SV.ptr 0 0, SV.lit (Value.int IntKind.i64 (↑u1 : Int)), SV.sl 4 1 0 (List.length
   (List.getD (List.drop u1 LL) 0 [])), SV.lit (Value.int IntKind.i64 (↑u4 : Int))], [SO.cells 62 (zB13b_1 LL AA), SO.lists 22 3 (Ty.int IntKind.i64) [] (B13.marked 0
   (List.take u1 LL)) (Option.some (2, List.length (List.getD (List.drop u1 LL) 0 []))) (List.drop 1 (List.drop u1 LL)), SO.row 3 (Ty.int IntKind.i64) (List.take u4 (zB13b_2
   LL u1) ++ List.drop u4 (List.getD (List.drop u1 LL) 0 [])), SO.lists 44 69 T13.aty [] [] Option.none AA, SO.row 3 (Ty.int IntKind.i64) (zB13b_2 LL u1)]) ∧ u4 ≤ List.length
   (zB13b_2 LL u1) ∧ List.length (zB13b_2 LL u1) - u4 < List.length (zB13b_2 LL u1) - u3) ∧ True) (List.length (List.getD (List.drop u1 LL) 0 []) ≤ List.length (List.take u3
   (zB13b_2 LL u1) ++ List.drop u3 (List.getD (List.drop u1 LL) 0 [])) ∧ (∃ (u5 : Nat), ([SV.ptr 0 0, SV.lit (Value.int IntKind.i64 (IntKind.wrap IntKind.i64 ((↑u1 : Int) +
   (1 : Int))))], [SO.cells 62 (zB13b_0 LL AA), SO.lists 22 3 (Ty.int IntKind.i64) [] (B13.marked 0 (List.take u1 LL) ++ [List.take (List.length (List.getD (List.drop u1 LL)
   0 [])) (List.take u3 (zB13b_2 LL u1) ++ List.drop u3 (List.getD (List.drop u1 LL) 0 []))]) Option.none (List.drop 1 (List.drop u1 LL)), SO.lists 44 69 T13.aty [] []
   Option.none AA]) = ([SV.ptr 0 0, SV.lit (Value.int IntKind.i64 (↑u5 : Int))], [SO.cells 62 (zB13b_0 LL AA), SO.lists 22 3 (Ty.int IntKind.i64) [] (B13.marked 0 (List.take
   u5 LL)) Option.none (List.drop u5 LL), SO.lists 44 69 T13.aty [] [] Option.none AA]) ∧ u5 ≤ List.length LL ∧ List.length LL - u5 < List.length LL - u1) ∧ True)) (Q (SV.tup
   ([] : List Sx.SV), [SO.cells 62 (zB13b_1 LL AA), SO.lists 22 3 (Ty.int IntKind.i64) [] (B13.marked 0 (List.take u1 LL)) (Option.some (2, List.length (List.getD (List.drop
   u1 LL) 0 []))) (List.drop 1 (List.drop u1 LL)), SO.row 3 (Ty.int IntKind.i64) (List.getD (List.drop u1 LL) 0 []), SO.lists 44 69 T13.aty [] [] Option.none AA], [1, 2, 1,
   2]))) (br (decide ((↑u1 : Int) < (↑(List.length LL) : Int))) (((0 : Int) ≤ (↑u1 : Int) ∧ (↑u1 : Int) < (↑(List.length LL) : Int)) ∧ False) (List.length (List.drop u1 LL) =
   0 ∧ Q (SV.tup ([] : List Sx.SV), [SO.cells 62 (zB13b_0 LL AA), SO.lists 22 3 (Ty.int IntKind.i64) [] [] Option.none (B13.marked 0 (List.take u1 LL)), SO.lists 44 69
   T13.aty [] [] Option.none AA], [1, 2])))) (by kernel_rfl) ?_
  delta zB13b_0 zB13b_1 zB13b_2
  refine ⟨⟨0, rfl, by omega⟩, fun i hi => br_intro (fun hd => ?_) (fun hd => ?_)⟩
  · have hd := of_decide_eq_true hd
    rw [List.length_drop] at hd
    have hi2 : i < LL.length := by omega
    have e := List.drop_eq_getElem_cons hi2
    have hlen := hL _ (List.getElem_mem hi2)
    have etk : LL.take (i + 1) = LL.take i ++ [LL[i]] := by rw [List.take_add_one, List.getElem?_eq_getElem hi2]; rfl
    rw [e]
    simp only [List.getD_cons_zero, List.drop_succ_cons, List.drop_zero]
    generalize LL[i] = R at *
    have hM := marks_len (i : Int) 0 R.length
    have hms : marked 0 (LL.take (i + 1)) = marked 0 (LL.take i) ++ [marks (i : Int) 0 R.length] := by
      rw [etk, marked_snoc, List.length_take, Nat.min_eq_left hi, Nat.zero_add]
    have hml := marked_len 0 (LL.take i)
    rw [List.length_take, Nat.min_eq_left hi] at hml
    generalize marks (i : Int) 0 R.length = M at *
    refine br_intro (fun hlt => ⟨by omega, by omega, by omega, ⟨0, rfl, by omega⟩, fun k hk => br_intro (fun hlt2 => ?_) (fun hge2 => ?_)⟩) (fun hge => by have := of_decide_eq_false hge; omega)
    · have hlt2 := of_decide_eq_true hlt2
      have hl : (List.take k M ++ List.drop k R).length = R.length := by rw [List.length_append, List.length_take, List.length_drop]; omega
      refine ⟨by omega, by omega, by omega, by omega, by omega, by omega, ⟨k + 1, ?_, by omega, by omega⟩, trivial⟩
      rw [wrap1 k (by omega), set_step _ hM (by omega)]
    · have hge2 := of_decide_eq_false hge2
      have : k = R.length := by omega
      subst this
      have e1 : M.take R.length ++ R.drop R.length = M := by rw [List.drop_length, List.append_nil]; exact List.take_of_length_le (by omega)
      have e2 : M.take R.length = M := List.take_of_length_le (by omega)
      rw [e1, e2, wrap1 i (by omega)]
      exact ⟨by omega, ⟨i + 1, by rw [hms], by omega, by omega⟩, trivial⟩
  · have hd := of_decide_eq_false hd
    rw [List.length_drop] at hd
    have : i = LL.length := by omega
    subst this
    refine br_intro (fun h => by have := of_decide_eq_true h; omega) (fun _ => ⟨by rw [List.length_drop]; omega, ?_⟩)
    rw [List.take_length]
    exact hq
/-- Marks in all. -/
noncomputable def s43 : Summ := fun args H => match args, H with
  | [.ptr 0 0], [.cells 62 cs, .lists 22 3 (.int .i64) [] [] none LL, .lists 44 69 (Ty.pair (Ty.int IntKind.i64) (Ty.pair (Ty.int IntKind.i32) (Ty.pair (Ty.int IntKind.i64) (Ty.pair (Ty.int IntKind.i64) (Ty.pair (Ty.imm (Ty.int IntKind.i64)) (Ty.pair Ty.str Ty.str)))))) [] [] none AA] => .need ((LL.length ≤ 1000 ∧ ∀ l ∈ LL, l.length ≤ 1000000) ∧ cs = bk (.sl 1 1 0 LL.length) .junk (.sl 2 1 0 AA.length) .junk)
      (.ret (.tup [], [.cells 62 cs, .lists 22 3 (.int .i64) [] [] none (marked 0 LL), .lists 44 69 aty [] [] none AA], [1, 2]))
  | _, _ => .fail
theorem s43_ok : SummOK Tryz.prog 34 s43 := by
  refine summ_of_body (fn := Tryz.f34) (c := Tryz.f34.body.get!) K2_ok (by kernel_rfl) (by kernel_rfl) (by kernel_rfl) fun args H Q h => ?_
  unfold s43 at h
  split at h
  · rename_i cs LL AA
    simp only [Tree.Leads] at h
    obtain ⟨⟨⟨h1, h2⟩, rfl⟩, hq⟩ := h
    refine ⟨_, v43 LL AA Q h1 h2 hq⟩
  · simp only [Tree.Leads] at h
end B13
end
section
open Go Sx Go.Proofs
namespace B13
open T13 (aty Few)
set_option maxRecDepth 100000
set_option maxHeartbeats 40000000
attribute [local irreducible] Tree.Leads
noncomputable def G3 : Table := Table.none.add 76 (.go s76)
theorem G3_ok : TableOK Tryz.prog G3 := add_ok none_ok s76_ok
/-- Marks in lists of which nothing is known but how long they are. -/
def markedA (i : Nat) : List (List (Option aty.den)) → List (List aty.den)
  | [] => []
  | l :: r => marksA i 0 l.length :: markedA (i + 1) r
theorem markedA_len (i : Nat) : ∀ l, (markedA i l).length = l.length
  | [] => rfl
  | x :: l => by simp only [markedA, List.length_cons, markedA_len (i + 1) l]
theorem markedA_snoc (x : List (Option aty.den)) : ∀ (l : List (List (Option aty.den))) (i : Nat), markedA i (l ++ [x]) = markedA i l ++ [marksA ((i + l.length : Nat) : Int) 0 x.length]
  | [], i => rfl
  | y :: l, i => by
    simp only [List.cons_append, markedA, markedA_snoc x l (i + 1), List.length_cons]
    rw [show i + 1 + l.length = i + (l.length + 1) by omega]
noncomputable def B32 : Ann := { live := [0, 2, 3, 4], mv := [1, 2], head := fun vals H => match vals, H with | [a, i, s, _], [c, x, l, .row 69 (.opt (Ty.pair (Ty.int IntKind.i64) (Ty.pair (Ty.int IntKind.i32) (Ty.pair (Ty.int IntKind.i64) (Ty.pair (Ty.int IntKind.i64) (Ty.pair (Ty.imm (Ty.int IntKind.i64)) (Ty.pair Ty.str Ty.str))))))) R, .row 69 (Ty.pair (Ty.int IntKind.i64) (Ty.pair (Ty.int IntKind.i32) (Ty.pair (Ty.int IntKind.i64) (Ty.pair (Ty.int IntKind.i64) (Ty.pair (Ty.imm (Ty.int IntKind.i64)) (Ty.pair Ty.str Ty.str)))))) M] => { X := Nat, inv := fun k => ([a, i, s, .lit (.int .i64 k)], [c, x, l, .row 69 (.opt aty) ((M.take k).map some ++ R.drop k), .row 69 aty M]), ok := fun k => k ≤ M.length, mu := fun k => M.length - k } | _, _ => { X := Nat, inv := fun _ => ([], []), ok := fun _ => False, mu := fun _ => 0 } }
noncomputable def A32 (LL : List (List Int)) (OO : List (List (Option aty.den))) : Ann := { live := [0, 2], mv := [1, 2], hook := 1, hk2 := 69, head := fun _ _ => { X := Nat, inv := fun i => ([.ptr 0 0, .lit (.int .i64 i)], [.cells 62 (bk (.sl 1 1 0 LL.length) .junk (.sl 2 1 0 OO.length) .junk), .lists 22 3 (.int .i64) [] [] none LL, .lists 44 69 (.opt aty) [] ((markedA 0 (OO.take i)).map (List.map some)) none (OO.drop i)]), ok := fun i => i ≤ OO.length, mu := fun i => OO.length - i } }
noncomputable def Z4a : Ann := { live := [], mv := [], head := fun _ _ => { X := Nat, inv := fun _ => ([], []), ok := fun _ => False, mu := fun _ => 0 }, hook := 4, hk2 := 69 }
theorem set_stepO {α : Type} {M : List α} {R : List (Option α)} {k : Nat} (d : α) (h : M.length = R.length) (hk : k < R.length) : ((M.take k).map some ++ R.drop k).set (0 + k) (some (M.getD (0 + k) d)) = (M.take (k + 1)).map some ++ R.drop (k + 1) := by
  have e := set_step (M := M.map some) (R := R) (some d) (by rw [List.length_map]; exact h) hk
  have hk' : 0 + k < M.length := by omega
  have e2 : (M.map some).getD (0 + k) (some d) = some (M.getD (0 + k) d) := by
    rw [List.getD_eq_getElem?_getD, List.getD_eq_getElem?_getD, List.getElem?_map, List.getElem?_eq_getElem hk']; rfl
  rw [e2, ← List.map_take, ← List.map_take] at e
  exact e
theorem map_inj {α β : Type} {f : α → β} (hf : ∀ x y, f x = f y → x = y) : ∀ {a b : List α}, a.map f = b.map f → a = b
  | [], [], _ => rfl
  | [], _ :: _, h => by cases h
  | _ :: _, [], h => by cases h
  | x :: a, y :: b, h => by
    simp only [List.map_cons, List.cons.injEq] at h
    rw [hf _ _ h.1, map_inj hf h.2]
theorem somes_inj {α : Type} {a b : List (List α)} (h : a.map (List.map some) = b.map (List.map some)) : a = b :=
  map_inj (fun _ _ h => map_inj (fun _ _ h => Option.some.inj h) h) h
theorem mkA_bare (i k : Int) : (Ty.opt aty).bare (some (mkA i k)) := ⟨trivial, trivial, trivial, trivial, rfl, trivial, trivial⟩
theorem marksA_bare (i : Int) (k : Nat) : ∀ n, ∀ x ∈ (marksA i k n).map some, (Ty.opt aty).bare x
  | 0, _, h => by cases h
  | n + 1, x, h => by
    rw [marksA, List.map_append] at h
    rcases List.mem_append.1 h with h | h
    · exact marksA_bare i k n x h
    · have : x = some (mkA i ((k + n : Nat) : Int)) := by simpa using h
      rw [this]; exact mkA_bare _ _
noncomputable abbrev zB13k_0 (LL : List (List Int)) (OO : List (List (Option aty.den))) := [SV.lit (Value.slice Option.none 0 0), SV.lit (Value.slice Option.none 0 0), SV.sl 1 1 0 (List.length LL), SV.junk, SV.lit (Value.slice Option.none 0 0), SV.lit (Value.slice Option.none 0 0), SV.lit (Value.slice Option.none 0 0), SV.lit (Value.slice Option.none 0 0), SV.sl 2 1 0 (List.length OO), SV.junk, SV.lit (Value.slice Option.none 0 0), SV.lit (Value.slice Option.none 0 0), SV.lit (Value.slice Option.none 0 0), SV.lit (Value.slice Option.none 0 0), SV.lit (Value.slice Option.none 0 0), SV.lit (Value.slice Option.none 0 0)]
noncomputable abbrev zB13k_1 (OO : List (List (Option aty.den))) (u1 : Nat) := (B13.marksA (↑u1 : Int) 0 (List.length (List.getD (List.drop u1 OO) 0 [])))
theorem v32 (LL : List (List Int)) (OO : List (List (Option aty.den))) (Q : SV × Heap × List Nat → Prop) (hn : OO.length ≤ 1000) (hL : ∀ l ∈ OO, l.length ≤ 1000000)
    (hq : Q (.tup [], [.cells 62 (bk (.sl 1 1 0 LL.length) .junk (.sl 2 1 0 OO.length) .junk), .lists 22 3 (.int .i64) [] [] none LL, .lists 44 69 aty [] [] none (markedA 0 OO)], [1, 2])) :
    (bodySumm G3 Tryz.prog Tryz.f32 (An3 0 (A32 LL OO) 2 B32 999999 Z4a) [.ptr 0 0] [.cells 62 (bk (.sl 1 1 0 LL.length) .junk (.sl 2 1 0 OO.length) .junk), .lists 22 3 (.int .i64) [] [] none LL, .lists 44 69 (.opt aty) [] [] none OO]).Leads Q := by
  refine Sx.by_text (q :=
   (∃ (u0 : Nat), ([SV.ptr 0 0, SV.lit (Value.int IntKind.i64 (0 : Int))], [SO.cells 62 (zB13k_0 LL OO), SO.lists 22 3 (Ty.int IntKind.i64) [] [] Option.none LL, SO.lists 44
   69 (Ty.opt T13.aty) [] [] Option.none OO]) = ([SV.ptr 0 0, SV.lit (Value.int IntKind.i64 (↑u0 : Int))], [SO.cells 62 (zB13k_0 LL OO), SO.lists 22 3 (Ty.int IntKind.i64) []
   [] Option.none LL, SO.lists 44 69 (Ty.opt T13.aty) [] (List.map (List.map Option.some) (B13.markedA 0 (List.take u0 OO))) Option.none (List.drop u0 OO)]) ∧ u0 ≤
   List.length OO) ∧ ∀ (u1 : Nat), u1 ≤ List.length OO → br (decide (0 < List.length (List.drop u1 OO))) (br (decide ((↑u1 : Int) < (↑(List.length OO) : Int))) (((0 : Int) ≤
   (↑u1 : Int) ∧ (↑u1 : Int) < (↑(List.length OO) : Int)) ∧ 0 + u1 = 0 + List.length (List.map (List.map Option.some) (B13.markedA 0 (List.take u1 OO))) ∧ (((0 : Int) ≤ (↑u1
   : Int) ∧ (0 : Int) ≤ (0 : Int) ∧ (0 : Int) ≤ (↑(List.length (List.getD (List.drop u1 OO) 0 [])) : Int)) ∧ (0 : Int) ≤ (1000000 : Int) ∧ (↑(List.length (List.getD
   (List.drop u1 OO) 0 [])) : Int) ≤ (1000000 : Int)) ∧ (∃ (u2 : Nat), ([SV.ptr 0 0, SV.lit (Value.int IntKind.i64 (↑u1 : Int)), SV.sl 4 7 0 (List.length (List.getD
   (List.drop u1 OO) 0 [])), SV.lit (Value.int IntKind.i64 (0 : Int))], [SO.cells 62 (zB13k_0 LL OO), SO.lists 22 3 (Ty.int IntKind.i64) [] [] Option.none LL, SO.lists 44 69
   (Ty.opt T13.aty) [] (List.map (List.map Option.some) (B13.markedA 0 (List.take u1 OO))) (Option.some (3, List.length (List.getD (List.drop u1 OO) 0 []))) (List.drop 1
   (List.drop u1 OO)), SO.row 69 (Ty.opt T13.aty) (List.getD (List.drop u1 OO) 0 []), SO.row 69 T13.aty (zB13k_1 OO u1)]) = ([SV.ptr 0 0, SV.lit (Value.int IntKind.i64 (↑u1 :
   Int)), SV.sl 4 7 0 (List.length (List.getD (List.drop u1 OO) 0 [])), SV.lit (Value.int IntKind.i64 (↑u2 : Int))], [SO.cells 62 (zB13k_0 LL OO), SO.lists 22 3 (Ty.int
   IntKind.i64) [] [] Option.none LL, SO.lists 44 69 (Ty.opt T13.aty) [] (List.map (List.map Option.some) (B13.markedA 0 (List.take u1 OO))) (Option.some (3, List.length
   (List.getD (List.drop u1 OO) 0 []))) (List.drop 1 (List.drop u1 OO)), SO.row 69 (Ty.opt T13.aty) (List.map Option.some (List.take u2 (zB13k_1 OO u1)) ++ List.drop u2
   (List.getD (List.drop u1 OO) 0 [])), SO.row 69 T13.aty (zB13k_1 OO u1)]) ∧ u2 ≤ List.length (zB13k_1 OO u1)) ∧ ∀ (u3 : Nat), u3 ≤ List.length (zB13k_1 OO u1) → br (decide
   ((↑u3 : Int) < (↑(List.length (List.getD (List.drop u1 OO) 0 [])) : Int))) (((0 : Int) ≤ (↑u1 : Int) ∧ (↑u1 : Int) < (↑(List.length OO) : Int)) ∧ 0 + u1 = 0 + List.length
   (List.map (List.map Option.some) (B13.markedA 0 (List.take u1 OO))) ∧ ((0 : Int) ≤ (↑u3 : Int) ∧ (↑u3 : Int) < (↑(List.length (List.getD (List.drop u1 OO) 0 [])) : Int)) ∧
   0 + u3 < List.length (zB13k_1 OO u1) ∧ ((0 : Int) ≤ (↑u3 : Int) ∧ (↑u3 : Int) < (↑(List.length (List.getD (List.drop u1 OO) 0 [])) : Int)) ∧ 0 + u3 < List.length (List.map
   Option.some (List.take u3 (zB13k_1 OO u1)) ++ List.drop u3 (List.getD (List.drop u1 OO) 0 [])) ∧ (∃ (u4 : Nat), ([SV.ptr 0 0, SV.lit (Value.int IntKind.i64 (↑u1 : Int)),
   SV.sl 4 7 0 (List.length (List.getD (List.drop u1 OO) 0 [])), SV.lit (Value.int IntKind.i64 (IntKind.wrap IntKind.i64 ((↑u3 : Int) + (1 : Int))))], [SO.cells 62 (zB13k_0
   LL OO), SO.lists 22 3 (Ty.int IntKind.i64) [] [] Option.none LL, SO.lists 44 69 (Ty.opt T13.aty) [] (List.map (List.map Option.some) (B13.markedA 0 (List.take u1 OO)))
   (Option.some (3, List.length (List.getD (List.drop u1 OO) 0 []))) (List.drop 1 (List.drop u1 OO)), SO.row 69 (Ty.opt T13.aty) (List.set (List.map Option.some (List.take u3
   (zB13k_1 OO u1)) ++ List.drop u3 (List.getD (List.drop u1 OO) 0 [])) (0 + u3) (Option.some (Prod.fst (List.getD (zB13k_1 OO u1) (0 + u3) (Ty.dflt T13.aty)), Prod.fst
   (Prod.snd (List.getD (zB13k_1 OO u1) (0 + u3) (Ty.dflt T13.aty))), Prod.fst (Prod.snd (Prod.snd (List.getD (zB13k_1 OO u1) (0 + u3) (Ty.dflt T13.aty)))), Prod.fst
   (Prod.snd (Prod.snd (Prod.snd (List.getD (zB13k_1 OO u1) (0 + u3) (Ty.dflt T13.aty))))), Prod.fst (Prod.snd (Prod.snd (Prod.snd (Prod.snd (List.getD (zB13k_1 OO u1) (0 +
   u3) (Ty.dflt T13.aty)))))), Prod.fst (Prod.snd (Prod.snd (Prod.snd (Prod.snd (Prod.snd (List.getD (zB13k_1 OO u1) (0 + u3) (Ty.dflt T13.aty))))))), Prod.snd (Prod.snd
   (Prod.snd (Prod.snd (Prod.snd (Prod.snd (List.getD (zB13k_1 OO u1) (0 + u3) (Ty.dflt T13.aty)))))))))), SO.row 69 T13.aty (zB13k_1 OO u1)]) = ([SV.ptr 0 0, SV.lit
   (Value.int IntKind.i64 (↑u1 : Int)), SV.sl 4 7 0 (List.length (List.getD (List.drop u1 OO) 0 [])), SV.lit (Value.int IntKind.i64 (↑u4 : Int))], [SO.cells 62 (zB13k_0 LL
   OO), SO.lists 22 3 (Ty.int IntKind.i64) [] [] Option.none LL, SO.lists 44 69 (Ty.opt T13.aty) [] (List.map (List.map Option.some) (B13.markedA 0 (List.take u1 OO)))
   (Option.some (3, List.length (List.getD (List.drop u1 OO) 0 []))) (List.drop 1 (List.drop u1 OO)), SO.row 69 (Ty.opt T13.aty) (List.map Option.some (List.take u4 (zB13k_1
   OO u1)) ++ List.drop u4 (List.getD (List.drop u1 OO) 0 [])), SO.row 69 T13.aty (zB13k_1 OO u1)]) ∧ u4 ≤ List.length (zB13k_1 OO u1) ∧ List.length (zB13k_1 OO u1) - u4 <
   List.length (zB13k_1 OO u1) - u3) ∧ True) (List.length (List.getD (List.drop u1 OO) 0 []) ≤ List.length (List.map Option.some (List.take u3 (zB13k_1 OO u1)) ++ List.drop
   u3 (List.getD (List.drop u1 OO) 0 [])) ∧ (∀ (u5 : Ty.den (Ty.opt T13.aty)), u5 ∈ List.take (List.length (List.getD (List.drop u1 OO) 0 [])) (List.map Option.some
   (List.take u3 (zB13k_1 OO u1)) ++ List.drop u3 (List.getD (List.drop u1 OO) 0 [])) → Ty.bare (Ty.opt T13.aty) u5) ∧ (∃ (u6 : Nat), ([SV.ptr 0 0, SV.lit (Value.int
   IntKind.i64 (IntKind.wrap IntKind.i64 ((↑u1 : Int) + (1 : Int))))], [SO.cells 62 (zB13k_0 LL OO), SO.lists 22 3 (Ty.int IntKind.i64) [] [] Option.none LL, SO.lists 44 69
   (Ty.opt T13.aty) [] (List.map (List.map Option.some) (B13.markedA 0 (List.take u1 OO)) ++ [List.take (List.length (List.getD (List.drop u1 OO) 0 [])) (List.map Option.some
   (List.take u3 (zB13k_1 OO u1)) ++ List.drop u3 (List.getD (List.drop u1 OO) 0 []))]) Option.none (List.drop 1 (List.drop u1 OO))]) = ([SV.ptr 0 0, SV.lit (Value.int
   IntKind.i64 (↑u6 : Int))], [SO.cells 62 (zB13k_0 LL OO), SO.lists 22 3 (Ty.int IntKind.i64) [] [] Option.none LL, SO.lists 44 69 (Ty.opt T13.aty) [] (List.map (List.map
   Option.some) (B13.markedA 0 (List.take u6 OO))) Option.none (List.drop u6 OO)]) ∧ u6 ≤ List.length OO ∧ List.length OO - u6 < List.length OO - u1) ∧ True)) (Q (SV.tup ([]
   : List Sx.SV), [SO.cells 62 (zB13k_0 LL OO), SO.lists 22 3 (Ty.int IntKind.i64) [] [] Option.none LL, SO.lists 44 69 (Ty.opt T13.aty) [] (List.map (List.map Option.some)
   (B13.markedA 0 (List.take u1 OO))) (Option.some (3, List.length (List.getD (List.drop u1 OO) 0 []))) (List.drop 1 (List.drop u1 OO)), SO.row 69 (Ty.opt T13.aty) (List.getD
   (List.drop u1 OO) 0 [])], [2, 1, 2]))) (br (decide ((↑u1 : Int) < (↑(List.length OO) : Int))) (((0 : Int) ≤ (↑u1 : Int) ∧ (↑u1 : Int) < (↑(List.length OO) : Int)) ∧ False)
   (List.length (List.drop u1 OO) = 0 ∧ (∃ (u7 : List (List (Ty.den T13.aty))), List.map (List.map Option.some) (B13.markedA 0 (List.take u1 OO)) = List.map (List.map
   Option.some) u7) ∧ ∀ (u8 : List (List (Ty.den T13.aty))), List.map (List.map Option.some) (B13.markedA 0 (List.take u1 OO)) = List.map (List.map Option.some) u8 → Q
   (SV.tup ([] : List Sx.SV), [SO.cells 62 (zB13k_0 LL OO), SO.lists 22 3 (Ty.int IntKind.i64) [] [] Option.none LL, SO.lists 44 69 T13.aty [] [] Option.none u8], [1, 2])))) (by kernel_rfl) ?_
  delta zB13k_0 zB13k_1
  refine ⟨⟨0, rfl, by omega⟩, fun i hi => br_intro (fun hd => ?_) (fun hd => ?_)⟩
  · have hd := of_decide_eq_true hd
    rw [List.length_drop] at hd
    have hi2 : i < OO.length := by omega
    have e := List.drop_eq_getElem_cons hi2
    have hlen := hL _ (List.getElem_mem hi2)
    have etk : OO.take (i + 1) = OO.take i ++ [OO[i]] := by rw [List.take_add_one, List.getElem?_eq_getElem hi2]; rfl
    rw [e]
    simp only [List.getD_cons_zero, List.drop_succ_cons, List.drop_zero, List.length_map]
    generalize OO[i] = R at *
    have hM := marksA_len (i : Int) 0 R.length
    have hbare := marksA_bare (i : Int) 0 R.length
    have hms : markedA 0 (OO.take (i + 1)) = markedA 0 (OO.take i) ++ [marksA (i : Int) 0 R.length] := by
      rw [etk, markedA_snoc, List.length_take, Nat.min_eq_left hi, Nat.zero_add]
    have hml := markedA_len 0 (OO.take i)
    rw [List.length_take, Nat.min_eq_left hi] at hml
    generalize marksA (i : Int) 0 R.length = M at *
    refine br_intro (fun hlt => ⟨by omega, by omega, by omega, ⟨0, rfl, by omega⟩, fun k hk => br_intro (fun hlt2 => ?_) (fun hge2 => ?_)⟩) (fun hge => by have := of_decide_eq_false hge; omega)
    · have hlt2 := of_decide_eq_true hlt2
      have hl : (List.map some (List.take k M) ++ List.drop k R).length = R.length := by rw [List.length_append, List.length_map, List.length_take, List.length_drop]; omega
      have es := set_stepO (M := M) (R := R) aty.dflt hM (show k < R.length by omega)
      refine ⟨by omega, by omega, by omega, by omega, by omega, by omega, ⟨k + 1, ?_, by omega, by omega⟩, trivial⟩
      rw [wrap1 k (by omega), ← es]
    · have hge2 := of_decide_eq_false hge2
      have : k = R.length := by omega
      subst this
      have e0 : M.take R.length = M := List.take_of_length_le (by omega)
      have e1 : (M.take R.length).map some ++ R.drop R.length = M.map some := by rw [List.drop_length, List.append_nil, e0]
      have e2 : (M.map some).take R.length = M.map some := List.take_of_length_le (by rw [List.length_map]; omega)
      rw [e1, e2, wrap1 i (by omega)]
      refine ⟨by rw [List.length_map]; omega, hbare, ⟨i + 1, ?_, by omega, by omega⟩, trivial⟩
      rw [hms, List.map_append]; rfl
  · have hd := of_decide_eq_false hd
    rw [List.length_drop] at hd
    have : i = OO.length := by omega
    subst this
    refine br_intro (fun h => by have := of_decide_eq_true h; omega) (fun _ => ⟨by rw [List.length_drop]; omega, ⟨_, rfl⟩, fun B hB => ?_⟩)
    rw [List.take_length] at hB
    rw [← somes_inj hB]
    exact hq
noncomputable def s32 : Summ := fun args H => match args, H with
  | [.ptr 0 0], [.cells 62 cs, .lists 22 3 (.int .i64) [] [] none LL, .lists 44 69 (.opt (Ty.pair (Ty.int IntKind.i64) (Ty.pair (Ty.int IntKind.i32) (Ty.pair (Ty.int IntKind.i64) (Ty.pair (Ty.int IntKind.i64) (Ty.pair (Ty.imm (Ty.int IntKind.i64)) (Ty.pair Ty.str Ty.str))))))) [] [] none OO] => .need ((OO.length ≤ 1000 ∧ ∀ l ∈ OO, l.length ≤ 1000000) ∧ cs = bk (.sl 1 1 0 LL.length) .junk (.sl 2 1 0 OO.length) .junk)
      (.ret (.tup [], [.cells 62 cs, .lists 22 3 (.int .i64) [] [] none LL, .lists 44 69 aty [] [] none (markedA 0 OO)], [1, 2]))
  | _, _ => .fail
theorem s32_ok : SummOK Tryz.prog 32 s32 := by
  refine summ_of_body (fn := Tryz.f32) (c := Tryz.f32.body.get!) G3_ok (by kernel_rfl) (by kernel_rfl) (by kernel_rfl) fun args H Q h => ?_
  unfold s32 at h
  split at h
  · rename_i cs LL OO
    simp only [Tree.Leads] at h
    obtain ⟨⟨⟨h1, h2⟩, rfl⟩, hq⟩ := h
    exact ⟨_, v32 LL OO Q h1 h2 hq⟩
  · simp only [Tree.Leads] at h
end B13
end
