/- Part of a proof: the walk of the functions that the law calls. -/
import Derived.Test.YtabnecedcnlpcaaXPB
set_option linter.unusedVariables false
open Go Sx Go.Proofs
namespace T5
set_option maxRecDepth 100000
set_option maxHeartbeats 2000000
attribute [local irreducible] Tree.Leads
noncomputable def A5 (xs : List ByteArray) (n : Int) : Ann := { live := [0, 1, 5, 6, 7], mv := [1, 3], peel := 1, head := fun _ _ => { X := Nat, inv := fun i => ([.imm .str xs, .lit (.int .i64 n), .ptr 0 0, .ptr 2 0, .lit (.int .i64 i)], [.cells 57 (bcells 1 (.mp 1)), mapOf (addAll [] (xs.take i) n), .cells 57 (bcells 1 (.mp 3)), mapOf (addAll [] (xs.reverse.take i) n)]), ok := fun i => 0 < i ∧ i ≤ xs.length, mu := fun i => xs.length - i } }
noncomputable def B5 (m : Nat) : Ann := { live := [5, 6, 8, 9, 10], mv := [1, 3], head := fun vals H => match vals with | [a, b, x, y, _] => { X := Nat, inv := fun i => ([a, b, x, y, .lit (.int .i64 i)], H), ok := fun i => i ≤ m, mu := fun i => m - i } | _ => { X := Nat, inv := fun _ => ([], []), ok := fun _ => False, mu := fun _ => 0 } }
theorem wrap1 (n : Nat) (h : n ≤ 1000000) : IntKind.i64.wrap ((n : Int) + 1) = ((n + 1 : Nat) : Int) := by rw [IntKind.wrap_i64]; omega
theorem last_of (n i : Nat) (h : i < n) (hn : n ≤ 40) : IntKind.i64.wrap (IntKind.i64.wrap ((n : Int) - 1) - (i : Int)) = ((n - 1 - i : Nat) : Int) := by simp only [IntKind.wrap_i64]; omega
theorem take_more (xs : List ByteArray) (i : Nat) (h : i < xs.length) (d : ByteArray) : xs.take (i + 1) = xs.take i ++ [xs.getD i d] := by
  rw [List.take_add_one, List.getElem?_eq_getElem h, List.getD_eq_getElem?_getD, List.getElem?_eq_getElem h]; rfl
theorem getD_rev (xs : List ByteArray) (i : Nat) (h : i < xs.length) (d : ByteArray) : xs.getD (xs.length - 1 - i) d = xs.reverse.getD i d := by
  have h1 : i < xs.reverse.length := by simpa using h
  have h2 : xs.length - 1 - i < xs.length := by omega
  simp only [List.getD_eq_getElem?_getD, List.getElem?_eq_getElem h1, List.getElem?_eq_getElem h2, List.getElem_reverse]
theorem first_add (xs : List ByteArray) (n : Int) (h : 0 < xs.length) (d : ByteArray) : addAll [] (xs.take 1) n = [(xs.getD 0 d, IntKind.i64.wrap n)] := by
  cases xs with
  | nil => simp at h
  | cons x xs => simp [addAll, addAt]
theorem v5 (xs : List ByteArray) (n : Int) (Q : SV × Heap × List Nat → Prop) (hx : ∀ s ∈ xs, s.size ≤ 281474976710656) (hq : ∀ mv, Q (.lit (.bool true), [], mv)) :
    (bodySumm T9 Try.prog Try.f5 (An2 0 (A5 xs n) 2 (B5 (addAll [] xs n).length)) [.imm .str xs, .lit (.int .i64 n)] []).Leads Q := by
  refine Sx.by_text (q :=
      br (decide ((↑(List.length xs) : Int) > (30 : Int))) (Q (SV.lit (Value.bool true), ([] : List Sx.SO), [])) (br (decide ((0 : Int) < (↑(List.length xs) : Int))) (((0 : Int)
      ≤ (0 : Int) ∧ (0 : Int) < (↑(List.length xs) : Int)) ∧ (0 : Nat) < List.length xs ∧ br (decide ((↑(ByteArray.size (List.getD xs (0 : Nat) (Ty.dflt Ty.str))) : Int) > (60 :
      Int))) (Q (SV.lit (Value.bool true), ([] : List Sx.SO), [])) (((0 : Int) ≤ (0 : Int) ∧ (0 : Int) < (↑(List.length xs) : Int)) ∧ (0 : Nat) < List.length xs ∧ ([SV.lit
      (Value.int IntKind.u32 (0 : Int)), SV.lit (Value.int IntKind.i32 (0 : Int)), SV.lit (Value.int IntKind.u32 (0 : Int)), SV.lit (Value.int IntKind.i32 (0 : Int)), SV.lit
      (Value.int IntKind.u32 (0 : Int)), SV.lit (Value.map Option.none)] = [SV.lit (Value.int IntKind.u32 (0 : Int)), SV.lit (Value.int IntKind.i32 (0 : Int)), SV.lit (Value.int
      IntKind.u32 (0 : Int)), SV.lit (Value.int IntKind.i32 (0 : Int)), SV.lit (Value.int IntKind.u32 (0 : Int)), SV.lit (Value.map Option.none)] ∧ ByteArray.size (List.getD xs
      (0 : Nat) (Ty.dflt Ty.str)) ≤ (281474976710656 : Nat)) ∧ ((0 : Int) ≤ IntKind.wrap IntKind.i64 (IntKind.wrap IntKind.i64 ((↑(List.length xs) : Int) - (1 : Int)) - (0 :
      Int)) ∧ IntKind.wrap IntKind.i64 (IntKind.wrap IntKind.i64 ((↑(List.length xs) : Int) - (1 : Int)) - (0 : Int)) < (↑(List.length xs) : Int)) ∧ Int.toNat (IntKind.wrap
      IntKind.i64 (IntKind.wrap IntKind.i64 ((↑(List.length xs) : Int) - (1 : Int)) - (0 : Int))) < List.length xs ∧ ([SV.lit (Value.int IntKind.u32 (0 : Int)), SV.lit
      (Value.int IntKind.i32 (0 : Int)), SV.lit (Value.int IntKind.u32 (0 : Int)), SV.lit (Value.int IntKind.i32 (0 : Int)), SV.lit (Value.int IntKind.u32 (0 : Int)), SV.lit
      (Value.map Option.none)] = [SV.lit (Value.int IntKind.u32 (0 : Int)), SV.lit (Value.int IntKind.i32 (0 : Int)), SV.lit (Value.int IntKind.u32 (0 : Int)), SV.lit (Value.int
      IntKind.i32 (0 : Int)), SV.lit (Value.int IntKind.u32 (0 : Int)), SV.lit (Value.map Option.none)] ∧ ByteArray.size (List.getD xs (Int.toNat (IntKind.wrap IntKind.i64
      (IntKind.wrap IntKind.i64 ((↑(List.length xs) : Int) - (1 : Int)) - (0 : Int)))) (Ty.dflt Ty.str)) ≤ (281474976710656 : Nat)) ∧ (∃ (x : Nat), ([SV.imm Ty.str xs, SV.lit
      (Value.int IntKind.i64 n), SV.ptr (0 : Nat) (0 : Nat), SV.ptr (2 : Nat) (0 : Nat), SV.lit (Value.int IntKind.i64 (IntKind.wrap IntKind.i64 ((0 : Int) + (1 : Int))))],
      [SO.cells (57 : Nat) [SV.lit (Value.int IntKind.u32 (1 : Int)), SV.lit (Value.int IntKind.i32 (0 : Int)), SV.lit (Value.int IntKind.u32 (0 : Int)), SV.lit (Value.int
      IntKind.i32 (0 : Int)), SV.lit (Value.int IntKind.u32 (0 : Int)), SV.mp (1 : Nat)], SO.tmap (Sx.mapR Go.Proofs.Try.prog (9 : Go.TypeId)) (31 : Nat) [(List.getD xs (0 :
      Nat) (Ty.dflt Ty.str), IntKind.wrap IntKind.i64 n)], SO.cells (57 : Nat) [SV.lit (Value.int IntKind.u32 (1 : Int)), SV.lit (Value.int IntKind.i32 (0 : Int)), SV.lit
      (Value.int IntKind.u32 (0 : Int)), SV.lit (Value.int IntKind.i32 (0 : Int)), SV.lit (Value.int IntKind.u32 (0 : Int)), SV.mp (3 : Nat)], SO.tmap (Sx.mapR
      Go.Proofs.Try.prog (9 : Go.TypeId)) (31 : Nat) [(List.getD xs (Int.toNat (IntKind.wrap IntKind.i64 (IntKind.wrap IntKind.i64 ((↑(List.length xs) : Int) - (1 : Int)) - (0 :
      Int)))) (Ty.dflt Ty.str), IntKind.wrap IntKind.i64 n)]]) = ([SV.imm Ty.str xs, SV.lit (Value.int IntKind.i64 n), SV.ptr (0 : Nat) (0 : Nat), SV.ptr (2 : Nat) (0 : Nat),
      SV.lit (Value.int IntKind.i64 (↑x : Int))], [SO.cells (57 : Nat) [SV.lit (Value.int IntKind.u32 (1 : Int)), SV.lit (Value.int IntKind.i32 (0 : Int)), SV.lit (Value.int
      IntKind.u32 (0 : Int)), SV.lit (Value.int IntKind.i32 (0 : Int)), SV.lit (Value.int IntKind.u32 (0 : Int)), SV.mp (1 : Nat)], SO.tmap (Sx.mapR Go.Proofs.Try.prog (9 :
      Go.TypeId)) (31 : Nat) (T5.addAll [] (List.take x xs) n), SO.cells (57 : Nat) [SV.lit (Value.int IntKind.u32 (1 : Int)), SV.lit (Value.int IntKind.i32 (0 : Int)), SV.lit
      (Value.int IntKind.u32 (0 : Int)), SV.lit (Value.int IntKind.i32 (0 : Int)), SV.lit (Value.int IntKind.u32 (0 : Int)), SV.mp (3 : Nat)], SO.tmap (Sx.mapR
      Go.Proofs.Try.prog (9 : Go.TypeId)) (31 : Nat) (T5.addAll [] (List.take x (List.reverse xs)) n)]) ∧ (0 : Nat) < x ∧ x ≤ List.length xs) ∧ ∀ (b : Nat), (0 : Nat) < b ∧ b ≤
      List.length xs → br (decide ((↑b : Int) < (↑(List.length xs) : Int))) (((0 : Int) ≤ (↑b : Int) ∧ (↑b : Int) < (↑(List.length xs) : Int)) ∧ b < List.length xs ∧ br (decide
      ((↑(ByteArray.size (List.getD xs b (Ty.dflt Ty.str))) : Int) > (60 : Int))) (Q (SV.lit (Value.bool true), ([] : List Sx.SO), [(1 : Nat), (3 : Nat)])) (((0 : Int) ≤ (↑b :
      Int) ∧ (↑b : Int) < (↑(List.length xs) : Int)) ∧ b < List.length xs ∧ ([SV.lit (Value.int IntKind.u32 (1 : Int)), SV.lit (Value.int IntKind.i32 (0 : Int)), SV.lit
      (Value.int IntKind.u32 (0 : Int)), SV.lit (Value.int IntKind.i32 (0 : Int)), SV.lit (Value.int IntKind.u32 (0 : Int)), SV.mp (1 : Nat)] = [SV.lit (Value.int IntKind.u32 (1
      : Int)), SV.lit (Value.int IntKind.i32 (0 : Int)), SV.lit (Value.int IntKind.u32 (0 : Int)), SV.lit (Value.int IntKind.i32 (0 : Int)), SV.lit (Value.int IntKind.u32 (0 :
      Int)), SV.mp (1 : Nat)] ∧ Sx.mapR Go.Proofs.Try.prog (9 : Go.TypeId) = Sx.mapR Go.Proofs.Try.prog (9 : Go.TypeId) ∧ ByteArray.size (List.getD xs b (Ty.dflt Ty.str)) ≤
      (281474976710656 : Nat) ∧ List.length (T5.addAll [] (List.take b xs) n) ≤ (1000000 : Nat)) ∧ ((0 : Int) ≤ IntKind.wrap IntKind.i64 (IntKind.wrap IntKind.i64
      ((↑(List.length xs) : Int) - (1 : Int)) - (↑b : Int)) ∧ IntKind.wrap IntKind.i64 (IntKind.wrap IntKind.i64 ((↑(List.length xs) : Int) - (1 : Int)) - (↑b : Int)) <
      (↑(List.length xs) : Int)) ∧ Int.toNat (IntKind.wrap IntKind.i64 (IntKind.wrap IntKind.i64 ((↑(List.length xs) : Int) - (1 : Int)) - (↑b : Int))) < List.length xs ∧
      ([SV.lit (Value.int IntKind.u32 (1 : Int)), SV.lit (Value.int IntKind.i32 (0 : Int)), SV.lit (Value.int IntKind.u32 (0 : Int)), SV.lit (Value.int IntKind.i32 (0 : Int)),
      SV.lit (Value.int IntKind.u32 (0 : Int)), SV.mp (1 : Nat)] = [SV.lit (Value.int IntKind.u32 (1 : Int)), SV.lit (Value.int IntKind.i32 (0 : Int)), SV.lit (Value.int
      IntKind.u32 (0 : Int)), SV.lit (Value.int IntKind.i32 (0 : Int)), SV.lit (Value.int IntKind.u32 (0 : Int)), SV.mp (1 : Nat)] ∧ Sx.mapR Go.Proofs.Try.prog (9 : Go.TypeId) =
      Sx.mapR Go.Proofs.Try.prog (9 : Go.TypeId) ∧ ByteArray.size (List.getD xs (Int.toNat (IntKind.wrap IntKind.i64 (IntKind.wrap IntKind.i64 ((↑(List.length xs) : Int) - (1 :
      Int)) - (↑b : Int)))) (Ty.dflt Ty.str)) ≤ (281474976710656 : Nat) ∧ List.length (T5.addAll [] (List.take b (List.reverse xs)) n) ≤ (1000000 : Nat)) ∧ (∃ (x' : Nat),
      ([SV.imm Ty.str xs, SV.lit (Value.int IntKind.i64 n), SV.ptr (0 : Nat) (0 : Nat), SV.ptr (2 : Nat) (0 : Nat), SV.lit (Value.int IntKind.i64 (IntKind.wrap IntKind.i64 ((↑b
      : Int) + (1 : Int))))], [SO.cells (57 : Nat) [SV.lit (Value.int IntKind.u32 (1 : Int)), SV.lit (Value.int IntKind.i32 (0 : Int)), SV.lit (Value.int IntKind.u32 (0 : Int)),
      SV.lit (Value.int IntKind.i32 (0 : Int)), SV.lit (Value.int IntKind.u32 (0 : Int)), SV.mp (1 : Nat)], SO.tmap (Sx.mapR Go.Proofs.Try.prog (9 : Go.TypeId)) (31 : Nat)
      (T5.addAt (T5.addAll [] (List.take b xs) n) (List.getD xs b (Ty.dflt Ty.str)) n), SO.cells (57 : Nat) [SV.lit (Value.int IntKind.u32 (1 : Int)), SV.lit (Value.int
      IntKind.i32 (0 : Int)), SV.lit (Value.int IntKind.u32 (0 : Int)), SV.lit (Value.int IntKind.i32 (0 : Int)), SV.lit (Value.int IntKind.u32 (0 : Int)), SV.mp (3 : Nat)],
      SO.tmap (Sx.mapR Go.Proofs.Try.prog (9 : Go.TypeId)) (31 : Nat) (T5.addAt (T5.addAll [] (List.take b (List.reverse xs)) n) (List.getD xs (Int.toNat (IntKind.wrap
      IntKind.i64 (IntKind.wrap IntKind.i64 ((↑(List.length xs) : Int) - (1 : Int)) - (↑b : Int)))) (Ty.dflt Ty.str)) n)]) = ([SV.imm Ty.str xs, SV.lit (Value.int IntKind.i64
      n), SV.ptr (0 : Nat) (0 : Nat), SV.ptr (2 : Nat) (0 : Nat), SV.lit (Value.int IntKind.i64 (↑x' : Int))], [SO.cells (57 : Nat) [SV.lit (Value.int IntKind.u32 (1 : Int)),
      SV.lit (Value.int IntKind.i32 (0 : Int)), SV.lit (Value.int IntKind.u32 (0 : Int)), SV.lit (Value.int IntKind.i32 (0 : Int)), SV.lit (Value.int IntKind.u32 (0 : Int)),
      SV.mp (1 : Nat)], SO.tmap (Sx.mapR Go.Proofs.Try.prog (9 : Go.TypeId)) (31 : Nat) (T5.addAll [] (List.take x' xs) n), SO.cells (57 : Nat) [SV.lit (Value.int IntKind.u32 (1
      : Int)), SV.lit (Value.int IntKind.i32 (0 : Int)), SV.lit (Value.int IntKind.u32 (0 : Int)), SV.lit (Value.int IntKind.i32 (0 : Int)), SV.lit (Value.int IntKind.u32 (0 :
      Int)), SV.mp (3 : Nat)], SO.tmap (Sx.mapR Go.Proofs.Try.prog (9 : Go.TypeId)) (31 : Nat) (T5.addAll [] (List.take x' (List.reverse xs)) n)]) ∧ ((0 : Nat) < x' ∧ x' ≤
      List.length xs) ∧ List.length xs - x' < List.length xs - b) ∧ True)) (([SV.lit (Value.int IntKind.u32 (1 : Int)), SV.lit (Value.int IntKind.i32 (0 : Int)), SV.lit
      (Value.int IntKind.u32 (0 : Int)), SV.lit (Value.int IntKind.i32 (0 : Int)), SV.lit (Value.int IntKind.u32 (0 : Int)), SV.mp (1 : Nat)] = [SV.lit (Value.int IntKind.u32 (1
      : Int)), SV.lit (Value.int IntKind.i32 (0 : Int)), SV.lit (Value.int IntKind.u32 (0 : Int)), SV.lit (Value.int IntKind.i32 (0 : Int)), SV.lit (Value.int IntKind.u32 (0 :
      Int)), SV.mp (1 : Nat)] ∧ Sx.mapR Go.Proofs.Try.prog (9 : Go.TypeId) = Sx.mapR Go.Proofs.Try.prog (9 : Go.TypeId) ∧ List.length (T5.addAll [] (List.take b xs) n) ≤
      (1000000 : Nat)) ∧ ([SV.lit (Value.int IntKind.u32 (1 : Int)), SV.lit (Value.int IntKind.i32 (0 : Int)), SV.lit (Value.int IntKind.u32 (0 : Int)), SV.lit (Value.int
      IntKind.i32 (0 : Int)), SV.lit (Value.int IntKind.u32 (0 : Int)), SV.mp (1 : Nat)] = [SV.lit (Value.int IntKind.u32 (1 : Int)), SV.lit (Value.int IntKind.i32 (0 : Int)),
      SV.lit (Value.int IntKind.u32 (0 : Int)), SV.lit (Value.int IntKind.i32 (0 : Int)), SV.lit (Value.int IntKind.u32 (0 : Int)), SV.mp (1 : Nat)] ∧ Sx.mapR Go.Proofs.Try.prog
      (9 : Go.TypeId) = Sx.mapR Go.Proofs.Try.prog (9 : Go.TypeId) ∧ List.length (T5.addAll [] (List.take b (List.reverse xs)) n) ≤ (1000000 : Nat)) ∧ br ((↑(List.length
      (T5.addAll [] (List.take b xs) n)) : Int) != (↑(List.length (T5.addAll [] (List.take b (List.reverse xs)) n)) : Int)) (Q (SV.lit (Value.bool false), ([] : List Sx.SO), [(1
      : Nat), (3 : Nat)])) (br (decide ((↑(List.length (T5.addAll [] (List.take b xs) n)) : Int) > (↑(List.length xs) : Int))) (Q (SV.lit (Value.bool false), ([] : List Sx.SO),
      [(1 : Nat), (3 : Nat)])) ((∃ (x : Nat), ([SV.ptr (0 : Nat) (0 : Nat), SV.ptr (2 : Nat) (0 : Nat), SV.sl (4 : Nat) (1 : Nat) (0 : Nat) (List.length (T5.addAll [] (List.take
      b xs) n)), SV.sl (5 : Nat) (1 : Nat) (0 : Nat) (List.length (T5.addAll [] (List.take b (List.reverse xs)) n)), SV.lit (Value.int IntKind.i64 (0 : Int))], [SO.cells (57 :
      Nat) [SV.lit (Value.int IntKind.u32 (1 : Int)), SV.lit (Value.int IntKind.i32 (0 : Int)), SV.lit (Value.int IntKind.u32 (0 : Int)), SV.lit (Value.int IntKind.i32 (0 :
      Int)), SV.lit (Value.int IntKind.u32 (0 : Int)), SV.mp (1 : Nat)], SO.tmap (Sx.mapR Go.Proofs.Try.prog (9 : Go.TypeId)) (31 : Nat) (T5.addAll [] (List.take b xs) n),
      SO.cells (57 : Nat) [SV.lit (Value.int IntKind.u32 (1 : Int)), SV.lit (Value.int IntKind.i32 (0 : Int)), SV.lit (Value.int IntKind.u32 (0 : Int)), SV.lit (Value.int
      IntKind.i32 (0 : Int)), SV.lit (Value.int IntKind.u32 (0 : Int)), SV.mp (3 : Nat)], SO.tmap (Sx.mapR Go.Proofs.Try.prog (9 : Go.TypeId)) (31 : Nat) (T5.addAll []
      (List.take b (List.reverse xs)) n), SO.row (9 : Nat) Ty.str (Sx.sortedNames (T5.addAll [] (List.take b xs) n)), SO.row (9 : Nat) Ty.str (Sx.sortedNames (T5.addAll []
      (List.take b (List.reverse xs)) n))]) = ([SV.ptr (0 : Nat) (0 : Nat), SV.ptr (2 : Nat) (0 : Nat), SV.sl (4 : Nat) (1 : Nat) (0 : Nat) (List.length (T5.addAll [] (List.take
      b xs) n)), SV.sl (5 : Nat) (1 : Nat) (0 : Nat) (List.length (T5.addAll [] (List.take b (List.reverse xs)) n)), SV.lit (Value.int IntKind.i64 (↑x : Int))], [SO.cells (57 :
      Nat) [SV.lit (Value.int IntKind.u32 (1 : Int)), SV.lit (Value.int IntKind.i32 (0 : Int)), SV.lit (Value.int IntKind.u32 (0 : Int)), SV.lit (Value.int IntKind.i32 (0 :
      Int)), SV.lit (Value.int IntKind.u32 (0 : Int)), SV.mp (1 : Nat)], SO.tmap (Sx.mapR Go.Proofs.Try.prog (9 : Go.TypeId)) (31 : Nat) (T5.addAll [] (List.take b xs) n),
      SO.cells (57 : Nat) [SV.lit (Value.int IntKind.u32 (1 : Int)), SV.lit (Value.int IntKind.i32 (0 : Int)), SV.lit (Value.int IntKind.u32 (0 : Int)), SV.lit (Value.int
      IntKind.i32 (0 : Int)), SV.lit (Value.int IntKind.u32 (0 : Int)), SV.mp (3 : Nat)], SO.tmap (Sx.mapR Go.Proofs.Try.prog (9 : Go.TypeId)) (31 : Nat) (T5.addAll []
      (List.take b (List.reverse xs)) n), SO.row (9 : Nat) Ty.str (Sx.sortedNames (T5.addAll [] (List.take b xs) n)), SO.row (9 : Nat) Ty.str (Sx.sortedNames (T5.addAll []
      (List.take b (List.reverse xs)) n))]) ∧ x ≤ List.length (T5.addAll [] xs n)) ∧ ∀ (b_1 : Nat), b_1 ≤ List.length (T5.addAll [] xs n) → br (decide ((↑b_1 : Int) <
      (↑(List.length (T5.addAll [] (List.take b xs) n)) : Int))) (((0 : Int) ≤ (↑b_1 : Int) ∧ (↑b_1 : Int) < (↑(List.length (T5.addAll [] (List.take b xs) n)) : Int)) ∧ (0 :
      Nat) + b_1 < List.length (Sx.sortedNames (T5.addAll [] (List.take b xs) n)) ∧ ((0 : Int) ≤ (↑b_1 : Int) ∧ (↑b_1 : Int) < (↑(List.length (T5.addAll [] (List.take b
      (List.reverse xs)) n)) : Int)) ∧ (0 : Nat) + b_1 < List.length (Sx.sortedNames (T5.addAll [] (List.take b (List.reverse xs)) n)) ∧ Sx.br (!List.getD (Sx.sortedNames
      (T5.addAll [] (List.take b xs) n)) ((0 : Nat) + b_1) (Ty.dflt Ty.str) == List.getD (Sx.sortedNames (T5.addAll [] (List.take b (List.reverse xs)) n)) ((0 : Nat) + b_1)
      (Ty.dflt Ty.str)) (∀ (b : Bool), True → br b (Q (SV.lit (Value.bool false), ([] : List Sx.SO), [(1 : Nat), (3 : Nat)])) (Q (SV.lit (Value.bool false), ([] : List Sx.SO),
      [(1 : Nat), (3 : Nat)]))) (br (decide ((↑b_1 : Int) > (0 : Int))) (((0 : Int) ≤ IntKind.wrap IntKind.i64 ((↑b_1 : Int) - (1 : Int)) ∧ IntKind.wrap IntKind.i64 ((↑b_1 :
      Int) - (1 : Int)) < (↑(List.length (T5.addAll [] (List.take b xs) n)) : Int)) ∧ (0 : Nat) + Int.toNat (IntKind.wrap IntKind.i64 ((↑b_1 : Int) - (1 : Int))) < List.length
      (Sx.sortedNames (T5.addAll [] (List.take b xs) n)) ∧ ((0 : Int) ≤ (↑b_1 : Int) ∧ (↑b_1 : Int) < (↑(List.length (T5.addAll [] (List.take b xs) n)) : Int)) ∧ (0 : Nat) + b_1
      < List.length (Sx.sortedNames (T5.addAll [] (List.take b xs) n)) ∧ Sx.br (!Go.Op.bytesLess (Array.toList (ByteArray.data (List.getD (Sx.sortedNames (T5.addAll []
      (List.take b xs) n)) ((0 : Nat) + Int.toNat (IntKind.wrap IntKind.i64 ((↑b_1 : Int) - (1 : Int)))) (Ty.dflt Ty.str)))) (Array.toList (ByteArray.data (List.getD
      (Sx.sortedNames (T5.addAll [] (List.take b xs) n)) ((0 : Nat) + b_1) (Ty.dflt Ty.str))))) (∀ (b : Bool), True → br b (Q (SV.lit (Value.bool false), ([] : List Sx.SO), [(1
      : Nat), (3 : Nat)])) (Q (SV.lit (Value.bool false), ([] : List Sx.SO), [(1 : Nat), (3 : Nat)]))) (((0 : Int) ≤ (↑b_1 : Int) ∧ (↑b_1 : Int) < (↑(List.length (T5.addAll []
      (List.take b xs) n)) : Int)) ∧ (0 : Nat) + b_1 < List.length (Sx.sortedNames (T5.addAll [] (List.take b xs) n)) ∧ ((0 : Int) ≤ (↑b_1 : Int) ∧ (↑b_1 : Int) < (↑(List.length
      (T5.addAll [] (List.take b xs) n)) : Int)) ∧ ∀ (b_2 : Bool), True → br b_2 (([SV.lit (Value.int IntKind.u32 (1 : Int)), SV.lit (Value.int IntKind.i32 (0 : Int)), SV.lit
      (Value.int IntKind.u32 (0 : Int)), SV.lit (Value.int IntKind.i32 (0 : Int)), SV.lit (Value.int IntKind.u32 (0 : Int)), SV.mp (1 : Nat)] = [SV.lit (Value.int IntKind.u32 (1
      : Int)), SV.lit (Value.int IntKind.i32 (0 : Int)), SV.lit (Value.int IntKind.u32 (0 : Int)), SV.lit (Value.int IntKind.i32 (0 : Int)), SV.lit (Value.int IntKind.u32 (0 :
      Int)), SV.mp (1 : Nat)] ∧ Sx.mapR Go.Proofs.Try.prog (9 : Go.TypeId) = Sx.mapR Go.Proofs.Try.prog (9 : Go.TypeId) ∧ ByteArray.size (List.getD (Sx.sortedNames (T5.addAll []
      (List.take b xs) n)) ((0 : Nat) + b_1) (Ty.dflt Ty.str)) ≤ Go.maxLen) ∧ (0 : Nat) + b_1 < List.length (Sx.sortedNames (T5.addAll [] (List.take b xs) n)) ∧ ([SV.lit
      (Value.int IntKind.u32 (1 : Int)), SV.lit (Value.int IntKind.i32 (0 : Int)), SV.lit (Value.int IntKind.u32 (0 : Int)), SV.lit (Value.int IntKind.i32 (0 : Int)), SV.lit
      (Value.int IntKind.u32 (0 : Int)), SV.mp (1 : Nat)] = [SV.lit (Value.int IntKind.u32 (1 : Int)), SV.lit (Value.int IntKind.i32 (0 : Int)), SV.lit (Value.int IntKind.u32 (0
      : Int)), SV.lit (Value.int IntKind.i32 (0 : Int)), SV.lit (Value.int IntKind.u32 (0 : Int)), SV.mp (1 : Nat)] ∧ Sx.mapR Go.Proofs.Try.prog (9 : Go.TypeId) = Sx.mapR
      Go.Proofs.Try.prog (9 : Go.TypeId) ∧ ByteArray.size (List.getD (Sx.sortedNames (T5.addAll [] (List.take b xs) n)) ((0 : Nat) + b_1) (Ty.dflt Ty.str)) ≤ Go.maxLen) ∧ Sx.br
      (T5.numAt (T5.addAll [] (List.take b xs) n) (List.getD (Sx.sortedNames (T5.addAll [] (List.take b xs) n)) ((0 : Nat) + b_1) (Ty.dflt Ty.str)) != T5.numAt (T5.addAll []
      (List.take b (List.reverse xs)) n) (List.getD (Sx.sortedNames (T5.addAll [] (List.take b xs) n)) ((0 : Nat) + b_1) (Ty.dflt Ty.str))) (Q (SV.lit (Value.bool false), ([] :
      List Sx.SO), [(1 : Nat), (3 : Nat)])) ((∃ (x' : Nat), ([SV.ptr (0 : Nat) (0 : Nat), SV.ptr (2 : Nat) (0 : Nat), SV.sl (4 : Nat) (1 : Nat) (0 : Nat) (List.length (T5.addAll
      [] (List.take b xs) n)), SV.sl (5 : Nat) (1 : Nat) (0 : Nat) (List.length (T5.addAll [] (List.take b (List.reverse xs)) n)), SV.lit (Value.int IntKind.i64 (IntKind.wrap
      IntKind.i64 ((↑b_1 : Int) + (1 : Int))))], [SO.cells (57 : Nat) [SV.lit (Value.int IntKind.u32 (1 : Int)), SV.lit (Value.int IntKind.i32 (0 : Int)), SV.lit (Value.int
      IntKind.u32 (0 : Int)), SV.lit (Value.int IntKind.i32 (0 : Int)), SV.lit (Value.int IntKind.u32 (0 : Int)), SV.mp (1 : Nat)], SO.tmap (Sx.mapR Go.Proofs.Try.prog (9 :
      Go.TypeId)) (31 : Nat) (T5.addAll [] (List.take b xs) n), SO.cells (57 : Nat) [SV.lit (Value.int IntKind.u32 (1 : Int)), SV.lit (Value.int IntKind.i32 (0 : Int)), SV.lit
      (Value.int IntKind.u32 (0 : Int)), SV.lit (Value.int IntKind.i32 (0 : Int)), SV.lit (Value.int IntKind.u32 (0 : Int)), SV.mp (3 : Nat)], SO.tmap (Sx.mapR
      Go.Proofs.Try.prog (9 : Go.TypeId)) (31 : Nat) (T5.addAll [] (List.take b (List.reverse xs)) n), SO.row (9 : Nat) Ty.str (Sx.sortedNames (T5.addAll [] (List.take b xs)
      n)), SO.row (9 : Nat) Ty.str (Sx.sortedNames (T5.addAll [] (List.take b (List.reverse xs)) n))]) = ([SV.ptr (0 : Nat) (0 : Nat), SV.ptr (2 : Nat) (0 : Nat), SV.sl (4 :
      Nat) (1 : Nat) (0 : Nat) (List.length (T5.addAll [] (List.take b xs) n)), SV.sl (5 : Nat) (1 : Nat) (0 : Nat) (List.length (T5.addAll [] (List.take b (List.reverse xs))
      n)), SV.lit (Value.int IntKind.i64 (↑x' : Int))], [SO.cells (57 : Nat) [SV.lit (Value.int IntKind.u32 (1 : Int)), SV.lit (Value.int IntKind.i32 (0 : Int)), SV.lit
      (Value.int IntKind.u32 (0 : Int)), SV.lit (Value.int IntKind.i32 (0 : Int)), SV.lit (Value.int IntKind.u32 (0 : Int)), SV.mp (1 : Nat)], SO.tmap (Sx.mapR
      Go.Proofs.Try.prog (9 : Go.TypeId)) (31 : Nat) (T5.addAll [] (List.take b xs) n), SO.cells (57 : Nat) [SV.lit (Value.int IntKind.u32 (1 : Int)), SV.lit (Value.int
      IntKind.i32 (0 : Int)), SV.lit (Value.int IntKind.u32 (0 : Int)), SV.lit (Value.int IntKind.i32 (0 : Int)), SV.lit (Value.int IntKind.u32 (0 : Int)), SV.mp (3 : Nat)],
      SO.tmap (Sx.mapR Go.Proofs.Try.prog (9 : Go.TypeId)) (31 : Nat) (T5.addAll [] (List.take b (List.reverse xs)) n), SO.row (9 : Nat) Ty.str (Sx.sortedNames (T5.addAll []
      (List.take b xs) n)), SO.row (9 : Nat) Ty.str (Sx.sortedNames (T5.addAll [] (List.take b (List.reverse xs)) n))]) ∧ x' ≤ List.length (T5.addAll [] xs n) ∧ List.length
      (T5.addAll [] xs n) - x' < List.length (T5.addAll [] xs n) - b_1) ∧ True)) ((0 : Nat) + b_1 < List.length (Sx.sortedNames (T5.addAll [] (List.take b xs) n)) ∧ ([SV.lit
      (Value.int IntKind.u32 (1 : Int)), SV.lit (Value.int IntKind.i32 (0 : Int)), SV.lit (Value.int IntKind.u32 (0 : Int)), SV.lit (Value.int IntKind.i32 (0 : Int)), SV.lit
      (Value.int IntKind.u32 (0 : Int)), SV.mp (1 : Nat)] = [SV.lit (Value.int IntKind.u32 (1 : Int)), SV.lit (Value.int IntKind.i32 (0 : Int)), SV.lit (Value.int IntKind.u32 (0
      : Int)), SV.lit (Value.int IntKind.i32 (0 : Int)), SV.lit (Value.int IntKind.u32 (0 : Int)), SV.mp (1 : Nat)] ∧ Sx.mapR Go.Proofs.Try.prog (9 : Go.TypeId) = Sx.mapR
      Go.Proofs.Try.prog (9 : Go.TypeId) ∧ ByteArray.size (List.getD (Sx.sortedNames (T5.addAll [] (List.take b xs) n)) ((0 : Nat) + b_1) (Ty.dflt Ty.str)) ≤ Go.maxLen) ∧
      ([SV.lit (Value.int IntKind.u32 (1 : Int)), SV.lit (Value.int IntKind.i32 (0 : Int)), SV.lit (Value.int IntKind.u32 (0 : Int)), SV.lit (Value.int IntKind.i32 (0 : Int)),
      SV.lit (Value.int IntKind.u32 (0 : Int)), SV.mp (1 : Nat)] = [SV.lit (Value.int IntKind.u32 (1 : Int)), SV.lit (Value.int IntKind.i32 (0 : Int)), SV.lit (Value.int
      IntKind.u32 (0 : Int)), SV.lit (Value.int IntKind.i32 (0 : Int)), SV.lit (Value.int IntKind.u32 (0 : Int)), SV.mp (1 : Nat)] ∧ Sx.mapR Go.Proofs.Try.prog (9 : Go.TypeId) =
      Sx.mapR Go.Proofs.Try.prog (9 : Go.TypeId) ∧ ByteArray.size (List.getD (Sx.sortedNames (T5.addAll [] (List.take b xs) n)) ((0 : Nat) + b_1) (Ty.dflt Ty.str)) ≤ Go.maxLen)
      ∧ Sx.br (T5.numAt (T5.addAll [] (List.take b xs) n) (List.getD (Sx.sortedNames (T5.addAll [] (List.take b xs) n)) ((0 : Nat) + b_1) (Ty.dflt Ty.str)) != T5.numAt
      (T5.addAll [] (List.take b (List.reverse xs)) n) (List.getD (Sx.sortedNames (T5.addAll [] (List.take b xs) n)) ((0 : Nat) + b_1) (Ty.dflt Ty.str))) (Q (SV.lit (Value.bool
      false), ([] : List Sx.SO), [(1 : Nat), (3 : Nat)])) ((∃ (x' : Nat), ([SV.ptr (0 : Nat) (0 : Nat), SV.ptr (2 : Nat) (0 : Nat), SV.sl (4 : Nat) (1 : Nat) (0 : Nat)
      (List.length (T5.addAll [] (List.take b xs) n)), SV.sl (5 : Nat) (1 : Nat) (0 : Nat) (List.length (T5.addAll [] (List.take b (List.reverse xs)) n)), SV.lit (Value.int
      IntKind.i64 (IntKind.wrap IntKind.i64 ((↑b_1 : Int) + (1 : Int))))], [SO.cells (57 : Nat) [SV.lit (Value.int IntKind.u32 (1 : Int)), SV.lit (Value.int IntKind.i32 (0 :
      Int)), SV.lit (Value.int IntKind.u32 (0 : Int)), SV.lit (Value.int IntKind.i32 (0 : Int)), SV.lit (Value.int IntKind.u32 (0 : Int)), SV.mp (1 : Nat)], SO.tmap (Sx.mapR
      Go.Proofs.Try.prog (9 : Go.TypeId)) (31 : Nat) (T5.addAll [] (List.take b xs) n), SO.cells (57 : Nat) [SV.lit (Value.int IntKind.u32 (1 : Int)), SV.lit (Value.int
      IntKind.i32 (0 : Int)), SV.lit (Value.int IntKind.u32 (0 : Int)), SV.lit (Value.int IntKind.i32 (0 : Int)), SV.lit (Value.int IntKind.u32 (0 : Int)), SV.mp (3 : Nat)],
      SO.tmap (Sx.mapR Go.Proofs.Try.prog (9 : Go.TypeId)) (31 : Nat) (T5.addAll [] (List.take b (List.reverse xs)) n), SO.row (9 : Nat) Ty.str (Sx.sortedNames (T5.addAll []
      (List.take b xs) n)), SO.row (9 : Nat) Ty.str (Sx.sortedNames (T5.addAll [] (List.take b (List.reverse xs)) n))]) = ([SV.ptr (0 : Nat) (0 : Nat), SV.ptr (2 : Nat) (0 :
      Nat), SV.sl (4 : Nat) (1 : Nat) (0 : Nat) (List.length (T5.addAll [] (List.take b xs) n)), SV.sl (5 : Nat) (1 : Nat) (0 : Nat) (List.length (T5.addAll [] (List.take b
      (List.reverse xs)) n)), SV.lit (Value.int IntKind.i64 (↑x' : Int))], [SO.cells (57 : Nat) [SV.lit (Value.int IntKind.u32 (1 : Int)), SV.lit (Value.int IntKind.i32 (0 :
      Int)), SV.lit (Value.int IntKind.u32 (0 : Int)), SV.lit (Value.int IntKind.i32 (0 : Int)), SV.lit (Value.int IntKind.u32 (0 : Int)), SV.mp (1 : Nat)], SO.tmap (Sx.mapR
      Go.Proofs.Try.prog (9 : Go.TypeId)) (31 : Nat) (T5.addAll [] (List.take b xs) n), SO.cells (57 : Nat) [SV.lit (Value.int IntKind.u32 (1 : Int)), SV.lit (Value.int
      IntKind.i32 (0 : Int)), SV.lit (Value.int IntKind.u32 (0 : Int)), SV.lit (Value.int IntKind.i32 (0 : Int)), SV.lit (Value.int IntKind.u32 (0 : Int)), SV.mp (3 : Nat)],
      SO.tmap (Sx.mapR Go.Proofs.Try.prog (9 : Go.TypeId)) (31 : Nat) (T5.addAll [] (List.take b (List.reverse xs)) n), SO.row (9 : Nat) Ty.str (Sx.sortedNames (T5.addAll []
      (List.take b xs) n)), SO.row (9 : Nat) Ty.str (Sx.sortedNames (T5.addAll [] (List.take b (List.reverse xs)) n))]) ∧ x' ≤ List.length (T5.addAll [] xs n) ∧ List.length
      (T5.addAll [] xs n) - x' < List.length (T5.addAll [] xs n) - b_1) ∧ True)))) (((0 : Int) ≤ (↑b_1 : Int) ∧ (↑b_1 : Int) < (↑(List.length (T5.addAll [] (List.take b xs) n))
      : Int)) ∧ (0 : Nat) + b_1 < List.length (Sx.sortedNames (T5.addAll [] (List.take b xs) n)) ∧ ((0 : Int) ≤ (↑b_1 : Int) ∧ (↑b_1 : Int) < (↑(List.length (T5.addAll []
      (List.take b xs) n)) : Int)) ∧ ∀ (b_2 : Bool), True → br b_2 (([SV.lit (Value.int IntKind.u32 (1 : Int)), SV.lit (Value.int IntKind.i32 (0 : Int)), SV.lit (Value.int
      IntKind.u32 (0 : Int)), SV.lit (Value.int IntKind.i32 (0 : Int)), SV.lit (Value.int IntKind.u32 (0 : Int)), SV.mp (1 : Nat)] = [SV.lit (Value.int IntKind.u32 (1 : Int)),
      SV.lit (Value.int IntKind.i32 (0 : Int)), SV.lit (Value.int IntKind.u32 (0 : Int)), SV.lit (Value.int IntKind.i32 (0 : Int)), SV.lit (Value.int IntKind.u32 (0 : Int)),
      SV.mp (1 : Nat)] ∧ Sx.mapR Go.Proofs.Try.prog (9 : Go.TypeId) = Sx.mapR Go.Proofs.Try.prog (9 : Go.TypeId) ∧ ByteArray.size (List.getD (Sx.sortedNames (T5.addAll []
      (List.take b xs) n)) ((0 : Nat) + b_1) (Ty.dflt Ty.str)) ≤ Go.maxLen) ∧ (0 : Nat) + b_1 < List.length (Sx.sortedNames (T5.addAll [] (List.take b xs) n)) ∧ ([SV.lit
      (Value.int IntKind.u32 (1 : Int)), SV.lit (Value.int IntKind.i32 (0 : Int)), SV.lit (Value.int IntKind.u32 (0 : Int)), SV.lit (Value.int IntKind.i32 (0 : Int)), SV.lit
      (Value.int IntKind.u32 (0 : Int)), SV.mp (1 : Nat)] = [SV.lit (Value.int IntKind.u32 (1 : Int)), SV.lit (Value.int IntKind.i32 (0 : Int)), SV.lit (Value.int IntKind.u32 (0
      : Int)), SV.lit (Value.int IntKind.i32 (0 : Int)), SV.lit (Value.int IntKind.u32 (0 : Int)), SV.mp (1 : Nat)] ∧ Sx.mapR Go.Proofs.Try.prog (9 : Go.TypeId) = Sx.mapR
      Go.Proofs.Try.prog (9 : Go.TypeId) ∧ ByteArray.size (List.getD (Sx.sortedNames (T5.addAll [] (List.take b xs) n)) ((0 : Nat) + b_1) (Ty.dflt Ty.str)) ≤ Go.maxLen) ∧ Sx.br
      (T5.numAt (T5.addAll [] (List.take b xs) n) (List.getD (Sx.sortedNames (T5.addAll [] (List.take b xs) n)) ((0 : Nat) + b_1) (Ty.dflt Ty.str)) != T5.numAt (T5.addAll []
      (List.take b (List.reverse xs)) n) (List.getD (Sx.sortedNames (T5.addAll [] (List.take b xs) n)) ((0 : Nat) + b_1) (Ty.dflt Ty.str))) (Q (SV.lit (Value.bool false), ([] :
      List Sx.SO), [(1 : Nat), (3 : Nat)])) ((∃ (x' : Nat), ([SV.ptr (0 : Nat) (0 : Nat), SV.ptr (2 : Nat) (0 : Nat), SV.sl (4 : Nat) (1 : Nat) (0 : Nat) (List.length (T5.addAll
      [] (List.take b xs) n)), SV.sl (5 : Nat) (1 : Nat) (0 : Nat) (List.length (T5.addAll [] (List.take b (List.reverse xs)) n)), SV.lit (Value.int IntKind.i64 (IntKind.wrap
      IntKind.i64 ((↑b_1 : Int) + (1 : Int))))], [SO.cells (57 : Nat) [SV.lit (Value.int IntKind.u32 (1 : Int)), SV.lit (Value.int IntKind.i32 (0 : Int)), SV.lit (Value.int
      IntKind.u32 (0 : Int)), SV.lit (Value.int IntKind.i32 (0 : Int)), SV.lit (Value.int IntKind.u32 (0 : Int)), SV.mp (1 : Nat)], SO.tmap (Sx.mapR Go.Proofs.Try.prog (9 :
      Go.TypeId)) (31 : Nat) (T5.addAll [] (List.take b xs) n), SO.cells (57 : Nat) [SV.lit (Value.int IntKind.u32 (1 : Int)), SV.lit (Value.int IntKind.i32 (0 : Int)), SV.lit
      (Value.int IntKind.u32 (0 : Int)), SV.lit (Value.int IntKind.i32 (0 : Int)), SV.lit (Value.int IntKind.u32 (0 : Int)), SV.mp (3 : Nat)], SO.tmap (Sx.mapR
      Go.Proofs.Try.prog (9 : Go.TypeId)) (31 : Nat) (T5.addAll [] (List.take b (List.reverse xs)) n), SO.row (9 : Nat) Ty.str (Sx.sortedNames (T5.addAll [] (List.take b xs)
      n)), SO.row (9 : Nat) Ty.str (Sx.sortedNames (T5.addAll [] (List.take b (List.reverse xs)) n))]) = ([SV.ptr (0 : Nat) (0 : Nat), SV.ptr (2 : Nat) (0 : Nat), SV.sl (4 :
      Nat) (1 : Nat) (0 : Nat) (List.length (T5.addAll [] (List.take b xs) n)), SV.sl (5 : Nat) (1 : Nat) (0 : Nat) (List.length (T5.addAll [] (List.take b (List.reverse xs))
      n)), SV.lit (Value.int IntKind.i64 (↑x' : Int))], [SO.cells (57 : Nat) [SV.lit (Value.int IntKind.u32 (1 : Int)), SV.lit (Value.int IntKind.i32 (0 : Int)), SV.lit
      (Value.int IntKind.u32 (0 : Int)), SV.lit (Value.int IntKind.i32 (0 : Int)), SV.lit (Value.int IntKind.u32 (0 : Int)), SV.mp (1 : Nat)], SO.tmap (Sx.mapR
      Go.Proofs.Try.prog (9 : Go.TypeId)) (31 : Nat) (T5.addAll [] (List.take b xs) n), SO.cells (57 : Nat) [SV.lit (Value.int IntKind.u32 (1 : Int)), SV.lit (Value.int
      IntKind.i32 (0 : Int)), SV.lit (Value.int IntKind.u32 (0 : Int)), SV.lit (Value.int IntKind.i32 (0 : Int)), SV.lit (Value.int IntKind.u32 (0 : Int)), SV.mp (3 : Nat)],
      SO.tmap (Sx.mapR Go.Proofs.Try.prog (9 : Go.TypeId)) (31 : Nat) (T5.addAll [] (List.take b (List.reverse xs)) n), SO.row (9 : Nat) Ty.str (Sx.sortedNames (T5.addAll []
      (List.take b xs) n)), SO.row (9 : Nat) Ty.str (Sx.sortedNames (T5.addAll [] (List.take b (List.reverse xs)) n))]) ∧ x' ≤ List.length (T5.addAll [] xs n) ∧ List.length
      (T5.addAll [] xs n) - x' < List.length (T5.addAll [] xs n) - b_1) ∧ True)) ((0 : Nat) + b_1 < List.length (Sx.sortedNames (T5.addAll [] (List.take b xs) n)) ∧ ([SV.lit
      (Value.int IntKind.u32 (1 : Int)), SV.lit (Value.int IntKind.i32 (0 : Int)), SV.lit (Value.int IntKind.u32 (0 : Int)), SV.lit (Value.int IntKind.i32 (0 : Int)), SV.lit
      (Value.int IntKind.u32 (0 : Int)), SV.mp (1 : Nat)] = [SV.lit (Value.int IntKind.u32 (1 : Int)), SV.lit (Value.int IntKind.i32 (0 : Int)), SV.lit (Value.int IntKind.u32 (0
      : Int)), SV.lit (Value.int IntKind.i32 (0 : Int)), SV.lit (Value.int IntKind.u32 (0 : Int)), SV.mp (1 : Nat)] ∧ Sx.mapR Go.Proofs.Try.prog (9 : Go.TypeId) = Sx.mapR
      Go.Proofs.Try.prog (9 : Go.TypeId) ∧ ByteArray.size (List.getD (Sx.sortedNames (T5.addAll [] (List.take b xs) n)) ((0 : Nat) + b_1) (Ty.dflt Ty.str)) ≤ Go.maxLen) ∧
      ([SV.lit (Value.int IntKind.u32 (1 : Int)), SV.lit (Value.int IntKind.i32 (0 : Int)), SV.lit (Value.int IntKind.u32 (0 : Int)), SV.lit (Value.int IntKind.i32 (0 : Int)),
      SV.lit (Value.int IntKind.u32 (0 : Int)), SV.mp (1 : Nat)] = [SV.lit (Value.int IntKind.u32 (1 : Int)), SV.lit (Value.int IntKind.i32 (0 : Int)), SV.lit (Value.int
      IntKind.u32 (0 : Int)), SV.lit (Value.int IntKind.i32 (0 : Int)), SV.lit (Value.int IntKind.u32 (0 : Int)), SV.mp (1 : Nat)] ∧ Sx.mapR Go.Proofs.Try.prog (9 : Go.TypeId) =
      Sx.mapR Go.Proofs.Try.prog (9 : Go.TypeId) ∧ ByteArray.size (List.getD (Sx.sortedNames (T5.addAll [] (List.take b xs) n)) ((0 : Nat) + b_1) (Ty.dflt Ty.str)) ≤ Go.maxLen)
      ∧ Sx.br (T5.numAt (T5.addAll [] (List.take b xs) n) (List.getD (Sx.sortedNames (T5.addAll [] (List.take b xs) n)) ((0 : Nat) + b_1) (Ty.dflt Ty.str)) != T5.numAt
      (T5.addAll [] (List.take b (List.reverse xs)) n) (List.getD (Sx.sortedNames (T5.addAll [] (List.take b xs) n)) ((0 : Nat) + b_1) (Ty.dflt Ty.str))) (Q (SV.lit (Value.bool
      false), ([] : List Sx.SO), [(1 : Nat), (3 : Nat)])) ((∃ (x' : Nat), ([SV.ptr (0 : Nat) (0 : Nat), SV.ptr (2 : Nat) (0 : Nat), SV.sl (4 : Nat) (1 : Nat) (0 : Nat)
      (List.length (T5.addAll [] (List.take b xs) n)), SV.sl (5 : Nat) (1 : Nat) (0 : Nat) (List.length (T5.addAll [] (List.take b (List.reverse xs)) n)), SV.lit (Value.int
      IntKind.i64 (IntKind.wrap IntKind.i64 ((↑b_1 : Int) + (1 : Int))))], [SO.cells (57 : Nat) [SV.lit (Value.int IntKind.u32 (1 : Int)), SV.lit (Value.int IntKind.i32 (0 :
      Int)), SV.lit (Value.int IntKind.u32 (0 : Int)), SV.lit (Value.int IntKind.i32 (0 : Int)), SV.lit (Value.int IntKind.u32 (0 : Int)), SV.mp (1 : Nat)], SO.tmap (Sx.mapR
      Go.Proofs.Try.prog (9 : Go.TypeId)) (31 : Nat) (T5.addAll [] (List.take b xs) n), SO.cells (57 : Nat) [SV.lit (Value.int IntKind.u32 (1 : Int)), SV.lit (Value.int
      IntKind.i32 (0 : Int)), SV.lit (Value.int IntKind.u32 (0 : Int)), SV.lit (Value.int IntKind.i32 (0 : Int)), SV.lit (Value.int IntKind.u32 (0 : Int)), SV.mp (3 : Nat)],
      SO.tmap (Sx.mapR Go.Proofs.Try.prog (9 : Go.TypeId)) (31 : Nat) (T5.addAll [] (List.take b (List.reverse xs)) n), SO.row (9 : Nat) Ty.str (Sx.sortedNames (T5.addAll []
      (List.take b xs) n)), SO.row (9 : Nat) Ty.str (Sx.sortedNames (T5.addAll [] (List.take b (List.reverse xs)) n))]) = ([SV.ptr (0 : Nat) (0 : Nat), SV.ptr (2 : Nat) (0 :
      Nat), SV.sl (4 : Nat) (1 : Nat) (0 : Nat) (List.length (T5.addAll [] (List.take b xs) n)), SV.sl (5 : Nat) (1 : Nat) (0 : Nat) (List.length (T5.addAll [] (List.take b
      (List.reverse xs)) n)), SV.lit (Value.int IntKind.i64 (↑x' : Int))], [SO.cells (57 : Nat) [SV.lit (Value.int IntKind.u32 (1 : Int)), SV.lit (Value.int IntKind.i32 (0 :
      Int)), SV.lit (Value.int IntKind.u32 (0 : Int)), SV.lit (Value.int IntKind.i32 (0 : Int)), SV.lit (Value.int IntKind.u32 (0 : Int)), SV.mp (1 : Nat)], SO.tmap (Sx.mapR
      Go.Proofs.Try.prog (9 : Go.TypeId)) (31 : Nat) (T5.addAll [] (List.take b xs) n), SO.cells (57 : Nat) [SV.lit (Value.int IntKind.u32 (1 : Int)), SV.lit (Value.int
      IntKind.i32 (0 : Int)), SV.lit (Value.int IntKind.u32 (0 : Int)), SV.lit (Value.int IntKind.i32 (0 : Int)), SV.lit (Value.int IntKind.u32 (0 : Int)), SV.mp (3 : Nat)],
      SO.tmap (Sx.mapR Go.Proofs.Try.prog (9 : Go.TypeId)) (31 : Nat) (T5.addAll [] (List.take b (List.reverse xs)) n), SO.row (9 : Nat) Ty.str (Sx.sortedNames (T5.addAll []
      (List.take b xs) n)), SO.row (9 : Nat) Ty.str (Sx.sortedNames (T5.addAll [] (List.take b (List.reverse xs)) n))]) ∧ x' ≤ List.length (T5.addAll [] xs n) ∧ List.length
      (T5.addAll [] xs n) - x' < List.length (T5.addAll [] xs n) - b_1) ∧ True))))) (Q (SV.lit (Value.bool true), ([] : List Sx.SO), [(1 : Nat), (3 : Nat)]))))))) ([SV.lit
      (Value.int IntKind.u32 (0 : Int)), SV.lit (Value.int IntKind.i32 (0 : Int)), SV.lit (Value.int IntKind.u32 (0 : Int)), SV.lit (Value.int IntKind.i32 (0 : Int)), SV.lit
      (Value.int IntKind.u32 (0 : Int)), SV.lit (Value.map Option.none)] = [SV.lit (Value.int IntKind.u32 (0 : Int)), SV.lit (Value.int IntKind.i32 (0 : Int)), SV.lit (Value.int
      IntKind.u32 (0 : Int)), SV.lit (Value.int IntKind.i32 (0 : Int)), SV.lit (Value.int IntKind.u32 (0 : Int)), SV.lit (Value.map Option.none)] ∧ [SV.lit (Value.int
      IntKind.u32 (0 : Int)), SV.lit (Value.int IntKind.i32 (0 : Int)), SV.lit (Value.int IntKind.u32 (0 : Int)), SV.lit (Value.int IntKind.i32 (0 : Int)), SV.lit (Value.int
      IntKind.u32 (0 : Int)), SV.lit (Value.map Option.none)] = [SV.lit (Value.int IntKind.u32 (0 : Int)), SV.lit (Value.int IntKind.i32 (0 : Int)), SV.lit (Value.int
      IntKind.u32 (0 : Int)), SV.lit (Value.int IntKind.i32 (0 : Int)), SV.lit (Value.int IntKind.u32 (0 : Int)), SV.lit (Value.map Option.none)] ∧ (∃ (x : Nat), ([SV.ptr (0 :
      Nat) (0 : Nat), SV.ptr (2 : Nat) (0 : Nat), SV.sl (4 : Nat) (1 : Nat) (0 : Nat) (0 : Nat), SV.sl (5 : Nat) (1 : Nat) (0 : Nat) (0 : Nat), SV.lit (Value.int IntKind.i64 (0
      : Int))], [SO.cells (57 : Nat) [SV.lit (Value.int IntKind.u32 (1 : Int)), SV.lit (Value.int IntKind.i32 (0 : Int)), SV.lit (Value.int IntKind.u32 (0 : Int)), SV.lit
      (Value.int IntKind.i32 (0 : Int)), SV.lit (Value.int IntKind.u32 (0 : Int)), SV.mp (1 : Nat)], SO.tmap (Sx.mapR Go.Proofs.Try.prog (9 : Go.TypeId)) (31 : Nat) [], SO.cells
      (57 : Nat) [SV.lit (Value.int IntKind.u32 (1 : Int)), SV.lit (Value.int IntKind.i32 (0 : Int)), SV.lit (Value.int IntKind.u32 (0 : Int)), SV.lit (Value.int IntKind.i32 (0
      : Int)), SV.lit (Value.int IntKind.u32 (0 : Int)), SV.mp (3 : Nat)], SO.tmap (Sx.mapR Go.Proofs.Try.prog (9 : Go.TypeId)) (31 : Nat) [], SO.row (9 : Nat) Ty.str [], SO.row
      (9 : Nat) Ty.str []]) = ([SV.ptr (0 : Nat) (0 : Nat), SV.ptr (2 : Nat) (0 : Nat), SV.sl (4 : Nat) (1 : Nat) (0 : Nat) (0 : Nat), SV.sl (5 : Nat) (1 : Nat) (0 : Nat) (0 :
      Nat), SV.lit (Value.int IntKind.i64 (↑x : Int))], [SO.cells (57 : Nat) [SV.lit (Value.int IntKind.u32 (1 : Int)), SV.lit (Value.int IntKind.i32 (0 : Int)), SV.lit
      (Value.int IntKind.u32 (0 : Int)), SV.lit (Value.int IntKind.i32 (0 : Int)), SV.lit (Value.int IntKind.u32 (0 : Int)), SV.mp (1 : Nat)], SO.tmap (Sx.mapR
      Go.Proofs.Try.prog (9 : Go.TypeId)) (31 : Nat) [], SO.cells (57 : Nat) [SV.lit (Value.int IntKind.u32 (1 : Int)), SV.lit (Value.int IntKind.i32 (0 : Int)), SV.lit
      (Value.int IntKind.u32 (0 : Int)), SV.lit (Value.int IntKind.i32 (0 : Int)), SV.lit (Value.int IntKind.u32 (0 : Int)), SV.mp (3 : Nat)], SO.tmap (Sx.mapR
      Go.Proofs.Try.prog (9 : Go.TypeId)) (31 : Nat) [], SO.row (9 : Nat) Ty.str [], SO.row (9 : Nat) Ty.str []]) ∧ x ≤ List.length (T5.addAll [] xs n)) ∧ ∀ (b : Nat), b ≤
      List.length (T5.addAll [] xs n) → Q (SV.lit (Value.bool true), ([] : List Sx.SO), [(1 : Nat), (3 : Nat)])))) (by kernel_rfl) ?_
  refine br_intro (fun _ => hq _) (fun h30 => ?_)
  have h30 : xs.length ≤ 30 := by have g := of_decide_eq_false h30; omega
  refine br_intro (fun hpos => ?_) (fun hneg => ?_)
  · have hpos : 0 < xs.length := by have g := of_decide_eq_true hpos; omega
    have hget : ∀ k, k < xs.length → (xs.getD k Ty.str.dflt).size ≤ 281474976710656 := fun k hk => hx _ (by
      rw [List.getD_eq_getElem?_getD, List.getElem?_eq_getElem hk]; exact List.getElem_mem hk)
    have hfew : ∀ i, (addAll [] (xs.take i) n).length ≤ 1000000 := fun i => by
      have := addAll_few (xs.take i) n
      rw [List.length_take] at this; omega
    have hfew' : ∀ i, (addAll [] (xs.reverse.take i) n).length ≤ 1000000 := fun i => by
      have := addAll_few (xs.reverse.take i) n
      rw [List.length_take, List.length_reverse] at this; omega
    have hL0 : IntKind.i64.wrap (IntKind.i64.wrap ((xs.length : Int) - 1) - 0) = ((xs.length - 1 - 0 : Nat) : Int) := last_of xs.length 0 hpos (by omega)
    have hr0 : 0 < xs.reverse.length := by simpa using hpos
    refine ⟨⟨by omega, by omega⟩, hpos, br_intro (fun _ => hq _) (fun _ => ⟨⟨by omega, by omega⟩, hpos, ⟨rfl, hget 0 hpos⟩, ?_⟩)⟩
    rw [hL0, Int.toNat_natCast, getD_rev xs 0 hpos]
    refine ⟨⟨by omega, by omega⟩, by omega, ⟨rfl, by rw [← getD_rev xs 0 hpos]; exact hget _ (by omega)⟩, ⟨1, ?_, by omega, by omega⟩, fun i hi => ?_⟩
    · rw [first_add xs n hpos Ty.str.dflt, first_add xs.reverse n hr0 Ty.str.dflt]; rfl
    refine br_intro (fun hlt => ?_) (fun hge => ?_)
    · have hlt : i < xs.length := by have g := of_decide_eq_true hlt; omega
      have hlr : i < xs.reverse.length := by simpa using hlt
      refine ⟨⟨by omega, by omega⟩, hlt, br_intro (fun _ => hq _) (fun _ => ⟨⟨by omega, by omega⟩, hlt, ⟨rfl, rfl, hget i hlt, hfew i⟩, ?_⟩)⟩
      rw [last_of xs.length i hlt (by omega), Int.toNat_natCast, getD_rev xs i hlt]
      refine ⟨⟨by omega, by omega⟩, by omega, ⟨rfl, rfl, by rw [← getD_rev xs i hlt]; exact hget _ (by omega), hfew' i⟩, ⟨i + 1, ?_, by omega, by omega⟩, trivial⟩
      rw [wrap1 i (by omega), take_more xs i hlt Ty.str.dflt, take_more xs.reverse i hlr Ty.str.dflt, addAll_snoc, addAll_snoc]
    · have hge : i = xs.length := by have g := of_decide_eq_false hge; omega
      subst hge
      have e1 : xs.take xs.length = xs := List.take_length
      have e2 : xs.reverse.take xs.length = xs.reverse := by rw [← List.length_reverse, List.take_length]
      have hf := addAll_few xs n
      rw [e1, e2, length_rev, sorted_rev]
      refine ⟨⟨rfl, rfl, by omega⟩, ⟨rfl, rfl, by omega⟩, br_no (by simp) (br_no (decide_eq_false (by omega)) ⟨⟨0, rfl, by omega⟩, fun j hj => br_intro (fun hlt => ?_) (fun _ => hq _)⟩)⟩
      have hlt : j < (addAll [] xs n).length := by have g := of_decide_eq_true hlt; omega
      have hsl := sorted_length (addAll [] xs n)
      have hn := (addAll_names (l := []) (by simp) n xs).1
      have hsz : ((sortedNames (addAll [] xs n)).getD j Ty.str.dflt).size ≤ maxLen := by
        have hm : (sortedNames (addAll [] xs n)).getD j Ty.str.dflt ∈ sortedNames (addAll [] xs n) := by
          rw [List.getD_eq_getElem?_getD, List.getElem?_eq_getElem (by omega)]; exact List.getElem_mem _
        have := hx _ ((addAll_mem xs n _).1 hm)
        unfold maxLen; omega
      have hj' : j < (sortedNames (addAll [] xs n)).length := by omega
      have hb1 : 0 ≤ (j : Int) ∧ (j : Int) < ((addAll [] xs n).length : Int) := ⟨by omega, by omega⟩
      rw [Nat.zero_add, wrap1 j (by omega)]
      refine ⟨hb1, hj', hb1, hj', br_no (by rw [beq_self_bytes]; rfl) (br_intro (fun hj0 => ?_) (fun _ => ?_))⟩
      · have hj0 : 0 < j := by have g := of_decide_eq_true hj0; omega
        have hw : IntKind.i64.wrap ((j : Int) - 1) = ((j - 1 : Nat) : Int) := by rw [IntKind.wrap_i64]; omega
        rw [hw, Int.toNat_natCast, Nat.zero_add]
        have hrise : Op.bytesLess ((sortedNames (addAll [] xs n)).getD (j - 1) Ty.str.dflt).data.toList ((sortedNames (addAll [] xs n)).getD j Ty.str.dflt).data.toList = true := sorted_rises hn (j - 1) j (by omega) hj'
        refine ⟨⟨by omega, by omega⟩, by omega, hb1, hj', br_no (by rw [hrise]; rfl) ⟨hb1, hj', hb1, fun b _ => ?_⟩⟩
        refine br_intro (fun _ => ⟨⟨rfl, rfl, hsz⟩, hj', ⟨rfl, rfl, hsz⟩, ?_⟩) (fun _ => ⟨hj', ⟨rfl, rfl, hsz⟩, ⟨rfl, rfl, hsz⟩, ?_⟩)
        · exact br_no (by rw [numAt_rev]; simp) ⟨⟨j + 1, rfl, by omega, by omega⟩, trivial⟩
        · exact br_no (by rw [numAt_rev]; simp) ⟨⟨j + 1, rfl, by omega, by omega⟩, trivial⟩
      · refine ⟨hb1, hj', hb1, fun b _ => ?_⟩
        refine br_intro (fun _ => ⟨⟨rfl, rfl, hsz⟩, hj', ⟨rfl, rfl, hsz⟩, ?_⟩) (fun _ => ⟨hj', ⟨rfl, rfl, hsz⟩, ⟨rfl, rfl, hsz⟩, ?_⟩)
        · exact br_no (by rw [numAt_rev]; simp) ⟨⟨j + 1, rfl, by omega, by omega⟩, trivial⟩
        · exact br_no (by rw [numAt_rev]; simp) ⟨⟨j + 1, rfl, by omega, by omega⟩, trivial⟩
  · have hneg : xs = [] := List.eq_nil_of_length_eq_zero (by have g := of_decide_eq_false hneg; omega)
    subst hneg
    refine ⟨rfl, rfl, ⟨0, rfl, by omega⟩, fun j hj => ?_⟩
    exact hq _
end T5
