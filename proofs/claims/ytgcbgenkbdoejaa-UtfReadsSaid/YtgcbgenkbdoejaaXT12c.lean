/- Part of a proof: the walk of the functions that the law calls. -/
import Derived.Test.YtgcbgenkbdoejaaSxT
import Derived.Test.YtgcbgenkbdoejaaXT12b
set_option linter.unusedVariables false
open Go Sx Go.Proofs
namespace T12
set_option maxRecDepth 100000
set_option maxHeartbeats 1000000
attribute [local irreducible] Tree.Leads
def flat (S : List ByteArray) : List Int := S.flatMap strInts
theorem flat_succ (S : List ByteArray) (i : Nat) (h : i < S.length) (d : ByteArray) : flat (S.take (i + 1)) = flat (S.take i) ++ strInts (S.getD i d) := by
  rw [List.take_add_one, List.getElem?_eq_getElem h, List.getD_eq_getElem?_getD, List.getElem?_eq_getElem h]
  simp only [flat, List.flatMap_append, Option.toList, List.flatMap_cons, List.flatMap_nil, List.append_nil, Option.getD]
theorem flat_mono (S : List ByteArray) (i m : Nat) (h : i ≤ m) : (flat (S.take i)).length ≤ (flat (S.take m)).length := by
  have : S.take m = S.take i ++ (S.take m).drop i := by
    conv => lhs; rw [← List.take_append_drop i (S.take m), List.take_take, Nat.min_eq_left h]
  rw [this, flat, flat, List.flatMap_append, List.length_append]; omega
theorem byteAt_take (s : ByteArray) (j : Nat) (h : j < s.size) : (strInts s).take (j + 1) = (strInts s).take j ++ [byteAt s j] ∧ Byte (byteAt s j) := by
  have h' : j < (strInts s).length := by rw [strInts_size]; exact h
  have e : byteAt s j = (strInts s)[j] := by
    rw [byteAt_eq, Int.toNat_natCast, List.getD_eq_getElem?_getD, List.getElem?_eq_getElem h']; rfl
  constructor
  · rw [List.take_add_one, List.getElem?_eq_getElem h', e]; rfl
  · rw [e]; exact strInts_bytes s _ (List.getElem_mem h')
noncomputable def A14 (l0 : List Int) (S : List ByteArray) (m : Nat) : Ann := { live := [0, 5, 11, 12, 13], mv := [], nilS := [(5, 21, .int .i32)], head := fun vals _ => match vals with | [a, _, c, d, _] => { X := Nat, inv := fun i => ([a, .sl 2 1 0 (feed l0 (flat (S.take i))).1.length, c, d, .lit (.int .i64 i)], [.cells 29 [.lit (.string (bsOf (feed l0 (flat (S.take i))).2))], .row 9 .str S, .row 21 (.int .i32) (feed l0 (flat (S.take i))).1]), ok := fun i => i ≤ m, mu := fun i => m - i } | _ => { X := Nat, inv := fun _ => ([], []), ok := fun _ => False, mu := fun _ => 0 } }
noncomputable def B14 : Ann := { live := [0, 5, 7, 11, 12, 13, 18, 19], mv := [], head := fun vals H => match vals, H with | [a, _, .lit (.string s), d, e, f, g, _], [.cells 29 [.lit (.string h)], x, .row 21 (.int .i32) R] => { X := Nat, inv := fun i => ([a, .sl 2 1 0 (R ++ (feed (strInts h) ((strInts s).take i)).1).length, .lit (.string s), d, e, f, g, .lit (.int .i64 i)], [.cells 29 [.lit (.string (bsOf (feed (strInts h) ((strInts s).take i)).2))], x, .row 21 (.int .i32) (R ++ (feed (strInts h) ((strInts s).take i)).1)]), ok := fun i => i ≤ s.size, mu := fun i => s.size - i } | _, _ => { X := Nat, inv := fun _ => ([], []), ok := fun _ => False, mu := fun _ => 0 } }
theorem v14 (h : ByteArray) (S : List ByteArray) (m : Nat) (Q : SV × Heap × List Nat → Prop) (hg : Good (strInts h)) (hm : m ≤ S.length) (hT : (flat (S.take m)).length ≤ 900000) (hm2 : m ≤ 1000000)
    (hq : Q (.sl 2 1 0 (feed (strInts h) (flat (S.take m))).1.length, [.cells 29 [.lit (.string (bsOf (feed (strInts h) (flat (S.take m))).2))], .row 9 .str S, .row 21 (.int .i32) (feed (strInts h) (flat (S.take m))).1], [])) :
    (bodySumm T3 Try.prog Try.f14 (An2 0 (A14 (strInts h) S m) 2 B14) [.ptr 0 0, .sl 1 1 0 m] [.cells 29 [.lit (.string h)], .row 9 .str S]).Leads Q := by
  refine Sx.by_text (q :=
      (∃ (x : Nat), ([Sx.SV.ptr (0 : Nat) (0 : Nat), Sx.SV.sl (2 : Nat) (1 : Nat) (0 : Nat) (0 : Nat), Sx.SV.sl (1 : Nat) (1 : Nat) (0 : Nat) m, Sx.SV.lit (Go.Value.int
      Go.IntKind.i64 (↑m : Int)), Sx.SV.lit (Go.Value.int Go.IntKind.i64 (0 : Int))], [Sx.SO.cells (29 : Nat) [Sx.SV.lit (Go.Value.string h)], Sx.SO.row (9 : Nat) Sx.Ty.str S,
      Sx.SO.row (21 : Nat) (Sx.Ty.int Go.IntKind.i32) []]) = ([Sx.SV.ptr (0 : Nat) (0 : Nat), Sx.SV.sl (2 : Nat) (1 : Nat) (0 : Nat) (List.length (Prod.fst (T12.feed (Sx.strInts
      h) (T12.flat (List.take x S))))), Sx.SV.sl (1 : Nat) (1 : Nat) (0 : Nat) m, Sx.SV.lit (Go.Value.int Go.IntKind.i64 (↑m : Int)), Sx.SV.lit (Go.Value.int Go.IntKind.i64 (↑x
      : Int))], [Sx.SO.cells (29 : Nat) [Sx.SV.lit (Go.Value.string (Sx.bsOf (Prod.snd (T12.feed (Sx.strInts h) (T12.flat (List.take x S))))))], Sx.SO.row (9 : Nat) Sx.Ty.str S,
      Sx.SO.row (21 : Nat) (Sx.Ty.int Go.IntKind.i32) (Prod.fst (T12.feed (Sx.strInts h) (T12.flat (List.take x S))))]) ∧ x ≤ m) ∧ ∀ (b : Nat), b ≤ m → Sx.br (Decidable.decide
      ((↑b : Int) < (↑m : Int))) (((0 : Int) ≤ (↑b : Int) ∧ (↑b : Int) < (↑m : Int)) ∧ (0 : Nat) + b < List.length S ∧ (∃ (x : Nat), ([Sx.SV.ptr (0 : Nat) (0 : Nat), Sx.SV.sl (2
      : Nat) (1 : Nat) (0 : Nat) (List.length (Prod.fst (T12.feed (Sx.strInts h) (T12.flat (List.take b S))))), Sx.SV.lit (Go.Value.string (List.getD S ((0 : Nat) + b)
      (Sx.Ty.dflt Sx.Ty.str))), Sx.SV.sl (1 : Nat) (1 : Nat) (0 : Nat) m, Sx.SV.lit (Go.Value.int Go.IntKind.i64 (↑m : Int)), Sx.SV.lit (Go.Value.int Go.IntKind.i64 (↑b : Int)),
      Sx.SV.lit (Go.Value.int Go.IntKind.i64 (↑(ByteArray.size (List.getD S ((0 : Nat) + b) (Sx.Ty.dflt Sx.Ty.str))) : Int)), Sx.SV.lit (Go.Value.int Go.IntKind.i64 (0 : Int))],
      [Sx.SO.cells (29 : Nat) [Sx.SV.lit (Go.Value.string (Sx.bsOf (Prod.snd (T12.feed (Sx.strInts h) (T12.flat (List.take b S))))))], Sx.SO.row (9 : Nat) Sx.Ty.str S, Sx.SO.row
      (21 : Nat) (Sx.Ty.int Go.IntKind.i32) (Prod.fst (T12.feed (Sx.strInts h) (T12.flat (List.take b S))))]) = ([Sx.SV.ptr (0 : Nat) (0 : Nat), Sx.SV.sl (2 : Nat) (1 : Nat) (0
      : Nat) (List.length (Prod.fst (T12.feed (Sx.strInts h) (T12.flat (List.take b S))) ++ Prod.fst (T12.feed (Sx.strInts (Sx.bsOf (Prod.snd (T12.feed (Sx.strInts h) (T12.flat
      (List.take b S)))))) (List.take x (Sx.strInts (List.getD S ((0 : Nat) + b) (Sx.Ty.dflt Sx.Ty.str))))))), Sx.SV.lit (Go.Value.string (List.getD S ((0 : Nat) + b)
      (Sx.Ty.dflt Sx.Ty.str))), Sx.SV.sl (1 : Nat) (1 : Nat) (0 : Nat) m, Sx.SV.lit (Go.Value.int Go.IntKind.i64 (↑m : Int)), Sx.SV.lit (Go.Value.int Go.IntKind.i64 (↑b : Int)),
      Sx.SV.lit (Go.Value.int Go.IntKind.i64 (↑(ByteArray.size (List.getD S ((0 : Nat) + b) (Sx.Ty.dflt Sx.Ty.str))) : Int)), Sx.SV.lit (Go.Value.int Go.IntKind.i64 (↑x :
      Int))], [Sx.SO.cells (29 : Nat) [Sx.SV.lit (Go.Value.string (Sx.bsOf (Prod.snd (T12.feed (Sx.strInts (Sx.bsOf (Prod.snd (T12.feed (Sx.strInts h) (T12.flat (List.take b
      S)))))) (List.take x (Sx.strInts (List.getD S ((0 : Nat) + b) (Sx.Ty.dflt Sx.Ty.str))))))))], Sx.SO.row (9 : Nat) Sx.Ty.str S, Sx.SO.row (21 : Nat) (Sx.Ty.int
      Go.IntKind.i32) (Prod.fst (T12.feed (Sx.strInts h) (T12.flat (List.take b S))) ++ Prod.fst (T12.feed (Sx.strInts (Sx.bsOf (Prod.snd (T12.feed (Sx.strInts h) (T12.flat
      (List.take b S)))))) (List.take x (Sx.strInts (List.getD S ((0 : Nat) + b) (Sx.Ty.dflt Sx.Ty.str))))))]) ∧ x ≤ ByteArray.size (List.getD S ((0 : Nat) + b) (Sx.Ty.dflt
      Sx.Ty.str))) ∧ ∀ (b_1 : Nat), b_1 ≤ ByteArray.size (List.getD S ((0 : Nat) + b) (Sx.Ty.dflt Sx.Ty.str)) → Sx.br (Decidable.decide ((↑b_1 : Int) < (↑(ByteArray.size
      (List.getD S ((0 : Nat) + b) (Sx.Ty.dflt Sx.Ty.str))) : Int))) (((0 : Int) ≤ (↑b_1 : Int) ∧ (↑b_1 : Int) < (↑(ByteArray.size (List.getD S ((0 : Nat) + b) (Sx.Ty.dflt
      Sx.Ty.str))) : Int)) ∧ (List.length (Prod.fst (T12.feed (Sx.strInts h) (T12.flat (List.take b S))) ++ Prod.fst (T12.feed (Sx.strInts (Sx.bsOf (Prod.snd (T12.feed
      (Sx.strInts h) (T12.flat (List.take b S)))))) (List.take b_1 (Sx.strInts (List.getD S ((0 : Nat) + b) (Sx.Ty.dflt Sx.Ty.str)))))) = List.length (Prod.fst (T12.feed
      (Sx.strInts h) (T12.flat (List.take b S))) ++ Prod.fst (T12.feed (Sx.strInts (Sx.bsOf (Prod.snd (T12.feed (Sx.strInts h) (T12.flat (List.take b S)))))) (List.take b_1
      (Sx.strInts (List.getD S ((0 : Nat) + b) (Sx.Ty.dflt Sx.Ty.str)))))) ∧ T12.Good (Sx.strInts (Sx.bsOf (Prod.snd (T12.feed (Sx.strInts (Sx.bsOf (Prod.snd (T12.feed
      (Sx.strInts h) (T12.flat (List.take b S)))))) (List.take b_1 (Sx.strInts (List.getD S ((0 : Nat) + b) (Sx.Ty.dflt Sx.Ty.str)))))))) ∧ ((0 : Int) ≤ Sx.byteAt (List.getD S
      ((0 : Nat) + b) (Sx.Ty.dflt Sx.Ty.str)) (↑b_1 : Int) ∧ Sx.byteAt (List.getD S ((0 : Nat) + b) (Sx.Ty.dflt Sx.Ty.str)) (↑b_1 : Int) ≤ (255 : Int)) ∧ List.length (Prod.fst
      (T12.feed (Sx.strInts h) (T12.flat (List.take b S))) ++ Prod.fst (T12.feed (Sx.strInts (Sx.bsOf (Prod.snd (T12.feed (Sx.strInts h) (T12.flat (List.take b S))))))
      (List.take b_1 (Sx.strInts (List.getD S ((0 : Nat) + b) (Sx.Ty.dflt Sx.Ty.str)))))) < (1000000 : Nat)) ∧ Sx.br (List.isEmpty (Prod.fst (T12.step (Sx.strInts (Sx.bsOf
      (Prod.snd (T12.feed (Sx.strInts (Sx.bsOf (Prod.snd (T12.feed (Sx.strInts h) (T12.flat (List.take b S)))))) (List.take b_1 (Sx.strInts (List.getD S ((0 : Nat) + b)
      (Sx.Ty.dflt Sx.Ty.str)))))))) (Sx.byteAt (List.getD S ((0 : Nat) + b) (Sx.Ty.dflt Sx.Ty.str)) (↑b_1 : Int))))) ((∃ (x' : Nat), ([Sx.SV.ptr (0 : Nat) (0 : Nat), Sx.SV.sl (2
      : Nat) (1 : Nat) (0 : Nat) (List.length (Prod.fst (T12.feed (Sx.strInts h) (T12.flat (List.take b S))) ++ Prod.fst (T12.feed (Sx.strInts (Sx.bsOf (Prod.snd (T12.feed
      (Sx.strInts h) (T12.flat (List.take b S)))))) (List.take b_1 (Sx.strInts (List.getD S ((0 : Nat) + b) (Sx.Ty.dflt Sx.Ty.str))))))), Sx.SV.lit (Go.Value.string (List.getD S
      ((0 : Nat) + b) (Sx.Ty.dflt Sx.Ty.str))), Sx.SV.sl (1 : Nat) (1 : Nat) (0 : Nat) m, Sx.SV.lit (Go.Value.int Go.IntKind.i64 (↑m : Int)), Sx.SV.lit (Go.Value.int
      Go.IntKind.i64 (↑b : Int)), Sx.SV.lit (Go.Value.int Go.IntKind.i64 (↑(ByteArray.size (List.getD S ((0 : Nat) + b) (Sx.Ty.dflt Sx.Ty.str))) : Int)), Sx.SV.lit (Go.Value.int
      Go.IntKind.i64 (Go.IntKind.wrap Go.IntKind.i64 ((↑b_1 : Int) + (1 : Int))))], [Sx.SO.cells (29 : Nat) [Sx.SV.lit (Go.Value.string (Sx.bsOf (Prod.snd (T12.step (Sx.strInts
      (Sx.bsOf (Prod.snd (T12.feed (Sx.strInts (Sx.bsOf (Prod.snd (T12.feed (Sx.strInts h) (T12.flat (List.take b S)))))) (List.take b_1 (Sx.strInts (List.getD S ((0 : Nat) + b)
      (Sx.Ty.dflt Sx.Ty.str)))))))) (Sx.byteAt (List.getD S ((0 : Nat) + b) (Sx.Ty.dflt Sx.Ty.str)) (↑b_1 : Int))))))], Sx.SO.row (9 : Nat) Sx.Ty.str S, Sx.SO.row (21 : Nat)
      (Sx.Ty.int Go.IntKind.i32) (Prod.fst (T12.feed (Sx.strInts h) (T12.flat (List.take b S))) ++ Prod.fst (T12.feed (Sx.strInts (Sx.bsOf (Prod.snd (T12.feed (Sx.strInts h)
      (T12.flat (List.take b S)))))) (List.take b_1 (Sx.strInts (List.getD S ((0 : Nat) + b) (Sx.Ty.dflt Sx.Ty.str))))))]) = ([Sx.SV.ptr (0 : Nat) (0 : Nat), Sx.SV.sl (2 : Nat)
      (1 : Nat) (0 : Nat) (List.length (Prod.fst (T12.feed (Sx.strInts h) (T12.flat (List.take b S))) ++ Prod.fst (T12.feed (Sx.strInts (Sx.bsOf (Prod.snd (T12.feed (Sx.strInts
      h) (T12.flat (List.take b S)))))) (List.take x' (Sx.strInts (List.getD S ((0 : Nat) + b) (Sx.Ty.dflt Sx.Ty.str))))))), Sx.SV.lit (Go.Value.string (List.getD S ((0 : Nat) +
      b) (Sx.Ty.dflt Sx.Ty.str))), Sx.SV.sl (1 : Nat) (1 : Nat) (0 : Nat) m, Sx.SV.lit (Go.Value.int Go.IntKind.i64 (↑m : Int)), Sx.SV.lit (Go.Value.int Go.IntKind.i64 (↑b :
      Int)), Sx.SV.lit (Go.Value.int Go.IntKind.i64 (↑(ByteArray.size (List.getD S ((0 : Nat) + b) (Sx.Ty.dflt Sx.Ty.str))) : Int)), Sx.SV.lit (Go.Value.int Go.IntKind.i64 (↑x'
      : Int))], [Sx.SO.cells (29 : Nat) [Sx.SV.lit (Go.Value.string (Sx.bsOf (Prod.snd (T12.feed (Sx.strInts (Sx.bsOf (Prod.snd (T12.feed (Sx.strInts h) (T12.flat (List.take b
      S)))))) (List.take x' (Sx.strInts (List.getD S ((0 : Nat) + b) (Sx.Ty.dflt Sx.Ty.str))))))))], Sx.SO.row (9 : Nat) Sx.Ty.str S, Sx.SO.row (21 : Nat) (Sx.Ty.int
      Go.IntKind.i32) (Prod.fst (T12.feed (Sx.strInts h) (T12.flat (List.take b S))) ++ Prod.fst (T12.feed (Sx.strInts (Sx.bsOf (Prod.snd (T12.feed (Sx.strInts h) (T12.flat
      (List.take b S)))))) (List.take x' (Sx.strInts (List.getD S ((0 : Nat) + b) (Sx.Ty.dflt Sx.Ty.str))))))]) ∧ x' ≤ ByteArray.size (List.getD S ((0 : Nat) + b) (Sx.Ty.dflt
      Sx.Ty.str)) ∧ ByteArray.size (List.getD S ((0 : Nat) + b) (Sx.Ty.dflt Sx.Ty.str)) - x' < ByteArray.size (List.getD S ((0 : Nat) + b) (Sx.Ty.dflt Sx.Ty.str)) - b_1) ∧ True)
      ((∃ (x' : Nat), ([Sx.SV.ptr (0 : Nat) (0 : Nat), Sx.SV.sl (2 : Nat) (1 : Nat) (0 : Nat) (List.length (Prod.fst (T12.feed (Sx.strInts h) (T12.flat (List.take b S))) ++
      Prod.fst (T12.feed (Sx.strInts (Sx.bsOf (Prod.snd (T12.feed (Sx.strInts h) (T12.flat (List.take b S)))))) (List.take b_1 (Sx.strInts (List.getD S ((0 : Nat) + b)
      (Sx.Ty.dflt Sx.Ty.str)))))) + List.length (Prod.fst (T12.step (Sx.strInts (Sx.bsOf (Prod.snd (T12.feed (Sx.strInts (Sx.bsOf (Prod.snd (T12.feed (Sx.strInts h) (T12.flat
      (List.take b S)))))) (List.take b_1 (Sx.strInts (List.getD S ((0 : Nat) + b) (Sx.Ty.dflt Sx.Ty.str)))))))) (Sx.byteAt (List.getD S ((0 : Nat) + b) (Sx.Ty.dflt Sx.Ty.str))
      (↑b_1 : Int))))), Sx.SV.lit (Go.Value.string (List.getD S ((0 : Nat) + b) (Sx.Ty.dflt Sx.Ty.str))), Sx.SV.sl (1 : Nat) (1 : Nat) (0 : Nat) m, Sx.SV.lit (Go.Value.int
      Go.IntKind.i64 (↑m : Int)), Sx.SV.lit (Go.Value.int Go.IntKind.i64 (↑b : Int)), Sx.SV.lit (Go.Value.int Go.IntKind.i64 (↑(ByteArray.size (List.getD S ((0 : Nat) + b)
      (Sx.Ty.dflt Sx.Ty.str))) : Int)), Sx.SV.lit (Go.Value.int Go.IntKind.i64 (Go.IntKind.wrap Go.IntKind.i64 ((↑b_1 : Int) + (1 : Int))))], [Sx.SO.cells (29 : Nat) [Sx.SV.lit
      (Go.Value.string (Sx.bsOf (Prod.snd (T12.step (Sx.strInts (Sx.bsOf (Prod.snd (T12.feed (Sx.strInts (Sx.bsOf (Prod.snd (T12.feed (Sx.strInts h) (T12.flat (List.take b
      S)))))) (List.take b_1 (Sx.strInts (List.getD S ((0 : Nat) + b) (Sx.Ty.dflt Sx.Ty.str)))))))) (Sx.byteAt (List.getD S ((0 : Nat) + b) (Sx.Ty.dflt Sx.Ty.str)) (↑b_1 :
      Int))))))], Sx.SO.row (9 : Nat) Sx.Ty.str S, Sx.SO.row (21 : Nat) (Sx.Ty.int Go.IntKind.i32) (Prod.fst (T12.feed (Sx.strInts h) (T12.flat (List.take b S))) ++ Prod.fst
      (T12.feed (Sx.strInts (Sx.bsOf (Prod.snd (T12.feed (Sx.strInts h) (T12.flat (List.take b S)))))) (List.take b_1 (Sx.strInts (List.getD S ((0 : Nat) + b) (Sx.Ty.dflt
      Sx.Ty.str))))) ++ Prod.fst (T12.step (Sx.strInts (Sx.bsOf (Prod.snd (T12.feed (Sx.strInts (Sx.bsOf (Prod.snd (T12.feed (Sx.strInts h) (T12.flat (List.take b S))))))
      (List.take b_1 (Sx.strInts (List.getD S ((0 : Nat) + b) (Sx.Ty.dflt Sx.Ty.str)))))))) (Sx.byteAt (List.getD S ((0 : Nat) + b) (Sx.Ty.dflt Sx.Ty.str)) (↑b_1 : Int))))]) =
      ([Sx.SV.ptr (0 : Nat) (0 : Nat), Sx.SV.sl (2 : Nat) (1 : Nat) (0 : Nat) (List.length (Prod.fst (T12.feed (Sx.strInts h) (T12.flat (List.take b S))) ++ Prod.fst (T12.feed
      (Sx.strInts (Sx.bsOf (Prod.snd (T12.feed (Sx.strInts h) (T12.flat (List.take b S)))))) (List.take x' (Sx.strInts (List.getD S ((0 : Nat) + b) (Sx.Ty.dflt Sx.Ty.str))))))),
      Sx.SV.lit (Go.Value.string (List.getD S ((0 : Nat) + b) (Sx.Ty.dflt Sx.Ty.str))), Sx.SV.sl (1 : Nat) (1 : Nat) (0 : Nat) m, Sx.SV.lit (Go.Value.int Go.IntKind.i64 (↑m :
      Int)), Sx.SV.lit (Go.Value.int Go.IntKind.i64 (↑b : Int)), Sx.SV.lit (Go.Value.int Go.IntKind.i64 (↑(ByteArray.size (List.getD S ((0 : Nat) + b) (Sx.Ty.dflt Sx.Ty.str))) :
      Int)), Sx.SV.lit (Go.Value.int Go.IntKind.i64 (↑x' : Int))], [Sx.SO.cells (29 : Nat) [Sx.SV.lit (Go.Value.string (Sx.bsOf (Prod.snd (T12.feed (Sx.strInts (Sx.bsOf
      (Prod.snd (T12.feed (Sx.strInts h) (T12.flat (List.take b S)))))) (List.take x' (Sx.strInts (List.getD S ((0 : Nat) + b) (Sx.Ty.dflt Sx.Ty.str))))))))], Sx.SO.row (9 :
      Nat) Sx.Ty.str S, Sx.SO.row (21 : Nat) (Sx.Ty.int Go.IntKind.i32) (Prod.fst (T12.feed (Sx.strInts h) (T12.flat (List.take b S))) ++ Prod.fst (T12.feed (Sx.strInts (Sx.bsOf
      (Prod.snd (T12.feed (Sx.strInts h) (T12.flat (List.take b S)))))) (List.take x' (Sx.strInts (List.getD S ((0 : Nat) + b) (Sx.Ty.dflt Sx.Ty.str))))))]) ∧ x' ≤
      ByteArray.size (List.getD S ((0 : Nat) + b) (Sx.Ty.dflt Sx.Ty.str)) ∧ ByteArray.size (List.getD S ((0 : Nat) + b) (Sx.Ty.dflt Sx.Ty.str)) - x' < ByteArray.size (List.getD
      S ((0 : Nat) + b) (Sx.Ty.dflt Sx.Ty.str)) - b_1) ∧ True)) ((∃ (x' : Nat), ([Sx.SV.ptr (0 : Nat) (0 : Nat), Sx.SV.sl (2 : Nat) (1 : Nat) (0 : Nat) (List.length (Prod.fst
      (T12.feed (Sx.strInts h) (T12.flat (List.take b S))) ++ Prod.fst (T12.feed (Sx.strInts (Sx.bsOf (Prod.snd (T12.feed (Sx.strInts h) (T12.flat (List.take b S))))))
      (List.take b_1 (Sx.strInts (List.getD S ((0 : Nat) + b) (Sx.Ty.dflt Sx.Ty.str))))))), Sx.SV.sl (1 : Nat) (1 : Nat) (0 : Nat) m, Sx.SV.lit (Go.Value.int Go.IntKind.i64 (↑m
      : Int)), Sx.SV.lit (Go.Value.int Go.IntKind.i64 (Go.IntKind.wrap Go.IntKind.i64 ((↑b : Int) + (1 : Int))))], [Sx.SO.cells (29 : Nat) [Sx.SV.lit (Go.Value.string (Sx.bsOf
      (Prod.snd (T12.feed (Sx.strInts (Sx.bsOf (Prod.snd (T12.feed (Sx.strInts h) (T12.flat (List.take b S)))))) (List.take b_1 (Sx.strInts (List.getD S ((0 : Nat) + b)
      (Sx.Ty.dflt Sx.Ty.str))))))))], Sx.SO.row (9 : Nat) Sx.Ty.str S, Sx.SO.row (21 : Nat) (Sx.Ty.int Go.IntKind.i32) (Prod.fst (T12.feed (Sx.strInts h) (T12.flat (List.take b
      S))) ++ Prod.fst (T12.feed (Sx.strInts (Sx.bsOf (Prod.snd (T12.feed (Sx.strInts h) (T12.flat (List.take b S)))))) (List.take b_1 (Sx.strInts (List.getD S ((0 : Nat) + b)
      (Sx.Ty.dflt Sx.Ty.str))))))]) = ([Sx.SV.ptr (0 : Nat) (0 : Nat), Sx.SV.sl (2 : Nat) (1 : Nat) (0 : Nat) (List.length (Prod.fst (T12.feed (Sx.strInts h) (T12.flat
      (List.take x' S))))), Sx.SV.sl (1 : Nat) (1 : Nat) (0 : Nat) m, Sx.SV.lit (Go.Value.int Go.IntKind.i64 (↑m : Int)), Sx.SV.lit (Go.Value.int Go.IntKind.i64 (↑x' : Int))],
      [Sx.SO.cells (29 : Nat) [Sx.SV.lit (Go.Value.string (Sx.bsOf (Prod.snd (T12.feed (Sx.strInts h) (T12.flat (List.take x' S))))))], Sx.SO.row (9 : Nat) Sx.Ty.str S,
      Sx.SO.row (21 : Nat) (Sx.Ty.int Go.IntKind.i32) (Prod.fst (T12.feed (Sx.strInts h) (T12.flat (List.take x' S))))]) ∧ x' ≤ m ∧ m - x' < m - b) ∧ True)) (Q (Sx.SV.sl (2 :
      Nat) (1 : Nat) (0 : Nat) (List.length (Prod.fst (T12.feed (Sx.strInts h) (T12.flat (List.take b S))))), [Sx.SO.cells (29 : Nat) [Sx.SV.lit (Go.Value.string (Sx.bsOf
      (Prod.snd (T12.feed (Sx.strInts h) (T12.flat (List.take b S))))))], Sx.SO.row (9 : Nat) Sx.Ty.str S, Sx.SO.row (21 : Nat) (Sx.Ty.int Go.IntKind.i32) (Prod.fst (T12.feed
      (Sx.strInts h) (T12.flat (List.take b S))))], []))) (by kernel_rfl) ?_
  generalize hl0 : strInts h = l0 at *
  refine ⟨⟨0, ?_, by omega⟩, fun i hi => br_intro (fun hlt => ?_) (fun hge => ?_)⟩
  · have e : h = bsOf l0 := by rw [← hl0, bsOf_strInts]
    rw [e]; rfl
  · have hlt := of_decide_eq_true hlt
    have hg1 : Good (feed l0 (flat (S.take i))).2 := good_feed hg _
    have hsucc := flat_succ S i (by omega) Ty.str.dflt
    have hmono := flat_mono S (i + 1) m (by omega)
    rw [strInts_bsOf (good_bytes hg1)]
    simp only [Nat.zero_add]
    generalize hs : S.getD i Ty.str.dflt = s at hsucc ⊢
    refine ⟨by omega, by omega, ⟨0, ?_, by omega⟩, fun j hj => br_intro (fun hlt2 => ?_) (fun hge2 => ?_)⟩
    · simp only [List.take_zero, feed, List.append_nil]; rfl
    · have hlt2 := of_decide_eq_true hlt2
      have hg2 : Good (feed (feed l0 (flat (S.take i))).2 ((strInts s).take j)).2 := good_feed hg1 _
      rw [strInts_bsOf (good_bytes hg2)]
      obtain ⟨ht, hbyte⟩ := byteAt_take s j (by omega)
      have hstep := feed_snoc (feed l0 (flat (S.take i))).2 ((strInts s).take j) (byteAt s j)
      rw [← ht] at hstep
      have hlen := feed_len l0 (flat (S.take i) ++ (strInts s).take j)
      have hone : one l0 ≤ 1 := by unfold one; omega
      have hlenS : (flat (S.take (i + 1))).length = (flat (S.take i)).length + s.size := by rw [hsucc, List.length_append, strInts_size]
      have htk : ((strInts s).take j).length ≤ s.size := by rw [List.length_take, strInts_size]; omega
      rw [feed_append] at hlen
      simp only [List.length_append] at hlen
      have ew : IntKind.i64.wrap ((j : Int) + 1) = ((j + 1 : Nat) : Int) := by
        have h1 := strInts_size s
        rw [IntKind.wrap_i64]; omega
      refine ⟨by omega, ⟨trivial, hg2, hbyte, by rw [List.length_append]; omega⟩, br_intro (fun he => ⟨⟨j + 1, ?_, by omega, by omega⟩, trivial⟩) (fun he => ⟨⟨j + 1, ?_, by omega, by omega⟩, trivial⟩)⟩
      · have he := List.isEmpty_iff.1 he
        rw [hstep, he, ew]; simp only [List.append_nil]
      · rw [hstep, ew]; simp only [List.length_append, List.append_assoc, Nat.add_assoc]
    · have hge2 := of_decide_eq_false hge2
      have hj2 : j = s.size := by omega
      have hall : (strInts s).take j = strInts s := by rw [hj2, ← strInts_size, List.take_length]
      have ew : IntKind.i64.wrap ((i : Int) + 1) = ((i + 1 : Nat) : Int) := by rw [IntKind.wrap_i64]; omega
      refine ⟨⟨i + 1, ?_, by omega, by omega⟩, trivial⟩
      rw [hall, ew, hsucc, feed_append]
  · have hge := of_decide_eq_false hge
    have : i = m := by omega
    subst this
    exact hq
end T12
