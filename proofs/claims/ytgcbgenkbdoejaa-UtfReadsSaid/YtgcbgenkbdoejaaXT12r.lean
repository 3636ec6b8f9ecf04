/- Part of a proof: the walk of the functions that the law calls. -/
import Derived.Test.YtgcbgenkbdoejaaSxT
import Derived.Test.YtgcbgenkbdoejaaXT12q
set_option linter.unusedVariables false
open Go Sx Go.Proofs
namespace T12
set_option maxRecDepth 100000
set_option maxHeartbeats 8000000
attribute [local irreducible] Tree.Leads
noncomputable def T10 : Table := (T3.add 67 (.go s67)).add 68 (.go s68)
theorem T10_ok : TableOK Try.prog T10 := add_ok (add_ok T3_ok s67_ok) s68_ok
/-- At the end, nil lists of runes and of half read bytes get handles. -/
noncomputable def Z30 (r : Nat) : Ann := { live := [], mv := [], head := fun _ _ => { X := Nat, inv := fun _ => ([], []), ok := fun _ => False, mu := fun _ => 0 }, nilS := [(r, 21, .int .i32)], nilH := [(44, 0, 5, .int .u8)] }
theorem v30 (B : List Int) (c : Int) (Q : SV × Heap × List Nat → Prop) (hg : Good2 B) (hc : Byte c) (hq : ∀ mv, mv = [1] ∨ mv = [] → Q (.sl 2 1 0 (step B c).1.length, [.cells 44 [.sl 1 1 0 (step B c).2.length], .row 5 (.int .u8) (step B c).2, .row 21 (.int .i32) (step B c).1], mv)) :
    (bodySumm T10 Try.prog Try.f30 (An1 999999 (Z30 4)) [.ptr 0 0, .lit (.int .u8 c)] [.cells 44 [.sl 1 1 0 B.length], .row 5 (.int .u8) B]).Leads Q := by
  refine Sx.by_text (q :=
      Sx.br (Decidable.decide ((↑(List.length B) : Int) > (0 : Int))) ((0 : Nat) + List.length B ≤ List.length B ∧ ((↑((0 : Nat) + List.length (List.take (List.length B)
      (List.drop (0 : Nat) B))) : Int) ≤ (9223372036854775807 : Int) ∧ ((0 : Nat) + List.length (List.take (List.length B) (List.drop (0 : Nat) B))) * Sx.bytesOf
      Go.Proofs.Try.prog (5 : Nat) ≤ (140737488355328 : Nat)) ∧ (1 : Nat) ≤ (1 : Nat) ∧ Sx.br (Decidable.decide (List.length (List.take (List.length B) (List.drop (0 : Nat) B))
      + (1 : Nat) ≤ List.length (List.take (List.length B) (List.drop (0 : Nat) B)))) ((List.length (List.take (List.length B) (List.drop (0 : Nat) B)) + (1 : Nat) = List.length
      (List.take (List.length (List.take (List.length B) (List.drop (0 : Nat) B))) (List.take (List.length B) (List.drop (0 : Nat) B)) ++ [c] ++ List.drop (List.length
      (List.take (List.length B) (List.drop (0 : Nat) B)) + (1 : Nat)) (List.take (List.length B) (List.drop (0 : Nat) B))) ∧ ∃ (B_1 : List Int), ∃ (x : Int), List.take
      (List.length (List.take (List.length B) (List.drop (0 : Nat) B))) (List.take (List.length B) (List.drop (0 : Nat) B)) ++ [c] ++ List.drop (List.length (List.take
      (List.length B) (List.drop (0 : Nat) B)) + (1 : Nat)) (List.take (List.length B) (List.drop (0 : Nat) B)) = B_1 ++ [x] ∧ T12.Good2 B_1 ∧ (0 : Int) ≤ x ∧ x ≤ (255 : Int)) ∧
      Sx.br (Prod.fst (T12.rmay (List.take (List.length (List.take (List.length B) (List.drop (0 : Nat) B))) (List.take (List.length B) (List.drop (0 : Nat) B)) ++ [c] ++
      List.drop (List.length (List.take (List.length B) (List.drop (0 : Nat) B)) + (1 : Nat)) (List.take (List.length B) (List.drop (0 : Nat) B))))) (Sx.br (Prod.snd (T12.rmay
      (List.take (List.length (List.take (List.length B) (List.drop (0 : Nat) B))) (List.take (List.length B) (List.drop (0 : Nat) B)) ++ [c] ++ List.drop (List.length
      (List.take (List.length B) (List.drop (0 : Nat) B)) + (1 : Nat)) (List.take (List.length B) (List.drop (0 : Nat) B))))) ((List.length (List.take (List.length B) (List.drop
      (0 : Nat) B)) + (1 : Nat) = List.length (List.take (List.length (List.take (List.length B) (List.drop (0 : Nat) B))) (List.take (List.length B) (List.drop (0 : Nat) B)) ++
      [c] ++ List.drop (List.length (List.take (List.length B) (List.drop (0 : Nat) B)) + (1 : Nat)) (List.take (List.length B) (List.drop (0 : Nat) B))) ∧ T12.Whole (List.take
      (List.length (List.take (List.length B) (List.drop (0 : Nat) B))) (List.take (List.length B) (List.drop (0 : Nat) B)) ++ [c] ++ List.drop (List.length (List.take
      (List.length B) (List.drop (0 : Nat) B)) + (1 : Nat)) (List.take (List.length B) (List.drop (0 : Nat) B)))) ∧ Q (Sx.SV.sl (2 : Nat) (1 : Nat) (0 : Nat) (1 : Nat),
      [Sx.SO.cells (44 : Nat) [Sx.SV.sl (1 : Nat) (1 : Nat) (0 : Nat) (0 : Nat)], Sx.SO.row (5 : Nat) (Sx.Ty.int Go.IntKind.u8) [], Sx.SO.row (21 : Nat) (Sx.Ty.int
      Go.IntKind.i32) [T12.whole (List.take (List.length (List.take (List.length B) (List.drop (0 : Nat) B))) (List.take (List.length B) (List.drop (0 : Nat) B)) ++ [c] ++
      List.drop (List.length (List.take (List.length B) (List.drop (0 : Nat) B)) + (1 : Nat)) (List.take (List.length B) (List.drop (0 : Nat) B)))]], [(1 : Nat)])) (Sx.br
      (Prod.fst (T12.rmay (List.take (List.length (List.take (List.length B) (List.drop (0 : Nat) B))) (List.take (List.length B) (List.drop (0 : Nat) B)) ++ [c] ++ List.drop
      (List.length (List.take (List.length B) (List.drop (0 : Nat) B)) + (1 : Nat)) (List.take (List.length B) (List.drop (0 : Nat) B))))) (Q (Sx.SV.sl (2 : Nat) (1 : Nat) (0 :
      Nat) (0 : Nat), [Sx.SO.cells (44 : Nat) [Sx.SV.sl (1 : Nat) (1 : Nat) (0 : Nat) (List.length (List.take (List.length B) (List.drop (0 : Nat) B)) + (1 : Nat))], Sx.SO.row
      (5 : Nat) (Sx.Ty.int Go.IntKind.u8) (List.take (List.length (List.take (List.length B) (List.drop (0 : Nat) B))) (List.take (List.length B) (List.drop (0 : Nat) B)) ++ [c]
      ++ List.drop (List.length (List.take (List.length B) (List.drop (0 : Nat) B)) + (1 : Nat)) (List.take (List.length B) (List.drop (0 : Nat) B))), Sx.SO.row (21 : Nat)
      (Sx.Ty.int Go.IntKind.i32) []], [(1 : Nat)])) (((1 : Nat) = (1 : Nat) ∧ ∃ (B : List Int), ∃ (x : Int), [c] = B ++ [x] ∧ T12.Good2 B ∧ (0 : Int) ≤ x ∧ x ≤ (255 : Int)) ∧
      Sx.br (!Prod.fst (T12.rmay [c])) ((1 : Nat) ≤ (1 : Nat) ∧ (1 : Nat) ≤ (1 : Nat) ∧ ((↑(2 : Nat) : Int) ≤ (9223372036854775807 : Int) ∧ (2 : Nat) * Sx.bytesOf
      Go.Proofs.Try.prog (21 : Nat) ≤ (140737488355328 : Nat)) ∧ Q (Sx.SV.sl (2 : Nat) (1 : Nat) (0 : Nat) (2 : Nat), [Sx.SO.cells (44 : Nat) [Sx.SV.sl (1 : Nat) (1 : Nat) (0 :
      Nat) (0 : Nat)], Sx.SO.row (5 : Nat) (Sx.Ty.int Go.IntKind.u8) [], Sx.SO.row (21 : Nat) (Sx.Ty.int Go.IntKind.i32) [(65533 : Int), (65533 : Int)]], [(1 : Nat)])) (Sx.br
      (Prod.snd (T12.rmay [c])) ((1 : Nat) ≤ (1 : Nat) ∧ (1 : Nat) ≤ (1 : Nat) ∧ ((↑(2 : Nat) : Int) ≤ (9223372036854775807 : Int) ∧ (2 : Nat) * Sx.bytesOf Go.Proofs.Try.prog
      (21 : Nat) ≤ (140737488355328 : Nat)) ∧ Q (Sx.SV.sl (2 : Nat) (1 : Nat) (0 : Nat) (2 : Nat), [Sx.SO.cells (44 : Nat) [Sx.SV.sl (1 : Nat) (1 : Nat) (0 : Nat) (0 : Nat)],
      Sx.SO.row (5 : Nat) (Sx.Ty.int Go.IntKind.u8) [], Sx.SO.row (21 : Nat) (Sx.Ty.int Go.IntKind.i32) [(65533 : Int), Go.IntKind.wrap Go.IntKind.i32 c]], [(1 : Nat)])) (Q
      (Sx.SV.sl (2 : Nat) (1 : Nat) (0 : Nat) (1 : Nat), [Sx.SO.cells (44 : Nat) [Sx.SV.sl (1 : Nat) (1 : Nat) (0 : Nat) (1 : Nat)], Sx.SO.row (5 : Nat) (Sx.Ty.int
      Go.IntKind.u8) [c], Sx.SO.row (21 : Nat) (Sx.Ty.int Go.IntKind.i32) [(65533 : Int)]], [(1 : Nat)])))))) (Sx.br (Prod.fst (T12.rmay (List.take (List.length (List.take
      (List.length B) (List.drop (0 : Nat) B))) (List.take (List.length B) (List.drop (0 : Nat) B)) ++ [c] ++ List.drop (List.length (List.take (List.length B) (List.drop (0 :
      Nat) B)) + (1 : Nat)) (List.take (List.length B) (List.drop (0 : Nat) B))))) (Q (Sx.SV.sl (2 : Nat) (1 : Nat) (0 : Nat) (0 : Nat), [Sx.SO.cells (44 : Nat) [Sx.SV.sl (1 :
      Nat) (1 : Nat) (0 : Nat) (List.length (List.take (List.length B) (List.drop (0 : Nat) B)) + (1 : Nat))], Sx.SO.row (5 : Nat) (Sx.Ty.int Go.IntKind.u8) (List.take
      (List.length (List.take (List.length B) (List.drop (0 : Nat) B))) (List.take (List.length B) (List.drop (0 : Nat) B)) ++ [c] ++ List.drop (List.length (List.take
      (List.length B) (List.drop (0 : Nat) B)) + (1 : Nat)) (List.take (List.length B) (List.drop (0 : Nat) B))), Sx.SO.row (21 : Nat) (Sx.Ty.int Go.IntKind.i32) []], [(1 :
      Nat)])) (((1 : Nat) = (1 : Nat) ∧ ∃ (B : List Int), ∃ (x : Int), [c] = B ++ [x] ∧ T12.Good2 B ∧ (0 : Int) ≤ x ∧ x ≤ (255 : Int)) ∧ Sx.br (!Prod.fst (T12.rmay [c])) ((1 :
      Nat) ≤ (1 : Nat) ∧ (1 : Nat) ≤ (1 : Nat) ∧ ((↑(2 : Nat) : Int) ≤ (9223372036854775807 : Int) ∧ (2 : Nat) * Sx.bytesOf Go.Proofs.Try.prog (21 : Nat) ≤ (140737488355328 :
      Nat)) ∧ Q (Sx.SV.sl (2 : Nat) (1 : Nat) (0 : Nat) (2 : Nat), [Sx.SO.cells (44 : Nat) [Sx.SV.sl (1 : Nat) (1 : Nat) (0 : Nat) (0 : Nat)], Sx.SO.row (5 : Nat) (Sx.Ty.int
      Go.IntKind.u8) [], Sx.SO.row (21 : Nat) (Sx.Ty.int Go.IntKind.i32) [(65533 : Int), (65533 : Int)]], [(1 : Nat)])) (Sx.br (Prod.snd (T12.rmay [c])) ((1 : Nat) ≤ (1 : Nat) ∧
      (1 : Nat) ≤ (1 : Nat) ∧ ((↑(2 : Nat) : Int) ≤ (9223372036854775807 : Int) ∧ (2 : Nat) * Sx.bytesOf Go.Proofs.Try.prog (21 : Nat) ≤ (140737488355328 : Nat)) ∧ Q (Sx.SV.sl
      (2 : Nat) (1 : Nat) (0 : Nat) (2 : Nat), [Sx.SO.cells (44 : Nat) [Sx.SV.sl (1 : Nat) (1 : Nat) (0 : Nat) (0 : Nat)], Sx.SO.row (5 : Nat) (Sx.Ty.int Go.IntKind.u8) [],
      Sx.SO.row (21 : Nat) (Sx.Ty.int Go.IntKind.i32) [(65533 : Int), Go.IntKind.wrap Go.IntKind.i32 c]], [(1 : Nat)])) (Q (Sx.SV.sl (2 : Nat) (1 : Nat) (0 : Nat) (1 : Nat),
      [Sx.SO.cells (44 : Nat) [Sx.SV.sl (1 : Nat) (1 : Nat) (0 : Nat) (1 : Nat)], Sx.SO.row (5 : Nat) (Sx.Ty.int Go.IntKind.u8) [c], Sx.SO.row (21 : Nat) (Sx.Ty.int
      Go.IntKind.i32) [(65533 : Int)]], [(1 : Nat)])))))) (List.length (List.take (List.length B) (List.drop (0 : Nat) B)) ≤ List.length (List.take (List.length B) (List.drop (0
      : Nat) B)) ∧ ((↑(List.length (List.take (List.length B) (List.drop (0 : Nat) B)) + (1 : Nat)) : Int) ≤ (9223372036854775807 : Int) ∧ (List.length (List.take (List.length
      B) (List.drop (0 : Nat) B)) + (1 : Nat)) * Sx.bytesOf Go.Proofs.Try.prog (5 : Nat) ≤ (140737488355328 : Nat)) ∧ (List.length (List.take (List.length B) (List.drop (0 :
      Nat) B)) + (1 : Nat) = List.length (List.take (List.length (List.take (List.length B) (List.drop (0 : Nat) B))) (List.take (List.length B) (List.drop (0 : Nat) B)) ++ [c])
      ∧ ∃ (B_1 : List Int), ∃ (x : Int), List.take (List.length (List.take (List.length B) (List.drop (0 : Nat) B))) (List.take (List.length B) (List.drop (0 : Nat) B)) ++ [c] =
      B_1 ++ [x] ∧ T12.Good2 B_1 ∧ (0 : Int) ≤ x ∧ x ≤ (255 : Int)) ∧ Sx.br (Prod.fst (T12.rmay (List.take (List.length (List.take (List.length B) (List.drop (0 : Nat) B)))
      (List.take (List.length B) (List.drop (0 : Nat) B)) ++ [c]))) (Sx.br (Prod.snd (T12.rmay (List.take (List.length (List.take (List.length B) (List.drop (0 : Nat) B)))
      (List.take (List.length B) (List.drop (0 : Nat) B)) ++ [c]))) ((List.length (List.take (List.length B) (List.drop (0 : Nat) B)) + (1 : Nat) = List.length (List.take
      (List.length (List.take (List.length B) (List.drop (0 : Nat) B))) (List.take (List.length B) (List.drop (0 : Nat) B)) ++ [c]) ∧ T12.Whole (List.take (List.length
      (List.take (List.length B) (List.drop (0 : Nat) B))) (List.take (List.length B) (List.drop (0 : Nat) B)) ++ [c])) ∧ Q (Sx.SV.sl (2 : Nat) (1 : Nat) (0 : Nat) (1 : Nat),
      [Sx.SO.cells (44 : Nat) [Sx.SV.sl (1 : Nat) (1 : Nat) (0 : Nat) (0 : Nat)], Sx.SO.row (5 : Nat) (Sx.Ty.int Go.IntKind.u8) [], Sx.SO.row (21 : Nat) (Sx.Ty.int
      Go.IntKind.i32) [T12.whole (List.take (List.length (List.take (List.length B) (List.drop (0 : Nat) B))) (List.take (List.length B) (List.drop (0 : Nat) B)) ++ [c])]], [(1
      : Nat)])) (Sx.br (Prod.fst (T12.rmay (List.take (List.length (List.take (List.length B) (List.drop (0 : Nat) B))) (List.take (List.length B) (List.drop (0 : Nat) B)) ++
      [c]))) (Q (Sx.SV.sl (2 : Nat) (1 : Nat) (0 : Nat) (0 : Nat), [Sx.SO.cells (44 : Nat) [Sx.SV.sl (1 : Nat) (1 : Nat) (0 : Nat) (List.length (List.take (List.length B)
      (List.drop (0 : Nat) B)) + (1 : Nat))], Sx.SO.row (5 : Nat) (Sx.Ty.int Go.IntKind.u8) (List.take (List.length (List.take (List.length B) (List.drop (0 : Nat) B)))
      (List.take (List.length B) (List.drop (0 : Nat) B)) ++ [c]), Sx.SO.row (21 : Nat) (Sx.Ty.int Go.IntKind.i32) []], [(1 : Nat)])) (((1 : Nat) = (1 : Nat) ∧ ∃ (B : List Int),
      ∃ (x : Int), [c] = B ++ [x] ∧ T12.Good2 B ∧ (0 : Int) ≤ x ∧ x ≤ (255 : Int)) ∧ Sx.br (!Prod.fst (T12.rmay [c])) ((1 : Nat) ≤ (1 : Nat) ∧ (1 : Nat) ≤ (1 : Nat) ∧ ((↑(2 :
      Nat) : Int) ≤ (9223372036854775807 : Int) ∧ (2 : Nat) * Sx.bytesOf Go.Proofs.Try.prog (21 : Nat) ≤ (140737488355328 : Nat)) ∧ Q (Sx.SV.sl (2 : Nat) (1 : Nat) (0 : Nat) (2
      : Nat), [Sx.SO.cells (44 : Nat) [Sx.SV.sl (1 : Nat) (1 : Nat) (0 : Nat) (0 : Nat)], Sx.SO.row (5 : Nat) (Sx.Ty.int Go.IntKind.u8) [], Sx.SO.row (21 : Nat) (Sx.Ty.int
      Go.IntKind.i32) [(65533 : Int), (65533 : Int)]], [(1 : Nat)])) (Sx.br (Prod.snd (T12.rmay [c])) ((1 : Nat) ≤ (1 : Nat) ∧ (1 : Nat) ≤ (1 : Nat) ∧ ((↑(2 : Nat) : Int) ≤
      (9223372036854775807 : Int) ∧ (2 : Nat) * Sx.bytesOf Go.Proofs.Try.prog (21 : Nat) ≤ (140737488355328 : Nat)) ∧ Q (Sx.SV.sl (2 : Nat) (1 : Nat) (0 : Nat) (2 : Nat),
      [Sx.SO.cells (44 : Nat) [Sx.SV.sl (1 : Nat) (1 : Nat) (0 : Nat) (0 : Nat)], Sx.SO.row (5 : Nat) (Sx.Ty.int Go.IntKind.u8) [], Sx.SO.row (21 : Nat) (Sx.Ty.int
      Go.IntKind.i32) [(65533 : Int), Go.IntKind.wrap Go.IntKind.i32 c]], [(1 : Nat)])) (Q (Sx.SV.sl (2 : Nat) (1 : Nat) (0 : Nat) (1 : Nat), [Sx.SO.cells (44 : Nat) [Sx.SV.sl
      (1 : Nat) (1 : Nat) (0 : Nat) (1 : Nat)], Sx.SO.row (5 : Nat) (Sx.Ty.int Go.IntKind.u8) [c], Sx.SO.row (21 : Nat) (Sx.Ty.int Go.IntKind.i32) [(65533 : Int)]], [(1 :
      Nat)])))))) (Sx.br (Prod.fst (T12.rmay (List.take (List.length (List.take (List.length B) (List.drop (0 : Nat) B))) (List.take (List.length B) (List.drop (0 : Nat) B)) ++
      [c]))) (Q (Sx.SV.sl (2 : Nat) (1 : Nat) (0 : Nat) (0 : Nat), [Sx.SO.cells (44 : Nat) [Sx.SV.sl (1 : Nat) (1 : Nat) (0 : Nat) (List.length (List.take (List.length B)
      (List.drop (0 : Nat) B)) + (1 : Nat))], Sx.SO.row (5 : Nat) (Sx.Ty.int Go.IntKind.u8) (List.take (List.length (List.take (List.length B) (List.drop (0 : Nat) B)))
      (List.take (List.length B) (List.drop (0 : Nat) B)) ++ [c]), Sx.SO.row (21 : Nat) (Sx.Ty.int Go.IntKind.i32) []], [(1 : Nat)])) (((1 : Nat) = (1 : Nat) ∧ ∃ (B : List Int),
      ∃ (x : Int), [c] = B ++ [x] ∧ T12.Good2 B ∧ (0 : Int) ≤ x ∧ x ≤ (255 : Int)) ∧ Sx.br (!Prod.fst (T12.rmay [c])) ((1 : Nat) ≤ (1 : Nat) ∧ (1 : Nat) ≤ (1 : Nat) ∧ ((↑(2 :
      Nat) : Int) ≤ (9223372036854775807 : Int) ∧ (2 : Nat) * Sx.bytesOf Go.Proofs.Try.prog (21 : Nat) ≤ (140737488355328 : Nat)) ∧ Q (Sx.SV.sl (2 : Nat) (1 : Nat) (0 : Nat) (2
      : Nat), [Sx.SO.cells (44 : Nat) [Sx.SV.sl (1 : Nat) (1 : Nat) (0 : Nat) (0 : Nat)], Sx.SO.row (5 : Nat) (Sx.Ty.int Go.IntKind.u8) [], Sx.SO.row (21 : Nat) (Sx.Ty.int
      Go.IntKind.i32) [(65533 : Int), (65533 : Int)]], [(1 : Nat)])) (Sx.br (Prod.snd (T12.rmay [c])) ((1 : Nat) ≤ (1 : Nat) ∧ (1 : Nat) ≤ (1 : Nat) ∧ ((↑(2 : Nat) : Int) ≤
      (9223372036854775807 : Int) ∧ (2 : Nat) * Sx.bytesOf Go.Proofs.Try.prog (21 : Nat) ≤ (140737488355328 : Nat)) ∧ Q (Sx.SV.sl (2 : Nat) (1 : Nat) (0 : Nat) (2 : Nat),
      [Sx.SO.cells (44 : Nat) [Sx.SV.sl (1 : Nat) (1 : Nat) (0 : Nat) (0 : Nat)], Sx.SO.row (5 : Nat) (Sx.Ty.int Go.IntKind.u8) [], Sx.SO.row (21 : Nat) (Sx.Ty.int
      Go.IntKind.i32) [(65533 : Int), Go.IntKind.wrap Go.IntKind.i32 c]], [(1 : Nat)])) (Q (Sx.SV.sl (2 : Nat) (1 : Nat) (0 : Nat) (1 : Nat), [Sx.SO.cells (44 : Nat) [Sx.SV.sl
      (1 : Nat) (1 : Nat) (0 : Nat) (1 : Nat)], Sx.SO.row (5 : Nat) (Sx.Ty.int Go.IntKind.u8) [c], Sx.SO.row (21 : Nat) (Sx.Ty.int Go.IntKind.i32) [(65533 : Int)]], [(1 :
      Nat)]))))))) (((1 : Nat) = (1 : Nat) ∧ ∃ (B : List Int), ∃ (x : Int), [c] = B ++ [x] ∧ T12.Good2 B ∧ (0 : Int) ≤ x ∧ x ≤ (255 : Int)) ∧ Sx.br (!Prod.fst (T12.rmay [c]))
      ((1 : Nat) ≤ (1 : Nat) ∧ ((↑(1 : Nat) : Int) ≤ (9223372036854775807 : Int) ∧ (1 : Nat) * Sx.bytesOf Go.Proofs.Try.prog (21 : Nat) ≤ (140737488355328 : Nat)) ∧ Q (Sx.SV.sl
      (2 : Nat) (1 : Nat) (0 : Nat) (1 : Nat), [Sx.SO.cells (44 : Nat) [Sx.SV.sl (1 : Nat) (1 : Nat) (0 : Nat) (List.length B)], Sx.SO.row (5 : Nat) (Sx.Ty.int Go.IntKind.u8) B,
      Sx.SO.row (21 : Nat) (Sx.Ty.int Go.IntKind.i32) [(65533 : Int)]], [])) (Sx.br (Prod.snd (T12.rmay [c])) ((1 : Nat) ≤ (1 : Nat) ∧ ((↑(1 : Nat) : Int) ≤ (9223372036854775807
      : Int) ∧ (1 : Nat) * Sx.bytesOf Go.Proofs.Try.prog (21 : Nat) ≤ (140737488355328 : Nat)) ∧ Q (Sx.SV.sl (2 : Nat) (1 : Nat) (0 : Nat) (1 : Nat), [Sx.SO.cells (44 : Nat)
      [Sx.SV.sl (1 : Nat) (1 : Nat) (0 : Nat) (List.length B)], Sx.SO.row (5 : Nat) (Sx.Ty.int Go.IntKind.u8) B, Sx.SO.row (21 : Nat) (Sx.Ty.int Go.IntKind.i32) [Go.IntKind.wrap
      Go.IntKind.i32 c]], [])) (Q (Sx.SV.sl (2 : Nat) (1 : Nat) (0 : Nat) (0 : Nat), [Sx.SO.cells (44 : Nat) [Sx.SV.sl (1 : Nat) (1 : Nat) (0 : Nat) (1 : Nat)], Sx.SO.row (5 :
      Nat) (Sx.Ty.int Go.IntKind.u8) [c], Sx.SO.row (21 : Nat) (Sx.Ty.int Go.IntKind.i32) []], [(1 : Nat)]))))) (by kernel_rfl) ?_
  have hbs : bytesOf Try.prog 5 = 1 := by kernel_rfl
  have hb4 : bytesOf Try.prog 21 = 4 := by kernel_rfl
  have hl3 := good_len (good2_good hg)
  simp only [List.drop_zero, List.take_length, hbs, hb4]
  refine br_intro (fun h0 => ?_) (fun h0 => ?_)
  · have h0 := of_decide_eq_true h0
    refine ⟨by omega, ⟨by omega, by omega⟩, by omega, br_intro (fun h => by have := of_decide_eq_true h; omega) (fun _ => ⟨by omega, ⟨by omega, by omega⟩, ?_⟩)⟩
    have hne : B ≠ [] := fun e => by rw [e] at h0; simp at h0
    obtain ⟨s1, s2, s3⟩ := step_next hg hne hc
    have e1 : B.length + 1 = (B ++ [c]).length := by rw [List.length_append]; rfl
    have one : ∃ B x, [c] = B ++ [x] ∧ Good2 B ∧ 0 ≤ x ∧ x ≤ 255 := ⟨[], c, rfl, trivial, hc⟩
    refine ⟨⟨e1, B, c, rfl, hg, hc⟩, br_intro (fun m1 => br_intro (fun m2 => ?_) (fun m2 => br_intro (fun _ => ?_) (fun m3 => by rw [m1] at m3; cases m3))) (fun m1 => br_intro (fun m3 => by rw [m1] at m3; cases m3) (fun _ => ⟨⟨trivial, one⟩, ?_⟩))⟩
    · obtain ⟨g1, g2⟩ := s1 ⟨m1, m2⟩
      rw [g2] at hq
      exact ⟨⟨e1, g1⟩, hq _ (.inl rfl)⟩
    · obtain ⟨g1, g2⟩ := s2 ⟨m1, m2⟩
      rw [g2] at hq
      rw [e1]; exact hq _ (.inl rfl)
    · have g := s3 m1
      have g1 := step_first' (c := c)
      rw [g1] at g
      refine br_intro (fun n1 => ?_) (fun n1 => br_intro (fun n2 => ?_) (fun n2 => ?_))
      · have n1 : (rmay [c]).1 = false := by simpa using n1
        rw [n1] at g
        rw [g] at hq
        exact ⟨by omega, by omega, ⟨by omega, by omega⟩, hq _ (.inl rfl)⟩
      · have n1 : (rmay [c]).1 = true := by simpa using n1
        rw [n1, n2] at g
        rw [g] at hq
        refine ⟨by omega, by omega, ⟨by omega, by omega⟩, ?_⟩
        rw [w32 (x := c) (by have := hc.1; have := hc.2; omega)]; exact hq _ (.inl rfl)
      · have n1 : (rmay [c]).1 = true := by simpa using n1
        rw [n1, n2] at g
        rw [g] at hq
        exact hq _ (.inl rfl)
  · have h0 := of_decide_eq_false h0
    have h0 : B = [] := List.eq_nil_of_length_eq_zero (by omega)
    subst h0
    have one : ∃ B x, [c] = B ++ [x] ∧ Good2 B ∧ 0 ≤ x ∧ x ≤ 255 := ⟨[], c, rfl, trivial, hc⟩
    have g := step_first' (c := c)
    refine ⟨⟨trivial, one⟩, br_intro (fun n1 => ?_) (fun n1 => br_intro (fun n2 => ?_) (fun n2 => ?_))⟩
    · have n1 : (rmay [c]).1 = false := by simpa using n1
      rw [n1] at g
      rw [g] at hq
      exact ⟨by omega, ⟨by omega, by omega⟩, hq _ (.inr rfl)⟩
    · have n1 : (rmay [c]).1 = true := by simpa using n1
      rw [n1, n2] at g
      rw [g] at hq
      refine ⟨by omega, ⟨by omega, by omega⟩, ?_⟩
      rw [w32 (x := c) (by have := hc.1; have := hc.2; omega)]; exact hq _ (.inr rfl)
    · have n1 : (rmay [c]).1 = true := by simpa using n1
      rw [n1, n2] at g
      rw [g] at hq
      exact hq _ (.inl rfl)
theorem good2_step {B : List Int} {x : Int} (hg : Good2 B) (hx : Byte x) : Good2 (step B x).2 := by
  have first : Good2 (step [] x).2 := by
    rw [step_first']
    by_cases h1 : (rmay [x]).1 = true
    · rw [if_pos h1]
      by_cases h2 : (rmay [x]).2 = true
      · rw [if_pos h2]; trivial
      · rw [if_neg h2]; exact good2_first h1 (by simpa using h2)
    · rw [if_neg h1]; trivial
  by_cases hB : B = []
  · subst hB; exact first
  · obtain ⟨s1, s2, s3⟩ := step_next hg hB hx
    cases h1 : (rmay (B ++ [x])).1 with
    | false => rw [s3 h1]; exact first
    | true => cases h2 : (rmay (B ++ [x])).2 with
      | true => rw [(s1 ⟨h1, h2⟩).2]; trivial
      | false => obtain ⟨a, b⟩ := s2 ⟨h1, h2⟩; rw [b]; exact a
theorem good2_feed {h : List Int} (hg : Good2 h) : ∀ a, (∀ x ∈ a, Byte x) → Good2 (feed h a).2 := by
  intro a
  induction a generalizing h with
  | nil => intro _; exact hg
  | cons x a ih => intro hb; exact ih (good2_step hg (hb x (by simp))) (fun y hy => hb y (by simp [hy]))
noncomputable def s30 : Summ := fun args H => match args, H with
  | [.ptr 0 0, .lit (.int .u8 c)], [.cells 44 [.sl 1 1 0 n], .row 5 (.int .u8) B] => .need (n = B.length ∧ Good2 B ∧ Byte c) (.ret (.sl 2 1 0 (step B c).1.length, [.cells 44 [.sl 1 1 0 (step B c).2.length], .row 5 (.int .u8) (step B c).2, .row 21 (.int .i32) (step B c).1], [1]))
  | _, _ => .fail
theorem s30_ok : SummOK Try.prog 30 s30 := by
  refine summ_of_body_mv (fn := Try.f30) (c := Try.f30.body.get!) T10_ok (by kernel_rfl) (by kernel_rfl) (by kernel_rfl) fun args H Q h => ?_
  unfold s30 at h
  split at h
  · rename_i c n B
    simp only [Tree.Leads] at h
    obtain ⟨⟨rfl, h2, h3⟩, hq⟩ := h
    exact ⟨_, v30 B c _ h2 h3 (fun mv hmv => ⟨[1], by rcases hmv with rfl | rfl <;> simp [memN], hq⟩)⟩
  · simp only [Tree.Leads] at h
noncomputable def T11 : Table := T10.add 30 (.go s30)
theorem T11_ok : TableOK Try.prog T11 := add_ok T10_ok s30_ok
/-- All runes of a text, by the document. -/
noncomputable def A21 (B : List Int) : Ann := { live := [0, 1, 5, 6], mv := [1], nilS := [(5, 21, .int .i32)], nilH := [(44, 0, 5, .int .u8)], head := fun vals _ => match vals with | [a, .lit (.string s), _, _] => { X := Nat, inv := fun i => ([a, .lit (.string s), .sl 2 1 0 (feed B ((strInts s).take i)).1.length, .lit (.int .i64 i)], [.cells 44 [.sl 1 1 0 (feed B ((strInts s).take i)).2.length], .row 5 (.int .u8) (feed B ((strInts s).take i)).2, .row 21 (.int .i32) (feed B ((strInts s).take i)).1]), ok := fun i => i ≤ s.size, mu := fun i => s.size - i } | _ => { X := Nat, inv := fun _ => ([], []), ok := fun _ => False, mu := fun _ => 0 } }
theorem v21 (s : ByteArray) (B : List Int) (Q : SV × Heap × List Nat → Prop) (hg : Good2 B) (hs : s.size ≤ 100000) (hq : Q (.sl 2 1 0 (feed B (strInts s)).1.length, [.cells 44 [.sl 1 1 0 (feed B (strInts s)).2.length], .row 5 (.int .u8) (feed B (strInts s)).2, .row 21 (.int .i32) (feed B (strInts s)).1], [1])) :
    (bodySumm T11 Try.prog Try.f21 (An1 0 (A21 B)) [.ptr 0 0, .lit (.string s)] [.cells 44 [.sl 1 1 0 B.length], .row 5 (.int .u8) B]).Leads Q := by
  refine Sx.by_text (q :=
      (∃ (x : Nat), ([Sx.SV.ptr (0 : Nat) (0 : Nat), Sx.SV.lit (Go.Value.string s), Sx.SV.sl (2 : Nat) (1 : Nat) (0 : Nat) (0 : Nat), Sx.SV.lit (Go.Value.int Go.IntKind.i64 (0 :
      Int))], [Sx.SO.cells (44 : Nat) [Sx.SV.sl (1 : Nat) (1 : Nat) (0 : Nat) (List.length B)], Sx.SO.row (5 : Nat) (Sx.Ty.int Go.IntKind.u8) B, Sx.SO.row (21 : Nat) (Sx.Ty.int
      Go.IntKind.i32) []]) = ([Sx.SV.ptr (0 : Nat) (0 : Nat), Sx.SV.lit (Go.Value.string s), Sx.SV.sl (2 : Nat) (1 : Nat) (0 : Nat) (List.length (Prod.fst (T12.feed B (List.take
      x (Sx.strInts s))))), Sx.SV.lit (Go.Value.int Go.IntKind.i64 (↑x : Int))], [Sx.SO.cells (44 : Nat) [Sx.SV.sl (1 : Nat) (1 : Nat) (0 : Nat) (List.length (Prod.snd (T12.feed
      B (List.take x (Sx.strInts s)))))], Sx.SO.row (5 : Nat) (Sx.Ty.int Go.IntKind.u8) (Prod.snd (T12.feed B (List.take x (Sx.strInts s)))), Sx.SO.row (21 : Nat) (Sx.Ty.int
      Go.IntKind.i32) (Prod.fst (T12.feed B (List.take x (Sx.strInts s))))]) ∧ x ≤ ByteArray.size s) ∧ ∀ (b : Nat), b ≤ ByteArray.size s → Sx.br (Decidable.decide ((↑b : Int) <
      (↑(ByteArray.size s) : Int))) (((0 : Int) ≤ (↑b : Int) ∧ (↑b : Int) < (↑(ByteArray.size s) : Int)) ∧ (List.length (Prod.snd (T12.feed B (List.take b (Sx.strInts s)))) =
      List.length (Prod.snd (T12.feed B (List.take b (Sx.strInts s)))) ∧ T12.Good2 (Prod.snd (T12.feed B (List.take b (Sx.strInts s)))) ∧ (0 : Int) ≤ Sx.byteAt s (↑b : Int) ∧
      Sx.byteAt s (↑b : Int) ≤ (255 : Int)) ∧ (0 : Nat) + List.length (Prod.fst (T12.step (Prod.snd (T12.feed B (List.take b (Sx.strInts s)))) (Sx.byteAt s (↑b : Int)))) ≤
      List.length (Prod.fst (T12.step (Prod.snd (T12.feed B (List.take b (Sx.strInts s)))) (Sx.byteAt s (↑b : Int)))) ∧ Sx.br (Decidable.decide (List.length (Prod.fst (T12.feed
      B (List.take b (Sx.strInts s)))) + List.length (List.take (List.length (Prod.fst (T12.step (Prod.snd (T12.feed B (List.take b (Sx.strInts s)))) (Sx.byteAt s (↑b : Int)))))
      (List.drop (0 : Nat) (Prod.fst (T12.step (Prod.snd (T12.feed B (List.take b (Sx.strInts s)))) (Sx.byteAt s (↑b : Int)))))) ≤ List.length (Prod.fst (T12.feed B (List.take b
      (Sx.strInts s)))))) ((∃ (x' : Nat), ([Sx.SV.ptr (0 : Nat) (0 : Nat), Sx.SV.lit (Go.Value.string s), Sx.SV.sl (2 : Nat) (1 : Nat) (0 : Nat) (List.length (Prod.fst (T12.feed
      B (List.take b (Sx.strInts s)))) + List.length (List.take (List.length (Prod.fst (T12.step (Prod.snd (T12.feed B (List.take b (Sx.strInts s)))) (Sx.byteAt s (↑b : Int)))))
      (List.drop (0 : Nat) (Prod.fst (T12.step (Prod.snd (T12.feed B (List.take b (Sx.strInts s)))) (Sx.byteAt s (↑b : Int))))))), Sx.SV.lit (Go.Value.int Go.IntKind.i64
      (Go.IntKind.wrap Go.IntKind.i64 ((↑b : Int) + (1 : Int))))], [Sx.SO.cells (44 : Nat) [Sx.SV.sl (1 : Nat) (1 : Nat) (0 : Nat) (List.length (Prod.snd (T12.step (Prod.snd
      (T12.feed B (List.take b (Sx.strInts s)))) (Sx.byteAt s (↑b : Int)))))], Sx.SO.row (5 : Nat) (Sx.Ty.int Go.IntKind.u8) (Prod.snd (T12.step (Prod.snd (T12.feed B (List.take
      b (Sx.strInts s)))) (Sx.byteAt s (↑b : Int)))), Sx.SO.row (21 : Nat) (Sx.Ty.int Go.IntKind.i32) (List.take (List.length (Prod.fst (T12.feed B (List.take b (Sx.strInts
      s))))) (Prod.fst (T12.feed B (List.take b (Sx.strInts s)))) ++ List.take (List.length (Prod.fst (T12.step (Prod.snd (T12.feed B (List.take b (Sx.strInts s)))) (Sx.byteAt s
      (↑b : Int))))) (List.drop (0 : Nat) (Prod.fst (T12.step (Prod.snd (T12.feed B (List.take b (Sx.strInts s)))) (Sx.byteAt s (↑b : Int))))) ++ List.drop (List.length
      (Prod.fst (T12.feed B (List.take b (Sx.strInts s)))) + List.length (List.take (List.length (Prod.fst (T12.step (Prod.snd (T12.feed B (List.take b (Sx.strInts s))))
      (Sx.byteAt s (↑b : Int))))) (List.drop (0 : Nat) (Prod.fst (T12.step (Prod.snd (T12.feed B (List.take b (Sx.strInts s)))) (Sx.byteAt s (↑b : Int))))))) (Prod.fst (T12.feed
      B (List.take b (Sx.strInts s)))))]) = ([Sx.SV.ptr (0 : Nat) (0 : Nat), Sx.SV.lit (Go.Value.string s), Sx.SV.sl (2 : Nat) (1 : Nat) (0 : Nat) (List.length (Prod.fst
      (T12.feed B (List.take x' (Sx.strInts s))))), Sx.SV.lit (Go.Value.int Go.IntKind.i64 (↑x' : Int))], [Sx.SO.cells (44 : Nat) [Sx.SV.sl (1 : Nat) (1 : Nat) (0 : Nat)
      (List.length (Prod.snd (T12.feed B (List.take x' (Sx.strInts s)))))], Sx.SO.row (5 : Nat) (Sx.Ty.int Go.IntKind.u8) (Prod.snd (T12.feed B (List.take x' (Sx.strInts s)))),
      Sx.SO.row (21 : Nat) (Sx.Ty.int Go.IntKind.i32) (Prod.fst (T12.feed B (List.take x' (Sx.strInts s))))]) ∧ x' ≤ ByteArray.size s ∧ ByteArray.size s - x' < ByteArray.size s
      - b) ∧ True) (List.length (Prod.fst (T12.feed B (List.take b (Sx.strInts s)))) ≤ List.length (Prod.fst (T12.feed B (List.take b (Sx.strInts s)))) ∧ ((↑(List.length
      (Prod.fst (T12.feed B (List.take b (Sx.strInts s)))) + List.length (List.take (List.length (Prod.fst (T12.step (Prod.snd (T12.feed B (List.take b (Sx.strInts s))))
      (Sx.byteAt s (↑b : Int))))) (List.drop (0 : Nat) (Prod.fst (T12.step (Prod.snd (T12.feed B (List.take b (Sx.strInts s)))) (Sx.byteAt s (↑b : Int))))))) : Int) ≤
      (9223372036854775807 : Int) ∧ (List.length (Prod.fst (T12.feed B (List.take b (Sx.strInts s)))) + List.length (List.take (List.length (Prod.fst (T12.step (Prod.snd
      (T12.feed B (List.take b (Sx.strInts s)))) (Sx.byteAt s (↑b : Int))))) (List.drop (0 : Nat) (Prod.fst (T12.step (Prod.snd (T12.feed B (List.take b (Sx.strInts s))))
      (Sx.byteAt s (↑b : Int))))))) * Sx.bytesOf Go.Proofs.Try.prog (21 : Nat) ≤ (140737488355328 : Nat)) ∧ (∃ (x' : Nat), ([Sx.SV.ptr (0 : Nat) (0 : Nat), Sx.SV.lit
      (Go.Value.string s), Sx.SV.sl (2 : Nat) (1 : Nat) (0 : Nat) (List.length (Prod.fst (T12.feed B (List.take b (Sx.strInts s)))) + List.length (List.take (List.length
      (Prod.fst (T12.step (Prod.snd (T12.feed B (List.take b (Sx.strInts s)))) (Sx.byteAt s (↑b : Int))))) (List.drop (0 : Nat) (Prod.fst (T12.step (Prod.snd (T12.feed B
      (List.take b (Sx.strInts s)))) (Sx.byteAt s (↑b : Int))))))), Sx.SV.lit (Go.Value.int Go.IntKind.i64 (Go.IntKind.wrap Go.IntKind.i64 ((↑b : Int) + (1 : Int))))],
      [Sx.SO.cells (44 : Nat) [Sx.SV.sl (1 : Nat) (1 : Nat) (0 : Nat) (List.length (Prod.snd (T12.step (Prod.snd (T12.feed B (List.take b (Sx.strInts s)))) (Sx.byteAt s (↑b :
      Int)))))], Sx.SO.row (5 : Nat) (Sx.Ty.int Go.IntKind.u8) (Prod.snd (T12.step (Prod.snd (T12.feed B (List.take b (Sx.strInts s)))) (Sx.byteAt s (↑b : Int)))), Sx.SO.row (21
      : Nat) (Sx.Ty.int Go.IntKind.i32) (List.take (List.length (Prod.fst (T12.feed B (List.take b (Sx.strInts s))))) (Prod.fst (T12.feed B (List.take b (Sx.strInts s)))) ++
      List.take (List.length (Prod.fst (T12.step (Prod.snd (T12.feed B (List.take b (Sx.strInts s)))) (Sx.byteAt s (↑b : Int))))) (List.drop (0 : Nat) (Prod.fst (T12.step
      (Prod.snd (T12.feed B (List.take b (Sx.strInts s)))) (Sx.byteAt s (↑b : Int))))))]) = ([Sx.SV.ptr (0 : Nat) (0 : Nat), Sx.SV.lit (Go.Value.string s), Sx.SV.sl (2 : Nat) (1
      : Nat) (0 : Nat) (List.length (Prod.fst (T12.feed B (List.take x' (Sx.strInts s))))), Sx.SV.lit (Go.Value.int Go.IntKind.i64 (↑x' : Int))], [Sx.SO.cells (44 : Nat)
      [Sx.SV.sl (1 : Nat) (1 : Nat) (0 : Nat) (List.length (Prod.snd (T12.feed B (List.take x' (Sx.strInts s)))))], Sx.SO.row (5 : Nat) (Sx.Ty.int Go.IntKind.u8) (Prod.snd
      (T12.feed B (List.take x' (Sx.strInts s)))), Sx.SO.row (21 : Nat) (Sx.Ty.int Go.IntKind.i32) (Prod.fst (T12.feed B (List.take x' (Sx.strInts s))))]) ∧ x' ≤ ByteArray.size
      s ∧ ByteArray.size s - x' < ByteArray.size s - b) ∧ True)) (Q (Sx.SV.sl (2 : Nat) (1 : Nat) (0 : Nat) (List.length (Prod.fst (T12.feed B (List.take b (Sx.strInts s))))),
      [Sx.SO.cells (44 : Nat) [Sx.SV.sl (1 : Nat) (1 : Nat) (0 : Nat) (List.length (Prod.snd (T12.feed B (List.take b (Sx.strInts s)))))], Sx.SO.row (5 : Nat) (Sx.Ty.int
      Go.IntKind.u8) (Prod.snd (T12.feed B (List.take b (Sx.strInts s)))), Sx.SO.row (21 : Nat) (Sx.Ty.int Go.IntKind.i32) (Prod.fst (T12.feed B (List.take b (Sx.strInts s))))],
      [(1 : Nat)]))) (by kernel_rfl) ?_
  have hb4 : bytesOf Try.prog 21 = 4 := by kernel_rfl
  simp only [List.drop_zero, List.take_length, hb4, Nat.zero_add]
  refine ⟨⟨0, rfl, by omega⟩, fun i hi => br_intro (fun hlt => ?_) (fun hge => ?_)⟩
  · have hlt := of_decide_eq_true hlt
    obtain ⟨ht, hbyte⟩ := byteAt_take s i (by omega)
    have hgi : Good2 (feed B ((strInts s).take i)).2 := good2_feed hg _ (fun x hx => strInts_bytes s x (List.mem_of_mem_take hx))
    have hstep := feed_snoc B ((strInts s).take i) (byteAt s i)
    rw [← ht] at hstep
    have hlen := feed_len B ((strInts s).take (i + 1))
    have hone : one B ≤ 1 := by unfold one; omega
    have htk : ((strInts s).take (i + 1)).length ≤ s.size := by rw [List.length_take, strInts_size]; omega
    rw [hstep] at hlen
    simp only [List.length_append] at hlen
    generalize feed B ((strInts s).take i) = F at *
    generalize step F.2 (byteAt s i) = G at *
    refine ⟨by omega, ⟨trivial, hgi, hbyte⟩, by omega, br_intro (fun h => ⟨⟨i + 1, ?_, by omega, by omega⟩, trivial⟩) (fun h => ⟨by omega, ⟨by omega, by omega⟩, ⟨i + 1, ?_, by omega, by omega⟩, trivial⟩)⟩
    · have h := of_decide_eq_true h
      have h0 : G.1 = [] := List.eq_nil_of_length_eq_zero (by omega)
      rw [hstep, wrap1 i (by omega), h0]
      simp only [List.append_nil, List.length_nil, Nat.add_zero, List.drop_length]
    · rw [hstep, wrap1 i (by omega)]
      simp only [List.length_append]
  · have hge := of_decide_eq_false hge
    have : i = s.size := by omega
    subst this
    rw [← strInts_size, List.take_length]
    exact hq
theorem v21n (s : ByteArray) (Q : SV × Heap × List Nat → Prop) (hs : s.size ≤ 100000) (hq : Q (.sl 2 1 0 (feed [] (strInts s)).1.length, [.cells 44 [.sl 1 1 0 (feed [] (strInts s)).2.length], .row 5 (.int .u8) (feed [] (strInts s)).2, .row 21 (.int .i32) (feed [] (strInts s)).1], [1])) :
    (bodySumm T11 Try.prog Try.f21 (An1 0 (A21 [])) [.ptr 0 0, .lit (.string s)] [.cells 44 [nl]]).Leads Q := by
  refine Sx.by_text (q :=
      (∃ (x : Nat), ([Sx.SV.ptr (0 : Nat) (0 : Nat), Sx.SV.lit (Go.Value.string s), Sx.SV.sl (2 : Nat) (1 : Nat) (0 : Nat) (0 : Nat), Sx.SV.lit (Go.Value.int Go.IntKind.i64 (0 :
      Int))], [Sx.SO.cells (44 : Nat) [Sx.SV.sl (1 : Nat) (1 : Nat) (0 : Nat) (0 : Nat)], Sx.SO.row (5 : Nat) (Sx.Ty.int Go.IntKind.u8) [], Sx.SO.row (21 : Nat) (Sx.Ty.int
      Go.IntKind.i32) []]) = ([Sx.SV.ptr (0 : Nat) (0 : Nat), Sx.SV.lit (Go.Value.string s), Sx.SV.sl (2 : Nat) (1 : Nat) (0 : Nat) (List.length (Prod.fst (T12.feed []
      (List.take x (Sx.strInts s))))), Sx.SV.lit (Go.Value.int Go.IntKind.i64 (↑x : Int))], [Sx.SO.cells (44 : Nat) [Sx.SV.sl (1 : Nat) (1 : Nat) (0 : Nat) (List.length
      (Prod.snd (T12.feed [] (List.take x (Sx.strInts s)))))], Sx.SO.row (5 : Nat) (Sx.Ty.int Go.IntKind.u8) (Prod.snd (T12.feed [] (List.take x (Sx.strInts s)))), Sx.SO.row (21
      : Nat) (Sx.Ty.int Go.IntKind.i32) (Prod.fst (T12.feed [] (List.take x (Sx.strInts s))))]) ∧ x ≤ ByteArray.size s) ∧ ∀ (b : Nat), b ≤ ByteArray.size s → Sx.br
      (Decidable.decide ((↑b : Int) < (↑(ByteArray.size s) : Int))) (((0 : Int) ≤ (↑b : Int) ∧ (↑b : Int) < (↑(ByteArray.size s) : Int)) ∧ (List.length (Prod.snd (T12.feed []
      (List.take b (Sx.strInts s)))) = List.length (Prod.snd (T12.feed [] (List.take b (Sx.strInts s)))) ∧ T12.Good2 (Prod.snd (T12.feed [] (List.take b (Sx.strInts s)))) ∧ (0 :
      Int) ≤ Sx.byteAt s (↑b : Int) ∧ Sx.byteAt s (↑b : Int) ≤ (255 : Int)) ∧ (0 : Nat) + List.length (Prod.fst (T12.step (Prod.snd (T12.feed [] (List.take b (Sx.strInts s))))
      (Sx.byteAt s (↑b : Int)))) ≤ List.length (Prod.fst (T12.step (Prod.snd (T12.feed [] (List.take b (Sx.strInts s)))) (Sx.byteAt s (↑b : Int)))) ∧ Sx.br (Decidable.decide
      (List.length (Prod.fst (T12.feed [] (List.take b (Sx.strInts s)))) + List.length (List.take (List.length (Prod.fst (T12.step (Prod.snd (T12.feed [] (List.take b
      (Sx.strInts s)))) (Sx.byteAt s (↑b : Int))))) (List.drop (0 : Nat) (Prod.fst (T12.step (Prod.snd (T12.feed [] (List.take b (Sx.strInts s)))) (Sx.byteAt s (↑b : Int)))))) ≤
      List.length (Prod.fst (T12.feed [] (List.take b (Sx.strInts s)))))) ((∃ (x' : Nat), ([Sx.SV.ptr (0 : Nat) (0 : Nat), Sx.SV.lit (Go.Value.string s), Sx.SV.sl (2 : Nat) (1 :
      Nat) (0 : Nat) (List.length (Prod.fst (T12.feed [] (List.take b (Sx.strInts s)))) + List.length (List.take (List.length (Prod.fst (T12.step (Prod.snd (T12.feed []
      (List.take b (Sx.strInts s)))) (Sx.byteAt s (↑b : Int))))) (List.drop (0 : Nat) (Prod.fst (T12.step (Prod.snd (T12.feed [] (List.take b (Sx.strInts s)))) (Sx.byteAt s (↑b
      : Int))))))), Sx.SV.lit (Go.Value.int Go.IntKind.i64 (Go.IntKind.wrap Go.IntKind.i64 ((↑b : Int) + (1 : Int))))], [Sx.SO.cells (44 : Nat) [Sx.SV.sl (1 : Nat) (1 : Nat) (0
      : Nat) (List.length (Prod.snd (T12.step (Prod.snd (T12.feed [] (List.take b (Sx.strInts s)))) (Sx.byteAt s (↑b : Int)))))], Sx.SO.row (5 : Nat) (Sx.Ty.int Go.IntKind.u8)
      (Prod.snd (T12.step (Prod.snd (T12.feed [] (List.take b (Sx.strInts s)))) (Sx.byteAt s (↑b : Int)))), Sx.SO.row (21 : Nat) (Sx.Ty.int Go.IntKind.i32) (List.take
      (List.length (Prod.fst (T12.feed [] (List.take b (Sx.strInts s))))) (Prod.fst (T12.feed [] (List.take b (Sx.strInts s)))) ++ List.take (List.length (Prod.fst (T12.step
      (Prod.snd (T12.feed [] (List.take b (Sx.strInts s)))) (Sx.byteAt s (↑b : Int))))) (List.drop (0 : Nat) (Prod.fst (T12.step (Prod.snd (T12.feed [] (List.take b (Sx.strInts
      s)))) (Sx.byteAt s (↑b : Int))))) ++ List.drop (List.length (Prod.fst (T12.feed [] (List.take b (Sx.strInts s)))) + List.length (List.take (List.length (Prod.fst (T12.step
      (Prod.snd (T12.feed [] (List.take b (Sx.strInts s)))) (Sx.byteAt s (↑b : Int))))) (List.drop (0 : Nat) (Prod.fst (T12.step (Prod.snd (T12.feed [] (List.take b (Sx.strInts
      s)))) (Sx.byteAt s (↑b : Int))))))) (Prod.fst (T12.feed [] (List.take b (Sx.strInts s)))))]) = ([Sx.SV.ptr (0 : Nat) (0 : Nat), Sx.SV.lit (Go.Value.string s), Sx.SV.sl (2
      : Nat) (1 : Nat) (0 : Nat) (List.length (Prod.fst (T12.feed [] (List.take x' (Sx.strInts s))))), Sx.SV.lit (Go.Value.int Go.IntKind.i64 (↑x' : Int))], [Sx.SO.cells (44 :
      Nat) [Sx.SV.sl (1 : Nat) (1 : Nat) (0 : Nat) (List.length (Prod.snd (T12.feed [] (List.take x' (Sx.strInts s)))))], Sx.SO.row (5 : Nat) (Sx.Ty.int Go.IntKind.u8) (Prod.snd
      (T12.feed [] (List.take x' (Sx.strInts s)))), Sx.SO.row (21 : Nat) (Sx.Ty.int Go.IntKind.i32) (Prod.fst (T12.feed [] (List.take x' (Sx.strInts s))))]) ∧ x' ≤
      ByteArray.size s ∧ ByteArray.size s - x' < ByteArray.size s - b) ∧ True) (List.length (Prod.fst (T12.feed [] (List.take b (Sx.strInts s)))) ≤ List.length (Prod.fst
      (T12.feed [] (List.take b (Sx.strInts s)))) ∧ ((↑(List.length (Prod.fst (T12.feed [] (List.take b (Sx.strInts s)))) + List.length (List.take (List.length (Prod.fst
      (T12.step (Prod.snd (T12.feed [] (List.take b (Sx.strInts s)))) (Sx.byteAt s (↑b : Int))))) (List.drop (0 : Nat) (Prod.fst (T12.step (Prod.snd (T12.feed [] (List.take b
      (Sx.strInts s)))) (Sx.byteAt s (↑b : Int))))))) : Int) ≤ (9223372036854775807 : Int) ∧ (List.length (Prod.fst (T12.feed [] (List.take b (Sx.strInts s)))) + List.length
      (List.take (List.length (Prod.fst (T12.step (Prod.snd (T12.feed [] (List.take b (Sx.strInts s)))) (Sx.byteAt s (↑b : Int))))) (List.drop (0 : Nat) (Prod.fst (T12.step
      (Prod.snd (T12.feed [] (List.take b (Sx.strInts s)))) (Sx.byteAt s (↑b : Int))))))) * Sx.bytesOf Go.Proofs.Try.prog (21 : Nat) ≤ (140737488355328 : Nat)) ∧ (∃ (x' : Nat),
      ([Sx.SV.ptr (0 : Nat) (0 : Nat), Sx.SV.lit (Go.Value.string s), Sx.SV.sl (2 : Nat) (1 : Nat) (0 : Nat) (List.length (Prod.fst (T12.feed [] (List.take b (Sx.strInts s)))) +
      List.length (List.take (List.length (Prod.fst (T12.step (Prod.snd (T12.feed [] (List.take b (Sx.strInts s)))) (Sx.byteAt s (↑b : Int))))) (List.drop (0 : Nat) (Prod.fst
      (T12.step (Prod.snd (T12.feed [] (List.take b (Sx.strInts s)))) (Sx.byteAt s (↑b : Int))))))), Sx.SV.lit (Go.Value.int Go.IntKind.i64 (Go.IntKind.wrap Go.IntKind.i64 ((↑b
      : Int) + (1 : Int))))], [Sx.SO.cells (44 : Nat) [Sx.SV.sl (1 : Nat) (1 : Nat) (0 : Nat) (List.length (Prod.snd (T12.step (Prod.snd (T12.feed [] (List.take b (Sx.strInts
      s)))) (Sx.byteAt s (↑b : Int)))))], Sx.SO.row (5 : Nat) (Sx.Ty.int Go.IntKind.u8) (Prod.snd (T12.step (Prod.snd (T12.feed [] (List.take b (Sx.strInts s)))) (Sx.byteAt s
      (↑b : Int)))), Sx.SO.row (21 : Nat) (Sx.Ty.int Go.IntKind.i32) (List.take (List.length (Prod.fst (T12.feed [] (List.take b (Sx.strInts s))))) (Prod.fst (T12.feed []
      (List.take b (Sx.strInts s)))) ++ List.take (List.length (Prod.fst (T12.step (Prod.snd (T12.feed [] (List.take b (Sx.strInts s)))) (Sx.byteAt s (↑b : Int))))) (List.drop
      (0 : Nat) (Prod.fst (T12.step (Prod.snd (T12.feed [] (List.take b (Sx.strInts s)))) (Sx.byteAt s (↑b : Int))))))]) = ([Sx.SV.ptr (0 : Nat) (0 : Nat), Sx.SV.lit
      (Go.Value.string s), Sx.SV.sl (2 : Nat) (1 : Nat) (0 : Nat) (List.length (Prod.fst (T12.feed [] (List.take x' (Sx.strInts s))))), Sx.SV.lit (Go.Value.int Go.IntKind.i64
      (↑x' : Int))], [Sx.SO.cells (44 : Nat) [Sx.SV.sl (1 : Nat) (1 : Nat) (0 : Nat) (List.length (Prod.snd (T12.feed [] (List.take x' (Sx.strInts s)))))], Sx.SO.row (5 : Nat)
      (Sx.Ty.int Go.IntKind.u8) (Prod.snd (T12.feed [] (List.take x' (Sx.strInts s)))), Sx.SO.row (21 : Nat) (Sx.Ty.int Go.IntKind.i32) (Prod.fst (T12.feed [] (List.take x'
      (Sx.strInts s))))]) ∧ x' ≤ ByteArray.size s ∧ ByteArray.size s - x' < ByteArray.size s - b) ∧ True)) (Q (Sx.SV.sl (2 : Nat) (1 : Nat) (0 : Nat) (List.length (Prod.fst
      (T12.feed [] (List.take b (Sx.strInts s))))), [Sx.SO.cells (44 : Nat) [Sx.SV.sl (1 : Nat) (1 : Nat) (0 : Nat) (List.length (Prod.snd (T12.feed [] (List.take b (Sx.strInts
      s)))))], Sx.SO.row (5 : Nat) (Sx.Ty.int Go.IntKind.u8) (Prod.snd (T12.feed [] (List.take b (Sx.strInts s)))), Sx.SO.row (21 : Nat) (Sx.Ty.int Go.IntKind.i32) (Prod.fst
      (T12.feed [] (List.take b (Sx.strInts s))))], [(1 : Nat)]))) (by kernel_rfl) ?_
  have hb4 : bytesOf Try.prog 21 = 4 := by kernel_rfl
  simp only [List.drop_zero, List.take_length, hb4, Nat.zero_add]
  refine ⟨⟨0, rfl, by omega⟩, fun i hi => br_intro (fun hlt => ?_) (fun hge => ?_)⟩
  · have hlt := of_decide_eq_true hlt
    obtain ⟨ht, hbyte⟩ := byteAt_take s i (by omega)
    have hgi : Good2 (feed [] ((strInts s).take i)).2 := good2_feed (h := []) trivial _ (fun x hx => strInts_bytes s x (List.mem_of_mem_take hx))
    have hstep := feed_snoc [] ((strInts s).take i) (byteAt s i)
    rw [← ht] at hstep
    have hlen := feed_len [] ((strInts s).take (i + 1))
    have hone : one [] ≤ 1 := by unfold one; omega
    have htk : ((strInts s).take (i + 1)).length ≤ s.size := by rw [List.length_take, strInts_size]; omega
    rw [hstep] at hlen
    simp only [List.length_append] at hlen
    generalize feed [] ((strInts s).take i) = F at *
    generalize step F.2 (byteAt s i) = G at *
    refine ⟨by omega, ⟨trivial, hgi, hbyte⟩, by omega, br_intro (fun h => ⟨⟨i + 1, ?_, by omega, by omega⟩, trivial⟩) (fun h => ⟨by omega, ⟨by omega, by omega⟩, ⟨i + 1, ?_, by omega, by omega⟩, trivial⟩)⟩
    · have h := of_decide_eq_true h
      have h0 : G.1 = [] := List.eq_nil_of_length_eq_zero (by omega)
      rw [hstep, wrap1 i (by omega), h0]
      simp only [List.append_nil, List.length_nil, Nat.add_zero, List.drop_length]
    · rw [hstep, wrap1 i (by omega)]
      simp only [List.length_append]
  · have hge := of_decide_eq_false hge
    have : i = s.size := by omega
    subst this
    rw [← strInts_size, List.take_length]
    exact hq
noncomputable def s21 : Summ := fun args H => match args, H with
  | [.ptr 0 0, .lit (.string s)], [.cells 44 [.sl 1 1 0 n], .row 5 (.int .u8) B] => .need (n = B.length ∧ Good2 B ∧ s.size ≤ 100000) (.any (List Int × List Int) (fun r => r = feed B (strInts s)) fun r => .ret (.sl 2 1 0 r.1.length, [.cells 44 [.sl 1 1 0 r.2.length], .row 5 (.int .u8) r.2, .row 21 (.int .i32) r.1], [1]))
  | [.ptr 0 0, .lit (.string s)], [.cells 44 [.lit (.slice none 0 0)]] => .need (s.size ≤ 100000) (.any (List Int × List Int) (fun r => r = feed [] (strInts s)) fun r => .ret (.sl 2 1 0 r.1.length, [.cells 44 [.sl 1 1 0 r.2.length], .row 5 (.int .u8) r.2, .row 21 (.int .i32) r.1], [1]))
  | _, _ => .fail
theorem s21_ok : SummOK Try.prog 21 s21 := by
  refine summ_of_body (fn := Try.f21) (c := Try.f21.body.get!) T11_ok (by kernel_rfl) (by kernel_rfl) (by kernel_rfl) fun args H Q h => ?_
  unfold s21 at h
  split at h
  · rename_i s n B
    simp only [Tree.Leads] at h
    obtain ⟨⟨rfl, h2, h3⟩, hq⟩ := h
    exact ⟨_, v21 s B Q h2 h3 (hq _ rfl)⟩
  · rename_i s
    simp only [Tree.Leads] at h
    obtain ⟨h2, hq⟩ := h
    exact ⟨_, v21n s Q h2 (hq _ rfl)⟩
  · simp only [Tree.Leads] at h
noncomputable def T11b : Table := T11.add 15 (.go (bodySumm T3 Try.prog Try.f15 noAn))
theorem T11b_ok : TableOK Try.prog T11b := add_ok T11_ok (bodySumm_sound (fn := Try.f15) (c := Try.f15.body.get!) T3_ok (by kernel_rfl) (by kernel_rfl) (by kernel_rfl))
def flu (n : Nat) : List Int := if n = 0 then [] else [65533]
theorem v22 (h : ByteArray) (Q : SV × Heap × List Nat → Prop) (hq : ∀ mv, mv = [1] ∨ mv = [] → Q (.sl 1 1 0 (flu h.size).length, [.cells 29 [.lit (.string ByteArray.empty)], .row 21 (.int .i32) (flu h.size)], mv)) :
    (bodySumm T11b Try.prog Try.f22 (An1 999999 (Z30 2)) [.ptr 0 0] [.cells 29 [.lit (.string h)]]).Leads Q := by
  refine Sx.by_text (q :=
      Sx.br ((↑(ByteArray.size h) : Int) == (0 : Int)) (Q (Sx.SV.sl (1 : Nat) (1 : Nat) (0 : Nat) (0 : Nat), [Sx.SO.cells (29 : Nat) [Sx.SV.lit (Go.Value.string h)], Sx.SO.row
      (21 : Nat) (Sx.Ty.int Go.IntKind.i32) []], [])) (Q (Sx.SV.sl (1 : Nat) (1 : Nat) (0 : Nat) (1 : Nat), [Sx.SO.cells (29 : Nat) [Sx.SV.lit (Go.Value.string { data := #[]
      })], Sx.SO.row (21 : Nat) (Sx.Ty.int Go.IntKind.i32) [(65533 : Int)]], []))) (by kernel_rfl) ?_
  refine br_intro (fun g => ?_) (fun g => ?_)
  · have g : (h.size : Int) = 0 := eq_of_beq g
    have e : h = ByteArray.empty := by
      have : strInts h = [] := List.eq_nil_of_length_eq_zero (by rw [strInts_size]; omega)
      rw [← bsOf_strInts h, this]; rfl
    subst e
    exact hq _ (.inr rfl)
  · have g : (h.size : Int) ≠ 0 := ne_of_beq_false g
    have e : flu h.size = [65533] := by unfold flu; rw [if_neg (by omega)]
    rw [e] at hq
    exact hq _ (.inr rfl)
theorem v23 (B : List Int) (Q : SV × Heap × List Nat → Prop) (hq : ∀ mv, mv = [1] ∨ mv = [] → Q (.sl 2 1 0 (flu B.length).length, [.cells 44 [.sl 1 1 0 0], .row 5 (.int .u8) [], .row 21 (.int .i32) (flu B.length)], mv)) :
    (bodySumm T11b Try.prog Try.f23 (An1 999999 (Z30 2)) [.ptr 0 0] [.cells 44 [.sl 1 1 0 B.length], .row 5 (.int .u8) B]).Leads Q := by
  refine Sx.by_text (q :=
      Sx.br ((↑(List.length B) : Int) == (0 : Int)) (Q (Sx.SV.sl (2 : Nat) (1 : Nat) (0 : Nat) (0 : Nat), [Sx.SO.cells (44 : Nat) [Sx.SV.sl (1 : Nat) (1 : Nat) (0 : Nat)
      (List.length B)], Sx.SO.row (5 : Nat) (Sx.Ty.int Go.IntKind.u8) B, Sx.SO.row (21 : Nat) (Sx.Ty.int Go.IntKind.i32) []], [])) (Q (Sx.SV.sl (2 : Nat) (1 : Nat) (0 : Nat) (1
      : Nat), [Sx.SO.cells (44 : Nat) [Sx.SV.sl (1 : Nat) (1 : Nat) (0 : Nat) (0 : Nat)], Sx.SO.row (5 : Nat) (Sx.Ty.int Go.IntKind.u8) [], Sx.SO.row (21 : Nat) (Sx.Ty.int
      Go.IntKind.i32) [(65533 : Int)]], [(1 : Nat)]))) (by kernel_rfl) ?_
  refine br_intro (fun g => ?_) (fun g => ?_)
  · have g : (B.length : Int) = 0 := eq_of_beq g
    have e : B = [] := List.eq_nil_of_length_eq_zero (by omega)
    subst e
    exact hq _ (.inr rfl)
  · have g : (B.length : Int) ≠ 0 := ne_of_beq_false g
    have e : flu B.length = [65533] := by unfold flu; rw [if_neg (by omega)]
    rw [e] at hq
    exact hq _ (.inl rfl)
noncomputable def s22 : Summ := fun args H => match args, H with
  | [.ptr 0 0], [.cells 29 [.lit (.string h)]] => .ret (.sl 1 1 0 (flu h.size).length, [.cells 29 [.lit (.string ByteArray.empty)], .row 21 (.int .i32) (flu h.size)], [])
  | [.lit (.pointer none)], [] => .ret (.lit (.slice none 0 0), [], [])
  | _, _ => .fail
theorem v22n (Q : SV × Heap × List Nat → Prop) (hq : Q (.lit (.slice none 0 0), [], [])) : (bodySumm T11b Try.prog Try.f22 noAn [.lit (.pointer none)] []).Leads Q := by
  refine Sx.by_text (q :=
      Q (Sx.SV.lit (Go.Value.slice Option.none (0 : Nat) (0 : Nat)), ([] : List Sx.SO), [])) (by kernel_rfl) ?_
  exact hq
theorem v14n (n : Nat) (L : List ByteArray) (Q : SV × Heap × List Nat → Prop) (hq : Q (.lit (.slice none 0 0), [.row 9 .str L], [])) :
    (bodySumm T11b Try.prog Try.f14 noAn [.lit (.pointer none), .sl 0 1 0 n] [.row 9 .str L]).Leads Q := by
  refine Sx.by_text (q :=
      Q (Sx.SV.lit (Go.Value.slice Option.none (0 : Nat) (0 : Nat)), [Sx.SO.row (9 : Nat) Sx.Ty.str L], [])) (by kernel_rfl) ?_
  exact hq
theorem s22_ok : SummOK Try.prog 22 s22 := by
  refine summ_of_body_mv (fn := Try.f22) (c := Try.f22.body.get!) T11b_ok (by kernel_rfl) (by kernel_rfl) (by kernel_rfl) fun args H Q h => ?_
  unfold s22 at h
  split at h
  · simp only [Tree.Leads] at h
    refine ⟨_, v22 _ _ fun mv hmv => ⟨[], fun k hk _ => ?_, h⟩⟩
    have : k = 0 := by simpa using hk
    subst this
    rcases hmv with rfl | rfl <;> rfl
  · simp only [Tree.Leads] at h
    exact ⟨_, v22n _ ⟨[], fun _ _ h => h, h⟩⟩
  · simp only [Tree.Leads] at h
noncomputable def s23 : Summ := fun args H => match args, H with
  | [.ptr 0 0], [.cells 44 [.sl 1 1 0 n], .row 5 (.int .u8) B] => .need (n = B.length) (.ret (.sl 2 1 0 (flu B.length).length, [.cells 44 [.sl 1 1 0 0], .row 5 (.int .u8) [], .row 21 (.int .i32) (flu B.length)], [1]))
  | _, _ => .fail
theorem s23_ok : SummOK Try.prog 23 s23 := by
  refine summ_of_body_mv (fn := Try.f23) (c := Try.f23.body.get!) T11b_ok (by kernel_rfl) (by kernel_rfl) (by kernel_rfl) fun args H Q h => ?_
  unfold s23 at h
  split at h
  · simp only [Tree.Leads] at h
    obtain ⟨rfl, h⟩ := h
    exact ⟨_, v23 _ _ fun mv hmv => ⟨[1], by rcases hmv with rfl | rfl <;> simp [memN], h⟩⟩
  · simp only [Tree.Leads] at h
noncomputable def s14n : Summ := fun args H => match args, H with
  | [.lit (.pointer none), .sl 0 1 0 _], [.row 9 .str L] => .ret (.lit (.slice none 0 0), [.row 9 .str L], [])
  | _, _ => .fail
theorem s14n_ok : SummOK Try.prog 14 s14n := by
  refine summ_of_body (fn := Try.f14) (c := Try.f14.body.get!) T11b_ok (by kernel_rfl) (by kernel_rfl) (by kernel_rfl) fun args H Q h => ?_
  unfold s14n at h
  split at h
  · simp only [Tree.Leads] at h
    exact ⟨_, v14n _ _ _ h⟩
  · simp only [Tree.Leads] at h
/-- Feed, whose answer is named; of no reader, too. -/
noncomputable def s14w : Summ := fun args H => match args, H with
  | [.ptr 0 0, .sl 1 1 0 m], [.cells 29 [.lit (.string h)], .row 9 .str S] => .need (Good (strInts h) ∧ m ≤ S.length ∧ SizeOK (S.take m) ∧ m ≤ 1000000) (.any (List Int × ByteArray) (fun r => Fed h (S.take m) r) fun r => .ret (.sl 2 1 0 r.1.length, [.cells 29 [.lit (.string r.2)], .row 9 .str S, .row 21 (.int .i32) r.1], []))
  | [.lit (.pointer none), .sl 0 1 0 _], [.row 9 .str L] => .ret (.lit (.slice none 0 0), [.row 9 .str L], [])
  | _, _ => .fail
theorem s14w_ok : SummOK Try.prog 14 s14w := summ_or s14v_ok s14n_ok fun args H Q h => by
  unfold s14w at h
  split at h
  · exact .inl h
  · exact .inr h
  · simp only [Tree.Leads] at h
end T12
