/- Part of a proof: the walk of the functions that the law calls. -/
import Derived.Test.YtlcobcpgaoeijaaSxT
import Derived.Test.YtlcobcpgaoeijaaXT13c
open Go Sx Go.Proofs T12
namespace T13
set_option maxRecDepth 100000
set_option maxHeartbeats 8000000
attribute [local irreducible] Tree.Leads
set_option linter.unusedSimpArgs false
set_option linter.unusedVariables false
theorem v32_4 (st : Int) (h : ByteArray) (it : List Int) (wr fi : Bool) (mk : Int) (nu : List Int) (fu : Bool) (tx : List Int) (ac : List aty.den) (b : Int) (Q : SV × Heap × List Nat → Prop) (hb : Byte b) (hac : ac.length ≤ 1000000) (hok : PS.OK ⟨st, strInts h, it, wr, fi, mk, nu, fu, tx⟩)
    (hq : GoesW (PS.actW ⟨st, strInts h, it, wr, fi, mk, nu, fu, tx⟩ 4 b) ac Q) : (bodySumm T10 Try.prog Try.f32 N22 [.ptr 0 0, .lit (.int .i64 4), .lit (.int .u8 b)] (pheap st h it wr fi mk nu fu tx ac)).Leads Q := by
  refine Sx.by_text (q :=
      Sx.br ((↑(List.length it) : Int) == (0 : Int))
        (Sx.br (b == (91 : Int))
          (Q
            (Sx.SV.tup ([] : List Sx.SV), T13.rows (2 : Int) h [] (0 : Nat) Bool.false Bool.true (0 : Int) [] (0 : Nat) Bool.false [] (0 : Nat) ac (List.length ac),
              [(1 : Nat), (2 : Nat), (3 : Nat)]))
          (Sx.br (b == (93 : Int))
            (Q
              (Sx.SV.tup ([] : List Sx.SV), T13.rows (3 : Int) h [] (0 : Nat) Bool.false Bool.true (0 : Int) [] (0 : Nat) Bool.false [] (0 : Nat) ac (List.length ac),
                [(1 : Nat), (2 : Nat), (3 : Nat)]))
            (Sx.br (b == (80 : Int))
              (Q
                (Sx.SV.tup ([] : List Sx.SV), T13.rows (4 : Int) h [] (0 : Nat) Bool.false Bool.true (0 : Int) [] (0 : Nat) Bool.false [] (0 : Nat) ac (List.length ac),
                  [(1 : Nat), (2 : Nat), (3 : Nat)]))
              (Sx.br (!wr)
                ((0 : Nat) + List.length it ≤ List.length it ∧
                  (1 : Nat) ≤ (1 : Nat) ∧
                    List.length ac = List.length ac ∧
                      ((↑(List.length ac + (1 : Nat)) : Int) ≤ (9223372036854775807 : Int) ∧
                          (List.length ac + (1 : Nat)) * Sx.bytesOf Go.Proofs.Try.prog (50 : Nat) ≤ (140737488355328 : Nat)) ∧
                        Q
                          (Sx.SV.tup ([] : List Sx.SV),
                            T13.rows (0 : Int) h [] (0 : Nat) Bool.false Bool.true (0 : Int) [] (0 : Nat) Bool.false [] (0 : Nat)
                              (ac ++
                                [((3 : Int), (0 : Int), Go.IntKind.wrap Go.IntKind.i64 b, (0 : Int), [], Sx.bsOf (List.take (List.length it) (List.drop (0 : Nat) it)), { data := #[] })])
                              (List.length ac + (1 : Nat)),
                            [(1 : Nat), (2 : Nat), (3 : Nat), (4 : Nat)]))
                (Q
                  (Sx.SV.tup ([] : List Sx.SV), T13.rows (0 : Int) h [] (0 : Nat) Bool.false Bool.true (0 : Int) [] (0 : Nat) Bool.false [] (0 : Nat) ac (List.length ac),
                    [(1 : Nat), (2 : Nat), (3 : Nat)]))))))
        (Sx.br (!wr)
          ((0 : Nat) + List.length it ≤ List.length it ∧
            (1 : Nat) ≤ (1 : Nat) ∧
              List.length ac = List.length ac ∧
                ((↑(List.length ac + (1 : Nat)) : Int) ≤ (9223372036854775807 : Int) ∧
                    (List.length ac + (1 : Nat)) * Sx.bytesOf Go.Proofs.Try.prog (50 : Nat) ≤ (140737488355328 : Nat)) ∧
                  Q
                    (Sx.SV.tup ([] : List Sx.SV),
                      T13.rows (0 : Int) h [] (0 : Nat) Bool.false Bool.true (0 : Int) [] (0 : Nat) Bool.false [] (0 : Nat)
                        (ac ++ [((3 : Int), (0 : Int), Go.IntKind.wrap Go.IntKind.i64 b, (0 : Int), [], Sx.bsOf (List.take (List.length it) (List.drop (0 : Nat) it)), { data := #[] })])
                        (List.length ac + (1 : Nat)),
                      [(1 : Nat), (2 : Nat), (3 : Nat), (4 : Nat)]))
          (Q
            (Sx.SV.tup ([] : List Sx.SV), T13.rows (0 : Int) h [] (0 : Nat) Bool.false Bool.true (0 : Int) [] (0 : Nat) Bool.false [] (0 : Nat) ac (List.length ac),
              [(1 : Nat), (2 : Nat), (3 : Nat)])))) (by kernel_rfl) ?_
  have hbs : bytesOf Try.prog 50 = 88 := by kernel_rfl
  have hbt : bytesOf Try.prog 5 = 1 := by kernel_rfl
  have hbi : bytesOf Try.prog 3 = 8 := by kernel_rfl
  have hbr : bytesOf Try.prog 21 = 4 := by kernel_rfl
  obtain ⟨_, ok1, ok0, ok2, ok3, ok4, ok5⟩ := hok
  simp only at ok1 ok0 ok2 ok3 ok4 ok5
  have hw64 : IntKind.i64.wrap b = b := by have := hb.1; have := hb.2; rw [IntKind.wrap_i64]; omega
  have hw32 : IntKind.i32.wrap b = b := by have := hb.1; have := hb.2; rw [IntKind.wrap_i32]; omega
  unfold GoesW at hq
  try simp only [List.take_length, List.drop_zero, hbs, hbt, hbi, hbr]
  repeat' first
    | (intro _ _)
    | (refine br_intro (fun h => ?_) (fun h => ?_))
    | (refine And.intro ?_ ?_)
  all_goals first | omega | trivial | (simp only [beq_iff_eq, beq_eq_false_iff_ne, decide_eq_true_eq, decide_eq_false_iff_not, ne_eq, Bool.not_eq_true', Bool.not_eq_false'] at *) | skip
  all_goals first | omega | refine hq _ _ _ _ _ _ _ _ _ _ _ _ _ _ _ ?_ ?_ ?_ ?_ ?_ ?_ rfl
  all_goals clear hq
  all_goals first
    | rfl
    | (simp only [List.length_append, List.length_cons, List.length_nil]; done)
    | (simp [PS.actW, PS.begin, PS.endA, PS.bell, PS.keep, PS.inters, PS.finish, PS.param, PS.number, PS.more, PS.digit, PS.dispatch, PS.print, aOsc, aDcs, aControl, aEscape, aCsi, aPrint, e0, *]; done)
    | (simp only [PS.actW, PS.begin, PS.endA, PS.bell, PS.keep, PS.inters, PS.finish, PS.param, PS.number, PS.more, PS.digit, PS.dispatch, PS.print, aOsc, aDcs, aControl, aEscape, aCsi, aPrint, e0, and_true, true_and, and_false, false_and, or_true, true_or, or_false, false_or, if_true, if_false, List.append_nil, not_true_eq_false, not_false_eq_true, *]; first | done | rfl)
end T13
