/- Part of a proof: the walk of the functions that the law calls. -/
import Derived.Test.YtlcobcpgaoeijaaSxT
import Derived.Test.YtlcobcpgaoeijaaXT13c
open Go Sx Go.Proofs T12
namespace T13
set_option maxRecDepth 100000
set_option maxHeartbeats 8000000
attribute [local irreducible] Tree.Leads
set_option linter.unusedSimpArgs false
set_option linter.unusedVariables false
theorem v32_5 (st : Int) (h : ByteArray) (it : List Int) (wr fi : Bool) (mk : Int) (nu : List Int) (fu : Bool) (tx : List Int) (ac : List aty.den) (b : Int) (Q : SV × Heap × List Nat → Prop) (hb : Byte b) (hbp : 48 ≤ b ∧ b < 64) (hac : ac.length ≤ 1000000) (hok : PS.OK ⟨st, strInts h, it, wr, fi, mk, nu, fu, tx⟩)
    (hq : GoesW (PS.actW ⟨st, strInts h, it, wr, fi, mk, nu, fu, tx⟩ 5 b) ac Q) : (bodySumm T10 Try.prog Try.f32 N22 [.ptr 0 0, .lit (.int .i64 5), .lit (.int .u8 b)] (pheap st h it wr fi mk nu fu tx ac)).Leads Q := by
  refine Sx.by_text (q :=
      Sx.br (Decidable.decide ((↑(List.length it) : Int) > (0 : Int)))
        (Q (Sx.SV.tup ([] : List Sx.SV), T13.rows st h it (List.length it) Bool.true Bool.false mk nu (List.length nu) fu tx (List.length tx) ac (List.length ac), []))
        (Sx.br (b == (58 : Int)) (Q (Sx.SV.tup ([] : List Sx.SV), T13.rows st h it (List.length it) Bool.true Bool.false mk nu (List.length nu) fu tx (List.length tx) ac (List.length ac), []))
          (Sx.br (Decidable.decide (b > (59 : Int)))
            (Sx.br (!fi) (Q (Sx.SV.tup ([] : List Sx.SV), T13.rows st h it (List.length it) Bool.true Bool.false mk nu (List.length nu) fu tx (List.length tx) ac (List.length ac), []))
              (Sx.br (Decidable.decide (b > (59 : Int)))
                (Q
                  (Sx.SV.tup ([] : List Sx.SV),
                    T13.rows st h it (List.length it) wr Bool.false (Go.IntKind.wrap Go.IntKind.i64 b) nu (List.length nu) fu tx (List.length tx) ac (List.length ac), []))
                (Sx.br (b == (59 : Int))
                  (Sx.br ((↑(List.length nu) : Int) == (0 : Int))
                    ((1 : Nat) ≤ (1 : Nat) ∧
                      (1 : Nat) = (1 : Nat) ∧
                        ((↑(2 : Nat) : Int) ≤ (9223372036854775807 : Int) ∧ (2 : Nat) * Sx.bytesOf Go.Proofs.Try.prog (3 : Nat) ≤ (140737488355328 : Nat)) ∧
                          Q
                            (Sx.SV.tup ([] : List Sx.SV), T13.rows st h it (List.length it) wr Bool.false mk [(-1 : Int), (-1 : Int)] (2 : Nat) fu tx (List.length tx) ac (List.length ac),
                              [(2 : Nat)]))
                    (Sx.br (Decidable.decide ((↑(List.length nu) : Int) ≥ (8 : Int)))
                      (Q (Sx.SV.tup ([] : List Sx.SV), T13.rows st h it (List.length it) wr Bool.false mk nu (List.length nu) Bool.true tx (List.length tx) ac (List.length ac), []))
                      ((1 : Nat) ≤ (1 : Nat) ∧
                        List.length nu = List.length nu ∧
                          ((↑(List.length nu + (1 : Nat)) : Int) ≤ (9223372036854775807 : Int) ∧
                              (List.length nu + (1 : Nat)) * Sx.bytesOf Go.Proofs.Try.prog (3 : Nat) ≤ (140737488355328 : Nat)) ∧
                            Q
                              (Sx.SV.tup ([] : List Sx.SV),
                                T13.rows st h it (List.length it) wr Bool.false mk (nu ++ [(-1 : Int)]) (List.length nu + (1 : Nat)) fu tx (List.length tx) ac (List.length ac),
                                [(2 : Nat)]))))
                  (Sx.br ((↑(List.length nu) : Int) == (0 : Int))
                    (Sx.br (!fu)
                      (((0 : Int) ≤ Go.IntKind.wrap Go.IntKind.i64 ((↑(1 : Nat) : Int) - (1 : Int)) ∧
                          Go.IntKind.wrap Go.IntKind.i64 ((↑(1 : Nat) : Int) - (1 : Int)) < (↑(1 : Nat) : Int)) ∧
                        (0 : Nat) < (1 : Nat) ∧
                          ((0 : Int) ≤ Go.IntKind.wrap Go.IntKind.i64 ((↑(1 : Nat) : Int) - (1 : Int)) ∧
                              Go.IntKind.wrap Go.IntKind.i64 ((↑(1 : Nat) : Int) - (1 : Int)) < (↑(1 : Nat) : Int)) ∧
                            (0 : Nat) < (1 : Nat) ∧
                              Q
                                (Sx.SV.tup ([] : List Sx.SV),
                                  T13.rows st h it (List.length it) wr Bool.false mk
                                    [Min.min
                                        (Go.IntKind.wrap Go.IntKind.i64
                                          (Go.IntKind.wrap Go.IntKind.i64 (Max.max (List.getD [(-1 : Int)] (0 : Nat) (Sx.Ty.dflt (Sx.Ty.int Go.IntKind.i64))) (0 : Int) * (10 : Int)) +
                                            Go.IntKind.wrap Go.IntKind.i64 (Go.IntKind.wrap Go.IntKind.u8 (b - (48 : Int)))))
                                        (9999 : Int)]
                                    (1 : Nat) fu tx (List.length tx) ac (List.length ac),
                                  [(2 : Nat)]))
                      (Q (Sx.SV.tup ([] : List Sx.SV), T13.rows st h it (List.length it) wr Bool.false mk [(-1 : Int)] (1 : Nat) fu tx (List.length tx) ac (List.length ac), [(2 : Nat)])))
                    (Sx.br (!fu)
                      (((0 : Int) ≤ Go.IntKind.wrap Go.IntKind.i64 ((↑(List.length nu) : Int) - (1 : Int)) ∧
                          Go.IntKind.wrap Go.IntKind.i64 ((↑(List.length nu) : Int) - (1 : Int)) < (↑(List.length nu) : Int)) ∧
                        (0 : Nat) + Int.toNat (Go.IntKind.wrap Go.IntKind.i64 ((↑(List.length nu) : Int) - (1 : Int))) < List.length nu ∧
                          ((0 : Int) ≤ Go.IntKind.wrap Go.IntKind.i64 ((↑(List.length nu) : Int) - (1 : Int)) ∧
                              Go.IntKind.wrap Go.IntKind.i64 ((↑(List.length nu) : Int) - (1 : Int)) < (↑(List.length nu) : Int)) ∧
                            (0 : Nat) + Int.toNat (Go.IntKind.wrap Go.IntKind.i64 ((↑(List.length nu) : Int) - (1 : Int))) < List.length nu ∧
                              Q
                                (Sx.SV.tup ([] : List Sx.SV),
                                  T13.rows st h it (List.length it) wr Bool.false mk
                                    (List.set nu ((0 : Nat) + Int.toNat (Go.IntKind.wrap Go.IntKind.i64 ((↑(List.length nu) : Int) - (1 : Int))))
                                      (Min.min
                                        (Go.IntKind.wrap Go.IntKind.i64
                                          (Go.IntKind.wrap Go.IntKind.i64
                                              (Max.max
                                                  (List.getD nu ((0 : Nat) + Int.toNat (Go.IntKind.wrap Go.IntKind.i64 ((↑(List.length nu) : Int) - (1 : Int))))
                                                    (Sx.Ty.dflt (Sx.Ty.int Go.IntKind.i64)))
                                                  (0 : Int) *
                                                (10 : Int)) +
                                            Go.IntKind.wrap Go.IntKind.i64 (Go.IntKind.wrap Go.IntKind.u8 (b - (48 : Int)))))
                                        (9999 : Int)))
                                    (List.length nu) fu tx (List.length tx) ac (List.length ac),
                                  []))
                      (Q (Sx.SV.tup ([] : List Sx.SV), T13.rows st h it (List.length it) wr Bool.false mk nu (List.length nu) fu tx (List.length tx) ac (List.length ac), [])))))))
            (Sx.br (Decidable.decide (b > (59 : Int)))
              (Q
                (Sx.SV.tup ([] : List Sx.SV), T13.rows st h it (List.length it) wr Bool.false (Go.IntKind.wrap Go.IntKind.i64 b) nu (List.length nu) fu tx (List.length tx) ac (List.length ac),
                  []))
              (Sx.br (b == (59 : Int))
                (Sx.br ((↑(List.length nu) : Int) == (0 : Int))
                  ((1 : Nat) ≤ (1 : Nat) ∧
                    (1 : Nat) = (1 : Nat) ∧
                      ((↑(2 : Nat) : Int) ≤ (9223372036854775807 : Int) ∧ (2 : Nat) * Sx.bytesOf Go.Proofs.Try.prog (3 : Nat) ≤ (140737488355328 : Nat)) ∧
                        Q
                          (Sx.SV.tup ([] : List Sx.SV), T13.rows st h it (List.length it) wr Bool.false mk [(-1 : Int), (-1 : Int)] (2 : Nat) fu tx (List.length tx) ac (List.length ac),
                            [(2 : Nat)]))
                  (Sx.br (Decidable.decide ((↑(List.length nu) : Int) ≥ (8 : Int)))
                    (Q (Sx.SV.tup ([] : List Sx.SV), T13.rows st h it (List.length it) wr Bool.false mk nu (List.length nu) Bool.true tx (List.length tx) ac (List.length ac), []))
                    ((1 : Nat) ≤ (1 : Nat) ∧
                      List.length nu = List.length nu ∧
                        ((↑(List.length nu + (1 : Nat)) : Int) ≤ (9223372036854775807 : Int) ∧
                            (List.length nu + (1 : Nat)) * Sx.bytesOf Go.Proofs.Try.prog (3 : Nat) ≤ (140737488355328 : Nat)) ∧
                          Q
                            (Sx.SV.tup ([] : List Sx.SV),
                              T13.rows st h it (List.length it) wr Bool.false mk (nu ++ [(-1 : Int)]) (List.length nu + (1 : Nat)) fu tx (List.length tx) ac (List.length ac),
                              [(2 : Nat)]))))
                (Sx.br ((↑(List.length nu) : Int) == (0 : Int))
                  (Sx.br (!fu)
                    (((0 : Int) ≤ Go.IntKind.wrap Go.IntKind.i64 ((↑(1 : Nat) : Int) - (1 : Int)) ∧
                        Go.IntKind.wrap Go.IntKind.i64 ((↑(1 : Nat) : Int) - (1 : Int)) < (↑(1 : Nat) : Int)) ∧
                      (0 : Nat) < (1 : Nat) ∧
                        ((0 : Int) ≤ Go.IntKind.wrap Go.IntKind.i64 ((↑(1 : Nat) : Int) - (1 : Int)) ∧
                            Go.IntKind.wrap Go.IntKind.i64 ((↑(1 : Nat) : Int) - (1 : Int)) < (↑(1 : Nat) : Int)) ∧
                          (0 : Nat) < (1 : Nat) ∧
                            Q
                              (Sx.SV.tup ([] : List Sx.SV),
                                T13.rows st h it (List.length it) wr Bool.false mk
                                  [Min.min
                                      (Go.IntKind.wrap Go.IntKind.i64
                                        (Go.IntKind.wrap Go.IntKind.i64 (Max.max (List.getD [(-1 : Int)] (0 : Nat) (Sx.Ty.dflt (Sx.Ty.int Go.IntKind.i64))) (0 : Int) * (10 : Int)) +
                                          Go.IntKind.wrap Go.IntKind.i64 (Go.IntKind.wrap Go.IntKind.u8 (b - (48 : Int)))))
                                      (9999 : Int)]
                                  (1 : Nat) fu tx (List.length tx) ac (List.length ac),
                                [(2 : Nat)]))
                    (Q (Sx.SV.tup ([] : List Sx.SV), T13.rows st h it (List.length it) wr Bool.false mk [(-1 : Int)] (1 : Nat) fu tx (List.length tx) ac (List.length ac), [(2 : Nat)])))
                  (Sx.br (!fu)
                    (((0 : Int) ≤ Go.IntKind.wrap Go.IntKind.i64 ((↑(List.length nu) : Int) - (1 : Int)) ∧
                        Go.IntKind.wrap Go.IntKind.i64 ((↑(List.length nu) : Int) - (1 : Int)) < (↑(List.length nu) : Int)) ∧
                      (0 : Nat) + Int.toNat (Go.IntKind.wrap Go.IntKind.i64 ((↑(List.length nu) : Int) - (1 : Int))) < List.length nu ∧
                        ((0 : Int) ≤ Go.IntKind.wrap Go.IntKind.i64 ((↑(List.length nu) : Int) - (1 : Int)) ∧
                            Go.IntKind.wrap Go.IntKind.i64 ((↑(List.length nu) : Int) - (1 : Int)) < (↑(List.length nu) : Int)) ∧
                          (0 : Nat) + Int.toNat (Go.IntKind.wrap Go.IntKind.i64 ((↑(List.length nu) : Int) - (1 : Int))) < List.length nu ∧
                            Q
                              (Sx.SV.tup ([] : List Sx.SV),
                                T13.rows st h it (List.length it) wr Bool.false mk
                                  (List.set nu ((0 : Nat) + Int.toNat (Go.IntKind.wrap Go.IntKind.i64 ((↑(List.length nu) : Int) - (1 : Int))))
                                    (Min.min
                                      (Go.IntKind.wrap Go.IntKind.i64
                                        (Go.IntKind.wrap Go.IntKind.i64
                                            (Max.max
                                                (List.getD nu ((0 : Nat) + Int.toNat (Go.IntKind.wrap Go.IntKind.i64 ((↑(List.length nu) : Int) - (1 : Int))))
                                                  (Sx.Ty.dflt (Sx.Ty.int Go.IntKind.i64)))
                                                (0 : Int) *
                                              (10 : Int)) +
                                          Go.IntKind.wrap Go.IntKind.i64 (Go.IntKind.wrap Go.IntKind.u8 (b - (48 : Int)))))
                                      (9999 : Int)))
                                  (List.length nu) fu tx (List.length tx) ac (List.length ac),
                                []))
                    (Q (Sx.SV.tup ([] : List Sx.SV), T13.rows st h it (List.length it) wr Bool.false mk nu (List.length nu) fu tx (List.length tx) ac (List.length ac), []))))))))) (by kernel_rfl) ?_
  have hbs : bytesOf Try.prog 50 = 88 := by kernel_rfl
  have hbt : bytesOf Try.prog 5 = 1 := by kernel_rfl
  have hbi : bytesOf Try.prog 3 = 8 := by kernel_rfl
  have hbr : bytesOf Try.prog 21 = 4 := by kernel_rfl
  obtain ⟨_, ok1, ok0, ok2, ok3, ok4, ok5⟩ := hok
  simp only at ok1 ok0 ok2 ok3 ok4 ok5
  have hw64 : IntKind.i64.wrap b = b := by have := hb.1; have := hb.2; rw [IntKind.wrap_i64]; omega
  have hw32 : IntKind.i32.wrap b = b := by have := hb.1; have := hb.2; rw [IntKind.wrap_i32]; omega
  have hl : IntKind.i64.wrap ((nu.length : Int) - 1) = (nu.length : Int) - 1 := by rw [IntKind.wrap_i64]; omega
  have hl1 : IntKind.i64.wrap (((1 : Nat) : Int) - 1) = 0 := by decide
  have hd : IntKind.i64.wrap (IntKind.u8.wrap (b - 48)) = b - 48 := by rw [IntKind.wrap_u8, IntKind.wrap_i64]; omega
  have hnum : ∀ k : Nat, IntKind.i64.wrap (IntKind.i64.wrap (max (nu.getD k (Ty.int IntKind.i64).dflt) 0 * 10) + (b - 48)) = max (nu.getD k 0) 0 * 10 + (b - 48) := fun k => by
    have e : nu.getD k (Ty.int IntKind.i64).dflt = nu.getD k (0 : Int) := rfl
    have hx : -1 ≤ nu.getD k (0 : Int) ∧ nu.getD k (0 : Int) ≤ 9999 := by
      rw [List.getD_eq_getElem?_getD]
      cases hk : nu[k]? with
      | none => simp
      | some x => exact ok5 x (List.mem_of_getElem? hk)
    rw [e]
    generalize nu.getD k (0 : Int) = x at hx
    have : 0 ≤ max x 0 ∧ max x 0 ≤ 9999 := by omega
    generalize max x 0 = y at this
    rw [IntKind.wrap_i64, IntKind.wrap_i64]; omega
  have hnum1 : IntKind.i64.wrap (IntKind.i64.wrap (max (([(-1 : Int)] : List Int).getD 0 (Ty.int IntKind.i64).dflt) 0 * 10) + (b - 48)) = b - 48 := by
    have e : max (([(-1 : Int)] : List Int).getD 0 (Ty.int IntKind.i64).dflt) 0 = 0 := by decide
    rw [e, IntKind.wrap_i64, IntKind.wrap_i64]; omega
  have ht : 0 + ((nu.length : Int) - 1).toNat = nu.length - 1 := by omega
  unfold GoesW at hq
  simp only [hl, hl1, hd, ht, hnum, hnum1]
  try simp only [List.take_length, List.drop_zero, hbs, hbt, hbi, hbr]
  repeat' first
    | (intro _ _)
    | (refine br_intro (fun h => ?_) (fun h => ?_))
    | (refine And.intro ?_ ?_)
  all_goals first | omega | trivial | (simp only [beq_iff_eq, beq_eq_false_iff_ne, decide_eq_true_eq, decide_eq_false_iff_not, ne_eq, Bool.not_eq_true', Bool.not_eq_false'] at *) | skip
  all_goals first | omega | refine hq _ _ _ _ _ _ _ _ _ _ _ _ _ _ _ ?_ ?_ ?_ ?_ ?_ ?_ rfl
  all_goals clear hq
  all_goals first
    | rfl
    | (simp only [List.length_append, List.length_cons, List.length_nil]; done)
    | (simp [PS.actW, PS.begin, PS.endA, PS.bell, PS.keep, PS.inters, PS.finish, PS.param, PS.number, PS.more, PS.digit, PS.dispatch, PS.print, aOsc, aDcs, aControl, aEscape, aCsi, aPrint, e0, *]; done)
    | (simp only [PS.actW, PS.begin, PS.endA, PS.bell, PS.keep, PS.inters, PS.finish, PS.param, PS.number, PS.more, PS.digit, PS.dispatch, PS.print, aOsc, aDcs, aControl, aEscape, aCsi, aPrint, e0, and_true, true_and, and_false, false_and, or_true, true_or, or_false, false_or, if_true, if_false, List.append_nil, not_true_eq_false, not_false_eq_true, *]; first | done | rfl)
    | (have hnu : nu = [] := List.eq_nil_of_length_eq_zero (by omega)
       subst hnu
       clear hnum hnum1 hl hl1 ht hd ok5
       simp only [PS.actW, PS.param, PS.number, PS.digit, List.length_nil, and_true, true_and, and_false, false_and, or_true, true_or, or_false, false_or, if_true, if_false, not_true_eq_false, not_false_eq_true, *]
       have hm : min (max (-1 : Int) 0 * 10 + (b - 48)) 9999 = min (b - 48) 9999 := by
         rw [show max (-1 : Int) 0 = 0 from by decide, Int.zero_mul, Int.zero_add]
       show PS.mk st (strInts _) it wr false mk [min (max (-1 : Int) 0 * 10 + (b - 48)) 9999] _ tx = _
       rw [hm]
       simp)
end T13
