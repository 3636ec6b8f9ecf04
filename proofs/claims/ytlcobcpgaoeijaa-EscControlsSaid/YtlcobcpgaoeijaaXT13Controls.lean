/- Part of a proof: the walk of the functions that the law calls. -/
import Derived.Test.YtlcobcpgaoeijaaSxT
import Derived.Test.YtlcobcpgaoeijaaXT13d
open Go Sx Go.Proofs T12
namespace T13
set_option maxRecDepth 100000
set_option maxHeartbeats 4000000
attribute [local irreducible] Tree.Leads
set_option linter.unusedVariables false
theorem flat_three (s t u : ByteArray) : flat [s, t, u] = strInts s ++ (strInts t ++ strInts u) := by simp only [flat, List.flatMap_cons, List.flatMap_nil, List.append_nil]
theorem v4 (n c k : Int) (Q : SV × Heap × List Nat → Prop) (hq : Q (.lit (.bool true), [], [])) : (bodySumm V4 Try.prog Try.f4 noAn [.lit (.int .i64 n), .lit (.int .i64 c), .lit (.int .i64 k)] []).Leads Q := by
  refine Sx.by_text (q :=
      Sx.br (Decidable.decide (n < (0 : Int))) (Q (Sx.SV.lit (Go.Value.bool Bool.true), ([] : List Sx.SO), []))
        (Sx.br (Decidable.decide (n > (9999 : Int))) (Q (Sx.SV.lit (Go.Value.bool Bool.true), ([] : List Sx.SO), []))
          (Sx.br (Decidable.decide (c < (0 : Int))) (Q (Sx.SV.lit (Go.Value.bool Bool.true), ([] : List Sx.SO), []))
            (Sx.br (Decidable.decide (c > (31 : Int))) (Q (Sx.SV.lit (Go.Value.bool Bool.true), ([] : List Sx.SO), []))
              (Sx.br (c == (24 : Int)) (Q (Sx.SV.lit (Go.Value.bool Bool.true), ([] : List Sx.SO), []))
                (Sx.br (c == (26 : Int)) (Q (Sx.SV.lit (Go.Value.bool Bool.true), ([] : List Sx.SO), []))
                  (Sx.br (c == (27 : Int)) (Q (Sx.SV.lit (Go.Value.bool Bool.true), ([] : List Sx.SO), []))
                    (Sx.br (Decidable.decide (k < (0 : Int))) (Q (Sx.SV.lit (Go.Value.bool Bool.true), ([] : List Sx.SO), []))
                      (((0 : Int) ≤ n ∧ n ≤ (100000 : Int)) ∧
                        (↑(ByteArray.size { data := #[(27 : UInt8), (91 : UInt8)] } + ByteArray.size (Sx.bsOf (T13.dig (Int.toNat n)))) : Int) ≤ (9223372036854775807 : Int) ∧
                          (↑(ByteArray.size ({ data := #[(27 : UInt8), (91 : UInt8)] } ++ Sx.bsOf (T13.dig (Int.toNat n))) + ByteArray.size { data := #[(65 : UInt8)] }) : Int) ≤
                              (9223372036854775807 : Int) ∧
                            (Go.IntKind.wrap Go.IntKind.i64
                                    ((↑(ByteArray.size ({ data := #[(27 : UInt8), (91 : UInt8)] } ++ Sx.bsOf (T13.dig (Int.toNat n)) ++ { data := #[(65 : UInt8)] })) : Int) -
                                      (1 : Int)) =
                                  (0 : Int) →
                                False) ∧
                              ((0 : Int) ≤
                                    Go.IntKind.wrap Go.IntKind.i64
                                      ((1 : Int) +
                                        Int.tmod k
                                          (Go.IntKind.wrap Go.IntKind.i64
                                            ((↑(ByteArray.size ({ data := #[(27 : UInt8), (91 : UInt8)] } ++ Sx.bsOf (T13.dig (Int.toNat n)) ++ { data := #[(65 : UInt8)] })) : Int) -
                                              (1 : Int)))) ∧
                                  Go.IntKind.wrap Go.IntKind.i64
                                      ((1 : Int) +
                                        Int.tmod k
                                          (Go.IntKind.wrap Go.IntKind.i64
                                            ((↑(ByteArray.size ({ data := #[(27 : UInt8), (91 : UInt8)] } ++ Sx.bsOf (T13.dig (Int.toNat n)) ++ { data := #[(65 : UInt8)] })) : Int) -
                                              (1 : Int)))) ≤
                                    (↑(ByteArray.size ({ data := #[(27 : UInt8), (91 : UInt8)] } ++ Sx.bsOf (T13.dig (Int.toNat n)) ++ { data := #[(65 : UInt8)] })) : Int)) ∧
                                True ∧
                                  True ∧
                                    ((0 : Int) ≤
                                          Go.IntKind.wrap Go.IntKind.i64
                                            ((1 : Int) +
                                              Int.tmod k
                                                (Go.IntKind.wrap Go.IntKind.i64
                                                  ((↑(ByteArray.size ({ data := #[(27 : UInt8), (91 : UInt8)] } ++ Sx.bsOf (T13.dig (Int.toNat n)) ++ { data := #[(65 : UInt8)] })) :
                                                      Int) -
                                                    (1 : Int)))) ∧
                                        Go.IntKind.wrap Go.IntKind.i64
                                            ((1 : Int) +
                                              Int.tmod k
                                                (Go.IntKind.wrap Go.IntKind.i64
                                                  ((↑(ByteArray.size ({ data := #[(27 : UInt8), (91 : UInt8)] } ++ Sx.bsOf (T13.dig (Int.toNat n)) ++ { data := #[(65 : UInt8)] })) :
                                                      Int) -
                                                    (1 : Int)))) ≤
                                          (↑(ByteArray.size ({ data := #[(27 : UInt8), (91 : UInt8)] } ++ Sx.bsOf (T13.dig (Int.toNat n)) ++ { data := #[(65 : UInt8)] })) : Int)) ∧
                                      (2 : Nat) ≤ (2 : Nat) ∧
                                        (T13.newP = T13.newP ∧
                                            (3 : Nat) ≤ (3 : Nat) ∧
                                              T13.FeedOK T13.ps0
                                                [ByteArray.extract ({ data := #[(27 : UInt8), (91 : UInt8)] } ++ Sx.bsOf (T13.dig (Int.toNat n)) ++ { data := #[(65 : UInt8)] }) (0 : Nat)
                                                    (Int.toNat
                                                      (Go.IntKind.wrap Go.IntKind.i64
                                                        ((1 : Int) +
                                                          Int.tmod k
                                                            (Go.IntKind.wrap Go.IntKind.i64
                                                              ((↑(ByteArray.size
                                                                      ({ data := #[(27 : UInt8), (91 : UInt8)] } ++ Sx.bsOf (T13.dig (Int.toNat n)) ++ { data := #[(65 : UInt8)] })) :
                                                                  Int) -
                                                                (1 : Int)))))),
                                                  Sx.bsOf [Go.IntKind.wrap Go.IntKind.u8 c, (127 : Int)],
                                                  ByteArray.extract ({ data := #[(27 : UInt8), (91 : UInt8)] } ++ Sx.bsOf (T13.dig (Int.toNat n)) ++ { data := #[(65 : UInt8)] })
                                                    (Int.toNat
                                                      (Go.IntKind.wrap Go.IntKind.i64
                                                        ((1 : Int) +
                                                          Int.tmod k
                                                            (Go.IntKind.wrap Go.IntKind.i64
                                                              ((↑(ByteArray.size
                                                                      ({ data := #[(27 : UInt8), (91 : UInt8)] } ++ Sx.bsOf (T13.dig (Int.toNat n)) ++ { data := #[(65 : UInt8)] })) :
                                                                  Int) -
                                                                (1 : Int))))))
                                                    (ByteArray.size ({ data := #[(27 : UInt8), (91 : UInt8)] } ++ Sx.bsOf (T13.dig (Int.toNat n)) ++ { data := #[(65 : UInt8)] }))]) ∧
                                          ∀ (b : T13.PS × List (Sx.Ty.den T13.aty)),
                                            T13.FeedOf T13.ps0
                                                [ByteArray.extract ({ data := #[(27 : UInt8), (91 : UInt8)] } ++ Sx.bsOf (T13.dig (Int.toNat n)) ++ { data := #[(65 : UInt8)] }) (0 : Nat)
                                                    (Int.toNat
                                                      (Go.IntKind.wrap Go.IntKind.i64
                                                        ((1 : Int) +
                                                          Int.tmod k
                                                            (Go.IntKind.wrap Go.IntKind.i64
                                                              ((↑(ByteArray.size
                                                                      ({ data := #[(27 : UInt8), (91 : UInt8)] } ++ Sx.bsOf (T13.dig (Int.toNat n)) ++ { data := #[(65 : UInt8)] })) :
                                                                  Int) -
                                                                (1 : Int)))))),
                                                  Sx.bsOf [Go.IntKind.wrap Go.IntKind.u8 c, (127 : Int)],
                                                  ByteArray.extract ({ data := #[(27 : UInt8), (91 : UInt8)] } ++ Sx.bsOf (T13.dig (Int.toNat n)) ++ { data := #[(65 : UInt8)] })
                                                    (Int.toNat
                                                      (Go.IntKind.wrap Go.IntKind.i64
                                                        ((1 : Int) +
                                                          Int.tmod k
                                                            (Go.IntKind.wrap Go.IntKind.i64
                                                              ((↑(ByteArray.size
                                                                      ({ data := #[(27 : UInt8), (91 : UInt8)] } ++ Sx.bsOf (T13.dig (Int.toNat n)) ++ { data := #[(65 : UInt8)] })) :
                                                                  Int) -
                                                                (1 : Int))))))
                                                    (ByteArray.size ({ data := #[(27 : UInt8), (91 : UInt8)] } ++ Sx.bsOf (T13.dig (Int.toNat n)) ++ { data := #[(65 : UInt8)] }))]
                                                b →
                                              Sx.br ((↑(List.length (Prod.snd b)) : Int) == (2 : Int))
                                                (((0 : Int) ≤ (0 : Int) ∧ (0 : Int) < (↑(List.length (Prod.snd b)) : Int)) ∧
                                                  (0 : Nat) < List.length (Prod.snd b) ∧
                                                    Sx.br (Prod.fst (List.getD (Prod.snd b) (0 : Nat) (Sx.Ty.dflt T13.aty)) == (2 : Int))
                                                      (((0 : Int) ≤ (0 : Int) ∧ (0 : Int) < (↑(List.length (Prod.snd b)) : Int)) ∧
                                                        (0 : Nat) < List.length (Prod.snd b) ∧
                                                          Sx.br (Prod.fst (Prod.snd (Prod.snd (List.getD (Prod.snd b) (0 : Nat) (Sx.Ty.dflt T13.aty)))) == c)
                                                            (((0 : Int) ≤ (1 : Int) ∧ (1 : Int) < (↑(List.length (Prod.snd b)) : Int)) ∧
                                                              (1 : Nat) < List.length (Prod.snd b) ∧
                                                                Sx.br (Prod.fst (List.getD (Prod.snd b) (1 : Nat) (Sx.Ty.dflt T13.aty)) == (4 : Int))
                                                                  (((0 : Int) ≤ (1 : Int) ∧ (1 : Int) < (↑(List.length (Prod.snd b)) : Int)) ∧
                                                                    (1 : Nat) < List.length (Prod.snd b) ∧
                                                                      Sx.br (Prod.fst (Prod.snd (Prod.snd (List.getD (Prod.snd b) (1 : Nat) (Sx.Ty.dflt T13.aty)))) == (65 : Int))
                                                                        (((0 : Int) ≤ (1 : Int) ∧ (1 : Int) < (↑(List.length (Prod.snd b)) : Int)) ∧
                                                                          (1 : Nat) < List.length (Prod.snd b) ∧
                                                                            ((1 : Nat) =
                                                                                  List.length
                                                                                    (Prod.fst
                                                                                      (Prod.snd
                                                                                        (Prod.snd (Prod.snd (Prod.snd (List.getD (Prod.snd b) (1 : Nat) (Sx.Ty.dflt T13.aty))))))) ∧
                                                                                (1 : Nat) ≤ (1 : Nat) ∧
                                                                                  [n] =
                                                                                      Prod.fst
                                                                                        (Prod.snd
                                                                                          (Prod.snd (Prod.snd (Prod.snd (List.getD (Prod.snd b) (1 : Nat) (Sx.Ty.dflt T13.aty)))))) ∧
                                                                                    List.length
                                                                                        (Prod.fst
                                                                                          (Prod.snd
                                                                                            (Prod.snd (Prod.snd (Prod.snd (List.getD (Prod.snd b) (1 : Nat) (Sx.Ty.dflt T13.aty))))))) ≤
                                                                                      (1000000 : Nat)) ∧
                                                                              T13.fedP (Prod.fst b) (1 : Nat) (2 : Nat) (3 : Nat)
                                                                                    (Sx.SV.lit (Go.Value.slice Option.none (0 : Nat) (0 : Nat))) =
                                                                                  T13.fedP
                                                                                    { st := T13.PS.st (Prod.fst b), half := Sx.strInts (Sx.bsOf (T13.PS.half (Prod.fst b))),
                                                                                      inter := T13.PS.inter (Prod.fst b), wrong := T13.PS.wrong (Prod.fst b),
                                                                                      first := T13.PS.first (Prod.fst b), mark := T13.PS.mark (Prod.fst b),
                                                                                      nums := T13.PS.nums (Prod.fst b), full := T13.PS.full (Prod.fst b),
                                                                                      text := T13.PS.text (Prod.fst b) }
                                                                                    (1 : Nat) (2 : Nat) (3 : Nat) (Sx.SV.lit (Go.Value.slice Option.none (0 : Nat) (0 : Nat))) ∧
                                                                                Q
                                                                                  (Sx.SV.lit
                                                                                      (Go.Value.bool
                                                                                        (T13.PS.st (Prod.fst b) == (0 : Int) &&
                                                                                          ByteArray.size (Sx.bsOf (T13.PS.half (Prod.fst b))) == (0 : Nat))),
                                                                                    ([] : List Sx.SO), []))
                                                                        (Q (Sx.SV.lit (Go.Value.bool Bool.false), ([] : List Sx.SO), [])))
                                                                  (Q (Sx.SV.lit (Go.Value.bool Bool.false), ([] : List Sx.SO), [])))
                                                            (Q (Sx.SV.lit (Go.Value.bool Bool.false), ([] : List Sx.SO), [])))
                                                      (Q (Sx.SV.lit (Go.Value.bool Bool.false), ([] : List Sx.SO), [])))
                                                (Q (Sx.SV.lit (Go.Value.bool Bool.false), ([] : List Sx.SO), []))))))))))) (by kernel_rfl) ?_
  refine br_intro (fun _ => hq) (fun g1 => br_intro (fun _ => hq) (fun g2 => br_intro (fun _ => hq) (fun g3 => br_intro (fun _ => hq) (fun g4 => br_intro (fun _ => hq) (fun g5 => br_intro (fun _ => hq) (fun g6 => br_intro (fun _ => hq) (fun g7 => br_intro (fun _ => hq) (fun g8 => ?_))))))))
  simp only [decide_eq_false_iff_not, beq_eq_false_iff_ne, ne_eq] at g1 g2 g3 g4 g5 g6 g7 g8
  obtain ⟨m, rfl⟩ : ∃ m : Nat, n = m := ⟨n.toNat, by omega⟩
  simp only [Int.toNat_natCast]
  have hd1 : ∀ x ∈ dig m, Byte x := fun x hx => by have := dig_bytes m x hx; exact ⟨by omega, by omega⟩
  have hs1 : strInts (bsOf (dig m)) = dig m := strInts_bsOf hd1
  have hsz : (bsOf (dig m)).size = (dig m).length := bsOf_size _
  have hlen := dig_len m (by omega)
  have hS : strInts (({ data := #[27, 91] } : ByteArray) ++ bsOf (dig m) ++ { data := #[65] }) = seqL m := by
    rw [strInts_append, strInts_append, hs1]
    have e1 : strInts ({ data := #[27, 91] } : ByteArray) = [27, 91] := by decide
    have e2 : strInts ({ data := #[65] } : ByteArray) = [65] := by decide
    rw [e1, e2]; simp [seqL]
  have hSl : (({ data := #[27, 91] } : ByteArray) ++ bsOf (dig m) ++ { data := #[65] }).size = (seqL m).length := by rw [← strInts_size, hS]
  have hSm : (({ data := #[27, 91] } : ByteArray) ++ bsOf (dig m)).size = (dig m).length + 2 := by
    rw [← strInts_size, strInts_append, hs1, List.length_append]
    have e1 : strInts ({ data := #[27, 91] } : ByteArray) = [27, 91] := by decide
    rw [e1]; simp; omega
  have hL : (seqL m).length = (dig m).length + 3 := by simp [seqL]
  have z1 : ({ data := #[27, 91] } : ByteArray).size = 2 := rfl
  have z2 : ({ data := #[65] } : ByteArray).size = 1 := rfl
  generalize hSS : ({ data := #[27, 91] } : ByteArray) ++ bsOf (dig m) ++ { data := #[65] } = S at *
  have hw : IntKind.i64.wrap ((S.size : Int) - 1) = (dig m).length + 2 := by rw [IntKind.wrap_i64]; omega
  have hk : ∃ j : Nat, IntKind.i64.wrap (1 + k.tmod (IntKind.i64.wrap ((S.size : Int) - 1))) = j ∧ 1 ≤ j ∧ j < (seqL m).length := by
    rw [hw, Int.tmod_eq_emod_of_nonneg (by omega), IntKind.wrap_i64]
    have h1 := Int.emod_nonneg k (show ((dig m).length : Int) + 2 ≠ 0 by omega)
    have h2 := Int.emod_lt_of_pos k (show (0 : Int) < ((dig m).length : Int) + 2 by omega)
    exact ⟨(1 + k % (((dig m).length : Int) + 2)).toNat, by omega, by omega, by omega⟩
  obtain ⟨j, hj, hj1, hj2⟩ := hk
  rw [hj, hw]
  have hc : IntKind.u8.wrap c = c := by rw [IntKind.wrap_u8]; omega
  have hcb : strInts (bsOf [IntKind.u8.wrap c, 127]) = [c, 127] := by
    rw [hc, strInts_bsOf]
    intro x hx
    simp at hx
    rcases hx with rfl | rfl
    · exact ⟨by omega, by omega⟩
    · exact ⟨by omega, by omega⟩
  have hf : flat [S.extract 0 j, bsOf [IntKind.u8.wrap c, 127], S.extract j S.size] = (seqL m).take j ++ ([c, 127] ++ (seqL m).drop j) := by
    rw [flat_three, hcb, strInts_extract, strInts_extract, hS, hSl, List.drop_zero, Nat.sub_zero]
    rw [List.take_of_length_le (l := (seqL m).drop j) (by rw [List.length_drop]; omega)]
  have hres := seq_control (s := ps0) (n := m) rfl rfl (by omega) j hj1 hj2 (c := c) (by omega) g5 g6 g7
  rw [← hf] at hres
  simp only [Int.toNat_natCast]
  refine ⟨by omega, by omega, by omega, by omega, by omega, trivial, trivial, by omega, by omega, ⟨trivial, by omega, ⟨ps0_ok, ?_, by simp⟩⟩, fun r hr => ?_⟩
  · rw [hf, List.length_append, List.length_append, List.length_take, List.length_drop]; simp; omega
  obtain ⟨hr⟩ := hr
  rw [hres] at hr
  subst hr
  repeat' first
    | exact hq
    | refine And.intro ?_ ?_
    | refine br_yes (by first | rfl | exact beq_self_eq_true _) ?_
    | exact of_decide_eq_true rfl
    | rfl
end T13
