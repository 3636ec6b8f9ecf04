/- Part of a proof: the walk of the functions that the law calls. -/
import Derived.Test.YtlcobcpgaoeijaaSxT
import Derived.Test.YtlcobcpgaoeijaaXT13i
import Derived.Test.YtlcobcpgaoeijaaXP13c
open Go Sx Go.Proofs T12
namespace T13
set_option maxRecDepth 100000
set_option maxHeartbeats 4000000
attribute [local irreducible] Tree.Leads
set_option linter.unusedVariables false
theorem flat_one (s : ByteArray) : flat [s] = strInts s := by simp only [flat, List.flatMap_cons, List.flatMap_nil, List.append_nil]
theorem flat_two (s t : ByteArray) : flat [s, t] = strInts s ++ strInts t := by simp only [flat, List.flatMap_cons, List.flatMap_nil, List.append_nil]
theorem few_of {l : List aty.den} (h : Eight l) : Few l := fun x hx => by have := h x hx; omega
theorem v8 (a b : ByteArray) (Q : SV × Heap × List Nat → Prop) (hq : Q (.lit (.bool true), [], [])) : (bodySumm V3 Try.prog Try.f8 noAn [.lit (.string a), .lit (.string b)] []).Leads Q := by
  refine Sx.by_text (q :=
      Sx.br (Decidable.decide ((↑(ByteArray.size a) : Int) > (800 : Int))) (Q (Sx.SV.lit (Go.Value.bool Bool.true), ([] : List Sx.SO), []))
        (Sx.br (Decidable.decide ((↑(ByteArray.size b) : Int) > (500 : Int))) (Q (Sx.SV.lit (Go.Value.bool Bool.true), ([] : List Sx.SO), []))
          ((T13.newP = T13.newP ∧ (2 : Nat) ≤ (2 : Nat) ∧ T13.FeedOK T13.ps0 [a, { data := #[(24 : UInt8)] }]) ∧
            ∀ (b_1 : T13.PS × List (Sx.Ty.den T13.aty)),
              T13.FeedOf T13.ps0 [a, { data := #[(24 : UInt8)] }] b_1 →
                T13.fedP (Prod.fst b_1) (1 : Nat) (2 : Nat) (3 : Nat) (Sx.SV.lit (Go.Value.slice Option.none (0 : Nat) (0 : Nat))) =
                    T13.fedP
                      { st := T13.PS.st (Prod.fst b_1), half := Sx.strInts (Sx.bsOf (T13.PS.half (Prod.fst b_1))), inter := T13.PS.inter (Prod.fst b_1),
                        wrong := T13.PS.wrong (Prod.fst b_1), first := T13.PS.first (Prod.fst b_1), mark := T13.PS.mark (Prod.fst b_1), nums := T13.PS.nums (Prod.fst b_1),
                        full := T13.PS.full (Prod.fst b_1), text := T13.PS.text (Prod.fst b_1) }
                      (1 : Nat) (2 : Nat) (3 : Nat) (Sx.SV.lit (Go.Value.slice Option.none (0 : Nat) (0 : Nat))) ∧
                  Sx.br (!(T13.PS.st (Prod.fst b_1) == (0 : Int) && ByteArray.size (Sx.bsOf (T13.PS.half (Prod.fst b_1))) == (0 : Nat)))
                    (Q (Sx.SV.lit (Go.Value.bool Bool.false), ([] : List Sx.SO), []))
                    ((T13.fedP (Prod.fst b_1) (1 : Nat) (2 : Nat) (3 : Nat) (Sx.SV.lit (Go.Value.slice Option.none (0 : Nat) (0 : Nat))) =
                          T13.fedP
                            { st := T13.PS.st (Prod.fst b_1), half := Sx.strInts (Sx.bsOf (T13.PS.half (Prod.fst b_1))), inter := T13.PS.inter (Prod.fst b_1),
                              wrong := T13.PS.wrong (Prod.fst b_1), first := T13.PS.first (Prod.fst b_1), mark := T13.PS.mark (Prod.fst b_1), nums := T13.PS.nums (Prod.fst b_1),
                              full := T13.PS.full (Prod.fst b_1), text := T13.PS.text (Prod.fst b_1) }
                            (1 : Nat) (2 : Nat) (3 : Nat) (Sx.SV.lit (Go.Value.slice Option.none (0 : Nat) (0 : Nat))) ∧
                        T13.KeptOK
                          { st := T13.PS.st (Prod.fst b_1), half := Sx.strInts (Sx.bsOf (T13.PS.half (Prod.fst b_1))), inter := T13.PS.inter (Prod.fst b_1),
                            wrong := T13.PS.wrong (Prod.fst b_1), first := T13.PS.first (Prod.fst b_1), mark := T13.PS.mark (Prod.fst b_1), nums := T13.PS.nums (Prod.fst b_1),
                            full := T13.PS.full (Prod.fst b_1), text := T13.PS.text (Prod.fst b_1) }) ∧
                      Sx.br
                        ((↑(List.length (T13.PS.inter (Prod.fst b_1)) + List.length (T13.PS.nums (Prod.fst b_1)) + List.length (T13.PS.text (Prod.fst b_1)) +
                                ByteArray.size (Sx.bsOf (T13.PS.half (Prod.fst b_1)))) :
                            Int) !=
                          (0 : Int))
                        (Q (Sx.SV.lit (Go.Value.bool Bool.false), ([] : List Sx.SO), []))
                        ((T13.fedP (Prod.fst b_1) (2 : Nat) (3 : Nat) (4 : Nat) (Sx.SV.lit (Go.Value.slice Option.none (0 : Nat) (0 : Nat))) =
                              T13.fedP
                                { st := T13.PS.st (Prod.fst b_1), half := Sx.strInts (Sx.bsOf (T13.PS.half (Prod.fst b_1))), inter := T13.PS.inter (Prod.fst b_1),
                                  wrong := T13.PS.wrong (Prod.fst b_1), first := T13.PS.first (Prod.fst b_1), mark := T13.PS.mark (Prod.fst b_1), nums := T13.PS.nums (Prod.fst b_1),
                                  full := T13.PS.full (Prod.fst b_1), text := T13.PS.text (Prod.fst b_1) }
                                (2 : Nat) (3 : Nat) (4 : Nat) (Sx.SV.lit (Go.Value.slice Option.none (0 : Nat) (0 : Nat))) ∧
                            (1 : Nat) ≤ (1 : Nat) ∧
                              T13.FeedOK
                                { st := T13.PS.st (Prod.fst b_1), half := Sx.strInts (Sx.bsOf (T13.PS.half (Prod.fst b_1))), inter := T13.PS.inter (Prod.fst b_1),
                                  wrong := T13.PS.wrong (Prod.fst b_1), first := T13.PS.first (Prod.fst b_1), mark := T13.PS.mark (Prod.fst b_1), nums := T13.PS.nums (Prod.fst b_1),
                                  full := T13.PS.full (Prod.fst b_1), text := T13.PS.text (Prod.fst b_1) }
                                [b]) ∧
                          ∀ (b_2 : T13.PS × List (Sx.Ty.den T13.aty)),
                            T13.FeedOf
                                { st := T13.PS.st (Prod.fst b_1), half := Sx.strInts (Sx.bsOf (T13.PS.half (Prod.fst b_1))), inter := T13.PS.inter (Prod.fst b_1),
                                  wrong := T13.PS.wrong (Prod.fst b_1), first := T13.PS.first (Prod.fst b_1), mark := T13.PS.mark (Prod.fst b_1), nums := T13.PS.nums (Prod.fst b_1),
                                  full := T13.PS.full (Prod.fst b_1), text := T13.PS.text (Prod.fst b_1) }
                                [b] b_2 →
                              (T13.newP = T13.newP ∧ (1 : Nat) ≤ (1 : Nat) ∧ T13.FeedOK T13.ps0 [b]) ∧
                                ∀ (b_3 : T13.PS × List (Sx.Ty.den T13.aty)),
                                  T13.FeedOf T13.ps0 [b] b_3 →
                                    (List.length (Prod.snd b_2) = List.length (Prod.snd b_2) ∧
                                        List.length (Prod.snd b_3) = List.length (Prod.snd b_3) ∧ T13.Alike (Prod.snd b_2) (Prod.snd b_3)) ∧
                                      Q (Sx.SV.lit (Go.Value.bool Bool.true), ([] : List Sx.SO), [])))))) (by kernel_rfl) ?_
  refine br_intro (fun _ => hq) (fun h0 => br_intro (fun _ => hq) (fun h1 => ?_))
  have h0 := of_decide_eq_false h0
  have h1 := of_decide_eq_false h1
  have sa := strInts_size a
  have sb := strInts_size b
  have eg : psG = ⟨0, [], [], false, true, 0, [], false, []⟩ := rfl
  refine ⟨⟨rfl, by omega, ⟨ps0_ok, by rw [flat_two, List.length_append]; show _ + 1 ≤ _; omega, by simp⟩⟩, fun r hr => ?_⟩
  obtain ⟨hr⟩ := hr
  rw [flat_two] at hr
  have e24 : strInts ({ data := #[24] } : ByteArray) = [24] := by decide
  rw [e24, pfeed_snoc] at hr
  have hst : r.1 = psG := by rw [hr]; exact pstep_stop (pfeed_ok ps0_ok _) (.inl rfl)
  have hok : psG.OK := by rw [← hst, hr]; exact pstep_ok (pfeed_ok ps0_ok _) 24
  rw [hst]
  have ee : strInts (bsOf psG.half) = [] := by decide
  have es : (bsOf psG.half).size = 0 := by decide
  rw [ee, es]
  have fb : (flat [b]).length ≤ 200000 := by rw [flat_one]; omega
  refine ⟨rfl, br_no (by decide) ⟨⟨rfl, ⟨by decide⟩⟩, br_no (by decide) ⟨⟨rfl, by omega, ⟨hok, fb, by simp⟩⟩, fun r2 hr2 => ⟨⟨rfl, by omega, ⟨ps0_ok, fb, by simp⟩⟩, fun r3 hr3 => ⟨⟨rfl, rfl, ?_⟩, hq⟩⟩⟩⟩⟩
  obtain ⟨hr2⟩ := hr2
  obtain ⟨hr3⟩ := hr3
  have hrel := (pfeed_rel (s := psG) (t := ps0) (.inr ⟨rfl, rfl, rfl⟩) (flat [b])).2
  have h2 : r2.2 = (pfeed psG (flat [b])).2 := by rw [hr2]; rfl
  have hl := pfeed_few psG (flat [b])
  rw [flat_one] at hl
  refine ⟨by rw [h2, hr3, hrel], by rw [h2, flat_one]; omega, ?_⟩
  rw [h2]; exact few_of (pfeed_eight hok _)
end T13
