/- Part of a proof: the walk of the functions that the law calls. -/
import Derived.Test.YtlcobcpgaoeijaaSxT
import Derived.Test.YtlcobcpgaoeijaaXT13i
import Derived.Test.YtlcobcpgaoeijaaXP13g
open Go Sx Go.Proofs T12
namespace T13
set_option maxRecDepth 100000
set_option maxHeartbeats 4000000
attribute [local irreducible] Tree.Leads
set_option linter.unusedVariables false
noncomputable def A9 : Ann := { live := [0, 1, 2, 3, 9], mv := [], head := fun vals H => match vals with | [.lit (.string s), b, c, d, _] => { X := Nat, inv := fun i => ([.lit (.string s), b, c, d, .lit (.int .i64 i)], H), ok := fun i => i ≤ s.size ∧ ∀ j, j < i → 32 ≤ (strInts s).getD j 0, mu := fun i => s.size - i } | _ => { X := Nat, inv := fun _ => ([], []), ok := fun _ => False, mu := fun _ => 0 } }
theorem flat_one (s : ByteArray) : flat [s] = strInts s := by simp only [flat, List.flatMap_cons, List.flatMap_nil, List.append_nil]
theorem flat_two (s t : ByteArray) : flat [s, t] = strInts s ++ strInts t := by simp only [flat, List.flatMap_cons, List.flatMap_nil, List.append_nil]
theorem few_of {l : List aty.den} (h : Eight l) : Few l := fun x hx => by have := h x hx; omega
theorem alike {r2 r3 : PS × List aty.den} (more : ByteArray) (h : more.size ≤ 200) (h2 : FeedOf psG [more] r2) (h3 : FeedOf ps0 [more] r3) : Alike r2.2 r3.2 := by
  obtain ⟨hr2⟩ := h2
  obtain ⟨hr3⟩ := h3
  have hrel := (pfeed_rel (s := psG) (t := ps0) (.inr ⟨rfl, rfl, rfl⟩) (flat [more])).2
  have hl := pfeed_few psG (flat [more])
  rw [flat_one, strInts_size] at hl
  refine ⟨by rw [hr2, hr3, hrel], by rw [hr2, flat_one]; omega, ?_⟩
  rw [hr2]; exact few_of (pfeed_eight psG_ok _)
theorem cut_text (s : ByteArray) : bsOf ((strInts s).take 60) = s.extract 0 (min (s.size : Int) 60).toNat := by
  have e : strInts (s.extract 0 (min (s.size : Int) 60).toNat) = (strInts s).take 60 := by
    rw [strInts_extract, List.drop_zero, Nat.sub_zero]
    by_cases h : s.size ≤ 60
    · have : (min (s.size : Int) 60).toNat = s.size := by omega
      rw [this, List.take_of_length_le (by rw [strInts_size]; omega), List.take_of_length_le (by rw [strInts_size]; omega)]
    · have : (min (s.size : Int) 60).toNat = 60 := by omega
      rw [this]
  rw [← e, bsOf_strInts]
theorem str_kept (st : Int) (s : ByteArray) : KeptOK (str st ((strInts s).take 60)) := ⟨by
  have : ((strInts s).take 60).length ≤ 60 := by rw [List.length_take]; omega
  show 0 + 0 + ((strInts s).take 60).length + 0 ≤ _
  omega⟩
theorem v9d (s more : ByteArray) (bell : Bool) (Q : SV × Heap × List Nat → Prop) (hq : Q (.lit (.bool true), [], [])) : (bodySumm V3 Try.prog Try.f9 (An1 0 A9) [.lit (.string s), .lit (.bool true), .lit (.bool bell), .lit (.string more)] []).Leads Q := by
  refine Sx.by_text (q :=
      Sx.br (Decidable.decide ((↑(ByteArray.size s) : Int) > (300 : Int))) (Q (Sx.SV.lit (Go.Value.bool Bool.true), ([] : List Sx.SO), []))
        (Sx.br (Decidable.decide ((↑(ByteArray.size more) : Int) > (200 : Int))) (Q (Sx.SV.lit (Go.Value.bool Bool.true), ([] : List Sx.SO), []))
          ((∃ (x : Nat),
              ([Sx.SV.lit (Go.Value.string s), Sx.SV.lit (Go.Value.bool Bool.true), Sx.SV.lit (Go.Value.bool bell), Sx.SV.lit (Go.Value.string more),
                      Sx.SV.lit (Go.Value.int Go.IntKind.i64 (0 : Int))],
                    ([] : List Sx.SO)) =
                  ([Sx.SV.lit (Go.Value.string s), Sx.SV.lit (Go.Value.bool Bool.true), Sx.SV.lit (Go.Value.bool bell), Sx.SV.lit (Go.Value.string more),
                      Sx.SV.lit (Go.Value.int Go.IntKind.i64 (↑x : Int))],
                    ([] : List Sx.SO)) ∧
                x ≤ ByteArray.size s ∧ ∀ (j : Nat), j < x → (32 : Int) ≤ List.getD (Sx.strInts s) j (0 : Int)) ∧
            ∀ (b : Nat),
              (b ≤ ByteArray.size s ∧ ∀ (j : Nat), j < b → (32 : Int) ≤ List.getD (Sx.strInts s) j (0 : Int)) →
                Sx.br (Decidable.decide ((↑b : Int) < (↑(ByteArray.size s) : Int)))
                  (((0 : Int) ≤ (↑b : Int) ∧ (↑b : Int) < (↑(ByteArray.size s) : Int)) ∧
                    Sx.br (Decidable.decide (Sx.byteAt s (↑b : Int) < (32 : Int))) (Q (Sx.SV.lit (Go.Value.bool Bool.true), ([] : List Sx.SO), []))
                      ((∃ (x' : Nat),
                          ([Sx.SV.lit (Go.Value.string s), Sx.SV.lit (Go.Value.bool Bool.true), Sx.SV.lit (Go.Value.bool bell), Sx.SV.lit (Go.Value.string more),
                                  Sx.SV.lit (Go.Value.int Go.IntKind.i64 (Go.IntKind.wrap Go.IntKind.i64 ((↑b : Int) + (1 : Int))))],
                                ([] : List Sx.SO)) =
                              ([Sx.SV.lit (Go.Value.string s), Sx.SV.lit (Go.Value.bool Bool.true), Sx.SV.lit (Go.Value.bool bell), Sx.SV.lit (Go.Value.string more),
                                  Sx.SV.lit (Go.Value.int Go.IntKind.i64 (↑x' : Int))],
                                ([] : List Sx.SO)) ∧
                            (x' ≤ ByteArray.size s ∧ ∀ (j : Nat), j < x' → (32 : Int) ≤ List.getD (Sx.strInts s) j (0 : Int)) ∧ ByteArray.size s - x' < ByteArray.size s - b) ∧
                        True))
                  ((T13.newP = T13.newP ∧ (2 : Nat) ≤ (2 : Nat) ∧ T13.FeedOK T13.ps0 [{ data := #[(27 : UInt8), (80 : UInt8)] }, s]) ∧
                    ∀ (b : T13.PS × List (Sx.Ty.den T13.aty)),
                      T13.FeedOf T13.ps0 [{ data := #[(27 : UInt8), (80 : UInt8)] }, s] b →
                        T13.fedP (Prod.fst b) (1 : Nat) (2 : Nat) (3 : Nat) (Sx.SV.lit (Go.Value.slice Option.none (0 : Nat) (0 : Nat))) =
                            T13.fedP
                              { st := T13.PS.st (Prod.fst b), half := Sx.strInts (Sx.bsOf (T13.PS.half (Prod.fst b))), inter := T13.PS.inter (Prod.fst b),
                                wrong := T13.PS.wrong (Prod.fst b), first := T13.PS.first (Prod.fst b), mark := T13.PS.mark (Prod.fst b), nums := T13.PS.nums (Prod.fst b),
                                full := T13.PS.full (Prod.fst b), text := T13.PS.text (Prod.fst b) }
                              (1 : Nat) (2 : Nat) (3 : Nat) (Sx.SV.lit (Go.Value.slice Option.none (0 : Nat) (0 : Nat))) ∧
                          Sx.br (T13.PS.st (Prod.fst b) == (0 : Int) && ByteArray.size (Sx.bsOf (T13.PS.half (Prod.fst b))) == (0 : Nat))
                            (Q (Sx.SV.lit (Go.Value.bool Bool.false), ([] : List Sx.SO), []))
                            ((T13.fedP (Prod.fst b) (1 : Nat) (2 : Nat) (3 : Nat) (Sx.SV.lit (Go.Value.slice Option.none (0 : Nat) (0 : Nat))) =
                                  T13.fedP
                                    { st := T13.PS.st (Prod.fst b), half := Sx.strInts (Sx.bsOf (T13.PS.half (Prod.fst b))), inter := T13.PS.inter (Prod.fst b),
                                      wrong := T13.PS.wrong (Prod.fst b), first := T13.PS.first (Prod.fst b), mark := T13.PS.mark (Prod.fst b), nums := T13.PS.nums (Prod.fst b),
                                      full := T13.PS.full (Prod.fst b), text := T13.PS.text (Prod.fst b) }
                                    (1 : Nat) (2 : Nat) (3 : Nat) (Sx.SV.lit (Go.Value.slice Option.none (0 : Nat) (0 : Nat))) ∧
                                T13.KeptOK
                                  { st := T13.PS.st (Prod.fst b), half := Sx.strInts (Sx.bsOf (T13.PS.half (Prod.fst b))), inter := T13.PS.inter (Prod.fst b),
                                    wrong := T13.PS.wrong (Prod.fst b), first := T13.PS.first (Prod.fst b), mark := T13.PS.mark (Prod.fst b), nums := T13.PS.nums (Prod.fst b),
                                    full := T13.PS.full (Prod.fst b), text := T13.PS.text (Prod.fst b) }) ∧
                              Sx.br
                                (Decidable.decide
                                  ((↑(List.length (T13.PS.inter (Prod.fst b)) + List.length (T13.PS.nums (Prod.fst b)) + List.length (T13.PS.text (Prod.fst b)) +
                                          ByteArray.size (Sx.bsOf (T13.PS.half (Prod.fst b)))) :
                                      Int) >
                                    (76 : Int)))
                                (Q (Sx.SV.lit (Go.Value.bool Bool.false), ([] : List Sx.SO), []))
                                ((T13.fedP (Prod.fst b) (2 : Nat) (3 : Nat) (4 : Nat) (Sx.SV.lit (Go.Value.slice Option.none (0 : Nat) (0 : Nat))) =
                                      T13.fedP
                                        { st := T13.PS.st (Prod.fst b), half := Sx.strInts (Sx.bsOf (T13.PS.half (Prod.fst b))), inter := T13.PS.inter (Prod.fst b),
                                          wrong := T13.PS.wrong (Prod.fst b), first := T13.PS.first (Prod.fst b), mark := T13.PS.mark (Prod.fst b), nums := T13.PS.nums (Prod.fst b),
                                          full := T13.PS.full (Prod.fst b), text := T13.PS.text (Prod.fst b) }
                                        (2 : Nat) (3 : Nat) (4 : Nat) (Sx.SV.lit (Go.Value.slice Option.none (0 : Nat) (0 : Nat))) ∧
                                    (1 : Nat) ≤ (1 : Nat) ∧
                                      T13.FeedOK
                                        { st := T13.PS.st (Prod.fst b), half := Sx.strInts (Sx.bsOf (T13.PS.half (Prod.fst b))), inter := T13.PS.inter (Prod.fst b),
                                          wrong := T13.PS.wrong (Prod.fst b), first := T13.PS.first (Prod.fst b), mark := T13.PS.mark (Prod.fst b), nums := T13.PS.nums (Prod.fst b),
                                          full := T13.PS.full (Prod.fst b), text := T13.PS.text (Prod.fst b) }
                                        [{ data := #[(27 : UInt8), (92 : UInt8)] }]) ∧
                                  ∀ (b_1 : T13.PS × List (Sx.Ty.den T13.aty)),
                                    T13.FeedOf
                                        { st := T13.PS.st (Prod.fst b), half := Sx.strInts (Sx.bsOf (T13.PS.half (Prod.fst b))), inter := T13.PS.inter (Prod.fst b),
                                          wrong := T13.PS.wrong (Prod.fst b), first := T13.PS.first (Prod.fst b), mark := T13.PS.mark (Prod.fst b), nums := T13.PS.nums (Prod.fst b),
                                          full := T13.PS.full (Prod.fst b), text := T13.PS.text (Prod.fst b) }
                                        [{ data := #[(27 : UInt8), (92 : UInt8)] }] b_1 →
                                      Sx.br ((↑(List.length (Prod.snd b_1)) : Int) != (2 : Int)) (Q (Sx.SV.lit (Go.Value.bool Bool.false), ([] : List Sx.SO), []))
                                        (((0 : Int) ≤ (0 : Int) ∧ (0 : Int) < (↑(List.length (Prod.snd b_1)) : Int)) ∧
                                          (0 : Nat) < List.length (Prod.snd b_1) ∧
                                            Sx.br (Prod.fst (List.getD (Prod.snd b_1) (0 : Nat) (Sx.Ty.dflt T13.aty)) != (6 : Int))
                                              (Q (Sx.SV.lit (Go.Value.bool Bool.false), ([] : List Sx.SO), []))
                                              (((0 : Int) ≤ (0 : Int) ∧ (0 : Int) < (↑(List.length (Prod.snd b_1)) : Int)) ∧
                                                (0 : Nat) < List.length (Prod.snd b_1) ∧
                                                  ((0 : Int) ≤ Min.min (↑(ByteArray.size s) : Int) (60 : Int) ∧
                                                      Min.min (↑(ByteArray.size s) : Int) (60 : Int) ≤ (↑(ByteArray.size s) : Int)) ∧
                                                    True ∧
                                                      Sx.br
                                                        (!Prod.snd (Prod.snd (Prod.snd (Prod.snd (Prod.snd (Prod.snd (List.getD (Prod.snd b_1) (0 : Nat) (Sx.Ty.dflt T13.aty))))))) ==
                                                            ByteArray.extract s (0 : Nat) (Int.toNat (Min.min (↑(ByteArray.size s) : Int) (60 : Int))))
                                                        (Q (Sx.SV.lit (Go.Value.bool Bool.false), ([] : List Sx.SO), []))
                                                        (((0 : Int) ≤ (1 : Int) ∧ (1 : Int) < (↑(List.length (Prod.snd b_1)) : Int)) ∧
                                                          (1 : Nat) < List.length (Prod.snd b_1) ∧
                                                            Sx.br (Prod.fst (List.getD (Prod.snd b_1) (1 : Nat) (Sx.Ty.dflt T13.aty)) != (3 : Int))
                                                              (Q (Sx.SV.lit (Go.Value.bool Bool.false), ([] : List Sx.SO), []))
                                                              (((0 : Int) ≤ (1 : Int) ∧ (1 : Int) < (↑(List.length (Prod.snd b_1)) : Int)) ∧
                                                                (1 : Nat) < List.length (Prod.snd b_1) ∧
                                                                  Sx.br (Prod.fst (Prod.snd (Prod.snd (List.getD (Prod.snd b_1) (1 : Nat) (Sx.Ty.dflt T13.aty)))) != (92 : Int))
                                                                    (Q (Sx.SV.lit (Go.Value.bool Bool.false), ([] : List Sx.SO), []))
                                                                    (T13.fedP (Prod.fst b_1) (1 : Nat) (2 : Nat) (3 : Nat) (Sx.SV.lit (Go.Value.slice Option.none (0 : Nat) (0 : Nat))) =
                                                                        T13.fedP
                                                                          { st := T13.PS.st (Prod.fst b_1), half := Sx.strInts (Sx.bsOf (T13.PS.half (Prod.fst b_1))),
                                                                            inter := T13.PS.inter (Prod.fst b_1), wrong := T13.PS.wrong (Prod.fst b_1),
                                                                            first := T13.PS.first (Prod.fst b_1), mark := T13.PS.mark (Prod.fst b_1), nums := T13.PS.nums (Prod.fst b_1),
                                                                            full := T13.PS.full (Prod.fst b_1), text := T13.PS.text (Prod.fst b_1) }
                                                                          (1 : Nat) (2 : Nat) (3 : Nat) (Sx.SV.lit (Go.Value.slice Option.none (0 : Nat) (0 : Nat))) ∧
                                                                      Sx.br
                                                                        (!(T13.PS.st (Prod.fst b_1) == (0 : Int) && ByteArray.size (Sx.bsOf (T13.PS.half (Prod.fst b_1))) == (0 : Nat)))
                                                                        (Q (Sx.SV.lit (Go.Value.bool Bool.false), ([] : List Sx.SO), []))
                                                                        ((T13.fedP (Prod.fst b_1) (2 : Nat) (3 : Nat) (4 : Nat)
                                                                                (Sx.SV.lit (Go.Value.slice Option.none (0 : Nat) (0 : Nat))) =
                                                                              T13.fedP
                                                                                { st := T13.PS.st (Prod.fst b_1), half := Sx.strInts (Sx.bsOf (T13.PS.half (Prod.fst b_1))),
                                                                                  inter := T13.PS.inter (Prod.fst b_1), wrong := T13.PS.wrong (Prod.fst b_1),
                                                                                  first := T13.PS.first (Prod.fst b_1), mark := T13.PS.mark (Prod.fst b_1),
                                                                                  nums := T13.PS.nums (Prod.fst b_1), full := T13.PS.full (Prod.fst b_1),
                                                                                  text := T13.PS.text (Prod.fst b_1) }
                                                                                (2 : Nat) (3 : Nat) (4 : Nat) (Sx.SV.lit (Go.Value.slice Option.none (0 : Nat) (0 : Nat))) ∧
                                                                            (1 : Nat) ≤ (1 : Nat) ∧
                                                                              T13.FeedOK
                                                                                { st := T13.PS.st (Prod.fst b_1), half := Sx.strInts (Sx.bsOf (T13.PS.half (Prod.fst b_1))),
                                                                                  inter := T13.PS.inter (Prod.fst b_1), wrong := T13.PS.wrong (Prod.fst b_1),
                                                                                  first := T13.PS.first (Prod.fst b_1), mark := T13.PS.mark (Prod.fst b_1),
                                                                                  nums := T13.PS.nums (Prod.fst b_1), full := T13.PS.full (Prod.fst b_1),
                                                                                  text := T13.PS.text (Prod.fst b_1) }
                                                                                [more]) ∧
                                                                          ∀ (b : T13.PS × List (Sx.Ty.den T13.aty)),
                                                                            T13.FeedOf
                                                                                { st := T13.PS.st (Prod.fst b_1), half := Sx.strInts (Sx.bsOf (T13.PS.half (Prod.fst b_1))),
                                                                                  inter := T13.PS.inter (Prod.fst b_1), wrong := T13.PS.wrong (Prod.fst b_1),
                                                                                  first := T13.PS.first (Prod.fst b_1), mark := T13.PS.mark (Prod.fst b_1),
                                                                                  nums := T13.PS.nums (Prod.fst b_1), full := T13.PS.full (Prod.fst b_1),
                                                                                  text := T13.PS.text (Prod.fst b_1) }
                                                                                [more] b →
                                                                              (T13.newP = T13.newP ∧ (1 : Nat) ≤ (1 : Nat) ∧ T13.FeedOK T13.ps0 [more]) ∧
                                                                                ∀ (b_2 : T13.PS × List (Sx.Ty.den T13.aty)),
                                                                                  T13.FeedOf T13.ps0 [more] b_2 →
                                                                                    (List.length (Prod.snd b) = List.length (Prod.snd b) ∧
                                                                                        List.length (Prod.snd b_2) = List.length (Prod.snd b_2) ∧ T13.Alike (Prod.snd b) (Prod.snd b_2)) ∧
                                                                                      Q (Sx.SV.lit (Go.Value.bool Bool.true), ([] : List Sx.SO), []))))))))))))) (by kernel_rfl) ?_
  refine br_intro (fun _ => hq) (fun h0 => br_intro (fun _ => hq) (fun h1 => ⟨⟨0, rfl, by omega, fun j hj => by omega⟩, fun i hi => br_intro (fun hlt => ?_) (fun hge => ?_)⟩))
  · have hlt := of_decide_eq_true hlt
    have h0 := of_decide_eq_false h0
    have e : byteAt s (i : Int) = (strInts s).getD i 0 := by rw [byteAt_eq, Int.toNat_natCast]
    refine ⟨by omega, br_intro (fun _ => hq) (fun g1 => ⟨⟨i + 1, ?_, ⟨by omega, fun j hj => ?_⟩, by omega⟩, trivial⟩)⟩
    · rw [wrap1 i (by omega)]
    · have g1 := of_decide_eq_false g1
      rw [e] at g1
      rcases Nat.lt_or_ge j i with hji | hji
      · exact hi.2 j hji
      · have : j = i := by omega
        subst this; omega
  have h0 := of_decide_eq_false h0
  have h1 := of_decide_eq_false h1
  have hge := of_decide_eq_false hge
  have hall : ∀ x ∈ strInts s, 32 ≤ x := fun x hx => by
    obtain ⟨j, hj, rfl⟩ := List.getElem_of_mem hx
    have := hi.2 j (by rw [strInts_size] at hj; omega)
    rw [List.getD_eq_getElem?_getD, List.getElem?_eq_getElem hj] at this
    exact this
  clear hi hge
  have sa := strInts_size s
  have sb := strInts_size more
  have ef : strInts ({ data := #[27, 80] } : ByteArray) = [27, 80] := by decide
  have ee : strInts ({ data := #[27, 92] } : ByteArray) = [27, 92] := by decide
  have hT : ((strInts s).take 60).length ≤ 60 := by rw [List.length_take]; omega
  refine ⟨⟨rfl, by omega, ⟨ps0_ok, by rw [flat_two, ef, List.length_append]; simp; omega, by simp⟩⟩, fun r hr => ?_⟩
  obtain ⟨hr⟩ := hr
  rw [flat_two, ef] at hr
  have hr : r = (str 4 ((strInts s).take 60), []) := by rw [hr]; exact front_dcs (s := ps0) rfl rfl _ hall
  have hok : r.1.OK := by rw [hr]; exact ⟨by show 0 ≤ (4 : Int) ∧ (4 : Int) ≤ 4; omega, trivial, fun _ => rfl, by simp [str], by simp [str], hT, by simp [str]⟩
  have hkept : KeptOK r.1 := by rw [hr]; exact str_kept 4 s
  rw [PS.eta hok.half]
  have hk2 : r.1.inter.length + r.1.nums.length + r.1.text.length + (bsOf r.1.half).size ≤ 60 := by
    rw [hr]; show 0 + 0 + ((strInts s).take 60).length + 0 ≤ 60; omega
  refine ⟨rfl, br_no (by rw [hr]; rfl) ⟨⟨rfl, hkept⟩, br_no (decide_eq_false (by omega)) ⟨⟨rfl, by omega, ⟨hok, by rw [flat_one, ee]; simp, by simp⟩⟩, fun r1 hr1 => ?_⟩⟩⟩
  obtain ⟨hr1⟩ := hr1
  rw [flat_one, ee, hr, ends_dcs] at hr1
  have hok1 : r1.1.OK := by rw [hr1]; exact psG_ok
  rw [PS.eta hok1.half]
  have fin : ∀ b, FeedOf r1.1 [more] b → (newP = newP ∧ 1 ≤ 1 ∧ FeedOK ps0 [more]) ∧ ∀ b_2, FeedOf ps0 [more] b_2 → (b.2.length = b.2.length ∧ b_2.2.length = b_2.2.length ∧ Alike b.2 b_2.2) ∧ Q (.lit (.bool true), [], []) := fun b hb => by
    rw [hr1] at hb
    exact ⟨⟨rfl, by omega, ⟨ps0_ok, by rw [flat_one]; omega, by simp⟩⟩, fun b2 hb2 => ⟨⟨rfl, rfl, alike more (by omega) hb hb2⟩, hq⟩⟩
  have hf1 : FeedOK r1.1 [more] := ⟨hok1, by rw [flat_one]; omega, by simp⟩
  have hct := cut_text s
  subst hr1
  refine br_no rfl ⟨of_decide_eq_true rfl, by simp, br_no rfl ⟨of_decide_eq_true rfl, by simp, by omega, trivial, br_no ?_ ⟨of_decide_eq_true rfl, by simp, br_no rfl ⟨of_decide_eq_true rfl, by simp, br_no rfl ⟨rfl, br_no rfl ⟨⟨rfl, by omega, hf1⟩, fin⟩⟩⟩⟩⟩⟩
  show (!(bsOf ((strInts s).take 60) == s.extract 0 (min (s.size : Int) 60).toNat)) = false
  rw [hct, bytes_self]; rfl

theorem v9b (s more : ByteArray) (bell : Bool) (Q : SV × Heap × List Nat → Prop) (hq : Q (.lit (.bool true), [], [])) : (bodySumm V3 Try.prog Try.f9 (An1 0 A9) [.lit (.string s), .lit (.bool false), .lit (.bool true), .lit (.string more)] []).Leads Q := by
  refine Sx.by_text (q :=
      Sx.br (Decidable.decide ((↑(ByteArray.size s) : Int) > (300 : Int))) (Q (Sx.SV.lit (Go.Value.bool Bool.true), ([] : List Sx.SO), []))
        (Sx.br (Decidable.decide ((↑(ByteArray.size more) : Int) > (200 : Int))) (Q (Sx.SV.lit (Go.Value.bool Bool.true), ([] : List Sx.SO), []))
          ((∃ (x : Nat),
              ([Sx.SV.lit (Go.Value.string s), Sx.SV.lit (Go.Value.bool Bool.false), Sx.SV.lit (Go.Value.bool Bool.true), Sx.SV.lit (Go.Value.string more),
                      Sx.SV.lit (Go.Value.int Go.IntKind.i64 (0 : Int))],
                    ([] : List Sx.SO)) =
                  ([Sx.SV.lit (Go.Value.string s), Sx.SV.lit (Go.Value.bool Bool.false), Sx.SV.lit (Go.Value.bool Bool.true), Sx.SV.lit (Go.Value.string more),
                      Sx.SV.lit (Go.Value.int Go.IntKind.i64 (↑x : Int))],
                    ([] : List Sx.SO)) ∧
                x ≤ ByteArray.size s ∧ ∀ (j : Nat), j < x → (32 : Int) ≤ List.getD (Sx.strInts s) j (0 : Int)) ∧
            ∀ (b : Nat),
              (b ≤ ByteArray.size s ∧ ∀ (j : Nat), j < b → (32 : Int) ≤ List.getD (Sx.strInts s) j (0 : Int)) →
                Sx.br (Decidable.decide ((↑b : Int) < (↑(ByteArray.size s) : Int)))
                  (((0 : Int) ≤ (↑b : Int) ∧ (↑b : Int) < (↑(ByteArray.size s) : Int)) ∧
                    Sx.br (Decidable.decide (Sx.byteAt s (↑b : Int) < (32 : Int))) (Q (Sx.SV.lit (Go.Value.bool Bool.true), ([] : List Sx.SO), []))
                      ((∃ (x' : Nat),
                          ([Sx.SV.lit (Go.Value.string s), Sx.SV.lit (Go.Value.bool Bool.false), Sx.SV.lit (Go.Value.bool Bool.true), Sx.SV.lit (Go.Value.string more),
                                  Sx.SV.lit (Go.Value.int Go.IntKind.i64 (Go.IntKind.wrap Go.IntKind.i64 ((↑b : Int) + (1 : Int))))],
                                ([] : List Sx.SO)) =
                              ([Sx.SV.lit (Go.Value.string s), Sx.SV.lit (Go.Value.bool Bool.false), Sx.SV.lit (Go.Value.bool Bool.true), Sx.SV.lit (Go.Value.string more),
                                  Sx.SV.lit (Go.Value.int Go.IntKind.i64 (↑x' : Int))],
                                ([] : List Sx.SO)) ∧
                            (x' ≤ ByteArray.size s ∧ ∀ (j : Nat), j < x' → (32 : Int) ≤ List.getD (Sx.strInts s) j (0 : Int)) ∧ ByteArray.size s - x' < ByteArray.size s - b) ∧
                        True))
                  ((T13.newP = T13.newP ∧ (2 : Nat) ≤ (2 : Nat) ∧ T13.FeedOK T13.ps0 [{ data := #[(27 : UInt8), (93 : UInt8)] }, s]) ∧
                    ∀ (b : T13.PS × List (Sx.Ty.den T13.aty)),
                      T13.FeedOf T13.ps0 [{ data := #[(27 : UInt8), (93 : UInt8)] }, s] b →
                        T13.fedP (Prod.fst b) (1 : Nat) (2 : Nat) (3 : Nat) (Sx.SV.lit (Go.Value.slice Option.none (0 : Nat) (0 : Nat))) =
                            T13.fedP
                              { st := T13.PS.st (Prod.fst b), half := Sx.strInts (Sx.bsOf (T13.PS.half (Prod.fst b))), inter := T13.PS.inter (Prod.fst b),
                                wrong := T13.PS.wrong (Prod.fst b), first := T13.PS.first (Prod.fst b), mark := T13.PS.mark (Prod.fst b), nums := T13.PS.nums (Prod.fst b),
                                full := T13.PS.full (Prod.fst b), text := T13.PS.text (Prod.fst b) }
                              (1 : Nat) (2 : Nat) (3 : Nat) (Sx.SV.lit (Go.Value.slice Option.none (0 : Nat) (0 : Nat))) ∧
                          Sx.br (T13.PS.st (Prod.fst b) == (0 : Int) && ByteArray.size (Sx.bsOf (T13.PS.half (Prod.fst b))) == (0 : Nat))
                            (Q (Sx.SV.lit (Go.Value.bool Bool.false), ([] : List Sx.SO), []))
                            ((T13.fedP (Prod.fst b) (1 : Nat) (2 : Nat) (3 : Nat) (Sx.SV.lit (Go.Value.slice Option.none (0 : Nat) (0 : Nat))) =
                                  T13.fedP
                                    { st := T13.PS.st (Prod.fst b), half := Sx.strInts (Sx.bsOf (T13.PS.half (Prod.fst b))), inter := T13.PS.inter (Prod.fst b),
                                      wrong := T13.PS.wrong (Prod.fst b), first := T13.PS.first (Prod.fst b), mark := T13.PS.mark (Prod.fst b), nums := T13.PS.nums (Prod.fst b),
                                      full := T13.PS.full (Prod.fst b), text := T13.PS.text (Prod.fst b) }
                                    (1 : Nat) (2 : Nat) (3 : Nat) (Sx.SV.lit (Go.Value.slice Option.none (0 : Nat) (0 : Nat))) ∧
                                T13.KeptOK
                                  { st := T13.PS.st (Prod.fst b), half := Sx.strInts (Sx.bsOf (T13.PS.half (Prod.fst b))), inter := T13.PS.inter (Prod.fst b),
                                    wrong := T13.PS.wrong (Prod.fst b), first := T13.PS.first (Prod.fst b), mark := T13.PS.mark (Prod.fst b), nums := T13.PS.nums (Prod.fst b),
                                    full := T13.PS.full (Prod.fst b), text := T13.PS.text (Prod.fst b) }) ∧
                              Sx.br
                                (Decidable.decide
                                  ((↑(List.length (T13.PS.inter (Prod.fst b)) + List.length (T13.PS.nums (Prod.fst b)) + List.length (T13.PS.text (Prod.fst b)) +
                                          ByteArray.size (Sx.bsOf (T13.PS.half (Prod.fst b)))) :
                                      Int) >
                                    (76 : Int)))
                                (Q (Sx.SV.lit (Go.Value.bool Bool.false), ([] : List Sx.SO), []))
                                ((T13.fedP (Prod.fst b) (2 : Nat) (3 : Nat) (4 : Nat) (Sx.SV.lit (Go.Value.slice Option.none (0 : Nat) (0 : Nat))) =
                                      T13.fedP
                                        { st := T13.PS.st (Prod.fst b), half := Sx.strInts (Sx.bsOf (T13.PS.half (Prod.fst b))), inter := T13.PS.inter (Prod.fst b),
                                          wrong := T13.PS.wrong (Prod.fst b), first := T13.PS.first (Prod.fst b), mark := T13.PS.mark (Prod.fst b), nums := T13.PS.nums (Prod.fst b),
                                          full := T13.PS.full (Prod.fst b), text := T13.PS.text (Prod.fst b) }
                                        (2 : Nat) (3 : Nat) (4 : Nat) (Sx.SV.lit (Go.Value.slice Option.none (0 : Nat) (0 : Nat))) ∧
                                    (1 : Nat) ≤ (1 : Nat) ∧
                                      T13.FeedOK
                                        { st := T13.PS.st (Prod.fst b), half := Sx.strInts (Sx.bsOf (T13.PS.half (Prod.fst b))), inter := T13.PS.inter (Prod.fst b),
                                          wrong := T13.PS.wrong (Prod.fst b), first := T13.PS.first (Prod.fst b), mark := T13.PS.mark (Prod.fst b), nums := T13.PS.nums (Prod.fst b),
                                          full := T13.PS.full (Prod.fst b), text := T13.PS.text (Prod.fst b) }
                                        [{ data := #[(7 : UInt8)] }]) ∧
                                  ∀ (b_1 : T13.PS × List (Sx.Ty.den T13.aty)),
                                    T13.FeedOf
                                        { st := T13.PS.st (Prod.fst b), half := Sx.strInts (Sx.bsOf (T13.PS.half (Prod.fst b))), inter := T13.PS.inter (Prod.fst b),
                                          wrong := T13.PS.wrong (Prod.fst b), first := T13.PS.first (Prod.fst b), mark := T13.PS.mark (Prod.fst b), nums := T13.PS.nums (Prod.fst b),
                                          full := T13.PS.full (Prod.fst b), text := T13.PS.text (Prod.fst b) }
                                        [{ data := #[(7 : UInt8)] }] b_1 →
                                      Sx.br ((↑(List.length (Prod.snd b_1)) : Int) != (1 : Int)) (Q (Sx.SV.lit (Go.Value.bool Bool.false), ([] : List Sx.SO), []))
                                        (((0 : Int) ≤ (0 : Int) ∧ (0 : Int) < (↑(List.length (Prod.snd b_1)) : Int)) ∧
                                          (0 : Nat) < List.length (Prod.snd b_1) ∧
                                            Sx.br (Prod.fst (List.getD (Prod.snd b_1) (0 : Nat) (Sx.Ty.dflt T13.aty)) != (5 : Int))
                                              (Q (Sx.SV.lit (Go.Value.bool Bool.false), ([] : List Sx.SO), []))
                                              (((0 : Int) ≤ (0 : Int) ∧ (0 : Int) < (↑(List.length (Prod.snd b_1)) : Int)) ∧
                                                (0 : Nat) < List.length (Prod.snd b_1) ∧
                                                  ((0 : Int) ≤ Min.min (↑(ByteArray.size s) : Int) (60 : Int) ∧
                                                      Min.min (↑(ByteArray.size s) : Int) (60 : Int) ≤ (↑(ByteArray.size s) : Int)) ∧
                                                    True ∧
                                                      Sx.br
                                                        (!Prod.snd (Prod.snd (Prod.snd (Prod.snd (Prod.snd (Prod.snd (List.getD (Prod.snd b_1) (0 : Nat) (Sx.Ty.dflt T13.aty))))))) ==
                                                            ByteArray.extract s (0 : Nat) (Int.toNat (Min.min (↑(ByteArray.size s) : Int) (60 : Int))))
                                                        (Q (Sx.SV.lit (Go.Value.bool Bool.false), ([] : List Sx.SO), []))
                                                        (T13.fedP (Prod.fst b_1) (1 : Nat) (2 : Nat) (3 : Nat) (Sx.SV.lit (Go.Value.slice Option.none (0 : Nat) (0 : Nat))) =
                                                            T13.fedP
                                                              { st := T13.PS.st (Prod.fst b_1), half := Sx.strInts (Sx.bsOf (T13.PS.half (Prod.fst b_1))),
                                                                inter := T13.PS.inter (Prod.fst b_1), wrong := T13.PS.wrong (Prod.fst b_1), first := T13.PS.first (Prod.fst b_1),
                                                                mark := T13.PS.mark (Prod.fst b_1), nums := T13.PS.nums (Prod.fst b_1), full := T13.PS.full (Prod.fst b_1),
                                                                text := T13.PS.text (Prod.fst b_1) }
                                                              (1 : Nat) (2 : Nat) (3 : Nat) (Sx.SV.lit (Go.Value.slice Option.none (0 : Nat) (0 : Nat))) ∧
                                                          Sx.br (!(T13.PS.st (Prod.fst b_1) == (0 : Int) && ByteArray.size (Sx.bsOf (T13.PS.half (Prod.fst b_1))) == (0 : Nat)))
                                                            (Q (Sx.SV.lit (Go.Value.bool Bool.false), ([] : List Sx.SO), []))
                                                            ((T13.fedP (Prod.fst b_1) (2 : Nat) (3 : Nat) (4 : Nat) (Sx.SV.lit (Go.Value.slice Option.none (0 : Nat) (0 : Nat))) =
                                                                  T13.fedP
                                                                    { st := T13.PS.st (Prod.fst b_1), half := Sx.strInts (Sx.bsOf (T13.PS.half (Prod.fst b_1))),
                                                                      inter := T13.PS.inter (Prod.fst b_1), wrong := T13.PS.wrong (Prod.fst b_1), first := T13.PS.first (Prod.fst b_1),
                                                                      mark := T13.PS.mark (Prod.fst b_1), nums := T13.PS.nums (Prod.fst b_1), full := T13.PS.full (Prod.fst b_1),
                                                                      text := T13.PS.text (Prod.fst b_1) }
                                                                    (2 : Nat) (3 : Nat) (4 : Nat) (Sx.SV.lit (Go.Value.slice Option.none (0 : Nat) (0 : Nat))) ∧
                                                                (1 : Nat) ≤ (1 : Nat) ∧
                                                                  T13.FeedOK
                                                                    { st := T13.PS.st (Prod.fst b_1), half := Sx.strInts (Sx.bsOf (T13.PS.half (Prod.fst b_1))),
                                                                      inter := T13.PS.inter (Prod.fst b_1), wrong := T13.PS.wrong (Prod.fst b_1), first := T13.PS.first (Prod.fst b_1),
                                                                      mark := T13.PS.mark (Prod.fst b_1), nums := T13.PS.nums (Prod.fst b_1), full := T13.PS.full (Prod.fst b_1),
                                                                      text := T13.PS.text (Prod.fst b_1) }
                                                                    [more]) ∧
                                                              ∀ (b : T13.PS × List (Sx.Ty.den T13.aty)),
                                                                T13.FeedOf
                                                                    { st := T13.PS.st (Prod.fst b_1), half := Sx.strInts (Sx.bsOf (T13.PS.half (Prod.fst b_1))),
                                                                      inter := T13.PS.inter (Prod.fst b_1), wrong := T13.PS.wrong (Prod.fst b_1), first := T13.PS.first (Prod.fst b_1),
                                                                      mark := T13.PS.mark (Prod.fst b_1), nums := T13.PS.nums (Prod.fst b_1), full := T13.PS.full (Prod.fst b_1),
                                                                      text := T13.PS.text (Prod.fst b_1) }
                                                                    [more] b →
                                                                  (T13.newP = T13.newP ∧ (1 : Nat) ≤ (1 : Nat) ∧ T13.FeedOK T13.ps0 [more]) ∧
                                                                    ∀ (b_2 : T13.PS × List (Sx.Ty.den T13.aty)),
                                                                      T13.FeedOf T13.ps0 [more] b_2 →
                                                                        (List.length (Prod.snd b) = List.length (Prod.snd b) ∧
                                                                            List.length (Prod.snd b_2) = List.length (Prod.snd b_2) ∧ T13.Alike (Prod.snd b) (Prod.snd b_2)) ∧
                                                                          Q (Sx.SV.lit (Go.Value.bool Bool.true), ([] : List Sx.SO), []))))))))))) (by kernel_rfl) ?_
  refine br_intro (fun _ => hq) (fun h0 => br_intro (fun _ => hq) (fun h1 => ⟨⟨0, rfl, by omega, fun j hj => by omega⟩, fun i hi => br_intro (fun hlt => ?_) (fun hge => ?_)⟩))
  · have hlt := of_decide_eq_true hlt
    have h0 := of_decide_eq_false h0
    have e : byteAt s (i : Int) = (strInts s).getD i 0 := by rw [byteAt_eq, Int.toNat_natCast]
    refine ⟨by omega, br_intro (fun _ => hq) (fun g1 => ⟨⟨i + 1, ?_, ⟨by omega, fun j hj => ?_⟩, by omega⟩, trivial⟩)⟩
    · rw [wrap1 i (by omega)]
    · have g1 := of_decide_eq_false g1
      rw [e] at g1
      rcases Nat.lt_or_ge j i with hji | hji
      · exact hi.2 j hji
      · have : j = i := by omega
        subst this; omega
  have h0 := of_decide_eq_false h0
  have h1 := of_decide_eq_false h1
  have hge := of_decide_eq_false hge
  have hall : ∀ x ∈ strInts s, 32 ≤ x := fun x hx => by
    obtain ⟨j, hj, rfl⟩ := List.getElem_of_mem hx
    have := hi.2 j (by rw [strInts_size] at hj; omega)
    rw [List.getD_eq_getElem?_getD, List.getElem?_eq_getElem hj] at this
    exact this
  clear hi hge
  have sa := strInts_size s
  have sb := strInts_size more
  have ef : strInts ({ data := #[27, 93] } : ByteArray) = [27, 93] := by decide
  have ee : strInts ({ data := #[7] } : ByteArray) = [7] := by decide
  have hT : ((strInts s).take 60).length ≤ 60 := by rw [List.length_take]; omega
  refine ⟨⟨rfl, by omega, ⟨ps0_ok, by rw [flat_two, ef, List.length_append]; simp; omega, by simp⟩⟩, fun r hr => ?_⟩
  obtain ⟨hr⟩ := hr
  rw [flat_two, ef] at hr
  have hr : r = (str 3 ((strInts s).take 60), []) := by rw [hr]; exact front_osc (s := ps0) rfl rfl _ hall
  have hok : r.1.OK := by rw [hr]; exact ⟨by show 0 ≤ (3 : Int) ∧ (3 : Int) ≤ 4; omega, trivial, fun _ => rfl, by simp [str], by simp [str], hT, by simp [str]⟩
  have hkept : KeptOK r.1 := by rw [hr]; exact str_kept 3 s
  rw [PS.eta hok.half]
  have hk2 : r.1.inter.length + r.1.nums.length + r.1.text.length + (bsOf r.1.half).size ≤ 60 := by
    rw [hr]; show 0 + 0 + ((strInts s).take 60).length + 0 ≤ 60; omega
  refine ⟨rfl, br_no (by rw [hr]; rfl) ⟨⟨rfl, hkept⟩, br_no (decide_eq_false (by omega)) ⟨⟨rfl, by omega, ⟨hok, by rw [flat_one, ee]; simp, by simp⟩⟩, fun r1 hr1 => ?_⟩⟩⟩
  obtain ⟨hr1⟩ := hr1
  rw [flat_one, ee, hr, ends_bell] at hr1
  have hok1 : r1.1.OK := by rw [hr1]; exact psG_ok
  rw [PS.eta hok1.half]
  have fin : ∀ b, FeedOf r1.1 [more] b → (newP = newP ∧ 1 ≤ 1 ∧ FeedOK ps0 [more]) ∧ ∀ b_2, FeedOf ps0 [more] b_2 → (b.2.length = b.2.length ∧ b_2.2.length = b_2.2.length ∧ Alike b.2 b_2.2) ∧ Q (.lit (.bool true), [], []) := fun b hb => by
    rw [hr1] at hb
    exact ⟨⟨rfl, by omega, ⟨ps0_ok, by rw [flat_one]; omega, by simp⟩⟩, fun b2 hb2 => ⟨⟨rfl, rfl, alike more (by omega) hb hb2⟩, hq⟩⟩
  have hf1 : FeedOK r1.1 [more] := ⟨hok1, by rw [flat_one]; omega, by simp⟩
  have hct := cut_text s
  subst hr1
  refine br_no rfl ⟨of_decide_eq_true rfl, by simp, br_no rfl ⟨of_decide_eq_true rfl, by simp, by omega, trivial, br_no ?_ ⟨rfl, br_no rfl ⟨⟨rfl, by omega, hf1⟩, fin⟩⟩⟩⟩
  show (!(bsOf ((strInts s).take 60) == s.extract 0 (min (s.size : Int) 60).toNat)) = false
  rw [hct, bytes_self]; rfl

theorem v9o (s more : ByteArray) (bell : Bool) (Q : SV × Heap × List Nat → Prop) (hq : Q (.lit (.bool true), [], [])) : (bodySumm V3 Try.prog Try.f9 (An1 0 A9) [.lit (.string s), .lit (.bool false), .lit (.bool false), .lit (.string more)] []).Leads Q := by
  refine Sx.by_text (q :=
      Sx.br (Decidable.decide ((↑(ByteArray.size s) : Int) > (300 : Int))) (Q (Sx.SV.lit (Go.Value.bool Bool.true), ([] : List Sx.SO), []))
        (Sx.br (Decidable.decide ((↑(ByteArray.size more) : Int) > (200 : Int))) (Q (Sx.SV.lit (Go.Value.bool Bool.true), ([] : List Sx.SO), []))
          ((∃ (x : Nat),
              ([Sx.SV.lit (Go.Value.string s), Sx.SV.lit (Go.Value.bool Bool.false), Sx.SV.lit (Go.Value.bool Bool.false), Sx.SV.lit (Go.Value.string more),
                      Sx.SV.lit (Go.Value.int Go.IntKind.i64 (0 : Int))],
                    ([] : List Sx.SO)) =
                  ([Sx.SV.lit (Go.Value.string s), Sx.SV.lit (Go.Value.bool Bool.false), Sx.SV.lit (Go.Value.bool Bool.false), Sx.SV.lit (Go.Value.string more),
                      Sx.SV.lit (Go.Value.int Go.IntKind.i64 (↑x : Int))],
                    ([] : List Sx.SO)) ∧
                x ≤ ByteArray.size s ∧ ∀ (j : Nat), j < x → (32 : Int) ≤ List.getD (Sx.strInts s) j (0 : Int)) ∧
            ∀ (b : Nat),
              (b ≤ ByteArray.size s ∧ ∀ (j : Nat), j < b → (32 : Int) ≤ List.getD (Sx.strInts s) j (0 : Int)) →
                Sx.br (Decidable.decide ((↑b : Int) < (↑(ByteArray.size s) : Int)))
                  (((0 : Int) ≤ (↑b : Int) ∧ (↑b : Int) < (↑(ByteArray.size s) : Int)) ∧
                    Sx.br (Decidable.decide (Sx.byteAt s (↑b : Int) < (32 : Int))) (Q (Sx.SV.lit (Go.Value.bool Bool.true), ([] : List Sx.SO), []))
                      ((∃ (x' : Nat),
                          ([Sx.SV.lit (Go.Value.string s), Sx.SV.lit (Go.Value.bool Bool.false), Sx.SV.lit (Go.Value.bool Bool.false), Sx.SV.lit (Go.Value.string more),
                                  Sx.SV.lit (Go.Value.int Go.IntKind.i64 (Go.IntKind.wrap Go.IntKind.i64 ((↑b : Int) + (1 : Int))))],
                                ([] : List Sx.SO)) =
                              ([Sx.SV.lit (Go.Value.string s), Sx.SV.lit (Go.Value.bool Bool.false), Sx.SV.lit (Go.Value.bool Bool.false), Sx.SV.lit (Go.Value.string more),
                                  Sx.SV.lit (Go.Value.int Go.IntKind.i64 (↑x' : Int))],
                                ([] : List Sx.SO)) ∧
                            (x' ≤ ByteArray.size s ∧ ∀ (j : Nat), j < x' → (32 : Int) ≤ List.getD (Sx.strInts s) j (0 : Int)) ∧ ByteArray.size s - x' < ByteArray.size s - b) ∧
                        True))
                  ((T13.newP = T13.newP ∧ (2 : Nat) ≤ (2 : Nat) ∧ T13.FeedOK T13.ps0 [{ data := #[(27 : UInt8), (93 : UInt8)] }, s]) ∧
                    ∀ (b : T13.PS × List (Sx.Ty.den T13.aty)),
                      T13.FeedOf T13.ps0 [{ data := #[(27 : UInt8), (93 : UInt8)] }, s] b →
                        T13.fedP (Prod.fst b) (1 : Nat) (2 : Nat) (3 : Nat) (Sx.SV.lit (Go.Value.slice Option.none (0 : Nat) (0 : Nat))) =
                            T13.fedP
                              { st := T13.PS.st (Prod.fst b), half := Sx.strInts (Sx.bsOf (T13.PS.half (Prod.fst b))), inter := T13.PS.inter (Prod.fst b),
                                wrong := T13.PS.wrong (Prod.fst b), first := T13.PS.first (Prod.fst b), mark := T13.PS.mark (Prod.fst b), nums := T13.PS.nums (Prod.fst b),
                                full := T13.PS.full (Prod.fst b), text := T13.PS.text (Prod.fst b) }
                              (1 : Nat) (2 : Nat) (3 : Nat) (Sx.SV.lit (Go.Value.slice Option.none (0 : Nat) (0 : Nat))) ∧
                          Sx.br (T13.PS.st (Prod.fst b) == (0 : Int) && ByteArray.size (Sx.bsOf (T13.PS.half (Prod.fst b))) == (0 : Nat))
                            (Q (Sx.SV.lit (Go.Value.bool Bool.false), ([] : List Sx.SO), []))
                            ((T13.fedP (Prod.fst b) (1 : Nat) (2 : Nat) (3 : Nat) (Sx.SV.lit (Go.Value.slice Option.none (0 : Nat) (0 : Nat))) =
                                  T13.fedP
                                    { st := T13.PS.st (Prod.fst b), half := Sx.strInts (Sx.bsOf (T13.PS.half (Prod.fst b))), inter := T13.PS.inter (Prod.fst b),
                                      wrong := T13.PS.wrong (Prod.fst b), first := T13.PS.first (Prod.fst b), mark := T13.PS.mark (Prod.fst b), nums := T13.PS.nums (Prod.fst b),
                                      full := T13.PS.full (Prod.fst b), text := T13.PS.text (Prod.fst b) }
                                    (1 : Nat) (2 : Nat) (3 : Nat) (Sx.SV.lit (Go.Value.slice Option.none (0 : Nat) (0 : Nat))) ∧
                                T13.KeptOK
                                  { st := T13.PS.st (Prod.fst b), half := Sx.strInts (Sx.bsOf (T13.PS.half (Prod.fst b))), inter := T13.PS.inter (Prod.fst b),
                                    wrong := T13.PS.wrong (Prod.fst b), first := T13.PS.first (Prod.fst b), mark := T13.PS.mark (Prod.fst b), nums := T13.PS.nums (Prod.fst b),
                                    full := T13.PS.full (Prod.fst b), text := T13.PS.text (Prod.fst b) }) ∧
                              Sx.br
                                (Decidable.decide
                                  ((↑(List.length (T13.PS.inter (Prod.fst b)) + List.length (T13.PS.nums (Prod.fst b)) + List.length (T13.PS.text (Prod.fst b)) +
                                          ByteArray.size (Sx.bsOf (T13.PS.half (Prod.fst b)))) :
                                      Int) >
                                    (76 : Int)))
                                (Q (Sx.SV.lit (Go.Value.bool Bool.false), ([] : List Sx.SO), []))
                                ((T13.fedP (Prod.fst b) (2 : Nat) (3 : Nat) (4 : Nat) (Sx.SV.lit (Go.Value.slice Option.none (0 : Nat) (0 : Nat))) =
                                      T13.fedP
                                        { st := T13.PS.st (Prod.fst b), half := Sx.strInts (Sx.bsOf (T13.PS.half (Prod.fst b))), inter := T13.PS.inter (Prod.fst b),
                                          wrong := T13.PS.wrong (Prod.fst b), first := T13.PS.first (Prod.fst b), mark := T13.PS.mark (Prod.fst b), nums := T13.PS.nums (Prod.fst b),
                                          full := T13.PS.full (Prod.fst b), text := T13.PS.text (Prod.fst b) }
                                        (2 : Nat) (3 : Nat) (4 : Nat) (Sx.SV.lit (Go.Value.slice Option.none (0 : Nat) (0 : Nat))) ∧
                                    (1 : Nat) ≤ (1 : Nat) ∧
                                      T13.FeedOK
                                        { st := T13.PS.st (Prod.fst b), half := Sx.strInts (Sx.bsOf (T13.PS.half (Prod.fst b))), inter := T13.PS.inter (Prod.fst b),
                                          wrong := T13.PS.wrong (Prod.fst b), first := T13.PS.first (Prod.fst b), mark := T13.PS.mark (Prod.fst b), nums := T13.PS.nums (Prod.fst b),
                                          full := T13.PS.full (Prod.fst b), text := T13.PS.text (Prod.fst b) }
                                        [{ data := #[(27 : UInt8), (92 : UInt8)] }]) ∧
                                  ∀ (b_1 : T13.PS × List (Sx.Ty.den T13.aty)),
                                    T13.FeedOf
                                        { st := T13.PS.st (Prod.fst b), half := Sx.strInts (Sx.bsOf (T13.PS.half (Prod.fst b))), inter := T13.PS.inter (Prod.fst b),
                                          wrong := T13.PS.wrong (Prod.fst b), first := T13.PS.first (Prod.fst b), mark := T13.PS.mark (Prod.fst b), nums := T13.PS.nums (Prod.fst b),
                                          full := T13.PS.full (Prod.fst b), text := T13.PS.text (Prod.fst b) }
                                        [{ data := #[(27 : UInt8), (92 : UInt8)] }] b_1 →
                                      Sx.br ((↑(List.length (Prod.snd b_1)) : Int) != (2 : Int)) (Q (Sx.SV.lit (Go.Value.bool Bool.false), ([] : List Sx.SO), []))
                                        (((0 : Int) ≤ (0 : Int) ∧ (0 : Int) < (↑(List.length (Prod.snd b_1)) : Int)) ∧
                                          (0 : Nat) < List.length (Prod.snd b_1) ∧
                                            Sx.br (Prod.fst (List.getD (Prod.snd b_1) (0 : Nat) (Sx.Ty.dflt T13.aty)) != (5 : Int))
                                              (Q (Sx.SV.lit (Go.Value.bool Bool.false), ([] : List Sx.SO), []))
                                              (((0 : Int) ≤ (0 : Int) ∧ (0 : Int) < (↑(List.length (Prod.snd b_1)) : Int)) ∧
                                                (0 : Nat) < List.length (Prod.snd b_1) ∧
                                                  ((0 : Int) ≤ Min.min (↑(ByteArray.size s) : Int) (60 : Int) ∧
                                                      Min.min (↑(ByteArray.size s) : Int) (60 : Int) ≤ (↑(ByteArray.size s) : Int)) ∧
                                                    True ∧
                                                      Sx.br
                                                        (!Prod.snd (Prod.snd (Prod.snd (Prod.snd (Prod.snd (Prod.snd (List.getD (Prod.snd b_1) (0 : Nat) (Sx.Ty.dflt T13.aty))))))) ==
                                                            ByteArray.extract s (0 : Nat) (Int.toNat (Min.min (↑(ByteArray.size s) : Int) (60 : Int))))
                                                        (Q (Sx.SV.lit (Go.Value.bool Bool.false), ([] : List Sx.SO), []))
                                                        (((0 : Int) ≤ (1 : Int) ∧ (1 : Int) < (↑(List.length (Prod.snd b_1)) : Int)) ∧
                                                          (1 : Nat) < List.length (Prod.snd b_1) ∧
                                                            Sx.br (Prod.fst (List.getD (Prod.snd b_1) (1 : Nat) (Sx.Ty.dflt T13.aty)) != (3 : Int))
                                                              (Q (Sx.SV.lit (Go.Value.bool Bool.false), ([] : List Sx.SO), []))
                                                              (((0 : Int) ≤ (1 : Int) ∧ (1 : Int) < (↑(List.length (Prod.snd b_1)) : Int)) ∧
                                                                (1 : Nat) < List.length (Prod.snd b_1) ∧
                                                                  Sx.br (Prod.fst (Prod.snd (Prod.snd (List.getD (Prod.snd b_1) (1 : Nat) (Sx.Ty.dflt T13.aty)))) != (92 : Int))
                                                                    (Q (Sx.SV.lit (Go.Value.bool Bool.false), ([] : List Sx.SO), []))
                                                                    (T13.fedP (Prod.fst b_1) (1 : Nat) (2 : Nat) (3 : Nat) (Sx.SV.lit (Go.Value.slice Option.none (0 : Nat) (0 : Nat))) =
                                                                        T13.fedP
                                                                          { st := T13.PS.st (Prod.fst b_1), half := Sx.strInts (Sx.bsOf (T13.PS.half (Prod.fst b_1))),
                                                                            inter := T13.PS.inter (Prod.fst b_1), wrong := T13.PS.wrong (Prod.fst b_1),
                                                                            first := T13.PS.first (Prod.fst b_1), mark := T13.PS.mark (Prod.fst b_1), nums := T13.PS.nums (Prod.fst b_1),
                                                                            full := T13.PS.full (Prod.fst b_1), text := T13.PS.text (Prod.fst b_1) }
                                                                          (1 : Nat) (2 : Nat) (3 : Nat) (Sx.SV.lit (Go.Value.slice Option.none (0 : Nat) (0 : Nat))) ∧
                                                                      Sx.br
                                                                        (!(T13.PS.st (Prod.fst b_1) == (0 : Int) && ByteArray.size (Sx.bsOf (T13.PS.half (Prod.fst b_1))) == (0 : Nat)))
                                                                        (Q (Sx.SV.lit (Go.Value.bool Bool.false), ([] : List Sx.SO), []))
                                                                        ((T13.fedP (Prod.fst b_1) (2 : Nat) (3 : Nat) (4 : Nat)
                                                                                (Sx.SV.lit (Go.Value.slice Option.none (0 : Nat) (0 : Nat))) =
                                                                              T13.fedP
                                                                                { st := T13.PS.st (Prod.fst b_1), half := Sx.strInts (Sx.bsOf (T13.PS.half (Prod.fst b_1))),
                                                                                  inter := T13.PS.inter (Prod.fst b_1), wrong := T13.PS.wrong (Prod.fst b_1),
                                                                                  first := T13.PS.first (Prod.fst b_1), mark := T13.PS.mark (Prod.fst b_1),
                                                                                  nums := T13.PS.nums (Prod.fst b_1), full := T13.PS.full (Prod.fst b_1),
                                                                                  text := T13.PS.text (Prod.fst b_1) }
                                                                                (2 : Nat) (3 : Nat) (4 : Nat) (Sx.SV.lit (Go.Value.slice Option.none (0 : Nat) (0 : Nat))) ∧
                                                                            (1 : Nat) ≤ (1 : Nat) ∧
                                                                              T13.FeedOK
                                                                                { st := T13.PS.st (Prod.fst b_1), half := Sx.strInts (Sx.bsOf (T13.PS.half (Prod.fst b_1))),
                                                                                  inter := T13.PS.inter (Prod.fst b_1), wrong := T13.PS.wrong (Prod.fst b_1),
                                                                                  first := T13.PS.first (Prod.fst b_1), mark := T13.PS.mark (Prod.fst b_1),
                                                                                  nums := T13.PS.nums (Prod.fst b_1), full := T13.PS.full (Prod.fst b_1),
                                                                                  text := T13.PS.text (Prod.fst b_1) }
                                                                                [more]) ∧
                                                                          ∀ (b : T13.PS × List (Sx.Ty.den T13.aty)),
                                                                            T13.FeedOf
                                                                                { st := T13.PS.st (Prod.fst b_1), half := Sx.strInts (Sx.bsOf (T13.PS.half (Prod.fst b_1))),
                                                                                  inter := T13.PS.inter (Prod.fst b_1), wrong := T13.PS.wrong (Prod.fst b_1),
                                                                                  first := T13.PS.first (Prod.fst b_1), mark := T13.PS.mark (Prod.fst b_1),
                                                                                  nums := T13.PS.nums (Prod.fst b_1), full := T13.PS.full (Prod.fst b_1),
                                                                                  text := T13.PS.text (Prod.fst b_1) }
                                                                                [more] b →
                                                                              (T13.newP = T13.newP ∧ (1 : Nat) ≤ (1 : Nat) ∧ T13.FeedOK T13.ps0 [more]) ∧
                                                                                ∀ (b_2 : T13.PS × List (Sx.Ty.den T13.aty)),
                                                                                  T13.FeedOf T13.ps0 [more] b_2 →
                                                                                    (List.length (Prod.snd b) = List.length (Prod.snd b) ∧
                                                                                        List.length (Prod.snd b_2) = List.length (Prod.snd b_2) ∧ T13.Alike (Prod.snd b) (Prod.snd b_2)) ∧
                                                                                      Q (Sx.SV.lit (Go.Value.bool Bool.true), ([] : List Sx.SO), []))))))))))))) (by kernel_rfl) ?_
  refine br_intro (fun _ => hq) (fun h0 => br_intro (fun _ => hq) (fun h1 => ⟨⟨0, rfl, by omega, fun j hj => by omega⟩, fun i hi => br_intro (fun hlt => ?_) (fun hge => ?_)⟩))
  · have hlt := of_decide_eq_true hlt
    have h0 := of_decide_eq_false h0
    have e : byteAt s (i : Int) = (strInts s).getD i 0 := by rw [byteAt_eq, Int.toNat_natCast]
    refine ⟨by omega, br_intro (fun _ => hq) (fun g1 => ⟨⟨i + 1, ?_, ⟨by omega, fun j hj => ?_⟩, by omega⟩, trivial⟩)⟩
    · rw [wrap1 i (by omega)]
    · have g1 := of_decide_eq_false g1
      rw [e] at g1
      rcases Nat.lt_or_ge j i with hji | hji
      · exact hi.2 j hji
      · have : j = i := by omega
        subst this; omega
  have h0 := of_decide_eq_false h0
  have h1 := of_decide_eq_false h1
  have hge := of_decide_eq_false hge
  have hall : ∀ x ∈ strInts s, 32 ≤ x := fun x hx => by
    obtain ⟨j, hj, rfl⟩ := List.getElem_of_mem hx
    have := hi.2 j (by rw [strInts_size] at hj; omega)
    rw [List.getD_eq_getElem?_getD, List.getElem?_eq_getElem hj] at this
    exact this
  clear hi hge
  have sa := strInts_size s
  have sb := strInts_size more
  have ef : strInts ({ data := #[27, 93] } : ByteArray) = [27, 93] := by decide
  have ee : strInts ({ data := #[27, 92] } : ByteArray) = [27, 92] := by decide
  have hT : ((strInts s).take 60).length ≤ 60 := by rw [List.length_take]; omega
  refine ⟨⟨rfl, by omega, ⟨ps0_ok, by rw [flat_two, ef, List.length_append]; simp; omega, by simp⟩⟩, fun r hr => ?_⟩
  obtain ⟨hr⟩ := hr
  rw [flat_two, ef] at hr
  have hr : r = (str 3 ((strInts s).take 60), []) := by rw [hr]; exact front_osc (s := ps0) rfl rfl _ hall
  have hok : r.1.OK := by rw [hr]; exact ⟨by show 0 ≤ (3 : Int) ∧ (3 : Int) ≤ 4; omega, trivial, fun _ => rfl, by simp [str], by simp [str], hT, by simp [str]⟩
  have hkept : KeptOK r.1 := by rw [hr]; exact str_kept 3 s
  rw [PS.eta hok.half]
  have hk2 : r.1.inter.length + r.1.nums.length + r.1.text.length + (bsOf r.1.half).size ≤ 60 := by
    rw [hr]; show 0 + 0 + ((strInts s).take 60).length + 0 ≤ 60; omega
  refine ⟨rfl, br_no (by rw [hr]; rfl) ⟨⟨rfl, hkept⟩, br_no (decide_eq_false (by omega)) ⟨⟨rfl, by omega, ⟨hok, by rw [flat_one, ee]; simp, by simp⟩⟩, fun r1 hr1 => ?_⟩⟩⟩
  obtain ⟨hr1⟩ := hr1
  rw [flat_one, ee, hr, ends_osc] at hr1
  have hok1 : r1.1.OK := by rw [hr1]; exact psG_ok
  rw [PS.eta hok1.half]
  have fin : ∀ b, FeedOf r1.1 [more] b → (newP = newP ∧ 1 ≤ 1 ∧ FeedOK ps0 [more]) ∧ ∀ b_2, FeedOf ps0 [more] b_2 → (b.2.length = b.2.length ∧ b_2.2.length = b_2.2.length ∧ Alike b.2 b_2.2) ∧ Q (.lit (.bool true), [], []) := fun b hb => by
    rw [hr1] at hb
    exact ⟨⟨rfl, by omega, ⟨ps0_ok, by rw [flat_one]; omega, by simp⟩⟩, fun b2 hb2 => ⟨⟨rfl, rfl, alike more (by omega) hb hb2⟩, hq⟩⟩
  have hf1 : FeedOK r1.1 [more] := ⟨hok1, by rw [flat_one]; omega, by simp⟩
  have hct := cut_text s
  subst hr1
  refine br_no rfl ⟨of_decide_eq_true rfl, by simp, br_no rfl ⟨of_decide_eq_true rfl, by simp, by omega, trivial, br_no ?_ ⟨of_decide_eq_true rfl, by simp, br_no rfl ⟨of_decide_eq_true rfl, by simp, br_no rfl ⟨rfl, br_no rfl ⟨⟨rfl, by omega, hf1⟩, fin⟩⟩⟩⟩⟩⟩
  show (!(bsOf ((strInts s).take 60) == s.extract 0 (min (s.size : Int) 60).toNat)) = false
  rw [hct, bytes_self]; rfl

theorem v9 (s : ByteArray) (dcs bell : Bool) (more : ByteArray) (Q : SV × Heap × List Nat → Prop) (hq : Q (.lit (.bool true), [], [])) : (bodySumm V3 Try.prog Try.f9 (An1 0 A9) [.lit (.string s), .lit (.bool dcs), .lit (.bool bell), .lit (.string more)] []).Leads Q := by
  cases dcs
  · cases bell
    · exact v9o s more false Q hq
    · exact v9b s more true Q hq
  · exact v9d s more bell Q hq
end T13
