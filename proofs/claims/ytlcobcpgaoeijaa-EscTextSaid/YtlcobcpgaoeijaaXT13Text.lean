/- Part of a proof: the walk of the functions that the law calls. -/
import Derived.Test.YtlcobcpgaoeijaaSxT
import Derived.Test.YtlcobcpgaoeijaaXT13i
import Derived.Test.YtlcobcpgaoeijaaXP13c
open Go Sx Go.Proofs T12
namespace T13
set_option maxRecDepth 100000
set_option maxHeartbeats 4000000
attribute [local irreducible] Tree.Leads
set_option linter.unusedVariables false
noncomputable def A5 : Ann := { live := [0, 1, 5], mv := [], head := fun vals H => match vals with | [.lit (.string s), b, _] => { X := Nat, inv := fun i => ([.lit (.string s), b, .lit (.int .i64 i)], H), ok := fun i => i ≤ s.size ∧ ∀ j, j < i → 32 ≤ (strInts s).getD j 0 ∧ (strInts s).getD j 0 ≤ 126, mu := fun i => s.size - i } | _ => { X := Nat, inv := fun _ => ([], []), ok := fun _ => False, mu := fun _ => 0 } }
noncomputable def B5 : Ann := { live := [0, 6, 7, 8], mv := [], head := fun vals H => match vals with | [.lit (.string s), b, c, _] => { X := Nat, inv := fun i => ([.lit (.string s), b, c, .lit (.int .i64 i)], H), ok := fun i => i ≤ s.size, mu := fun i => s.size - i } | _ => { X := Nat, inv := fun _ => ([], []), ok := fun _ => False, mu := fun _ => 0 } }
theorem flat_one (s : ByteArray) : flat [s] = strInts s := by simp only [flat, List.flatMap_cons, List.flatMap_nil, List.append_nil]
theorem flat_two (s t : ByteArray) : flat [s, t] = strInts s ++ strInts t := by simp only [flat, List.flatMap_cons, List.flatMap_nil, List.append_nil]
theorem v5 (s junk : ByteArray) (Q : SV × Heap × List Nat → Prop) (hq : Q (.lit (.bool true), [], [])) : (bodySumm V3 Try.prog Try.f5 (An2 0 A5 2 B5) [.lit (.string s), .lit (.string junk)] []).Leads Q := by
  refine Sx.by_text (q :=
      Sx.br (Decidable.decide ((↑(ByteArray.size s) : Int) > (300 : Int))) (Q (Sx.SV.lit (Go.Value.bool Bool.true), ([] : List Sx.SO), []))
        (Sx.br (Decidable.decide ((↑(ByteArray.size junk) : Int) > (300 : Int))) (Q (Sx.SV.lit (Go.Value.bool Bool.true), ([] : List Sx.SO), []))
          ((∃ (x : Nat),
              ([Sx.SV.lit (Go.Value.string s), Sx.SV.lit (Go.Value.string junk), Sx.SV.lit (Go.Value.int Go.IntKind.i64 (0 : Int))], ([] : List Sx.SO)) =
                  ([Sx.SV.lit (Go.Value.string s), Sx.SV.lit (Go.Value.string junk), Sx.SV.lit (Go.Value.int Go.IntKind.i64 (↑x : Int))], ([] : List Sx.SO)) ∧
                x ≤ ByteArray.size s ∧ ∀ (j : Nat), j < x → (32 : Int) ≤ List.getD (Sx.strInts s) j (0 : Int) ∧ List.getD (Sx.strInts s) j (0 : Int) ≤ (126 : Int)) ∧
            ∀ (b : Nat),
              (b ≤ ByteArray.size s ∧ ∀ (j : Nat), j < b → (32 : Int) ≤ List.getD (Sx.strInts s) j (0 : Int) ∧ List.getD (Sx.strInts s) j (0 : Int) ≤ (126 : Int)) →
                Sx.br (Decidable.decide ((↑b : Int) < (↑(ByteArray.size s) : Int)))
                  (((0 : Int) ≤ (↑b : Int) ∧ (↑b : Int) < (↑(ByteArray.size s) : Int)) ∧
                    Sx.br (Decidable.decide (Sx.byteAt s (↑b : Int) < (32 : Int))) (Q (Sx.SV.lit (Go.Value.bool Bool.true), ([] : List Sx.SO), []))
                      (((0 : Int) ≤ (↑b : Int) ∧ (↑b : Int) < (↑(ByteArray.size s) : Int)) ∧
                        Sx.br (Decidable.decide (Sx.byteAt s (↑b : Int) > (126 : Int))) (Q (Sx.SV.lit (Go.Value.bool Bool.true), ([] : List Sx.SO), []))
                          ((∃ (x' : Nat),
                              ([Sx.SV.lit (Go.Value.string s), Sx.SV.lit (Go.Value.string junk),
                                      Sx.SV.lit (Go.Value.int Go.IntKind.i64 (Go.IntKind.wrap Go.IntKind.i64 ((↑b : Int) + (1 : Int))))],
                                    ([] : List Sx.SO)) =
                                  ([Sx.SV.lit (Go.Value.string s), Sx.SV.lit (Go.Value.string junk), Sx.SV.lit (Go.Value.int Go.IntKind.i64 (↑x' : Int))], ([] : List Sx.SO)) ∧
                                (x' ≤ ByteArray.size s ∧ ∀ (j : Nat), j < x' → (32 : Int) ≤ List.getD (Sx.strInts s) j (0 : Int) ∧ List.getD (Sx.strInts s) j (0 : Int) ≤ (126 : Int)) ∧
                                  ByteArray.size s - x' < ByteArray.size s - b) ∧
                            True)))
                  ((T13.newP = T13.newP ∧ (2 : Nat) ≤ (2 : Nat) ∧ T13.FeedOK T13.ps0 [junk, { data := #[(26 : UInt8)] }]) ∧
                    ∀ (b : T13.PS × List (Sx.Ty.den T13.aty)),
                      T13.FeedOf T13.ps0 [junk, { data := #[(26 : UInt8)] }] b →
                        (T13.fedP (Prod.fst b) (2 : Nat) (3 : Nat) (4 : Nat) (Sx.SV.lit (Go.Value.slice Option.none (0 : Nat) (0 : Nat))) =
                              T13.fedP
                                { st := T13.PS.st (Prod.fst b), half := Sx.strInts (Sx.bsOf (T13.PS.half (Prod.fst b))), inter := T13.PS.inter (Prod.fst b),
                                  wrong := T13.PS.wrong (Prod.fst b), first := T13.PS.first (Prod.fst b), mark := T13.PS.mark (Prod.fst b), nums := T13.PS.nums (Prod.fst b),
                                  full := T13.PS.full (Prod.fst b), text := T13.PS.text (Prod.fst b) }
                                (2 : Nat) (3 : Nat) (4 : Nat) (Sx.SV.lit (Go.Value.slice Option.none (0 : Nat) (0 : Nat))) ∧
                            (1 : Nat) ≤ (1 : Nat) ∧
                              T13.FeedOK
                                { st := T13.PS.st (Prod.fst b), half := Sx.strInts (Sx.bsOf (T13.PS.half (Prod.fst b))), inter := T13.PS.inter (Prod.fst b),
                                  wrong := T13.PS.wrong (Prod.fst b), first := T13.PS.first (Prod.fst b), mark := T13.PS.mark (Prod.fst b), nums := T13.PS.nums (Prod.fst b),
                                  full := T13.PS.full (Prod.fst b), text := T13.PS.text (Prod.fst b) }
                                [s]) ∧
                          ∀ (b_1 : T13.PS × List (Sx.Ty.den T13.aty)),
                            T13.FeedOf
                                { st := T13.PS.st (Prod.fst b), half := Sx.strInts (Sx.bsOf (T13.PS.half (Prod.fst b))), inter := T13.PS.inter (Prod.fst b),
                                  wrong := T13.PS.wrong (Prod.fst b), first := T13.PS.first (Prod.fst b), mark := T13.PS.mark (Prod.fst b), nums := T13.PS.nums (Prod.fst b),
                                  full := T13.PS.full (Prod.fst b), text := T13.PS.text (Prod.fst b) }
                                [s] b_1 →
                              Sx.br ((↑(List.length (Prod.snd b_1)) : Int) != (↑(ByteArray.size s) : Int)) (Q (Sx.SV.lit (Go.Value.bool Bool.false), ([] : List Sx.SO), []))
                                ((∃ (x : Nat),
                                    ([Sx.SV.lit (Go.Value.string s), Sx.SV.ptr (0 : Nat) (0 : Nat), Sx.SV.sl (4 : Nat) (7 : Nat) (0 : Nat) (List.length (Prod.snd b_1)),
                                            Sx.SV.lit (Go.Value.int Go.IntKind.i64 (0 : Int))],
                                          [Sx.SO.cells (47 : Nat) (T13.fedP (Prod.fst b_1) (1 : Nat) (2 : Nat) (3 : Nat) (Sx.SV.lit (Go.Value.slice Option.none (0 : Nat) (0 : Nat)))),
                                            Sx.SO.row (5 : Nat) (Sx.Ty.int Go.IntKind.u8) (T13.PS.inter (Prod.fst b_1)),
                                            Sx.SO.row (3 : Nat) (Sx.Ty.int Go.IntKind.i64) (T13.PS.nums (Prod.fst b_1)),
                                            Sx.SO.row (5 : Nat) (Sx.Ty.int Go.IntKind.u8) (T13.PS.text (Prod.fst b_1)), Sx.SO.row (50 : Nat) T13.aty (Prod.snd b_1)]) =
                                        ([Sx.SV.lit (Go.Value.string s), Sx.SV.ptr (0 : Nat) (0 : Nat), Sx.SV.sl (4 : Nat) (7 : Nat) (0 : Nat) (List.length (Prod.snd b_1)),
                                            Sx.SV.lit (Go.Value.int Go.IntKind.i64 (↑x : Int))],
                                          [Sx.SO.cells (47 : Nat) (T13.fedP (Prod.fst b_1) (1 : Nat) (2 : Nat) (3 : Nat) (Sx.SV.lit (Go.Value.slice Option.none (0 : Nat) (0 : Nat)))),
                                            Sx.SO.row (5 : Nat) (Sx.Ty.int Go.IntKind.u8) (T13.PS.inter (Prod.fst b_1)),
                                            Sx.SO.row (3 : Nat) (Sx.Ty.int Go.IntKind.i64) (T13.PS.nums (Prod.fst b_1)),
                                            Sx.SO.row (5 : Nat) (Sx.Ty.int Go.IntKind.u8) (T13.PS.text (Prod.fst b_1)), Sx.SO.row (50 : Nat) T13.aty (Prod.snd b_1)]) ∧
                                      x ≤ ByteArray.size s) ∧
                                  ∀ (b : Nat),
                                    b ≤ ByteArray.size s →
                                      Sx.br (Decidable.decide ((↑b : Int) < (↑(List.length (Prod.snd b_1)) : Int)))
                                        (((0 : Int) ≤ (↑b : Int) ∧ (↑b : Int) < (↑(List.length (Prod.snd b_1)) : Int)) ∧
                                          (0 : Nat) + b < List.length (Prod.snd b_1) ∧
                                            Sx.br (Prod.fst (List.getD (Prod.snd b_1) ((0 : Nat) + b) (Sx.Ty.dflt T13.aty)) != (1 : Int))
                                              (Q (Sx.SV.lit (Go.Value.bool Bool.false), ([] : List Sx.SO), []))
                                              (((0 : Int) ≤ (↑b : Int) ∧ (↑b : Int) < (↑(List.length (Prod.snd b_1)) : Int)) ∧
                                                (0 : Nat) + b < List.length (Prod.snd b_1) ∧
                                                  ((0 : Int) ≤ (↑b : Int) ∧ (↑b : Int) < (↑(ByteArray.size s) : Int)) ∧
                                                    Sx.br
                                                      (Prod.fst (Prod.snd (List.getD (Prod.snd b_1) ((0 : Nat) + b) (Sx.Ty.dflt T13.aty))) !=
                                                        Go.IntKind.wrap Go.IntKind.i32 (Sx.byteAt s (↑b : Int)))
                                                      (Q (Sx.SV.lit (Go.Value.bool Bool.false), ([] : List Sx.SO), []))
                                                      ((∃ (x' : Nat),
                                                          ([Sx.SV.lit (Go.Value.string s), Sx.SV.ptr (0 : Nat) (0 : Nat),
                                                                  Sx.SV.sl (4 : Nat) (7 : Nat) (0 : Nat) (List.length (Prod.snd b_1)),
                                                                  Sx.SV.lit (Go.Value.int Go.IntKind.i64 (Go.IntKind.wrap Go.IntKind.i64 ((↑b : Int) + (1 : Int))))],
                                                                [Sx.SO.cells (47 : Nat)
                                                                    (T13.fedP (Prod.fst b_1) (1 : Nat) (2 : Nat) (3 : Nat) (Sx.SV.lit (Go.Value.slice Option.none (0 : Nat) (0 : Nat)))),
                                                                  Sx.SO.row (5 : Nat) (Sx.Ty.int Go.IntKind.u8) (T13.PS.inter (Prod.fst b_1)),
                                                                  Sx.SO.row (3 : Nat) (Sx.Ty.int Go.IntKind.i64) (T13.PS.nums (Prod.fst b_1)),
                                                                  Sx.SO.row (5 : Nat) (Sx.Ty.int Go.IntKind.u8) (T13.PS.text (Prod.fst b_1)),
                                                                  Sx.SO.row (50 : Nat) T13.aty (Prod.snd b_1)]) =
                                                              ([Sx.SV.lit (Go.Value.string s), Sx.SV.ptr (0 : Nat) (0 : Nat),
                                                                  Sx.SV.sl (4 : Nat) (7 : Nat) (0 : Nat) (List.length (Prod.snd b_1)),
                                                                  Sx.SV.lit (Go.Value.int Go.IntKind.i64 (↑x' : Int))],
                                                                [Sx.SO.cells (47 : Nat)
                                                                    (T13.fedP (Prod.fst b_1) (1 : Nat) (2 : Nat) (3 : Nat) (Sx.SV.lit (Go.Value.slice Option.none (0 : Nat) (0 : Nat)))),
                                                                  Sx.SO.row (5 : Nat) (Sx.Ty.int Go.IntKind.u8) (T13.PS.inter (Prod.fst b_1)),
                                                                  Sx.SO.row (3 : Nat) (Sx.Ty.int Go.IntKind.i64) (T13.PS.nums (Prod.fst b_1)),
                                                                  Sx.SO.row (5 : Nat) (Sx.Ty.int Go.IntKind.u8) (T13.PS.text (Prod.fst b_1)),
                                                                  Sx.SO.row (50 : Nat) T13.aty (Prod.snd b_1)]) ∧
                                                            x' ≤ ByteArray.size s ∧ ByteArray.size s - x' < ByteArray.size s - b) ∧
                                                        True)))
                                        (T13.fedP (Prod.fst b_1) (1 : Nat) (2 : Nat) (3 : Nat) (Sx.SV.lit (Go.Value.slice Option.none (0 : Nat) (0 : Nat))) =
                                            T13.fedP
                                              { st := T13.PS.st (Prod.fst b_1), half := Sx.strInts (Sx.bsOf (T13.PS.half (Prod.fst b_1))), inter := T13.PS.inter (Prod.fst b_1),
                                                wrong := T13.PS.wrong (Prod.fst b_1), first := T13.PS.first (Prod.fst b_1), mark := T13.PS.mark (Prod.fst b_1),
                                                nums := T13.PS.nums (Prod.fst b_1), full := T13.PS.full (Prod.fst b_1), text := T13.PS.text (Prod.fst b_1) }
                                              (1 : Nat) (2 : Nat) (3 : Nat) (Sx.SV.lit (Go.Value.slice Option.none (0 : Nat) (0 : Nat))) ∧
                                          Q
                                            (Sx.SV.lit (Go.Value.bool (T13.PS.st (Prod.fst b_1) == (0 : Int) && ByteArray.size (Sx.bsOf (T13.PS.half (Prod.fst b_1))) == (0 : Nat))),
                                              ([] : List Sx.SO), []))))))) (by kernel_rfl) ?_
  refine br_intro (fun _ => hq) (fun h0 => br_intro (fun _ => hq) (fun h1 => ⟨⟨0, rfl, by omega, fun j hj => by omega⟩, fun i hi => br_intro (fun hlt => ?_) (fun hge => ?_)⟩))
  · have hlt := of_decide_eq_true hlt
    have h0 := of_decide_eq_false h0
    have e : byteAt s (i : Int) = (strInts s).getD i 0 := by rw [byteAt_eq, Int.toNat_natCast]
    refine ⟨by omega, br_intro (fun _ => hq) (fun g1 => ⟨by omega, br_intro (fun _ => hq) (fun g2 => ⟨⟨i + 1, ?_, ⟨by omega, fun j hj => ?_⟩, by omega⟩, trivial⟩)⟩)⟩
    · rw [wrap1 i (by omega)]
    · have g1 := of_decide_eq_false g1
      have g2 := of_decide_eq_false g2
      rw [e] at g1 g2
      rcases Nat.lt_or_ge j i with hji | hji
      · exact hi.2 j hji
      · have : j = i := by omega
        subst this; omega
  have h0 := of_decide_eq_false h0
  have h1 := of_decide_eq_false h1
  have hge := of_decide_eq_false hge
  have hall : ∀ x ∈ strInts s, 32 ≤ x ∧ x ≤ 126 := fun x hx => by
    obtain ⟨j, hj, rfl⟩ := List.getElem_of_mem hx
    have := hi.2 j (by rw [strInts_size] at hj; omega)
    rw [List.getD_eq_getElem?_getD, List.getElem?_eq_getElem hj] at this
    exact this
  clear hi hge
  have sa := strInts_size s
  have sb := strInts_size junk
  have eg : psG = ⟨0, [], [], false, true, 0, [], false, []⟩ := rfl
  refine ⟨⟨rfl, by omega, ⟨ps0_ok, by rw [flat_two, List.length_append]; show _ + 1 ≤ _; omega, by simp⟩⟩, fun r hr => ?_⟩
  obtain ⟨hr⟩ := hr
  rw [flat_two] at hr
  have e24 : strInts ({ data := #[26] } : ByteArray) = [26] := by decide
  rw [e24, pfeed_snoc] at hr
  have hst : r.1 = psG := by rw [hr]; exact pstep_stop (pfeed_ok ps0_ok _) (.inr rfl)
  have hok : psG.OK := by rw [← hst, hr]; exact pstep_ok (pfeed_ok ps0_ok _) 26
  rw [hst]
  have ee : strInts (bsOf psG.half) = [] := by decide
  have es : (bsOf psG.half).size = 0 := by decide
  rw [ee]
  refine ⟨⟨rfl, by omega, ⟨hok, by rw [flat_one]; omega, by simp⟩⟩, fun r2 hr2 => ?_⟩
  obtain ⟨hr2⟩ := hr2
  change r2 = pfeed psG (flat [s]) at hr2
  rw [flat_one, pfeed_plain (s := psG) rfl rfl _ hall] at hr2
  subst hr2
  simp only [List.length_map, sa, es, ee]
  refine br_no (by simp) ⟨⟨0, rfl, by omega⟩, fun i hi => br_intro (fun hlt => ?_) (fun hge => ⟨rfl, ?_⟩)⟩
  · have hlt := of_decide_eq_true hlt
    have e1 : ((strInts s).map aPrint).getD (0 + i) aty.dflt = aPrint ((strInts s).getD i 0) := by
      rw [Nat.zero_add, List.getD_eq_getElem?_getD, List.getD_eq_getElem?_getD, List.getElem?_map, List.getElem?_eq_getElem (by omega)]; rfl
    have hb := hall ((strInts s).getD i 0) (by rw [List.getD_eq_getElem?_getD, List.getElem?_eq_getElem (by omega)]; exact List.getElem_mem _)
    have ew : IntKind.i32.wrap (byteAt s (i : Int)) = (strInts s).getD i 0 := by
      rw [byteAt_eq, Int.toNat_natCast, IntKind.wrap_i32]; omega
    rw [e1, ew, wrap1 i (by omega)]
    refine ⟨by omega, by omega, br_no rfl ⟨by omega, by omega, by omega, br_no (by simp [aPrint]) ⟨⟨i + 1, rfl, by omega, by omega⟩, trivial⟩⟩⟩
  · exact hq
end T13
