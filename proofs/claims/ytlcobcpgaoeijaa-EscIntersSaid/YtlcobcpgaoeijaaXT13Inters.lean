/- Part of a proof: the walk of the functions that the law calls. -/
import Derived.Test.YtlcobcpgaoeijaaSxT
import Derived.Test.YtlcobcpgaoeijaaXT13i
import Derived.Test.YtlcobcpgaoeijaaXP13e
open Go Sx Go.Proofs T12
namespace T13
set_option maxRecDepth 100000
set_option maxHeartbeats 4000000
attribute [local irreducible] Tree.Leads
set_option linter.unusedVariables false
noncomputable def A6 (n : Nat) (b : Int) : Ann := { live := [0, 9, 10, 11, 12, 13, 14], mv := [], head := fun vals H => match vals with | [a, x1, x2, x3, x4, _, _] => { X := Nat, inv := fun i => ([a, x1, x2, x3, x4, .lit (.string (bsOf (List.replicate i b))), .lit (.int .i64 i)], H), ok := fun i => i ≤ n, mu := fun i => n - i } | _ => { X := Nat, inv := fun _ => ([], []), ok := fun _ => False, mu := fun _ => 0 } }
theorem tmod_pos (x : Int) (m : Int) (hm : 0 < m) (hm2 : m ≤ 1000) : (IntKind.i64.wrap (x.tmod m + m)).tmod m = x % m := by
  have hx : -m < x.tmod m ∧ x.tmod m < m ∧ (x.tmod m - x) % m = 0 := by
    rcases Int.le_total 0 x with h | h
    · rw [Int.tmod_eq_emod_of_nonneg h]
      have h1 := Int.emod_nonneg x (show m ≠ 0 by omega)
      have h2 := Int.emod_lt_of_pos x hm
      exact ⟨by omega, h2, by rw [Int.sub_emod, Int.emod_emod, ← Int.sub_emod]; simp⟩
    · have e : x.tmod m = -((-x).tmod m) := by rw [Int.neg_tmod, Int.neg_neg]
      rw [e, Int.tmod_eq_emod_of_nonneg (show 0 ≤ -x by omega)]
      have h1 := Int.emod_nonneg (-x) (show m ≠ 0 by omega)
      have h2 := Int.emod_lt_of_pos (-x) hm
      refine ⟨by omega, by omega, ?_⟩
      have : -((-x) % m) - x = -x - (-x) % m := by omega
      rw [this, Int.sub_emod, Int.emod_emod, ← Int.sub_emod]; simp
  obtain ⟨h1, h2, h3⟩ := hx
  have e1 : IntKind.i64.wrap (x.tmod m + m) = x.tmod m + m := by rw [IntKind.wrap_i64]; omega
  rw [e1, Int.tmod_eq_emod_of_nonneg (by omega)]
  have e2 : x.tmod m + m = x + (x.tmod m - x) + m := by omega
  rw [e2, Int.add_emod_right, Int.add_emod, h3, Int.add_zero, Int.emod_emod]
theorem br4 {c k1 k2 k3 : Bool} {T L : Prop} (hT : T) (hL : (c = true → k1 = false ∧ k2 = false ∧ k3 = false) → L) : br c (br k1 T (br k2 T (br k3 T L))) L := by
  refine br_intro (fun h => br_intro (fun _ => hT) fun h1 => br_intro (fun _ => hT) fun h2 => br_intro (fun _ => hT) fun h3 => hL fun _ => ⟨h1, h2, h3⟩) (fun h => hL fun e => ?_)
  rw [h] at e; cases e
theorem flat_four (s t u v : ByteArray) : flat [s, t, u, v] = strInts s ++ (strInts t ++ (strInts u ++ strInts v)) := by simp only [flat, List.flatMap_cons, List.flatMap_nil, List.append_nil]
theorem v6t (n c final : Int) (Q : SV × Heap × List Nat → Prop) (hq : Q (.lit (.bool true), [], [])) : (bodySumm V3 Try.prog Try.f6 (An1 0 (A6 n.toNat (32 + c % 16))) [.lit (.int .i64 n), .lit (.int .i64 c), .lit (.int .i64 final), .lit (.bool true)] []).Leads Q := by
  refine Sx.by_text (q :=
      Sx.br (Decidable.decide (n < (0 : Int))) (Q (Sx.SV.lit (Go.Value.bool Bool.true), ([] : List Sx.SO), []))
        (Sx.br (Decidable.decide (n > (8 : Int))) (Q (Sx.SV.lit (Go.Value.bool Bool.true), ([] : List Sx.SO), []))
          (((16 : Int) = (0 : Int) → False) ∧
            ((16 : Int) = (0 : Int) → False) ∧
              ((63 : Int) = (0 : Int) → False) ∧
                ((63 : Int) = (0 : Int) → False) ∧
                  (∃ (x : Nat),
                      ([Sx.SV.lit (Go.Value.int Go.IntKind.i64 n),
                              Sx.SV.lit
                                (Go.Value.int Go.IntKind.u8
                                  (Go.IntKind.wrap Go.IntKind.u8
                                    (Go.IntKind.wrap Go.IntKind.i64 ((32 : Int) + Int.tmod (Go.IntKind.wrap Go.IntKind.i64 (Int.tmod c (16 : Int) + (16 : Int))) (16 : Int))))),
                              Sx.SV.lit
                                (Go.Value.int Go.IntKind.u8
                                  (Go.IntKind.wrap Go.IntKind.u8
                                    (Go.IntKind.wrap Go.IntKind.i64 ((64 : Int) + Int.tmod (Go.IntKind.wrap Go.IntKind.i64 (Int.tmod final (63 : Int) + (63 : Int))) (63 : Int))))),
                              Sx.SV.lit (Go.Value.string { data := #[(27 : UInt8), (91 : UInt8)] }), Sx.SV.lit (Go.Value.int Go.IntKind.i64 (4 : Int)),
                              Sx.SV.lit (Go.Value.string { data := #[] }), Sx.SV.lit (Go.Value.int Go.IntKind.i64 (0 : Int))],
                            ([] : List Sx.SO)) =
                          ([Sx.SV.lit (Go.Value.int Go.IntKind.i64 n),
                              Sx.SV.lit
                                (Go.Value.int Go.IntKind.u8
                                  (Go.IntKind.wrap Go.IntKind.u8
                                    (Go.IntKind.wrap Go.IntKind.i64 ((32 : Int) + Int.tmod (Go.IntKind.wrap Go.IntKind.i64 (Int.tmod c (16 : Int) + (16 : Int))) (16 : Int))))),
                              Sx.SV.lit
                                (Go.Value.int Go.IntKind.u8
                                  (Go.IntKind.wrap Go.IntKind.u8
                                    (Go.IntKind.wrap Go.IntKind.i64 ((64 : Int) + Int.tmod (Go.IntKind.wrap Go.IntKind.i64 (Int.tmod final (63 : Int) + (63 : Int))) (63 : Int))))),
                              Sx.SV.lit (Go.Value.string { data := #[(27 : UInt8), (91 : UInt8)] }), Sx.SV.lit (Go.Value.int Go.IntKind.i64 (4 : Int)),
                              Sx.SV.lit (Go.Value.string (Sx.bsOf (List.replicate x ((32 : Int) + c % (16 : Int))))), Sx.SV.lit (Go.Value.int Go.IntKind.i64 (↑x : Int))],
                            ([] : List Sx.SO)) ∧
                        x ≤ Int.toNat n) ∧
                    ∀ (b : Nat),
                      b ≤ Int.toNat n →
                        Sx.br (Decidable.decide ((↑b : Int) < n))
                          ((1 : Nat) ≤ (1 : Nat) ∧
                            (↑(ByteArray.size (Sx.bsOf (List.replicate b ((32 : Int) + c % (16 : Int)))) +
                                      ByteArray.size
                                        (Sx.bsOf
                                          [Go.IntKind.wrap Go.IntKind.u8
                                              (Go.IntKind.wrap Go.IntKind.i64
                                                ((32 : Int) + Int.tmod (Go.IntKind.wrap Go.IntKind.i64 (Int.tmod c (16 : Int) + (16 : Int))) (16 : Int)))])) :
                                  Int) ≤
                                (9223372036854775807 : Int) ∧
                              (∃ (x' : Nat),
                                  ([Sx.SV.lit (Go.Value.int Go.IntKind.i64 n),
                                          Sx.SV.lit
                                            (Go.Value.int Go.IntKind.u8
                                              (Go.IntKind.wrap Go.IntKind.u8
                                                (Go.IntKind.wrap Go.IntKind.i64
                                                  ((32 : Int) + Int.tmod (Go.IntKind.wrap Go.IntKind.i64 (Int.tmod c (16 : Int) + (16 : Int))) (16 : Int))))),
                                          Sx.SV.lit
                                            (Go.Value.int Go.IntKind.u8
                                              (Go.IntKind.wrap Go.IntKind.u8
                                                (Go.IntKind.wrap Go.IntKind.i64
                                                  ((64 : Int) + Int.tmod (Go.IntKind.wrap Go.IntKind.i64 (Int.tmod final (63 : Int) + (63 : Int))) (63 : Int))))),
                                          Sx.SV.lit (Go.Value.string { data := #[(27 : UInt8), (91 : UInt8)] }), Sx.SV.lit (Go.Value.int Go.IntKind.i64 (4 : Int)),
                                          Sx.SV.lit
                                            (Go.Value.string
                                              (Sx.bsOf (List.replicate b ((32 : Int) + c % (16 : Int))) ++
                                                Sx.bsOf
                                                  [Go.IntKind.wrap Go.IntKind.u8
                                                      (Go.IntKind.wrap Go.IntKind.i64
                                                        ((32 : Int) + Int.tmod (Go.IntKind.wrap Go.IntKind.i64 (Int.tmod c (16 : Int) + (16 : Int))) (16 : Int)))])),
                                          Sx.SV.lit (Go.Value.int Go.IntKind.i64 (Go.IntKind.wrap Go.IntKind.i64 ((↑b : Int) + (1 : Int))))],
                                        ([] : List Sx.SO)) =
                                      ([Sx.SV.lit (Go.Value.int Go.IntKind.i64 n),
                                          Sx.SV.lit
                                            (Go.Value.int Go.IntKind.u8
                                              (Go.IntKind.wrap Go.IntKind.u8
                                                (Go.IntKind.wrap Go.IntKind.i64
                                                  ((32 : Int) + Int.tmod (Go.IntKind.wrap Go.IntKind.i64 (Int.tmod c (16 : Int) + (16 : Int))) (16 : Int))))),
                                          Sx.SV.lit
                                            (Go.Value.int Go.IntKind.u8
                                              (Go.IntKind.wrap Go.IntKind.u8
                                                (Go.IntKind.wrap Go.IntKind.i64
                                                  ((64 : Int) + Int.tmod (Go.IntKind.wrap Go.IntKind.i64 (Int.tmod final (63 : Int) + (63 : Int))) (63 : Int))))),
                                          Sx.SV.lit (Go.Value.string { data := #[(27 : UInt8), (91 : UInt8)] }), Sx.SV.lit (Go.Value.int Go.IntKind.i64 (4 : Int)),
                                          Sx.SV.lit (Go.Value.string (Sx.bsOf (List.replicate x' ((32 : Int) + c % (16 : Int))))), Sx.SV.lit (Go.Value.int Go.IntKind.i64 (↑x' : Int))],
                                        ([] : List Sx.SO)) ∧
                                    x' ≤ Int.toNat n ∧ Int.toNat n - x' < Int.toNat n - b) ∧
                                True)
                          ((1 : Nat) ≤ (1 : Nat) ∧
                            (T13.newP = T13.newP ∧
                                (4 : Nat) ≤ (4 : Nat) ∧
                                  T13.FeedOK T13.ps0
                                    [{ data := #[(27 : UInt8), (91 : UInt8)] }, Sx.bsOf (List.replicate b ((32 : Int) + c % (16 : Int))),
                                      Sx.bsOf
                                        [Go.IntKind.wrap Go.IntKind.u8
                                            (Go.IntKind.wrap Go.IntKind.i64
                                              ((64 : Int) + Int.tmod (Go.IntKind.wrap Go.IntKind.i64 (Int.tmod final (63 : Int) + (63 : Int))) (63 : Int)))],
                                      { data := #[(107 : UInt8)] }]) ∧
                              ∀ (b_1 : T13.PS × List (Sx.Ty.den T13.aty)),
                                T13.FeedOf T13.ps0
                                    [{ data := #[(27 : UInt8), (91 : UInt8)] }, Sx.bsOf (List.replicate b ((32 : Int) + c % (16 : Int))),
                                      Sx.bsOf
                                        [Go.IntKind.wrap Go.IntKind.u8
                                            (Go.IntKind.wrap Go.IntKind.i64
                                              ((64 : Int) + Int.tmod (Go.IntKind.wrap Go.IntKind.i64 (Int.tmod final (63 : Int) + (63 : Int))) (63 : Int)))],
                                      { data := #[(107 : UInt8)] }]
                                    b_1 →
                                  Sx.br (Decidable.decide (n > (2 : Int)))
                                    (Sx.br ((↑(List.length (Prod.snd b_1)) : Int) == (1 : Int))
                                      (((0 : Int) ≤ (0 : Int) ∧ (0 : Int) < (↑(List.length (Prod.snd b_1)) : Int)) ∧
                                        (0 : Nat) < List.length (Prod.snd b_1) ∧
                                          Sx.br (Prod.fst (List.getD (Prod.snd b_1) (0 : Nat) (Sx.Ty.dflt T13.aty)) == (1 : Int))
                                            (((0 : Int) ≤ (0 : Int) ∧ (0 : Int) < (↑(List.length (Prod.snd b_1)) : Int)) ∧
                                              (0 : Nat) < List.length (Prod.snd b_1) ∧
                                                Q
                                                  (Sx.SV.lit (Go.Value.bool (Prod.fst (Prod.snd (List.getD (Prod.snd b_1) (0 : Nat) (Sx.Ty.dflt T13.aty))) == (107 : Int))), ([] : List Sx.SO),
                                                    []))
                                            (Q (Sx.SV.lit (Go.Value.bool Bool.false), ([] : List Sx.SO), [])))
                                      (Q (Sx.SV.lit (Go.Value.bool Bool.false), ([] : List Sx.SO), [])))
                                    (Sx.br ((↑(List.length (Prod.snd b_1)) : Int) == (2 : Int))
                                      (((0 : Int) ≤ (0 : Int) ∧ (0 : Int) < (↑(List.length (Prod.snd b_1)) : Int)) ∧
                                        (0 : Nat) < List.length (Prod.snd b_1) ∧
                                          Sx.br (Prod.fst (List.getD (Prod.snd b_1) (0 : Nat) (Sx.Ty.dflt T13.aty)) == (4 : Int))
                                            (((0 : Int) ≤ (0 : Int) ∧ (0 : Int) < (↑(List.length (Prod.snd b_1)) : Int)) ∧
                                              (0 : Nat) < List.length (Prod.snd b_1) ∧
                                                Sx.br
                                                  (Prod.fst (Prod.snd (Prod.snd (Prod.snd (Prod.snd (Prod.snd (List.getD (Prod.snd b_1) (0 : Nat) (Sx.Ty.dflt T13.aty))))))) ==
                                                    Sx.bsOf (List.replicate b ((32 : Int) + c % (16 : Int))))
                                                  (((0 : Int) ≤ (0 : Int) ∧ (0 : Int) < (↑(List.length (Prod.snd b_1)) : Int)) ∧
                                                    (0 : Nat) < List.length (Prod.snd b_1) ∧
                                                      Sx.br
                                                        (Prod.fst (Prod.snd (Prod.snd (List.getD (Prod.snd b_1) (0 : Nat) (Sx.Ty.dflt T13.aty)))) ==
                                                          Go.IntKind.wrap Go.IntKind.i64
                                                            (Go.IntKind.wrap Go.IntKind.u8
                                                              (Go.IntKind.wrap Go.IntKind.i64
                                                                ((64 : Int) + Int.tmod (Go.IntKind.wrap Go.IntKind.i64 (Int.tmod final (63 : Int) + (63 : Int))) (63 : Int)))))
                                                        (((0 : Int) ≤ (0 : Int) ∧ (0 : Int) < (↑(List.length (Prod.snd b_1)) : Int)) ∧
                                                          (0 : Nat) < List.length (Prod.snd b_1) ∧
                                                            Sx.br
                                                              ((↑(List.length
                                                                      (Prod.fst (Prod.snd (Prod.snd (Prod.snd (Prod.snd (List.getD (Prod.snd b_1) (0 : Nat) (Sx.Ty.dflt T13.aty)))))))) :
                                                                  Int) ==
                                                                (0 : Int))
                                                              (((0 : Int) ≤ (1 : Int) ∧ (1 : Int) < (↑(List.length (Prod.snd b_1)) : Int)) ∧
                                                                (1 : Nat) < List.length (Prod.snd b_1) ∧
                                                                  Sx.br (Prod.fst (Prod.snd (List.getD (Prod.snd b_1) (1 : Nat) (Sx.Ty.dflt T13.aty))) == (107 : Int))
                                                                    (T13.fedP (Prod.fst b_1) (1 : Nat) (2 : Nat) (3 : Nat) (Sx.SV.lit (Go.Value.slice Option.none (0 : Nat) (0 : Nat))) =
                                                                        T13.fedP
                                                                          { st := T13.PS.st (Prod.fst b_1), half := Sx.strInts (Sx.bsOf (T13.PS.half (Prod.fst b_1))),
                                                                            inter := T13.PS.inter (Prod.fst b_1), wrong := T13.PS.wrong (Prod.fst b_1),
                                                                            first := T13.PS.first (Prod.fst b_1), mark := T13.PS.mark (Prod.fst b_1), nums := T13.PS.nums (Prod.fst b_1),
                                                                            full := T13.PS.full (Prod.fst b_1), text := T13.PS.text (Prod.fst b_1) }
                                                                          (1 : Nat) (2 : Nat) (3 : Nat) (Sx.SV.lit (Go.Value.slice Option.none (0 : Nat) (0 : Nat))) ∧
                                                                      Q
                                                                        (Sx.SV.lit
                                                                            (Go.Value.bool
                                                                              (T13.PS.st (Prod.fst b_1) == (0 : Int) &&
                                                                                ByteArray.size (Sx.bsOf (T13.PS.half (Prod.fst b_1))) == (0 : Nat))),
                                                                          ([] : List Sx.SO), []))
                                                                    (Q (Sx.SV.lit (Go.Value.bool Bool.false), ([] : List Sx.SO), [])))
                                                              (Q (Sx.SV.lit (Go.Value.bool Bool.false), ([] : List Sx.SO), [])))
                                                        (Q (Sx.SV.lit (Go.Value.bool Bool.false), ([] : List Sx.SO), [])))
                                                  (Q (Sx.SV.lit (Go.Value.bool Bool.false), ([] : List Sx.SO), [])))
                                            (Q (Sx.SV.lit (Go.Value.bool Bool.false), ([] : List Sx.SO), [])))
                                      (Q (Sx.SV.lit (Go.Value.bool Bool.false), ([] : List Sx.SO), []))))))) (by kernel_rfl) ?_
  have hb : IntKind.u8.wrap (IntKind.i64.wrap (32 + (IntKind.i64.wrap (c.tmod 16 + 16)).tmod 16)) = 32 + c % 16 := by
    rw [tmod_pos c 16 (by omega) (by omega), IntKind.wrap_i64, IntKind.wrap_u8]; omega
  have hf : IntKind.u8.wrap (IntKind.i64.wrap (64 + (IntKind.i64.wrap (final.tmod 63 + 63)).tmod 63)) = 64 + final % 63 := by
    rw [tmod_pos final 63 (by omega) (by omega), IntKind.wrap_i64, IntKind.wrap_u8]; omega
  rw [hb, hf]
  obtain ⟨b, hbb⟩ : ∃ b, b = 32 + c % 16 := ⟨_, rfl⟩
  obtain ⟨f, hff⟩ : ∃ f, f = 64 + final % 63 := ⟨_, rfl⟩
  rw [← hbb, ← hff]
  have hb1 : 32 ≤ b ∧ b < 48 := by omega
  have hf1 : 64 ≤ f ∧ f < 127 := by omega
  clear hb hf hbb hff
  have hrep : ∀ i : Nat, strInts (bsOf (List.replicate i b)) = List.replicate i b := fun i => strInts_bsOf (fun x hx => by have := (List.mem_replicate.1 hx).2; subst this; exact ⟨by omega, by omega⟩)
  have hfb : strInts (bsOf [f]) = [f] := strInts_bsOf (fun x hx => by simp at hx; subst hx; exact ⟨by omega, by omega⟩)
  have hwf : IntKind.i64.wrap f = f := by rw [IntKind.wrap_i64]; omega
  rw [hwf]
  refine br_intro (fun _ => hq) (fun g1 => br_intro (fun _ => hq) (fun g2 => ⟨by omega, by omega, by omega, by omega, ?_⟩))
  have g1 := of_decide_eq_false g1
  have g2 := of_decide_eq_false g2
  obtain ⟨m, rfl⟩ : ∃ m : Nat, n = m := ⟨n.toNat, by omega⟩
  simp only [Int.toNat_natCast]
  refine ⟨⟨0, rfl, by omega⟩, fun i hi => br_intro (fun hlt => ?_) (fun hge => ?_)⟩
  · have hlt := of_decide_eq_true hlt
    refine ⟨by omega, by rw [bsOf_size, bsOf_size, List.length_replicate]; simp; omega, ⟨i + 1, ?_, by omega, by omega⟩, trivial⟩
    rw [wrap1 i (by omega), bsOf_append, ← List.replicate_succ']
  · have hge := of_decide_eq_false hge
    have : i = m := by omega
    subst this
    have e27 : strInts ({ data := #[27, 91] } : ByteArray) = [27, 91] := by decide
    have e107 : strInts ({ data := #[107] } : ByteArray) = [107] := by decide
    have hfl : flat [({ data := #[27, 91] } : ByteArray), bsOf (List.replicate i b), bsOf [f], { data := #[107] }] = 27 :: 91 :: (List.replicate i b ++ [f, 107]) := by
      rw [flat_four, e27, e107, hrep, hfb]; simp
    refine ⟨by omega, ⟨trivial, by omega, ⟨ps0_ok, by rw [hfl]; simp; omega, by simp⟩⟩, fun r hr => ?_⟩
    obtain ⟨hr⟩ := hr
    rw [hfl, inters_csi (s := ps0) rfl rfl hb1.1 hb1.2 hf1.1 hf1.2] at hr
    subst hr
    refine br_intro (fun h2 => ?_) (fun h2 => ?_)
    · have h2 := of_decide_eq_true h2
      rw [if_pos (by omega)]
      repeat' first
        | exact hq
        | refine And.intro ?_ ?_
        | refine br_yes (by first | rfl | exact beq_self_eq_true _) ?_
        | exact of_decide_eq_true rfl
        | rfl
    · have h2 := of_decide_eq_false h2
      rw [if_neg (by omega)]
      repeat' first
        | exact hq
        | refine And.intro ?_ ?_
        | refine br_yes (by first | rfl | exact beq_self_eq_true _ | exact bytes_self _) ?_
        | exact of_decide_eq_true rfl
        | rfl
theorem v6f (n c final : Int) (Q : SV × Heap × List Nat → Prop) (hq : Q (.lit (.bool true), [], [])) : (bodySumm V3 Try.prog Try.f6 (An1 0 (A6 n.toNat (32 + c % 16))) [.lit (.int .i64 n), .lit (.int .i64 c), .lit (.int .i64 final), .lit (.bool false)] []).Leads Q := by
  refine Sx.by_text (q :=
      Sx.br (Decidable.decide (n < (0 : Int))) (Q (Sx.SV.lit (Go.Value.bool Bool.true), ([] : List Sx.SO), []))
        (Sx.br (Decidable.decide (n > (8 : Int))) (Q (Sx.SV.lit (Go.Value.bool Bool.true), ([] : List Sx.SO), []))
          (((16 : Int) = (0 : Int) → False) ∧
            ((16 : Int) = (0 : Int) → False) ∧
              ((63 : Int) = (0 : Int) → False) ∧
                ((63 : Int) = (0 : Int) → False) ∧
                  Sx.br (n == (0 : Int))
                    (Sx.br
                      (Go.IntKind.wrap Go.IntKind.u8
                          (Go.IntKind.wrap Go.IntKind.i64 ((64 : Int) + Int.tmod (Go.IntKind.wrap Go.IntKind.i64 (Int.tmod final (63 : Int) + (63 : Int))) (63 : Int))) ==
                        (91 : Int))
                      (Q (Sx.SV.lit (Go.Value.bool Bool.true), ([] : List Sx.SO), []))
                      (Sx.br
                        (Go.IntKind.wrap Go.IntKind.u8
                            (Go.IntKind.wrap Go.IntKind.i64 ((64 : Int) + Int.tmod (Go.IntKind.wrap Go.IntKind.i64 (Int.tmod final (63 : Int) + (63 : Int))) (63 : Int))) ==
                          (93 : Int))
                        (Q (Sx.SV.lit (Go.Value.bool Bool.true), ([] : List Sx.SO), []))
                        (Sx.br
                          (Go.IntKind.wrap Go.IntKind.u8
                              (Go.IntKind.wrap Go.IntKind.i64 ((64 : Int) + Int.tmod (Go.IntKind.wrap Go.IntKind.i64 (Int.tmod final (63 : Int) + (63 : Int))) (63 : Int))) ==
                            (80 : Int))
                          (Q (Sx.SV.lit (Go.Value.bool Bool.true), ([] : List Sx.SO), []))
                          ((∃ (x : Nat),
                              ([Sx.SV.lit (Go.Value.int Go.IntKind.i64 n),
                                      Sx.SV.lit
                                        (Go.Value.int Go.IntKind.u8
                                          (Go.IntKind.wrap Go.IntKind.u8
                                            (Go.IntKind.wrap Go.IntKind.i64 ((32 : Int) + Int.tmod (Go.IntKind.wrap Go.IntKind.i64 (Int.tmod c (16 : Int) + (16 : Int))) (16 : Int))))),
                                      Sx.SV.lit
                                        (Go.Value.int Go.IntKind.u8
                                          (Go.IntKind.wrap Go.IntKind.u8
                                            (Go.IntKind.wrap Go.IntKind.i64
                                              ((64 : Int) + Int.tmod (Go.IntKind.wrap Go.IntKind.i64 (Int.tmod final (63 : Int) + (63 : Int))) (63 : Int))))),
                                      Sx.SV.lit (Go.Value.string { data := #[(27 : UInt8)] }), Sx.SV.lit (Go.Value.int Go.IntKind.i64 (3 : Int)),
                                      Sx.SV.lit (Go.Value.string { data := #[] }), Sx.SV.lit (Go.Value.int Go.IntKind.i64 (0 : Int))],
                                    ([] : List Sx.SO)) =
                                  ([Sx.SV.lit (Go.Value.int Go.IntKind.i64 n),
                                      Sx.SV.lit
                                        (Go.Value.int Go.IntKind.u8
                                          (Go.IntKind.wrap Go.IntKind.u8
                                            (Go.IntKind.wrap Go.IntKind.i64 ((32 : Int) + Int.tmod (Go.IntKind.wrap Go.IntKind.i64 (Int.tmod c (16 : Int) + (16 : Int))) (16 : Int))))),
                                      Sx.SV.lit
                                        (Go.Value.int Go.IntKind.u8
                                          (Go.IntKind.wrap Go.IntKind.u8
                                            (Go.IntKind.wrap Go.IntKind.i64
                                              ((64 : Int) + Int.tmod (Go.IntKind.wrap Go.IntKind.i64 (Int.tmod final (63 : Int) + (63 : Int))) (63 : Int))))),
                                      Sx.SV.lit (Go.Value.string { data := #[(27 : UInt8)] }), Sx.SV.lit (Go.Value.int Go.IntKind.i64 (3 : Int)),
                                      Sx.SV.lit (Go.Value.string (Sx.bsOf (List.replicate x ((32 : Int) + c % (16 : Int))))), Sx.SV.lit (Go.Value.int Go.IntKind.i64 (↑x : Int))],
                                    ([] : List Sx.SO)) ∧
                                x ≤ Int.toNat n) ∧
                            ∀ (b : Nat),
                              b ≤ Int.toNat n →
                                Sx.br (Decidable.decide ((↑b : Int) < n))
                                  ((1 : Nat) ≤ (1 : Nat) ∧
                                    (↑(ByteArray.size (Sx.bsOf (List.replicate b ((32 : Int) + c % (16 : Int)))) +
                                              ByteArray.size
                                                (Sx.bsOf
                                                  [Go.IntKind.wrap Go.IntKind.u8
                                                      (Go.IntKind.wrap Go.IntKind.i64
                                                        ((32 : Int) + Int.tmod (Go.IntKind.wrap Go.IntKind.i64 (Int.tmod c (16 : Int) + (16 : Int))) (16 : Int)))])) :
                                          Int) ≤
                                        (9223372036854775807 : Int) ∧
                                      (∃ (x' : Nat),
                                          ([Sx.SV.lit (Go.Value.int Go.IntKind.i64 n),
                                                  Sx.SV.lit
                                                    (Go.Value.int Go.IntKind.u8
                                                      (Go.IntKind.wrap Go.IntKind.u8
                                                        (Go.IntKind.wrap Go.IntKind.i64
                                                          ((32 : Int) + Int.tmod (Go.IntKind.wrap Go.IntKind.i64 (Int.tmod c (16 : Int) + (16 : Int))) (16 : Int))))),
                                                  Sx.SV.lit
                                                    (Go.Value.int Go.IntKind.u8
                                                      (Go.IntKind.wrap Go.IntKind.u8
                                                        (Go.IntKind.wrap Go.IntKind.i64
                                                          ((64 : Int) + Int.tmod (Go.IntKind.wrap Go.IntKind.i64 (Int.tmod final (63 : Int) + (63 : Int))) (63 : Int))))),
                                                  Sx.SV.lit (Go.Value.string { data := #[(27 : UInt8)] }), Sx.SV.lit (Go.Value.int Go.IntKind.i64 (3 : Int)),
                                                  Sx.SV.lit
                                                    (Go.Value.string
                                                      (Sx.bsOf (List.replicate b ((32 : Int) + c % (16 : Int))) ++
                                                        Sx.bsOf
                                                          [Go.IntKind.wrap Go.IntKind.u8
                                                              (Go.IntKind.wrap Go.IntKind.i64
                                                                ((32 : Int) + Int.tmod (Go.IntKind.wrap Go.IntKind.i64 (Int.tmod c (16 : Int) + (16 : Int))) (16 : Int)))])),
                                                  Sx.SV.lit (Go.Value.int Go.IntKind.i64 (Go.IntKind.wrap Go.IntKind.i64 ((↑b : Int) + (1 : Int))))],
                                                ([] : List Sx.SO)) =
                                              ([Sx.SV.lit (Go.Value.int Go.IntKind.i64 n),
                                                  Sx.SV.lit
                                                    (Go.Value.int Go.IntKind.u8
                                                      (Go.IntKind.wrap Go.IntKind.u8
                                                        (Go.IntKind.wrap Go.IntKind.i64
                                                          ((32 : Int) + Int.tmod (Go.IntKind.wrap Go.IntKind.i64 (Int.tmod c (16 : Int) + (16 : Int))) (16 : Int))))),
                                                  Sx.SV.lit
                                                    (Go.Value.int Go.IntKind.u8
                                                      (Go.IntKind.wrap Go.IntKind.u8
                                                        (Go.IntKind.wrap Go.IntKind.i64
                                                          ((64 : Int) + Int.tmod (Go.IntKind.wrap Go.IntKind.i64 (Int.tmod final (63 : Int) + (63 : Int))) (63 : Int))))),
                                                  Sx.SV.lit (Go.Value.string { data := #[(27 : UInt8)] }), Sx.SV.lit (Go.Value.int Go.IntKind.i64 (3 : Int)),
                                                  Sx.SV.lit (Go.Value.string (Sx.bsOf (List.replicate x' ((32 : Int) + c % (16 : Int))))),
                                                  Sx.SV.lit (Go.Value.int Go.IntKind.i64 (↑x' : Int))],
                                                ([] : List Sx.SO)) ∧
                                            x' ≤ Int.toNat n ∧ Int.toNat n - x' < Int.toNat n - b) ∧
                                        True)
                                  ((1 : Nat) ≤ (1 : Nat) ∧
                                    (T13.newP = T13.newP ∧
                                        (4 : Nat) ≤ (4 : Nat) ∧
                                          T13.FeedOK T13.ps0
                                            [{ data := #[(27 : UInt8)] }, Sx.bsOf (List.replicate b ((32 : Int) + c % (16 : Int))),
                                              Sx.bsOf
                                                [Go.IntKind.wrap Go.IntKind.u8
                                                    (Go.IntKind.wrap Go.IntKind.i64
                                                      ((64 : Int) + Int.tmod (Go.IntKind.wrap Go.IntKind.i64 (Int.tmod final (63 : Int) + (63 : Int))) (63 : Int)))],
                                              { data := #[(107 : UInt8)] }]) ∧
                                      ∀ (b_1 : T13.PS × List (Sx.Ty.den T13.aty)),
                                        T13.FeedOf T13.ps0
                                            [{ data := #[(27 : UInt8)] }, Sx.bsOf (List.replicate b ((32 : Int) + c % (16 : Int))),
                                              Sx.bsOf
                                                [Go.IntKind.wrap Go.IntKind.u8
                                                    (Go.IntKind.wrap Go.IntKind.i64
                                                      ((64 : Int) + Int.tmod (Go.IntKind.wrap Go.IntKind.i64 (Int.tmod final (63 : Int) + (63 : Int))) (63 : Int)))],
                                              { data := #[(107 : UInt8)] }]
                                            b_1 →
                                          Sx.br (Decidable.decide (n > (2 : Int)))
                                            (Sx.br ((↑(List.length (Prod.snd b_1)) : Int) == (1 : Int))
                                              (((0 : Int) ≤ (0 : Int) ∧ (0 : Int) < (↑(List.length (Prod.snd b_1)) : Int)) ∧
                                                (0 : Nat) < List.length (Prod.snd b_1) ∧
                                                  Sx.br (Prod.fst (List.getD (Prod.snd b_1) (0 : Nat) (Sx.Ty.dflt T13.aty)) == (1 : Int))
                                                    (((0 : Int) ≤ (0 : Int) ∧ (0 : Int) < (↑(List.length (Prod.snd b_1)) : Int)) ∧
                                                      (0 : Nat) < List.length (Prod.snd b_1) ∧
                                                        Q
                                                          (Sx.SV.lit (Go.Value.bool (Prod.fst (Prod.snd (List.getD (Prod.snd b_1) (0 : Nat) (Sx.Ty.dflt T13.aty))) == (107 : Int))),
                                                            ([] : List Sx.SO), []))
                                                    (Q (Sx.SV.lit (Go.Value.bool Bool.false), ([] : List Sx.SO), [])))
                                              (Q (Sx.SV.lit (Go.Value.bool Bool.false), ([] : List Sx.SO), [])))
                                            (Sx.br ((↑(List.length (Prod.snd b_1)) : Int) == (2 : Int))
                                              (((0 : Int) ≤ (0 : Int) ∧ (0 : Int) < (↑(List.length (Prod.snd b_1)) : Int)) ∧
                                                (0 : Nat) < List.length (Prod.snd b_1) ∧
                                                  Sx.br (Prod.fst (List.getD (Prod.snd b_1) (0 : Nat) (Sx.Ty.dflt T13.aty)) == (3 : Int))
                                                    (((0 : Int) ≤ (0 : Int) ∧ (0 : Int) < (↑(List.length (Prod.snd b_1)) : Int)) ∧
                                                      (0 : Nat) < List.length (Prod.snd b_1) ∧
                                                        Sx.br
                                                          (Prod.fst (Prod.snd (Prod.snd (Prod.snd (Prod.snd (Prod.snd (List.getD (Prod.snd b_1) (0 : Nat) (Sx.Ty.dflt T13.aty))))))) ==
                                                            Sx.bsOf (List.replicate b ((32 : Int) + c % (16 : Int))))
                                                          (((0 : Int) ≤ (0 : Int) ∧ (0 : Int) < (↑(List.length (Prod.snd b_1)) : Int)) ∧
                                                            (0 : Nat) < List.length (Prod.snd b_1) ∧
                                                              Sx.br
                                                                (Prod.fst (Prod.snd (Prod.snd (List.getD (Prod.snd b_1) (0 : Nat) (Sx.Ty.dflt T13.aty)))) ==
                                                                  Go.IntKind.wrap Go.IntKind.i64
                                                                    (Go.IntKind.wrap Go.IntKind.u8
                                                                      (Go.IntKind.wrap Go.IntKind.i64
                                                                        ((64 : Int) + Int.tmod (Go.IntKind.wrap Go.IntKind.i64 (Int.tmod final (63 : Int) + (63 : Int))) (63 : Int)))))
                                                                (((0 : Int) ≤ (0 : Int) ∧ (0 : Int) < (↑(List.length (Prod.snd b_1)) : Int)) ∧
                                                                  (0 : Nat) < List.length (Prod.snd b_1) ∧
                                                                    Sx.br
                                                                      ((↑(List.length
                                                                              (Prod.fst
                                                                                (Prod.snd (Prod.snd (Prod.snd (Prod.snd (List.getD (Prod.snd b_1) (0 : Nat) (Sx.Ty.dflt T13.aty)))))))) :
                                                                          Int) ==
                                                                        (0 : Int))
                                                                      (((0 : Int) ≤ (1 : Int) ∧ (1 : Int) < (↑(List.length (Prod.snd b_1)) : Int)) ∧
                                                                        (1 : Nat) < List.length (Prod.snd b_1) ∧
                                                                          Sx.br (Prod.fst (Prod.snd (List.getD (Prod.snd b_1) (1 : Nat) (Sx.Ty.dflt T13.aty))) == (107 : Int))
                                                                            (T13.fedP (Prod.fst b_1) (1 : Nat) (2 : Nat) (3 : Nat)
                                                                                  (Sx.SV.lit (Go.Value.slice Option.none (0 : Nat) (0 : Nat))) =
                                                                                T13.fedP
                                                                                  { st := T13.PS.st (Prod.fst b_1), half := Sx.strInts (Sx.bsOf (T13.PS.half (Prod.fst b_1))),
                                                                                    inter := T13.PS.inter (Prod.fst b_1), wrong := T13.PS.wrong (Prod.fst b_1),
                                                                                    first := T13.PS.first (Prod.fst b_1), mark := T13.PS.mark (Prod.fst b_1),
                                                                                    nums := T13.PS.nums (Prod.fst b_1), full := T13.PS.full (Prod.fst b_1),
                                                                                    text := T13.PS.text (Prod.fst b_1) }
                                                                                  (1 : Nat) (2 : Nat) (3 : Nat) (Sx.SV.lit (Go.Value.slice Option.none (0 : Nat) (0 : Nat))) ∧
                                                                              Q
                                                                                (Sx.SV.lit
                                                                                    (Go.Value.bool
                                                                                      (T13.PS.st (Prod.fst b_1) == (0 : Int) &&
                                                                                        ByteArray.size (Sx.bsOf (T13.PS.half (Prod.fst b_1))) == (0 : Nat))),
                                                                                  ([] : List Sx.SO), []))
                                                                            (Q (Sx.SV.lit (Go.Value.bool Bool.false), ([] : List Sx.SO), [])))
                                                                      (Q (Sx.SV.lit (Go.Value.bool Bool.false), ([] : List Sx.SO), [])))
                                                                (Q (Sx.SV.lit (Go.Value.bool Bool.false), ([] : List Sx.SO), [])))
                                                          (Q (Sx.SV.lit (Go.Value.bool Bool.false), ([] : List Sx.SO), [])))
                                                    (Q (Sx.SV.lit (Go.Value.bool Bool.false), ([] : List Sx.SO), [])))
                                              (Q (Sx.SV.lit (Go.Value.bool Bool.false), ([] : List Sx.SO), []))))))))
                    ((∃ (x : Nat),
                        ([Sx.SV.lit (Go.Value.int Go.IntKind.i64 n),
                                Sx.SV.lit
                                  (Go.Value.int Go.IntKind.u8
                                    (Go.IntKind.wrap Go.IntKind.u8
                                      (Go.IntKind.wrap Go.IntKind.i64 ((32 : Int) + Int.tmod (Go.IntKind.wrap Go.IntKind.i64 (Int.tmod c (16 : Int) + (16 : Int))) (16 : Int))))),
                                Sx.SV.lit
                                  (Go.Value.int Go.IntKind.u8
                                    (Go.IntKind.wrap Go.IntKind.u8
                                      (Go.IntKind.wrap Go.IntKind.i64 ((64 : Int) + Int.tmod (Go.IntKind.wrap Go.IntKind.i64 (Int.tmod final (63 : Int) + (63 : Int))) (63 : Int))))),
                                Sx.SV.lit (Go.Value.string { data := #[(27 : UInt8)] }), Sx.SV.lit (Go.Value.int Go.IntKind.i64 (3 : Int)), Sx.SV.lit (Go.Value.string { data := #[] }),
                                Sx.SV.lit (Go.Value.int Go.IntKind.i64 (0 : Int))],
                              ([] : List Sx.SO)) =
                            ([Sx.SV.lit (Go.Value.int Go.IntKind.i64 n),
                                Sx.SV.lit
                                  (Go.Value.int Go.IntKind.u8
                                    (Go.IntKind.wrap Go.IntKind.u8
                                      (Go.IntKind.wrap Go.IntKind.i64 ((32 : Int) + Int.tmod (Go.IntKind.wrap Go.IntKind.i64 (Int.tmod c (16 : Int) + (16 : Int))) (16 : Int))))),
                                Sx.SV.lit
                                  (Go.Value.int Go.IntKind.u8
                                    (Go.IntKind.wrap Go.IntKind.u8
                                      (Go.IntKind.wrap Go.IntKind.i64 ((64 : Int) + Int.tmod (Go.IntKind.wrap Go.IntKind.i64 (Int.tmod final (63 : Int) + (63 : Int))) (63 : Int))))),
                                Sx.SV.lit (Go.Value.string { data := #[(27 : UInt8)] }), Sx.SV.lit (Go.Value.int Go.IntKind.i64 (3 : Int)),
                                Sx.SV.lit (Go.Value.string (Sx.bsOf (List.replicate x ((32 : Int) + c % (16 : Int))))), Sx.SV.lit (Go.Value.int Go.IntKind.i64 (↑x : Int))],
                              ([] : List Sx.SO)) ∧
                          x ≤ Int.toNat n) ∧
                      ∀ (b : Nat),
                        b ≤ Int.toNat n →
                          Sx.br (Decidable.decide ((↑b : Int) < n))
                            ((1 : Nat) ≤ (1 : Nat) ∧
                              (↑(ByteArray.size (Sx.bsOf (List.replicate b ((32 : Int) + c % (16 : Int)))) +
                                        ByteArray.size
                                          (Sx.bsOf
                                            [Go.IntKind.wrap Go.IntKind.u8
                                                (Go.IntKind.wrap Go.IntKind.i64
                                                  ((32 : Int) + Int.tmod (Go.IntKind.wrap Go.IntKind.i64 (Int.tmod c (16 : Int) + (16 : Int))) (16 : Int)))])) :
                                    Int) ≤
                                  (9223372036854775807 : Int) ∧
                                (∃ (x' : Nat),
                                    ([Sx.SV.lit (Go.Value.int Go.IntKind.i64 n),
                                            Sx.SV.lit
                                              (Go.Value.int Go.IntKind.u8
                                                (Go.IntKind.wrap Go.IntKind.u8
                                                  (Go.IntKind.wrap Go.IntKind.i64
                                                    ((32 : Int) + Int.tmod (Go.IntKind.wrap Go.IntKind.i64 (Int.tmod c (16 : Int) + (16 : Int))) (16 : Int))))),
                                            Sx.SV.lit
                                              (Go.Value.int Go.IntKind.u8
                                                (Go.IntKind.wrap Go.IntKind.u8
                                                  (Go.IntKind.wrap Go.IntKind.i64
                                                    ((64 : Int) + Int.tmod (Go.IntKind.wrap Go.IntKind.i64 (Int.tmod final (63 : Int) + (63 : Int))) (63 : Int))))),
                                            Sx.SV.lit (Go.Value.string { data := #[(27 : UInt8)] }), Sx.SV.lit (Go.Value.int Go.IntKind.i64 (3 : Int)),
                                            Sx.SV.lit
                                              (Go.Value.string
                                                (Sx.bsOf (List.replicate b ((32 : Int) + c % (16 : Int))) ++
                                                  Sx.bsOf
                                                    [Go.IntKind.wrap Go.IntKind.u8
                                                        (Go.IntKind.wrap Go.IntKind.i64
                                                          ((32 : Int) + Int.tmod (Go.IntKind.wrap Go.IntKind.i64 (Int.tmod c (16 : Int) + (16 : Int))) (16 : Int)))])),
                                            Sx.SV.lit (Go.Value.int Go.IntKind.i64 (Go.IntKind.wrap Go.IntKind.i64 ((↑b : Int) + (1 : Int))))],
                                          ([] : List Sx.SO)) =
                                        ([Sx.SV.lit (Go.Value.int Go.IntKind.i64 n),
                                            Sx.SV.lit
                                              (Go.Value.int Go.IntKind.u8
                                                (Go.IntKind.wrap Go.IntKind.u8
                                                  (Go.IntKind.wrap Go.IntKind.i64
                                                    ((32 : Int) + Int.tmod (Go.IntKind.wrap Go.IntKind.i64 (Int.tmod c (16 : Int) + (16 : Int))) (16 : Int))))),
                                            Sx.SV.lit
                                              (Go.Value.int Go.IntKind.u8
                                                (Go.IntKind.wrap Go.IntKind.u8
                                                  (Go.IntKind.wrap Go.IntKind.i64
                                                    ((64 : Int) + Int.tmod (Go.IntKind.wrap Go.IntKind.i64 (Int.tmod final (63 : Int) + (63 : Int))) (63 : Int))))),
                                            Sx.SV.lit (Go.Value.string { data := #[(27 : UInt8)] }), Sx.SV.lit (Go.Value.int Go.IntKind.i64 (3 : Int)),
                                            Sx.SV.lit (Go.Value.string (Sx.bsOf (List.replicate x' ((32 : Int) + c % (16 : Int))))), Sx.SV.lit (Go.Value.int Go.IntKind.i64 (↑x' : Int))],
                                          ([] : List Sx.SO)) ∧
                                      x' ≤ Int.toNat n ∧ Int.toNat n - x' < Int.toNat n - b) ∧
                                  True)
                            ((1 : Nat) ≤ (1 : Nat) ∧
                              (T13.newP = T13.newP ∧
                                  (4 : Nat) ≤ (4 : Nat) ∧
                                    T13.FeedOK T13.ps0
                                      [{ data := #[(27 : UInt8)] }, Sx.bsOf (List.replicate b ((32 : Int) + c % (16 : Int))),
                                        Sx.bsOf
                                          [Go.IntKind.wrap Go.IntKind.u8
                                              (Go.IntKind.wrap Go.IntKind.i64
                                                ((64 : Int) + Int.tmod (Go.IntKind.wrap Go.IntKind.i64 (Int.tmod final (63 : Int) + (63 : Int))) (63 : Int)))],
                                        { data := #[(107 : UInt8)] }]) ∧
                                ∀ (b_1 : T13.PS × List (Sx.Ty.den T13.aty)),
                                  T13.FeedOf T13.ps0
                                      [{ data := #[(27 : UInt8)] }, Sx.bsOf (List.replicate b ((32 : Int) + c % (16 : Int))),
                                        Sx.bsOf
                                          [Go.IntKind.wrap Go.IntKind.u8
                                              (Go.IntKind.wrap Go.IntKind.i64
                                                ((64 : Int) + Int.tmod (Go.IntKind.wrap Go.IntKind.i64 (Int.tmod final (63 : Int) + (63 : Int))) (63 : Int)))],
                                        { data := #[(107 : UInt8)] }]
                                      b_1 →
                                    Sx.br (Decidable.decide (n > (2 : Int)))
                                      (Sx.br ((↑(List.length (Prod.snd b_1)) : Int) == (1 : Int))
                                        (((0 : Int) ≤ (0 : Int) ∧ (0 : Int) < (↑(List.length (Prod.snd b_1)) : Int)) ∧
                                          (0 : Nat) < List.length (Prod.snd b_1) ∧
                                            Sx.br (Prod.fst (List.getD (Prod.snd b_1) (0 : Nat) (Sx.Ty.dflt T13.aty)) == (1 : Int))
                                              (((0 : Int) ≤ (0 : Int) ∧ (0 : Int) < (↑(List.length (Prod.snd b_1)) : Int)) ∧
                                                (0 : Nat) < List.length (Prod.snd b_1) ∧
                                                  Q
                                                    (Sx.SV.lit (Go.Value.bool (Prod.fst (Prod.snd (List.getD (Prod.snd b_1) (0 : Nat) (Sx.Ty.dflt T13.aty))) == (107 : Int))),
                                                      ([] : List Sx.SO), []))
                                              (Q (Sx.SV.lit (Go.Value.bool Bool.false), ([] : List Sx.SO), [])))
                                        (Q (Sx.SV.lit (Go.Value.bool Bool.false), ([] : List Sx.SO), [])))
                                      (Sx.br ((↑(List.length (Prod.snd b_1)) : Int) == (2 : Int))
                                        (((0 : Int) ≤ (0 : Int) ∧ (0 : Int) < (↑(List.length (Prod.snd b_1)) : Int)) ∧
                                          (0 : Nat) < List.length (Prod.snd b_1) ∧
                                            Sx.br (Prod.fst (List.getD (Prod.snd b_1) (0 : Nat) (Sx.Ty.dflt T13.aty)) == (3 : Int))
                                              (((0 : Int) ≤ (0 : Int) ∧ (0 : Int) < (↑(List.length (Prod.snd b_1)) : Int)) ∧
                                                (0 : Nat) < List.length (Prod.snd b_1) ∧
                                                  Sx.br
                                                    (Prod.fst (Prod.snd (Prod.snd (Prod.snd (Prod.snd (Prod.snd (List.getD (Prod.snd b_1) (0 : Nat) (Sx.Ty.dflt T13.aty))))))) ==
                                                      Sx.bsOf (List.replicate b ((32 : Int) + c % (16 : Int))))
                                                    (((0 : Int) ≤ (0 : Int) ∧ (0 : Int) < (↑(List.length (Prod.snd b_1)) : Int)) ∧
                                                      (0 : Nat) < List.length (Prod.snd b_1) ∧
                                                        Sx.br
                                                          (Prod.fst (Prod.snd (Prod.snd (List.getD (Prod.snd b_1) (0 : Nat) (Sx.Ty.dflt T13.aty)))) ==
                                                            Go.IntKind.wrap Go.IntKind.i64
                                                              (Go.IntKind.wrap Go.IntKind.u8
                                                                (Go.IntKind.wrap Go.IntKind.i64
                                                                  ((64 : Int) + Int.tmod (Go.IntKind.wrap Go.IntKind.i64 (Int.tmod final (63 : Int) + (63 : Int))) (63 : Int)))))
                                                          (((0 : Int) ≤ (0 : Int) ∧ (0 : Int) < (↑(List.length (Prod.snd b_1)) : Int)) ∧
                                                            (0 : Nat) < List.length (Prod.snd b_1) ∧
                                                              Sx.br
                                                                ((↑(List.length
                                                                        (Prod.fst
                                                                          (Prod.snd (Prod.snd (Prod.snd (Prod.snd (List.getD (Prod.snd b_1) (0 : Nat) (Sx.Ty.dflt T13.aty)))))))) :
                                                                    Int) ==
                                                                  (0 : Int))
                                                                (((0 : Int) ≤ (1 : Int) ∧ (1 : Int) < (↑(List.length (Prod.snd b_1)) : Int)) ∧
                                                                  (1 : Nat) < List.length (Prod.snd b_1) ∧
                                                                    Sx.br (Prod.fst (Prod.snd (List.getD (Prod.snd b_1) (1 : Nat) (Sx.Ty.dflt T13.aty))) == (107 : Int))
                                                                      (T13.fedP (Prod.fst b_1) (1 : Nat) (2 : Nat) (3 : Nat)
                                                                            (Sx.SV.lit (Go.Value.slice Option.none (0 : Nat) (0 : Nat))) =
                                                                          T13.fedP
                                                                            { st := T13.PS.st (Prod.fst b_1), half := Sx.strInts (Sx.bsOf (T13.PS.half (Prod.fst b_1))),
                                                                              inter := T13.PS.inter (Prod.fst b_1), wrong := T13.PS.wrong (Prod.fst b_1),
                                                                              first := T13.PS.first (Prod.fst b_1), mark := T13.PS.mark (Prod.fst b_1),
                                                                              nums := T13.PS.nums (Prod.fst b_1), full := T13.PS.full (Prod.fst b_1), text := T13.PS.text (Prod.fst b_1) }
                                                                            (1 : Nat) (2 : Nat) (3 : Nat) (Sx.SV.lit (Go.Value.slice Option.none (0 : Nat) (0 : Nat))) ∧
                                                                        Q
                                                                          (Sx.SV.lit
                                                                              (Go.Value.bool
                                                                                (T13.PS.st (Prod.fst b_1) == (0 : Int) &&
                                                                                  ByteArray.size (Sx.bsOf (T13.PS.half (Prod.fst b_1))) == (0 : Nat))),
                                                                            ([] : List Sx.SO), []))
                                                                      (Q (Sx.SV.lit (Go.Value.bool Bool.false), ([] : List Sx.SO), [])))
                                                                (Q (Sx.SV.lit (Go.Value.bool Bool.false), ([] : List Sx.SO), [])))
                                                          (Q (Sx.SV.lit (Go.Value.bool Bool.false), ([] : List Sx.SO), [])))
                                                    (Q (Sx.SV.lit (Go.Value.bool Bool.false), ([] : List Sx.SO), [])))
                                              (Q (Sx.SV.lit (Go.Value.bool Bool.false), ([] : List Sx.SO), [])))
                                        (Q (Sx.SV.lit (Go.Value.bool Bool.false), ([] : List Sx.SO), [])))))))) (by kernel_rfl) ?_
  have hb : IntKind.u8.wrap (IntKind.i64.wrap (32 + (IntKind.i64.wrap (c.tmod 16 + 16)).tmod 16)) = 32 + c % 16 := by
    rw [tmod_pos c 16 (by omega) (by omega), IntKind.wrap_i64, IntKind.wrap_u8]; omega
  have hf : IntKind.u8.wrap (IntKind.i64.wrap (64 + (IntKind.i64.wrap (final.tmod 63 + 63)).tmod 63)) = 64 + final % 63 := by
    rw [tmod_pos final 63 (by omega) (by omega), IntKind.wrap_i64, IntKind.wrap_u8]; omega
  rw [hb, hf]
  obtain ⟨b, hbb⟩ : ∃ b, b = 32 + c % 16 := ⟨_, rfl⟩
  obtain ⟨f, hff⟩ : ∃ f, f = 64 + final % 63 := ⟨_, rfl⟩
  rw [← hbb, ← hff]
  have hb1 : 32 ≤ b ∧ b < 48 := by omega
  have hf1 : 64 ≤ f ∧ f < 127 := by omega
  clear hb hf hbb hff
  have hrep : ∀ i : Nat, strInts (bsOf (List.replicate i b)) = List.replicate i b := fun i => strInts_bsOf (fun x hx => by have := (List.mem_replicate.1 hx).2; subst this; exact ⟨by omega, by omega⟩)
  have hfb : strInts (bsOf [f]) = [f] := strInts_bsOf (fun x hx => by simp at hx; subst hx; exact ⟨by omega, by omega⟩)
  have hwf : IntKind.i64.wrap f = f := by rw [IntKind.wrap_i64]; omega
  rw [hwf]
  refine br_intro (fun _ => hq) (fun g1 => br_intro (fun _ => hq) (fun g2 => ⟨by omega, by omega, by omega, by omega, ?_⟩))
  have g1 := of_decide_eq_false g1
  have g2 := of_decide_eq_false g2
  obtain ⟨m, rfl⟩ : ∃ m : Nat, n = m := ⟨n.toNat, by omega⟩
  simp only [Int.toNat_natCast]
  refine br4 hq fun hf4 => ?_
  have hf3 : m = 0 → f ≠ 91 ∧ f ≠ 93 ∧ f ≠ 80 := fun hm => by
    obtain ⟨k1, k2, k3⟩ := hf4 (by rw [hm]; rfl)
    exact ⟨ne_of_beq_false k1, ne_of_beq_false k2, ne_of_beq_false k3⟩
  refine ⟨⟨0, rfl, by omega⟩, fun i hi => br_intro (fun hlt => ?_) (fun hge => ?_)⟩
  · have hlt := of_decide_eq_true hlt
    refine ⟨by omega, by rw [bsOf_size, bsOf_size, List.length_replicate]; simp; omega, ⟨i + 1, ?_, by omega, by omega⟩, trivial⟩
    rw [wrap1 i (by omega), bsOf_append, ← List.replicate_succ']
  · have hge := of_decide_eq_false hge
    have : i = m := by omega
    subst this
    have e27 : strInts ({ data := #[27] } : ByteArray) = [27] := by decide
    have e107 : strInts ({ data := #[107] } : ByteArray) = [107] := by decide
    have hfl : flat [({ data := #[27] } : ByteArray), bsOf (List.replicate i b), bsOf [f], { data := #[107] }] = 27 :: (List.replicate i b ++ [f, 107]) := by
      rw [flat_four, e27, e107, hrep, hfb]; simp
    refine ⟨by omega, ⟨trivial, by omega, ⟨ps0_ok, by rw [hfl]; simp; omega, by simp⟩⟩, fun r hr => ?_⟩
    obtain ⟨hr⟩ := hr
    rw [hfl, inters_esc (s := ps0) rfl rfl hb1.1 hb1.2 hf1.1 hf1.2 i hf3] at hr
    subst hr
    refine br_intro (fun h2 => ?_) (fun h2 => ?_)
    · have h2 := of_decide_eq_true h2
      rw [if_pos (by omega)]
      repeat' first
        | exact hq
        | refine And.intro ?_ ?_
        | refine br_yes (by first | rfl | exact beq_self_eq_true _) ?_
        | exact of_decide_eq_true rfl
        | rfl
    · have h2 := of_decide_eq_false h2
      rw [if_neg (by omega)]
      repeat' first
        | exact hq
        | refine And.intro ?_ ?_
        | refine br_yes (by first | rfl | exact beq_self_eq_true _ | exact bytes_self _) ?_
        | exact of_decide_eq_true rfl
        | rfl

theorem v6 (n c final : Int) (csi : Bool) (Q : SV × Heap × List Nat → Prop) (hq : Q (.lit (.bool true), [], [])) : (bodySumm V3 Try.prog Try.f6 (An1 0 (A6 n.toNat (32 + c % 16))) [.lit (.int .i64 n), .lit (.int .i64 c), .lit (.int .i64 final), .lit (.bool csi)] []).Leads Q := by
  cases csi
  · exact v6f n c final Q hq
  · exact v6t n c final Q hq
end T13
