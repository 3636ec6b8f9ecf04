/- Part of a proof: the walk of the functions that the law calls. -/
import Derived.Test.YtlcobcpgaoeijaaSxT
import Derived.Test.YtlcobcpgaoeijaaXT13i
import Derived.Test.YtlcobcpgaoeijaaXP13d
open Go Sx Go.Proofs T12
namespace T13
set_option maxRecDepth 100000
set_option maxHeartbeats 4000000
attribute [local irreducible] Tree.Leads
set_option linter.unusedVariables false
noncomputable def A11 (n0 : Nat) : Ann := { live := [0, 3], mv := [], head := fun _ _ => { X := Nat × ByteArray, inv := fun x => ([.lit (.int .i64 x.1), .lit (.string x.2)], []), ok := fun x => x.1 ≤ n0 ∧ x.2.size ≤ n0 + 1 - x.1 ∧ digL x.1 (strInts x.2) = dig n0, mu := fun x => x.1 * 2 + (if x.2.size = 0 then 1 else 0) } }
theorem v11 (n : Nat) (Q : SV × Heap × List Nat → Prop) (hn : n ≤ 100000) (hq : Q (.lit (.string (bsOf (dig n))), [], [])) : (bodySumm V3 Try.prog Try.f11 (An1 0 (A11 n)) [.lit (.int .i64 n)] []).Leads Q := by
  refine Sx.by_text (q :=
      (∃ (x : Nat × ByteArray),
          ([Sx.SV.lit (Go.Value.int Go.IntKind.i64 (↑n : Int)), Sx.SV.lit (Go.Value.string { data := #[] })], ([] : List Sx.SO)) =
              ([Sx.SV.lit (Go.Value.int Go.IntKind.i64 (↑(Prod.fst x) : Int)), Sx.SV.lit (Go.Value.string (Prod.snd x))], ([] : List Sx.SO)) ∧
            Prod.fst x ≤ n ∧ ByteArray.size (Prod.snd x) ≤ n + (1 : Nat) - Prod.fst x ∧ T13.digL (Prod.fst x) (Sx.strInts (Prod.snd x)) = T13.dig n) ∧
        ∀ (b : Nat × ByteArray),
          Prod.fst b ≤ n ∧ ByteArray.size (Prod.snd b) ≤ n + (1 : Nat) - Prod.fst b ∧ T13.digL (Prod.fst b) (Sx.strInts (Prod.snd b)) = T13.dig n →
            Sx.br (Decidable.decide ((↑(Prod.fst b) : Int) > (0 : Int)))
              (((10 : Int) = (0 : Int) → False) ∧
                (1 : Nat) ≤ (1 : Nat) ∧
                  (↑(ByteArray.size (Sx.bsOf [Go.IntKind.wrap Go.IntKind.u8 (Go.IntKind.wrap Go.IntKind.i64 ((48 : Int) + Int.tmod (↑(Prod.fst b) : Int) (10 : Int)))]) +
                            ByteArray.size (Prod.snd b)) :
                        Int) ≤
                      (9223372036854775807 : Int) ∧
                    ((10 : Int) = (0 : Int) → False) ∧
                      (∃ (x' : Nat × ByteArray),
                          ([Sx.SV.lit (Go.Value.int Go.IntKind.i64 (Go.IntKind.wrap Go.IntKind.i64 (Int.tdiv (↑(Prod.fst b) : Int) (10 : Int)))),
                                  Sx.SV.lit
                                    (Go.Value.string
                                      (Sx.bsOf [Go.IntKind.wrap Go.IntKind.u8 (Go.IntKind.wrap Go.IntKind.i64 ((48 : Int) + Int.tmod (↑(Prod.fst b) : Int) (10 : Int)))] ++ Prod.snd b))],
                                ([] : List Sx.SO)) =
                              ([Sx.SV.lit (Go.Value.int Go.IntKind.i64 (↑(Prod.fst x') : Int)), Sx.SV.lit (Go.Value.string (Prod.snd x'))], ([] : List Sx.SO)) ∧
                            (Prod.fst x' ≤ n ∧ ByteArray.size (Prod.snd x') ≤ n + (1 : Nat) - Prod.fst x' ∧ T13.digL (Prod.fst x') (Sx.strInts (Prod.snd x')) = T13.dig n) ∧
                              (Prod.fst x' * (2 : Nat) + if ByteArray.size (Prod.snd x') = (0 : Nat) then (1 : Nat) else (0 : Nat)) <
                                Prod.fst b * (2 : Nat) + if ByteArray.size (Prod.snd b) = (0 : Nat) then (1 : Nat) else (0 : Nat)) ∧
                        True)
              (Sx.br (Prod.snd b == { data := #[] })
                (((10 : Int) = (0 : Int) → False) ∧
                  (1 : Nat) ≤ (1 : Nat) ∧
                    (↑(ByteArray.size (Sx.bsOf [Go.IntKind.wrap Go.IntKind.u8 (Go.IntKind.wrap Go.IntKind.i64 ((48 : Int) + Int.tmod (↑(Prod.fst b) : Int) (10 : Int)))]) +
                              ByteArray.size (Prod.snd b)) :
                          Int) ≤
                        (9223372036854775807 : Int) ∧
                      ((10 : Int) = (0 : Int) → False) ∧
                        (∃ (x' : Nat × ByteArray),
                            ([Sx.SV.lit (Go.Value.int Go.IntKind.i64 (Go.IntKind.wrap Go.IntKind.i64 (Int.tdiv (↑(Prod.fst b) : Int) (10 : Int)))),
                                    Sx.SV.lit
                                      (Go.Value.string
                                        (Sx.bsOf [Go.IntKind.wrap Go.IntKind.u8 (Go.IntKind.wrap Go.IntKind.i64 ((48 : Int) + Int.tmod (↑(Prod.fst b) : Int) (10 : Int)))] ++
                                          Prod.snd b))],
                                  ([] : List Sx.SO)) =
                                ([Sx.SV.lit (Go.Value.int Go.IntKind.i64 (↑(Prod.fst x') : Int)), Sx.SV.lit (Go.Value.string (Prod.snd x'))], ([] : List Sx.SO)) ∧
                              (Prod.fst x' ≤ n ∧ ByteArray.size (Prod.snd x') ≤ n + (1 : Nat) - Prod.fst x' ∧ T13.digL (Prod.fst x') (Sx.strInts (Prod.snd x')) = T13.dig n) ∧
                                (Prod.fst x' * (2 : Nat) + if ByteArray.size (Prod.snd x') = (0 : Nat) then (1 : Nat) else (0 : Nat)) <
                                  Prod.fst b * (2 : Nat) + if ByteArray.size (Prod.snd b) = (0 : Nat) then (1 : Nat) else (0 : Nat)) ∧
                          True)
                (Q (Sx.SV.lit (Go.Value.string (Prod.snd b)), ([] : List Sx.SO), [])))) (by kernel_rfl) ?_
  have e1 : strInts ({ data := #[] } : ByteArray) = [] := rfl
  have round : ∀ (x : Nat × ByteArray), (x.1 ≠ 0 ∨ strInts x.2 = []) → x.1 ≤ n ∧ x.2.size ≤ n + 1 - x.1 ∧ digL x.1 (strInts x.2) = dig n →
      ((10 : Int) = 0 → False) ∧ 1 ≤ 1 ∧ (((bsOf [IntKind.u8.wrap (IntKind.i64.wrap (48 + (x.1 : Int).tmod 10))]).size + x.2.size : Nat) : Int) ≤ 9223372036854775807 ∧ ((10 : Int) = 0 → False) ∧
      (∃ x' : Nat × ByteArray, ([SV.lit (Value.int IntKind.i64 (IntKind.i64.wrap ((x.1 : Int).tdiv 10))), SV.lit (Value.string (bsOf [IntKind.u8.wrap (IntKind.i64.wrap (48 + (x.1 : Int).tmod 10))] ++ x.2))], ([] : List SO)) = ([SV.lit (Value.int IntKind.i64 (x'.1 : Int)), SV.lit (Value.string x'.2)], []) ∧
        (x'.1 ≤ n ∧ x'.2.size ≤ n + 1 - x'.1 ∧ digL x'.1 (strInts x'.2) = dig n) ∧ (x'.1 * 2 + if x'.2.size = 0 then 1 else 0) < x.1 * 2 + if x.2.size = 0 then 1 else 0) ∧ True := fun x h0 hx => by
    have hsx := strInts_size x.2
    have ed : IntKind.u8.wrap (IntKind.i64.wrap (48 + (x.1 : Int).tmod 10)) = 48 + ((x.1 % 10 : Nat) : Int) := by
      rw [Int.tmod_eq_emod_of_nonneg (by omega), IntKind.wrap_i64, IntKind.wrap_u8]; omega
    have ev : IntKind.i64.wrap ((x.1 : Int).tdiv 10) = ((x.1 / 10 : Nat) : Int) := by
      rw [Int.tdiv_eq_ediv_of_nonneg (by omega), IntKind.wrap_i64]; omega
    have eb : ∀ y ∈ [48 + ((x.1 % 10 : Nat) : Int)], Byte y := fun y hy => by simp at hy; subst hy; exact ⟨by omega, by omega⟩
    have es : (bsOf [48 + ((x.1 % 10 : Nat) : Int)] ++ x.2).size = 1 + x.2.size := by
      rw [← strInts_size, strInts_append, strInts_bsOf eb, List.length_append, strInts_size]; rfl
    have e0 : x.1 = 0 → x.2.size = 0 := fun e => by
      rcases h0 with h | h
      · exact absurd e h
      · rw [← hsx, h]; rfl
    rw [ed, ev]
    have e2 : (bsOf [48 + ((x.1 % 10 : Nat) : Int)]).size = 1 := by rw [bsOf_size]; rfl
    refine ⟨by omega, by omega, by omega, by omega, ⟨(x.1 / 10, bsOf [48 + ((x.1 % 10 : Nat) : Int)] ++ x.2), rfl, ⟨by dsimp only; omega, ?_, ?_⟩, ?_⟩, trivial⟩
    · dsimp only
      rw [es]
      by_cases hz : x.1 = 0
      · have := e0 hz; omega
      · omega
    · dsimp only
      rw [strInts_append, strInts_bsOf eb, List.cons_append, List.nil_append, ← digL_step _ _ h0]
      exact hx.2.2
    · dsimp only
      rw [es]
      by_cases hz : x.1 = 0
      · have := e0 hz
        rw [if_neg (by omega), if_pos this]; omega
      · rw [if_neg (by omega)]
        split <;> omega
  refine ⟨⟨(n, { data := #[] }), rfl, by omega, by show 0 ≤ _; omega, ?_⟩, fun x hx => br_intro (fun hlt => ?_) (fun hge => br_intro (fun g => ?_) (fun g => ?_))⟩
  · unfold digL
    rw [if_neg (fun e => e.2 rfl), e1, List.append_nil]
  · have hlt := of_decide_eq_true hlt
    exact round x (.inl (by omega)) hx
  · have g := (bytes_beq _ _).1 g
    exact round x (.inr (by rw [g]; rfl)) hx
  · have hge := of_decide_eq_false hge
    have hne : strInts x.2 ≠ [] := fun e => by
      have e2 : x.2 = { data := #[] } := by rw [← bsOf_strInts x.2, e]; rfl
      rw [e2] at g
      exact absurd g (by rw [bytes_self]; decide)
    have hd := hx.2.2
    unfold digL at hd
    rw [if_pos ⟨by omega, hne⟩] at hd
    rw [← hd, bsOf_strInts] at hq
    exact hq
noncomputable def s11 : Summ := fun args H => match args, H with
  | [.lit (.int .i64 n)], [] => .need (0 ≤ n ∧ n ≤ 100000) (.ret (.lit (.string (bsOf (dig n.toNat))), [], []))
  | _, _ => .fail
theorem s11_ok : SummOK Try.prog 11 s11 := by
  refine summ_of_body (fn := Try.f11) (c := Try.f11.body.get!) V3_ok (by kernel_rfl) (by kernel_rfl) (by kernel_rfl) fun args H Q h => ?_
  unfold s11 at h
  split at h
  · rename_i n
    simp only [Tree.Leads] at h
    obtain ⟨⟨h1, h2⟩, hq⟩ := h
    obtain ⟨m, rfl⟩ : ∃ m : Nat, n = m := ⟨n.toNat, by omega⟩
    exact ⟨_, v11 m Q (by omega) hq⟩
  · simp only [Tree.Leads] at h
noncomputable def V4 : Table := V3.add 11 (.go s11)
theorem V4_ok : TableOK Try.prog V4 := add_ok V3_ok s11_ok
end T13
