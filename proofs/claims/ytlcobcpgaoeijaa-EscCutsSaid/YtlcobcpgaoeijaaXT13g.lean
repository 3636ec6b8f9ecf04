/- Part of a proof: the walk of the functions that the law calls. -/
import Derived.Test.YtlcobcpgaoeijaaSxT
import Derived.Test.YtlcobcpgaoeijaaXT13f
import Derived.Test.YtlcobcpgaoeijaaXPL
open Go Sx Go.Proofs T12
namespace T13
set_option maxRecDepth 100000
set_option maxHeartbeats 4000000
attribute [local irreducible] Tree.Leads
set_option linter.unusedVariables false
noncomputable def A13 (L : Nat) : Ann := { live := [0, 1, 5], mv := [], head := fun vals H => match vals with | [a, b, _] => { X := Nat, inv := fun i => ([a, b, .lit (.int .i64 i)], H), ok := fun i => i ≤ L, mu := fun i => L - i } | _ => { X := Nat, inv := fun _ => ([], []), ok := fun _ => False, mu := fun _ => 0 } }
theorem v13i (A : List Int) (Q : SV × Heap × List Nat → Prop) (hm2 : A.length ≤ 1000000) (hq : Q (.lit (.bool true), [], [])) : (bodySumm T10 Try.prog Try.f13 (An1 0 (A13 A.length)) [.imm (.int .i64) A, .imm (.int .i64) A] []).Leads Q := by
  refine Sx.by_text (q :=
      Sx.br ((↑(List.length A) : Int) != (↑(List.length A) : Int)) (Q (Sx.SV.lit (Go.Value.bool Bool.false), ([] : List Sx.SO), []))
        ((∃ (x : Nat),
            ([Sx.SV.imm (Sx.Ty.int Go.IntKind.i64) A, Sx.SV.imm (Sx.Ty.int Go.IntKind.i64) A, Sx.SV.lit (Go.Value.int Go.IntKind.i64 (0 : Int))], ([] : List Sx.SO)) =
                ([Sx.SV.imm (Sx.Ty.int Go.IntKind.i64) A, Sx.SV.imm (Sx.Ty.int Go.IntKind.i64) A, Sx.SV.lit (Go.Value.int Go.IntKind.i64 (↑x : Int))], ([] : List Sx.SO)) ∧
              x ≤ List.length A) ∧
          ∀ (b : Nat),
            b ≤ List.length A →
              Sx.br (Decidable.decide ((↑b : Int) < (↑(List.length A) : Int)))
                (((0 : Int) ≤ (↑b : Int) ∧ (↑b : Int) < (↑(List.length A) : Int)) ∧
                  b < List.length A ∧
                    ((0 : Int) ≤ (↑b : Int) ∧ (↑b : Int) < (↑(List.length A) : Int)) ∧
                      b < List.length A ∧
                        Sx.br (!List.getD A b (Sx.Ty.dflt (Sx.Ty.int Go.IntKind.i64)) == List.getD A b (Sx.Ty.dflt (Sx.Ty.int Go.IntKind.i64)))
                          (Q (Sx.SV.lit (Go.Value.bool Bool.false), ([] : List Sx.SO), []))
                          ((∃ (x' : Nat),
                              ([Sx.SV.imm (Sx.Ty.int Go.IntKind.i64) A, Sx.SV.imm (Sx.Ty.int Go.IntKind.i64) A,
                                      Sx.SV.lit (Go.Value.int Go.IntKind.i64 (Go.IntKind.wrap Go.IntKind.i64 ((↑b : Int) + (1 : Int))))],
                                    ([] : List Sx.SO)) =
                                  ([Sx.SV.imm (Sx.Ty.int Go.IntKind.i64) A, Sx.SV.imm (Sx.Ty.int Go.IntKind.i64) A, Sx.SV.lit (Go.Value.int Go.IntKind.i64 (↑x' : Int))], ([] : List Sx.SO)) ∧
                                x' ≤ List.length A ∧ List.length A - x' < List.length A - b) ∧
                            True))
                (Q (Sx.SV.lit (Go.Value.bool Bool.true), ([] : List Sx.SO), [])))) (by kernel_rfl) ?_
  refine br_intro (fun h => by simp at h) (fun h => ⟨⟨0, rfl, by omega⟩, fun i hi => br_intro (fun hlt => ?_) (fun hge => hq)⟩)
  have hlt := of_decide_eq_true hlt
  refine ⟨by omega, by omega, by omega, by omega, br_intro (fun g => by simp at g) (fun g => ⟨⟨i + 1, ?_, by omega, by omega⟩, trivial⟩)⟩
  rw [wrap1 i (by omega)]
theorem v13s (A B : List Int) (n : Nat) (Q : SV × Heap × List Nat → Prop) (hm2 : A.length ≤ 1000000) (hn : n = A.length) (hn2 : n ≤ B.length) (he : B.take n = A) (hq : Q (.lit (.bool true), [.row 3 (.int .i64) B], [])) : (bodySumm T10 Try.prog Try.f13 (An1 0 (A13 A.length)) [.imm (.int .i64) A, .sl 0 1 0 n] [.row 3 (.int .i64) B]).Leads Q := by
  refine Sx.by_text (q :=
      Sx.br ((↑(List.length A) : Int) != (↑n : Int)) (Q (Sx.SV.lit (Go.Value.bool Bool.false), [Sx.SO.row (3 : Nat) (Sx.Ty.int Go.IntKind.i64) B], []))
        ((∃ (x : Nat),
            ([Sx.SV.imm (Sx.Ty.int Go.IntKind.i64) A, Sx.SV.sl (0 : Nat) (1 : Nat) (0 : Nat) n, Sx.SV.lit (Go.Value.int Go.IntKind.i64 (0 : Int))],
                  [Sx.SO.row (3 : Nat) (Sx.Ty.int Go.IntKind.i64) B]) =
                ([Sx.SV.imm (Sx.Ty.int Go.IntKind.i64) A, Sx.SV.sl (0 : Nat) (1 : Nat) (0 : Nat) n, Sx.SV.lit (Go.Value.int Go.IntKind.i64 (↑x : Int))],
                  [Sx.SO.row (3 : Nat) (Sx.Ty.int Go.IntKind.i64) B]) ∧
              x ≤ List.length A) ∧
          ∀ (b : Nat),
            b ≤ List.length A →
              Sx.br (Decidable.decide ((↑b : Int) < (↑(List.length A) : Int)))
                (((0 : Int) ≤ (↑b : Int) ∧ (↑b : Int) < (↑(List.length A) : Int)) ∧
                  b < List.length A ∧
                    ((0 : Int) ≤ (↑b : Int) ∧ (↑b : Int) < (↑n : Int)) ∧
                      (0 : Nat) + b < List.length B ∧
                        Sx.br (!List.getD A b (Sx.Ty.dflt (Sx.Ty.int Go.IntKind.i64)) == List.getD B ((0 : Nat) + b) (Sx.Ty.dflt (Sx.Ty.int Go.IntKind.i64)))
                          (Q (Sx.SV.lit (Go.Value.bool Bool.false), [Sx.SO.row (3 : Nat) (Sx.Ty.int Go.IntKind.i64) B], []))
                          ((∃ (x' : Nat),
                              ([Sx.SV.imm (Sx.Ty.int Go.IntKind.i64) A, Sx.SV.sl (0 : Nat) (1 : Nat) (0 : Nat) n,
                                      Sx.SV.lit (Go.Value.int Go.IntKind.i64 (Go.IntKind.wrap Go.IntKind.i64 ((↑b : Int) + (1 : Int))))],
                                    [Sx.SO.row (3 : Nat) (Sx.Ty.int Go.IntKind.i64) B]) =
                                  ([Sx.SV.imm (Sx.Ty.int Go.IntKind.i64) A, Sx.SV.sl (0 : Nat) (1 : Nat) (0 : Nat) n, Sx.SV.lit (Go.Value.int Go.IntKind.i64 (↑x' : Int))],
                                    [Sx.SO.row (3 : Nat) (Sx.Ty.int Go.IntKind.i64) B]) ∧
                                x' ≤ List.length A ∧ List.length A - x' < List.length A - b) ∧
                            True))
                (Q (Sx.SV.lit (Go.Value.bool Bool.true), [Sx.SO.row (3 : Nat) (Sx.Ty.int Go.IntKind.i64) B], [])))) (by kernel_rfl) ?_
  subst hn
  refine br_intro (fun h => by simp at h) (fun h => ⟨⟨0, rfl, by omega⟩, fun i hi => br_intro (fun hlt => ?_) (fun hge => hq)⟩)
  have hlt := of_decide_eq_true hlt
  have e : A.getD i (Ty.int .i64).dflt = B.getD (0 + i) (Ty.int .i64).dflt := by
    rw [PL.getD_part B 0 A.length i _ (by omega), List.drop_zero, he]
  rw [← e]
  refine ⟨by omega, by omega, by omega, by omega, br_intro (fun g => by simp at g) (fun g => ⟨⟨i + 1, ?_, by omega, by omega⟩, trivial⟩)⟩
  rw [wrap1 i (by omega)]
theorem v13n (Q : SV × Heap × List Nat → Prop) (hq : Q (.lit (.bool true), [], [])) : (bodySumm T10 Try.prog Try.f13 noAn [.imm (.int .i64) [], .lit (.slice none 0 0)] []).Leads Q := by
  refine Sx.by_text (q :=
      Q (Sx.SV.lit (Go.Value.bool Bool.true), ([] : List Sx.SO), [])) (by kernel_rfl) ?_
  exact hq
noncomputable def s13 : Summ := fun args H => match args, H with
  | [.imm (.int .i64) A, .imm (.int .i64) B], [] => .need (A = B ∧ A.length ≤ 1000000) (.ret (.lit (.bool true), [], []))
  | [.imm (.int .i64) A, .lit (.slice none 0 0)], [] => .need (A = []) (.ret (.lit (.bool true), [], []))
  | [.imm (.int .i64) A, .sl 0 1 0 n], [.row 3 (.int .i64) B] => .need (n = A.length ∧ n ≤ B.length ∧ B.take n = A ∧ A.length ≤ 1000000) (.ret (.lit (.bool true), [.row 3 (.int .i64) B], []))
  | _, _ => .fail
theorem s13_ok : SummOK Try.prog 13 s13 := by
  refine summ_of_body (fn := Try.f13) (c := Try.f13.body.get!) T10_ok (by kernel_rfl) (by kernel_rfl) (by kernel_rfl) fun args H Q h => ?_
  unfold s13 at h
  split at h
  · simp only [Tree.Leads] at h
    obtain ⟨⟨rfl, h3⟩, hq⟩ := h
    exact ⟨_, v13i _ Q h3 hq⟩
  · simp only [Tree.Leads] at h
    obtain ⟨rfl, hq⟩ := h
    exact ⟨_, v13n Q hq⟩
  · simp only [Tree.Leads] at h
    obtain ⟨⟨h1, h2, h3, h4⟩, hq⟩ := h
    exact ⟨_, v13s _ _ _ Q h4 h1 h2 h3 hq⟩
  · simp only [Tree.Leads] at h
noncomputable def V0 : Table := ((((U5.add 12 (.go s12)).add 13 (.go s13)).add 14 (.call (inlSumm U5 Try.prog Try.f14))).add 19 (.call (inlSumm U5 Try.prog Try.f19)))
theorem V0_ok : TableOK Try.prog V0 := add_ok (add_ok (add_ok (add_ok U5_ok s12_ok) s13_ok) (inlSumm_sound (c := Try.f14.body.get!) U5_ok (by kernel_rfl) (by kernel_rfl) (by kernel_rfl))) (inlSumm_sound (c := Try.f19.body.get!) U5_ok (by kernel_rfl) (by kernel_rfl) (by kernel_rfl))
/-- Acts with few numbers. -/
def Few (A : List aty.den) : Prop := ∀ x ∈ A, x.2.2.2.2.1.length ≤ 1000000
theorem v17 (A : List aty.den) (Q : SV × Heap × List Nat → Prop) (hm2 : A.length ≤ 1000000) (hf : Few A) (hq : Q (.lit (.bool true), [.row 50 aty A, .row 50 aty A], [])) : (bodySumm V0 Try.prog Try.f17 (An1 0 (A13 A.length)) [.sl 0 7 0 A.length, .sl 1 7 0 A.length] [.row 50 aty A, .row 50 aty A]).Leads Q := by
  refine Sx.by_text (q :=
      Sx.br ((↑(List.length A) : Int) != (↑(List.length A) : Int)) (Q (Sx.SV.lit (Go.Value.bool Bool.false), [Sx.SO.row (50 : Nat) T13.aty A, Sx.SO.row (50 : Nat) T13.aty A], []))
        ((∃ (x : Nat),
            ([Sx.SV.sl (0 : Nat) (7 : Nat) (0 : Nat) (List.length A), Sx.SV.sl (1 : Nat) (7 : Nat) (0 : Nat) (List.length A), Sx.SV.lit (Go.Value.int Go.IntKind.i64 (0 : Int))],
                  [Sx.SO.row (50 : Nat) T13.aty A, Sx.SO.row (50 : Nat) T13.aty A]) =
                ([Sx.SV.sl (0 : Nat) (7 : Nat) (0 : Nat) (List.length A), Sx.SV.sl (1 : Nat) (7 : Nat) (0 : Nat) (List.length A), Sx.SV.lit (Go.Value.int Go.IntKind.i64 (↑x : Int))],
                  [Sx.SO.row (50 : Nat) T13.aty A, Sx.SO.row (50 : Nat) T13.aty A]) ∧
              x ≤ List.length A) ∧
          ∀ (b : Nat),
            b ≤ List.length A →
              Sx.br (Decidable.decide ((↑b : Int) < (↑(List.length A) : Int)))
                (((0 : Int) ≤ (↑b : Int) ∧ (↑b : Int) < (↑(List.length A) : Int)) ∧
                  (0 : Nat) + b < List.length A ∧
                    ((0 : Int) ≤ (↑b : Int) ∧ (↑b : Int) < (↑(List.length A) : Int)) ∧
                      (0 : Nat) + b < List.length A ∧
                        Sx.br (Prod.fst (List.getD A ((0 : Nat) + b) (Sx.Ty.dflt T13.aty)) == Prod.fst (List.getD A ((0 : Nat) + b) (Sx.Ty.dflt T13.aty)))
                          (((0 : Int) ≤ (↑b : Int) ∧ (↑b : Int) < (↑(List.length A) : Int)) ∧
                            (0 : Nat) + b < List.length A ∧
                              ((0 : Int) ≤ (↑b : Int) ∧ (↑b : Int) < (↑(List.length A) : Int)) ∧
                                (0 : Nat) + b < List.length A ∧
                                  Sx.br (Prod.fst (Prod.snd (List.getD A ((0 : Nat) + b) (Sx.Ty.dflt T13.aty))) == Prod.fst (Prod.snd (List.getD A ((0 : Nat) + b) (Sx.Ty.dflt T13.aty))))
                                    (((0 : Int) ≤ (↑b : Int) ∧ (↑b : Int) < (↑(List.length A) : Int)) ∧
                                      (0 : Nat) + b < List.length A ∧
                                        ((0 : Int) ≤ (↑b : Int) ∧ (↑b : Int) < (↑(List.length A) : Int)) ∧
                                          (0 : Nat) + b < List.length A ∧
                                            Sx.br
                                              (Prod.fst (Prod.snd (Prod.snd (List.getD A ((0 : Nat) + b) (Sx.Ty.dflt T13.aty)))) ==
                                                Prod.fst (Prod.snd (Prod.snd (List.getD A ((0 : Nat) + b) (Sx.Ty.dflt T13.aty)))))
                                              (((0 : Int) ≤ (↑b : Int) ∧ (↑b : Int) < (↑(List.length A) : Int)) ∧
                                                (0 : Nat) + b < List.length A ∧
                                                  ((0 : Int) ≤ (↑b : Int) ∧ (↑b : Int) < (↑(List.length A) : Int)) ∧
                                                    (0 : Nat) + b < List.length A ∧
                                                      Sx.br
                                                        (Prod.fst (Prod.snd (Prod.snd (Prod.snd (List.getD A ((0 : Nat) + b) (Sx.Ty.dflt T13.aty))))) ==
                                                          Prod.fst (Prod.snd (Prod.snd (Prod.snd (List.getD A ((0 : Nat) + b) (Sx.Ty.dflt T13.aty))))))
                                                        (((0 : Int) ≤ (↑b : Int) ∧ (↑b : Int) < (↑(List.length A) : Int)) ∧
                                                          (0 : Nat) + b < List.length A ∧
                                                            ((0 : Int) ≤ (↑b : Int) ∧ (↑b : Int) < (↑(List.length A) : Int)) ∧
                                                              (0 : Nat) + b < List.length A ∧
                                                                Sx.br
                                                                  (Prod.fst (Prod.snd (Prod.snd (Prod.snd (Prod.snd (Prod.snd (List.getD A ((0 : Nat) + b) (Sx.Ty.dflt T13.aty))))))) ==
                                                                    Prod.fst (Prod.snd (Prod.snd (Prod.snd (Prod.snd (Prod.snd (List.getD A ((0 : Nat) + b) (Sx.Ty.dflt T13.aty))))))))
                                                                  (((0 : Int) ≤ (↑b : Int) ∧ (↑b : Int) < (↑(List.length A) : Int)) ∧
                                                                    (0 : Nat) + b < List.length A ∧
                                                                      ((0 : Int) ≤ (↑b : Int) ∧ (↑b : Int) < (↑(List.length A) : Int)) ∧
                                                                        (0 : Nat) + b < List.length A ∧
                                                                          Sx.br
                                                                            (Prod.snd
                                                                                (Prod.snd
                                                                                  (Prod.snd (Prod.snd (Prod.snd (Prod.snd (List.getD A ((0 : Nat) + b) (Sx.Ty.dflt T13.aty))))))) ==
                                                                              Prod.snd
                                                                                (Prod.snd (Prod.snd (Prod.snd (Prod.snd (Prod.snd (List.getD A ((0 : Nat) + b) (Sx.Ty.dflt T13.aty))))))))
                                                                            (((0 : Int) ≤ (↑b : Int) ∧ (↑b : Int) < (↑(List.length A) : Int)) ∧
                                                                              (0 : Nat) + b < List.length A ∧
                                                                                ((0 : Int) ≤ (↑b : Int) ∧ (↑b : Int) < (↑(List.length A) : Int)) ∧
                                                                                  (0 : Nat) + b < List.length A ∧
                                                                                    (Prod.fst
                                                                                            (Prod.snd
                                                                                              (Prod.snd (Prod.snd (Prod.snd (List.getD A ((0 : Nat) + b) (Sx.Ty.dflt T13.aty)))))) =
                                                                                          Prod.fst
                                                                                            (Prod.snd
                                                                                              (Prod.snd (Prod.snd (Prod.snd (List.getD A ((0 : Nat) + b) (Sx.Ty.dflt T13.aty)))))) ∧
                                                                                        List.length
                                                                                            (Prod.fst
                                                                                              (Prod.snd
                                                                                                (Prod.snd (Prod.snd (Prod.snd (List.getD A ((0 : Nat) + b) (Sx.Ty.dflt T13.aty))))))) ≤
                                                                                          (1000000 : Nat)) ∧
                                                                                      (∃ (x' : Nat),
                                                                                          ([Sx.SV.sl (0 : Nat) (7 : Nat) (0 : Nat) (List.length A),
                                                                                                  Sx.SV.sl (1 : Nat) (7 : Nat) (0 : Nat) (List.length A),
                                                                                                  Sx.SV.lit
                                                                                                    (Go.Value.int Go.IntKind.i64
                                                                                                      (Go.IntKind.wrap Go.IntKind.i64 ((↑b : Int) + (1 : Int))))],
                                                                                                [Sx.SO.row (50 : Nat) T13.aty A, Sx.SO.row (50 : Nat) T13.aty A]) =
                                                                                              ([Sx.SV.sl (0 : Nat) (7 : Nat) (0 : Nat) (List.length A),
                                                                                                  Sx.SV.sl (1 : Nat) (7 : Nat) (0 : Nat) (List.length A),
                                                                                                  Sx.SV.lit (Go.Value.int Go.IntKind.i64 (↑x' : Int))],
                                                                                                [Sx.SO.row (50 : Nat) T13.aty A, Sx.SO.row (50 : Nat) T13.aty A]) ∧
                                                                                            x' ≤ List.length A ∧ List.length A - x' < List.length A - b) ∧
                                                                                        True)
                                                                            (Q
                                                                              (Sx.SV.lit (Go.Value.bool Bool.false), [Sx.SO.row (50 : Nat) T13.aty A, Sx.SO.row (50 : Nat) T13.aty A],
                                                                                [])))
                                                                  (Q (Sx.SV.lit (Go.Value.bool Bool.false), [Sx.SO.row (50 : Nat) T13.aty A, Sx.SO.row (50 : Nat) T13.aty A], [])))
                                                        (Q (Sx.SV.lit (Go.Value.bool Bool.false), [Sx.SO.row (50 : Nat) T13.aty A, Sx.SO.row (50 : Nat) T13.aty A], [])))
                                              (Q (Sx.SV.lit (Go.Value.bool Bool.false), [Sx.SO.row (50 : Nat) T13.aty A, Sx.SO.row (50 : Nat) T13.aty A], [])))
                                    (Q (Sx.SV.lit (Go.Value.bool Bool.false), [Sx.SO.row (50 : Nat) T13.aty A, Sx.SO.row (50 : Nat) T13.aty A], [])))
                          (Q (Sx.SV.lit (Go.Value.bool Bool.false), [Sx.SO.row (50 : Nat) T13.aty A, Sx.SO.row (50 : Nat) T13.aty A], [])))
                (Q (Sx.SV.lit (Go.Value.bool Bool.true), [Sx.SO.row (50 : Nat) T13.aty A, Sx.SO.row (50 : Nat) T13.aty A], [])))) (by kernel_rfl) ?_
  refine br_intro (fun h => by simp at h) (fun h => ⟨⟨0, rfl, by omega⟩, fun i hi => br_intro (fun hlt => ?_) (fun hge => hq)⟩)
  have hlt := of_decide_eq_true hlt
  have hmem : A.getD (0 + i) aty.dflt ∈ A := by
    rw [Nat.zero_add, List.getD_eq_getElem?_getD, List.getElem?_eq_getElem (by omega)]; exact List.getElem_mem _
  have hfi := hf _ hmem
  generalize A.getD (0 + i) aty.dflt = x at *
  have key : ∀ {c : Bool} {p q : Prop}, c = true → p → ((0 ≤ (i : Int) ∧ (i : Int) < (A.length : Int)) ∧ 0 + i < A.length ∧ (0 ≤ (i : Int) ∧ (i : Int) < (A.length : Int)) ∧ 0 + i < A.length ∧ br c p q) := fun hc hp => ⟨by omega, by omega, by omega, by omega, by rw [hc]; exact hp⟩
  refine key (by simp) (key (by simp) (key (by simp) (key (by simp) (key (bytes_self _) (key (bytes_self _) ⟨by omega, by omega, by omega, by omega, ⟨rfl, hfi⟩, ⟨i + 1, ?_, by omega, by omega⟩, trivial⟩)))))
  rw [wrap1 i (by omega)]
theorem v17n (B : List aty.den) (Q : SV × Heap × List Nat → Prop) (hB : B.length = 0) (hq : Q (.lit (.bool true), [.row 50 aty B], [])) : (bodySumm V0 Try.prog Try.f17 noAn [.lit (.slice none 0 0), .sl 0 7 0 0] [.row 50 aty B]).Leads Q := by
  refine Sx.by_text (q :=
      Q (Sx.SV.lit (Go.Value.bool Bool.true), [Sx.SO.row (50 : Nat) T13.aty B], [])) (by kernel_rfl) ?_
  exact hq
/-- Lists of acts that are alike. -/
structure Alike (A B : List aty.den) : Prop where
  eq : A = B
  few : A.length ≤ 1000000
  nums : Few A
noncomputable def s17 : Summ := fun args H => match args, H with
  | [.lit (.slice none 0 0), .sl 0 7 0 n], [.row 50 (.pair (.int .i64) (.pair (.int .i32) (.pair (.int .i64) (.pair (.int .i64) (.pair (.imm (.int .i64)) (.pair .str .str)))))) B] => .need (n = 0 ∧ B.length = 0) (.ret (.lit (.bool true), [.row 50 aty B], []))
  | [.sl 0 7 0 m, .sl 1 7 0 n], [.row 50 (.pair (.int .i64) (.pair (.int .i32) (.pair (.int .i64) (.pair (.int .i64) (.pair (.imm (.int .i64)) (.pair .str .str)))))) A, .row 50 (.pair (.int .i64) (.pair (.int .i32) (.pair (.int .i64) (.pair (.int .i64) (.pair (.imm (.int .i64)) (.pair .str .str)))))) B] => .need (m = A.length ∧ n = B.length ∧ Alike A B) (.ret (.lit (.bool true), [.row 50 aty A, .row 50 aty B], []))
  | _, _ => .fail
theorem s17_ok : SummOK Try.prog 17 s17 := by
  refine summ_of_body (fn := Try.f17) (c := Try.f17.body.get!) V0_ok (by kernel_rfl) (by kernel_rfl) (by kernel_rfl) fun args H Q h => ?_
  unfold s17 at h
  split at h
  · simp only [Tree.Leads] at h
    obtain ⟨⟨rfl, h1⟩, hq⟩ := h
    exact ⟨_, v17n _ Q h1 hq⟩
  · simp only [Tree.Leads] at h
    obtain ⟨⟨rfl, rfl, ⟨rfl, h4, h5⟩⟩, hq⟩ := h
    exact ⟨_, v17 _ Q h4 h5 hq⟩
  · simp only [Tree.Leads] at h
end T13
