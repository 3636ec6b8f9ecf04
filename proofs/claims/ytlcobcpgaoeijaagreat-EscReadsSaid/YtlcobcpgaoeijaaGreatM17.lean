/- Part of a proof: the walks of the functions that the law calls, and their plain laws; no condition. -/
import Derived.Test.YtlcobcpgaoeijaaGreatSxT
import Derived.Test.YtlcobcpgaoeijaaGreatM15
import Derived.Test.YtlcobcpgaoeijaaGreatM16
set_option linter.unusedVariables false
set_option linter.unusedSimpArgs false
open Go Sx Go.Proofs
namespace B13
open T13 (aty s13 s13_ok Few)
set_option maxRecDepth 100000
set_option maxHeartbeats 40000000
attribute [local irreducible] Tree.Leads
noncomputable abbrev zB13fi_0 (A : List aty.den) (u1 : Nat) := ((0 : Int) ≤ (↑u1 : Int) ∧ (↑u1 : Int) < (↑(List.length A) : Int))
noncomputable abbrev zB13fi_1 (A : List aty.den) (u1 : Nat) := (Prod.snd (Prod.snd (Prod.snd (List.getD A u1 (Ty.dflt T13.aty)))))
theorem same_i (A : List aty.den) (Q : SV × Heap × List Nat → Prop) (hm2 : A.length ≤ 1000000) (hf : Few A) (hq : Q (.lit (.bool true), [], [])) : (bodySumm G0 Tryz.prog Tryz.f9 (An1 0 (AG A.length)) [.imm aty A, .imm aty A] []).Leads Q := by
  refine Sx.by_text (q :=
   br ((↑(List.length A) : Int) != (↑(List.length A) : Int)) (Q (SV.lit (Value.bool false), ([] : List Sx.SO), [])) ((∃ (u0 : Nat), ([SV.imm T13.aty A, SV.imm T13.aty A,
   SV.lit (Value.int IntKind.i64 (0 : Int))], ([] : List Sx.SO)) = ([SV.imm T13.aty A, SV.imm T13.aty A, SV.lit (Value.int IntKind.i64 (↑u0 : Int))], ([] : List Sx.SO)) ∧ u0
   ≤ List.length A) ∧ ∀ (u1 : Nat), u1 ≤ List.length A → br (decide ((↑u1 : Int) < (↑(List.length A) : Int))) ((zB13fi_0 A u1) ∧ u1 < List.length A ∧ (zB13fi_0 A u1) ∧ u1 <
   List.length A ∧ br (Prod.fst (List.getD A u1 (Ty.dflt T13.aty)) == Prod.fst (List.getD A u1 (Ty.dflt T13.aty))) ((zB13fi_0 A u1) ∧ u1 < List.length A ∧ (zB13fi_0 A u1) ∧
   u1 < List.length A ∧ br (Prod.fst (Prod.snd (List.getD A u1 (Ty.dflt T13.aty))) == Prod.fst (Prod.snd (List.getD A u1 (Ty.dflt T13.aty)))) ((zB13fi_0 A u1) ∧ u1 <
   List.length A ∧ (zB13fi_0 A u1) ∧ u1 < List.length A ∧ br (Prod.fst (Prod.snd (Prod.snd (List.getD A u1 (Ty.dflt T13.aty)))) == Prod.fst (Prod.snd (Prod.snd (List.getD A
   u1 (Ty.dflt T13.aty))))) ((zB13fi_0 A u1) ∧ u1 < List.length A ∧ (zB13fi_0 A u1) ∧ u1 < List.length A ∧ br (Prod.fst (zB13fi_1 A u1) == Prod.fst (zB13fi_1 A u1))
   ((zB13fi_0 A u1) ∧ u1 < List.length A ∧ (zB13fi_0 A u1) ∧ u1 < List.length A ∧ br (Prod.fst (Prod.snd (Prod.snd (zB13fi_1 A u1))) == Prod.fst (Prod.snd (Prod.snd (zB13fi_1
   A u1)))) ((zB13fi_0 A u1) ∧ u1 < List.length A ∧ (zB13fi_0 A u1) ∧ u1 < List.length A ∧ br (Prod.snd (Prod.snd (Prod.snd (zB13fi_1 A u1))) == Prod.snd (Prod.snd (Prod.snd
   (zB13fi_1 A u1)))) ((zB13fi_0 A u1) ∧ u1 < List.length A ∧ (zB13fi_0 A u1) ∧ u1 < List.length A ∧ (Prod.fst (Prod.snd (zB13fi_1 A u1)) = Prod.fst (Prod.snd (zB13fi_1 A
   u1)) ∧ List.length (Prod.fst (Prod.snd (zB13fi_1 A u1))) ≤ 1000000) ∧ (∃ (u2 : Nat), ([SV.imm T13.aty A, SV.imm T13.aty A, SV.lit (Value.int IntKind.i64 (IntKind.wrap
   IntKind.i64 ((↑u1 : Int) + (1 : Int))))], ([] : List Sx.SO)) = ([SV.imm T13.aty A, SV.imm T13.aty A, SV.lit (Value.int IntKind.i64 (↑u2 : Int))], ([] : List Sx.SO)) ∧ u2 ≤
   List.length A ∧ List.length A - u2 < List.length A - u1) ∧ True) (Q (SV.lit (Value.bool false), ([] : List Sx.SO), []))) (Q (SV.lit (Value.bool false), ([] : List Sx.SO),
   []))) (Q (SV.lit (Value.bool false), ([] : List Sx.SO), []))) (Q (SV.lit (Value.bool false), ([] : List Sx.SO), []))) (Q (SV.lit (Value.bool false), ([] : List Sx.SO),
   []))) (Q (SV.lit (Value.bool false), ([] : List Sx.SO), []))) (Q (SV.lit (Value.bool true), ([] : List Sx.SO), [])))) (by kernel_rfl) ?_
  delta zB13fi_0 zB13fi_1
  skip
  refine br_intro (fun h => by simp at h) (fun h => ⟨⟨0, rfl, by omega⟩, fun i hi => br_intro (fun hlt => ?_) (fun hge => hq)⟩)
  have hlt := of_decide_eq_true hlt
  have hmem : A.getD i aty.dflt ∈ A := by
    rw [List.getD_eq_getElem?_getD, List.getElem?_eq_getElem (by omega)]; exact List.getElem_mem _
  have hfi := hf _ hmem
  generalize A.getD i aty.dflt = x at *
  have key : ∀ {c : Bool} {p q : Prop}, c = true → p → ((0 ≤ (i : Int) ∧ (i : Int) < (A.length : Int)) ∧ i < A.length ∧ (0 ≤ (i : Int) ∧ (i : Int) < (A.length : Int)) ∧ i < A.length ∧ br c p q) := fun hc hp => ⟨by omega, by omega, by omega, by omega, by rw [hc]; exact hp⟩
  refine key (by simp) (key (by simp) (key (by simp) (key (by simp) (key (bytes_self _) (key (bytes_self _) ⟨by omega, by omega, by omega, by omega, ⟨rfl, hfi⟩, ⟨i + 1, ?_, by omega, by omega⟩, trivial⟩)))))
  rw [wrap1 i (by omega)]
end B13

