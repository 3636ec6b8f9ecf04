/- Part of a proof: the walk of the functions that the law calls. -/
import Derived.Test.YtlcobcpgaoeijaaSxT
import Derived.Test.YtlcobcpgaoeijaaXT13t1
import Derived.Test.YtlcobcpgaoeijaaXT13t2
open Go Sx Go.Proofs T12
namespace T13
set_option maxRecDepth 100000
set_option maxHeartbeats 4000000
attribute [local irreducible] Tree.Leads
set_option linter.unusedVariables false
theorem sStep_of {T : Table} (hT : TableOK Try.prog T) {P : Int → Prop} (hv : ∀ (st : Int) (h : ByteArray) (it : List Int) (wr fi : Bool) (mk : Int) (nu : List Int) (fu : Bool) (tx : List Int) (ac : List aty.den) (b : Int) (Q : SV × Heap × List Nat → Prop), P st → Byte b → ac.length ≤ 900000 → PS.OK ⟨st, strInts h, it, wr, fi, mk, nu, fu, tx⟩ → Goes ⟨st, strInts h, it, wr, fi, mk, nu, fu, tx⟩ ac b Q → (bodySumm T Try.prog Try.f22 N22 [.ptr 0 0, .lit (.int .u8 b)] (pheap st h it wr fi mk nu fu tx ac)).Leads Q) : SummOK Try.prog 22 (sStep P) := by
  refine sStep_ok (summ_of_body (fn := Try.f22) (c := Try.f22.body.get!) hT (by kernel_rfl) (by kernel_rfl) (by kernel_rfl) fun args H Q hl => ?_)
  unfold sStepM at hl
  split at hl
  case h_2 => simp only [Tree.Leads] at hl
  rename_i b cs it nu tx ac
  split at hl
  case h_2 => simp only [Tree.Leads] at hl
  rename_i st h ni wr fi mk nn fu nt no hcs
  simp only [Tree.Leads] at hl
  obtain ⟨⟨hw, he, hf⟩, hq⟩ := hl
  subst he
  exact ⟨N22, hv st h it wr fi mk nu fu tx ac b Q hw hf.byte hf.few hf.ok (goes_of hq)⟩
theorem e0_of {h : ByteArray} (e : strInts h = []) : h = e0 := by rw [← bsOf_strInts h, e]; rfl
theorem s22a_ok : SummOK Try.prog 22 (sStep (fun st => st = 3 ∨ st = 4)) := sStep_of U1_ok fun st h it wr fi mk nu fu tx ac b Q hp hb hac hok hq => by
  have hh := e0_of (hok.idle (by rcases hp with rfl | rfl <;> simp))
  subst hh
  rcases hp with rfl | rfl
  · exact v22_3 it wr fi mk nu fu tx ac b Q hb hac hok hq
  · exact v22_4 it wr fi mk nu fu tx ac b Q hb hac hok hq
theorem s22b_ok : SummOK Try.prog 22 (sStep (fun st => st = 1 ∨ st = 2)) := sStep_of U3_ok fun st h it wr fi mk nu fu tx ac b Q hp hb hac hok hq => by
  have hh := e0_of (hok.idle (by rcases hp with rfl | rfl <;> simp))
  subst hh
  rcases hp with rfl | rfl
  · exact v22_1 it wr fi mk nu fu tx ac b Q hb hac hok hq
  · exact v22_2 it wr fi mk nu fu tx ac b Q hb hac hok hq
theorem sStep_or {P P1 P2 : Int → Prop} (h1 : SummOK Try.prog 22 (sStep P1)) (h2 : SummOK Try.prog 22 (sStep P2)) (h : ∀ st, 0 ≤ st ∧ st ≤ 4 → P st → P1 st ∨ P2 st) : SummOK Try.prog 22 (sStep P) := by
  refine summ_or h1 h2 fun args H Q hl => ?_
  unfold sStep at hl
  split at hl
  case h_2 => simp only [Tree.Leads] at hl
  rename_i b cs it nu tx ac
  split at hl
  case h_2 => simp only [Tree.Leads] at hl
  rename_i st h' ni wr fi mk nn fu nt no hcs
  simp only [Tree.Leads] at hl
  obtain ⟨⟨hw, he, hf⟩, hq⟩ := hl
  rcases h st hf.ok.st hw with hp | hp
  · left
    simp only [sStep, hcs, Tree.Leads]
    exact ⟨⟨hp, he, hf⟩, hq⟩
  · right
    simp only [sStep, hcs, Tree.Leads]
    exact ⟨⟨hp, he, hf⟩, hq⟩
/-- STEP, WHOLE. -/
theorem s22_ok : SummOK Try.prog 22 (sStep (fun _ => True)) :=
  sStep_or (P1 := fun st => st = 0 ∨ st = 1 ∨ st = 2) (sStep_or s22g_ok s22b_ok fun st hst hp => by rcases hp with h | h | h <;> simp [h]) s22a_ok fun st hst _ => by omega
noncomputable def U4 : Table := T10.add 22 (.go (sStep (fun _ => True)))
theorem U4_ok : TableOK Try.prog U4 := add_ok T10_ok s22_ok
end T13
