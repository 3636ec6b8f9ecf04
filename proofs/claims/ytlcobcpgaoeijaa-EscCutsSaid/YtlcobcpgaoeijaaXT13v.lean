/- Part of a proof: the walk of the functions that the law calls. -/
import Derived.Test.YtlcobcpgaoeijaaSxT
import Derived.Test.YtlcobcpgaoeijaaXT13t0
import Derived.Test.YtlcobcpgaoeijaaXT13t3
import Derived.Test.YtlcobcpgaoeijaaXT13t4
open Go Sx Go.Proofs T12
namespace T13
set_option maxRecDepth 100000
set_option maxHeartbeats 4000000
attribute [local irreducible] Tree.Leads
set_option linter.unusedVariables false
/-- What a byte leads to. -/
structure StepOf (s : PS) (b : Int) (r : PS × List aty.den) : Prop where
  eq : r = pstep s b
structure Ready (s : PS) (b : Int) (n : Nat) : Prop where
  ok : s.OK
  byte : Byte b
  few : n ≤ 900000
noncomputable def sStepM (P : Int → Prop) : Summ := fun args H => match args, H with
  | [.ptr 0 0, .lit (.int .u8 b)], [.cells 47 cs, .row 5 (.int .u8) it, .row 3 (.int .i64) nu, .row 5 (.int .u8) tx, .row 50 (.pair (.int .i64) (.pair (.int .i32) (.pair (.int .i64) (.pair (.int .i64) (.pair (.imm (.int .i64)) (.pair .str .str)))))) ac] => match cs.drop 33 with
    | [.lit (.int .i64 st), .lit (.string h), .sl 1 1 0 ni, .lit (.bool wr), .lit (.bool fi), .lit (.int .i64 mk), .sl 2 1 0 nn, .lit (.bool fu), .sl 3 1 0 nt, .sl 4 7 0 no] =>
      .need (P st ∧ cs = pcells st h it.length wr fi mk nu.length fu tx.length ac.length ∧ Ready ⟨st, strInts h, it, wr, fi, mk, nu, fu, tx⟩ b ac.length)
        (.any (PS × List aty.den) (StepOf ⟨st, strInts h, it, wr, fi, mk, nu, fu, tx⟩ b) fun r => .any (List Nat) (fun mv => memN 0 mv = false) fun mv => .ret (.tup [], rheap r.1 (ac ++ r.2), mv))
    | _ => .fail
  | _, _ => .fail
noncomputable def sStep (P : Int → Prop) : Summ := fun args H => match args, H with
  | [.ptr 0 0, .lit (.int .u8 b)], [.cells 47 cs, .row 5 (.int .u8) it, .row 3 (.int .i64) nu, .row 5 (.int .u8) tx, .row 50 (.pair (.int .i64) (.pair (.int .i32) (.pair (.int .i64) (.pair (.int .i64) (.pair (.imm (.int .i64)) (.pair .str .str)))))) ac] => match cs.drop 33 with
    | [.lit (.int .i64 st), .lit (.string h), .sl 1 1 0 ni, .lit (.bool wr), .lit (.bool fi), .lit (.int .i64 mk), .sl 2 1 0 nn, .lit (.bool fu), .sl 3 1 0 nt, .sl 4 7 0 no] =>
      .need (P st ∧ cs = pcells st h it.length wr fi mk nu.length fu tx.length ac.length ∧ Ready ⟨st, strInts h, it, wr, fi, mk, nu, fu, tx⟩ b ac.length)
        (.any (PS × List aty.den) (StepOf ⟨st, strInts h, it, wr, fi, mk, nu, fu, tx⟩ b) fun r => .ret (.tup [], rheap r.1 (ac ++ r.2), [1, 2, 3, 4]))
    | _ => .fail
  | _, _ => .fail
theorem sStep_ok {f : FuncId} {P : Int → Prop} (hm : SummOK Try.prog f (sStepM P)) : SummOK Try.prog f (sStep P) := by
  refine summ_mv hm fun args H Q hl => ?_
  unfold sStep at hl
  split at hl
  case h_2 => simp only [Tree.Leads] at hl
  split at hl
  case h_2 => simp only [Tree.Leads] at hl
  rename_i st h ni wr fi mk nn fu nt no hcs
  simp only [sStepM, hcs, Tree.Leads]
  simp only [Tree.Leads] at hl
  refine ⟨hl.1, fun r hr mv hmv => ⟨[1, 2, 3, 4], fun k hk hm => ?_, hl.2 r hr⟩⟩
  have : k = 0 := by
    match k, hk, hm with
    | 0, _, _ => rfl
    | 1, _, hm => cases hm
    | 2, _, hm => cases hm
    | 3, _, hm => cases hm
    | 4, _, hm => cases hm
  subst this
  exact hmv
theorem goes_of {s : PS} {b : Int} {ac : List aty.den} {Q : SV × Heap × List Nat → Prop} (hq : ∀ r : PS × List aty.den, StepOf s b r → ∀ mv : List Nat, memN 0 mv = false → Q (.tup [], rheap r.1 (ac ++ r.2), mv)) : Goes s ac b Q := by
  intro st h it ni wr fi mk nu nn fu tx nt R no mv e1 e2 e3 e4 e5 e6 e7
  have := hq (pstep s b) ⟨rfl⟩ mv e7
  subst e2; subst e3; subst e4; subst e5; subst e6
  have hh : h = bsOf (pstep s b).1.half := by rw [e1]; exact (bsOf_strInts h).symm
  have e8 : rheap (pstep s b).1 (ac ++ (pstep s b).2) = rows st h it it.length wr fi mk nu nu.length fu tx tx.length (ac ++ (pstep s b).2) (ac ++ (pstep s b).2).length := by
    rw [rheap, ← hh, e1]; rfl
  rw [e8] at this
  exact this
theorem s22g_ok : SummOK Try.prog 22 (sStep (fun st => st = 0)) := by
  refine sStep_ok (summ_of_body (fn := Try.f22) (c := Try.f22.body.get!) U1_ok (by kernel_rfl) (by kernel_rfl) (by kernel_rfl) fun args H Q hl => ?_)
  unfold sStepM at hl
  split at hl
  case h_2 => simp only [Tree.Leads] at hl
  rename_i b cs it nu tx ac
  split at hl
  case h_2 => simp only [Tree.Leads] at hl
  rename_i st h ni wr fi mk nn fu nt no hcs
  simp only [Tree.Leads] at hl
  obtain ⟨⟨hw, he, hf⟩, hq⟩ := hl
  subst he
  subst hw
  exact ⟨N22, v22_0 h it wr fi mk nu fu tx ac b Q hf.byte hf.few hf.ok (goes_of hq)⟩
noncomputable def U2 : Table := (T10.add 30 (.go (bodySumm T4x Try.prog Try.f30 N22))).add 22 (.go (sStep (fun st => st = 0)))
theorem U2_ok : TableOK Try.prog U2 := add_ok (add_ok T10_ok (bodySumm_sound (c := Try.f30.body.get!) T4x_ok (by kernel_rfl) (by kernel_rfl) (by kernel_rfl))) s22g_ok
theorem goesW_r {r0 : PS × List aty.den} {ac X : List aty.den} {Q : SV × Heap × List Nat → Prop} {r : PS × List aty.den} {mv : List Nat} (hq : GoesW r0 ac Q) (e1 : r0.1 = r.1) (e2 : X = ac ++ r0.2) (hg : Good r.1.half) (hm : memN 0 mv = false) : Q (.tup [], rheap r.1 X, mv) := by
  refine hq _ _ _ _ _ _ _ _ _ _ _ _ _ _ _ ?_ e2 rfl rfl rfl rfl hm
  rw [e1, good_bsOf hg]
theorem v32_9 (st : Int) (h : ByteArray) (it : List Int) (wr fi : Bool) (mk : Int) (nu : List Int) (fu : Bool) (tx : List Int) (ac : List aty.den) (b : Int) (Q : SV × Heap × List Nat → Prop) (hb : Byte b) (hac : ac.length ≤ 900000) (hok : PS.OK ⟨st, strInts h, it, wr, fi, mk, nu, fu, tx⟩)
    (hq : GoesW (pstep (PS.begin ⟨st, strInts h, it, wr, fi, mk, nu, fu, tx⟩ 0) b) ac Q) : (bodySumm U2 Try.prog Try.f32 N22 [.ptr 0 0, .lit (.int .i64 9), .lit (.int .u8 b)] (pheap st h it wr fi mk nu fu tx ac)).Leads Q := by
  refine Sx.by_text (q :=
      ((0 : Int) = (0 : Int) ∧
          T13.pcells (0 : Int) h (0 : Nat) Bool.false Bool.true (0 : Int) (0 : Nat) Bool.false (0 : Nat) (List.length ac) =
              T13.pcells (0 : Int) h (0 : Nat) Bool.false Bool.true (0 : Int) (0 : Nat) Bool.false (0 : Nat) (List.length ac) ∧
            T13.Ready { st := (0 : Int), half := Sx.strInts h, inter := [], wrong := Bool.false, first := Bool.true, mark := (0 : Int), nums := [], full := Bool.false, text := [] } b
              (List.length ac)) ∧
        ∀ (b_1 : T13.PS × List (Sx.Ty.den T13.aty)),
          T13.StepOf { st := (0 : Int), half := Sx.strInts h, inter := [], wrong := Bool.false, first := Bool.true, mark := (0 : Int), nums := [], full := Bool.false, text := [] } b
              b_1 →
            Q (Sx.SV.tup ([] : List Sx.SV), T13.rheap (Prod.fst b_1) (ac ++ Prod.snd b_1), [(1 : Nat), (2 : Nat), (3 : Nat), (4 : Nat)])) (by kernel_rfl) ?_
  have hbo : PS.OK (PS.begin ⟨st, strInts h, it, wr, fi, mk, nu, fu, tx⟩ 0) := PS.begin_ok hok 0 (by omega) (fun e => absurd rfl e)
  refine ⟨⟨rfl, rfl, ⟨hbo, hb, hac⟩⟩, fun r hr => ?_⟩
  obtain ⟨hr⟩ := hr
  subst hr
  exact goesW_r hq rfl rfl (pstep_half _ b hbo.half) rfl
/-- What a number asks for, 'back' among them. -/
structure ActOf9 (s : PS) (w b : Int) (r : PS × List aty.den) : Prop where
  eq : r = if w = 9 then pstep (s.begin 0) b else s.actW w b
structure Fits9 (s : PS) (w b : Int) (n : Nat) : Prop where
  ok : s.OK
  byte : Byte b
  few : n ≤ 900000
  w1 : w = 1 → s.st = 0
  w5 : w = 5 → 48 ≤ b ∧ b < 64
noncomputable def sAct (lo hi : Int) : Summ := fun args H => match args, H with
  | [.ptr 0 0, .lit (.int .i64 w), .lit (.int .u8 b)], [.cells 47 cs, .row 5 (.int .u8) it, .row 3 (.int .i64) nu, .row 5 (.int .u8) tx, .row 50 (.pair (.int .i64) (.pair (.int .i32) (.pair (.int .i64) (.pair (.int .i64) (.pair (.imm (.int .i64)) (.pair .str .str)))))) ac] => match cs.drop 33 with
    | [.lit (.int .i64 st), .lit (.string h), .sl 1 1 0 ni, .lit (.bool wr), .lit (.bool fi), .lit (.int .i64 mk), .sl 2 1 0 nn, .lit (.bool fu), .sl 3 1 0 nt, .sl 4 7 0 no] =>
      .need ((lo ≤ w ∧ w ≤ hi) ∧ cs = pcells st h it.length wr fi mk nu.length fu tx.length ac.length ∧ Fits9 ⟨st, strInts h, it, wr, fi, mk, nu, fu, tx⟩ w b ac.length)
        (.any (PS × List aty.den) (ActOf9 ⟨st, strInts h, it, wr, fi, mk, nu, fu, tx⟩ w b) fun r => .ret (.tup [], rheap r.1 (ac ++ r.2), [1, 2, 3, 4]))
    | _ => .fail
  | _, _ => .fail
noncomputable def s9m : Summ := fun args H => match args, H with
  | [.ptr 0 0, .lit (.int .i64 w), .lit (.int .u8 b)], [.cells 47 cs, .row 5 (.int .u8) it, .row 3 (.int .i64) nu, .row 5 (.int .u8) tx, .row 50 (.pair (.int .i64) (.pair (.int .i32) (.pair (.int .i64) (.pair (.int .i64) (.pair (.imm (.int .i64)) (.pair .str .str)))))) ac] => match cs.drop 33 with
    | [.lit (.int .i64 st), .lit (.string h), .sl 1 1 0 ni, .lit (.bool wr), .lit (.bool fi), .lit (.int .i64 mk), .sl 2 1 0 nn, .lit (.bool fu), .sl 3 1 0 nt, .sl 4 7 0 no] =>
      .need (w = 9 ∧ cs = pcells st h it.length wr fi mk nu.length fu tx.length ac.length ∧ Fits9 ⟨st, strInts h, it, wr, fi, mk, nu, fu, tx⟩ w b ac.length)
        (.any (PS × List aty.den) (ActOf9 ⟨st, strInts h, it, wr, fi, mk, nu, fu, tx⟩ w b) fun r => .any (List Nat) (fun mv => memN 0 mv = false) fun mv => .ret (.tup [], rheap r.1 (ac ++ r.2), mv))
    | _ => .fail
  | _, _ => .fail
theorem s9m_ok : SummOK Try.prog 32 s9m := by
  refine summ_of_body (fn := Try.f32) (c := Try.f32.body.get!) U2_ok (by kernel_rfl) (by kernel_rfl) (by kernel_rfl) fun args H Q hl => ?_
  unfold s9m at hl
  split at hl
  case h_2 => simp only [Tree.Leads] at hl
  rename_i w b cs it nu tx ac
  split at hl
  case h_2 => simp only [Tree.Leads] at hl
  rename_i st h ni wr fi mk nn fu nt no hcs
  simp only [Tree.Leads] at hl
  obtain ⟨⟨hw, he, hf⟩, hq⟩ := hl
  subst he
  subst hw
  refine ⟨N22, v32_9 st h it wr fi mk nu fu tx ac b Q hf.byte hf.few hf.ok ?_⟩
  intro st2 h' it' ni2 wr' fi' mk' nu' nn2 fu' tx' nt2 R no2 mv e1 e2 e3 e4 e5 e6 e7
  have := hq (pstep (PS.begin ⟨st, strInts h, it, wr, fi, mk, nu, fu, tx⟩ 0) b) ⟨by rw [if_pos rfl]⟩ mv e7
  subst e2; subst e3; subst e4; subst e5; subst e6
  have hh : h' = bsOf (pstep (PS.begin ⟨st, strInts h, it, wr, fi, mk, nu, fu, tx⟩ 0) b).1.half := by rw [e1]; exact (bsOf_strInts h').symm
  rw [rheap, ← hh, e1] at this
  exact this
theorem sAct_ok : SummOK Try.prog 32 (sAct 0 9) := by
  refine summ_or s32_ok (s2 := sAct 9 9) (summ_mv s9m_ok fun args H Q hl => ?_) fun args H Q hl => ?_
  · unfold sAct at hl
    split at hl
    case h_2 => simp only [Tree.Leads] at hl
    split at hl
    case h_2 => simp only [Tree.Leads] at hl
    rename_i st h ni wr fi mk nn fu nt no hcs
    simp only [s9m, hcs, Tree.Leads]
    simp only [Tree.Leads] at hl
    refine ⟨⟨by omega, hl.1.2⟩, fun r hr mv hmv => ⟨[1, 2, 3, 4], fun k hk hm => ?_, hl.2 r hr⟩⟩
    have : k = 0 := by
      match k, hk, hm with
      | 0, _, _ => rfl
      | 1, _, hm => cases hm
      | 2, _, hm => cases hm
      | 3, _, hm => cases hm
      | 4, _, hm => cases hm
    subst this
    exact hmv
  · unfold sAct at hl
    split at hl
    case h_2 => simp only [Tree.Leads] at hl
    rename_i w b cs it nu tx ac
    split at hl
    case h_2 => simp only [Tree.Leads] at hl
    rename_i st h ni wr fi mk nn fu nt no hcs
    simp only [Tree.Leads] at hl
    obtain ⟨⟨hw, he, hf⟩, hq⟩ := hl
    by_cases h9 : w = 9
    · right
      simp only [sAct, hcs, Tree.Leads]
      exact ⟨⟨by omega, he, hf⟩, hq⟩
    · left
      simp only [s32, hcs, Tree.Leads]
      refine ⟨⟨by omega, he, ⟨hf.ok, hf.byte, by have := hf.few; omega, hf.w1, hf.w5⟩⟩, fun r hr => hq r ⟨?_⟩⟩
      rw [if_neg h9]; exact hr.eq
noncomputable def U3 : Table := T10.add 32 (.go (sAct 0 9))
theorem U3_ok : TableOK Try.prog U3 := add_ok T10_ok sAct_ok
end T13
