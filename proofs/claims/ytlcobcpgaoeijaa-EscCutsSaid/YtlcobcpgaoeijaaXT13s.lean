/- Part of a proof: the walk of the functions that the law calls. -/
import Derived.Test.YtlcobcpgaoeijaaSxT
import Derived.Test.YtlcobcpgaoeijaaXT13w0
import Derived.Test.YtlcobcpgaoeijaaXT13w1
import Derived.Test.YtlcobcpgaoeijaaXT13w2
import Derived.Test.YtlcobcpgaoeijaaXT13w3
import Derived.Test.YtlcobcpgaoeijaaXT13w4
import Derived.Test.YtlcobcpgaoeijaaXT13w5
import Derived.Test.YtlcobcpgaoeijaaXT13w6
import Derived.Test.YtlcobcpgaoeijaaXT13w7
import Derived.Test.YtlcobcpgaoeijaaXT13w8
open Go Sx Go.Proofs T12
namespace T13
set_option maxRecDepth 100000
set_option maxHeartbeats 4000000
attribute [local irreducible] Tree.Leads
set_option linter.unusedVariables false
/-- What an act of the table leads to. -/
structure ActOf (s : PS) (w b : Int) (r : PS × List aty.den) : Prop where
  eq : r = s.actW w b
/-- May it be done there? -/
structure Fits (s : PS) (w b : Int) (n : Nat) : Prop where
  ok : s.OK
  byte : Byte b
  few : n ≤ 1000000
  w1 : w = 1 → s.st = 0
  w5 : w = 5 → 48 ≤ b ∧ b < 64
def rheap (r : PS) (ac : List aty.den) : Heap := pheap r.st (bsOf r.half) r.inter r.wrong r.first r.mark r.nums r.full r.text ac
noncomputable def s32m : Summ := fun args H => match args, H with
  | [.ptr 0 0, .lit (.int .i64 w), .lit (.int .u8 b)], [.cells 47 cs, .row 5 (.int .u8) it, .row 3 (.int .i64) nu, .row 5 (.int .u8) tx, .row 50 (.pair (.int .i64) (.pair (.int .i32) (.pair (.int .i64) (.pair (.int .i64) (.pair (.imm (.int .i64)) (.pair .str .str)))))) ac] => match cs.drop 33 with
    | [.lit (.int .i64 st), .lit (.string h), .sl 1 1 0 ni, .lit (.bool wr), .lit (.bool fi), .lit (.int .i64 mk), .sl 2 1 0 nn, .lit (.bool fu), .sl 3 1 0 nt, .sl 4 7 0 no] =>
      .need ((0 ≤ w ∧ w ≤ 8) ∧ cs = pcells st h it.length wr fi mk nu.length fu tx.length ac.length ∧ Fits ⟨st, strInts h, it, wr, fi, mk, nu, fu, tx⟩ w b ac.length)
        (.any (PS × List aty.den) (ActOf ⟨st, strInts h, it, wr, fi, mk, nu, fu, tx⟩ w b) fun r => .any (List Nat) (fun mv => memN 0 mv = false) fun mv => .ret (.tup [], rheap r.1 (ac ++ r.2), mv))
    | _ => .fail
  | _, _ => .fail
theorem goesW_of {s : PS} {w b : Int} {ac : List aty.den} {Q : SV × Heap × List Nat → Prop} (hq : ∀ r : PS × List aty.den, ActOf s w b r → ∀ mv : List Nat, memN 0 mv = false → Q (.tup [], rheap r.1 (ac ++ r.2), mv)) (hok : Good (s.actW w b).1.half) : GoesW (s.actW w b) ac Q := by
  intro st h it ni wr fi mk nu nn fu tx nt R no mv e1 e2 e3 e4 e5 e6 e7
  have := hq (s.actW w b) ⟨rfl⟩ mv e7
  subst e2; subst e3; subst e4; subst e5; subst e6
  have hh : h = bsOf (s.actW w b).1.half := by rw [e1]; exact (bsOf_strInts h).symm
  have e8 : rheap (s.actW w b).1 (ac ++ (s.actW w b).2) = rows st h it it.length wr fi mk nu nu.length fu tx tx.length (ac ++ (s.actW w b).2) (ac ++ (s.actW w b).2).length := by
    rw [rheap, ← hh, e1]; rfl
  rw [e8] at this
  exact this
theorem s32m_ok : SummOK Try.prog 32 s32m := by
  refine summ_of_body (fn := Try.f32) (c := Try.f32.body.get!) T10_ok (by kernel_rfl) (by kernel_rfl) (by kernel_rfl) fun args H Q hl => ?_
  unfold s32m at hl
  split at hl
  case h_2 => simp only [Tree.Leads] at hl
  rename_i w b cs it nu tx ac
  split at hl
  case h_2 => simp only [Tree.Leads] at hl
  rename_i st h ni wr fi mk nn fu nt no hcs
  simp only [Tree.Leads] at hl
  obtain ⟨⟨hw, he, hf⟩, hq⟩ := hl
  subst he
  have hg : Good (PS.actW ⟨st, strInts h, it, wr, fi, mk, nu, fu, tx⟩ w b).1.half := PS.actW_half _ _ _ hf.ok.half
  have hgo := goesW_of hq hg
  refine ⟨N22, ?_⟩
  rcases (show w = 0 ∨ w = 1 ∨ w = 2 ∨ w = 3 ∨ w = 4 ∨ w = 5 ∨ w = 6 ∨ w = 7 ∨ w = 8 by omega) with rfl | rfl | rfl | rfl | rfl | rfl | rfl | rfl | rfl
  · exact v32_0 st h it wr fi mk nu fu tx ac b Q hf.byte hf.few hf.ok hgo
  · exact v32_1 st h it wr fi mk nu fu tx ac b Q hf.byte hf.few hf.ok hgo
  · exact v32_2 st h it wr fi mk nu fu tx ac b Q hf.byte hf.few hf.ok hgo
  · exact v32_3 st h it wr fi mk nu fu tx ac b Q hf.byte hf.few hf.ok hgo
  · exact v32_4 st h it wr fi mk nu fu tx ac b Q hf.byte hf.few hf.ok hgo
  · exact v32_5 st h it wr fi mk nu fu tx ac b Q hf.byte (hf.w5 rfl) hf.few hf.ok hgo
  · exact v32_6 st h it wr fi mk nu fu tx ac b Q hf.byte hf.few hf.ok hgo
  · exact v32_7 st h it wr fi mk nu fu tx ac b Q hf.byte hf.few hf.ok hgo
  · exact v32_8 st h it wr fi mk nu fu tx ac b Q hf.byte hf.few hf.ok hgo
/-- act, but for what goes back. -/
noncomputable def s32 : Summ := fun args H => match args, H with
  | [.ptr 0 0, .lit (.int .i64 w), .lit (.int .u8 b)], [.cells 47 cs, .row 5 (.int .u8) it, .row 3 (.int .i64) nu, .row 5 (.int .u8) tx, .row 50 (.pair (.int .i64) (.pair (.int .i32) (.pair (.int .i64) (.pair (.int .i64) (.pair (.imm (.int .i64)) (.pair .str .str)))))) ac] => match cs.drop 33 with
    | [.lit (.int .i64 st), .lit (.string h), .sl 1 1 0 ni, .lit (.bool wr), .lit (.bool fi), .lit (.int .i64 mk), .sl 2 1 0 nn, .lit (.bool fu), .sl 3 1 0 nt, .sl 4 7 0 no] =>
      .need ((0 ≤ w ∧ w ≤ 8) ∧ cs = pcells st h it.length wr fi mk nu.length fu tx.length ac.length ∧ Fits ⟨st, strInts h, it, wr, fi, mk, nu, fu, tx⟩ w b ac.length)
        (.any (PS × List aty.den) (ActOf ⟨st, strInts h, it, wr, fi, mk, nu, fu, tx⟩ w b) fun r => .ret (.tup [], rheap r.1 (ac ++ r.2), [1, 2, 3, 4]))
    | _ => .fail
  | _, _ => .fail
theorem s32_ok : SummOK Try.prog 32 s32 := by
  refine summ_mv s32m_ok fun args H Q hl => ?_
  unfold s32 at hl
  split at hl
  case h_2 => simp only [Tree.Leads] at hl
  split at hl
  case h_2 => simp only [Tree.Leads] at hl
  rename_i st h ni wr fi mk nn fu nt no hcs
  simp only [s32m, hcs, Tree.Leads]
  simp only [Tree.Leads] at hl
  refine ⟨hl.1, fun r hr mv hmv => ⟨[1, 2, 3, 4], fun k hk hm => ?_, hl.2 r hr⟩⟩
  have : k = 0 := by
    match k, hk, hm with
    | 0, _, _ => rfl
    | 1, _, hm => cases hm
    | 2, _, hm => cases hm
    | 3, _, hm => cases hm
    | 4, _, hm => cases hm
  subst this
  exact hmv
noncomputable def U1 : Table := T10.add 32 (.go s32)
theorem U1_ok : TableOK Try.prog U1 := add_ok T10_ok s32_ok
theorem goes_r {s : PS} {b : Int} {ac X : List aty.den} {Q : SV × Heap × List Nat → Prop} {r : PS × List aty.den} {mv : List Nat} (hq : Goes s ac b Q) (e1 : (pstep s b).1 = r.1) (e2 : X = ac ++ (pstep s b).2) (hg : Good r.1.half) (hm : memN 0 mv = false) : Q (.tup [], rheap r.1 X, mv) := by
  refine hq _ _ _ _ _ _ _ _ _ _ _ _ _ _ _ ?_ e2 rfl rfl rfl rfl hm
  rw [e1, good_bsOf hg]
end T13
