/- Part of a proof: the walks of the functions that the law calls, and their plain laws; no condition. -/
import Derived.Test.YtlcobcpgaoeijaaGreatSxT
import Derived.Test.YtlcobcpgaoeijaaGreatM5
import Derived.Test.YtlcobcpgaoeijaaGreatM4
set_option linter.unusedVariables false
set_option linter.unusedSimpArgs false
section
open Go Sx Go.Proofs T12
namespace T13
set_option maxRecDepth 100000
set_option maxHeartbeats 4000000
attribute [local irreducible] Tree.Leads
/-- What a byte leads to. -/
structure StepOf (s : PS) (b : Int) (r : PS × List aty.den) : Prop where
  eq : r = pstep s b
structure Ready (s : PS) (b : Int) (n : Nat) : Prop where
  ok : s.OK
  byte : Byte b
  few : n ≤ 900000
noncomputable def sStepM (P : Int → Prop) : Summ := fun args H => match args, H with
  | [.ptr 0 0, .lit (.int .u8 b)], [.cells 46 cs, .row 5 (.int .u8) it, .row 3 (.int .i64) nu, .row 5 (.int .u8) tx, .drow 69 3 (.pair (.int .i64) (.pair (.int .i32) (.pair (.int .i64) (.pair (.int .i64) (.pair (.imm (.int .i64)) (.pair .str .str)))))) ac] => match cs.drop 33 with
    | [.lit (.int .i64 st), .lit (.string h), .sl 1 1 0 ni, .lit (.bool wr), .lit (.bool fi), .lit (.int .i64 mk), .sl 2 1 0 nn, .lit (.bool fu), .sl 3 1 0 nt, .sl 4 7 0 no] =>
      .need (P st ∧ cs = pcells st h it.length wr fi mk nu.length fu tx.length ac.length ∧ Ready ⟨st, strInts h, it, wr, fi, mk, nu, fu, tx⟩ b ac.length)
        (.any (PS × List aty.den) (StepOf ⟨st, strInts h, it, wr, fi, mk, nu, fu, tx⟩ b) fun r => .any (List Nat) (fun mv => memN 0 mv = false) fun mv => .ret (.tup [], rheap r.1 (ac ++ r.2), mv))
    | _ => .fail
  | _, _ => .fail
noncomputable def sStep (P : Int → Prop) : Summ := fun args H => match args, H with
  | [.ptr 0 0, .lit (.int .u8 b)], [.cells 46 cs, .row 5 (.int .u8) it, .row 3 (.int .i64) nu, .row 5 (.int .u8) tx, .drow 69 3 (.pair (.int .i64) (.pair (.int .i32) (.pair (.int .i64) (.pair (.int .i64) (.pair (.imm (.int .i64)) (.pair .str .str)))))) ac] => match cs.drop 33 with
    | [.lit (.int .i64 st), .lit (.string h), .sl 1 1 0 ni, .lit (.bool wr), .lit (.bool fi), .lit (.int .i64 mk), .sl 2 1 0 nn, .lit (.bool fu), .sl 3 1 0 nt, .sl 4 7 0 no] =>
      .need (P st ∧ cs = pcells st h it.length wr fi mk nu.length fu tx.length ac.length ∧ Ready ⟨st, strInts h, it, wr, fi, mk, nu, fu, tx⟩ b ac.length)
        (.any (PS × List aty.den) (StepOf ⟨st, strInts h, it, wr, fi, mk, nu, fu, tx⟩ b) fun r => .ret (.tup [], rheap r.1 (ac ++ r.2), [1, 2, 3, 4]))
    | _ => .fail
  | _, _ => .fail
theorem sStep_ok {f : FuncId} {P : Int → Prop} (hm : SummOK Tryz.prog f (sStepM P)) : SummOK Tryz.prog f (sStep P) := by
  refine summ_mv hm fun args H Q hl => ?_
  unfold sStep at hl
  split at hl
  case h_2 => simp only [Tree.Leads] at hl
  split at hl
  case h_2 => simp only [Tree.Leads] at hl
  rename_i st h ni wr fi mk nn fu nt no hcs
  simp only [sStepM, hcs, Tree.Leads]
  simp only [Tree.Leads] at hl
  refine ⟨hl.1, fun r hr mv hmv => ⟨[1, 2, 3, 4], fun k hk hm => ?_, hl.2 r hr⟩⟩
  have : k = 0 := by
    match k, hk, hm with
    | 0, _, _ => rfl
    | 1, _, hm => cases hm
    | 2, _, hm => cases hm
    | 3, _, hm => cases hm
    | 4, _, hm => cases hm
  subst this
  exact hmv
theorem goes_of {s : PS} {b : Int} {ac : List aty.den} {Q : SV × Heap × List Nat → Prop} (hq : ∀ r : PS × List aty.den, StepOf s b r → ∀ mv : List Nat, memN 0 mv = false → Q (.tup [], rheap r.1 (ac ++ r.2), mv)) : Goes s ac b Q := by
  intro st h it ni wr fi mk nu nn fu tx nt R no mv e1 e2 e3 e4 e5 e6 e7
  have := hq (pstep s b) ⟨rfl⟩ mv e7
  subst e2; subst e3; subst e4; subst e5; subst e6
  have hh : h = bsOf (pstep s b).1.half := by rw [e1]; exact (bsOf_strInts h).symm
  have e8 : rheap (pstep s b).1 (ac ++ (pstep s b).2) = rows st h it it.length wr fi mk nu nu.length fu tx tx.length (ac ++ (pstep s b).2) (ac ++ (pstep s b).2).length := by
    rw [rheap, ← hh, e1]; rfl
  rw [e8] at this
  exact this
theorem s22g_ok : SummOK Tryz.prog 17 (sStep (fun st => st = 0)) := by
  refine sStep_ok (summ_of_body (fn := Tryz.f17) (c := Tryz.f17.body.get!) U1_ok (by kernel_rfl) (by kernel_rfl) (by kernel_rfl) fun args H Q hl => ?_)
  unfold sStepM at hl
  split at hl
  case h_2 => simp only [Tree.Leads] at hl
  rename_i b cs it nu tx ac
  split at hl
  case h_2 => simp only [Tree.Leads] at hl
  rename_i st h ni wr fi mk nn fu nt no hcs
  simp only [Tree.Leads] at hl
  obtain ⟨⟨hw, he, hf⟩, hq⟩ := hl
  subst he
  subst hw
  exact ⟨N22, v22_0 h it wr fi mk nu fu tx ac b Q hf.byte hf.few hf.ok (goes_of hq)⟩
noncomputable def U2 : Table := (T10.add 59 (.go (bodySumm T4x Tryz.prog Tryz.f59 N22))).add 17 (.go (sStep (fun st => st = 0)))
theorem U2_ok : TableOK Tryz.prog U2 := add_ok (add_ok T10_ok (bodySumm_sound (c := Tryz.f59.body.get!) T4x_ok (by kernel_rfl) (by kernel_rfl) (by kernel_rfl))) s22g_ok
theorem goesW_r {r0 : PS × List aty.den} {ac X : List aty.den} {Q : SV × Heap × List Nat → Prop} {r : PS × List aty.den} {mv : List Nat} (hq : GoesW r0 ac Q) (e1 : r0.1 = r.1) (e2 : X = ac ++ r0.2) (hg : Good r.1.half) (hm : memN 0 mv = false) : Q (.tup [], rheap r.1 X, mv) := by
  refine hq _ _ _ _ _ _ _ _ _ _ _ _ _ _ _ ?_ e2 rfl rfl rfl rfl hm
  rw [e1, good_bsOf hg]
theorem v32_9 (st : Int) (h : ByteArray) (it : List Int) (wr fi : Bool) (mk : Int) (nu : List Int) (fu : Bool) (tx : List Int) (ac : List aty.den) (b : Int) (Q : SV × Heap × List Nat → Prop) (hb : Byte b) (hac : ac.length ≤ 900000) (hok : PS.OK ⟨st, strInts h, it, wr, fi, mk, nu, fu, tx⟩)
    (hq : GoesW (pstep (PS.begin ⟨st, strInts h, it, wr, fi, mk, nu, fu, tx⟩ 0) b) ac Q) : (bodySumm U2 Tryz.prog Tryz.f61 N22 [.ptr 0 0, .lit (.int .i64 9), .lit (.int .u8 b)] (pheap st h it wr fi mk nu fu tx ac)).Leads Q := by
  refine Sx.by_text (q :=
   ((0 : Int) = (0 : Int) ∧ T13.pcells (0 : Int) h 0 false true (0 : Int) 0 false 0 (List.length ac) = T13.pcells (0 : Int) h 0 false true (0 : Int) 0 false 0 (List.length
   ac) ∧ T13.Ready { st := (0 : Int), half := Sx.strInts h, inter := [], wrong := false, first := true, mark := (0 : Int), nums := [], full := false, text := [] } b
   (List.length ac)) ∧ ∀ (u0 : T13.PS × List (Ty.den T13.aty)), T13.StepOf
   { st := (0 : Int), half := Sx.strInts h, inter := [], wrong := false, first := true, mark := (0 : Int), nums := [], full := false, text := [] } b u0 → Q (SV.tup ([] : List
   Sx.SV), T13.rheap (Prod.fst u0) (ac ++ Prod.snd u0), [1, 2, 3, 4])) (by kernel_rfl) ?_
  have hbo : PS.OK (PS.begin ⟨st, strInts h, it, wr, fi, mk, nu, fu, tx⟩ 0) := PS.begin_ok hok 0 (by omega) (fun e => absurd rfl e)
  refine ⟨⟨rfl, rfl, ⟨hbo, hb, hac⟩⟩, fun r hr => ?_⟩
  obtain ⟨hr⟩ := hr
  subst hr
  exact goesW_r hq rfl rfl (pstep_half _ b hbo.half) rfl
/-- What a number asks for, 'back' among them. -/
structure ActOf9 (s : PS) (w b : Int) (r : PS × List aty.den) : Prop where
  eq : r = if w = 9 then pstep (s.begin 0) b else s.actW w b
structure Fits9 (s : PS) (w b : Int) (n : Nat) : Prop where
  ok : s.OK
  byte : Byte b
  few : n ≤ 900000
  w1 : w = 1 → s.st = 0
  w5 : w = 5 → 48 ≤ b ∧ b < 64
noncomputable def sAct (lo hi : Int) : Summ := fun args H => match args, H with
  | [.ptr 0 0, .lit (.int .i64 w), .lit (.int .u8 b)], [.cells 46 cs, .row 5 (.int .u8) it, .row 3 (.int .i64) nu, .row 5 (.int .u8) tx, .drow 69 3 (.pair (.int .i64) (.pair (.int .i32) (.pair (.int .i64) (.pair (.int .i64) (.pair (.imm (.int .i64)) (.pair .str .str)))))) ac] => match cs.drop 33 with
    | [.lit (.int .i64 st), .lit (.string h), .sl 1 1 0 ni, .lit (.bool wr), .lit (.bool fi), .lit (.int .i64 mk), .sl 2 1 0 nn, .lit (.bool fu), .sl 3 1 0 nt, .sl 4 7 0 no] =>
      .need ((lo ≤ w ∧ w ≤ hi) ∧ cs = pcells st h it.length wr fi mk nu.length fu tx.length ac.length ∧ Fits9 ⟨st, strInts h, it, wr, fi, mk, nu, fu, tx⟩ w b ac.length)
        (.any (PS × List aty.den) (ActOf9 ⟨st, strInts h, it, wr, fi, mk, nu, fu, tx⟩ w b) fun r => .ret (.tup [], rheap r.1 (ac ++ r.2), [1, 2, 3, 4]))
    | _ => .fail
  | _, _ => .fail
noncomputable def s9m : Summ := fun args H => match args, H with
  | [.ptr 0 0, .lit (.int .i64 w), .lit (.int .u8 b)], [.cells 46 cs, .row 5 (.int .u8) it, .row 3 (.int .i64) nu, .row 5 (.int .u8) tx, .drow 69 3 (.pair (.int .i64) (.pair (.int .i32) (.pair (.int .i64) (.pair (.int .i64) (.pair (.imm (.int .i64)) (.pair .str .str)))))) ac] => match cs.drop 33 with
    | [.lit (.int .i64 st), .lit (.string h), .sl 1 1 0 ni, .lit (.bool wr), .lit (.bool fi), .lit (.int .i64 mk), .sl 2 1 0 nn, .lit (.bool fu), .sl 3 1 0 nt, .sl 4 7 0 no] =>
      .need (w = 9 ∧ cs = pcells st h it.length wr fi mk nu.length fu tx.length ac.length ∧ Fits9 ⟨st, strInts h, it, wr, fi, mk, nu, fu, tx⟩ w b ac.length)
        (.any (PS × List aty.den) (ActOf9 ⟨st, strInts h, it, wr, fi, mk, nu, fu, tx⟩ w b) fun r => .any (List Nat) (fun mv => memN 0 mv = false) fun mv => .ret (.tup [], rheap r.1 (ac ++ r.2), mv))
    | _ => .fail
  | _, _ => .fail
theorem s9m_ok : SummOK Tryz.prog 61 s9m := by
  refine summ_of_body (fn := Tryz.f61) (c := Tryz.f61.body.get!) U2_ok (by kernel_rfl) (by kernel_rfl) (by kernel_rfl) fun args H Q hl => ?_
  unfold s9m at hl
  split at hl
  case h_2 => simp only [Tree.Leads] at hl
  rename_i w b cs it nu tx ac
  split at hl
  case h_2 => simp only [Tree.Leads] at hl
  rename_i st h ni wr fi mk nn fu nt no hcs
  simp only [Tree.Leads] at hl
  obtain ⟨⟨hw, he, hf⟩, hq⟩ := hl
  subst he
  subst hw
  refine ⟨N22, v32_9 st h it wr fi mk nu fu tx ac b Q hf.byte hf.few hf.ok ?_⟩
  intro st2 h' it' ni2 wr' fi' mk' nu' nn2 fu' tx' nt2 R no2 mv e1 e2 e3 e4 e5 e6 e7
  have := hq (pstep (PS.begin ⟨st, strInts h, it, wr, fi, mk, nu, fu, tx⟩ 0) b) ⟨by rw [if_pos rfl]⟩ mv e7
  subst e2; subst e3; subst e4; subst e5; subst e6
  have hh : h' = bsOf (pstep (PS.begin ⟨st, strInts h, it, wr, fi, mk, nu, fu, tx⟩ 0) b).1.half := by rw [e1]; exact (bsOf_strInts h').symm
  rw [rheap, ← hh, e1] at this
  exact this
theorem sAct_ok : SummOK Tryz.prog 61 (sAct 0 9) := by
  refine summ_or s32_ok (s2 := sAct 9 9) (summ_mv s9m_ok fun args H Q hl => ?_) fun args H Q hl => ?_
  · unfold sAct at hl
    split at hl
    case h_2 => simp only [Tree.Leads] at hl
    split at hl
    case h_2 => simp only [Tree.Leads] at hl
    rename_i st h ni wr fi mk nn fu nt no hcs
    simp only [s9m, hcs, Tree.Leads]
    simp only [Tree.Leads] at hl
    refine ⟨⟨by omega, hl.1.2⟩, fun r hr mv hmv => ⟨[1, 2, 3, 4], fun k hk hm => ?_, hl.2 r hr⟩⟩
    have : k = 0 := by
      match k, hk, hm with
      | 0, _, _ => rfl
      | 1, _, hm => cases hm
      | 2, _, hm => cases hm
      | 3, _, hm => cases hm
      | 4, _, hm => cases hm
    subst this
    exact hmv
  · unfold sAct at hl
    split at hl
    case h_2 => simp only [Tree.Leads] at hl
    rename_i w b cs it nu tx ac
    split at hl
    case h_2 => simp only [Tree.Leads] at hl
    rename_i st h ni wr fi mk nn fu nt no hcs
    simp only [Tree.Leads] at hl
    obtain ⟨⟨hw, he, hf⟩, hq⟩ := hl
    by_cases h9 : w = 9
    · right
      simp only [sAct, hcs, Tree.Leads]
      exact ⟨⟨by omega, he, hf⟩, hq⟩
    · left
      simp only [s32, hcs, Tree.Leads]
      refine ⟨⟨by omega, he, ⟨hf.ok, hf.byte, by have := hf.few; omega, hf.w1, hf.w5⟩⟩, fun r hr => hq r ⟨?_⟩⟩
      rw [if_neg h9]; exact hr.eq
noncomputable def U3 : Table := T10.add 61 (.go (sAct 0 9))
theorem U3_ok : TableOK Tryz.prog U3 := add_ok T10_ok sAct_ok
end T13
end
section
open Go Sx Go.Proofs T12
namespace T13
set_option maxRecDepth 100000
set_option maxHeartbeats 8000000
attribute [local irreducible] Tree.Leads
noncomputable abbrev zT13t1_0 (it : List Int) (wr : Bool) (fi : Bool) (mk : Int) (nu : List Int) (fu : Bool) (tx : List Int) : T13.PS := { st := (1 : Int), half := Sx.strInts T13.e0, inter := it, wrong := wr, first := fi, mark := mk, nums := nu, full := fu, text := tx }
noncomputable abbrev zT13t1_1 (it : List Int) (wr : Bool) (fi : Bool) (mk : Int) (nu : List Int) (fu : Bool) (tx : List Int) (ac : List aty.den) := T13.pcells (1 : Int) T13.e0 (List.length it) wr fi mk (List.length nu) fu (List.length tx) (List.length ac)
noncomputable abbrev zT13t1_2 (it : List Int) (wr : Bool) (fi : Bool) (mk : Int) (nu : List Int) (fu : Bool) (tx : List Int) (ac : List aty.den) (b : Int) := (((0 : Int) ≤ (4 : Int) ∧ (4 : Int) ≤ (9 : Int)) ∧ (zT13t1_1 it wr fi mk nu fu tx ac) = (zT13t1_1 it wr fi mk nu fu tx ac) ∧ T13.Fits9 (zT13t1_0 it wr fi mk nu fu tx) (4 : Int) b (List.length ac))
noncomputable abbrev zT13t1_3 := ((0 : Int) ≤ (1 : Int) ∧ (1 : Int) < (↑(5 : Nat) : Int))
noncomputable abbrev zT13t1_4 (it : List Int) (wr : Bool) (fi : Bool) (mk : Int) (nu : List Int) (fu : Bool) (tx : List Int) (ac : List aty.den) (b : Int) := (((0 : Int) ≤ (2 : Int) ∧ (2 : Int) ≤ (9 : Int)) ∧ (zT13t1_1 it wr fi mk nu fu tx ac) = (zT13t1_1 it wr fi mk nu fu tx ac) ∧ T13.Fits9 (zT13t1_0 it wr fi mk nu fu tx) (2 : Int) b (List.length ac))
noncomputable abbrev zT13t1_5 (it : List Int) (wr : Bool) (fi : Bool) (mk : Int) (nu : List Int) (fu : Bool) (tx : List Int) (ac : List aty.den) (b : Int) := (((0 : Int) ≤ (3 : Int) ∧ (3 : Int) ≤ (9 : Int)) ∧ (zT13t1_1 it wr fi mk nu fu tx ac) = (zT13t1_1 it wr fi mk nu fu tx ac) ∧ T13.Fits9 (zT13t1_0 it wr fi mk nu fu tx) (3 : Int) b (List.length ac))
noncomputable abbrev zT13t1_6 (it : List Int) (wr : Bool) (fi : Bool) (mk : Int) (nu : List Int) (fu : Bool) (tx : List Int) (ac : List aty.den) (b : Int) := (((0 : Int) ≤ (0 : Int) ∧ (0 : Int) ≤ (9 : Int)) ∧ (zT13t1_1 it wr fi mk nu fu tx ac) = (zT13t1_1 it wr fi mk nu fu tx ac) ∧ T13.Fits9 (zT13t1_0 it wr fi mk nu fu tx) (0 : Int) b (List.length ac))
noncomputable abbrev zT13t1_7 (it : List Int) (wr : Bool) (fi : Bool) (mk : Int) (nu : List Int) (fu : Bool) (tx : List Int) (ac : List aty.den) (b : Int) := (((0 : Int) ≤ (9 : Int) ∧ (9 : Int) ≤ (9 : Int)) ∧ (zT13t1_1 it wr fi mk nu fu tx ac) = (zT13t1_1 it wr fi mk nu fu tx ac) ∧ T13.Fits9 (zT13t1_0 it wr fi mk nu fu tx) (9 : Int) b (List.length ac))
theorem v22_1 (it : List Int) (wr fi : Bool) (mk : Int) (nu : List Int) (fu : Bool) (tx : List Int) (ac : List aty.den) (b : Int) (Q : SV × Heap × List Nat → Prop) (hb : Byte b) (hac : ac.length ≤ 900000) (hok : PS.OK ⟨1, strInts e0, it, wr, fi, mk, nu, fu, tx⟩)
    (hq : Goes ⟨1, strInts e0, it, wr, fi, mk, nu, fu, tx⟩ ac b Q) : (bodySumm U3 Tryz.prog Tryz.f17 N22 [.ptr 0 0, .lit (.int .u8 b)] (pheap 1 e0 it wr fi mk nu fu tx ac)).Leads Q := by
  refine Sx.by_text (q :=
   br (b == (24 : Int)) (br (b == (24 : Int)) (Q (SV.tup ([] : List Sx.SV), T13.rows (0 : Int) T13.e0 [] 0 false true (0 : Int) [] 0 false [] 0 ac (List.length ac), [1, 2,
   3])) (br (b == (27 : Int)) (Q (SV.tup ([] : List Sx.SV), T13.rows (1 : Int) T13.e0 [] 0 false true (0 : Int) [] 0 false [] 0 ac (List.length ac), [1, 2, 3])) (∀ (u0 :
   Bool), True → br u0 ((zT13t1_3) ∧ br (decide (b < (32 : Int))) (((0 : Int) ≤ (0 : Int) ∧ (0 : Int) < (↑(6 : Nat) : Int)) ∧ (zT13t1_4 it wr fi mk nu fu tx ac b) ∧ ∀ (u1 :
   T13.PS × List (Ty.den T13.aty)), T13.ActOf9 (zT13t1_0 it wr fi mk nu fu tx) (2 : Int) b u1 → Q (SV.tup ([] : List Sx.SV), T13.rheap (Prod.fst u1) (ac ++ Prod.snd u1), [1,
   2, 3, 4])) (br (decide (b < (48 : Int))) (((0 : Int) ≤ (1 : Int) ∧ (1 : Int) < (↑(6 : Nat) : Int)) ∧ (zT13t1_5 it wr fi mk nu fu tx ac b) ∧ ∀ (u2 : T13.PS × List (Ty.den
   T13.aty)), T13.ActOf9 (zT13t1_0 it wr fi mk nu fu tx) (3 : Int) b u2 → Q (SV.tup ([] : List Sx.SV), T13.rheap (Prod.fst u2) (ac ++ Prod.snd u2), [1, 2, 3, 4])) (br (decide
   (b < (64 : Int))) (((0 : Int) ≤ (2 : Int) ∧ (2 : Int) < (↑(6 : Nat) : Int)) ∧ (zT13t1_2 it wr fi mk nu fu tx ac b) ∧ ∀ (u3 : T13.PS × List (Ty.den T13.aty)), T13.ActOf9
   (zT13t1_0 it wr fi mk nu fu tx) (4 : Int) b u3 → Q (SV.tup ([] : List Sx.SV), T13.rheap (Prod.fst u3) (ac ++ Prod.snd u3), [1, 2, 3, 4])) (br (decide (b < (127 : Int)))
   (((0 : Int) ≤ (3 : Int) ∧ (3 : Int) < (↑(6 : Nat) : Int)) ∧ (zT13t1_2 it wr fi mk nu fu tx ac b) ∧ ∀ (u4 : T13.PS × List (Ty.den T13.aty)), T13.ActOf9 (zT13t1_0 it wr fi
   mk nu fu tx) (4 : Int) b u4 → Q (SV.tup ([] : List Sx.SV), T13.rheap (Prod.fst u4) (ac ++ Prod.snd u4), [1, 2, 3, 4])) (br (b == (127 : Int)) (((0 : Int) ≤ (4 : Int) ∧ (4
   : Int) < (↑(6 : Nat) : Int)) ∧ (zT13t1_6 it wr fi mk nu fu tx ac b) ∧ ∀ (u5 : T13.PS × List (Ty.den T13.aty)), T13.ActOf9 (zT13t1_0 it wr fi mk nu fu tx) (0 : Int) b u5 →
   Q (SV.tup ([] : List Sx.SV), T13.rheap (Prod.fst u5) (ac ++ Prod.snd u5), [1, 2, 3, 4])) (((0 : Int) ≤ (5 : Int) ∧ (5 : Int) < (↑(6 : Nat) : Int)) ∧ (zT13t1_7 it wr fi mk
   nu fu tx ac b) ∧ ∀ (u6 : T13.PS × List (Ty.den T13.aty)), T13.ActOf9 (zT13t1_0 it wr fi mk nu fu tx) (9 : Int) b u6 → Q (SV.tup ([] : List Sx.SV), T13.rheap (Prod.fst u6)
   (ac ++ Prod.snd u6), [1, 2, 3, 4]))))))) (br (decide (b < (32 : Int))) ((zT13t1_3) ∧ ((0 : Int) ≤ (0 : Int) ∧ (0 : Int) < (↑(6 : Nat) : Int)) ∧ (zT13t1_4 it wr fi mk nu fu
   tx ac b) ∧ ∀ (u7 : T13.PS × List (Ty.den T13.aty)), T13.ActOf9 (zT13t1_0 it wr fi mk nu fu tx) (2 : Int) b u7 → Q (SV.tup ([] : List Sx.SV), T13.rheap (Prod.fst u7) (ac ++
   Prod.snd u7), [1, 2, 3, 4])) (br (decide (b < (48 : Int))) ((zT13t1_3) ∧ ((0 : Int) ≤ (1 : Int) ∧ (1 : Int) < (↑(6 : Nat) : Int)) ∧ (zT13t1_5 it wr fi mk nu fu tx ac b) ∧
   ∀ (u8 : T13.PS × List (Ty.den T13.aty)), T13.ActOf9 (zT13t1_0 it wr fi mk nu fu tx) (3 : Int) b u8 → Q (SV.tup ([] : List Sx.SV), T13.rheap (Prod.fst u8) (ac ++ Prod.snd
   u8), [1, 2, 3, 4])) (br (decide (b < (64 : Int))) ((zT13t1_3) ∧ ((0 : Int) ≤ (2 : Int) ∧ (2 : Int) < (↑(6 : Nat) : Int)) ∧ (zT13t1_2 it wr fi mk nu fu tx ac b) ∧ ∀ (u9 :
   T13.PS × List (Ty.den T13.aty)), T13.ActOf9 (zT13t1_0 it wr fi mk nu fu tx) (4 : Int) b u9 → Q (SV.tup ([] : List Sx.SV), T13.rheap (Prod.fst u9) (ac ++ Prod.snd u9), [1,
   2, 3, 4])) (br (decide (b < (127 : Int))) ((zT13t1_3) ∧ ((0 : Int) ≤ (3 : Int) ∧ (3 : Int) < (↑(6 : Nat) : Int)) ∧ (zT13t1_2 it wr fi mk nu fu tx ac b) ∧ ∀ (u10 : T13.PS ×
   List (Ty.den T13.aty)), T13.ActOf9 (zT13t1_0 it wr fi mk nu fu tx) (4 : Int) b u10 → Q (SV.tup ([] : List Sx.SV), T13.rheap (Prod.fst u10) (ac ++ Prod.snd u10), [1, 2, 3,
   4])) (br (b == (127 : Int)) ((zT13t1_3) ∧ ((0 : Int) ≤ (4 : Int) ∧ (4 : Int) < (↑(6 : Nat) : Int)) ∧ (zT13t1_6 it wr fi mk nu fu tx ac b) ∧ ∀ (u11 : T13.PS × List (Ty.den
   T13.aty)), T13.ActOf9 (zT13t1_0 it wr fi mk nu fu tx) (0 : Int) b u11 → Q (SV.tup ([] : List Sx.SV), T13.rheap (Prod.fst u11) (ac ++ Prod.snd u11), [1, 2, 3, 4]))
   ((zT13t1_3) ∧ ((0 : Int) ≤ (5 : Int) ∧ (5 : Int) < (↑(6 : Nat) : Int)) ∧ (zT13t1_7 it wr fi mk nu fu tx ac b) ∧ ∀ (u12 : T13.PS × List (Ty.den T13.aty)), T13.ActOf9
   (zT13t1_0 it wr fi mk nu fu tx) (9 : Int) b u12 → Q (SV.tup ([] : List Sx.SV), T13.rheap (Prod.fst u12) (ac ++ Prod.snd u12), [1, 2, 3, 4])))))))))) (br (b == (26 : Int))
   (Q (SV.tup ([] : List Sx.SV), T13.rows (0 : Int) T13.e0 [] 0 false true (0 : Int) [] 0 false [] 0 ac (List.length ac), [1, 2, 3])) (br (b == (27 : Int)) (Q (SV.tup ([] :
   List Sx.SV), T13.rows (1 : Int) T13.e0 [] 0 false true (0 : Int) [] 0 false [] 0 ac (List.length ac), [1, 2, 3])) (∀ (u13 : Bool), True → br u13 ((zT13t1_3) ∧ br (decide
   (b < (32 : Int))) (((0 : Int) ≤ (0 : Int) ∧ (0 : Int) < (↑(6 : Nat) : Int)) ∧ (zT13t1_4 it wr fi mk nu fu tx ac b) ∧ ∀ (u14 : T13.PS × List (Ty.den T13.aty)), T13.ActOf9
   (zT13t1_0 it wr fi mk nu fu tx) (2 : Int) b u14 → Q (SV.tup ([] : List Sx.SV), T13.rheap (Prod.fst u14) (ac ++ Prod.snd u14), [1, 2, 3, 4])) (br (decide (b < (48 : Int)))
   (((0 : Int) ≤ (1 : Int) ∧ (1 : Int) < (↑(6 : Nat) : Int)) ∧ (zT13t1_5 it wr fi mk nu fu tx ac b) ∧ ∀ (u15 : T13.PS × List (Ty.den T13.aty)), T13.ActOf9 (zT13t1_0 it wr fi
   mk nu fu tx) (3 : Int) b u15 → Q (SV.tup ([] : List Sx.SV), T13.rheap (Prod.fst u15) (ac ++ Prod.snd u15), [1, 2, 3, 4])) (br (decide (b < (64 : Int))) (((0 : Int) ≤ (2 :
   Int) ∧ (2 : Int) < (↑(6 : Nat) : Int)) ∧ (zT13t1_2 it wr fi mk nu fu tx ac b) ∧ ∀ (u16 : T13.PS × List (Ty.den T13.aty)), T13.ActOf9 (zT13t1_0 it wr fi mk nu fu tx) (4 :
   Int) b u16 → Q (SV.tup ([] : List Sx.SV), T13.rheap (Prod.fst u16) (ac ++ Prod.snd u16), [1, 2, 3, 4])) (br (decide (b < (127 : Int))) (((0 : Int) ≤ (3 : Int) ∧ (3 : Int)
   < (↑(6 : Nat) : Int)) ∧ (zT13t1_2 it wr fi mk nu fu tx ac b) ∧ ∀ (u17 : T13.PS × List (Ty.den T13.aty)), T13.ActOf9 (zT13t1_0 it wr fi mk nu fu tx) (4 : Int) b u17 → Q
   (SV.tup ([] : List Sx.SV), T13.rheap (Prod.fst u17) (ac ++ Prod.snd u17), [1, 2, 3, 4])) (br (b == (127 : Int)) (((0 : Int) ≤ (4 : Int) ∧ (4 : Int) < (↑(6 : Nat) : Int)) ∧
   (zT13t1_6 it wr fi mk nu fu tx ac b) ∧ ∀ (u18 : T13.PS × List (Ty.den T13.aty)), T13.ActOf9 (zT13t1_0 it wr fi mk nu fu tx) (0 : Int) b u18 → Q (SV.tup ([] : List Sx.SV),
   T13.rheap (Prod.fst u18) (ac ++ Prod.snd u18), [1, 2, 3, 4])) (((0 : Int) ≤ (5 : Int) ∧ (5 : Int) < (↑(6 : Nat) : Int)) ∧ (zT13t1_7 it wr fi mk nu fu tx ac b) ∧ ∀ (u19 :
   T13.PS × List (Ty.den T13.aty)), T13.ActOf9 (zT13t1_0 it wr fi mk nu fu tx) (9 : Int) b u19 → Q (SV.tup ([] : List Sx.SV), T13.rheap (Prod.fst u19) (ac ++ Prod.snd u19),
   [1, 2, 3, 4]))))))) (br (decide (b < (32 : Int))) ((zT13t1_3) ∧ ((0 : Int) ≤ (0 : Int) ∧ (0 : Int) < (↑(6 : Nat) : Int)) ∧ (zT13t1_4 it wr fi mk nu fu tx ac b) ∧ ∀ (u20 :
   T13.PS × List (Ty.den T13.aty)), T13.ActOf9 (zT13t1_0 it wr fi mk nu fu tx) (2 : Int) b u20 → Q (SV.tup ([] : List Sx.SV), T13.rheap (Prod.fst u20) (ac ++ Prod.snd u20),
   [1, 2, 3, 4])) (br (decide (b < (48 : Int))) ((zT13t1_3) ∧ ((0 : Int) ≤ (1 : Int) ∧ (1 : Int) < (↑(6 : Nat) : Int)) ∧ (zT13t1_5 it wr fi mk nu fu tx ac b) ∧ ∀ (u21 :
   T13.PS × List (Ty.den T13.aty)), T13.ActOf9 (zT13t1_0 it wr fi mk nu fu tx) (3 : Int) b u21 → Q (SV.tup ([] : List Sx.SV), T13.rheap (Prod.fst u21) (ac ++ Prod.snd u21),
   [1, 2, 3, 4])) (br (decide (b < (64 : Int))) ((zT13t1_3) ∧ ((0 : Int) ≤ (2 : Int) ∧ (2 : Int) < (↑(6 : Nat) : Int)) ∧ (zT13t1_2 it wr fi mk nu fu tx ac b) ∧ ∀ (u22 :
   T13.PS × List (Ty.den T13.aty)), T13.ActOf9 (zT13t1_0 it wr fi mk nu fu tx) (4 : Int) b u22 → Q (SV.tup ([] : List Sx.SV), T13.rheap (Prod.fst u22) (ac ++ Prod.snd u22),
   [1, 2, 3, 4])) (br (decide (b < (127 : Int))) ((zT13t1_3) ∧ ((0 : Int) ≤ (3 : Int) ∧ (3 : Int) < (↑(6 : Nat) : Int)) ∧ (zT13t1_2 it wr fi mk nu fu tx ac b) ∧ ∀ (u23 :
   T13.PS × List (Ty.den T13.aty)), T13.ActOf9 (zT13t1_0 it wr fi mk nu fu tx) (4 : Int) b u23 → Q (SV.tup ([] : List Sx.SV), T13.rheap (Prod.fst u23) (ac ++ Prod.snd u23),
   [1, 2, 3, 4])) (br (b == (127 : Int)) ((zT13t1_3) ∧ ((0 : Int) ≤ (4 : Int) ∧ (4 : Int) < (↑(6 : Nat) : Int)) ∧ (zT13t1_6 it wr fi mk nu fu tx ac b) ∧ ∀ (u24 : T13.PS ×
   List (Ty.den T13.aty)), T13.ActOf9 (zT13t1_0 it wr fi mk nu fu tx) (0 : Int) b u24 → Q (SV.tup ([] : List Sx.SV), T13.rheap (Prod.fst u24) (ac ++ Prod.snd u24), [1, 2, 3,
   4])) ((zT13t1_3) ∧ ((0 : Int) ≤ (5 : Int) ∧ (5 : Int) < (↑(6 : Nat) : Int)) ∧ (zT13t1_7 it wr fi mk nu fu tx ac b) ∧ ∀ (u25 : T13.PS × List (Ty.den T13.aty)), T13.ActOf9
   (zT13t1_0 it wr fi mk nu fu tx) (9 : Int) b u25 → Q (SV.tup ([] : List Sx.SV), T13.rheap (Prod.fst u25) (ac ++ Prod.snd u25), [1, 2, 3, 4]))))))))))) (by kernel_rfl) ?_
  delta zT13t1_0 zT13t1_1 zT13t1_2 zT13t1_3 zT13t1_4 zT13t1_5 zT13t1_6 zT13t1_7
  have hbs : bytesOf Tryz.prog 69 = 88 := by kernel_rfl
  have hbt : bytesOf Tryz.prog 5 = 1 := by kernel_rfl
  have hbi : bytesOf Tryz.prog 3 = 8 := by kernel_rfl
  have hbr : bytesOf Tryz.prog 21 = 4 := by kernel_rfl
  have es : strInts e0 = [] := rfl
  have hfit : ∀ w : Int, (w = 5 → 48 ≤ b ∧ b < 64) → (w = 1 → (1 : Int) = 0) → Fits9 ⟨1, strInts e0, it, wr, fi, mk, nu, fu, tx⟩ w b ac.length := fun w h5 h1 => ⟨hok, hb, by omega, h1, h5⟩
  have hgood : ∀ w : Int, Good (PS.actW ⟨1, strInts e0, it, wr, fi, mk, nu, fu, tx⟩ w b).1.half := fun w => PS.actW_half _ _ _ hok.half
  have hgood9 : Good (pstep (PS.begin ⟨1, strInts e0, it, wr, fi, mk, nu, fu, tx⟩ 0) b).1.half := pstep_half _ b hok.half
  simp only [List.take_length, List.drop_zero, hbs, hbt, hbi, hbr]
  rcases kinds hb with ⟨hb1, hk⟩ | ⟨hb1, hk⟩ | ⟨hb1, hk⟩ | ⟨hb1, hk⟩ | ⟨hb1, hk⟩ | ⟨hb1, hk⟩ | ⟨hb1, hk⟩ | ⟨hb1, hk⟩ | ⟨hb1, hk⟩
  all_goals obtain ⟨k1, k2, k3, k4, k5, k6, k7, k8⟩ := hk
  all_goals simp only [k1, k2, k3, k4, k5, k6, k7, k8, br_true, br_false]
  all_goals repeat' first
    | (intro _ _)
    | (refine br_intro (fun h => ?_) (fun h => ?_))
    | (refine And.intro ?_ ?_)
  all_goals first
    | omega
    | exact hfit _ (fun e => by omega) (fun e => by omega)
    | exact True.intro
    | with_reducible rfl
    | skip
  all_goals simp only [beq_iff_eq, beq_eq_false_iff_ne, decide_eq_true_eq, decide_eq_false_iff_not, ne_eq] at k1 k2 k3 k4 k5 k6 k7 k8
  all_goals first
    | (rename_i r hr
       obtain ⟨hr⟩ := hr
       rw [if_neg (by decide)] at hr
       subst hr
       refine goes_r hq ?_ ?_ (hgood _) rfl)
    | (rename_i r hr
       obtain ⟨hr⟩ := hr
       rw [if_pos rfl] at hr
       subst hr
       refine goes_r hq ?_ ?_ hgood9 rfl)
    | refine hq _ _ _ _ _ _ _ _ _ _ _ _ _ _ _ ?_ ?_ ?_ ?_ ?_ ?_ rfl
  all_goals clear hq hfit hgood hgood9
  all_goals first
    | with_reducible rfl
    | (simp only [List.length_append, List.length_cons, List.length_nil]; done)
    | (simp [pstep, PS.flushed, PS.go, PS.act, PS.actW, PS.bell, PS.begin, PS.endA, PS.print, aOsc, aDcs, e0, *]; done)
end T13
end
section
open Go Sx Go.Proofs T12
namespace T13
set_option maxRecDepth 100000
set_option maxHeartbeats 8000000
attribute [local irreducible] Tree.Leads
noncomputable abbrev zT13t2_0 (it : List Int) (wr : Bool) (fi : Bool) (mk : Int) (nu : List Int) (fu : Bool) (tx : List Int) : T13.PS := { st := (2 : Int), half := Sx.strInts T13.e0, inter := it, wrong := wr, first := fi, mark := mk, nums := nu, full := fu, text := tx }
noncomputable abbrev zT13t2_1 (it : List Int) (wr : Bool) (fi : Bool) (mk : Int) (nu : List Int) (fu : Bool) (tx : List Int) (ac : List aty.den) := T13.pcells (2 : Int) T13.e0 (List.length it) wr fi mk (List.length nu) fu (List.length tx) (List.length ac)
noncomputable abbrev zT13t2_2 := ((0 : Int) ≤ (2 : Int) ∧ (2 : Int) < (↑(5 : Nat) : Int))
noncomputable abbrev zT13t2_3 (it : List Int) (wr : Bool) (fi : Bool) (mk : Int) (nu : List Int) (fu : Bool) (tx : List Int) (ac : List aty.den) (b : Int) := (((0 : Int) ≤ (2 : Int) ∧ (2 : Int) ≤ (9 : Int)) ∧ (zT13t2_1 it wr fi mk nu fu tx ac) = (zT13t2_1 it wr fi mk nu fu tx ac) ∧ T13.Fits9 (zT13t2_0 it wr fi mk nu fu tx) (2 : Int) b (List.length ac))
noncomputable abbrev zT13t2_4 (it : List Int) (wr : Bool) (fi : Bool) (mk : Int) (nu : List Int) (fu : Bool) (tx : List Int) (ac : List aty.den) (b : Int) := (((0 : Int) ≤ (3 : Int) ∧ (3 : Int) ≤ (9 : Int)) ∧ (zT13t2_1 it wr fi mk nu fu tx ac) = (zT13t2_1 it wr fi mk nu fu tx ac) ∧ T13.Fits9 (zT13t2_0 it wr fi mk nu fu tx) (3 : Int) b (List.length ac))
noncomputable abbrev zT13t2_5 (it : List Int) (wr : Bool) (fi : Bool) (mk : Int) (nu : List Int) (fu : Bool) (tx : List Int) (ac : List aty.den) (b : Int) := (((0 : Int) ≤ (5 : Int) ∧ (5 : Int) ≤ (9 : Int)) ∧ (zT13t2_1 it wr fi mk nu fu tx ac) = (zT13t2_1 it wr fi mk nu fu tx ac) ∧ T13.Fits9 (zT13t2_0 it wr fi mk nu fu tx) (5 : Int) b (List.length ac))
noncomputable abbrev zT13t2_6 (it : List Int) (wr : Bool) (fi : Bool) (mk : Int) (nu : List Int) (fu : Bool) (tx : List Int) (ac : List aty.den) (b : Int) := (((0 : Int) ≤ (6 : Int) ∧ (6 : Int) ≤ (9 : Int)) ∧ (zT13t2_1 it wr fi mk nu fu tx ac) = (zT13t2_1 it wr fi mk nu fu tx ac) ∧ T13.Fits9 (zT13t2_0 it wr fi mk nu fu tx) (6 : Int) b (List.length ac))
noncomputable abbrev zT13t2_7 (it : List Int) (wr : Bool) (fi : Bool) (mk : Int) (nu : List Int) (fu : Bool) (tx : List Int) (ac : List aty.den) (b : Int) := (((0 : Int) ≤ (0 : Int) ∧ (0 : Int) ≤ (9 : Int)) ∧ (zT13t2_1 it wr fi mk nu fu tx ac) = (zT13t2_1 it wr fi mk nu fu tx ac) ∧ T13.Fits9 (zT13t2_0 it wr fi mk nu fu tx) (0 : Int) b (List.length ac))
noncomputable abbrev zT13t2_8 (it : List Int) (wr : Bool) (fi : Bool) (mk : Int) (nu : List Int) (fu : Bool) (tx : List Int) (ac : List aty.den) (b : Int) := (((0 : Int) ≤ (9 : Int) ∧ (9 : Int) ≤ (9 : Int)) ∧ (zT13t2_1 it wr fi mk nu fu tx ac) = (zT13t2_1 it wr fi mk nu fu tx ac) ∧ T13.Fits9 (zT13t2_0 it wr fi mk nu fu tx) (9 : Int) b (List.length ac))
theorem v22_2 (it : List Int) (wr fi : Bool) (mk : Int) (nu : List Int) (fu : Bool) (tx : List Int) (ac : List aty.den) (b : Int) (Q : SV × Heap × List Nat → Prop) (hb : Byte b) (hac : ac.length ≤ 900000) (hok : PS.OK ⟨2, strInts e0, it, wr, fi, mk, nu, fu, tx⟩)
    (hq : Goes ⟨2, strInts e0, it, wr, fi, mk, nu, fu, tx⟩ ac b Q) : (bodySumm U3 Tryz.prog Tryz.f17 N22 [.ptr 0 0, .lit (.int .u8 b)] (pheap 2 e0 it wr fi mk nu fu tx ac)).Leads Q := by
  refine Sx.by_text (q :=
   br (b == (24 : Int)) (br (b == (24 : Int)) (Q (SV.tup ([] : List Sx.SV), T13.rows (0 : Int) T13.e0 [] 0 false true (0 : Int) [] 0 false [] 0 ac (List.length ac), [1, 2,
   3])) (br (b == (27 : Int)) (Q (SV.tup ([] : List Sx.SV), T13.rows (1 : Int) T13.e0 [] 0 false true (0 : Int) [] 0 false [] 0 ac (List.length ac), [1, 2, 3])) (∀ (u0 :
   Bool), True → br u0 ((zT13t2_2) ∧ br (decide (b < (32 : Int))) (((0 : Int) ≤ (0 : Int) ∧ (0 : Int) < (↑(6 : Nat) : Int)) ∧ (zT13t2_3 it wr fi mk nu fu tx ac b) ∧ ∀ (u1 :
   T13.PS × List (Ty.den T13.aty)), T13.ActOf9 (zT13t2_0 it wr fi mk nu fu tx) (2 : Int) b u1 → Q (SV.tup ([] : List Sx.SV), T13.rheap (Prod.fst u1) (ac ++ Prod.snd u1), [1,
   2, 3, 4])) (br (decide (b < (48 : Int))) (((0 : Int) ≤ (1 : Int) ∧ (1 : Int) < (↑(6 : Nat) : Int)) ∧ (zT13t2_4 it wr fi mk nu fu tx ac b) ∧ ∀ (u2 : T13.PS × List (Ty.den
   T13.aty)), T13.ActOf9 (zT13t2_0 it wr fi mk nu fu tx) (3 : Int) b u2 → Q (SV.tup ([] : List Sx.SV), T13.rheap (Prod.fst u2) (ac ++ Prod.snd u2), [1, 2, 3, 4])) (br (decide
   (b < (64 : Int))) (((0 : Int) ≤ (2 : Int) ∧ (2 : Int) < (↑(6 : Nat) : Int)) ∧ (zT13t2_5 it wr fi mk nu fu tx ac b) ∧ ∀ (u3 : T13.PS × List (Ty.den T13.aty)), T13.ActOf9
   (zT13t2_0 it wr fi mk nu fu tx) (5 : Int) b u3 → Q (SV.tup ([] : List Sx.SV), T13.rheap (Prod.fst u3) (ac ++ Prod.snd u3), [1, 2, 3, 4])) (br (decide (b < (127 : Int)))
   (((0 : Int) ≤ (3 : Int) ∧ (3 : Int) < (↑(6 : Nat) : Int)) ∧ (zT13t2_6 it wr fi mk nu fu tx ac b) ∧ ∀ (u4 : T13.PS × List (Ty.den T13.aty)), T13.ActOf9 (zT13t2_0 it wr fi
   mk nu fu tx) (6 : Int) b u4 → Q (SV.tup ([] : List Sx.SV), T13.rheap (Prod.fst u4) (ac ++ Prod.snd u4), [1, 2, 3, 4])) (br (b == (127 : Int)) (((0 : Int) ≤ (4 : Int) ∧ (4
   : Int) < (↑(6 : Nat) : Int)) ∧ (zT13t2_7 it wr fi mk nu fu tx ac b) ∧ ∀ (u5 : T13.PS × List (Ty.den T13.aty)), T13.ActOf9 (zT13t2_0 it wr fi mk nu fu tx) (0 : Int) b u5 →
   Q (SV.tup ([] : List Sx.SV), T13.rheap (Prod.fst u5) (ac ++ Prod.snd u5), [1, 2, 3, 4])) (((0 : Int) ≤ (5 : Int) ∧ (5 : Int) < (↑(6 : Nat) : Int)) ∧ (zT13t2_8 it wr fi mk
   nu fu tx ac b) ∧ ∀ (u6 : T13.PS × List (Ty.den T13.aty)), T13.ActOf9 (zT13t2_0 it wr fi mk nu fu tx) (9 : Int) b u6 → Q (SV.tup ([] : List Sx.SV), T13.rheap (Prod.fst u6)
   (ac ++ Prod.snd u6), [1, 2, 3, 4]))))))) (br (decide (b < (32 : Int))) ((zT13t2_2) ∧ ((0 : Int) ≤ (0 : Int) ∧ (0 : Int) < (↑(6 : Nat) : Int)) ∧ (zT13t2_3 it wr fi mk nu fu
   tx ac b) ∧ ∀ (u7 : T13.PS × List (Ty.den T13.aty)), T13.ActOf9 (zT13t2_0 it wr fi mk nu fu tx) (2 : Int) b u7 → Q (SV.tup ([] : List Sx.SV), T13.rheap (Prod.fst u7) (ac ++
   Prod.snd u7), [1, 2, 3, 4])) (br (decide (b < (48 : Int))) ((zT13t2_2) ∧ ((0 : Int) ≤ (1 : Int) ∧ (1 : Int) < (↑(6 : Nat) : Int)) ∧ (zT13t2_4 it wr fi mk nu fu tx ac b) ∧
   ∀ (u8 : T13.PS × List (Ty.den T13.aty)), T13.ActOf9 (zT13t2_0 it wr fi mk nu fu tx) (3 : Int) b u8 → Q (SV.tup ([] : List Sx.SV), T13.rheap (Prod.fst u8) (ac ++ Prod.snd
   u8), [1, 2, 3, 4])) (br (decide (b < (64 : Int))) ((zT13t2_2) ∧ ((0 : Int) ≤ (2 : Int) ∧ (2 : Int) < (↑(6 : Nat) : Int)) ∧ (zT13t2_5 it wr fi mk nu fu tx ac b) ∧ ∀ (u9 :
   T13.PS × List (Ty.den T13.aty)), T13.ActOf9 (zT13t2_0 it wr fi mk nu fu tx) (5 : Int) b u9 → Q (SV.tup ([] : List Sx.SV), T13.rheap (Prod.fst u9) (ac ++ Prod.snd u9), [1,
   2, 3, 4])) (br (decide (b < (127 : Int))) ((zT13t2_2) ∧ ((0 : Int) ≤ (3 : Int) ∧ (3 : Int) < (↑(6 : Nat) : Int)) ∧ (zT13t2_6 it wr fi mk nu fu tx ac b) ∧ ∀ (u10 : T13.PS ×
   List (Ty.den T13.aty)), T13.ActOf9 (zT13t2_0 it wr fi mk nu fu tx) (6 : Int) b u10 → Q (SV.tup ([] : List Sx.SV), T13.rheap (Prod.fst u10) (ac ++ Prod.snd u10), [1, 2, 3,
   4])) (br (b == (127 : Int)) ((zT13t2_2) ∧ ((0 : Int) ≤ (4 : Int) ∧ (4 : Int) < (↑(6 : Nat) : Int)) ∧ (zT13t2_7 it wr fi mk nu fu tx ac b) ∧ ∀ (u11 : T13.PS × List (Ty.den
   T13.aty)), T13.ActOf9 (zT13t2_0 it wr fi mk nu fu tx) (0 : Int) b u11 → Q (SV.tup ([] : List Sx.SV), T13.rheap (Prod.fst u11) (ac ++ Prod.snd u11), [1, 2, 3, 4]))
   ((zT13t2_2) ∧ ((0 : Int) ≤ (5 : Int) ∧ (5 : Int) < (↑(6 : Nat) : Int)) ∧ (zT13t2_8 it wr fi mk nu fu tx ac b) ∧ ∀ (u12 : T13.PS × List (Ty.den T13.aty)), T13.ActOf9
   (zT13t2_0 it wr fi mk nu fu tx) (9 : Int) b u12 → Q (SV.tup ([] : List Sx.SV), T13.rheap (Prod.fst u12) (ac ++ Prod.snd u12), [1, 2, 3, 4])))))))))) (br (b == (26 : Int))
   (Q (SV.tup ([] : List Sx.SV), T13.rows (0 : Int) T13.e0 [] 0 false true (0 : Int) [] 0 false [] 0 ac (List.length ac), [1, 2, 3])) (br (b == (27 : Int)) (Q (SV.tup ([] :
   List Sx.SV), T13.rows (1 : Int) T13.e0 [] 0 false true (0 : Int) [] 0 false [] 0 ac (List.length ac), [1, 2, 3])) (∀ (u13 : Bool), True → br u13 ((zT13t2_2) ∧ br (decide
   (b < (32 : Int))) (((0 : Int) ≤ (0 : Int) ∧ (0 : Int) < (↑(6 : Nat) : Int)) ∧ (zT13t2_3 it wr fi mk nu fu tx ac b) ∧ ∀ (u14 : T13.PS × List (Ty.den T13.aty)), T13.ActOf9
   (zT13t2_0 it wr fi mk nu fu tx) (2 : Int) b u14 → Q (SV.tup ([] : List Sx.SV), T13.rheap (Prod.fst u14) (ac ++ Prod.snd u14), [1, 2, 3, 4])) (br (decide (b < (48 : Int)))
   (((0 : Int) ≤ (1 : Int) ∧ (1 : Int) < (↑(6 : Nat) : Int)) ∧ (zT13t2_4 it wr fi mk nu fu tx ac b) ∧ ∀ (u15 : T13.PS × List (Ty.den T13.aty)), T13.ActOf9 (zT13t2_0 it wr fi
   mk nu fu tx) (3 : Int) b u15 → Q (SV.tup ([] : List Sx.SV), T13.rheap (Prod.fst u15) (ac ++ Prod.snd u15), [1, 2, 3, 4])) (br (decide (b < (64 : Int))) (((0 : Int) ≤ (2 :
   Int) ∧ (2 : Int) < (↑(6 : Nat) : Int)) ∧ (zT13t2_5 it wr fi mk nu fu tx ac b) ∧ ∀ (u16 : T13.PS × List (Ty.den T13.aty)), T13.ActOf9 (zT13t2_0 it wr fi mk nu fu tx) (5 :
   Int) b u16 → Q (SV.tup ([] : List Sx.SV), T13.rheap (Prod.fst u16) (ac ++ Prod.snd u16), [1, 2, 3, 4])) (br (decide (b < (127 : Int))) (((0 : Int) ≤ (3 : Int) ∧ (3 : Int)
   < (↑(6 : Nat) : Int)) ∧ (zT13t2_6 it wr fi mk nu fu tx ac b) ∧ ∀ (u17 : T13.PS × List (Ty.den T13.aty)), T13.ActOf9 (zT13t2_0 it wr fi mk nu fu tx) (6 : Int) b u17 → Q
   (SV.tup ([] : List Sx.SV), T13.rheap (Prod.fst u17) (ac ++ Prod.snd u17), [1, 2, 3, 4])) (br (b == (127 : Int)) (((0 : Int) ≤ (4 : Int) ∧ (4 : Int) < (↑(6 : Nat) : Int)) ∧
   (zT13t2_7 it wr fi mk nu fu tx ac b) ∧ ∀ (u18 : T13.PS × List (Ty.den T13.aty)), T13.ActOf9 (zT13t2_0 it wr fi mk nu fu tx) (0 : Int) b u18 → Q (SV.tup ([] : List Sx.SV),
   T13.rheap (Prod.fst u18) (ac ++ Prod.snd u18), [1, 2, 3, 4])) (((0 : Int) ≤ (5 : Int) ∧ (5 : Int) < (↑(6 : Nat) : Int)) ∧ (zT13t2_8 it wr fi mk nu fu tx ac b) ∧ ∀ (u19 :
   T13.PS × List (Ty.den T13.aty)), T13.ActOf9 (zT13t2_0 it wr fi mk nu fu tx) (9 : Int) b u19 → Q (SV.tup ([] : List Sx.SV), T13.rheap (Prod.fst u19) (ac ++ Prod.snd u19),
   [1, 2, 3, 4]))))))) (br (decide (b < (32 : Int))) ((zT13t2_2) ∧ ((0 : Int) ≤ (0 : Int) ∧ (0 : Int) < (↑(6 : Nat) : Int)) ∧ (zT13t2_3 it wr fi mk nu fu tx ac b) ∧ ∀ (u20 :
   T13.PS × List (Ty.den T13.aty)), T13.ActOf9 (zT13t2_0 it wr fi mk nu fu tx) (2 : Int) b u20 → Q (SV.tup ([] : List Sx.SV), T13.rheap (Prod.fst u20) (ac ++ Prod.snd u20),
   [1, 2, 3, 4])) (br (decide (b < (48 : Int))) ((zT13t2_2) ∧ ((0 : Int) ≤ (1 : Int) ∧ (1 : Int) < (↑(6 : Nat) : Int)) ∧ (zT13t2_4 it wr fi mk nu fu tx ac b) ∧ ∀ (u21 :
   T13.PS × List (Ty.den T13.aty)), T13.ActOf9 (zT13t2_0 it wr fi mk nu fu tx) (3 : Int) b u21 → Q (SV.tup ([] : List Sx.SV), T13.rheap (Prod.fst u21) (ac ++ Prod.snd u21),
   [1, 2, 3, 4])) (br (decide (b < (64 : Int))) ((zT13t2_2) ∧ ((0 : Int) ≤ (2 : Int) ∧ (2 : Int) < (↑(6 : Nat) : Int)) ∧ (zT13t2_5 it wr fi mk nu fu tx ac b) ∧ ∀ (u22 :
   T13.PS × List (Ty.den T13.aty)), T13.ActOf9 (zT13t2_0 it wr fi mk nu fu tx) (5 : Int) b u22 → Q (SV.tup ([] : List Sx.SV), T13.rheap (Prod.fst u22) (ac ++ Prod.snd u22),
   [1, 2, 3, 4])) (br (decide (b < (127 : Int))) ((zT13t2_2) ∧ ((0 : Int) ≤ (3 : Int) ∧ (3 : Int) < (↑(6 : Nat) : Int)) ∧ (zT13t2_6 it wr fi mk nu fu tx ac b) ∧ ∀ (u23 :
   T13.PS × List (Ty.den T13.aty)), T13.ActOf9 (zT13t2_0 it wr fi mk nu fu tx) (6 : Int) b u23 → Q (SV.tup ([] : List Sx.SV), T13.rheap (Prod.fst u23) (ac ++ Prod.snd u23),
   [1, 2, 3, 4])) (br (b == (127 : Int)) ((zT13t2_2) ∧ ((0 : Int) ≤ (4 : Int) ∧ (4 : Int) < (↑(6 : Nat) : Int)) ∧ (zT13t2_7 it wr fi mk nu fu tx ac b) ∧ ∀ (u24 : T13.PS ×
   List (Ty.den T13.aty)), T13.ActOf9 (zT13t2_0 it wr fi mk nu fu tx) (0 : Int) b u24 → Q (SV.tup ([] : List Sx.SV), T13.rheap (Prod.fst u24) (ac ++ Prod.snd u24), [1, 2, 3,
   4])) ((zT13t2_2) ∧ ((0 : Int) ≤ (5 : Int) ∧ (5 : Int) < (↑(6 : Nat) : Int)) ∧ (zT13t2_8 it wr fi mk nu fu tx ac b) ∧ ∀ (u25 : T13.PS × List (Ty.den T13.aty)), T13.ActOf9
   (zT13t2_0 it wr fi mk nu fu tx) (9 : Int) b u25 → Q (SV.tup ([] : List Sx.SV), T13.rheap (Prod.fst u25) (ac ++ Prod.snd u25), [1, 2, 3, 4]))))))))))) (by kernel_rfl) ?_
  delta zT13t2_0 zT13t2_1 zT13t2_2 zT13t2_3 zT13t2_4 zT13t2_5 zT13t2_6 zT13t2_7 zT13t2_8
  have hbs : bytesOf Tryz.prog 69 = 88 := by kernel_rfl
  have hbt : bytesOf Tryz.prog 5 = 1 := by kernel_rfl
  have hbi : bytesOf Tryz.prog 3 = 8 := by kernel_rfl
  have hbr : bytesOf Tryz.prog 21 = 4 := by kernel_rfl
  have es : strInts e0 = [] := rfl
  have hfit : ∀ w : Int, (w = 5 → 48 ≤ b ∧ b < 64) → (w = 1 → (2 : Int) = 0) → Fits9 ⟨2, strInts e0, it, wr, fi, mk, nu, fu, tx⟩ w b ac.length := fun w h5 h1 => ⟨hok, hb, by omega, h1, h5⟩
  have hgood : ∀ w : Int, Good (PS.actW ⟨2, strInts e0, it, wr, fi, mk, nu, fu, tx⟩ w b).1.half := fun w => PS.actW_half _ _ _ hok.half
  have hgood9 : Good (pstep (PS.begin ⟨2, strInts e0, it, wr, fi, mk, nu, fu, tx⟩ 0) b).1.half := pstep_half _ b hok.half
  simp only [List.take_length, List.drop_zero, hbs, hbt, hbi, hbr]
  rcases kinds hb with ⟨hb1, hk⟩ | ⟨hb1, hk⟩ | ⟨hb1, hk⟩ | ⟨hb1, hk⟩ | ⟨hb1, hk⟩ | ⟨hb1, hk⟩ | ⟨hb1, hk⟩ | ⟨hb1, hk⟩ | ⟨hb1, hk⟩
  all_goals obtain ⟨k1, k2, k3, k4, k5, k6, k7, k8⟩ := hk
  all_goals simp only [k1, k2, k3, k4, k5, k6, k7, k8, br_true, br_false]
  all_goals repeat' first
    | (intro _ _)
    | (refine br_intro (fun h => ?_) (fun h => ?_))
    | (refine And.intro ?_ ?_)
  all_goals first
    | omega
    | exact hfit _ (fun e => by omega) (fun e => by omega)
    | exact True.intro
    | with_reducible rfl
    | skip
  all_goals simp only [beq_iff_eq, beq_eq_false_iff_ne, decide_eq_true_eq, decide_eq_false_iff_not, ne_eq] at k1 k2 k3 k4 k5 k6 k7 k8
  all_goals first
    | (rename_i r hr
       obtain ⟨hr⟩ := hr
       rw [if_neg (by decide)] at hr
       subst hr
       refine goes_r hq ?_ ?_ (hgood _) rfl)
    | (rename_i r hr
       obtain ⟨hr⟩ := hr
       rw [if_pos rfl] at hr
       subst hr
       refine goes_r hq ?_ ?_ hgood9 rfl)
    | refine hq _ _ _ _ _ _ _ _ _ _ _ _ _ _ _ ?_ ?_ ?_ ?_ ?_ ?_ rfl
  all_goals clear hq hfit hgood hgood9
  all_goals first
    | with_reducible rfl
    | (simp only [List.length_append, List.length_cons, List.length_nil]; done)
    | (simp [pstep, PS.flushed, PS.go, PS.act, PS.actW, PS.bell, PS.begin, PS.endA, PS.print, aOsc, aDcs, e0, *]; done)
end T13
end
