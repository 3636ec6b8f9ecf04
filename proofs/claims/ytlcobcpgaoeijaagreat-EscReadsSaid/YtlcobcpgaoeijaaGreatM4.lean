/- Part of a proof: the walks of the functions that the law calls, and their plain laws; no condition. -/
import Derived.Test.YtlcobcpgaoeijaaGreatSxT
import Derived.Test.YtlcobcpgaoeijaaGreatM3
set_option linter.unusedVariables false
set_option linter.unusedSimpArgs false
section
open Go Sx Go.Proofs T12
namespace T13
set_option maxRecDepth 100000
set_option maxHeartbeats 4000000
attribute [local irreducible] Tree.Leads
/-- What an act of the table leads to. -/
structure ActOf (s : PS) (w b : Int) (r : PS × List aty.den) : Prop where
  eq : r = s.actW w b
/-- May it be done there? -/
structure Fits (s : PS) (w b : Int) (n : Nat) : Prop where
  ok : s.OK
  byte : Byte b
  few : n ≤ 1000000
  w1 : w = 1 → s.st = 0
  w5 : w = 5 → 48 ≤ b ∧ b < 64
def rheap (r : PS) (ac : List aty.den) : Heap := pheap r.st (bsOf r.half) r.inter r.wrong r.first r.mark r.nums r.full r.text ac
noncomputable def s32m : Summ := fun args H => match args, H with
  | [.ptr 0 0, .lit (.int .i64 w), .lit (.int .u8 b)], [.cells 46 cs, .row 5 (.int .u8) it, .row 3 (.int .i64) nu, .row 5 (.int .u8) tx, .drow 69 3 (.pair (.int .i64) (.pair (.int .i32) (.pair (.int .i64) (.pair (.int .i64) (.pair (.imm (.int .i64)) (.pair .str .str)))))) ac] => match cs.drop 33 with
    | [.lit (.int .i64 st), .lit (.string h), .sl 1 1 0 ni, .lit (.bool wr), .lit (.bool fi), .lit (.int .i64 mk), .sl 2 1 0 nn, .lit (.bool fu), .sl 3 1 0 nt, .sl 4 7 0 no] =>
      .need ((0 ≤ w ∧ w ≤ 8) ∧ cs = pcells st h it.length wr fi mk nu.length fu tx.length ac.length ∧ Fits ⟨st, strInts h, it, wr, fi, mk, nu, fu, tx⟩ w b ac.length)
        (.any (PS × List aty.den) (ActOf ⟨st, strInts h, it, wr, fi, mk, nu, fu, tx⟩ w b) fun r => .any (List Nat) (fun mv => memN 0 mv = false) fun mv => .ret (.tup [], rheap r.1 (ac ++ r.2), mv))
    | _ => .fail
  | _, _ => .fail
theorem goesW_of {s : PS} {w b : Int} {ac : List aty.den} {Q : SV × Heap × List Nat → Prop} (hq : ∀ r : PS × List aty.den, ActOf s w b r → ∀ mv : List Nat, memN 0 mv = false → Q (.tup [], rheap r.1 (ac ++ r.2), mv)) (hok : Good (s.actW w b).1.half) : GoesW (s.actW w b) ac Q := by
  intro st h it ni wr fi mk nu nn fu tx nt R no mv e1 e2 e3 e4 e5 e6 e7
  have := hq (s.actW w b) ⟨rfl⟩ mv e7
  subst e2; subst e3; subst e4; subst e5; subst e6
  have hh : h = bsOf (s.actW w b).1.half := by rw [e1]; exact (bsOf_strInts h).symm
  have e8 : rheap (s.actW w b).1 (ac ++ (s.actW w b).2) = rows st h it it.length wr fi mk nu nu.length fu tx tx.length (ac ++ (s.actW w b).2) (ac ++ (s.actW w b).2).length := by
    rw [rheap, ← hh, e1]; rfl
  rw [e8] at this
  exact this
theorem s32m_ok : SummOK Tryz.prog 61 s32m := by
  refine summ_of_body (fn := Tryz.f61) (c := Tryz.f61.body.get!) T10_ok (by kernel_rfl) (by kernel_rfl) (by kernel_rfl) fun args H Q hl => ?_
  unfold s32m at hl
  split at hl
  case h_2 => simp only [Tree.Leads] at hl
  rename_i w b cs it nu tx ac
  split at hl
  case h_2 => simp only [Tree.Leads] at hl
  rename_i st h ni wr fi mk nn fu nt no hcs
  simp only [Tree.Leads] at hl
  obtain ⟨⟨hw, he, hf⟩, hq⟩ := hl
  subst he
  have hg : Good (PS.actW ⟨st, strInts h, it, wr, fi, mk, nu, fu, tx⟩ w b).1.half := PS.actW_half _ _ _ hf.ok.half
  have hgo := goesW_of hq hg
  refine ⟨N22, ?_⟩
  rcases (show w = 0 ∨ w = 1 ∨ w = 2 ∨ w = 3 ∨ w = 4 ∨ w = 5 ∨ w = 6 ∨ w = 7 ∨ w = 8 by omega) with rfl | rfl | rfl | rfl | rfl | rfl | rfl | rfl | rfl
  · exact v32_0 st h it wr fi mk nu fu tx ac b Q hf.byte hf.few hf.ok hgo
  · exact v32_1 st h it wr fi mk nu fu tx ac b Q hf.byte hf.few hf.ok hgo
  · exact v32_2 st h it wr fi mk nu fu tx ac b Q hf.byte hf.few hf.ok hgo
  · exact v32_3 st h it wr fi mk nu fu tx ac b Q hf.byte hf.few hf.ok hgo
  · exact v32_4 st h it wr fi mk nu fu tx ac b Q hf.byte hf.few hf.ok hgo
  · exact v32_5 st h it wr fi mk nu fu tx ac b Q hf.byte (hf.w5 rfl) hf.few hf.ok hgo
  · exact v32_6 st h it wr fi mk nu fu tx ac b Q hf.byte hf.few hf.ok hgo
  · exact v32_7 st h it wr fi mk nu fu tx ac b Q hf.byte hf.few hf.ok hgo
  · exact v32_8 st h it wr fi mk nu fu tx ac b Q hf.byte hf.few hf.ok hgo
/-- act, but for what goes back. -/
noncomputable def s32 : Summ := fun args H => match args, H with
  | [.ptr 0 0, .lit (.int .i64 w), .lit (.int .u8 b)], [.cells 46 cs, .row 5 (.int .u8) it, .row 3 (.int .i64) nu, .row 5 (.int .u8) tx, .drow 69 3 (.pair (.int .i64) (.pair (.int .i32) (.pair (.int .i64) (.pair (.int .i64) (.pair (.imm (.int .i64)) (.pair .str .str)))))) ac] => match cs.drop 33 with
    | [.lit (.int .i64 st), .lit (.string h), .sl 1 1 0 ni, .lit (.bool wr), .lit (.bool fi), .lit (.int .i64 mk), .sl 2 1 0 nn, .lit (.bool fu), .sl 3 1 0 nt, .sl 4 7 0 no] =>
      .need ((0 ≤ w ∧ w ≤ 8) ∧ cs = pcells st h it.length wr fi mk nu.length fu tx.length ac.length ∧ Fits ⟨st, strInts h, it, wr, fi, mk, nu, fu, tx⟩ w b ac.length)
        (.any (PS × List aty.den) (ActOf ⟨st, strInts h, it, wr, fi, mk, nu, fu, tx⟩ w b) fun r => .ret (.tup [], rheap r.1 (ac ++ r.2), [1, 2, 3, 4]))
    | _ => .fail
  | _, _ => .fail
theorem s32_ok : SummOK Tryz.prog 61 s32 := by
  refine summ_mv s32m_ok fun args H Q hl => ?_
  unfold s32 at hl
  split at hl
  case h_2 => simp only [Tree.Leads] at hl
  split at hl
  case h_2 => simp only [Tree.Leads] at hl
  rename_i st h ni wr fi mk nn fu nt no hcs
  simp only [s32m, hcs, Tree.Leads]
  simp only [Tree.Leads] at hl
  refine ⟨hl.1, fun r hr mv hmv => ⟨[1, 2, 3, 4], fun k hk hm => ?_, hl.2 r hr⟩⟩
  have : k = 0 := by
    match k, hk, hm with
    | 0, _, _ => rfl
    | 1, _, hm => cases hm
    | 2, _, hm => cases hm
    | 3, _, hm => cases hm
    | 4, _, hm => cases hm
  subst this
  exact hmv
noncomputable def U1 : Table := T10.add 61 (.go s32)
theorem U1_ok : TableOK Tryz.prog U1 := add_ok T10_ok s32_ok
theorem goes_r {s : PS} {b : Int} {ac X : List aty.den} {Q : SV × Heap × List Nat → Prop} {r : PS × List aty.den} {mv : List Nat} (hq : Goes s ac b Q) (e1 : (pstep s b).1 = r.1) (e2 : X = ac ++ (pstep s b).2) (hg : Good r.1.half) (hm : memN 0 mv = false) : Q (.tup [], rheap r.1 X, mv) := by
  refine hq _ _ _ _ _ _ _ _ _ _ _ _ _ _ _ ?_ e2 rfl rfl rfl rfl hm
  rw [e1, good_bsOf hg]
end T13
end
section
open Go Sx Go.Proofs T12
namespace T13
set_option maxRecDepth 100000
set_option maxHeartbeats 8000000
attribute [local irreducible] Tree.Leads
noncomputable abbrev zT13t3_1 (it : List Int) (wr : Bool) (fi : Bool) (mk : Int) (nu : List Int) (fu : Bool) (tx : List Int) : T13.PS := { st := (3 : Int), half := Sx.strInts T13.e0, inter := it, wrong := wr, first := fi, mark := mk, nums := nu, full := fu, text := tx }
noncomputable abbrev zT13t3_0 (it : List Int) (wr : Bool) (fi : Bool) (mk : Int) (nu : List Int) (fu : Bool) (tx : List Int) (ac : List aty.den) (b : Int) := (((0 : Int) ≤ (7 : Int) ∧ (7 : Int) ≤ (8 : Int)) ∧ T13.pcells (3 : Int) T13.e0 (List.length it) wr fi mk (List.length nu) fu (List.length tx) (List.length ac) = T13.pcells (3 : Int) T13.e0 (List.length it) wr fi mk (List.length nu) fu (List.length tx) (List.length ac) ∧ T13.Fits (zT13t3_1 it wr fi mk nu fu tx) (7 : Int) b (List.length ac))
noncomputable abbrev zT13t3_2 (it : List Int) (wr : Bool) (fi : Bool) (mk : Int) (nu : List Int) (fu : Bool) (tx : List Int) (ac : List aty.den) (b : Int) := (((0 : Int) ≤ (8 : Int) ∧ (8 : Int) ≤ (8 : Int)) ∧ T13.pcells (3 : Int) T13.e0 (List.length it) wr fi mk (List.length nu) fu (List.length tx) (List.length ac) = T13.pcells (3 : Int) T13.e0 (List.length it) wr fi mk (List.length nu) fu (List.length tx) (List.length ac) ∧ T13.Fits (zT13t3_1 it wr fi mk nu fu tx) (8 : Int) b (List.length ac))
noncomputable abbrev zT13t3_3 := ((0 : Int) ≤ (3 : Int) ∧ (3 : Int) < (↑(5 : Nat) : Int))
theorem v22_3 (it : List Int) (wr fi : Bool) (mk : Int) (nu : List Int) (fu : Bool) (tx : List Int) (ac : List aty.den) (b : Int) (Q : SV × Heap × List Nat → Prop) (hb : Byte b) (hac : ac.length ≤ 900000) (hok : PS.OK ⟨3, strInts e0, it, wr, fi, mk, nu, fu, tx⟩)
    (hq : Goes ⟨3, strInts e0, it, wr, fi, mk, nu, fu, tx⟩ ac b Q) : (bodySumm U1 Tryz.prog Tryz.f17 N22 [.ptr 0 0, .lit (.int .u8 b)] (pheap 3 e0 it wr fi mk nu fu tx ac)).Leads Q := by
  refine Sx.by_text (q :=
   br (b == (24 : Int)) (br (b == (24 : Int)) (Q (SV.tup ([] : List Sx.SV), T13.rows (0 : Int) T13.e0 [] 0 false true (0 : Int) [] 0 false [] 0 ac (List.length ac), [1, 2,
   3])) (br (b == (27 : Int)) (0 + List.length tx ≤ List.length tx ∧ 0 ≤ 0 ∧ (List.length ac = List.length ac ∧ 1 = 1) ∧ ((↑(List.length ac + 1) : Int) ≤ (9223372036854775807
   : Int) ∧ (List.length ac + 1) * Sx.bytesOf Go.Proofs.Tryz.prog 69 ≤ 140737488355328) ∧ Q (SV.tup ([] : List Sx.SV), T13.rows (1 : Int) T13.e0 [] 0 false true (0 : Int) []
   0 false [] 0 (ac ++ [((5 : Int), (0 : Int), (0 : Int), (0 : Int), [], { data := #[] }, Sx.bsOf (List.take (List.length tx) (List.drop 0 tx)))]) (List.length ac + 1), [1,
   2, 3, 4])) (∀ (u0 : Bool), True → br u0 ((zT13t3_3) ∧ br (decide (b < (32 : Int))) (((0 : Int) ≤ (0 : Int) ∧ (0 : Int) < (↑(6 : Nat) : Int)) ∧ (zT13t3_2 it wr fi mk nu fu
   tx ac b) ∧ ∀ (u1 : T13.PS × List (Ty.den T13.aty)), T13.ActOf (zT13t3_1 it wr fi mk nu fu tx) (8 : Int) b u1 → Q (SV.tup ([] : List Sx.SV), T13.rheap (Prod.fst u1) (ac ++
   Prod.snd u1), [1, 2, 3, 4])) (br (decide (b < (48 : Int))) (((0 : Int) ≤ (1 : Int) ∧ (1 : Int) < (↑(6 : Nat) : Int)) ∧ (zT13t3_0 it wr fi mk nu fu tx ac b) ∧ ∀ (u2 :
   T13.PS × List (Ty.den T13.aty)), T13.ActOf (zT13t3_1 it wr fi mk nu fu tx) (7 : Int) b u2 → Q (SV.tup ([] : List Sx.SV), T13.rheap (Prod.fst u2) (ac ++ Prod.snd u2), [1,
   2, 3, 4])) (br (decide (b < (64 : Int))) (((0 : Int) ≤ (2 : Int) ∧ (2 : Int) < (↑(6 : Nat) : Int)) ∧ (zT13t3_0 it wr fi mk nu fu tx ac b) ∧ ∀ (u3 : T13.PS × List (Ty.den
   T13.aty)), T13.ActOf (zT13t3_1 it wr fi mk nu fu tx) (7 : Int) b u3 → Q (SV.tup ([] : List Sx.SV), T13.rheap (Prod.fst u3) (ac ++ Prod.snd u3), [1, 2, 3, 4])) (br (decide
   (b < (127 : Int))) (((0 : Int) ≤ (3 : Int) ∧ (3 : Int) < (↑(6 : Nat) : Int)) ∧ (zT13t3_0 it wr fi mk nu fu tx ac b) ∧ ∀ (u4 : T13.PS × List (Ty.den T13.aty)), T13.ActOf
   (zT13t3_1 it wr fi mk nu fu tx) (7 : Int) b u4 → Q (SV.tup ([] : List Sx.SV), T13.rheap (Prod.fst u4) (ac ++ Prod.snd u4), [1, 2, 3, 4])) (br (b == (127 : Int)) (((0 :
   Int) ≤ (4 : Int) ∧ (4 : Int) < (↑(6 : Nat) : Int)) ∧ (zT13t3_0 it wr fi mk nu fu tx ac b) ∧ ∀ (u5 : T13.PS × List (Ty.den T13.aty)), T13.ActOf (zT13t3_1 it wr fi mk nu fu
   tx) (7 : Int) b u5 → Q (SV.tup ([] : List Sx.SV), T13.rheap (Prod.fst u5) (ac ++ Prod.snd u5), [1, 2, 3, 4])) (((0 : Int) ≤ (5 : Int) ∧ (5 : Int) < (↑(6 : Nat) : Int)) ∧
   (zT13t3_0 it wr fi mk nu fu tx ac b) ∧ ∀ (u6 : T13.PS × List (Ty.den T13.aty)), T13.ActOf (zT13t3_1 it wr fi mk nu fu tx) (7 : Int) b u6 → Q (SV.tup ([] : List Sx.SV),
   T13.rheap (Prod.fst u6) (ac ++ Prod.snd u6), [1, 2, 3, 4]))))))) (br (decide (b < (32 : Int))) ((zT13t3_3) ∧ ((0 : Int) ≤ (0 : Int) ∧ (0 : Int) < (↑(6 : Nat) : Int)) ∧
   (zT13t3_2 it wr fi mk nu fu tx ac b) ∧ ∀ (u7 : T13.PS × List (Ty.den T13.aty)), T13.ActOf (zT13t3_1 it wr fi mk nu fu tx) (8 : Int) b u7 → Q (SV.tup ([] : List Sx.SV),
   T13.rheap (Prod.fst u7) (ac ++ Prod.snd u7), [1, 2, 3, 4])) (br (decide (b < (48 : Int))) ((zT13t3_3) ∧ ((0 : Int) ≤ (1 : Int) ∧ (1 : Int) < (↑(6 : Nat) : Int)) ∧
   (zT13t3_0 it wr fi mk nu fu tx ac b) ∧ ∀ (u8 : T13.PS × List (Ty.den T13.aty)), T13.ActOf (zT13t3_1 it wr fi mk nu fu tx) (7 : Int) b u8 → Q (SV.tup ([] : List Sx.SV),
   T13.rheap (Prod.fst u8) (ac ++ Prod.snd u8), [1, 2, 3, 4])) (br (decide (b < (64 : Int))) ((zT13t3_3) ∧ ((0 : Int) ≤ (2 : Int) ∧ (2 : Int) < (↑(6 : Nat) : Int)) ∧
   (zT13t3_0 it wr fi mk nu fu tx ac b) ∧ ∀ (u9 : T13.PS × List (Ty.den T13.aty)), T13.ActOf (zT13t3_1 it wr fi mk nu fu tx) (7 : Int) b u9 → Q (SV.tup ([] : List Sx.SV),
   T13.rheap (Prod.fst u9) (ac ++ Prod.snd u9), [1, 2, 3, 4])) (br (decide (b < (127 : Int))) ((zT13t3_3) ∧ ((0 : Int) ≤ (3 : Int) ∧ (3 : Int) < (↑(6 : Nat) : Int)) ∧
   (zT13t3_0 it wr fi mk nu fu tx ac b) ∧ ∀ (u10 : T13.PS × List (Ty.den T13.aty)), T13.ActOf (zT13t3_1 it wr fi mk nu fu tx) (7 : Int) b u10 → Q (SV.tup ([] : List Sx.SV),
   T13.rheap (Prod.fst u10) (ac ++ Prod.snd u10), [1, 2, 3, 4])) (br (b == (127 : Int)) ((zT13t3_3) ∧ ((0 : Int) ≤ (4 : Int) ∧ (4 : Int) < (↑(6 : Nat) : Int)) ∧ (zT13t3_0 it
   wr fi mk nu fu tx ac b) ∧ ∀ (u11 : T13.PS × List (Ty.den T13.aty)), T13.ActOf (zT13t3_1 it wr fi mk nu fu tx) (7 : Int) b u11 → Q (SV.tup ([] : List Sx.SV), T13.rheap
   (Prod.fst u11) (ac ++ Prod.snd u11), [1, 2, 3, 4])) ((zT13t3_3) ∧ ((0 : Int) ≤ (5 : Int) ∧ (5 : Int) < (↑(6 : Nat) : Int)) ∧ (zT13t3_0 it wr fi mk nu fu tx ac b) ∧ ∀ (u12
   : T13.PS × List (Ty.den T13.aty)), T13.ActOf (zT13t3_1 it wr fi mk nu fu tx) (7 : Int) b u12 → Q (SV.tup ([] : List Sx.SV), T13.rheap (Prod.fst u12) (ac ++ Prod.snd u12),
   [1, 2, 3, 4])))))))))) (br (b == (26 : Int)) (Q (SV.tup ([] : List Sx.SV), T13.rows (0 : Int) T13.e0 [] 0 false true (0 : Int) [] 0 false [] 0 ac (List.length ac), [1, 2,
   3])) (br (b == (27 : Int)) (0 + List.length tx ≤ List.length tx ∧ 0 ≤ 0 ∧ (List.length ac = List.length ac ∧ 1 = 1) ∧ ((↑(List.length ac + 1) : Int) ≤ (9223372036854775807
   : Int) ∧ (List.length ac + 1) * Sx.bytesOf Go.Proofs.Tryz.prog 69 ≤ 140737488355328) ∧ Q (SV.tup ([] : List Sx.SV), T13.rows (1 : Int) T13.e0 [] 0 false true (0 : Int) []
   0 false [] 0 (ac ++ [((5 : Int), (0 : Int), (0 : Int), (0 : Int), [], { data := #[] }, Sx.bsOf (List.take (List.length tx) (List.drop 0 tx)))]) (List.length ac + 1), [1,
   2, 3, 4])) (∀ (u13 : Bool), True → br u13 ((zT13t3_3) ∧ br (decide (b < (32 : Int))) (((0 : Int) ≤ (0 : Int) ∧ (0 : Int) < (↑(6 : Nat) : Int)) ∧ (zT13t3_2 it wr fi mk nu
   fu tx ac b) ∧ ∀ (u14 : T13.PS × List (Ty.den T13.aty)), T13.ActOf (zT13t3_1 it wr fi mk nu fu tx) (8 : Int) b u14 → Q (SV.tup ([] : List Sx.SV), T13.rheap (Prod.fst u14)
   (ac ++ Prod.snd u14), [1, 2, 3, 4])) (br (decide (b < (48 : Int))) (((0 : Int) ≤ (1 : Int) ∧ (1 : Int) < (↑(6 : Nat) : Int)) ∧ (zT13t3_0 it wr fi mk nu fu tx ac b) ∧ ∀
   (u15 : T13.PS × List (Ty.den T13.aty)), T13.ActOf (zT13t3_1 it wr fi mk nu fu tx) (7 : Int) b u15 → Q (SV.tup ([] : List Sx.SV), T13.rheap (Prod.fst u15) (ac ++ Prod.snd
   u15), [1, 2, 3, 4])) (br (decide (b < (64 : Int))) (((0 : Int) ≤ (2 : Int) ∧ (2 : Int) < (↑(6 : Nat) : Int)) ∧ (zT13t3_0 it wr fi mk nu fu tx ac b) ∧ ∀ (u16 : T13.PS ×
   List (Ty.den T13.aty)), T13.ActOf (zT13t3_1 it wr fi mk nu fu tx) (7 : Int) b u16 → Q (SV.tup ([] : List Sx.SV), T13.rheap (Prod.fst u16) (ac ++ Prod.snd u16), [1, 2, 3,
   4])) (br (decide (b < (127 : Int))) (((0 : Int) ≤ (3 : Int) ∧ (3 : Int) < (↑(6 : Nat) : Int)) ∧ (zT13t3_0 it wr fi mk nu fu tx ac b) ∧ ∀ (u17 : T13.PS × List (Ty.den
   T13.aty)), T13.ActOf (zT13t3_1 it wr fi mk nu fu tx) (7 : Int) b u17 → Q (SV.tup ([] : List Sx.SV), T13.rheap (Prod.fst u17) (ac ++ Prod.snd u17), [1, 2, 3, 4])) (br (b ==
   (127 : Int)) (((0 : Int) ≤ (4 : Int) ∧ (4 : Int) < (↑(6 : Nat) : Int)) ∧ (zT13t3_0 it wr fi mk nu fu tx ac b) ∧ ∀ (u18 : T13.PS × List (Ty.den T13.aty)), T13.ActOf
   (zT13t3_1 it wr fi mk nu fu tx) (7 : Int) b u18 → Q (SV.tup ([] : List Sx.SV), T13.rheap (Prod.fst u18) (ac ++ Prod.snd u18), [1, 2, 3, 4])) (((0 : Int) ≤ (5 : Int) ∧ (5 :
   Int) < (↑(6 : Nat) : Int)) ∧ (zT13t3_0 it wr fi mk nu fu tx ac b) ∧ ∀ (u19 : T13.PS × List (Ty.den T13.aty)), T13.ActOf (zT13t3_1 it wr fi mk nu fu tx) (7 : Int) b u19 → Q
   (SV.tup ([] : List Sx.SV), T13.rheap (Prod.fst u19) (ac ++ Prod.snd u19), [1, 2, 3, 4]))))))) (br (decide (b < (32 : Int))) ((zT13t3_3) ∧ ((0 : Int) ≤ (0 : Int) ∧ (0 :
   Int) < (↑(6 : Nat) : Int)) ∧ (zT13t3_2 it wr fi mk nu fu tx ac b) ∧ ∀ (u20 : T13.PS × List (Ty.den T13.aty)), T13.ActOf (zT13t3_1 it wr fi mk nu fu tx) (8 : Int) b u20 → Q
   (SV.tup ([] : List Sx.SV), T13.rheap (Prod.fst u20) (ac ++ Prod.snd u20), [1, 2, 3, 4])) (br (decide (b < (48 : Int))) ((zT13t3_3) ∧ ((0 : Int) ≤ (1 : Int) ∧ (1 : Int) <
   (↑(6 : Nat) : Int)) ∧ (zT13t3_0 it wr fi mk nu fu tx ac b) ∧ ∀ (u21 : T13.PS × List (Ty.den T13.aty)), T13.ActOf (zT13t3_1 it wr fi mk nu fu tx) (7 : Int) b u21 → Q
   (SV.tup ([] : List Sx.SV), T13.rheap (Prod.fst u21) (ac ++ Prod.snd u21), [1, 2, 3, 4])) (br (decide (b < (64 : Int))) ((zT13t3_3) ∧ ((0 : Int) ≤ (2 : Int) ∧ (2 : Int) <
   (↑(6 : Nat) : Int)) ∧ (zT13t3_0 it wr fi mk nu fu tx ac b) ∧ ∀ (u22 : T13.PS × List (Ty.den T13.aty)), T13.ActOf (zT13t3_1 it wr fi mk nu fu tx) (7 : Int) b u22 → Q
   (SV.tup ([] : List Sx.SV), T13.rheap (Prod.fst u22) (ac ++ Prod.snd u22), [1, 2, 3, 4])) (br (decide (b < (127 : Int))) ((zT13t3_3) ∧ ((0 : Int) ≤ (3 : Int) ∧ (3 : Int) <
   (↑(6 : Nat) : Int)) ∧ (zT13t3_0 it wr fi mk nu fu tx ac b) ∧ ∀ (u23 : T13.PS × List (Ty.den T13.aty)), T13.ActOf (zT13t3_1 it wr fi mk nu fu tx) (7 : Int) b u23 → Q
   (SV.tup ([] : List Sx.SV), T13.rheap (Prod.fst u23) (ac ++ Prod.snd u23), [1, 2, 3, 4])) (br (b == (127 : Int)) ((zT13t3_3) ∧ ((0 : Int) ≤ (4 : Int) ∧ (4 : Int) < (↑(6 :
   Nat) : Int)) ∧ (zT13t3_0 it wr fi mk nu fu tx ac b) ∧ ∀ (u24 : T13.PS × List (Ty.den T13.aty)), T13.ActOf (zT13t3_1 it wr fi mk nu fu tx) (7 : Int) b u24 → Q (SV.tup ([] :
   List Sx.SV), T13.rheap (Prod.fst u24) (ac ++ Prod.snd u24), [1, 2, 3, 4])) ((zT13t3_3) ∧ ((0 : Int) ≤ (5 : Int) ∧ (5 : Int) < (↑(6 : Nat) : Int)) ∧ (zT13t3_0 it wr fi mk
   nu fu tx ac b) ∧ ∀ (u25 : T13.PS × List (Ty.den T13.aty)), T13.ActOf (zT13t3_1 it wr fi mk nu fu tx) (7 : Int) b u25 → Q (SV.tup ([] : List Sx.SV), T13.rheap (Prod.fst
   u25) (ac ++ Prod.snd u25), [1, 2, 3, 4]))))))))))) (by kernel_rfl) ?_
  delta zT13t3_0 zT13t3_1 zT13t3_2 zT13t3_3
  have hbs : bytesOf Tryz.prog 69 = 88 := by kernel_rfl
  have hbt : bytesOf Tryz.prog 5 = 1 := by kernel_rfl
  have hbi : bytesOf Tryz.prog 3 = 8 := by kernel_rfl
  have hbr : bytesOf Tryz.prog 21 = 4 := by kernel_rfl
  have es : strInts e0 = [] := rfl
  have hfit : ∀ w : Int, (w = 5 → 48 ≤ b ∧ b < 64) → (w = 1 → (3 : Int) = 0) → Fits ⟨3, strInts e0, it, wr, fi, mk, nu, fu, tx⟩ w b ac.length := fun w h5 h1 => ⟨hok, hb, by omega, h1, h5⟩
  have hgood : ∀ w : Int, Good (PS.actW ⟨3, strInts e0, it, wr, fi, mk, nu, fu, tx⟩ w b).1.half := fun w => PS.actW_half _ _ _ hok.half
  simp only [List.take_length, List.drop_zero, hbs, hbt, hbi, hbr]
  rcases kinds hb with ⟨hb1, hk⟩ | ⟨hb1, hk⟩ | ⟨hb1, hk⟩ | ⟨hb1, hk⟩ | ⟨hb1, hk⟩ | ⟨hb1, hk⟩ | ⟨hb1, hk⟩ | ⟨hb1, hk⟩ | ⟨hb1, hk⟩
  all_goals obtain ⟨k1, k2, k3, k4, k5, k6, k7, k8⟩ := hk
  all_goals simp only [k1, k2, k3, k4, k5, k6, k7, k8, br_true, br_false]
  all_goals repeat' first
    | (intro _ _)
    | (refine br_intro (fun h => ?_) (fun h => ?_))
    | (refine And.intro ?_ ?_)
  all_goals first
    | omega
    | exact hfit _ (fun e => by omega) (fun e => by omega)
    | exact True.intro
    | with_reducible rfl
    | skip
  all_goals simp only [beq_iff_eq, beq_eq_false_iff_ne, decide_eq_true_eq, decide_eq_false_iff_not, ne_eq] at k1 k2 k3 k4 k5 k6 k7 k8
  all_goals first
    | (rename_i r hr
       obtain ⟨hr⟩ := hr
       subst hr
       refine goes_r hq ?_ ?_ (hgood _) rfl)
    | refine hq _ _ _ _ _ _ _ _ _ _ _ _ _ _ _ ?_ ?_ ?_ ?_ ?_ ?_ rfl
  all_goals clear hq hfit hgood
  all_goals first
    | with_reducible rfl
    | (simp only [List.length_append, List.length_cons, List.length_nil]; done)
    | (simp [pstep, PS.flushed, PS.go, PS.act, PS.actW, PS.bell, PS.begin, PS.endA, aOsc, aDcs, e0, *]; done)
end T13
end
section
open Go Sx Go.Proofs T12
namespace T13
set_option maxRecDepth 100000
set_option maxHeartbeats 8000000
attribute [local irreducible] Tree.Leads
noncomputable abbrev zT13t4_1 (it : List Int) (wr : Bool) (fi : Bool) (mk : Int) (nu : List Int) (fu : Bool) (tx : List Int) : T13.PS := { st := (4 : Int), half := Sx.strInts T13.e0, inter := it, wrong := wr, first := fi, mark := mk, nums := nu, full := fu, text := tx }
noncomputable abbrev zT13t4_0 (it : List Int) (wr : Bool) (fi : Bool) (mk : Int) (nu : List Int) (fu : Bool) (tx : List Int) (ac : List aty.den) (b : Int) := (((0 : Int) ≤ (7 : Int) ∧ (7 : Int) ≤ (8 : Int)) ∧ T13.pcells (4 : Int) T13.e0 (List.length it) wr fi mk (List.length nu) fu (List.length tx) (List.length ac) = T13.pcells (4 : Int) T13.e0 (List.length it) wr fi mk (List.length nu) fu (List.length tx) (List.length ac) ∧ T13.Fits (zT13t4_1 it wr fi mk nu fu tx) (7 : Int) b (List.length ac))
noncomputable abbrev zT13t4_2 (it : List Int) (wr : Bool) (fi : Bool) (mk : Int) (nu : List Int) (fu : Bool) (tx : List Int) (ac : List aty.den) (b : Int) := (((0 : Int) ≤ (0 : Int) ∧ (0 : Int) ≤ (8 : Int)) ∧ T13.pcells (4 : Int) T13.e0 (List.length it) wr fi mk (List.length nu) fu (List.length tx) (List.length ac) = T13.pcells (4 : Int) T13.e0 (List.length it) wr fi mk (List.length nu) fu (List.length tx) (List.length ac) ∧ T13.Fits (zT13t4_1 it wr fi mk nu fu tx) (0 : Int) b (List.length ac))
noncomputable abbrev zT13t4_3 := ((0 : Int) ≤ (4 : Int) ∧ (4 : Int) < (↑(5 : Nat) : Int))
theorem v22_4 (it : List Int) (wr fi : Bool) (mk : Int) (nu : List Int) (fu : Bool) (tx : List Int) (ac : List aty.den) (b : Int) (Q : SV × Heap × List Nat → Prop) (hb : Byte b) (hac : ac.length ≤ 900000) (hok : PS.OK ⟨4, strInts e0, it, wr, fi, mk, nu, fu, tx⟩)
    (hq : Goes ⟨4, strInts e0, it, wr, fi, mk, nu, fu, tx⟩ ac b Q) : (bodySumm U1 Tryz.prog Tryz.f17 N22 [.ptr 0 0, .lit (.int .u8 b)] (pheap 4 e0 it wr fi mk nu fu tx ac)).Leads Q := by
  refine Sx.by_text (q :=
   br (b == (24 : Int)) (br (b == (24 : Int)) (Q (SV.tup ([] : List Sx.SV), T13.rows (0 : Int) T13.e0 [] 0 false true (0 : Int) [] 0 false [] 0 ac (List.length ac), [1, 2,
   3])) (br (b == (27 : Int)) (0 + List.length tx ≤ List.length tx ∧ 0 ≤ 0 ∧ (List.length ac = List.length ac ∧ 1 = 1) ∧ ((↑(List.length ac + 1) : Int) ≤ (9223372036854775807
   : Int) ∧ (List.length ac + 1) * Sx.bytesOf Go.Proofs.Tryz.prog 69 ≤ 140737488355328) ∧ Q (SV.tup ([] : List Sx.SV), T13.rows (1 : Int) T13.e0 [] 0 false true (0 : Int) []
   0 false [] 0 (ac ++ [((6 : Int), (0 : Int), (0 : Int), (0 : Int), [], { data := #[] }, Sx.bsOf (List.take (List.length tx) (List.drop 0 tx)))]) (List.length ac + 1), [1,
   2, 3, 4])) (∀ (u0 : Bool), True → br u0 ((zT13t4_3) ∧ br (decide (b < (32 : Int))) (((0 : Int) ≤ (0 : Int) ∧ (0 : Int) < (↑(6 : Nat) : Int)) ∧ (zT13t4_2 it wr fi mk nu fu
   tx ac b) ∧ ∀ (u1 : T13.PS × List (Ty.den T13.aty)), T13.ActOf (zT13t4_1 it wr fi mk nu fu tx) (0 : Int) b u1 → Q (SV.tup ([] : List Sx.SV), T13.rheap (Prod.fst u1) (ac ++
   Prod.snd u1), [1, 2, 3, 4])) (br (decide (b < (48 : Int))) (((0 : Int) ≤ (1 : Int) ∧ (1 : Int) < (↑(6 : Nat) : Int)) ∧ (zT13t4_0 it wr fi mk nu fu tx ac b) ∧ ∀ (u2 :
   T13.PS × List (Ty.den T13.aty)), T13.ActOf (zT13t4_1 it wr fi mk nu fu tx) (7 : Int) b u2 → Q (SV.tup ([] : List Sx.SV), T13.rheap (Prod.fst u2) (ac ++ Prod.snd u2), [1,
   2, 3, 4])) (br (decide (b < (64 : Int))) (((0 : Int) ≤ (2 : Int) ∧ (2 : Int) < (↑(6 : Nat) : Int)) ∧ (zT13t4_0 it wr fi mk nu fu tx ac b) ∧ ∀ (u3 : T13.PS × List (Ty.den
   T13.aty)), T13.ActOf (zT13t4_1 it wr fi mk nu fu tx) (7 : Int) b u3 → Q (SV.tup ([] : List Sx.SV), T13.rheap (Prod.fst u3) (ac ++ Prod.snd u3), [1, 2, 3, 4])) (br (decide
   (b < (127 : Int))) (((0 : Int) ≤ (3 : Int) ∧ (3 : Int) < (↑(6 : Nat) : Int)) ∧ (zT13t4_0 it wr fi mk nu fu tx ac b) ∧ ∀ (u4 : T13.PS × List (Ty.den T13.aty)), T13.ActOf
   (zT13t4_1 it wr fi mk nu fu tx) (7 : Int) b u4 → Q (SV.tup ([] : List Sx.SV), T13.rheap (Prod.fst u4) (ac ++ Prod.snd u4), [1, 2, 3, 4])) (br (b == (127 : Int)) (((0 :
   Int) ≤ (4 : Int) ∧ (4 : Int) < (↑(6 : Nat) : Int)) ∧ (zT13t4_0 it wr fi mk nu fu tx ac b) ∧ ∀ (u5 : T13.PS × List (Ty.den T13.aty)), T13.ActOf (zT13t4_1 it wr fi mk nu fu
   tx) (7 : Int) b u5 → Q (SV.tup ([] : List Sx.SV), T13.rheap (Prod.fst u5) (ac ++ Prod.snd u5), [1, 2, 3, 4])) (((0 : Int) ≤ (5 : Int) ∧ (5 : Int) < (↑(6 : Nat) : Int)) ∧
   (zT13t4_0 it wr fi mk nu fu tx ac b) ∧ ∀ (u6 : T13.PS × List (Ty.den T13.aty)), T13.ActOf (zT13t4_1 it wr fi mk nu fu tx) (7 : Int) b u6 → Q (SV.tup ([] : List Sx.SV),
   T13.rheap (Prod.fst u6) (ac ++ Prod.snd u6), [1, 2, 3, 4]))))))) (br (decide (b < (32 : Int))) ((zT13t4_3) ∧ ((0 : Int) ≤ (0 : Int) ∧ (0 : Int) < (↑(6 : Nat) : Int)) ∧
   (zT13t4_2 it wr fi mk nu fu tx ac b) ∧ ∀ (u7 : T13.PS × List (Ty.den T13.aty)), T13.ActOf (zT13t4_1 it wr fi mk nu fu tx) (0 : Int) b u7 → Q (SV.tup ([] : List Sx.SV),
   T13.rheap (Prod.fst u7) (ac ++ Prod.snd u7), [1, 2, 3, 4])) (br (decide (b < (48 : Int))) ((zT13t4_3) ∧ ((0 : Int) ≤ (1 : Int) ∧ (1 : Int) < (↑(6 : Nat) : Int)) ∧
   (zT13t4_0 it wr fi mk nu fu tx ac b) ∧ ∀ (u8 : T13.PS × List (Ty.den T13.aty)), T13.ActOf (zT13t4_1 it wr fi mk nu fu tx) (7 : Int) b u8 → Q (SV.tup ([] : List Sx.SV),
   T13.rheap (Prod.fst u8) (ac ++ Prod.snd u8), [1, 2, 3, 4])) (br (decide (b < (64 : Int))) ((zT13t4_3) ∧ ((0 : Int) ≤ (2 : Int) ∧ (2 : Int) < (↑(6 : Nat) : Int)) ∧
   (zT13t4_0 it wr fi mk nu fu tx ac b) ∧ ∀ (u9 : T13.PS × List (Ty.den T13.aty)), T13.ActOf (zT13t4_1 it wr fi mk nu fu tx) (7 : Int) b u9 → Q (SV.tup ([] : List Sx.SV),
   T13.rheap (Prod.fst u9) (ac ++ Prod.snd u9), [1, 2, 3, 4])) (br (decide (b < (127 : Int))) ((zT13t4_3) ∧ ((0 : Int) ≤ (3 : Int) ∧ (3 : Int) < (↑(6 : Nat) : Int)) ∧
   (zT13t4_0 it wr fi mk nu fu tx ac b) ∧ ∀ (u10 : T13.PS × List (Ty.den T13.aty)), T13.ActOf (zT13t4_1 it wr fi mk nu fu tx) (7 : Int) b u10 → Q (SV.tup ([] : List Sx.SV),
   T13.rheap (Prod.fst u10) (ac ++ Prod.snd u10), [1, 2, 3, 4])) (br (b == (127 : Int)) ((zT13t4_3) ∧ ((0 : Int) ≤ (4 : Int) ∧ (4 : Int) < (↑(6 : Nat) : Int)) ∧ (zT13t4_0 it
   wr fi mk nu fu tx ac b) ∧ ∀ (u11 : T13.PS × List (Ty.den T13.aty)), T13.ActOf (zT13t4_1 it wr fi mk nu fu tx) (7 : Int) b u11 → Q (SV.tup ([] : List Sx.SV), T13.rheap
   (Prod.fst u11) (ac ++ Prod.snd u11), [1, 2, 3, 4])) ((zT13t4_3) ∧ ((0 : Int) ≤ (5 : Int) ∧ (5 : Int) < (↑(6 : Nat) : Int)) ∧ (zT13t4_0 it wr fi mk nu fu tx ac b) ∧ ∀ (u12
   : T13.PS × List (Ty.den T13.aty)), T13.ActOf (zT13t4_1 it wr fi mk nu fu tx) (7 : Int) b u12 → Q (SV.tup ([] : List Sx.SV), T13.rheap (Prod.fst u12) (ac ++ Prod.snd u12),
   [1, 2, 3, 4])))))))))) (br (b == (26 : Int)) (Q (SV.tup ([] : List Sx.SV), T13.rows (0 : Int) T13.e0 [] 0 false true (0 : Int) [] 0 false [] 0 ac (List.length ac), [1, 2,
   3])) (br (b == (27 : Int)) (0 + List.length tx ≤ List.length tx ∧ 0 ≤ 0 ∧ (List.length ac = List.length ac ∧ 1 = 1) ∧ ((↑(List.length ac + 1) : Int) ≤ (9223372036854775807
   : Int) ∧ (List.length ac + 1) * Sx.bytesOf Go.Proofs.Tryz.prog 69 ≤ 140737488355328) ∧ Q (SV.tup ([] : List Sx.SV), T13.rows (1 : Int) T13.e0 [] 0 false true (0 : Int) []
   0 false [] 0 (ac ++ [((6 : Int), (0 : Int), (0 : Int), (0 : Int), [], { data := #[] }, Sx.bsOf (List.take (List.length tx) (List.drop 0 tx)))]) (List.length ac + 1), [1,
   2, 3, 4])) (∀ (u13 : Bool), True → br u13 ((zT13t4_3) ∧ br (decide (b < (32 : Int))) (((0 : Int) ≤ (0 : Int) ∧ (0 : Int) < (↑(6 : Nat) : Int)) ∧ (zT13t4_2 it wr fi mk nu
   fu tx ac b) ∧ ∀ (u14 : T13.PS × List (Ty.den T13.aty)), T13.ActOf (zT13t4_1 it wr fi mk nu fu tx) (0 : Int) b u14 → Q (SV.tup ([] : List Sx.SV), T13.rheap (Prod.fst u14)
   (ac ++ Prod.snd u14), [1, 2, 3, 4])) (br (decide (b < (48 : Int))) (((0 : Int) ≤ (1 : Int) ∧ (1 : Int) < (↑(6 : Nat) : Int)) ∧ (zT13t4_0 it wr fi mk nu fu tx ac b) ∧ ∀
   (u15 : T13.PS × List (Ty.den T13.aty)), T13.ActOf (zT13t4_1 it wr fi mk nu fu tx) (7 : Int) b u15 → Q (SV.tup ([] : List Sx.SV), T13.rheap (Prod.fst u15) (ac ++ Prod.snd
   u15), [1, 2, 3, 4])) (br (decide (b < (64 : Int))) (((0 : Int) ≤ (2 : Int) ∧ (2 : Int) < (↑(6 : Nat) : Int)) ∧ (zT13t4_0 it wr fi mk nu fu tx ac b) ∧ ∀ (u16 : T13.PS ×
   List (Ty.den T13.aty)), T13.ActOf (zT13t4_1 it wr fi mk nu fu tx) (7 : Int) b u16 → Q (SV.tup ([] : List Sx.SV), T13.rheap (Prod.fst u16) (ac ++ Prod.snd u16), [1, 2, 3,
   4])) (br (decide (b < (127 : Int))) (((0 : Int) ≤ (3 : Int) ∧ (3 : Int) < (↑(6 : Nat) : Int)) ∧ (zT13t4_0 it wr fi mk nu fu tx ac b) ∧ ∀ (u17 : T13.PS × List (Ty.den
   T13.aty)), T13.ActOf (zT13t4_1 it wr fi mk nu fu tx) (7 : Int) b u17 → Q (SV.tup ([] : List Sx.SV), T13.rheap (Prod.fst u17) (ac ++ Prod.snd u17), [1, 2, 3, 4])) (br (b ==
   (127 : Int)) (((0 : Int) ≤ (4 : Int) ∧ (4 : Int) < (↑(6 : Nat) : Int)) ∧ (zT13t4_0 it wr fi mk nu fu tx ac b) ∧ ∀ (u18 : T13.PS × List (Ty.den T13.aty)), T13.ActOf
   (zT13t4_1 it wr fi mk nu fu tx) (7 : Int) b u18 → Q (SV.tup ([] : List Sx.SV), T13.rheap (Prod.fst u18) (ac ++ Prod.snd u18), [1, 2, 3, 4])) (((0 : Int) ≤ (5 : Int) ∧ (5 :
   Int) < (↑(6 : Nat) : Int)) ∧ (zT13t4_0 it wr fi mk nu fu tx ac b) ∧ ∀ (u19 : T13.PS × List (Ty.den T13.aty)), T13.ActOf (zT13t4_1 it wr fi mk nu fu tx) (7 : Int) b u19 → Q
   (SV.tup ([] : List Sx.SV), T13.rheap (Prod.fst u19) (ac ++ Prod.snd u19), [1, 2, 3, 4]))))))) (br (decide (b < (32 : Int))) ((zT13t4_3) ∧ ((0 : Int) ≤ (0 : Int) ∧ (0 :
   Int) < (↑(6 : Nat) : Int)) ∧ (zT13t4_2 it wr fi mk nu fu tx ac b) ∧ ∀ (u20 : T13.PS × List (Ty.den T13.aty)), T13.ActOf (zT13t4_1 it wr fi mk nu fu tx) (0 : Int) b u20 → Q
   (SV.tup ([] : List Sx.SV), T13.rheap (Prod.fst u20) (ac ++ Prod.snd u20), [1, 2, 3, 4])) (br (decide (b < (48 : Int))) ((zT13t4_3) ∧ ((0 : Int) ≤ (1 : Int) ∧ (1 : Int) <
   (↑(6 : Nat) : Int)) ∧ (zT13t4_0 it wr fi mk nu fu tx ac b) ∧ ∀ (u21 : T13.PS × List (Ty.den T13.aty)), T13.ActOf (zT13t4_1 it wr fi mk nu fu tx) (7 : Int) b u21 → Q
   (SV.tup ([] : List Sx.SV), T13.rheap (Prod.fst u21) (ac ++ Prod.snd u21), [1, 2, 3, 4])) (br (decide (b < (64 : Int))) ((zT13t4_3) ∧ ((0 : Int) ≤ (2 : Int) ∧ (2 : Int) <
   (↑(6 : Nat) : Int)) ∧ (zT13t4_0 it wr fi mk nu fu tx ac b) ∧ ∀ (u22 : T13.PS × List (Ty.den T13.aty)), T13.ActOf (zT13t4_1 it wr fi mk nu fu tx) (7 : Int) b u22 → Q
   (SV.tup ([] : List Sx.SV), T13.rheap (Prod.fst u22) (ac ++ Prod.snd u22), [1, 2, 3, 4])) (br (decide (b < (127 : Int))) ((zT13t4_3) ∧ ((0 : Int) ≤ (3 : Int) ∧ (3 : Int) <
   (↑(6 : Nat) : Int)) ∧ (zT13t4_0 it wr fi mk nu fu tx ac b) ∧ ∀ (u23 : T13.PS × List (Ty.den T13.aty)), T13.ActOf (zT13t4_1 it wr fi mk nu fu tx) (7 : Int) b u23 → Q
   (SV.tup ([] : List Sx.SV), T13.rheap (Prod.fst u23) (ac ++ Prod.snd u23), [1, 2, 3, 4])) (br (b == (127 : Int)) ((zT13t4_3) ∧ ((0 : Int) ≤ (4 : Int) ∧ (4 : Int) < (↑(6 :
   Nat) : Int)) ∧ (zT13t4_0 it wr fi mk nu fu tx ac b) ∧ ∀ (u24 : T13.PS × List (Ty.den T13.aty)), T13.ActOf (zT13t4_1 it wr fi mk nu fu tx) (7 : Int) b u24 → Q (SV.tup ([] :
   List Sx.SV), T13.rheap (Prod.fst u24) (ac ++ Prod.snd u24), [1, 2, 3, 4])) ((zT13t4_3) ∧ ((0 : Int) ≤ (5 : Int) ∧ (5 : Int) < (↑(6 : Nat) : Int)) ∧ (zT13t4_0 it wr fi mk
   nu fu tx ac b) ∧ ∀ (u25 : T13.PS × List (Ty.den T13.aty)), T13.ActOf (zT13t4_1 it wr fi mk nu fu tx) (7 : Int) b u25 → Q (SV.tup ([] : List Sx.SV), T13.rheap (Prod.fst
   u25) (ac ++ Prod.snd u25), [1, 2, 3, 4]))))))))))) (by kernel_rfl) ?_
  delta zT13t4_0 zT13t4_1 zT13t4_2 zT13t4_3
  have hbs : bytesOf Tryz.prog 69 = 88 := by kernel_rfl
  have hbt : bytesOf Tryz.prog 5 = 1 := by kernel_rfl
  have hbi : bytesOf Tryz.prog 3 = 8 := by kernel_rfl
  have hbr : bytesOf Tryz.prog 21 = 4 := by kernel_rfl
  have es : strInts e0 = [] := rfl
  have hfit : ∀ w : Int, (w = 5 → 48 ≤ b ∧ b < 64) → (w = 1 → (4 : Int) = 0) → Fits ⟨4, strInts e0, it, wr, fi, mk, nu, fu, tx⟩ w b ac.length := fun w h5 h1 => ⟨hok, hb, by omega, h1, h5⟩
  have hgood : ∀ w : Int, Good (PS.actW ⟨4, strInts e0, it, wr, fi, mk, nu, fu, tx⟩ w b).1.half := fun w => PS.actW_half _ _ _ hok.half
  simp only [List.take_length, List.drop_zero, hbs, hbt, hbi, hbr]
  rcases kinds hb with ⟨hb1, hk⟩ | ⟨hb1, hk⟩ | ⟨hb1, hk⟩ | ⟨hb1, hk⟩ | ⟨hb1, hk⟩ | ⟨hb1, hk⟩ | ⟨hb1, hk⟩ | ⟨hb1, hk⟩ | ⟨hb1, hk⟩
  all_goals obtain ⟨k1, k2, k3, k4, k5, k6, k7, k8⟩ := hk
  all_goals simp only [k1, k2, k3, k4, k5, k6, k7, k8, br_true, br_false]
  all_goals repeat' first
    | (intro _ _)
    | (refine br_intro (fun h => ?_) (fun h => ?_))
    | (refine And.intro ?_ ?_)
  all_goals first
    | omega
    | exact hfit _ (fun e => by omega) (fun e => by omega)
    | exact True.intro
    | with_reducible rfl
    | skip
  all_goals simp only [beq_iff_eq, beq_eq_false_iff_ne, decide_eq_true_eq, decide_eq_false_iff_not, ne_eq] at k1 k2 k3 k4 k5 k6 k7 k8
  all_goals first
    | (rename_i r hr
       obtain ⟨hr⟩ := hr
       subst hr
       refine goes_r hq ?_ ?_ (hgood _) rfl)
    | refine hq _ _ _ _ _ _ _ _ _ _ _ _ _ _ _ ?_ ?_ ?_ ?_ ?_ ?_ rfl
  all_goals clear hq hfit hgood
  all_goals first
    | with_reducible rfl
    | (simp only [List.length_append, List.length_cons, List.length_nil]; done)
    | (simp [pstep, PS.flushed, PS.go, PS.act, PS.actW, PS.bell, PS.begin, PS.endA, aOsc, aDcs, e0, *]; done)
end T13
end
