/- Part of a proof: the walks of the functions that the law calls, and their plain laws; no condition. -/
import Derived.Test.YtlcobcpgaoeijaaGreatSxT
import Derived.Test.YtlcobcpgaoeijaaGreatM10
import Derived.Test.YtlcobcpgaoeijaaGreatM12
import Derived.Test.YtlcobcpgaoeijaaGreatM13
import Derived.Test.YtlcobcpgaoeijaaGreatM7
set_option linter.unusedVariables false
set_option linter.unusedSimpArgs false
section
open Go Sx Go.Proofs T12
namespace T13
set_option maxRecDepth 100000
set_option maxHeartbeats 8000000
attribute [local irreducible] Tree.Leads
/-- What a byte leads to, by the document: as the parser says. -/
structure FedR (r : RS) (c : Int) (x : RS × List aty.den) : Prop where
  all : ∀ p, Doc p r → x.2 = (pstep p c).2 ∧ Doc (pstep p c).1 x.1
structure DocOK (r : RS) : Prop where
  some : ∃ p, Doc p r
theorem goesR_of {r : RS} {c : Int} {st : Int} {Q : SV × Heap × List Nat → Prop} (hc : Byte c) (hst : ∀ p, Doc p r → p.st = st)
    (hq : ∀ x, FedR r c x → ∀ mv, memN 0 mv = false → Q (.sl 4 7 0 x.2.length, rH x.1 ++ [.row 69 aty x.2], mv)) : GoesR (RS.step st r c) Q := by
  intro st' B nb inter mk nu nn any first wrong bo nt A na mv e1 e2 e3 e4 e5 e6
  have := hq (RS.step st r c) ⟨fun p hp => by have := doc_step hp hc; rw [hst p hp] at this; exact ⟨this.1.symm, this.2⟩⟩ mv e6
  rw [e1] at this
  subst e2; subst e3; subst e4; subst e5
  exact this
theorem sne : sG ≠ sE ∧ sG ≠ sC ∧ sG ≠ sO ∧ sG ≠ sD ∧ sE ≠ sC ∧ sE ≠ sO ∧ sE ≠ sD ∧ sC ≠ sO ∧ sC ≠ sD ∧ sO ≠ sD := by decide
theorem doc_st {p : PS} {r : RS} (h : Doc p r) : r.st = stS p.st := by
  have := h.ok.st
  unfold stS
  by_cases h0 : p.st = 0
  · rw [if_pos h0]; exact h.g h0
  by_cases h1 : p.st = 1
  · rw [if_neg h0, if_pos h1]; exact (h.e h1).1
  by_cases h2 : p.st = 2
  · rw [if_neg h0, if_neg h1, if_pos h2]; exact (h.c h2).1
  by_cases h3 : p.st = 3
  · rw [if_neg h0, if_neg h1, if_neg h2, if_pos h3]; exact (h.o h3).1
  · rw [if_neg h0, if_neg h1, if_neg h2, if_neg h3]; exact (h.d (by omega)).1
theorem stS_inj {a b : Int} (ha : 0 ≤ a ∧ a ≤ 4) (hb : 0 ≤ b ∧ b ≤ 4) (h : stS a = stS b) : a = b := by
  obtain ⟨n1, n2, n3, n4, n5, n6, n7, n8, n9, n10⟩ := sne
  rcases (show a = 0 ∨ a = 1 ∨ a = 2 ∨ a = 3 ∨ a = 4 by omega) with rfl | rfl | rfl | rfl | rfl <;> rcases (show b = 0 ∨ b = 1 ∨ b = 2 ∨ b = 3 ∨ b = 4 by omega) with rfl | rfl | rfl | rfl | rfl
  all_goals first | rfl | (exfalso; simp only [stS] at h; simp at h; first | exact n1 h | exact n2 h | exact n3 h | exact n4 h | exact n5 h | exact n6 h | exact n7 h | exact n8 h | exact n9 h | exact n10 h | exact n1 h.symm | exact n2 h.symm | exact n3 h.symm | exact n4 h.symm | exact n5 h.symm | exact n6 h.symm | exact n7 h.symm | exact n8 h.symm | exact n9 h.symm | exact n10 h.symm)
noncomputable def sRF : Summ := fun args H => match args, H with
  | [.ptr 0 0, .lit (.int .u8 c)], [.cells 51 cs, .row 5 (.int .u8) B, .row 3 (.int .i64) nu, .row 5 (.int .u8) bo] => match cs with
    | [.lit (.string st), .sl 1 1 0 nb, .lit (.string inter), .lit (.int .i64 mk), .sl 2 1 0 nn, .lit (.bool any), .lit (.bool first), .lit (.bool wrong), .sl 3 1 0 nt] =>
      .need (DocOK ⟨st, B, inter, mk, nu, any, first, wrong, bo⟩ ∧ Byte c ∧ nb = B.length ∧ nn = nu.length ∧ nt = bo.length)
        (.any (RS × List aty.den) (FedR ⟨st, B, inter, mk, nu, any, first, wrong, bo⟩ c) fun x => .ret (.sl 4 7 0 x.2.length, rH x.1 ++ [.row 69 aty x.2], [1, 2, 3]))
    | _ => .fail
  | _, _ => .fail
theorem sRF_ok : SummOK Tryz.prog 21 sRF := by
  refine summ_of_body_mv (fn := Tryz.f21) (c := Tryz.f21.body.get!) R3_ok (by kernel_rfl) (by kernel_rfl) (by kernel_rfl) fun args H Q h => ?_
  unfold sRF at h
  split at h
  case h_2 => simp only [Tree.Leads] at h
  rename_i c cs B nu bo
  split at h
  case h_2 => simp only [Tree.Leads] at h
  rename_i st nb inter mk nn any first wrong nt
  simp only [Tree.Leads] at h
  obtain ⟨⟨⟨p, hd⟩, hc, rfl, rfl, rfl⟩, hq⟩ := h
  have hq2 : ∀ x, FedR ⟨st, B, inter, mk, nu, any, first, wrong, bo⟩ c x → ∀ mv, memN 0 mv = false → (fun r => ∃ mv, (∀ k, k < 4 → memN k mv = false → memN k r.2.2 = false) ∧ Q (r.1, r.2.1, mv)) (.sl 4 7 0 x.2.length, rH x.1 ++ [.row 69 aty x.2], mv) := fun x hx mv hmv => by
    refine ⟨[1, 2, 3], fun k hk hm => ?_, hq x hx⟩
    match k, hk, hm with
    | 0, _, _ => exact hmv
    | 1, _, hm => cases hm
    | 2, _, hm => cases hm
    | 3, _, hm => cases hm
  have hst := doc_st hd
  have hrange := hd.ok.st
  have huni : ∀ q, Doc q ⟨st, B, inter, mk, nu, any, first, wrong, bo⟩ → q.st = p.st := fun q hq => stS_inj hq.ok.st hd.ok.st (by rw [← doc_st hq, ← hst])
  have hg : GoesR (RS.step p.st ⟨st, B, inter, mk, nu, any, first, wrong, bo⟩ c) (fun r => ∃ mv, (∀ k, k < 4 → memN k mv = false → memN k r.2.2 = false) ∧ Q (r.1, r.2.1, mv)) := goesR_of hc huni hq2
  have hhalf : B = p.half := hd.half
  unfold RS.step at hg
  by_cases h0 : p.st = 0
  · rw [if_pos h0] at hg
    have e : st = sG := hd.g h0
    subst e
    exact ⟨Zr, vrg B inter mk nu any first wrong bo c hc (by rw [hhalf]; exact hd.good) _ hg⟩
  have hid : B = [] := by rw [hhalf]; exact hd.ok.idle h0
  subst hid
  by_cases h1 : p.st = 1
  · rw [if_neg h0, if_pos h1] at hg
    obtain ⟨e, hi, _⟩ := hd.e h1
    have e : st = sE := e
    have hsz : inter.size ≤ 3 := by
      have hi2 : inter = bsOf p.inter := hi
      rw [hi2, size_bsOf]; have := hd.ok.inter; omega
    subst e
    exact ⟨Zr, vre inter mk nu any first wrong bo c hc hsz _ hg⟩
  by_cases h2 : p.st = 2
  · rw [if_neg h0, if_neg h1, if_pos h2] at hg
    obtain ⟨e, ⟨hi, _⟩, _, _, _, hn⟩ := hd.c h2
    have e : st = sC := e
    have hsz : inter.size ≤ 3 := by
      have hi2 : inter = bsOf p.inter := hi
      rw [hi2, size_bsOf]; have := hd.ok.inter; omega
    subst e
    refine ⟨Zr, vrc inter mk nu any first wrong bo c hc hsz hn.le (fun ha => ?_) hn.bnd _ hg⟩
    by_cases hp : p.nums = []
    · have := (hn.none hp).1
      rw [show any = false from this] at ha; cases ha
    · have h8 := (hn.some hp).2.1
      have hl : 0 < p.nums.length := List.length_pos_iff.2 hp
      rw [h8, List.length_take] at hl
      show 0 < nu.length
      have : (⟨sC, [], inter, mk, nu, any, first, wrong, bo⟩ : RS).nums = nu := rfl
      rw [this] at hl; omega
  by_cases h3 : p.st = 3
  · rw [if_neg h0, if_neg h1, if_neg h2, if_pos h3] at hg
    obtain ⟨e, hb⟩ := hd.o h3
    have e : st = sO := e
    have hl : bo.length ≤ 100 := by
      have hb2 : bo = p.text := hb
      rw [hb2]; have := hd.ok.text; omega
    subst e
    exact ⟨Zr, vro [] inter mk nu any first wrong bo c hc hl _ hg⟩
  · rw [if_neg h0, if_neg h1, if_neg h2, if_neg h3] at hg
    obtain ⟨e, hb⟩ := hd.d (by omega)
    have e : st = sD := e
    have hl : bo.length ≤ 100 := by
      have hb2 : bo = p.text := hb
      rw [hb2]; have := hd.ok.text; omega
    subst e
    exact ⟨Zr, vrd [] inter mk nu any first wrong bo c hc hl _ hg⟩
end T13
end
section
open Go Sx Go.Proofs T12
namespace T13
set_option maxRecDepth 100000
set_option maxHeartbeats 8000000
attribute [local irreducible] Tree.Leads
noncomputable def R4 : Table := (Table.none.add 21 (.go sRF)).add 1700044 (.ext fun _ _ => .fail)
theorem R4_ok : TableOK Tryz.prog R4 := add_ok (add_ok none_ok sRF_ok) (fun _ _ _ _ _ _ _ _ _ h => by simp only [Tree.Leads] at h)
/-- What bytes lead to, by the document: as the parser says. -/
structure AllR (r : RS) (l : List Int) (x : RS × List aty.den) : Prop where
  all : ∀ p, Doc p r → x.2 = (pfeed p l).2 ∧ Doc (pfeed p l).1 x.1
def nilR : List (TypeId × Nat × TypeId × Ty) := [(51, 1, 5, .int .u8), (51, 4, 3, .int .i64), (51, 8, 5, .int .u8)]
noncomputable def AR (r0 : RS) (l : List Int) : Ann := { live := [0, 1, 5, 6], mv := [1, 2, 3], nilS := [(5, 69, aty)], nilH := nilR, head := fun vals _ => match vals with | [a, s, _, _] => { X := Nat × RS × List aty.den, inv := fun x => ([a, s, .sl 4 7 0 x.2.2.length, .lit (.int .i64 x.1)], rH x.2.1 ++ [.row 69 aty x.2.2]), ok := fun x => x.1 ≤ l.length ∧ AllR r0 (l.take x.1) x.2, mu := fun x => l.length - x.1 } | _ => { X := Nat, inv := fun _ => ([], []), ok := fun _ => False, mu := fun _ => 0 } }
theorem pfeed_one (s : PS) (b : Int) : pfeed s [b] = pstep s b := by simp [pfeed]
theorem allR_nil (r : RS) : AllR r [] (r, []) := ⟨fun p hp => ⟨rfl, hp⟩⟩
theorem allR_step {r : RS} {l : List Int} {x y : RS × List aty.den} {c : Int} (h : AllR r l x) (g : FedR x.1 c y) : AllR r (l ++ [c]) (y.1, x.2 ++ y.2) := ⟨fun p hp => by
  obtain ⟨h1, h2⟩ := h.all p hp
  obtain ⟨g1, g2⟩ := g.all _ h2
  rw [pfeed_snoc]
  exact ⟨by rw [h1, g1], g2⟩⟩
theorem allR_few {r : RS} {l : List Int} {x : RS × List aty.den} (h : AllR r l x) (hd : DocOK r) : x.2.length ≤ 3 * l.length := by
  obtain ⟨p, hp⟩ := hd.some
  rw [(h.all p hp).1]; exact pfeed_few p l
theorem allR_doc {r : RS} {l : List Int} {x : RS × List aty.den} (h : AllR r l x) (hd : DocOK r) : DocOK x.1 := by
  obtain ⟨p, hp⟩ := hd.some
  exact ⟨_, (h.all p hp).2⟩
theorem fedR_few {r : RS} {c : Int} {x : RS × List aty.den} (h : FedR r c x) (hd : DocOK r) : x.2.length ≤ 3 := by
  obtain ⟨p, hp⟩ := hd.some
  rw [(h.all p hp).1]; exact pstep_few p c
noncomputable abbrev zT13rg_0 (u2 : T13.RS × List (Ty.den T13.aty)) := [SV.lit (Value.string (T13.RS.st (Prod.fst u2))), SV.sl 1 1 0 (List.length (T13.RS.half (Prod.fst u2))), SV.lit (Value.string (T13.RS.inter (Prod.fst u2))), SV.lit (Value.int IntKind.i64 (T13.RS.mark (Prod.fst u2))), SV.sl 2 1 0 (List.length (T13.RS.nums (Prod.fst u2))), SV.lit (Value.bool (T13.RS.any (Prod.fst u2))), SV.lit (Value.bool (T13.RS.first (Prod.fst u2))), SV.lit (Value.bool (T13.RS.wrong (Prod.fst u2))), SV.sl 3 1 0 (List.length (T13.RS.body (Prod.fst u2)))]
noncomputable abbrev zT13rg_1 (u1 : Nat × T13.RS × List (Ty.den T13.aty)) : T13.RS := { st := T13.RS.st (Prod.fst (Prod.snd u1)), half := T13.RS.half (Prod.fst (Prod.snd u1)), inter := T13.RS.inter (Prod.fst (Prod.snd u1)), mark := T13.RS.mark (Prod.fst (Prod.snd u1)), nums := T13.RS.nums (Prod.fst (Prod.snd u1)), any := T13.RS.any (Prod.fst (Prod.snd u1)), first := T13.RS.first (Prod.fst (Prod.snd u1)), wrong := T13.RS.wrong (Prod.fst (Prod.snd u1)), body := T13.RS.body (Prod.fst (Prod.snd u1)) }
theorem v10r (r : RS) (s : ByteArray) (hd : DocOK r) (hs : s.size ≤ 100000) (Q : SV × Heap × List Nat → Prop) (hq : ∀ x, AllR r (strInts s) x → Q (.sl 4 7 0 x.2.length, rH x.1 ++ [.row 69 aty x.2], [1, 2, 3])) :
    (bodySumm R4 Tryz.prog Tryz.f10 (An1 0 (AR r (strInts s))) [.ptr 0 0, .lit (.string s)] (rH r)).Leads Q := by
  refine Sx.by_text (q :=
   (∃ (u0 : Nat × T13.RS × List (Ty.den T13.aty)), ([SV.ptr 0 0, SV.lit (Value.string s), SV.sl 4 7 0 0, SV.lit (Value.int IntKind.i64 (0 : Int))], [SO.cells 51 [SV.lit
   (Value.string (T13.RS.st r)), SV.sl 1 1 0 (List.length (T13.RS.half r)), SV.lit (Value.string (T13.RS.inter r)), SV.lit (Value.int IntKind.i64 (T13.RS.mark r)), SV.sl 2 1
   0 (List.length (T13.RS.nums r)), SV.lit (Value.bool (T13.RS.any r)), SV.lit (Value.bool (T13.RS.first r)), SV.lit (Value.bool (T13.RS.wrong r)), SV.sl 3 1 0 (List.length
   (T13.RS.body r))], SO.row 5 (Ty.int IntKind.u8) (T13.RS.half r), SO.row 3 (Ty.int IntKind.i64) (T13.RS.nums r), SO.row 5 (Ty.int IntKind.u8) (T13.RS.body r), SO.row 69
   T13.aty []]) = ([SV.ptr 0 0, SV.lit (Value.string s), SV.sl 4 7 0 (List.length (Prod.snd (Prod.snd u0))), SV.lit (Value.int IntKind.i64 (↑(Prod.fst u0) : Int))], [SO.cells
   51 [SV.lit (Value.string (T13.RS.st (Prod.fst (Prod.snd u0)))), SV.sl 1 1 0 (List.length (T13.RS.half (Prod.fst (Prod.snd u0)))), SV.lit (Value.string (T13.RS.inter
   (Prod.fst (Prod.snd u0)))), SV.lit (Value.int IntKind.i64 (T13.RS.mark (Prod.fst (Prod.snd u0)))), SV.sl 2 1 0 (List.length (T13.RS.nums (Prod.fst (Prod.snd u0)))), SV.lit
   (Value.bool (T13.RS.any (Prod.fst (Prod.snd u0)))), SV.lit (Value.bool (T13.RS.first (Prod.fst (Prod.snd u0)))), SV.lit (Value.bool (T13.RS.wrong (Prod.fst (Prod.snd
   u0)))), SV.sl 3 1 0 (List.length (T13.RS.body (Prod.fst (Prod.snd u0))))], SO.row 5 (Ty.int IntKind.u8) (T13.RS.half (Prod.fst (Prod.snd u0))), SO.row 3 (Ty.int
   IntKind.i64) (T13.RS.nums (Prod.fst (Prod.snd u0))), SO.row 5 (Ty.int IntKind.u8) (T13.RS.body (Prod.fst (Prod.snd u0))), SO.row 69 T13.aty (Prod.snd (Prod.snd u0))]) ∧
   Prod.fst u0 ≤ List.length (Sx.strInts s) ∧ T13.AllR r (List.take (Prod.fst u0) (Sx.strInts s)) (Prod.snd u0)) ∧ ∀ (u1 : Nat × T13.RS × List (Ty.den T13.aty)), Prod.fst u1
   ≤ List.length (Sx.strInts s) ∧ T13.AllR r (List.take (Prod.fst u1) (Sx.strInts s)) (Prod.snd u1) → br (decide ((↑(Prod.fst u1) : Int) < (↑(ByteArray.size s) : Int))) (((0
   : Int) ≤ (↑(Prod.fst u1) : Int) ∧ (↑(Prod.fst u1) : Int) < (↑(ByteArray.size s) : Int)) ∧ (T13.DocOK (zT13rg_1 u1) ∧ ((0 : Int) ≤ Sx.byteAt s (↑(Prod.fst u1) : Int) ∧
   Sx.byteAt s (↑(Prod.fst u1) : Int) ≤ (255 : Int)) ∧ List.length (T13.RS.half (Prod.fst (Prod.snd u1))) = List.length (T13.RS.half (Prod.fst (Prod.snd u1))) ∧ List.length
   (T13.RS.nums (Prod.fst (Prod.snd u1))) = List.length (T13.RS.nums (Prod.fst (Prod.snd u1))) ∧ List.length (T13.RS.body (Prod.fst (Prod.snd u1))) = List.length (T13.RS.body
   (Prod.fst (Prod.snd u1)))) ∧ ∀ (u2 : T13.RS × List (Ty.den T13.aty)), T13.FedR (zT13rg_1 u1) (Sx.byteAt s (↑(Prod.fst u1) : Int)) u2 → 0 + List.length (Prod.snd u2) ≤
   List.length (Prod.snd u2) ∧ List.length (Prod.snd (Prod.snd u1)) = List.length (Prod.snd (Prod.snd u1)) ∧ br (decide (List.length (List.take (List.length (Prod.snd u2))
   (List.drop 0 (Prod.snd u2))) = 0)) ((∃ (u3 : Nat × T13.RS × List (Ty.den T13.aty)), ([SV.ptr 0 0, SV.lit (Value.string s), SV.sl 4 7 0 (List.length (Prod.snd (Prod.snd
   u1))), SV.lit (Value.int IntKind.i64 (IntKind.wrap IntKind.i64 ((↑(Prod.fst u1) : Int) + (1 : Int))))], [SO.cells 51 (zT13rg_0 u2), SO.row 5 (Ty.int IntKind.u8)
   (T13.RS.half (Prod.fst u2)), SO.row 3 (Ty.int IntKind.i64) (T13.RS.nums (Prod.fst u2)), SO.row 5 (Ty.int IntKind.u8) (T13.RS.body (Prod.fst u2)), SO.row 69 T13.aty
   (Prod.snd (Prod.snd u1))]) = ([SV.ptr 0 0, SV.lit (Value.string s), SV.sl 4 7 0 (List.length (Prod.snd (Prod.snd u3))), SV.lit (Value.int IntKind.i64 (↑(Prod.fst u3) :
   Int))], [SO.cells 51 [SV.lit (Value.string (T13.RS.st (Prod.fst (Prod.snd u3)))), SV.sl 1 1 0 (List.length (T13.RS.half (Prod.fst (Prod.snd u3)))), SV.lit (Value.string
   (T13.RS.inter (Prod.fst (Prod.snd u3)))), SV.lit (Value.int IntKind.i64 (T13.RS.mark (Prod.fst (Prod.snd u3)))), SV.sl 2 1 0 (List.length (T13.RS.nums (Prod.fst (Prod.snd
   u3)))), SV.lit (Value.bool (T13.RS.any (Prod.fst (Prod.snd u3)))), SV.lit (Value.bool (T13.RS.first (Prod.fst (Prod.snd u3)))), SV.lit (Value.bool (T13.RS.wrong (Prod.fst
   (Prod.snd u3)))), SV.sl 3 1 0 (List.length (T13.RS.body (Prod.fst (Prod.snd u3))))], SO.row 5 (Ty.int IntKind.u8) (T13.RS.half (Prod.fst (Prod.snd u3))), SO.row 3 (Ty.int
   IntKind.i64) (T13.RS.nums (Prod.fst (Prod.snd u3))), SO.row 5 (Ty.int IntKind.u8) (T13.RS.body (Prod.fst (Prod.snd u3))), SO.row 69 T13.aty (Prod.snd (Prod.snd u3))]) ∧
   (Prod.fst u3 ≤ List.length (Sx.strInts s) ∧ T13.AllR r (List.take (Prod.fst u3) (Sx.strInts s)) (Prod.snd u3)) ∧ List.length (Sx.strInts s) - Prod.fst u3 < List.length
   (Sx.strInts s) - Prod.fst u1) ∧ True) (((↑(List.length (Prod.snd (Prod.snd u1)) + List.length (List.take (List.length (Prod.snd u2)) (List.drop 0 (Prod.snd u2)))) : Int) ≤
   (9223372036854775807 : Int) ∧ (List.length (Prod.snd (Prod.snd u1)) + List.length (List.take (List.length (Prod.snd u2)) (List.drop 0 (Prod.snd u2)))) * Sx.bytesOf
   Go.Proofs.Tryz.prog 69 ≤ 140737488355328) ∧ (∃ (u4 : Nat × T13.RS × List (Ty.den T13.aty)), ([SV.ptr 0 0, SV.lit (Value.string s), SV.sl 4 7 0 (List.length (Prod.snd
   (Prod.snd u1)) + List.length (List.take (List.length (Prod.snd u2)) (List.drop 0 (Prod.snd u2)))), SV.lit (Value.int IntKind.i64 (IntKind.wrap IntKind.i64 ((↑(Prod.fst u1)
   : Int) + (1 : Int))))], [SO.cells 51 (zT13rg_0 u2), SO.row 5 (Ty.int IntKind.u8) (T13.RS.half (Prod.fst u2)), SO.row 3 (Ty.int IntKind.i64) (T13.RS.nums (Prod.fst u2)),
   SO.row 5 (Ty.int IntKind.u8) (T13.RS.body (Prod.fst u2)), SO.row 69 T13.aty (Prod.snd (Prod.snd u1) ++ List.take (List.length (Prod.snd u2)) (List.drop 0 (Prod.snd u2)))])
   = ([SV.ptr 0 0, SV.lit (Value.string s), SV.sl 4 7 0 (List.length (Prod.snd (Prod.snd u4))), SV.lit (Value.int IntKind.i64 (↑(Prod.fst u4) : Int))], [SO.cells 51 [SV.lit
   (Value.string (T13.RS.st (Prod.fst (Prod.snd u4)))), SV.sl 1 1 0 (List.length (T13.RS.half (Prod.fst (Prod.snd u4)))), SV.lit (Value.string (T13.RS.inter (Prod.fst
   (Prod.snd u4)))), SV.lit (Value.int IntKind.i64 (T13.RS.mark (Prod.fst (Prod.snd u4)))), SV.sl 2 1 0 (List.length (T13.RS.nums (Prod.fst (Prod.snd u4)))), SV.lit
   (Value.bool (T13.RS.any (Prod.fst (Prod.snd u4)))), SV.lit (Value.bool (T13.RS.first (Prod.fst (Prod.snd u4)))), SV.lit (Value.bool (T13.RS.wrong (Prod.fst (Prod.snd
   u4)))), SV.sl 3 1 0 (List.length (T13.RS.body (Prod.fst (Prod.snd u4))))], SO.row 5 (Ty.int IntKind.u8) (T13.RS.half (Prod.fst (Prod.snd u4))), SO.row 3 (Ty.int
   IntKind.i64) (T13.RS.nums (Prod.fst (Prod.snd u4))), SO.row 5 (Ty.int IntKind.u8) (T13.RS.body (Prod.fst (Prod.snd u4))), SO.row 69 T13.aty (Prod.snd (Prod.snd u4))]) ∧
   (Prod.fst u4 ≤ List.length (Sx.strInts s) ∧ T13.AllR r (List.take (Prod.fst u4) (Sx.strInts s)) (Prod.snd u4)) ∧ List.length (Sx.strInts s) - Prod.fst u4 < List.length
   (Sx.strInts s) - Prod.fst u1) ∧ True)) (Q (SV.sl 4 7 0 (List.length (Prod.snd (Prod.snd u1))), [SO.cells 51 [SV.lit (Value.string (T13.RS.st (Prod.fst (Prod.snd u1)))),
   SV.sl 1 1 0 (List.length (T13.RS.half (Prod.fst (Prod.snd u1)))), SV.lit (Value.string (T13.RS.inter (Prod.fst (Prod.snd u1)))), SV.lit (Value.int IntKind.i64 (T13.RS.mark
   (Prod.fst (Prod.snd u1)))), SV.sl 2 1 0 (List.length (T13.RS.nums (Prod.fst (Prod.snd u1)))), SV.lit (Value.bool (T13.RS.any (Prod.fst (Prod.snd u1)))), SV.lit (Value.bool
   (T13.RS.first (Prod.fst (Prod.snd u1)))), SV.lit (Value.bool (T13.RS.wrong (Prod.fst (Prod.snd u1)))), SV.sl 3 1 0 (List.length (T13.RS.body (Prod.fst (Prod.snd u1))))],
   SO.row 5 (Ty.int IntKind.u8) (T13.RS.half (Prod.fst (Prod.snd u1))), SO.row 3 (Ty.int IntKind.i64) (T13.RS.nums (Prod.fst (Prod.snd u1))), SO.row 5 (Ty.int IntKind.u8)
   (T13.RS.body (Prod.fst (Prod.snd u1))), SO.row 69 T13.aty (Prod.snd (Prod.snd u1))], [1, 2, 3]))) (by kernel_rfl) ?_
  delta zT13rg_0 zT13rg_1
  have hbs : bytesOf Tryz.prog 69 = 88 := by kernel_rfl
  have hsz := strInts_size s
  refine ⟨⟨(0, r, []), rfl, by simp, allR_nil r⟩, fun x hx => ?_⟩
  obtain ⟨i, r1, A⟩ := x
  obtain ⟨hi, hA⟩ := hx
  simp only at hi hA ⊢
  have hd1 : DocOK r1 := allR_doc hA hd
  have hf := allR_few hA hd
  simp only at hf
  rw [List.length_take] at hf
  refine br_intro (fun hlt => ?_) (fun hge => ?_)
  · have hlt := of_decide_eq_true hlt
    obtain ⟨ht, hbyte⟩ := byteAt_take s i (by omega)
    refine ⟨by omega, ⟨hd1, hbyte, trivial, trivial, trivial⟩, fun y hy => ?_⟩
    have hy : FedR r1 (byteAt s i) y := hy
    have hfy := fedR_few hy hd1
    have hstep := allR_step hA hy
    rw [← ht] at hstep
    rw [List.drop_zero, List.take_length]
    refine ⟨by omega, trivial, br_intro (fun h => ⟨⟨(i + 1, y.1, A), ?_, ⟨by show i + 1 ≤ _; omega, ?_⟩, by show _ - (i + 1) < _; omega⟩, trivial⟩) (fun h => ⟨⟨by omega, by rw [hbs]; omega⟩, ⟨(i + 1, y.1, A ++ y.2), ?_, ⟨by show i + 1 ≤ _; omega, hstep⟩, by show _ - (i + 1) < _; omega⟩, trivial⟩)⟩
    · rw [wrap1 i (by omega)]
    · have h0 := of_decide_eq_true h
      have h0 : y.2 = [] := List.eq_nil_of_length_eq_zero h0
      rw [h0, List.append_nil] at hstep
      exact hstep
    · rw [wrap1 i (by omega)]
      simp only [List.length_append]
  · have hge := of_decide_eq_false hge
    have : i = s.size := by omega
    subst this
    have hA : AllR r (strInts s) (r1, A) := by rw [← hsz, List.take_length] at hA; exact hA
    exact hq _ hA
noncomputable def sRA : Summ := fun args H => match args, H with
  | [.ptr 0 0, .lit (.string s)], [.cells 51 cs, .row 5 (.int .u8) B, .row 3 (.int .i64) nu, .row 5 (.int .u8) bo] => match cs with
    | [.lit (.string st), .sl 1 1 0 nb, .lit (.string inter), .lit (.int .i64 mk), .sl 2 1 0 nn, .lit (.bool any), .lit (.bool first), .lit (.bool wrong), .sl 3 1 0 nt] =>
      .need (DocOK ⟨st, B, inter, mk, nu, any, first, wrong, bo⟩ ∧ s.size ≤ 100000 ∧ nb = B.length ∧ nn = nu.length ∧ nt = bo.length)
        (.any (RS × List aty.den) (AllR ⟨st, B, inter, mk, nu, any, first, wrong, bo⟩ (strInts s)) fun x => .ret (.sl 4 7 0 x.2.length, rH x.1 ++ [.row 69 aty x.2], [1, 2, 3]))
    | _ => .fail
  | _, _ => .fail
theorem sRA_ok : SummOK Tryz.prog 10 sRA := by
  refine summ_of_body (fn := Tryz.f10) (c := Tryz.f10.body.get!) R4_ok (by kernel_rfl) (by kernel_rfl) (by kernel_rfl) fun args H Q h => ?_
  unfold sRA at h
  split at h
  case h_2 => simp only [Tree.Leads] at h
  rename_i s cs B nu bo
  split at h
  case h_2 => simp only [Tree.Leads] at h
  rename_i st nb inter mk nn any first wrong nt
  simp only [Tree.Leads] at h
  obtain ⟨⟨hd, hs, rfl, rfl, rfl⟩, hq⟩ := h
  exact ⟨_, v10r ⟨st, B, inter, mk, nu, any, first, wrong, bo⟩ s hd hs Q hq⟩
/-- At the beginning: nothing is read, and the lists are nil. -/
def rnew : List SV := [.lit (.string ⟨#[]⟩), nilV, .lit (.string ⟨#[]⟩), .lit (.int .i64 0), nilV, .lit (.bool false), .lit (.bool false), .lit (.bool false), nilV]
def rs0 : RS := ⟨sG, [], e0, 0, [], false, false, false, []⟩
theorem doc0 : Doc ps0 rs0 := ⟨ps0_ok, rfl, trivial, fun _ => rfl, fun e => absurd (show (0 : Int) = 1 from e) (by decide), fun e => absurd (show (0 : Int) = 2 from e) (by decide), fun e => absurd (show (0 : Int) = 3 from e) (by decide), fun e => absurd (show (0 : Int) = 4 from e) (by decide)⟩
noncomputable abbrev zT13rg_2 (u2 : T13.RS × List (Ty.den T13.aty)) := [SV.lit (Value.string (T13.RS.st (Prod.fst u2))), SV.sl 1 1 0 (List.length (T13.RS.half (Prod.fst u2))), SV.lit (Value.string (T13.RS.inter (Prod.fst u2))), SV.lit (Value.int IntKind.i64 (T13.RS.mark (Prod.fst u2))), SV.sl 2 1 0 (List.length (T13.RS.nums (Prod.fst u2))), SV.lit (Value.bool (T13.RS.any (Prod.fst u2))), SV.lit (Value.bool (T13.RS.first (Prod.fst u2))), SV.lit (Value.bool (T13.RS.wrong (Prod.fst u2))), SV.sl 3 1 0 (List.length (T13.RS.body (Prod.fst u2)))]
noncomputable abbrev zT13rg_3 (u1 : Nat × T13.RS × List (Ty.den T13.aty)) : T13.RS := { st := T13.RS.st (Prod.fst (Prod.snd u1)), half := T13.RS.half (Prod.fst (Prod.snd u1)), inter := T13.RS.inter (Prod.fst (Prod.snd u1)), mark := T13.RS.mark (Prod.fst (Prod.snd u1)), nums := T13.RS.nums (Prod.fst (Prod.snd u1)), any := T13.RS.any (Prod.fst (Prod.snd u1)), first := T13.RS.first (Prod.fst (Prod.snd u1)), wrong := T13.RS.wrong (Prod.fst (Prod.snd u1)), body := T13.RS.body (Prod.fst (Prod.snd u1)) }
theorem v10n (s : ByteArray) (hs : s.size ≤ 100000) (Q : SV × Heap × List Nat → Prop) (hq : ∀ x, AllR rs0 (strInts s) x → Q (.sl 4 7 0 x.2.length, rH x.1 ++ [.row 69 aty x.2], [1, 2, 3])) :
    (bodySumm R4 Tryz.prog Tryz.f10 (An1 0 (AR rs0 (strInts s))) [.ptr 0 0, .lit (.string s)] [.cells 51 rnew]).Leads Q := by
  refine Sx.by_text (q :=
   (∃ (u0 : Nat × T13.RS × List (Ty.den T13.aty)), ([SV.ptr 0 0, SV.lit (Value.string s), SV.sl 4 7 0 0, SV.lit (Value.int IntKind.i64 (0 : Int))], [SO.cells 51 [SV.lit
   (Value.string { data := #[] }), SV.sl 1 1 0 0, SV.lit (Value.string { data := #[] }), SV.lit (Value.int IntKind.i64 (0 : Int)), SV.sl 2 1 0 0, SV.lit (Value.bool false),
   SV.lit (Value.bool false), SV.lit (Value.bool false), SV.sl 3 1 0 0], SO.row 5 (Ty.int IntKind.u8) [], SO.row 3 (Ty.int IntKind.i64) [], SO.row 5 (Ty.int IntKind.u8) [],
   SO.row 69 T13.aty []]) = ([SV.ptr 0 0, SV.lit (Value.string s), SV.sl 4 7 0 (List.length (Prod.snd (Prod.snd u0))), SV.lit (Value.int IntKind.i64 (↑(Prod.fst u0) : Int))],
   [SO.cells 51 [SV.lit (Value.string (T13.RS.st (Prod.fst (Prod.snd u0)))), SV.sl 1 1 0 (List.length (T13.RS.half (Prod.fst (Prod.snd u0)))), SV.lit (Value.string
   (T13.RS.inter (Prod.fst (Prod.snd u0)))), SV.lit (Value.int IntKind.i64 (T13.RS.mark (Prod.fst (Prod.snd u0)))), SV.sl 2 1 0 (List.length (T13.RS.nums (Prod.fst (Prod.snd
   u0)))), SV.lit (Value.bool (T13.RS.any (Prod.fst (Prod.snd u0)))), SV.lit (Value.bool (T13.RS.first (Prod.fst (Prod.snd u0)))), SV.lit (Value.bool (T13.RS.wrong (Prod.fst
   (Prod.snd u0)))), SV.sl 3 1 0 (List.length (T13.RS.body (Prod.fst (Prod.snd u0))))], SO.row 5 (Ty.int IntKind.u8) (T13.RS.half (Prod.fst (Prod.snd u0))), SO.row 3 (Ty.int
   IntKind.i64) (T13.RS.nums (Prod.fst (Prod.snd u0))), SO.row 5 (Ty.int IntKind.u8) (T13.RS.body (Prod.fst (Prod.snd u0))), SO.row 69 T13.aty (Prod.snd (Prod.snd u0))]) ∧
   Prod.fst u0 ≤ List.length (Sx.strInts s) ∧ T13.AllR T13.rs0 (List.take (Prod.fst u0) (Sx.strInts s)) (Prod.snd u0)) ∧ ∀ (u1 : Nat × T13.RS × List (Ty.den T13.aty)),
   Prod.fst u1 ≤ List.length (Sx.strInts s) ∧ T13.AllR T13.rs0 (List.take (Prod.fst u1) (Sx.strInts s)) (Prod.snd u1) → br (decide ((↑(Prod.fst u1) : Int) < (↑(ByteArray.size
   s) : Int))) (((0 : Int) ≤ (↑(Prod.fst u1) : Int) ∧ (↑(Prod.fst u1) : Int) < (↑(ByteArray.size s) : Int)) ∧ (T13.DocOK (zT13rg_3 u1) ∧ ((0 : Int) ≤ Sx.byteAt s (↑(Prod.fst
   u1) : Int) ∧ Sx.byteAt s (↑(Prod.fst u1) : Int) ≤ (255 : Int)) ∧ List.length (T13.RS.half (Prod.fst (Prod.snd u1))) = List.length (T13.RS.half (Prod.fst (Prod.snd u1))) ∧
   List.length (T13.RS.nums (Prod.fst (Prod.snd u1))) = List.length (T13.RS.nums (Prod.fst (Prod.snd u1))) ∧ List.length (T13.RS.body (Prod.fst (Prod.snd u1))) = List.length
   (T13.RS.body (Prod.fst (Prod.snd u1)))) ∧ ∀ (u2 : T13.RS × List (Ty.den T13.aty)), T13.FedR (zT13rg_3 u1) (Sx.byteAt s (↑(Prod.fst u1) : Int)) u2 → 0 + List.length
   (Prod.snd u2) ≤ List.length (Prod.snd u2) ∧ List.length (Prod.snd (Prod.snd u1)) = List.length (Prod.snd (Prod.snd u1)) ∧ br (decide (List.length (List.take (List.length
   (Prod.snd u2)) (List.drop 0 (Prod.snd u2))) = 0)) ((∃ (u3 : Nat × T13.RS × List (Ty.den T13.aty)), ([SV.ptr 0 0, SV.lit (Value.string s), SV.sl 4 7 0 (List.length
   (Prod.snd (Prod.snd u1))), SV.lit (Value.int IntKind.i64 (IntKind.wrap IntKind.i64 ((↑(Prod.fst u1) : Int) + (1 : Int))))], [SO.cells 51 (zT13rg_2 u2), SO.row 5 (Ty.int
   IntKind.u8) (T13.RS.half (Prod.fst u2)), SO.row 3 (Ty.int IntKind.i64) (T13.RS.nums (Prod.fst u2)), SO.row 5 (Ty.int IntKind.u8) (T13.RS.body (Prod.fst u2)), SO.row 69
   T13.aty (Prod.snd (Prod.snd u1))]) = ([SV.ptr 0 0, SV.lit (Value.string s), SV.sl 4 7 0 (List.length (Prod.snd (Prod.snd u3))), SV.lit (Value.int IntKind.i64 (↑(Prod.fst
   u3) : Int))], [SO.cells 51 [SV.lit (Value.string (T13.RS.st (Prod.fst (Prod.snd u3)))), SV.sl 1 1 0 (List.length (T13.RS.half (Prod.fst (Prod.snd u3)))), SV.lit
   (Value.string (T13.RS.inter (Prod.fst (Prod.snd u3)))), SV.lit (Value.int IntKind.i64 (T13.RS.mark (Prod.fst (Prod.snd u3)))), SV.sl 2 1 0 (List.length (T13.RS.nums
   (Prod.fst (Prod.snd u3)))), SV.lit (Value.bool (T13.RS.any (Prod.fst (Prod.snd u3)))), SV.lit (Value.bool (T13.RS.first (Prod.fst (Prod.snd u3)))), SV.lit (Value.bool
   (T13.RS.wrong (Prod.fst (Prod.snd u3)))), SV.sl 3 1 0 (List.length (T13.RS.body (Prod.fst (Prod.snd u3))))], SO.row 5 (Ty.int IntKind.u8) (T13.RS.half (Prod.fst (Prod.snd
   u3))), SO.row 3 (Ty.int IntKind.i64) (T13.RS.nums (Prod.fst (Prod.snd u3))), SO.row 5 (Ty.int IntKind.u8) (T13.RS.body (Prod.fst (Prod.snd u3))), SO.row 69 T13.aty
   (Prod.snd (Prod.snd u3))]) ∧ (Prod.fst u3 ≤ List.length (Sx.strInts s) ∧ T13.AllR T13.rs0 (List.take (Prod.fst u3) (Sx.strInts s)) (Prod.snd u3)) ∧ List.length (Sx.strInts
   s) - Prod.fst u3 < List.length (Sx.strInts s) - Prod.fst u1) ∧ True) (((↑(List.length (Prod.snd (Prod.snd u1)) + List.length (List.take (List.length (Prod.snd u2))
   (List.drop 0 (Prod.snd u2)))) : Int) ≤ (9223372036854775807 : Int) ∧ (List.length (Prod.snd (Prod.snd u1)) + List.length (List.take (List.length (Prod.snd u2)) (List.drop
   0 (Prod.snd u2)))) * Sx.bytesOf Go.Proofs.Tryz.prog 69 ≤ 140737488355328) ∧ (∃ (u4 : Nat × T13.RS × List (Ty.den T13.aty)), ([SV.ptr 0 0, SV.lit (Value.string s), SV.sl 4
   7 0 (List.length (Prod.snd (Prod.snd u1)) + List.length (List.take (List.length (Prod.snd u2)) (List.drop 0 (Prod.snd u2)))), SV.lit (Value.int IntKind.i64 (IntKind.wrap
   IntKind.i64 ((↑(Prod.fst u1) : Int) + (1 : Int))))], [SO.cells 51 (zT13rg_2 u2), SO.row 5 (Ty.int IntKind.u8) (T13.RS.half (Prod.fst u2)), SO.row 3 (Ty.int IntKind.i64)
   (T13.RS.nums (Prod.fst u2)), SO.row 5 (Ty.int IntKind.u8) (T13.RS.body (Prod.fst u2)), SO.row 69 T13.aty (Prod.snd (Prod.snd u1) ++ List.take (List.length (Prod.snd u2))
   (List.drop 0 (Prod.snd u2)))]) = ([SV.ptr 0 0, SV.lit (Value.string s), SV.sl 4 7 0 (List.length (Prod.snd (Prod.snd u4))), SV.lit (Value.int IntKind.i64 (↑(Prod.fst u4) :
   Int))], [SO.cells 51 [SV.lit (Value.string (T13.RS.st (Prod.fst (Prod.snd u4)))), SV.sl 1 1 0 (List.length (T13.RS.half (Prod.fst (Prod.snd u4)))), SV.lit (Value.string
   (T13.RS.inter (Prod.fst (Prod.snd u4)))), SV.lit (Value.int IntKind.i64 (T13.RS.mark (Prod.fst (Prod.snd u4)))), SV.sl 2 1 0 (List.length (T13.RS.nums (Prod.fst (Prod.snd
   u4)))), SV.lit (Value.bool (T13.RS.any (Prod.fst (Prod.snd u4)))), SV.lit (Value.bool (T13.RS.first (Prod.fst (Prod.snd u4)))), SV.lit (Value.bool (T13.RS.wrong (Prod.fst
   (Prod.snd u4)))), SV.sl 3 1 0 (List.length (T13.RS.body (Prod.fst (Prod.snd u4))))], SO.row 5 (Ty.int IntKind.u8) (T13.RS.half (Prod.fst (Prod.snd u4))), SO.row 3 (Ty.int
   IntKind.i64) (T13.RS.nums (Prod.fst (Prod.snd u4))), SO.row 5 (Ty.int IntKind.u8) (T13.RS.body (Prod.fst (Prod.snd u4))), SO.row 69 T13.aty (Prod.snd (Prod.snd u4))]) ∧
   (Prod.fst u4 ≤ List.length (Sx.strInts s) ∧ T13.AllR T13.rs0 (List.take (Prod.fst u4) (Sx.strInts s)) (Prod.snd u4)) ∧ List.length (Sx.strInts s) - Prod.fst u4 <
   List.length (Sx.strInts s) - Prod.fst u1) ∧ True)) (Q (SV.sl 4 7 0 (List.length (Prod.snd (Prod.snd u1))), [SO.cells 51 [SV.lit (Value.string (T13.RS.st (Prod.fst
   (Prod.snd u1)))), SV.sl 1 1 0 (List.length (T13.RS.half (Prod.fst (Prod.snd u1)))), SV.lit (Value.string (T13.RS.inter (Prod.fst (Prod.snd u1)))), SV.lit (Value.int
   IntKind.i64 (T13.RS.mark (Prod.fst (Prod.snd u1)))), SV.sl 2 1 0 (List.length (T13.RS.nums (Prod.fst (Prod.snd u1)))), SV.lit (Value.bool (T13.RS.any (Prod.fst (Prod.snd
   u1)))), SV.lit (Value.bool (T13.RS.first (Prod.fst (Prod.snd u1)))), SV.lit (Value.bool (T13.RS.wrong (Prod.fst (Prod.snd u1)))), SV.sl 3 1 0 (List.length (T13.RS.body
   (Prod.fst (Prod.snd u1))))], SO.row 5 (Ty.int IntKind.u8) (T13.RS.half (Prod.fst (Prod.snd u1))), SO.row 3 (Ty.int IntKind.i64) (T13.RS.nums (Prod.fst (Prod.snd u1))),
   SO.row 5 (Ty.int IntKind.u8) (T13.RS.body (Prod.fst (Prod.snd u1))), SO.row 69 T13.aty (Prod.snd (Prod.snd u1))], [1, 2, 3]))) (by kernel_rfl) ?_
  delta zT13rg_2 zT13rg_3
  have hd : DocOK rs0 := ⟨_, doc0⟩
  have hbs : bytesOf Tryz.prog 69 = 88 := by kernel_rfl
  have hsz := strInts_size s
  refine ⟨⟨(0, rs0, []), rfl, by simp, allR_nil rs0⟩, fun x hx => ?_⟩
  obtain ⟨i, r1, A⟩ := x
  obtain ⟨hi, hA⟩ := hx
  simp only at hi hA ⊢
  have hd1 : DocOK r1 := allR_doc hA hd
  have hf := allR_few hA hd
  simp only at hf
  rw [List.length_take] at hf
  refine br_intro (fun hlt => ?_) (fun hge => ?_)
  · have hlt := of_decide_eq_true hlt
    obtain ⟨ht, hbyte⟩ := byteAt_take s i (by omega)
    refine ⟨by omega, ⟨hd1, hbyte, trivial, trivial, trivial⟩, fun y hy => ?_⟩
    have hy : FedR r1 (byteAt s i) y := hy
    have hfy := fedR_few hy hd1
    have hstep := allR_step hA hy
    rw [← ht] at hstep
    rw [List.drop_zero, List.take_length]
    refine ⟨by omega, trivial, br_intro (fun h => ⟨⟨(i + 1, y.1, A), ?_, ⟨by show i + 1 ≤ _; omega, ?_⟩, by show _ - (i + 1) < _; omega⟩, trivial⟩) (fun h => ⟨⟨by omega, by rw [hbs]; omega⟩, ⟨(i + 1, y.1, A ++ y.2), ?_, ⟨by show i + 1 ≤ _; omega, hstep⟩, by show _ - (i + 1) < _; omega⟩, trivial⟩)⟩
    · rw [wrap1 i (by omega)]
    · have h0 := of_decide_eq_true h
      have h0 : y.2 = [] := List.eq_nil_of_length_eq_zero h0
      rw [h0, List.append_nil] at hstep
      exact hstep
    · rw [wrap1 i (by omega)]
      simp only [List.length_append]
  · have hge := of_decide_eq_false hge
    have : i = s.size := by omega
    subst this
    have hA : AllR rs0 (strInts s) (r1, A) := by rw [← hsz, List.take_length] at hA; exact hA
    exact hq _ hA
noncomputable def sRN : Summ := fun args H => match args, H with
  | [.ptr 0 0, .lit (.string s)], [.cells 51 cs] => .need (cs = rnew ∧ s.size ≤ 100000) (.any (RS × List aty.den) (AllR rs0 (strInts s)) fun x => .ret (.sl 4 7 0 x.2.length, rH x.1 ++ [.row 69 aty x.2], [1, 2, 3]))
  | _, _ => .fail
theorem sRN_ok : SummOK Tryz.prog 10 sRN := by
  refine summ_of_body (fn := Tryz.f10) (c := Tryz.f10.body.get!) R4_ok (by kernel_rfl) (by kernel_rfl) (by kernel_rfl) fun args H Q h => ?_
  unfold sRN at h
  split at h
  · simp only [Tree.Leads] at h
    obtain ⟨⟨rfl, hs⟩, hq⟩ := h
    exact ⟨_, v10n _ hs Q hq⟩
  · simp only [Tree.Leads] at h
/-- All acts of a text, by the document, of a new parser or of one that has read. -/
noncomputable def sRB : Summ := fun args H => match args, H with
  | [.ptr 0 0, .lit (.string s)], [.cells 51 cs, .row 5 (.int .u8) B, .row 3 (.int .i64) nu, .row 5 (.int .u8) bo] => match cs with
    | [.lit (.string st), .sl 1 1 0 nb, .lit (.string inter), .lit (.int .i64 mk), .sl 2 1 0 nn, .lit (.bool any), .lit (.bool first), .lit (.bool wrong), .sl 3 1 0 nt] =>
      .need (DocOK ⟨st, B, inter, mk, nu, any, first, wrong, bo⟩ ∧ s.size ≤ 100000 ∧ nb = B.length ∧ nn = nu.length ∧ nt = bo.length)
        (.any (RS × List aty.den) (AllR ⟨st, B, inter, mk, nu, any, first, wrong, bo⟩ (strInts s)) fun x => .ret (.sl 4 7 0 x.2.length, rH x.1 ++ [.row 69 aty x.2], [1, 2, 3]))
    | _ => .fail
  | [.ptr 0 0, .lit (.string s)], [.cells 51 cs] => .need (cs = rnew ∧ s.size ≤ 100000) (.any (RS × List aty.den) (AllR rs0 (strInts s)) fun x => .ret (.sl 4 7 0 x.2.length, rH x.1 ++ [.row 69 aty x.2], [1, 2, 3]))
  | _, _ => .fail
theorem sRB_ok : SummOK Tryz.prog 10 sRB := summ_or sRA_ok sRN_ok fun args H Q h => by
  unfold sRB at h
  split at h
  · exact .inl h
  · exact .inr h
  · simp only [Tree.Leads] at h
end T13
end
