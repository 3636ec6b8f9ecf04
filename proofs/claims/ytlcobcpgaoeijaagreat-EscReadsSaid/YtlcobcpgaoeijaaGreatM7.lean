/- Part of a proof: the walks of the functions that the law calls, and their plain laws; no condition. -/
import Derived.Test.YtlcobcpgaoeijaaGreatSxT
import Derived.Test.YtlcobcpgaoeijaaGreatM6
import Derived.Test.YtlcobcpgaoeijaaGreatM1
set_option linter.unusedVariables false
set_option linter.unusedSimpArgs false
section
open Go Sx Go.Proofs T12
namespace T13
set_option maxRecDepth 100000
set_option maxHeartbeats 4000000
attribute [local irreducible] Tree.Leads
theorem sStep_of {T : Table} (hT : TableOK Tryz.prog T) {P : Int → Prop} (hv : ∀ (st : Int) (h : ByteArray) (it : List Int) (wr fi : Bool) (mk : Int) (nu : List Int) (fu : Bool) (tx : List Int) (ac : List aty.den) (b : Int) (Q : SV × Heap × List Nat → Prop), P st → Byte b → ac.length ≤ 900000 → PS.OK ⟨st, strInts h, it, wr, fi, mk, nu, fu, tx⟩ → Goes ⟨st, strInts h, it, wr, fi, mk, nu, fu, tx⟩ ac b Q → (bodySumm T Tryz.prog Tryz.f17 N22 [.ptr 0 0, .lit (.int .u8 b)] (pheap st h it wr fi mk nu fu tx ac)).Leads Q) : SummOK Tryz.prog 17 (sStep P) := by
  refine sStep_ok (summ_of_body (fn := Tryz.f17) (c := Tryz.f17.body.get!) hT (by kernel_rfl) (by kernel_rfl) (by kernel_rfl) fun args H Q hl => ?_)
  unfold sStepM at hl
  split at hl
  case h_2 => simp only [Tree.Leads] at hl
  rename_i b cs it nu tx ac
  split at hl
  case h_2 => simp only [Tree.Leads] at hl
  rename_i st h ni wr fi mk nn fu nt no hcs
  simp only [Tree.Leads] at hl
  obtain ⟨⟨hw, he, hf⟩, hq⟩ := hl
  subst he
  exact ⟨N22, hv st h it wr fi mk nu fu tx ac b Q hw hf.byte hf.few hf.ok (goes_of hq)⟩
theorem e0_of {h : ByteArray} (e : strInts h = []) : h = e0 := by rw [← bsOf_strInts h, e]; rfl
theorem s22a_ok : SummOK Tryz.prog 17 (sStep (fun st => st = 3 ∨ st = 4)) := sStep_of U1_ok fun st h it wr fi mk nu fu tx ac b Q hp hb hac hok hq => by
  have hh := e0_of (hok.idle (by rcases hp with rfl | rfl <;> simp))
  subst hh
  rcases hp with rfl | rfl
  · exact v22_3 it wr fi mk nu fu tx ac b Q hb hac hok hq
  · exact v22_4 it wr fi mk nu fu tx ac b Q hb hac hok hq
theorem s22b_ok : SummOK Tryz.prog 17 (sStep (fun st => st = 1 ∨ st = 2)) := sStep_of U3_ok fun st h it wr fi mk nu fu tx ac b Q hp hb hac hok hq => by
  have hh := e0_of (hok.idle (by rcases hp with rfl | rfl <;> simp))
  subst hh
  rcases hp with rfl | rfl
  · exact v22_1 it wr fi mk nu fu tx ac b Q hb hac hok hq
  · exact v22_2 it wr fi mk nu fu tx ac b Q hb hac hok hq
theorem sStep_or {P P1 P2 : Int → Prop} (h1 : SummOK Tryz.prog 17 (sStep P1)) (h2 : SummOK Tryz.prog 17 (sStep P2)) (h : ∀ st, 0 ≤ st ∧ st ≤ 4 → P st → P1 st ∨ P2 st) : SummOK Tryz.prog 17 (sStep P) := by
  refine summ_or h1 h2 fun args H Q hl => ?_
  unfold sStep at hl
  split at hl
  case h_2 => simp only [Tree.Leads] at hl
  rename_i b cs it nu tx ac
  split at hl
  case h_2 => simp only [Tree.Leads] at hl
  rename_i st h' ni wr fi mk nn fu nt no hcs
  simp only [Tree.Leads] at hl
  obtain ⟨⟨hw, he, hf⟩, hq⟩ := hl
  rcases h st hf.ok.st hw with hp | hp
  · left
    simp only [sStep, hcs, Tree.Leads]
    exact ⟨⟨hp, he, hf⟩, hq⟩
  · right
    simp only [sStep, hcs, Tree.Leads]
    exact ⟨⟨hp, he, hf⟩, hq⟩
/-- STEP, WHOLE. -/
theorem s22_ok : SummOK Tryz.prog 17 (sStep (fun _ => True)) :=
  sStep_or (P1 := fun st => st = 0 ∨ st = 1 ∨ st = 2) (sStep_or s22g_ok s22b_ok fun st hst hp => by rcases hp with h | h | h <;> simp [h]) s22a_ok fun st hst _ => by omega
noncomputable def U4 : Table := T10.add 17 (.go (sStep (fun _ => True)))
theorem U4_ok : TableOK Tryz.prog U4 := add_ok T10_ok s22_ok
end T13
end
section
open Go Sx Go.Proofs T12
namespace T13
set_option maxRecDepth 100000
set_option maxHeartbeats 4000000
attribute [local irreducible] Tree.Leads
noncomputable def U5 : Table := U4.add 15 (.call (inlSumm U4 Tryz.prog Tryz.f15))
theorem U5_ok : TableOK Tryz.prog U5 := add_ok U4_ok (inlSumm_sound (c := Tryz.f15.body.get!) U4_ok (by kernel_rfl) (by kernel_rfl) (by kernel_rfl))
def flat (S : List ByteArray) : List Int := S.flatMap strInts
def ps0 : PS := ⟨0, [], [], false, false, 0, [], false, []⟩
def nilV : SV := .lit (.slice none 0 0)
/-- A parser that nobody has used. -/
def newP : List SV := [.lit (.int .u32 0), .lit (.int .i32 0), .lit (.int .u32 0)] ++ ints [0,0,0,0,0,0, 0,0,0,0,0,0, 0,0,0,0,0,0, 0,0,0,0,0,0, 0,0,0,0,0,0] ++ [.lit (.int .i64 0), .lit (.string ⟨#[]⟩), nilV, .lit (.bool false), .lit (.bool false), .lit (.int .i64 0), nilV, .lit (.bool false), nilV, nilV]
/-- One that was fed. -/
def fedP (r : PS) (a b c : Nat) (o : SV) : List SV := [.lit (.int .u32 1), .lit (.int .i32 0), .lit (.int .u32 0)] ++ tab1 ++ [.lit (.int .i64 r.st), .lit (.string (bsOf r.half)), .sl a 1 0 r.inter.length, .lit (.bool r.wrong), .lit (.bool r.first), .lit (.int .i64 r.mark), .sl b 1 0 r.nums.length, .lit (.bool r.full), .sl c 1 0 r.text.length, o]
def fheap (r : PS × List aty.den) (S : List ByteArray) : Heap := [.cells 46 (fedP r.1 2 3 4 (.sl 5 7 0 r.2.length)), .row 9 .str S, .row 5 (.int .u8) r.1.inter, .row 3 (.int .i64) r.1.nums, .row 5 (.int .u8) r.1.text, .drow 69 3 aty r.2]
def nil4 : List (TypeId × Nat × TypeId × Ty) := [(46, 35, 5, .int .u8), (46, 39, 3, .int .i64), (46, 41, 5, .int .u8), (46, 42, 1000004000069, aty)]
noncomputable def A12 (s0 : PS) (S : List ByteArray) (m : Nat) : Ann := { live := [0, 17, 18, 19], mv := [2, 3, 4], nilH := nil4, head := fun vals _ => match vals with | [a, b, c, _] => { X := Nat, inv := fun i => ([a, b, c, .lit (.int .i64 i)], fheap (pfeed s0 (flat (S.take i))) S), ok := fun i => i ≤ m, mu := fun i => m - i } | _ => { X := Nat, inv := fun _ => ([], []), ok := fun _ => False, mu := fun _ => 0 } }
noncomputable def B12 (s0 : PS) (S : List ByteArray) : Ann := { live := [0, 6, 17, 18, 19, 24, 25], mv := [2, 3, 4], nilH := nil4, head := fun vals _ => match vals with | [a, .lit (.string s), c, d, .lit (.int .i64 n), f, _] => { X := Nat, inv := fun j => ([a, .lit (.string s), c, d, .lit (.int .i64 n), f, .lit (.int .i64 j)], fheap (pfeed s0 (flat (S.take n.toNat) ++ (strInts s).take j)) S), ok := fun j => j ≤ s.size, mu := fun j => s.size - j } | _ => { X := Nat, inv := fun _ => ([], []), ok := fun _ => False, mu := fun _ => 0 } }
theorem flat_succ (S : List ByteArray) (i : Nat) (h : i < S.length) (d : ByteArray) : flat (S.take (i + 1)) = flat (S.take i) ++ strInts (S.getD i d) := by
  rw [List.take_add_one, List.getElem?_eq_getElem h, List.getD_eq_getElem?_getD, List.getElem?_eq_getElem h]
  simp only [flat, List.flatMap_append, Option.toList, List.flatMap_cons, List.flatMap_nil, List.append_nil, Option.getD]
theorem flat_mono (S : List ByteArray) (i m : Nat) (h : i ≤ m) : (flat (S.take i)).length ≤ (flat (S.take m)).length := by
  have : S.take m = S.take i ++ (S.take m).drop i := by
    conv => lhs; rw [← List.take_append_drop i (S.take m), List.take_take, Nat.min_eq_left h]
  rw [this, flat, flat, List.flatMap_append, List.length_append]; omega
theorem flat_bytes (S : List ByteArray) : ∀ x ∈ flat S, Byte x := fun x hx => by
  obtain ⟨s, _, h⟩ := List.mem_flatMap.1 hx
  exact strInts_bytes s x h
theorem byteAt_take (s : ByteArray) (j : Nat) (h : j < s.size) : (strInts s).take (j + 1) = (strInts s).take j ++ [byteAt s j] ∧ Byte (byteAt s j) := by
  have h' : j < (strInts s).length := by rw [strInts_size]; exact h
  have e : byteAt s j = (strInts s)[j] := by
    rw [byteAt_eq, Int.toNat_natCast, List.getD_eq_getElem?_getD, List.getElem?_eq_getElem h']; rfl
  constructor
  · rw [List.take_add_one, List.getElem?_eq_getElem h', e]; rfl
  · rw [e]; exact strInts_bytes s _ (List.getElem_mem h')
theorem wrap1 (n : Nat) (h : n ≤ 1099511627776) : IntKind.i64.wrap ((n : Int) + 1) = ((n + 1 : Nat) : Int) := by rw [IntKind.wrap_i64]; omega
theorem pfeed_ok {s : PS} (h : s.OK) : ∀ l, (pfeed s l).1.OK := by
  intro l
  induction l generalizing s with
  | nil => exact h
  | cons b l ih => exact ih (pstep_ok h b)
theorem pfeed_few (s : PS) : ∀ l, (pfeed s l).2.length ≤ 3 * l.length := by
  intro l
  induction l generalizing s with
  | nil => simp [pfeed]
  | cons b l ih =>
    have h1 := pstep_few s b
    have h2 := ih (pstep s b).1
    simp only [pfeed, List.length_append, List.length_cons]; omega
theorem ps0_ok : ps0.OK := ⟨by decide, trivial, fun _ => rfl, by simp [ps0], by simp [ps0], by simp [ps0], by simp [ps0]⟩
theorem PS.eta {r : PS} (h : Good r.half) : (⟨r.st, strInts (bsOf r.half), r.inter, r.wrong, r.first, r.mark, r.nums, r.full, r.text⟩ : PS) = r := by rw [good_bsOf h]
def fend (r : PS × List aty.den) (S : List ByteArray) : Heap := [.cells 46 (fedP r.1 2 3 4 nilV), .row 9 .str S, .row 5 (.int .u8) r.1.inter, .row 3 (.int .i64) r.1.nums, .row 5 (.int .u8) r.1.text, .drow 69 3 aty r.2]
noncomputable abbrev zT13f_0 (s0 : PS) (S : List ByteArray) (u1 : Nat) (u3 : Nat) := (T13.pfeed s0 (T13.flat (List.take u1 S) ++ List.take u3 (Sx.strInts (List.getD S (0 + u1) (Ty.dflt Ty.str)))))
noncomputable abbrev zT13f_1 (s0 : PS) (S : List ByteArray) (u1 : Nat) (u3 : Nat) := T13.pcells (T13.PS.st (Prod.fst (zT13f_0 s0 S u1 u3))) (Sx.bsOf (T13.PS.half (Prod.fst (zT13f_0 s0 S u1 u3)))) (List.length (T13.PS.inter (Prod.fst (zT13f_0 s0 S u1 u3)))) (T13.PS.wrong (Prod.fst (zT13f_0 s0 S u1 u3))) (T13.PS.first (Prod.fst (zT13f_0 s0 S u1 u3))) (T13.PS.mark (Prod.fst (zT13f_0 s0 S u1 u3))) (List.length (T13.PS.nums (Prod.fst (zT13f_0 s0 S u1 u3)))) (T13.PS.full (Prod.fst (zT13f_0 s0 S u1 u3))) (List.length (T13.PS.text (Prod.fst (zT13f_0 s0 S u1 u3)))) (List.length (Prod.snd (zT13f_0 s0 S u1 u3)))
noncomputable abbrev zT13f_2 (s0 : PS) (S : List ByteArray) (u1 : Nat) (u3 : Nat) : T13.PS := { st := T13.PS.st (Prod.fst (zT13f_0 s0 S u1 u3)), half := Sx.strInts (Sx.bsOf (T13.PS.half (Prod.fst (zT13f_0 s0 S u1 u3)))), inter := T13.PS.inter (Prod.fst (zT13f_0 s0 S u1 u3)), wrong := T13.PS.wrong (Prod.fst (zT13f_0 s0 S u1 u3)), first := T13.PS.first (Prod.fst (zT13f_0 s0 S u1 u3)), mark := T13.PS.mark (Prod.fst (zT13f_0 s0 S u1 u3)), nums := T13.PS.nums (Prod.fst (zT13f_0 s0 S u1 u3)), full := T13.PS.full (Prod.fst (zT13f_0 s0 S u1 u3)), text := T13.PS.text (Prod.fst (zT13f_0 s0 S u1 u3)) }
theorem v12f (s0 : PS) (hs0 : s0.OK) (S : List ByteArray) (m : Nat) (Q : SV × Heap × List Nat → Prop) (hm : m ≤ S.length) (hT : (flat (S.take m)).length ≤ 200000) (hm2 : m ≤ 1000000) (h0 : s0 = ps0)
    (hq : Q (.sl 5 7 0 (pfeed s0 (flat (S.take m))).2.length, fend (pfeed s0 (flat (S.take m))) S, [2, 3, 4])) :
    (bodySumm U5 Tryz.prog Tryz.f6 (An2 0 (A12 s0 S m) 2 (B12 s0 S)) [.ptr 0 0, .sl 1 1 0 m] [.cells 46 newP, .row 9 .str S]).Leads Q := by
  refine Sx.by_text (q :=
   (∃ (u0 : Nat), ([SV.ptr 0 0, SV.sl 1 1 0 m, SV.lit (Value.int IntKind.i64 (↑m : Int)), SV.lit (Value.int IntKind.i64 (0 : Int))], [SO.cells 46 [SV.lit (Value.int
   IntKind.u32 (1 : Int)), SV.lit (Value.int IntKind.i32 (IntKind.wrap IntKind.i32 ((1 : Int) + (-1 : Int)))), SV.lit (Value.int IntKind.u32 (0 : Int)), SV.lit (Value.int
   IntKind.i64 (2 : Int)), SV.lit (Value.int IntKind.i64 (1 : Int)), SV.lit (Value.int IntKind.i64 (1 : Int)), SV.lit (Value.int IntKind.i64 (1 : Int)), SV.lit (Value.int
   IntKind.i64 (0 : Int)), SV.lit (Value.int IntKind.i64 (1 : Int)), SV.lit (Value.int IntKind.i64 (2 : Int)), SV.lit (Value.int IntKind.i64 (3 : Int)), SV.lit (Value.int
   IntKind.i64 (4 : Int)), SV.lit (Value.int IntKind.i64 (4 : Int)), SV.lit (Value.int IntKind.i64 (0 : Int)), SV.lit (Value.int IntKind.i64 (9 : Int)), SV.lit (Value.int
   IntKind.i64 (2 : Int)), SV.lit (Value.int IntKind.i64 (3 : Int)), SV.lit (Value.int IntKind.i64 (5 : Int)), SV.lit (Value.int IntKind.i64 (6 : Int)), SV.lit (Value.int
   IntKind.i64 (0 : Int)), SV.lit (Value.int IntKind.i64 (9 : Int)), SV.lit (Value.int IntKind.i64 (8 : Int)), SV.lit (Value.int IntKind.i64 (7 : Int)), SV.lit (Value.int
   IntKind.i64 (7 : Int)), SV.lit (Value.int IntKind.i64 (7 : Int)), SV.lit (Value.int IntKind.i64 (7 : Int)), SV.lit (Value.int IntKind.i64 (7 : Int)), SV.lit (Value.int
   IntKind.i64 (0 : Int)), SV.lit (Value.int IntKind.i64 (7 : Int)), SV.lit (Value.int IntKind.i64 (7 : Int)), SV.lit (Value.int IntKind.i64 (7 : Int)), SV.lit (Value.int
   IntKind.i64 (7 : Int)), SV.lit (Value.int IntKind.i64 (7 : Int)), SV.lit (Value.int IntKind.i64 (0 : Int)), SV.lit (Value.string { data := #[] }), SV.sl 2 1 0 0, SV.lit
   (Value.bool false), SV.lit (Value.bool false), SV.lit (Value.int IntKind.i64 (0 : Int)), SV.sl 3 1 0 0, SV.lit (Value.bool false), SV.sl 4 1 0 0, SV.sl 5 7 0 0], SO.row 9
   Ty.str S, SO.row 5 (Ty.int IntKind.u8) [], SO.row 3 (Ty.int IntKind.i64) [], SO.row 5 (Ty.int IntKind.u8) [], SO.drow 69 3 T13.aty []]) = ([SV.ptr 0 0, SV.sl 1 1 0 m,
   SV.lit (Value.int IntKind.i64 (↑m : Int)), SV.lit (Value.int IntKind.i64 (↑u0 : Int))], T13.fheap (T13.pfeed s0 (T13.flat (List.take u0 S))) S) ∧ u0 ≤ m) ∧ ∀ (u1 : Nat),
   u1 ≤ m → br (decide ((↑u1 : Int) < (↑m : Int))) (((0 : Int) ≤ (↑u1 : Int) ∧ (↑u1 : Int) < (↑m : Int)) ∧ 0 + u1 < List.length S ∧ (∃ (u2 : Nat), ([SV.ptr 0 0, SV.lit
   (Value.string (List.getD S (0 + u1) (Ty.dflt Ty.str))), SV.sl 1 1 0 m, SV.lit (Value.int IntKind.i64 (↑m : Int)), SV.lit (Value.int IntKind.i64 (↑u1 : Int)), SV.lit
   (Value.int IntKind.i64 (↑(ByteArray.size (List.getD S (0 + u1) (Ty.dflt Ty.str))) : Int)), SV.lit (Value.int IntKind.i64 (0 : Int))], T13.fheap (T13.pfeed s0 (T13.flat
   (List.take u1 S))) S) = ([SV.ptr 0 0, SV.lit (Value.string (List.getD S (0 + u1) (Ty.dflt Ty.str))), SV.sl 1 1 0 m, SV.lit (Value.int IntKind.i64 (↑m : Int)), SV.lit
   (Value.int IntKind.i64 (↑u1 : Int)), SV.lit (Value.int IntKind.i64 (↑(ByteArray.size (List.getD S (0 + u1) (Ty.dflt Ty.str))) : Int)), SV.lit (Value.int IntKind.i64 (↑u2 :
   Int))], T13.fheap (T13.pfeed s0 (T13.flat (List.take u1 S) ++ List.take u2 (Sx.strInts (List.getD S (0 + u1) (Ty.dflt Ty.str))))) S) ∧ u2 ≤ ByteArray.size (List.getD S (0
   + u1) (Ty.dflt Ty.str))) ∧ ∀ (u3 : Nat), u3 ≤ ByteArray.size (List.getD S (0 + u1) (Ty.dflt Ty.str)) → br (decide ((↑u3 : Int) < (↑(ByteArray.size (List.getD S (0 + u1)
   (Ty.dflt Ty.str))) : Int))) (((0 : Int) ≤ (↑u3 : Int) ∧ (↑u3 : Int) < (↑(ByteArray.size (List.getD S (0 + u1) (Ty.dflt Ty.str))) : Int)) ∧ (True ∧ (zT13f_1 s0 S u1 u3) =
   (zT13f_1 s0 S u1 u3) ∧ T13.Ready (zT13f_2 s0 S u1 u3) (Sx.byteAt (List.getD S (0 + u1) (Ty.dflt Ty.str)) (↑u3 : Int)) (List.length (Prod.snd (zT13f_0 s0 S u1 u3)))) ∧ ∀
   (u4 : T13.PS × List (Ty.den T13.aty)), T13.StepOf (zT13f_2 s0 S u1 u3) (Sx.byteAt (List.getD S (0 + u1) (Ty.dflt Ty.str)) (↑u3 : Int)) u4 → (∃ (u5 : Nat), ([SV.ptr 0 0,
   SV.lit (Value.string (List.getD S (0 + u1) (Ty.dflt Ty.str))), SV.sl 1 1 0 m, SV.lit (Value.int IntKind.i64 (↑m : Int)), SV.lit (Value.int IntKind.i64 (↑u1 : Int)), SV.lit
   (Value.int IntKind.i64 (↑(ByteArray.size (List.getD S (0 + u1) (Ty.dflt Ty.str))) : Int)), SV.lit (Value.int IntKind.i64 (IntKind.wrap IntKind.i64 ((↑u3 : Int) + (1 :
   Int))))], [SO.cells 46 (T13.fedP (Prod.fst u4) 2 3 4 (SV.sl 5 7 0 (List.length (Prod.snd (zT13f_0 s0 S u1 u3) ++ Prod.snd u4)))), SO.row 9 Ty.str S, SO.row 5 (Ty.int
   IntKind.u8) (T13.PS.inter (Prod.fst u4)), SO.row 3 (Ty.int IntKind.i64) (T13.PS.nums (Prod.fst u4)), SO.row 5 (Ty.int IntKind.u8) (T13.PS.text (Prod.fst u4)), SO.drow 69 3
   T13.aty (Prod.snd (zT13f_0 s0 S u1 u3) ++ Prod.snd u4)]) = ([SV.ptr 0 0, SV.lit (Value.string (List.getD S (0 + u1) (Ty.dflt Ty.str))), SV.sl 1 1 0 m, SV.lit (Value.int
   IntKind.i64 (↑m : Int)), SV.lit (Value.int IntKind.i64 (↑u1 : Int)), SV.lit (Value.int IntKind.i64 (↑(ByteArray.size (List.getD S (0 + u1) (Ty.dflt Ty.str))) : Int)),
   SV.lit (Value.int IntKind.i64 (↑u5 : Int))], T13.fheap (T13.pfeed s0 (T13.flat (List.take u1 S) ++ List.take u5 (Sx.strInts (List.getD S (0 + u1) (Ty.dflt Ty.str))))) S) ∧
   u5 ≤ ByteArray.size (List.getD S (0 + u1) (Ty.dflt Ty.str)) ∧ ByteArray.size (List.getD S (0 + u1) (Ty.dflt Ty.str)) - u5 < ByteArray.size (List.getD S (0 + u1) (Ty.dflt
   Ty.str)) - u3) ∧ True) ((∃ (u6 : Nat), ([SV.ptr 0 0, SV.sl 1 1 0 m, SV.lit (Value.int IntKind.i64 (↑m : Int)), SV.lit (Value.int IntKind.i64 (IntKind.wrap IntKind.i64
   ((↑u1 : Int) + (1 : Int))))], T13.fheap (zT13f_0 s0 S u1 u3) S) = ([SV.ptr 0 0, SV.sl 1 1 0 m, SV.lit (Value.int IntKind.i64 (↑m : Int)), SV.lit (Value.int IntKind.i64
   (↑u6 : Int))], T13.fheap (T13.pfeed s0 (T13.flat (List.take u6 S))) S) ∧ u6 ≤ m ∧ m - u6 < m - u1) ∧ True)) (Q (SV.sl 5 7 0 (List.length (Prod.snd (T13.pfeed s0 (T13.flat
   (List.take u1 S))))), T13.fend (T13.pfeed s0 (T13.flat (List.take u1 S))) S, [2, 3, 4]))) (by kernel_rfl) ?_
  delta zT13f_0 zT13f_1 zT13f_2
  have hlast : ∀ i, i ≤ m → (flat (S.take i)).length ≤ 200000 := fun i hi => by have := flat_mono S i m hi; omega
  refine ⟨⟨0, by subst h0; rfl, by omega⟩, fun i hi => br_intro (fun hlt => ?_) (fun hge => ?_)⟩
  · have hlt := of_decide_eq_true hlt
    have hsucc := flat_succ S i (by omega) Ty.str.dflt
    have hle := hlast (i + 1) (by omega)
    rw [hsucc, List.length_append] at hle
    rw [Nat.zero_add]
    generalize S.getD i Ty.str.dflt = s at *
    rw [strInts_size] at hle
    refine ⟨by omega, by omega, ⟨0, ?_, by omega⟩, fun j hj => br_intro (fun hlt2 => ?_) (fun hge2 => ?_)⟩
    · rw [List.take_zero, List.append_nil]; rfl
    · have hlt2 := of_decide_eq_true hlt2
      obtain ⟨ht, hbyte⟩ := byteAt_take s j (by omega)
      have hok := pfeed_ok hs0 (flat (S.take i) ++ (strInts s).take j)
      have hfew := pfeed_few s0 (flat (S.take i) ++ (strInts s).take j)
      have htk : ((strInts s).take j).length ≤ s.size := by rw [List.length_take, strInts_size]; omega
      rw [List.length_append] at hfew
      have hsn := pfeed_snoc s0 (flat (S.take i) ++ (strInts s).take j) (byteAt s j)
      rw [List.append_assoc, ← ht] at hsn
      refine ⟨by omega, ⟨trivial, rfl, ?_⟩, fun r hr => ⟨⟨j + 1, ?_, by omega, by omega⟩, trivial⟩⟩
      · rw [PS.eta hok.half]; exact ⟨hok, hbyte, by omega⟩
      · obtain ⟨hr⟩ := hr
        rw [PS.eta hok.half] at hr
        rw [hsn, ← hr, wrap1 j (by omega)]; rfl
    · have hge2 := of_decide_eq_false hge2
      have hj2 : j = s.size := by omega
      have hall : (strInts s).take j = strInts s := by rw [hj2, ← strInts_size, List.take_length]
      refine ⟨⟨i + 1, ?_, by omega, by omega⟩, trivial⟩
      rw [hall, wrap1 i (by omega), hsucc]
  · have hge := of_decide_eq_false hge
    have : i = m := by omega
    subst this
    exact hq
noncomputable abbrev zT13f_3 (s0 : PS) (S : List ByteArray) (u1 : Nat) (u3 : Nat) := (T13.pfeed s0 (T13.flat (List.take u1 S) ++ List.take u3 (Sx.strInts (List.getD S (0 + u1) (Ty.dflt Ty.str)))))
noncomputable abbrev zT13f_4 (s0 : PS) (S : List ByteArray) (u1 : Nat) (u3 : Nat) := T13.pcells (T13.PS.st (Prod.fst (zT13f_3 s0 S u1 u3))) (Sx.bsOf (T13.PS.half (Prod.fst (zT13f_3 s0 S u1 u3)))) (List.length (T13.PS.inter (Prod.fst (zT13f_3 s0 S u1 u3)))) (T13.PS.wrong (Prod.fst (zT13f_3 s0 S u1 u3))) (T13.PS.first (Prod.fst (zT13f_3 s0 S u1 u3))) (T13.PS.mark (Prod.fst (zT13f_3 s0 S u1 u3))) (List.length (T13.PS.nums (Prod.fst (zT13f_3 s0 S u1 u3)))) (T13.PS.full (Prod.fst (zT13f_3 s0 S u1 u3))) (List.length (T13.PS.text (Prod.fst (zT13f_3 s0 S u1 u3)))) (List.length (Prod.snd (zT13f_3 s0 S u1 u3)))
noncomputable abbrev zT13f_5 (s0 : PS) (S : List ByteArray) (u1 : Nat) (u3 : Nat) : T13.PS := { st := T13.PS.st (Prod.fst (zT13f_3 s0 S u1 u3)), half := Sx.strInts (Sx.bsOf (T13.PS.half (Prod.fst (zT13f_3 s0 S u1 u3)))), inter := T13.PS.inter (Prod.fst (zT13f_3 s0 S u1 u3)), wrong := T13.PS.wrong (Prod.fst (zT13f_3 s0 S u1 u3)), first := T13.PS.first (Prod.fst (zT13f_3 s0 S u1 u3)), mark := T13.PS.mark (Prod.fst (zT13f_3 s0 S u1 u3)), nums := T13.PS.nums (Prod.fst (zT13f_3 s0 S u1 u3)), full := T13.PS.full (Prod.fst (zT13f_3 s0 S u1 u3)), text := T13.PS.text (Prod.fst (zT13f_3 s0 S u1 u3)) }
theorem v12u (s0 : PS) (hs0 : s0.OK) (S : List ByteArray) (m : Nat) (Q : SV × Heap × List Nat → Prop) (hm : m ≤ S.length) (hT : (flat (S.take m)).length ≤ 200000) (hm2 : m ≤ 1000000)
    (hq : Q (.sl 5 7 0 (pfeed s0 (flat (S.take m))).2.length, fend (pfeed s0 (flat (S.take m))) S, [2, 3, 4])) :
    (bodySumm U5 Tryz.prog Tryz.f6 (An2 0 (A12 s0 S m) 2 (B12 s0 S)) [.ptr 0 0, .sl 1 1 0 m] [.cells 46 (fedP s0 2 3 4 nilV), .row 9 .str S, .row 5 (.int .u8) s0.inter, .row 3 (.int .i64) s0.nums, .row 5 (.int .u8) s0.text]).Leads Q := by
  refine Sx.by_text (q :=
   (∃ (u0 : Nat), ([SV.ptr 0 0, SV.sl 1 1 0 m, SV.lit (Value.int IntKind.i64 (↑m : Int)), SV.lit (Value.int IntKind.i64 (0 : Int))], [SO.cells 46 (T13.fedP s0 2 3 4 (SV.sl 5
   7 0 0)), SO.row 9 Ty.str S, SO.row 5 (Ty.int IntKind.u8) (T13.PS.inter s0), SO.row 3 (Ty.int IntKind.i64) (T13.PS.nums s0), SO.row 5 (Ty.int IntKind.u8) (T13.PS.text s0),
   SO.drow 69 3 T13.aty []]) = ([SV.ptr 0 0, SV.sl 1 1 0 m, SV.lit (Value.int IntKind.i64 (↑m : Int)), SV.lit (Value.int IntKind.i64 (↑u0 : Int))], T13.fheap (T13.pfeed s0
   (T13.flat (List.take u0 S))) S) ∧ u0 ≤ m) ∧ ∀ (u1 : Nat), u1 ≤ m → br (decide ((↑u1 : Int) < (↑m : Int))) (((0 : Int) ≤ (↑u1 : Int) ∧ (↑u1 : Int) < (↑m : Int)) ∧ 0 + u1 <
   List.length S ∧ (∃ (u2 : Nat), ([SV.ptr 0 0, SV.lit (Value.string (List.getD S (0 + u1) (Ty.dflt Ty.str))), SV.sl 1 1 0 m, SV.lit (Value.int IntKind.i64 (↑m : Int)),
   SV.lit (Value.int IntKind.i64 (↑u1 : Int)), SV.lit (Value.int IntKind.i64 (↑(ByteArray.size (List.getD S (0 + u1) (Ty.dflt Ty.str))) : Int)), SV.lit (Value.int IntKind.i64
   (0 : Int))], T13.fheap (T13.pfeed s0 (T13.flat (List.take u1 S))) S) = ([SV.ptr 0 0, SV.lit (Value.string (List.getD S (0 + u1) (Ty.dflt Ty.str))), SV.sl 1 1 0 m, SV.lit
   (Value.int IntKind.i64 (↑m : Int)), SV.lit (Value.int IntKind.i64 (↑u1 : Int)), SV.lit (Value.int IntKind.i64 (↑(ByteArray.size (List.getD S (0 + u1) (Ty.dflt Ty.str))) :
   Int)), SV.lit (Value.int IntKind.i64 (↑u2 : Int))], T13.fheap (T13.pfeed s0 (T13.flat (List.take u1 S) ++ List.take u2 (Sx.strInts (List.getD S (0 + u1) (Ty.dflt
   Ty.str))))) S) ∧ u2 ≤ ByteArray.size (List.getD S (0 + u1) (Ty.dflt Ty.str))) ∧ ∀ (u3 : Nat), u3 ≤ ByteArray.size (List.getD S (0 + u1) (Ty.dflt Ty.str)) → br (decide
   ((↑u3 : Int) < (↑(ByteArray.size (List.getD S (0 + u1) (Ty.dflt Ty.str))) : Int))) (((0 : Int) ≤ (↑u3 : Int) ∧ (↑u3 : Int) < (↑(ByteArray.size (List.getD S (0 + u1)
   (Ty.dflt Ty.str))) : Int)) ∧ (True ∧ (zT13f_4 s0 S u1 u3) = (zT13f_4 s0 S u1 u3) ∧ T13.Ready (zT13f_5 s0 S u1 u3) (Sx.byteAt (List.getD S (0 + u1) (Ty.dflt Ty.str)) (↑u3 :
   Int)) (List.length (Prod.snd (zT13f_3 s0 S u1 u3)))) ∧ ∀ (u4 : T13.PS × List (Ty.den T13.aty)), T13.StepOf (zT13f_5 s0 S u1 u3) (Sx.byteAt (List.getD S (0 + u1) (Ty.dflt
   Ty.str)) (↑u3 : Int)) u4 → (∃ (u5 : Nat), ([SV.ptr 0 0, SV.lit (Value.string (List.getD S (0 + u1) (Ty.dflt Ty.str))), SV.sl 1 1 0 m, SV.lit (Value.int IntKind.i64 (↑m :
   Int)), SV.lit (Value.int IntKind.i64 (↑u1 : Int)), SV.lit (Value.int IntKind.i64 (↑(ByteArray.size (List.getD S (0 + u1) (Ty.dflt Ty.str))) : Int)), SV.lit (Value.int
   IntKind.i64 (IntKind.wrap IntKind.i64 ((↑u3 : Int) + (1 : Int))))], [SO.cells 46 (T13.fedP (Prod.fst u4) 2 3 4 (SV.sl 5 7 0 (List.length (Prod.snd (zT13f_3 s0 S u1 u3) ++
   Prod.snd u4)))), SO.row 9 Ty.str S, SO.row 5 (Ty.int IntKind.u8) (T13.PS.inter (Prod.fst u4)), SO.row 3 (Ty.int IntKind.i64) (T13.PS.nums (Prod.fst u4)), SO.row 5 (Ty.int
   IntKind.u8) (T13.PS.text (Prod.fst u4)), SO.drow 69 3 T13.aty (Prod.snd (zT13f_3 s0 S u1 u3) ++ Prod.snd u4)]) = ([SV.ptr 0 0, SV.lit (Value.string (List.getD S (0 + u1)
   (Ty.dflt Ty.str))), SV.sl 1 1 0 m, SV.lit (Value.int IntKind.i64 (↑m : Int)), SV.lit (Value.int IntKind.i64 (↑u1 : Int)), SV.lit (Value.int IntKind.i64 (↑(ByteArray.size
   (List.getD S (0 + u1) (Ty.dflt Ty.str))) : Int)), SV.lit (Value.int IntKind.i64 (↑u5 : Int))], T13.fheap (T13.pfeed s0 (T13.flat (List.take u1 S) ++ List.take u5
   (Sx.strInts (List.getD S (0 + u1) (Ty.dflt Ty.str))))) S) ∧ u5 ≤ ByteArray.size (List.getD S (0 + u1) (Ty.dflt Ty.str)) ∧ ByteArray.size (List.getD S (0 + u1) (Ty.dflt
   Ty.str)) - u5 < ByteArray.size (List.getD S (0 + u1) (Ty.dflt Ty.str)) - u3) ∧ True) ((∃ (u6 : Nat), ([SV.ptr 0 0, SV.sl 1 1 0 m, SV.lit (Value.int IntKind.i64 (↑m :
   Int)), SV.lit (Value.int IntKind.i64 (IntKind.wrap IntKind.i64 ((↑u1 : Int) + (1 : Int))))], T13.fheap (zT13f_3 s0 S u1 u3) S) = ([SV.ptr 0 0, SV.sl 1 1 0 m, SV.lit
   (Value.int IntKind.i64 (↑m : Int)), SV.lit (Value.int IntKind.i64 (↑u6 : Int))], T13.fheap (T13.pfeed s0 (T13.flat (List.take u6 S))) S) ∧ u6 ≤ m ∧ m - u6 < m - u1) ∧
   True)) (Q (SV.sl 5 7 0 (List.length (Prod.snd (T13.pfeed s0 (T13.flat (List.take u1 S))))), T13.fend (T13.pfeed s0 (T13.flat (List.take u1 S))) S, [2, 3, 4]))) (by kernel_rfl) ?_
  delta zT13f_3 zT13f_4 zT13f_5
  have hlast : ∀ i, i ≤ m → (flat (S.take i)).length ≤ 200000 := fun i hi => by have := flat_mono S i m hi; omega
  refine ⟨⟨0, by rfl, by omega⟩, fun i hi => br_intro (fun hlt => ?_) (fun hge => ?_)⟩
  · have hlt := of_decide_eq_true hlt
    have hsucc := flat_succ S i (by omega) Ty.str.dflt
    have hle := hlast (i + 1) (by omega)
    rw [hsucc, List.length_append] at hle
    rw [Nat.zero_add]
    generalize S.getD i Ty.str.dflt = s at *
    rw [strInts_size] at hle
    refine ⟨by omega, by omega, ⟨0, ?_, by omega⟩, fun j hj => br_intro (fun hlt2 => ?_) (fun hge2 => ?_)⟩
    · rw [List.take_zero, List.append_nil]; rfl
    · have hlt2 := of_decide_eq_true hlt2
      obtain ⟨ht, hbyte⟩ := byteAt_take s j (by omega)
      have hok := pfeed_ok hs0 (flat (S.take i) ++ (strInts s).take j)
      have hfew := pfeed_few s0 (flat (S.take i) ++ (strInts s).take j)
      have htk : ((strInts s).take j).length ≤ s.size := by rw [List.length_take, strInts_size]; omega
      rw [List.length_append] at hfew
      have hsn := pfeed_snoc s0 (flat (S.take i) ++ (strInts s).take j) (byteAt s j)
      rw [List.append_assoc, ← ht] at hsn
      refine ⟨by omega, ⟨trivial, rfl, ?_⟩, fun r hr => ⟨⟨j + 1, ?_, by omega, by omega⟩, trivial⟩⟩
      · rw [PS.eta hok.half]; exact ⟨hok, hbyte, by omega⟩
      · obtain ⟨hr⟩ := hr
        rw [PS.eta hok.half] at hr
        rw [hsn, ← hr, wrap1 j (by omega)]; rfl
    · have hge2 := of_decide_eq_false hge2
      have hj2 : j = s.size := by omega
      have hall : (strInts s).take j = strInts s := by rw [hj2, ← strInts_size, List.take_length]
      refine ⟨⟨i + 1, ?_, by omega, by omega⟩, trivial⟩
      rw [hall, wrap1 i (by omega), hsucc]
  · have hge := of_decide_eq_false hge
    have : i = m := by omega
    subst this
    exact hq
structure FeedOf (s : PS) (l : List ByteArray) (r : PS × List aty.den) : Prop where
  eq : r = pfeed s (flat l)
structure FeedOK (s : PS) (l : List ByteArray) : Prop where
  ok : s.OK
  few : (flat l).length ≤ 200000
  parts : l.length ≤ 1000000
noncomputable def s12 : Summ := fun args H => match args, H with
  | [.ptr 0 0, .sl 1 1 0 m], [.cells 46 cs, .row 9 .str S] => .need (cs = newP ∧ m ≤ S.length ∧ FeedOK ps0 (S.take m)) (.any (PS × List aty.den) (FeedOf ps0 (S.take m)) fun r => .ret (.sl 5 7 0 r.2.length, fend r S, [2, 3, 4]))
  | [.ptr 0 0, .sl 1 1 0 m], [.cells 46 cs, .row 9 .str S, .row 5 (.int .u8) it, .row 3 (.int .i64) nu, .row 5 (.int .u8) tx] => match cs.drop 33 with
    | [.lit (.int .i64 st), .lit (.string h), .sl 2 1 0 ni, .lit (.bool wr), .lit (.bool fi), .lit (.int .i64 mk), .sl 3 1 0 nn, .lit (.bool fu), .sl 4 1 0 nt, .lit (.slice none 0 0)] =>
      .need (cs = fedP ⟨st, strInts h, it, wr, fi, mk, nu, fu, tx⟩ 2 3 4 nilV ∧ m ≤ S.length ∧ FeedOK ⟨st, strInts h, it, wr, fi, mk, nu, fu, tx⟩ (S.take m)) (.any (PS × List aty.den) (FeedOf ⟨st, strInts h, it, wr, fi, mk, nu, fu, tx⟩ (S.take m)) fun r => .ret (.sl 5 7 0 r.2.length, fend r S, [2, 3, 4]))
    | _ => .fail
  | _, _ => .fail
theorem s12_ok : SummOK Tryz.prog 6 s12 := by
  refine summ_of_body (fn := Tryz.f6) (c := Tryz.f6.body.get!) U5_ok (by kernel_rfl) (by kernel_rfl) (by kernel_rfl) fun args H Q h => ?_
  unfold s12 at h
  split at h
  · rename_i m cs S
    simp only [Tree.Leads] at h
    obtain ⟨⟨rfl, h2, h3⟩, hq⟩ := h
    have hl := h3.parts
    rw [List.length_take] at hl
    exact ⟨_, v12f ps0 ps0_ok S m Q h2 h3.few (by omega) rfl (hq _ ⟨rfl⟩)⟩
  · rename_i m cs S it nu tx
    split at h
    case h_2 => simp only [Tree.Leads] at h
    rename_i st h' ni wr fi mk nn fu nt hcs
    simp only [Tree.Leads] at h
    obtain ⟨⟨rfl, h2, h3⟩, hq⟩ := h
    have hl := h3.parts
    rw [List.length_take] at hl
    exact ⟨_, v12u _ h3.ok S m Q h2 h3.few (by omega) (hq _ ⟨rfl⟩)⟩
  · simp only [Tree.Leads] at h
end T13
end
