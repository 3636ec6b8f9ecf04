/- Part of a proof: the walks of the functions that the law calls, and their plain laws; no condition. -/
import Derived.Test.YtlcobcpgaoeijaaGreatSxT
import Derived.Test.YtlcobcpgaoeijaaGreatM1
set_option linter.unusedVariables false
set_option linter.unusedSimpArgs false
section
open Go Sx Go.Proofs T12
namespace T13
set_option maxRecDepth 100000
set_option maxHeartbeats 1000000
attribute [local irreducible] Tree.Leads
noncomputable abbrev zT13b_0 (b : Int) (Q : SV × Heap × List Nat → Prop) := (br (decide (b ≥ (240 : Int))) (br (decide (b ≤ (244 : Int))) (Q (SV.lit (Value.int IntKind.i64 (4 : Int)), ([] : List Sx.SO), [])) (Q (SV.lit (Value.int IntKind.i64 (0 : Int)), ([] : List Sx.SO), []))) (Q (SV.lit (Value.int IntKind.i64 (0 : Int)), ([] : List Sx.SO), [])))
theorem v60 (b : Int) (Q : SV × Heap × List Nat → Prop) (hq : Q (.lit (.int .i64 (wid b)), [], [])) : (bodySumm Table.none Tryz.prog Tryz.f114 noAn [.lit (.int .u8 b)] []).Leads Q := by
  refine Sx.by_text (q :=
   br (decide (b < (128 : Int))) (Q (SV.lit (Value.int IntKind.i64 (1 : Int)), ([] : List Sx.SO), [])) (br (decide (b ≥ (194 : Int))) (br (decide (b ≤ (223 : Int))) (Q
   (SV.lit (Value.int IntKind.i64 (2 : Int)), ([] : List Sx.SO), [])) (br (decide (b ≥ (224 : Int))) (br (decide (b ≤ (239 : Int))) (Q (SV.lit (Value.int IntKind.i64 (3 :
   Int)), ([] : List Sx.SO), [])) (zT13b_0 b Q)) (zT13b_0 b Q))) (br (decide (b ≥ (224 : Int))) (br (decide (b ≤ (239 : Int))) (Q (SV.lit (Value.int IntKind.i64 (3 : Int)),
   ([] : List Sx.SO), [])) (zT13b_0 b Q)) (zT13b_0 b Q)))) (by kernel_rfl) ?_
  delta zT13b_0
  have e : ∀ n : Int, wid b = n → Q (.lit (.int .i64 n), [], []) := fun n h => h ▸ hq
  repeat' (refine br_intro (fun h => ?_) (fun h => ?_))
  all_goals refine e _ ?_
  all_goals simp only [decide_eq_true_eq, decide_eq_false_iff_not] at *
  all_goals unfold wid
  all_goals repeat' split
  all_goals omega
theorem may_size {l : List Int} {b : Int} (h : l.length ≠ 1) : may l b = decide (128 ≤ b ∧ b ≤ 191) := by
  match l, h with
  | [], _ => rfl
  | _ :: _ :: _, _ => rfl
theorem v61 (h : ByteArray) (b : Int) (Q : SV × Heap × List Nat → Prop) (hq : Q (.lit (.bool (may (strInts h) b)), [], [])) : (bodySumm Table.none Tryz.prog Tryz.f115 noAn [.lit (.string h), .lit (.int .u8 b)] []).Leads Q := by
  refine Sx.by_text (q :=
   br ((↑(ByteArray.size h) : Int) == (1 : Int)) (((0 : Int) ≤ (0 : Int) ∧ (0 : Int) < (↑(ByteArray.size h) : Int)) ∧ br (Sx.byteAt h (0 : Int) == (224 : Int)) (br (decide (b
   ≥ (160 : Int))) (Q (SV.lit (Value.bool (decide (b ≤ (191 : Int)))), ([] : List Sx.SO), [])) (Q (SV.lit (Value.bool false), ([] : List Sx.SO), []))) (br (Sx.byteAt h (0 :
   Int) == (237 : Int)) (br (decide (b ≥ (128 : Int))) (Q (SV.lit (Value.bool (decide (b ≤ (159 : Int)))), ([] : List Sx.SO), [])) (Q (SV.lit (Value.bool false), ([] : List
   Sx.SO), []))) (br (Sx.byteAt h (0 : Int) == (240 : Int)) (br (decide (b ≥ (144 : Int))) (Q (SV.lit (Value.bool (decide (b ≤ (191 : Int)))), ([] : List Sx.SO), [])) (Q
   (SV.lit (Value.bool false), ([] : List Sx.SO), []))) (br (Sx.byteAt h (0 : Int) == (244 : Int)) (br (decide (b ≥ (128 : Int))) (Q (SV.lit (Value.bool (decide (b ≤ (143 :
   Int)))), ([] : List Sx.SO), [])) (Q (SV.lit (Value.bool false), ([] : List Sx.SO), []))) (br (decide (b ≥ (128 : Int))) (Q (SV.lit (Value.bool (decide (b ≤ (191 : Int)))),
   ([] : List Sx.SO), [])) (Q (SV.lit (Value.bool false), ([] : List Sx.SO), []))))))) (br (decide (b ≥ (128 : Int))) (Q (SV.lit (Value.bool (decide (b ≤ (191 : Int)))), ([]
   : List Sx.SO), [])) (Q (SV.lit (Value.bool false), ([] : List Sx.SO), [])))) (by kernel_rfl) ?_
  have e : ∀ n : Bool, may (strInts h) b = n → Q (.lit (.bool n), [], []) := fun n h => h ▸ hq
  refine br_intro (fun h1 => ?_) (fun h1 => ?_)
  · have h1 : (h.size : Int) = 1 := eq_of_beq h1
    have h2 : (strInts h).length = 1 := by rw [strInts_size]; omega
    obtain ⟨c, hc⟩ := List.length_eq_one_iff.1 h2
    have h3 : byteAt h 0 = c := by rw [byteAt_eq, hc]; rfl
    rw [hc] at e
    rw [h3]
    refine ⟨by omega, ?_⟩
    simp only [may, lowOf, highOf] at e
    repeat' (refine br_intro (fun h => ?_) (fun h => ?_))
    all_goals refine e _ ?_
    all_goals simp only [decide_eq_true_eq, decide_eq_false_iff_not, beq_iff_eq, beq_eq_false_iff_ne] at *
    all_goals repeat' split
    all_goals first | omega | (simp only [decide_eq_decide, decide_eq_false_iff_not]; omega)
  · have h1 := ne_of_beq_false h1
    have h2 : (strInts h).length ≠ 1 := by rw [strInts_size]; omega
    rw [may_size h2] at e
    repeat' (refine br_intro (fun h => ?_) (fun h => ?_))
    all_goals refine e _ ?_
    all_goals simp only [decide_eq_true_eq, decide_eq_false_iff_not] at *
    all_goals first | omega | (simp only [decide_eq_decide]; omega)
theorem bv_or (n i a b : Nat) (h1 : b < 2 ^ i) (h2 : 2 ^ i * a + b < 2 ^ n) : (BitVec.ofInt n ((2 ^ i * a : Nat) : Int) ||| BitVec.ofInt n (b : Int)).toNat = 2 ^ i * a + b := by
  have e1 : (BitVec.ofInt n ((2 ^ i * a : Nat) : Int)).toNat = 2 ^ i * a := by
    rw [BitVec.toNat_ofInt, ← Int.natCast_emod, Int.toNat_natCast, Nat.mod_eq_of_lt (by omega)]
  have e2 : (BitVec.ofInt n (b : Int)).toNat = b := by
    rw [BitVec.toNat_ofInt, ← Int.natCast_emod, Int.toNat_natCast, Nat.mod_eq_of_lt (by omega)]
  rw [BitVec.toNat_or, e1, e2, Nat.two_pow_add_eq_or_of_lt h1]
theorem bv_and (n i a : Nat) (h1 : a < 2 ^ n) (hi : i ≤ n) : (BitVec.ofInt n (a : Int) &&& BitVec.ofInt n ((2 ^ i - 1 : Nat) : Int)).toNat = a % 2 ^ i := by
  have h3 : 2 ^ i ≤ 2 ^ n := Nat.pow_le_pow_right (by decide) hi
  have h4 : 0 < 2 ^ i := Nat.pow_pos (by decide)
  have e1 : (BitVec.ofInt n (a : Int)).toNat = a := by
    rw [BitVec.toNat_ofInt, ← Int.natCast_emod, Int.toNat_natCast, Nat.mod_eq_of_lt h1]
  have e2 : (BitVec.ofInt n ((2 ^ i - 1 : Nat) : Int)).toNat = 2 ^ i - 1 := by
    rw [BitVec.toNat_ofInt, ← Int.natCast_emod, Int.toNat_natCast, Nat.mod_eq_of_lt (by omega)]
  rw [BitVec.toNat_and, e1, e2, Nat.and_two_pow_sub_one_eq_mod]
theorem u8_and (x : Int) (h : 0 ≤ x ∧ x < 256) : IntKind.u8.wrap (((BitVec.ofInt IntKind.u8.bits x &&& BitVec.ofInt IntKind.u8.bits 63).toNat : Nat) : Int) = x % 64 := by
  obtain ⟨n, rfl⟩ : ∃ n : Nat, x = n := ⟨x.toNat, by omega⟩
  have := bv_and 8 6 n (by omega) (by decide)
  have e : (BitVec.ofInt IntKind.u8.bits (n : Int) &&& BitVec.ofInt IntKind.u8.bits 63).toNat = n % 64 := this
  rw [e, IntKind.wrap_u8]; omega
theorem u8_or (i a : Nat) (c x : Int) (hc : c = ((2 ^ i * a : Nat) : Int)) (h0 : 0 ≤ x) (h1 : x < ((2 ^ i : Nat) : Int)) (h2 : c + x < 256) : IntKind.u8.wrap (((BitVec.ofInt IntKind.u8.bits c ||| BitVec.ofInt IntKind.u8.bits x).toNat : Nat) : Int) = c + x := by
  obtain ⟨n, rfl⟩ : ∃ n : Nat, x = n := ⟨x.toNat, by omega⟩
  subst hc
  have := bv_or 8 i a n (by omega) (by omega)
  have e : (BitVec.ofInt IntKind.u8.bits ((2 ^ i * a : Nat) : Int) ||| BitVec.ofInt IntKind.u8.bits (n : Int)).toNat = 2 ^ i * a + n := this
  rw [e, IntKind.wrap_u8]; omega
theorem i32_or (a x : Int) (ha : 0 ≤ a ∧ a < 16777216) (hx : 0 ≤ x ∧ x < 64) : IntKind.i32.wrap (((BitVec.ofInt IntKind.i32.bits (IntKind.i32.wrap (a * 2 ^ min 6 IntKind.i32.bits)) ||| BitVec.ofInt IntKind.i32.bits (IntKind.i32.wrap x)).toNat : Nat) : Int) = a * 64 + x := by
  obtain ⟨m, rfl⟩ : ∃ n : Nat, a = n := ⟨a.toNat, by omega⟩
  obtain ⟨n, rfl⟩ : ∃ n : Nat, x = n := ⟨x.toNat, by omega⟩
  have e0 : IntKind.i32.wrap ((m : Int) * 2 ^ min 6 IntKind.i32.bits) = ((2 ^ 6 * m : Nat) : Int) := by
    have : ((2 : Int) ^ min 6 IntKind.i32.bits) = 64 := rfl
    rw [this, IntKind.wrap_i32]; omega
  have e1 : IntKind.i32.wrap (n : Int) = n := by rw [IntKind.wrap_i32]; omega
  have := bv_or 32 6 m n (by omega) (by omega)
  have e : (BitVec.ofInt IntKind.i32.bits ((2 ^ 6 * m : Nat) : Int) ||| BitVec.ofInt IntKind.i32.bits (n : Int)).toNat = 2 ^ 6 * m + n := this
  rw [e0, e1, e, IntKind.wrap_i32]; omega
theorem i32_and (i : Nat) (x m : Int) (hx : 0 ≤ x ∧ x < 256) (hi : i ≤ 8) (hm : m = ((2 ^ i - 1 : Nat) : Int)) : IntKind.i32.wrap (((BitVec.ofInt IntKind.i32.bits (IntKind.i32.wrap x) &&& BitVec.ofInt IntKind.i32.bits m).toNat : Nat) : Int) = x % ((2 ^ i : Nat) : Int) := by
  obtain ⟨n, rfl⟩ : ∃ n : Nat, x = n := ⟨x.toNat, by omega⟩
  subst hm
  have e1 : IntKind.i32.wrap (n : Int) = n := by rw [IntKind.wrap_i32]; omega
  have := bv_and 32 i n (by omega) (by omega)
  have e : (BitVec.ofInt IntKind.i32.bits (n : Int) &&& BitVec.ofInt IntKind.i32.bits ((2 ^ i - 1 : Nat) : Int)).toNat = n % 2 ^ i := this
  have h4 : 0 < 2 ^ i := Nat.pow_pos (by decide)
  have h5 : n % 2 ^ i < 2 ^ i := Nat.mod_lt _ h4
  have h6 : 2 ^ i ≤ 2 ^ 8 := Nat.pow_le_pow_right (by decide) hi
  rw [e1, e, IntKind.wrap_i32, ← Int.natCast_emod]; omega
/-- The rune of the first i bytes. -/
def part (l : List Int) : Nat → Int
  | 0 => 0
  | 1 => l.getD 0 0 % (if l.length = 2 then 32 else if l.length = 3 then 16 else if l.length = 4 then 8 else 64)
  | i + 1 => part l i * 64 + l.getD i 0 % 64
theorem part_bound (l : List Int) : (0 ≤ part l 1 ∧ part l 1 < 64) ∧ (0 ≤ part l 2 ∧ part l 2 < 4096) ∧ (0 ≤ part l 3 ∧ part l 3 < 262144) := by
  have h1 : 0 ≤ part l 1 ∧ part l 1 < 64 := by
    simp only [part]
    repeat' split
    all_goals omega
  have h2 : part l 2 = part l 1 * 64 + l.getD 1 0 % 64 := rfl
  have h3 : part l 3 = part l 2 * 64 + l.getD 2 0 % 64 := rfl
  refine ⟨h1, ?_, ?_⟩ <;> omega
theorem part_whole {l : List Int} (h : 2 ≤ l.length ∧ l.length ≤ 4) : part l l.length = whole l := by
  match l, h with
  | [a, b], _ => simp [part, whole]
  | [a, b, c], _ => simp [part, whole]; omega
  | [a, b, c, d], _ => simp [part, whole]; omega
noncomputable def A62 (h : ByteArray) : Ann := { live := [0, 3, 4], mv := [], head := fun _ _ => { X := Nat, inv := fun i => ([.lit (.string h), .lit (.int .i32 (part (strInts h) i)), .lit (.int .i64 i)], []), ok := fun i => 1 ≤ i ∧ i ≤ h.size, mu := fun i => h.size - i } }
theorem v62 (h : ByteArray) (Q : SV × Heap × List Nat → Prop) (hb : 2 ≤ h.size ∧ h.size ≤ 4) (hq : Q (.lit (.int .i32 (whole (strInts h))), [], [])) : (bodySumm Table.none Tryz.prog Tryz.f116 (An1 0 (A62 h)) [.lit (.string h)] []).Leads Q := by
  refine Sx.by_text (q :=
   ((0 : Int) ≤ (0 : Int) ∧ (0 : Int) < (↑(ByteArray.size h) : Int)) ∧ (0 : Int) ≤ IntKind.wrap IntKind.i64 ((↑(ByteArray.size h) : Int) + (1 : Int)) ∧ (∃ (u0 : Nat),
   ([SV.lit (Value.string h), SV.lit (Value.int IntKind.i32 (IntKind.wrap IntKind.i32 (↑(BitVec.toNat (BitVec.ofInt (IntKind.bits IntKind.i32) (IntKind.wrap IntKind.i32
   (Sx.byteAt h (0 : Int))) &&& BitVec.ofInt (IntKind.bits IntKind.i32) (Int.fdiv (255 : Int) ((2 : Int) ^ Min.min (Int.toNat (IntKind.wrap IntKind.i64 ((↑(ByteArray.size h)
   : Int) + (1 : Int)))) (IntKind.bits IntKind.i32))))) : Int))), SV.lit (Value.int IntKind.i64 (1 : Int))], ([] : List Sx.SO)) = ([SV.lit (Value.string h), SV.lit (Value.int
   IntKind.i32 (T13.part (Sx.strInts h) u0)), SV.lit (Value.int IntKind.i64 (↑u0 : Int))], ([] : List Sx.SO)) ∧ 1 ≤ u0 ∧ u0 ≤ ByteArray.size h) ∧ ∀ (u1 : Nat), 1 ≤ u1 ∧ u1 ≤
   ByteArray.size h → br (decide ((↑u1 : Int) < (↑(ByteArray.size h) : Int))) ((0 : Int) ≤ (6 : Int) ∧ ((0 : Int) ≤ (↑u1 : Int) ∧ (↑u1 : Int) < (↑(ByteArray.size h) : Int)) ∧
   (∃ (u2 : Nat), ([SV.lit (Value.string h), SV.lit (Value.int IntKind.i32 (IntKind.wrap IntKind.i32 (↑(BitVec.toNat (BitVec.ofInt (IntKind.bits IntKind.i32) (IntKind.wrap
   IntKind.i32 (T13.part (Sx.strInts h) u1 * (2 : Int) ^ Min.min 6 (IntKind.bits IntKind.i32))) ||| BitVec.ofInt (IntKind.bits IntKind.i32) (IntKind.wrap IntKind.i32
   (IntKind.wrap IntKind.u8 (↑(BitVec.toNat (BitVec.ofInt (IntKind.bits IntKind.u8) (Sx.byteAt h (↑u1 : Int)) &&& BitVec.ofInt (IntKind.bits IntKind.u8) (63 : Int))) :
   Int))))) : Int))), SV.lit (Value.int IntKind.i64 (IntKind.wrap IntKind.i64 ((↑u1 : Int) + (1 : Int))))], ([] : List Sx.SO)) = ([SV.lit (Value.string h), SV.lit (Value.int
   IntKind.i32 (T13.part (Sx.strInts h) u2)), SV.lit (Value.int IntKind.i64 (↑u2 : Int))], ([] : List Sx.SO)) ∧ (1 ≤ u2 ∧ u2 ≤ ByteArray.size h) ∧ ByteArray.size h - u2 <
   ByteArray.size h - u1) ∧ True) (Q (SV.lit (Value.int IntKind.i32 (T13.part (Sx.strInts h) u1)), ([] : List Sx.SO), []))) (by kernel_rfl) ?_
  have hsz := strInts_size h
  have hbyte : ∀ i : Nat, i < h.size → 0 ≤ byteAt h i ∧ byteAt h i < 256 := fun i hi => by
    have h1 : byteAt h i = (strInts h)[i]'(by omega) := by rw [byteAt_eq, Int.toNat_natCast, List.getD_eq_getElem?_getD, List.getElem?_eq_getElem (by omega)]; rfl
    have := strInts_bytes h _ (List.getElem_mem (l := strInts h) (n := i) (by omega))
    rw [h1]; exact ⟨this.1, by have := this.2; omega⟩
  have hw : IntKind.i64.wrap ((h.size : Int) + 1) = h.size + 1 := by rw [IntKind.wrap_i64]; omega
  obtain ⟨p1, p2, p3⟩ := part_bound (strInts h)
  refine ⟨by omega, by omega, ⟨1, ?_, by omega⟩, fun i hi => br_intro (fun hlt => ?_) (fun hge => ?_)⟩
  · have e : IntKind.i32.wrap (((BitVec.ofInt IntKind.i32.bits (IntKind.i32.wrap (byteAt h 0)) &&& BitVec.ofInt IntKind.i32.bits (Int.fdiv 255 (2 ^ min (IntKind.i64.wrap ((h.size : Int) + 1)).toNat IntKind.i32.bits))).toNat : Nat) : Int) = part (strInts h) 1 := by
      rw [hw]
      have hb0 := hbyte 0 (by omega)
      have h0 : byteAt h 0 = (strInts h).getD 0 0 := byteAt_eq h 0
      simp only [part, hsz, ← h0]
      rcases (show h.size = 2 ∨ h.size = 3 ∨ h.size = 4 by omega) with h2 | h2 | h2
      · rw [h2]; exact i32_and 5 _ _ hb0 (by decide) (by decide)
      · rw [h2]; exact i32_and 4 _ _ hb0 (by decide) (by decide)
      · rw [h2]; exact i32_and 3 _ _ hb0 (by decide) (by decide)
    rw [e]; rfl
  · have hlt := of_decide_eq_true hlt
    have hbi := hbyte i (by omega)
    refine ⟨by omega, by omega, ⟨i + 1, ?_, by omega, by omega⟩, trivial⟩
    have e2 : IntKind.i64.wrap ((i : Int) + 1) = ((i + 1 : Nat) : Int) := by rw [IntKind.wrap_i64]; omega
    have e3 : part (strInts h) (i + 1) = part (strInts h) i * 64 + byteAt h i % 64 := by
      obtain ⟨j, rfl⟩ : ∃ j, i = j + 1 := ⟨i - 1, by omega⟩
      rw [byteAt_eq, Int.toNat_natCast]; rfl
    have hp : 0 ≤ part (strInts h) i ∧ part (strInts h) i < 16777216 := by
      rcases (show i = 1 ∨ i = 2 ∨ i = 3 by omega) with rfl | rfl | rfl <;> omega
    rw [e2, u8_and _ hbi, i32_or _ _ hp (by omega), e3]
  · have hge := of_decide_eq_false hge
    have : i = h.size := by omega
    subst this
    rw [← hsz, part_whole (by omega)]
    exact hq
noncomputable def s60 : Summ := fun args H => match args, H with
  | [.lit (.int .u8 b)], [] => .ret (.lit (.int .i64 (wid b)), [], [])
  | _, _ => .fail
theorem s60_ok : SummOK Tryz.prog 114 s60 := by
  refine summ_of_body (fn := Tryz.f114) (c := Tryz.f114.body.get!) none_ok (by kernel_rfl) (by kernel_rfl) (by kernel_rfl) fun args H Q h => ?_
  unfold s60 at h
  split at h
  · rename_i b
    simp only [Tree.Leads] at h
    exact ⟨noAn, v60 b Q h⟩
  · simp only [Tree.Leads] at h
noncomputable def s61 : Summ := fun args H => match args, H with
  | [.lit (.string h), .lit (.int .u8 b)], [] => .ret (.lit (.bool (may (strInts h) b)), [], [])
  | _, _ => .fail
theorem s61_ok : SummOK Tryz.prog 115 s61 := by
  refine summ_of_body (fn := Tryz.f115) (c := Tryz.f115.body.get!) none_ok (by kernel_rfl) (by kernel_rfl) (by kernel_rfl) fun args H Q h => ?_
  unfold s61 at h
  split at h
  · rename_i s b
    simp only [Tree.Leads] at h
    exact ⟨noAn, v61 s b Q h⟩
  · simp only [Tree.Leads] at h
noncomputable def s62 : Summ := fun args H => match args, H with
  | [.lit (.string h)], [] => .need (2 ≤ h.size ∧ h.size ≤ 4) (.ret (.lit (.int .i32 (whole (strInts h))), [], []))
  | _, _ => .fail
theorem s62_ok : SummOK Tryz.prog 116 s62 := by
  refine summ_of_body (fn := Tryz.f116) (c := Tryz.f116.body.get!) none_ok (by kernel_rfl) (by kernel_rfl) (by kernel_rfl) fun args H Q h => ?_
  unfold s62 at h
  split at h
  · rename_i s
    simp only [Tree.Leads] at h
    exact ⟨_, v62 s Q h.1 h.2⟩
  · simp only [Tree.Leads] at h
noncomputable def T4 : Table := ((T3.add 114 (.go s60)).add 115 (.go s61)).add 116 (.go s62)
theorem T4_ok : TableOK Tryz.prog T4 := add_ok (add_ok (add_ok T3_ok s60_ok) s61_ok) s62_ok
noncomputable def T4x : Table := ((((T4.exact 41).exact 22).exact 44).exact 98).deeds 69
theorem T4x_ok : TableOK Tryz.prog T4x := deeds_ok (exact_ok (exact_ok (exact_ok (exact_ok T4_ok))))
noncomputable def T5 : Table := (T4x.add 102 (.call (inlSumm T4x Tryz.prog Tryz.f102)))
theorem T5_ok : TableOK Tryz.prog T5 := (add_ok T4x_ok (inlSumm_sound (c := Tryz.f102.body.get!) T4x_ok (by kernel_rfl) (by kernel_rfl) (by kernel_rfl)))
noncomputable def T6 : Table := (T4x.add 102 (.call (inlSumm T5 Tryz.prog Tryz.f102))).add 22 (.call (inlSumm T4x Tryz.prog Tryz.f22))
theorem T6_ok : TableOK Tryz.prog T6 := add_ok (add_ok T4x_ok (inlSumm_sound (c := Tryz.f102.body.get!) T5_ok (by kernel_rfl) (by kernel_rfl) (by kernel_rfl))) (inlSumm_sound (c := Tryz.f22.body.get!) T4x_ok (by kernel_rfl) (by kernel_rfl) (by kernel_rfl))
noncomputable def T7 : Table := (((((T6.add 88 (.call (inlSumm T6 Tryz.prog Tryz.f88))).add 58 (.call (inlSumm T6 Tryz.prog Tryz.f58))).add 87 (.call (inlSumm T6 Tryz.prog Tryz.f87))).add 59 (.call (inlSumm T6 Tryz.prog Tryz.f59))).add 62 (.call (inlSumm T6 Tryz.prog Tryz.f62)))
theorem T7_ok : TableOK Tryz.prog T7 := (add_ok (add_ok (add_ok (add_ok (add_ok T6_ok (inlSumm_sound (c := Tryz.f88.body.get!) T6_ok (by kernel_rfl) (by kernel_rfl) (by kernel_rfl))) (inlSumm_sound (c := Tryz.f58.body.get!) T6_ok (by kernel_rfl) (by kernel_rfl) (by kernel_rfl))) (inlSumm_sound (c := Tryz.f87.body.get!) T6_ok (by kernel_rfl) (by kernel_rfl) (by kernel_rfl))) (inlSumm_sound (c := Tryz.f59.body.get!) T6_ok (by kernel_rfl) (by kernel_rfl) (by kernel_rfl))) (inlSumm_sound (c := Tryz.f62.body.get!) T6_ok (by kernel_rfl) (by kernel_rfl) (by kernel_rfl)))
noncomputable def T8 : Table := (((((((T7.add 57 (.call (inlSumm T7 Tryz.prog Tryz.f57))).add 60 (.call (inlSumm T7 Tryz.prog Tryz.f60))).add 89 (.call (inlSumm T7 Tryz.prog Tryz.f89))).add 90 (.call (inlSumm T7 Tryz.prog Tryz.f90))).add 92 (.call (inlSumm T7 Tryz.prog Tryz.f92))).add 103 (.call (inlSumm T7 Tryz.prog Tryz.f103))).add 104 (.call (inlSumm T7 Tryz.prog Tryz.f104)))
theorem T8_ok : TableOK Tryz.prog T8 := (add_ok (add_ok (add_ok (add_ok (add_ok (add_ok (add_ok T7_ok (inlSumm_sound (c := Tryz.f57.body.get!) T7_ok (by kernel_rfl) (by kernel_rfl) (by kernel_rfl))) (inlSumm_sound (c := Tryz.f60.body.get!) T7_ok (by kernel_rfl) (by kernel_rfl) (by kernel_rfl))) (inlSumm_sound (c := Tryz.f89.body.get!) T7_ok (by kernel_rfl) (by kernel_rfl) (by kernel_rfl))) (inlSumm_sound (c := Tryz.f90.body.get!) T7_ok (by kernel_rfl) (by kernel_rfl) (by kernel_rfl))) (inlSumm_sound (c := Tryz.f92.body.get!) T7_ok (by kernel_rfl) (by kernel_rfl) (by kernel_rfl))) (inlSumm_sound (c := Tryz.f103.body.get!) T7_ok (by kernel_rfl) (by kernel_rfl) (by kernel_rfl))) (inlSumm_sound (c := Tryz.f104.body.get!) T7_ok (by kernel_rfl) (by kernel_rfl) (by kernel_rfl)))
noncomputable def T9 : Table := (T8.add 105 (.call (inlSumm T8 Tryz.prog Tryz.f105)))
theorem T9_ok : TableOK Tryz.prog T9 := (add_ok T8_ok (inlSumm_sound (c := Tryz.f105.body.get!) T8_ok (by kernel_rfl) (by kernel_rfl) (by kernel_rfl)))
noncomputable def T10 : Table := (T9.add 91 (.call (inlSumm T9 Tryz.prog Tryz.f91)))
theorem T10_ok : TableOK Tryz.prog T10 := (add_ok T9_ok (inlSumm_sound (c := Tryz.f91.body.get!) T9_ok (by kernel_rfl) (by kernel_rfl) (by kernel_rfl)))
noncomputable def T11 : Table := (T10.add 61 (.call (inlSumm T10 Tryz.prog Tryz.f61)))
theorem T11_ok : TableOK Tryz.prog T11 := (add_ok T10_ok (inlSumm_sound (c := Tryz.f61.body.get!) T10_ok (by kernel_rfl) (by kernel_rfl) (by kernel_rfl)))
noncomputable def T12 : Table := (T11.add 17 (.call (inlSumm T11 Tryz.prog Tryz.f17)))
theorem T12_ok : TableOK Tryz.prog T12 := (add_ok T11_ok (inlSumm_sound (c := Tryz.f17.body.get!) T11_ok (by kernel_rfl) (by kernel_rfl) (by kernel_rfl)))
noncomputable def T13 : Table := (T12.add 61 (.call (inlSumm T12 Tryz.prog Tryz.f61)))
theorem T13_ok : TableOK Tryz.prog T13 := (add_ok T12_ok (inlSumm_sound (c := Tryz.f61.body.get!) T12_ok (by kernel_rfl) (by kernel_rfl) (by kernel_rfl)))
end T13
end
section
open Go Sx Go.Proofs T12
namespace T13
set_option maxRecDepth 100000
set_option maxHeartbeats 4000000
attribute [local irreducible] Tree.Leads
def ints (l : List Int) : List SV := l.map fun n => .lit (.int .i64 n)
def tab1 : List SV := ints [2,1,1,1,0,1, 2,3,4,4,0,9, 2,3,5,6,0,9, 8,7,7,7,7,7, 0,7,7,7,7,7]
def pcells (st : Int) (h : ByteArray) (ni : Nat) (wr fi : Bool) (mk : Int) (nn : Nat) (fu : Bool) (nt no : Nat) : List SV :=
  [.lit (.int .u32 1), .lit (.int .i32 0), .lit (.int .u32 0)] ++ tab1 ++ [.lit (.int .i64 st), .lit (.string h), .sl 1 1 0 ni, .lit (.bool wr), .lit (.bool fi), .lit (.int .i64 mk), .sl 2 1 0 nn, .lit (.bool fu), .sl 3 1 0 nt, .sl 4 7 0 no]
def rows (st : Int) (h : ByteArray) (it : List Int) (ni : Nat) (wr fi : Bool) (mk : Int) (nu : List Int) (nn : Nat) (fu : Bool) (tx : List Int) (nt : Nat) (ac : List aty.den) (no : Nat) : Heap :=
  [.cells 46 (pcells st h ni wr fi mk nn fu nt no), .row 5 (.int .u8) it, .row 3 (.int .i64) nu, .row 5 (.int .u8) tx, .drow 69 3 aty ac]
def pheap (st : Int) (h : ByteArray) (it : List Int) (wr fi : Bool) (mk : Int) (nu : List Int) (fu : Bool) (tx : List Int) (ac : List aty.den) : Heap := rows st h it it.length wr fi mk nu nu.length fu tx tx.length ac ac.length
noncomputable def N22 : Nat → Option Ann := An1 999999 { live := [], mv := [], nilH := [(46, 35, 5, .int .u8), (46, 39, 3, .int .i64), (46, 41, 5, .int .u8), (46, 42, 1000004000069, aty)], head := fun _ _ => { X := Nat, inv := fun _ => ([], []), ok := fun _ => False, mu := fun _ => 0 } }
/-- Behind a byte. -/
def Goes (s : PS) (ac : List aty.den) (b : Int) (Q : SV × Heap × List Nat → Prop) : Prop :=
  ∀ st h it ni wr fi mk nu nn fu tx nt R no mv, (pstep s b).1 = ⟨st, strInts h, it, wr, fi, mk, nu, fu, tx⟩ → R = ac ++ (pstep s b).2 → ni = it.length → nn = nu.length → nt = tx.length → no = R.length → memN 0 mv = false → Q (.tup [], rows st h it ni wr fi mk nu nn fu tx nt R no, mv)
theorem no_room (n k : Nat) : decide (n + (k + 1) ≤ n) = false := decide_eq_false (by omega)
/-- The kinds of bytes. -/
def Kind (b : Int) (e24 e26 e27 l32 l48 l64 l127 e127 : Bool) : Prop :=
  (b == 24) = e24 ∧ (b == 26) = e26 ∧ (b == 27) = e27 ∧ decide (b < 32) = l32 ∧ decide (b < 48) = l48 ∧ decide (b < 64) = l64 ∧ decide (b < 127) = l127 ∧ (b == 127) = e127
theorem kinds {b : Int} (hb : Byte b) : (b = 24 ∧ Kind b true false false true true true true false) ∨ (b = 26 ∧ Kind b false true false true true true true false) ∨ (b = 27 ∧ Kind b false false true true true true true false) ∨
    ((b < 32 ∧ b ≠ 24 ∧ b ≠ 26 ∧ b ≠ 27) ∧ Kind b false false false true true true true false) ∨ ((32 ≤ b ∧ b < 48) ∧ Kind b false false false false true true true false) ∨ ((48 ≤ b ∧ b < 64) ∧ Kind b false false false false false true true false) ∨
    ((64 ≤ b ∧ b < 127) ∧ Kind b false false false false false false true false) ∨ (b = 127 ∧ Kind b false false false false false false false true) ∨ (128 ≤ b ∧ Kind b false false false false false false false false) := by
  have h1 := hb.1
  have h2 := hb.2
  have mk : ∀ {e24 e26 e27 l32 l48 l64 l127 e127 : Bool}, ((b = 24 ↔ e24 = true) ∧ (b = 26 ↔ e26 = true) ∧ (b = 27 ↔ e27 = true) ∧ (b < 32 ↔ l32 = true) ∧ (b < 48 ↔ l48 = true) ∧ (b < 64 ↔ l64 = true) ∧ (b < 127 ↔ l127 = true) ∧ (b = 127 ↔ e127 = true)) → Kind b e24 e26 e27 l32 l48 l64 l127 e127 := fun h => by
    obtain ⟨a1, a2, a3, a4, a5, a6, a7, a8⟩ := h
    refine ⟨?_, ?_, ?_, ?_, ?_, ?_, ?_, ?_⟩
    · rw [Bool.eq_iff_iff, beq_iff_eq]; exact a1
    · rw [Bool.eq_iff_iff, beq_iff_eq]; exact a2
    · rw [Bool.eq_iff_iff, beq_iff_eq]; exact a3
    · rw [Bool.eq_iff_iff, decide_eq_true_eq]; exact a4
    · rw [Bool.eq_iff_iff, decide_eq_true_eq]; exact a5
    · rw [Bool.eq_iff_iff, decide_eq_true_eq]; exact a6
    · rw [Bool.eq_iff_iff, decide_eq_true_eq]; exact a7
    · rw [Bool.eq_iff_iff, beq_iff_eq]; exact a8
  by_cases c1 : b = 24
  · exact .inl ⟨c1, mk (by subst c1; decide)⟩
  by_cases c2 : b = 26
  · exact .inr (.inl ⟨c2, mk (by subst c2; decide)⟩)
  by_cases c3 : b = 27
  · exact .inr (.inr (.inl ⟨c3, mk (by subst c3; decide)⟩))
  by_cases c4 : b < 32
  · exact .inr (.inr (.inr (.inl ⟨⟨c4, c1, c2, c3⟩, mk (by simp only [c1, c2, c3, c4, false_iff, true_iff, Bool.false_eq_true, not_false_eq_true]; refine ⟨trivial, trivial, trivial, trivial, ?_, ?_, ?_, ?_⟩ <;> (simp; try omega))⟩)))
  by_cases c5 : b < 48
  · exact .inr (.inr (.inr (.inr (.inl ⟨⟨by omega, c5⟩, mk (by simp only [c1, c2, c3, c4, c5, false_iff, true_iff, Bool.false_eq_true, not_false_eq_true]; refine ⟨trivial, trivial, trivial, trivial, trivial, ?_, ?_, ?_⟩ <;> (simp; try omega))⟩))))
  by_cases c6 : b < 64
  · exact .inr (.inr (.inr (.inr (.inr (.inl ⟨⟨by omega, c6⟩, mk (by simp only [c1, c2, c3, c4, c5, c6, false_iff, true_iff, Bool.false_eq_true, not_false_eq_true]; refine ⟨trivial, trivial, trivial, trivial, trivial, trivial, ?_, ?_⟩ <;> (simp; try omega))⟩)))))
  by_cases c7 : b < 127
  · exact .inr (.inr (.inr (.inr (.inr (.inr (.inl ⟨⟨by omega, c7⟩, mk (by simp only [c1, c2, c3, c4, c5, c6, c7, false_iff, true_iff, Bool.false_eq_true, not_false_eq_true]; refine ⟨trivial, trivial, trivial, trivial, trivial, trivial, trivial, ?_⟩ <;> (simp; try omega))⟩))))))
  by_cases c8 : b = 127
  · exact .inr (.inr (.inr (.inr (.inr (.inr (.inr (.inl ⟨c8, mk (by subst c8; decide)⟩)))))))
  · exact .inr (.inr (.inr (.inr (.inr (.inr (.inr (.inr ⟨by omega, mk (by simp only [c1, c2, c3, c4, c5, c6, c7, c8, false_iff, true_iff, Bool.false_eq_true, not_false_eq_true, and_self])⟩)))))))
/-- Behind a call that leads to this state and these acts. -/
def GoesW (r : PS × List aty.den) (ac : List aty.den) (Q : SV × Heap × List Nat → Prop) : Prop :=
  ∀ st h it ni wr fi mk nu nn fu tx nt R no mv, r.1 = ⟨st, strInts h, it, wr, fi, mk, nu, fu, tx⟩ → R = ac ++ r.2 → ni = it.length → nn = nu.length → nt = tx.length → no = R.length → memN 0 mv = false → Q (.tup [], rows st h it ni wr fi mk nu nn fu tx nt R no, mv)
end T13
end
