/- Part of a proof: the walk of the functions that the law calls. -/
import Derived.Test.YtgcbgenkbdoejaaSxT
import Derived.Test.YtgcbgenkbdoejaaProg
import Derived.Test.YtgcbgenkbdoejaaXP12
set_option linter.unusedVariables false
open Go Sx Go.Proofs
namespace T12
set_option maxRecDepth 100000
set_option maxHeartbeats 1000000
attribute [local irreducible] Tree.Leads

theorem v64 (b : Int) (Q : SV × Heap × List Nat → Prop) (hq : Q (.lit (.int .i64 (wid b)), [], [])) : (bodySumm Table.none Try.prog Try.f64 noAn [.lit (.int .u8 b)] []).Leads Q := by
  refine Sx.by_text (q :=
      Sx.br (Decidable.decide (b < (128 : Int))) (Q (Sx.SV.lit (Go.Value.int Go.IntKind.i64 (1 : Int)), ([] : List Sx.SO), [])) (Sx.br (Decidable.decide (b ≥ (194 : Int)))
      (Sx.br (Decidable.decide (b ≤ (223 : Int))) (Q (Sx.SV.lit (Go.Value.int Go.IntKind.i64 (2 : Int)), ([] : List Sx.SO), [])) (Sx.br (Decidable.decide (b ≥ (224 : Int)))
      (Sx.br (Decidable.decide (b ≤ (239 : Int))) (Q (Sx.SV.lit (Go.Value.int Go.IntKind.i64 (3 : Int)), ([] : List Sx.SO), [])) (Sx.br (Decidable.decide (b ≥ (240 : Int)))
      (Sx.br (Decidable.decide (b ≤ (244 : Int))) (Q (Sx.SV.lit (Go.Value.int Go.IntKind.i64 (4 : Int)), ([] : List Sx.SO), [])) (Q (Sx.SV.lit (Go.Value.int Go.IntKind.i64 (0 :
      Int)), ([] : List Sx.SO), []))) (Q (Sx.SV.lit (Go.Value.int Go.IntKind.i64 (0 : Int)), ([] : List Sx.SO), [])))) (Sx.br (Decidable.decide (b ≥ (240 : Int))) (Sx.br
      (Decidable.decide (b ≤ (244 : Int))) (Q (Sx.SV.lit (Go.Value.int Go.IntKind.i64 (4 : Int)), ([] : List Sx.SO), [])) (Q (Sx.SV.lit (Go.Value.int Go.IntKind.i64 (0 : Int)),
      ([] : List Sx.SO), []))) (Q (Sx.SV.lit (Go.Value.int Go.IntKind.i64 (0 : Int)), ([] : List Sx.SO), []))))) (Sx.br (Decidable.decide (b ≥ (224 : Int))) (Sx.br
      (Decidable.decide (b ≤ (239 : Int))) (Q (Sx.SV.lit (Go.Value.int Go.IntKind.i64 (3 : Int)), ([] : List Sx.SO), [])) (Sx.br (Decidable.decide (b ≥ (240 : Int))) (Sx.br
      (Decidable.decide (b ≤ (244 : Int))) (Q (Sx.SV.lit (Go.Value.int Go.IntKind.i64 (4 : Int)), ([] : List Sx.SO), [])) (Q (Sx.SV.lit (Go.Value.int Go.IntKind.i64 (0 : Int)),
      ([] : List Sx.SO), []))) (Q (Sx.SV.lit (Go.Value.int Go.IntKind.i64 (0 : Int)), ([] : List Sx.SO), [])))) (Sx.br (Decidable.decide (b ≥ (240 : Int))) (Sx.br
      (Decidable.decide (b ≤ (244 : Int))) (Q (Sx.SV.lit (Go.Value.int Go.IntKind.i64 (4 : Int)), ([] : List Sx.SO), [])) (Q (Sx.SV.lit (Go.Value.int Go.IntKind.i64 (0 : Int)),
      ([] : List Sx.SO), []))) (Q (Sx.SV.lit (Go.Value.int Go.IntKind.i64 (0 : Int)), ([] : List Sx.SO), [])))))) (by kernel_rfl) ?_
  have e : ∀ n : Int, wid b = n → Q (.lit (.int .i64 n), [], []) := fun n h => h ▸ hq
  repeat' (refine br_intro (fun h => ?_) (fun h => ?_))
  all_goals refine e _ ?_
  all_goals simp only [decide_eq_true_eq, decide_eq_false_iff_not] at *
  all_goals unfold wid
  all_goals repeat' split
  all_goals omega
theorem may_size {l : List Int} {b : Int} (h : l.length ≠ 1) : may l b = decide (128 ≤ b ∧ b ≤ 191) := by
  match l, h with
  | [], _ => rfl
  | _ :: _ :: _, _ => rfl
theorem v65 (h : ByteArray) (b : Int) (Q : SV × Heap × List Nat → Prop) (hq : Q (.lit (.bool (may (strInts h) b)), [], [])) : (bodySumm Table.none Try.prog Try.f65 noAn [.lit (.string h), .lit (.int .u8 b)] []).Leads Q := by
  refine Sx.by_text (q :=
      Sx.br ((↑(ByteArray.size h) : Int) == (1 : Int)) (((0 : Int) ≤ (0 : Int) ∧ (0 : Int) < (↑(ByteArray.size h) : Int)) ∧ Sx.br (Sx.byteAt h (0 : Int) == (224 : Int)) (Sx.br
      (Decidable.decide (b ≥ (160 : Int))) (Q (Sx.SV.lit (Go.Value.bool (Decidable.decide (b ≤ (191 : Int)))), ([] : List Sx.SO), [])) (Q (Sx.SV.lit (Go.Value.bool Bool.false),
      ([] : List Sx.SO), []))) (Sx.br (Sx.byteAt h (0 : Int) == (237 : Int)) (Sx.br (Decidable.decide (b ≥ (128 : Int))) (Q (Sx.SV.lit (Go.Value.bool (Decidable.decide (b ≤ (159
      : Int)))), ([] : List Sx.SO), [])) (Q (Sx.SV.lit (Go.Value.bool Bool.false), ([] : List Sx.SO), []))) (Sx.br (Sx.byteAt h (0 : Int) == (240 : Int)) (Sx.br
      (Decidable.decide (b ≥ (144 : Int))) (Q (Sx.SV.lit (Go.Value.bool (Decidable.decide (b ≤ (191 : Int)))), ([] : List Sx.SO), [])) (Q (Sx.SV.lit (Go.Value.bool Bool.false),
      ([] : List Sx.SO), []))) (Sx.br (Sx.byteAt h (0 : Int) == (244 : Int)) (Sx.br (Decidable.decide (b ≥ (128 : Int))) (Q (Sx.SV.lit (Go.Value.bool (Decidable.decide (b ≤ (143
      : Int)))), ([] : List Sx.SO), [])) (Q (Sx.SV.lit (Go.Value.bool Bool.false), ([] : List Sx.SO), []))) (Sx.br (Decidable.decide (b ≥ (128 : Int))) (Q (Sx.SV.lit
      (Go.Value.bool (Decidable.decide (b ≤ (191 : Int)))), ([] : List Sx.SO), [])) (Q (Sx.SV.lit (Go.Value.bool Bool.false), ([] : List Sx.SO), []))))))) (Sx.br
      (Decidable.decide (b ≥ (128 : Int))) (Q (Sx.SV.lit (Go.Value.bool (Decidable.decide (b ≤ (191 : Int)))), ([] : List Sx.SO), [])) (Q (Sx.SV.lit (Go.Value.bool Bool.false),
      ([] : List Sx.SO), [])))) (by kernel_rfl) ?_
  have e : ∀ n : Bool, may (strInts h) b = n → Q (.lit (.bool n), [], []) := fun n h => h ▸ hq
  refine br_intro (fun h1 => ?_) (fun h1 => ?_)
  · have h1 : (h.size : Int) = 1 := eq_of_beq h1
    have h2 : (strInts h).length = 1 := by rw [strInts_size]; omega
    obtain ⟨c, hc⟩ := List.length_eq_one_iff.1 h2
    have h3 : byteAt h 0 = c := by rw [byteAt_eq, hc]; rfl
    rw [hc] at e
    rw [h3]
    refine ⟨by omega, ?_⟩
    simp only [may, lowOf, highOf] at e
    repeat' (refine br_intro (fun h => ?_) (fun h => ?_))
    all_goals refine e _ ?_
    all_goals simp only [decide_eq_true_eq, decide_eq_false_iff_not, beq_iff_eq, beq_eq_false_iff_ne] at *
    all_goals repeat' split
    all_goals first | omega | (simp only [decide_eq_decide, decide_eq_false_iff_not]; omega)
  · have h1 := ne_of_beq_false h1
    have h2 : (strInts h).length ≠ 1 := by rw [strInts_size]; omega
    rw [may_size h2] at e
    repeat' (refine br_intro (fun h => ?_) (fun h => ?_))
    all_goals refine e _ ?_
    all_goals simp only [decide_eq_true_eq, decide_eq_false_iff_not] at *
    all_goals first | omega | (simp only [decide_eq_decide]; omega)

theorem bv_or (n i a b : Nat) (h1 : b < 2 ^ i) (h2 : 2 ^ i * a + b < 2 ^ n) : (BitVec.ofInt n ((2 ^ i * a : Nat) : Int) ||| BitVec.ofInt n (b : Int)).toNat = 2 ^ i * a + b := by
  have e1 : (BitVec.ofInt n ((2 ^ i * a : Nat) : Int)).toNat = 2 ^ i * a := by
    rw [BitVec.toNat_ofInt, ← Int.natCast_emod, Int.toNat_natCast, Nat.mod_eq_of_lt (by omega)]
  have e2 : (BitVec.ofInt n (b : Int)).toNat = b := by
    rw [BitVec.toNat_ofInt, ← Int.natCast_emod, Int.toNat_natCast, Nat.mod_eq_of_lt (by omega)]
  rw [BitVec.toNat_or, e1, e2, Nat.two_pow_add_eq_or_of_lt h1]
theorem bv_and (n i a : Nat) (h1 : a < 2 ^ n) (hi : i ≤ n) : (BitVec.ofInt n (a : Int) &&& BitVec.ofInt n ((2 ^ i - 1 : Nat) : Int)).toNat = a % 2 ^ i := by
  have h3 : 2 ^ i ≤ 2 ^ n := Nat.pow_le_pow_right (by decide) hi
  have h4 : 0 < 2 ^ i := Nat.pow_pos (by decide)
  have e1 : (BitVec.ofInt n (a : Int)).toNat = a := by
    rw [BitVec.toNat_ofInt, ← Int.natCast_emod, Int.toNat_natCast, Nat.mod_eq_of_lt h1]
  have e2 : (BitVec.ofInt n ((2 ^ i - 1 : Nat) : Int)).toNat = 2 ^ i - 1 := by
    rw [BitVec.toNat_ofInt, ← Int.natCast_emod, Int.toNat_natCast, Nat.mod_eq_of_lt (by omega)]
  rw [BitVec.toNat_and, e1, e2, Nat.and_two_pow_sub_one_eq_mod]
theorem u8_and (x : Int) (h : 0 ≤ x ∧ x < 256) : IntKind.u8.wrap (((BitVec.ofInt IntKind.u8.bits x &&& BitVec.ofInt IntKind.u8.bits 63).toNat : Nat) : Int) = x % 64 := by
  obtain ⟨n, rfl⟩ : ∃ n : Nat, x = n := ⟨x.toNat, by omega⟩
  have := bv_and 8 6 n (by omega) (by decide)
  have e : (BitVec.ofInt IntKind.u8.bits (n : Int) &&& BitVec.ofInt IntKind.u8.bits 63).toNat = n % 64 := this
  rw [e, IntKind.wrap_u8]; omega
theorem u8_or (i a : Nat) (c x : Int) (hc : c = ((2 ^ i * a : Nat) : Int)) (h0 : 0 ≤ x) (h1 : x < ((2 ^ i : Nat) : Int)) (h2 : c + x < 256) : IntKind.u8.wrap (((BitVec.ofInt IntKind.u8.bits c ||| BitVec.ofInt IntKind.u8.bits x).toNat : Nat) : Int) = c + x := by
  obtain ⟨n, rfl⟩ : ∃ n : Nat, x = n := ⟨x.toNat, by omega⟩
  subst hc
  have := bv_or 8 i a n (by omega) (by omega)
  have e : (BitVec.ofInt IntKind.u8.bits ((2 ^ i * a : Nat) : Int) ||| BitVec.ofInt IntKind.u8.bits (n : Int)).toNat = 2 ^ i * a + n := this
  rw [e, IntKind.wrap_u8]; omega
theorem i32_or (a x : Int) (ha : 0 ≤ a ∧ a < 16777216) (hx : 0 ≤ x ∧ x < 64) : IntKind.i32.wrap (((BitVec.ofInt IntKind.i32.bits (IntKind.i32.wrap (a * 2 ^ min 6 IntKind.i32.bits)) ||| BitVec.ofInt IntKind.i32.bits (IntKind.i32.wrap x)).toNat : Nat) : Int) = a * 64 + x := by
  obtain ⟨m, rfl⟩ : ∃ n : Nat, a = n := ⟨a.toNat, by omega⟩
  obtain ⟨n, rfl⟩ : ∃ n : Nat, x = n := ⟨x.toNat, by omega⟩
  have e0 : IntKind.i32.wrap ((m : Int) * 2 ^ min 6 IntKind.i32.bits) = ((2 ^ 6 * m : Nat) : Int) := by
    have : ((2 : Int) ^ min 6 IntKind.i32.bits) = 64 := rfl
    rw [this, IntKind.wrap_i32]; omega
  have e1 : IntKind.i32.wrap (n : Int) = n := by rw [IntKind.wrap_i32]; omega
  have := bv_or 32 6 m n (by omega) (by omega)
  have e : (BitVec.ofInt IntKind.i32.bits ((2 ^ 6 * m : Nat) : Int) ||| BitVec.ofInt IntKind.i32.bits (n : Int)).toNat = 2 ^ 6 * m + n := this
  rw [e0, e1, e, IntKind.wrap_i32]; omega
theorem i32_and (i : Nat) (x m : Int) (hx : 0 ≤ x ∧ x < 256) (hi : i ≤ 8) (hm : m = ((2 ^ i - 1 : Nat) : Int)) : IntKind.i32.wrap (((BitVec.ofInt IntKind.i32.bits (IntKind.i32.wrap x) &&& BitVec.ofInt IntKind.i32.bits m).toNat : Nat) : Int) = x % ((2 ^ i : Nat) : Int) := by
  obtain ⟨n, rfl⟩ : ∃ n : Nat, x = n := ⟨x.toNat, by omega⟩
  subst hm
  have e1 : IntKind.i32.wrap (n : Int) = n := by rw [IntKind.wrap_i32]; omega
  have := bv_and 32 i n (by omega) (by omega)
  have e : (BitVec.ofInt IntKind.i32.bits (n : Int) &&& BitVec.ofInt IntKind.i32.bits ((2 ^ i - 1 : Nat) : Int)).toNat = n % 2 ^ i := this
  have h4 : 0 < 2 ^ i := Nat.pow_pos (by decide)
  have h5 : n % 2 ^ i < 2 ^ i := Nat.mod_lt _ h4
  have h6 : 2 ^ i ≤ 2 ^ 8 := Nat.pow_le_pow_right (by decide) hi
  rw [e1, e, IntKind.wrap_i32, ← Int.natCast_emod]; omega

/-- The rune of the first i bytes. -/
def part (l : List Int) : Nat → Int
  | 0 => 0
  | 1 => l.getD 0 0 % (if l.length = 2 then 32 else if l.length = 3 then 16 else if l.length = 4 then 8 else 64)
  | i + 1 => part l i * 64 + l.getD i 0 % 64
theorem part_bound (l : List Int) : (0 ≤ part l 1 ∧ part l 1 < 64) ∧ (0 ≤ part l 2 ∧ part l 2 < 4096) ∧ (0 ≤ part l 3 ∧ part l 3 < 262144) := by
  have h1 : 0 ≤ part l 1 ∧ part l 1 < 64 := by
    simp only [part]
    repeat' split
    all_goals omega
  have h2 : part l 2 = part l 1 * 64 + l.getD 1 0 % 64 := rfl
  have h3 : part l 3 = part l 2 * 64 + l.getD 2 0 % 64 := rfl
  refine ⟨h1, ?_, ?_⟩ <;> omega
theorem part_whole {l : List Int} (h : 2 ≤ l.length ∧ l.length ≤ 4) : part l l.length = whole l := by
  match l, h with
  | [a, b], _ => simp [part, whole]
  | [a, b, c], _ => simp [part, whole]; omega
  | [a, b, c, d], _ => simp [part, whole]; omega
noncomputable def A66 (h : ByteArray) : Ann := { live := [0, 3, 4], mv := [], head := fun _ _ => { X := Nat, inv := fun i => ([.lit (.string h), .lit (.int .i32 (part (strInts h) i)), .lit (.int .i64 i)], []), ok := fun i => 1 ≤ i ∧ i ≤ h.size, mu := fun i => h.size - i } }
theorem v66 (h : ByteArray) (Q : SV × Heap × List Nat → Prop) (hb : 2 ≤ h.size ∧ h.size ≤ 4) (hq : Q (.lit (.int .i32 (whole (strInts h))), [], [])) : (bodySumm Table.none Try.prog Try.f66 (An1 0 (A66 h)) [.lit (.string h)] []).Leads Q := by
  refine Sx.by_text (q :=
      ((0 : Int) ≤ (0 : Int) ∧ (0 : Int) < (↑(ByteArray.size h) : Int)) ∧ (0 : Int) ≤ Go.IntKind.wrap Go.IntKind.i64 ((↑(ByteArray.size h) : Int) + (1 : Int)) ∧ (∃ (x : Nat),
      ([Sx.SV.lit (Go.Value.string h), Sx.SV.lit (Go.Value.int Go.IntKind.i32 (Go.IntKind.wrap Go.IntKind.i32 (↑(BitVec.toNat (BitVec.ofInt (Go.IntKind.bits Go.IntKind.i32)
      (Go.IntKind.wrap Go.IntKind.i32 (Sx.byteAt h (0 : Int))) &&& BitVec.ofInt (Go.IntKind.bits Go.IntKind.i32) (Int.fdiv (255 : Int) ((2 : Int) ^ Min.min (Int.toNat
      (Go.IntKind.wrap Go.IntKind.i64 ((↑(ByteArray.size h) : Int) + (1 : Int)))) (Go.IntKind.bits Go.IntKind.i32))))) : Int))), Sx.SV.lit (Go.Value.int Go.IntKind.i64 (1 :
      Int))], ([] : List Sx.SO)) = ([Sx.SV.lit (Go.Value.string h), Sx.SV.lit (Go.Value.int Go.IntKind.i32 (T12.part (Sx.strInts h) x)), Sx.SV.lit (Go.Value.int Go.IntKind.i64
      (↑x : Int))], ([] : List Sx.SO)) ∧ (1 : Nat) ≤ x ∧ x ≤ ByteArray.size h) ∧ ∀ (b : Nat), (1 : Nat) ≤ b ∧ b ≤ ByteArray.size h → Sx.br (Decidable.decide ((↑b : Int) <
      (↑(ByteArray.size h) : Int))) ((0 : Int) ≤ (6 : Int) ∧ ((0 : Int) ≤ (↑b : Int) ∧ (↑b : Int) < (↑(ByteArray.size h) : Int)) ∧ (∃ (x' : Nat), ([Sx.SV.lit (Go.Value.string
      h), Sx.SV.lit (Go.Value.int Go.IntKind.i32 (Go.IntKind.wrap Go.IntKind.i32 (↑(BitVec.toNat (BitVec.ofInt (Go.IntKind.bits Go.IntKind.i32) (Go.IntKind.wrap Go.IntKind.i32
      (T12.part (Sx.strInts h) b * (2 : Int) ^ Min.min (6 : Nat) (Go.IntKind.bits Go.IntKind.i32))) ||| BitVec.ofInt (Go.IntKind.bits Go.IntKind.i32) (Go.IntKind.wrap
      Go.IntKind.i32 (Go.IntKind.wrap Go.IntKind.u8 (↑(BitVec.toNat (BitVec.ofInt (Go.IntKind.bits Go.IntKind.u8) (Sx.byteAt h (↑b : Int)) &&& BitVec.ofInt (Go.IntKind.bits
      Go.IntKind.u8) (63 : Int))) : Int))))) : Int))), Sx.SV.lit (Go.Value.int Go.IntKind.i64 (Go.IntKind.wrap Go.IntKind.i64 ((↑b : Int) + (1 : Int))))], ([] : List Sx.SO)) =
      ([Sx.SV.lit (Go.Value.string h), Sx.SV.lit (Go.Value.int Go.IntKind.i32 (T12.part (Sx.strInts h) x')), Sx.SV.lit (Go.Value.int Go.IntKind.i64 (↑x' : Int))], ([] : List
      Sx.SO)) ∧ ((1 : Nat) ≤ x' ∧ x' ≤ ByteArray.size h) ∧ ByteArray.size h - x' < ByteArray.size h - b) ∧ True) (Q (Sx.SV.lit (Go.Value.int Go.IntKind.i32 (T12.part (Sx.strInts
      h) b)), ([] : List Sx.SO), []))) (by kernel_rfl) ?_
  have hsz := strInts_size h
  have hbyte : ∀ i : Nat, i < h.size → 0 ≤ byteAt h i ∧ byteAt h i < 256 := fun i hi => by
    have h1 : byteAt h i = (strInts h)[i]'(by omega) := by rw [byteAt_eq, Int.toNat_natCast, List.getD_eq_getElem?_getD, List.getElem?_eq_getElem (by omega)]; rfl
    have := strInts_bytes h _ (List.getElem_mem (l := strInts h) (n := i) (by omega))
    rw [h1]; exact ⟨this.1, by have := this.2; omega⟩
  have hw : IntKind.i64.wrap ((h.size : Int) + 1) = h.size + 1 := by rw [IntKind.wrap_i64]; omega
  obtain ⟨p1, p2, p3⟩ := part_bound (strInts h)
  refine ⟨by omega, by omega, ⟨1, ?_, by omega⟩, fun i hi => br_intro (fun hlt => ?_) (fun hge => ?_)⟩
  · have e : IntKind.i32.wrap (((BitVec.ofInt IntKind.i32.bits (IntKind.i32.wrap (byteAt h 0)) &&& BitVec.ofInt IntKind.i32.bits (Int.fdiv 255 (2 ^ min (IntKind.i64.wrap ((h.size : Int) + 1)).toNat IntKind.i32.bits))).toNat : Nat) : Int) = part (strInts h) 1 := by
      rw [hw]
      have hb0 := hbyte 0 (by omega)
      have h0 : byteAt h 0 = (strInts h).getD 0 0 := byteAt_eq h 0
      simp only [part, hsz, ← h0]
      rcases (show h.size = 2 ∨ h.size = 3 ∨ h.size = 4 by omega) with h2 | h2 | h2
      · rw [h2]; exact i32_and 5 _ _ hb0 (by decide) (by decide)
      · rw [h2]; exact i32_and 4 _ _ hb0 (by decide) (by decide)
      · rw [h2]; exact i32_and 3 _ _ hb0 (by decide) (by decide)
    rw [e]; rfl
  · have hlt := of_decide_eq_true hlt
    have hbi := hbyte i (by omega)
    refine ⟨by omega, by omega, ⟨i + 1, ?_, by omega, by omega⟩, trivial⟩
    have e2 : IntKind.i64.wrap ((i : Int) + 1) = ((i + 1 : Nat) : Int) := by rw [IntKind.wrap_i64]; omega
    have e3 : part (strInts h) (i + 1) = part (strInts h) i * 64 + byteAt h i % 64 := by
      obtain ⟨j, rfl⟩ : ∃ j, i = j + 1 := ⟨i - 1, by omega⟩
      rw [byteAt_eq, Int.toNat_natCast]; rfl
    have hp : 0 ≤ part (strInts h) i ∧ part (strInts h) i < 16777216 := by
      rcases (show i = 1 ∨ i = 2 ∨ i = 3 by omega) with rfl | rfl | rfl <;> omega
    rw [e2, u8_and _ hbi, i32_or _ _ hp (by omega), e3]
  · have hge := of_decide_eq_false hge
    have : i = h.size := by omega
    subst this
    rw [← hsz, part_whole (by omega)]
    exact hq
theorem v63 (B : List Int) (r : Int) (Q : SV × Heap × List Nat → Prop) (hr : -2147483648 ≤ r ∧ r ≤ 2147483647) (h128 : ¬ (0 ≤ r ∧ r < 128)) (hB : B.length ≤ 1000000) (hq : Q (.sl 1 1 0 (B.length + (enc r).length), [.dead, .row 5 (.int .u8) (B ++ enc r)], [])) : (bodySumm Table.none Try.prog Try.f63 noAn [.sl 0 1 0 B.length, .lit (.int .i32 r)] [.row 5 (.int .u8) B]).Leads Q := by
  refine Sx.by_text (q :=
      Sx.br (Decidable.decide (Go.IntKind.wrap Go.IntKind.u32 r ≤ (2047 : Int))) ((0 : Int) ≤ (6 : Int) ∧ (2 : Nat) ≤ (2 : Nat) ∧ Sx.br (Decidable.decide (List.length B + (2 :
      Nat) ≤ List.length B)) (Q (Sx.SV.sl (0 : Nat) (1 : Nat) (0 : Nat) (List.length B + (2 : Nat)), [Sx.SO.row (5 : Nat) (Sx.Ty.int Go.IntKind.u8) (List.take (List.length B) B
      ++ [Go.IntKind.wrap Go.IntKind.u8 (↑(BitVec.toNat (BitVec.ofInt (Go.IntKind.bits Go.IntKind.u8) (192 : Int) ||| BitVec.ofInt (Go.IntKind.bits Go.IntKind.u8)
      (Go.IntKind.wrap Go.IntKind.u8 (Int.fdiv r ((2 : Int) ^ Min.min (6 : Nat) (Go.IntKind.bits Go.IntKind.i32)))))) : Int), Go.IntKind.wrap Go.IntKind.u8 (↑(BitVec.toNat
      (BitVec.ofInt (Go.IntKind.bits Go.IntKind.u8) (128 : Int) ||| BitVec.ofInt (Go.IntKind.bits Go.IntKind.u8) (Go.IntKind.wrap Go.IntKind.u8 (↑(BitVec.toNat (BitVec.ofInt
      (Go.IntKind.bits Go.IntKind.u8) (Go.IntKind.wrap Go.IntKind.u8 r) &&& BitVec.ofInt (Go.IntKind.bits Go.IntKind.u8) (63 : Int))) : Int)))) : Int)] ++ List.drop (List.length
      B + (2 : Nat)) B)], [])) (List.length B ≤ List.length B ∧ ((↑(List.length B + (2 : Nat)) : Int) ≤ (9223372036854775807 : Int) ∧ (List.length B + (2 : Nat)) * Sx.bytesOf
      Go.Proofs.Try.prog (5 : Nat) ≤ (140737488355328 : Nat)) ∧ Q (Sx.SV.sl (1 : Nat) (1 : Nat) (0 : Nat) (List.length B + (2 : Nat)), [Sx.SO.dead, Sx.SO.row (5 : Nat)
      (Sx.Ty.int Go.IntKind.u8) (List.take (List.length B) B ++ [Go.IntKind.wrap Go.IntKind.u8 (↑(BitVec.toNat (BitVec.ofInt (Go.IntKind.bits Go.IntKind.u8) (192 : Int) |||
      BitVec.ofInt (Go.IntKind.bits Go.IntKind.u8) (Go.IntKind.wrap Go.IntKind.u8 (Int.fdiv r ((2 : Int) ^ Min.min (6 : Nat) (Go.IntKind.bits Go.IntKind.i32)))))) : Int),
      Go.IntKind.wrap Go.IntKind.u8 (↑(BitVec.toNat (BitVec.ofInt (Go.IntKind.bits Go.IntKind.u8) (128 : Int) ||| BitVec.ofInt (Go.IntKind.bits Go.IntKind.u8) (Go.IntKind.wrap
      Go.IntKind.u8 (↑(BitVec.toNat (BitVec.ofInt (Go.IntKind.bits Go.IntKind.u8) (Go.IntKind.wrap Go.IntKind.u8 r) &&& BitVec.ofInt (Go.IntKind.bits Go.IntKind.u8) (63 : Int)))
      : Int)))) : Int)])], []))) (Sx.br (Decidable.decide (Go.IntKind.wrap Go.IntKind.u32 r < (55296 : Int))) (Sx.br (Decidable.decide (Go.IntKind.wrap Go.IntKind.u32 r < (55296
      : Int))) ((0 : Int) ≤ (12 : Int) ∧ (0 : Int) ≤ (6 : Int) ∧ (3 : Nat) ≤ (3 : Nat) ∧ Sx.br (Decidable.decide (List.length B + (3 : Nat) ≤ List.length B)) (Q (Sx.SV.sl (0 :
      Nat) (1 : Nat) (0 : Nat) (List.length B + (3 : Nat)), [Sx.SO.row (5 : Nat) (Sx.Ty.int Go.IntKind.u8) (List.take (List.length B) B ++ [Go.IntKind.wrap Go.IntKind.u8
      (↑(BitVec.toNat (BitVec.ofInt (Go.IntKind.bits Go.IntKind.u8) (224 : Int) ||| BitVec.ofInt (Go.IntKind.bits Go.IntKind.u8) (Go.IntKind.wrap Go.IntKind.u8 (Int.fdiv r ((2 :
      Int) ^ Min.min (12 : Nat) (Go.IntKind.bits Go.IntKind.i32)))))) : Int), Go.IntKind.wrap Go.IntKind.u8 (↑(BitVec.toNat (BitVec.ofInt (Go.IntKind.bits Go.IntKind.u8) (128 :
      Int) ||| BitVec.ofInt (Go.IntKind.bits Go.IntKind.u8) (Go.IntKind.wrap Go.IntKind.u8 (↑(BitVec.toNat (BitVec.ofInt (Go.IntKind.bits Go.IntKind.u8) (Go.IntKind.wrap
      Go.IntKind.u8 (Int.fdiv r ((2 : Int) ^ Min.min (6 : Nat) (Go.IntKind.bits Go.IntKind.i32)))) &&& BitVec.ofInt (Go.IntKind.bits Go.IntKind.u8) (63 : Int))) : Int)))) :
      Int), Go.IntKind.wrap Go.IntKind.u8 (↑(BitVec.toNat (BitVec.ofInt (Go.IntKind.bits Go.IntKind.u8) (128 : Int) ||| BitVec.ofInt (Go.IntKind.bits Go.IntKind.u8)
      (Go.IntKind.wrap Go.IntKind.u8 (↑(BitVec.toNat (BitVec.ofInt (Go.IntKind.bits Go.IntKind.u8) (Go.IntKind.wrap Go.IntKind.u8 r) &&& BitVec.ofInt (Go.IntKind.bits
      Go.IntKind.u8) (63 : Int))) : Int)))) : Int)] ++ List.drop (List.length B + (3 : Nat)) B)], [])) (List.length B ≤ List.length B ∧ ((↑(List.length B + (3 : Nat)) : Int) ≤
      (9223372036854775807 : Int) ∧ (List.length B + (3 : Nat)) * Sx.bytesOf Go.Proofs.Try.prog (5 : Nat) ≤ (140737488355328 : Nat)) ∧ Q (Sx.SV.sl (1 : Nat) (1 : Nat) (0 : Nat)
      (List.length B + (3 : Nat)), [Sx.SO.dead, Sx.SO.row (5 : Nat) (Sx.Ty.int Go.IntKind.u8) (List.take (List.length B) B ++ [Go.IntKind.wrap Go.IntKind.u8 (↑(BitVec.toNat
      (BitVec.ofInt (Go.IntKind.bits Go.IntKind.u8) (224 : Int) ||| BitVec.ofInt (Go.IntKind.bits Go.IntKind.u8) (Go.IntKind.wrap Go.IntKind.u8 (Int.fdiv r ((2 : Int) ^ Min.min
      (12 : Nat) (Go.IntKind.bits Go.IntKind.i32)))))) : Int), Go.IntKind.wrap Go.IntKind.u8 (↑(BitVec.toNat (BitVec.ofInt (Go.IntKind.bits Go.IntKind.u8) (128 : Int) |||
      BitVec.ofInt (Go.IntKind.bits Go.IntKind.u8) (Go.IntKind.wrap Go.IntKind.u8 (↑(BitVec.toNat (BitVec.ofInt (Go.IntKind.bits Go.IntKind.u8) (Go.IntKind.wrap Go.IntKind.u8
      (Int.fdiv r ((2 : Int) ^ Min.min (6 : Nat) (Go.IntKind.bits Go.IntKind.i32)))) &&& BitVec.ofInt (Go.IntKind.bits Go.IntKind.u8) (63 : Int))) : Int)))) : Int),
      Go.IntKind.wrap Go.IntKind.u8 (↑(BitVec.toNat (BitVec.ofInt (Go.IntKind.bits Go.IntKind.u8) (128 : Int) ||| BitVec.ofInt (Go.IntKind.bits Go.IntKind.u8) (Go.IntKind.wrap
      Go.IntKind.u8 (↑(BitVec.toNat (BitVec.ofInt (Go.IntKind.bits Go.IntKind.u8) (Go.IntKind.wrap Go.IntKind.u8 r) &&& BitVec.ofInt (Go.IntKind.bits Go.IntKind.u8) (63 : Int)))
      : Int)))) : Int)])], []))) (Sx.br (Decidable.decide (Go.IntKind.wrap Go.IntKind.u32 r > (65535 : Int))) (Sx.br (Decidable.decide (Go.IntKind.wrap Go.IntKind.u32 r ≤
      (1114111 : Int))) ((0 : Int) ≤ (18 : Int) ∧ (0 : Int) ≤ (12 : Int) ∧ (0 : Int) ≤ (6 : Int) ∧ (4 : Nat) ≤ (4 : Nat) ∧ Sx.br (Decidable.decide (List.length B + (4 : Nat) ≤
      List.length B)) (Q (Sx.SV.sl (0 : Nat) (1 : Nat) (0 : Nat) (List.length B + (4 : Nat)), [Sx.SO.row (5 : Nat) (Sx.Ty.int Go.IntKind.u8) (List.take (List.length B) B ++
      [Go.IntKind.wrap Go.IntKind.u8 (↑(BitVec.toNat (BitVec.ofInt (Go.IntKind.bits Go.IntKind.u8) (240 : Int) ||| BitVec.ofInt (Go.IntKind.bits Go.IntKind.u8) (Go.IntKind.wrap
      Go.IntKind.u8 (Int.fdiv r ((2 : Int) ^ Min.min (18 : Nat) (Go.IntKind.bits Go.IntKind.i32)))))) : Int), Go.IntKind.wrap Go.IntKind.u8 (↑(BitVec.toNat (BitVec.ofInt
      (Go.IntKind.bits Go.IntKind.u8) (128 : Int) ||| BitVec.ofInt (Go.IntKind.bits Go.IntKind.u8) (Go.IntKind.wrap Go.IntKind.u8 (↑(BitVec.toNat (BitVec.ofInt (Go.IntKind.bits
      Go.IntKind.u8) (Go.IntKind.wrap Go.IntKind.u8 (Int.fdiv r ((2 : Int) ^ Min.min (12 : Nat) (Go.IntKind.bits Go.IntKind.i32)))) &&& BitVec.ofInt (Go.IntKind.bits
      Go.IntKind.u8) (63 : Int))) : Int)))) : Int), Go.IntKind.wrap Go.IntKind.u8 (↑(BitVec.toNat (BitVec.ofInt (Go.IntKind.bits Go.IntKind.u8) (128 : Int) ||| BitVec.ofInt
      (Go.IntKind.bits Go.IntKind.u8) (Go.IntKind.wrap Go.IntKind.u8 (↑(BitVec.toNat (BitVec.ofInt (Go.IntKind.bits Go.IntKind.u8) (Go.IntKind.wrap Go.IntKind.u8 (Int.fdiv r ((2
      : Int) ^ Min.min (6 : Nat) (Go.IntKind.bits Go.IntKind.i32)))) &&& BitVec.ofInt (Go.IntKind.bits Go.IntKind.u8) (63 : Int))) : Int)))) : Int), Go.IntKind.wrap
      Go.IntKind.u8 (↑(BitVec.toNat (BitVec.ofInt (Go.IntKind.bits Go.IntKind.u8) (128 : Int) ||| BitVec.ofInt (Go.IntKind.bits Go.IntKind.u8) (Go.IntKind.wrap Go.IntKind.u8
      (↑(BitVec.toNat (BitVec.ofInt (Go.IntKind.bits Go.IntKind.u8) (Go.IntKind.wrap Go.IntKind.u8 r) &&& BitVec.ofInt (Go.IntKind.bits Go.IntKind.u8) (63 : Int))) : Int)))) :
      Int)] ++ List.drop (List.length B + (4 : Nat)) B)], [])) (List.length B ≤ List.length B ∧ ((↑(List.length B + (4 : Nat)) : Int) ≤ (9223372036854775807 : Int) ∧
      (List.length B + (4 : Nat)) * Sx.bytesOf Go.Proofs.Try.prog (5 : Nat) ≤ (140737488355328 : Nat)) ∧ Q (Sx.SV.sl (1 : Nat) (1 : Nat) (0 : Nat) (List.length B + (4 : Nat)),
      [Sx.SO.dead, Sx.SO.row (5 : Nat) (Sx.Ty.int Go.IntKind.u8) (List.take (List.length B) B ++ [Go.IntKind.wrap Go.IntKind.u8 (↑(BitVec.toNat (BitVec.ofInt (Go.IntKind.bits
      Go.IntKind.u8) (240 : Int) ||| BitVec.ofInt (Go.IntKind.bits Go.IntKind.u8) (Go.IntKind.wrap Go.IntKind.u8 (Int.fdiv r ((2 : Int) ^ Min.min (18 : Nat) (Go.IntKind.bits
      Go.IntKind.i32)))))) : Int), Go.IntKind.wrap Go.IntKind.u8 (↑(BitVec.toNat (BitVec.ofInt (Go.IntKind.bits Go.IntKind.u8) (128 : Int) ||| BitVec.ofInt (Go.IntKind.bits
      Go.IntKind.u8) (Go.IntKind.wrap Go.IntKind.u8 (↑(BitVec.toNat (BitVec.ofInt (Go.IntKind.bits Go.IntKind.u8) (Go.IntKind.wrap Go.IntKind.u8 (Int.fdiv r ((2 : Int) ^ Min.min
      (12 : Nat) (Go.IntKind.bits Go.IntKind.i32)))) &&& BitVec.ofInt (Go.IntKind.bits Go.IntKind.u8) (63 : Int))) : Int)))) : Int), Go.IntKind.wrap Go.IntKind.u8
      (↑(BitVec.toNat (BitVec.ofInt (Go.IntKind.bits Go.IntKind.u8) (128 : Int) ||| BitVec.ofInt (Go.IntKind.bits Go.IntKind.u8) (Go.IntKind.wrap Go.IntKind.u8 (↑(BitVec.toNat
      (BitVec.ofInt (Go.IntKind.bits Go.IntKind.u8) (Go.IntKind.wrap Go.IntKind.u8 (Int.fdiv r ((2 : Int) ^ Min.min (6 : Nat) (Go.IntKind.bits Go.IntKind.i32)))) &&&
      BitVec.ofInt (Go.IntKind.bits Go.IntKind.u8) (63 : Int))) : Int)))) : Int), Go.IntKind.wrap Go.IntKind.u8 (↑(BitVec.toNat (BitVec.ofInt (Go.IntKind.bits Go.IntKind.u8)
      (128 : Int) ||| BitVec.ofInt (Go.IntKind.bits Go.IntKind.u8) (Go.IntKind.wrap Go.IntKind.u8 (↑(BitVec.toNat (BitVec.ofInt (Go.IntKind.bits Go.IntKind.u8) (Go.IntKind.wrap
      Go.IntKind.u8 r) &&& BitVec.ofInt (Go.IntKind.bits Go.IntKind.u8) (63 : Int))) : Int)))) : Int)])], []))) ((3 : Nat) ≤ (3 : Nat) ∧ Sx.br (Decidable.decide (List.length B +
      (3 : Nat) ≤ List.length B)) (Q (Sx.SV.sl (0 : Nat) (1 : Nat) (0 : Nat) (List.length B + (3 : Nat)), [Sx.SO.row (5 : Nat) (Sx.Ty.int Go.IntKind.u8) (List.take (List.length
      B) B ++ [(239 : Int), (191 : Int), (189 : Int)] ++ List.drop (List.length B + (3 : Nat)) B)], [])) (List.length B ≤ List.length B ∧ ((↑(List.length B + (3 : Nat)) : Int) ≤
      (9223372036854775807 : Int) ∧ (List.length B + (3 : Nat)) * Sx.bytesOf Go.Proofs.Try.prog (5 : Nat) ≤ (140737488355328 : Nat)) ∧ Q (Sx.SV.sl (1 : Nat) (1 : Nat) (0 : Nat)
      (List.length B + (3 : Nat)), [Sx.SO.dead, Sx.SO.row (5 : Nat) (Sx.Ty.int Go.IntKind.u8) (List.take (List.length B) B ++ [(239 : Int), (191 : Int), (189 : Int)])], []))))
      ((3 : Nat) ≤ (3 : Nat) ∧ Sx.br (Decidable.decide (List.length B + (3 : Nat) ≤ List.length B)) (Q (Sx.SV.sl (0 : Nat) (1 : Nat) (0 : Nat) (List.length B + (3 : Nat)),
      [Sx.SO.row (5 : Nat) (Sx.Ty.int Go.IntKind.u8) (List.take (List.length B) B ++ [(239 : Int), (191 : Int), (189 : Int)] ++ List.drop (List.length B + (3 : Nat)) B)], []))
      (List.length B ≤ List.length B ∧ ((↑(List.length B + (3 : Nat)) : Int) ≤ (9223372036854775807 : Int) ∧ (List.length B + (3 : Nat)) * Sx.bytesOf Go.Proofs.Try.prog (5 :
      Nat) ≤ (140737488355328 : Nat)) ∧ Q (Sx.SV.sl (1 : Nat) (1 : Nat) (0 : Nat) (List.length B + (3 : Nat)), [Sx.SO.dead, Sx.SO.row (5 : Nat) (Sx.Ty.int Go.IntKind.u8)
      (List.take (List.length B) B ++ [(239 : Int), (191 : Int), (189 : Int)])], []))))) (Sx.br (Decidable.decide ((57343 : Int) < Go.IntKind.wrap Go.IntKind.u32 r)) (Sx.br
      (Decidable.decide (Go.IntKind.wrap Go.IntKind.u32 r ≤ (65535 : Int))) ((0 : Int) ≤ (12 : Int) ∧ (0 : Int) ≤ (6 : Int) ∧ (3 : Nat) ≤ (3 : Nat) ∧ Sx.br (Decidable.decide
      (List.length B + (3 : Nat) ≤ List.length B)) (Q (Sx.SV.sl (0 : Nat) (1 : Nat) (0 : Nat) (List.length B + (3 : Nat)), [Sx.SO.row (5 : Nat) (Sx.Ty.int Go.IntKind.u8)
      (List.take (List.length B) B ++ [Go.IntKind.wrap Go.IntKind.u8 (↑(BitVec.toNat (BitVec.ofInt (Go.IntKind.bits Go.IntKind.u8) (224 : Int) ||| BitVec.ofInt (Go.IntKind.bits
      Go.IntKind.u8) (Go.IntKind.wrap Go.IntKind.u8 (Int.fdiv r ((2 : Int) ^ Min.min (12 : Nat) (Go.IntKind.bits Go.IntKind.i32)))))) : Int), Go.IntKind.wrap Go.IntKind.u8
      (↑(BitVec.toNat (BitVec.ofInt (Go.IntKind.bits Go.IntKind.u8) (128 : Int) ||| BitVec.ofInt (Go.IntKind.bits Go.IntKind.u8) (Go.IntKind.wrap Go.IntKind.u8 (↑(BitVec.toNat
      (BitVec.ofInt (Go.IntKind.bits Go.IntKind.u8) (Go.IntKind.wrap Go.IntKind.u8 (Int.fdiv r ((2 : Int) ^ Min.min (6 : Nat) (Go.IntKind.bits Go.IntKind.i32)))) &&&
      BitVec.ofInt (Go.IntKind.bits Go.IntKind.u8) (63 : Int))) : Int)))) : Int), Go.IntKind.wrap Go.IntKind.u8 (↑(BitVec.toNat (BitVec.ofInt (Go.IntKind.bits Go.IntKind.u8)
      (128 : Int) ||| BitVec.ofInt (Go.IntKind.bits Go.IntKind.u8) (Go.IntKind.wrap Go.IntKind.u8 (↑(BitVec.toNat (BitVec.ofInt (Go.IntKind.bits Go.IntKind.u8) (Go.IntKind.wrap
      Go.IntKind.u8 r) &&& BitVec.ofInt (Go.IntKind.bits Go.IntKind.u8) (63 : Int))) : Int)))) : Int)] ++ List.drop (List.length B + (3 : Nat)) B)], [])) (List.length B ≤
      List.length B ∧ ((↑(List.length B + (3 : Nat)) : Int) ≤ (9223372036854775807 : Int) ∧ (List.length B + (3 : Nat)) * Sx.bytesOf Go.Proofs.Try.prog (5 : Nat) ≤
      (140737488355328 : Nat)) ∧ Q (Sx.SV.sl (1 : Nat) (1 : Nat) (0 : Nat) (List.length B + (3 : Nat)), [Sx.SO.dead, Sx.SO.row (5 : Nat) (Sx.Ty.int Go.IntKind.u8) (List.take
      (List.length B) B ++ [Go.IntKind.wrap Go.IntKind.u8 (↑(BitVec.toNat (BitVec.ofInt (Go.IntKind.bits Go.IntKind.u8) (224 : Int) ||| BitVec.ofInt (Go.IntKind.bits
      Go.IntKind.u8) (Go.IntKind.wrap Go.IntKind.u8 (Int.fdiv r ((2 : Int) ^ Min.min (12 : Nat) (Go.IntKind.bits Go.IntKind.i32)))))) : Int), Go.IntKind.wrap Go.IntKind.u8
      (↑(BitVec.toNat (BitVec.ofInt (Go.IntKind.bits Go.IntKind.u8) (128 : Int) ||| BitVec.ofInt (Go.IntKind.bits Go.IntKind.u8) (Go.IntKind.wrap Go.IntKind.u8 (↑(BitVec.toNat
      (BitVec.ofInt (Go.IntKind.bits Go.IntKind.u8) (Go.IntKind.wrap Go.IntKind.u8 (Int.fdiv r ((2 : Int) ^ Min.min (6 : Nat) (Go.IntKind.bits Go.IntKind.i32)))) &&&
      BitVec.ofInt (Go.IntKind.bits Go.IntKind.u8) (63 : Int))) : Int)))) : Int), Go.IntKind.wrap Go.IntKind.u8 (↑(BitVec.toNat (BitVec.ofInt (Go.IntKind.bits Go.IntKind.u8)
      (128 : Int) ||| BitVec.ofInt (Go.IntKind.bits Go.IntKind.u8) (Go.IntKind.wrap Go.IntKind.u8 (↑(BitVec.toNat (BitVec.ofInt (Go.IntKind.bits Go.IntKind.u8) (Go.IntKind.wrap
      Go.IntKind.u8 r) &&& BitVec.ofInt (Go.IntKind.bits Go.IntKind.u8) (63 : Int))) : Int)))) : Int)])], []))) (Sx.br (Decidable.decide (Go.IntKind.wrap Go.IntKind.u32 r >
      (65535 : Int))) (Sx.br (Decidable.decide (Go.IntKind.wrap Go.IntKind.u32 r ≤ (1114111 : Int))) ((0 : Int) ≤ (18 : Int) ∧ (0 : Int) ≤ (12 : Int) ∧ (0 : Int) ≤ (6 : Int) ∧
      (4 : Nat) ≤ (4 : Nat) ∧ Sx.br (Decidable.decide (List.length B + (4 : Nat) ≤ List.length B)) (Q (Sx.SV.sl (0 : Nat) (1 : Nat) (0 : Nat) (List.length B + (4 : Nat)),
      [Sx.SO.row (5 : Nat) (Sx.Ty.int Go.IntKind.u8) (List.take (List.length B) B ++ [Go.IntKind.wrap Go.IntKind.u8 (↑(BitVec.toNat (BitVec.ofInt (Go.IntKind.bits Go.IntKind.u8)
      (240 : Int) ||| BitVec.ofInt (Go.IntKind.bits Go.IntKind.u8) (Go.IntKind.wrap Go.IntKind.u8 (Int.fdiv r ((2 : Int) ^ Min.min (18 : Nat) (Go.IntKind.bits
      Go.IntKind.i32)))))) : Int), Go.IntKind.wrap Go.IntKind.u8 (↑(BitVec.toNat (BitVec.ofInt (Go.IntKind.bits Go.IntKind.u8) (128 : Int) ||| BitVec.ofInt (Go.IntKind.bits
      Go.IntKind.u8) (Go.IntKind.wrap Go.IntKind.u8 (↑(BitVec.toNat (BitVec.ofInt (Go.IntKind.bits Go.IntKind.u8) (Go.IntKind.wrap Go.IntKind.u8 (Int.fdiv r ((2 : Int) ^ Min.min
      (12 : Nat) (Go.IntKind.bits Go.IntKind.i32)))) &&& BitVec.ofInt (Go.IntKind.bits Go.IntKind.u8) (63 : Int))) : Int)))) : Int), Go.IntKind.wrap Go.IntKind.u8
      (↑(BitVec.toNat (BitVec.ofInt (Go.IntKind.bits Go.IntKind.u8) (128 : Int) ||| BitVec.ofInt (Go.IntKind.bits Go.IntKind.u8) (Go.IntKind.wrap Go.IntKind.u8 (↑(BitVec.toNat
      (BitVec.ofInt (Go.IntKind.bits Go.IntKind.u8) (Go.IntKind.wrap Go.IntKind.u8 (Int.fdiv r ((2 : Int) ^ Min.min (6 : Nat) (Go.IntKind.bits Go.IntKind.i32)))) &&&
      BitVec.ofInt (Go.IntKind.bits Go.IntKind.u8) (63 : Int))) : Int)))) : Int), Go.IntKind.wrap Go.IntKind.u8 (↑(BitVec.toNat (BitVec.ofInt (Go.IntKind.bits Go.IntKind.u8)
      (128 : Int) ||| BitVec.ofInt (Go.IntKind.bits Go.IntKind.u8) (Go.IntKind.wrap Go.IntKind.u8 (↑(BitVec.toNat (BitVec.ofInt (Go.IntKind.bits Go.IntKind.u8) (Go.IntKind.wrap
      Go.IntKind.u8 r) &&& BitVec.ofInt (Go.IntKind.bits Go.IntKind.u8) (63 : Int))) : Int)))) : Int)] ++ List.drop (List.length B + (4 : Nat)) B)], [])) (List.length B ≤
      List.length B ∧ ((↑(List.length B + (4 : Nat)) : Int) ≤ (9223372036854775807 : Int) ∧ (List.length B + (4 : Nat)) * Sx.bytesOf Go.Proofs.Try.prog (5 : Nat) ≤
      (140737488355328 : Nat)) ∧ Q (Sx.SV.sl (1 : Nat) (1 : Nat) (0 : Nat) (List.length B + (4 : Nat)), [Sx.SO.dead, Sx.SO.row (5 : Nat) (Sx.Ty.int Go.IntKind.u8) (List.take
      (List.length B) B ++ [Go.IntKind.wrap Go.IntKind.u8 (↑(BitVec.toNat (BitVec.ofInt (Go.IntKind.bits Go.IntKind.u8) (240 : Int) ||| BitVec.ofInt (Go.IntKind.bits
      Go.IntKind.u8) (Go.IntKind.wrap Go.IntKind.u8 (Int.fdiv r ((2 : Int) ^ Min.min (18 : Nat) (Go.IntKind.bits Go.IntKind.i32)))))) : Int), Go.IntKind.wrap Go.IntKind.u8
      (↑(BitVec.toNat (BitVec.ofInt (Go.IntKind.bits Go.IntKind.u8) (128 : Int) ||| BitVec.ofInt (Go.IntKind.bits Go.IntKind.u8) (Go.IntKind.wrap Go.IntKind.u8 (↑(BitVec.toNat
      (BitVec.ofInt (Go.IntKind.bits Go.IntKind.u8) (Go.IntKind.wrap Go.IntKind.u8 (Int.fdiv r ((2 : Int) ^ Min.min (12 : Nat) (Go.IntKind.bits Go.IntKind.i32)))) &&&
      BitVec.ofInt (Go.IntKind.bits Go.IntKind.u8) (63 : Int))) : Int)))) : Int), Go.IntKind.wrap Go.IntKind.u8 (↑(BitVec.toNat (BitVec.ofInt (Go.IntKind.bits Go.IntKind.u8)
      (128 : Int) ||| BitVec.ofInt (Go.IntKind.bits Go.IntKind.u8) (Go.IntKind.wrap Go.IntKind.u8 (↑(BitVec.toNat (BitVec.ofInt (Go.IntKind.bits Go.IntKind.u8) (Go.IntKind.wrap
      Go.IntKind.u8 (Int.fdiv r ((2 : Int) ^ Min.min (6 : Nat) (Go.IntKind.bits Go.IntKind.i32)))) &&& BitVec.ofInt (Go.IntKind.bits Go.IntKind.u8) (63 : Int))) : Int)))) :
      Int), Go.IntKind.wrap Go.IntKind.u8 (↑(BitVec.toNat (BitVec.ofInt (Go.IntKind.bits Go.IntKind.u8) (128 : Int) ||| BitVec.ofInt (Go.IntKind.bits Go.IntKind.u8)
      (Go.IntKind.wrap Go.IntKind.u8 (↑(BitVec.toNat (BitVec.ofInt (Go.IntKind.bits Go.IntKind.u8) (Go.IntKind.wrap Go.IntKind.u8 r) &&& BitVec.ofInt (Go.IntKind.bits
      Go.IntKind.u8) (63 : Int))) : Int)))) : Int)])], []))) ((3 : Nat) ≤ (3 : Nat) ∧ Sx.br (Decidable.decide (List.length B + (3 : Nat) ≤ List.length B)) (Q (Sx.SV.sl (0 : Nat)
      (1 : Nat) (0 : Nat) (List.length B + (3 : Nat)), [Sx.SO.row (5 : Nat) (Sx.Ty.int Go.IntKind.u8) (List.take (List.length B) B ++ [(239 : Int), (191 : Int), (189 : Int)] ++
      List.drop (List.length B + (3 : Nat)) B)], [])) (List.length B ≤ List.length B ∧ ((↑(List.length B + (3 : Nat)) : Int) ≤ (9223372036854775807 : Int) ∧ (List.length B + (3
      : Nat)) * Sx.bytesOf Go.Proofs.Try.prog (5 : Nat) ≤ (140737488355328 : Nat)) ∧ Q (Sx.SV.sl (1 : Nat) (1 : Nat) (0 : Nat) (List.length B + (3 : Nat)), [Sx.SO.dead,
      Sx.SO.row (5 : Nat) (Sx.Ty.int Go.IntKind.u8) (List.take (List.length B) B ++ [(239 : Int), (191 : Int), (189 : Int)])], [])))) ((3 : Nat) ≤ (3 : Nat) ∧ Sx.br
      (Decidable.decide (List.length B + (3 : Nat) ≤ List.length B)) (Q (Sx.SV.sl (0 : Nat) (1 : Nat) (0 : Nat) (List.length B + (3 : Nat)), [Sx.SO.row (5 : Nat) (Sx.Ty.int
      Go.IntKind.u8) (List.take (List.length B) B ++ [(239 : Int), (191 : Int), (189 : Int)] ++ List.drop (List.length B + (3 : Nat)) B)], [])) (List.length B ≤ List.length B ∧
      ((↑(List.length B + (3 : Nat)) : Int) ≤ (9223372036854775807 : Int) ∧ (List.length B + (3 : Nat)) * Sx.bytesOf Go.Proofs.Try.prog (5 : Nat) ≤ (140737488355328 : Nat)) ∧ Q
      (Sx.SV.sl (1 : Nat) (1 : Nat) (0 : Nat) (List.length B + (3 : Nat)), [Sx.SO.dead, Sx.SO.row (5 : Nat) (Sx.Ty.int Go.IntKind.u8) (List.take (List.length B) B ++ [(239 :
      Int), (191 : Int), (189 : Int)])], []))))) (Sx.br (Decidable.decide (Go.IntKind.wrap Go.IntKind.u32 r > (65535 : Int))) (Sx.br (Decidable.decide (Go.IntKind.wrap
      Go.IntKind.u32 r ≤ (1114111 : Int))) ((0 : Int) ≤ (18 : Int) ∧ (0 : Int) ≤ (12 : Int) ∧ (0 : Int) ≤ (6 : Int) ∧ (4 : Nat) ≤ (4 : Nat) ∧ Sx.br (Decidable.decide
      (List.length B + (4 : Nat) ≤ List.length B)) (Q (Sx.SV.sl (0 : Nat) (1 : Nat) (0 : Nat) (List.length B + (4 : Nat)), [Sx.SO.row (5 : Nat) (Sx.Ty.int Go.IntKind.u8)
      (List.take (List.length B) B ++ [Go.IntKind.wrap Go.IntKind.u8 (↑(BitVec.toNat (BitVec.ofInt (Go.IntKind.bits Go.IntKind.u8) (240 : Int) ||| BitVec.ofInt (Go.IntKind.bits
      Go.IntKind.u8) (Go.IntKind.wrap Go.IntKind.u8 (Int.fdiv r ((2 : Int) ^ Min.min (18 : Nat) (Go.IntKind.bits Go.IntKind.i32)))))) : Int), Go.IntKind.wrap Go.IntKind.u8
      (↑(BitVec.toNat (BitVec.ofInt (Go.IntKind.bits Go.IntKind.u8) (128 : Int) ||| BitVec.ofInt (Go.IntKind.bits Go.IntKind.u8) (Go.IntKind.wrap Go.IntKind.u8 (↑(BitVec.toNat
      (BitVec.ofInt (Go.IntKind.bits Go.IntKind.u8) (Go.IntKind.wrap Go.IntKind.u8 (Int.fdiv r ((2 : Int) ^ Min.min (12 : Nat) (Go.IntKind.bits Go.IntKind.i32)))) &&&
      BitVec.ofInt (Go.IntKind.bits Go.IntKind.u8) (63 : Int))) : Int)))) : Int), Go.IntKind.wrap Go.IntKind.u8 (↑(BitVec.toNat (BitVec.ofInt (Go.IntKind.bits Go.IntKind.u8)
      (128 : Int) ||| BitVec.ofInt (Go.IntKind.bits Go.IntKind.u8) (Go.IntKind.wrap Go.IntKind.u8 (↑(BitVec.toNat (BitVec.ofInt (Go.IntKind.bits Go.IntKind.u8) (Go.IntKind.wrap
      Go.IntKind.u8 (Int.fdiv r ((2 : Int) ^ Min.min (6 : Nat) (Go.IntKind.bits Go.IntKind.i32)))) &&& BitVec.ofInt (Go.IntKind.bits Go.IntKind.u8) (63 : Int))) : Int)))) :
      Int), Go.IntKind.wrap Go.IntKind.u8 (↑(BitVec.toNat (BitVec.ofInt (Go.IntKind.bits Go.IntKind.u8) (128 : Int) ||| BitVec.ofInt (Go.IntKind.bits Go.IntKind.u8)
      (Go.IntKind.wrap Go.IntKind.u8 (↑(BitVec.toNat (BitVec.ofInt (Go.IntKind.bits Go.IntKind.u8) (Go.IntKind.wrap Go.IntKind.u8 r) &&& BitVec.ofInt (Go.IntKind.bits
      Go.IntKind.u8) (63 : Int))) : Int)))) : Int)] ++ List.drop (List.length B + (4 : Nat)) B)], [])) (List.length B ≤ List.length B ∧ ((↑(List.length B + (4 : Nat)) : Int) ≤
      (9223372036854775807 : Int) ∧ (List.length B + (4 : Nat)) * Sx.bytesOf Go.Proofs.Try.prog (5 : Nat) ≤ (140737488355328 : Nat)) ∧ Q (Sx.SV.sl (1 : Nat) (1 : Nat) (0 : Nat)
      (List.length B + (4 : Nat)), [Sx.SO.dead, Sx.SO.row (5 : Nat) (Sx.Ty.int Go.IntKind.u8) (List.take (List.length B) B ++ [Go.IntKind.wrap Go.IntKind.u8 (↑(BitVec.toNat
      (BitVec.ofInt (Go.IntKind.bits Go.IntKind.u8) (240 : Int) ||| BitVec.ofInt (Go.IntKind.bits Go.IntKind.u8) (Go.IntKind.wrap Go.IntKind.u8 (Int.fdiv r ((2 : Int) ^ Min.min
      (18 : Nat) (Go.IntKind.bits Go.IntKind.i32)))))) : Int), Go.IntKind.wrap Go.IntKind.u8 (↑(BitVec.toNat (BitVec.ofInt (Go.IntKind.bits Go.IntKind.u8) (128 : Int) |||
      BitVec.ofInt (Go.IntKind.bits Go.IntKind.u8) (Go.IntKind.wrap Go.IntKind.u8 (↑(BitVec.toNat (BitVec.ofInt (Go.IntKind.bits Go.IntKind.u8) (Go.IntKind.wrap Go.IntKind.u8
      (Int.fdiv r ((2 : Int) ^ Min.min (12 : Nat) (Go.IntKind.bits Go.IntKind.i32)))) &&& BitVec.ofInt (Go.IntKind.bits Go.IntKind.u8) (63 : Int))) : Int)))) : Int),
      Go.IntKind.wrap Go.IntKind.u8 (↑(BitVec.toNat (BitVec.ofInt (Go.IntKind.bits Go.IntKind.u8) (128 : Int) ||| BitVec.ofInt (Go.IntKind.bits Go.IntKind.u8) (Go.IntKind.wrap
      Go.IntKind.u8 (↑(BitVec.toNat (BitVec.ofInt (Go.IntKind.bits Go.IntKind.u8) (Go.IntKind.wrap Go.IntKind.u8 (Int.fdiv r ((2 : Int) ^ Min.min (6 : Nat) (Go.IntKind.bits
      Go.IntKind.i32)))) &&& BitVec.ofInt (Go.IntKind.bits Go.IntKind.u8) (63 : Int))) : Int)))) : Int), Go.IntKind.wrap Go.IntKind.u8 (↑(BitVec.toNat (BitVec.ofInt
      (Go.IntKind.bits Go.IntKind.u8) (128 : Int) ||| BitVec.ofInt (Go.IntKind.bits Go.IntKind.u8) (Go.IntKind.wrap Go.IntKind.u8 (↑(BitVec.toNat (BitVec.ofInt (Go.IntKind.bits
      Go.IntKind.u8) (Go.IntKind.wrap Go.IntKind.u8 r) &&& BitVec.ofInt (Go.IntKind.bits Go.IntKind.u8) (63 : Int))) : Int)))) : Int)])], []))) ((3 : Nat) ≤ (3 : Nat) ∧ Sx.br
      (Decidable.decide (List.length B + (3 : Nat) ≤ List.length B)) (Q (Sx.SV.sl (0 : Nat) (1 : Nat) (0 : Nat) (List.length B + (3 : Nat)), [Sx.SO.row (5 : Nat) (Sx.Ty.int
      Go.IntKind.u8) (List.take (List.length B) B ++ [(239 : Int), (191 : Int), (189 : Int)] ++ List.drop (List.length B + (3 : Nat)) B)], [])) (List.length B ≤ List.length B ∧
      ((↑(List.length B + (3 : Nat)) : Int) ≤ (9223372036854775807 : Int) ∧ (List.length B + (3 : Nat)) * Sx.bytesOf Go.Proofs.Try.prog (5 : Nat) ≤ (140737488355328 : Nat)) ∧ Q
      (Sx.SV.sl (1 : Nat) (1 : Nat) (0 : Nat) (List.length B + (3 : Nat)), [Sx.SO.dead, Sx.SO.row (5 : Nat) (Sx.Ty.int Go.IntKind.u8) (List.take (List.length B) B ++ [(239 :
      Int), (191 : Int), (189 : Int)])], [])))) ((3 : Nat) ≤ (3 : Nat) ∧ Sx.br (Decidable.decide (List.length B + (3 : Nat) ≤ List.length B)) (Q (Sx.SV.sl (0 : Nat) (1 : Nat) (0
      : Nat) (List.length B + (3 : Nat)), [Sx.SO.row (5 : Nat) (Sx.Ty.int Go.IntKind.u8) (List.take (List.length B) B ++ [(239 : Int), (191 : Int), (189 : Int)] ++ List.drop
      (List.length B + (3 : Nat)) B)], [])) (List.length B ≤ List.length B ∧ ((↑(List.length B + (3 : Nat)) : Int) ≤ (9223372036854775807 : Int) ∧ (List.length B + (3 : Nat)) *
      Sx.bytesOf Go.Proofs.Try.prog (5 : Nat) ≤ (140737488355328 : Nat)) ∧ Q (Sx.SV.sl (1 : Nat) (1 : Nat) (0 : Nat) (List.length B + (3 : Nat)), [Sx.SO.dead, Sx.SO.row (5 :
      Nat) (Sx.Ty.int Go.IntKind.u8) (List.take (List.length B) B ++ [(239 : Int), (191 : Int), (189 : Int)])], []))))))) (by kernel_rfl) ?_
  have hb : bytesOf Try.prog 5 = 1 := by kernel_rfl
  have row : ∀ (n : Nat) (M : List Int) (X : Prop), M.length = n → n ≤ 4 → 0 < n → enc r = M → n ≤ n ∧ br (decide (B.length + n ≤ B.length)) X (B.length ≤ B.length ∧ (((B.length + n : Nat) : Int) ≤ 9223372036854775807 ∧ (B.length + n) * bytesOf Try.prog 5 ≤ 140737488355328) ∧
      Q (SV.sl 1 1 0 (B.length + n), [SO.dead, SO.row 5 (Ty.int IntKind.u8) (List.take B.length B ++ M)], [])) := fun n M X h1 h2 h3 h4 => by
    refine ⟨Nat.le_refl _, br_intro (fun h => by have := of_decide_eq_true h; omega) (fun _ => ⟨Nat.le_refl _, ⟨by omega, by rw [hb]; omega⟩, ?_⟩)⟩
    rw [h4, h1] at hq
    rw [List.take_length]; exact hq
  have hu : IntKind.u32.wrap r = r % 4294967296 := by rw [IntKind.wrap_u32]
  have s6 : ((2 : Int) ^ min 6 IntKind.i32.bits) = 64 := rfl
  have s12 : ((2 : Int) ^ min 12 IntKind.i32.bits) = 4096 := rfl
  have s18 : ((2 : Int) ^ min 18 IntKind.i32.bits) = 262144 := rfl
  rw [hu]
  simp only [s6, s12, s18]
  have lo : 0 ≤ r → r ≤ 1114111 → IntKind.u8.wrap ((BitVec.ofInt IntKind.u8.bits 128 ||| BitVec.ofInt IntKind.u8.bits (IntKind.u8.wrap ((BitVec.ofInt IntKind.u8.bits (IntKind.u8.wrap r) &&& BitVec.ofInt IntKind.u8.bits 63).toNat : Nat))).toNat : Nat) = 128 + r % 64 := fun h0 h1 => by
    rw [u8_and _ (by rw [IntKind.wrap_u8]; omega), u8_or 6 2 128 _ (by decide) (by omega) (by omega) (by omega), IntKind.wrap_u8]; omega
  have mid : ∀ d : Int, 0 < d → 0 ≤ r → r ≤ 1114111 → IntKind.u8.wrap ((BitVec.ofInt IntKind.u8.bits 128 ||| BitVec.ofInt IntKind.u8.bits (IntKind.u8.wrap ((BitVec.ofInt IntKind.u8.bits (IntKind.u8.wrap (r.fdiv d)) &&& BitVec.ofInt IntKind.u8.bits 63).toNat : Nat))).toNat : Nat) = 128 + r / d % 64 := fun d hd h0 h1 => by
    rw [Int.fdiv_eq_ediv_of_nonneg _ (by omega)]
    generalize r / d = x
    rw [u8_and _ (by rw [IntKind.wrap_u8]; omega), u8_or 6 2 128 _ (by decide) (by omega) (by omega) (by omega), IntKind.wrap_u8]; omega
  have hi2 : 128 ≤ r → r < 2048 → IntKind.u8.wrap ((BitVec.ofInt IntKind.u8.bits 192 ||| BitVec.ofInt IntKind.u8.bits (IntKind.u8.wrap (r.fdiv 64))).toNat : Nat) = 192 + r / 64 := fun h0 h1 => by
    have e : IntKind.u8.wrap (r.fdiv 64) = r / 64 := by rw [Int.fdiv_eq_ediv_of_nonneg _ (by omega), IntKind.wrap_u8]; omega
    rw [e, u8_or 5 6 192 _ (by decide) (by omega) (by omega) (by omega)]
  have hi3 : 2048 ≤ r → r < 65536 → IntKind.u8.wrap ((BitVec.ofInt IntKind.u8.bits 224 ||| BitVec.ofInt IntKind.u8.bits (IntKind.u8.wrap (r.fdiv 4096))).toNat : Nat) = 224 + r / 4096 := fun h0 h1 => by
    have e : IntKind.u8.wrap (r.fdiv 4096) = r / 4096 := by rw [Int.fdiv_eq_ediv_of_nonneg _ (by omega), IntKind.wrap_u8]; omega
    rw [e, u8_or 4 14 224 _ (by decide) (by omega) (by omega) (by omega)]
  have hi4 : 65536 ≤ r → r ≤ 1114111 → IntKind.u8.wrap ((BitVec.ofInt IntKind.u8.bits 240 ||| BitVec.ofInt IntKind.u8.bits (IntKind.u8.wrap (r.fdiv 262144))).toNat : Nat) = 240 + r / 262144 := fun h0 h1 => by
    have e : IntKind.u8.wrap (r.fdiv 262144) = r / 262144 := by rw [Int.fdiv_eq_ediv_of_nonneg _ (by omega), IntKind.wrap_u8]; omega
    rw [e, u8_or 3 30 240 _ (by decide) (by omega) (by omega) (by omega)]
  repeat' (refine br_intro (fun h => ?_) (fun h => ?_))
  all_goals simp only [decide_eq_true_eq, decide_eq_false_iff_not] at *
  all_goals first
    | (exfalso; omega)
    | (refine ⟨by decide, row 2 _ _ rfl (by decide) (by decide) ?_⟩; rw [enc2 (by omega), hi2 (by omega) (by omega), lo (by omega) (by omega)])
    | (refine ⟨by decide, by decide, row 3 _ _ rfl (by decide) (by decide) ?_⟩; rw [enc3 (by omega), hi3 (by omega) (by omega), mid 64 (by decide) (by omega) (by omega), lo (by omega) (by omega)])
    | (refine ⟨by decide, by decide, by decide, row 4 _ _ rfl (by decide) (by decide) ?_⟩; rw [enc4 (by omega), hi4 (by omega) (by omega), mid 4096 (by decide) (by omega) (by omega), mid 64 (by decide) (by omega) (by omega), lo (by omega) (by omega)])
    | (refine row 3 _ _ rfl (by decide) (by decide) ?_; rw [enc0 (by omega)])
theorem v11 (r : Int) (Q : SV × Heap × List Nat → Prop) (hr : -2147483648 ≤ r ∧ r ≤ 2147483647) (hq : Q (.lit (.string (bsOf (enc r))), [], [])) : (bodySumm Table.none Try.prog Try.f11 noAn [.lit (.int .i32 r)] []).Leads Q := by
  refine Sx.by_text (q :=
      Sx.br (Decidable.decide (r < (0 : Int))) (((4096 : Int) = (0 : Int) → False) ∧ ((64 : Int) = (0 : Int) → False) ∧ ((64 : Int) = (0 : Int) → False) ∧ ((64 : Int) = (0 :
      Int) → False) ∧ (3 : Nat) ≤ (3 : Nat) ∧ Q (Sx.SV.lit (Go.Value.string (Sx.bsOf [Go.IntKind.wrap Go.IntKind.u8 (Go.IntKind.wrap Go.IntKind.i32 ((224 : Int) +
      Go.IntKind.wrap Go.IntKind.i32 (Int.tdiv (65533 : Int) (4096 : Int)))), Go.IntKind.wrap Go.IntKind.u8 (Go.IntKind.wrap Go.IntKind.i32 ((128 : Int) + Int.tmod
      (Go.IntKind.wrap Go.IntKind.i32 (Int.tdiv (65533 : Int) (64 : Int))) (64 : Int))), Go.IntKind.wrap Go.IntKind.u8 (Go.IntKind.wrap Go.IntKind.i32 ((128 : Int) + Int.tmod
      (65533 : Int) (64 : Int)))])), ([] : List Sx.SO), [])) (Sx.br (Decidable.decide (r > (1114111 : Int))) (((4096 : Int) = (0 : Int) → False) ∧ ((64 : Int) = (0 : Int) →
      False) ∧ ((64 : Int) = (0 : Int) → False) ∧ ((64 : Int) = (0 : Int) → False) ∧ (3 : Nat) ≤ (3 : Nat) ∧ Q (Sx.SV.lit (Go.Value.string (Sx.bsOf [Go.IntKind.wrap
      Go.IntKind.u8 (Go.IntKind.wrap Go.IntKind.i32 ((224 : Int) + Go.IntKind.wrap Go.IntKind.i32 (Int.tdiv (65533 : Int) (4096 : Int)))), Go.IntKind.wrap Go.IntKind.u8
      (Go.IntKind.wrap Go.IntKind.i32 ((128 : Int) + Int.tmod (Go.IntKind.wrap Go.IntKind.i32 (Int.tdiv (65533 : Int) (64 : Int))) (64 : Int))), Go.IntKind.wrap Go.IntKind.u8
      (Go.IntKind.wrap Go.IntKind.i32 ((128 : Int) + Int.tmod (65533 : Int) (64 : Int)))])), ([] : List Sx.SO), [])) (Sx.br (Decidable.decide (r ≥ (55296 : Int))) (Sx.br
      (Decidable.decide (r ≤ (57343 : Int))) (((4096 : Int) = (0 : Int) → False) ∧ ((64 : Int) = (0 : Int) → False) ∧ ((64 : Int) = (0 : Int) → False) ∧ ((64 : Int) = (0 : Int)
      → False) ∧ (3 : Nat) ≤ (3 : Nat) ∧ Q (Sx.SV.lit (Go.Value.string (Sx.bsOf [Go.IntKind.wrap Go.IntKind.u8 (Go.IntKind.wrap Go.IntKind.i32 ((224 : Int) + Go.IntKind.wrap
      Go.IntKind.i32 (Int.tdiv (65533 : Int) (4096 : Int)))), Go.IntKind.wrap Go.IntKind.u8 (Go.IntKind.wrap Go.IntKind.i32 ((128 : Int) + Int.tmod (Go.IntKind.wrap
      Go.IntKind.i32 (Int.tdiv (65533 : Int) (64 : Int))) (64 : Int))), Go.IntKind.wrap Go.IntKind.u8 (Go.IntKind.wrap Go.IntKind.i32 ((128 : Int) + Int.tmod (65533 : Int) (64 :
      Int)))])), ([] : List Sx.SO), [])) (Sx.br (Decidable.decide (r < (128 : Int))) ((1 : Nat) ≤ (1 : Nat) ∧ Q (Sx.SV.lit (Go.Value.string (Sx.bsOf [Go.IntKind.wrap
      Go.IntKind.u8 r])), ([] : List Sx.SO), [])) (Sx.br (Decidable.decide (r < (2048 : Int))) (((64 : Int) = (0 : Int) → False) ∧ ((64 : Int) = (0 : Int) → False) ∧ (2 : Nat) ≤
      (2 : Nat) ∧ Q (Sx.SV.lit (Go.Value.string (Sx.bsOf [Go.IntKind.wrap Go.IntKind.u8 (Go.IntKind.wrap Go.IntKind.i32 ((192 : Int) + Go.IntKind.wrap Go.IntKind.i32 (Int.tdiv r
      (64 : Int)))), Go.IntKind.wrap Go.IntKind.u8 (Go.IntKind.wrap Go.IntKind.i32 ((128 : Int) + Int.tmod r (64 : Int)))])), ([] : List Sx.SO), [])) (Sx.br (Decidable.decide (r
      < (65536 : Int))) (((4096 : Int) = (0 : Int) → False) ∧ ((64 : Int) = (0 : Int) → False) ∧ ((64 : Int) = (0 : Int) → False) ∧ ((64 : Int) = (0 : Int) → False) ∧ (3 : Nat)
      ≤ (3 : Nat) ∧ Q (Sx.SV.lit (Go.Value.string (Sx.bsOf [Go.IntKind.wrap Go.IntKind.u8 (Go.IntKind.wrap Go.IntKind.i32 ((224 : Int) + Go.IntKind.wrap Go.IntKind.i32 (Int.tdiv
      r (4096 : Int)))), Go.IntKind.wrap Go.IntKind.u8 (Go.IntKind.wrap Go.IntKind.i32 ((128 : Int) + Int.tmod (Go.IntKind.wrap Go.IntKind.i32 (Int.tdiv r (64 : Int))) (64 :
      Int))), Go.IntKind.wrap Go.IntKind.u8 (Go.IntKind.wrap Go.IntKind.i32 ((128 : Int) + Int.tmod r (64 : Int)))])), ([] : List Sx.SO), [])) (((262144 : Int) = (0 : Int) →
      False) ∧ ((4096 : Int) = (0 : Int) → False) ∧ ((64 : Int) = (0 : Int) → False) ∧ ((64 : Int) = (0 : Int) → False) ∧ ((64 : Int) = (0 : Int) → False) ∧ ((64 : Int) = (0 :
      Int) → False) ∧ (4 : Nat) ≤ (4 : Nat) ∧ Q (Sx.SV.lit (Go.Value.string (Sx.bsOf [Go.IntKind.wrap Go.IntKind.u8 (Go.IntKind.wrap Go.IntKind.i32 ((240 : Int) +
      Go.IntKind.wrap Go.IntKind.i32 (Int.tdiv r (262144 : Int)))), Go.IntKind.wrap Go.IntKind.u8 (Go.IntKind.wrap Go.IntKind.i32 ((128 : Int) + Int.tmod (Go.IntKind.wrap
      Go.IntKind.i32 (Int.tdiv r (4096 : Int))) (64 : Int))), Go.IntKind.wrap Go.IntKind.u8 (Go.IntKind.wrap Go.IntKind.i32 ((128 : Int) + Int.tmod (Go.IntKind.wrap
      Go.IntKind.i32 (Int.tdiv r (64 : Int))) (64 : Int))), Go.IntKind.wrap Go.IntKind.u8 (Go.IntKind.wrap Go.IntKind.i32 ((128 : Int) + Int.tmod r (64 : Int)))])), ([] : List
      Sx.SO), [])))))) (Sx.br (Decidable.decide (r < (128 : Int))) ((1 : Nat) ≤ (1 : Nat) ∧ Q (Sx.SV.lit (Go.Value.string (Sx.bsOf [Go.IntKind.wrap Go.IntKind.u8 r])), ([] :
      List Sx.SO), [])) (Sx.br (Decidable.decide (r < (2048 : Int))) (((64 : Int) = (0 : Int) → False) ∧ ((64 : Int) = (0 : Int) → False) ∧ (2 : Nat) ≤ (2 : Nat) ∧ Q (Sx.SV.lit
      (Go.Value.string (Sx.bsOf [Go.IntKind.wrap Go.IntKind.u8 (Go.IntKind.wrap Go.IntKind.i32 ((192 : Int) + Go.IntKind.wrap Go.IntKind.i32 (Int.tdiv r (64 : Int)))),
      Go.IntKind.wrap Go.IntKind.u8 (Go.IntKind.wrap Go.IntKind.i32 ((128 : Int) + Int.tmod r (64 : Int)))])), ([] : List Sx.SO), [])) (Sx.br (Decidable.decide (r < (65536 :
      Int))) (((4096 : Int) = (0 : Int) → False) ∧ ((64 : Int) = (0 : Int) → False) ∧ ((64 : Int) = (0 : Int) → False) ∧ ((64 : Int) = (0 : Int) → False) ∧ (3 : Nat) ≤ (3 : Nat)
      ∧ Q (Sx.SV.lit (Go.Value.string (Sx.bsOf [Go.IntKind.wrap Go.IntKind.u8 (Go.IntKind.wrap Go.IntKind.i32 ((224 : Int) + Go.IntKind.wrap Go.IntKind.i32 (Int.tdiv r (4096 :
      Int)))), Go.IntKind.wrap Go.IntKind.u8 (Go.IntKind.wrap Go.IntKind.i32 ((128 : Int) + Int.tmod (Go.IntKind.wrap Go.IntKind.i32 (Int.tdiv r (64 : Int))) (64 : Int))),
      Go.IntKind.wrap Go.IntKind.u8 (Go.IntKind.wrap Go.IntKind.i32 ((128 : Int) + Int.tmod r (64 : Int)))])), ([] : List Sx.SO), [])) (((262144 : Int) = (0 : Int) → False) ∧
      ((4096 : Int) = (0 : Int) → False) ∧ ((64 : Int) = (0 : Int) → False) ∧ ((64 : Int) = (0 : Int) → False) ∧ ((64 : Int) = (0 : Int) → False) ∧ ((64 : Int) = (0 : Int) →
      False) ∧ (4 : Nat) ≤ (4 : Nat) ∧ Q (Sx.SV.lit (Go.Value.string (Sx.bsOf [Go.IntKind.wrap Go.IntKind.u8 (Go.IntKind.wrap Go.IntKind.i32 ((240 : Int) + Go.IntKind.wrap
      Go.IntKind.i32 (Int.tdiv r (262144 : Int)))), Go.IntKind.wrap Go.IntKind.u8 (Go.IntKind.wrap Go.IntKind.i32 ((128 : Int) + Int.tmod (Go.IntKind.wrap Go.IntKind.i32
      (Int.tdiv r (4096 : Int))) (64 : Int))), Go.IntKind.wrap Go.IntKind.u8 (Go.IntKind.wrap Go.IntKind.i32 ((128 : Int) + Int.tmod (Go.IntKind.wrap Go.IntKind.i32 (Int.tdiv r
      (64 : Int))) (64 : Int))), Go.IntKind.wrap Go.IntKind.u8 (Go.IntKind.wrap Go.IntKind.i32 ((128 : Int) + Int.tmod r (64 : Int)))])), ([] : List Sx.SO), [])))))))) (by kernel_rfl) ?_
  have e : ∀ n : List Int, enc r = n → Q (.lit (.string (bsOf n)), [], []) := fun n h => h ▸ hq
  have dv : ∀ d : Int, 0 < d → 0 ≤ r → r ≤ 1114111 → IntKind.i32.wrap (r.tdiv d) = r / d := fun d hd h0 h1 => by
    rw [Int.tdiv_eq_ediv_of_nonneg h0]
    have := Int.ediv_nonneg h0 (Int.le_of_lt hd)
    have := Int.ediv_le_self d h0
    rw [IntKind.wrap_i32]; omega
  have lo : ∀ x : Int, 0 ≤ x → x ≤ 1114111 → IntKind.u8.wrap (IntKind.i32.wrap (128 + x.tmod 64)) = 128 + x % 64 := fun x h0 h1 => by
    rw [Int.tmod_eq_emod_of_nonneg h0, IntKind.wrap_i32, IntKind.wrap_u8]; omega
  have hi : ∀ c x : Int, 0 ≤ c → 0 ≤ x → c + x < 256 → IntKind.u8.wrap (IntKind.i32.wrap (c + x)) = c + x := fun c x h0 h1 h2 => by
    rw [IntKind.wrap_i32, IntKind.wrap_u8]; omega
  repeat' (refine br_intro (fun h => ?_) (fun h => ?_))
  all_goals simp only [decide_eq_true_eq, decide_eq_false_iff_not] at *
  all_goals first
    | (exfalso; omega)
    | exact ⟨by omega, by omega, by omega, by omega, by omega, e _ (enc0 (by omega))⟩
    | (refine ⟨by omega, e _ ?_⟩; rw [enc1 (by omega), IntKind.wrap_u8]; congr 1; omega)
    | (refine ⟨by omega, by omega, by omega, e _ ?_⟩; rw [enc2 (by omega), dv 64 (by omega) (by omega) (by omega), hi 192 _ (by omega) (by omega) (by omega), lo r (by omega) (by omega)])
    | (refine ⟨by omega, by omega, by omega, by omega, by omega, e _ ?_⟩; rw [enc3 (by omega), dv 64 (by omega) (by omega) (by omega), dv 4096 (by omega) (by omega) (by omega), hi 224 _ (by omega) (by omega) (by omega), lo (r / 64) (by omega) (by omega), lo r (by omega) (by omega)])
    | (refine ⟨by omega, by omega, by omega, by omega, by omega, by omega, by omega, e _ ?_⟩; rw [enc4 (by omega), dv 64 (by omega) (by omega) (by omega), dv 4096 (by omega) (by omega) (by omega), dv 262144 (by omega) (by omega) (by omega), hi 240 _ (by omega) (by omega) (by omega), lo (r / 64) (by omega) (by omega), lo (r / 4096) (by omega) (by omega), lo r (by omega) (by omega)])
noncomputable def s64 : Summ := fun args H => match args, H with
  | [.lit (.int .u8 b)], [] => .ret (.lit (.int .i64 (wid b)), [], [])
  | _, _ => .fail
theorem s64_ok : SummOK Try.prog 64 s64 := by
  refine summ_of_body (fn := Try.f64) (c := Try.f64.body.get!) none_ok (by kernel_rfl) (by kernel_rfl) (by kernel_rfl) fun args H Q h => ?_
  unfold s64 at h
  split at h
  · rename_i b
    simp only [Tree.Leads] at h
    exact ⟨noAn, v64 b Q h⟩
  · simp only [Tree.Leads] at h
noncomputable def s65 : Summ := fun args H => match args, H with
  | [.lit (.string h), .lit (.int .u8 b)], [] => .ret (.lit (.bool (may (strInts h) b)), [], [])
  | _, _ => .fail
theorem s65_ok : SummOK Try.prog 65 s65 := by
  refine summ_of_body (fn := Try.f65) (c := Try.f65.body.get!) none_ok (by kernel_rfl) (by kernel_rfl) (by kernel_rfl) fun args H Q h => ?_
  unfold s65 at h
  split at h
  · rename_i s b
    simp only [Tree.Leads] at h
    exact ⟨noAn, v65 s b Q h⟩
  · simp only [Tree.Leads] at h
noncomputable def s66 : Summ := fun args H => match args, H with
  | [.lit (.string h)], [] => .need (2 ≤ h.size ∧ h.size ≤ 4) (.ret (.lit (.int .i32 (whole (strInts h))), [], []))
  | _, _ => .fail
theorem s66_ok : SummOK Try.prog 66 s66 := by
  refine summ_of_body (fn := Try.f66) (c := Try.f66.body.get!) none_ok (by kernel_rfl) (by kernel_rfl) (by kernel_rfl) fun args H Q h => ?_
  unfold s66 at h
  split at h
  · rename_i s
    simp only [Tree.Leads] at h
    exact ⟨_, v66 s Q h.1 h.2⟩
  · simp only [Tree.Leads] at h
noncomputable def s63 : Summ := fun args H => match args, H with
  | [.sl 0 1 0 m, .lit (.int .i32 r)], [.row 5 (.int .u8) B] => .need (m = B.length ∧ (-2147483648 ≤ r ∧ r ≤ 2147483647) ∧ ¬ (0 ≤ r ∧ r < 128) ∧ B.length ≤ 1000000) (.ret (.sl 1 1 0 (B.length + (enc r).length), [.dead, .row 5 (.int .u8) (B ++ enc r)], []))
  | _, _ => .fail
theorem s63_ok : SummOK Try.prog 63 s63 := by
  refine summ_of_body (fn := Try.f63) (c := Try.f63.body.get!) none_ok (by kernel_rfl) (by kernel_rfl) (by kernel_rfl) fun args H Q h => ?_
  unfold s63 at h
  split at h
  · rename_i m r B
    simp only [Tree.Leads] at h
    obtain ⟨⟨rfl, h2, h3, h4⟩, hq⟩ := h
    exact ⟨noAn, v63 B r Q h2 h3 h4 hq⟩
  · simp only [Tree.Leads] at h
noncomputable def s11 : Summ := fun args H => match args, H with
  | [.lit (.int .i32 r)], [] => .need (-2147483648 ≤ r ∧ r ≤ 2147483647) (.ret (.lit (.string (bsOf (enc r))), [], []))
  | _, _ => .fail
theorem s11_ok : SummOK Try.prog 11 s11 := by
  refine summ_of_body (fn := Try.f11) (c := Try.f11.body.get!) none_ok (by kernel_rfl) (by kernel_rfl) (by kernel_rfl) fun args H Q h => ?_
  unfold s11 at h
  split at h
  · rename_i r
    simp only [Tree.Leads] at h
    exact ⟨noAn, v11 r Q h.1 h.2⟩
  · simp only [Tree.Leads] at h
noncomputable def T1 : Table := ((((Table.none.add 64 (.go s64)).add 65 (.go s65)).add 66 (.go s66)).add 63 (.go s63)).add 11 (.go s11)
theorem T1_ok : TableOK Try.prog T1 := add_ok (add_ok (add_ok (add_ok (add_ok none_ok s64_ok) s65_ok) s66_ok) s63_ok) s11_ok
end T12
