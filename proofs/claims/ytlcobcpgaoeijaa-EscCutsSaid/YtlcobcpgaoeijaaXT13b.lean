/- Part of a proof: the walk of the functions that the law calls. -/
import Derived.Test.YtlcobcpgaoeijaaSxT
import Derived.Test.YtlcobcpgaoeijaaXT13a
import Derived.Test.YtlcobcpgaoeijaaXP13
open Go Sx Go.Proofs T12
namespace T13
set_option maxRecDepth 100000
set_option maxHeartbeats 1000000
attribute [local irreducible] Tree.Leads
theorem v60 (b : Int) (Q : SV × Heap × List Nat → Prop) (hq : Q (.lit (.int .i64 (wid b)), [], [])) : (bodySumm Table.none Try.prog Try.f60 noAn [.lit (.int .u8 b)] []).Leads Q := by
  refine Sx.by_text (q :=
      Sx.br (Decidable.decide (b < (128 : Int))) (Q (Sx.SV.lit (Go.Value.int Go.IntKind.i64 (1 : Int)), ([] : List Sx.SO), []))
        (Sx.br (Decidable.decide (b ≥ (194 : Int)))
          (Sx.br (Decidable.decide (b ≤ (223 : Int))) (Q (Sx.SV.lit (Go.Value.int Go.IntKind.i64 (2 : Int)), ([] : List Sx.SO), []))
            (Sx.br (Decidable.decide (b ≥ (224 : Int)))
              (Sx.br (Decidable.decide (b ≤ (239 : Int))) (Q (Sx.SV.lit (Go.Value.int Go.IntKind.i64 (3 : Int)), ([] : List Sx.SO), []))
                (Sx.br (Decidable.decide (b ≥ (240 : Int)))
                  (Sx.br (Decidable.decide (b ≤ (244 : Int))) (Q (Sx.SV.lit (Go.Value.int Go.IntKind.i64 (4 : Int)), ([] : List Sx.SO), []))
                    (Q (Sx.SV.lit (Go.Value.int Go.IntKind.i64 (0 : Int)), ([] : List Sx.SO), [])))
                  (Q (Sx.SV.lit (Go.Value.int Go.IntKind.i64 (0 : Int)), ([] : List Sx.SO), []))))
              (Sx.br (Decidable.decide (b ≥ (240 : Int)))
                (Sx.br (Decidable.decide (b ≤ (244 : Int))) (Q (Sx.SV.lit (Go.Value.int Go.IntKind.i64 (4 : Int)), ([] : List Sx.SO), []))
                  (Q (Sx.SV.lit (Go.Value.int Go.IntKind.i64 (0 : Int)), ([] : List Sx.SO), [])))
                (Q (Sx.SV.lit (Go.Value.int Go.IntKind.i64 (0 : Int)), ([] : List Sx.SO), [])))))
          (Sx.br (Decidable.decide (b ≥ (224 : Int)))
            (Sx.br (Decidable.decide (b ≤ (239 : Int))) (Q (Sx.SV.lit (Go.Value.int Go.IntKind.i64 (3 : Int)), ([] : List Sx.SO), []))
              (Sx.br (Decidable.decide (b ≥ (240 : Int)))
                (Sx.br (Decidable.decide (b ≤ (244 : Int))) (Q (Sx.SV.lit (Go.Value.int Go.IntKind.i64 (4 : Int)), ([] : List Sx.SO), []))
                  (Q (Sx.SV.lit (Go.Value.int Go.IntKind.i64 (0 : Int)), ([] : List Sx.SO), [])))
                (Q (Sx.SV.lit (Go.Value.int Go.IntKind.i64 (0 : Int)), ([] : List Sx.SO), []))))
            (Sx.br (Decidable.decide (b ≥ (240 : Int)))
              (Sx.br (Decidable.decide (b ≤ (244 : Int))) (Q (Sx.SV.lit (Go.Value.int Go.IntKind.i64 (4 : Int)), ([] : List Sx.SO), []))
                (Q (Sx.SV.lit (Go.Value.int Go.IntKind.i64 (0 : Int)), ([] : List Sx.SO), [])))
              (Q (Sx.SV.lit (Go.Value.int Go.IntKind.i64 (0 : Int)), ([] : List Sx.SO), [])))))) (by kernel_rfl) ?_
  have e : ∀ n : Int, wid b = n → Q (.lit (.int .i64 n), [], []) := fun n h => h ▸ hq
  repeat' (refine br_intro (fun h => ?_) (fun h => ?_))
  all_goals refine e _ ?_
  all_goals simp only [decide_eq_true_eq, decide_eq_false_iff_not] at *
  all_goals unfold wid
  all_goals repeat' split
  all_goals omega
theorem may_size {l : List Int} {b : Int} (h : l.length ≠ 1) : may l b = decide (128 ≤ b ∧ b ≤ 191) := by
  match l, h with
  | [], _ => rfl
  | _ :: _ :: _, _ => rfl
theorem v61 (h : ByteArray) (b : Int) (Q : SV × Heap × List Nat → Prop) (hq : Q (.lit (.bool (may (strInts h) b)), [], [])) : (bodySumm Table.none Try.prog Try.f61 noAn [.lit (.string h), .lit (.int .u8 b)] []).Leads Q := by
  refine Sx.by_text (q :=
      Sx.br ((↑(ByteArray.size h) : Int) == (1 : Int))
        (((0 : Int) ≤ (0 : Int) ∧ (0 : Int) < (↑(ByteArray.size h) : Int)) ∧
          Sx.br (Sx.byteAt h (0 : Int) == (224 : Int))
            (Sx.br (Decidable.decide (b ≥ (160 : Int))) (Q (Sx.SV.lit (Go.Value.bool (Decidable.decide (b ≤ (191 : Int)))), ([] : List Sx.SO), []))
              (Q (Sx.SV.lit (Go.Value.bool Bool.false), ([] : List Sx.SO), [])))
            (Sx.br (Sx.byteAt h (0 : Int) == (237 : Int))
              (Sx.br (Decidable.decide (b ≥ (128 : Int))) (Q (Sx.SV.lit (Go.Value.bool (Decidable.decide (b ≤ (159 : Int)))), ([] : List Sx.SO), []))
                (Q (Sx.SV.lit (Go.Value.bool Bool.false), ([] : List Sx.SO), [])))
              (Sx.br (Sx.byteAt h (0 : Int) == (240 : Int))
                (Sx.br (Decidable.decide (b ≥ (144 : Int))) (Q (Sx.SV.lit (Go.Value.bool (Decidable.decide (b ≤ (191 : Int)))), ([] : List Sx.SO), []))
                  (Q (Sx.SV.lit (Go.Value.bool Bool.false), ([] : List Sx.SO), [])))
                (Sx.br (Sx.byteAt h (0 : Int) == (244 : Int))
                  (Sx.br (Decidable.decide (b ≥ (128 : Int))) (Q (Sx.SV.lit (Go.Value.bool (Decidable.decide (b ≤ (143 : Int)))), ([] : List Sx.SO), []))
                    (Q (Sx.SV.lit (Go.Value.bool Bool.false), ([] : List Sx.SO), [])))
                  (Sx.br (Decidable.decide (b ≥ (128 : Int))) (Q (Sx.SV.lit (Go.Value.bool (Decidable.decide (b ≤ (191 : Int)))), ([] : List Sx.SO), []))
                    (Q (Sx.SV.lit (Go.Value.bool Bool.false), ([] : List Sx.SO), [])))))))
        (Sx.br (Decidable.decide (b ≥ (128 : Int))) (Q (Sx.SV.lit (Go.Value.bool (Decidable.decide (b ≤ (191 : Int)))), ([] : List Sx.SO), []))
          (Q (Sx.SV.lit (Go.Value.bool Bool.false), ([] : List Sx.SO), [])))) (by kernel_rfl) ?_
  have e : ∀ n : Bool, may (strInts h) b = n → Q (.lit (.bool n), [], []) := fun n h => h ▸ hq
  refine br_intro (fun h1 => ?_) (fun h1 => ?_)
  · have h1 : (h.size : Int) = 1 := eq_of_beq h1
    have h2 : (strInts h).length = 1 := by rw [strInts_size]; omega
    obtain ⟨c, hc⟩ := List.length_eq_one_iff.1 h2
    have h3 : byteAt h 0 = c := by rw [byteAt_eq, hc]; rfl
    rw [hc] at e
    rw [h3]
    refine ⟨by omega, ?_⟩
    simp only [may, lowOf, highOf] at e
    repeat' (refine br_intro (fun h => ?_) (fun h => ?_))
    all_goals refine e _ ?_
    all_goals simp only [decide_eq_true_eq, decide_eq_false_iff_not, beq_iff_eq, beq_eq_false_iff_ne] at *
    all_goals repeat' split
    all_goals first | omega | (simp only [decide_eq_decide, decide_eq_false_iff_not]; omega)
  · have h1 := ne_of_beq_false h1
    have h2 : (strInts h).length ≠ 1 := by rw [strInts_size]; omega
    rw [may_size h2] at e
    repeat' (refine br_intro (fun h => ?_) (fun h => ?_))
    all_goals refine e _ ?_
    all_goals simp only [decide_eq_true_eq, decide_eq_false_iff_not] at *
    all_goals first | omega | (simp only [decide_eq_decide]; omega)

theorem bv_or (n i a b : Nat) (h1 : b < 2 ^ i) (h2 : 2 ^ i * a + b < 2 ^ n) : (BitVec.ofInt n ((2 ^ i * a : Nat) : Int) ||| BitVec.ofInt n (b : Int)).toNat = 2 ^ i * a + b := by
  have e1 : (BitVec.ofInt n ((2 ^ i * a : Nat) : Int)).toNat = 2 ^ i * a := by
    rw [BitVec.toNat_ofInt, ← Int.natCast_emod, Int.toNat_natCast, Nat.mod_eq_of_lt (by omega)]
  have e2 : (BitVec.ofInt n (b : Int)).toNat = b := by
    rw [BitVec.toNat_ofInt, ← Int.natCast_emod, Int.toNat_natCast, Nat.mod_eq_of_lt (by omega)]
  rw [BitVec.toNat_or, e1, e2, Nat.two_pow_add_eq_or_of_lt h1]
theorem bv_and (n i a : Nat) (h1 : a < 2 ^ n) (hi : i ≤ n) : (BitVec.ofInt n (a : Int) &&& BitVec.ofInt n ((2 ^ i - 1 : Nat) : Int)).toNat = a % 2 ^ i := by
  have h3 : 2 ^ i ≤ 2 ^ n := Nat.pow_le_pow_right (by decide) hi
  have h4 : 0 < 2 ^ i := Nat.pow_pos (by decide)
  have e1 : (BitVec.ofInt n (a : Int)).toNat = a := by
    rw [BitVec.toNat_ofInt, ← Int.natCast_emod, Int.toNat_natCast, Nat.mod_eq_of_lt h1]
  have e2 : (BitVec.ofInt n ((2 ^ i - 1 : Nat) : Int)).toNat = 2 ^ i - 1 := by
    rw [BitVec.toNat_ofInt, ← Int.natCast_emod, Int.toNat_natCast, Nat.mod_eq_of_lt (by omega)]
  rw [BitVec.toNat_and, e1, e2, Nat.and_two_pow_sub_one_eq_mod]
theorem u8_and (x : Int) (h : 0 ≤ x ∧ x < 256) : IntKind.u8.wrap (((BitVec.ofInt IntKind.u8.bits x &&& BitVec.ofInt IntKind.u8.bits 63).toNat : Nat) : Int) = x % 64 := by
  obtain ⟨n, rfl⟩ : ∃ n : Nat, x = n := ⟨x.toNat, by omega⟩
  have := bv_and 8 6 n (by omega) (by decide)
  have e : (BitVec.ofInt IntKind.u8.bits (n : Int) &&& BitVec.ofInt IntKind.u8.bits 63).toNat = n % 64 := this
  rw [e, IntKind.wrap_u8]; omega
theorem u8_or (i a : Nat) (c x : Int) (hc : c = ((2 ^ i * a : Nat) : Int)) (h0 : 0 ≤ x) (h1 : x < ((2 ^ i : Nat) : Int)) (h2 : c + x < 256) : IntKind.u8.wrap (((BitVec.ofInt IntKind.u8.bits c ||| BitVec.ofInt IntKind.u8.bits x).toNat : Nat) : Int) = c + x := by
  obtain ⟨n, rfl⟩ : ∃ n : Nat, x = n := ⟨x.toNat, by omega⟩
  subst hc
  have := bv_or 8 i a n (by omega) (by omega)
  have e : (BitVec.ofInt IntKind.u8.bits ((2 ^ i * a : Nat) : Int) ||| BitVec.ofInt IntKind.u8.bits (n : Int)).toNat = 2 ^ i * a + n := this
  rw [e, IntKind.wrap_u8]; omega
theorem i32_or (a x : Int) (ha : 0 ≤ a ∧ a < 16777216) (hx : 0 ≤ x ∧ x < 64) : IntKind.i32.wrap (((BitVec.ofInt IntKind.i32.bits (IntKind.i32.wrap (a * 2 ^ min 6 IntKind.i32.bits)) ||| BitVec.ofInt IntKind.i32.bits (IntKind.i32.wrap x)).toNat : Nat) : Int) = a * 64 + x := by
  obtain ⟨m, rfl⟩ : ∃ n : Nat, a = n := ⟨a.toNat, by omega⟩
  obtain ⟨n, rfl⟩ : ∃ n : Nat, x = n := ⟨x.toNat, by omega⟩
  have e0 : IntKind.i32.wrap ((m : Int) * 2 ^ min 6 IntKind.i32.bits) = ((2 ^ 6 * m : Nat) : Int) := by
    have : ((2 : Int) ^ min 6 IntKind.i32.bits) = 64 := rfl
    rw [this, IntKind.wrap_i32]; omega
  have e1 : IntKind.i32.wrap (n : Int) = n := by rw [IntKind.wrap_i32]; omega
  have := bv_or 32 6 m n (by omega) (by omega)
  have e : (BitVec.ofInt IntKind.i32.bits ((2 ^ 6 * m : Nat) : Int) ||| BitVec.ofInt IntKind.i32.bits (n : Int)).toNat = 2 ^ 6 * m + n := this
  rw [e0, e1, e, IntKind.wrap_i32]; omega
theorem i32_and (i : Nat) (x m : Int) (hx : 0 ≤ x ∧ x < 256) (hi : i ≤ 8) (hm : m = ((2 ^ i - 1 : Nat) : Int)) : IntKind.i32.wrap (((BitVec.ofInt IntKind.i32.bits (IntKind.i32.wrap x) &&& BitVec.ofInt IntKind.i32.bits m).toNat : Nat) : Int) = x % ((2 ^ i : Nat) : Int) := by
  obtain ⟨n, rfl⟩ : ∃ n : Nat, x = n := ⟨x.toNat, by omega⟩
  subst hm
  have e1 : IntKind.i32.wrap (n : Int) = n := by rw [IntKind.wrap_i32]; omega
  have := bv_and 32 i n (by omega) (by omega)
  have e : (BitVec.ofInt IntKind.i32.bits (n : Int) &&& BitVec.ofInt IntKind.i32.bits ((2 ^ i - 1 : Nat) : Int)).toNat = n % 2 ^ i := this
  have h4 : 0 < 2 ^ i := Nat.pow_pos (by decide)
  have h5 : n % 2 ^ i < 2 ^ i := Nat.mod_lt _ h4
  have h6 : 2 ^ i ≤ 2 ^ 8 := Nat.pow_le_pow_right (by decide) hi
  rw [e1, e, IntKind.wrap_i32, ← Int.natCast_emod]; omega

/-- The rune of the first i bytes. -/
def part (l : List Int) : Nat → Int
  | 0 => 0
  | 1 => l.getD 0 0 % (if l.length = 2 then 32 else if l.length = 3 then 16 else if l.length = 4 then 8 else 64)
  | i + 1 => part l i * 64 + l.getD i 0 % 64
theorem part_bound (l : List Int) : (0 ≤ part l 1 ∧ part l 1 < 64) ∧ (0 ≤ part l 2 ∧ part l 2 < 4096) ∧ (0 ≤ part l 3 ∧ part l 3 < 262144) := by
  have h1 : 0 ≤ part l 1 ∧ part l 1 < 64 := by
    simp only [part]
    repeat' split
    all_goals omega
  have h2 : part l 2 = part l 1 * 64 + l.getD 1 0 % 64 := rfl
  have h3 : part l 3 = part l 2 * 64 + l.getD 2 0 % 64 := rfl
  refine ⟨h1, ?_, ?_⟩ <;> omega
theorem part_whole {l : List Int} (h : 2 ≤ l.length ∧ l.length ≤ 4) : part l l.length = whole l := by
  match l, h with
  | [a, b], _ => simp [part, whole]
  | [a, b, c], _ => simp [part, whole]; omega
  | [a, b, c, d], _ => simp [part, whole]; omega
noncomputable def A62 (h : ByteArray) : Ann := { live := [0, 3, 4], mv := [], head := fun _ _ => { X := Nat, inv := fun i => ([.lit (.string h), .lit (.int .i32 (part (strInts h) i)), .lit (.int .i64 i)], []), ok := fun i => 1 ≤ i ∧ i ≤ h.size, mu := fun i => h.size - i } }
theorem v62 (h : ByteArray) (Q : SV × Heap × List Nat → Prop) (hb : 2 ≤ h.size ∧ h.size ≤ 4) (hq : Q (.lit (.int .i32 (whole (strInts h))), [], [])) : (bodySumm Table.none Try.prog Try.f62 (An1 0 (A62 h)) [.lit (.string h)] []).Leads Q := by
  refine Sx.by_text (q :=
      ((0 : Int) ≤ (0 : Int) ∧ (0 : Int) < (↑(ByteArray.size h) : Int)) ∧
        (0 : Int) ≤ Go.IntKind.wrap Go.IntKind.i64 ((↑(ByteArray.size h) : Int) + (1 : Int)) ∧
          (∃ (x : Nat),
              ([Sx.SV.lit (Go.Value.string h),
                      Sx.SV.lit
                        (Go.Value.int Go.IntKind.i32
                          (Go.IntKind.wrap Go.IntKind.i32
                            (↑(BitVec.toNat
                                  (BitVec.ofInt (Go.IntKind.bits Go.IntKind.i32) (Go.IntKind.wrap Go.IntKind.i32 (Sx.byteAt h (0 : Int))) &&&
                                    BitVec.ofInt (Go.IntKind.bits Go.IntKind.i32)
                                      (Int.fdiv (255 : Int)
                                        ((2 : Int) ^ Min.min (Int.toNat (Go.IntKind.wrap Go.IntKind.i64 ((↑(ByteArray.size h) : Int) + (1 : Int)))) (Go.IntKind.bits Go.IntKind.i32))))) :
                              Int))),
                      Sx.SV.lit (Go.Value.int Go.IntKind.i64 (1 : Int))],
                    ([] : List Sx.SO)) =
                  ([Sx.SV.lit (Go.Value.string h), Sx.SV.lit (Go.Value.int Go.IntKind.i32 (T13.part (Sx.strInts h) x)), Sx.SV.lit (Go.Value.int Go.IntKind.i64 (↑x : Int))],
                    ([] : List Sx.SO)) ∧
                (1 : Nat) ≤ x ∧ x ≤ ByteArray.size h) ∧
            ∀ (b : Nat),
              (1 : Nat) ≤ b ∧ b ≤ ByteArray.size h →
                Sx.br (Decidable.decide ((↑b : Int) < (↑(ByteArray.size h) : Int)))
                  ((0 : Int) ≤ (6 : Int) ∧
                    ((0 : Int) ≤ (↑b : Int) ∧ (↑b : Int) < (↑(ByteArray.size h) : Int)) ∧
                      (∃ (x' : Nat),
                          ([Sx.SV.lit (Go.Value.string h),
                                  Sx.SV.lit
                                    (Go.Value.int Go.IntKind.i32
                                      (Go.IntKind.wrap Go.IntKind.i32
                                        (↑(BitVec.toNat
                                              (BitVec.ofInt (Go.IntKind.bits Go.IntKind.i32)
                                                  (Go.IntKind.wrap Go.IntKind.i32 (T13.part (Sx.strInts h) b * (2 : Int) ^ Min.min (6 : Nat) (Go.IntKind.bits Go.IntKind.i32))) |||
                                                BitVec.ofInt (Go.IntKind.bits Go.IntKind.i32)
                                                  (Go.IntKind.wrap Go.IntKind.i32
                                                    (Go.IntKind.wrap Go.IntKind.u8
                                                      (↑(BitVec.toNat
                                                            (BitVec.ofInt (Go.IntKind.bits Go.IntKind.u8) (Sx.byteAt h (↑b : Int)) &&&
                                                              BitVec.ofInt (Go.IntKind.bits Go.IntKind.u8) (63 : Int))) :
                                                        Int))))) :
                                          Int))),
                                  Sx.SV.lit (Go.Value.int Go.IntKind.i64 (Go.IntKind.wrap Go.IntKind.i64 ((↑b : Int) + (1 : Int))))],
                                ([] : List Sx.SO)) =
                              ([Sx.SV.lit (Go.Value.string h), Sx.SV.lit (Go.Value.int Go.IntKind.i32 (T13.part (Sx.strInts h) x')), Sx.SV.lit (Go.Value.int Go.IntKind.i64 (↑x' : Int))],
                                ([] : List Sx.SO)) ∧
                            ((1 : Nat) ≤ x' ∧ x' ≤ ByteArray.size h) ∧ ByteArray.size h - x' < ByteArray.size h - b) ∧
                        True)
                  (Q (Sx.SV.lit (Go.Value.int Go.IntKind.i32 (T13.part (Sx.strInts h) b)), ([] : List Sx.SO), []))) (by kernel_rfl) ?_
  have hsz := strInts_size h
  have hbyte : ∀ i : Nat, i < h.size → 0 ≤ byteAt h i ∧ byteAt h i < 256 := fun i hi => by
    have h1 : byteAt h i = (strInts h)[i]'(by omega) := by rw [byteAt_eq, Int.toNat_natCast, List.getD_eq_getElem?_getD, List.getElem?_eq_getElem (by omega)]; rfl
    have := strInts_bytes h _ (List.getElem_mem (l := strInts h) (n := i) (by omega))
    rw [h1]; exact ⟨this.1, by have := this.2; omega⟩
  have hw : IntKind.i64.wrap ((h.size : Int) + 1) = h.size + 1 := by rw [IntKind.wrap_i64]; omega
  obtain ⟨p1, p2, p3⟩ := part_bound (strInts h)
  refine ⟨by omega, by omega, ⟨1, ?_, by omega⟩, fun i hi => br_intro (fun hlt => ?_) (fun hge => ?_)⟩
  · have e : IntKind.i32.wrap (((BitVec.ofInt IntKind.i32.bits (IntKind.i32.wrap (byteAt h 0)) &&& BitVec.ofInt IntKind.i32.bits (Int.fdiv 255 (2 ^ min (IntKind.i64.wrap ((h.size : Int) + 1)).toNat IntKind.i32.bits))).toNat : Nat) : Int) = part (strInts h) 1 := by
      rw [hw]
      have hb0 := hbyte 0 (by omega)
      have h0 : byteAt h 0 = (strInts h).getD 0 0 := byteAt_eq h 0
      simp only [part, hsz, ← h0]
      rcases (show h.size = 2 ∨ h.size = 3 ∨ h.size = 4 by omega) with h2 | h2 | h2
      · rw [h2]; exact i32_and 5 _ _ hb0 (by decide) (by decide)
      · rw [h2]; exact i32_and 4 _ _ hb0 (by decide) (by decide)
      · rw [h2]; exact i32_and 3 _ _ hb0 (by decide) (by decide)
    rw [e]; rfl
  · have hlt := of_decide_eq_true hlt
    have hbi := hbyte i (by omega)
    refine ⟨by omega, by omega, ⟨i + 1, ?_, by omega, by omega⟩, trivial⟩
    have e2 : IntKind.i64.wrap ((i : Int) + 1) = ((i + 1 : Nat) : Int) := by rw [IntKind.wrap_i64]; omega
    have e3 : part (strInts h) (i + 1) = part (strInts h) i * 64 + byteAt h i % 64 := by
      obtain ⟨j, rfl⟩ : ∃ j, i = j + 1 := ⟨i - 1, by omega⟩
      rw [byteAt_eq, Int.toNat_natCast]; rfl
    have hp : 0 ≤ part (strInts h) i ∧ part (strInts h) i < 16777216 := by
      rcases (show i = 1 ∨ i = 2 ∨ i = 3 by omega) with rfl | rfl | rfl <;> omega
    rw [e2, u8_and _ hbi, i32_or _ _ hp (by omega), e3]
  · have hge := of_decide_eq_false hge
    have : i = h.size := by omega
    subst this
    rw [← hsz, part_whole (by omega)]
    exact hq
noncomputable def s60 : Summ := fun args H => match args, H with
  | [.lit (.int .u8 b)], [] => .ret (.lit (.int .i64 (wid b)), [], [])
  | _, _ => .fail
theorem s60_ok : SummOK Try.prog 60 s60 := by
  refine summ_of_body (fn := Try.f60) (c := Try.f60.body.get!) none_ok (by kernel_rfl) (by kernel_rfl) (by kernel_rfl) fun args H Q h => ?_
  unfold s60 at h
  split at h
  · rename_i b
    simp only [Tree.Leads] at h
    exact ⟨noAn, v60 b Q h⟩
  · simp only [Tree.Leads] at h
noncomputable def s61 : Summ := fun args H => match args, H with
  | [.lit (.string h), .lit (.int .u8 b)], [] => .ret (.lit (.bool (may (strInts h) b)), [], [])
  | _, _ => .fail
theorem s61_ok : SummOK Try.prog 61 s61 := by
  refine summ_of_body (fn := Try.f61) (c := Try.f61.body.get!) none_ok (by kernel_rfl) (by kernel_rfl) (by kernel_rfl) fun args H Q h => ?_
  unfold s61 at h
  split at h
  · rename_i s b
    simp only [Tree.Leads] at h
    exact ⟨noAn, v61 s b Q h⟩
  · simp only [Tree.Leads] at h
noncomputable def s62 : Summ := fun args H => match args, H with
  | [.lit (.string h)], [] => .need (2 ≤ h.size ∧ h.size ≤ 4) (.ret (.lit (.int .i32 (whole (strInts h))), [], []))
  | _, _ => .fail
theorem s62_ok : SummOK Try.prog 62 s62 := by
  refine summ_of_body (fn := Try.f62) (c := Try.f62.body.get!) none_ok (by kernel_rfl) (by kernel_rfl) (by kernel_rfl) fun args H Q h => ?_
  unfold s62 at h
  split at h
  · rename_i s
    simp only [Tree.Leads] at h
    exact ⟨_, v62 s Q h.1 h.2⟩
  · simp only [Tree.Leads] at h
noncomputable def T4 : Table := ((T3.add 60 (.go s60)).add 61 (.go s61)).add 62 (.go s62)
theorem T4_ok : TableOK Try.prog T4 := add_ok (add_ok (add_ok T3_ok s60_ok) s61_ok) s62_ok
noncomputable def T4x : Table := ((((T4.exact 24).exact 22).exact 45).exact 68).frozen 50
theorem T4x_ok : TableOK Try.prog T4x := frozen_ok (exact_ok (exact_ok (exact_ok (exact_ok T4_ok))))
noncomputable def T5 : Table := (T4x.add 48 (.call (inlSumm T4x Try.prog Try.f48)))
theorem T5_ok : TableOK Try.prog T5 := (add_ok T4x_ok (inlSumm_sound (c := Try.f48.body.get!) T4x_ok (by kernel_rfl) (by kernel_rfl) (by kernel_rfl)))
noncomputable def T6 : Table := (T4x.add 48 (.call (inlSumm T5 Try.prog Try.f48))).add 23 (.call (inlSumm T4x Try.prog Try.f23))
theorem T6_ok : TableOK Try.prog T6 := add_ok (add_ok T4x_ok (inlSumm_sound (c := Try.f48.body.get!) T5_ok (by kernel_rfl) (by kernel_rfl) (by kernel_rfl))) (inlSumm_sound (c := Try.f23.body.get!) T4x_ok (by kernel_rfl) (by kernel_rfl) (by kernel_rfl))
noncomputable def T7 : Table := (((((T6.add 39 (.call (inlSumm T6 Try.prog Try.f39))).add 29 (.call (inlSumm T6 Try.prog Try.f29))).add 38 (.call (inlSumm T6 Try.prog Try.f38))).add 30 (.call (inlSumm T6 Try.prog Try.f30))).add 33 (.call (inlSumm T6 Try.prog Try.f33)))
theorem T7_ok : TableOK Try.prog T7 := (add_ok (add_ok (add_ok (add_ok (add_ok T6_ok (inlSumm_sound (c := Try.f39.body.get!) T6_ok (by kernel_rfl) (by kernel_rfl) (by kernel_rfl))) (inlSumm_sound (c := Try.f29.body.get!) T6_ok (by kernel_rfl) (by kernel_rfl) (by kernel_rfl))) (inlSumm_sound (c := Try.f38.body.get!) T6_ok (by kernel_rfl) (by kernel_rfl) (by kernel_rfl))) (inlSumm_sound (c := Try.f30.body.get!) T6_ok (by kernel_rfl) (by kernel_rfl) (by kernel_rfl))) (inlSumm_sound (c := Try.f33.body.get!) T6_ok (by kernel_rfl) (by kernel_rfl) (by kernel_rfl)))
noncomputable def T8 : Table := (((((((T7.add 28 (.call (inlSumm T7 Try.prog Try.f28))).add 31 (.call (inlSumm T7 Try.prog Try.f31))).add 40 (.call (inlSumm T7 Try.prog Try.f40))).add 41 (.call (inlSumm T7 Try.prog Try.f41))).add 43 (.call (inlSumm T7 Try.prog Try.f43))).add 49 (.call (inlSumm T7 Try.prog Try.f49))).add 50 (.call (inlSumm T7 Try.prog Try.f50)))
theorem T8_ok : TableOK Try.prog T8 := (add_ok (add_ok (add_ok (add_ok (add_ok (add_ok (add_ok T7_ok (inlSumm_sound (c := Try.f28.body.get!) T7_ok (by kernel_rfl) (by kernel_rfl) (by kernel_rfl))) (inlSumm_sound (c := Try.f31.body.get!) T7_ok (by kernel_rfl) (by kernel_rfl) (by kernel_rfl))) (inlSumm_sound (c := Try.f40.body.get!) T7_ok (by kernel_rfl) (by kernel_rfl) (by kernel_rfl))) (inlSumm_sound (c := Try.f41.body.get!) T7_ok (by kernel_rfl) (by kernel_rfl) (by kernel_rfl))) (inlSumm_sound (c := Try.f43.body.get!) T7_ok (by kernel_rfl) (by kernel_rfl) (by kernel_rfl))) (inlSumm_sound (c := Try.f49.body.get!) T7_ok (by kernel_rfl) (by kernel_rfl) (by kernel_rfl))) (inlSumm_sound (c := Try.f50.body.get!) T7_ok (by kernel_rfl) (by kernel_rfl) (by kernel_rfl)))
noncomputable def T9 : Table := (T8.add 51 (.call (inlSumm T8 Try.prog Try.f51)))
theorem T9_ok : TableOK Try.prog T9 := (add_ok T8_ok (inlSumm_sound (c := Try.f51.body.get!) T8_ok (by kernel_rfl) (by kernel_rfl) (by kernel_rfl)))
noncomputable def T10 : Table := (T9.add 42 (.call (inlSumm T9 Try.prog Try.f42)))
theorem T10_ok : TableOK Try.prog T10 := (add_ok T9_ok (inlSumm_sound (c := Try.f42.body.get!) T9_ok (by kernel_rfl) (by kernel_rfl) (by kernel_rfl)))
noncomputable def T11 : Table := (T10.add 32 (.call (inlSumm T10 Try.prog Try.f32)))
theorem T11_ok : TableOK Try.prog T11 := (add_ok T10_ok (inlSumm_sound (c := Try.f32.body.get!) T10_ok (by kernel_rfl) (by kernel_rfl) (by kernel_rfl)))
noncomputable def T12 : Table := (T11.add 22 (.call (inlSumm T11 Try.prog Try.f22)))
theorem T12_ok : TableOK Try.prog T12 := (add_ok T11_ok (inlSumm_sound (c := Try.f22.body.get!) T11_ok (by kernel_rfl) (by kernel_rfl) (by kernel_rfl)))
noncomputable def T13 : Table := (T12.add 32 (.call (inlSumm T12 Try.prog Try.f32)))
theorem T13_ok : TableOK Try.prog T13 := (add_ok T12_ok (inlSumm_sound (c := Try.f32.body.get!) T12_ok (by kernel_rfl) (by kernel_rfl) (by kernel_rfl)))
end T13
