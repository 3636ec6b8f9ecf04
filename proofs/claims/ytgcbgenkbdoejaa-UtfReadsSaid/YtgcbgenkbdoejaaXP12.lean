/- Runes from bytes, as lists of numbers: the plain laws. -/
import Derived.Test.YtgcbgenkbdoejaaSxT
set_option linter.unusedVariables false
namespace T12

def wid (b : Int) : Int := if b < 128 then 1 else if 194 ≤ b ∧ b ≤ 223 then 2 else if 224 ≤ b ∧ b ≤ 239 then 3 else if 240 ≤ b ∧ b ≤ 244 then 4 else 0
def lowOf (c : Int) : Int := if c = 224 then 160 else if c = 240 then 144 else 128
def highOf (c : Int) : Int := if c = 237 then 159 else if c = 244 then 143 else 191
def may (h : List Int) (b : Int) : Bool := match h with
  | [c] => decide (lowOf c ≤ b ∧ b ≤ highOf c)
  | _ => decide (128 ≤ b ∧ b ≤ 191)
def whole : List Int → Int
  | [a, b] => a % 32 * 64 + b % 64
  | [a, b, c] => a % 16 * 4096 + b % 64 * 64 + c % 64
  | [a, b, c, d] => a % 8 * 262144 + b % 64 * 4096 + c % 64 * 64 + d % 64
  | _ => 0
def step0 (b : Int) : List Int × List Int := if wid b = 0 then ([65533], []) else if wid b = 1 then ([b], []) else ([], [b])
def step (h : List Int) (b : Int) : List Int × List Int := match h with
  | [] => step0 b
  | c :: r => if may (c :: r) b then (if ((r.length + 2 : Nat) : Int) < wid c then ([], c :: r ++ [b]) else ([whole (c :: r ++ [b])], [])) else (65533 :: (step0 b).1, (step0 b).2)
def feed (h : List Int) : List Int → List Int × List Int
  | [] => ([], h)
  | b :: r => ((step h b).1 ++ (feed (step h b).2 r).1, (feed (step h b).2 r).2)

theorem feed_append (h : List Int) : ∀ (a b : List Int), feed h (a ++ b) = ((feed h a).1 ++ (feed (feed h a).2 b).1, (feed (feed h a).2 b).2) := by
  intro a
  induction a generalizing h with
  | nil => intro b; simp [feed]
  | cons x a ih => intro b; simp [feed, ih]
theorem feed_one (h : List Int) (b : Int) : feed h [b] = step h b := by simp [feed]
theorem feed_snoc (h a : List Int) (b : Int) : feed h (a ++ [b]) = ((feed h a).1 ++ (step (feed h a).2 b).1, (step (feed h a).2 b).2) := by
  rw [feed_append, feed_one]

/-- What may be half read. -/
def Good (h : List Int) : Prop := match h with
  | [] => True
  | [c] => 194 ≤ c ∧ c ≤ 244
  | [c, d] => 224 ≤ c ∧ c ≤ 244 ∧ 128 ≤ d ∧ d ≤ 191
  | [c, d, e] => 240 ≤ c ∧ c ≤ 244 ∧ 128 ≤ d ∧ d ≤ 191 ∧ 128 ≤ e ∧ e ≤ 191
  | _ => False
theorem good_step0 (b : Int) : Good (step0 b).2 := by
  unfold step0 wid
  repeat' split
  all_goals simp only [Good] <;> omega
theorem may_in {h : List Int} {b : Int} (hm : may h b = true) : 128 ≤ b ∧ b ≤ 191 := by
  unfold may at hm
  split at hm
  · have := of_decide_eq_true hm
    unfold lowOf highOf at this
    repeat' split at this
    all_goals omega
  · exact of_decide_eq_true hm
theorem wid_le (b : Int) : 0 ≤ wid b ∧ wid b ≤ 4 := by unfold wid; repeat' split; all_goals omega
theorem wid_two {b : Int} (h : 2 < wid b) : 224 ≤ b ∧ b ≤ 244 := by unfold wid at h; repeat' split at h; all_goals omega
theorem wid_three {b : Int} (h : 3 < wid b) : 240 ≤ b ∧ b ≤ 244 := by unfold wid at h; repeat' split at h; all_goals omega
theorem good_step {h : List Int} (b : Int) (hg : Good h) : Good (step h b).2 := by
  unfold step
  split
  · exact good_step0 b
  · rename_i c r
    split
    · rename_i hm
      have hb := may_in hm
      split
      · rename_i hw
        match r, hg, hw with
        | [], hg, hw => have := wid_two (b := c) (by simpa using hw); exact ⟨this.1, this.2, hb⟩
        | [d], hg, hw => have := wid_three (b := c) (by simpa using hw); exact ⟨this.1, this.2, hg.2.2.1, hg.2.2.2, hb⟩
        | [d, e], hg, hw => have := (wid_le c).2; simp at hw; omega
      · exact trivial
    · exact good_step0 b
theorem good_feed {h : List Int} (hg : Good h) : ∀ a, Good (feed h a).2 := by
  intro a
  induction a generalizing h with
  | nil => exact hg
  | cons x a ih => exact ih (good_step x hg)
theorem good_len {h : List Int} (hg : Good h) : h.length ≤ 3 := by
  match h, hg with
  | [], _ => simp
  | [_], _ => simp
  | [_, _], _ => simp
  | [_, _, _], _ => simp

def Byte (b : Int) : Prop := 0 ≤ b ∧ b ≤ 255
theorem good_bytes {h : List Int} (hg : Good h) : ∀ x ∈ h, Byte x := by
  match h, hg with
  | [], _ => simp
  | [c], hg => intro x hx; simp at hx; subst hx; exact ⟨by have := hg.1; omega, by have := hg.2; omega⟩
  | [c, d], hg =>
    obtain ⟨h1, h2, h3, h4⟩ := hg
    intro x hx; simp at hx
    rcases hx with rfl | rfl <;> exact ⟨by omega, by omega⟩
  | [c, d, e], hg =>
    obtain ⟨h1, h2, h3, h4, h5, h6⟩ := hg
    intro x hx; simp at hx
    rcases hx with rfl | rfl | rfl <;> exact ⟨by omega, by omega⟩

def one (l : List Int) : Nat := min 1 l.length
theorem step0_len (b : Int) : (step0 b).1.length + one (step0 b).2 = 1 := by
  unfold step0; repeat' split
  all_goals rfl
theorem step_len (h : List Int) (b : Int) : (step h b).1.length + one (step h b).2 ≤ 1 + one h := by
  unfold step
  split
  · rw [step0_len]; omega
  · split
    · split
      · simp [one]
      · simp [one]
    · have := step0_len b
      simp [one] at *
      omega
theorem feed_len (h : List Int) : ∀ a, (feed h a).1.length + one (feed h a).2 ≤ a.length + one h := by
  intro a
  induction a generalizing h with
  | nil => simp [feed]
  | cons x a ih =>
    have h1 := step_len h x
    have h2 := ih (step h x).2
    simp only [feed, List.length_append, List.length_cons]
    omega
theorem feed_most (a : List Int) : (feed [] a).1.length ≤ a.length := by
  have := feed_len [] a
  simp [one] at this
  omega
/-- A bar behind anything. -/
theorem feed_bar {h : List Int} (b : List Int) : feed h (124 :: b) = ((if h = [] then [124] else [65533, 124]) ++ (feed [] b).1, (feed [] b).2) := by
  have h0 : step0 124 = ([124], []) := by simp [step0, wid]
  cases h with
  | nil => simp [feed, step, h0]
  | cons c r =>
    have hm : may (c :: r) 124 = false := by
      cases hh : may (c :: r) 124 with
      | false => rfl
      | true => have := may_in hh; omega
    simp [feed, step, h0, hm]
theorem feed_plain {b : Int} (hb : b < 128) : feed [] [b] = ([b], []) := by
  rw [feed_one]
  simp [step, step0, wid, hb]

/-- The bytes of a rune. -/
def enc (r : Int) : List Int :=
  if 0 ≤ r ∧ r < 128 then [r]
  else if 0 ≤ r ∧ r < 2048 then [192 + r / 64, 128 + r % 64]
  else if 0 ≤ r ∧ r < 55296 ∨ 57343 < r ∧ r < 65536 then [224 + r / 4096, 128 + r / 64 % 64, 128 + r % 64]
  else if 65536 ≤ r ∧ r ≤ 1114111 then [240 + r / 262144, 128 + r / 4096 % 64, 128 + r / 64 % 64, 128 + r % 64]
  else [239, 191, 189]
def fix (r : Int) : Int := if r < 0 ∨ r > 1114111 ∨ r ≥ 55296 ∧ r ≤ 57343 then 65533 else r

theorem enc1 {r : Int} (h : 0 ≤ r ∧ r < 128) : enc r = [r] := by unfold enc; rw [if_pos h]
theorem enc2 {r : Int} (h : 128 ≤ r ∧ r < 2048) : enc r = [192 + r / 64, 128 + r % 64] := by
  unfold enc; rw [if_neg (by omega), if_pos (by omega)]
theorem enc3 {r : Int} (h : 2048 ≤ r ∧ r < 55296 ∨ 57343 < r ∧ r < 65536) : enc r = [224 + r / 4096, 128 + r / 64 % 64, 128 + r % 64] := by
  unfold enc; rw [if_neg (by omega), if_neg (by omega), if_pos (by omega)]
theorem enc4 {r : Int} (h : 65536 ≤ r ∧ r ≤ 1114111) : enc r = [240 + r / 262144, 128 + r / 4096 % 64, 128 + r / 64 % 64, 128 + r % 64] := by
  unfold enc; rw [if_neg (by omega), if_neg (by omega), if_neg (by omega), if_pos (by omega)]
theorem enc0 {r : Int} (h : r < 0 ∨ r > 1114111 ∨ r ≥ 55296 ∧ r ≤ 57343) : enc r = [239, 191, 189] := by
  unfold enc; rw [if_neg (by omega), if_neg (by omega), if_neg (by omega), if_neg (by omega)]
theorem enc_cases (r : Int) : (0 ≤ r ∧ r < 128) ∨ (128 ≤ r ∧ r < 2048) ∨ (2048 ≤ r ∧ r < 55296 ∨ 57343 < r ∧ r < 65536) ∨ (65536 ≤ r ∧ r ≤ 1114111) ∨ (r < 0 ∨ r > 1114111 ∨ r ≥ 55296 ∧ r ≤ 57343) := by omega
theorem enc_bytes (r : Int) : ∀ x ∈ enc r, Byte x := by
  rcases enc_cases r with h | h | h | h | h
  · rw [enc1 h]; intro x hx; simp at hx; subst hx; exact ⟨by omega, by omega⟩
  · rw [enc2 h]; intro x hx; simp at hx; rcases hx with rfl | rfl <;> exact ⟨by omega, by omega⟩
  · rw [enc3 h]; intro x hx; simp at hx; rcases hx with rfl | rfl | rfl <;> exact ⟨by omega, by omega⟩
  · rw [enc4 h]; intro x hx; simp at hx; rcases hx with rfl | rfl | rfl | rfl <;> exact ⟨by omega, by omega⟩
  · rw [enc0 h]; intro x hx; simp at hx; rcases hx with rfl | rfl | rfl <;> exact ⟨by omega, by omega⟩

theorem wid2 {b : Int} (h : 194 ≤ b ∧ b ≤ 223) : wid b = 2 := by unfold wid; rw [if_neg (by omega), if_pos h]
theorem wid3 {b : Int} (h : 224 ≤ b ∧ b ≤ 239) : wid b = 3 := by unfold wid; rw [if_neg (by omega), if_neg (by omega), if_pos h]
theorem wid4 {b : Int} (h : 240 ≤ b ∧ b ≤ 244) : wid b = 4 := by unfold wid; rw [if_neg (by omega), if_neg (by omega), if_neg (by omega), if_pos h]
theorem step_first {b : Int} (h : 194 ≤ b ∧ b ≤ 244) : step [] b = ([], [b]) := by
  have hw : wid b = 2 ∨ wid b = 3 ∨ wid b = 4 := by
    rcases (show (194 ≤ b ∧ b ≤ 223) ∨ (224 ≤ b ∧ b ≤ 239) ∨ (240 ≤ b ∧ b ≤ 244) by omega) with h | h | h
    · exact .inl (wid2 h)
    · exact .inr (.inl (wid3 h))
    · exact .inr (.inr (wid4 h))
  simp only [step, step0]
  rw [if_neg (by omega), if_neg (by omega)]
theorem step_more {c : Int} {r : List Int} {b : Int} (hm : may (c :: r) b = true) (hw : ((r.length + 2 : Nat) : Int) < wid c) : step (c :: r) b = ([], c :: r ++ [b]) := by
  simp only [step]; rw [if_pos hm, if_pos hw]
theorem step_last {c : Int} {r : List Int} {b : Int} (hm : may (c :: r) b = true) (hw : ¬ ((r.length + 2 : Nat) : Int) < wid c) : step (c :: r) b = ([whole (c :: r ++ [b])], []) := by
  simp only [step]; rw [if_pos hm, if_neg hw]
theorem may_one {c b : Int} (h1 : c = 224 → 160 ≤ b) (h2 : c = 240 → 144 ≤ b) (h3 : c = 237 → b ≤ 159) (h4 : c = 244 → b ≤ 143) (h : 128 ≤ b ∧ b ≤ 191) : may [c] b = true := by
  unfold may
  refine decide_eq_true ?_
  unfold lowOf highOf
  repeat' split
  all_goals omega

theorem pre2 {r : Int} (h : 128 ≤ r ∧ r < 2048) : feed [] [192 + r / 64] = ([], [192 + r / 64]) ∧ feed [192 + r / 64] [128 + r % 64] = ([r], []) := by
  constructor
  · rw [feed_one, step_first (by omega)]
  · rw [feed_one, step_last (may_one (by omega) (by omega) (by omega) (by omega) (by omega)) (by rw [wid2 (by omega)]; simp)]
    simp only [List.cons_append, List.nil_append, whole]
    congr 2; omega
theorem pre3 {r : Int} (h : 2048 ≤ r ∧ r < 55296 ∨ 57343 < r ∧ r < 65536) : feed [] [224 + r / 4096] = ([], [224 + r / 4096]) ∧ feed [224 + r / 4096] [128 + r / 64 % 64] = ([], [224 + r / 4096, 128 + r / 64 % 64]) ∧ feed [224 + r / 4096, 128 + r / 64 % 64] [128 + r % 64] = ([r], []) := by
  refine ⟨?_, ?_, ?_⟩
  · rw [feed_one, step_first (by omega)]
  · rw [feed_one, step_more (may_one (by omega) (by omega) (by omega) (by omega) (by omega)) (by rw [wid3 (by omega)]; simp)]; rfl
  · rw [feed_one, step_last (by simp only [may]; exact decide_eq_true (by omega)) (by rw [wid3 (by omega)]; simp)]
    simp only [List.cons_append, List.nil_append, whole]
    congr 2; omega
theorem pre4 {r : Int} (h : 65536 ≤ r ∧ r ≤ 1114111) : feed [] [240 + r / 262144] = ([], [240 + r / 262144]) ∧ feed [240 + r / 262144] [128 + r / 4096 % 64] = ([], [240 + r / 262144, 128 + r / 4096 % 64]) ∧
    feed [240 + r / 262144, 128 + r / 4096 % 64] [128 + r / 64 % 64] = ([], [240 + r / 262144, 128 + r / 4096 % 64, 128 + r / 64 % 64]) ∧ feed [240 + r / 262144, 128 + r / 4096 % 64, 128 + r / 64 % 64] [128 + r % 64] = ([r], []) := by
  refine ⟨?_, ?_, ?_, ?_⟩
  · rw [feed_one, step_first (by omega)]
  · rw [feed_one, step_more (may_one (by omega) (by omega) (by omega) (by omega) (by omega)) (by rw [wid4 (by omega)]; simp)]; rfl
  · rw [feed_one, step_more (by simp only [may]; exact decide_eq_true (by omega)) (by rw [wid4 (by omega)]; simp)]; rfl
  · rw [feed_one, step_last (by simp only [may]; exact decide_eq_true (by omega)) (by rw [wid4 (by omega)]; simp)]
    simp only [List.cons_append, List.nil_append, whole]
    congr 2; omega
theorem feed_cons (h : List Int) (a : Int) (l : List Int) : feed h (a :: l) = ((feed h [a]).1 ++ (feed (feed h [a]).2 l).1, (feed (feed h [a]).2 l).2) := by
  rw [← feed_append]; rfl
theorem feed_enc (r : Int) : feed [] (enc r) = ([fix r], []) := by
  rcases enc_cases r with h | h | h | h | h
  · rw [enc1 h, feed_plain (by omega), fix, if_neg (by omega)]
  · obtain ⟨h1, h2⟩ := pre2 h
    rw [enc2 h, feed_cons, h1, h2, fix, if_neg (by omega)]; rfl
  · obtain ⟨h1, h2, h3⟩ := pre3 h
    rw [enc3 h, feed_cons, h1]; dsimp only; rw [feed_cons, h2]; dsimp only; rw [h3, fix, if_neg (by omega)]; rfl
  · obtain ⟨h1, h2, h3, h4⟩ := pre4 h
    rw [enc4 h, feed_cons, h1]; dsimp only; rw [feed_cons, h2]; dsimp only; rw [feed_cons, h3]; dsimp only; rw [h4, fix, if_neg (by omega)]; rfl
  · rw [enc0 h, fix, if_pos h]; decide
theorem feed_text : ∀ l : List Int, feed [] (l.flatMap enc) = (l.map fix, []) := by
  intro l
  induction l with
  | nil => rfl
  | cons r l ih => rw [List.flatMap_cons, feed_append, feed_enc, ih]; rfl
/-- A rune that is cut. -/
theorem feed_half {r : Int} (h : (128 ≤ r ∧ r < 2048) ∨ (2048 ≤ r ∧ r < 55296 ∨ 57343 < r ∧ r < 65536) ∨ (65536 ≤ r ∧ r ≤ 1114111)) (k : Nat) (h1 : 0 < k) (h2 : k < (enc r).length) :
    feed [] ((enc r).take k) = ([], (enc r).take k) ∧ feed ((enc r).take k) ((enc r).drop k) = ([r], []) := by
  have key : feed [] ((enc r).take k) = ([], (enc r).take k) := by
    rcases h with h | h | h
    · obtain ⟨g1, g2⟩ := pre2 h
      rw [enc2 h] at h2 ⊢
      match k, h1, h2 with
      | 1, _, _ => exact g1
    · obtain ⟨g1, g2, g3⟩ := pre3 h
      rw [enc3 h] at h2 ⊢
      match k, h1, h2 with
      | 1, _, _ => exact g1
      | 2, _, _ =>
        simp only [List.take_succ_cons, List.take_zero]
        rw [feed_cons, g1]; dsimp only; rw [g2]; rfl
    · obtain ⟨g1, g2, g3, g4⟩ := pre4 h
      rw [enc4 h] at h2 ⊢
      match k, h1, h2 with
      | 1, _, _ => exact g1
      | 2, _, _ =>
        simp only [List.take_succ_cons, List.take_zero]
        rw [feed_cons, g1]; dsimp only; rw [g2]; rfl
      | 3, _, _ =>
        simp only [List.take_succ_cons, List.take_zero]
        rw [feed_cons, g1]; dsimp only; rw [feed_cons, g2]; dsimp only; rw [g3]; rfl
  refine ⟨key, ?_⟩
  have hall := feed_enc r
  rw [← List.take_append_drop k (enc r), feed_append, key] at hall
  have hf : fix r = r := by rw [fix, if_neg (by omega)]
  rw [hf] at hall
  simp at hall
  exact Prod.ext hall.1 hall.2

open Sx in
theorem bsOf_size (l : List Int) : (bsOf l).size = l.length := by
  show (l.map fun n => UInt8.ofNat n.toNat).toArray.size = l.length
  rw [List.size_toArray, List.length_map]
open Sx in
theorem strInts_size (s : ByteArray) : (strInts s).length = s.size := by
  show (s.data.toList.map fun b => (b.toNat : Int)).length = s.data.size
  rw [List.length_map, Array.length_toList]
open Sx in
theorem strInts_bytes (s : ByteArray) : ∀ x ∈ strInts s, Byte x := by
  intro x hx
  simp only [strInts, List.mem_map] at hx
  obtain ⟨b, _, rfl⟩ := hx
  have := b.toNat_lt
  exact ⟨by omega, by omega⟩
open Sx in
theorem strInts_bsOf {l : List Int} (h : ∀ x ∈ l, Byte x) : strInts (bsOf l) = l := by
  simp only [strInts, bsOf, List.map_map]
  conv => rhs; rw [← List.map_id l]
  refine List.map_congr_left fun x hx => ?_
  obtain ⟨h1, h2⟩ := h x hx
  simp only [Function.comp, UInt8.toNat_ofNat']
  simp only [id]
  omega
open Sx in
theorem bsOf_strInts (s : ByteArray) : bsOf (strInts s) = s := by
  cases s with | mk d =>
  simp only [strInts, bsOf, List.map_map]
  congr 1
  have : d.toList.map ((fun n : Int => UInt8.ofNat n.toNat) ∘ fun b => (b.toNat : Int)) = d.toList := by
    conv => rhs; rw [← List.map_id d.toList]
    refine List.map_congr_left fun x hx => ?_
    simp
  rw [this]
open Sx in
theorem byteAt_eq (s : ByteArray) (i : Int) : byteAt s i = (strInts s).getD i.toNat 0 := by
  simp only [byteAt, strInts, List.getD_eq_getElem?_getD, List.getElem?_map]
  cases s.data.toList[i.toNat]? <;> simp
open Sx in
theorem strInts_append (a b : ByteArray) : strInts (a ++ b) = strInts a ++ strInts b := by
  simp [strInts, ByteArray.data_append]
open Sx in
theorem bsOf_append (a b : List Int) : bsOf a ++ bsOf b = bsOf (a ++ b) := by
  have h := congrArg bsOf (strInts_append (bsOf a) (bsOf b))
  rw [bsOf_strInts] at h
  rw [h]
  simp only [strInts, bsOf, List.map_append, List.map_map]
  congr 3
  · refine List.map_congr_left fun x hx => UInt8.toNat_inj.1 ?_
    simp only [Function.comp, UInt8.toNat_ofNat', Int.toNat_natCast]
    omega
  · refine List.map_congr_left fun x hx => UInt8.toNat_inj.1 ?_
    simp only [Function.comp, UInt8.toNat_ofNat', Int.toNat_natCast]
    omega
open Sx in
theorem strInts_extract (s : ByteArray) (i j : Nat) : strInts (s.extract i j) = ((strInts s).drop i).take (j - i) := by
  simp [strInts, ByteArray.data_extract, List.map_take, List.map_drop, List.take_drop]
end T12
