/- Part of a proof: the walks of the functions that the law calls, and their plain laws; no condition. -/
import Derived.Test.YtlcobcpgaoeijaaGreatSxT
import Derived.Test.YtlcobcpgaoeijaaGreatProg
set_option linter.unusedVariables false
set_option linter.unusedSimpArgs false
section
namespace T12
def wid (b : Int) : Int := if b < 128 then 1 else if 194 ≤ b ∧ b ≤ 223 then 2 else if 224 ≤ b ∧ b ≤ 239 then 3 else if 240 ≤ b ∧ b ≤ 244 then 4 else 0
def lowOf (c : Int) : Int := if c = 224 then 160 else if c = 240 then 144 else 128
def highOf (c : Int) : Int := if c = 237 then 159 else if c = 244 then 143 else 191
def may (h : List Int) (b : Int) : Bool := match h with
  | [c] => decide (lowOf c ≤ b ∧ b ≤ highOf c)
  | _ => decide (128 ≤ b ∧ b ≤ 191)
def whole : List Int → Int
  | [a, b] => a % 32 * 64 + b % 64
  | [a, b, c] => a % 16 * 4096 + b % 64 * 64 + c % 64
  | [a, b, c, d] => a % 8 * 262144 + b % 64 * 4096 + c % 64 * 64 + d % 64
  | _ => 0
def step0 (b : Int) : List Int × List Int := if wid b = 0 then ([65533], []) else if wid b = 1 then ([b], []) else ([], [b])
def step (h : List Int) (b : Int) : List Int × List Int := match h with
  | [] => step0 b
  | c :: r => if may (c :: r) b then (if ((r.length + 2 : Nat) : Int) < wid c then ([], c :: r ++ [b]) else ([whole (c :: r ++ [b])], [])) else (65533 :: (step0 b).1, (step0 b).2)
def feed (h : List Int) : List Int → List Int × List Int
  | [] => ([], h)
  | b :: r => ((step h b).1 ++ (feed (step h b).2 r).1, (feed (step h b).2 r).2)
theorem feed_append (h : List Int) : ∀ (a b : List Int), feed h (a ++ b) = ((feed h a).1 ++ (feed (feed h a).2 b).1, (feed (feed h a).2 b).2) := by
  intro a
  induction a generalizing h with
  | nil => intro b; simp [feed]
  | cons x a ih => intro b; simp [feed, ih]
theorem feed_one (h : List Int) (b : Int) : feed h [b] = step h b := by simp [feed]
theorem feed_snoc (h a : List Int) (b : Int) : feed h (a ++ [b]) = ((feed h a).1 ++ (step (feed h a).2 b).1, (step (feed h a).2 b).2) := by
  rw [feed_append, feed_one]
/-- What may be half read. -/
def Good (h : List Int) : Prop := match h with
  | [] => True
  | [c] => 194 ≤ c ∧ c ≤ 244
  | [c, d] => 224 ≤ c ∧ c ≤ 244 ∧ 128 ≤ d ∧ d ≤ 191
  | [c, d, e] => 240 ≤ c ∧ c ≤ 244 ∧ 128 ≤ d ∧ d ≤ 191 ∧ 128 ≤ e ∧ e ≤ 191
  | _ => False
theorem good_step0 (b : Int) : Good (step0 b).2 := by
  unfold step0 wid
  repeat' split
  all_goals simp only [Good] <;> omega
theorem may_in {h : List Int} {b : Int} (hm : may h b = true) : 128 ≤ b ∧ b ≤ 191 := by
  unfold may at hm
  split at hm
  · have := of_decide_eq_true hm
    unfold lowOf highOf at this
    repeat' split at this
    all_goals omega
  · exact of_decide_eq_true hm
theorem wid_le (b : Int) : 0 ≤ wid b ∧ wid b ≤ 4 := by unfold wid; repeat' split; all_goals omega
theorem wid_two {b : Int} (h : 2 < wid b) : 224 ≤ b ∧ b ≤ 244 := by unfold wid at h; repeat' split at h; all_goals omega
theorem wid_three {b : Int} (h : 3 < wid b) : 240 ≤ b ∧ b ≤ 244 := by unfold wid at h; repeat' split at h; all_goals omega
theorem good_step {h : List Int} (b : Int) (hg : Good h) : Good (step h b).2 := by
  unfold step
  split
  · exact good_step0 b
  · rename_i c r
    split
    · rename_i hm
      have hb := may_in hm
      split
      · rename_i hw
        match r, hg, hw with
        | [], hg, hw => have := wid_two (b := c) (by simpa using hw); exact ⟨this.1, this.2, hb⟩
        | [d], hg, hw => have := wid_three (b := c) (by simpa using hw); exact ⟨this.1, this.2, hg.2.2.1, hg.2.2.2, hb⟩
        | [d, e], hg, hw => have := (wid_le c).2; simp at hw; omega
      · exact trivial
    · exact good_step0 b
theorem good_feed {h : List Int} (hg : Good h) : ∀ a, Good (feed h a).2 := by
  intro a
  induction a generalizing h with
  | nil => exact hg
  | cons x a ih => exact ih (good_step x hg)
theorem good_len {h : List Int} (hg : Good h) : h.length ≤ 3 := by
  match h, hg with
  | [], _ => simp
  | [_], _ => simp
  | [_, _], _ => simp
  | [_, _, _], _ => simp
def Byte (b : Int) : Prop := 0 ≤ b ∧ b ≤ 255
theorem good_bytes {h : List Int} (hg : Good h) : ∀ x ∈ h, Byte x := by
  match h, hg with
  | [], _ => simp
  | [c], hg => intro x hx; simp at hx; subst hx; exact ⟨by have := hg.1; omega, by have := hg.2; omega⟩
  | [c, d], hg =>
    obtain ⟨h1, h2, h3, h4⟩ := hg
    intro x hx; simp at hx
    rcases hx with rfl | rfl <;> exact ⟨by omega, by omega⟩
  | [c, d, e], hg =>
    obtain ⟨h1, h2, h3, h4, h5, h6⟩ := hg
    intro x hx; simp at hx
    rcases hx with rfl | rfl | rfl <;> exact ⟨by omega, by omega⟩
def one (l : List Int) : Nat := min 1 l.length
theorem step0_len (b : Int) : (step0 b).1.length + one (step0 b).2 = 1 := by
  unfold step0; repeat' split
  all_goals rfl
theorem step_len (h : List Int) (b : Int) : (step h b).1.length + one (step h b).2 ≤ 1 + one h := by
  unfold step
  split
  · rw [step0_len]; omega
  · split
    · split
      · simp [one]
      · simp [one]
    · have := step0_len b
      simp [one] at *
      omega
theorem feed_len (h : List Int) : ∀ a, (feed h a).1.length + one (feed h a).2 ≤ a.length + one h := by
  intro a
  induction a generalizing h with
  | nil => simp [feed]
  | cons x a ih =>
    have h1 := step_len h x
    have h2 := ih (step h x).2
    simp only [feed, List.length_append, List.length_cons]
    omega
theorem feed_most (a : List Int) : (feed [] a).1.length ≤ a.length := by
  have := feed_len [] a
  simp [one] at this
  omega
/-- A bar behind anything. -/
theorem feed_bar {h : List Int} (b : List Int) : feed h (124 :: b) = ((if h = [] then [124] else [65533, 124]) ++ (feed [] b).1, (feed [] b).2) := by
  have h0 : step0 124 = ([124], []) := by simp [step0, wid]
  cases h with
  | nil => simp [feed, step, h0]
  | cons c r =>
    have hm : may (c :: r) 124 = false := by
      cases hh : may (c :: r) 124 with
      | false => rfl
      | true => have := may_in hh; omega
    simp [feed, step, h0, hm]
theorem feed_plain {b : Int} (hb : b < 128) : feed [] [b] = ([b], []) := by
  rw [feed_one]
  simp [step, step0, wid, hb]
/-- The bytes of a rune. -/
def enc (r : Int) : List Int :=
  if 0 ≤ r ∧ r < 128 then [r]
  else if 0 ≤ r ∧ r < 2048 then [192 + r / 64, 128 + r % 64]
  else if 0 ≤ r ∧ r < 55296 ∨ 57343 < r ∧ r < 65536 then [224 + r / 4096, 128 + r / 64 % 64, 128 + r % 64]
  else if 65536 ≤ r ∧ r ≤ 1114111 then [240 + r / 262144, 128 + r / 4096 % 64, 128 + r / 64 % 64, 128 + r % 64]
  else [239, 191, 189]
def fix (r : Int) : Int := if r < 0 ∨ r > 1114111 ∨ r ≥ 55296 ∧ r ≤ 57343 then 65533 else r
theorem enc1 {r : Int} (h : 0 ≤ r ∧ r < 128) : enc r = [r] := by unfold enc; rw [if_pos h]
theorem enc2 {r : Int} (h : 128 ≤ r ∧ r < 2048) : enc r = [192 + r / 64, 128 + r % 64] := by
  unfold enc; rw [if_neg (by omega), if_pos (by omega)]
theorem enc3 {r : Int} (h : 2048 ≤ r ∧ r < 55296 ∨ 57343 < r ∧ r < 65536) : enc r = [224 + r / 4096, 128 + r / 64 % 64, 128 + r % 64] := by
  unfold enc; rw [if_neg (by omega), if_neg (by omega), if_pos (by omega)]
theorem enc4 {r : Int} (h : 65536 ≤ r ∧ r ≤ 1114111) : enc r = [240 + r / 262144, 128 + r / 4096 % 64, 128 + r / 64 % 64, 128 + r % 64] := by
  unfold enc; rw [if_neg (by omega), if_neg (by omega), if_neg (by omega), if_pos (by omega)]
theorem enc0 {r : Int} (h : r < 0 ∨ r > 1114111 ∨ r ≥ 55296 ∧ r ≤ 57343) : enc r = [239, 191, 189] := by
  unfold enc; rw [if_neg (by omega), if_neg (by omega), if_neg (by omega), if_neg (by omega)]
theorem enc_cases (r : Int) : (0 ≤ r ∧ r < 128) ∨ (128 ≤ r ∧ r < 2048) ∨ (2048 ≤ r ∧ r < 55296 ∨ 57343 < r ∧ r < 65536) ∨ (65536 ≤ r ∧ r ≤ 1114111) ∨ (r < 0 ∨ r > 1114111 ∨ r ≥ 55296 ∧ r ≤ 57343) := by omega
theorem enc_bytes (r : Int) : ∀ x ∈ enc r, Byte x := by
  rcases enc_cases r with h | h | h | h | h
  · rw [enc1 h]; intro x hx; simp at hx; subst hx; exact ⟨by omega, by omega⟩
  · rw [enc2 h]; intro x hx; simp at hx; rcases hx with rfl | rfl <;> exact ⟨by omega, by omega⟩
  · rw [enc3 h]; intro x hx; simp at hx; rcases hx with rfl | rfl | rfl <;> exact ⟨by omega, by omega⟩
  · rw [enc4 h]; intro x hx; simp at hx; rcases hx with rfl | rfl | rfl | rfl <;> exact ⟨by omega, by omega⟩
  · rw [enc0 h]; intro x hx; simp at hx; rcases hx with rfl | rfl | rfl <;> exact ⟨by omega, by omega⟩
theorem wid2 {b : Int} (h : 194 ≤ b ∧ b ≤ 223) : wid b = 2 := by unfold wid; rw [if_neg (by omega), if_pos h]
theorem wid3 {b : Int} (h : 224 ≤ b ∧ b ≤ 239) : wid b = 3 := by unfold wid; rw [if_neg (by omega), if_neg (by omega), if_pos h]
theorem wid4 {b : Int} (h : 240 ≤ b ∧ b ≤ 244) : wid b = 4 := by unfold wid; rw [if_neg (by omega), if_neg (by omega), if_neg (by omega), if_pos h]
theorem step_first {b : Int} (h : 194 ≤ b ∧ b ≤ 244) : step [] b = ([], [b]) := by
  have hw : wid b = 2 ∨ wid b = 3 ∨ wid b = 4 := by
    rcases (show (194 ≤ b ∧ b ≤ 223) ∨ (224 ≤ b ∧ b ≤ 239) ∨ (240 ≤ b ∧ b ≤ 244) by omega) with h | h | h
    · exact .inl (wid2 h)
    · exact .inr (.inl (wid3 h))
    · exact .inr (.inr (wid4 h))
  simp only [step, step0]
  rw [if_neg (by omega), if_neg (by omega)]
theorem step_more {c : Int} {r : List Int} {b : Int} (hm : may (c :: r) b = true) (hw : ((r.length + 2 : Nat) : Int) < wid c) : step (c :: r) b = ([], c :: r ++ [b]) := by
  simp only [step]; rw [if_pos hm, if_pos hw]
theorem step_last {c : Int} {r : List Int} {b : Int} (hm : may (c :: r) b = true) (hw : ¬ ((r.length + 2 : Nat) : Int) < wid c) : step (c :: r) b = ([whole (c :: r ++ [b])], []) := by
  simp only [step]; rw [if_pos hm, if_neg hw]
theorem may_one {c b : Int} (h1 : c = 224 → 160 ≤ b) (h2 : c = 240 → 144 ≤ b) (h3 : c = 237 → b ≤ 159) (h4 : c = 244 → b ≤ 143) (h : 128 ≤ b ∧ b ≤ 191) : may [c] b = true := by
  unfold may
  refine decide_eq_true ?_
  unfold lowOf highOf
  repeat' split
  all_goals omega
theorem pre2 {r : Int} (h : 128 ≤ r ∧ r < 2048) : feed [] [192 + r / 64] = ([], [192 + r / 64]) ∧ feed [192 + r / 64] [128 + r % 64] = ([r], []) := by
  constructor
  · rw [feed_one, step_first (by omega)]
  · rw [feed_one, step_last (may_one (by omega) (by omega) (by omega) (by omega) (by omega)) (by rw [wid2 (by omega)]; simp)]
    simp only [List.cons_append, List.nil_append, whole]
    congr 2; omega
theorem pre3 {r : Int} (h : 2048 ≤ r ∧ r < 55296 ∨ 57343 < r ∧ r < 65536) : feed [] [224 + r / 4096] = ([], [224 + r / 4096]) ∧ feed [224 + r / 4096] [128 + r / 64 % 64] = ([], [224 + r / 4096, 128 + r / 64 % 64]) ∧ feed [224 + r / 4096, 128 + r / 64 % 64] [128 + r % 64] = ([r], []) := by
  refine ⟨?_, ?_, ?_⟩
  · rw [feed_one, step_first (by omega)]
  · rw [feed_one, step_more (may_one (by omega) (by omega) (by omega) (by omega) (by omega)) (by rw [wid3 (by omega)]; simp)]; rfl
  · rw [feed_one, step_last (by simp only [may]; exact decide_eq_true (by omega)) (by rw [wid3 (by omega)]; simp)]
    simp only [List.cons_append, List.nil_append, whole]
    congr 2; omega
theorem pre4 {r : Int} (h : 65536 ≤ r ∧ r ≤ 1114111) : feed [] [240 + r / 262144] = ([], [240 + r / 262144]) ∧ feed [240 + r / 262144] [128 + r / 4096 % 64] = ([], [240 + r / 262144, 128 + r / 4096 % 64]) ∧
    feed [240 + r / 262144, 128 + r / 4096 % 64] [128 + r / 64 % 64] = ([], [240 + r / 262144, 128 + r / 4096 % 64, 128 + r / 64 % 64]) ∧ feed [240 + r / 262144, 128 + r / 4096 % 64, 128 + r / 64 % 64] [128 + r % 64] = ([r], []) := by
  refine ⟨?_, ?_, ?_, ?_⟩
  · rw [feed_one, step_first (by omega)]
  · rw [feed_one, step_more (may_one (by omega) (by omega) (by omega) (by omega) (by omega)) (by rw [wid4 (by omega)]; simp)]; rfl
  · rw [feed_one, step_more (by simp only [may]; exact decide_eq_true (by omega)) (by rw [wid4 (by omega)]; simp)]; rfl
  · rw [feed_one, step_last (by simp only [may]; exact decide_eq_true (by omega)) (by rw [wid4 (by omega)]; simp)]
    simp only [List.cons_append, List.nil_append, whole]
    congr 2; omega
theorem feed_cons (h : List Int) (a : Int) (l : List Int) : feed h (a :: l) = ((feed h [a]).1 ++ (feed (feed h [a]).2 l).1, (feed (feed h [a]).2 l).2) := by
  rw [← feed_append]; rfl
theorem feed_enc (r : Int) : feed [] (enc r) = ([fix r], []) := by
  rcases enc_cases r with h | h | h | h | h
  · rw [enc1 h, feed_plain (by omega), fix, if_neg (by omega)]
  · obtain ⟨h1, h2⟩ := pre2 h
    rw [enc2 h, feed_cons, h1, h2, fix, if_neg (by omega)]; rfl
  · obtain ⟨h1, h2, h3⟩ := pre3 h
    rw [enc3 h, feed_cons, h1]; dsimp only; rw [feed_cons, h2]; dsimp only; rw [h3, fix, if_neg (by omega)]; rfl
  · obtain ⟨h1, h2, h3, h4⟩ := pre4 h
    rw [enc4 h, feed_cons, h1]; dsimp only; rw [feed_cons, h2]; dsimp only; rw [feed_cons, h3]; dsimp only; rw [h4, fix, if_neg (by omega)]; rfl
  · rw [enc0 h, fix, if_pos h]; decide
theorem feed_text : ∀ l : List Int, feed [] (l.flatMap enc) = (l.map fix, []) := by
  intro l
  induction l with
  | nil => rfl
  | cons r l ih => rw [List.flatMap_cons, feed_append, feed_enc, ih]; rfl
/-- A rune that is cut. -/
theorem feed_half {r : Int} (h : (128 ≤ r ∧ r < 2048) ∨ (2048 ≤ r ∧ r < 55296 ∨ 57343 < r ∧ r < 65536) ∨ (65536 ≤ r ∧ r ≤ 1114111)) (k : Nat) (h1 : 0 < k) (h2 : k < (enc r).length) :
    feed [] ((enc r).take k) = ([], (enc r).take k) ∧ feed ((enc r).take k) ((enc r).drop k) = ([r], []) := by
  have key : feed [] ((enc r).take k) = ([], (enc r).take k) := by
    rcases h with h | h | h
    · obtain ⟨g1, g2⟩ := pre2 h
      rw [enc2 h] at h2 ⊢
      match k, h1, h2 with
      | 1, _, _ => exact g1
    · obtain ⟨g1, g2, g3⟩ := pre3 h
      rw [enc3 h] at h2 ⊢
      match k, h1, h2 with
      | 1, _, _ => exact g1
      | 2, _, _ =>
        simp only [List.take_succ_cons, List.take_zero]
        rw [feed_cons, g1]; dsimp only; rw [g2]; rfl
    · obtain ⟨g1, g2, g3, g4⟩ := pre4 h
      rw [enc4 h] at h2 ⊢
      match k, h1, h2 with
      | 1, _, _ => exact g1
      | 2, _, _ =>
        simp only [List.take_succ_cons, List.take_zero]
        rw [feed_cons, g1]; dsimp only; rw [g2]; rfl
      | 3, _, _ =>
        simp only [List.take_succ_cons, List.take_zero]
        rw [feed_cons, g1]; dsimp only; rw [feed_cons, g2]; dsimp only; rw [g3]; rfl
  refine ⟨key, ?_⟩
  have hall := feed_enc r
  rw [← List.take_append_drop k (enc r), feed_append, key] at hall
  have hf : fix r = r := by rw [fix, if_neg (by omega)]
  rw [hf] at hall
  simp at hall
  exact Prod.ext hall.1 hall.2
open Sx in
theorem bsOf_size (l : List Int) : (bsOf l).size = l.length := by
  show (l.map fun n => UInt8.ofNat n.toNat).toArray.size = l.length
  rw [List.size_toArray, List.length_map]
open Sx in
theorem strInts_size (s : ByteArray) : (strInts s).length = s.size := by
  show (s.data.toList.map fun b => (b.toNat : Int)).length = s.data.size
  rw [List.length_map, Array.length_toList]
open Sx in
theorem strInts_bytes (s : ByteArray) : ∀ x ∈ strInts s, Byte x := by
  intro x hx
  simp only [strInts, List.mem_map] at hx
  obtain ⟨b, _, rfl⟩ := hx
  have := b.toNat_lt
  exact ⟨by omega, by omega⟩
open Sx in
theorem strInts_bsOf {l : List Int} (h : ∀ x ∈ l, Byte x) : strInts (bsOf l) = l := by
  simp only [strInts, bsOf, List.map_map]
  conv => rhs; rw [← List.map_id l]
  refine List.map_congr_left fun x hx => ?_
  obtain ⟨h1, h2⟩ := h x hx
  simp only [Function.comp, UInt8.toNat_ofNat']
  simp only [id]
  omega
open Sx in
theorem bsOf_strInts (s : ByteArray) : bsOf (strInts s) = s := by
  cases s with | mk d =>
  simp only [strInts, bsOf, List.map_map]
  congr 1
  have : d.toList.map ((fun n : Int => UInt8.ofNat n.toNat) ∘ fun b => (b.toNat : Int)) = d.toList := by
    conv => rhs; rw [← List.map_id d.toList]
    refine List.map_congr_left fun x hx => ?_
    simp
  rw [this]
open Sx in
theorem byteAt_eq (s : ByteArray) (i : Int) : byteAt s i = (strInts s).getD i.toNat 0 := by
  simp only [byteAt, strInts, List.getD_eq_getElem?_getD, List.getElem?_map]
  cases s.data.toList[i.toNat]? <;> simp
open Sx in
theorem strInts_append (a b : ByteArray) : strInts (a ++ b) = strInts a ++ strInts b := by
  simp [strInts, ByteArray.data_append]
open Sx in
theorem bsOf_append (a b : List Int) : bsOf a ++ bsOf b = bsOf (a ++ b) := by
  have h := congrArg bsOf (strInts_append (bsOf a) (bsOf b))
  rw [bsOf_strInts] at h
  rw [h]
  simp only [strInts, bsOf, List.map_append, List.map_map]
  congr 3
  · refine List.map_congr_left fun x hx => UInt8.toNat_inj.1 ?_
    simp only [Function.comp, UInt8.toNat_ofNat', Int.toNat_natCast]
    omega
  · refine List.map_congr_left fun x hx => UInt8.toNat_inj.1 ?_
    simp only [Function.comp, UInt8.toNat_ofNat', Int.toNat_natCast]
    omega
open Sx in
theorem strInts_extract (s : ByteArray) (i j : Nat) : strInts (s.extract i j) = ((strInts s).drop i).take (j - i) := by
  simp [strInts, ByteArray.data_extract, List.map_take, List.map_drop, List.take_drop]
end T12
end
section
namespace PL
theorem getD_part {α : Type} (A : List α) (a m i : Nat) (d : α) (h : i < m) : A.getD (a + i) d = ((A.drop a).take m).getD i d := by
  simp only [List.getD_eq_getElem?_getD]
  rw [List.getElem?_take_of_lt h, List.getElem?_drop]
theorem part_len {α : Type} (A : List α) (a m : Nat) (hm : a + m ≤ A.length) : ((A.drop a).take m).length = m := by
  rw [List.length_take, List.length_drop]; omega
theorem take_step {α : Type} {X Y : List α} {i : Nat} {d : α} (hx : i < X.length) (hy : i < Y.length) (h : X.take i = Y.take i) (e : X.getD i d = Y.getD i d) : X.take (i + 1) = Y.take (i + 1) := by
  rw [List.take_add_one, List.take_add_one, h]
  simp only [List.getD_eq_getElem?_getD, List.getElem?_eq_getElem hx, List.getElem?_eq_getElem hy, Option.getD] at e
  rw [List.getElem?_eq_getElem hx, List.getElem?_eq_getElem hy, e]
theorem not_same {α : Type} {X Y : List α} {i : Nat} {d : α} (e : X.getD i d ≠ Y.getD i d) : X ≠ Y := fun h => e (by rw [h])
theorem take_all {α : Type} {X Y : List α} {i : Nat} (hx : i = X.length) (hy : X.length = Y.length) (h : X.take i = Y.take i) : X = Y := by
  rw [hx, List.take_length, hy, List.take_length] at h; exact h
end PL
end
section
namespace T13
open Sx T12
@[reducible] def aty : Ty := .pair (.int .i64) (.pair (.int .i32) (.pair (.int .i64) (.pair (.int .i64) (.pair (.imm (.int .i64)) (.pair .str .str)))))
structure PS where
  st : Int
  half : List Int
  inter : List Int
  wrong : Bool
  first : Bool
  mark : Int
  nums : List Int
  full : Bool
  text : List Int
def e0 : ByteArray := ⟨#[]⟩
def aPrint (r : Int) : aty.den := ((1 : Int), r, (0 : Int), (0 : Int), ([] : List Int), e0, e0)
def aControl (b : Int) : aty.den := ((2 : Int), (0 : Int), b, (0 : Int), ([] : List Int), e0, e0)
def aEscape (l : List Int) (b : Int) : aty.den := ((3 : Int), (0 : Int), b, (0 : Int), ([] : List Int), bsOf l, e0)
def aCsi (m : Int) (n l : List Int) (b : Int) : aty.den := ((4 : Int), (0 : Int), b, m, n, bsOf l, e0)
def aOsc (t : List Int) : aty.den := ((5 : Int), (0 : Int), (0 : Int), (0 : Int), ([] : List Int), e0, bsOf t)
def aDcs (t : List Int) : aty.den := ((6 : Int), (0 : Int), (0 : Int), (0 : Int), ([] : List Int), e0, bsOf t)
def PS.begin (s : PS) (st : Int) : PS := { st := st, half := s.half, inter := [], wrong := false, first := true, mark := 0, nums := [], full := false, text := [] }
def PS.endA (s : PS) : List aty.den := if s.st = 3 then [aOsc s.text] else if s.st = 4 then [aDcs s.text] else []
def PS.print (s : PS) (b : Int) : PS × List aty.den := ({ s with half := (step s.half b).2 }, (step s.half b).1.map aPrint)
def PS.inters (s : PS) (b : Int) : PS := if (s.inter.length : Int) ≥ 2 then { s with first := false, wrong := true } else { s with first := false, inter := s.inter ++ [b] }
def PS.finish (s : PS) (b : Int) : PS × List aty.den :=
  let next : Int := if (s.inter.length : Int) = 0 then (if b = 91 then 2 else if b = 93 then 3 else if b = 80 then 4 else 0) else 0
  (s.begin next, if next = 0 ∧ s.wrong = false then [aEscape s.inter b] else [])
def PS.number (s : PS) : PS := if (s.nums.length : Int) = 0 then { s with nums := [-1] } else s
def PS.more (s : PS) : PS := if (s.nums.length : Int) ≥ 8 then { s with full := true } else { s with nums := s.nums ++ [-1] }
def PS.digit (s : PS) (d : Int) : PS :=
  let s1 := s.number
  if s1.full then s1 else { s1 with nums := s1.nums.set (s1.nums.length - 1) (min (max (s1.nums.getD (s1.nums.length - 1) 0) 0 * 10 + d) 9999) }
def PS.param (s : PS) (b : Int) : PS :=
  if (s.inter.length : Int) > 0 ∨ b = 58 ∨ (b > 59 ∧ s.first = false) then { s with first := false, wrong := true }
  else if b > 59 then { s with first := false, mark := b }
  else if b = 59 then ({ s with first := false } : PS).number.more
  else ({ s with first := false } : PS).digit (b - 48)
def PS.dispatch (s : PS) (b : Int) : PS × List aty.den := (s.begin 0, if s.wrong then [] else [aCsi s.mark s.nums s.inter b])
def PS.keep (s : PS) (b : Int) : PS := if (s.text.length : Int) < 60 then { s with text := s.text ++ [b] } else s
def PS.act (s : PS) (b : Int) : PS × List aty.den :=
  if s.st = 0 then (if b < 32 then (s, [aControl b]) else if b = 127 then (s, []) else s.print b)
  else if s.st = 1 then (if b < 32 then (s, [aControl b]) else if b < 48 then (s.inters b, []) else if b < 127 then s.finish b else if b = 127 then (s, []) else (s.begin 0).print b)
  else if s.st = 2 then (if b < 32 then (s, [aControl b]) else if b < 48 then (s.inters b, []) else if b < 64 then (s.param b, []) else if b < 127 then s.dispatch b else if b = 127 then (s, []) else (s.begin 0).print b)
  else if s.st = 3 then (if b < 32 then (if b = 7 then (s.begin 0, s.endA) else (s, [])) else (s.keep b, []))
  else (if b < 32 then (s, []) else (s.keep b, []))
def PS.bell (s : PS) (b : Int) : PS × List aty.den := if b = 7 then (s.begin 0, s.endA) else (s, [])
/-- What is done, by its number. -/
def PS.actW (s : PS) (w b : Int) : PS × List aty.den :=
  if w = 1 then s.print b else if w = 2 then (s, [aControl b]) else if w = 3 then (s.inters b, []) else if w = 4 then s.finish b else if w = 5 then (s.param b, [])
  else if w = 6 then s.dispatch b else if w = 7 then (s.keep b, []) else if w = 8 then s.bell b else if w = 9 then (s.begin 0).print b else (s, [])
def PS.flushed (s : PS) (b : Int) : PS × List aty.den := if s.st = 0 ∧ (b < 32 ∨ b = 127) then ({ s with half := [] }, if s.half = [] then [] else [aPrint 65533]) else (s, [])
def PS.go (s : PS) (b : Int) : PS × List aty.den := if b = 24 ∨ b = 26 then (s.begin 0, []) else if b = 27 then (s.begin 1, s.endA) else s.act b
def pstep (s : PS) (b : Int) : PS × List aty.den := (((s.flushed b).1.go b).1, (s.flushed b).2 ++ ((s.flushed b).1.go b).2)
def pfeed (s : PS) : List Int → PS × List aty.den
  | [] => (s, [])
  | b :: r => ((pfeed (pstep s b).1 r).1, (pstep s b).2 ++ (pfeed (pstep s b).1 r).2)
structure PS.OK (s : PS) : Prop where
  st : 0 ≤ s.st ∧ s.st ≤ 4
  half : Good s.half
  idle : s.st ≠ 0 → s.half = []
  inter : s.inter.length ≤ 2
  nums : s.nums.length ≤ 8
  text : s.text.length ≤ 60
  bnd : ∀ x ∈ s.nums, -1 ≤ x ∧ x ≤ 9999
theorem pfeed_append (s : PS) : ∀ (a b : List Int), pfeed s (a ++ b) = ((pfeed (pfeed s a).1 b).1, (pfeed s a).2 ++ (pfeed (pfeed s a).1 b).2) := by
  intro a
  induction a generalizing s with
  | nil => intro b; simp [pfeed]
  | cons x a ih => intro b; simp [pfeed, ih]
theorem pfeed_snoc (s : PS) (a : List Int) (b : Int) : pfeed s (a ++ [b]) = ((pstep (pfeed s a).1 b).1, (pfeed s a).2 ++ (pstep (pfeed s a).1 b).2) := by
  rw [pfeed_append]; simp [pfeed]
theorem good_nil : Good ([] : List Int) := trivial
theorem PS.begin_ok {s : PS} (h : s.OK) (st : Int) (h1 : 0 ≤ st ∧ st ≤ 4) (h2 : st ≠ 0 → s.half = []) : (s.begin st).OK :=
  ⟨h1, h.half, h2, by simp [PS.begin], by simp [PS.begin], by simp [PS.begin], by simp [PS.begin]⟩
theorem PS.print_ok {s : PS} (h : s.OK) (b : Int) (h0 : s.st = 0) : (s.print b).1.OK :=
  ⟨h.st, good_step b h.half, fun h1 => absurd h0 h1, h.inter, h.nums, h.text, h.bnd⟩
theorem PS.number_ok {s : PS} (h : s.OK) : s.number.OK := by
  unfold PS.number
  split
  · exact ⟨h.st, h.half, h.idle, h.inter, by simp, h.text, fun x hx => by simp at hx; subst hx; omega⟩
  · exact h
theorem PS.number_len (s : PS) : 0 < s.number.nums.length := by
  unfold PS.number
  split
  · simp
  · omega
theorem PS.more_ok {s : PS} (h : s.OK) : s.more.OK := by
  unfold PS.more
  split
  · exact ⟨h.st, h.half, h.idle, h.inter, h.nums, h.text, h.bnd⟩
  · refine ⟨h.st, h.half, h.idle, h.inter, by simp; omega, h.text, fun x hx => ?_⟩
    rcases List.mem_append.1 hx with hx | hx
    · exact h.bnd x hx
    · simp at hx; subst hx; omega
theorem PS.digit_ok {s : PS} (h : s.OK) (d : Int) (hd : 0 ≤ d) : (s.digit d).OK := by
  have h1 := PS.number_ok h
  unfold PS.digit
  dsimp only
  split
  · exact h1
  · refine ⟨h1.st, h1.half, h1.idle, h1.inter, by rw [List.length_set]; exact h1.nums, h1.text, fun x hx => ?_⟩
    rcases List.mem_or_eq_of_mem_set hx with hx | rfl
    · exact h1.bnd x hx
    · omega
theorem PS.param_ok {s : PS} (h : s.OK) (b : Int) (hb : 48 ≤ b) : (s.param b).OK := by
  have hf : ({ s with first := false } : PS).OK := ⟨h.st, h.half, h.idle, h.inter, h.nums, h.text, h.bnd⟩
  unfold PS.param
  split
  · exact ⟨h.st, h.half, h.idle, h.inter, h.nums, h.text, h.bnd⟩
  split
  · exact ⟨h.st, h.half, h.idle, h.inter, h.nums, h.text, h.bnd⟩
  split
  · exact PS.more_ok (PS.number_ok hf)
  · exact PS.digit_ok hf _ (by omega)
theorem PS.inters_ok {s : PS} (h : s.OK) (b : Int) : (s.inters b).OK := by
  unfold PS.inters
  split
  · exact ⟨h.st, h.half, h.idle, h.inter, h.nums, h.text, h.bnd⟩
  · exact ⟨h.st, h.half, h.idle, by simp; omega, h.nums, h.text, h.bnd⟩
theorem PS.keep_ok {s : PS} (h : s.OK) (b : Int) : (s.keep b).OK := by
  unfold PS.keep
  split
  · exact ⟨h.st, h.half, h.idle, h.inter, h.nums, by simp; omega, h.bnd⟩
  · exact h
theorem PS.finish_ok {s : PS} (h : s.OK) (b : Int) (h0 : s.st ≠ 0) : (s.finish b).1.OK := by
  unfold PS.finish
  dsimp only
  refine PS.begin_ok h _ ?_ (fun _ => h.idle h0)
  repeat' split
  all_goals omega
theorem PS.actW_ok {s : PS} (h : s.OK) (w b : Int) (h1 : w = 1 → s.st = 0) (h4 : w = 4 → s.st ≠ 0) (h5 : w = 5 → 48 ≤ b) : (s.actW w b).1.OK := by
  unfold PS.actW
  split
  · rename_i e; exact PS.print_ok h b (h1 e)
  split
  · exact h
  split
  · exact PS.inters_ok h b
  split
  · rename_i e; exact PS.finish_ok h b (h4 e)
  split
  · rename_i e; exact PS.param_ok h b (h5 e)
  split
  · exact PS.begin_ok h 0 (by omega) (fun e => absurd rfl e)
  split
  · exact PS.keep_ok h b
  split
  · unfold PS.bell
    split
    · exact PS.begin_ok h 0 (by omega) (fun e => absurd rfl e)
    · exact h
  split
  · exact PS.print_ok (PS.begin_ok h 0 (by omega) (fun e => absurd rfl e)) b rfl
  · exact h
theorem PS.number_half (s : PS) : s.number.half = s.half := by unfold PS.number; split <;> rfl
theorem PS.more_half (s : PS) : s.more.half = s.half := by unfold PS.more; split <;> rfl
theorem PS.digit_half (s : PS) (d : Int) : (s.digit d).half = s.half := by
  unfold PS.digit
  dsimp only
  split
  · exact PS.number_half s
  · exact PS.number_half s
theorem PS.param_half (s : PS) (b : Int) : (s.param b).half = s.half := by
  unfold PS.param
  split
  · rfl
  split
  · rfl
  split
  · rw [PS.more_half, PS.number_half]
  · rw [PS.digit_half]
theorem PS.inters_half (s : PS) (b : Int) : (s.inters b).half = s.half := by unfold PS.inters; split <;> rfl
theorem PS.keep_half (s : PS) (b : Int) : (s.keep b).half = s.half := by unfold PS.keep; split <;> rfl
theorem PS.actW_half (s : PS) (w b : Int) (h : Good s.half) : Good (s.actW w b).1.half := by
  unfold PS.actW
  split
  · exact good_step b h
  split
  · exact h
  split
  · rw [PS.inters_half]; exact h
  split
  · exact h
  split
  · rw [PS.param_half]; exact h
  split
  · exact h
  split
  · rw [PS.keep_half]; exact h
  split
  · unfold PS.bell; split <;> exact h
  split
  · exact good_step b h
  · exact h
theorem good_bsOf {l : List Int} (h : Good l) : strInts (bsOf l) = l := strInts_bsOf (good_bytes h)
theorem PS.act_half (s : PS) (b : Int) (h : Good s.half) : Good (s.act b).1.half := by
  have hp := good_step b h
  unfold PS.act
  repeat' split
  all_goals first
    | exact h
    | exact hp
    | (rw [PS.inters_half]; exact h)
    | (rw [PS.param_half]; exact h)
    | (rw [PS.keep_half]; exact h)
theorem pstep_half (s : PS) (b : Int) (h : Good s.half) : Good (pstep s b).1.half := by
  have h1 : Good (s.flushed b).1.half := by
    unfold PS.flushed
    split
    · exact trivial
    · exact h
  show Good (((s.flushed b).1.go b).1).half
  unfold PS.go
  split
  · exact h1
  split
  · exact h1
  · exact PS.act_half _ b h1
end T13
end
section
namespace T13
open Sx T12
theorem PS.act_ok {s : PS} (h : s.OK) (b : Int) : (s.act b).1.OK := by
  unfold PS.act
  split
  · rename_i h0
    repeat' split
    all_goals first
      | exact h
      | exact PS.print_ok h b h0
  split
  · rename_i h1
    have hne : s.st ≠ 0 := by omega
    repeat' split
    all_goals first
      | exact h
      | exact PS.inters_ok h b
      | exact PS.finish_ok h b hne
      | exact PS.print_ok (PS.begin_ok h 0 (by omega) (fun e => absurd rfl e)) b rfl
  split
  · repeat' split
    all_goals first
      | exact h
      | exact PS.inters_ok h b
      | exact PS.param_ok h b (by omega)
      | exact PS.begin_ok h 0 (by omega) (fun e => absurd rfl e)
      | exact PS.print_ok (PS.begin_ok h 0 (by omega) (fun e => absurd rfl e)) b rfl
  split
  · repeat' split
    all_goals first
      | exact h
      | exact PS.keep_ok h b
      | exact PS.begin_ok h 0 (by omega) (fun e => absurd rfl e)
  · repeat' split
    all_goals first
      | exact h
      | exact PS.keep_ok h b
theorem pstep_ok {s : PS} (h : s.OK) (b : Int) : (pstep s b).1.OK := by
  have hf : (s.flushed b).1.OK := by
    unfold PS.flushed
    split
    · rename_i e
      exact ⟨h.st, trivial, fun _ => rfl, h.inter, h.nums, h.text, h.bnd⟩
    · exact h
  have hidle : b = 27 → (s.flushed b).1.half = [] := fun e => by
    unfold PS.flushed
    split
    · rfl
    · rename_i hn
      exact h.idle (fun h0 => hn ⟨h0, .inl (by omega)⟩)
  show (((s.flushed b).1.go b).1).OK
  unfold PS.go
  split
  · exact PS.begin_ok hf 0 (by omega) (fun e => absurd rfl e)
  split
  · rename_i e; exact PS.begin_ok hf 1 (by omega) (fun _ => hidle e)
  · exact PS.act_ok hf b
theorem step_few (h : List Int) (b : Int) : (step h b).1.length ≤ 2 := by
  have := step_len h b
  unfold one at this; omega
theorem PS.endA_few (s : PS) : s.endA.length ≤ 1 := by
  unfold PS.endA
  split
  · simp
  split
  · simp
  · simp
theorem PS.act_few (s : PS) (b : Int) : (s.act b).2.length ≤ 2 := by
  have h1 := step_few s.half b
  have h2 := PS.endA_few s
  unfold PS.act PS.finish PS.dispatch PS.print PS.begin
  repeat' split
  all_goals dsimp only
  all_goals repeat' split
  all_goals first
    | (simp; done)
    | (rw [List.length_map]; exact h1)
    | omega
theorem pstep_few (s : PS) (b : Int) : (pstep s b).2.length ≤ 3 := by
  have h1 : (s.flushed b).2.length ≤ 1 := by unfold PS.flushed; repeat' split; all_goals simp
  have h2 : ((s.flushed b).1.go b).2.length ≤ 2 := by
    have h3 := PS.endA_few (s.flushed b).1
    have h4 := PS.act_few (s.flushed b).1 b
    unfold PS.go
    repeat' split
    all_goals try dsimp only
    all_goals first
      | omega
      | (simp; done)
  show ((s.flushed b).2 ++ ((s.flushed b).1.go b).2).length ≤ 3
  rw [List.length_append]; omega
end T13
end
section
namespace T13
open Sx T12
/-- Alike, but for what a parser in ground does not look at. -/
def Rel (s t : PS) : Prop := s = t ∨ (s.st = 0 ∧ t.st = 0 ∧ s.half = t.half)
theorem rel_begin {s t : PS} (h : s.half = t.half) (st : Int) : s.begin st = t.begin st := by
  simp only [PS.begin, h]
theorem flushed_rel {s t : PS} (b : Int) (h0 : s.st = 0) (h1 : t.st = 0) (h : s.half = t.half) : Rel (s.flushed b).1 (t.flushed b).1 ∧ (s.flushed b).2 = (t.flushed b).2 := by
  unfold PS.flushed
  simp only [h0, h1, h, true_and]
  split
  · exact ⟨.inr ⟨rfl, rfl, rfl⟩, rfl⟩
  · exact ⟨.inr ⟨h0, h1, h⟩, rfl⟩
theorem act_rel {s t : PS} (b : Int) (h0 : s.st = 0) (h1 : t.st = 0) (h : s.half = t.half) : Rel (s.act b).1 (t.act b).1 ∧ (s.act b).2 = (t.act b).2 := by
  unfold PS.act
  rw [if_pos h0, if_pos h1]
  split
  · exact ⟨.inr ⟨h0, h1, h⟩, rfl⟩
  split
  · exact ⟨.inr ⟨h0, h1, h⟩, rfl⟩
  · simp only [PS.print, h]
    exact ⟨.inr ⟨h0, h1, rfl⟩, trivial⟩
theorem go_rel {s t : PS} (b : Int) (hr : Rel s t) : Rel (s.go b).1 (t.go b).1 ∧ (s.go b).2 = (t.go b).2 := by
  rcases hr with rfl | ⟨h0, h1, h⟩
  · exact ⟨.inl rfl, rfl⟩
  · unfold PS.go
    split
    · exact ⟨.inl (rel_begin h 0), rfl⟩
    split
    · refine ⟨.inl (rel_begin h 1), ?_⟩
      simp [PS.endA, h0, h1]
    · exact act_rel b h0 h1 h
theorem pstep_rel {s t : PS} (b : Int) (hr : Rel s t) : Rel (pstep s b).1 (pstep t b).1 ∧ (pstep s b).2 = (pstep t b).2 := by
  rcases hr with rfl | ⟨h0, h1, h⟩
  · exact ⟨.inl rfl, rfl⟩
  · obtain ⟨h2, h3⟩ := flushed_rel b h0 h1 h
    obtain ⟨h4, h5⟩ := go_rel b h2
    exact ⟨h4, by show _ ++ _ = _ ++ _; rw [h3, h5]⟩
theorem pfeed_rel {s t : PS} (hr : Rel s t) : ∀ l, Rel (pfeed s l).1 (pfeed t l).1 ∧ (pfeed s l).2 = (pfeed t l).2 := by
  intro l
  induction l generalizing s t with
  | nil => exact ⟨hr, rfl⟩
  | cons b l ih =>
    obtain ⟨h1, h2⟩ := pstep_rel b hr
    obtain ⟨h3, h4⟩ := ih h1
    exact ⟨h3, by simp only [pfeed]; rw [h2, h4]⟩
def psG : PS := ⟨0, [], [], false, true, 0, [], false, []⟩
/-- 24 and 26 give up what there is. -/
theorem pstep_stop {s : PS} (h : s.OK) {b : Int} (hb : b = 24 ∨ b = 26) : (pstep s b).1 = psG := by
  have hh : (s.flushed b).1.half = [] := by
    unfold PS.flushed
    split
    · rfl
    · rename_i hn
      exact h.idle (fun h0 => hn ⟨h0, .inl (by omega)⟩)
  have : (pstep s b).1 = ((s.flushed b).1.go b).1 := rfl
  rw [this]
  unfold PS.go
  rw [if_pos hb]
  simp only [PS.begin, hh]; rfl
theorem mem_print {l : List Int} {x : aty.den} (h : x ∈ l.map aPrint) : x.2.2.2.2.1 = [] := by
  obtain ⟨r, _, rfl⟩ := List.mem_map.1 h; rfl
/-- The numbers of acts are few. -/
theorem endA_nums {s : PS} {x : aty.den} (h : x ∈ s.endA) : x.2.2.2.2.1 = [] := by
  unfold PS.endA at h
  repeat' split at h
  all_goals simp at h
  all_goals subst h
  all_goals rfl
def Eight (l : List aty.den) : Prop := ∀ x ∈ l, x.2.2.2.2.1.length ≤ 8
theorem eight_nil : Eight [] := fun x h => by cases h
theorem eight_none {l : List aty.den} (h : ∀ x ∈ l, x.2.2.2.2.1 = []) : Eight l := fun x hx => by
  have := h x hx
  rw [this]; simp
theorem eight_one {x : aty.den} (h : x.2.2.2.2.1.length ≤ 8) : Eight [x] := fun y hy => by
  simp at hy; subst hy; exact h
theorem finish_eight (s : PS) (b : Int) : Eight (s.finish b).2 := by
  unfold PS.finish
  dsimp only
  repeat' split
  all_goals first
    | exact eight_nil
    | exact eight_one (Nat.zero_le _)
theorem act_eight {s : PS} (h : s.OK) (b : Int) : Eight (s.act b).2 := by
  have hd : Eight (s.dispatch b).2 := by
    unfold PS.dispatch
    dsimp only
    split
    · exact eight_nil
    · exact eight_one h.nums
  have hp : ∀ t : PS, Eight (t.print b).2 := fun t => eight_none fun x hx => mem_print hx
  have he : Eight s.endA := eight_none fun x hx => endA_nums hx
  have hf := finish_eight s b
  unfold PS.act
  repeat' split
  all_goals first
    | exact eight_nil
    | exact hd
    | exact hf
    | exact hp _
    | exact he
    | exact eight_one (Nat.zero_le _)
theorem pstep_eight {s : PS} (h : s.OK) (b : Int) : Eight (pstep s b).2 := by
  have h1 : Eight (s.flushed b).2 := by
    unfold PS.flushed
    repeat' split
    all_goals first
      | exact eight_nil
      | exact eight_one (Nat.zero_le _)
  have hf : (s.flushed b).1.OK := by
    unfold PS.flushed
    split
    · exact ⟨h.st, trivial, fun _ => rfl, h.inter, h.nums, h.text, h.bnd⟩
    · exact h
  have h2 : Eight ((s.flushed b).1.go b).2 := by
    unfold PS.go
    split
    · exact eight_nil
    split
    · exact eight_none fun x hx => endA_nums hx
    · exact act_eight hf b
  intro x hx
  rcases List.mem_append.1 (show x ∈ (s.flushed b).2 ++ ((s.flushed b).1.go b).2 from hx) with h3 | h3
  · exact h1 x h3
  · exact h2 x h3
theorem pfeed_eight {s : PS} (h : s.OK) : ∀ l, Eight (pfeed s l).2 := by
  intro l
  induction l generalizing s with
  | nil => exact eight_nil
  | cons b l ih =>
    intro x hx
    rcases List.mem_append.1 (show x ∈ (pstep s b).2 ++ (pfeed (pstep s b).1 l).2 from hx) with h3 | h3
    · exact pstep_eight h b x h3
    · exact ih (pstep_ok h b) x h3
theorem pstep_plain {s : PS} (h0 : s.st = 0) (hh : s.half = []) {b : Int} (h1 : 32 ≤ b) (h2 : b ≤ 126) : pstep s b = (s, [aPrint b]) := by
  have hf : s.flushed b = (s, []) := by unfold PS.flushed; rw [if_neg (by omega)]
  have hw : wid b = 1 := by unfold wid; rw [if_pos (by omega)]
  have hst : step [] b = ([b], []) := by unfold step step0; dsimp only; rw [if_neg (by omega), if_pos hw]
  show (((s.flushed b).1.go b).1, (s.flushed b).2 ++ ((s.flushed b).1.go b).2) = _
  rw [hf]
  have hg : s.go b = (s, [aPrint b]) := by
    unfold PS.go
    rw [if_neg (by omega), if_neg (by omega)]
    unfold PS.act
    rw [if_pos h0, if_neg (by omega), if_neg (by omega)]
    unfold PS.print
    rw [hh, hst]
    simp only [List.map_cons, List.map_nil]
    rw [← hh]
  rw [hg]; rfl
theorem pfeed_plain {s : PS} (h0 : s.st = 0) (hh : s.half = []) : ∀ l : List Int, (∀ x ∈ l, 32 ≤ x ∧ x ≤ 126) → pfeed s l = (s, l.map aPrint) := by
  intro l
  induction l with
  | nil => intro _; rfl
  | cons b l ih =>
    intro h
    have hb := h b (by simp)
    have hi := ih (fun x hx => h x (by simp [hx]))
    simp only [pfeed]
    rw [pstep_plain h0 hh hb.1 hb.2, hi]; rfl
theorem pfeed_stop {s : PS} (h : s.OK) (l : List Int) {b : Int} (hb : b = 24 ∨ b = 26) (hok : ∀ t : PS, t.OK → ∀ l, (pfeed t l).1.OK) : (pfeed s (l ++ [b])).1 = psG := by
  rw [pfeed_snoc]
  exact pstep_stop (hok s h l) hb
end T13
end
section
open Go Sx Go.Proofs
namespace T13
set_option maxRecDepth 100000
set_option maxHeartbeats 1000000
attribute [local irreducible] Tree.Leads
noncomputable def T0 : Table := ((((((((Table.none.add 83 (.ext (xAtomicLoad .u32))).add 100 (.ext xAtomicStore)).add 107 (.ext (xAtomicCas .i32))).add 112 (.ext (xAtomicAdd .i32))).add 106 (.ext xMark0)).add 108 (.ext xMark0)).add 109 (.ext xMarked)).add 111 (.ext xMarked))
theorem T0_ok : TableOK Tryz.prog T0 := by
  refine add_ok (add_ok (add_ok (add_ok (add_ok (add_ok (add_ok (add_ok none_ok ?_) ?_) ?_) ?_) ?_) ?_) ?_) ?_
  · exact atomicLoad_ok (fn := Tryz.f83) (by kernel_rfl) (by kernel_rfl) (by kernel_rfl) (by kernel_rfl) (by kernel_rfl)
  · exact atomicStore_ok (fn := Tryz.f100) (by kernel_rfl) (by kernel_rfl) (by kernel_rfl) (by kernel_rfl) (by kernel_rfl)
  · exact atomicCas_ok (fn := Tryz.f107) (by kernel_rfl) (by kernel_rfl) (by kernel_rfl) (by kernel_rfl) (by kernel_rfl)
  · exact atomicAdd_ok (fn := Tryz.f112) (by kernel_rfl) (by kernel_rfl) (by kernel_rfl) (by kernel_rfl) (by kernel_rfl)
  · exact mark0_ok (fn := Tryz.f106) .disable (by kernel_rfl) (by kernel_rfl) (by kernel_rfl) (by kernel_rfl) (by kernel_rfl)
  · exact mark0_ok (fn := Tryz.f108) .enable (by kernel_rfl) (by kernel_rfl) (by kernel_rfl) (by kernel_rfl) (by kernel_rfl)
  · exact marked_ok (fn := Tryz.f109) .acquire (by kernel_rfl) (by kernel_rfl) (by kernel_rfl) (by kernel_rfl) (by kernel_rfl)
  · exact marked_ok (fn := Tryz.f111) .releaseMerge (by kernel_rfl) (by kernel_rfl) (by kernel_rfl) (by kernel_rfl) (by kernel_rfl)
noncomputable def T1 : Table := ((T0.add 101 (.go (bodySumm T0 Tryz.prog Tryz.f101 noAn))).add 98 (.go (bodySumm T0 Tryz.prog Tryz.f98 noAn))).add 99 (.go (bodySumm T0 Tryz.prog Tryz.f99 noAn))
theorem T1_ok : TableOK Tryz.prog T1 := by
  refine add_ok (add_ok (add_ok T0_ok ?_) ?_) ?_
  · exact bodySumm_sound (c := Tryz.f101.body.get!) T0_ok (by kernel_rfl) (by kernel_rfl) (by kernel_rfl)
  · exact bodySumm_sound (c := Tryz.f98.body.get!) T0_ok (by kernel_rfl) (by kernel_rfl) (by kernel_rfl)
  · exact bodySumm_sound (c := Tryz.f99.body.get!) T0_ok (by kernel_rfl) (by kernel_rfl) (by kernel_rfl)
noncomputable def T2 : Table := ((((T1.add 55 (.go (bodySumm T1 Tryz.prog Tryz.f55 noAn))).add 86 (.god (bodySummD T1 Tryz.prog Tryz.f86 noAn))).add 84 (.go (bodySumm T1 Tryz.prog Tryz.f84 noAn))).add 85 (.god (bodySummD T1 Tryz.prog Tryz.f85 noAn))).add 16 (.go (bodySumm T1 Tryz.prog Tryz.f16 noAn))
theorem T2_ok : TableOK Tryz.prog T2 := by
  refine add_ok (add_ok (add_ok (add_ok (add_ok T1_ok ?_) ?_) ?_) ?_) ?_
  · exact bodySumm_sound (c := Tryz.f55.body.get!) T1_ok (by kernel_rfl) (by kernel_rfl) (by kernel_rfl)
  · exact bodySummD_sound (c := Tryz.f86.body.get!) T1_ok (by kernel_rfl) (by kernel_rfl) (by kernel_rfl)
  · exact bodySumm_sound (c := Tryz.f84.body.get!) T1_ok (by kernel_rfl) (by kernel_rfl) (by kernel_rfl)
  · exact bodySummD_sound (c := Tryz.f85.body.get!) T1_ok (by kernel_rfl) (by kernel_rfl) (by kernel_rfl)
  · exact bodySumm_sound (c := Tryz.f16.body.get!) T1_ok (by kernel_rfl) (by kernel_rfl) (by kernel_rfl)
noncomputable def T3 : Table := T2.add 56 (.go (bodySumm T2 Tryz.prog Tryz.f56 noAn))
theorem T3_ok : TableOK Tryz.prog T3 := by
  refine add_ok T2_ok ?_
  exact bodySumm_sound (c := Tryz.f56.body.get!) T2_ok (by kernel_rfl) (by kernel_rfl) (by kernel_rfl)
end T13
end
