/- The parser's plain laws: sequences with numbers. -/
import Derived.Test.YtlcobcpgaoeijaaXP13c
namespace T13
open Sx T12
theorem flushed_none {s : PS} {b : Int} (h : s.st ≠ 0) : s.flushed b = (s, []) := by unfold PS.flushed; rw [if_neg (fun e => h e.1)]
theorem pstep_none {s : PS} {b : Int} (h : s.st ≠ 0) (h24 : b ≠ 24) (h26 : b ≠ 26) (h27 : b ≠ 27) : pstep s b = s.act b := by
  show (((s.flushed b).1.go b).1, (s.flushed b).2 ++ ((s.flushed b).1.go b).2) = _
  rw [flushed_none h]
  unfold PS.go
  rw [if_neg (by omega), if_neg h27]; rfl
theorem pstep_escape {s : PS} (h0 : s.st = 0) (hh : s.half = []) : pstep s 27 = (⟨1, [], [], false, true, 0, [], false, []⟩, []) := by
  show (((s.flushed 27).1.go 27).1, (s.flushed 27).2 ++ ((s.flushed 27).1.go 27).2) = _
  have hf : s.flushed 27 = ({ s with half := [] }, []) := by
    unfold PS.flushed
    rw [if_pos ⟨h0, .inl (by omega)⟩, if_pos hh]
  rw [hf]
  unfold PS.go
  rw [if_neg (by omega), if_pos rfl]
  unfold PS.endA
  rw [if_neg (by dsimp only; omega), if_neg (by dsimp only; omega)]
  rfl
/-- A control within a sequence. -/
theorem pstep_control {s : PS} (h : s.st = 1 ∨ s.st = 2) {c : Int} (h1 : c < 32) (h24 : c ≠ 24) (h26 : c ≠ 26) (h27 : c ≠ 27) : pstep s c = (s, [aControl c]) := by
  rw [pstep_none (by omega) h24 h26 h27]
  unfold PS.act
  rcases h with h | h
  · rw [if_neg (by omega), if_pos h, if_pos h1]
  · rw [if_neg (by omega), if_neg (by omega), if_pos h, if_pos h1]
theorem pstep_del {s : PS} (h : s.st = 1 ∨ s.st = 2) : pstep s 127 = (s, []) := by
  rw [pstep_none (by omega) (by omega) (by omega) (by omega)]
  unfold PS.act
  rcases h with h | h
  · rw [if_neg (by omega), if_pos h, if_neg (by omega), if_neg (by omega), if_neg (by omega), if_pos rfl]
  · rw [if_neg (by omega), if_neg (by omega), if_pos h, if_neg (by omega), if_neg (by omega), if_neg (by omega), if_neg (by omega), if_pos rfl]
/-- What digits make of a number. -/
def acc (x : Int) : List Int → Int
  | [] => x
  | b :: r => acc (min (max x 0 * 10 + (b - 48)) 9999) r
theorem acc_snoc (x : Int) (b : Int) : ∀ l, acc x (l ++ [b]) = min (max (acc x l) 0 * 10 + (b - 48)) 9999 := by
  intro l
  induction l generalizing x with
  | nil => rfl
  | cons c l ih => exact ih _
/-- A number's digits, as bytes. -/
def digF : Nat → Nat → List Int
  | 0, _ => []
  | k + 1, n => if n < 10 then [48 + (n : Int)] else digF k (n / 10) ++ [48 + ((n % 10 : Nat) : Int)]
def dig (n : Nat) : List Int := digF (n + 1) n
theorem digF_eq : ∀ (k l n : Nat), n < k → n < l → digF k n = digF l n
  | 0, _, _, h, _ => by omega
  | _, 0, _, _, h => by omega
  | k + 1, l + 1, n, h1, h2 => by
    simp only [digF]
    split
    · rfl
    · rw [digF_eq k l (n / 10) (by omega) (by omega)]
theorem dig_small {n : Nat} (h : n < 10) : dig n = [48 + (n : Int)] := by unfold dig digF; rw [if_pos h]
theorem dig_step {n : Nat} (h : 10 ≤ n) : dig n = dig (n / 10) ++ [48 + ((n % 10 : Nat) : Int)] := by
  unfold dig
  rw [digF, if_neg (by omega), digF_eq n (n / 10 + 1) (n / 10) (by omega) (by omega)]
/-- What is left to be written ahead of what is there. -/
def digL (n : Nat) (s : List Int) : List Int := if n = 0 ∧ s ≠ [] then s else dig n ++ s
theorem digL_step (n : Nat) (s : List Int) (h : n ≠ 0 ∨ s = []) : digL n s = digL (n / 10) ((48 + ((n % 10 : Nat) : Int)) :: s) := by
  have h1 : digL n s = dig n ++ s := by
    unfold digL
    rw [if_neg]
    rintro ⟨a, b⟩
    rcases h with h | h
    · exact h a
    · exact b h
  rw [h1]
  unfold digL
  by_cases hn : n < 10
  · rw [if_pos ⟨by omega, by simp⟩, dig_small hn]
    have : n % 10 = n := Nat.mod_eq_of_lt hn
    rw [this]; rfl
  · rw [if_neg (fun e => by omega), dig_step (by omega)]
    simp
theorem dig_bytes (n : Nat) : ∀ x ∈ dig n, 48 ≤ x ∧ x ≤ 57 := by
  induction n using Nat.strongRecOn with
  | _ n ih =>
    intro x hx
    by_cases h : n < 10
    · rw [dig_small h] at hx; simp at hx; omega
    · rw [dig_step (by omega)] at hx
      rcases List.mem_append.1 hx with h1 | h1
      · exact ih (n / 10) (by omega) x h1
      · simp at h1; omega
theorem dig_len (n : Nat) (h : n < 100000) : 1 ≤ (dig n).length ∧ (dig n).length ≤ 5 := by
  have key : ∀ (k m : Nat), m < 10 ^ (k + 1) → 1 ≤ (dig m).length ∧ (dig m).length ≤ k + 1 := by
    intro k
    induction k with
    | zero => intro m hm; rw [dig_small (by omega)]; simp
    | succ k ih =>
      intro m hm
      by_cases h : m < 10
      · rw [dig_small h]; simp
      · have := ih (m / 10) (by rw [Nat.pow_succ] at hm; omega)
        rw [dig_step (by omega)]; simp; omega
  exact key 4 n (by omega)
theorem acc_dig (n : Nat) : acc (-1) (dig n) = min (n : Int) 9999 := by
  induction n using Nat.strongRecOn with
  | _ n ih =>
    by_cases h : n < 10
    · rw [dig_small h]; simp only [acc]; omega
    · rw [dig_step (by omega), acc_snoc, ih (n / 10) (by omega)]; omega
theorem param_digit {s : PS} {b : Int} (hi : s.inter = []) (h1 : 48 ≤ b) (h2 : b ≤ 57) : s.param b = ({ s with first := false } : PS).digit (b - 48) := by
  unfold PS.param
  rw [if_neg (by rw [hi]; simp; omega), if_neg (by omega), if_neg (by omega)]
theorem pstep_param {s : PS} (h : s.st = 2) {b : Int} (h1 : 48 ≤ b) (h2 : b < 64) : pstep s b = (s.param b, []) := by
  rw [pstep_none (by omega) (by omega) (by omega) (by omega)]
  unfold PS.act
  rw [if_neg (by omega), if_neg (by omega), if_pos h, if_neg (by omega), if_neg (by omega), if_pos h2]
theorem getD_last {l : List Int} {x : Int} : (l ++ [x]).getD ((l ++ [x]).length - 1) 0 = x := by
  have : (l ++ [x]).length - 1 = l.length := by simp
  rw [this, List.getD_eq_getElem?_getD, List.getElem?_append_right (Nat.le_refl _), Nat.sub_self]; rfl
theorem set_last {l : List Int} {x y : Int} : (l ++ [x]).set ((l ++ [x]).length - 1) y = l ++ [y] := by
  have : (l ++ [x]).length - 1 = l.length := by simp
  rw [this, List.set_append_right _ _ (Nat.le_refl _), Nat.sub_self]; rfl
theorem pstep_digit (w f : Bool) (mk : Int) (N P : List Int) (x : Int) (tx : List Int) {b : Int} (h1 : 48 ≤ b) (h2 : b ≤ 57) (hN : N = P ++ [x] ∨ (N = [] ∧ P = [] ∧ x = -1)) :
    pstep ⟨2, [], [], w, f, mk, N, false, tx⟩ b = (⟨2, [], [], w, false, mk, P ++ [min (max x 0 * 10 + (b - 48)) 9999], false, tx⟩, []) := by
  rw [pstep_param rfl h1 (by omega), param_digit rfl h1 h2]
  have hn : PS.number ⟨2, [], [], w, false, mk, N, false, tx⟩ = ⟨2, [], [], w, false, mk, P ++ [x], false, tx⟩ := by
    unfold PS.number
    rcases hN with rfl | ⟨rfl, rfl, rfl⟩
    · rw [if_neg (by simp; omega)]
    · rfl
  unfold PS.digit
  dsimp only
  rw [hn]
  dsimp only
  rw [if_neg (by simp), getD_last, set_last]
theorem pfeed_digits (w f : Bool) (mk : Int) (tx : List Int) : ∀ (l : List Int) (N P : List Int) (x : Int), l ≠ [] → (∀ b ∈ l, 48 ≤ b ∧ b ≤ 57) → (N = P ++ [x] ∨ (N = [] ∧ P = [] ∧ x = -1)) →
    pfeed ⟨2, [], [], w, f, mk, N, false, tx⟩ l = (⟨2, [], [], w, false, mk, P ++ [acc x l], false, tx⟩, []) := by
  intro l
  induction l generalizing f with
  | nil => intro N P x h; exact absurd rfl h
  | cons b l ih =>
    intro N P x _ hb hN
    have hb0 := hb b (by simp)
    simp only [pfeed, pstep_digit w f mk N P x tx hb0.1 hb0.2 hN, List.nil_append, acc]
    by_cases hl : l = []
    · subst hl; rfl
    · exact ih false _ P _ hl (fun y hy => hb y (by simp [hy])) (.inl rfl)
/-- Digits, when there are more numbers than are kept. -/
theorem pfeed_full (w f : Bool) (mk : Int) (tx N : List Int) (hN : N ≠ []) : ∀ (l : List Int), (∀ b ∈ l, 48 ≤ b ∧ b ≤ 57) →
    pfeed ⟨2, [], [], w, f, mk, N, true, tx⟩ l = (⟨2, [], [], w, if l = [] then f else false, mk, N, true, tx⟩, []) := by
  intro l
  induction l generalizing f with
  | nil => intro _; rfl
  | cons b l ih =>
    intro hb
    have hb0 := hb b (by simp)
    have hs : pstep ⟨2, [], [], w, f, mk, N, true, tx⟩ b = (⟨2, [], [], w, false, mk, N, true, tx⟩, []) := by
      rw [pstep_param rfl hb0.1 (by omega), param_digit rfl hb0.1 hb0.2]
      have hn : PS.number ⟨2, [], [], w, false, mk, N, true, tx⟩ = ⟨2, [], [], w, false, mk, N, true, tx⟩ := by
        unfold PS.number
        rw [if_neg (by simp; exact hN)]
      unfold PS.digit
      dsimp only
      rw [hn, if_pos rfl]
    simp only [pfeed, hs, List.nil_append]
    rw [ih false (fun y hy => hb y (by simp [hy]))]
    simp
theorem pstep_semi (w f : Bool) (mk : Int) (N P : List Int) (full : Bool) (tx : List Int) (hN : N = P ∨ (N = [] ∧ P = [-1])) (hP : P ≠ []) :
    pstep ⟨2, [], [], w, f, mk, N, full, tx⟩ 59 = (if P.length ≥ 8 then ⟨2, [], [], w, false, mk, P, true, tx⟩ else ⟨2, [], [], w, false, mk, P ++ [-1], full, tx⟩, []) := by
  rw [pstep_param rfl (by omega) (by omega)]
  unfold PS.param
  rw [if_neg (by simp), if_neg (by omega), if_pos rfl]
  have hn : PS.number ⟨2, [], [], w, false, mk, N, full, tx⟩ = ⟨2, [], [], w, false, mk, P, full, tx⟩ := by
    unfold PS.number
    rcases hN with rfl | ⟨rfl, rfl⟩
    · rw [if_neg (by simp; exact hP)]
    · rfl
  dsimp only
  rw [hn]
  unfold PS.more
  dsimp only
  by_cases h8 : P.length ≥ 8
  · rw [if_pos (by omega), if_pos h8]
  · rw [if_neg (by omega), if_neg h8]
theorem pstep_mark (w : Bool) (mk : Int) (N : List Int) (full : Bool) (tx : List Int) {b : Int} (h1 : 60 ≤ b) (h2 : b ≤ 63) : pstep ⟨2, [], [], w, true, mk, N, full, tx⟩ b = (⟨2, [], [], w, false, b, N, full, tx⟩, []) := by
  rw [pstep_param rfl (by omega) (by omega)]
  unfold PS.param
  rw [if_neg (by simp; omega), if_pos (by omega)]
theorem pstep_final {s : PS} (h : s.st = 2) {b : Int} (h1 : 64 ≤ b) (h2 : b < 127) : pstep s b = s.dispatch b := by
  rw [pstep_none (by omega) (by omega) (by omega) (by omega)]
  unfold PS.act
  rw [if_neg (by omega), if_neg (by omega), if_pos h, if_neg (by omega), if_neg (by omega), if_neg (by omega), if_pos h2]
/-- The front of a csi. -/
theorem pfeed_csi {s : PS} (h0 : s.st = 0) (hh : s.half = []) (l : List Int) : pfeed s (27 :: 91 :: l) = pfeed ⟨2, [], [], false, true, 0, [], false, []⟩ l := by
  have h1 : pstep ⟨1, [], [], false, true, 0, [], false, []⟩ 91 = (⟨2, [], [], false, true, 0, [], false, []⟩, []) := by rfl
  simp only [pfeed, pstep_escape h0 hh, h1, List.nil_append]
def seqL (n : Nat) : List Int := 27 :: 91 :: (dig n ++ [65])
theorem dig_ne (n : Nat) : dig n ≠ [] := by
  unfold dig digF
  split <;> simp
theorem seq_all {s : PS} (h0 : s.st = 0) (hh : s.half = []) {n : Nat} (hn : n ≤ 9999) : pfeed s (seqL n) = (psG, [aCsi 0 [(n : Int)] [] 65]) := by
  unfold seqL
  rw [pfeed_csi h0 hh, pfeed_append, pfeed_digits false true 0 [] (dig n) [] [] (-1) (dig_ne n) (dig_bytes n) (.inr ⟨rfl, rfl, rfl⟩), acc_dig]
  have hm : min (n : Int) 9999 = n := by omega
  rw [hm]
  simp only [pfeed, List.nil_append]
  rw [pstep_final (s := ⟨2, [], [], false, false, 0, [(n : Int)], false, []⟩) rfl (by omega) (by omega)]
  rfl
theorem seq_part {s : PS} (h0 : s.st = 0) (hh : s.half = []) {n : Nat} (k : Nat) (h1 : 1 ≤ k) (h2 : k < (seqL n).length) : (pfeed s ((seqL n).take k)).2 = [] ∧ ((pfeed s ((seqL n).take k)).1.st = 1 ∨ (pfeed s ((seqL n).take k)).1.st = 2) := by
  unfold seqL at h2 ⊢
  match k, h1, h2 with
  | 1, _, _ =>
    simp only [List.take_succ_cons, List.take_zero, pfeed, pstep_escape h0 hh]
    exact ⟨rfl, .inl trivial⟩
  | j + 2, _, h2 =>
    simp only [List.length_cons, List.length_append, List.length_nil] at h2
    have e : (dig n ++ [65]).take j = (dig n).take j := List.take_append_of_le_length (by omega)
    simp only [List.take_succ_cons]
    rw [e, pfeed_csi h0 hh]
    by_cases hj : (dig n).take j = []
    · rw [hj]; exact ⟨rfl, .inr rfl⟩
    · rw [pfeed_digits false true 0 [] ((dig n).take j) [] [] (-1) hj (fun b hb => dig_bytes n b (List.mem_of_mem_take hb)) (.inr ⟨rfl, rfl, rfl⟩)]
      exact ⟨rfl, .inr rfl⟩
/-- A control, and 127, within a sequence. -/
theorem seq_control {s : PS} (h0 : s.st = 0) (hh : s.half = []) {n : Nat} (hn : n ≤ 9999) (k : Nat) (h1 : 1 ≤ k) (h2 : k < (seqL n).length) {c : Int} (hc : c < 32) (h24 : c ≠ 24) (h26 : c ≠ 26) (h27 : c ≠ 27) :
    pfeed s ((seqL n).take k ++ ([c, 127] ++ (seqL n).drop k)) = (psG, [aControl c, aCsi 0 [(n : Int)] [] 65]) := by
  have hall := seq_all h0 hh hn
  obtain ⟨p1, p2⟩ := seq_part (n := n) h0 hh k h1 h2
  rw [← List.take_append_drop k (seqL n), pfeed_append, p1, List.nil_append] at hall
  rw [pfeed_append, p1, List.nil_append]
  simp only [List.cons_append, List.nil_append, pfeed, pstep_control p2 hc h24 h26 h27, pstep_del p2]
  obtain ⟨e1, e2⟩ := Prod.mk.inj hall
  rw [e1, e2]
end T13
