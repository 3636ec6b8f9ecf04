/- The parser's plain laws: strings. -/
import Derived.Test.YtlcobcpgaoeijaaXP13d
namespace T13
open Sx T12
def str (st : Int) (T : List Int) : PS := ⟨st, [], [], false, true, 0, [], false, T⟩
theorem pstep_keep {st : Int} (h : st = 3 ∨ st = 4) (T : List Int) {b : Int} (hb : 32 ≤ b) : pstep (str st T) b = (str st (if T.length < 60 then T ++ [b] else T), []) := by
  have hst : (str st T).st = st := rfl
  rw [pstep_none (by rw [hst]; omega) (by omega) (by omega) (by omega)]
  have hk : (str st T).keep b = str st (if T.length < 60 then T ++ [b] else T) := by
    unfold PS.keep str
    dsimp only
    by_cases h6 : T.length < 60
    · rw [if_pos (by omega), if_pos h6]
    · rw [if_neg (by omega), if_neg h6]
  unfold PS.act
  rw [hst]
  rcases h with h | h
  · rw [if_neg (by omega), if_neg (by omega), if_neg (by omega), if_pos h, if_neg (by omega), hk]
  · rw [if_neg (by omega), if_neg (by omega), if_neg (by omega), if_neg (by omega), if_neg (by omega), hk]
theorem pfeed_keep {st : Int} (h : st = 3 ∨ st = 4) : ∀ (l T : List Int), T.length ≤ 60 → (∀ b ∈ l, 32 ≤ b) → pfeed (str st T) l = (str st ((T ++ l).take 60), []) := by
  intro l
  induction l with
  | nil => intro T hT _; rw [List.append_nil, List.take_of_length_le hT]; rfl
  | cons b l ih =>
    intro T hT hb
    have h1 := pstep_keep h T (hb b (by simp))
    simp only [pfeed, h1, List.nil_append]
    by_cases h6 : T.length < 60
    · rw [if_pos h6, ih _ (by simp; omega) (fun x hx => hb x (by simp [hx]))]
      simp
    · rw [if_neg h6, ih _ hT (fun x hx => hb x (by simp [hx]))]
      have hT6 : T.length = 60 := by omega
      rw [List.take_append_of_le_length (by omega), List.take_append_of_le_length (by omega)]
theorem front_osc {s : PS} (h0 : s.st = 0) (hh : s.half = []) (l : List Int) (hb : ∀ b ∈ l, 32 ≤ b) : pfeed s (27 :: 93 :: l) = (str 3 (l.take 60), []) := by
  have h1 : pstep ⟨1, [], [], false, true, 0, [], false, []⟩ 93 = (str 3 [], []) := by rfl
  simp only [pfeed, pstep_escape h0 hh, h1, pfeed_keep (.inl rfl) l [] (by simp) hb, List.nil_append]
theorem front_dcs {s : PS} (h0 : s.st = 0) (hh : s.half = []) (l : List Int) (hb : ∀ b ∈ l, 32 ≤ b) : pfeed s (27 :: 80 :: l) = (str 4 (l.take 60), []) := by
  have h1 : pstep ⟨1, [], [], false, true, 0, [], false, []⟩ 80 = (str 4 [], []) := by rfl
  simp only [pfeed, pstep_escape h0 hh, h1, pfeed_keep (.inr rfl) l [] (by simp) hb, List.nil_append]
theorem ends_osc (T : List Int) : pfeed (str 3 T) [27, 92] = (psG, [aOsc T, aEscape [] 92]) := by rfl
theorem ends_dcs (T : List Int) : pfeed (str 4 T) [27, 92] = (psG, [aDcs T, aEscape [] 92]) := by rfl
theorem ends_bell (T : List Int) : pfeed (str 3 T) [7] = (psG, [aOsc T]) := by rfl
theorem psG_ok : psG.OK := ⟨by decide, trivial, fun _ => rfl, by simp [psG], by simp [psG], by simp [psG], by simp [psG]⟩
end T13
