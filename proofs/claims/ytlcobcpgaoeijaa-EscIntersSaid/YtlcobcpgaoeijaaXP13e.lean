/- The parser's plain laws: bytes between. -/
import Derived.Test.YtlcobcpgaoeijaaXP13d
namespace T13
open Sx T12
theorem pstep_inter {s : PS} (h : s.st = 1 ∨ s.st = 2) {b : Int} (h1 : 32 ≤ b) (h2 : b < 48) : pstep s b = (s.inters b, []) := by
  rw [pstep_none (by omega) (by omega) (by omega) (by omega)]
  unfold PS.act
  rcases h with h | h
  · rw [if_neg (by omega), if_pos h, if_neg (by omega), if_pos h2]
  · rw [if_neg (by omega), if_neg (by omega), if_pos h, if_neg (by omega), if_pos h2]
theorem pfeed_inters (st : Int) (hst : st = 1 ∨ st = 2) (h : List Int) (mk : Int) (N : List Int) (fu : Bool) (tx : List Int) {b : Int} (h1 : 32 ≤ b) (h2 : b < 48) : ∀ n : Nat,
    ∃ f, pfeed ⟨st, h, [], false, true, mk, N, fu, tx⟩ (List.replicate n b) = (⟨st, h, List.replicate (min n 2) b, decide (2 < n), f, mk, N, fu, tx⟩, []) := by
  intro n
  induction n with
  | zero => exact ⟨true, rfl⟩
  | succ n ih =>
    obtain ⟨f, ih⟩ := ih
    rw [List.replicate_succ', pfeed_snoc, ih]
    refine ⟨false, ?_⟩
    rw [pstep_inter (s := ⟨st, h, List.replicate (min n 2) b, decide (2 < n), f, mk, N, fu, tx⟩) hst h1 h2]
    unfold PS.inters
    by_cases hn : n ≥ 2
    · have e : min n 2 = 2 := by omega
      have e2 : min (n + 1) 2 = 2 := by omega
      rw [if_pos (by simp; omega), e, e2]
      have e3 : decide (2 < n + 1) = true := decide_eq_true (by omega)
      rw [e3]; rfl
    · have e : min n 2 = n := by omega
      have e2 : min (n + 1) 2 = n + 1 := by omega
      rw [if_neg (by simp; omega), e, e2]
      have e3 : decide (2 < n + 1) = false := decide_eq_false (by omega)
      have e4 : decide (2 < n) = false := decide_eq_false (by omega)
      rw [e3, e4]
      simp only [← List.replicate_succ', List.append_nil]
theorem psG_k : pfeed psG [107] = (psG, [aPrint 107]) := pfeed_plain (s := psG) rfl rfl [107] (fun x hx => by simp at hx; subst hx; omega)
theorem inters_csi {s : PS} (h0 : s.st = 0) (hh : s.half = []) {b f : Int} (h1 : 32 ≤ b) (h2 : b < 48) (h3 : 64 ≤ f) (h4 : f < 127) (n : Nat) :
    pfeed s (27 :: 91 :: (List.replicate n b ++ [f, 107])) = (psG, (if 2 < n then [] else [aCsi 0 [] (List.replicate n b) f]) ++ [aPrint 107]) := by
  obtain ⟨g, hg⟩ := pfeed_inters 2 (.inr rfl) [] 0 [] false [] h1 h2 n
  rw [pfeed_csi h0 hh, pfeed_append, hg]
  have e : pfeed ⟨2, [], List.replicate (min n 2) b, decide (2 < n), g, 0, [], false, []⟩ [f, 107] = (psG, (if 2 < n then [] else [aCsi 0 [] (List.replicate n b) f]) ++ [aPrint 107]) := by
    have h5 : pstep ⟨2, [], List.replicate (min n 2) b, decide (2 < n), g, 0, [], false, []⟩ f = (psG, if 2 < n then [] else [aCsi 0 [] (List.replicate n b) f]) := by
      rw [pstep_final rfl h3 h4]
      unfold PS.dispatch
      by_cases hn : 2 < n
      · rw [if_pos hn]; simp only [decide_eq_true hn, if_true]; rfl
      · have e : min n 2 = n := by omega
        rw [if_neg hn, e]; simp only [decide_eq_false hn]; rfl
    have h6 := psG_k
    simp only [pfeed, h5] at h6 ⊢
    obtain ⟨a1, a2⟩ := Prod.mk.inj h6
    rw [a1, a2]
  rw [e]; rfl
theorem inters_esc {s : PS} (h0 : s.st = 0) (hh : s.half = []) {b f : Int} (h1 : 32 ≤ b) (h2 : b < 48) (h3 : 64 ≤ f) (h4 : f < 127) (n : Nat) (hf : n = 0 → f ≠ 91 ∧ f ≠ 93 ∧ f ≠ 80) :
    pfeed s (27 :: (List.replicate n b ++ [f, 107])) = (psG, (if 2 < n then [] else [aEscape (List.replicate n b) f]) ++ [aPrint 107]) := by
  obtain ⟨g, hg⟩ := pfeed_inters 1 (.inl rfl) [] 0 [] false [] h1 h2 n
  have e0 : pfeed s (27 :: (List.replicate n b ++ [f, 107])) = pfeed ⟨1, [], [], false, true, 0, [], false, []⟩ (List.replicate n b ++ [f, 107]) := by
    simp only [pfeed, pstep_escape h0 hh, List.nil_append]
  rw [e0, pfeed_append, hg]
  have e : pfeed ⟨1, [], List.replicate (min n 2) b, decide (2 < n), g, 0, [], false, []⟩ [f, 107] = (psG, (if 2 < n then [] else [aEscape (List.replicate n b) f]) ++ [aPrint 107]) := by
    have h5 : pstep ⟨1, [], List.replicate (min n 2) b, decide (2 < n), g, 0, [], false, []⟩ f = (psG, if 2 < n then [] else [aEscape (List.replicate n b) f]) := by
      rw [pstep_none (by dsimp only; omega) (by omega) (by omega) (by omega)]
      unfold PS.act
      rw [if_neg (by dsimp only; omega), if_pos rfl, if_neg (by omega), if_neg (by omega), if_pos h4]
      have hnext : (if (((List.replicate (min n 2) b).length : Nat) : Int) = 0 then (if f = 91 then (2 : Int) else if f = 93 then 3 else if f = 80 then 4 else 0) else 0) = 0 := by
        by_cases hn : n = 0
        · obtain ⟨a1, a2, a3⟩ := hf hn
          rw [if_neg a1, if_neg a2, if_neg a3, ite_self]
        · rw [if_neg (by simp; omega)]
      unfold PS.finish
      dsimp only
      rw [hnext]
      by_cases hn : 2 < n
      · rw [if_pos hn]; simp only [decide_eq_true hn]; rfl
      · have e : min n 2 = n := by omega
        rw [if_neg hn, e]; simp only [decide_eq_false hn]; rfl
    have h6 := psG_k
    simp only [pfeed, h5] at h6 ⊢
    obtain ⟨a1, a2⟩ := Prod.mk.inj h6
    rw [a1, a2]
  rw [e]; rfl
end T13
