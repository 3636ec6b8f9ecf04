/- The parser's plain laws: lists of numbers. -/
import Derived.Test.YtlcobcpgaoeijaaXP13d
namespace T13
open Sx T12
/-- What is written of a number. -/
def item (v : Int) : List Int := if 0 ≤ v then dig (v % 100000).toNat else []
def worth (v : Int) : Int := if 0 ≤ v then min (v % 100000) 9999 else -1
def items : List Int → List Int
  | [] => []
  | [v] => item v
  | v :: r => item v ++ 59 :: items r
theorem items_snoc : ∀ (l : List Int) (v : Int), l ≠ [] → items (l ++ [v]) = items l ++ (59 :: item v)
  | [], v, h => absurd rfl h
  | [x], v, _ => rfl
  | x :: y :: r, v, _ => by
    have ih := items_snoc (y :: r) v (by simp)
    show item x ++ 59 :: items (y :: r ++ [v]) = (item x ++ 59 :: items (y :: r)) ++ (59 :: item v)
    rw [ih]; simp
def kept (L : List Int) : List Int := (L.map worth).take 8
theorem worth_dig {v : Int} (h : 0 ≤ v) : acc (-1) (dig (v % 100000).toNat) = worth v := by
  rw [acc_dig, worth, if_pos h]
  have := Int.emod_nonneg v (show (100000 : Int) ≠ 0 by omega)
  omega
theorem items_state (mk : Int) (f : Bool) : ∀ (n : Nat) (L : List Int), L.length = n → L ≠ [] → ∃ g N, pfeed ⟨2, [], [], false, f, mk, [], false, []⟩ (items L) = (⟨2, [], [], false, g, mk, N, decide (8 < L.length), []⟩, []) ∧ (N = kept L ∨ (N = [] ∧ ∃ v, v < 0 ∧ L = [v])) ∧ (N = [] → ∃ v, v < 0 ∧ L = [v]) := by
  intro n
  induction n with
  | zero => intro L hl h; exact absurd (List.eq_nil_of_length_eq_zero hl) h
  | succ n ih =>
    intro L hl _
    obtain ⟨L', v, rfl⟩ : ∃ L' v, L = L' ++ [v] := ⟨L.dropLast, L.getLast (by intro e; subst e; simp at hl), (List.dropLast_concat_getLast _).symm⟩
    simp only [List.length_append, List.length_cons, List.length_nil] at hl
    by_cases hL : L' = []
    · subst hL
      simp only [List.nil_append, items]
      unfold item
      by_cases hv : 0 ≤ v
      · rw [if_pos hv, pfeed_digits false f mk [] (dig _) [] [] (-1) (dig_ne _) (dig_bytes _) (.inr ⟨rfl, rfl, rfl⟩), worth_dig hv]
        exact ⟨false, _, rfl, .inl rfl, fun e => by simp at e⟩
      · rw [if_neg hv]
        exact ⟨f, [], rfl, .inr ⟨rfl, v, by omega, rfl⟩, fun _ => ⟨v, by omega, rfl⟩⟩
    · obtain ⟨g, N, h1, h2, _⟩ := ih L' (by omega) hL
      have hP : kept L' ≠ [] := by
        unfold kept
        intro e
        have := congrArg List.length e
        rw [List.length_take, List.length_map] at this
        simp at this
        exact hL this
      have hN : N = kept L' ∨ (N = [] ∧ kept L' = [-1]) := by
        rcases h2 with h2 | ⟨h2, w, hw, rfl⟩
        · exact .inl h2
        · refine .inr ⟨h2, ?_⟩
          simp [kept, worth]; omega
      have hlen : (kept L').length = min 8 L'.length := by unfold kept; rw [List.length_take, List.length_map]
      rw [items_snoc L' v hL, pfeed_append, h1]
      simp only [pfeed, pstep_semi false g mk N (kept L') (decide (8 < L'.length)) [] hN hP]
      by_cases h8 : 8 ≤ L'.length
      · have e1 : (kept L').length ≥ 8 := by rw [hlen]; omega
        have e2 : kept (L' ++ [v]) = kept L' := by
          unfold kept
          rw [List.map_append, List.take_append_of_le_length (by rw [List.length_map]; exact h8)]
        have e3 : decide (8 < (L' ++ [v]).length) = true := decide_eq_true (by simp; omega)
        rw [if_pos e1, e3, e2]
        have hb : ∀ b ∈ item v, 48 ≤ b ∧ b ≤ 57 := fun b hb => by
          unfold item at hb
          split at hb
          · exact dig_bytes _ b hb
          · cases hb
        have hf := pfeed_full false false mk [] (kept L') hP (item v) hb
        simp only [hf]
        exact ⟨_, _, rfl, .inl rfl, fun e => absurd e hP⟩
      · have e1 : ¬ (kept L').length ≥ 8 := by rw [hlen]; omega
        have e2 : kept (L' ++ [v]) = kept L' ++ [worth v] := by
          unfold kept
          rw [List.map_append, List.take_of_length_le (by simp; omega), List.take_of_length_le (by simp; omega)]; rfl
        have e3 : decide (8 < (L' ++ [v]).length) = false := decide_eq_false (by simp; omega)
        have e4 : decide (8 < L'.length) = false := decide_eq_false (by omega)
        rw [if_neg e1, e3, e4, e2]
        unfold item
        by_cases hv : 0 ≤ v
        · rw [if_pos hv, pfeed_digits false false mk [] (dig _) _ (kept L') (-1) (dig_ne _) (dig_bytes _) (.inl rfl), worth_dig hv]
          exact ⟨_, _, rfl, .inl rfl, fun e => by simp at e⟩
        · rw [if_neg hv]
          have : worth v = -1 := by unfold worth; rw [if_neg hv]
          rw [this]
          exact ⟨_, _, rfl, .inl rfl, fun e => by simp at e⟩
/-- The numbers that a sequence tells. -/
def told (L : List Int) : List Int := if L.length = 1 ∧ L.getD 0 0 < 0 then [] else kept L
theorem items_told (mk : Int) (f : Bool) (L : List Int) {c : Int} (h1 : 64 ≤ c) (h2 : c < 127) : pfeed ⟨2, [], [], false, f, mk, [], false, []⟩ (items L ++ [c]) = (psG, [aCsi mk (told L) [] c]) := by
  by_cases hL : L = []
  · subst hL
    show pfeed ⟨2, [], [], false, f, mk, [], false, []⟩ [c] = _
    simp only [pfeed]
    rw [pstep_final (s := ⟨2, [], [], false, f, mk, [], false, []⟩) rfl h1 h2]; rfl
  · obtain ⟨g, N, e1, e2, e3⟩ := items_state mk f L.length L rfl hL
    have hN : N = told L := by
      unfold told
      rcases e2 with e2 | ⟨e2, v, hv, rfl⟩
      · rw [if_neg, e2]
        rintro ⟨a1, a2⟩
        obtain ⟨v, rfl⟩ := List.length_eq_one_iff.1 a1
        have a2 : v < 0 := a2
        have hw : kept [v] = [-1] := by simp [kept, worth]; omega
        rcases e2 with rfl
        obtain ⟨g1, g2⟩ : True ∧ True := ⟨trivial, trivial⟩
        -- items [v] = []: no number was made
        have : items [v] = [] := by show item v = []; unfold item; rw [if_neg (by omega)]
        rw [this] at e1
        have e1 := (Prod.mk.inj e1).1
        simp only [PS.mk.injEq] at e1
        rw [hw] at e1
        exact absurd e1.2.2.2.2.2.2.1 (by simp)
      · rw [if_pos ⟨rfl, hv⟩, e2]
    rw [pfeed_append, e1]
    simp only [pfeed]
    rw [pstep_final (s := ⟨2, [], [], false, g, mk, N, decide (8 < L.length), []⟩) rfl h1 h2, hN]; rfl
theorem seq_told {s : PS} (h0 : s.st = 0) (hh : s.half = []) (L : List Int) {c : Int} (h1 : 64 ≤ c) (h2 : c < 127) : pfeed s ([27, 91] ++ items L ++ [c]) = (psG, [aCsi 0 (told L) [] c]) := by
  show pfeed s (27 :: 91 :: (items L ++ [c])) = _
  rw [pfeed_csi h0 hh, items_told 0 true L h1 h2]
theorem seq_marked {s : PS} (h0 : s.st = 0) (hh : s.half = []) (L : List Int) {mark : Int} (hm : 60 ≤ mark ∧ mark ≤ 63) {c : Int} (h1 : 64 ≤ c) (h2 : c < 127) : pfeed s ([27, 91, mark] ++ items L ++ [c]) = (psG, [aCsi mark (told L) [] c]) := by
  show pfeed s (27 :: 91 :: (mark :: (items L ++ [c]))) = _
  rw [pfeed_csi h0 hh]
  have e := items_told mark false L h1 h2
  simp only [pfeed, pstep_mark false 0 [] false [] hm.1 hm.2, List.nil_append]
  exact e
theorem item_len (v : Int) : (item v).length ≤ 5 := by
  unfold item
  split
  · exact (dig_len _ (by omega)).2
  · simp
theorem items_len : ∀ L : List Int, (items L).length ≤ 6 * L.length
  | [] => by simp [items]
  | [v] => by have := item_len v; simp only [items, List.length_cons, List.length_nil]; omega
  | v :: w :: r => by
    have h1 := item_len v
    have h2 := items_len (w :: r)
    simp only [items, List.length_append, List.length_cons] at h2 ⊢; omega
theorem item_bytes (v : Int) : ∀ b ∈ item v, 48 ≤ b ∧ b ≤ 57 := fun b hb => by
  unfold item at hb
  split at hb
  · exact dig_bytes _ b hb
  · cases hb
end T13
