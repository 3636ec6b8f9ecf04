/- The parser's plain laws: what was given up is forgotten. -/
import Derived.Test.YtlcobcpgaoeijaaXP13b
namespace T13
open Sx T12
/-- Alike, but for what a parser in ground does not look at. -/
def Rel (s t : PS) : Prop := s = t ∨ (s.st = 0 ∧ t.st = 0 ∧ s.half = t.half)
theorem rel_begin {s t : PS} (h : s.half = t.half) (st : Int) : s.begin st = t.begin st := by
  simp only [PS.begin, h]
theorem flushed_rel {s t : PS} (b : Int) (h0 : s.st = 0) (h1 : t.st = 0) (h : s.half = t.half) : Rel (s.flushed b).1 (t.flushed b).1 ∧ (s.flushed b).2 = (t.flushed b).2 := by
  unfold PS.flushed
  simp only [h0, h1, h, true_and]
  split
  · exact ⟨.inr ⟨rfl, rfl, rfl⟩, rfl⟩
  · exact ⟨.inr ⟨h0, h1, h⟩, rfl⟩
theorem act_rel {s t : PS} (b : Int) (h0 : s.st = 0) (h1 : t.st = 0) (h : s.half = t.half) : Rel (s.act b).1 (t.act b).1 ∧ (s.act b).2 = (t.act b).2 := by
  unfold PS.act
  rw [if_pos h0, if_pos h1]
  split
  · exact ⟨.inr ⟨h0, h1, h⟩, rfl⟩
  split
  · exact ⟨.inr ⟨h0, h1, h⟩, rfl⟩
  · simp only [PS.print, h]
    exact ⟨.inr ⟨h0, h1, rfl⟩, trivial⟩
theorem go_rel {s t : PS} (b : Int) (hr : Rel s t) : Rel (s.go b).1 (t.go b).1 ∧ (s.go b).2 = (t.go b).2 := by
  rcases hr with rfl | ⟨h0, h1, h⟩
  · exact ⟨.inl rfl, rfl⟩
  · unfold PS.go
    split
    · exact ⟨.inl (rel_begin h 0), rfl⟩
    split
    · refine ⟨.inl (rel_begin h 1), ?_⟩
      simp [PS.endA, h0, h1]
    · exact act_rel b h0 h1 h
theorem pstep_rel {s t : PS} (b : Int) (hr : Rel s t) : Rel (pstep s b).1 (pstep t b).1 ∧ (pstep s b).2 = (pstep t b).2 := by
  rcases hr with rfl | ⟨h0, h1, h⟩
  · exact ⟨.inl rfl, rfl⟩
  · obtain ⟨h2, h3⟩ := flushed_rel b h0 h1 h
    obtain ⟨h4, h5⟩ := go_rel b h2
    exact ⟨h4, by show _ ++ _ = _ ++ _; rw [h3, h5]⟩
theorem pfeed_rel {s t : PS} (hr : Rel s t) : ∀ l, Rel (pfeed s l).1 (pfeed t l).1 ∧ (pfeed s l).2 = (pfeed t l).2 := by
  intro l
  induction l generalizing s t with
  | nil => exact ⟨hr, rfl⟩
  | cons b l ih =>
    obtain ⟨h1, h2⟩ := pstep_rel b hr
    obtain ⟨h3, h4⟩ := ih h1
    exact ⟨h3, by simp only [pfeed]; rw [h2, h4]⟩
def psG : PS := ⟨0, [], [], false, true, 0, [], false, []⟩
/-- 24 and 26 give up what there is. -/
theorem pstep_stop {s : PS} (h : s.OK) {b : Int} (hb : b = 24 ∨ b = 26) : (pstep s b).1 = psG := by
  have hh : (s.flushed b).1.half = [] := by
    unfold PS.flushed
    split
    · rfl
    · rename_i hn
      exact h.idle (fun h0 => hn ⟨h0, .inl (by omega)⟩)
  have : (pstep s b).1 = ((s.flushed b).1.go b).1 := rfl
  rw [this]
  unfold PS.go
  rw [if_pos hb]
  simp only [PS.begin, hh]; rfl
theorem mem_print {l : List Int} {x : aty.den} (h : x ∈ l.map aPrint) : x.2.2.2.2.1 = [] := by
  obtain ⟨r, _, rfl⟩ := List.mem_map.1 h; rfl
/-- The numbers of acts are few. -/
theorem endA_nums {s : PS} {x : aty.den} (h : x ∈ s.endA) : x.2.2.2.2.1 = [] := by
  unfold PS.endA at h
  repeat' split at h
  all_goals simp at h
  all_goals subst h
  all_goals rfl
def Eight (l : List aty.den) : Prop := ∀ x ∈ l, x.2.2.2.2.1.length ≤ 8
theorem eight_nil : Eight [] := fun x h => by cases h
theorem eight_none {l : List aty.den} (h : ∀ x ∈ l, x.2.2.2.2.1 = []) : Eight l := fun x hx => by
  have := h x hx
  rw [this]; simp
theorem eight_one {x : aty.den} (h : x.2.2.2.2.1.length ≤ 8) : Eight [x] := fun y hy => by
  simp at hy; subst hy; exact h
theorem finish_eight (s : PS) (b : Int) : Eight (s.finish b).2 := by
  unfold PS.finish
  dsimp only
  repeat' split
  all_goals first
    | exact eight_nil
    | exact eight_one (Nat.zero_le _)
theorem act_eight {s : PS} (h : s.OK) (b : Int) : Eight (s.act b).2 := by
  have hd : Eight (s.dispatch b).2 := by
    unfold PS.dispatch
    dsimp only
    split
    · exact eight_nil
    · exact eight_one h.nums
  have hp : ∀ t : PS, Eight (t.print b).2 := fun t => eight_none fun x hx => mem_print hx
  have he : Eight s.endA := eight_none fun x hx => endA_nums hx
  have hf := finish_eight s b
  unfold PS.act
  repeat' split
  all_goals first
    | exact eight_nil
    | exact hd
    | exact hf
    | exact hp _
    | exact he
    | exact eight_one (Nat.zero_le _)
theorem pstep_eight {s : PS} (h : s.OK) (b : Int) : Eight (pstep s b).2 := by
  have h1 : Eight (s.flushed b).2 := by
    unfold PS.flushed
    repeat' split
    all_goals first
      | exact eight_nil
      | exact eight_one (Nat.zero_le _)
  have hf : (s.flushed b).1.OK := by
    unfold PS.flushed
    split
    · exact ⟨h.st, trivial, fun _ => rfl, h.inter, h.nums, h.text, h.bnd⟩
    · exact h
  have h2 : Eight ((s.flushed b).1.go b).2 := by
    unfold PS.go
    split
    · exact eight_nil
    split
    · exact eight_none fun x hx => endA_nums hx
    · exact act_eight hf b
  intro x hx
  rcases List.mem_append.1 (show x ∈ (s.flushed b).2 ++ ((s.flushed b).1.go b).2 from hx) with h3 | h3
  · exact h1 x h3
  · exact h2 x h3
theorem pfeed_eight {s : PS} (h : s.OK) : ∀ l, Eight (pfeed s l).2 := by
  intro l
  induction l generalizing s with
  | nil => exact eight_nil
  | cons b l ih =>
    intro x hx
    rcases List.mem_append.1 (show x ∈ (pstep s b).2 ++ (pfeed (pstep s b).1 l).2 from hx) with h3 | h3
    · exact pstep_eight h b x h3
    · exact ih (pstep_ok h b) x h3
theorem pstep_plain {s : PS} (h0 : s.st = 0) (hh : s.half = []) {b : Int} (h1 : 32 ≤ b) (h2 : b ≤ 126) : pstep s b = (s, [aPrint b]) := by
  have hf : s.flushed b = (s, []) := by unfold PS.flushed; rw [if_neg (by omega)]
  have hw : wid b = 1 := by unfold wid; rw [if_pos (by omega)]
  have hst : step [] b = ([b], []) := by unfold step step0; dsimp only; rw [if_neg (by omega), if_pos hw]
  show (((s.flushed b).1.go b).1, (s.flushed b).2 ++ ((s.flushed b).1.go b).2) = _
  rw [hf]
  have hg : s.go b = (s, [aPrint b]) := by
    unfold PS.go
    rw [if_neg (by omega), if_neg (by omega)]
    unfold PS.act
    rw [if_pos h0, if_neg (by omega), if_neg (by omega)]
    unfold PS.print
    rw [hh, hst]
    simp only [List.map_cons, List.map_nil]
    rw [← hh]
  rw [hg]; rfl
theorem pfeed_plain {s : PS} (h0 : s.st = 0) (hh : s.half = []) : ∀ l : List Int, (∀ x ∈ l, 32 ≤ x ∧ x ≤ 126) → pfeed s l = (s, l.map aPrint) := by
  intro l
  induction l with
  | nil => intro _; rfl
  | cons b l ih =>
    intro h
    have hb := h b (by simp)
    have hi := ih (fun x hx => h x (by simp [hx]))
    simp only [pfeed]
    rw [pstep_plain h0 hh hb.1 hb.2, hi]; rfl
theorem pfeed_stop {s : PS} (h : s.OK) (l : List Int) {b : Int} (hb : b = 24 ∨ b = 26) (hok : ∀ t : PS, t.OK → ∀ l, (pfeed t l).1.OK) : (pfeed s (l ++ [b])).1 = psG := by
  rw [pfeed_snoc]
  exact pstep_stop (hok s h l) hb
end T13
