/- A byte keeps the parser's state sound, and tells few acts. -/
import Derived.Test.YtlcobcpgaoeijaaXP13
namespace T13
open Sx T12
theorem PS.act_ok {s : PS} (h : s.OK) (b : Int) : (s.act b).1.OK := by
  unfold PS.act
  split
  · rename_i h0
    repeat' split
    all_goals first
      | exact h
      | exact PS.print_ok h b h0
  split
  · rename_i h1
    have hne : s.st ≠ 0 := by omega
    repeat' split
    all_goals first
      | exact h
      | exact PS.inters_ok h b
      | exact PS.finish_ok h b hne
      | exact PS.print_ok (PS.begin_ok h 0 (by omega) (fun e => absurd rfl e)) b rfl
  split
  · repeat' split
    all_goals first
      | exact h
      | exact PS.inters_ok h b
      | exact PS.param_ok h b (by omega)
      | exact PS.begin_ok h 0 (by omega) (fun e => absurd rfl e)
      | exact PS.print_ok (PS.begin_ok h 0 (by omega) (fun e => absurd rfl e)) b rfl
  split
  · repeat' split
    all_goals first
      | exact h
      | exact PS.keep_ok h b
      | exact PS.begin_ok h 0 (by omega) (fun e => absurd rfl e)
  · repeat' split
    all_goals first
      | exact h
      | exact PS.keep_ok h b
theorem pstep_ok {s : PS} (h : s.OK) (b : Int) : (pstep s b).1.OK := by
  have hf : (s.flushed b).1.OK := by
    unfold PS.flushed
    split
    · rename_i e
      exact ⟨h.st, trivial, fun _ => rfl, h.inter, h.nums, h.text, h.bnd⟩
    · exact h
  have hidle : b = 27 → (s.flushed b).1.half = [] := fun e => by
    unfold PS.flushed
    split
    · rfl
    · rename_i hn
      exact h.idle (fun h0 => hn ⟨h0, .inl (by omega)⟩)
  show (((s.flushed b).1.go b).1).OK
  unfold PS.go
  split
  · exact PS.begin_ok hf 0 (by omega) (fun e => absurd rfl e)
  split
  · rename_i e; exact PS.begin_ok hf 1 (by omega) (fun _ => hidle e)
  · exact PS.act_ok hf b
theorem step_few (h : List Int) (b : Int) : (step h b).1.length ≤ 2 := by
  have := step_len h b
  unfold one at this; omega
theorem PS.endA_few (s : PS) : s.endA.length ≤ 1 := by
  unfold PS.endA
  split
  · simp
  split
  · simp
  · simp
theorem PS.act_few (s : PS) (b : Int) : (s.act b).2.length ≤ 2 := by
  have h1 := step_few s.half b
  have h2 := PS.endA_few s
  unfold PS.act PS.finish PS.dispatch PS.print PS.begin
  repeat' split
  all_goals dsimp only
  all_goals repeat' split
  all_goals first
    | (simp; done)
    | (rw [List.length_map]; exact h1)
    | omega
theorem pstep_few (s : PS) (b : Int) : (pstep s b).2.length ≤ 3 := by
  have h1 : (s.flushed b).2.length ≤ 1 := by unfold PS.flushed; repeat' split; all_goals simp
  have h2 : ((s.flushed b).1.go b).2.length ≤ 2 := by
    have h3 := PS.endA_few (s.flushed b).1
    have h4 := PS.act_few (s.flushed b).1 b
    unfold PS.go
    repeat' split
    all_goals try dsimp only
    all_goals first
      | omega
      | (simp; done)
  show ((s.flushed b).2 ++ ((s.flushed b).1.go b).2).length ≤ 3
  rw [List.length_append]; omega
end T13
