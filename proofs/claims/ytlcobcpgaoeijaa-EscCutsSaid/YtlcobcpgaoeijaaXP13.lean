/- The parser of chapter 13, as a plain function. -/
import Derived.Test.YtlcobcpgaoeijaaSxT
import Derived.Test.YtlcobcpgaoeijaaXP12
namespace T13
open Sx T12
@[reducible] def aty : Ty := .pair (.int .i64) (.pair (.int .i32) (.pair (.int .i64) (.pair (.int .i64) (.pair (.imm (.int .i64)) (.pair .str .str)))))
structure PS where
  st : Int
  half : List Int
  inter : List Int
  wrong : Bool
  first : Bool
  mark : Int
  nums : List Int
  full : Bool
  text : List Int
def e0 : ByteArray := ⟨#[]⟩
def aPrint (r : Int) : aty.den := ((1 : Int), r, (0 : Int), (0 : Int), ([] : List Int), e0, e0)
def aControl (b : Int) : aty.den := ((2 : Int), (0 : Int), b, (0 : Int), ([] : List Int), e0, e0)
def aEscape (l : List Int) (b : Int) : aty.den := ((3 : Int), (0 : Int), b, (0 : Int), ([] : List Int), bsOf l, e0)
def aCsi (m : Int) (n l : List Int) (b : Int) : aty.den := ((4 : Int), (0 : Int), b, m, n, bsOf l, e0)
def aOsc (t : List Int) : aty.den := ((5 : Int), (0 : Int), (0 : Int), (0 : Int), ([] : List Int), e0, bsOf t)
def aDcs (t : List Int) : aty.den := ((6 : Int), (0 : Int), (0 : Int), (0 : Int), ([] : List Int), e0, bsOf t)
def PS.begin (s : PS) (st : Int) : PS := { st := st, half := s.half, inter := [], wrong := false, first := true, mark := 0, nums := [], full := false, text := [] }
def PS.endA (s : PS) : List aty.den := if s.st = 3 then [aOsc s.text] else if s.st = 4 then [aDcs s.text] else []
def PS.print (s : PS) (b : Int) : PS × List aty.den := ({ s with half := (step s.half b).2 }, (step s.half b).1.map aPrint)
def PS.inters (s : PS) (b : Int) : PS := if (s.inter.length : Int) ≥ 2 then { s with first := false, wrong := true } else { s with first := false, inter := s.inter ++ [b] }
def PS.finish (s : PS) (b : Int) : PS × List aty.den :=
  let next : Int := if (s.inter.length : Int) = 0 then (if b = 91 then 2 else if b = 93 then 3 else if b = 80 then 4 else 0) else 0
  (s.begin next, if next = 0 ∧ s.wrong = false then [aEscape s.inter b] else [])
def PS.number (s : PS) : PS := if (s.nums.length : Int) = 0 then { s with nums := [-1] } else s
def PS.more (s : PS) : PS := if (s.nums.length : Int) ≥ 8 then { s with full := true } else { s with nums := s.nums ++ [-1] }
def PS.digit (s : PS) (d : Int) : PS :=
  let s1 := s.number
  if s1.full then s1 else { s1 with nums := s1.nums.set (s1.nums.length - 1) (min (max (s1.nums.getD (s1.nums.length - 1) 0) 0 * 10 + d) 9999) }
def PS.param (s : PS) (b : Int) : PS :=
  if (s.inter.length : Int) > 0 ∨ b = 58 ∨ (b > 59 ∧ s.first = false) then { s with first := false, wrong := true }
  else if b > 59 then { s with first := false, mark := b }
  else if b = 59 then ({ s with first := false } : PS).number.more
  else ({ s with first := false } : PS).digit (b - 48)
def PS.dispatch (s : PS) (b : Int) : PS × List aty.den := (s.begin 0, if s.wrong then [] else [aCsi s.mark s.nums s.inter b])
def PS.keep (s : PS) (b : Int) : PS := if (s.text.length : Int) < 60 then { s with text := s.text ++ [b] } else s
def PS.act (s : PS) (b : Int) : PS × List aty.den :=
  if s.st = 0 then (if b < 32 then (s, [aControl b]) else if b = 127 then (s, []) else s.print b)
  else if s.st = 1 then (if b < 32 then (s, [aControl b]) else if b < 48 then (s.inters b, []) else if b < 127 then s.finish b else if b = 127 then (s, []) else (s.begin 0).print b)
  else if s.st = 2 then (if b < 32 then (s, [aControl b]) else if b < 48 then (s.inters b, []) else if b < 64 then (s.param b, []) else if b < 127 then s.dispatch b else if b = 127 then (s, []) else (s.begin 0).print b)
  else if s.st = 3 then (if b < 32 then (if b = 7 then (s.begin 0, s.endA) else (s, [])) else (s.keep b, []))
  else (if b < 32 then (s, []) else (s.keep b, []))
def PS.bell (s : PS) (b : Int) : PS × List aty.den := if b = 7 then (s.begin 0, s.endA) else (s, [])
/-- What is done, by its number. -/
def PS.actW (s : PS) (w b : Int) : PS × List aty.den :=
  if w = 1 then s.print b else if w = 2 then (s, [aControl b]) else if w = 3 then (s.inters b, []) else if w = 4 then s.finish b else if w = 5 then (s.param b, [])
  else if w = 6 then s.dispatch b else if w = 7 then (s.keep b, []) else if w = 8 then s.bell b else if w = 9 then (s.begin 0).print b else (s, [])
def PS.flushed (s : PS) (b : Int) : PS × List aty.den := if s.st = 0 ∧ (b < 32 ∨ b = 127) then ({ s with half := [] }, if s.half = [] then [] else [aPrint 65533]) else (s, [])
def PS.go (s : PS) (b : Int) : PS × List aty.den := if b = 24 ∨ b = 26 then (s.begin 0, []) else if b = 27 then (s.begin 1, s.endA) else s.act b
def pstep (s : PS) (b : Int) : PS × List aty.den := (((s.flushed b).1.go b).1, (s.flushed b).2 ++ ((s.flushed b).1.go b).2)
def pfeed (s : PS) : List Int → PS × List aty.den
  | [] => (s, [])
  | b :: r => ((pfeed (pstep s b).1 r).1, (pstep s b).2 ++ (pfeed (pstep s b).1 r).2)
structure PS.OK (s : PS) : Prop where
  st : 0 ≤ s.st ∧ s.st ≤ 4
  half : Good s.half
  idle : s.st ≠ 0 → s.half = []
  inter : s.inter.length ≤ 2
  nums : s.nums.length ≤ 8
  text : s.text.length ≤ 60
  bnd : ∀ x ∈ s.nums, -1 ≤ x ∧ x ≤ 9999
theorem pfeed_append (s : PS) : ∀ (a b : List Int), pfeed s (a ++ b) = ((pfeed (pfeed s a).1 b).1, (pfeed s a).2 ++ (pfeed (pfeed s a).1 b).2) := by
  intro a
  induction a generalizing s with
  | nil => intro b; simp [pfeed]
  | cons x a ih => intro b; simp [pfeed, ih]
theorem pfeed_snoc (s : PS) (a : List Int) (b : Int) : pfeed s (a ++ [b]) = ((pstep (pfeed s a).1 b).1, (pfeed s a).2 ++ (pstep (pfeed s a).1 b).2) := by
  rw [pfeed_append]; simp [pfeed]
theorem good_nil : Good ([] : List Int) := trivial
theorem PS.begin_ok {s : PS} (h : s.OK) (st : Int) (h1 : 0 ≤ st ∧ st ≤ 4) (h2 : st ≠ 0 → s.half = []) : (s.begin st).OK :=
  ⟨h1, h.half, h2, by simp [PS.begin], by simp [PS.begin], by simp [PS.begin], by simp [PS.begin]⟩
theorem PS.print_ok {s : PS} (h : s.OK) (b : Int) (h0 : s.st = 0) : (s.print b).1.OK :=
  ⟨h.st, good_step b h.half, fun h1 => absurd h0 h1, h.inter, h.nums, h.text, h.bnd⟩
theorem PS.number_ok {s : PS} (h : s.OK) : s.number.OK := by
  unfold PS.number
  split
  · exact ⟨h.st, h.half, h.idle, h.inter, by simp, h.text, fun x hx => by simp at hx; subst hx; omega⟩
  · exact h
theorem PS.number_len (s : PS) : 0 < s.number.nums.length := by
  unfold PS.number
  split
  · simp
  · omega
theorem PS.more_ok {s : PS} (h : s.OK) : s.more.OK := by
  unfold PS.more
  split
  · exact ⟨h.st, h.half, h.idle, h.inter, h.nums, h.text, h.bnd⟩
  · refine ⟨h.st, h.half, h.idle, h.inter, by simp; omega, h.text, fun x hx => ?_⟩
    rcases List.mem_append.1 hx with hx | hx
    · exact h.bnd x hx
    · simp at hx; subst hx; omega
theorem PS.digit_ok {s : PS} (h : s.OK) (d : Int) (hd : 0 ≤ d) : (s.digit d).OK := by
  have h1 := PS.number_ok h
  unfold PS.digit
  dsimp only
  split
  · exact h1
  · refine ⟨h1.st, h1.half, h1.idle, h1.inter, by rw [List.length_set]; exact h1.nums, h1.text, fun x hx => ?_⟩
    rcases List.mem_or_eq_of_mem_set hx with hx | rfl
    · exact h1.bnd x hx
    · omega
theorem PS.param_ok {s : PS} (h : s.OK) (b : Int) (hb : 48 ≤ b) : (s.param b).OK := by
  have hf : ({ s with first := false } : PS).OK := ⟨h.st, h.half, h.idle, h.inter, h.nums, h.text, h.bnd⟩
  unfold PS.param
  split
  · exact ⟨h.st, h.half, h.idle, h.inter, h.nums, h.text, h.bnd⟩
  split
  · exact ⟨h.st, h.half, h.idle, h.inter, h.nums, h.text, h.bnd⟩
  split
  · exact PS.more_ok (PS.number_ok hf)
  · exact PS.digit_ok hf _ (by omega)
theorem PS.inters_ok {s : PS} (h : s.OK) (b : Int) : (s.inters b).OK := by
  unfold PS.inters
  split
  · exact ⟨h.st, h.half, h.idle, h.inter, h.nums, h.text, h.bnd⟩
  · exact ⟨h.st, h.half, h.idle, by simp; omega, h.nums, h.text, h.bnd⟩
theorem PS.keep_ok {s : PS} (h : s.OK) (b : Int) : (s.keep b).OK := by
  unfold PS.keep
  split
  · exact ⟨h.st, h.half, h.idle, h.inter, h.nums, by simp; omega, h.bnd⟩
  · exact h
theorem PS.finish_ok {s : PS} (h : s.OK) (b : Int) (h0 : s.st ≠ 0) : (s.finish b).1.OK := by
  unfold PS.finish
  dsimp only
  refine PS.begin_ok h _ ?_ (fun _ => h.idle h0)
  repeat' split
  all_goals omega
theorem PS.actW_ok {s : PS} (h : s.OK) (w b : Int) (h1 : w = 1 → s.st = 0) (h4 : w = 4 → s.st ≠ 0) (h5 : w = 5 → 48 ≤ b) : (s.actW w b).1.OK := by
  unfold PS.actW
  split
  · rename_i e; exact PS.print_ok h b (h1 e)
  split
  · exact h
  split
  · exact PS.inters_ok h b
  split
  · rename_i e; exact PS.finish_ok h b (h4 e)
  split
  · rename_i e; exact PS.param_ok h b (h5 e)
  split
  · exact PS.begin_ok h 0 (by omega) (fun e => absurd rfl e)
  split
  · exact PS.keep_ok h b
  split
  · unfold PS.bell
    split
    · exact PS.begin_ok h 0 (by omega) (fun e => absurd rfl e)
    · exact h
  split
  · exact PS.print_ok (PS.begin_ok h 0 (by omega) (fun e => absurd rfl e)) b rfl
  · exact h
theorem PS.number_half (s : PS) : s.number.half = s.half := by unfold PS.number; split <;> rfl
theorem PS.more_half (s : PS) : s.more.half = s.half := by unfold PS.more; split <;> rfl
theorem PS.digit_half (s : PS) (d : Int) : (s.digit d).half = s.half := by
  unfold PS.digit
  dsimp only
  split
  · exact PS.number_half s
  · exact PS.number_half s
theorem PS.param_half (s : PS) (b : Int) : (s.param b).half = s.half := by
  unfold PS.param
  split
  · rfl
  split
  · rfl
  split
  · rw [PS.more_half, PS.number_half]
  · rw [PS.digit_half]
theorem PS.inters_half (s : PS) (b : Int) : (s.inters b).half = s.half := by unfold PS.inters; split <;> rfl
theorem PS.keep_half (s : PS) (b : Int) : (s.keep b).half = s.half := by unfold PS.keep; split <;> rfl
theorem PS.actW_half (s : PS) (w b : Int) (h : Good s.half) : Good (s.actW w b).1.half := by
  unfold PS.actW
  split
  · exact good_step b h
  split
  · exact h
  split
  · rw [PS.inters_half]; exact h
  split
  · exact h
  split
  · rw [PS.param_half]; exact h
  split
  · exact h
  split
  · rw [PS.keep_half]; exact h
  split
  · unfold PS.bell; split <;> exact h
  split
  · exact good_step b h
  · exact h
theorem good_bsOf {l : List Int} (h : Good l) : strInts (bsOf l) = l := strInts_bsOf (good_bytes h)
theorem PS.act_half (s : PS) (b : Int) (h : Good s.half) : Good (s.act b).1.half := by
  have hp := good_step b h
  unfold PS.act
  repeat' split
  all_goals first
    | exact h
    | exact hp
    | (rw [PS.inters_half]; exact h)
    | (rw [PS.param_half]; exact h)
    | (rw [PS.keep_half]; exact h)
theorem pstep_half (s : PS) (b : Int) (h : Good s.half) : Good (pstep s b).1.half := by
  have h1 : Good (s.flushed b).1.half := by
    unfold PS.flushed
    split
    · exact trivial
    · exact h
  show Good (((s.flushed b).1.go b).1).half
  unfold PS.go
  split
  · exact h1
  split
  · exact h1
  · exact PS.act_half _ b h1
end T13
