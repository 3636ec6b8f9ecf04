/- Part of a proof: the walks of the functions that the law calls, and their plain laws; no condition. -/
import Derived.Test.YtlcobcpgaoeijaaGreatM9
import Derived.Test.YtlcobcpgaoeijaaGreatM1
set_option linter.unusedVariables false
set_option linter.unusedSimpArgs false
section
namespace T13
open Sx T12
/-- The document's parser: its state. -/
structure RS where
  st : ByteArray
  half : List Int
  inter : ByteArray
  mark : Int
  nums : List Int
  any : Bool
  first : Bool
  wrong : Bool
  body : List Int
def sG : ByteArray := ⟨#[]⟩
def sE : ByteArray := ⟨#[101, 115, 99]⟩
def sC : ByteArray := ⟨#[99, 115, 105]⟩
def sO : ByteArray := ⟨#[111, 115, 99]⟩
def sD : ByteArray := ⟨#[100, 99, 115]⟩
def RS.begin (r : RS) (s : ByteArray) : RS := ⟨s, r.half, e0, 0, [], false, true, false, []⟩
def RS.utf (r : RS) (c : Int) : RS × List aty.den := (⟨r.st, (step r.half c).2, r.inter, r.mark, r.nums, r.any, r.first, r.wrong, r.body⟩, (step r.half c).1.map aPrint)
def RS.inters (r : RS) (c : Int) : RS := if (r.inter.size : Int) ≥ 2 then { r with wrong := true } else { r with inter := r.inter ++ bsOf [c] }
def fl (h : List Int) : List aty.den := if h = [] then [] else [aPrint 65533]
def RS.ground (r : RS) (c : Int) : RS × List aty.den :=
  if c < 32 ∨ c = 127 then
    (if c = 24 ∨ c = 26 then ({ r with half := [] } : RS).begin sG else if c = 27 then ({ r with half := [] } : RS).begin sE else { r with half := [] }, if c = 24 ∨ c = 26 ∨ c = 27 ∨ c = 127 then fl r.half else fl r.half ++ [aControl c])
  else r.utf c
def RS.esc (r : RS) (c : Int) : RS × List aty.den :=
  if c = 24 ∨ c = 26 then (r.begin sG, []) else if c = 27 then (r.begin sE, []) else if c < 32 then (r, [aControl c]) else if c = 127 then (r, []) else if 128 ≤ c then (r.begin sG).utf c
  else if c < 48 then (r.inters c, [])
  else if r.inter.size = 0 ∧ c = 91 then (r.begin sC, []) else if r.inter.size = 0 ∧ c = 93 then (r.begin sO, []) else if r.inter.size = 0 ∧ c = 80 then (r.begin sD, [])
  else (r.begin sG, if r.wrong then [] else [((3 : Int), (0 : Int), c, (0 : Int), ([] : List Int), r.inter, e0)])
def RS.nums1 (r : RS) : List Int := if r.any then r.nums else [-1]
def RS.csi (r : RS) (c : Int) : RS × List aty.den :=
  if c = 24 ∨ c = 26 then (r.begin sG, []) else if c = 27 then (r.begin sE, []) else if c < 32 then (r, [aControl c]) else if c = 127 then (r, []) else if 128 ≤ c then (r.begin sG).utf c
  else if c < 48 then (({ r with first := false } : RS).inters c, [])
  else if (60 ≤ c ∧ c ≤ 63) ∧ r.first = true then ({ r with first := false, mark := c }, [])
  else if (60 ≤ c ∧ c ≤ 63) ∨ c = 58 ∨ (c ≤ 59 ∧ r.inter.size ≠ 0) then ({ r with first := false, wrong := true }, [])
  else if c ≤ 57 then ({ r with first := false, any := true, nums := r.nums1.set (r.nums1.length - 1) (min (max (r.nums1.getD (r.nums1.length - 1) 0) 0 * 10 + (c - 48)) 9999) }, [])
  else if c = 59 then ({ r with first := false, any := true, nums := if (r.nums1.length : Int) ≤ 8 then r.nums1 ++ [-1] else r.nums1 }, [])
  else (r.begin sG, if r.wrong then [] else [((4 : Int), (0 : Int), c, r.mark, r.nums.take (min r.nums.length 8), r.inter, e0)])
def RS.keep (r : RS) (c : Int) : RS := if (r.body.length : Int) < 60 then { r with body := r.body ++ [c] } else r
def RS.osc (r : RS) (c : Int) : RS × List aty.den :=
  if c = 24 ∨ c = 26 then (r.begin sG, []) else if c = 27 then (r.begin sE, [aOsc r.body]) else if c < 32 then (if c = 7 then (r.begin sG, [aOsc r.body]) else (r, [])) else (r.keep c, [])
def RS.dcs (r : RS) (c : Int) : RS × List aty.den :=
  if c = 24 ∨ c = 26 then (r.begin sG, []) else if c = 27 then (r.begin sE, [aDcs r.body]) else if c < 32 then (r, []) else (r.keep c, [])
end T13
end
section
namespace T13
open Sx T12
theorem good2_step {B : List Int} {x : Int} (hg : Good2 B) (hx : Byte x) : Good2 (step B x).2 := by
  have first : Good2 (step [] x).2 := by
    rw [step_first']
    by_cases h1 : (rmay [x]).1 = true
    · rw [if_pos h1]
      by_cases h2 : (rmay [x]).2 = true
      · rw [if_pos h2]; trivial
      · rw [if_neg h2]; exact good2_first h1 (by simpa using h2)
    · rw [if_neg h1]; trivial
  by_cases hB : B = []
  · subst hB; exact first
  · obtain ⟨s1, s2, s3⟩ := step_next hg hB hx
    cases h1 : (rmay (B ++ [x])).1 with
    | false => rw [s3 h1]; exact first
    | true => cases h2 : (rmay (B ++ [x])).2 with
      | true => rw [(s1 ⟨h1, h2⟩).2]; trivial
      | false => obtain ⟨a, b⟩ := s2 ⟨h1, h2⟩; rw [b]; exact a
/-- The numbers of a sequence, as both keep them. -/
structure Nums (p : PS) (r : RS) : Prop where
  le : r.nums.length ≤ 9
  none : p.nums = [] → r.any = false ∧ r.nums = [] ∧ p.full = false
  some : p.nums ≠ [] → r.any = true ∧ p.nums = r.nums.take 8 ∧ (p.full = true → r.nums.length = 9) ∧ (p.full = false → r.nums.length ≤ 8)
  bnd : ∀ x ∈ r.nums, -1 ≤ x ∧ x ≤ 9999
/-- Both parsers have read the same. -/
structure Doc (p : PS) (r : RS) : Prop where
  ok : p.OK
  half : r.half = p.half
  good : Good2 p.half
  g : p.st = 0 → r.st = sG
  e : p.st = 1 → r.st = sE ∧ r.inter = bsOf p.inter ∧ r.wrong = p.wrong
  c : p.st = 2 → r.st = sC ∧ (r.inter = bsOf p.inter ∧ r.wrong = p.wrong) ∧ r.mark = p.mark ∧ r.first = p.first ∧ (p.first = true → p.inter = []) ∧ Nums p r
  o : p.st = 3 → r.st = sO ∧ r.body = p.text
  d : p.st = 4 → r.st = sD ∧ r.body = p.text
def RS.step (st : Int) (r : RS) (c : Int) : RS × List aty.den := if st = 0 then r.ground c else if st = 1 then r.esc c else if st = 2 then r.csi c else if st = 3 then r.osc c else r.dcs c
def stS (st : Int) : ByteArray := if st = 0 then sG else if st = 1 then sE else if st = 2 then sC else if st = 3 then sO else sD
theorem nums_nil {p : PS} {r : RS} (h1 : p.nums = []) (h2 : r.nums = []) (h3 : r.any = false) (h4 : p.full = false) : Nums p r :=
  ⟨by rw [h2]; simp, fun _ => ⟨h3, h2, h4⟩, fun h => absurd h1 h, fun x hx => by rw [h2] at hx; cases hx⟩
/-- Where something new begins. -/
theorem doc_begin {p : PS} {r : RS} (h : Doc p r) (st : Int) (h1 : 0 ≤ st ∧ st ≤ 4) (h2 : st ≠ 0 → p.half = []) : Doc (p.begin st) (r.begin (stS st)) := by
  refine ⟨PS.begin_ok h.ok st h1 h2, h.half, h.good, fun e => ?_, fun e => ?_, fun e => ?_, fun e => ?_, fun e => ?_⟩
  all_goals (have e : st = _ := e; subst e)
  · rfl
  · exact ⟨rfl, rfl, rfl⟩
  · exact ⟨rfl, ⟨rfl, rfl⟩, rfl, rfl, fun _ => rfl, nums_nil rfl rfl rfl rfl⟩
  · exact ⟨rfl, rfl⟩
  · exact ⟨rfl, rfl⟩
/-- Runes, at ground. -/
theorem doc_utf {p : PS} {r : RS} (h : Doc p r) (h0 : p.st = 0) {b : Int} (hb : Byte b) : (p.print b).2 = (r.utf b).2 ∧ Doc (p.print b).1 (r.utf b).1 := by
  have hh : (r.utf b).2 = (T12.step p.half b).1.map aPrint := by unfold RS.utf; rw [h.half]
  refine ⟨by rw [hh]; rfl, PS.print_ok h.ok b h0, ?_, good2_step h.good hb, fun _ => h.g h0, fun e => ?_, fun e => ?_, fun e => ?_, fun e => ?_⟩
  · show (T12.step r.half b).2 = (T12.step p.half b).2
    rw [h.half]
  all_goals (have e : p.st = _ := e; omega)
theorem go_begin {p : PS} {b : Int} (h : b = 24 ∨ b = 26) : p.go b = (p.begin 0, []) := by unfold PS.go; rw [if_pos h]
theorem go_esc {p : PS} {b : Int} (h : b = 27) : p.go b = (p.begin 1, p.endA) := by unfold PS.go; rw [if_neg (by omega), if_pos h]
theorem go_act {p : PS} {b : Int} (h : ¬ (b = 24 ∨ b = 26)) (h2 : ¬ b = 27) : p.go b = p.act b := by unfold PS.go; rw [if_neg h, if_neg h2]
theorem step_go {p : PS} {b : Int} (h : p.st ≠ 0) : pstep p b = p.go b := by
  have : p.flushed b = (p, []) := by unfold PS.flushed; rw [if_neg (fun e => h e.1)]
  unfold pstep
  rw [this]
  simp
theorem doc_osc {p : PS} {r : RS} (h : Doc p r) (h3 : p.st = 3) {b : Int} (hb : Byte b) : (pstep p b).2 = (r.osc b).2 ∧ Doc (pstep p b).1 (r.osc b).1 := by
  obtain ⟨hs, hbo⟩ := h.o h3
  rw [step_go (by omega)]
  have hid := h.ok.idle (by omega)
  have hend : p.endA = [aOsc r.body] := by unfold PS.endA; rw [if_pos h3, hbo]
  unfold RS.osc
  by_cases h1 : b = 24 ∨ b = 26
  · rw [go_begin h1, if_pos h1]
    exact ⟨rfl, doc_begin h 0 (by omega) (fun e => absurd rfl e)⟩
  rw [if_neg h1]
  by_cases h2 : b = 27
  · rw [go_esc h2, if_pos h2]
    exact ⟨hend, doc_begin h 1 (by omega) (fun _ => hid)⟩
  rw [go_act h1 h2, if_neg h2]
  unfold PS.act
  rw [if_neg (by omega), if_neg (by omega), if_neg (by omega), if_pos h3]
  by_cases h32 : b < 32
  · rw [if_pos h32, if_pos h32]
    by_cases h7 : b = 7
    · rw [if_pos h7, if_pos h7]
      exact ⟨hend, doc_begin h 0 (by omega) (fun e => absurd rfl e)⟩
    · rw [if_neg h7, if_neg h7]
      exact ⟨rfl, h⟩
  · rw [if_neg h32, if_neg h32]
    refine ⟨rfl, ?_⟩
    unfold PS.keep RS.keep
    rw [hbo]
    split
    · exact ⟨by have := PS.keep_ok h.ok b; unfold PS.keep at this; rw [if_pos (by assumption)] at this; exact this, h.half, h.good, fun e => absurd (show p.st = 0 from e) (by omega), fun e => absurd (show p.st = 1 from e) (by omega), fun e => absurd (show p.st = 2 from e) (by omega), fun _ => ⟨hs, by rfl⟩, fun e => absurd (show p.st = 4 from e) (by omega)⟩
    · exact h
theorem doc_dcs {p : PS} {r : RS} (h : Doc p r) (h3 : p.st = 4) {b : Int} (hb : Byte b) : (pstep p b).2 = (r.dcs b).2 ∧ Doc (pstep p b).1 (r.dcs b).1 := by
  obtain ⟨hs, hbo⟩ := h.d h3
  rw [step_go (by omega)]
  have hid := h.ok.idle (by omega)
  have hend : p.endA = [aDcs r.body] := by unfold PS.endA; rw [if_neg (by omega), if_pos h3, hbo]
  unfold RS.dcs
  by_cases h1 : b = 24 ∨ b = 26
  · rw [go_begin h1, if_pos h1]
    exact ⟨rfl, doc_begin h 0 (by omega) (fun e => absurd rfl e)⟩
  rw [if_neg h1]
  by_cases h2 : b = 27
  · rw [go_esc h2, if_pos h2]
    exact ⟨hend, doc_begin h 1 (by omega) (fun _ => hid)⟩
  rw [go_act h1 h2, if_neg h2]
  unfold PS.act
  rw [if_neg (by omega), if_neg (by omega), if_neg (by omega), if_neg (by omega)]
  by_cases h32 : b < 32
  · rw [if_pos h32, if_pos h32]
    exact ⟨rfl, h⟩
  · rw [if_neg h32, if_neg h32]
    refine ⟨rfl, ?_⟩
    unfold PS.keep RS.keep
    rw [hbo]
    split
    · exact ⟨by have := PS.keep_ok h.ok b; unfold PS.keep at this; rw [if_pos (by assumption)] at this; exact this, h.half, h.good, fun e => absurd (show p.st = 0 from e) (by omega), fun e => absurd (show p.st = 1 from e) (by omega), fun e => absurd (show p.st = 2 from e) (by omega), fun e => absurd (show p.st = 3 from e) (by omega), fun _ => ⟨hs, by rfl⟩⟩
    · exact h
theorem doc_ground {p : PS} {r : RS} (h : Doc p r) (h0 : p.st = 0) {b : Int} (hb : Byte b) : (pstep p b).2 = (r.ground b).2 ∧ Doc (pstep p b).1 (r.ground b).1 := by
  have hs := h.g h0
  unfold RS.ground
  by_cases hc : b < 32 ∨ b = 127
  · rw [if_pos hc]
    have hf : p.flushed b = ({ p with half := [] }, fl p.half) := by unfold PS.flushed; rw [if_pos ⟨h0, hc⟩]; rfl
    have hd : Doc ({ p with half := [] } : PS) ({ r with half := [] } : RS) :=
      ⟨⟨h.ok.st, trivial, fun _ => rfl, h.ok.inter, h.ok.nums, h.ok.text, h.ok.bnd⟩, rfl, trivial, fun _ => hs, fun e => absurd (show p.st = 1 from e) (by omega), fun e => absurd (show p.st = 2 from e) (by omega), fun e => absurd (show p.st = 3 from e) (by omega), fun e => absurd (show p.st = 4 from e) (by omega)⟩
    unfold pstep
    rw [hf, h.half]
    have hend : ({ p with half := [] } : PS).endA = [] := by unfold PS.endA; rw [if_neg (by show ¬ p.st = 3; omega), if_neg (by show ¬ p.st = 4; omega)]
    by_cases h1 : b = 24 ∨ b = 26
    · simp only [go_begin h1, if_pos h1]
      rw [if_pos (by omega)]
      exact ⟨by simp, doc_begin hd 0 (by omega) (fun e => absurd rfl e)⟩
    simp only [if_neg h1]
    by_cases h2 : b = 27
    · simp only [go_esc h2, if_pos h2, hend]
      rw [if_pos (by omega)]
      exact ⟨by simp, doc_begin hd 1 (by omega) (fun _ => rfl)⟩
    simp only [go_act h1 h2, if_neg h2]
    unfold PS.act
    rw [if_pos (show ({ p with half := [] } : PS).st = 0 from h0)]
    by_cases h32 : b < 32
    · rw [if_pos h32, if_neg (by omega)]
      exact ⟨rfl, hd⟩
    · rw [if_neg h32, if_pos (by omega : b = 127), if_pos (by omega)]
      exact ⟨by simp, hd⟩
  · rw [if_neg hc]
    have hf : p.flushed b = (p, []) := by unfold PS.flushed; rw [if_neg (fun e => hc e.2)]
    unfold pstep
    rw [hf]
    simp only [go_act (p := p) (b := b) (by omega) (by omega), List.nil_append]
    unfold PS.act
    rw [if_pos h0, if_neg (by omega), if_neg (by omega)]
    exact doc_utf h h0 hb
theorem size_bsOf {l : List Int} : (bsOf l).size = l.length := bsOf_size l
theorem doc_esc {p : PS} {r : RS} (h : Doc p r) (h3 : p.st = 1) {b : Int} (hb : Byte b) : (pstep p b).2 = (r.esc b).2 ∧ Doc (pstep p b).1 (r.esc b).1 := by
  obtain ⟨hs, hi, hw⟩ := h.e h3
  rw [step_go (by omega)]
  have hid := h.ok.idle (by omega)
  have hend : p.endA = [] := by unfold PS.endA; rw [if_neg (by omega), if_neg (by omega)]
  have hsz : r.inter.size = p.inter.length := by rw [hi, size_bsOf]
  unfold RS.esc
  by_cases h1 : b = 24 ∨ b = 26
  · rw [go_begin h1, if_pos h1]
    exact ⟨rfl, doc_begin h 0 (by omega) (fun e => absurd rfl e)⟩
  rw [if_neg h1]
  by_cases h2 : b = 27
  · rw [go_esc h2, if_pos h2]
    exact ⟨hend, doc_begin h 1 (by omega) (fun _ => hid)⟩
  rw [go_act h1 h2, if_neg h2]
  unfold PS.act
  rw [if_neg (by omega), if_pos h3]
  by_cases h32 : b < 32
  · rw [if_pos h32, if_pos h32]; exact ⟨rfl, h⟩
  rw [if_neg h32, if_neg h32]
  by_cases h127 : b = 127
  · rw [if_neg (by omega), if_neg (by omega), if_pos h127, if_pos h127]; exact ⟨rfl, h⟩
  rw [if_neg h127, if_neg h127]
  by_cases h128 : 128 ≤ b
  · rw [if_neg (by omega), if_neg (by omega), if_pos h128]
    exact doc_utf (doc_begin h 0 (by omega) (fun e => absurd rfl e)) rfl hb
  rw [if_neg h128]
  by_cases h48 : b < 48
  · rw [if_pos h48, if_pos h48]
    refine ⟨rfl, ?_⟩
    have hok := PS.inters_ok h.ok b
    unfold PS.inters at hok ⊢
    unfold RS.inters
    rw [hsz]
    split
    · rename_i h2
      rw [if_pos h2] at hok
      exact ⟨hok, h.half, h.good, fun e => absurd (show p.st = 0 from e) (by omega), fun _ => ⟨hs, hi, rfl⟩, fun e => absurd (show p.st = 2 from e) (by omega), fun e => absurd (show p.st = 3 from e) (by omega), fun e => absurd (show p.st = 4 from e) (by omega)⟩
    · rename_i h2
      rw [if_neg h2] at hok
      exact ⟨hok, h.half, h.good, fun e => absurd (show p.st = 0 from e) (by omega), fun _ => ⟨hs, by show r.inter ++ bsOf [b] = bsOf (p.inter ++ [b]); rw [hi, bsOf_append], hw⟩, fun e => absurd (show p.st = 2 from e) (by omega), fun e => absurd (show p.st = 3 from e) (by omega), fun e => absurd (show p.st = 4 from e) (by omega)⟩
  rw [if_neg h48, if_neg h48, if_pos (by omega)]
  unfold PS.finish
  rw [hsz]
  by_cases hn : p.inter.length = 0
  · have hn' : (p.inter.length : Int) = 0 := by omega
    simp only [if_pos hn', hn, true_and]
    by_cases h91 : b = 91
    · simp only [if_pos h91]
      exact ⟨by rw [if_neg (by omega)], doc_begin h 2 (by omega) (fun _ => hid)⟩
    simp only [if_neg h91]
    by_cases h93 : b = 93
    · simp only [if_pos h93]
      exact ⟨by rw [if_neg (by omega)], doc_begin h 3 (by omega) (fun _ => hid)⟩
    simp only [if_neg h93]
    by_cases h80 : b = 80
    · simp only [if_pos h80]
      exact ⟨by rw [if_neg (by omega)], doc_begin h 4 (by omega) (fun _ => hid)⟩
    simp only [if_neg h80]
    refine ⟨?_, doc_begin h 0 (by omega) (fun e => absurd rfl e)⟩
    rw [hw]
    cases p.wrong
    · simp [aEscape, hi]
    · simp
  · have hn' : ¬ (p.inter.length : Int) = 0 := by omega
    simp only [if_neg hn', hn, false_and, if_false]
    refine ⟨?_, doc_begin h 0 (by omega) (fun e => absurd rfl e)⟩
    rw [hw]
    cases p.wrong
    · simp [aEscape, hi]
    · simp
end T13
end
section
namespace T13
open Sx T12
theorem take8 {l : List Int} (h : l.length ≤ 8) : l.take 8 = l := List.take_of_length_le h
theorem nums_full {p : PS} {r : RS} (h : Nums p r) (h0 : p.nums ≠ []) (hf : p.full = false) : p.nums = r.nums := by
  obtain ⟨_, h2, _, h4⟩ := h.some h0
  rw [h2, take8 (h4 hf)]
theorem clamp {x d : Int} (hd : 0 ≤ d) : -1 ≤ min (max x 0 * 10 + d) 9999 ∧ min (max x 0 * 10 + d) 9999 ≤ 9999 := by
  have : 0 ≤ max x 0 := by omega
  omega
/-- A digit. -/
theorem nums_digit {p : PS} {r : RS} (h : Nums p r) {d : Int} (hd : 0 ≤ d) (q : PS) (hq : q.nums = p.nums) (hqf : q.full = p.full) (s : RS)
    (hs : s.nums = r.nums1.set (r.nums1.length - 1) (min (max (r.nums1.getD (r.nums1.length - 1) 0) 0 * 10 + d) 9999)) (ha : s.any = true) : Nums (q.digit d) s := by
  have hset : ∀ (l : List Int) (i : Nat) (y : Int), (∀ x ∈ l, -1 ≤ x ∧ x ≤ 9999) → (-1 ≤ y ∧ y ≤ 9999) → ∀ x ∈ l.set i y, -1 ≤ x ∧ x ≤ 9999 := fun l i y h1 h2 x hx => by
    rcases List.mem_or_eq_of_mem_set hx with h | h
    · exact h1 x h
    · rw [h]; exact h2
  by_cases h0 : p.nums = []
  · obtain ⟨a1, a2, a3⟩ := h.none h0
    have e1 : r.nums1 = [-1] := by unfold RS.nums1; rw [a1]; rfl
    have e2 : q.number = { q with nums := [-1] } := by unfold PS.number; rw [hq, h0]; exact if_pos (by simp)
    have e3 : q.digit d = { q with nums := s.nums } := by
      unfold PS.digit
      rw [e2]
      simp only [hqf, a3]
      rw [hs, e1]
      simp
    have e4 : s.nums = [min (max (-1) 0 * 10 + d) 9999] := by rw [hs, e1]; rfl
    rw [e3]
    refine ⟨by rw [e4]; simp, fun e => ?_, fun _ => ⟨ha, by rw [take8 (by rw [e4]; simp)], fun e => ?_, fun _ => by rw [e4]; simp⟩, fun x hx => ?_⟩
    · have : s.nums = [] := e
      rw [e4] at this; cases this
    · have : q.full = true := e
      rw [hqf, a3] at this; cases this
    · rw [e4] at hx
      have : x = _ := List.mem_singleton.1 hx
      rw [this]; exact clamp hd
  · obtain ⟨a1, a2, a3, a4⟩ := h.some h0
    have e1 : r.nums1 = r.nums := by unfold RS.nums1; rw [a1]; rfl
    have hlen : 0 < p.nums.length := List.length_pos_iff.2 h0
    have e2 : q.number = q := by unfold PS.number; rw [hq, if_neg (by omega)]
    rw [e1] at hs
    have hb : ∀ x ∈ s.nums, -1 ≤ x ∧ x ≤ 9999 := by rw [hs]; exact hset _ _ _ h.bnd (clamp hd)
    have hl : s.nums.length = r.nums.length := by rw [hs, List.length_set]
    cases hf : p.full with
    | true =>
      have e3 : q.digit d = q := by unfold PS.digit; rw [e2]; simp [hqf, hf]
      have h9 := a3 hf
      rw [e3]
      refine ⟨by rw [hl]; exact h.le, fun e => absurd (hq ▸ e) h0, fun _ => ⟨ha, ?_, fun _ => by rw [hl]; exact h9, fun e => by rw [hqf, hf] at e; cases e⟩, hb⟩
      rw [hq, a2, hs, h9, List.take_set_of_le (by omega)]
    | false =>
      have h8 := a4 hf
      have hn := nums_full h h0 hf
      have e3 : q.digit d = { q with nums := s.nums } := by
        unfold PS.digit
        rw [e2]
        simp only [hqf, hf, hq, hn, hs]
        rfl
      rw [e3]
      refine ⟨by rw [hl]; exact h.le, fun e => ?_, fun _ => ⟨ha, by rw [take8 (by rw [hl]; exact h8)], fun e => ?_, fun _ => by rw [hl]; exact h8⟩, hb⟩
      · have e : s.nums = [] := e
        have : s.nums.length = 0 := by rw [e]; rfl
        rw [hl, ← hn] at this; omega
      · have : q.full = true := e
        rw [hqf, hf] at this; cases this
/-- A parting byte. -/
theorem nums_more {p : PS} {r : RS} (h : Nums p r) (q : PS) (hq : q.nums = p.nums) (hqf : q.full = p.full) (s : RS)
    (hs : s.nums = if (r.nums1.length : Int) ≤ 8 then r.nums1 ++ [-1] else r.nums1) (ha : s.any = true) : Nums q.number.more s := by
  have happ : ∀ (l : List Int), (∀ x ∈ l, -1 ≤ x ∧ x ≤ 9999) → ∀ x ∈ l ++ [-1], -1 ≤ x ∧ x ≤ 9999 := fun l h1 x hx => by
    rcases List.mem_append.1 hx with h | h
    · exact h1 x h
    · have : x = -1 := by simpa using h
      rw [this]; omega
  by_cases h0 : p.nums = []
  · obtain ⟨a1, a2, a3⟩ := h.none h0
    have e1 : r.nums1 = [-1] := by unfold RS.nums1; rw [a1]; rfl
    have e2 : q.number = { q with nums := [-1] } := by unfold PS.number; rw [hq, h0]; exact if_pos (by simp)
    have e3 : q.number.more = { q with nums := [-1, -1] } := by rw [e2]; rfl
    have e4 : s.nums = [-1, -1] := by rw [hs, e1]; rfl
    rw [e3]
    refine ⟨by rw [e4]; simp, fun e => ?_, fun _ => ⟨ha, by rw [e4]; rfl, fun e => ?_, fun _ => by rw [e4]; simp⟩, fun x hx => ?_⟩
    · cases e
    · have : q.full = true := e
      rw [hqf, a3] at this; cases this
    · rw [e4] at hx
      have : x = -1 := by simpa using hx
      rw [this]; omega
  · obtain ⟨a1, a2, a3, a4⟩ := h.some h0
    have e1 : r.nums1 = r.nums := by unfold RS.nums1; rw [a1]; rfl
    have hlen : 0 < p.nums.length := List.length_pos_iff.2 h0
    have e2 : q.number = q := by unfold PS.number; rw [hq, if_neg (by omega)]
    rw [e1] at hs
    rw [e2]
    have hp8 : p.nums.length = min 8 r.nums.length := by rw [a2, List.length_take]
    unfold PS.more
    cases hf : p.full with
    | true =>
      have h9 := a3 hf
      rw [if_pos (by rw [hq]; omega)]
      have hs : s.nums = r.nums := by rw [hs, if_neg (by omega)]
      refine ⟨by rw [hs]; exact h.le, fun e => absurd (hq ▸ e) h0, fun _ => ⟨ha, ?_, fun _ => by rw [hs]; exact h9, fun e => by cases e⟩, by rw [hs]; exact h.bnd⟩
      show q.nums = _
      rw [hq, a2, hs]
    | false =>
      have h8 := a4 hf
      have hn := nums_full h h0 hf
      have hs : s.nums = r.nums ++ [-1] := by rw [hs, if_pos (by omega)]
      have hl : s.nums.length = r.nums.length + 1 := by rw [hs, List.length_append]; rfl
      by_cases h7 : (q.nums.length : Int) ≥ 8
      · rw [if_pos h7]
        rw [hq] at h7
        refine ⟨by omega, fun e => absurd (hq ▸ e) h0, fun _ => ⟨ha, ?_, fun _ => by omega, fun e => by cases e⟩, by rw [hs]; exact happ _ h.bnd⟩
        show q.nums = _
        rw [hq, hs, List.take_append_of_le_length (by omega), ← a2]
      · rw [if_neg h7]
        rw [hq] at h7
        refine ⟨by omega, fun e => ?_, fun _ => ⟨ha, ?_, fun e => ?_, fun _ => by omega⟩, by rw [hs]; exact happ _ h.bnd⟩
        · have : q.nums ++ [-1] = [] := e
          simp at this
        · show q.nums ++ [-1] = _
          rw [take8 (by omega), hq, hs, hn]
        · have : q.full = true := e
          rw [hqf, hf] at this; cases this
theorem number_rest (s : PS) : s.number.st = s.st ∧ s.number.inter = s.inter ∧ s.number.wrong = s.wrong ∧ s.number.first = s.first ∧ s.number.mark = s.mark ∧ s.number.half = s.half := by
  unfold PS.number; split <;> exact ⟨rfl, rfl, rfl, rfl, rfl, rfl⟩
theorem more_rest (s : PS) : s.more.st = s.st ∧ s.more.inter = s.inter ∧ s.more.wrong = s.wrong ∧ s.more.first = s.first ∧ s.more.mark = s.mark ∧ s.more.half = s.half := by
  unfold PS.more; split <;> exact ⟨rfl, rfl, rfl, rfl, rfl, rfl⟩
theorem digit_rest (s : PS) (d : Int) : (s.digit d).st = s.st ∧ (s.digit d).inter = s.inter ∧ (s.digit d).wrong = s.wrong ∧ (s.digit d).first = s.first ∧ (s.digit d).mark = s.mark ∧ (s.digit d).half = s.half := by
  have := number_rest s
  unfold PS.digit
  dsimp only
  split
  · exact this
  · exact this
theorem doc_csi {p : PS} {r : RS} (h : Doc p r) (h3 : p.st = 2) {b : Int} (hb : Byte b) : (pstep p b).2 = (r.csi b).2 ∧ Doc (pstep p b).1 (r.csi b).1 := by
  obtain ⟨hs, ⟨hi, hw⟩, hm, hf, hfi, hn⟩ := h.c h3
  rw [step_go (by omega)]
  have hid := h.ok.idle (by omega)
  have hend : p.endA = [] := by unfold PS.endA; rw [if_neg (by omega), if_neg (by omega)]
  have hsz : r.inter.size = p.inter.length := by rw [hi, size_bsOf]
  -- what stays a sequence
  have mk : ∀ (q : PS) (s : RS), q.OK → q.half = p.half → s.half = r.half → q.st = 2 → s.st = r.st → s.inter = bsOf q.inter → s.wrong = q.wrong → s.mark = q.mark → s.first = q.first → (q.first = true → q.inter = []) → Nums q s → Doc q s := fun q s k0 k1 k2 k3 k4 k5 k6 k7 k8 k9 k10 =>
    ⟨k0, by rw [k2, k1]; exact h.half, by rw [k1]; exact h.good, fun e => by omega, fun e => by omega, fun _ => ⟨by rw [k4]; exact hs, ⟨k5, k6⟩, k7, k8, k9, k10⟩, fun e => by omega, fun e => by omega⟩
  unfold RS.csi
  by_cases h1 : b = 24 ∨ b = 26
  · rw [go_begin h1, if_pos h1]
    exact ⟨rfl, doc_begin h 0 (by omega) (fun e => absurd rfl e)⟩
  rw [if_neg h1]
  by_cases h2 : b = 27
  · rw [go_esc h2, if_pos h2]
    exact ⟨hend, doc_begin h 1 (by omega) (fun _ => hid)⟩
  rw [go_act h1 h2, if_neg h2]
  unfold PS.act
  rw [if_neg (by omega), if_neg (by omega), if_pos h3]
  by_cases h32 : b < 32
  · rw [if_pos h32, if_pos h32]; exact ⟨rfl, h⟩
  rw [if_neg h32, if_neg h32]
  by_cases h127 : b = 127
  · rw [if_neg (by omega), if_neg (by omega), if_neg (by omega), if_pos h127, if_pos h127]; exact ⟨rfl, h⟩
  rw [if_neg h127, if_neg h127]
  by_cases h128 : 128 ≤ b
  · rw [if_neg (by omega), if_neg (by omega), if_neg (by omega), if_pos h128]
    exact doc_utf (doc_begin h 0 (by omega) (fun e => absurd rfl e)) rfl hb
  rw [if_neg h128]
  by_cases h48 : b < 48
  · rw [if_pos h48, if_pos h48]
    refine ⟨rfl, ?_⟩
    have hok := PS.inters_ok h.ok b
    have hn2 : ∀ (q : PS) (s : RS), q.nums = p.nums → q.full = p.full → s.nums = r.nums → s.any = r.any → Nums q s := fun q s k1 k2 k3 k4 => ⟨by rw [k3]; exact hn.le, by rw [k1, k2, k3, k4]; exact hn.none, by rw [k1, k2, k3, k4]; exact hn.some, by rw [k3]; exact hn.bnd⟩
    unfold PS.inters at hok ⊢
    unfold RS.inters
    show Doc _ (if (r.inter.size : Int) ≥ 2 then _ else _)
    rw [hsz]
    split
    · rename_i h2
      rw [if_pos h2] at hok
      exact mk _ _ hok rfl rfl h3 rfl hi rfl hm rfl (fun e => by cases e) (hn2 _ _ rfl rfl rfl rfl)
    · rename_i h2
      rw [if_neg h2] at hok
      exact mk _ _ hok rfl rfl h3 rfl (by show r.inter ++ bsOf [b] = bsOf (p.inter ++ [b]); rw [hi, bsOf_append]) hw hm rfl (fun e => by cases e) (hn2 _ _ rfl rfl rfl rfl)
  rw [if_neg h48, if_neg h48]
  by_cases h64 : b < 64
  · rw [if_pos h64]
    have hok := PS.param_ok h.ok b (by omega)
    have hn2 : ∀ (q : PS) (s : RS), q.nums = p.nums → q.full = p.full → s.nums = r.nums → s.any = r.any → Nums q s := fun q s k1 k2 k3 k4 => ⟨by rw [k3]; exact hn.le, by rw [k1, k2, k3, k4]; exact hn.none, by rw [k1, k2, k3, k4]; exact hn.some, by rw [k3]; exact hn.bnd⟩
    unfold PS.param at hok ⊢
    by_cases hA : (p.inter.length : Int) > 0 ∨ b = 58 ∨ (b > 59 ∧ p.first = false)
    · rw [if_pos hA] at hok ⊢
      have c1 : ¬ ((60 ≤ b ∧ b ≤ 63) ∧ r.first = true) := fun ⟨e1, e2⟩ => by
        rw [hf] at e2
        have := hfi e2
        rw [this] at hA
        simp [e2] at hA
        omega
      have c2 : (60 ≤ b ∧ b ≤ 63) ∨ b = 58 ∨ (b ≤ 59 ∧ r.inter.size ≠ 0) := by rw [hsz]; omega
      rw [if_neg c1, if_pos c2]
      exact ⟨rfl, mk _ _ hok rfl rfl h3 rfl hi rfl hm rfl (fun e => by cases e) (hn2 _ _ rfl rfl rfl rfl)⟩
    rw [if_neg hA] at hok ⊢
    by_cases h59 : b > 59
    · rw [if_pos h59] at hok ⊢
      have hfirst : p.first = true := by
        cases hpf : p.first with
        | true => rfl
        | false => exact absurd (.inr (.inr ⟨h59, hpf⟩)) hA
      rw [if_pos ⟨⟨by omega, by omega⟩, by rw [hf]; exact hfirst⟩]
      exact ⟨rfl, mk _ _ hok rfl rfl h3 rfl hi hw rfl rfl (fun e => by cases e) (hn2 _ _ rfl rfl rfl rfl)⟩
    rw [if_neg h59] at hok ⊢
    have hi0 : p.inter.length = 0 := by omega
    rw [if_neg (show ¬ ((60 ≤ b ∧ b ≤ 63) ∧ r.first = true) from fun e => by omega), if_neg (show ¬ ((60 ≤ b ∧ b ≤ 63) ∨ b = 58 ∨ (b ≤ 59 ∧ r.inter.size ≠ 0)) by rw [hsz]; omega)]
    by_cases h59 : b = 59
    · rw [if_pos h59] at hok ⊢
      rw [if_neg (show ¬ b ≤ 57 by omega), if_pos h59]
      obtain ⟨a1, a2, a3, a4, a5, a6⟩ := number_rest ({ p with first := false } : PS)
      obtain ⟨b1, b2, b3, b4, b5, b6⟩ := more_rest ({ p with first := false } : PS).number
      exact ⟨rfl, mk _ _ hok (by rw [b6, a6]) rfl (by rw [b1, a1]; exact h3) rfl (by rw [b2, a2]; exact hi) (by rw [b3, a3]; exact hw) (by rw [b5, a5]; exact hm) (by rw [b4, a4]) (fun e => by rw [b4, a4] at e; cases e) (nums_more hn ({ p with first := false } : PS) rfl rfl ({ r with first := false, any := true, nums := if (r.nums1.length : Int) ≤ 8 then r.nums1 ++ [-1] else r.nums1 } : RS) rfl rfl)⟩
    · rw [if_neg h59] at hok ⊢
      rw [if_pos (show b ≤ 57 by omega)]
      obtain ⟨b1, b2, b3, b4, b5, b6⟩ := digit_rest ({ p with first := false } : PS) (b - 48)
      exact ⟨rfl, mk _ _ hok b6 rfl (by rw [b1]; exact h3) rfl (by rw [b2]; exact hi) (by rw [b3]; exact hw) (by rw [b5]; exact hm) (by rw [b4]) (fun e => by rw [b4] at e; cases e) (nums_digit hn (by omega) ({ p with first := false } : PS) rfl rfl ({ r with first := false, any := true, nums := r.nums1.set (r.nums1.length - 1) (min (max (r.nums1.getD (r.nums1.length - 1) 0) 0 * 10 + (b - 48)) 9999) } : RS) rfl rfl)⟩
  rw [if_neg h64, if_pos (show b < 127 by omega), if_neg (show ¬ ((60 ≤ b ∧ b ≤ 63) ∧ r.first = true) from fun e => by omega), if_neg (show ¬ ((60 ≤ b ∧ b ≤ 63) ∨ b = 58 ∨ (b ≤ 59 ∧ r.inter.size ≠ 0)) by omega), if_neg (show ¬ b ≤ 57 by omega), if_neg (show ¬ b = 59 by omega)]
  refine ⟨?_, doc_begin h 0 (by omega) (fun e => absurd rfl e)⟩
  have hnum : r.nums.take (min r.nums.length 8) = p.nums := by
    have e : r.nums.take (min r.nums.length 8) = r.nums.take 8 := by
      rw [Nat.min_comm, ← List.take_take, List.take_length]
    rw [e]
    by_cases h0 : p.nums = []
    · rw [(hn.none h0).2.1, h0]; rfl
    · exact (hn.some h0).2.1.symm
  show (if p.wrong = true then _ else _) = (if r.wrong = true then _ else _)
  rw [hw, hnum, hm, hi]
  rfl
theorem doc_step {p : PS} {r : RS} (h : Doc p r) {b : Int} (hb : Byte b) : (pstep p b).2 = (RS.step p.st r b).2 ∧ Doc (pstep p b).1 (RS.step p.st r b).1 := by
  have hst := h.ok.st
  unfold RS.step
  by_cases h0 : p.st = 0
  · rw [if_pos h0]; exact doc_ground h h0 hb
  by_cases h1 : p.st = 1
  · rw [if_neg h0, if_pos h1]; exact doc_esc h h1 hb
  by_cases h2 : p.st = 2
  · rw [if_neg h0, if_neg h1, if_pos h2]; exact doc_csi h h2 hb
  by_cases h3 : p.st = 3
  · rw [if_neg h0, if_neg h1, if_neg h2, if_pos h3]; exact doc_osc h h3 hb
  · rw [if_neg h0, if_neg h1, if_neg h2, if_neg h3]; exact doc_dcs h (by omega) hb
end T13
end
section
open Go Sx Go.Proofs T12
namespace T13
set_option maxRecDepth 100000
/-- Between sequences nothing of one is kept. -/
def Clean (s : PS) : Prop := s.st = 0 → s.inter = [] ∧ s.nums = [] ∧ s.text = []
theorem inters_st' (s : PS) (b : Int) : (s.inters b).st = s.st := by unfold PS.inters; split <;> rfl
theorem keep_st' (s : PS) (b : Int) : (s.keep b).st = s.st := by unfold PS.keep; split <;> rfl
theorem number_st' (s : PS) : s.number.st = s.st := by unfold PS.number; split <;> rfl
theorem more_st' (s : PS) : s.more.st = s.st := by unfold PS.more; split <;> rfl
theorem digit_st' (s : PS) (d : Int) : (s.digit d).st = s.st := by
  unfold PS.digit
  dsimp only
  split
  · exact number_st' s
  · exact number_st' s
theorem param_st' (s : PS) (b : Int) : (s.param b).st = s.st := by
  unfold PS.param
  split
  · rfl
  split
  · rfl
  split
  · rw [more_st', number_st']
  · rw [digit_st']
theorem clean_begin (s : PS) (st : Int) : Clean (s.begin st) := fun _ => ⟨rfl, rfl, rfl⟩
theorem clean_of {s t : PS} (h0 : s.st ≠ 0) (e : t.st = s.st) : Clean t := fun h => absurd (e ▸ h) h0
theorem act_clean {s : PS} (h : Clean s) (b : Int) : Clean (s.act b).1 := by
  unfold PS.act
  repeat' split
  all_goals first
    | exact h
    | exact clean_begin _ _
    | exact clean_of (by assumption) (inters_st' _ _)
    | exact clean_of (by assumption) (param_st' _ _)
    | exact clean_of (by assumption) (keep_st' _ _)
    | exact fun _ => ⟨rfl, rfl, rfl⟩
theorem pstep_clean {s : PS} (h : Clean s) (b : Int) : Clean (pstep s b).1 := by
  have hf : Clean (s.flushed b).1 := by
    unfold PS.flushed
    split
    · exact h
    · exact h
  show Clean ((s.flushed b).1.go b).1
  unfold PS.go
  split
  · exact clean_begin _ _
  split
  · exact clean_begin _ _
  · exact act_clean hf b
theorem pfeed_clean {s : PS} (h : Clean s) : ∀ l, Clean (pfeed s l).1 := by
  intro l
  induction l generalizing s with
  | nil => exact h
  | cons b l ih => exact ih (pstep_clean h b)
end T13
end
