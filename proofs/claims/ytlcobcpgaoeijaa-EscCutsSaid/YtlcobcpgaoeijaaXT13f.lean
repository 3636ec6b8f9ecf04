/- Part of a proof: the walk of the functions that the law calls. -/
import Derived.Test.YtlcobcpgaoeijaaSxT
import Derived.Test.YtlcobcpgaoeijaaXT13x
import Derived.Test.YtlcobcpgaoeijaaXP13b
open Go Sx Go.Proofs T12
namespace T13
set_option maxRecDepth 100000
set_option maxHeartbeats 4000000
attribute [local irreducible] Tree.Leads
set_option linter.unusedVariables false
noncomputable def U5 : Table := U4.add 20 (.call (inlSumm U4 Try.prog Try.f20))
theorem U5_ok : TableOK Try.prog U5 := add_ok U4_ok (inlSumm_sound (c := Try.f20.body.get!) U4_ok (by kernel_rfl) (by kernel_rfl) (by kernel_rfl))
def flat (S : List ByteArray) : List Int := S.flatMap strInts
def ps0 : PS := ⟨0, [], [], false, false, 0, [], false, []⟩
def nilV : SV := .lit (.slice none 0 0)
/-- A parser that nobody has used. -/
def newP : List SV := [.lit (.int .u32 0), .lit (.int .i32 0), .lit (.int .u32 0)] ++ ints [0,0,0,0,0,0, 0,0,0,0,0,0, 0,0,0,0,0,0, 0,0,0,0,0,0, 0,0,0,0,0,0] ++ [.lit (.int .i64 0), .lit (.string ⟨#[]⟩), nilV, .lit (.bool false), .lit (.bool false), .lit (.int .i64 0), nilV, .lit (.bool false), nilV, nilV]
/-- One that was fed. -/
def fedP (r : PS) (a b c : Nat) (o : SV) : List SV := [.lit (.int .u32 1), .lit (.int .i32 0), .lit (.int .u32 0)] ++ tab1 ++ [.lit (.int .i64 r.st), .lit (.string (bsOf r.half)), .sl a 1 0 r.inter.length, .lit (.bool r.wrong), .lit (.bool r.first), .lit (.int .i64 r.mark), .sl b 1 0 r.nums.length, .lit (.bool r.full), .sl c 1 0 r.text.length, o]
def fheap (r : PS × List aty.den) (S : List ByteArray) : Heap := [.cells 47 (fedP r.1 2 3 4 (.sl 5 7 0 r.2.length)), .row 9 .str S, .row 5 (.int .u8) r.1.inter, .row 3 (.int .i64) r.1.nums, .row 5 (.int .u8) r.1.text, .row 50 aty r.2]
def nil4 : List (TypeId × Nat × TypeId × Ty) := [(47, 35, 5, .int .u8), (47, 39, 3, .int .i64), (47, 41, 5, .int .u8), (47, 42, 50, aty)]
noncomputable def A12 (s0 : PS) (S : List ByteArray) (m : Nat) : Ann := { live := [0, 17, 18, 19], mv := [2, 3, 4], nilH := nil4, head := fun vals _ => match vals with | [a, b, c, _] => { X := Nat, inv := fun i => ([a, b, c, .lit (.int .i64 i)], fheap (pfeed s0 (flat (S.take i))) S), ok := fun i => i ≤ m, mu := fun i => m - i } | _ => { X := Nat, inv := fun _ => ([], []), ok := fun _ => False, mu := fun _ => 0 } }
noncomputable def B12 (s0 : PS) (S : List ByteArray) : Ann := { live := [0, 6, 17, 18, 19, 24, 25], mv := [2, 3, 4], nilH := nil4, head := fun vals _ => match vals with | [a, .lit (.string s), c, d, .lit (.int .i64 n), f, _] => { X := Nat, inv := fun j => ([a, .lit (.string s), c, d, .lit (.int .i64 n), f, .lit (.int .i64 j)], fheap (pfeed s0 (flat (S.take n.toNat) ++ (strInts s).take j)) S), ok := fun j => j ≤ s.size, mu := fun j => s.size - j } | _ => { X := Nat, inv := fun _ => ([], []), ok := fun _ => False, mu := fun _ => 0 } }
theorem flat_succ (S : List ByteArray) (i : Nat) (h : i < S.length) (d : ByteArray) : flat (S.take (i + 1)) = flat (S.take i) ++ strInts (S.getD i d) := by
  rw [List.take_add_one, List.getElem?_eq_getElem h, List.getD_eq_getElem?_getD, List.getElem?_eq_getElem h]
  simp only [flat, List.flatMap_append, Option.toList, List.flatMap_cons, List.flatMap_nil, List.append_nil, Option.getD]
theorem flat_mono (S : List ByteArray) (i m : Nat) (h : i ≤ m) : (flat (S.take i)).length ≤ (flat (S.take m)).length := by
  have : S.take m = S.take i ++ (S.take m).drop i := by
    conv => lhs; rw [← List.take_append_drop i (S.take m), List.take_take, Nat.min_eq_left h]
  rw [this, flat, flat, List.flatMap_append, List.length_append]; omega
theorem flat_bytes (S : List ByteArray) : ∀ x ∈ flat S, Byte x := fun x hx => by
  obtain ⟨s, _, h⟩ := List.mem_flatMap.1 hx
  exact strInts_bytes s x h
theorem byteAt_take (s : ByteArray) (j : Nat) (h : j < s.size) : (strInts s).take (j + 1) = (strInts s).take j ++ [byteAt s j] ∧ Byte (byteAt s j) := by
  have h' : j < (strInts s).length := by rw [strInts_size]; exact h
  have e : byteAt s j = (strInts s)[j] := by
    rw [byteAt_eq, Int.toNat_natCast, List.getD_eq_getElem?_getD, List.getElem?_eq_getElem h']; rfl
  constructor
  · rw [List.take_add_one, List.getElem?_eq_getElem h', e]; rfl
  · rw [e]; exact strInts_bytes s _ (List.getElem_mem h')
theorem wrap1 (n : Nat) (h : n ≤ 1099511627776) : IntKind.i64.wrap ((n : Int) + 1) = ((n + 1 : Nat) : Int) := by rw [IntKind.wrap_i64]; omega
theorem pfeed_ok {s : PS} (h : s.OK) : ∀ l, (pfeed s l).1.OK := by
  intro l
  induction l generalizing s with
  | nil => exact h
  | cons b l ih => exact ih (pstep_ok h b)
theorem pfeed_few (s : PS) : ∀ l, (pfeed s l).2.length ≤ 3 * l.length := by
  intro l
  induction l generalizing s with
  | nil => simp [pfeed]
  | cons b l ih =>
    have h1 := pstep_few s b
    have h2 := ih (pstep s b).1
    simp only [pfeed, List.length_append, List.length_cons]; omega
theorem ps0_ok : ps0.OK := ⟨by decide, trivial, fun _ => rfl, by simp [ps0], by simp [ps0], by simp [ps0], by simp [ps0]⟩
theorem PS.eta {r : PS} (h : Good r.half) : (⟨r.st, strInts (bsOf r.half), r.inter, r.wrong, r.first, r.mark, r.nums, r.full, r.text⟩ : PS) = r := by rw [good_bsOf h]
def fend (r : PS × List aty.den) (S : List ByteArray) : Heap := [.cells 47 (fedP r.1 2 3 4 nilV), .row 9 .str S, .row 5 (.int .u8) r.1.inter, .row 3 (.int .i64) r.1.nums, .row 5 (.int .u8) r.1.text, .row 50 aty r.2]
theorem v12f (s0 : PS) (hs0 : s0.OK) (S : List ByteArray) (m : Nat) (Q : SV × Heap × List Nat → Prop) (hm : m ≤ S.length) (hT : (flat (S.take m)).length ≤ 200000) (hm2 : m ≤ 1000000) (h0 : s0 = ps0)
    (hq : Q (.sl 5 7 0 (pfeed s0 (flat (S.take m))).2.length, fend (pfeed s0 (flat (S.take m))) S, [2, 3, 4])) :
    (bodySumm U5 Try.prog Try.f12 (An2 0 (A12 s0 S m) 2 (B12 s0 S)) [.ptr 0 0, .sl 1 1 0 m] [.cells 47 newP, .row 9 .str S]).Leads Q := by
  refine Sx.by_text (q :=
      (∃ (x : Nat),
          ([Sx.SV.ptr (0 : Nat) (0 : Nat), Sx.SV.sl (1 : Nat) (1 : Nat) (0 : Nat) m, Sx.SV.lit (Go.Value.int Go.IntKind.i64 (↑m : Int)),
                  Sx.SV.lit (Go.Value.int Go.IntKind.i64 (0 : Int))],
                [Sx.SO.cells (47 : Nat)
                    [Sx.SV.lit (Go.Value.int Go.IntKind.u32 (1 : Int)), Sx.SV.lit (Go.Value.int Go.IntKind.i32 (Go.IntKind.wrap Go.IntKind.i32 ((1 : Int) + (-1 : Int)))),
                      Sx.SV.lit (Go.Value.int Go.IntKind.u32 (0 : Int)), Sx.SV.lit (Go.Value.int Go.IntKind.i64 (2 : Int)), Sx.SV.lit (Go.Value.int Go.IntKind.i64 (1 : Int)),
                      Sx.SV.lit (Go.Value.int Go.IntKind.i64 (1 : Int)), Sx.SV.lit (Go.Value.int Go.IntKind.i64 (1 : Int)), Sx.SV.lit (Go.Value.int Go.IntKind.i64 (0 : Int)),
                      Sx.SV.lit (Go.Value.int Go.IntKind.i64 (1 : Int)), Sx.SV.lit (Go.Value.int Go.IntKind.i64 (2 : Int)), Sx.SV.lit (Go.Value.int Go.IntKind.i64 (3 : Int)),
                      Sx.SV.lit (Go.Value.int Go.IntKind.i64 (4 : Int)), Sx.SV.lit (Go.Value.int Go.IntKind.i64 (4 : Int)), Sx.SV.lit (Go.Value.int Go.IntKind.i64 (0 : Int)),
                      Sx.SV.lit (Go.Value.int Go.IntKind.i64 (9 : Int)), Sx.SV.lit (Go.Value.int Go.IntKind.i64 (2 : Int)), Sx.SV.lit (Go.Value.int Go.IntKind.i64 (3 : Int)),
                      Sx.SV.lit (Go.Value.int Go.IntKind.i64 (5 : Int)), Sx.SV.lit (Go.Value.int Go.IntKind.i64 (6 : Int)), Sx.SV.lit (Go.Value.int Go.IntKind.i64 (0 : Int)),
                      Sx.SV.lit (Go.Value.int Go.IntKind.i64 (9 : Int)), Sx.SV.lit (Go.Value.int Go.IntKind.i64 (8 : Int)), Sx.SV.lit (Go.Value.int Go.IntKind.i64 (7 : Int)),
                      Sx.SV.lit (Go.Value.int Go.IntKind.i64 (7 : Int)), Sx.SV.lit (Go.Value.int Go.IntKind.i64 (7 : Int)), Sx.SV.lit (Go.Value.int Go.IntKind.i64 (7 : Int)),
                      Sx.SV.lit (Go.Value.int Go.IntKind.i64 (7 : Int)), Sx.SV.lit (Go.Value.int Go.IntKind.i64 (0 : Int)), Sx.SV.lit (Go.Value.int Go.IntKind.i64 (7 : Int)),
                      Sx.SV.lit (Go.Value.int Go.IntKind.i64 (7 : Int)), Sx.SV.lit (Go.Value.int Go.IntKind.i64 (7 : Int)), Sx.SV.lit (Go.Value.int Go.IntKind.i64 (7 : Int)),
                      Sx.SV.lit (Go.Value.int Go.IntKind.i64 (7 : Int)), Sx.SV.lit (Go.Value.int Go.IntKind.i64 (0 : Int)), Sx.SV.lit (Go.Value.string { data := #[] }),
                      Sx.SV.sl (2 : Nat) (1 : Nat) (0 : Nat) (0 : Nat), Sx.SV.lit (Go.Value.bool Bool.false), Sx.SV.lit (Go.Value.bool Bool.false),
                      Sx.SV.lit (Go.Value.int Go.IntKind.i64 (0 : Int)), Sx.SV.sl (3 : Nat) (1 : Nat) (0 : Nat) (0 : Nat), Sx.SV.lit (Go.Value.bool Bool.false),
                      Sx.SV.sl (4 : Nat) (1 : Nat) (0 : Nat) (0 : Nat), Sx.SV.sl (5 : Nat) (7 : Nat) (0 : Nat) (0 : Nat)],
                  Sx.SO.row (9 : Nat) Sx.Ty.str S, Sx.SO.row (5 : Nat) (Sx.Ty.int Go.IntKind.u8) [], Sx.SO.row (3 : Nat) (Sx.Ty.int Go.IntKind.i64) [],
                  Sx.SO.row (5 : Nat) (Sx.Ty.int Go.IntKind.u8) [], Sx.SO.row (50 : Nat) T13.aty []]) =
              ([Sx.SV.ptr (0 : Nat) (0 : Nat), Sx.SV.sl (1 : Nat) (1 : Nat) (0 : Nat) m, Sx.SV.lit (Go.Value.int Go.IntKind.i64 (↑m : Int)),
                  Sx.SV.lit (Go.Value.int Go.IntKind.i64 (↑x : Int))],
                T13.fheap (T13.pfeed s0 (T13.flat (List.take x S))) S) ∧
            x ≤ m) ∧
        ∀ (b : Nat),
          b ≤ m →
            Sx.br (Decidable.decide ((↑b : Int) < (↑m : Int)))
              (((0 : Int) ≤ (↑b : Int) ∧ (↑b : Int) < (↑m : Int)) ∧
                (0 : Nat) + b < List.length S ∧
                  (∃ (x : Nat),
                      ([Sx.SV.ptr (0 : Nat) (0 : Nat), Sx.SV.lit (Go.Value.string (List.getD S ((0 : Nat) + b) (Sx.Ty.dflt Sx.Ty.str))), Sx.SV.sl (1 : Nat) (1 : Nat) (0 : Nat) m,
                              Sx.SV.lit (Go.Value.int Go.IntKind.i64 (↑m : Int)), Sx.SV.lit (Go.Value.int Go.IntKind.i64 (↑b : Int)),
                              Sx.SV.lit (Go.Value.int Go.IntKind.i64 (↑(ByteArray.size (List.getD S ((0 : Nat) + b) (Sx.Ty.dflt Sx.Ty.str))) : Int)),
                              Sx.SV.lit (Go.Value.int Go.IntKind.i64 (0 : Int))],
                            T13.fheap (T13.pfeed s0 (T13.flat (List.take b S))) S) =
                          ([Sx.SV.ptr (0 : Nat) (0 : Nat), Sx.SV.lit (Go.Value.string (List.getD S ((0 : Nat) + b) (Sx.Ty.dflt Sx.Ty.str))), Sx.SV.sl (1 : Nat) (1 : Nat) (0 : Nat) m,
                              Sx.SV.lit (Go.Value.int Go.IntKind.i64 (↑m : Int)), Sx.SV.lit (Go.Value.int Go.IntKind.i64 (↑b : Int)),
                              Sx.SV.lit (Go.Value.int Go.IntKind.i64 (↑(ByteArray.size (List.getD S ((0 : Nat) + b) (Sx.Ty.dflt Sx.Ty.str))) : Int)),
                              Sx.SV.lit (Go.Value.int Go.IntKind.i64 (↑x : Int))],
                            T13.fheap (T13.pfeed s0 (T13.flat (List.take b S) ++ List.take x (Sx.strInts (List.getD S ((0 : Nat) + b) (Sx.Ty.dflt Sx.Ty.str))))) S) ∧
                        x ≤ ByteArray.size (List.getD S ((0 : Nat) + b) (Sx.Ty.dflt Sx.Ty.str))) ∧
                    ∀ (b_1 : Nat),
                      b_1 ≤ ByteArray.size (List.getD S ((0 : Nat) + b) (Sx.Ty.dflt Sx.Ty.str)) →
                        Sx.br (Decidable.decide ((↑b_1 : Int) < (↑(ByteArray.size (List.getD S ((0 : Nat) + b) (Sx.Ty.dflt Sx.Ty.str))) : Int)))
                          (((0 : Int) ≤ (↑b_1 : Int) ∧ (↑b_1 : Int) < (↑(ByteArray.size (List.getD S ((0 : Nat) + b) (Sx.Ty.dflt Sx.Ty.str))) : Int)) ∧
                            (True ∧
                                T13.pcells
                                      (T13.PS.st (Prod.fst (T13.pfeed s0 (T13.flat (List.take b S) ++ List.take b_1 (Sx.strInts (List.getD S ((0 : Nat) + b) (Sx.Ty.dflt Sx.Ty.str)))))))
                                      (Sx.bsOf
                                        (T13.PS.half
                                          (Prod.fst (T13.pfeed s0 (T13.flat (List.take b S) ++ List.take b_1 (Sx.strInts (List.getD S ((0 : Nat) + b) (Sx.Ty.dflt Sx.Ty.str))))))))
                                      (List.length
                                        (T13.PS.inter
                                          (Prod.fst (T13.pfeed s0 (T13.flat (List.take b S) ++ List.take b_1 (Sx.strInts (List.getD S ((0 : Nat) + b) (Sx.Ty.dflt Sx.Ty.str))))))))
                                      (T13.PS.wrong
                                        (Prod.fst (T13.pfeed s0 (T13.flat (List.take b S) ++ List.take b_1 (Sx.strInts (List.getD S ((0 : Nat) + b) (Sx.Ty.dflt Sx.Ty.str)))))))
                                      (T13.PS.first
                                        (Prod.fst (T13.pfeed s0 (T13.flat (List.take b S) ++ List.take b_1 (Sx.strInts (List.getD S ((0 : Nat) + b) (Sx.Ty.dflt Sx.Ty.str)))))))
                                      (T13.PS.mark
                                        (Prod.fst (T13.pfeed s0 (T13.flat (List.take b S) ++ List.take b_1 (Sx.strInts (List.getD S ((0 : Nat) + b) (Sx.Ty.dflt Sx.Ty.str)))))))
                                      (List.length
                                        (T13.PS.nums
                                          (Prod.fst (T13.pfeed s0 (T13.flat (List.take b S) ++ List.take b_1 (Sx.strInts (List.getD S ((0 : Nat) + b) (Sx.Ty.dflt Sx.Ty.str))))))))
                                      (T13.PS.full
                                        (Prod.fst (T13.pfeed s0 (T13.flat (List.take b S) ++ List.take b_1 (Sx.strInts (List.getD S ((0 : Nat) + b) (Sx.Ty.dflt Sx.Ty.str)))))))
                                      (List.length
                                        (T13.PS.text
                                          (Prod.fst (T13.pfeed s0 (T13.flat (List.take b S) ++ List.take b_1 (Sx.strInts (List.getD S ((0 : Nat) + b) (Sx.Ty.dflt Sx.Ty.str))))))))
                                      (List.length
                                        (Prod.snd (T13.pfeed s0 (T13.flat (List.take b S) ++ List.take b_1 (Sx.strInts (List.getD S ((0 : Nat) + b) (Sx.Ty.dflt Sx.Ty.str))))))) =
                                    T13.pcells
                                      (T13.PS.st (Prod.fst (T13.pfeed s0 (T13.flat (List.take b S) ++ List.take b_1 (Sx.strInts (List.getD S ((0 : Nat) + b) (Sx.Ty.dflt Sx.Ty.str)))))))
                                      (Sx.bsOf
                                        (T13.PS.half
                                          (Prod.fst (T13.pfeed s0 (T13.flat (List.take b S) ++ List.take b_1 (Sx.strInts (List.getD S ((0 : Nat) + b) (Sx.Ty.dflt Sx.Ty.str))))))))
                                      (List.length
                                        (T13.PS.inter
                                          (Prod.fst (T13.pfeed s0 (T13.flat (List.take b S) ++ List.take b_1 (Sx.strInts (List.getD S ((0 : Nat) + b) (Sx.Ty.dflt Sx.Ty.str))))))))
                                      (T13.PS.wrong
                                        (Prod.fst (T13.pfeed s0 (T13.flat (List.take b S) ++ List.take b_1 (Sx.strInts (List.getD S ((0 : Nat) + b) (Sx.Ty.dflt Sx.Ty.str)))))))
                                      (T13.PS.first
                                        (Prod.fst (T13.pfeed s0 (T13.flat (List.take b S) ++ List.take b_1 (Sx.strInts (List.getD S ((0 : Nat) + b) (Sx.Ty.dflt Sx.Ty.str)))))))
                                      (T13.PS.mark
                                        (Prod.fst (T13.pfeed s0 (T13.flat (List.take b S) ++ List.take b_1 (Sx.strInts (List.getD S ((0 : Nat) + b) (Sx.Ty.dflt Sx.Ty.str)))))))
                                      (List.length
                                        (T13.PS.nums
                                          (Prod.fst (T13.pfeed s0 (T13.flat (List.take b S) ++ List.take b_1 (Sx.strInts (List.getD S ((0 : Nat) + b) (Sx.Ty.dflt Sx.Ty.str))))))))
                                      (T13.PS.full
                                        (Prod.fst (T13.pfeed s0 (T13.flat (List.take b S) ++ List.take b_1 (Sx.strInts (List.getD S ((0 : Nat) + b) (Sx.Ty.dflt Sx.Ty.str)))))))
                                      (List.length
                                        (T13.PS.text
                                          (Prod.fst (T13.pfeed s0 (T13.flat (List.take b S) ++ List.take b_1 (Sx.strInts (List.getD S ((0 : Nat) + b) (Sx.Ty.dflt Sx.Ty.str))))))))
                                      (List.length
                                        (Prod.snd (T13.pfeed s0 (T13.flat (List.take b S) ++ List.take b_1 (Sx.strInts (List.getD S ((0 : Nat) + b) (Sx.Ty.dflt Sx.Ty.str))))))) ∧
                                  T13.Ready
                                    {
                                      st :=
                                        T13.PS.st (Prod.fst (T13.pfeed s0 (T13.flat (List.take b S) ++ List.take b_1 (Sx.strInts (List.getD S ((0 : Nat) + b) (Sx.Ty.dflt Sx.Ty.str)))))),
                                      half :=
                                        Sx.strInts
                                          (Sx.bsOf
                                            (T13.PS.half
                                              (Prod.fst (T13.pfeed s0 (T13.flat (List.take b S) ++ List.take b_1 (Sx.strInts (List.getD S ((0 : Nat) + b) (Sx.Ty.dflt Sx.Ty.str)))))))),
                                      inter :=
                                        T13.PS.inter
                                          (Prod.fst (T13.pfeed s0 (T13.flat (List.take b S) ++ List.take b_1 (Sx.strInts (List.getD S ((0 : Nat) + b) (Sx.Ty.dflt Sx.Ty.str)))))),
                                      wrong :=
                                        T13.PS.wrong
                                          (Prod.fst (T13.pfeed s0 (T13.flat (List.take b S) ++ List.take b_1 (Sx.strInts (List.getD S ((0 : Nat) + b) (Sx.Ty.dflt Sx.Ty.str)))))),
                                      first :=
                                        T13.PS.first
                                          (Prod.fst (T13.pfeed s0 (T13.flat (List.take b S) ++ List.take b_1 (Sx.strInts (List.getD S ((0 : Nat) + b) (Sx.Ty.dflt Sx.Ty.str)))))),
                                      mark :=
                                        T13.PS.mark
                                          (Prod.fst (T13.pfeed s0 (T13.flat (List.take b S) ++ List.take b_1 (Sx.strInts (List.getD S ((0 : Nat) + b) (Sx.Ty.dflt Sx.Ty.str)))))),
                                      nums :=
                                        T13.PS.nums
                                          (Prod.fst (T13.pfeed s0 (T13.flat (List.take b S) ++ List.take b_1 (Sx.strInts (List.getD S ((0 : Nat) + b) (Sx.Ty.dflt Sx.Ty.str)))))),
                                      full :=
                                        T13.PS.full
                                          (Prod.fst (T13.pfeed s0 (T13.flat (List.take b S) ++ List.take b_1 (Sx.strInts (List.getD S ((0 : Nat) + b) (Sx.Ty.dflt Sx.Ty.str)))))),
                                      text :=
                                        T13.PS.text
                                          (Prod.fst (T13.pfeed s0 (T13.flat (List.take b S) ++ List.take b_1 (Sx.strInts (List.getD S ((0 : Nat) + b) (Sx.Ty.dflt Sx.Ty.str)))))) }
                                    (Sx.byteAt (List.getD S ((0 : Nat) + b) (Sx.Ty.dflt Sx.Ty.str)) (↑b_1 : Int))
                                    (List.length
                                      (Prod.snd (T13.pfeed s0 (T13.flat (List.take b S) ++ List.take b_1 (Sx.strInts (List.getD S ((0 : Nat) + b) (Sx.Ty.dflt Sx.Ty.str)))))))) ∧
                              ∀ (b_2 : T13.PS × List (Sx.Ty.den T13.aty)),
                                T13.StepOf
                                    {
                                      st :=
                                        T13.PS.st (Prod.fst (T13.pfeed s0 (T13.flat (List.take b S) ++ List.take b_1 (Sx.strInts (List.getD S ((0 : Nat) + b) (Sx.Ty.dflt Sx.Ty.str)))))),
                                      half :=
                                        Sx.strInts
                                          (Sx.bsOf
                                            (T13.PS.half
                                              (Prod.fst (T13.pfeed s0 (T13.flat (List.take b S) ++ List.take b_1 (Sx.strInts (List.getD S ((0 : Nat) + b) (Sx.Ty.dflt Sx.Ty.str)))))))),
                                      inter :=
                                        T13.PS.inter
                                          (Prod.fst (T13.pfeed s0 (T13.flat (List.take b S) ++ List.take b_1 (Sx.strInts (List.getD S ((0 : Nat) + b) (Sx.Ty.dflt Sx.Ty.str)))))),
                                      wrong :=
                                        T13.PS.wrong
                                          (Prod.fst (T13.pfeed s0 (T13.flat (List.take b S) ++ List.take b_1 (Sx.strInts (List.getD S ((0 : Nat) + b) (Sx.Ty.dflt Sx.Ty.str)))))),
                                      first :=
                                        T13.PS.first
                                          (Prod.fst (T13.pfeed s0 (T13.flat (List.take b S) ++ List.take b_1 (Sx.strInts (List.getD S ((0 : Nat) + b) (Sx.Ty.dflt Sx.Ty.str)))))),
                                      mark :=
                                        T13.PS.mark
                                          (Prod.fst (T13.pfeed s0 (T13.flat (List.take b S) ++ List.take b_1 (Sx.strInts (List.getD S ((0 : Nat) + b) (Sx.Ty.dflt Sx.Ty.str)))))),
                                      nums :=
                                        T13.PS.nums
                                          (Prod.fst (T13.pfeed s0 (T13.flat (List.take b S) ++ List.take b_1 (Sx.strInts (List.getD S ((0 : Nat) + b) (Sx.Ty.dflt Sx.Ty.str)))))),
                                      full :=
                                        T13.PS.full
                                          (Prod.fst (T13.pfeed s0 (T13.flat (List.take b S) ++ List.take b_1 (Sx.strInts (List.getD S ((0 : Nat) + b) (Sx.Ty.dflt Sx.Ty.str)))))),
                                      text :=
                                        T13.PS.text
                                          (Prod.fst (T13.pfeed s0 (T13.flat (List.take b S) ++ List.take b_1 (Sx.strInts (List.getD S ((0 : Nat) + b) (Sx.Ty.dflt Sx.Ty.str)))))) }
                                    (Sx.byteAt (List.getD S ((0 : Nat) + b) (Sx.Ty.dflt Sx.Ty.str)) (↑b_1 : Int)) b_2 →
                                  (∃ (x' : Nat),
                                      ([Sx.SV.ptr (0 : Nat) (0 : Nat), Sx.SV.lit (Go.Value.string (List.getD S ((0 : Nat) + b) (Sx.Ty.dflt Sx.Ty.str))),
                                              Sx.SV.sl (1 : Nat) (1 : Nat) (0 : Nat) m, Sx.SV.lit (Go.Value.int Go.IntKind.i64 (↑m : Int)),
                                              Sx.SV.lit (Go.Value.int Go.IntKind.i64 (↑b : Int)),
                                              Sx.SV.lit (Go.Value.int Go.IntKind.i64 (↑(ByteArray.size (List.getD S ((0 : Nat) + b) (Sx.Ty.dflt Sx.Ty.str))) : Int)),
                                              Sx.SV.lit (Go.Value.int Go.IntKind.i64 (Go.IntKind.wrap Go.IntKind.i64 ((↑b_1 : Int) + (1 : Int))))],
                                            [Sx.SO.cells (47 : Nat)
                                                (T13.fedP (Prod.fst b_2) (2 : Nat) (3 : Nat) (4 : Nat)
                                                  (Sx.SV.sl (5 : Nat) (7 : Nat) (0 : Nat)
                                                    (List.length
                                                      (Prod.snd
                                                          (T13.pfeed s0 (T13.flat (List.take b S) ++ List.take b_1 (Sx.strInts (List.getD S ((0 : Nat) + b) (Sx.Ty.dflt Sx.Ty.str))))) ++
                                                        Prod.snd b_2)))),
                                              Sx.SO.row (9 : Nat) Sx.Ty.str S, Sx.SO.row (5 : Nat) (Sx.Ty.int Go.IntKind.u8) (T13.PS.inter (Prod.fst b_2)),
                                              Sx.SO.row (3 : Nat) (Sx.Ty.int Go.IntKind.i64) (T13.PS.nums (Prod.fst b_2)),
                                              Sx.SO.row (5 : Nat) (Sx.Ty.int Go.IntKind.u8) (T13.PS.text (Prod.fst b_2)),
                                              Sx.SO.row (50 : Nat) T13.aty
                                                (Prod.snd (T13.pfeed s0 (T13.flat (List.take b S) ++ List.take b_1 (Sx.strInts (List.getD S ((0 : Nat) + b) (Sx.Ty.dflt Sx.Ty.str))))) ++
                                                  Prod.snd b_2)]) =
                                          ([Sx.SV.ptr (0 : Nat) (0 : Nat), Sx.SV.lit (Go.Value.string (List.getD S ((0 : Nat) + b) (Sx.Ty.dflt Sx.Ty.str))),
                                              Sx.SV.sl (1 : Nat) (1 : Nat) (0 : Nat) m, Sx.SV.lit (Go.Value.int Go.IntKind.i64 (↑m : Int)),
                                              Sx.SV.lit (Go.Value.int Go.IntKind.i64 (↑b : Int)),
                                              Sx.SV.lit (Go.Value.int Go.IntKind.i64 (↑(ByteArray.size (List.getD S ((0 : Nat) + b) (Sx.Ty.dflt Sx.Ty.str))) : Int)),
                                              Sx.SV.lit (Go.Value.int Go.IntKind.i64 (↑x' : Int))],
                                            T13.fheap (T13.pfeed s0 (T13.flat (List.take b S) ++ List.take x' (Sx.strInts (List.getD S ((0 : Nat) + b) (Sx.Ty.dflt Sx.Ty.str))))) S) ∧
                                        x' ≤ ByteArray.size (List.getD S ((0 : Nat) + b) (Sx.Ty.dflt Sx.Ty.str)) ∧
                                          ByteArray.size (List.getD S ((0 : Nat) + b) (Sx.Ty.dflt Sx.Ty.str)) - x' <
                                            ByteArray.size (List.getD S ((0 : Nat) + b) (Sx.Ty.dflt Sx.Ty.str)) - b_1) ∧
                                    True)
                          ((∃ (x' : Nat),
                              ([Sx.SV.ptr (0 : Nat) (0 : Nat), Sx.SV.sl (1 : Nat) (1 : Nat) (0 : Nat) m, Sx.SV.lit (Go.Value.int Go.IntKind.i64 (↑m : Int)),
                                      Sx.SV.lit (Go.Value.int Go.IntKind.i64 (Go.IntKind.wrap Go.IntKind.i64 ((↑b : Int) + (1 : Int))))],
                                    T13.fheap (T13.pfeed s0 (T13.flat (List.take b S) ++ List.take b_1 (Sx.strInts (List.getD S ((0 : Nat) + b) (Sx.Ty.dflt Sx.Ty.str))))) S) =
                                  ([Sx.SV.ptr (0 : Nat) (0 : Nat), Sx.SV.sl (1 : Nat) (1 : Nat) (0 : Nat) m, Sx.SV.lit (Go.Value.int Go.IntKind.i64 (↑m : Int)),
                                      Sx.SV.lit (Go.Value.int Go.IntKind.i64 (↑x' : Int))],
                                    T13.fheap (T13.pfeed s0 (T13.flat (List.take x' S))) S) ∧
                                x' ≤ m ∧ m - x' < m - b) ∧
                            True))
              (Q
                (Sx.SV.sl (5 : Nat) (7 : Nat) (0 : Nat) (List.length (Prod.snd (T13.pfeed s0 (T13.flat (List.take b S))))), T13.fend (T13.pfeed s0 (T13.flat (List.take b S))) S,
                  [(2 : Nat), (3 : Nat), (4 : Nat)]))) (by kernel_rfl) ?_
  have hlast : ∀ i, i ≤ m → (flat (S.take i)).length ≤ 200000 := fun i hi => by have := flat_mono S i m hi; omega
  refine ⟨⟨0, by subst h0; rfl, by omega⟩, fun i hi => br_intro (fun hlt => ?_) (fun hge => ?_)⟩
  · have hlt := of_decide_eq_true hlt
    have hsucc := flat_succ S i (by omega) Ty.str.dflt
    have hle := hlast (i + 1) (by omega)
    rw [hsucc, List.length_append] at hle
    rw [Nat.zero_add]
    generalize S.getD i Ty.str.dflt = s at *
    rw [strInts_size] at hle
    refine ⟨by omega, by omega, ⟨0, ?_, by omega⟩, fun j hj => br_intro (fun hlt2 => ?_) (fun hge2 => ?_)⟩
    · rw [List.take_zero, List.append_nil]; rfl
    · have hlt2 := of_decide_eq_true hlt2
      obtain ⟨ht, hbyte⟩ := byteAt_take s j (by omega)
      have hok := pfeed_ok hs0 (flat (S.take i) ++ (strInts s).take j)
      have hfew := pfeed_few s0 (flat (S.take i) ++ (strInts s).take j)
      have htk : ((strInts s).take j).length ≤ s.size := by rw [List.length_take, strInts_size]; omega
      rw [List.length_append] at hfew
      have hsn := pfeed_snoc s0 (flat (S.take i) ++ (strInts s).take j) (byteAt s j)
      rw [List.append_assoc, ← ht] at hsn
      refine ⟨by omega, ⟨trivial, rfl, ?_⟩, fun r hr => ⟨⟨j + 1, ?_, by omega, by omega⟩, trivial⟩⟩
      · rw [PS.eta hok.half]; exact ⟨hok, hbyte, by omega⟩
      · obtain ⟨hr⟩ := hr
        rw [PS.eta hok.half] at hr
        rw [hsn, ← hr, wrap1 j (by omega)]; rfl
    · have hge2 := of_decide_eq_false hge2
      have hj2 : j = s.size := by omega
      have hall : (strInts s).take j = strInts s := by rw [hj2, ← strInts_size, List.take_length]
      refine ⟨⟨i + 1, ?_, by omega, by omega⟩, trivial⟩
      rw [hall, wrap1 i (by omega), hsucc]
  · have hge := of_decide_eq_false hge
    have : i = m := by omega
    subst this
    exact hq
theorem v12u (s0 : PS) (hs0 : s0.OK) (S : List ByteArray) (m : Nat) (Q : SV × Heap × List Nat → Prop) (hm : m ≤ S.length) (hT : (flat (S.take m)).length ≤ 200000) (hm2 : m ≤ 1000000)
    (hq : Q (.sl 5 7 0 (pfeed s0 (flat (S.take m))).2.length, fend (pfeed s0 (flat (S.take m))) S, [2, 3, 4])) :
    (bodySumm U5 Try.prog Try.f12 (An2 0 (A12 s0 S m) 2 (B12 s0 S)) [.ptr 0 0, .sl 1 1 0 m] [.cells 47 (fedP s0 2 3 4 nilV), .row 9 .str S, .row 5 (.int .u8) s0.inter, .row 3 (.int .i64) s0.nums, .row 5 (.int .u8) s0.text]).Leads Q := by
  refine Sx.by_text (q :=
      (∃ (x : Nat),
          ([Sx.SV.ptr (0 : Nat) (0 : Nat), Sx.SV.sl (1 : Nat) (1 : Nat) (0 : Nat) m, Sx.SV.lit (Go.Value.int Go.IntKind.i64 (↑m : Int)),
                  Sx.SV.lit (Go.Value.int Go.IntKind.i64 (0 : Int))],
                [Sx.SO.cells (47 : Nat) (T13.fedP s0 (2 : Nat) (3 : Nat) (4 : Nat) (Sx.SV.sl (5 : Nat) (7 : Nat) (0 : Nat) (0 : Nat))), Sx.SO.row (9 : Nat) Sx.Ty.str S,
                  Sx.SO.row (5 : Nat) (Sx.Ty.int Go.IntKind.u8) (T13.PS.inter s0), Sx.SO.row (3 : Nat) (Sx.Ty.int Go.IntKind.i64) (T13.PS.nums s0),
                  Sx.SO.row (5 : Nat) (Sx.Ty.int Go.IntKind.u8) (T13.PS.text s0), Sx.SO.row (50 : Nat) T13.aty []]) =
              ([Sx.SV.ptr (0 : Nat) (0 : Nat), Sx.SV.sl (1 : Nat) (1 : Nat) (0 : Nat) m, Sx.SV.lit (Go.Value.int Go.IntKind.i64 (↑m : Int)),
                  Sx.SV.lit (Go.Value.int Go.IntKind.i64 (↑x : Int))],
                T13.fheap (T13.pfeed s0 (T13.flat (List.take x S))) S) ∧
            x ≤ m) ∧
        ∀ (b : Nat),
          b ≤ m →
            Sx.br (Decidable.decide ((↑b : Int) < (↑m : Int)))
              (((0 : Int) ≤ (↑b : Int) ∧ (↑b : Int) < (↑m : Int)) ∧
                (0 : Nat) + b < List.length S ∧
                  (∃ (x : Nat),
                      ([Sx.SV.ptr (0 : Nat) (0 : Nat), Sx.SV.lit (Go.Value.string (List.getD S ((0 : Nat) + b) (Sx.Ty.dflt Sx.Ty.str))), Sx.SV.sl (1 : Nat) (1 : Nat) (0 : Nat) m,
                              Sx.SV.lit (Go.Value.int Go.IntKind.i64 (↑m : Int)), Sx.SV.lit (Go.Value.int Go.IntKind.i64 (↑b : Int)),
                              Sx.SV.lit (Go.Value.int Go.IntKind.i64 (↑(ByteArray.size (List.getD S ((0 : Nat) + b) (Sx.Ty.dflt Sx.Ty.str))) : Int)),
                              Sx.SV.lit (Go.Value.int Go.IntKind.i64 (0 : Int))],
                            T13.fheap (T13.pfeed s0 (T13.flat (List.take b S))) S) =
                          ([Sx.SV.ptr (0 : Nat) (0 : Nat), Sx.SV.lit (Go.Value.string (List.getD S ((0 : Nat) + b) (Sx.Ty.dflt Sx.Ty.str))), Sx.SV.sl (1 : Nat) (1 : Nat) (0 : Nat) m,
                              Sx.SV.lit (Go.Value.int Go.IntKind.i64 (↑m : Int)), Sx.SV.lit (Go.Value.int Go.IntKind.i64 (↑b : Int)),
                              Sx.SV.lit (Go.Value.int Go.IntKind.i64 (↑(ByteArray.size (List.getD S ((0 : Nat) + b) (Sx.Ty.dflt Sx.Ty.str))) : Int)),
                              Sx.SV.lit (Go.Value.int Go.IntKind.i64 (↑x : Int))],
                            T13.fheap (T13.pfeed s0 (T13.flat (List.take b S) ++ List.take x (Sx.strInts (List.getD S ((0 : Nat) + b) (Sx.Ty.dflt Sx.Ty.str))))) S) ∧
                        x ≤ ByteArray.size (List.getD S ((0 : Nat) + b) (Sx.Ty.dflt Sx.Ty.str))) ∧
                    ∀ (b_1 : Nat),
                      b_1 ≤ ByteArray.size (List.getD S ((0 : Nat) + b) (Sx.Ty.dflt Sx.Ty.str)) →
                        Sx.br (Decidable.decide ((↑b_1 : Int) < (↑(ByteArray.size (List.getD S ((0 : Nat) + b) (Sx.Ty.dflt Sx.Ty.str))) : Int)))
                          (((0 : Int) ≤ (↑b_1 : Int) ∧ (↑b_1 : Int) < (↑(ByteArray.size (List.getD S ((0 : Nat) + b) (Sx.Ty.dflt Sx.Ty.str))) : Int)) ∧
                            (True ∧
                                T13.pcells
                                      (T13.PS.st (Prod.fst (T13.pfeed s0 (T13.flat (List.take b S) ++ List.take b_1 (Sx.strInts (List.getD S ((0 : Nat) + b) (Sx.Ty.dflt Sx.Ty.str)))))))
                                      (Sx.bsOf
                                        (T13.PS.half
                                          (Prod.fst (T13.pfeed s0 (T13.flat (List.take b S) ++ List.take b_1 (Sx.strInts (List.getD S ((0 : Nat) + b) (Sx.Ty.dflt Sx.Ty.str))))))))
                                      (List.length
                                        (T13.PS.inter
                                          (Prod.fst (T13.pfeed s0 (T13.flat (List.take b S) ++ List.take b_1 (Sx.strInts (List.getD S ((0 : Nat) + b) (Sx.Ty.dflt Sx.Ty.str))))))))
                                      (T13.PS.wrong
                                        (Prod.fst (T13.pfeed s0 (T13.flat (List.take b S) ++ List.take b_1 (Sx.strInts (List.getD S ((0 : Nat) + b) (Sx.Ty.dflt Sx.Ty.str)))))))
                                      (T13.PS.first
                                        (Prod.fst (T13.pfeed s0 (T13.flat (List.take b S) ++ List.take b_1 (Sx.strInts (List.getD S ((0 : Nat) + b) (Sx.Ty.dflt Sx.Ty.str)))))))
                                      (T13.PS.mark
                                        (Prod.fst (T13.pfeed s0 (T13.flat (List.take b S) ++ List.take b_1 (Sx.strInts (List.getD S ((0 : Nat) + b) (Sx.Ty.dflt Sx.Ty.str)))))))
                                      (List.length
                                        (T13.PS.nums
                                          (Prod.fst (T13.pfeed s0 (T13.flat (List.take b S) ++ List.take b_1 (Sx.strInts (List.getD S ((0 : Nat) + b) (Sx.Ty.dflt Sx.Ty.str))))))))
                                      (T13.PS.full
                                        (Prod.fst (T13.pfeed s0 (T13.flat (List.take b S) ++ List.take b_1 (Sx.strInts (List.getD S ((0 : Nat) + b) (Sx.Ty.dflt Sx.Ty.str)))))))
                                      (List.length
                                        (T13.PS.text
                                          (Prod.fst (T13.pfeed s0 (T13.flat (List.take b S) ++ List.take b_1 (Sx.strInts (List.getD S ((0 : Nat) + b) (Sx.Ty.dflt Sx.Ty.str))))))))
                                      (List.length
                                        (Prod.snd (T13.pfeed s0 (T13.flat (List.take b S) ++ List.take b_1 (Sx.strInts (List.getD S ((0 : Nat) + b) (Sx.Ty.dflt Sx.Ty.str))))))) =
                                    T13.pcells
                                      (T13.PS.st (Prod.fst (T13.pfeed s0 (T13.flat (List.take b S) ++ List.take b_1 (Sx.strInts (List.getD S ((0 : Nat) + b) (Sx.Ty.dflt Sx.Ty.str)))))))
                                      (Sx.bsOf
                                        (T13.PS.half
                                          (Prod.fst (T13.pfeed s0 (T13.flat (List.take b S) ++ List.take b_1 (Sx.strInts (List.getD S ((0 : Nat) + b) (Sx.Ty.dflt Sx.Ty.str))))))))
                                      (List.length
                                        (T13.PS.inter
                                          (Prod.fst (T13.pfeed s0 (T13.flat (List.take b S) ++ List.take b_1 (Sx.strInts (List.getD S ((0 : Nat) + b) (Sx.Ty.dflt Sx.Ty.str))))))))
                                      (T13.PS.wrong
                                        (Prod.fst (T13.pfeed s0 (T13.flat (List.take b S) ++ List.take b_1 (Sx.strInts (List.getD S ((0 : Nat) + b) (Sx.Ty.dflt Sx.Ty.str)))))))
                                      (T13.PS.first
                                        (Prod.fst (T13.pfeed s0 (T13.flat (List.take b S) ++ List.take b_1 (Sx.strInts (List.getD S ((0 : Nat) + b) (Sx.Ty.dflt Sx.Ty.str)))))))
                                      (T13.PS.mark
                                        (Prod.fst (T13.pfeed s0 (T13.flat (List.take b S) ++ List.take b_1 (Sx.strInts (List.getD S ((0 : Nat) + b) (Sx.Ty.dflt Sx.Ty.str)))))))
                                      (List.length
                                        (T13.PS.nums
                                          (Prod.fst (T13.pfeed s0 (T13.flat (List.take b S) ++ List.take b_1 (Sx.strInts (List.getD S ((0 : Nat) + b) (Sx.Ty.dflt Sx.Ty.str))))))))
                                      (T13.PS.full
                                        (Prod.fst (T13.pfeed s0 (T13.flat (List.take b S) ++ List.take b_1 (Sx.strInts (List.getD S ((0 : Nat) + b) (Sx.Ty.dflt Sx.Ty.str)))))))
                                      (List.length
                                        (T13.PS.text
                                          (Prod.fst (T13.pfeed s0 (T13.flat (List.take b S) ++ List.take b_1 (Sx.strInts (List.getD S ((0 : Nat) + b) (Sx.Ty.dflt Sx.Ty.str))))))))
                                      (List.length
                                        (Prod.snd (T13.pfeed s0 (T13.flat (List.take b S) ++ List.take b_1 (Sx.strInts (List.getD S ((0 : Nat) + b) (Sx.Ty.dflt Sx.Ty.str))))))) ∧
                                  T13.Ready
                                    {
                                      st :=
                                        T13.PS.st (Prod.fst (T13.pfeed s0 (T13.flat (List.take b S) ++ List.take b_1 (Sx.strInts (List.getD S ((0 : Nat) + b) (Sx.Ty.dflt Sx.Ty.str)))))),
                                      half :=
                                        Sx.strInts
                                          (Sx.bsOf
                                            (T13.PS.half
                                              (Prod.fst (T13.pfeed s0 (T13.flat (List.take b S) ++ List.take b_1 (Sx.strInts (List.getD S ((0 : Nat) + b) (Sx.Ty.dflt Sx.Ty.str)))))))),
                                      inter :=
                                        T13.PS.inter
                                          (Prod.fst (T13.pfeed s0 (T13.flat (List.take b S) ++ List.take b_1 (Sx.strInts (List.getD S ((0 : Nat) + b) (Sx.Ty.dflt Sx.Ty.str)))))),
                                      wrong :=
                                        T13.PS.wrong
                                          (Prod.fst (T13.pfeed s0 (T13.flat (List.take b S) ++ List.take b_1 (Sx.strInts (List.getD S ((0 : Nat) + b) (Sx.Ty.dflt Sx.Ty.str)))))),
                                      first :=
                                        T13.PS.first
                                          (Prod.fst (T13.pfeed s0 (T13.flat (List.take b S) ++ List.take b_1 (Sx.strInts (List.getD S ((0 : Nat) + b) (Sx.Ty.dflt Sx.Ty.str)))))),
                                      mark :=
                                        T13.PS.mark
                                          (Prod.fst (T13.pfeed s0 (T13.flat (List.take b S) ++ List.take b_1 (Sx.strInts (List.getD S ((0 : Nat) + b) (Sx.Ty.dflt Sx.Ty.str)))))),
                                      nums :=
                                        T13.PS.nums
                                          (Prod.fst (T13.pfeed s0 (T13.flat (List.take b S) ++ List.take b_1 (Sx.strInts (List.getD S ((0 : Nat) + b) (Sx.Ty.dflt Sx.Ty.str)))))),
                                      full :=
                                        T13.PS.full
                                          (Prod.fst (T13.pfeed s0 (T13.flat (List.take b S) ++ List.take b_1 (Sx.strInts (List.getD S ((0 : Nat) + b) (Sx.Ty.dflt Sx.Ty.str)))))),
                                      text :=
                                        T13.PS.text
                                          (Prod.fst (T13.pfeed s0 (T13.flat (List.take b S) ++ List.take b_1 (Sx.strInts (List.getD S ((0 : Nat) + b) (Sx.Ty.dflt Sx.Ty.str)))))) }
                                    (Sx.byteAt (List.getD S ((0 : Nat) + b) (Sx.Ty.dflt Sx.Ty.str)) (↑b_1 : Int))
                                    (List.length
                                      (Prod.snd (T13.pfeed s0 (T13.flat (List.take b S) ++ List.take b_1 (Sx.strInts (List.getD S ((0 : Nat) + b) (Sx.Ty.dflt Sx.Ty.str)))))))) ∧
                              ∀ (b_2 : T13.PS × List (Sx.Ty.den T13.aty)),
                                T13.StepOf
                                    {
                                      st :=
                                        T13.PS.st (Prod.fst (T13.pfeed s0 (T13.flat (List.take b S) ++ List.take b_1 (Sx.strInts (List.getD S ((0 : Nat) + b) (Sx.Ty.dflt Sx.Ty.str)))))),
                                      half :=
                                        Sx.strInts
                                          (Sx.bsOf
                                            (T13.PS.half
                                              (Prod.fst (T13.pfeed s0 (T13.flat (List.take b S) ++ List.take b_1 (Sx.strInts (List.getD S ((0 : Nat) + b) (Sx.Ty.dflt Sx.Ty.str)))))))),
                                      inter :=
                                        T13.PS.inter
                                          (Prod.fst (T13.pfeed s0 (T13.flat (List.take b S) ++ List.take b_1 (Sx.strInts (List.getD S ((0 : Nat) + b) (Sx.Ty.dflt Sx.Ty.str)))))),
                                      wrong :=
                                        T13.PS.wrong
                                          (Prod.fst (T13.pfeed s0 (T13.flat (List.take b S) ++ List.take b_1 (Sx.strInts (List.getD S ((0 : Nat) + b) (Sx.Ty.dflt Sx.Ty.str)))))),
                                      first :=
                                        T13.PS.first
                                          (Prod.fst (T13.pfeed s0 (T13.flat (List.take b S) ++ List.take b_1 (Sx.strInts (List.getD S ((0 : Nat) + b) (Sx.Ty.dflt Sx.Ty.str)))))),
                                      mark :=
                                        T13.PS.mark
                                          (Prod.fst (T13.pfeed s0 (T13.flat (List.take b S) ++ List.take b_1 (Sx.strInts (List.getD S ((0 : Nat) + b) (Sx.Ty.dflt Sx.Ty.str)))))),
                                      nums :=
                                        T13.PS.nums
                                          (Prod.fst (T13.pfeed s0 (T13.flat (List.take b S) ++ List.take b_1 (Sx.strInts (List.getD S ((0 : Nat) + b) (Sx.Ty.dflt Sx.Ty.str)))))),
                                      full :=
                                        T13.PS.full
                                          (Prod.fst (T13.pfeed s0 (T13.flat (List.take b S) ++ List.take b_1 (Sx.strInts (List.getD S ((0 : Nat) + b) (Sx.Ty.dflt Sx.Ty.str)))))),
                                      text :=
                                        T13.PS.text
                                          (Prod.fst (T13.pfeed s0 (T13.flat (List.take b S) ++ List.take b_1 (Sx.strInts (List.getD S ((0 : Nat) + b) (Sx.Ty.dflt Sx.Ty.str)))))) }
                                    (Sx.byteAt (List.getD S ((0 : Nat) + b) (Sx.Ty.dflt Sx.Ty.str)) (↑b_1 : Int)) b_2 →
                                  (∃ (x' : Nat),
                                      ([Sx.SV.ptr (0 : Nat) (0 : Nat), Sx.SV.lit (Go.Value.string (List.getD S ((0 : Nat) + b) (Sx.Ty.dflt Sx.Ty.str))),
                                              Sx.SV.sl (1 : Nat) (1 : Nat) (0 : Nat) m, Sx.SV.lit (Go.Value.int Go.IntKind.i64 (↑m : Int)),
                                              Sx.SV.lit (Go.Value.int Go.IntKind.i64 (↑b : Int)),
                                              Sx.SV.lit (Go.Value.int Go.IntKind.i64 (↑(ByteArray.size (List.getD S ((0 : Nat) + b) (Sx.Ty.dflt Sx.Ty.str))) : Int)),
                                              Sx.SV.lit (Go.Value.int Go.IntKind.i64 (Go.IntKind.wrap Go.IntKind.i64 ((↑b_1 : Int) + (1 : Int))))],
                                            [Sx.SO.cells (47 : Nat)
                                                (T13.fedP (Prod.fst b_2) (2 : Nat) (3 : Nat) (4 : Nat)
                                                  (Sx.SV.sl (5 : Nat) (7 : Nat) (0 : Nat)
                                                    (List.length
                                                      (Prod.snd
                                                          (T13.pfeed s0 (T13.flat (List.take b S) ++ List.take b_1 (Sx.strInts (List.getD S ((0 : Nat) + b) (Sx.Ty.dflt Sx.Ty.str))))) ++
                                                        Prod.snd b_2)))),
                                              Sx.SO.row (9 : Nat) Sx.Ty.str S, Sx.SO.row (5 : Nat) (Sx.Ty.int Go.IntKind.u8) (T13.PS.inter (Prod.fst b_2)),
                                              Sx.SO.row (3 : Nat) (Sx.Ty.int Go.IntKind.i64) (T13.PS.nums (Prod.fst b_2)),
                                              Sx.SO.row (5 : Nat) (Sx.Ty.int Go.IntKind.u8) (T13.PS.text (Prod.fst b_2)),
                                              Sx.SO.row (50 : Nat) T13.aty
                                                (Prod.snd (T13.pfeed s0 (T13.flat (List.take b S) ++ List.take b_1 (Sx.strInts (List.getD S ((0 : Nat) + b) (Sx.Ty.dflt Sx.Ty.str))))) ++
                                                  Prod.snd b_2)]) =
                                          ([Sx.SV.ptr (0 : Nat) (0 : Nat), Sx.SV.lit (Go.Value.string (List.getD S ((0 : Nat) + b) (Sx.Ty.dflt Sx.Ty.str))),
                                              Sx.SV.sl (1 : Nat) (1 : Nat) (0 : Nat) m, Sx.SV.lit (Go.Value.int Go.IntKind.i64 (↑m : Int)),
                                              Sx.SV.lit (Go.Value.int Go.IntKind.i64 (↑b : Int)),
                                              Sx.SV.lit (Go.Value.int Go.IntKind.i64 (↑(ByteArray.size (List.getD S ((0 : Nat) + b) (Sx.Ty.dflt Sx.Ty.str))) : Int)),
                                              Sx.SV.lit (Go.Value.int Go.IntKind.i64 (↑x' : Int))],
                                            T13.fheap (T13.pfeed s0 (T13.flat (List.take b S) ++ List.take x' (Sx.strInts (List.getD S ((0 : Nat) + b) (Sx.Ty.dflt Sx.Ty.str))))) S) ∧
                                        x' ≤ ByteArray.size (List.getD S ((0 : Nat) + b) (Sx.Ty.dflt Sx.Ty.str)) ∧
                                          ByteArray.size (List.getD S ((0 : Nat) + b) (Sx.Ty.dflt Sx.Ty.str)) - x' <
                                            ByteArray.size (List.getD S ((0 : Nat) + b) (Sx.Ty.dflt Sx.Ty.str)) - b_1) ∧
                                    True)
                          ((∃ (x' : Nat),
                              ([Sx.SV.ptr (0 : Nat) (0 : Nat), Sx.SV.sl (1 : Nat) (1 : Nat) (0 : Nat) m, Sx.SV.lit (Go.Value.int Go.IntKind.i64 (↑m : Int)),
                                      Sx.SV.lit (Go.Value.int Go.IntKind.i64 (Go.IntKind.wrap Go.IntKind.i64 ((↑b : Int) + (1 : Int))))],
                                    T13.fheap (T13.pfeed s0 (T13.flat (List.take b S) ++ List.take b_1 (Sx.strInts (List.getD S ((0 : Nat) + b) (Sx.Ty.dflt Sx.Ty.str))))) S) =
                                  ([Sx.SV.ptr (0 : Nat) (0 : Nat), Sx.SV.sl (1 : Nat) (1 : Nat) (0 : Nat) m, Sx.SV.lit (Go.Value.int Go.IntKind.i64 (↑m : Int)),
                                      Sx.SV.lit (Go.Value.int Go.IntKind.i64 (↑x' : Int))],
                                    T13.fheap (T13.pfeed s0 (T13.flat (List.take x' S))) S) ∧
                                x' ≤ m ∧ m - x' < m - b) ∧
                            True))
              (Q
                (Sx.SV.sl (5 : Nat) (7 : Nat) (0 : Nat) (List.length (Prod.snd (T13.pfeed s0 (T13.flat (List.take b S))))), T13.fend (T13.pfeed s0 (T13.flat (List.take b S))) S,
                  [(2 : Nat), (3 : Nat), (4 : Nat)]))) (by kernel_rfl) ?_
  have hlast : ∀ i, i ≤ m → (flat (S.take i)).length ≤ 200000 := fun i hi => by have := flat_mono S i m hi; omega
  refine ⟨⟨0, by rfl, by omega⟩, fun i hi => br_intro (fun hlt => ?_) (fun hge => ?_)⟩
  · have hlt := of_decide_eq_true hlt
    have hsucc := flat_succ S i (by omega) Ty.str.dflt
    have hle := hlast (i + 1) (by omega)
    rw [hsucc, List.length_append] at hle
    rw [Nat.zero_add]
    generalize S.getD i Ty.str.dflt = s at *
    rw [strInts_size] at hle
    refine ⟨by omega, by omega, ⟨0, ?_, by omega⟩, fun j hj => br_intro (fun hlt2 => ?_) (fun hge2 => ?_)⟩
    · rw [List.take_zero, List.append_nil]; rfl
    · have hlt2 := of_decide_eq_true hlt2
      obtain ⟨ht, hbyte⟩ := byteAt_take s j (by omega)
      have hok := pfeed_ok hs0 (flat (S.take i) ++ (strInts s).take j)
      have hfew := pfeed_few s0 (flat (S.take i) ++ (strInts s).take j)
      have htk : ((strInts s).take j).length ≤ s.size := by rw [List.length_take, strInts_size]; omega
      rw [List.length_append] at hfew
      have hsn := pfeed_snoc s0 (flat (S.take i) ++ (strInts s).take j) (byteAt s j)
      rw [List.append_assoc, ← ht] at hsn
      refine ⟨by omega, ⟨trivial, rfl, ?_⟩, fun r hr => ⟨⟨j + 1, ?_, by omega, by omega⟩, trivial⟩⟩
      · rw [PS.eta hok.half]; exact ⟨hok, hbyte, by omega⟩
      · obtain ⟨hr⟩ := hr
        rw [PS.eta hok.half] at hr
        rw [hsn, ← hr, wrap1 j (by omega)]; rfl
    · have hge2 := of_decide_eq_false hge2
      have hj2 : j = s.size := by omega
      have hall : (strInts s).take j = strInts s := by rw [hj2, ← strInts_size, List.take_length]
      refine ⟨⟨i + 1, ?_, by omega, by omega⟩, trivial⟩
      rw [hall, wrap1 i (by omega), hsucc]
  · have hge := of_decide_eq_false hge
    have : i = m := by omega
    subst this
    exact hq
structure FeedOf (s : PS) (l : List ByteArray) (r : PS × List aty.den) : Prop where
  eq : r = pfeed s (flat l)
structure FeedOK (s : PS) (l : List ByteArray) : Prop where
  ok : s.OK
  few : (flat l).length ≤ 200000
  parts : l.length ≤ 1000000
noncomputable def s12 : Summ := fun args H => match args, H with
  | [.ptr 0 0, .sl 1 1 0 m], [.cells 47 cs, .row 9 .str S] => .need (cs = newP ∧ m ≤ S.length ∧ FeedOK ps0 (S.take m)) (.any (PS × List aty.den) (FeedOf ps0 (S.take m)) fun r => .ret (.sl 5 7 0 r.2.length, fend r S, [2, 3, 4]))
  | [.ptr 0 0, .sl 1 1 0 m], [.cells 47 cs, .row 9 .str S, .row 5 (.int .u8) it, .row 3 (.int .i64) nu, .row 5 (.int .u8) tx] => match cs.drop 33 with
    | [.lit (.int .i64 st), .lit (.string h), .sl 2 1 0 ni, .lit (.bool wr), .lit (.bool fi), .lit (.int .i64 mk), .sl 3 1 0 nn, .lit (.bool fu), .sl 4 1 0 nt, .lit (.slice none 0 0)] =>
      .need (cs = fedP ⟨st, strInts h, it, wr, fi, mk, nu, fu, tx⟩ 2 3 4 nilV ∧ m ≤ S.length ∧ FeedOK ⟨st, strInts h, it, wr, fi, mk, nu, fu, tx⟩ (S.take m)) (.any (PS × List aty.den) (FeedOf ⟨st, strInts h, it, wr, fi, mk, nu, fu, tx⟩ (S.take m)) fun r => .ret (.sl 5 7 0 r.2.length, fend r S, [2, 3, 4]))
    | _ => .fail
  | _, _ => .fail
theorem s12_ok : SummOK Try.prog 12 s12 := by
  refine summ_of_body (fn := Try.f12) (c := Try.f12.body.get!) U5_ok (by kernel_rfl) (by kernel_rfl) (by kernel_rfl) fun args H Q h => ?_
  unfold s12 at h
  split at h
  · rename_i m cs S
    simp only [Tree.Leads] at h
    obtain ⟨⟨rfl, h2, h3⟩, hq⟩ := h
    have hl := h3.parts
    rw [List.length_take] at hl
    exact ⟨_, v12f ps0 ps0_ok S m Q h2 h3.few (by omega) rfl (hq _ ⟨rfl⟩)⟩
  · rename_i m cs S it nu tx
    split at h
    case h_2 => simp only [Tree.Leads] at h
    rename_i st h' ni wr fi mk nn fu nt hcs
    simp only [Tree.Leads] at h
    obtain ⟨⟨rfl, h2, h3⟩, hq⟩ := h
    have hl := h3.parts
    rw [List.length_take] at hl
    exact ⟨_, v12u _ h3.ok S m Q h2 h3.few (by omega) (hq _ ⟨rfl⟩)⟩
  · simp only [Tree.Leads] at h

end T13
