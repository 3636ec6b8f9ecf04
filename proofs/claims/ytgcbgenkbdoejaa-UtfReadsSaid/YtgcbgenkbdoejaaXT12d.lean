/- Part of a proof: the walk of the functions that the law calls. -/
import Derived.Test.YtgcbgenkbdoejaaSxT
import Derived.Test.YtgcbgenkbdoejaaXT12c
import Derived.Test.YtgcbgenkbdoejaaXPL
set_option linter.unusedVariables false
open Go Sx Go.Proofs
namespace T12
set_option maxRecDepth 100000
set_option maxHeartbeats 1000000
attribute [local irreducible] Tree.Leads
theorem wrap1 (n : Nat) (h : n ≤ 1099511627776) : IntKind.i64.wrap ((n : Int) + 1) = ((n + 1 : Nat) : Int) := by rw [IntKind.wrap_i64]; omega
theorem decF {p : Prop} [Decidable p] (h : ¬ p) : decide p = false := decide_eq_false h
noncomputable def A13 (X Y : List Int) (L : Nat) : Ann := { live := [0, 1, 5], mv := [], head := fun vals H => match vals with | [a, b, _] => { X := Nat, inv := fun i => ([a, b, .lit (.int .i64 i)], H), ok := fun i => i ≤ L ∧ X.take i = Y.take i, mu := fun i => L - i } | _ => { X := Nat, inv := fun _ => ([], []), ok := fun _ => False, mu := fun _ => 0 } }
theorem v13 (A B : List Int) (a b m n : Nat) (Q : SV × Heap × List Nat → Prop) (hm : a + m ≤ A.length) (hn : b + n ≤ B.length) (hm2 : m ≤ 1000000) (hq : Q (.lit (.bool (decide ((A.drop a).take m = (B.drop b).take n))), [.row 21 (.int .i32) A, .row 21 (.int .i32) B], [])) : (bodySumm T3 Try.prog Try.f13 (An1 0 (A13 ((A.drop a).take m) ((B.drop b).take n) m)) [.sl 0 1 a m, .sl 1 1 b n] [.row 21 (.int .i32) A, .row 21 (.int .i32) B]).Leads Q := by
  refine Sx.by_text (q :=
      Sx.br ((↑m : Int) != (↑n : Int)) (Q (Sx.SV.lit (Go.Value.bool Bool.false), [Sx.SO.row (21 : Nat) (Sx.Ty.int Go.IntKind.i32) A, Sx.SO.row (21 : Nat) (Sx.Ty.int
      Go.IntKind.i32) B], [])) ((∃ (x : Nat), ([Sx.SV.sl (0 : Nat) (1 : Nat) a m, Sx.SV.sl (1 : Nat) (1 : Nat) b n, Sx.SV.lit (Go.Value.int Go.IntKind.i64 (0 : Int))],
      [Sx.SO.row (21 : Nat) (Sx.Ty.int Go.IntKind.i32) A, Sx.SO.row (21 : Nat) (Sx.Ty.int Go.IntKind.i32) B]) = ([Sx.SV.sl (0 : Nat) (1 : Nat) a m, Sx.SV.sl (1 : Nat) (1 : Nat)
      b n, Sx.SV.lit (Go.Value.int Go.IntKind.i64 (↑x : Int))], [Sx.SO.row (21 : Nat) (Sx.Ty.int Go.IntKind.i32) A, Sx.SO.row (21 : Nat) (Sx.Ty.int Go.IntKind.i32) B]) ∧ x ≤ m ∧
      List.take x (List.take m (List.drop a A)) = List.take x (List.take n (List.drop b B))) ∧ ∀ (b_1 : Nat), b_1 ≤ m ∧ List.take b_1 (List.take m (List.drop a A)) = List.take
      b_1 (List.take n (List.drop b B)) → Sx.br (Decidable.decide ((↑b_1 : Int) < (↑m : Int))) (((0 : Int) ≤ (↑b_1 : Int) ∧ (↑b_1 : Int) < (↑m : Int)) ∧ a + b_1 < List.length A
      ∧ ((0 : Int) ≤ (↑b_1 : Int) ∧ (↑b_1 : Int) < (↑n : Int)) ∧ b + b_1 < List.length B ∧ Sx.br (!List.getD A (a + b_1) (Sx.Ty.dflt (Sx.Ty.int Go.IntKind.i32)) == List.getD B
      (b + b_1) (Sx.Ty.dflt (Sx.Ty.int Go.IntKind.i32))) (Q (Sx.SV.lit (Go.Value.bool Bool.false), [Sx.SO.row (21 : Nat) (Sx.Ty.int Go.IntKind.i32) A, Sx.SO.row (21 : Nat)
      (Sx.Ty.int Go.IntKind.i32) B], [])) ((∃ (x' : Nat), ([Sx.SV.sl (0 : Nat) (1 : Nat) a m, Sx.SV.sl (1 : Nat) (1 : Nat) b n, Sx.SV.lit (Go.Value.int Go.IntKind.i64
      (Go.IntKind.wrap Go.IntKind.i64 ((↑b_1 : Int) + (1 : Int))))], [Sx.SO.row (21 : Nat) (Sx.Ty.int Go.IntKind.i32) A, Sx.SO.row (21 : Nat) (Sx.Ty.int Go.IntKind.i32) B]) =
      ([Sx.SV.sl (0 : Nat) (1 : Nat) a m, Sx.SV.sl (1 : Nat) (1 : Nat) b n, Sx.SV.lit (Go.Value.int Go.IntKind.i64 (↑x' : Int))], [Sx.SO.row (21 : Nat) (Sx.Ty.int
      Go.IntKind.i32) A, Sx.SO.row (21 : Nat) (Sx.Ty.int Go.IntKind.i32) B]) ∧ (x' ≤ m ∧ List.take x' (List.take m (List.drop a A)) = List.take x' (List.take n (List.drop b B)))
      ∧ m - x' < m - b_1) ∧ True)) (Q (Sx.SV.lit (Go.Value.bool Bool.true), [Sx.SO.row (21 : Nat) (Sx.Ty.int Go.IntKind.i32) A, Sx.SO.row (21 : Nat) (Sx.Ty.int Go.IntKind.i32)
      B], [])))) (by kernel_rfl) ?_
  generalize hX : (A.drop a).take m = X at *
  have hXl : X.length = m := by rw [← hX]; exact PL.part_len A a m hm
  have hXg : ∀ i, i < m → A.getD (a + i) (Ty.int IntKind.i32).dflt = X.getD i (Ty.int IntKind.i32).dflt := fun i hi => by rw [← hX]; exact PL.getD_part A a m i _ hi
  generalize hY : (B.drop b).take n = Y at *
  have hYl : Y.length = n := by rw [← hY]; exact PL.part_len B b n hn
  have hYg : ∀ i, i < n → B.getD (b + i) (Ty.int IntKind.i32).dflt = Y.getD i (Ty.int IntKind.i32).dflt := fun i hi => by rw [← hY]; exact PL.getD_part B b n i _ hi
  refine br_intro (fun h => ?_) (fun h => ?_)
  · have h : (m : Int) ≠ (n : Nat) := by simpa using h
    rw [decF (p := X = Y) (fun e => by rw [e] at hXl; omega)] at hq
    exact hq
  · have h : (m : Int) = (n : Nat) := by simpa using h
    refine ⟨⟨0, rfl, by omega, rfl⟩, fun i hi => br_intro (fun hlt => ?_) (fun hge => ?_)⟩
    · have hlt := of_decide_eq_true hlt
      rw [hXg i (by omega), hYg i (by omega)]
      refine ⟨by omega, by omega, by omega, by omega, br_intro (fun g => ?_) (fun g => ⟨⟨i + 1, ?_, ⟨by omega, ?_⟩, by omega⟩, trivial⟩)⟩
      · have g : X.getD i (Ty.int IntKind.i32).dflt ≠ Y.getD i (Ty.int IntKind.i32).dflt := fun e => by rw [e] at g; simp at g
        rw [decF (PL.not_same g)] at hq
        exact hq
      · rw [wrap1 i (by omega)]
      · have g : X.getD i (Ty.int IntKind.i32).dflt = Y.getD i (Ty.int IntKind.i32).dflt := by
          simpa using g
        exact PL.take_step (by omega) (by omega) hi.2 g
    · have hge := of_decide_eq_false hge
      rw [decide_eq_true (p := X = Y) (PL.take_all (i := i) (by omega) (by omega) hi.2)] at hq
      exact hq
theorem v13i (A B : List Int) (a m : Nat) (Q : SV × Heap × List Nat → Prop) (hm : a + m ≤ A.length) (hm2 : m ≤ 1000000) (hq : Q (.lit (.bool (decide ((A.drop a).take m = B))), [.row 21 (.int .i32) A], [])) : (bodySumm T3 Try.prog Try.f13 (An1 0 (A13 ((A.drop a).take m) B m)) [.sl 0 1 a m, .imm (.int .i32) B] [.row 21 (.int .i32) A]).Leads Q := by
  refine Sx.by_text (q :=
      Sx.br ((↑m : Int) != (↑(List.length B) : Int)) (Q (Sx.SV.lit (Go.Value.bool Bool.false), [Sx.SO.row (21 : Nat) (Sx.Ty.int Go.IntKind.i32) A], [])) ((∃ (x : Nat),
      ([Sx.SV.sl (0 : Nat) (1 : Nat) a m, Sx.SV.imm (Sx.Ty.int Go.IntKind.i32) B, Sx.SV.lit (Go.Value.int Go.IntKind.i64 (0 : Int))], [Sx.SO.row (21 : Nat) (Sx.Ty.int
      Go.IntKind.i32) A]) = ([Sx.SV.sl (0 : Nat) (1 : Nat) a m, Sx.SV.imm (Sx.Ty.int Go.IntKind.i32) B, Sx.SV.lit (Go.Value.int Go.IntKind.i64 (↑x : Int))], [Sx.SO.row (21 :
      Nat) (Sx.Ty.int Go.IntKind.i32) A]) ∧ x ≤ m ∧ List.take x (List.take m (List.drop a A)) = List.take x B) ∧ ∀ (b : Nat), b ≤ m ∧ List.take b (List.take m (List.drop a A)) =
      List.take b B → Sx.br (Decidable.decide ((↑b : Int) < (↑m : Int))) (((0 : Int) ≤ (↑b : Int) ∧ (↑b : Int) < (↑m : Int)) ∧ a + b < List.length A ∧ ((0 : Int) ≤ (↑b : Int) ∧
      (↑b : Int) < (↑(List.length B) : Int)) ∧ b < List.length B ∧ Sx.br (!List.getD A (a + b) (Sx.Ty.dflt (Sx.Ty.int Go.IntKind.i32)) == List.getD B b (Sx.Ty.dflt (Sx.Ty.int
      Go.IntKind.i32))) (Q (Sx.SV.lit (Go.Value.bool Bool.false), [Sx.SO.row (21 : Nat) (Sx.Ty.int Go.IntKind.i32) A], [])) ((∃ (x' : Nat), ([Sx.SV.sl (0 : Nat) (1 : Nat) a m,
      Sx.SV.imm (Sx.Ty.int Go.IntKind.i32) B, Sx.SV.lit (Go.Value.int Go.IntKind.i64 (Go.IntKind.wrap Go.IntKind.i64 ((↑b : Int) + (1 : Int))))], [Sx.SO.row (21 : Nat)
      (Sx.Ty.int Go.IntKind.i32) A]) = ([Sx.SV.sl (0 : Nat) (1 : Nat) a m, Sx.SV.imm (Sx.Ty.int Go.IntKind.i32) B, Sx.SV.lit (Go.Value.int Go.IntKind.i64 (↑x' : Int))],
      [Sx.SO.row (21 : Nat) (Sx.Ty.int Go.IntKind.i32) A]) ∧ (x' ≤ m ∧ List.take x' (List.take m (List.drop a A)) = List.take x' B) ∧ m - x' < m - b) ∧ True)) (Q (Sx.SV.lit
      (Go.Value.bool Bool.true), [Sx.SO.row (21 : Nat) (Sx.Ty.int Go.IntKind.i32) A], [])))) (by kernel_rfl) ?_
  generalize hX : (A.drop a).take m = X at *
  have hXl : X.length = m := by rw [← hX]; exact PL.part_len A a m hm
  have hXg : ∀ i, i < m → A.getD (a + i) (Ty.int IntKind.i32).dflt = X.getD i (Ty.int IntKind.i32).dflt := fun i hi => by rw [← hX]; exact PL.getD_part A a m i _ hi
  refine br_intro (fun h => ?_) (fun h => ?_)
  · have h : (m : Int) ≠ (B.length : Nat) := by simpa using h
    rw [decF (p := X = B) (fun e => by rw [e] at hXl; omega)] at hq
    exact hq
  · have h : (m : Int) = (B.length : Nat) := by simpa using h
    refine ⟨⟨0, rfl, by omega, rfl⟩, fun i hi => br_intro (fun hlt => ?_) (fun hge => ?_)⟩
    · have hlt := of_decide_eq_true hlt
      rw [hXg i (by omega)]
      refine ⟨by omega, by omega, by omega, by omega, br_intro (fun g => ?_) (fun g => ⟨⟨i + 1, ?_, ⟨by omega, ?_⟩, by omega⟩, trivial⟩)⟩
      · have g : X.getD i (Ty.int IntKind.i32).dflt ≠ B.getD i (Ty.int IntKind.i32).dflt := fun e => by rw [e] at g; simp at g
        rw [decF (PL.not_same g)] at hq
        exact hq
      · rw [wrap1 i (by omega)]
      · have g : X.getD i (Ty.int IntKind.i32).dflt = B.getD i (Ty.int IntKind.i32).dflt := by
          simpa using g
        exact PL.take_step (by omega) (by omega) hi.2 g
    · have hge := of_decide_eq_false hge
      rw [decide_eq_true (p := X = B) (PL.take_all (i := i) (by omega) (by omega) hi.2)] at hq
      exact hq
noncomputable def s13 : Summ := fun args H => match args, H with
  | [.sl 0 1 a m, .sl 1 1 b n], [.row 21 (.int .i32) A, .row 21 (.int .i32) B] => .need (a + m ≤ A.length ∧ b + n ≤ B.length ∧ m ≤ 1000000) (.ret (.lit (.bool (decide ((A.drop a).take m = (B.drop b).take n))), [.row 21 (.int .i32) A, .row 21 (.int .i32) B], []))
  | [.sl 0 1 a m, .imm (.int .i32) B], [.row 21 (.int .i32) A] => .need (a + m ≤ A.length ∧ m ≤ 1000000) (.ret (.lit (.bool (decide ((A.drop a).take m = B))), [.row 21 (.int .i32) A], []))
  | _, _ => .fail
theorem s13_ok : SummOK Try.prog 13 s13 := by
  refine summ_of_body (fn := Try.f13) (c := Try.f13.body.get!) T3_ok (by kernel_rfl) (by kernel_rfl) (by kernel_rfl) fun args H Q h => ?_
  unfold s13 at h
  split at h
  · rename_i a m b n A B
    simp only [Tree.Leads] at h
    obtain ⟨⟨h1, h2, h3⟩, hq⟩ := h
    exact ⟨_, v13 A B a b m n Q h1 h2 h3 hq⟩
  · rename_i a m B A
    simp only [Tree.Leads] at h
    obtain ⟨⟨h1, h3⟩, hq⟩ := h
    exact ⟨_, v13i A B a m Q h1 h3 hq⟩
  · simp only [Tree.Leads] at h
noncomputable def s14 : Summ := fun args H => match args, H with
  | [.ptr 0 0, .sl 1 1 0 m], [.cells 29 [.lit (.string h)], .row 9 .str S] => .need (Good (strInts h) ∧ m ≤ S.length ∧ (flat (S.take m)).length ≤ 900000 ∧ m ≤ 1000000) (.ret (.sl 2 1 0 (feed (strInts h) (flat (S.take m))).1.length, [.cells 29 [.lit (.string (bsOf (feed (strInts h) (flat (S.take m))).2))], .row 9 .str S, .row 21 (.int .i32) (feed (strInts h) (flat (S.take m))).1], []))
  | _, _ => .fail
theorem s14_ok : SummOK Try.prog 14 s14 := by
  refine summ_of_body (fn := Try.f14) (c := Try.f14.body.get!) T3_ok (by kernel_rfl) (by kernel_rfl) (by kernel_rfl) fun args H Q h => ?_
  unfold s14 at h
  split at h
  · rename_i m h' S
    simp only [Tree.Leads] at h
    obtain ⟨⟨h1, h2, h3, h4⟩, hq⟩ := h
    exact ⟨_, v14 h' S m Q h1 h2 h3 h4 hq⟩
  · simp only [Tree.Leads] at h
theorem enc_len (r : Int) : 1 ≤ (enc r).length ∧ (enc r).length ≤ 4 := by
  rcases enc_cases r with h | h | h | h | h
  · rw [enc1 h]; exact ⟨by simp, by simp⟩
  · rw [enc2 h]; exact ⟨by simp, by simp⟩
  · rw [enc3 h]; exact ⟨by simp, by simp⟩
  · rw [enc4 h]; exact ⟨by simp, by simp⟩
  · rw [enc0 h]; decide
theorem encs_len (L : List Int) : (L.flatMap enc).length ≤ 4 * L.length := by
  induction L with
  | nil => simp
  | cons x L ih => have := (enc_len x).2; rw [List.flatMap_cons, List.length_append, List.length_cons]; omega
theorem encs_succ (R : List Int) (m i : Nat) (d : Int) (h : i < m) (hm : m ≤ R.length) : ((R.take m).take (i + 1)).flatMap enc = ((R.take m).take i).flatMap enc ++ enc (R.getD i d) := by
  have h' : i < (R.take m).length := by rw [List.length_take]; omega
  have e := PL.getD_part R 0 m i d h
  rw [List.drop_zero, Nat.zero_add] at e
  rw [e, List.take_add_one, List.getElem?_eq_getElem h', List.getD_eq_getElem?_getD, List.getElem?_eq_getElem h']
  simp only [List.flatMap_append, Option.toList, List.flatMap_cons, List.flatMap_nil, List.append_nil, Option.getD]
noncomputable def A12 (L : List Int) : Ann := { live := [3, 6, 7, 8], mv := [], nilS := [(3, 5, .int .u8)], head := fun vals H => match vals, H with | [_, b, c, _], (X :: _) => { X := Nat, inv := fun i => ([.sl 1 1 0 ((L.take i).flatMap enc).length, b, c, .lit (.int .i64 i)], [X, .row 5 (.int .u8) ((L.take i).flatMap enc)]), ok := fun i => i ≤ L.length, mu := fun i => L.length - i } | _, _ => { X := Nat, inv := fun _ => ([], []), ok := fun _ => False, mu := fun _ => 0 } }
theorem v12 (R : List Int) (m : Nat) (Q : SV × Heap × List Nat → Prop) (hm : m ≤ R.length) (hm2 : m ≤ 1000) (hr : ∀ x ∈ R, -2147483648 ≤ x ∧ x ≤ 2147483647) (hq : Q (.lit (.string (bsOf ((R.take m).flatMap enc))), [.row 21 (.int .i32) R], [])) :
    (bodySumm T3 Try.prog Try.f12 (An1 0 (A12 (R.take m))) [.sl 0 1 0 m] [.row 21 (.int .i32) R]).Leads Q := by
  refine Sx.by_text (q :=
      (∃ (x : Nat), ([Sx.SV.sl (1 : Nat) (1 : Nat) (0 : Nat) (0 : Nat), Sx.SV.sl (0 : Nat) (1 : Nat) (0 : Nat) m, Sx.SV.lit (Go.Value.int Go.IntKind.i64 (↑m : Int)), Sx.SV.lit
      (Go.Value.int Go.IntKind.i64 (0 : Int))], [Sx.SO.row (21 : Nat) (Sx.Ty.int Go.IntKind.i32) R, Sx.SO.row (5 : Nat) (Sx.Ty.int Go.IntKind.u8) []]) = ([Sx.SV.sl (1 : Nat) (1
      : Nat) (0 : Nat) (List.length (List.flatMap T12.enc (List.take x (List.take m R)))), Sx.SV.sl (0 : Nat) (1 : Nat) (0 : Nat) m, Sx.SV.lit (Go.Value.int Go.IntKind.i64 (↑m :
      Int)), Sx.SV.lit (Go.Value.int Go.IntKind.i64 (↑x : Int))], [Sx.SO.row (21 : Nat) (Sx.Ty.int Go.IntKind.i32) R, Sx.SO.row (5 : Nat) (Sx.Ty.int Go.IntKind.u8) (List.flatMap
      T12.enc (List.take x (List.take m R)))]) ∧ x ≤ List.length (List.take m R)) ∧ ∀ (b : Nat), b ≤ List.length (List.take m R) → Sx.br (Decidable.decide ((↑b : Int) < (↑m :
      Int))) (((0 : Int) ≤ (↑b : Int) ∧ (↑b : Int) < (↑m : Int)) ∧ (0 : Nat) + b < List.length R ∧ (List.length (List.flatMap T12.enc (List.take b (List.take m R))) =
      List.length (List.flatMap T12.enc (List.take b (List.take m R))) ∧ ((-2147483648 : Int) ≤ List.getD R ((0 : Nat) + b) (Sx.Ty.dflt (Sx.Ty.int Go.IntKind.i32)) ∧ List.getD R
      ((0 : Nat) + b) (Sx.Ty.dflt (Sx.Ty.int Go.IntKind.i32)) ≤ (2147483647 : Int)) ∧ List.length (List.flatMap T12.enc (List.take b (List.take m R))) ≤ (1000000 : Nat)) ∧ (∃
      (x' : Nat), ([Sx.SV.sl (1 : Nat) (1 : Nat) (0 : Nat) (List.length (List.flatMap T12.enc (List.take b (List.take m R))) + List.length (T12.enc (List.getD R ((0 : Nat) + b)
      (Sx.Ty.dflt (Sx.Ty.int Go.IntKind.i32))))), Sx.SV.sl (0 : Nat) (1 : Nat) (0 : Nat) m, Sx.SV.lit (Go.Value.int Go.IntKind.i64 (↑m : Int)), Sx.SV.lit (Go.Value.int
      Go.IntKind.i64 (Go.IntKind.wrap Go.IntKind.i64 ((↑b : Int) + (1 : Int))))], [Sx.SO.row (21 : Nat) (Sx.Ty.int Go.IntKind.i32) R, Sx.SO.row (5 : Nat) (Sx.Ty.int
      Go.IntKind.u8) (List.flatMap T12.enc (List.take b (List.take m R)) ++ T12.enc (List.getD R ((0 : Nat) + b) (Sx.Ty.dflt (Sx.Ty.int Go.IntKind.i32))))]) = ([Sx.SV.sl (1 :
      Nat) (1 : Nat) (0 : Nat) (List.length (List.flatMap T12.enc (List.take x' (List.take m R)))), Sx.SV.sl (0 : Nat) (1 : Nat) (0 : Nat) m, Sx.SV.lit (Go.Value.int
      Go.IntKind.i64 (↑m : Int)), Sx.SV.lit (Go.Value.int Go.IntKind.i64 (↑x' : Int))], [Sx.SO.row (21 : Nat) (Sx.Ty.int Go.IntKind.i32) R, Sx.SO.row (5 : Nat) (Sx.Ty.int
      Go.IntKind.u8) (List.flatMap T12.enc (List.take x' (List.take m R)))]) ∧ x' ≤ List.length (List.take m R) ∧ List.length (List.take m R) - x' < List.length (List.take m R)
      - b) ∧ True) ((0 : Nat) + List.length (List.flatMap T12.enc (List.take b (List.take m R))) ≤ List.length (List.flatMap T12.enc (List.take b (List.take m R))) ∧ Q
      (Sx.SV.lit (Go.Value.string (Sx.bsOf (List.take (List.length (List.flatMap T12.enc (List.take b (List.take m R)))) (List.drop (0 : Nat) (List.flatMap T12.enc (List.take b
      (List.take m R))))))), [Sx.SO.row (21 : Nat) (Sx.Ty.int Go.IntKind.i32) R], []))) (by kernel_rfl) ?_
  have hl : (R.take m).length = m := by rw [List.length_take]; omega
  refine ⟨⟨0, rfl, by omega⟩, fun i hi => br_intro (fun hlt => ?_) (fun hge => ?_)⟩
  · have hlt := of_decide_eq_true hlt
    have hlen := encs_len ((R.take m).take i)
    have hti : ((R.take m).take i).length ≤ i := by rw [List.length_take]; omega
    have hmem : R.getD (0 + i) (Ty.int IntKind.i32).dflt ∈ R := by
      rw [Nat.zero_add, List.getD_eq_getElem?_getD, List.getElem?_eq_getElem (by omega)]
      exact List.getElem_mem _
    refine ⟨by omega, by omega, ⟨rfl, hr _ hmem, by omega⟩, ⟨i + 1, ?_, by omega, by omega⟩, trivial⟩
    rw [wrap1 i (by omega), encs_succ R m i (Ty.int IntKind.i32).dflt (by omega) hm, Nat.zero_add, List.length_append]
  · have hge := of_decide_eq_false hge
    have : i = m := by omega
    subst this
    have e : (R.take i).take i = R.take i := by rw [List.take_take, Nat.min_self]
    rw [e]
    refine ⟨by omega, ?_⟩
    rw [List.drop_zero, List.take_length]
    exact hq
noncomputable def s12 : Summ := fun args H => match args, H with
  | [.sl 0 1 0 m], [.row 21 (.int .i32) R] => .need (m ≤ R.length ∧ m ≤ 1000 ∧ ∀ x ∈ R, -2147483648 ≤ x ∧ x ≤ 2147483647) (.ret (.lit (.string (bsOf ((R.take m).flatMap enc))), [.row 21 (.int .i32) R], []))
  | _, _ => .fail
theorem s12_ok : SummOK Try.prog 12 s12 := by
  refine summ_of_body (fn := Try.f12) (c := Try.f12.body.get!) T3_ok (by kernel_rfl) (by kernel_rfl) (by kernel_rfl) fun args H Q h => ?_
  unfold s12 at h
  split at h
  · rename_i m R
    simp only [Tree.Leads] at h
    obtain ⟨⟨h1, h2, h3⟩, hq⟩ := h
    exact ⟨_, v12 R m Q h1 h2 h3 hq⟩
  · simp only [Tree.Leads] at h
noncomputable def T4 : Table := (((((T3.add 12 (.go s12)).add 13 (.go s13)).add 14 (.go s14)).add 15 (.go (bodySumm T3 Try.prog Try.f15 noAn))).add 25 (.go (bodySumm T3 Try.prog Try.f25 noAn))).add 28 (.go (bodySumm T3 Try.prog Try.f28 noAn))
theorem T4_ok : TableOK Try.prog T4 := by
  refine add_ok (add_ok (add_ok (add_ok (add_ok (add_ok T3_ok s12_ok) s13_ok) s14_ok) ?_) ?_) ?_
  · exact bodySumm_sound (c := Try.f15.body.get!) T3_ok (by kernel_rfl) (by kernel_rfl) (by kernel_rfl)
  · exact bodySumm_sound (c := Try.f25.body.get!) T3_ok (by kernel_rfl) (by kernel_rfl) (by kernel_rfl)
  · exact bodySumm_sound (c := Try.f28.body.get!) T3_ok (by kernel_rfl) (by kernel_rfl) (by kernel_rfl)
noncomputable def T5 : Table := (((T4.add 10 (.go (bodySumm T4 Try.prog Try.f10 noAn))).add 16 (.go (bodySumm T4 Try.prog Try.f16 noAn))).add 18 (.go (bodySumm T4 Try.prog Try.f18 noAn))).add 22 (.go (bodySumm T4 Try.prog Try.f22 noAn))
theorem T5_ok : TableOK Try.prog T5 := by
  refine add_ok (add_ok (add_ok (add_ok T4_ok ?_) ?_) ?_) ?_
  · exact bodySumm_sound (c := Try.f10.body.get!) T4_ok (by kernel_rfl) (by kernel_rfl) (by kernel_rfl)
  · exact bodySumm_sound (c := Try.f16.body.get!) T4_ok (by kernel_rfl) (by kernel_rfl) (by kernel_rfl)
  · exact bodySumm_sound (c := Try.f18.body.get!) T4_ok (by kernel_rfl) (by kernel_rfl) (by kernel_rfl)
  · exact bodySumm_sound (c := Try.f22.body.get!) T4_ok (by kernel_rfl) (by kernel_rfl) (by kernel_rfl)
end T12
