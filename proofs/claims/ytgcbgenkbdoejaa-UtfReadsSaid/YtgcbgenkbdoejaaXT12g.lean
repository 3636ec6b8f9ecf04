/- Part of a proof: the walk of the functions that the law calls. -/
import Derived.Test.YtgcbgenkbdoejaaSxT
import Derived.Test.YtgcbgenkbdoejaaXT12f
set_option linter.unusedVariables false
open Go Sx Go.Proofs
namespace T12
set_option maxRecDepth 100000
set_option maxHeartbeats 1000000
attribute [local irreducible] Tree.Leads
noncomputable def A29 (X Y : List ByteArray) (L : Nat) : Ann := { live := [0, 1, 5], mv := [], head := fun vals H => match vals with | [a, b, _] => { X := Nat, inv := fun i => ([a, b, .lit (.int .i64 i)], H), ok := fun i => i ≤ L ∧ X.take i = Y.take i, mu := fun i => L - i } | _ => { X := Nat, inv := fun _ => ([], []), ok := fun _ => False, mu := fun _ => 0 } }
theorem v29 (A B : List ByteArray) (a b m n : Nat) (Q : SV × Heap × List Nat → Prop) (hm : a + m ≤ A.length) (hn : b + n ≤ B.length) (hm2 : m ≤ 1000000) (hq : Q (.lit (.bool (decide ((A.drop a).take m = (B.drop b).take n))), [.row 9 .str A, .row 9 .str B], [])) : (bodySumm T3 Try.prog Try.f29 (An1 0 (A29 ((A.drop a).take m) ((B.drop b).take n) m)) [.sl 0 1 a m, .sl 1 1 b n] [.row 9 .str A, .row 9 .str B]).Leads Q := by
  refine Sx.by_text (q :=
      Sx.br ((↑m : Int) != (↑n : Int)) (Q (Sx.SV.lit (Go.Value.bool Bool.false), [Sx.SO.row (9 : Nat) Sx.Ty.str A, Sx.SO.row (9 : Nat) Sx.Ty.str B], [])) ((∃ (x : Nat),
      ([Sx.SV.sl (0 : Nat) (1 : Nat) a m, Sx.SV.sl (1 : Nat) (1 : Nat) b n, Sx.SV.lit (Go.Value.int Go.IntKind.i64 (0 : Int))], [Sx.SO.row (9 : Nat) Sx.Ty.str A, Sx.SO.row (9 :
      Nat) Sx.Ty.str B]) = ([Sx.SV.sl (0 : Nat) (1 : Nat) a m, Sx.SV.sl (1 : Nat) (1 : Nat) b n, Sx.SV.lit (Go.Value.int Go.IntKind.i64 (↑x : Int))], [Sx.SO.row (9 : Nat)
      Sx.Ty.str A, Sx.SO.row (9 : Nat) Sx.Ty.str B]) ∧ x ≤ m ∧ List.take x (List.take m (List.drop a A)) = List.take x (List.take n (List.drop b B))) ∧ ∀ (b_1 : Nat), b_1 ≤ m ∧
      List.take b_1 (List.take m (List.drop a A)) = List.take b_1 (List.take n (List.drop b B)) → Sx.br (Decidable.decide ((↑b_1 : Int) < (↑m : Int))) (((0 : Int) ≤ (↑b_1 : Int)
      ∧ (↑b_1 : Int) < (↑m : Int)) ∧ a + b_1 < List.length A ∧ ((0 : Int) ≤ (↑b_1 : Int) ∧ (↑b_1 : Int) < (↑n : Int)) ∧ b + b_1 < List.length B ∧ Sx.br (!List.getD A (a + b_1)
      (Sx.Ty.dflt Sx.Ty.str) == List.getD B (b + b_1) (Sx.Ty.dflt Sx.Ty.str)) (Q (Sx.SV.lit (Go.Value.bool Bool.false), [Sx.SO.row (9 : Nat) Sx.Ty.str A, Sx.SO.row (9 : Nat)
      Sx.Ty.str B], [])) ((∃ (x' : Nat), ([Sx.SV.sl (0 : Nat) (1 : Nat) a m, Sx.SV.sl (1 : Nat) (1 : Nat) b n, Sx.SV.lit (Go.Value.int Go.IntKind.i64 (Go.IntKind.wrap
      Go.IntKind.i64 ((↑b_1 : Int) + (1 : Int))))], [Sx.SO.row (9 : Nat) Sx.Ty.str A, Sx.SO.row (9 : Nat) Sx.Ty.str B]) = ([Sx.SV.sl (0 : Nat) (1 : Nat) a m, Sx.SV.sl (1 : Nat)
      (1 : Nat) b n, Sx.SV.lit (Go.Value.int Go.IntKind.i64 (↑x' : Int))], [Sx.SO.row (9 : Nat) Sx.Ty.str A, Sx.SO.row (9 : Nat) Sx.Ty.str B]) ∧ (x' ≤ m ∧ List.take x'
      (List.take m (List.drop a A)) = List.take x' (List.take n (List.drop b B))) ∧ m - x' < m - b_1) ∧ True)) (Q (Sx.SV.lit (Go.Value.bool Bool.true), [Sx.SO.row (9 : Nat)
      Sx.Ty.str A, Sx.SO.row (9 : Nat) Sx.Ty.str B], [])))) (by kernel_rfl) ?_
  generalize hX : (A.drop a).take m = X at *
  have hXl : X.length = m := by rw [← hX]; exact PL.part_len A a m hm
  have hXg : ∀ i, i < m → A.getD (a + i) Ty.str.dflt = X.getD i Ty.str.dflt := fun i hi => by rw [← hX]; exact PL.getD_part A a m i _ hi
  generalize hY : (B.drop b).take n = Y at *
  have hYl : Y.length = n := by rw [← hY]; exact PL.part_len B b n hn
  have hYg : ∀ i, i < n → B.getD (b + i) Ty.str.dflt = Y.getD i Ty.str.dflt := fun i hi => by rw [← hY]; exact PL.getD_part B b n i _ hi
  refine br_intro (fun h => ?_) (fun h => ?_)
  · have h : (m : Int) ≠ (n : Nat) := by simpa using h
    rw [decF (p := X = Y) (fun e => by rw [e] at hXl; omega)] at hq
    exact hq
  · have h : (m : Int) = (n : Nat) := by simpa using h
    refine ⟨⟨0, rfl, by omega, rfl⟩, fun i hi => br_intro (fun hlt => ?_) (fun hge => ?_)⟩
    · have hlt := of_decide_eq_true hlt
      rw [hXg i (by omega), hYg i (by omega)]
      refine ⟨by omega, by omega, by omega, by omega, br_intro (fun g => ?_) (fun g => ⟨⟨i + 1, ?_, ⟨by omega, ?_⟩, by omega⟩, trivial⟩)⟩
      · have g : X.getD i Ty.str.dflt ≠ Y.getD i Ty.str.dflt := fun e => by rw [e, bytes_self] at g; cases g
        rw [decF (PL.not_same g)] at hq
        exact hq
      · rw [wrap1 i (by omega)]
      · have g : X.getD i Ty.str.dflt = Y.getD i Ty.str.dflt := (bytes_beq _ _).1 (by simpa using g)
        exact PL.take_step (by omega) (by omega) hi.2 g
    · have hge := of_decide_eq_false hge
      rw [decide_eq_true (p := X = Y) (PL.take_all (i := i) (by omega) (by omega) hi.2)] at hq
      exact hq
noncomputable def s29 : Summ := fun args H => match args, H with
  | [.sl 0 1 a m, .sl 1 1 b n], [.row 9 .str A, .row 9 .str B] => .need (a + m ≤ A.length ∧ b + n ≤ B.length ∧ m ≤ 1000000) (.ret (.lit (.bool (decide ((A.drop a).take m = (B.drop b).take n))), [.row 9 .str A, .row 9 .str B], []))
  | _, _ => .fail
theorem s29_ok : SummOK Try.prog 29 s29 := by
  refine summ_of_body (fn := Try.f29) (c := Try.f29.body.get!) T3_ok (by kernel_rfl) (by kernel_rfl) (by kernel_rfl) fun args H Q h => ?_
  unfold s29 at h
  split at h
  · rename_i a m b n A B
    simp only [Tree.Leads] at h
    obtain ⟨⟨h1, h2, h3⟩, hq⟩ := h
    exact ⟨_, v29 A B a b m n Q h1 h2 h3 hq⟩
  · simp only [Tree.Leads] at h
noncomputable def T8 : Table := T7.add 29 (.go s29)
theorem T8_ok : TableOK Try.prog T8 := add_ok T7_ok s29_ok
def markB : ByteArray := ⟨#[109, 97, 114, 107]⟩
theorem v18 (P : List ByteArray) (Q : SV × Heap × List Nat → Prop) (hl : P.length ≤ 1000) (hq : Q (.sl 1 1 0 P.length, [.row 9 .str P, .row 9 .str (P ++ [markB])], [])) : (bodySumm T8 Try.prog Try.f18 noAn [.sl 0 1 0 P.length] [.row 9 .str P]).Leads Q := by
  refine Sx.by_text (q :=
      (0 : Nat) + List.length P ≤ List.length P ∧ ((↑((0 : Nat) + List.length (List.take (List.length P) (List.drop (0 : Nat) P))) : Int) ≤ (9223372036854775807 : Int) ∧ ((0 :
      Nat) + List.length (List.take (List.length P) (List.drop (0 : Nat) P))) * Sx.bytesOf Go.Proofs.Try.prog (9 : Nat) ≤ (140737488355328 : Nat)) ∧ (1 : Nat) ≤ (1 : Nat) ∧
      Sx.br (Decidable.decide (List.length (List.take (List.length P) (List.drop (0 : Nat) P)) + (1 : Nat) ≤ List.length (List.take (List.length P) (List.drop (0 : Nat) P))))
      (((0 : Int) ≤ (↑(List.length P) : Int) ∧ (↑(List.length P) : Int) ≤ (↑(List.length (List.take (List.length (List.take (List.length P) (List.drop (0 : Nat) P))) (List.take
      (List.length P) (List.drop (0 : Nat) P)) ++ [{ data := #[(109 : UInt8), (97 : UInt8), (114 : UInt8), (107 : UInt8)] }] ++ List.drop (List.length (List.take (List.length P)
      (List.drop (0 : Nat) P)) + (1 : Nat)) (List.take (List.length P) (List.drop (0 : Nat) P)))) : Int)) ∧ True ∧ Q (Sx.SV.sl (1 : Nat) (1 : Nat) (0 : Nat) (List.length P),
      [Sx.SO.row (9 : Nat) Sx.Ty.str P, Sx.SO.row (9 : Nat) Sx.Ty.str (List.take (List.length (List.take (List.length P) (List.drop (0 : Nat) P))) (List.take (List.length P)
      (List.drop (0 : Nat) P)) ++ [{ data := #[(109 : UInt8), (97 : UInt8), (114 : UInt8), (107 : UInt8)] }] ++ List.drop (List.length (List.take (List.length P) (List.drop (0 :
      Nat) P)) + (1 : Nat)) (List.take (List.length P) (List.drop (0 : Nat) P)))], [])) (List.length (List.take (List.length P) (List.drop (0 : Nat) P)) ≤ List.length (List.take
      (List.length P) (List.drop (0 : Nat) P)) ∧ ((↑(List.length (List.take (List.length P) (List.drop (0 : Nat) P)) + (1 : Nat)) : Int) ≤ (9223372036854775807 : Int) ∧
      (List.length (List.take (List.length P) (List.drop (0 : Nat) P)) + (1 : Nat)) * Sx.bytesOf Go.Proofs.Try.prog (9 : Nat) ≤ (140737488355328 : Nat)) ∧ ((0 : Int) ≤
      (↑(List.length P) : Int) ∧ (↑(List.length P) : Int) ≤ (↑(List.length (List.take (List.length (List.take (List.length P) (List.drop (0 : Nat) P))) (List.take (List.length
      P) (List.drop (0 : Nat) P)) ++ [{ data := #[(109 : UInt8), (97 : UInt8), (114 : UInt8), (107 : UInt8)] }])) : Int)) ∧ True ∧ Q (Sx.SV.sl (1 : Nat) (1 : Nat) (0 : Nat)
      (List.length P), [Sx.SO.row (9 : Nat) Sx.Ty.str P, Sx.SO.row (9 : Nat) Sx.Ty.str (List.take (List.length (List.take (List.length P) (List.drop (0 : Nat) P))) (List.take
      (List.length P) (List.drop (0 : Nat) P)) ++ [{ data := #[(109 : UInt8), (97 : UInt8), (114 : UInt8), (107 : UInt8)] }])], []))) (by kernel_rfl) ?_
  have hb : bytesOf Try.prog 9 = 16 := by kernel_rfl
  simp only [List.drop_zero, List.take_length, Nat.zero_add]
  refine ⟨by omega, ⟨by omega, by rw [hb]; omega⟩, by omega, br_intro (fun h => by have := of_decide_eq_true h; omega) (fun _ => ⟨by omega, ⟨by omega, by rw [hb]; omega⟩, ⟨by omega, ?_⟩, trivial, hq⟩)⟩
  rw [List.length_append]; omega
theorem v19 (P : List ByteArray) (Q : SV × Heap × List Nat → Prop) (hl : P.length ≤ 1000) (hq : Q (.lit (.bool true), [.row 9 .str (P ++ [markB]), .row 9 .str P], [])) : (bodySumm T8 Try.prog Try.f19 noAn [.sl 0 1 0 P.length, .sl 1 1 0 P.length] [.row 9 .str (P ++ [markB]), .row 9 .str P]).Leads Q := by
  refine Sx.by_text (q :=
      ((0 : Nat) + List.length P ≤ List.length (P ++ [T12.markB]) ∧ (0 : Nat) + List.length P ≤ List.length P ∧ List.length P ≤ (1000000 : Nat)) ∧ Sx.br (Decidable.decide
      (List.take (List.length P) (List.drop (0 : Nat) (P ++ [T12.markB])) = List.take (List.length P) (List.drop (0 : Nat) P))) (((0 : Int) ≤ Go.IntKind.wrap Go.IntKind.i64
      ((↑(List.length P) : Int) + (1 : Int)) ∧ Go.IntKind.wrap Go.IntKind.i64 ((↑(List.length P) : Int) + (1 : Int)) ≤ (↑(List.length (P ++ [T12.markB])) : Int)) ∧ True ∧ ((0 :
      Int) ≤ (↑(List.length P) : Int) ∧ (↑(List.length P) : Int) < (↑(Int.toNat (Go.IntKind.wrap Go.IntKind.i64 ((↑(List.length P) : Int) + (1 : Int)))) : Int)) ∧ (0 : Nat) +
      List.length P < List.length (P ++ [T12.markB]) ∧ Q (Sx.SV.lit (Go.Value.bool (List.getD (P ++ [T12.markB]) ((0 : Nat) + List.length P) (Sx.Ty.dflt Sx.Ty.str) == { data :=
      #[(109 : UInt8), (97 : UInt8), (114 : UInt8), (107 : UInt8)] })), [Sx.SO.row (9 : Nat) Sx.Ty.str (P ++ [T12.markB]), Sx.SO.row (9 : Nat) Sx.Ty.str P], [])) (Q (Sx.SV.lit
      (Go.Value.bool Bool.false), [Sx.SO.row (9 : Nat) Sx.Ty.str (P ++ [T12.markB]), Sx.SO.row (9 : Nat) Sx.Ty.str P], []))) (by kernel_rfl) ?_
  have e1 : (P ++ [markB]).length = P.length + 1 := by rw [List.length_append]; rfl
  have e2 : IntKind.i64.wrap ((P.length : Int) + 1) = ((P.length + 1 : Nat) : Int) := wrap1 _ (by omega)
  rw [e1, e2, List.drop_zero, List.take_left, List.drop_zero, List.take_length]
  refine ⟨⟨by omega, by omega, by omega⟩, br_intro (fun _ => ⟨by omega, trivial, by omega, by omega, ?_⟩) (fun g => absurd (of_decide_eq_false g) (by simp))⟩
  have e3 : ((P ++ [markB]).getD (0 + P.length) Ty.str.dflt == { data := #[109, 97, 114, 107] }) = true := by
    rw [Nat.zero_add, List.getD_eq_getElem?_getD, List.getElem?_append_right (Nat.le_refl _), Nat.sub_self]; rfl
  rw [e3]; exact hq
noncomputable def s18 : Summ := fun args H => match args, H with
  | [.sl 0 1 0 m], [.row 9 .str P] => .need (m = P.length ∧ P.length ≤ 1000) (.ret (.sl 1 1 0 P.length, [.row 9 .str P, .row 9 .str (P ++ [markB])], []))
  | _, _ => .fail
theorem s18_ok : SummOK Try.prog 18 s18 := by
  refine summ_of_body (fn := Try.f18) (c := Try.f18.body.get!) T8_ok (by kernel_rfl) (by kernel_rfl) (by kernel_rfl) fun args H Q h => ?_
  unfold s18 at h
  split at h
  · simp only [Tree.Leads] at h
    obtain ⟨⟨rfl, h2⟩, hq⟩ := h
    exact ⟨noAn, v18 _ Q h2 hq⟩
  · simp only [Tree.Leads] at h
noncomputable def s19 : Summ := fun args H => match args, H with
  | [.sl 0 1 0 m, .sl 1 1 0 n], [.row 9 .str R, .row 9 .str P] => .need (m = P.length ∧ n = P.length ∧ R = P ++ [markB] ∧ P.length ≤ 1000) (.ret (.lit (.bool true), [.row 9 .str R, .row 9 .str P], []))
  | _, _ => .fail
theorem s19_ok : SummOK Try.prog 19 s19 := by
  refine summ_of_body (fn := Try.f19) (c := Try.f19.body.get!) T8_ok (by kernel_rfl) (by kernel_rfl) (by kernel_rfl) fun args H Q h => ?_
  unfold s19 at h
  split at h
  · simp only [Tree.Leads] at h
    obtain ⟨⟨rfl, rfl, rfl, h2⟩, hq⟩ := h
    exact ⟨noAn, v19 _ Q h2 hq⟩
  · simp only [Tree.Leads] at h
theorem cut_k (a : Int) (n : Nat) (h1 : 0 < n) (h2 : n ≤ 100000) : ∃ k : Nat, (IntKind.i64.wrap (IntKind.i64.wrap (a.tmod (IntKind.i64.wrap ((n : Int) + 1)) + n) + 1)).tmod (IntKind.i64.wrap ((n : Int) + 1)) = k ∧ k ≤ n := by
  have hd : IntKind.i64.wrap ((n : Int) + 1) = n + 1 := by rw [IntKind.wrap_i64]; omega
  rw [hd]
  have hx : -((n : Int) + 1) < a.tmod (n + 1) ∧ a.tmod (n + 1) < n + 1 := by
    rcases Int.le_total 0 a with h | h
    · rw [Int.tmod_eq_emod_of_nonneg h]
      have := Int.emod_nonneg a (show (n : Int) + 1 ≠ 0 by omega)
      have := Int.emod_lt_of_pos a (show (0 : Int) < (n : Int) + 1 by omega)
      omega
    · have e : a.tmod (n + 1) = -((-a).tmod (n + 1)) := by rw [Int.neg_tmod, Int.neg_neg]
      rw [e, Int.tmod_eq_emod_of_nonneg (show 0 ≤ -a by omega)]
      have := Int.emod_nonneg (-a) (show (n : Int) + 1 ≠ 0 by omega)
      have := Int.emod_lt_of_pos (-a) (show (0 : Int) < (n : Int) + 1 by omega)
      omega
  generalize a.tmod (n + 1) = x at *
  have e1 : IntKind.i64.wrap (IntKind.i64.wrap (x + n) + 1) = x + n + 1 := by rw [IntKind.wrap_i64, IntKind.wrap_i64]; omega
  rw [e1, Int.tmod_eq_emod_of_nonneg (by omega)]
  have := Int.emod_nonneg (x + n + 1) (show (n : Int) + 1 ≠ 0 by omega)
  have := Int.emod_lt_of_pos (x + n + 1) (show (0 : Int) < (n : Int) + 1 by omega)
  exact ⟨((x + n + 1) % (n + 1)).toNat, by omega, by omega⟩
/-- The parts of a text. -/
structure CutOf (s : ByteArray) (L : Nat) (p : List ByteArray) : Prop where
  all : flat p = strInts s
  few : p.length ≤ L + 1
  some : 0 < p.length
noncomputable def A17 (s : ByteArray) (L : List Int) : Ann := { live := [0, 1, 5, 6], mv := [], nilS := [(5, 9, .str)], head := fun vals _ => match vals with | [_, b, _, _] => { X := List ByteArray × ByteArray, inv := fun x => ([.lit (.string x.2), b, .sl 0 1 0 x.1.length, .lit (.int .i64 x.1.length)], [.row 9 .str x.1]), ok := fun x => x.1.length ≤ L.length ∧ flat x.1 ++ strInts x.2 = strInts s, mu := fun x => L.length - x.1.length } | _ => { X := Nat, inv := fun _ => ([], []), ok := fun _ => False, mu := fun _ => 0 } }
theorem v17 (s : ByteArray) (L : List Int) (Q : SV × Heap × List Nat → Prop) (hs : s.size ≤ 100000) (hL : L.length ≤ 1000) (hq : ∀ p, CutOf s L.length p → Q (.sl 0 1 0 p.length, [.row 9 .str p], [])) : (bodySumm T8 Try.prog Try.f17 (An1 0 (A17 s L)) [.lit (.string s), .imm (.int .i64) L] []).Leads Q := by
  refine Sx.by_text (q :=
      (∃ (x : List ByteArray × ByteArray), ([Sx.SV.lit (Go.Value.string s), Sx.SV.imm (Sx.Ty.int Go.IntKind.i64) L, Sx.SV.sl (0 : Nat) (1 : Nat) (0 : Nat) (0 : Nat), Sx.SV.lit
      (Go.Value.int Go.IntKind.i64 (0 : Int))], [Sx.SO.row (9 : Nat) Sx.Ty.str []]) = ([Sx.SV.lit (Go.Value.string (Prod.snd x)), Sx.SV.imm (Sx.Ty.int Go.IntKind.i64) L,
      Sx.SV.sl (0 : Nat) (1 : Nat) (0 : Nat) (List.length (Prod.fst x)), Sx.SV.lit (Go.Value.int Go.IntKind.i64 (↑(List.length (Prod.fst x)) : Int))], [Sx.SO.row (9 : Nat)
      Sx.Ty.str (Prod.fst x)]) ∧ List.length (Prod.fst x) ≤ List.length L ∧ T12.flat (Prod.fst x) ++ Sx.strInts (Prod.snd x) = Sx.strInts s) ∧ ∀ (b : List ByteArray ×
      ByteArray), List.length (Prod.fst b) ≤ List.length L ∧ T12.flat (Prod.fst b) ++ Sx.strInts (Prod.snd b) = Sx.strInts s → Sx.br (Decidable.decide ((↑(List.length (Prod.fst
      b)) : Int) < (↑(List.length L) : Int))) (Sx.br (Decidable.decide ((↑(ByteArray.size (Prod.snd b)) : Int) > (0 : Int))) (((0 : Int) ≤ (↑(List.length (Prod.fst b)) : Int) ∧
      (↑(List.length (Prod.fst b)) : Int) < (↑(List.length L) : Int)) ∧ List.length (Prod.fst b) < List.length L ∧ (Go.IntKind.wrap Go.IntKind.i64 ((↑(ByteArray.size (Prod.snd
      b)) : Int) + (1 : Int)) = (0 : Int) → False) ∧ (Go.IntKind.wrap Go.IntKind.i64 ((↑(ByteArray.size (Prod.snd b)) : Int) + (1 : Int)) = (0 : Int) → False) ∧ ((0 : Int) ≤
      Int.tmod (Go.IntKind.wrap Go.IntKind.i64 (Go.IntKind.wrap Go.IntKind.i64 (Int.tmod (List.getD L (List.length (Prod.fst b)) (Sx.Ty.dflt (Sx.Ty.int Go.IntKind.i64)))
      (Go.IntKind.wrap Go.IntKind.i64 ((↑(ByteArray.size (Prod.snd b)) : Int) + (1 : Int))) + (↑(ByteArray.size (Prod.snd b)) : Int)) + (1 : Int))) (Go.IntKind.wrap
      Go.IntKind.i64 ((↑(ByteArray.size (Prod.snd b)) : Int) + (1 : Int))) ∧ Int.tmod (Go.IntKind.wrap Go.IntKind.i64 (Go.IntKind.wrap Go.IntKind.i64 (Int.tmod (List.getD L
      (List.length (Prod.fst b)) (Sx.Ty.dflt (Sx.Ty.int Go.IntKind.i64))) (Go.IntKind.wrap Go.IntKind.i64 ((↑(ByteArray.size (Prod.snd b)) : Int) + (1 : Int))) +
      (↑(ByteArray.size (Prod.snd b)) : Int)) + (1 : Int))) (Go.IntKind.wrap Go.IntKind.i64 ((↑(ByteArray.size (Prod.snd b)) : Int) + (1 : Int))) ≤ (↑(ByteArray.size (Prod.snd
      b)) : Int)) ∧ True ∧ (1 : Nat) ≤ (1 : Nat) ∧ Sx.br (Decidable.decide (List.length (Prod.fst b) + (1 : Nat) ≤ List.length (Prod.fst b))) (True ∧ ((0 : Int) ≤ Int.tmod
      (Go.IntKind.wrap Go.IntKind.i64 (Go.IntKind.wrap Go.IntKind.i64 (Int.tmod (List.getD L (List.length (Prod.fst b)) (Sx.Ty.dflt (Sx.Ty.int Go.IntKind.i64))) (Go.IntKind.wrap
      Go.IntKind.i64 ((↑(ByteArray.size (Prod.snd b)) : Int) + (1 : Int))) + (↑(ByteArray.size (Prod.snd b)) : Int)) + (1 : Int))) (Go.IntKind.wrap Go.IntKind.i64
      ((↑(ByteArray.size (Prod.snd b)) : Int) + (1 : Int))) ∧ Int.tmod (Go.IntKind.wrap Go.IntKind.i64 (Go.IntKind.wrap Go.IntKind.i64 (Int.tmod (List.getD L (List.length
      (Prod.fst b)) (Sx.Ty.dflt (Sx.Ty.int Go.IntKind.i64))) (Go.IntKind.wrap Go.IntKind.i64 ((↑(ByteArray.size (Prod.snd b)) : Int) + (1 : Int))) + (↑(ByteArray.size (Prod.snd
      b)) : Int)) + (1 : Int))) (Go.IntKind.wrap Go.IntKind.i64 ((↑(ByteArray.size (Prod.snd b)) : Int) + (1 : Int))) ≤ (↑(ByteArray.size (Prod.snd b)) : Int)) ∧ (∃ (x' : List
      ByteArray × ByteArray), ([Sx.SV.lit (Go.Value.string (ByteArray.extract (Prod.snd b) (Int.toNat (Int.tmod (Go.IntKind.wrap Go.IntKind.i64 (Go.IntKind.wrap Go.IntKind.i64
      (Int.tmod (List.getD L (List.length (Prod.fst b)) (Sx.Ty.dflt (Sx.Ty.int Go.IntKind.i64))) (Go.IntKind.wrap Go.IntKind.i64 ((↑(ByteArray.size (Prod.snd b)) : Int) + (1 :
      Int))) + (↑(ByteArray.size (Prod.snd b)) : Int)) + (1 : Int))) (Go.IntKind.wrap Go.IntKind.i64 ((↑(ByteArray.size (Prod.snd b)) : Int) + (1 : Int))))) (ByteArray.size
      (Prod.snd b)))), Sx.SV.imm (Sx.Ty.int Go.IntKind.i64) L, Sx.SV.sl (0 : Nat) (1 : Nat) (0 : Nat) (List.length (Prod.fst b) + (1 : Nat)), Sx.SV.lit (Go.Value.int
      Go.IntKind.i64 (Go.IntKind.wrap Go.IntKind.i64 ((↑(List.length (Prod.fst b)) : Int) + (1 : Int))))], [Sx.SO.row (9 : Nat) Sx.Ty.str (List.take (List.length (Prod.fst b))
      (Prod.fst b) ++ [ByteArray.extract (Prod.snd b) (0 : Nat) (Int.toNat (Int.tmod (Go.IntKind.wrap Go.IntKind.i64 (Go.IntKind.wrap Go.IntKind.i64 (Int.tmod (List.getD L
      (List.length (Prod.fst b)) (Sx.Ty.dflt (Sx.Ty.int Go.IntKind.i64))) (Go.IntKind.wrap Go.IntKind.i64 ((↑(ByteArray.size (Prod.snd b)) : Int) + (1 : Int))) +
      (↑(ByteArray.size (Prod.snd b)) : Int)) + (1 : Int))) (Go.IntKind.wrap Go.IntKind.i64 ((↑(ByteArray.size (Prod.snd b)) : Int) + (1 : Int)))))] ++ List.drop (List.length
      (Prod.fst b) + (1 : Nat)) (Prod.fst b))]) = ([Sx.SV.lit (Go.Value.string (Prod.snd x')), Sx.SV.imm (Sx.Ty.int Go.IntKind.i64) L, Sx.SV.sl (0 : Nat) (1 : Nat) (0 : Nat)
      (List.length (Prod.fst x')), Sx.SV.lit (Go.Value.int Go.IntKind.i64 (↑(List.length (Prod.fst x')) : Int))], [Sx.SO.row (9 : Nat) Sx.Ty.str (Prod.fst x')]) ∧ (List.length
      (Prod.fst x') ≤ List.length L ∧ T12.flat (Prod.fst x') ++ Sx.strInts (Prod.snd x') = Sx.strInts s) ∧ List.length L - List.length (Prod.fst x') < List.length L -
      List.length (Prod.fst b)) ∧ True) (List.length (Prod.fst b) ≤ List.length (Prod.fst b) ∧ ((↑(List.length (Prod.fst b) + (1 : Nat)) : Int) ≤ (9223372036854775807 : Int) ∧
      (List.length (Prod.fst b) + (1 : Nat)) * Sx.bytesOf Go.Proofs.Try.prog (9 : Nat) ≤ (140737488355328 : Nat)) ∧ True ∧ ((0 : Int) ≤ Int.tmod (Go.IntKind.wrap Go.IntKind.i64
      (Go.IntKind.wrap Go.IntKind.i64 (Int.tmod (List.getD L (List.length (Prod.fst b)) (Sx.Ty.dflt (Sx.Ty.int Go.IntKind.i64))) (Go.IntKind.wrap Go.IntKind.i64
      ((↑(ByteArray.size (Prod.snd b)) : Int) + (1 : Int))) + (↑(ByteArray.size (Prod.snd b)) : Int)) + (1 : Int))) (Go.IntKind.wrap Go.IntKind.i64 ((↑(ByteArray.size (Prod.snd
      b)) : Int) + (1 : Int))) ∧ Int.tmod (Go.IntKind.wrap Go.IntKind.i64 (Go.IntKind.wrap Go.IntKind.i64 (Int.tmod (List.getD L (List.length (Prod.fst b)) (Sx.Ty.dflt
      (Sx.Ty.int Go.IntKind.i64))) (Go.IntKind.wrap Go.IntKind.i64 ((↑(ByteArray.size (Prod.snd b)) : Int) + (1 : Int))) + (↑(ByteArray.size (Prod.snd b)) : Int)) + (1 : Int)))
      (Go.IntKind.wrap Go.IntKind.i64 ((↑(ByteArray.size (Prod.snd b)) : Int) + (1 : Int))) ≤ (↑(ByteArray.size (Prod.snd b)) : Int)) ∧ (∃ (x' : List ByteArray × ByteArray),
      ([Sx.SV.lit (Go.Value.string (ByteArray.extract (Prod.snd b) (Int.toNat (Int.tmod (Go.IntKind.wrap Go.IntKind.i64 (Go.IntKind.wrap Go.IntKind.i64 (Int.tmod (List.getD L
      (List.length (Prod.fst b)) (Sx.Ty.dflt (Sx.Ty.int Go.IntKind.i64))) (Go.IntKind.wrap Go.IntKind.i64 ((↑(ByteArray.size (Prod.snd b)) : Int) + (1 : Int))) +
      (↑(ByteArray.size (Prod.snd b)) : Int)) + (1 : Int))) (Go.IntKind.wrap Go.IntKind.i64 ((↑(ByteArray.size (Prod.snd b)) : Int) + (1 : Int))))) (ByteArray.size (Prod.snd
      b)))), Sx.SV.imm (Sx.Ty.int Go.IntKind.i64) L, Sx.SV.sl (0 : Nat) (1 : Nat) (0 : Nat) (List.length (Prod.fst b) + (1 : Nat)), Sx.SV.lit (Go.Value.int Go.IntKind.i64
      (Go.IntKind.wrap Go.IntKind.i64 ((↑(List.length (Prod.fst b)) : Int) + (1 : Int))))], [Sx.SO.row (9 : Nat) Sx.Ty.str (List.take (List.length (Prod.fst b)) (Prod.fst b) ++
      [ByteArray.extract (Prod.snd b) (0 : Nat) (Int.toNat (Int.tmod (Go.IntKind.wrap Go.IntKind.i64 (Go.IntKind.wrap Go.IntKind.i64 (Int.tmod (List.getD L (List.length
      (Prod.fst b)) (Sx.Ty.dflt (Sx.Ty.int Go.IntKind.i64))) (Go.IntKind.wrap Go.IntKind.i64 ((↑(ByteArray.size (Prod.snd b)) : Int) + (1 : Int))) + (↑(ByteArray.size (Prod.snd
      b)) : Int)) + (1 : Int))) (Go.IntKind.wrap Go.IntKind.i64 ((↑(ByteArray.size (Prod.snd b)) : Int) + (1 : Int)))))])]) = ([Sx.SV.lit (Go.Value.string (Prod.snd x')),
      Sx.SV.imm (Sx.Ty.int Go.IntKind.i64) L, Sx.SV.sl (0 : Nat) (1 : Nat) (0 : Nat) (List.length (Prod.fst x')), Sx.SV.lit (Go.Value.int Go.IntKind.i64 (↑(List.length (Prod.fst
      x')) : Int))], [Sx.SO.row (9 : Nat) Sx.Ty.str (Prod.fst x')]) ∧ (List.length (Prod.fst x') ≤ List.length L ∧ T12.flat (Prod.fst x') ++ Sx.strInts (Prod.snd x') =
      Sx.strInts s) ∧ List.length L - List.length (Prod.fst x') < List.length L - List.length (Prod.fst b)) ∧ True)) ((1 : Nat) ≤ (1 : Nat) ∧ Sx.br (Decidable.decide
      (List.length (Prod.fst b) + (1 : Nat) ≤ List.length (Prod.fst b))) (Q (Sx.SV.sl (0 : Nat) (1 : Nat) (0 : Nat) (List.length (Prod.fst b) + (1 : Nat)), [Sx.SO.row (9 : Nat)
      Sx.Ty.str (List.take (List.length (Prod.fst b)) (Prod.fst b) ++ [Prod.snd b] ++ List.drop (List.length (Prod.fst b) + (1 : Nat)) (Prod.fst b))], [])) (List.length
      (Prod.fst b) ≤ List.length (Prod.fst b) ∧ ((↑(List.length (Prod.fst b) + (1 : Nat)) : Int) ≤ (9223372036854775807 : Int) ∧ (List.length (Prod.fst b) + (1 : Nat)) *
      Sx.bytesOf Go.Proofs.Try.prog (9 : Nat) ≤ (140737488355328 : Nat)) ∧ Q (Sx.SV.sl (0 : Nat) (1 : Nat) (0 : Nat) (List.length (Prod.fst b) + (1 : Nat)), [Sx.SO.row (9 : Nat)
      Sx.Ty.str (List.take (List.length (Prod.fst b)) (Prod.fst b) ++ [Prod.snd b])], [])))) ((1 : Nat) ≤ (1 : Nat) ∧ Sx.br (Decidable.decide (List.length (Prod.fst b) + (1 :
      Nat) ≤ List.length (Prod.fst b))) (Q (Sx.SV.sl (0 : Nat) (1 : Nat) (0 : Nat) (List.length (Prod.fst b) + (1 : Nat)), [Sx.SO.row (9 : Nat) Sx.Ty.str (List.take (List.length
      (Prod.fst b)) (Prod.fst b) ++ [Prod.snd b] ++ List.drop (List.length (Prod.fst b) + (1 : Nat)) (Prod.fst b))], [])) (List.length (Prod.fst b) ≤ List.length (Prod.fst b) ∧
      ((↑(List.length (Prod.fst b) + (1 : Nat)) : Int) ≤ (9223372036854775807 : Int) ∧ (List.length (Prod.fst b) + (1 : Nat)) * Sx.bytesOf Go.Proofs.Try.prog (9 : Nat) ≤
      (140737488355328 : Nat)) ∧ Q (Sx.SV.sl (0 : Nat) (1 : Nat) (0 : Nat) (List.length (Prod.fst b) + (1 : Nat)), [Sx.SO.row (9 : Nat) Sx.Ty.str (List.take (List.length
      (Prod.fst b)) (Prod.fst b) ++ [Prod.snd b])], [])))) (by kernel_rfl) ?_
  have hbs : bytesOf Try.prog 9 = 16 := by kernel_rfl
  refine ⟨⟨([], s), rfl, by simp, by simp [flat]⟩, fun x hx => ?_⟩
  obtain ⟨p, r⟩ := x
  obtain ⟨hx1, hx2⟩ := hx
  simp only at hx1 hx2 ⊢
  have hr : r.size ≤ s.size := by rw [← strInts_size r, ← strInts_size s, ← hx2, List.length_append]; omega
  have hend : 1 ≤ 1 ∧ br (decide (p.length + 1 ≤ p.length)) (Q (SV.sl 0 1 0 (p.length + 1), [SO.row 9 Ty.str (List.take p.length p ++ [r] ++ List.drop (p.length + 1) p)], []))
      (p.length ≤ p.length ∧ (((p.length + 1 : Nat) : Int) ≤ 9223372036854775807 ∧ (p.length + 1) * bytesOf Try.prog 9 ≤ 140737488355328) ∧ Q (SV.sl 0 1 0 (p.length + 1), [SO.row 9 Ty.str (List.take p.length p ++ [r])], [])) := by
    refine ⟨by omega, br_intro (fun h => by have := of_decide_eq_true h; omega) (fun _ => ⟨by omega, ⟨by omega, by rw [hbs]; omega⟩, ?_⟩)⟩
    have hq := hq (p ++ [r]) ⟨by rw [← hx2]; simp [flat], by rw [List.length_append]; simp; omega, by simp⟩
    rw [List.length_append] at hq
    rw [List.take_length]; exact hq
  refine br_intro (fun hlt => br_intro (fun hpos => ?_) (fun _ => hend)) (fun _ => hend)
  have hlt := of_decide_eq_true hlt
  have hpos := of_decide_eq_true hpos
  have hmem : L.getD p.length (Ty.int IntKind.i64).dflt ∈ L := by
    rw [List.getD_eq_getElem?_getD, List.getElem?_eq_getElem (by omega)]; exact List.getElem_mem _
  obtain ⟨k, hk1, hk2⟩ := cut_k (L.getD p.length (Ty.int IntKind.i64).dflt) r.size (by omega) (by omega)
  have hd : IntKind.i64.wrap ((r.size : Int) + 1) = r.size + 1 := by rw [IntKind.wrap_i64]; omega
  rw [hk1]
  refine ⟨by omega, by omega, by rw [hd]; omega, by rw [hd]; omega, by omega, trivial, by omega, br_intro (fun h => by have := of_decide_eq_true h; omega) (fun _ => ⟨by omega, ⟨by omega, by rw [hbs]; omega⟩, trivial, by omega, ⟨(p ++ [r.extract 0 k], r.extract k r.size), ?_, ⟨?_, ?_⟩, ?_⟩, trivial⟩)⟩
  · rw [wrap1 p.length (by omega), List.take_length]; simp only [List.length_append, List.length_cons, List.length_nil, Int.toNat_natCast]
  · simp only [List.length_append, List.length_cons, List.length_nil]; omega
  · simp only [flat, List.flatMap_append, List.flatMap_cons, List.flatMap_nil, List.append_nil, strInts_extract]
    rw [← hx2, List.append_assoc, List.drop_zero, Nat.sub_zero]
    have e : ((strInts r).drop k).take (r.size - k) = (strInts r).drop k := List.take_of_length_le (by rw [List.length_drop, strInts_size]; omega)
    rw [e, List.take_append_drop]; rfl
  · simp only [List.length_append, List.length_cons, List.length_nil]; omega
noncomputable def s17 : Summ := fun args H => match args, H with
  | [.lit (.string s), .imm (.int .i64) L], [] => .need (s.size ≤ 100000 ∧ L.length ≤ 1000) (.any (List ByteArray) (CutOf s L.length) fun p => .ret (.sl 0 1 0 p.length, [.row 9 .str p], []))
  | _, _ => .fail
theorem s17_ok : SummOK Try.prog 17 s17 := by
  refine summ_of_body (fn := Try.f17) (c := Try.f17.body.get!) T8_ok (by kernel_rfl) (by kernel_rfl) (by kernel_rfl) fun args H Q h => ?_
  unfold s17 at h
  split at h
  · simp only [Tree.Leads] at h
    obtain ⟨⟨h1, h2⟩, hq⟩ := h
    exact ⟨_, v17 _ _ Q h1 h2 hq⟩
  · simp only [Tree.Leads] at h
noncomputable def T9 : Table := ((T8.add 17 (.go s17)).add 18 (.go s18)).add 19 (.go s19)
theorem T9_ok : TableOK Try.prog T9 := add_ok (add_ok (add_ok T8_ok s17_ok) s18_ok) s19_ok
noncomputable def A5 : Ann := { live := [5, 6, 7, 8, 9, 10], mv := [], nilS := [(9, 21, .int .i32)], head := fun vals H => match vals, H with | [a, b, c, d, _, _], [_, X, .row e .str P, Z, _] => { X := Nat, inv := fun i => ([a, b, c, d, .sl 4 1 0 (feed [] (flat (P.take i))).1.length, .lit (.int .i64 i)], [.cells 29 [.lit (.string (bsOf (feed [] (flat (P.take i))).2))], X, .row e .str P, Z, .row 21 (.int .i32) (feed [] (flat (P.take i))).1]), ok := fun i => i ≤ P.length, mu := fun i => P.length - i } | _, _ => { X := Nat, inv := fun _ => ([], []), ok := fun _ => False, mu := fun _ => 0 } }
theorem v5 (s : ByteArray) (L : List Int) (Q : SV × Heap × List Nat → Prop) (hq : Q (.lit (.bool true), [], [])) : (bodySumm T9 Try.prog Try.f5 (An1 0 A5) [.lit (.string s), .imm (.int .i64) L] []).Leads Q := by
  refine Sx.by_text (q :=
      Sx.br (Decidable.decide ((↑(ByteArray.size s) : Int) > (1000 : Int))) (Q (Sx.SV.lit (Go.Value.bool Bool.true), ([] : List Sx.SO), [])) (Sx.br (Decidable.decide
      ((↑(List.length L) : Int) > (40 : Int))) (Q (Sx.SV.lit (Go.Value.bool Bool.true), ([] : List Sx.SO), [])) ((ByteArray.size s ≤ (100000 : Nat) ∧ List.length L ≤ (1000 :
      Nat)) ∧ ∀ (b : List ByteArray), T12.CutOf s (List.length L) b → (List.length b = List.length b ∧ List.length b ≤ (1000 : Nat)) ∧ (∃ (x : Nat), ([Sx.SV.ptr (0 : Nat) (0 :
      Nat), Sx.SV.ptr (1 : Nat) (0 : Nat), Sx.SV.sl (2 : Nat) (1 : Nat) (0 : Nat) (List.length b), Sx.SV.sl (3 : Nat) (1 : Nat) (0 : Nat) (List.length b), Sx.SV.sl (4 : Nat) (1
      : Nat) (0 : Nat) (0 : Nat), Sx.SV.lit (Go.Value.int Go.IntKind.i64 (0 : Int))], [Sx.SO.cells (29 : Nat) [Sx.SV.lit (Go.Value.string { data := #[] })], Sx.SO.cells (29 :
      Nat) [Sx.SV.lit (Go.Value.string { data := #[] })], Sx.SO.row (9 : Nat) Sx.Ty.str b, Sx.SO.row (9 : Nat) Sx.Ty.str (b ++ [T12.markB]), Sx.SO.row (21 : Nat) (Sx.Ty.int
      Go.IntKind.i32) []]) = ([Sx.SV.ptr (0 : Nat) (0 : Nat), Sx.SV.ptr (1 : Nat) (0 : Nat), Sx.SV.sl (2 : Nat) (1 : Nat) (0 : Nat) (List.length b), Sx.SV.sl (3 : Nat) (1 : Nat)
      (0 : Nat) (List.length b), Sx.SV.sl (4 : Nat) (1 : Nat) (0 : Nat) (List.length (Prod.fst (T12.feed [] (T12.flat (List.take x b))))), Sx.SV.lit (Go.Value.int Go.IntKind.i64
      (↑x : Int))], [Sx.SO.cells (29 : Nat) [Sx.SV.lit (Go.Value.string (Sx.bsOf (Prod.snd (T12.feed [] (T12.flat (List.take x b))))))], Sx.SO.cells (29 : Nat) [Sx.SV.lit
      (Go.Value.string { data := #[] })], Sx.SO.row (9 : Nat) Sx.Ty.str b, Sx.SO.row (9 : Nat) Sx.Ty.str (b ++ [T12.markB]), Sx.SO.row (21 : Nat) (Sx.Ty.int Go.IntKind.i32)
      (Prod.fst (T12.feed [] (T12.flat (List.take x b))))]) ∧ x ≤ List.length b) ∧ ∀ (b_1 : Nat), b_1 ≤ List.length b → Sx.br (Decidable.decide ((↑b_1 : Int) < (↑(List.length b)
      : Int))) (((0 : Int) ≤ (↑b_1 : Int) ∧ (↑b_1 : Int) < (↑(List.length b) : Int)) ∧ (0 : Nat) + b_1 < List.length b ∧ (T12.Good (Sx.strInts (Sx.bsOf (Prod.snd (T12.feed []
      (T12.flat (List.take b_1 b)))))) ∧ (1 : Nat) ≤ (1 : Nat) ∧ T12.SizeOK [List.getD b ((0 : Nat) + b_1) (Sx.Ty.dflt Sx.Ty.str)] ∧ (1 : Nat) ≤ (1000000 : Nat)) ∧ ∀ (b_2 : List
      Int × ByteArray), T12.Fed (Sx.bsOf (Prod.snd (T12.feed [] (T12.flat (List.take b_1 b))))) [List.getD b ((0 : Nat) + b_1) (Sx.Ty.dflt Sx.Ty.str)] b_2 → (0 : Nat) +
      List.length (Prod.fst b_2) ≤ List.length (Prod.fst b_2) ∧ Sx.br (Decidable.decide (List.length (Prod.fst (T12.feed [] (T12.flat (List.take b_1 b)))) + List.length
      (List.take (List.length (Prod.fst b_2)) (List.drop (0 : Nat) (Prod.fst b_2))) ≤ List.length (Prod.fst (T12.feed [] (T12.flat (List.take b_1 b)))))) ((∃ (x' : Nat),
      ([Sx.SV.ptr (0 : Nat) (0 : Nat), Sx.SV.ptr (1 : Nat) (0 : Nat), Sx.SV.sl (2 : Nat) (1 : Nat) (0 : Nat) (List.length b), Sx.SV.sl (3 : Nat) (1 : Nat) (0 : Nat) (List.length
      b), Sx.SV.sl (4 : Nat) (1 : Nat) (0 : Nat) (List.length (Prod.fst (T12.feed [] (T12.flat (List.take b_1 b)))) + List.length (List.take (List.length (Prod.fst b_2))
      (List.drop (0 : Nat) (Prod.fst b_2)))), Sx.SV.lit (Go.Value.int Go.IntKind.i64 (Go.IntKind.wrap Go.IntKind.i64 ((↑b_1 : Int) + (1 : Int))))], [Sx.SO.cells (29 : Nat)
      [Sx.SV.lit (Go.Value.string (Prod.snd b_2))], Sx.SO.cells (29 : Nat) [Sx.SV.lit (Go.Value.string { data := #[] })], Sx.SO.row (9 : Nat) Sx.Ty.str b, Sx.SO.row (9 : Nat)
      Sx.Ty.str (b ++ [T12.markB]), Sx.SO.row (21 : Nat) (Sx.Ty.int Go.IntKind.i32) (List.take (List.length (Prod.fst (T12.feed [] (T12.flat (List.take b_1 b))))) (Prod.fst
      (T12.feed [] (T12.flat (List.take b_1 b)))) ++ List.take (List.length (Prod.fst b_2)) (List.drop (0 : Nat) (Prod.fst b_2)) ++ List.drop (List.length (Prod.fst (T12.feed []
      (T12.flat (List.take b_1 b)))) + List.length (List.take (List.length (Prod.fst b_2)) (List.drop (0 : Nat) (Prod.fst b_2)))) (Prod.fst (T12.feed [] (T12.flat (List.take b_1
      b)))))]) = ([Sx.SV.ptr (0 : Nat) (0 : Nat), Sx.SV.ptr (1 : Nat) (0 : Nat), Sx.SV.sl (2 : Nat) (1 : Nat) (0 : Nat) (List.length b), Sx.SV.sl (3 : Nat) (1 : Nat) (0 : Nat)
      (List.length b), Sx.SV.sl (4 : Nat) (1 : Nat) (0 : Nat) (List.length (Prod.fst (T12.feed [] (T12.flat (List.take x' b))))), Sx.SV.lit (Go.Value.int Go.IntKind.i64 (↑x' :
      Int))], [Sx.SO.cells (29 : Nat) [Sx.SV.lit (Go.Value.string (Sx.bsOf (Prod.snd (T12.feed [] (T12.flat (List.take x' b))))))], Sx.SO.cells (29 : Nat) [Sx.SV.lit
      (Go.Value.string { data := #[] })], Sx.SO.row (9 : Nat) Sx.Ty.str b, Sx.SO.row (9 : Nat) Sx.Ty.str (b ++ [T12.markB]), Sx.SO.row (21 : Nat) (Sx.Ty.int Go.IntKind.i32)
      (Prod.fst (T12.feed [] (T12.flat (List.take x' b))))]) ∧ x' ≤ List.length b ∧ List.length b - x' < List.length b - b_1) ∧ True) (List.length (Prod.fst (T12.feed []
      (T12.flat (List.take b_1 b)))) ≤ List.length (Prod.fst (T12.feed [] (T12.flat (List.take b_1 b)))) ∧ ((↑(List.length (Prod.fst (T12.feed [] (T12.flat (List.take b_1 b))))
      + List.length (List.take (List.length (Prod.fst b_2)) (List.drop (0 : Nat) (Prod.fst b_2)))) : Int) ≤ (9223372036854775807 : Int) ∧ (List.length (Prod.fst (T12.feed []
      (T12.flat (List.take b_1 b)))) + List.length (List.take (List.length (Prod.fst b_2)) (List.drop (0 : Nat) (Prod.fst b_2)))) * Sx.bytesOf Go.Proofs.Try.prog (21 : Nat) ≤
      (140737488355328 : Nat)) ∧ (∃ (x' : Nat), ([Sx.SV.ptr (0 : Nat) (0 : Nat), Sx.SV.ptr (1 : Nat) (0 : Nat), Sx.SV.sl (2 : Nat) (1 : Nat) (0 : Nat) (List.length b), Sx.SV.sl
      (3 : Nat) (1 : Nat) (0 : Nat) (List.length b), Sx.SV.sl (4 : Nat) (1 : Nat) (0 : Nat) (List.length (Prod.fst (T12.feed [] (T12.flat (List.take b_1 b)))) + List.length
      (List.take (List.length (Prod.fst b_2)) (List.drop (0 : Nat) (Prod.fst b_2)))), Sx.SV.lit (Go.Value.int Go.IntKind.i64 (Go.IntKind.wrap Go.IntKind.i64 ((↑b_1 : Int) + (1 :
      Int))))], [Sx.SO.cells (29 : Nat) [Sx.SV.lit (Go.Value.string (Prod.snd b_2))], Sx.SO.cells (29 : Nat) [Sx.SV.lit (Go.Value.string { data := #[] })], Sx.SO.row (9 : Nat)
      Sx.Ty.str b, Sx.SO.row (9 : Nat) Sx.Ty.str (b ++ [T12.markB]), Sx.SO.row (21 : Nat) (Sx.Ty.int Go.IntKind.i32) (List.take (List.length (Prod.fst (T12.feed [] (T12.flat
      (List.take b_1 b))))) (Prod.fst (T12.feed [] (T12.flat (List.take b_1 b)))) ++ List.take (List.length (Prod.fst b_2)) (List.drop (0 : Nat) (Prod.fst b_2)))]) = ([Sx.SV.ptr
      (0 : Nat) (0 : Nat), Sx.SV.ptr (1 : Nat) (0 : Nat), Sx.SV.sl (2 : Nat) (1 : Nat) (0 : Nat) (List.length b), Sx.SV.sl (3 : Nat) (1 : Nat) (0 : Nat) (List.length b),
      Sx.SV.sl (4 : Nat) (1 : Nat) (0 : Nat) (List.length (Prod.fst (T12.feed [] (T12.flat (List.take x' b))))), Sx.SV.lit (Go.Value.int Go.IntKind.i64 (↑x' : Int))],
      [Sx.SO.cells (29 : Nat) [Sx.SV.lit (Go.Value.string (Sx.bsOf (Prod.snd (T12.feed [] (T12.flat (List.take x' b))))))], Sx.SO.cells (29 : Nat) [Sx.SV.lit (Go.Value.string {
      data := #[] })], Sx.SO.row (9 : Nat) Sx.Ty.str b, Sx.SO.row (9 : Nat) Sx.Ty.str (b ++ [T12.markB]), Sx.SO.row (21 : Nat) (Sx.Ty.int Go.IntKind.i32) (Prod.fst (T12.feed []
      (T12.flat (List.take x' b))))]) ∧ x' ≤ List.length b ∧ List.length b - x' < List.length b - b_1) ∧ True)) ((True ∧ List.length b ≤ List.length (b ++ [T12.markB]) ∧
      T12.SizeOK (List.take (List.length b) (b ++ [T12.markB])) ∧ List.length b ≤ (1000000 : Nat)) ∧ ∀ (b_2 : List Int × ByteArray), T12.Fed { data := #[] } (List.take
      (List.length b) (b ++ [T12.markB])) b_2 → ((0 : Nat) + List.length (Prod.fst (T12.feed [] (T12.flat (List.take b_1 b)))) ≤ List.length (Prod.fst (T12.feed [] (T12.flat
      (List.take b_1 b)))) ∧ (0 : Nat) + List.length (Prod.fst b_2) ≤ List.length (Prod.fst b_2) ∧ List.length (Prod.fst (T12.feed [] (T12.flat (List.take b_1 b)))) ≤ (1000000 :
      Nat)) ∧ Sx.br (Decidable.decide (List.take (List.length (Prod.fst (T12.feed [] (T12.flat (List.take b_1 b))))) (List.drop (0 : Nat) (Prod.fst (T12.feed [] (T12.flat
      (List.take b_1 b))))) = List.take (List.length (Prod.fst b_2)) (List.drop (0 : Nat) (Prod.fst b_2)))) (Sx.br ((↑(ByteArray.size (Sx.bsOf (Prod.snd (T12.feed [] (T12.flat
      (List.take b_1 b)))))) : Int) == (↑(ByteArray.size (Prod.snd b_2)) : Int)) (Sx.br (Decidable.decide ((↑(ByteArray.size (Sx.bsOf (Prod.snd (T12.feed [] (T12.flat (List.take
      b_1 b)))))) : Int) ≤ (3 : Int))) ((List.length b = List.length b ∧ List.length b = List.length b ∧ b ++ [T12.markB] = b ++ [T12.markB] ∧ List.length b ≤ (1000 : Nat)) ∧ Q
      (Sx.SV.lit (Go.Value.bool Bool.true), ([] : List Sx.SO), [])) (Q (Sx.SV.lit (Go.Value.bool Bool.false), ([] : List Sx.SO), []))) (Q (Sx.SV.lit (Go.Value.bool Bool.false),
      ([] : List Sx.SO), []))) (Q (Sx.SV.lit (Go.Value.bool Bool.false), ([] : List Sx.SO), [])))))) (by kernel_rfl) ?_
  have hbs : bytesOf Try.prog 21 = 4 := by kernel_rfl
  refine br_intro (fun _ => hq) (fun h0 => br_intro (fun _ => hq) (fun h1 => ⟨⟨?_, ?_⟩, fun P hP => ?_⟩))
  · have h0 := of_decide_eq_false h0; omega
  · have h1 := of_decide_eq_false h1; omega
  have h0 := of_decide_eq_false h0
  have h1 := of_decide_eq_false h1
  obtain ⟨hall, hfew, _⟩ := hP
  have hfl : (flat P).length ≤ 1000 := by rw [hall, strInts_size]; omega
  have hmono : ∀ i, i ≤ P.length → (flat (P.take i)).length ≤ 1000 := fun i hi => by
    have := flat_mono P i P.length hi
    rw [List.take_length] at this; omega
  refine ⟨⟨rfl, by omega⟩, ⟨0, rfl, by omega⟩, fun i hi => br_intro (fun hlt => ?_) (fun hge => ?_)⟩
  · have hlt := of_decide_eq_true hlt
    have hg : Good (feed [] (flat (P.take i))).2 := good_feed (h := []) trivial _
    have hsucc := flat_succ P i (by omega) Ty.str.dflt
    have hm1 := hmono (i + 1) (by omega)
    rw [hsucc, List.length_append] at hm1
    rw [strInts_bsOf (good_bytes hg), Nat.zero_add]
    refine ⟨by omega, by omega, ⟨hg, by omega, ⟨by rw [flat_one]; omega⟩, by omega⟩, fun r hr => ?_⟩
    obtain ⟨e1, e2⟩ := hr
    rw [strInts_bsOf (good_bytes hg), flat_one] at e1 e2
    have hfa := feed_append [] (flat (P.take i)) (strInts (P.getD i Ty.str.dflt))
    rw [← e1, ← e2, ← hsucc] at hfa
    have hmost := feed_most (flat (P.take (i + 1)))
    have hm2 := hmono (i + 1) (by omega)
    rw [hfa] at hmost
    simp only [List.length_append] at hmost
    have hr2 : r.2 = bsOf (strInts r.2) := (bsOf_strInts _).symm
    simp only [List.drop_zero, List.take_length]
    refine ⟨by omega, br_intro (fun g => ⟨⟨i + 1, ?_, by omega, by omega⟩, trivial⟩) (fun g => ⟨by omega, ⟨by omega, by rw [hbs]; omega⟩, ⟨i + 1, ?_, by omega, by omega⟩, trivial⟩)⟩
    · have g := of_decide_eq_true g
      have hz : r.1.length = 0 := by omega
      have hz' : r.1 = [] := List.eq_nil_of_length_eq_zero hz
      rw [hfa, wrap1 i (by omega), hz', ← hr2]
      simp only [List.append_nil, List.length_nil, Nat.add_zero, List.drop_length]
    · rw [hfa, wrap1 i (by omega), ← hr2]
      simp only [List.length_append]
  · have hge := of_decide_eq_false hge
    have hil : i = P.length := by omega
    subst hil
    rw [List.take_left, List.take_length]
    refine ⟨⟨trivial, by rw [List.length_append]; omega, ⟨by omega⟩, by omega⟩, fun r hr => ?_⟩
    obtain ⟨e1, e2⟩ := hr
    have e0 : strInts ({ data := #[] } : ByteArray) = [] := rfl
    rw [e0] at e1 e2
    have hmost := feed_most (flat P)
    have hg : Good (feed [] (flat P)).2 := good_feed (h := []) trivial _
    have hl3 := good_len hg
    have hz : r.2.size = (feed [] (flat P)).2.length := by rw [← strInts_size, e2]
    rw [← e1] at hmost ⊢
    rw [bsOf_size, hz]
    simp only [List.drop_zero, List.take_length]
    refine ⟨⟨by omega, by omega, by omega⟩, br_intro (fun _ => br_intro (fun _ => br_intro (fun _ => ⟨⟨trivial, trivial, trivial, by omega⟩, hq⟩) (fun g => by have := of_decide_eq_false g; omega)) (fun g => by simp at g)) (fun g => by simp at g)⟩
end T12
