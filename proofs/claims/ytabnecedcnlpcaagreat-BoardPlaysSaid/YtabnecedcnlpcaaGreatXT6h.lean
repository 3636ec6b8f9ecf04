/- Part of a proof: the walk of the functions that the law calls. -/
import Derived.Test.YtabnecedcnlpcaaGreatSxT
import Derived.Test.YtabnecedcnlpcaaGreatXT6g
import Derived.Test.YtabnecedcnlpcaaGreatProg
set_option linter.unusedVariables false
set_option linter.unusedSimpArgs false
open Go Sx Go.Proofs
namespace W5
set_option maxRecDepth 100000
set_option maxHeartbeats 40000000
attribute [local irreducible] Tree.Leads
theorem wrap1 (n : Nat) (h : n ≤ 1099511627776) : IntKind.i64.wrap ((n : Int) + 1) = ((n + 1 : Nat) : Int) := by rw [IntKind.wrap_i64]; omega
noncomputable def A13 (X Y : List ByteArray) (L : Nat) : Ann := { live := [0, 1, 5], mv := [], head := fun vals H => match vals with | [a, b, _] => { X := Nat, inv := fun i => ([a, b, .lit (.int .i64 i)], H), ok := fun i => i ≤ L ∧ X.take i = Y.take i, mu := fun i => L - i } | _ => { X := Nat, inv := fun _ => ([], []), ok := fun _ => False, mu := fun _ => 0 } }
theorem decF {p : Prop} [Decidable p] (h : ¬ p) : decide p = false := decide_eq_false h

def nl : SV := .lit (.slice none 0 0)
def bk (a b : SV) : List SV := [a, b, nl, nl, nl, nl, nl, nl, nl, nl, nl, nl, nl, nl, nl, nl]
/-- A copy, as data. -/
noncomputable def E25 : Nat → Option Ann := An1 999999 { live := [], mv := [], head := fun _ _ => { X := Nat, inv := fun _ => ([], []), ok := fun _ => False, mu := fun _ => 0 }, hook := 6, hk2 := 2 }
theorem v25 (n : Nat) (R : List ByteArray) (Q : SV × Heap × List Nat → Prop) (hn : n ≤ R.length) (hR : R.length ≤ 1000000) (hq : Q (.imm .str (R.take n), [.view 9 .str R], [])) :
    (bodySumm TN Tryz.prog Tryz.f22 E25 [.sl 0 1 0 n] [.view 9 .str R]).Leads Q := by
  refine Sx.by_text (q :=
      (0 : Nat) + n ≤ List.length R ∧ ((↑((0 : Nat) + List.length (List.take n (List.drop (0 : Nat) R))) : Int) ≤ (9223372036854775807 : Int) ∧ ((0 : Nat) + List.length
      (List.take n (List.drop (0 : Nat) R))) * Sx.bytesOf Go.Proofs.Tryz.prog (9 : Nat) ≤ (140737488355328 : Nat)) ∧ (0 : Nat) + List.length (List.take n (List.drop (0 : Nat)
      R)) ≤ List.length (List.take n (List.drop (0 : Nat) R)) ∧ Q (SV.imm Ty.str (List.take (List.length (List.take n (List.drop (0 : Nat) R))) (List.drop (0 : Nat) (List.take n
      (List.drop (0 : Nat) R)))), [SO.view (9 : Nat) Ty.str R], [])) (by kernel_rfl) ?_
  have hb : bytesOf Tryz.prog 9 = 16 := by kernel_rfl
  have hl : (R.take n).length = n := by rw [List.length_take]; omega
  rw [List.drop_zero, List.drop_zero, List.take_length, hl, hb]
  exact ⟨by omega, ⟨by omega, by omega⟩, by omega, hq⟩
noncomputable def s25 : Summ := fun args H => match args, H with
  | [.sl 0 1 0 n], [.view 9 .str R] => .need (n ≤ R.length ∧ R.length ≤ 1000000) (.ret (.imm .str (R.take n), [.view 9 .str R], []))
  | _, _ => .fail
theorem s25_ok : SummOK Tryz.prog 22 s25 := by
  refine summ_of_body (fn := Tryz.f22) (c := Tryz.f22.body.get!) TN_ok (by kernel_rfl) (by kernel_rfl) (by kernel_rfl) fun args H Q h => ?_
  unfold s25 at h
  split at h
  · rename_i n R
    simp only [Tree.Leads] at h
    exact ⟨E25, v25 n R Q h.1.1 h.1.2 h.2⟩
  · simp only [Tree.Leads] at h
/-- With rows that are kept. -/
noncomputable def K1 : Table := (TN.add 22 (.go s25)).add 3000043 (.ext fun _ _ => .fail)
theorem K1_ok : TableOK Tryz.prog K1 := add_ok (add_ok TN_ok s25_ok) (fun _ _ _ _ _ _ _ _ _ h => by simp only [Tree.Leads] at h)
theorem v20 (n : Nat) (R : List ByteArray) (LL WW : List (List ByteArray)) (Q : SV × Heap × List Nat → Prop) (hn : n ≤ R.length) (hR : R.length ≤ 1000000) (hL : LL.length ≤ 100) (hW : WW.length ≤ 100)
    (hq : Q (.tup [], [.cells 52 (bk (.sl 2 1 0 (LL.length + 1)) (.sl 3 1 0 (WW.length + 1))), .view 9 .str R, .kept 22 9 .str (LL ++ [R.take n]), .row 22 (.imm .str) (WW ++ [R.take n])], [2, 3])) :
    (bodySumm K1 Tryz.prog Tryz.f8 noAn [.ptr 0 0, .sl 1 1 0 n] [.cells 52 (bk (.sl 2 1 0 LL.length) (.sl 3 1 0 WW.length)), .row 9 .str R, .kept 22 9 .str LL, .row 22 (.imm .str) WW]).Leads Q := by
  refine Sx.by_text (q :=
      br (decide ((↑(List.length LL) : Int) < (250 : Int))) (n ≤ List.length R ∧ (List.length LL = List.length LL ∧ (1 : Nat) = (1 : Nat)) ∧ ((↑(List.length LL + (1 : Nat)) :
      Int) ≤ (9223372036854775807 : Int) ∧ (List.length LL + (1 : Nat)) * Sx.bytesOf Go.Proofs.Tryz.prog (22 : Nat) ≤ (140737488355328 : Nat)) ∧ ∀ (b : Bool), True → br b ((n ≤
      List.length R ∧ List.length R ≤ (1000000 : Nat)) ∧ (1 : Nat) ≤ (1 : Nat) ∧ br (decide (List.length WW + (1 : Nat) ≤ List.length WW)) (Q (SV.tup ([] : List Sx.SV),
      [SO.cells (52 : Nat) (W5.bk (SV.sl (2 : Nat) (1 : Nat) (0 : Nat) (List.length LL + (1 : Nat))) (SV.sl (3 : Nat) (1 : Nat) (0 : Nat) (List.length WW + (1 : Nat)))), SO.view
      (9 : Nat) Ty.str R, SO.kept (22 : Nat) (9 : Nat) Ty.str (LL ++ [List.take n R]), SO.row (22 : Nat) (Ty.imm Ty.str) (List.take (List.length WW) WW ++ [List.take n R] ++
      List.drop (List.length WW + (1 : Nat)) WW)], [(2 : Nat)])) (List.length WW ≤ List.length WW ∧ ((↑(List.length WW + (1 : Nat)) : Int) ≤ (9223372036854775807 : Int) ∧
      (List.length WW + (1 : Nat)) * Sx.bytesOf Go.Proofs.Tryz.prog (22 : Nat) ≤ (140737488355328 : Nat)) ∧ Q (SV.tup ([] : List Sx.SV), [SO.cells (52 : Nat) (W5.bk (SV.sl (2 :
      Nat) (1 : Nat) (0 : Nat) (List.length LL + (1 : Nat))) (SV.sl (3 : Nat) (1 : Nat) (0 : Nat) (List.length WW + (1 : Nat)))), SO.view (9 : Nat) Ty.str R, SO.kept (22 : Nat)
      (9 : Nat) Ty.str (LL ++ [List.take n R]), SO.row (22 : Nat) (Ty.imm Ty.str) (List.take (List.length WW) WW ++ [List.take n R])], [(2 : Nat), (3 : Nat)]))) ((n ≤
      List.length R ∧ List.length R ≤ (1000000 : Nat)) ∧ (1 : Nat) ≤ (1 : Nat) ∧ br (decide (List.length WW + (1 : Nat) ≤ List.length WW)) (Q (SV.tup ([] : List Sx.SV),
      [SO.cells (52 : Nat) (W5.bk (SV.sl (2 : Nat) (1 : Nat) (0 : Nat) (List.length LL + (1 : Nat))) (SV.sl (3 : Nat) (1 : Nat) (0 : Nat) (List.length WW + (1 : Nat)))), SO.view
      (9 : Nat) Ty.str R, SO.kept (22 : Nat) (9 : Nat) Ty.str (LL ++ [List.take n R]), SO.row (22 : Nat) (Ty.imm Ty.str) (List.take (List.length WW) WW ++ [List.take n R] ++
      List.drop (List.length WW + (1 : Nat)) WW)], [(2 : Nat)])) (List.length WW ≤ List.length WW ∧ ((↑(List.length WW + (1 : Nat)) : Int) ≤ (9223372036854775807 : Int) ∧
      (List.length WW + (1 : Nat)) * Sx.bytesOf Go.Proofs.Tryz.prog (22 : Nat) ≤ (140737488355328 : Nat)) ∧ Q (SV.tup ([] : List Sx.SV), [SO.cells (52 : Nat) (W5.bk (SV.sl (2 :
      Nat) (1 : Nat) (0 : Nat) (List.length LL + (1 : Nat))) (SV.sl (3 : Nat) (1 : Nat) (0 : Nat) (List.length WW + (1 : Nat)))), SO.view (9 : Nat) Ty.str R, SO.kept (22 : Nat)
      (9 : Nat) Ty.str (LL ++ [List.take n R]), SO.row (22 : Nat) (Ty.imm Ty.str) (List.take (List.length WW) WW ++ [List.take n R])], [(2 : Nat), (3 : Nat)])))) (Q (SV.tup ([]
      : List Sx.SV), [SO.cells (52 : Nat) (W5.bk (SV.sl (2 : Nat) (1 : Nat) (0 : Nat) (List.length LL)) (SV.sl (3 : Nat) (1 : Nat) (0 : Nat) (List.length WW))), SO.row (9 : Nat)
      Ty.str R, SO.kept (22 : Nat) (9 : Nat) Ty.str LL, SO.row (22 : Nat) (Ty.imm Ty.str) WW], []))) (by kernel_rfl) ?_
  have hb : bytesOf Tryz.prog 22 = 24 := by kernel_rfl
  rw [hb, List.take_length]
  refine br_intro (fun _ => ⟨hn, ⟨rfl, rfl⟩, ⟨by omega, by omega⟩, fun b _ => br_intro (fun _ => ?_) (fun _ => ?_)⟩) (fun h => by have := of_decide_eq_false h; omega)
  all_goals exact ⟨⟨hn, hR⟩, by omega, br_intro (fun h => by have := of_decide_eq_true h; omega) (fun _ => ⟨by omega, ⟨by omega, by omega⟩, hq⟩)⟩
theorem v20n (n : Nat) (R : List ByteArray) (Q : SV × Heap × List Nat → Prop) (hn : n ≤ R.length) (hR : R.length ≤ 1000000)
    (hq : Q (.tup [], [.cells 52 (bk (.sl 2 1 0 1) (.sl 3 1 0 1)), .view 9 .str R, .kept 22 9 .str [R.take n], .row 22 (.imm .str) [R.take n]], [])) :
    (bodySumm K1 Tryz.prog Tryz.f8 noAn [.ptr 0 0, .sl 1 1 0 n] [.cells 52 (bk nl nl), .row 9 .str R]).Leads Q := by
  refine Sx.by_text (q :=
      n ≤ List.length R ∧ ((0 : Nat) = (0 : Nat) ∧ (1 : Nat) = (1 : Nat)) ∧ ((↑(1 : Nat) : Int) ≤ (9223372036854775807 : Int) ∧ (1 : Nat) * Sx.bytesOf Go.Proofs.Tryz.prog (22 :
      Nat) ≤ (140737488355328 : Nat)) ∧ ∀ (b : Bool), True → br b ((n ≤ List.length R ∧ List.length R ≤ (1000000 : Nat)) ∧ (1 : Nat) ≤ (1 : Nat) ∧ ((↑(1 : Nat) : Int) ≤
      (9223372036854775807 : Int) ∧ (1 : Nat) * Sx.bytesOf Go.Proofs.Tryz.prog (22 : Nat) ≤ (140737488355328 : Nat)) ∧ Q (SV.tup ([] : List Sx.SV), [SO.cells (52 : Nat) (W5.bk
      (SV.sl (2 : Nat) (1 : Nat) (0 : Nat) (1 : Nat)) (SV.sl (3 : Nat) (1 : Nat) (0 : Nat) (1 : Nat))), SO.view (9 : Nat) Ty.str R, SO.kept (22 : Nat) (9 : Nat) Ty.str
      [List.take n R], SO.row (22 : Nat) (Ty.imm Ty.str) [List.take n R]], [])) ((n ≤ List.length R ∧ List.length R ≤ (1000000 : Nat)) ∧ (1 : Nat) ≤ (1 : Nat) ∧ ((↑(1 : Nat) :
      Int) ≤ (9223372036854775807 : Int) ∧ (1 : Nat) * Sx.bytesOf Go.Proofs.Tryz.prog (22 : Nat) ≤ (140737488355328 : Nat)) ∧ Q (SV.tup ([] : List Sx.SV), [SO.cells (52 : Nat)
      (W5.bk (SV.sl (2 : Nat) (1 : Nat) (0 : Nat) (1 : Nat)) (SV.sl (3 : Nat) (1 : Nat) (0 : Nat) (1 : Nat))), SO.view (9 : Nat) Ty.str R, SO.kept (22 : Nat) (9 : Nat) Ty.str
      [List.take n R], SO.row (22 : Nat) (Ty.imm Ty.str) [List.take n R]], []))) (by kernel_rfl) ?_
  have hb : bytesOf Tryz.prog 22 = 24 := by kernel_rfl
  rw [hb]
  refine ⟨hn, ⟨rfl, rfl⟩, ⟨by omega, by omega⟩, fun b _ => br_intro (fun _ => ?_) (fun _ => ?_)⟩
  all_goals exact ⟨⟨hn, hR⟩, by omega, ⟨by omega, by omega⟩, hq⟩
noncomputable def s20 : Summ := fun args H => match args, H with
  | [.ptr 0 0, .sl 1 1 0 n], [.cells 52 cs, .row 9 .str R, .kept 22 9 .str LL, .row 22 (.imm .str) WW] => .need ((n ≤ R.length ∧ R.length ≤ 1000000) ∧ LL.length ≤ 100 ∧ WW.length ≤ 100 ∧ cs = bk (.sl 2 1 0 LL.length) (.sl 3 1 0 WW.length))
      (.ret (.tup [], [.cells 52 (bk (.sl 2 1 0 (LL.length + 1)) (.sl 3 1 0 (WW.length + 1))), .view 9 .str R, .kept 22 9 .str (LL ++ [R.take n]), .row 22 (.imm .str) (WW ++ [R.take n])], [2, 3]))
  | [.ptr 0 0, .sl 1 1 0 n], [.cells 52 cs, .row 9 .str R] => .need ((n ≤ R.length ∧ R.length ≤ 1000000) ∧ cs = bk nl nl)
      (.ret (.tup [], [.cells 52 (bk (.sl 2 1 0 1) (.sl 3 1 0 1)), .view 9 .str R, .kept 22 9 .str [R.take n], .row 22 (.imm .str) [R.take n]], []))
  | _, _ => .fail
theorem s20_ok : SummOK Tryz.prog 8 s20 := by
  refine summ_of_body (fn := Tryz.f8) (c := Tryz.f8.body.get!) K1_ok (by kernel_rfl) (by kernel_rfl) (by kernel_rfl) fun args H Q h => ?_
  unfold s20 at h
  split at h
  · rename_i n cs R LL WW
    simp only [Tree.Leads] at h
    obtain ⟨⟨⟨h1, h2⟩, h3, h4, rfl⟩, hq⟩ := h
    exact ⟨noAn, v20 n R LL WW Q h1 h2 h3 h4 hq⟩
  · rename_i n cs R
    simp only [Tree.Leads] at h
    obtain ⟨⟨⟨h1, h2⟩, rfl⟩, hq⟩ := h
    exact ⟨noAn, v20n n R Q h1 h2 hq⟩
  · simp only [Tree.Leads] at h
/-- Two lists, element by element. -/
noncomputable def A13b (X Y : List ByteArray) : Ann := { live := [0, 1, 5], mv := [], head := fun vals H => match vals with | [a, b, _] => { X := Nat, inv := fun i => ([a, b, .lit (.int .i64 i)], H), ok := fun i => i ≤ X.length ∧ X.take i = Y.take i, mu := fun i => X.length - i } | _ => { X := Nat, inv := fun _ => ([], []), ok := fun _ => False, mu := fun _ => 0 } }
theorem v13b (X Y : List ByteArray) (Q : SV × Heap × List Nat → Prop) (hX : X.length ≤ 1000000) (hY : Y.length ≤ 1000000) (hq : Q (.lit (.bool (decide (X = Y))), [], [])) : (bodySumm TN Tryz.prog Tryz.f9 (An1 0 (A13b X Y)) [.imm .str X, .imm .str Y] []).Leads Q := by
  refine Sx.by_text (q :=
      br ((↑(List.length X) : Int) != (↑(List.length Y) : Int)) (Q (SV.lit (Value.bool false), ([] : List Sx.SO), [])) ((∃ (x : Nat), ([SV.imm Ty.str X, SV.imm Ty.str Y, SV.lit
      (Value.int IntKind.i64 (0 : Int))], ([] : List Sx.SO)) = ([SV.imm Ty.str X, SV.imm Ty.str Y, SV.lit (Value.int IntKind.i64 (↑x : Int))], ([] : List Sx.SO)) ∧ x ≤
      List.length X ∧ List.take x X = List.take x Y) ∧ ∀ (b : Nat), b ≤ List.length X ∧ List.take b X = List.take b Y → br (decide ((↑b : Int) < (↑(List.length X) : Int))) (((0
      : Int) ≤ (↑b : Int) ∧ (↑b : Int) < (↑(List.length X) : Int)) ∧ b < List.length X ∧ ((0 : Int) ≤ (↑b : Int) ∧ (↑b : Int) < (↑(List.length Y) : Int)) ∧ b < List.length Y ∧
      br (!List.getD X b (Ty.dflt Ty.str) == List.getD Y b (Ty.dflt Ty.str)) (Q (SV.lit (Value.bool false), ([] : List Sx.SO), [])) ((∃ (x' : Nat), ([SV.imm Ty.str X, SV.imm
      Ty.str Y, SV.lit (Value.int IntKind.i64 (IntKind.wrap IntKind.i64 ((↑b : Int) + (1 : Int))))], ([] : List Sx.SO)) = ([SV.imm Ty.str X, SV.imm Ty.str Y, SV.lit (Value.int
      IntKind.i64 (↑x' : Int))], ([] : List Sx.SO)) ∧ (x' ≤ List.length X ∧ List.take x' X = List.take x' Y) ∧ List.length X - x' < List.length X - b) ∧ True)) (Q (SV.lit
      (Value.bool true), ([] : List Sx.SO), [])))) (by kernel_rfl) ?_
  refine br_intro (fun h => ?_) (fun h => ?_)
  · have h : (X.length : Int) ≠ (Y.length : Nat) := by simpa using h
    rw [decF (p := X = Y) (fun e => by rw [e] at h; exact h rfl)] at hq
    exact hq
  · have h : (X.length : Int) = (Y.length : Nat) := by simpa using h
    refine ⟨⟨0, rfl, by omega, rfl⟩, fun i hi => br_intro (fun hlt => ?_) (fun hge => ?_)⟩
    · have hlt := of_decide_eq_true hlt
      refine ⟨by omega, by omega, by omega, by omega, br_intro (fun g => ?_) (fun g => ⟨⟨i + 1, ?_, ⟨by omega, ?_⟩, by omega⟩, trivial⟩)⟩
      · have g : X.getD i Ty.str.dflt ≠ Y.getD i Ty.str.dflt := by simpa [bytes_beq] using g
        rw [decF (PL.not_same g)] at hq
        exact hq
      · rw [wrap1 i (by omega)]
      · have g : X.getD i Ty.str.dflt = Y.getD i Ty.str.dflt := by simpa [bytes_beq] using g
        exact PL.take_step (by omega) (by omega) hi.2 g
    · have hge := of_decide_eq_false hge
      rw [decide_eq_true (p := X = Y) (PL.take_all (i := i) (by omega) (by omega) hi.2)] at hq
      exact hq
theorem v13v (A B : List ByteArray) (a b m n : Nat) (Q : SV × Heap × List Nat → Prop) (hm : a + m ≤ A.length) (hn : b + n ≤ B.length) (hm2 : m ≤ 1000000) (hq : Q (.lit (.bool (decide ((A.drop a).take m = (B.drop b).take n))), [.view 9 .str A, .row 9 .str B], [])) : (bodySumm TN Tryz.prog Tryz.f9 (An1 0 (A13 ((A.drop a).take m) ((B.drop b).take n) m)) [.sl 0 1 a m, .sl 1 1 b n] [.view 9 .str A, .row 9 .str B]).Leads Q := by
  refine Sx.by_text (q :=
      br ((↑m : Int) != (↑n : Int)) (Q (SV.lit (Value.bool false), [SO.view (9 : Nat) Ty.str A, SO.row (9 : Nat) Ty.str B], [])) ((∃ (x : Nat), ([SV.sl (0 : Nat) (1 : Nat) a m,
      SV.sl (1 : Nat) (1 : Nat) b n, SV.lit (Value.int IntKind.i64 (0 : Int))], [SO.view (9 : Nat) Ty.str A, SO.row (9 : Nat) Ty.str B]) = ([SV.sl (0 : Nat) (1 : Nat) a m, SV.sl
      (1 : Nat) (1 : Nat) b n, SV.lit (Value.int IntKind.i64 (↑x : Int))], [SO.view (9 : Nat) Ty.str A, SO.row (9 : Nat) Ty.str B]) ∧ x ≤ m ∧ List.take x (List.take m (List.drop
      a A)) = List.take x (List.take n (List.drop b B))) ∧ ∀ (b_1 : Nat), b_1 ≤ m ∧ List.take b_1 (List.take m (List.drop a A)) = List.take b_1 (List.take n (List.drop b B)) →
      br (decide ((↑b_1 : Int) < (↑m : Int))) (((0 : Int) ≤ (↑b_1 : Int) ∧ (↑b_1 : Int) < (↑m : Int)) ∧ a + b_1 < List.length A ∧ ((0 : Int) ≤ (↑b_1 : Int) ∧ (↑b_1 : Int) < (↑n
      : Int)) ∧ b + b_1 < List.length B ∧ br (!List.getD A (a + b_1) (Ty.dflt Ty.str) == List.getD B (b + b_1) (Ty.dflt Ty.str)) (Q (SV.lit (Value.bool false), [SO.view (9 :
      Nat) Ty.str A, SO.row (9 : Nat) Ty.str B], [])) ((∃ (x' : Nat), ([SV.sl (0 : Nat) (1 : Nat) a m, SV.sl (1 : Nat) (1 : Nat) b n, SV.lit (Value.int IntKind.i64 (IntKind.wrap
      IntKind.i64 ((↑b_1 : Int) + (1 : Int))))], [SO.view (9 : Nat) Ty.str A, SO.row (9 : Nat) Ty.str B]) = ([SV.sl (0 : Nat) (1 : Nat) a m, SV.sl (1 : Nat) (1 : Nat) b n,
      SV.lit (Value.int IntKind.i64 (↑x' : Int))], [SO.view (9 : Nat) Ty.str A, SO.row (9 : Nat) Ty.str B]) ∧ (x' ≤ m ∧ List.take x' (List.take m (List.drop a A)) = List.take x'
      (List.take n (List.drop b B))) ∧ m - x' < m - b_1) ∧ True)) (Q (SV.lit (Value.bool true), [SO.view (9 : Nat) Ty.str A, SO.row (9 : Nat) Ty.str B], [])))) (by kernel_rfl) ?_
  generalize hX : (A.drop a).take m = X at *
  have hXl : X.length = m := by rw [← hX]; exact PL.part_len A a m hm
  have hXg : ∀ i, i < m → A.getD (a + i) Ty.str.dflt = X.getD i Ty.str.dflt := fun i hi => by rw [← hX]; exact PL.getD_part A a m i _ hi
  generalize hY : (B.drop b).take n = Y at *
  have hYl : Y.length = n := by rw [← hY]; exact PL.part_len B b n hn
  have hYg : ∀ i, i < n → B.getD (b + i) Ty.str.dflt = Y.getD i Ty.str.dflt := fun i hi => by rw [← hY]; exact PL.getD_part B b n i _ hi
  refine br_intro (fun h => ?_) (fun h => ?_)
  · have h : (m : Int) ≠ (n : Nat) := by simpa using h
    rw [decF (p := X = Y) (fun e => by rw [e] at hXl; omega)] at hq
    exact hq
  · have h : (m : Int) = (n : Nat) := by simpa using h
    refine ⟨⟨0, rfl, by omega, rfl⟩, fun i hi => br_intro (fun hlt => ?_) (fun hge => ?_)⟩
    · have hlt := of_decide_eq_true hlt
      rw [hXg i (by omega), hYg i (by omega)]
      refine ⟨by omega, by omega, by omega, by omega, br_intro (fun g => ?_) (fun g => ⟨⟨i + 1, ?_, ⟨by omega, ?_⟩, by omega⟩, trivial⟩)⟩
      · have g : X.getD i Ty.str.dflt ≠ Y.getD i Ty.str.dflt := fun e => by rw [e] at g; simp [bytes_beq] at g
        rw [decF (PL.not_same g)] at hq
        exact hq
      · rw [wrap1 i (by omega)]
      · have g : X.getD i Ty.str.dflt = Y.getD i Ty.str.dflt := by
          simpa [bytes_beq] using g
        exact PL.take_step (by omega) (by omega) hi.2 g
    · have hge := of_decide_eq_false hge
      rw [decide_eq_true (p := X = Y) (PL.take_all (i := i) (by omega) (by omega) hi.2)] at hq
      exact hq
theorem v13r (X B : List ByteArray) (b n : Nat) (Q : SV × Heap × List Nat → Prop) (hX : X.length ≤ 1000000) (hn : b + n ≤ B.length) (hq : Q (.lit (.bool (decide (X = (B.drop b).take n))), [.row 9 .str B], [])) : (bodySumm TN Tryz.prog Tryz.f9 (An1 0 (A13b X ((B.drop b).take n))) [.imm .str X, .sl 0 1 b n] [.row 9 .str B]).Leads Q := by
  refine Sx.by_text (q :=
      br ((↑(List.length X) : Int) != (↑n : Int)) (Q (SV.lit (Value.bool false), [SO.row (9 : Nat) Ty.str B], [])) ((∃ (x : Nat), ([SV.imm Ty.str X, SV.sl (0 : Nat) (1 : Nat) b
      n, SV.lit (Value.int IntKind.i64 (0 : Int))], [SO.row (9 : Nat) Ty.str B]) = ([SV.imm Ty.str X, SV.sl (0 : Nat) (1 : Nat) b n, SV.lit (Value.int IntKind.i64 (↑x : Int))],
      [SO.row (9 : Nat) Ty.str B]) ∧ x ≤ List.length X ∧ List.take x X = List.take x (List.take n (List.drop b B))) ∧ ∀ (b_1 : Nat), b_1 ≤ List.length X ∧ List.take b_1 X =
      List.take b_1 (List.take n (List.drop b B)) → br (decide ((↑b_1 : Int) < (↑(List.length X) : Int))) (((0 : Int) ≤ (↑b_1 : Int) ∧ (↑b_1 : Int) < (↑(List.length X) : Int)) ∧
      b_1 < List.length X ∧ ((0 : Int) ≤ (↑b_1 : Int) ∧ (↑b_1 : Int) < (↑n : Int)) ∧ b + b_1 < List.length B ∧ br (!List.getD X b_1 (Ty.dflt Ty.str) == List.getD B (b + b_1)
      (Ty.dflt Ty.str)) (Q (SV.lit (Value.bool false), [SO.row (9 : Nat) Ty.str B], [])) ((∃ (x' : Nat), ([SV.imm Ty.str X, SV.sl (0 : Nat) (1 : Nat) b n, SV.lit (Value.int
      IntKind.i64 (IntKind.wrap IntKind.i64 ((↑b_1 : Int) + (1 : Int))))], [SO.row (9 : Nat) Ty.str B]) = ([SV.imm Ty.str X, SV.sl (0 : Nat) (1 : Nat) b n, SV.lit (Value.int
      IntKind.i64 (↑x' : Int))], [SO.row (9 : Nat) Ty.str B]) ∧ (x' ≤ List.length X ∧ List.take x' X = List.take x' (List.take n (List.drop b B))) ∧ List.length X - x' <
      List.length X - b_1) ∧ True)) (Q (SV.lit (Value.bool true), [SO.row (9 : Nat) Ty.str B], [])))) (by kernel_rfl) ?_
  generalize hY : (B.drop b).take n = Y at *
  have hYl : Y.length = n := by rw [← hY]; exact PL.part_len B b n hn
  have hYg : ∀ i, i < n → B.getD (b + i) Ty.str.dflt = Y.getD i Ty.str.dflt := fun i hi => by rw [← hY]; exact PL.getD_part B b n i _ hi
  refine br_intro (fun h => ?_) (fun h => ?_)
  · have h : (X.length : Int) ≠ (n : Nat) := by simpa using h
    rw [decF (p := X = Y) (fun e => by rw [e] at h; omega)] at hq
    exact hq
  · have h : (X.length : Int) = (n : Nat) := by simpa using h
    refine ⟨⟨0, rfl, by omega, rfl⟩, fun i hi => br_intro (fun hlt => ?_) (fun hge => ?_)⟩
    · have hlt := of_decide_eq_true hlt
      rw [hYg i (by omega)]
      refine ⟨by omega, by omega, by omega, by omega, br_intro (fun g => ?_) (fun g => ⟨⟨i + 1, ?_, ⟨by omega, ?_⟩, by omega⟩, trivial⟩)⟩
      · have g : X.getD i Ty.str.dflt ≠ Y.getD i Ty.str.dflt := fun e => by rw [e] at g; simp [bytes_beq] at g
        rw [decF (PL.not_same g)] at hq
        exact hq
      · rw [wrap1 i (by omega)]
      · have g : X.getD i Ty.str.dflt = Y.getD i Ty.str.dflt := by simpa [bytes_beq] using g
        exact PL.take_step (by omega) (by omega) hi.2 g
    · have hge := of_decide_eq_false hge
      rw [decide_eq_true (p := X = Y) (PL.take_all (i := i) (by omega) (by omega) hi.2)] at hq
      exact hq
noncomputable def s13k : Summ := fun args H => match args, H with
  | [.imm .str X, .imm .str Y], [] => .need (X.length ≤ 1000000 ∧ Y.length ≤ 1000000) (.ret (.lit (.bool (decide (X = Y))), [], []))
  | [.imm .str X, .sl 0 1 b n], [.row 9 .str B] => .need (X.length ≤ 1000000 ∧ b + n ≤ B.length) (.ret (.lit (.bool (decide (X = (B.drop b).take n))), [.row 9 .str B], []))
  | [.sl 0 1 a m, .sl 1 1 b n], [.view 9 .str A, .row 9 .str B] => .need (a + m ≤ A.length ∧ b + n ≤ B.length ∧ m ≤ 1000000) (.ret (.lit (.bool (decide ((A.drop a).take m = (B.drop b).take n))), [.view 9 .str A, .row 9 .str B], []))
  | _, _ => .fail
theorem s13k_ok : SummOK Tryz.prog 9 s13k := by
  refine summ_of_body (fn := Tryz.f9) (c := Tryz.f9.body.get!) TN_ok (by kernel_rfl) (by kernel_rfl) (by kernel_rfl) fun args H Q h => ?_
  unfold s13k at h
  split at h
  · simp only [Tree.Leads] at h
    exact ⟨_, v13b _ _ Q h.1.1 h.1.2 h.2⟩
  · simp only [Tree.Leads] at h
    exact ⟨_, v13r _ _ _ _ Q h.1.1 h.1.2 h.2⟩
  · simp only [Tree.Leads] at h
    exact ⟨_, v13v _ _ _ _ _ _ Q h.1.1 h.1.2.1 h.1.2.2 h.2⟩
  · simp only [Tree.Leads] at h

/-- A mark of a list's own. -/
noncomputable def mk (i k : Int) : ByteArray := nm i k
noncomputable def marks (i : Int) (k : Nat) : Nat → List ByteArray
  | 0 => []
  | n + 1 => marks i k n ++ [mk i ((k + n : Nat) : Int)]
theorem marks_len (i : Int) (k : Nat) : ∀ n, (marks i k n).length = n
  | 0 => rfl
  | n + 1 => by simp only [marks, List.length_append, marks_len i k n]; rfl
noncomputable def A79 (i k n : Nat) : Ann := { live := [0, 1, 2, 7, 8], mv := [], nilS := [(7, 9, .str)], head := fun _ _ => { X := Nat, inv := fun j => ([.lit (.int .i64 i), .lit (.int .i64 k), .lit (.int .i64 n), .sl 0 1 0 j, .lit (.int .i64 ((k + j : Nat) : Int))], [.row 9 .str (marks i k j)]), ok := fun j => j ≤ n, mu := fun j => n - j } }
theorem v79 (i k n : Nat) (Q : SV × Heap × List Nat → Prop) (hk : k ≤ 1000000) (hn : n ≤ 1000000) (hq : Q (.sl 0 1 0 n, [.row 9 .str (marks i k n)], [])) : (bodySumm TN Tryz.prog Tryz.f77 (An1 0 (A79 i k n)) [.lit (.int .i64 i), .lit (.int .i64 k), .lit (.int .i64 n)] []).Leads Q := by
  refine Sx.by_text (q :=
      (∃ (x : Nat), ([SV.lit (Value.int IntKind.i64 (↑i : Int)), SV.lit (Value.int IntKind.i64 (↑k : Int)), SV.lit (Value.int IntKind.i64 (↑n : Int)), SV.sl (0 : Nat) (1 : Nat)
      (0 : Nat) (0 : Nat), SV.lit (Value.int IntKind.i64 (↑k : Int))], [SO.row (9 : Nat) Ty.str []]) = ([SV.lit (Value.int IntKind.i64 (↑i : Int)), SV.lit (Value.int IntKind.i64
      (↑k : Int)), SV.lit (Value.int IntKind.i64 (↑n : Int)), SV.sl (0 : Nat) (1 : Nat) (0 : Nat) x, SV.lit (Value.int IntKind.i64 (↑(k + x) : Int))], [SO.row (9 : Nat) Ty.str
      (W5.marks (↑i : Int) k x)]) ∧ x ≤ n) ∧ ∀ (b : Nat), b ≤ n → br (decide ((↑(k + b) : Int) < IntKind.wrap IntKind.i64 ((↑k : Int) + (↑n : Int)))) ((1 : Nat) ≤ (1 : Nat) ∧ br
      (decide (b + (1 : Nat) ≤ List.length (W5.marks (↑i : Int) k b))) ((∃ (x' : Nat), ([SV.lit (Value.int IntKind.i64 (↑i : Int)), SV.lit (Value.int IntKind.i64 (↑k : Int)),
      SV.lit (Value.int IntKind.i64 (↑n : Int)), SV.sl (0 : Nat) (1 : Nat) (0 : Nat) (b + (1 : Nat)), SV.lit (Value.int IntKind.i64 (IntKind.wrap IntKind.i64 ((↑(k + b) : Int) +
      (1 : Int))))], [SO.row (9 : Nat) Ty.str (List.take b (W5.marks (↑i : Int) k b) ++ [W5.nm (↑i : Int) (↑(k + b) : Int)] ++ List.drop (b + (1 : Nat)) (W5.marks (↑i : Int) k
      b))]) = ([SV.lit (Value.int IntKind.i64 (↑i : Int)), SV.lit (Value.int IntKind.i64 (↑k : Int)), SV.lit (Value.int IntKind.i64 (↑n : Int)), SV.sl (0 : Nat) (1 : Nat) (0 :
      Nat) x', SV.lit (Value.int IntKind.i64 (↑(k + x') : Int))], [SO.row (9 : Nat) Ty.str (W5.marks (↑i : Int) k x')]) ∧ x' ≤ n ∧ n - x' < n - b) ∧ True) (b ≤ List.length
      (W5.marks (↑i : Int) k b) ∧ ((↑(b + (1 : Nat)) : Int) ≤ (9223372036854775807 : Int) ∧ (b + (1 : Nat)) * Sx.bytesOf Go.Proofs.Tryz.prog (9 : Nat) ≤ (140737488355328 : Nat))
      ∧ (∃ (x' : Nat), ([SV.lit (Value.int IntKind.i64 (↑i : Int)), SV.lit (Value.int IntKind.i64 (↑k : Int)), SV.lit (Value.int IntKind.i64 (↑n : Int)), SV.sl (0 : Nat) (1 :
      Nat) (0 : Nat) (b + (1 : Nat)), SV.lit (Value.int IntKind.i64 (IntKind.wrap IntKind.i64 ((↑(k + b) : Int) + (1 : Int))))], [SO.row (9 : Nat) Ty.str (List.take b (W5.marks
      (↑i : Int) k b) ++ [W5.nm (↑i : Int) (↑(k + b) : Int)])]) = ([SV.lit (Value.int IntKind.i64 (↑i : Int)), SV.lit (Value.int IntKind.i64 (↑k : Int)), SV.lit (Value.int
      IntKind.i64 (↑n : Int)), SV.sl (0 : Nat) (1 : Nat) (0 : Nat) x', SV.lit (Value.int IntKind.i64 (↑(k + x') : Int))], [SO.row (9 : Nat) Ty.str (W5.marks (↑i : Int) k x')]) ∧
      x' ≤ n ∧ n - x' < n - b) ∧ True)) (Q (SV.sl (0 : Nat) (1 : Nat) (0 : Nat) b, [SO.row (9 : Nat) Ty.str (W5.marks (↑i : Int) k b)], []))) (by kernel_rfl) ?_
  have hb : bytesOf Tryz.prog 9 = 16 := by kernel_rfl
  have hml : ∀ (a : Int) (k n : Nat), (marks a k n).length = n := marks_len
  have hw : IntKind.i64.wrap ((k : Int) + n) = k + n := by rw [IntKind.wrap_i64]; omega
  refine ⟨⟨0, rfl, by omega⟩, fun j hj => br_intro (fun hlt => ?_) (fun hge => ?_)⟩
  · have hlt := of_decide_eq_true hlt
    rw [hw] at hlt
    rw [hml, hb]
    have e : IntKind.i64.wrap (((k + j : Nat) : Int) + 1) = ((k + (j + 1) : Nat) : Int) := by rw [IntKind.wrap_i64]; omega
    have e2 : (marks (i : Int) k j).take j = marks (i : Int) k j := List.take_of_length_le (by rw [hml]; exact Nat.le_refl _)
    rw [e, e2]
    exact ⟨by omega, br_intro (fun h => by have := of_decide_eq_true h; omega) (fun _ => ⟨by omega, ⟨by omega, by omega⟩, ⟨j + 1, rfl, by omega, by omega⟩, trivial⟩)⟩
  · have hge := of_decide_eq_false hge
    rw [hw] at hge
    have : j = n := by omega
    subst this
    exact hq
noncomputable def s79 : Summ := fun args H => match args, H with
  | [.lit (.int .i64 i), .lit (.int .i64 k), .lit (.int .i64 n)], [] => .need ((0 ≤ i ∧ 0 ≤ k ∧ 0 ≤ n) ∧ k ≤ 1000000 ∧ n ≤ 1000000) (.ret (.sl 0 1 0 n.toNat, [.row 9 .str (marks i k.toNat n.toNat)], []))
  | _, _ => .fail
theorem s79_ok : SummOK Tryz.prog 77 s79 := by
  refine summ_of_body (fn := Tryz.f77) (c := Tryz.f77.body.get!) TN_ok (by kernel_rfl) (by kernel_rfl) (by kernel_rfl) fun args H Q h => ?_
  unfold s79 at h
  split at h
  · rename_i i k n
    simp only [Tree.Leads] at h
    obtain ⟨⟨⟨h1, h2, h3⟩, h4, h5⟩, hq⟩ := h
    obtain ⟨i, rfl⟩ : ∃ m : Nat, i = m := ⟨i.toNat, by omega⟩
    obtain ⟨k, rfl⟩ : ∃ m : Nat, k = m := ⟨k.toNat, by omega⟩
    obtain ⟨n, rfl⟩ : ∃ m : Nat, n = m := ⟨n.toNat, by omega⟩
    exact ⟨_, v79 i k n Q (by omega) (by omega) hq⟩
  · simp only [Tree.Leads] at h
noncomputable def K2 : Table := (TN.add 77 (.go s79)).add 9 (.go s13k)
theorem K2_ok : TableOK Tryz.prog K2 := add_ok (add_ok TN_ok s79_ok) s13k_ok
/-- Is each list as it was? -/
noncomputable def A33 (LL WW : List (List ByteArray)) : Ann := { live := [0, 3], mv := [], head := fun vals H => match vals with | [a, _] => { X := Nat, inv := fun i => ([a, .lit (.int .i64 i)], H), ok := fun i => i ≤ LL.length ∧ LL.take i = WW.take i, mu := fun i => LL.length - i } | _ => { X := Nat, inv := fun _ => ([], []), ok := fun _ => False, mu := fun _ => 0 } }
theorem v33 (LL WW : List (List ByteArray)) (Q : SV × Heap × List Nat → Prop) (hl : LL.length = WW.length) (hn : LL.length ≤ 1000) (hL : ∀ l ∈ LL, l.length ≤ 1000000) (hW : ∀ l ∈ WW, l.length ≤ 1000000)
    (hq : Q (.lit (.bool (decide (LL = WW))), [.cells 52 (bk (.sl 1 1 0 LL.length) (.sl 2 1 0 WW.length)), .kept 22 9 .str LL, .row 22 (.imm .str) WW], [])) :
    (bodySumm K2 Tryz.prog Tryz.f23 (An1 0 (A33 LL WW)) [.ptr 0 0] [.cells 52 (bk (.sl 1 1 0 LL.length) (.sl 2 1 0 WW.length)), .kept 22 9 .str LL, .row 22 (.imm .str) WW]).Leads Q := by
  refine Sx.by_text (q :=
      (∃ (x : Nat), ([SV.ptr (0 : Nat) (0 : Nat), SV.lit (Value.int IntKind.i64 (0 : Int))], [SO.cells (52 : Nat) (W5.bk (SV.sl (1 : Nat) (1 : Nat) (0 : Nat) (List.length LL))
      (SV.sl (2 : Nat) (1 : Nat) (0 : Nat) (List.length WW))), SO.kept (22 : Nat) (9 : Nat) Ty.str LL, SO.row (22 : Nat) (Ty.imm Ty.str) WW]) = ([SV.ptr (0 : Nat) (0 : Nat),
      SV.lit (Value.int IntKind.i64 (↑x : Int))], [SO.cells (52 : Nat) (W5.bk (SV.sl (1 : Nat) (1 : Nat) (0 : Nat) (List.length LL)) (SV.sl (2 : Nat) (1 : Nat) (0 : Nat)
      (List.length WW))), SO.kept (22 : Nat) (9 : Nat) Ty.str LL, SO.row (22 : Nat) (Ty.imm Ty.str) WW]) ∧ x ≤ List.length LL ∧ List.take x LL = List.take x WW) ∧ ∀ (b : Nat), b
      ≤ List.length LL ∧ List.take b LL = List.take b WW → br (decide ((↑b : Int) < (↑(List.length LL) : Int))) (((0 : Int) ≤ (↑b : Int) ∧ (↑b : Int) < (↑(List.length LL) :
      Int)) ∧ (0 : Nat) + b < List.length LL ∧ ((0 : Int) ≤ (↑b : Int) ∧ (↑b : Int) < (↑(List.length WW) : Int)) ∧ (0 : Nat) + b < List.length WW ∧ (List.length (List.getD LL
      ((0 : Nat) + b) (Ty.dflt (Ty.imm Ty.str))) ≤ (1000000 : Nat) ∧ List.length (List.getD WW ((0 : Nat) + b) (Ty.dflt (Ty.imm Ty.str))) ≤ (1000000 : Nat)) ∧ br (!decide
      (List.getD LL ((0 : Nat) + b) (Ty.dflt (Ty.imm Ty.str)) = List.getD WW ((0 : Nat) + b) (Ty.dflt (Ty.imm Ty.str)))) (Q (SV.lit (Value.bool false), [SO.cells (52 : Nat)
      (W5.bk (SV.sl (1 : Nat) (1 : Nat) (0 : Nat) (List.length LL)) (SV.sl (2 : Nat) (1 : Nat) (0 : Nat) (List.length WW))), SO.kept (22 : Nat) (9 : Nat) Ty.str LL, SO.row (22 :
      Nat) (Ty.imm Ty.str) WW], [])) ((∃ (x' : Nat), ([SV.ptr (0 : Nat) (0 : Nat), SV.lit (Value.int IntKind.i64 (IntKind.wrap IntKind.i64 ((↑b : Int) + (1 : Int))))], [SO.cells
      (52 : Nat) (W5.bk (SV.sl (1 : Nat) (1 : Nat) (0 : Nat) (List.length LL)) (SV.sl (2 : Nat) (1 : Nat) (0 : Nat) (List.length WW))), SO.kept (22 : Nat) (9 : Nat) Ty.str LL,
      SO.row (22 : Nat) (Ty.imm Ty.str) WW]) = ([SV.ptr (0 : Nat) (0 : Nat), SV.lit (Value.int IntKind.i64 (↑x' : Int))], [SO.cells (52 : Nat) (W5.bk (SV.sl (1 : Nat) (1 : Nat)
      (0 : Nat) (List.length LL)) (SV.sl (2 : Nat) (1 : Nat) (0 : Nat) (List.length WW))), SO.kept (22 : Nat) (9 : Nat) Ty.str LL, SO.row (22 : Nat) (Ty.imm Ty.str) WW]) ∧ (x' ≤
      List.length LL ∧ List.take x' LL = List.take x' WW) ∧ List.length LL - x' < List.length LL - b) ∧ True)) (Q (SV.lit (Value.bool true), [SO.cells (52 : Nat) (W5.bk (SV.sl
      (1 : Nat) (1 : Nat) (0 : Nat) (List.length LL)) (SV.sl (2 : Nat) (1 : Nat) (0 : Nat) (List.length WW))), SO.kept (22 : Nat) (9 : Nat) Ty.str LL, SO.row (22 : Nat) (Ty.imm
      Ty.str) WW], []))) (by kernel_rfl) ?_
  refine ⟨⟨0, rfl, by omega, rfl⟩, fun i hi => br_intro (fun hlt => ?_) (fun hge => ?_)⟩
  · have hlt := of_decide_eq_true hlt
    simp only [Nat.zero_add]
    have m1 : LL.getD i (Ty.imm .str).dflt ∈ LL := by
      rw [List.getD_eq_getElem?_getD, List.getElem?_eq_getElem (by omega)]; exact List.getElem_mem _
    have m2 : WW.getD i (Ty.imm .str).dflt ∈ WW := by
      rw [List.getD_eq_getElem?_getD, List.getElem?_eq_getElem (by omega)]; exact List.getElem_mem _
    refine ⟨by omega, by omega, by omega, by omega, ⟨hL _ m1, hW _ m2⟩, br_intro (fun g => ?_) (fun g => ⟨⟨i + 1, ?_, ⟨by omega, ?_⟩, by omega⟩, trivial⟩)⟩
    · have g : LL.getD i (Ty.imm .str).dflt ≠ WW.getD i (Ty.imm .str).dflt := by simpa [bytes_beq] using g
      rw [decF (PL.not_same g)] at hq
      exact hq
    · rw [wrap1 i (by omega)]
    · have g : LL.getD i (Ty.imm .str).dflt = WW.getD i (Ty.imm .str).dflt := by simpa [bytes_beq] using g
      exact PL.take_step (by omega) (by omega) hi.2 g
  · have hge := of_decide_eq_false hge
    rw [decide_eq_true (p := LL = WW) (PL.take_all (i := i) (by omega) (by omega) hi.2)] at hq
    exact hq
noncomputable def s33 : Summ := fun args H => match args, H with
  | [.ptr 0 0], [.cells 52 cs, .kept 22 9 .str LL, .row 22 (.imm .str) WW] => .need ((LL.length = WW.length ∧ LL.length ≤ 1000 ∧ (∀ l ∈ LL, l.length ≤ 1000000) ∧ ∀ l ∈ WW, l.length ≤ 1000000) ∧ cs = bk (.sl 1 1 0 LL.length) (.sl 2 1 0 WW.length))
      (.ret (.lit (.bool (decide (LL = WW))), [.cells 52 cs, .kept 22 9 .str LL, .row 22 (.imm .str) WW], []))
  | _, _ => .fail
theorem s33_ok : SummOK Tryz.prog 23 s33 := by
  refine summ_of_body (fn := Tryz.f23) (c := Tryz.f23.body.get!) K2_ok (by kernel_rfl) (by kernel_rfl) (by kernel_rfl) fun args H Q h => ?_
  unfold s33 at h
  split at h
  · rename_i cs LL WW
    simp only [Tree.Leads] at h
    obtain ⟨⟨⟨h1, h2, h3, h4⟩, rfl⟩, hq⟩ := h
    exact ⟨_, v33 LL WW Q h1 h2 h3 h4 hq⟩
  · simp only [Tree.Leads] at h
/-- Marks in one list. -/
noncomputable def B43 : Ann := { live := [0, 2, 3, 4], mv := [1], head := fun vals H => match vals, H with | [a, i, s, _], [c, l, .row 9 .str R, .row 9 .str M] => { X := Nat, inv := fun k => ([a, i, s, .lit (.int .i64 k)], [c, l, .row 9 .str (M.take k ++ R.drop k), .row 9 .str M]), ok := fun k => k ≤ M.length, mu := fun k => M.length - k } | _, _ => { X := Nat, inv := fun _ => ([], []), ok := fun _ => False, mu := fun _ => 0 } }
noncomputable def marked (i : Nat) : List (List ByteArray) → List (List ByteArray)
  | [] => []
  | l :: r => marks i 0 l.length :: marked (i + 1) r
noncomputable def A43 (LL : List (List ByteArray)) : Ann := { live := [0, 2], mv := [1], hook := 1, hk2 := 9, head := fun _ _ => { X := Nat, inv := fun i => ([.ptr 0 0, .lit (.int .i64 i)], [.cells 52 (bk (.sl 1 1 0 LL.length) .junk), .lists 22 9 .str [] (marked 0 (LL.take i)) none (LL.drop i)]), ok := fun i => i ≤ LL.length, mu := fun i => LL.length - i } }
theorem marked_len (i : Nat) : ∀ l, (marked i l).length = l.length
  | [] => rfl
  | x :: l => by simp only [marked, List.length_cons, marked_len (i + 1) l]
theorem marked_snoc (x : List ByteArray) : ∀ (l : List (List ByteArray)) (i : Nat), marked i (l ++ [x]) = marked i l ++ [marks ((i + l.length : Nat) : Int) 0 x.length]
  | [], i => rfl
  | y :: l, i => by
    simp only [List.cons_append, marked, marked_snoc x l (i + 1), List.length_cons]
    rw [show i + 1 + l.length = i + (l.length + 1) by omega]
theorem set_step {α : Type} {M R : List α} {k : Nat} (d : α) (h : M.length = R.length) (hk : k < R.length) : (M.take k ++ R.drop k).set (0 + k) (M.getD (0 + k) d) = M.take (k + 1) ++ R.drop (k + 1) := by
  have hl : (M.take k).length = k := by rw [List.length_take]; omega
  rw [Nat.zero_add, List.set_append_right _ _ (by omega), hl, Nat.sub_self, List.drop_eq_getElem_cons hk, List.set_cons_zero, List.take_add_one, List.getElem?_eq_getElem (by omega), List.getD_eq_getElem?_getD, List.getElem?_eq_getElem (by omega)]
  simp only [Option.getD, Option.toList, List.append_assoc, List.cons_append, List.nil_append]
noncomputable def Z4 : Ann := { live := [], mv := [], head := fun _ _ => { X := Nat, inv := fun _ => ([], []), ok := fun _ => False, mu := fun _ => 0 }, hook := 4, hk2 := 9 }
theorem v43 (LL : List (List ByteArray)) (Q : SV × Heap × List Nat → Prop) (hn : LL.length ≤ 1000) (hL : ∀ l ∈ LL, l.length ≤ 1000000)
    (hq : Q (.tup [], [.cells 52 (bk (.sl 1 1 0 LL.length) .junk), .lists 22 9 .str [] [] none (marked 0 LL)], [1])) :
    (bodySumm K2 Tryz.prog Tryz.f33 (An3 0 (A43 LL) 2 B43 999999 Z4) [.ptr 0 0] [.cells 52 (bk (.sl 1 1 0 LL.length) .junk), .lists 22 9 .str [] [] none LL]).Leads Q := by
  refine Sx.by_text (q :=
      (∃ (x : Nat), ([SV.ptr (0 : Nat) (0 : Nat), SV.lit (Value.int IntKind.i64 (0 : Int))], [SO.cells (52 : Nat) (W5.bk (SV.sl (1 : Nat) (1 : Nat) (0 : Nat) (List.length LL))
      SV.junk), SO.lists (22 : Nat) (9 : Nat) Ty.str [] [] Option.none LL]) = ([SV.ptr (0 : Nat) (0 : Nat), SV.lit (Value.int IntKind.i64 (↑x : Int))], [SO.cells (52 : Nat)
      (W5.bk (SV.sl (1 : Nat) (1 : Nat) (0 : Nat) (List.length LL)) SV.junk), SO.lists (22 : Nat) (9 : Nat) Ty.str [] (W5.marked (0 : Nat) (List.take x LL)) Option.none
      (List.drop x LL)]) ∧ x ≤ List.length LL) ∧ ∀ (b : Nat), b ≤ List.length LL → br (decide ((0 : Nat) < List.length (List.drop b LL))) (br (decide ((↑b : Int) <
      (↑(List.length LL) : Int))) (((0 : Int) ≤ (↑b : Int) ∧ (↑b : Int) < (↑(List.length LL) : Int)) ∧ (0 : Nat) + b = (0 : Nat) + List.length (W5.marked (0 : Nat) (List.take b
      LL)) ∧ (((0 : Int) ≤ (↑b : Int) ∧ (0 : Int) ≤ (0 : Int) ∧ (0 : Int) ≤ (↑(List.length (List.getD (List.drop b LL) (0 : Nat) ([] : List ByteArray))) : Int)) ∧ (0 : Int) ≤
      (1000000 : Int) ∧ (↑(List.length (List.getD (List.drop b LL) (0 : Nat) ([] : List ByteArray))) : Int) ≤ (1000000 : Int)) ∧ (∃ (x : Nat), ([SV.ptr (0 : Nat) (0 : Nat),
      SV.lit (Value.int IntKind.i64 (↑b : Int)), SV.sl (3 : Nat) (1 : Nat) (0 : Nat) (List.length (List.getD (List.drop b LL) (0 : Nat) ([] : List ByteArray))), SV.lit
      (Value.int IntKind.i64 (0 : Int))], [SO.cells (52 : Nat) (W5.bk (SV.sl (1 : Nat) (1 : Nat) (0 : Nat) (List.length LL)) SV.junk), SO.lists (22 : Nat) (9 : Nat) Ty.str []
      (W5.marked (0 : Nat) (List.take b LL)) (Option.some ((2 : Nat), List.length (List.getD (List.drop b LL) (0 : Nat) ([] : List ByteArray)))) (List.drop (1 : Nat) (List.drop
      b LL)), SO.row (9 : Nat) Ty.str (List.getD (List.drop b LL) (0 : Nat) ([] : List ByteArray)), SO.row (9 : Nat) Ty.str (W5.marks (↑b : Int) (0 : Nat) (List.length
      (List.getD (List.drop b LL) (0 : Nat) ([] : List ByteArray))))]) = ([SV.ptr (0 : Nat) (0 : Nat), SV.lit (Value.int IntKind.i64 (↑b : Int)), SV.sl (3 : Nat) (1 : Nat) (0 :
      Nat) (List.length (List.getD (List.drop b LL) (0 : Nat) ([] : List ByteArray))), SV.lit (Value.int IntKind.i64 (↑x : Int))], [SO.cells (52 : Nat) (W5.bk (SV.sl (1 : Nat)
      (1 : Nat) (0 : Nat) (List.length LL)) SV.junk), SO.lists (22 : Nat) (9 : Nat) Ty.str [] (W5.marked (0 : Nat) (List.take b LL)) (Option.some ((2 : Nat), List.length
      (List.getD (List.drop b LL) (0 : Nat) ([] : List ByteArray)))) (List.drop (1 : Nat) (List.drop b LL)), SO.row (9 : Nat) Ty.str (List.take x (W5.marks (↑b : Int) (0 : Nat)
      (List.length (List.getD (List.drop b LL) (0 : Nat) ([] : List ByteArray)))) ++ List.drop x (List.getD (List.drop b LL) (0 : Nat) ([] : List ByteArray))), SO.row (9 : Nat)
      Ty.str (W5.marks (↑b : Int) (0 : Nat) (List.length (List.getD (List.drop b LL) (0 : Nat) ([] : List ByteArray))))]) ∧ x ≤ List.length (W5.marks (↑b : Int) (0 : Nat)
      (List.length (List.getD (List.drop b LL) (0 : Nat) ([] : List ByteArray))))) ∧ ∀ (b_1 : Nat), b_1 ≤ List.length (W5.marks (↑b : Int) (0 : Nat) (List.length (List.getD
      (List.drop b LL) (0 : Nat) ([] : List ByteArray)))) → br (decide ((↑b_1 : Int) < (↑(List.length (List.getD (List.drop b LL) (0 : Nat) ([] : List ByteArray))) : Int))) (((0
      : Int) ≤ (↑b : Int) ∧ (↑b : Int) < (↑(List.length LL) : Int)) ∧ (0 : Nat) + b = (0 : Nat) + List.length (W5.marked (0 : Nat) (List.take b LL)) ∧ ((0 : Int) ≤ (↑b_1 : Int)
      ∧ (↑b_1 : Int) < (↑(List.length (List.getD (List.drop b LL) (0 : Nat) ([] : List ByteArray))) : Int)) ∧ (0 : Nat) + b_1 < List.length (W5.marks (↑b : Int) (0 : Nat)
      (List.length (List.getD (List.drop b LL) (0 : Nat) ([] : List ByteArray)))) ∧ ((0 : Int) ≤ (↑b_1 : Int) ∧ (↑b_1 : Int) < (↑(List.length (List.getD (List.drop b LL) (0 :
      Nat) ([] : List ByteArray))) : Int)) ∧ (0 : Nat) + b_1 < List.length (List.take b_1 (W5.marks (↑b : Int) (0 : Nat) (List.length (List.getD (List.drop b LL) (0 : Nat) ([] :
      List ByteArray)))) ++ List.drop b_1 (List.getD (List.drop b LL) (0 : Nat) ([] : List ByteArray))) ∧ (∃ (x' : Nat), ([SV.ptr (0 : Nat) (0 : Nat), SV.lit (Value.int
      IntKind.i64 (↑b : Int)), SV.sl (3 : Nat) (1 : Nat) (0 : Nat) (List.length (List.getD (List.drop b LL) (0 : Nat) ([] : List ByteArray))), SV.lit (Value.int IntKind.i64
      (IntKind.wrap IntKind.i64 ((↑b_1 : Int) + (1 : Int))))], [SO.cells (52 : Nat) (W5.bk (SV.sl (1 : Nat) (1 : Nat) (0 : Nat) (List.length LL)) SV.junk), SO.lists (22 : Nat)
      (9 : Nat) Ty.str [] (W5.marked (0 : Nat) (List.take b LL)) (Option.some ((2 : Nat), List.length (List.getD (List.drop b LL) (0 : Nat) ([] : List ByteArray)))) (List.drop
      (1 : Nat) (List.drop b LL)), SO.row (9 : Nat) Ty.str (List.set (List.take b_1 (W5.marks (↑b : Int) (0 : Nat) (List.length (List.getD (List.drop b LL) (0 : Nat) ([] : List
      ByteArray)))) ++ List.drop b_1 (List.getD (List.drop b LL) (0 : Nat) ([] : List ByteArray))) ((0 : Nat) + b_1) (List.getD (W5.marks (↑b : Int) (0 : Nat) (List.length
      (List.getD (List.drop b LL) (0 : Nat) ([] : List ByteArray)))) ((0 : Nat) + b_1) (Ty.dflt Ty.str))), SO.row (9 : Nat) Ty.str (W5.marks (↑b : Int) (0 : Nat) (List.length
      (List.getD (List.drop b LL) (0 : Nat) ([] : List ByteArray))))]) = ([SV.ptr (0 : Nat) (0 : Nat), SV.lit (Value.int IntKind.i64 (↑b : Int)), SV.sl (3 : Nat) (1 : Nat) (0 :
      Nat) (List.length (List.getD (List.drop b LL) (0 : Nat) ([] : List ByteArray))), SV.lit (Value.int IntKind.i64 (↑x' : Int))], [SO.cells (52 : Nat) (W5.bk (SV.sl (1 : Nat)
      (1 : Nat) (0 : Nat) (List.length LL)) SV.junk), SO.lists (22 : Nat) (9 : Nat) Ty.str [] (W5.marked (0 : Nat) (List.take b LL)) (Option.some ((2 : Nat), List.length
      (List.getD (List.drop b LL) (0 : Nat) ([] : List ByteArray)))) (List.drop (1 : Nat) (List.drop b LL)), SO.row (9 : Nat) Ty.str (List.take x' (W5.marks (↑b : Int) (0 : Nat)
      (List.length (List.getD (List.drop b LL) (0 : Nat) ([] : List ByteArray)))) ++ List.drop x' (List.getD (List.drop b LL) (0 : Nat) ([] : List ByteArray))), SO.row (9 : Nat)
      Ty.str (W5.marks (↑b : Int) (0 : Nat) (List.length (List.getD (List.drop b LL) (0 : Nat) ([] : List ByteArray))))]) ∧ x' ≤ List.length (W5.marks (↑b : Int) (0 : Nat)
      (List.length (List.getD (List.drop b LL) (0 : Nat) ([] : List ByteArray)))) ∧ List.length (W5.marks (↑b : Int) (0 : Nat) (List.length (List.getD (List.drop b LL) (0 : Nat)
      ([] : List ByteArray)))) - x' < List.length (W5.marks (↑b : Int) (0 : Nat) (List.length (List.getD (List.drop b LL) (0 : Nat) ([] : List ByteArray)))) - b_1) ∧ True)
      (List.length (List.getD (List.drop b LL) (0 : Nat) ([] : List ByteArray)) ≤ List.length (List.take b_1 (W5.marks (↑b : Int) (0 : Nat) (List.length (List.getD (List.drop b
      LL) (0 : Nat) ([] : List ByteArray)))) ++ List.drop b_1 (List.getD (List.drop b LL) (0 : Nat) ([] : List ByteArray))) ∧ (∃ (x' : Nat), ([SV.ptr (0 : Nat) (0 : Nat), SV.lit
      (Value.int IntKind.i64 (IntKind.wrap IntKind.i64 ((↑b : Int) + (1 : Int))))], [SO.cells (52 : Nat) (W5.bk (SV.sl (1 : Nat) (1 : Nat) (0 : Nat) (List.length LL)) SV.junk),
      SO.lists (22 : Nat) (9 : Nat) Ty.str [] (W5.marked (0 : Nat) (List.take b LL) ++ [List.take (List.length (List.getD (List.drop b LL) (0 : Nat) ([] : List ByteArray)))
      (List.take b_1 (W5.marks (↑b : Int) (0 : Nat) (List.length (List.getD (List.drop b LL) (0 : Nat) ([] : List ByteArray)))) ++ List.drop b_1 (List.getD (List.drop b LL) (0 :
      Nat) ([] : List ByteArray)))]) Option.none (List.drop (1 : Nat) (List.drop b LL))]) = ([SV.ptr (0 : Nat) (0 : Nat), SV.lit (Value.int IntKind.i64 (↑x' : Int))], [SO.cells
      (52 : Nat) (W5.bk (SV.sl (1 : Nat) (1 : Nat) (0 : Nat) (List.length LL)) SV.junk), SO.lists (22 : Nat) (9 : Nat) Ty.str [] (W5.marked (0 : Nat) (List.take x' LL))
      Option.none (List.drop x' LL)]) ∧ x' ≤ List.length LL ∧ List.length LL - x' < List.length LL - b) ∧ True)) (Q (SV.tup ([] : List Sx.SV), [SO.cells (52 : Nat) (W5.bk (SV.sl
      (1 : Nat) (1 : Nat) (0 : Nat) (List.length LL)) SV.junk), SO.lists (22 : Nat) (9 : Nat) Ty.str [] (W5.marked (0 : Nat) (List.take b LL)) (Option.some ((2 : Nat),
      List.length (List.getD (List.drop b LL) (0 : Nat) ([] : List ByteArray)))) (List.drop (1 : Nat) (List.drop b LL)), SO.row (9 : Nat) Ty.str (List.getD (List.drop b LL) (0 :
      Nat) ([] : List ByteArray))], [(1 : Nat), (1 : Nat)]))) (br (decide ((↑b : Int) < (↑(List.length LL) : Int))) (((0 : Int) ≤ (↑b : Int) ∧ (↑b : Int) < (↑(List.length LL) :
      Int)) ∧ False) (List.length (List.drop b LL) = (0 : Nat) ∧ Q (SV.tup ([] : List Sx.SV), [SO.cells (52 : Nat) (W5.bk (SV.sl (1 : Nat) (1 : Nat) (0 : Nat) (List.length LL))
      SV.junk), SO.lists (22 : Nat) (9 : Nat) Ty.str [] [] Option.none (W5.marked (0 : Nat) (List.take b LL))], [(1 : Nat)])))) (by kernel_rfl) ?_
  refine ⟨⟨0, rfl, by omega⟩, fun i hi => br_intro (fun hd => ?_) (fun hd => ?_)⟩
  · have hd := of_decide_eq_true hd
    rw [List.length_drop] at hd
    have hi2 : i < LL.length := by omega
    have e := List.drop_eq_getElem_cons hi2
    have hlen := hL _ (List.getElem_mem hi2)
    have etk : LL.take (i + 1) = LL.take i ++ [LL[i]] := by rw [List.take_add_one, List.getElem?_eq_getElem hi2]; rfl
    rw [e]
    simp only [List.getD_cons_zero, List.drop_succ_cons, List.drop_zero]
    generalize LL[i] = R at *
    have hM := marks_len (i : Int) 0 R.length
    have hms : marked 0 (LL.take (i + 1)) = marked 0 (LL.take i) ++ [marks (i : Int) 0 R.length] := by
      rw [etk, marked_snoc, List.length_take, Nat.min_eq_left hi, Nat.zero_add]
    have hml := marked_len 0 (LL.take i)
    rw [List.length_take, Nat.min_eq_left hi] at hml
    generalize marks (i : Int) 0 R.length = M at *
    refine br_intro (fun hlt => ⟨by omega, by omega, by omega, ⟨0, rfl, by omega⟩, fun k hk => br_intro (fun hlt2 => ?_) (fun hge2 => ?_)⟩) (fun hge => by have := of_decide_eq_false hge; omega)
    · have hlt2 := of_decide_eq_true hlt2
      have hl : (List.take k M ++ List.drop k R).length = R.length := by rw [List.length_append, List.length_take, List.length_drop]; omega
      refine ⟨by omega, by omega, by omega, by omega, by omega, by omega, ⟨k + 1, ?_, by omega, by omega⟩, trivial⟩
      rw [wrap1 k (by omega), set_step _ hM (by omega)]
    · have hge2 := of_decide_eq_false hge2
      have : k = R.length := by omega
      subst this
      have e1 : M.take R.length ++ R.drop R.length = M := by rw [List.drop_length, List.append_nil]; exact List.take_of_length_le (by omega)
      have e2 : M.take R.length = M := List.take_of_length_le (by omega)
      rw [e1, e2, wrap1 i (by omega)]
      exact ⟨by omega, ⟨i + 1, by rw [hms], by omega, by omega⟩, trivial⟩
  · have hd := of_decide_eq_false hd
    rw [List.length_drop] at hd
    have : i = LL.length := by omega
    subst this
    refine br_intro (fun h => by have := of_decide_eq_true h; omega) (fun _ => ⟨by rw [List.length_drop]; omega, ?_⟩)
    rw [List.take_length]
    exact hq
/-- Marks in all. -/
noncomputable def s43 : Summ := fun args H => match args, H with
  | [.ptr 0 0], [.cells 52 cs, .lists 22 9 .str [] [] none LL] => .need ((LL.length ≤ 1000 ∧ ∀ l ∈ LL, l.length ≤ 1000000) ∧ cs = bk (.sl 1 1 0 LL.length) .junk)
      (.ret (.tup [], [.cells 52 cs, .lists 22 9 .str [] [] none (marked 0 LL)], [1]))
  | _, _ => .fail
theorem s43_ok : SummOK Tryz.prog 33 s43 := by
  refine summ_of_body (fn := Tryz.f33) (c := Tryz.f33.body.get!) K2_ok (by kernel_rfl) (by kernel_rfl) (by kernel_rfl) fun args H Q h => ?_
  unfold s43 at h
  split at h
  · rename_i cs LL
    simp only [Tree.Leads] at h
    obtain ⟨⟨⟨h1, h2⟩, rfl⟩, hq⟩ := h
    refine ⟨_, v43 LL Q h1 h2 hq⟩
  · simp only [Tree.Leads] at h

structure MkOf (i : Int) (k n : Nat) (l : List ByteArray) : Prop where
  eq : l = marks i k n
/-- Marks, under a name. -/
noncomputable def s79h : Summ := fun args H => match args, H with
  | [.lit (.int .i64 i), .lit (.int .i64 k), .lit (.int .i64 n)], [] => .need ((0 ≤ i ∧ 0 ≤ k ∧ 0 ≤ n) ∧ k ≤ 1000000 ∧ n ≤ 1000000) (.any (List ByteArray) (MkOf i k.toNat n.toNat) fun l => .ret (.sl 0 1 0 n.toNat, [.row 9 .str l], []))
  | _, _ => .fail
theorem s79h_ok : SummOK Tryz.prog 77 s79h := by
  refine summ_of_body (fn := Tryz.f77) (c := Tryz.f77.body.get!) TN_ok (by kernel_rfl) (by kernel_rfl) (by kernel_rfl) fun args H Q h => ?_
  unfold s79h at h
  split at h
  · rename_i i k n
    simp only [Tree.Leads] at h
    obtain ⟨⟨⟨h1, h2, h3⟩, h4, h5⟩, hq⟩ := h
    obtain ⟨i, rfl⟩ : ∃ m : Nat, i = m := ⟨i.toNat, by omega⟩
    obtain ⟨k, rfl⟩ : ∃ m : Nat, k = m := ⟨k.toNat, by omega⟩
    obtain ⟨n, rfl⟩ : ∃ m : Nat, n = m := ⟨n.toNat, by omega⟩
    exact ⟨_, v79 i k n Q (by omega) (by omega) (hq _ ⟨rfl⟩)⟩
  · simp only [Tree.Leads] at h
noncomputable def K2h : Table := (TN.add 77 (.go s79h)).add 9 (.go s13k)
theorem K2h_ok : TableOK Tryz.prog K2h := add_ok (add_ok TN_ok s79h_ok) s13k_ok
/-- Appends both ways. -/
noncomputable def K3 : Table := K2h.add 1500022 (.ext fun _ _ => .fail)
theorem K3_ok : TableOK Tryz.prog K3 := add_ok K2h_ok (fun _ _ _ _ _ _ _ _ _ h => by simp only [Tree.Leads] at h)
noncomputable def grown (i : Nat) : List (List ByteArray) → List (List ByteArray)
  | [] => []
  | l :: r => (l ++ marks i l.length 72) :: grown (i + 1) r
noncomputable def A49 (LL : List (List ByteArray)) : Ann := { live := [0, 3, 4], mv := [1], hook := 2, hk2 := 9, nilS := [(3, 22, .imm .str)], head := fun _ _ => { X := Nat, inv := fun i => ([.ptr 0 0, .sl 2 1 0 i, .lit (.int .i64 i)], [.cells 52 (bk (.sl 1 1 0 LL.length) .junk), .lists 22 9 .str (LL.take i) [] none (LL.drop i), .row 22 (.imm .str) (grown 0 (LL.take i))]), ok := fun i => i ≤ LL.length, mu := fun i => LL.length - i } }
def left2 (vals : List SV) : Bool := match vals with
  | [_, _, _, .sl h _ _ _, _] => !(Nat.beq h 2)
  | _ => false
noncomputable def B49 (LL : List (List ByteArray)) : Ann := { live := [0, 3, 4, 5, 6], mv := [1], leave := fun vals _ => left2 vals, next := 1000, head := fun vals H => match vals, H with | [a, o, .lit (.int .i64 i), _, _], [c, l, _, u] => { X := Nat, inv := fun k => ([a, o, .lit (.int .i64 i), .sl 2 1 0 ((LL.getD i.toNat []).length + k), .lit (.int .i64 k)], [c, l, .row 9 .str (LL.getD i.toNat [] ++ marks i (LL.getD i.toNat []).length k), u]), ok := fun k => k ≤ 12, mu := fun k => 12 - k } | _, _ => { X := Nat, inv := fun _ => ([], []), ok := fun _ => False, mu := fun _ => 0 } }
noncomputable def D49 (LL : List (List ByteArray)) : Ann := { live := [0, 3, 4, 5, 6], mv := [1], head := fun vals H => match vals, H with | [a, o, .lit (.int .i64 i), _, _], [c, l, r, u, _] => { X := Nat, inv := fun k => ([a, o, .lit (.int .i64 i), .sl 4 1 0 ((LL.getD i.toNat []).length + k), .lit (.int .i64 k)], [c, l, r, u, .row 9 .str (LL.getD i.toNat [] ++ marks i (LL.getD i.toNat []).length k)]), ok := fun k => k ≤ 12, mu := fun k => 12 - k } | _, _ => { X := Nat, inv := fun _ => ([], []), ok := fun _ => False, mu := fun _ => 0 } }
noncomputable def Z3 : Ann := { live := [], mv := [], head := fun _ _ => { X := Nat, inv := fun _ => ([], []), ok := fun _ => False, mu := fun _ => 0 }, hook := 3, hk2 := 9 }
noncomputable def N49 (LL : List (List ByteArray)) : Nat → Option Ann := fun k => if Nat.beq k 0 then some (A49 LL) else if Nat.beq k 2 then some (B49 LL) else if Nat.beq k 1000 then some (D49 LL) else if Nat.beq k 999999 then some Z3 else none
theorem marks_append (i : Int) (k m : Nat) : ∀ n, marks i k (m + n) = marks i k m ++ marks i (k + m) n
  | 0 => by simp [marks]
  | n + 1 => by
    rw [← Nat.add_assoc, marks, marks_append i k m n, marks, List.append_assoc]
    rw [show k + (m + n) = k + m + n by omega]
theorem grown_len (i : Nat) : ∀ l, (grown i l).length = l.length
  | [] => rfl
  | x :: l => by simp only [grown, List.length_cons, grown_len (i + 1) l]
theorem grown_snoc (x : List ByteArray) : ∀ (l : List (List ByteArray)) (i : Nat), grown i (l ++ [x]) = grown i l ++ [x ++ marks ((i + l.length : Nat) : Int) x.length 72]
  | [], i => rfl
  | y :: l, i => by
    simp only [List.cons_append, grown, grown_snoc x l (i + 1), List.length_cons]
    rw [show i + 1 + l.length = i + (l.length + 1) by omega]
attribute [local irreducible] marks
theorem v49 (LL : List (List ByteArray)) (Q : SV × Heap × List Nat → Prop) (hn : LL.length ≤ 1000) (hL : ∀ l ∈ LL, l.length ≤ 900000)
    (hq : Q (.sl 2 1 0 LL.length, [.cells 52 (bk (.sl 1 1 0 LL.length) .junk), .row 22 (.imm .str) LL, .row 22 (.imm .str) (grown 0 LL)], [1])) :
    (bodySumm K3 Tryz.prog Tryz.f39 (N49 LL) [.ptr 0 0] [.cells 52 (bk (.sl 1 1 0 LL.length) .junk), .lists 22 9 .str [] [] none LL]).Leads Q := by
  refine Sx.by_text (q :=
      (∃ (x : Nat), ([SV.ptr (0 : Nat) (0 : Nat), SV.sl (2 : Nat) (1 : Nat) (0 : Nat) (0 : Nat), SV.lit (Value.int IntKind.i64 (0 : Int))], [SO.cells (52 : Nat) (W5.bk (SV.sl (1
      : Nat) (1 : Nat) (0 : Nat) (List.length LL)) SV.junk), SO.lists (22 : Nat) (9 : Nat) Ty.str [] [] Option.none LL, SO.row (22 : Nat) (Ty.imm Ty.str) []]) = ([SV.ptr (0 :
      Nat) (0 : Nat), SV.sl (2 : Nat) (1 : Nat) (0 : Nat) x, SV.lit (Value.int IntKind.i64 (↑x : Int))], [SO.cells (52 : Nat) (W5.bk (SV.sl (1 : Nat) (1 : Nat) (0 : Nat)
      (List.length LL)) SV.junk), SO.lists (22 : Nat) (9 : Nat) Ty.str (List.take x LL) [] Option.none (List.drop x LL), SO.row (22 : Nat) (Ty.imm Ty.str) (W5.grown (0 : Nat)
      (List.take x LL))]) ∧ x ≤ List.length LL) ∧ ∀ (b : Nat), b ≤ List.length LL → br (decide ((0 : Nat) < List.length (List.drop b LL))) (br (decide ((↑b : Int) <
      (↑(List.length LL) : Int))) (((0 : Int) ≤ (↑b : Int) ∧ (↑b : Int) < (↑(List.length LL) : Int)) ∧ (0 : Nat) + b = List.length (List.take b LL) ∧ (∃ (x : Nat), ([SV.ptr (0 :
      Nat) (0 : Nat), SV.sl (3 : Nat) (1 : Nat) (0 : Nat) b, SV.lit (Value.int IntKind.i64 (↑b : Int)), SV.sl (2 : Nat) (1 : Nat) (0 : Nat) (List.length (List.getD (List.drop b
      LL) (0 : Nat) ([] : List ByteArray))), SV.lit (Value.int IntKind.i64 (0 : Int))], [SO.cells (52 : Nat) (W5.bk (SV.sl (1 : Nat) (1 : Nat) (0 : Nat) (List.length LL))
      SV.junk), SO.lists (22 : Nat) (9 : Nat) Ty.str (List.take b LL) [] (Option.some ((2 : Nat), List.length (List.getD (List.drop b LL) (0 : Nat) ([] : List ByteArray))))
      (List.drop (1 : Nat) (List.drop b LL)), SO.row (9 : Nat) Ty.str (List.getD (List.drop b LL) (0 : Nat) ([] : List ByteArray)), SO.row (22 : Nat) (Ty.imm Ty.str) (W5.grown
      (0 : Nat) (List.take b LL))]) = ([SV.ptr (0 : Nat) (0 : Nat), SV.sl (3 : Nat) (1 : Nat) (0 : Nat) b, SV.lit (Value.int IntKind.i64 (↑b : Int)), SV.sl (2 : Nat) (1 : Nat)
      (0 : Nat) (List.length (List.getD LL b ([] : List ByteArray)) + x), SV.lit (Value.int IntKind.i64 (↑x : Int))], [SO.cells (52 : Nat) (W5.bk (SV.sl (1 : Nat) (1 : Nat) (0 :
      Nat) (List.length LL)) SV.junk), SO.lists (22 : Nat) (9 : Nat) Ty.str (List.take b LL) [] (Option.some ((2 : Nat), List.length (List.getD (List.drop b LL) (0 : Nat) ([] :
      List ByteArray)))) (List.drop (1 : Nat) (List.drop b LL)), SO.row (9 : Nat) Ty.str (List.getD LL b ([] : List ByteArray) ++ W5.marks (↑b : Int) (List.length (List.getD LL
      b ([] : List ByteArray))) x), SO.row (22 : Nat) (Ty.imm Ty.str) (W5.grown (0 : Nat) (List.take b LL))]) ∧ x ≤ (12 : Nat)) ∧ ∀ (b_1 : Nat), b_1 ≤ (12 : Nat) → br (decide
      ((↑b_1 : Int) < (12 : Int))) ((((0 : Int) ≤ (↑b : Int) ∧ (0 : Int) ≤ (↑(List.length (List.getD LL b ([] : List ByteArray)) + b_1) : Int) ∧ (0 : Int) ≤ (1 : Int)) ∧
      (↑(List.length (List.getD LL b ([] : List ByteArray)) + b_1) : Int) ≤ (1000000 : Int) ∧ (1 : Int) ≤ (1000000 : Int)) ∧ ∀ (b_2 : List ByteArray), W5.MkOf (↑b : Int)
      (List.length (List.getD LL b ([] : List ByteArray)) + b_1) (1 : Nat) b_2 → (1 : Nat) ≤ List.length b_2 ∧ List.length (List.getD LL b ([] : List ByteArray)) + b_1 =
      List.length (List.getD LL b ([] : List ByteArray) ++ W5.marks (↑b : Int) (List.length (List.getD LL b ([] : List ByteArray))) b_1) ∧ ((↑(List.length (List.getD LL b ([] :
      List ByteArray)) + b_1 + List.length (List.take (1 : Nat) (List.drop (0 : Nat) b_2))) : Int) ≤ (9223372036854775807 : Int) ∧ (List.length (List.getD LL b ([] : List
      ByteArray)) + b_1 + List.length (List.take (1 : Nat) (List.drop (0 : Nat) b_2))) * Sx.bytesOf Go.Proofs.Tryz.prog (9 : Nat) ≤ (140737488355328 : Nat)) ∧ ∀ (b_3 : Bool),
      True → br b_3 ((∃ (x' : Nat), ([SV.ptr (0 : Nat) (0 : Nat), SV.sl (3 : Nat) (1 : Nat) (0 : Nat) b, SV.lit (Value.int IntKind.i64 (↑b : Int)), SV.sl (2 : Nat) (1 : Nat) (0
      : Nat) (List.length (List.getD LL b ([] : List ByteArray)) + b_1 + List.length (List.take (1 : Nat) (List.drop (0 : Nat) b_2))), SV.lit (Value.int IntKind.i64
      (IntKind.wrap IntKind.i64 ((↑b_1 : Int) + (1 : Int))))], [SO.cells (52 : Nat) (W5.bk (SV.sl (1 : Nat) (1 : Nat) (0 : Nat) (List.length LL)) SV.junk), SO.lists (22 : Nat)
      (9 : Nat) Ty.str (List.take b LL) [] (Option.some ((2 : Nat), List.length (List.getD (List.drop b LL) (0 : Nat) ([] : List ByteArray)))) (List.drop (1 : Nat) (List.drop b
      LL)), SO.row (9 : Nat) Ty.str (List.getD LL b ([] : List ByteArray) ++ W5.marks (↑b : Int) (List.length (List.getD LL b ([] : List ByteArray))) b_1 ++ List.take (1 : Nat)
      (List.drop (0 : Nat) b_2)), SO.row (22 : Nat) (Ty.imm Ty.str) (W5.grown (0 : Nat) (List.take b LL))]) = ([SV.ptr (0 : Nat) (0 : Nat), SV.sl (3 : Nat) (1 : Nat) (0 : Nat)
      b, SV.lit (Value.int IntKind.i64 (↑b : Int)), SV.sl (2 : Nat) (1 : Nat) (0 : Nat) (List.length (List.getD LL b ([] : List ByteArray)) + x'), SV.lit (Value.int IntKind.i64
      (↑x' : Int))], [SO.cells (52 : Nat) (W5.bk (SV.sl (1 : Nat) (1 : Nat) (0 : Nat) (List.length LL)) SV.junk), SO.lists (22 : Nat) (9 : Nat) Ty.str (List.take b LL) []
      (Option.some ((2 : Nat), List.length (List.getD (List.drop b LL) (0 : Nat) ([] : List ByteArray)))) (List.drop (1 : Nat) (List.drop b LL)), SO.row (9 : Nat) Ty.str
      (List.getD LL b ([] : List ByteArray) ++ W5.marks (↑b : Int) (List.length (List.getD LL b ([] : List ByteArray))) x'), SO.row (22 : Nat) (Ty.imm Ty.str) (W5.grown (0 :
      Nat) (List.take b LL))]) ∧ x' ≤ (12 : Nat) ∧ (12 : Nat) - x' < (12 : Nat) - b_1) ∧ True) ((∃ (x : Nat), ([SV.ptr (0 : Nat) (0 : Nat), SV.sl (3 : Nat) (1 : Nat) (0 : Nat)
      b, SV.lit (Value.int IntKind.i64 (↑b : Int)), SV.sl (4 : Nat) (1 : Nat) (0 : Nat) (List.length (List.getD LL b ([] : List ByteArray)) + b_1 + List.length (List.take (1 :
      Nat) (List.drop (0 : Nat) b_2))), SV.lit (Value.int IntKind.i64 (IntKind.wrap IntKind.i64 ((↑b_1 : Int) + (1 : Int))))], [SO.cells (52 : Nat) (W5.bk (SV.sl (1 : Nat) (1 :
      Nat) (0 : Nat) (List.length LL)) SV.junk), SO.lists (22 : Nat) (9 : Nat) Ty.str (List.take b LL) [] (Option.some ((2 : Nat), List.length (List.getD (List.drop b LL) (0 :
      Nat) ([] : List ByteArray)))) (List.drop (1 : Nat) (List.drop b LL)), SO.row (9 : Nat) Ty.str (List.getD LL b ([] : List ByteArray) ++ W5.marks (↑b : Int) (List.length
      (List.getD LL b ([] : List ByteArray))) b_1), SO.row (22 : Nat) (Ty.imm Ty.str) (W5.grown (0 : Nat) (List.take b LL)), SO.row (9 : Nat) Ty.str (List.getD LL b ([] : List
      ByteArray) ++ W5.marks (↑b : Int) (List.length (List.getD LL b ([] : List ByteArray))) b_1 ++ List.take (1 : Nat) (List.drop (0 : Nat) b_2))]) = ([SV.ptr (0 : Nat) (0 :
      Nat), SV.sl (3 : Nat) (1 : Nat) (0 : Nat) b, SV.lit (Value.int IntKind.i64 (↑b : Int)), SV.sl (4 : Nat) (1 : Nat) (0 : Nat) (List.length (List.getD LL b ([] : List
      ByteArray)) + x), SV.lit (Value.int IntKind.i64 (↑x : Int))], [SO.cells (52 : Nat) (W5.bk (SV.sl (1 : Nat) (1 : Nat) (0 : Nat) (List.length LL)) SV.junk), SO.lists (22 :
      Nat) (9 : Nat) Ty.str (List.take b LL) [] (Option.some ((2 : Nat), List.length (List.getD (List.drop b LL) (0 : Nat) ([] : List ByteArray)))) (List.drop (1 : Nat)
      (List.drop b LL)), SO.row (9 : Nat) Ty.str (List.getD LL b ([] : List ByteArray) ++ W5.marks (↑b : Int) (List.length (List.getD LL b ([] : List ByteArray))) b_1), SO.row
      (22 : Nat) (Ty.imm Ty.str) (W5.grown (0 : Nat) (List.take b LL)), SO.row (9 : Nat) Ty.str (List.getD LL b ([] : List ByteArray) ++ W5.marks (↑b : Int) (List.length
      (List.getD LL b ([] : List ByteArray))) x)]) ∧ x ≤ (12 : Nat)) ∧ ∀ (b_4 : Nat), b_4 ≤ (12 : Nat) → br (decide ((↑b_4 : Int) < (12 : Int))) ((((0 : Int) ≤ (↑b : Int) ∧ (0 :
      Int) ≤ (↑(List.length (List.getD LL b ([] : List ByteArray)) + b_4) : Int) ∧ (0 : Int) ≤ (1 : Int)) ∧ (↑(List.length (List.getD LL b ([] : List ByteArray)) + b_4) : Int) ≤
      (1000000 : Int) ∧ (1 : Int) ≤ (1000000 : Int)) ∧ ∀ (b_5 : List ByteArray), W5.MkOf (↑b : Int) (List.length (List.getD LL b ([] : List ByteArray)) + b_4) (1 : Nat) b_5 → (1
      : Nat) ≤ List.length b_5 ∧ (List.length (List.getD LL b ([] : List ByteArray)) + b_4 = List.length (List.getD LL b ([] : List ByteArray) ++ W5.marks (↑b : Int)
      (List.length (List.getD LL b ([] : List ByteArray))) b_4) ∧ (0 : Nat) < List.length (List.take (1 : Nat) (List.drop (0 : Nat) b_5))) ∧ ((↑(List.length (List.getD LL b ([]
      : List ByteArray)) + b_4 + List.length (List.take (1 : Nat) (List.drop (0 : Nat) b_5))) : Int) ≤ (9223372036854775807 : Int) ∧ (List.length (List.getD LL b ([] : List
      ByteArray)) + b_4 + List.length (List.take (1 : Nat) (List.drop (0 : Nat) b_5))) * Sx.bytesOf Go.Proofs.Tryz.prog (9 : Nat) ≤ (140737488355328 : Nat)) ∧ (∃ (x' : Nat),
      ([SV.ptr (0 : Nat) (0 : Nat), SV.sl (3 : Nat) (1 : Nat) (0 : Nat) b, SV.lit (Value.int IntKind.i64 (↑b : Int)), SV.sl (4 : Nat) (1 : Nat) (0 : Nat) (List.length (List.getD
      LL b ([] : List ByteArray)) + b_4 + List.length (List.take (1 : Nat) (List.drop (0 : Nat) b_5))), SV.lit (Value.int IntKind.i64 (IntKind.wrap IntKind.i64 ((↑b_4 : Int) +
      (1 : Int))))], [SO.cells (52 : Nat) (W5.bk (SV.sl (1 : Nat) (1 : Nat) (0 : Nat) (List.length LL)) SV.junk), SO.lists (22 : Nat) (9 : Nat) Ty.str (List.take b LL) []
      (Option.some ((2 : Nat), List.length (List.getD (List.drop b LL) (0 : Nat) ([] : List ByteArray)))) (List.drop (1 : Nat) (List.drop b LL)), SO.row (9 : Nat) Ty.str
      (List.getD LL b ([] : List ByteArray) ++ W5.marks (↑b : Int) (List.length (List.getD LL b ([] : List ByteArray))) b_1), SO.row (22 : Nat) (Ty.imm Ty.str) (W5.grown (0 :
      Nat) (List.take b LL)), SO.row (9 : Nat) Ty.str (List.getD LL b ([] : List ByteArray) ++ W5.marks (↑b : Int) (List.length (List.getD LL b ([] : List ByteArray))) b_4 ++
      List.take (1 : Nat) (List.drop (0 : Nat) b_5))]) = ([SV.ptr (0 : Nat) (0 : Nat), SV.sl (3 : Nat) (1 : Nat) (0 : Nat) b, SV.lit (Value.int IntKind.i64 (↑b : Int)), SV.sl (4
      : Nat) (1 : Nat) (0 : Nat) (List.length (List.getD LL b ([] : List ByteArray)) + x'), SV.lit (Value.int IntKind.i64 (↑x' : Int))], [SO.cells (52 : Nat) (W5.bk (SV.sl (1 :
      Nat) (1 : Nat) (0 : Nat) (List.length LL)) SV.junk), SO.lists (22 : Nat) (9 : Nat) Ty.str (List.take b LL) [] (Option.some ((2 : Nat), List.length (List.getD (List.drop b
      LL) (0 : Nat) ([] : List ByteArray)))) (List.drop (1 : Nat) (List.drop b LL)), SO.row (9 : Nat) Ty.str (List.getD LL b ([] : List ByteArray) ++ W5.marks (↑b : Int)
      (List.length (List.getD LL b ([] : List ByteArray))) b_1), SO.row (22 : Nat) (Ty.imm Ty.str) (W5.grown (0 : Nat) (List.take b LL)), SO.row (9 : Nat) Ty.str (List.getD LL b
      ([] : List ByteArray) ++ W5.marks (↑b : Int) (List.length (List.getD LL b ([] : List ByteArray))) x')]) ∧ x' ≤ (12 : Nat) ∧ (12 : Nat) - x' < (12 : Nat) - b_4) ∧ True)
      ((((0 : Int) ≤ (↑b : Int) ∧ (0 : Int) ≤ (↑(List.length (List.getD LL b ([] : List ByteArray)) + b_4) : Int) ∧ (0 : Int) ≤ (60 : Int)) ∧ (↑(List.length (List.getD LL b ([]
      : List ByteArray)) + b_4) : Int) ≤ (1000000 : Int) ∧ (60 : Int) ≤ (1000000 : Int)) ∧ ∀ (b_5 : List ByteArray), W5.MkOf (↑b : Int) (List.length (List.getD LL b ([] : List
      ByteArray)) + b_4) (60 : Nat) b_5 → (60 : Nat) ≤ List.length b_5 ∧ (List.length (List.getD LL b ([] : List ByteArray)) + b_4 = List.length (List.getD LL b ([] : List
      ByteArray) ++ W5.marks (↑b : Int) (List.length (List.getD LL b ([] : List ByteArray))) b_4) ∧ (0 : Nat) < List.length (List.take (60 : Nat) (List.drop (0 : Nat) b_5))) ∧
      ((↑(List.length (List.getD LL b ([] : List ByteArray)) + b_4 + List.length (List.take (60 : Nat) (List.drop (0 : Nat) b_5))) : Int) ≤ (9223372036854775807 : Int) ∧
      (List.length (List.getD LL b ([] : List ByteArray)) + b_4 + List.length (List.take (60 : Nat) (List.drop (0 : Nat) b_5))) * Sx.bytesOf Go.Proofs.Tryz.prog (9 : Nat) ≤
      (140737488355328 : Nat)) ∧ (0 : Nat) + (List.length (List.getD LL b ([] : List ByteArray)) + b_4 + List.length (List.take (60 : Nat) (List.drop (0 : Nat) b_5))) ≤
      List.length (List.getD LL b ([] : List ByteArray) ++ W5.marks (↑b : Int) (List.length (List.getD LL b ([] : List ByteArray))) b_4 ++ List.take (60 : Nat) (List.drop (0 :
      Nat) b_5)) ∧ (1 : Nat) ≤ (1 : Nat) ∧ br (decide (b + (1 : Nat) ≤ List.length (W5.grown (0 : Nat) (List.take b LL)))) (List.length (List.getD (List.drop b LL) (0 : Nat) ([]
      : List ByteArray)) ≤ List.length (List.getD LL b ([] : List ByteArray) ++ W5.marks (↑b : Int) (List.length (List.getD LL b ([] : List ByteArray))) b_1) ∧ (∃ (x' : Nat),
      ([SV.ptr (0 : Nat) (0 : Nat), SV.sl (2 : Nat) (1 : Nat) (0 : Nat) (b + (1 : Nat)), SV.lit (Value.int IntKind.i64 (IntKind.wrap IntKind.i64 ((↑b : Int) + (1 : Int))))],
      [SO.cells (52 : Nat) (W5.bk (SV.sl (1 : Nat) (1 : Nat) (0 : Nat) (List.length LL)) SV.junk), SO.lists (22 : Nat) (9 : Nat) Ty.str (List.take b LL ++ [List.take
      (List.length (List.getD (List.drop b LL) (0 : Nat) ([] : List ByteArray))) (List.getD LL b ([] : List ByteArray) ++ W5.marks (↑b : Int) (List.length (List.getD LL b ([] :
      List ByteArray))) b_1)]) [] Option.none (List.drop (1 : Nat) (List.drop b LL)), SO.row (22 : Nat) (Ty.imm Ty.str) (List.take b (W5.grown (0 : Nat) (List.take b LL)) ++
      [List.take (List.length (List.getD LL b ([] : List ByteArray)) + b_4 + List.length (List.take (60 : Nat) (List.drop (0 : Nat) b_5))) (List.drop (0 : Nat) (List.getD LL b
      ([] : List ByteArray) ++ W5.marks (↑b : Int) (List.length (List.getD LL b ([] : List ByteArray))) b_4 ++ List.take (60 : Nat) (List.drop (0 : Nat) b_5)))] ++ List.drop (b
      + (1 : Nat)) (W5.grown (0 : Nat) (List.take b LL)))]) = ([SV.ptr (0 : Nat) (0 : Nat), SV.sl (2 : Nat) (1 : Nat) (0 : Nat) x', SV.lit (Value.int IntKind.i64 (↑x' : Int))],
      [SO.cells (52 : Nat) (W5.bk (SV.sl (1 : Nat) (1 : Nat) (0 : Nat) (List.length LL)) SV.junk), SO.lists (22 : Nat) (9 : Nat) Ty.str (List.take x' LL) [] Option.none
      (List.drop x' LL), SO.row (22 : Nat) (Ty.imm Ty.str) (W5.grown (0 : Nat) (List.take x' LL))]) ∧ x' ≤ List.length LL ∧ List.length LL - x' < List.length LL - b) ∧ True) (b
      ≤ List.length (W5.grown (0 : Nat) (List.take b LL)) ∧ ((↑(b + (1 : Nat)) : Int) ≤ (9223372036854775807 : Int) ∧ (b + (1 : Nat)) * Sx.bytesOf Go.Proofs.Tryz.prog (22 : Nat)
      ≤ (140737488355328 : Nat)) ∧ List.length (List.getD (List.drop b LL) (0 : Nat) ([] : List ByteArray)) ≤ List.length (List.getD LL b ([] : List ByteArray) ++ W5.marks (↑b :
      Int) (List.length (List.getD LL b ([] : List ByteArray))) b_1) ∧ (∃ (x' : Nat), ([SV.ptr (0 : Nat) (0 : Nat), SV.sl (2 : Nat) (1 : Nat) (0 : Nat) (b + (1 : Nat)), SV.lit
      (Value.int IntKind.i64 (IntKind.wrap IntKind.i64 ((↑b : Int) + (1 : Int))))], [SO.cells (52 : Nat) (W5.bk (SV.sl (1 : Nat) (1 : Nat) (0 : Nat) (List.length LL)) SV.junk),
      SO.lists (22 : Nat) (9 : Nat) Ty.str (List.take b LL ++ [List.take (List.length (List.getD (List.drop b LL) (0 : Nat) ([] : List ByteArray))) (List.getD LL b ([] : List
      ByteArray) ++ W5.marks (↑b : Int) (List.length (List.getD LL b ([] : List ByteArray))) b_1)]) [] Option.none (List.drop (1 : Nat) (List.drop b LL)), SO.row (22 : Nat)
      (Ty.imm Ty.str) (List.take b (W5.grown (0 : Nat) (List.take b LL)) ++ [List.take (List.length (List.getD LL b ([] : List ByteArray)) + b_4 + List.length (List.take (60 :
      Nat) (List.drop (0 : Nat) b_5))) (List.drop (0 : Nat) (List.getD LL b ([] : List ByteArray) ++ W5.marks (↑b : Int) (List.length (List.getD LL b ([] : List ByteArray))) b_4
      ++ List.take (60 : Nat) (List.drop (0 : Nat) b_5)))])]) = ([SV.ptr (0 : Nat) (0 : Nat), SV.sl (2 : Nat) (1 : Nat) (0 : Nat) x', SV.lit (Value.int IntKind.i64 (↑x' :
      Int))], [SO.cells (52 : Nat) (W5.bk (SV.sl (1 : Nat) (1 : Nat) (0 : Nat) (List.length LL)) SV.junk), SO.lists (22 : Nat) (9 : Nat) Ty.str (List.take x' LL) [] Option.none
      (List.drop x' LL), SO.row (22 : Nat) (Ty.imm Ty.str) (W5.grown (0 : Nat) (List.take x' LL))]) ∧ x' ≤ List.length LL ∧ List.length LL - x' < List.length LL - b) ∧ True))))
      ((((0 : Int) ≤ (↑b : Int) ∧ (0 : Int) ≤ (↑(List.length (List.getD LL b ([] : List ByteArray)) + b_1) : Int) ∧ (0 : Int) ≤ (60 : Int)) ∧ (↑(List.length (List.getD LL b ([]
      : List ByteArray)) + b_1) : Int) ≤ (1000000 : Int) ∧ (60 : Int) ≤ (1000000 : Int)) ∧ ∀ (b_2 : List ByteArray), W5.MkOf (↑b : Int) (List.length (List.getD LL b ([] : List
      ByteArray)) + b_1) (60 : Nat) b_2 → (60 : Nat) ≤ List.length b_2 ∧ List.length (List.getD LL b ([] : List ByteArray)) + b_1 = List.length (List.getD LL b ([] : List
      ByteArray) ++ W5.marks (↑b : Int) (List.length (List.getD LL b ([] : List ByteArray))) b_1) ∧ ((↑(List.length (List.getD LL b ([] : List ByteArray)) + b_1 + List.length
      (List.take (60 : Nat) (List.drop (0 : Nat) b_2))) : Int) ≤ (9223372036854775807 : Int) ∧ (List.length (List.getD LL b ([] : List ByteArray)) + b_1 + List.length (List.take
      (60 : Nat) (List.drop (0 : Nat) b_2))) * Sx.bytesOf Go.Proofs.Tryz.prog (9 : Nat) ≤ (140737488355328 : Nat)) ∧ ∀ (b_3 : Bool), True → br b_3 ((0 : Nat) + (List.length
      (List.getD LL b ([] : List ByteArray)) + b_1 + List.length (List.take (60 : Nat) (List.drop (0 : Nat) b_2))) ≤ List.length (List.getD LL b ([] : List ByteArray) ++
      W5.marks (↑b : Int) (List.length (List.getD LL b ([] : List ByteArray))) b_1 ++ List.take (60 : Nat) (List.drop (0 : Nat) b_2)) ∧ (1 : Nat) ≤ (1 : Nat) ∧ br (decide (b +
      (1 : Nat) ≤ List.length (W5.grown (0 : Nat) (List.take b LL)))) (List.length (List.getD (List.drop b LL) (0 : Nat) ([] : List ByteArray)) ≤ List.length (List.getD LL b ([]
      : List ByteArray) ++ W5.marks (↑b : Int) (List.length (List.getD LL b ([] : List ByteArray))) b_1 ++ List.take (60 : Nat) (List.drop (0 : Nat) b_2)) ∧ (∃ (x' : Nat),
      ([SV.ptr (0 : Nat) (0 : Nat), SV.sl (2 : Nat) (1 : Nat) (0 : Nat) (b + (1 : Nat)), SV.lit (Value.int IntKind.i64 (IntKind.wrap IntKind.i64 ((↑b : Int) + (1 : Int))))],
      [SO.cells (52 : Nat) (W5.bk (SV.sl (1 : Nat) (1 : Nat) (0 : Nat) (List.length LL)) SV.junk), SO.lists (22 : Nat) (9 : Nat) Ty.str (List.take b LL ++ [List.take
      (List.length (List.getD (List.drop b LL) (0 : Nat) ([] : List ByteArray))) (List.getD LL b ([] : List ByteArray) ++ W5.marks (↑b : Int) (List.length (List.getD LL b ([] :
      List ByteArray))) b_1 ++ List.take (60 : Nat) (List.drop (0 : Nat) b_2))]) [] Option.none (List.drop (1 : Nat) (List.drop b LL)), SO.row (22 : Nat) (Ty.imm Ty.str)
      (List.take b (W5.grown (0 : Nat) (List.take b LL)) ++ [List.take (List.length (List.getD LL b ([] : List ByteArray)) + b_1 + List.length (List.take (60 : Nat) (List.drop
      (0 : Nat) b_2))) (List.drop (0 : Nat) (List.getD LL b ([] : List ByteArray) ++ W5.marks (↑b : Int) (List.length (List.getD LL b ([] : List ByteArray))) b_1 ++ List.take
      (60 : Nat) (List.drop (0 : Nat) b_2)))] ++ List.drop (b + (1 : Nat)) (W5.grown (0 : Nat) (List.take b LL)))]) = ([SV.ptr (0 : Nat) (0 : Nat), SV.sl (2 : Nat) (1 : Nat) (0
      : Nat) x', SV.lit (Value.int IntKind.i64 (↑x' : Int))], [SO.cells (52 : Nat) (W5.bk (SV.sl (1 : Nat) (1 : Nat) (0 : Nat) (List.length LL)) SV.junk), SO.lists (22 : Nat) (9
      : Nat) Ty.str (List.take x' LL) [] Option.none (List.drop x' LL), SO.row (22 : Nat) (Ty.imm Ty.str) (W5.grown (0 : Nat) (List.take x' LL))]) ∧ x' ≤ List.length LL ∧
      List.length LL - x' < List.length LL - b) ∧ True) (b ≤ List.length (W5.grown (0 : Nat) (List.take b LL)) ∧ ((↑(b + (1 : Nat)) : Int) ≤ (9223372036854775807 : Int) ∧ (b +
      (1 : Nat)) * Sx.bytesOf Go.Proofs.Tryz.prog (22 : Nat) ≤ (140737488355328 : Nat)) ∧ List.length (List.getD (List.drop b LL) (0 : Nat) ([] : List ByteArray)) ≤ List.length
      (List.getD LL b ([] : List ByteArray) ++ W5.marks (↑b : Int) (List.length (List.getD LL b ([] : List ByteArray))) b_1 ++ List.take (60 : Nat) (List.drop (0 : Nat) b_2)) ∧
      (∃ (x' : Nat), ([SV.ptr (0 : Nat) (0 : Nat), SV.sl (2 : Nat) (1 : Nat) (0 : Nat) (b + (1 : Nat)), SV.lit (Value.int IntKind.i64 (IntKind.wrap IntKind.i64 ((↑b : Int) + (1
      : Int))))], [SO.cells (52 : Nat) (W5.bk (SV.sl (1 : Nat) (1 : Nat) (0 : Nat) (List.length LL)) SV.junk), SO.lists (22 : Nat) (9 : Nat) Ty.str (List.take b LL ++ [List.take
      (List.length (List.getD (List.drop b LL) (0 : Nat) ([] : List ByteArray))) (List.getD LL b ([] : List ByteArray) ++ W5.marks (↑b : Int) (List.length (List.getD LL b ([] :
      List ByteArray))) b_1 ++ List.take (60 : Nat) (List.drop (0 : Nat) b_2))]) [] Option.none (List.drop (1 : Nat) (List.drop b LL)), SO.row (22 : Nat) (Ty.imm Ty.str)
      (List.take b (W5.grown (0 : Nat) (List.take b LL)) ++ [List.take (List.length (List.getD LL b ([] : List ByteArray)) + b_1 + List.length (List.take (60 : Nat) (List.drop
      (0 : Nat) b_2))) (List.drop (0 : Nat) (List.getD LL b ([] : List ByteArray) ++ W5.marks (↑b : Int) (List.length (List.getD LL b ([] : List ByteArray))) b_1 ++ List.take
      (60 : Nat) (List.drop (0 : Nat) b_2)))])]) = ([SV.ptr (0 : Nat) (0 : Nat), SV.sl (2 : Nat) (1 : Nat) (0 : Nat) x', SV.lit (Value.int IntKind.i64 (↑x' : Int))], [SO.cells
      (52 : Nat) (W5.bk (SV.sl (1 : Nat) (1 : Nat) (0 : Nat) (List.length LL)) SV.junk), SO.lists (22 : Nat) (9 : Nat) Ty.str (List.take x' LL) [] Option.none (List.drop x' LL),
      SO.row (22 : Nat) (Ty.imm Ty.str) (W5.grown (0 : Nat) (List.take x' LL))]) ∧ x' ≤ List.length LL ∧ List.length LL - x' < List.length LL - b) ∧ True)) ((0 : Nat) +
      (List.length (List.getD LL b ([] : List ByteArray)) + b_1 + List.length (List.take (60 : Nat) (List.drop (0 : Nat) b_2))) ≤ List.length (List.getD LL b ([] : List
      ByteArray) ++ W5.marks (↑b : Int) (List.length (List.getD LL b ([] : List ByteArray))) b_1 ++ List.take (60 : Nat) (List.drop (0 : Nat) b_2)) ∧ (1 : Nat) ≤ (1 : Nat) ∧ br
      (decide (b + (1 : Nat) ≤ List.length (W5.grown (0 : Nat) (List.take b LL)))) (List.length (List.getD (List.drop b LL) (0 : Nat) ([] : List ByteArray)) ≤ List.length
      (List.getD LL b ([] : List ByteArray) ++ W5.marks (↑b : Int) (List.length (List.getD LL b ([] : List ByteArray))) b_1) ∧ (∃ (x' : Nat), ([SV.ptr (0 : Nat) (0 : Nat), SV.sl
      (2 : Nat) (1 : Nat) (0 : Nat) (b + (1 : Nat)), SV.lit (Value.int IntKind.i64 (IntKind.wrap IntKind.i64 ((↑b : Int) + (1 : Int))))], [SO.cells (52 : Nat) (W5.bk (SV.sl (1 :
      Nat) (1 : Nat) (0 : Nat) (List.length LL)) SV.junk), SO.lists (22 : Nat) (9 : Nat) Ty.str (List.take b LL ++ [List.take (List.length (List.getD (List.drop b LL) (0 : Nat)
      ([] : List ByteArray))) (List.getD LL b ([] : List ByteArray) ++ W5.marks (↑b : Int) (List.length (List.getD LL b ([] : List ByteArray))) b_1)]) [] Option.none (List.drop
      (1 : Nat) (List.drop b LL)), SO.row (22 : Nat) (Ty.imm Ty.str) (List.take b (W5.grown (0 : Nat) (List.take b LL)) ++ [List.take (List.length (List.getD LL b ([] : List
      ByteArray)) + b_1 + List.length (List.take (60 : Nat) (List.drop (0 : Nat) b_2))) (List.drop (0 : Nat) (List.getD LL b ([] : List ByteArray) ++ W5.marks (↑b : Int)
      (List.length (List.getD LL b ([] : List ByteArray))) b_1 ++ List.take (60 : Nat) (List.drop (0 : Nat) b_2)))] ++ List.drop (b + (1 : Nat)) (W5.grown (0 : Nat) (List.take b
      LL)))]) = ([SV.ptr (0 : Nat) (0 : Nat), SV.sl (2 : Nat) (1 : Nat) (0 : Nat) x', SV.lit (Value.int IntKind.i64 (↑x' : Int))], [SO.cells (52 : Nat) (W5.bk (SV.sl (1 : Nat)
      (1 : Nat) (0 : Nat) (List.length LL)) SV.junk), SO.lists (22 : Nat) (9 : Nat) Ty.str (List.take x' LL) [] Option.none (List.drop x' LL), SO.row (22 : Nat) (Ty.imm Ty.str)
      (W5.grown (0 : Nat) (List.take x' LL))]) ∧ x' ≤ List.length LL ∧ List.length LL - x' < List.length LL - b) ∧ True) (b ≤ List.length (W5.grown (0 : Nat) (List.take b LL)) ∧
      ((↑(b + (1 : Nat)) : Int) ≤ (9223372036854775807 : Int) ∧ (b + (1 : Nat)) * Sx.bytesOf Go.Proofs.Tryz.prog (22 : Nat) ≤ (140737488355328 : Nat)) ∧ List.length (List.getD
      (List.drop b LL) (0 : Nat) ([] : List ByteArray)) ≤ List.length (List.getD LL b ([] : List ByteArray) ++ W5.marks (↑b : Int) (List.length (List.getD LL b ([] : List
      ByteArray))) b_1) ∧ (∃ (x' : Nat), ([SV.ptr (0 : Nat) (0 : Nat), SV.sl (2 : Nat) (1 : Nat) (0 : Nat) (b + (1 : Nat)), SV.lit (Value.int IntKind.i64 (IntKind.wrap
      IntKind.i64 ((↑b : Int) + (1 : Int))))], [SO.cells (52 : Nat) (W5.bk (SV.sl (1 : Nat) (1 : Nat) (0 : Nat) (List.length LL)) SV.junk), SO.lists (22 : Nat) (9 : Nat) Ty.str
      (List.take b LL ++ [List.take (List.length (List.getD (List.drop b LL) (0 : Nat) ([] : List ByteArray))) (List.getD LL b ([] : List ByteArray) ++ W5.marks (↑b : Int)
      (List.length (List.getD LL b ([] : List ByteArray))) b_1)]) [] Option.none (List.drop (1 : Nat) (List.drop b LL)), SO.row (22 : Nat) (Ty.imm Ty.str) (List.take b (W5.grown
      (0 : Nat) (List.take b LL)) ++ [List.take (List.length (List.getD LL b ([] : List ByteArray)) + b_1 + List.length (List.take (60 : Nat) (List.drop (0 : Nat) b_2)))
      (List.drop (0 : Nat) (List.getD LL b ([] : List ByteArray) ++ W5.marks (↑b : Int) (List.length (List.getD LL b ([] : List ByteArray))) b_1 ++ List.take (60 : Nat)
      (List.drop (0 : Nat) b_2)))])]) = ([SV.ptr (0 : Nat) (0 : Nat), SV.sl (2 : Nat) (1 : Nat) (0 : Nat) x', SV.lit (Value.int IntKind.i64 (↑x' : Int))], [SO.cells (52 : Nat)
      (W5.bk (SV.sl (1 : Nat) (1 : Nat) (0 : Nat) (List.length LL)) SV.junk), SO.lists (22 : Nat) (9 : Nat) Ty.str (List.take x' LL) [] Option.none (List.drop x' LL), SO.row (22
      : Nat) (Ty.imm Ty.str) (W5.grown (0 : Nat) (List.take x' LL))]) ∧ x' ≤ List.length LL ∧ List.length LL - x' < List.length LL - b) ∧ True)))) (Q (SV.sl (3 : Nat) (1 : Nat)
      (0 : Nat) b, [SO.cells (52 : Nat) (W5.bk (SV.sl (1 : Nat) (1 : Nat) (0 : Nat) (List.length LL)) SV.junk), SO.lists (22 : Nat) (9 : Nat) Ty.str (List.take b LL) []
      (Option.some ((2 : Nat), List.length (List.getD (List.drop b LL) (0 : Nat) ([] : List ByteArray)))) (List.drop (1 : Nat) (List.drop b LL)), SO.row (9 : Nat) Ty.str
      (List.getD (List.drop b LL) (0 : Nat) ([] : List ByteArray)), SO.row (22 : Nat) (Ty.imm Ty.str) (W5.grown (0 : Nat) (List.take b LL))], [(1 : Nat), (1 : Nat)]))) (br
      (decide ((↑b : Int) < (↑(List.length LL) : Int))) (((0 : Int) ≤ (↑b : Int) ∧ (↑b : Int) < (↑(List.length LL) : Int)) ∧ False) (List.length (List.drop b LL) = (0 : Nat) ∧ Q
      (SV.sl (2 : Nat) (1 : Nat) (0 : Nat) b, [SO.cells (52 : Nat) (W5.bk (SV.sl (1 : Nat) (1 : Nat) (0 : Nat) (List.length LL)) SV.junk), SO.row (22 : Nat) (Ty.imm Ty.str)
      (List.take b LL), SO.row (22 : Nat) (Ty.imm Ty.str) (W5.grown (0 : Nat) (List.take b LL))], [(1 : Nat)])))) (by kernel_rfl) ?_
  have hb1 : bytesOf Tryz.prog 9 = 16 := by kernel_rfl
  have hb2 : bytesOf Tryz.prog 22 = 24 := by kernel_rfl
  rw [hb1, hb2]
  refine ⟨⟨0, rfl, by omega⟩, fun i hi => br_intro (fun hd => ?_) (fun hd => ?_)⟩
  · have hd := of_decide_eq_true hd
    rw [List.length_drop] at hd
    have hi2 : i < LL.length := by omega
    have e := List.drop_eq_getElem_cons hi2
    have eg : LL.getD i [] = LL[i] := by rw [List.getD_eq_getElem?_getD, List.getElem?_eq_getElem hi2]; rfl
    have hlen := hL _ (List.getElem_mem hi2)
    have etk : LL.take (i + 1) = LL.take i ++ [LL[i]] := by rw [List.take_add_one, List.getElem?_eq_getElem hi2]; rfl
    have hgs : grown 0 (LL.take (i + 1)) = grown 0 (LL.take i) ++ [LL[i] ++ marks (i : Int) LL[i].length 72] := by
      rw [etk, grown_snoc, List.length_take, Nat.min_eq_left hi, Nat.zero_add]
    have hml := grown_len 0 (LL.take i)
    have htl : (LL.take i).length = i := by rw [List.length_take]; omega
    rw [htl] at hml
    rw [e, eg]
    simp only [List.getD_cons_zero, List.drop_succ_cons, List.drop_zero, List.drop_drop]
    generalize LL[i] = R at *
    have hml2 : ∀ (a : Int) (k n : Nat), (marks a k n).length = n := marks_len
    have one : ∀ k, marks (i : Int) R.length (k + 1) = marks (i : Int) R.length k ++ marks (i : Int) (R.length + k) 1 := fun k => marks_append _ _ _ _
    have h72 : marks (i : Int) R.length 72 = marks (i : Int) R.length 12 ++ marks (i : Int) (R.length + 12) 60 := marks_append _ _ 12 60
    have t1 : ∀ (a : Int) (k n : Nat), (marks a k n).take n = marks a k n := fun a k n => List.take_of_length_le (by rw [hml2]; exact Nat.le_refl _)
    have tR : ∀ X : List ByteArray, (R ++ X).take R.length = R := fun X => List.take_left
    have w1 : ∀ n : Nat, n ≤ 2000 → IntKind.i64.wrap ((n : Int) + 1) = ((n + 1 : Nat) : Int) := fun n hn => wrap1 n (by omega)
    have tX : (R ++ marks (i : Int) R.length 12 ++ marks (i : Int) (R.length + 12) 60).take (R.length + 12 + 60) = R ++ marks (i : Int) R.length 72 := by
      rw [h72, ← List.append_assoc]
      exact List.take_of_length_le (by rw [List.length_append, List.length_append, hml2, hml2]; omega)
    generalize grown 0 (LL.take i) = G at *
    have hG : G.take i = G := List.take_of_length_le (by omega)
    refine br_intro (fun hlt => ⟨by omega, by omega, ⟨0, by simp [marks], by omega⟩, fun k hk => br_intro (fun hk2 => ⟨⟨by omega, by omega, by omega⟩, fun l hl => ?_⟩) (fun hk2 => ⟨⟨by omega, by omega, by omega⟩, fun l hl => ?_⟩)⟩) (fun hge => by have := of_decide_eq_false hge; omega)
    · have hk2 := of_decide_eq_true hk2
      obtain rfl := hl.eq
      rw [t1 i (R.length + k) 1, hml2 i (R.length + k) 1]
      refine ⟨by omega, by rw [List.length_append, hml2], ⟨by omega, by omega⟩, fun c _ => br_intro (fun _ => ⟨⟨k + 1, ?_, by omega, by omega⟩, trivial⟩) (fun _ => ⟨⟨k + 1, ?_, by omega⟩, fun j hj => br_intro (fun hj2 => ⟨⟨by omega, by omega, by omega⟩, fun l hl => ?_⟩) (fun hj2 => ⟨⟨by omega, by omega, by omega⟩, fun l hl => ?_⟩)⟩)⟩
      · rw [w1 k (by omega), one k, List.append_assoc]; rfl
      · rw [w1 k (by omega), one k, List.append_assoc]; rfl
      · have hj2 := of_decide_eq_true hj2
        obtain rfl := hl.eq
        rw [t1 i (R.length + j) 1, hml2 i (R.length + j) 1]
        refine ⟨by omega, ⟨by rw [List.length_append, hml2], by omega⟩, ⟨by omega, by omega⟩, ⟨j + 1, ?_, by omega, by omega⟩, trivial⟩
        rw [w1 j (by omega), one j, List.append_assoc]; rfl
      · have hj2 := of_decide_eq_false hj2
        have : j = 12 := by omega
        subst this
        obtain rfl := hl.eq
        rw [t1 i (R.length + 12) 60, hml2 i (R.length + 12) 60]
        refine ⟨by omega, ⟨by rw [List.length_append, hml2], by omega⟩, ⟨by omega, by omega⟩, by rw [List.length_append, List.length_append, hml2, hml2]; omega, by omega, br_intro (fun h => by have := of_decide_eq_true h; omega) (fun _ => ⟨by omega, ⟨by omega, by omega⟩, by rw [List.length_append]; omega, ⟨i + 1, ?_, by omega, by omega⟩, trivial⟩)⟩
        rw [w1 i (by omega), hgs, etk, tR, tX, hG]
    · have hk2 := of_decide_eq_false hk2
      have : k = 12 := by omega
      subst this
      obtain rfl := hl.eq
      rw [t1 i (R.length + 12) 60, hml2 i (R.length + 12) 60]
      refine ⟨by omega, by rw [List.length_append, hml2], ⟨by omega, by omega⟩, fun c _ => br_intro (fun _ => ?_) (fun _ => ?_)⟩
      · refine ⟨by rw [List.length_append, List.length_append, hml2, hml2]; omega, by omega, br_intro (fun h => by have := of_decide_eq_true h; omega) (fun _ => ⟨by omega, ⟨by omega, by omega⟩, by rw [List.length_append, List.length_append]; omega, ⟨i + 1, ?_, by omega, by omega⟩, trivial⟩)⟩
        rw [w1 i (by omega), hgs, etk, tX, hG, List.append_assoc R, tR]
      · refine ⟨by rw [List.length_append, List.length_append, hml2, hml2]; omega, by omega, br_intro (fun h => by have := of_decide_eq_true h; omega) (fun _ => ⟨by omega, ⟨by omega, by omega⟩, by rw [List.length_append]; omega, ⟨i + 1, ?_, by omega, by omega⟩, trivial⟩)⟩
        rw [w1 i (by omega), hgs, etk, tR, tX, hG]
  · have hd := of_decide_eq_false hd
    rw [List.length_drop] at hd
    have : i = LL.length := by omega
    subst this
    refine br_intro (fun h => by have := of_decide_eq_true h; omega) (fun _ => ⟨by rw [List.length_drop]; omega, ?_⟩)
    rw [List.take_length]
    exact hq

noncomputable def s49 : Summ := fun args H => match args, H with
  | [.ptr 0 0], [.cells 52 cs, .lists 22 9 .str [] [] none LL] => .need ((LL.length ≤ 1000 ∧ ∀ l ∈ LL, l.length ≤ 900000) ∧ cs = bk (.sl 1 1 0 LL.length) .junk)
      (.ret (.sl 2 1 0 LL.length, [.cells 52 cs, .row 22 (.imm .str) LL, .row 22 (.imm .str) (grown 0 LL)], [1]))
  | _, _ => .fail
theorem s49_ok : SummOK Tryz.prog 39 s49 := by
  refine summ_of_body (fn := Tryz.f39) (c := Tryz.f39.body.get!) K3_ok (by kernel_rfl) (by kernel_rfl) (by kernel_rfl) fun args H Q h => ?_
  unfold s49 at h
  split at h
  · rename_i cs LL
    simp only [Tree.Leads] at h
    obtain ⟨⟨⟨h1, h2⟩, rfl⟩, hq⟩ := h
    exact ⟨_, v49 LL Q h1 h2 hq⟩
  · simp only [Tree.Leads] at h
/-- Are these all marks? -/
noncomputable def A57 (n : Nat) : Ann := { live := [0, 3], mv := [], head := fun vals H => match vals with | [a, _] => { X := Nat, inv := fun i => ([a, .lit (.int .i64 i)], H), ok := fun i => i ≤ n, mu := fun i => n - i } | _ => { X := Nat, inv := fun _ => ([], []), ok := fun _ => False, mu := fun _ => 0 } }
theorem v57 (G : List (List ByteArray)) (Q : SV × Heap × List Nat → Prop) (hn : G.length ≤ 1000) (hL : ∀ l ∈ G, l.length ≤ 1000000) (hm : ∀ (i : Nat) (h : i < G.length), G[i] = marks i 0 G[i].length)
    (hq : Q (.lit (.bool true), [.row 22 (.imm .str) G], [])) :
    (bodySumm K2 Tryz.prog Tryz.f47 (An1 0 (A57 G.length)) [.sl 0 1 0 G.length] [.row 22 (.imm .str) G]).Leads Q := by
  refine Sx.by_text (q :=
      (∃ (x : Nat), ([SV.sl (0 : Nat) (1 : Nat) (0 : Nat) (List.length G), SV.lit (Value.int IntKind.i64 (0 : Int))], [SO.row (22 : Nat) (Ty.imm Ty.str) G]) = ([SV.sl (0 : Nat)
      (1 : Nat) (0 : Nat) (List.length G), SV.lit (Value.int IntKind.i64 (↑x : Int))], [SO.row (22 : Nat) (Ty.imm Ty.str) G]) ∧ x ≤ List.length G) ∧ ∀ (b : Nat), b ≤ List.length
      G → br (decide ((↑b : Int) < (↑(List.length G) : Int))) (((0 : Int) ≤ (↑b : Int) ∧ (↑b : Int) < (↑(List.length G) : Int)) ∧ ((0 : Int) ≤ (↑b : Int) ∧ (↑b : Int) <
      (↑(List.length G) : Int)) ∧ (0 : Nat) + b < List.length G ∧ ∀ (b_1 : Bool), True → br b_1 ((0 : Nat) + b < List.length G ∧ (((0 : Int) ≤ (↑b : Int) ∧ (0 : Int) ≤ (0 : Int)
      ∧ (0 : Int) ≤ (↑(List.length (List.getD G ((0 : Nat) + b) (Ty.dflt (Ty.imm Ty.str)))) : Int)) ∧ (0 : Int) ≤ (1000000 : Int) ∧ (↑(List.length (List.getD G ((0 : Nat) + b)
      (Ty.dflt (Ty.imm Ty.str)))) : Int) ≤ (1000000 : Int)) ∧ (List.length (List.getD G ((0 : Nat) + b) (Ty.dflt (Ty.imm Ty.str))) ≤ (1000000 : Nat) ∧ (0 : Nat) + List.length
      (List.getD G ((0 : Nat) + b) (Ty.dflt (Ty.imm Ty.str))) ≤ List.length (W5.marks (↑b : Int) (0 : Nat) (List.length (List.getD G ((0 : Nat) + b) (Ty.dflt (Ty.imm
      Ty.str)))))) ∧ Sx.br (!decide (List.getD G ((0 : Nat) + b) (Ty.dflt (Ty.imm Ty.str)) = List.take (List.length (List.getD G ((0 : Nat) + b) (Ty.dflt (Ty.imm Ty.str))))
      (List.drop (0 : Nat) (W5.marks (↑b : Int) (0 : Nat) (List.length (List.getD G ((0 : Nat) + b) (Ty.dflt (Ty.imm Ty.str)))))))) (Q (SV.lit (Value.bool false), [SO.row (22 :
      Nat) (Ty.imm Ty.str) G], [])) ((∃ (x' : Nat), ([SV.sl (0 : Nat) (1 : Nat) (0 : Nat) (List.length G), SV.lit (Value.int IntKind.i64 (IntKind.wrap IntKind.i64 ((↑b : Int) +
      (1 : Int))))], [SO.row (22 : Nat) (Ty.imm Ty.str) G]) = ([SV.sl (0 : Nat) (1 : Nat) (0 : Nat) (List.length G), SV.lit (Value.int IntKind.i64 (↑x' : Int))], [SO.row (22 :
      Nat) (Ty.imm Ty.str) G]) ∧ x' ≤ List.length G ∧ List.length G - x' < List.length G - b) ∧ True)) ((((0 : Int) ≤ (↑b : Int) ∧ (0 : Int) ≤ (0 : Int) ∧ (0 : Int) ≤
      (↑(List.length (List.getD G ((0 : Nat) + b) (Ty.dflt (Ty.imm Ty.str)))) : Int)) ∧ (0 : Int) ≤ (1000000 : Int) ∧ (↑(List.length (List.getD G ((0 : Nat) + b) (Ty.dflt
      (Ty.imm Ty.str)))) : Int) ≤ (1000000 : Int)) ∧ (0 : Nat) + b < List.length G ∧ (List.length (List.getD G ((0 : Nat) + b) (Ty.dflt (Ty.imm Ty.str))) ≤ (1000000 : Nat) ∧ (0
      : Nat) + List.length (List.getD G ((0 : Nat) + b) (Ty.dflt (Ty.imm Ty.str))) ≤ List.length (W5.marks (↑b : Int) (0 : Nat) (List.length (List.getD G ((0 : Nat) + b)
      (Ty.dflt (Ty.imm Ty.str)))))) ∧ Sx.br (!decide (List.getD G ((0 : Nat) + b) (Ty.dflt (Ty.imm Ty.str)) = List.take (List.length (List.getD G ((0 : Nat) + b) (Ty.dflt
      (Ty.imm Ty.str)))) (List.drop (0 : Nat) (W5.marks (↑b : Int) (0 : Nat) (List.length (List.getD G ((0 : Nat) + b) (Ty.dflt (Ty.imm Ty.str)))))))) (Q (SV.lit (Value.bool
      false), [SO.row (22 : Nat) (Ty.imm Ty.str) G], [])) ((∃ (x' : Nat), ([SV.sl (0 : Nat) (1 : Nat) (0 : Nat) (List.length G), SV.lit (Value.int IntKind.i64 (IntKind.wrap
      IntKind.i64 ((↑b : Int) + (1 : Int))))], [SO.row (22 : Nat) (Ty.imm Ty.str) G]) = ([SV.sl (0 : Nat) (1 : Nat) (0 : Nat) (List.length G), SV.lit (Value.int IntKind.i64 (↑x'
      : Int))], [SO.row (22 : Nat) (Ty.imm Ty.str) G]) ∧ x' ≤ List.length G ∧ List.length G - x' < List.length G - b) ∧ True))) (Q (SV.lit (Value.bool true), [SO.row (22 : Nat)
      (Ty.imm Ty.str) G], []))) (by kernel_rfl) ?_
  refine ⟨⟨0, rfl, by omega⟩, fun i hi => br_intro (fun hlt => ?_) (fun _ => hq)⟩
  have hlt := of_decide_eq_true hlt
  have hi2 : i < G.length := by omega
  have eg : G.getD (0 + i) (Ty.imm .str).dflt = G[i] := by rw [Nat.zero_add, List.getD_eq_getElem?_getD, List.getElem?_eq_getElem hi2]; rfl
  rw [eg]
  have h1 := hL _ (List.getElem_mem hi2)
  have h2 := hm i hi2
  generalize G[i] = R at *
  have ht : ((marks (i : Int) 0 R.length).drop 0).take R.length = R := by rw [List.drop_zero, ← h2]; exact List.take_of_length_le (Nat.le_refl _)
  have hl2 := marks_len (i : Int) 0 R.length
  have fin : br (!decide (R = List.take R.length (List.drop 0 (marks (i : Int) 0 R.length)))) (Q (SV.lit (Value.bool false), [SO.row 22 Ty.str.imm G], [])) ((∃ x', ([SV.sl 0 1 0 G.length, SV.lit (Value.int IntKind.i64 (IntKind.i64.wrap (i + 1)))], [SO.row 22 Ty.str.imm G]) = ([SV.sl 0 1 0 G.length, SV.lit (Value.int IntKind.i64 (x' : Nat))], [SO.row 22 Ty.str.imm G]) ∧ x' ≤ G.length ∧ G.length - x' < G.length - i) ∧ True) := by
    rw [ht]
    refine br_intro (fun g => by simp [bytes_beq] at g) (fun _ => ⟨⟨i + 1, by rw [wrap1 i (by omega)], by omega, by omega⟩, trivial⟩)
  exact ⟨by omega, by omega, by omega, fun b _ => br_intro (fun _ => ⟨by omega, by omega, by omega, fin⟩) (fun _ => ⟨by omega, by omega, by omega, fin⟩)⟩
noncomputable def s57 : Summ := fun args H => match args, H with
  | [.sl 0 1 0 n], [.row 22 (.imm .str) G] => .need (n = G.length ∧ (G.length ≤ 1000 ∧ ∀ l ∈ G, l.length ≤ 1000000) ∧ ∀ (i : Nat) (h : i < G.length), G[i] = marks i 0 G[i].length) (.ret (.lit (.bool true), [.row 22 (.imm .str) G], []))
  | _, _ => .fail
theorem s57_ok : SummOK Tryz.prog 47 s57 := by
  refine summ_of_body (fn := Tryz.f47) (c := Tryz.f47.body.get!) K2_ok (by kernel_rfl) (by kernel_rfl) (by kernel_rfl) fun args H Q h => ?_
  unfold s57 at h
  split at h
  · rename_i n G
    simp only [Tree.Leads] at h
    obtain ⟨⟨rfl, ⟨h1, h2⟩, h3⟩, hq⟩ := h
    exact ⟨_, v57 G Q h1 h2 h3 hq⟩
  · simp only [Tree.Leads] at h
theorem inlNil {f : FuncId} {fn : Func} (c : Code) (hf : Tryz.prog.funcs[f]? = some fn) (hb : fn.body = some c) (hname : (fn.name == "runtime.NumGoroutine") = false) : CallOK Tryz.prog f (inlSumm Table.none Tryz.prog fn) := inlSumm_sound none_ok hf hb hname
noncomputable def KN : Table := ((((((((((((((((((((((((((((Table.none).add 24 (.call (inlSumm Table.none Tryz.prog Tryz.f24))).add 25 (.call (inlSumm Table.none Tryz.prog Tryz.f25))).add 26 (.call (inlSumm Table.none Tryz.prog Tryz.f26))).add 27 (.call (inlSumm Table.none Tryz.prog Tryz.f27))).add 28 (.call (inlSumm Table.none Tryz.prog Tryz.f28))).add 29 (.call (inlSumm Table.none Tryz.prog Tryz.f29))).add 30 (.call (inlSumm Table.none Tryz.prog Tryz.f30))).add 31 (.call (inlSumm Table.none Tryz.prog Tryz.f31))).add 32 (.call (inlSumm Table.none Tryz.prog Tryz.f32))).add 34 (.call (inlSumm Table.none Tryz.prog Tryz.f34))).add 35 (.call (inlSumm Table.none Tryz.prog Tryz.f35))).add 36 (.call (inlSumm Table.none Tryz.prog Tryz.f36))).add 37 (.call (inlSumm Table.none Tryz.prog Tryz.f37))).add 38 (.call (inlSumm Table.none Tryz.prog Tryz.f38))).add 40 (.call (inlSumm Table.none Tryz.prog Tryz.f40))).add 41 (.call (inlSumm Table.none Tryz.prog Tryz.f41))).add 42 (.call (inlSumm Table.none Tryz.prog Tryz.f42))).add 43 (.call (inlSumm Table.none Tryz.prog Tryz.f43))).add 44 (.call (inlSumm Table.none Tryz.prog Tryz.f44))).add 45 (.call (inlSumm Table.none Tryz.prog Tryz.f45))).add 46 (.call (inlSumm Table.none Tryz.prog Tryz.f46))).add 48 (.call (inlSumm Table.none Tryz.prog Tryz.f48))).add 49 (.call (inlSumm Table.none Tryz.prog Tryz.f49))).add 50 (.call (inlSumm Table.none Tryz.prog Tryz.f50))).add 51 (.call (inlSumm Table.none Tryz.prog Tryz.f51))).add 52 (.call (inlSumm Table.none Tryz.prog Tryz.f52))).add 53 (.call (inlSumm Table.none Tryz.prog Tryz.f53))).add 54 (.call (inlSumm Table.none Tryz.prog Tryz.f54))
theorem KN_ok : TableOK Tryz.prog KN := add_ok (e := .call (inlSumm Table.none Tryz.prog Tryz.f54)) (add_ok (e := .call (inlSumm Table.none Tryz.prog Tryz.f53)) (add_ok (e := .call (inlSumm Table.none Tryz.prog Tryz.f52)) (add_ok (e := .call (inlSumm Table.none Tryz.prog Tryz.f51)) (add_ok (e := .call (inlSumm Table.none Tryz.prog Tryz.f50)) (add_ok (e := .call (inlSumm Table.none Tryz.prog Tryz.f49)) (add_ok (e := .call (inlSumm Table.none Tryz.prog Tryz.f48)) (add_ok (e := .call (inlSumm Table.none Tryz.prog Tryz.f46)) (add_ok (e := .call (inlSumm Table.none Tryz.prog Tryz.f45)) (add_ok (e := .call (inlSumm Table.none Tryz.prog Tryz.f44)) (add_ok (e := .call (inlSumm Table.none Tryz.prog Tryz.f43)) (add_ok (e := .call (inlSumm Table.none Tryz.prog Tryz.f42)) (add_ok (e := .call (inlSumm Table.none Tryz.prog Tryz.f41)) (add_ok (e := .call (inlSumm Table.none Tryz.prog Tryz.f40)) (add_ok (e := .call (inlSumm Table.none Tryz.prog Tryz.f38)) (add_ok (e := .call (inlSumm Table.none Tryz.prog Tryz.f37)) (add_ok (e := .call (inlSumm Table.none Tryz.prog Tryz.f36)) (add_ok (e := .call (inlSumm Table.none Tryz.prog Tryz.f35)) (add_ok (e := .call (inlSumm Table.none Tryz.prog Tryz.f34)) (add_ok (e := .call (inlSumm Table.none Tryz.prog Tryz.f32)) (add_ok (e := .call (inlSumm Table.none Tryz.prog Tryz.f31)) (add_ok (e := .call (inlSumm Table.none Tryz.prog Tryz.f30)) (add_ok (e := .call (inlSumm Table.none Tryz.prog Tryz.f29)) (add_ok (e := .call (inlSumm Table.none Tryz.prog Tryz.f28)) (add_ok (e := .call (inlSumm Table.none Tryz.prog Tryz.f27)) (add_ok (e := .call (inlSumm Table.none Tryz.prog Tryz.f26)) (add_ok (e := .call (inlSumm Table.none Tryz.prog Tryz.f25)) (add_ok (e := .call (inlSumm Table.none Tryz.prog Tryz.f24)) (none_ok) (inlNil (f := 24) (fn := Tryz.f24) Tryz.f24.body.get! (by kernel_rfl) (by kernel_rfl) (by kernel_rfl))) (inlNil (f := 25) (fn := Tryz.f25) Tryz.f25.body.get! (by kernel_rfl) (by kernel_rfl) (by kernel_rfl))) (inlNil (f := 26) (fn := Tryz.f26) Tryz.f26.body.get! (by kernel_rfl) (by kernel_rfl) (by kernel_rfl))) (inlNil (f := 27) (fn := Tryz.f27) Tryz.f27.body.get! (by kernel_rfl) (by kernel_rfl) (by kernel_rfl))) (inlNil (f := 28) (fn := Tryz.f28) Tryz.f28.body.get! (by kernel_rfl) (by kernel_rfl) (by kernel_rfl))) (inlNil (f := 29) (fn := Tryz.f29) Tryz.f29.body.get! (by kernel_rfl) (by kernel_rfl) (by kernel_rfl))) (inlNil (f := 30) (fn := Tryz.f30) Tryz.f30.body.get! (by kernel_rfl) (by kernel_rfl) (by kernel_rfl))) (inlNil (f := 31) (fn := Tryz.f31) Tryz.f31.body.get! (by kernel_rfl) (by kernel_rfl) (by kernel_rfl))) (inlNil (f := 32) (fn := Tryz.f32) Tryz.f32.body.get! (by kernel_rfl) (by kernel_rfl) (by kernel_rfl))) (inlNil (f := 34) (fn := Tryz.f34) Tryz.f34.body.get! (by kernel_rfl) (by kernel_rfl) (by kernel_rfl))) (inlNil (f := 35) (fn := Tryz.f35) Tryz.f35.body.get! (by kernel_rfl) (by kernel_rfl) (by kernel_rfl))) (inlNil (f := 36) (fn := Tryz.f36) Tryz.f36.body.get! (by kernel_rfl) (by kernel_rfl) (by kernel_rfl))) (inlNil (f := 37) (fn := Tryz.f37) Tryz.f37.body.get! (by kernel_rfl) (by kernel_rfl) (by kernel_rfl))) (inlNil (f := 38) (fn := Tryz.f38) Tryz.f38.body.get! (by kernel_rfl) (by kernel_rfl) (by kernel_rfl))) (inlNil (f := 40) (fn := Tryz.f40) Tryz.f40.body.get! (by kernel_rfl) (by kernel_rfl) (by kernel_rfl))) (inlNil (f := 41) (fn := Tryz.f41) Tryz.f41.body.get! (by kernel_rfl) (by kernel_rfl) (by kernel_rfl))) (inlNil (f := 42) (fn := Tryz.f42) Tryz.f42.body.get! (by kernel_rfl) (by kernel_rfl) (by kernel_rfl))) (inlNil (f := 43) (fn := Tryz.f43) Tryz.f43.body.get! (by kernel_rfl) (by kernel_rfl) (by kernel_rfl))) (inlNil (f := 44) (fn := Tryz.f44) Tryz.f44.body.get! (by kernel_rfl) (by kernel_rfl) (by kernel_rfl))) (inlNil (f := 45) (fn := Tryz.f45) Tryz.f45.body.get! (by kernel_rfl) (by kernel_rfl) (by kernel_rfl))) (inlNil (f := 46) (fn := Tryz.f46) Tryz.f46.body.get! (by kernel_rfl) (by kernel_rfl) (by kernel_rfl))) (inlNil (f := 48) (fn := Tryz.f48) Tryz.f48.body.get! (by kernel_rfl) (by kernel_rfl) (by kernel_rfl))) (inlNil (f := 49) (fn := Tryz.f49) Tryz.f49.body.get! (by kernel_rfl) (by kernel_rfl) (by kernel_rfl))) (inlNil (f := 50) (fn := Tryz.f50) Tryz.f50.body.get! (by kernel_rfl) (by kernel_rfl) (by kernel_rfl))) (inlNil (f := 51) (fn := Tryz.f51) Tryz.f51.body.get! (by kernel_rfl) (by kernel_rfl) (by kernel_rfl))) (inlNil (f := 52) (fn := Tryz.f52) Tryz.f52.body.get! (by kernel_rfl) (by kernel_rfl) (by kernel_rfl))) (inlNil (f := 53) (fn := Tryz.f53) Tryz.f53.body.get! (by kernel_rfl) (by kernel_rfl) (by kernel_rfl))) (inlNil (f := 54) (fn := Tryz.f54) Tryz.f54.body.get! (by kernel_rfl) (by kernel_rfl) (by kernel_rfl))

theorem marked_get : ∀ (l : List (List ByteArray)) (k i : Nat) (h : i < (marked k l).length) (h' : i < l.length), (marked k l)[i] = marks ((k + i : Nat) : Int) 0 l[i].length
  | [], _, _, h, _ => by cases h
  | x :: l, k, 0, _, _ => rfl
  | x :: l, k, i + 1, h, h' => by
    simp only [marked, List.getElem_cons_succ]
    rw [marked_get l (k + 1) i _ (Nat.lt_of_succ_lt_succ h'), show k + 1 + i = k + (i + 1) by omega]
theorem grown_get : ∀ (l : List (List ByteArray)) (k i : Nat) (h : i < (grown k l).length) (h' : i < l.length), (grown k l)[i] = l[i] ++ marks ((k + i : Nat) : Int) l[i].length 72
  | [], _, _, h, _ => by cases h
  | x :: l, k, 0, _, _ => rfl
  | x :: l, k, i + 1, h, h' => by
    simp only [grown, List.getElem_cons_succ]
    rw [grown_get l (k + 1) i _ (Nat.lt_of_succ_lt_succ h'), show k + 1 + i = k + (i + 1) by omega]
theorem marked_ok (LL : List (List ByteArray)) (i : Nat) (h : i < (marked 0 LL).length) : (marked 0 LL)[i] = marks i 0 (marked 0 LL)[i].length := by
  have h' : i < LL.length := by rw [marked_len] at h; exact h
  have e := marked_get LL 0 i h h'
  rw [Nat.zero_add] at e
  have el : ((marked 0 LL)[i]).length = LL[i].length := by rw [e, marks_len]
  rw [el]; exact e
theorem grown_ok (LL : List (List ByteArray)) (i : Nat) (h : i < (grown 0 (marked 0 LL)).length) : (grown 0 (marked 0 LL))[i] = marks i 0 (grown 0 (marked 0 LL))[i].length := by
  have h' : i < (marked 0 LL).length := by rw [grown_len] at h; exact h
  have e := grown_get (marked 0 LL) 0 i h h'
  have em := marked_ok LL i h'
  rw [Nat.zero_add] at e
  generalize (marked 0 LL)[i] = M at *
  have el : ((grown 0 (marked 0 LL))[i]).length = M.length + 72 := by rw [e, List.length_append, marks_len]
  rw [el, marks_append, ← em, Nat.zero_add]; exact e
theorem mem_get {α : Type} {l : List α} {x : α} (h : x ∈ l) : ∃ (i : Nat) (hi : i < l.length), x = l[i] := by
  obtain ⟨i, hi, e⟩ := List.getElem_of_mem h
  exact ⟨i, hi, e.symm⟩
theorem marked_small (LL : List (List ByteArray)) {n : Nat} (hL : ∀ l ∈ LL, l.length ≤ n) : ∀ l ∈ marked 0 LL, l.length ≤ n := fun l hl => by
  obtain ⟨i, hi, rfl⟩ := mem_get hl
  have h' : i < LL.length := by rw [marked_len] at hi; exact hi
  rw [marked_get LL 0 i hi h', marks_len]
  exact hL _ (List.getElem_mem h')
theorem grown_small (LL : List (List ByteArray)) {n : Nat} (hL : ∀ l ∈ LL, l.length ≤ n) : ∀ l ∈ grown 0 LL, l.length ≤ n + 72 := fun l hl => by
  obtain ⟨i, hi, rfl⟩ := mem_get hl
  have h' : i < LL.length := by rw [grown_len] at hi; exact hi
  rw [grown_get LL 0 i hi h', List.length_append, marks_len]
  have := hL _ (List.getElem_mem h')
  omega
noncomputable def K24 : Table := ((((((KN.add 23 (.go s33)).add 33 (.go s43)).add 39 (.go s49)).add 47 (.go s57)).add 4000031 .thaw))
theorem K24_ok : TableOK Tryz.prog K24 true := add_ok (e := .thaw) (add_ok (e := .go s57) (add_ok (e := .go s49) (add_ok (e := .go s43) (add_ok (e := .go s33) KN_ok.up s33_ok) s43_ok) s49_ok) s57_ok) rfl
theorem v24 (LL WW : List (List ByteArray)) (Q : SV × Heap × List Nat → Prop) (hn : LL.length ≤ 1000) (hL : ∀ l ∈ LL, l.length ≤ 900000) (he : LL = WW)
    (hq : Q (.lit (.bool true), [.cells 52 (bk (.sl 1 1 0 LL.length) .junk), .row 22 (.imm .str) (marked 0 LL), .dead], [1, 2])) :
    (bodySumm K24 Tryz.prog Tryz.f10 noAn [.ptr 0 0] [.cells 52 (bk (.sl 1 1 0 LL.length) (.sl 2 1 0 WW.length)), .kept 22 9 .str LL, .row 22 (.imm .str) WW]).Leads Q := by
  refine Sx.by_text (q :=
      ((List.length LL = List.length WW ∧ List.length LL ≤ (1000 : Nat) ∧ (∀ (l : List (Ty.den Ty.str)), l ∈ LL → List.length l ≤ (1000000 : Nat)) ∧ ∀ (l : Ty.den (Ty.imm
      Ty.str)), l ∈ WW → List.length l ≤ (1000000 : Nat)) ∧ W5.bk (SV.sl (1 : Nat) (1 : Nat) (0 : Nat) (List.length LL)) (SV.sl (2 : Nat) (1 : Nat) (0 : Nat) (List.length WW)) =
      W5.bk (SV.sl (1 : Nat) (1 : Nat) (0 : Nat) (List.length LL)) (SV.sl (2 : Nat) (1 : Nat) (0 : Nat) (List.length WW))) ∧ br (!decide (LL = WW)) (Q (SV.lit (Value.bool
      false), [SO.cells (52 : Nat) (W5.bk (SV.sl (1 : Nat) (1 : Nat) (0 : Nat) (List.length LL)) (SV.sl (2 : Nat) (1 : Nat) (0 : Nat) (List.length WW))), SO.kept (22 : Nat) (9 :
      Nat) Ty.str LL, SO.row (22 : Nat) (Ty.imm Ty.str) WW], [])) (((List.length LL ≤ (1000 : Nat) ∧ ∀ (l : List (Ty.den Ty.str)), l ∈ LL → List.length l ≤ (1000000 : Nat)) ∧
      W5.bk (SV.sl (1 : Nat) (1 : Nat) (0 : Nat) (List.length LL)) SV.junk = W5.bk (SV.sl (1 : Nat) (1 : Nat) (0 : Nat) (List.length LL)) SV.junk) ∧ ((List.length (W5.marked (0
      : Nat) LL) ≤ (1000 : Nat) ∧ ∀ (l : List (Ty.den Ty.str)), l ∈ W5.marked (0 : Nat) LL → List.length l ≤ (900000 : Nat)) ∧ W5.bk (SV.sl (1 : Nat) (1 : Nat) (0 : Nat)
      (List.length LL)) SV.junk = W5.bk (SV.sl (1 : Nat) (1 : Nat) (0 : Nat) (List.length (W5.marked (0 : Nat) LL))) SV.junk) ∧ (List.length (W5.marked (0 : Nat) LL) =
      List.length (W5.grown (0 : Nat) (W5.marked (0 : Nat) LL)) ∧ (List.length (W5.grown (0 : Nat) (W5.marked (0 : Nat) LL)) ≤ (1000 : Nat) ∧ ∀ (l : Ty.den (Ty.imm Ty.str)), l ∈
      W5.grown (0 : Nat) (W5.marked (0 : Nat) LL) → List.length l ≤ (1000000 : Nat)) ∧ ∀ (i : Nat) (h : i < List.length (W5.grown (0 : Nat) (W5.marked (0 : Nat) LL))), (W5.grown
      (0 : Nat) (W5.marked (0 : Nat) LL))[i] = W5.marks (↑i : Int) (0 : Nat) (List.length (W5.grown (0 : Nat) (W5.marked (0 : Nat) LL))[i])) ∧ (List.length LL = List.length
      (W5.marked (0 : Nat) LL) ∧ (List.length (W5.marked (0 : Nat) LL) ≤ (1000 : Nat) ∧ ∀ (l : Ty.den (Ty.imm Ty.str)), l ∈ W5.marked (0 : Nat) LL → List.length l ≤ (1000000 :
      Nat)) ∧ ∀ (i : Nat) (h : i < List.length (W5.marked (0 : Nat) LL)), (W5.marked (0 : Nat) LL)[i] = W5.marks (↑i : Int) (0 : Nat) (List.length (W5.marked (0 : Nat) LL)[i]))
      ∧ Q (SV.lit (Value.bool true), [SO.cells (52 : Nat) (W5.bk (SV.sl (1 : Nat) (1 : Nat) (0 : Nat) (List.length LL)) SV.junk), SO.row (22 : Nat) (Ty.imm Ty.str) (W5.marked (0
      : Nat) LL), SO.dead], [(1 : Nat), (2 : Nat)]))) (by kernel_rfl) ?_
  subst he
  have ml := marked_len 0 LL
  have gl := grown_len 0 (marked 0 LL)
  have h6 : ∀ l ∈ LL, l.length ≤ 1000000 := fun l hl => Nat.le_trans (hL l hl) (by omega)
  refine ⟨⟨⟨rfl, hn, h6, h6⟩, rfl⟩, br_intro (fun g => by simp [bytes_beq] at g) (fun _ => ⟨⟨⟨hn, h6⟩, rfl⟩, ⟨⟨by omega, marked_small LL hL⟩, by rw [ml]⟩, ⟨by omega, ⟨by omega, fun l hl => ?_⟩, grown_ok LL⟩, ⟨ml.symm, ⟨by omega, marked_small LL h6⟩, marked_ok LL⟩, hq⟩)⟩
  have := grown_small (marked 0 LL) (marked_small LL hL) l hl
  omega
/-- Apart, where all is as it was. -/
noncomputable def s24 : Summ := fun args H => match args, H with
  | [.ptr 0 0], [.cells 52 cs, .kept 22 9 .str LL, .row 22 (.imm .str) WW] => .need ((LL.length ≤ 1000 ∧ (∀ l ∈ LL, l.length ≤ 900000) ∧ LL = WW) ∧ cs = bk (.sl 1 1 0 LL.length) (.sl 2 1 0 WW.length))
      (.ret (.lit (.bool true), [.cells 52 (bk (.sl 1 1 0 LL.length) .junk), .row 22 (.imm .str) (marked 0 LL), .dead], [1, 2]))
  | _, _ => .fail
theorem s24_bye : ByeOK Tryz.prog 10 (byeS s24) := by
  refine bye_of_body (fn := Tryz.f10) (c := Tryz.f10.body.get!) K24_ok (by kernel_rfl) (by kernel_rfl) (by kernel_rfl) fun args H Q h => ?_
  unfold s24 at h
  split at h
  · rename_i cs LL WW
    simp only [Tree.Leads] at h
    obtain ⟨⟨⟨h1, h2, h3⟩, rfl⟩, hq⟩ := h
    exact ⟨_, v24 LL WW Q h1 h2 h3 hq⟩
  · simp only [Tree.Leads] at h
end W5
