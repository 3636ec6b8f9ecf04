/- Part of a proof: the walk of the functions that the law calls. -/
import Derived.Test.YtgcbgenkbdoejaaSxT
import Derived.Test.YtgcbgenkbdoejaaXT12a
set_option linter.unusedVariables false
open Go Sx Go.Proofs
namespace T12
set_option maxRecDepth 100000
set_option maxHeartbeats 1000000
attribute [local irreducible] Tree.Leads
theorem v26 (B : List Int) (r : Int) (Q : SV × Heap × List Nat → Prop) (hr : -2147483648 ≤ r ∧ r ≤ 2147483647) (hB : B.length ≤ 1000000) (hq : Q (.sl 1 1 0 (B.length + (enc r).length), [.dead, .row 5 (.int .u8) (B ++ enc r)], [])) : (bodySumm T1 Try.prog Try.f26 noAn [.sl 0 1 0 B.length, .lit (.int .i32 r)] [.row 5 (.int .u8) B]).Leads Q := by
  refine Sx.by_text (q :=
      Sx.br (Decidable.decide (Go.IntKind.wrap Go.IntKind.u32 r ≤ (127 : Int))) ((1 : Nat) ≤ (1 : Nat) ∧ Sx.br (Decidable.decide (List.length B + (1 : Nat) ≤ List.length B)) (Q
      (Sx.SV.sl (0 : Nat) (1 : Nat) (0 : Nat) (List.length B + (1 : Nat)), [Sx.SO.row (5 : Nat) (Sx.Ty.int Go.IntKind.u8) (List.take (List.length B) B ++ [Go.IntKind.wrap
      Go.IntKind.u8 r] ++ List.drop (List.length B + (1 : Nat)) B)], [])) (List.length B ≤ List.length B ∧ ((↑(List.length B + (1 : Nat)) : Int) ≤ (9223372036854775807 : Int) ∧
      (List.length B + (1 : Nat)) * Sx.bytesOf Go.Proofs.Try.prog (5 : Nat) ≤ (140737488355328 : Nat)) ∧ Q (Sx.SV.sl (1 : Nat) (1 : Nat) (0 : Nat) (List.length B + (1 : Nat)),
      [Sx.SO.dead, Sx.SO.row (5 : Nat) (Sx.Ty.int Go.IntKind.u8) (List.take (List.length B) B ++ [Go.IntKind.wrap Go.IntKind.u8 r])], []))) ((List.length B = List.length B ∧
      ((-2147483648 : Int) ≤ r ∧ r ≤ (2147483647 : Int)) ∧ ((0 : Int) ≤ r ∧ r < (128 : Int) → False) ∧ List.length B ≤ (1000000 : Nat)) ∧ Q (Sx.SV.sl (1 : Nat) (1 : Nat) (0 :
      Nat) (List.length B + List.length (T12.enc r)), [Sx.SO.dead, Sx.SO.row (5 : Nat) (Sx.Ty.int Go.IntKind.u8) (B ++ T12.enc r)], []))) (by kernel_rfl) ?_
  have hb : bytesOf Try.prog 5 = 1 := by kernel_rfl
  rw [IntKind.wrap_u32]
  refine br_intro (fun h => ?_) (fun h => ?_)
  · have h := of_decide_eq_true h
    have e := enc1 (r := r) (by omega)
    have e2 : IntKind.u8.wrap r = r := by rw [IntKind.wrap_u8]; omega
    rw [e] at hq
    refine ⟨by omega, br_intro (fun h => by have := of_decide_eq_true h; omega) (fun _ => ⟨by omega, ⟨by omega, by rw [hb]; omega⟩, ?_⟩)⟩
    rw [e2, List.take_length]; exact hq
  · have h := of_decide_eq_false h
    exact ⟨⟨rfl, hr, fun h' => by omega, hB⟩, hq⟩
noncomputable def s26 : Summ := fun args H => match args, H with
  | [.sl 0 1 0 m, .lit (.int .i32 r)], [.row 5 (.int .u8) B] => .need (m = B.length ∧ (-2147483648 ≤ r ∧ r ≤ 2147483647) ∧ B.length ≤ 1000000) (.ret (.sl 1 1 0 (B.length + (enc r).length), [.dead, .row 5 (.int .u8) (B ++ enc r)], []))
  | _, _ => .fail
theorem s26_ok : SummOK Try.prog 26 s26 := by
  refine summ_of_body (fn := Try.f26) (c := Try.f26.body.get!) T1_ok (by kernel_rfl) (by kernel_rfl) (by kernel_rfl) fun args H Q h => ?_
  unfold s26 at h
  split at h
  · rename_i m r B
    simp only [Tree.Leads] at h
    obtain ⟨⟨rfl, h2, h3⟩, hq⟩ := h
    exact ⟨noAn, v26 B r Q h2 h3 hq⟩
  · simp only [Tree.Leads] at h

/-- step, where nothing is half read. -/
theorem v27n (h : ByteArray) (R : List Int) (b : Int) (Q : SV × Heap × List Nat → Prop) (h0 : h = ByteArray.empty) (hb : Byte b) (hR : R.length ≤ 1000000)
    (h1 : (step0 b).1 = [] → Q (.sl 1 1 0 R.length, [.cells 29 [.lit (.string (bsOf (step0 b).2))], .row 21 (.int .i32) R], []))
    (h2 : (step0 b).1 ≠ [] → Q (.sl 2 1 0 (R.length + (step0 b).1.length), [.cells 29 [.lit (.string (bsOf (step0 b).2))], .dead, .row 21 (.int .i32) (R ++ (step0 b).1)], [])) :
    (bodySumm T1 Try.prog Try.f27 noAn [.ptr 0 0, .sl 1 1 0 R.length, .lit (.int .u8 b)] [.cells 29 [.lit (.string h)], .row 21 (.int .i32) R]).Leads Q := by
  subst h0
  refine Sx.by_text (q :=
      Sx.br (T12.wid b == (0 : Int)) ((1 : Nat) ≤ (1 : Nat) ∧ Sx.br (Decidable.decide (List.length R + (1 : Nat) ≤ List.length R)) (Q (Sx.SV.sl (1 : Nat) (1 : Nat) (0 : Nat)
      (List.length R + (1 : Nat)), [Sx.SO.cells (29 : Nat) [Sx.SV.lit (Go.Value.string ByteArray.empty)], Sx.SO.row (21 : Nat) (Sx.Ty.int Go.IntKind.i32) (List.take (List.length
      R) R ++ [(65533 : Int)] ++ List.drop (List.length R + (1 : Nat)) R)], [])) (List.length R ≤ List.length R ∧ ((↑(List.length R + (1 : Nat)) : Int) ≤ (9223372036854775807 :
      Int) ∧ (List.length R + (1 : Nat)) * Sx.bytesOf Go.Proofs.Try.prog (21 : Nat) ≤ (140737488355328 : Nat)) ∧ Q (Sx.SV.sl (2 : Nat) (1 : Nat) (0 : Nat) (List.length R + (1 :
      Nat)), [Sx.SO.cells (29 : Nat) [Sx.SV.lit (Go.Value.string ByteArray.empty)], Sx.SO.dead, Sx.SO.row (21 : Nat) (Sx.Ty.int Go.IntKind.i32) (List.take (List.length R) R ++
      [(65533 : Int)])], []))) (Sx.br (T12.wid b == (1 : Int)) ((1 : Nat) ≤ (1 : Nat) ∧ Sx.br (Decidable.decide (List.length R + (1 : Nat) ≤ List.length R)) (Q (Sx.SV.sl (1 :
      Nat) (1 : Nat) (0 : Nat) (List.length R + (1 : Nat)), [Sx.SO.cells (29 : Nat) [Sx.SV.lit (Go.Value.string ByteArray.empty)], Sx.SO.row (21 : Nat) (Sx.Ty.int
      Go.IntKind.i32) (List.take (List.length R) R ++ [Go.IntKind.wrap Go.IntKind.i32 b] ++ List.drop (List.length R + (1 : Nat)) R)], [])) (List.length R ≤ List.length R ∧
      ((↑(List.length R + (1 : Nat)) : Int) ≤ (9223372036854775807 : Int) ∧ (List.length R + (1 : Nat)) * Sx.bytesOf Go.Proofs.Try.prog (21 : Nat) ≤ (140737488355328 : Nat)) ∧ Q
      (Sx.SV.sl (2 : Nat) (1 : Nat) (0 : Nat) (List.length R + (1 : Nat)), [Sx.SO.cells (29 : Nat) [Sx.SV.lit (Go.Value.string ByteArray.empty)], Sx.SO.dead, Sx.SO.row (21 :
      Nat) (Sx.Ty.int Go.IntKind.i32) (List.take (List.length R) R ++ [Go.IntKind.wrap Go.IntKind.i32 b])], []))) ((1 : Nat) ≤ (1 : Nat) ∧ Q (Sx.SV.sl (1 : Nat) (1 : Nat) (0 :
      Nat) (List.length R), [Sx.SO.cells (29 : Nat) [Sx.SV.lit (Go.Value.string (Sx.bsOf [b]))], Sx.SO.row (21 : Nat) (Sx.Ty.int Go.IntKind.i32) R], [])))) (by kernel_rfl) ?_
  have hbs : bytesOf Try.prog 21 = 4 := by kernel_rfl
  have hw : IntKind.i32.wrap b = b := by have := hb.1; have := hb.2; rw [IntKind.wrap_i32]; omega
  rw [hw, List.take_length]
  refine br_intro (fun g => ?_) (fun g => br_intro (fun g' => ?_) (fun g' => ?_))
  · have g : wid b = 0 := eq_of_beq g
    have e : step0 b = ([65533], []) := by unfold step0; rw [if_pos g]
    rw [e] at h2
    refine ⟨by omega, br_intro (fun h => by have := of_decide_eq_true h; omega) (fun _ => ⟨by omega, ⟨by omega, by rw [hbs]; omega⟩, ?_⟩)⟩
    exact h2 (by simp)
  · have g := ne_of_beq_false g
    have g' : wid b = 1 := eq_of_beq g'
    have e : step0 b = ([b], []) := by unfold step0; rw [if_neg g, if_pos g']
    rw [e] at h2
    refine ⟨by omega, br_intro (fun h => by have := of_decide_eq_true h; omega) (fun _ => ⟨by omega, ⟨by omega, by rw [hbs]; omega⟩, ?_⟩)⟩
    exact h2 (by simp)
  · have g := ne_of_beq_false g
    have g' := ne_of_beq_false g'
    have e : step0 b = ([], [b]) := by unfold step0; rw [if_neg g, if_neg g']
    rw [e] at h1
    exact ⟨by omega, h1 rfl⟩
noncomputable def s27n : Summ := fun args H => match args, H with
  | [.ptr 0 0, .sl 1 1 0 m, .lit (.int .u8 b)], [.cells 29 [.lit (.string h)], .row 21 (.int .i32) R] => .need (m = R.length ∧ h = ByteArray.empty ∧ Byte b ∧ R.length ≤ 1000000) (.ite ((step0 b).1.isEmpty)
      (.ret (.sl 1 1 0 R.length, [.cells 29 [.lit (.string (bsOf (step0 b).2))], .row 21 (.int .i32) R], []))
      (.ret (.sl 2 1 0 (R.length + (step0 b).1.length), [.cells 29 [.lit (.string (bsOf (step0 b).2))], .dead, .row 21 (.int .i32) (R ++ (step0 b).1)], [])))
  | _, _ => .fail
theorem s27n_ok : SummOK Try.prog 27 s27n := by
  refine summ_of_body (fn := Try.f27) (c := Try.f27.body.get!) T1_ok (by kernel_rfl) (by kernel_rfl) (by kernel_rfl) fun args H Q h => ?_
  unfold s27n at h
  split at h
  · rename_i m b h' R
    simp only [Tree.Leads] at h
    obtain ⟨⟨rfl, h2, h3, h4⟩, hq⟩ := h
    have hq := br_iff.1 hq
    exact ⟨noAn, v27n h' R b Q h2 h3 h4 (fun e => hq.1 (by rw [e]; rfl)) (fun e => hq.2 (by cases hh : (step0 b).1 with
      | nil => exact absurd hh e
      | cons x y => rfl))⟩
  · simp only [Tree.Leads] at h
noncomputable def T2 : Table := T1.add 27 (.go s27n)
theorem T2_ok : TableOK Try.prog T2 := add_ok T1_ok s27n_ok
theorem v27 (h : ByteArray) (R : List Int) (b : Int) (Q : SV × Heap × List Nat → Prop) (hg : Good (strInts h)) (hb : Byte b) (hR : R.length < 1000000)
    (h1 : (step (strInts h) b).1 = [] → Q (.sl 1 1 0 R.length, [.cells 29 [.lit (.string (bsOf (step (strInts h) b).2))], .row 21 (.int .i32) R], []))
    (h2 : (step (strInts h) b).1 ≠ [] → Q (.sl 2 1 0 (R.length + (step (strInts h) b).1.length), [.cells 29 [.lit (.string (bsOf (step (strInts h) b).2))], .dead, .row 21 (.int .i32) (R ++ (step (strInts h) b).1)], [])) :
    (bodySumm T2 Try.prog Try.f27 noAn [.ptr 0 0, .sl 1 1 0 R.length, .lit (.int .u8 b)] [.cells 29 [.lit (.string h)], .row 21 (.int .i32) R]).Leads Q := by
  refine Sx.by_text (q :=
      Sx.br (h == { data := #[] }) (Sx.br (T12.wid b == (0 : Int)) ((1 : Nat) ≤ (1 : Nat) ∧ Sx.br (Decidable.decide (List.length R + (1 : Nat) ≤ List.length R)) (Q (Sx.SV.sl (1
      : Nat) (1 : Nat) (0 : Nat) (List.length R + (1 : Nat)), [Sx.SO.cells (29 : Nat) [Sx.SV.lit (Go.Value.string h)], Sx.SO.row (21 : Nat) (Sx.Ty.int Go.IntKind.i32) (List.take
      (List.length R) R ++ [(65533 : Int)] ++ List.drop (List.length R + (1 : Nat)) R)], [])) (List.length R ≤ List.length R ∧ ((↑(List.length R + (1 : Nat)) : Int) ≤
      (9223372036854775807 : Int) ∧ (List.length R + (1 : Nat)) * Sx.bytesOf Go.Proofs.Try.prog (21 : Nat) ≤ (140737488355328 : Nat)) ∧ Q (Sx.SV.sl (2 : Nat) (1 : Nat) (0 : Nat)
      (List.length R + (1 : Nat)), [Sx.SO.cells (29 : Nat) [Sx.SV.lit (Go.Value.string h)], Sx.SO.dead, Sx.SO.row (21 : Nat) (Sx.Ty.int Go.IntKind.i32) (List.take (List.length
      R) R ++ [(65533 : Int)])], []))) (Sx.br (T12.wid b == (1 : Int)) ((1 : Nat) ≤ (1 : Nat) ∧ Sx.br (Decidable.decide (List.length R + (1 : Nat) ≤ List.length R)) (Q (Sx.SV.sl
      (1 : Nat) (1 : Nat) (0 : Nat) (List.length R + (1 : Nat)), [Sx.SO.cells (29 : Nat) [Sx.SV.lit (Go.Value.string h)], Sx.SO.row (21 : Nat) (Sx.Ty.int Go.IntKind.i32)
      (List.take (List.length R) R ++ [Go.IntKind.wrap Go.IntKind.i32 b] ++ List.drop (List.length R + (1 : Nat)) R)], [])) (List.length R ≤ List.length R ∧ ((↑(List.length R +
      (1 : Nat)) : Int) ≤ (9223372036854775807 : Int) ∧ (List.length R + (1 : Nat)) * Sx.bytesOf Go.Proofs.Try.prog (21 : Nat) ≤ (140737488355328 : Nat)) ∧ Q (Sx.SV.sl (2 : Nat)
      (1 : Nat) (0 : Nat) (List.length R + (1 : Nat)), [Sx.SO.cells (29 : Nat) [Sx.SV.lit (Go.Value.string h)], Sx.SO.dead, Sx.SO.row (21 : Nat) (Sx.Ty.int Go.IntKind.i32)
      (List.take (List.length R) R ++ [Go.IntKind.wrap Go.IntKind.i32 b])], []))) ((1 : Nat) ≤ (1 : Nat) ∧ Q (Sx.SV.sl (1 : Nat) (1 : Nat) (0 : Nat) (List.length R),
      [Sx.SO.cells (29 : Nat) [Sx.SV.lit (Go.Value.string (Sx.bsOf [b]))], Sx.SO.row (21 : Nat) (Sx.Ty.int Go.IntKind.i32) R], [])))) (Sx.br (!T12.may (Sx.strInts h) b) ((1 :
      Nat) ≤ (1 : Nat) ∧ Sx.br (Decidable.decide (List.length R + (1 : Nat) ≤ List.length R)) ((List.length R + (1 : Nat) = List.length (List.take (List.length R) R ++ [(65533 :
      Int)] ++ List.drop (List.length R + (1 : Nat)) R) ∧ { data := #[] } = ByteArray.empty ∧ ((0 : Int) ≤ b ∧ b ≤ (255 : Int)) ∧ List.length (List.take (List.length R) R ++
      [(65533 : Int)] ++ List.drop (List.length R + (1 : Nat)) R) ≤ (1000000 : Nat)) ∧ Sx.br (List.isEmpty (Prod.fst (T12.step0 b))) (Q (Sx.SV.sl (1 : Nat) (1 : Nat) (0 : Nat)
      (List.length (List.take (List.length R) R ++ [(65533 : Int)] ++ List.drop (List.length R + (1 : Nat)) R)), [Sx.SO.cells (29 : Nat) [Sx.SV.lit (Go.Value.string (Sx.bsOf
      (Prod.snd (T12.step0 b))))], Sx.SO.row (21 : Nat) (Sx.Ty.int Go.IntKind.i32) (List.take (List.length R) R ++ [(65533 : Int)] ++ List.drop (List.length R + (1 : Nat)) R)],
      [])) (Q (Sx.SV.sl (2 : Nat) (1 : Nat) (0 : Nat) (List.length (List.take (List.length R) R ++ [(65533 : Int)] ++ List.drop (List.length R + (1 : Nat)) R) + List.length
      (Prod.fst (T12.step0 b))), [Sx.SO.cells (29 : Nat) [Sx.SV.lit (Go.Value.string (Sx.bsOf (Prod.snd (T12.step0 b))))], Sx.SO.dead, Sx.SO.row (21 : Nat) (Sx.Ty.int
      Go.IntKind.i32) (List.take (List.length R) R ++ [(65533 : Int)] ++ List.drop (List.length R + (1 : Nat)) R ++ Prod.fst (T12.step0 b))], []))) (List.length R ≤ List.length
      R ∧ ((↑(List.length R + (1 : Nat)) : Int) ≤ (9223372036854775807 : Int) ∧ (List.length R + (1 : Nat)) * Sx.bytesOf Go.Proofs.Try.prog (21 : Nat) ≤ (140737488355328 : Nat))
      ∧ (List.length R + (1 : Nat) = List.length (List.take (List.length R) R ++ [(65533 : Int)]) ∧ { data := #[] } = ByteArray.empty ∧ ((0 : Int) ≤ b ∧ b ≤ (255 : Int)) ∧
      List.length (List.take (List.length R) R ++ [(65533 : Int)]) ≤ (1000000 : Nat)) ∧ Sx.br (List.isEmpty (Prod.fst (T12.step0 b))) (Q (Sx.SV.sl (2 : Nat) (1 : Nat) (0 : Nat)
      (List.length (List.take (List.length R) R ++ [(65533 : Int)])), [Sx.SO.cells (29 : Nat) [Sx.SV.lit (Go.Value.string (Sx.bsOf (Prod.snd (T12.step0 b))))], Sx.SO.dead,
      Sx.SO.row (21 : Nat) (Sx.Ty.int Go.IntKind.i32) (List.take (List.length R) R ++ [(65533 : Int)])], [])) (Q (Sx.SV.sl (2 : Nat) (1 : Nat) (0 : Nat) (List.length (List.take
      (List.length R) R ++ [(65533 : Int)]) + List.length (Prod.fst (T12.step0 b))), [Sx.SO.cells (29 : Nat) [Sx.SV.lit (Go.Value.string (Sx.bsOf (Prod.snd (T12.step0 b))))],
      Sx.SO.dead, Sx.SO.row (21 : Nat) (Sx.Ty.int Go.IntKind.i32) (List.take (List.length R) R ++ [(65533 : Int)] ++ Prod.fst (T12.step0 b))], [])))) ((1 : Nat) ≤ (1 : Nat) ∧
      (↑(ByteArray.size h + ByteArray.size (Sx.bsOf [b])) : Int) ≤ (9223372036854775807 : Int) ∧ ((0 : Int) ≤ (0 : Int) ∧ (0 : Int) < (↑(ByteArray.size (h ++ Sx.bsOf [b])) :
      Int)) ∧ ∀ (b_1 : Bool), True → Sx.br b_1 (Sx.br (Decidable.decide ((↑(ByteArray.size (h ++ Sx.bsOf [b])) : Int) < T12.wid (Sx.byteAt (h ++ Sx.bsOf [b]) (0 : Int)))) (Q
      (Sx.SV.sl (1 : Nat) (1 : Nat) (0 : Nat) (List.length R), [Sx.SO.cells (29 : Nat) [Sx.SV.lit (Go.Value.string (h ++ Sx.bsOf [b]))], Sx.SO.row (21 : Nat) (Sx.Ty.int
      Go.IntKind.i32) R], [])) (((2 : Nat) ≤ ByteArray.size (h ++ Sx.bsOf [b]) ∧ ByteArray.size (h ++ Sx.bsOf [b]) ≤ (4 : Nat)) ∧ (1 : Nat) ≤ (1 : Nat) ∧ Sx.br (Decidable.decide
      (List.length R + (1 : Nat) ≤ List.length R)) (Q (Sx.SV.sl (1 : Nat) (1 : Nat) (0 : Nat) (List.length R + (1 : Nat)), [Sx.SO.cells (29 : Nat) [Sx.SV.lit (Go.Value.string {
      data := #[] })], Sx.SO.row (21 : Nat) (Sx.Ty.int Go.IntKind.i32) (List.take (List.length R) R ++ [T12.whole (Sx.strInts (h ++ Sx.bsOf [b]))] ++ List.drop (List.length R +
      (1 : Nat)) R)], [])) (List.length R ≤ List.length R ∧ ((↑(List.length R + (1 : Nat)) : Int) ≤ (9223372036854775807 : Int) ∧ (List.length R + (1 : Nat)) * Sx.bytesOf
      Go.Proofs.Try.prog (21 : Nat) ≤ (140737488355328 : Nat)) ∧ Q (Sx.SV.sl (2 : Nat) (1 : Nat) (0 : Nat) (List.length R + (1 : Nat)), [Sx.SO.cells (29 : Nat) [Sx.SV.lit
      (Go.Value.string { data := #[] })], Sx.SO.dead, Sx.SO.row (21 : Nat) (Sx.Ty.int Go.IntKind.i32) (List.take (List.length R) R ++ [T12.whole (Sx.strInts (h ++ Sx.bsOf
      [b]))])], [])))) (Sx.br (Decidable.decide ((↑(ByteArray.size (h ++ Sx.bsOf [b])) : Int) < T12.wid (Sx.byteAt (h ++ Sx.bsOf [b]) (0 : Int)))) (Q (Sx.SV.sl (1 : Nat) (1 :
      Nat) (0 : Nat) (List.length R), [Sx.SO.cells (29 : Nat) [Sx.SV.lit (Go.Value.string (h ++ Sx.bsOf [b]))], Sx.SO.row (21 : Nat) (Sx.Ty.int Go.IntKind.i32) R], [])) (((2 :
      Nat) ≤ ByteArray.size (h ++ Sx.bsOf [b]) ∧ ByteArray.size (h ++ Sx.bsOf [b]) ≤ (4 : Nat)) ∧ (1 : Nat) ≤ (1 : Nat) ∧ Sx.br (Decidable.decide (List.length R + (1 : Nat) ≤
      List.length R)) (Q (Sx.SV.sl (1 : Nat) (1 : Nat) (0 : Nat) (List.length R + (1 : Nat)), [Sx.SO.cells (29 : Nat) [Sx.SV.lit (Go.Value.string { data := #[] })], Sx.SO.row
      (21 : Nat) (Sx.Ty.int Go.IntKind.i32) (List.take (List.length R) R ++ [T12.whole (Sx.strInts (h ++ Sx.bsOf [b]))] ++ List.drop (List.length R + (1 : Nat)) R)], []))
      (List.length R ≤ List.length R ∧ ((↑(List.length R + (1 : Nat)) : Int) ≤ (9223372036854775807 : Int) ∧ (List.length R + (1 : Nat)) * Sx.bytesOf Go.Proofs.Try.prog (21 :
      Nat) ≤ (140737488355328 : Nat)) ∧ Q (Sx.SV.sl (2 : Nat) (1 : Nat) (0 : Nat) (List.length R + (1 : Nat)), [Sx.SO.cells (29 : Nat) [Sx.SV.lit (Go.Value.string { data := #[]
      })], Sx.SO.dead, Sx.SO.row (21 : Nat) (Sx.Ty.int Go.IntKind.i32) (List.take (List.length R) R ++ [T12.whole (Sx.strInts (h ++ Sx.bsOf [b]))])], []))))))) (by kernel_rfl) ?_
  have hbs : bytesOf Try.prog 21 = 4 := by kernel_rfl
  have hw : IntKind.i32.wrap b = b := by have := hb.1; have := hb.2; rw [IntKind.wrap_i32]; omega
  have h64 : ∀ n : Nat, n ≤ 2000000 → ((n : Nat) : Int) ≤ 9223372036854775807 := fun n hn => by omega
  simp only [hw, List.take_length, List.length_append, List.length_cons, List.length_nil]
  refine br_intro (fun g => ?_) (fun g => ?_)
  · have g : h = ByteArray.empty := (bytes_beq _ _).1 g
    subst g
    have e0 : strInts ByteArray.empty = [] := rfl
    rw [e0] at h1 h2
    simp only [step] at h1 h2
    refine br_intro (fun g => ?_) (fun g => br_intro (fun g' => ?_) (fun g' => ?_))
    · have g : wid b = 0 := eq_of_beq g
      have e : step0 b = ([65533], []) := by unfold step0; rw [if_pos g]
      rw [e] at h2
      refine ⟨by omega, br_intro (fun h => by have := of_decide_eq_true h; omega) (fun _ => ⟨by omega, ⟨by omega, by rw [hbs]; omega⟩, ?_⟩)⟩
      exact h2 (by simp)
    · have g := ne_of_beq_false g
      have g' : wid b = 1 := eq_of_beq g'
      have e : step0 b = ([b], []) := by unfold step0; rw [if_neg g, if_pos g']
      rw [e] at h2
      refine ⟨by omega, br_intro (fun h => by have := of_decide_eq_true h; omega) (fun _ => ⟨by omega, ⟨by omega, by rw [hbs]; omega⟩, ?_⟩)⟩
      exact h2 (by simp)
    · have g := ne_of_beq_false g
      have g' := ne_of_beq_false g'
      have e : step0 b = ([], [b]) := by unfold step0; rw [if_neg g, if_neg g']
      rw [e] at h1
      exact ⟨by omega, h1 rfl⟩
  · have hne : strInts h ≠ [] := fun e => by
      have e2 : h = ByteArray.empty := by rw [← bsOf_strInts h, e]; rfl
      rw [e2] at g; exact absurd g (by rw [show ByteArray.empty = ({ data := #[] } : ByteArray) from rfl, bytes_self]; decide)
    have hb1 : ∀ x ∈ [b], Byte x := fun x hx => by simp at hx; subst hx; exact hb
    have hh2 : strInts (h ++ bsOf [b]) = strInts h ++ [b] := by rw [strInts_append, strInts_bsOf hb1]
    have hh3 : h ++ bsOf [b] = bsOf (strInts h ++ [b]) := by rw [← hh2, bsOf_strInts]
    have hsz : (h ++ bsOf [b]).size = h.size + 1 := by rw [← strInts_size, hh2, List.length_append, strInts_size]; rfl
    have hbz : (bsOf [b]).size = 1 := rfl
    have hh4 := strInts_size h
    have hh5 := good_len hg
    rw [hh2, hsz, hbz]
    have e4 : byteAt (h ++ bsOf [b]) 0 = (strInts h ++ [b]).getD 0 0 := by rw [byteAt_eq, hh2]; rfl
    rw [e4, hh3]
    generalize strInts h = l at *
    match l, hne with
    | c :: r, _ =>
      simp only [List.length_cons] at hh4 hh5
      simp only [List.cons_append, List.getD_cons_zero] at *
      refine br_intro (fun g => ?_) (fun g => ?_)
      · have g : may (c :: r) b = false := by simpa using g
        have e : step (c :: r) b = (65533 :: (step0 b).1, (step0 b).2) := by simp only [step]; rw [if_neg (by simp [g])]
        rw [e] at h1 h2
        refine ⟨by omega, br_intro (fun h => by have := of_decide_eq_true h; omega) (fun _ => ⟨by omega, ⟨by omega, by rw [hbs]; omega⟩, ⟨trivial, rfl, hb, ?_⟩, ?_⟩)⟩
        · omega
        · refine br_intro (fun h => ?_) (fun h => ?_)
          · have h : (step0 b).1 = [] := by simpa using h
            rw [h] at h2
            exact h2 (by simp)
          · have h2 := h2 (by simp)
            rw [List.append_assoc]
            have e3 : R.length + (65533 :: (step0 b).fst).length = R.length + (0 + 1) + (step0 b).fst.length := by rw [List.length_cons]; omega
            rw [e3] at h2
            exact h2
      · have g : may (c :: r) b = true := by simpa using g
        refine ⟨by omega, by omega, by omega, fun b1 _ => ?_⟩
        have hwd : ((h.size + 1 : Nat) : Int) < wid c ↔ ((r.length + 2 : Nat) : Int) < wid c := by rw [← hh4]
        refine br_intro (fun _ => ?_) (fun _ => ?_)
        all_goals refine br_intro (fun g' => ?_) (fun g' => ?_)
        all_goals simp only [decide_eq_true_eq, decide_eq_false_iff_not, hwd] at g'
        all_goals first | (rw [step_more g g'] at h1; exact h1 rfl) | skip
        all_goals rw [step_last g g'] at h2
        all_goals refine ⟨by omega, by omega, br_intro (fun h => by have := of_decide_eq_true h; omega) (fun _ => ⟨by omega, ⟨by omega, by rw [hbs]; omega⟩, ?_⟩)⟩
        all_goals exact h2 (by simp)
noncomputable def s27 : Summ := fun args H => match args, H with
  | [.ptr 0 0, .sl 1 1 0 m, .lit (.int .u8 b)], [.cells 29 [.lit (.string h)], .row 21 (.int .i32) R] => .need (m = R.length ∧ Good (strInts h) ∧ Byte b ∧ R.length < 1000000) (.ite ((step (strInts h) b).1.isEmpty)
      (.ret (.sl 1 1 0 R.length, [.cells 29 [.lit (.string (bsOf (step (strInts h) b).2))], .row 21 (.int .i32) R], []))
      (.ret (.sl 2 1 0 (R.length + (step (strInts h) b).1.length), [.cells 29 [.lit (.string (bsOf (step (strInts h) b).2))], .dead, .row 21 (.int .i32) (R ++ (step (strInts h) b).1)], [])))
  | _, _ => .fail
theorem s27_ok : SummOK Try.prog 27 s27 := by
  refine summ_of_body (fn := Try.f27) (c := Try.f27.body.get!) T2_ok (by kernel_rfl) (by kernel_rfl) (by kernel_rfl) fun args H Q h => ?_
  unfold s27 at h
  split at h
  · rename_i m b h' R
    simp only [Tree.Leads] at h
    obtain ⟨⟨rfl, h2, h3, h4⟩, hq⟩ := h
    have hq := br_iff.1 hq
    exact ⟨noAn, v27 h' R b Q h2 h3 h4 (fun e => hq.1 (by rw [e]; rfl)) (fun e => hq.2 (by cases hh : (step (strInts h') b).1 with
      | nil => exact absurd hh e
      | cons x y => rfl))⟩
  · simp only [Tree.Leads] at h
noncomputable def T3 : Table := (T1.add 27 (.go s27)).add 26 (.go s26)
theorem T3_ok : TableOK Try.prog T3 := add_ok (add_ok T1_ok s27_ok) s26_ok
end T12
