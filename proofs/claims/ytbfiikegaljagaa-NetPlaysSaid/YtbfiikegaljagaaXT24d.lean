/- Part of a proof: the walk of the functions that the law calls. -/
import Derived.Test.YtbfiikegaljagaaXT24c
set_option linter.unusedVariables false
open Go Sx Go.Proofs
namespace T24
set_option maxRecDepth 100000
set_option maxHeartbeats 1000000
attribute [local irreducible] Tree.Leads
/-- Copy, where there is room. -/
theorem v7 (R : List pty.den) (k n : Int) (Q : SV × Heap × List Nat → Prop) (hm : R.length < 200)
    (hin : 0 ≤ k → k < (R.length : Int) → Q (.lit (.bool true), [.cells 34 [.sl 1 3 0 (R.length + 1), .lit (.int .i64 n)], .row 37 pty (R ++ [R.getD k.toNat pty.dflt])], [1]))
    (hout : (k < 0 ∨ (R.length : Int) ≤ k) → Q (.lit (.bool false), [.cells 34 [.sl 1 3 0 R.length, .lit (.int .i64 n)], .row 37 pty R], [])) :
    (bodySumm U3 Try.prog Try.f7 noAn [.ptr 0 0, .lit (.int .i64 k)] [.cells 34 [.sl 1 3 0 R.length, .lit (.int .i64 n)], .row 37 pty R]).Leads Q := by
  refine Sx.by_text (q :=
      br (decide (k < (0 : Int))) (Q (SV.lit (Value.bool false), [SO.cells (34 : Nat) [SV.sl (1 : Nat) (3 : Nat) (0 : Nat) (List.length R), SV.lit (Value.int IntKind.i64 n)],
      SO.row (37 : Nat) (Ty.pair (Ty.int IntKind.i64) (Ty.pair (Ty.int IntKind.i64) Ty.str)) R], [])) (br (decide (k ≥ (↑(List.length R) : Int))) (Q (SV.lit (Value.bool false),
      [SO.cells (34 : Nat) [SV.sl (1 : Nat) (3 : Nat) (0 : Nat) (List.length R), SV.lit (Value.int IntKind.i64 n)], SO.row (37 : Nat) (Ty.pair (Ty.int IntKind.i64) (Ty.pair
      (Ty.int IntKind.i64) Ty.str)) R], [])) (((0 : Int) ≤ k ∧ k < (↑(List.length R) : Int)) ∧ (0 : Nat) + Int.toNat k < List.length R ∧ br (decide ((↑(List.length R) : Int) ≥
      (200 : Int))) (Q (SV.lit (Value.bool false), [SO.cells (34 : Nat) [SV.sl (1 : Nat) (3 : Nat) (0 : Nat) (List.length R), SV.lit (Value.int IntKind.i64 n)], SO.row (37 :
      Nat) (Ty.pair (Ty.int IntKind.i64) (Ty.pair (Ty.int IntKind.i64) Ty.str)) R], [])) ((1 : Nat) ≤ (1 : Nat) ∧ br (decide (List.length R + (1 : Nat) ≤ List.length R)) (Q
      (SV.lit (Value.bool true), [SO.cells (34 : Nat) [SV.sl (1 : Nat) (3 : Nat) (0 : Nat) (List.length R + (1 : Nat)), SV.lit (Value.int IntKind.i64 n)], SO.row (37 : Nat)
      (Ty.pair (Ty.int IntKind.i64) (Ty.pair (Ty.int IntKind.i64) Ty.str)) (List.take (List.length R) R ++ [(Prod.fst (List.getD R ((0 : Nat) + Int.toNat k) (Ty.dflt T24.pty)),
      Prod.fst (Prod.snd (List.getD R ((0 : Nat) + Int.toNat k) (Ty.dflt T24.pty))), Prod.snd (Prod.snd (List.getD R ((0 : Nat) + Int.toNat k) (Ty.dflt T24.pty))))] ++ List.drop
      (List.length R + (1 : Nat)) R)], [])) (List.length R ≤ List.length R ∧ ((↑(List.length R + (1 : Nat)) : Int) ≤ (9223372036854775807 : Int) ∧ (List.length R + (1 : Nat)) *
      Sx.bytesOf Go.Proofs.Try.prog (37 : Nat) ≤ (140737488355328 : Nat)) ∧ Q (SV.lit (Value.bool true), [SO.cells (34 : Nat) [SV.sl (1 : Nat) (3 : Nat) (0 : Nat) (List.length R
      + (1 : Nat)), SV.lit (Value.int IntKind.i64 n)], SO.row (37 : Nat) (Ty.pair (Ty.int IntKind.i64) (Ty.pair (Ty.int IntKind.i64) Ty.str)) (List.take (List.length R) R ++
      [(Prod.fst (List.getD R ((0 : Nat) + Int.toNat k) (Ty.dflt T24.pty)), Prod.fst (Prod.snd (List.getD R ((0 : Nat) + Int.toNat k) (Ty.dflt T24.pty))), Prod.snd (Prod.snd
      (List.getD R ((0 : Nat) + Int.toNat k) (Ty.dflt T24.pty))))])], [(1 : Nat)])))))) (by kernel_rfl) ?_
  have hb : bytesOf Try.prog 37 = 32 := by kernel_rfl
  have e2 : List.take R.length R = R := List.take_length
  refine br_intro (fun h => hout (.inl (of_decide_eq_true h))) (fun h => br_intro (fun h' => hout (.inr (of_decide_eq_true h'))) (fun h' => ?_))
  have h := of_decide_eq_false h
  have h' := of_decide_eq_false h'
  refine ⟨by omega, by omega, br_intro (fun g => ?_) (fun _ => ⟨by omega, br_intro (fun g => ?_) (fun _ => ⟨by omega, by rw [hb]; omega, ?_⟩)⟩)⟩
  · have g := of_decide_eq_true g; omega
  · have g := of_decide_eq_true g; omega
  · rw [e2, Nat.zero_add]; exact hin (by omega) (by omega)
noncomputable def s6 : Summ := fun args H => match args, H with
  | [.ptr 0 0, .sl 1 3 0 1], [.cells 34 [.sl 2 3 0 m, .lit (.int .i64 n)], .row 37 (.pair (.int .i64) (.pair (.int .i64) .str)) [(f, t, s)], .row 37 (.pair (.int .i64) (.pair (.int .i64) .str)) R] =>
    .need (m = R.length ∧ m < 200 ∧ s.size ≤ 20100) (.ret (.lit (.int .i64 ((R.length + 1 : Nat) : Int)), [.cells 34 [.sl 2 3 0 (R.length + 1), .lit (.int .i64 (IntKind.i64.wrap (n + 1)))], .row 37 pty [(f, t, s)], .row 37 pty (R ++ [(f, t, s)])], [2]))
  | _, _ => .fail
theorem s6_ok : SummOK Try.prog 6 s6 := by
  refine summ_of_body (fn := Try.f6) (c := Try.f6.body.get!) U3_ok (by kernel_rfl) (by kernel_rfl) (by kernel_rfl) fun args H Q h => ?_
  unfold s6 at h
  split at h
  · rename_i m n f t s R
    simp only [Tree.Leads] at h
    obtain ⟨⟨rfl, h2, h3⟩, hq⟩ := h
    exact ⟨noAn, v6 R f t n s Q h2 h3 hq⟩
  · simp only [Tree.Leads] at h
noncomputable def s8 : Summ := fun args H => match args, H with
  | [.ptr 0 0, .lit (.int .i64 k)], [.cells 34 [.sl 1 3 0 m, .lit (.int .i64 n)], .row 37 (.pair (.int .i64) (.pair (.int .i64) .str)) R] =>
    .need (m ≤ R.length ∧ m ≤ 1000000) (.ite (decide (0 ≤ k ∧ k < (m : Int)))
      (.ret (.tup [.agg (pty.cells (R.getD k.toNat pty.dflt)), .lit (.bool true)], [.cells 34 [.sl 1 3 0 (m - 1), .lit (.int .i64 n)], .row 37 pty (delAt R m k.toNat)], []))
      (.ret (.tup [.agg (pty.cells pz), .lit (.bool false)], [.cells 34 [.sl 1 3 0 m, .lit (.int .i64 n)], .row 37 pty R], [])))
  | _, _ => .fail
theorem s8_ok : SummOK Try.prog 8 s8 := by
  refine summ_of_body (fn := Try.f8) (c := Try.f8.body.get!) U3_ok (by kernel_rfl) (by kernel_rfl) (by kernel_rfl) fun args H Q h => ?_
  unfold s8 at h
  split at h
  · rename_i k m n R
    simp only [Tree.Leads] at h
    obtain ⟨⟨h1, h2⟩, hq⟩ := h
    by_cases hk : 0 ≤ k ∧ k < (m : Int)
    · have hq := (br_iff.1 hq).1 (by simpa using hk)
      obtain ⟨k', rfl⟩ : ∃ k' : Nat, k = k' := ⟨k.toNat, by omega⟩
      exact ⟨noAn, v8 R m k' n Q (by omega) h1 h2 hq⟩
    · have hq := (br_iff.1 hq).2 (decide_eq_false hk)
      exact ⟨noAn, v8n R m k n Q (by omega) hq⟩
  · simp only [Tree.Leads] at h
noncomputable def s7 : Summ := fun args H => match args, H with
  | [.ptr 0 0, .lit (.int .i64 k)], [.cells 34 [.sl 1 3 0 m, .lit (.int .i64 n)], .row 37 (.pair (.int .i64) (.pair (.int .i64) .str)) R] =>
    .need (m = R.length ∧ R.length < 200) (.ite (decide (0 ≤ k ∧ k < (R.length : Int)))
      (.ret (.lit (.bool true), [.cells 34 [.sl 1 3 0 (R.length + 1), .lit (.int .i64 n)], .row 37 pty (R ++ [R.getD k.toNat pty.dflt])], [1]))
      (.ret (.lit (.bool false), [.cells 34 [.sl 1 3 0 R.length, .lit (.int .i64 n)], .row 37 pty R], [])))
  | _, _ => .fail
theorem s7_ok : SummOK Try.prog 7 s7 := by
  refine summ_of_body (fn := Try.f7) (c := Try.f7.body.get!) U3_ok (by kernel_rfl) (by kernel_rfl) (by kernel_rfl) fun args H Q h => ?_
  unfold s7 at h
  split at h
  · rename_i k m n R
    simp only [Tree.Leads] at h
    obtain ⟨⟨rfl, h2⟩, hq⟩ := h
    exact ⟨noAn, v7 R k n Q h2 (fun a b => (br_iff.1 hq).1 (decide_eq_true ⟨a, b⟩)) (fun a => (br_iff.1 hq).2 (decide_eq_false (by omega)))⟩
  · simp only [Tree.Leads] at h
end T24
