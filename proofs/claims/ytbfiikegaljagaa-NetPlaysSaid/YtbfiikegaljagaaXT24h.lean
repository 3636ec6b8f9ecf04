/- Part of a proof: the walk of the functions that the law calls. -/
import Derived.Test.YtbfiikegaljagaaSxT
import Derived.Test.YtbfiikegaljagaaXT24g
set_option linter.unusedVariables false
open Go Sx Go.Proofs
namespace T24
set_option maxRecDepth 100000
set_option maxHeartbeats 4000000
attribute [local irreducible] Tree.Leads
/-- Copy, whatever room there is. -/
theorem v7g (R : List pty.den) (m : Nat) (k n : Int) (Q : SV × Heap × List Nat → Prop) (hm : m ≤ R.length) (hR : R.length ≤ 200)
    (hin : 0 ≤ k → k < (m : Int) → m < 200 → ∀ R' : List pty.den, R'.length ≤ 200 → m + 1 ≤ R'.length → R'.take (m + 1) = R.take m ++ [R.getD k.toNat pty.dflt] → ∀ mv, mv = [1] ∨ mv = [] → Q (.lit (.bool true), [.cells 34 [.sl 1 3 0 (m + 1), .lit (.int .i64 n)], .row 37 pty R'], mv))
    (hout : ¬ (0 ≤ k ∧ k < (m : Int) ∧ m < 200) → Q (.lit (.bool false), [.cells 34 [.sl 1 3 0 m, .lit (.int .i64 n)], .row 37 pty R], [])) :
    (bodySumm U3 Try.prog Try.f7 noAn [.ptr 0 0, .lit (.int .i64 k)] [.cells 34 [.sl 1 3 0 m, .lit (.int .i64 n)], .row 37 pty R]).Leads Q := by
  refine Sx.by_text (q :=
      br (decide (k < (0 : Int))) (Q (SV.lit (Value.bool false), [SO.cells (34 : Nat) [SV.sl (1 : Nat) (3 : Nat) (0 : Nat) m, SV.lit (Value.int IntKind.i64 n)], SO.row (37 :
      Nat) (Ty.pair (Ty.int IntKind.i64) (Ty.pair (Ty.int IntKind.i64) Ty.str)) R], [])) (br (decide (k ≥ (↑m : Int))) (Q (SV.lit (Value.bool false), [SO.cells (34 : Nat) [SV.sl
      (1 : Nat) (3 : Nat) (0 : Nat) m, SV.lit (Value.int IntKind.i64 n)], SO.row (37 : Nat) (Ty.pair (Ty.int IntKind.i64) (Ty.pair (Ty.int IntKind.i64) Ty.str)) R], [])) (((0 :
      Int) ≤ k ∧ k < (↑m : Int)) ∧ (0 : Nat) + Int.toNat k < List.length R ∧ br (decide ((↑m : Int) ≥ (200 : Int))) (Q (SV.lit (Value.bool false), [SO.cells (34 : Nat) [SV.sl (1
      : Nat) (3 : Nat) (0 : Nat) m, SV.lit (Value.int IntKind.i64 n)], SO.row (37 : Nat) (Ty.pair (Ty.int IntKind.i64) (Ty.pair (Ty.int IntKind.i64) Ty.str)) R], [])) ((1 : Nat)
      ≤ (1 : Nat) ∧ br (decide (m + (1 : Nat) ≤ List.length R)) (Q (SV.lit (Value.bool true), [SO.cells (34 : Nat) [SV.sl (1 : Nat) (3 : Nat) (0 : Nat) (m + (1 : Nat)), SV.lit
      (Value.int IntKind.i64 n)], SO.row (37 : Nat) (Ty.pair (Ty.int IntKind.i64) (Ty.pair (Ty.int IntKind.i64) Ty.str)) (List.take m R ++ [(Prod.fst (List.getD R ((0 : Nat) +
      Int.toNat k) (Ty.dflt T24.pty)), Prod.fst (Prod.snd (List.getD R ((0 : Nat) + Int.toNat k) (Ty.dflt T24.pty))), Prod.snd (Prod.snd (List.getD R ((0 : Nat) + Int.toNat k)
      (Ty.dflt T24.pty))))] ++ List.drop (m + (1 : Nat)) R)], [])) (m ≤ List.length R ∧ ((↑(m + (1 : Nat)) : Int) ≤ (9223372036854775807 : Int) ∧ (m + (1 : Nat)) * Sx.bytesOf
      Go.Proofs.Try.prog (37 : Nat) ≤ (140737488355328 : Nat)) ∧ Q (SV.lit (Value.bool true), [SO.cells (34 : Nat) [SV.sl (1 : Nat) (3 : Nat) (0 : Nat) (m + (1 : Nat)), SV.lit
      (Value.int IntKind.i64 n)], SO.row (37 : Nat) (Ty.pair (Ty.int IntKind.i64) (Ty.pair (Ty.int IntKind.i64) Ty.str)) (List.take m R ++ [(Prod.fst (List.getD R ((0 : Nat) +
      Int.toNat k) (Ty.dflt T24.pty)), Prod.fst (Prod.snd (List.getD R ((0 : Nat) + Int.toNat k) (Ty.dflt T24.pty))), Prod.snd (Prod.snd (List.getD R ((0 : Nat) + Int.toNat k)
      (Ty.dflt T24.pty))))])], [(1 : Nat)])))))) (by kernel_rfl) ?_
  have hb : bytesOf Try.prog 37 = 32 := by kernel_rfl
  have hl : (R.take m).length = m := by rw [List.length_take]; omega
  have hl2 : ∀ p : pty.den, (R.take m ++ [p]).length = m + 1 := fun p => by rw [List.length_append, hl]; rfl
  rw [hb]
  rw [Nat.zero_add]
  generalize hp : R.getD k.toNat pty.dflt = p at hin ⊢
  refine br_intro (fun h => hout (by have := of_decide_eq_true h; omega)) (fun h => br_intro (fun h' => hout (by have := of_decide_eq_true h'; omega)) (fun h' => ?_))
  have h := of_decide_eq_false h
  have h' := of_decide_eq_false h'
  refine ⟨by omega, by omega, br_intro (fun g => hout (by have := of_decide_eq_true g; omega)) (fun g => ⟨by omega, br_intro (fun g2 => ?_) (fun g2 => ⟨hm, ⟨by omega, by omega⟩, ?_⟩)⟩)⟩
  · have g := of_decide_eq_false g
    have g2 := of_decide_eq_true g2
    refine hin (by omega) (by omega) (by omega) _ ?_ ?_ ?_ _ (.inr rfl)
    · rw [List.length_append, hl2, List.length_drop]; omega
    · rw [List.length_append, hl2, List.length_drop]; omega
    · rw [← hl2 p, List.take_left]
  · have g := of_decide_eq_false g
    refine hin (by omega) (by omega) (by omega) _ ?_ ?_ ?_ _ (.inl rfl)
    · rw [hl2]; omega
    · rw [hl2]; omega
    · rw [← hl2 p, List.take_length]
/-- A row whose first so many are these. -/
structure RowOf (m : Nat) (C : List pty.den) (R : List pty.den) : Prop where
  few : R.length ≤ 200
  room : m ≤ R.length
  eq : R.take m = C
noncomputable def s7g : Summ := fun args H => match args, H with
  | [.ptr 0 0, .lit (.int .i64 k)], [.cells 34 [.sl 1 3 0 m, .lit (.int .i64 n)], .row 37 (.pair (.int .i64) (.pair (.int .i64) .str)) R] =>
    .need (m ≤ R.length ∧ R.length ≤ 200) (.ite (decide (0 ≤ k ∧ k < (m : Int) ∧ m < 200))
      (.any (List pty.den) (RowOf (m + 1) (R.take m ++ [R.getD k.toNat pty.dflt])) fun R' => .ret (.lit (.bool true), [.cells 34 [.sl 1 3 0 (m + 1), .lit (.int .i64 n)], .row 37 pty R'], [1]))
      (.ret (.lit (.bool false), [.cells 34 [.sl 1 3 0 m, .lit (.int .i64 n)], .row 37 pty R], [])))
  | _, _ => .fail
theorem s7g_ok : SummOK Try.prog 7 s7g := by
  refine summ_of_body_mv (fn := Try.f7) (c := Try.f7.body.get!) U3_ok (by kernel_rfl) (by kernel_rfl) (by kernel_rfl) fun args H Q h => ?_
  unfold s7g at h
  split at h
  · rename_i k m n R
    simp only [Tree.Leads] at h
    obtain ⟨⟨h1, h2⟩, hq⟩ := h
    have hq := br_iff.1 hq
    refine ⟨noAn, v7g R m k n _ h1 h2 (fun a b c R' e1 e2 e3 mv hmv => ⟨[1], by rcases hmv with rfl | rfl <;> simp [memN], hq.1 (decide_eq_true ⟨a, b, c⟩) R' ⟨e1, e2, e3⟩⟩) (fun a => ⟨[], fun _ _ h => h, hq.2 (decide_eq_false a)⟩)⟩
  · simp only [Tree.Leads] at h
noncomputable def s6g : Summ := fun args H => match args, H with
  | [.ptr 0 0, .sl 1 3 0 k], [.cells 34 [.sl 2 3 0 m, .lit (.int .i64 n)], .row 37 (.pair (.int .i64) (.pair (.int .i64) .str)) L, .row 37 (.pair (.int .i64) (.pair (.int .i64) .str)) R] =>
    .need (m ≤ R.length ∧ R.length ≤ 200 ∧ k ≤ L.length ∧ k ≤ 1000) (.any (Nat × List pty.den) (fun x => RowOf x.1 (sends (R.take m) (L.take k)) x.2) fun x => .ret (.lit (.int .i64 x.1), [.cells 34 [.sl 2 3 0 x.1, .lit (.int .i64 (IntKind.i64.wrap (n + k)))], .row 37 pty L, .row 37 pty x.2], [2]))
  | _, _ => .fail
theorem s6g_ok : SummOK Try.prog 6 s6g := by
  refine summ_of_body (fn := Try.f6) (c := Try.f6.body.get!) U3_ok (by kernel_rfl) (by kernel_rfl) (by kernel_rfl) fun args H Q h => ?_
  unfold s6g at h
  split at h
  · rename_i k m n L R
    simp only [Tree.Leads] at h
    obtain ⟨⟨h1, h2, h3, h4⟩, hq⟩ := h
    exact ⟨_, v6g m k n L R Q h1 h2 h3 h4 fun m' R' a b c => hq (m', R') ⟨b, a, c⟩⟩
  · simp only [Tree.Leads] at h
/-- What is told of no receiver is the body's own. -/
noncomputable def orNil (s n : Summ) : Summ := fun args H => match args with
  | .lit (.pointer none) :: _ => n args H
  | _ => s args H
theorem orNil_ok {f : FuncId} {s n : Summ} (h1 : SummOK Try.prog f s) (h2 : SummOK Try.prog f n) : SummOK Try.prog f (orNil s n) := summ_or h1 h2 fun args H Q h => by
  unfold orNil at h
  split at h
  · exact .inr h
  · exact .inl h
noncomputable def s13 : Summ := fun args H => match args, H with
  | [.ptr 0 0, .lit (.int .i64 to)], [.cells 34 [.sl 1 3 0 m, .lit (.int .i64 n)], .row 37 (.pair (.int .i64) (.pair (.int .i64) .str)) R] =>
    .need (m ≤ R.length ∧ m ≤ 1000000) (.ret (.sl 2 1 0 (places to R m).length, [.cells 34 [.sl 1 3 0 m, .lit (.int .i64 n)], .row 37 pty R, .row 3 (.int .i64) (places to R m)], []))
  | _, _ => .fail
theorem s13_ok : SummOK Try.prog 13 s13 := by
  refine summ_of_body (fn := Try.f13) (c := Try.f13.body.get!) U3_ok (by kernel_rfl) (by kernel_rfl) (by kernel_rfl) fun args H Q h => ?_
  unfold s13 at h
  split at h
  · rename_i to m n R
    simp only [Tree.Leads] at h
    obtain ⟨⟨h1, h2⟩, hq⟩ := h
    exact ⟨_, v13 to m n R Q h1 h2 hq⟩
  · simp only [Tree.Leads] at h
noncomputable def U6 : Table := (((((U3.add 6 (.go (orNil s6g (bodySumm U3 Try.prog Try.f6 noAn)))).add 7 (.go (orNil s7g (bodySumm U3 Try.prog Try.f7 noAn)))).add 8 (.go (orNil s8 (bodySumm U3 Try.prog Try.f8 noAn)))).add 13 (.go (orNil s13 (bodySumm U3 Try.prog Try.f13 noAn))))).add 5 (.go s5)
theorem U6_ok : TableOK Try.prog U6 := by
  refine add_ok (add_ok (add_ok (add_ok (add_ok U3_ok ?_) ?_) ?_) ?_) s5_ok
  · exact orNil_ok s6g_ok (bodySumm_sound (c := Try.f6.body.get!) U3_ok (by kernel_rfl) (by kernel_rfl) (by kernel_rfl))
  · exact orNil_ok s7g_ok (bodySumm_sound (c := Try.f7.body.get!) U3_ok (by kernel_rfl) (by kernel_rfl) (by kernel_rfl))
  · exact orNil_ok s8_ok (bodySumm_sound (c := Try.f8.body.get!) U3_ok (by kernel_rfl) (by kernel_rfl) (by kernel_rfl))
  · exact orNil_ok s13_ok (bodySumm_sound (c := Try.f13.body.get!) U3_ok (by kernel_rfl) (by kernel_rfl) (by kernel_rfl))
noncomputable def U7 : Table := U6.add 11 (.go (bodySumm U6 Try.prog Try.f11 noAn))
theorem U7_ok : TableOK Try.prog U7 := add_ok U6_ok (bodySumm_sound (c := Try.f11.body.get!) U6_ok (by kernel_rfl) (by kernel_rfl) (by kernel_rfl))
end T24
