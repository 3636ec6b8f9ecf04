/- Part of a proof: the walk of the functions that the law calls. -/
import Derived.Test.YtbfiikegaljagaaXT24b
set_option linter.unusedVariables false
open Go Sx Go.Proofs
namespace T24
set_option maxRecDepth 100000
set_option maxHeartbeats 1000000
attribute [local irreducible] Tree.Leads
/-- Delete, of one element. -/
noncomputable def s18 : Summ := fun args H => match args, H with
  | [.sl 0 3 0 m, .lit (.int .i64 k), .lit (.int .i64 j)], [.row 37 (.pair (.int .i64) (.pair (.int .i64) .str)) R] => .need (0 ≤ k ∧ k < (m : Int) ∧ j = k + 1 ∧ m ≤ R.length ∧ m ≤ 1000000) (.ret (.sl 0 3 0 (m - 1), [.row 37 pty (delAt R m k.toNat)], []))
  | _, _ => .fail
theorem s18_ok : SummOK Try.prog 18 s18 := by
  refine summ_of_body (fn := Try.f18) (c := Try.f18.body.get!) T0_ok (by kernel_rfl) (by kernel_rfl) (by kernel_rfl) fun args H Q h => ?_
  unfold s18 at h
  split at h
  · rename_i m k j R
    simp only [Tree.Leads] at h
    obtain ⟨⟨h1, h2, rfl, h4, h5⟩, hq⟩ := h
    obtain ⟨k', rfl⟩ : ∃ k' : Nat, k = k' := ⟨k.toNat, by omega⟩
    exact ⟨noAn, v18 R m k' Q (by omega) h4 h5 hq⟩
  · simp only [Tree.Leads] at h
noncomputable def U1 : Table := ((T0.add 53 (.go (bodySumm T0 Try.prog Try.f53 noAn))).add 54 (.go (bodySumm T0 Try.prog Try.f54 noAn))).add 18 (.go s18)
theorem U1_ok : TableOK Try.prog U1 := by
  refine add_ok (add_ok (add_ok T0_ok ?_) ?_) s18_ok
  · exact bodySumm_sound (c := Try.f53.body.get!) T0_ok (by kernel_rfl) (by kernel_rfl) (by kernel_rfl)
  · exact bodySumm_sound (c := Try.f54.body.get!) T0_ok (by kernel_rfl) (by kernel_rfl) (by kernel_rfl)
noncomputable def U2 : Table := ((U1.add 17 (.go (bodySumm U1 Try.prog Try.f17 noAn))).add 19 (.go (bodySumm U1 Try.prog Try.f19 noAn))).add 9 (.go (bodySumm U1 Try.prog Try.f9 noAn))
theorem U2_ok : TableOK Try.prog U2 := by
  refine add_ok (add_ok (add_ok U1_ok ?_) ?_) ?_
  · exact bodySumm_sound (c := Try.f17.body.get!) U1_ok (by kernel_rfl) (by kernel_rfl) (by kernel_rfl)
  · exact bodySumm_sound (c := Try.f19.body.get!) U1_ok (by kernel_rfl) (by kernel_rfl) (by kernel_rfl)
  · exact bodySumm_sound (c := Try.f9.body.get!) U1_ok (by kernel_rfl) (by kernel_rfl) (by kernel_rfl)
noncomputable def U3 : Table := (U2.add 12 (.go (bodySumm U2 Try.prog Try.f12 noAn))).add 10 (.go (bodySumm U2 Try.prog Try.f10 noAn))
theorem U3_ok : TableOK Try.prog U3 := by
  refine add_ok (add_ok U2_ok ?_) ?_
  · exact bodySumm_sound (c := Try.f12.body.get!) U2_ok (by kernel_rfl) (by kernel_rfl) (by kernel_rfl)
  · exact bodySumm_sound (c := Try.f10.body.get!) U2_ok (by kernel_rfl) (by kernel_rfl) (by kernel_rfl)
/-- Take, of what is there. -/
theorem v8 (R : List pty.den) (m k : Nat) (n : Int) (Q : SV × Heap × List Nat → Prop) (hk : k < m) (hm : m ≤ R.length) (hs : m ≤ 1000000)
    (hq : Q (.tup [.agg (pty.cells (R.getD k pty.dflt)), .lit (.bool true)], [.cells 34 [.sl 1 3 0 (m - 1), .lit (.int .i64 n)], .row 37 pty (delAt R m k)], [])) :
    (bodySumm U3 Try.prog Try.f8 noAn [.ptr 0 0, .lit (.int .i64 k)] [.cells 34 [.sl 1 3 0 m, .lit (.int .i64 n)], .row 37 pty R]).Leads Q := by
  refine Sx.by_text (q :=
      br (decide ((↑k : Int) ≥ (↑m : Int))) (Q (SV.tup [SV.agg [SV.lit (Value.int IntKind.i64 (0 : Int)), SV.lit (Value.int IntKind.i64 (0 : Int)), SV.lit (Value.string { data
      := #[] })], SV.lit (Value.bool false)], [SO.cells (34 : Nat) [SV.sl (1 : Nat) (3 : Nat) (0 : Nat) m, SV.lit (Value.int IntKind.i64 n)], SO.row (37 : Nat) (Ty.pair (Ty.int
      IntKind.i64) (Ty.pair (Ty.int IntKind.i64) Ty.str)) R], [])) (((0 : Int) ≤ (↑k : Int) ∧ (↑k : Int) < (↑m : Int)) ∧ (0 : Nat) + k < List.length R ∧ ((0 : Int) ≤ (↑k : Int)
      ∧ (↑k : Int) < (↑m : Int) ∧ IntKind.wrap IntKind.i64 ((↑k : Int) + (1 : Int)) = (↑k : Int) + (1 : Int) ∧ m ≤ List.length R ∧ m ≤ (1000000 : Nat)) ∧ Q (SV.tup [SV.agg
      [SV.lit (Value.int IntKind.i64 (Prod.fst (List.getD R ((0 : Nat) + k) (Ty.dflt T24.pty)))), SV.lit (Value.int IntKind.i64 (Prod.fst (Prod.snd (List.getD R ((0 : Nat) + k)
      (Ty.dflt T24.pty))))), SV.lit (Value.string (Prod.snd (Prod.snd (List.getD R ((0 : Nat) + k) (Ty.dflt T24.pty)))))], SV.lit (Value.bool true)], [SO.cells (34 : Nat) [SV.sl
      (1 : Nat) (3 : Nat) (0 : Nat) (m - (1 : Nat)), SV.lit (Value.int IntKind.i64 n)], SO.row (37 : Nat) (Ty.pair (Ty.int IntKind.i64) (Ty.pair (Ty.int IntKind.i64) Ty.str))
      (T24.delAt R m k)], []))) (by kernel_rfl) ?_
  simp only [Nat.zero_add]
  refine br_intro (fun h => by have h := of_decide_eq_true h; omega) (fun _ => ⟨by omega, by omega, ⟨by omega, by omega, by simp only [IntKind.wrap_i64]; omega, hm, hs⟩, hq⟩)
/-- Take, of what is not there. -/
theorem v8n (R : List pty.den) (m : Nat) (k n : Int) (Q : SV × Heap × List Nat → Prop) (hk : k < 0 ∨ (m : Int) ≤ k)
    (hq : Q (.tup [.agg (pty.cells pz), .lit (.bool false)], [.cells 34 [.sl 1 3 0 m, .lit (.int .i64 n)], .row 37 pty R], [])) :
    (bodySumm U3 Try.prog Try.f8 noAn [.ptr 0 0, .lit (.int .i64 k)] [.cells 34 [.sl 1 3 0 m, .lit (.int .i64 n)], .row 37 pty R]).Leads Q := by
  refine Sx.by_text (q :=
      br (decide (k < (0 : Int))) (Q (SV.tup [SV.agg [SV.lit (Value.int IntKind.i64 (0 : Int)), SV.lit (Value.int IntKind.i64 (0 : Int)), SV.lit (Value.string { data := #[] })],
      SV.lit (Value.bool false)], [SO.cells (34 : Nat) [SV.sl (1 : Nat) (3 : Nat) (0 : Nat) m, SV.lit (Value.int IntKind.i64 n)], SO.row (37 : Nat) (Ty.pair (Ty.int IntKind.i64)
      (Ty.pair (Ty.int IntKind.i64) Ty.str)) R], [])) (br (decide (k ≥ (↑m : Int))) (Q (SV.tup [SV.agg [SV.lit (Value.int IntKind.i64 (0 : Int)), SV.lit (Value.int IntKind.i64
      (0 : Int)), SV.lit (Value.string { data := #[] })], SV.lit (Value.bool false)], [SO.cells (34 : Nat) [SV.sl (1 : Nat) (3 : Nat) (0 : Nat) m, SV.lit (Value.int IntKind.i64
      n)], SO.row (37 : Nat) (Ty.pair (Ty.int IntKind.i64) (Ty.pair (Ty.int IntKind.i64) Ty.str)) R], [])) (((0 : Int) ≤ k ∧ k < (↑m : Int)) ∧ (0 : Nat) + Int.toNat k <
      List.length R ∧ ((0 : Int) ≤ k ∧ k < (↑m : Int) ∧ IntKind.wrap IntKind.i64 (k + (1 : Int)) = k + (1 : Int) ∧ m ≤ List.length R ∧ m ≤ (1000000 : Nat)) ∧ Q (SV.tup [SV.agg
      [SV.lit (Value.int IntKind.i64 (Prod.fst (List.getD R ((0 : Nat) + Int.toNat k) (Ty.dflt T24.pty)))), SV.lit (Value.int IntKind.i64 (Prod.fst (Prod.snd (List.getD R ((0 :
      Nat) + Int.toNat k) (Ty.dflt T24.pty))))), SV.lit (Value.string (Prod.snd (Prod.snd (List.getD R ((0 : Nat) + Int.toNat k) (Ty.dflt T24.pty)))))], SV.lit (Value.bool
      true)], [SO.cells (34 : Nat) [SV.sl (1 : Nat) (3 : Nat) (0 : Nat) (m - (1 : Nat)), SV.lit (Value.int IntKind.i64 n)], SO.row (37 : Nat) (Ty.pair (Ty.int IntKind.i64)
      (Ty.pair (Ty.int IntKind.i64) Ty.str)) (T24.delAt R m (Int.toNat k))], [])))) (by kernel_rfl) ?_
  refine br_intro (fun _ => hq) (fun h => br_intro (fun _ => hq) (fun h' => ?_))
  have h := of_decide_eq_false h
  have h' := of_decide_eq_false h'
  omega
/-- Send, of one packet, where there is room. -/
theorem v6 (R : List pty.den) (f t n : Int) (s : ByteArray) (Q : SV × Heap × List Nat → Prop) (hm : R.length < 200) (hs : s.size ≤ 20100)
    (hq : Q (.lit (.int .i64 ((R.length + 1 : Nat) : Int)), [.cells 34 [.sl 2 3 0 (R.length + 1), .lit (.int .i64 (IntKind.i64.wrap (n + 1)))], .row 37 pty [(f, t, s)], .row 37 pty (R ++ [(f, t, s)])], [2])) :
    (bodySumm U3 Try.prog Try.f6 noAn [.ptr 0 0, .sl 1 3 0 1] [.cells 34 [.sl 2 3 0 R.length, .lit (.int .i64 n)], .row 37 pty [(f, t, s)], .row 37 pty R]).Leads Q := by
  refine Sx.by_text (q :=
      ((0 : Int) ≤ (0 : Int) ∧ (0 : Int) < (↑(1 : Nat) : Int)) ∧ (0 : Nat) < (1 : Nat) ∧ br (decide ((↑(List.length R) : Int) < (200 : Int))) (br (decide ((↑(ByteArray.size s) :
      Int) ≤ (20100 : Int))) ((1 : Nat) ≤ (1 : Nat) ∧ br (decide (List.length R + (1 : Nat) ≤ List.length R)) (((0 : Int) ≤ (0 : Int) ∧ (0 : Int) < (↑(1 : Nat) : Int)) ∧ (0 :
      Nat) < (1 : Nat) ∧ Q (SV.lit (Value.int IntKind.i64 (↑(List.length R + (1 : Nat)) : Int)), [SO.cells (34 : Nat) [SV.sl (2 : Nat) (3 : Nat) (0 : Nat) (List.length R + (1 :
      Nat)), SV.lit (Value.int IntKind.i64 (IntKind.wrap IntKind.i64 (n + IntKind.wrap IntKind.i64 ((0 : Int) + List.getD [(↑(1 : Nat) : Int)] (0 : Nat) (Ty.dflt (Ty.int
      IntKind.i64))))))], SO.row (37 : Nat) (Ty.pair (Ty.int IntKind.i64) (Ty.pair (Ty.int IntKind.i64) Ty.str)) [(f, t, s)], SO.row (37 : Nat) (Ty.pair (Ty.int IntKind.i64)
      (Ty.pair (Ty.int IntKind.i64) Ty.str)) (List.take (List.length R) R ++ [(f, t, s)] ++ List.drop (List.length R + (1 : Nat)) R)], [])) (List.length R ≤ List.length R ∧
      ((↑(List.length R + (1 : Nat)) : Int) ≤ (9223372036854775807 : Int) ∧ (List.length R + (1 : Nat)) * Sx.bytesOf Go.Proofs.Try.prog (37 : Nat) ≤ (140737488355328 : Nat)) ∧
      ((0 : Int) ≤ (0 : Int) ∧ (0 : Int) < (↑(1 : Nat) : Int)) ∧ (0 : Nat) < (1 : Nat) ∧ Q (SV.lit (Value.int IntKind.i64 (↑(List.length R + (1 : Nat)) : Int)), [SO.cells (34 :
      Nat) [SV.sl (2 : Nat) (3 : Nat) (0 : Nat) (List.length R + (1 : Nat)), SV.lit (Value.int IntKind.i64 (IntKind.wrap IntKind.i64 (n + IntKind.wrap IntKind.i64 ((0 : Int) +
      List.getD [(↑(1 : Nat) : Int)] (0 : Nat) (Ty.dflt (Ty.int IntKind.i64))))))], SO.row (37 : Nat) (Ty.pair (Ty.int IntKind.i64) (Ty.pair (Ty.int IntKind.i64) Ty.str)) [(f,
      t, s)], SO.row (37 : Nat) (Ty.pair (Ty.int IntKind.i64) (Ty.pair (Ty.int IntKind.i64) Ty.str)) (List.take (List.length R) R ++ [(f, t, s)])], [(2 : Nat)]))) (((0 : Int) ≤
      (0 : Int) ∧ (0 : Int) < (↑(1 : Nat) : Int)) ∧ (0 : Nat) < (1 : Nat) ∧ Q (SV.lit (Value.int IntKind.i64 (↑(List.length R) : Int)), [SO.cells (34 : Nat) [SV.sl (2 : Nat) (3
      : Nat) (0 : Nat) (List.length R), SV.lit (Value.int IntKind.i64 (IntKind.wrap IntKind.i64 (n + IntKind.wrap IntKind.i64 ((0 : Int) + List.getD [(↑(1 : Nat) : Int)] (0 :
      Nat) (Ty.dflt (Ty.int IntKind.i64))))))], SO.row (37 : Nat) (Ty.pair (Ty.int IntKind.i64) (Ty.pair (Ty.int IntKind.i64) Ty.str)) [(f, t, s)], SO.row (37 : Nat) (Ty.pair
      (Ty.int IntKind.i64) (Ty.pair (Ty.int IntKind.i64) Ty.str)) R], []))) (((0 : Int) ≤ (0 : Int) ∧ (0 : Int) < (↑(1 : Nat) : Int)) ∧ (0 : Nat) < (1 : Nat) ∧ Q (SV.lit
      (Value.int IntKind.i64 (↑(List.length R) : Int)), [SO.cells (34 : Nat) [SV.sl (2 : Nat) (3 : Nat) (0 : Nat) (List.length R), SV.lit (Value.int IntKind.i64 (IntKind.wrap
      IntKind.i64 (n + IntKind.wrap IntKind.i64 ((0 : Int) + List.getD [(↑(1 : Nat) : Int)] (0 : Nat) (Ty.dflt (Ty.int IntKind.i64))))))], SO.row (37 : Nat) (Ty.pair (Ty.int
      IntKind.i64) (Ty.pair (Ty.int IntKind.i64) Ty.str)) [(f, t, s)], SO.row (37 : Nat) (Ty.pair (Ty.int IntKind.i64) (Ty.pair (Ty.int IntKind.i64) Ty.str)) R], []))) (by kernel_rfl) ?_
  have hb : bytesOf Try.prog 37 = 32 := by kernel_rfl
  have e1 : IntKind.i64.wrap (n + IntKind.i64.wrap (0 + [((1 : Nat) : Int)].getD 0 (Ty.int .i64).dflt)) = IntKind.i64.wrap (n + 1) := rfl
  have e2 : List.take R.length R = R := List.take_length
  refine ⟨by omega, by omega, br_intro (fun _ => br_intro (fun _ => ⟨by omega, br_intro (fun h => ?_) (fun _ => ⟨by omega, by rw [hb]; omega, by omega, by omega, ?_⟩)⟩) (fun h => ?_)) (fun h => ?_)⟩
  · have h := of_decide_eq_true h; omega
  · rw [e1, e2]; exact hq
  · have h := of_decide_eq_false h; omega
  · have h := of_decide_eq_false h; omega
end T24
