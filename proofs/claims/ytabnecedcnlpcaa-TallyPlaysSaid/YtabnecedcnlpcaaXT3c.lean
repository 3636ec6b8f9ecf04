/- Part of a proof: the walk of the functions that the law calls. -/
import Derived.Test.YtabnecedcnlpcaaSxR
import Derived.Test.YtabnecedcnlpcaaProg
open Go Sx Go.Proofs

namespace T3
set_option maxRecDepth 100000
attribute [local irreducible] Tree.Leads
noncomputable def T0 : Table := ((((Table.none.add 31 (.ext (xAtomicAdd .i64))).add 32 (.ext (xAtomicLoad .i64))).add 33 (.ext (xAtomicCas .i64))).add 34 (.ext (xAtomicSwap .i64)))
theorem T0_ok : TableOK Try.prog T0 := by
  refine add_ok (add_ok (add_ok (add_ok none_ok ?_) ?_) ?_) ?_
  · exact atomicAdd_ok (fn := Try.f31) (by kernel_rfl) (by kernel_rfl) (by kernel_rfl) (by kernel_rfl) (by kernel_rfl)
  · exact atomicLoad_ok (fn := Try.f32) (by kernel_rfl) (by kernel_rfl) (by kernel_rfl) (by kernel_rfl) (by kernel_rfl)
  · exact atomicCas_ok (fn := Try.f33) (by kernel_rfl) (by kernel_rfl) (by kernel_rfl) (by kernel_rfl) (by kernel_rfl)
  · exact atomicSwap_ok (fn := Try.f34) (by kernel_rfl) (by kernel_rfl) (by kernel_rfl) (by kernel_rfl) (by kernel_rfl)
noncomputable def T1 : Table := ((((T0.add 17 (.go (bodySumm T0 Try.prog Try.f17 noAn))).add 19 (.go (bodySumm T0 Try.prog Try.f19 noAn))).add 20 (.go (bodySumm T0 Try.prog Try.f20 noAn))).add 22 (.go (bodySumm T0 Try.prog Try.f22 noAn))).add 18 (.go (bodySumm T0 Try.prog Try.f18 noAn))
theorem T1_ok : TableOK Try.prog T1 := by
  refine add_ok (add_ok (add_ok (add_ok (add_ok T0_ok ?_) ?_) ?_) ?_) ?_
  · exact bodySumm_sound (c := Try.f17.body.get!) T0_ok (by kernel_rfl) (by kernel_rfl) (by kernel_rfl)
  · exact bodySumm_sound (c := Try.f19.body.get!) T0_ok (by kernel_rfl) (by kernel_rfl) (by kernel_rfl)
  · exact bodySumm_sound (c := Try.f20.body.get!) T0_ok (by kernel_rfl) (by kernel_rfl) (by kernel_rfl)
  · exact bodySumm_sound (c := Try.f22.body.get!) T0_ok (by kernel_rfl) (by kernel_rfl) (by kernel_rfl)
  · exact bodySumm_sound (c := Try.f18.body.get!) T0_ok (by kernel_rfl) (by kernel_rfl) (by kernel_rfl)

/-- the sum, as Go's numbers add. -/
def sumW (l : List Int) : Int := IntKind.i64.wrap l.sum

theorem wrap_add (a b : Int) : IntKind.i64.wrap (IntKind.i64.wrap a + b) = IntKind.i64.wrap (a + b) := by simp only [IntKind.wrap_i64]; omega
theorem wrap_add' (a b : Int) : IntKind.i64.wrap (a + IntKind.i64.wrap b) = IntKind.i64.wrap (a + b) := by simp only [IntKind.wrap_i64]; omega
theorem wrap_nat (n : Nat) (h : n ≤ 1099511627776) : IntKind.i64.wrap ((n : Int) + 1) = ((n + 1 : Nat) : Int) := by simp only [IntKind.wrap_i64]; omega
theorem sum_step (xs : List Int) (i : Nat) (h : i < xs.length) : IntKind.i64.wrap (sumW (xs.take i) + xs.getD i 0) = sumW (xs.take (i + 1)) := by
  unfold sumW
  rw [wrap_add, List.take_add_one, List.sum_append]
  simp [h]

noncomputable def A7 (et : TypeId) (n : Int) (xs : List Int) : Ann := { live := [0, 5, 10, 11, 12], mv := [], head := fun _ _ => { X := Nat, inv := fun i => ([.ptr 0 0, .lit (.int .i64 (sumW (xs.take i))), .imm (.int .i64) xs, .lit (.int .i64 xs.length), .lit (.int .i64 i)], [.cells et [.lit (.int .i64 n)]]), ok := fun i => i ≤ xs.length, mu := fun i => xs.length - i } }
theorem v7 (et : TypeId) (n : Int) (xs : List Int) (Q : SV × Heap × List Nat → Prop) (hx : xs.length ≤ 1099511627776)
    (hq : Q (.lit (.int .i64 (IntKind.i64.wrap (n + sumW xs))), [.cells et [.lit (.int .i64 (IntKind.i64.wrap (n + sumW xs)))]], [])) :
    (bodySumm T1 Try.prog Try.f7 (An1 0 (A7 et n xs)) [.ptr 0 0, .imm (.int .i64) xs] [.cells et [.lit (.int .i64 n)]]).Leads Q := by
  refine Sx.by_text (q :=
      (∃ (x : Nat),
          ([Sx.SV.ptr (0 : Nat) (0 : Nat), Sx.SV.lit (Go.Value.int Go.IntKind.i64 (0 : Int)), Sx.SV.imm (Sx.Ty.int Go.IntKind.i64) xs,
                  Sx.SV.lit (Go.Value.int Go.IntKind.i64 (↑(List.length xs) : Int)), Sx.SV.lit (Go.Value.int Go.IntKind.i64 (0 : Int))],
                [Sx.SO.cells et [Sx.SV.lit (Go.Value.int Go.IntKind.i64 n)]]) =
              ([Sx.SV.ptr (0 : Nat) (0 : Nat), Sx.SV.lit (Go.Value.int Go.IntKind.i64 (T3.sumW (List.take x xs))), Sx.SV.imm (Sx.Ty.int Go.IntKind.i64) xs,
                  Sx.SV.lit (Go.Value.int Go.IntKind.i64 (↑(List.length xs) : Int)), Sx.SV.lit (Go.Value.int Go.IntKind.i64 (↑x : Int))],
                [Sx.SO.cells et [Sx.SV.lit (Go.Value.int Go.IntKind.i64 n)]]) ∧
            x ≤ List.length xs) ∧
        ∀ (b : Nat),
          b ≤ List.length xs →
            Sx.br (Decidable.decide ((↑b : Int) < (↑(List.length xs) : Int)))
              (((0 : Int) ≤ (↑b : Int) ∧ (↑b : Int) < (↑(List.length xs) : Int)) ∧
                b < List.length xs ∧
                  (∃ (x' : Nat),
                      ([Sx.SV.ptr (0 : Nat) (0 : Nat),
                              Sx.SV.lit
                                (Go.Value.int Go.IntKind.i64 (Go.IntKind.wrap Go.IntKind.i64 (T3.sumW (List.take b xs) + List.getD xs b (Sx.Ty.dflt (Sx.Ty.int Go.IntKind.i64))))),
                              Sx.SV.imm (Sx.Ty.int Go.IntKind.i64) xs, Sx.SV.lit (Go.Value.int Go.IntKind.i64 (↑(List.length xs) : Int)),
                              Sx.SV.lit (Go.Value.int Go.IntKind.i64 (Go.IntKind.wrap Go.IntKind.i64 ((↑b : Int) + (1 : Int))))],
                            [Sx.SO.cells et [Sx.SV.lit (Go.Value.int Go.IntKind.i64 n)]]) =
                          ([Sx.SV.ptr (0 : Nat) (0 : Nat), Sx.SV.lit (Go.Value.int Go.IntKind.i64 (T3.sumW (List.take x' xs))), Sx.SV.imm (Sx.Ty.int Go.IntKind.i64) xs,
                              Sx.SV.lit (Go.Value.int Go.IntKind.i64 (↑(List.length xs) : Int)), Sx.SV.lit (Go.Value.int Go.IntKind.i64 (↑x' : Int))],
                            [Sx.SO.cells et [Sx.SV.lit (Go.Value.int Go.IntKind.i64 n)]]) ∧
                        x' ≤ List.length xs ∧ List.length xs - x' < List.length xs - b) ∧
                    True)
              (Q
                (Sx.SV.lit (Go.Value.int Go.IntKind.i64 (Go.IntKind.wrap Go.IntKind.i64 (n + T3.sumW (List.take b xs)))),
                  [Sx.SO.cells et [Sx.SV.lit (Go.Value.int Go.IntKind.i64 (Go.IntKind.wrap Go.IntKind.i64 (n + T3.sumW (List.take b xs))))]], []))) (by kernel_rfl) ?_
  refine ⟨⟨0, by simp [sumW]; rfl, by omega⟩, fun i hi => br_intro (fun h => ?_) (fun h => ?_)⟩
  · simp only [decide_eq_true_eq] at h
    have hlt : i < xs.length := by omega
    refine ⟨⟨by omega, by omega⟩, by simpa using hlt, ⟨i + 1, ?_, by omega, by omega⟩, trivial⟩
    rw [wrap_nat i (by omega)]
    have := sum_step xs i hlt
    simp only [Ty.dflt, this]
  · simp only [decide_eq_false_iff_not] at h
    have : i = xs.length := by omega
    subst this
    simpa using hq
noncomputable def s7 : Summ := fun args H => match args, H with
  | [.ptr 0 0, .imm (.int .i64) xs], [.cells et [.lit (.int .i64 n)]] => .need (xs.length ≤ 1099511627776) (.ret (.lit (.int .i64 (IntKind.i64.wrap (n + sumW xs))), [.cells et [.lit (.int .i64 (IntKind.i64.wrap (n + sumW xs)))]], []))
  | args, H => bodySumm T1 Try.prog Try.f7 noAn args H
theorem s7_ok : SummOK Try.prog 7 s7 := by
  refine summ_of_body (fn := Try.f7) (c := Try.f7.body.get!) T1_ok (by kernel_rfl) (by kernel_rfl) (by kernel_rfl) fun args H Q h => ?_
  unfold s7 at h
  split at h
  · rename_i xs et n
    simp only [Tree.Leads] at h
    exact ⟨An1 0 (A7 et n xs), v7 et n xs Q h.1 h.2⟩
  · exact ⟨_, h⟩

noncomputable def A8 (et e2 : TypeId) (n x : Int) : Ann := { live := [0, 5], mv := [], head := fun _ _ => { X := Unit, inv := fun _ => ([.ptr 0 0, .lit (.int .i64 x)], [.cells et [.lit (.int .i64 n)], .row e2 (.int .i64) [x]]), ok := fun _ => True, mu := fun _ => 0 } }
theorem v8 (et e2 : TypeId) (n x : Int) (Q : SV × Heap × List Nat → Prop)
    (hq : br (decide (n ≥ x)) (Q (.lit (.int .i64 n), [.cells et [.lit (.int .i64 n)], .row e2 (.int .i64) [x]], [])) (Q (.lit (.int .i64 x), [.cells et [.lit (.int .i64 x)], .row e2 (.int .i64) [x]], []))) :
    (bodySumm T1 Try.prog Try.f8 (An1 0 (A8 et e2 n x)) [.ptr 0 0, .sl 1 1 0 1] [.cells et [.lit (.int .i64 n)], .row e2 (.int .i64) [x]]).Leads Q := by
  refine Sx.by_text (q :=
      ((0 : Int) ≤ (0 : Int) ∧ (0 : Int) < (↑(1 : Nat) : Int)) ∧
        (0 : Nat) < List.length [x] ∧
          (∃ (x_1 : Unit),
              ([Sx.SV.ptr (0 : Nat) (0 : Nat), Sx.SV.lit (Go.Value.int Go.IntKind.i64 (List.getD [x] (0 : Nat) (Sx.Ty.dflt (Sx.Ty.int Go.IntKind.i64))))],
                    [Sx.SO.cells et [Sx.SV.lit (Go.Value.int Go.IntKind.i64 n)], Sx.SO.row e2 (Sx.Ty.int Go.IntKind.i64) [x]]) =
                  ([Sx.SV.ptr (0 : Nat) (0 : Nat), Sx.SV.lit (Go.Value.int Go.IntKind.i64 x)],
                    [Sx.SO.cells et [Sx.SV.lit (Go.Value.int Go.IntKind.i64 n)], Sx.SO.row e2 (Sx.Ty.int Go.IntKind.i64) [x]]) ∧
                True) ∧
            ∀ (b : Unit),
              True →
                Sx.br (Decidable.decide (n ≥ x))
                  (Q (Sx.SV.lit (Go.Value.int Go.IntKind.i64 n), [Sx.SO.cells et [Sx.SV.lit (Go.Value.int Go.IntKind.i64 n)], Sx.SO.row e2 (Sx.Ty.int Go.IntKind.i64) [x]], []))
                  (Sx.br (n == n)
                    (Q (Sx.SV.lit (Go.Value.int Go.IntKind.i64 x), [Sx.SO.cells et [Sx.SV.lit (Go.Value.int Go.IntKind.i64 x)], Sx.SO.row e2 (Sx.Ty.int Go.IntKind.i64) [x]], []))
                    ((∃ (x' : Unit),
                        ([Sx.SV.ptr (0 : Nat) (0 : Nat), Sx.SV.lit (Go.Value.int Go.IntKind.i64 x)],
                              [Sx.SO.cells et [Sx.SV.lit (Go.Value.int Go.IntKind.i64 n)], Sx.SO.row e2 (Sx.Ty.int Go.IntKind.i64) [x]]) =
                            ([Sx.SV.ptr (0 : Nat) (0 : Nat), Sx.SV.lit (Go.Value.int Go.IntKind.i64 x)],
                              [Sx.SO.cells et [Sx.SV.lit (Go.Value.int Go.IntKind.i64 n)], Sx.SO.row e2 (Sx.Ty.int Go.IntKind.i64) [x]]) ∧
                          True ∧ (0 : Nat) < (0 : Nat)) ∧
                      True))) (by kernel_rfl) ?_
  refine ⟨by omega, by simp, ⟨(), by simp, trivial⟩, fun _ _ => ?_⟩
  rw [br_iff] at hq
  refine br_intro hq.1 fun h => br_intro (fun _ => hq.2 h) (fun h => by simp at h)
noncomputable def s8 : Summ := fun args H => match args, H with
  | [.ptr 0 0, .sl 1 1 0 1], [.cells et [.lit (.int .i64 n)], .row e2 (.int .i64) [x]] => .ite (decide (n ≥ x)) (.ret (.lit (.int .i64 n), [.cells et [.lit (.int .i64 n)], .row e2 (.int .i64) [x]], [])) (.ret (.lit (.int .i64 x), [.cells et [.lit (.int .i64 x)], .row e2 (.int .i64) [x]], []))
  | _, _ => .fail
theorem s8_ok : SummOK Try.prog 8 s8 := by
  refine summ_of_body (fn := Try.f8) (c := Try.f8.body.get!) T1_ok (by kernel_rfl) (by kernel_rfl) (by kernel_rfl) fun args H Q h => ?_
  unfold s8 at h
  split at h
  · rename_i et n e2 x
    simp only [Tree.Leads] at h
    exact ⟨An1 0 (A8 et e2 n x), v8 et e2 n x Q h⟩
  · simp only [Tree.Leads] at h

end T3
