/- Part of a proof: the walk of the functions that the law calls. -/
import Derived.Test.YtabnecedcnlpcaaXT3c
open Go Sx Go.Proofs
namespace T4
set_option maxRecDepth 100000
attribute [local irreducible] Tree.Leads
open T3

/-- Add, of a list that the caller made. -/
noncomputable def B7 (et e : TypeId) (n : Int) (m : Nat) (L : List Int) : Ann := { live := [0, 5, 10, 11, 12], mv := [], head := fun _ _ => { X := Nat, inv := fun i => ([.ptr 0 0, .lit (.int .i64 (sumW (L.take i))), .sl 1 1 0 m, .lit (.int .i64 m), .lit (.int .i64 i)], [.cells et [.lit (.int .i64 n)], .row e (.int .i64) L]), ok := fun i => i ≤ m, mu := fun i => m - i } }
theorem w7 (et e : TypeId) (n : Int) (m : Nat) (L : List Int) (Q : SV × Heap × List Nat → Prop) (hm : m ≤ L.length) (hx : m ≤ 1099511627776)
    (hq : Q (.lit (.int .i64 (IntKind.i64.wrap (n + sumW (L.take m)))), [.cells et [.lit (.int .i64 (IntKind.i64.wrap (n + sumW (L.take m))))], .row e (.int .i64) L], [])) :
    (bodySumm T1 Try.prog Try.f7 (An1 0 (B7 et e n m L)) [.ptr 0 0, .sl 1 1 0 m] [.cells et [.lit (.int .i64 n)], .row e (.int .i64) L]).Leads Q := by
  refine Sx.by_text (q :=
      (∃ (x : Nat),
          ([Sx.SV.ptr (0 : Nat) (0 : Nat), Sx.SV.lit (Go.Value.int Go.IntKind.i64 (0 : Int)), Sx.SV.sl (1 : Nat) (1 : Nat) (0 : Nat) m,
                  Sx.SV.lit (Go.Value.int Go.IntKind.i64 (↑m : Int)), Sx.SV.lit (Go.Value.int Go.IntKind.i64 (0 : Int))],
                [Sx.SO.cells et [Sx.SV.lit (Go.Value.int Go.IntKind.i64 n)], Sx.SO.row e (Sx.Ty.int Go.IntKind.i64) L]) =
              ([Sx.SV.ptr (0 : Nat) (0 : Nat), Sx.SV.lit (Go.Value.int Go.IntKind.i64 (T3.sumW (List.take x L))), Sx.SV.sl (1 : Nat) (1 : Nat) (0 : Nat) m,
                  Sx.SV.lit (Go.Value.int Go.IntKind.i64 (↑m : Int)), Sx.SV.lit (Go.Value.int Go.IntKind.i64 (↑x : Int))],
                [Sx.SO.cells et [Sx.SV.lit (Go.Value.int Go.IntKind.i64 n)], Sx.SO.row e (Sx.Ty.int Go.IntKind.i64) L]) ∧
            x ≤ m) ∧
        ∀ (b : Nat),
          b ≤ m →
            Sx.br (Decidable.decide ((↑b : Int) < (↑m : Int)))
              (((0 : Int) ≤ (↑b : Int) ∧ (↑b : Int) < (↑m : Int)) ∧
                (0 : Nat) + b < List.length L ∧
                  (∃ (x' : Nat),
                      ([Sx.SV.ptr (0 : Nat) (0 : Nat),
                              Sx.SV.lit
                                (Go.Value.int Go.IntKind.i64
                                  (Go.IntKind.wrap Go.IntKind.i64 (T3.sumW (List.take b L) + List.getD L ((0 : Nat) + b) (Sx.Ty.dflt (Sx.Ty.int Go.IntKind.i64))))),
                              Sx.SV.sl (1 : Nat) (1 : Nat) (0 : Nat) m, Sx.SV.lit (Go.Value.int Go.IntKind.i64 (↑m : Int)),
                              Sx.SV.lit (Go.Value.int Go.IntKind.i64 (Go.IntKind.wrap Go.IntKind.i64 ((↑b : Int) + (1 : Int))))],
                            [Sx.SO.cells et [Sx.SV.lit (Go.Value.int Go.IntKind.i64 n)], Sx.SO.row e (Sx.Ty.int Go.IntKind.i64) L]) =
                          ([Sx.SV.ptr (0 : Nat) (0 : Nat), Sx.SV.lit (Go.Value.int Go.IntKind.i64 (T3.sumW (List.take x' L))), Sx.SV.sl (1 : Nat) (1 : Nat) (0 : Nat) m,
                              Sx.SV.lit (Go.Value.int Go.IntKind.i64 (↑m : Int)), Sx.SV.lit (Go.Value.int Go.IntKind.i64 (↑x' : Int))],
                            [Sx.SO.cells et [Sx.SV.lit (Go.Value.int Go.IntKind.i64 n)], Sx.SO.row e (Sx.Ty.int Go.IntKind.i64) L]) ∧
                        x' ≤ m ∧ m - x' < m - b) ∧
                    True)
              (Q
                (Sx.SV.lit (Go.Value.int Go.IntKind.i64 (Go.IntKind.wrap Go.IntKind.i64 (n + T3.sumW (List.take b L)))),
                  [Sx.SO.cells et [Sx.SV.lit (Go.Value.int Go.IntKind.i64 (Go.IntKind.wrap Go.IntKind.i64 (n + T3.sumW (List.take b L))))], Sx.SO.row e (Sx.Ty.int Go.IntKind.i64) L],
                  []))) (by kernel_rfl) ?_
  refine ⟨⟨0, by simp [sumW]; rfl, by omega⟩, fun i hi => br_intro (fun h => ?_) (fun h => ?_)⟩
  · have h := of_decide_eq_true h
    have hlt : i < L.length := by omega
    refine ⟨⟨by omega, by omega⟩, by simpa using hlt, ⟨i + 1, ?_, by omega, by omega⟩, trivial⟩
    rw [wrap_nat i (by omega)]
    have := sum_step L i hlt
    simp only [Nat.zero_add, Ty.dflt, this]
  · have h := of_decide_eq_false h
    have : i = m := by omega
    subst this
    exact hq

/-- The greatest of some. -/
def mxOf : List Int → Int
  | [] => 0
  | x :: r => r.foldl (fun m x => max m x) x
theorem mxOf_step (L : List Int) (i : Nat) (h1 : 1 ≤ i) (h : i < L.length) : mxOf (L.take (i + 1)) = max (mxOf (L.take i)) (L.getD i 0) := by
  cases L with
  | nil => simp at h
  | cons x r =>
    obtain ⟨j, rfl⟩ : ∃ j, i = j + 1 := ⟨i - 1, by omega⟩
    simp only [List.take_succ_cons, mxOf]
    simp only [List.length_cons, Nat.add_lt_add_iff_right] at h
    rw [List.take_add_one, List.foldl_append]
    simp [h]
theorem mx_mxOf (x : Int) (L : List Int) (h : L ≠ []) : L.foldl (fun m x => max m x) x = max x (mxOf L) := by
  cases L with
  | nil => exact absurd rfl h
  | cons y r =>
    simp only [List.foldl_cons, mxOf]
    clear h
    induction r generalizing y with
    | nil => simp
    | cons z r ih =>
      simp only [List.foldl_cons]
      rw [← ih (max y z)]
      congr 1; omega

noncomputable def B18 (e : TypeId) (m : Nat) (L : List Int) : Ann := { live := [0, 3, 4], mv := [], head := fun _ _ => { X := Nat, inv := fun i => ([.sl 0 1 0 m, .lit (.int .i64 (mxOf (L.take i))), .lit (.int .i64 i)], [.row e (.int .i64) L]), ok := fun i => 1 ≤ i ∧ i ≤ m, mu := fun i => m - i } }
theorem w18 (e : TypeId) (m : Nat) (L : List Int) (Q : SV × Heap × List Nat → Prop) (h0 : 1 ≤ m) (hm : m ≤ L.length) (hx : m ≤ 1099511627776)
    (hq : Q (.lit (.int .i64 (mxOf (L.take m))), [.row e (.int .i64) L], [])) :
    (bodySumm T0 Try.prog Try.f18 (An1 0 (B18 e m L)) [.sl 0 1 0 m] [.row e (.int .i64) L]).Leads Q := by
  refine Sx.by_text (q :=
      Sx.br (Decidable.decide ((↑m : Int) < (1 : Int))) False
        (((0 : Int) ≤ (0 : Int) ∧ (0 : Int) < (↑m : Int)) ∧
          (0 : Nat) < List.length L ∧
            (∃ (x : Nat),
                ([Sx.SV.sl (0 : Nat) (1 : Nat) (0 : Nat) m, Sx.SV.lit (Go.Value.int Go.IntKind.i64 (List.getD L (0 : Nat) (Sx.Ty.dflt (Sx.Ty.int Go.IntKind.i64)))),
                        Sx.SV.lit (Go.Value.int Go.IntKind.i64 (1 : Int))],
                      [Sx.SO.row e (Sx.Ty.int Go.IntKind.i64) L]) =
                    ([Sx.SV.sl (0 : Nat) (1 : Nat) (0 : Nat) m, Sx.SV.lit (Go.Value.int Go.IntKind.i64 (T4.mxOf (List.take x L))), Sx.SV.lit (Go.Value.int Go.IntKind.i64 (↑x : Int))],
                      [Sx.SO.row e (Sx.Ty.int Go.IntKind.i64) L]) ∧
                  (1 : Nat) ≤ x ∧ x ≤ m) ∧
              ∀ (b : Nat),
                (1 : Nat) ≤ b ∧ b ≤ m →
                  Sx.br (Decidable.decide ((↑b : Int) < (↑m : Int)))
                    (((0 : Int) ≤ (↑b : Int) ∧ (↑b : Int) < (↑m : Int)) ∧
                      (0 : Nat) + b < List.length L ∧
                        (∃ (x' : Nat),
                            ([Sx.SV.sl (0 : Nat) (1 : Nat) (0 : Nat) m,
                                    Sx.SV.lit (Go.Value.int Go.IntKind.i64 (Max.max (T4.mxOf (List.take b L)) (List.getD L ((0 : Nat) + b) (Sx.Ty.dflt (Sx.Ty.int Go.IntKind.i64))))),
                                    Sx.SV.lit (Go.Value.int Go.IntKind.i64 (Go.IntKind.wrap Go.IntKind.i64 ((↑b : Int) + (1 : Int))))],
                                  [Sx.SO.row e (Sx.Ty.int Go.IntKind.i64) L]) =
                                ([Sx.SV.sl (0 : Nat) (1 : Nat) (0 : Nat) m, Sx.SV.lit (Go.Value.int Go.IntKind.i64 (T4.mxOf (List.take x' L))),
                                    Sx.SV.lit (Go.Value.int Go.IntKind.i64 (↑x' : Int))],
                                  [Sx.SO.row e (Sx.Ty.int Go.IntKind.i64) L]) ∧
                              ((1 : Nat) ≤ x' ∧ x' ≤ m) ∧ m - x' < m - b) ∧
                          True)
                    (Q (Sx.SV.lit (Go.Value.int Go.IntKind.i64 (T4.mxOf (List.take b L))), [Sx.SO.row e (Sx.Ty.int Go.IntKind.i64) L], [])))) (by kernel_rfl) ?_
  refine br_intro (fun h => by have h := of_decide_eq_true h; omega) (fun _ => ⟨by omega, by omega, ⟨1, ?_, by omega⟩, fun i hi => br_intro (fun h => ?_) (fun h => ?_)⟩)
  · cases L with
    | nil => simp at hm; omega
    | cons x r => simp [mxOf, Ty.dflt]
  · have h := of_decide_eq_true h
    have hlt : i < L.length := by omega
    refine ⟨⟨by omega, by omega⟩, by simpa using hlt, ⟨i + 1, ?_, by omega, by omega⟩, trivial⟩
    rw [wrap_nat i (by omega), mxOf_step L i hi.1 hlt]
    simp only [Nat.zero_add, Ty.dflt]
  · have h := of_decide_eq_false h
    have : i = m := by omega
    subst this
    exact hq
noncomputable def s18 : Summ := fun args H => match args, H with
  | [.sl 0 1 0 m], [.row e (.int .i64) L] => .need (1 ≤ m ∧ m ≤ L.length ∧ m ≤ 1099511627776) (.ret (.lit (.int .i64 (mxOf (L.take m))), [.row e (.int .i64) L], []))
  | _, _ => .fail
theorem s18_ok : SummOK Try.prog 18 s18 := by
  refine summ_of_body (fn := Try.f18) (c := Try.f18.body.get!) T0_ok (by kernel_rfl) (by kernel_rfl) (by kernel_rfl) fun args H Q h => ?_
  unfold s18 at h
  split at h
  · rename_i m e L
    simp only [Tree.Leads] at h
    exact ⟨An1 0 (B18 e m L), w18 e m L Q h.1.1 h.1.2.1 h.1.2.2 h.2⟩
  · simp only [Tree.Leads] at h

noncomputable def B23 (e : TypeId) (m : Nat) (L ys : List Int) : Ann := { live := [0, 1, 5], mv := [], head := fun _ _ => { X := Nat, inv := fun i => ([.sl 0 1 0 m, .imm (.int .i64) ys, .lit (.int .i64 i)], [.row e (.int .i64) L]), ok := fun i => i ≤ m, mu := fun i => m - i } }
theorem w23 (e : TypeId) (m : Nat) (L ys : List Int) (Q : SV × Heap × List Nat → Prop) (hm : m = ys.length) (hl : ys <+: L) (hx : m ≤ 1099511627776)
    (hq : Q (.lit (.bool true), [.row e (.int .i64) L], [])) :
    (bodySumm T0 Try.prog Try.f23 (An1 0 (B23 e m L ys)) [.sl 0 1 0 m, .imm (.int .i64) ys] [.row e (.int .i64) L]).Leads Q := by
  refine Sx.by_text (q :=
      Sx.br ((↑m : Int) != (↑(List.length ys) : Int)) (Q (Sx.SV.lit (Go.Value.bool Bool.false), [Sx.SO.row e (Sx.Ty.int Go.IntKind.i64) L], []))
        ((∃ (x : Nat),
            ([Sx.SV.sl (0 : Nat) (1 : Nat) (0 : Nat) m, Sx.SV.imm (Sx.Ty.int Go.IntKind.i64) ys, Sx.SV.lit (Go.Value.int Go.IntKind.i64 (0 : Int))],
                  [Sx.SO.row e (Sx.Ty.int Go.IntKind.i64) L]) =
                ([Sx.SV.sl (0 : Nat) (1 : Nat) (0 : Nat) m, Sx.SV.imm (Sx.Ty.int Go.IntKind.i64) ys, Sx.SV.lit (Go.Value.int Go.IntKind.i64 (↑x : Int))],
                  [Sx.SO.row e (Sx.Ty.int Go.IntKind.i64) L]) ∧
              x ≤ m) ∧
          ∀ (b : Nat),
            b ≤ m →
              Sx.br (Decidable.decide ((↑b : Int) < (↑m : Int)))
                (((0 : Int) ≤ (↑b : Int) ∧ (↑b : Int) < (↑m : Int)) ∧
                  (0 : Nat) + b < List.length L ∧
                    ((0 : Int) ≤ (↑b : Int) ∧ (↑b : Int) < (↑(List.length ys) : Int)) ∧
                      b < List.length ys ∧
                        Sx.br (!List.getD L ((0 : Nat) + b) (Sx.Ty.dflt (Sx.Ty.int Go.IntKind.i64)) == List.getD ys b (Sx.Ty.dflt (Sx.Ty.int Go.IntKind.i64)))
                          (Q (Sx.SV.lit (Go.Value.bool Bool.false), [Sx.SO.row e (Sx.Ty.int Go.IntKind.i64) L], []))
                          ((∃ (x' : Nat),
                              ([Sx.SV.sl (0 : Nat) (1 : Nat) (0 : Nat) m, Sx.SV.imm (Sx.Ty.int Go.IntKind.i64) ys,
                                      Sx.SV.lit (Go.Value.int Go.IntKind.i64 (Go.IntKind.wrap Go.IntKind.i64 ((↑b : Int) + (1 : Int))))],
                                    [Sx.SO.row e (Sx.Ty.int Go.IntKind.i64) L]) =
                                  ([Sx.SV.sl (0 : Nat) (1 : Nat) (0 : Nat) m, Sx.SV.imm (Sx.Ty.int Go.IntKind.i64) ys, Sx.SV.lit (Go.Value.int Go.IntKind.i64 (↑x' : Int))],
                                    [Sx.SO.row e (Sx.Ty.int Go.IntKind.i64) L]) ∧
                                x' ≤ m ∧ m - x' < m - b) ∧
                            True))
                (Q (Sx.SV.lit (Go.Value.bool Bool.true), [Sx.SO.row e (Sx.Ty.int Go.IntKind.i64) L], [])))) (by kernel_rfl) ?_
  have hlen := hl.length_le
  refine br_intro (fun h => by simp [hm] at h) (fun _ => ⟨⟨0, by simp, by omega⟩, fun i hi => br_intro (fun h => ?_) (fun h => hq)⟩)
  have h := of_decide_eq_true h
  refine ⟨by omega, by omega, by omega, by omega, br_intro (fun hb => ?_) (fun _ => ⟨⟨i + 1, ?_, by omega, by omega⟩, trivial⟩)⟩
  · exfalso
    obtain ⟨r, rfl⟩ := hl
    have h1 : i < ys.length := by omega
    simp [Ty.dflt, List.getElem?_append_left h1] at hb
  · rw [wrap_nat i (by omega)]
noncomputable def s23 : Summ := fun args H => match args, H with
  | [.sl 0 1 0 m, .imm (.int .i64) ys], [.row e (.int .i64) L] => .need (m = ys.length ∧ ys <+: L ∧ m ≤ 1099511627776) (.ret (.lit (.bool true), [.row e (.int .i64) L], []))
  | _, _ => .fail
theorem s23_ok : SummOK Try.prog 23 s23 := by
  refine summ_of_body (fn := Try.f23) (c := Try.f23.body.get!) T0_ok (by kernel_rfl) (by kernel_rfl) (by kernel_rfl) fun args H Q h => ?_
  unfold s23 at h
  split at h
  · rename_i m ys e L
    simp only [Tree.Leads] at h
    exact ⟨An1 0 (B23 e m L ys), w23 e m L ys Q h.1.1 h.1.2.1 h.1.2.2 h.2⟩
  · simp only [Tree.Leads] at h

/-- Add, whatever list. -/
noncomputable def r7 : Summ := fun args H => match args, H with
  | [.ptr 0 0, .imm (.int .i64) xs], [.cells et [.lit (.int .i64 n)]] => .need (xs.length ≤ 1099511627776) (.ret (.lit (.int .i64 (IntKind.i64.wrap (n + sumW xs))), [.cells et [.lit (.int .i64 (IntKind.i64.wrap (n + sumW xs)))]], []))
  | [.ptr 0 0, .sl 1 1 0 m], [.cells et [.lit (.int .i64 n)], .row e (.int .i64) L] => .need (m ≤ L.length ∧ m ≤ 1099511627776) (.ret (.lit (.int .i64 (IntKind.i64.wrap (n + sumW (L.take m)))), [.cells et [.lit (.int .i64 (IntKind.i64.wrap (n + sumW (L.take m))))], .row e (.int .i64) L], []))
  | args, H => bodySumm T1 Try.prog Try.f7 noAn args H
theorem r7_ok : SummOK Try.prog 7 r7 := by
  refine summ_of_body (fn := Try.f7) (c := Try.f7.body.get!) T1_ok (by kernel_rfl) (by kernel_rfl) (by kernel_rfl) fun args H Q h => ?_
  unfold r7 at h
  split at h
  · rename_i xs et n
    simp only [Tree.Leads] at h
    exact ⟨An1 0 (A7 et n xs), v7 et n xs Q h.1 h.2⟩
  · rename_i m et n e L
    simp only [Tree.Leads] at h
    exact ⟨An1 0 (B7 et e n m L), w7 et e n m L Q h.1.1 h.1.2 h.2⟩
  · exact ⟨_, h⟩

noncomputable def T5 : Table := (T1.add 18 (.go s18)).add 9 (.go (bodySumm T1 Try.prog Try.f9 noAn))
theorem T5_ok : TableOK Try.prog T5 := add_ok (add_ok T1_ok s18_ok) (bodySumm_sound (c := Try.f9.body.get!) T1_ok (by kernel_rfl) (by kernel_rfl) (by kernel_rfl))

noncomputable def B8 (et e : TypeId) (n : Int) (m : Nat) (L : List Int) : Ann := { live := [0, 5], mv := [], head := fun _ _ => { X := Unit, inv := fun _ => ([.ptr 0 0, .lit (.int .i64 (mxOf (L.take m)))], [.cells et [.lit (.int .i64 n)], .row e (.int .i64) L]), ok := fun _ => True, mu := fun _ => 0 } }
theorem w8 (et e : TypeId) (n : Int) (m : Nat) (L : List Int) (Q : SV × Heap × List Nat → Prop) (hm : m ≤ L.length) (hx : m ≤ 1099511627776)
    (hq : Q (.lit (.int .i64 ((L.take m).foldl (fun m x => max m x) n)), [.cells et [.lit (.int .i64 ((L.take m).foldl (fun m x => max m x) n))], .row e (.int .i64) L], [])) :
    (bodySumm T5 Try.prog Try.f8 (An1 0 (B8 et e n m L)) [.ptr 0 0, .sl 1 1 0 m] [.cells et [.lit (.int .i64 n)], .row e (.int .i64) L]).Leads Q := by
  refine Sx.by_text (q :=
      Sx.br ((↑m : Int) == (0 : Int))
        (Q (Sx.SV.lit (Go.Value.int Go.IntKind.i64 n), [Sx.SO.cells et [Sx.SV.lit (Go.Value.int Go.IntKind.i64 n)], Sx.SO.row e (Sx.Ty.int Go.IntKind.i64) L], []))
        (((1 : Nat) ≤ m ∧ m ≤ List.length L ∧ m ≤ (1099511627776 : Nat)) ∧
          (∃ (x : Unit),
              ([Sx.SV.ptr (0 : Nat) (0 : Nat), Sx.SV.lit (Go.Value.int Go.IntKind.i64 (T4.mxOf (List.take m L)))],
                    [Sx.SO.cells et [Sx.SV.lit (Go.Value.int Go.IntKind.i64 n)], Sx.SO.row e (Sx.Ty.int Go.IntKind.i64) L]) =
                  ([Sx.SV.ptr (0 : Nat) (0 : Nat), Sx.SV.lit (Go.Value.int Go.IntKind.i64 (T4.mxOf (List.take m L)))],
                    [Sx.SO.cells et [Sx.SV.lit (Go.Value.int Go.IntKind.i64 n)], Sx.SO.row e (Sx.Ty.int Go.IntKind.i64) L]) ∧
                True) ∧
            ∀ (b : Unit),
              True →
                Sx.br (Decidable.decide (n ≥ T4.mxOf (List.take m L)))
                  (Q (Sx.SV.lit (Go.Value.int Go.IntKind.i64 n), [Sx.SO.cells et [Sx.SV.lit (Go.Value.int Go.IntKind.i64 n)], Sx.SO.row e (Sx.Ty.int Go.IntKind.i64) L], []))
                  (Sx.br (n == n)
                    (Q
                      (Sx.SV.lit (Go.Value.int Go.IntKind.i64 (T4.mxOf (List.take m L))),
                        [Sx.SO.cells et [Sx.SV.lit (Go.Value.int Go.IntKind.i64 (T4.mxOf (List.take m L)))], Sx.SO.row e (Sx.Ty.int Go.IntKind.i64) L], []))
                    ((∃ (x' : Unit),
                        ([Sx.SV.ptr (0 : Nat) (0 : Nat), Sx.SV.lit (Go.Value.int Go.IntKind.i64 (T4.mxOf (List.take m L)))],
                              [Sx.SO.cells et [Sx.SV.lit (Go.Value.int Go.IntKind.i64 n)], Sx.SO.row e (Sx.Ty.int Go.IntKind.i64) L]) =
                            ([Sx.SV.ptr (0 : Nat) (0 : Nat), Sx.SV.lit (Go.Value.int Go.IntKind.i64 (T4.mxOf (List.take m L)))],
                              [Sx.SO.cells et [Sx.SV.lit (Go.Value.int Go.IntKind.i64 n)], Sx.SO.row e (Sx.Ty.int Go.IntKind.i64) L]) ∧
                          True ∧ (0 : Nat) < (0 : Nat)) ∧
                      True)))) (by kernel_rfl) ?_
  refine br_intro (fun h => ?_) (fun h => ?_)
  · have h0 : m = 0 := by simpa using h
    subst h0
    simpa using hq
  · have h0 : m ≠ 0 := by
      intro e; subst e; simp at h
    have hne : L.take m ≠ [] := by
      intro e
      have := congrArg List.length e
      rw [List.length_take] at this
      simp only [List.length_nil] at this
      omega
    rw [mx_mxOf n _ hne] at hq
    refine ⟨⟨by omega, hm, hx⟩, ⟨(), rfl, trivial⟩, fun _ _ => br_intro (fun hg => ?_) (fun hg => br_intro (fun _ => ?_) (fun h => by simp at h))⟩
    · have hg := of_decide_eq_true hg
      rw [Int.max_eq_left (by omega)] at hq; exact hq
    · have hg := of_decide_eq_false hg
      rw [Int.max_eq_right (by omega)] at hq; exact hq
noncomputable def r8 : Summ := fun args H => match args, H with
  | [.ptr 0 0, .sl 1 1 0 m], [.cells et [.lit (.int .i64 n)], .row e (.int .i64) L] => .need (m ≤ L.length ∧ m ≤ 1099511627776) (.ret (.lit (.int .i64 ((L.take m).foldl (fun m x => max m x) n)), [.cells et [.lit (.int .i64 ((L.take m).foldl (fun m x => max m x) n))], .row e (.int .i64) L], []))
  | args, H => bodySumm T5 Try.prog Try.f8 noAn args H
theorem r8_ok : SummOK Try.prog 8 r8 := by
  refine summ_of_body (fn := Try.f8) (c := Try.f8.body.get!) T5_ok (by kernel_rfl) (by kernel_rfl) (by kernel_rfl) fun args H Q h => ?_
  unfold r8 at h
  split at h
  · rename_i m et n e L
    simp only [Tree.Leads] at h
    exact ⟨An1 0 (B8 et e n m L), w8 et e n m L Q h.1.1 h.1.2 h.2⟩
  · exact ⟨_, h⟩

noncomputable def T6 : Table := ((((T5.add 7 (.go r7)).add 8 (.go r8)).add 11 (.go (bodySumm T1 Try.prog Try.f11 noAn))).add 12 (.go (bodySumm T1 Try.prog Try.f12 noAn))).add 21 (.go (bodySumm T1 Try.prog Try.f21 noAn))
theorem T6_ok : TableOK Try.prog T6 := by
  refine add_ok (add_ok (add_ok (add_ok (add_ok T5_ok r7_ok) r8_ok) ?_) ?_) ?_
  · exact bodySumm_sound (c := Try.f11.body.get!) T1_ok (by kernel_rfl) (by kernel_rfl) (by kernel_rfl)
  · exact bodySumm_sound (c := Try.f12.body.get!) T1_ok (by kernel_rfl) (by kernel_rfl) (by kernel_rfl)
  · exact bodySumm_sound (c := Try.f21.body.get!) T1_ok (by kernel_rfl) (by kernel_rfl) (by kernel_rfl)
noncomputable def T7 : Table := (((T6.add 23 (.go s23)).add 10 (.go (bodySumm T6 Try.prog Try.f10 noAn))).add 13 (.go (bodySumm (T6.add 23 (.go s23)) Try.prog Try.f13 noAn))).add 6 (.go (bodySumm T6 Try.prog Try.f6 noAn))
theorem T7_ok : TableOK Try.prog T7 := by
  refine add_ok (add_ok (add_ok (add_ok T6_ok s23_ok) ?_) ?_) ?_
  · exact bodySumm_sound (c := Try.f10.body.get!) T6_ok (by kernel_rfl) (by kernel_rfl) (by kernel_rfl)
  · exact bodySumm_sound (c := Try.f13.body.get!) (add_ok T6_ok s23_ok) (by kernel_rfl) (by kernel_rfl) (by kernel_rfl)
  · exact bodySumm_sound (c := Try.f6.body.get!) T6_ok (by kernel_rfl) (by kernel_rfl) (by kernel_rfl)

@[reducible] def oty : Ty := .pair (.int .i64) (.pair (.int .i64) (.pair (.int .i64) (.imm (.int .i64))))
def In64 (n : Int) : Prop := -9223372036854775808 ≤ n ∧ n ≤ 9223372036854775807
noncomputable def Bo (l : List oty.den) : Ann := { live := [0, 3, 4, 5], mv := [], head := fun _ _ => { X := Nat × Int, inv := fun x => ([.imm oty l, .ptr 0 0, .lit (.int .i64 x.2), .lit (.int .i64 x.1)], [.cells 31 [.lit (.int .i64 x.2)]]), ok := fun x => x.1 ≤ l.length ∧ In64 x.2, mu := fun x => l.length - x.1 } }
noncomputable def Bk (s0 : Nat) (f : Int → List Int → Int) : Ann := { live := [0, 3, 4, 5, 6, 7, s0], mv := [], head := fun vals H => match vals, H with
  | [a, b, .lit (.int .i64 now), c, d, e, _], [h0, .cells et [q1, q2, q3, .imm (.int .i64) L], h2] => { X := Nat, inv := fun k => ([a, b, .lit (.int .i64 (f now (L.take k))), c, d, e, .lit (.int .i64 k)], [h0, .cells et [q1, q2, q3, .imm (.int .i64) L], h2]), ok := fun k => k ≤ L.length, mu := fun k => L.length - k }
  | _, _ => { X := Nat, inv := fun _ => ([], []), ok := fun _ => False, mu := fun _ => 0 } }
def addAll (n : Int) (xs : List Int) : Int := IntKind.i64.wrap (n + xs.sum)
def maxAll (n : Int) (xs : List Int) : Int := xs.foldl (fun m x => max m x) n
noncomputable def An4 (l : List oty.den) : Nat → Option Ann := An3 0 (Bo l) 3 (Bk 10 addAll) 5 (Bk 11 maxAll)
theorem addAll_nil (n : Int) (h : In64 n) : addAll n [] = n := by
  unfold addAll In64 at *
  simp only [IntKind.wrap_i64, List.sum_nil]; omega
theorem addAll_step (n : Int) (L : List Int) (k : Nat) (h : k < L.length) : IntKind.i64.wrap (addAll n (L.take k) + L.getD k (Ty.dflt (.int .i64))) = addAll n (L.take (k + 1)) := by
  unfold addAll
  rw [wrap_add, List.take_add_one, List.sum_append]
  simp [h, Int.add_assoc]
theorem maxAll_step (n : Int) (L : List Int) (k : Nat) (h : k < L.length) : max (maxAll n (L.take k)) (L.getD k (Ty.dflt (.int .i64))) = maxAll n (L.take (k + 1)) := by
  unfold maxAll
  rw [List.take_add_one, List.foldl_append]
  simp [h]
theorem addAll_in (n : Int) (L : List Int) : In64 (addAll n L) := by
  unfold addAll In64
  simp only [IntKind.wrap_i64]; omega
theorem maxAll_in (L : List Int) : ∀ (n : Int), In64 n → (∀ y ∈ L, In64 y) → In64 (maxAll n L) := by
  induction L with
  | nil => intro n h _; exact h
  | cons x r ih =>
    intro n h hr
    simp only [maxAll, List.foldl_cons]
    refine ih (max n x) ?_ fun y hy => hr y (List.mem_cons_of_mem _ hy)
    have := hr x (by simp)
    unfold In64 at *
    omega
theorem w4 (l : List oty.den) (hl : ∀ x ∈ l, In64 x.2.1 ∧ In64 x.2.2.1 ∧ ∀ y ∈ x.2.2.2, In64 y) (Q : SV × Heap × List Nat → Prop) (hq : Q (.lit (.bool true), [], [])) :
    (bodySumm T7 Try.prog Try.f4 (An4 l) [.imm oty l] []).Leads Q := by
  refine Sx.by_text (q :=
      Sx.br (Decidable.decide ((↑(List.length l) : Int) > (60 : Int)))
        (((2 : Nat) ≤ List.length [(2 : Int), (3 : Int)] ∧ (2 : Nat) ≤ (1099511627776 : Nat)) ∧
          ((1 : Nat) ≤ List.length [(4 : Int)] ∧ (1 : Nat) ≤ (1099511627776 : Nat)) ∧ Q (Sx.SV.lit (Go.Value.bool Bool.true), [], []))
        (((2 : Nat) ≤ List.length [(2 : Int), (3 : Int)] ∧ (2 : Nat) ≤ (1099511627776 : Nat)) ∧
          ((1 : Nat) ≤ List.length [(4 : Int)] ∧ (1 : Nat) ≤ (1099511627776 : Nat)) ∧
            (∃ (x : Nat × Int),
                ([Sx.SV.imm (Sx.Ty.pair (Sx.Ty.int Go.IntKind.i64) (Sx.Ty.pair (Sx.Ty.int Go.IntKind.i64) (Sx.Ty.pair (Sx.Ty.int Go.IntKind.i64) (Sx.Ty.imm (Sx.Ty.int Go.IntKind.i64)))))
                          l,
                        Sx.SV.ptr (0 : Nat) (0 : Nat), Sx.SV.lit (Go.Value.int Go.IntKind.i64 (0 : Int)), Sx.SV.lit (Go.Value.int Go.IntKind.i64 (0 : Int))],
                      [Sx.SO.cells (31 : Nat) [Sx.SV.lit (Go.Value.int Go.IntKind.i64 (0 : Int))]]) =
                    ([Sx.SV.imm
                          (Sx.Ty.pair (Sx.Ty.int Go.IntKind.i64) (Sx.Ty.pair (Sx.Ty.int Go.IntKind.i64) (Sx.Ty.pair (Sx.Ty.int Go.IntKind.i64) (Sx.Ty.imm (Sx.Ty.int Go.IntKind.i64)))))
                          l,
                        Sx.SV.ptr (0 : Nat) (0 : Nat), Sx.SV.lit (Go.Value.int Go.IntKind.i64 (Prod.snd x)), Sx.SV.lit (Go.Value.int Go.IntKind.i64 (↑(Prod.fst x) : Int))],
                      [Sx.SO.cells (31 : Nat) [Sx.SV.lit (Go.Value.int Go.IntKind.i64 (Prod.snd x))]]) ∧
                  Prod.fst x ≤ List.length l ∧ (-9223372036854775808 : Int) ≤ Prod.snd x ∧ Prod.snd x ≤ (9223372036854775807 : Int)) ∧
              ∀ (b : Nat × Int),
                Prod.fst b ≤ List.length l ∧ T4.In64 (Prod.snd b) →
                  Sx.br (Decidable.decide ((↑(Prod.fst b) : Int) < (↑(List.length l) : Int)))
                    (((0 : Int) ≤ (↑(Prod.fst b) : Int) ∧ (↑(Prod.fst b) : Int) < (↑(List.length l) : Int)) ∧
                      Prod.fst b < List.length l ∧
                        Sx.br (Decidable.decide ((↑(List.length (Prod.snd (Prod.snd (Prod.snd (List.getD l (Prod.fst b) (Sx.Ty.dflt T4.oty)))))) : Int) > (20 : Int)))
                          (Q (Sx.SV.lit (Go.Value.bool Bool.true), [], []))
                          (((↑((0 : Nat) + List.length (Prod.snd (Prod.snd (Prod.snd (List.getD l (Prod.fst b) (Sx.Ty.dflt T4.oty)))))) : Int) ≤ (9223372036854775807 : Int) ∧
                              ((0 : Nat) + List.length (Prod.snd (Prod.snd (Prod.snd (List.getD l (Prod.fst b) (Sx.Ty.dflt T4.oty)))))) * Sx.bytesOf Go.Proofs.Try.prog (3 : Nat) ≤
                                (140737488355328 : Nat)) ∧
                            (1 : Nat) ≤ List.length [(-77 : Int)] ∧
                              List.length (Prod.snd (Prod.snd (Prod.snd (List.getD l (Prod.fst b) (Sx.Ty.dflt T4.oty))))) =
                                  List.length (Prod.snd (Prod.snd (Prod.snd (List.getD l (Prod.fst b) (Sx.Ty.dflt T4.oty))))) ∧
                                ((↑(List.length (Prod.snd (Prod.snd (Prod.snd (List.getD l (Prod.fst b) (Sx.Ty.dflt T4.oty))))) +
                                            List.length (List.take (1 : Nat) (List.drop (0 : Nat) [(-77 : Int)]))) :
                                        Int) ≤
                                      (9223372036854775807 : Int) ∧
                                    (List.length (Prod.snd (Prod.snd (Prod.snd (List.getD l (Prod.fst b) (Sx.Ty.dflt T4.oty))))) +
                                          List.length (List.take (1 : Nat) (List.drop (0 : Nat) [(-77 : Int)]))) *
                                        Sx.bytesOf Go.Proofs.Try.prog (3 : Nat) ≤
                                      (140737488355328 : Nat)) ∧
                                  ((0 : Int) ≤ (↑(List.length (Prod.snd (Prod.snd (Prod.snd (List.getD l (Prod.fst b) (Sx.Ty.dflt T4.oty)))))) : Int) ∧
                                      (↑(List.length (Prod.snd (Prod.snd (Prod.snd (List.getD l (Prod.fst b) (Sx.Ty.dflt T4.oty)))))) : Int) ≤
                                        (↑(List.length
                                              (Prod.snd (Prod.snd (Prod.snd (List.getD l (Prod.fst b) (Sx.Ty.dflt T4.oty)))) ++
                                                List.take (1 : Nat) (List.drop (0 : Nat) [(-77 : Int)]))) :
                                          Int)) ∧
                                    True ∧
                                      Sx.br (Prod.fst (List.getD l (Prod.fst b) (Sx.Ty.dflt T4.oty)) == (1 : Int))
                                        ((∃ (x : Nat),
                                            ([Sx.SV.imm
                                                      (Sx.Ty.pair (Sx.Ty.int Go.IntKind.i64)
                                                        (Sx.Ty.pair (Sx.Ty.int Go.IntKind.i64) (Sx.Ty.pair (Sx.Ty.int Go.IntKind.i64) (Sx.Ty.imm (Sx.Ty.int Go.IntKind.i64)))))
                                                      l,
                                                    Sx.SV.ptr (0 : Nat) (0 : Nat), Sx.SV.lit (Go.Value.int Go.IntKind.i64 (Prod.snd b)),
                                                    Sx.SV.lit (Go.Value.int Go.IntKind.i64 (↑(Prod.fst b) : Int)), Sx.SV.ptr (1 : Nat) (0 : Nat),
                                                    Sx.SV.sl (2 : Nat) (1 : Nat) (0 : Nat) (List.length (Prod.snd (Prod.snd (Prod.snd (List.getD l (Prod.fst b) (Sx.Ty.dflt T4.oty)))))),
                                                    Sx.SV.lit (Go.Value.int Go.IntKind.i64 (0 : Int))],
                                                  [Sx.SO.cells (31 : Nat) [Sx.SV.lit (Go.Value.int Go.IntKind.i64 (Prod.snd b))],
                                                    Sx.SO.cells (37 : Nat)
                                                      [Sx.SV.lit (Go.Value.int Go.IntKind.i64 (Prod.fst (List.getD l (Prod.fst b) (Sx.Ty.dflt T4.oty)))),
                                                        Sx.SV.lit (Go.Value.int Go.IntKind.i64 (Prod.fst (Prod.snd (List.getD l (Prod.fst b) (Sx.Ty.dflt T4.oty))))),
                                                        Sx.SV.lit (Go.Value.int Go.IntKind.i64 (Prod.fst (Prod.snd (Prod.snd (List.getD l (Prod.fst b) (Sx.Ty.dflt T4.oty)))))),
                                                        Sx.SV.imm (Sx.Ty.int Go.IntKind.i64) (Prod.snd (Prod.snd (Prod.snd (List.getD l (Prod.fst b) (Sx.Ty.dflt T4.oty)))))],
                                                    Sx.SO.row (3 : Nat) (Sx.Ty.int Go.IntKind.i64)
                                                      (Prod.snd (Prod.snd (Prod.snd (List.getD l (Prod.fst b) (Sx.Ty.dflt T4.oty)))) ++
                                                        List.take (1 : Nat) (List.drop (0 : Nat) [(-77 : Int)]))]) =
                                                ([Sx.SV.imm
                                                      (Sx.Ty.pair (Sx.Ty.int Go.IntKind.i64)
                                                        (Sx.Ty.pair (Sx.Ty.int Go.IntKind.i64) (Sx.Ty.pair (Sx.Ty.int Go.IntKind.i64) (Sx.Ty.imm (Sx.Ty.int Go.IntKind.i64)))))
                                                      l,
                                                    Sx.SV.ptr (0 : Nat) (0 : Nat),
                                                    Sx.SV.lit
                                                      (Go.Value.int Go.IntKind.i64
                                                        (T4.addAll (Prod.snd b) (List.take x (Prod.snd (Prod.snd (Prod.snd (List.getD l (Prod.fst b) (Sx.Ty.dflt T4.oty)))))))),
                                                    Sx.SV.lit (Go.Value.int Go.IntKind.i64 (↑(Prod.fst b) : Int)), Sx.SV.ptr (1 : Nat) (0 : Nat),
                                                    Sx.SV.sl (2 : Nat) (1 : Nat) (0 : Nat) (List.length (Prod.snd (Prod.snd (Prod.snd (List.getD l (Prod.fst b) (Sx.Ty.dflt T4.oty)))))),
                                                    Sx.SV.lit (Go.Value.int Go.IntKind.i64 (↑x : Int))],
                                                  [Sx.SO.cells (31 : Nat) [Sx.SV.lit (Go.Value.int Go.IntKind.i64 (Prod.snd b))],
                                                    Sx.SO.cells (37 : Nat)
                                                      [Sx.SV.lit (Go.Value.int Go.IntKind.i64 (Prod.fst (List.getD l (Prod.fst b) (Sx.Ty.dflt T4.oty)))),
                                                        Sx.SV.lit (Go.Value.int Go.IntKind.i64 (Prod.fst (Prod.snd (List.getD l (Prod.fst b) (Sx.Ty.dflt T4.oty))))),
                                                        Sx.SV.lit (Go.Value.int Go.IntKind.i64 (Prod.fst (Prod.snd (Prod.snd (List.getD l (Prod.fst b) (Sx.Ty.dflt T4.oty)))))),
                                                        Sx.SV.imm (Sx.Ty.int Go.IntKind.i64) (Prod.snd (Prod.snd (Prod.snd (List.getD l (Prod.fst b) (Sx.Ty.dflt T4.oty)))))],
                                                    Sx.SO.row (3 : Nat) (Sx.Ty.int Go.IntKind.i64)
                                                      (Prod.snd (Prod.snd (Prod.snd (List.getD l (Prod.fst b) (Sx.Ty.dflt T4.oty)))) ++
                                                        List.take (1 : Nat) (List.drop (0 : Nat) [(-77 : Int)]))]) ∧
                                              x ≤ List.length (Prod.snd (Prod.snd (Prod.snd (List.getD l (Prod.fst b) (Sx.Ty.dflt T4.oty)))))) ∧
                                          ∀ (b_1 : Nat),
                                            b_1 ≤ List.length (Prod.snd (Prod.snd (Prod.snd (List.getD l (Prod.fst b) (Sx.Ty.dflt T4.oty))))) →
                                              Sx.br
                                                (Decidable.decide ((↑b_1 : Int) < (↑(List.length (Prod.snd (Prod.snd (Prod.snd (List.getD l (Prod.fst b) (Sx.Ty.dflt T4.oty)))))) : Int)))
                                                (((0 : Int) ≤ (↑b_1 : Int) ∧
                                                    (↑b_1 : Int) < (↑(List.length (Prod.snd (Prod.snd (Prod.snd (List.getD l (Prod.fst b) (Sx.Ty.dflt T4.oty)))))) : Int)) ∧
                                                  b_1 < List.length (Prod.snd (Prod.snd (Prod.snd (List.getD l (Prod.fst b) (Sx.Ty.dflt T4.oty))))) ∧
                                                    (∃ (x' : Nat),
                                                        ([Sx.SV.imm
                                                                  (Sx.Ty.pair (Sx.Ty.int Go.IntKind.i64)
                                                                    (Sx.Ty.pair (Sx.Ty.int Go.IntKind.i64)
                                                                      (Sx.Ty.pair (Sx.Ty.int Go.IntKind.i64) (Sx.Ty.imm (Sx.Ty.int Go.IntKind.i64)))))
                                                                  l,
                                                                Sx.SV.ptr (0 : Nat) (0 : Nat),
                                                                Sx.SV.lit
                                                                  (Go.Value.int Go.IntKind.i64
                                                                    (Go.IntKind.wrap Go.IntKind.i64
                                                                      (T4.addAll (Prod.snd b)
                                                                          (List.take b_1 (Prod.snd (Prod.snd (Prod.snd (List.getD l (Prod.fst b) (Sx.Ty.dflt T4.oty)))))) +
                                                                        List.getD (Prod.snd (Prod.snd (Prod.snd (List.getD l (Prod.fst b) (Sx.Ty.dflt T4.oty))))) b_1
                                                                          (Sx.Ty.dflt (Sx.Ty.int Go.IntKind.i64))))),
                                                                Sx.SV.lit (Go.Value.int Go.IntKind.i64 (↑(Prod.fst b) : Int)), Sx.SV.ptr (1 : Nat) (0 : Nat),
                                                                Sx.SV.sl (2 : Nat) (1 : Nat) (0 : Nat)
                                                                  (List.length (Prod.snd (Prod.snd (Prod.snd (List.getD l (Prod.fst b) (Sx.Ty.dflt T4.oty)))))),
                                                                Sx.SV.lit (Go.Value.int Go.IntKind.i64 (Go.IntKind.wrap Go.IntKind.i64 ((↑b_1 : Int) + (1 : Int))))],
                                                              [Sx.SO.cells (31 : Nat) [Sx.SV.lit (Go.Value.int Go.IntKind.i64 (Prod.snd b))],
                                                                Sx.SO.cells (37 : Nat)
                                                                  [Sx.SV.lit (Go.Value.int Go.IntKind.i64 (Prod.fst (List.getD l (Prod.fst b) (Sx.Ty.dflt T4.oty)))),
                                                                    Sx.SV.lit (Go.Value.int Go.IntKind.i64 (Prod.fst (Prod.snd (List.getD l (Prod.fst b) (Sx.Ty.dflt T4.oty))))),
                                                                    Sx.SV.lit
                                                                      (Go.Value.int Go.IntKind.i64 (Prod.fst (Prod.snd (Prod.snd (List.getD l (Prod.fst b) (Sx.Ty.dflt T4.oty)))))),
                                                                    Sx.SV.imm (Sx.Ty.int Go.IntKind.i64) (Prod.snd (Prod.snd (Prod.snd (List.getD l (Prod.fst b) (Sx.Ty.dflt T4.oty)))))],
                                                                Sx.SO.row (3 : Nat) (Sx.Ty.int Go.IntKind.i64)
                                                                  (Prod.snd (Prod.snd (Prod.snd (List.getD l (Prod.fst b) (Sx.Ty.dflt T4.oty)))) ++
                                                                    List.take (1 : Nat) (List.drop (0 : Nat) [(-77 : Int)]))]) =
                                                            ([Sx.SV.imm
                                                                  (Sx.Ty.pair (Sx.Ty.int Go.IntKind.i64)
                                                                    (Sx.Ty.pair (Sx.Ty.int Go.IntKind.i64)
                                                                      (Sx.Ty.pair (Sx.Ty.int Go.IntKind.i64) (Sx.Ty.imm (Sx.Ty.int Go.IntKind.i64)))))
                                                                  l,
                                                                Sx.SV.ptr (0 : Nat) (0 : Nat),
                                                                Sx.SV.lit
                                                                  (Go.Value.int Go.IntKind.i64
                                                                    (T4.addAll (Prod.snd b)
                                                                      (List.take x' (Prod.snd (Prod.snd (Prod.snd (List.getD l (Prod.fst b) (Sx.Ty.dflt T4.oty)))))))),
                                                                Sx.SV.lit (Go.Value.int Go.IntKind.i64 (↑(Prod.fst b) : Int)), Sx.SV.ptr (1 : Nat) (0 : Nat),
                                                                Sx.SV.sl (2 : Nat) (1 : Nat) (0 : Nat)
                                                                  (List.length (Prod.snd (Prod.snd (Prod.snd (List.getD l (Prod.fst b) (Sx.Ty.dflt T4.oty)))))),
                                                                Sx.SV.lit (Go.Value.int Go.IntKind.i64 (↑x' : Int))],
                                                              [Sx.SO.cells (31 : Nat) [Sx.SV.lit (Go.Value.int Go.IntKind.i64 (Prod.snd b))],
                                                                Sx.SO.cells (37 : Nat)
                                                                  [Sx.SV.lit (Go.Value.int Go.IntKind.i64 (Prod.fst (List.getD l (Prod.fst b) (Sx.Ty.dflt T4.oty)))),
                                                                    Sx.SV.lit (Go.Value.int Go.IntKind.i64 (Prod.fst (Prod.snd (List.getD l (Prod.fst b) (Sx.Ty.dflt T4.oty))))),
                                                                    Sx.SV.lit
                                                                      (Go.Value.int Go.IntKind.i64 (Prod.fst (Prod.snd (Prod.snd (List.getD l (Prod.fst b) (Sx.Ty.dflt T4.oty)))))),
                                                                    Sx.SV.imm (Sx.Ty.int Go.IntKind.i64) (Prod.snd (Prod.snd (Prod.snd (List.getD l (Prod.fst b) (Sx.Ty.dflt T4.oty)))))],
                                                                Sx.SO.row (3 : Nat) (Sx.Ty.int Go.IntKind.i64)
                                                                  (Prod.snd (Prod.snd (Prod.snd (List.getD l (Prod.fst b) (Sx.Ty.dflt T4.oty)))) ++
                                                                    List.take (1 : Nat) (List.drop (0 : Nat) [(-77 : Int)]))]) ∧
                                                          x' ≤ List.length (Prod.snd (Prod.snd (Prod.snd (List.getD l (Prod.fst b) (Sx.Ty.dflt T4.oty))))) ∧
                                                            List.length (Prod.snd (Prod.snd (Prod.snd (List.getD l (Prod.fst b) (Sx.Ty.dflt T4.oty))))) - x' <
                                                              List.length (Prod.snd (Prod.snd (Prod.snd (List.getD l (Prod.fst b) (Sx.Ty.dflt T4.oty))))) - b_1) ∧
                                                      True)
                                                ((List.length (Prod.snd (Prod.snd (Prod.snd (List.getD l (Prod.fst b) (Sx.Ty.dflt T4.oty))))) ≤
                                                      List.length
                                                        (Prod.snd (Prod.snd (Prod.snd (List.getD l (Prod.fst b) (Sx.Ty.dflt T4.oty)))) ++
                                                          List.take (1 : Nat) (List.drop (0 : Nat) [(-77 : Int)])) ∧
                                                    List.length (Prod.snd (Prod.snd (Prod.snd (List.getD l (Prod.fst b) (Sx.Ty.dflt T4.oty))))) ≤ (1099511627776 : Nat)) ∧
                                                  Sx.br
                                                    (!Go.IntKind.wrap Go.IntKind.i64
                                                          (Prod.snd b +
                                                            T3.sumW
                                                              (List.take (List.length (Prod.snd (Prod.snd (Prod.snd (List.getD l (Prod.fst b) (Sx.Ty.dflt T4.oty))))))
                                                                (Prod.snd (Prod.snd (Prod.snd (List.getD l (Prod.fst b) (Sx.Ty.dflt T4.oty)))) ++
                                                                  List.take (1 : Nat) (List.drop (0 : Nat) [(-77 : Int)])))) ==
                                                        T4.addAll (Prod.snd b) (List.take b_1 (Prod.snd (Prod.snd (Prod.snd (List.getD l (Prod.fst b) (Sx.Ty.dflt T4.oty)))))))
                                                    (Q (Sx.SV.lit (Go.Value.bool Bool.false), [], []))
                                                    (Sx.br
                                                      (Go.IntKind.wrap Go.IntKind.i64
                                                          (Prod.snd b +
                                                            T3.sumW
                                                              (List.take (List.length (Prod.snd (Prod.snd (Prod.snd (List.getD l (Prod.fst b) (Sx.Ty.dflt T4.oty))))))
                                                                (Prod.snd (Prod.snd (Prod.snd (List.getD l (Prod.fst b) (Sx.Ty.dflt T4.oty)))) ++
                                                                  List.take (1 : Nat) (List.drop (0 : Nat) [(-77 : Int)])))) !=
                                                        T4.addAll (Prod.snd b) (List.take b_1 (Prod.snd (Prod.snd (Prod.snd (List.getD l (Prod.fst b) (Sx.Ty.dflt T4.oty)))))))
                                                      (Q (Sx.SV.lit (Go.Value.bool Bool.false), [], []))
                                                      ((List.length (Prod.snd (Prod.snd (Prod.snd (List.getD l (Prod.fst b) (Sx.Ty.dflt T4.oty))))) =
                                                            List.length (Prod.snd (Prod.snd (Prod.snd (List.getD l (Prod.fst b) (Sx.Ty.dflt T4.oty))))) ∧
                                                          (∃ (t : List (Sx.Ty.den (Sx.Ty.int Go.IntKind.i64))),
                                                              Prod.snd (Prod.snd (Prod.snd (List.getD l (Prod.fst b) (Sx.Ty.dflt T4.oty)))) ++ t =
                                                                Prod.snd (Prod.snd (Prod.snd (List.getD l (Prod.fst b) (Sx.Ty.dflt T4.oty)))) ++
                                                                  List.take (1 : Nat) (List.drop (0 : Nat) [(-77 : Int)])) ∧
                                                            List.length (Prod.snd (Prod.snd (Prod.snd (List.getD l (Prod.fst b) (Sx.Ty.dflt T4.oty))))) ≤ (1099511627776 : Nat)) ∧
                                                        ((0 : Int) ≤
                                                              Go.IntKind.wrap Go.IntKind.i64
                                                                ((↑(List.length (Prod.snd (Prod.snd (Prod.snd (List.getD l (Prod.fst b) (Sx.Ty.dflt T4.oty)))))) : Int) + (1 : Int)) ∧
                                                            Go.IntKind.wrap Go.IntKind.i64
                                                                ((↑(List.length (Prod.snd (Prod.snd (Prod.snd (List.getD l (Prod.fst b) (Sx.Ty.dflt T4.oty)))))) : Int) + (1 : Int)) ≤
                                                              (↑(List.length
                                                                    (Prod.snd (Prod.snd (Prod.snd (List.getD l (Prod.fst b) (Sx.Ty.dflt T4.oty)))) ++
                                                                      List.take (1 : Nat) (List.drop (0 : Nat) [(-77 : Int)]))) :
                                                                Int)) ∧
                                                          True ∧
                                                            ((0 : Int) ≤ (↑(List.length (Prod.snd (Prod.snd (Prod.snd (List.getD l (Prod.fst b) (Sx.Ty.dflt T4.oty)))))) : Int) ∧
                                                                (↑(List.length (Prod.snd (Prod.snd (Prod.snd (List.getD l (Prod.fst b) (Sx.Ty.dflt T4.oty)))))) : Int) <
                                                                  (↑(Int.toNat
                                                                        (Go.IntKind.wrap Go.IntKind.i64
                                                                          ((↑(List.length (Prod.snd (Prod.snd (Prod.snd (List.getD l (Prod.fst b) (Sx.Ty.dflt T4.oty)))))) : Int) +
                                                                            (1 : Int)))) :
                                                                    Int)) ∧
                                                              (0 : Nat) + List.length (Prod.snd (Prod.snd (Prod.snd (List.getD l (Prod.fst b) (Sx.Ty.dflt T4.oty))))) <
                                                                  List.length
                                                                    (Prod.snd (Prod.snd (Prod.snd (List.getD l (Prod.fst b) (Sx.Ty.dflt T4.oty)))) ++
                                                                      List.take (1 : Nat) (List.drop (0 : Nat) [(-77 : Int)])) ∧
                                                                Sx.br
                                                                  (!List.getD
                                                                        (Prod.snd (Prod.snd (Prod.snd (List.getD l (Prod.fst b) (Sx.Ty.dflt T4.oty)))) ++
                                                                          List.take (1 : Nat) (List.drop (0 : Nat) [(-77 : Int)]))
                                                                        ((0 : Nat) + List.length (Prod.snd (Prod.snd (Prod.snd (List.getD l (Prod.fst b) (Sx.Ty.dflt T4.oty))))))
                                                                        (Sx.Ty.dflt (Sx.Ty.int Go.IntKind.i64)) ==
                                                                      (-77 : Int))
                                                                  (Q (Sx.SV.lit (Go.Value.bool Bool.false), [], []))
                                                                  ((∃ (x' : Nat × Int),
                                                                      ([Sx.SV.imm
                                                                                (Sx.Ty.pair (Sx.Ty.int Go.IntKind.i64)
                                                                                  (Sx.Ty.pair (Sx.Ty.int Go.IntKind.i64)
                                                                                    (Sx.Ty.pair (Sx.Ty.int Go.IntKind.i64) (Sx.Ty.imm (Sx.Ty.int Go.IntKind.i64)))))
                                                                                l,
                                                                              Sx.SV.ptr (0 : Nat) (0 : Nat),
                                                                              Sx.SV.lit
                                                                                (Go.Value.int Go.IntKind.i64
                                                                                  (T4.addAll (Prod.snd b)
                                                                                    (List.take b_1 (Prod.snd (Prod.snd (Prod.snd (List.getD l (Prod.fst b) (Sx.Ty.dflt T4.oty)))))))),
                                                                              Sx.SV.lit
                                                                                (Go.Value.int Go.IntKind.i64 (Go.IntKind.wrap Go.IntKind.i64 ((↑(Prod.fst b) : Int) + (1 : Int))))],
                                                                            [Sx.SO.cells (31 : Nat)
                                                                                [Sx.SV.lit
                                                                                    (Go.Value.int Go.IntKind.i64
                                                                                      (Go.IntKind.wrap Go.IntKind.i64
                                                                                        (Prod.snd b +
                                                                                          T3.sumW
                                                                                            (List.take
                                                                                              (List.length
                                                                                                (Prod.snd (Prod.snd (Prod.snd (List.getD l (Prod.fst b) (Sx.Ty.dflt T4.oty))))))
                                                                                              (Prod.snd (Prod.snd (Prod.snd (List.getD l (Prod.fst b) (Sx.Ty.dflt T4.oty)))) ++
                                                                                                List.take (1 : Nat) (List.drop (0 : Nat) [(-77 : Int)]))))))]]) =
                                                                          ([Sx.SV.imm
                                                                                (Sx.Ty.pair (Sx.Ty.int Go.IntKind.i64)
                                                                                  (Sx.Ty.pair (Sx.Ty.int Go.IntKind.i64)
                                                                                    (Sx.Ty.pair (Sx.Ty.int Go.IntKind.i64) (Sx.Ty.imm (Sx.Ty.int Go.IntKind.i64)))))
                                                                                l,
                                                                              Sx.SV.ptr (0 : Nat) (0 : Nat), Sx.SV.lit (Go.Value.int Go.IntKind.i64 (Prod.snd x')),
                                                                              Sx.SV.lit (Go.Value.int Go.IntKind.i64 (↑(Prod.fst x') : Int))],
                                                                            [Sx.SO.cells (31 : Nat) [Sx.SV.lit (Go.Value.int Go.IntKind.i64 (Prod.snd x'))]]) ∧
                                                                        (Prod.fst x' ≤ List.length l ∧
                                                                            (-9223372036854775808 : Int) ≤ Prod.snd x' ∧ Prod.snd x' ≤ (9223372036854775807 : Int)) ∧
                                                                          List.length l - Prod.fst x' < List.length l - Prod.fst b) ∧
                                                                    True)))))
                                        (Sx.br (Prod.fst (List.getD l (Prod.fst b) (Sx.Ty.dflt T4.oty)) == (2 : Int))
                                          ((∃ (x : Nat),
                                              ([Sx.SV.imm
                                                        (Sx.Ty.pair (Sx.Ty.int Go.IntKind.i64)
                                                          (Sx.Ty.pair (Sx.Ty.int Go.IntKind.i64) (Sx.Ty.pair (Sx.Ty.int Go.IntKind.i64) (Sx.Ty.imm (Sx.Ty.int Go.IntKind.i64)))))
                                                        l,
                                                      Sx.SV.ptr (0 : Nat) (0 : Nat), Sx.SV.lit (Go.Value.int Go.IntKind.i64 (Prod.snd b)),
                                                      Sx.SV.lit (Go.Value.int Go.IntKind.i64 (↑(Prod.fst b) : Int)), Sx.SV.ptr (1 : Nat) (0 : Nat),
                                                      Sx.SV.sl (2 : Nat) (1 : Nat) (0 : Nat)
                                                        (List.length (Prod.snd (Prod.snd (Prod.snd (List.getD l (Prod.fst b) (Sx.Ty.dflt T4.oty)))))),
                                                      Sx.SV.lit (Go.Value.int Go.IntKind.i64 (0 : Int))],
                                                    [Sx.SO.cells (31 : Nat) [Sx.SV.lit (Go.Value.int Go.IntKind.i64 (Prod.snd b))],
                                                      Sx.SO.cells (37 : Nat)
                                                        [Sx.SV.lit (Go.Value.int Go.IntKind.i64 (Prod.fst (List.getD l (Prod.fst b) (Sx.Ty.dflt T4.oty)))),
                                                          Sx.SV.lit (Go.Value.int Go.IntKind.i64 (Prod.fst (Prod.snd (List.getD l (Prod.fst b) (Sx.Ty.dflt T4.oty))))),
                                                          Sx.SV.lit (Go.Value.int Go.IntKind.i64 (Prod.fst (Prod.snd (Prod.snd (List.getD l (Prod.fst b) (Sx.Ty.dflt T4.oty)))))),
                                                          Sx.SV.imm (Sx.Ty.int Go.IntKind.i64) (Prod.snd (Prod.snd (Prod.snd (List.getD l (Prod.fst b) (Sx.Ty.dflt T4.oty)))))],
                                                      Sx.SO.row (3 : Nat) (Sx.Ty.int Go.IntKind.i64)
                                                        (Prod.snd (Prod.snd (Prod.snd (List.getD l (Prod.fst b) (Sx.Ty.dflt T4.oty)))) ++
                                                          List.take (1 : Nat) (List.drop (0 : Nat) [(-77 : Int)]))]) =
                                                  ([Sx.SV.imm
                                                        (Sx.Ty.pair (Sx.Ty.int Go.IntKind.i64)
                                                          (Sx.Ty.pair (Sx.Ty.int Go.IntKind.i64) (Sx.Ty.pair (Sx.Ty.int Go.IntKind.i64) (Sx.Ty.imm (Sx.Ty.int Go.IntKind.i64)))))
                                                        l,
                                                      Sx.SV.ptr (0 : Nat) (0 : Nat),
                                                      Sx.SV.lit
                                                        (Go.Value.int Go.IntKind.i64
                                                          (T4.maxAll (Prod.snd b) (List.take x (Prod.snd (Prod.snd (Prod.snd (List.getD l (Prod.fst b) (Sx.Ty.dflt T4.oty)))))))),
                                                      Sx.SV.lit (Go.Value.int Go.IntKind.i64 (↑(Prod.fst b) : Int)), Sx.SV.ptr (1 : Nat) (0 : Nat),
                                                      Sx.SV.sl (2 : Nat) (1 : Nat) (0 : Nat)
                                                        (List.length (Prod.snd (Prod.snd (Prod.snd (List.getD l (Prod.fst b) (Sx.Ty.dflt T4.oty)))))),
                                                      Sx.SV.lit (Go.Value.int Go.IntKind.i64 (↑x : Int))],
                                                    [Sx.SO.cells (31 : Nat) [Sx.SV.lit (Go.Value.int Go.IntKind.i64 (Prod.snd b))],
                                                      Sx.SO.cells (37 : Nat)
                                                        [Sx.SV.lit (Go.Value.int Go.IntKind.i64 (Prod.fst (List.getD l (Prod.fst b) (Sx.Ty.dflt T4.oty)))),
                                                          Sx.SV.lit (Go.Value.int Go.IntKind.i64 (Prod.fst (Prod.snd (List.getD l (Prod.fst b) (Sx.Ty.dflt T4.oty))))),
                                                          Sx.SV.lit (Go.Value.int Go.IntKind.i64 (Prod.fst (Prod.snd (Prod.snd (List.getD l (Prod.fst b) (Sx.Ty.dflt T4.oty)))))),
                                                          Sx.SV.imm (Sx.Ty.int Go.IntKind.i64) (Prod.snd (Prod.snd (Prod.snd (List.getD l (Prod.fst b) (Sx.Ty.dflt T4.oty)))))],
                                                      Sx.SO.row (3 : Nat) (Sx.Ty.int Go.IntKind.i64)
                                                        (Prod.snd (Prod.snd (Prod.snd (List.getD l (Prod.fst b) (Sx.Ty.dflt T4.oty)))) ++
                                                          List.take (1 : Nat) (List.drop (0 : Nat) [(-77 : Int)]))]) ∧
                                                x ≤ List.length (Prod.snd (Prod.snd (Prod.snd (List.getD l (Prod.fst b) (Sx.Ty.dflt T4.oty)))))) ∧
                                            ∀ (b_1 : Nat),
                                              b_1 ≤ List.length (Prod.snd (Prod.snd (Prod.snd (List.getD l (Prod.fst b) (Sx.Ty.dflt T4.oty))))) →
                                                Sx.br
                                                  (Decidable.decide
                                                    ((↑b_1 : Int) < (↑(List.length (Prod.snd (Prod.snd (Prod.snd (List.getD l (Prod.fst b) (Sx.Ty.dflt T4.oty)))))) : Int)))
                                                  (((0 : Int) ≤ (↑b_1 : Int) ∧
                                                      (↑b_1 : Int) < (↑(List.length (Prod.snd (Prod.snd (Prod.snd (List.getD l (Prod.fst b) (Sx.Ty.dflt T4.oty)))))) : Int)) ∧
                                                    b_1 < List.length (Prod.snd (Prod.snd (Prod.snd (List.getD l (Prod.fst b) (Sx.Ty.dflt T4.oty))))) ∧
                                                      (∃ (x' : Nat),
                                                          ([Sx.SV.imm
                                                                    (Sx.Ty.pair (Sx.Ty.int Go.IntKind.i64)
                                                                      (Sx.Ty.pair (Sx.Ty.int Go.IntKind.i64)
                                                                        (Sx.Ty.pair (Sx.Ty.int Go.IntKind.i64) (Sx.Ty.imm (Sx.Ty.int Go.IntKind.i64)))))
                                                                    l,
                                                                  Sx.SV.ptr (0 : Nat) (0 : Nat),
                                                                  Sx.SV.lit
                                                                    (Go.Value.int Go.IntKind.i64
                                                                      (Max.max
                                                                        (T4.maxAll (Prod.snd b)
                                                                          (List.take b_1 (Prod.snd (Prod.snd (Prod.snd (List.getD l (Prod.fst b) (Sx.Ty.dflt T4.oty)))))))
                                                                        (List.getD (Prod.snd (Prod.snd (Prod.snd (List.getD l (Prod.fst b) (Sx.Ty.dflt T4.oty))))) b_1
                                                                          (Sx.Ty.dflt (Sx.Ty.int Go.IntKind.i64))))),
                                                                  Sx.SV.lit (Go.Value.int Go.IntKind.i64 (↑(Prod.fst b) : Int)), Sx.SV.ptr (1 : Nat) (0 : Nat),
                                                                  Sx.SV.sl (2 : Nat) (1 : Nat) (0 : Nat)
                                                                    (List.length (Prod.snd (Prod.snd (Prod.snd (List.getD l (Prod.fst b) (Sx.Ty.dflt T4.oty)))))),
                                                                  Sx.SV.lit (Go.Value.int Go.IntKind.i64 (Go.IntKind.wrap Go.IntKind.i64 ((↑b_1 : Int) + (1 : Int))))],
                                                                [Sx.SO.cells (31 : Nat) [Sx.SV.lit (Go.Value.int Go.IntKind.i64 (Prod.snd b))],
                                                                  Sx.SO.cells (37 : Nat)
                                                                    [Sx.SV.lit (Go.Value.int Go.IntKind.i64 (Prod.fst (List.getD l (Prod.fst b) (Sx.Ty.dflt T4.oty)))),
                                                                      Sx.SV.lit (Go.Value.int Go.IntKind.i64 (Prod.fst (Prod.snd (List.getD l (Prod.fst b) (Sx.Ty.dflt T4.oty))))),
                                                                      Sx.SV.lit
                                                                        (Go.Value.int Go.IntKind.i64 (Prod.fst (Prod.snd (Prod.snd (List.getD l (Prod.fst b) (Sx.Ty.dflt T4.oty)))))),
                                                                      Sx.SV.imm (Sx.Ty.int Go.IntKind.i64)
                                                                        (Prod.snd (Prod.snd (Prod.snd (List.getD l (Prod.fst b) (Sx.Ty.dflt T4.oty)))))],
                                                                  Sx.SO.row (3 : Nat) (Sx.Ty.int Go.IntKind.i64)
                                                                    (Prod.snd (Prod.snd (Prod.snd (List.getD l (Prod.fst b) (Sx.Ty.dflt T4.oty)))) ++
                                                                      List.take (1 : Nat) (List.drop (0 : Nat) [(-77 : Int)]))]) =
                                                              ([Sx.SV.imm
                                                                    (Sx.Ty.pair (Sx.Ty.int Go.IntKind.i64)
                                                                      (Sx.Ty.pair (Sx.Ty.int Go.IntKind.i64)
                                                                        (Sx.Ty.pair (Sx.Ty.int Go.IntKind.i64) (Sx.Ty.imm (Sx.Ty.int Go.IntKind.i64)))))
                                                                    l,
                                                                  Sx.SV.ptr (0 : Nat) (0 : Nat),
                                                                  Sx.SV.lit
                                                                    (Go.Value.int Go.IntKind.i64
                                                                      (T4.maxAll (Prod.snd b)
                                                                        (List.take x' (Prod.snd (Prod.snd (Prod.snd (List.getD l (Prod.fst b) (Sx.Ty.dflt T4.oty)))))))),
                                                                  Sx.SV.lit (Go.Value.int Go.IntKind.i64 (↑(Prod.fst b) : Int)), Sx.SV.ptr (1 : Nat) (0 : Nat),
                                                                  Sx.SV.sl (2 : Nat) (1 : Nat) (0 : Nat)
                                                                    (List.length (Prod.snd (Prod.snd (Prod.snd (List.getD l (Prod.fst b) (Sx.Ty.dflt T4.oty)))))),
                                                                  Sx.SV.lit (Go.Value.int Go.IntKind.i64 (↑x' : Int))],
                                                                [Sx.SO.cells (31 : Nat) [Sx.SV.lit (Go.Value.int Go.IntKind.i64 (Prod.snd b))],
                                                                  Sx.SO.cells (37 : Nat)
                                                                    [Sx.SV.lit (Go.Value.int Go.IntKind.i64 (Prod.fst (List.getD l (Prod.fst b) (Sx.Ty.dflt T4.oty)))),
                                                                      Sx.SV.lit (Go.Value.int Go.IntKind.i64 (Prod.fst (Prod.snd (List.getD l (Prod.fst b) (Sx.Ty.dflt T4.oty))))),
                                                                      Sx.SV.lit
                                                                        (Go.Value.int Go.IntKind.i64 (Prod.fst (Prod.snd (Prod.snd (List.getD l (Prod.fst b) (Sx.Ty.dflt T4.oty)))))),
                                                                      Sx.SV.imm (Sx.Ty.int Go.IntKind.i64)
                                                                        (Prod.snd (Prod.snd (Prod.snd (List.getD l (Prod.fst b) (Sx.Ty.dflt T4.oty)))))],
                                                                  Sx.SO.row (3 : Nat) (Sx.Ty.int Go.IntKind.i64)
                                                                    (Prod.snd (Prod.snd (Prod.snd (List.getD l (Prod.fst b) (Sx.Ty.dflt T4.oty)))) ++
                                                                      List.take (1 : Nat) (List.drop (0 : Nat) [(-77 : Int)]))]) ∧
                                                            x' ≤ List.length (Prod.snd (Prod.snd (Prod.snd (List.getD l (Prod.fst b) (Sx.Ty.dflt T4.oty))))) ∧
                                                              List.length (Prod.snd (Prod.snd (Prod.snd (List.getD l (Prod.fst b) (Sx.Ty.dflt T4.oty))))) - x' <
                                                                List.length (Prod.snd (Prod.snd (Prod.snd (List.getD l (Prod.fst b) (Sx.Ty.dflt T4.oty))))) - b_1) ∧
                                                        True)
                                                  ((List.length (Prod.snd (Prod.snd (Prod.snd (List.getD l (Prod.fst b) (Sx.Ty.dflt T4.oty))))) ≤
                                                        List.length
                                                          (Prod.snd (Prod.snd (Prod.snd (List.getD l (Prod.fst b) (Sx.Ty.dflt T4.oty)))) ++
                                                            List.take (1 : Nat) (List.drop (0 : Nat) [(-77 : Int)])) ∧
                                                      List.length (Prod.snd (Prod.snd (Prod.snd (List.getD l (Prod.fst b) (Sx.Ty.dflt T4.oty))))) ≤ (1099511627776 : Nat)) ∧
                                                    Sx.br
                                                      (!List.foldl (fun (m x : Int) => Max.max m x) (Prod.snd b)
                                                            (List.take (List.length (Prod.snd (Prod.snd (Prod.snd (List.getD l (Prod.fst b) (Sx.Ty.dflt T4.oty))))))
                                                              (Prod.snd (Prod.snd (Prod.snd (List.getD l (Prod.fst b) (Sx.Ty.dflt T4.oty)))) ++
                                                                List.take (1 : Nat) (List.drop (0 : Nat) [(-77 : Int)]))) ==
                                                          T4.maxAll (Prod.snd b) (List.take b_1 (Prod.snd (Prod.snd (Prod.snd (List.getD l (Prod.fst b) (Sx.Ty.dflt T4.oty)))))))
                                                      (Q (Sx.SV.lit (Go.Value.bool Bool.false), [], []))
                                                      (Sx.br
                                                        (List.foldl (fun (m x : Int) => Max.max m x) (Prod.snd b)
                                                            (List.take (List.length (Prod.snd (Prod.snd (Prod.snd (List.getD l (Prod.fst b) (Sx.Ty.dflt T4.oty))))))
                                                              (Prod.snd (Prod.snd (Prod.snd (List.getD l (Prod.fst b) (Sx.Ty.dflt T4.oty)))) ++
                                                                List.take (1 : Nat) (List.drop (0 : Nat) [(-77 : Int)]))) !=
                                                          T4.maxAll (Prod.snd b) (List.take b_1 (Prod.snd (Prod.snd (Prod.snd (List.getD l (Prod.fst b) (Sx.Ty.dflt T4.oty)))))))
                                                        (Q (Sx.SV.lit (Go.Value.bool Bool.false), [], []))
                                                        ((List.length (Prod.snd (Prod.snd (Prod.snd (List.getD l (Prod.fst b) (Sx.Ty.dflt T4.oty))))) =
                                                              List.length (Prod.snd (Prod.snd (Prod.snd (List.getD l (Prod.fst b) (Sx.Ty.dflt T4.oty))))) ∧
                                                            (∃ (t : List (Sx.Ty.den (Sx.Ty.int Go.IntKind.i64))),
                                                                Prod.snd (Prod.snd (Prod.snd (List.getD l (Prod.fst b) (Sx.Ty.dflt T4.oty)))) ++ t =
                                                                  Prod.snd (Prod.snd (Prod.snd (List.getD l (Prod.fst b) (Sx.Ty.dflt T4.oty)))) ++
                                                                    List.take (1 : Nat) (List.drop (0 : Nat) [(-77 : Int)])) ∧
                                                              List.length (Prod.snd (Prod.snd (Prod.snd (List.getD l (Prod.fst b) (Sx.Ty.dflt T4.oty))))) ≤ (1099511627776 : Nat)) ∧
                                                          ((0 : Int) ≤
                                                                Go.IntKind.wrap Go.IntKind.i64
                                                                  ((↑(List.length (Prod.snd (Prod.snd (Prod.snd (List.getD l (Prod.fst b) (Sx.Ty.dflt T4.oty)))))) : Int) + (1 : Int)) ∧
                                                              Go.IntKind.wrap Go.IntKind.i64
                                                                  ((↑(List.length (Prod.snd (Prod.snd (Prod.snd (List.getD l (Prod.fst b) (Sx.Ty.dflt T4.oty)))))) : Int) + (1 : Int)) ≤
                                                                (↑(List.length
                                                                      (Prod.snd (Prod.snd (Prod.snd (List.getD l (Prod.fst b) (Sx.Ty.dflt T4.oty)))) ++
                                                                        List.take (1 : Nat) (List.drop (0 : Nat) [(-77 : Int)]))) :
                                                                  Int)) ∧
                                                            True ∧
                                                              ((0 : Int) ≤ (↑(List.length (Prod.snd (Prod.snd (Prod.snd (List.getD l (Prod.fst b) (Sx.Ty.dflt T4.oty)))))) : Int) ∧
                                                                  (↑(List.length (Prod.snd (Prod.snd (Prod.snd (List.getD l (Prod.fst b) (Sx.Ty.dflt T4.oty)))))) : Int) <
                                                                    (↑(Int.toNat
                                                                          (Go.IntKind.wrap Go.IntKind.i64
                                                                            ((↑(List.length (Prod.snd (Prod.snd (Prod.snd (List.getD l (Prod.fst b) (Sx.Ty.dflt T4.oty)))))) : Int) +
                                                                              (1 : Int)))) :
                                                                      Int)) ∧
                                                                (0 : Nat) + List.length (Prod.snd (Prod.snd (Prod.snd (List.getD l (Prod.fst b) (Sx.Ty.dflt T4.oty))))) <
                                                                    List.length
                                                                      (Prod.snd (Prod.snd (Prod.snd (List.getD l (Prod.fst b) (Sx.Ty.dflt T4.oty)))) ++
                                                                        List.take (1 : Nat) (List.drop (0 : Nat) [(-77 : Int)])) ∧
                                                                  Sx.br
                                                                    (!List.getD
                                                                          (Prod.snd (Prod.snd (Prod.snd (List.getD l (Prod.fst b) (Sx.Ty.dflt T4.oty)))) ++
                                                                            List.take (1 : Nat) (List.drop (0 : Nat) [(-77 : Int)]))
                                                                          ((0 : Nat) + List.length (Prod.snd (Prod.snd (Prod.snd (List.getD l (Prod.fst b) (Sx.Ty.dflt T4.oty))))))
                                                                          (Sx.Ty.dflt (Sx.Ty.int Go.IntKind.i64)) ==
                                                                        (-77 : Int))
                                                                    (Q (Sx.SV.lit (Go.Value.bool Bool.false), [], []))
                                                                    ((∃ (x' : Nat × Int),
                                                                        ([Sx.SV.imm
                                                                                  (Sx.Ty.pair (Sx.Ty.int Go.IntKind.i64)
                                                                                    (Sx.Ty.pair (Sx.Ty.int Go.IntKind.i64)
                                                                                      (Sx.Ty.pair (Sx.Ty.int Go.IntKind.i64) (Sx.Ty.imm (Sx.Ty.int Go.IntKind.i64)))))
                                                                                  l,
                                                                                Sx.SV.ptr (0 : Nat) (0 : Nat),
                                                                                Sx.SV.lit
                                                                                  (Go.Value.int Go.IntKind.i64
                                                                                    (T4.maxAll (Prod.snd b)
                                                                                      (List.take b_1 (Prod.snd (Prod.snd (Prod.snd (List.getD l (Prod.fst b) (Sx.Ty.dflt T4.oty)))))))),
                                                                                Sx.SV.lit
                                                                                  (Go.Value.int Go.IntKind.i64 (Go.IntKind.wrap Go.IntKind.i64 ((↑(Prod.fst b) : Int) + (1 : Int))))],
                                                                              [Sx.SO.cells (31 : Nat)
                                                                                  [Sx.SV.lit
                                                                                      (Go.Value.int Go.IntKind.i64
                                                                                        (List.foldl (fun (m x : Int) => Max.max m x) (Prod.snd b)
                                                                                          (List.take
                                                                                            (List.length (Prod.snd (Prod.snd (Prod.snd (List.getD l (Prod.fst b) (Sx.Ty.dflt T4.oty))))))
                                                                                            (Prod.snd (Prod.snd (Prod.snd (List.getD l (Prod.fst b) (Sx.Ty.dflt T4.oty)))) ++
                                                                                              List.take (1 : Nat) (List.drop (0 : Nat) [(-77 : Int)])))))]]) =
                                                                            ([Sx.SV.imm
                                                                                  (Sx.Ty.pair (Sx.Ty.int Go.IntKind.i64)
                                                                                    (Sx.Ty.pair (Sx.Ty.int Go.IntKind.i64)
                                                                                      (Sx.Ty.pair (Sx.Ty.int Go.IntKind.i64) (Sx.Ty.imm (Sx.Ty.int Go.IntKind.i64)))))
                                                                                  l,
                                                                                Sx.SV.ptr (0 : Nat) (0 : Nat), Sx.SV.lit (Go.Value.int Go.IntKind.i64 (Prod.snd x')),
                                                                                Sx.SV.lit (Go.Value.int Go.IntKind.i64 (↑(Prod.fst x') : Int))],
                                                                              [Sx.SO.cells (31 : Nat) [Sx.SV.lit (Go.Value.int Go.IntKind.i64 (Prod.snd x'))]]) ∧
                                                                          (Prod.fst x' ≤ List.length l ∧
                                                                              (-9223372036854775808 : Int) ≤ Prod.snd x' ∧ Prod.snd x' ≤ (9223372036854775807 : Int)) ∧
                                                                            List.length l - Prod.fst x' < List.length l - Prod.fst b) ∧
                                                                      True)))))
                                          (Sx.br (Prod.fst (List.getD l (Prod.fst b) (Sx.Ty.dflt T4.oty)) == (3 : Int))
                                            (Sx.br (!Prod.snd b == Prod.snd b) (Q (Sx.SV.lit (Go.Value.bool Bool.false), [], []))
                                              (Sx.br
                                                (Prod.fst (Prod.snd (List.getD l (Prod.fst b) (Sx.Ty.dflt T4.oty))) != Prod.fst (Prod.snd (List.getD l (Prod.fst b) (Sx.Ty.dflt T4.oty))))
                                                (Q (Sx.SV.lit (Go.Value.bool Bool.false), [], []))
                                                ((List.length (Prod.snd (Prod.snd (Prod.snd (List.getD l (Prod.fst b) (Sx.Ty.dflt T4.oty))))) =
                                                      List.length (Prod.snd (Prod.snd (Prod.snd (List.getD l (Prod.fst b) (Sx.Ty.dflt T4.oty))))) ∧
                                                    (∃ (t : List (Sx.Ty.den (Sx.Ty.int Go.IntKind.i64))),
                                                        Prod.snd (Prod.snd (Prod.snd (List.getD l (Prod.fst b) (Sx.Ty.dflt T4.oty)))) ++ t =
                                                          Prod.snd (Prod.snd (Prod.snd (List.getD l (Prod.fst b) (Sx.Ty.dflt T4.oty)))) ++
                                                            List.take (1 : Nat) (List.drop (0 : Nat) [(-77 : Int)])) ∧
                                                      List.length (Prod.snd (Prod.snd (Prod.snd (List.getD l (Prod.fst b) (Sx.Ty.dflt T4.oty))))) ≤ (1099511627776 : Nat)) ∧
                                                  ((0 : Int) ≤
                                                        Go.IntKind.wrap Go.IntKind.i64
                                                          ((↑(List.length (Prod.snd (Prod.snd (Prod.snd (List.getD l (Prod.fst b) (Sx.Ty.dflt T4.oty)))))) : Int) + (1 : Int)) ∧
                                                      Go.IntKind.wrap Go.IntKind.i64
                                                          ((↑(List.length (Prod.snd (Prod.snd (Prod.snd (List.getD l (Prod.fst b) (Sx.Ty.dflt T4.oty)))))) : Int) + (1 : Int)) ≤
                                                        (↑(List.length
                                                              (Prod.snd (Prod.snd (Prod.snd (List.getD l (Prod.fst b) (Sx.Ty.dflt T4.oty)))) ++
                                                                List.take (1 : Nat) (List.drop (0 : Nat) [(-77 : Int)]))) :
                                                          Int)) ∧
                                                    True ∧
                                                      ((0 : Int) ≤ (↑(List.length (Prod.snd (Prod.snd (Prod.snd (List.getD l (Prod.fst b) (Sx.Ty.dflt T4.oty)))))) : Int) ∧
                                                          (↑(List.length (Prod.snd (Prod.snd (Prod.snd (List.getD l (Prod.fst b) (Sx.Ty.dflt T4.oty)))))) : Int) <
                                                            (↑(Int.toNat
                                                                  (Go.IntKind.wrap Go.IntKind.i64
                                                                    ((↑(List.length (Prod.snd (Prod.snd (Prod.snd (List.getD l (Prod.fst b) (Sx.Ty.dflt T4.oty)))))) : Int) +
                                                                      (1 : Int)))) :
                                                              Int)) ∧
                                                        (0 : Nat) + List.length (Prod.snd (Prod.snd (Prod.snd (List.getD l (Prod.fst b) (Sx.Ty.dflt T4.oty))))) <
                                                            List.length
                                                              (Prod.snd (Prod.snd (Prod.snd (List.getD l (Prod.fst b) (Sx.Ty.dflt T4.oty)))) ++
                                                                List.take (1 : Nat) (List.drop (0 : Nat) [(-77 : Int)])) ∧
                                                          Sx.br
                                                            (!List.getD
                                                                  (Prod.snd (Prod.snd (Prod.snd (List.getD l (Prod.fst b) (Sx.Ty.dflt T4.oty)))) ++
                                                                    List.take (1 : Nat) (List.drop (0 : Nat) [(-77 : Int)]))
                                                                  ((0 : Nat) + List.length (Prod.snd (Prod.snd (Prod.snd (List.getD l (Prod.fst b) (Sx.Ty.dflt T4.oty))))))
                                                                  (Sx.Ty.dflt (Sx.Ty.int Go.IntKind.i64)) ==
                                                                (-77 : Int))
                                                            (Q (Sx.SV.lit (Go.Value.bool Bool.false), [], []))
                                                            ((∃ (x' : Nat × Int),
                                                                ([Sx.SV.imm
                                                                          (Sx.Ty.pair (Sx.Ty.int Go.IntKind.i64)
                                                                            (Sx.Ty.pair (Sx.Ty.int Go.IntKind.i64)
                                                                              (Sx.Ty.pair (Sx.Ty.int Go.IntKind.i64) (Sx.Ty.imm (Sx.Ty.int Go.IntKind.i64)))))
                                                                          l,
                                                                        Sx.SV.ptr (0 : Nat) (0 : Nat),
                                                                        Sx.SV.lit (Go.Value.int Go.IntKind.i64 (Prod.fst (Prod.snd (List.getD l (Prod.fst b) (Sx.Ty.dflt T4.oty))))),
                                                                        Sx.SV.lit (Go.Value.int Go.IntKind.i64 (Go.IntKind.wrap Go.IntKind.i64 ((↑(Prod.fst b) : Int) + (1 : Int))))],
                                                                      [Sx.SO.cells (31 : Nat)
                                                                          [Sx.SV.lit
                                                                              (Go.Value.int Go.IntKind.i64 (Prod.fst (Prod.snd (List.getD l (Prod.fst b) (Sx.Ty.dflt T4.oty)))))]]) =
                                                                    ([Sx.SV.imm
                                                                          (Sx.Ty.pair (Sx.Ty.int Go.IntKind.i64)
                                                                            (Sx.Ty.pair (Sx.Ty.int Go.IntKind.i64)
                                                                              (Sx.Ty.pair (Sx.Ty.int Go.IntKind.i64) (Sx.Ty.imm (Sx.Ty.int Go.IntKind.i64)))))
                                                                          l,
                                                                        Sx.SV.ptr (0 : Nat) (0 : Nat), Sx.SV.lit (Go.Value.int Go.IntKind.i64 (Prod.snd x')),
                                                                        Sx.SV.lit (Go.Value.int Go.IntKind.i64 (↑(Prod.fst x') : Int))],
                                                                      [Sx.SO.cells (31 : Nat) [Sx.SV.lit (Go.Value.int Go.IntKind.i64 (Prod.snd x'))]]) ∧
                                                                  (Prod.fst x' ≤ List.length l ∧ (-9223372036854775808 : Int) ≤ Prod.snd x' ∧ Prod.snd x' ≤ (9223372036854775807 : Int)) ∧
                                                                    List.length l - Prod.fst x' < List.length l - Prod.fst b) ∧
                                                              True))))
                                            (∀ (b_1 : Bool),
                                              True →
                                                Sx.br b_1
                                                  (Sx.br (Prod.snd b == Prod.fst (Prod.snd (List.getD l (Prod.fst b) (Sx.Ty.dflt T4.oty))))
                                                    (Sx.br (Prod.snd b == Prod.fst (Prod.snd (List.getD l (Prod.fst b) (Sx.Ty.dflt T4.oty))))
                                                      (Sx.br (!Bool.true == (Prod.snd b == Prod.fst (Prod.snd (List.getD l (Prod.fst b) (Sx.Ty.dflt T4.oty)))))
                                                        (Q (Sx.SV.lit (Go.Value.bool Bool.false), [], []))
                                                        (Sx.br
                                                          (Prod.fst (Prod.snd (Prod.snd (List.getD l (Prod.fst b) (Sx.Ty.dflt T4.oty)))) !=
                                                            Prod.fst (Prod.snd (Prod.snd (List.getD l (Prod.fst b) (Sx.Ty.dflt T4.oty)))))
                                                          (Q (Sx.SV.lit (Go.Value.bool Bool.false), [], []))
                                                          ((List.length (Prod.snd (Prod.snd (Prod.snd (List.getD l (Prod.fst b) (Sx.Ty.dflt T4.oty))))) =
                                                                List.length (Prod.snd (Prod.snd (Prod.snd (List.getD l (Prod.fst b) (Sx.Ty.dflt T4.oty))))) ∧
                                                              (∃ (t : List (Sx.Ty.den (Sx.Ty.int Go.IntKind.i64))),
                                                                  Prod.snd (Prod.snd (Prod.snd (List.getD l (Prod.fst b) (Sx.Ty.dflt T4.oty)))) ++ t =
                                                                    Prod.snd (Prod.snd (Prod.snd (List.getD l (Prod.fst b) (Sx.Ty.dflt T4.oty)))) ++
                                                                      List.take (1 : Nat) (List.drop (0 : Nat) [(-77 : Int)])) ∧
                                                                List.length (Prod.snd (Prod.snd (Prod.snd (List.getD l (Prod.fst b) (Sx.Ty.dflt T4.oty))))) ≤ (1099511627776 : Nat)) ∧
                                                            ((0 : Int) ≤
                                                                  Go.IntKind.wrap Go.IntKind.i64
                                                                    ((↑(List.length (Prod.snd (Prod.snd (Prod.snd (List.getD l (Prod.fst b) (Sx.Ty.dflt T4.oty)))))) : Int) + (1 : Int)) ∧
                                                                Go.IntKind.wrap Go.IntKind.i64
                                                                    ((↑(List.length (Prod.snd (Prod.snd (Prod.snd (List.getD l (Prod.fst b) (Sx.Ty.dflt T4.oty)))))) : Int) + (1 : Int)) ≤
                                                                  (↑(List.length
                                                                        (Prod.snd (Prod.snd (Prod.snd (List.getD l (Prod.fst b) (Sx.Ty.dflt T4.oty)))) ++
                                                                          List.take (1 : Nat) (List.drop (0 : Nat) [(-77 : Int)]))) :
                                                                    Int)) ∧
                                                              True ∧
                                                                ((0 : Int) ≤ (↑(List.length (Prod.snd (Prod.snd (Prod.snd (List.getD l (Prod.fst b) (Sx.Ty.dflt T4.oty)))))) : Int) ∧
                                                                    (↑(List.length (Prod.snd (Prod.snd (Prod.snd (List.getD l (Prod.fst b) (Sx.Ty.dflt T4.oty)))))) : Int) <
                                                                      (↑(Int.toNat
                                                                            (Go.IntKind.wrap Go.IntKind.i64
                                                                              ((↑(List.length (Prod.snd (Prod.snd (Prod.snd (List.getD l (Prod.fst b) (Sx.Ty.dflt T4.oty)))))) : Int) +
                                                                                (1 : Int)))) :
                                                                        Int)) ∧
                                                                  (0 : Nat) + List.length (Prod.snd (Prod.snd (Prod.snd (List.getD l (Prod.fst b) (Sx.Ty.dflt T4.oty))))) <
                                                                      List.length
                                                                        (Prod.snd (Prod.snd (Prod.snd (List.getD l (Prod.fst b) (Sx.Ty.dflt T4.oty)))) ++
                                                                          List.take (1 : Nat) (List.drop (0 : Nat) [(-77 : Int)])) ∧
                                                                    Sx.br
                                                                      (!List.getD
                                                                            (Prod.snd (Prod.snd (Prod.snd (List.getD l (Prod.fst b) (Sx.Ty.dflt T4.oty)))) ++
                                                                              List.take (1 : Nat) (List.drop (0 : Nat) [(-77 : Int)]))
                                                                            ((0 : Nat) + List.length (Prod.snd (Prod.snd (Prod.snd (List.getD l (Prod.fst b) (Sx.Ty.dflt T4.oty))))))
                                                                            (Sx.Ty.dflt (Sx.Ty.int Go.IntKind.i64)) ==
                                                                          (-77 : Int))
                                                                      (Q (Sx.SV.lit (Go.Value.bool Bool.false), [], []))
                                                                      ((∃ (x' : Nat × Int),
                                                                          ([Sx.SV.imm
                                                                                    (Sx.Ty.pair (Sx.Ty.int Go.IntKind.i64)
                                                                                      (Sx.Ty.pair (Sx.Ty.int Go.IntKind.i64)
                                                                                        (Sx.Ty.pair (Sx.Ty.int Go.IntKind.i64) (Sx.Ty.imm (Sx.Ty.int Go.IntKind.i64)))))
                                                                                    l,
                                                                                  Sx.SV.ptr (0 : Nat) (0 : Nat),
                                                                                  Sx.SV.lit
                                                                                    (Go.Value.int Go.IntKind.i64
                                                                                      (Prod.fst (Prod.snd (Prod.snd (List.getD l (Prod.fst b) (Sx.Ty.dflt T4.oty)))))),
                                                                                  Sx.SV.lit
                                                                                    (Go.Value.int Go.IntKind.i64 (Go.IntKind.wrap Go.IntKind.i64 ((↑(Prod.fst b) : Int) + (1 : Int))))],
                                                                                [Sx.SO.cells (31 : Nat)
                                                                                    [Sx.SV.lit
                                                                                        (Go.Value.int Go.IntKind.i64
                                                                                          (Prod.fst (Prod.snd (Prod.snd (List.getD l (Prod.fst b) (Sx.Ty.dflt T4.oty))))))]]) =
                                                                              ([Sx.SV.imm
                                                                                    (Sx.Ty.pair (Sx.Ty.int Go.IntKind.i64)
                                                                                      (Sx.Ty.pair (Sx.Ty.int Go.IntKind.i64)
                                                                                        (Sx.Ty.pair (Sx.Ty.int Go.IntKind.i64) (Sx.Ty.imm (Sx.Ty.int Go.IntKind.i64)))))
                                                                                    l,
                                                                                  Sx.SV.ptr (0 : Nat) (0 : Nat), Sx.SV.lit (Go.Value.int Go.IntKind.i64 (Prod.snd x')),
                                                                                  Sx.SV.lit (Go.Value.int Go.IntKind.i64 (↑(Prod.fst x') : Int))],
                                                                                [Sx.SO.cells (31 : Nat) [Sx.SV.lit (Go.Value.int Go.IntKind.i64 (Prod.snd x'))]]) ∧
                                                                            (Prod.fst x' ≤ List.length l ∧
                                                                                (-9223372036854775808 : Int) ≤ Prod.snd x' ∧ Prod.snd x' ≤ (9223372036854775807 : Int)) ∧
                                                                              List.length l - Prod.fst x' < List.length l - Prod.fst b) ∧
                                                                        True))))
                                                      (Sx.br (!Bool.true == (Prod.snd b == Prod.fst (Prod.snd (List.getD l (Prod.fst b) (Sx.Ty.dflt T4.oty)))))
                                                        (Q (Sx.SV.lit (Go.Value.bool Bool.false), [], []))
                                                        (Sx.br (Prod.fst (Prod.snd (Prod.snd (List.getD l (Prod.fst b) (Sx.Ty.dflt T4.oty)))) != Prod.snd b)
                                                          (Q (Sx.SV.lit (Go.Value.bool Bool.false), [], []))
                                                          ((List.length (Prod.snd (Prod.snd (Prod.snd (List.getD l (Prod.fst b) (Sx.Ty.dflt T4.oty))))) =
                                                                List.length (Prod.snd (Prod.snd (Prod.snd (List.getD l (Prod.fst b) (Sx.Ty.dflt T4.oty))))) ∧
                                                              (∃ (t : List (Sx.Ty.den (Sx.Ty.int Go.IntKind.i64))),
                                                                  Prod.snd (Prod.snd (Prod.snd (List.getD l (Prod.fst b) (Sx.Ty.dflt T4.oty)))) ++ t =
                                                                    Prod.snd (Prod.snd (Prod.snd (List.getD l (Prod.fst b) (Sx.Ty.dflt T4.oty)))) ++
                                                                      List.take (1 : Nat) (List.drop (0 : Nat) [(-77 : Int)])) ∧
                                                                List.length (Prod.snd (Prod.snd (Prod.snd (List.getD l (Prod.fst b) (Sx.Ty.dflt T4.oty))))) ≤ (1099511627776 : Nat)) ∧
                                                            ((0 : Int) ≤
                                                                  Go.IntKind.wrap Go.IntKind.i64
                                                                    ((↑(List.length (Prod.snd (Prod.snd (Prod.snd (List.getD l (Prod.fst b) (Sx.Ty.dflt T4.oty)))))) : Int) + (1 : Int)) ∧
                                                                Go.IntKind.wrap Go.IntKind.i64
                                                                    ((↑(List.length (Prod.snd (Prod.snd (Prod.snd (List.getD l (Prod.fst b) (Sx.Ty.dflt T4.oty)))))) : Int) + (1 : Int)) ≤
                                                                  (↑(List.length
                                                                        (Prod.snd (Prod.snd (Prod.snd (List.getD l (Prod.fst b) (Sx.Ty.dflt T4.oty)))) ++
                                                                          List.take (1 : Nat) (List.drop (0 : Nat) [(-77 : Int)]))) :
                                                                    Int)) ∧
                                                              True ∧
                                                                ((0 : Int) ≤ (↑(List.length (Prod.snd (Prod.snd (Prod.snd (List.getD l (Prod.fst b) (Sx.Ty.dflt T4.oty)))))) : Int) ∧
                                                                    (↑(List.length (Prod.snd (Prod.snd (Prod.snd (List.getD l (Prod.fst b) (Sx.Ty.dflt T4.oty)))))) : Int) <
                                                                      (↑(Int.toNat
                                                                            (Go.IntKind.wrap Go.IntKind.i64
                                                                              ((↑(List.length (Prod.snd (Prod.snd (Prod.snd (List.getD l (Prod.fst b) (Sx.Ty.dflt T4.oty)))))) : Int) +
                                                                                (1 : Int)))) :
                                                                        Int)) ∧
                                                                  (0 : Nat) + List.length (Prod.snd (Prod.snd (Prod.snd (List.getD l (Prod.fst b) (Sx.Ty.dflt T4.oty))))) <
                                                                      List.length
                                                                        (Prod.snd (Prod.snd (Prod.snd (List.getD l (Prod.fst b) (Sx.Ty.dflt T4.oty)))) ++
                                                                          List.take (1 : Nat) (List.drop (0 : Nat) [(-77 : Int)])) ∧
                                                                    Sx.br
                                                                      (!List.getD
                                                                            (Prod.snd (Prod.snd (Prod.snd (List.getD l (Prod.fst b) (Sx.Ty.dflt T4.oty)))) ++
                                                                              List.take (1 : Nat) (List.drop (0 : Nat) [(-77 : Int)]))
                                                                            ((0 : Nat) + List.length (Prod.snd (Prod.snd (Prod.snd (List.getD l (Prod.fst b) (Sx.Ty.dflt T4.oty))))))
                                                                            (Sx.Ty.dflt (Sx.Ty.int Go.IntKind.i64)) ==
                                                                          (-77 : Int))
                                                                      (Q (Sx.SV.lit (Go.Value.bool Bool.false), [], []))
                                                                      ((∃ (x' : Nat × Int),
                                                                          ([Sx.SV.imm
                                                                                    (Sx.Ty.pair (Sx.Ty.int Go.IntKind.i64)
                                                                                      (Sx.Ty.pair (Sx.Ty.int Go.IntKind.i64)
                                                                                        (Sx.Ty.pair (Sx.Ty.int Go.IntKind.i64) (Sx.Ty.imm (Sx.Ty.int Go.IntKind.i64)))))
                                                                                    l,
                                                                                  Sx.SV.ptr (0 : Nat) (0 : Nat), Sx.SV.lit (Go.Value.int Go.IntKind.i64 (Prod.snd b)),
                                                                                  Sx.SV.lit
                                                                                    (Go.Value.int Go.IntKind.i64 (Go.IntKind.wrap Go.IntKind.i64 ((↑(Prod.fst b) : Int) + (1 : Int))))],
                                                                                [Sx.SO.cells (31 : Nat)
                                                                                    [Sx.SV.lit
                                                                                        (Go.Value.int Go.IntKind.i64
                                                                                          (Prod.fst (Prod.snd (Prod.snd (List.getD l (Prod.fst b) (Sx.Ty.dflt T4.oty))))))]]) =
                                                                              ([Sx.SV.imm
                                                                                    (Sx.Ty.pair (Sx.Ty.int Go.IntKind.i64)
                                                                                      (Sx.Ty.pair (Sx.Ty.int Go.IntKind.i64)
                                                                                        (Sx.Ty.pair (Sx.Ty.int Go.IntKind.i64) (Sx.Ty.imm (Sx.Ty.int Go.IntKind.i64)))))
                                                                                    l,
                                                                                  Sx.SV.ptr (0 : Nat) (0 : Nat), Sx.SV.lit (Go.Value.int Go.IntKind.i64 (Prod.snd x')),
                                                                                  Sx.SV.lit (Go.Value.int Go.IntKind.i64 (↑(Prod.fst x') : Int))],
                                                                                [Sx.SO.cells (31 : Nat) [Sx.SV.lit (Go.Value.int Go.IntKind.i64 (Prod.snd x'))]]) ∧
                                                                            (Prod.fst x' ≤ List.length l ∧
                                                                                (-9223372036854775808 : Int) ≤ Prod.snd x' ∧ Prod.snd x' ≤ (9223372036854775807 : Int)) ∧
                                                                              List.length l - Prod.fst x' < List.length l - Prod.fst b) ∧
                                                                        True)))))
                                                    (Sx.br (Prod.snd b == Prod.fst (Prod.snd (List.getD l (Prod.fst b) (Sx.Ty.dflt T4.oty))))
                                                      (Sx.br (!Bool.false == (Prod.snd b == Prod.fst (Prod.snd (List.getD l (Prod.fst b) (Sx.Ty.dflt T4.oty)))))
                                                        (Q (Sx.SV.lit (Go.Value.bool Bool.false), [], []))
                                                        (Sx.br (Prod.snd b != Prod.fst (Prod.snd (Prod.snd (List.getD l (Prod.fst b) (Sx.Ty.dflt T4.oty)))))
                                                          (Q (Sx.SV.lit (Go.Value.bool Bool.false), [], []))
                                                          ((List.length (Prod.snd (Prod.snd (Prod.snd (List.getD l (Prod.fst b) (Sx.Ty.dflt T4.oty))))) =
                                                                List.length (Prod.snd (Prod.snd (Prod.snd (List.getD l (Prod.fst b) (Sx.Ty.dflt T4.oty))))) ∧
                                                              (∃ (t : List (Sx.Ty.den (Sx.Ty.int Go.IntKind.i64))),
                                                                  Prod.snd (Prod.snd (Prod.snd (List.getD l (Prod.fst b) (Sx.Ty.dflt T4.oty)))) ++ t =
                                                                    Prod.snd (Prod.snd (Prod.snd (List.getD l (Prod.fst b) (Sx.Ty.dflt T4.oty)))) ++
                                                                      List.take (1 : Nat) (List.drop (0 : Nat) [(-77 : Int)])) ∧
                                                                List.length (Prod.snd (Prod.snd (Prod.snd (List.getD l (Prod.fst b) (Sx.Ty.dflt T4.oty))))) ≤ (1099511627776 : Nat)) ∧
                                                            ((0 : Int) ≤
                                                                  Go.IntKind.wrap Go.IntKind.i64
                                                                    ((↑(List.length (Prod.snd (Prod.snd (Prod.snd (List.getD l (Prod.fst b) (Sx.Ty.dflt T4.oty)))))) : Int) + (1 : Int)) ∧
                                                                Go.IntKind.wrap Go.IntKind.i64
                                                                    ((↑(List.length (Prod.snd (Prod.snd (Prod.snd (List.getD l (Prod.fst b) (Sx.Ty.dflt T4.oty)))))) : Int) + (1 : Int)) ≤
                                                                  (↑(List.length
                                                                        (Prod.snd (Prod.snd (Prod.snd (List.getD l (Prod.fst b) (Sx.Ty.dflt T4.oty)))) ++
                                                                          List.take (1 : Nat) (List.drop (0 : Nat) [(-77 : Int)]))) :
                                                                    Int)) ∧
                                                              True ∧
                                                                ((0 : Int) ≤ (↑(List.length (Prod.snd (Prod.snd (Prod.snd (List.getD l (Prod.fst b) (Sx.Ty.dflt T4.oty)))))) : Int) ∧
                                                                    (↑(List.length (Prod.snd (Prod.snd (Prod.snd (List.getD l (Prod.fst b) (Sx.Ty.dflt T4.oty)))))) : Int) <
                                                                      (↑(Int.toNat
                                                                            (Go.IntKind.wrap Go.IntKind.i64
                                                                              ((↑(List.length (Prod.snd (Prod.snd (Prod.snd (List.getD l (Prod.fst b) (Sx.Ty.dflt T4.oty)))))) : Int) +
                                                                                (1 : Int)))) :
                                                                        Int)) ∧
                                                                  (0 : Nat) + List.length (Prod.snd (Prod.snd (Prod.snd (List.getD l (Prod.fst b) (Sx.Ty.dflt T4.oty))))) <
                                                                      List.length
                                                                        (Prod.snd (Prod.snd (Prod.snd (List.getD l (Prod.fst b) (Sx.Ty.dflt T4.oty)))) ++
                                                                          List.take (1 : Nat) (List.drop (0 : Nat) [(-77 : Int)])) ∧
                                                                    Sx.br
                                                                      (!List.getD
                                                                            (Prod.snd (Prod.snd (Prod.snd (List.getD l (Prod.fst b) (Sx.Ty.dflt T4.oty)))) ++
                                                                              List.take (1 : Nat) (List.drop (0 : Nat) [(-77 : Int)]))
                                                                            ((0 : Nat) + List.length (Prod.snd (Prod.snd (Prod.snd (List.getD l (Prod.fst b) (Sx.Ty.dflt T4.oty))))))
                                                                            (Sx.Ty.dflt (Sx.Ty.int Go.IntKind.i64)) ==
                                                                          (-77 : Int))
                                                                      (Q (Sx.SV.lit (Go.Value.bool Bool.false), [], []))
                                                                      ((∃ (x' : Nat × Int),
                                                                          ([Sx.SV.imm
                                                                                    (Sx.Ty.pair (Sx.Ty.int Go.IntKind.i64)
                                                                                      (Sx.Ty.pair (Sx.Ty.int Go.IntKind.i64)
                                                                                        (Sx.Ty.pair (Sx.Ty.int Go.IntKind.i64) (Sx.Ty.imm (Sx.Ty.int Go.IntKind.i64)))))
                                                                                    l,
                                                                                  Sx.SV.ptr (0 : Nat) (0 : Nat),
                                                                                  Sx.SV.lit
                                                                                    (Go.Value.int Go.IntKind.i64
                                                                                      (Prod.fst (Prod.snd (Prod.snd (List.getD l (Prod.fst b) (Sx.Ty.dflt T4.oty)))))),
                                                                                  Sx.SV.lit
                                                                                    (Go.Value.int Go.IntKind.i64 (Go.IntKind.wrap Go.IntKind.i64 ((↑(Prod.fst b) : Int) + (1 : Int))))],
                                                                                [Sx.SO.cells (31 : Nat) [Sx.SV.lit (Go.Value.int Go.IntKind.i64 (Prod.snd b))]]) =
                                                                              ([Sx.SV.imm
                                                                                    (Sx.Ty.pair (Sx.Ty.int Go.IntKind.i64)
                                                                                      (Sx.Ty.pair (Sx.Ty.int Go.IntKind.i64)
                                                                                        (Sx.Ty.pair (Sx.Ty.int Go.IntKind.i64) (Sx.Ty.imm (Sx.Ty.int Go.IntKind.i64)))))
                                                                                    l,
                                                                                  Sx.SV.ptr (0 : Nat) (0 : Nat), Sx.SV.lit (Go.Value.int Go.IntKind.i64 (Prod.snd x')),
                                                                                  Sx.SV.lit (Go.Value.int Go.IntKind.i64 (↑(Prod.fst x') : Int))],
                                                                                [Sx.SO.cells (31 : Nat) [Sx.SV.lit (Go.Value.int Go.IntKind.i64 (Prod.snd x'))]]) ∧
                                                                            (Prod.fst x' ≤ List.length l ∧
                                                                                (-9223372036854775808 : Int) ≤ Prod.snd x' ∧ Prod.snd x' ≤ (9223372036854775807 : Int)) ∧
                                                                              List.length l - Prod.fst x' < List.length l - Prod.fst b) ∧
                                                                        True))))
                                                      (Sx.br (!Bool.false == (Prod.snd b == Prod.fst (Prod.snd (List.getD l (Prod.fst b) (Sx.Ty.dflt T4.oty)))))
                                                        (Q (Sx.SV.lit (Go.Value.bool Bool.false), [], []))
                                                        (Sx.br (Prod.snd b != Prod.snd b) (Q (Sx.SV.lit (Go.Value.bool Bool.false), [], []))
                                                          ((List.length (Prod.snd (Prod.snd (Prod.snd (List.getD l (Prod.fst b) (Sx.Ty.dflt T4.oty))))) =
                                                                List.length (Prod.snd (Prod.snd (Prod.snd (List.getD l (Prod.fst b) (Sx.Ty.dflt T4.oty))))) ∧
                                                              (∃ (t : List (Sx.Ty.den (Sx.Ty.int Go.IntKind.i64))),
                                                                  Prod.snd (Prod.snd (Prod.snd (List.getD l (Prod.fst b) (Sx.Ty.dflt T4.oty)))) ++ t =
                                                                    Prod.snd (Prod.snd (Prod.snd (List.getD l (Prod.fst b) (Sx.Ty.dflt T4.oty)))) ++
                                                                      List.take (1 : Nat) (List.drop (0 : Nat) [(-77 : Int)])) ∧
                                                                List.length (Prod.snd (Prod.snd (Prod.snd (List.getD l (Prod.fst b) (Sx.Ty.dflt T4.oty))))) ≤ (1099511627776 : Nat)) ∧
                                                            ((0 : Int) ≤
                                                                  Go.IntKind.wrap Go.IntKind.i64
                                                                    ((↑(List.length (Prod.snd (Prod.snd (Prod.snd (List.getD l (Prod.fst b) (Sx.Ty.dflt T4.oty)))))) : Int) + (1 : Int)) ∧
                                                                Go.IntKind.wrap Go.IntKind.i64
                                                                    ((↑(List.length (Prod.snd (Prod.snd (Prod.snd (List.getD l (Prod.fst b) (Sx.Ty.dflt T4.oty)))))) : Int) + (1 : Int)) ≤
                                                                  (↑(List.length
                                                                        (Prod.snd (Prod.snd (Prod.snd (List.getD l (Prod.fst b) (Sx.Ty.dflt T4.oty)))) ++
                                                                          List.take (1 : Nat) (List.drop (0 : Nat) [(-77 : Int)]))) :
                                                                    Int)) ∧
                                                              True ∧
                                                                ((0 : Int) ≤ (↑(List.length (Prod.snd (Prod.snd (Prod.snd (List.getD l (Prod.fst b) (Sx.Ty.dflt T4.oty)))))) : Int) ∧
                                                                    (↑(List.length (Prod.snd (Prod.snd (Prod.snd (List.getD l (Prod.fst b) (Sx.Ty.dflt T4.oty)))))) : Int) <
                                                                      (↑(Int.toNat
                                                                            (Go.IntKind.wrap Go.IntKind.i64
                                                                              ((↑(List.length (Prod.snd (Prod.snd (Prod.snd (List.getD l (Prod.fst b) (Sx.Ty.dflt T4.oty)))))) : Int) +
                                                                                (1 : Int)))) :
                                                                        Int)) ∧
                                                                  (0 : Nat) + List.length (Prod.snd (Prod.snd (Prod.snd (List.getD l (Prod.fst b) (Sx.Ty.dflt T4.oty))))) <
                                                                      List.length
                                                                        (Prod.snd (Prod.snd (Prod.snd (List.getD l (Prod.fst b) (Sx.Ty.dflt T4.oty)))) ++
                                                                          List.take (1 : Nat) (List.drop (0 : Nat) [(-77 : Int)])) ∧
                                                                    Sx.br
                                                                      (!List.getD
                                                                            (Prod.snd (Prod.snd (Prod.snd (List.getD l (Prod.fst b) (Sx.Ty.dflt T4.oty)))) ++
                                                                              List.take (1 : Nat) (List.drop (0 : Nat) [(-77 : Int)]))
                                                                            ((0 : Nat) + List.length (Prod.snd (Prod.snd (Prod.snd (List.getD l (Prod.fst b) (Sx.Ty.dflt T4.oty))))))
                                                                            (Sx.Ty.dflt (Sx.Ty.int Go.IntKind.i64)) ==
                                                                          (-77 : Int))
                                                                      (Q (Sx.SV.lit (Go.Value.bool Bool.false), [], []))
                                                                      ((∃ (x' : Nat × Int),
                                                                          ([Sx.SV.imm
                                                                                    (Sx.Ty.pair (Sx.Ty.int Go.IntKind.i64)
                                                                                      (Sx.Ty.pair (Sx.Ty.int Go.IntKind.i64)
                                                                                        (Sx.Ty.pair (Sx.Ty.int Go.IntKind.i64) (Sx.Ty.imm (Sx.Ty.int Go.IntKind.i64)))))
                                                                                    l,
                                                                                  Sx.SV.ptr (0 : Nat) (0 : Nat), Sx.SV.lit (Go.Value.int Go.IntKind.i64 (Prod.snd b)),
                                                                                  Sx.SV.lit
                                                                                    (Go.Value.int Go.IntKind.i64 (Go.IntKind.wrap Go.IntKind.i64 ((↑(Prod.fst b) : Int) + (1 : Int))))],
                                                                                [Sx.SO.cells (31 : Nat) [Sx.SV.lit (Go.Value.int Go.IntKind.i64 (Prod.snd b))]]) =
                                                                              ([Sx.SV.imm
                                                                                    (Sx.Ty.pair (Sx.Ty.int Go.IntKind.i64)
                                                                                      (Sx.Ty.pair (Sx.Ty.int Go.IntKind.i64)
                                                                                        (Sx.Ty.pair (Sx.Ty.int Go.IntKind.i64) (Sx.Ty.imm (Sx.Ty.int Go.IntKind.i64)))))
                                                                                    l,
                                                                                  Sx.SV.ptr (0 : Nat) (0 : Nat), Sx.SV.lit (Go.Value.int Go.IntKind.i64 (Prod.snd x')),
                                                                                  Sx.SV.lit (Go.Value.int Go.IntKind.i64 (↑(Prod.fst x') : Int))],
                                                                                [Sx.SO.cells (31 : Nat) [Sx.SV.lit (Go.Value.int Go.IntKind.i64 (Prod.snd x'))]]) ∧
                                                                            (Prod.fst x' ≤ List.length l ∧
                                                                                (-9223372036854775808 : Int) ≤ Prod.snd x' ∧ Prod.snd x' ≤ (9223372036854775807 : Int)) ∧
                                                                              List.length l - Prod.fst x' < List.length l - Prod.fst b) ∧
                                                                        True))))))
                                                  (Sx.br (Prod.snd b == Prod.fst (Prod.snd (List.getD l (Prod.fst b) (Sx.Ty.dflt T4.oty))))
                                                    (Sx.br (Prod.snd b == Prod.fst (Prod.snd (List.getD l (Prod.fst b) (Sx.Ty.dflt T4.oty))))
                                                      (Sx.br (!Bool.true == (Prod.snd b == Prod.fst (Prod.snd (List.getD l (Prod.fst b) (Sx.Ty.dflt T4.oty)))))
                                                        (Q (Sx.SV.lit (Go.Value.bool Bool.false), [], []))
                                                        (Sx.br
                                                          (Prod.fst (Prod.snd (Prod.snd (List.getD l (Prod.fst b) (Sx.Ty.dflt T4.oty)))) !=
                                                            Prod.fst (Prod.snd (Prod.snd (List.getD l (Prod.fst b) (Sx.Ty.dflt T4.oty)))))
                                                          (Q (Sx.SV.lit (Go.Value.bool Bool.false), [], []))
                                                          ((List.length (Prod.snd (Prod.snd (Prod.snd (List.getD l (Prod.fst b) (Sx.Ty.dflt T4.oty))))) =
                                                                List.length (Prod.snd (Prod.snd (Prod.snd (List.getD l (Prod.fst b) (Sx.Ty.dflt T4.oty))))) ∧
                                                              (∃ (t : List (Sx.Ty.den (Sx.Ty.int Go.IntKind.i64))),
                                                                  Prod.snd (Prod.snd (Prod.snd (List.getD l (Prod.fst b) (Sx.Ty.dflt T4.oty)))) ++ t =
                                                                    Prod.snd (Prod.snd (Prod.snd (List.getD l (Prod.fst b) (Sx.Ty.dflt T4.oty)))) ++
                                                                      List.take (1 : Nat) (List.drop (0 : Nat) [(-77 : Int)])) ∧
                                                                List.length (Prod.snd (Prod.snd (Prod.snd (List.getD l (Prod.fst b) (Sx.Ty.dflt T4.oty))))) ≤ (1099511627776 : Nat)) ∧
                                                            ((0 : Int) ≤
                                                                  Go.IntKind.wrap Go.IntKind.i64
                                                                    ((↑(List.length (Prod.snd (Prod.snd (Prod.snd (List.getD l (Prod.fst b) (Sx.Ty.dflt T4.oty)))))) : Int) + (1 : Int)) ∧
                                                                Go.IntKind.wrap Go.IntKind.i64
                                                                    ((↑(List.length (Prod.snd (Prod.snd (Prod.snd (List.getD l (Prod.fst b) (Sx.Ty.dflt T4.oty)))))) : Int) + (1 : Int)) ≤
                                                                  (↑(List.length
                                                                        (Prod.snd (Prod.snd (Prod.snd (List.getD l (Prod.fst b) (Sx.Ty.dflt T4.oty)))) ++
                                                                          List.take (1 : Nat) (List.drop (0 : Nat) [(-77 : Int)]))) :
                                                                    Int)) ∧
                                                              True ∧
                                                                ((0 : Int) ≤ (↑(List.length (Prod.snd (Prod.snd (Prod.snd (List.getD l (Prod.fst b) (Sx.Ty.dflt T4.oty)))))) : Int) ∧
                                                                    (↑(List.length (Prod.snd (Prod.snd (Prod.snd (List.getD l (Prod.fst b) (Sx.Ty.dflt T4.oty)))))) : Int) <
                                                                      (↑(Int.toNat
                                                                            (Go.IntKind.wrap Go.IntKind.i64
                                                                              ((↑(List.length (Prod.snd (Prod.snd (Prod.snd (List.getD l (Prod.fst b) (Sx.Ty.dflt T4.oty)))))) : Int) +
                                                                                (1 : Int)))) :
                                                                        Int)) ∧
                                                                  (0 : Nat) + List.length (Prod.snd (Prod.snd (Prod.snd (List.getD l (Prod.fst b) (Sx.Ty.dflt T4.oty))))) <
                                                                      List.length
                                                                        (Prod.snd (Prod.snd (Prod.snd (List.getD l (Prod.fst b) (Sx.Ty.dflt T4.oty)))) ++
                                                                          List.take (1 : Nat) (List.drop (0 : Nat) [(-77 : Int)])) ∧
                                                                    Sx.br
                                                                      (!List.getD
                                                                            (Prod.snd (Prod.snd (Prod.snd (List.getD l (Prod.fst b) (Sx.Ty.dflt T4.oty)))) ++
                                                                              List.take (1 : Nat) (List.drop (0 : Nat) [(-77 : Int)]))
                                                                            ((0 : Nat) + List.length (Prod.snd (Prod.snd (Prod.snd (List.getD l (Prod.fst b) (Sx.Ty.dflt T4.oty))))))
                                                                            (Sx.Ty.dflt (Sx.Ty.int Go.IntKind.i64)) ==
                                                                          (-77 : Int))
                                                                      (Q (Sx.SV.lit (Go.Value.bool Bool.false), [], []))
                                                                      ((∃ (x' : Nat × Int),
                                                                          ([Sx.SV.imm
                                                                                    (Sx.Ty.pair (Sx.Ty.int Go.IntKind.i64)
                                                                                      (Sx.Ty.pair (Sx.Ty.int Go.IntKind.i64)
                                                                                        (Sx.Ty.pair (Sx.Ty.int Go.IntKind.i64) (Sx.Ty.imm (Sx.Ty.int Go.IntKind.i64)))))
                                                                                    l,
                                                                                  Sx.SV.ptr (0 : Nat) (0 : Nat),
                                                                                  Sx.SV.lit
                                                                                    (Go.Value.int Go.IntKind.i64
                                                                                      (Prod.fst (Prod.snd (Prod.snd (List.getD l (Prod.fst b) (Sx.Ty.dflt T4.oty)))))),
                                                                                  Sx.SV.lit
                                                                                    (Go.Value.int Go.IntKind.i64 (Go.IntKind.wrap Go.IntKind.i64 ((↑(Prod.fst b) : Int) + (1 : Int))))],
                                                                                [Sx.SO.cells (31 : Nat)
                                                                                    [Sx.SV.lit
                                                                                        (Go.Value.int Go.IntKind.i64
                                                                                          (Prod.fst (Prod.snd (Prod.snd (List.getD l (Prod.fst b) (Sx.Ty.dflt T4.oty))))))]]) =
                                                                              ([Sx.SV.imm
                                                                                    (Sx.Ty.pair (Sx.Ty.int Go.IntKind.i64)
                                                                                      (Sx.Ty.pair (Sx.Ty.int Go.IntKind.i64)
                                                                                        (Sx.Ty.pair (Sx.Ty.int Go.IntKind.i64) (Sx.Ty.imm (Sx.Ty.int Go.IntKind.i64)))))
                                                                                    l,
                                                                                  Sx.SV.ptr (0 : Nat) (0 : Nat), Sx.SV.lit (Go.Value.int Go.IntKind.i64 (Prod.snd x')),
                                                                                  Sx.SV.lit (Go.Value.int Go.IntKind.i64 (↑(Prod.fst x') : Int))],
                                                                                [Sx.SO.cells (31 : Nat) [Sx.SV.lit (Go.Value.int Go.IntKind.i64 (Prod.snd x'))]]) ∧
                                                                            (Prod.fst x' ≤ List.length l ∧
                                                                                (-9223372036854775808 : Int) ≤ Prod.snd x' ∧ Prod.snd x' ≤ (9223372036854775807 : Int)) ∧
                                                                              List.length l - Prod.fst x' < List.length l - Prod.fst b) ∧
                                                                        True))))
                                                      (Sx.br (!Bool.true == (Prod.snd b == Prod.fst (Prod.snd (List.getD l (Prod.fst b) (Sx.Ty.dflt T4.oty)))))
                                                        (Q (Sx.SV.lit (Go.Value.bool Bool.false), [], []))
                                                        (Sx.br (Prod.fst (Prod.snd (Prod.snd (List.getD l (Prod.fst b) (Sx.Ty.dflt T4.oty)))) != Prod.snd b)
                                                          (Q (Sx.SV.lit (Go.Value.bool Bool.false), [], []))
                                                          ((List.length (Prod.snd (Prod.snd (Prod.snd (List.getD l (Prod.fst b) (Sx.Ty.dflt T4.oty))))) =
                                                                List.length (Prod.snd (Prod.snd (Prod.snd (List.getD l (Prod.fst b) (Sx.Ty.dflt T4.oty))))) ∧
                                                              (∃ (t : List (Sx.Ty.den (Sx.Ty.int Go.IntKind.i64))),
                                                                  Prod.snd (Prod.snd (Prod.snd (List.getD l (Prod.fst b) (Sx.Ty.dflt T4.oty)))) ++ t =
                                                                    Prod.snd (Prod.snd (Prod.snd (List.getD l (Prod.fst b) (Sx.Ty.dflt T4.oty)))) ++
                                                                      List.take (1 : Nat) (List.drop (0 : Nat) [(-77 : Int)])) ∧
                                                                List.length (Prod.snd (Prod.snd (Prod.snd (List.getD l (Prod.fst b) (Sx.Ty.dflt T4.oty))))) ≤ (1099511627776 : Nat)) ∧
                                                            ((0 : Int) ≤
                                                                  Go.IntKind.wrap Go.IntKind.i64
                                                                    ((↑(List.length (Prod.snd (Prod.snd (Prod.snd (List.getD l (Prod.fst b) (Sx.Ty.dflt T4.oty)))))) : Int) + (1 : Int)) ∧
                                                                Go.IntKind.wrap Go.IntKind.i64
                                                                    ((↑(List.length (Prod.snd (Prod.snd (Prod.snd (List.getD l (Prod.fst b) (Sx.Ty.dflt T4.oty)))))) : Int) + (1 : Int)) ≤
                                                                  (↑(List.length
                                                                        (Prod.snd (Prod.snd (Prod.snd (List.getD l (Prod.fst b) (Sx.Ty.dflt T4.oty)))) ++
                                                                          List.take (1 : Nat) (List.drop (0 : Nat) [(-77 : Int)]))) :
                                                                    Int)) ∧
                                                              True ∧
                                                                ((0 : Int) ≤ (↑(List.length (Prod.snd (Prod.snd (Prod.snd (List.getD l (Prod.fst b) (Sx.Ty.dflt T4.oty)))))) : Int) ∧
                                                                    (↑(List.length (Prod.snd (Prod.snd (Prod.snd (List.getD l (Prod.fst b) (Sx.Ty.dflt T4.oty)))))) : Int) <
                                                                      (↑(Int.toNat
                                                                            (Go.IntKind.wrap Go.IntKind.i64
                                                                              ((↑(List.length (Prod.snd (Prod.snd (Prod.snd (List.getD l (Prod.fst b) (Sx.Ty.dflt T4.oty)))))) : Int) +
                                                                                (1 : Int)))) :
                                                                        Int)) ∧
                                                                  (0 : Nat) + List.length (Prod.snd (Prod.snd (Prod.snd (List.getD l (Prod.fst b) (Sx.Ty.dflt T4.oty))))) <
                                                                      List.length
                                                                        (Prod.snd (Prod.snd (Prod.snd (List.getD l (Prod.fst b) (Sx.Ty.dflt T4.oty)))) ++
                                                                          List.take (1 : Nat) (List.drop (0 : Nat) [(-77 : Int)])) ∧
                                                                    Sx.br
                                                                      (!List.getD
                                                                            (Prod.snd (Prod.snd (Prod.snd (List.getD l (Prod.fst b) (Sx.Ty.dflt T4.oty)))) ++
                                                                              List.take (1 : Nat) (List.drop (0 : Nat) [(-77 : Int)]))
                                                                            ((0 : Nat) + List.length (Prod.snd (Prod.snd (Prod.snd (List.getD l (Prod.fst b) (Sx.Ty.dflt T4.oty))))))
                                                                            (Sx.Ty.dflt (Sx.Ty.int Go.IntKind.i64)) ==
                                                                          (-77 : Int))
                                                                      (Q (Sx.SV.lit (Go.Value.bool Bool.false), [], []))
                                                                      ((∃ (x' : Nat × Int),
                                                                          ([Sx.SV.imm
                                                                                    (Sx.Ty.pair (Sx.Ty.int Go.IntKind.i64)
                                                                                      (Sx.Ty.pair (Sx.Ty.int Go.IntKind.i64)
                                                                                        (Sx.Ty.pair (Sx.Ty.int Go.IntKind.i64) (Sx.Ty.imm (Sx.Ty.int Go.IntKind.i64)))))
                                                                                    l,
                                                                                  Sx.SV.ptr (0 : Nat) (0 : Nat), Sx.SV.lit (Go.Value.int Go.IntKind.i64 (Prod.snd b)),
                                                                                  Sx.SV.lit
                                                                                    (Go.Value.int Go.IntKind.i64 (Go.IntKind.wrap Go.IntKind.i64 ((↑(Prod.fst b) : Int) + (1 : Int))))],
                                                                                [Sx.SO.cells (31 : Nat)
                                                                                    [Sx.SV.lit
                                                                                        (Go.Value.int Go.IntKind.i64
                                                                                          (Prod.fst (Prod.snd (Prod.snd (List.getD l (Prod.fst b) (Sx.Ty.dflt T4.oty))))))]]) =
                                                                              ([Sx.SV.imm
                                                                                    (Sx.Ty.pair (Sx.Ty.int Go.IntKind.i64)
                                                                                      (Sx.Ty.pair (Sx.Ty.int Go.IntKind.i64)
                                                                                        (Sx.Ty.pair (Sx.Ty.int Go.IntKind.i64) (Sx.Ty.imm (Sx.Ty.int Go.IntKind.i64)))))
                                                                                    l,
                                                                                  Sx.SV.ptr (0 : Nat) (0 : Nat), Sx.SV.lit (Go.Value.int Go.IntKind.i64 (Prod.snd x')),
                                                                                  Sx.SV.lit (Go.Value.int Go.IntKind.i64 (↑(Prod.fst x') : Int))],
                                                                                [Sx.SO.cells (31 : Nat) [Sx.SV.lit (Go.Value.int Go.IntKind.i64 (Prod.snd x'))]]) ∧
                                                                            (Prod.fst x' ≤ List.length l ∧
                                                                                (-9223372036854775808 : Int) ≤ Prod.snd x' ∧ Prod.snd x' ≤ (9223372036854775807 : Int)) ∧
                                                                              List.length l - Prod.fst x' < List.length l - Prod.fst b) ∧
                                                                        True)))))
                                                    (Sx.br (Prod.snd b == Prod.fst (Prod.snd (List.getD l (Prod.fst b) (Sx.Ty.dflt T4.oty))))
                                                      (Sx.br (!Bool.false == (Prod.snd b == Prod.fst (Prod.snd (List.getD l (Prod.fst b) (Sx.Ty.dflt T4.oty)))))
                                                        (Q (Sx.SV.lit (Go.Value.bool Bool.false), [], []))
                                                        (Sx.br (Prod.snd b != Prod.fst (Prod.snd (Prod.snd (List.getD l (Prod.fst b) (Sx.Ty.dflt T4.oty)))))
                                                          (Q (Sx.SV.lit (Go.Value.bool Bool.false), [], []))
                                                          ((List.length (Prod.snd (Prod.snd (Prod.snd (List.getD l (Prod.fst b) (Sx.Ty.dflt T4.oty))))) =
                                                                List.length (Prod.snd (Prod.snd (Prod.snd (List.getD l (Prod.fst b) (Sx.Ty.dflt T4.oty))))) ∧
                                                              (∃ (t : List (Sx.Ty.den (Sx.Ty.int Go.IntKind.i64))),
                                                                  Prod.snd (Prod.snd (Prod.snd (List.getD l (Prod.fst b) (Sx.Ty.dflt T4.oty)))) ++ t =
                                                                    Prod.snd (Prod.snd (Prod.snd (List.getD l (Prod.fst b) (Sx.Ty.dflt T4.oty)))) ++
                                                                      List.take (1 : Nat) (List.drop (0 : Nat) [(-77 : Int)])) ∧
                                                                List.length (Prod.snd (Prod.snd (Prod.snd (List.getD l (Prod.fst b) (Sx.Ty.dflt T4.oty))))) ≤ (1099511627776 : Nat)) ∧
                                                            ((0 : Int) ≤
                                                                  Go.IntKind.wrap Go.IntKind.i64
                                                                    ((↑(List.length (Prod.snd (Prod.snd (Prod.snd (List.getD l (Prod.fst b) (Sx.Ty.dflt T4.oty)))))) : Int) + (1 : Int)) ∧
                                                                Go.IntKind.wrap Go.IntKind.i64
                                                                    ((↑(List.length (Prod.snd (Prod.snd (Prod.snd (List.getD l (Prod.fst b) (Sx.Ty.dflt T4.oty)))))) : Int) + (1 : Int)) ≤
                                                                  (↑(List.length
                                                                        (Prod.snd (Prod.snd (Prod.snd (List.getD l (Prod.fst b) (Sx.Ty.dflt T4.oty)))) ++
                                                                          List.take (1 : Nat) (List.drop (0 : Nat) [(-77 : Int)]))) :
                                                                    Int)) ∧
                                                              True ∧
                                                                ((0 : Int) ≤ (↑(List.length (Prod.snd (Prod.snd (Prod.snd (List.getD l (Prod.fst b) (Sx.Ty.dflt T4.oty)))))) : Int) ∧
                                                                    (↑(List.length (Prod.snd (Prod.snd (Prod.snd (List.getD l (Prod.fst b) (Sx.Ty.dflt T4.oty)))))) : Int) <
                                                                      (↑(Int.toNat
                                                                            (Go.IntKind.wrap Go.IntKind.i64
                                                                              ((↑(List.length (Prod.snd (Prod.snd (Prod.snd (List.getD l (Prod.fst b) (Sx.Ty.dflt T4.oty)))))) : Int) +
                                                                                (1 : Int)))) :
                                                                        Int)) ∧
                                                                  (0 : Nat) + List.length (Prod.snd (Prod.snd (Prod.snd (List.getD l (Prod.fst b) (Sx.Ty.dflt T4.oty))))) <
                                                                      List.length
                                                                        (Prod.snd (Prod.snd (Prod.snd (List.getD l (Prod.fst b) (Sx.Ty.dflt T4.oty)))) ++
                                                                          List.take (1 : Nat) (List.drop (0 : Nat) [(-77 : Int)])) ∧
                                                                    Sx.br
                                                                      (!List.getD
                                                                            (Prod.snd (Prod.snd (Prod.snd (List.getD l (Prod.fst b) (Sx.Ty.dflt T4.oty)))) ++
                                                                              List.take (1 : Nat) (List.drop (0 : Nat) [(-77 : Int)]))
                                                                            ((0 : Nat) + List.length (Prod.snd (Prod.snd (Prod.snd (List.getD l (Prod.fst b) (Sx.Ty.dflt T4.oty))))))
                                                                            (Sx.Ty.dflt (Sx.Ty.int Go.IntKind.i64)) ==
                                                                          (-77 : Int))
                                                                      (Q (Sx.SV.lit (Go.Value.bool Bool.false), [], []))
                                                                      ((∃ (x' : Nat × Int),
                                                                          ([Sx.SV.imm
                                                                                    (Sx.Ty.pair (Sx.Ty.int Go.IntKind.i64)
                                                                                      (Sx.Ty.pair (Sx.Ty.int Go.IntKind.i64)
                                                                                        (Sx.Ty.pair (Sx.Ty.int Go.IntKind.i64) (Sx.Ty.imm (Sx.Ty.int Go.IntKind.i64)))))
                                                                                    l,
                                                                                  Sx.SV.ptr (0 : Nat) (0 : Nat),
                                                                                  Sx.SV.lit
                                                                                    (Go.Value.int Go.IntKind.i64
                                                                                      (Prod.fst (Prod.snd (Prod.snd (List.getD l (Prod.fst b) (Sx.Ty.dflt T4.oty)))))),
                                                                                  Sx.SV.lit
                                                                                    (Go.Value.int Go.IntKind.i64 (Go.IntKind.wrap Go.IntKind.i64 ((↑(Prod.fst b) : Int) + (1 : Int))))],
                                                                                [Sx.SO.cells (31 : Nat) [Sx.SV.lit (Go.Value.int Go.IntKind.i64 (Prod.snd b))]]) =
                                                                              ([Sx.SV.imm
                                                                                    (Sx.Ty.pair (Sx.Ty.int Go.IntKind.i64)
                                                                                      (Sx.Ty.pair (Sx.Ty.int Go.IntKind.i64)
                                                                                        (Sx.Ty.pair (Sx.Ty.int Go.IntKind.i64) (Sx.Ty.imm (Sx.Ty.int Go.IntKind.i64)))))
                                                                                    l,
                                                                                  Sx.SV.ptr (0 : Nat) (0 : Nat), Sx.SV.lit (Go.Value.int Go.IntKind.i64 (Prod.snd x')),
                                                                                  Sx.SV.lit (Go.Value.int Go.IntKind.i64 (↑(Prod.fst x') : Int))],
                                                                                [Sx.SO.cells (31 : Nat) [Sx.SV.lit (Go.Value.int Go.IntKind.i64 (Prod.snd x'))]]) ∧
                                                                            (Prod.fst x' ≤ List.length l ∧
                                                                                (-9223372036854775808 : Int) ≤ Prod.snd x' ∧ Prod.snd x' ≤ (9223372036854775807 : Int)) ∧
                                                                              List.length l - Prod.fst x' < List.length l - Prod.fst b) ∧
                                                                        True))))
                                                      (Sx.br (!Bool.false == (Prod.snd b == Prod.fst (Prod.snd (List.getD l (Prod.fst b) (Sx.Ty.dflt T4.oty)))))
                                                        (Q (Sx.SV.lit (Go.Value.bool Bool.false), [], []))
                                                        (Sx.br (Prod.snd b != Prod.snd b) (Q (Sx.SV.lit (Go.Value.bool Bool.false), [], []))
                                                          ((List.length (Prod.snd (Prod.snd (Prod.snd (List.getD l (Prod.fst b) (Sx.Ty.dflt T4.oty))))) =
                                                                List.length (Prod.snd (Prod.snd (Prod.snd (List.getD l (Prod.fst b) (Sx.Ty.dflt T4.oty))))) ∧
                                                              (∃ (t : List (Sx.Ty.den (Sx.Ty.int Go.IntKind.i64))),
                                                                  Prod.snd (Prod.snd (Prod.snd (List.getD l (Prod.fst b) (Sx.Ty.dflt T4.oty)))) ++ t =
                                                                    Prod.snd (Prod.snd (Prod.snd (List.getD l (Prod.fst b) (Sx.Ty.dflt T4.oty)))) ++
                                                                      List.take (1 : Nat) (List.drop (0 : Nat) [(-77 : Int)])) ∧
                                                                List.length (Prod.snd (Prod.snd (Prod.snd (List.getD l (Prod.fst b) (Sx.Ty.dflt T4.oty))))) ≤ (1099511627776 : Nat)) ∧
                                                            ((0 : Int) ≤
                                                                  Go.IntKind.wrap Go.IntKind.i64
                                                                    ((↑(List.length (Prod.snd (Prod.snd (Prod.snd (List.getD l (Prod.fst b) (Sx.Ty.dflt T4.oty)))))) : Int) + (1 : Int)) ∧
                                                                Go.IntKind.wrap Go.IntKind.i64
                                                                    ((↑(List.length (Prod.snd (Prod.snd (Prod.snd (List.getD l (Prod.fst b) (Sx.Ty.dflt T4.oty)))))) : Int) + (1 : Int)) ≤
                                                                  (↑(List.length
                                                                        (Prod.snd (Prod.snd (Prod.snd (List.getD l (Prod.fst b) (Sx.Ty.dflt T4.oty)))) ++
                                                                          List.take (1 : Nat) (List.drop (0 : Nat) [(-77 : Int)]))) :
                                                                    Int)) ∧
                                                              True ∧
                                                                ((0 : Int) ≤ (↑(List.length (Prod.snd (Prod.snd (Prod.snd (List.getD l (Prod.fst b) (Sx.Ty.dflt T4.oty)))))) : Int) ∧
                                                                    (↑(List.length (Prod.snd (Prod.snd (Prod.snd (List.getD l (Prod.fst b) (Sx.Ty.dflt T4.oty)))))) : Int) <
                                                                      (↑(Int.toNat
                                                                            (Go.IntKind.wrap Go.IntKind.i64
                                                                              ((↑(List.length (Prod.snd (Prod.snd (Prod.snd (List.getD l (Prod.fst b) (Sx.Ty.dflt T4.oty)))))) : Int) +
                                                                                (1 : Int)))) :
                                                                        Int)) ∧
                                                                  (0 : Nat) + List.length (Prod.snd (Prod.snd (Prod.snd (List.getD l (Prod.fst b) (Sx.Ty.dflt T4.oty))))) <
                                                                      List.length
                                                                        (Prod.snd (Prod.snd (Prod.snd (List.getD l (Prod.fst b) (Sx.Ty.dflt T4.oty)))) ++
                                                                          List.take (1 : Nat) (List.drop (0 : Nat) [(-77 : Int)])) ∧
                                                                    Sx.br
                                                                      (!List.getD
                                                                            (Prod.snd (Prod.snd (Prod.snd (List.getD l (Prod.fst b) (Sx.Ty.dflt T4.oty)))) ++
                                                                              List.take (1 : Nat) (List.drop (0 : Nat) [(-77 : Int)]))
                                                                            ((0 : Nat) + List.length (Prod.snd (Prod.snd (Prod.snd (List.getD l (Prod.fst b) (Sx.Ty.dflt T4.oty))))))
                                                                            (Sx.Ty.dflt (Sx.Ty.int Go.IntKind.i64)) ==
                                                                          (-77 : Int))
                                                                      (Q (Sx.SV.lit (Go.Value.bool Bool.false), [], []))
                                                                      ((∃ (x' : Nat × Int),
                                                                          ([Sx.SV.imm
                                                                                    (Sx.Ty.pair (Sx.Ty.int Go.IntKind.i64)
                                                                                      (Sx.Ty.pair (Sx.Ty.int Go.IntKind.i64)
                                                                                        (Sx.Ty.pair (Sx.Ty.int Go.IntKind.i64) (Sx.Ty.imm (Sx.Ty.int Go.IntKind.i64)))))
                                                                                    l,
                                                                                  Sx.SV.ptr (0 : Nat) (0 : Nat), Sx.SV.lit (Go.Value.int Go.IntKind.i64 (Prod.snd b)),
                                                                                  Sx.SV.lit
                                                                                    (Go.Value.int Go.IntKind.i64 (Go.IntKind.wrap Go.IntKind.i64 ((↑(Prod.fst b) : Int) + (1 : Int))))],
                                                                                [Sx.SO.cells (31 : Nat) [Sx.SV.lit (Go.Value.int Go.IntKind.i64 (Prod.snd b))]]) =
                                                                              ([Sx.SV.imm
                                                                                    (Sx.Ty.pair (Sx.Ty.int Go.IntKind.i64)
                                                                                      (Sx.Ty.pair (Sx.Ty.int Go.IntKind.i64)
                                                                                        (Sx.Ty.pair (Sx.Ty.int Go.IntKind.i64) (Sx.Ty.imm (Sx.Ty.int Go.IntKind.i64)))))
                                                                                    l,
                                                                                  Sx.SV.ptr (0 : Nat) (0 : Nat), Sx.SV.lit (Go.Value.int Go.IntKind.i64 (Prod.snd x')),
                                                                                  Sx.SV.lit (Go.Value.int Go.IntKind.i64 (↑(Prod.fst x') : Int))],
                                                                                [Sx.SO.cells (31 : Nat) [Sx.SV.lit (Go.Value.int Go.IntKind.i64 (Prod.snd x'))]]) ∧
                                                                            (Prod.fst x' ≤ List.length l ∧
                                                                                (-9223372036854775808 : Int) ≤ Prod.snd x' ∧ Prod.snd x' ≤ (9223372036854775807 : Int)) ∧
                                                                              List.length l - Prod.fst x' < List.length l - Prod.fst b) ∧
                                                                        True)))))))))))
                    (Q (Sx.SV.lit (Go.Value.bool Bool.true), [], [])))) (by kernel_rfl) ?_
  have hb : bytesOf Try.prog 3 = 8 := by kernel_rfl
  refine br_intro (fun h => ⟨by simp, by simp, hq⟩) (fun h => ⟨by simp, by simp, ⟨(0, 0), rfl, by simp⟩, ?_⟩)
  have h := of_decide_eq_false h
  rintro ⟨i, now⟩ ⟨hi, hn⟩
  refine br_intro (fun hlt => ?_) (fun hge => ?_)
  · have hlt := of_decide_eq_true hlt
    simp only at hlt hi hn
    have hlt' : i < l.length := by omega
    have hmem : l.getD i oty.dflt ∈ l := by
      rw [List.getD_eq_getElem?_getD, List.getElem?_eq_getElem hlt']; exact List.getElem_mem _
    dsimp only
    generalize hog : l.getD i oty.dflt = o at hmem ⊢
    obtain ⟨kd, N, M, L⟩ := o
    obtain ⟨hN, hM, hL⟩ := hl _ hmem
    dsimp only at hN hM hL ⊢
    refine ⟨⟨by omega, by omega⟩, hlt', br_intro (fun _ => hq) (fun h20 => ?_)⟩
    have h20 := of_decide_eq_false h20
    have hlen : (L ++ [-77]).length = L.length + 1 := by simp
    have hget : (L ++ [-77]).getD L.length (Ty.dflt (.int .i64)) = -77 := by simp
    have htk : (L ++ [-77]).take L.length = L := by simp
    have e1 : List.take 1 (List.drop 0 ([-77] : List Int)) = [-77] := rfl
    simp only [e1, hb, hlen, hget, htk, wrap_nat L.length (by omega), Int.toNat_natCast, Nat.zero_add]
    refine ⟨⟨by omega, by omega⟩, by simp, trivial, ⟨by simp; omega, by simp; omega⟩, ⟨by omega, by omega⟩, trivial, br_intro (fun _ => ?_) (fun _ => br_intro (fun _ => ?_) (fun _ => br_intro (fun _ => ?_) (fun _ => ?_)))⟩
    · refine ⟨⟨0, by rw [List.take_zero, addAll_nil now hn]; rfl, by omega⟩, fun k hk => br_intro (fun hlk => ?_) (fun hlk => ?_)⟩
      · have hlk := of_decide_eq_true hlk
        have hlk' : k < List.length L := by omega
        refine ⟨⟨by omega, by omega⟩, hlk', ⟨k + 1, ?_, by omega, by omega⟩, trivial⟩
        rw [addAll_step now L k hlk', wrap_nat k (by omega)]
      · have hlk := of_decide_eq_false hlk
        have hk' : k = List.length L := by omega
        subst hk'
        have e2 : IntKind.i64.wrap (now + sumW L) = addAll now L := by unfold sumW addAll; exact wrap_add' _ _
        simp only [e2, List.take_length]
        refine ⟨⟨by omega, by omega⟩, br_intro (fun hc => by simp at hc) (fun _ => br_intro (fun hc => by simp at hc) (fun _ => ?_))⟩
        refine ⟨⟨trivial, ⟨[-77], rfl⟩, by omega⟩, by omega, trivial, by omega, by omega, br_intro (fun hc => by simp at hc) (fun _ => ⟨⟨(i + 1, addAll now L), ?_, ⟨by omega, addAll_in now L⟩, ?_⟩, trivial⟩)⟩
        · rw [wrap_nat i (by omega)]
        · show l.length - (i + 1) < l.length - i; omega
    · refine ⟨⟨0, by rw [List.take_zero]; rfl, by omega⟩, fun k hk => br_intro (fun hlk => ?_) (fun hlk => ?_)⟩
      · have hlk := of_decide_eq_true hlk
        have hlk' : k < List.length L := by omega
        refine ⟨⟨by omega, by omega⟩, hlk', ⟨k + 1, ?_, by omega, by omega⟩, trivial⟩
        rw [maxAll_step now L k hlk', wrap_nat k (by omega)]
      · have hlk := of_decide_eq_false hlk
        have hk' : k = List.length L := by omega
        subst hk'
        have e2 : List.foldl (fun m x => max m x) now L = maxAll now L := rfl
        simp only [e2, List.take_length]
        refine ⟨⟨by omega, by omega⟩, br_intro (fun hc => by simp at hc) (fun _ => br_intro (fun hc => by simp at hc) (fun _ => ?_))⟩
        refine ⟨⟨trivial, ⟨[-77], rfl⟩, by omega⟩, by omega, trivial, by omega, by omega, br_intro (fun hc => by simp at hc) (fun _ => ⟨⟨(i + 1, maxAll now L), ?_, ⟨by omega, maxAll_in L now hn hL⟩, ?_⟩, trivial⟩)⟩
        · rw [wrap_nat i (by omega)]
        · show l.length - (i + 1) < l.length - i; omega
    · refine br_intro (fun hc => by simp at hc) (fun _ => br_intro (fun hc => by simp at hc) (fun _ => ?_))
      refine ⟨⟨trivial, ⟨[-77], rfl⟩, by omega⟩, by omega, trivial, by omega, by omega, br_intro (fun hc => by simp at hc) (fun _ => ⟨⟨(i + 1, N), ?_, ⟨by omega, hN⟩, ?_⟩, trivial⟩)⟩
      · rw [wrap_nat i (by omega)]
      · show l.length - (i + 1) < l.length - i; omega
    · intro b _
      refine br_intro (fun _ => ?_) (fun _ => ?_)
      · cases hN' : (now == N)
        · refine br_intro (fun hc => by cases hc) (fun _ => br_intro (fun hc => by cases hc) (fun _ => br_intro (fun hc => by cases hc) (fun _ => br_intro (fun hc => by simp at hc) (fun _ => ?_))))
          refine ⟨⟨trivial, ⟨[-77], rfl⟩, by omega⟩, by omega, trivial, by omega, by omega, br_intro (fun hc => by simp at hc) (fun _ => ⟨⟨(i + 1, now), ?_, ⟨by omega, hn⟩, ?_⟩, trivial⟩)⟩
          · rw [wrap_nat i (by omega)]
          · show l.length - (i + 1) < l.length - i; omega
        · refine br_intro (fun _ => br_intro (fun _ => br_intro (fun hc => by cases hc) (fun _ => br_intro (fun hc => by simp at hc) (fun _ => ?_))) (fun hc => by cases hc)) (fun hc => by cases hc)
          refine ⟨⟨trivial, ⟨[-77], rfl⟩, by omega⟩, by omega, trivial, by omega, by omega, br_intro (fun hc => by simp at hc) (fun _ => ⟨⟨(i + 1, M), ?_, ⟨by omega, hM⟩, ?_⟩, trivial⟩)⟩
          · rw [wrap_nat i (by omega)]
          · show l.length - (i + 1) < l.length - i; omega
      · cases hN' : (now == N)
        · refine br_intro (fun hc => by cases hc) (fun _ => br_intro (fun hc => by cases hc) (fun _ => br_intro (fun hc => by cases hc) (fun _ => br_intro (fun hc => by simp at hc) (fun _ => ?_))))
          refine ⟨⟨trivial, ⟨[-77], rfl⟩, by omega⟩, by omega, trivial, by omega, by omega, br_intro (fun hc => by simp at hc) (fun _ => ⟨⟨(i + 1, now), ?_, ⟨by omega, hn⟩, ?_⟩, trivial⟩)⟩
          · rw [wrap_nat i (by omega)]
          · show l.length - (i + 1) < l.length - i; omega
        · refine br_intro (fun _ => br_intro (fun _ => br_intro (fun hc => by cases hc) (fun _ => br_intro (fun hc => by simp at hc) (fun _ => ?_))) (fun hc => by cases hc)) (fun hc => by cases hc)
          refine ⟨⟨trivial, ⟨[-77], rfl⟩, by omega⟩, by omega, trivial, by omega, by omega, br_intro (fun hc => by simp at hc) (fun _ => ⟨⟨(i + 1, M), ?_, ⟨by omega, hM⟩, ?_⟩, trivial⟩)⟩
          · rw [wrap_nat i (by omega)]
          · show l.length - (i + 1) < l.length - i; omega
  · exact hq
end T4
