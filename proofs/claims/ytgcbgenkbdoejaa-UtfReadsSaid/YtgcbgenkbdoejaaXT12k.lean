/- Part of a proof: the walk of the functions that the law calls. -/
import Derived.Test.YtgcbgenkbdoejaaSxT
import Derived.Test.YtgcbgenkbdoejaaXT12h
set_option linter.unusedVariables false
open Go Sx Go.Proofs
namespace T12
set_option maxRecDepth 100000
set_option maxHeartbeats 1000000
attribute [local irreducible] Tree.Leads
/-- A mark of a list's own. -/
def mk (i k : Int) : Int := IntKind.i32.wrap (IntKind.i64.wrap (IntKind.i64.wrap (IntKind.i64.wrap (-1000 * i) - k) - 7))
def marks (i : Int) (k : Nat) : Nat → List Int
  | 0 => []
  | n + 1 => marks i k n ++ [mk i ((k + n : Nat) : Int)]
theorem marks_len (i : Int) (k : Nat) : ∀ n, (marks i k n).length = n
  | 0 => rfl
  | n + 1 => by simp only [marks, List.length_append, marks_len i k n]; rfl
noncomputable def A79 (i k n : Nat) : Ann := { live := [0, 1, 2, 7, 8], mv := [], nilS := [(7, 21, .int .i32)], head := fun _ _ => { X := Nat, inv := fun j => ([.lit (.int .i64 i), .lit (.int .i64 k), .lit (.int .i64 n), .sl 0 1 0 j, .lit (.int .i64 ((k + j : Nat) : Int))], [.row 21 (.int .i32) (marks i k j)]), ok := fun j => j ≤ n, mu := fun j => n - j } }
theorem v79 (i k n : Nat) (Q : SV × Heap × List Nat → Prop) (hk : k ≤ 1000000) (hn : n ≤ 1000000) (hq : Q (.sl 0 1 0 n, [.row 21 (.int .i32) (marks i k n)], [])) : (bodySumm T3 Try.prog Try.f79 (An1 0 (A79 i k n)) [.lit (.int .i64 i), .lit (.int .i64 k), .lit (.int .i64 n)] []).Leads Q := by
  refine Sx.by_text (q :=
      (∃ (x : Nat), ([Sx.SV.lit (Go.Value.int Go.IntKind.i64 (↑i : Int)), Sx.SV.lit (Go.Value.int Go.IntKind.i64 (↑k : Int)), Sx.SV.lit (Go.Value.int Go.IntKind.i64 (↑n : Int)),
      Sx.SV.sl (0 : Nat) (1 : Nat) (0 : Nat) (0 : Nat), Sx.SV.lit (Go.Value.int Go.IntKind.i64 (↑k : Int))], [Sx.SO.row (21 : Nat) (Sx.Ty.int Go.IntKind.i32) []]) = ([Sx.SV.lit
      (Go.Value.int Go.IntKind.i64 (↑i : Int)), Sx.SV.lit (Go.Value.int Go.IntKind.i64 (↑k : Int)), Sx.SV.lit (Go.Value.int Go.IntKind.i64 (↑n : Int)), Sx.SV.sl (0 : Nat) (1 :
      Nat) (0 : Nat) x, Sx.SV.lit (Go.Value.int Go.IntKind.i64 (↑(k + x) : Int))], [Sx.SO.row (21 : Nat) (Sx.Ty.int Go.IntKind.i32) (T12.marks (↑i : Int) k x)]) ∧ x ≤ n) ∧ ∀ (b
      : Nat), b ≤ n → Sx.br (Decidable.decide ((↑(k + b) : Int) < Go.IntKind.wrap Go.IntKind.i64 ((↑k : Int) + (↑n : Int)))) ((1 : Nat) ≤ (1 : Nat) ∧ Sx.br (Decidable.decide (b
      + (1 : Nat) ≤ List.length (T12.marks (↑i : Int) k b))) ((∃ (x' : Nat), ([Sx.SV.lit (Go.Value.int Go.IntKind.i64 (↑i : Int)), Sx.SV.lit (Go.Value.int Go.IntKind.i64 (↑k :
      Int)), Sx.SV.lit (Go.Value.int Go.IntKind.i64 (↑n : Int)), Sx.SV.sl (0 : Nat) (1 : Nat) (0 : Nat) (b + (1 : Nat)), Sx.SV.lit (Go.Value.int Go.IntKind.i64 (Go.IntKind.wrap
      Go.IntKind.i64 ((↑(k + b) : Int) + (1 : Int))))], [Sx.SO.row (21 : Nat) (Sx.Ty.int Go.IntKind.i32) (List.take b (T12.marks (↑i : Int) k b) ++ [Go.IntKind.wrap
      Go.IntKind.i32 (Go.IntKind.wrap Go.IntKind.i64 (Go.IntKind.wrap Go.IntKind.i64 (Go.IntKind.wrap Go.IntKind.i64 ((-1000 : Int) * (↑i : Int)) - (↑(k + b) : Int)) - (7 :
      Int)))] ++ List.drop (b + (1 : Nat)) (T12.marks (↑i : Int) k b))]) = ([Sx.SV.lit (Go.Value.int Go.IntKind.i64 (↑i : Int)), Sx.SV.lit (Go.Value.int Go.IntKind.i64 (↑k :
      Int)), Sx.SV.lit (Go.Value.int Go.IntKind.i64 (↑n : Int)), Sx.SV.sl (0 : Nat) (1 : Nat) (0 : Nat) x', Sx.SV.lit (Go.Value.int Go.IntKind.i64 (↑(k + x') : Int))],
      [Sx.SO.row (21 : Nat) (Sx.Ty.int Go.IntKind.i32) (T12.marks (↑i : Int) k x')]) ∧ x' ≤ n ∧ n - x' < n - b) ∧ True) (b ≤ List.length (T12.marks (↑i : Int) k b) ∧ ((↑(b + (1
      : Nat)) : Int) ≤ (9223372036854775807 : Int) ∧ (b + (1 : Nat)) * Sx.bytesOf Go.Proofs.Try.prog (21 : Nat) ≤ (140737488355328 : Nat)) ∧ (∃ (x' : Nat), ([Sx.SV.lit
      (Go.Value.int Go.IntKind.i64 (↑i : Int)), Sx.SV.lit (Go.Value.int Go.IntKind.i64 (↑k : Int)), Sx.SV.lit (Go.Value.int Go.IntKind.i64 (↑n : Int)), Sx.SV.sl (0 : Nat) (1 :
      Nat) (0 : Nat) (b + (1 : Nat)), Sx.SV.lit (Go.Value.int Go.IntKind.i64 (Go.IntKind.wrap Go.IntKind.i64 ((↑(k + b) : Int) + (1 : Int))))], [Sx.SO.row (21 : Nat) (Sx.Ty.int
      Go.IntKind.i32) (List.take b (T12.marks (↑i : Int) k b) ++ [Go.IntKind.wrap Go.IntKind.i32 (Go.IntKind.wrap Go.IntKind.i64 (Go.IntKind.wrap Go.IntKind.i64 (Go.IntKind.wrap
      Go.IntKind.i64 ((-1000 : Int) * (↑i : Int)) - (↑(k + b) : Int)) - (7 : Int)))])]) = ([Sx.SV.lit (Go.Value.int Go.IntKind.i64 (↑i : Int)), Sx.SV.lit (Go.Value.int
      Go.IntKind.i64 (↑k : Int)), Sx.SV.lit (Go.Value.int Go.IntKind.i64 (↑n : Int)), Sx.SV.sl (0 : Nat) (1 : Nat) (0 : Nat) x', Sx.SV.lit (Go.Value.int Go.IntKind.i64 (↑(k +
      x') : Int))], [Sx.SO.row (21 : Nat) (Sx.Ty.int Go.IntKind.i32) (T12.marks (↑i : Int) k x')]) ∧ x' ≤ n ∧ n - x' < n - b) ∧ True)) (Q (Sx.SV.sl (0 : Nat) (1 : Nat) (0 : Nat)
      b, [Sx.SO.row (21 : Nat) (Sx.Ty.int Go.IntKind.i32) (T12.marks (↑i : Int) k b)], []))) (by kernel_rfl) ?_
  have hb : bytesOf Try.prog 21 = 4 := by kernel_rfl
  have hml : ∀ (a : Int) (k n : Nat), (marks a k n).length = n := marks_len
  have hw : IntKind.i64.wrap ((k : Int) + n) = k + n := by rw [IntKind.wrap_i64]; omega
  refine ⟨⟨0, rfl, by omega⟩, fun j hj => br_intro (fun hlt => ?_) (fun hge => ?_)⟩
  · have hlt := of_decide_eq_true hlt
    rw [hw] at hlt
    rw [hml, hb]
    have e : IntKind.i64.wrap (((k + j : Nat) : Int) + 1) = ((k + (j + 1) : Nat) : Int) := by rw [IntKind.wrap_i64]; omega
    have e2 : (marks (i : Int) k j).take j = marks (i : Int) k j := List.take_of_length_le (by rw [hml]; exact Nat.le_refl _)
    rw [e, e2]
    exact ⟨by omega, br_intro (fun h => by have := of_decide_eq_true h; omega) (fun _ => ⟨by omega, ⟨by omega, by omega⟩, ⟨j + 1, rfl, by omega, by omega⟩, trivial⟩)⟩
  · have hge := of_decide_eq_false hge
    rw [hw] at hge
    have : j = n := by omega
    subst this
    exact hq
noncomputable def s79 : Summ := fun args H => match args, H with
  | [.lit (.int .i64 i), .lit (.int .i64 k), .lit (.int .i64 n)], [] => .need ((0 ≤ i ∧ 0 ≤ k ∧ 0 ≤ n) ∧ k ≤ 1000000 ∧ n ≤ 1000000) (.ret (.sl 0 1 0 n.toNat, [.row 21 (.int .i32) (marks i k.toNat n.toNat)], []))
  | _, _ => .fail
theorem s79_ok : SummOK Try.prog 79 s79 := by
  refine summ_of_body (fn := Try.f79) (c := Try.f79.body.get!) T3_ok (by kernel_rfl) (by kernel_rfl) (by kernel_rfl) fun args H Q h => ?_
  unfold s79 at h
  split at h
  · rename_i i k n
    simp only [Tree.Leads] at h
    obtain ⟨⟨⟨h1, h2, h3⟩, h4, h5⟩, hq⟩ := h
    obtain ⟨i, rfl⟩ : ∃ m : Nat, i = m := ⟨i.toNat, by omega⟩
    obtain ⟨k, rfl⟩ : ∃ m : Nat, k = m := ⟨k.toNat, by omega⟩
    obtain ⟨n, rfl⟩ : ∃ m : Nat, n = m := ⟨n.toNat, by omega⟩
    exact ⟨_, v79 i k n Q (by omega) (by omega) hq⟩
  · simp only [Tree.Leads] at h
noncomputable def K2 : Table := (T3.add 79 (.go s79)).add 13 (.go s13k)
theorem K2_ok : TableOK Try.prog K2 := add_ok (add_ok T3_ok s79_ok) s13k_ok
/-- Is each list as it was? -/
noncomputable def A33 (LL WW : List (List Int)) : Ann := { live := [0, 3], mv := [], head := fun vals H => match vals with | [a, _] => { X := Nat, inv := fun i => ([a, .lit (.int .i64 i)], H), ok := fun i => i ≤ LL.length ∧ LL.take i = WW.take i, mu := fun i => LL.length - i } | _ => { X := Nat, inv := fun _ => ([], []), ok := fun _ => False, mu := fun _ => 0 } }
theorem v33 (LL WW : List (List Int)) (Q : SV × Heap × List Nat → Prop) (hl : LL.length = WW.length) (hn : LL.length ≤ 1000) (hL : ∀ l ∈ LL, l.length ≤ 1000000) (hW : ∀ l ∈ WW, l.length ≤ 1000000)
    (hq : Q (.lit (.bool (decide (LL = WW))), [.cells 55 (bk (.sl 1 1 0 LL.length) (.sl 2 1 0 WW.length)), .kept 22 21 (.int .i32) LL, .row 22 (.imm (.int .i32)) WW], [])) :
    (bodySumm K2 Try.prog Try.f33 (An1 0 (A33 LL WW)) [.ptr 0 0] [.cells 55 (bk (.sl 1 1 0 LL.length) (.sl 2 1 0 WW.length)), .kept 22 21 (.int .i32) LL, .row 22 (.imm (.int .i32)) WW]).Leads Q := by
  refine Sx.by_text (q :=
      (∃ (x : Nat), ([Sx.SV.ptr (0 : Nat) (0 : Nat), Sx.SV.lit (Go.Value.int Go.IntKind.i64 (0 : Int))], [Sx.SO.cells (55 : Nat) (T12.bk (Sx.SV.sl (1 : Nat) (1 : Nat) (0 : Nat)
      (List.length LL)) (Sx.SV.sl (2 : Nat) (1 : Nat) (0 : Nat) (List.length WW))), Sx.SO.kept (22 : Nat) (21 : Nat) (Sx.Ty.int Go.IntKind.i32) LL, Sx.SO.row (22 : Nat)
      (Sx.Ty.imm (Sx.Ty.int Go.IntKind.i32)) WW]) = ([Sx.SV.ptr (0 : Nat) (0 : Nat), Sx.SV.lit (Go.Value.int Go.IntKind.i64 (↑x : Int))], [Sx.SO.cells (55 : Nat) (T12.bk
      (Sx.SV.sl (1 : Nat) (1 : Nat) (0 : Nat) (List.length LL)) (Sx.SV.sl (2 : Nat) (1 : Nat) (0 : Nat) (List.length WW))), Sx.SO.kept (22 : Nat) (21 : Nat) (Sx.Ty.int
      Go.IntKind.i32) LL, Sx.SO.row (22 : Nat) (Sx.Ty.imm (Sx.Ty.int Go.IntKind.i32)) WW]) ∧ x ≤ List.length LL ∧ List.take x LL = List.take x WW) ∧ ∀ (b : Nat), b ≤ List.length
      LL ∧ List.take b LL = List.take b WW → Sx.br (Decidable.decide ((↑b : Int) < (↑(List.length LL) : Int))) (((0 : Int) ≤ (↑b : Int) ∧ (↑b : Int) < (↑(List.length LL) : Int))
      ∧ (0 : Nat) + b < List.length LL ∧ ((0 : Int) ≤ (↑b : Int) ∧ (↑b : Int) < (↑(List.length WW) : Int)) ∧ (0 : Nat) + b < List.length WW ∧ (List.length (List.getD LL ((0 :
      Nat) + b) (Sx.Ty.dflt (Sx.Ty.imm (Sx.Ty.int Go.IntKind.i32)))) ≤ (1000000 : Nat) ∧ List.length (List.getD WW ((0 : Nat) + b) (Sx.Ty.dflt (Sx.Ty.imm (Sx.Ty.int
      Go.IntKind.i32)))) ≤ (1000000 : Nat)) ∧ Sx.br (!Decidable.decide (List.getD LL ((0 : Nat) + b) (Sx.Ty.dflt (Sx.Ty.imm (Sx.Ty.int Go.IntKind.i32))) = List.getD WW ((0 :
      Nat) + b) (Sx.Ty.dflt (Sx.Ty.imm (Sx.Ty.int Go.IntKind.i32))))) (Q (Sx.SV.lit (Go.Value.bool Bool.false), [Sx.SO.cells (55 : Nat) (T12.bk (Sx.SV.sl (1 : Nat) (1 : Nat) (0
      : Nat) (List.length LL)) (Sx.SV.sl (2 : Nat) (1 : Nat) (0 : Nat) (List.length WW))), Sx.SO.kept (22 : Nat) (21 : Nat) (Sx.Ty.int Go.IntKind.i32) LL, Sx.SO.row (22 : Nat)
      (Sx.Ty.imm (Sx.Ty.int Go.IntKind.i32)) WW], [])) ((∃ (x' : Nat), ([Sx.SV.ptr (0 : Nat) (0 : Nat), Sx.SV.lit (Go.Value.int Go.IntKind.i64 (Go.IntKind.wrap Go.IntKind.i64
      ((↑b : Int) + (1 : Int))))], [Sx.SO.cells (55 : Nat) (T12.bk (Sx.SV.sl (1 : Nat) (1 : Nat) (0 : Nat) (List.length LL)) (Sx.SV.sl (2 : Nat) (1 : Nat) (0 : Nat) (List.length
      WW))), Sx.SO.kept (22 : Nat) (21 : Nat) (Sx.Ty.int Go.IntKind.i32) LL, Sx.SO.row (22 : Nat) (Sx.Ty.imm (Sx.Ty.int Go.IntKind.i32)) WW]) = ([Sx.SV.ptr (0 : Nat) (0 : Nat),
      Sx.SV.lit (Go.Value.int Go.IntKind.i64 (↑x' : Int))], [Sx.SO.cells (55 : Nat) (T12.bk (Sx.SV.sl (1 : Nat) (1 : Nat) (0 : Nat) (List.length LL)) (Sx.SV.sl (2 : Nat) (1 :
      Nat) (0 : Nat) (List.length WW))), Sx.SO.kept (22 : Nat) (21 : Nat) (Sx.Ty.int Go.IntKind.i32) LL, Sx.SO.row (22 : Nat) (Sx.Ty.imm (Sx.Ty.int Go.IntKind.i32)) WW]) ∧ (x' ≤
      List.length LL ∧ List.take x' LL = List.take x' WW) ∧ List.length LL - x' < List.length LL - b) ∧ True)) (Q (Sx.SV.lit (Go.Value.bool Bool.true), [Sx.SO.cells (55 : Nat)
      (T12.bk (Sx.SV.sl (1 : Nat) (1 : Nat) (0 : Nat) (List.length LL)) (Sx.SV.sl (2 : Nat) (1 : Nat) (0 : Nat) (List.length WW))), Sx.SO.kept (22 : Nat) (21 : Nat) (Sx.Ty.int
      Go.IntKind.i32) LL, Sx.SO.row (22 : Nat) (Sx.Ty.imm (Sx.Ty.int Go.IntKind.i32)) WW], []))) (by kernel_rfl) ?_
  refine ⟨⟨0, rfl, by omega, rfl⟩, fun i hi => br_intro (fun hlt => ?_) (fun hge => ?_)⟩
  · have hlt := of_decide_eq_true hlt
    simp only [Nat.zero_add]
    have m1 : LL.getD i (Ty.imm (.int .i32)).dflt ∈ LL := by
      rw [List.getD_eq_getElem?_getD, List.getElem?_eq_getElem (by omega)]; exact List.getElem_mem _
    have m2 : WW.getD i (Ty.imm (.int .i32)).dflt ∈ WW := by
      rw [List.getD_eq_getElem?_getD, List.getElem?_eq_getElem (by omega)]; exact List.getElem_mem _
    refine ⟨by omega, by omega, by omega, by omega, ⟨hL _ m1, hW _ m2⟩, br_intro (fun g => ?_) (fun g => ⟨⟨i + 1, ?_, ⟨by omega, ?_⟩, by omega⟩, trivial⟩)⟩
    · have g : LL.getD i (Ty.imm (.int .i32)).dflt ≠ WW.getD i (Ty.imm (.int .i32)).dflt := by simpa using g
      rw [decF (PL.not_same g)] at hq
      exact hq
    · rw [wrap1 i (by omega)]
    · have g : LL.getD i (Ty.imm (.int .i32)).dflt = WW.getD i (Ty.imm (.int .i32)).dflt := by simpa using g
      exact PL.take_step (by omega) (by omega) hi.2 g
  · have hge := of_decide_eq_false hge
    rw [decide_eq_true (p := LL = WW) (PL.take_all (i := i) (by omega) (by omega) hi.2)] at hq
    exact hq
noncomputable def s33 : Summ := fun args H => match args, H with
  | [.ptr 0 0], [.cells 55 cs, .kept 22 21 (.int .i32) LL, .row 22 (.imm (.int .i32)) WW] => .need ((LL.length = WW.length ∧ LL.length ≤ 1000 ∧ (∀ l ∈ LL, l.length ≤ 1000000) ∧ ∀ l ∈ WW, l.length ≤ 1000000) ∧ cs = bk (.sl 1 1 0 LL.length) (.sl 2 1 0 WW.length))
      (.ret (.lit (.bool (decide (LL = WW))), [.cells 55 cs, .kept 22 21 (.int .i32) LL, .row 22 (.imm (.int .i32)) WW], []))
  | _, _ => .fail
theorem s33_ok : SummOK Try.prog 33 s33 := by
  refine summ_of_body (fn := Try.f33) (c := Try.f33.body.get!) K2_ok (by kernel_rfl) (by kernel_rfl) (by kernel_rfl) fun args H Q h => ?_
  unfold s33 at h
  split at h
  · rename_i cs LL WW
    simp only [Tree.Leads] at h
    obtain ⟨⟨⟨h1, h2, h3, h4⟩, rfl⟩, hq⟩ := h
    exact ⟨_, v33 LL WW Q h1 h2 h3 h4 hq⟩
  · simp only [Tree.Leads] at h
/-- Marks in one list. -/
noncomputable def B43 : Ann := { live := [0, 2, 3, 4], mv := [1], head := fun vals H => match vals, H with | [a, i, s, _], [c, l, .row 21 (.int .i32) R, .row 21 (.int .i32) M] => { X := Nat, inv := fun k => ([a, i, s, .lit (.int .i64 k)], [c, l, .row 21 (.int .i32) (M.take k ++ R.drop k), .row 21 (.int .i32) M]), ok := fun k => k ≤ M.length, mu := fun k => M.length - k } | _, _ => { X := Nat, inv := fun _ => ([], []), ok := fun _ => False, mu := fun _ => 0 } }
def marked (i : Nat) : List (List Int) → List (List Int)
  | [] => []
  | l :: r => marks i 0 l.length :: marked (i + 1) r
noncomputable def A43 (LL : List (List Int)) : Ann := { live := [0, 2], mv := [1], hook := 1, hk2 := 21, head := fun _ _ => { X := Nat, inv := fun i => ([.ptr 0 0, .lit (.int .i64 i)], [.cells 55 (bk (.sl 1 1 0 LL.length) .junk), .lists 22 21 (.int .i32) [] (marked 0 (LL.take i)) none (LL.drop i)]), ok := fun i => i ≤ LL.length, mu := fun i => LL.length - i } }
theorem marked_len (i : Nat) : ∀ l, (marked i l).length = l.length
  | [] => rfl
  | x :: l => by simp only [marked, List.length_cons, marked_len (i + 1) l]
theorem marked_snoc (x : List Int) : ∀ (l : List (List Int)) (i : Nat), marked i (l ++ [x]) = marked i l ++ [marks ((i + l.length : Nat) : Int) 0 x.length]
  | [], i => rfl
  | y :: l, i => by
    simp only [List.cons_append, marked, marked_snoc x l (i + 1), List.length_cons]
    rw [show i + 1 + l.length = i + (l.length + 1) by omega]
theorem set_step {α : Type} {M R : List α} {k : Nat} (d : α) (h : M.length = R.length) (hk : k < R.length) : (M.take k ++ R.drop k).set (0 + k) (M.getD (0 + k) d) = M.take (k + 1) ++ R.drop (k + 1) := by
  have hl : (M.take k).length = k := by rw [List.length_take]; omega
  rw [Nat.zero_add, List.set_append_right _ _ (by omega), hl, Nat.sub_self, List.drop_eq_getElem_cons hk, List.set_cons_zero, List.take_add_one, List.getElem?_eq_getElem (by omega), List.getD_eq_getElem?_getD, List.getElem?_eq_getElem (by omega)]
  simp only [Option.getD, Option.toList, List.append_assoc, List.cons_append, List.nil_append]
noncomputable def Z4 : Ann := { live := [], mv := [], head := fun _ _ => { X := Nat, inv := fun _ => ([], []), ok := fun _ => False, mu := fun _ => 0 }, hook := 4, hk2 := 21 }
theorem v43 (LL : List (List Int)) (Q : SV × Heap × List Nat → Prop) (hn : LL.length ≤ 1000) (hL : ∀ l ∈ LL, l.length ≤ 1000000)
    (hq : Q (.tup [], [.cells 55 (bk (.sl 1 1 0 LL.length) .junk), .lists 22 21 (.int .i32) [] [] none (marked 0 LL)], [1])) :
    (bodySumm K2 Try.prog Try.f43 (An3 0 (A43 LL) 2 B43 999999 Z4) [.ptr 0 0] [.cells 55 (bk (.sl 1 1 0 LL.length) .junk), .lists 22 21 (.int .i32) [] [] none LL]).Leads Q := by
  refine Sx.by_text (q :=
      (∃ (x : Nat), ([Sx.SV.ptr (0 : Nat) (0 : Nat), Sx.SV.lit (Go.Value.int Go.IntKind.i64 (0 : Int))], [Sx.SO.cells (55 : Nat) (T12.bk (Sx.SV.sl (1 : Nat) (1 : Nat) (0 : Nat)
      (List.length LL)) Sx.SV.junk), Sx.SO.lists (22 : Nat) (21 : Nat) (Sx.Ty.int Go.IntKind.i32) [] [] Option.none LL]) = ([Sx.SV.ptr (0 : Nat) (0 : Nat), Sx.SV.lit
      (Go.Value.int Go.IntKind.i64 (↑x : Int))], [Sx.SO.cells (55 : Nat) (T12.bk (Sx.SV.sl (1 : Nat) (1 : Nat) (0 : Nat) (List.length LL)) Sx.SV.junk), Sx.SO.lists (22 : Nat)
      (21 : Nat) (Sx.Ty.int Go.IntKind.i32) [] (T12.marked (0 : Nat) (List.take x LL)) Option.none (List.drop x LL)]) ∧ x ≤ List.length LL) ∧ ∀ (b : Nat), b ≤ List.length LL →
      Sx.br (Decidable.decide ((0 : Nat) < List.length (List.drop b LL))) (Sx.br (Decidable.decide ((↑b : Int) < (↑(List.length LL) : Int))) (((0 : Int) ≤ (↑b : Int) ∧ (↑b :
      Int) < (↑(List.length LL) : Int)) ∧ (0 : Nat) + b = (0 : Nat) + List.length (T12.marked (0 : Nat) (List.take b LL)) ∧ (((0 : Int) ≤ (↑b : Int) ∧ (0 : Int) ≤ (0 : Int) ∧ (0
      : Int) ≤ (↑(List.length (List.getD (List.drop b LL) (0 : Nat) [])) : Int)) ∧ (0 : Int) ≤ (1000000 : Int) ∧ (↑(List.length (List.getD (List.drop b LL) (0 : Nat) [])) : Int)
      ≤ (1000000 : Int)) ∧ (∃ (x : Nat), ([Sx.SV.ptr (0 : Nat) (0 : Nat), Sx.SV.lit (Go.Value.int Go.IntKind.i64 (↑b : Int)), Sx.SV.sl (3 : Nat) (1 : Nat) (0 : Nat) (List.length
      (List.getD (List.drop b LL) (0 : Nat) [])), Sx.SV.lit (Go.Value.int Go.IntKind.i64 (0 : Int))], [Sx.SO.cells (55 : Nat) (T12.bk (Sx.SV.sl (1 : Nat) (1 : Nat) (0 : Nat)
      (List.length LL)) Sx.SV.junk), Sx.SO.lists (22 : Nat) (21 : Nat) (Sx.Ty.int Go.IntKind.i32) [] (T12.marked (0 : Nat) (List.take b LL)) (Option.some ((2 : Nat), List.length
      (List.getD (List.drop b LL) (0 : Nat) []))) (List.drop (1 : Nat) (List.drop b LL)), Sx.SO.row (21 : Nat) (Sx.Ty.int Go.IntKind.i32) (List.getD (List.drop b LL) (0 : Nat)
      []), Sx.SO.row (21 : Nat) (Sx.Ty.int Go.IntKind.i32) (T12.marks (↑b : Int) (0 : Nat) (List.length (List.getD (List.drop b LL) (0 : Nat) [])))]) = ([Sx.SV.ptr (0 : Nat) (0
      : Nat), Sx.SV.lit (Go.Value.int Go.IntKind.i64 (↑b : Int)), Sx.SV.sl (3 : Nat) (1 : Nat) (0 : Nat) (List.length (List.getD (List.drop b LL) (0 : Nat) [])), Sx.SV.lit
      (Go.Value.int Go.IntKind.i64 (↑x : Int))], [Sx.SO.cells (55 : Nat) (T12.bk (Sx.SV.sl (1 : Nat) (1 : Nat) (0 : Nat) (List.length LL)) Sx.SV.junk), Sx.SO.lists (22 : Nat)
      (21 : Nat) (Sx.Ty.int Go.IntKind.i32) [] (T12.marked (0 : Nat) (List.take b LL)) (Option.some ((2 : Nat), List.length (List.getD (List.drop b LL) (0 : Nat) [])))
      (List.drop (1 : Nat) (List.drop b LL)), Sx.SO.row (21 : Nat) (Sx.Ty.int Go.IntKind.i32) (List.take x (T12.marks (↑b : Int) (0 : Nat) (List.length (List.getD (List.drop b
      LL) (0 : Nat) []))) ++ List.drop x (List.getD (List.drop b LL) (0 : Nat) [])), Sx.SO.row (21 : Nat) (Sx.Ty.int Go.IntKind.i32) (T12.marks (↑b : Int) (0 : Nat) (List.length
      (List.getD (List.drop b LL) (0 : Nat) [])))]) ∧ x ≤ List.length (T12.marks (↑b : Int) (0 : Nat) (List.length (List.getD (List.drop b LL) (0 : Nat) [])))) ∧ ∀ (b_1 : Nat),
      b_1 ≤ List.length (T12.marks (↑b : Int) (0 : Nat) (List.length (List.getD (List.drop b LL) (0 : Nat) []))) → Sx.br (Decidable.decide ((↑b_1 : Int) < (↑(List.length
      (List.getD (List.drop b LL) (0 : Nat) [])) : Int))) (((0 : Int) ≤ (↑b : Int) ∧ (↑b : Int) < (↑(List.length LL) : Int)) ∧ (0 : Nat) + b = (0 : Nat) + List.length
      (T12.marked (0 : Nat) (List.take b LL)) ∧ ((0 : Int) ≤ (↑b_1 : Int) ∧ (↑b_1 : Int) < (↑(List.length (List.getD (List.drop b LL) (0 : Nat) [])) : Int)) ∧ (0 : Nat) + b_1 <
      List.length (T12.marks (↑b : Int) (0 : Nat) (List.length (List.getD (List.drop b LL) (0 : Nat) []))) ∧ ((0 : Int) ≤ (↑b_1 : Int) ∧ (↑b_1 : Int) < (↑(List.length (List.getD
      (List.drop b LL) (0 : Nat) [])) : Int)) ∧ (0 : Nat) + b_1 < List.length (List.take b_1 (T12.marks (↑b : Int) (0 : Nat) (List.length (List.getD (List.drop b LL) (0 : Nat)
      []))) ++ List.drop b_1 (List.getD (List.drop b LL) (0 : Nat) [])) ∧ (∃ (x' : Nat), ([Sx.SV.ptr (0 : Nat) (0 : Nat), Sx.SV.lit (Go.Value.int Go.IntKind.i64 (↑b : Int)),
      Sx.SV.sl (3 : Nat) (1 : Nat) (0 : Nat) (List.length (List.getD (List.drop b LL) (0 : Nat) [])), Sx.SV.lit (Go.Value.int Go.IntKind.i64 (Go.IntKind.wrap Go.IntKind.i64
      ((↑b_1 : Int) + (1 : Int))))], [Sx.SO.cells (55 : Nat) (T12.bk (Sx.SV.sl (1 : Nat) (1 : Nat) (0 : Nat) (List.length LL)) Sx.SV.junk), Sx.SO.lists (22 : Nat) (21 : Nat)
      (Sx.Ty.int Go.IntKind.i32) [] (T12.marked (0 : Nat) (List.take b LL)) (Option.some ((2 : Nat), List.length (List.getD (List.drop b LL) (0 : Nat) []))) (List.drop (1 : Nat)
      (List.drop b LL)), Sx.SO.row (21 : Nat) (Sx.Ty.int Go.IntKind.i32) (List.set (List.take b_1 (T12.marks (↑b : Int) (0 : Nat) (List.length (List.getD (List.drop b LL) (0 :
      Nat) []))) ++ List.drop b_1 (List.getD (List.drop b LL) (0 : Nat) [])) ((0 : Nat) + b_1) (List.getD (T12.marks (↑b : Int) (0 : Nat) (List.length (List.getD (List.drop b
      LL) (0 : Nat) []))) ((0 : Nat) + b_1) (Sx.Ty.dflt (Sx.Ty.int Go.IntKind.i32)))), Sx.SO.row (21 : Nat) (Sx.Ty.int Go.IntKind.i32) (T12.marks (↑b : Int) (0 : Nat)
      (List.length (List.getD (List.drop b LL) (0 : Nat) [])))]) = ([Sx.SV.ptr (0 : Nat) (0 : Nat), Sx.SV.lit (Go.Value.int Go.IntKind.i64 (↑b : Int)), Sx.SV.sl (3 : Nat) (1 :
      Nat) (0 : Nat) (List.length (List.getD (List.drop b LL) (0 : Nat) [])), Sx.SV.lit (Go.Value.int Go.IntKind.i64 (↑x' : Int))], [Sx.SO.cells (55 : Nat) (T12.bk (Sx.SV.sl (1
      : Nat) (1 : Nat) (0 : Nat) (List.length LL)) Sx.SV.junk), Sx.SO.lists (22 : Nat) (21 : Nat) (Sx.Ty.int Go.IntKind.i32) [] (T12.marked (0 : Nat) (List.take b LL))
      (Option.some ((2 : Nat), List.length (List.getD (List.drop b LL) (0 : Nat) []))) (List.drop (1 : Nat) (List.drop b LL)), Sx.SO.row (21 : Nat) (Sx.Ty.int Go.IntKind.i32)
      (List.take x' (T12.marks (↑b : Int) (0 : Nat) (List.length (List.getD (List.drop b LL) (0 : Nat) []))) ++ List.drop x' (List.getD (List.drop b LL) (0 : Nat) [])),
      Sx.SO.row (21 : Nat) (Sx.Ty.int Go.IntKind.i32) (T12.marks (↑b : Int) (0 : Nat) (List.length (List.getD (List.drop b LL) (0 : Nat) [])))]) ∧ x' ≤ List.length (T12.marks
      (↑b : Int) (0 : Nat) (List.length (List.getD (List.drop b LL) (0 : Nat) []))) ∧ List.length (T12.marks (↑b : Int) (0 : Nat) (List.length (List.getD (List.drop b LL) (0 :
      Nat) []))) - x' < List.length (T12.marks (↑b : Int) (0 : Nat) (List.length (List.getD (List.drop b LL) (0 : Nat) []))) - b_1) ∧ True) (List.length (List.getD (List.drop b
      LL) (0 : Nat) []) ≤ List.length (List.take b_1 (T12.marks (↑b : Int) (0 : Nat) (List.length (List.getD (List.drop b LL) (0 : Nat) []))) ++ List.drop b_1 (List.getD
      (List.drop b LL) (0 : Nat) [])) ∧ (∃ (x' : Nat), ([Sx.SV.ptr (0 : Nat) (0 : Nat), Sx.SV.lit (Go.Value.int Go.IntKind.i64 (Go.IntKind.wrap Go.IntKind.i64 ((↑b : Int) + (1 :
      Int))))], [Sx.SO.cells (55 : Nat) (T12.bk (Sx.SV.sl (1 : Nat) (1 : Nat) (0 : Nat) (List.length LL)) Sx.SV.junk), Sx.SO.lists (22 : Nat) (21 : Nat) (Sx.Ty.int
      Go.IntKind.i32) [] (T12.marked (0 : Nat) (List.take b LL) ++ [List.take (List.length (List.getD (List.drop b LL) (0 : Nat) [])) (List.take b_1 (T12.marks (↑b : Int) (0 :
      Nat) (List.length (List.getD (List.drop b LL) (0 : Nat) []))) ++ List.drop b_1 (List.getD (List.drop b LL) (0 : Nat) []))]) Option.none (List.drop (1 : Nat) (List.drop b
      LL))]) = ([Sx.SV.ptr (0 : Nat) (0 : Nat), Sx.SV.lit (Go.Value.int Go.IntKind.i64 (↑x' : Int))], [Sx.SO.cells (55 : Nat) (T12.bk (Sx.SV.sl (1 : Nat) (1 : Nat) (0 : Nat)
      (List.length LL)) Sx.SV.junk), Sx.SO.lists (22 : Nat) (21 : Nat) (Sx.Ty.int Go.IntKind.i32) [] (T12.marked (0 : Nat) (List.take x' LL)) Option.none (List.drop x' LL)]) ∧
      x' ≤ List.length LL ∧ List.length LL - x' < List.length LL - b) ∧ True)) (Q (Sx.SV.tup ([] : List Sx.SV), [Sx.SO.cells (55 : Nat) (T12.bk (Sx.SV.sl (1 : Nat) (1 : Nat) (0
      : Nat) (List.length LL)) Sx.SV.junk), Sx.SO.lists (22 : Nat) (21 : Nat) (Sx.Ty.int Go.IntKind.i32) [] (T12.marked (0 : Nat) (List.take b LL)) (Option.some ((2 : Nat),
      List.length (List.getD (List.drop b LL) (0 : Nat) []))) (List.drop (1 : Nat) (List.drop b LL)), Sx.SO.row (21 : Nat) (Sx.Ty.int Go.IntKind.i32) (List.getD (List.drop b LL)
      (0 : Nat) [])], [(1 : Nat), (1 : Nat)]))) (Sx.br (Decidable.decide ((↑b : Int) < (↑(List.length LL) : Int))) (((0 : Int) ≤ (↑b : Int) ∧ (↑b : Int) < (↑(List.length LL) :
      Int)) ∧ False) (List.length (List.drop b LL) = (0 : Nat) ∧ Q (Sx.SV.tup ([] : List Sx.SV), [Sx.SO.cells (55 : Nat) (T12.bk (Sx.SV.sl (1 : Nat) (1 : Nat) (0 : Nat)
      (List.length LL)) Sx.SV.junk), Sx.SO.lists (22 : Nat) (21 : Nat) (Sx.Ty.int Go.IntKind.i32) [] [] Option.none (T12.marked (0 : Nat) (List.take b LL))], [(1 : Nat)])))) (by kernel_rfl) ?_
  refine ⟨⟨0, rfl, by omega⟩, fun i hi => br_intro (fun hd => ?_) (fun hd => ?_)⟩
  · have hd := of_decide_eq_true hd
    rw [List.length_drop] at hd
    have hi2 : i < LL.length := by omega
    have e := List.drop_eq_getElem_cons hi2
    have hlen := hL _ (List.getElem_mem hi2)
    have etk : LL.take (i + 1) = LL.take i ++ [LL[i]] := by rw [List.take_add_one, List.getElem?_eq_getElem hi2]; rfl
    rw [e]
    simp only [List.getD_cons_zero, List.drop_succ_cons, List.drop_zero]
    generalize LL[i] = R at *
    have hM := marks_len (i : Int) 0 R.length
    have hms : marked 0 (LL.take (i + 1)) = marked 0 (LL.take i) ++ [marks (i : Int) 0 R.length] := by
      rw [etk, marked_snoc, List.length_take, Nat.min_eq_left hi, Nat.zero_add]
    have hml := marked_len 0 (LL.take i)
    rw [List.length_take, Nat.min_eq_left hi] at hml
    generalize marks (i : Int) 0 R.length = M at *
    refine br_intro (fun hlt => ⟨by omega, by omega, by omega, ⟨0, rfl, by omega⟩, fun k hk => br_intro (fun hlt2 => ?_) (fun hge2 => ?_)⟩) (fun hge => by have := of_decide_eq_false hge; omega)
    · have hlt2 := of_decide_eq_true hlt2
      have hl : (List.take k M ++ List.drop k R).length = R.length := by rw [List.length_append, List.length_take, List.length_drop]; omega
      refine ⟨by omega, by omega, by omega, by omega, by omega, by omega, ⟨k + 1, ?_, by omega, by omega⟩, trivial⟩
      rw [wrap1 k (by omega), set_step _ hM (by omega)]
    · have hge2 := of_decide_eq_false hge2
      have : k = R.length := by omega
      subst this
      have e1 : M.take R.length ++ R.drop R.length = M := by rw [List.drop_length, List.append_nil]; exact List.take_of_length_le (by omega)
      have e2 : M.take R.length = M := List.take_of_length_le (by omega)
      rw [e1, e2, wrap1 i (by omega)]
      exact ⟨by omega, ⟨i + 1, by rw [hms], by omega, by omega⟩, trivial⟩
  · have hd := of_decide_eq_false hd
    rw [List.length_drop] at hd
    have : i = LL.length := by omega
    subst this
    refine br_intro (fun h => by have := of_decide_eq_true h; omega) (fun _ => ⟨by rw [List.length_drop]; omega, ?_⟩)
    rw [List.take_length]
    exact hq
/-- Marks in all. -/
noncomputable def s43 : Summ := fun args H => match args, H with
  | [.ptr 0 0], [.cells 55 cs, .lists 22 21 (.int .i32) [] [] none LL] => .need ((LL.length ≤ 1000 ∧ ∀ l ∈ LL, l.length ≤ 1000000) ∧ cs = bk (.sl 1 1 0 LL.length) .junk)
      (.ret (.tup [], [.cells 55 cs, .lists 22 21 (.int .i32) [] [] none (marked 0 LL)], [1]))
  | _, _ => .fail
theorem s43_ok : SummOK Try.prog 43 s43 := by
  refine summ_of_body (fn := Try.f43) (c := Try.f43.body.get!) K2_ok (by kernel_rfl) (by kernel_rfl) (by kernel_rfl) fun args H Q h => ?_
  unfold s43 at h
  split at h
  · rename_i cs LL
    simp only [Tree.Leads] at h
    obtain ⟨⟨⟨h1, h2⟩, rfl⟩, hq⟩ := h
    refine ⟨_, v43 LL Q h1 h2 hq⟩
  · simp only [Tree.Leads] at h
end T12
