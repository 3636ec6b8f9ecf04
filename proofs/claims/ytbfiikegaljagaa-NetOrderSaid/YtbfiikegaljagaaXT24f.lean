/- Part of a proof: the walk of the functions that the law calls. -/
import Derived.Test.YtbfiikegaljagaaSxT
import Derived.Test.YtbfiikegaljagaaXT24e
open Go Sx Go.Proofs
namespace T24
set_option maxRecDepth 100000
set_option maxHeartbeats 1000000
attribute [local irreducible] Tree.Leads
def pks (l : List ByteArray) (i : Nat) : List pty.den := (List.range i).map fun (k : Nat) => ((k : Int), (2 : Int), l.getD k ByteArray.empty)
noncomputable def A3 (l : List ByteArray) : Ann := { live := [0, 1, 5, 6], mv := [], nilH := [(34, 0, 37, pty)], head := fun vals _ => match vals with | [a, b, c, _] => { X := Nat, inv := fun i => ([a, b, c, .lit (.int .i64 i)], [.cells 34 [.sl 1 3 0 (pks l i).length, .lit (.int .i64 i)], .row 37 pty (pks l i)]), ok := fun i => i ≤ l.length ∧ ∀ k, k < i → (l.getD k ByteArray.empty).size ≤ 100, mu := fun i => l.length - i } | _ => { X := Nat, inv := fun _ => ([], []), ok := fun _ => False, mu := fun _ => 0 } }
noncomputable def B3 (l : List ByteArray) : Ann := { live := [0, 1, 5, 7, 8], mv := [], head := fun vals H => match vals, H with | [a, b, c, d, _], [.cells et [_, s], .row e (.pair (.int .i64) (.pair (.int .i64) .str)) L] => { X := Nat, inv := fun i => ([a, b, c, d, .lit (.int .i64 i)], [.cells et [.sl 1 3 0 (L.length - i), s], .row e pty (L.drop i ++ List.replicate i pz)]), ok := fun i => i ≤ l.length, mu := fun i => l.length - i } | _, _ => { X := Nat, inv := fun _ => ([], []), ok := fun _ => False, mu := fun _ => 0 } }
theorem pks_length (l : List ByteArray) (i : Nat) : (pks l i).length = i := by simp [pks]
theorem pks_step (l : List ByteArray) (i : Nat) : pks l (i + 1) = pks l i ++ [((i : Int), (2 : Int), l.getD i ByteArray.empty)] := by
  simp [pks, List.range_succ]
theorem pks_getD (l : List ByteArray) (i k : Nat) (h : k < i) (d : pty.den) : (pks l i).getD k d = ((k : Int), (2 : Int), l.getD k ByteArray.empty) := by
  simp [pks, h]
theorem row_len (L : List pty.den) (b : Nat) (h : b ≤ L.length) : (L.drop b ++ List.replicate b pz).length = L.length := by
  rw [List.length_append, List.length_drop, List.length_replicate]; omega
theorem row_fst (L : List pty.den) (b : Nat) (h : b < L.length) (d : pty.den) : (L.drop b ++ List.replicate b pz).getD 0 d = L.getD b d := by
  rw [List.drop_eq_getElem_cons h, List.cons_append, List.getD_cons_zero, List.getD_eq_getElem?_getD, List.getElem?_eq_getElem h]; rfl
theorem row_del (L : List pty.den) (b : Nat) (h : b < L.length) : delAt (L.drop b ++ List.replicate b pz) (L.length - b) 0 = L.drop (b + 1) ++ List.replicate (b + 1) pz := by
  have hl : (L.drop (b + 1)).length = L.length - b - 1 := by rw [List.length_drop]; omega
  have hk : (L.drop b).length = L.length - b := List.length_drop
  unfold delAt
  rw [← hk, List.drop_left, List.drop_eq_getElem_cons h, List.cons_append, Nat.zero_add, List.drop_one, List.tail_cons, List.length_cons, Nat.add_sub_cancel, List.take_left, List.take_zero, List.nil_append, List.append_assoc, List.replicate_succ]; rfl
theorem wrapN (n : Nat) (h : n ≤ 1099511627776) : IntKind.i64.wrap ((n : Int) + 1) = ((n + 1 : Nat) : Int) := by simp only [IntKind.wrap_i64]; omega
theorem v3 (l : List ByteArray) (twice : Int) (Q : SV × Heap × List Nat → Prop) (hq : Q (.lit (.bool true), [], [])) : (bodySumm U5 Try.prog Try.f3 (An2 0 (A3 l) 2 (B3 l)) [.imm .str l, .lit (.int .i64 twice)] []).Leads Q := by
  refine Sx.by_text (q :=
      Sx.br (Decidable.decide ((↑(List.length l) : Int) > (60 : Int))) (Q (Sx.SV.lit (Go.Value.bool Bool.true), [], []))
        ((∃ (x : Nat),
            ([Sx.SV.imm Sx.Ty.str l, Sx.SV.lit (Go.Value.int Go.IntKind.i64 twice), Sx.SV.ptr (0 : Nat) (0 : Nat), Sx.SV.lit (Go.Value.int Go.IntKind.i64 (0 : Int))],
                  [Sx.SO.cells (34 : Nat) [Sx.SV.sl (1 : Nat) (3 : Nat) (0 : Nat) (0 : Nat), Sx.SV.lit (Go.Value.int Go.IntKind.i64 (0 : Int))],
                    Sx.SO.row (37 : Nat) (Sx.Ty.pair (Sx.Ty.int Go.IntKind.i64) (Sx.Ty.pair (Sx.Ty.int Go.IntKind.i64) Sx.Ty.str)) []]) =
                ([Sx.SV.imm Sx.Ty.str l, Sx.SV.lit (Go.Value.int Go.IntKind.i64 twice), Sx.SV.ptr (0 : Nat) (0 : Nat), Sx.SV.lit (Go.Value.int Go.IntKind.i64 (↑x : Int))],
                  [Sx.SO.cells (34 : Nat) [Sx.SV.sl (1 : Nat) (3 : Nat) (0 : Nat) (List.length (T24.pks l x)), Sx.SV.lit (Go.Value.int Go.IntKind.i64 (↑x : Int))],
                    Sx.SO.row (37 : Nat) (Sx.Ty.pair (Sx.Ty.int Go.IntKind.i64) (Sx.Ty.pair (Sx.Ty.int Go.IntKind.i64) Sx.Ty.str)) (T24.pks l x)]) ∧
              x ≤ List.length l ∧ ∀ (k : Nat), k < x → ByteArray.size (List.getD l k ByteArray.empty) ≤ (100 : Nat)) ∧
          ∀ (b : Nat),
            (b ≤ List.length l ∧ ∀ (k : Nat), k < b → ByteArray.size (List.getD l k ByteArray.empty) ≤ (100 : Nat)) →
              Sx.br (Decidable.decide ((↑b : Int) < (↑(List.length l) : Int)))
                (((0 : Int) ≤ (↑b : Int) ∧ (↑b : Int) < (↑(List.length l) : Int)) ∧
                  b < List.length l ∧
                    Sx.br (Decidable.decide ((↑(ByteArray.size (List.getD l b (Sx.Ty.dflt Sx.Ty.str))) : Int) > (100 : Int))) (Q (Sx.SV.lit (Go.Value.bool Bool.true), [], []))
                      (((0 : Int) ≤ (↑b : Int) ∧ (↑b : Int) < (↑(List.length l) : Int)) ∧
                        b < List.length l ∧
                          (List.length (T24.pks l b) = List.length (T24.pks l b) ∧
                              List.length (T24.pks l b) < (200 : Nat) ∧ ByteArray.size (List.getD l b (Sx.Ty.dflt Sx.Ty.str)) ≤ (20100 : Nat)) ∧
                            (∃ (x' : Nat),
                                ([Sx.SV.imm Sx.Ty.str l, Sx.SV.lit (Go.Value.int Go.IntKind.i64 twice), Sx.SV.ptr (0 : Nat) (0 : Nat),
                                        Sx.SV.lit (Go.Value.int Go.IntKind.i64 (Go.IntKind.wrap Go.IntKind.i64 ((↑b : Int) + (1 : Int))))],
                                      [Sx.SO.cells (34 : Nat)
                                          [Sx.SV.sl (1 : Nat) (3 : Nat) (0 : Nat) (List.length (T24.pks l b) + (1 : Nat)),
                                            Sx.SV.lit (Go.Value.int Go.IntKind.i64 (Go.IntKind.wrap Go.IntKind.i64 ((↑b : Int) + (1 : Int))))],
                                        Sx.SO.row (37 : Nat) (Sx.Ty.pair (Sx.Ty.int Go.IntKind.i64) (Sx.Ty.pair (Sx.Ty.int Go.IntKind.i64) Sx.Ty.str))
                                          (T24.pks l b ++ [((↑b : Int), (2 : Int), List.getD l b (Sx.Ty.dflt Sx.Ty.str))])]) =
                                    ([Sx.SV.imm Sx.Ty.str l, Sx.SV.lit (Go.Value.int Go.IntKind.i64 twice), Sx.SV.ptr (0 : Nat) (0 : Nat),
                                        Sx.SV.lit (Go.Value.int Go.IntKind.i64 (↑x' : Int))],
                                      [Sx.SO.cells (34 : Nat) [Sx.SV.sl (1 : Nat) (3 : Nat) (0 : Nat) (List.length (T24.pks l x')), Sx.SV.lit (Go.Value.int Go.IntKind.i64 (↑x' : Int))],
                                        Sx.SO.row (37 : Nat) (Sx.Ty.pair (Sx.Ty.int Go.IntKind.i64) (Sx.Ty.pair (Sx.Ty.int Go.IntKind.i64) Sx.Ty.str)) (T24.pks l x')]) ∧
                                  (x' ≤ List.length l ∧ ∀ (k : Nat), k < x' → ByteArray.size (List.getD l k ByteArray.empty) ≤ (100 : Nat)) ∧ List.length l - x' < List.length l - b) ∧
                              True))
                (Sx.br (Decidable.decide (twice ≥ (0 : Int)))
                  ((List.length (T24.pks l b) = List.length (T24.pks l b) ∧ List.length (T24.pks l b) < (200 : Nat)) ∧
                    Sx.br (Decidable.decide ((0 : Int) ≤ twice ∧ twice < (↑(List.length (T24.pks l b)) : Int)))
                      (Sx.br (!Bool.true == Decidable.decide (twice < (↑(List.length l) : Int))) (Q (Sx.SV.lit (Go.Value.bool Bool.false), [], []))
                        ((∃ (x : Nat),
                            ([Sx.SV.imm Sx.Ty.str l, Sx.SV.lit (Go.Value.int Go.IntKind.i64 twice), Sx.SV.ptr (0 : Nat) (0 : Nat),
                                    Sx.SV.lit (Go.Value.bool (Decidable.decide (twice < (↑(List.length l) : Int)))), Sx.SV.lit (Go.Value.int Go.IntKind.i64 (0 : Int))],
                                  [Sx.SO.cells (34 : Nat)
                                      [Sx.SV.sl (1 : Nat) (3 : Nat) (0 : Nat) (List.length (T24.pks l b) + (1 : Nat)), Sx.SV.lit (Go.Value.int Go.IntKind.i64 (↑b : Int))],
                                    Sx.SO.row (37 : Nat) (Sx.Ty.pair (Sx.Ty.int Go.IntKind.i64) (Sx.Ty.pair (Sx.Ty.int Go.IntKind.i64) Sx.Ty.str))
                                      (T24.pks l b ++ [List.getD (T24.pks l b) (Int.toNat twice) (Sx.Ty.dflt T24.pty)])]) =
                                ([Sx.SV.imm Sx.Ty.str l, Sx.SV.lit (Go.Value.int Go.IntKind.i64 twice), Sx.SV.ptr (0 : Nat) (0 : Nat),
                                    Sx.SV.lit (Go.Value.bool (Decidable.decide (twice < (↑(List.length l) : Int)))), Sx.SV.lit (Go.Value.int Go.IntKind.i64 (↑x : Int))],
                                  [Sx.SO.cells (34 : Nat)
                                      [Sx.SV.sl (1 : Nat) (3 : Nat) (0 : Nat) (List.length (T24.pks l b ++ [List.getD (T24.pks l b) (Int.toNat twice) (Sx.Ty.dflt T24.pty)]) - x),
                                        Sx.SV.lit (Go.Value.int Go.IntKind.i64 (↑b : Int))],
                                    Sx.SO.row (37 : Nat) (Sx.Ty.pair (Sx.Ty.int Go.IntKind.i64) (Sx.Ty.pair (Sx.Ty.int Go.IntKind.i64) Sx.Ty.str))
                                      (List.drop x (T24.pks l b ++ [List.getD (T24.pks l b) (Int.toNat twice) (Sx.Ty.dflt T24.pty)]) ++ List.replicate x T24.pz)]) ∧
                              x ≤ List.length l) ∧
                          ∀ (b_1 : Nat),
                            b_1 ≤ List.length l →
                              Sx.br (Decidable.decide ((↑b_1 : Int) < (↑(List.length l) : Int)))
                                ((List.length (T24.pks l b ++ [List.getD (T24.pks l b) (Int.toNat twice) (Sx.Ty.dflt T24.pty)]) - b_1 ≤
                                      List.length (List.drop b_1 (T24.pks l b ++ [List.getD (T24.pks l b) (Int.toNat twice) (Sx.Ty.dflt T24.pty)]) ++ List.replicate b_1 T24.pz) ∧
                                    List.length (T24.pks l b ++ [List.getD (T24.pks l b) (Int.toNat twice) (Sx.Ty.dflt T24.pty)]) - b_1 ≤ (1000000 : Nat)) ∧
                                  Sx.br
                                    (Decidable.decide
                                      ((0 : Int) ≤ (0 : Int) ∧
                                        (0 : Int) < (↑(List.length (T24.pks l b ++ [List.getD (T24.pks l b) (Int.toNat twice) (Sx.Ty.dflt T24.pty)]) - b_1) : Int)))
                                    (Sx.br
                                      (Prod.fst
                                          (List.getD (List.drop b_1 (T24.pks l b ++ [List.getD (T24.pks l b) (Int.toNat twice) (Sx.Ty.dflt T24.pty)]) ++ List.replicate b_1 T24.pz)
                                            (0 : Nat) (Sx.Ty.dflt T24.pty)) !=
                                        (↑b_1 : Int))
                                      (Q (Sx.SV.lit (Go.Value.bool Bool.false), [], []))
                                      (((0 : Int) ≤ (↑b_1 : Int) ∧ (↑b_1 : Int) < (↑(List.length l) : Int)) ∧
                                        b_1 < List.length l ∧
                                          Sx.br
                                            (!Prod.snd
                                                  (Prod.snd
                                                    (List.getD
                                                      (List.drop b_1 (T24.pks l b ++ [List.getD (T24.pks l b) (Int.toNat twice) (Sx.Ty.dflt T24.pty)]) ++ List.replicate b_1 T24.pz)
                                                      (0 : Nat) (Sx.Ty.dflt T24.pty))) ==
                                                List.getD l b_1 (Sx.Ty.dflt Sx.Ty.str))
                                            (Q (Sx.SV.lit (Go.Value.bool Bool.false), [], []))
                                            ((∃ (x' : Nat),
                                                ([Sx.SV.imm Sx.Ty.str l, Sx.SV.lit (Go.Value.int Go.IntKind.i64 twice), Sx.SV.ptr (0 : Nat) (0 : Nat),
                                                        Sx.SV.lit (Go.Value.bool (Decidable.decide (twice < (↑(List.length l) : Int)))),
                                                        Sx.SV.lit (Go.Value.int Go.IntKind.i64 (Go.IntKind.wrap Go.IntKind.i64 ((↑b_1 : Int) + (1 : Int))))],
                                                      [Sx.SO.cells (34 : Nat)
                                                          [Sx.SV.sl (1 : Nat) (3 : Nat) (0 : Nat)
                                                              (List.length (T24.pks l b ++ [List.getD (T24.pks l b) (Int.toNat twice) (Sx.Ty.dflt T24.pty)]) - b_1 - (1 : Nat)),
                                                            Sx.SV.lit (Go.Value.int Go.IntKind.i64 (↑b : Int))],
                                                        Sx.SO.row (37 : Nat) (Sx.Ty.pair (Sx.Ty.int Go.IntKind.i64) (Sx.Ty.pair (Sx.Ty.int Go.IntKind.i64) Sx.Ty.str))
                                                          (T24.delAt
                                                            (List.drop b_1 (T24.pks l b ++ [List.getD (T24.pks l b) (Int.toNat twice) (Sx.Ty.dflt T24.pty)]) ++ List.replicate b_1 T24.pz)
                                                            (List.length (T24.pks l b ++ [List.getD (T24.pks l b) (Int.toNat twice) (Sx.Ty.dflt T24.pty)]) - b_1) (0 : Nat))]) =
                                                    ([Sx.SV.imm Sx.Ty.str l, Sx.SV.lit (Go.Value.int Go.IntKind.i64 twice), Sx.SV.ptr (0 : Nat) (0 : Nat),
                                                        Sx.SV.lit (Go.Value.bool (Decidable.decide (twice < (↑(List.length l) : Int)))),
                                                        Sx.SV.lit (Go.Value.int Go.IntKind.i64 (↑x' : Int))],
                                                      [Sx.SO.cells (34 : Nat)
                                                          [Sx.SV.sl (1 : Nat) (3 : Nat) (0 : Nat)
                                                              (List.length (T24.pks l b ++ [List.getD (T24.pks l b) (Int.toNat twice) (Sx.Ty.dflt T24.pty)]) - x'),
                                                            Sx.SV.lit (Go.Value.int Go.IntKind.i64 (↑b : Int))],
                                                        Sx.SO.row (37 : Nat) (Sx.Ty.pair (Sx.Ty.int Go.IntKind.i64) (Sx.Ty.pair (Sx.Ty.int Go.IntKind.i64) Sx.Ty.str))
                                                          (List.drop x' (T24.pks l b ++ [List.getD (T24.pks l b) (Int.toNat twice) (Sx.Ty.dflt T24.pty)]) ++ List.replicate x' T24.pz)]) ∧
                                                  x' ≤ List.length l ∧ List.length l - x' < List.length l - b_1) ∧
                                              True)))
                                    (Q (Sx.SV.lit (Go.Value.bool Bool.false), [], [])))
                                ((List.length (T24.pks l b ++ [List.getD (T24.pks l b) (Int.toNat twice) (Sx.Ty.dflt T24.pty)]) - b_1 ≤
                                      List.length (List.drop b_1 (T24.pks l b ++ [List.getD (T24.pks l b) (Int.toNat twice) (Sx.Ty.dflt T24.pty)]) ++ List.replicate b_1 T24.pz) ∧
                                    List.length (T24.pks l b ++ [List.getD (T24.pks l b) (Int.toNat twice) (Sx.Ty.dflt T24.pty)]) - b_1 ≤ (1000000 : Nat)) ∧
                                  Sx.br
                                    (Decidable.decide
                                      ((0 : Int) ≤ (0 : Int) ∧
                                        (0 : Int) < (↑(List.length (T24.pks l b ++ [List.getD (T24.pks l b) (Int.toNat twice) (Sx.Ty.dflt T24.pty)]) - b_1) : Int)))
                                    (Sx.br (Bool.true == Decidable.decide (twice < (↑(List.length l) : Int)))
                                      (Sx.br (!Decidable.decide (twice < (↑(List.length l) : Int)))
                                        (Sx.br ((↑(List.length (T24.pks l b ++ [List.getD (T24.pks l b) (Int.toNat twice) (Sx.Ty.dflt T24.pty)]) - b_1 - (1 : Nat)) : Int) == (0 : Int))
                                          (Q (Sx.SV.lit (Go.Value.bool ((↑b : Int) == (↑(List.length l) : Int))), [], [])) (Q (Sx.SV.lit (Go.Value.bool Bool.false), [], [])))
                                        (Sx.br
                                          (Prod.fst
                                              (List.getD (List.drop b_1 (T24.pks l b ++ [List.getD (T24.pks l b) (Int.toNat twice) (Sx.Ty.dflt T24.pty)]) ++ List.replicate b_1 T24.pz)
                                                (0 : Nat) (Sx.Ty.dflt T24.pty)) ==
                                            twice)
                                          (((0 : Int) ≤ twice ∧ twice < (↑(List.length l) : Int)) ∧
                                            Int.toNat twice < List.length l ∧
                                              Sx.br
                                                (Prod.snd
                                                    (Prod.snd
                                                      (List.getD
                                                        (List.drop b_1 (T24.pks l b ++ [List.getD (T24.pks l b) (Int.toNat twice) (Sx.Ty.dflt T24.pty)]) ++ List.replicate b_1 T24.pz)
                                                        (0 : Nat) (Sx.Ty.dflt T24.pty))) ==
                                                  List.getD l (Int.toNat twice) (Sx.Ty.dflt Sx.Ty.str))
                                                (Sx.br
                                                  ((↑(List.length (T24.pks l b ++ [List.getD (T24.pks l b) (Int.toNat twice) (Sx.Ty.dflt T24.pty)]) - b_1 - (1 : Nat)) : Int) ==
                                                    (0 : Int))
                                                  (Q (Sx.SV.lit (Go.Value.bool ((↑b : Int) == (↑(List.length l) : Int))), [], [])) (Q (Sx.SV.lit (Go.Value.bool Bool.false), [], [])))
                                                (Q (Sx.SV.lit (Go.Value.bool Bool.false), [], [])))
                                          (Q (Sx.SV.lit (Go.Value.bool Bool.false), [], []))))
                                      (Q (Sx.SV.lit (Go.Value.bool Bool.false), [], [])))
                                    (Sx.br (Bool.false == Decidable.decide (twice < (↑(List.length l) : Int)))
                                      (Sx.br (!Decidable.decide (twice < (↑(List.length l) : Int)))
                                        (Sx.br ((↑(List.length (T24.pks l b ++ [List.getD (T24.pks l b) (Int.toNat twice) (Sx.Ty.dflt T24.pty)]) - b_1) : Int) == (0 : Int))
                                          (Q (Sx.SV.lit (Go.Value.bool ((↑b : Int) == (↑(List.length l) : Int))), [], [])) (Q (Sx.SV.lit (Go.Value.bool Bool.false), [], [])))
                                        (Sx.br ((0 : Int) == twice)
                                          (((0 : Int) ≤ twice ∧ twice < (↑(List.length l) : Int)) ∧
                                            Int.toNat twice < List.length l ∧
                                              Sx.br (ByteArray.empty == List.getD l (Int.toNat twice) (Sx.Ty.dflt Sx.Ty.str))
                                                (Sx.br ((↑(List.length (T24.pks l b ++ [List.getD (T24.pks l b) (Int.toNat twice) (Sx.Ty.dflt T24.pty)]) - b_1) : Int) == (0 : Int))
                                                  (Q (Sx.SV.lit (Go.Value.bool ((↑b : Int) == (↑(List.length l) : Int))), [], [])) (Q (Sx.SV.lit (Go.Value.bool Bool.false), [], [])))
                                                (Q (Sx.SV.lit (Go.Value.bool Bool.false), [], [])))
                                          (Q (Sx.SV.lit (Go.Value.bool Bool.false), [], []))))
                                      (Q (Sx.SV.lit (Go.Value.bool Bool.false), [], []))))))
                      (Sx.br (!Bool.false == Decidable.decide (twice < (↑(List.length l) : Int))) (Q (Sx.SV.lit (Go.Value.bool Bool.false), [], []))
                        ((∃ (x : Nat),
                            ([Sx.SV.imm Sx.Ty.str l, Sx.SV.lit (Go.Value.int Go.IntKind.i64 twice), Sx.SV.ptr (0 : Nat) (0 : Nat),
                                    Sx.SV.lit (Go.Value.bool (Decidable.decide (twice < (↑(List.length l) : Int)))), Sx.SV.lit (Go.Value.int Go.IntKind.i64 (0 : Int))],
                                  [Sx.SO.cells (34 : Nat) [Sx.SV.sl (1 : Nat) (3 : Nat) (0 : Nat) (List.length (T24.pks l b)), Sx.SV.lit (Go.Value.int Go.IntKind.i64 (↑b : Int))],
                                    Sx.SO.row (37 : Nat) (Sx.Ty.pair (Sx.Ty.int Go.IntKind.i64) (Sx.Ty.pair (Sx.Ty.int Go.IntKind.i64) Sx.Ty.str)) (T24.pks l b)]) =
                                ([Sx.SV.imm Sx.Ty.str l, Sx.SV.lit (Go.Value.int Go.IntKind.i64 twice), Sx.SV.ptr (0 : Nat) (0 : Nat),
                                    Sx.SV.lit (Go.Value.bool (Decidable.decide (twice < (↑(List.length l) : Int)))), Sx.SV.lit (Go.Value.int Go.IntKind.i64 (↑x : Int))],
                                  [Sx.SO.cells (34 : Nat) [Sx.SV.sl (1 : Nat) (3 : Nat) (0 : Nat) (List.length (T24.pks l b) - x), Sx.SV.lit (Go.Value.int Go.IntKind.i64 (↑b : Int))],
                                    Sx.SO.row (37 : Nat) (Sx.Ty.pair (Sx.Ty.int Go.IntKind.i64) (Sx.Ty.pair (Sx.Ty.int Go.IntKind.i64) Sx.Ty.str))
                                      (List.drop x (T24.pks l b) ++ List.replicate x T24.pz)]) ∧
                              x ≤ List.length l) ∧
                          ∀ (b_1 : Nat),
                            b_1 ≤ List.length l →
                              Sx.br (Decidable.decide ((↑b_1 : Int) < (↑(List.length l) : Int)))
                                ((List.length (T24.pks l b) - b_1 ≤ List.length (List.drop b_1 (T24.pks l b) ++ List.replicate b_1 T24.pz) ∧
                                    List.length (T24.pks l b) - b_1 ≤ (1000000 : Nat)) ∧
                                  Sx.br (Decidable.decide ((0 : Int) ≤ (0 : Int) ∧ (0 : Int) < (↑(List.length (T24.pks l b) - b_1) : Int)))
                                    (Sx.br (Prod.fst (List.getD (List.drop b_1 (T24.pks l b) ++ List.replicate b_1 T24.pz) (0 : Nat) (Sx.Ty.dflt T24.pty)) != (↑b_1 : Int))
                                      (Q (Sx.SV.lit (Go.Value.bool Bool.false), [], []))
                                      (((0 : Int) ≤ (↑b_1 : Int) ∧ (↑b_1 : Int) < (↑(List.length l) : Int)) ∧
                                        b_1 < List.length l ∧
                                          Sx.br
                                            (!Prod.snd (Prod.snd (List.getD (List.drop b_1 (T24.pks l b) ++ List.replicate b_1 T24.pz) (0 : Nat) (Sx.Ty.dflt T24.pty))) ==
                                                List.getD l b_1 (Sx.Ty.dflt Sx.Ty.str))
                                            (Q (Sx.SV.lit (Go.Value.bool Bool.false), [], []))
                                            ((∃ (x' : Nat),
                                                ([Sx.SV.imm Sx.Ty.str l, Sx.SV.lit (Go.Value.int Go.IntKind.i64 twice), Sx.SV.ptr (0 : Nat) (0 : Nat),
                                                        Sx.SV.lit (Go.Value.bool (Decidable.decide (twice < (↑(List.length l) : Int)))),
                                                        Sx.SV.lit (Go.Value.int Go.IntKind.i64 (Go.IntKind.wrap Go.IntKind.i64 ((↑b_1 : Int) + (1 : Int))))],
                                                      [Sx.SO.cells (34 : Nat)
                                                          [Sx.SV.sl (1 : Nat) (3 : Nat) (0 : Nat) (List.length (T24.pks l b) - b_1 - (1 : Nat)),
                                                            Sx.SV.lit (Go.Value.int Go.IntKind.i64 (↑b : Int))],
                                                        Sx.SO.row (37 : Nat) (Sx.Ty.pair (Sx.Ty.int Go.IntKind.i64) (Sx.Ty.pair (Sx.Ty.int Go.IntKind.i64) Sx.Ty.str))
                                                          (T24.delAt (List.drop b_1 (T24.pks l b) ++ List.replicate b_1 T24.pz) (List.length (T24.pks l b) - b_1) (0 : Nat))]) =
                                                    ([Sx.SV.imm Sx.Ty.str l, Sx.SV.lit (Go.Value.int Go.IntKind.i64 twice), Sx.SV.ptr (0 : Nat) (0 : Nat),
                                                        Sx.SV.lit (Go.Value.bool (Decidable.decide (twice < (↑(List.length l) : Int)))),
                                                        Sx.SV.lit (Go.Value.int Go.IntKind.i64 (↑x' : Int))],
                                                      [Sx.SO.cells (34 : Nat)
                                                          [Sx.SV.sl (1 : Nat) (3 : Nat) (0 : Nat) (List.length (T24.pks l b) - x'), Sx.SV.lit (Go.Value.int Go.IntKind.i64 (↑b : Int))],
                                                        Sx.SO.row (37 : Nat) (Sx.Ty.pair (Sx.Ty.int Go.IntKind.i64) (Sx.Ty.pair (Sx.Ty.int Go.IntKind.i64) Sx.Ty.str))
                                                          (List.drop x' (T24.pks l b) ++ List.replicate x' T24.pz)]) ∧
                                                  x' ≤ List.length l ∧ List.length l - x' < List.length l - b_1) ∧
                                              True)))
                                    (Q (Sx.SV.lit (Go.Value.bool Bool.false), [], [])))
                                ((List.length (T24.pks l b) - b_1 ≤ List.length (List.drop b_1 (T24.pks l b) ++ List.replicate b_1 T24.pz) ∧
                                    List.length (T24.pks l b) - b_1 ≤ (1000000 : Nat)) ∧
                                  Sx.br (Decidable.decide ((0 : Int) ≤ (0 : Int) ∧ (0 : Int) < (↑(List.length (T24.pks l b) - b_1) : Int)))
                                    (Sx.br (Bool.true == Decidable.decide (twice < (↑(List.length l) : Int)))
                                      (Sx.br (!Decidable.decide (twice < (↑(List.length l) : Int)))
                                        (Sx.br ((↑(List.length (T24.pks l b) - b_1 - (1 : Nat)) : Int) == (0 : Int))
                                          (Q (Sx.SV.lit (Go.Value.bool ((↑b : Int) == (↑(List.length l) : Int))), [], [])) (Q (Sx.SV.lit (Go.Value.bool Bool.false), [], [])))
                                        (Sx.br (Prod.fst (List.getD (List.drop b_1 (T24.pks l b) ++ List.replicate b_1 T24.pz) (0 : Nat) (Sx.Ty.dflt T24.pty)) == twice)
                                          (((0 : Int) ≤ twice ∧ twice < (↑(List.length l) : Int)) ∧
                                            Int.toNat twice < List.length l ∧
                                              Sx.br
                                                (Prod.snd (Prod.snd (List.getD (List.drop b_1 (T24.pks l b) ++ List.replicate b_1 T24.pz) (0 : Nat) (Sx.Ty.dflt T24.pty))) ==
                                                  List.getD l (Int.toNat twice) (Sx.Ty.dflt Sx.Ty.str))
                                                (Sx.br ((↑(List.length (T24.pks l b) - b_1 - (1 : Nat)) : Int) == (0 : Int))
                                                  (Q (Sx.SV.lit (Go.Value.bool ((↑b : Int) == (↑(List.length l) : Int))), [], [])) (Q (Sx.SV.lit (Go.Value.bool Bool.false), [], [])))
                                                (Q (Sx.SV.lit (Go.Value.bool Bool.false), [], [])))
                                          (Q (Sx.SV.lit (Go.Value.bool Bool.false), [], []))))
                                      (Q (Sx.SV.lit (Go.Value.bool Bool.false), [], [])))
                                    (Sx.br (Bool.false == Decidable.decide (twice < (↑(List.length l) : Int)))
                                      (Sx.br (!Decidable.decide (twice < (↑(List.length l) : Int)))
                                        (Sx.br ((↑(List.length (T24.pks l b) - b_1) : Int) == (0 : Int)) (Q (Sx.SV.lit (Go.Value.bool ((↑b : Int) == (↑(List.length l) : Int))), [], []))
                                          (Q (Sx.SV.lit (Go.Value.bool Bool.false), [], [])))
                                        (Sx.br ((0 : Int) == twice)
                                          (((0 : Int) ≤ twice ∧ twice < (↑(List.length l) : Int)) ∧
                                            Int.toNat twice < List.length l ∧
                                              Sx.br (ByteArray.empty == List.getD l (Int.toNat twice) (Sx.Ty.dflt Sx.Ty.str))
                                                (Sx.br ((↑(List.length (T24.pks l b) - b_1) : Int) == (0 : Int))
                                                  (Q (Sx.SV.lit (Go.Value.bool ((↑b : Int) == (↑(List.length l) : Int))), [], [])) (Q (Sx.SV.lit (Go.Value.bool Bool.false), [], [])))
                                                (Q (Sx.SV.lit (Go.Value.bool Bool.false), [], [])))
                                          (Q (Sx.SV.lit (Go.Value.bool Bool.false), [], []))))
                                      (Q (Sx.SV.lit (Go.Value.bool Bool.false), [], [])))))))
                  ((List.length (T24.pks l b) = List.length (T24.pks l b) ∧ List.length (T24.pks l b) < (200 : Nat)) ∧
                    Sx.br (Decidable.decide ((0 : Int) ≤ twice ∧ twice < (↑(List.length (T24.pks l b)) : Int))) (Q (Sx.SV.lit (Go.Value.bool Bool.false), [], []))
                      ((∃ (x : Nat),
                          ([Sx.SV.imm Sx.Ty.str l, Sx.SV.lit (Go.Value.int Go.IntKind.i64 twice), Sx.SV.ptr (0 : Nat) (0 : Nat), Sx.SV.lit (Go.Value.bool Bool.false),
                                  Sx.SV.lit (Go.Value.int Go.IntKind.i64 (0 : Int))],
                                [Sx.SO.cells (34 : Nat) [Sx.SV.sl (1 : Nat) (3 : Nat) (0 : Nat) (List.length (T24.pks l b)), Sx.SV.lit (Go.Value.int Go.IntKind.i64 (↑b : Int))],
                                  Sx.SO.row (37 : Nat) (Sx.Ty.pair (Sx.Ty.int Go.IntKind.i64) (Sx.Ty.pair (Sx.Ty.int Go.IntKind.i64) Sx.Ty.str)) (T24.pks l b)]) =
                              ([Sx.SV.imm Sx.Ty.str l, Sx.SV.lit (Go.Value.int Go.IntKind.i64 twice), Sx.SV.ptr (0 : Nat) (0 : Nat), Sx.SV.lit (Go.Value.bool Bool.false),
                                  Sx.SV.lit (Go.Value.int Go.IntKind.i64 (↑x : Int))],
                                [Sx.SO.cells (34 : Nat) [Sx.SV.sl (1 : Nat) (3 : Nat) (0 : Nat) (List.length (T24.pks l b) - x), Sx.SV.lit (Go.Value.int Go.IntKind.i64 (↑b : Int))],
                                  Sx.SO.row (37 : Nat) (Sx.Ty.pair (Sx.Ty.int Go.IntKind.i64) (Sx.Ty.pair (Sx.Ty.int Go.IntKind.i64) Sx.Ty.str))
                                    (List.drop x (T24.pks l b) ++ List.replicate x T24.pz)]) ∧
                            x ≤ List.length l) ∧
                        ∀ (b_1 : Nat),
                          b_1 ≤ List.length l →
                            Sx.br (Decidable.decide ((↑b_1 : Int) < (↑(List.length l) : Int)))
                              ((List.length (T24.pks l b) - b_1 ≤ List.length (List.drop b_1 (T24.pks l b) ++ List.replicate b_1 T24.pz) ∧
                                  List.length (T24.pks l b) - b_1 ≤ (1000000 : Nat)) ∧
                                Sx.br (Decidable.decide ((0 : Int) ≤ (0 : Int) ∧ (0 : Int) < (↑(List.length (T24.pks l b) - b_1) : Int)))
                                  (Sx.br (Prod.fst (List.getD (List.drop b_1 (T24.pks l b) ++ List.replicate b_1 T24.pz) (0 : Nat) (Sx.Ty.dflt T24.pty)) != (↑b_1 : Int))
                                    (Q (Sx.SV.lit (Go.Value.bool Bool.false), [], []))
                                    (((0 : Int) ≤ (↑b_1 : Int) ∧ (↑b_1 : Int) < (↑(List.length l) : Int)) ∧
                                      b_1 < List.length l ∧
                                        Sx.br
                                          (!Prod.snd (Prod.snd (List.getD (List.drop b_1 (T24.pks l b) ++ List.replicate b_1 T24.pz) (0 : Nat) (Sx.Ty.dflt T24.pty))) ==
                                              List.getD l b_1 (Sx.Ty.dflt Sx.Ty.str))
                                          (Q (Sx.SV.lit (Go.Value.bool Bool.false), [], []))
                                          ((∃ (x' : Nat),
                                              ([Sx.SV.imm Sx.Ty.str l, Sx.SV.lit (Go.Value.int Go.IntKind.i64 twice), Sx.SV.ptr (0 : Nat) (0 : Nat), Sx.SV.lit (Go.Value.bool Bool.false),
                                                      Sx.SV.lit (Go.Value.int Go.IntKind.i64 (Go.IntKind.wrap Go.IntKind.i64 ((↑b_1 : Int) + (1 : Int))))],
                                                    [Sx.SO.cells (34 : Nat)
                                                        [Sx.SV.sl (1 : Nat) (3 : Nat) (0 : Nat) (List.length (T24.pks l b) - b_1 - (1 : Nat)),
                                                          Sx.SV.lit (Go.Value.int Go.IntKind.i64 (↑b : Int))],
                                                      Sx.SO.row (37 : Nat) (Sx.Ty.pair (Sx.Ty.int Go.IntKind.i64) (Sx.Ty.pair (Sx.Ty.int Go.IntKind.i64) Sx.Ty.str))
                                                        (T24.delAt (List.drop b_1 (T24.pks l b) ++ List.replicate b_1 T24.pz) (List.length (T24.pks l b) - b_1) (0 : Nat))]) =
                                                  ([Sx.SV.imm Sx.Ty.str l, Sx.SV.lit (Go.Value.int Go.IntKind.i64 twice), Sx.SV.ptr (0 : Nat) (0 : Nat),
                                                      Sx.SV.lit (Go.Value.bool Bool.false), Sx.SV.lit (Go.Value.int Go.IntKind.i64 (↑x' : Int))],
                                                    [Sx.SO.cells (34 : Nat)
                                                        [Sx.SV.sl (1 : Nat) (3 : Nat) (0 : Nat) (List.length (T24.pks l b) - x'), Sx.SV.lit (Go.Value.int Go.IntKind.i64 (↑b : Int))],
                                                      Sx.SO.row (37 : Nat) (Sx.Ty.pair (Sx.Ty.int Go.IntKind.i64) (Sx.Ty.pair (Sx.Ty.int Go.IntKind.i64) Sx.Ty.str))
                                                        (List.drop x' (T24.pks l b) ++ List.replicate x' T24.pz)]) ∧
                                                x' ≤ List.length l ∧ List.length l - x' < List.length l - b_1) ∧
                                            True)))
                                  (Q (Sx.SV.lit (Go.Value.bool Bool.false), [], [])))
                              ((List.length (T24.pks l b) - b_1 ≤ List.length (List.drop b_1 (T24.pks l b) ++ List.replicate b_1 T24.pz) ∧
                                  List.length (T24.pks l b) - b_1 ≤ (1000000 : Nat)) ∧
                                Sx.br (Decidable.decide ((0 : Int) ≤ (0 : Int) ∧ (0 : Int) < (↑(List.length (T24.pks l b) - b_1) : Int)))
                                  (Q (Sx.SV.lit (Go.Value.bool Bool.false), [], []))
                                  (Sx.br ((↑(List.length (T24.pks l b) - b_1) : Int) == (0 : Int)) (Q (Sx.SV.lit (Go.Value.bool ((↑b : Int) == (↑(List.length l) : Int))), [], []))
                                    (Q (Sx.SV.lit (Go.Value.bool Bool.false), [], []))))))))) (by kernel_rfl) ?_
  refine br_intro (fun _ => hq) (fun h => ?_)
  have h := of_decide_eq_false h
  refine ⟨⟨0, rfl, by omega, fun k hk => by omega⟩, fun i hi => br_intro (fun hlt => ?_) (fun hge => ?_)⟩
  · have hlt := of_decide_eq_true hlt
    refine ⟨by omega, by omega, br_intro (fun _ => hq) (fun hs => ⟨by omega, by omega, ⟨rfl, by rw [pks_length]; omega, ?_⟩, ⟨i + 1, ?_, ⟨by omega, ?_⟩, by omega⟩, trivial⟩)⟩
    · have hs := of_decide_eq_false hs; omega
    · have e : l.getD i Ty.str.dflt = l.getD i ByteArray.empty := rfl
      rw [wrapN i (by omega), pks_length, pks_length, pks_step, e]
    · intro k hk
      have hs := of_decide_eq_false hs
      by_cases hk' : k < i
      · exact hi.2 k hk'
      · have : k = i := by omega
        subst this
        have e : l.getD k Ty.str.dflt = l.getD k ByteArray.empty := rfl
        rw [e] at hs; omega
  · have hge := of_decide_eq_false hge
    have hil : i = l.length := by omega
    subst hil
    by_cases hc : 0 ≤ twice ∧ twice < (l.length : Int)
    · obtain ⟨t, rfl⟩ : ∃ t : Nat, twice = t := ⟨twice.toNat, by omega⟩
      have ht : t < l.length := by omega
      have hgt : (pks l l.length).getD t pty.dflt = ((t : Int), (2 : Int), l.getD t ByteArray.empty) := pks_getD l l.length t ht _
      simp only [Int.toNat_natCast, hgt, decide_eq_true hc.2]
      generalize hL : pks l l.length ++ [((t : Int), (2 : Int), l.getD t ByteArray.empty)] = L
      have hLn : L.length = l.length + 1 := by rw [← hL, List.length_append, pks_length]; rfl
      simp only [hLn]
      have hk : ∀ k, k < l.length → ∀ d, L.getD k d = ((k : Int), (2 : Int), l.getD k ByteArray.empty) := fun k hk d => by
        rw [← hL, List.getD_eq_getElem?_getD, List.getElem?_append_left (by rw [pks_length]; exact hk), ← List.getD_eq_getElem?_getD]; exact pks_getD l l.length k hk d
      have hlast : ∀ d, L.getD l.length d = ((t : Int), (2 : Int), l.getD t ByteArray.empty) := fun d => by
        rw [← hL, List.getD_eq_getElem?_getD, List.getElem?_append_right (by rw [pks_length]; exact Nat.le_refl _), pks_length, Nat.sub_self]; rfl
      have hpl := pks_length l l.length
      refine br_intro (fun _ => ⟨⟨trivial, ?_⟩, br_intro (fun _ => br_intro (fun hx => by cases hx) (fun _ => ⟨⟨0, ?_, by omega⟩, fun b hb => br_intro (fun hlt => ?_) (fun hge => ?_)⟩)) (fun hx => ?_)⟩) (fun hx => ?_)
      · rw [hpl]; omega
      · rw [hpl]; simp only [List.drop_zero, List.replicate_zero, List.append_nil, Nat.sub_zero]; rfl
      · have hlt := of_decide_eq_true hlt
        have hb' : b < l.length := by omega
        have e1 := row_len L b (by omega)
        have e2 := row_fst L b (by omega) pty.dflt
        have e3 := row_del L b (by omega)
        rw [hLn] at e1 e3
        rw [hk b hb'] at e2
        refine ⟨⟨by rw [e1]; omega, by omega⟩, br_intro (fun _ => ?_) (fun hx => absurd (of_decide_eq_false hx) (by omega))⟩
        rw [e2]
        refine br_intro (fun hx => by simp at hx) (fun _ => ⟨by omega, hb', br_intro (fun hx => ?_) (fun _ => ⟨⟨b + 1, ?_, by omega, by omega⟩, trivial⟩)⟩)
        · have e : l.getD b Ty.str.dflt = l.getD b ByteArray.empty := rfl
          rw [e] at hx
          exact absurd hx (by rw [bytes_self]; decide)
        · rw [e3, wrapN b (by omega), Nat.sub_sub]
      · have hge := of_decide_eq_false hge
        have hbl : b = l.length := by omega
        subst hbl
        have e1 := row_len L l.length (by omega)
        have e2 := row_fst L l.length (by omega) pty.dflt
        rw [hLn] at e1
        rw [hlast] at e2
        refine ⟨⟨by rw [e1]; omega, by omega⟩, br_intro (fun _ => br_intro (fun _ => br_intro (fun hx => by cases hx) (fun _ => ?_)) (fun hx => by cases hx)) (fun hx => absurd (of_decide_eq_false hx) (by omega))⟩
        rw [e2]
        refine br_intro (fun _ => ⟨by omega, ht, br_intro (fun _ => br_intro (fun _ => ?_) (fun hx => ?_)) (fun hx => ?_)⟩) (fun hx => by simp at hx)
        · rw [beq_self_eq_true]; exact hq
        · have e : l.length + 1 - l.length - 1 = 0 := by omega
          rw [e] at hx; cases hx
        · have e : l.getD t Ty.str.dflt = l.getD t ByteArray.empty := rfl
          rw [e] at hx
          exact absurd hx (by rw [bytes_self]; decide)
      · have hx := of_decide_eq_false hx; rw [hpl] at hx; omega
      · have hx := of_decide_eq_false hx; omega
    · have hpl := pks_length l l.length
      have hk : ∀ k, k < l.length → ∀ d, (pks l l.length).getD k d = ((k : Int), (2 : Int), l.getD k ByteArray.empty) := fun k hk d => pks_getD l l.length k hk d
      generalize pks l l.length = L at hpl hk ⊢
      by_cases ht : twice ≥ 0
      · simp only [decide_eq_false (show ¬ twice < (l.length : Int) by omega), hpl]
        refine br_intro (fun _ => ⟨⟨trivial, by omega⟩, br_intro (fun hx => absurd (of_decide_eq_true hx) (by omega)) (fun _ => br_intro (fun hx => by cases hx) (fun _ => ?_))⟩) (fun hx => absurd (of_decide_eq_false hx) (by omega))
        refine ⟨⟨0, ?_, by omega⟩, fun b hb => br_intro (fun hlt => ?_) (fun hge => ?_)⟩
        · simp only [List.drop_zero, List.replicate_zero, List.append_nil, Nat.sub_zero]; rfl
        · have hlt := of_decide_eq_true hlt
          have hb' : b < l.length := by omega
          have e1 := row_len L b (by omega)
          have e2 := row_fst L b (by omega) pty.dflt
          have e3 := row_del L b (by omega)
          rw [hpl] at e1 e3
          rw [hk b hb'] at e2
          refine ⟨⟨by rw [e1]; omega, by omega⟩, br_intro (fun _ => ?_) (fun hx => absurd (of_decide_eq_false hx) (by omega))⟩
          rw [e2]
          refine br_intro (fun hx => by simp at hx) (fun _ => ⟨by omega, hb', br_intro (fun hx => ?_) (fun _ => ⟨⟨b + 1, ?_, by omega, by omega⟩, trivial⟩)⟩)
          · have e : l.getD b Ty.str.dflt = l.getD b ByteArray.empty := rfl
            rw [e] at hx
            exact absurd hx (by rw [bytes_self]; decide)
          · rw [e3, wrapN b (by omega), Nat.sub_sub]
        · have hge := of_decide_eq_false hge
          have hbl : b = l.length := by omega
          subst hbl
          have e1 := row_len L l.length (by omega)
          rw [hpl] at e1
          refine ⟨⟨by rw [e1]; omega, by omega⟩, br_intro (fun hx => absurd (of_decide_eq_true hx) (by omega)) (fun _ => ?_)⟩
          refine br_intro (fun _ => br_intro (fun _ => ?_) (fun hx => by cases hx)) (fun hx => by cases hx)
          refine br_intro (fun _ => ?_) (fun hx => ?_)
          · rw [beq_self_eq_true]; exact hq
          · rw [Nat.sub_self] at hx; cases hx

      · refine br_intro (fun hx => absurd (of_decide_eq_true hx) ht) (fun _ => ⟨⟨?_, by omega⟩, br_intro (fun hx => absurd (of_decide_eq_true hx) (by omega)) (fun _ => ?_)⟩)
        · trivial
        simp only [hpl]
        refine ⟨⟨0, ?_, by omega⟩, fun b hb => br_intro (fun hlt => ?_) (fun hge => ?_)⟩
        · simp only [List.drop_zero, List.replicate_zero, List.append_nil, Nat.sub_zero]; rfl
        · have hlt := of_decide_eq_true hlt
          have hb' : b < l.length := by omega
          have e1 := row_len L b (by omega)
          have e2 := row_fst L b (by omega) pty.dflt
          have e3 := row_del L b (by omega)
          rw [hpl] at e1 e3
          rw [hk b hb'] at e2
          refine ⟨⟨by rw [e1]; omega, by omega⟩, br_intro (fun _ => ?_) (fun hx => absurd (of_decide_eq_false hx) (by omega))⟩
          rw [e2]
          refine br_intro (fun hx => by simp at hx) (fun _ => ⟨by omega, hb', br_intro (fun hx => ?_) (fun _ => ⟨⟨b + 1, ?_, by omega, by omega⟩, trivial⟩)⟩)
          · have e : l.getD b Ty.str.dflt = l.getD b ByteArray.empty := rfl
            rw [e] at hx
            exact absurd hx (by rw [bytes_self]; decide)
          · rw [e3, wrapN b (by omega), Nat.sub_sub]
        · have hge := of_decide_eq_false hge
          have hbl : b = l.length := by omega
          subst hbl
          have e1 := row_len L l.length (by omega)
          rw [hpl] at e1
          refine ⟨⟨by rw [e1]; omega, by omega⟩, br_intro (fun hx => absurd (of_decide_eq_true hx) (by omega)) (fun _ => ?_)⟩
          refine br_intro (fun _ => ?_) (fun hx => ?_)
          · rw [beq_self_eq_true]; exact hq
          · rw [Nat.sub_self] at hx; cases hx
end T24
