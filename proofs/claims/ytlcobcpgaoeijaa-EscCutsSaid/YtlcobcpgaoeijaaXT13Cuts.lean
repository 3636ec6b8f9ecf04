/- Part of a proof: the walk of the functions that the law calls. -/
import Derived.Test.YtlcobcpgaoeijaaSxT
import Derived.Test.YtlcobcpgaoeijaaXT13i
import Derived.Test.YtlcobcpgaoeijaaXP13c
open Go Sx Go.Proofs T12
namespace T13
set_option maxRecDepth 100000
set_option maxHeartbeats 4000000
attribute [local irreducible] Tree.Leads
set_option linter.unusedVariables false
/-- The law's own calls, with appends that may add nothing. -/
noncomputable def W3 : Table := (((((((Table.none.add 10 (.go s10)).add 12 (.go s12)).add 14 (.go s14)).add 15 (.go s15)).add 16 (.go s16)).add 17 (.go s17)).add 18 (.go s18)).add 19 (.go s19)
theorem W3_ok : TableOK Try.prog W3 := add_ok (add_ok (add_ok (add_ok (add_ok (add_ok (add_ok (add_ok none_ok s10_ok) s12_ok) s14_ok) s15_ok) s16_ok) s17_ok) s18_ok) s19_ok
def noHead : Head := { X := Nat, inv := fun _ => ([], []), ok := fun _ => False, mu := fun _ => 0 }
def cheap (r : PS × List aty.den) (P : List ByteArray) : Heap := [.cells 47 (fedP r.1 1 2 3 nilV), .row 5 (.int .u8) r.1.inter, .row 3 (.int .i64) r.1.nums, .row 5 (.int .u8) r.1.text, .cells 47 newP, .cells 47 newP, .row 50 aty r.2, .row 9 .str P]
noncomputable def A7 : Ann := { live := [0, 5, 6, 7, 8, 9, 10, 11], mv := [], peel := 1, head := fun vals H => match vals, H with | [a, x, y, z, _, n, p, _], [_, _, _, _, _, _, _, .row 9 .str P] => { X := Nat, inv := fun i => ([a, x, y, z, .sl 6 7 0 (pfeed ps0 (flat (P.take i))).2.length, n, p, .lit (.int .i64 i)], cheap (pfeed ps0 (flat (P.take i))) P), ok := fun i => i ≤ P.length, mu := fun i => P.length - i } | _, _ => noHead }
def fcells (r : PS) (a b c : Nat) : SO := .cells 47 (fedP r a b c nilV)
noncomputable def B7 (s : ByteArray) : Ann := { live := [0, 5, 6, 7, 8, 9, 10, 12, 13, 14], mv := [], peel := 1, head := fun vals H => match vals, H with | [a, x, y, z, l, _, p, t, m, _], [x0, x1, x2, x3, y0, y1, y2, y3, _, _, _, _, hl, _, hp, ht, hm] => { X := Nat, inv := fun i => ([a, x, y, z, l, .sl 13 7 0 (pfeed ps0 ((strInts s).take i)).2.length, p, t, m, .lit (.int .i64 i)], [x0, x1, x2, x3, y0, y1, y2, y3, .cells 47 (fedP (pfeed ps0 ((strInts s).take i)).1 9 10 11 nilV), .row 5 (.int .u8) (pfeed ps0 ((strInts s).take i)).1.inter, .row 3 (.int .i64) (pfeed ps0 ((strInts s).take i)).1.nums, .row 5 (.int .u8) (pfeed ps0 ((strInts s).take i)).1.text, hl, .row 50 aty (pfeed ps0 ((strInts s).take i)).2, hp, ht, hm]), ok := fun i => i ≤ s.size, mu := fun i => s.size - i } | _, _ => noHead }
theorem flat_one (s : ByteArray) : flat [s] = strInts s := by simp only [flat, List.flatMap_cons, List.flatMap_nil, List.append_nil]
theorem few_of {l : List aty.den} (h : Eight l) : Few l := fun x hx => by have := h x hx; omega
theorem kept_ok {r : PS} (h : r.OK) : KeptOK r := ⟨by
  have h1 := h.inter
  have h2 := h.nums
  have h3 := h.text
  have h4 := good_len h.half
  rw [bsOf_size]; omega⟩
theorem v7 (s : ByteArray) (L : List Int) (Q : SV × Heap × List Nat → Prop) (hq : Q (.lit (.bool true), [], [])) : (bodySumm W3 Try.prog Try.f7 (An2 0 A7 2 (B7 s)) [.lit (.string s), .imm (.int .i64) L] []).Leads Q := by
  refine Sx.by_text (q :=
      Sx.br (Decidable.decide ((↑(ByteArray.size s) : Int) > (1500 : Int))) (Q (Sx.SV.lit (Go.Value.bool Bool.true), ([] : List Sx.SO), []))
        (Sx.br (Decidable.decide ((↑(List.length L) : Int) > (40 : Int))) (Q (Sx.SV.lit (Go.Value.bool Bool.true), ([] : List Sx.SO), []))
          ((ByteArray.size s ≤ (100000 : Nat) ∧ List.length L ≤ (1000 : Nat)) ∧
            ∀ (b : List ByteArray),
              T13.CutOf s (List.length L) b →
                Sx.br (Decidable.decide ((0 : Int) < (↑(List.length b) : Int)))
                  (((0 : Int) ≤ (0 : Int) ∧ (0 : Int) < (↑(List.length b) : Int)) ∧
                    (0 : Nat) < List.length b ∧
                      (T13.newP = T13.newP ∧ (1 : Nat) ≤ (1 : Nat) ∧ T13.FeedOK T13.ps0 [List.getD b (0 : Nat) (Sx.Ty.dflt Sx.Ty.str)]) ∧
                        ∀ (b_1 : T13.PS × List (Sx.Ty.den T13.aty)),
                          T13.FeedOf T13.ps0 [List.getD b (0 : Nat) (Sx.Ty.dflt Sx.Ty.str)] b_1 →
                            (0 : Nat) + List.length (Prod.snd b_1) ≤ List.length (Prod.snd b_1) ∧
                              ((↑((0 : Nat) + List.length (List.take (List.length (Prod.snd b_1)) (List.drop (0 : Nat) (Prod.snd b_1)))) : Int) ≤ (9223372036854775807 : Int) ∧
                                  ((0 : Nat) + List.length (List.take (List.length (Prod.snd b_1)) (List.drop (0 : Nat) (Prod.snd b_1)))) * Sx.bytesOf Go.Proofs.Try.prog (50 : Nat) ≤
                                    (140737488355328 : Nat)) ∧
                                (∃ (x : Nat),
                                    ([Sx.SV.lit (Go.Value.string s), Sx.SV.ptr (0 : Nat) (0 : Nat), Sx.SV.ptr (4 : Nat) (0 : Nat), Sx.SV.ptr (5 : Nat) (0 : Nat),
                                            Sx.SV.sl (6 : Nat) (7 : Nat) (0 : Nat) (List.length (List.take (List.length (Prod.snd b_1)) (List.drop (0 : Nat) (Prod.snd b_1)))),
                                            Sx.SV.lit (Go.Value.slice Option.none (0 : Nat) (0 : Nat)), Sx.SV.sl (7 : Nat) (1 : Nat) (0 : Nat) (List.length b),
                                            Sx.SV.lit (Go.Value.int Go.IntKind.i64 (Go.IntKind.wrap Go.IntKind.i64 ((0 : Int) + (1 : Int))))],
                                          [Sx.SO.cells (47 : Nat) (T13.fedP (Prod.fst b_1) (1 : Nat) (2 : Nat) (3 : Nat) (Sx.SV.lit (Go.Value.slice Option.none (0 : Nat) (0 : Nat)))),
                                            Sx.SO.row (5 : Nat) (Sx.Ty.int Go.IntKind.u8) (T13.PS.inter (Prod.fst b_1)),
                                            Sx.SO.row (3 : Nat) (Sx.Ty.int Go.IntKind.i64) (T13.PS.nums (Prod.fst b_1)),
                                            Sx.SO.row (5 : Nat) (Sx.Ty.int Go.IntKind.u8) (T13.PS.text (Prod.fst b_1)), Sx.SO.cells (47 : Nat) T13.newP, Sx.SO.cells (47 : Nat) T13.newP,
                                            Sx.SO.row (50 : Nat) T13.aty (List.take (List.length (Prod.snd b_1)) (List.drop (0 : Nat) (Prod.snd b_1))),
                                            Sx.SO.row (9 : Nat) Sx.Ty.str b]) =
                                        ([Sx.SV.lit (Go.Value.string s), Sx.SV.ptr (0 : Nat) (0 : Nat), Sx.SV.ptr (4 : Nat) (0 : Nat), Sx.SV.ptr (5 : Nat) (0 : Nat),
                                            Sx.SV.sl (6 : Nat) (7 : Nat) (0 : Nat) (List.length (Prod.snd (T13.pfeed T13.ps0 (T13.flat (List.take x b))))),
                                            Sx.SV.lit (Go.Value.slice Option.none (0 : Nat) (0 : Nat)), Sx.SV.sl (7 : Nat) (1 : Nat) (0 : Nat) (List.length b),
                                            Sx.SV.lit (Go.Value.int Go.IntKind.i64 (↑x : Int))],
                                          [Sx.SO.cells (47 : Nat)
                                              (T13.fedP (Prod.fst (T13.pfeed T13.ps0 (T13.flat (List.take x b)))) (1 : Nat) (2 : Nat) (3 : Nat)
                                                (Sx.SV.lit (Go.Value.slice Option.none (0 : Nat) (0 : Nat)))),
                                            Sx.SO.row (5 : Nat) (Sx.Ty.int Go.IntKind.u8) (T13.PS.inter (Prod.fst (T13.pfeed T13.ps0 (T13.flat (List.take x b))))),
                                            Sx.SO.row (3 : Nat) (Sx.Ty.int Go.IntKind.i64) (T13.PS.nums (Prod.fst (T13.pfeed T13.ps0 (T13.flat (List.take x b))))),
                                            Sx.SO.row (5 : Nat) (Sx.Ty.int Go.IntKind.u8) (T13.PS.text (Prod.fst (T13.pfeed T13.ps0 (T13.flat (List.take x b))))),
                                            Sx.SO.cells (47 : Nat) T13.newP, Sx.SO.cells (47 : Nat) T13.newP,
                                            Sx.SO.row (50 : Nat) T13.aty (Prod.snd (T13.pfeed T13.ps0 (T13.flat (List.take x b)))), Sx.SO.row (9 : Nat) Sx.Ty.str b]) ∧
                                      x ≤ List.length b) ∧
                                  ∀ (b_2 : Nat),
                                    b_2 ≤ List.length b →
                                      Sx.br (Decidable.decide ((↑b_2 : Int) < (↑(List.length b) : Int)))
                                        (((0 : Int) ≤ (↑b_2 : Int) ∧ (↑b_2 : Int) < (↑(List.length b) : Int)) ∧
                                          (0 : Nat) + b_2 < List.length b ∧
                                            (T13.fedP (Prod.fst (T13.pfeed T13.ps0 (T13.flat (List.take b_2 b)))) (2 : Nat) (3 : Nat) (4 : Nat)
                                                    (Sx.SV.lit (Go.Value.slice Option.none (0 : Nat) (0 : Nat))) =
                                                  T13.fedP
                                                    { st := T13.PS.st (Prod.fst (T13.pfeed T13.ps0 (T13.flat (List.take b_2 b)))),
                                                      half := Sx.strInts (Sx.bsOf (T13.PS.half (Prod.fst (T13.pfeed T13.ps0 (T13.flat (List.take b_2 b)))))),
                                                      inter := T13.PS.inter (Prod.fst (T13.pfeed T13.ps0 (T13.flat (List.take b_2 b)))),
                                                      wrong := T13.PS.wrong (Prod.fst (T13.pfeed T13.ps0 (T13.flat (List.take b_2 b)))),
                                                      first := T13.PS.first (Prod.fst (T13.pfeed T13.ps0 (T13.flat (List.take b_2 b)))),
                                                      mark := T13.PS.mark (Prod.fst (T13.pfeed T13.ps0 (T13.flat (List.take b_2 b)))),
                                                      nums := T13.PS.nums (Prod.fst (T13.pfeed T13.ps0 (T13.flat (List.take b_2 b)))),
                                                      full := T13.PS.full (Prod.fst (T13.pfeed T13.ps0 (T13.flat (List.take b_2 b)))),
                                                      text := T13.PS.text (Prod.fst (T13.pfeed T13.ps0 (T13.flat (List.take b_2 b)))) }
                                                    (2 : Nat) (3 : Nat) (4 : Nat) (Sx.SV.lit (Go.Value.slice Option.none (0 : Nat) (0 : Nat))) ∧
                                                (1 : Nat) ≤ (1 : Nat) ∧
                                                  T13.FeedOK
                                                    { st := T13.PS.st (Prod.fst (T13.pfeed T13.ps0 (T13.flat (List.take b_2 b)))),
                                                      half := Sx.strInts (Sx.bsOf (T13.PS.half (Prod.fst (T13.pfeed T13.ps0 (T13.flat (List.take b_2 b)))))),
                                                      inter := T13.PS.inter (Prod.fst (T13.pfeed T13.ps0 (T13.flat (List.take b_2 b)))),
                                                      wrong := T13.PS.wrong (Prod.fst (T13.pfeed T13.ps0 (T13.flat (List.take b_2 b)))),
                                                      first := T13.PS.first (Prod.fst (T13.pfeed T13.ps0 (T13.flat (List.take b_2 b)))),
                                                      mark := T13.PS.mark (Prod.fst (T13.pfeed T13.ps0 (T13.flat (List.take b_2 b)))),
                                                      nums := T13.PS.nums (Prod.fst (T13.pfeed T13.ps0 (T13.flat (List.take b_2 b)))),
                                                      full := T13.PS.full (Prod.fst (T13.pfeed T13.ps0 (T13.flat (List.take b_2 b)))),
                                                      text := T13.PS.text (Prod.fst (T13.pfeed T13.ps0 (T13.flat (List.take b_2 b)))) }
                                                    [List.getD b ((0 : Nat) + b_2) (Sx.Ty.dflt Sx.Ty.str)]) ∧
                                              ∀ (b_3 : T13.PS × List (Sx.Ty.den T13.aty)),
                                                T13.FeedOf
                                                    { st := T13.PS.st (Prod.fst (T13.pfeed T13.ps0 (T13.flat (List.take b_2 b)))),
                                                      half := Sx.strInts (Sx.bsOf (T13.PS.half (Prod.fst (T13.pfeed T13.ps0 (T13.flat (List.take b_2 b)))))),
                                                      inter := T13.PS.inter (Prod.fst (T13.pfeed T13.ps0 (T13.flat (List.take b_2 b)))),
                                                      wrong := T13.PS.wrong (Prod.fst (T13.pfeed T13.ps0 (T13.flat (List.take b_2 b)))),
                                                      first := T13.PS.first (Prod.fst (T13.pfeed T13.ps0 (T13.flat (List.take b_2 b)))),
                                                      mark := T13.PS.mark (Prod.fst (T13.pfeed T13.ps0 (T13.flat (List.take b_2 b)))),
                                                      nums := T13.PS.nums (Prod.fst (T13.pfeed T13.ps0 (T13.flat (List.take b_2 b)))),
                                                      full := T13.PS.full (Prod.fst (T13.pfeed T13.ps0 (T13.flat (List.take b_2 b)))),
                                                      text := T13.PS.text (Prod.fst (T13.pfeed T13.ps0 (T13.flat (List.take b_2 b)))) }
                                                    [List.getD b ((0 : Nat) + b_2) (Sx.Ty.dflt Sx.Ty.str)] b_3 →
                                                  (0 : Nat) + List.length (Prod.snd b_3) ≤ List.length (Prod.snd b_3) ∧
                                                    Sx.br
                                                      (Decidable.decide
                                                        (List.length (Prod.snd (T13.pfeed T13.ps0 (T13.flat (List.take b_2 b)))) +
                                                            List.length (List.take (List.length (Prod.snd b_3)) (List.drop (0 : Nat) (Prod.snd b_3))) ≤
                                                          List.length (Prod.snd (T13.pfeed T13.ps0 (T13.flat (List.take b_2 b))))))
                                                      ((∃ (x' : Nat),
                                                          ([Sx.SV.lit (Go.Value.string s), Sx.SV.ptr (0 : Nat) (0 : Nat), Sx.SV.ptr (4 : Nat) (0 : Nat), Sx.SV.ptr (5 : Nat) (0 : Nat),
                                                                  Sx.SV.sl (6 : Nat) (7 : Nat) (0 : Nat)
                                                                    (List.length (Prod.snd (T13.pfeed T13.ps0 (T13.flat (List.take b_2 b)))) +
                                                                      List.length (List.take (List.length (Prod.snd b_3)) (List.drop (0 : Nat) (Prod.snd b_3)))),
                                                                  Sx.SV.lit (Go.Value.slice Option.none (0 : Nat) (0 : Nat)), Sx.SV.sl (7 : Nat) (1 : Nat) (0 : Nat) (List.length b),
                                                                  Sx.SV.lit (Go.Value.int Go.IntKind.i64 (Go.IntKind.wrap Go.IntKind.i64 ((↑b_2 : Int) + (1 : Int))))],
                                                                [Sx.SO.cells (47 : Nat)
                                                                    (T13.fedP (Prod.fst b_3) (1 : Nat) (2 : Nat) (3 : Nat) (Sx.SV.lit (Go.Value.slice Option.none (0 : Nat) (0 : Nat)))),
                                                                  Sx.SO.row (5 : Nat) (Sx.Ty.int Go.IntKind.u8) (T13.PS.inter (Prod.fst b_3)),
                                                                  Sx.SO.row (3 : Nat) (Sx.Ty.int Go.IntKind.i64) (T13.PS.nums (Prod.fst b_3)),
                                                                  Sx.SO.row (5 : Nat) (Sx.Ty.int Go.IntKind.u8) (T13.PS.text (Prod.fst b_3)), Sx.SO.cells (47 : Nat) T13.newP,
                                                                  Sx.SO.cells (47 : Nat) T13.newP,
                                                                  Sx.SO.row (50 : Nat) T13.aty
                                                                    (List.take (List.length (Prod.snd (T13.pfeed T13.ps0 (T13.flat (List.take b_2 b)))))
                                                                          (Prod.snd (T13.pfeed T13.ps0 (T13.flat (List.take b_2 b)))) ++
                                                                        List.take (List.length (Prod.snd b_3)) (List.drop (0 : Nat) (Prod.snd b_3)) ++
                                                                      List.drop
                                                                        (List.length (Prod.snd (T13.pfeed T13.ps0 (T13.flat (List.take b_2 b)))) +
                                                                          List.length (List.take (List.length (Prod.snd b_3)) (List.drop (0 : Nat) (Prod.snd b_3))))
                                                                        (Prod.snd (T13.pfeed T13.ps0 (T13.flat (List.take b_2 b))))),
                                                                  Sx.SO.row (9 : Nat) Sx.Ty.str b]) =
                                                              ([Sx.SV.lit (Go.Value.string s), Sx.SV.ptr (0 : Nat) (0 : Nat), Sx.SV.ptr (4 : Nat) (0 : Nat),
                                                                  Sx.SV.ptr (5 : Nat) (0 : Nat),
                                                                  Sx.SV.sl (6 : Nat) (7 : Nat) (0 : Nat) (List.length (Prod.snd (T13.pfeed T13.ps0 (T13.flat (List.take x' b))))),
                                                                  Sx.SV.lit (Go.Value.slice Option.none (0 : Nat) (0 : Nat)), Sx.SV.sl (7 : Nat) (1 : Nat) (0 : Nat) (List.length b),
                                                                  Sx.SV.lit (Go.Value.int Go.IntKind.i64 (↑x' : Int))],
                                                                [Sx.SO.cells (47 : Nat)
                                                                    (T13.fedP (Prod.fst (T13.pfeed T13.ps0 (T13.flat (List.take x' b)))) (1 : Nat) (2 : Nat) (3 : Nat)
                                                                      (Sx.SV.lit (Go.Value.slice Option.none (0 : Nat) (0 : Nat)))),
                                                                  Sx.SO.row (5 : Nat) (Sx.Ty.int Go.IntKind.u8) (T13.PS.inter (Prod.fst (T13.pfeed T13.ps0 (T13.flat (List.take x' b))))),
                                                                  Sx.SO.row (3 : Nat) (Sx.Ty.int Go.IntKind.i64) (T13.PS.nums (Prod.fst (T13.pfeed T13.ps0 (T13.flat (List.take x' b))))),
                                                                  Sx.SO.row (5 : Nat) (Sx.Ty.int Go.IntKind.u8) (T13.PS.text (Prod.fst (T13.pfeed T13.ps0 (T13.flat (List.take x' b))))),
                                                                  Sx.SO.cells (47 : Nat) T13.newP, Sx.SO.cells (47 : Nat) T13.newP,
                                                                  Sx.SO.row (50 : Nat) T13.aty (Prod.snd (T13.pfeed T13.ps0 (T13.flat (List.take x' b)))),
                                                                  Sx.SO.row (9 : Nat) Sx.Ty.str b]) ∧
                                                            x' ≤ List.length b ∧ List.length b - x' < List.length b - b_2) ∧
                                                        True)
                                                      (List.length (Prod.snd (T13.pfeed T13.ps0 (T13.flat (List.take b_2 b)))) ≤
                                                          List.length (Prod.snd (T13.pfeed T13.ps0 (T13.flat (List.take b_2 b)))) ∧
                                                        ((↑(List.length (Prod.snd (T13.pfeed T13.ps0 (T13.flat (List.take b_2 b)))) +
                                                                    List.length (List.take (List.length (Prod.snd b_3)) (List.drop (0 : Nat) (Prod.snd b_3)))) :
                                                                Int) ≤
                                                              (9223372036854775807 : Int) ∧
                                                            (List.length (Prod.snd (T13.pfeed T13.ps0 (T13.flat (List.take b_2 b)))) +
                                                                  List.length (List.take (List.length (Prod.snd b_3)) (List.drop (0 : Nat) (Prod.snd b_3)))) *
                                                                Sx.bytesOf Go.Proofs.Try.prog (50 : Nat) ≤
                                                              (140737488355328 : Nat)) ∧
                                                          (∃ (x' : Nat),
                                                              ([Sx.SV.lit (Go.Value.string s), Sx.SV.ptr (0 : Nat) (0 : Nat), Sx.SV.ptr (4 : Nat) (0 : Nat),
                                                                      Sx.SV.ptr (5 : Nat) (0 : Nat),
                                                                      Sx.SV.sl (6 : Nat) (7 : Nat) (0 : Nat)
                                                                        (List.length (Prod.snd (T13.pfeed T13.ps0 (T13.flat (List.take b_2 b)))) +
                                                                          List.length (List.take (List.length (Prod.snd b_3)) (List.drop (0 : Nat) (Prod.snd b_3)))),
                                                                      Sx.SV.lit (Go.Value.slice Option.none (0 : Nat) (0 : Nat)), Sx.SV.sl (7 : Nat) (1 : Nat) (0 : Nat) (List.length b),
                                                                      Sx.SV.lit (Go.Value.int Go.IntKind.i64 (Go.IntKind.wrap Go.IntKind.i64 ((↑b_2 : Int) + (1 : Int))))],
                                                                    [Sx.SO.cells (47 : Nat)
                                                                        (T13.fedP (Prod.fst b_3) (1 : Nat) (2 : Nat) (3 : Nat)
                                                                          (Sx.SV.lit (Go.Value.slice Option.none (0 : Nat) (0 : Nat)))),
                                                                      Sx.SO.row (5 : Nat) (Sx.Ty.int Go.IntKind.u8) (T13.PS.inter (Prod.fst b_3)),
                                                                      Sx.SO.row (3 : Nat) (Sx.Ty.int Go.IntKind.i64) (T13.PS.nums (Prod.fst b_3)),
                                                                      Sx.SO.row (5 : Nat) (Sx.Ty.int Go.IntKind.u8) (T13.PS.text (Prod.fst b_3)), Sx.SO.cells (47 : Nat) T13.newP,
                                                                      Sx.SO.cells (47 : Nat) T13.newP,
                                                                      Sx.SO.row (50 : Nat) T13.aty
                                                                        (List.take (List.length (Prod.snd (T13.pfeed T13.ps0 (T13.flat (List.take b_2 b)))))
                                                                            (Prod.snd (T13.pfeed T13.ps0 (T13.flat (List.take b_2 b)))) ++
                                                                          List.take (List.length (Prod.snd b_3)) (List.drop (0 : Nat) (Prod.snd b_3))),
                                                                      Sx.SO.row (9 : Nat) Sx.Ty.str b]) =
                                                                  ([Sx.SV.lit (Go.Value.string s), Sx.SV.ptr (0 : Nat) (0 : Nat), Sx.SV.ptr (4 : Nat) (0 : Nat),
                                                                      Sx.SV.ptr (5 : Nat) (0 : Nat),
                                                                      Sx.SV.sl (6 : Nat) (7 : Nat) (0 : Nat) (List.length (Prod.snd (T13.pfeed T13.ps0 (T13.flat (List.take x' b))))),
                                                                      Sx.SV.lit (Go.Value.slice Option.none (0 : Nat) (0 : Nat)), Sx.SV.sl (7 : Nat) (1 : Nat) (0 : Nat) (List.length b),
                                                                      Sx.SV.lit (Go.Value.int Go.IntKind.i64 (↑x' : Int))],
                                                                    [Sx.SO.cells (47 : Nat)
                                                                        (T13.fedP (Prod.fst (T13.pfeed T13.ps0 (T13.flat (List.take x' b)))) (1 : Nat) (2 : Nat) (3 : Nat)
                                                                          (Sx.SV.lit (Go.Value.slice Option.none (0 : Nat) (0 : Nat)))),
                                                                      Sx.SO.row (5 : Nat) (Sx.Ty.int Go.IntKind.u8)
                                                                        (T13.PS.inter (Prod.fst (T13.pfeed T13.ps0 (T13.flat (List.take x' b))))),
                                                                      Sx.SO.row (3 : Nat) (Sx.Ty.int Go.IntKind.i64)
                                                                        (T13.PS.nums (Prod.fst (T13.pfeed T13.ps0 (T13.flat (List.take x' b))))),
                                                                      Sx.SO.row (5 : Nat) (Sx.Ty.int Go.IntKind.u8)
                                                                        (T13.PS.text (Prod.fst (T13.pfeed T13.ps0 (T13.flat (List.take x' b))))),
                                                                      Sx.SO.cells (47 : Nat) T13.newP, Sx.SO.cells (47 : Nat) T13.newP,
                                                                      Sx.SO.row (50 : Nat) T13.aty (Prod.snd (T13.pfeed T13.ps0 (T13.flat (List.take x' b)))),
                                                                      Sx.SO.row (9 : Nat) Sx.Ty.str b]) ∧
                                                                x' ≤ List.length b ∧ List.length b - x' < List.length b - b_2) ∧
                                                            True))
                                        ((List.length b = List.length b ∧ List.length b ≤ (1000 : Nat)) ∧
                                          (T13.newP = T13.newP ∧ List.length b ≤ List.length (b ++ [T13.markB]) ∧ T13.FeedOK T13.ps0 (List.take (List.length b) (b ++ [T13.markB]))) ∧
                                            ∀ (b_3 : T13.PS × List (Sx.Ty.den T13.aty)),
                                              T13.FeedOf T13.ps0 (List.take (List.length b) (b ++ [T13.markB])) b_3 →
                                                Sx.br (Decidable.decide ((0 : Int) < (↑(ByteArray.size s) : Int)))
                                                  (((0 : Int) ≤ Go.IntKind.wrap Go.IntKind.i64 ((0 : Int) + (1 : Int)) ∧
                                                      Go.IntKind.wrap Go.IntKind.i64 ((0 : Int) + (1 : Int)) ≤ (↑(ByteArray.size s) : Int)) ∧
                                                    ((0 : Int) ≤ (0 : Int) ∧ (0 : Int) ≤ (↑(1 : Nat) : Int)) ∧
                                                      (T13.newP = T13.newP ∧ (1 : Nat) ≤ (1 : Nat) ∧ T13.FeedOK T13.ps0 [ByteArray.extract s (0 : Nat) (1 : Nat)]) ∧
                                                        ∀ (b_4 : T13.PS × List (Sx.Ty.den T13.aty)),
                                                          T13.FeedOf T13.ps0 [ByteArray.extract s (0 : Nat) (1 : Nat)] b_4 →
                                                            (0 : Nat) + List.length (Prod.snd b_4) ≤ List.length (Prod.snd b_4) ∧
                                                              ((↑((0 : Nat) + List.length (List.take (List.length (Prod.snd b_4)) (List.drop (0 : Nat) (Prod.snd b_4)))) : Int) ≤
                                                                    (9223372036854775807 : Int) ∧
                                                                  ((0 : Nat) + List.length (List.take (List.length (Prod.snd b_4)) (List.drop (0 : Nat) (Prod.snd b_4)))) *
                                                                      Sx.bytesOf Go.Proofs.Try.prog (50 : Nat) ≤
                                                                    (140737488355328 : Nat)) ∧
                                                                (∃ (x : Nat),
                                                                    ([Sx.SV.lit (Go.Value.string s), Sx.SV.ptr (0 : Nat) (0 : Nat), Sx.SV.ptr (4 : Nat) (0 : Nat),
                                                                            Sx.SV.ptr (8 : Nat) (0 : Nat),
                                                                            Sx.SV.sl (12 : Nat) (7 : Nat) (0 : Nat)
                                                                              (List.length (Prod.snd (T13.pfeed T13.ps0 (T13.flat (List.take b_2 b))))),
                                                                            Sx.SV.sl (13 : Nat) (7 : Nat) (0 : Nat)
                                                                              (List.length (List.take (List.length (Prod.snd b_4)) (List.drop (0 : Nat) (Prod.snd b_4)))),
                                                                            Sx.SV.sl (14 : Nat) (1 : Nat) (0 : Nat) (List.length b),
                                                                            Sx.SV.sl (15 : Nat) (1 : Nat) (0 : Nat) (List.length b),
                                                                            Sx.SV.sl (16 : Nat) (7 : Nat) (0 : Nat) (List.length (Prod.snd b_3)),
                                                                            Sx.SV.lit (Go.Value.int Go.IntKind.i64 (Go.IntKind.wrap Go.IntKind.i64 ((0 : Int) + (1 : Int))))],
                                                                          [Sx.SO.cells (47 : Nat)
                                                                              (T13.fedP (Prod.fst (T13.pfeed T13.ps0 (T13.flat (List.take b_2 b)))) (1 : Nat) (2 : Nat) (3 : Nat)
                                                                                (Sx.SV.lit (Go.Value.slice Option.none (0 : Nat) (0 : Nat)))),
                                                                            Sx.SO.row (5 : Nat) (Sx.Ty.int Go.IntKind.u8)
                                                                              (T13.PS.inter (Prod.fst (T13.pfeed T13.ps0 (T13.flat (List.take b_2 b))))),
                                                                            Sx.SO.row (3 : Nat) (Sx.Ty.int Go.IntKind.i64)
                                                                              (T13.PS.nums (Prod.fst (T13.pfeed T13.ps0 (T13.flat (List.take b_2 b))))),
                                                                            Sx.SO.row (5 : Nat) (Sx.Ty.int Go.IntKind.u8)
                                                                              (T13.PS.text (Prod.fst (T13.pfeed T13.ps0 (T13.flat (List.take b_2 b))))),
                                                                            Sx.SO.cells (47 : Nat)
                                                                              (T13.fedP (Prod.fst b_3) (5 : Nat) (6 : Nat) (7 : Nat)
                                                                                (Sx.SV.lit (Go.Value.slice Option.none (0 : Nat) (0 : Nat)))),
                                                                            Sx.SO.row (5 : Nat) (Sx.Ty.int Go.IntKind.u8) (T13.PS.inter (Prod.fst b_3)),
                                                                            Sx.SO.row (3 : Nat) (Sx.Ty.int Go.IntKind.i64) (T13.PS.nums (Prod.fst b_3)),
                                                                            Sx.SO.row (5 : Nat) (Sx.Ty.int Go.IntKind.u8) (T13.PS.text (Prod.fst b_3)),
                                                                            Sx.SO.cells (47 : Nat)
                                                                              (T13.fedP (Prod.fst b_4) (9 : Nat) (10 : Nat) (11 : Nat)
                                                                                (Sx.SV.lit (Go.Value.slice Option.none (0 : Nat) (0 : Nat)))),
                                                                            Sx.SO.row (5 : Nat) (Sx.Ty.int Go.IntKind.u8) (T13.PS.inter (Prod.fst b_4)),
                                                                            Sx.SO.row (3 : Nat) (Sx.Ty.int Go.IntKind.i64) (T13.PS.nums (Prod.fst b_4)),
                                                                            Sx.SO.row (5 : Nat) (Sx.Ty.int Go.IntKind.u8) (T13.PS.text (Prod.fst b_4)),
                                                                            Sx.SO.row (50 : Nat) T13.aty (Prod.snd (T13.pfeed T13.ps0 (T13.flat (List.take b_2 b)))),
                                                                            Sx.SO.row (50 : Nat) T13.aty (List.take (List.length (Prod.snd b_4)) (List.drop (0 : Nat) (Prod.snd b_4))),
                                                                            Sx.SO.row (9 : Nat) Sx.Ty.str b, Sx.SO.row (9 : Nat) Sx.Ty.str (b ++ [T13.markB]),
                                                                            Sx.SO.row (50 : Nat) T13.aty (Prod.snd b_3)]) =
                                                                        ([Sx.SV.lit (Go.Value.string s), Sx.SV.ptr (0 : Nat) (0 : Nat), Sx.SV.ptr (4 : Nat) (0 : Nat),
                                                                            Sx.SV.ptr (8 : Nat) (0 : Nat),
                                                                            Sx.SV.sl (12 : Nat) (7 : Nat) (0 : Nat)
                                                                              (List.length (Prod.snd (T13.pfeed T13.ps0 (T13.flat (List.take b_2 b))))),
                                                                            Sx.SV.sl (13 : Nat) (7 : Nat) (0 : Nat)
                                                                              (List.length (Prod.snd (T13.pfeed T13.ps0 (List.take x (Sx.strInts s))))),
                                                                            Sx.SV.sl (14 : Nat) (1 : Nat) (0 : Nat) (List.length b),
                                                                            Sx.SV.sl (15 : Nat) (1 : Nat) (0 : Nat) (List.length b),
                                                                            Sx.SV.sl (16 : Nat) (7 : Nat) (0 : Nat) (List.length (Prod.snd b_3)),
                                                                            Sx.SV.lit (Go.Value.int Go.IntKind.i64 (↑x : Int))],
                                                                          [Sx.SO.cells (47 : Nat)
                                                                              (T13.fedP (Prod.fst (T13.pfeed T13.ps0 (T13.flat (List.take b_2 b)))) (1 : Nat) (2 : Nat) (3 : Nat)
                                                                                (Sx.SV.lit (Go.Value.slice Option.none (0 : Nat) (0 : Nat)))),
                                                                            Sx.SO.row (5 : Nat) (Sx.Ty.int Go.IntKind.u8)
                                                                              (T13.PS.inter (Prod.fst (T13.pfeed T13.ps0 (T13.flat (List.take b_2 b))))),
                                                                            Sx.SO.row (3 : Nat) (Sx.Ty.int Go.IntKind.i64)
                                                                              (T13.PS.nums (Prod.fst (T13.pfeed T13.ps0 (T13.flat (List.take b_2 b))))),
                                                                            Sx.SO.row (5 : Nat) (Sx.Ty.int Go.IntKind.u8)
                                                                              (T13.PS.text (Prod.fst (T13.pfeed T13.ps0 (T13.flat (List.take b_2 b))))),
                                                                            Sx.SO.cells (47 : Nat)
                                                                              (T13.fedP (Prod.fst b_3) (5 : Nat) (6 : Nat) (7 : Nat)
                                                                                (Sx.SV.lit (Go.Value.slice Option.none (0 : Nat) (0 : Nat)))),
                                                                            Sx.SO.row (5 : Nat) (Sx.Ty.int Go.IntKind.u8) (T13.PS.inter (Prod.fst b_3)),
                                                                            Sx.SO.row (3 : Nat) (Sx.Ty.int Go.IntKind.i64) (T13.PS.nums (Prod.fst b_3)),
                                                                            Sx.SO.row (5 : Nat) (Sx.Ty.int Go.IntKind.u8) (T13.PS.text (Prod.fst b_3)),
                                                                            Sx.SO.cells (47 : Nat)
                                                                              (T13.fedP (Prod.fst (T13.pfeed T13.ps0 (List.take x (Sx.strInts s)))) (9 : Nat) (10 : Nat) (11 : Nat)
                                                                                (Sx.SV.lit (Go.Value.slice Option.none (0 : Nat) (0 : Nat)))),
                                                                            Sx.SO.row (5 : Nat) (Sx.Ty.int Go.IntKind.u8)
                                                                              (T13.PS.inter (Prod.fst (T13.pfeed T13.ps0 (List.take x (Sx.strInts s))))),
                                                                            Sx.SO.row (3 : Nat) (Sx.Ty.int Go.IntKind.i64)
                                                                              (T13.PS.nums (Prod.fst (T13.pfeed T13.ps0 (List.take x (Sx.strInts s))))),
                                                                            Sx.SO.row (5 : Nat) (Sx.Ty.int Go.IntKind.u8)
                                                                              (T13.PS.text (Prod.fst (T13.pfeed T13.ps0 (List.take x (Sx.strInts s))))),
                                                                            Sx.SO.row (50 : Nat) T13.aty (Prod.snd (T13.pfeed T13.ps0 (T13.flat (List.take b_2 b)))),
                                                                            Sx.SO.row (50 : Nat) T13.aty (Prod.snd (T13.pfeed T13.ps0 (List.take x (Sx.strInts s)))),
                                                                            Sx.SO.row (9 : Nat) Sx.Ty.str b, Sx.SO.row (9 : Nat) Sx.Ty.str (b ++ [T13.markB]),
                                                                            Sx.SO.row (50 : Nat) T13.aty (Prod.snd b_3)]) ∧
                                                                      x ≤ ByteArray.size s) ∧
                                                                  ∀ (b_5 : Nat),
                                                                    b_5 ≤ ByteArray.size s →
                                                                      Sx.br (Decidable.decide ((↑b_5 : Int) < (↑(ByteArray.size s) : Int)))
                                                                        (((0 : Int) ≤ Go.IntKind.wrap Go.IntKind.i64 ((↑b_5 : Int) + (1 : Int)) ∧
                                                                            Go.IntKind.wrap Go.IntKind.i64 ((↑b_5 : Int) + (1 : Int)) ≤ (↑(ByteArray.size s) : Int)) ∧
                                                                          ((0 : Int) ≤ (↑b_5 : Int) ∧
                                                                              (↑b_5 : Int) ≤ (↑(Int.toNat (Go.IntKind.wrap Go.IntKind.i64 ((↑b_5 : Int) + (1 : Int)))) : Int)) ∧
                                                                            (T13.fedP (Prod.fst (T13.pfeed T13.ps0 (List.take b_5 (Sx.strInts s)))) (2 : Nat) (3 : Nat) (4 : Nat)
                                                                                    (Sx.SV.lit (Go.Value.slice Option.none (0 : Nat) (0 : Nat))) =
                                                                                  T13.fedP
                                                                                    { st := T13.PS.st (Prod.fst (T13.pfeed T13.ps0 (List.take b_5 (Sx.strInts s)))),
                                                                                      half :=
                                                                                        Sx.strInts (Sx.bsOf (T13.PS.half (Prod.fst (T13.pfeed T13.ps0 (List.take b_5 (Sx.strInts s)))))),
                                                                                      inter := T13.PS.inter (Prod.fst (T13.pfeed T13.ps0 (List.take b_5 (Sx.strInts s)))),
                                                                                      wrong := T13.PS.wrong (Prod.fst (T13.pfeed T13.ps0 (List.take b_5 (Sx.strInts s)))),
                                                                                      first := T13.PS.first (Prod.fst (T13.pfeed T13.ps0 (List.take b_5 (Sx.strInts s)))),
                                                                                      mark := T13.PS.mark (Prod.fst (T13.pfeed T13.ps0 (List.take b_5 (Sx.strInts s)))),
                                                                                      nums := T13.PS.nums (Prod.fst (T13.pfeed T13.ps0 (List.take b_5 (Sx.strInts s)))),
                                                                                      full := T13.PS.full (Prod.fst (T13.pfeed T13.ps0 (List.take b_5 (Sx.strInts s)))),
                                                                                      text := T13.PS.text (Prod.fst (T13.pfeed T13.ps0 (List.take b_5 (Sx.strInts s)))) }
                                                                                    (2 : Nat) (3 : Nat) (4 : Nat) (Sx.SV.lit (Go.Value.slice Option.none (0 : Nat) (0 : Nat))) ∧
                                                                                (1 : Nat) ≤ (1 : Nat) ∧
                                                                                  T13.FeedOK
                                                                                    { st := T13.PS.st (Prod.fst (T13.pfeed T13.ps0 (List.take b_5 (Sx.strInts s)))),
                                                                                      half :=
                                                                                        Sx.strInts (Sx.bsOf (T13.PS.half (Prod.fst (T13.pfeed T13.ps0 (List.take b_5 (Sx.strInts s)))))),
                                                                                      inter := T13.PS.inter (Prod.fst (T13.pfeed T13.ps0 (List.take b_5 (Sx.strInts s)))),
                                                                                      wrong := T13.PS.wrong (Prod.fst (T13.pfeed T13.ps0 (List.take b_5 (Sx.strInts s)))),
                                                                                      first := T13.PS.first (Prod.fst (T13.pfeed T13.ps0 (List.take b_5 (Sx.strInts s)))),
                                                                                      mark := T13.PS.mark (Prod.fst (T13.pfeed T13.ps0 (List.take b_5 (Sx.strInts s)))),
                                                                                      nums := T13.PS.nums (Prod.fst (T13.pfeed T13.ps0 (List.take b_5 (Sx.strInts s)))),
                                                                                      full := T13.PS.full (Prod.fst (T13.pfeed T13.ps0 (List.take b_5 (Sx.strInts s)))),
                                                                                      text := T13.PS.text (Prod.fst (T13.pfeed T13.ps0 (List.take b_5 (Sx.strInts s)))) }
                                                                                    [ByteArray.extract s b_5 (Int.toNat (Go.IntKind.wrap Go.IntKind.i64 ((↑b_5 : Int) + (1 : Int))))]) ∧
                                                                              ∀ (b_6 : T13.PS × List (Sx.Ty.den T13.aty)),
                                                                                T13.FeedOf
                                                                                    { st := T13.PS.st (Prod.fst (T13.pfeed T13.ps0 (List.take b_5 (Sx.strInts s)))),
                                                                                      half :=
                                                                                        Sx.strInts (Sx.bsOf (T13.PS.half (Prod.fst (T13.pfeed T13.ps0 (List.take b_5 (Sx.strInts s)))))),
                                                                                      inter := T13.PS.inter (Prod.fst (T13.pfeed T13.ps0 (List.take b_5 (Sx.strInts s)))),
                                                                                      wrong := T13.PS.wrong (Prod.fst (T13.pfeed T13.ps0 (List.take b_5 (Sx.strInts s)))),
                                                                                      first := T13.PS.first (Prod.fst (T13.pfeed T13.ps0 (List.take b_5 (Sx.strInts s)))),
                                                                                      mark := T13.PS.mark (Prod.fst (T13.pfeed T13.ps0 (List.take b_5 (Sx.strInts s)))),
                                                                                      nums := T13.PS.nums (Prod.fst (T13.pfeed T13.ps0 (List.take b_5 (Sx.strInts s)))),
                                                                                      full := T13.PS.full (Prod.fst (T13.pfeed T13.ps0 (List.take b_5 (Sx.strInts s)))),
                                                                                      text := T13.PS.text (Prod.fst (T13.pfeed T13.ps0 (List.take b_5 (Sx.strInts s)))) }
                                                                                    [ByteArray.extract s b_5 (Int.toNat (Go.IntKind.wrap Go.IntKind.i64 ((↑b_5 : Int) + (1 : Int))))]
                                                                                    b_6 →
                                                                                  (0 : Nat) + List.length (Prod.snd b_6) ≤ List.length (Prod.snd b_6) ∧
                                                                                    Sx.br
                                                                                      (Decidable.decide
                                                                                        (List.length (Prod.snd (T13.pfeed T13.ps0 (List.take b_5 (Sx.strInts s)))) +
                                                                                            List.length (List.take (List.length (Prod.snd b_6)) (List.drop (0 : Nat) (Prod.snd b_6))) ≤
                                                                                          List.length (Prod.snd (T13.pfeed T13.ps0 (List.take b_5 (Sx.strInts s))))))
                                                                                      ((∃ (x' : Nat),
                                                                                          ([Sx.SV.lit (Go.Value.string s), Sx.SV.ptr (0 : Nat) (0 : Nat), Sx.SV.ptr (4 : Nat) (0 : Nat),
                                                                                                  Sx.SV.ptr (8 : Nat) (0 : Nat),
                                                                                                  Sx.SV.sl (12 : Nat) (7 : Nat) (0 : Nat)
                                                                                                    (List.length (Prod.snd (T13.pfeed T13.ps0 (T13.flat (List.take b_2 b))))),
                                                                                                  Sx.SV.sl (13 : Nat) (7 : Nat) (0 : Nat)
                                                                                                    (List.length (Prod.snd (T13.pfeed T13.ps0 (List.take b_5 (Sx.strInts s)))) +
                                                                                                      List.length
                                                                                                        (List.take (List.length (Prod.snd b_6)) (List.drop (0 : Nat) (Prod.snd b_6)))),
                                                                                                  Sx.SV.sl (14 : Nat) (1 : Nat) (0 : Nat) (List.length b),
                                                                                                  Sx.SV.sl (15 : Nat) (1 : Nat) (0 : Nat) (List.length b),
                                                                                                  Sx.SV.sl (16 : Nat) (7 : Nat) (0 : Nat) (List.length (Prod.snd b_3)),
                                                                                                  Sx.SV.lit
                                                                                                    (Go.Value.int Go.IntKind.i64
                                                                                                      (Go.IntKind.wrap Go.IntKind.i64 ((↑b_5 : Int) + (1 : Int))))],
                                                                                                [Sx.SO.cells (47 : Nat)
                                                                                                    (T13.fedP (Prod.fst (T13.pfeed T13.ps0 (T13.flat (List.take b_2 b)))) (1 : Nat)
                                                                                                      (2 : Nat) (3 : Nat) (Sx.SV.lit (Go.Value.slice Option.none (0 : Nat) (0 : Nat)))),
                                                                                                  Sx.SO.row (5 : Nat) (Sx.Ty.int Go.IntKind.u8)
                                                                                                    (T13.PS.inter (Prod.fst (T13.pfeed T13.ps0 (T13.flat (List.take b_2 b))))),
                                                                                                  Sx.SO.row (3 : Nat) (Sx.Ty.int Go.IntKind.i64)
                                                                                                    (T13.PS.nums (Prod.fst (T13.pfeed T13.ps0 (T13.flat (List.take b_2 b))))),
                                                                                                  Sx.SO.row (5 : Nat) (Sx.Ty.int Go.IntKind.u8)
                                                                                                    (T13.PS.text (Prod.fst (T13.pfeed T13.ps0 (T13.flat (List.take b_2 b))))),
                                                                                                  Sx.SO.cells (47 : Nat)
                                                                                                    (T13.fedP (Prod.fst b_3) (5 : Nat) (6 : Nat) (7 : Nat)
                                                                                                      (Sx.SV.lit (Go.Value.slice Option.none (0 : Nat) (0 : Nat)))),
                                                                                                  Sx.SO.row (5 : Nat) (Sx.Ty.int Go.IntKind.u8) (T13.PS.inter (Prod.fst b_3)),
                                                                                                  Sx.SO.row (3 : Nat) (Sx.Ty.int Go.IntKind.i64) (T13.PS.nums (Prod.fst b_3)),
                                                                                                  Sx.SO.row (5 : Nat) (Sx.Ty.int Go.IntKind.u8) (T13.PS.text (Prod.fst b_3)),
                                                                                                  Sx.SO.cells (47 : Nat)
                                                                                                    (T13.fedP (Prod.fst b_6) (9 : Nat) (10 : Nat) (11 : Nat)
                                                                                                      (Sx.SV.lit (Go.Value.slice Option.none (0 : Nat) (0 : Nat)))),
                                                                                                  Sx.SO.row (5 : Nat) (Sx.Ty.int Go.IntKind.u8) (T13.PS.inter (Prod.fst b_6)),
                                                                                                  Sx.SO.row (3 : Nat) (Sx.Ty.int Go.IntKind.i64) (T13.PS.nums (Prod.fst b_6)),
                                                                                                  Sx.SO.row (5 : Nat) (Sx.Ty.int Go.IntKind.u8) (T13.PS.text (Prod.fst b_6)),
                                                                                                  Sx.SO.row (50 : Nat) T13.aty
                                                                                                    (Prod.snd (T13.pfeed T13.ps0 (T13.flat (List.take b_2 b)))),
                                                                                                  Sx.SO.row (50 : Nat) T13.aty
                                                                                                    (List.take (List.length (Prod.snd (T13.pfeed T13.ps0 (List.take b_5 (Sx.strInts s)))))
                                                                                                          (Prod.snd (T13.pfeed T13.ps0 (List.take b_5 (Sx.strInts s)))) ++
                                                                                                        List.take (List.length (Prod.snd b_6)) (List.drop (0 : Nat) (Prod.snd b_6)) ++
                                                                                                      List.drop
                                                                                                        (List.length (Prod.snd (T13.pfeed T13.ps0 (List.take b_5 (Sx.strInts s)))) +
                                                                                                          List.length
                                                                                                            (List.take (List.length (Prod.snd b_6)) (List.drop (0 : Nat) (Prod.snd b_6))))
                                                                                                        (Prod.snd (T13.pfeed T13.ps0 (List.take b_5 (Sx.strInts s))))),
                                                                                                  Sx.SO.row (9 : Nat) Sx.Ty.str b, Sx.SO.row (9 : Nat) Sx.Ty.str (b ++ [T13.markB]),
                                                                                                  Sx.SO.row (50 : Nat) T13.aty (Prod.snd b_3)]) =
                                                                                              ([Sx.SV.lit (Go.Value.string s), Sx.SV.ptr (0 : Nat) (0 : Nat),
                                                                                                  Sx.SV.ptr (4 : Nat) (0 : Nat), Sx.SV.ptr (8 : Nat) (0 : Nat),
                                                                                                  Sx.SV.sl (12 : Nat) (7 : Nat) (0 : Nat)
                                                                                                    (List.length (Prod.snd (T13.pfeed T13.ps0 (T13.flat (List.take b_2 b))))),
                                                                                                  Sx.SV.sl (13 : Nat) (7 : Nat) (0 : Nat)
                                                                                                    (List.length (Prod.snd (T13.pfeed T13.ps0 (List.take x' (Sx.strInts s))))),
                                                                                                  Sx.SV.sl (14 : Nat) (1 : Nat) (0 : Nat) (List.length b),
                                                                                                  Sx.SV.sl (15 : Nat) (1 : Nat) (0 : Nat) (List.length b),
                                                                                                  Sx.SV.sl (16 : Nat) (7 : Nat) (0 : Nat) (List.length (Prod.snd b_3)),
                                                                                                  Sx.SV.lit (Go.Value.int Go.IntKind.i64 (↑x' : Int))],
                                                                                                [Sx.SO.cells (47 : Nat)
                                                                                                    (T13.fedP (Prod.fst (T13.pfeed T13.ps0 (T13.flat (List.take b_2 b)))) (1 : Nat)
                                                                                                      (2 : Nat) (3 : Nat) (Sx.SV.lit (Go.Value.slice Option.none (0 : Nat) (0 : Nat)))),
                                                                                                  Sx.SO.row (5 : Nat) (Sx.Ty.int Go.IntKind.u8)
                                                                                                    (T13.PS.inter (Prod.fst (T13.pfeed T13.ps0 (T13.flat (List.take b_2 b))))),
                                                                                                  Sx.SO.row (3 : Nat) (Sx.Ty.int Go.IntKind.i64)
                                                                                                    (T13.PS.nums (Prod.fst (T13.pfeed T13.ps0 (T13.flat (List.take b_2 b))))),
                                                                                                  Sx.SO.row (5 : Nat) (Sx.Ty.int Go.IntKind.u8)
                                                                                                    (T13.PS.text (Prod.fst (T13.pfeed T13.ps0 (T13.flat (List.take b_2 b))))),
                                                                                                  Sx.SO.cells (47 : Nat)
                                                                                                    (T13.fedP (Prod.fst b_3) (5 : Nat) (6 : Nat) (7 : Nat)
                                                                                                      (Sx.SV.lit (Go.Value.slice Option.none (0 : Nat) (0 : Nat)))),
                                                                                                  Sx.SO.row (5 : Nat) (Sx.Ty.int Go.IntKind.u8) (T13.PS.inter (Prod.fst b_3)),
                                                                                                  Sx.SO.row (3 : Nat) (Sx.Ty.int Go.IntKind.i64) (T13.PS.nums (Prod.fst b_3)),
                                                                                                  Sx.SO.row (5 : Nat) (Sx.Ty.int Go.IntKind.u8) (T13.PS.text (Prod.fst b_3)),
                                                                                                  Sx.SO.cells (47 : Nat)
                                                                                                    (T13.fedP (Prod.fst (T13.pfeed T13.ps0 (List.take x' (Sx.strInts s)))) (9 : Nat)
                                                                                                      (10 : Nat) (11 : Nat) (Sx.SV.lit (Go.Value.slice Option.none (0 : Nat) (0 : Nat)))),
                                                                                                  Sx.SO.row (5 : Nat) (Sx.Ty.int Go.IntKind.u8)
                                                                                                    (T13.PS.inter (Prod.fst (T13.pfeed T13.ps0 (List.take x' (Sx.strInts s))))),
                                                                                                  Sx.SO.row (3 : Nat) (Sx.Ty.int Go.IntKind.i64)
                                                                                                    (T13.PS.nums (Prod.fst (T13.pfeed T13.ps0 (List.take x' (Sx.strInts s))))),
                                                                                                  Sx.SO.row (5 : Nat) (Sx.Ty.int Go.IntKind.u8)
                                                                                                    (T13.PS.text (Prod.fst (T13.pfeed T13.ps0 (List.take x' (Sx.strInts s))))),
                                                                                                  Sx.SO.row (50 : Nat) T13.aty
                                                                                                    (Prod.snd (T13.pfeed T13.ps0 (T13.flat (List.take b_2 b)))),
                                                                                                  Sx.SO.row (50 : Nat) T13.aty
                                                                                                    (Prod.snd (T13.pfeed T13.ps0 (List.take x' (Sx.strInts s)))),
                                                                                                  Sx.SO.row (9 : Nat) Sx.Ty.str b, Sx.SO.row (9 : Nat) Sx.Ty.str (b ++ [T13.markB]),
                                                                                                  Sx.SO.row (50 : Nat) T13.aty (Prod.snd b_3)]) ∧
                                                                                            x' ≤ ByteArray.size s ∧ ByteArray.size s - x' < ByteArray.size s - b_5) ∧
                                                                                        True)
                                                                                      (List.length (Prod.snd (T13.pfeed T13.ps0 (List.take b_5 (Sx.strInts s)))) ≤
                                                                                          List.length (Prod.snd (T13.pfeed T13.ps0 (List.take b_5 (Sx.strInts s)))) ∧
                                                                                        ((↑(List.length (Prod.snd (T13.pfeed T13.ps0 (List.take b_5 (Sx.strInts s)))) +
                                                                                                    List.length
                                                                                                      (List.take (List.length (Prod.snd b_6)) (List.drop (0 : Nat) (Prod.snd b_6)))) :
                                                                                                Int) ≤
                                                                                              (9223372036854775807 : Int) ∧
                                                                                            (List.length (Prod.snd (T13.pfeed T13.ps0 (List.take b_5 (Sx.strInts s)))) +
                                                                                                  List.length
                                                                                                    (List.take (List.length (Prod.snd b_6)) (List.drop (0 : Nat) (Prod.snd b_6)))) *
                                                                                                Sx.bytesOf Go.Proofs.Try.prog (50 : Nat) ≤
                                                                                              (140737488355328 : Nat)) ∧
                                                                                          (∃ (x' : Nat),
                                                                                              ([Sx.SV.lit (Go.Value.string s), Sx.SV.ptr (0 : Nat) (0 : Nat),
                                                                                                      Sx.SV.ptr (4 : Nat) (0 : Nat), Sx.SV.ptr (8 : Nat) (0 : Nat),
                                                                                                      Sx.SV.sl (12 : Nat) (7 : Nat) (0 : Nat)
                                                                                                        (List.length (Prod.snd (T13.pfeed T13.ps0 (T13.flat (List.take b_2 b))))),
                                                                                                      Sx.SV.sl (13 : Nat) (7 : Nat) (0 : Nat)
                                                                                                        (List.length (Prod.snd (T13.pfeed T13.ps0 (List.take b_5 (Sx.strInts s)))) +
                                                                                                          List.length
                                                                                                            (List.take (List.length (Prod.snd b_6))
                                                                                                              (List.drop (0 : Nat) (Prod.snd b_6)))),
                                                                                                      Sx.SV.sl (14 : Nat) (1 : Nat) (0 : Nat) (List.length b),
                                                                                                      Sx.SV.sl (15 : Nat) (1 : Nat) (0 : Nat) (List.length b),
                                                                                                      Sx.SV.sl (16 : Nat) (7 : Nat) (0 : Nat) (List.length (Prod.snd b_3)),
                                                                                                      Sx.SV.lit
                                                                                                        (Go.Value.int Go.IntKind.i64
                                                                                                          (Go.IntKind.wrap Go.IntKind.i64 ((↑b_5 : Int) + (1 : Int))))],
                                                                                                    [Sx.SO.cells (47 : Nat)
                                                                                                        (T13.fedP (Prod.fst (T13.pfeed T13.ps0 (T13.flat (List.take b_2 b)))) (1 : Nat)
                                                                                                          (2 : Nat) (3 : Nat)
                                                                                                          (Sx.SV.lit (Go.Value.slice Option.none (0 : Nat) (0 : Nat)))),
                                                                                                      Sx.SO.row (5 : Nat) (Sx.Ty.int Go.IntKind.u8)
                                                                                                        (T13.PS.inter (Prod.fst (T13.pfeed T13.ps0 (T13.flat (List.take b_2 b))))),
                                                                                                      Sx.SO.row (3 : Nat) (Sx.Ty.int Go.IntKind.i64)
                                                                                                        (T13.PS.nums (Prod.fst (T13.pfeed T13.ps0 (T13.flat (List.take b_2 b))))),
                                                                                                      Sx.SO.row (5 : Nat) (Sx.Ty.int Go.IntKind.u8)
                                                                                                        (T13.PS.text (Prod.fst (T13.pfeed T13.ps0 (T13.flat (List.take b_2 b))))),
                                                                                                      Sx.SO.cells (47 : Nat)
                                                                                                        (T13.fedP (Prod.fst b_3) (5 : Nat) (6 : Nat) (7 : Nat)
                                                                                                          (Sx.SV.lit (Go.Value.slice Option.none (0 : Nat) (0 : Nat)))),
                                                                                                      Sx.SO.row (5 : Nat) (Sx.Ty.int Go.IntKind.u8) (T13.PS.inter (Prod.fst b_3)),
                                                                                                      Sx.SO.row (3 : Nat) (Sx.Ty.int Go.IntKind.i64) (T13.PS.nums (Prod.fst b_3)),
                                                                                                      Sx.SO.row (5 : Nat) (Sx.Ty.int Go.IntKind.u8) (T13.PS.text (Prod.fst b_3)),
                                                                                                      Sx.SO.cells (47 : Nat)
                                                                                                        (T13.fedP (Prod.fst b_6) (9 : Nat) (10 : Nat) (11 : Nat)
                                                                                                          (Sx.SV.lit (Go.Value.slice Option.none (0 : Nat) (0 : Nat)))),
                                                                                                      Sx.SO.row (5 : Nat) (Sx.Ty.int Go.IntKind.u8) (T13.PS.inter (Prod.fst b_6)),
                                                                                                      Sx.SO.row (3 : Nat) (Sx.Ty.int Go.IntKind.i64) (T13.PS.nums (Prod.fst b_6)),
                                                                                                      Sx.SO.row (5 : Nat) (Sx.Ty.int Go.IntKind.u8) (T13.PS.text (Prod.fst b_6)),
                                                                                                      Sx.SO.row (50 : Nat) T13.aty
                                                                                                        (Prod.snd (T13.pfeed T13.ps0 (T13.flat (List.take b_2 b)))),
                                                                                                      Sx.SO.row (50 : Nat) T13.aty
                                                                                                        (List.take
                                                                                                            (List.length (Prod.snd (T13.pfeed T13.ps0 (List.take b_5 (Sx.strInts s)))))
                                                                                                            (Prod.snd (T13.pfeed T13.ps0 (List.take b_5 (Sx.strInts s)))) ++
                                                                                                          List.take (List.length (Prod.snd b_6)) (List.drop (0 : Nat) (Prod.snd b_6))),
                                                                                                      Sx.SO.row (9 : Nat) Sx.Ty.str b, Sx.SO.row (9 : Nat) Sx.Ty.str (b ++ [T13.markB]),
                                                                                                      Sx.SO.row (50 : Nat) T13.aty (Prod.snd b_3)]) =
                                                                                                  ([Sx.SV.lit (Go.Value.string s), Sx.SV.ptr (0 : Nat) (0 : Nat),
                                                                                                      Sx.SV.ptr (4 : Nat) (0 : Nat), Sx.SV.ptr (8 : Nat) (0 : Nat),
                                                                                                      Sx.SV.sl (12 : Nat) (7 : Nat) (0 : Nat)
                                                                                                        (List.length (Prod.snd (T13.pfeed T13.ps0 (T13.flat (List.take b_2 b))))),
                                                                                                      Sx.SV.sl (13 : Nat) (7 : Nat) (0 : Nat)
                                                                                                        (List.length (Prod.snd (T13.pfeed T13.ps0 (List.take x' (Sx.strInts s))))),
                                                                                                      Sx.SV.sl (14 : Nat) (1 : Nat) (0 : Nat) (List.length b),
                                                                                                      Sx.SV.sl (15 : Nat) (1 : Nat) (0 : Nat) (List.length b),
                                                                                                      Sx.SV.sl (16 : Nat) (7 : Nat) (0 : Nat) (List.length (Prod.snd b_3)),
                                                                                                      Sx.SV.lit (Go.Value.int Go.IntKind.i64 (↑x' : Int))],
                                                                                                    [Sx.SO.cells (47 : Nat)
                                                                                                        (T13.fedP (Prod.fst (T13.pfeed T13.ps0 (T13.flat (List.take b_2 b)))) (1 : Nat)
                                                                                                          (2 : Nat) (3 : Nat)
                                                                                                          (Sx.SV.lit (Go.Value.slice Option.none (0 : Nat) (0 : Nat)))),
                                                                                                      Sx.SO.row (5 : Nat) (Sx.Ty.int Go.IntKind.u8)
                                                                                                        (T13.PS.inter (Prod.fst (T13.pfeed T13.ps0 (T13.flat (List.take b_2 b))))),
                                                                                                      Sx.SO.row (3 : Nat) (Sx.Ty.int Go.IntKind.i64)
                                                                                                        (T13.PS.nums (Prod.fst (T13.pfeed T13.ps0 (T13.flat (List.take b_2 b))))),
                                                                                                      Sx.SO.row (5 : Nat) (Sx.Ty.int Go.IntKind.u8)
                                                                                                        (T13.PS.text (Prod.fst (T13.pfeed T13.ps0 (T13.flat (List.take b_2 b))))),
                                                                                                      Sx.SO.cells (47 : Nat)
                                                                                                        (T13.fedP (Prod.fst b_3) (5 : Nat) (6 : Nat) (7 : Nat)
                                                                                                          (Sx.SV.lit (Go.Value.slice Option.none (0 : Nat) (0 : Nat)))),
                                                                                                      Sx.SO.row (5 : Nat) (Sx.Ty.int Go.IntKind.u8) (T13.PS.inter (Prod.fst b_3)),
                                                                                                      Sx.SO.row (3 : Nat) (Sx.Ty.int Go.IntKind.i64) (T13.PS.nums (Prod.fst b_3)),
                                                                                                      Sx.SO.row (5 : Nat) (Sx.Ty.int Go.IntKind.u8) (T13.PS.text (Prod.fst b_3)),
                                                                                                      Sx.SO.cells (47 : Nat)
                                                                                                        (T13.fedP (Prod.fst (T13.pfeed T13.ps0 (List.take x' (Sx.strInts s)))) (9 : Nat)
                                                                                                          (10 : Nat) (11 : Nat)
                                                                                                          (Sx.SV.lit (Go.Value.slice Option.none (0 : Nat) (0 : Nat)))),
                                                                                                      Sx.SO.row (5 : Nat) (Sx.Ty.int Go.IntKind.u8)
                                                                                                        (T13.PS.inter (Prod.fst (T13.pfeed T13.ps0 (List.take x' (Sx.strInts s))))),
                                                                                                      Sx.SO.row (3 : Nat) (Sx.Ty.int Go.IntKind.i64)
                                                                                                        (T13.PS.nums (Prod.fst (T13.pfeed T13.ps0 (List.take x' (Sx.strInts s))))),
                                                                                                      Sx.SO.row (5 : Nat) (Sx.Ty.int Go.IntKind.u8)
                                                                                                        (T13.PS.text (Prod.fst (T13.pfeed T13.ps0 (List.take x' (Sx.strInts s))))),
                                                                                                      Sx.SO.row (50 : Nat) T13.aty
                                                                                                        (Prod.snd (T13.pfeed T13.ps0 (T13.flat (List.take b_2 b)))),
                                                                                                      Sx.SO.row (50 : Nat) T13.aty
                                                                                                        (Prod.snd (T13.pfeed T13.ps0 (List.take x' (Sx.strInts s)))),
                                                                                                      Sx.SO.row (9 : Nat) Sx.Ty.str b, Sx.SO.row (9 : Nat) Sx.Ty.str (b ++ [T13.markB]),
                                                                                                      Sx.SO.row (50 : Nat) T13.aty (Prod.snd b_3)]) ∧
                                                                                                x' ≤ ByteArray.size s ∧ ByteArray.size s - x' < ByteArray.size s - b_5) ∧
                                                                                            True))
                                                                        ((List.length (Prod.snd (T13.pfeed T13.ps0 (T13.flat (List.take b_2 b)))) =
                                                                              List.length (Prod.snd (T13.pfeed T13.ps0 (T13.flat (List.take b_2 b)))) ∧
                                                                            List.length (Prod.snd b_3) = List.length (Prod.snd b_3) ∧
                                                                              T13.Alike (Prod.snd (T13.pfeed T13.ps0 (T13.flat (List.take b_2 b)))) (Prod.snd b_3)) ∧
                                                                          (List.length (Prod.snd (T13.pfeed T13.ps0 (List.take b_5 (Sx.strInts s)))) =
                                                                                List.length (Prod.snd (T13.pfeed T13.ps0 (List.take b_5 (Sx.strInts s)))) ∧
                                                                              List.length (Prod.snd b_3) = List.length (Prod.snd b_3) ∧
                                                                                T13.Alike (Prod.snd (T13.pfeed T13.ps0 (List.take b_5 (Sx.strInts s)))) (Prod.snd b_3)) ∧
                                                                            (List.length b = List.length b ∧
                                                                                List.length b = List.length b ∧ b ++ [T13.markB] = b ++ [T13.markB] ∧ List.length b ≤ (1000 : Nat)) ∧
                                                                              T13.fedP (Prod.fst (T13.pfeed T13.ps0 (T13.flat (List.take b_2 b)))) (1 : Nat) (2 : Nat) (3 : Nat)
                                                                                    (Sx.SV.lit (Go.Value.slice Option.none (0 : Nat) (0 : Nat))) =
                                                                                  T13.fedP
                                                                                    { st := T13.PS.st (Prod.fst (T13.pfeed T13.ps0 (T13.flat (List.take b_2 b)))),
                                                                                      half :=
                                                                                        Sx.strInts (Sx.bsOf (T13.PS.half (Prod.fst (T13.pfeed T13.ps0 (T13.flat (List.take b_2 b)))))),
                                                                                      inter := T13.PS.inter (Prod.fst (T13.pfeed T13.ps0 (T13.flat (List.take b_2 b)))),
                                                                                      wrong := T13.PS.wrong (Prod.fst (T13.pfeed T13.ps0 (T13.flat (List.take b_2 b)))),
                                                                                      first := T13.PS.first (Prod.fst (T13.pfeed T13.ps0 (T13.flat (List.take b_2 b)))),
                                                                                      mark := T13.PS.mark (Prod.fst (T13.pfeed T13.ps0 (T13.flat (List.take b_2 b)))),
                                                                                      nums := T13.PS.nums (Prod.fst (T13.pfeed T13.ps0 (T13.flat (List.take b_2 b)))),
                                                                                      full := T13.PS.full (Prod.fst (T13.pfeed T13.ps0 (T13.flat (List.take b_2 b)))),
                                                                                      text := T13.PS.text (Prod.fst (T13.pfeed T13.ps0 (T13.flat (List.take b_2 b)))) }
                                                                                    (1 : Nat) (2 : Nat) (3 : Nat) (Sx.SV.lit (Go.Value.slice Option.none (0 : Nat) (0 : Nat))) ∧
                                                                                T13.fedP (Prod.fst (T13.pfeed T13.ps0 (List.take b_5 (Sx.strInts s)))) (1 : Nat) (2 : Nat) (3 : Nat)
                                                                                      (Sx.SV.lit (Go.Value.slice Option.none (0 : Nat) (0 : Nat))) =
                                                                                    T13.fedP
                                                                                      { st := T13.PS.st (Prod.fst (T13.pfeed T13.ps0 (List.take b_5 (Sx.strInts s)))),
                                                                                        half :=
                                                                                          Sx.strInts
                                                                                            (Sx.bsOf (T13.PS.half (Prod.fst (T13.pfeed T13.ps0 (List.take b_5 (Sx.strInts s)))))),
                                                                                        inter := T13.PS.inter (Prod.fst (T13.pfeed T13.ps0 (List.take b_5 (Sx.strInts s)))),
                                                                                        wrong := T13.PS.wrong (Prod.fst (T13.pfeed T13.ps0 (List.take b_5 (Sx.strInts s)))),
                                                                                        first := T13.PS.first (Prod.fst (T13.pfeed T13.ps0 (List.take b_5 (Sx.strInts s)))),
                                                                                        mark := T13.PS.mark (Prod.fst (T13.pfeed T13.ps0 (List.take b_5 (Sx.strInts s)))),
                                                                                        nums := T13.PS.nums (Prod.fst (T13.pfeed T13.ps0 (List.take b_5 (Sx.strInts s)))),
                                                                                        full := T13.PS.full (Prod.fst (T13.pfeed T13.ps0 (List.take b_5 (Sx.strInts s)))),
                                                                                        text := T13.PS.text (Prod.fst (T13.pfeed T13.ps0 (List.take b_5 (Sx.strInts s)))) }
                                                                                      (1 : Nat) (2 : Nat) (3 : Nat) (Sx.SV.lit (Go.Value.slice Option.none (0 : Nat) (0 : Nat))) ∧
                                                                                  Sx.br
                                                                                    ((T13.PS.st (Prod.fst (T13.pfeed T13.ps0 (T13.flat (List.take b_2 b)))) == (0 : Int) &&
                                                                                        ByteArray.size
                                                                                            (Sx.bsOf (T13.PS.half (Prod.fst (T13.pfeed T13.ps0 (T13.flat (List.take b_2 b)))))) ==
                                                                                          (0 : Nat)) ==
                                                                                      (T13.PS.st (Prod.fst (T13.pfeed T13.ps0 (List.take b_5 (Sx.strInts s)))) == (0 : Int) &&
                                                                                        ByteArray.size
                                                                                            (Sx.bsOf (T13.PS.half (Prod.fst (T13.pfeed T13.ps0 (List.take b_5 (Sx.strInts s)))))) ==
                                                                                          (0 : Nat)))
                                                                                    ((T13.fedP (Prod.fst (T13.pfeed T13.ps0 (T13.flat (List.take b_2 b)))) (1 : Nat) (2 : Nat) (3 : Nat)
                                                                                            (Sx.SV.lit (Go.Value.slice Option.none (0 : Nat) (0 : Nat))) =
                                                                                          T13.fedP
                                                                                            { st := T13.PS.st (Prod.fst (T13.pfeed T13.ps0 (T13.flat (List.take b_2 b)))),
                                                                                              half :=
                                                                                                Sx.strInts
                                                                                                  (Sx.bsOf (T13.PS.half (Prod.fst (T13.pfeed T13.ps0 (T13.flat (List.take b_2 b)))))),
                                                                                              inter := T13.PS.inter (Prod.fst (T13.pfeed T13.ps0 (T13.flat (List.take b_2 b)))),
                                                                                              wrong := T13.PS.wrong (Prod.fst (T13.pfeed T13.ps0 (T13.flat (List.take b_2 b)))),
                                                                                              first := T13.PS.first (Prod.fst (T13.pfeed T13.ps0 (T13.flat (List.take b_2 b)))),
                                                                                              mark := T13.PS.mark (Prod.fst (T13.pfeed T13.ps0 (T13.flat (List.take b_2 b)))),
                                                                                              nums := T13.PS.nums (Prod.fst (T13.pfeed T13.ps0 (T13.flat (List.take b_2 b)))),
                                                                                              full := T13.PS.full (Prod.fst (T13.pfeed T13.ps0 (T13.flat (List.take b_2 b)))),
                                                                                              text := T13.PS.text (Prod.fst (T13.pfeed T13.ps0 (T13.flat (List.take b_2 b)))) }
                                                                                            (1 : Nat) (2 : Nat) (3 : Nat) (Sx.SV.lit (Go.Value.slice Option.none (0 : Nat) (0 : Nat))) ∧
                                                                                        T13.KeptOK
                                                                                          { st := T13.PS.st (Prod.fst (T13.pfeed T13.ps0 (T13.flat (List.take b_2 b)))),
                                                                                            half :=
                                                                                              Sx.strInts
                                                                                                (Sx.bsOf (T13.PS.half (Prod.fst (T13.pfeed T13.ps0 (T13.flat (List.take b_2 b)))))),
                                                                                            inter := T13.PS.inter (Prod.fst (T13.pfeed T13.ps0 (T13.flat (List.take b_2 b)))),
                                                                                            wrong := T13.PS.wrong (Prod.fst (T13.pfeed T13.ps0 (T13.flat (List.take b_2 b)))),
                                                                                            first := T13.PS.first (Prod.fst (T13.pfeed T13.ps0 (T13.flat (List.take b_2 b)))),
                                                                                            mark := T13.PS.mark (Prod.fst (T13.pfeed T13.ps0 (T13.flat (List.take b_2 b)))),
                                                                                            nums := T13.PS.nums (Prod.fst (T13.pfeed T13.ps0 (T13.flat (List.take b_2 b)))),
                                                                                            full := T13.PS.full (Prod.fst (T13.pfeed T13.ps0 (T13.flat (List.take b_2 b)))),
                                                                                            text := T13.PS.text (Prod.fst (T13.pfeed T13.ps0 (T13.flat (List.take b_2 b)))) }) ∧
                                                                                      (T13.fedP (Prod.fst b_3) (1 : Nat) (2 : Nat) (3 : Nat)
                                                                                              (Sx.SV.lit (Go.Value.slice Option.none (0 : Nat) (0 : Nat))) =
                                                                                            T13.fedP
                                                                                              { st := T13.PS.st (Prod.fst b_3), half := Sx.strInts (Sx.bsOf (T13.PS.half (Prod.fst b_3))),
                                                                                                inter := T13.PS.inter (Prod.fst b_3), wrong := T13.PS.wrong (Prod.fst b_3),
                                                                                                first := T13.PS.first (Prod.fst b_3), mark := T13.PS.mark (Prod.fst b_3),
                                                                                                nums := T13.PS.nums (Prod.fst b_3), full := T13.PS.full (Prod.fst b_3),
                                                                                                text := T13.PS.text (Prod.fst b_3) }
                                                                                              (1 : Nat) (2 : Nat) (3 : Nat) (Sx.SV.lit (Go.Value.slice Option.none (0 : Nat) (0 : Nat))) ∧
                                                                                          T13.KeptOK
                                                                                            { st := T13.PS.st (Prod.fst b_3), half := Sx.strInts (Sx.bsOf (T13.PS.half (Prod.fst b_3))),
                                                                                              inter := T13.PS.inter (Prod.fst b_3), wrong := T13.PS.wrong (Prod.fst b_3),
                                                                                              first := T13.PS.first (Prod.fst b_3), mark := T13.PS.mark (Prod.fst b_3),
                                                                                              nums := T13.PS.nums (Prod.fst b_3), full := T13.PS.full (Prod.fst b_3),
                                                                                              text := T13.PS.text (Prod.fst b_3) }) ∧
                                                                                        Q
                                                                                          (Sx.SV.lit
                                                                                              (Go.Value.bool
                                                                                                ((↑(List.length
                                                                                                              (T13.PS.inter (Prod.fst (T13.pfeed T13.ps0 (T13.flat (List.take b_2 b))))) +
                                                                                                            List.length
                                                                                                              (T13.PS.nums (Prod.fst (T13.pfeed T13.ps0 (T13.flat (List.take b_2 b))))) +
                                                                                                          List.length
                                                                                                            (T13.PS.text (Prod.fst (T13.pfeed T13.ps0 (T13.flat (List.take b_2 b))))) +
                                                                                                        ByteArray.size
                                                                                                          (Sx.bsOf
                                                                                                            (T13.PS.half (Prod.fst (T13.pfeed T13.ps0 (T13.flat (List.take b_2 b))))))) :
                                                                                                    Int) ==
                                                                                                  (↑(List.length (T13.PS.inter (Prod.fst b_3)) +
                                                                                                            List.length (T13.PS.nums (Prod.fst b_3)) +
                                                                                                          List.length (T13.PS.text (Prod.fst b_3)) +
                                                                                                        ByteArray.size (Sx.bsOf (T13.PS.half (Prod.fst b_3)))) :
                                                                                                    Int))),
                                                                                            ([] : List Sx.SO), []))
                                                                                    (Q (Sx.SV.lit (Go.Value.bool Bool.false), ([] : List Sx.SO), []))))
                                                  ((List.length (Prod.snd (T13.pfeed T13.ps0 (T13.flat (List.take b_2 b)))) =
                                                        List.length (Prod.snd (T13.pfeed T13.ps0 (T13.flat (List.take b_2 b)))) ∧
                                                      List.length (Prod.snd b_3) = List.length (Prod.snd b_3) ∧
                                                        T13.Alike (Prod.snd (T13.pfeed T13.ps0 (T13.flat (List.take b_2 b)))) (Prod.snd b_3)) ∧
                                                    (List.length (Prod.snd b_3) = (0 : Nat) ∧ List.length (Prod.snd b_3) = (0 : Nat)) ∧
                                                      (List.length b = List.length b ∧
                                                          List.length b = List.length b ∧ b ++ [T13.markB] = b ++ [T13.markB] ∧ List.length b ≤ (1000 : Nat)) ∧
                                                        T13.fedP (Prod.fst (T13.pfeed T13.ps0 (T13.flat (List.take b_2 b)))) (1 : Nat) (2 : Nat) (3 : Nat)
                                                              (Sx.SV.lit (Go.Value.slice Option.none (0 : Nat) (0 : Nat))) =
                                                            T13.fedP
                                                              { st := T13.PS.st (Prod.fst (T13.pfeed T13.ps0 (T13.flat (List.take b_2 b)))),
                                                                half := Sx.strInts (Sx.bsOf (T13.PS.half (Prod.fst (T13.pfeed T13.ps0 (T13.flat (List.take b_2 b)))))),
                                                                inter := T13.PS.inter (Prod.fst (T13.pfeed T13.ps0 (T13.flat (List.take b_2 b)))),
                                                                wrong := T13.PS.wrong (Prod.fst (T13.pfeed T13.ps0 (T13.flat (List.take b_2 b)))),
                                                                first := T13.PS.first (Prod.fst (T13.pfeed T13.ps0 (T13.flat (List.take b_2 b)))),
                                                                mark := T13.PS.mark (Prod.fst (T13.pfeed T13.ps0 (T13.flat (List.take b_2 b)))),
                                                                nums := T13.PS.nums (Prod.fst (T13.pfeed T13.ps0 (T13.flat (List.take b_2 b)))),
                                                                full := T13.PS.full (Prod.fst (T13.pfeed T13.ps0 (T13.flat (List.take b_2 b)))),
                                                                text := T13.PS.text (Prod.fst (T13.pfeed T13.ps0 (T13.flat (List.take b_2 b)))) }
                                                              (1 : Nat) (2 : Nat) (3 : Nat) (Sx.SV.lit (Go.Value.slice Option.none (0 : Nat) (0 : Nat))) ∧
                                                          T13.newP = T13.newP ∧
                                                            Sx.br
                                                              ((T13.PS.st (Prod.fst (T13.pfeed T13.ps0 (T13.flat (List.take b_2 b)))) == (0 : Int) &&
                                                                  ByteArray.size (Sx.bsOf (T13.PS.half (Prod.fst (T13.pfeed T13.ps0 (T13.flat (List.take b_2 b)))))) == (0 : Nat)) ==
                                                                Bool.true)
                                                              ((T13.fedP (Prod.fst (T13.pfeed T13.ps0 (T13.flat (List.take b_2 b)))) (1 : Nat) (2 : Nat) (3 : Nat)
                                                                      (Sx.SV.lit (Go.Value.slice Option.none (0 : Nat) (0 : Nat))) =
                                                                    T13.fedP
                                                                      { st := T13.PS.st (Prod.fst (T13.pfeed T13.ps0 (T13.flat (List.take b_2 b)))),
                                                                        half := Sx.strInts (Sx.bsOf (T13.PS.half (Prod.fst (T13.pfeed T13.ps0 (T13.flat (List.take b_2 b)))))),
                                                                        inter := T13.PS.inter (Prod.fst (T13.pfeed T13.ps0 (T13.flat (List.take b_2 b)))),
                                                                        wrong := T13.PS.wrong (Prod.fst (T13.pfeed T13.ps0 (T13.flat (List.take b_2 b)))),
                                                                        first := T13.PS.first (Prod.fst (T13.pfeed T13.ps0 (T13.flat (List.take b_2 b)))),
                                                                        mark := T13.PS.mark (Prod.fst (T13.pfeed T13.ps0 (T13.flat (List.take b_2 b)))),
                                                                        nums := T13.PS.nums (Prod.fst (T13.pfeed T13.ps0 (T13.flat (List.take b_2 b)))),
                                                                        full := T13.PS.full (Prod.fst (T13.pfeed T13.ps0 (T13.flat (List.take b_2 b)))),
                                                                        text := T13.PS.text (Prod.fst (T13.pfeed T13.ps0 (T13.flat (List.take b_2 b)))) }
                                                                      (1 : Nat) (2 : Nat) (3 : Nat) (Sx.SV.lit (Go.Value.slice Option.none (0 : Nat) (0 : Nat))) ∧
                                                                  T13.KeptOK
                                                                    { st := T13.PS.st (Prod.fst (T13.pfeed T13.ps0 (T13.flat (List.take b_2 b)))),
                                                                      half := Sx.strInts (Sx.bsOf (T13.PS.half (Prod.fst (T13.pfeed T13.ps0 (T13.flat (List.take b_2 b)))))),
                                                                      inter := T13.PS.inter (Prod.fst (T13.pfeed T13.ps0 (T13.flat (List.take b_2 b)))),
                                                                      wrong := T13.PS.wrong (Prod.fst (T13.pfeed T13.ps0 (T13.flat (List.take b_2 b)))),
                                                                      first := T13.PS.first (Prod.fst (T13.pfeed T13.ps0 (T13.flat (List.take b_2 b)))),
                                                                      mark := T13.PS.mark (Prod.fst (T13.pfeed T13.ps0 (T13.flat (List.take b_2 b)))),
                                                                      nums := T13.PS.nums (Prod.fst (T13.pfeed T13.ps0 (T13.flat (List.take b_2 b)))),
                                                                      full := T13.PS.full (Prod.fst (T13.pfeed T13.ps0 (T13.flat (List.take b_2 b)))),
                                                                      text := T13.PS.text (Prod.fst (T13.pfeed T13.ps0 (T13.flat (List.take b_2 b)))) }) ∧
                                                                (T13.fedP (Prod.fst b_3) (1 : Nat) (2 : Nat) (3 : Nat) (Sx.SV.lit (Go.Value.slice Option.none (0 : Nat) (0 : Nat))) =
                                                                      T13.fedP
                                                                        { st := T13.PS.st (Prod.fst b_3), half := Sx.strInts (Sx.bsOf (T13.PS.half (Prod.fst b_3))),
                                                                          inter := T13.PS.inter (Prod.fst b_3), wrong := T13.PS.wrong (Prod.fst b_3),
                                                                          first := T13.PS.first (Prod.fst b_3), mark := T13.PS.mark (Prod.fst b_3), nums := T13.PS.nums (Prod.fst b_3),
                                                                          full := T13.PS.full (Prod.fst b_3), text := T13.PS.text (Prod.fst b_3) }
                                                                        (1 : Nat) (2 : Nat) (3 : Nat) (Sx.SV.lit (Go.Value.slice Option.none (0 : Nat) (0 : Nat))) ∧
                                                                    T13.KeptOK
                                                                      { st := T13.PS.st (Prod.fst b_3), half := Sx.strInts (Sx.bsOf (T13.PS.half (Prod.fst b_3))),
                                                                        inter := T13.PS.inter (Prod.fst b_3), wrong := T13.PS.wrong (Prod.fst b_3), first := T13.PS.first (Prod.fst b_3),
                                                                        mark := T13.PS.mark (Prod.fst b_3), nums := T13.PS.nums (Prod.fst b_3), full := T13.PS.full (Prod.fst b_3),
                                                                        text := T13.PS.text (Prod.fst b_3) }) ∧
                                                                  Q
                                                                    (Sx.SV.lit
                                                                        (Go.Value.bool
                                                                          ((↑(List.length (T13.PS.inter (Prod.fst (T13.pfeed T13.ps0 (T13.flat (List.take b_2 b))))) +
                                                                                      List.length (T13.PS.nums (Prod.fst (T13.pfeed T13.ps0 (T13.flat (List.take b_2 b))))) +
                                                                                    List.length (T13.PS.text (Prod.fst (T13.pfeed T13.ps0 (T13.flat (List.take b_2 b))))) +
                                                                                  ByteArray.size (Sx.bsOf (T13.PS.half (Prod.fst (T13.pfeed T13.ps0 (T13.flat (List.take b_2 b))))))) :
                                                                              Int) ==
                                                                            (↑(List.length (T13.PS.inter (Prod.fst b_3)) + List.length (T13.PS.nums (Prod.fst b_3)) +
                                                                                    List.length (T13.PS.text (Prod.fst b_3)) +
                                                                                  ByteArray.size (Sx.bsOf (T13.PS.half (Prod.fst b_3)))) :
                                                                              Int))),
                                                                      ([] : List Sx.SO), []))
                                                              (Q (Sx.SV.lit (Go.Value.bool Bool.false), ([] : List Sx.SO), [])))))
                  ((List.length b = List.length b ∧ List.length b ≤ (1000 : Nat)) ∧
                    (T13.newP = T13.newP ∧ List.length b ≤ List.length (b ++ [T13.markB]) ∧ T13.FeedOK T13.ps0 (List.take (List.length b) (b ++ [T13.markB]))) ∧
                      ∀ (b_1 : T13.PS × List (Sx.Ty.den T13.aty)),
                        T13.FeedOf T13.ps0 (List.take (List.length b) (b ++ [T13.markB])) b_1 →
                          Sx.br (Decidable.decide ((0 : Int) < (↑(ByteArray.size s) : Int)))
                            (((0 : Int) ≤ Go.IntKind.wrap Go.IntKind.i64 ((0 : Int) + (1 : Int)) ∧ Go.IntKind.wrap Go.IntKind.i64 ((0 : Int) + (1 : Int)) ≤ (↑(ByteArray.size s) : Int)) ∧
                              ((0 : Int) ≤ (0 : Int) ∧ (0 : Int) ≤ (↑(1 : Nat) : Int)) ∧
                                (T13.newP = T13.newP ∧ (1 : Nat) ≤ (1 : Nat) ∧ T13.FeedOK T13.ps0 [ByteArray.extract s (0 : Nat) (1 : Nat)]) ∧
                                  ∀ (b_2 : T13.PS × List (Sx.Ty.den T13.aty)),
                                    T13.FeedOf T13.ps0 [ByteArray.extract s (0 : Nat) (1 : Nat)] b_2 →
                                      (0 : Nat) + List.length (Prod.snd b_2) ≤ List.length (Prod.snd b_2) ∧
                                        ((↑((0 : Nat) + List.length (List.take (List.length (Prod.snd b_2)) (List.drop (0 : Nat) (Prod.snd b_2)))) : Int) ≤ (9223372036854775807 : Int) ∧
                                            ((0 : Nat) + List.length (List.take (List.length (Prod.snd b_2)) (List.drop (0 : Nat) (Prod.snd b_2)))) *
                                                Sx.bytesOf Go.Proofs.Try.prog (50 : Nat) ≤
                                              (140737488355328 : Nat)) ∧
                                          (∃ (x : Nat),
                                              ([Sx.SV.lit (Go.Value.string s), Sx.SV.ptr (0 : Nat) (0 : Nat), Sx.SV.ptr (1 : Nat) (0 : Nat), Sx.SV.ptr (5 : Nat) (0 : Nat),
                                                      Sx.SV.lit (Go.Value.slice Option.none (0 : Nat) (0 : Nat)),
                                                      Sx.SV.sl (9 : Nat) (7 : Nat) (0 : Nat) (List.length (List.take (List.length (Prod.snd b_2)) (List.drop (0 : Nat) (Prod.snd b_2)))),
                                                      Sx.SV.sl (10 : Nat) (1 : Nat) (0 : Nat) (List.length b), Sx.SV.sl (11 : Nat) (1 : Nat) (0 : Nat) (List.length b),
                                                      Sx.SV.sl (12 : Nat) (7 : Nat) (0 : Nat) (List.length (Prod.snd b_1)),
                                                      Sx.SV.lit (Go.Value.int Go.IntKind.i64 (Go.IntKind.wrap Go.IntKind.i64 ((0 : Int) + (1 : Int))))],
                                                    [Sx.SO.cells (47 : Nat) T13.newP,
                                                      Sx.SO.cells (47 : Nat)
                                                        (T13.fedP (Prod.fst b_1) (2 : Nat) (3 : Nat) (4 : Nat) (Sx.SV.lit (Go.Value.slice Option.none (0 : Nat) (0 : Nat)))),
                                                      Sx.SO.row (5 : Nat) (Sx.Ty.int Go.IntKind.u8) (T13.PS.inter (Prod.fst b_1)),
                                                      Sx.SO.row (3 : Nat) (Sx.Ty.int Go.IntKind.i64) (T13.PS.nums (Prod.fst b_1)),
                                                      Sx.SO.row (5 : Nat) (Sx.Ty.int Go.IntKind.u8) (T13.PS.text (Prod.fst b_1)),
                                                      Sx.SO.cells (47 : Nat)
                                                        (T13.fedP (Prod.fst b_2) (6 : Nat) (7 : Nat) (8 : Nat) (Sx.SV.lit (Go.Value.slice Option.none (0 : Nat) (0 : Nat)))),
                                                      Sx.SO.row (5 : Nat) (Sx.Ty.int Go.IntKind.u8) (T13.PS.inter (Prod.fst b_2)),
                                                      Sx.SO.row (3 : Nat) (Sx.Ty.int Go.IntKind.i64) (T13.PS.nums (Prod.fst b_2)),
                                                      Sx.SO.row (5 : Nat) (Sx.Ty.int Go.IntKind.u8) (T13.PS.text (Prod.fst b_2)),
                                                      Sx.SO.row (50 : Nat) T13.aty (List.take (List.length (Prod.snd b_2)) (List.drop (0 : Nat) (Prod.snd b_2))),
                                                      Sx.SO.row (9 : Nat) Sx.Ty.str b, Sx.SO.row (9 : Nat) Sx.Ty.str (b ++ [T13.markB]), Sx.SO.row (50 : Nat) T13.aty (Prod.snd b_1)]) =
                                                  (([] : List Sx.SV), ([] : List Sx.SO)) ∧
                                                False) ∧
                                            ∀ (b : Nat), False → False)
                            ((List.length (Prod.snd b_1) = (0 : Nat) ∧ List.length (Prod.snd b_1) = (0 : Nat)) ∧
                              (List.length (Prod.snd b_1) = (0 : Nat) ∧ List.length (Prod.snd b_1) = (0 : Nat)) ∧
                                (List.length b = List.length b ∧ List.length b = List.length b ∧ b ++ [T13.markB] = b ++ [T13.markB] ∧ List.length b ≤ (1000 : Nat)) ∧
                                  T13.newP = T13.newP ∧ T13.newP = T13.newP ∧ False))))) (by kernel_rfl) ?_
  have hbs : bytesOf Try.prog 50 = 88 := by kernel_rfl
  refine br_intro (fun _ => hq) (fun h0 => br_intro (fun _ => hq) (fun h1 => ⟨⟨?_, ?_⟩, fun P hP => ?_⟩))
  · have h0 := of_decide_eq_false h0; omega
  · have h1 := of_decide_eq_false h1; omega
  have h0 := of_decide_eq_false h0
  have h1 := of_decide_eq_false h1
  obtain ⟨hall, hfew, hne⟩ := hP
  have ss := strInts_size s
  have hfl : (flat P).length ≤ 1500 := by rw [hall, ss]; omega
  have hmono : ∀ i, i ≤ P.length → (flat (P.take i)).length ≤ 1500 := fun i hi => by
    have := flat_mono P i P.length hi
    rw [List.take_length] at this; omega
  have hOK : ∀ l, (pfeed ps0 l).1.OK := pfeed_ok ps0_ok
  have heta : ∀ l, (⟨(pfeed ps0 l).1.st, strInts (bsOf (pfeed ps0 l).1.half), (pfeed ps0 l).1.inter, (pfeed ps0 l).1.wrong, (pfeed ps0 l).1.first, (pfeed ps0 l).1.mark, (pfeed ps0 l).1.nums, (pfeed ps0 l).1.full, (pfeed ps0 l).1.text⟩ : PS) = (pfeed ps0 l).1 := fun l => PS.eta (hOK l).half
  have hlen : ∀ l, (pfeed ps0 l).2.length ≤ 3 * l.length := pfeed_few ps0
  simp only [List.drop_zero, List.take_length, Nat.zero_add, List.take_left, heta]
  refine br_intro (fun _ => ?_) (fun g => absurd (of_decide_eq_false g) (by omega))
  have hs1 := flat_succ P 0 (by omega) Ty.str.dflt
  have hm1 := hmono 1 (by omega)
  rw [Nat.zero_add, List.take_zero] at hs1
  have hs1 : flat (P.take 1) = strInts (P.getD 0 Ty.str.dflt) := hs1
  rw [hs1] at hm1
  refine ⟨by omega, by omega, ⟨trivial, by omega, ⟨ps0_ok, by rw [flat_one]; omega, by simp⟩⟩, fun r hr => ?_⟩
  obtain ⟨hr⟩ := hr
  rw [flat_one, ← hs1] at hr
  have hl1 := hlen (flat (P.take 1))
  rw [← hr, hs1] at hl1
  refine ⟨by omega, ⟨by omega, by rw [hbs]; omega⟩, ⟨1, ?_, by omega⟩, fun i hi => br_intro (fun hlt => ?_) (fun hge => ?_)⟩
  · rw [hr]; rfl
  · have hlt := of_decide_eq_true hlt
    have hsucc := flat_succ P i (by omega) Ty.str.dflt
    have hmi := hmono (i + 1) (by omega)
    rw [hsucc, List.length_append] at hmi
    refine ⟨by omega, by omega, ⟨trivial, by omega, ⟨hOK _, by rw [flat_one]; omega, by simp⟩⟩, fun r2 hr2 => ?_⟩
    obtain ⟨hr2⟩ := hr2
    rw [flat_one] at hr2
    have hfa := pfeed_append ps0 (flat (P.take i)) (strInts (P.getD i Ty.str.dflt))
    rw [← hsucc, ← hr2] at hfa
    have hl2 := hlen (flat (P.take (i + 1)))
    have hmi2 := hmono (i + 1) (by omega)
    rw [hfa] at hl2
    simp only [List.length_append] at hl2
    refine ⟨by omega, br_intro (fun g => ⟨⟨i + 1, ?_, by omega, by omega⟩, trivial⟩) (fun g => ⟨by omega, ⟨by omega, by rw [hbs]; omega⟩, ⟨i + 1, ?_, by omega, by omega⟩, trivial⟩)⟩
    · have g := of_decide_eq_true g
      have hz' : r2.2 = [] := List.eq_nil_of_length_eq_zero (by omega)
      rw [hfa, wrap1 i (by omega), hz']
      simp only [List.append_nil, List.length_nil, Nat.add_zero, List.drop_length]
    · rw [hfa, wrap1 i (by omega)]
      simp only [List.length_append]
  have hge := of_decide_eq_false hge
  have hiP : i = P.length := by omega
  subst hiP
  rw [List.take_length, hall]
  refine ⟨⟨trivial, by omega⟩, ⟨trivial, by rw [List.length_append]; omega, ⟨ps0_ok, by omega, by omega⟩⟩, fun r3 hr3 => ?_⟩
  obtain ⟨hr3⟩ := hr3
  rw [hall] at hr3
  subst hr3
  have hlS := hlen (strInts s)
  have halike : Alike (pfeed ps0 (strInts s)).2 (pfeed ps0 (strInts s)).2 := ⟨rfl, by omega, few_of (pfeed_eight ps0_ok _)⟩
  have w1 : IntKind.i64.wrap (0 + 1) = 1 := by decide
  rw [w1]
  refine br_intro (fun hpos => ?_) (fun hz => ?_)
  · have hpos := of_decide_eq_true hpos
    have hone : strInts (s.extract 0 1) = (strInts s).take 1 := by rw [strInts_extract, List.drop_zero]
    have ht1 : ((strInts s).take 1).length ≤ 1 := by rw [List.length_take]; omega
    refine ⟨by omega, by omega, ⟨trivial, by omega, ⟨ps0_ok, by rw [flat_one, hone]; omega, by simp⟩⟩, fun r4 hr4 => ?_⟩
    obtain ⟨hr4⟩ := hr4
    rw [flat_one, hone] at hr4
    have hl4 := hlen ((strInts s).take 1)
    rw [← hr4] at hl4
    refine ⟨by omega, ⟨by omega, by rw [hbs]; omega⟩, ⟨1, ?_, by omega⟩, fun j hj => br_intro (fun hlt => ?_) (fun hge2 => ?_)⟩
    · rw [hr4]; rfl
    · have hlt := of_decide_eq_true hlt
      have hw : IntKind.i64.wrap ((j : Int) + 1) = ((j + 1 : Nat) : Int) := wrap1 j (by omega)
      obtain ⟨ht, _⟩ := byteAt_take s j (by omega)
      have hx : strInts (s.extract j (j + 1)) = [byteAt s j] := by
        rw [strInts_extract, show j + 1 - j = 1 by omega]
        have h5 := List.take_add (l := strInts s) (i := j) (j := 1)
        rw [ht] at h5
        exact (List.append_cancel_left h5).symm
      rw [hw, Int.toNat_natCast]
      refine ⟨by omega, by omega, ⟨trivial, by omega, ⟨hOK _, by rw [flat_one, hx]; simp, by simp⟩⟩, fun r5 hr5 => ?_⟩
      obtain ⟨hr5⟩ := hr5
      rw [flat_one, hx] at hr5
      have hfa := pfeed_append ps0 ((strInts s).take j) [byteAt s j]
      rw [← ht, ← hr5] at hfa
      have hl5 := hlen ((strInts s).take (j + 1))
      have htl : ((strInts s).take (j + 1)).length ≤ 1500 := by rw [List.length_take]; omega
      rw [hfa] at hl5
      simp only [List.length_append] at hl5
      refine ⟨by omega, br_intro (fun g => ⟨⟨j + 1, ?_, by omega, by omega⟩, trivial⟩) (fun g => ⟨by omega, ⟨by omega, by rw [hbs]; omega⟩, ⟨j + 1, ?_, by omega, by omega⟩, trivial⟩)⟩
      · have g := of_decide_eq_true g
        have hz' : r5.2 = [] := List.eq_nil_of_length_eq_zero (by omega)
        rw [hfa, hz']
        simp only [List.append_nil, List.length_nil, Nat.add_zero, List.drop_length]
      · rw [hfa]
        simp only [List.length_append]
    · have hge2 := of_decide_eq_false hge2
      have hjs : (strInts s).take j = strInts s := List.take_of_length_le (by omega)
      rw [hjs]
      refine ⟨⟨trivial, trivial, halike⟩, ⟨trivial, trivial, halike⟩, ⟨trivial, trivial, trivial, by omega⟩, trivial, trivial, br_yes (beq_self_eq_true _) ⟨⟨trivial, kept_ok (hOK _)⟩, ⟨by rw [heta], kept_ok (by rw [heta]; exact hOK _)⟩, ?_⟩⟩
      rw [beq_self_eq_true]; exact hq
  · have hz := of_decide_eq_false hz
    have hs0 : strInts s = [] := List.eq_nil_of_length_eq_zero (by omega)
    rw [hs0] at halike ⊢
    refine ⟨⟨trivial, trivial, halike⟩, ⟨rfl, rfl⟩, ⟨trivial, trivial, trivial, by omega⟩, trivial, trivial, br_yes rfl ⟨⟨trivial, kept_ok (hOK _)⟩, ⟨by rw [heta], kept_ok (by rw [heta]; exact hOK _)⟩, ?_⟩⟩
    rw [beq_self_eq_true]; exact hq
end T13
