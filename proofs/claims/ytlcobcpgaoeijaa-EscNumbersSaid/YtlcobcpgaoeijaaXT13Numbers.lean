/- Part of a proof: the walk of the functions that the law calls. -/
import Derived.Test.YtlcobcpgaoeijaaSxT
import Derived.Test.YtlcobcpgaoeijaaXT13d
import Derived.Test.YtlcobcpgaoeijaaXP13f
open Go Sx Go.Proofs T12
namespace T13
set_option maxRecDepth 100000
set_option maxHeartbeats 4000000
attribute [local irreducible] Tree.Leads
set_option linter.unusedVariables false
theorem tmod_pos (x : Int) (m : Int) (hm : 0 < m) (hm2 : m ≤ 1000) : (IntKind.i64.wrap (x.tmod m + m)).tmod m = x % m := by
  have hx : -m < x.tmod m ∧ x.tmod m < m ∧ (x.tmod m - x) % m = 0 := by
    rcases Int.le_total 0 x with h | h
    · rw [Int.tmod_eq_emod_of_nonneg h]
      have h1 := Int.emod_nonneg x (show m ≠ 0 by omega)
      have h2 := Int.emod_lt_of_pos x hm
      exact ⟨by omega, h2, by rw [Int.sub_emod, Int.emod_emod, ← Int.sub_emod]; simp⟩
    · have e : x.tmod m = -((-x).tmod m) := by rw [Int.neg_tmod, Int.neg_neg]
      rw [e, Int.tmod_eq_emod_of_nonneg (show 0 ≤ -x by omega)]
      have h1 := Int.emod_nonneg (-x) (show m ≠ 0 by omega)
      have h2 := Int.emod_lt_of_pos (-x) hm
      refine ⟨by omega, by omega, ?_⟩
      have : -((-x) % m) - x = -x - (-x) % m := by omega
      rw [this, Int.sub_emod, Int.emod_emod, ← Int.sub_emod]; simp
  obtain ⟨h1, h2, h3⟩ := hx
  have e1 : IntKind.i64.wrap (x.tmod m + m) = x.tmod m + m := by rw [IntKind.wrap_i64]; omega
  rw [e1, Int.tmod_eq_emod_of_nonneg (by omega)]
  have e2 : x.tmod m + m = x + (x.tmod m - x) + m := by omega
  rw [e2, Int.add_emod_right, Int.add_emod, h3, Int.add_zero, Int.emod_emod]
theorem br_range {c1 c2 : Bool} {A B : Prop} (h1 : c1 = true → c2 = true → A) (h2 : ¬ (c1 = true ∧ c2 = true) → B) : br c1 (br c2 A B) B := by
  refine br_intro (fun a => br_intro (fun b => h1 a b) (fun b => h2 fun e => ?_)) (fun a => h2 fun e => ?_)
  · rw [b] at e; exact absurd e.2 (by decide)
  · rw [a] at e; exact absurd e.1 (by decide)
theorem take_snoc (L : List Int) (i : Nat) (h : i < L.length) (d : Int) : L.take (i + 1) = L.take i ++ [L.getD i d] := by
  rw [List.take_add_one, List.getElem?_eq_getElem h, List.getD_eq_getElem?_getD, List.getElem?_eq_getElem h]; rfl
theorem kept_snoc (L : List Int) (i : Nat) (h : i < L.length) (d : Int) : kept (L.take (i + 1)) = if i < 8 then kept (L.take i) ++ [worth (L.getD i d)] else kept (L.take i) := by
  rw [take_snoc L i h d]
  have hl : (L.take i).length = i := by rw [List.length_take]; omega
  unfold kept
  by_cases h8 : i < 8
  · have e1 : (List.map worth (L.take i) ++ List.map worth [L.getD i d]).take 8 = List.map worth (L.take i) ++ List.map worth [L.getD i d] := List.take_of_length_le (by rw [List.length_append, List.length_map, hl]; simp; omega)
    have e2 : (List.map worth (L.take i)).take 8 = List.map worth (L.take i) := List.take_of_length_le (by rw [List.length_map, hl]; omega)
    rw [if_pos h8, List.map_append, e1, e2]; rfl
  · rw [if_neg h8, List.map_append, List.take_append_of_le_length (by rw [List.length_map]; omega)]
noncomputable def A3 (L : List Int) (pre : List Int) : Ann := { live := [0, 7, 8, 9, 10, 11], mv := [], nilS := [(10, 3, .int .i64)], head := fun vals H => match vals, H with | [a, b, _, d, _, _], _ => { X := Nat × ByteArray, inv := fun x => ([a, b, .lit (.string x.2), d, .sl 0 1 0 (kept (L.take x.1)).length, .lit (.int .i64 x.1)], [.row 3 (.int .i64) (kept (L.take x.1))]), ok := fun x => x.1 ≤ L.length ∧ strInts x.2 = pre ++ items (L.take x.1), mu := fun x => L.length - x.1 } | _, _ => { X := Nat, inv := fun _ => ([], []), ok := fun _ => False, mu := fun _ => 0 } }
theorem v3 (L : List Int) (mark final : Int) (Q : SV × Heap × List Nat → Prop) (hq : Q (.lit (.bool true), [], [])) : (bodySumm V4 Try.prog Try.f3 (An1 0 (A3 L (if 60 ≤ mark ∧ mark ≤ 63 then [27, 91, mark] else [27, 91]))) [.imm (.int .i64) L, .lit (.int .i64 mark), .lit (.int .i64 final)] []).Leads Q := by
  refine Sx.by_text (q :=
      Sx.br (Decidable.decide ((↑(List.length L) : Int) > (20 : Int))) (Q (Sx.SV.lit (Go.Value.bool Bool.true), ([] : List Sx.SO), []))
        (((63 : Int) = (0 : Int) → False) ∧
          ((63 : Int) = (0 : Int) → False) ∧
            Sx.br (Decidable.decide (mark ≥ (60 : Int)))
              (Sx.br (Decidable.decide (mark ≤ (63 : Int)))
                ((1 : Nat) ≤ (1 : Nat) ∧
                  (↑(3 : Nat) : Int) ≤ (9223372036854775807 : Int) ∧
                    (∃ (x : Nat × ByteArray),
                        ([Sx.SV.imm (Sx.Ty.int Go.IntKind.i64) L,
                                Sx.SV.lit
                                  (Go.Value.int Go.IntKind.i64
                                    (Go.IntKind.wrap Go.IntKind.i64 ((64 : Int) + Int.tmod (Go.IntKind.wrap Go.IntKind.i64 (Int.tmod final (63 : Int) + (63 : Int))) (63 : Int)))),
                                Sx.SV.lit (Go.Value.string ({ data := #[(27 : UInt8), (91 : UInt8)] } ++ Sx.bsOf [Go.IntKind.wrap Go.IntKind.u8 mark])),
                                Sx.SV.lit (Go.Value.int Go.IntKind.i64 mark), Sx.SV.sl (0 : Nat) (1 : Nat) (0 : Nat) (0 : Nat), Sx.SV.lit (Go.Value.int Go.IntKind.i64 (0 : Int))],
                              [Sx.SO.row (3 : Nat) (Sx.Ty.int Go.IntKind.i64) []]) =
                            ([Sx.SV.imm (Sx.Ty.int Go.IntKind.i64) L,
                                Sx.SV.lit
                                  (Go.Value.int Go.IntKind.i64
                                    (Go.IntKind.wrap Go.IntKind.i64 ((64 : Int) + Int.tmod (Go.IntKind.wrap Go.IntKind.i64 (Int.tmod final (63 : Int) + (63 : Int))) (63 : Int)))),
                                Sx.SV.lit (Go.Value.string (Prod.snd x)), Sx.SV.lit (Go.Value.int Go.IntKind.i64 mark),
                                Sx.SV.sl (0 : Nat) (1 : Nat) (0 : Nat) (List.length (T13.kept (List.take (Prod.fst x) L))),
                                Sx.SV.lit (Go.Value.int Go.IntKind.i64 (↑(Prod.fst x) : Int))],
                              [Sx.SO.row (3 : Nat) (Sx.Ty.int Go.IntKind.i64) (T13.kept (List.take (Prod.fst x) L))]) ∧
                          Prod.fst x ≤ List.length L ∧
                            Sx.strInts (Prod.snd x) =
                              (if (60 : Int) ≤ mark ∧ mark ≤ (63 : Int) then [(27 : Int), (91 : Int), mark] else [(27 : Int), (91 : Int)]) ++ T13.items (List.take (Prod.fst x) L)) ∧
                      ∀ (b : Nat × ByteArray),
                        Prod.fst b ≤ List.length L ∧
                            Sx.strInts (Prod.snd b) =
                              (if (60 : Int) ≤ mark ∧ mark ≤ (63 : Int) then [(27 : Int), (91 : Int), mark] else [(27 : Int), (91 : Int)]) ++ T13.items (List.take (Prod.fst b) L) →
                          Sx.br (Decidable.decide ((↑(Prod.fst b) : Int) < (↑(List.length L) : Int)))
                            (((0 : Int) ≤ (↑(Prod.fst b) : Int) ∧ (↑(Prod.fst b) : Int) < (↑(List.length L) : Int)) ∧
                              Prod.fst b < List.length L ∧
                                Sx.br (Decidable.decide ((↑(Prod.fst b) : Int) > (0 : Int)))
                                  ((↑(ByteArray.size (Prod.snd b) + ByteArray.size { data := #[(59 : UInt8)] }) : Int) ≤ (9223372036854775807 : Int) ∧
                                    Sx.br (Decidable.decide (List.getD L (Prod.fst b) (Sx.Ty.dflt (Sx.Ty.int Go.IntKind.i64)) ≥ (0 : Int)))
                                      (((100000 : Int) = (0 : Int) → False) ∧
                                        ((0 : Int) ≤ Int.tmod (List.getD L (Prod.fst b) (Sx.Ty.dflt (Sx.Ty.int Go.IntKind.i64))) (100000 : Int) ∧
                                            Int.tmod (List.getD L (Prod.fst b) (Sx.Ty.dflt (Sx.Ty.int Go.IntKind.i64))) (100000 : Int) ≤ (100000 : Int)) ∧
                                          (↑(ByteArray.size (Prod.snd b ++ { data := #[(59 : UInt8)] }) +
                                                    ByteArray.size
                                                      (Sx.bsOf (T13.dig (Int.toNat (Int.tmod (List.getD L (Prod.fst b) (Sx.Ty.dflt (Sx.Ty.int Go.IntKind.i64))) (100000 : Int)))))) :
                                                Int) ≤
                                              (9223372036854775807 : Int) ∧
                                            Sx.br (Decidable.decide ((↑(Prod.fst b) : Int) < (8 : Int)))
                                              ((1 : Nat) ≤ (1 : Nat) ∧
                                                List.length (T13.kept (List.take (Prod.fst b) L)) = List.length (T13.kept (List.take (Prod.fst b) L)) ∧
                                                  ((↑(List.length (T13.kept (List.take (Prod.fst b) L)) + (1 : Nat)) : Int) ≤ (9223372036854775807 : Int) ∧
                                                      (List.length (T13.kept (List.take (Prod.fst b) L)) + (1 : Nat)) * Sx.bytesOf Go.Proofs.Try.prog (3 : Nat) ≤
                                                        (140737488355328 : Nat)) ∧
                                                    (∃ (x' : Nat × ByteArray),
                                                        ([Sx.SV.imm (Sx.Ty.int Go.IntKind.i64) L,
                                                                Sx.SV.lit
                                                                  (Go.Value.int Go.IntKind.i64
                                                                    (Go.IntKind.wrap Go.IntKind.i64
                                                                      ((64 : Int) + Int.tmod (Go.IntKind.wrap Go.IntKind.i64 (Int.tmod final (63 : Int) + (63 : Int))) (63 : Int)))),
                                                                Sx.SV.lit
                                                                  (Go.Value.string
                                                                    (Prod.snd b ++ { data := #[(59 : UInt8)] } ++
                                                                      Sx.bsOf
                                                                        (T13.dig
                                                                          (Int.toNat (Int.tmod (List.getD L (Prod.fst b) (Sx.Ty.dflt (Sx.Ty.int Go.IntKind.i64))) (100000 : Int)))))),
                                                                Sx.SV.lit (Go.Value.int Go.IntKind.i64 mark),
                                                                Sx.SV.sl (0 : Nat) (1 : Nat) (0 : Nat) (List.length (T13.kept (List.take (Prod.fst b) L)) + (1 : Nat)),
                                                                Sx.SV.lit (Go.Value.int Go.IntKind.i64 (Go.IntKind.wrap Go.IntKind.i64 ((↑(Prod.fst b) : Int) + (1 : Int))))],
                                                              [Sx.SO.row (3 : Nat) (Sx.Ty.int Go.IntKind.i64)
                                                                  (T13.kept (List.take (Prod.fst b) L) ++
                                                                    [Min.min
                                                                        (Max.max (Int.tmod (List.getD L (Prod.fst b) (Sx.Ty.dflt (Sx.Ty.int Go.IntKind.i64))) (100000 : Int)) (-1 : Int))
                                                                        (9999 : Int)])]) =
                                                            ([Sx.SV.imm (Sx.Ty.int Go.IntKind.i64) L,
                                                                Sx.SV.lit
                                                                  (Go.Value.int Go.IntKind.i64
                                                                    (Go.IntKind.wrap Go.IntKind.i64
                                                                      ((64 : Int) + Int.tmod (Go.IntKind.wrap Go.IntKind.i64 (Int.tmod final (63 : Int) + (63 : Int))) (63 : Int)))),
                                                                Sx.SV.lit (Go.Value.string (Prod.snd x')), Sx.SV.lit (Go.Value.int Go.IntKind.i64 mark),
                                                                Sx.SV.sl (0 : Nat) (1 : Nat) (0 : Nat) (List.length (T13.kept (List.take (Prod.fst x') L))),
                                                                Sx.SV.lit (Go.Value.int Go.IntKind.i64 (↑(Prod.fst x') : Int))],
                                                              [Sx.SO.row (3 : Nat) (Sx.Ty.int Go.IntKind.i64) (T13.kept (List.take (Prod.fst x') L))]) ∧
                                                          (Prod.fst x' ≤ List.length L ∧
                                                              Sx.strInts (Prod.snd x') =
                                                                (if (60 : Int) ≤ mark ∧ mark ≤ (63 : Int) then [(27 : Int), (91 : Int), mark] else [(27 : Int), (91 : Int)]) ++
                                                                  T13.items (List.take (Prod.fst x') L)) ∧
                                                            List.length L - Prod.fst x' < List.length L - Prod.fst b) ∧
                                                      True)
                                              ((∃ (x' : Nat × ByteArray),
                                                  ([Sx.SV.imm (Sx.Ty.int Go.IntKind.i64) L,
                                                          Sx.SV.lit
                                                            (Go.Value.int Go.IntKind.i64
                                                              (Go.IntKind.wrap Go.IntKind.i64
                                                                ((64 : Int) + Int.tmod (Go.IntKind.wrap Go.IntKind.i64 (Int.tmod final (63 : Int) + (63 : Int))) (63 : Int)))),
                                                          Sx.SV.lit
                                                            (Go.Value.string
                                                              (Prod.snd b ++ { data := #[(59 : UInt8)] } ++
                                                                Sx.bsOf
                                                                  (T13.dig (Int.toNat (Int.tmod (List.getD L (Prod.fst b) (Sx.Ty.dflt (Sx.Ty.int Go.IntKind.i64))) (100000 : Int)))))),
                                                          Sx.SV.lit (Go.Value.int Go.IntKind.i64 mark),
                                                          Sx.SV.sl (0 : Nat) (1 : Nat) (0 : Nat) (List.length (T13.kept (List.take (Prod.fst b) L))),
                                                          Sx.SV.lit (Go.Value.int Go.IntKind.i64 (Go.IntKind.wrap Go.IntKind.i64 ((↑(Prod.fst b) : Int) + (1 : Int))))],
                                                        [Sx.SO.row (3 : Nat) (Sx.Ty.int Go.IntKind.i64) (T13.kept (List.take (Prod.fst b) L))]) =
                                                      ([Sx.SV.imm (Sx.Ty.int Go.IntKind.i64) L,
                                                          Sx.SV.lit
                                                            (Go.Value.int Go.IntKind.i64
                                                              (Go.IntKind.wrap Go.IntKind.i64
                                                                ((64 : Int) + Int.tmod (Go.IntKind.wrap Go.IntKind.i64 (Int.tmod final (63 : Int) + (63 : Int))) (63 : Int)))),
                                                          Sx.SV.lit (Go.Value.string (Prod.snd x')), Sx.SV.lit (Go.Value.int Go.IntKind.i64 mark),
                                                          Sx.SV.sl (0 : Nat) (1 : Nat) (0 : Nat) (List.length (T13.kept (List.take (Prod.fst x') L))),
                                                          Sx.SV.lit (Go.Value.int Go.IntKind.i64 (↑(Prod.fst x') : Int))],
                                                        [Sx.SO.row (3 : Nat) (Sx.Ty.int Go.IntKind.i64) (T13.kept (List.take (Prod.fst x') L))]) ∧
                                                    (Prod.fst x' ≤ List.length L ∧
                                                        Sx.strInts (Prod.snd x') =
                                                          (if (60 : Int) ≤ mark ∧ mark ≤ (63 : Int) then [(27 : Int), (91 : Int), mark] else [(27 : Int), (91 : Int)]) ++
                                                            T13.items (List.take (Prod.fst x') L)) ∧
                                                      List.length L - Prod.fst x' < List.length L - Prod.fst b) ∧
                                                True))
                                      (Sx.br (Decidable.decide ((↑(Prod.fst b) : Int) < (8 : Int)))
                                        ((1 : Nat) ≤ (1 : Nat) ∧
                                          List.length (T13.kept (List.take (Prod.fst b) L)) = List.length (T13.kept (List.take (Prod.fst b) L)) ∧
                                            ((↑(List.length (T13.kept (List.take (Prod.fst b) L)) + (1 : Nat)) : Int) ≤ (9223372036854775807 : Int) ∧
                                                (List.length (T13.kept (List.take (Prod.fst b) L)) + (1 : Nat)) * Sx.bytesOf Go.Proofs.Try.prog (3 : Nat) ≤ (140737488355328 : Nat)) ∧
                                              (∃ (x' : Nat × ByteArray),
                                                  ([Sx.SV.imm (Sx.Ty.int Go.IntKind.i64) L,
                                                          Sx.SV.lit
                                                            (Go.Value.int Go.IntKind.i64
                                                              (Go.IntKind.wrap Go.IntKind.i64
                                                                ((64 : Int) + Int.tmod (Go.IntKind.wrap Go.IntKind.i64 (Int.tmod final (63 : Int) + (63 : Int))) (63 : Int)))),
                                                          Sx.SV.lit (Go.Value.string (Prod.snd b ++ { data := #[(59 : UInt8)] })), Sx.SV.lit (Go.Value.int Go.IntKind.i64 mark),
                                                          Sx.SV.sl (0 : Nat) (1 : Nat) (0 : Nat) (List.length (T13.kept (List.take (Prod.fst b) L)) + (1 : Nat)),
                                                          Sx.SV.lit (Go.Value.int Go.IntKind.i64 (Go.IntKind.wrap Go.IntKind.i64 ((↑(Prod.fst b) : Int) + (1 : Int))))],
                                                        [Sx.SO.row (3 : Nat) (Sx.Ty.int Go.IntKind.i64)
                                                            (T13.kept (List.take (Prod.fst b) L) ++
                                                              [Min.min (Max.max (List.getD L (Prod.fst b) (Sx.Ty.dflt (Sx.Ty.int Go.IntKind.i64))) (-1 : Int)) (9999 : Int)])]) =
                                                      ([Sx.SV.imm (Sx.Ty.int Go.IntKind.i64) L,
                                                          Sx.SV.lit
                                                            (Go.Value.int Go.IntKind.i64
                                                              (Go.IntKind.wrap Go.IntKind.i64
                                                                ((64 : Int) + Int.tmod (Go.IntKind.wrap Go.IntKind.i64 (Int.tmod final (63 : Int) + (63 : Int))) (63 : Int)))),
                                                          Sx.SV.lit (Go.Value.string (Prod.snd x')), Sx.SV.lit (Go.Value.int Go.IntKind.i64 mark),
                                                          Sx.SV.sl (0 : Nat) (1 : Nat) (0 : Nat) (List.length (T13.kept (List.take (Prod.fst x') L))),
                                                          Sx.SV.lit (Go.Value.int Go.IntKind.i64 (↑(Prod.fst x') : Int))],
                                                        [Sx.SO.row (3 : Nat) (Sx.Ty.int Go.IntKind.i64) (T13.kept (List.take (Prod.fst x') L))]) ∧
                                                    (Prod.fst x' ≤ List.length L ∧
                                                        Sx.strInts (Prod.snd x') =
                                                          (if (60 : Int) ≤ mark ∧ mark ≤ (63 : Int) then [(27 : Int), (91 : Int), mark] else [(27 : Int), (91 : Int)]) ++
                                                            T13.items (List.take (Prod.fst x') L)) ∧
                                                      List.length L - Prod.fst x' < List.length L - Prod.fst b) ∧
                                                True)
                                        ((∃ (x' : Nat × ByteArray),
                                            ([Sx.SV.imm (Sx.Ty.int Go.IntKind.i64) L,
                                                    Sx.SV.lit
                                                      (Go.Value.int Go.IntKind.i64
                                                        (Go.IntKind.wrap Go.IntKind.i64
                                                          ((64 : Int) + Int.tmod (Go.IntKind.wrap Go.IntKind.i64 (Int.tmod final (63 : Int) + (63 : Int))) (63 : Int)))),
                                                    Sx.SV.lit (Go.Value.string (Prod.snd b ++ { data := #[(59 : UInt8)] })), Sx.SV.lit (Go.Value.int Go.IntKind.i64 mark),
                                                    Sx.SV.sl (0 : Nat) (1 : Nat) (0 : Nat) (List.length (T13.kept (List.take (Prod.fst b) L))),
                                                    Sx.SV.lit (Go.Value.int Go.IntKind.i64 (Go.IntKind.wrap Go.IntKind.i64 ((↑(Prod.fst b) : Int) + (1 : Int))))],
                                                  [Sx.SO.row (3 : Nat) (Sx.Ty.int Go.IntKind.i64) (T13.kept (List.take (Prod.fst b) L))]) =
                                                ([Sx.SV.imm (Sx.Ty.int Go.IntKind.i64) L,
                                                    Sx.SV.lit
                                                      (Go.Value.int Go.IntKind.i64
                                                        (Go.IntKind.wrap Go.IntKind.i64
                                                          ((64 : Int) + Int.tmod (Go.IntKind.wrap Go.IntKind.i64 (Int.tmod final (63 : Int) + (63 : Int))) (63 : Int)))),
                                                    Sx.SV.lit (Go.Value.string (Prod.snd x')), Sx.SV.lit (Go.Value.int Go.IntKind.i64 mark),
                                                    Sx.SV.sl (0 : Nat) (1 : Nat) (0 : Nat) (List.length (T13.kept (List.take (Prod.fst x') L))),
                                                    Sx.SV.lit (Go.Value.int Go.IntKind.i64 (↑(Prod.fst x') : Int))],
                                                  [Sx.SO.row (3 : Nat) (Sx.Ty.int Go.IntKind.i64) (T13.kept (List.take (Prod.fst x') L))]) ∧
                                              (Prod.fst x' ≤ List.length L ∧
                                                  Sx.strInts (Prod.snd x') =
                                                    (if (60 : Int) ≤ mark ∧ mark ≤ (63 : Int) then [(27 : Int), (91 : Int), mark] else [(27 : Int), (91 : Int)]) ++
                                                      T13.items (List.take (Prod.fst x') L)) ∧
                                                List.length L - Prod.fst x' < List.length L - Prod.fst b) ∧
                                          True)))
                                  (Sx.br (Decidable.decide (List.getD L (Prod.fst b) (Sx.Ty.dflt (Sx.Ty.int Go.IntKind.i64)) ≥ (0 : Int)))
                                    (((100000 : Int) = (0 : Int) → False) ∧
                                      ((0 : Int) ≤ Int.tmod (List.getD L (Prod.fst b) (Sx.Ty.dflt (Sx.Ty.int Go.IntKind.i64))) (100000 : Int) ∧
                                          Int.tmod (List.getD L (Prod.fst b) (Sx.Ty.dflt (Sx.Ty.int Go.IntKind.i64))) (100000 : Int) ≤ (100000 : Int)) ∧
                                        (↑(ByteArray.size (Prod.snd b) +
                                                  ByteArray.size
                                                    (Sx.bsOf (T13.dig (Int.toNat (Int.tmod (List.getD L (Prod.fst b) (Sx.Ty.dflt (Sx.Ty.int Go.IntKind.i64))) (100000 : Int)))))) :
                                              Int) ≤
                                            (9223372036854775807 : Int) ∧
                                          Sx.br (Decidable.decide ((↑(Prod.fst b) : Int) < (8 : Int)))
                                            ((1 : Nat) ≤ (1 : Nat) ∧
                                              List.length (T13.kept (List.take (Prod.fst b) L)) = List.length (T13.kept (List.take (Prod.fst b) L)) ∧
                                                ((↑(List.length (T13.kept (List.take (Prod.fst b) L)) + (1 : Nat)) : Int) ≤ (9223372036854775807 : Int) ∧
                                                    (List.length (T13.kept (List.take (Prod.fst b) L)) + (1 : Nat)) * Sx.bytesOf Go.Proofs.Try.prog (3 : Nat) ≤ (140737488355328 : Nat)) ∧
                                                  (∃ (x' : Nat × ByteArray),
                                                      ([Sx.SV.imm (Sx.Ty.int Go.IntKind.i64) L,
                                                              Sx.SV.lit
                                                                (Go.Value.int Go.IntKind.i64
                                                                  (Go.IntKind.wrap Go.IntKind.i64
                                                                    ((64 : Int) + Int.tmod (Go.IntKind.wrap Go.IntKind.i64 (Int.tmod final (63 : Int) + (63 : Int))) (63 : Int)))),
                                                              Sx.SV.lit
                                                                (Go.Value.string
                                                                  (Prod.snd b ++
                                                                    Sx.bsOf
                                                                      (T13.dig
                                                                        (Int.toNat (Int.tmod (List.getD L (Prod.fst b) (Sx.Ty.dflt (Sx.Ty.int Go.IntKind.i64))) (100000 : Int)))))),
                                                              Sx.SV.lit (Go.Value.int Go.IntKind.i64 mark),
                                                              Sx.SV.sl (0 : Nat) (1 : Nat) (0 : Nat) (List.length (T13.kept (List.take (Prod.fst b) L)) + (1 : Nat)),
                                                              Sx.SV.lit (Go.Value.int Go.IntKind.i64 (Go.IntKind.wrap Go.IntKind.i64 ((↑(Prod.fst b) : Int) + (1 : Int))))],
                                                            [Sx.SO.row (3 : Nat) (Sx.Ty.int Go.IntKind.i64)
                                                                (T13.kept (List.take (Prod.fst b) L) ++
                                                                  [Min.min
                                                                      (Max.max (Int.tmod (List.getD L (Prod.fst b) (Sx.Ty.dflt (Sx.Ty.int Go.IntKind.i64))) (100000 : Int)) (-1 : Int))
                                                                      (9999 : Int)])]) =
                                                          ([Sx.SV.imm (Sx.Ty.int Go.IntKind.i64) L,
                                                              Sx.SV.lit
                                                                (Go.Value.int Go.IntKind.i64
                                                                  (Go.IntKind.wrap Go.IntKind.i64
                                                                    ((64 : Int) + Int.tmod (Go.IntKind.wrap Go.IntKind.i64 (Int.tmod final (63 : Int) + (63 : Int))) (63 : Int)))),
                                                              Sx.SV.lit (Go.Value.string (Prod.snd x')), Sx.SV.lit (Go.Value.int Go.IntKind.i64 mark),
                                                              Sx.SV.sl (0 : Nat) (1 : Nat) (0 : Nat) (List.length (T13.kept (List.take (Prod.fst x') L))),
                                                              Sx.SV.lit (Go.Value.int Go.IntKind.i64 (↑(Prod.fst x') : Int))],
                                                            [Sx.SO.row (3 : Nat) (Sx.Ty.int Go.IntKind.i64) (T13.kept (List.take (Prod.fst x') L))]) ∧
                                                        (Prod.fst x' ≤ List.length L ∧
                                                            Sx.strInts (Prod.snd x') =
                                                              (if (60 : Int) ≤ mark ∧ mark ≤ (63 : Int) then [(27 : Int), (91 : Int), mark] else [(27 : Int), (91 : Int)]) ++
                                                                T13.items (List.take (Prod.fst x') L)) ∧
                                                          List.length L - Prod.fst x' < List.length L - Prod.fst b) ∧
                                                    True)
                                            ((∃ (x' : Nat × ByteArray),
                                                ([Sx.SV.imm (Sx.Ty.int Go.IntKind.i64) L,
                                                        Sx.SV.lit
                                                          (Go.Value.int Go.IntKind.i64
                                                            (Go.IntKind.wrap Go.IntKind.i64
                                                              ((64 : Int) + Int.tmod (Go.IntKind.wrap Go.IntKind.i64 (Int.tmod final (63 : Int) + (63 : Int))) (63 : Int)))),
                                                        Sx.SV.lit
                                                          (Go.Value.string
                                                            (Prod.snd b ++
                                                              Sx.bsOf
                                                                (T13.dig (Int.toNat (Int.tmod (List.getD L (Prod.fst b) (Sx.Ty.dflt (Sx.Ty.int Go.IntKind.i64))) (100000 : Int)))))),
                                                        Sx.SV.lit (Go.Value.int Go.IntKind.i64 mark),
                                                        Sx.SV.sl (0 : Nat) (1 : Nat) (0 : Nat) (List.length (T13.kept (List.take (Prod.fst b) L))),
                                                        Sx.SV.lit (Go.Value.int Go.IntKind.i64 (Go.IntKind.wrap Go.IntKind.i64 ((↑(Prod.fst b) : Int) + (1 : Int))))],
                                                      [Sx.SO.row (3 : Nat) (Sx.Ty.int Go.IntKind.i64) (T13.kept (List.take (Prod.fst b) L))]) =
                                                    ([Sx.SV.imm (Sx.Ty.int Go.IntKind.i64) L,
                                                        Sx.SV.lit
                                                          (Go.Value.int Go.IntKind.i64
                                                            (Go.IntKind.wrap Go.IntKind.i64
                                                              ((64 : Int) + Int.tmod (Go.IntKind.wrap Go.IntKind.i64 (Int.tmod final (63 : Int) + (63 : Int))) (63 : Int)))),
                                                        Sx.SV.lit (Go.Value.string (Prod.snd x')), Sx.SV.lit (Go.Value.int Go.IntKind.i64 mark),
                                                        Sx.SV.sl (0 : Nat) (1 : Nat) (0 : Nat) (List.length (T13.kept (List.take (Prod.fst x') L))),
                                                        Sx.SV.lit (Go.Value.int Go.IntKind.i64 (↑(Prod.fst x') : Int))],
                                                      [Sx.SO.row (3 : Nat) (Sx.Ty.int Go.IntKind.i64) (T13.kept (List.take (Prod.fst x') L))]) ∧
                                                  (Prod.fst x' ≤ List.length L ∧
                                                      Sx.strInts (Prod.snd x') =
                                                        (if (60 : Int) ≤ mark ∧ mark ≤ (63 : Int) then [(27 : Int), (91 : Int), mark] else [(27 : Int), (91 : Int)]) ++
                                                          T13.items (List.take (Prod.fst x') L)) ∧
                                                    List.length L - Prod.fst x' < List.length L - Prod.fst b) ∧
                                              True))
                                    (Sx.br (Decidable.decide ((↑(Prod.fst b) : Int) < (8 : Int)))
                                      ((1 : Nat) ≤ (1 : Nat) ∧
                                        List.length (T13.kept (List.take (Prod.fst b) L)) = List.length (T13.kept (List.take (Prod.fst b) L)) ∧
                                          ((↑(List.length (T13.kept (List.take (Prod.fst b) L)) + (1 : Nat)) : Int) ≤ (9223372036854775807 : Int) ∧
                                              (List.length (T13.kept (List.take (Prod.fst b) L)) + (1 : Nat)) * Sx.bytesOf Go.Proofs.Try.prog (3 : Nat) ≤ (140737488355328 : Nat)) ∧
                                            (∃ (x' : Nat × ByteArray),
                                                ([Sx.SV.imm (Sx.Ty.int Go.IntKind.i64) L,
                                                        Sx.SV.lit
                                                          (Go.Value.int Go.IntKind.i64
                                                            (Go.IntKind.wrap Go.IntKind.i64
                                                              ((64 : Int) + Int.tmod (Go.IntKind.wrap Go.IntKind.i64 (Int.tmod final (63 : Int) + (63 : Int))) (63 : Int)))),
                                                        Sx.SV.lit (Go.Value.string (Prod.snd b)), Sx.SV.lit (Go.Value.int Go.IntKind.i64 mark),
                                                        Sx.SV.sl (0 : Nat) (1 : Nat) (0 : Nat) (List.length (T13.kept (List.take (Prod.fst b) L)) + (1 : Nat)),
                                                        Sx.SV.lit (Go.Value.int Go.IntKind.i64 (Go.IntKind.wrap Go.IntKind.i64 ((↑(Prod.fst b) : Int) + (1 : Int))))],
                                                      [Sx.SO.row (3 : Nat) (Sx.Ty.int Go.IntKind.i64)
                                                          (T13.kept (List.take (Prod.fst b) L) ++
                                                            [Min.min (Max.max (List.getD L (Prod.fst b) (Sx.Ty.dflt (Sx.Ty.int Go.IntKind.i64))) (-1 : Int)) (9999 : Int)])]) =
                                                    ([Sx.SV.imm (Sx.Ty.int Go.IntKind.i64) L,
                                                        Sx.SV.lit
                                                          (Go.Value.int Go.IntKind.i64
                                                            (Go.IntKind.wrap Go.IntKind.i64
                                                              ((64 : Int) + Int.tmod (Go.IntKind.wrap Go.IntKind.i64 (Int.tmod final (63 : Int) + (63 : Int))) (63 : Int)))),
                                                        Sx.SV.lit (Go.Value.string (Prod.snd x')), Sx.SV.lit (Go.Value.int Go.IntKind.i64 mark),
                                                        Sx.SV.sl (0 : Nat) (1 : Nat) (0 : Nat) (List.length (T13.kept (List.take (Prod.fst x') L))),
                                                        Sx.SV.lit (Go.Value.int Go.IntKind.i64 (↑(Prod.fst x') : Int))],
                                                      [Sx.SO.row (3 : Nat) (Sx.Ty.int Go.IntKind.i64) (T13.kept (List.take (Prod.fst x') L))]) ∧
                                                  (Prod.fst x' ≤ List.length L ∧
                                                      Sx.strInts (Prod.snd x') =
                                                        (if (60 : Int) ≤ mark ∧ mark ≤ (63 : Int) then [(27 : Int), (91 : Int), mark] else [(27 : Int), (91 : Int)]) ++
                                                          T13.items (List.take (Prod.fst x') L)) ∧
                                                    List.length L - Prod.fst x' < List.length L - Prod.fst b) ∧
                                              True)
                                      ((∃ (x' : Nat × ByteArray),
                                          ([Sx.SV.imm (Sx.Ty.int Go.IntKind.i64) L,
                                                  Sx.SV.lit
                                                    (Go.Value.int Go.IntKind.i64
                                                      (Go.IntKind.wrap Go.IntKind.i64
                                                        ((64 : Int) + Int.tmod (Go.IntKind.wrap Go.IntKind.i64 (Int.tmod final (63 : Int) + (63 : Int))) (63 : Int)))),
                                                  Sx.SV.lit (Go.Value.string (Prod.snd b)), Sx.SV.lit (Go.Value.int Go.IntKind.i64 mark),
                                                  Sx.SV.sl (0 : Nat) (1 : Nat) (0 : Nat) (List.length (T13.kept (List.take (Prod.fst b) L))),
                                                  Sx.SV.lit (Go.Value.int Go.IntKind.i64 (Go.IntKind.wrap Go.IntKind.i64 ((↑(Prod.fst b) : Int) + (1 : Int))))],
                                                [Sx.SO.row (3 : Nat) (Sx.Ty.int Go.IntKind.i64) (T13.kept (List.take (Prod.fst b) L))]) =
                                              ([Sx.SV.imm (Sx.Ty.int Go.IntKind.i64) L,
                                                  Sx.SV.lit
                                                    (Go.Value.int Go.IntKind.i64
                                                      (Go.IntKind.wrap Go.IntKind.i64
                                                        ((64 : Int) + Int.tmod (Go.IntKind.wrap Go.IntKind.i64 (Int.tmod final (63 : Int) + (63 : Int))) (63 : Int)))),
                                                  Sx.SV.lit (Go.Value.string (Prod.snd x')), Sx.SV.lit (Go.Value.int Go.IntKind.i64 mark),
                                                  Sx.SV.sl (0 : Nat) (1 : Nat) (0 : Nat) (List.length (T13.kept (List.take (Prod.fst x') L))),
                                                  Sx.SV.lit (Go.Value.int Go.IntKind.i64 (↑(Prod.fst x') : Int))],
                                                [Sx.SO.row (3 : Nat) (Sx.Ty.int Go.IntKind.i64) (T13.kept (List.take (Prod.fst x') L))]) ∧
                                            (Prod.fst x' ≤ List.length L ∧
                                                Sx.strInts (Prod.snd x') =
                                                  (if (60 : Int) ≤ mark ∧ mark ≤ (63 : Int) then [(27 : Int), (91 : Int), mark] else [(27 : Int), (91 : Int)]) ++
                                                    T13.items (List.take (Prod.fst x') L)) ∧
                                              List.length L - Prod.fst x' < List.length L - Prod.fst b) ∧
                                        True))))
                            (Sx.br ((↑(List.length L) : Int) == (1 : Int))
                              (((0 : Int) ≤ (0 : Int) ∧ (0 : Int) < (↑(List.length L) : Int)) ∧
                                (0 : Nat) < List.length L ∧
                                  Sx.br (Decidable.decide (List.getD L (0 : Nat) (Sx.Ty.dflt (Sx.Ty.int Go.IntKind.i64)) < (0 : Int)))
                                    ((1 : Nat) ≤ (1 : Nat) ∧
                                      (T13.newP = T13.newP ∧
                                          (2 : Nat) ≤ (2 : Nat) ∧
                                            T13.FeedOK T13.ps0
                                              [Prod.snd b,
                                                Sx.bsOf
                                                  [Go.IntKind.wrap Go.IntKind.u8
                                                      (Go.IntKind.wrap Go.IntKind.i64
                                                        ((64 : Int) + Int.tmod (Go.IntKind.wrap Go.IntKind.i64 (Int.tmod final (63 : Int) + (63 : Int))) (63 : Int)))]]) ∧
                                        ∀ (b_1 : T13.PS × List (Sx.Ty.den T13.aty)),
                                          T13.FeedOf T13.ps0
                                              [Prod.snd b,
                                                Sx.bsOf
                                                  [Go.IntKind.wrap Go.IntKind.u8
                                                      (Go.IntKind.wrap Go.IntKind.i64
                                                        ((64 : Int) + Int.tmod (Go.IntKind.wrap Go.IntKind.i64 (Int.tmod final (63 : Int) + (63 : Int))) (63 : Int)))]]
                                              b_1 →
                                            Sx.br ((↑(List.length (Prod.snd b_1)) : Int) == (1 : Int))
                                              (((0 : Int) ≤ (0 : Int) ∧ (0 : Int) < (↑(List.length (Prod.snd b_1)) : Int)) ∧
                                                (0 : Nat) < List.length (Prod.snd b_1) ∧
                                                  Sx.br (Prod.fst (List.getD (Prod.snd b_1) (0 : Nat) (Sx.Ty.dflt T13.aty)) == (4 : Int))
                                                    (((0 : Int) ≤ (0 : Int) ∧ (0 : Int) < (↑(List.length (Prod.snd b_1)) : Int)) ∧
                                                      (0 : Nat) < List.length (Prod.snd b_1) ∧
                                                        Sx.br (Prod.fst (Prod.snd (Prod.snd (Prod.snd (List.getD (Prod.snd b_1) (0 : Nat) (Sx.Ty.dflt T13.aty))))) == mark)
                                                          (((0 : Int) ≤ (0 : Int) ∧ (0 : Int) < (↑(List.length (Prod.snd b_1)) : Int)) ∧
                                                            (0 : Nat) < List.length (Prod.snd b_1) ∧
                                                              Sx.br
                                                                (Prod.fst (Prod.snd (Prod.snd (List.getD (Prod.snd b_1) (0 : Nat) (Sx.Ty.dflt T13.aty)))) ==
                                                                  Go.IntKind.wrap Go.IntKind.i64
                                                                    ((64 : Int) + Int.tmod (Go.IntKind.wrap Go.IntKind.i64 (Int.tmod final (63 : Int) + (63 : Int))) (63 : Int)))
                                                                (((0 : Int) ≤ (0 : Int) ∧ (0 : Int) < (↑(List.length (Prod.snd b_1)) : Int)) ∧
                                                                  (0 : Nat) < List.length (Prod.snd b_1) ∧
                                                                    Sx.br
                                                                      (Prod.fst
                                                                          (Prod.snd
                                                                            (Prod.snd (Prod.snd (Prod.snd (Prod.snd (List.getD (Prod.snd b_1) (0 : Nat) (Sx.Ty.dflt T13.aty))))))) ==
                                                                        { data := #[] })
                                                                      (((0 : Int) ≤ (0 : Int) ∧ (0 : Int) < (↑(List.length (Prod.snd b_1)) : Int)) ∧
                                                                        (0 : Nat) < List.length (Prod.snd b_1) ∧
                                                                          Prod.fst (Prod.snd (Prod.snd (Prod.snd (Prod.snd (List.getD (Prod.snd b_1) (0 : Nat) (Sx.Ty.dflt T13.aty)))))) =
                                                                              [] ∧
                                                                            Q (Sx.SV.lit (Go.Value.bool Bool.true), ([] : List Sx.SO), []))
                                                                      (Q (Sx.SV.lit (Go.Value.bool Bool.false), ([] : List Sx.SO), [])))
                                                                (Q (Sx.SV.lit (Go.Value.bool Bool.false), ([] : List Sx.SO), [])))
                                                          (Q (Sx.SV.lit (Go.Value.bool Bool.false), ([] : List Sx.SO), [])))
                                                    (Q (Sx.SV.lit (Go.Value.bool Bool.false), ([] : List Sx.SO), [])))
                                              (Q (Sx.SV.lit (Go.Value.bool Bool.false), ([] : List Sx.SO), [])))
                                    ((1 : Nat) ≤ (1 : Nat) ∧
                                      (T13.newP = T13.newP ∧
                                          (2 : Nat) ≤ (2 : Nat) ∧
                                            T13.FeedOK T13.ps0
                                              [Prod.snd b,
                                                Sx.bsOf
                                                  [Go.IntKind.wrap Go.IntKind.u8
                                                      (Go.IntKind.wrap Go.IntKind.i64
                                                        ((64 : Int) + Int.tmod (Go.IntKind.wrap Go.IntKind.i64 (Int.tmod final (63 : Int) + (63 : Int))) (63 : Int)))]]) ∧
                                        ∀ (b_1 : T13.PS × List (Sx.Ty.den T13.aty)),
                                          T13.FeedOf T13.ps0
                                              [Prod.snd b,
                                                Sx.bsOf
                                                  [Go.IntKind.wrap Go.IntKind.u8
                                                      (Go.IntKind.wrap Go.IntKind.i64
                                                        ((64 : Int) + Int.tmod (Go.IntKind.wrap Go.IntKind.i64 (Int.tmod final (63 : Int) + (63 : Int))) (63 : Int)))]]
                                              b_1 →
                                            Sx.br ((↑(List.length (Prod.snd b_1)) : Int) == (1 : Int))
                                              (((0 : Int) ≤ (0 : Int) ∧ (0 : Int) < (↑(List.length (Prod.snd b_1)) : Int)) ∧
                                                (0 : Nat) < List.length (Prod.snd b_1) ∧
                                                  Sx.br (Prod.fst (List.getD (Prod.snd b_1) (0 : Nat) (Sx.Ty.dflt T13.aty)) == (4 : Int))
                                                    (((0 : Int) ≤ (0 : Int) ∧ (0 : Int) < (↑(List.length (Prod.snd b_1)) : Int)) ∧
                                                      (0 : Nat) < List.length (Prod.snd b_1) ∧
                                                        Sx.br (Prod.fst (Prod.snd (Prod.snd (Prod.snd (List.getD (Prod.snd b_1) (0 : Nat) (Sx.Ty.dflt T13.aty))))) == mark)
                                                          (((0 : Int) ≤ (0 : Int) ∧ (0 : Int) < (↑(List.length (Prod.snd b_1)) : Int)) ∧
                                                            (0 : Nat) < List.length (Prod.snd b_1) ∧
                                                              Sx.br
                                                                (Prod.fst (Prod.snd (Prod.snd (List.getD (Prod.snd b_1) (0 : Nat) (Sx.Ty.dflt T13.aty)))) ==
                                                                  Go.IntKind.wrap Go.IntKind.i64
                                                                    ((64 : Int) + Int.tmod (Go.IntKind.wrap Go.IntKind.i64 (Int.tmod final (63 : Int) + (63 : Int))) (63 : Int)))
                                                                (((0 : Int) ≤ (0 : Int) ∧ (0 : Int) < (↑(List.length (Prod.snd b_1)) : Int)) ∧
                                                                  (0 : Nat) < List.length (Prod.snd b_1) ∧
                                                                    Sx.br
                                                                      (Prod.fst
                                                                          (Prod.snd
                                                                            (Prod.snd (Prod.snd (Prod.snd (Prod.snd (List.getD (Prod.snd b_1) (0 : Nat) (Sx.Ty.dflt T13.aty))))))) ==
                                                                        { data := #[] })
                                                                      (((0 : Int) ≤ (0 : Int) ∧ (0 : Int) < (↑(List.length (Prod.snd b_1)) : Int)) ∧
                                                                        (0 : Nat) < List.length (Prod.snd b_1) ∧
                                                                          (List.length (T13.kept (List.take (Prod.fst b) L)) =
                                                                                List.length
                                                                                  (Prod.fst
                                                                                    (Prod.snd
                                                                                      (Prod.snd (Prod.snd (Prod.snd (List.getD (Prod.snd b_1) (0 : Nat) (Sx.Ty.dflt T13.aty))))))) ∧
                                                                              List.length (T13.kept (List.take (Prod.fst b) L)) ≤ List.length (T13.kept (List.take (Prod.fst b) L)) ∧
                                                                                List.take (List.length (T13.kept (List.take (Prod.fst b) L))) (T13.kept (List.take (Prod.fst b) L)) =
                                                                                    Prod.fst
                                                                                      (Prod.snd
                                                                                        (Prod.snd (Prod.snd (Prod.snd (List.getD (Prod.snd b_1) (0 : Nat) (Sx.Ty.dflt T13.aty)))))) ∧
                                                                                  List.length
                                                                                      (Prod.fst
                                                                                        (Prod.snd
                                                                                          (Prod.snd (Prod.snd (Prod.snd (List.getD (Prod.snd b_1) (0 : Nat) (Sx.Ty.dflt T13.aty))))))) ≤
                                                                                    (1000000 : Nat)) ∧
                                                                            Q (Sx.SV.lit (Go.Value.bool Bool.true), ([] : List Sx.SO), []))
                                                                      (Q (Sx.SV.lit (Go.Value.bool Bool.false), ([] : List Sx.SO), [])))
                                                                (Q (Sx.SV.lit (Go.Value.bool Bool.false), ([] : List Sx.SO), [])))
                                                          (Q (Sx.SV.lit (Go.Value.bool Bool.false), ([] : List Sx.SO), [])))
                                                    (Q (Sx.SV.lit (Go.Value.bool Bool.false), ([] : List Sx.SO), [])))
                                              (Q (Sx.SV.lit (Go.Value.bool Bool.false), ([] : List Sx.SO), []))))
                              ((1 : Nat) ≤ (1 : Nat) ∧
                                (T13.newP = T13.newP ∧
                                    (2 : Nat) ≤ (2 : Nat) ∧
                                      T13.FeedOK T13.ps0
                                        [Prod.snd b,
                                          Sx.bsOf
                                            [Go.IntKind.wrap Go.IntKind.u8
                                                (Go.IntKind.wrap Go.IntKind.i64
                                                  ((64 : Int) + Int.tmod (Go.IntKind.wrap Go.IntKind.i64 (Int.tmod final (63 : Int) + (63 : Int))) (63 : Int)))]]) ∧
                                  ∀ (b_1 : T13.PS × List (Sx.Ty.den T13.aty)),
                                    T13.FeedOf T13.ps0
                                        [Prod.snd b,
                                          Sx.bsOf
                                            [Go.IntKind.wrap Go.IntKind.u8
                                                (Go.IntKind.wrap Go.IntKind.i64
                                                  ((64 : Int) + Int.tmod (Go.IntKind.wrap Go.IntKind.i64 (Int.tmod final (63 : Int) + (63 : Int))) (63 : Int)))]]
                                        b_1 →
                                      Sx.br ((↑(List.length (Prod.snd b_1)) : Int) == (1 : Int))
                                        (((0 : Int) ≤ (0 : Int) ∧ (0 : Int) < (↑(List.length (Prod.snd b_1)) : Int)) ∧
                                          (0 : Nat) < List.length (Prod.snd b_1) ∧
                                            Sx.br (Prod.fst (List.getD (Prod.snd b_1) (0 : Nat) (Sx.Ty.dflt T13.aty)) == (4 : Int))
                                              (((0 : Int) ≤ (0 : Int) ∧ (0 : Int) < (↑(List.length (Prod.snd b_1)) : Int)) ∧
                                                (0 : Nat) < List.length (Prod.snd b_1) ∧
                                                  Sx.br (Prod.fst (Prod.snd (Prod.snd (Prod.snd (List.getD (Prod.snd b_1) (0 : Nat) (Sx.Ty.dflt T13.aty))))) == mark)
                                                    (((0 : Int) ≤ (0 : Int) ∧ (0 : Int) < (↑(List.length (Prod.snd b_1)) : Int)) ∧
                                                      (0 : Nat) < List.length (Prod.snd b_1) ∧
                                                        Sx.br
                                                          (Prod.fst (Prod.snd (Prod.snd (List.getD (Prod.snd b_1) (0 : Nat) (Sx.Ty.dflt T13.aty)))) ==
                                                            Go.IntKind.wrap Go.IntKind.i64
                                                              ((64 : Int) + Int.tmod (Go.IntKind.wrap Go.IntKind.i64 (Int.tmod final (63 : Int) + (63 : Int))) (63 : Int)))
                                                          (((0 : Int) ≤ (0 : Int) ∧ (0 : Int) < (↑(List.length (Prod.snd b_1)) : Int)) ∧
                                                            (0 : Nat) < List.length (Prod.snd b_1) ∧
                                                              Sx.br
                                                                (Prod.fst
                                                                    (Prod.snd (Prod.snd (Prod.snd (Prod.snd (Prod.snd (List.getD (Prod.snd b_1) (0 : Nat) (Sx.Ty.dflt T13.aty))))))) ==
                                                                  { data := #[] })
                                                                (((0 : Int) ≤ (0 : Int) ∧ (0 : Int) < (↑(List.length (Prod.snd b_1)) : Int)) ∧
                                                                  (0 : Nat) < List.length (Prod.snd b_1) ∧
                                                                    (List.length (T13.kept (List.take (Prod.fst b) L)) =
                                                                          List.length
                                                                            (Prod.fst
                                                                              (Prod.snd (Prod.snd (Prod.snd (Prod.snd (List.getD (Prod.snd b_1) (0 : Nat) (Sx.Ty.dflt T13.aty))))))) ∧
                                                                        List.length (T13.kept (List.take (Prod.fst b) L)) ≤ List.length (T13.kept (List.take (Prod.fst b) L)) ∧
                                                                          List.take (List.length (T13.kept (List.take (Prod.fst b) L))) (T13.kept (List.take (Prod.fst b) L)) =
                                                                              Prod.fst
                                                                                (Prod.snd (Prod.snd (Prod.snd (Prod.snd (List.getD (Prod.snd b_1) (0 : Nat) (Sx.Ty.dflt T13.aty)))))) ∧
                                                                            List.length
                                                                                (Prod.fst
                                                                                  (Prod.snd (Prod.snd (Prod.snd (Prod.snd (List.getD (Prod.snd b_1) (0 : Nat) (Sx.Ty.dflt T13.aty))))))) ≤
                                                                              (1000000 : Nat)) ∧
                                                                      Q (Sx.SV.lit (Go.Value.bool Bool.true), ([] : List Sx.SO), []))
                                                                (Q (Sx.SV.lit (Go.Value.bool Bool.false), ([] : List Sx.SO), [])))
                                                          (Q (Sx.SV.lit (Go.Value.bool Bool.false), ([] : List Sx.SO), [])))
                                                    (Q (Sx.SV.lit (Go.Value.bool Bool.false), ([] : List Sx.SO), [])))
                                              (Q (Sx.SV.lit (Go.Value.bool Bool.false), ([] : List Sx.SO), [])))
                                        (Q (Sx.SV.lit (Go.Value.bool Bool.false), ([] : List Sx.SO), [])))))
                ((∃ (x : Nat × ByteArray),
                    ([Sx.SV.imm (Sx.Ty.int Go.IntKind.i64) L,
                            Sx.SV.lit
                              (Go.Value.int Go.IntKind.i64
                                (Go.IntKind.wrap Go.IntKind.i64 ((64 : Int) + Int.tmod (Go.IntKind.wrap Go.IntKind.i64 (Int.tmod final (63 : Int) + (63 : Int))) (63 : Int)))),
                            Sx.SV.lit (Go.Value.string { data := #[(27 : UInt8), (91 : UInt8)] }), Sx.SV.lit (Go.Value.int Go.IntKind.i64 (0 : Int)),
                            Sx.SV.sl (0 : Nat) (1 : Nat) (0 : Nat) (0 : Nat), Sx.SV.lit (Go.Value.int Go.IntKind.i64 (0 : Int))],
                          [Sx.SO.row (3 : Nat) (Sx.Ty.int Go.IntKind.i64) []]) =
                        ([Sx.SV.imm (Sx.Ty.int Go.IntKind.i64) L,
                            Sx.SV.lit
                              (Go.Value.int Go.IntKind.i64
                                (Go.IntKind.wrap Go.IntKind.i64 ((64 : Int) + Int.tmod (Go.IntKind.wrap Go.IntKind.i64 (Int.tmod final (63 : Int) + (63 : Int))) (63 : Int)))),
                            Sx.SV.lit (Go.Value.string (Prod.snd x)), Sx.SV.lit (Go.Value.int Go.IntKind.i64 (0 : Int)),
                            Sx.SV.sl (0 : Nat) (1 : Nat) (0 : Nat) (List.length (T13.kept (List.take (Prod.fst x) L))), Sx.SV.lit (Go.Value.int Go.IntKind.i64 (↑(Prod.fst x) : Int))],
                          [Sx.SO.row (3 : Nat) (Sx.Ty.int Go.IntKind.i64) (T13.kept (List.take (Prod.fst x) L))]) ∧
                      Prod.fst x ≤ List.length L ∧
                        Sx.strInts (Prod.snd x) =
                          (if (60 : Int) ≤ mark ∧ mark ≤ (63 : Int) then [(27 : Int), (91 : Int), mark] else [(27 : Int), (91 : Int)]) ++ T13.items (List.take (Prod.fst x) L)) ∧
                  ∀ (b : Nat × ByteArray),
                    Prod.fst b ≤ List.length L ∧
                        Sx.strInts (Prod.snd b) =
                          (if (60 : Int) ≤ mark ∧ mark ≤ (63 : Int) then [(27 : Int), (91 : Int), mark] else [(27 : Int), (91 : Int)]) ++ T13.items (List.take (Prod.fst b) L) →
                      Sx.br (Decidable.decide ((↑(Prod.fst b) : Int) < (↑(List.length L) : Int)))
                        (((0 : Int) ≤ (↑(Prod.fst b) : Int) ∧ (↑(Prod.fst b) : Int) < (↑(List.length L) : Int)) ∧
                          Prod.fst b < List.length L ∧
                            Sx.br (Decidable.decide ((↑(Prod.fst b) : Int) > (0 : Int)))
                              ((↑(ByteArray.size (Prod.snd b) + ByteArray.size { data := #[(59 : UInt8)] }) : Int) ≤ (9223372036854775807 : Int) ∧
                                Sx.br (Decidable.decide (List.getD L (Prod.fst b) (Sx.Ty.dflt (Sx.Ty.int Go.IntKind.i64)) ≥ (0 : Int)))
                                  (((100000 : Int) = (0 : Int) → False) ∧
                                    ((0 : Int) ≤ Int.tmod (List.getD L (Prod.fst b) (Sx.Ty.dflt (Sx.Ty.int Go.IntKind.i64))) (100000 : Int) ∧
                                        Int.tmod (List.getD L (Prod.fst b) (Sx.Ty.dflt (Sx.Ty.int Go.IntKind.i64))) (100000 : Int) ≤ (100000 : Int)) ∧
                                      (↑(ByteArray.size (Prod.snd b ++ { data := #[(59 : UInt8)] }) +
                                                ByteArray.size
                                                  (Sx.bsOf (T13.dig (Int.toNat (Int.tmod (List.getD L (Prod.fst b) (Sx.Ty.dflt (Sx.Ty.int Go.IntKind.i64))) (100000 : Int)))))) :
                                            Int) ≤
                                          (9223372036854775807 : Int) ∧
                                        Sx.br (Decidable.decide ((↑(Prod.fst b) : Int) < (8 : Int)))
                                          ((1 : Nat) ≤ (1 : Nat) ∧
                                            List.length (T13.kept (List.take (Prod.fst b) L)) = List.length (T13.kept (List.take (Prod.fst b) L)) ∧
                                              ((↑(List.length (T13.kept (List.take (Prod.fst b) L)) + (1 : Nat)) : Int) ≤ (9223372036854775807 : Int) ∧
                                                  (List.length (T13.kept (List.take (Prod.fst b) L)) + (1 : Nat)) * Sx.bytesOf Go.Proofs.Try.prog (3 : Nat) ≤ (140737488355328 : Nat)) ∧
                                                (∃ (x' : Nat × ByteArray),
                                                    ([Sx.SV.imm (Sx.Ty.int Go.IntKind.i64) L,
                                                            Sx.SV.lit
                                                              (Go.Value.int Go.IntKind.i64
                                                                (Go.IntKind.wrap Go.IntKind.i64
                                                                  ((64 : Int) + Int.tmod (Go.IntKind.wrap Go.IntKind.i64 (Int.tmod final (63 : Int) + (63 : Int))) (63 : Int)))),
                                                            Sx.SV.lit
                                                              (Go.Value.string
                                                                (Prod.snd b ++ { data := #[(59 : UInt8)] } ++
                                                                  Sx.bsOf
                                                                    (T13.dig (Int.toNat (Int.tmod (List.getD L (Prod.fst b) (Sx.Ty.dflt (Sx.Ty.int Go.IntKind.i64))) (100000 : Int)))))),
                                                            Sx.SV.lit (Go.Value.int Go.IntKind.i64 (0 : Int)),
                                                            Sx.SV.sl (0 : Nat) (1 : Nat) (0 : Nat) (List.length (T13.kept (List.take (Prod.fst b) L)) + (1 : Nat)),
                                                            Sx.SV.lit (Go.Value.int Go.IntKind.i64 (Go.IntKind.wrap Go.IntKind.i64 ((↑(Prod.fst b) : Int) + (1 : Int))))],
                                                          [Sx.SO.row (3 : Nat) (Sx.Ty.int Go.IntKind.i64)
                                                              (T13.kept (List.take (Prod.fst b) L) ++
                                                                [Min.min (Max.max (Int.tmod (List.getD L (Prod.fst b) (Sx.Ty.dflt (Sx.Ty.int Go.IntKind.i64))) (100000 : Int)) (-1 : Int))
                                                                    (9999 : Int)])]) =
                                                        ([Sx.SV.imm (Sx.Ty.int Go.IntKind.i64) L,
                                                            Sx.SV.lit
                                                              (Go.Value.int Go.IntKind.i64
                                                                (Go.IntKind.wrap Go.IntKind.i64
                                                                  ((64 : Int) + Int.tmod (Go.IntKind.wrap Go.IntKind.i64 (Int.tmod final (63 : Int) + (63 : Int))) (63 : Int)))),
                                                            Sx.SV.lit (Go.Value.string (Prod.snd x')), Sx.SV.lit (Go.Value.int Go.IntKind.i64 (0 : Int)),
                                                            Sx.SV.sl (0 : Nat) (1 : Nat) (0 : Nat) (List.length (T13.kept (List.take (Prod.fst x') L))),
                                                            Sx.SV.lit (Go.Value.int Go.IntKind.i64 (↑(Prod.fst x') : Int))],
                                                          [Sx.SO.row (3 : Nat) (Sx.Ty.int Go.IntKind.i64) (T13.kept (List.take (Prod.fst x') L))]) ∧
                                                      (Prod.fst x' ≤ List.length L ∧
                                                          Sx.strInts (Prod.snd x') =
                                                            (if (60 : Int) ≤ mark ∧ mark ≤ (63 : Int) then [(27 : Int), (91 : Int), mark] else [(27 : Int), (91 : Int)]) ++
                                                              T13.items (List.take (Prod.fst x') L)) ∧
                                                        List.length L - Prod.fst x' < List.length L - Prod.fst b) ∧
                                                  True)
                                          ((∃ (x' : Nat × ByteArray),
                                              ([Sx.SV.imm (Sx.Ty.int Go.IntKind.i64) L,
                                                      Sx.SV.lit
                                                        (Go.Value.int Go.IntKind.i64
                                                          (Go.IntKind.wrap Go.IntKind.i64
                                                            ((64 : Int) + Int.tmod (Go.IntKind.wrap Go.IntKind.i64 (Int.tmod final (63 : Int) + (63 : Int))) (63 : Int)))),
                                                      Sx.SV.lit
                                                        (Go.Value.string
                                                          (Prod.snd b ++ { data := #[(59 : UInt8)] } ++
                                                            Sx.bsOf (T13.dig (Int.toNat (Int.tmod (List.getD L (Prod.fst b) (Sx.Ty.dflt (Sx.Ty.int Go.IntKind.i64))) (100000 : Int)))))),
                                                      Sx.SV.lit (Go.Value.int Go.IntKind.i64 (0 : Int)),
                                                      Sx.SV.sl (0 : Nat) (1 : Nat) (0 : Nat) (List.length (T13.kept (List.take (Prod.fst b) L))),
                                                      Sx.SV.lit (Go.Value.int Go.IntKind.i64 (Go.IntKind.wrap Go.IntKind.i64 ((↑(Prod.fst b) : Int) + (1 : Int))))],
                                                    [Sx.SO.row (3 : Nat) (Sx.Ty.int Go.IntKind.i64) (T13.kept (List.take (Prod.fst b) L))]) =
                                                  ([Sx.SV.imm (Sx.Ty.int Go.IntKind.i64) L,
                                                      Sx.SV.lit
                                                        (Go.Value.int Go.IntKind.i64
                                                          (Go.IntKind.wrap Go.IntKind.i64
                                                            ((64 : Int) + Int.tmod (Go.IntKind.wrap Go.IntKind.i64 (Int.tmod final (63 : Int) + (63 : Int))) (63 : Int)))),
                                                      Sx.SV.lit (Go.Value.string (Prod.snd x')), Sx.SV.lit (Go.Value.int Go.IntKind.i64 (0 : Int)),
                                                      Sx.SV.sl (0 : Nat) (1 : Nat) (0 : Nat) (List.length (T13.kept (List.take (Prod.fst x') L))),
                                                      Sx.SV.lit (Go.Value.int Go.IntKind.i64 (↑(Prod.fst x') : Int))],
                                                    [Sx.SO.row (3 : Nat) (Sx.Ty.int Go.IntKind.i64) (T13.kept (List.take (Prod.fst x') L))]) ∧
                                                (Prod.fst x' ≤ List.length L ∧
                                                    Sx.strInts (Prod.snd x') =
                                                      (if (60 : Int) ≤ mark ∧ mark ≤ (63 : Int) then [(27 : Int), (91 : Int), mark] else [(27 : Int), (91 : Int)]) ++
                                                        T13.items (List.take (Prod.fst x') L)) ∧
                                                  List.length L - Prod.fst x' < List.length L - Prod.fst b) ∧
                                            True))
                                  (Sx.br (Decidable.decide ((↑(Prod.fst b) : Int) < (8 : Int)))
                                    ((1 : Nat) ≤ (1 : Nat) ∧
                                      List.length (T13.kept (List.take (Prod.fst b) L)) = List.length (T13.kept (List.take (Prod.fst b) L)) ∧
                                        ((↑(List.length (T13.kept (List.take (Prod.fst b) L)) + (1 : Nat)) : Int) ≤ (9223372036854775807 : Int) ∧
                                            (List.length (T13.kept (List.take (Prod.fst b) L)) + (1 : Nat)) * Sx.bytesOf Go.Proofs.Try.prog (3 : Nat) ≤ (140737488355328 : Nat)) ∧
                                          (∃ (x' : Nat × ByteArray),
                                              ([Sx.SV.imm (Sx.Ty.int Go.IntKind.i64) L,
                                                      Sx.SV.lit
                                                        (Go.Value.int Go.IntKind.i64
                                                          (Go.IntKind.wrap Go.IntKind.i64
                                                            ((64 : Int) + Int.tmod (Go.IntKind.wrap Go.IntKind.i64 (Int.tmod final (63 : Int) + (63 : Int))) (63 : Int)))),
                                                      Sx.SV.lit (Go.Value.string (Prod.snd b ++ { data := #[(59 : UInt8)] })), Sx.SV.lit (Go.Value.int Go.IntKind.i64 (0 : Int)),
                                                      Sx.SV.sl (0 : Nat) (1 : Nat) (0 : Nat) (List.length (T13.kept (List.take (Prod.fst b) L)) + (1 : Nat)),
                                                      Sx.SV.lit (Go.Value.int Go.IntKind.i64 (Go.IntKind.wrap Go.IntKind.i64 ((↑(Prod.fst b) : Int) + (1 : Int))))],
                                                    [Sx.SO.row (3 : Nat) (Sx.Ty.int Go.IntKind.i64)
                                                        (T13.kept (List.take (Prod.fst b) L) ++
                                                          [Min.min (Max.max (List.getD L (Prod.fst b) (Sx.Ty.dflt (Sx.Ty.int Go.IntKind.i64))) (-1 : Int)) (9999 : Int)])]) =
                                                  ([Sx.SV.imm (Sx.Ty.int Go.IntKind.i64) L,
                                                      Sx.SV.lit
                                                        (Go.Value.int Go.IntKind.i64
                                                          (Go.IntKind.wrap Go.IntKind.i64
                                                            ((64 : Int) + Int.tmod (Go.IntKind.wrap Go.IntKind.i64 (Int.tmod final (63 : Int) + (63 : Int))) (63 : Int)))),
                                                      Sx.SV.lit (Go.Value.string (Prod.snd x')), Sx.SV.lit (Go.Value.int Go.IntKind.i64 (0 : Int)),
                                                      Sx.SV.sl (0 : Nat) (1 : Nat) (0 : Nat) (List.length (T13.kept (List.take (Prod.fst x') L))),
                                                      Sx.SV.lit (Go.Value.int Go.IntKind.i64 (↑(Prod.fst x') : Int))],
                                                    [Sx.SO.row (3 : Nat) (Sx.Ty.int Go.IntKind.i64) (T13.kept (List.take (Prod.fst x') L))]) ∧
                                                (Prod.fst x' ≤ List.length L ∧
                                                    Sx.strInts (Prod.snd x') =
                                                      (if (60 : Int) ≤ mark ∧ mark ≤ (63 : Int) then [(27 : Int), (91 : Int), mark] else [(27 : Int), (91 : Int)]) ++
                                                        T13.items (List.take (Prod.fst x') L)) ∧
                                                  List.length L - Prod.fst x' < List.length L - Prod.fst b) ∧
                                            True)
                                    ((∃ (x' : Nat × ByteArray),
                                        ([Sx.SV.imm (Sx.Ty.int Go.IntKind.i64) L,
                                                Sx.SV.lit
                                                  (Go.Value.int Go.IntKind.i64
                                                    (Go.IntKind.wrap Go.IntKind.i64
                                                      ((64 : Int) + Int.tmod (Go.IntKind.wrap Go.IntKind.i64 (Int.tmod final (63 : Int) + (63 : Int))) (63 : Int)))),
                                                Sx.SV.lit (Go.Value.string (Prod.snd b ++ { data := #[(59 : UInt8)] })), Sx.SV.lit (Go.Value.int Go.IntKind.i64 (0 : Int)),
                                                Sx.SV.sl (0 : Nat) (1 : Nat) (0 : Nat) (List.length (T13.kept (List.take (Prod.fst b) L))),
                                                Sx.SV.lit (Go.Value.int Go.IntKind.i64 (Go.IntKind.wrap Go.IntKind.i64 ((↑(Prod.fst b) : Int) + (1 : Int))))],
                                              [Sx.SO.row (3 : Nat) (Sx.Ty.int Go.IntKind.i64) (T13.kept (List.take (Prod.fst b) L))]) =
                                            ([Sx.SV.imm (Sx.Ty.int Go.IntKind.i64) L,
                                                Sx.SV.lit
                                                  (Go.Value.int Go.IntKind.i64
                                                    (Go.IntKind.wrap Go.IntKind.i64
                                                      ((64 : Int) + Int.tmod (Go.IntKind.wrap Go.IntKind.i64 (Int.tmod final (63 : Int) + (63 : Int))) (63 : Int)))),
                                                Sx.SV.lit (Go.Value.string (Prod.snd x')), Sx.SV.lit (Go.Value.int Go.IntKind.i64 (0 : Int)),
                                                Sx.SV.sl (0 : Nat) (1 : Nat) (0 : Nat) (List.length (T13.kept (List.take (Prod.fst x') L))),
                                                Sx.SV.lit (Go.Value.int Go.IntKind.i64 (↑(Prod.fst x') : Int))],
                                              [Sx.SO.row (3 : Nat) (Sx.Ty.int Go.IntKind.i64) (T13.kept (List.take (Prod.fst x') L))]) ∧
                                          (Prod.fst x' ≤ List.length L ∧
                                              Sx.strInts (Prod.snd x') =
                                                (if (60 : Int) ≤ mark ∧ mark ≤ (63 : Int) then [(27 : Int), (91 : Int), mark] else [(27 : Int), (91 : Int)]) ++
                                                  T13.items (List.take (Prod.fst x') L)) ∧
                                            List.length L - Prod.fst x' < List.length L - Prod.fst b) ∧
                                      True)))
                              (Sx.br (Decidable.decide (List.getD L (Prod.fst b) (Sx.Ty.dflt (Sx.Ty.int Go.IntKind.i64)) ≥ (0 : Int)))
                                (((100000 : Int) = (0 : Int) → False) ∧
                                  ((0 : Int) ≤ Int.tmod (List.getD L (Prod.fst b) (Sx.Ty.dflt (Sx.Ty.int Go.IntKind.i64))) (100000 : Int) ∧
                                      Int.tmod (List.getD L (Prod.fst b) (Sx.Ty.dflt (Sx.Ty.int Go.IntKind.i64))) (100000 : Int) ≤ (100000 : Int)) ∧
                                    (↑(ByteArray.size (Prod.snd b) +
                                              ByteArray.size
                                                (Sx.bsOf (T13.dig (Int.toNat (Int.tmod (List.getD L (Prod.fst b) (Sx.Ty.dflt (Sx.Ty.int Go.IntKind.i64))) (100000 : Int)))))) :
                                          Int) ≤
                                        (9223372036854775807 : Int) ∧
                                      Sx.br (Decidable.decide ((↑(Prod.fst b) : Int) < (8 : Int)))
                                        ((1 : Nat) ≤ (1 : Nat) ∧
                                          List.length (T13.kept (List.take (Prod.fst b) L)) = List.length (T13.kept (List.take (Prod.fst b) L)) ∧
                                            ((↑(List.length (T13.kept (List.take (Prod.fst b) L)) + (1 : Nat)) : Int) ≤ (9223372036854775807 : Int) ∧
                                                (List.length (T13.kept (List.take (Prod.fst b) L)) + (1 : Nat)) * Sx.bytesOf Go.Proofs.Try.prog (3 : Nat) ≤ (140737488355328 : Nat)) ∧
                                              (∃ (x' : Nat × ByteArray),
                                                  ([Sx.SV.imm (Sx.Ty.int Go.IntKind.i64) L,
                                                          Sx.SV.lit
                                                            (Go.Value.int Go.IntKind.i64
                                                              (Go.IntKind.wrap Go.IntKind.i64
                                                                ((64 : Int) + Int.tmod (Go.IntKind.wrap Go.IntKind.i64 (Int.tmod final (63 : Int) + (63 : Int))) (63 : Int)))),
                                                          Sx.SV.lit
                                                            (Go.Value.string
                                                              (Prod.snd b ++
                                                                Sx.bsOf
                                                                  (T13.dig (Int.toNat (Int.tmod (List.getD L (Prod.fst b) (Sx.Ty.dflt (Sx.Ty.int Go.IntKind.i64))) (100000 : Int)))))),
                                                          Sx.SV.lit (Go.Value.int Go.IntKind.i64 (0 : Int)),
                                                          Sx.SV.sl (0 : Nat) (1 : Nat) (0 : Nat) (List.length (T13.kept (List.take (Prod.fst b) L)) + (1 : Nat)),
                                                          Sx.SV.lit (Go.Value.int Go.IntKind.i64 (Go.IntKind.wrap Go.IntKind.i64 ((↑(Prod.fst b) : Int) + (1 : Int))))],
                                                        [Sx.SO.row (3 : Nat) (Sx.Ty.int Go.IntKind.i64)
                                                            (T13.kept (List.take (Prod.fst b) L) ++
                                                              [Min.min (Max.max (Int.tmod (List.getD L (Prod.fst b) (Sx.Ty.dflt (Sx.Ty.int Go.IntKind.i64))) (100000 : Int)) (-1 : Int))
                                                                  (9999 : Int)])]) =
                                                      ([Sx.SV.imm (Sx.Ty.int Go.IntKind.i64) L,
                                                          Sx.SV.lit
                                                            (Go.Value.int Go.IntKind.i64
                                                              (Go.IntKind.wrap Go.IntKind.i64
                                                                ((64 : Int) + Int.tmod (Go.IntKind.wrap Go.IntKind.i64 (Int.tmod final (63 : Int) + (63 : Int))) (63 : Int)))),
                                                          Sx.SV.lit (Go.Value.string (Prod.snd x')), Sx.SV.lit (Go.Value.int Go.IntKind.i64 (0 : Int)),
                                                          Sx.SV.sl (0 : Nat) (1 : Nat) (0 : Nat) (List.length (T13.kept (List.take (Prod.fst x') L))),
                                                          Sx.SV.lit (Go.Value.int Go.IntKind.i64 (↑(Prod.fst x') : Int))],
                                                        [Sx.SO.row (3 : Nat) (Sx.Ty.int Go.IntKind.i64) (T13.kept (List.take (Prod.fst x') L))]) ∧
                                                    (Prod.fst x' ≤ List.length L ∧
                                                        Sx.strInts (Prod.snd x') =
                                                          (if (60 : Int) ≤ mark ∧ mark ≤ (63 : Int) then [(27 : Int), (91 : Int), mark] else [(27 : Int), (91 : Int)]) ++
                                                            T13.items (List.take (Prod.fst x') L)) ∧
                                                      List.length L - Prod.fst x' < List.length L - Prod.fst b) ∧
                                                True)
                                        ((∃ (x' : Nat × ByteArray),
                                            ([Sx.SV.imm (Sx.Ty.int Go.IntKind.i64) L,
                                                    Sx.SV.lit
                                                      (Go.Value.int Go.IntKind.i64
                                                        (Go.IntKind.wrap Go.IntKind.i64
                                                          ((64 : Int) + Int.tmod (Go.IntKind.wrap Go.IntKind.i64 (Int.tmod final (63 : Int) + (63 : Int))) (63 : Int)))),
                                                    Sx.SV.lit
                                                      (Go.Value.string
                                                        (Prod.snd b ++
                                                          Sx.bsOf (T13.dig (Int.toNat (Int.tmod (List.getD L (Prod.fst b) (Sx.Ty.dflt (Sx.Ty.int Go.IntKind.i64))) (100000 : Int)))))),
                                                    Sx.SV.lit (Go.Value.int Go.IntKind.i64 (0 : Int)),
                                                    Sx.SV.sl (0 : Nat) (1 : Nat) (0 : Nat) (List.length (T13.kept (List.take (Prod.fst b) L))),
                                                    Sx.SV.lit (Go.Value.int Go.IntKind.i64 (Go.IntKind.wrap Go.IntKind.i64 ((↑(Prod.fst b) : Int) + (1 : Int))))],
                                                  [Sx.SO.row (3 : Nat) (Sx.Ty.int Go.IntKind.i64) (T13.kept (List.take (Prod.fst b) L))]) =
                                                ([Sx.SV.imm (Sx.Ty.int Go.IntKind.i64) L,
                                                    Sx.SV.lit
                                                      (Go.Value.int Go.IntKind.i64
                                                        (Go.IntKind.wrap Go.IntKind.i64
                                                          ((64 : Int) + Int.tmod (Go.IntKind.wrap Go.IntKind.i64 (Int.tmod final (63 : Int) + (63 : Int))) (63 : Int)))),
                                                    Sx.SV.lit (Go.Value.string (Prod.snd x')), Sx.SV.lit (Go.Value.int Go.IntKind.i64 (0 : Int)),
                                                    Sx.SV.sl (0 : Nat) (1 : Nat) (0 : Nat) (List.length (T13.kept (List.take (Prod.fst x') L))),
                                                    Sx.SV.lit (Go.Value.int Go.IntKind.i64 (↑(Prod.fst x') : Int))],
                                                  [Sx.SO.row (3 : Nat) (Sx.Ty.int Go.IntKind.i64) (T13.kept (List.take (Prod.fst x') L))]) ∧
                                              (Prod.fst x' ≤ List.length L ∧
                                                  Sx.strInts (Prod.snd x') =
                                                    (if (60 : Int) ≤ mark ∧ mark ≤ (63 : Int) then [(27 : Int), (91 : Int), mark] else [(27 : Int), (91 : Int)]) ++
                                                      T13.items (List.take (Prod.fst x') L)) ∧
                                                List.length L - Prod.fst x' < List.length L - Prod.fst b) ∧
                                          True))
                                (Sx.br (Decidable.decide ((↑(Prod.fst b) : Int) < (8 : Int)))
                                  ((1 : Nat) ≤ (1 : Nat) ∧
                                    List.length (T13.kept (List.take (Prod.fst b) L)) = List.length (T13.kept (List.take (Prod.fst b) L)) ∧
                                      ((↑(List.length (T13.kept (List.take (Prod.fst b) L)) + (1 : Nat)) : Int) ≤ (9223372036854775807 : Int) ∧
                                          (List.length (T13.kept (List.take (Prod.fst b) L)) + (1 : Nat)) * Sx.bytesOf Go.Proofs.Try.prog (3 : Nat) ≤ (140737488355328 : Nat)) ∧
                                        (∃ (x' : Nat × ByteArray),
                                            ([Sx.SV.imm (Sx.Ty.int Go.IntKind.i64) L,
                                                    Sx.SV.lit
                                                      (Go.Value.int Go.IntKind.i64
                                                        (Go.IntKind.wrap Go.IntKind.i64
                                                          ((64 : Int) + Int.tmod (Go.IntKind.wrap Go.IntKind.i64 (Int.tmod final (63 : Int) + (63 : Int))) (63 : Int)))),
                                                    Sx.SV.lit (Go.Value.string (Prod.snd b)), Sx.SV.lit (Go.Value.int Go.IntKind.i64 (0 : Int)),
                                                    Sx.SV.sl (0 : Nat) (1 : Nat) (0 : Nat) (List.length (T13.kept (List.take (Prod.fst b) L)) + (1 : Nat)),
                                                    Sx.SV.lit (Go.Value.int Go.IntKind.i64 (Go.IntKind.wrap Go.IntKind.i64 ((↑(Prod.fst b) : Int) + (1 : Int))))],
                                                  [Sx.SO.row (3 : Nat) (Sx.Ty.int Go.IntKind.i64)
                                                      (T13.kept (List.take (Prod.fst b) L) ++
                                                        [Min.min (Max.max (List.getD L (Prod.fst b) (Sx.Ty.dflt (Sx.Ty.int Go.IntKind.i64))) (-1 : Int)) (9999 : Int)])]) =
                                                ([Sx.SV.imm (Sx.Ty.int Go.IntKind.i64) L,
                                                    Sx.SV.lit
                                                      (Go.Value.int Go.IntKind.i64
                                                        (Go.IntKind.wrap Go.IntKind.i64
                                                          ((64 : Int) + Int.tmod (Go.IntKind.wrap Go.IntKind.i64 (Int.tmod final (63 : Int) + (63 : Int))) (63 : Int)))),
                                                    Sx.SV.lit (Go.Value.string (Prod.snd x')), Sx.SV.lit (Go.Value.int Go.IntKind.i64 (0 : Int)),
                                                    Sx.SV.sl (0 : Nat) (1 : Nat) (0 : Nat) (List.length (T13.kept (List.take (Prod.fst x') L))),
                                                    Sx.SV.lit (Go.Value.int Go.IntKind.i64 (↑(Prod.fst x') : Int))],
                                                  [Sx.SO.row (3 : Nat) (Sx.Ty.int Go.IntKind.i64) (T13.kept (List.take (Prod.fst x') L))]) ∧
                                              (Prod.fst x' ≤ List.length L ∧
                                                  Sx.strInts (Prod.snd x') =
                                                    (if (60 : Int) ≤ mark ∧ mark ≤ (63 : Int) then [(27 : Int), (91 : Int), mark] else [(27 : Int), (91 : Int)]) ++
                                                      T13.items (List.take (Prod.fst x') L)) ∧
                                                List.length L - Prod.fst x' < List.length L - Prod.fst b) ∧
                                          True)
                                  ((∃ (x' : Nat × ByteArray),
                                      ([Sx.SV.imm (Sx.Ty.int Go.IntKind.i64) L,
                                              Sx.SV.lit
                                                (Go.Value.int Go.IntKind.i64
                                                  (Go.IntKind.wrap Go.IntKind.i64
                                                    ((64 : Int) + Int.tmod (Go.IntKind.wrap Go.IntKind.i64 (Int.tmod final (63 : Int) + (63 : Int))) (63 : Int)))),
                                              Sx.SV.lit (Go.Value.string (Prod.snd b)), Sx.SV.lit (Go.Value.int Go.IntKind.i64 (0 : Int)),
                                              Sx.SV.sl (0 : Nat) (1 : Nat) (0 : Nat) (List.length (T13.kept (List.take (Prod.fst b) L))),
                                              Sx.SV.lit (Go.Value.int Go.IntKind.i64 (Go.IntKind.wrap Go.IntKind.i64 ((↑(Prod.fst b) : Int) + (1 : Int))))],
                                            [Sx.SO.row (3 : Nat) (Sx.Ty.int Go.IntKind.i64) (T13.kept (List.take (Prod.fst b) L))]) =
                                          ([Sx.SV.imm (Sx.Ty.int Go.IntKind.i64) L,
                                              Sx.SV.lit
                                                (Go.Value.int Go.IntKind.i64
                                                  (Go.IntKind.wrap Go.IntKind.i64
                                                    ((64 : Int) + Int.tmod (Go.IntKind.wrap Go.IntKind.i64 (Int.tmod final (63 : Int) + (63 : Int))) (63 : Int)))),
                                              Sx.SV.lit (Go.Value.string (Prod.snd x')), Sx.SV.lit (Go.Value.int Go.IntKind.i64 (0 : Int)),
                                              Sx.SV.sl (0 : Nat) (1 : Nat) (0 : Nat) (List.length (T13.kept (List.take (Prod.fst x') L))),
                                              Sx.SV.lit (Go.Value.int Go.IntKind.i64 (↑(Prod.fst x') : Int))],
                                            [Sx.SO.row (3 : Nat) (Sx.Ty.int Go.IntKind.i64) (T13.kept (List.take (Prod.fst x') L))]) ∧
                                        (Prod.fst x' ≤ List.length L ∧
                                            Sx.strInts (Prod.snd x') =
                                              (if (60 : Int) ≤ mark ∧ mark ≤ (63 : Int) then [(27 : Int), (91 : Int), mark] else [(27 : Int), (91 : Int)]) ++
                                                T13.items (List.take (Prod.fst x') L)) ∧
                                          List.length L - Prod.fst x' < List.length L - Prod.fst b) ∧
                                    True))))
                        (Sx.br ((↑(List.length L) : Int) == (1 : Int))
                          (((0 : Int) ≤ (0 : Int) ∧ (0 : Int) < (↑(List.length L) : Int)) ∧
                            (0 : Nat) < List.length L ∧
                              Sx.br (Decidable.decide (List.getD L (0 : Nat) (Sx.Ty.dflt (Sx.Ty.int Go.IntKind.i64)) < (0 : Int)))
                                ((1 : Nat) ≤ (1 : Nat) ∧
                                  (T13.newP = T13.newP ∧
                                      (2 : Nat) ≤ (2 : Nat) ∧
                                        T13.FeedOK T13.ps0
                                          [Prod.snd b,
                                            Sx.bsOf
                                              [Go.IntKind.wrap Go.IntKind.u8
                                                  (Go.IntKind.wrap Go.IntKind.i64
                                                    ((64 : Int) + Int.tmod (Go.IntKind.wrap Go.IntKind.i64 (Int.tmod final (63 : Int) + (63 : Int))) (63 : Int)))]]) ∧
                                    ∀ (b_1 : T13.PS × List (Sx.Ty.den T13.aty)),
                                      T13.FeedOf T13.ps0
                                          [Prod.snd b,
                                            Sx.bsOf
                                              [Go.IntKind.wrap Go.IntKind.u8
                                                  (Go.IntKind.wrap Go.IntKind.i64
                                                    ((64 : Int) + Int.tmod (Go.IntKind.wrap Go.IntKind.i64 (Int.tmod final (63 : Int) + (63 : Int))) (63 : Int)))]]
                                          b_1 →
                                        Sx.br ((↑(List.length (Prod.snd b_1)) : Int) == (1 : Int))
                                          (((0 : Int) ≤ (0 : Int) ∧ (0 : Int) < (↑(List.length (Prod.snd b_1)) : Int)) ∧
                                            (0 : Nat) < List.length (Prod.snd b_1) ∧
                                              Sx.br (Prod.fst (List.getD (Prod.snd b_1) (0 : Nat) (Sx.Ty.dflt T13.aty)) == (4 : Int))
                                                (((0 : Int) ≤ (0 : Int) ∧ (0 : Int) < (↑(List.length (Prod.snd b_1)) : Int)) ∧
                                                  (0 : Nat) < List.length (Prod.snd b_1) ∧
                                                    Sx.br (Prod.fst (Prod.snd (Prod.snd (Prod.snd (List.getD (Prod.snd b_1) (0 : Nat) (Sx.Ty.dflt T13.aty))))) == (0 : Int))
                                                      (((0 : Int) ≤ (0 : Int) ∧ (0 : Int) < (↑(List.length (Prod.snd b_1)) : Int)) ∧
                                                        (0 : Nat) < List.length (Prod.snd b_1) ∧
                                                          Sx.br
                                                            (Prod.fst (Prod.snd (Prod.snd (List.getD (Prod.snd b_1) (0 : Nat) (Sx.Ty.dflt T13.aty)))) ==
                                                              Go.IntKind.wrap Go.IntKind.i64
                                                                ((64 : Int) + Int.tmod (Go.IntKind.wrap Go.IntKind.i64 (Int.tmod final (63 : Int) + (63 : Int))) (63 : Int)))
                                                            (((0 : Int) ≤ (0 : Int) ∧ (0 : Int) < (↑(List.length (Prod.snd b_1)) : Int)) ∧
                                                              (0 : Nat) < List.length (Prod.snd b_1) ∧
                                                                Sx.br
                                                                  (Prod.fst
                                                                      (Prod.snd (Prod.snd (Prod.snd (Prod.snd (Prod.snd (List.getD (Prod.snd b_1) (0 : Nat) (Sx.Ty.dflt T13.aty))))))) ==
                                                                    { data := #[] })
                                                                  (((0 : Int) ≤ (0 : Int) ∧ (0 : Int) < (↑(List.length (Prod.snd b_1)) : Int)) ∧
                                                                    (0 : Nat) < List.length (Prod.snd b_1) ∧
                                                                      Prod.fst (Prod.snd (Prod.snd (Prod.snd (Prod.snd (List.getD (Prod.snd b_1) (0 : Nat) (Sx.Ty.dflt T13.aty)))))) =
                                                                          [] ∧
                                                                        Q (Sx.SV.lit (Go.Value.bool Bool.true), ([] : List Sx.SO), []))
                                                                  (Q (Sx.SV.lit (Go.Value.bool Bool.false), ([] : List Sx.SO), [])))
                                                            (Q (Sx.SV.lit (Go.Value.bool Bool.false), ([] : List Sx.SO), [])))
                                                      (Q (Sx.SV.lit (Go.Value.bool Bool.false), ([] : List Sx.SO), [])))
                                                (Q (Sx.SV.lit (Go.Value.bool Bool.false), ([] : List Sx.SO), [])))
                                          (Q (Sx.SV.lit (Go.Value.bool Bool.false), ([] : List Sx.SO), [])))
                                ((1 : Nat) ≤ (1 : Nat) ∧
                                  (T13.newP = T13.newP ∧
                                      (2 : Nat) ≤ (2 : Nat) ∧
                                        T13.FeedOK T13.ps0
                                          [Prod.snd b,
                                            Sx.bsOf
                                              [Go.IntKind.wrap Go.IntKind.u8
                                                  (Go.IntKind.wrap Go.IntKind.i64
                                                    ((64 : Int) + Int.tmod (Go.IntKind.wrap Go.IntKind.i64 (Int.tmod final (63 : Int) + (63 : Int))) (63 : Int)))]]) ∧
                                    ∀ (b_1 : T13.PS × List (Sx.Ty.den T13.aty)),
                                      T13.FeedOf T13.ps0
                                          [Prod.snd b,
                                            Sx.bsOf
                                              [Go.IntKind.wrap Go.IntKind.u8
                                                  (Go.IntKind.wrap Go.IntKind.i64
                                                    ((64 : Int) + Int.tmod (Go.IntKind.wrap Go.IntKind.i64 (Int.tmod final (63 : Int) + (63 : Int))) (63 : Int)))]]
                                          b_1 →
                                        Sx.br ((↑(List.length (Prod.snd b_1)) : Int) == (1 : Int))
                                          (((0 : Int) ≤ (0 : Int) ∧ (0 : Int) < (↑(List.length (Prod.snd b_1)) : Int)) ∧
                                            (0 : Nat) < List.length (Prod.snd b_1) ∧
                                              Sx.br (Prod.fst (List.getD (Prod.snd b_1) (0 : Nat) (Sx.Ty.dflt T13.aty)) == (4 : Int))
                                                (((0 : Int) ≤ (0 : Int) ∧ (0 : Int) < (↑(List.length (Prod.snd b_1)) : Int)) ∧
                                                  (0 : Nat) < List.length (Prod.snd b_1) ∧
                                                    Sx.br (Prod.fst (Prod.snd (Prod.snd (Prod.snd (List.getD (Prod.snd b_1) (0 : Nat) (Sx.Ty.dflt T13.aty))))) == (0 : Int))
                                                      (((0 : Int) ≤ (0 : Int) ∧ (0 : Int) < (↑(List.length (Prod.snd b_1)) : Int)) ∧
                                                        (0 : Nat) < List.length (Prod.snd b_1) ∧
                                                          Sx.br
                                                            (Prod.fst (Prod.snd (Prod.snd (List.getD (Prod.snd b_1) (0 : Nat) (Sx.Ty.dflt T13.aty)))) ==
                                                              Go.IntKind.wrap Go.IntKind.i64
                                                                ((64 : Int) + Int.tmod (Go.IntKind.wrap Go.IntKind.i64 (Int.tmod final (63 : Int) + (63 : Int))) (63 : Int)))
                                                            (((0 : Int) ≤ (0 : Int) ∧ (0 : Int) < (↑(List.length (Prod.snd b_1)) : Int)) ∧
                                                              (0 : Nat) < List.length (Prod.snd b_1) ∧
                                                                Sx.br
                                                                  (Prod.fst
                                                                      (Prod.snd (Prod.snd (Prod.snd (Prod.snd (Prod.snd (List.getD (Prod.snd b_1) (0 : Nat) (Sx.Ty.dflt T13.aty))))))) ==
                                                                    { data := #[] })
                                                                  (((0 : Int) ≤ (0 : Int) ∧ (0 : Int) < (↑(List.length (Prod.snd b_1)) : Int)) ∧
                                                                    (0 : Nat) < List.length (Prod.snd b_1) ∧
                                                                      (List.length (T13.kept (List.take (Prod.fst b) L)) =
                                                                            List.length
                                                                              (Prod.fst
                                                                                (Prod.snd (Prod.snd (Prod.snd (Prod.snd (List.getD (Prod.snd b_1) (0 : Nat) (Sx.Ty.dflt T13.aty))))))) ∧
                                                                          List.length (T13.kept (List.take (Prod.fst b) L)) ≤ List.length (T13.kept (List.take (Prod.fst b) L)) ∧
                                                                            List.take (List.length (T13.kept (List.take (Prod.fst b) L))) (T13.kept (List.take (Prod.fst b) L)) =
                                                                                Prod.fst
                                                                                  (Prod.snd (Prod.snd (Prod.snd (Prod.snd (List.getD (Prod.snd b_1) (0 : Nat) (Sx.Ty.dflt T13.aty)))))) ∧
                                                                              List.length
                                                                                  (Prod.fst
                                                                                    (Prod.snd
                                                                                      (Prod.snd (Prod.snd (Prod.snd (List.getD (Prod.snd b_1) (0 : Nat) (Sx.Ty.dflt T13.aty))))))) ≤
                                                                                (1000000 : Nat)) ∧
                                                                        Q (Sx.SV.lit (Go.Value.bool Bool.true), ([] : List Sx.SO), []))
                                                                  (Q (Sx.SV.lit (Go.Value.bool Bool.false), ([] : List Sx.SO), [])))
                                                            (Q (Sx.SV.lit (Go.Value.bool Bool.false), ([] : List Sx.SO), [])))
                                                      (Q (Sx.SV.lit (Go.Value.bool Bool.false), ([] : List Sx.SO), [])))
                                                (Q (Sx.SV.lit (Go.Value.bool Bool.false), ([] : List Sx.SO), [])))
                                          (Q (Sx.SV.lit (Go.Value.bool Bool.false), ([] : List Sx.SO), []))))
                          ((1 : Nat) ≤ (1 : Nat) ∧
                            (T13.newP = T13.newP ∧
                                (2 : Nat) ≤ (2 : Nat) ∧
                                  T13.FeedOK T13.ps0
                                    [Prod.snd b,
                                      Sx.bsOf
                                        [Go.IntKind.wrap Go.IntKind.u8
                                            (Go.IntKind.wrap Go.IntKind.i64
                                              ((64 : Int) + Int.tmod (Go.IntKind.wrap Go.IntKind.i64 (Int.tmod final (63 : Int) + (63 : Int))) (63 : Int)))]]) ∧
                              ∀ (b_1 : T13.PS × List (Sx.Ty.den T13.aty)),
                                T13.FeedOf T13.ps0
                                    [Prod.snd b,
                                      Sx.bsOf
                                        [Go.IntKind.wrap Go.IntKind.u8
                                            (Go.IntKind.wrap Go.IntKind.i64
                                              ((64 : Int) + Int.tmod (Go.IntKind.wrap Go.IntKind.i64 (Int.tmod final (63 : Int) + (63 : Int))) (63 : Int)))]]
                                    b_1 →
                                  Sx.br ((↑(List.length (Prod.snd b_1)) : Int) == (1 : Int))
                                    (((0 : Int) ≤ (0 : Int) ∧ (0 : Int) < (↑(List.length (Prod.snd b_1)) : Int)) ∧
                                      (0 : Nat) < List.length (Prod.snd b_1) ∧
                                        Sx.br (Prod.fst (List.getD (Prod.snd b_1) (0 : Nat) (Sx.Ty.dflt T13.aty)) == (4 : Int))
                                          (((0 : Int) ≤ (0 : Int) ∧ (0 : Int) < (↑(List.length (Prod.snd b_1)) : Int)) ∧
                                            (0 : Nat) < List.length (Prod.snd b_1) ∧
                                              Sx.br (Prod.fst (Prod.snd (Prod.snd (Prod.snd (List.getD (Prod.snd b_1) (0 : Nat) (Sx.Ty.dflt T13.aty))))) == (0 : Int))
                                                (((0 : Int) ≤ (0 : Int) ∧ (0 : Int) < (↑(List.length (Prod.snd b_1)) : Int)) ∧
                                                  (0 : Nat) < List.length (Prod.snd b_1) ∧
                                                    Sx.br
                                                      (Prod.fst (Prod.snd (Prod.snd (List.getD (Prod.snd b_1) (0 : Nat) (Sx.Ty.dflt T13.aty)))) ==
                                                        Go.IntKind.wrap Go.IntKind.i64
                                                          ((64 : Int) + Int.tmod (Go.IntKind.wrap Go.IntKind.i64 (Int.tmod final (63 : Int) + (63 : Int))) (63 : Int)))
                                                      (((0 : Int) ≤ (0 : Int) ∧ (0 : Int) < (↑(List.length (Prod.snd b_1)) : Int)) ∧
                                                        (0 : Nat) < List.length (Prod.snd b_1) ∧
                                                          Sx.br
                                                            (Prod.fst (Prod.snd (Prod.snd (Prod.snd (Prod.snd (Prod.snd (List.getD (Prod.snd b_1) (0 : Nat) (Sx.Ty.dflt T13.aty))))))) ==
                                                              { data := #[] })
                                                            (((0 : Int) ≤ (0 : Int) ∧ (0 : Int) < (↑(List.length (Prod.snd b_1)) : Int)) ∧
                                                              (0 : Nat) < List.length (Prod.snd b_1) ∧
                                                                (List.length (T13.kept (List.take (Prod.fst b) L)) =
                                                                      List.length
                                                                        (Prod.fst (Prod.snd (Prod.snd (Prod.snd (Prod.snd (List.getD (Prod.snd b_1) (0 : Nat) (Sx.Ty.dflt T13.aty))))))) ∧
                                                                    List.length (T13.kept (List.take (Prod.fst b) L)) ≤ List.length (T13.kept (List.take (Prod.fst b) L)) ∧
                                                                      List.take (List.length (T13.kept (List.take (Prod.fst b) L))) (T13.kept (List.take (Prod.fst b) L)) =
                                                                          Prod.fst (Prod.snd (Prod.snd (Prod.snd (Prod.snd (List.getD (Prod.snd b_1) (0 : Nat) (Sx.Ty.dflt T13.aty)))))) ∧
                                                                        List.length
                                                                            (Prod.fst
                                                                              (Prod.snd (Prod.snd (Prod.snd (Prod.snd (List.getD (Prod.snd b_1) (0 : Nat) (Sx.Ty.dflt T13.aty))))))) ≤
                                                                          (1000000 : Nat)) ∧
                                                                  Q (Sx.SV.lit (Go.Value.bool Bool.true), ([] : List Sx.SO), []))
                                                            (Q (Sx.SV.lit (Go.Value.bool Bool.false), ([] : List Sx.SO), [])))
                                                      (Q (Sx.SV.lit (Go.Value.bool Bool.false), ([] : List Sx.SO), [])))
                                                (Q (Sx.SV.lit (Go.Value.bool Bool.false), ([] : List Sx.SO), [])))
                                          (Q (Sx.SV.lit (Go.Value.bool Bool.false), ([] : List Sx.SO), [])))
                                    (Q (Sx.SV.lit (Go.Value.bool Bool.false), ([] : List Sx.SO), []))))))
              ((∃ (x : Nat × ByteArray),
                  ([Sx.SV.imm (Sx.Ty.int Go.IntKind.i64) L,
                          Sx.SV.lit
                            (Go.Value.int Go.IntKind.i64
                              (Go.IntKind.wrap Go.IntKind.i64 ((64 : Int) + Int.tmod (Go.IntKind.wrap Go.IntKind.i64 (Int.tmod final (63 : Int) + (63 : Int))) (63 : Int)))),
                          Sx.SV.lit (Go.Value.string { data := #[(27 : UInt8), (91 : UInt8)] }), Sx.SV.lit (Go.Value.int Go.IntKind.i64 (0 : Int)),
                          Sx.SV.sl (0 : Nat) (1 : Nat) (0 : Nat) (0 : Nat), Sx.SV.lit (Go.Value.int Go.IntKind.i64 (0 : Int))],
                        [Sx.SO.row (3 : Nat) (Sx.Ty.int Go.IntKind.i64) []]) =
                      ([Sx.SV.imm (Sx.Ty.int Go.IntKind.i64) L,
                          Sx.SV.lit
                            (Go.Value.int Go.IntKind.i64
                              (Go.IntKind.wrap Go.IntKind.i64 ((64 : Int) + Int.tmod (Go.IntKind.wrap Go.IntKind.i64 (Int.tmod final (63 : Int) + (63 : Int))) (63 : Int)))),
                          Sx.SV.lit (Go.Value.string (Prod.snd x)), Sx.SV.lit (Go.Value.int Go.IntKind.i64 (0 : Int)),
                          Sx.SV.sl (0 : Nat) (1 : Nat) (0 : Nat) (List.length (T13.kept (List.take (Prod.fst x) L))), Sx.SV.lit (Go.Value.int Go.IntKind.i64 (↑(Prod.fst x) : Int))],
                        [Sx.SO.row (3 : Nat) (Sx.Ty.int Go.IntKind.i64) (T13.kept (List.take (Prod.fst x) L))]) ∧
                    Prod.fst x ≤ List.length L ∧
                      Sx.strInts (Prod.snd x) =
                        (if (60 : Int) ≤ mark ∧ mark ≤ (63 : Int) then [(27 : Int), (91 : Int), mark] else [(27 : Int), (91 : Int)]) ++ T13.items (List.take (Prod.fst x) L)) ∧
                ∀ (b : Nat × ByteArray),
                  Prod.fst b ≤ List.length L ∧
                      Sx.strInts (Prod.snd b) =
                        (if (60 : Int) ≤ mark ∧ mark ≤ (63 : Int) then [(27 : Int), (91 : Int), mark] else [(27 : Int), (91 : Int)]) ++ T13.items (List.take (Prod.fst b) L) →
                    Sx.br (Decidable.decide ((↑(Prod.fst b) : Int) < (↑(List.length L) : Int)))
                      (((0 : Int) ≤ (↑(Prod.fst b) : Int) ∧ (↑(Prod.fst b) : Int) < (↑(List.length L) : Int)) ∧
                        Prod.fst b < List.length L ∧
                          Sx.br (Decidable.decide ((↑(Prod.fst b) : Int) > (0 : Int)))
                            ((↑(ByteArray.size (Prod.snd b) + ByteArray.size { data := #[(59 : UInt8)] }) : Int) ≤ (9223372036854775807 : Int) ∧
                              Sx.br (Decidable.decide (List.getD L (Prod.fst b) (Sx.Ty.dflt (Sx.Ty.int Go.IntKind.i64)) ≥ (0 : Int)))
                                (((100000 : Int) = (0 : Int) → False) ∧
                                  ((0 : Int) ≤ Int.tmod (List.getD L (Prod.fst b) (Sx.Ty.dflt (Sx.Ty.int Go.IntKind.i64))) (100000 : Int) ∧
                                      Int.tmod (List.getD L (Prod.fst b) (Sx.Ty.dflt (Sx.Ty.int Go.IntKind.i64))) (100000 : Int) ≤ (100000 : Int)) ∧
                                    (↑(ByteArray.size (Prod.snd b ++ { data := #[(59 : UInt8)] }) +
                                              ByteArray.size
                                                (Sx.bsOf (T13.dig (Int.toNat (Int.tmod (List.getD L (Prod.fst b) (Sx.Ty.dflt (Sx.Ty.int Go.IntKind.i64))) (100000 : Int)))))) :
                                          Int) ≤
                                        (9223372036854775807 : Int) ∧
                                      Sx.br (Decidable.decide ((↑(Prod.fst b) : Int) < (8 : Int)))
                                        ((1 : Nat) ≤ (1 : Nat) ∧
                                          List.length (T13.kept (List.take (Prod.fst b) L)) = List.length (T13.kept (List.take (Prod.fst b) L)) ∧
                                            ((↑(List.length (T13.kept (List.take (Prod.fst b) L)) + (1 : Nat)) : Int) ≤ (9223372036854775807 : Int) ∧
                                                (List.length (T13.kept (List.take (Prod.fst b) L)) + (1 : Nat)) * Sx.bytesOf Go.Proofs.Try.prog (3 : Nat) ≤ (140737488355328 : Nat)) ∧
                                              (∃ (x' : Nat × ByteArray),
                                                  ([Sx.SV.imm (Sx.Ty.int Go.IntKind.i64) L,
                                                          Sx.SV.lit
                                                            (Go.Value.int Go.IntKind.i64
                                                              (Go.IntKind.wrap Go.IntKind.i64
                                                                ((64 : Int) + Int.tmod (Go.IntKind.wrap Go.IntKind.i64 (Int.tmod final (63 : Int) + (63 : Int))) (63 : Int)))),
                                                          Sx.SV.lit
                                                            (Go.Value.string
                                                              (Prod.snd b ++ { data := #[(59 : UInt8)] } ++
                                                                Sx.bsOf
                                                                  (T13.dig (Int.toNat (Int.tmod (List.getD L (Prod.fst b) (Sx.Ty.dflt (Sx.Ty.int Go.IntKind.i64))) (100000 : Int)))))),
                                                          Sx.SV.lit (Go.Value.int Go.IntKind.i64 (0 : Int)),
                                                          Sx.SV.sl (0 : Nat) (1 : Nat) (0 : Nat) (List.length (T13.kept (List.take (Prod.fst b) L)) + (1 : Nat)),
                                                          Sx.SV.lit (Go.Value.int Go.IntKind.i64 (Go.IntKind.wrap Go.IntKind.i64 ((↑(Prod.fst b) : Int) + (1 : Int))))],
                                                        [Sx.SO.row (3 : Nat) (Sx.Ty.int Go.IntKind.i64)
                                                            (T13.kept (List.take (Prod.fst b) L) ++
                                                              [Min.min (Max.max (Int.tmod (List.getD L (Prod.fst b) (Sx.Ty.dflt (Sx.Ty.int Go.IntKind.i64))) (100000 : Int)) (-1 : Int))
                                                                  (9999 : Int)])]) =
                                                      ([Sx.SV.imm (Sx.Ty.int Go.IntKind.i64) L,
                                                          Sx.SV.lit
                                                            (Go.Value.int Go.IntKind.i64
                                                              (Go.IntKind.wrap Go.IntKind.i64
                                                                ((64 : Int) + Int.tmod (Go.IntKind.wrap Go.IntKind.i64 (Int.tmod final (63 : Int) + (63 : Int))) (63 : Int)))),
                                                          Sx.SV.lit (Go.Value.string (Prod.snd x')), Sx.SV.lit (Go.Value.int Go.IntKind.i64 (0 : Int)),
                                                          Sx.SV.sl (0 : Nat) (1 : Nat) (0 : Nat) (List.length (T13.kept (List.take (Prod.fst x') L))),
                                                          Sx.SV.lit (Go.Value.int Go.IntKind.i64 (↑(Prod.fst x') : Int))],
                                                        [Sx.SO.row (3 : Nat) (Sx.Ty.int Go.IntKind.i64) (T13.kept (List.take (Prod.fst x') L))]) ∧
                                                    (Prod.fst x' ≤ List.length L ∧
                                                        Sx.strInts (Prod.snd x') =
                                                          (if (60 : Int) ≤ mark ∧ mark ≤ (63 : Int) then [(27 : Int), (91 : Int), mark] else [(27 : Int), (91 : Int)]) ++
                                                            T13.items (List.take (Prod.fst x') L)) ∧
                                                      List.length L - Prod.fst x' < List.length L - Prod.fst b) ∧
                                                True)
                                        ((∃ (x' : Nat × ByteArray),
                                            ([Sx.SV.imm (Sx.Ty.int Go.IntKind.i64) L,
                                                    Sx.SV.lit
                                                      (Go.Value.int Go.IntKind.i64
                                                        (Go.IntKind.wrap Go.IntKind.i64
                                                          ((64 : Int) + Int.tmod (Go.IntKind.wrap Go.IntKind.i64 (Int.tmod final (63 : Int) + (63 : Int))) (63 : Int)))),
                                                    Sx.SV.lit
                                                      (Go.Value.string
                                                        (Prod.snd b ++ { data := #[(59 : UInt8)] } ++
                                                          Sx.bsOf (T13.dig (Int.toNat (Int.tmod (List.getD L (Prod.fst b) (Sx.Ty.dflt (Sx.Ty.int Go.IntKind.i64))) (100000 : Int)))))),
                                                    Sx.SV.lit (Go.Value.int Go.IntKind.i64 (0 : Int)),
                                                    Sx.SV.sl (0 : Nat) (1 : Nat) (0 : Nat) (List.length (T13.kept (List.take (Prod.fst b) L))),
                                                    Sx.SV.lit (Go.Value.int Go.IntKind.i64 (Go.IntKind.wrap Go.IntKind.i64 ((↑(Prod.fst b) : Int) + (1 : Int))))],
                                                  [Sx.SO.row (3 : Nat) (Sx.Ty.int Go.IntKind.i64) (T13.kept (List.take (Prod.fst b) L))]) =
                                                ([Sx.SV.imm (Sx.Ty.int Go.IntKind.i64) L,
                                                    Sx.SV.lit
                                                      (Go.Value.int Go.IntKind.i64
                                                        (Go.IntKind.wrap Go.IntKind.i64
                                                          ((64 : Int) + Int.tmod (Go.IntKind.wrap Go.IntKind.i64 (Int.tmod final (63 : Int) + (63 : Int))) (63 : Int)))),
                                                    Sx.SV.lit (Go.Value.string (Prod.snd x')), Sx.SV.lit (Go.Value.int Go.IntKind.i64 (0 : Int)),
                                                    Sx.SV.sl (0 : Nat) (1 : Nat) (0 : Nat) (List.length (T13.kept (List.take (Prod.fst x') L))),
                                                    Sx.SV.lit (Go.Value.int Go.IntKind.i64 (↑(Prod.fst x') : Int))],
                                                  [Sx.SO.row (3 : Nat) (Sx.Ty.int Go.IntKind.i64) (T13.kept (List.take (Prod.fst x') L))]) ∧
                                              (Prod.fst x' ≤ List.length L ∧
                                                  Sx.strInts (Prod.snd x') =
                                                    (if (60 : Int) ≤ mark ∧ mark ≤ (63 : Int) then [(27 : Int), (91 : Int), mark] else [(27 : Int), (91 : Int)]) ++
                                                      T13.items (List.take (Prod.fst x') L)) ∧
                                                List.length L - Prod.fst x' < List.length L - Prod.fst b) ∧
                                          True))
                                (Sx.br (Decidable.decide ((↑(Prod.fst b) : Int) < (8 : Int)))
                                  ((1 : Nat) ≤ (1 : Nat) ∧
                                    List.length (T13.kept (List.take (Prod.fst b) L)) = List.length (T13.kept (List.take (Prod.fst b) L)) ∧
                                      ((↑(List.length (T13.kept (List.take (Prod.fst b) L)) + (1 : Nat)) : Int) ≤ (9223372036854775807 : Int) ∧
                                          (List.length (T13.kept (List.take (Prod.fst b) L)) + (1 : Nat)) * Sx.bytesOf Go.Proofs.Try.prog (3 : Nat) ≤ (140737488355328 : Nat)) ∧
                                        (∃ (x' : Nat × ByteArray),
                                            ([Sx.SV.imm (Sx.Ty.int Go.IntKind.i64) L,
                                                    Sx.SV.lit
                                                      (Go.Value.int Go.IntKind.i64
                                                        (Go.IntKind.wrap Go.IntKind.i64
                                                          ((64 : Int) + Int.tmod (Go.IntKind.wrap Go.IntKind.i64 (Int.tmod final (63 : Int) + (63 : Int))) (63 : Int)))),
                                                    Sx.SV.lit (Go.Value.string (Prod.snd b ++ { data := #[(59 : UInt8)] })), Sx.SV.lit (Go.Value.int Go.IntKind.i64 (0 : Int)),
                                                    Sx.SV.sl (0 : Nat) (1 : Nat) (0 : Nat) (List.length (T13.kept (List.take (Prod.fst b) L)) + (1 : Nat)),
                                                    Sx.SV.lit (Go.Value.int Go.IntKind.i64 (Go.IntKind.wrap Go.IntKind.i64 ((↑(Prod.fst b) : Int) + (1 : Int))))],
                                                  [Sx.SO.row (3 : Nat) (Sx.Ty.int Go.IntKind.i64)
                                                      (T13.kept (List.take (Prod.fst b) L) ++
                                                        [Min.min (Max.max (List.getD L (Prod.fst b) (Sx.Ty.dflt (Sx.Ty.int Go.IntKind.i64))) (-1 : Int)) (9999 : Int)])]) =
                                                ([Sx.SV.imm (Sx.Ty.int Go.IntKind.i64) L,
                                                    Sx.SV.lit
                                                      (Go.Value.int Go.IntKind.i64
                                                        (Go.IntKind.wrap Go.IntKind.i64
                                                          ((64 : Int) + Int.tmod (Go.IntKind.wrap Go.IntKind.i64 (Int.tmod final (63 : Int) + (63 : Int))) (63 : Int)))),
                                                    Sx.SV.lit (Go.Value.string (Prod.snd x')), Sx.SV.lit (Go.Value.int Go.IntKind.i64 (0 : Int)),
                                                    Sx.SV.sl (0 : Nat) (1 : Nat) (0 : Nat) (List.length (T13.kept (List.take (Prod.fst x') L))),
                                                    Sx.SV.lit (Go.Value.int Go.IntKind.i64 (↑(Prod.fst x') : Int))],
                                                  [Sx.SO.row (3 : Nat) (Sx.Ty.int Go.IntKind.i64) (T13.kept (List.take (Prod.fst x') L))]) ∧
                                              (Prod.fst x' ≤ List.length L ∧
                                                  Sx.strInts (Prod.snd x') =
                                                    (if (60 : Int) ≤ mark ∧ mark ≤ (63 : Int) then [(27 : Int), (91 : Int), mark] else [(27 : Int), (91 : Int)]) ++
                                                      T13.items (List.take (Prod.fst x') L)) ∧
                                                List.length L - Prod.fst x' < List.length L - Prod.fst b) ∧
                                          True)
                                  ((∃ (x' : Nat × ByteArray),
                                      ([Sx.SV.imm (Sx.Ty.int Go.IntKind.i64) L,
                                              Sx.SV.lit
                                                (Go.Value.int Go.IntKind.i64
                                                  (Go.IntKind.wrap Go.IntKind.i64
                                                    ((64 : Int) + Int.tmod (Go.IntKind.wrap Go.IntKind.i64 (Int.tmod final (63 : Int) + (63 : Int))) (63 : Int)))),
                                              Sx.SV.lit (Go.Value.string (Prod.snd b ++ { data := #[(59 : UInt8)] })), Sx.SV.lit (Go.Value.int Go.IntKind.i64 (0 : Int)),
                                              Sx.SV.sl (0 : Nat) (1 : Nat) (0 : Nat) (List.length (T13.kept (List.take (Prod.fst b) L))),
                                              Sx.SV.lit (Go.Value.int Go.IntKind.i64 (Go.IntKind.wrap Go.IntKind.i64 ((↑(Prod.fst b) : Int) + (1 : Int))))],
                                            [Sx.SO.row (3 : Nat) (Sx.Ty.int Go.IntKind.i64) (T13.kept (List.take (Prod.fst b) L))]) =
                                          ([Sx.SV.imm (Sx.Ty.int Go.IntKind.i64) L,
                                              Sx.SV.lit
                                                (Go.Value.int Go.IntKind.i64
                                                  (Go.IntKind.wrap Go.IntKind.i64
                                                    ((64 : Int) + Int.tmod (Go.IntKind.wrap Go.IntKind.i64 (Int.tmod final (63 : Int) + (63 : Int))) (63 : Int)))),
                                              Sx.SV.lit (Go.Value.string (Prod.snd x')), Sx.SV.lit (Go.Value.int Go.IntKind.i64 (0 : Int)),
                                              Sx.SV.sl (0 : Nat) (1 : Nat) (0 : Nat) (List.length (T13.kept (List.take (Prod.fst x') L))),
                                              Sx.SV.lit (Go.Value.int Go.IntKind.i64 (↑(Prod.fst x') : Int))],
                                            [Sx.SO.row (3 : Nat) (Sx.Ty.int Go.IntKind.i64) (T13.kept (List.take (Prod.fst x') L))]) ∧
                                        (Prod.fst x' ≤ List.length L ∧
                                            Sx.strInts (Prod.snd x') =
                                              (if (60 : Int) ≤ mark ∧ mark ≤ (63 : Int) then [(27 : Int), (91 : Int), mark] else [(27 : Int), (91 : Int)]) ++
                                                T13.items (List.take (Prod.fst x') L)) ∧
                                          List.length L - Prod.fst x' < List.length L - Prod.fst b) ∧
                                    True)))
                            (Sx.br (Decidable.decide (List.getD L (Prod.fst b) (Sx.Ty.dflt (Sx.Ty.int Go.IntKind.i64)) ≥ (0 : Int)))
                              (((100000 : Int) = (0 : Int) → False) ∧
                                ((0 : Int) ≤ Int.tmod (List.getD L (Prod.fst b) (Sx.Ty.dflt (Sx.Ty.int Go.IntKind.i64))) (100000 : Int) ∧
                                    Int.tmod (List.getD L (Prod.fst b) (Sx.Ty.dflt (Sx.Ty.int Go.IntKind.i64))) (100000 : Int) ≤ (100000 : Int)) ∧
                                  (↑(ByteArray.size (Prod.snd b) +
                                            ByteArray.size (Sx.bsOf (T13.dig (Int.toNat (Int.tmod (List.getD L (Prod.fst b) (Sx.Ty.dflt (Sx.Ty.int Go.IntKind.i64))) (100000 : Int)))))) :
                                        Int) ≤
                                      (9223372036854775807 : Int) ∧
                                    Sx.br (Decidable.decide ((↑(Prod.fst b) : Int) < (8 : Int)))
                                      ((1 : Nat) ≤ (1 : Nat) ∧
                                        List.length (T13.kept (List.take (Prod.fst b) L)) = List.length (T13.kept (List.take (Prod.fst b) L)) ∧
                                          ((↑(List.length (T13.kept (List.take (Prod.fst b) L)) + (1 : Nat)) : Int) ≤ (9223372036854775807 : Int) ∧
                                              (List.length (T13.kept (List.take (Prod.fst b) L)) + (1 : Nat)) * Sx.bytesOf Go.Proofs.Try.prog (3 : Nat) ≤ (140737488355328 : Nat)) ∧
                                            (∃ (x' : Nat × ByteArray),
                                                ([Sx.SV.imm (Sx.Ty.int Go.IntKind.i64) L,
                                                        Sx.SV.lit
                                                          (Go.Value.int Go.IntKind.i64
                                                            (Go.IntKind.wrap Go.IntKind.i64
                                                              ((64 : Int) + Int.tmod (Go.IntKind.wrap Go.IntKind.i64 (Int.tmod final (63 : Int) + (63 : Int))) (63 : Int)))),
                                                        Sx.SV.lit
                                                          (Go.Value.string
                                                            (Prod.snd b ++
                                                              Sx.bsOf
                                                                (T13.dig (Int.toNat (Int.tmod (List.getD L (Prod.fst b) (Sx.Ty.dflt (Sx.Ty.int Go.IntKind.i64))) (100000 : Int)))))),
                                                        Sx.SV.lit (Go.Value.int Go.IntKind.i64 (0 : Int)),
                                                        Sx.SV.sl (0 : Nat) (1 : Nat) (0 : Nat) (List.length (T13.kept (List.take (Prod.fst b) L)) + (1 : Nat)),
                                                        Sx.SV.lit (Go.Value.int Go.IntKind.i64 (Go.IntKind.wrap Go.IntKind.i64 ((↑(Prod.fst b) : Int) + (1 : Int))))],
                                                      [Sx.SO.row (3 : Nat) (Sx.Ty.int Go.IntKind.i64)
                                                          (T13.kept (List.take (Prod.fst b) L) ++
                                                            [Min.min (Max.max (Int.tmod (List.getD L (Prod.fst b) (Sx.Ty.dflt (Sx.Ty.int Go.IntKind.i64))) (100000 : Int)) (-1 : Int))
                                                                (9999 : Int)])]) =
                                                    ([Sx.SV.imm (Sx.Ty.int Go.IntKind.i64) L,
                                                        Sx.SV.lit
                                                          (Go.Value.int Go.IntKind.i64
                                                            (Go.IntKind.wrap Go.IntKind.i64
                                                              ((64 : Int) + Int.tmod (Go.IntKind.wrap Go.IntKind.i64 (Int.tmod final (63 : Int) + (63 : Int))) (63 : Int)))),
                                                        Sx.SV.lit (Go.Value.string (Prod.snd x')), Sx.SV.lit (Go.Value.int Go.IntKind.i64 (0 : Int)),
                                                        Sx.SV.sl (0 : Nat) (1 : Nat) (0 : Nat) (List.length (T13.kept (List.take (Prod.fst x') L))),
                                                        Sx.SV.lit (Go.Value.int Go.IntKind.i64 (↑(Prod.fst x') : Int))],
                                                      [Sx.SO.row (3 : Nat) (Sx.Ty.int Go.IntKind.i64) (T13.kept (List.take (Prod.fst x') L))]) ∧
                                                  (Prod.fst x' ≤ List.length L ∧
                                                      Sx.strInts (Prod.snd x') =
                                                        (if (60 : Int) ≤ mark ∧ mark ≤ (63 : Int) then [(27 : Int), (91 : Int), mark] else [(27 : Int), (91 : Int)]) ++
                                                          T13.items (List.take (Prod.fst x') L)) ∧
                                                    List.length L - Prod.fst x' < List.length L - Prod.fst b) ∧
                                              True)
                                      ((∃ (x' : Nat × ByteArray),
                                          ([Sx.SV.imm (Sx.Ty.int Go.IntKind.i64) L,
                                                  Sx.SV.lit
                                                    (Go.Value.int Go.IntKind.i64
                                                      (Go.IntKind.wrap Go.IntKind.i64
                                                        ((64 : Int) + Int.tmod (Go.IntKind.wrap Go.IntKind.i64 (Int.tmod final (63 : Int) + (63 : Int))) (63 : Int)))),
                                                  Sx.SV.lit
                                                    (Go.Value.string
                                                      (Prod.snd b ++
                                                        Sx.bsOf (T13.dig (Int.toNat (Int.tmod (List.getD L (Prod.fst b) (Sx.Ty.dflt (Sx.Ty.int Go.IntKind.i64))) (100000 : Int)))))),
                                                  Sx.SV.lit (Go.Value.int Go.IntKind.i64 (0 : Int)),
                                                  Sx.SV.sl (0 : Nat) (1 : Nat) (0 : Nat) (List.length (T13.kept (List.take (Prod.fst b) L))),
                                                  Sx.SV.lit (Go.Value.int Go.IntKind.i64 (Go.IntKind.wrap Go.IntKind.i64 ((↑(Prod.fst b) : Int) + (1 : Int))))],
                                                [Sx.SO.row (3 : Nat) (Sx.Ty.int Go.IntKind.i64) (T13.kept (List.take (Prod.fst b) L))]) =
                                              ([Sx.SV.imm (Sx.Ty.int Go.IntKind.i64) L,
                                                  Sx.SV.lit
                                                    (Go.Value.int Go.IntKind.i64
                                                      (Go.IntKind.wrap Go.IntKind.i64
                                                        ((64 : Int) + Int.tmod (Go.IntKind.wrap Go.IntKind.i64 (Int.tmod final (63 : Int) + (63 : Int))) (63 : Int)))),
                                                  Sx.SV.lit (Go.Value.string (Prod.snd x')), Sx.SV.lit (Go.Value.int Go.IntKind.i64 (0 : Int)),
                                                  Sx.SV.sl (0 : Nat) (1 : Nat) (0 : Nat) (List.length (T13.kept (List.take (Prod.fst x') L))),
                                                  Sx.SV.lit (Go.Value.int Go.IntKind.i64 (↑(Prod.fst x') : Int))],
                                                [Sx.SO.row (3 : Nat) (Sx.Ty.int Go.IntKind.i64) (T13.kept (List.take (Prod.fst x') L))]) ∧
                                            (Prod.fst x' ≤ List.length L ∧
                                                Sx.strInts (Prod.snd x') =
                                                  (if (60 : Int) ≤ mark ∧ mark ≤ (63 : Int) then [(27 : Int), (91 : Int), mark] else [(27 : Int), (91 : Int)]) ++
                                                    T13.items (List.take (Prod.fst x') L)) ∧
                                              List.length L - Prod.fst x' < List.length L - Prod.fst b) ∧
                                        True))
                              (Sx.br (Decidable.decide ((↑(Prod.fst b) : Int) < (8 : Int)))
                                ((1 : Nat) ≤ (1 : Nat) ∧
                                  List.length (T13.kept (List.take (Prod.fst b) L)) = List.length (T13.kept (List.take (Prod.fst b) L)) ∧
                                    ((↑(List.length (T13.kept (List.take (Prod.fst b) L)) + (1 : Nat)) : Int) ≤ (9223372036854775807 : Int) ∧
                                        (List.length (T13.kept (List.take (Prod.fst b) L)) + (1 : Nat)) * Sx.bytesOf Go.Proofs.Try.prog (3 : Nat) ≤ (140737488355328 : Nat)) ∧
                                      (∃ (x' : Nat × ByteArray),
                                          ([Sx.SV.imm (Sx.Ty.int Go.IntKind.i64) L,
                                                  Sx.SV.lit
                                                    (Go.Value.int Go.IntKind.i64
                                                      (Go.IntKind.wrap Go.IntKind.i64
                                                        ((64 : Int) + Int.tmod (Go.IntKind.wrap Go.IntKind.i64 (Int.tmod final (63 : Int) + (63 : Int))) (63 : Int)))),
                                                  Sx.SV.lit (Go.Value.string (Prod.snd b)), Sx.SV.lit (Go.Value.int Go.IntKind.i64 (0 : Int)),
                                                  Sx.SV.sl (0 : Nat) (1 : Nat) (0 : Nat) (List.length (T13.kept (List.take (Prod.fst b) L)) + (1 : Nat)),
                                                  Sx.SV.lit (Go.Value.int Go.IntKind.i64 (Go.IntKind.wrap Go.IntKind.i64 ((↑(Prod.fst b) : Int) + (1 : Int))))],
                                                [Sx.SO.row (3 : Nat) (Sx.Ty.int Go.IntKind.i64)
                                                    (T13.kept (List.take (Prod.fst b) L) ++
                                                      [Min.min (Max.max (List.getD L (Prod.fst b) (Sx.Ty.dflt (Sx.Ty.int Go.IntKind.i64))) (-1 : Int)) (9999 : Int)])]) =
                                              ([Sx.SV.imm (Sx.Ty.int Go.IntKind.i64) L,
                                                  Sx.SV.lit
                                                    (Go.Value.int Go.IntKind.i64
                                                      (Go.IntKind.wrap Go.IntKind.i64
                                                        ((64 : Int) + Int.tmod (Go.IntKind.wrap Go.IntKind.i64 (Int.tmod final (63 : Int) + (63 : Int))) (63 : Int)))),
                                                  Sx.SV.lit (Go.Value.string (Prod.snd x')), Sx.SV.lit (Go.Value.int Go.IntKind.i64 (0 : Int)),
                                                  Sx.SV.sl (0 : Nat) (1 : Nat) (0 : Nat) (List.length (T13.kept (List.take (Prod.fst x') L))),
                                                  Sx.SV.lit (Go.Value.int Go.IntKind.i64 (↑(Prod.fst x') : Int))],
                                                [Sx.SO.row (3 : Nat) (Sx.Ty.int Go.IntKind.i64) (T13.kept (List.take (Prod.fst x') L))]) ∧
                                            (Prod.fst x' ≤ List.length L ∧
                                                Sx.strInts (Prod.snd x') =
                                                  (if (60 : Int) ≤ mark ∧ mark ≤ (63 : Int) then [(27 : Int), (91 : Int), mark] else [(27 : Int), (91 : Int)]) ++
                                                    T13.items (List.take (Prod.fst x') L)) ∧
                                              List.length L - Prod.fst x' < List.length L - Prod.fst b) ∧
                                        True)
                                ((∃ (x' : Nat × ByteArray),
                                    ([Sx.SV.imm (Sx.Ty.int Go.IntKind.i64) L,
                                            Sx.SV.lit
                                              (Go.Value.int Go.IntKind.i64
                                                (Go.IntKind.wrap Go.IntKind.i64
                                                  ((64 : Int) + Int.tmod (Go.IntKind.wrap Go.IntKind.i64 (Int.tmod final (63 : Int) + (63 : Int))) (63 : Int)))),
                                            Sx.SV.lit (Go.Value.string (Prod.snd b)), Sx.SV.lit (Go.Value.int Go.IntKind.i64 (0 : Int)),
                                            Sx.SV.sl (0 : Nat) (1 : Nat) (0 : Nat) (List.length (T13.kept (List.take (Prod.fst b) L))),
                                            Sx.SV.lit (Go.Value.int Go.IntKind.i64 (Go.IntKind.wrap Go.IntKind.i64 ((↑(Prod.fst b) : Int) + (1 : Int))))],
                                          [Sx.SO.row (3 : Nat) (Sx.Ty.int Go.IntKind.i64) (T13.kept (List.take (Prod.fst b) L))]) =
                                        ([Sx.SV.imm (Sx.Ty.int Go.IntKind.i64) L,
                                            Sx.SV.lit
                                              (Go.Value.int Go.IntKind.i64
                                                (Go.IntKind.wrap Go.IntKind.i64
                                                  ((64 : Int) + Int.tmod (Go.IntKind.wrap Go.IntKind.i64 (Int.tmod final (63 : Int) + (63 : Int))) (63 : Int)))),
                                            Sx.SV.lit (Go.Value.string (Prod.snd x')), Sx.SV.lit (Go.Value.int Go.IntKind.i64 (0 : Int)),
                                            Sx.SV.sl (0 : Nat) (1 : Nat) (0 : Nat) (List.length (T13.kept (List.take (Prod.fst x') L))),
                                            Sx.SV.lit (Go.Value.int Go.IntKind.i64 (↑(Prod.fst x') : Int))],
                                          [Sx.SO.row (3 : Nat) (Sx.Ty.int Go.IntKind.i64) (T13.kept (List.take (Prod.fst x') L))]) ∧
                                      (Prod.fst x' ≤ List.length L ∧
                                          Sx.strInts (Prod.snd x') =
                                            (if (60 : Int) ≤ mark ∧ mark ≤ (63 : Int) then [(27 : Int), (91 : Int), mark] else [(27 : Int), (91 : Int)]) ++
                                              T13.items (List.take (Prod.fst x') L)) ∧
                                        List.length L - Prod.fst x' < List.length L - Prod.fst b) ∧
                                  True))))
                      (Sx.br ((↑(List.length L) : Int) == (1 : Int))
                        (((0 : Int) ≤ (0 : Int) ∧ (0 : Int) < (↑(List.length L) : Int)) ∧
                          (0 : Nat) < List.length L ∧
                            Sx.br (Decidable.decide (List.getD L (0 : Nat) (Sx.Ty.dflt (Sx.Ty.int Go.IntKind.i64)) < (0 : Int)))
                              ((1 : Nat) ≤ (1 : Nat) ∧
                                (T13.newP = T13.newP ∧
                                    (2 : Nat) ≤ (2 : Nat) ∧
                                      T13.FeedOK T13.ps0
                                        [Prod.snd b,
                                          Sx.bsOf
                                            [Go.IntKind.wrap Go.IntKind.u8
                                                (Go.IntKind.wrap Go.IntKind.i64
                                                  ((64 : Int) + Int.tmod (Go.IntKind.wrap Go.IntKind.i64 (Int.tmod final (63 : Int) + (63 : Int))) (63 : Int)))]]) ∧
                                  ∀ (b_1 : T13.PS × List (Sx.Ty.den T13.aty)),
                                    T13.FeedOf T13.ps0
                                        [Prod.snd b,
                                          Sx.bsOf
                                            [Go.IntKind.wrap Go.IntKind.u8
                                                (Go.IntKind.wrap Go.IntKind.i64
                                                  ((64 : Int) + Int.tmod (Go.IntKind.wrap Go.IntKind.i64 (Int.tmod final (63 : Int) + (63 : Int))) (63 : Int)))]]
                                        b_1 →
                                      Sx.br ((↑(List.length (Prod.snd b_1)) : Int) == (1 : Int))
                                        (((0 : Int) ≤ (0 : Int) ∧ (0 : Int) < (↑(List.length (Prod.snd b_1)) : Int)) ∧
                                          (0 : Nat) < List.length (Prod.snd b_1) ∧
                                            Sx.br (Prod.fst (List.getD (Prod.snd b_1) (0 : Nat) (Sx.Ty.dflt T13.aty)) == (4 : Int))
                                              (((0 : Int) ≤ (0 : Int) ∧ (0 : Int) < (↑(List.length (Prod.snd b_1)) : Int)) ∧
                                                (0 : Nat) < List.length (Prod.snd b_1) ∧
                                                  Sx.br (Prod.fst (Prod.snd (Prod.snd (Prod.snd (List.getD (Prod.snd b_1) (0 : Nat) (Sx.Ty.dflt T13.aty))))) == (0 : Int))
                                                    (((0 : Int) ≤ (0 : Int) ∧ (0 : Int) < (↑(List.length (Prod.snd b_1)) : Int)) ∧
                                                      (0 : Nat) < List.length (Prod.snd b_1) ∧
                                                        Sx.br
                                                          (Prod.fst (Prod.snd (Prod.snd (List.getD (Prod.snd b_1) (0 : Nat) (Sx.Ty.dflt T13.aty)))) ==
                                                            Go.IntKind.wrap Go.IntKind.i64
                                                              ((64 : Int) + Int.tmod (Go.IntKind.wrap Go.IntKind.i64 (Int.tmod final (63 : Int) + (63 : Int))) (63 : Int)))
                                                          (((0 : Int) ≤ (0 : Int) ∧ (0 : Int) < (↑(List.length (Prod.snd b_1)) : Int)) ∧
                                                            (0 : Nat) < List.length (Prod.snd b_1) ∧
                                                              Sx.br
                                                                (Prod.fst
                                                                    (Prod.snd (Prod.snd (Prod.snd (Prod.snd (Prod.snd (List.getD (Prod.snd b_1) (0 : Nat) (Sx.Ty.dflt T13.aty))))))) ==
                                                                  { data := #[] })
                                                                (((0 : Int) ≤ (0 : Int) ∧ (0 : Int) < (↑(List.length (Prod.snd b_1)) : Int)) ∧
                                                                  (0 : Nat) < List.length (Prod.snd b_1) ∧
                                                                    Prod.fst (Prod.snd (Prod.snd (Prod.snd (Prod.snd (List.getD (Prod.snd b_1) (0 : Nat) (Sx.Ty.dflt T13.aty)))))) = [] ∧
                                                                      Q (Sx.SV.lit (Go.Value.bool Bool.true), ([] : List Sx.SO), []))
                                                                (Q (Sx.SV.lit (Go.Value.bool Bool.false), ([] : List Sx.SO), [])))
                                                          (Q (Sx.SV.lit (Go.Value.bool Bool.false), ([] : List Sx.SO), [])))
                                                    (Q (Sx.SV.lit (Go.Value.bool Bool.false), ([] : List Sx.SO), [])))
                                              (Q (Sx.SV.lit (Go.Value.bool Bool.false), ([] : List Sx.SO), [])))
                                        (Q (Sx.SV.lit (Go.Value.bool Bool.false), ([] : List Sx.SO), [])))
                              ((1 : Nat) ≤ (1 : Nat) ∧
                                (T13.newP = T13.newP ∧
                                    (2 : Nat) ≤ (2 : Nat) ∧
                                      T13.FeedOK T13.ps0
                                        [Prod.snd b,
                                          Sx.bsOf
                                            [Go.IntKind.wrap Go.IntKind.u8
                                                (Go.IntKind.wrap Go.IntKind.i64
                                                  ((64 : Int) + Int.tmod (Go.IntKind.wrap Go.IntKind.i64 (Int.tmod final (63 : Int) + (63 : Int))) (63 : Int)))]]) ∧
                                  ∀ (b_1 : T13.PS × List (Sx.Ty.den T13.aty)),
                                    T13.FeedOf T13.ps0
                                        [Prod.snd b,
                                          Sx.bsOf
                                            [Go.IntKind.wrap Go.IntKind.u8
                                                (Go.IntKind.wrap Go.IntKind.i64
                                                  ((64 : Int) + Int.tmod (Go.IntKind.wrap Go.IntKind.i64 (Int.tmod final (63 : Int) + (63 : Int))) (63 : Int)))]]
                                        b_1 →
                                      Sx.br ((↑(List.length (Prod.snd b_1)) : Int) == (1 : Int))
                                        (((0 : Int) ≤ (0 : Int) ∧ (0 : Int) < (↑(List.length (Prod.snd b_1)) : Int)) ∧
                                          (0 : Nat) < List.length (Prod.snd b_1) ∧
                                            Sx.br (Prod.fst (List.getD (Prod.snd b_1) (0 : Nat) (Sx.Ty.dflt T13.aty)) == (4 : Int))
                                              (((0 : Int) ≤ (0 : Int) ∧ (0 : Int) < (↑(List.length (Prod.snd b_1)) : Int)) ∧
                                                (0 : Nat) < List.length (Prod.snd b_1) ∧
                                                  Sx.br (Prod.fst (Prod.snd (Prod.snd (Prod.snd (List.getD (Prod.snd b_1) (0 : Nat) (Sx.Ty.dflt T13.aty))))) == (0 : Int))
                                                    (((0 : Int) ≤ (0 : Int) ∧ (0 : Int) < (↑(List.length (Prod.snd b_1)) : Int)) ∧
                                                      (0 : Nat) < List.length (Prod.snd b_1) ∧
                                                        Sx.br
                                                          (Prod.fst (Prod.snd (Prod.snd (List.getD (Prod.snd b_1) (0 : Nat) (Sx.Ty.dflt T13.aty)))) ==
                                                            Go.IntKind.wrap Go.IntKind.i64
                                                              ((64 : Int) + Int.tmod (Go.IntKind.wrap Go.IntKind.i64 (Int.tmod final (63 : Int) + (63 : Int))) (63 : Int)))
                                                          (((0 : Int) ≤ (0 : Int) ∧ (0 : Int) < (↑(List.length (Prod.snd b_1)) : Int)) ∧
                                                            (0 : Nat) < List.length (Prod.snd b_1) ∧
                                                              Sx.br
                                                                (Prod.fst
                                                                    (Prod.snd (Prod.snd (Prod.snd (Prod.snd (Prod.snd (List.getD (Prod.snd b_1) (0 : Nat) (Sx.Ty.dflt T13.aty))))))) ==
                                                                  { data := #[] })
                                                                (((0 : Int) ≤ (0 : Int) ∧ (0 : Int) < (↑(List.length (Prod.snd b_1)) : Int)) ∧
                                                                  (0 : Nat) < List.length (Prod.snd b_1) ∧
                                                                    (List.length (T13.kept (List.take (Prod.fst b) L)) =
                                                                          List.length
                                                                            (Prod.fst
                                                                              (Prod.snd (Prod.snd (Prod.snd (Prod.snd (List.getD (Prod.snd b_1) (0 : Nat) (Sx.Ty.dflt T13.aty))))))) ∧
                                                                        List.length (T13.kept (List.take (Prod.fst b) L)) ≤ List.length (T13.kept (List.take (Prod.fst b) L)) ∧
                                                                          List.take (List.length (T13.kept (List.take (Prod.fst b) L))) (T13.kept (List.take (Prod.fst b) L)) =
                                                                              Prod.fst
                                                                                (Prod.snd (Prod.snd (Prod.snd (Prod.snd (List.getD (Prod.snd b_1) (0 : Nat) (Sx.Ty.dflt T13.aty)))))) ∧
                                                                            List.length
                                                                                (Prod.fst
                                                                                  (Prod.snd (Prod.snd (Prod.snd (Prod.snd (List.getD (Prod.snd b_1) (0 : Nat) (Sx.Ty.dflt T13.aty))))))) ≤
                                                                              (1000000 : Nat)) ∧
                                                                      Q (Sx.SV.lit (Go.Value.bool Bool.true), ([] : List Sx.SO), []))
                                                                (Q (Sx.SV.lit (Go.Value.bool Bool.false), ([] : List Sx.SO), [])))
                                                          (Q (Sx.SV.lit (Go.Value.bool Bool.false), ([] : List Sx.SO), [])))
                                                    (Q (Sx.SV.lit (Go.Value.bool Bool.false), ([] : List Sx.SO), [])))
                                              (Q (Sx.SV.lit (Go.Value.bool Bool.false), ([] : List Sx.SO), [])))
                                        (Q (Sx.SV.lit (Go.Value.bool Bool.false), ([] : List Sx.SO), []))))
                        ((1 : Nat) ≤ (1 : Nat) ∧
                          (T13.newP = T13.newP ∧
                              (2 : Nat) ≤ (2 : Nat) ∧
                                T13.FeedOK T13.ps0
                                  [Prod.snd b,
                                    Sx.bsOf
                                      [Go.IntKind.wrap Go.IntKind.u8
                                          (Go.IntKind.wrap Go.IntKind.i64
                                            ((64 : Int) + Int.tmod (Go.IntKind.wrap Go.IntKind.i64 (Int.tmod final (63 : Int) + (63 : Int))) (63 : Int)))]]) ∧
                            ∀ (b_1 : T13.PS × List (Sx.Ty.den T13.aty)),
                              T13.FeedOf T13.ps0
                                  [Prod.snd b,
                                    Sx.bsOf
                                      [Go.IntKind.wrap Go.IntKind.u8
                                          (Go.IntKind.wrap Go.IntKind.i64 ((64 : Int) + Int.tmod (Go.IntKind.wrap Go.IntKind.i64 (Int.tmod final (63 : Int) + (63 : Int))) (63 : Int)))]]
                                  b_1 →
                                Sx.br ((↑(List.length (Prod.snd b_1)) : Int) == (1 : Int))
                                  (((0 : Int) ≤ (0 : Int) ∧ (0 : Int) < (↑(List.length (Prod.snd b_1)) : Int)) ∧
                                    (0 : Nat) < List.length (Prod.snd b_1) ∧
                                      Sx.br (Prod.fst (List.getD (Prod.snd b_1) (0 : Nat) (Sx.Ty.dflt T13.aty)) == (4 : Int))
                                        (((0 : Int) ≤ (0 : Int) ∧ (0 : Int) < (↑(List.length (Prod.snd b_1)) : Int)) ∧
                                          (0 : Nat) < List.length (Prod.snd b_1) ∧
                                            Sx.br (Prod.fst (Prod.snd (Prod.snd (Prod.snd (List.getD (Prod.snd b_1) (0 : Nat) (Sx.Ty.dflt T13.aty))))) == (0 : Int))
                                              (((0 : Int) ≤ (0 : Int) ∧ (0 : Int) < (↑(List.length (Prod.snd b_1)) : Int)) ∧
                                                (0 : Nat) < List.length (Prod.snd b_1) ∧
                                                  Sx.br
                                                    (Prod.fst (Prod.snd (Prod.snd (List.getD (Prod.snd b_1) (0 : Nat) (Sx.Ty.dflt T13.aty)))) ==
                                                      Go.IntKind.wrap Go.IntKind.i64
                                                        ((64 : Int) + Int.tmod (Go.IntKind.wrap Go.IntKind.i64 (Int.tmod final (63 : Int) + (63 : Int))) (63 : Int)))
                                                    (((0 : Int) ≤ (0 : Int) ∧ (0 : Int) < (↑(List.length (Prod.snd b_1)) : Int)) ∧
                                                      (0 : Nat) < List.length (Prod.snd b_1) ∧
                                                        Sx.br
                                                          (Prod.fst (Prod.snd (Prod.snd (Prod.snd (Prod.snd (Prod.snd (List.getD (Prod.snd b_1) (0 : Nat) (Sx.Ty.dflt T13.aty))))))) ==
                                                            { data := #[] })
                                                          (((0 : Int) ≤ (0 : Int) ∧ (0 : Int) < (↑(List.length (Prod.snd b_1)) : Int)) ∧
                                                            (0 : Nat) < List.length (Prod.snd b_1) ∧
                                                              (List.length (T13.kept (List.take (Prod.fst b) L)) =
                                                                    List.length
                                                                      (Prod.fst (Prod.snd (Prod.snd (Prod.snd (Prod.snd (List.getD (Prod.snd b_1) (0 : Nat) (Sx.Ty.dflt T13.aty))))))) ∧
                                                                  List.length (T13.kept (List.take (Prod.fst b) L)) ≤ List.length (T13.kept (List.take (Prod.fst b) L)) ∧
                                                                    List.take (List.length (T13.kept (List.take (Prod.fst b) L))) (T13.kept (List.take (Prod.fst b) L)) =
                                                                        Prod.fst (Prod.snd (Prod.snd (Prod.snd (Prod.snd (List.getD (Prod.snd b_1) (0 : Nat) (Sx.Ty.dflt T13.aty)))))) ∧
                                                                      List.length
                                                                          (Prod.fst
                                                                            (Prod.snd (Prod.snd (Prod.snd (Prod.snd (List.getD (Prod.snd b_1) (0 : Nat) (Sx.Ty.dflt T13.aty))))))) ≤
                                                                        (1000000 : Nat)) ∧
                                                                Q (Sx.SV.lit (Go.Value.bool Bool.true), ([] : List Sx.SO), []))
                                                          (Q (Sx.SV.lit (Go.Value.bool Bool.false), ([] : List Sx.SO), [])))
                                                    (Q (Sx.SV.lit (Go.Value.bool Bool.false), ([] : List Sx.SO), [])))
                                              (Q (Sx.SV.lit (Go.Value.bool Bool.false), ([] : List Sx.SO), [])))
                                        (Q (Sx.SV.lit (Go.Value.bool Bool.false), ([] : List Sx.SO), [])))
                                  (Q (Sx.SV.lit (Go.Value.bool Bool.false), ([] : List Sx.SO), []))))))) (by kernel_rfl) ?_
  have hf : IntKind.i64.wrap (64 + (IntKind.i64.wrap (final.tmod 63 + 63)).tmod 63) = 64 + final % 63 := by
    rw [tmod_pos final 63 (by omega) (by omega), IntKind.wrap_i64]; omega
  rw [hf]
  obtain ⟨f, hff⟩ : ∃ f, f = 64 + final % 63 := ⟨_, rfl⟩
  rw [← hff]
  have hf1 : 64 ≤ f ∧ f < 127 := by omega
  clear hf hff
  refine br_intro (fun _ => hq) (fun g0 => ⟨by omega, by omega, ?_⟩)
  have g0 := of_decide_eq_false g0
  have hb3 : bytesOf Try.prog 3 = 8 := by kernel_rfl
  have e2791 : strInts ({ data := #[27, 91] } : ByteArray) = [27, 91] := by decide
  have e59 : strInts ({ data := #[59] } : ByteArray) = [59] := by decide
  have e0 : strInts ({ data := #[] } : ByteArray) = [] := by decide
  have z59 : ({ data := #[59] } : ByteArray).size = 1 := rfl
  have hwf : IntKind.u8.wrap f = f := by rw [IntKind.wrap_u8]; omega
  have hfb : strInts (bsOf [f]) = [f] := strInts_bsOf (fun x hx => by simp at hx; subst hx; exact ⟨by omega, by omega⟩)
  rw [hwf]
  obtain ⟨pre, hpre⟩ : ∃ pre, pre = (if 60 ≤ mark ∧ mark ≤ 63 then [27, 91, mark] else [27, 91]) := ⟨_, rfl⟩
  rw [← hpre]
  refine br_range (fun h1 h2 => ⟨by omega, by omega, ?_⟩) (fun h12 => ?_)
  rotate_left
  · have hpl : pre = [27, 91] := by
      rw [hpre, if_neg]
      rintro ⟨a, b⟩
      exact h12 ⟨decide_eq_true a, decide_eq_true b⟩
    have hfeed : pfeed ps0 (pre ++ items L ++ [f]) = (psG, [aCsi 0 (told L) [] f]) := by rw [hpl]; exact seq_told rfl rfl L hf1.1 hf1.2
    have hstart : ∃ s0, s0 = ({ data := #[27, 91] } : ByteArray) ∧ strInts s0 = pre := ⟨_, rfl, by rw [hpl, e2791]⟩
    obtain ⟨s0, hs0, hs1⟩ := hstart
    have hpl : pre.length ≤ 3 := by rw [hpl]; simp
    rw [← hs0]
    clear hpre hs0 h12
    refine ⟨⟨(0, s0), rfl, by omega, by rw [hs1]; simp [items]⟩, fun x hx => br_intro (fun hlt => ?_) (fun hge => ?_)⟩
    · have hlt := of_decide_eq_true hlt
      obtain ⟨i, s⟩ := x
      dsimp only at hx hlt ⊢
      obtain ⟨hx1, hx2⟩ := hx
      have hlti : i < L.length := by omega
      have hss : s.size = pre.length + (items (L.take i)).length := by rw [← strInts_size, hx2, List.length_append]
      have hil := items_len (L.take i)
      have htl : (L.take i).length = i := by rw [List.length_take]; omega
      rw [htl] at hil
      have hks := kept_snoc L i hlti (Ty.int IntKind.i64).dflt
      have hts := take_snoc L i hlti (Ty.int IntKind.i64).dflt
      have hkl : (kept (L.take i)).length ≤ 20 := by unfold kept; rw [List.length_take, List.length_map, htl]; omega
      generalize hv : L.getD i (Ty.int IntKind.i64).dflt = v at *
      have hit0 : i = 0 → items (L.take (i + 1)) = item v := fun h0 => by rw [hts, h0]; rfl
      have hitn : 0 < i → items (L.take (i + 1)) = items (L.take i) ++ (59 :: item v) := fun h0 => by rw [hts, items_snoc _ _ (fun e => by rw [e] at htl; simp at htl; omega)]
      have hdv : 0 ≤ v → v.tmod 100000 = v % 100000 ∧ 0 ≤ v % 100000 ∧ v % 100000 < 100000 := fun h => ⟨Int.tmod_eq_emod_of_nonneg h, Int.emod_nonneg v (by omega), Int.emod_lt_of_pos v (by omega)⟩
      have hitem : 0 ≤ v → strInts (bsOf (dig (v.tmod 100000).toNat)) = item v := fun h => by
        rw [(hdv h).1, strInts_bsOf (fun x hx => by have := dig_bytes _ x hx; exact ⟨by omega, by omega⟩), item, if_pos h]
      have hitem0 : ¬ 0 ≤ v → item v = [] := fun h => by rw [item, if_neg h]
      have hisz : 0 ≤ v → (bsOf (dig (v.tmod 100000).toNat)).size ≤ 5 := fun h => by
        rw [bsOf_size]; exact (dig_len _ (by have := hdv h; omega)).2
      have hw1 : 0 ≤ v → min (max (v.tmod 100000) (-1)) 9999 = worth v := fun h => by
        rw [worth, if_pos h, (hdv h).1]; have := hdv h; omega
      have hw2 : ¬ 0 ≤ v → min (max v (-1)) 9999 = worth v := fun h => by rw [worth, if_neg h]; omega
      have e1 : IntKind.i64.wrap ((i : Int) + 1) = ((i + 1 : Nat) : Int) := wrap1 i (by omega)
      rw [e1]
      refine ⟨by omega, by omega, br_intro (fun gi => ?_) (fun gi => ?_)⟩
      · have gi := of_decide_eq_true gi
        have gi : 0 < i := by omega
        have hitn := hitn gi
        have hsz2 : (s ++ ({ data := #[59] } : ByteArray)).size = s.size + 1 := by rw [← strInts_size, strInts_append, List.length_append, strInts_size, e59]; rfl
        refine ⟨by omega, br_intro (fun gv => ?_) (fun gv => ?_)⟩
        · have gv : 0 ≤ v := by have := of_decide_eq_true gv; omega
          have hd := hdv gv
          have hz := hisz gv
          refine ⟨by omega, by omega, by omega, br_intro (fun g8 => ?_) (fun g8 => ?_)⟩
          · have g8 : i < 8 := by have := of_decide_eq_true g8; omega
            rw [if_pos g8] at hks
            refine ⟨by omega, by omega, ⟨by omega, by rw [hb3]; omega⟩, ⟨(i + 1, s ++ ({ data := #[59] } : ByteArray) ++ bsOf (dig (v.tmod 100000).toNat)), ?_, ⟨by dsimp only; omega, ?_⟩, by dsimp only; omega⟩, trivial⟩
            · rw [hks, hw1 gv]; simp
            · dsimp only; rw [strInts_append, strInts_append, hx2, e59, hitem gv, hitn]; simp
          · have g8 : ¬ i < 8 := by have := of_decide_eq_false g8; omega
            rw [if_neg g8] at hks
            refine ⟨⟨(i + 1, s ++ ({ data := #[59] } : ByteArray) ++ bsOf (dig (v.tmod 100000).toNat)), ?_, ⟨by dsimp only; omega, ?_⟩, by dsimp only; omega⟩, trivial⟩
            · rw [hks]
            · dsimp only; rw [strInts_append, strInts_append, hx2, e59, hitem gv, hitn]; simp
        · have gv : ¬ 0 ≤ v := by have := of_decide_eq_false gv; omega
          refine br_intro (fun g8 => ?_) (fun g8 => ?_)
          · have g8 : i < 8 := by have := of_decide_eq_true g8; omega
            rw [if_pos g8] at hks
            refine ⟨by omega, by omega, ⟨by omega, by rw [hb3]; omega⟩, ⟨(i + 1, s ++ ({ data := #[59] } : ByteArray)), ?_, ⟨by dsimp only; omega, ?_⟩, by dsimp only; omega⟩, trivial⟩
            · rw [hks, hw2 gv]; simp
            · dsimp only; rw [strInts_append, hx2, e59, hitn, hitem0 gv]; simp
          · have g8 : ¬ i < 8 := by have := of_decide_eq_false g8; omega
            rw [if_neg g8] at hks
            refine ⟨⟨(i + 1, s ++ ({ data := #[59] } : ByteArray)), ?_, ⟨by dsimp only; omega, ?_⟩, by dsimp only; omega⟩, trivial⟩
            · rw [hks]
            · dsimp only; rw [strInts_append, hx2, e59, hitn, hitem0 gv]; simp
      · have gi := of_decide_eq_false gi
        have gi : i = 0 := by omega
        have hit0 := hit0 gi
        have hx0 : items (L.take i) = [] := by rw [gi]; rfl
        have g8 : i < 8 := by omega
        rw [if_pos g8] at hks
        refine br_intro (fun gv => ?_) (fun gv => ?_)
        · have gv : 0 ≤ v := by have := of_decide_eq_true gv; omega
          have hd := hdv gv
          have hz := hisz gv
          refine ⟨by omega, by omega, by omega, br_intro (fun _ => ?_) (fun g8 => absurd (of_decide_eq_false g8) (by omega))⟩
          refine ⟨by omega, by omega, ⟨by omega, by rw [hb3]; omega⟩, ⟨(i + 1, s ++ bsOf (dig (v.tmod 100000).toNat)), ?_, ⟨by dsimp only; omega, ?_⟩, by dsimp only; omega⟩, trivial⟩
          · rw [hks, hw1 gv]; simp
          · dsimp only; rw [strInts_append, hx2, hitem gv, hit0, hx0]; simp
        · have gv : ¬ 0 ≤ v := by have := of_decide_eq_false gv; omega
          refine br_intro (fun _ => ?_) (fun g8 => absurd (of_decide_eq_false g8) (by omega))
          refine ⟨by omega, by omega, ⟨by omega, by rw [hb3]; omega⟩, ⟨(i + 1, s), ?_, ⟨by dsimp only; omega, ?_⟩, by dsimp only; omega⟩, trivial⟩
          · rw [hks, hw2 gv]; simp
          · dsimp only; rw [hx2, hit0, hx0, hitem0 gv]
    · have hge := of_decide_eq_false hge
      obtain ⟨i, s⟩ := x
      dsimp only at hx hge ⊢
      obtain ⟨hx1, hx2⟩ := hx
      have hiL : i = L.length := by omega
      rw [hiL, List.take_length] at hx2
      rw [hiL, List.take_length]
      have hil := items_len L
      have hfl : flat [s, bsOf [f]] = pre ++ items L ++ [f] := by
        simp only [flat, List.flatMap_cons, List.flatMap_nil, List.append_nil]
        rw [hx2, hfb]
      have hfo : FeedOK ps0 [s, bsOf [f]] := ⟨ps0_ok, by rw [hfl]; simp; omega, by simp⟩
      have hkl : (kept L).length ≤ 8 := by unfold kept; rw [List.length_take]; omega
      have fin : ∀ r, FeedOf ps0 [s, bsOf [f]] r → r = (psG, [aCsi 0 (told L) [] f]) := fun r hr => by obtain ⟨hr⟩ := hr; rw [hr, hfl, hfeed]
      have notold : ¬ (L.length = 1 ∧ L.getD 0 0 < 0) → told L = kept L := fun h => by unfold told; rw [if_neg h]
      refine br_intro (fun k1 => ⟨?_, ?_, br_intro (fun k2 => ?_) (fun k2 => ?_)⟩) (fun k1 => ?_)
      · have : (L.length : Int) = 1 := eq_of_beq k1
        omega
      · have : (L.length : Int) = 1 := eq_of_beq k1
        omega
      · have k1 : (L.length : Int) = 1 := eq_of_beq k1
        have k2 := of_decide_eq_true k2
        have htold : told L = [] := by unfold told; exact if_pos ⟨by omega, k2⟩
        refine ⟨by omega, ⟨rfl, by omega, hfo⟩, fun r hr => ?_⟩
        rw [fin r hr, htold]
        repeat' first
          | exact hq
          | refine And.intro ?_ ?_
          | refine br_yes (by first | rfl | exact beq_self_eq_true _ | exact bytes_self _) ?_
          | exact of_decide_eq_true rfl
          | rfl
      · have k2 := of_decide_eq_false k2
        have htold : told L = kept L := notold fun e => k2 e.2
        refine ⟨by omega, ⟨rfl, by omega, hfo⟩, fun r hr => ?_⟩
        rw [fin r hr, htold]
        repeat' first
          | exact hq
          | exact List.take_length
          | (show (kept L).length ≤ 1000000; omega)
          | refine And.intro ?_ ?_
          | refine br_yes (by first | rfl | exact beq_self_eq_true _ | exact bytes_self _) ?_
          | exact of_decide_eq_true rfl
          | exact Nat.le_refl _
          | rfl
      · have k1 := ne_of_beq_false k1
        have htold : told L = kept L := notold fun e => k1 (by rw [e.1]; rfl)
        refine ⟨by omega, ⟨rfl, by omega, hfo⟩, fun r hr => ?_⟩
        rw [fin r hr, htold]
        repeat' first
          | exact hq
          | exact List.take_length
          | (show (kept L).length ≤ 1000000; omega)
          | refine And.intro ?_ ?_
          | refine br_yes (by first | rfl | exact beq_self_eq_true _ | exact bytes_self _) ?_
          | exact of_decide_eq_true rfl
          | exact Nat.le_refl _
          | rfl
  · have hr : 60 ≤ mark ∧ mark ≤ 63 := ⟨of_decide_eq_true h1, of_decide_eq_true h2⟩
    have hpl : pre = [27, 91, mark] := by rw [hpre, if_pos hr]
    have hfeed : pfeed ps0 (pre ++ items L ++ [f]) = (psG, [aCsi mark (told L) [] f]) := by rw [hpl]; exact seq_marked rfl rfl L hr hf1.1 hf1.2
    have hum : IntKind.u8.wrap mark = mark := by rw [IntKind.wrap_u8]; omega
    have hstart : ∃ s0, s0 = ({ data := #[27, 91] } : ByteArray) ++ bsOf [IntKind.u8.wrap mark] ∧ strInts s0 = pre := ⟨_, rfl, by
      rw [hpl, strInts_append, e2791, hum, strInts_bsOf]
      · rfl
      · intro x hx; simp at hx; subst hx; exact ⟨by omega, by omega⟩⟩
    obtain ⟨s0, hs0, hs1⟩ := hstart
    have hpl : pre.length ≤ 3 := by rw [hpl]; simp
    rw [← hs0]
    clear hpre hs0 h1 h2
    refine ⟨⟨(0, s0), rfl, by omega, by rw [hs1]; simp [items]⟩, fun x hx => br_intro (fun hlt => ?_) (fun hge => ?_)⟩
    · have hlt := of_decide_eq_true hlt
      obtain ⟨i, s⟩ := x
      dsimp only at hx hlt ⊢
      obtain ⟨hx1, hx2⟩ := hx
      have hlti : i < L.length := by omega
      have hss : s.size = pre.length + (items (L.take i)).length := by rw [← strInts_size, hx2, List.length_append]
      have hil := items_len (L.take i)
      have htl : (L.take i).length = i := by rw [List.length_take]; omega
      rw [htl] at hil
      have hks := kept_snoc L i hlti (Ty.int IntKind.i64).dflt
      have hts := take_snoc L i hlti (Ty.int IntKind.i64).dflt
      have hkl : (kept (L.take i)).length ≤ 20 := by unfold kept; rw [List.length_take, List.length_map, htl]; omega
      generalize hv : L.getD i (Ty.int IntKind.i64).dflt = v at *
      have hit0 : i = 0 → items (L.take (i + 1)) = item v := fun h0 => by rw [hts, h0]; rfl
      have hitn : 0 < i → items (L.take (i + 1)) = items (L.take i) ++ (59 :: item v) := fun h0 => by rw [hts, items_snoc _ _ (fun e => by rw [e] at htl; simp at htl; omega)]
      have hdv : 0 ≤ v → v.tmod 100000 = v % 100000 ∧ 0 ≤ v % 100000 ∧ v % 100000 < 100000 := fun h => ⟨Int.tmod_eq_emod_of_nonneg h, Int.emod_nonneg v (by omega), Int.emod_lt_of_pos v (by omega)⟩
      have hitem : 0 ≤ v → strInts (bsOf (dig (v.tmod 100000).toNat)) = item v := fun h => by
        rw [(hdv h).1, strInts_bsOf (fun x hx => by have := dig_bytes _ x hx; exact ⟨by omega, by omega⟩), item, if_pos h]
      have hitem0 : ¬ 0 ≤ v → item v = [] := fun h => by rw [item, if_neg h]
      have hisz : 0 ≤ v → (bsOf (dig (v.tmod 100000).toNat)).size ≤ 5 := fun h => by
        rw [bsOf_size]; exact (dig_len _ (by have := hdv h; omega)).2
      have hw1 : 0 ≤ v → min (max (v.tmod 100000) (-1)) 9999 = worth v := fun h => by
        rw [worth, if_pos h, (hdv h).1]; have := hdv h; omega
      have hw2 : ¬ 0 ≤ v → min (max v (-1)) 9999 = worth v := fun h => by rw [worth, if_neg h]; omega
      have e1 : IntKind.i64.wrap ((i : Int) + 1) = ((i + 1 : Nat) : Int) := wrap1 i (by omega)
      rw [e1]
      refine ⟨by omega, by omega, br_intro (fun gi => ?_) (fun gi => ?_)⟩
      · have gi := of_decide_eq_true gi
        have gi : 0 < i := by omega
        have hitn := hitn gi
        have hsz2 : (s ++ ({ data := #[59] } : ByteArray)).size = s.size + 1 := by rw [← strInts_size, strInts_append, List.length_append, strInts_size, e59]; rfl
        refine ⟨by omega, br_intro (fun gv => ?_) (fun gv => ?_)⟩
        · have gv : 0 ≤ v := by have := of_decide_eq_true gv; omega
          have hd := hdv gv
          have hz := hisz gv
          refine ⟨by omega, by omega, by omega, br_intro (fun g8 => ?_) (fun g8 => ?_)⟩
          · have g8 : i < 8 := by have := of_decide_eq_true g8; omega
            rw [if_pos g8] at hks
            refine ⟨by omega, by omega, ⟨by omega, by rw [hb3]; omega⟩, ⟨(i + 1, s ++ ({ data := #[59] } : ByteArray) ++ bsOf (dig (v.tmod 100000).toNat)), ?_, ⟨by dsimp only; omega, ?_⟩, by dsimp only; omega⟩, trivial⟩
            · rw [hks, hw1 gv]; simp
            · dsimp only; rw [strInts_append, strInts_append, hx2, e59, hitem gv, hitn]; simp
          · have g8 : ¬ i < 8 := by have := of_decide_eq_false g8; omega
            rw [if_neg g8] at hks
            refine ⟨⟨(i + 1, s ++ ({ data := #[59] } : ByteArray) ++ bsOf (dig (v.tmod 100000).toNat)), ?_, ⟨by dsimp only; omega, ?_⟩, by dsimp only; omega⟩, trivial⟩
            · rw [hks]
            · dsimp only; rw [strInts_append, strInts_append, hx2, e59, hitem gv, hitn]; simp
        · have gv : ¬ 0 ≤ v := by have := of_decide_eq_false gv; omega
          refine br_intro (fun g8 => ?_) (fun g8 => ?_)
          · have g8 : i < 8 := by have := of_decide_eq_true g8; omega
            rw [if_pos g8] at hks
            refine ⟨by omega, by omega, ⟨by omega, by rw [hb3]; omega⟩, ⟨(i + 1, s ++ ({ data := #[59] } : ByteArray)), ?_, ⟨by dsimp only; omega, ?_⟩, by dsimp only; omega⟩, trivial⟩
            · rw [hks, hw2 gv]; simp
            · dsimp only; rw [strInts_append, hx2, e59, hitn, hitem0 gv]; simp
          · have g8 : ¬ i < 8 := by have := of_decide_eq_false g8; omega
            rw [if_neg g8] at hks
            refine ⟨⟨(i + 1, s ++ ({ data := #[59] } : ByteArray)), ?_, ⟨by dsimp only; omega, ?_⟩, by dsimp only; omega⟩, trivial⟩
            · rw [hks]
            · dsimp only; rw [strInts_append, hx2, e59, hitn, hitem0 gv]; simp
      · have gi := of_decide_eq_false gi
        have gi : i = 0 := by omega
        have hit0 := hit0 gi
        have hx0 : items (L.take i) = [] := by rw [gi]; rfl
        have g8 : i < 8 := by omega
        rw [if_pos g8] at hks
        refine br_intro (fun gv => ?_) (fun gv => ?_)
        · have gv : 0 ≤ v := by have := of_decide_eq_true gv; omega
          have hd := hdv gv
          have hz := hisz gv
          refine ⟨by omega, by omega, by omega, br_intro (fun _ => ?_) (fun g8 => absurd (of_decide_eq_false g8) (by omega))⟩
          refine ⟨by omega, by omega, ⟨by omega, by rw [hb3]; omega⟩, ⟨(i + 1, s ++ bsOf (dig (v.tmod 100000).toNat)), ?_, ⟨by dsimp only; omega, ?_⟩, by dsimp only; omega⟩, trivial⟩
          · rw [hks, hw1 gv]; simp
          · dsimp only; rw [strInts_append, hx2, hitem gv, hit0, hx0]; simp
        · have gv : ¬ 0 ≤ v := by have := of_decide_eq_false gv; omega
          refine br_intro (fun _ => ?_) (fun g8 => absurd (of_decide_eq_false g8) (by omega))
          refine ⟨by omega, by omega, ⟨by omega, by rw [hb3]; omega⟩, ⟨(i + 1, s), ?_, ⟨by dsimp only; omega, ?_⟩, by dsimp only; omega⟩, trivial⟩
          · rw [hks, hw2 gv]; simp
          · dsimp only; rw [hx2, hit0, hx0, hitem0 gv]
    · have hge := of_decide_eq_false hge
      obtain ⟨i, s⟩ := x
      dsimp only at hx hge ⊢
      obtain ⟨hx1, hx2⟩ := hx
      have hiL : i = L.length := by omega
      rw [hiL, List.take_length] at hx2
      rw [hiL, List.take_length]
      have hil := items_len L
      have hfl : flat [s, bsOf [f]] = pre ++ items L ++ [f] := by
        simp only [flat, List.flatMap_cons, List.flatMap_nil, List.append_nil]
        rw [hx2, hfb]
      have hfo : FeedOK ps0 [s, bsOf [f]] := ⟨ps0_ok, by rw [hfl]; simp; omega, by simp⟩
      have hkl : (kept L).length ≤ 8 := by unfold kept; rw [List.length_take]; omega
      have fin : ∀ r, FeedOf ps0 [s, bsOf [f]] r → r = (psG, [aCsi mark (told L) [] f]) := fun r hr => by obtain ⟨hr⟩ := hr; rw [hr, hfl, hfeed]
      have notold : ¬ (L.length = 1 ∧ L.getD 0 0 < 0) → told L = kept L := fun h => by unfold told; rw [if_neg h]
      refine br_intro (fun k1 => ⟨?_, ?_, br_intro (fun k2 => ?_) (fun k2 => ?_)⟩) (fun k1 => ?_)
      · have : (L.length : Int) = 1 := eq_of_beq k1
        omega
      · have : (L.length : Int) = 1 := eq_of_beq k1
        omega
      · have k1 : (L.length : Int) = 1 := eq_of_beq k1
        have k2 := of_decide_eq_true k2
        have htold : told L = [] := by unfold told; exact if_pos ⟨by omega, k2⟩
        refine ⟨by omega, ⟨rfl, by omega, hfo⟩, fun r hr => ?_⟩
        rw [fin r hr, htold]
        repeat' first
          | exact hq
          | refine And.intro ?_ ?_
          | refine br_yes (by first | rfl | exact beq_self_eq_true _ | exact bytes_self _) ?_
          | exact of_decide_eq_true rfl
          | rfl
      · have k2 := of_decide_eq_false k2
        have htold : told L = kept L := notold fun e => k2 e.2
        refine ⟨by omega, ⟨rfl, by omega, hfo⟩, fun r hr => ?_⟩
        rw [fin r hr, htold]
        repeat' first
          | exact hq
          | exact List.take_length
          | (show (kept L).length ≤ 1000000; omega)
          | refine And.intro ?_ ?_
          | refine br_yes (by first | rfl | exact beq_self_eq_true _ | exact bytes_self _) ?_
          | exact of_decide_eq_true rfl
          | exact Nat.le_refl _
          | rfl
      · have k1 := ne_of_beq_false k1
        have htold : told L = kept L := notold fun e => k1 (by rw [e.1]; rfl)
        refine ⟨by omega, ⟨rfl, by omega, hfo⟩, fun r hr => ?_⟩
        rw [fin r hr, htold]
        repeat' first
          | exact hq
          | exact List.take_length
          | (show (kept L).length ≤ 1000000; omega)
          | refine And.intro ?_ ?_
          | refine br_yes (by first | rfl | exact beq_self_eq_true _ | exact bytes_self _) ?_
          | exact of_decide_eq_true rfl
          | exact Nat.le_refl _
          | rfl
end T13
