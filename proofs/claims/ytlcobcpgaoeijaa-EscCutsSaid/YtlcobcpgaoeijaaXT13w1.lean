/- Part of a proof: the walk of the functions that the law calls. -/
import Derived.Test.YtlcobcpgaoeijaaSxT
import Derived.Test.YtlcobcpgaoeijaaXT13c
open Go Sx Go.Proofs T12
namespace T13
set_option maxRecDepth 100000
set_option maxHeartbeats 8000000
attribute [local irreducible] Tree.Leads
set_option linter.unusedSimpArgs false
set_option linter.unusedVariables false
theorem v32_1 (st : Int) (h : ByteArray) (it : List Int) (wr fi : Bool) (mk : Int) (nu : List Int) (fu : Bool) (tx : List Int) (ac : List aty.den) (b : Int) (Q : SV × Heap × List Nat → Prop) (hb : Byte b) (hac : ac.length ≤ 1000000) (hok : PS.OK ⟨st, strInts h, it, wr, fi, mk, nu, fu, tx⟩)
    (hq : GoesW (PS.actW ⟨st, strInts h, it, wr, fi, mk, nu, fu, tx⟩ 1 b) ac Q) : (bodySumm T10 Try.prog Try.f32 N22 [.ptr 0 0, .lit (.int .i64 1), .lit (.int .u8 b)] (pheap st h it wr fi mk nu fu tx ac)).Leads Q := by
  refine Sx.by_text (q :=
      (1 : Nat) ≤ (1 : Nat) ∧
        ((0 : Int) ≤ (0 : Int) ∧ (0 : Int) < (↑(1 : Nat) : Int)) ∧
          (0 : Nat) < (1 : Nat) ∧
            ((0 : Int) ≤ (0 : Int) ∧ (0 : Int) < (↑(ByteArray.size (List.getD [Sx.bsOf [b]] (0 : Nat) (Sx.Ty.dflt Sx.Ty.str))) : Int)) ∧
              Sx.br (h == { data := #[] })
                (Sx.br (T12.wid (Sx.byteAt (List.getD [Sx.bsOf [b]] (0 : Nat) (Sx.Ty.dflt Sx.Ty.str)) (0 : Int)) == (0 : Int))
                  ((1 : Nat) ≤ (1 : Nat) ∧
                    ((↑(1 : Nat) : Int) ≤ (9223372036854775807 : Int) ∧ (1 : Nat) * Sx.bytesOf Go.Proofs.Try.prog (21 : Nat) ≤ (140737488355328 : Nat)) ∧
                      ((0 : Int) ≤ (0 : Int) ∧ (0 : Int) < (↑(1 : Nat) : Int)) ∧
                        (0 : Nat) < (1 : Nat) ∧
                          (1 : Nat) ≤ (1 : Nat) ∧
                            List.length ac = List.length ac ∧
                              ((↑(List.length ac + (1 : Nat)) : Int) ≤ (9223372036854775807 : Int) ∧
                                  (List.length ac + (1 : Nat)) * Sx.bytesOf Go.Proofs.Try.prog (50 : Nat) ≤ (140737488355328 : Nat)) ∧
                                Q
                                  (Sx.SV.tup ([] : List Sx.SV),
                                    T13.rows st h it (List.length it) wr fi mk nu (List.length nu) fu tx (List.length tx)
                                      (ac ++
                                        [((1 : Int), List.getD [(65533 : Int)] (0 : Nat) (Sx.Ty.dflt (Sx.Ty.int Go.IntKind.i32)), (0 : Int), (0 : Int), [], { data := #[] },
                                            { data := #[] })])
                                      (List.length ac + (1 : Nat)),
                                    [(4 : Nat)]))
                  (Sx.br (T12.wid (Sx.byteAt (List.getD [Sx.bsOf [b]] (0 : Nat) (Sx.Ty.dflt Sx.Ty.str)) (0 : Int)) == (1 : Int))
                    ((1 : Nat) ≤ (1 : Nat) ∧
                      ((↑(1 : Nat) : Int) ≤ (9223372036854775807 : Int) ∧ (1 : Nat) * Sx.bytesOf Go.Proofs.Try.prog (21 : Nat) ≤ (140737488355328 : Nat)) ∧
                        ((0 : Int) ≤ (0 : Int) ∧ (0 : Int) < (↑(1 : Nat) : Int)) ∧
                          (0 : Nat) < (1 : Nat) ∧
                            (1 : Nat) ≤ (1 : Nat) ∧
                              List.length ac = List.length ac ∧
                                ((↑(List.length ac + (1 : Nat)) : Int) ≤ (9223372036854775807 : Int) ∧
                                    (List.length ac + (1 : Nat)) * Sx.bytesOf Go.Proofs.Try.prog (50 : Nat) ≤ (140737488355328 : Nat)) ∧
                                  Q
                                    (Sx.SV.tup ([] : List Sx.SV),
                                      T13.rows st h it (List.length it) wr fi mk nu (List.length nu) fu tx (List.length tx)
                                        (ac ++
                                          [((1 : Int),
                                              List.getD [Go.IntKind.wrap Go.IntKind.i32 (Sx.byteAt (List.getD [Sx.bsOf [b]] (0 : Nat) (Sx.Ty.dflt Sx.Ty.str)) (0 : Int))] (0 : Nat)
                                                (Sx.Ty.dflt (Sx.Ty.int Go.IntKind.i32)),
                                              (0 : Int), (0 : Int), [], { data := #[] }, { data := #[] })])
                                        (List.length ac + (1 : Nat)),
                                      [(4 : Nat)]))
                    ((1 : Nat) ≤ (1 : Nat) ∧
                      Q
                        (Sx.SV.tup ([] : List Sx.SV),
                          T13.rows st (Sx.bsOf [Sx.byteAt (List.getD [Sx.bsOf [b]] (0 : Nat) (Sx.Ty.dflt Sx.Ty.str)) (0 : Int)]) it (List.length it) wr fi mk nu (List.length nu) fu tx
                            (List.length tx) ac (List.length ac),
                          []))))
                (Sx.br (!T12.may (Sx.strInts h) (Sx.byteAt (List.getD [Sx.bsOf [b]] (0 : Nat) (Sx.Ty.dflt Sx.Ty.str)) (0 : Int)))
                  ((1 : Nat) ≤ (1 : Nat) ∧
                    ((↑(1 : Nat) : Int) ≤ (9223372036854775807 : Int) ∧ (1 : Nat) * Sx.bytesOf Go.Proofs.Try.prog (21 : Nat) ≤ (140737488355328 : Nat)) ∧
                      Sx.br (T12.wid (Sx.byteAt (List.getD [Sx.bsOf [b]] (0 : Nat) (Sx.Ty.dflt Sx.Ty.str)) (0 : Int)) == (0 : Int))
                        ((1 : Nat) ≤ (1 : Nat) ∧
                          (1 : Nat) = (1 : Nat) ∧
                            ((↑(2 : Nat) : Int) ≤ (9223372036854775807 : Int) ∧ (2 : Nat) * Sx.bytesOf Go.Proofs.Try.prog (21 : Nat) ≤ (140737488355328 : Nat)) ∧
                              ((0 : Int) ≤ (0 : Int) ∧ (0 : Int) < (↑(2 : Nat) : Int)) ∧
                                (0 : Nat) < (2 : Nat) ∧
                                  (1 : Nat) ≤ (1 : Nat) ∧
                                    List.length ac = List.length ac ∧
                                      ((↑(List.length ac + (1 : Nat)) : Int) ≤ (9223372036854775807 : Int) ∧
                                          (List.length ac + (1 : Nat)) * Sx.bytesOf Go.Proofs.Try.prog (50 : Nat) ≤ (140737488355328 : Nat)) ∧
                                        ((0 : Int) ≤ Go.IntKind.wrap Go.IntKind.i64 ((0 : Int) + (1 : Int)) ∧
                                            Go.IntKind.wrap Go.IntKind.i64 ((0 : Int) + (1 : Int)) < (↑(2 : Nat) : Int)) ∧
                                          (1 : Nat) < (2 : Nat) ∧
                                            (1 : Nat) ≤ (1 : Nat) ∧
                                              List.length ac + (1 : Nat) =
                                                  List.length
                                                    (ac ++
                                                      [((1 : Int), List.getD [(65533 : Int), (65533 : Int)] (0 : Nat) (Sx.Ty.dflt (Sx.Ty.int Go.IntKind.i32)), (0 : Int), (0 : Int), [],
                                                          { data := #[] }, { data := #[] })]) ∧
                                                ((↑(List.length ac + (1 : Nat) + (1 : Nat)) : Int) ≤ (9223372036854775807 : Int) ∧
                                                    (List.length ac + (1 : Nat) + (1 : Nat)) * Sx.bytesOf Go.Proofs.Try.prog (50 : Nat) ≤ (140737488355328 : Nat)) ∧
                                                  Q
                                                    (Sx.SV.tup ([] : List Sx.SV),
                                                      T13.rows st { data := #[] } it (List.length it) wr fi mk nu (List.length nu) fu tx (List.length tx)
                                                        (ac ++
                                                            [((1 : Int), List.getD [(65533 : Int), (65533 : Int)] (0 : Nat) (Sx.Ty.dflt (Sx.Ty.int Go.IntKind.i32)), (0 : Int), (0 : Int),
                                                                [], { data := #[] }, { data := #[] })] ++
                                                          [((1 : Int), List.getD [(65533 : Int), (65533 : Int)] (1 : Nat) (Sx.Ty.dflt (Sx.Ty.int Go.IntKind.i32)), (0 : Int), (0 : Int),
                                                              [], { data := #[] }, { data := #[] })])
                                                        (List.length ac + (1 : Nat) + (1 : Nat)),
                                                      [(4 : Nat)]))
                        (Sx.br (T12.wid (Sx.byteAt (List.getD [Sx.bsOf [b]] (0 : Nat) (Sx.Ty.dflt Sx.Ty.str)) (0 : Int)) == (1 : Int))
                          ((1 : Nat) ≤ (1 : Nat) ∧
                            (1 : Nat) = (1 : Nat) ∧
                              ((↑(2 : Nat) : Int) ≤ (9223372036854775807 : Int) ∧ (2 : Nat) * Sx.bytesOf Go.Proofs.Try.prog (21 : Nat) ≤ (140737488355328 : Nat)) ∧
                                ((0 : Int) ≤ (0 : Int) ∧ (0 : Int) < (↑(2 : Nat) : Int)) ∧
                                  (0 : Nat) < (2 : Nat) ∧
                                    (1 : Nat) ≤ (1 : Nat) ∧
                                      List.length ac = List.length ac ∧
                                        ((↑(List.length ac + (1 : Nat)) : Int) ≤ (9223372036854775807 : Int) ∧
                                            (List.length ac + (1 : Nat)) * Sx.bytesOf Go.Proofs.Try.prog (50 : Nat) ≤ (140737488355328 : Nat)) ∧
                                          ((0 : Int) ≤ Go.IntKind.wrap Go.IntKind.i64 ((0 : Int) + (1 : Int)) ∧
                                              Go.IntKind.wrap Go.IntKind.i64 ((0 : Int) + (1 : Int)) < (↑(2 : Nat) : Int)) ∧
                                            (1 : Nat) < (2 : Nat) ∧
                                              (1 : Nat) ≤ (1 : Nat) ∧
                                                List.length ac + (1 : Nat) =
                                                    List.length
                                                      (ac ++
                                                        [((1 : Int),
                                                            List.getD
                                                              [(65533 : Int),
                                                                Go.IntKind.wrap Go.IntKind.i32 (Sx.byteAt (List.getD [Sx.bsOf [b]] (0 : Nat) (Sx.Ty.dflt Sx.Ty.str)) (0 : Int))]
                                                              (0 : Nat) (Sx.Ty.dflt (Sx.Ty.int Go.IntKind.i32)),
                                                            (0 : Int), (0 : Int), [], { data := #[] }, { data := #[] })]) ∧
                                                  ((↑(List.length ac + (1 : Nat) + (1 : Nat)) : Int) ≤ (9223372036854775807 : Int) ∧
                                                      (List.length ac + (1 : Nat) + (1 : Nat)) * Sx.bytesOf Go.Proofs.Try.prog (50 : Nat) ≤ (140737488355328 : Nat)) ∧
                                                    Q
                                                      (Sx.SV.tup ([] : List Sx.SV),
                                                        T13.rows st { data := #[] } it (List.length it) wr fi mk nu (List.length nu) fu tx (List.length tx)
                                                          (ac ++
                                                              [((1 : Int),
                                                                  List.getD
                                                                    [(65533 : Int),
                                                                      Go.IntKind.wrap Go.IntKind.i32 (Sx.byteAt (List.getD [Sx.bsOf [b]] (0 : Nat) (Sx.Ty.dflt Sx.Ty.str)) (0 : Int))]
                                                                    (0 : Nat) (Sx.Ty.dflt (Sx.Ty.int Go.IntKind.i32)),
                                                                  (0 : Int), (0 : Int), [], { data := #[] }, { data := #[] })] ++
                                                            [((1 : Int),
                                                                List.getD
                                                                  [(65533 : Int),
                                                                    Go.IntKind.wrap Go.IntKind.i32 (Sx.byteAt (List.getD [Sx.bsOf [b]] (0 : Nat) (Sx.Ty.dflt Sx.Ty.str)) (0 : Int))]
                                                                  (1 : Nat) (Sx.Ty.dflt (Sx.Ty.int Go.IntKind.i32)),
                                                                (0 : Int), (0 : Int), [], { data := #[] }, { data := #[] })])
                                                          (List.length ac + (1 : Nat) + (1 : Nat)),
                                                        [(4 : Nat)]))
                          ((1 : Nat) ≤ (1 : Nat) ∧
                            ((0 : Int) ≤ (0 : Int) ∧ (0 : Int) < (↑(1 : Nat) : Int)) ∧
                              (0 : Nat) < (1 : Nat) ∧
                                (1 : Nat) ≤ (1 : Nat) ∧
                                  List.length ac = List.length ac ∧
                                    ((↑(List.length ac + (1 : Nat)) : Int) ≤ (9223372036854775807 : Int) ∧
                                        (List.length ac + (1 : Nat)) * Sx.bytesOf Go.Proofs.Try.prog (50 : Nat) ≤ (140737488355328 : Nat)) ∧
                                      Q
                                        (Sx.SV.tup ([] : List Sx.SV),
                                          T13.rows st (Sx.bsOf [Sx.byteAt (List.getD [Sx.bsOf [b]] (0 : Nat) (Sx.Ty.dflt Sx.Ty.str)) (0 : Int)]) it (List.length it) wr fi mk nu
                                            (List.length nu) fu tx (List.length tx)
                                            (ac ++
                                              [((1 : Int), List.getD [(65533 : Int)] (0 : Nat) (Sx.Ty.dflt (Sx.Ty.int Go.IntKind.i32)), (0 : Int), (0 : Int), [], { data := #[] },
                                                  { data := #[] })])
                                            (List.length ac + (1 : Nat)),
                                          [(4 : Nat)]))))
                  ((1 : Nat) ≤ (1 : Nat) ∧
                    (↑(ByteArray.size h + ByteArray.size (Sx.bsOf [Sx.byteAt (List.getD [Sx.bsOf [b]] (0 : Nat) (Sx.Ty.dflt Sx.Ty.str)) (0 : Int)])) : Int) ≤
                        (9223372036854775807 : Int) ∧
                      ((0 : Int) ≤ (0 : Int) ∧ (0 : Int) < (↑(ByteArray.size (h ++ Sx.bsOf [Sx.byteAt (List.getD [Sx.bsOf [b]] (0 : Nat) (Sx.Ty.dflt Sx.Ty.str)) (0 : Int)])) : Int)) ∧
                        ∀ (b_1 : Bool),
                          True →
                            Sx.br b_1
                              (Sx.br
                                (Decidable.decide
                                  ((↑(ByteArray.size (h ++ Sx.bsOf [Sx.byteAt (List.getD [Sx.bsOf [b]] (0 : Nat) (Sx.Ty.dflt Sx.Ty.str)) (0 : Int)])) : Int) <
                                    T12.wid (Sx.byteAt (h ++ Sx.bsOf [Sx.byteAt (List.getD [Sx.bsOf [b]] (0 : Nat) (Sx.Ty.dflt Sx.Ty.str)) (0 : Int)]) (0 : Int))))
                                (Q
                                  (Sx.SV.tup ([] : List Sx.SV),
                                    T13.rows st (h ++ Sx.bsOf [Sx.byteAt (List.getD [Sx.bsOf [b]] (0 : Nat) (Sx.Ty.dflt Sx.Ty.str)) (0 : Int)]) it (List.length it) wr fi mk nu
                                      (List.length nu) fu tx (List.length tx) ac (List.length ac),
                                    []))
                                (((2 : Nat) ≤ ByteArray.size (h ++ Sx.bsOf [Sx.byteAt (List.getD [Sx.bsOf [b]] (0 : Nat) (Sx.Ty.dflt Sx.Ty.str)) (0 : Int)]) ∧
                                    ByteArray.size (h ++ Sx.bsOf [Sx.byteAt (List.getD [Sx.bsOf [b]] (0 : Nat) (Sx.Ty.dflt Sx.Ty.str)) (0 : Int)]) ≤ (4 : Nat)) ∧
                                  (1 : Nat) ≤ (1 : Nat) ∧
                                    ((↑(1 : Nat) : Int) ≤ (9223372036854775807 : Int) ∧ (1 : Nat) * Sx.bytesOf Go.Proofs.Try.prog (21 : Nat) ≤ (140737488355328 : Nat)) ∧
                                      ((0 : Int) ≤ (0 : Int) ∧ (0 : Int) < (↑(1 : Nat) : Int)) ∧
                                        (0 : Nat) < (1 : Nat) ∧
                                          (1 : Nat) ≤ (1 : Nat) ∧
                                            List.length ac = List.length ac ∧
                                              ((↑(List.length ac + (1 : Nat)) : Int) ≤ (9223372036854775807 : Int) ∧
                                                  (List.length ac + (1 : Nat)) * Sx.bytesOf Go.Proofs.Try.prog (50 : Nat) ≤ (140737488355328 : Nat)) ∧
                                                Q
                                                  (Sx.SV.tup ([] : List Sx.SV),
                                                    T13.rows st { data := #[] } it (List.length it) wr fi mk nu (List.length nu) fu tx (List.length tx)
                                                      (ac ++
                                                        [((1 : Int),
                                                            List.getD
                                                              [T12.whole (Sx.strInts (h ++ Sx.bsOf [Sx.byteAt (List.getD [Sx.bsOf [b]] (0 : Nat) (Sx.Ty.dflt Sx.Ty.str)) (0 : Int)]))]
                                                              (0 : Nat) (Sx.Ty.dflt (Sx.Ty.int Go.IntKind.i32)),
                                                            (0 : Int), (0 : Int), [], { data := #[] }, { data := #[] })])
                                                      (List.length ac + (1 : Nat)),
                                                    [(4 : Nat)])))
                              (Sx.br
                                (Decidable.decide
                                  ((↑(ByteArray.size (h ++ Sx.bsOf [Sx.byteAt (List.getD [Sx.bsOf [b]] (0 : Nat) (Sx.Ty.dflt Sx.Ty.str)) (0 : Int)])) : Int) <
                                    T12.wid (Sx.byteAt (h ++ Sx.bsOf [Sx.byteAt (List.getD [Sx.bsOf [b]] (0 : Nat) (Sx.Ty.dflt Sx.Ty.str)) (0 : Int)]) (0 : Int))))
                                (Q
                                  (Sx.SV.tup ([] : List Sx.SV),
                                    T13.rows st (h ++ Sx.bsOf [Sx.byteAt (List.getD [Sx.bsOf [b]] (0 : Nat) (Sx.Ty.dflt Sx.Ty.str)) (0 : Int)]) it (List.length it) wr fi mk nu
                                      (List.length nu) fu tx (List.length tx) ac (List.length ac),
                                    []))
                                (((2 : Nat) ≤ ByteArray.size (h ++ Sx.bsOf [Sx.byteAt (List.getD [Sx.bsOf [b]] (0 : Nat) (Sx.Ty.dflt Sx.Ty.str)) (0 : Int)]) ∧
                                    ByteArray.size (h ++ Sx.bsOf [Sx.byteAt (List.getD [Sx.bsOf [b]] (0 : Nat) (Sx.Ty.dflt Sx.Ty.str)) (0 : Int)]) ≤ (4 : Nat)) ∧
                                  (1 : Nat) ≤ (1 : Nat) ∧
                                    ((↑(1 : Nat) : Int) ≤ (9223372036854775807 : Int) ∧ (1 : Nat) * Sx.bytesOf Go.Proofs.Try.prog (21 : Nat) ≤ (140737488355328 : Nat)) ∧
                                      ((0 : Int) ≤ (0 : Int) ∧ (0 : Int) < (↑(1 : Nat) : Int)) ∧
                                        (0 : Nat) < (1 : Nat) ∧
                                          (1 : Nat) ≤ (1 : Nat) ∧
                                            List.length ac = List.length ac ∧
                                              ((↑(List.length ac + (1 : Nat)) : Int) ≤ (9223372036854775807 : Int) ∧
                                                  (List.length ac + (1 : Nat)) * Sx.bytesOf Go.Proofs.Try.prog (50 : Nat) ≤ (140737488355328 : Nat)) ∧
                                                Q
                                                  (Sx.SV.tup ([] : List Sx.SV),
                                                    T13.rows st { data := #[] } it (List.length it) wr fi mk nu (List.length nu) fu tx (List.length tx)
                                                      (ac ++
                                                        [((1 : Int),
                                                            List.getD
                                                              [T12.whole (Sx.strInts (h ++ Sx.bsOf [Sx.byteAt (List.getD [Sx.bsOf [b]] (0 : Nat) (Sx.Ty.dflt Sx.Ty.str)) (0 : Int)]))]
                                                              (0 : Nat) (Sx.Ty.dflt (Sx.Ty.int Go.IntKind.i32)),
                                                            (0 : Int), (0 : Int), [], { data := #[] }, { data := #[] })])
                                                      (List.length ac + (1 : Nat)),
                                                    [(4 : Nat)])))))) (by kernel_rfl) ?_
  have hbs : bytesOf Try.prog 50 = 88 := by kernel_rfl
  have hbt : bytesOf Try.prog 5 = 1 := by kernel_rfl
  have hbi : bytesOf Try.prog 3 = 8 := by kernel_rfl
  have hbr : bytesOf Try.prog 21 = 4 := by kernel_rfl
  obtain ⟨_, ok1, ok0, ok2, ok3, ok4, ok5⟩ := hok
  simp only at ok1 ok0 ok2 ok3 ok4 ok5
  have hw64 : IntKind.i64.wrap b = b := by have := hb.1; have := hb.2; rw [IntKind.wrap_i64]; omega
  have hw32 : IntKind.i32.wrap b = b := by have := hb.1; have := hb.2; rw [IntKind.wrap_i32]; omega
  have hget : ([bsOf [b]] : List ByteArray).getD 0 Ty.str.dflt = bsOf [b] := rfl
  have hb1 : ∀ x ∈ [b], Byte x := fun x hx => by simp at hx; subst hx; exact hb
  have hs1 : strInts (bsOf [b]) = [b] := strInts_bsOf hb1
  have hbb : byteAt (bsOf [b]) 0 = b := by rw [byteAt_eq, hs1]; rfl
  have hsz1 : (bsOf [b]).size = 1 := rfl
  have es : strInts ({ data := #[] } : ByteArray) = [] := rfl
  have hh2 : strInts (h ++ bsOf [b]) = strInts h ++ [b] := by rw [strInts_append, hs1]
  have hsz : (h ++ bsOf [b]).size = h.size + 1 := by rw [← strInts_size, hh2, List.length_append, strInts_size]; rfl
  have hb0 : byteAt (h ++ bsOf [b]) 0 = (strInts h ++ [b]).getD 0 0 := by rw [byteAt_eq, hh2]; rfl
  have hhs := strInts_size h
  have hl3 := good_len ok1
  have hne : (h == ({ data := #[] } : ByteArray)) = (strInts h).isEmpty := by
    rw [Bool.eq_iff_iff, bytes_beq, List.isEmpty_iff]
    constructor
    · rintro rfl; rfl
    · intro e; rw [← bsOf_strInts h, e]; rfl
  have c64 : ∀ n : Nat, n ≤ 2000000 → ((n : Nat) : Int) ≤ 9223372036854775807 := fun n hn => by omega
  have hw01 : IntKind.i64.wrap (0 + 1) = 1 := by decide
  unfold GoesW at hq
  simp only [hw01, hget, hbb, hsz1, hw32, hb0, hsz, hh2, hne, hbs, hbr]
  rcases hl : strInts h with _ | ⟨c, r⟩
  all_goals rw [hl] at hq hhs hl3
  all_goals simp only [hl, List.isEmpty_nil, List.isEmpty_cons, br_true, br_false, List.cons_append, List.nil_append, List.getD_cons_zero]
  all_goals try (rw [show h.size + 1 = r.length + 2 by rw [← hhs]; rfl])
  all_goals try simp only [List.length_cons] at hl3
  all_goals repeat' first
    | (intro _ _)
    | (refine br_intro (fun h => ?_) (fun h => ?_))
    | (refine And.intro ?_ ?_)
  all_goals first | omega | exact True.intro | (simp only [beq_iff_eq, beq_eq_false_iff_ne, decide_eq_true_eq, decide_eq_false_iff_not, ne_eq, Bool.not_eq_true', Bool.not_eq_false'] at *) | skip
  all_goals first | omega | (refine hq _ _ _ _ _ _ _ _ _ _ _ _ _ _ _ ?_ ?_ ?_ ?_ ?_ ?_ rfl) | skip
  all_goals clear hq hne hb0 hsz hbb hget hsz1 c64 hw64 hbi hbt hbs hbr hb1 hb hac ok0 ok2 ok3 ok4 ok5 hw32
  all_goals first
    | with_reducible rfl
    | omega
    | (simp only [List.length_append, List.length_cons, List.length_nil]; done)
    | (simp only [PS.actW, PS.print, T12.step, T12.step0, aPrint, e0, es, List.getD_cons_succ, List.getD_cons_zero, show ¬ (1 : Int) = 0 from by decide, hs1, hh2, hl, if_true, if_false, and_true, true_and, and_false, false_and, not_true_eq_false, not_false_eq_true, List.cons_append, List.nil_append, List.map_cons, List.map_nil, List.append_nil, List.append_assoc, Bool.false_eq_true, *]; done)
    | skip
end T13
