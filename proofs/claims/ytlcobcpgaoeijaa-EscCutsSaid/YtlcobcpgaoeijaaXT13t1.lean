/- Part of a proof: the walk of the functions that the law calls. -/
import Derived.Test.YtlcobcpgaoeijaaSxT
import Derived.Test.YtlcobcpgaoeijaaXT13v
open Go Sx Go.Proofs T12
namespace T13
set_option maxRecDepth 100000
set_option maxHeartbeats 8000000
attribute [local irreducible] Tree.Leads
set_option linter.unusedSimpArgs false
set_option linter.unusedVariables false
theorem v22_1 (it : List Int) (wr fi : Bool) (mk : Int) (nu : List Int) (fu : Bool) (tx : List Int) (ac : List aty.den) (b : Int) (Q : SV × Heap × List Nat → Prop) (hb : Byte b) (hac : ac.length ≤ 900000) (hok : PS.OK ⟨1, strInts e0, it, wr, fi, mk, nu, fu, tx⟩)
    (hq : Goes ⟨1, strInts e0, it, wr, fi, mk, nu, fu, tx⟩ ac b Q) : (bodySumm U3 Try.prog Try.f22 N22 [.ptr 0 0, .lit (.int .u8 b)] (pheap 1 e0 it wr fi mk nu fu tx ac)).Leads Q := by
  refine Sx.by_text (q :=
      Sx.br (b == (24 : Int))
        (Sx.br (b == (24 : Int))
          (Q
            (Sx.SV.tup ([] : List Sx.SV), T13.rows (0 : Int) T13.e0 [] (0 : Nat) Bool.false Bool.true (0 : Int) [] (0 : Nat) Bool.false [] (0 : Nat) ac (List.length ac),
              [(1 : Nat), (2 : Nat), (3 : Nat)]))
          (Sx.br (b == (27 : Int))
            (Q
              (Sx.SV.tup ([] : List Sx.SV), T13.rows (1 : Int) T13.e0 [] (0 : Nat) Bool.false Bool.true (0 : Int) [] (0 : Nat) Bool.false [] (0 : Nat) ac (List.length ac),
                [(1 : Nat), (2 : Nat), (3 : Nat)]))
            (∀ (b_1 : Bool),
              True →
                Sx.br b_1
                  (((0 : Int) ≤ (1 : Int) ∧ (1 : Int) < (↑(5 : Nat) : Int)) ∧
                    Sx.br (Decidable.decide (b < (32 : Int)))
                      (((0 : Int) ≤ (0 : Int) ∧ (0 : Int) < (↑(6 : Nat) : Int)) ∧
                        (((0 : Int) ≤ (2 : Int) ∧ (2 : Int) ≤ (9 : Int)) ∧
                            T13.pcells (1 : Int) T13.e0 (List.length it) wr fi mk (List.length nu) fu (List.length tx) (List.length ac) =
                                T13.pcells (1 : Int) T13.e0 (List.length it) wr fi mk (List.length nu) fu (List.length tx) (List.length ac) ∧
                              T13.Fits9 { st := (1 : Int), half := Sx.strInts T13.e0, inter := it, wrong := wr, first := fi, mark := mk, nums := nu, full := fu, text := tx } (2 : Int) b
                                (List.length ac)) ∧
                          ∀ (b_2 : T13.PS × List (Sx.Ty.den T13.aty)),
                            T13.ActOf9 { st := (1 : Int), half := Sx.strInts T13.e0, inter := it, wrong := wr, first := fi, mark := mk, nums := nu, full := fu, text := tx } (2 : Int) b
                                b_2 →
                              Q (Sx.SV.tup ([] : List Sx.SV), T13.rheap (Prod.fst b_2) (ac ++ Prod.snd b_2), [(1 : Nat), (2 : Nat), (3 : Nat), (4 : Nat)]))
                      (Sx.br (Decidable.decide (b < (48 : Int)))
                        (((0 : Int) ≤ (1 : Int) ∧ (1 : Int) < (↑(6 : Nat) : Int)) ∧
                          (((0 : Int) ≤ (3 : Int) ∧ (3 : Int) ≤ (9 : Int)) ∧
                              T13.pcells (1 : Int) T13.e0 (List.length it) wr fi mk (List.length nu) fu (List.length tx) (List.length ac) =
                                  T13.pcells (1 : Int) T13.e0 (List.length it) wr fi mk (List.length nu) fu (List.length tx) (List.length ac) ∧
                                T13.Fits9 { st := (1 : Int), half := Sx.strInts T13.e0, inter := it, wrong := wr, first := fi, mark := mk, nums := nu, full := fu, text := tx } (3 : Int)
                                  b (List.length ac)) ∧
                            ∀ (b_2 : T13.PS × List (Sx.Ty.den T13.aty)),
                              T13.ActOf9 { st := (1 : Int), half := Sx.strInts T13.e0, inter := it, wrong := wr, first := fi, mark := mk, nums := nu, full := fu, text := tx } (3 : Int) b
                                  b_2 →
                                Q (Sx.SV.tup ([] : List Sx.SV), T13.rheap (Prod.fst b_2) (ac ++ Prod.snd b_2), [(1 : Nat), (2 : Nat), (3 : Nat), (4 : Nat)]))
                        (Sx.br (Decidable.decide (b < (64 : Int)))
                          (((0 : Int) ≤ (2 : Int) ∧ (2 : Int) < (↑(6 : Nat) : Int)) ∧
                            (((0 : Int) ≤ (4 : Int) ∧ (4 : Int) ≤ (9 : Int)) ∧
                                T13.pcells (1 : Int) T13.e0 (List.length it) wr fi mk (List.length nu) fu (List.length tx) (List.length ac) =
                                    T13.pcells (1 : Int) T13.e0 (List.length it) wr fi mk (List.length nu) fu (List.length tx) (List.length ac) ∧
                                  T13.Fits9 { st := (1 : Int), half := Sx.strInts T13.e0, inter := it, wrong := wr, first := fi, mark := mk, nums := nu, full := fu, text := tx }
                                    (4 : Int) b (List.length ac)) ∧
                              ∀ (b_2 : T13.PS × List (Sx.Ty.den T13.aty)),
                                T13.ActOf9 { st := (1 : Int), half := Sx.strInts T13.e0, inter := it, wrong := wr, first := fi, mark := mk, nums := nu, full := fu, text := tx } (4 : Int)
                                    b b_2 →
                                  Q (Sx.SV.tup ([] : List Sx.SV), T13.rheap (Prod.fst b_2) (ac ++ Prod.snd b_2), [(1 : Nat), (2 : Nat), (3 : Nat), (4 : Nat)]))
                          (Sx.br (Decidable.decide (b < (127 : Int)))
                            (((0 : Int) ≤ (3 : Int) ∧ (3 : Int) < (↑(6 : Nat) : Int)) ∧
                              (((0 : Int) ≤ (4 : Int) ∧ (4 : Int) ≤ (9 : Int)) ∧
                                  T13.pcells (1 : Int) T13.e0 (List.length it) wr fi mk (List.length nu) fu (List.length tx) (List.length ac) =
                                      T13.pcells (1 : Int) T13.e0 (List.length it) wr fi mk (List.length nu) fu (List.length tx) (List.length ac) ∧
                                    T13.Fits9 { st := (1 : Int), half := Sx.strInts T13.e0, inter := it, wrong := wr, first := fi, mark := mk, nums := nu, full := fu, text := tx }
                                      (4 : Int) b (List.length ac)) ∧
                                ∀ (b_2 : T13.PS × List (Sx.Ty.den T13.aty)),
                                  T13.ActOf9 { st := (1 : Int), half := Sx.strInts T13.e0, inter := it, wrong := wr, first := fi, mark := mk, nums := nu, full := fu, text := tx }
                                      (4 : Int) b b_2 →
                                    Q (Sx.SV.tup ([] : List Sx.SV), T13.rheap (Prod.fst b_2) (ac ++ Prod.snd b_2), [(1 : Nat), (2 : Nat), (3 : Nat), (4 : Nat)]))
                            (Sx.br (b == (127 : Int))
                              (((0 : Int) ≤ (4 : Int) ∧ (4 : Int) < (↑(6 : Nat) : Int)) ∧
                                (((0 : Int) ≤ (0 : Int) ∧ (0 : Int) ≤ (9 : Int)) ∧
                                    T13.pcells (1 : Int) T13.e0 (List.length it) wr fi mk (List.length nu) fu (List.length tx) (List.length ac) =
                                        T13.pcells (1 : Int) T13.e0 (List.length it) wr fi mk (List.length nu) fu (List.length tx) (List.length ac) ∧
                                      T13.Fits9 { st := (1 : Int), half := Sx.strInts T13.e0, inter := it, wrong := wr, first := fi, mark := mk, nums := nu, full := fu, text := tx }
                                        (0 : Int) b (List.length ac)) ∧
                                  ∀ (b_2 : T13.PS × List (Sx.Ty.den T13.aty)),
                                    T13.ActOf9 { st := (1 : Int), half := Sx.strInts T13.e0, inter := it, wrong := wr, first := fi, mark := mk, nums := nu, full := fu, text := tx }
                                        (0 : Int) b b_2 →
                                      Q (Sx.SV.tup ([] : List Sx.SV), T13.rheap (Prod.fst b_2) (ac ++ Prod.snd b_2), [(1 : Nat), (2 : Nat), (3 : Nat), (4 : Nat)]))
                              (((0 : Int) ≤ (5 : Int) ∧ (5 : Int) < (↑(6 : Nat) : Int)) ∧
                                (((0 : Int) ≤ (9 : Int) ∧ (9 : Int) ≤ (9 : Int)) ∧
                                    T13.pcells (1 : Int) T13.e0 (List.length it) wr fi mk (List.length nu) fu (List.length tx) (List.length ac) =
                                        T13.pcells (1 : Int) T13.e0 (List.length it) wr fi mk (List.length nu) fu (List.length tx) (List.length ac) ∧
                                      T13.Fits9 { st := (1 : Int), half := Sx.strInts T13.e0, inter := it, wrong := wr, first := fi, mark := mk, nums := nu, full := fu, text := tx }
                                        (9 : Int) b (List.length ac)) ∧
                                  ∀ (b_2 : T13.PS × List (Sx.Ty.den T13.aty)),
                                    T13.ActOf9 { st := (1 : Int), half := Sx.strInts T13.e0, inter := it, wrong := wr, first := fi, mark := mk, nums := nu, full := fu, text := tx }
                                        (9 : Int) b b_2 →
                                      Q (Sx.SV.tup ([] : List Sx.SV), T13.rheap (Prod.fst b_2) (ac ++ Prod.snd b_2), [(1 : Nat), (2 : Nat), (3 : Nat), (4 : Nat)])))))))
                  (Sx.br (Decidable.decide (b < (32 : Int)))
                    (((0 : Int) ≤ (1 : Int) ∧ (1 : Int) < (↑(5 : Nat) : Int)) ∧
                      ((0 : Int) ≤ (0 : Int) ∧ (0 : Int) < (↑(6 : Nat) : Int)) ∧
                        (((0 : Int) ≤ (2 : Int) ∧ (2 : Int) ≤ (9 : Int)) ∧
                            T13.pcells (1 : Int) T13.e0 (List.length it) wr fi mk (List.length nu) fu (List.length tx) (List.length ac) =
                                T13.pcells (1 : Int) T13.e0 (List.length it) wr fi mk (List.length nu) fu (List.length tx) (List.length ac) ∧
                              T13.Fits9 { st := (1 : Int), half := Sx.strInts T13.e0, inter := it, wrong := wr, first := fi, mark := mk, nums := nu, full := fu, text := tx } (2 : Int) b
                                (List.length ac)) ∧
                          ∀ (b_2 : T13.PS × List (Sx.Ty.den T13.aty)),
                            T13.ActOf9 { st := (1 : Int), half := Sx.strInts T13.e0, inter := it, wrong := wr, first := fi, mark := mk, nums := nu, full := fu, text := tx } (2 : Int) b
                                b_2 →
                              Q (Sx.SV.tup ([] : List Sx.SV), T13.rheap (Prod.fst b_2) (ac ++ Prod.snd b_2), [(1 : Nat), (2 : Nat), (3 : Nat), (4 : Nat)]))
                    (Sx.br (Decidable.decide (b < (48 : Int)))
                      (((0 : Int) ≤ (1 : Int) ∧ (1 : Int) < (↑(5 : Nat) : Int)) ∧
                        ((0 : Int) ≤ (1 : Int) ∧ (1 : Int) < (↑(6 : Nat) : Int)) ∧
                          (((0 : Int) ≤ (3 : Int) ∧ (3 : Int) ≤ (9 : Int)) ∧
                              T13.pcells (1 : Int) T13.e0 (List.length it) wr fi mk (List.length nu) fu (List.length tx) (List.length ac) =
                                  T13.pcells (1 : Int) T13.e0 (List.length it) wr fi mk (List.length nu) fu (List.length tx) (List.length ac) ∧
                                T13.Fits9 { st := (1 : Int), half := Sx.strInts T13.e0, inter := it, wrong := wr, first := fi, mark := mk, nums := nu, full := fu, text := tx } (3 : Int)
                                  b (List.length ac)) ∧
                            ∀ (b_2 : T13.PS × List (Sx.Ty.den T13.aty)),
                              T13.ActOf9 { st := (1 : Int), half := Sx.strInts T13.e0, inter := it, wrong := wr, first := fi, mark := mk, nums := nu, full := fu, text := tx } (3 : Int) b
                                  b_2 →
                                Q (Sx.SV.tup ([] : List Sx.SV), T13.rheap (Prod.fst b_2) (ac ++ Prod.snd b_2), [(1 : Nat), (2 : Nat), (3 : Nat), (4 : Nat)]))
                      (Sx.br (Decidable.decide (b < (64 : Int)))
                        (((0 : Int) ≤ (1 : Int) ∧ (1 : Int) < (↑(5 : Nat) : Int)) ∧
                          ((0 : Int) ≤ (2 : Int) ∧ (2 : Int) < (↑(6 : Nat) : Int)) ∧
                            (((0 : Int) ≤ (4 : Int) ∧ (4 : Int) ≤ (9 : Int)) ∧
                                T13.pcells (1 : Int) T13.e0 (List.length it) wr fi mk (List.length nu) fu (List.length tx) (List.length ac) =
                                    T13.pcells (1 : Int) T13.e0 (List.length it) wr fi mk (List.length nu) fu (List.length tx) (List.length ac) ∧
                                  T13.Fits9 { st := (1 : Int), half := Sx.strInts T13.e0, inter := it, wrong := wr, first := fi, mark := mk, nums := nu, full := fu, text := tx }
                                    (4 : Int) b (List.length ac)) ∧
                              ∀ (b_2 : T13.PS × List (Sx.Ty.den T13.aty)),
                                T13.ActOf9 { st := (1 : Int), half := Sx.strInts T13.e0, inter := it, wrong := wr, first := fi, mark := mk, nums := nu, full := fu, text := tx } (4 : Int)
                                    b b_2 →
                                  Q (Sx.SV.tup ([] : List Sx.SV), T13.rheap (Prod.fst b_2) (ac ++ Prod.snd b_2), [(1 : Nat), (2 : Nat), (3 : Nat), (4 : Nat)]))
                        (Sx.br (Decidable.decide (b < (127 : Int)))
                          (((0 : Int) ≤ (1 : Int) ∧ (1 : Int) < (↑(5 : Nat) : Int)) ∧
                            ((0 : Int) ≤ (3 : Int) ∧ (3 : Int) < (↑(6 : Nat) : Int)) ∧
                              (((0 : Int) ≤ (4 : Int) ∧ (4 : Int) ≤ (9 : Int)) ∧
                                  T13.pcells (1 : Int) T13.e0 (List.length it) wr fi mk (List.length nu) fu (List.length tx) (List.length ac) =
                                      T13.pcells (1 : Int) T13.e0 (List.length it) wr fi mk (List.length nu) fu (List.length tx) (List.length ac) ∧
                                    T13.Fits9 { st := (1 : Int), half := Sx.strInts T13.e0, inter := it, wrong := wr, first := fi, mark := mk, nums := nu, full := fu, text := tx }
                                      (4 : Int) b (List.length ac)) ∧
                                ∀ (b_2 : T13.PS × List (Sx.Ty.den T13.aty)),
                                  T13.ActOf9 { st := (1 : Int), half := Sx.strInts T13.e0, inter := it, wrong := wr, first := fi, mark := mk, nums := nu, full := fu, text := tx }
                                      (4 : Int) b b_2 →
                                    Q (Sx.SV.tup ([] : List Sx.SV), T13.rheap (Prod.fst b_2) (ac ++ Prod.snd b_2), [(1 : Nat), (2 : Nat), (3 : Nat), (4 : Nat)]))
                          (Sx.br (b == (127 : Int))
                            (((0 : Int) ≤ (1 : Int) ∧ (1 : Int) < (↑(5 : Nat) : Int)) ∧
                              ((0 : Int) ≤ (4 : Int) ∧ (4 : Int) < (↑(6 : Nat) : Int)) ∧
                                (((0 : Int) ≤ (0 : Int) ∧ (0 : Int) ≤ (9 : Int)) ∧
                                    T13.pcells (1 : Int) T13.e0 (List.length it) wr fi mk (List.length nu) fu (List.length tx) (List.length ac) =
                                        T13.pcells (1 : Int) T13.e0 (List.length it) wr fi mk (List.length nu) fu (List.length tx) (List.length ac) ∧
                                      T13.Fits9 { st := (1 : Int), half := Sx.strInts T13.e0, inter := it, wrong := wr, first := fi, mark := mk, nums := nu, full := fu, text := tx }
                                        (0 : Int) b (List.length ac)) ∧
                                  ∀ (b_2 : T13.PS × List (Sx.Ty.den T13.aty)),
                                    T13.ActOf9 { st := (1 : Int), half := Sx.strInts T13.e0, inter := it, wrong := wr, first := fi, mark := mk, nums := nu, full := fu, text := tx }
                                        (0 : Int) b b_2 →
                                      Q (Sx.SV.tup ([] : List Sx.SV), T13.rheap (Prod.fst b_2) (ac ++ Prod.snd b_2), [(1 : Nat), (2 : Nat), (3 : Nat), (4 : Nat)]))
                            (((0 : Int) ≤ (1 : Int) ∧ (1 : Int) < (↑(5 : Nat) : Int)) ∧
                              ((0 : Int) ≤ (5 : Int) ∧ (5 : Int) < (↑(6 : Nat) : Int)) ∧
                                (((0 : Int) ≤ (9 : Int) ∧ (9 : Int) ≤ (9 : Int)) ∧
                                    T13.pcells (1 : Int) T13.e0 (List.length it) wr fi mk (List.length nu) fu (List.length tx) (List.length ac) =
                                        T13.pcells (1 : Int) T13.e0 (List.length it) wr fi mk (List.length nu) fu (List.length tx) (List.length ac) ∧
                                      T13.Fits9 { st := (1 : Int), half := Sx.strInts T13.e0, inter := it, wrong := wr, first := fi, mark := mk, nums := nu, full := fu, text := tx }
                                        (9 : Int) b (List.length ac)) ∧
                                  ∀ (b_2 : T13.PS × List (Sx.Ty.den T13.aty)),
                                    T13.ActOf9 { st := (1 : Int), half := Sx.strInts T13.e0, inter := it, wrong := wr, first := fi, mark := mk, nums := nu, full := fu, text := tx }
                                        (9 : Int) b b_2 →
                                      Q (Sx.SV.tup ([] : List Sx.SV), T13.rheap (Prod.fst b_2) (ac ++ Prod.snd b_2), [(1 : Nat), (2 : Nat), (3 : Nat), (4 : Nat)]))))))))))
        (Sx.br (b == (26 : Int))
          (Q
            (Sx.SV.tup ([] : List Sx.SV), T13.rows (0 : Int) T13.e0 [] (0 : Nat) Bool.false Bool.true (0 : Int) [] (0 : Nat) Bool.false [] (0 : Nat) ac (List.length ac),
              [(1 : Nat), (2 : Nat), (3 : Nat)]))
          (Sx.br (b == (27 : Int))
            (Q
              (Sx.SV.tup ([] : List Sx.SV), T13.rows (1 : Int) T13.e0 [] (0 : Nat) Bool.false Bool.true (0 : Int) [] (0 : Nat) Bool.false [] (0 : Nat) ac (List.length ac),
                [(1 : Nat), (2 : Nat), (3 : Nat)]))
            (∀ (b_1 : Bool),
              True →
                Sx.br b_1
                  (((0 : Int) ≤ (1 : Int) ∧ (1 : Int) < (↑(5 : Nat) : Int)) ∧
                    Sx.br (Decidable.decide (b < (32 : Int)))
                      (((0 : Int) ≤ (0 : Int) ∧ (0 : Int) < (↑(6 : Nat) : Int)) ∧
                        (((0 : Int) ≤ (2 : Int) ∧ (2 : Int) ≤ (9 : Int)) ∧
                            T13.pcells (1 : Int) T13.e0 (List.length it) wr fi mk (List.length nu) fu (List.length tx) (List.length ac) =
                                T13.pcells (1 : Int) T13.e0 (List.length it) wr fi mk (List.length nu) fu (List.length tx) (List.length ac) ∧
                              T13.Fits9 { st := (1 : Int), half := Sx.strInts T13.e0, inter := it, wrong := wr, first := fi, mark := mk, nums := nu, full := fu, text := tx } (2 : Int) b
                                (List.length ac)) ∧
                          ∀ (b_2 : T13.PS × List (Sx.Ty.den T13.aty)),
                            T13.ActOf9 { st := (1 : Int), half := Sx.strInts T13.e0, inter := it, wrong := wr, first := fi, mark := mk, nums := nu, full := fu, text := tx } (2 : Int) b
                                b_2 →
                              Q (Sx.SV.tup ([] : List Sx.SV), T13.rheap (Prod.fst b_2) (ac ++ Prod.snd b_2), [(1 : Nat), (2 : Nat), (3 : Nat), (4 : Nat)]))
                      (Sx.br (Decidable.decide (b < (48 : Int)))
                        (((0 : Int) ≤ (1 : Int) ∧ (1 : Int) < (↑(6 : Nat) : Int)) ∧
                          (((0 : Int) ≤ (3 : Int) ∧ (3 : Int) ≤ (9 : Int)) ∧
                              T13.pcells (1 : Int) T13.e0 (List.length it) wr fi mk (List.length nu) fu (List.length tx) (List.length ac) =
                                  T13.pcells (1 : Int) T13.e0 (List.length it) wr fi mk (List.length nu) fu (List.length tx) (List.length ac) ∧
                                T13.Fits9 { st := (1 : Int), half := Sx.strInts T13.e0, inter := it, wrong := wr, first := fi, mark := mk, nums := nu, full := fu, text := tx } (3 : Int)
                                  b (List.length ac)) ∧
                            ∀ (b_2 : T13.PS × List (Sx.Ty.den T13.aty)),
                              T13.ActOf9 { st := (1 : Int), half := Sx.strInts T13.e0, inter := it, wrong := wr, first := fi, mark := mk, nums := nu, full := fu, text := tx } (3 : Int) b
                                  b_2 →
                                Q (Sx.SV.tup ([] : List Sx.SV), T13.rheap (Prod.fst b_2) (ac ++ Prod.snd b_2), [(1 : Nat), (2 : Nat), (3 : Nat), (4 : Nat)]))
                        (Sx.br (Decidable.decide (b < (64 : Int)))
                          (((0 : Int) ≤ (2 : Int) ∧ (2 : Int) < (↑(6 : Nat) : Int)) ∧
                            (((0 : Int) ≤ (4 : Int) ∧ (4 : Int) ≤ (9 : Int)) ∧
                                T13.pcells (1 : Int) T13.e0 (List.length it) wr fi mk (List.length nu) fu (List.length tx) (List.length ac) =
                                    T13.pcells (1 : Int) T13.e0 (List.length it) wr fi mk (List.length nu) fu (List.length tx) (List.length ac) ∧
                                  T13.Fits9 { st := (1 : Int), half := Sx.strInts T13.e0, inter := it, wrong := wr, first := fi, mark := mk, nums := nu, full := fu, text := tx }
                                    (4 : Int) b (List.length ac)) ∧
                              ∀ (b_2 : T13.PS × List (Sx.Ty.den T13.aty)),
                                T13.ActOf9 { st := (1 : Int), half := Sx.strInts T13.e0, inter := it, wrong := wr, first := fi, mark := mk, nums := nu, full := fu, text := tx } (4 : Int)
                                    b b_2 →
                                  Q (Sx.SV.tup ([] : List Sx.SV), T13.rheap (Prod.fst b_2) (ac ++ Prod.snd b_2), [(1 : Nat), (2 : Nat), (3 : Nat), (4 : Nat)]))
                          (Sx.br (Decidable.decide (b < (127 : Int)))
                            (((0 : Int) ≤ (3 : Int) ∧ (3 : Int) < (↑(6 : Nat) : Int)) ∧
                              (((0 : Int) ≤ (4 : Int) ∧ (4 : Int) ≤ (9 : Int)) ∧
                                  T13.pcells (1 : Int) T13.e0 (List.length it) wr fi mk (List.length nu) fu (List.length tx) (List.length ac) =
                                      T13.pcells (1 : Int) T13.e0 (List.length it) wr fi mk (List.length nu) fu (List.length tx) (List.length ac) ∧
                                    T13.Fits9 { st := (1 : Int), half := Sx.strInts T13.e0, inter := it, wrong := wr, first := fi, mark := mk, nums := nu, full := fu, text := tx }
                                      (4 : Int) b (List.length ac)) ∧
                                ∀ (b_2 : T13.PS × List (Sx.Ty.den T13.aty)),
                                  T13.ActOf9 { st := (1 : Int), half := Sx.strInts T13.e0, inter := it, wrong := wr, first := fi, mark := mk, nums := nu, full := fu, text := tx }
                                      (4 : Int) b b_2 →
                                    Q (Sx.SV.tup ([] : List Sx.SV), T13.rheap (Prod.fst b_2) (ac ++ Prod.snd b_2), [(1 : Nat), (2 : Nat), (3 : Nat), (4 : Nat)]))
                            (Sx.br (b == (127 : Int))
                              (((0 : Int) ≤ (4 : Int) ∧ (4 : Int) < (↑(6 : Nat) : Int)) ∧
                                (((0 : Int) ≤ (0 : Int) ∧ (0 : Int) ≤ (9 : Int)) ∧
                                    T13.pcells (1 : Int) T13.e0 (List.length it) wr fi mk (List.length nu) fu (List.length tx) (List.length ac) =
                                        T13.pcells (1 : Int) T13.e0 (List.length it) wr fi mk (List.length nu) fu (List.length tx) (List.length ac) ∧
                                      T13.Fits9 { st := (1 : Int), half := Sx.strInts T13.e0, inter := it, wrong := wr, first := fi, mark := mk, nums := nu, full := fu, text := tx }
                                        (0 : Int) b (List.length ac)) ∧
                                  ∀ (b_2 : T13.PS × List (Sx.Ty.den T13.aty)),
                                    T13.ActOf9 { st := (1 : Int), half := Sx.strInts T13.e0, inter := it, wrong := wr, first := fi, mark := mk, nums := nu, full := fu, text := tx }
                                        (0 : Int) b b_2 →
                                      Q (Sx.SV.tup ([] : List Sx.SV), T13.rheap (Prod.fst b_2) (ac ++ Prod.snd b_2), [(1 : Nat), (2 : Nat), (3 : Nat), (4 : Nat)]))
                              (((0 : Int) ≤ (5 : Int) ∧ (5 : Int) < (↑(6 : Nat) : Int)) ∧
                                (((0 : Int) ≤ (9 : Int) ∧ (9 : Int) ≤ (9 : Int)) ∧
                                    T13.pcells (1 : Int) T13.e0 (List.length it) wr fi mk (List.length nu) fu (List.length tx) (List.length ac) =
                                        T13.pcells (1 : Int) T13.e0 (List.length it) wr fi mk (List.length nu) fu (List.length tx) (List.length ac) ∧
                                      T13.Fits9 { st := (1 : Int), half := Sx.strInts T13.e0, inter := it, wrong := wr, first := fi, mark := mk, nums := nu, full := fu, text := tx }
                                        (9 : Int) b (List.length ac)) ∧
                                  ∀ (b_2 : T13.PS × List (Sx.Ty.den T13.aty)),
                                    T13.ActOf9 { st := (1 : Int), half := Sx.strInts T13.e0, inter := it, wrong := wr, first := fi, mark := mk, nums := nu, full := fu, text := tx }
                                        (9 : Int) b b_2 →
                                      Q (Sx.SV.tup ([] : List Sx.SV), T13.rheap (Prod.fst b_2) (ac ++ Prod.snd b_2), [(1 : Nat), (2 : Nat), (3 : Nat), (4 : Nat)])))))))
                  (Sx.br (Decidable.decide (b < (32 : Int)))
                    (((0 : Int) ≤ (1 : Int) ∧ (1 : Int) < (↑(5 : Nat) : Int)) ∧
                      ((0 : Int) ≤ (0 : Int) ∧ (0 : Int) < (↑(6 : Nat) : Int)) ∧
                        (((0 : Int) ≤ (2 : Int) ∧ (2 : Int) ≤ (9 : Int)) ∧
                            T13.pcells (1 : Int) T13.e0 (List.length it) wr fi mk (List.length nu) fu (List.length tx) (List.length ac) =
                                T13.pcells (1 : Int) T13.e0 (List.length it) wr fi mk (List.length nu) fu (List.length tx) (List.length ac) ∧
                              T13.Fits9 { st := (1 : Int), half := Sx.strInts T13.e0, inter := it, wrong := wr, first := fi, mark := mk, nums := nu, full := fu, text := tx } (2 : Int) b
                                (List.length ac)) ∧
                          ∀ (b_2 : T13.PS × List (Sx.Ty.den T13.aty)),
                            T13.ActOf9 { st := (1 : Int), half := Sx.strInts T13.e0, inter := it, wrong := wr, first := fi, mark := mk, nums := nu, full := fu, text := tx } (2 : Int) b
                                b_2 →
                              Q (Sx.SV.tup ([] : List Sx.SV), T13.rheap (Prod.fst b_2) (ac ++ Prod.snd b_2), [(1 : Nat), (2 : Nat), (3 : Nat), (4 : Nat)]))
                    (Sx.br (Decidable.decide (b < (48 : Int)))
                      (((0 : Int) ≤ (1 : Int) ∧ (1 : Int) < (↑(5 : Nat) : Int)) ∧
                        ((0 : Int) ≤ (1 : Int) ∧ (1 : Int) < (↑(6 : Nat) : Int)) ∧
                          (((0 : Int) ≤ (3 : Int) ∧ (3 : Int) ≤ (9 : Int)) ∧
                              T13.pcells (1 : Int) T13.e0 (List.length it) wr fi mk (List.length nu) fu (List.length tx) (List.length ac) =
                                  T13.pcells (1 : Int) T13.e0 (List.length it) wr fi mk (List.length nu) fu (List.length tx) (List.length ac) ∧
                                T13.Fits9 { st := (1 : Int), half := Sx.strInts T13.e0, inter := it, wrong := wr, first := fi, mark := mk, nums := nu, full := fu, text := tx } (3 : Int)
                                  b (List.length ac)) ∧
                            ∀ (b_2 : T13.PS × List (Sx.Ty.den T13.aty)),
                              T13.ActOf9 { st := (1 : Int), half := Sx.strInts T13.e0, inter := it, wrong := wr, first := fi, mark := mk, nums := nu, full := fu, text := tx } (3 : Int) b
                                  b_2 →
                                Q (Sx.SV.tup ([] : List Sx.SV), T13.rheap (Prod.fst b_2) (ac ++ Prod.snd b_2), [(1 : Nat), (2 : Nat), (3 : Nat), (4 : Nat)]))
                      (Sx.br (Decidable.decide (b < (64 : Int)))
                        (((0 : Int) ≤ (1 : Int) ∧ (1 : Int) < (↑(5 : Nat) : Int)) ∧
                          ((0 : Int) ≤ (2 : Int) ∧ (2 : Int) < (↑(6 : Nat) : Int)) ∧
                            (((0 : Int) ≤ (4 : Int) ∧ (4 : Int) ≤ (9 : Int)) ∧
                                T13.pcells (1 : Int) T13.e0 (List.length it) wr fi mk (List.length nu) fu (List.length tx) (List.length ac) =
                                    T13.pcells (1 : Int) T13.e0 (List.length it) wr fi mk (List.length nu) fu (List.length tx) (List.length ac) ∧
                                  T13.Fits9 { st := (1 : Int), half := Sx.strInts T13.e0, inter := it, wrong := wr, first := fi, mark := mk, nums := nu, full := fu, text := tx }
                                    (4 : Int) b (List.length ac)) ∧
                              ∀ (b_2 : T13.PS × List (Sx.Ty.den T13.aty)),
                                T13.ActOf9 { st := (1 : Int), half := Sx.strInts T13.e0, inter := it, wrong := wr, first := fi, mark := mk, nums := nu, full := fu, text := tx } (4 : Int)
                                    b b_2 →
                                  Q (Sx.SV.tup ([] : List Sx.SV), T13.rheap (Prod.fst b_2) (ac ++ Prod.snd b_2), [(1 : Nat), (2 : Nat), (3 : Nat), (4 : Nat)]))
                        (Sx.br (Decidable.decide (b < (127 : Int)))
                          (((0 : Int) ≤ (1 : Int) ∧ (1 : Int) < (↑(5 : Nat) : Int)) ∧
                            ((0 : Int) ≤ (3 : Int) ∧ (3 : Int) < (↑(6 : Nat) : Int)) ∧
                              (((0 : Int) ≤ (4 : Int) ∧ (4 : Int) ≤ (9 : Int)) ∧
                                  T13.pcells (1 : Int) T13.e0 (List.length it) wr fi mk (List.length nu) fu (List.length tx) (List.length ac) =
                                      T13.pcells (1 : Int) T13.e0 (List.length it) wr fi mk (List.length nu) fu (List.length tx) (List.length ac) ∧
                                    T13.Fits9 { st := (1 : Int), half := Sx.strInts T13.e0, inter := it, wrong := wr, first := fi, mark := mk, nums := nu, full := fu, text := tx }
                                      (4 : Int) b (List.length ac)) ∧
                                ∀ (b_2 : T13.PS × List (Sx.Ty.den T13.aty)),
                                  T13.ActOf9 { st := (1 : Int), half := Sx.strInts T13.e0, inter := it, wrong := wr, first := fi, mark := mk, nums := nu, full := fu, text := tx }
                                      (4 : Int) b b_2 →
                                    Q (Sx.SV.tup ([] : List Sx.SV), T13.rheap (Prod.fst b_2) (ac ++ Prod.snd b_2), [(1 : Nat), (2 : Nat), (3 : Nat), (4 : Nat)]))
                          (Sx.br (b == (127 : Int))
                            (((0 : Int) ≤ (1 : Int) ∧ (1 : Int) < (↑(5 : Nat) : Int)) ∧
                              ((0 : Int) ≤ (4 : Int) ∧ (4 : Int) < (↑(6 : Nat) : Int)) ∧
                                (((0 : Int) ≤ (0 : Int) ∧ (0 : Int) ≤ (9 : Int)) ∧
                                    T13.pcells (1 : Int) T13.e0 (List.length it) wr fi mk (List.length nu) fu (List.length tx) (List.length ac) =
                                        T13.pcells (1 : Int) T13.e0 (List.length it) wr fi mk (List.length nu) fu (List.length tx) (List.length ac) ∧
                                      T13.Fits9 { st := (1 : Int), half := Sx.strInts T13.e0, inter := it, wrong := wr, first := fi, mark := mk, nums := nu, full := fu, text := tx }
                                        (0 : Int) b (List.length ac)) ∧
                                  ∀ (b_2 : T13.PS × List (Sx.Ty.den T13.aty)),
                                    T13.ActOf9 { st := (1 : Int), half := Sx.strInts T13.e0, inter := it, wrong := wr, first := fi, mark := mk, nums := nu, full := fu, text := tx }
                                        (0 : Int) b b_2 →
                                      Q (Sx.SV.tup ([] : List Sx.SV), T13.rheap (Prod.fst b_2) (ac ++ Prod.snd b_2), [(1 : Nat), (2 : Nat), (3 : Nat), (4 : Nat)]))
                            (((0 : Int) ≤ (1 : Int) ∧ (1 : Int) < (↑(5 : Nat) : Int)) ∧
                              ((0 : Int) ≤ (5 : Int) ∧ (5 : Int) < (↑(6 : Nat) : Int)) ∧
                                (((0 : Int) ≤ (9 : Int) ∧ (9 : Int) ≤ (9 : Int)) ∧
                                    T13.pcells (1 : Int) T13.e0 (List.length it) wr fi mk (List.length nu) fu (List.length tx) (List.length ac) =
                                        T13.pcells (1 : Int) T13.e0 (List.length it) wr fi mk (List.length nu) fu (List.length tx) (List.length ac) ∧
                                      T13.Fits9 { st := (1 : Int), half := Sx.strInts T13.e0, inter := it, wrong := wr, first := fi, mark := mk, nums := nu, full := fu, text := tx }
                                        (9 : Int) b (List.length ac)) ∧
                                  ∀ (b_2 : T13.PS × List (Sx.Ty.den T13.aty)),
                                    T13.ActOf9 { st := (1 : Int), half := Sx.strInts T13.e0, inter := it, wrong := wr, first := fi, mark := mk, nums := nu, full := fu, text := tx }
                                        (9 : Int) b b_2 →
                                      Q (Sx.SV.tup ([] : List Sx.SV), T13.rheap (Prod.fst b_2) (ac ++ Prod.snd b_2), [(1 : Nat), (2 : Nat), (3 : Nat), (4 : Nat)]))))))))))) (by kernel_rfl) ?_
  have hbs : bytesOf Try.prog 50 = 88 := by kernel_rfl
  have hbt : bytesOf Try.prog 5 = 1 := by kernel_rfl
  have hbi : bytesOf Try.prog 3 = 8 := by kernel_rfl
  have hbr : bytesOf Try.prog 21 = 4 := by kernel_rfl
  have es : strInts e0 = [] := rfl
  have hfit : ∀ w : Int, (w = 5 → 48 ≤ b ∧ b < 64) → (w = 1 → (1 : Int) = 0) → Fits9 ⟨1, strInts e0, it, wr, fi, mk, nu, fu, tx⟩ w b ac.length := fun w h5 h1 => ⟨hok, hb, by omega, h1, h5⟩
  have hgood : ∀ w : Int, Good (PS.actW ⟨1, strInts e0, it, wr, fi, mk, nu, fu, tx⟩ w b).1.half := fun w => PS.actW_half _ _ _ hok.half
  have hgood9 : Good (pstep (PS.begin ⟨1, strInts e0, it, wr, fi, mk, nu, fu, tx⟩ 0) b).1.half := pstep_half _ b hok.half
  simp only [List.take_length, List.drop_zero, hbs, hbt, hbi, hbr]
  rcases kinds hb with ⟨hb1, hk⟩ | ⟨hb1, hk⟩ | ⟨hb1, hk⟩ | ⟨hb1, hk⟩ | ⟨hb1, hk⟩ | ⟨hb1, hk⟩ | ⟨hb1, hk⟩ | ⟨hb1, hk⟩ | ⟨hb1, hk⟩
  all_goals obtain ⟨k1, k2, k3, k4, k5, k6, k7, k8⟩ := hk
  all_goals simp only [k1, k2, k3, k4, k5, k6, k7, k8, br_true, br_false]
  all_goals repeat' first
    | (intro _ _)
    | (refine br_intro (fun h => ?_) (fun h => ?_))
    | (refine And.intro ?_ ?_)
  all_goals first
    | omega
    | exact hfit _ (fun e => by omega) (fun e => by omega)
    | exact True.intro
    | with_reducible rfl
    | skip
  all_goals simp only [beq_iff_eq, beq_eq_false_iff_ne, decide_eq_true_eq, decide_eq_false_iff_not, ne_eq] at k1 k2 k3 k4 k5 k6 k7 k8
  all_goals first
    | (rename_i r hr
       obtain ⟨hr⟩ := hr
       rw [if_neg (by decide)] at hr
       subst hr
       refine goes_r hq ?_ ?_ (hgood _) rfl)
    | (rename_i r hr
       obtain ⟨hr⟩ := hr
       rw [if_pos rfl] at hr
       subst hr
       refine goes_r hq ?_ ?_ hgood9 rfl)
    | refine hq _ _ _ _ _ _ _ _ _ _ _ _ _ _ _ ?_ ?_ ?_ ?_ ?_ ?_ rfl
  all_goals clear hq hfit hgood hgood9
  all_goals first
    | with_reducible rfl
    | (simp only [List.length_append, List.length_cons, List.length_nil]; done)
    | (simp [pstep, PS.flushed, PS.go, PS.act, PS.actW, PS.bell, PS.begin, PS.endA, PS.print, aOsc, aDcs, e0, *]; done)
end T13
