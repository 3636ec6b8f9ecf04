/- Part of a proof: the walks of the functions that the law calls, and their plain laws; no condition. -/
import Derived.Test.YtlcobcpgaoeijaaGreatSxT
import Derived.Test.YtlcobcpgaoeijaaGreatM4
set_option linter.unusedVariables false
set_option linter.unusedSimpArgs false
open Go Sx Go.Proofs T12
namespace T13
set_option maxRecDepth 100000
set_option maxHeartbeats 8000000
attribute [local irreducible] Tree.Leads
noncomputable abbrev zT13t0_19 (it : List Int) (wr : Bool) (fi : Bool) (mk : Int) (nu : List Int) (fu : Bool) (tx : List Int) (ac : List aty.den) := T13.pcells (0 : Int) { data := #[] } (List.length it) wr fi mk (List.length nu) fu (List.length tx) (List.length (ac ++ [((1 : Int), List.getD [(65533 : Int)] 0 (Ty.dflt (Ty.int IntKind.i32)), (0 : Int), (0 : Int), [], { data := #[] }, { data := #[] })]))
noncomputable abbrev zT13t0_3 (it : List Int) (wr : Bool) (fi : Bool) (mk : Int) (nu : List Int) (fu : Bool) (tx : List Int) : T13.PS := { st := (0 : Int), half := Sx.strInts { data := #[] }, inter := it, wrong := wr, first := fi, mark := mk, nums := nu, full := fu, text := tx }
noncomputable abbrev zT13t0_0 (it : List Int) (wr : Bool) (fi : Bool) (mk : Int) (nu : List Int) (fu : Bool) (tx : List Int) (ac : List aty.den) (b : Int) := (((0 : Int) ≤ (1 : Int) ∧ (1 : Int) ≤ (8 : Int)) ∧ T13.pcells (0 : Int) { data := #[] } (List.length it) wr fi mk (List.length nu) fu (List.length tx) (List.length ac + 1) = (zT13t0_19 it wr fi mk nu fu tx ac) ∧ T13.Fits (zT13t0_3 it wr fi mk nu fu tx) (1 : Int) b (List.length (ac ++ [((1 : Int), List.getD [(65533 : Int)] 0 (Ty.dflt (Ty.int IntKind.i32)), (0 : Int), (0 : Int), [], { data := #[] }, { data := #[] })])))
noncomputable abbrev zT13t0_2 (h : ByteArray) (it : List Int) (wr : Bool) (fi : Bool) (mk : Int) (nu : List Int) (fu : Bool) (tx : List Int) : T13.PS := { st := (0 : Int), half := Sx.strInts h, inter := it, wrong := wr, first := fi, mark := mk, nums := nu, full := fu, text := tx }
noncomputable abbrev zT13t0_1 (h : ByteArray) (it : List Int) (wr : Bool) (fi : Bool) (mk : Int) (nu : List Int) (fu : Bool) (tx : List Int) (ac : List aty.den) (b : Int) := (((0 : Int) ≤ (1 : Int) ∧ (1 : Int) ≤ (8 : Int)) ∧ T13.pcells (0 : Int) h (List.length it) wr fi mk (List.length nu) fu (List.length tx) (List.length ac) = T13.pcells (0 : Int) h (List.length it) wr fi mk (List.length nu) fu (List.length tx) (List.length ac) ∧ T13.Fits (zT13t0_2 h it wr fi mk nu fu tx) (1 : Int) b (List.length ac))
noncomputable abbrev zT13t0_4 (it : List Int) (wr : Bool) (fi : Bool) (mk : Int) (nu : List Int) (fu : Bool) (tx : List Int) (ac : List aty.den) (b : Int) := (((0 : Int) ≤ (2 : Int) ∧ (2 : Int) ≤ (8 : Int)) ∧ T13.pcells (0 : Int) { data := #[] } (List.length it) wr fi mk (List.length nu) fu (List.length tx) (List.length ac + 1) = (zT13t0_19 it wr fi mk nu fu tx ac) ∧ T13.Fits (zT13t0_3 it wr fi mk nu fu tx) (2 : Int) b (List.length (ac ++ [((1 : Int), List.getD [(65533 : Int)] 0 (Ty.dflt (Ty.int IntKind.i32)), (0 : Int), (0 : Int), [], { data := #[] }, { data := #[] })])))
noncomputable abbrev zT13t0_5 (it : List Int) (wr : Bool) (fi : Bool) (mk : Int) (nu : List Int) (fu : Bool) (tx : List Int) (ac : List aty.den) (b : Int) := (((0 : Int) ≤ (0 : Int) ∧ (0 : Int) ≤ (8 : Int)) ∧ T13.pcells (0 : Int) { data := #[] } (List.length it) wr fi mk (List.length nu) fu (List.length tx) (List.length ac + 1) = (zT13t0_19 it wr fi mk nu fu tx ac) ∧ T13.Fits (zT13t0_3 it wr fi mk nu fu tx) (0 : Int) b (List.length (ac ++ [((1 : Int), List.getD [(65533 : Int)] 0 (Ty.dflt (Ty.int IntKind.i32)), (0 : Int), (0 : Int), [], { data := #[] }, { data := #[] })])))
noncomputable abbrev zT13t0_6 (h : ByteArray) (it : List Int) (wr : Bool) (fi : Bool) (mk : Int) (nu : List Int) (fu : Bool) (tx : List Int) (ac : List aty.den) (b : Int) := (((0 : Int) ≤ (2 : Int) ∧ (2 : Int) ≤ (8 : Int)) ∧ T13.pcells (0 : Int) h (List.length it) wr fi mk (List.length nu) fu (List.length tx) (List.length ac) = T13.pcells (0 : Int) h (List.length it) wr fi mk (List.length nu) fu (List.length tx) (List.length ac) ∧ T13.Fits (zT13t0_2 h it wr fi mk nu fu tx) (2 : Int) b (List.length ac))
noncomputable abbrev zT13t0_7 (h : ByteArray) (it : List Int) (wr : Bool) (fi : Bool) (mk : Int) (nu : List Int) (fu : Bool) (tx : List Int) (ac : List aty.den) (b : Int) := (((0 : Int) ≤ (0 : Int) ∧ (0 : Int) ≤ (8 : Int)) ∧ T13.pcells (0 : Int) h (List.length it) wr fi mk (List.length nu) fu (List.length tx) (List.length ac) = T13.pcells (0 : Int) h (List.length it) wr fi mk (List.length nu) fu (List.length tx) (List.length ac) ∧ T13.Fits (zT13t0_2 h it wr fi mk nu fu tx) (0 : Int) b (List.length ac))
noncomputable abbrev zT13t0_8 := ((0 : Int) ≤ (0 : Int) ∧ (0 : Int) < (↑(5 : Nat) : Int))
noncomputable abbrev zT13t0_9 := ((0 : Int) ≤ (0 : Int) ∧ (0 : Int) < (↑(6 : Nat) : Int))
noncomputable abbrev zT13t0_10 := ((0 : Int) ≤ (1 : Int) ∧ (1 : Int) < (↑(6 : Nat) : Int))
noncomputable abbrev zT13t0_11 := ((0 : Int) ≤ (2 : Int) ∧ (2 : Int) < (↑(6 : Nat) : Int))
noncomputable abbrev zT13t0_12 := ((0 : Int) ≤ (3 : Int) ∧ (3 : Int) < (↑(6 : Nat) : Int))
noncomputable abbrev zT13t0_13 := ((0 : Int) ≤ (4 : Int) ∧ (4 : Int) < (↑(6 : Nat) : Int))
noncomputable abbrev zT13t0_14 := ((0 : Int) ≤ (5 : Int) ∧ (5 : Int) < (↑(6 : Nat) : Int))
noncomputable abbrev zT13t0_15 (ac : List aty.den) : SV × Heap × List Nat := (SV.tup ([] : List Sx.SV), T13.rows (0 : Int) { data := #[] } [] 0 false true (0 : Int) [] 0 false [] 0 (ac ++ [((1 : Int), List.getD [(65533 : Int)] 0 (Ty.dflt (Ty.int IntKind.i32)), (0 : Int), (0 : Int), [], { data := #[] }, { data := #[] })]) (List.length ac + 1), [1, 2, 3, 4])
noncomputable abbrev zT13t0_16 (ac : List aty.den) : SV × Heap × List Nat := (SV.tup ([] : List Sx.SV), T13.rows (1 : Int) { data := #[] } [] 0 false true (0 : Int) [] 0 false [] 0 (ac ++ [((1 : Int), List.getD [(65533 : Int)] 0 (Ty.dflt (Ty.int IntKind.i32)), (0 : Int), (0 : Int), [], { data := #[] }, { data := #[] })]) (List.length ac + 1), [1, 2, 3, 4])
noncomputable abbrev zT13t0_17 (h : ByteArray) (ac : List aty.den) : SV × Heap × List Nat := (SV.tup ([] : List Sx.SV), T13.rows (0 : Int) h [] 0 false true (0 : Int) [] 0 false [] 0 ac (List.length ac), [1, 2, 3])
noncomputable abbrev zT13t0_18 (h : ByteArray) (ac : List aty.den) : SV × Heap × List Nat := (SV.tup ([] : List Sx.SV), T13.rows (1 : Int) h [] 0 false true (0 : Int) [] 0 false [] 0 ac (List.length ac), [1, 2, 3])
theorem v22_0 (h : ByteArray) (it : List Int) (wr fi : Bool) (mk : Int) (nu : List Int) (fu : Bool) (tx : List Int) (ac : List aty.den) (b : Int) (Q : SV × Heap × List Nat → Prop) (hb : Byte b) (hac : ac.length ≤ 900000) (hok : PS.OK ⟨0, strInts h, it, wr, fi, mk, nu, fu, tx⟩)
    (hq : Goes ⟨0, strInts h, it, wr, fi, mk, nu, fu, tx⟩ ac b Q) : (bodySumm U1 Tryz.prog Tryz.f17 N22 [.ptr 0 0, .lit (.int .u8 b)] (pheap 0 h it wr fi mk nu fu tx ac)).Leads Q := by
  refine Sx.by_text (q :=
   br (decide (b < (32 : Int))) (br ((↑(ByteArray.size h) : Int) == (0 : Int)) (br (b == (24 : Int)) (br (b == (24 : Int)) (Q (zT13t0_17 h ac)) (br (b == (27 : Int)) (Q
   (zT13t0_18 h ac)) (∀ (u0 : Bool), True → br u0 ((zT13t0_8) ∧ br (decide (b < (32 : Int))) ((zT13t0_9) ∧ (zT13t0_6 h it wr fi mk nu fu tx ac b) ∧ ∀ (u1 : T13.PS × List
   (Ty.den T13.aty)), T13.ActOf (zT13t0_2 h it wr fi mk nu fu tx) (2 : Int) b u1 → Q (SV.tup ([] : List Sx.SV), T13.rheap (Prod.fst u1) (ac ++ Prod.snd u1), [1, 2, 3, 4]))
   (br (decide (b < (48 : Int))) ((zT13t0_10) ∧ (zT13t0_1 h it wr fi mk nu fu tx ac b) ∧ ∀ (u2 : T13.PS × List (Ty.den T13.aty)), T13.ActOf (zT13t0_2 h it wr fi mk nu fu tx)
   (1 : Int) b u2 → Q (SV.tup ([] : List Sx.SV), T13.rheap (Prod.fst u2) (ac ++ Prod.snd u2), [1, 2, 3, 4])) (br (decide (b < (64 : Int))) ((zT13t0_11) ∧ (zT13t0_1 h it wr fi
   mk nu fu tx ac b) ∧ ∀ (u3 : T13.PS × List (Ty.den T13.aty)), T13.ActOf (zT13t0_2 h it wr fi mk nu fu tx) (1 : Int) b u3 → Q (SV.tup ([] : List Sx.SV), T13.rheap (Prod.fst
   u3) (ac ++ Prod.snd u3), [1, 2, 3, 4])) (br (decide (b < (127 : Int))) ((zT13t0_12) ∧ (zT13t0_1 h it wr fi mk nu fu tx ac b) ∧ ∀ (u4 : T13.PS × List (Ty.den T13.aty)),
   T13.ActOf (zT13t0_2 h it wr fi mk nu fu tx) (1 : Int) b u4 → Q (SV.tup ([] : List Sx.SV), T13.rheap (Prod.fst u4) (ac ++ Prod.snd u4), [1, 2, 3, 4])) (br (b == (127 :
   Int)) ((zT13t0_13) ∧ (zT13t0_7 h it wr fi mk nu fu tx ac b) ∧ ∀ (u5 : T13.PS × List (Ty.den T13.aty)), T13.ActOf (zT13t0_2 h it wr fi mk nu fu tx) (0 : Int) b u5 → Q
   (SV.tup ([] : List Sx.SV), T13.rheap (Prod.fst u5) (ac ++ Prod.snd u5), [1, 2, 3, 4])) ((zT13t0_14) ∧ (zT13t0_1 h it wr fi mk nu fu tx ac b) ∧ ∀ (u6 : T13.PS × List
   (Ty.den T13.aty)), T13.ActOf (zT13t0_2 h it wr fi mk nu fu tx) (1 : Int) b u6 → Q (SV.tup ([] : List Sx.SV), T13.rheap (Prod.fst u6) (ac ++ Prod.snd u6), [1, 2, 3,
   4]))))))) (br (decide (b < (32 : Int))) ((zT13t0_8) ∧ (zT13t0_9) ∧ (zT13t0_6 h it wr fi mk nu fu tx ac b) ∧ ∀ (u7 : T13.PS × List (Ty.den T13.aty)), T13.ActOf (zT13t0_2 h
   it wr fi mk nu fu tx) (2 : Int) b u7 → Q (SV.tup ([] : List Sx.SV), T13.rheap (Prod.fst u7) (ac ++ Prod.snd u7), [1, 2, 3, 4])) (br (decide (b < (48 : Int))) ((zT13t0_8) ∧
   (zT13t0_10) ∧ (zT13t0_1 h it wr fi mk nu fu tx ac b) ∧ ∀ (u8 : T13.PS × List (Ty.den T13.aty)), T13.ActOf (zT13t0_2 h it wr fi mk nu fu tx) (1 : Int) b u8 → Q (SV.tup ([]
   : List Sx.SV), T13.rheap (Prod.fst u8) (ac ++ Prod.snd u8), [1, 2, 3, 4])) (br (decide (b < (64 : Int))) ((zT13t0_8) ∧ (zT13t0_11) ∧ (zT13t0_1 h it wr fi mk nu fu tx ac b)
   ∧ ∀ (u9 : T13.PS × List (Ty.den T13.aty)), T13.ActOf (zT13t0_2 h it wr fi mk nu fu tx) (1 : Int) b u9 → Q (SV.tup ([] : List Sx.SV), T13.rheap (Prod.fst u9) (ac ++
   Prod.snd u9), [1, 2, 3, 4])) (br (decide (b < (127 : Int))) ((zT13t0_8) ∧ (zT13t0_12) ∧ (zT13t0_1 h it wr fi mk nu fu tx ac b) ∧ ∀ (u10 : T13.PS × List (Ty.den T13.aty)),
   T13.ActOf (zT13t0_2 h it wr fi mk nu fu tx) (1 : Int) b u10 → Q (SV.tup ([] : List Sx.SV), T13.rheap (Prod.fst u10) (ac ++ Prod.snd u10), [1, 2, 3, 4])) (br (b == (127 :
   Int)) ((zT13t0_8) ∧ (zT13t0_13) ∧ (zT13t0_7 h it wr fi mk nu fu tx ac b) ∧ ∀ (u11 : T13.PS × List (Ty.den T13.aty)), T13.ActOf (zT13t0_2 h it wr fi mk nu fu tx) (0 : Int)
   b u11 → Q (SV.tup ([] : List Sx.SV), T13.rheap (Prod.fst u11) (ac ++ Prod.snd u11), [1, 2, 3, 4])) ((zT13t0_8) ∧ (zT13t0_14) ∧ (zT13t0_1 h it wr fi mk nu fu tx ac b) ∧ ∀
   (u12 : T13.PS × List (Ty.den T13.aty)), T13.ActOf (zT13t0_2 h it wr fi mk nu fu tx) (1 : Int) b u12 → Q (SV.tup ([] : List Sx.SV), T13.rheap (Prod.fst u12) (ac ++ Prod.snd
   u12), [1, 2, 3, 4])))))))))) (br (b == (26 : Int)) (Q (zT13t0_17 h ac)) (br (b == (27 : Int)) (Q (zT13t0_18 h ac)) (∀ (u13 : Bool), True → br u13 ((zT13t0_8) ∧ br (decide
   (b < (32 : Int))) ((zT13t0_9) ∧ (zT13t0_6 h it wr fi mk nu fu tx ac b) ∧ ∀ (u14 : T13.PS × List (Ty.den T13.aty)), T13.ActOf (zT13t0_2 h it wr fi mk nu fu tx) (2 : Int) b
   u14 → Q (SV.tup ([] : List Sx.SV), T13.rheap (Prod.fst u14) (ac ++ Prod.snd u14), [1, 2, 3, 4])) (br (decide (b < (48 : Int))) ((zT13t0_10) ∧ (zT13t0_1 h it wr fi mk nu fu
   tx ac b) ∧ ∀ (u15 : T13.PS × List (Ty.den T13.aty)), T13.ActOf (zT13t0_2 h it wr fi mk nu fu tx) (1 : Int) b u15 → Q (SV.tup ([] : List Sx.SV), T13.rheap (Prod.fst u15)
   (ac ++ Prod.snd u15), [1, 2, 3, 4])) (br (decide (b < (64 : Int))) ((zT13t0_11) ∧ (zT13t0_1 h it wr fi mk nu fu tx ac b) ∧ ∀ (u16 : T13.PS × List (Ty.den T13.aty)),
   T13.ActOf (zT13t0_2 h it wr fi mk nu fu tx) (1 : Int) b u16 → Q (SV.tup ([] : List Sx.SV), T13.rheap (Prod.fst u16) (ac ++ Prod.snd u16), [1, 2, 3, 4])) (br (decide (b <
   (127 : Int))) ((zT13t0_12) ∧ (zT13t0_1 h it wr fi mk nu fu tx ac b) ∧ ∀ (u17 : T13.PS × List (Ty.den T13.aty)), T13.ActOf (zT13t0_2 h it wr fi mk nu fu tx) (1 : Int) b u17
   → Q (SV.tup ([] : List Sx.SV), T13.rheap (Prod.fst u17) (ac ++ Prod.snd u17), [1, 2, 3, 4])) (br (b == (127 : Int)) ((zT13t0_13) ∧ (zT13t0_7 h it wr fi mk nu fu tx ac b) ∧
   ∀ (u18 : T13.PS × List (Ty.den T13.aty)), T13.ActOf (zT13t0_2 h it wr fi mk nu fu tx) (0 : Int) b u18 → Q (SV.tup ([] : List Sx.SV), T13.rheap (Prod.fst u18) (ac ++
   Prod.snd u18), [1, 2, 3, 4])) ((zT13t0_14) ∧ (zT13t0_1 h it wr fi mk nu fu tx ac b) ∧ ∀ (u19 : T13.PS × List (Ty.den T13.aty)), T13.ActOf (zT13t0_2 h it wr fi mk nu fu tx)
   (1 : Int) b u19 → Q (SV.tup ([] : List Sx.SV), T13.rheap (Prod.fst u19) (ac ++ Prod.snd u19), [1, 2, 3, 4]))))))) (br (decide (b < (32 : Int))) ((zT13t0_8) ∧ (zT13t0_9) ∧
   (zT13t0_6 h it wr fi mk nu fu tx ac b) ∧ ∀ (u20 : T13.PS × List (Ty.den T13.aty)), T13.ActOf (zT13t0_2 h it wr fi mk nu fu tx) (2 : Int) b u20 → Q (SV.tup ([] : List
   Sx.SV), T13.rheap (Prod.fst u20) (ac ++ Prod.snd u20), [1, 2, 3, 4])) (br (decide (b < (48 : Int))) ((zT13t0_8) ∧ (zT13t0_10) ∧ (zT13t0_1 h it wr fi mk nu fu tx ac b) ∧ ∀
   (u21 : T13.PS × List (Ty.den T13.aty)), T13.ActOf (zT13t0_2 h it wr fi mk nu fu tx) (1 : Int) b u21 → Q (SV.tup ([] : List Sx.SV), T13.rheap (Prod.fst u21) (ac ++ Prod.snd
   u21), [1, 2, 3, 4])) (br (decide (b < (64 : Int))) ((zT13t0_8) ∧ (zT13t0_11) ∧ (zT13t0_1 h it wr fi mk nu fu tx ac b) ∧ ∀ (u22 : T13.PS × List (Ty.den T13.aty)), T13.ActOf
   (zT13t0_2 h it wr fi mk nu fu tx) (1 : Int) b u22 → Q (SV.tup ([] : List Sx.SV), T13.rheap (Prod.fst u22) (ac ++ Prod.snd u22), [1, 2, 3, 4])) (br (decide (b < (127 :
   Int))) ((zT13t0_8) ∧ (zT13t0_12) ∧ (zT13t0_1 h it wr fi mk nu fu tx ac b) ∧ ∀ (u23 : T13.PS × List (Ty.den T13.aty)), T13.ActOf (zT13t0_2 h it wr fi mk nu fu tx) (1 : Int)
   b u23 → Q (SV.tup ([] : List Sx.SV), T13.rheap (Prod.fst u23) (ac ++ Prod.snd u23), [1, 2, 3, 4])) (br (b == (127 : Int)) ((zT13t0_8) ∧ (zT13t0_13) ∧ (zT13t0_7 h it wr fi
   mk nu fu tx ac b) ∧ ∀ (u24 : T13.PS × List (Ty.den T13.aty)), T13.ActOf (zT13t0_2 h it wr fi mk nu fu tx) (0 : Int) b u24 → Q (SV.tup ([] : List Sx.SV), T13.rheap
   (Prod.fst u24) (ac ++ Prod.snd u24), [1, 2, 3, 4])) ((zT13t0_8) ∧ (zT13t0_14) ∧ (zT13t0_1 h it wr fi mk nu fu tx ac b) ∧ ∀ (u25 : T13.PS × List (Ty.den T13.aty)),
   T13.ActOf (zT13t0_2 h it wr fi mk nu fu tx) (1 : Int) b u25 → Q (SV.tup ([] : List Sx.SV), T13.rheap (Prod.fst u25) (ac ++ Prod.snd u25), [1, 2, 3, 4]))))))))))) (((0 :
   Int) ≤ (0 : Int) ∧ (0 : Int) < (↑(1 : Nat) : Int)) ∧ 0 < 1 ∧ 0 ≤ 0 ∧ (List.length ac = List.length ac ∧ 1 = 1) ∧ ((↑(List.length ac + 1) : Int) ≤ (9223372036854775807 :
   Int) ∧ (List.length ac + 1) * Sx.bytesOf Go.Proofs.Tryz.prog 69 ≤ 140737488355328) ∧ br (b == (24 : Int)) (br (b == (24 : Int)) (Q (zT13t0_15 ac)) (br (b == (27 : Int)) (Q
   (zT13t0_16 ac)) (∀ (u26 : Bool), True → br u26 ((zT13t0_8) ∧ br (decide (b < (32 : Int))) ((zT13t0_9) ∧ (zT13t0_4 it wr fi mk nu fu tx ac b) ∧ ∀ (u27 : T13.PS × List
   (Ty.den T13.aty)), T13.ActOf (zT13t0_3 it wr fi mk nu fu tx) (2 : Int) b u27 → Q (SV.tup ([] : List Sx.SV), T13.rheap (Prod.fst u27) (ac ++ [((1 : Int), List.getD [(65533
   : Int)] 0 (Ty.dflt (Ty.int IntKind.i32)), (0 : Int), (0 : Int), [], { data := #[] }, { data := #[] })] ++ Prod.snd u27), [1, 2, 3, 4])) (br (decide (b < (48 : Int)))
   ((zT13t0_10) ∧ (zT13t0_0 it wr fi mk nu fu tx ac b) ∧ ∀ (u28 : T13.PS × List (Ty.den T13.aty)), T13.ActOf (zT13t0_3 it wr fi mk nu fu tx) (1 : Int) b u28 → Q (SV.tup ([] :
   List Sx.SV), T13.rheap (Prod.fst u28) (ac ++ [((1 : Int), List.getD [(65533 : Int)] 0 (Ty.dflt (Ty.int IntKind.i32)), (0 : Int), (0 : Int), [], { data := #[] }, { data :=
   #[] })] ++ Prod.snd u28), [1, 2, 3, 4])) (br (decide (b < (64 : Int))) ((zT13t0_11) ∧ (zT13t0_0 it wr fi mk nu fu tx ac b) ∧ ∀ (u29 : T13.PS × List (Ty.den T13.aty)),
   T13.ActOf (zT13t0_3 it wr fi mk nu fu tx) (1 : Int) b u29 → Q (SV.tup ([] : List Sx.SV), T13.rheap (Prod.fst u29) (ac ++ [((1 : Int), List.getD [(65533 : Int)] 0 (Ty.dflt
   (Ty.int IntKind.i32)), (0 : Int), (0 : Int), [], { data := #[] }, { data := #[] })] ++ Prod.snd u29), [1, 2, 3, 4])) (br (decide (b < (127 : Int))) ((zT13t0_12) ∧
   (zT13t0_0 it wr fi mk nu fu tx ac b) ∧ ∀ (u30 : T13.PS × List (Ty.den T13.aty)), T13.ActOf (zT13t0_3 it wr fi mk nu fu tx) (1 : Int) b u30 → Q (SV.tup ([] : List Sx.SV),
   T13.rheap (Prod.fst u30) (ac ++ [((1 : Int), List.getD [(65533 : Int)] 0 (Ty.dflt (Ty.int IntKind.i32)), (0 : Int), (0 : Int), [], { data := #[] }, { data := #[] })] ++
   Prod.snd u30), [1, 2, 3, 4])) (br (b == (127 : Int)) ((zT13t0_13) ∧ (zT13t0_5 it wr fi mk nu fu tx ac b) ∧ ∀ (u31 : T13.PS × List (Ty.den T13.aty)), T13.ActOf (zT13t0_3 it
   wr fi mk nu fu tx) (0 : Int) b u31 → Q (SV.tup ([] : List Sx.SV), T13.rheap (Prod.fst u31) (ac ++ [((1 : Int), List.getD [(65533 : Int)] 0 (Ty.dflt (Ty.int IntKind.i32)),
   (0 : Int), (0 : Int), [], { data := #[] }, { data := #[] })] ++ Prod.snd u31), [1, 2, 3, 4])) ((zT13t0_14) ∧ (zT13t0_0 it wr fi mk nu fu tx ac b) ∧ ∀ (u32 : T13.PS × List
   (Ty.den T13.aty)), T13.ActOf (zT13t0_3 it wr fi mk nu fu tx) (1 : Int) b u32 → Q (SV.tup ([] : List Sx.SV), T13.rheap (Prod.fst u32) (ac ++ [((1 : Int), List.getD [(65533
   : Int)] 0 (Ty.dflt (Ty.int IntKind.i32)), (0 : Int), (0 : Int), [], { data := #[] }, { data := #[] })] ++ Prod.snd u32), [1, 2, 3, 4]))))))) (br (decide (b < (32 : Int)))
   ((zT13t0_8) ∧ (zT13t0_9) ∧ (zT13t0_4 it wr fi mk nu fu tx ac b) ∧ ∀ (u33 : T13.PS × List (Ty.den T13.aty)), T13.ActOf (zT13t0_3 it wr fi mk nu fu tx) (2 : Int) b u33 → Q
   (SV.tup ([] : List Sx.SV), T13.rheap (Prod.fst u33) (ac ++ [((1 : Int), List.getD [(65533 : Int)] 0 (Ty.dflt (Ty.int IntKind.i32)), (0 : Int), (0 : Int), [], { data := #[]
   }, { data := #[] })] ++ Prod.snd u33), [1, 2, 3, 4])) (br (decide (b < (48 : Int))) ((zT13t0_8) ∧ (zT13t0_10) ∧ (zT13t0_0 it wr fi mk nu fu tx ac b) ∧ ∀ (u34 : T13.PS ×
   List (Ty.den T13.aty)), T13.ActOf (zT13t0_3 it wr fi mk nu fu tx) (1 : Int) b u34 → Q (SV.tup ([] : List Sx.SV), T13.rheap (Prod.fst u34) (ac ++ [((1 : Int), List.getD
   [(65533 : Int)] 0 (Ty.dflt (Ty.int IntKind.i32)), (0 : Int), (0 : Int), [], { data := #[] }, { data := #[] })] ++ Prod.snd u34), [1, 2, 3, 4])) (br (decide (b < (64 :
   Int))) ((zT13t0_8) ∧ (zT13t0_11) ∧ (zT13t0_0 it wr fi mk nu fu tx ac b) ∧ ∀ (u35 : T13.PS × List (Ty.den T13.aty)), T13.ActOf (zT13t0_3 it wr fi mk nu fu tx) (1 : Int) b
   u35 → Q (SV.tup ([] : List Sx.SV), T13.rheap (Prod.fst u35) (ac ++ [((1 : Int), List.getD [(65533 : Int)] 0 (Ty.dflt (Ty.int IntKind.i32)), (0 : Int), (0 : Int), [], {
   data := #[] }, { data := #[] })] ++ Prod.snd u35), [1, 2, 3, 4])) (br (decide (b < (127 : Int))) ((zT13t0_8) ∧ (zT13t0_12) ∧ (zT13t0_0 it wr fi mk nu fu tx ac b) ∧ ∀ (u36
   : T13.PS × List (Ty.den T13.aty)), T13.ActOf (zT13t0_3 it wr fi mk nu fu tx) (1 : Int) b u36 → Q (SV.tup ([] : List Sx.SV), T13.rheap (Prod.fst u36) (ac ++ [((1 : Int),
   List.getD [(65533 : Int)] 0 (Ty.dflt (Ty.int IntKind.i32)), (0 : Int), (0 : Int), [], { data := #[] }, { data := #[] })] ++ Prod.snd u36), [1, 2, 3, 4])) (br (b == (127 :
   Int)) ((zT13t0_8) ∧ (zT13t0_13) ∧ (zT13t0_5 it wr fi mk nu fu tx ac b) ∧ ∀ (u37 : T13.PS × List (Ty.den T13.aty)), T13.ActOf (zT13t0_3 it wr fi mk nu fu tx) (0 : Int) b
   u37 → Q (SV.tup ([] : List Sx.SV), T13.rheap (Prod.fst u37) (ac ++ [((1 : Int), List.getD [(65533 : Int)] 0 (Ty.dflt (Ty.int IntKind.i32)), (0 : Int), (0 : Int), [], {
   data := #[] }, { data := #[] })] ++ Prod.snd u37), [1, 2, 3, 4])) ((zT13t0_8) ∧ (zT13t0_14) ∧ (zT13t0_0 it wr fi mk nu fu tx ac b) ∧ ∀ (u38 : T13.PS × List (Ty.den
   T13.aty)), T13.ActOf (zT13t0_3 it wr fi mk nu fu tx) (1 : Int) b u38 → Q (SV.tup ([] : List Sx.SV), T13.rheap (Prod.fst u38) (ac ++ [((1 : Int), List.getD [(65533 : Int)]
   0 (Ty.dflt (Ty.int IntKind.i32)), (0 : Int), (0 : Int), [], { data := #[] }, { data := #[] })] ++ Prod.snd u38), [1, 2, 3, 4])))))))))) (br (b == (26 : Int)) (Q (zT13t0_15
   ac)) (br (b == (27 : Int)) (Q (zT13t0_16 ac)) (∀ (u39 : Bool), True → br u39 ((zT13t0_8) ∧ br (decide (b < (32 : Int))) ((zT13t0_9) ∧ (zT13t0_4 it wr fi mk nu fu tx ac b)
   ∧ ∀ (u40 : T13.PS × List (Ty.den T13.aty)), T13.ActOf (zT13t0_3 it wr fi mk nu fu tx) (2 : Int) b u40 → Q (SV.tup ([] : List Sx.SV), T13.rheap (Prod.fst u40) (ac ++ [((1 :
   Int), List.getD [(65533 : Int)] 0 (Ty.dflt (Ty.int IntKind.i32)), (0 : Int), (0 : Int), [], { data := #[] }, { data := #[] })] ++ Prod.snd u40), [1, 2, 3, 4])) (br (decide
   (b < (48 : Int))) ((zT13t0_10) ∧ (zT13t0_0 it wr fi mk nu fu tx ac b) ∧ ∀ (u41 : T13.PS × List (Ty.den T13.aty)), T13.ActOf (zT13t0_3 it wr fi mk nu fu tx) (1 : Int) b u41
   → Q (SV.tup ([] : List Sx.SV), T13.rheap (Prod.fst u41) (ac ++ [((1 : Int), List.getD [(65533 : Int)] 0 (Ty.dflt (Ty.int IntKind.i32)), (0 : Int), (0 : Int), [], { data :=
   #[] }, { data := #[] })] ++ Prod.snd u41), [1, 2, 3, 4])) (br (decide (b < (64 : Int))) ((zT13t0_11) ∧ (zT13t0_0 it wr fi mk nu fu tx ac b) ∧ ∀ (u42 : T13.PS × List
   (Ty.den T13.aty)), T13.ActOf (zT13t0_3 it wr fi mk nu fu tx) (1 : Int) b u42 → Q (SV.tup ([] : List Sx.SV), T13.rheap (Prod.fst u42) (ac ++ [((1 : Int), List.getD [(65533
   : Int)] 0 (Ty.dflt (Ty.int IntKind.i32)), (0 : Int), (0 : Int), [], { data := #[] }, { data := #[] })] ++ Prod.snd u42), [1, 2, 3, 4])) (br (decide (b < (127 : Int)))
   ((zT13t0_12) ∧ (zT13t0_0 it wr fi mk nu fu tx ac b) ∧ ∀ (u43 : T13.PS × List (Ty.den T13.aty)), T13.ActOf (zT13t0_3 it wr fi mk nu fu tx) (1 : Int) b u43 → Q (SV.tup ([] :
   List Sx.SV), T13.rheap (Prod.fst u43) (ac ++ [((1 : Int), List.getD [(65533 : Int)] 0 (Ty.dflt (Ty.int IntKind.i32)), (0 : Int), (0 : Int), [], { data := #[] }, { data :=
   #[] })] ++ Prod.snd u43), [1, 2, 3, 4])) (br (b == (127 : Int)) ((zT13t0_13) ∧ (zT13t0_5 it wr fi mk nu fu tx ac b) ∧ ∀ (u44 : T13.PS × List (Ty.den T13.aty)), T13.ActOf
   (zT13t0_3 it wr fi mk nu fu tx) (0 : Int) b u44 → Q (SV.tup ([] : List Sx.SV), T13.rheap (Prod.fst u44) (ac ++ [((1 : Int), List.getD [(65533 : Int)] 0 (Ty.dflt (Ty.int
   IntKind.i32)), (0 : Int), (0 : Int), [], { data := #[] }, { data := #[] })] ++ Prod.snd u44), [1, 2, 3, 4])) ((zT13t0_14) ∧ (zT13t0_0 it wr fi mk nu fu tx ac b) ∧ ∀ (u45 :
   T13.PS × List (Ty.den T13.aty)), T13.ActOf (zT13t0_3 it wr fi mk nu fu tx) (1 : Int) b u45 → Q (SV.tup ([] : List Sx.SV), T13.rheap (Prod.fst u45) (ac ++ [((1 : Int),
   List.getD [(65533 : Int)] 0 (Ty.dflt (Ty.int IntKind.i32)), (0 : Int), (0 : Int), [], { data := #[] }, { data := #[] })] ++ Prod.snd u45), [1, 2, 3, 4]))))))) (br (decide
   (b < (32 : Int))) ((zT13t0_8) ∧ (zT13t0_9) ∧ (zT13t0_4 it wr fi mk nu fu tx ac b) ∧ ∀ (u46 : T13.PS × List (Ty.den T13.aty)), T13.ActOf (zT13t0_3 it wr fi mk nu fu tx) (2
   : Int) b u46 → Q (SV.tup ([] : List Sx.SV), T13.rheap (Prod.fst u46) (ac ++ [((1 : Int), List.getD [(65533 : Int)] 0 (Ty.dflt (Ty.int IntKind.i32)), (0 : Int), (0 : Int),
   [], { data := #[] }, { data := #[] })] ++ Prod.snd u46), [1, 2, 3, 4])) (br (decide (b < (48 : Int))) ((zT13t0_8) ∧ (zT13t0_10) ∧ (zT13t0_0 it wr fi mk nu fu tx ac b) ∧ ∀
   (u47 : T13.PS × List (Ty.den T13.aty)), T13.ActOf (zT13t0_3 it wr fi mk nu fu tx) (1 : Int) b u47 → Q (SV.tup ([] : List Sx.SV), T13.rheap (Prod.fst u47) (ac ++ [((1 :
   Int), List.getD [(65533 : Int)] 0 (Ty.dflt (Ty.int IntKind.i32)), (0 : Int), (0 : Int), [], { data := #[] }, { data := #[] })] ++ Prod.snd u47), [1, 2, 3, 4])) (br (decide
   (b < (64 : Int))) ((zT13t0_8) ∧ (zT13t0_11) ∧ (zT13t0_0 it wr fi mk nu fu tx ac b) ∧ ∀ (u48 : T13.PS × List (Ty.den T13.aty)), T13.ActOf (zT13t0_3 it wr fi mk nu fu tx) (1
   : Int) b u48 → Q (SV.tup ([] : List Sx.SV), T13.rheap (Prod.fst u48) (ac ++ [((1 : Int), List.getD [(65533 : Int)] 0 (Ty.dflt (Ty.int IntKind.i32)), (0 : Int), (0 : Int),
   [], { data := #[] }, { data := #[] })] ++ Prod.snd u48), [1, 2, 3, 4])) (br (decide (b < (127 : Int))) ((zT13t0_8) ∧ (zT13t0_12) ∧ (zT13t0_0 it wr fi mk nu fu tx ac b) ∧ ∀
   (u49 : T13.PS × List (Ty.den T13.aty)), T13.ActOf (zT13t0_3 it wr fi mk nu fu tx) (1 : Int) b u49 → Q (SV.tup ([] : List Sx.SV), T13.rheap (Prod.fst u49) (ac ++ [((1 :
   Int), List.getD [(65533 : Int)] 0 (Ty.dflt (Ty.int IntKind.i32)), (0 : Int), (0 : Int), [], { data := #[] }, { data := #[] })] ++ Prod.snd u49), [1, 2, 3, 4])) (br (b ==
   (127 : Int)) ((zT13t0_8) ∧ (zT13t0_13) ∧ (zT13t0_5 it wr fi mk nu fu tx ac b) ∧ ∀ (u50 : T13.PS × List (Ty.den T13.aty)), T13.ActOf (zT13t0_3 it wr fi mk nu fu tx) (0 :
   Int) b u50 → Q (SV.tup ([] : List Sx.SV), T13.rheap (Prod.fst u50) (ac ++ [((1 : Int), List.getD [(65533 : Int)] 0 (Ty.dflt (Ty.int IntKind.i32)), (0 : Int), (0 : Int),
   [], { data := #[] }, { data := #[] })] ++ Prod.snd u50), [1, 2, 3, 4])) ((zT13t0_8) ∧ (zT13t0_14) ∧ (zT13t0_0 it wr fi mk nu fu tx ac b) ∧ ∀ (u51 : T13.PS × List (Ty.den
   T13.aty)), T13.ActOf (zT13t0_3 it wr fi mk nu fu tx) (1 : Int) b u51 → Q (SV.tup ([] : List Sx.SV), T13.rheap (Prod.fst u51) (ac ++ [((1 : Int), List.getD [(65533 : Int)]
   0 (Ty.dflt (Ty.int IntKind.i32)), (0 : Int), (0 : Int), [], { data := #[] }, { data := #[] })] ++ Prod.snd u51), [1, 2, 3, 4])))))))))))) (br (b == (127 : Int)) (br
   ((↑(ByteArray.size h) : Int) == (0 : Int)) (br (b == (24 : Int)) (br (b == (24 : Int)) (Q (zT13t0_17 h ac)) (br (b == (27 : Int)) (Q (zT13t0_18 h ac)) (∀ (u52 : Bool),
   True → br u52 ((zT13t0_8) ∧ br (decide (b < (32 : Int))) ((zT13t0_9) ∧ (zT13t0_6 h it wr fi mk nu fu tx ac b) ∧ ∀ (u53 : T13.PS × List (Ty.den T13.aty)), T13.ActOf
   (zT13t0_2 h it wr fi mk nu fu tx) (2 : Int) b u53 → Q (SV.tup ([] : List Sx.SV), T13.rheap (Prod.fst u53) (ac ++ Prod.snd u53), [1, 2, 3, 4])) (br (decide (b < (48 :
   Int))) ((zT13t0_10) ∧ (zT13t0_1 h it wr fi mk nu fu tx ac b) ∧ ∀ (u54 : T13.PS × List (Ty.den T13.aty)), T13.ActOf (zT13t0_2 h it wr fi mk nu fu tx) (1 : Int) b u54 → Q
   (SV.tup ([] : List Sx.SV), T13.rheap (Prod.fst u54) (ac ++ Prod.snd u54), [1, 2, 3, 4])) (br (decide (b < (64 : Int))) ((zT13t0_11) ∧ (zT13t0_1 h it wr fi mk nu fu tx ac
   b) ∧ ∀ (u55 : T13.PS × List (Ty.den T13.aty)), T13.ActOf (zT13t0_2 h it wr fi mk nu fu tx) (1 : Int) b u55 → Q (SV.tup ([] : List Sx.SV), T13.rheap (Prod.fst u55) (ac ++
   Prod.snd u55), [1, 2, 3, 4])) (br (decide (b < (127 : Int))) ((zT13t0_12) ∧ (zT13t0_1 h it wr fi mk nu fu tx ac b) ∧ ∀ (u56 : T13.PS × List (Ty.den T13.aty)), T13.ActOf
   (zT13t0_2 h it wr fi mk nu fu tx) (1 : Int) b u56 → Q (SV.tup ([] : List Sx.SV), T13.rheap (Prod.fst u56) (ac ++ Prod.snd u56), [1, 2, 3, 4])) (br (b == (127 : Int))
   ((zT13t0_13) ∧ (zT13t0_7 h it wr fi mk nu fu tx ac b) ∧ ∀ (u57 : T13.PS × List (Ty.den T13.aty)), T13.ActOf (zT13t0_2 h it wr fi mk nu fu tx) (0 : Int) b u57 → Q (SV.tup
   ([] : List Sx.SV), T13.rheap (Prod.fst u57) (ac ++ Prod.snd u57), [1, 2, 3, 4])) ((zT13t0_14) ∧ (zT13t0_1 h it wr fi mk nu fu tx ac b) ∧ ∀ (u58 : T13.PS × List (Ty.den
   T13.aty)), T13.ActOf (zT13t0_2 h it wr fi mk nu fu tx) (1 : Int) b u58 → Q (SV.tup ([] : List Sx.SV), T13.rheap (Prod.fst u58) (ac ++ Prod.snd u58), [1, 2, 3, 4])))))))
   (br (decide (b < (32 : Int))) ((zT13t0_8) ∧ (zT13t0_9) ∧ (zT13t0_6 h it wr fi mk nu fu tx ac b) ∧ ∀ (u59 : T13.PS × List (Ty.den T13.aty)), T13.ActOf (zT13t0_2 h it wr fi
   mk nu fu tx) (2 : Int) b u59 → Q (SV.tup ([] : List Sx.SV), T13.rheap (Prod.fst u59) (ac ++ Prod.snd u59), [1, 2, 3, 4])) (br (decide (b < (48 : Int))) ((zT13t0_8) ∧
   (zT13t0_10) ∧ (zT13t0_1 h it wr fi mk nu fu tx ac b) ∧ ∀ (u60 : T13.PS × List (Ty.den T13.aty)), T13.ActOf (zT13t0_2 h it wr fi mk nu fu tx) (1 : Int) b u60 → Q (SV.tup
   ([] : List Sx.SV), T13.rheap (Prod.fst u60) (ac ++ Prod.snd u60), [1, 2, 3, 4])) (br (decide (b < (64 : Int))) ((zT13t0_8) ∧ (zT13t0_11) ∧ (zT13t0_1 h it wr fi mk nu fu tx
   ac b) ∧ ∀ (u61 : T13.PS × List (Ty.den T13.aty)), T13.ActOf (zT13t0_2 h it wr fi mk nu fu tx) (1 : Int) b u61 → Q (SV.tup ([] : List Sx.SV), T13.rheap (Prod.fst u61) (ac
   ++ Prod.snd u61), [1, 2, 3, 4])) (br (decide (b < (127 : Int))) ((zT13t0_8) ∧ (zT13t0_12) ∧ (zT13t0_1 h it wr fi mk nu fu tx ac b) ∧ ∀ (u62 : T13.PS × List (Ty.den
   T13.aty)), T13.ActOf (zT13t0_2 h it wr fi mk nu fu tx) (1 : Int) b u62 → Q (SV.tup ([] : List Sx.SV), T13.rheap (Prod.fst u62) (ac ++ Prod.snd u62), [1, 2, 3, 4])) (br (b
   == (127 : Int)) ((zT13t0_8) ∧ (zT13t0_13) ∧ (zT13t0_7 h it wr fi mk nu fu tx ac b) ∧ ∀ (u63 : T13.PS × List (Ty.den T13.aty)), T13.ActOf (zT13t0_2 h it wr fi mk nu fu tx)
   (0 : Int) b u63 → Q (SV.tup ([] : List Sx.SV), T13.rheap (Prod.fst u63) (ac ++ Prod.snd u63), [1, 2, 3, 4])) ((zT13t0_8) ∧ (zT13t0_14) ∧ (zT13t0_1 h it wr fi mk nu fu tx
   ac b) ∧ ∀ (u64 : T13.PS × List (Ty.den T13.aty)), T13.ActOf (zT13t0_2 h it wr fi mk nu fu tx) (1 : Int) b u64 → Q (SV.tup ([] : List Sx.SV), T13.rheap (Prod.fst u64) (ac
   ++ Prod.snd u64), [1, 2, 3, 4])))))))))) (br (b == (26 : Int)) (Q (zT13t0_17 h ac)) (br (b == (27 : Int)) (Q (zT13t0_18 h ac)) (∀ (u65 : Bool), True → br u65 ((zT13t0_8) ∧
   br (decide (b < (32 : Int))) ((zT13t0_9) ∧ (zT13t0_6 h it wr fi mk nu fu tx ac b) ∧ ∀ (u66 : T13.PS × List (Ty.den T13.aty)), T13.ActOf (zT13t0_2 h it wr fi mk nu fu tx)
   (2 : Int) b u66 → Q (SV.tup ([] : List Sx.SV), T13.rheap (Prod.fst u66) (ac ++ Prod.snd u66), [1, 2, 3, 4])) (br (decide (b < (48 : Int))) ((zT13t0_10) ∧ (zT13t0_1 h it wr
   fi mk nu fu tx ac b) ∧ ∀ (u67 : T13.PS × List (Ty.den T13.aty)), T13.ActOf (zT13t0_2 h it wr fi mk nu fu tx) (1 : Int) b u67 → Q (SV.tup ([] : List Sx.SV), T13.rheap
   (Prod.fst u67) (ac ++ Prod.snd u67), [1, 2, 3, 4])) (br (decide (b < (64 : Int))) ((zT13t0_11) ∧ (zT13t0_1 h it wr fi mk nu fu tx ac b) ∧ ∀ (u68 : T13.PS × List (Ty.den
   T13.aty)), T13.ActOf (zT13t0_2 h it wr fi mk nu fu tx) (1 : Int) b u68 → Q (SV.tup ([] : List Sx.SV), T13.rheap (Prod.fst u68) (ac ++ Prod.snd u68), [1, 2, 3, 4])) (br
   (decide (b < (127 : Int))) ((zT13t0_12) ∧ (zT13t0_1 h it wr fi mk nu fu tx ac b) ∧ ∀ (u69 : T13.PS × List (Ty.den T13.aty)), T13.ActOf (zT13t0_2 h it wr fi mk nu fu tx) (1
   : Int) b u69 → Q (SV.tup ([] : List Sx.SV), T13.rheap (Prod.fst u69) (ac ++ Prod.snd u69), [1, 2, 3, 4])) (br (b == (127 : Int)) ((zT13t0_13) ∧ (zT13t0_7 h it wr fi mk nu
   fu tx ac b) ∧ ∀ (u70 : T13.PS × List (Ty.den T13.aty)), T13.ActOf (zT13t0_2 h it wr fi mk nu fu tx) (0 : Int) b u70 → Q (SV.tup ([] : List Sx.SV), T13.rheap (Prod.fst u70)
   (ac ++ Prod.snd u70), [1, 2, 3, 4])) ((zT13t0_14) ∧ (zT13t0_1 h it wr fi mk nu fu tx ac b) ∧ ∀ (u71 : T13.PS × List (Ty.den T13.aty)), T13.ActOf (zT13t0_2 h it wr fi mk nu
   fu tx) (1 : Int) b u71 → Q (SV.tup ([] : List Sx.SV), T13.rheap (Prod.fst u71) (ac ++ Prod.snd u71), [1, 2, 3, 4]))))))) (br (decide (b < (32 : Int))) ((zT13t0_8) ∧
   (zT13t0_9) ∧ (zT13t0_6 h it wr fi mk nu fu tx ac b) ∧ ∀ (u72 : T13.PS × List (Ty.den T13.aty)), T13.ActOf (zT13t0_2 h it wr fi mk nu fu tx) (2 : Int) b u72 → Q (SV.tup ([]
   : List Sx.SV), T13.rheap (Prod.fst u72) (ac ++ Prod.snd u72), [1, 2, 3, 4])) (br (decide (b < (48 : Int))) ((zT13t0_8) ∧ (zT13t0_10) ∧ (zT13t0_1 h it wr fi mk nu fu tx ac
   b) ∧ ∀ (u73 : T13.PS × List (Ty.den T13.aty)), T13.ActOf (zT13t0_2 h it wr fi mk nu fu tx) (1 : Int) b u73 → Q (SV.tup ([] : List Sx.SV), T13.rheap (Prod.fst u73) (ac ++
   Prod.snd u73), [1, 2, 3, 4])) (br (decide (b < (64 : Int))) ((zT13t0_8) ∧ (zT13t0_11) ∧ (zT13t0_1 h it wr fi mk nu fu tx ac b) ∧ ∀ (u74 : T13.PS × List (Ty.den T13.aty)),
   T13.ActOf (zT13t0_2 h it wr fi mk nu fu tx) (1 : Int) b u74 → Q (SV.tup ([] : List Sx.SV), T13.rheap (Prod.fst u74) (ac ++ Prod.snd u74), [1, 2, 3, 4])) (br (decide (b <
   (127 : Int))) ((zT13t0_8) ∧ (zT13t0_12) ∧ (zT13t0_1 h it wr fi mk nu fu tx ac b) ∧ ∀ (u75 : T13.PS × List (Ty.den T13.aty)), T13.ActOf (zT13t0_2 h it wr fi mk nu fu tx) (1
   : Int) b u75 → Q (SV.tup ([] : List Sx.SV), T13.rheap (Prod.fst u75) (ac ++ Prod.snd u75), [1, 2, 3, 4])) (br (b == (127 : Int)) ((zT13t0_8) ∧ (zT13t0_13) ∧ (zT13t0_7 h it
   wr fi mk nu fu tx ac b) ∧ ∀ (u76 : T13.PS × List (Ty.den T13.aty)), T13.ActOf (zT13t0_2 h it wr fi mk nu fu tx) (0 : Int) b u76 → Q (SV.tup ([] : List Sx.SV), T13.rheap
   (Prod.fst u76) (ac ++ Prod.snd u76), [1, 2, 3, 4])) ((zT13t0_8) ∧ (zT13t0_14) ∧ (zT13t0_1 h it wr fi mk nu fu tx ac b) ∧ ∀ (u77 : T13.PS × List (Ty.den T13.aty)),
   T13.ActOf (zT13t0_2 h it wr fi mk nu fu tx) (1 : Int) b u77 → Q (SV.tup ([] : List Sx.SV), T13.rheap (Prod.fst u77) (ac ++ Prod.snd u77), [1, 2, 3, 4]))))))))))) (((0 :
   Int) ≤ (0 : Int) ∧ (0 : Int) < (↑(1 : Nat) : Int)) ∧ 0 < 1 ∧ 0 ≤ 0 ∧ (List.length ac = List.length ac ∧ 1 = 1) ∧ ((↑(List.length ac + 1) : Int) ≤ (9223372036854775807 :
   Int) ∧ (List.length ac + 1) * Sx.bytesOf Go.Proofs.Tryz.prog 69 ≤ 140737488355328) ∧ br (b == (24 : Int)) (br (b == (24 : Int)) (Q (zT13t0_15 ac)) (br (b == (27 : Int)) (Q
   (zT13t0_16 ac)) (∀ (u78 : Bool), True → br u78 ((zT13t0_8) ∧ br (decide (b < (32 : Int))) ((zT13t0_9) ∧ (zT13t0_4 it wr fi mk nu fu tx ac b) ∧ ∀ (u79 : T13.PS × List
   (Ty.den T13.aty)), T13.ActOf (zT13t0_3 it wr fi mk nu fu tx) (2 : Int) b u79 → Q (SV.tup ([] : List Sx.SV), T13.rheap (Prod.fst u79) (ac ++ [((1 : Int), List.getD [(65533
   : Int)] 0 (Ty.dflt (Ty.int IntKind.i32)), (0 : Int), (0 : Int), [], { data := #[] }, { data := #[] })] ++ Prod.snd u79), [1, 2, 3, 4])) (br (decide (b < (48 : Int)))
   ((zT13t0_10) ∧ (zT13t0_0 it wr fi mk nu fu tx ac b) ∧ ∀ (u80 : T13.PS × List (Ty.den T13.aty)), T13.ActOf (zT13t0_3 it wr fi mk nu fu tx) (1 : Int) b u80 → Q (SV.tup ([] :
   List Sx.SV), T13.rheap (Prod.fst u80) (ac ++ [((1 : Int), List.getD [(65533 : Int)] 0 (Ty.dflt (Ty.int IntKind.i32)), (0 : Int), (0 : Int), [], { data := #[] }, { data :=
   #[] })] ++ Prod.snd u80), [1, 2, 3, 4])) (br (decide (b < (64 : Int))) ((zT13t0_11) ∧ (zT13t0_0 it wr fi mk nu fu tx ac b) ∧ ∀ (u81 : T13.PS × List (Ty.den T13.aty)),
   T13.ActOf (zT13t0_3 it wr fi mk nu fu tx) (1 : Int) b u81 → Q (SV.tup ([] : List Sx.SV), T13.rheap (Prod.fst u81) (ac ++ [((1 : Int), List.getD [(65533 : Int)] 0 (Ty.dflt
   (Ty.int IntKind.i32)), (0 : Int), (0 : Int), [], { data := #[] }, { data := #[] })] ++ Prod.snd u81), [1, 2, 3, 4])) (br (decide (b < (127 : Int))) ((zT13t0_12) ∧
   (zT13t0_0 it wr fi mk nu fu tx ac b) ∧ ∀ (u82 : T13.PS × List (Ty.den T13.aty)), T13.ActOf (zT13t0_3 it wr fi mk nu fu tx) (1 : Int) b u82 → Q (SV.tup ([] : List Sx.SV),
   T13.rheap (Prod.fst u82) (ac ++ [((1 : Int), List.getD [(65533 : Int)] 0 (Ty.dflt (Ty.int IntKind.i32)), (0 : Int), (0 : Int), [], { data := #[] }, { data := #[] })] ++
   Prod.snd u82), [1, 2, 3, 4])) (br (b == (127 : Int)) ((zT13t0_13) ∧ (zT13t0_5 it wr fi mk nu fu tx ac b) ∧ ∀ (u83 : T13.PS × List (Ty.den T13.aty)), T13.ActOf (zT13t0_3 it
   wr fi mk nu fu tx) (0 : Int) b u83 → Q (SV.tup ([] : List Sx.SV), T13.rheap (Prod.fst u83) (ac ++ [((1 : Int), List.getD [(65533 : Int)] 0 (Ty.dflt (Ty.int IntKind.i32)),
   (0 : Int), (0 : Int), [], { data := #[] }, { data := #[] })] ++ Prod.snd u83), [1, 2, 3, 4])) ((zT13t0_14) ∧ (zT13t0_0 it wr fi mk nu fu tx ac b) ∧ ∀ (u84 : T13.PS × List
   (Ty.den T13.aty)), T13.ActOf (zT13t0_3 it wr fi mk nu fu tx) (1 : Int) b u84 → Q (SV.tup ([] : List Sx.SV), T13.rheap (Prod.fst u84) (ac ++ [((1 : Int), List.getD [(65533
   : Int)] 0 (Ty.dflt (Ty.int IntKind.i32)), (0 : Int), (0 : Int), [], { data := #[] }, { data := #[] })] ++ Prod.snd u84), [1, 2, 3, 4]))))))) (br (decide (b < (32 : Int)))
   ((zT13t0_8) ∧ (zT13t0_9) ∧ (zT13t0_4 it wr fi mk nu fu tx ac b) ∧ ∀ (u85 : T13.PS × List (Ty.den T13.aty)), T13.ActOf (zT13t0_3 it wr fi mk nu fu tx) (2 : Int) b u85 → Q
   (SV.tup ([] : List Sx.SV), T13.rheap (Prod.fst u85) (ac ++ [((1 : Int), List.getD [(65533 : Int)] 0 (Ty.dflt (Ty.int IntKind.i32)), (0 : Int), (0 : Int), [], { data := #[]
   }, { data := #[] })] ++ Prod.snd u85), [1, 2, 3, 4])) (br (decide (b < (48 : Int))) ((zT13t0_8) ∧ (zT13t0_10) ∧ (zT13t0_0 it wr fi mk nu fu tx ac b) ∧ ∀ (u86 : T13.PS ×
   List (Ty.den T13.aty)), T13.ActOf (zT13t0_3 it wr fi mk nu fu tx) (1 : Int) b u86 → Q (SV.tup ([] : List Sx.SV), T13.rheap (Prod.fst u86) (ac ++ [((1 : Int), List.getD
   [(65533 : Int)] 0 (Ty.dflt (Ty.int IntKind.i32)), (0 : Int), (0 : Int), [], { data := #[] }, { data := #[] })] ++ Prod.snd u86), [1, 2, 3, 4])) (br (decide (b < (64 :
   Int))) ((zT13t0_8) ∧ (zT13t0_11) ∧ (zT13t0_0 it wr fi mk nu fu tx ac b) ∧ ∀ (u87 : T13.PS × List (Ty.den T13.aty)), T13.ActOf (zT13t0_3 it wr fi mk nu fu tx) (1 : Int) b
   u87 → Q (SV.tup ([] : List Sx.SV), T13.rheap (Prod.fst u87) (ac ++ [((1 : Int), List.getD [(65533 : Int)] 0 (Ty.dflt (Ty.int IntKind.i32)), (0 : Int), (0 : Int), [], {
   data := #[] }, { data := #[] })] ++ Prod.snd u87), [1, 2, 3, 4])) (br (decide (b < (127 : Int))) ((zT13t0_8) ∧ (zT13t0_12) ∧ (zT13t0_0 it wr fi mk nu fu tx ac b) ∧ ∀ (u88
   : T13.PS × List (Ty.den T13.aty)), T13.ActOf (zT13t0_3 it wr fi mk nu fu tx) (1 : Int) b u88 → Q (SV.tup ([] : List Sx.SV), T13.rheap (Prod.fst u88) (ac ++ [((1 : Int),
   List.getD [(65533 : Int)] 0 (Ty.dflt (Ty.int IntKind.i32)), (0 : Int), (0 : Int), [], { data := #[] }, { data := #[] })] ++ Prod.snd u88), [1, 2, 3, 4])) (br (b == (127 :
   Int)) ((zT13t0_8) ∧ (zT13t0_13) ∧ (zT13t0_5 it wr fi mk nu fu tx ac b) ∧ ∀ (u89 : T13.PS × List (Ty.den T13.aty)), T13.ActOf (zT13t0_3 it wr fi mk nu fu tx) (0 : Int) b
   u89 → Q (SV.tup ([] : List Sx.SV), T13.rheap (Prod.fst u89) (ac ++ [((1 : Int), List.getD [(65533 : Int)] 0 (Ty.dflt (Ty.int IntKind.i32)), (0 : Int), (0 : Int), [], {
   data := #[] }, { data := #[] })] ++ Prod.snd u89), [1, 2, 3, 4])) ((zT13t0_8) ∧ (zT13t0_14) ∧ (zT13t0_0 it wr fi mk nu fu tx ac b) ∧ ∀ (u90 : T13.PS × List (Ty.den
   T13.aty)), T13.ActOf (zT13t0_3 it wr fi mk nu fu tx) (1 : Int) b u90 → Q (SV.tup ([] : List Sx.SV), T13.rheap (Prod.fst u90) (ac ++ [((1 : Int), List.getD [(65533 : Int)]
   0 (Ty.dflt (Ty.int IntKind.i32)), (0 : Int), (0 : Int), [], { data := #[] }, { data := #[] })] ++ Prod.snd u90), [1, 2, 3, 4])))))))))) (br (b == (26 : Int)) (Q (zT13t0_15
   ac)) (br (b == (27 : Int)) (Q (zT13t0_16 ac)) (∀ (u91 : Bool), True → br u91 ((zT13t0_8) ∧ br (decide (b < (32 : Int))) ((zT13t0_9) ∧ (zT13t0_4 it wr fi mk nu fu tx ac b)
   ∧ ∀ (u92 : T13.PS × List (Ty.den T13.aty)), T13.ActOf (zT13t0_3 it wr fi mk nu fu tx) (2 : Int) b u92 → Q (SV.tup ([] : List Sx.SV), T13.rheap (Prod.fst u92) (ac ++ [((1 :
   Int), List.getD [(65533 : Int)] 0 (Ty.dflt (Ty.int IntKind.i32)), (0 : Int), (0 : Int), [], { data := #[] }, { data := #[] })] ++ Prod.snd u92), [1, 2, 3, 4])) (br (decide
   (b < (48 : Int))) ((zT13t0_10) ∧ (zT13t0_0 it wr fi mk nu fu tx ac b) ∧ ∀ (u93 : T13.PS × List (Ty.den T13.aty)), T13.ActOf (zT13t0_3 it wr fi mk nu fu tx) (1 : Int) b u93
   → Q (SV.tup ([] : List Sx.SV), T13.rheap (Prod.fst u93) (ac ++ [((1 : Int), List.getD [(65533 : Int)] 0 (Ty.dflt (Ty.int IntKind.i32)), (0 : Int), (0 : Int), [], { data :=
   #[] }, { data := #[] })] ++ Prod.snd u93), [1, 2, 3, 4])) (br (decide (b < (64 : Int))) ((zT13t0_11) ∧ (zT13t0_0 it wr fi mk nu fu tx ac b) ∧ ∀ (u94 : T13.PS × List
   (Ty.den T13.aty)), T13.ActOf (zT13t0_3 it wr fi mk nu fu tx) (1 : Int) b u94 → Q (SV.tup ([] : List Sx.SV), T13.rheap (Prod.fst u94) (ac ++ [((1 : Int), List.getD [(65533
   : Int)] 0 (Ty.dflt (Ty.int IntKind.i32)), (0 : Int), (0 : Int), [], { data := #[] }, { data := #[] })] ++ Prod.snd u94), [1, 2, 3, 4])) (br (decide (b < (127 : Int)))
   ((zT13t0_12) ∧ (zT13t0_0 it wr fi mk nu fu tx ac b) ∧ ∀ (u95 : T13.PS × List (Ty.den T13.aty)), T13.ActOf (zT13t0_3 it wr fi mk nu fu tx) (1 : Int) b u95 → Q (SV.tup ([] :
   List Sx.SV), T13.rheap (Prod.fst u95) (ac ++ [((1 : Int), List.getD [(65533 : Int)] 0 (Ty.dflt (Ty.int IntKind.i32)), (0 : Int), (0 : Int), [], { data := #[] }, { data :=
   #[] })] ++ Prod.snd u95), [1, 2, 3, 4])) (br (b == (127 : Int)) ((zT13t0_13) ∧ (zT13t0_5 it wr fi mk nu fu tx ac b) ∧ ∀ (u96 : T13.PS × List (Ty.den T13.aty)), T13.ActOf
   (zT13t0_3 it wr fi mk nu fu tx) (0 : Int) b u96 → Q (SV.tup ([] : List Sx.SV), T13.rheap (Prod.fst u96) (ac ++ [((1 : Int), List.getD [(65533 : Int)] 0 (Ty.dflt (Ty.int
   IntKind.i32)), (0 : Int), (0 : Int), [], { data := #[] }, { data := #[] })] ++ Prod.snd u96), [1, 2, 3, 4])) ((zT13t0_14) ∧ (zT13t0_0 it wr fi mk nu fu tx ac b) ∧ ∀ (u97 :
   T13.PS × List (Ty.den T13.aty)), T13.ActOf (zT13t0_3 it wr fi mk nu fu tx) (1 : Int) b u97 → Q (SV.tup ([] : List Sx.SV), T13.rheap (Prod.fst u97) (ac ++ [((1 : Int),
   List.getD [(65533 : Int)] 0 (Ty.dflt (Ty.int IntKind.i32)), (0 : Int), (0 : Int), [], { data := #[] }, { data := #[] })] ++ Prod.snd u97), [1, 2, 3, 4]))))))) (br (decide
   (b < (32 : Int))) ((zT13t0_8) ∧ (zT13t0_9) ∧ (zT13t0_4 it wr fi mk nu fu tx ac b) ∧ ∀ (u98 : T13.PS × List (Ty.den T13.aty)), T13.ActOf (zT13t0_3 it wr fi mk nu fu tx) (2
   : Int) b u98 → Q (SV.tup ([] : List Sx.SV), T13.rheap (Prod.fst u98) (ac ++ [((1 : Int), List.getD [(65533 : Int)] 0 (Ty.dflt (Ty.int IntKind.i32)), (0 : Int), (0 : Int),
   [], { data := #[] }, { data := #[] })] ++ Prod.snd u98), [1, 2, 3, 4])) (br (decide (b < (48 : Int))) ((zT13t0_8) ∧ (zT13t0_10) ∧ (zT13t0_0 it wr fi mk nu fu tx ac b) ∧ ∀
   (u99 : T13.PS × List (Ty.den T13.aty)), T13.ActOf (zT13t0_3 it wr fi mk nu fu tx) (1 : Int) b u99 → Q (SV.tup ([] : List Sx.SV), T13.rheap (Prod.fst u99) (ac ++ [((1 :
   Int), List.getD [(65533 : Int)] 0 (Ty.dflt (Ty.int IntKind.i32)), (0 : Int), (0 : Int), [], { data := #[] }, { data := #[] })] ++ Prod.snd u99), [1, 2, 3, 4])) (br (decide
   (b < (64 : Int))) ((zT13t0_8) ∧ (zT13t0_11) ∧ (zT13t0_0 it wr fi mk nu fu tx ac b) ∧ ∀ (u100 : T13.PS × List (Ty.den T13.aty)), T13.ActOf (zT13t0_3 it wr fi mk nu fu tx)
   (1 : Int) b u100 → Q (SV.tup ([] : List Sx.SV), T13.rheap (Prod.fst u100) (ac ++ [((1 : Int), List.getD [(65533 : Int)] 0 (Ty.dflt (Ty.int IntKind.i32)), (0 : Int), (0 :
   Int), [], { data := #[] }, { data := #[] })] ++ Prod.snd u100), [1, 2, 3, 4])) (br (decide (b < (127 : Int))) ((zT13t0_8) ∧ (zT13t0_12) ∧ (zT13t0_0 it wr fi mk nu fu tx ac
   b) ∧ ∀ (u101 : T13.PS × List (Ty.den T13.aty)), T13.ActOf (zT13t0_3 it wr fi mk nu fu tx) (1 : Int) b u101 → Q (SV.tup ([] : List Sx.SV), T13.rheap (Prod.fst u101) (ac ++
   [((1 : Int), List.getD [(65533 : Int)] 0 (Ty.dflt (Ty.int IntKind.i32)), (0 : Int), (0 : Int), [], { data := #[] }, { data := #[] })] ++ Prod.snd u101), [1, 2, 3, 4])) (br
   (b == (127 : Int)) ((zT13t0_8) ∧ (zT13t0_13) ∧ (zT13t0_5 it wr fi mk nu fu tx ac b) ∧ ∀ (u102 : T13.PS × List (Ty.den T13.aty)), T13.ActOf (zT13t0_3 it wr fi mk nu fu tx)
   (0 : Int) b u102 → Q (SV.tup ([] : List Sx.SV), T13.rheap (Prod.fst u102) (ac ++ [((1 : Int), List.getD [(65533 : Int)] 0 (Ty.dflt (Ty.int IntKind.i32)), (0 : Int), (0 :
   Int), [], { data := #[] }, { data := #[] })] ++ Prod.snd u102), [1, 2, 3, 4])) ((zT13t0_8) ∧ (zT13t0_14) ∧ (zT13t0_0 it wr fi mk nu fu tx ac b) ∧ ∀ (u103 : T13.PS × List
   (Ty.den T13.aty)), T13.ActOf (zT13t0_3 it wr fi mk nu fu tx) (1 : Int) b u103 → Q (SV.tup ([] : List Sx.SV), T13.rheap (Prod.fst u103) (ac ++ [((1 : Int), List.getD
   [(65533 : Int)] 0 (Ty.dflt (Ty.int IntKind.i32)), (0 : Int), (0 : Int), [], { data := #[] }, { data := #[] })] ++ Prod.snd u103), [1, 2, 3, 4])))))))))))) (br (b == (24 :
   Int)) (br (b == (24 : Int)) (Q (zT13t0_17 h ac)) (br (b == (27 : Int)) (Q (zT13t0_18 h ac)) (∀ (u104 : Bool), True → br u104 ((zT13t0_8) ∧ br (decide (b < (32 : Int)))
   ((zT13t0_9) ∧ (zT13t0_6 h it wr fi mk nu fu tx ac b) ∧ ∀ (u105 : T13.PS × List (Ty.den T13.aty)), T13.ActOf (zT13t0_2 h it wr fi mk nu fu tx) (2 : Int) b u105 → Q (SV.tup
   ([] : List Sx.SV), T13.rheap (Prod.fst u105) (ac ++ Prod.snd u105), [1, 2, 3, 4])) (br (decide (b < (48 : Int))) ((zT13t0_10) ∧ (zT13t0_1 h it wr fi mk nu fu tx ac b) ∧ ∀
   (u106 : T13.PS × List (Ty.den T13.aty)), T13.ActOf (zT13t0_2 h it wr fi mk nu fu tx) (1 : Int) b u106 → Q (SV.tup ([] : List Sx.SV), T13.rheap (Prod.fst u106) (ac ++
   Prod.snd u106), [1, 2, 3, 4])) (br (decide (b < (64 : Int))) ((zT13t0_11) ∧ (zT13t0_1 h it wr fi mk nu fu tx ac b) ∧ ∀ (u107 : T13.PS × List (Ty.den T13.aty)), T13.ActOf
   (zT13t0_2 h it wr fi mk nu fu tx) (1 : Int) b u107 → Q (SV.tup ([] : List Sx.SV), T13.rheap (Prod.fst u107) (ac ++ Prod.snd u107), [1, 2, 3, 4])) (br (decide (b < (127 :
   Int))) ((zT13t0_12) ∧ (zT13t0_1 h it wr fi mk nu fu tx ac b) ∧ ∀ (u108 : T13.PS × List (Ty.den T13.aty)), T13.ActOf (zT13t0_2 h it wr fi mk nu fu tx) (1 : Int) b u108 → Q
   (SV.tup ([] : List Sx.SV), T13.rheap (Prod.fst u108) (ac ++ Prod.snd u108), [1, 2, 3, 4])) (br (b == (127 : Int)) ((zT13t0_13) ∧ (zT13t0_7 h it wr fi mk nu fu tx ac b) ∧ ∀
   (u109 : T13.PS × List (Ty.den T13.aty)), T13.ActOf (zT13t0_2 h it wr fi mk nu fu tx) (0 : Int) b u109 → Q (SV.tup ([] : List Sx.SV), T13.rheap (Prod.fst u109) (ac ++
   Prod.snd u109), [1, 2, 3, 4])) ((zT13t0_14) ∧ (zT13t0_1 h it wr fi mk nu fu tx ac b) ∧ ∀ (u110 : T13.PS × List (Ty.den T13.aty)), T13.ActOf (zT13t0_2 h it wr fi mk nu fu
   tx) (1 : Int) b u110 → Q (SV.tup ([] : List Sx.SV), T13.rheap (Prod.fst u110) (ac ++ Prod.snd u110), [1, 2, 3, 4]))))))) (br (decide (b < (32 : Int))) ((zT13t0_8) ∧
   (zT13t0_9) ∧ (zT13t0_6 h it wr fi mk nu fu tx ac b) ∧ ∀ (u111 : T13.PS × List (Ty.den T13.aty)), T13.ActOf (zT13t0_2 h it wr fi mk nu fu tx) (2 : Int) b u111 → Q (SV.tup
   ([] : List Sx.SV), T13.rheap (Prod.fst u111) (ac ++ Prod.snd u111), [1, 2, 3, 4])) (br (decide (b < (48 : Int))) ((zT13t0_8) ∧ (zT13t0_10) ∧ (zT13t0_1 h it wr fi mk nu fu
   tx ac b) ∧ ∀ (u112 : T13.PS × List (Ty.den T13.aty)), T13.ActOf (zT13t0_2 h it wr fi mk nu fu tx) (1 : Int) b u112 → Q (SV.tup ([] : List Sx.SV), T13.rheap (Prod.fst u112)
   (ac ++ Prod.snd u112), [1, 2, 3, 4])) (br (decide (b < (64 : Int))) ((zT13t0_8) ∧ (zT13t0_11) ∧ (zT13t0_1 h it wr fi mk nu fu tx ac b) ∧ ∀ (u113 : T13.PS × List (Ty.den
   T13.aty)), T13.ActOf (zT13t0_2 h it wr fi mk nu fu tx) (1 : Int) b u113 → Q (SV.tup ([] : List Sx.SV), T13.rheap (Prod.fst u113) (ac ++ Prod.snd u113), [1, 2, 3, 4])) (br
   (decide (b < (127 : Int))) ((zT13t0_8) ∧ (zT13t0_12) ∧ (zT13t0_1 h it wr fi mk nu fu tx ac b) ∧ ∀ (u114 : T13.PS × List (Ty.den T13.aty)), T13.ActOf (zT13t0_2 h it wr fi
   mk nu fu tx) (1 : Int) b u114 → Q (SV.tup ([] : List Sx.SV), T13.rheap (Prod.fst u114) (ac ++ Prod.snd u114), [1, 2, 3, 4])) (br (b == (127 : Int)) ((zT13t0_8) ∧
   (zT13t0_13) ∧ (zT13t0_7 h it wr fi mk nu fu tx ac b) ∧ ∀ (u115 : T13.PS × List (Ty.den T13.aty)), T13.ActOf (zT13t0_2 h it wr fi mk nu fu tx) (0 : Int) b u115 → Q (SV.tup
   ([] : List Sx.SV), T13.rheap (Prod.fst u115) (ac ++ Prod.snd u115), [1, 2, 3, 4])) ((zT13t0_8) ∧ (zT13t0_14) ∧ (zT13t0_1 h it wr fi mk nu fu tx ac b) ∧ ∀ (u116 : T13.PS ×
   List (Ty.den T13.aty)), T13.ActOf (zT13t0_2 h it wr fi mk nu fu tx) (1 : Int) b u116 → Q (SV.tup ([] : List Sx.SV), T13.rheap (Prod.fst u116) (ac ++ Prod.snd u116), [1, 2,
   3, 4])))))))))) (br (b == (26 : Int)) (Q (zT13t0_17 h ac)) (br (b == (27 : Int)) (Q (zT13t0_18 h ac)) (∀ (u117 : Bool), True → br u117 ((zT13t0_8) ∧ br (decide (b < (32 :
   Int))) ((zT13t0_9) ∧ (zT13t0_6 h it wr fi mk nu fu tx ac b) ∧ ∀ (u118 : T13.PS × List (Ty.den T13.aty)), T13.ActOf (zT13t0_2 h it wr fi mk nu fu tx) (2 : Int) b u118 → Q
   (SV.tup ([] : List Sx.SV), T13.rheap (Prod.fst u118) (ac ++ Prod.snd u118), [1, 2, 3, 4])) (br (decide (b < (48 : Int))) ((zT13t0_10) ∧ (zT13t0_1 h it wr fi mk nu fu tx ac
   b) ∧ ∀ (u119 : T13.PS × List (Ty.den T13.aty)), T13.ActOf (zT13t0_2 h it wr fi mk nu fu tx) (1 : Int) b u119 → Q (SV.tup ([] : List Sx.SV), T13.rheap (Prod.fst u119) (ac
   ++ Prod.snd u119), [1, 2, 3, 4])) (br (decide (b < (64 : Int))) ((zT13t0_11) ∧ (zT13t0_1 h it wr fi mk nu fu tx ac b) ∧ ∀ (u120 : T13.PS × List (Ty.den T13.aty)),
   T13.ActOf (zT13t0_2 h it wr fi mk nu fu tx) (1 : Int) b u120 → Q (SV.tup ([] : List Sx.SV), T13.rheap (Prod.fst u120) (ac ++ Prod.snd u120), [1, 2, 3, 4])) (br (decide (b
   < (127 : Int))) ((zT13t0_12) ∧ (zT13t0_1 h it wr fi mk nu fu tx ac b) ∧ ∀ (u121 : T13.PS × List (Ty.den T13.aty)), T13.ActOf (zT13t0_2 h it wr fi mk nu fu tx) (1 : Int) b
   u121 → Q (SV.tup ([] : List Sx.SV), T13.rheap (Prod.fst u121) (ac ++ Prod.snd u121), [1, 2, 3, 4])) (br (b == (127 : Int)) ((zT13t0_13) ∧ (zT13t0_7 h it wr fi mk nu fu tx
   ac b) ∧ ∀ (u122 : T13.PS × List (Ty.den T13.aty)), T13.ActOf (zT13t0_2 h it wr fi mk nu fu tx) (0 : Int) b u122 → Q (SV.tup ([] : List Sx.SV), T13.rheap (Prod.fst u122)
   (ac ++ Prod.snd u122), [1, 2, 3, 4])) ((zT13t0_14) ∧ (zT13t0_1 h it wr fi mk nu fu tx ac b) ∧ ∀ (u123 : T13.PS × List (Ty.den T13.aty)), T13.ActOf (zT13t0_2 h it wr fi mk
   nu fu tx) (1 : Int) b u123 → Q (SV.tup ([] : List Sx.SV), T13.rheap (Prod.fst u123) (ac ++ Prod.snd u123), [1, 2, 3, 4]))))))) (br (decide (b < (32 : Int))) ((zT13t0_8) ∧
   (zT13t0_9) ∧ (zT13t0_6 h it wr fi mk nu fu tx ac b) ∧ ∀ (u124 : T13.PS × List (Ty.den T13.aty)), T13.ActOf (zT13t0_2 h it wr fi mk nu fu tx) (2 : Int) b u124 → Q (SV.tup
   ([] : List Sx.SV), T13.rheap (Prod.fst u124) (ac ++ Prod.snd u124), [1, 2, 3, 4])) (br (decide (b < (48 : Int))) ((zT13t0_8) ∧ (zT13t0_10) ∧ (zT13t0_1 h it wr fi mk nu fu
   tx ac b) ∧ ∀ (u125 : T13.PS × List (Ty.den T13.aty)), T13.ActOf (zT13t0_2 h it wr fi mk nu fu tx) (1 : Int) b u125 → Q (SV.tup ([] : List Sx.SV), T13.rheap (Prod.fst u125)
   (ac ++ Prod.snd u125), [1, 2, 3, 4])) (br (decide (b < (64 : Int))) ((zT13t0_8) ∧ (zT13t0_11) ∧ (zT13t0_1 h it wr fi mk nu fu tx ac b) ∧ ∀ (u126 : T13.PS × List (Ty.den
   T13.aty)), T13.ActOf (zT13t0_2 h it wr fi mk nu fu tx) (1 : Int) b u126 → Q (SV.tup ([] : List Sx.SV), T13.rheap (Prod.fst u126) (ac ++ Prod.snd u126), [1, 2, 3, 4])) (br
   (decide (b < (127 : Int))) ((zT13t0_8) ∧ (zT13t0_12) ∧ (zT13t0_1 h it wr fi mk nu fu tx ac b) ∧ ∀ (u127 : T13.PS × List (Ty.den T13.aty)), T13.ActOf (zT13t0_2 h it wr fi
   mk nu fu tx) (1 : Int) b u127 → Q (SV.tup ([] : List Sx.SV), T13.rheap (Prod.fst u127) (ac ++ Prod.snd u127), [1, 2, 3, 4])) (br (b == (127 : Int)) ((zT13t0_8) ∧
   (zT13t0_13) ∧ (zT13t0_7 h it wr fi mk nu fu tx ac b) ∧ ∀ (u128 : T13.PS × List (Ty.den T13.aty)), T13.ActOf (zT13t0_2 h it wr fi mk nu fu tx) (0 : Int) b u128 → Q (SV.tup
   ([] : List Sx.SV), T13.rheap (Prod.fst u128) (ac ++ Prod.snd u128), [1, 2, 3, 4])) ((zT13t0_8) ∧ (zT13t0_14) ∧ (zT13t0_1 h it wr fi mk nu fu tx ac b) ∧ ∀ (u129 : T13.PS ×
   List (Ty.den T13.aty)), T13.ActOf (zT13t0_2 h it wr fi mk nu fu tx) (1 : Int) b u129 → Q (SV.tup ([] : List Sx.SV), T13.rheap (Prod.fst u129) (ac ++ Prod.snd u129), [1, 2,
   3, 4]))))))))))))) (by kernel_rfl) ?_
  delta zT13t0_0 zT13t0_1 zT13t0_2 zT13t0_3 zT13t0_4 zT13t0_5 zT13t0_6 zT13t0_7 zT13t0_8 zT13t0_9 zT13t0_10 zT13t0_11 zT13t0_12 zT13t0_13 zT13t0_14 zT13t0_15 zT13t0_16 zT13t0_17 zT13t0_18 zT13t0_19
  have hbs : bytesOf Tryz.prog 69 = 88 := by kernel_rfl
  have hbt : bytesOf Tryz.prog 5 = 1 := by kernel_rfl
  have hbi : bytesOf Tryz.prog 3 = 8 := by kernel_rfl
  have hbr : bytesOf Tryz.prog 21 = 4 := by kernel_rfl
  have es : strInts e0 = [] := rfl
  have hfit : ∀ w : Int, (w = 5 → 48 ≤ b ∧ b < 64) → (w = 1 → (0 : Int) = 0) → Fits ⟨0, strInts h, it, wr, fi, mk, nu, fu, tx⟩ w b ac.length := fun w h5 h1 => ⟨hok, hb, by omega, h1, h5⟩
  have hgood : ∀ w : Int, Good (PS.actW ⟨0, strInts h, it, wr, fi, mk, nu, fu, tx⟩ w b).1.half := fun w => PS.actW_half _ _ _ hok.half
  have hfit2 : ∀ (w : Int) (n : Nat), n ≤ 1000000 → (w = 5 → 48 ≤ b ∧ b < 64) → Fits ⟨0, strInts ({ data := #[] } : ByteArray), it, wr, fi, mk, nu, fu, tx⟩ w b n := fun w n hn h5 => ⟨⟨hok.st, trivial, fun _ => rfl, hok.inter, hok.nums, hok.text, hok.bnd⟩, hb, hn, fun _ => rfl, h5⟩
  have hgood2 : ∀ w : Int, Good (PS.actW ⟨0, strInts ({ data := #[] } : ByteArray), it, wr, fi, mk, nu, fu, tx⟩ w b).1.half := fun w => PS.actW_half _ _ _ trivial
  have hsz : ((h.size : Int) == 0) = (strInts h).isEmpty := by
    have := strInts_size h
    rw [Bool.eq_iff_iff, beq_iff_eq, List.isEmpty_iff, ← List.length_eq_zero_iff]; omega
  have es2 : strInts ({ data := #[] } : ByteArray) = [] := rfl
  simp only [List.take_length, List.drop_zero, hbs, hbt, hbi, hbr, hsz]
  rcases kinds hb with ⟨hb1, hk⟩ | ⟨hb1, hk⟩ | ⟨hb1, hk⟩ | ⟨hb1, hk⟩ | ⟨hb1, hk⟩ | ⟨hb1, hk⟩ | ⟨hb1, hk⟩ | ⟨hb1, hk⟩ | ⟨hb1, hk⟩
  all_goals obtain ⟨k1, k2, k3, k4, k5, k6, k7, k8⟩ := hk
  all_goals simp only [k1, k2, k3, k4, k5, k6, k7, k8, br_true, br_false]
  all_goals rcases hl : strInts h with _ | ⟨c, r⟩
  all_goals rw [hl] at hq hfit hgood
  all_goals try simp only [hl, List.isEmpty_nil, List.isEmpty_cons, br_true, br_false]
  all_goals repeat' first
    | (intro _ _)
    | (refine br_intro (fun h => ?_) (fun h => ?_))
    | (refine And.intro ?_ ?_)
  all_goals first
    | omega
    | exact hfit _ (fun e => by omega) (fun e => by omega)
    | exact True.intro
    | exact hfit2 _ _ (by rw [List.length_append, List.length_cons, List.length_nil]; omega) (fun e => by omega)
    | (rw [List.length_append]; rfl)
    | with_reducible rfl
    | skip
  all_goals simp only [beq_iff_eq, beq_eq_false_iff_ne, decide_eq_true_eq, decide_eq_false_iff_not, ne_eq] at k1 k2 k3 k4 k5 k6 k7 k8
  all_goals first
    | (rename_i r hr
       obtain ⟨hr⟩ := hr
       subst hr
       refine goes_r hq ?_ ?_ (hgood _) rfl)
    | (rename_i r hr
       obtain ⟨hr⟩ := hr
       subst hr
       refine goes_r hq ?_ ?_ (hgood2 _) rfl)
    | refine hq _ _ _ _ _ _ _ _ _ _ _ _ _ _ _ ?_ ?_ ?_ ?_ ?_ ?_ rfl
  all_goals clear hq hfit hgood hfit2 hgood2 hsz
  all_goals first
    | with_reducible rfl
    | (simp only [List.length_append, List.length_cons, List.length_nil]; done)
    | (simp [pstep, PS.flushed, PS.go, PS.act, PS.actW, PS.bell, PS.begin, PS.endA, aOsc, aDcs, aPrint, e0, es2, hl, *]; done)
end T13

