/- Part of a proof: the walks of the functions that the law calls, and their plain laws; no condition. -/
import Derived.Test.YtlcobcpgaoeijaaGreatSxT
import Derived.Test.YtlcobcpgaoeijaaGreatM15
import Derived.Test.YtlcobcpgaoeijaaGreatM10
import Derived.Test.YtlcobcpgaoeijaaGreatM24
import Derived.Test.YtlcobcpgaoeijaaGreatM25
set_option linter.unusedVariables false
set_option linter.unusedSimpArgs false
open Go Sx Go.Proofs T12
namespace T13
set_option maxRecDepth 100000
set_option maxHeartbeats 40000000
attribute [local irreducible] Tree.Leads
noncomputable def TU : Table := ((((((((((Table.none.add 4 (.go s10)).add 5 (.go s15)).add 6 (.go s12x)).add 7 (.go B13.s7)).add 8 (.go B13.s20)).add 9 (.go B13.s9)).add 10 (.go sRB)).add 11 (.go s14x)).add 12 (.go sG12)).add 13 (.go s19x)).add 14 (.bye (byeS B13.s14b))
theorem TU_ok : TableOK Tryz.prog TU true := add_ok (e := .bye (byeS B13.s14b)) (TableOK.up (add_ok (e := .go s19x) (add_ok (e := .go sG12) (add_ok (e := .go s14x) (add_ok (e := .go sRB) (add_ok (e := .go B13.s9) (add_ok (e := .go B13.s20) (add_ok (e := .go B13.s7) (add_ok (e := .go s12x) (add_ok (e := .go s15) (add_ok (e := .go s10) none_ok s10_ok) s15_ok) s12x_ok) B13.s7_ok) B13.s20_ok) B13.s9_ok) sRB_ok) s14x_ok) sG12_ok) s19x_ok)) ⟨rfl, B13.s14b_bye⟩
structure LSt where
  i : Nat
  r : PS
  R : RS
  LL : List (List Int)
  AA : List (List aty.den)
structure LOk (P : List ByteArray) (x : LSt) : Prop where
  i : x.i ≤ P.length
  clean : Clean x.r
  doc : Doc x.r x.R
  few : x.LL.length ≤ 250
  small : ∀ l ∈ x.LL, l.length ≤ 900000
  few2 : x.AA.length ≤ x.i
  small2 : ∀ l ∈ x.AA, l.length ≤ 900000 ∧ Few l
structure BSt where
  k : Nat
  LL : List (List Int)
structure BOk (n : Nat) (x : BSt) : Prop where
  k : x.k ≤ n
  few : x.LL.length ≤ 250
  small : ∀ l ∈ x.LL, l.length ≤ 900000
def bkSet (cs : List SV) (a b : SV) : List SV := match cs with
  | x0 :: x1 :: _ :: _ :: r => x0 :: x1 :: a :: b :: r
  | l => l
def rcl (x : RS) : List SV := [.lit (.string x.st), .sl 5 1 0 x.half.length, .lit (.string x.inter), .lit (.int .i64 x.mark), .sl 6 1 0 x.nums.length, .lit (.bool x.any), .lit (.bool x.first), .lit (.bool x.wrong), .sl 7 1 0 x.body.length]
def lheap (x : LSt) (P : List ByteArray) : Heap := [.cells 46 (fedP x.r 1 2 3 nilV), .row 5 (.int .u8) x.r.inter, .row 3 (.int .i64) x.r.nums, .row 5 (.int .u8) x.r.text, .cells 51 (rcl x.R), .row 5 (.int .u8) x.R.half, .row 3 (.int .i64) x.R.nums, .row 5 (.int .u8) x.R.body, .cells 62 (B13.bk (.sl 9 1 0 x.LL.length) (.sl 10 1 0 x.LL.length) (.sl 11 1 0 x.AA.length) (.sl 12 1 0 x.AA.length)), .kept 22 3 (.int .i64) x.LL, .row 22 (.imm (.int .i64)) x.LL, .kept 44 69 aty x.AA, .row 44 (.imm aty) x.AA, .row 9 .str P]
def lawH (LL : List (List Int)) (k : Nat) (H : Heap) : Heap := match H with
  | [p0, p1, p2, p3, q0, .cells 62 cs, _, _, kA, wA, P, .dview e e2 t L g _ _, _] => [p0, p1, p2, p3, q0, .cells 62 (bkSet cs (.sl 6 1 0 LL.length) (.sl 7 1 0 LL.length)), .kept 22 3 (.int .i64) LL, .row 22 (.imm (.int .i64)) LL, kA, wA, P, .dview e e2 t L g k none, .hold 3 (.int .i64) []]
  | [p0, p1, p2, p3, q0, q1, q2, q3, .cells 62 cs, _, _, kA, wA, P, .dview e e2 t L g _ _, _] => [p0, p1, p2, p3, q0, q1, q2, q3, .cells 62 (bkSet cs (.sl 9 1 0 LL.length) (.sl 10 1 0 LL.length)), .kept 22 3 (.int .i64) LL, .row 22 (.imm (.int .i64)) LL, kA, wA, P, .dview e e2 t L g k none, .hold 3 (.int .i64) []]
  | H => H
noncomputable def nil62 : List (TypeId × Nat × TypeId × Ty) := [(62, 2, 4000022, .int .i64), (62, 3, 22, .imm (.int .i64))]
noncomputable def B3 : Ann := { live := [0, 5, 6, 7, 8, 9, 10, 11], mv := [], hook := 8, nilH := nil62, head := fun vals H => match vals with | [a, p, q, u, pt, i, .sl h 7 0 n, _] => { X := BSt, inv := fun x => ([a, p, q, u, pt, i, .sl h 7 0 n, .lit (.int .i64 x.k)], lawH x.LL x.k H), ok := BOk n, mu := fun x => n - x.k } | _ => { X := Nat, inv := fun _ => ([], []), ok := fun _ => False, mu := fun _ => 0 } }
noncomputable def J3 : Ann := { live := [0, 5, 6, 7, 8, 9, 10], mv := [], hook := 8, nilH := nil62, head := fun vals H => match vals with | [a, p, q, u, pt, i, .sl h 7 0 n] => { X := BSt, inv := fun x => ([a, p, q, u, pt, i, .sl h 7 0 n], lawH x.LL x.k H), ok := BOk n, mu := fun x => n - x.k } | _ => { X := Nat, inv := fun _ => ([], []), ok := fun _ => False, mu := fun _ => 0 } }
noncomputable def A3 : Ann := { live := [0, 5, 6, 7, 8, 9], mv := [], peel := 1, head := fun vals H => match vals, H with | [a, p, q, u, pt, _], [_, _, _, _, _, _, _, _, _, _, _, _, _, .row 9 .str P] => { X := LSt, inv := fun x => ([a, p, q, u, pt, .lit (.int .i64 x.i)], lheap x P), ok := LOk P, mu := fun x => P.length - x.i } | _, _ => { X := Nat, inv := fun _ => ([], []), ok := fun _ => False, mu := fun _ => 0 } }
noncomputable def J8h (P : List ByteArray) (a : SV) (ii : Int) : Head := { X := LSt, inv := fun x => ([a, .ptr 0 0, .ptr 4 0, .ptr 8 0, .sl 13 1 0 P.length, .lit (.int .i64 ii)], lheap x P), ok := fun x => LOk P x ∧ (x.i : Int) = ii + 1, mu := fun x => 0 }
noncomputable def J8 : Ann := { live := [0, 5, 6, 7, 8, 9], mv := [], head := fun vals H => match vals, H with | [a, _, _, _, _, .lit (.int .i64 ii)], [_, _, _, .row 9 .str P] => J8h P a ii | [a, _, _, _, _, .lit (.int .i64 ii)], [_, _, _, _, _, _, _, _, _, _, _, _, _, .row 9 .str P] => J8h P a ii | _, _ => { X := Nat, inv := fun _ => ([], []), ok := fun _ => False, mu := fun _ => 0 } }
noncomputable def N3 : Nat → Option Ann := fun k => if Nat.beq k 0 then some A3 else if Nat.beq k 2 then some B3 else if Nat.beq k 3000015 then some J3 else if Nat.beq k 3000008 then some J8 else none
theorem small_snoc {LL : List (List Int)} {x : List Int} (h : ∀ l ∈ LL, l.length ≤ 900000) (hx : x.length ≤ 900000) : ∀ l ∈ LL ++ [x], l.length ≤ 900000 := fun l hl => by
  rcases List.mem_append.1 hl with h' | h'
  · exact h l h'
  · have : l = x := by simpa using h'
    rw [this]; exact hx
noncomputable abbrev zT13Reads_0 (u14 : T13.RS × List (Ty.den T13.aty)) : T13.RS := { st := T13.RS.st (Prod.fst u14), half := T13.RS.half (Prod.fst u14), inter := T13.RS.inter (Prod.fst u14), mark := T13.RS.mark (Prod.fst u14), nums := T13.RS.nums (Prod.fst u14), any := T13.RS.any (Prod.fst u14), first := T13.RS.first (Prod.fst u14), wrong := T13.RS.wrong (Prod.fst u14), body := T13.RS.body (Prod.fst u14) }
noncomputable abbrev zT13Reads_1 (u34 : T13.RS × List (Ty.den T13.aty)) : T13.RS := { st := T13.RS.st (Prod.fst u34), half := T13.RS.half (Prod.fst u34), inter := T13.RS.inter (Prod.fst u34), mark := T13.RS.mark (Prod.fst u34), nums := T13.RS.nums (Prod.fst u34), any := T13.RS.any (Prod.fst u34), first := T13.RS.first (Prod.fst u34), wrong := T13.RS.wrong (Prod.fst u34), body := T13.RS.body (Prod.fst u34) }
noncomputable abbrev zT13Reads_2 (u22 : T13.PS × List (Ty.den T13.aty)) : T13.PS := { st := T13.PS.st (Prod.fst u22), half := Sx.strInts (Sx.bsOf (T13.PS.half (Prod.fst u22))), inter := T13.PS.inter (Prod.fst u22), wrong := T13.PS.wrong (Prod.fst u22), first := T13.PS.first (Prod.fst u22), mark := T13.PS.mark (Prod.fst u22), nums := T13.PS.nums (Prod.fst u22), full := T13.PS.full (Prod.fst u22), text := T13.PS.text (Prod.fst u22) }
noncomputable abbrev zT13Reads_3 (u2 : T13.PS × List (Ty.den T13.aty)) : T13.PS := { st := T13.PS.st (Prod.fst u2), half := Sx.strInts (Sx.bsOf (T13.PS.half (Prod.fst u2))), inter := T13.PS.inter (Prod.fst u2), wrong := T13.PS.wrong (Prod.fst u2), first := T13.PS.first (Prod.fst u2), mark := T13.PS.mark (Prod.fst u2), nums := T13.PS.nums (Prod.fst u2), full := T13.PS.full (Prod.fst u2), text := T13.PS.text (Prod.fst u2) }
noncomputable abbrev zT13Reads_14 (u2 : T13.PS × List (Ty.den T13.aty)) := (T13.fedP (Prod.fst u2) 1 2 3 (SV.lit (Value.slice Option.none 0 0)))
noncomputable abbrev zT13Reads_4 (u0 : List ByteArray) (u2 : T13.PS × List (Ty.den T13.aty)) (u6 : T13.BSt) := [SO.cells 46 (zT13Reads_14 u2), SO.row 5 (Ty.int IntKind.u8) (T13.PS.inter (Prod.fst u2)), SO.row 3 (Ty.int IntKind.i64) (T13.PS.nums (Prod.fst u2)), SO.row 5 (Ty.int IntKind.u8) (T13.PS.text (Prod.fst u2)), SO.cells 51 T13.rnew, SO.cells 62 (B13.bk (SV.sl 6 1 0 (List.length (T13.BSt.LL u6))) (SV.sl 7 1 0 (List.length (T13.BSt.LL u6))) (SV.sl 8 1 0 1) (SV.sl 9 1 0 1)), SO.kept 22 3 (Ty.int IntKind.i64) (T13.BSt.LL u6), SO.row 22 (Ty.imm (Ty.int IntKind.i64)) (T13.BSt.LL u6), SO.kept 44 69 T13.aty [Prod.snd u2], SO.row 44 (Ty.imm T13.aty) [Prod.snd u2], SO.row 9 Ty.str u0, SO.dview 69 3 T13.aty (Prod.snd u2) 12 (T13.BSt.k u6 + 1) Option.none, SO.hold 3 (Ty.int IntKind.i64) []]
noncomputable abbrev zT13Reads_5 (s : ByteArray) (u0 : List ByteArray) (u20 : T13.LSt) (u22 : T13.PS × List (Ty.den T13.aty)) := [SV.lit (Value.string s), SV.ptr 0 0, SV.ptr 4 0, SV.ptr 8 0, SV.sl 13 1 0 (List.length u0), SV.lit (Value.int IntKind.i64 (↑(T13.LSt.i u20) : Int)), SV.sl 14 7 0 (List.length (Prod.snd u22))]
noncomputable abbrev zT13Reads_6 (s : ByteArray) (u0 : List ByteArray) (u2 : T13.PS × List (Ty.den T13.aty)) := [SV.lit (Value.string s), SV.ptr 0 0, SV.ptr 4 0, SV.ptr 5 0, SV.sl 10 1 0 (List.length u0), SV.lit (Value.int IntKind.i64 (0 : Int)), SV.sl 11 7 0 (List.length (Prod.snd u2))]
noncomputable abbrev zT13Reads_13 (u22 : T13.PS × List (Ty.den T13.aty)) := (T13.fedP (Prod.fst u22) 1 2 3 (SV.lit (Value.slice Option.none 0 0)))
noncomputable abbrev zT13Reads_20 (u20 : T13.LSt) := (SV.sl 11 1 0 (List.length (T13.LSt.AA u20) + 1))
noncomputable abbrev zT13Reads_21 (u20 : T13.LSt) := (SV.sl 12 1 0 (List.length (T13.LSt.AA u20) + 1))
noncomputable abbrev zT13Reads_7 (u0 : List ByteArray) (u20 : T13.LSt) (u22 : T13.PS × List (Ty.den T13.aty)) (u26 : T13.BSt) := [SO.cells 46 (zT13Reads_13 u22), SO.row 5 (Ty.int IntKind.u8) (T13.PS.inter (Prod.fst u22)), SO.row 3 (Ty.int IntKind.i64) (T13.PS.nums (Prod.fst u22)), SO.row 5 (Ty.int IntKind.u8) (T13.PS.text (Prod.fst u22)), SO.cells 51 (T13.rcl (T13.LSt.R u20)), SO.row 5 (Ty.int IntKind.u8) (T13.RS.half (T13.LSt.R u20)), SO.row 3 (Ty.int IntKind.i64) (T13.RS.nums (T13.LSt.R u20)), SO.row 5 (Ty.int IntKind.u8) (T13.RS.body (T13.LSt.R u20)), SO.cells 62 (B13.bk (SV.sl 9 1 0 (List.length (T13.BSt.LL u26))) (SV.sl 10 1 0 (List.length (T13.BSt.LL u26))) (zT13Reads_20 u20) (zT13Reads_21 u20)), SO.kept 22 3 (Ty.int IntKind.i64) (T13.BSt.LL u26), SO.row 22 (Ty.imm (Ty.int IntKind.i64)) (T13.BSt.LL u26), SO.kept 44 69 T13.aty (T13.LSt.AA u20 ++ [Prod.snd u22]), SO.row 44 (Ty.imm T13.aty) (T13.LSt.AA u20 ++ [Prod.snd u22]), SO.row 9 Ty.str u0, SO.dview 69 3 T13.aty (Prod.snd u22) 15 (T13.BSt.k u26 + 1) Option.none, SO.hold 3 (Ty.int IntKind.i64) []]
noncomputable abbrev zT13Reads_8 (u0 : List ByteArray) (u20 : T13.LSt) (u22 : T13.PS × List (Ty.den T13.aty)) (u26 : T13.BSt) := [SO.cells 46 (zT13Reads_13 u22), SO.row 5 (Ty.int IntKind.u8) (T13.PS.inter (Prod.fst u22)), SO.row 3 (Ty.int IntKind.i64) (T13.PS.nums (Prod.fst u22)), SO.row 5 (Ty.int IntKind.u8) (T13.PS.text (Prod.fst u22)), SO.cells 51 (T13.rcl (T13.LSt.R u20)), SO.row 5 (Ty.int IntKind.u8) (T13.RS.half (T13.LSt.R u20)), SO.row 3 (Ty.int IntKind.i64) (T13.RS.nums (T13.LSt.R u20)), SO.row 5 (Ty.int IntKind.u8) (T13.RS.body (T13.LSt.R u20)), SO.cells 62 (B13.bk (SV.sl 9 1 0 (List.length (T13.BSt.LL u26))) (SV.sl 10 1 0 (List.length (T13.BSt.LL u26))) (zT13Reads_20 u20) (zT13Reads_21 u20)), SO.kept 22 3 (Ty.int IntKind.i64) (T13.BSt.LL u26), SO.row 22 (Ty.imm (Ty.int IntKind.i64)) (T13.BSt.LL u26), SO.kept 44 69 T13.aty (T13.LSt.AA u20 ++ [Prod.snd u22]), SO.row 44 (Ty.imm T13.aty) (T13.LSt.AA u20 ++ [Prod.snd u22]), SO.row 9 Ty.str u0, SO.dview 69 3 T13.aty (Prod.snd u22) 15 (T13.BSt.k u26) Option.none, SO.hold 3 (Ty.int IntKind.i64) []]
noncomputable abbrev zT13Reads_9 (u0 : List ByteArray) (u20 : T13.LSt) (u22 : T13.PS × List (Ty.den T13.aty)) (u33 : T13.BSt) (u34 : T13.RS × List (Ty.den T13.aty)) := [SO.cells 46 (zT13Reads_13 u22), SO.row 5 (Ty.int IntKind.u8) (T13.PS.inter (Prod.fst u22)), SO.row 3 (Ty.int IntKind.i64) (T13.PS.nums (Prod.fst u22)), SO.row 5 (Ty.int IntKind.u8) (T13.PS.text (Prod.fst u22)), SO.cells 51 (T13.rcl (zT13Reads_1 u34)), SO.row 5 (Ty.int IntKind.u8) (T13.RS.half (zT13Reads_1 u34)), SO.row 3 (Ty.int IntKind.i64) (T13.RS.nums (zT13Reads_1 u34)), SO.row 5 (Ty.int IntKind.u8) (T13.RS.body (zT13Reads_1 u34)), SO.cells 62 (B13.bk (SV.sl 9 1 0 (List.length (T13.BSt.LL u33))) (SV.sl 10 1 0 (List.length (T13.BSt.LL u33))) (zT13Reads_20 u20) (zT13Reads_21 u20)), SO.kept 22 3 (Ty.int IntKind.i64) (T13.BSt.LL u33), SO.row 22 (Ty.imm (Ty.int IntKind.i64)) (T13.BSt.LL u33), SO.kept 44 69 T13.aty (T13.LSt.AA u20 ++ [Prod.snd u22]), SO.row 44 (Ty.imm T13.aty) (T13.LSt.AA u20 ++ [Prod.snd u22]), SO.row 9 Ty.str u0]
noncomputable abbrev zT13Reads_10 (u0 : List ByteArray) (u2 : T13.PS × List (Ty.den T13.aty)) (u13 : T13.BSt) (u14 : T13.RS × List (Ty.den T13.aty)) := [SO.cells 46 (zT13Reads_14 u2), SO.row 5 (Ty.int IntKind.u8) (T13.PS.inter (Prod.fst u2)), SO.row 3 (Ty.int IntKind.i64) (T13.PS.nums (Prod.fst u2)), SO.row 5 (Ty.int IntKind.u8) (T13.PS.text (Prod.fst u2)), SO.cells 51 (T13.rcl (zT13Reads_0 u14)), SO.row 5 (Ty.int IntKind.u8) (T13.RS.half (zT13Reads_0 u14)), SO.row 3 (Ty.int IntKind.i64) (T13.RS.nums (zT13Reads_0 u14)), SO.row 5 (Ty.int IntKind.u8) (T13.RS.body (zT13Reads_0 u14)), SO.cells 62 (B13.bk (SV.sl 9 1 0 (List.length (T13.BSt.LL u13))) (SV.sl 10 1 0 (List.length (T13.BSt.LL u13))) (SV.sl 11 1 0 1) (SV.sl 12 1 0 1)), SO.kept 22 3 (Ty.int IntKind.i64) (T13.BSt.LL u13), SO.row 22 (Ty.imm (Ty.int IntKind.i64)) (T13.BSt.LL u13), SO.kept 44 69 T13.aty [Prod.snd u2], SO.row 44 (Ty.imm T13.aty) [Prod.snd u2], SO.row 9 Ty.str u0]
noncomputable abbrev zT13Reads_11 (u20 : T13.LSt) : T13.PS := { st := T13.PS.st (T13.LSt.r u20), half := Sx.strInts (Sx.bsOf (T13.PS.half (T13.LSt.r u20))), inter := T13.PS.inter (T13.LSt.r u20), wrong := T13.PS.wrong (T13.LSt.r u20), first := T13.PS.first (T13.LSt.r u20), mark := T13.PS.mark (T13.LSt.r u20), nums := T13.PS.nums (T13.LSt.r u20), full := T13.PS.full (T13.LSt.r u20), text := T13.PS.text (T13.LSt.r u20) }
noncomputable abbrev zT13Reads_12 (u0 : List ByteArray) (u2 : T13.PS × List (Ty.den T13.aty)) (u6 : T13.BSt) := [SO.cells 46 (zT13Reads_14 u2), SO.row 5 (Ty.int IntKind.u8) (T13.PS.inter (Prod.fst u2)), SO.row 3 (Ty.int IntKind.i64) (T13.PS.nums (Prod.fst u2)), SO.row 5 (Ty.int IntKind.u8) (T13.PS.text (Prod.fst u2)), SO.cells 51 T13.rnew, SO.cells 62 (B13.bk (SV.sl 6 1 0 (List.length (T13.BSt.LL u6))) (SV.sl 7 1 0 (List.length (T13.BSt.LL u6))) (SV.sl 8 1 0 1) (SV.sl 9 1 0 1)), SO.kept 22 3 (Ty.int IntKind.i64) (T13.BSt.LL u6), SO.row 22 (Ty.imm (Ty.int IntKind.i64)) (T13.BSt.LL u6), SO.kept 44 69 T13.aty [Prod.snd u2], SO.row 44 (Ty.imm T13.aty) [Prod.snd u2], SO.row 9 Ty.str u0, SO.dview 69 3 T13.aty (Prod.snd u2) 12 (T13.BSt.k u6) Option.none, SO.hold 3 (Ty.int IntKind.i64) []]
noncomputable abbrev zT13Reads_15 (u2 : T13.PS × List (Ty.den T13.aty)) (u6 : T13.BSt) := (Prod.fst (Prod.snd (Prod.snd (Prod.snd (Prod.snd (List.getD (Prod.snd u2) (T13.BSt.k u6) (Ty.dflt T13.aty)))))))
noncomputable abbrev zT13Reads_16 (u22 : T13.PS × List (Ty.den T13.aty)) (u26 : T13.BSt) := (Prod.fst (Prod.snd (Prod.snd (Prod.snd (Prod.snd (List.getD (Prod.snd u22) (T13.BSt.k u26) (Ty.dflt T13.aty)))))))
noncomputable abbrev zT13Reads_17 (s : ByteArray) (u0 : List ByteArray) (u20 : T13.LSt) := [SV.lit (Value.string s), SV.ptr 0 0, SV.ptr 4 0, SV.ptr 8 0, SV.sl 13 1 0 (List.length u0), SV.lit (Value.int IntKind.i64 (↑(T13.LSt.i u20) : Int))]
noncomputable abbrev zT13Reads_18 (u20 : T13.LSt) : T13.RS := { st := T13.RS.st (T13.LSt.R u20), half := T13.RS.half (T13.LSt.R u20), inter := T13.RS.inter (T13.LSt.R u20), mark := T13.RS.mark (T13.LSt.R u20), nums := T13.RS.nums (T13.LSt.R u20), any := T13.RS.any (T13.LSt.R u20), first := T13.RS.first (T13.LSt.R u20), wrong := T13.RS.wrong (T13.LSt.R u20), body := T13.RS.body (T13.LSt.R u20) }
noncomputable abbrev zT13Reads_19 (s : ByteArray) (u0 : List ByteArray) := [SV.lit (Value.string s), SV.ptr 0 0, SV.ptr 4 0, SV.ptr 8 0, SV.sl 13 1 0 (List.length u0), SV.lit (Value.int IntKind.i64 (0 : Int))]
theorem v3 (s : ByteArray) (L : List Int) (Q : SV × Heap × List Nat → Prop) (hq : ∀ mv, Q (.lit (.bool true), [], mv)) :
    (bodySumm TU Tryz.prog Tryz.f3 N3 [.lit (.string s), .imm (.int .i64) L] []).Leads Q := by
  refine Sx.by_text (q :=
   br (decide ((↑(ByteArray.size s) : Int) > (1500 : Int))) (Q (SV.lit (Value.bool true), ([] : List Sx.SO), [])) (br (decide ((↑(List.length L) : Int) > (40 : Int))) (Q
   (SV.lit (Value.bool true), ([] : List Sx.SO), [])) ((ByteArray.size s ≤ 100000 ∧ List.length L ≤ 1000) ∧ ∀ (u0 : List ByteArray), T13.CutOf s (List.length L) u0 → br
   (decide ((0 : Int) < (↑(List.length u0) : Int))) (∀ (u1 : Bool), True → br u1 (((0 : Int) ≤ (0 : Int) ∧ (0 : Int) < (↑(List.length u0) : Int)) ∧ 0 < List.length u0 ∧
   (T13.newP = T13.newP ∧ 1 ≤ 1 ∧ T13.FeedOK T13.ps0 [List.getD u0 0 (Ty.dflt Ty.str)]) ∧ ∀ (u2 : T13.PS × List (Ty.den T13.aty)), T13.FeedOf T13.ps0 [List.getD u0 0 (Ty.dflt
   Ty.str)] u2 → (List.length (Prod.snd u2) = List.length (Prod.snd u2) ∧ (List.length (Prod.snd u2) ≤ 1000000 ∧ ∀ (u3 : Ty.den T13.aty), u3 ∈ Prod.snd u2 → List.length
   (Prod.fst (Prod.snd (Prod.snd (Prod.snd (Prod.snd u3))))) ≤ 1000000) ∧ B13.bk (SV.lit (Value.slice Option.none 0 0)) (SV.lit (Value.slice Option.none 0 0)) (SV.lit
   (Value.slice Option.none 0 0)) (SV.lit (Value.slice Option.none 0 0)) = B13.bk (SV.lit (Value.slice Option.none 0 0)) (SV.lit (Value.slice Option.none 0 0)) (SV.lit
   (Value.slice Option.none 0 0)) (SV.lit (Value.slice Option.none 0 0))) ∧ ∀ (u4 : Bool), True → br u4 ((∃ (u5 : T13.BSt), ([SV.lit (Value.string s), SV.ptr 0 0, SV.ptr 4 0,
   SV.ptr 5 0, SV.sl 10 1 0 (List.length u0), SV.lit (Value.int IntKind.i64 (0 : Int)), SV.sl 11 7 0 (List.length (Prod.snd u2)), SV.lit (Value.int IntKind.i64 (0 : Int))],
   [SO.cells 46 (zT13Reads_14 u2), SO.row 5 (Ty.int IntKind.u8) (T13.PS.inter (Prod.fst u2)), SO.row 3 (Ty.int IntKind.i64) (T13.PS.nums (Prod.fst u2)), SO.row 5 (Ty.int
   IntKind.u8) (T13.PS.text (Prod.fst u2)), SO.cells 51 T13.rnew, SO.cells 62 (B13.bk (SV.sl 6 1 0 0) (SV.sl 7 1 0 0) (SV.sl 8 1 0 1) (SV.sl 9 1 0 1)), SO.kept 22 3 (Ty.int
   IntKind.i64) [], SO.row 22 (Ty.imm (Ty.int IntKind.i64)) [], SO.kept 44 69 T13.aty [Prod.snd u2], SO.row 44 (Ty.imm T13.aty) [Prod.snd u2], SO.row 9 Ty.str u0, SO.dview 69
   3 T13.aty (Prod.snd u2) 12 0 Option.none, SO.hold 3 (Ty.int IntKind.i64) []]) = ([SV.lit (Value.string s), SV.ptr 0 0, SV.ptr 4 0, SV.ptr 5 0, SV.sl 10 1 0 (List.length
   u0), SV.lit (Value.int IntKind.i64 (0 : Int)), SV.sl 11 7 0 (List.length (Prod.snd u2)), SV.lit (Value.int IntKind.i64 (↑(T13.BSt.k u5) : Int))], [SO.cells 46
   (zT13Reads_14 u2), SO.row 5 (Ty.int IntKind.u8) (T13.PS.inter (Prod.fst u2)), SO.row 3 (Ty.int IntKind.i64) (T13.PS.nums (Prod.fst u2)), SO.row 5 (Ty.int IntKind.u8)
   (T13.PS.text (Prod.fst u2)), SO.cells 51 T13.rnew, SO.cells 62 (B13.bk (SV.sl 6 1 0 (List.length (T13.BSt.LL u5))) (SV.sl 7 1 0 (List.length (T13.BSt.LL u5))) (SV.sl 8 1 0
   1) (SV.sl 9 1 0 1)), SO.kept 22 3 (Ty.int IntKind.i64) (T13.BSt.LL u5), SO.row 22 (Ty.imm (Ty.int IntKind.i64)) (T13.BSt.LL u5), SO.kept 44 69 T13.aty [Prod.snd u2],
   SO.row 44 (Ty.imm T13.aty) [Prod.snd u2], SO.row 9 Ty.str u0, SO.dview 69 3 T13.aty (Prod.snd u2) 12 (T13.BSt.k u5) Option.none, SO.hold 3 (Ty.int IntKind.i64) []]) ∧
   T13.BOk (List.length (Prod.snd u2)) u5) ∧ ∀ (u6 : T13.BSt), T13.BOk (List.length (Prod.snd u2)) u6 → br (decide (T13.BSt.k u6 < List.length (Prod.snd u2))) (br (decide
   ((↑(T13.BSt.k u6) : Int) < (↑(List.length (Prod.snd u2)) : Int))) (br (decide ((↑(T13.BSt.k u6) : Int) < (20 : Int))) (((0 : Int) ≤ (↑(T13.BSt.k u6) : Int) ∧ (↑(T13.BSt.k
   u6) : Int) < (↑(List.length (Prod.snd u2)) : Int)) ∧ 0 + T13.BSt.k u6 + 1 = T13.BSt.k u6 + 1 ∧ ((List.length (zT13Reads_15 u2 u6) ≤ List.length (zT13Reads_15 u2 u6) ∧
   List.length (zT13Reads_15 u2 u6) ≤ 1000000) ∧ List.length (T13.BSt.LL u6) ≤ 1000 ∧ List.length (T13.BSt.LL u6) ≤ 1000 ∧ B13.bk (SV.sl 2 1 0 (List.length (T13.BSt.LL u6)))
   (SV.sl 3 1 0 (List.length (T13.BSt.LL u6))) (SV.sl 4 1 0 1) (SV.sl 5 1 0 1) = B13.bk (SV.sl 2 1 0 (List.length (T13.BSt.LL u6))) (SV.sl 3 1 0 (List.length (T13.BSt.LL
   u6))) (SV.sl 4 1 0 1) (SV.sl 5 1 0 1)) ∧ br (decide (List.length (T13.BSt.LL u6) < 250)) ((∃ (u7 : T13.BSt), ([SV.lit (Value.string s), SV.ptr 0 0, SV.ptr 4 0, SV.ptr 5 0,
   SV.sl 10 1 0 (List.length u0), SV.lit (Value.int IntKind.i64 (0 : Int)), SV.sl 11 7 0 (List.length (Prod.snd u2)), SV.lit (Value.int IntKind.i64 (IntKind.wrap IntKind.i64
   ((↑(T13.BSt.k u6) : Int) + (1 : Int))))], [SO.cells 46 (zT13Reads_14 u2), SO.row 5 (Ty.int IntKind.u8) (T13.PS.inter (Prod.fst u2)), SO.row 3 (Ty.int IntKind.i64)
   (T13.PS.nums (Prod.fst u2)), SO.row 5 (Ty.int IntKind.u8) (T13.PS.text (Prod.fst u2)), SO.cells 51 T13.rnew, SO.cells 62 (B13.bk (SV.sl 6 1 0 (List.length (T13.BSt.LL u6)
   + 1)) (SV.sl 7 1 0 (List.length (T13.BSt.LL u6) + 1)) (SV.sl 8 1 0 1) (SV.sl 9 1 0 1)), SO.kept 22 3 (Ty.int IntKind.i64) (T13.BSt.LL u6 ++ [List.take (List.length
   (zT13Reads_15 u2 u6)) (zT13Reads_15 u2 u6)]), SO.row 22 (Ty.imm (Ty.int IntKind.i64)) (T13.BSt.LL u6 ++ [List.take (List.length (zT13Reads_15 u2 u6)) (zT13Reads_15 u2
   u6)]), SO.kept 44 69 T13.aty [Prod.snd u2], SO.row 44 (Ty.imm T13.aty) [Prod.snd u2], SO.row 9 Ty.str u0, SO.dview 69 3 T13.aty (Prod.snd u2) 12 (T13.BSt.k u6 + 1)
   Option.none, SO.hold 3 (Ty.int IntKind.i64) []]) = ([SV.lit (Value.string s), SV.ptr 0 0, SV.ptr 4 0, SV.ptr 5 0, SV.sl 10 1 0 (List.length u0), SV.lit (Value.int
   IntKind.i64 (0 : Int)), SV.sl 11 7 0 (List.length (Prod.snd u2)), SV.lit (Value.int IntKind.i64 (↑(T13.BSt.k u7) : Int))], [SO.cells 46 (zT13Reads_14 u2), SO.row 5 (Ty.int
   IntKind.u8) (T13.PS.inter (Prod.fst u2)), SO.row 3 (Ty.int IntKind.i64) (T13.PS.nums (Prod.fst u2)), SO.row 5 (Ty.int IntKind.u8) (T13.PS.text (Prod.fst u2)), SO.cells 51
   T13.rnew, SO.cells 62 (B13.bk (SV.sl 6 1 0 (List.length (T13.BSt.LL u7))) (SV.sl 7 1 0 (List.length (T13.BSt.LL u7))) (SV.sl 8 1 0 1) (SV.sl 9 1 0 1)), SO.kept 22 3
   (Ty.int IntKind.i64) (T13.BSt.LL u7), SO.row 22 (Ty.imm (Ty.int IntKind.i64)) (T13.BSt.LL u7), SO.kept 44 69 T13.aty [Prod.snd u2], SO.row 44 (Ty.imm T13.aty) [Prod.snd
   u2], SO.row 9 Ty.str u0, SO.dview 69 3 T13.aty (Prod.snd u2) 12 (T13.BSt.k u7) Option.none, SO.hold 3 (Ty.int IntKind.i64) []]) ∧ T13.BOk (List.length (Prod.snd u2)) u7 ∧
   List.length (Prod.snd u2) - T13.BSt.k u7 < List.length (Prod.snd u2) - T13.BSt.k u6) ∧ True) ((∃ (u8 : T13.BSt), ([SV.lit (Value.string s), SV.ptr 0 0, SV.ptr 4 0, SV.ptr
   5 0, SV.sl 10 1 0 (List.length u0), SV.lit (Value.int IntKind.i64 (0 : Int)), SV.sl 11 7 0 (List.length (Prod.snd u2)), SV.lit (Value.int IntKind.i64 (IntKind.wrap
   IntKind.i64 ((↑(T13.BSt.k u6) : Int) + (1 : Int))))], (zT13Reads_4 u0 u2 u6)) = ([SV.lit (Value.string s), SV.ptr 0 0, SV.ptr 4 0, SV.ptr 5 0, SV.sl 10 1 0 (List.length
   u0), SV.lit (Value.int IntKind.i64 (0 : Int)), SV.sl 11 7 0 (List.length (Prod.snd u2)), SV.lit (Value.int IntKind.i64 (↑(T13.BSt.k u8) : Int))], [SO.cells 46
   (zT13Reads_14 u2), SO.row 5 (Ty.int IntKind.u8) (T13.PS.inter (Prod.fst u2)), SO.row 3 (Ty.int IntKind.i64) (T13.PS.nums (Prod.fst u2)), SO.row 5 (Ty.int IntKind.u8)
   (T13.PS.text (Prod.fst u2)), SO.cells 51 T13.rnew, SO.cells 62 (B13.bk (SV.sl 6 1 0 (List.length (T13.BSt.LL u8))) (SV.sl 7 1 0 (List.length (T13.BSt.LL u8))) (SV.sl 8 1 0
   1) (SV.sl 9 1 0 1)), SO.kept 22 3 (Ty.int IntKind.i64) (T13.BSt.LL u8), SO.row 22 (Ty.imm (Ty.int IntKind.i64)) (T13.BSt.LL u8), SO.kept 44 69 T13.aty [Prod.snd u2],
   SO.row 44 (Ty.imm T13.aty) [Prod.snd u2], SO.row 9 Ty.str u0, SO.dview 69 3 T13.aty (Prod.snd u2) 12 (T13.BSt.k u8) Option.none, SO.hold 3 (Ty.int IntKind.i64) []]) ∧
   T13.BOk (List.length (Prod.snd u2)) u8 ∧ List.length (Prod.snd u2) - T13.BSt.k u8 < List.length (Prod.snd u2) - T13.BSt.k u6) ∧ True)) ((∃ (u9 : T13.BSt), ((zT13Reads_6 s
   u0 u2), (zT13Reads_4 u0 u2 u6)) = ((zT13Reads_6 s u0 u2), [SO.cells 46 (zT13Reads_14 u2), SO.row 5 (Ty.int IntKind.u8) (T13.PS.inter (Prod.fst u2)), SO.row 3 (Ty.int
   IntKind.i64) (T13.PS.nums (Prod.fst u2)), SO.row 5 (Ty.int IntKind.u8) (T13.PS.text (Prod.fst u2)), SO.cells 51 T13.rnew, SO.cells 62 (B13.bk (SV.sl 6 1 0 (List.length
   (T13.BSt.LL u9))) (SV.sl 7 1 0 (List.length (T13.BSt.LL u9))) (SV.sl 8 1 0 1) (SV.sl 9 1 0 1)), SO.kept 22 3 (Ty.int IntKind.i64) (T13.BSt.LL u9), SO.row 22 (Ty.imm
   (Ty.int IntKind.i64)) (T13.BSt.LL u9), SO.kept 44 69 T13.aty [Prod.snd u2], SO.row 44 (Ty.imm T13.aty) [Prod.snd u2], SO.row 9 Ty.str u0, SO.dview 69 3 T13.aty (Prod.snd
   u2) 12 (T13.BSt.k u9) Option.none, SO.hold 3 (Ty.int IntKind.i64) []]) ∧ T13.BOk (List.length (Prod.snd u2)) u9) ∧ True)) ((∃ (u10 : T13.BSt), ((zT13Reads_6 s u0 u2),
   (zT13Reads_4 u0 u2 u6)) = ((zT13Reads_6 s u0 u2), [SO.cells 46 (zT13Reads_14 u2), SO.row 5 (Ty.int IntKind.u8) (T13.PS.inter (Prod.fst u2)), SO.row 3 (Ty.int IntKind.i64)
   (T13.PS.nums (Prod.fst u2)), SO.row 5 (Ty.int IntKind.u8) (T13.PS.text (Prod.fst u2)), SO.cells 51 T13.rnew, SO.cells 62 (B13.bk (SV.sl 6 1 0 (List.length (T13.BSt.LL
   u10))) (SV.sl 7 1 0 (List.length (T13.BSt.LL u10))) (SV.sl 8 1 0 1) (SV.sl 9 1 0 1)), SO.kept 22 3 (Ty.int IntKind.i64) (T13.BSt.LL u10), SO.row 22 (Ty.imm (Ty.int
   IntKind.i64)) (T13.BSt.LL u10), SO.kept 44 69 T13.aty [Prod.snd u2], SO.row 44 (Ty.imm T13.aty) [Prod.snd u2], SO.row 9 Ty.str u0, SO.dview 69 3 T13.aty (Prod.snd u2) 12
   (T13.BSt.k u10) Option.none, SO.hold 3 (Ty.int IntKind.i64) []]) ∧ T13.BOk (List.length (Prod.snd u2)) u10) ∧ True)) (br (decide ((↑(T13.BSt.k u6) : Int) < (↑(List.length
   (Prod.snd u2)) : Int))) (br (decide ((↑(T13.BSt.k u6) : Int) < (20 : Int))) (((0 : Int) ≤ (↑(T13.BSt.k u6) : Int) ∧ (↑(T13.BSt.k u6) : Int) < (↑(List.length (Prod.snd u2))
   : Int)) ∧ 0 + T13.BSt.k u6 < List.length (Prod.snd u2) ∧ False) ((∃ (u11 : T13.BSt), ((zT13Reads_6 s u0 u2), (zT13Reads_12 u0 u2 u6)) = ((zT13Reads_6 s u0 u2), [SO.cells
   46 (zT13Reads_14 u2), SO.row 5 (Ty.int IntKind.u8) (T13.PS.inter (Prod.fst u2)), SO.row 3 (Ty.int IntKind.i64) (T13.PS.nums (Prod.fst u2)), SO.row 5 (Ty.int IntKind.u8)
   (T13.PS.text (Prod.fst u2)), SO.cells 51 T13.rnew, SO.cells 62 (B13.bk (SV.sl 6 1 0 (List.length (T13.BSt.LL u11))) (SV.sl 7 1 0 (List.length (T13.BSt.LL u11))) (SV.sl 8 1
   0 1) (SV.sl 9 1 0 1)), SO.kept 22 3 (Ty.int IntKind.i64) (T13.BSt.LL u11), SO.row 22 (Ty.imm (Ty.int IntKind.i64)) (T13.BSt.LL u11), SO.kept 44 69 T13.aty [Prod.snd u2],
   SO.row 44 (Ty.imm T13.aty) [Prod.snd u2], SO.row 9 Ty.str u0, SO.dview 69 3 T13.aty (Prod.snd u2) 12 (T13.BSt.k u11) Option.none, SO.hold 3 (Ty.int IntKind.i64) []]) ∧
   T13.BOk (List.length (Prod.snd u2)) u11) ∧ True)) ((∃ (u12 : T13.BSt), ((zT13Reads_6 s u0 u2), (zT13Reads_12 u0 u2 u6)) = ((zT13Reads_6 s u0 u2), [SO.cells 46
   (zT13Reads_14 u2), SO.row 5 (Ty.int IntKind.u8) (T13.PS.inter (Prod.fst u2)), SO.row 3 (Ty.int IntKind.i64) (T13.PS.nums (Prod.fst u2)), SO.row 5 (Ty.int IntKind.u8)
   (T13.PS.text (Prod.fst u2)), SO.cells 51 T13.rnew, SO.cells 62 (B13.bk (SV.sl 6 1 0 (List.length (T13.BSt.LL u12))) (SV.sl 7 1 0 (List.length (T13.BSt.LL u12))) (SV.sl 8 1
   0 1) (SV.sl 9 1 0 1)), SO.kept 22 3 (Ty.int IntKind.i64) (T13.BSt.LL u12), SO.row 22 (Ty.imm (Ty.int IntKind.i64)) (T13.BSt.LL u12), SO.kept 44 69 T13.aty [Prod.snd u2],
   SO.row 44 (Ty.imm T13.aty) [Prod.snd u2], SO.row 9 Ty.str u0, SO.dview 69 3 T13.aty (Prod.snd u2) 12 (T13.BSt.k u12) Option.none, SO.hold 3 (Ty.int IntKind.i64) []]) ∧
   T13.BOk (List.length (Prod.snd u2)) u12) ∧ True))) (∀ (u13 : T13.BSt), T13.BOk (List.length (Prod.snd u2)) u13 → ((0 : Int) ≤ (0 : Int) ∧ (0 : Int) < (↑(List.length u0) :
   Int)) ∧ 0 < List.length u0 ∧ (T13.rnew = T13.rnew ∧ ByteArray.size (List.getD u0 0 (Ty.dflt Ty.str)) ≤ 100000) ∧ ∀ (u14 : T13.RS × List (Ty.den T13.aty)), T13.AllR T13.rs0
   (Sx.strInts (List.getD u0 0 (Ty.dflt Ty.str))) u14 → (List.length (Prod.snd u2) = List.length (Prod.snd u2) ∧ List.length (Prod.snd u14) = List.length (Prod.snd u14) ∧
   Prod.snd u2 = Prod.snd u14 ∧ List.length (Prod.snd u2) ≤ 1000000 ∧ ∀ (u15 : Ty.den T13.aty), u15 ∈ Prod.snd u2 → List.length (Prod.fst (Prod.snd (Prod.snd (Prod.snd
   (Prod.snd u15))))) ≤ 1000000) ∧ T13.fedP (Prod.fst u2) 1 2 3 (SV.lit (Value.slice Option.none 0 0)) = T13.fedP (zT13Reads_3 u2) 1 2 3 (SV.lit (Value.slice Option.none 0
   0)) ∧ (List.length (T13.RS.half (Prod.fst u14)) = List.length (T13.RS.half (Prod.fst u14)) ∧ List.length (T13.RS.nums (Prod.fst u14)) = List.length (T13.RS.nums (Prod.fst
   u14)) ∧ List.length (T13.RS.body (Prod.fst u14)) = List.length (T13.RS.body (Prod.fst u14))) ∧ br (!(T13.PS.st (Prod.fst u2) == (0 : Int) && ByteArray.size (Sx.bsOf
   (T13.PS.half (Prod.fst u2))) == 0) == (T13.RS.st (Prod.fst u14) == T13.sG && List.length (T13.RS.half (Prod.fst u14)) == 0)) (Q (SV.lit (Value.bool false), ([] : List
   Sx.SO), [])) ((T13.fedP (Prod.fst u2) 1 2 3 (SV.lit (Value.slice Option.none 0 0)) = T13.fedP (zT13Reads_3 u2) 1 2 3 (SV.lit (Value.slice Option.none 0 0)) ∧ T13.KeptOK
   (zT13Reads_3 u2)) ∧ br (decide ((↑(List.length (T13.PS.inter (Prod.fst u2)) + List.length (T13.PS.nums (Prod.fst u2)) + List.length (T13.PS.text (Prod.fst u2)) +
   ByteArray.size (Sx.bsOf (T13.PS.half (Prod.fst u2)))) : Int) > (76 : Int))) (Q (SV.lit (Value.bool false), ([] : List Sx.SO), [])) (T13.fedP (Prod.fst u2) 1 2 3 (SV.lit
   (Value.slice Option.none 0 0)) = T13.fedP (zT13Reads_3 u2) 1 2 3 (SV.lit (Value.slice Option.none 0 0)) ∧ br (T13.PS.st (Prod.fst u2) == (0 : Int) && ByteArray.size
   (Sx.bsOf (T13.PS.half (Prod.fst u2))) == 0) ((T13.fedP (Prod.fst u2) 1 2 3 (SV.lit (Value.slice Option.none 0 0)) = T13.fedP (zT13Reads_3 u2) 1 2 3 (SV.lit (Value.slice
   Option.none 0 0)) ∧ T13.KeptOK (zT13Reads_3 u2)) ∧ br ((↑(List.length (T13.PS.inter (Prod.fst u2)) + List.length (T13.PS.nums (Prod.fst u2)) + List.length (T13.PS.text
   (Prod.fst u2)) + ByteArray.size (Sx.bsOf (T13.PS.half (Prod.fst u2)))) : Int) != (0 : Int)) (Q (SV.lit (Value.bool false), ([] : List Sx.SO), [])) ((∃ (u16 : T13.LSt),
   ((zT13Reads_19 s u0), (zT13Reads_10 u0 u2 u13 u14)) = ((zT13Reads_19 s u0), [SO.cells 46 (T13.fedP (T13.LSt.r u16) 1 2 3 (SV.lit (Value.slice Option.none 0 0))), SO.row 5
   (Ty.int IntKind.u8) (T13.PS.inter (T13.LSt.r u16)), SO.row 3 (Ty.int IntKind.i64) (T13.PS.nums (T13.LSt.r u16)), SO.row 5 (Ty.int IntKind.u8) (T13.PS.text (T13.LSt.r
   u16)), SO.cells 51 (T13.rcl (T13.LSt.R u16)), SO.row 5 (Ty.int IntKind.u8) (T13.RS.half (T13.LSt.R u16)), SO.row 3 (Ty.int IntKind.i64) (T13.RS.nums (T13.LSt.R u16)),
   SO.row 5 (Ty.int IntKind.u8) (T13.RS.body (T13.LSt.R u16)), SO.cells 62 (B13.bk (SV.sl 9 1 0 (List.length (T13.LSt.LL u16))) (SV.sl 10 1 0 (List.length (T13.LSt.LL u16)))
   (SV.sl 11 1 0 (List.length (T13.LSt.AA u16))) (SV.sl 12 1 0 (List.length (T13.LSt.AA u16)))), SO.kept 22 3 (Ty.int IntKind.i64) (T13.LSt.LL u16), SO.row 22 (Ty.imm (Ty.int
   IntKind.i64)) (T13.LSt.LL u16), SO.kept 44 69 T13.aty (T13.LSt.AA u16), SO.row 44 (Ty.imm T13.aty) (T13.LSt.AA u16), SO.row 9 Ty.str u0]) ∧ T13.LOk u0 u16 ∧ (↑(T13.LSt.i
   u16) : Int) = (0 : Int) + (1 : Int)) ∧ True)) ((∃ (u17 : T13.LSt), ((zT13Reads_19 s u0), (zT13Reads_10 u0 u2 u13 u14)) = ((zT13Reads_19 s u0), [SO.cells 46 (T13.fedP
   (T13.LSt.r u17) 1 2 3 (SV.lit (Value.slice Option.none 0 0))), SO.row 5 (Ty.int IntKind.u8) (T13.PS.inter (T13.LSt.r u17)), SO.row 3 (Ty.int IntKind.i64) (T13.PS.nums
   (T13.LSt.r u17)), SO.row 5 (Ty.int IntKind.u8) (T13.PS.text (T13.LSt.r u17)), SO.cells 51 (T13.rcl (T13.LSt.R u17)), SO.row 5 (Ty.int IntKind.u8) (T13.RS.half (T13.LSt.R
   u17)), SO.row 3 (Ty.int IntKind.i64) (T13.RS.nums (T13.LSt.R u17)), SO.row 5 (Ty.int IntKind.u8) (T13.RS.body (T13.LSt.R u17)), SO.cells 62 (B13.bk (SV.sl 9 1 0
   (List.length (T13.LSt.LL u17))) (SV.sl 10 1 0 (List.length (T13.LSt.LL u17))) (SV.sl 11 1 0 (List.length (T13.LSt.AA u17))) (SV.sl 12 1 0 (List.length (T13.LSt.AA u17)))),
   SO.kept 22 3 (Ty.int IntKind.i64) (T13.LSt.LL u17), SO.row 22 (Ty.imm (Ty.int IntKind.i64)) (T13.LSt.LL u17), SO.kept 44 69 T13.aty (T13.LSt.AA u17), SO.row 44 (Ty.imm
   T13.aty) (T13.LSt.AA u17), SO.row 9 Ty.str u0]) ∧ T13.LOk u0 u17 ∧ (↑(T13.LSt.i u17) : Int) = (0 : Int) + (1 : Int)) ∧ True))))) (∀ (u18 : T13.LSt), T13.LOk u0 u18 ∧
   (↑(T13.LSt.i u18) : Int) = (0 : Int) + (1 : Int) → (∃ (u19 : T13.LSt), ([SV.lit (Value.string s), SV.ptr 0 0, SV.ptr 4 0, SV.ptr 8 0, SV.sl 13 1 0 (List.length u0), SV.lit
   (Value.int IntKind.i64 (IntKind.wrap IntKind.i64 ((0 : Int) + (1 : Int))))], [SO.cells 46 (T13.fedP (T13.LSt.r u18) 1 2 3 (SV.lit (Value.slice Option.none 0 0))), SO.row 5
   (Ty.int IntKind.u8) (T13.PS.inter (T13.LSt.r u18)), SO.row 3 (Ty.int IntKind.i64) (T13.PS.nums (T13.LSt.r u18)), SO.row 5 (Ty.int IntKind.u8) (T13.PS.text (T13.LSt.r
   u18)), SO.cells 51 (T13.rcl (T13.LSt.R u18)), SO.row 5 (Ty.int IntKind.u8) (T13.RS.half (T13.LSt.R u18)), SO.row 3 (Ty.int IntKind.i64) (T13.RS.nums (T13.LSt.R u18)),
   SO.row 5 (Ty.int IntKind.u8) (T13.RS.body (T13.LSt.R u18)), SO.cells 62 (B13.bk (SV.sl 9 1 0 (List.length (T13.LSt.LL u18))) (SV.sl 10 1 0 (List.length (T13.LSt.LL u18)))
   (SV.sl 11 1 0 (List.length (T13.LSt.AA u18))) (SV.sl 12 1 0 (List.length (T13.LSt.AA u18)))), SO.kept 22 3 (Ty.int IntKind.i64) (T13.LSt.LL u18), SO.row 22 (Ty.imm (Ty.int
   IntKind.i64)) (T13.LSt.LL u18), SO.kept 44 69 T13.aty (T13.LSt.AA u18), SO.row 44 (Ty.imm T13.aty) (T13.LSt.AA u18), SO.row 9 Ty.str u0]) = ([SV.lit (Value.string s),
   SV.ptr 0 0, SV.ptr 4 0, SV.ptr 8 0, SV.sl 13 1 0 (List.length u0), SV.lit (Value.int IntKind.i64 (↑(T13.LSt.i u19) : Int))], [SO.cells 46 (T13.fedP (T13.LSt.r u19) 1 2 3
   (SV.lit (Value.slice Option.none 0 0))), SO.row 5 (Ty.int IntKind.u8) (T13.PS.inter (T13.LSt.r u19)), SO.row 3 (Ty.int IntKind.i64) (T13.PS.nums (T13.LSt.r u19)), SO.row 5
   (Ty.int IntKind.u8) (T13.PS.text (T13.LSt.r u19)), SO.cells 51 (T13.rcl (T13.LSt.R u19)), SO.row 5 (Ty.int IntKind.u8) (T13.RS.half (T13.LSt.R u19)), SO.row 3 (Ty.int
   IntKind.i64) (T13.RS.nums (T13.LSt.R u19)), SO.row 5 (Ty.int IntKind.u8) (T13.RS.body (T13.LSt.R u19)), SO.cells 62 (B13.bk (SV.sl 9 1 0 (List.length (T13.LSt.LL u19)))
   (SV.sl 10 1 0 (List.length (T13.LSt.LL u19))) (SV.sl 11 1 0 (List.length (T13.LSt.AA u19))) (SV.sl 12 1 0 (List.length (T13.LSt.AA u19)))), SO.kept 22 3 (Ty.int
   IntKind.i64) (T13.LSt.LL u19), SO.row 22 (Ty.imm (Ty.int IntKind.i64)) (T13.LSt.LL u19), SO.kept 44 69 T13.aty (T13.LSt.AA u19), SO.row 44 (Ty.imm T13.aty) (T13.LSt.AA
   u19), SO.row 9 Ty.str u0]) ∧ T13.LOk u0 u19) ∧ ∀ (u20 : T13.LSt), T13.LOk u0 u20 → br (decide ((↑(T13.LSt.i u20) : Int) < (↑(List.length u0) : Int))) (∀ (u21 : Bool), True
   → br u21 (((0 : Int) ≤ (↑(T13.LSt.i u20) : Int) ∧ (↑(T13.LSt.i u20) : Int) < (↑(List.length u0) : Int)) ∧ 0 + T13.LSt.i u20 < List.length u0 ∧ (T13.fedP (T13.LSt.r u20) 2
   3 4 (SV.lit (Value.slice Option.none 0 0)) = T13.fedP (zT13Reads_11 u20) 2 3 4 (SV.lit (Value.slice Option.none 0 0)) ∧ 1 ≤ 1 ∧ T13.FeedOK (zT13Reads_11 u20) [List.getD u0
   (0 + T13.LSt.i u20) (Ty.dflt Ty.str)]) ∧ ∀ (u22 : T13.PS × List (Ty.den T13.aty)), T13.FeedOf (zT13Reads_11 u20) [List.getD u0 (0 + T13.LSt.i u20) (Ty.dflt Ty.str)] u22 →
   (List.length (Prod.snd u22) = List.length (Prod.snd u22) ∧ (List.length (Prod.snd u22) ≤ 1000000 ∧ ∀ (u23 : Ty.den T13.aty), u23 ∈ Prod.snd u22 → List.length (Prod.fst
   (Prod.snd (Prod.snd (Prod.snd (Prod.snd u23))))) ≤ 1000000) ∧ (List.length (T13.LSt.AA u20) ≤ 100 ∧ List.length (T13.LSt.AA u20) ≤ 100) ∧ B13.bk (SV.sl 2 1 0 (List.length
   (T13.LSt.LL u20))) (SV.sl 3 1 0 (List.length (T13.LSt.LL u20))) (SV.sl 4 1 0 (List.length (T13.LSt.AA u20))) (SV.sl 5 1 0 (List.length (T13.LSt.AA u20))) = B13.bk (SV.sl 2
   1 0 (List.length (T13.LSt.LL u20))) (SV.sl 3 1 0 (List.length (T13.LSt.LL u20))) (SV.sl 4 1 0 (List.length (T13.LSt.AA u20))) (SV.sl 5 1 0 (List.length (T13.LSt.AA u20))))
   ∧ ∀ (u24 : Bool), True → br u24 ((∃ (u25 : T13.BSt), ([SV.lit (Value.string s), SV.ptr 0 0, SV.ptr 4 0, SV.ptr 8 0, SV.sl 13 1 0 (List.length u0), SV.lit (Value.int
   IntKind.i64 (↑(T13.LSt.i u20) : Int)), SV.sl 14 7 0 (List.length (Prod.snd u22)), SV.lit (Value.int IntKind.i64 (0 : Int))], [SO.cells 46 (zT13Reads_13 u22), SO.row 5
   (Ty.int IntKind.u8) (T13.PS.inter (Prod.fst u22)), SO.row 3 (Ty.int IntKind.i64) (T13.PS.nums (Prod.fst u22)), SO.row 5 (Ty.int IntKind.u8) (T13.PS.text (Prod.fst u22)),
   SO.cells 51 (T13.rcl (T13.LSt.R u20)), SO.row 5 (Ty.int IntKind.u8) (T13.RS.half (T13.LSt.R u20)), SO.row 3 (Ty.int IntKind.i64) (T13.RS.nums (T13.LSt.R u20)), SO.row 5
   (Ty.int IntKind.u8) (T13.RS.body (T13.LSt.R u20)), SO.cells 62 (B13.bk (SV.sl 9 1 0 (List.length (T13.LSt.LL u20))) (SV.sl 10 1 0 (List.length (T13.LSt.LL u20)))
   (zT13Reads_20 u20) (zT13Reads_21 u20)), SO.kept 22 3 (Ty.int IntKind.i64) (T13.LSt.LL u20), SO.row 22 (Ty.imm (Ty.int IntKind.i64)) (T13.LSt.LL u20), SO.kept 44 69 T13.aty
   (T13.LSt.AA u20 ++ [Prod.snd u22]), SO.row 44 (Ty.imm T13.aty) (T13.LSt.AA u20 ++ [Prod.snd u22]), SO.row 9 Ty.str u0, SO.dview 69 3 T13.aty (Prod.snd u22) 15 0
   Option.none, SO.hold 3 (Ty.int IntKind.i64) []]) = ([SV.lit (Value.string s), SV.ptr 0 0, SV.ptr 4 0, SV.ptr 8 0, SV.sl 13 1 0 (List.length u0), SV.lit (Value.int
   IntKind.i64 (↑(T13.LSt.i u20) : Int)), SV.sl 14 7 0 (List.length (Prod.snd u22)), SV.lit (Value.int IntKind.i64 (↑(T13.BSt.k u25) : Int))], [SO.cells 46 (zT13Reads_13
   u22), SO.row 5 (Ty.int IntKind.u8) (T13.PS.inter (Prod.fst u22)), SO.row 3 (Ty.int IntKind.i64) (T13.PS.nums (Prod.fst u22)), SO.row 5 (Ty.int IntKind.u8) (T13.PS.text
   (Prod.fst u22)), SO.cells 51 (T13.rcl (T13.LSt.R u20)), SO.row 5 (Ty.int IntKind.u8) (T13.RS.half (T13.LSt.R u20)), SO.row 3 (Ty.int IntKind.i64) (T13.RS.nums (T13.LSt.R
   u20)), SO.row 5 (Ty.int IntKind.u8) (T13.RS.body (T13.LSt.R u20)), SO.cells 62 (B13.bk (SV.sl 9 1 0 (List.length (T13.BSt.LL u25))) (SV.sl 10 1 0 (List.length (T13.BSt.LL
   u25))) (zT13Reads_20 u20) (zT13Reads_21 u20)), SO.kept 22 3 (Ty.int IntKind.i64) (T13.BSt.LL u25), SO.row 22 (Ty.imm (Ty.int IntKind.i64)) (T13.BSt.LL u25), SO.kept 44 69
   T13.aty (T13.LSt.AA u20 ++ [Prod.snd u22]), SO.row 44 (Ty.imm T13.aty) (T13.LSt.AA u20 ++ [Prod.snd u22]), SO.row 9 Ty.str u0, SO.dview 69 3 T13.aty (Prod.snd u22) 15
   (T13.BSt.k u25) Option.none, SO.hold 3 (Ty.int IntKind.i64) []]) ∧ T13.BOk (List.length (Prod.snd u22)) u25) ∧ ∀ (u26 : T13.BSt), T13.BOk (List.length (Prod.snd u22)) u26
   → br (decide (T13.BSt.k u26 < List.length (Prod.snd u22))) (br (decide ((↑(T13.BSt.k u26) : Int) < (↑(List.length (Prod.snd u22)) : Int))) (br (decide ((↑(T13.BSt.k u26) :
   Int) < (20 : Int))) (((0 : Int) ≤ (↑(T13.BSt.k u26) : Int) ∧ (↑(T13.BSt.k u26) : Int) < (↑(List.length (Prod.snd u22)) : Int)) ∧ 0 + T13.BSt.k u26 + 1 = T13.BSt.k u26 + 1
   ∧ ((List.length (zT13Reads_16 u22 u26) ≤ List.length (zT13Reads_16 u22 u26) ∧ List.length (zT13Reads_16 u22 u26) ≤ 1000000) ∧ List.length (T13.BSt.LL u26) ≤ 1000 ∧
   List.length (T13.BSt.LL u26) ≤ 1000 ∧ B13.bk (SV.sl 2 1 0 (List.length (T13.BSt.LL u26))) (SV.sl 3 1 0 (List.length (T13.BSt.LL u26))) (SV.sl 4 1 0 (List.length
   (T13.LSt.AA u20) + 1)) (SV.sl 5 1 0 (List.length (T13.LSt.AA u20) + 1)) = B13.bk (SV.sl 2 1 0 (List.length (T13.BSt.LL u26))) (SV.sl 3 1 0 (List.length (T13.BSt.LL u26)))
   (SV.sl 4 1 0 (List.length (T13.LSt.AA u20 ++ [Prod.snd u22]))) (SV.sl 5 1 0 (List.length (T13.LSt.AA u20 ++ [Prod.snd u22])))) ∧ br (decide (List.length (T13.BSt.LL u26) <
   250)) ((∃ (u27 : T13.BSt), ([SV.lit (Value.string s), SV.ptr 0 0, SV.ptr 4 0, SV.ptr 8 0, SV.sl 13 1 0 (List.length u0), SV.lit (Value.int IntKind.i64 (↑(T13.LSt.i u20) :
   Int)), SV.sl 14 7 0 (List.length (Prod.snd u22)), SV.lit (Value.int IntKind.i64 (IntKind.wrap IntKind.i64 ((↑(T13.BSt.k u26) : Int) + (1 : Int))))], [SO.cells 46
   (zT13Reads_13 u22), SO.row 5 (Ty.int IntKind.u8) (T13.PS.inter (Prod.fst u22)), SO.row 3 (Ty.int IntKind.i64) (T13.PS.nums (Prod.fst u22)), SO.row 5 (Ty.int IntKind.u8)
   (T13.PS.text (Prod.fst u22)), SO.cells 51 (T13.rcl (T13.LSt.R u20)), SO.row 5 (Ty.int IntKind.u8) (T13.RS.half (T13.LSt.R u20)), SO.row 3 (Ty.int IntKind.i64) (T13.RS.nums
   (T13.LSt.R u20)), SO.row 5 (Ty.int IntKind.u8) (T13.RS.body (T13.LSt.R u20)), SO.cells 62 (B13.bk (SV.sl 9 1 0 (List.length (T13.BSt.LL u26) + 1)) (SV.sl 10 1 0
   (List.length (T13.BSt.LL u26) + 1)) (SV.sl 11 1 0 (List.length (T13.LSt.AA u20 ++ [Prod.snd u22]))) (SV.sl 12 1 0 (List.length (T13.LSt.AA u20 ++ [Prod.snd u22])))),
   SO.kept 22 3 (Ty.int IntKind.i64) (T13.BSt.LL u26 ++ [List.take (List.length (zT13Reads_16 u22 u26)) (zT13Reads_16 u22 u26)]), SO.row 22 (Ty.imm (Ty.int IntKind.i64))
   (T13.BSt.LL u26 ++ [List.take (List.length (zT13Reads_16 u22 u26)) (zT13Reads_16 u22 u26)]), SO.kept 44 69 T13.aty (T13.LSt.AA u20 ++ [Prod.snd u22]), SO.row 44 (Ty.imm
   T13.aty) (T13.LSt.AA u20 ++ [Prod.snd u22]), SO.row 9 Ty.str u0, SO.dview 69 3 T13.aty (Prod.snd u22) 15 (T13.BSt.k u26 + 1) Option.none, SO.hold 3 (Ty.int IntKind.i64)
   []]) = ([SV.lit (Value.string s), SV.ptr 0 0, SV.ptr 4 0, SV.ptr 8 0, SV.sl 13 1 0 (List.length u0), SV.lit (Value.int IntKind.i64 (↑(T13.LSt.i u20) : Int)), SV.sl 14 7 0
   (List.length (Prod.snd u22)), SV.lit (Value.int IntKind.i64 (↑(T13.BSt.k u27) : Int))], [SO.cells 46 (zT13Reads_13 u22), SO.row 5 (Ty.int IntKind.u8) (T13.PS.inter
   (Prod.fst u22)), SO.row 3 (Ty.int IntKind.i64) (T13.PS.nums (Prod.fst u22)), SO.row 5 (Ty.int IntKind.u8) (T13.PS.text (Prod.fst u22)), SO.cells 51 (T13.rcl (T13.LSt.R
   u20)), SO.row 5 (Ty.int IntKind.u8) (T13.RS.half (T13.LSt.R u20)), SO.row 3 (Ty.int IntKind.i64) (T13.RS.nums (T13.LSt.R u20)), SO.row 5 (Ty.int IntKind.u8) (T13.RS.body
   (T13.LSt.R u20)), SO.cells 62 (B13.bk (SV.sl 9 1 0 (List.length (T13.BSt.LL u27))) (SV.sl 10 1 0 (List.length (T13.BSt.LL u27))) (zT13Reads_20 u20) (zT13Reads_21 u20)),
   SO.kept 22 3 (Ty.int IntKind.i64) (T13.BSt.LL u27), SO.row 22 (Ty.imm (Ty.int IntKind.i64)) (T13.BSt.LL u27), SO.kept 44 69 T13.aty (T13.LSt.AA u20 ++ [Prod.snd u22]),
   SO.row 44 (Ty.imm T13.aty) (T13.LSt.AA u20 ++ [Prod.snd u22]), SO.row 9 Ty.str u0, SO.dview 69 3 T13.aty (Prod.snd u22) 15 (T13.BSt.k u27) Option.none, SO.hold 3 (Ty.int
   IntKind.i64) []]) ∧ T13.BOk (List.length (Prod.snd u22)) u27 ∧ List.length (Prod.snd u22) - T13.BSt.k u27 < List.length (Prod.snd u22) - T13.BSt.k u26) ∧ True) ((∃ (u28 :
   T13.BSt), ([SV.lit (Value.string s), SV.ptr 0 0, SV.ptr 4 0, SV.ptr 8 0, SV.sl 13 1 0 (List.length u0), SV.lit (Value.int IntKind.i64 (↑(T13.LSt.i u20) : Int)), SV.sl 14 7
   0 (List.length (Prod.snd u22)), SV.lit (Value.int IntKind.i64 (IntKind.wrap IntKind.i64 ((↑(T13.BSt.k u26) : Int) + (1 : Int))))], [SO.cells 46 (zT13Reads_13 u22), SO.row
   5 (Ty.int IntKind.u8) (T13.PS.inter (Prod.fst u22)), SO.row 3 (Ty.int IntKind.i64) (T13.PS.nums (Prod.fst u22)), SO.row 5 (Ty.int IntKind.u8) (T13.PS.text (Prod.fst u22)),
   SO.cells 51 (T13.rcl (T13.LSt.R u20)), SO.row 5 (Ty.int IntKind.u8) (T13.RS.half (T13.LSt.R u20)), SO.row 3 (Ty.int IntKind.i64) (T13.RS.nums (T13.LSt.R u20)), SO.row 5
   (Ty.int IntKind.u8) (T13.RS.body (T13.LSt.R u20)), SO.cells 62 (B13.bk (SV.sl 9 1 0 (List.length (T13.BSt.LL u26))) (SV.sl 10 1 0 (List.length (T13.BSt.LL u26))) (SV.sl 11
   1 0 (List.length (T13.LSt.AA u20 ++ [Prod.snd u22]))) (SV.sl 12 1 0 (List.length (T13.LSt.AA u20 ++ [Prod.snd u22])))), SO.kept 22 3 (Ty.int IntKind.i64) (T13.BSt.LL u26),
   SO.row 22 (Ty.imm (Ty.int IntKind.i64)) (T13.BSt.LL u26), SO.kept 44 69 T13.aty (T13.LSt.AA u20 ++ [Prod.snd u22]), SO.row 44 (Ty.imm T13.aty) (T13.LSt.AA u20 ++ [Prod.snd
   u22]), SO.row 9 Ty.str u0, SO.dview 69 3 T13.aty (Prod.snd u22) 15 (T13.BSt.k u26 + 1) Option.none, SO.hold 3 (Ty.int IntKind.i64) []]) = ([SV.lit (Value.string s), SV.ptr
   0 0, SV.ptr 4 0, SV.ptr 8 0, SV.sl 13 1 0 (List.length u0), SV.lit (Value.int IntKind.i64 (↑(T13.LSt.i u20) : Int)), SV.sl 14 7 0 (List.length (Prod.snd u22)), SV.lit
   (Value.int IntKind.i64 (↑(T13.BSt.k u28) : Int))], [SO.cells 46 (zT13Reads_13 u22), SO.row 5 (Ty.int IntKind.u8) (T13.PS.inter (Prod.fst u22)), SO.row 3 (Ty.int
   IntKind.i64) (T13.PS.nums (Prod.fst u22)), SO.row 5 (Ty.int IntKind.u8) (T13.PS.text (Prod.fst u22)), SO.cells 51 (T13.rcl (T13.LSt.R u20)), SO.row 5 (Ty.int IntKind.u8)
   (T13.RS.half (T13.LSt.R u20)), SO.row 3 (Ty.int IntKind.i64) (T13.RS.nums (T13.LSt.R u20)), SO.row 5 (Ty.int IntKind.u8) (T13.RS.body (T13.LSt.R u20)), SO.cells 62 (B13.bk
   (SV.sl 9 1 0 (List.length (T13.BSt.LL u28))) (SV.sl 10 1 0 (List.length (T13.BSt.LL u28))) (zT13Reads_20 u20) (zT13Reads_21 u20)), SO.kept 22 3 (Ty.int IntKind.i64)
   (T13.BSt.LL u28), SO.row 22 (Ty.imm (Ty.int IntKind.i64)) (T13.BSt.LL u28), SO.kept 44 69 T13.aty (T13.LSt.AA u20 ++ [Prod.snd u22]), SO.row 44 (Ty.imm T13.aty)
   (T13.LSt.AA u20 ++ [Prod.snd u22]), SO.row 9 Ty.str u0, SO.dview 69 3 T13.aty (Prod.snd u22) 15 (T13.BSt.k u28) Option.none, SO.hold 3 (Ty.int IntKind.i64) []]) ∧ T13.BOk
   (List.length (Prod.snd u22)) u28 ∧ List.length (Prod.snd u22) - T13.BSt.k u28 < List.length (Prod.snd u22) - T13.BSt.k u26) ∧ True)) ((∃ (u29 : T13.BSt), ((zT13Reads_5 s
   u0 u20 u22), (zT13Reads_7 u0 u20 u22 u26)) = ((zT13Reads_5 s u0 u20 u22), [SO.cells 46 (zT13Reads_13 u22), SO.row 5 (Ty.int IntKind.u8) (T13.PS.inter (Prod.fst u22)),
   SO.row 3 (Ty.int IntKind.i64) (T13.PS.nums (Prod.fst u22)), SO.row 5 (Ty.int IntKind.u8) (T13.PS.text (Prod.fst u22)), SO.cells 51 (T13.rcl (T13.LSt.R u20)), SO.row 5
   (Ty.int IntKind.u8) (T13.RS.half (T13.LSt.R u20)), SO.row 3 (Ty.int IntKind.i64) (T13.RS.nums (T13.LSt.R u20)), SO.row 5 (Ty.int IntKind.u8) (T13.RS.body (T13.LSt.R u20)),
   SO.cells 62 (B13.bk (SV.sl 9 1 0 (List.length (T13.BSt.LL u29))) (SV.sl 10 1 0 (List.length (T13.BSt.LL u29))) (zT13Reads_20 u20) (zT13Reads_21 u20)), SO.kept 22 3 (Ty.int
   IntKind.i64) (T13.BSt.LL u29), SO.row 22 (Ty.imm (Ty.int IntKind.i64)) (T13.BSt.LL u29), SO.kept 44 69 T13.aty (T13.LSt.AA u20 ++ [Prod.snd u22]), SO.row 44 (Ty.imm
   T13.aty) (T13.LSt.AA u20 ++ [Prod.snd u22]), SO.row 9 Ty.str u0, SO.dview 69 3 T13.aty (Prod.snd u22) 15 (T13.BSt.k u29) Option.none, SO.hold 3 (Ty.int IntKind.i64) []]) ∧
   T13.BOk (List.length (Prod.snd u22)) u29) ∧ True)) ((∃ (u30 : T13.BSt), ((zT13Reads_5 s u0 u20 u22), (zT13Reads_7 u0 u20 u22 u26)) = ((zT13Reads_5 s u0 u20 u22), [SO.cells
   46 (zT13Reads_13 u22), SO.row 5 (Ty.int IntKind.u8) (T13.PS.inter (Prod.fst u22)), SO.row 3 (Ty.int IntKind.i64) (T13.PS.nums (Prod.fst u22)), SO.row 5 (Ty.int IntKind.u8)
   (T13.PS.text (Prod.fst u22)), SO.cells 51 (T13.rcl (T13.LSt.R u20)), SO.row 5 (Ty.int IntKind.u8) (T13.RS.half (T13.LSt.R u20)), SO.row 3 (Ty.int IntKind.i64) (T13.RS.nums
   (T13.LSt.R u20)), SO.row 5 (Ty.int IntKind.u8) (T13.RS.body (T13.LSt.R u20)), SO.cells 62 (B13.bk (SV.sl 9 1 0 (List.length (T13.BSt.LL u30))) (SV.sl 10 1 0 (List.length
   (T13.BSt.LL u30))) (zT13Reads_20 u20) (zT13Reads_21 u20)), SO.kept 22 3 (Ty.int IntKind.i64) (T13.BSt.LL u30), SO.row 22 (Ty.imm (Ty.int IntKind.i64)) (T13.BSt.LL u30),
   SO.kept 44 69 T13.aty (T13.LSt.AA u20 ++ [Prod.snd u22]), SO.row 44 (Ty.imm T13.aty) (T13.LSt.AA u20 ++ [Prod.snd u22]), SO.row 9 Ty.str u0, SO.dview 69 3 T13.aty
   (Prod.snd u22) 15 (T13.BSt.k u30) Option.none, SO.hold 3 (Ty.int IntKind.i64) []]) ∧ T13.BOk (List.length (Prod.snd u22)) u30) ∧ True)) (br (decide ((↑(T13.BSt.k u26) :
   Int) < (↑(List.length (Prod.snd u22)) : Int))) (br (decide ((↑(T13.BSt.k u26) : Int) < (20 : Int))) (((0 : Int) ≤ (↑(T13.BSt.k u26) : Int) ∧ (↑(T13.BSt.k u26) : Int) <
   (↑(List.length (Prod.snd u22)) : Int)) ∧ 0 + T13.BSt.k u26 < List.length (Prod.snd u22) ∧ False) ((∃ (u31 : T13.BSt), ((zT13Reads_5 s u0 u20 u22), (zT13Reads_8 u0 u20 u22
   u26)) = ((zT13Reads_5 s u0 u20 u22), [SO.cells 46 (zT13Reads_13 u22), SO.row 5 (Ty.int IntKind.u8) (T13.PS.inter (Prod.fst u22)), SO.row 3 (Ty.int IntKind.i64)
   (T13.PS.nums (Prod.fst u22)), SO.row 5 (Ty.int IntKind.u8) (T13.PS.text (Prod.fst u22)), SO.cells 51 (T13.rcl (T13.LSt.R u20)), SO.row 5 (Ty.int IntKind.u8) (T13.RS.half
   (T13.LSt.R u20)), SO.row 3 (Ty.int IntKind.i64) (T13.RS.nums (T13.LSt.R u20)), SO.row 5 (Ty.int IntKind.u8) (T13.RS.body (T13.LSt.R u20)), SO.cells 62 (B13.bk (SV.sl 9 1 0
   (List.length (T13.BSt.LL u31))) (SV.sl 10 1 0 (List.length (T13.BSt.LL u31))) (zT13Reads_20 u20) (zT13Reads_21 u20)), SO.kept 22 3 (Ty.int IntKind.i64) (T13.BSt.LL u31),
   SO.row 22 (Ty.imm (Ty.int IntKind.i64)) (T13.BSt.LL u31), SO.kept 44 69 T13.aty (T13.LSt.AA u20 ++ [Prod.snd u22]), SO.row 44 (Ty.imm T13.aty) (T13.LSt.AA u20 ++ [Prod.snd
   u22]), SO.row 9 Ty.str u0, SO.dview 69 3 T13.aty (Prod.snd u22) 15 (T13.BSt.k u31) Option.none, SO.hold 3 (Ty.int IntKind.i64) []]) ∧ T13.BOk (List.length (Prod.snd u22))
   u31) ∧ True)) ((∃ (u32 : T13.BSt), ((zT13Reads_5 s u0 u20 u22), (zT13Reads_8 u0 u20 u22 u26)) = ((zT13Reads_5 s u0 u20 u22), [SO.cells 46 (zT13Reads_13 u22), SO.row 5
   (Ty.int IntKind.u8) (T13.PS.inter (Prod.fst u22)), SO.row 3 (Ty.int IntKind.i64) (T13.PS.nums (Prod.fst u22)), SO.row 5 (Ty.int IntKind.u8) (T13.PS.text (Prod.fst u22)),
   SO.cells 51 (T13.rcl (T13.LSt.R u20)), SO.row 5 (Ty.int IntKind.u8) (T13.RS.half (T13.LSt.R u20)), SO.row 3 (Ty.int IntKind.i64) (T13.RS.nums (T13.LSt.R u20)), SO.row 5
   (Ty.int IntKind.u8) (T13.RS.body (T13.LSt.R u20)), SO.cells 62 (B13.bk (SV.sl 9 1 0 (List.length (T13.BSt.LL u32))) (SV.sl 10 1 0 (List.length (T13.BSt.LL u32)))
   (zT13Reads_20 u20) (zT13Reads_21 u20)), SO.kept 22 3 (Ty.int IntKind.i64) (T13.BSt.LL u32), SO.row 22 (Ty.imm (Ty.int IntKind.i64)) (T13.BSt.LL u32), SO.kept 44 69 T13.aty
   (T13.LSt.AA u20 ++ [Prod.snd u22]), SO.row 44 (Ty.imm T13.aty) (T13.LSt.AA u20 ++ [Prod.snd u22]), SO.row 9 Ty.str u0, SO.dview 69 3 T13.aty (Prod.snd u22) 15 (T13.BSt.k
   u32) Option.none, SO.hold 3 (Ty.int IntKind.i64) []]) ∧ T13.BOk (List.length (Prod.snd u22)) u32) ∧ True))) (∀ (u33 : T13.BSt), T13.BOk (List.length (Prod.snd u22)) u33 →
   ((0 : Int) ≤ (↑(T13.LSt.i u20) : Int) ∧ (↑(T13.LSt.i u20) : Int) < (↑(List.length u0) : Int)) ∧ 0 + T13.LSt.i u20 < List.length u0 ∧ (T13.DocOK (zT13Reads_18 u20) ∧
   ByteArray.size (List.getD u0 (0 + T13.LSt.i u20) (Ty.dflt Ty.str)) ≤ 100000 ∧ List.length (T13.RS.half (T13.LSt.R u20)) = List.length (T13.RS.half (T13.LSt.R u20)) ∧
   List.length (T13.RS.nums (T13.LSt.R u20)) = List.length (T13.RS.nums (T13.LSt.R u20)) ∧ List.length (T13.RS.body (T13.LSt.R u20)) = List.length (T13.RS.body (T13.LSt.R
   u20))) ∧ ∀ (u34 : T13.RS × List (Ty.den T13.aty)), T13.AllR (zT13Reads_18 u20) (Sx.strInts (List.getD u0 (0 + T13.LSt.i u20) (Ty.dflt Ty.str))) u34 → (List.length
   (Prod.snd u22) = List.length (Prod.snd u22) ∧ List.length (Prod.snd u34) = List.length (Prod.snd u34) ∧ Prod.snd u22 = Prod.snd u34 ∧ List.length (Prod.snd u22) ≤ 1000000
   ∧ ∀ (u35 : Ty.den T13.aty), u35 ∈ Prod.snd u22 → List.length (Prod.fst (Prod.snd (Prod.snd (Prod.snd (Prod.snd u35))))) ≤ 1000000) ∧ T13.fedP (Prod.fst u22) 1 2 3 (SV.lit
   (Value.slice Option.none 0 0)) = T13.fedP (zT13Reads_2 u22) 1 2 3 (SV.lit (Value.slice Option.none 0 0)) ∧ (List.length (T13.RS.half (Prod.fst u34)) = List.length
   (T13.RS.half (Prod.fst u34)) ∧ List.length (T13.RS.nums (Prod.fst u34)) = List.length (T13.RS.nums (Prod.fst u34)) ∧ List.length (T13.RS.body (Prod.fst u34)) = List.length
   (T13.RS.body (Prod.fst u34))) ∧ br (!(T13.PS.st (Prod.fst u22) == (0 : Int) && ByteArray.size (Sx.bsOf (T13.PS.half (Prod.fst u22))) == 0) == (T13.RS.st (Prod.fst u34) ==
   T13.sG && List.length (T13.RS.half (Prod.fst u34)) == 0)) (Q (SV.lit (Value.bool false), ([] : List Sx.SO), [])) ((T13.fedP (Prod.fst u22) 1 2 3 (SV.lit (Value.slice
   Option.none 0 0)) = T13.fedP (zT13Reads_2 u22) 1 2 3 (SV.lit (Value.slice Option.none 0 0)) ∧ T13.KeptOK (zT13Reads_2 u22)) ∧ br (decide ((↑(List.length (T13.PS.inter
   (Prod.fst u22)) + List.length (T13.PS.nums (Prod.fst u22)) + List.length (T13.PS.text (Prod.fst u22)) + ByteArray.size (Sx.bsOf (T13.PS.half (Prod.fst u22)))) : Int) > (76
   : Int))) (Q (SV.lit (Value.bool false), ([] : List Sx.SO), [])) (T13.fedP (Prod.fst u22) 1 2 3 (SV.lit (Value.slice Option.none 0 0)) = T13.fedP (zT13Reads_2 u22) 1 2 3
   (SV.lit (Value.slice Option.none 0 0)) ∧ br (T13.PS.st (Prod.fst u22) == (0 : Int) && ByteArray.size (Sx.bsOf (T13.PS.half (Prod.fst u22))) == 0) ((T13.fedP (Prod.fst u22)
   1 2 3 (SV.lit (Value.slice Option.none 0 0)) = T13.fedP (zT13Reads_2 u22) 1 2 3 (SV.lit (Value.slice Option.none 0 0)) ∧ T13.KeptOK (zT13Reads_2 u22)) ∧ br ((↑(List.length
   (T13.PS.inter (Prod.fst u22)) + List.length (T13.PS.nums (Prod.fst u22)) + List.length (T13.PS.text (Prod.fst u22)) + ByteArray.size (Sx.bsOf (T13.PS.half (Prod.fst
   u22)))) : Int) != (0 : Int)) (Q (SV.lit (Value.bool false), ([] : List Sx.SO), [])) ((∃ (u36 : T13.LSt), ((zT13Reads_17 s u0 u20), (zT13Reads_9 u0 u20 u22 u33 u34)) =
   ((zT13Reads_17 s u0 u20), [SO.cells 46 (T13.fedP (T13.LSt.r u36) 1 2 3 (SV.lit (Value.slice Option.none 0 0))), SO.row 5 (Ty.int IntKind.u8) (T13.PS.inter (T13.LSt.r
   u36)), SO.row 3 (Ty.int IntKind.i64) (T13.PS.nums (T13.LSt.r u36)), SO.row 5 (Ty.int IntKind.u8) (T13.PS.text (T13.LSt.r u36)), SO.cells 51 (T13.rcl (T13.LSt.R u36)),
   SO.row 5 (Ty.int IntKind.u8) (T13.RS.half (T13.LSt.R u36)), SO.row 3 (Ty.int IntKind.i64) (T13.RS.nums (T13.LSt.R u36)), SO.row 5 (Ty.int IntKind.u8) (T13.RS.body
   (T13.LSt.R u36)), SO.cells 62 (B13.bk (SV.sl 9 1 0 (List.length (T13.LSt.LL u36))) (SV.sl 10 1 0 (List.length (T13.LSt.LL u36))) (SV.sl 11 1 0 (List.length (T13.LSt.AA
   u36))) (SV.sl 12 1 0 (List.length (T13.LSt.AA u36)))), SO.kept 22 3 (Ty.int IntKind.i64) (T13.LSt.LL u36), SO.row 22 (Ty.imm (Ty.int IntKind.i64)) (T13.LSt.LL u36),
   SO.kept 44 69 T13.aty (T13.LSt.AA u36), SO.row 44 (Ty.imm T13.aty) (T13.LSt.AA u36), SO.row 9 Ty.str u0]) ∧ T13.LOk u0 u36 ∧ (↑(T13.LSt.i u36) : Int) = (↑(T13.LSt.i u20) :
   Int) + (1 : Int)) ∧ True)) ((∃ (u37 : T13.LSt), ((zT13Reads_17 s u0 u20), (zT13Reads_9 u0 u20 u22 u33 u34)) = ((zT13Reads_17 s u0 u20), [SO.cells 46 (T13.fedP (T13.LSt.r
   u37) 1 2 3 (SV.lit (Value.slice Option.none 0 0))), SO.row 5 (Ty.int IntKind.u8) (T13.PS.inter (T13.LSt.r u37)), SO.row 3 (Ty.int IntKind.i64) (T13.PS.nums (T13.LSt.r
   u37)), SO.row 5 (Ty.int IntKind.u8) (T13.PS.text (T13.LSt.r u37)), SO.cells 51 (T13.rcl (T13.LSt.R u37)), SO.row 5 (Ty.int IntKind.u8) (T13.RS.half (T13.LSt.R u37)),
   SO.row 3 (Ty.int IntKind.i64) (T13.RS.nums (T13.LSt.R u37)), SO.row 5 (Ty.int IntKind.u8) (T13.RS.body (T13.LSt.R u37)), SO.cells 62 (B13.bk (SV.sl 9 1 0 (List.length
   (T13.LSt.LL u37))) (SV.sl 10 1 0 (List.length (T13.LSt.LL u37))) (SV.sl 11 1 0 (List.length (T13.LSt.AA u37))) (SV.sl 12 1 0 (List.length (T13.LSt.AA u37)))), SO.kept 22 3
   (Ty.int IntKind.i64) (T13.LSt.LL u37), SO.row 22 (Ty.imm (Ty.int IntKind.i64)) (T13.LSt.LL u37), SO.kept 44 69 T13.aty (T13.LSt.AA u37), SO.row 44 (Ty.imm T13.aty)
   (T13.LSt.AA u37), SO.row 9 Ty.str u0]) ∧ T13.LOk u0 u37 ∧ (↑(T13.LSt.i u37) : Int) = (↑(T13.LSt.i u20) : Int) + (1 : Int)) ∧ True))))) (∀ (u38 : T13.LSt), T13.LOk u0 u38 ∧
   (↑(T13.LSt.i u38) : Int) = (↑(T13.LSt.i u20) : Int) + (1 : Int) → (∃ (u39 : T13.LSt), ([SV.lit (Value.string s), SV.ptr 0 0, SV.ptr 4 0, SV.ptr 8 0, SV.sl 13 1 0
   (List.length u0), SV.lit (Value.int IntKind.i64 (IntKind.wrap IntKind.i64 ((↑(T13.LSt.i u20) : Int) + (1 : Int))))], [SO.cells 46 (T13.fedP (T13.LSt.r u38) 1 2 3 (SV.lit
   (Value.slice Option.none 0 0))), SO.row 5 (Ty.int IntKind.u8) (T13.PS.inter (T13.LSt.r u38)), SO.row 3 (Ty.int IntKind.i64) (T13.PS.nums (T13.LSt.r u38)), SO.row 5 (Ty.int
   IntKind.u8) (T13.PS.text (T13.LSt.r u38)), SO.cells 51 (T13.rcl (T13.LSt.R u38)), SO.row 5 (Ty.int IntKind.u8) (T13.RS.half (T13.LSt.R u38)), SO.row 3 (Ty.int IntKind.i64)
   (T13.RS.nums (T13.LSt.R u38)), SO.row 5 (Ty.int IntKind.u8) (T13.RS.body (T13.LSt.R u38)), SO.cells 62 (B13.bk (SV.sl 9 1 0 (List.length (T13.LSt.LL u38))) (SV.sl 10 1 0
   (List.length (T13.LSt.LL u38))) (SV.sl 11 1 0 (List.length (T13.LSt.AA u38))) (SV.sl 12 1 0 (List.length (T13.LSt.AA u38)))), SO.kept 22 3 (Ty.int IntKind.i64) (T13.LSt.LL
   u38), SO.row 22 (Ty.imm (Ty.int IntKind.i64)) (T13.LSt.LL u38), SO.kept 44 69 T13.aty (T13.LSt.AA u38), SO.row 44 (Ty.imm T13.aty) (T13.LSt.AA u38), SO.row 9 Ty.str u0]) =
   ([SV.lit (Value.string s), SV.ptr 0 0, SV.ptr 4 0, SV.ptr 8 0, SV.sl 13 1 0 (List.length u0), SV.lit (Value.int IntKind.i64 (↑(T13.LSt.i u39) : Int))], [SO.cells 46
   (T13.fedP (T13.LSt.r u39) 1 2 3 (SV.lit (Value.slice Option.none 0 0))), SO.row 5 (Ty.int IntKind.u8) (T13.PS.inter (T13.LSt.r u39)), SO.row 3 (Ty.int IntKind.i64)
   (T13.PS.nums (T13.LSt.r u39)), SO.row 5 (Ty.int IntKind.u8) (T13.PS.text (T13.LSt.r u39)), SO.cells 51 (T13.rcl (T13.LSt.R u39)), SO.row 5 (Ty.int IntKind.u8) (T13.RS.half
   (T13.LSt.R u39)), SO.row 3 (Ty.int IntKind.i64) (T13.RS.nums (T13.LSt.R u39)), SO.row 5 (Ty.int IntKind.u8) (T13.RS.body (T13.LSt.R u39)), SO.cells 62 (B13.bk (SV.sl 9 1 0
   (List.length (T13.LSt.LL u39))) (SV.sl 10 1 0 (List.length (T13.LSt.LL u39))) (SV.sl 11 1 0 (List.length (T13.LSt.AA u39))) (SV.sl 12 1 0 (List.length (T13.LSt.AA u39)))),
   SO.kept 22 3 (Ty.int IntKind.i64) (T13.LSt.LL u39), SO.row 22 (Ty.imm (Ty.int IntKind.i64)) (T13.LSt.LL u39), SO.kept 44 69 T13.aty (T13.LSt.AA u39), SO.row 44 (Ty.imm
   T13.aty) (T13.LSt.AA u39), SO.row 9 Ty.str u0]) ∧ T13.LOk u0 u39 ∧ List.length u0 - T13.LSt.i u39 < List.length u0 - T13.LSt.i u20) ∧ True)) ((((List.length (T13.LSt.LL
   u20) ≤ 1000 ∧ (∀ (u40 : List (Ty.den (Ty.int IntKind.i64))), u40 ∈ T13.LSt.LL u20 → List.length u40 ≤ 900000) ∧ T13.LSt.LL u20 = T13.LSt.LL u20) ∧ List.length (T13.LSt.AA
   u20) ≤ 1000 ∧ (∀ (u41 : List (Ty.den T13.aty)), u41 ∈ T13.LSt.AA u20 → List.length u41 ≤ 900000 ∧ ∀ (u42 : Ty.den T13.aty), u42 ∈ u41 → List.length (Prod.fst (Prod.snd
   (Prod.snd (Prod.snd (Prod.snd u42))))) ≤ 1000000) ∧ T13.LSt.AA u20 = T13.LSt.AA u20) ∧ B13.bk (SV.sl 1 1 0 (List.length (T13.LSt.LL u20))) (SV.sl 2 1 0 (List.length
   (T13.LSt.LL u20))) (SV.sl 3 1 0 (List.length (T13.LSt.AA u20))) (SV.sl 4 1 0 (List.length (T13.LSt.AA u20))) = B13.bk (SV.sl 1 1 0 (List.length (T13.LSt.LL u20))) (SV.sl 2
   1 0 (List.length (T13.LSt.LL u20))) (SV.sl 3 1 0 (List.length (T13.LSt.AA u20))) (SV.sl 4 1 0 (List.length (T13.LSt.AA u20)))) ∧ ∀ (u43 : Sx.Heap × List Nat), True → Q
   (SV.lit (Value.bool true), ([] : List Sx.SO), [0, 1, 2, 3, 4, 5, 6, 7, 8, 9, 10, 11, 12, 13, 14])))) False))) (by kernel_rfl) ?_
  delta zT13Reads_0 zT13Reads_1 zT13Reads_2 zT13Reads_3 zT13Reads_4 zT13Reads_5 zT13Reads_6 zT13Reads_7 zT13Reads_8 zT13Reads_9 zT13Reads_10 zT13Reads_11 zT13Reads_12 zT13Reads_13 zT13Reads_14 zT13Reads_15 zT13Reads_16 zT13Reads_17 zT13Reads_18 zT13Reads_19 zT13Reads_20 zT13Reads_21
  refine br_intro (fun _ => hq _) (fun h0 => br_intro (fun _ => hq _) (fun h1 => ?_))
  have h0 := of_decide_eq_false h0
  have h1 := of_decide_eq_false h1
  refine ⟨⟨by omega, by omega⟩, fun P hP => ?_⟩
  obtain ⟨hall, hfew, hne⟩ := hP
  refine br_intro (fun _ => ?_) (fun g => absurd (of_decide_eq_false g) (by omega))
  have ss := strInts_size s
  have hfl : (flat P).length ≤ 1500 := by rw [hall, ss]; omega
  have hpart : ∀ i, i < P.length → (strInts (P.getD i Ty.str.dflt)).length ≤ 1500 := fun i hi => Nat.le_trans (part_le P i hi _) hfl
  have hsz : ∀ i, i < P.length → (P.getD i Ty.str.dflt).size ≤ 1500 := fun i hi => by rw [← strInts_size]; exact hpart i hi
  refine fun b1 _ => br_intro (fun _ => ?_) (fun _ => ?_)
  · have hp0 := hpart 0 hne
    have hs0 := hsz 0 hne
    refine ⟨by omega, by omega, ⟨rfl, by omega, ⟨ps0_ok, by rw [flat_one]; omega, by simp⟩⟩, fun F hF => ?_⟩
    obtain ⟨hF⟩ := hF
    rw [flat_one] at hF
    have hei : Eight F.2 := by rw [hF]; exact pfeed_eight ps0_ok _
    have hfe : Few F.2 := few_of hei
    have hfn : F.2.length ≤ 4500 := by
      rw [hF]
      have := pfeed_few ps0 (strInts (P.getD 0 Ty.str.dflt))
      omega
    refine ⟨⟨rfl, ⟨by omega, hfe⟩, rfl⟩, fun b3 _ => br_intro (fun _ => ?_) (fun _ => fun z hz => ?_)⟩
    · refine ⟨⟨⟨0, []⟩, rfl, ⟨Nat.zero_le _, Nat.zero_le _, fun l hl => by cases hl⟩⟩, fun z hz => ?_⟩
      have hzk := hz.k
      have hzf := hz.few
      have hzs := hz.small
      refine br_intro (fun g1 => br_intro (fun _ => br_intro (fun _ => ?_) (fun _ => ⟨⟨⟨z.k + 1, z.LL⟩, rfl, ⟨by show z.k + 1 ≤ _; have := of_decide_eq_true g1; omega, hzf, hzs⟩⟩, trivial⟩)) (fun _ => ⟨⟨⟨z.k + 1, z.LL⟩, rfl, ⟨by show z.k + 1 ≤ _; have := of_decide_eq_true g1; omega, hzf, hzs⟩⟩, trivial⟩)) (fun g1 => br_intro (fun g2 => absurd (of_decide_eq_true g2) (by have := of_decide_eq_false g1; omega)) (fun _ => ⟨⟨⟨z.k, z.LL⟩, rfl, hz⟩, trivial⟩))
      have g1 := of_decide_eq_true g1
      have hn := hei _ (B13.getD_mem aty.dflt g1)
      have hw := wrap1 z.k (by omega)
      generalize (F.2.getD z.k aty.dflt).2.2.2.2.1 = nu at *
      simp only [List.take_length]
      rw [hw]
      have el : z.LL.length + 1 = (z.LL ++ [nu]).length := by rw [List.length_append]; rfl
      refine ⟨by omega, by omega, ⟨⟨by first | trivial | omega, by omega⟩, by omega, by omega, by trivial⟩, br_intro (fun g4 => ⟨⟨⟨z.k + 1, z.LL ++ [nu]⟩, ?_, ⟨by show z.k + 1 ≤ _; omega, by show (z.LL ++ [nu]).length ≤ 250; rw [← el]; have := of_decide_eq_true g4; omega, small_snoc hzs (by omega)⟩, by show _ - (z.k + 1) < _; omega⟩, trivial⟩) (fun _ => ⟨⟨⟨z.k + 1, z.LL⟩, rfl, ⟨by show z.k + 1 ≤ _; omega, hzf, hzs⟩, by show _ - (z.k + 1) < _; omega⟩, trivial⟩)⟩
      rw [el]
    · refine ⟨by omega, by omega, ⟨rfl, by omega⟩, fun G hG => ?_⟩
      have T := turn_of doc0 (fun _ => ⟨rfl, rfl, rfl⟩) hF hG
      have hok : LOk P ⟨1, F.1, G.1, z.LL, [F.2]⟩ := ⟨by show 1 ≤ P.length; omega, T.clean, T.doc, hz.few, hz.small, Nat.le_refl _, fun l hl => by
        have : l = F.2 := by simpa using hl
        rw [this]; exact ⟨by omega, hfe⟩⟩
      have hgr : (!((F.1.st == 0 && (bsOf F.1.half).size == 0) == (G.1.st == sG && G.1.half.length == 0))) = false := by rw [T.ground]; simp
      have hkp := T.kept
      have hko : KeptOK (⟨F.1.st, strInts (bsOf F.1.half), F.1.inter, F.1.wrong, F.1.first, F.1.mark, F.1.nums, F.1.full, F.1.text⟩ : PS) := by rw [T.eta]; exact kept_ok T.doc.ok
      refine ⟨⟨rfl, rfl, T.same, by omega, hfe⟩, by rw [T.eta], ⟨rfl, rfl, rfl⟩, br_no hgr ⟨⟨by rw [T.eta], hko⟩, br_no (decide_eq_false (by omega)) ⟨by rw [T.eta], br_intro (fun g => ⟨⟨by rw [T.eta], hko⟩, br_no (by rw [T.none g]; rfl) ?_⟩) (fun g => ?_)⟩⟩⟩
      all_goals exact ⟨⟨⟨1, F.1, G.1, z.LL, [F.2]⟩, rfl, hok, rfl⟩, trivial⟩
  · intro y hy
    obtain ⟨hy, hyi⟩ := hy
    have ew : IntKind.i64.wrap ((0 : Int) + 1) = (y.i : Int) := by rw [hyi]; decide
    rw [ew]
    refine ⟨⟨y, rfl, hy⟩, fun x hx => ?_⟩
    have hxi := hx.i
    have hxf := hx.few
    have hxf2 := hx.few2
    refine br_intro (fun hlt => ?_) (fun _ => ⟨⟨⟨⟨by omega, hx.small, rfl⟩, ⟨by omega, hx.small2, rfl⟩⟩, rfl⟩, fun _ _ => hq _⟩)
    have hlt := of_decide_eq_true hlt
    have hpi := hpart x.i (by omega)
    have hsi := hsz x.i (by omega)
    refine fun b4 _ => br_intro (fun _ => ?_) (fun _ => fun y hy => ?_)
    · have heta : (⟨x.r.st, strInts (bsOf x.r.half), x.r.inter, x.r.wrong, x.r.first, x.r.mark, x.r.nums, x.r.full, x.r.text⟩ : PS) = x.r := PS.eta hx.doc.ok.half
      rw [Nat.zero_add]
      refine ⟨by omega, by omega, ⟨by rw [heta], by omega, ⟨by rw [heta]; exact hx.doc.ok, by rw [flat_one]; omega, by simp⟩⟩, fun F hF => ?_⟩
      obtain ⟨hF⟩ := hF
      rw [heta, flat_one] at hF
      have hei : Eight F.2 := by rw [hF]; exact pfeed_eight hx.doc.ok _
      have hfe : Few F.2 := few_of hei
      have hfn : F.2.length ≤ 4500 := by
        rw [hF]
        have := pfeed_few x.r (strInts (P.getD x.i Ty.str.dflt))
        omega
      have ea : x.AA.length + 1 = (x.AA ++ [F.2]).length := by rw [List.length_append]; rfl
      rw [ea]
      refine ⟨⟨rfl, ⟨by omega, hfe⟩, ⟨by omega, by omega⟩, rfl⟩, fun b6 _ => br_intro (fun _ => ?_) (fun _ => fun z hz => ?_)⟩
      · refine ⟨⟨⟨0, x.LL⟩, rfl, ⟨Nat.zero_le _, hxf, hx.small⟩⟩, fun z hz => ?_⟩
        have hzk := hz.k
        have hzf := hz.few
        have hzs := hz.small
        refine br_intro (fun g1 => br_intro (fun _ => br_intro (fun _ => ?_) (fun _ => ⟨⟨⟨z.k + 1, z.LL⟩, rfl, ⟨by show z.k + 1 ≤ _; have := of_decide_eq_true g1; omega, hzf, hzs⟩⟩, trivial⟩)) (fun _ => ⟨⟨⟨z.k + 1, z.LL⟩, rfl, ⟨by show z.k + 1 ≤ _; have := of_decide_eq_true g1; omega, hzf, hzs⟩⟩, trivial⟩)) (fun g1 => br_intro (fun g2 => absurd (of_decide_eq_true g2) (by have := of_decide_eq_false g1; omega)) (fun _ => ⟨⟨⟨z.k, z.LL⟩, rfl, hz⟩, trivial⟩))
        have g1 := of_decide_eq_true g1
        have hn := hei _ (B13.getD_mem aty.dflt g1)
        have hw := wrap1 z.k (by omega)
        generalize (F.2.getD z.k aty.dflt).2.2.2.2.1 = nu at *
        simp only [List.take_length]
        rw [hw]
        have el : z.LL.length + 1 = (z.LL ++ [nu]).length := by rw [List.length_append]; rfl
        refine ⟨by omega, by omega, ⟨⟨by first | trivial | omega, by omega⟩, by omega, by omega, by trivial⟩, br_intro (fun g4 => ⟨⟨⟨z.k + 1, z.LL ++ [nu]⟩, ?_, ⟨by show z.k + 1 ≤ _; omega, by show (z.LL ++ [nu]).length ≤ 250; rw [← el]; have := of_decide_eq_true g4; omega, small_snoc hzs (by omega)⟩, by show _ - (z.k + 1) < _; omega⟩, trivial⟩) (fun _ => ⟨⟨⟨z.k + 1, z.LL⟩, rfl, ⟨by show z.k + 1 ≤ _; omega, hzf, hzs⟩, by show _ - (z.k + 1) < _; omega⟩, trivial⟩)⟩
        rw [el]
      · refine ⟨by omega, by omega, ⟨⟨x.r, hx.doc⟩, by omega, rfl, rfl, rfl⟩, fun G hG => ?_⟩
        have T := turn_of hx.doc hx.clean hF hG
        have hok : LOk P ⟨x.i + 1, F.1, G.1, z.LL, x.AA ++ [F.2]⟩ := ⟨by show x.i + 1 ≤ P.length; omega, T.clean, T.doc, hz.few, hz.small, by show (x.AA ++ [F.2]).length ≤ x.i + 1; rw [← ea]; omega, fun l hl => by
          rcases List.mem_append.1 hl with h | h
          · exact hx.small2 l h
          · have : l = F.2 := by simpa using h
            rw [this]; exact ⟨by omega, hfe⟩⟩
        have hgr : (!((F.1.st == 0 && (bsOf F.1.half).size == 0) == (G.1.st == sG && G.1.half.length == 0))) = false := by rw [T.ground]; simp
        have hkp := T.kept
        have hko : KeptOK (⟨F.1.st, strInts (bsOf F.1.half), F.1.inter, F.1.wrong, F.1.first, F.1.mark, F.1.nums, F.1.full, F.1.text⟩ : PS) := by rw [T.eta]; exact kept_ok T.doc.ok
        refine ⟨⟨rfl, rfl, T.same, by omega, hfe⟩, by rw [T.eta], ⟨rfl, rfl, rfl⟩, br_no hgr ⟨⟨by rw [T.eta], hko⟩, br_no (decide_eq_false (by omega)) ⟨by rw [T.eta], br_intro (fun g => ⟨⟨by rw [T.eta], hko⟩, br_no (by rw [T.none g]; rfl) ?_⟩) (fun g => ?_)⟩⟩⟩
        all_goals exact ⟨⟨⟨x.i + 1, F.1, G.1, z.LL, x.AA ++ [F.2]⟩, rfl, hok, by show ((x.i + 1 : Nat) : Int) = x.i + 1; omega⟩, trivial⟩
    · obtain ⟨hy, hyi⟩ := hy
      have ew : IntKind.i64.wrap ((x.i : Int) + 1) = (y.i : Int) := by rw [hyi, IntKind.wrap_i64]; omega
      rw [ew]
      exact ⟨⟨y, rfl, hy, by omega⟩, trivial⟩
end T13

