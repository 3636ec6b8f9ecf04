/- Part of a proof: the walks of the functions that the law calls, and their plain laws; no condition. -/
import Derived.Test.YtlcobcpgaoeijaaGreatSxT
import Derived.Test.YtlcobcpgaoeijaaGreatM1
import Derived.Test.YtlcobcpgaoeijaaGreatProg
import Derived.Test.YtlcobcpgaoeijaaGreatM15
set_option linter.unusedVariables false
set_option linter.unusedSimpArgs false
section
open Go Sx Go.Proofs
open T13 (aty)
namespace B13
set_option maxRecDepth 100000
set_option maxHeartbeats 40000000
attribute [local irreducible] Tree.Leads
theorem wrap1 (n : Nat) (h : n ≤ 1099511627776) : IntKind.i64.wrap ((n : Int) + 1) = ((n + 1 : Nat) : Int) := by rw [IntKind.wrap_i64]; omega
noncomputable def A13 (X Y : List Int) (L : Nat) : Ann := { live := [0, 1, 5], mv := [], head := fun vals H => match vals with | [a, b, _] => { X := Nat, inv := fun i => ([a, b, .lit (.int .i64 i)], H), ok := fun i => i ≤ L ∧ X.take i = Y.take i, mu := fun i => L - i } | _ => { X := Nat, inv := fun _ => ([], []), ok := fun _ => False, mu := fun _ => 0 } }
theorem decF {p : Prop} [Decidable p] (h : ¬ p) : decide p = false := decide_eq_false h
def nl : SV := .lit (.slice none 0 0)
def bk (a b c d : SV) : List SV := [nl, nl, a, b, nl, nl, nl, nl, c, d, nl, nl, nl, nl, nl, nl]
/-- A copy, as data. -/
noncomputable def E25 : Nat → Option Ann := An1 999999 { live := [], mv := [], head := fun _ _ => { X := Nat, inv := fun _ => ([], []), ok := fun _ => False, mu := fun _ => 0 }, hook := 6, hk2 := 2 }
theorem v25 (n : Nat) (R : List Int) (Q : SV × Heap × List Nat → Prop) (hn : n ≤ R.length) (hR : R.length ≤ 1000000) (hq : Q (.imm (.int .i64) (R.take n), [.view 3 (.int .i64) R], [])) :
    (bodySumm Table.none Tryz.prog Tryz.f19 E25 [.sl 0 1 0 n] [.view 3 (.int .i64) R]).Leads Q := by
  refine Sx.by_text (q :=
   0 + n ≤ List.length R ∧ ((↑(0 + List.length (List.take n (List.drop 0 R))) : Int) ≤ (9223372036854775807 : Int) ∧ (0 + List.length (List.take n (List.drop 0 R))) *
   Sx.bytesOf Go.Proofs.Tryz.prog 3 ≤ 140737488355328) ∧ 0 + List.length (List.take n (List.drop 0 R)) ≤ List.length (List.take n (List.drop 0 R)) ∧ Q (SV.imm (Ty.int
   IntKind.i64) (List.take (List.length (List.take n (List.drop 0 R))) (List.drop 0 (List.take n (List.drop 0 R)))), [SO.view 3 (Ty.int IntKind.i64) R], [])) (by kernel_rfl) ?_
  have hb : bytesOf Tryz.prog 3 = 8 := by kernel_rfl
  have hl : (R.take n).length = n := by rw [List.length_take]; omega
  rw [List.drop_zero, List.drop_zero, List.take_length, hl, hb]
  exact ⟨by omega, ⟨by omega, by omega⟩, by omega, hq⟩
/-- A copy of what is data. -/
theorem v25i (R : List Int) (Q : SV × Heap × List Nat → Prop) (hR : R.length ≤ 1000000) (hq : Q (.imm (.int .i64) R, [], [])) :
    (bodySumm Table.none Tryz.prog Tryz.f19 E25 [.imm (.int .i64) R] []).Leads Q := by
  refine Sx.by_text (q :=
   ((↑(0 + List.length R) : Int) ≤ (9223372036854775807 : Int) ∧ (0 + List.length R) * Sx.bytesOf Go.Proofs.Tryz.prog 3 ≤ 140737488355328) ∧ 0 + List.length R ≤ List.length R
   ∧ Q (SV.imm (Ty.int IntKind.i64) (List.take (List.length R) (List.drop 0 R)), ([] : List Sx.SO), [])) (by kernel_rfl) ?_
  have hb : bytesOf Tryz.prog 3 = 8 := by kernel_rfl
  rw [hb, Nat.zero_add, List.drop_zero, List.take_length]
  exact ⟨⟨by omega, by omega⟩, by omega, hq⟩
noncomputable def s25 : Summ := fun args H => match args, H with
  | [.sl 0 1 0 n], [.view 3 (.int .i64) R] => .need (n ≤ R.length ∧ R.length ≤ 1000000) (.ret (.imm (.int .i64) (R.take n), [.view 3 (.int .i64) R], []))
  | [.imm (.int .i64) R], [] => .need (R.length ≤ 1000000) (.ret (.imm (.int .i64) R, [], []))
  | _, _ => .fail
theorem s25_ok : SummOK Tryz.prog 19 s25 := by
  refine summ_of_body (fn := Tryz.f19) (c := Tryz.f19.body.get!) none_ok (by kernel_rfl) (by kernel_rfl) (by kernel_rfl) fun args H Q h => ?_
  unfold s25 at h
  split at h
  · rename_i n R
    simp only [Tree.Leads] at h
    exact ⟨E25, v25 n R Q h.1.1 h.1.2 h.2⟩
  · rename_i R
    simp only [Tree.Leads] at h
    exact ⟨E25, v25i R Q h.1 h.2⟩
  · simp only [Tree.Leads] at h
/-- With rows that are kept. -/
noncomputable def K1 : Table := (Table.none.add 19 (.go s25)).add 3000054 (.ext fun _ _ => .fail)
theorem K1_ok : TableOK Tryz.prog K1 := add_ok (add_ok none_ok s25_ok) (fun _ _ _ _ _ _ _ _ _ h => by simp only [Tree.Leads] at h)
noncomputable abbrev zB13a_1 (LL : List (List Int)) (WW : List (List Int)) (AA : List (List aty.den)) (WA : List (List aty.den)) := [SV.lit (Value.slice Option.none 0 0), SV.lit (Value.slice Option.none 0 0), SV.sl 2 1 0 (List.length LL + 1), SV.sl 3 1 0 (List.length WW + 1), SV.lit (Value.slice Option.none 0 0), SV.lit (Value.slice Option.none 0 0), SV.lit (Value.slice Option.none 0 0), SV.lit (Value.slice Option.none 0 0), SV.sl 4 1 0 (List.length AA), SV.sl 5 1 0 (List.length WA), SV.lit (Value.slice Option.none 0 0), SV.lit (Value.slice Option.none 0 0), SV.lit (Value.slice Option.none 0 0), SV.lit (Value.slice Option.none 0 0), SV.lit (Value.slice Option.none 0 0), SV.lit (Value.slice Option.none 0 0)]
noncomputable abbrev zB13a_0 (n : Nat) (R : List Int) (LL : List (List Int)) (WW : List (List Int)) (AA : List (List aty.den)) (WA : List (List aty.den)) (Q : SV × Heap × List Nat → Prop) := ((n ≤ List.length R ∧ List.length R ≤ 1000000) ∧ 1 ≤ 1 ∧ br (decide (List.length WW + 1 ≤ List.length WW)) (Q (SV.tup ([] : List Sx.SV), [SO.cells 62 (zB13a_1 LL WW AA WA), SO.view 3 (Ty.int IntKind.i64) R, SO.kept 22 3 (Ty.int IntKind.i64) (LL ++ [List.take n R]), SO.row 22 (Ty.imm (Ty.int IntKind.i64)) (List.take (List.length WW) WW ++ [List.take n R] ++ List.drop (List.length WW + 1) WW), SO.kept 44 69 T13.aty AA, SO.row 44 (Ty.imm T13.aty) WA], [2])) (List.length WW ≤ List.length WW ∧ ((↑(List.length WW + 1) : Int) ≤ (9223372036854775807 : Int) ∧ (List.length WW + 1) * Sx.bytesOf Go.Proofs.Tryz.prog 22 ≤ 140737488355328) ∧ Q (SV.tup ([] : List Sx.SV), [SO.cells 62 (zB13a_1 LL WW AA WA), SO.view 3 (Ty.int IntKind.i64) R, SO.kept 22 3 (Ty.int IntKind.i64) (LL ++ [List.take n R]), SO.row 22 (Ty.imm (Ty.int IntKind.i64)) (List.take (List.length WW) WW ++ [List.take n R]), SO.kept 44 69 T13.aty AA, SO.row 44 (Ty.imm T13.aty) WA], [2, 3])))
theorem v20 (n : Nat) (R : List Int) (LL WW : List (List Int)) (AA WA : List (List aty.den)) (Q : SV × Heap × List Nat → Prop) (hn : n ≤ R.length) (hR : R.length ≤ 1000000) (hL : LL.length ≤ 1000) (hW : WW.length ≤ 1000)
    (hq : LL.length < 250 → Q (.tup [], [.cells 62 (bk (.sl 2 1 0 (LL.length + 1)) (.sl 3 1 0 (WW.length + 1)) (.sl 4 1 0 AA.length) (.sl 5 1 0 WA.length)), .view 3 (.int .i64) R, .kept 22 3 (.int .i64) (LL ++ [R.take n]), .row 22 (.imm (.int .i64)) (WW ++ [R.take n]), .kept 44 69 aty AA, .row 44 (.imm aty) WA], [2, 3]))
    (hq2 : ¬ LL.length < 250 → Q (.tup [], [.cells 62 (bk (.sl 2 1 0 LL.length) (.sl 3 1 0 WW.length) (.sl 4 1 0 AA.length) (.sl 5 1 0 WA.length)), .hold 3 (.int .i64) R, .kept 22 3 (.int .i64) LL, .row 22 (.imm (.int .i64)) WW, .kept 44 69 aty AA, .row 44 (.imm aty) WA], [])) :
    (bodySumm K1 Tryz.prog Tryz.f8 noAn [.ptr 0 0, .sl 1 1 0 n] [.cells 62 (bk (.sl 2 1 0 LL.length) (.sl 3 1 0 WW.length) (.sl 4 1 0 AA.length) (.sl 5 1 0 WA.length)), .hold 3 (.int .i64) R, .kept 22 3 (.int .i64) LL, .row 22 (.imm (.int .i64)) WW, .kept 44 69 aty AA, .row 44 (.imm aty) WA]).Leads Q := by
  refine Sx.by_text (q :=
   br (decide ((↑(List.length LL) : Int) < (250 : Int))) (n ≤ List.length R ∧ (List.length LL = List.length LL ∧ 1 = 1) ∧ ((↑(List.length LL + 1) : Int) ≤
   (9223372036854775807 : Int) ∧ (List.length LL + 1) * Sx.bytesOf Go.Proofs.Tryz.prog 22 ≤ 140737488355328) ∧ ∀ (u0 : Bool), True → br u0 (zB13a_0 n R LL WW AA WA Q)
   (zB13a_0 n R LL WW AA WA Q)) (Q (SV.tup ([] : List Sx.SV), [SO.cells 62 [SV.lit (Value.slice Option.none 0 0), SV.lit (Value.slice Option.none 0 0), SV.sl 2 1 0
   (List.length LL), SV.sl 3 1 0 (List.length WW), SV.lit (Value.slice Option.none 0 0), SV.lit (Value.slice Option.none 0 0), SV.lit (Value.slice Option.none 0 0), SV.lit
   (Value.slice Option.none 0 0), SV.sl 4 1 0 (List.length AA), SV.sl 5 1 0 (List.length WA), SV.lit (Value.slice Option.none 0 0), SV.lit (Value.slice Option.none 0 0),
   SV.lit (Value.slice Option.none 0 0), SV.lit (Value.slice Option.none 0 0), SV.lit (Value.slice Option.none 0 0), SV.lit (Value.slice Option.none 0 0)], SO.hold 3 (Ty.int
   IntKind.i64) R, SO.kept 22 3 (Ty.int IntKind.i64) LL, SO.row 22 (Ty.imm (Ty.int IntKind.i64)) WW, SO.kept 44 69 T13.aty AA, SO.row 44 (Ty.imm T13.aty) WA], []))) (by kernel_rfl) ?_
  delta zB13a_0 zB13a_1
  have hb : bytesOf Tryz.prog 22 = 24 := by kernel_rfl
  rw [hb, List.take_length]
  refine br_intro (fun h => ?_) (fun h => hq2 (by have := of_decide_eq_false h; omega))
  have h := of_decide_eq_true h
  have hq := hq (by omega)
  refine ⟨hn, ⟨rfl, rfl⟩, ⟨by omega, by omega⟩, fun b _ => br_intro (fun _ => ?_) (fun _ => ?_)⟩
  all_goals exact ⟨⟨hn, hR⟩, by omega, br_intro (fun h => by have := of_decide_eq_true h; omega) (fun _ => ⟨by omega, ⟨by omega, by omega⟩, hq⟩)⟩
noncomputable def s20 : Summ := fun args H => match args, H with
  | [.ptr 0 0, .sl 1 1 0 n], [.cells 62 cs, .hold 3 (.int .i64) R, .kept 22 3 (.int .i64) LL, .row 22 (.imm (.int .i64)) WW, .kept 44 69 (Ty.pair (Ty.int IntKind.i64) (Ty.pair (Ty.int IntKind.i32) (Ty.pair (Ty.int IntKind.i64) (Ty.pair (Ty.int IntKind.i64) (Ty.pair (Ty.imm (Ty.int IntKind.i64)) (Ty.pair Ty.str Ty.str)))))) AA, .row 44 (.imm (Ty.pair (Ty.int IntKind.i64) (Ty.pair (Ty.int IntKind.i32) (Ty.pair (Ty.int IntKind.i64) (Ty.pair (Ty.int IntKind.i64) (Ty.pair (Ty.imm (Ty.int IntKind.i64)) (Ty.pair Ty.str Ty.str))))))) WA] => .need ((n ≤ R.length ∧ R.length ≤ 1000000) ∧ LL.length ≤ 1000 ∧ WW.length ≤ 1000 ∧ cs = bk (.sl 2 1 0 LL.length) (.sl 3 1 0 WW.length) (.sl 4 1 0 AA.length) (.sl 5 1 0 WA.length))
      (.ite (decide (LL.length < 250)) (.ret (.tup [], [.cells 62 (bk (.sl 2 1 0 (LL.length + 1)) (.sl 3 1 0 (WW.length + 1)) (.sl 4 1 0 AA.length) (.sl 5 1 0 WA.length)), .view 3 (.int .i64) R, .kept 22 3 (.int .i64) (LL ++ [R.take n]), .row 22 (.imm (.int .i64)) (WW ++ [R.take n]), .kept 44 69 aty AA, .row 44 (.imm aty) WA], [2, 3]))
        (.ret (.tup [], [.cells 62 (bk (.sl 2 1 0 LL.length) (.sl 3 1 0 WW.length) (.sl 4 1 0 AA.length) (.sl 5 1 0 WA.length)), .hold 3 (.int .i64) R, .kept 22 3 (.int .i64) LL, .row 22 (.imm (.int .i64)) WW, .kept 44 69 aty AA, .row 44 (.imm aty) WA], [])))
  | _, _ => .fail
theorem s20_ok : SummOK Tryz.prog 8 s20 := by
  refine summ_of_body (fn := Tryz.f8) (c := Tryz.f8.body.get!) K1_ok (by kernel_rfl) (by kernel_rfl) (by kernel_rfl) fun args H Q h => ?_
  unfold s20 at h
  split at h
  · rename_i n cs R LL WW AA WA
    simp only [Tree.Leads] at h
    obtain ⟨⟨⟨h1, h2⟩, h3, h4, rfl⟩, hq⟩ := h
    have hq := br_iff.1 hq
    exact ⟨noAn, v20 n R LL WW AA WA Q h1 h2 h3 h4 (fun h => hq.1 (decide_eq_true h)) (fun h => hq.2 (decide_eq_false h))⟩
  · simp only [Tree.Leads] at h
/-- Two lists, element by element. -/
noncomputable def A13b (X Y : List Int) : Ann := { live := [0, 1, 5], mv := [], head := fun vals H => match vals with | [a, b, _] => { X := Nat, inv := fun i => ([a, b, .lit (.int .i64 i)], H), ok := fun i => i ≤ X.length ∧ X.take i = Y.take i, mu := fun i => X.length - i } | _ => { X := Nat, inv := fun _ => ([], []), ok := fun _ => False, mu := fun _ => 0 } }
theorem v13b (X Y : List Int) (Q : SV × Heap × List Nat → Prop) (hX : X.length ≤ 1000000) (hY : Y.length ≤ 1000000) (hq : Q (.lit (.bool (decide (X = Y))), [], [])) : (bodySumm Table.none Tryz.prog Tryz.f20 (An1 0 (A13b X Y)) [.imm (.int .i64) X, .imm (.int .i64) Y] []).Leads Q := by
  refine Sx.by_text (q :=
   br ((↑(List.length X) : Int) != (↑(List.length Y) : Int)) (Q (SV.lit (Value.bool false), ([] : List Sx.SO), [])) ((∃ (u0 : Nat), ([SV.imm (Ty.int IntKind.i64) X, SV.imm
   (Ty.int IntKind.i64) Y, SV.lit (Value.int IntKind.i64 (0 : Int))], ([] : List Sx.SO)) = ([SV.imm (Ty.int IntKind.i64) X, SV.imm (Ty.int IntKind.i64) Y, SV.lit (Value.int
   IntKind.i64 (↑u0 : Int))], ([] : List Sx.SO)) ∧ u0 ≤ List.length X ∧ List.take u0 X = List.take u0 Y) ∧ ∀ (u1 : Nat), u1 ≤ List.length X ∧ List.take u1 X = List.take u1 Y
   → br (decide ((↑u1 : Int) < (↑(List.length X) : Int))) (((0 : Int) ≤ (↑u1 : Int) ∧ (↑u1 : Int) < (↑(List.length X) : Int)) ∧ u1 < List.length X ∧ ((0 : Int) ≤ (↑u1 : Int)
   ∧ (↑u1 : Int) < (↑(List.length Y) : Int)) ∧ u1 < List.length Y ∧ br (!List.getD X u1 (Ty.dflt (Ty.int IntKind.i64)) == List.getD Y u1 (Ty.dflt (Ty.int IntKind.i64))) (Q
   (SV.lit (Value.bool false), ([] : List Sx.SO), [])) ((∃ (u2 : Nat), ([SV.imm (Ty.int IntKind.i64) X, SV.imm (Ty.int IntKind.i64) Y, SV.lit (Value.int IntKind.i64
   (IntKind.wrap IntKind.i64 ((↑u1 : Int) + (1 : Int))))], ([] : List Sx.SO)) = ([SV.imm (Ty.int IntKind.i64) X, SV.imm (Ty.int IntKind.i64) Y, SV.lit (Value.int IntKind.i64
   (↑u2 : Int))], ([] : List Sx.SO)) ∧ (u2 ≤ List.length X ∧ List.take u2 X = List.take u2 Y) ∧ List.length X - u2 < List.length X - u1) ∧ True)) (Q (SV.lit (Value.bool
   true), ([] : List Sx.SO), [])))) (by kernel_rfl) ?_
  refine br_intro (fun h => ?_) (fun h => ?_)
  · have h : (X.length : Int) ≠ (Y.length : Nat) := by simpa using h
    rw [decF (p := X = Y) (fun e => by rw [e] at h; exact h rfl)] at hq
    exact hq
  · have h : (X.length : Int) = (Y.length : Nat) := by simpa using h
    refine ⟨⟨0, rfl, by omega, rfl⟩, fun i hi => br_intro (fun hlt => ?_) (fun hge => ?_)⟩
    · have hlt := of_decide_eq_true hlt
      refine ⟨by omega, by omega, by omega, by omega, br_intro (fun g => ?_) (fun g => ⟨⟨i + 1, ?_, ⟨by omega, ?_⟩, by omega⟩, trivial⟩)⟩
      · have g : X.getD i (Ty.int IntKind.i64).dflt ≠ Y.getD i (Ty.int IntKind.i64).dflt := by simpa using g
        rw [decF (PL.not_same g)] at hq
        exact hq
      · rw [wrap1 i (by omega)]
      · have g : X.getD i (Ty.int IntKind.i64).dflt = Y.getD i (Ty.int IntKind.i64).dflt := by simpa using g
        exact PL.take_step (by omega) (by omega) hi.2 g
    · have hge := of_decide_eq_false hge
      rw [decide_eq_true (p := X = Y) (PL.take_all (i := i) (by omega) (by omega) hi.2)] at hq
      exact hq
theorem v13r (X B : List Int) (b n : Nat) (Q : SV × Heap × List Nat → Prop) (hX : X.length ≤ 1000000) (hn : b + n ≤ B.length) (hq : Q (.lit (.bool (decide (X = (B.drop b).take n))), [.row 3 (.int .i64) B], [])) : (bodySumm Table.none Tryz.prog Tryz.f20 (An1 0 (A13b X ((B.drop b).take n))) [.imm (.int .i64) X, .sl 0 1 b n] [.row 3 (.int .i64) B]).Leads Q := by
  refine Sx.by_text (q :=
   br ((↑(List.length X) : Int) != (↑n : Int)) (Q (SV.lit (Value.bool false), [SO.row 3 (Ty.int IntKind.i64) B], [])) ((∃ (u0 : Nat), ([SV.imm (Ty.int IntKind.i64) X, SV.sl 0
   1 b n, SV.lit (Value.int IntKind.i64 (0 : Int))], [SO.row 3 (Ty.int IntKind.i64) B]) = ([SV.imm (Ty.int IntKind.i64) X, SV.sl 0 1 b n, SV.lit (Value.int IntKind.i64 (↑u0 :
   Int))], [SO.row 3 (Ty.int IntKind.i64) B]) ∧ u0 ≤ List.length X ∧ List.take u0 X = List.take u0 (List.take n (List.drop b B))) ∧ ∀ (u1 : Nat), u1 ≤ List.length X ∧
   List.take u1 X = List.take u1 (List.take n (List.drop b B)) → br (decide ((↑u1 : Int) < (↑(List.length X) : Int))) (((0 : Int) ≤ (↑u1 : Int) ∧ (↑u1 : Int) < (↑(List.length
   X) : Int)) ∧ u1 < List.length X ∧ ((0 : Int) ≤ (↑u1 : Int) ∧ (↑u1 : Int) < (↑n : Int)) ∧ b + u1 < List.length B ∧ br (!List.getD X u1 (Ty.dflt (Ty.int IntKind.i64)) ==
   List.getD B (b + u1) (Ty.dflt (Ty.int IntKind.i64))) (Q (SV.lit (Value.bool false), [SO.row 3 (Ty.int IntKind.i64) B], [])) ((∃ (u2 : Nat), ([SV.imm (Ty.int IntKind.i64)
   X, SV.sl 0 1 b n, SV.lit (Value.int IntKind.i64 (IntKind.wrap IntKind.i64 ((↑u1 : Int) + (1 : Int))))], [SO.row 3 (Ty.int IntKind.i64) B]) = ([SV.imm (Ty.int IntKind.i64)
   X, SV.sl 0 1 b n, SV.lit (Value.int IntKind.i64 (↑u2 : Int))], [SO.row 3 (Ty.int IntKind.i64) B]) ∧ (u2 ≤ List.length X ∧ List.take u2 X = List.take u2 (List.take n
   (List.drop b B))) ∧ List.length X - u2 < List.length X - u1) ∧ True)) (Q (SV.lit (Value.bool true), [SO.row 3 (Ty.int IntKind.i64) B], [])))) (by kernel_rfl) ?_
  generalize hY : (B.drop b).take n = Y at *
  have hYl : Y.length = n := by rw [← hY]; exact PL.part_len B b n hn
  have hYg : ∀ i, i < n → B.getD (b + i) (Ty.int IntKind.i64).dflt = Y.getD i (Ty.int IntKind.i64).dflt := fun i hi => by rw [← hY]; exact PL.getD_part B b n i _ hi
  refine br_intro (fun h => ?_) (fun h => ?_)
  · have h : (X.length : Int) ≠ (n : Nat) := by simpa using h
    rw [decF (p := X = Y) (fun e => by rw [e] at h; omega)] at hq
    exact hq
  · have h : (X.length : Int) = (n : Nat) := by simpa using h
    refine ⟨⟨0, rfl, by omega, rfl⟩, fun i hi => br_intro (fun hlt => ?_) (fun hge => ?_)⟩
    · have hlt := of_decide_eq_true hlt
      rw [hYg i (by omega)]
      refine ⟨by omega, by omega, by omega, by omega, br_intro (fun g => ?_) (fun g => ⟨⟨i + 1, ?_, ⟨by omega, ?_⟩, by omega⟩, trivial⟩)⟩
      · have g : X.getD i (Ty.int IntKind.i64).dflt ≠ Y.getD i (Ty.int IntKind.i64).dflt := fun e => by rw [e] at g; simp at g
        rw [decF (PL.not_same g)] at hq
        exact hq
      · rw [wrap1 i (by omega)]
      · have g : X.getD i (Ty.int IntKind.i64).dflt = Y.getD i (Ty.int IntKind.i64).dflt := by simpa using g
        exact PL.take_step (by omega) (by omega) hi.2 g
    · have hge := of_decide_eq_false hge
      rw [decide_eq_true (p := X = Y) (PL.take_all (i := i) (by omega) (by omega) hi.2)] at hq
      exact hq
noncomputable def s13k : Summ := fun args H => match args, H with
  | [.imm (.int .i64) X, .imm (.int .i64) Y], [] => .need (X.length ≤ 1000000 ∧ Y.length ≤ 1000000) (.ret (.lit (.bool (decide (X = Y))), [], []))
  | [.imm (.int .i64) X, .sl 0 1 b n], [.row 3 (.int .i64) B] => .need (X.length ≤ 1000000 ∧ b + n ≤ B.length) (.ret (.lit (.bool (decide (X = (B.drop b).take n))), [.row 3 (.int .i64) B], []))
  | _, _ => .fail
theorem s13k_ok : SummOK Tryz.prog 20 s13k := by
  refine summ_of_body (fn := Tryz.f20) (c := Tryz.f20.body.get!) none_ok (by kernel_rfl) (by kernel_rfl) (by kernel_rfl) fun args H Q h => ?_
  unfold s13k at h
  split at h
  · simp only [Tree.Leads] at h
    exact ⟨_, v13b _ _ Q h.1.1 h.1.2 h.2⟩
  · simp only [Tree.Leads] at h
    exact ⟨_, v13r _ _ _ _ Q h.1.1 h.1.2 h.2⟩
  · simp only [Tree.Leads] at h
/-- A mark of a list's own. -/
def mk (i k : Int) : Int := IntKind.i64.wrap (IntKind.i64.wrap (IntKind.i64.wrap (-1000000 * i) - k) - 7)
def marks (i : Int) (k : Nat) : Nat → List Int
  | 0 => []
  | n + 1 => marks i k n ++ [mk i ((k + n : Nat) : Int)]
theorem marks_len (i : Int) (k : Nat) : ∀ n, (marks i k n).length = n
  | 0 => rfl
  | n + 1 => by simp only [marks, List.length_append, marks_len i k n]; rfl
noncomputable def A79 (i k n : Nat) : Ann := { live := [0, 1, 2, 7, 8], mv := [], nilS := [(7, 3, .int .i64)], head := fun _ _ => { X := Nat, inv := fun j => ([.lit (.int .i64 i), .lit (.int .i64 k), .lit (.int .i64 n), .sl 0 1 0 j, .lit (.int .i64 ((k + j : Nat) : Int))], [.row 3 (.int .i64) (marks i k j)]), ok := fun j => j ≤ n, mu := fun j => n - j } }
theorem v79 (i k n : Nat) (Q : SV × Heap × List Nat → Prop) (hk : k ≤ 1000000) (hn : n ≤ 1000000) (hq : Q (.sl 0 1 0 n, [.row 3 (.int .i64) (marks i k n)], [])) : (bodySumm Table.none Tryz.prog Tryz.f78 (An1 0 (A79 i k n)) [.lit (.int .i64 i), .lit (.int .i64 k), .lit (.int .i64 n)] []).Leads Q := by
  refine Sx.by_text (q :=
   (∃ (u0 : Nat), ([SV.lit (Value.int IntKind.i64 (↑i : Int)), SV.lit (Value.int IntKind.i64 (↑k : Int)), SV.lit (Value.int IntKind.i64 (↑n : Int)), SV.sl 0 1 0 0, SV.lit
   (Value.int IntKind.i64 (↑k : Int))], [SO.row 3 (Ty.int IntKind.i64) []]) = ([SV.lit (Value.int IntKind.i64 (↑i : Int)), SV.lit (Value.int IntKind.i64 (↑k : Int)), SV.lit
   (Value.int IntKind.i64 (↑n : Int)), SV.sl 0 1 0 u0, SV.lit (Value.int IntKind.i64 (↑(k + u0) : Int))], [SO.row 3 (Ty.int IntKind.i64) (B13.marks (↑i : Int) k u0)]) ∧ u0 ≤
   n) ∧ ∀ (u1 : Nat), u1 ≤ n → br (decide ((↑(k + u1) : Int) < IntKind.wrap IntKind.i64 ((↑k : Int) + (↑n : Int)))) (1 ≤ 1 ∧ br (decide (u1 + 1 ≤ List.length (B13.marks (↑i :
   Int) k u1))) ((∃ (u2 : Nat), ([SV.lit (Value.int IntKind.i64 (↑i : Int)), SV.lit (Value.int IntKind.i64 (↑k : Int)), SV.lit (Value.int IntKind.i64 (↑n : Int)), SV.sl 0 1 0
   (u1 + 1), SV.lit (Value.int IntKind.i64 (IntKind.wrap IntKind.i64 ((↑(k + u1) : Int) + (1 : Int))))], [SO.row 3 (Ty.int IntKind.i64) (List.take u1 (B13.marks (↑i : Int) k
   u1) ++ [IntKind.wrap IntKind.i64 (IntKind.wrap IntKind.i64 (IntKind.wrap IntKind.i64 ((-1000000 : Int) * (↑i : Int)) - (↑(k + u1) : Int)) - (7 : Int))] ++ List.drop (u1 +
   1) (B13.marks (↑i : Int) k u1))]) = ([SV.lit (Value.int IntKind.i64 (↑i : Int)), SV.lit (Value.int IntKind.i64 (↑k : Int)), SV.lit (Value.int IntKind.i64 (↑n : Int)),
   SV.sl 0 1 0 u2, SV.lit (Value.int IntKind.i64 (↑(k + u2) : Int))], [SO.row 3 (Ty.int IntKind.i64) (B13.marks (↑i : Int) k u2)]) ∧ u2 ≤ n ∧ n - u2 < n - u1) ∧ True) (u1 ≤
   List.length (B13.marks (↑i : Int) k u1) ∧ ((↑(u1 + 1) : Int) ≤ (9223372036854775807 : Int) ∧ (u1 + 1) * Sx.bytesOf Go.Proofs.Tryz.prog 3 ≤ 140737488355328) ∧ (∃ (u3 :
   Nat), ([SV.lit (Value.int IntKind.i64 (↑i : Int)), SV.lit (Value.int IntKind.i64 (↑k : Int)), SV.lit (Value.int IntKind.i64 (↑n : Int)), SV.sl 0 1 0 (u1 + 1), SV.lit
   (Value.int IntKind.i64 (IntKind.wrap IntKind.i64 ((↑(k + u1) : Int) + (1 : Int))))], [SO.row 3 (Ty.int IntKind.i64) (List.take u1 (B13.marks (↑i : Int) k u1) ++
   [IntKind.wrap IntKind.i64 (IntKind.wrap IntKind.i64 (IntKind.wrap IntKind.i64 ((-1000000 : Int) * (↑i : Int)) - (↑(k + u1) : Int)) - (7 : Int))])]) = ([SV.lit (Value.int
   IntKind.i64 (↑i : Int)), SV.lit (Value.int IntKind.i64 (↑k : Int)), SV.lit (Value.int IntKind.i64 (↑n : Int)), SV.sl 0 1 0 u3, SV.lit (Value.int IntKind.i64 (↑(k + u3) :
   Int))], [SO.row 3 (Ty.int IntKind.i64) (B13.marks (↑i : Int) k u3)]) ∧ u3 ≤ n ∧ n - u3 < n - u1) ∧ True)) (Q (SV.sl 0 1 0 u1, [SO.row 3 (Ty.int IntKind.i64) (B13.marks (↑i
   : Int) k u1)], []))) (by kernel_rfl) ?_
  have hb : bytesOf Tryz.prog 3 = 8 := by kernel_rfl
  have hml : ∀ (a : Int) (k n : Nat), (marks a k n).length = n := marks_len
  have hw : IntKind.i64.wrap ((k : Int) + n) = k + n := by rw [IntKind.wrap_i64]; omega
  refine ⟨⟨0, rfl, by omega⟩, fun j hj => br_intro (fun hlt => ?_) (fun hge => ?_)⟩
  · have hlt := of_decide_eq_true hlt
    rw [hw] at hlt
    rw [hml, hb]
    have e : IntKind.i64.wrap (((k + j : Nat) : Int) + 1) = ((k + (j + 1) : Nat) : Int) := by rw [IntKind.wrap_i64]; omega
    have e2 : (marks (i : Int) k j).take j = marks (i : Int) k j := List.take_of_length_le (by rw [hml]; exact Nat.le_refl _)
    rw [e, e2]
    exact ⟨by omega, br_intro (fun h => by have := of_decide_eq_true h; omega) (fun _ => ⟨by omega, ⟨by omega, by omega⟩, ⟨j + 1, rfl, by omega, by omega⟩, trivial⟩)⟩
  · have hge := of_decide_eq_false hge
    rw [hw] at hge
    have : j = n := by omega
    subst this
    exact hq
noncomputable def s79 : Summ := fun args H => match args, H with
  | [.lit (.int .i64 i), .lit (.int .i64 k), .lit (.int .i64 n)], [] => .need ((0 ≤ i ∧ 0 ≤ k ∧ 0 ≤ n) ∧ k ≤ 1000000 ∧ n ≤ 1000000) (.ret (.sl 0 1 0 n.toNat, [.row 3 (.int .i64) (marks i k.toNat n.toNat)], []))
  | _, _ => .fail
theorem s79_ok : SummOK Tryz.prog 78 s79 := by
  refine summ_of_body (fn := Tryz.f78) (c := Tryz.f78.body.get!) none_ok (by kernel_rfl) (by kernel_rfl) (by kernel_rfl) fun args H Q h => ?_
  unfold s79 at h
  split at h
  · rename_i i k n
    simp only [Tree.Leads] at h
    obtain ⟨⟨⟨h1, h2, h3⟩, h4, h5⟩, hq⟩ := h
    obtain ⟨i, rfl⟩ : ∃ m : Nat, i = m := ⟨i.toNat, by omega⟩
    obtain ⟨k, rfl⟩ : ∃ m : Nat, k = m := ⟨k.toNat, by omega⟩
    obtain ⟨n, rfl⟩ : ∃ m : Nat, n = m := ⟨n.toNat, by omega⟩
    exact ⟨_, v79 i k n Q (by omega) (by omega) hq⟩
  · simp only [Tree.Leads] at h
noncomputable def K2 : Table := (Table.none.add 78 (.go s79)).add 20 (.go s13k)
theorem K2_ok : TableOK Tryz.prog K2 := add_ok (add_ok none_ok s79_ok) s13k_ok
/-- Is each list as it was? -/
noncomputable def A33 (LL WW : List (List Int)) : Ann := { live := [0, 3], mv := [], head := fun vals H => match vals with | [a, _] => { X := Nat, inv := fun i => ([a, .lit (.int .i64 i)], H), ok := fun i => i ≤ LL.length ∧ LL.take i = WW.take i, mu := fun i => LL.length - i } | _ => { X := Nat, inv := fun _ => ([], []), ok := fun _ => False, mu := fun _ => 0 } }
noncomputable abbrev zB13a_2 (LL : List (List Int)) (WW : List (List Int)) (AA : List (List aty.den)) (WA : List (List aty.den)) := [SO.cells 62 [SV.lit (Value.slice Option.none 0 0), SV.lit (Value.slice Option.none 0 0), SV.sl 1 1 0 (List.length LL), SV.sl 2 1 0 (List.length WW), SV.lit (Value.slice Option.none 0 0), SV.lit (Value.slice Option.none 0 0), SV.lit (Value.slice Option.none 0 0), SV.lit (Value.slice Option.none 0 0), SV.sl 3 1 0 (List.length AA), SV.sl 4 1 0 (List.length WA), SV.lit (Value.slice Option.none 0 0), SV.lit (Value.slice Option.none 0 0), SV.lit (Value.slice Option.none 0 0), SV.lit (Value.slice Option.none 0 0), SV.lit (Value.slice Option.none 0 0), SV.lit (Value.slice Option.none 0 0)], SO.kept 22 3 (Ty.int IntKind.i64) LL, SO.row 22 (Ty.imm (Ty.int IntKind.i64)) WW, SO.kept 44 69 T13.aty AA, SO.row 44 (Ty.imm T13.aty) WA]
theorem v33 (LL WW : List (List Int)) (AA WA : List (List aty.den)) (Q : SV × Heap × List Nat → Prop) (hl : LL.length = WW.length) (hn : LL.length ≤ 1000) (hL : ∀ l ∈ LL, l.length ≤ 1000000) (hW : ∀ l ∈ WW, l.length ≤ 1000000)
    (hq : Q (.lit (.bool (decide (LL = WW))), [.cells 62 (bk (.sl 1 1 0 LL.length) (.sl 2 1 0 WW.length) (.sl 3 1 0 AA.length) (.sl 4 1 0 WA.length)), .kept 22 3 (.int .i64) LL, .row 22 (.imm (.int .i64)) WW, .kept 44 69 aty AA, .row 44 (.imm aty) WA], [])) :
    (bodySumm K2 Tryz.prog Tryz.f24 (An1 0 (A33 LL WW)) [.ptr 0 0] [.cells 62 (bk (.sl 1 1 0 LL.length) (.sl 2 1 0 WW.length) (.sl 3 1 0 AA.length) (.sl 4 1 0 WA.length)), .kept 22 3 (.int .i64) LL, .row 22 (.imm (.int .i64)) WW, .kept 44 69 aty AA, .row 44 (.imm aty) WA]).Leads Q := by
  refine Sx.by_text (q :=
   (∃ (u0 : Nat), ([SV.ptr 0 0, SV.lit (Value.int IntKind.i64 (0 : Int))], (zB13a_2 LL WW AA WA)) = ([SV.ptr 0 0, SV.lit (Value.int IntKind.i64 (↑u0 : Int))], (zB13a_2 LL WW
   AA WA)) ∧ u0 ≤ List.length LL ∧ List.take u0 LL = List.take u0 WW) ∧ ∀ (u1 : Nat), u1 ≤ List.length LL ∧ List.take u1 LL = List.take u1 WW → br (decide ((↑u1 : Int) <
   (↑(List.length LL) : Int))) (((0 : Int) ≤ (↑u1 : Int) ∧ (↑u1 : Int) < (↑(List.length LL) : Int)) ∧ 0 + u1 < List.length LL ∧ ((0 : Int) ≤ (↑u1 : Int) ∧ (↑u1 : Int) <
   (↑(List.length WW) : Int)) ∧ 0 + u1 < List.length WW ∧ (List.length (List.getD LL (0 + u1) (Ty.dflt (Ty.imm (Ty.int IntKind.i64)))) ≤ 1000000 ∧ List.length (List.getD WW
   (0 + u1) (Ty.dflt (Ty.imm (Ty.int IntKind.i64)))) ≤ 1000000) ∧ br (!decide (List.getD LL (0 + u1) (Ty.dflt (Ty.imm (Ty.int IntKind.i64))) = List.getD WW (0 + u1) (Ty.dflt
   (Ty.imm (Ty.int IntKind.i64))))) (Q (SV.lit (Value.bool false), (zB13a_2 LL WW AA WA), [])) ((∃ (u2 : Nat), ([SV.ptr 0 0, SV.lit (Value.int IntKind.i64 (IntKind.wrap
   IntKind.i64 ((↑u1 : Int) + (1 : Int))))], (zB13a_2 LL WW AA WA)) = ([SV.ptr 0 0, SV.lit (Value.int IntKind.i64 (↑u2 : Int))], (zB13a_2 LL WW AA WA)) ∧ (u2 ≤ List.length LL
   ∧ List.take u2 LL = List.take u2 WW) ∧ List.length LL - u2 < List.length LL - u1) ∧ True)) (Q (SV.lit (Value.bool true), (zB13a_2 LL WW AA WA), []))) (by kernel_rfl) ?_
  delta zB13a_2
  refine ⟨⟨0, rfl, by omega, rfl⟩, fun i hi => br_intro (fun hlt => ?_) (fun hge => ?_)⟩
  · have hlt := of_decide_eq_true hlt
    simp only [Nat.zero_add]
    have m1 : LL.getD i (Ty.imm (.int .i64)).dflt ∈ LL := by
      rw [List.getD_eq_getElem?_getD, List.getElem?_eq_getElem (by omega)]; exact List.getElem_mem _
    have m2 : WW.getD i (Ty.imm (.int .i64)).dflt ∈ WW := by
      rw [List.getD_eq_getElem?_getD, List.getElem?_eq_getElem (by omega)]; exact List.getElem_mem _
    refine ⟨by omega, by omega, by omega, by omega, ⟨hL _ m1, hW _ m2⟩, br_intro (fun g => ?_) (fun g => ⟨⟨i + 1, ?_, ⟨by omega, ?_⟩, by omega⟩, trivial⟩)⟩
    · have g : LL.getD i (Ty.imm (.int .i64)).dflt ≠ WW.getD i (Ty.imm (.int .i64)).dflt := by simpa using g
      rw [decF (PL.not_same g)] at hq
      exact hq
    · rw [wrap1 i (by omega)]
    · have g : LL.getD i (Ty.imm (.int .i64)).dflt = WW.getD i (Ty.imm (.int .i64)).dflt := by simpa using g
      exact PL.take_step (by omega) (by omega) hi.2 g
  · have hge := of_decide_eq_false hge
    rw [decide_eq_true (p := LL = WW) (PL.take_all (i := i) (by omega) (by omega) hi.2)] at hq
    exact hq
noncomputable def s33 : Summ := fun args H => match args, H with
  | [.ptr 0 0], [.cells 62 cs, .kept 22 3 (.int .i64) LL, .row 22 (.imm (.int .i64)) WW, .kept 44 69 (Ty.pair (Ty.int IntKind.i64) (Ty.pair (Ty.int IntKind.i32) (Ty.pair (Ty.int IntKind.i64) (Ty.pair (Ty.int IntKind.i64) (Ty.pair (Ty.imm (Ty.int IntKind.i64)) (Ty.pair Ty.str Ty.str)))))) AA, .row 44 (.imm (Ty.pair (Ty.int IntKind.i64) (Ty.pair (Ty.int IntKind.i32) (Ty.pair (Ty.int IntKind.i64) (Ty.pair (Ty.int IntKind.i64) (Ty.pair (Ty.imm (Ty.int IntKind.i64)) (Ty.pair Ty.str Ty.str))))))) WA] => .need ((LL.length = WW.length ∧ LL.length ≤ 1000 ∧ (∀ l ∈ LL, l.length ≤ 1000000) ∧ ∀ l ∈ WW, l.length ≤ 1000000) ∧ cs = bk (.sl 1 1 0 LL.length) (.sl 2 1 0 WW.length) (.sl 3 1 0 AA.length) (.sl 4 1 0 WA.length))
      (.ret (.lit (.bool (decide (LL = WW))), [.cells 62 cs, .kept 22 3 (.int .i64) LL, .row 22 (.imm (.int .i64)) WW, .kept 44 69 aty AA, .row 44 (.imm aty) WA], []))
  | _, _ => .fail
theorem s33_ok : SummOK Tryz.prog 24 s33 := by
  refine summ_of_body (fn := Tryz.f24) (c := Tryz.f24.body.get!) K2_ok (by kernel_rfl) (by kernel_rfl) (by kernel_rfl) fun args H Q h => ?_
  unfold s33 at h
  split at h
  · rename_i cs LL WW AA WA
    simp only [Tree.Leads] at h
    obtain ⟨⟨⟨h1, h2, h3, h4⟩, rfl⟩, hq⟩ := h
    exact ⟨_, v33 LL WW AA WA Q h1 h2 h3 h4 hq⟩
  · simp only [Tree.Leads] at h
end B13
end
section
open Go Sx Go.Proofs
namespace B13
open T13 (aty s13 s13_ok Few)
set_option maxRecDepth 100000
set_option maxHeartbeats 40000000
attribute [local irreducible] Tree.Leads
noncomputable def G0 : Table := (Table.none.add 20 (.go s13)).add 19 (.go s25)
theorem G0_ok : TableOK Tryz.prog G0 := add_ok (add_ok none_ok s13_ok) s25_ok
noncomputable def AG (L : Nat) : Ann := { live := [0, 1, 5], mv := [], head := fun vals H => match vals with | [a, b, _] => { X := Nat, inv := fun i => ([a, b, .lit (.int .i64 i)], H), ok := fun i => i ≤ L, mu := fun i => L - i } | _ => { X := Nat, inv := fun _ => ([], []), ok := fun _ => False, mu := fun _ => 0 } }
end B13
end
