/- Part of a proof: the walks of the functions that the law calls, and their plain laws; no condition. -/
import Derived.Test.YtlcobcpgaoeijaaGreatSxT
import Derived.Test.YtlcobcpgaoeijaaGreatM15
import Derived.Test.YtlcobcpgaoeijaaGreatM16
set_option linter.unusedVariables false
set_option linter.unusedSimpArgs false
open Go Sx Go.Proofs
namespace B13
open T13 (aty s13 s13_ok Few)
set_option maxRecDepth 100000
set_option maxHeartbeats 40000000
attribute [local irreducible] Tree.Leads
noncomputable def A18 (n : Nat) : Ann := { live := [0, 3], mv := [], head := fun vals H => match vals with | [a, _] => { X := Nat, inv := fun i => ([a, .lit (.int .i64 i)], H), ok := fun i => i ≤ n, mu := fun i => n - i } | _ => { X := Nat, inv := fun _ => ([], []), ok := fun _ => False, mu := fun _ => 0 } }
noncomputable def E18 (n : Nat) : Nat → Option Ann := An2 0 (A18 n) 999999 { live := [], mv := [], head := fun _ _ => { X := Nat, inv := fun _ => ([], []), ok := fun _ => False, mu := fun _ => 0 }, hook := 6, hk2 := 2 }
theorem set_self {α : Type} (L : List α) (i : Nat) (d : α) (h : i < L.length) : L.set i (L.getD i d) = L := by
  rw [List.getD_eq_getElem?_getD, List.getElem?_eq_getElem h]; exact List.set_getElem_self h
noncomputable abbrev zB13g_0 (L : List aty.den) (u1 : Nat) := (Prod.snd (List.getD (List.take (List.length L) (List.drop 0 L)) (0 + u1) (Ty.dflt T13.aty)))
theorem v18 (L : List aty.den) (j : Nat) (R : List Int) (Q : SV × Heap × List Nat → Prop) (hm2 : L.length ≤ 1000000) (hf : Few L) (hq : Q (.imm aty L, [.dview 69 3 aty L 1 j none, .hold 3 (.int .i64) R], [])) :
    (bodySumm G0 Tryz.prog Tryz.f18 (E18 L.length) [.sl 0 7 0 L.length] [.dview 69 3 aty L 1 j none, .hold 3 (.int .i64) R]).Leads Q := by
  refine Sx.by_text (q :=
   0 + List.length L ≤ List.length L ∧ ((↑(0 + List.length (List.take (List.length L) (List.drop 0 L))) : Int) ≤ (9223372036854775807 : Int) ∧ (0 + List.length (List.take
   (List.length L) (List.drop 0 L))) * Sx.bytesOf Go.Proofs.Tryz.prog 69 ≤ 140737488355328) ∧ (∃ (u0 : Nat), ([SV.sl 2 7 0 (List.length (List.take (List.length L) (List.drop
   0 L))), SV.lit (Value.int IntKind.i64 (0 : Int))], [SO.dview 69 3 T13.aty L 1 j Option.none, SO.hold 3 (Ty.int IntKind.i64) R, SO.row 69 T13.aty (List.take (List.length L)
   (List.drop 0 L))]) = ([SV.sl 2 7 0 (List.length (List.take (List.length L) (List.drop 0 L))), SV.lit (Value.int IntKind.i64 (↑u0 : Int))], [SO.dview 69 3 T13.aty L 1 j
   Option.none, SO.hold 3 (Ty.int IntKind.i64) R, SO.row 69 T13.aty (List.take (List.length L) (List.drop 0 L))]) ∧ u0 ≤ List.length L) ∧ ∀ (u1 : Nat), u1 ≤ List.length L →
   br (decide ((↑u1 : Int) < (↑(List.length (List.take (List.length L) (List.drop 0 L))) : Int))) (((0 : Int) ≤ (↑u1 : Int) ∧ (↑u1 : Int) < (↑(List.length (List.take
   (List.length L) (List.drop 0 L))) : Int)) ∧ 0 + u1 < List.length (List.take (List.length L) (List.drop 0 L)) ∧ List.length (Prod.fst (Prod.snd (Prod.snd (Prod.snd (zB13g_0
   L u1))))) ≤ 1000000 ∧ ((0 : Int) ≤ (↑u1 : Int) ∧ (↑u1 : Int) < (↑(List.length (List.take (List.length L) (List.drop 0 L))) : Int)) ∧ 0 + u1 < List.length (List.take
   (List.length L) (List.drop 0 L)) ∧ (∃ (u2 : Nat), ([SV.sl 2 7 0 (List.length (List.take (List.length L) (List.drop 0 L))), SV.lit (Value.int IntKind.i64 (IntKind.wrap
   IntKind.i64 ((↑u1 : Int) + (1 : Int))))], [SO.dview 69 3 T13.aty L 1 j Option.none, SO.hold 3 (Ty.int IntKind.i64) R, SO.row 69 T13.aty (List.set (List.take (List.length
   L) (List.drop 0 L)) (0 + u1) (Prod.fst (List.getD (List.take (List.length L) (List.drop 0 L)) (0 + u1) (Ty.dflt T13.aty)), Prod.fst (zB13g_0 L u1), Prod.fst (Prod.snd
   (zB13g_0 L u1)), Prod.fst (Prod.snd (Prod.snd (zB13g_0 L u1))), Prod.fst (Prod.snd (Prod.snd (Prod.snd (zB13g_0 L u1)))), Prod.fst (Prod.snd (Prod.snd (Prod.snd (Prod.snd
   (zB13g_0 L u1))))), Prod.snd (Prod.snd (Prod.snd (Prod.snd (Prod.snd (zB13g_0 L u1)))))))]) = ([SV.sl 2 7 0 (List.length (List.take (List.length L) (List.drop 0 L))),
   SV.lit (Value.int IntKind.i64 (↑u2 : Int))], [SO.dview 69 3 T13.aty L 1 j Option.none, SO.hold 3 (Ty.int IntKind.i64) R, SO.row 69 T13.aty (List.take (List.length L)
   (List.drop 0 L))]) ∧ u2 ≤ List.length L ∧ List.length L - u2 < List.length L - u1) ∧ True) (0 + List.length (List.take (List.length L) (List.drop 0 L)) ≤ List.length
   (List.take (List.length L) (List.drop 0 L)) ∧ Q (SV.imm T13.aty (List.take (List.length (List.take (List.length L) (List.drop 0 L))) (List.drop 0 (List.take (List.length
   L) (List.drop 0 L)))), [SO.dview 69 3 T13.aty L 1 j Option.none, SO.hold 3 (Ty.int IntKind.i64) R], []))) (by kernel_rfl) ?_
  delta zB13g_0
  have hb : bytesOf Tryz.prog 69 = 88 := by kernel_rfl
  simp only [List.drop_zero, List.take_length, Nat.zero_add, hb]
  refine ⟨by omega, ⟨by omega, by omega⟩, ⟨0, rfl, by omega⟩, fun i hi => br_intro (fun hlt => ?_) (fun hge => ⟨by omega, hq⟩)⟩
  have hlt := of_decide_eq_true hlt
  have hmem : L.getD i aty.dflt ∈ L := by
    rw [List.getD_eq_getElem?_getD, List.getElem?_eq_getElem (by omega)]; exact List.getElem_mem _
  have e := set_self L i aty.dflt (by omega)
  refine ⟨by omega, by omega, hf _ hmem, by omega, by omega, ⟨i + 1, ?_, by omega, by omega⟩, trivial⟩
  rw [wrap1 i (by omega)]
  refine congrArg (fun l => ([SV.sl 2 7 0 L.length, SV.lit (Value.int IntKind.i64 ((i + 1 : Nat) : Int))], [SO.dview 69 3 aty L 1 j none, SO.hold 3 (Ty.int IntKind.i64) R, SO.row 69 aty l])) ?_
  exact e
noncomputable def s18 : Summ := fun args H => match args, H with
  | [.sl 0 7 0 n], [.dview 69 3 (Ty.pair (Ty.int IntKind.i64) (Ty.pair (Ty.int IntKind.i32) (Ty.pair (Ty.int IntKind.i64) (Ty.pair (Ty.int IntKind.i64) (Ty.pair (Ty.imm (Ty.int IntKind.i64)) (Ty.pair Ty.str Ty.str)))))) L 1 j none, .hold 3 (.int .i64) R] => .need (n = L.length ∧ L.length ≤ 1000000 ∧ Few L) (.ret (.imm aty L, [.dview 69 3 aty L 1 j none, .hold 3 (.int .i64) R], []))
  | _, _ => .fail
theorem s18_ok : SummOK Tryz.prog 18 s18 := by
  refine summ_of_body (fn := Tryz.f18) (c := Tryz.f18.body.get!) G0_ok (by kernel_rfl) (by kernel_rfl) (by kernel_rfl) fun args H Q h => ?_
  unfold s18 at h
  split at h
  · simp only [Tree.Leads] at h
    obtain ⟨⟨rfl, h1, h2⟩, hq⟩ := h
    exact ⟨_, v18 _ _ _ Q h1 h2 hq⟩
  · simp only [Tree.Leads] at h
/-- Acts: one more list of them. -/
noncomputable def G1 : Table := (Table.none.add 18 (.go s18)).add 3000057 (.ext fun _ _ => .fail)
theorem G1_ok : TableOK Tryz.prog G1 := add_ok (add_ok none_ok s18_ok) (fun _ _ _ _ _ _ _ _ _ h => by simp only [Tree.Leads] at h)
noncomputable abbrev zB13g_1 (LL : List (List Int)) (WW : List (List Int)) (AA : List (List aty.den)) (WA : List (List aty.den)) := [SV.lit (Value.slice Option.none 0 0), SV.lit (Value.slice Option.none 0 0), SV.sl 2 1 0 (List.length LL), SV.sl 3 1 0 (List.length WW), SV.lit (Value.slice Option.none 0 0), SV.lit (Value.slice Option.none 0 0), SV.lit (Value.slice Option.none 0 0), SV.lit (Value.slice Option.none 0 0), SV.sl 4 1 0 (List.length AA + 1), SV.sl 5 1 0 (List.length WA + 1), SV.lit (Value.slice Option.none 0 0), SV.lit (Value.slice Option.none 0 0), SV.lit (Value.slice Option.none 0 0), SV.lit (Value.slice Option.none 0 0), SV.lit (Value.slice Option.none 0 0), SV.lit (Value.slice Option.none 0 0)]
theorem v7 (L : List aty.den) (LL WW : List (List Int)) (AA WA : List (List aty.den)) (Q : SV × Heap × List Nat → Prop) (hm2 : L.length ≤ 1000000) (hf : Few L) (hA : AA.length ≤ 100) (hW : WA.length ≤ 100)
    (hq : Q (.tup [], [.cells 62 (bk (.sl 2 1 0 LL.length) (.sl 3 1 0 WW.length) (.sl 4 1 0 (AA.length + 1)) (.sl 5 1 0 (WA.length + 1))), .dview 69 3 aty L 6 0 none, .kept 22 3 (.int .i64) LL, .row 22 (.imm (.int .i64)) WW, .kept 44 69 aty (AA ++ [L]), .row 44 (.imm aty) (WA ++ [L]), .hold 3 (.int .i64) []], [4, 5])) :
    (bodySumm G1 Tryz.prog Tryz.f7 noAn [.ptr 0 0, .sl 1 7 0 L.length] [.cells 62 (bk (.sl 2 1 0 LL.length) (.sl 3 1 0 WW.length) (.sl 4 1 0 AA.length) (.sl 5 1 0 WA.length)), .drow 69 3 aty L, .kept 22 3 (.int .i64) LL, .row 22 (.imm (.int .i64)) WW, .kept 44 69 aty AA, .row 44 (.imm aty) WA]).Leads Q := by
  refine Sx.by_text (q :=
   br (decide ((↑(List.length AA) : Int) < (250 : Int))) (List.length L = List.length L ∧ (List.length AA = List.length AA ∧ 1 = 1) ∧ ((↑(List.length AA + 1) : Int) ≤
   (9223372036854775807 : Int) ∧ (List.length AA + 1) * Sx.bytesOf Go.Proofs.Tryz.prog 44 ≤ 140737488355328) ∧ ∀ (u0 : Bool), True → br u0 ((List.length L = List.length L ∧
   List.length L ≤ 1000000 ∧ ∀ (u1 : Ty.den T13.aty), u1 ∈ L → List.length (Prod.fst (Prod.snd (Prod.snd (Prod.snd (Prod.snd u1))))) ≤ 1000000) ∧ 1 ≤ 1 ∧ br (decide
   (List.length WA + 1 ≤ List.length WA)) (Q (SV.tup ([] : List Sx.SV), [SO.cells 62 (zB13g_1 LL WW AA WA), SO.dview 69 3 T13.aty L 6 0 Option.none, SO.kept 22 3 (Ty.int
   IntKind.i64) LL, SO.row 22 (Ty.imm (Ty.int IntKind.i64)) WW, SO.kept 44 69 T13.aty (AA ++ [L]), SO.row 44 (Ty.imm T13.aty) (List.take (List.length WA) WA ++ [L] ++
   List.drop (List.length WA + 1) WA), SO.hold 3 (Ty.int IntKind.i64) []], [4])) (List.length WA ≤ List.length WA ∧ ((↑(List.length WA + 1) : Int) ≤ (9223372036854775807 :
   Int) ∧ (List.length WA + 1) * Sx.bytesOf Go.Proofs.Tryz.prog 44 ≤ 140737488355328) ∧ Q (SV.tup ([] : List Sx.SV), [SO.cells 62 (zB13g_1 LL WW AA WA), SO.dview 69 3 T13.aty
   L 6 0 Option.none, SO.kept 22 3 (Ty.int IntKind.i64) LL, SO.row 22 (Ty.imm (Ty.int IntKind.i64)) WW, SO.kept 44 69 T13.aty (AA ++ [L]), SO.row 44 (Ty.imm T13.aty)
   (List.take (List.length WA) WA ++ [L]), SO.hold 3 (Ty.int IntKind.i64) []], [4, 5]))) ((List.length L = List.length L ∧ List.length L ≤ 1000000 ∧ ∀ (u2 : Ty.den T13.aty),
   u2 ∈ L → List.length (Prod.fst (Prod.snd (Prod.snd (Prod.snd (Prod.snd u2))))) ≤ 1000000) ∧ 1 ≤ 1 ∧ br (decide (List.length WA + 1 ≤ List.length WA)) (Q (SV.tup ([] : List
   Sx.SV), [SO.cells 62 (zB13g_1 LL WW AA WA), SO.dview 69 3 T13.aty L 6 0 Option.none, SO.kept 22 3 (Ty.int IntKind.i64) LL, SO.row 22 (Ty.imm (Ty.int IntKind.i64)) WW,
   SO.kept 44 69 T13.aty (AA ++ [L]), SO.row 44 (Ty.imm T13.aty) (List.take (List.length WA) WA ++ [L] ++ List.drop (List.length WA + 1) WA), SO.hold 3 (Ty.int IntKind.i64)
   []], [4])) (List.length WA ≤ List.length WA ∧ ((↑(List.length WA + 1) : Int) ≤ (9223372036854775807 : Int) ∧ (List.length WA + 1) * Sx.bytesOf Go.Proofs.Tryz.prog 44 ≤
   140737488355328) ∧ Q (SV.tup ([] : List Sx.SV), [SO.cells 62 (zB13g_1 LL WW AA WA), SO.dview 69 3 T13.aty L 6 0 Option.none, SO.kept 22 3 (Ty.int IntKind.i64) LL, SO.row
   22 (Ty.imm (Ty.int IntKind.i64)) WW, SO.kept 44 69 T13.aty (AA ++ [L]), SO.row 44 (Ty.imm T13.aty) (List.take (List.length WA) WA ++ [L]), SO.hold 3 (Ty.int IntKind.i64)
   []], [4, 5])))) (Q (SV.tup ([] : List Sx.SV), [SO.cells 62 [SV.lit (Value.slice Option.none 0 0), SV.lit (Value.slice Option.none 0 0), SV.sl 2 1 0 (List.length LL), SV.sl
   3 1 0 (List.length WW), SV.lit (Value.slice Option.none 0 0), SV.lit (Value.slice Option.none 0 0), SV.lit (Value.slice Option.none 0 0), SV.lit (Value.slice Option.none 0
   0), SV.sl 4 1 0 (List.length AA), SV.sl 5 1 0 (List.length WA), SV.lit (Value.slice Option.none 0 0), SV.lit (Value.slice Option.none 0 0), SV.lit (Value.slice Option.none
   0 0), SV.lit (Value.slice Option.none 0 0), SV.lit (Value.slice Option.none 0 0), SV.lit (Value.slice Option.none 0 0)], SO.drow 69 3 T13.aty L, SO.kept 22 3 (Ty.int
   IntKind.i64) LL, SO.row 22 (Ty.imm (Ty.int IntKind.i64)) WW, SO.kept 44 69 T13.aty AA, SO.row 44 (Ty.imm T13.aty) WA], []))) (by kernel_rfl) ?_
  delta zB13g_1
  have hb : bytesOf Tryz.prog 44 = 24 := by kernel_rfl
  rw [hb, List.take_length]
  refine br_intro (fun h => ⟨rfl, ⟨rfl, rfl⟩, ⟨by omega, by omega⟩, fun b _ => br_intro (fun _ => ?_) (fun _ => ?_)⟩) (fun h => by have := of_decide_eq_false h; omega)
  all_goals exact ⟨⟨rfl, hm2, hf⟩, by omega, br_intro (fun h => by have := of_decide_eq_true h; omega) (fun _ => ⟨by omega, ⟨by omega, by omega⟩, hq⟩)⟩
noncomputable abbrev zB13g_2 (L : List aty.den) : SV × Heap × List Nat := (SV.tup ([] : List Sx.SV), [SO.cells 62 [SV.lit (Value.slice Option.none 0 0), SV.lit (Value.slice Option.none 0 0), SV.lit (Value.slice Option.none 0 0), SV.lit (Value.slice Option.none 0 0), SV.lit (Value.slice Option.none 0 0), SV.lit (Value.slice Option.none 0 0), SV.lit (Value.slice Option.none 0 0), SV.lit (Value.slice Option.none 0 0), SV.sl 2 1 0 1, SV.sl 3 1 0 1, SV.lit (Value.slice Option.none 0 0), SV.lit (Value.slice Option.none 0 0), SV.lit (Value.slice Option.none 0 0), SV.lit (Value.slice Option.none 0 0), SV.lit (Value.slice Option.none 0 0), SV.lit (Value.slice Option.none 0 0)], SO.dview 69 3 T13.aty L 4 0 Option.none, SO.kept 44 69 T13.aty [L], SO.row 44 (Ty.imm T13.aty) [L], SO.hold 3 (Ty.int IntKind.i64) []], [])
theorem v7n (L : List aty.den) (Q : SV × Heap × List Nat → Prop) (hm2 : L.length ≤ 1000000) (hf : Few L)
    (hq : Q (.tup [], [.cells 62 (bk nl nl (.sl 2 1 0 1) (.sl 3 1 0 1)), .dview 69 3 aty L 4 0 none, .kept 44 69 aty [L], .row 44 (.imm aty) [L], .hold 3 (.int .i64) []], [])) :
    (bodySumm G1 Tryz.prog Tryz.f7 noAn [.ptr 0 0, .sl 1 7 0 L.length] [.cells 62 (bk nl nl nl nl), .drow 69 3 aty L]).Leads Q := by
  refine Sx.by_text (q :=
   List.length L = List.length L ∧ (0 = 0 ∧ 1 = 1) ∧ ((↑(1 : Nat) : Int) ≤ (9223372036854775807 : Int) ∧ 1 * Sx.bytesOf Go.Proofs.Tryz.prog 44 ≤ 140737488355328) ∧ ∀ (u0 :
   Bool), True → br u0 ((List.length L = List.length L ∧ List.length L ≤ 1000000 ∧ ∀ (u1 : Ty.den T13.aty), u1 ∈ L → List.length (Prod.fst (Prod.snd (Prod.snd (Prod.snd
   (Prod.snd u1))))) ≤ 1000000) ∧ 1 ≤ 1 ∧ ((↑(1 : Nat) : Int) ≤ (9223372036854775807 : Int) ∧ 1 * Sx.bytesOf Go.Proofs.Tryz.prog 44 ≤ 140737488355328) ∧ Q (zB13g_2 L))
   ((List.length L = List.length L ∧ List.length L ≤ 1000000 ∧ ∀ (u2 : Ty.den T13.aty), u2 ∈ L → List.length (Prod.fst (Prod.snd (Prod.snd (Prod.snd (Prod.snd u2))))) ≤
   1000000) ∧ 1 ≤ 1 ∧ ((↑(1 : Nat) : Int) ≤ (9223372036854775807 : Int) ∧ 1 * Sx.bytesOf Go.Proofs.Tryz.prog 44 ≤ 140737488355328) ∧ Q (zB13g_2 L))) (by kernel_rfl) ?_
  delta zB13g_2
  have hb : bytesOf Tryz.prog 44 = 24 := by kernel_rfl
  rw [hb]
  refine ⟨rfl, ⟨rfl, rfl⟩, ⟨by omega, by omega⟩, fun b _ => br_intro (fun _ => ?_) (fun _ => ?_)⟩
  all_goals exact ⟨⟨rfl, hm2, hf⟩, by omega, ⟨by omega, by omega⟩, hq⟩
noncomputable def s7 : Summ := fun args H => match args, H with
  | [.ptr 0 0, .sl 1 7 0 n], [.cells 62 cs, .drow 69 3 (Ty.pair (Ty.int IntKind.i64) (Ty.pair (Ty.int IntKind.i32) (Ty.pair (Ty.int IntKind.i64) (Ty.pair (Ty.int IntKind.i64) (Ty.pair (Ty.imm (Ty.int IntKind.i64)) (Ty.pair Ty.str Ty.str)))))) L, .kept 22 3 (.int .i64) LL, .row 22 (.imm (.int .i64)) WW, .kept 44 69 (Ty.pair (Ty.int IntKind.i64) (Ty.pair (Ty.int IntKind.i32) (Ty.pair (Ty.int IntKind.i64) (Ty.pair (Ty.int IntKind.i64) (Ty.pair (Ty.imm (Ty.int IntKind.i64)) (Ty.pair Ty.str Ty.str)))))) AA, .row 44 (.imm (Ty.pair (Ty.int IntKind.i64) (Ty.pair (Ty.int IntKind.i32) (Ty.pair (Ty.int IntKind.i64) (Ty.pair (Ty.int IntKind.i64) (Ty.pair (Ty.imm (Ty.int IntKind.i64)) (Ty.pair Ty.str Ty.str))))))) WA] => .need (n = L.length ∧ (L.length ≤ 1000000 ∧ Few L) ∧ (AA.length ≤ 100 ∧ WA.length ≤ 100) ∧ cs = bk (.sl 2 1 0 LL.length) (.sl 3 1 0 WW.length) (.sl 4 1 0 AA.length) (.sl 5 1 0 WA.length))
      (.ret (.tup [], [.cells 62 (bk (.sl 2 1 0 LL.length) (.sl 3 1 0 WW.length) (.sl 4 1 0 (AA.length + 1)) (.sl 5 1 0 (WA.length + 1))), .dview 69 3 aty L 6 0 none, .kept 22 3 (.int .i64) LL, .row 22 (.imm (.int .i64)) WW, .kept 44 69 aty (AA ++ [L]), .row 44 (.imm aty) (WA ++ [L]), .hold 3 (.int .i64) []], [4, 5]))
  | [.ptr 0 0, .sl 1 7 0 n], [.cells 62 cs, .drow 69 3 (Ty.pair (Ty.int IntKind.i64) (Ty.pair (Ty.int IntKind.i32) (Ty.pair (Ty.int IntKind.i64) (Ty.pair (Ty.int IntKind.i64) (Ty.pair (Ty.imm (Ty.int IntKind.i64)) (Ty.pair Ty.str Ty.str)))))) L] => .need (n = L.length ∧ (L.length ≤ 1000000 ∧ Few L) ∧ cs = bk nl nl nl nl)
      (.ret (.tup [], [.cells 62 (bk nl nl (.sl 2 1 0 1) (.sl 3 1 0 1)), .dview 69 3 aty L 4 0 none, .kept 44 69 aty [L], .row 44 (.imm aty) [L], .hold 3 (.int .i64) []], []))
  | _, _ => .fail
theorem s7_ok : SummOK Tryz.prog 7 s7 := by
  refine summ_of_body (fn := Tryz.f7) (c := Tryz.f7.body.get!) G1_ok (by kernel_rfl) (by kernel_rfl) (by kernel_rfl) fun args H Q h => ?_
  unfold s7 at h
  split at h
  · rename_i n cs L LL WW AA WA
    simp only [Tree.Leads] at h
    obtain ⟨⟨rfl, ⟨h1, h2⟩, ⟨h3, h4⟩, rfl⟩, hq⟩ := h
    exact ⟨noAn, v7 L LL WW AA WA Q h1 h2 h3 h4 hq⟩
  · rename_i n cs L
    simp only [Tree.Leads] at h
    obtain ⟨⟨rfl, ⟨h1, h2⟩, rfl⟩, hq⟩ := h
    exact ⟨noAn, v7n L Q h1 h2 hq⟩
  · simp only [Tree.Leads] at h
end B13

