/- Part of a proof: the walk of the functions that the law calls. -/
import Derived.Test.YtgcbgenkbdoejaaSxT
import Derived.Test.YtgcbgenkbdoejaaXT12l
set_option linter.unusedVariables false
open Go Sx Go.Proofs
namespace T12
set_option maxRecDepth 100000
set_option maxHeartbeats 4000000
attribute [local irreducible] Tree.Leads
attribute [local irreducible] marks
noncomputable def s49 : Summ := fun args H => match args, H with
  | [.ptr 0 0], [.cells 55 cs, .lists 22 21 (.int .i32) [] [] none LL] => .need ((LL.length ≤ 1000 ∧ ∀ l ∈ LL, l.length ≤ 900000) ∧ cs = bk (.sl 1 1 0 LL.length) .junk)
      (.ret (.sl 2 1 0 LL.length, [.cells 55 cs, .row 22 (.imm (.int .i32)) LL, .row 22 (.imm (.int .i32)) (grown 0 LL)], [1]))
  | _, _ => .fail
theorem s49_ok : SummOK Try.prog 49 s49 := by
  refine summ_of_body (fn := Try.f49) (c := Try.f49.body.get!) K3_ok (by kernel_rfl) (by kernel_rfl) (by kernel_rfl) fun args H Q h => ?_
  unfold s49 at h
  split at h
  · rename_i cs LL
    simp only [Tree.Leads] at h
    obtain ⟨⟨⟨h1, h2⟩, rfl⟩, hq⟩ := h
    exact ⟨_, v49 LL Q h1 h2 hq⟩
  · simp only [Tree.Leads] at h
/-- Are these all marks? -/
noncomputable def A57 (n : Nat) : Ann := { live := [0, 3], mv := [], head := fun vals H => match vals with | [a, _] => { X := Nat, inv := fun i => ([a, .lit (.int .i64 i)], H), ok := fun i => i ≤ n, mu := fun i => n - i } | _ => { X := Nat, inv := fun _ => ([], []), ok := fun _ => False, mu := fun _ => 0 } }
theorem v57 (G : List (List Int)) (Q : SV × Heap × List Nat → Prop) (hn : G.length ≤ 1000) (hL : ∀ l ∈ G, l.length ≤ 1000000) (hm : ∀ (i : Nat) (h : i < G.length), G[i] = marks i 0 G[i].length)
    (hq : Q (.lit (.bool true), [.row 22 (.imm (.int .i32)) G], [])) :
    (bodySumm K2 Try.prog Try.f57 (An1 0 (A57 G.length)) [.sl 0 1 0 G.length] [.row 22 (.imm (.int .i32)) G]).Leads Q := by
  refine Sx.by_text (q :=
      (∃ (x : Nat), ([Sx.SV.sl (0 : Nat) (1 : Nat) (0 : Nat) (List.length G), Sx.SV.lit (Go.Value.int Go.IntKind.i64 (0 : Int))], [Sx.SO.row (22 : Nat) (Sx.Ty.imm (Sx.Ty.int
      Go.IntKind.i32)) G]) = ([Sx.SV.sl (0 : Nat) (1 : Nat) (0 : Nat) (List.length G), Sx.SV.lit (Go.Value.int Go.IntKind.i64 (↑x : Int))], [Sx.SO.row (22 : Nat) (Sx.Ty.imm
      (Sx.Ty.int Go.IntKind.i32)) G]) ∧ x ≤ List.length G) ∧ ∀ (b : Nat), b ≤ List.length G → Sx.br (Decidable.decide ((↑b : Int) < (↑(List.length G) : Int))) (((0 : Int) ≤ (↑b
      : Int) ∧ (↑b : Int) < (↑(List.length G) : Int)) ∧ ((0 : Int) ≤ (↑b : Int) ∧ (↑b : Int) < (↑(List.length G) : Int)) ∧ (0 : Nat) + b < List.length G ∧ ∀ (b_1 : Bool), True →
      Sx.br b_1 ((0 : Nat) + b < List.length G ∧ (((0 : Int) ≤ (↑b : Int) ∧ (0 : Int) ≤ (0 : Int) ∧ (0 : Int) ≤ (↑(List.length (List.getD G ((0 : Nat) + b) (Sx.Ty.dflt
      (Sx.Ty.imm (Sx.Ty.int Go.IntKind.i32))))) : Int)) ∧ (0 : Int) ≤ (1000000 : Int) ∧ (↑(List.length (List.getD G ((0 : Nat) + b) (Sx.Ty.dflt (Sx.Ty.imm (Sx.Ty.int
      Go.IntKind.i32))))) : Int) ≤ (1000000 : Int)) ∧ (List.length (List.getD G ((0 : Nat) + b) (Sx.Ty.dflt (Sx.Ty.imm (Sx.Ty.int Go.IntKind.i32)))) ≤ (1000000 : Nat) ∧ (0 :
      Nat) + List.length (List.getD G ((0 : Nat) + b) (Sx.Ty.dflt (Sx.Ty.imm (Sx.Ty.int Go.IntKind.i32)))) ≤ List.length (T12.marks (↑b : Int) (0 : Nat) (List.length (List.getD
      G ((0 : Nat) + b) (Sx.Ty.dflt (Sx.Ty.imm (Sx.Ty.int Go.IntKind.i32))))))) ∧ Sx.br (!Decidable.decide (List.getD G ((0 : Nat) + b) (Sx.Ty.dflt (Sx.Ty.imm (Sx.Ty.int
      Go.IntKind.i32))) = List.take (List.length (List.getD G ((0 : Nat) + b) (Sx.Ty.dflt (Sx.Ty.imm (Sx.Ty.int Go.IntKind.i32))))) (List.drop (0 : Nat) (T12.marks (↑b : Int) (0
      : Nat) (List.length (List.getD G ((0 : Nat) + b) (Sx.Ty.dflt (Sx.Ty.imm (Sx.Ty.int Go.IntKind.i32))))))))) (Q (Sx.SV.lit (Go.Value.bool Bool.false), [Sx.SO.row (22 : Nat)
      (Sx.Ty.imm (Sx.Ty.int Go.IntKind.i32)) G], [])) ((∃ (x' : Nat), ([Sx.SV.sl (0 : Nat) (1 : Nat) (0 : Nat) (List.length G), Sx.SV.lit (Go.Value.int Go.IntKind.i64
      (Go.IntKind.wrap Go.IntKind.i64 ((↑b : Int) + (1 : Int))))], [Sx.SO.row (22 : Nat) (Sx.Ty.imm (Sx.Ty.int Go.IntKind.i32)) G]) = ([Sx.SV.sl (0 : Nat) (1 : Nat) (0 : Nat)
      (List.length G), Sx.SV.lit (Go.Value.int Go.IntKind.i64 (↑x' : Int))], [Sx.SO.row (22 : Nat) (Sx.Ty.imm (Sx.Ty.int Go.IntKind.i32)) G]) ∧ x' ≤ List.length G ∧ List.length
      G - x' < List.length G - b) ∧ True)) ((((0 : Int) ≤ (↑b : Int) ∧ (0 : Int) ≤ (0 : Int) ∧ (0 : Int) ≤ (↑(List.length (List.getD G ((0 : Nat) + b) (Sx.Ty.dflt (Sx.Ty.imm
      (Sx.Ty.int Go.IntKind.i32))))) : Int)) ∧ (0 : Int) ≤ (1000000 : Int) ∧ (↑(List.length (List.getD G ((0 : Nat) + b) (Sx.Ty.dflt (Sx.Ty.imm (Sx.Ty.int Go.IntKind.i32))))) :
      Int) ≤ (1000000 : Int)) ∧ (0 : Nat) + b < List.length G ∧ (List.length (List.getD G ((0 : Nat) + b) (Sx.Ty.dflt (Sx.Ty.imm (Sx.Ty.int Go.IntKind.i32)))) ≤ (1000000 : Nat)
      ∧ (0 : Nat) + List.length (List.getD G ((0 : Nat) + b) (Sx.Ty.dflt (Sx.Ty.imm (Sx.Ty.int Go.IntKind.i32)))) ≤ List.length (T12.marks (↑b : Int) (0 : Nat) (List.length
      (List.getD G ((0 : Nat) + b) (Sx.Ty.dflt (Sx.Ty.imm (Sx.Ty.int Go.IntKind.i32))))))) ∧ Sx.br (!Decidable.decide (List.getD G ((0 : Nat) + b) (Sx.Ty.dflt (Sx.Ty.imm
      (Sx.Ty.int Go.IntKind.i32))) = List.take (List.length (List.getD G ((0 : Nat) + b) (Sx.Ty.dflt (Sx.Ty.imm (Sx.Ty.int Go.IntKind.i32))))) (List.drop (0 : Nat) (T12.marks
      (↑b : Int) (0 : Nat) (List.length (List.getD G ((0 : Nat) + b) (Sx.Ty.dflt (Sx.Ty.imm (Sx.Ty.int Go.IntKind.i32))))))))) (Q (Sx.SV.lit (Go.Value.bool Bool.false),
      [Sx.SO.row (22 : Nat) (Sx.Ty.imm (Sx.Ty.int Go.IntKind.i32)) G], [])) ((∃ (x' : Nat), ([Sx.SV.sl (0 : Nat) (1 : Nat) (0 : Nat) (List.length G), Sx.SV.lit (Go.Value.int
      Go.IntKind.i64 (Go.IntKind.wrap Go.IntKind.i64 ((↑b : Int) + (1 : Int))))], [Sx.SO.row (22 : Nat) (Sx.Ty.imm (Sx.Ty.int Go.IntKind.i32)) G]) = ([Sx.SV.sl (0 : Nat) (1 :
      Nat) (0 : Nat) (List.length G), Sx.SV.lit (Go.Value.int Go.IntKind.i64 (↑x' : Int))], [Sx.SO.row (22 : Nat) (Sx.Ty.imm (Sx.Ty.int Go.IntKind.i32)) G]) ∧ x' ≤ List.length G
      ∧ List.length G - x' < List.length G - b) ∧ True))) (Q (Sx.SV.lit (Go.Value.bool Bool.true), [Sx.SO.row (22 : Nat) (Sx.Ty.imm (Sx.Ty.int Go.IntKind.i32)) G], []))) (by kernel_rfl) ?_
  refine ⟨⟨0, rfl, by omega⟩, fun i hi => br_intro (fun hlt => ?_) (fun _ => hq)⟩
  have hlt := of_decide_eq_true hlt
  have hi2 : i < G.length := by omega
  have eg : G.getD (0 + i) (Ty.imm (.int .i32)).dflt = G[i] := by rw [Nat.zero_add, List.getD_eq_getElem?_getD, List.getElem?_eq_getElem hi2]; rfl
  rw [eg]
  have h1 := hL _ (List.getElem_mem hi2)
  have h2 := hm i hi2
  generalize G[i] = R at *
  have ht : ((marks (i : Int) 0 R.length).drop 0).take R.length = R := by rw [List.drop_zero, ← h2]; exact List.take_of_length_le (Nat.le_refl _)
  have hl2 := marks_len (i : Int) 0 R.length
  have fin : br (!decide (R = List.take R.length (List.drop 0 (marks (i : Int) 0 R.length)))) (Q (SV.lit (Value.bool false), [SO.row 22 (Ty.int IntKind.i32).imm G], [])) ((∃ x', ([SV.sl 0 1 0 G.length, SV.lit (Value.int IntKind.i64 (IntKind.i64.wrap (i + 1)))], [SO.row 22 (Ty.int IntKind.i32).imm G]) = ([SV.sl 0 1 0 G.length, SV.lit (Value.int IntKind.i64 (x' : Nat))], [SO.row 22 (Ty.int IntKind.i32).imm G]) ∧ x' ≤ G.length ∧ G.length - x' < G.length - i) ∧ True) := by
    rw [ht]
    refine br_intro (fun g => by simp at g) (fun _ => ⟨⟨i + 1, by rw [wrap1 i (by omega)], by omega, by omega⟩, trivial⟩)
  exact ⟨by omega, by omega, by omega, fun b _ => br_intro (fun _ => ⟨by omega, by omega, by omega, fin⟩) (fun _ => ⟨by omega, by omega, by omega, fin⟩)⟩
noncomputable def s57 : Summ := fun args H => match args, H with
  | [.sl 0 1 0 n], [.row 22 (.imm (.int .i32)) G] => .need (n = G.length ∧ (G.length ≤ 1000 ∧ ∀ l ∈ G, l.length ≤ 1000000) ∧ ∀ (i : Nat) (h : i < G.length), G[i] = marks i 0 G[i].length) (.ret (.lit (.bool true), [.row 22 (.imm (.int .i32)) G], []))
  | _, _ => .fail
theorem s57_ok : SummOK Try.prog 57 s57 := by
  refine summ_of_body (fn := Try.f57) (c := Try.f57.body.get!) K2_ok (by kernel_rfl) (by kernel_rfl) (by kernel_rfl) fun args H Q h => ?_
  unfold s57 at h
  split at h
  · rename_i n G
    simp only [Tree.Leads] at h
    obtain ⟨⟨rfl, ⟨h1, h2⟩, h3⟩, hq⟩ := h
    exact ⟨_, v57 G Q h1 h2 h3 hq⟩
  · simp only [Tree.Leads] at h
theorem inlNil {f : FuncId} {fn : Func} (c : Code) (hf : Try.prog.funcs[f]? = some fn) (hb : fn.body = some c) (hname : (fn.name == "runtime.NumGoroutine") = false) : CallOK Try.prog f (inlSumm Table.none Try.prog fn) := inlSumm_sound none_ok hf hb hname
noncomputable def KN : Table := ((((((((((((((((((((((((((((Table.none).add 31 (.call (inlSumm Table.none Try.prog Try.f31))).add 32 (.call (inlSumm Table.none Try.prog Try.f32))).add 34 (.call (inlSumm Table.none Try.prog Try.f34))).add 35 (.call (inlSumm Table.none Try.prog Try.f35))).add 36 (.call (inlSumm Table.none Try.prog Try.f36))).add 37 (.call (inlSumm Table.none Try.prog Try.f37))).add 38 (.call (inlSumm Table.none Try.prog Try.f38))).add 39 (.call (inlSumm Table.none Try.prog Try.f39))).add 40 (.call (inlSumm Table.none Try.prog Try.f40))).add 41 (.call (inlSumm Table.none Try.prog Try.f41))).add 42 (.call (inlSumm Table.none Try.prog Try.f42))).add 44 (.call (inlSumm Table.none Try.prog Try.f44))).add 45 (.call (inlSumm Table.none Try.prog Try.f45))).add 46 (.call (inlSumm Table.none Try.prog Try.f46))).add 47 (.call (inlSumm Table.none Try.prog Try.f47))).add 48 (.call (inlSumm Table.none Try.prog Try.f48))).add 50 (.call (inlSumm Table.none Try.prog Try.f50))).add 51 (.call (inlSumm Table.none Try.prog Try.f51))).add 52 (.call (inlSumm Table.none Try.prog Try.f52))).add 53 (.call (inlSumm Table.none Try.prog Try.f53))).add 54 (.call (inlSumm Table.none Try.prog Try.f54))).add 55 (.call (inlSumm Table.none Try.prog Try.f55))).add 56 (.call (inlSumm Table.none Try.prog Try.f56))).add 58 (.call (inlSumm Table.none Try.prog Try.f58))).add 59 (.call (inlSumm Table.none Try.prog Try.f59))).add 60 (.call (inlSumm Table.none Try.prog Try.f60))).add 61 (.call (inlSumm Table.none Try.prog Try.f61))).add 62 (.call (inlSumm Table.none Try.prog Try.f62))
theorem KN_ok : TableOK Try.prog KN := add_ok (e := .call (inlSumm Table.none Try.prog Try.f62)) (add_ok (e := .call (inlSumm Table.none Try.prog Try.f61)) (add_ok (e := .call (inlSumm Table.none Try.prog Try.f60)) (add_ok (e := .call (inlSumm Table.none Try.prog Try.f59)) (add_ok (e := .call (inlSumm Table.none Try.prog Try.f58)) (add_ok (e := .call (inlSumm Table.none Try.prog Try.f56)) (add_ok (e := .call (inlSumm Table.none Try.prog Try.f55)) (add_ok (e := .call (inlSumm Table.none Try.prog Try.f54)) (add_ok (e := .call (inlSumm Table.none Try.prog Try.f53)) (add_ok (e := .call (inlSumm Table.none Try.prog Try.f52)) (add_ok (e := .call (inlSumm Table.none Try.prog Try.f51)) (add_ok (e := .call (inlSumm Table.none Try.prog Try.f50)) (add_ok (e := .call (inlSumm Table.none Try.prog Try.f48)) (add_ok (e := .call (inlSumm Table.none Try.prog Try.f47)) (add_ok (e := .call (inlSumm Table.none Try.prog Try.f46)) (add_ok (e := .call (inlSumm Table.none Try.prog Try.f45)) (add_ok (e := .call (inlSumm Table.none Try.prog Try.f44)) (add_ok (e := .call (inlSumm Table.none Try.prog Try.f42)) (add_ok (e := .call (inlSumm Table.none Try.prog Try.f41)) (add_ok (e := .call (inlSumm Table.none Try.prog Try.f40)) (add_ok (e := .call (inlSumm Table.none Try.prog Try.f39)) (add_ok (e := .call (inlSumm Table.none Try.prog Try.f38)) (add_ok (e := .call (inlSumm Table.none Try.prog Try.f37)) (add_ok (e := .call (inlSumm Table.none Try.prog Try.f36)) (add_ok (e := .call (inlSumm Table.none Try.prog Try.f35)) (add_ok (e := .call (inlSumm Table.none Try.prog Try.f34)) (add_ok (e := .call (inlSumm Table.none Try.prog Try.f32)) (add_ok (e := .call (inlSumm Table.none Try.prog Try.f31)) (none_ok) (inlNil (f := 31) (fn := Try.f31) Try.f31.body.get! (by kernel_rfl) (by kernel_rfl) (by kernel_rfl))) (inlNil (f := 32) (fn := Try.f32) Try.f32.body.get! (by kernel_rfl) (by kernel_rfl) (by kernel_rfl))) (inlNil (f := 34) (fn := Try.f34) Try.f34.body.get! (by kernel_rfl) (by kernel_rfl) (by kernel_rfl))) (inlNil (f := 35) (fn := Try.f35) Try.f35.body.get! (by kernel_rfl) (by kernel_rfl) (by kernel_rfl))) (inlNil (f := 36) (fn := Try.f36) Try.f36.body.get! (by kernel_rfl) (by kernel_rfl) (by kernel_rfl))) (inlNil (f := 37) (fn := Try.f37) Try.f37.body.get! (by kernel_rfl) (by kernel_rfl) (by kernel_rfl))) (inlNil (f := 38) (fn := Try.f38) Try.f38.body.get! (by kernel_rfl) (by kernel_rfl) (by kernel_rfl))) (inlNil (f := 39) (fn := Try.f39) Try.f39.body.get! (by kernel_rfl) (by kernel_rfl) (by kernel_rfl))) (inlNil (f := 40) (fn := Try.f40) Try.f40.body.get! (by kernel_rfl) (by kernel_rfl) (by kernel_rfl))) (inlNil (f := 41) (fn := Try.f41) Try.f41.body.get! (by kernel_rfl) (by kernel_rfl) (by kernel_rfl))) (inlNil (f := 42) (fn := Try.f42) Try.f42.body.get! (by kernel_rfl) (by kernel_rfl) (by kernel_rfl))) (inlNil (f := 44) (fn := Try.f44) Try.f44.body.get! (by kernel_rfl) (by kernel_rfl) (by kernel_rfl))) (inlNil (f := 45) (fn := Try.f45) Try.f45.body.get! (by kernel_rfl) (by kernel_rfl) (by kernel_rfl))) (inlNil (f := 46) (fn := Try.f46) Try.f46.body.get! (by kernel_rfl) (by kernel_rfl) (by kernel_rfl))) (inlNil (f := 47) (fn := Try.f47) Try.f47.body.get! (by kernel_rfl) (by kernel_rfl) (by kernel_rfl))) (inlNil (f := 48) (fn := Try.f48) Try.f48.body.get! (by kernel_rfl) (by kernel_rfl) (by kernel_rfl))) (inlNil (f := 50) (fn := Try.f50) Try.f50.body.get! (by kernel_rfl) (by kernel_rfl) (by kernel_rfl))) (inlNil (f := 51) (fn := Try.f51) Try.f51.body.get! (by kernel_rfl) (by kernel_rfl) (by kernel_rfl))) (inlNil (f := 52) (fn := Try.f52) Try.f52.body.get! (by kernel_rfl) (by kernel_rfl) (by kernel_rfl))) (inlNil (f := 53) (fn := Try.f53) Try.f53.body.get! (by kernel_rfl) (by kernel_rfl) (by kernel_rfl))) (inlNil (f := 54) (fn := Try.f54) Try.f54.body.get! (by kernel_rfl) (by kernel_rfl) (by kernel_rfl))) (inlNil (f := 55) (fn := Try.f55) Try.f55.body.get! (by kernel_rfl) (by kernel_rfl) (by kernel_rfl))) (inlNil (f := 56) (fn := Try.f56) Try.f56.body.get! (by kernel_rfl) (by kernel_rfl) (by kernel_rfl))) (inlNil (f := 58) (fn := Try.f58) Try.f58.body.get! (by kernel_rfl) (by kernel_rfl) (by kernel_rfl))) (inlNil (f := 59) (fn := Try.f59) Try.f59.body.get! (by kernel_rfl) (by kernel_rfl) (by kernel_rfl))) (inlNil (f := 60) (fn := Try.f60) Try.f60.body.get! (by kernel_rfl) (by kernel_rfl) (by kernel_rfl))) (inlNil (f := 61) (fn := Try.f61) Try.f61.body.get! (by kernel_rfl) (by kernel_rfl) (by kernel_rfl))) (inlNil (f := 62) (fn := Try.f62) Try.f62.body.get! (by kernel_rfl) (by kernel_rfl) (by kernel_rfl))
end T12
