/- Part of a proof: the walks of the functions that the law calls, and their plain laws; no condition. -/
import Derived.Test.YtlcobcpgaoeijaaGreatSxT
import Derived.Test.YtlcobcpgaoeijaaGreatM15
import Derived.Test.YtlcobcpgaoeijaaGreatM20
import Derived.Test.YtlcobcpgaoeijaaGreatM21
import Derived.Test.YtlcobcpgaoeijaaGreatM22
import Derived.Test.YtlcobcpgaoeijaaGreatM23
set_option linter.unusedVariables false
set_option linter.unusedSimpArgs false
open Go Sx Go.Proofs
namespace B13
open T13 (aty Few)
set_option maxRecDepth 100000
set_option maxHeartbeats 40000000
attribute [local irreducible] Tree.Leads
theorem inlNil {f : FuncId} {fn : Func} (c : Code) (hf : Tryz.prog.funcs[f]? = some fn) (hb : fn.body = some c) (hname : (fn.name == "runtime.NumGoroutine") = false) : CallOK Tryz.prog f (inlSumm Table.none Tryz.prog fn) := inlSumm_sound none_ok hf hb hname
noncomputable def KN : Table := ((((((((((((((((((((((((Table.none).add 23 (.call (inlSumm Table.none Tryz.prog Tryz.f23))).add 25 (.call (inlSumm Table.none Tryz.prog Tryz.f25))).add 26 (.call (inlSumm Table.none Tryz.prog Tryz.f26))).add 28 (.call (inlSumm Table.none Tryz.prog Tryz.f28))).add 29 (.call (inlSumm Table.none Tryz.prog Tryz.f29))).add 30 (.call (inlSumm Table.none Tryz.prog Tryz.f30))).add 31 (.call (inlSumm Table.none Tryz.prog Tryz.f31))).add 33 (.call (inlSumm Table.none Tryz.prog Tryz.f33))).add 35 (.call (inlSumm Table.none Tryz.prog Tryz.f35))).add 36 (.call (inlSumm Table.none Tryz.prog Tryz.f36))).add 37 (.call (inlSumm Table.none Tryz.prog Tryz.f37))).add 38 (.call (inlSumm Table.none Tryz.prog Tryz.f38))).add 39 (.call (inlSumm Table.none Tryz.prog Tryz.f39))).add 41 (.call (inlSumm Table.none Tryz.prog Tryz.f41))).add 42 (.call (inlSumm Table.none Tryz.prog Tryz.f42))).add 44 (.call (inlSumm Table.none Tryz.prog Tryz.f44))).add 45 (.call (inlSumm Table.none Tryz.prog Tryz.f45))).add 46 (.call (inlSumm Table.none Tryz.prog Tryz.f46))).add 47 (.call (inlSumm Table.none Tryz.prog Tryz.f47))).add 49 (.call (inlSumm Table.none Tryz.prog Tryz.f49))).add 50 (.call (inlSumm Table.none Tryz.prog Tryz.f50))).add 52 (.call (inlSumm Table.none Tryz.prog Tryz.f52))).add 53 (.call (inlSumm Table.none Tryz.prog Tryz.f53))).add 54 (.call (inlSumm Table.none Tryz.prog Tryz.f54))
theorem KN_ok : TableOK Tryz.prog KN := add_ok (e := .call (inlSumm Table.none Tryz.prog Tryz.f54)) (add_ok (e := .call (inlSumm Table.none Tryz.prog Tryz.f53)) (add_ok (e := .call (inlSumm Table.none Tryz.prog Tryz.f52)) (add_ok (e := .call (inlSumm Table.none Tryz.prog Tryz.f50)) (add_ok (e := .call (inlSumm Table.none Tryz.prog Tryz.f49)) (add_ok (e := .call (inlSumm Table.none Tryz.prog Tryz.f47)) (add_ok (e := .call (inlSumm Table.none Tryz.prog Tryz.f46)) (add_ok (e := .call (inlSumm Table.none Tryz.prog Tryz.f45)) (add_ok (e := .call (inlSumm Table.none Tryz.prog Tryz.f44)) (add_ok (e := .call (inlSumm Table.none Tryz.prog Tryz.f42)) (add_ok (e := .call (inlSumm Table.none Tryz.prog Tryz.f41)) (add_ok (e := .call (inlSumm Table.none Tryz.prog Tryz.f39)) (add_ok (e := .call (inlSumm Table.none Tryz.prog Tryz.f38)) (add_ok (e := .call (inlSumm Table.none Tryz.prog Tryz.f37)) (add_ok (e := .call (inlSumm Table.none Tryz.prog Tryz.f36)) (add_ok (e := .call (inlSumm Table.none Tryz.prog Tryz.f35)) (add_ok (e := .call (inlSumm Table.none Tryz.prog Tryz.f33)) (add_ok (e := .call (inlSumm Table.none Tryz.prog Tryz.f31)) (add_ok (e := .call (inlSumm Table.none Tryz.prog Tryz.f30)) (add_ok (e := .call (inlSumm Table.none Tryz.prog Tryz.f29)) (add_ok (e := .call (inlSumm Table.none Tryz.prog Tryz.f28)) (add_ok (e := .call (inlSumm Table.none Tryz.prog Tryz.f26)) (add_ok (e := .call (inlSumm Table.none Tryz.prog Tryz.f25)) (add_ok (e := .call (inlSumm Table.none Tryz.prog Tryz.f23)) (none_ok) (inlNil (f := 23) (fn := Tryz.f23) Tryz.f23.body.get! (by kernel_rfl) (by kernel_rfl) (by kernel_rfl))) (inlNil (f := 25) (fn := Tryz.f25) Tryz.f25.body.get! (by kernel_rfl) (by kernel_rfl) (by kernel_rfl))) (inlNil (f := 26) (fn := Tryz.f26) Tryz.f26.body.get! (by kernel_rfl) (by kernel_rfl) (by kernel_rfl))) (inlNil (f := 28) (fn := Tryz.f28) Tryz.f28.body.get! (by kernel_rfl) (by kernel_rfl) (by kernel_rfl))) (inlNil (f := 29) (fn := Tryz.f29) Tryz.f29.body.get! (by kernel_rfl) (by kernel_rfl) (by kernel_rfl))) (inlNil (f := 30) (fn := Tryz.f30) Tryz.f30.body.get! (by kernel_rfl) (by kernel_rfl) (by kernel_rfl))) (inlNil (f := 31) (fn := Tryz.f31) Tryz.f31.body.get! (by kernel_rfl) (by kernel_rfl) (by kernel_rfl))) (inlNil (f := 33) (fn := Tryz.f33) Tryz.f33.body.get! (by kernel_rfl) (by kernel_rfl) (by kernel_rfl))) (inlNil (f := 35) (fn := Tryz.f35) Tryz.f35.body.get! (by kernel_rfl) (by kernel_rfl) (by kernel_rfl))) (inlNil (f := 36) (fn := Tryz.f36) Tryz.f36.body.get! (by kernel_rfl) (by kernel_rfl) (by kernel_rfl))) (inlNil (f := 37) (fn := Tryz.f37) Tryz.f37.body.get! (by kernel_rfl) (by kernel_rfl) (by kernel_rfl))) (inlNil (f := 38) (fn := Tryz.f38) Tryz.f38.body.get! (by kernel_rfl) (by kernel_rfl) (by kernel_rfl))) (inlNil (f := 39) (fn := Tryz.f39) Tryz.f39.body.get! (by kernel_rfl) (by kernel_rfl) (by kernel_rfl))) (inlNil (f := 41) (fn := Tryz.f41) Tryz.f41.body.get! (by kernel_rfl) (by kernel_rfl) (by kernel_rfl))) (inlNil (f := 42) (fn := Tryz.f42) Tryz.f42.body.get! (by kernel_rfl) (by kernel_rfl) (by kernel_rfl))) (inlNil (f := 44) (fn := Tryz.f44) Tryz.f44.body.get! (by kernel_rfl) (by kernel_rfl) (by kernel_rfl))) (inlNil (f := 45) (fn := Tryz.f45) Tryz.f45.body.get! (by kernel_rfl) (by kernel_rfl) (by kernel_rfl))) (inlNil (f := 46) (fn := Tryz.f46) Tryz.f46.body.get! (by kernel_rfl) (by kernel_rfl) (by kernel_rfl))) (inlNil (f := 47) (fn := Tryz.f47) Tryz.f47.body.get! (by kernel_rfl) (by kernel_rfl) (by kernel_rfl))) (inlNil (f := 49) (fn := Tryz.f49) Tryz.f49.body.get! (by kernel_rfl) (by kernel_rfl) (by kernel_rfl))) (inlNil (f := 50) (fn := Tryz.f50) Tryz.f50.body.get! (by kernel_rfl) (by kernel_rfl) (by kernel_rfl))) (inlNil (f := 52) (fn := Tryz.f52) Tryz.f52.body.get! (by kernel_rfl) (by kernel_rfl) (by kernel_rfl))) (inlNil (f := 53) (fn := Tryz.f53) Tryz.f53.body.get! (by kernel_rfl) (by kernel_rfl) (by kernel_rfl))) (inlNil (f := 54) (fn := Tryz.f54) Tryz.f54.body.get! (by kernel_rfl) (by kernel_rfl) (by kernel_rfl))
noncomputable def K24 : Table := (((((((((KN).add 24 (.go s33)).add 34 (.go s43)).add 40 (.go s49)).add 48 (.go s57)).add 27 (.go s27)).add 32 (.go s32)).add 43 (.go s49a)).add 51 (.go s51)).add 4000031 .thaw
theorem K24_ok : TableOK Tryz.prog K24 true := add_ok (e := .thaw) (add_ok (e := .go s51) (add_ok (e := .go s49a) (add_ok (e := .go s32) (add_ok (e := .go s27) (add_ok (e := .go s57) (add_ok (e := .go s49) (add_ok (e := .go s43) (add_ok (e := .go s33) (KN_ok.up) s33_ok) s43_ok) s49_ok) s57_ok) s27_ok) s32_ok) s49a_ok) s51_ok) rfl
attribute [local irreducible] marksA marks
theorem markedA_get : ∀ (l : List (List (Option aty.den))) (k i : Nat) (h : i < (markedA k l).length) (h' : i < l.length), (markedA k l)[i] = marksA ((k + i : Nat) : Int) 0 l[i].length
  | [], _, _, h, _ => by cases h
  | x :: l, k, 0, _, _ => rfl
  | x :: l, k, i + 1, h, h' => by
    simp only [markedA, List.getElem_cons_succ]
    rw [markedA_get l (k + 1) i _ (Nat.lt_of_succ_lt_succ h'), show k + 1 + i = k + (i + 1) by omega]
theorem growna_get : ∀ (l : List (List aty.den)) (k i : Nat) (h : i < (growna k l).length) (h' : i < l.length), (growna k l)[i] = l[i] ++ marksA ((k + i : Nat) : Int) l[i].length 72
  | [], _, _, h, _ => by cases h
  | x :: l, k, 0, _, _ => rfl
  | x :: l, k, i + 1, h, h' => by
    simp only [growna, List.getElem_cons_succ]
    rw [growna_get l (k + 1) i _ (Nat.lt_of_succ_lt_succ h'), show k + 1 + i = k + (i + 1) by omega]
theorem markedA_ok (OO : List (List (Option aty.den))) (i : Nat) (h : i < (markedA 0 OO).length) : (markedA 0 OO)[i] = marksA i 0 (markedA 0 OO)[i].length := by
  have h' : i < OO.length := by rw [markedA_len] at h; exact h
  have e := markedA_get OO 0 i h h'
  rw [Nat.zero_add] at e
  have el : ((markedA 0 OO)[i]).length = OO[i].length := by rw [e, marksA_len]
  rw [el]; exact e
theorem growna_ok (OO : List (List (Option aty.den))) (i : Nat) (h : i < (growna 0 (markedA 0 OO)).length) : (growna 0 (markedA 0 OO))[i] = marksA i 0 (growna 0 (markedA 0 OO))[i].length := by
  have h' : i < (markedA 0 OO).length := by rw [grownA_len] at h; exact h
  have e := growna_get (markedA 0 OO) 0 i h h'
  have em := markedA_ok OO i h'
  rw [Nat.zero_add] at e
  generalize (markedA 0 OO)[i] = M at *
  have el : ((growna 0 (markedA 0 OO))[i]).length = M.length + 72 := by rw [e, List.length_append, marksA_len]
  rw [el, marksA_append, ← em, Nat.zero_add]; exact e
theorem markedA_small (OO : List (List (Option aty.den))) {n : Nat} (hL : ∀ l ∈ OO, l.length ≤ n) : ∀ l ∈ markedA 0 OO, l.length ≤ n := fun l hl => by
  obtain ⟨i, hi, rfl⟩ := mem_get hl
  have h' : i < OO.length := by rw [markedA_len] at hi; exact hi
  rw [markedA_get OO 0 i hi h', marksA_len]
  exact hL _ (List.getElem_mem h')
theorem growna_small (LL : List (List aty.den)) {n : Nat} (hL : ∀ l ∈ LL, l.length ≤ n) : ∀ l ∈ growna 0 LL, l.length ≤ n + 72 := fun l hl => by
  obtain ⟨i, hi, rfl⟩ := mem_get hl
  have h' : i < LL.length := by rw [grownA_len] at hi; exact hi
  rw [growna_get LL 0 i hi h', List.length_append, marksA_len]
  have := hL _ (List.getElem_mem h')
  omega
theorem blanks_len (AA : List (List aty.den)) : (blanks aty AA).length = AA.length := by unfold blanks; rw [List.length_map]
theorem blanks_small (AA : List (List aty.den)) {n : Nat} (h : ∀ l ∈ AA, l.length ≤ n) : ∀ l ∈ blanks aty AA, l.length ≤ n := fun l hl => by
  unfold blanks at hl
  obtain ⟨r, hr, rfl⟩ := List.mem_map.1 hl
  rw [List.length_map]; exact h r hr
noncomputable abbrev zB13m_0 (LL : List (List Int)) (AA : List (List aty.den)) := [SV.lit (Value.slice Option.none 0 0), SV.lit (Value.slice Option.none 0 0), SV.sl 1 1 0 (List.length LL), SV.sl 2 1 0 (List.length LL), SV.lit (Value.slice Option.none 0 0), SV.lit (Value.slice Option.none 0 0), SV.lit (Value.slice Option.none 0 0), SV.lit (Value.slice Option.none 0 0), SV.sl 3 1 0 (List.length AA), SV.sl 4 1 0 (List.length AA), SV.lit (Value.slice Option.none 0 0), SV.lit (Value.slice Option.none 0 0), SV.lit (Value.slice Option.none 0 0), SV.lit (Value.slice Option.none 0 0), SV.lit (Value.slice Option.none 0 0), SV.lit (Value.slice Option.none 0 0)]
noncomputable abbrev zB13m_1 (LL : List (List Int)) (AA : List (List aty.den)) := [SV.lit (Value.slice Option.none 0 0), SV.lit (Value.slice Option.none 0 0), SV.sl 1 1 0 (List.length LL), SV.junk, SV.lit (Value.slice Option.none 0 0), SV.lit (Value.slice Option.none 0 0), SV.lit (Value.slice Option.none 0 0), SV.lit (Value.slice Option.none 0 0), SV.sl 2 1 0 (List.length AA), SV.junk, SV.lit (Value.slice Option.none 0 0), SV.lit (Value.slice Option.none 0 0), SV.lit (Value.slice Option.none 0 0), SV.lit (Value.slice Option.none 0 0), SV.lit (Value.slice Option.none 0 0), SV.lit (Value.slice Option.none 0 0)]
noncomputable abbrev zB13m_2 (LL : List (List Int)) (AA : List (List aty.den)) := [SV.lit (Value.slice Option.none 0 0), SV.lit (Value.slice Option.none 0 0), SV.sl 1 1 0 (List.length (B13.marked 0 LL)), SV.junk, SV.lit (Value.slice Option.none 0 0), SV.lit (Value.slice Option.none 0 0), SV.lit (Value.slice Option.none 0 0), SV.lit (Value.slice Option.none 0 0), SV.sl 2 1 0 (List.length (B13.markedA 0 (Sx.blanks T13.aty AA))), SV.junk, SV.lit (Value.slice Option.none 0 0), SV.lit (Value.slice Option.none 0 0), SV.lit (Value.slice Option.none 0 0), SV.lit (Value.slice Option.none 0 0), SV.lit (Value.slice Option.none 0 0), SV.lit (Value.slice Option.none 0 0)]
theorem v14 (LL : List (List Int)) (AA : List (List aty.den)) (Q : SV × Heap × List Nat → Prop) (hn : LL.length ≤ 1000) (hL : ∀ l ∈ LL, l.length ≤ 900000) (hn2 : AA.length ≤ 1000) (hL2 : ∀ l ∈ AA, l.length ≤ 900000 ∧ Few l)
    (hq : ∀ H mv, Q (.lit (.bool true), H, mv)) :
    (bodySumm K24 Tryz.prog Tryz.f14 noAn [.ptr 0 0] [.cells 62 (bk (.sl 1 1 0 LL.length) (.sl 2 1 0 LL.length) (.sl 3 1 0 AA.length) (.sl 4 1 0 AA.length)), .kept 22 3 (.int .i64) LL, .row 22 (.imm (.int .i64)) LL, .kept 44 69 aty AA, .row 44 (.imm aty) AA]).Leads Q := by
  refine Sx.by_text (q :=
   ((List.length LL = List.length LL ∧ List.length LL ≤ 1000 ∧ (∀ (u0 : List (Ty.den (Ty.int IntKind.i64))), u0 ∈ LL → List.length u0 ≤ 1000000) ∧ ∀ (u1 : Ty.den (Ty.imm
   (Ty.int IntKind.i64))), u1 ∈ LL → List.length u1 ≤ 1000000) ∧ (zB13m_0 LL AA) = (zB13m_0 LL AA)) ∧ br (!decide (LL = LL)) (Q (SV.lit (Value.bool false), [SO.cells 62
   (zB13m_0 LL AA), SO.kept 22 3 (Ty.int IntKind.i64) LL, SO.row 22 (Ty.imm (Ty.int IntKind.i64)) LL, SO.kept 44 69 T13.aty AA, SO.row 44 (Ty.imm T13.aty) AA], [])) (((AA =
   AA ∧ List.length AA ≤ 1000 ∧ ∀ (u2 : List (Ty.den T13.aty)), u2 ∈ AA → List.length u2 ≤ 1000000 ∧ ∀ (u3 : Ty.den T13.aty), u3 ∈ u2 → List.length (Prod.fst (Prod.snd
   (Prod.snd (Prod.snd (Prod.snd u3))))) ≤ 1000000) ∧ (zB13m_0 LL AA) = (zB13m_0 LL AA)) ∧ ((List.length (Sx.blanks T13.aty AA) ≤ 1000 ∧ ∀ (u4 : List (Ty.den (Ty.opt
   T13.aty))), u4 ∈ Sx.blanks T13.aty AA → List.length u4 ≤ 1000000) ∧ (zB13m_1 LL AA) = [SV.lit (Value.slice Option.none 0 0), SV.lit (Value.slice Option.none 0 0), SV.sl 1
   1 0 (List.length LL), SV.junk, SV.lit (Value.slice Option.none 0 0), SV.lit (Value.slice Option.none 0 0), SV.lit (Value.slice Option.none 0 0), SV.lit (Value.slice
   Option.none 0 0), SV.sl 2 1 0 (List.length (Sx.blanks T13.aty AA)), SV.junk, SV.lit (Value.slice Option.none 0 0), SV.lit (Value.slice Option.none 0 0), SV.lit
   (Value.slice Option.none 0 0), SV.lit (Value.slice Option.none 0 0), SV.lit (Value.slice Option.none 0 0), SV.lit (Value.slice Option.none 0 0)]) ∧ ((List.length LL ≤ 1000
   ∧ ∀ (u5 : List (Ty.den (Ty.int IntKind.i64))), u5 ∈ LL → List.length u5 ≤ 1000000) ∧ (zB13m_1 LL AA) = [SV.lit (Value.slice Option.none 0 0), SV.lit (Value.slice
   Option.none 0 0), SV.sl 1 1 0 (List.length LL), SV.junk, SV.lit (Value.slice Option.none 0 0), SV.lit (Value.slice Option.none 0 0), SV.lit (Value.slice Option.none 0 0),
   SV.lit (Value.slice Option.none 0 0), SV.sl 2 1 0 (List.length (B13.markedA 0 (Sx.blanks T13.aty AA))), SV.junk, SV.lit (Value.slice Option.none 0 0), SV.lit (Value.slice
   Option.none 0 0), SV.lit (Value.slice Option.none 0 0), SV.lit (Value.slice Option.none 0 0), SV.lit (Value.slice Option.none 0 0), SV.lit (Value.slice Option.none 0 0)])
   ∧ ((List.length (B13.marked 0 LL) ≤ 1000 ∧ ∀ (u6 : List (Ty.den (Ty.int IntKind.i64))), u6 ∈ B13.marked 0 LL → List.length u6 ≤ 900000) ∧ (zB13m_1 LL AA) = (zB13m_2 LL
   AA)) ∧ ((List.length (B13.markedA 0 (Sx.blanks T13.aty AA)) ≤ 1000 ∧ ∀ (u7 : List (Ty.den T13.aty)), u7 ∈ B13.markedA 0 (Sx.blanks T13.aty AA) → List.length u7 ≤ 900000) ∧
   (zB13m_1 LL AA) = (zB13m_2 LL AA)) ∧ (List.length (B13.marked 0 LL) = List.length (B13.grown 0 (B13.marked 0 LL)) ∧ (List.length (B13.grown 0 (B13.marked 0 LL)) ≤ 1000 ∧ ∀
   (u8 : Ty.den (Ty.imm (Ty.int IntKind.i64))), u8 ∈ B13.grown 0 (B13.marked 0 LL) → List.length u8 ≤ 1000000) ∧ ∀ (u9 : Nat) (u10 : u9 < List.length (B13.grown 0 (B13.marked
   0 LL))), (B13.grown 0 (B13.marked 0 LL))[u9] = B13.marks (↑u9 : Int) 0 (List.length (B13.grown 0 (B13.marked 0 LL))[u9])) ∧ (List.length LL = List.length (B13.marked 0 LL)
   ∧ (List.length (B13.marked 0 LL) ≤ 1000 ∧ ∀ (u11 : Ty.den (Ty.imm (Ty.int IntKind.i64))), u11 ∈ B13.marked 0 LL → List.length u11 ≤ 1000000) ∧ ∀ (u12 : Nat) (u13 : u12 <
   List.length (B13.marked 0 LL)), (B13.marked 0 LL)[u12] = B13.marks (↑u12 : Int) 0 (List.length (B13.marked 0 LL)[u12])) ∧ (List.length (B13.markedA 0 (Sx.blanks T13.aty
   AA)) = List.length (B13.growna 0 (B13.markedA 0 (Sx.blanks T13.aty AA))) ∧ (List.length (B13.growna 0 (B13.markedA 0 (Sx.blanks T13.aty AA))) ≤ 1000 ∧ ∀ (u14 : Ty.den
   (Ty.imm T13.aty)), u14 ∈ B13.growna 0 (B13.markedA 0 (Sx.blanks T13.aty AA)) → List.length u14 ≤ 1000000) ∧ ∀ (u15 : Nat) (u16 : u15 < List.length (B13.growna 0
   (B13.markedA 0 (Sx.blanks T13.aty AA)))), (B13.growna 0 (B13.markedA 0 (Sx.blanks T13.aty AA)))[u15] = B13.marksA (↑u15 : Int) 0 (List.length (B13.growna 0 (B13.markedA 0
   (Sx.blanks T13.aty AA)))[u15])) ∧ (List.length AA = List.length (B13.markedA 0 (Sx.blanks T13.aty AA)) ∧ (List.length (B13.markedA 0 (Sx.blanks T13.aty AA)) ≤ 1000 ∧ ∀
   (u17 : Ty.den (Ty.imm T13.aty)), u17 ∈ B13.markedA 0 (Sx.blanks T13.aty AA) → List.length u17 ≤ 1000000) ∧ ∀ (u18 : Nat) (u19 : u18 < List.length (B13.markedA 0 (Sx.blanks
   T13.aty AA))), (B13.markedA 0 (Sx.blanks T13.aty AA))[u18] = B13.marksA (↑u18 : Int) 0 (List.length (B13.markedA 0 (Sx.blanks T13.aty AA))[u18])) ∧ Q (SV.lit (Value.bool
   true), [SO.cells 62 (zB13m_1 LL AA), SO.row 22 (Ty.imm (Ty.int IntKind.i64)) (B13.marked 0 LL), SO.row 44 (Ty.imm T13.aty) (B13.markedA 0 (Sx.blanks T13.aty AA)), SO.dead,
   SO.dead], [1, 2, 3, 4]))) (by kernel_rfl) ?_
  delta zB13m_0 zB13m_1 zB13m_2
  have bl := blanks_len AA
  have bs := blanks_small AA (fun l hl => (hL2 l hl).1)
  generalize blanks aty AA = OO at *
  have ml := marked_len 0 LL
  have gl := grown_len 0 (marked 0 LL)
  have al := markedA_len 0 OO
  have ga := grownA_len 0 (markedA 0 OO)
  have h6 : ∀ l ∈ LL, l.length ≤ 1000000 := fun l hl => Nat.le_trans (hL l hl) (by omega)
  have h7 : ∀ l ∈ OO, l.length ≤ 1000000 := fun l hl => Nat.le_trans (bs l hl) (by omega)
  have g1 : ∀ l ∈ grown 0 (marked 0 LL), l.length ≤ 1000000 := fun l hl => Nat.le_trans (grown_small (marked 0 LL) (marked_small LL hL) l hl) (by omega)
  have g2 : ∀ l ∈ growna 0 (markedA 0 OO), l.length ≤ 1000000 := fun l hl => Nat.le_trans (growna_small (markedA 0 OO) (markedA_small OO bs) l hl) (by omega)
  have ea : AA.length = (markedA 0 OO).length := by omega
  refine ⟨⟨⟨rfl, hn, h6, h6⟩, rfl⟩, br_intro (fun g => by simp at g) (fun _ => ⟨⟨⟨rfl, hn2, fun l hl => ⟨Nat.le_trans (hL2 l hl).1 (by omega), (hL2 l hl).2⟩⟩, rfl⟩, ?_⟩)⟩
  refine ⟨⟨⟨by omega, h7⟩, by rw [bl]⟩, ⟨⟨hn, h6⟩, by rw [ea]⟩, ⟨⟨by omega, marked_small LL hL⟩, by rw [ml, ea]⟩, ⟨⟨by omega, markedA_small OO bs⟩, by rw [ml, ea]⟩, ?_⟩
  exact ⟨⟨by omega, ⟨by omega, g1⟩, grown_ok LL⟩, ⟨by omega, ⟨by omega, marked_small LL h6⟩, marked_ok LL⟩, ⟨by omega, ⟨by omega, g2⟩, growna_ok OO⟩, ⟨ea, ⟨by omega, markedA_small OO h7⟩, markedA_ok OO⟩, hq _ _⟩
noncomputable def s14b : Summ := fun args H => match args, H with
  | [.ptr 0 0], [.cells 62 cs, .kept 22 3 (.int .i64) LL, .row 22 (.imm (.int .i64)) WW, .kept 44 69 (Ty.pair (Ty.int IntKind.i64) (Ty.pair (Ty.int IntKind.i32) (Ty.pair (Ty.int IntKind.i64) (Ty.pair (Ty.int IntKind.i64) (Ty.pair (Ty.imm (Ty.int IntKind.i64)) (Ty.pair Ty.str Ty.str)))))) AA, .row 44 (.imm (Ty.pair (Ty.int IntKind.i64) (Ty.pair (Ty.int IntKind.i32) (Ty.pair (Ty.int IntKind.i64) (Ty.pair (Ty.int IntKind.i64) (Ty.pair (Ty.imm (Ty.int IntKind.i64)) (Ty.pair Ty.str Ty.str))))))) WA] => .need (((LL.length ≤ 1000 ∧ (∀ l ∈ LL, l.length ≤ 900000) ∧ LL = WW) ∧ (AA.length ≤ 1000 ∧ (∀ l ∈ AA, l.length ≤ 900000 ∧ Few l) ∧ AA = WA)) ∧ cs = bk (.sl 1 1 0 LL.length) (.sl 2 1 0 WW.length) (.sl 3 1 0 AA.length) (.sl 4 1 0 WA.length))
      (.any (Heap × List Nat) (fun _ => True) fun x => .ret (.lit (.bool true), x.1, x.2))
  | _, _ => .fail
theorem s14b_bye : ByeOK Tryz.prog 14 (byeS s14b) := by
  refine bye_of_body (fn := Tryz.f14) (c := Tryz.f14.body.get!) K24_ok (by kernel_rfl) (by kernel_rfl) (by kernel_rfl) fun args H Q h => ?_
  unfold s14b at h
  split at h
  · rename_i cs LL WW AA WA
    simp only [Tree.Leads] at h
    obtain ⟨⟨⟨⟨h1, h2, rfl⟩, h3, h4, rfl⟩, rfl⟩, hq⟩ := h
    exact ⟨_, v14 LL AA Q h1 h2 h3 h4 (fun H mv => hq (H, mv) trivial)⟩
  · simp only [Tree.Leads] at h
end B13

