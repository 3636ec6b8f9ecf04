/- NetPlays answers true for every list of acts and every address: datagrams sent, taken, doubled, lost, in every order, are what is under way, never too many; lists kept, marked and grown stay apart; no condition beyond the statement. -/
import Derived.Test.YtbfiikegaljagaaXT24Plays
import Derived.Test.YtbfiikegaljagaaSxT
import Derived.Test.YtbfiikegaljagaaRows
set_option linter.unusedVariables false
namespace Go.Proofs.Ytbfiikegaljagaa.netPlays
open Go Sx Go.ChangeShapes Go.WideShapes Go.ChangeAt Go.RowKit
set_option linter.unusedVariables false
set_option maxRecDepth 100000
attribute [local irreducible] Tree.Leads bodySumm

theorem own : ownKnob Try.prog.godebug = none := by kernel_rfl
theorem laid : laidOutB Try.prog = true := by kernel_rfl
theorem readable : ∀ t ∈ Try.f4.params.toList, Try.prog.readableRec t = true ∧ t < Try.prog.types.size := by
  have h : (Try.f4.params.toList.all fun t => Try.prog.readableRec t && Nat.blt t Try.prog.types.size) = true := by kernel_rfl
  intro t ht
  have := List.all_eq_true.1 h t ht
  simp only [Bool.and_eq_true] at this
  exact ⟨this.1, Nat.le_of_ble_eq_true this.2⟩


theorem in64 {n : Int} (h : (Lit.int .i64 n).wf = true) : -9223372036854775808 ≤ n ∧ n ≤ 9223372036854775807 := by
  simp [Lit.wf, IntKind.min, IntKind.max, IntKind.signed, IntKind.bits] at h
  exact h
theorem in32 {n : Int} (h : (Lit.int .i32 n).wf = true) : -2147483648 ≤ n ∧ n ≤ 2147483647 := by
  simp [Lit.wf, IntKind.min, IntKind.max, IntKind.signed, IntKind.bits] at h
  exact h
theorem walk (W : World) (v0 : Value) (x0 : List (Ty.pair (Ty.int .i64) (Ty.pair (Ty.int .i64) (Ty.imm (Ty.pair (Ty.int .i64) (Ty.pair (Ty.int .i64) Ty.str))))).den) (x1 : Int) (wf0 : (Ty.imm (Ty.pair (Ty.int .i64) (Ty.pair (Ty.int .i64) (Ty.imm (Ty.pair (Ty.int .i64) (Ty.pair (Ty.int .i64) Ty.str)))))).wf x0) (hr0 : SV.rel (zoneOf W) (fun _ => none) (.imm (Ty.pair (Ty.int .i64) (Ty.pair (Ty.int .i64) (Ty.imm (Ty.pair (Ty.int .i64) (Ty.pair (Ty.int .i64) Ty.str))))) x0) v0) (wf1 : (Lit.int .i64 x1).wf = true) : Calls Try.prog 4 #[v0, .int .i64 x1] W fun e W' => e = .returned (.bool true) ∧ Below W.heap.size W W' :=
  law_calls_bye (An := T24.AP) (fn := Try.f4) (c := Try.f4.body.get!) T24.UL_ok (by kernel_rfl) (by kernel_rfl) (args := [.imm (Ty.pair (Ty.int .i64) (Ty.pair (Ty.int .i64) (Ty.imm (Ty.pair (Ty.int .i64) (Ty.pair (Ty.int .i64) Ty.str))))) x0, .lit (.int .i64 x1)]) (vs := [v0, .int .i64 x1]) (rels_cons hr0 (rels_cons (by simp [SV.rel]) (by simp [SV.rels]))) fun Q hq => T24.v4 x0 x1  Q hq

theorem contract (H : Type) (enc : TypeId × Value → H) (W : World) (base : Nat) (args : Array Value) (ds gs : List (DataW H)) (before : List MemPlace)
    (hval : ∀ (j : Nat) t v, Try.f4.params[j]? = some t → args[j]? = some v → Value.okWide Try.prog W .any base t v)
    (hW : DataW.Whole enc Try.prog Try.f4.params.toList Rows.netPlaysSpec.vars false W args.toList ds gs before) :
    Calls Try.prog 4 args W fun e W' => ∃ v, e = .returned v ∧ Rows.netPlaysSpec.post enc Try.prog Try.f4 false true false false W args v W' := by
  have hW' := hW
  obtain ⟨p, q, hA0, hV, rfl, hfz, hnd⟩ := hW
  have hA : DataW.TrodAll enc Try.prog W 0 (fun _ => true) true Try.f4.params.toList args.toList ds p := hA0
  rw [Try.params4] at hA hval
  obtain ⟨v0, vs0, d0, ds0, p0, q0, hargs, rfl, rfl, h0, r0⟩ := trodAll_cons hA
  obtain ⟨v1, vs1, d1, ds1, p1, q1, rfl, rfl, rfl, h1, r1⟩ := trodAll_cons r0
  obtain ⟨rfl, rfl, rfl⟩ := trodAll_nil r1
  obtain rfl : args = #[v0, v1] := by cases args; simp_all
  obtain ⟨rfl, rfl⟩ := trodVars_none hV
  obtain ⟨x0, hr0, wf0⟩ := slice_reads (ty := Ty.pair (Ty.int .i64) (Ty.pair (Ty.int .i64) (Ty.imm (Ty.pair (Ty.int .i64) (Ty.pair (Ty.int .i64) Ty.str))))) (ρ := fun _ => none) 8 Try.underlying43 (by kernel_rfl) (by kernel_rfl) (hval 0 43 v0 rfl rfl) h0
  obtain ⟨x1, rfl, rfl, rfl, wf1⟩ := open_int Try.underlying3 (hval 1 3 v1 rfl rfl) h1
  refine (walk W v0 x0 x1 wf0 hr0 wf1).mono fun e W' ⟨he, hb⟩ => ?_
  subst he
  exact ⟨_, rfl, post_true (tb := 4) hW' rfl hb rfl (by kernel_rfl) (by kernel_rfl) laid readable⟩

set_option maxRecDepth 100000 in
theorem lifted (os : Os) (started : os.Started) (H : Type) (enc : TypeId × Value → H) :
    ReturnsInHanded {} Try.checked os 4 .any (Rows.netPlaysSpec.pre6 enc Try.prog Try.f4 Rows.netPlaysRow.domain false) (Rows.netPlaysSpec.post enc Try.prog Try.f4 false true false false) := by
  refine returnsInHanded_of_change (C := Try.checked) own started (by kernel_rfl) Try.func4
    (ChangeSpec.witness6 (enc := enc) (C := Try.checked) false ⟨#[], #[.slice none 0 0, .int .i64 0], []⟩ 8 (by kernel_rfl) (by kernel_rfl) (by kernel_rfl) (by kernel_rfl)) ?_
  intro W base args ds gs before hval hW _ _
  exact contract H enc W base args ds gs before hval hW

theorem over : Rows.netPlaysRow.holds Try.pinned (OpenSpec.ofChange Rows.netPlaysSpec) :=
  OpenClaim.holds_of_wide 4 Try.f4 rfl rfl rfl rfl rfl rfl rfl ⟨rfl, rfl, rfl, rfl, rfl⟩ rfl rfl rfl rfl rfl (by kernel_rfl) Try.func4 (by kernel_rfl)
    (of_decide_eq_true (by kernel_rfl)) (by unfold Func.isWrapper; first | (rw [if_pos (by decide +kernel)]; kernel_rfl) | (rw [if_neg (by decide +kernel)]; exact ⟨rfl, rfl⟩))
    (fun os started H enc _ => lifted os started H enc)

theorem proved : Rows.NetPlaysSaid := over
#print axioms proved

end Go.Proofs.Ytbfiikegaljagaa.netPlays
