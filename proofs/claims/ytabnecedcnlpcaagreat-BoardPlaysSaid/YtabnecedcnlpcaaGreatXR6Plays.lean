/- BoardPlaysSaid: for every names that are counted, in every order, each counts by itself, all of them are told rising, and the lists that were told stay apart; no condition beyond the statement. -/
import Derived.Test.YtabnecedcnlpcaaGreatXT6p
import Derived.Test.YtabnecedcnlpcaaGreatSxT
import Derived.Test.YtabnecedcnlpcaaGreatRows
set_option linter.unusedVariables false
set_option linter.unusedSimpArgs false
namespace Go.Proofs.YtabnecedcnlpcaaGreat.boardPlays
open Go Sx Go.ChangeShapes Go.WideShapes Go.ChangeAt Go.RowKit
set_option linter.unusedVariables false
set_option linter.unusedSimpArgs false
set_option maxRecDepth 100000
attribute [local irreducible] Tree.Leads bodySumm

theorem own : ownKnob Tryz.prog.godebug = none := by kernel_rfl
theorem laid : laidOutB Tryz.prog = true := by kernel_rfl
theorem readable : ∀ t ∈ Tryz.f3.params.toList, Tryz.prog.readableRec t = true ∧ t < Tryz.prog.types.size := by
  have h : (Tryz.f3.params.toList.all fun t => Tryz.prog.readableRec t && Nat.blt t Tryz.prog.types.size) = true := by kernel_rfl
  intro t ht
  have := List.all_eq_true.1 h t ht
  simp only [Bool.and_eq_true] at this
  exact ⟨this.1, Nat.le_of_ble_eq_true this.2⟩


theorem in64 {n : Int} (h : (Lit.int .i64 n).wf = true) : -9223372036854775808 ≤ n ∧ n ≤ 9223372036854775807 := by
  simp [Lit.wf, IntKind.min, IntKind.max, IntKind.signed, IntKind.bits] at h
  exact h
theorem in32 {n : Int} (h : (Lit.int .i32 n).wf = true) : -2147483648 ≤ n ∧ n ≤ 2147483647 := by
  simp [Lit.wf, IntKind.min, IntKind.max, IntKind.signed, IntKind.bits] at h
  exact h
theorem walk (W : World) (v0 : Value) (v1 : Value) (x0 : List (Ty.str).den) (x1 : List (Ty.int .i64).den) (x2 : ByteArray) (wf0 : (Ty.imm (Ty.str)).wf x0) (hr0 : SV.rel (zoneOf W) (fun _ => none) (.imm (Ty.str) x0) v0) (wf1 : (Ty.imm (Ty.int .i64)).wf x1) (hr1 : SV.rel (zoneOf W) (fun _ => none) (.imm (Ty.int .i64) x1) v1) (wf2 : x2.size ≤ maxLen) : Calls Tryz.prog 3 #[v0, v1, .string x2] W fun e W' => e = .returned (.bool true) ∧ Below W.heap.size W W' :=
  law_calls_bye (An := (W5.AL x0)) (fn := Tryz.f3) (c := Tryz.f3.body.get!) W5.UL_ok (by kernel_rfl) (by kernel_rfl) (args := [.imm (Ty.str) x0, .imm (Ty.int .i64) x1, .lit (.string x2)]) (vs := [v0, v1, .string x2]) (rels_cons hr0 (rels_cons hr1 (rels_cons (by simp [SV.rel]) (by simp [SV.rels])))) fun Q hq => W5.v3 x0 x1 x2 wf2 Q hq

theorem contract (H : Type) (enc : TypeId × Value → H) (W : World) (base : Nat) (args : Array Value) (ds gs : List (DataW H)) (before : List MemPlace)
    (hval : ∀ (j : Nat) t v, Tryz.f3.params[j]? = some t → args[j]? = some v → Value.okWide Tryz.prog W .any base t v)
    (hW : DataW.Whole enc Tryz.prog Tryz.f3.params.toList Rows.boardPlaysSpec.vars false W args.toList ds gs before) :
    Calls Tryz.prog 3 args W fun e W' => ∃ v, e = .returned v ∧ Rows.boardPlaysSpec.post enc Tryz.prog Tryz.f3 false true false false W args v W' := by
  have hW' := hW
  obtain ⟨p, q, hA0, hV, rfl, hfz, hnd⟩ := hW
  have hA : DataW.TrodAll enc Tryz.prog W 0 (fun _ => true) true Tryz.f3.params.toList args.toList ds p := hA0
  rw [Tryz.params3] at hA hval
  obtain ⟨v0, vs0, d0, ds0, p0, q0, hargs, rfl, rfl, h0, r0⟩ := trodAll_cons hA
  obtain ⟨v1, vs1, d1, ds1, p1, q1, rfl, rfl, rfl, h1, r1⟩ := trodAll_cons r0
  obtain ⟨v2, vs2, d2, ds2, p2, q2, rfl, rfl, rfl, h2, r2⟩ := trodAll_cons r1
  obtain ⟨rfl, rfl, rfl⟩ := trodAll_nil r2
  obtain rfl : args = #[v0, v1, v2] := by cases args; simp_all
  obtain ⟨rfl, rfl⟩ := trodVars_none hV
  obtain ⟨x0, hr0, wf0⟩ := slice_reads (ty := Ty.str) (ρ := fun _ => none) 8 Tryz.underlying22 (by kernel_rfl) (by kernel_rfl) (hval 0 22 v0 rfl rfl) h0
  obtain ⟨x1, hr1, wf1⟩ := slice_reads (ty := Ty.int .i64) (ρ := fun _ => none) 8 Tryz.underlying23 (by kernel_rfl) (by kernel_rfl) (hval 1 23 v1 rfl rfl) h1
  obtain ⟨x2, rfl, rfl, rfl, wf2⟩ := Go.ChangeMaps.open_string Tryz.underlying9 (hval 2 9 v2 rfl rfl) h2
  refine (walk W v0 v1 x0 x1 x2 wf0 hr0 wf1 hr1 wf2).mono fun e W' ⟨he, hb⟩ => ?_
  subst he
  exact ⟨_, rfl, post_true (tb := 4) hW' rfl hb rfl (by kernel_rfl) (by kernel_rfl) laid readable⟩

set_option maxRecDepth 100000 in
theorem lifted (os : Os) (started : os.Started) (H : Type) (enc : TypeId × Value → H) :
    ReturnsInHanded {} Tryz.checked os 3 .any (Rows.boardPlaysSpec.pre6 enc Tryz.prog Tryz.f3 Rows.boardPlaysRow.domain false) (Rows.boardPlaysSpec.post enc Tryz.prog Tryz.f3 false true false false) := by
  refine returnsInHanded_of_change (C := Tryz.checked) own started (by kernel_rfl) Tryz.func3
    (ChangeSpec.witness6 (enc := enc) (C := Tryz.checked) false ⟨#[], #[.slice none 0 0, .slice none 0 0, .string ByteArray.empty], []⟩ 8 (by kernel_rfl) (by kernel_rfl) (by kernel_rfl) (by kernel_rfl)) ?_
  intro W base args ds gs before hval hW _ _
  exact contract H enc W base args ds gs before hval hW

theorem over : Rows.boardPlaysRow.holds Tryz.pinned (OpenSpec.ofChange Rows.boardPlaysSpec) :=
  OpenClaim.holds_of_wide 3 Tryz.f3 rfl rfl rfl rfl rfl rfl rfl ⟨rfl, rfl, rfl, rfl, rfl⟩ rfl rfl rfl rfl rfl (by kernel_rfl) Tryz.func3 (by kernel_rfl)
    (of_decide_eq_true (by kernel_rfl)) (by unfold Func.isWrapper; first | (rw [if_pos (by decide +kernel)]; kernel_rfl) | (rw [if_neg (by decide +kernel)]; exact ⟨rfl, rfl⟩))
    (fun os started H enc _ => lifted os started H enc)

theorem proved : Rows.BoardPlaysSaid := over
#print axioms proved

end Go.Proofs.YtabnecedcnlpcaaGreat.boardPlays
