/- Part of a proof: the walks of the functions that the law calls, and their plain laws; no condition. -/
import Derived.Test.YtlcobcpgaoeijaaGreatSxT
import Derived.Test.YtlcobcpgaoeijaaGreatM8
import Derived.Test.YtlcobcpgaoeijaaGreatM14
import Derived.Test.YtlcobcpgaoeijaaGreatM7
import Derived.Test.YtlcobcpgaoeijaaGreatM1
import Derived.Test.YtlcobcpgaoeijaaGreatM10
set_option linter.unusedVariables false
set_option linter.unusedSimpArgs false
section
open Go Sx Go.Proofs T12
namespace T13
set_option maxRecDepth 100000
set_option maxHeartbeats 8000000
attribute [local irreducible] Tree.Leads
theorem v12nil (S : List ByteArray) (m : Nat) (Q : SV × Heap × List Nat → Prop) (hq : Q (nilV, [.row 9 .str S], [])) : (bodySumm U5 Tryz.prog Tryz.f6 noAn [.lit (.pointer none), .sl 0 1 0 m] [.row 9 .str S]).Leads Q := by
  refine Sx.by_text (q :=
   Q (SV.lit (Value.slice Option.none 0 0), [SO.row 9 Ty.str S], [])) (by kernel_rfl) ?_
  exact hq
theorem v14nil (Q : SV × Heap × List Nat → Prop) (hq : Q (.lit (.bool true), [], [])) : (bodySumm U5 Tryz.prog Tryz.f11 noAn [.lit (.pointer none)] []).Leads Q := by
  refine Sx.by_text (q :=
   Q (SV.lit (Value.bool true), ([] : List Sx.SO), [])) (by kernel_rfl) ?_
  exact hq
theorem v19nil (Q : SV × Heap × List Nat → Prop) (hq : Q (.lit (.int .i64 0), [], [])) : (bodySumm U5 Tryz.prog Tryz.f13 noAn [.lit (.pointer none)] []).Leads Q := by
  refine Sx.by_text (q :=
   Q (SV.lit (Value.int IntKind.i64 (0 : Int)), ([] : List Sx.SO), [])) (by kernel_rfl) ?_
  exact hq
theorem summ_or {f : FuncId} {s s1 s2 : Summ} (h1 : SummOK Tryz.prog f s1) (h2 : SummOK Tryz.prog f s2) (h : ∀ a H, s a H = s1 a H ∨ s a H = s2 a H) : SummOK Tryz.prog f s :=
  ⟨h1.1, fun E ρ args H w vs Q hs hr hl => by
    rcases h args H with e | e
    · rw [e] at hl; exact h1.2 E ρ args H w vs Q hs hr hl
    · rw [e] at hl; exact h2.2 E ρ args H w vs Q hs hr hl⟩
noncomputable def s12n : Summ := fun args H => match args, H with
  | [.lit (.pointer none), .sl 0 1 0 m], [.row 9 .str S] => .ret (nilV, [.row 9 .str S], [])
  | _, _ => .fail
theorem s12n_ok : SummOK Tryz.prog 6 s12n := by
  refine summ_of_body (fn := Tryz.f6) (c := Tryz.f6.body.get!) U5_ok (by kernel_rfl) (by kernel_rfl) (by kernel_rfl) fun args H Q h => ?_
  unfold s12n at h
  split at h
  · simp only [Tree.Leads] at h
    exact ⟨noAn, v12nil _ _ Q h⟩
  · simp only [Tree.Leads] at h
noncomputable def s14n : Summ := fun args H => match args, H with
  | [.lit (.pointer none)], [] => .ret (.lit (.bool true), [], [])
  | _, _ => .fail
theorem s14n_ok : SummOK Tryz.prog 11 s14n := by
  refine summ_of_body (fn := Tryz.f11) (c := Tryz.f11.body.get!) U5_ok (by kernel_rfl) (by kernel_rfl) (by kernel_rfl) fun args H Q h => ?_
  unfold s14n at h
  split at h
  · simp only [Tree.Leads] at h
    exact ⟨noAn, v14nil Q h⟩
  · simp only [Tree.Leads] at h
noncomputable def s19n : Summ := fun args H => match args, H with
  | [.lit (.pointer none)], [] => .ret (.lit (.int .i64 0), [], [])
  | _, _ => .fail
theorem s19n_ok : SummOK Tryz.prog 13 s19n := by
  refine summ_of_body (fn := Tryz.f13) (c := Tryz.f13.body.get!) U5_ok (by kernel_rfl) (by kernel_rfl) (by kernel_rfl) fun args H Q h => ?_
  unfold s19n at h
  split at h
  · simp only [Tree.Leads] at h
    exact ⟨noAn, v19nil Q h⟩
  · simp only [Tree.Leads] at h
noncomputable def s12x : Summ := fun args H => match args with
  | .lit (.pointer none) :: _ => s12n args H
  | _ => s12 args H
theorem s12x_ok : SummOK Tryz.prog 6 s12x := summ_or s12n_ok s12_ok fun a H => by
  unfold s12x; split
  · exact .inl rfl
  · exact .inr rfl
noncomputable def s14x : Summ := fun args H => match args with
  | .lit (.pointer none) :: _ => s14n args H
  | _ => s14 args H
theorem s14x_ok : SummOK Tryz.prog 11 s14x := summ_or s14n_ok s14_ok fun a H => by
  unfold s14x; split
  · exact .inl rfl
  · exact .inr rfl
noncomputable def s19x : Summ := fun args H => match args with
  | .lit (.pointer none) :: _ => s19n args H
  | _ => s19 args H
theorem s19x_ok : SummOK Tryz.prog 13 s19x := summ_or s19n_ok s19_ok fun a H => by
  unfold s19x; split
  · exact .inl rfl
  · exact .inr rfl
/-- Is the document's parser between sequences? -/
noncomputable abbrev zT13iy_0 (r : RS) := [SO.cells 51 [SV.lit (Value.string (T13.RS.st r)), SV.sl 1 1 0 (List.length (T13.RS.half r)), SV.lit (Value.string (T13.RS.inter r)), SV.lit (Value.int IntKind.i64 (T13.RS.mark r)), SV.sl 2 1 0 (List.length (T13.RS.nums r)), SV.lit (Value.bool (T13.RS.any r)), SV.lit (Value.bool (T13.RS.first r)), SV.lit (Value.bool (T13.RS.wrong r)), SV.sl 3 1 0 (List.length (T13.RS.body r))], SO.row 5 (Ty.int IntKind.u8) (T13.RS.half r), SO.row 3 (Ty.int IntKind.i64) (T13.RS.nums r), SO.row 5 (Ty.int IntKind.u8) (T13.RS.body r)]
theorem vG (r : RS) (Q : SV × Heap × List Nat → Prop) (hq : Q (.lit (.bool (r.st == sG && r.half.length == 0)), rH r, [])) : (bodySumm Table.none Tryz.prog Tryz.f12 noAn [.ptr 0 0] (rH r)).Leads Q := by
  refine Sx.by_text (q :=
   br (T13.RS.st r == { data := #[] }) (Q (SV.lit (Value.bool ((↑(List.length (T13.RS.half r)) : Int) == (0 : Int))), (zT13iy_0 r), [])) (Q (SV.lit (Value.bool false),
   (zT13iy_0 r), []))) (by kernel_rfl) ?_
  delta zT13iy_0
  have e : ((r.half.length : Int) == 0) = (r.half.length == 0) := by
    rw [Bool.eq_iff_iff, beq_iff_eq, beq_iff_eq]; omega
  rw [e]
  have e0 : (r.st == sG) = (r.st == ({ data := #[] } : ByteArray)) := rfl
  rw [e0] at hq
  refine br_intro (fun g => ?_) (fun g => ?_)
  · rw [g, Bool.true_and] at hq; exact hq
  · rw [g, Bool.false_and] at hq; exact hq
noncomputable def sG12 : Summ := fun args H => match args, H with
  | [.ptr 0 0], [.cells 51 cs, .row 5 (.int .u8) B, .row 3 (.int .i64) nu, .row 5 (.int .u8) bo] => match cs with
    | [.lit (.string st), .sl 1 1 0 nb, .lit (.string inter), .lit (.int .i64 mk), .sl 2 1 0 nn, .lit (.bool any), .lit (.bool first), .lit (.bool wrong), .sl 3 1 0 nt] =>
      .need (nb = B.length ∧ nn = nu.length ∧ nt = bo.length) (.ret (.lit (.bool (st == sG && B.length == 0)), rH ⟨st, B, inter, mk, nu, any, first, wrong, bo⟩, []))
    | _ => .fail
  | _, _ => .fail
theorem sG12_ok : SummOK Tryz.prog 12 sG12 := by
  refine summ_of_body (fn := Tryz.f12) (c := Tryz.f12.body.get!) none_ok (by kernel_rfl) (by kernel_rfl) (by kernel_rfl) fun args H Q h => ?_
  unfold sG12 at h
  split at h
  case h_2 => simp only [Tree.Leads] at h
  rename_i cs B nu bo
  split at h
  case h_2 => simp only [Tree.Leads] at h
  rename_i st nb inter mk nn any first wrong nt
  simp only [Tree.Leads] at h
  obtain ⟨⟨rfl, rfl, rfl⟩, hq⟩ := h
  exact ⟨noAn, vG ⟨st, B, inter, mk, nu, any, first, wrong, bo⟩ Q hq⟩
end T13
end
section
open Go Sx Go.Proofs T12
namespace T13
set_option maxRecDepth 100000
set_option maxHeartbeats 4000000
attribute [local irreducible] Tree.Leads
noncomputable def A13 (L : Nat) : Ann := { live := [0, 1, 5], mv := [], head := fun vals H => match vals with | [a, b, _] => { X := Nat, inv := fun i => ([a, b, .lit (.int .i64 i)], H), ok := fun i => i ≤ L, mu := fun i => L - i } | _ => { X := Nat, inv := fun _ => ([], []), ok := fun _ => False, mu := fun _ => 0 } }
theorem v13i (A : List Int) (Q : SV × Heap × List Nat → Prop) (hm2 : A.length ≤ 1000000) (hq : Q (.lit (.bool true), [], [])) : (bodySumm T10 Tryz.prog Tryz.f20 (An1 0 (A13 A.length)) [.imm (.int .i64) A, .imm (.int .i64) A] []).Leads Q := by
  refine Sx.by_text (q :=
   br ((↑(List.length A) : Int) != (↑(List.length A) : Int)) (Q (SV.lit (Value.bool false), ([] : List Sx.SO), [])) ((∃ (u0 : Nat), ([SV.imm (Ty.int IntKind.i64) A, SV.imm
   (Ty.int IntKind.i64) A, SV.lit (Value.int IntKind.i64 (0 : Int))], ([] : List Sx.SO)) = ([SV.imm (Ty.int IntKind.i64) A, SV.imm (Ty.int IntKind.i64) A, SV.lit (Value.int
   IntKind.i64 (↑u0 : Int))], ([] : List Sx.SO)) ∧ u0 ≤ List.length A) ∧ ∀ (u1 : Nat), u1 ≤ List.length A → br (decide ((↑u1 : Int) < (↑(List.length A) : Int))) (((0 : Int) ≤
   (↑u1 : Int) ∧ (↑u1 : Int) < (↑(List.length A) : Int)) ∧ u1 < List.length A ∧ ((0 : Int) ≤ (↑u1 : Int) ∧ (↑u1 : Int) < (↑(List.length A) : Int)) ∧ u1 < List.length A ∧ br
   (!List.getD A u1 (Ty.dflt (Ty.int IntKind.i64)) == List.getD A u1 (Ty.dflt (Ty.int IntKind.i64))) (Q (SV.lit (Value.bool false), ([] : List Sx.SO), [])) ((∃ (u2 : Nat),
   ([SV.imm (Ty.int IntKind.i64) A, SV.imm (Ty.int IntKind.i64) A, SV.lit (Value.int IntKind.i64 (IntKind.wrap IntKind.i64 ((↑u1 : Int) + (1 : Int))))], ([] : List Sx.SO)) =
   ([SV.imm (Ty.int IntKind.i64) A, SV.imm (Ty.int IntKind.i64) A, SV.lit (Value.int IntKind.i64 (↑u2 : Int))], ([] : List Sx.SO)) ∧ u2 ≤ List.length A ∧ List.length A - u2 <
   List.length A - u1) ∧ True)) (Q (SV.lit (Value.bool true), ([] : List Sx.SO), [])))) (by kernel_rfl) ?_
  refine br_intro (fun h => by simp at h) (fun h => ⟨⟨0, rfl, by omega⟩, fun i hi => br_intro (fun hlt => ?_) (fun hge => hq)⟩)
  have hlt := of_decide_eq_true hlt
  refine ⟨by omega, by omega, by omega, by omega, br_intro (fun g => by simp at g) (fun g => ⟨⟨i + 1, ?_, by omega, by omega⟩, trivial⟩)⟩
  rw [wrap1 i (by omega)]
theorem v13s (A B : List Int) (n : Nat) (Q : SV × Heap × List Nat → Prop) (hm2 : A.length ≤ 1000000) (hn : n = A.length) (hn2 : n ≤ B.length) (he : B.take n = A) (hq : Q (.lit (.bool true), [.row 3 (.int .i64) B], [])) : (bodySumm T10 Tryz.prog Tryz.f20 (An1 0 (A13 A.length)) [.imm (.int .i64) A, .sl 0 1 0 n] [.row 3 (.int .i64) B]).Leads Q := by
  refine Sx.by_text (q :=
   br ((↑(List.length A) : Int) != (↑n : Int)) (Q (SV.lit (Value.bool false), [SO.row 3 (Ty.int IntKind.i64) B], [])) ((∃ (u0 : Nat), ([SV.imm (Ty.int IntKind.i64) A, SV.sl 0
   1 0 n, SV.lit (Value.int IntKind.i64 (0 : Int))], [SO.row 3 (Ty.int IntKind.i64) B]) = ([SV.imm (Ty.int IntKind.i64) A, SV.sl 0 1 0 n, SV.lit (Value.int IntKind.i64 (↑u0 :
   Int))], [SO.row 3 (Ty.int IntKind.i64) B]) ∧ u0 ≤ List.length A) ∧ ∀ (u1 : Nat), u1 ≤ List.length A → br (decide ((↑u1 : Int) < (↑(List.length A) : Int))) (((0 : Int) ≤
   (↑u1 : Int) ∧ (↑u1 : Int) < (↑(List.length A) : Int)) ∧ u1 < List.length A ∧ ((0 : Int) ≤ (↑u1 : Int) ∧ (↑u1 : Int) < (↑n : Int)) ∧ 0 + u1 < List.length B ∧ br (!List.getD
   A u1 (Ty.dflt (Ty.int IntKind.i64)) == List.getD B (0 + u1) (Ty.dflt (Ty.int IntKind.i64))) (Q (SV.lit (Value.bool false), [SO.row 3 (Ty.int IntKind.i64) B], [])) ((∃ (u2
   : Nat), ([SV.imm (Ty.int IntKind.i64) A, SV.sl 0 1 0 n, SV.lit (Value.int IntKind.i64 (IntKind.wrap IntKind.i64 ((↑u1 : Int) + (1 : Int))))], [SO.row 3 (Ty.int
   IntKind.i64) B]) = ([SV.imm (Ty.int IntKind.i64) A, SV.sl 0 1 0 n, SV.lit (Value.int IntKind.i64 (↑u2 : Int))], [SO.row 3 (Ty.int IntKind.i64) B]) ∧ u2 ≤ List.length A ∧
   List.length A - u2 < List.length A - u1) ∧ True)) (Q (SV.lit (Value.bool true), [SO.row 3 (Ty.int IntKind.i64) B], [])))) (by kernel_rfl) ?_
  subst hn
  refine br_intro (fun h => by simp at h) (fun h => ⟨⟨0, rfl, by omega⟩, fun i hi => br_intro (fun hlt => ?_) (fun hge => hq)⟩)
  have hlt := of_decide_eq_true hlt
  have e : A.getD i (Ty.int .i64).dflt = B.getD (0 + i) (Ty.int .i64).dflt := by
    rw [PL.getD_part B 0 A.length i _ (by omega), List.drop_zero, he]
  rw [← e]
  refine ⟨by omega, by omega, by omega, by omega, br_intro (fun g => by simp at g) (fun g => ⟨⟨i + 1, ?_, by omega, by omega⟩, trivial⟩)⟩
  rw [wrap1 i (by omega)]
theorem v13n (Q : SV × Heap × List Nat → Prop) (hq : Q (.lit (.bool true), [], [])) : (bodySumm T10 Tryz.prog Tryz.f20 noAn [.imm (.int .i64) [], .lit (.slice none 0 0)] []).Leads Q := by
  refine Sx.by_text (q :=
   Q (SV.lit (Value.bool true), ([] : List Sx.SO), [])) (by kernel_rfl) ?_
  exact hq
noncomputable def s13 : Summ := fun args H => match args, H with
  | [.imm (.int .i64) A, .imm (.int .i64) B], [] => .need (A = B ∧ A.length ≤ 1000000) (.ret (.lit (.bool true), [], []))
  | [.imm (.int .i64) A, .lit (.slice none 0 0)], [] => .need (A = []) (.ret (.lit (.bool true), [], []))
  | [.imm (.int .i64) A, .sl 0 1 0 n], [.row 3 (.int .i64) B] => .need (n = A.length ∧ n ≤ B.length ∧ B.take n = A ∧ A.length ≤ 1000000) (.ret (.lit (.bool true), [.row 3 (.int .i64) B], []))
  | _, _ => .fail
theorem s13_ok : SummOK Tryz.prog 20 s13 := by
  refine summ_of_body (fn := Tryz.f20) (c := Tryz.f20.body.get!) T10_ok (by kernel_rfl) (by kernel_rfl) (by kernel_rfl) fun args H Q h => ?_
  unfold s13 at h
  split at h
  · simp only [Tree.Leads] at h
    obtain ⟨⟨rfl, h3⟩, hq⟩ := h
    exact ⟨_, v13i _ Q h3 hq⟩
  · simp only [Tree.Leads] at h
    obtain ⟨rfl, hq⟩ := h
    exact ⟨_, v13n Q hq⟩
  · simp only [Tree.Leads] at h
    obtain ⟨⟨h1, h2, h3, h4⟩, hq⟩ := h
    exact ⟨_, v13s _ _ _ Q h4 h1 h2 h3 hq⟩
  · simp only [Tree.Leads] at h
/-- Acts with few numbers. -/
def Few (A : List aty.den) : Prop := ∀ x ∈ A, x.2.2.2.2.1.length ≤ 1000000
end T13
end
section
open Go Sx Go.Proofs T12
namespace T13
set_option maxRecDepth 100000
set_option maxHeartbeats 4000000
theorem flat_one (s : ByteArray) : flat [s] = strInts s := by simp only [flat, List.flatMap_cons, List.flatMap_nil, List.append_nil]
theorem few_of {l : List aty.den} (h : Eight l) : Few l := fun x hx => by have := h x hx; omega
theorem kept_ok {r : PS} (h : r.OK) : KeptOK r := ⟨by
  have h1 := h.inter
  have h2 := h.nums
  have h3 := h.text
  have h4 := good_len h.half
  rw [bsOf_size]; omega⟩
/-- One part, read by both. -/
structure Turn (l : List Int) (F : PS × List aty.den) (G : RS × List aty.den) : Prop where
  same : F.2 = G.2
  doc : Doc F.1 G.1
  clean : Clean F.1
  few : F.2.length ≤ 3 * l.length
  eight : Eight F.2
  ground : (F.1.st == 0 && (bsOf F.1.half).size == 0) = (G.1.st == sG && G.1.half.length == 0)
  kept : F.1.inter.length + F.1.nums.length + F.1.text.length + (bsOf F.1.half).size ≤ 76
  none : (F.1.st == 0 && (bsOf F.1.half).size == 0) = true → F.1.inter.length + F.1.nums.length + F.1.text.length + (bsOf F.1.half).size = 0
  eta : (⟨F.1.st, strInts (bsOf F.1.half), F.1.inter, F.1.wrong, F.1.first, F.1.mark, F.1.nums, F.1.full, F.1.text⟩ : PS) = F.1
theorem turn_of {r : PS} {R : RS} {l : List Int} {F : PS × List aty.den} {G : RS × List aty.den} (hd : Doc r R) (hc : Clean r) (hF : F = pfeed r l) (hG : AllR R l G) : Turn l F G := by
  obtain ⟨h1, h2⟩ := hG.all r hd
  rw [← hF] at h1 h2
  have hok := h2.ok
  have hcl : Clean F.1 := by rw [hF]; exact pfeed_clean hc l
  have hst := doc_st h2
  have e1 : (F.1.st == 0) = (G.1.st == sG) := by
    rw [Bool.eq_iff_iff, beq_iff_eq, bytes_beq]
    constructor
    · intro h; exact h2.g h
    · intro h
      rw [hst] at h
      exact stS_inj hok.st (by omega) (by rw [h]; rfl)
  refine ⟨h1.symm, h2, hcl, by rw [hF]; exact pfeed_few r l, by rw [hF]; exact pfeed_eight hd.ok l, ?_, ?_, ?_, PS.eta hok.half⟩
  · rw [e1, h2.half, bsOf_size]
  · have h3 := hok.inter
    have h4 := hok.nums
    have h5 := hok.text
    have h6 := good_len hok.half
    rw [bsOf_size]; omega
  · intro h
    rw [Bool.and_eq_true, beq_iff_eq, beq_iff_eq] at h
    obtain ⟨c1, c2, c3⟩ := hcl h.1
    rw [h.2, c1, c2, c3]; rfl
theorem part_le (P : List ByteArray) (i : Nat) (h : i < P.length) (d : ByteArray) : (strInts (P.getD i d)).length ≤ (flat P).length := by
  have h1 := flat_succ P i h d
  have h2 := flat_mono P (i + 1) P.length (by omega)
  rw [List.take_length] at h2
  rw [h1, List.length_append] at h2
  omega
end T13
end
