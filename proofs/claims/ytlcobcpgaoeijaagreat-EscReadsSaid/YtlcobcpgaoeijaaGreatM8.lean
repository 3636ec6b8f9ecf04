/- Part of a proof: the walks of the functions that the law calls, and their plain laws; no condition. -/
import Derived.Test.YtlcobcpgaoeijaaGreatSxT
import Derived.Test.YtlcobcpgaoeijaaGreatM7
import Derived.Test.YtlcobcpgaoeijaaGreatM1
set_option linter.unusedVariables false
set_option linter.unusedSimpArgs false
section
open Go Sx Go.Proofs T12
namespace T13
set_option maxRecDepth 100000
set_option maxHeartbeats 8000000
attribute [local irreducible] Tree.Leads
theorem cut_k (a : Int) (n : Nat) (h1 : 0 < n) (h2 : n ≤ 100000) : ∃ k : Nat, (IntKind.i64.wrap (IntKind.i64.wrap (a.tmod (IntKind.i64.wrap ((n : Int) + 1)) + n) + 1)).tmod (IntKind.i64.wrap ((n : Int) + 1)) = k ∧ k ≤ n := by
  have hd : IntKind.i64.wrap ((n : Int) + 1) = n + 1 := by rw [IntKind.wrap_i64]; omega
  rw [hd]
  have hx : -((n : Int) + 1) < a.tmod (n + 1) ∧ a.tmod (n + 1) < n + 1 := by
    rcases Int.le_total 0 a with h | h
    · rw [Int.tmod_eq_emod_of_nonneg h]
      have := Int.emod_nonneg a (show (n : Int) + 1 ≠ 0 by omega)
      have := Int.emod_lt_of_pos a (show (0 : Int) < (n : Int) + 1 by omega)
      omega
    · have e : a.tmod (n + 1) = -((-a).tmod (n + 1)) := by rw [Int.neg_tmod, Int.neg_neg]
      rw [e, Int.tmod_eq_emod_of_nonneg (show 0 ≤ -a by omega)]
      have := Int.emod_nonneg (-a) (show (n : Int) + 1 ≠ 0 by omega)
      have := Int.emod_lt_of_pos (-a) (show (0 : Int) < (n : Int) + 1 by omega)
      omega
  generalize a.tmod (n + 1) = x at *
  have e1 : IntKind.i64.wrap (IntKind.i64.wrap (x + n) + 1) = x + n + 1 := by rw [IntKind.wrap_i64, IntKind.wrap_i64]; omega
  rw [e1, Int.tmod_eq_emod_of_nonneg (by omega)]
  have := Int.emod_nonneg (x + n + 1) (show (n : Int) + 1 ≠ 0 by omega)
  have := Int.emod_lt_of_pos (x + n + 1) (show (0 : Int) < (n : Int) + 1 by omega)
  exact ⟨((x + n + 1) % (n + 1)).toNat, by omega, by omega⟩
/-- The parts of a text. -/
structure CutOf (s : ByteArray) (L : Nat) (p : List ByteArray) : Prop where
  all : flat p = strInts s
  few : p.length ≤ L + 1
  ne : 0 < p.length
noncomputable def A15 (s : ByteArray) (L : List Int) : Ann := { live := [0, 1, 5, 6], mv := [], nilS := [(5, 9, .str)], head := fun vals _ => match vals with | [_, b, _, _] => { X := List ByteArray × ByteArray, inv := fun x => ([.lit (.string x.2), b, .sl 0 1 0 x.1.length, .lit (.int .i64 x.1.length)], [.row 9 .str x.1]), ok := fun x => x.1.length ≤ L.length ∧ flat x.1 ++ strInts x.2 = strInts s, mu := fun x => L.length - x.1.length } | _ => { X := Nat, inv := fun _ => ([], []), ok := fun _ => False, mu := fun _ => 0 } }
noncomputable abbrev zT13hx_1 (u1 : List ByteArray × ByteArray) := (IntKind.wrap IntKind.i64 ((↑(ByteArray.size (Prod.snd u1)) : Int) + (1 : Int)))
noncomputable abbrev zT13hx_0 (L : List Int) (u1 : List ByteArray × ByteArray) := (IntKind.wrap IntKind.i64 (IntKind.wrap IntKind.i64 (Int.tmod (List.getD L (List.length (Prod.fst u1)) (Ty.dflt (Ty.int IntKind.i64))) (zT13hx_1 u1) + (↑(ByteArray.size (Prod.snd u1)) : Int)) + (1 : Int)))
noncomputable abbrev zT13hx_2 (L : List Int) (u1 : List ByteArray × ByteArray) := [SV.lit (Value.string (ByteArray.extract (Prod.snd u1) (Int.toNat (Int.tmod (zT13hx_0 L u1) (zT13hx_1 u1))) (ByteArray.size (Prod.snd u1)))), SV.imm (Ty.int IntKind.i64) L, SV.sl 0 1 0 (List.length (Prod.fst u1) + 1), SV.lit (Value.int IntKind.i64 (IntKind.wrap IntKind.i64 ((↑(List.length (Prod.fst u1)) : Int) + (1 : Int))))]
noncomputable abbrev zT13hx_3 (u1 : List ByteArray × ByteArray) := ((↑(List.length (Prod.fst u1) + 1) : Int) ≤ (9223372036854775807 : Int) ∧ (List.length (Prod.fst u1) + 1) * Sx.bytesOf Go.Proofs.Tryz.prog 9 ≤ 140737488355328)
theorem v15 (s : ByteArray) (L : List Int) (Q : SV × Heap × List Nat → Prop) (hs : s.size ≤ 100000) (hL : L.length ≤ 1000) (hq : ∀ p, CutOf s L.length p → Q (.sl 0 1 0 p.length, [.row 9 .str p], [])) : (bodySumm Table.none Tryz.prog Tryz.f5 (An1 0 (A15 s L)) [.lit (.string s), .imm (.int .i64) L] []).Leads Q := by
  refine Sx.by_text (q :=
   (∃ (u0 : List ByteArray × ByteArray), ([SV.lit (Value.string s), SV.imm (Ty.int IntKind.i64) L, SV.sl 0 1 0 0, SV.lit (Value.int IntKind.i64 (0 : Int))], [SO.row 9 Ty.str
   []]) = ([SV.lit (Value.string (Prod.snd u0)), SV.imm (Ty.int IntKind.i64) L, SV.sl 0 1 0 (List.length (Prod.fst u0)), SV.lit (Value.int IntKind.i64 (↑(List.length
   (Prod.fst u0)) : Int))], [SO.row 9 Ty.str (Prod.fst u0)]) ∧ List.length (Prod.fst u0) ≤ List.length L ∧ T13.flat (Prod.fst u0) ++ Sx.strInts (Prod.snd u0) = Sx.strInts s)
   ∧ ∀ (u1 : List ByteArray × ByteArray), List.length (Prod.fst u1) ≤ List.length L ∧ T13.flat (Prod.fst u1) ++ Sx.strInts (Prod.snd u1) = Sx.strInts s → br (decide
   ((↑(List.length (Prod.fst u1)) : Int) < (↑(List.length L) : Int))) (br (decide ((↑(ByteArray.size (Prod.snd u1)) : Int) > (0 : Int))) (((0 : Int) ≤ (↑(List.length
   (Prod.fst u1)) : Int) ∧ (↑(List.length (Prod.fst u1)) : Int) < (↑(List.length L) : Int)) ∧ List.length (Prod.fst u1) < List.length L ∧ (IntKind.wrap IntKind.i64
   ((↑(ByteArray.size (Prod.snd u1)) : Int) + (1 : Int)) = (0 : Int) → False) ∧ (IntKind.wrap IntKind.i64 ((↑(ByteArray.size (Prod.snd u1)) : Int) + (1 : Int)) = (0 : Int) →
   False) ∧ ((0 : Int) ≤ Int.tmod (zT13hx_0 L u1) (zT13hx_1 u1) ∧ Int.tmod (zT13hx_0 L u1) (zT13hx_1 u1) ≤ (↑(ByteArray.size (Prod.snd u1)) : Int)) ∧ True ∧ 1 ≤ 1 ∧ br
   (decide (List.length (Prod.fst u1) + 1 ≤ List.length (Prod.fst u1))) (True ∧ ((0 : Int) ≤ Int.tmod (zT13hx_0 L u1) (zT13hx_1 u1) ∧ Int.tmod (zT13hx_0 L u1) (zT13hx_1 u1) ≤
   (↑(ByteArray.size (Prod.snd u1)) : Int)) ∧ (∃ (u2 : List ByteArray × ByteArray), ((zT13hx_2 L u1), [SO.row 9 Ty.str (List.take (List.length (Prod.fst u1)) (Prod.fst u1) ++
   [ByteArray.extract (Prod.snd u1) 0 (Int.toNat (Int.tmod (zT13hx_0 L u1) (zT13hx_1 u1)))] ++ List.drop (List.length (Prod.fst u1) + 1) (Prod.fst u1))]) = ([SV.lit
   (Value.string (Prod.snd u2)), SV.imm (Ty.int IntKind.i64) L, SV.sl 0 1 0 (List.length (Prod.fst u2)), SV.lit (Value.int IntKind.i64 (↑(List.length (Prod.fst u2)) : Int))],
   [SO.row 9 Ty.str (Prod.fst u2)]) ∧ (List.length (Prod.fst u2) ≤ List.length L ∧ T13.flat (Prod.fst u2) ++ Sx.strInts (Prod.snd u2) = Sx.strInts s) ∧ List.length L -
   List.length (Prod.fst u2) < List.length L - List.length (Prod.fst u1)) ∧ True) (List.length (Prod.fst u1) ≤ List.length (Prod.fst u1) ∧ (zT13hx_3 u1) ∧ True ∧ ((0 : Int) ≤
   Int.tmod (zT13hx_0 L u1) (zT13hx_1 u1) ∧ Int.tmod (zT13hx_0 L u1) (zT13hx_1 u1) ≤ (↑(ByteArray.size (Prod.snd u1)) : Int)) ∧ (∃ (u3 : List ByteArray × ByteArray),
   ((zT13hx_2 L u1), [SO.row 9 Ty.str (List.take (List.length (Prod.fst u1)) (Prod.fst u1) ++ [ByteArray.extract (Prod.snd u1) 0 (Int.toNat (Int.tmod (zT13hx_0 L u1)
   (zT13hx_1 u1)))])]) = ([SV.lit (Value.string (Prod.snd u3)), SV.imm (Ty.int IntKind.i64) L, SV.sl 0 1 0 (List.length (Prod.fst u3)), SV.lit (Value.int IntKind.i64
   (↑(List.length (Prod.fst u3)) : Int))], [SO.row 9 Ty.str (Prod.fst u3)]) ∧ (List.length (Prod.fst u3) ≤ List.length L ∧ T13.flat (Prod.fst u3) ++ Sx.strInts (Prod.snd u3)
   = Sx.strInts s) ∧ List.length L - List.length (Prod.fst u3) < List.length L - List.length (Prod.fst u1)) ∧ True)) (1 ≤ 1 ∧ br (decide (List.length (Prod.fst u1) + 1 ≤
   List.length (Prod.fst u1))) (Q (SV.sl 0 1 0 (List.length (Prod.fst u1) + 1), [SO.row 9 Ty.str (List.take (List.length (Prod.fst u1)) (Prod.fst u1) ++ [Prod.snd u1] ++
   List.drop (List.length (Prod.fst u1) + 1) (Prod.fst u1))], [])) (List.length (Prod.fst u1) ≤ List.length (Prod.fst u1) ∧ (zT13hx_3 u1) ∧ Q (SV.sl 0 1 0 (List.length
   (Prod.fst u1) + 1), [SO.row 9 Ty.str (List.take (List.length (Prod.fst u1)) (Prod.fst u1) ++ [Prod.snd u1])], [])))) (1 ≤ 1 ∧ br (decide (List.length (Prod.fst u1) + 1 ≤
   List.length (Prod.fst u1))) (Q (SV.sl 0 1 0 (List.length (Prod.fst u1) + 1), [SO.row 9 Ty.str (List.take (List.length (Prod.fst u1)) (Prod.fst u1) ++ [Prod.snd u1] ++
   List.drop (List.length (Prod.fst u1) + 1) (Prod.fst u1))], [])) (List.length (Prod.fst u1) ≤ List.length (Prod.fst u1) ∧ (zT13hx_3 u1) ∧ Q (SV.sl 0 1 0 (List.length
   (Prod.fst u1) + 1), [SO.row 9 Ty.str (List.take (List.length (Prod.fst u1)) (Prod.fst u1) ++ [Prod.snd u1])], [])))) (by kernel_rfl) ?_
  delta zT13hx_0 zT13hx_1 zT13hx_2 zT13hx_3
  have hbs : bytesOf Tryz.prog 9 = 16 := by kernel_rfl
  refine ⟨⟨([], s), rfl, by simp, by simp [flat]⟩, fun x hx => ?_⟩
  obtain ⟨p, r⟩ := x
  obtain ⟨hx1, hx2⟩ := hx
  simp only at hx1 hx2 ⊢
  have hr : r.size ≤ s.size := by rw [← strInts_size r, ← strInts_size s, ← hx2, List.length_append]; omega
  have hend : 1 ≤ 1 ∧ br (decide (p.length + 1 ≤ p.length)) (Q (SV.sl 0 1 0 (p.length + 1), [SO.row 9 Ty.str (List.take p.length p ++ [r] ++ List.drop (p.length + 1) p)], []))
      (p.length ≤ p.length ∧ (((p.length + 1 : Nat) : Int) ≤ 9223372036854775807 ∧ (p.length + 1) * bytesOf Tryz.prog 9 ≤ 140737488355328) ∧ Q (SV.sl 0 1 0 (p.length + 1), [SO.row 9 Ty.str (List.take p.length p ++ [r])], [])) := by
    refine ⟨by omega, br_intro (fun h => by have := of_decide_eq_true h; omega) (fun _ => ⟨by omega, ⟨by omega, by rw [hbs]; omega⟩, ?_⟩)⟩
    have hq := hq (p ++ [r]) ⟨by rw [← hx2]; simp [flat], by rw [List.length_append]; simp; omega, by simp⟩
    rw [List.length_append] at hq
    rw [List.take_length]; exact hq
  refine br_intro (fun hlt => br_intro (fun hpos => ?_) (fun _ => hend)) (fun _ => hend)
  have hlt := of_decide_eq_true hlt
  have hpos := of_decide_eq_true hpos
  have hmem : L.getD p.length (Ty.int IntKind.i64).dflt ∈ L := by
    rw [List.getD_eq_getElem?_getD, List.getElem?_eq_getElem (by omega)]; exact List.getElem_mem _
  obtain ⟨k, hk1, hk2⟩ := cut_k (L.getD p.length (Ty.int IntKind.i64).dflt) r.size (by omega) (by omega)
  have hd : IntKind.i64.wrap ((r.size : Int) + 1) = r.size + 1 := by rw [IntKind.wrap_i64]; omega
  rw [hk1]
  refine ⟨by omega, by omega, by rw [hd]; omega, by rw [hd]; omega, by omega, trivial, by omega, br_intro (fun h => by have := of_decide_eq_true h; omega) (fun _ => ⟨by omega, ⟨by omega, by rw [hbs]; omega⟩, trivial, by omega, ⟨(p ++ [r.extract 0 k], r.extract k r.size), ?_, ⟨?_, ?_⟩, ?_⟩, trivial⟩)⟩
  · rw [wrap1 p.length (by omega), List.take_length]; simp only [List.length_append, List.length_cons, List.length_nil, Int.toNat_natCast]
  · simp only [List.length_append, List.length_cons, List.length_nil]; omega
  · simp only [flat, List.flatMap_append, List.flatMap_cons, List.flatMap_nil, List.append_nil, strInts_extract]
    rw [← hx2, List.append_assoc, List.drop_zero, Nat.sub_zero]
    have e : ((strInts r).drop k).take (r.size - k) = (strInts r).drop k := List.take_of_length_le (by rw [List.length_drop, strInts_size]; omega)
    rw [e, List.take_append_drop]; rfl
  · simp only [List.length_append, List.length_cons, List.length_nil]; omega
noncomputable def s15 : Summ := fun args H => match args, H with
  | [.lit (.string s), .imm (.int .i64) L], [] => .need (s.size ≤ 100000 ∧ L.length ≤ 1000) (.any (List ByteArray) (CutOf s L.length) fun p => .ret (.sl 0 1 0 p.length, [.row 9 .str p], []))
  | _, _ => .fail
theorem s15_ok : SummOK Tryz.prog 5 s15 := by
  refine summ_of_body (fn := Tryz.f5) (c := Tryz.f5.body.get!) none_ok (by kernel_rfl) (by kernel_rfl) (by kernel_rfl) fun args H Q h => ?_
  unfold s15 at h
  split at h
  · simp only [Tree.Leads] at h
    obtain ⟨⟨h1, h2⟩, hq⟩ := h
    exact ⟨_, v15 _ _ Q h1 h2 hq⟩
  · simp only [Tree.Leads] at h
end T13
end
section
open Go Sx Go.Proofs T12
namespace T13
set_option maxRecDepth 100000
set_option maxHeartbeats 4000000
attribute [local irreducible] Tree.Leads
noncomputable def V0x : Table := (((U5.add 6 (.go s12)).add 11 (.call (inlSumm U5 Tryz.prog Tryz.f11))).add 13 (.call (inlSumm U5 Tryz.prog Tryz.f13)))
theorem V0x_ok : TableOK Tryz.prog V0x := add_ok (add_ok (add_ok U5_ok s12_ok) (inlSumm_sound (c := Tryz.f11.body.get!) U5_ok (by kernel_rfl) (by kernel_rfl) (by kernel_rfl))) (inlSumm_sound (c := Tryz.f13.body.get!) U5_ok (by kernel_rfl) (by kernel_rfl) (by kernel_rfl))
theorem br_yes {c : Bool} {p q : Prop} (h : c = true) (hp : p) : br c p q := by rw [h]; exact hp
theorem br_no {c : Bool} {p q : Prop} (h : c = false) (hq : q) : br c p q := by rw [h]; exact hq
noncomputable abbrev zT13ix_0 : SV × Heap × List Nat := (SV.lit (Value.bool false), ([] : List Sx.SO), [])
theorem v10 (Q : SV × Heap × List Nat → Prop) (hq : Q (.lit (.bool true), [], [])) : (bodySumm V0x Tryz.prog Tryz.f4 noAn [] []).Leads Q := by
  refine Sx.by_text (q :=
   (T13.newP = T13.newP ∧ 2 ≤ 2 ∧ T13.FeedOK T13.ps0 [{ data := #[(97 : UInt8), (27 : UInt8), (91 : UInt8), (49 : UInt8), (59 : UInt8)] }, { data := #[(50 : UInt8), (72 :
   UInt8), (98 : UInt8)] }]) ∧ ∀ (u0 : T13.PS × List (Ty.den T13.aty)), T13.FeedOf T13.ps0 [{ data := #[(97 : UInt8), (27 : UInt8), (91 : UInt8), (49 : UInt8), (59 : UInt8)]
   }, { data := #[(50 : UInt8), (72 : UInt8), (98 : UInt8)] }] u0 → br ((↑(List.length (Prod.snd u0)) : Int) == (3 : Int)) (((0 : Int) ≤ (0 : Int) ∧ (0 : Int) <
   (↑(List.length (Prod.snd u0)) : Int)) ∧ 0 < List.length (Prod.snd u0) ∧ br (Prod.fst (List.getD (Prod.snd u0) 0 (Ty.dflt T13.aty)) == (1 : Int)) (((0 : Int) ≤ (0 : Int) ∧
   (0 : Int) < (↑(List.length (Prod.snd u0)) : Int)) ∧ 0 < List.length (Prod.snd u0) ∧ br (Prod.fst (Prod.snd (List.getD (Prod.snd u0) 0 (Ty.dflt T13.aty))) == (97 : Int))
   (((0 : Int) ≤ (1 : Int) ∧ (1 : Int) < (↑(List.length (Prod.snd u0)) : Int)) ∧ 1 < List.length (Prod.snd u0) ∧ br (Prod.fst (List.getD (Prod.snd u0) 1 (Ty.dflt T13.aty)) ==
   (4 : Int)) (((0 : Int) ≤ (1 : Int) ∧ (1 : Int) < (↑(List.length (Prod.snd u0)) : Int)) ∧ 1 < List.length (Prod.snd u0) ∧ br (Prod.fst (Prod.snd (Prod.snd (List.getD
   (Prod.snd u0) 1 (Ty.dflt T13.aty)))) == (72 : Int)) (((0 : Int) ≤ (1 : Int) ∧ (1 : Int) < (↑(List.length (Prod.snd u0)) : Int)) ∧ 1 < List.length (Prod.snd u0) ∧ br
   ((↑(List.length (Prod.fst (Prod.snd (Prod.snd (Prod.snd (Prod.snd (List.getD (Prod.snd u0) 1 (Ty.dflt T13.aty)))))))) : Int) == (2 : Int)) (((0 : Int) ≤ (1 : Int) ∧ (1 :
   Int) < (↑(List.length (Prod.snd u0)) : Int)) ∧ 1 < List.length (Prod.snd u0) ∧ ((0 : Int) ≤ (1 : Int) ∧ (1 : Int) < (↑(List.length (Prod.fst (Prod.snd (Prod.snd (Prod.snd
   (Prod.snd (List.getD (Prod.snd u0) 1 (Ty.dflt T13.aty)))))))) : Int)) ∧ 1 < List.length (Prod.fst (Prod.snd (Prod.snd (Prod.snd (Prod.snd (List.getD (Prod.snd u0) 1
   (Ty.dflt T13.aty))))))) ∧ br (List.getD (Prod.fst (Prod.snd (Prod.snd (Prod.snd (Prod.snd (List.getD (Prod.snd u0) 1 (Ty.dflt T13.aty))))))) 1 (Ty.dflt (Ty.int
   IntKind.i64)) == (2 : Int)) (br (T13.PS.st (Prod.fst u0) == (0 : Int)) (Q (SV.lit (Value.bool ((↑(ByteArray.size (Sx.bsOf (T13.PS.half (Prod.fst u0)))) : Int) == (0 :
   Int))), ([] : List Sx.SO), [])) (Q (zT13ix_0))) (Q (zT13ix_0))) (Q (zT13ix_0))) (Q (zT13ix_0))) (Q (zT13ix_0))) (Q (zT13ix_0))) (Q (zT13ix_0))) (Q (zT13ix_0))) (by kernel_rfl) ?_
  delta zT13ix_0
  have e : pfeed ps0 (flat [({ data := #[97, 27, 91, 49, 59] } : ByteArray), { data := #[50, 72, 98] }]) = (⟨0, [], [], false, true, 0, [], false, []⟩, [aPrint 97, aCsi 0 [1, 2] [] 72, aPrint 98]) := by kernel_rfl
  refine ⟨⟨rfl, by omega, ⟨ps0_ok, by decide, by decide⟩⟩, fun r hr => ?_⟩
  obtain ⟨rfl⟩ := hr
  rw [e]
  repeat' first
    | exact hq
    | refine And.intro ?_ ?_
    | refine br_yes (by decide) ?_
    | refine br_no (by decide) ?_
    | decide
noncomputable def s10 : Summ := fun args H => match args, H with
  | [], [] => .ret (.lit (.bool true), [], [])
  | _, _ => .fail
theorem s10_ok : SummOK Tryz.prog 4 s10 := by
  refine summ_of_body (fn := Tryz.f4) (c := Tryz.f4.body.get!) V0x_ok (by kernel_rfl) (by kernel_rfl) (by kernel_rfl) fun args H Q h => ?_
  unfold s10 at h
  split at h
  · simp only [Tree.Leads] at h
    exact ⟨noAn, v10 Q h⟩
  · simp only [Tree.Leads] at h
def gheap (s : PS) : Heap := [.cells 46 (fedP s 1 2 3 nilV), .row 5 (.int .u8) s.inter, .row 3 (.int .i64) s.nums, .row 5 (.int .u8) s.text]
theorem v14 (s : PS) (Q : SV × Heap × List Nat → Prop) (hq : Q (.lit (.bool (s.st == 0 && (bsOf s.half).size == 0)), gheap s, [])) : (bodySumm U5 Tryz.prog Tryz.f11 noAn [.ptr 0 0] (gheap s)).Leads Q := by
  refine Sx.by_text (q :=
   br (T13.PS.st s == (0 : Int)) (Q (SV.lit (Value.bool ((↑(ByteArray.size (Sx.bsOf (T13.PS.half s))) : Int) == (0 : Int))), [SO.cells 46 (T13.fedP s 1 2 3 (SV.lit
   (Value.slice Option.none 0 0))), SO.row 5 (Ty.int IntKind.u8) (T13.PS.inter s), SO.row 3 (Ty.int IntKind.i64) (T13.PS.nums s), SO.row 5 (Ty.int IntKind.u8) (T13.PS.text
   s)], [])) (Q (SV.lit (Value.bool false), [SO.cells 46 (T13.fedP s 1 2 3 (SV.lit (Value.slice Option.none 0 0))), SO.row 5 (Ty.int IntKind.u8) (T13.PS.inter s), SO.row 3
   (Ty.int IntKind.i64) (T13.PS.nums s), SO.row 5 (Ty.int IntKind.u8) (T13.PS.text s)], []))) (by kernel_rfl) ?_
  have e : (((bsOf s.half).size : Int) == 0) = ((bsOf s.half).size == 0) := by
    rw [Bool.eq_iff_iff, beq_iff_eq, beq_iff_eq]; omega
  rw [e]
  refine br_intro (fun g => ?_) (fun g => ?_)
  · rw [g, Bool.true_and] at hq; exact hq
  · rw [g, Bool.false_and] at hq; exact hq
theorem v14n (Q : SV × Heap × List Nat → Prop) (hq : Q (.lit (.bool true), [.cells 46 newP], [])) : (bodySumm U5 Tryz.prog Tryz.f11 noAn [.ptr 0 0] [.cells 46 newP]).Leads Q := by
  refine Sx.by_text (q :=
   Q (SV.lit (Value.bool true), [SO.cells 46 T13.newP], [])) (by kernel_rfl) ?_
  exact hq
noncomputable abbrev zT13ix_1 (s : PS) : SV × Heap × List Nat := (SV.lit (Value.int IntKind.i64 (IntKind.wrap IntKind.i64 (IntKind.wrap IntKind.i64 (IntKind.wrap IntKind.i64 ((↑(List.length (T13.PS.inter s)) : Int) + (↑(List.length (T13.PS.nums s)) : Int)) + (↑(List.length (T13.PS.text s)) : Int)) + (↑(ByteArray.size (Sx.bsOf (T13.PS.half s))) : Int)))), [SO.cells 46 (T13.fedP s 1 2 3 (SV.lit (Value.slice Option.none 0 0))), SO.row 5 (Ty.int IntKind.u8) (T13.PS.inter s), SO.row 3 (Ty.int IntKind.i64) (T13.PS.nums s), SO.row 5 (Ty.int IntKind.u8) (T13.PS.text s)], [])
theorem v19 (s : PS) (Q : SV × Heap × List Nat → Prop) (h1 : s.inter.length + s.nums.length + s.text.length + (bsOf s.half).size ≤ 1000000) (hq : Q (.lit (.int .i64 ((s.inter.length + s.nums.length + s.text.length + (bsOf s.half).size : Nat) : Int)), gheap s, [])) : (bodySumm U5 Tryz.prog Tryz.f13 noAn [.ptr 0 0] (gheap s)).Leads Q := by
  refine Sx.by_text (q :=
   ∀ (u0 : Bool), True → br u0 (∀ (u1 : Bool), True → br u1 (∀ (u2 : Bool), True → br u2 (Q (zT13ix_1 s)) (Q (zT13ix_1 s))) (∀ (u3 : Bool), True → br u3 (∀ (u4 : Bool), True
   → br u4 (Q (zT13ix_1 s)) (Q (zT13ix_1 s))) (Q (zT13ix_1 s)))) (∀ (u5 : Bool), True → br u5 (∀ (u6 : Bool), True → br u6 (∀ (u7 : Bool), True → br u7 (Q (zT13ix_1 s)) (Q
   (zT13ix_1 s))) (∀ (u8 : Bool), True → br u8 (∀ (u9 : Bool), True → br u9 (Q (zT13ix_1 s)) (Q (zT13ix_1 s))) (Q (zT13ix_1 s)))) (∀ (u10 : Bool), True → br u10 (∀ (u11 :
   Bool), True → br u11 (∀ (u12 : Bool), True → br u12 (Q (zT13ix_1 s)) (Q (zT13ix_1 s))) (∀ (u13 : Bool), True → br u13 (∀ (u14 : Bool), True → br u14 (Q (zT13ix_1 s)) (Q
   (zT13ix_1 s))) (Q (zT13ix_1 s)))) (Q (zT13ix_1 s))))) (by kernel_rfl) ?_
  delta zT13ix_1
  have e : IntKind.i64.wrap (IntKind.i64.wrap (IntKind.i64.wrap ((s.inter.length : Int) + (s.nums.length : Int)) + (s.text.length : Int)) + ((bsOf s.half).size : Int)) = ((s.inter.length + s.nums.length + s.text.length + (bsOf s.half).size : Nat) : Int) := by
    rw [IntKind.wrap_i64, IntKind.wrap_i64, IntKind.wrap_i64]; omega
  rw [e]
  repeat' first
    | exact hq
    | exact True.intro
    | refine And.intro ?_ ?_
    | refine br_intro (fun g => ?_) (fun g => ?_)
    | intro _ _
structure KeptOK (s : PS) : Prop where
  le : s.inter.length + s.nums.length + s.text.length + (bsOf s.half).size ≤ 1000000
noncomputable def s14 : Summ := fun args H => match args, H with
  | [.ptr 0 0], [.cells 46 cs] => .need (cs = newP) (.ret (.lit (.bool true), [.cells 46 cs], []))
  | [.ptr 0 0], [.cells 46 cs, .row 5 (.int .u8) it, .row 3 (.int .i64) nu, .row 5 (.int .u8) tx] => match cs.drop 33 with
    | [.lit (.int .i64 st), .lit (.string h), .sl 1 1 0 ni, .lit (.bool wr), .lit (.bool fi), .lit (.int .i64 mk), .sl 2 1 0 nn, .lit (.bool fu), .sl 3 1 0 nt, .lit (.slice none 0 0)] =>
      .need (cs = fedP ⟨st, strInts h, it, wr, fi, mk, nu, fu, tx⟩ 1 2 3 nilV) (.ret (.lit (.bool (st == 0 && h.size == 0)), [.cells 46 cs, .row 5 (.int .u8) it, .row 3 (.int .i64) nu, .row 5 (.int .u8) tx], []))
    | _ => .fail
  | _, _ => .fail
theorem s14_ok : SummOK Tryz.prog 11 s14 := by
  refine summ_of_body (fn := Tryz.f11) (c := Tryz.f11.body.get!) U5_ok (by kernel_rfl) (by kernel_rfl) (by kernel_rfl) fun args H Q h => ?_
  unfold s14 at h
  split at h
  · simp only [Tree.Leads] at h
    obtain ⟨rfl, hq⟩ := h
    exact ⟨noAn, v14n Q hq⟩
  · split at h
    case h_2 => simp only [Tree.Leads] at h
    rename_i it nu tx _ st h' ni wr fi mk nn fu nt hcs
    simp only [Tree.Leads] at h
    obtain ⟨rfl, hq⟩ := h
    refine ⟨noAn, v14 ⟨st, strInts h', it, wr, fi, mk, nu, fu, tx⟩ Q ?_⟩
    rw [show (⟨st, strInts h', it, wr, fi, mk, nu, fu, tx⟩ : PS).half = strInts h' from rfl, bsOf_strInts]; exact hq
  · simp only [Tree.Leads] at h
noncomputable def s19 : Summ := fun args H => match args, H with
  | [.ptr 0 0], [.cells 46 cs, .row 5 (.int .u8) it, .row 3 (.int .i64) nu, .row 5 (.int .u8) tx] => match cs.drop 33 with
    | [.lit (.int .i64 st), .lit (.string h), .sl 1 1 0 ni, .lit (.bool wr), .lit (.bool fi), .lit (.int .i64 mk), .sl 2 1 0 nn, .lit (.bool fu), .sl 3 1 0 nt, .lit (.slice none 0 0)] =>
      .need (cs = fedP ⟨st, strInts h, it, wr, fi, mk, nu, fu, tx⟩ 1 2 3 nilV ∧ KeptOK ⟨st, strInts h, it, wr, fi, mk, nu, fu, tx⟩) (.ret (.lit (.int .i64 ((it.length + nu.length + tx.length + h.size : Nat) : Int)), [.cells 46 cs, .row 5 (.int .u8) it, .row 3 (.int .i64) nu, .row 5 (.int .u8) tx], []))
    | _ => .fail
  | _, _ => .fail
theorem s19_ok : SummOK Tryz.prog 13 s19 := by
  refine summ_of_body (fn := Tryz.f13) (c := Tryz.f13.body.get!) U5_ok (by kernel_rfl) (by kernel_rfl) (by kernel_rfl) fun args H Q h => ?_
  unfold s19 at h
  split at h
  · split at h
    case h_2 => simp only [Tree.Leads] at h
    rename_i it nu tx _ st h' ni wr fi mk nn fu nt hcs
    simp only [Tree.Leads] at h
    obtain ⟨⟨rfl, hk⟩, hq⟩ := h
    refine ⟨noAn, v19 ⟨st, strInts h', it, wr, fi, mk, nu, fu, tx⟩ Q hk.le ?_⟩
    rw [show (⟨st, strInts h', it, wr, fi, mk, nu, fu, tx⟩ : PS).half = strInts h' from rfl, bsOf_strInts]; exact hq
  · simp only [Tree.Leads] at h
end T13
end
