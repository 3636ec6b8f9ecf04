/- Part of a proof: the walks of the functions that the law calls, and their plain laws; no condition. -/
import Derived.Test.YtlcobcpgaoeijaaGreatSxT
import Derived.Test.YtlcobcpgaoeijaaGreatM15
import Derived.Test.YtlcobcpgaoeijaaGreatM16
import Derived.Test.YtlcobcpgaoeijaaGreatM17
import Derived.Test.YtlcobcpgaoeijaaGreatM18
import Derived.Test.YtlcobcpgaoeijaaGreatM19
set_option linter.unusedVariables false
set_option linter.unusedSimpArgs false
section
open Go Sx Go.Proofs
namespace B13
open T13 (aty s13 s13_ok Few)
set_option maxRecDepth 100000
set_option maxHeartbeats 40000000
attribute [local irreducible] Tree.Leads
/-- A mark's name. -/
def nm (i k : Int) : ByteArray := bsOf [109, IntKind.u8.wrap (IntKind.i64.wrap (65 + i.tmod 26)), IntKind.u8.wrap (IntKind.i64.wrap (65 + (IntKind.i64.wrap (i.tdiv 26)).tmod 26)), IntKind.u8.wrap (IntKind.i64.wrap (48 + k.tmod 10)), IntKind.u8.wrap (IntKind.i64.wrap (48 + (IntKind.i64.wrap (k.tdiv 10)).tmod 10)), IntKind.u8.wrap (IntKind.i64.wrap (48 + (IntKind.i64.wrap (k.tdiv 100)).tmod 10))]
theorem v97 (i k : Int) (Q : SV × Heap × List Nat → Prop) (hq : Q (.lit (.string (nm i k)), [], [])) :
    (bodySumm Table.none Tryz.prog Tryz.f97 noAn [.lit (.int .i64 i), .lit (.int .i64 k)] []).Leads Q := by
  refine Sx.by_text (q :=
   ((26 : Int) = (0 : Int) → False) ∧ ((26 : Int) = (0 : Int) → False) ∧ ((26 : Int) = (0 : Int) → False) ∧ ((10 : Int) = (0 : Int) → False) ∧ ((10 : Int) = (0 : Int) →
   False) ∧ ((10 : Int) = (0 : Int) → False) ∧ ((100 : Int) = (0 : Int) → False) ∧ ((10 : Int) = (0 : Int) → False) ∧ 6 ≤ 6 ∧ Q (SV.lit (Value.string (Sx.bsOf [(109 : Int),
   IntKind.wrap IntKind.u8 (IntKind.wrap IntKind.i64 ((65 : Int) + Int.tmod i (26 : Int))), IntKind.wrap IntKind.u8 (IntKind.wrap IntKind.i64 ((65 : Int) + Int.tmod
   (IntKind.wrap IntKind.i64 (Int.tdiv i (26 : Int))) (26 : Int))), IntKind.wrap IntKind.u8 (IntKind.wrap IntKind.i64 ((48 : Int) + Int.tmod k (10 : Int))), IntKind.wrap
   IntKind.u8 (IntKind.wrap IntKind.i64 ((48 : Int) + Int.tmod (IntKind.wrap IntKind.i64 (Int.tdiv k (10 : Int))) (10 : Int))), IntKind.wrap IntKind.u8 (IntKind.wrap
   IntKind.i64 ((48 : Int) + Int.tmod (IntKind.wrap IntKind.i64 (Int.tdiv k (100 : Int))) (10 : Int)))])), ([] : List Sx.SO), [])) (by kernel_rfl) ?_
  exact ⟨by omega, by omega, by omega, by omega, by omega, by omega, by omega, by omega, by omega, hq⟩
noncomputable def s97 : Summ := fun args H => match args, H with
  | [.lit (.int .i64 i), .lit (.int .i64 k)], [] => .ret (.lit (.string (nm i k)), [], [])
  | _, _ => .fail
theorem s97_ok : SummOK Tryz.prog 97 s97 := by
  refine summ_of_body (fn := Tryz.f97) (c := Tryz.f97.body.get!) none_ok (by kernel_rfl) (by kernel_rfl) (by kernel_rfl) fun args H Q h => ?_
  unfold s97 at h
  split at h
  · simp only [Tree.Leads] at h
    exact ⟨_, v97 _ _ Q h⟩
  · simp only [Tree.Leads] at h
noncomputable def TN : Table := Table.none.add 97 (.go s97)
theorem TN_ok : TableOK Tryz.prog TN := add_ok none_ok s97_ok
def emptyB : ByteArray := ⟨#[]⟩
/-- A mark. -/
def mkA (i k : Int) : aty.den := (0, 0, 0, 0, [], emptyB, nm i k)
def marksA (i : Int) (k : Nat) : Nat → List aty.den
  | 0 => []
  | n + 1 => marksA i k n ++ [mkA i ((k + n : Nat) : Int)]
theorem marksA_len (i : Int) (k : Nat) : ∀ n, (marksA i k n).length = n
  | 0 => rfl
  | n + 1 => by simp only [marksA, List.length_append, marksA_len i k n]; rfl
noncomputable def A76 (i k n : Nat) : Ann := { live := [0, 1, 2, 7, 8], mv := [], nilS := [(7, 69, aty)], head := fun _ _ => { X := Nat, inv := fun j => ([.lit (.int .i64 i), .lit (.int .i64 k), .lit (.int .i64 n), .sl 0 7 0 j, .lit (.int .i64 ((k + j : Nat) : Int))], [.row 69 aty (marksA i k j)]), ok := fun j => j ≤ n, mu := fun j => n - j } }
theorem v76 (i k n : Nat) (Q : SV × Heap × List Nat → Prop) (hk : k ≤ 1000000) (hn : n ≤ 1000000) (hq : Q (.sl 0 7 0 n, [.row 69 aty (marksA i k n)], [])) : (bodySumm TN Tryz.prog Tryz.f76 (An1 0 (A76 i k n)) [.lit (.int .i64 i), .lit (.int .i64 k), .lit (.int .i64 n)] []).Leads Q := by
  refine Sx.by_text (q :=
   (∃ (u0 : Nat), ([SV.lit (Value.int IntKind.i64 (↑i : Int)), SV.lit (Value.int IntKind.i64 (↑k : Int)), SV.lit (Value.int IntKind.i64 (↑n : Int)), SV.sl 0 7 0 0, SV.lit
   (Value.int IntKind.i64 (↑k : Int))], [SO.row 69 T13.aty []]) = ([SV.lit (Value.int IntKind.i64 (↑i : Int)), SV.lit (Value.int IntKind.i64 (↑k : Int)), SV.lit (Value.int
   IntKind.i64 (↑n : Int)), SV.sl 0 7 0 u0, SV.lit (Value.int IntKind.i64 (↑(k + u0) : Int))], [SO.row 69 T13.aty (B13.marksA (↑i : Int) k u0)]) ∧ u0 ≤ n) ∧ ∀ (u1 : Nat), u1
   ≤ n → br (decide ((↑(k + u1) : Int) < IntKind.wrap IntKind.i64 ((↑k : Int) + (↑n : Int)))) (1 ≤ 1 ∧ br (decide (u1 + 1 ≤ List.length (B13.marksA (↑i : Int) k u1))) ((∃ (u2
   : Nat), ([SV.lit (Value.int IntKind.i64 (↑i : Int)), SV.lit (Value.int IntKind.i64 (↑k : Int)), SV.lit (Value.int IntKind.i64 (↑n : Int)), SV.sl 0 7 0 (u1 + 1), SV.lit
   (Value.int IntKind.i64 (IntKind.wrap IntKind.i64 ((↑(k + u1) : Int) + (1 : Int))))], [SO.row 69 T13.aty (List.take u1 (B13.marksA (↑i : Int) k u1) ++ [((0 : Int), (0 :
   Int), (0 : Int), (0 : Int), [], { data := #[] }, B13.nm (↑i : Int) (↑(k + u1) : Int))] ++ List.drop (u1 + 1) (B13.marksA (↑i : Int) k u1))]) = ([SV.lit (Value.int
   IntKind.i64 (↑i : Int)), SV.lit (Value.int IntKind.i64 (↑k : Int)), SV.lit (Value.int IntKind.i64 (↑n : Int)), SV.sl 0 7 0 u2, SV.lit (Value.int IntKind.i64 (↑(k + u2) :
   Int))], [SO.row 69 T13.aty (B13.marksA (↑i : Int) k u2)]) ∧ u2 ≤ n ∧ n - u2 < n - u1) ∧ True) (u1 ≤ List.length (B13.marksA (↑i : Int) k u1) ∧ ((↑(u1 + 1) : Int) ≤
   (9223372036854775807 : Int) ∧ (u1 + 1) * Sx.bytesOf Go.Proofs.Tryz.prog 69 ≤ 140737488355328) ∧ (∃ (u3 : Nat), ([SV.lit (Value.int IntKind.i64 (↑i : Int)), SV.lit
   (Value.int IntKind.i64 (↑k : Int)), SV.lit (Value.int IntKind.i64 (↑n : Int)), SV.sl 0 7 0 (u1 + 1), SV.lit (Value.int IntKind.i64 (IntKind.wrap IntKind.i64 ((↑(k + u1) :
   Int) + (1 : Int))))], [SO.row 69 T13.aty (List.take u1 (B13.marksA (↑i : Int) k u1) ++ [((0 : Int), (0 : Int), (0 : Int), (0 : Int), [], { data := #[] }, B13.nm (↑i : Int)
   (↑(k + u1) : Int))])]) = ([SV.lit (Value.int IntKind.i64 (↑i : Int)), SV.lit (Value.int IntKind.i64 (↑k : Int)), SV.lit (Value.int IntKind.i64 (↑n : Int)), SV.sl 0 7 0 u3,
   SV.lit (Value.int IntKind.i64 (↑(k + u3) : Int))], [SO.row 69 T13.aty (B13.marksA (↑i : Int) k u3)]) ∧ u3 ≤ n ∧ n - u3 < n - u1) ∧ True)) (Q (SV.sl 0 7 0 u1, [SO.row 69
   T13.aty (B13.marksA (↑i : Int) k u1)], []))) (by kernel_rfl) ?_
  have hb : bytesOf Tryz.prog 69 = 88 := by kernel_rfl
  have hml : ∀ (a : Int) (k n : Nat), (marksA a k n).length = n := marksA_len
  have hw : IntKind.i64.wrap ((k : Int) + n) = k + n := by rw [IntKind.wrap_i64]; omega
  refine ⟨⟨0, rfl, by omega⟩, fun j hj => br_intro (fun hlt => ?_) (fun hge => ?_)⟩
  · have hlt := of_decide_eq_true hlt
    rw [hw] at hlt
    rw [hml, hb]
    have e : IntKind.i64.wrap (((k + j : Nat) : Int) + 1) = ((k + (j + 1) : Nat) : Int) := by rw [IntKind.wrap_i64]; omega
    have e2 : (marksA (i : Int) k j).take j = marksA (i : Int) k j := List.take_of_length_le (by rw [hml]; exact Nat.le_refl _)
    rw [e, e2]
    exact ⟨by omega, br_intro (fun h => by have := of_decide_eq_true h; omega) (fun _ => ⟨by omega, ⟨by omega, by omega⟩, ⟨j + 1, rfl, by omega, by omega⟩, trivial⟩)⟩
  · have hge := of_decide_eq_false hge
    rw [hw] at hge
    have : j = n := by omega
    subst this
    exact hq
noncomputable def s76 : Summ := fun args H => match args, H with
  | [.lit (.int .i64 i), .lit (.int .i64 k), .lit (.int .i64 n)], [] => .need ((0 ≤ i ∧ 0 ≤ k ∧ 0 ≤ n) ∧ k ≤ 1000000 ∧ n ≤ 1000000) (.ret (.sl 0 7 0 n.toNat, [.row 69 aty (marksA i k.toNat n.toNat)], []))
  | _, _ => .fail
theorem s76_ok : SummOK Tryz.prog 76 s76 := by
  refine summ_of_body (fn := Tryz.f76) (c := Tryz.f76.body.get!) TN_ok (by kernel_rfl) (by kernel_rfl) (by kernel_rfl) fun args H Q h => ?_
  unfold s76 at h
  split at h
  · rename_i i k n
    simp only [Tree.Leads] at h
    obtain ⟨⟨⟨h1, h2, h3⟩, h4, h5⟩, hq⟩ := h
    obtain ⟨i, rfl⟩ : ∃ m : Nat, i = m := ⟨i.toNat, by omega⟩
    obtain ⟨k, rfl⟩ : ∃ m : Nat, k = m := ⟨k.toNat, by omega⟩
    obtain ⟨n, rfl⟩ : ∃ m : Nat, n = m := ⟨n.toNat, by omega⟩
    exact ⟨_, v76 i k n Q (by omega) (by omega) hq⟩
  · simp only [Tree.Leads] at h
structure MkOfA (i : Int) (k n : Nat) (l : List aty.den) : Prop where
  eq : l = marksA i k n
/-- Marks, under a name. -/
noncomputable def s76h : Summ := fun args H => match args, H with
  | [.lit (.int .i64 i), .lit (.int .i64 k), .lit (.int .i64 n)], [] => .need ((0 ≤ i ∧ 0 ≤ k ∧ 0 ≤ n) ∧ k ≤ 1000000 ∧ n ≤ 1000000) (.any (List aty.den) (MkOfA i k.toNat n.toNat) fun l => .ret (.sl 0 7 0 n.toNat, [.row 69 aty l], []))
  | _, _ => .fail
theorem s76h_ok : SummOK Tryz.prog 76 s76h := by
  refine summ_of_body (fn := Tryz.f76) (c := Tryz.f76.body.get!) TN_ok (by kernel_rfl) (by kernel_rfl) (by kernel_rfl) fun args H Q h => ?_
  unfold s76h at h
  split at h
  · rename_i i k n
    simp only [Tree.Leads] at h
    obtain ⟨⟨⟨h1, h2, h3⟩, h4, h5⟩, hq⟩ := h
    obtain ⟨i, rfl⟩ : ∃ m : Nat, i = m := ⟨i.toNat, by omega⟩
    obtain ⟨k, rfl⟩ : ∃ m : Nat, k = m := ⟨k.toNat, by omega⟩
    obtain ⟨n, rfl⟩ : ∃ m : Nat, n = m := ⟨n.toNat, by omega⟩
    exact ⟨_, v76 i k n Q (by omega) (by omega) (hq _ ⟨rfl⟩)⟩
  · simp only [Tree.Leads] at h
end B13
end
section
open Go Sx Go.Proofs
namespace B13
open T13 (aty s13 s13_ok Few)
set_option maxRecDepth 100000
set_option maxHeartbeats 40000000
attribute [local irreducible] Tree.Leads
noncomputable def s9 : Summ := fun args H => match args, H with
  | [.imm (Ty.pair (Ty.int IntKind.i64) (Ty.pair (Ty.int IntKind.i32) (Ty.pair (Ty.int IntKind.i64) (Ty.pair (Ty.int IntKind.i64) (Ty.pair (Ty.imm (Ty.int IntKind.i64)) (Ty.pair Ty.str Ty.str)))))) A, .imm (Ty.pair (Ty.int IntKind.i64) (Ty.pair (Ty.int IntKind.i32) (Ty.pair (Ty.int IntKind.i64) (Ty.pair (Ty.int IntKind.i64) (Ty.pair (Ty.imm (Ty.int IntKind.i64)) (Ty.pair Ty.str Ty.str)))))) B], [] => .need (A = B ∧ A.length ≤ 1000000 ∧ Few A) (.ret (.lit (.bool true), [], []))
  | [.sl 0 7 0 m, .sl 1 7 0 n], [.dview 69 3 (Ty.pair (Ty.int IntKind.i64) (Ty.pair (Ty.int IntKind.i32) (Ty.pair (Ty.int IntKind.i64) (Ty.pair (Ty.int IntKind.i64) (Ty.pair (Ty.imm (Ty.int IntKind.i64)) (Ty.pair Ty.str Ty.str)))))) A 2 j none, .row 69 (Ty.pair (Ty.int IntKind.i64) (Ty.pair (Ty.int IntKind.i32) (Ty.pair (Ty.int IntKind.i64) (Ty.pair (Ty.int IntKind.i64) (Ty.pair (Ty.imm (Ty.int IntKind.i64)) (Ty.pair Ty.str Ty.str)))))) B, .hold 3 (.int .i64) R] => .need (m = A.length ∧ n = B.length ∧ A = B ∧ A.length ≤ 1000000 ∧ Few A) (.ret (.lit (.bool true), [.dview 69 3 aty A 2 j none, .row 69 aty B, .hold 3 (.int .i64) R], []))
  | [.imm (Ty.pair (Ty.int IntKind.i64) (Ty.pair (Ty.int IntKind.i32) (Ty.pair (Ty.int IntKind.i64) (Ty.pair (Ty.int IntKind.i64) (Ty.pair (Ty.imm (Ty.int IntKind.i64)) (Ty.pair Ty.str Ty.str)))))) A, .sl 0 7 0 n], [.row 69 (Ty.pair (Ty.int IntKind.i64) (Ty.pair (Ty.int IntKind.i32) (Ty.pair (Ty.int IntKind.i64) (Ty.pair (Ty.int IntKind.i64) (Ty.pair (Ty.imm (Ty.int IntKind.i64)) (Ty.pair Ty.str Ty.str)))))) B] => .need (n = B.length ∧ A = B ∧ A.length ≤ 1000000 ∧ Few A) (.ret (.lit (.bool true), [.row 69 aty B], []))
  | _, _ => .fail
theorem s9_ok : SummOK Tryz.prog 9 s9 := by
  refine summ_of_body (fn := Tryz.f9) (c := Tryz.f9.body.get!) G0_ok (by kernel_rfl) (by kernel_rfl) (by kernel_rfl) fun args H Q h => ?_
  unfold s9 at h
  split at h
  · simp only [Tree.Leads] at h
    obtain ⟨⟨rfl, h1, h2⟩, hq⟩ := h
    exact ⟨_, same_i _ Q h1 h2 hq⟩
  · simp only [Tree.Leads] at h
    obtain ⟨⟨rfl, rfl, rfl, h1, h2⟩, hq⟩ := h
    exact ⟨_, same_d _ _ _ Q h1 h2 hq⟩
  · simp only [Tree.Leads] at h
    obtain ⟨⟨rfl, rfl, h1, h2⟩, hq⟩ := h
    exact ⟨_, same_r _ Q h1 h2 hq⟩
  · simp only [Tree.Leads] at h
noncomputable def G2 : Table := (Table.none.add 76 (.go s76)).add 9 (.go s9)
theorem G2_ok : TableOK Tryz.prog G2 := add_ok (add_ok none_ok s76_ok) s9_ok
theorem marksA_few (i : Int) (k : Nat) : ∀ n, ∀ x ∈ marksA i k n, x.2.2.2.2.1.length ≤ 1000000
  | 0, _, h => by cases h
  | n + 1, x, h => by
    rw [marksA] at h
    rcases List.mem_append.1 h with h | h
    · exact marksA_few i k n x h
    · have : x = mkA i ((k + n : Nat) : Int) := by simpa using h
      rw [this]; exact Nat.zero_le _
theorem getD_mem {α : Type} {l : List α} {i : Nat} (d : α) (h : i < l.length) : l.getD i d ∈ l := by
  rw [List.getD_eq_getElem?_getD, List.getElem?_eq_getElem h]; exact List.getElem_mem _
/-- Is each list as it was? -/
noncomputable def A27 (n : Nat) : Ann := { live := [0, 3], mv := [], head := fun vals H => match vals with | [a, _] => { X := Nat, inv := fun i => ([a, .lit (.int .i64 i)], H), ok := fun i => i ≤ n, mu := fun i => n - i } | _ => { X := Nat, inv := fun _ => ([], []), ok := fun _ => False, mu := fun _ => 0 } }
noncomputable abbrev zB13j_0 (LL : List (List Int)) (WW : List (List Int)) (AA : List (List aty.den)) := [SO.cells 62 [SV.lit (Value.slice Option.none 0 0), SV.lit (Value.slice Option.none 0 0), SV.sl 1 1 0 (List.length LL), SV.sl 2 1 0 (List.length WW), SV.lit (Value.slice Option.none 0 0), SV.lit (Value.slice Option.none 0 0), SV.lit (Value.slice Option.none 0 0), SV.lit (Value.slice Option.none 0 0), SV.sl 3 1 0 (List.length AA), SV.sl 4 1 0 (List.length AA), SV.lit (Value.slice Option.none 0 0), SV.lit (Value.slice Option.none 0 0), SV.lit (Value.slice Option.none 0 0), SV.lit (Value.slice Option.none 0 0), SV.lit (Value.slice Option.none 0 0), SV.lit (Value.slice Option.none 0 0)], SO.kept 22 3 (Ty.int IntKind.i64) LL, SO.row 22 (Ty.imm (Ty.int IntKind.i64)) WW, SO.kept 44 69 T13.aty AA, SO.row 44 (Ty.imm T13.aty) AA]
theorem v27 (LL WW : List (List Int)) (AA : List (List aty.den)) (Q : SV × Heap × List Nat → Prop) (hn : AA.length ≤ 1000) (hL : ∀ l ∈ AA, l.length ≤ 1000000 ∧ Few l)
    (hq : Q (.lit (.bool true), [.cells 62 (bk (.sl 1 1 0 LL.length) (.sl 2 1 0 WW.length) (.sl 3 1 0 AA.length) (.sl 4 1 0 AA.length)), .kept 22 3 (.int .i64) LL, .row 22 (.imm (.int .i64)) WW, .kept 44 69 aty AA, .row 44 (.imm aty) AA], [])) :
    (bodySumm G2 Tryz.prog Tryz.f27 (An1 0 (A27 AA.length)) [.ptr 0 0] [.cells 62 (bk (.sl 1 1 0 LL.length) (.sl 2 1 0 WW.length) (.sl 3 1 0 AA.length) (.sl 4 1 0 AA.length)), .kept 22 3 (.int .i64) LL, .row 22 (.imm (.int .i64)) WW, .kept 44 69 aty AA, .row 44 (.imm aty) AA]).Leads Q := by
  refine Sx.by_text (q :=
   (∃ (u0 : Nat), ([SV.ptr 0 0, SV.lit (Value.int IntKind.i64 (0 : Int))], (zB13j_0 LL WW AA)) = ([SV.ptr 0 0, SV.lit (Value.int IntKind.i64 (↑u0 : Int))], (zB13j_0 LL WW
   AA)) ∧ u0 ≤ List.length AA) ∧ ∀ (u1 : Nat), u1 ≤ List.length AA → br (decide ((↑u1 : Int) < (↑(List.length AA) : Int))) (((0 : Int) ≤ (↑u1 : Int) ∧ (↑u1 : Int) <
   (↑(List.length AA) : Int)) ∧ 0 + u1 < List.length AA ∧ ((0 : Int) ≤ (↑u1 : Int) ∧ (↑u1 : Int) < (↑(List.length AA) : Int)) ∧ 0 + u1 < List.length AA ∧ (List.getD AA (0 +
   u1) (Ty.dflt (Ty.imm T13.aty)) = List.getD AA (0 + u1) (Ty.dflt (Ty.imm T13.aty)) ∧ List.length (List.getD AA (0 + u1) (Ty.dflt (Ty.imm T13.aty))) ≤ 1000000 ∧ ∀ (u2 :
   Ty.den T13.aty), u2 ∈ List.getD AA (0 + u1) (Ty.dflt (Ty.imm T13.aty)) → List.length (Prod.fst (Prod.snd (Prod.snd (Prod.snd (Prod.snd u2))))) ≤ 1000000) ∧ (∃ (u3 : Nat),
   ([SV.ptr 0 0, SV.lit (Value.int IntKind.i64 (IntKind.wrap IntKind.i64 ((↑u1 : Int) + (1 : Int))))], (zB13j_0 LL WW AA)) = ([SV.ptr 0 0, SV.lit (Value.int IntKind.i64 (↑u3
   : Int))], (zB13j_0 LL WW AA)) ∧ u3 ≤ List.length AA ∧ List.length AA - u3 < List.length AA - u1) ∧ True) (Q (SV.lit (Value.bool true), (zB13j_0 LL WW AA), []))) (by kernel_rfl) ?_
  delta zB13j_0
  refine ⟨⟨0, rfl, by omega⟩, fun i hi => br_intro (fun hlt => ?_) (fun hge => hq)⟩
  have hlt := of_decide_eq_true hlt
  have hm := hL _ (getD_mem (i := 0 + i) aty.imm.dflt (show 0 + i < AA.length by omega))
  refine ⟨by omega, by omega, by omega, by omega, ⟨rfl, hm.1, hm.2⟩, ⟨i + 1, ?_, by omega, by omega⟩, trivial⟩
  rw [wrap1 i (by omega)]
noncomputable def s27 : Summ := fun args H => match args, H with
  | [.ptr 0 0], [.cells 62 cs, .kept 22 3 (.int .i64) LL, .row 22 (.imm (.int .i64)) WW, .kept 44 69 (Ty.pair (Ty.int IntKind.i64) (Ty.pair (Ty.int IntKind.i32) (Ty.pair (Ty.int IntKind.i64) (Ty.pair (Ty.int IntKind.i64) (Ty.pair (Ty.imm (Ty.int IntKind.i64)) (Ty.pair Ty.str Ty.str)))))) AA, .row 44 (.imm (Ty.pair (Ty.int IntKind.i64) (Ty.pair (Ty.int IntKind.i32) (Ty.pair (Ty.int IntKind.i64) (Ty.pair (Ty.int IntKind.i64) (Ty.pair (Ty.imm (Ty.int IntKind.i64)) (Ty.pair Ty.str Ty.str))))))) WA] => .need ((AA = WA ∧ AA.length ≤ 1000 ∧ (∀ l ∈ AA, l.length ≤ 1000000 ∧ Few l)) ∧ cs = bk (.sl 1 1 0 LL.length) (.sl 2 1 0 WW.length) (.sl 3 1 0 AA.length) (.sl 4 1 0 WA.length))
      (.ret (.lit (.bool true), [.cells 62 cs, .kept 22 3 (.int .i64) LL, .row 22 (.imm (.int .i64)) WW, .kept 44 69 aty AA, .row 44 (.imm aty) WA], []))
  | _, _ => .fail
theorem s27_ok : SummOK Tryz.prog 27 s27 := by
  refine summ_of_body (fn := Tryz.f27) (c := Tryz.f27.body.get!) G2_ok (by kernel_rfl) (by kernel_rfl) (by kernel_rfl) fun args H Q h => ?_
  unfold s27 at h
  split at h
  · rename_i cs LL WW AA WA
    simp only [Tree.Leads] at h
    obtain ⟨⟨⟨rfl, h2, h3⟩, rfl⟩, hq⟩ := h
    exact ⟨_, v27 LL WW AA Q h2 h3 hq⟩
  · simp only [Tree.Leads] at h
/-- Are these all marks? -/
noncomputable abbrev zB13j_1 (G : List (List aty.den)) (u1 : Nat) := (List.getD G (0 + u1) (Ty.dflt (Ty.imm T13.aty)))
theorem v51 (G : List (List aty.den)) (Q : SV × Heap × List Nat → Prop) (hn : G.length ≤ 1000) (hL : ∀ l ∈ G, l.length ≤ 1000000) (hm : ∀ (i : Nat) (h : i < G.length), G[i] = marksA i 0 G[i].length)
    (hq : Q (.lit (.bool true), [.row 44 (.imm aty) G], [])) :
    (bodySumm G2 Tryz.prog Tryz.f51 (An1 0 (A27 G.length)) [.sl 0 1 0 G.length] [.row 44 (.imm aty) G]).Leads Q := by
  refine Sx.by_text (q :=
   (∃ (u0 : Nat), ([SV.sl 0 1 0 (List.length G), SV.lit (Value.int IntKind.i64 (0 : Int))], [SO.row 44 (Ty.imm T13.aty) G]) = ([SV.sl 0 1 0 (List.length G), SV.lit (Value.int
   IntKind.i64 (↑u0 : Int))], [SO.row 44 (Ty.imm T13.aty) G]) ∧ u0 ≤ List.length G) ∧ ∀ (u1 : Nat), u1 ≤ List.length G → br (decide ((↑u1 : Int) < (↑(List.length G) : Int)))
   (((0 : Int) ≤ (↑u1 : Int) ∧ (↑u1 : Int) < (↑(List.length G) : Int)) ∧ ((0 : Int) ≤ (↑u1 : Int) ∧ (↑u1 : Int) < (↑(List.length G) : Int)) ∧ 0 + u1 < List.length G ∧ ∀ (u2 :
   Bool), True → br u2 (0 + u1 < List.length G ∧ (((0 : Int) ≤ (↑u1 : Int) ∧ (0 : Int) ≤ (0 : Int) ∧ (0 : Int) ≤ (↑(List.length (zB13j_1 G u1)) : Int)) ∧ (0 : Int) ≤ (1000000
   : Int) ∧ (↑(List.length (zB13j_1 G u1)) : Int) ≤ (1000000 : Int)) ∧ (List.length (zB13j_1 G u1) = List.length (B13.marksA (↑u1 : Int) 0 (List.length (zB13j_1 G u1))) ∧
   List.getD G (0 + u1) (Ty.dflt (Ty.imm T13.aty)) = B13.marksA (↑u1 : Int) 0 (List.length (zB13j_1 G u1)) ∧ List.length (zB13j_1 G u1) ≤ 1000000 ∧ ∀ (u3 : Ty.den T13.aty),
   u3 ∈ List.getD G (0 + u1) (Ty.dflt (Ty.imm T13.aty)) → List.length (Prod.fst (Prod.snd (Prod.snd (Prod.snd (Prod.snd u3))))) ≤ 1000000) ∧ (∃ (u4 : Nat), ([SV.sl 0 1 0
   (List.length G), SV.lit (Value.int IntKind.i64 (IntKind.wrap IntKind.i64 ((↑u1 : Int) + (1 : Int))))], [SO.row 44 (Ty.imm T13.aty) G]) = ([SV.sl 0 1 0 (List.length G),
   SV.lit (Value.int IntKind.i64 (↑u4 : Int))], [SO.row 44 (Ty.imm T13.aty) G]) ∧ u4 ≤ List.length G ∧ List.length G - u4 < List.length G - u1) ∧ True) ((((0 : Int) ≤ (↑u1 :
   Int) ∧ (0 : Int) ≤ (0 : Int) ∧ (0 : Int) ≤ (↑(List.length (zB13j_1 G u1)) : Int)) ∧ (0 : Int) ≤ (1000000 : Int) ∧ (↑(List.length (zB13j_1 G u1)) : Int) ≤ (1000000 : Int))
   ∧ 0 + u1 < List.length G ∧ (List.length (zB13j_1 G u1) = List.length (B13.marksA (↑u1 : Int) 0 (List.length (zB13j_1 G u1))) ∧ List.getD G (0 + u1) (Ty.dflt (Ty.imm
   T13.aty)) = B13.marksA (↑u1 : Int) 0 (List.length (zB13j_1 G u1)) ∧ List.length (zB13j_1 G u1) ≤ 1000000 ∧ ∀ (u5 : Ty.den T13.aty), u5 ∈ List.getD G (0 + u1) (Ty.dflt
   (Ty.imm T13.aty)) → List.length (Prod.fst (Prod.snd (Prod.snd (Prod.snd (Prod.snd u5))))) ≤ 1000000) ∧ (∃ (u6 : Nat), ([SV.sl 0 1 0 (List.length G), SV.lit (Value.int
   IntKind.i64 (IntKind.wrap IntKind.i64 ((↑u1 : Int) + (1 : Int))))], [SO.row 44 (Ty.imm T13.aty) G]) = ([SV.sl 0 1 0 (List.length G), SV.lit (Value.int IntKind.i64 (↑u6 :
   Int))], [SO.row 44 (Ty.imm T13.aty) G]) ∧ u6 ≤ List.length G ∧ List.length G - u6 < List.length G - u1) ∧ True)) (Q (SV.lit (Value.bool true), [SO.row 44 (Ty.imm T13.aty)
   G], []))) (by kernel_rfl) ?_
  delta zB13j_1
  refine ⟨⟨0, rfl, by omega⟩, fun i hi => br_intro (fun hlt => ?_) (fun _ => hq)⟩
  have hlt := of_decide_eq_true hlt
  have hi2 : i < G.length := by omega
  have eg : G.getD (0 + i) (Ty.imm aty).dflt = G[i] := by rw [Nat.zero_add, List.getD_eq_getElem?_getD, List.getElem?_eq_getElem hi2]; rfl
  rw [eg]
  have h1 := hL _ (List.getElem_mem hi2)
  have h2 := hm i hi2
  have h3 : ∀ x ∈ G[i], x.2.2.2.2.1.length ≤ 1000000 := by rw [h2]; exact marksA_few _ _ _
  generalize G[i] = R at *
  have hl2 := marksA_len (i : Int) 0 R.length
  have e := wrap1 i (by omega)
  exact ⟨by omega, by omega, by omega, fun b _ => br_intro (fun _ => ⟨by omega, by omega, ⟨by omega, h2, h1, h3⟩, ⟨i + 1, by rw [e], by omega, by omega⟩, trivial⟩) (fun _ => ⟨by omega, by omega, ⟨by omega, h2, h1, h3⟩, ⟨i + 1, by rw [e], by omega, by omega⟩, trivial⟩)⟩
noncomputable def s51 : Summ := fun args H => match args, H with
  | [.sl 0 1 0 n], [.row 44 (.imm (Ty.pair (Ty.int IntKind.i64) (Ty.pair (Ty.int IntKind.i32) (Ty.pair (Ty.int IntKind.i64) (Ty.pair (Ty.int IntKind.i64) (Ty.pair (Ty.imm (Ty.int IntKind.i64)) (Ty.pair Ty.str Ty.str))))))) G] => .need (n = G.length ∧ (G.length ≤ 1000 ∧ ∀ l ∈ G, l.length ≤ 1000000) ∧ ∀ (i : Nat) (h : i < G.length), G[i] = marksA i 0 G[i].length) (.ret (.lit (.bool true), [.row 44 (.imm aty) G], []))
  | _, _ => .fail
theorem s51_ok : SummOK Tryz.prog 51 s51 := by
  refine summ_of_body (fn := Tryz.f51) (c := Tryz.f51.body.get!) G2_ok (by kernel_rfl) (by kernel_rfl) (by kernel_rfl) fun args H Q h => ?_
  unfold s51 at h
  split at h
  · rename_i n G
    simp only [Tree.Leads] at h
    obtain ⟨⟨rfl, ⟨h1, h2⟩, h3⟩, hq⟩ := h
    exact ⟨_, v51 G Q h1 h2 h3 hq⟩
  · simp only [Tree.Leads] at h
end B13
end
