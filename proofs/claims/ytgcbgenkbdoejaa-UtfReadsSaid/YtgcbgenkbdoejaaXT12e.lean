/- Part of a proof: the walk of the functions that the law calls. -/
import Derived.Test.YtgcbgenkbdoejaaSxT
import Derived.Test.YtgcbgenkbdoejaaXT12d
set_option linter.unusedVariables false
open Go Sx Go.Proofs
namespace T12
set_option maxRecDepth 100000
set_option maxHeartbeats 1000000
attribute [local irreducible] Tree.Leads
theorem v9 (Q : SV × Heap × List Nat → Prop) (hq : Q (.lit (.bool true), [], [])) : (bodySumm T5 Try.prog Try.f9 noAn [] []).Leads Q := by
  refine Sx.by_text (q :=
      (True ∧ (2 : Nat) ≤ (2 : Nat) ∧ (5 : Nat) ≤ (900000 : Nat) ∧ (2 : Nat) ≤ (1000000 : Nat)) ∧ ((0 : Int) ≤ (0 : Int) ∧ (0 : Int) < (↑(3 : Nat) : Int)) ∧ (0 : Nat) < (3 :
      Nat) ∧ ((0 : Int) ≤ (1 : Int) ∧ (1 : Int) < (↑(3 : Nat) : Int)) ∧ (1 : Nat) < (3 : Nat) ∧ ((0 : Int) ≤ (2 : Int) ∧ (2 : Int) < (↑(3 : Nat) : Int)) ∧ (2 : Nat) < (3 : Nat)
      ∧ ((1 : Nat) ≤ (1 : Nat) ∧ (1 : Nat) ≤ (1000 : Nat) ∧ ∀ (x : Sx.Ty.den (Sx.Ty.int Go.IntKind.i32)), x ∈ [(8364 : Int)] → (-2147483648 : Sx.Ty.den (Sx.Ty.int
      Go.IntKind.i32)) ≤ x ∧ x ≤ (2147483647 : Sx.Ty.den (Sx.Ty.int Go.IntKind.i32))) ∧ Q (Sx.SV.lit (Go.Value.bool Bool.true), ([] : List Sx.SO), [])) (by kernel_rfl) ?_
  refine ⟨⟨trivial, by omega, by omega, by omega⟩, by omega, by omega, by omega, by omega, by omega, by omega, ⟨by omega, by omega, fun x hx => ?_⟩, hq⟩
  have : x = 8364 := by simpa using hx
  subst this
  exact ⟨by decide, by decide⟩
noncomputable def s9 : Summ := fun args H => match args, H with
  | [], [] => .ret (.lit (.bool true), [], [])
  | _, _ => .fail
theorem s9_ok : SummOK Try.prog 9 s9 := by
  refine summ_of_body (fn := Try.f9) (c := Try.f9.body.get!) T5_ok (by kernel_rfl) (by kernel_rfl) (by kernel_rfl) fun args H Q h => ?_
  unfold s9 at h
  split at h
  · simp only [Tree.Leads] at h
    exact ⟨noAn, v9 Q h⟩
  · simp only [Tree.Leads] at h
structure SizeOK (l : List ByteArray) : Prop where
  le : (flat l).length ≤ 900000
structure Fed (h : ByteArray) (l : List ByteArray) (r : List Int × ByteArray) : Prop where
  out : r.1 = (feed (strInts h) (flat l)).1
  left : strInts r.2 = (feed (strInts h) (flat l)).2
/-- Feed, whose answer is named. -/
noncomputable def s14v : Summ := fun args H => match args, H with
  | [.ptr 0 0, .sl 1 1 0 m], [.cells 29 [.lit (.string h)], .row 9 .str S] => .need (Good (strInts h) ∧ m ≤ S.length ∧ SizeOK (S.take m) ∧ m ≤ 1000000) (.any (List Int × ByteArray) (fun r => Fed h (S.take m) r) fun r => .ret (.sl 2 1 0 r.1.length, [.cells 29 [.lit (.string r.2)], .row 9 .str S, .row 21 (.int .i32) r.1], []))
  | _, _ => .fail
theorem s14v_ok : SummOK Try.prog 14 s14v := by
  refine summ_of_body (fn := Try.f14) (c := Try.f14.body.get!) T3_ok (by kernel_rfl) (by kernel_rfl) (by kernel_rfl) fun args H Q h => ?_
  unfold s14v at h
  split at h
  · rename_i m h' S
    simp only [Tree.Leads] at h
    obtain ⟨⟨h1, h2, h3, h4⟩, hq⟩ := h
    exact ⟨_, v14 h' S m Q h1 h2 h3.le h4 (hq ((feed (strInts h') (flat (S.take m))).1, bsOf (feed (strInts h') (flat (S.take m))).2) ⟨rfl, strInts_bsOf (good_bytes (good_feed h1 _))⟩)⟩
  · simp only [Tree.Leads] at h
noncomputable def T6 : Table := (T5.add 9 (.go s9)).add 14 (.go s14v)
theorem T6_ok : TableOK Try.prog T6 := add_ok (add_ok T5_ok s9_ok) s14v_ok
noncomputable def A8 : Ann := { live := [0, 3, 4], mv := [], head := fun vals _ => match vals with | [.lit (.string s), _, _] => { X := Nat, inv := fun i => ([.lit (.string s), .ptr 0 0, .lit (.int .i64 i)], [.cells 29 [.lit (.string ByteArray.empty)]]), ok := fun i => i ≤ s.size, mu := fun i => s.size - i } | _ => { X := Nat, inv := fun _ => ([], []), ok := fun _ => False, mu := fun _ => 0 } }
theorem v8 (s : ByteArray) (Q : SV × Heap × List Nat → Prop) (hq : Q (.lit (.bool true), [], [])) : (bodySumm T6 Try.prog Try.f8 (An1 0 A8) [.lit (.string s)] []).Leads Q := by
  refine Sx.by_text (q :=
      Sx.br (Decidable.decide ((↑(ByteArray.size s) : Int) > (500 : Int))) (Q (Sx.SV.lit (Go.Value.bool Bool.true), ([] : List Sx.SO), [])) ((∃ (x : Nat), ([Sx.SV.lit
      (Go.Value.string s), Sx.SV.ptr (0 : Nat) (0 : Nat), Sx.SV.lit (Go.Value.int Go.IntKind.i64 (0 : Int))], [Sx.SO.cells (29 : Nat) [Sx.SV.lit (Go.Value.string { data := #[]
      })]]) = ([Sx.SV.lit (Go.Value.string s), Sx.SV.ptr (0 : Nat) (0 : Nat), Sx.SV.lit (Go.Value.int Go.IntKind.i64 (↑x : Int))], [Sx.SO.cells (29 : Nat) [Sx.SV.lit
      (Go.Value.string ByteArray.empty)]]) ∧ x ≤ ByteArray.size s) ∧ ∀ (b : Nat), b ≤ ByteArray.size s → Sx.br (Decidable.decide ((↑b : Int) < (↑(ByteArray.size s) : Int))) (((0
      : Int) ≤ (↑b : Int) ∧ (↑b : Int) < (↑(ByteArray.size s) : Int)) ∧ (1 : Nat) ≤ (1 : Nat) ∧ (True ∧ (1 : Nat) ≤ (1 : Nat) ∧ T12.SizeOK [Sx.bsOf [Go.IntKind.wrap
      Go.IntKind.u8 (↑(BitVec.toNat (BitVec.ofInt (Go.IntKind.bits Go.IntKind.u8) (Sx.byteAt s (↑b : Int)) &&& BitVec.ofInt (Go.IntKind.bits Go.IntKind.u8) (127 : Int))) :
      Int)]] ∧ (1 : Nat) ≤ (1000000 : Nat)) ∧ ∀ (b_1 : List Int × ByteArray), T12.Fed ByteArray.empty [Sx.bsOf [Go.IntKind.wrap Go.IntKind.u8 (↑(BitVec.toNat (BitVec.ofInt
      (Go.IntKind.bits Go.IntKind.u8) (Sx.byteAt s (↑b : Int)) &&& BitVec.ofInt (Go.IntKind.bits Go.IntKind.u8) (127 : Int))) : Int)]] b_1 → Sx.br ((↑(List.length (Prod.fst
      b_1)) : Int) != (1 : Int)) (Q (Sx.SV.lit (Go.Value.bool Bool.false), ([] : List Sx.SO), [])) (((0 : Int) ≤ (0 : Int) ∧ (0 : Int) < (↑(List.length (Prod.fst b_1)) : Int)) ∧
      (0 : Nat) < List.length (Prod.fst b_1) ∧ Sx.br (List.getD (Prod.fst b_1) (0 : Nat) (Sx.Ty.dflt (Sx.Ty.int Go.IntKind.i32)) != Go.IntKind.wrap Go.IntKind.i32
      (Go.IntKind.wrap Go.IntKind.u8 (↑(BitVec.toNat (BitVec.ofInt (Go.IntKind.bits Go.IntKind.u8) (Sx.byteAt s (↑b : Int)) &&& BitVec.ofInt (Go.IntKind.bits Go.IntKind.u8) (127
      : Int))) : Int))) (Q (Sx.SV.lit (Go.Value.bool Bool.false), ([] : List Sx.SO), [])) (Sx.br ((↑(ByteArray.size (Prod.snd b_1)) : Int) != (0 : Int)) (Q (Sx.SV.lit
      (Go.Value.bool Bool.false), ([] : List Sx.SO), [])) ((∃ (x' : Nat), ([Sx.SV.lit (Go.Value.string s), Sx.SV.ptr (0 : Nat) (0 : Nat), Sx.SV.lit (Go.Value.int Go.IntKind.i64
      (Go.IntKind.wrap Go.IntKind.i64 ((↑b : Int) + (1 : Int))))], [Sx.SO.cells (29 : Nat) [Sx.SV.lit (Go.Value.string (Prod.snd b_1))]]) = ([Sx.SV.lit (Go.Value.string s),
      Sx.SV.ptr (0 : Nat) (0 : Nat), Sx.SV.lit (Go.Value.int Go.IntKind.i64 (↑x' : Int))], [Sx.SO.cells (29 : Nat) [Sx.SV.lit (Go.Value.string ByteArray.empty)]]) ∧ x' ≤
      ByteArray.size s ∧ ByteArray.size s - x' < ByteArray.size s - b) ∧ True)))) (Q (Sx.SV.lit (Go.Value.bool Bool.true), ([] : List Sx.SO), [])))) (by kernel_rfl) ?_
  refine br_intro (fun _ => hq) (fun h0 => ⟨⟨0, rfl, by omega⟩, fun i hi => br_intro (fun hlt => ?_) (fun hge => hq)⟩)
  have h0 := of_decide_eq_false h0
  have hlt := of_decide_eq_true hlt
  obtain ⟨_, hbyte⟩ := byteAt_take s i (by omega)
  have hc : IntKind.u8.wrap ((BitVec.ofInt IntKind.u8.bits (byteAt s i) &&& BitVec.ofInt IntKind.u8.bits 127).toNat : Nat) = byteAt s i % 128 := by
    generalize byteAt s i = x at *
    obtain ⟨n, rfl⟩ : ∃ n : Nat, x = n := ⟨x.toNat, by have := hbyte.1; omega⟩
    have := bv_and 8 7 n (by have := hbyte.2; omega) (by decide)
    have e : (BitVec.ofInt IntKind.u8.bits (n : Int) &&& BitVec.ofInt IntKind.u8.bits 127).toNat = n % 128 := this
    rw [e, IntKind.wrap_u8]; omega
  rw [hc]
  generalize hcc : byteAt s i % 128 = c
  have hc1 : 0 ≤ c ∧ c < 128 := by omega
  have hcw : IntKind.i32.wrap c = c := by rw [IntKind.wrap_i32]; omega
  rw [hcw]
  have hfl : flat [bsOf [c]] = [c] := by
    simp only [flat, List.flatMap_cons, List.flatMap_nil, List.append_nil]
    exact strInts_bsOf (fun x hx => by simp at hx; subst hx; exact ⟨hc1.1, by omega⟩)
  refine ⟨by omega, by omega, ⟨trivial, by omega, ⟨by rw [hfl]; simp⟩, by omega⟩, fun r hr => ?_⟩
  obtain ⟨e1, e2⟩ := hr
  have e0 : strInts ByteArray.empty = [] := rfl
  rw [hfl, e0, feed_plain hc1.2] at e1 e2
  rw [e1]
  have e3 : r.2 = ByteArray.empty := by rw [← bsOf_strInts r.2, e2]; rfl
  rw [e3]
  refine br_intro (fun g => by simp at g) (fun _ => ⟨by simp, by simp, br_intro (fun g => by simp at g) (fun _ => br_intro (fun g => by cases g) (fun _ => ⟨⟨i + 1, ?_, by omega, by omega⟩, trivial⟩))⟩)
  rw [wrap1 i (by omega)]
theorem flat_one (s : ByteArray) : flat [s] = strInts s := by simp only [flat, List.flatMap_cons, List.flatMap_nil, List.append_nil]
theorem key (Q : SV × Heap × List Nat → Prop) (hq : Q (.lit (.bool true), [], [])) (k : Nat) (M T : List Int) (h1 : M.drop k = T) (h2 : k ≤ M.length) (h3 : M.length ≤ 1000000) (r : List Int) (h : r = T) :
    (k + (M.length - k) ≤ M.length ∧ 0 + r.length ≤ r.length ∧ M.length - k ≤ 1000000) ∧ Q (.lit (.bool (decide ((M.drop k).take (M.length - k) = (r.drop 0).take r.length))), [], []) := by
  subst h
  refine ⟨⟨by omega, by omega, by omega⟩, ?_⟩
  have e : r.length = M.length - k := by rw [← h1, List.length_drop]
  rw [h1, ← e, List.drop_zero, decide_eq_true (p := List.take r.length r = List.take r.length r) rfl]
  exact hq
theorem v4 (a b : ByteArray) (Q : SV × Heap × List Nat → Prop) (hq : Q (.lit (.bool true), [], [])) : (bodySumm T6 Try.prog Try.f4 noAn [.lit (.string a), .lit (.string b)] []).Leads Q := by
  refine Sx.by_text (q :=
      Sx.br (Decidable.decide ((↑(ByteArray.size a) : Int) > (600 : Int))) (Q (Sx.SV.lit (Go.Value.bool Bool.true), ([] : List Sx.SO), [])) (Sx.br (Decidable.decide
      ((↑(ByteArray.size b) : Int) > (300 : Int))) (Q (Sx.SV.lit (Go.Value.bool Bool.true), ([] : List Sx.SO), [])) ((True ∧ (1 : Nat) ≤ (1 : Nat) ∧ T12.SizeOK [a] ∧ (1 : Nat) ≤
      (1000000 : Nat)) ∧ ∀ (b_1 : List Int × ByteArray), T12.Fed { data := #[] } [a] b_1 → (T12.Good (Sx.strInts (Prod.snd b_1)) ∧ (2 : Nat) ≤ (2 : Nat) ∧ T12.SizeOK [{ data :=
      #[(124 : UInt8)] }, b] ∧ (2 : Nat) ≤ (1000000 : Nat)) ∧ ∀ (b_2 : List Int × ByteArray), T12.Fed (Prod.snd b_1) [{ data := #[(124 : UInt8)] }, b] b_2 → Sx.br
      (Decidable.decide ((↑(List.length (Prod.fst b_1)) : Int) > (↑(ByteArray.size a) : Int))) (Q (Sx.SV.lit (Go.Value.bool Bool.false), ([] : List Sx.SO), [])) (Sx.br
      (Decidable.decide ((↑(List.length (Prod.fst b_2)) : Int) < (1 : Int))) (Q (Sx.SV.lit (Go.Value.bool Bool.false), ([] : List Sx.SO), [])) (((0 : Int) ≤ (0 : Int) ∧ (0 :
      Int) < (↑(List.length (Prod.fst b_2)) : Int)) ∧ (0 : Nat) < List.length (Prod.fst b_2) ∧ Sx.br (List.getD (Prod.fst b_2) (0 : Nat) (Sx.Ty.dflt (Sx.Ty.int Go.IntKind.i32))
      != (124 : Int)) (((0 : Int) ≤ (0 : Int) ∧ (0 : Int) < (↑(List.length (Prod.fst b_2)) : Int)) ∧ (0 : Nat) < List.length (Prod.fst b_2) ∧ Sx.br (List.getD (Prod.fst b_2) (0
      : Nat) (Sx.Ty.dflt (Sx.Ty.int Go.IntKind.i32)) != (65533 : Int)) (Q (Sx.SV.lit (Go.Value.bool Bool.false), ([] : List Sx.SO), [])) (Sx.br (Decidable.decide ((↑(List.length
      (Prod.fst b_2)) : Int) < (2 : Int))) (Q (Sx.SV.lit (Go.Value.bool Bool.false), ([] : List Sx.SO), [])) (((0 : Int) ≤ (1 : Int) ∧ (1 : Int) < (↑(List.length (Prod.fst b_2))
      : Int)) ∧ (1 : Nat) < List.length (Prod.fst b_2) ∧ Sx.br (List.getD (Prod.fst b_2) (1 : Nat) (Sx.Ty.dflt (Sx.Ty.int Go.IntKind.i32)) == (124 : Int)) (∀ (b_3 : Bool), True
      → Sx.br b_3 (True ∧ ((0 : Int) ≤ Go.IntKind.wrap Go.IntKind.i64 ((1 : Int) + (1 : Int)) ∧ Go.IntKind.wrap Go.IntKind.i64 ((1 : Int) + (1 : Int)) ≤ (↑(List.length (Prod.fst
      b_2)) : Int)) ∧ (True ∧ (1 : Nat) ≤ (1 : Nat) ∧ T12.SizeOK [b] ∧ (1 : Nat) ≤ (1000000 : Nat)) ∧ ∀ (b_4 : List Int × ByteArray), T12.Fed { data := #[] } [b] b_4 → ((2 :
      Nat) + (List.length (Prod.fst b_2) - (2 : Nat)) ≤ List.length (Prod.fst b_2) ∧ (0 : Nat) + List.length (Prod.fst b_4) ≤ List.length (Prod.fst b_4) ∧ List.length (Prod.fst
      b_2) - (2 : Nat) ≤ (1000000 : Nat)) ∧ Q (Sx.SV.lit (Go.Value.bool (Decidable.decide (List.take (List.length (Prod.fst b_2) - (2 : Nat)) (List.drop (2 : Nat) (Prod.fst
      b_2)) = List.take (List.length (Prod.fst b_4)) (List.drop (0 : Nat) (Prod.fst b_4))))), ([] : List Sx.SO), [])) (∀ (b_4 : Bool), True → Sx.br b_4 (True ∧ ((0 : Int) ≤
      Go.IntKind.wrap Go.IntKind.i64 ((1 : Int) + (1 : Int)) ∧ Go.IntKind.wrap Go.IntKind.i64 ((1 : Int) + (1 : Int)) ≤ (↑(List.length (Prod.fst b_2)) : Int)) ∧ (True ∧ (1 :
      Nat) ≤ (1 : Nat) ∧ T12.SizeOK [b] ∧ (1 : Nat) ≤ (1000000 : Nat)) ∧ ∀ (b_5 : List Int × ByteArray), T12.Fed { data := #[] } [b] b_5 → ((2 : Nat) + (List.length (Prod.fst
      b_2) - (2 : Nat)) ≤ List.length (Prod.fst b_2) ∧ (0 : Nat) + List.length (Prod.fst b_5) ≤ List.length (Prod.fst b_5) ∧ List.length (Prod.fst b_2) - (2 : Nat) ≤ (1000000 :
      Nat)) ∧ Q (Sx.SV.lit (Go.Value.bool (Decidable.decide (List.take (List.length (Prod.fst b_2) - (2 : Nat)) (List.drop (2 : Nat) (Prod.fst b_2)) = List.take (List.length
      (Prod.fst b_5)) (List.drop (0 : Nat) (Prod.fst b_5))))), ([] : List Sx.SO), [])) ((True ∧ (1 : Nat) ≤ (1 : Nat) ∧ T12.SizeOK [b] ∧ (1 : Nat) ≤ (1000000 : Nat)) ∧ ∀ (b_5 :
      List Int × ByteArray), T12.Fed { data := #[] } [b] b_5 → True ∧ ((0 : Int) ≤ Go.IntKind.wrap Go.IntKind.i64 ((1 : Int) + (1 : Int)) ∧ Go.IntKind.wrap Go.IntKind.i64 ((1 :
      Int) + (1 : Int)) ≤ (↑(List.length (Prod.fst b_2)) : Int)) ∧ ((2 : Nat) + (List.length (Prod.fst b_2) - (2 : Nat)) ≤ List.length (Prod.fst b_2) ∧ (0 : Nat) + List.length
      (Prod.fst b_5) ≤ List.length (Prod.fst b_5) ∧ List.length (Prod.fst b_2) - (2 : Nat) ≤ (1000000 : Nat)) ∧ Q (Sx.SV.lit (Go.Value.bool (Decidable.decide (List.take
      (List.length (Prod.fst b_2) - (2 : Nat)) (List.drop (2 : Nat) (Prod.fst b_2)) = List.take (List.length (Prod.fst b_5)) (List.drop (0 : Nat) (Prod.fst b_5))))), ([] : List
      Sx.SO), [])))) (∀ (b : Bool), True → Sx.br b (Q (Sx.SV.lit (Go.Value.bool Bool.false), ([] : List Sx.SO), [])) (∀ (b : Bool), True → Sx.br b (Q (Sx.SV.lit (Go.Value.bool
      Bool.false), ([] : List Sx.SO), [])) (Q (Sx.SV.lit (Go.Value.bool Bool.false), ([] : List Sx.SO), []))))))) (((0 : Int) ≤ (0 : Int) ∧ (0 : Int) < (↑(List.length (Prod.fst
      b_2)) : Int)) ∧ (0 : Nat) < List.length (Prod.fst b_2) ∧ Sx.br (List.getD (Prod.fst b_2) (0 : Nat) (Sx.Ty.dflt (Sx.Ty.int Go.IntKind.i32)) == (124 : Int)) (∀ (b_3 : Bool),
      True → Sx.br b_3 (True ∧ ((0 : Int) ≤ Go.IntKind.wrap Go.IntKind.i64 ((0 : Int) + (1 : Int)) ∧ Go.IntKind.wrap Go.IntKind.i64 ((0 : Int) + (1 : Int)) ≤ (↑(List.length
      (Prod.fst b_2)) : Int)) ∧ (True ∧ (1 : Nat) ≤ (1 : Nat) ∧ T12.SizeOK [b] ∧ (1 : Nat) ≤ (1000000 : Nat)) ∧ ∀ (b_4 : List Int × ByteArray), T12.Fed { data := #[] } [b] b_4 →
      ((1 : Nat) + (List.length (Prod.fst b_2) - (1 : Nat)) ≤ List.length (Prod.fst b_2) ∧ (0 : Nat) + List.length (Prod.fst b_4) ≤ List.length (Prod.fst b_4) ∧ List.length
      (Prod.fst b_2) - (1 : Nat) ≤ (1000000 : Nat)) ∧ Q (Sx.SV.lit (Go.Value.bool (Decidable.decide (List.take (List.length (Prod.fst b_2) - (1 : Nat)) (List.drop (1 : Nat)
      (Prod.fst b_2)) = List.take (List.length (Prod.fst b_4)) (List.drop (0 : Nat) (Prod.fst b_4))))), ([] : List Sx.SO), [])) (∀ (b_4 : Bool), True → Sx.br b_4 (True ∧ ((0 :
      Int) ≤ Go.IntKind.wrap Go.IntKind.i64 ((0 : Int) + (1 : Int)) ∧ Go.IntKind.wrap Go.IntKind.i64 ((0 : Int) + (1 : Int)) ≤ (↑(List.length (Prod.fst b_2)) : Int)) ∧ (True ∧
      (1 : Nat) ≤ (1 : Nat) ∧ T12.SizeOK [b] ∧ (1 : Nat) ≤ (1000000 : Nat)) ∧ ∀ (b_5 : List Int × ByteArray), T12.Fed { data := #[] } [b] b_5 → ((1 : Nat) + (List.length
      (Prod.fst b_2) - (1 : Nat)) ≤ List.length (Prod.fst b_2) ∧ (0 : Nat) + List.length (Prod.fst b_5) ≤ List.length (Prod.fst b_5) ∧ List.length (Prod.fst b_2) - (1 : Nat) ≤
      (1000000 : Nat)) ∧ Q (Sx.SV.lit (Go.Value.bool (Decidable.decide (List.take (List.length (Prod.fst b_2) - (1 : Nat)) (List.drop (1 : Nat) (Prod.fst b_2)) = List.take
      (List.length (Prod.fst b_5)) (List.drop (0 : Nat) (Prod.fst b_5))))), ([] : List Sx.SO), [])) ((True ∧ (1 : Nat) ≤ (1 : Nat) ∧ T12.SizeOK [b] ∧ (1 : Nat) ≤ (1000000 :
      Nat)) ∧ ∀ (b_5 : List Int × ByteArray), T12.Fed { data := #[] } [b] b_5 → True ∧ ((0 : Int) ≤ Go.IntKind.wrap Go.IntKind.i64 ((0 : Int) + (1 : Int)) ∧ Go.IntKind.wrap
      Go.IntKind.i64 ((0 : Int) + (1 : Int)) ≤ (↑(List.length (Prod.fst b_2)) : Int)) ∧ ((1 : Nat) + (List.length (Prod.fst b_2) - (1 : Nat)) ≤ List.length (Prod.fst b_2) ∧ (0 :
      Nat) + List.length (Prod.fst b_5) ≤ List.length (Prod.fst b_5) ∧ List.length (Prod.fst b_2) - (1 : Nat) ≤ (1000000 : Nat)) ∧ Q (Sx.SV.lit (Go.Value.bool (Decidable.decide
      (List.take (List.length (Prod.fst b_2) - (1 : Nat)) (List.drop (1 : Nat) (Prod.fst b_2)) = List.take (List.length (Prod.fst b_5)) (List.drop (0 : Nat) (Prod.fst b_5))))),
      ([] : List Sx.SO), [])))) (∀ (b : Bool), True → Sx.br b (Q (Sx.SV.lit (Go.Value.bool Bool.false), ([] : List Sx.SO), [])) (∀ (b : Bool), True → Sx.br b (Q (Sx.SV.lit
      (Go.Value.bool Bool.false), ([] : List Sx.SO), [])) (Q (Sx.SV.lit (Go.Value.bool Bool.false), ([] : List Sx.SO), [])))))))))) (by kernel_rfl) ?_
  refine br_intro (fun _ => hq) (fun h0 => br_intro (fun _ => hq) (fun h1 => ?_))
  have h0 := of_decide_eq_false h0
  have h1 := of_decide_eq_false h1
  have sa := strInts_size a
  have sb := strInts_size b
  have e0 : strInts ({ data := #[] } : ByteArray) = [] := rfl
  have okb : SizeOK [b] := ⟨by rw [flat_one]; omega⟩
  have wr2 : IntKind.i64.wrap (1 + 1) = 2 := by decide
  have wr1 : IntKind.i64.wrap (0 + 1) = 1 := by decide
  rw [wr1, wr2]
  refine ⟨⟨trivial, by omega, ⟨by rw [flat_one]; omega⟩, by omega⟩, fun r1 hr1 => ?_⟩
  obtain ⟨a1, a2⟩ := hr1
  rw [e0, flat_one] at a1 a2
  have hg : Good (strInts r1.2) := by rw [a2]; exact good_feed (h := []) trivial _
  have hf : flat [({ data := #[124] } : ByteArray), b] = 124 :: strInts b := by
    have : flat [({ data := #[124] } : ByteArray), b] = strInts { data := #[124] } ++ flat [b] := rfl
    rw [this, flat_one]; rfl
  refine ⟨⟨hg, by omega, ⟨by rw [hf, List.length_cons]; omega⟩, by omega⟩, fun r2 hr2 => ?_⟩
  obtain ⟨c1, c2⟩ := hr2
  rw [hf, feed_bar] at c1
  have hlen := feed_most (strInts a)
  have hlenb := feed_most (strInts b)
  rw [← a1] at hlen
  have lead : ∀ r5 : List Int × ByteArray, Fed { data := #[] } [b] r5 → r5.1 = (feed [] (strInts b)).1 := fun r5 h5 => by rw [h5.out, e0, flat_one]
  generalize hT : (feed [] (strInts b)).1 = T at *
  refine br_intro (fun g => by have g := of_decide_eq_true g; omega) (fun _ => ?_)
  by_cases hn : strInts r1.2 = []
  · rw [if_pos hn] at c1
    have c1 : r2.1 = 124 :: T := c1
    have hl : r2.1.length = T.length + 1 := by rw [c1]; rfl
    have hk := key Q hq 1 r2.1 T (by rw [c1]; rfl) (by omega) (by omega)
    have g0 : r2.1.getD 0 (Ty.int IntKind.i32).dflt = 124 := by rw [c1]; rfl
    rw [g0]
    refine br_intro (fun g => by have g := of_decide_eq_true g; omega) (fun _ => ⟨by omega, by omega, br_intro (fun g => by cases g) (fun _ => ⟨by omega, by omega, br_intro (fun _ => fun b3 _ => br_intro (fun _ => ?_) (fun _ => fun b4 _ => br_intro (fun _ => ?_) (fun _ => ?_))) (fun g => by cases g)⟩)⟩)
    · exact ⟨trivial, by omega, ⟨trivial, by omega, okb, by omega⟩, fun r5 h5 => hk r5.1 (lead r5 h5)⟩
    · exact ⟨trivial, by omega, ⟨trivial, by omega, okb, by omega⟩, fun r5 h5 => hk r5.1 (lead r5 h5)⟩
    · exact ⟨⟨trivial, by omega, okb, by omega⟩, fun r5 h5 => ⟨trivial, by omega, hk r5.1 (lead r5 h5)⟩⟩
  · rw [if_neg hn] at c1
    have c1 : r2.1 = 65533 :: 124 :: T := c1
    have hl : r2.1.length = T.length + 2 := by rw [c1]; rfl
    have hk := key Q hq 2 r2.1 T (by rw [c1]; rfl) (by omega) (by omega)
    have g0 : r2.1.getD 0 (Ty.int IntKind.i32).dflt = 65533 := by rw [c1]; rfl
    have g1 : r2.1.getD 1 (Ty.int IntKind.i32).dflt = 124 := by rw [c1]; rfl
    rw [g0, g1]
    refine br_intro (fun g => by have g := of_decide_eq_true g; omega) (fun _ => ⟨by omega, by omega, br_intro (fun _ => ⟨by omega, by omega, br_intro (fun g => by cases g) (fun _ => br_intro (fun g => by have g := of_decide_eq_true g; omega) (fun _ => ⟨by omega, by omega, br_intro (fun _ => fun b3 _ => br_intro (fun _ => ?_) (fun _ => fun b4 _ => br_intro (fun _ => ?_) (fun _ => ?_))) (fun g => by cases g)⟩))⟩) (fun g => by cases g)⟩)
    · exact ⟨trivial, by omega, ⟨trivial, by omega, okb, by omega⟩, fun r5 h5 => hk r5.1 (lead r5 h5)⟩
    · exact ⟨trivial, by omega, ⟨trivial, by omega, okb, by omega⟩, fun r5 h5 => hk r5.1 (lead r5 h5)⟩
    · exact ⟨⟨trivial, by omega, okb, by omega⟩, fun r5 h5 => ⟨trivial, by omega, hk r5.1 (lead r5 h5)⟩⟩
end T12
