/- Part of a proof: the walk of the functions that the law calls. -/
import Derived.Test.YtgcbgenkbdoejaaSxT
import Derived.Test.YtgcbgenkbdoejaaXT12e
set_option linter.unusedVariables false
open Go Sx Go.Proofs
namespace T12
set_option maxRecDepth 100000
set_option maxHeartbeats 1000000
attribute [local irreducible] Tree.Leads
theorem enc_ints (r : Int) : strInts (bsOf ([r].flatMap enc)) = enc r := by
  rw [List.flatMap_cons, List.flatMap_nil, List.append_nil, strInts_bsOf (enc_bytes r)]
theorem enc_size (r : Int) : (bsOf ([r].flatMap enc)).size = (enc r).length := by rw [← strInts_size, enc_ints]
theorem half_ok (r : Int) (i j : Nat) : SizeOK [(bsOf ([r].flatMap enc)).extract i j] := ⟨by
  have := (enc_len r).2
  rw [flat_one, strInts_extract, enc_ints, List.length_take, List.length_drop]; omega⟩
theorem half_facts {r : Int} (h : (128 ≤ r ∧ r < 2048) ∨ (2048 ≤ r ∧ r < 55296 ∨ 57343 < r ∧ r < 65536) ∨ (65536 ≤ r ∧ r ≤ 1114111)) {m : Nat} (h1 : 0 < m) (h2 : m < (enc r).length) {b : List Int × ByteArray}
    (hb : Fed { data := #[] } [(bsOf ([r].flatMap enc)).extract 0 m] b) : b.1.length = 0 ∧ b.2.size = m ∧ Good (strInts b.2) ∧ ∀ b2 : List Int × ByteArray, Fed b.2 [(bsOf ([r].flatMap enc)).extract m (enc r).length] b2 → b2.1 = [r] ∧ b2.2.size = 0 := by
  obtain ⟨e1, e2⟩ := hb
  obtain ⟨f1, f2⟩ := feed_half h m h1 h2
  have e0 : strInts ({ data := #[] } : ByteArray) = [] := rfl
  rw [e0, flat_one, strInts_extract, enc_ints, List.drop_zero, Nat.sub_zero, f1] at e1 e2
  refine ⟨by rw [e1]; rfl, by rw [← strInts_size, e2, List.length_take]; omega, ?_, fun b2 hb2 => ?_⟩
  · have hg := good_feed (h := []) trivial ((enc r).take m)
    rw [f1] at hg
    rw [e2]; exact hg
  · obtain ⟨g1, g2⟩ := hb2
    have et : ((enc r).drop m).take ((enc r).length - m) = (enc r).drop m := List.take_of_length_le (by rw [List.length_drop]; omega)
    rw [e2, flat_one, strInts_extract, enc_ints, et, f2] at g1 g2
    exact ⟨g1, by rw [← strInts_size, g2]; rfl⟩
theorem v7 (r k : Int) (hr : -2147483648 ≤ r ∧ r ≤ 2147483647) (hk : -9223372036854775808 ≤ k ∧ k ≤ 9223372036854775807) (Q : SV × Heap × List Nat → Prop) (hq : Q (.lit (.bool true), [], [])) : (bodySumm T6 Try.prog Try.f7 noAn [.lit (.int .i32 r), .lit (.int .i64 k)] []).Leads Q := by
  refine Sx.by_text (q :=
      Sx.br (Decidable.decide (r < (128 : Int))) (Q (Sx.SV.lit (Go.Value.bool Bool.true), ([] : List Sx.SO), [])) (Sx.br (Decidable.decide (r > (1114111 : Int))) (Q (Sx.SV.lit
      (Go.Value.bool Bool.true), ([] : List Sx.SO), [])) (Sx.br (Decidable.decide (r ≥ (55296 : Int))) (Sx.br (Decidable.decide (r ≤ (57343 : Int))) (Q (Sx.SV.lit (Go.Value.bool
      Bool.true), ([] : List Sx.SO), [])) (Sx.br (Decidable.decide (k < (1 : Int))) (Q (Sx.SV.lit (Go.Value.bool Bool.true), ([] : List Sx.SO), [])) (((1 : Nat) ≤ (1 : Nat) ∧ (1
      : Nat) ≤ (1000 : Nat) ∧ ∀ (x : Sx.Ty.den (Sx.Ty.int Go.IntKind.i32)), x ∈ [r] → (-2147483648 : Sx.Ty.den (Sx.Ty.int Go.IntKind.i32)) ≤ x ∧ x ≤ (2147483647 : Sx.Ty.den
      (Sx.Ty.int Go.IntKind.i32))) ∧ Sx.br (Decidable.decide (r ≥ (2048 : Int))) (Sx.br (Decidable.decide (r ≥ (65536 : Int))) (Sx.br ((↑(ByteArray.size (Sx.bsOf (List.flatMap
      T12.enc [r]))) : Int) != (4 : Int)) (Q (Sx.SV.lit (Go.Value.bool Bool.false), ([] : List Sx.SO), [])) ((Go.IntKind.wrap Go.IntKind.i64 ((4 : Int) - (1 : Int)) = (0 : Int)
      → False) ∧ ((0 : Int) ≤ Go.IntKind.wrap Go.IntKind.i64 (Int.tmod k (Go.IntKind.wrap Go.IntKind.i64 ((4 : Int) - (1 : Int))) + (1 : Int)) ∧ Go.IntKind.wrap Go.IntKind.i64
      (Int.tmod k (Go.IntKind.wrap Go.IntKind.i64 ((4 : Int) - (1 : Int))) + (1 : Int)) ≤ (↑(ByteArray.size (Sx.bsOf (List.flatMap T12.enc [r]))) : Int)) ∧ True ∧ (True ∧ (1 :
      Nat) ≤ (1 : Nat) ∧ T12.SizeOK [ByteArray.extract (Sx.bsOf (List.flatMap T12.enc [r])) (0 : Nat) (Int.toNat (Go.IntKind.wrap Go.IntKind.i64 (Int.tmod k (Go.IntKind.wrap
      Go.IntKind.i64 ((4 : Int) - (1 : Int))) + (1 : Int))))] ∧ (1 : Nat) ≤ (1000000 : Nat)) ∧ ∀ (b : List Int × ByteArray), T12.Fed { data := #[] } [ByteArray.extract (Sx.bsOf
      (List.flatMap T12.enc [r])) (0 : Nat) (Int.toNat (Go.IntKind.wrap Go.IntKind.i64 (Int.tmod k (Go.IntKind.wrap Go.IntKind.i64 ((4 : Int) - (1 : Int))) + (1 : Int))))] b →
      Sx.br ((↑(ByteArray.size (Prod.snd b)) : Int) == (0 : Int)) (((0 : Int) ≤ Go.IntKind.wrap Go.IntKind.i64 (Int.tmod k (Go.IntKind.wrap Go.IntKind.i64 ((4 : Int) - (1 :
      Int))) + (1 : Int)) ∧ Go.IntKind.wrap Go.IntKind.i64 (Int.tmod k (Go.IntKind.wrap Go.IntKind.i64 ((4 : Int) - (1 : Int))) + (1 : Int)) ≤ (↑(ByteArray.size (Sx.bsOf
      (List.flatMap T12.enc [r]))) : Int)) ∧ True ∧ (True ∧ (1 : Nat) ≤ (1 : Nat) ∧ T12.SizeOK [ByteArray.extract (Sx.bsOf (List.flatMap T12.enc [r])) (0 : Nat) (Int.toNat
      (Go.IntKind.wrap Go.IntKind.i64 (Int.tmod k (Go.IntKind.wrap Go.IntKind.i64 ((4 : Int) - (1 : Int))) + (1 : Int))))] ∧ (1 : Nat) ≤ (1000000 : Nat)) ∧ ∀ (b_1 : List Int ×
      ByteArray), T12.Fed { data := #[] } [ByteArray.extract (Sx.bsOf (List.flatMap T12.enc [r])) (0 : Nat) (Int.toNat (Go.IntKind.wrap Go.IntKind.i64 (Int.tmod k
      (Go.IntKind.wrap Go.IntKind.i64 ((4 : Int) - (1 : Int))) + (1 : Int))))] b_1 → True ∧ ((0 : Int) ≤ Go.IntKind.wrap Go.IntKind.i64 (Int.tmod k (Go.IntKind.wrap
      Go.IntKind.i64 ((4 : Int) - (1 : Int))) + (1 : Int)) ∧ Go.IntKind.wrap Go.IntKind.i64 (Int.tmod k (Go.IntKind.wrap Go.IntKind.i64 ((4 : Int) - (1 : Int))) + (1 : Int)) ≤
      (↑(ByteArray.size (Sx.bsOf (List.flatMap T12.enc [r]))) : Int)) ∧ (T12.Good (Sx.strInts (Prod.snd b_1)) ∧ (1 : Nat) ≤ (1 : Nat) ∧ T12.SizeOK [ByteArray.extract (Sx.bsOf
      (List.flatMap T12.enc [r])) (Int.toNat (Go.IntKind.wrap Go.IntKind.i64 (Int.tmod k (Go.IntKind.wrap Go.IntKind.i64 ((4 : Int) - (1 : Int))) + (1 : Int)))) (ByteArray.size
      (Sx.bsOf (List.flatMap T12.enc [r])))] ∧ (1 : Nat) ≤ (1000000 : Nat)) ∧ ∀ (b_2 : List Int × ByteArray), T12.Fed (Prod.snd b_1) [ByteArray.extract (Sx.bsOf (List.flatMap
      T12.enc [r])) (Int.toNat (Go.IntKind.wrap Go.IntKind.i64 (Int.tmod k (Go.IntKind.wrap Go.IntKind.i64 ((4 : Int) - (1 : Int))) + (1 : Int)))) (ByteArray.size (Sx.bsOf
      (List.flatMap T12.enc [r])))] b_2 → Sx.br ((↑(List.length (Prod.fst b)) : Int) == (0 : Int)) (Q (Sx.SV.lit (Go.Value.bool Bool.false), ([] : List Sx.SO), [])) (Q
      (Sx.SV.lit (Go.Value.bool Bool.false), ([] : List Sx.SO), []))) (((0 : Int) ≤ Go.IntKind.wrap Go.IntKind.i64 (Int.tmod k (Go.IntKind.wrap Go.IntKind.i64 ((4 : Int) - (1 :
      Int))) + (1 : Int)) ∧ Go.IntKind.wrap Go.IntKind.i64 (Int.tmod k (Go.IntKind.wrap Go.IntKind.i64 ((4 : Int) - (1 : Int))) + (1 : Int)) ≤ (↑(ByteArray.size (Sx.bsOf
      (List.flatMap T12.enc [r]))) : Int)) ∧ True ∧ (True ∧ (1 : Nat) ≤ (1 : Nat) ∧ T12.SizeOK [ByteArray.extract (Sx.bsOf (List.flatMap T12.enc [r])) (0 : Nat) (Int.toNat
      (Go.IntKind.wrap Go.IntKind.i64 (Int.tmod k (Go.IntKind.wrap Go.IntKind.i64 ((4 : Int) - (1 : Int))) + (1 : Int))))] ∧ (1 : Nat) ≤ (1000000 : Nat)) ∧ ∀ (b_1 : List Int ×
      ByteArray), T12.Fed { data := #[] } [ByteArray.extract (Sx.bsOf (List.flatMap T12.enc [r])) (0 : Nat) (Int.toNat (Go.IntKind.wrap Go.IntKind.i64 (Int.tmod k
      (Go.IntKind.wrap Go.IntKind.i64 ((4 : Int) - (1 : Int))) + (1 : Int))))] b_1 → True ∧ ((0 : Int) ≤ Go.IntKind.wrap Go.IntKind.i64 (Int.tmod k (Go.IntKind.wrap
      Go.IntKind.i64 ((4 : Int) - (1 : Int))) + (1 : Int)) ∧ Go.IntKind.wrap Go.IntKind.i64 (Int.tmod k (Go.IntKind.wrap Go.IntKind.i64 ((4 : Int) - (1 : Int))) + (1 : Int)) ≤
      (↑(ByteArray.size (Sx.bsOf (List.flatMap T12.enc [r]))) : Int)) ∧ (T12.Good (Sx.strInts (Prod.snd b_1)) ∧ (1 : Nat) ≤ (1 : Nat) ∧ T12.SizeOK [ByteArray.extract (Sx.bsOf
      (List.flatMap T12.enc [r])) (Int.toNat (Go.IntKind.wrap Go.IntKind.i64 (Int.tmod k (Go.IntKind.wrap Go.IntKind.i64 ((4 : Int) - (1 : Int))) + (1 : Int)))) (ByteArray.size
      (Sx.bsOf (List.flatMap T12.enc [r])))] ∧ (1 : Nat) ≤ (1000000 : Nat)) ∧ ∀ (b_2 : List Int × ByteArray), T12.Fed (Prod.snd b_1) [ByteArray.extract (Sx.bsOf (List.flatMap
      T12.enc [r])) (Int.toNat (Go.IntKind.wrap Go.IntKind.i64 (Int.tmod k (Go.IntKind.wrap Go.IntKind.i64 ((4 : Int) - (1 : Int))) + (1 : Int)))) (ByteArray.size (Sx.bsOf
      (List.flatMap T12.enc [r])))] b_2 → Sx.br ((↑(List.length (Prod.fst b)) : Int) == (0 : Int)) (((0 : Int) ≤ (0 : Int) ∧ (0 : Int) < (↑(1 : Nat) : Int)) ∧ (0 : Nat) < (1 :
      Nat) ∧ Sx.br ((↑(List.length (Prod.fst b_1)) : Int) == (0 : Int)) (Sx.br ((↑(ByteArray.size (Prod.snd b_2)) : Int) == (0 : Int)) (Sx.br ((↑(List.length (Prod.fst b_2)) :
      Int) == (1 : Int)) (((0 : Int) ≤ (0 : Int) ∧ (0 : Int) < (↑(List.length (Prod.fst b_2)) : Int)) ∧ (0 : Nat) < List.length (Prod.fst b_2) ∧ Q (Sx.SV.lit (Go.Value.bool
      (List.getD (Prod.fst b_2) (0 : Nat) (Sx.Ty.dflt (Sx.Ty.int Go.IntKind.i32)) == r)), ([] : List Sx.SO), [])) (Q (Sx.SV.lit (Go.Value.bool Bool.false), ([] : List Sx.SO),
      []))) (Q (Sx.SV.lit (Go.Value.bool Bool.false), ([] : List Sx.SO), []))) (Q (Sx.SV.lit (Go.Value.bool Bool.false), ([] : List Sx.SO), []))) (Q (Sx.SV.lit (Go.Value.bool
      Bool.false), ([] : List Sx.SO), []))))) (Sx.br ((↑(ByteArray.size (Sx.bsOf (List.flatMap T12.enc [r]))) : Int) != (3 : Int)) (Q (Sx.SV.lit (Go.Value.bool Bool.false), ([]
      : List Sx.SO), [])) ((Go.IntKind.wrap Go.IntKind.i64 ((3 : Int) - (1 : Int)) = (0 : Int) → False) ∧ ((0 : Int) ≤ Go.IntKind.wrap Go.IntKind.i64 (Int.tmod k
      (Go.IntKind.wrap Go.IntKind.i64 ((3 : Int) - (1 : Int))) + (1 : Int)) ∧ Go.IntKind.wrap Go.IntKind.i64 (Int.tmod k (Go.IntKind.wrap Go.IntKind.i64 ((3 : Int) - (1 : Int)))
      + (1 : Int)) ≤ (↑(ByteArray.size (Sx.bsOf (List.flatMap T12.enc [r]))) : Int)) ∧ True ∧ (True ∧ (1 : Nat) ≤ (1 : Nat) ∧ T12.SizeOK [ByteArray.extract (Sx.bsOf
      (List.flatMap T12.enc [r])) (0 : Nat) (Int.toNat (Go.IntKind.wrap Go.IntKind.i64 (Int.tmod k (Go.IntKind.wrap Go.IntKind.i64 ((3 : Int) - (1 : Int))) + (1 : Int))))] ∧ (1
      : Nat) ≤ (1000000 : Nat)) ∧ ∀ (b : List Int × ByteArray), T12.Fed { data := #[] } [ByteArray.extract (Sx.bsOf (List.flatMap T12.enc [r])) (0 : Nat) (Int.toNat
      (Go.IntKind.wrap Go.IntKind.i64 (Int.tmod k (Go.IntKind.wrap Go.IntKind.i64 ((3 : Int) - (1 : Int))) + (1 : Int))))] b → Sx.br ((↑(ByteArray.size (Prod.snd b)) : Int) ==
      (0 : Int)) (((0 : Int) ≤ Go.IntKind.wrap Go.IntKind.i64 (Int.tmod k (Go.IntKind.wrap Go.IntKind.i64 ((3 : Int) - (1 : Int))) + (1 : Int)) ∧ Go.IntKind.wrap Go.IntKind.i64
      (Int.tmod k (Go.IntKind.wrap Go.IntKind.i64 ((3 : Int) - (1 : Int))) + (1 : Int)) ≤ (↑(ByteArray.size (Sx.bsOf (List.flatMap T12.enc [r]))) : Int)) ∧ True ∧ (True ∧ (1 :
      Nat) ≤ (1 : Nat) ∧ T12.SizeOK [ByteArray.extract (Sx.bsOf (List.flatMap T12.enc [r])) (0 : Nat) (Int.toNat (Go.IntKind.wrap Go.IntKind.i64 (Int.tmod k (Go.IntKind.wrap
      Go.IntKind.i64 ((3 : Int) - (1 : Int))) + (1 : Int))))] ∧ (1 : Nat) ≤ (1000000 : Nat)) ∧ ∀ (b_1 : List Int × ByteArray), T12.Fed { data := #[] } [ByteArray.extract
      (Sx.bsOf (List.flatMap T12.enc [r])) (0 : Nat) (Int.toNat (Go.IntKind.wrap Go.IntKind.i64 (Int.tmod k (Go.IntKind.wrap Go.IntKind.i64 ((3 : Int) - (1 : Int))) + (1 :
      Int))))] b_1 → True ∧ ((0 : Int) ≤ Go.IntKind.wrap Go.IntKind.i64 (Int.tmod k (Go.IntKind.wrap Go.IntKind.i64 ((3 : Int) - (1 : Int))) + (1 : Int)) ∧ Go.IntKind.wrap
      Go.IntKind.i64 (Int.tmod k (Go.IntKind.wrap Go.IntKind.i64 ((3 : Int) - (1 : Int))) + (1 : Int)) ≤ (↑(ByteArray.size (Sx.bsOf (List.flatMap T12.enc [r]))) : Int)) ∧
      (T12.Good (Sx.strInts (Prod.snd b_1)) ∧ (1 : Nat) ≤ (1 : Nat) ∧ T12.SizeOK [ByteArray.extract (Sx.bsOf (List.flatMap T12.enc [r])) (Int.toNat (Go.IntKind.wrap
      Go.IntKind.i64 (Int.tmod k (Go.IntKind.wrap Go.IntKind.i64 ((3 : Int) - (1 : Int))) + (1 : Int)))) (ByteArray.size (Sx.bsOf (List.flatMap T12.enc [r])))] ∧ (1 : Nat) ≤
      (1000000 : Nat)) ∧ ∀ (b_2 : List Int × ByteArray), T12.Fed (Prod.snd b_1) [ByteArray.extract (Sx.bsOf (List.flatMap T12.enc [r])) (Int.toNat (Go.IntKind.wrap
      Go.IntKind.i64 (Int.tmod k (Go.IntKind.wrap Go.IntKind.i64 ((3 : Int) - (1 : Int))) + (1 : Int)))) (ByteArray.size (Sx.bsOf (List.flatMap T12.enc [r])))] b_2 → Sx.br
      ((↑(List.length (Prod.fst b)) : Int) == (0 : Int)) (Q (Sx.SV.lit (Go.Value.bool Bool.false), ([] : List Sx.SO), [])) (Q (Sx.SV.lit (Go.Value.bool Bool.false), ([] : List
      Sx.SO), []))) (((0 : Int) ≤ Go.IntKind.wrap Go.IntKind.i64 (Int.tmod k (Go.IntKind.wrap Go.IntKind.i64 ((3 : Int) - (1 : Int))) + (1 : Int)) ∧ Go.IntKind.wrap
      Go.IntKind.i64 (Int.tmod k (Go.IntKind.wrap Go.IntKind.i64 ((3 : Int) - (1 : Int))) + (1 : Int)) ≤ (↑(ByteArray.size (Sx.bsOf (List.flatMap T12.enc [r]))) : Int)) ∧ True ∧
      (True ∧ (1 : Nat) ≤ (1 : Nat) ∧ T12.SizeOK [ByteArray.extract (Sx.bsOf (List.flatMap T12.enc [r])) (0 : Nat) (Int.toNat (Go.IntKind.wrap Go.IntKind.i64 (Int.tmod k
      (Go.IntKind.wrap Go.IntKind.i64 ((3 : Int) - (1 : Int))) + (1 : Int))))] ∧ (1 : Nat) ≤ (1000000 : Nat)) ∧ ∀ (b_1 : List Int × ByteArray), T12.Fed { data := #[] }
      [ByteArray.extract (Sx.bsOf (List.flatMap T12.enc [r])) (0 : Nat) (Int.toNat (Go.IntKind.wrap Go.IntKind.i64 (Int.tmod k (Go.IntKind.wrap Go.IntKind.i64 ((3 : Int) - (1 :
      Int))) + (1 : Int))))] b_1 → True ∧ ((0 : Int) ≤ Go.IntKind.wrap Go.IntKind.i64 (Int.tmod k (Go.IntKind.wrap Go.IntKind.i64 ((3 : Int) - (1 : Int))) + (1 : Int)) ∧
      Go.IntKind.wrap Go.IntKind.i64 (Int.tmod k (Go.IntKind.wrap Go.IntKind.i64 ((3 : Int) - (1 : Int))) + (1 : Int)) ≤ (↑(ByteArray.size (Sx.bsOf (List.flatMap T12.enc [r])))
      : Int)) ∧ (T12.Good (Sx.strInts (Prod.snd b_1)) ∧ (1 : Nat) ≤ (1 : Nat) ∧ T12.SizeOK [ByteArray.extract (Sx.bsOf (List.flatMap T12.enc [r])) (Int.toNat (Go.IntKind.wrap
      Go.IntKind.i64 (Int.tmod k (Go.IntKind.wrap Go.IntKind.i64 ((3 : Int) - (1 : Int))) + (1 : Int)))) (ByteArray.size (Sx.bsOf (List.flatMap T12.enc [r])))] ∧ (1 : Nat) ≤
      (1000000 : Nat)) ∧ ∀ (b_2 : List Int × ByteArray), T12.Fed (Prod.snd b_1) [ByteArray.extract (Sx.bsOf (List.flatMap T12.enc [r])) (Int.toNat (Go.IntKind.wrap
      Go.IntKind.i64 (Int.tmod k (Go.IntKind.wrap Go.IntKind.i64 ((3 : Int) - (1 : Int))) + (1 : Int)))) (ByteArray.size (Sx.bsOf (List.flatMap T12.enc [r])))] b_2 → Sx.br
      ((↑(List.length (Prod.fst b)) : Int) == (0 : Int)) (((0 : Int) ≤ (0 : Int) ∧ (0 : Int) < (↑(1 : Nat) : Int)) ∧ (0 : Nat) < (1 : Nat) ∧ Sx.br ((↑(List.length (Prod.fst
      b_1)) : Int) == (0 : Int)) (Sx.br ((↑(ByteArray.size (Prod.snd b_2)) : Int) == (0 : Int)) (Sx.br ((↑(List.length (Prod.fst b_2)) : Int) == (1 : Int)) (((0 : Int) ≤ (0 :
      Int) ∧ (0 : Int) < (↑(List.length (Prod.fst b_2)) : Int)) ∧ (0 : Nat) < List.length (Prod.fst b_2) ∧ Q (Sx.SV.lit (Go.Value.bool (List.getD (Prod.fst b_2) (0 : Nat)
      (Sx.Ty.dflt (Sx.Ty.int Go.IntKind.i32)) == r)), ([] : List Sx.SO), [])) (Q (Sx.SV.lit (Go.Value.bool Bool.false), ([] : List Sx.SO), []))) (Q (Sx.SV.lit (Go.Value.bool
      Bool.false), ([] : List Sx.SO), []))) (Q (Sx.SV.lit (Go.Value.bool Bool.false), ([] : List Sx.SO), []))) (Q (Sx.SV.lit (Go.Value.bool Bool.false), ([] : List Sx.SO),
      [])))))) (Sx.br (Decidable.decide (r ≥ (65536 : Int))) (Sx.br ((↑(ByteArray.size (Sx.bsOf (List.flatMap T12.enc [r]))) : Int) != (4 : Int)) (Q (Sx.SV.lit (Go.Value.bool
      Bool.false), ([] : List Sx.SO), [])) ((Go.IntKind.wrap Go.IntKind.i64 ((4 : Int) - (1 : Int)) = (0 : Int) → False) ∧ ((0 : Int) ≤ Go.IntKind.wrap Go.IntKind.i64 (Int.tmod
      k (Go.IntKind.wrap Go.IntKind.i64 ((4 : Int) - (1 : Int))) + (1 : Int)) ∧ Go.IntKind.wrap Go.IntKind.i64 (Int.tmod k (Go.IntKind.wrap Go.IntKind.i64 ((4 : Int) - (1 :
      Int))) + (1 : Int)) ≤ (↑(ByteArray.size (Sx.bsOf (List.flatMap T12.enc [r]))) : Int)) ∧ True ∧ (True ∧ (1 : Nat) ≤ (1 : Nat) ∧ T12.SizeOK [ByteArray.extract (Sx.bsOf
      (List.flatMap T12.enc [r])) (0 : Nat) (Int.toNat (Go.IntKind.wrap Go.IntKind.i64 (Int.tmod k (Go.IntKind.wrap Go.IntKind.i64 ((4 : Int) - (1 : Int))) + (1 : Int))))] ∧ (1
      : Nat) ≤ (1000000 : Nat)) ∧ ∀ (b : List Int × ByteArray), T12.Fed { data := #[] } [ByteArray.extract (Sx.bsOf (List.flatMap T12.enc [r])) (0 : Nat) (Int.toNat
      (Go.IntKind.wrap Go.IntKind.i64 (Int.tmod k (Go.IntKind.wrap Go.IntKind.i64 ((4 : Int) - (1 : Int))) + (1 : Int))))] b → Sx.br ((↑(ByteArray.size (Prod.snd b)) : Int) ==
      (0 : Int)) (((0 : Int) ≤ Go.IntKind.wrap Go.IntKind.i64 (Int.tmod k (Go.IntKind.wrap Go.IntKind.i64 ((4 : Int) - (1 : Int))) + (1 : Int)) ∧ Go.IntKind.wrap Go.IntKind.i64
      (Int.tmod k (Go.IntKind.wrap Go.IntKind.i64 ((4 : Int) - (1 : Int))) + (1 : Int)) ≤ (↑(ByteArray.size (Sx.bsOf (List.flatMap T12.enc [r]))) : Int)) ∧ True ∧ (True ∧ (1 :
      Nat) ≤ (1 : Nat) ∧ T12.SizeOK [ByteArray.extract (Sx.bsOf (List.flatMap T12.enc [r])) (0 : Nat) (Int.toNat (Go.IntKind.wrap Go.IntKind.i64 (Int.tmod k (Go.IntKind.wrap
      Go.IntKind.i64 ((4 : Int) - (1 : Int))) + (1 : Int))))] ∧ (1 : Nat) ≤ (1000000 : Nat)) ∧ ∀ (b_1 : List Int × ByteArray), T12.Fed { data := #[] } [ByteArray.extract
      (Sx.bsOf (List.flatMap T12.enc [r])) (0 : Nat) (Int.toNat (Go.IntKind.wrap Go.IntKind.i64 (Int.tmod k (Go.IntKind.wrap Go.IntKind.i64 ((4 : Int) - (1 : Int))) + (1 :
      Int))))] b_1 → True ∧ ((0 : Int) ≤ Go.IntKind.wrap Go.IntKind.i64 (Int.tmod k (Go.IntKind.wrap Go.IntKind.i64 ((4 : Int) - (1 : Int))) + (1 : Int)) ∧ Go.IntKind.wrap
      Go.IntKind.i64 (Int.tmod k (Go.IntKind.wrap Go.IntKind.i64 ((4 : Int) - (1 : Int))) + (1 : Int)) ≤ (↑(ByteArray.size (Sx.bsOf (List.flatMap T12.enc [r]))) : Int)) ∧
      (T12.Good (Sx.strInts (Prod.snd b_1)) ∧ (1 : Nat) ≤ (1 : Nat) ∧ T12.SizeOK [ByteArray.extract (Sx.bsOf (List.flatMap T12.enc [r])) (Int.toNat (Go.IntKind.wrap
      Go.IntKind.i64 (Int.tmod k (Go.IntKind.wrap Go.IntKind.i64 ((4 : Int) - (1 : Int))) + (1 : Int)))) (ByteArray.size (Sx.bsOf (List.flatMap T12.enc [r])))] ∧ (1 : Nat) ≤
      (1000000 : Nat)) ∧ ∀ (b_2 : List Int × ByteArray), T12.Fed (Prod.snd b_1) [ByteArray.extract (Sx.bsOf (List.flatMap T12.enc [r])) (Int.toNat (Go.IntKind.wrap
      Go.IntKind.i64 (Int.tmod k (Go.IntKind.wrap Go.IntKind.i64 ((4 : Int) - (1 : Int))) + (1 : Int)))) (ByteArray.size (Sx.bsOf (List.flatMap T12.enc [r])))] b_2 → Sx.br
      ((↑(List.length (Prod.fst b)) : Int) == (0 : Int)) (Q (Sx.SV.lit (Go.Value.bool Bool.false), ([] : List Sx.SO), [])) (Q (Sx.SV.lit (Go.Value.bool Bool.false), ([] : List
      Sx.SO), []))) (((0 : Int) ≤ Go.IntKind.wrap Go.IntKind.i64 (Int.tmod k (Go.IntKind.wrap Go.IntKind.i64 ((4 : Int) - (1 : Int))) + (1 : Int)) ∧ Go.IntKind.wrap
      Go.IntKind.i64 (Int.tmod k (Go.IntKind.wrap Go.IntKind.i64 ((4 : Int) - (1 : Int))) + (1 : Int)) ≤ (↑(ByteArray.size (Sx.bsOf (List.flatMap T12.enc [r]))) : Int)) ∧ True ∧
      (True ∧ (1 : Nat) ≤ (1 : Nat) ∧ T12.SizeOK [ByteArray.extract (Sx.bsOf (List.flatMap T12.enc [r])) (0 : Nat) (Int.toNat (Go.IntKind.wrap Go.IntKind.i64 (Int.tmod k
      (Go.IntKind.wrap Go.IntKind.i64 ((4 : Int) - (1 : Int))) + (1 : Int))))] ∧ (1 : Nat) ≤ (1000000 : Nat)) ∧ ∀ (b_1 : List Int × ByteArray), T12.Fed { data := #[] }
      [ByteArray.extract (Sx.bsOf (List.flatMap T12.enc [r])) (0 : Nat) (Int.toNat (Go.IntKind.wrap Go.IntKind.i64 (Int.tmod k (Go.IntKind.wrap Go.IntKind.i64 ((4 : Int) - (1 :
      Int))) + (1 : Int))))] b_1 → True ∧ ((0 : Int) ≤ Go.IntKind.wrap Go.IntKind.i64 (Int.tmod k (Go.IntKind.wrap Go.IntKind.i64 ((4 : Int) - (1 : Int))) + (1 : Int)) ∧
      Go.IntKind.wrap Go.IntKind.i64 (Int.tmod k (Go.IntKind.wrap Go.IntKind.i64 ((4 : Int) - (1 : Int))) + (1 : Int)) ≤ (↑(ByteArray.size (Sx.bsOf (List.flatMap T12.enc [r])))
      : Int)) ∧ (T12.Good (Sx.strInts (Prod.snd b_1)) ∧ (1 : Nat) ≤ (1 : Nat) ∧ T12.SizeOK [ByteArray.extract (Sx.bsOf (List.flatMap T12.enc [r])) (Int.toNat (Go.IntKind.wrap
      Go.IntKind.i64 (Int.tmod k (Go.IntKind.wrap Go.IntKind.i64 ((4 : Int) - (1 : Int))) + (1 : Int)))) (ByteArray.size (Sx.bsOf (List.flatMap T12.enc [r])))] ∧ (1 : Nat) ≤
      (1000000 : Nat)) ∧ ∀ (b_2 : List Int × ByteArray), T12.Fed (Prod.snd b_1) [ByteArray.extract (Sx.bsOf (List.flatMap T12.enc [r])) (Int.toNat (Go.IntKind.wrap
      Go.IntKind.i64 (Int.tmod k (Go.IntKind.wrap Go.IntKind.i64 ((4 : Int) - (1 : Int))) + (1 : Int)))) (ByteArray.size (Sx.bsOf (List.flatMap T12.enc [r])))] b_2 → Sx.br
      ((↑(List.length (Prod.fst b)) : Int) == (0 : Int)) (((0 : Int) ≤ (0 : Int) ∧ (0 : Int) < (↑(1 : Nat) : Int)) ∧ (0 : Nat) < (1 : Nat) ∧ Sx.br ((↑(List.length (Prod.fst
      b_1)) : Int) == (0 : Int)) (Sx.br ((↑(ByteArray.size (Prod.snd b_2)) : Int) == (0 : Int)) (Sx.br ((↑(List.length (Prod.fst b_2)) : Int) == (1 : Int)) (((0 : Int) ≤ (0 :
      Int) ∧ (0 : Int) < (↑(List.length (Prod.fst b_2)) : Int)) ∧ (0 : Nat) < List.length (Prod.fst b_2) ∧ Q (Sx.SV.lit (Go.Value.bool (List.getD (Prod.fst b_2) (0 : Nat)
      (Sx.Ty.dflt (Sx.Ty.int Go.IntKind.i32)) == r)), ([] : List Sx.SO), [])) (Q (Sx.SV.lit (Go.Value.bool Bool.false), ([] : List Sx.SO), []))) (Q (Sx.SV.lit (Go.Value.bool
      Bool.false), ([] : List Sx.SO), []))) (Q (Sx.SV.lit (Go.Value.bool Bool.false), ([] : List Sx.SO), []))) (Q (Sx.SV.lit (Go.Value.bool Bool.false), ([] : List Sx.SO),
      []))))) (Sx.br ((↑(ByteArray.size (Sx.bsOf (List.flatMap T12.enc [r]))) : Int) != (2 : Int)) (Q (Sx.SV.lit (Go.Value.bool Bool.false), ([] : List Sx.SO), []))
      ((Go.IntKind.wrap Go.IntKind.i64 ((2 : Int) - (1 : Int)) = (0 : Int) → False) ∧ ((0 : Int) ≤ Go.IntKind.wrap Go.IntKind.i64 (Int.tmod k (Go.IntKind.wrap Go.IntKind.i64 ((2
      : Int) - (1 : Int))) + (1 : Int)) ∧ Go.IntKind.wrap Go.IntKind.i64 (Int.tmod k (Go.IntKind.wrap Go.IntKind.i64 ((2 : Int) - (1 : Int))) + (1 : Int)) ≤ (↑(ByteArray.size
      (Sx.bsOf (List.flatMap T12.enc [r]))) : Int)) ∧ True ∧ (True ∧ (1 : Nat) ≤ (1 : Nat) ∧ T12.SizeOK [ByteArray.extract (Sx.bsOf (List.flatMap T12.enc [r])) (0 : Nat)
      (Int.toNat (Go.IntKind.wrap Go.IntKind.i64 (Int.tmod k (Go.IntKind.wrap Go.IntKind.i64 ((2 : Int) - (1 : Int))) + (1 : Int))))] ∧ (1 : Nat) ≤ (1000000 : Nat)) ∧ ∀ (b :
      List Int × ByteArray), T12.Fed { data := #[] } [ByteArray.extract (Sx.bsOf (List.flatMap T12.enc [r])) (0 : Nat) (Int.toNat (Go.IntKind.wrap Go.IntKind.i64 (Int.tmod k
      (Go.IntKind.wrap Go.IntKind.i64 ((2 : Int) - (1 : Int))) + (1 : Int))))] b → Sx.br ((↑(ByteArray.size (Prod.snd b)) : Int) == (0 : Int)) (((0 : Int) ≤ Go.IntKind.wrap
      Go.IntKind.i64 (Int.tmod k (Go.IntKind.wrap Go.IntKind.i64 ((2 : Int) - (1 : Int))) + (1 : Int)) ∧ Go.IntKind.wrap Go.IntKind.i64 (Int.tmod k (Go.IntKind.wrap
      Go.IntKind.i64 ((2 : Int) - (1 : Int))) + (1 : Int)) ≤ (↑(ByteArray.size (Sx.bsOf (List.flatMap T12.enc [r]))) : Int)) ∧ True ∧ (True ∧ (1 : Nat) ≤ (1 : Nat) ∧ T12.SizeOK
      [ByteArray.extract (Sx.bsOf (List.flatMap T12.enc [r])) (0 : Nat) (Int.toNat (Go.IntKind.wrap Go.IntKind.i64 (Int.tmod k (Go.IntKind.wrap Go.IntKind.i64 ((2 : Int) - (1 :
      Int))) + (1 : Int))))] ∧ (1 : Nat) ≤ (1000000 : Nat)) ∧ ∀ (b_1 : List Int × ByteArray), T12.Fed { data := #[] } [ByteArray.extract (Sx.bsOf (List.flatMap T12.enc [r])) (0
      : Nat) (Int.toNat (Go.IntKind.wrap Go.IntKind.i64 (Int.tmod k (Go.IntKind.wrap Go.IntKind.i64 ((2 : Int) - (1 : Int))) + (1 : Int))))] b_1 → True ∧ ((0 : Int) ≤
      Go.IntKind.wrap Go.IntKind.i64 (Int.tmod k (Go.IntKind.wrap Go.IntKind.i64 ((2 : Int) - (1 : Int))) + (1 : Int)) ∧ Go.IntKind.wrap Go.IntKind.i64 (Int.tmod k
      (Go.IntKind.wrap Go.IntKind.i64 ((2 : Int) - (1 : Int))) + (1 : Int)) ≤ (↑(ByteArray.size (Sx.bsOf (List.flatMap T12.enc [r]))) : Int)) ∧ (T12.Good (Sx.strInts (Prod.snd
      b_1)) ∧ (1 : Nat) ≤ (1 : Nat) ∧ T12.SizeOK [ByteArray.extract (Sx.bsOf (List.flatMap T12.enc [r])) (Int.toNat (Go.IntKind.wrap Go.IntKind.i64 (Int.tmod k (Go.IntKind.wrap
      Go.IntKind.i64 ((2 : Int) - (1 : Int))) + (1 : Int)))) (ByteArray.size (Sx.bsOf (List.flatMap T12.enc [r])))] ∧ (1 : Nat) ≤ (1000000 : Nat)) ∧ ∀ (b_2 : List Int ×
      ByteArray), T12.Fed (Prod.snd b_1) [ByteArray.extract (Sx.bsOf (List.flatMap T12.enc [r])) (Int.toNat (Go.IntKind.wrap Go.IntKind.i64 (Int.tmod k (Go.IntKind.wrap
      Go.IntKind.i64 ((2 : Int) - (1 : Int))) + (1 : Int)))) (ByteArray.size (Sx.bsOf (List.flatMap T12.enc [r])))] b_2 → Sx.br ((↑(List.length (Prod.fst b)) : Int) == (0 :
      Int)) (Q (Sx.SV.lit (Go.Value.bool Bool.false), ([] : List Sx.SO), [])) (Q (Sx.SV.lit (Go.Value.bool Bool.false), ([] : List Sx.SO), []))) (((0 : Int) ≤ Go.IntKind.wrap
      Go.IntKind.i64 (Int.tmod k (Go.IntKind.wrap Go.IntKind.i64 ((2 : Int) - (1 : Int))) + (1 : Int)) ∧ Go.IntKind.wrap Go.IntKind.i64 (Int.tmod k (Go.IntKind.wrap
      Go.IntKind.i64 ((2 : Int) - (1 : Int))) + (1 : Int)) ≤ (↑(ByteArray.size (Sx.bsOf (List.flatMap T12.enc [r]))) : Int)) ∧ True ∧ (True ∧ (1 : Nat) ≤ (1 : Nat) ∧ T12.SizeOK
      [ByteArray.extract (Sx.bsOf (List.flatMap T12.enc [r])) (0 : Nat) (Int.toNat (Go.IntKind.wrap Go.IntKind.i64 (Int.tmod k (Go.IntKind.wrap Go.IntKind.i64 ((2 : Int) - (1 :
      Int))) + (1 : Int))))] ∧ (1 : Nat) ≤ (1000000 : Nat)) ∧ ∀ (b_1 : List Int × ByteArray), T12.Fed { data := #[] } [ByteArray.extract (Sx.bsOf (List.flatMap T12.enc [r])) (0
      : Nat) (Int.toNat (Go.IntKind.wrap Go.IntKind.i64 (Int.tmod k (Go.IntKind.wrap Go.IntKind.i64 ((2 : Int) - (1 : Int))) + (1 : Int))))] b_1 → True ∧ ((0 : Int) ≤
      Go.IntKind.wrap Go.IntKind.i64 (Int.tmod k (Go.IntKind.wrap Go.IntKind.i64 ((2 : Int) - (1 : Int))) + (1 : Int)) ∧ Go.IntKind.wrap Go.IntKind.i64 (Int.tmod k
      (Go.IntKind.wrap Go.IntKind.i64 ((2 : Int) - (1 : Int))) + (1 : Int)) ≤ (↑(ByteArray.size (Sx.bsOf (List.flatMap T12.enc [r]))) : Int)) ∧ (T12.Good (Sx.strInts (Prod.snd
      b_1)) ∧ (1 : Nat) ≤ (1 : Nat) ∧ T12.SizeOK [ByteArray.extract (Sx.bsOf (List.flatMap T12.enc [r])) (Int.toNat (Go.IntKind.wrap Go.IntKind.i64 (Int.tmod k (Go.IntKind.wrap
      Go.IntKind.i64 ((2 : Int) - (1 : Int))) + (1 : Int)))) (ByteArray.size (Sx.bsOf (List.flatMap T12.enc [r])))] ∧ (1 : Nat) ≤ (1000000 : Nat)) ∧ ∀ (b_2 : List Int ×
      ByteArray), T12.Fed (Prod.snd b_1) [ByteArray.extract (Sx.bsOf (List.flatMap T12.enc [r])) (Int.toNat (Go.IntKind.wrap Go.IntKind.i64 (Int.tmod k (Go.IntKind.wrap
      Go.IntKind.i64 ((2 : Int) - (1 : Int))) + (1 : Int)))) (ByteArray.size (Sx.bsOf (List.flatMap T12.enc [r])))] b_2 → Sx.br ((↑(List.length (Prod.fst b)) : Int) == (0 :
      Int)) (((0 : Int) ≤ (0 : Int) ∧ (0 : Int) < (↑(1 : Nat) : Int)) ∧ (0 : Nat) < (1 : Nat) ∧ Sx.br ((↑(List.length (Prod.fst b_1)) : Int) == (0 : Int)) (Sx.br
      ((↑(ByteArray.size (Prod.snd b_2)) : Int) == (0 : Int)) (Sx.br ((↑(List.length (Prod.fst b_2)) : Int) == (1 : Int)) (((0 : Int) ≤ (0 : Int) ∧ (0 : Int) < (↑(List.length
      (Prod.fst b_2)) : Int)) ∧ (0 : Nat) < List.length (Prod.fst b_2) ∧ Q (Sx.SV.lit (Go.Value.bool (List.getD (Prod.fst b_2) (0 : Nat) (Sx.Ty.dflt (Sx.Ty.int Go.IntKind.i32))
      == r)), ([] : List Sx.SO), [])) (Q (Sx.SV.lit (Go.Value.bool Bool.false), ([] : List Sx.SO), []))) (Q (Sx.SV.lit (Go.Value.bool Bool.false), ([] : List Sx.SO), []))) (Q
      (Sx.SV.lit (Go.Value.bool Bool.false), ([] : List Sx.SO), []))) (Q (Sx.SV.lit (Go.Value.bool Bool.false), ([] : List Sx.SO), []))))))))) (Sx.br (Decidable.decide (k < (1 :
      Int))) (Q (Sx.SV.lit (Go.Value.bool Bool.true), ([] : List Sx.SO), [])) (((1 : Nat) ≤ (1 : Nat) ∧ (1 : Nat) ≤ (1000 : Nat) ∧ ∀ (x : Sx.Ty.den (Sx.Ty.int Go.IntKind.i32)),
      x ∈ [r] → (-2147483648 : Sx.Ty.den (Sx.Ty.int Go.IntKind.i32)) ≤ x ∧ x ≤ (2147483647 : Sx.Ty.den (Sx.Ty.int Go.IntKind.i32))) ∧ Sx.br (Decidable.decide (r ≥ (2048 : Int)))
      (Sx.br (Decidable.decide (r ≥ (65536 : Int))) (Sx.br ((↑(ByteArray.size (Sx.bsOf (List.flatMap T12.enc [r]))) : Int) != (4 : Int)) (Q (Sx.SV.lit (Go.Value.bool
      Bool.false), ([] : List Sx.SO), [])) ((Go.IntKind.wrap Go.IntKind.i64 ((4 : Int) - (1 : Int)) = (0 : Int) → False) ∧ ((0 : Int) ≤ Go.IntKind.wrap Go.IntKind.i64 (Int.tmod
      k (Go.IntKind.wrap Go.IntKind.i64 ((4 : Int) - (1 : Int))) + (1 : Int)) ∧ Go.IntKind.wrap Go.IntKind.i64 (Int.tmod k (Go.IntKind.wrap Go.IntKind.i64 ((4 : Int) - (1 :
      Int))) + (1 : Int)) ≤ (↑(ByteArray.size (Sx.bsOf (List.flatMap T12.enc [r]))) : Int)) ∧ True ∧ (True ∧ (1 : Nat) ≤ (1 : Nat) ∧ T12.SizeOK [ByteArray.extract (Sx.bsOf
      (List.flatMap T12.enc [r])) (0 : Nat) (Int.toNat (Go.IntKind.wrap Go.IntKind.i64 (Int.tmod k (Go.IntKind.wrap Go.IntKind.i64 ((4 : Int) - (1 : Int))) + (1 : Int))))] ∧ (1
      : Nat) ≤ (1000000 : Nat)) ∧ ∀ (b : List Int × ByteArray), T12.Fed { data := #[] } [ByteArray.extract (Sx.bsOf (List.flatMap T12.enc [r])) (0 : Nat) (Int.toNat
      (Go.IntKind.wrap Go.IntKind.i64 (Int.tmod k (Go.IntKind.wrap Go.IntKind.i64 ((4 : Int) - (1 : Int))) + (1 : Int))))] b → Sx.br ((↑(ByteArray.size (Prod.snd b)) : Int) ==
      (0 : Int)) (((0 : Int) ≤ Go.IntKind.wrap Go.IntKind.i64 (Int.tmod k (Go.IntKind.wrap Go.IntKind.i64 ((4 : Int) - (1 : Int))) + (1 : Int)) ∧ Go.IntKind.wrap Go.IntKind.i64
      (Int.tmod k (Go.IntKind.wrap Go.IntKind.i64 ((4 : Int) - (1 : Int))) + (1 : Int)) ≤ (↑(ByteArray.size (Sx.bsOf (List.flatMap T12.enc [r]))) : Int)) ∧ True ∧ (True ∧ (1 :
      Nat) ≤ (1 : Nat) ∧ T12.SizeOK [ByteArray.extract (Sx.bsOf (List.flatMap T12.enc [r])) (0 : Nat) (Int.toNat (Go.IntKind.wrap Go.IntKind.i64 (Int.tmod k (Go.IntKind.wrap
      Go.IntKind.i64 ((4 : Int) - (1 : Int))) + (1 : Int))))] ∧ (1 : Nat) ≤ (1000000 : Nat)) ∧ ∀ (b_1 : List Int × ByteArray), T12.Fed { data := #[] } [ByteArray.extract
      (Sx.bsOf (List.flatMap T12.enc [r])) (0 : Nat) (Int.toNat (Go.IntKind.wrap Go.IntKind.i64 (Int.tmod k (Go.IntKind.wrap Go.IntKind.i64 ((4 : Int) - (1 : Int))) + (1 :
      Int))))] b_1 → True ∧ ((0 : Int) ≤ Go.IntKind.wrap Go.IntKind.i64 (Int.tmod k (Go.IntKind.wrap Go.IntKind.i64 ((4 : Int) - (1 : Int))) + (1 : Int)) ∧ Go.IntKind.wrap
      Go.IntKind.i64 (Int.tmod k (Go.IntKind.wrap Go.IntKind.i64 ((4 : Int) - (1 : Int))) + (1 : Int)) ≤ (↑(ByteArray.size (Sx.bsOf (List.flatMap T12.enc [r]))) : Int)) ∧
      (T12.Good (Sx.strInts (Prod.snd b_1)) ∧ (1 : Nat) ≤ (1 : Nat) ∧ T12.SizeOK [ByteArray.extract (Sx.bsOf (List.flatMap T12.enc [r])) (Int.toNat (Go.IntKind.wrap
      Go.IntKind.i64 (Int.tmod k (Go.IntKind.wrap Go.IntKind.i64 ((4 : Int) - (1 : Int))) + (1 : Int)))) (ByteArray.size (Sx.bsOf (List.flatMap T12.enc [r])))] ∧ (1 : Nat) ≤
      (1000000 : Nat)) ∧ ∀ (b_2 : List Int × ByteArray), T12.Fed (Prod.snd b_1) [ByteArray.extract (Sx.bsOf (List.flatMap T12.enc [r])) (Int.toNat (Go.IntKind.wrap
      Go.IntKind.i64 (Int.tmod k (Go.IntKind.wrap Go.IntKind.i64 ((4 : Int) - (1 : Int))) + (1 : Int)))) (ByteArray.size (Sx.bsOf (List.flatMap T12.enc [r])))] b_2 → Sx.br
      ((↑(List.length (Prod.fst b)) : Int) == (0 : Int)) (Q (Sx.SV.lit (Go.Value.bool Bool.false), ([] : List Sx.SO), [])) (Q (Sx.SV.lit (Go.Value.bool Bool.false), ([] : List
      Sx.SO), []))) (((0 : Int) ≤ Go.IntKind.wrap Go.IntKind.i64 (Int.tmod k (Go.IntKind.wrap Go.IntKind.i64 ((4 : Int) - (1 : Int))) + (1 : Int)) ∧ Go.IntKind.wrap
      Go.IntKind.i64 (Int.tmod k (Go.IntKind.wrap Go.IntKind.i64 ((4 : Int) - (1 : Int))) + (1 : Int)) ≤ (↑(ByteArray.size (Sx.bsOf (List.flatMap T12.enc [r]))) : Int)) ∧ True ∧
      (True ∧ (1 : Nat) ≤ (1 : Nat) ∧ T12.SizeOK [ByteArray.extract (Sx.bsOf (List.flatMap T12.enc [r])) (0 : Nat) (Int.toNat (Go.IntKind.wrap Go.IntKind.i64 (Int.tmod k
      (Go.IntKind.wrap Go.IntKind.i64 ((4 : Int) - (1 : Int))) + (1 : Int))))] ∧ (1 : Nat) ≤ (1000000 : Nat)) ∧ ∀ (b_1 : List Int × ByteArray), T12.Fed { data := #[] }
      [ByteArray.extract (Sx.bsOf (List.flatMap T12.enc [r])) (0 : Nat) (Int.toNat (Go.IntKind.wrap Go.IntKind.i64 (Int.tmod k (Go.IntKind.wrap Go.IntKind.i64 ((4 : Int) - (1 :
      Int))) + (1 : Int))))] b_1 → True ∧ ((0 : Int) ≤ Go.IntKind.wrap Go.IntKind.i64 (Int.tmod k (Go.IntKind.wrap Go.IntKind.i64 ((4 : Int) - (1 : Int))) + (1 : Int)) ∧
      Go.IntKind.wrap Go.IntKind.i64 (Int.tmod k (Go.IntKind.wrap Go.IntKind.i64 ((4 : Int) - (1 : Int))) + (1 : Int)) ≤ (↑(ByteArray.size (Sx.bsOf (List.flatMap T12.enc [r])))
      : Int)) ∧ (T12.Good (Sx.strInts (Prod.snd b_1)) ∧ (1 : Nat) ≤ (1 : Nat) ∧ T12.SizeOK [ByteArray.extract (Sx.bsOf (List.flatMap T12.enc [r])) (Int.toNat (Go.IntKind.wrap
      Go.IntKind.i64 (Int.tmod k (Go.IntKind.wrap Go.IntKind.i64 ((4 : Int) - (1 : Int))) + (1 : Int)))) (ByteArray.size (Sx.bsOf (List.flatMap T12.enc [r])))] ∧ (1 : Nat) ≤
      (1000000 : Nat)) ∧ ∀ (b_2 : List Int × ByteArray), T12.Fed (Prod.snd b_1) [ByteArray.extract (Sx.bsOf (List.flatMap T12.enc [r])) (Int.toNat (Go.IntKind.wrap
      Go.IntKind.i64 (Int.tmod k (Go.IntKind.wrap Go.IntKind.i64 ((4 : Int) - (1 : Int))) + (1 : Int)))) (ByteArray.size (Sx.bsOf (List.flatMap T12.enc [r])))] b_2 → Sx.br
      ((↑(List.length (Prod.fst b)) : Int) == (0 : Int)) (((0 : Int) ≤ (0 : Int) ∧ (0 : Int) < (↑(1 : Nat) : Int)) ∧ (0 : Nat) < (1 : Nat) ∧ Sx.br ((↑(List.length (Prod.fst
      b_1)) : Int) == (0 : Int)) (Sx.br ((↑(ByteArray.size (Prod.snd b_2)) : Int) == (0 : Int)) (Sx.br ((↑(List.length (Prod.fst b_2)) : Int) == (1 : Int)) (((0 : Int) ≤ (0 :
      Int) ∧ (0 : Int) < (↑(List.length (Prod.fst b_2)) : Int)) ∧ (0 : Nat) < List.length (Prod.fst b_2) ∧ Q (Sx.SV.lit (Go.Value.bool (List.getD (Prod.fst b_2) (0 : Nat)
      (Sx.Ty.dflt (Sx.Ty.int Go.IntKind.i32)) == r)), ([] : List Sx.SO), [])) (Q (Sx.SV.lit (Go.Value.bool Bool.false), ([] : List Sx.SO), []))) (Q (Sx.SV.lit (Go.Value.bool
      Bool.false), ([] : List Sx.SO), []))) (Q (Sx.SV.lit (Go.Value.bool Bool.false), ([] : List Sx.SO), []))) (Q (Sx.SV.lit (Go.Value.bool Bool.false), ([] : List Sx.SO),
      []))))) (Sx.br ((↑(ByteArray.size (Sx.bsOf (List.flatMap T12.enc [r]))) : Int) != (3 : Int)) (Q (Sx.SV.lit (Go.Value.bool Bool.false), ([] : List Sx.SO), []))
      ((Go.IntKind.wrap Go.IntKind.i64 ((3 : Int) - (1 : Int)) = (0 : Int) → False) ∧ ((0 : Int) ≤ Go.IntKind.wrap Go.IntKind.i64 (Int.tmod k (Go.IntKind.wrap Go.IntKind.i64 ((3
      : Int) - (1 : Int))) + (1 : Int)) ∧ Go.IntKind.wrap Go.IntKind.i64 (Int.tmod k (Go.IntKind.wrap Go.IntKind.i64 ((3 : Int) - (1 : Int))) + (1 : Int)) ≤ (↑(ByteArray.size
      (Sx.bsOf (List.flatMap T12.enc [r]))) : Int)) ∧ True ∧ (True ∧ (1 : Nat) ≤ (1 : Nat) ∧ T12.SizeOK [ByteArray.extract (Sx.bsOf (List.flatMap T12.enc [r])) (0 : Nat)
      (Int.toNat (Go.IntKind.wrap Go.IntKind.i64 (Int.tmod k (Go.IntKind.wrap Go.IntKind.i64 ((3 : Int) - (1 : Int))) + (1 : Int))))] ∧ (1 : Nat) ≤ (1000000 : Nat)) ∧ ∀ (b :
      List Int × ByteArray), T12.Fed { data := #[] } [ByteArray.extract (Sx.bsOf (List.flatMap T12.enc [r])) (0 : Nat) (Int.toNat (Go.IntKind.wrap Go.IntKind.i64 (Int.tmod k
      (Go.IntKind.wrap Go.IntKind.i64 ((3 : Int) - (1 : Int))) + (1 : Int))))] b → Sx.br ((↑(ByteArray.size (Prod.snd b)) : Int) == (0 : Int)) (((0 : Int) ≤ Go.IntKind.wrap
      Go.IntKind.i64 (Int.tmod k (Go.IntKind.wrap Go.IntKind.i64 ((3 : Int) - (1 : Int))) + (1 : Int)) ∧ Go.IntKind.wrap Go.IntKind.i64 (Int.tmod k (Go.IntKind.wrap
      Go.IntKind.i64 ((3 : Int) - (1 : Int))) + (1 : Int)) ≤ (↑(ByteArray.size (Sx.bsOf (List.flatMap T12.enc [r]))) : Int)) ∧ True ∧ (True ∧ (1 : Nat) ≤ (1 : Nat) ∧ T12.SizeOK
      [ByteArray.extract (Sx.bsOf (List.flatMap T12.enc [r])) (0 : Nat) (Int.toNat (Go.IntKind.wrap Go.IntKind.i64 (Int.tmod k (Go.IntKind.wrap Go.IntKind.i64 ((3 : Int) - (1 :
      Int))) + (1 : Int))))] ∧ (1 : Nat) ≤ (1000000 : Nat)) ∧ ∀ (b_1 : List Int × ByteArray), T12.Fed { data := #[] } [ByteArray.extract (Sx.bsOf (List.flatMap T12.enc [r])) (0
      : Nat) (Int.toNat (Go.IntKind.wrap Go.IntKind.i64 (Int.tmod k (Go.IntKind.wrap Go.IntKind.i64 ((3 : Int) - (1 : Int))) + (1 : Int))))] b_1 → True ∧ ((0 : Int) ≤
      Go.IntKind.wrap Go.IntKind.i64 (Int.tmod k (Go.IntKind.wrap Go.IntKind.i64 ((3 : Int) - (1 : Int))) + (1 : Int)) ∧ Go.IntKind.wrap Go.IntKind.i64 (Int.tmod k
      (Go.IntKind.wrap Go.IntKind.i64 ((3 : Int) - (1 : Int))) + (1 : Int)) ≤ (↑(ByteArray.size (Sx.bsOf (List.flatMap T12.enc [r]))) : Int)) ∧ (T12.Good (Sx.strInts (Prod.snd
      b_1)) ∧ (1 : Nat) ≤ (1 : Nat) ∧ T12.SizeOK [ByteArray.extract (Sx.bsOf (List.flatMap T12.enc [r])) (Int.toNat (Go.IntKind.wrap Go.IntKind.i64 (Int.tmod k (Go.IntKind.wrap
      Go.IntKind.i64 ((3 : Int) - (1 : Int))) + (1 : Int)))) (ByteArray.size (Sx.bsOf (List.flatMap T12.enc [r])))] ∧ (1 : Nat) ≤ (1000000 : Nat)) ∧ ∀ (b_2 : List Int ×
      ByteArray), T12.Fed (Prod.snd b_1) [ByteArray.extract (Sx.bsOf (List.flatMap T12.enc [r])) (Int.toNat (Go.IntKind.wrap Go.IntKind.i64 (Int.tmod k (Go.IntKind.wrap
      Go.IntKind.i64 ((3 : Int) - (1 : Int))) + (1 : Int)))) (ByteArray.size (Sx.bsOf (List.flatMap T12.enc [r])))] b_2 → Sx.br ((↑(List.length (Prod.fst b)) : Int) == (0 :
      Int)) (Q (Sx.SV.lit (Go.Value.bool Bool.false), ([] : List Sx.SO), [])) (Q (Sx.SV.lit (Go.Value.bool Bool.false), ([] : List Sx.SO), []))) (((0 : Int) ≤ Go.IntKind.wrap
      Go.IntKind.i64 (Int.tmod k (Go.IntKind.wrap Go.IntKind.i64 ((3 : Int) - (1 : Int))) + (1 : Int)) ∧ Go.IntKind.wrap Go.IntKind.i64 (Int.tmod k (Go.IntKind.wrap
      Go.IntKind.i64 ((3 : Int) - (1 : Int))) + (1 : Int)) ≤ (↑(ByteArray.size (Sx.bsOf (List.flatMap T12.enc [r]))) : Int)) ∧ True ∧ (True ∧ (1 : Nat) ≤ (1 : Nat) ∧ T12.SizeOK
      [ByteArray.extract (Sx.bsOf (List.flatMap T12.enc [r])) (0 : Nat) (Int.toNat (Go.IntKind.wrap Go.IntKind.i64 (Int.tmod k (Go.IntKind.wrap Go.IntKind.i64 ((3 : Int) - (1 :
      Int))) + (1 : Int))))] ∧ (1 : Nat) ≤ (1000000 : Nat)) ∧ ∀ (b_1 : List Int × ByteArray), T12.Fed { data := #[] } [ByteArray.extract (Sx.bsOf (List.flatMap T12.enc [r])) (0
      : Nat) (Int.toNat (Go.IntKind.wrap Go.IntKind.i64 (Int.tmod k (Go.IntKind.wrap Go.IntKind.i64 ((3 : Int) - (1 : Int))) + (1 : Int))))] b_1 → True ∧ ((0 : Int) ≤
      Go.IntKind.wrap Go.IntKind.i64 (Int.tmod k (Go.IntKind.wrap Go.IntKind.i64 ((3 : Int) - (1 : Int))) + (1 : Int)) ∧ Go.IntKind.wrap Go.IntKind.i64 (Int.tmod k
      (Go.IntKind.wrap Go.IntKind.i64 ((3 : Int) - (1 : Int))) + (1 : Int)) ≤ (↑(ByteArray.size (Sx.bsOf (List.flatMap T12.enc [r]))) : Int)) ∧ (T12.Good (Sx.strInts (Prod.snd
      b_1)) ∧ (1 : Nat) ≤ (1 : Nat) ∧ T12.SizeOK [ByteArray.extract (Sx.bsOf (List.flatMap T12.enc [r])) (Int.toNat (Go.IntKind.wrap Go.IntKind.i64 (Int.tmod k (Go.IntKind.wrap
      Go.IntKind.i64 ((3 : Int) - (1 : Int))) + (1 : Int)))) (ByteArray.size (Sx.bsOf (List.flatMap T12.enc [r])))] ∧ (1 : Nat) ≤ (1000000 : Nat)) ∧ ∀ (b_2 : List Int ×
      ByteArray), T12.Fed (Prod.snd b_1) [ByteArray.extract (Sx.bsOf (List.flatMap T12.enc [r])) (Int.toNat (Go.IntKind.wrap Go.IntKind.i64 (Int.tmod k (Go.IntKind.wrap
      Go.IntKind.i64 ((3 : Int) - (1 : Int))) + (1 : Int)))) (ByteArray.size (Sx.bsOf (List.flatMap T12.enc [r])))] b_2 → Sx.br ((↑(List.length (Prod.fst b)) : Int) == (0 :
      Int)) (((0 : Int) ≤ (0 : Int) ∧ (0 : Int) < (↑(1 : Nat) : Int)) ∧ (0 : Nat) < (1 : Nat) ∧ Sx.br ((↑(List.length (Prod.fst b_1)) : Int) == (0 : Int)) (Sx.br
      ((↑(ByteArray.size (Prod.snd b_2)) : Int) == (0 : Int)) (Sx.br ((↑(List.length (Prod.fst b_2)) : Int) == (1 : Int)) (((0 : Int) ≤ (0 : Int) ∧ (0 : Int) < (↑(List.length
      (Prod.fst b_2)) : Int)) ∧ (0 : Nat) < List.length (Prod.fst b_2) ∧ Q (Sx.SV.lit (Go.Value.bool (List.getD (Prod.fst b_2) (0 : Nat) (Sx.Ty.dflt (Sx.Ty.int Go.IntKind.i32))
      == r)), ([] : List Sx.SO), [])) (Q (Sx.SV.lit (Go.Value.bool Bool.false), ([] : List Sx.SO), []))) (Q (Sx.SV.lit (Go.Value.bool Bool.false), ([] : List Sx.SO), []))) (Q
      (Sx.SV.lit (Go.Value.bool Bool.false), ([] : List Sx.SO), []))) (Q (Sx.SV.lit (Go.Value.bool Bool.false), ([] : List Sx.SO), [])))))) (Sx.br (Decidable.decide (r ≥ (65536
      : Int))) (Sx.br ((↑(ByteArray.size (Sx.bsOf (List.flatMap T12.enc [r]))) : Int) != (4 : Int)) (Q (Sx.SV.lit (Go.Value.bool Bool.false), ([] : List Sx.SO), []))
      ((Go.IntKind.wrap Go.IntKind.i64 ((4 : Int) - (1 : Int)) = (0 : Int) → False) ∧ ((0 : Int) ≤ Go.IntKind.wrap Go.IntKind.i64 (Int.tmod k (Go.IntKind.wrap Go.IntKind.i64 ((4
      : Int) - (1 : Int))) + (1 : Int)) ∧ Go.IntKind.wrap Go.IntKind.i64 (Int.tmod k (Go.IntKind.wrap Go.IntKind.i64 ((4 : Int) - (1 : Int))) + (1 : Int)) ≤ (↑(ByteArray.size
      (Sx.bsOf (List.flatMap T12.enc [r]))) : Int)) ∧ True ∧ (True ∧ (1 : Nat) ≤ (1 : Nat) ∧ T12.SizeOK [ByteArray.extract (Sx.bsOf (List.flatMap T12.enc [r])) (0 : Nat)
      (Int.toNat (Go.IntKind.wrap Go.IntKind.i64 (Int.tmod k (Go.IntKind.wrap Go.IntKind.i64 ((4 : Int) - (1 : Int))) + (1 : Int))))] ∧ (1 : Nat) ≤ (1000000 : Nat)) ∧ ∀ (b :
      List Int × ByteArray), T12.Fed { data := #[] } [ByteArray.extract (Sx.bsOf (List.flatMap T12.enc [r])) (0 : Nat) (Int.toNat (Go.IntKind.wrap Go.IntKind.i64 (Int.tmod k
      (Go.IntKind.wrap Go.IntKind.i64 ((4 : Int) - (1 : Int))) + (1 : Int))))] b → Sx.br ((↑(ByteArray.size (Prod.snd b)) : Int) == (0 : Int)) (((0 : Int) ≤ Go.IntKind.wrap
      Go.IntKind.i64 (Int.tmod k (Go.IntKind.wrap Go.IntKind.i64 ((4 : Int) - (1 : Int))) + (1 : Int)) ∧ Go.IntKind.wrap Go.IntKind.i64 (Int.tmod k (Go.IntKind.wrap
      Go.IntKind.i64 ((4 : Int) - (1 : Int))) + (1 : Int)) ≤ (↑(ByteArray.size (Sx.bsOf (List.flatMap T12.enc [r]))) : Int)) ∧ True ∧ (True ∧ (1 : Nat) ≤ (1 : Nat) ∧ T12.SizeOK
      [ByteArray.extract (Sx.bsOf (List.flatMap T12.enc [r])) (0 : Nat) (Int.toNat (Go.IntKind.wrap Go.IntKind.i64 (Int.tmod k (Go.IntKind.wrap Go.IntKind.i64 ((4 : Int) - (1 :
      Int))) + (1 : Int))))] ∧ (1 : Nat) ≤ (1000000 : Nat)) ∧ ∀ (b_1 : List Int × ByteArray), T12.Fed { data := #[] } [ByteArray.extract (Sx.bsOf (List.flatMap T12.enc [r])) (0
      : Nat) (Int.toNat (Go.IntKind.wrap Go.IntKind.i64 (Int.tmod k (Go.IntKind.wrap Go.IntKind.i64 ((4 : Int) - (1 : Int))) + (1 : Int))))] b_1 → True ∧ ((0 : Int) ≤
      Go.IntKind.wrap Go.IntKind.i64 (Int.tmod k (Go.IntKind.wrap Go.IntKind.i64 ((4 : Int) - (1 : Int))) + (1 : Int)) ∧ Go.IntKind.wrap Go.IntKind.i64 (Int.tmod k
      (Go.IntKind.wrap Go.IntKind.i64 ((4 : Int) - (1 : Int))) + (1 : Int)) ≤ (↑(ByteArray.size (Sx.bsOf (List.flatMap T12.enc [r]))) : Int)) ∧ (T12.Good (Sx.strInts (Prod.snd
      b_1)) ∧ (1 : Nat) ≤ (1 : Nat) ∧ T12.SizeOK [ByteArray.extract (Sx.bsOf (List.flatMap T12.enc [r])) (Int.toNat (Go.IntKind.wrap Go.IntKind.i64 (Int.tmod k (Go.IntKind.wrap
      Go.IntKind.i64 ((4 : Int) - (1 : Int))) + (1 : Int)))) (ByteArray.size (Sx.bsOf (List.flatMap T12.enc [r])))] ∧ (1 : Nat) ≤ (1000000 : Nat)) ∧ ∀ (b_2 : List Int ×
      ByteArray), T12.Fed (Prod.snd b_1) [ByteArray.extract (Sx.bsOf (List.flatMap T12.enc [r])) (Int.toNat (Go.IntKind.wrap Go.IntKind.i64 (Int.tmod k (Go.IntKind.wrap
      Go.IntKind.i64 ((4 : Int) - (1 : Int))) + (1 : Int)))) (ByteArray.size (Sx.bsOf (List.flatMap T12.enc [r])))] b_2 → Sx.br ((↑(List.length (Prod.fst b)) : Int) == (0 :
      Int)) (Q (Sx.SV.lit (Go.Value.bool Bool.false), ([] : List Sx.SO), [])) (Q (Sx.SV.lit (Go.Value.bool Bool.false), ([] : List Sx.SO), []))) (((0 : Int) ≤ Go.IntKind.wrap
      Go.IntKind.i64 (Int.tmod k (Go.IntKind.wrap Go.IntKind.i64 ((4 : Int) - (1 : Int))) + (1 : Int)) ∧ Go.IntKind.wrap Go.IntKind.i64 (Int.tmod k (Go.IntKind.wrap
      Go.IntKind.i64 ((4 : Int) - (1 : Int))) + (1 : Int)) ≤ (↑(ByteArray.size (Sx.bsOf (List.flatMap T12.enc [r]))) : Int)) ∧ True ∧ (True ∧ (1 : Nat) ≤ (1 : Nat) ∧ T12.SizeOK
      [ByteArray.extract (Sx.bsOf (List.flatMap T12.enc [r])) (0 : Nat) (Int.toNat (Go.IntKind.wrap Go.IntKind.i64 (Int.tmod k (Go.IntKind.wrap Go.IntKind.i64 ((4 : Int) - (1 :
      Int))) + (1 : Int))))] ∧ (1 : Nat) ≤ (1000000 : Nat)) ∧ ∀ (b_1 : List Int × ByteArray), T12.Fed { data := #[] } [ByteArray.extract (Sx.bsOf (List.flatMap T12.enc [r])) (0
      : Nat) (Int.toNat (Go.IntKind.wrap Go.IntKind.i64 (Int.tmod k (Go.IntKind.wrap Go.IntKind.i64 ((4 : Int) - (1 : Int))) + (1 : Int))))] b_1 → True ∧ ((0 : Int) ≤
      Go.IntKind.wrap Go.IntKind.i64 (Int.tmod k (Go.IntKind.wrap Go.IntKind.i64 ((4 : Int) - (1 : Int))) + (1 : Int)) ∧ Go.IntKind.wrap Go.IntKind.i64 (Int.tmod k
      (Go.IntKind.wrap Go.IntKind.i64 ((4 : Int) - (1 : Int))) + (1 : Int)) ≤ (↑(ByteArray.size (Sx.bsOf (List.flatMap T12.enc [r]))) : Int)) ∧ (T12.Good (Sx.strInts (Prod.snd
      b_1)) ∧ (1 : Nat) ≤ (1 : Nat) ∧ T12.SizeOK [ByteArray.extract (Sx.bsOf (List.flatMap T12.enc [r])) (Int.toNat (Go.IntKind.wrap Go.IntKind.i64 (Int.tmod k (Go.IntKind.wrap
      Go.IntKind.i64 ((4 : Int) - (1 : Int))) + (1 : Int)))) (ByteArray.size (Sx.bsOf (List.flatMap T12.enc [r])))] ∧ (1 : Nat) ≤ (1000000 : Nat)) ∧ ∀ (b_2 : List Int ×
      ByteArray), T12.Fed (Prod.snd b_1) [ByteArray.extract (Sx.bsOf (List.flatMap T12.enc [r])) (Int.toNat (Go.IntKind.wrap Go.IntKind.i64 (Int.tmod k (Go.IntKind.wrap
      Go.IntKind.i64 ((4 : Int) - (1 : Int))) + (1 : Int)))) (ByteArray.size (Sx.bsOf (List.flatMap T12.enc [r])))] b_2 → Sx.br ((↑(List.length (Prod.fst b)) : Int) == (0 :
      Int)) (((0 : Int) ≤ (0 : Int) ∧ (0 : Int) < (↑(1 : Nat) : Int)) ∧ (0 : Nat) < (1 : Nat) ∧ Sx.br ((↑(List.length (Prod.fst b_1)) : Int) == (0 : Int)) (Sx.br
      ((↑(ByteArray.size (Prod.snd b_2)) : Int) == (0 : Int)) (Sx.br ((↑(List.length (Prod.fst b_2)) : Int) == (1 : Int)) (((0 : Int) ≤ (0 : Int) ∧ (0 : Int) < (↑(List.length
      (Prod.fst b_2)) : Int)) ∧ (0 : Nat) < List.length (Prod.fst b_2) ∧ Q (Sx.SV.lit (Go.Value.bool (List.getD (Prod.fst b_2) (0 : Nat) (Sx.Ty.dflt (Sx.Ty.int Go.IntKind.i32))
      == r)), ([] : List Sx.SO), [])) (Q (Sx.SV.lit (Go.Value.bool Bool.false), ([] : List Sx.SO), []))) (Q (Sx.SV.lit (Go.Value.bool Bool.false), ([] : List Sx.SO), []))) (Q
      (Sx.SV.lit (Go.Value.bool Bool.false), ([] : List Sx.SO), []))) (Q (Sx.SV.lit (Go.Value.bool Bool.false), ([] : List Sx.SO), []))))) (Sx.br ((↑(ByteArray.size (Sx.bsOf
      (List.flatMap T12.enc [r]))) : Int) != (2 : Int)) (Q (Sx.SV.lit (Go.Value.bool Bool.false), ([] : List Sx.SO), [])) ((Go.IntKind.wrap Go.IntKind.i64 ((2 : Int) - (1 :
      Int)) = (0 : Int) → False) ∧ ((0 : Int) ≤ Go.IntKind.wrap Go.IntKind.i64 (Int.tmod k (Go.IntKind.wrap Go.IntKind.i64 ((2 : Int) - (1 : Int))) + (1 : Int)) ∧
      Go.IntKind.wrap Go.IntKind.i64 (Int.tmod k (Go.IntKind.wrap Go.IntKind.i64 ((2 : Int) - (1 : Int))) + (1 : Int)) ≤ (↑(ByteArray.size (Sx.bsOf (List.flatMap T12.enc [r])))
      : Int)) ∧ True ∧ (True ∧ (1 : Nat) ≤ (1 : Nat) ∧ T12.SizeOK [ByteArray.extract (Sx.bsOf (List.flatMap T12.enc [r])) (0 : Nat) (Int.toNat (Go.IntKind.wrap Go.IntKind.i64
      (Int.tmod k (Go.IntKind.wrap Go.IntKind.i64 ((2 : Int) - (1 : Int))) + (1 : Int))))] ∧ (1 : Nat) ≤ (1000000 : Nat)) ∧ ∀ (b : List Int × ByteArray), T12.Fed { data := #[] }
      [ByteArray.extract (Sx.bsOf (List.flatMap T12.enc [r])) (0 : Nat) (Int.toNat (Go.IntKind.wrap Go.IntKind.i64 (Int.tmod k (Go.IntKind.wrap Go.IntKind.i64 ((2 : Int) - (1 :
      Int))) + (1 : Int))))] b → Sx.br ((↑(ByteArray.size (Prod.snd b)) : Int) == (0 : Int)) (((0 : Int) ≤ Go.IntKind.wrap Go.IntKind.i64 (Int.tmod k (Go.IntKind.wrap
      Go.IntKind.i64 ((2 : Int) - (1 : Int))) + (1 : Int)) ∧ Go.IntKind.wrap Go.IntKind.i64 (Int.tmod k (Go.IntKind.wrap Go.IntKind.i64 ((2 : Int) - (1 : Int))) + (1 : Int)) ≤
      (↑(ByteArray.size (Sx.bsOf (List.flatMap T12.enc [r]))) : Int)) ∧ True ∧ (True ∧ (1 : Nat) ≤ (1 : Nat) ∧ T12.SizeOK [ByteArray.extract (Sx.bsOf (List.flatMap T12.enc [r]))
      (0 : Nat) (Int.toNat (Go.IntKind.wrap Go.IntKind.i64 (Int.tmod k (Go.IntKind.wrap Go.IntKind.i64 ((2 : Int) - (1 : Int))) + (1 : Int))))] ∧ (1 : Nat) ≤ (1000000 : Nat)) ∧
      ∀ (b_1 : List Int × ByteArray), T12.Fed { data := #[] } [ByteArray.extract (Sx.bsOf (List.flatMap T12.enc [r])) (0 : Nat) (Int.toNat (Go.IntKind.wrap Go.IntKind.i64
      (Int.tmod k (Go.IntKind.wrap Go.IntKind.i64 ((2 : Int) - (1 : Int))) + (1 : Int))))] b_1 → True ∧ ((0 : Int) ≤ Go.IntKind.wrap Go.IntKind.i64 (Int.tmod k (Go.IntKind.wrap
      Go.IntKind.i64 ((2 : Int) - (1 : Int))) + (1 : Int)) ∧ Go.IntKind.wrap Go.IntKind.i64 (Int.tmod k (Go.IntKind.wrap Go.IntKind.i64 ((2 : Int) - (1 : Int))) + (1 : Int)) ≤
      (↑(ByteArray.size (Sx.bsOf (List.flatMap T12.enc [r]))) : Int)) ∧ (T12.Good (Sx.strInts (Prod.snd b_1)) ∧ (1 : Nat) ≤ (1 : Nat) ∧ T12.SizeOK [ByteArray.extract (Sx.bsOf
      (List.flatMap T12.enc [r])) (Int.toNat (Go.IntKind.wrap Go.IntKind.i64 (Int.tmod k (Go.IntKind.wrap Go.IntKind.i64 ((2 : Int) - (1 : Int))) + (1 : Int)))) (ByteArray.size
      (Sx.bsOf (List.flatMap T12.enc [r])))] ∧ (1 : Nat) ≤ (1000000 : Nat)) ∧ ∀ (b_2 : List Int × ByteArray), T12.Fed (Prod.snd b_1) [ByteArray.extract (Sx.bsOf (List.flatMap
      T12.enc [r])) (Int.toNat (Go.IntKind.wrap Go.IntKind.i64 (Int.tmod k (Go.IntKind.wrap Go.IntKind.i64 ((2 : Int) - (1 : Int))) + (1 : Int)))) (ByteArray.size (Sx.bsOf
      (List.flatMap T12.enc [r])))] b_2 → Sx.br ((↑(List.length (Prod.fst b)) : Int) == (0 : Int)) (Q (Sx.SV.lit (Go.Value.bool Bool.false), ([] : List Sx.SO), [])) (Q
      (Sx.SV.lit (Go.Value.bool Bool.false), ([] : List Sx.SO), []))) (((0 : Int) ≤ Go.IntKind.wrap Go.IntKind.i64 (Int.tmod k (Go.IntKind.wrap Go.IntKind.i64 ((2 : Int) - (1 :
      Int))) + (1 : Int)) ∧ Go.IntKind.wrap Go.IntKind.i64 (Int.tmod k (Go.IntKind.wrap Go.IntKind.i64 ((2 : Int) - (1 : Int))) + (1 : Int)) ≤ (↑(ByteArray.size (Sx.bsOf
      (List.flatMap T12.enc [r]))) : Int)) ∧ True ∧ (True ∧ (1 : Nat) ≤ (1 : Nat) ∧ T12.SizeOK [ByteArray.extract (Sx.bsOf (List.flatMap T12.enc [r])) (0 : Nat) (Int.toNat
      (Go.IntKind.wrap Go.IntKind.i64 (Int.tmod k (Go.IntKind.wrap Go.IntKind.i64 ((2 : Int) - (1 : Int))) + (1 : Int))))] ∧ (1 : Nat) ≤ (1000000 : Nat)) ∧ ∀ (b_1 : List Int ×
      ByteArray), T12.Fed { data := #[] } [ByteArray.extract (Sx.bsOf (List.flatMap T12.enc [r])) (0 : Nat) (Int.toNat (Go.IntKind.wrap Go.IntKind.i64 (Int.tmod k
      (Go.IntKind.wrap Go.IntKind.i64 ((2 : Int) - (1 : Int))) + (1 : Int))))] b_1 → True ∧ ((0 : Int) ≤ Go.IntKind.wrap Go.IntKind.i64 (Int.tmod k (Go.IntKind.wrap
      Go.IntKind.i64 ((2 : Int) - (1 : Int))) + (1 : Int)) ∧ Go.IntKind.wrap Go.IntKind.i64 (Int.tmod k (Go.IntKind.wrap Go.IntKind.i64 ((2 : Int) - (1 : Int))) + (1 : Int)) ≤
      (↑(ByteArray.size (Sx.bsOf (List.flatMap T12.enc [r]))) : Int)) ∧ (T12.Good (Sx.strInts (Prod.snd b_1)) ∧ (1 : Nat) ≤ (1 : Nat) ∧ T12.SizeOK [ByteArray.extract (Sx.bsOf
      (List.flatMap T12.enc [r])) (Int.toNat (Go.IntKind.wrap Go.IntKind.i64 (Int.tmod k (Go.IntKind.wrap Go.IntKind.i64 ((2 : Int) - (1 : Int))) + (1 : Int)))) (ByteArray.size
      (Sx.bsOf (List.flatMap T12.enc [r])))] ∧ (1 : Nat) ≤ (1000000 : Nat)) ∧ ∀ (b_2 : List Int × ByteArray), T12.Fed (Prod.snd b_1) [ByteArray.extract (Sx.bsOf (List.flatMap
      T12.enc [r])) (Int.toNat (Go.IntKind.wrap Go.IntKind.i64 (Int.tmod k (Go.IntKind.wrap Go.IntKind.i64 ((2 : Int) - (1 : Int))) + (1 : Int)))) (ByteArray.size (Sx.bsOf
      (List.flatMap T12.enc [r])))] b_2 → Sx.br ((↑(List.length (Prod.fst b)) : Int) == (0 : Int)) (((0 : Int) ≤ (0 : Int) ∧ (0 : Int) < (↑(1 : Nat) : Int)) ∧ (0 : Nat) < (1 :
      Nat) ∧ Sx.br ((↑(List.length (Prod.fst b_1)) : Int) == (0 : Int)) (Sx.br ((↑(ByteArray.size (Prod.snd b_2)) : Int) == (0 : Int)) (Sx.br ((↑(List.length (Prod.fst b_2)) :
      Int) == (1 : Int)) (((0 : Int) ≤ (0 : Int) ∧ (0 : Int) < (↑(List.length (Prod.fst b_2)) : Int)) ∧ (0 : Nat) < List.length (Prod.fst b_2) ∧ Q (Sx.SV.lit (Go.Value.bool
      (List.getD (Prod.fst b_2) (0 : Nat) (Sx.Ty.dflt (Sx.Ty.int Go.IntKind.i32)) == r)), ([] : List Sx.SO), [])) (Q (Sx.SV.lit (Go.Value.bool Bool.false), ([] : List Sx.SO),
      []))) (Q (Sx.SV.lit (Go.Value.bool Bool.false), ([] : List Sx.SO), []))) (Q (Sx.SV.lit (Go.Value.bool Bool.false), ([] : List Sx.SO), []))) (Q (Sx.SV.lit (Go.Value.bool
      Bool.false), ([] : List Sx.SO), []))))))))))) (by kernel_rfl) ?_
  have hx : ∀ x : (Ty.int IntKind.i32).den, x ∈ [r] → -2147483648 ≤ x ∧ x ≤ 2147483647 := fun x hx => by
    have : x = r := by simpa using hx
    subst this; exact hr
  have w4 : IntKind.i64.wrap (4 - 1) = 3 := by decide
  have w3 : IntKind.i64.wrap (3 - 1) = 2 := by decide
  have w2 : IntKind.i64.wrap (2 - 1) = 1 := by decide
  simp only [w4, w3, w2, enc_size]
  have l4 : 65536 ≤ r ∧ r ≤ 1114111 → (enc r).length = 4 := fun h => by rw [enc4 h]; rfl
  have l3 : (2048 ≤ r ∧ r < 55296 ∨ 57343 < r ∧ r < 65536) → (enc r).length = 3 := fun h => by rw [enc3 h]; rfl
  have l2 : 128 ≤ r ∧ r < 2048 → (enc r).length = 2 := fun h => by rw [enc2 h]; rfl
  have hok := half_ok r
  refine br_intro (fun _ => hq) (fun a1 => br_intro (fun _ => hq) (fun a2 => br_intro (fun a3 => br_intro (fun _ => hq) (fun a4 => br_intro (fun _ => hq) (fun a5 => ⟨⟨by omega, by omega, hx⟩, ?_⟩))) (fun a3 => br_intro (fun _ => hq) (fun a5 => ⟨⟨by omega, by omega, hx⟩, ?_⟩))))
  all_goals simp only [decide_eq_true_eq, decide_eq_false_iff_not] at a1 a2 a3 a5
  all_goals try simp only [decide_eq_false_iff_not] at a4
  all_goals have k1 : IntKind.i64.wrap (k.tmod 3 + 1) = (((k % 3).toNat + 1 : Nat) : Int) := by rw [Int.tmod_eq_emod_of_nonneg (by omega), IntKind.wrap_i64]; omega
  all_goals have k2 : IntKind.i64.wrap (k.tmod 2 + 1) = (((k % 2).toNat + 1 : Nat) : Int) := by rw [Int.tmod_eq_emod_of_nonneg (by omega), IntKind.wrap_i64]; omega
  all_goals have k3 : IntKind.i64.wrap (k.tmod 1 + 1) = ((0 + 1 : Nat) : Int) := by rw [Int.tmod_eq_emod_of_nonneg (by omega), IntKind.wrap_i64]; omega
  all_goals have m1 : (k % 3).toNat < 3 := by omega
  all_goals have m2 : (k % 2).toNat < 2 := by omega
  all_goals rw [k1, k2, k3]
  all_goals simp only [Int.toNat_natCast]
  all_goals generalize (k % 3).toNat = x3 at *
  all_goals generalize (k % 2).toNat = x2 at *
  all_goals refine br_intro (fun b1 => br_intro (fun b2 => br_intro (fun c => ?_) (fun c => ?_)) (fun b2 => br_intro (fun c => ?_) (fun c => ?_))) (fun b1 => br_intro (fun b2 => br_intro (fun c => ?_) (fun c => ?_)) (fun b2 => br_intro (fun c => ?_) (fun c => ?_)))
  all_goals simp only [decide_eq_true_eq, decide_eq_false_iff_not] at b1 b2
  all_goals first | (exfalso; omega) | skip
  all_goals first | rw [l4 (by omega)] at c | rw [l3 (by omega)] at c | rw [l2 (by omega)] at c
  all_goals first | (exact absurd c (by decide)) | skip
  all_goals refine ⟨by omega, by omega, trivial, ⟨trivial, by omega, hok _ _, by omega⟩, fun b hb => ?_⟩
  all_goals obtain ⟨p1, p2, p3, p4⟩ := half_facts (by omega) (by omega) (by omega) hb
  all_goals refine br_intro (fun g => by have g := eq_of_beq g; omega) (fun _ => ⟨by omega, trivial, ⟨trivial, by omega, hok _ _, by omega⟩, fun b' hb' => ⟨trivial, by omega, ?_⟩⟩)
  all_goals obtain ⟨q1, q2, q3, q4⟩ := half_facts (by omega) (by omega) (by omega) hb'
  all_goals refine ⟨⟨q3, by omega, hok _ _, by omega⟩, fun b2 hb2 => ?_⟩
  all_goals obtain ⟨r1, r2⟩ := q4 b2 hb2
  all_goals rw [p1, q1, r1, r2]
  all_goals refine br_intro (fun _ => ⟨by omega, by omega, br_intro (fun _ => br_intro (fun _ => br_intro (fun _ => ⟨⟨by omega, by simp⟩, by simp, ?_⟩) (fun g => by simp at g)) (fun g => by cases g)) (fun g => by cases g)⟩) (fun g => by cases g)
  all_goals have e : (([r] : List Int).getD 0 (Ty.int IntKind.i32).dflt == r) = true := by simp
  all_goals rw [e]; exact hq
theorem v10 (l : List Int) (Q : SV × Heap × List Nat → Prop) (hl : l.length ≤ 1000000) (hq : Q (.sl 0 1 0 l.length, [.row 21 (.int .i32) (l ++ [77])], [])) : (bodySumm T4 Try.prog Try.f10 noAn [.imm (.int .i32) l] []).Leads Q := by
  refine Sx.by_text (q :=
      ((↑((0 : Nat) + List.length l) : Int) ≤ (9223372036854775807 : Int) ∧ ((0 : Nat) + List.length l) * Sx.bytesOf Go.Proofs.Try.prog (21 : Nat) ≤ (140737488355328 : Nat)) ∧
      (1 : Nat) ≤ (1 : Nat) ∧ Sx.br (Decidable.decide (List.length l + (1 : Nat) ≤ List.length l)) (((0 : Int) ≤ (↑(List.length l) : Int) ∧ (↑(List.length l) : Int) ≤
      (↑(List.length (List.take (List.length l) l ++ [(77 : Int)] ++ List.drop (List.length l + (1 : Nat)) l)) : Int)) ∧ True ∧ Q (Sx.SV.sl (0 : Nat) (1 : Nat) (0 : Nat)
      (List.length l), [Sx.SO.row (21 : Nat) (Sx.Ty.int Go.IntKind.i32) (List.take (List.length l) l ++ [(77 : Int)] ++ List.drop (List.length l + (1 : Nat)) l)], []))
      (List.length l ≤ List.length l ∧ ((↑(List.length l + (1 : Nat)) : Int) ≤ (9223372036854775807 : Int) ∧ (List.length l + (1 : Nat)) * Sx.bytesOf Go.Proofs.Try.prog (21 :
      Nat) ≤ (140737488355328 : Nat)) ∧ ((0 : Int) ≤ (↑(List.length l) : Int) ∧ (↑(List.length l) : Int) ≤ (↑(List.length (List.take (List.length l) l ++ [(77 : Int)])) : Int))
      ∧ True ∧ Q (Sx.SV.sl (0 : Nat) (1 : Nat) (0 : Nat) (List.length l), [Sx.SO.row (21 : Nat) (Sx.Ty.int Go.IntKind.i32) (List.take (List.length l) l ++ [(77 : Int)])], []))) (by kernel_rfl) ?_
  have hb : bytesOf Try.prog 21 = 4 := by kernel_rfl
  refine ⟨⟨by omega, by rw [hb]; omega⟩, by omega, br_intro (fun h => by have := of_decide_eq_true h; omega) (fun _ => ⟨by omega, ⟨by omega, by rw [hb]; omega⟩, ⟨by omega, ?_⟩, trivial, ?_⟩)⟩
  · rw [List.length_append, List.length_take]; simp; omega
  · rw [List.take_length]; exact hq
noncomputable def s10 : Summ := fun args H => match args, H with
  | [.imm (.int .i32) l], [] => .need (l.length ≤ 1000000) (.ret (.sl 0 1 0 l.length, [.row 21 (.int .i32) (l ++ [77])], []))
  | _, _ => .fail
theorem s10_ok : SummOK Try.prog 10 s10 := by
  refine summ_of_body (fn := Try.f10) (c := Try.f10.body.get!) T4_ok (by kernel_rfl) (by kernel_rfl) (by kernel_rfl) fun args H Q h => ?_
  unfold s10 at h
  split at h
  · simp only [Tree.Leads] at h
    exact ⟨noAn, v10 _ Q h.1 h.2⟩
  · simp only [Tree.Leads] at h
theorem v16 (l : List Int) (Q : SV × Heap × List Nat → Prop) (hl : l.length ≤ 1000000) (hq : Q (.lit (.bool true), [.row 21 (.int .i32) (l ++ [77])], [])) : (bodySumm T4 Try.prog Try.f16 noAn [.sl 0 1 0 l.length, .imm (.int .i32) l] [.row 21 (.int .i32) (l ++ [77])]).Leads Q := by
  refine Sx.by_text (q :=
      ((0 : Nat) + List.length l ≤ List.length (l ++ [(77 : Int)]) ∧ List.length l ≤ (1000000 : Nat)) ∧ Sx.br (Decidable.decide (List.take (List.length l) (List.drop (0 : Nat)
      (l ++ [(77 : Int)])) = l)) (((0 : Int) ≤ Go.IntKind.wrap Go.IntKind.i64 ((↑(List.length l) : Int) + (1 : Int)) ∧ Go.IntKind.wrap Go.IntKind.i64 ((↑(List.length l) : Int) +
      (1 : Int)) ≤ (↑(List.length (l ++ [(77 : Int)])) : Int)) ∧ True ∧ ((0 : Int) ≤ (↑(List.length l) : Int) ∧ (↑(List.length l) : Int) < (↑(Int.toNat (Go.IntKind.wrap
      Go.IntKind.i64 ((↑(List.length l) : Int) + (1 : Int)))) : Int)) ∧ (0 : Nat) + List.length l < List.length (l ++ [(77 : Int)]) ∧ Q (Sx.SV.lit (Go.Value.bool (List.getD (l
      ++ [(77 : Int)]) ((0 : Nat) + List.length l) (Sx.Ty.dflt (Sx.Ty.int Go.IntKind.i32)) == (77 : Int))), [Sx.SO.row (21 : Nat) (Sx.Ty.int Go.IntKind.i32) (l ++ [(77 :
      Int)])], [])) (Q (Sx.SV.lit (Go.Value.bool Bool.false), [Sx.SO.row (21 : Nat) (Sx.Ty.int Go.IntKind.i32) (l ++ [(77 : Int)])], []))) (by kernel_rfl) ?_
  have e1 : (l ++ [77]).length = l.length + 1 := by rw [List.length_append]; rfl
  have e2 : IntKind.i64.wrap ((l.length : Int) + 1) = ((l.length + 1 : Nat) : Int) := wrap1 _ (by omega)
  rw [e1, e2, List.drop_zero, List.take_left]
  refine ⟨⟨by omega, hl⟩, br_intro (fun _ => ⟨by omega, trivial, by omega, by omega, ?_⟩) (fun g => absurd (of_decide_eq_false g) (by simp))⟩
  have e3 : ((l ++ [77]).getD (0 + l.length) (Ty.int IntKind.i32).dflt == 77) = true := by
    rw [Nat.zero_add, List.getD_eq_getElem?_getD, List.getElem?_append_right (Nat.le_refl _), Nat.sub_self]; rfl
  rw [e3]; exact hq
noncomputable def s16 : Summ := fun args H => match args, H with
  | [.sl 0 1 0 m, .imm (.int .i32) l], [.row 21 (.int .i32) R] => .need (m = l.length ∧ R = l ++ [77] ∧ l.length ≤ 1000000) (.ret (.lit (.bool true), [.row 21 (.int .i32) R], []))
  | _, _ => .fail
theorem s16_ok : SummOK Try.prog 16 s16 := by
  refine summ_of_body (fn := Try.f16) (c := Try.f16.body.get!) T4_ok (by kernel_rfl) (by kernel_rfl) (by kernel_rfl) fun args H Q h => ?_
  unfold s16 at h
  split at h
  · simp only [Tree.Leads] at h
    obtain ⟨⟨rfl, rfl, h3⟩, hq⟩ := h
    exact ⟨noAn, v16 _ Q h3 hq⟩
  · simp only [Tree.Leads] at h
noncomputable def T7 : Table := (T6.add 10 (.go s10)).add 16 (.go s16)
theorem T7_ok : TableOK Try.prog T7 := add_ok (add_ok T6_ok s10_ok) s16_ok
noncomputable def A3 (l : List Int) : Ann := { live := [0, 3, 4, 5, 6], mv := [], nilS := [(5, 21, .int .i32)], head := fun vals H => match vals, H with | [a, b, _, _, _], X :: _ => { X := Nat, inv := fun i => ([a, b, .lit (.string (bsOf ((l.take i).flatMap enc))), .sl 1 1 0 i, .lit (.int .i64 i)], [X, .row 21 (.int .i32) ((l.take i).map fix)]), ok := fun i => i ≤ l.length, mu := fun i => l.length - i } | _, _ => { X := Nat, inv := fun _ => ([], []), ok := fun _ => False, mu := fun _ => 0 } }
theorem v3 (l : List Int) (hl : ∀ x ∈ l, -2147483648 ≤ x ∧ x ≤ 2147483647) (Q : SV × Heap × List Nat → Prop) (hq : Q (.lit (.bool true), [], [])) : (bodySumm T7 Try.prog Try.f3 (An1 0 (A3 l)) [.imm (.int .i32) l] []).Leads Q := by
  refine Sx.by_text (q :=
      Sx.br (Decidable.decide ((↑(List.length l) : Int) > (300 : Int))) (Q (Sx.SV.lit (Go.Value.bool Bool.true), ([] : List Sx.SO), [])) (List.length l ≤ (1000000 : Nat) ∧ (∃ (x
      : Nat), ([Sx.SV.imm (Sx.Ty.int Go.IntKind.i32) l, Sx.SV.sl (0 : Nat) (1 : Nat) (0 : Nat) (List.length l), Sx.SV.lit (Go.Value.string { data := #[] }), Sx.SV.sl (1 : Nat)
      (1 : Nat) (0 : Nat) (0 : Nat), Sx.SV.lit (Go.Value.int Go.IntKind.i64 (0 : Int))], [Sx.SO.row (21 : Nat) (Sx.Ty.int Go.IntKind.i32) (l ++ [(77 : Sx.Ty.den (Sx.Ty.int
      Go.IntKind.i32))]), Sx.SO.row (21 : Nat) (Sx.Ty.int Go.IntKind.i32) []]) = ([Sx.SV.imm (Sx.Ty.int Go.IntKind.i32) l, Sx.SV.sl (0 : Nat) (1 : Nat) (0 : Nat) (List.length
      l), Sx.SV.lit (Go.Value.string (Sx.bsOf (List.flatMap T12.enc (List.take x l)))), Sx.SV.sl (1 : Nat) (1 : Nat) (0 : Nat) x, Sx.SV.lit (Go.Value.int Go.IntKind.i64 (↑x :
      Int))], [Sx.SO.row (21 : Nat) (Sx.Ty.int Go.IntKind.i32) (l ++ [(77 : Sx.Ty.den (Sx.Ty.int Go.IntKind.i32))]), Sx.SO.row (21 : Nat) (Sx.Ty.int Go.IntKind.i32) (List.map
      T12.fix (List.take x l))]) ∧ x ≤ List.length l) ∧ ∀ (b : Nat), b ≤ List.length l → Sx.br (Decidable.decide ((↑b : Int) < (↑(List.length l) : Int))) (((0 : Int) ≤ (↑b :
      Int) ∧ (↑b : Int) < (↑(List.length l) : Int)) ∧ b < List.length l ∧ ((-2147483648 : Int) ≤ List.getD l b (Sx.Ty.dflt (Sx.Ty.int Go.IntKind.i32)) ∧ List.getD l b
      (Sx.Ty.dflt (Sx.Ty.int Go.IntKind.i32)) ≤ (2147483647 : Int)) ∧ (↑(ByteArray.size (Sx.bsOf (List.flatMap T12.enc (List.take b l))) + ByteArray.size (Sx.bsOf (T12.enc
      (List.getD l b (Sx.Ty.dflt (Sx.Ty.int Go.IntKind.i32)))))) : Int) ≤ (9223372036854775807 : Int) ∧ ((0 : Int) ≤ (↑b : Int) ∧ (↑b : Int) < (↑(List.length l) : Int)) ∧ b <
      List.length l ∧ Sx.br (Decidable.decide (List.getD l b (Sx.Ty.dflt (Sx.Ty.int Go.IntKind.i32)) < (0 : Int))) ((1 : Nat) ≤ (1 : Nat) ∧ Sx.br (Decidable.decide (b + (1 :
      Nat) ≤ List.length (List.map T12.fix (List.take b l)))) ((∃ (x' : Nat), ([Sx.SV.imm (Sx.Ty.int Go.IntKind.i32) l, Sx.SV.sl (0 : Nat) (1 : Nat) (0 : Nat) (List.length l),
      Sx.SV.lit (Go.Value.string (Sx.bsOf (List.flatMap T12.enc (List.take b l)) ++ Sx.bsOf (T12.enc (List.getD l b (Sx.Ty.dflt (Sx.Ty.int Go.IntKind.i32)))))), Sx.SV.sl (1 :
      Nat) (1 : Nat) (0 : Nat) (b + (1 : Nat)), Sx.SV.lit (Go.Value.int Go.IntKind.i64 (Go.IntKind.wrap Go.IntKind.i64 ((↑b : Int) + (1 : Int))))], [Sx.SO.row (21 : Nat)
      (Sx.Ty.int Go.IntKind.i32) (l ++ [(77 : Sx.Ty.den (Sx.Ty.int Go.IntKind.i32))]), Sx.SO.row (21 : Nat) (Sx.Ty.int Go.IntKind.i32) (List.take b (List.map T12.fix (List.take
      b l)) ++ [(65533 : Int)] ++ List.drop (b + (1 : Nat)) (List.map T12.fix (List.take b l)))]) = ([Sx.SV.imm (Sx.Ty.int Go.IntKind.i32) l, Sx.SV.sl (0 : Nat) (1 : Nat) (0 :
      Nat) (List.length l), Sx.SV.lit (Go.Value.string (Sx.bsOf (List.flatMap T12.enc (List.take x' l)))), Sx.SV.sl (1 : Nat) (1 : Nat) (0 : Nat) x', Sx.SV.lit (Go.Value.int
      Go.IntKind.i64 (↑x' : Int))], [Sx.SO.row (21 : Nat) (Sx.Ty.int Go.IntKind.i32) (l ++ [(77 : Sx.Ty.den (Sx.Ty.int Go.IntKind.i32))]), Sx.SO.row (21 : Nat) (Sx.Ty.int
      Go.IntKind.i32) (List.map T12.fix (List.take x' l))]) ∧ x' ≤ List.length l ∧ List.length l - x' < List.length l - b) ∧ True) (b ≤ List.length (List.map T12.fix (List.take
      b l)) ∧ ((↑(b + (1 : Nat)) : Int) ≤ (9223372036854775807 : Int) ∧ (b + (1 : Nat)) * Sx.bytesOf Go.Proofs.Try.prog (21 : Nat) ≤ (140737488355328 : Nat)) ∧ (∃ (x' : Nat),
      ([Sx.SV.imm (Sx.Ty.int Go.IntKind.i32) l, Sx.SV.sl (0 : Nat) (1 : Nat) (0 : Nat) (List.length l), Sx.SV.lit (Go.Value.string (Sx.bsOf (List.flatMap T12.enc (List.take b
      l)) ++ Sx.bsOf (T12.enc (List.getD l b (Sx.Ty.dflt (Sx.Ty.int Go.IntKind.i32)))))), Sx.SV.sl (1 : Nat) (1 : Nat) (0 : Nat) (b + (1 : Nat)), Sx.SV.lit (Go.Value.int
      Go.IntKind.i64 (Go.IntKind.wrap Go.IntKind.i64 ((↑b : Int) + (1 : Int))))], [Sx.SO.row (21 : Nat) (Sx.Ty.int Go.IntKind.i32) (l ++ [(77 : Sx.Ty.den (Sx.Ty.int
      Go.IntKind.i32))]), Sx.SO.row (21 : Nat) (Sx.Ty.int Go.IntKind.i32) (List.take b (List.map T12.fix (List.take b l)) ++ [(65533 : Int)])]) = ([Sx.SV.imm (Sx.Ty.int
      Go.IntKind.i32) l, Sx.SV.sl (0 : Nat) (1 : Nat) (0 : Nat) (List.length l), Sx.SV.lit (Go.Value.string (Sx.bsOf (List.flatMap T12.enc (List.take x' l)))), Sx.SV.sl (1 :
      Nat) (1 : Nat) (0 : Nat) x', Sx.SV.lit (Go.Value.int Go.IntKind.i64 (↑x' : Int))], [Sx.SO.row (21 : Nat) (Sx.Ty.int Go.IntKind.i32) (l ++ [(77 : Sx.Ty.den (Sx.Ty.int
      Go.IntKind.i32))]), Sx.SO.row (21 : Nat) (Sx.Ty.int Go.IntKind.i32) (List.map T12.fix (List.take x' l))]) ∧ x' ≤ List.length l ∧ List.length l - x' < List.length l - b) ∧
      True)) (Sx.br (Decidable.decide (List.getD l b (Sx.Ty.dflt (Sx.Ty.int Go.IntKind.i32)) > (1114111 : Int))) ((1 : Nat) ≤ (1 : Nat) ∧ Sx.br (Decidable.decide (b + (1 : Nat)
      ≤ List.length (List.map T12.fix (List.take b l)))) ((∃ (x' : Nat), ([Sx.SV.imm (Sx.Ty.int Go.IntKind.i32) l, Sx.SV.sl (0 : Nat) (1 : Nat) (0 : Nat) (List.length l),
      Sx.SV.lit (Go.Value.string (Sx.bsOf (List.flatMap T12.enc (List.take b l)) ++ Sx.bsOf (T12.enc (List.getD l b (Sx.Ty.dflt (Sx.Ty.int Go.IntKind.i32)))))), Sx.SV.sl (1 :
      Nat) (1 : Nat) (0 : Nat) (b + (1 : Nat)), Sx.SV.lit (Go.Value.int Go.IntKind.i64 (Go.IntKind.wrap Go.IntKind.i64 ((↑b : Int) + (1 : Int))))], [Sx.SO.row (21 : Nat)
      (Sx.Ty.int Go.IntKind.i32) (l ++ [(77 : Sx.Ty.den (Sx.Ty.int Go.IntKind.i32))]), Sx.SO.row (21 : Nat) (Sx.Ty.int Go.IntKind.i32) (List.take b (List.map T12.fix (List.take
      b l)) ++ [(65533 : Int)] ++ List.drop (b + (1 : Nat)) (List.map T12.fix (List.take b l)))]) = ([Sx.SV.imm (Sx.Ty.int Go.IntKind.i32) l, Sx.SV.sl (0 : Nat) (1 : Nat) (0 :
      Nat) (List.length l), Sx.SV.lit (Go.Value.string (Sx.bsOf (List.flatMap T12.enc (List.take x' l)))), Sx.SV.sl (1 : Nat) (1 : Nat) (0 : Nat) x', Sx.SV.lit (Go.Value.int
      Go.IntKind.i64 (↑x' : Int))], [Sx.SO.row (21 : Nat) (Sx.Ty.int Go.IntKind.i32) (l ++ [(77 : Sx.Ty.den (Sx.Ty.int Go.IntKind.i32))]), Sx.SO.row (21 : Nat) (Sx.Ty.int
      Go.IntKind.i32) (List.map T12.fix (List.take x' l))]) ∧ x' ≤ List.length l ∧ List.length l - x' < List.length l - b) ∧ True) (b ≤ List.length (List.map T12.fix (List.take
      b l)) ∧ ((↑(b + (1 : Nat)) : Int) ≤ (9223372036854775807 : Int) ∧ (b + (1 : Nat)) * Sx.bytesOf Go.Proofs.Try.prog (21 : Nat) ≤ (140737488355328 : Nat)) ∧ (∃ (x' : Nat),
      ([Sx.SV.imm (Sx.Ty.int Go.IntKind.i32) l, Sx.SV.sl (0 : Nat) (1 : Nat) (0 : Nat) (List.length l), Sx.SV.lit (Go.Value.string (Sx.bsOf (List.flatMap T12.enc (List.take b
      l)) ++ Sx.bsOf (T12.enc (List.getD l b (Sx.Ty.dflt (Sx.Ty.int Go.IntKind.i32)))))), Sx.SV.sl (1 : Nat) (1 : Nat) (0 : Nat) (b + (1 : Nat)), Sx.SV.lit (Go.Value.int
      Go.IntKind.i64 (Go.IntKind.wrap Go.IntKind.i64 ((↑b : Int) + (1 : Int))))], [Sx.SO.row (21 : Nat) (Sx.Ty.int Go.IntKind.i32) (l ++ [(77 : Sx.Ty.den (Sx.Ty.int
      Go.IntKind.i32))]), Sx.SO.row (21 : Nat) (Sx.Ty.int Go.IntKind.i32) (List.take b (List.map T12.fix (List.take b l)) ++ [(65533 : Int)])]) = ([Sx.SV.imm (Sx.Ty.int
      Go.IntKind.i32) l, Sx.SV.sl (0 : Nat) (1 : Nat) (0 : Nat) (List.length l), Sx.SV.lit (Go.Value.string (Sx.bsOf (List.flatMap T12.enc (List.take x' l)))), Sx.SV.sl (1 :
      Nat) (1 : Nat) (0 : Nat) x', Sx.SV.lit (Go.Value.int Go.IntKind.i64 (↑x' : Int))], [Sx.SO.row (21 : Nat) (Sx.Ty.int Go.IntKind.i32) (l ++ [(77 : Sx.Ty.den (Sx.Ty.int
      Go.IntKind.i32))]), Sx.SO.row (21 : Nat) (Sx.Ty.int Go.IntKind.i32) (List.map T12.fix (List.take x' l))]) ∧ x' ≤ List.length l ∧ List.length l - x' < List.length l - b) ∧
      True)) (Sx.br (Decidable.decide (List.getD l b (Sx.Ty.dflt (Sx.Ty.int Go.IntKind.i32)) ≥ (55296 : Int))) (Sx.br (Decidable.decide (List.getD l b (Sx.Ty.dflt (Sx.Ty.int
      Go.IntKind.i32)) ≤ (57343 : Int))) ((1 : Nat) ≤ (1 : Nat) ∧ Sx.br (Decidable.decide (b + (1 : Nat) ≤ List.length (List.map T12.fix (List.take b l)))) ((∃ (x' : Nat),
      ([Sx.SV.imm (Sx.Ty.int Go.IntKind.i32) l, Sx.SV.sl (0 : Nat) (1 : Nat) (0 : Nat) (List.length l), Sx.SV.lit (Go.Value.string (Sx.bsOf (List.flatMap T12.enc (List.take b
      l)) ++ Sx.bsOf (T12.enc (List.getD l b (Sx.Ty.dflt (Sx.Ty.int Go.IntKind.i32)))))), Sx.SV.sl (1 : Nat) (1 : Nat) (0 : Nat) (b + (1 : Nat)), Sx.SV.lit (Go.Value.int
      Go.IntKind.i64 (Go.IntKind.wrap Go.IntKind.i64 ((↑b : Int) + (1 : Int))))], [Sx.SO.row (21 : Nat) (Sx.Ty.int Go.IntKind.i32) (l ++ [(77 : Sx.Ty.den (Sx.Ty.int
      Go.IntKind.i32))]), Sx.SO.row (21 : Nat) (Sx.Ty.int Go.IntKind.i32) (List.take b (List.map T12.fix (List.take b l)) ++ [(65533 : Int)] ++ List.drop (b + (1 : Nat))
      (List.map T12.fix (List.take b l)))]) = ([Sx.SV.imm (Sx.Ty.int Go.IntKind.i32) l, Sx.SV.sl (0 : Nat) (1 : Nat) (0 : Nat) (List.length l), Sx.SV.lit (Go.Value.string
      (Sx.bsOf (List.flatMap T12.enc (List.take x' l)))), Sx.SV.sl (1 : Nat) (1 : Nat) (0 : Nat) x', Sx.SV.lit (Go.Value.int Go.IntKind.i64 (↑x' : Int))], [Sx.SO.row (21 : Nat)
      (Sx.Ty.int Go.IntKind.i32) (l ++ [(77 : Sx.Ty.den (Sx.Ty.int Go.IntKind.i32))]), Sx.SO.row (21 : Nat) (Sx.Ty.int Go.IntKind.i32) (List.map T12.fix (List.take x' l))]) ∧ x'
      ≤ List.length l ∧ List.length l - x' < List.length l - b) ∧ True) (b ≤ List.length (List.map T12.fix (List.take b l)) ∧ ((↑(b + (1 : Nat)) : Int) ≤ (9223372036854775807 :
      Int) ∧ (b + (1 : Nat)) * Sx.bytesOf Go.Proofs.Try.prog (21 : Nat) ≤ (140737488355328 : Nat)) ∧ (∃ (x' : Nat), ([Sx.SV.imm (Sx.Ty.int Go.IntKind.i32) l, Sx.SV.sl (0 : Nat)
      (1 : Nat) (0 : Nat) (List.length l), Sx.SV.lit (Go.Value.string (Sx.bsOf (List.flatMap T12.enc (List.take b l)) ++ Sx.bsOf (T12.enc (List.getD l b (Sx.Ty.dflt (Sx.Ty.int
      Go.IntKind.i32)))))), Sx.SV.sl (1 : Nat) (1 : Nat) (0 : Nat) (b + (1 : Nat)), Sx.SV.lit (Go.Value.int Go.IntKind.i64 (Go.IntKind.wrap Go.IntKind.i64 ((↑b : Int) + (1 :
      Int))))], [Sx.SO.row (21 : Nat) (Sx.Ty.int Go.IntKind.i32) (l ++ [(77 : Sx.Ty.den (Sx.Ty.int Go.IntKind.i32))]), Sx.SO.row (21 : Nat) (Sx.Ty.int Go.IntKind.i32) (List.take
      b (List.map T12.fix (List.take b l)) ++ [(65533 : Int)])]) = ([Sx.SV.imm (Sx.Ty.int Go.IntKind.i32) l, Sx.SV.sl (0 : Nat) (1 : Nat) (0 : Nat) (List.length l), Sx.SV.lit
      (Go.Value.string (Sx.bsOf (List.flatMap T12.enc (List.take x' l)))), Sx.SV.sl (1 : Nat) (1 : Nat) (0 : Nat) x', Sx.SV.lit (Go.Value.int Go.IntKind.i64 (↑x' : Int))],
      [Sx.SO.row (21 : Nat) (Sx.Ty.int Go.IntKind.i32) (l ++ [(77 : Sx.Ty.den (Sx.Ty.int Go.IntKind.i32))]), Sx.SO.row (21 : Nat) (Sx.Ty.int Go.IntKind.i32) (List.map T12.fix
      (List.take x' l))]) ∧ x' ≤ List.length l ∧ List.length l - x' < List.length l - b) ∧ True)) ((1 : Nat) ≤ (1 : Nat) ∧ Sx.br (Decidable.decide (b + (1 : Nat) ≤ List.length
      (List.map T12.fix (List.take b l)))) ((∃ (x' : Nat), ([Sx.SV.imm (Sx.Ty.int Go.IntKind.i32) l, Sx.SV.sl (0 : Nat) (1 : Nat) (0 : Nat) (List.length l), Sx.SV.lit
      (Go.Value.string (Sx.bsOf (List.flatMap T12.enc (List.take b l)) ++ Sx.bsOf (T12.enc (List.getD l b (Sx.Ty.dflt (Sx.Ty.int Go.IntKind.i32)))))), Sx.SV.sl (1 : Nat) (1 :
      Nat) (0 : Nat) (b + (1 : Nat)), Sx.SV.lit (Go.Value.int Go.IntKind.i64 (Go.IntKind.wrap Go.IntKind.i64 ((↑b : Int) + (1 : Int))))], [Sx.SO.row (21 : Nat) (Sx.Ty.int
      Go.IntKind.i32) (l ++ [(77 : Sx.Ty.den (Sx.Ty.int Go.IntKind.i32))]), Sx.SO.row (21 : Nat) (Sx.Ty.int Go.IntKind.i32) (List.take b (List.map T12.fix (List.take b l)) ++
      [List.getD l b (Sx.Ty.dflt (Sx.Ty.int Go.IntKind.i32))] ++ List.drop (b + (1 : Nat)) (List.map T12.fix (List.take b l)))]) = ([Sx.SV.imm (Sx.Ty.int Go.IntKind.i32) l,
      Sx.SV.sl (0 : Nat) (1 : Nat) (0 : Nat) (List.length l), Sx.SV.lit (Go.Value.string (Sx.bsOf (List.flatMap T12.enc (List.take x' l)))), Sx.SV.sl (1 : Nat) (1 : Nat) (0 :
      Nat) x', Sx.SV.lit (Go.Value.int Go.IntKind.i64 (↑x' : Int))], [Sx.SO.row (21 : Nat) (Sx.Ty.int Go.IntKind.i32) (l ++ [(77 : Sx.Ty.den (Sx.Ty.int Go.IntKind.i32))]),
      Sx.SO.row (21 : Nat) (Sx.Ty.int Go.IntKind.i32) (List.map T12.fix (List.take x' l))]) ∧ x' ≤ List.length l ∧ List.length l - x' < List.length l - b) ∧ True) (b ≤
      List.length (List.map T12.fix (List.take b l)) ∧ ((↑(b + (1 : Nat)) : Int) ≤ (9223372036854775807 : Int) ∧ (b + (1 : Nat)) * Sx.bytesOf Go.Proofs.Try.prog (21 : Nat) ≤
      (140737488355328 : Nat)) ∧ (∃ (x' : Nat), ([Sx.SV.imm (Sx.Ty.int Go.IntKind.i32) l, Sx.SV.sl (0 : Nat) (1 : Nat) (0 : Nat) (List.length l), Sx.SV.lit (Go.Value.string
      (Sx.bsOf (List.flatMap T12.enc (List.take b l)) ++ Sx.bsOf (T12.enc (List.getD l b (Sx.Ty.dflt (Sx.Ty.int Go.IntKind.i32)))))), Sx.SV.sl (1 : Nat) (1 : Nat) (0 : Nat) (b +
      (1 : Nat)), Sx.SV.lit (Go.Value.int Go.IntKind.i64 (Go.IntKind.wrap Go.IntKind.i64 ((↑b : Int) + (1 : Int))))], [Sx.SO.row (21 : Nat) (Sx.Ty.int Go.IntKind.i32) (l ++ [(77
      : Sx.Ty.den (Sx.Ty.int Go.IntKind.i32))]), Sx.SO.row (21 : Nat) (Sx.Ty.int Go.IntKind.i32) (List.take b (List.map T12.fix (List.take b l)) ++ [List.getD l b (Sx.Ty.dflt
      (Sx.Ty.int Go.IntKind.i32))])]) = ([Sx.SV.imm (Sx.Ty.int Go.IntKind.i32) l, Sx.SV.sl (0 : Nat) (1 : Nat) (0 : Nat) (List.length l), Sx.SV.lit (Go.Value.string (Sx.bsOf
      (List.flatMap T12.enc (List.take x' l)))), Sx.SV.sl (1 : Nat) (1 : Nat) (0 : Nat) x', Sx.SV.lit (Go.Value.int Go.IntKind.i64 (↑x' : Int))], [Sx.SO.row (21 : Nat)
      (Sx.Ty.int Go.IntKind.i32) (l ++ [(77 : Sx.Ty.den (Sx.Ty.int Go.IntKind.i32))]), Sx.SO.row (21 : Nat) (Sx.Ty.int Go.IntKind.i32) (List.map T12.fix (List.take x' l))]) ∧ x'
      ≤ List.length l ∧ List.length l - x' < List.length l - b) ∧ True))) ((1 : Nat) ≤ (1 : Nat) ∧ Sx.br (Decidable.decide (b + (1 : Nat) ≤ List.length (List.map T12.fix
      (List.take b l)))) ((∃ (x' : Nat), ([Sx.SV.imm (Sx.Ty.int Go.IntKind.i32) l, Sx.SV.sl (0 : Nat) (1 : Nat) (0 : Nat) (List.length l), Sx.SV.lit (Go.Value.string (Sx.bsOf
      (List.flatMap T12.enc (List.take b l)) ++ Sx.bsOf (T12.enc (List.getD l b (Sx.Ty.dflt (Sx.Ty.int Go.IntKind.i32)))))), Sx.SV.sl (1 : Nat) (1 : Nat) (0 : Nat) (b + (1 :
      Nat)), Sx.SV.lit (Go.Value.int Go.IntKind.i64 (Go.IntKind.wrap Go.IntKind.i64 ((↑b : Int) + (1 : Int))))], [Sx.SO.row (21 : Nat) (Sx.Ty.int Go.IntKind.i32) (l ++ [(77 :
      Sx.Ty.den (Sx.Ty.int Go.IntKind.i32))]), Sx.SO.row (21 : Nat) (Sx.Ty.int Go.IntKind.i32) (List.take b (List.map T12.fix (List.take b l)) ++ [List.getD l b (Sx.Ty.dflt
      (Sx.Ty.int Go.IntKind.i32))] ++ List.drop (b + (1 : Nat)) (List.map T12.fix (List.take b l)))]) = ([Sx.SV.imm (Sx.Ty.int Go.IntKind.i32) l, Sx.SV.sl (0 : Nat) (1 : Nat) (0
      : Nat) (List.length l), Sx.SV.lit (Go.Value.string (Sx.bsOf (List.flatMap T12.enc (List.take x' l)))), Sx.SV.sl (1 : Nat) (1 : Nat) (0 : Nat) x', Sx.SV.lit (Go.Value.int
      Go.IntKind.i64 (↑x' : Int))], [Sx.SO.row (21 : Nat) (Sx.Ty.int Go.IntKind.i32) (l ++ [(77 : Sx.Ty.den (Sx.Ty.int Go.IntKind.i32))]), Sx.SO.row (21 : Nat) (Sx.Ty.int
      Go.IntKind.i32) (List.map T12.fix (List.take x' l))]) ∧ x' ≤ List.length l ∧ List.length l - x' < List.length l - b) ∧ True) (b ≤ List.length (List.map T12.fix (List.take
      b l)) ∧ ((↑(b + (1 : Nat)) : Int) ≤ (9223372036854775807 : Int) ∧ (b + (1 : Nat)) * Sx.bytesOf Go.Proofs.Try.prog (21 : Nat) ≤ (140737488355328 : Nat)) ∧ (∃ (x' : Nat),
      ([Sx.SV.imm (Sx.Ty.int Go.IntKind.i32) l, Sx.SV.sl (0 : Nat) (1 : Nat) (0 : Nat) (List.length l), Sx.SV.lit (Go.Value.string (Sx.bsOf (List.flatMap T12.enc (List.take b
      l)) ++ Sx.bsOf (T12.enc (List.getD l b (Sx.Ty.dflt (Sx.Ty.int Go.IntKind.i32)))))), Sx.SV.sl (1 : Nat) (1 : Nat) (0 : Nat) (b + (1 : Nat)), Sx.SV.lit (Go.Value.int
      Go.IntKind.i64 (Go.IntKind.wrap Go.IntKind.i64 ((↑b : Int) + (1 : Int))))], [Sx.SO.row (21 : Nat) (Sx.Ty.int Go.IntKind.i32) (l ++ [(77 : Sx.Ty.den (Sx.Ty.int
      Go.IntKind.i32))]), Sx.SO.row (21 : Nat) (Sx.Ty.int Go.IntKind.i32) (List.take b (List.map T12.fix (List.take b l)) ++ [List.getD l b (Sx.Ty.dflt (Sx.Ty.int
      Go.IntKind.i32))])]) = ([Sx.SV.imm (Sx.Ty.int Go.IntKind.i32) l, Sx.SV.sl (0 : Nat) (1 : Nat) (0 : Nat) (List.length l), Sx.SV.lit (Go.Value.string (Sx.bsOf (List.flatMap
      T12.enc (List.take x' l)))), Sx.SV.sl (1 : Nat) (1 : Nat) (0 : Nat) x', Sx.SV.lit (Go.Value.int Go.IntKind.i64 (↑x' : Int))], [Sx.SO.row (21 : Nat) (Sx.Ty.int
      Go.IntKind.i32) (l ++ [(77 : Sx.Ty.den (Sx.Ty.int Go.IntKind.i32))]), Sx.SO.row (21 : Nat) (Sx.Ty.int Go.IntKind.i32) (List.map T12.fix (List.take x' l))]) ∧ x' ≤
      List.length l ∧ List.length l - x' < List.length l - b) ∧ True))))) ((List.length l ≤ List.length (l ++ [(77 : Sx.Ty.den (Sx.Ty.int Go.IntKind.i32))]) ∧ List.length l ≤
      (1000 : Nat) ∧ ∀ (x : Sx.Ty.den (Sx.Ty.int Go.IntKind.i32)), x ∈ l ++ [(77 : Sx.Ty.den (Sx.Ty.int Go.IntKind.i32))] → (-2147483648 : Sx.Ty.den (Sx.Ty.int Go.IntKind.i32))
      ≤ x ∧ x ≤ (2147483647 : Sx.Ty.den (Sx.Ty.int Go.IntKind.i32))) ∧ Sx.br (Sx.bsOf (List.flatMap T12.enc (List.take (List.length l) (l ++ [(77 : Sx.Ty.den (Sx.Ty.int
      Go.IntKind.i32))]))) == Sx.bsOf (List.flatMap T12.enc (List.take b l))) ((True ∧ (1 : Nat) ≤ (1 : Nat) ∧ T12.SizeOK [Sx.bsOf (List.flatMap T12.enc (List.take (List.length
      l) (l ++ [(77 : Sx.Ty.den (Sx.Ty.int Go.IntKind.i32))])))] ∧ (1 : Nat) ≤ (1000000 : Nat)) ∧ ∀ (b_1 : List Int × ByteArray), T12.Fed { data := #[] } [Sx.bsOf (List.flatMap
      T12.enc (List.take (List.length l) (l ++ [(77 : Sx.Ty.den (Sx.Ty.int Go.IntKind.i32))])))] b_1 → ((0 : Nat) + List.length (Prod.fst b_1) ≤ List.length (Prod.fst b_1) ∧ (0
      : Nat) + b ≤ List.length (List.map T12.fix (List.take b l)) ∧ List.length (Prod.fst b_1) ≤ (1000000 : Nat)) ∧ Sx.br (Decidable.decide (List.take (List.length (Prod.fst
      b_1)) (List.drop (0 : Nat) (Prod.fst b_1)) = List.take b (List.drop (0 : Nat) (List.map T12.fix (List.take b l))))) (Sx.br ((↑(ByteArray.size (Prod.snd b_1)) : Int) == (0
      : Int)) ((List.length l = List.length l ∧ l ++ [(77 : Sx.Ty.den (Sx.Ty.int Go.IntKind.i32))] = l ++ [(77 : Sx.Ty.den (Sx.Ty.int Go.IntKind.i32))] ∧ List.length l ≤
      (1000000 : Nat)) ∧ Q (Sx.SV.lit (Go.Value.bool Bool.true), ([] : List Sx.SO), [])) (Q (Sx.SV.lit (Go.Value.bool Bool.false), ([] : List Sx.SO), []))) (Q (Sx.SV.lit
      (Go.Value.bool Bool.false), ([] : List Sx.SO), []))) (Q (Sx.SV.lit (Go.Value.bool Bool.false), ([] : List Sx.SO), []))))) (by kernel_rfl) ?_
  have hbs : bytesOf Try.prog 21 = 4 := by kernel_rfl
  refine br_intro (fun _ => hq) (fun h0 => ?_)
  have h0 := of_decide_eq_false h0
  refine ⟨by omega, ⟨0, rfl, by omega⟩, fun i hi => br_intro (fun hlt => ?_) (fun hge => ?_)⟩
  · have hlt := of_decide_eq_true hlt
    have hil : i < l.length := by omega
    have hget : l.getD i (Ty.int IntKind.i32).dflt = l[i] := by rw [List.getD_eq_getElem?_getD, List.getElem?_eq_getElem hil]; rfl
    have hin := hl _ (List.getElem_mem hil)
    have hml : ((l.take i).map fix).length = i := by rw [List.length_map, List.length_take]; omega
    have hs1 : (l.take (i + 1)).flatMap enc = (l.take i).flatMap enc ++ enc l[i] := by
      rw [List.take_add_one, List.getElem?_eq_getElem hil]
      simp only [List.flatMap_append, Option.toList, List.flatMap_cons, List.flatMap_nil, List.append_nil]
    have hs2 : (l.take (i + 1)).map fix = (l.take i).map fix ++ [fix l[i]] := by
      rw [List.take_add_one, List.getElem?_eq_getElem hil]
      simp only [List.map_append, Option.toList, List.map_cons, List.map_nil]
    have hta : ((l.take i).map fix).take i = (l.take i).map fix := List.take_of_length_le (by omega)
    have hsz : (((bsOf ((l.take i).flatMap enc)).size + (bsOf (enc l[i])).size : Nat) : Int) ≤ 9223372036854775807 := by
      have h1 := encs_len (l.take i)
      have h2 := (enc_len l[i]).2
      have h3 : (l.take i).length ≤ i := by rw [List.length_take]; omega
      rw [bsOf_size, bsOf_size]; omega
    rw [hget]
    generalize l[i] = c at *
    refine ⟨by omega, by omega, hin, hsz, by omega, by omega, ?_⟩
    repeat' (refine br_intro (fun h => ?_) (fun h => ?_))
    all_goals simp only [decide_eq_true_eq, decide_eq_false_iff_not] at *
    all_goals refine ⟨by omega, br_intro (fun g => by rw [hml] at g; have := of_decide_eq_true g; omega) (fun _ => ⟨by rw [hml]; omega, ⟨by omega, by rw [hbs]; omega⟩, ⟨i + 1, ?_, by omega, by omega⟩, trivial⟩)⟩
    all_goals rw [wrap1 i (by omega), bsOf_append, hs1, hs2, hta]
    all_goals first | (rw [show fix c = 65533 by unfold fix; rw [if_pos (by omega)]]) | (rw [show fix c = c by unfold fix; rw [if_neg (by omega)]])
  · have hge := of_decide_eq_false hge
    have hil : i = l.length := by omega
    subst hil
    have hx : ∀ x : (Ty.int IntKind.i32).den, x ∈ l ++ [77] → -2147483648 ≤ x ∧ x ≤ 2147483647 := fun x hx => by
      rcases List.mem_append.1 hx with h | h
      · exact hl x h
      · have : x = 77 := by simpa using h
        subst this; exact ⟨by decide, by decide⟩
    have hby : ∀ x ∈ l.flatMap enc, Byte x := fun x hx => by
      obtain ⟨y, _, hy⟩ := List.mem_flatMap.1 hx
      exact enc_bytes y x hy
    have hen := encs_len l
    rw [List.take_left, List.take_length, bytes_self]
    refine ⟨⟨by rw [List.length_append]; omega, by omega, hx⟩, br_intro (fun _ => ⟨⟨trivial, by omega, ⟨by rw [flat_one, strInts_bsOf hby]; omega⟩, by omega⟩, fun r hr => ?_⟩) (fun g => by cases g)⟩
    obtain ⟨e1, e2⟩ := hr
    have e0 : strInts ({ data := #[] } : ByteArray) = [] := rfl
    rw [e0, flat_one, strInts_bsOf hby, feed_text] at e1 e2
    have e3 : r.2.size = 0 := by rw [← strInts_size, e2]; rfl
    have e4 : r.1.length = l.length := by rw [e1, List.length_map]
    have e5 : (l.map fix).take l.length = l.map fix := List.take_of_length_le (by rw [List.length_map]; exact Nat.le_refl _)
    rw [e3, e4, List.drop_zero, List.drop_zero, e1, e5]
    refine ⟨⟨by omega, by rw [List.length_map]; omega, by omega⟩, br_intro (fun _ => br_intro (fun _ => ⟨⟨rfl, rfl, by omega⟩, hq⟩) (fun g => by cases g)) (fun g => absurd (of_decide_eq_false g) (by simp))⟩
end T12
