/- Part of a proof: the walk of the functions that the law calls. -/
import Derived.Test.YtgcbgenkbdoejaaSxT
import Derived.Test.YtgcbgenkbdoejaaXT12r
import Derived.Test.YtgcbgenkbdoejaaXT12g
set_option linter.unusedVariables false
open Go Sx Go.Proofs
namespace T12
set_option maxRecDepth 100000
set_option maxHeartbeats 8000000
attribute [local irreducible] Tree.Leads
noncomputable def TU : Table := (((((((((Table.none.add 9 (.go s9)).add 14 (.go s14w)).add 15 (.go (bodySumm T3 Try.prog Try.f15 noAn))).add 17 (.go s17)).add 13 (.go s13k)).add 20 (.go s20)).add 21 (.go s21)).add 22 (.go s22)).add 23 (.go s23)).add 24 (.bye (byeS s24))
theorem TU_ok : TableOK Try.prog TU true := add_ok (e := .bye (byeS s24)) (TableOK.up (add_ok (e := .go s23) (add_ok (e := .go s22) (add_ok (e := .go s21) (add_ok (e := .go s20) (add_ok (e := .go s13k) (add_ok (e := .go s17) (add_ok (e := .go (bodySumm T3 Try.prog Try.f15 noAn)) (add_ok (e := .go s14w) (add_ok (e := .go s9) none_ok s9_ok) s14w_ok) (bodySumm_sound (fn := Try.f15) (c := Try.f15.body.get!) T3_ok (by kernel_rfl) (by kernel_rfl) (by kernel_rfl))) s17_ok) s13k_ok) s20_ok) s21_ok) s22_ok) s23_ok)) ⟨rfl, s24_bye⟩
structure RSt where
  i : Nat
  LL : List (List Int)
  h : ByteArray
  B : List Int
structure ROk (P : List ByteArray) (x : RSt) : Prop where
  i : x.i ≤ P.length
  few : x.LL.length ≤ 2 * x.i
  small : ∀ l ∈ x.LL, l.length ≤ 900000
  same : strInts x.h = x.B
  good : Good2 x.B
noncomputable def A6 : Ann := { live := [0, 2, 7, 8, 9, 10, 11], mv := [], peel := 1, head := fun vals H => match vals, H with | [a, b, r, u, k, p, _], [_, _, _, _, _, _, .row 9 .str P] => { X := RSt, inv := fun x => ([a, b, r, u, k, p, .lit (.int .i64 x.i)], [.cells 29 [.lit (.string x.h)], .cells 44 [.sl 2 1 0 x.B.length], .row 5 (.int .u8) x.B, .cells 55 (bk (.sl 4 1 0 x.LL.length) (.sl 5 1 0 x.LL.length)), .kept 22 21 (.int .i32) x.LL, .row 22 (.imm (.int .i32)) x.LL, .row 9 .str P]), ok := ROk P, mu := fun x => P.length - x.i } | _, _ => { X := Nat, inv := fun _ => ([], []), ok := fun _ => False, mu := fun _ => 0 } }
theorem part_le (P : List ByteArray) (i : Nat) (h : i < P.length) (d : ByteArray) : (P.getD i d).size ≤ (flat P).length := by
  have h1 := flat_succ P i h d
  have h2 := flat_mono P (i + 1) P.length (by omega)
  rw [List.take_length] at h2
  rw [h1, List.length_append, strInts_size] at h2
  omega
/-- What a reader tells, and what the document does. -/
structure Both (h p : ByteArray) (B : List Int) (F : List Int × ByteArray) (G : List Int × List Int) : Prop where
  one : F.1 = G.1
  two : strInts F.2 = G.2
  size : F.2.size = G.2.length
  few : G.1.length ≤ p.size + 1
  good : Good2 G.2
theorem both_of {h p : ByteArray} {B : List Int} {F : List Int × ByteArray} {G : List Int × List Int} (hB : strInts h = B) (hg : Good2 B) (hF : Fed h [p] F) (hG : G = feed B (strInts p)) : Both h p B F G := by
  obtain ⟨e1, e2⟩ := hF
  rw [flat_one, hB, ← hG] at e1 e2
  have hl := feed_len B (strInts p)
  have hone : one B ≤ 1 := by unfold one; omega
  rw [← hG, strInts_size] at hl
  exact ⟨e1, e2, by rw [← strInts_size, e2], by omega, by rw [hG]; exact good2_feed hg _ (strInts_bytes p)⟩
theorem flu_len (n : Nat) : (flu n).length ≤ 1 := by unfold flu; split <;> simp
theorem rok_start {P : List ByteArray} {LL : List (List Int)} {h : ByteArray} {B : List Int} (hP : 0 < P.length) (h1 : LL.length ≤ 2) (h2 : ∀ l ∈ LL, l.length ≤ 900000) (h3 : strInts h = B) (h4 : Good2 B) : ROk P ⟨1, LL, h, B⟩ :=
  ⟨by show 1 ≤ P.length; omega, by show LL.length ≤ 2 * 1; omega, h2, h3, h4⟩
theorem small_snoc {LL : List (List Int)} {x : List Int} (h : ∀ l ∈ LL, l.length ≤ 900000) (hx : x.length ≤ 900000) : ∀ l ∈ LL ++ [x], l.length ≤ 900000 := fun l hl => by
  rcases List.mem_append.1 hl with h' | h'
  · exact h l h'
  · have : l = x := by simpa using h'
    rw [this]; exact hx
theorem v6 (s : ByteArray) (L : List Int) (fl : Int) (Q : SV × Heap × List Nat → Prop) (hq : ∀ mv, Q (.lit (.bool true), [], mv)) :
    (bodySumm TU Try.prog Try.f6 (An1 0 A6) [.lit (.string s), .imm (.int .i64) L, .lit (.int .i64 fl)] []).Leads Q := by
  refine Sx.by_text (q :=
      Sx.br (Decidable.decide ((↑(ByteArray.size s) : Int) > (1500 : Int))) (Q (Sx.SV.lit (Go.Value.bool Bool.true), ([] : List Sx.SO), [])) (Sx.br (Decidable.decide
      ((↑(List.length L) : Int) > (40 : Int))) (Q (Sx.SV.lit (Go.Value.bool Bool.true), ([] : List Sx.SO), [])) ((ByteArray.size s ≤ (100000 : Nat) ∧ List.length L ≤ (1000 :
      Nat)) ∧ ∀ (b : List ByteArray), T12.CutOf s (List.length L) b → Sx.br (Decidable.decide ((0 : Int) < (↑(List.length b) : Int))) (((0 : Int) ≤ (0 : Int) ∧ (0 : Int) <
      (↑(List.length b) : Int)) ∧ (0 : Nat) < List.length b ∧ (True ∧ (1 : Nat) ≤ (1 : Nat) ∧ T12.SizeOK [List.getD b (0 : Nat) (Sx.Ty.dflt Sx.Ty.str)] ∧ (1 : Nat) ≤ (1000000 :
      Nat)) ∧ ∀ (b_1 : List Int × ByteArray), T12.Fed { data := #[] } [List.getD b (0 : Nat) (Sx.Ty.dflt Sx.Ty.str)] b_1 → ((List.length (Prod.fst b_1) ≤ List.length (Prod.fst
      b_1) ∧ List.length (Prod.fst b_1) ≤ (1000000 : Nat)) ∧ T12.bk (Sx.SV.lit (Go.Value.slice Option.none (0 : Nat) (0 : Nat))) (Sx.SV.lit (Go.Value.slice Option.none (0 : Nat)
      (0 : Nat))) = T12.bk (Sx.SV.lit (Go.Value.slice Option.none (0 : Nat) (0 : Nat))) (Sx.SV.lit (Go.Value.slice Option.none (0 : Nat) (0 : Nat)))) ∧ ((0 : Int) ≤ (0 : Int) ∧
      (0 : Int) < (↑(List.length b) : Int)) ∧ (0 : Nat) < List.length b ∧ ByteArray.size (List.getD b (0 : Nat) (Sx.Ty.dflt Sx.Ty.str)) ≤ (100000 : Nat) ∧ ∀ (b_2 : List Int ×
      List Int), b_2 = T12.feed [] (Sx.strInts (List.getD b (0 : Nat) (Sx.Ty.dflt Sx.Ty.str))) → ((0 : Nat) + List.length (Prod.fst b_1) ≤ List.length (Prod.fst b_1) ∧ (0 : Nat)
      + List.length (Prod.fst b_2) ≤ List.length (Prod.fst b_2) ∧ List.length (Prod.fst b_1) ≤ (1000000 : Nat)) ∧ Sx.br (!Decidable.decide (List.take (List.length (Prod.fst
      b_1)) (List.drop (0 : Nat) (Prod.fst b_1)) = List.take (List.length (Prod.fst b_2)) (List.drop (0 : Nat) (Prod.fst b_2)))) (∀ (b : Bool), True → Sx.br b (Q (Sx.SV.lit
      (Go.Value.bool Bool.false), ([] : List Sx.SO), [])) (Q (Sx.SV.lit (Go.Value.bool Bool.false), ([] : List Sx.SO), []))) (∀ (b_3 : Bool), True → Sx.br b_3 (Sx.br
      ((↑(ByteArray.size (Prod.snd b_1)) : Int) != (↑(List.length (Prod.snd b_2)) : Int)) (Q (Sx.SV.lit (Go.Value.bool Bool.false), ([] : List Sx.SO), [])) (Sx.br ((0 : Int) ==
      fl) (((List.length (T12.flu (ByteArray.size (Prod.snd b_1))) ≤ List.length (T12.flu (ByteArray.size (Prod.snd b_1))) ∧ List.length (T12.flu (ByteArray.size (Prod.snd
      b_1))) ≤ (1000000 : Nat)) ∧ (1 : Nat) ≤ (100 : Nat) ∧ (1 : Nat) ≤ (100 : Nat) ∧ T12.bk (Sx.SV.sl (2 : Nat) (1 : Nat) (0 : Nat) (1 : Nat)) (Sx.SV.sl (3 : Nat) (1 : Nat) (0
      : Nat) (1 : Nat)) = T12.bk (Sx.SV.sl (2 : Nat) (1 : Nat) (0 : Nat) (1 : Nat)) (Sx.SV.sl (3 : Nat) (1 : Nat) (0 : Nat) (1 : Nat))) ∧ List.length (Prod.snd b_2) =
      List.length (Prod.snd b_2) ∧ ((0 : Nat) + List.length (T12.flu (ByteArray.size (Prod.snd b_1))) ≤ List.length (T12.flu (ByteArray.size (Prod.snd b_1))) ∧ (0 : Nat) +
      List.length (T12.flu (List.length (Prod.snd b_2))) ≤ List.length (T12.flu (List.length (Prod.snd b_2))) ∧ List.length (T12.flu (ByteArray.size (Prod.snd b_1))) ≤ (1000000
      : Nat)) ∧ Sx.br (!Decidable.decide (List.take (List.length (T12.flu (ByteArray.size (Prod.snd b_1)))) (List.drop (0 : Nat) (T12.flu (ByteArray.size (Prod.snd b_1)))) =
      List.take (List.length (T12.flu (List.length (Prod.snd b_2)))) (List.drop (0 : Nat) (T12.flu (List.length (Prod.snd b_2)))))) (Q (Sx.SV.lit (Go.Value.bool Bool.false), ([]
      : List Sx.SO), [])) ((∃ (x : T12.RSt), ([Sx.SV.lit (Go.Value.string s), Sx.SV.lit (Go.Value.int Go.IntKind.i64 fl), Sx.SV.ptr (0 : Nat) (0 : Nat), Sx.SV.ptr (1 : Nat) (0 :
      Nat), Sx.SV.ptr (3 : Nat) (0 : Nat), Sx.SV.sl (6 : Nat) (1 : Nat) (0 : Nat) (List.length b), Sx.SV.lit (Go.Value.int Go.IntKind.i64 (Go.IntKind.wrap Go.IntKind.i64 ((0 :
      Int) + (1 : Int))))], [Sx.SO.cells (29 : Nat) [Sx.SV.lit (Go.Value.string ByteArray.empty)], Sx.SO.cells (44 : Nat) [Sx.SV.sl (2 : Nat) (1 : Nat) (0 : Nat) (0 : Nat)],
      Sx.SO.row (5 : Nat) (Sx.Ty.int Go.IntKind.u8) [], Sx.SO.cells (55 : Nat) (T12.bk (Sx.SV.sl (4 : Nat) (1 : Nat) (0 : Nat) (2 : Nat)) (Sx.SV.sl (5 : Nat) (1 : Nat) (0 : Nat)
      (2 : Nat))), Sx.SO.kept (22 : Nat) (21 : Nat) (Sx.Ty.int Go.IntKind.i32) [List.take (List.length (Prod.fst b_1)) (Prod.fst b_1), List.take (List.length (T12.flu
      (ByteArray.size (Prod.snd b_1)))) (T12.flu (ByteArray.size (Prod.snd b_1)))], Sx.SO.row (22 : Nat) (Sx.Ty.imm (Sx.Ty.int Go.IntKind.i32)) [List.take (List.length (Prod.fst
      b_1)) (Prod.fst b_1), List.take (List.length (T12.flu (ByteArray.size (Prod.snd b_1)))) (T12.flu (ByteArray.size (Prod.snd b_1)))], Sx.SO.row (9 : Nat) Sx.Ty.str b]) =
      ([Sx.SV.lit (Go.Value.string s), Sx.SV.lit (Go.Value.int Go.IntKind.i64 fl), Sx.SV.ptr (0 : Nat) (0 : Nat), Sx.SV.ptr (1 : Nat) (0 : Nat), Sx.SV.ptr (3 : Nat) (0 : Nat),
      Sx.SV.sl (6 : Nat) (1 : Nat) (0 : Nat) (List.length b), Sx.SV.lit (Go.Value.int Go.IntKind.i64 (↑(T12.RSt.i x) : Int))], [Sx.SO.cells (29 : Nat) [Sx.SV.lit
      (Go.Value.string (T12.RSt.h x))], Sx.SO.cells (44 : Nat) [Sx.SV.sl (2 : Nat) (1 : Nat) (0 : Nat) (List.length (T12.RSt.B x))], Sx.SO.row (5 : Nat) (Sx.Ty.int
      Go.IntKind.u8) (T12.RSt.B x), Sx.SO.cells (55 : Nat) (T12.bk (Sx.SV.sl (4 : Nat) (1 : Nat) (0 : Nat) (List.length (T12.RSt.LL x))) (Sx.SV.sl (5 : Nat) (1 : Nat) (0 : Nat)
      (List.length (T12.RSt.LL x)))), Sx.SO.kept (22 : Nat) (21 : Nat) (Sx.Ty.int Go.IntKind.i32) (T12.RSt.LL x), Sx.SO.row (22 : Nat) (Sx.Ty.imm (Sx.Ty.int Go.IntKind.i32))
      (T12.RSt.LL x), Sx.SO.row (9 : Nat) Sx.Ty.str b]) ∧ T12.ROk b x) ∧ ∀ (b_4 : T12.RSt), T12.ROk b b_4 → Sx.br (Decidable.decide ((↑(T12.RSt.i b_4) : Int) < (↑(List.length b)
      : Int))) (((0 : Int) ≤ (↑(T12.RSt.i b_4) : Int) ∧ (↑(T12.RSt.i b_4) : Int) < (↑(List.length b) : Int)) ∧ (0 : Nat) + T12.RSt.i b_4 < List.length b ∧ (T12.Good (Sx.strInts
      (T12.RSt.h b_4)) ∧ (1 : Nat) ≤ (1 : Nat) ∧ T12.SizeOK [List.getD b ((0 : Nat) + T12.RSt.i b_4) (Sx.Ty.dflt Sx.Ty.str)] ∧ (1 : Nat) ≤ (1000000 : Nat)) ∧ ∀ (b_5 : List Int ×
      ByteArray), T12.Fed (T12.RSt.h b_4) [List.getD b ((0 : Nat) + T12.RSt.i b_4) (Sx.Ty.dflt Sx.Ty.str)] b_5 → ((List.length (Prod.fst b_5) ≤ List.length (Prod.fst b_5) ∧
      List.length (Prod.fst b_5) ≤ (1000000 : Nat)) ∧ List.length (T12.RSt.LL b_4) ≤ (100 : Nat) ∧ List.length (T12.RSt.LL b_4) ≤ (100 : Nat) ∧ T12.bk (Sx.SV.sl (2 : Nat) (1 :
      Nat) (0 : Nat) (List.length (T12.RSt.LL b_4))) (Sx.SV.sl (3 : Nat) (1 : Nat) (0 : Nat) (List.length (T12.RSt.LL b_4))) = T12.bk (Sx.SV.sl (2 : Nat) (1 : Nat) (0 : Nat)
      (List.length (T12.RSt.LL b_4))) (Sx.SV.sl (3 : Nat) (1 : Nat) (0 : Nat) (List.length (T12.RSt.LL b_4)))) ∧ ((0 : Int) ≤ (↑(T12.RSt.i b_4) : Int) ∧ (↑(T12.RSt.i b_4) : Int)
      < (↑(List.length b) : Int)) ∧ (0 : Nat) + T12.RSt.i b_4 < List.length b ∧ (List.length (T12.RSt.B b_4) = List.length (T12.RSt.B b_4) ∧ T12.Good2 (T12.RSt.B b_4) ∧
      ByteArray.size (List.getD b ((0 : Nat) + T12.RSt.i b_4) (Sx.Ty.dflt Sx.Ty.str)) ≤ (100000 : Nat)) ∧ ∀ (b_6 : List Int × List Int), b_6 = T12.feed (T12.RSt.B b_4)
      (Sx.strInts (List.getD b ((0 : Nat) + T12.RSt.i b_4) (Sx.Ty.dflt Sx.Ty.str))) → ((0 : Nat) + List.length (Prod.fst b_5) ≤ List.length (Prod.fst b_5) ∧ (0 : Nat) +
      List.length (Prod.fst b_6) ≤ List.length (Prod.fst b_6) ∧ List.length (Prod.fst b_5) ≤ (1000000 : Nat)) ∧ Sx.br (!Decidable.decide (List.take (List.length (Prod.fst b_5))
      (List.drop (0 : Nat) (Prod.fst b_5)) = List.take (List.length (Prod.fst b_6)) (List.drop (0 : Nat) (Prod.fst b_6)))) (∀ (b : Bool), True → Sx.br b (Q (Sx.SV.lit
      (Go.Value.bool Bool.false), ([] : List Sx.SO), [])) (Q (Sx.SV.lit (Go.Value.bool Bool.false), ([] : List Sx.SO), []))) (∀ (b_7 : Bool), True → Sx.br b_7 (Sx.br
      ((↑(ByteArray.size (Prod.snd b_5)) : Int) != (↑(List.length (Prod.snd b_6)) : Int)) (Q (Sx.SV.lit (Go.Value.bool Bool.false), ([] : List Sx.SO), [])) (Sx.br ((↑(T12.RSt.i
      b_4) : Int) == fl) (((List.length (T12.flu (ByteArray.size (Prod.snd b_5))) ≤ List.length (T12.flu (ByteArray.size (Prod.snd b_5))) ∧ List.length (T12.flu (ByteArray.size
      (Prod.snd b_5))) ≤ (1000000 : Nat)) ∧ List.length (T12.RSt.LL b_4 ++ [List.take (List.length (Prod.fst b_5)) (Prod.fst b_5)]) ≤ (100 : Nat) ∧ List.length (T12.RSt.LL b_4
      ++ [List.take (List.length (Prod.fst b_5)) (Prod.fst b_5)]) ≤ (100 : Nat) ∧ T12.bk (Sx.SV.sl (2 : Nat) (1 : Nat) (0 : Nat) (List.length (T12.RSt.LL b_4) + (1 : Nat)))
      (Sx.SV.sl (3 : Nat) (1 : Nat) (0 : Nat) (List.length (T12.RSt.LL b_4) + (1 : Nat))) = T12.bk (Sx.SV.sl (2 : Nat) (1 : Nat) (0 : Nat) (List.length (T12.RSt.LL b_4 ++
      [List.take (List.length (Prod.fst b_5)) (Prod.fst b_5)]))) (Sx.SV.sl (3 : Nat) (1 : Nat) (0 : Nat) (List.length (T12.RSt.LL b_4 ++ [List.take (List.length (Prod.fst b_5))
      (Prod.fst b_5)])))) ∧ List.length (Prod.snd b_6) = List.length (Prod.snd b_6) ∧ ((0 : Nat) + List.length (T12.flu (ByteArray.size (Prod.snd b_5))) ≤ List.length (T12.flu
      (ByteArray.size (Prod.snd b_5))) ∧ (0 : Nat) + List.length (T12.flu (List.length (Prod.snd b_6))) ≤ List.length (T12.flu (List.length (Prod.snd b_6))) ∧ List.length
      (T12.flu (ByteArray.size (Prod.snd b_5))) ≤ (1000000 : Nat)) ∧ Sx.br (!Decidable.decide (List.take (List.length (T12.flu (ByteArray.size (Prod.snd b_5)))) (List.drop (0 :
      Nat) (T12.flu (ByteArray.size (Prod.snd b_5)))) = List.take (List.length (T12.flu (List.length (Prod.snd b_6)))) (List.drop (0 : Nat) (T12.flu (List.length (Prod.snd
      b_6)))))) (Q (Sx.SV.lit (Go.Value.bool Bool.false), ([] : List Sx.SO), [])) ((∃ (x' : T12.RSt), ([Sx.SV.lit (Go.Value.string s), Sx.SV.lit (Go.Value.int Go.IntKind.i64
      fl), Sx.SV.ptr (0 : Nat) (0 : Nat), Sx.SV.ptr (1 : Nat) (0 : Nat), Sx.SV.ptr (3 : Nat) (0 : Nat), Sx.SV.sl (6 : Nat) (1 : Nat) (0 : Nat) (List.length b), Sx.SV.lit
      (Go.Value.int Go.IntKind.i64 (Go.IntKind.wrap Go.IntKind.i64 ((↑(T12.RSt.i b_4) : Int) + (1 : Int))))], [Sx.SO.cells (29 : Nat) [Sx.SV.lit (Go.Value.string
      ByteArray.empty)], Sx.SO.cells (44 : Nat) [Sx.SV.sl (2 : Nat) (1 : Nat) (0 : Nat) (0 : Nat)], Sx.SO.row (5 : Nat) (Sx.Ty.int Go.IntKind.u8) [], Sx.SO.cells (55 : Nat)
      (T12.bk (Sx.SV.sl (4 : Nat) (1 : Nat) (0 : Nat) (List.length (T12.RSt.LL b_4 ++ [List.take (List.length (Prod.fst b_5)) (Prod.fst b_5)]) + (1 : Nat))) (Sx.SV.sl (5 : Nat)
      (1 : Nat) (0 : Nat) (List.length (T12.RSt.LL b_4 ++ [List.take (List.length (Prod.fst b_5)) (Prod.fst b_5)]) + (1 : Nat)))), Sx.SO.kept (22 : Nat) (21 : Nat) (Sx.Ty.int
      Go.IntKind.i32) (T12.RSt.LL b_4 ++ [List.take (List.length (Prod.fst b_5)) (Prod.fst b_5)] ++ [List.take (List.length (T12.flu (ByteArray.size (Prod.snd b_5)))) (T12.flu
      (ByteArray.size (Prod.snd b_5)))]), Sx.SO.row (22 : Nat) (Sx.Ty.imm (Sx.Ty.int Go.IntKind.i32)) (T12.RSt.LL b_4 ++ [List.take (List.length (Prod.fst b_5)) (Prod.fst b_5)]
      ++ [List.take (List.length (T12.flu (ByteArray.size (Prod.snd b_5)))) (T12.flu (ByteArray.size (Prod.snd b_5)))]), Sx.SO.row (9 : Nat) Sx.Ty.str b]) = ([Sx.SV.lit
      (Go.Value.string s), Sx.SV.lit (Go.Value.int Go.IntKind.i64 fl), Sx.SV.ptr (0 : Nat) (0 : Nat), Sx.SV.ptr (1 : Nat) (0 : Nat), Sx.SV.ptr (3 : Nat) (0 : Nat), Sx.SV.sl (6 :
      Nat) (1 : Nat) (0 : Nat) (List.length b), Sx.SV.lit (Go.Value.int Go.IntKind.i64 (↑(T12.RSt.i x') : Int))], [Sx.SO.cells (29 : Nat) [Sx.SV.lit (Go.Value.string (T12.RSt.h
      x'))], Sx.SO.cells (44 : Nat) [Sx.SV.sl (2 : Nat) (1 : Nat) (0 : Nat) (List.length (T12.RSt.B x'))], Sx.SO.row (5 : Nat) (Sx.Ty.int Go.IntKind.u8) (T12.RSt.B x'),
      Sx.SO.cells (55 : Nat) (T12.bk (Sx.SV.sl (4 : Nat) (1 : Nat) (0 : Nat) (List.length (T12.RSt.LL x'))) (Sx.SV.sl (5 : Nat) (1 : Nat) (0 : Nat) (List.length (T12.RSt.LL
      x')))), Sx.SO.kept (22 : Nat) (21 : Nat) (Sx.Ty.int Go.IntKind.i32) (T12.RSt.LL x'), Sx.SO.row (22 : Nat) (Sx.Ty.imm (Sx.Ty.int Go.IntKind.i32)) (T12.RSt.LL x'), Sx.SO.row
      (9 : Nat) Sx.Ty.str b]) ∧ T12.ROk b x' ∧ List.length b - T12.RSt.i x' < List.length b - T12.RSt.i b_4) ∧ True)) ((∃ (x' : T12.RSt), ([Sx.SV.lit (Go.Value.string s),
      Sx.SV.lit (Go.Value.int Go.IntKind.i64 fl), Sx.SV.ptr (0 : Nat) (0 : Nat), Sx.SV.ptr (1 : Nat) (0 : Nat), Sx.SV.ptr (3 : Nat) (0 : Nat), Sx.SV.sl (6 : Nat) (1 : Nat) (0 :
      Nat) (List.length b), Sx.SV.lit (Go.Value.int Go.IntKind.i64 (Go.IntKind.wrap Go.IntKind.i64 ((↑(T12.RSt.i b_4) : Int) + (1 : Int))))], [Sx.SO.cells (29 : Nat) [Sx.SV.lit
      (Go.Value.string (Prod.snd b_5))], Sx.SO.cells (44 : Nat) [Sx.SV.sl (2 : Nat) (1 : Nat) (0 : Nat) (List.length (Prod.snd b_6))], Sx.SO.row (5 : Nat) (Sx.Ty.int
      Go.IntKind.u8) (Prod.snd b_6), Sx.SO.cells (55 : Nat) (T12.bk (Sx.SV.sl (4 : Nat) (1 : Nat) (0 : Nat) (List.length (T12.RSt.LL b_4) + (1 : Nat))) (Sx.SV.sl (5 : Nat) (1 :
      Nat) (0 : Nat) (List.length (T12.RSt.LL b_4) + (1 : Nat)))), Sx.SO.kept (22 : Nat) (21 : Nat) (Sx.Ty.int Go.IntKind.i32) (T12.RSt.LL b_4 ++ [List.take (List.length
      (Prod.fst b_5)) (Prod.fst b_5)]), Sx.SO.row (22 : Nat) (Sx.Ty.imm (Sx.Ty.int Go.IntKind.i32)) (T12.RSt.LL b_4 ++ [List.take (List.length (Prod.fst b_5)) (Prod.fst b_5)]),
      Sx.SO.row (9 : Nat) Sx.Ty.str b]) = ([Sx.SV.lit (Go.Value.string s), Sx.SV.lit (Go.Value.int Go.IntKind.i64 fl), Sx.SV.ptr (0 : Nat) (0 : Nat), Sx.SV.ptr (1 : Nat) (0 :
      Nat), Sx.SV.ptr (3 : Nat) (0 : Nat), Sx.SV.sl (6 : Nat) (1 : Nat) (0 : Nat) (List.length b), Sx.SV.lit (Go.Value.int Go.IntKind.i64 (↑(T12.RSt.i x') : Int))], [Sx.SO.cells
      (29 : Nat) [Sx.SV.lit (Go.Value.string (T12.RSt.h x'))], Sx.SO.cells (44 : Nat) [Sx.SV.sl (2 : Nat) (1 : Nat) (0 : Nat) (List.length (T12.RSt.B x'))], Sx.SO.row (5 : Nat)
      (Sx.Ty.int Go.IntKind.u8) (T12.RSt.B x'), Sx.SO.cells (55 : Nat) (T12.bk (Sx.SV.sl (4 : Nat) (1 : Nat) (0 : Nat) (List.length (T12.RSt.LL x'))) (Sx.SV.sl (5 : Nat) (1 :
      Nat) (0 : Nat) (List.length (T12.RSt.LL x')))), Sx.SO.kept (22 : Nat) (21 : Nat) (Sx.Ty.int Go.IntKind.i32) (T12.RSt.LL x'), Sx.SO.row (22 : Nat) (Sx.Ty.imm (Sx.Ty.int
      Go.IntKind.i32)) (T12.RSt.LL x'), Sx.SO.row (9 : Nat) Sx.Ty.str b]) ∧ T12.ROk b x' ∧ List.length b - T12.RSt.i x' < List.length b - T12.RSt.i b_4) ∧ True))) (Sx.br
      ((↑(ByteArray.size (Prod.snd b_5)) : Int) != (↑(List.length (Prod.snd b_6)) : Int)) (Q (Sx.SV.lit (Go.Value.bool Bool.false), ([] : List Sx.SO), [])) (Sx.br ((↑(T12.RSt.i
      b_4) : Int) == fl) (((List.length (T12.flu (ByteArray.size (Prod.snd b_5))) ≤ List.length (T12.flu (ByteArray.size (Prod.snd b_5))) ∧ List.length (T12.flu (ByteArray.size
      (Prod.snd b_5))) ≤ (1000000 : Nat)) ∧ List.length (T12.RSt.LL b_4 ++ [List.take (List.length (Prod.fst b_5)) (Prod.fst b_5)]) ≤ (100 : Nat) ∧ List.length (T12.RSt.LL b_4
      ++ [List.take (List.length (Prod.fst b_5)) (Prod.fst b_5)]) ≤ (100 : Nat) ∧ T12.bk (Sx.SV.sl (2 : Nat) (1 : Nat) (0 : Nat) (List.length (T12.RSt.LL b_4) + (1 : Nat)))
      (Sx.SV.sl (3 : Nat) (1 : Nat) (0 : Nat) (List.length (T12.RSt.LL b_4) + (1 : Nat))) = T12.bk (Sx.SV.sl (2 : Nat) (1 : Nat) (0 : Nat) (List.length (T12.RSt.LL b_4 ++
      [List.take (List.length (Prod.fst b_5)) (Prod.fst b_5)]))) (Sx.SV.sl (3 : Nat) (1 : Nat) (0 : Nat) (List.length (T12.RSt.LL b_4 ++ [List.take (List.length (Prod.fst b_5))
      (Prod.fst b_5)])))) ∧ List.length (Prod.snd b_6) = List.length (Prod.snd b_6) ∧ ((0 : Nat) + List.length (T12.flu (ByteArray.size (Prod.snd b_5))) ≤ List.length (T12.flu
      (ByteArray.size (Prod.snd b_5))) ∧ (0 : Nat) + List.length (T12.flu (List.length (Prod.snd b_6))) ≤ List.length (T12.flu (List.length (Prod.snd b_6))) ∧ List.length
      (T12.flu (ByteArray.size (Prod.snd b_5))) ≤ (1000000 : Nat)) ∧ Sx.br (!Decidable.decide (List.take (List.length (T12.flu (ByteArray.size (Prod.snd b_5)))) (List.drop (0 :
      Nat) (T12.flu (ByteArray.size (Prod.snd b_5)))) = List.take (List.length (T12.flu (List.length (Prod.snd b_6)))) (List.drop (0 : Nat) (T12.flu (List.length (Prod.snd
      b_6)))))) (Q (Sx.SV.lit (Go.Value.bool Bool.false), ([] : List Sx.SO), [])) ((∃ (x' : T12.RSt), ([Sx.SV.lit (Go.Value.string s), Sx.SV.lit (Go.Value.int Go.IntKind.i64
      fl), Sx.SV.ptr (0 : Nat) (0 : Nat), Sx.SV.ptr (1 : Nat) (0 : Nat), Sx.SV.ptr (3 : Nat) (0 : Nat), Sx.SV.sl (6 : Nat) (1 : Nat) (0 : Nat) (List.length b), Sx.SV.lit
      (Go.Value.int Go.IntKind.i64 (Go.IntKind.wrap Go.IntKind.i64 ((↑(T12.RSt.i b_4) : Int) + (1 : Int))))], [Sx.SO.cells (29 : Nat) [Sx.SV.lit (Go.Value.string
      ByteArray.empty)], Sx.SO.cells (44 : Nat) [Sx.SV.sl (2 : Nat) (1 : Nat) (0 : Nat) (0 : Nat)], Sx.SO.row (5 : Nat) (Sx.Ty.int Go.IntKind.u8) [], Sx.SO.cells (55 : Nat)
      (T12.bk (Sx.SV.sl (4 : Nat) (1 : Nat) (0 : Nat) (List.length (T12.RSt.LL b_4 ++ [List.take (List.length (Prod.fst b_5)) (Prod.fst b_5)]) + (1 : Nat))) (Sx.SV.sl (5 : Nat)
      (1 : Nat) (0 : Nat) (List.length (T12.RSt.LL b_4 ++ [List.take (List.length (Prod.fst b_5)) (Prod.fst b_5)]) + (1 : Nat)))), Sx.SO.kept (22 : Nat) (21 : Nat) (Sx.Ty.int
      Go.IntKind.i32) (T12.RSt.LL b_4 ++ [List.take (List.length (Prod.fst b_5)) (Prod.fst b_5)] ++ [List.take (List.length (T12.flu (ByteArray.size (Prod.snd b_5)))) (T12.flu
      (ByteArray.size (Prod.snd b_5)))]), Sx.SO.row (22 : Nat) (Sx.Ty.imm (Sx.Ty.int Go.IntKind.i32)) (T12.RSt.LL b_4 ++ [List.take (List.length (Prod.fst b_5)) (Prod.fst b_5)]
      ++ [List.take (List.length (T12.flu (ByteArray.size (Prod.snd b_5)))) (T12.flu (ByteArray.size (Prod.snd b_5)))]), Sx.SO.row (9 : Nat) Sx.Ty.str b]) = ([Sx.SV.lit
      (Go.Value.string s), Sx.SV.lit (Go.Value.int Go.IntKind.i64 fl), Sx.SV.ptr (0 : Nat) (0 : Nat), Sx.SV.ptr (1 : Nat) (0 : Nat), Sx.SV.ptr (3 : Nat) (0 : Nat), Sx.SV.sl (6 :
      Nat) (1 : Nat) (0 : Nat) (List.length b), Sx.SV.lit (Go.Value.int Go.IntKind.i64 (↑(T12.RSt.i x') : Int))], [Sx.SO.cells (29 : Nat) [Sx.SV.lit (Go.Value.string (T12.RSt.h
      x'))], Sx.SO.cells (44 : Nat) [Sx.SV.sl (2 : Nat) (1 : Nat) (0 : Nat) (List.length (T12.RSt.B x'))], Sx.SO.row (5 : Nat) (Sx.Ty.int Go.IntKind.u8) (T12.RSt.B x'),
      Sx.SO.cells (55 : Nat) (T12.bk (Sx.SV.sl (4 : Nat) (1 : Nat) (0 : Nat) (List.length (T12.RSt.LL x'))) (Sx.SV.sl (5 : Nat) (1 : Nat) (0 : Nat) (List.length (T12.RSt.LL
      x')))), Sx.SO.kept (22 : Nat) (21 : Nat) (Sx.Ty.int Go.IntKind.i32) (T12.RSt.LL x'), Sx.SO.row (22 : Nat) (Sx.Ty.imm (Sx.Ty.int Go.IntKind.i32)) (T12.RSt.LL x'), Sx.SO.row
      (9 : Nat) Sx.Ty.str b]) ∧ T12.ROk b x' ∧ List.length b - T12.RSt.i x' < List.length b - T12.RSt.i b_4) ∧ True)) ((∃ (x' : T12.RSt), ([Sx.SV.lit (Go.Value.string s),
      Sx.SV.lit (Go.Value.int Go.IntKind.i64 fl), Sx.SV.ptr (0 : Nat) (0 : Nat), Sx.SV.ptr (1 : Nat) (0 : Nat), Sx.SV.ptr (3 : Nat) (0 : Nat), Sx.SV.sl (6 : Nat) (1 : Nat) (0 :
      Nat) (List.length b), Sx.SV.lit (Go.Value.int Go.IntKind.i64 (Go.IntKind.wrap Go.IntKind.i64 ((↑(T12.RSt.i b_4) : Int) + (1 : Int))))], [Sx.SO.cells (29 : Nat) [Sx.SV.lit
      (Go.Value.string (Prod.snd b_5))], Sx.SO.cells (44 : Nat) [Sx.SV.sl (2 : Nat) (1 : Nat) (0 : Nat) (List.length (Prod.snd b_6))], Sx.SO.row (5 : Nat) (Sx.Ty.int
      Go.IntKind.u8) (Prod.snd b_6), Sx.SO.cells (55 : Nat) (T12.bk (Sx.SV.sl (4 : Nat) (1 : Nat) (0 : Nat) (List.length (T12.RSt.LL b_4) + (1 : Nat))) (Sx.SV.sl (5 : Nat) (1 :
      Nat) (0 : Nat) (List.length (T12.RSt.LL b_4) + (1 : Nat)))), Sx.SO.kept (22 : Nat) (21 : Nat) (Sx.Ty.int Go.IntKind.i32) (T12.RSt.LL b_4 ++ [List.take (List.length
      (Prod.fst b_5)) (Prod.fst b_5)]), Sx.SO.row (22 : Nat) (Sx.Ty.imm (Sx.Ty.int Go.IntKind.i32)) (T12.RSt.LL b_4 ++ [List.take (List.length (Prod.fst b_5)) (Prod.fst b_5)]),
      Sx.SO.row (9 : Nat) Sx.Ty.str b]) = ([Sx.SV.lit (Go.Value.string s), Sx.SV.lit (Go.Value.int Go.IntKind.i64 fl), Sx.SV.ptr (0 : Nat) (0 : Nat), Sx.SV.ptr (1 : Nat) (0 :
      Nat), Sx.SV.ptr (3 : Nat) (0 : Nat), Sx.SV.sl (6 : Nat) (1 : Nat) (0 : Nat) (List.length b), Sx.SV.lit (Go.Value.int Go.IntKind.i64 (↑(T12.RSt.i x') : Int))], [Sx.SO.cells
      (29 : Nat) [Sx.SV.lit (Go.Value.string (T12.RSt.h x'))], Sx.SO.cells (44 : Nat) [Sx.SV.sl (2 : Nat) (1 : Nat) (0 : Nat) (List.length (T12.RSt.B x'))], Sx.SO.row (5 : Nat)
      (Sx.Ty.int Go.IntKind.u8) (T12.RSt.B x'), Sx.SO.cells (55 : Nat) (T12.bk (Sx.SV.sl (4 : Nat) (1 : Nat) (0 : Nat) (List.length (T12.RSt.LL x'))) (Sx.SV.sl (5 : Nat) (1 :
      Nat) (0 : Nat) (List.length (T12.RSt.LL x')))), Sx.SO.kept (22 : Nat) (21 : Nat) (Sx.Ty.int Go.IntKind.i32) (T12.RSt.LL x'), Sx.SO.row (22 : Nat) (Sx.Ty.imm (Sx.Ty.int
      Go.IntKind.i32)) (T12.RSt.LL x'), Sx.SO.row (9 : Nat) Sx.Ty.str b]) ∧ T12.ROk b x' ∧ List.length b - T12.RSt.i x' < List.length b - T12.RSt.i b_4) ∧ True)))))
      (((List.length (T12.RSt.LL b_4) ≤ (1000 : Nat) ∧ (∀ (l : List (Sx.Ty.den (Sx.Ty.int Go.IntKind.i32))), l ∈ T12.RSt.LL b_4 → List.length l ≤ (900000 : Nat)) ∧ T12.RSt.LL
      b_4 = T12.RSt.LL b_4) ∧ T12.bk (Sx.SV.sl (1 : Nat) (1 : Nat) (0 : Nat) (List.length (T12.RSt.LL b_4))) (Sx.SV.sl (2 : Nat) (1 : Nat) (0 : Nat) (List.length (T12.RSt.LL
      b_4))) = T12.bk (Sx.SV.sl (1 : Nat) (1 : Nat) (0 : Nat) (List.length (T12.RSt.LL b_4))) (Sx.SV.sl (2 : Nat) (1 : Nat) (0 : Nat) (List.length (T12.RSt.LL b_4)))) ∧ Q
      (Sx.SV.lit (Go.Value.bool Bool.true), ([] : List Sx.SO), [(0 : Nat), (1 : Nat), (2 : Nat), (3 : Nat), (4 : Nat), (5 : Nat), (6 : Nat), (7 : Nat)])))) ((∃ (x : T12.RSt),
      ([Sx.SV.lit (Go.Value.string s), Sx.SV.lit (Go.Value.int Go.IntKind.i64 fl), Sx.SV.ptr (0 : Nat) (0 : Nat), Sx.SV.ptr (1 : Nat) (0 : Nat), Sx.SV.ptr (3 : Nat) (0 : Nat),
      Sx.SV.sl (6 : Nat) (1 : Nat) (0 : Nat) (List.length b), Sx.SV.lit (Go.Value.int Go.IntKind.i64 (Go.IntKind.wrap Go.IntKind.i64 ((0 : Int) + (1 : Int))))], [Sx.SO.cells (29
      : Nat) [Sx.SV.lit (Go.Value.string (Prod.snd b_1))], Sx.SO.cells (44 : Nat) [Sx.SV.sl (2 : Nat) (1 : Nat) (0 : Nat) (List.length (Prod.snd b_2))], Sx.SO.row (5 : Nat)
      (Sx.Ty.int Go.IntKind.u8) (Prod.snd b_2), Sx.SO.cells (55 : Nat) (T12.bk (Sx.SV.sl (4 : Nat) (1 : Nat) (0 : Nat) (1 : Nat)) (Sx.SV.sl (5 : Nat) (1 : Nat) (0 : Nat) (1 :
      Nat))), Sx.SO.kept (22 : Nat) (21 : Nat) (Sx.Ty.int Go.IntKind.i32) [List.take (List.length (Prod.fst b_1)) (Prod.fst b_1)], Sx.SO.row (22 : Nat) (Sx.Ty.imm (Sx.Ty.int
      Go.IntKind.i32)) [List.take (List.length (Prod.fst b_1)) (Prod.fst b_1)], Sx.SO.row (9 : Nat) Sx.Ty.str b]) = ([Sx.SV.lit (Go.Value.string s), Sx.SV.lit (Go.Value.int
      Go.IntKind.i64 fl), Sx.SV.ptr (0 : Nat) (0 : Nat), Sx.SV.ptr (1 : Nat) (0 : Nat), Sx.SV.ptr (3 : Nat) (0 : Nat), Sx.SV.sl (6 : Nat) (1 : Nat) (0 : Nat) (List.length b),
      Sx.SV.lit (Go.Value.int Go.IntKind.i64 (↑(T12.RSt.i x) : Int))], [Sx.SO.cells (29 : Nat) [Sx.SV.lit (Go.Value.string (T12.RSt.h x))], Sx.SO.cells (44 : Nat) [Sx.SV.sl (2 :
      Nat) (1 : Nat) (0 : Nat) (List.length (T12.RSt.B x))], Sx.SO.row (5 : Nat) (Sx.Ty.int Go.IntKind.u8) (T12.RSt.B x), Sx.SO.cells (55 : Nat) (T12.bk (Sx.SV.sl (4 : Nat) (1 :
      Nat) (0 : Nat) (List.length (T12.RSt.LL x))) (Sx.SV.sl (5 : Nat) (1 : Nat) (0 : Nat) (List.length (T12.RSt.LL x)))), Sx.SO.kept (22 : Nat) (21 : Nat) (Sx.Ty.int
      Go.IntKind.i32) (T12.RSt.LL x), Sx.SO.row (22 : Nat) (Sx.Ty.imm (Sx.Ty.int Go.IntKind.i32)) (T12.RSt.LL x), Sx.SO.row (9 : Nat) Sx.Ty.str b]) ∧ T12.ROk b x) ∧ ∀ (b_4 :
      T12.RSt), T12.ROk b b_4 → Sx.br (Decidable.decide ((↑(T12.RSt.i b_4) : Int) < (↑(List.length b) : Int))) (((0 : Int) ≤ (↑(T12.RSt.i b_4) : Int) ∧ (↑(T12.RSt.i b_4) : Int)
      < (↑(List.length b) : Int)) ∧ (0 : Nat) + T12.RSt.i b_4 < List.length b ∧ (T12.Good (Sx.strInts (T12.RSt.h b_4)) ∧ (1 : Nat) ≤ (1 : Nat) ∧ T12.SizeOK [List.getD b ((0 :
      Nat) + T12.RSt.i b_4) (Sx.Ty.dflt Sx.Ty.str)] ∧ (1 : Nat) ≤ (1000000 : Nat)) ∧ ∀ (b_5 : List Int × ByteArray), T12.Fed (T12.RSt.h b_4) [List.getD b ((0 : Nat) + T12.RSt.i
      b_4) (Sx.Ty.dflt Sx.Ty.str)] b_5 → ((List.length (Prod.fst b_5) ≤ List.length (Prod.fst b_5) ∧ List.length (Prod.fst b_5) ≤ (1000000 : Nat)) ∧ List.length (T12.RSt.LL b_4)
      ≤ (100 : Nat) ∧ List.length (T12.RSt.LL b_4) ≤ (100 : Nat) ∧ T12.bk (Sx.SV.sl (2 : Nat) (1 : Nat) (0 : Nat) (List.length (T12.RSt.LL b_4))) (Sx.SV.sl (3 : Nat) (1 : Nat)
      (0 : Nat) (List.length (T12.RSt.LL b_4))) = T12.bk (Sx.SV.sl (2 : Nat) (1 : Nat) (0 : Nat) (List.length (T12.RSt.LL b_4))) (Sx.SV.sl (3 : Nat) (1 : Nat) (0 : Nat)
      (List.length (T12.RSt.LL b_4)))) ∧ ((0 : Int) ≤ (↑(T12.RSt.i b_4) : Int) ∧ (↑(T12.RSt.i b_4) : Int) < (↑(List.length b) : Int)) ∧ (0 : Nat) + T12.RSt.i b_4 < List.length b
      ∧ (List.length (T12.RSt.B b_4) = List.length (T12.RSt.B b_4) ∧ T12.Good2 (T12.RSt.B b_4) ∧ ByteArray.size (List.getD b ((0 : Nat) + T12.RSt.i b_4) (Sx.Ty.dflt Sx.Ty.str))
      ≤ (100000 : Nat)) ∧ ∀ (b_6 : List Int × List Int), b_6 = T12.feed (T12.RSt.B b_4) (Sx.strInts (List.getD b ((0 : Nat) + T12.RSt.i b_4) (Sx.Ty.dflt Sx.Ty.str))) → ((0 :
      Nat) + List.length (Prod.fst b_5) ≤ List.length (Prod.fst b_5) ∧ (0 : Nat) + List.length (Prod.fst b_6) ≤ List.length (Prod.fst b_6) ∧ List.length (Prod.fst b_5) ≤
      (1000000 : Nat)) ∧ Sx.br (!Decidable.decide (List.take (List.length (Prod.fst b_5)) (List.drop (0 : Nat) (Prod.fst b_5)) = List.take (List.length (Prod.fst b_6))
      (List.drop (0 : Nat) (Prod.fst b_6)))) (∀ (b : Bool), True → Sx.br b (Q (Sx.SV.lit (Go.Value.bool Bool.false), ([] : List Sx.SO), [])) (Q (Sx.SV.lit (Go.Value.bool
      Bool.false), ([] : List Sx.SO), []))) (∀ (b_7 : Bool), True → Sx.br b_7 (Sx.br ((↑(ByteArray.size (Prod.snd b_5)) : Int) != (↑(List.length (Prod.snd b_6)) : Int)) (Q
      (Sx.SV.lit (Go.Value.bool Bool.false), ([] : List Sx.SO), [])) (Sx.br ((↑(T12.RSt.i b_4) : Int) == fl) (((List.length (T12.flu (ByteArray.size (Prod.snd b_5))) ≤
      List.length (T12.flu (ByteArray.size (Prod.snd b_5))) ∧ List.length (T12.flu (ByteArray.size (Prod.snd b_5))) ≤ (1000000 : Nat)) ∧ List.length (T12.RSt.LL b_4 ++
      [List.take (List.length (Prod.fst b_5)) (Prod.fst b_5)]) ≤ (100 : Nat) ∧ List.length (T12.RSt.LL b_4 ++ [List.take (List.length (Prod.fst b_5)) (Prod.fst b_5)]) ≤ (100 :
      Nat) ∧ T12.bk (Sx.SV.sl (2 : Nat) (1 : Nat) (0 : Nat) (List.length (T12.RSt.LL b_4) + (1 : Nat))) (Sx.SV.sl (3 : Nat) (1 : Nat) (0 : Nat) (List.length (T12.RSt.LL b_4) +
      (1 : Nat))) = T12.bk (Sx.SV.sl (2 : Nat) (1 : Nat) (0 : Nat) (List.length (T12.RSt.LL b_4 ++ [List.take (List.length (Prod.fst b_5)) (Prod.fst b_5)]))) (Sx.SV.sl (3 : Nat)
      (1 : Nat) (0 : Nat) (List.length (T12.RSt.LL b_4 ++ [List.take (List.length (Prod.fst b_5)) (Prod.fst b_5)])))) ∧ List.length (Prod.snd b_6) = List.length (Prod.snd b_6) ∧
      ((0 : Nat) + List.length (T12.flu (ByteArray.size (Prod.snd b_5))) ≤ List.length (T12.flu (ByteArray.size (Prod.snd b_5))) ∧ (0 : Nat) + List.length (T12.flu (List.length
      (Prod.snd b_6))) ≤ List.length (T12.flu (List.length (Prod.snd b_6))) ∧ List.length (T12.flu (ByteArray.size (Prod.snd b_5))) ≤ (1000000 : Nat)) ∧ Sx.br (!Decidable.decide
      (List.take (List.length (T12.flu (ByteArray.size (Prod.snd b_5)))) (List.drop (0 : Nat) (T12.flu (ByteArray.size (Prod.snd b_5)))) = List.take (List.length (T12.flu
      (List.length (Prod.snd b_6)))) (List.drop (0 : Nat) (T12.flu (List.length (Prod.snd b_6)))))) (Q (Sx.SV.lit (Go.Value.bool Bool.false), ([] : List Sx.SO), [])) ((∃ (x' :
      T12.RSt), ([Sx.SV.lit (Go.Value.string s), Sx.SV.lit (Go.Value.int Go.IntKind.i64 fl), Sx.SV.ptr (0 : Nat) (0 : Nat), Sx.SV.ptr (1 : Nat) (0 : Nat), Sx.SV.ptr (3 : Nat) (0
      : Nat), Sx.SV.sl (6 : Nat) (1 : Nat) (0 : Nat) (List.length b), Sx.SV.lit (Go.Value.int Go.IntKind.i64 (Go.IntKind.wrap Go.IntKind.i64 ((↑(T12.RSt.i b_4) : Int) + (1 :
      Int))))], [Sx.SO.cells (29 : Nat) [Sx.SV.lit (Go.Value.string ByteArray.empty)], Sx.SO.cells (44 : Nat) [Sx.SV.sl (2 : Nat) (1 : Nat) (0 : Nat) (0 : Nat)], Sx.SO.row (5 :
      Nat) (Sx.Ty.int Go.IntKind.u8) [], Sx.SO.cells (55 : Nat) (T12.bk (Sx.SV.sl (4 : Nat) (1 : Nat) (0 : Nat) (List.length (T12.RSt.LL b_4 ++ [List.take (List.length (Prod.fst
      b_5)) (Prod.fst b_5)]) + (1 : Nat))) (Sx.SV.sl (5 : Nat) (1 : Nat) (0 : Nat) (List.length (T12.RSt.LL b_4 ++ [List.take (List.length (Prod.fst b_5)) (Prod.fst b_5)]) + (1
      : Nat)))), Sx.SO.kept (22 : Nat) (21 : Nat) (Sx.Ty.int Go.IntKind.i32) (T12.RSt.LL b_4 ++ [List.take (List.length (Prod.fst b_5)) (Prod.fst b_5)] ++ [List.take
      (List.length (T12.flu (ByteArray.size (Prod.snd b_5)))) (T12.flu (ByteArray.size (Prod.snd b_5)))]), Sx.SO.row (22 : Nat) (Sx.Ty.imm (Sx.Ty.int Go.IntKind.i32))
      (T12.RSt.LL b_4 ++ [List.take (List.length (Prod.fst b_5)) (Prod.fst b_5)] ++ [List.take (List.length (T12.flu (ByteArray.size (Prod.snd b_5)))) (T12.flu (ByteArray.size
      (Prod.snd b_5)))]), Sx.SO.row (9 : Nat) Sx.Ty.str b]) = ([Sx.SV.lit (Go.Value.string s), Sx.SV.lit (Go.Value.int Go.IntKind.i64 fl), Sx.SV.ptr (0 : Nat) (0 : Nat),
      Sx.SV.ptr (1 : Nat) (0 : Nat), Sx.SV.ptr (3 : Nat) (0 : Nat), Sx.SV.sl (6 : Nat) (1 : Nat) (0 : Nat) (List.length b), Sx.SV.lit (Go.Value.int Go.IntKind.i64 (↑(T12.RSt.i
      x') : Int))], [Sx.SO.cells (29 : Nat) [Sx.SV.lit (Go.Value.string (T12.RSt.h x'))], Sx.SO.cells (44 : Nat) [Sx.SV.sl (2 : Nat) (1 : Nat) (0 : Nat) (List.length (T12.RSt.B
      x'))], Sx.SO.row (5 : Nat) (Sx.Ty.int Go.IntKind.u8) (T12.RSt.B x'), Sx.SO.cells (55 : Nat) (T12.bk (Sx.SV.sl (4 : Nat) (1 : Nat) (0 : Nat) (List.length (T12.RSt.LL x')))
      (Sx.SV.sl (5 : Nat) (1 : Nat) (0 : Nat) (List.length (T12.RSt.LL x')))), Sx.SO.kept (22 : Nat) (21 : Nat) (Sx.Ty.int Go.IntKind.i32) (T12.RSt.LL x'), Sx.SO.row (22 : Nat)
      (Sx.Ty.imm (Sx.Ty.int Go.IntKind.i32)) (T12.RSt.LL x'), Sx.SO.row (9 : Nat) Sx.Ty.str b]) ∧ T12.ROk b x' ∧ List.length b - T12.RSt.i x' < List.length b - T12.RSt.i b_4) ∧
      True)) ((∃ (x' : T12.RSt), ([Sx.SV.lit (Go.Value.string s), Sx.SV.lit (Go.Value.int Go.IntKind.i64 fl), Sx.SV.ptr (0 : Nat) (0 : Nat), Sx.SV.ptr (1 : Nat) (0 : Nat),
      Sx.SV.ptr (3 : Nat) (0 : Nat), Sx.SV.sl (6 : Nat) (1 : Nat) (0 : Nat) (List.length b), Sx.SV.lit (Go.Value.int Go.IntKind.i64 (Go.IntKind.wrap Go.IntKind.i64 ((↑(T12.RSt.i
      b_4) : Int) + (1 : Int))))], [Sx.SO.cells (29 : Nat) [Sx.SV.lit (Go.Value.string (Prod.snd b_5))], Sx.SO.cells (44 : Nat) [Sx.SV.sl (2 : Nat) (1 : Nat) (0 : Nat)
      (List.length (Prod.snd b_6))], Sx.SO.row (5 : Nat) (Sx.Ty.int Go.IntKind.u8) (Prod.snd b_6), Sx.SO.cells (55 : Nat) (T12.bk (Sx.SV.sl (4 : Nat) (1 : Nat) (0 : Nat)
      (List.length (T12.RSt.LL b_4) + (1 : Nat))) (Sx.SV.sl (5 : Nat) (1 : Nat) (0 : Nat) (List.length (T12.RSt.LL b_4) + (1 : Nat)))), Sx.SO.kept (22 : Nat) (21 : Nat)
      (Sx.Ty.int Go.IntKind.i32) (T12.RSt.LL b_4 ++ [List.take (List.length (Prod.fst b_5)) (Prod.fst b_5)]), Sx.SO.row (22 : Nat) (Sx.Ty.imm (Sx.Ty.int Go.IntKind.i32))
      (T12.RSt.LL b_4 ++ [List.take (List.length (Prod.fst b_5)) (Prod.fst b_5)]), Sx.SO.row (9 : Nat) Sx.Ty.str b]) = ([Sx.SV.lit (Go.Value.string s), Sx.SV.lit (Go.Value.int
      Go.IntKind.i64 fl), Sx.SV.ptr (0 : Nat) (0 : Nat), Sx.SV.ptr (1 : Nat) (0 : Nat), Sx.SV.ptr (3 : Nat) (0 : Nat), Sx.SV.sl (6 : Nat) (1 : Nat) (0 : Nat) (List.length b),
      Sx.SV.lit (Go.Value.int Go.IntKind.i64 (↑(T12.RSt.i x') : Int))], [Sx.SO.cells (29 : Nat) [Sx.SV.lit (Go.Value.string (T12.RSt.h x'))], Sx.SO.cells (44 : Nat) [Sx.SV.sl (2
      : Nat) (1 : Nat) (0 : Nat) (List.length (T12.RSt.B x'))], Sx.SO.row (5 : Nat) (Sx.Ty.int Go.IntKind.u8) (T12.RSt.B x'), Sx.SO.cells (55 : Nat) (T12.bk (Sx.SV.sl (4 : Nat)
      (1 : Nat) (0 : Nat) (List.length (T12.RSt.LL x'))) (Sx.SV.sl (5 : Nat) (1 : Nat) (0 : Nat) (List.length (T12.RSt.LL x')))), Sx.SO.kept (22 : Nat) (21 : Nat) (Sx.Ty.int
      Go.IntKind.i32) (T12.RSt.LL x'), Sx.SO.row (22 : Nat) (Sx.Ty.imm (Sx.Ty.int Go.IntKind.i32)) (T12.RSt.LL x'), Sx.SO.row (9 : Nat) Sx.Ty.str b]) ∧ T12.ROk b x' ∧
      List.length b - T12.RSt.i x' < List.length b - T12.RSt.i b_4) ∧ True))) (Sx.br ((↑(ByteArray.size (Prod.snd b_5)) : Int) != (↑(List.length (Prod.snd b_6)) : Int)) (Q
      (Sx.SV.lit (Go.Value.bool Bool.false), ([] : List Sx.SO), [])) (Sx.br ((↑(T12.RSt.i b_4) : Int) == fl) (((List.length (T12.flu (ByteArray.size (Prod.snd b_5))) ≤
      List.length (T12.flu (ByteArray.size (Prod.snd b_5))) ∧ List.length (T12.flu (ByteArray.size (Prod.snd b_5))) ≤ (1000000 : Nat)) ∧ List.length (T12.RSt.LL b_4 ++
      [List.take (List.length (Prod.fst b_5)) (Prod.fst b_5)]) ≤ (100 : Nat) ∧ List.length (T12.RSt.LL b_4 ++ [List.take (List.length (Prod.fst b_5)) (Prod.fst b_5)]) ≤ (100 :
      Nat) ∧ T12.bk (Sx.SV.sl (2 : Nat) (1 : Nat) (0 : Nat) (List.length (T12.RSt.LL b_4) + (1 : Nat))) (Sx.SV.sl (3 : Nat) (1 : Nat) (0 : Nat) (List.length (T12.RSt.LL b_4) +
      (1 : Nat))) = T12.bk (Sx.SV.sl (2 : Nat) (1 : Nat) (0 : Nat) (List.length (T12.RSt.LL b_4 ++ [List.take (List.length (Prod.fst b_5)) (Prod.fst b_5)]))) (Sx.SV.sl (3 : Nat)
      (1 : Nat) (0 : Nat) (List.length (T12.RSt.LL b_4 ++ [List.take (List.length (Prod.fst b_5)) (Prod.fst b_5)])))) ∧ List.length (Prod.snd b_6) = List.length (Prod.snd b_6) ∧
      ((0 : Nat) + List.length (T12.flu (ByteArray.size (Prod.snd b_5))) ≤ List.length (T12.flu (ByteArray.size (Prod.snd b_5))) ∧ (0 : Nat) + List.length (T12.flu (List.length
      (Prod.snd b_6))) ≤ List.length (T12.flu (List.length (Prod.snd b_6))) ∧ List.length (T12.flu (ByteArray.size (Prod.snd b_5))) ≤ (1000000 : Nat)) ∧ Sx.br (!Decidable.decide
      (List.take (List.length (T12.flu (ByteArray.size (Prod.snd b_5)))) (List.drop (0 : Nat) (T12.flu (ByteArray.size (Prod.snd b_5)))) = List.take (List.length (T12.flu
      (List.length (Prod.snd b_6)))) (List.drop (0 : Nat) (T12.flu (List.length (Prod.snd b_6)))))) (Q (Sx.SV.lit (Go.Value.bool Bool.false), ([] : List Sx.SO), [])) ((∃ (x' :
      T12.RSt), ([Sx.SV.lit (Go.Value.string s), Sx.SV.lit (Go.Value.int Go.IntKind.i64 fl), Sx.SV.ptr (0 : Nat) (0 : Nat), Sx.SV.ptr (1 : Nat) (0 : Nat), Sx.SV.ptr (3 : Nat) (0
      : Nat), Sx.SV.sl (6 : Nat) (1 : Nat) (0 : Nat) (List.length b), Sx.SV.lit (Go.Value.int Go.IntKind.i64 (Go.IntKind.wrap Go.IntKind.i64 ((↑(T12.RSt.i b_4) : Int) + (1 :
      Int))))], [Sx.SO.cells (29 : Nat) [Sx.SV.lit (Go.Value.string ByteArray.empty)], Sx.SO.cells (44 : Nat) [Sx.SV.sl (2 : Nat) (1 : Nat) (0 : Nat) (0 : Nat)], Sx.SO.row (5 :
      Nat) (Sx.Ty.int Go.IntKind.u8) [], Sx.SO.cells (55 : Nat) (T12.bk (Sx.SV.sl (4 : Nat) (1 : Nat) (0 : Nat) (List.length (T12.RSt.LL b_4 ++ [List.take (List.length (Prod.fst
      b_5)) (Prod.fst b_5)]) + (1 : Nat))) (Sx.SV.sl (5 : Nat) (1 : Nat) (0 : Nat) (List.length (T12.RSt.LL b_4 ++ [List.take (List.length (Prod.fst b_5)) (Prod.fst b_5)]) + (1
      : Nat)))), Sx.SO.kept (22 : Nat) (21 : Nat) (Sx.Ty.int Go.IntKind.i32) (T12.RSt.LL b_4 ++ [List.take (List.length (Prod.fst b_5)) (Prod.fst b_5)] ++ [List.take
      (List.length (T12.flu (ByteArray.size (Prod.snd b_5)))) (T12.flu (ByteArray.size (Prod.snd b_5)))]), Sx.SO.row (22 : Nat) (Sx.Ty.imm (Sx.Ty.int Go.IntKind.i32))
      (T12.RSt.LL b_4 ++ [List.take (List.length (Prod.fst b_5)) (Prod.fst b_5)] ++ [List.take (List.length (T12.flu (ByteArray.size (Prod.snd b_5)))) (T12.flu (ByteArray.size
      (Prod.snd b_5)))]), Sx.SO.row (9 : Nat) Sx.Ty.str b]) = ([Sx.SV.lit (Go.Value.string s), Sx.SV.lit (Go.Value.int Go.IntKind.i64 fl), Sx.SV.ptr (0 : Nat) (0 : Nat),
      Sx.SV.ptr (1 : Nat) (0 : Nat), Sx.SV.ptr (3 : Nat) (0 : Nat), Sx.SV.sl (6 : Nat) (1 : Nat) (0 : Nat) (List.length b), Sx.SV.lit (Go.Value.int Go.IntKind.i64 (↑(T12.RSt.i
      x') : Int))], [Sx.SO.cells (29 : Nat) [Sx.SV.lit (Go.Value.string (T12.RSt.h x'))], Sx.SO.cells (44 : Nat) [Sx.SV.sl (2 : Nat) (1 : Nat) (0 : Nat) (List.length (T12.RSt.B
      x'))], Sx.SO.row (5 : Nat) (Sx.Ty.int Go.IntKind.u8) (T12.RSt.B x'), Sx.SO.cells (55 : Nat) (T12.bk (Sx.SV.sl (4 : Nat) (1 : Nat) (0 : Nat) (List.length (T12.RSt.LL x')))
      (Sx.SV.sl (5 : Nat) (1 : Nat) (0 : Nat) (List.length (T12.RSt.LL x')))), Sx.SO.kept (22 : Nat) (21 : Nat) (Sx.Ty.int Go.IntKind.i32) (T12.RSt.LL x'), Sx.SO.row (22 : Nat)
      (Sx.Ty.imm (Sx.Ty.int Go.IntKind.i32)) (T12.RSt.LL x'), Sx.SO.row (9 : Nat) Sx.Ty.str b]) ∧ T12.ROk b x' ∧ List.length b - T12.RSt.i x' < List.length b - T12.RSt.i b_4) ∧
      True)) ((∃ (x' : T12.RSt), ([Sx.SV.lit (Go.Value.string s), Sx.SV.lit (Go.Value.int Go.IntKind.i64 fl), Sx.SV.ptr (0 : Nat) (0 : Nat), Sx.SV.ptr (1 : Nat) (0 : Nat),
      Sx.SV.ptr (3 : Nat) (0 : Nat), Sx.SV.sl (6 : Nat) (1 : Nat) (0 : Nat) (List.length b), Sx.SV.lit (Go.Value.int Go.IntKind.i64 (Go.IntKind.wrap Go.IntKind.i64 ((↑(T12.RSt.i
      b_4) : Int) + (1 : Int))))], [Sx.SO.cells (29 : Nat) [Sx.SV.lit (Go.Value.string (Prod.snd b_5))], Sx.SO.cells (44 : Nat) [Sx.SV.sl (2 : Nat) (1 : Nat) (0 : Nat)
      (List.length (Prod.snd b_6))], Sx.SO.row (5 : Nat) (Sx.Ty.int Go.IntKind.u8) (Prod.snd b_6), Sx.SO.cells (55 : Nat) (T12.bk (Sx.SV.sl (4 : Nat) (1 : Nat) (0 : Nat)
      (List.length (T12.RSt.LL b_4) + (1 : Nat))) (Sx.SV.sl (5 : Nat) (1 : Nat) (0 : Nat) (List.length (T12.RSt.LL b_4) + (1 : Nat)))), Sx.SO.kept (22 : Nat) (21 : Nat)
      (Sx.Ty.int Go.IntKind.i32) (T12.RSt.LL b_4 ++ [List.take (List.length (Prod.fst b_5)) (Prod.fst b_5)]), Sx.SO.row (22 : Nat) (Sx.Ty.imm (Sx.Ty.int Go.IntKind.i32))
      (T12.RSt.LL b_4 ++ [List.take (List.length (Prod.fst b_5)) (Prod.fst b_5)]), Sx.SO.row (9 : Nat) Sx.Ty.str b]) = ([Sx.SV.lit (Go.Value.string s), Sx.SV.lit (Go.Value.int
      Go.IntKind.i64 fl), Sx.SV.ptr (0 : Nat) (0 : Nat), Sx.SV.ptr (1 : Nat) (0 : Nat), Sx.SV.ptr (3 : Nat) (0 : Nat), Sx.SV.sl (6 : Nat) (1 : Nat) (0 : Nat) (List.length b),
      Sx.SV.lit (Go.Value.int Go.IntKind.i64 (↑(T12.RSt.i x') : Int))], [Sx.SO.cells (29 : Nat) [Sx.SV.lit (Go.Value.string (T12.RSt.h x'))], Sx.SO.cells (44 : Nat) [Sx.SV.sl (2
      : Nat) (1 : Nat) (0 : Nat) (List.length (T12.RSt.B x'))], Sx.SO.row (5 : Nat) (Sx.Ty.int Go.IntKind.u8) (T12.RSt.B x'), Sx.SO.cells (55 : Nat) (T12.bk (Sx.SV.sl (4 : Nat)
      (1 : Nat) (0 : Nat) (List.length (T12.RSt.LL x'))) (Sx.SV.sl (5 : Nat) (1 : Nat) (0 : Nat) (List.length (T12.RSt.LL x')))), Sx.SO.kept (22 : Nat) (21 : Nat) (Sx.Ty.int
      Go.IntKind.i32) (T12.RSt.LL x'), Sx.SO.row (22 : Nat) (Sx.Ty.imm (Sx.Ty.int Go.IntKind.i32)) (T12.RSt.LL x'), Sx.SO.row (9 : Nat) Sx.Ty.str b]) ∧ T12.ROk b x' ∧
      List.length b - T12.RSt.i x' < List.length b - T12.RSt.i b_4) ∧ True))))) (((List.length (T12.RSt.LL b_4) ≤ (1000 : Nat) ∧ (∀ (l : List (Sx.Ty.den (Sx.Ty.int
      Go.IntKind.i32))), l ∈ T12.RSt.LL b_4 → List.length l ≤ (900000 : Nat)) ∧ T12.RSt.LL b_4 = T12.RSt.LL b_4) ∧ T12.bk (Sx.SV.sl (1 : Nat) (1 : Nat) (0 : Nat) (List.length
      (T12.RSt.LL b_4))) (Sx.SV.sl (2 : Nat) (1 : Nat) (0 : Nat) (List.length (T12.RSt.LL b_4))) = T12.bk (Sx.SV.sl (1 : Nat) (1 : Nat) (0 : Nat) (List.length (T12.RSt.LL b_4)))
      (Sx.SV.sl (2 : Nat) (1 : Nat) (0 : Nat) (List.length (T12.RSt.LL b_4)))) ∧ Q (Sx.SV.lit (Go.Value.bool Bool.true), ([] : List Sx.SO), [(0 : Nat), (1 : Nat), (2 : Nat), (3
      : Nat), (4 : Nat), (5 : Nat), (6 : Nat), (7 : Nat)]))))) (Sx.br ((↑(ByteArray.size (Prod.snd b_1)) : Int) != (↑(List.length (Prod.snd b_2)) : Int)) (Q (Sx.SV.lit
      (Go.Value.bool Bool.false), ([] : List Sx.SO), [])) (Sx.br ((0 : Int) == fl) (((List.length (T12.flu (ByteArray.size (Prod.snd b_1))) ≤ List.length (T12.flu
      (ByteArray.size (Prod.snd b_1))) ∧ List.length (T12.flu (ByteArray.size (Prod.snd b_1))) ≤ (1000000 : Nat)) ∧ (1 : Nat) ≤ (100 : Nat) ∧ (1 : Nat) ≤ (100 : Nat) ∧ T12.bk
      (Sx.SV.sl (2 : Nat) (1 : Nat) (0 : Nat) (1 : Nat)) (Sx.SV.sl (3 : Nat) (1 : Nat) (0 : Nat) (1 : Nat)) = T12.bk (Sx.SV.sl (2 : Nat) (1 : Nat) (0 : Nat) (1 : Nat)) (Sx.SV.sl
      (3 : Nat) (1 : Nat) (0 : Nat) (1 : Nat))) ∧ List.length (Prod.snd b_2) = List.length (Prod.snd b_2) ∧ ((0 : Nat) + List.length (T12.flu (ByteArray.size (Prod.snd b_1))) ≤
      List.length (T12.flu (ByteArray.size (Prod.snd b_1))) ∧ (0 : Nat) + List.length (T12.flu (List.length (Prod.snd b_2))) ≤ List.length (T12.flu (List.length (Prod.snd b_2)))
      ∧ List.length (T12.flu (ByteArray.size (Prod.snd b_1))) ≤ (1000000 : Nat)) ∧ Sx.br (!Decidable.decide (List.take (List.length (T12.flu (ByteArray.size (Prod.snd b_1))))
      (List.drop (0 : Nat) (T12.flu (ByteArray.size (Prod.snd b_1)))) = List.take (List.length (T12.flu (List.length (Prod.snd b_2)))) (List.drop (0 : Nat) (T12.flu (List.length
      (Prod.snd b_2)))))) (Q (Sx.SV.lit (Go.Value.bool Bool.false), ([] : List Sx.SO), [])) ((∃ (x : T12.RSt), ([Sx.SV.lit (Go.Value.string s), Sx.SV.lit (Go.Value.int
      Go.IntKind.i64 fl), Sx.SV.ptr (0 : Nat) (0 : Nat), Sx.SV.ptr (1 : Nat) (0 : Nat), Sx.SV.ptr (3 : Nat) (0 : Nat), Sx.SV.sl (6 : Nat) (1 : Nat) (0 : Nat) (List.length b),
      Sx.SV.lit (Go.Value.int Go.IntKind.i64 (Go.IntKind.wrap Go.IntKind.i64 ((0 : Int) + (1 : Int))))], [Sx.SO.cells (29 : Nat) [Sx.SV.lit (Go.Value.string ByteArray.empty)],
      Sx.SO.cells (44 : Nat) [Sx.SV.sl (2 : Nat) (1 : Nat) (0 : Nat) (0 : Nat)], Sx.SO.row (5 : Nat) (Sx.Ty.int Go.IntKind.u8) [], Sx.SO.cells (55 : Nat) (T12.bk (Sx.SV.sl (4 :
      Nat) (1 : Nat) (0 : Nat) (2 : Nat)) (Sx.SV.sl (5 : Nat) (1 : Nat) (0 : Nat) (2 : Nat))), Sx.SO.kept (22 : Nat) (21 : Nat) (Sx.Ty.int Go.IntKind.i32) [List.take
      (List.length (Prod.fst b_1)) (Prod.fst b_1), List.take (List.length (T12.flu (ByteArray.size (Prod.snd b_1)))) (T12.flu (ByteArray.size (Prod.snd b_1)))], Sx.SO.row (22 :
      Nat) (Sx.Ty.imm (Sx.Ty.int Go.IntKind.i32)) [List.take (List.length (Prod.fst b_1)) (Prod.fst b_1), List.take (List.length (T12.flu (ByteArray.size (Prod.snd b_1))))
      (T12.flu (ByteArray.size (Prod.snd b_1)))], Sx.SO.row (9 : Nat) Sx.Ty.str b]) = ([Sx.SV.lit (Go.Value.string s), Sx.SV.lit (Go.Value.int Go.IntKind.i64 fl), Sx.SV.ptr (0 :
      Nat) (0 : Nat), Sx.SV.ptr (1 : Nat) (0 : Nat), Sx.SV.ptr (3 : Nat) (0 : Nat), Sx.SV.sl (6 : Nat) (1 : Nat) (0 : Nat) (List.length b), Sx.SV.lit (Go.Value.int
      Go.IntKind.i64 (↑(T12.RSt.i x) : Int))], [Sx.SO.cells (29 : Nat) [Sx.SV.lit (Go.Value.string (T12.RSt.h x))], Sx.SO.cells (44 : Nat) [Sx.SV.sl (2 : Nat) (1 : Nat) (0 :
      Nat) (List.length (T12.RSt.B x))], Sx.SO.row (5 : Nat) (Sx.Ty.int Go.IntKind.u8) (T12.RSt.B x), Sx.SO.cells (55 : Nat) (T12.bk (Sx.SV.sl (4 : Nat) (1 : Nat) (0 : Nat)
      (List.length (T12.RSt.LL x))) (Sx.SV.sl (5 : Nat) (1 : Nat) (0 : Nat) (List.length (T12.RSt.LL x)))), Sx.SO.kept (22 : Nat) (21 : Nat) (Sx.Ty.int Go.IntKind.i32)
      (T12.RSt.LL x), Sx.SO.row (22 : Nat) (Sx.Ty.imm (Sx.Ty.int Go.IntKind.i32)) (T12.RSt.LL x), Sx.SO.row (9 : Nat) Sx.Ty.str b]) ∧ T12.ROk b x) ∧ ∀ (b_4 : T12.RSt), T12.ROk b
      b_4 → Sx.br (Decidable.decide ((↑(T12.RSt.i b_4) : Int) < (↑(List.length b) : Int))) (((0 : Int) ≤ (↑(T12.RSt.i b_4) : Int) ∧ (↑(T12.RSt.i b_4) : Int) < (↑(List.length b)
      : Int)) ∧ (0 : Nat) + T12.RSt.i b_4 < List.length b ∧ (T12.Good (Sx.strInts (T12.RSt.h b_4)) ∧ (1 : Nat) ≤ (1 : Nat) ∧ T12.SizeOK [List.getD b ((0 : Nat) + T12.RSt.i b_4)
      (Sx.Ty.dflt Sx.Ty.str)] ∧ (1 : Nat) ≤ (1000000 : Nat)) ∧ ∀ (b_5 : List Int × ByteArray), T12.Fed (T12.RSt.h b_4) [List.getD b ((0 : Nat) + T12.RSt.i b_4) (Sx.Ty.dflt
      Sx.Ty.str)] b_5 → ((List.length (Prod.fst b_5) ≤ List.length (Prod.fst b_5) ∧ List.length (Prod.fst b_5) ≤ (1000000 : Nat)) ∧ List.length (T12.RSt.LL b_4) ≤ (100 : Nat) ∧
      List.length (T12.RSt.LL b_4) ≤ (100 : Nat) ∧ T12.bk (Sx.SV.sl (2 : Nat) (1 : Nat) (0 : Nat) (List.length (T12.RSt.LL b_4))) (Sx.SV.sl (3 : Nat) (1 : Nat) (0 : Nat)
      (List.length (T12.RSt.LL b_4))) = T12.bk (Sx.SV.sl (2 : Nat) (1 : Nat) (0 : Nat) (List.length (T12.RSt.LL b_4))) (Sx.SV.sl (3 : Nat) (1 : Nat) (0 : Nat) (List.length
      (T12.RSt.LL b_4)))) ∧ ((0 : Int) ≤ (↑(T12.RSt.i b_4) : Int) ∧ (↑(T12.RSt.i b_4) : Int) < (↑(List.length b) : Int)) ∧ (0 : Nat) + T12.RSt.i b_4 < List.length b ∧
      (List.length (T12.RSt.B b_4) = List.length (T12.RSt.B b_4) ∧ T12.Good2 (T12.RSt.B b_4) ∧ ByteArray.size (List.getD b ((0 : Nat) + T12.RSt.i b_4) (Sx.Ty.dflt Sx.Ty.str)) ≤
      (100000 : Nat)) ∧ ∀ (b_6 : List Int × List Int), b_6 = T12.feed (T12.RSt.B b_4) (Sx.strInts (List.getD b ((0 : Nat) + T12.RSt.i b_4) (Sx.Ty.dflt Sx.Ty.str))) → ((0 : Nat)
      + List.length (Prod.fst b_5) ≤ List.length (Prod.fst b_5) ∧ (0 : Nat) + List.length (Prod.fst b_6) ≤ List.length (Prod.fst b_6) ∧ List.length (Prod.fst b_5) ≤ (1000000 :
      Nat)) ∧ Sx.br (!Decidable.decide (List.take (List.length (Prod.fst b_5)) (List.drop (0 : Nat) (Prod.fst b_5)) = List.take (List.length (Prod.fst b_6)) (List.drop (0 : Nat)
      (Prod.fst b_6)))) (∀ (b : Bool), True → Sx.br b (Q (Sx.SV.lit (Go.Value.bool Bool.false), ([] : List Sx.SO), [])) (Q (Sx.SV.lit (Go.Value.bool Bool.false), ([] : List
      Sx.SO), []))) (∀ (b_7 : Bool), True → Sx.br b_7 (Sx.br ((↑(ByteArray.size (Prod.snd b_5)) : Int) != (↑(List.length (Prod.snd b_6)) : Int)) (Q (Sx.SV.lit (Go.Value.bool
      Bool.false), ([] : List Sx.SO), [])) (Sx.br ((↑(T12.RSt.i b_4) : Int) == fl) (((List.length (T12.flu (ByteArray.size (Prod.snd b_5))) ≤ List.length (T12.flu
      (ByteArray.size (Prod.snd b_5))) ∧ List.length (T12.flu (ByteArray.size (Prod.snd b_5))) ≤ (1000000 : Nat)) ∧ List.length (T12.RSt.LL b_4 ++ [List.take (List.length
      (Prod.fst b_5)) (Prod.fst b_5)]) ≤ (100 : Nat) ∧ List.length (T12.RSt.LL b_4 ++ [List.take (List.length (Prod.fst b_5)) (Prod.fst b_5)]) ≤ (100 : Nat) ∧ T12.bk (Sx.SV.sl
      (2 : Nat) (1 : Nat) (0 : Nat) (List.length (T12.RSt.LL b_4) + (1 : Nat))) (Sx.SV.sl (3 : Nat) (1 : Nat) (0 : Nat) (List.length (T12.RSt.LL b_4) + (1 : Nat))) = T12.bk
      (Sx.SV.sl (2 : Nat) (1 : Nat) (0 : Nat) (List.length (T12.RSt.LL b_4 ++ [List.take (List.length (Prod.fst b_5)) (Prod.fst b_5)]))) (Sx.SV.sl (3 : Nat) (1 : Nat) (0 : Nat)
      (List.length (T12.RSt.LL b_4 ++ [List.take (List.length (Prod.fst b_5)) (Prod.fst b_5)])))) ∧ List.length (Prod.snd b_6) = List.length (Prod.snd b_6) ∧ ((0 : Nat) +
      List.length (T12.flu (ByteArray.size (Prod.snd b_5))) ≤ List.length (T12.flu (ByteArray.size (Prod.snd b_5))) ∧ (0 : Nat) + List.length (T12.flu (List.length (Prod.snd
      b_6))) ≤ List.length (T12.flu (List.length (Prod.snd b_6))) ∧ List.length (T12.flu (ByteArray.size (Prod.snd b_5))) ≤ (1000000 : Nat)) ∧ Sx.br (!Decidable.decide
      (List.take (List.length (T12.flu (ByteArray.size (Prod.snd b_5)))) (List.drop (0 : Nat) (T12.flu (ByteArray.size (Prod.snd b_5)))) = List.take (List.length (T12.flu
      (List.length (Prod.snd b_6)))) (List.drop (0 : Nat) (T12.flu (List.length (Prod.snd b_6)))))) (Q (Sx.SV.lit (Go.Value.bool Bool.false), ([] : List Sx.SO), [])) ((∃ (x' :
      T12.RSt), ([Sx.SV.lit (Go.Value.string s), Sx.SV.lit (Go.Value.int Go.IntKind.i64 fl), Sx.SV.ptr (0 : Nat) (0 : Nat), Sx.SV.ptr (1 : Nat) (0 : Nat), Sx.SV.ptr (3 : Nat) (0
      : Nat), Sx.SV.sl (6 : Nat) (1 : Nat) (0 : Nat) (List.length b), Sx.SV.lit (Go.Value.int Go.IntKind.i64 (Go.IntKind.wrap Go.IntKind.i64 ((↑(T12.RSt.i b_4) : Int) + (1 :
      Int))))], [Sx.SO.cells (29 : Nat) [Sx.SV.lit (Go.Value.string ByteArray.empty)], Sx.SO.cells (44 : Nat) [Sx.SV.sl (2 : Nat) (1 : Nat) (0 : Nat) (0 : Nat)], Sx.SO.row (5 :
      Nat) (Sx.Ty.int Go.IntKind.u8) [], Sx.SO.cells (55 : Nat) (T12.bk (Sx.SV.sl (4 : Nat) (1 : Nat) (0 : Nat) (List.length (T12.RSt.LL b_4 ++ [List.take (List.length (Prod.fst
      b_5)) (Prod.fst b_5)]) + (1 : Nat))) (Sx.SV.sl (5 : Nat) (1 : Nat) (0 : Nat) (List.length (T12.RSt.LL b_4 ++ [List.take (List.length (Prod.fst b_5)) (Prod.fst b_5)]) + (1
      : Nat)))), Sx.SO.kept (22 : Nat) (21 : Nat) (Sx.Ty.int Go.IntKind.i32) (T12.RSt.LL b_4 ++ [List.take (List.length (Prod.fst b_5)) (Prod.fst b_5)] ++ [List.take
      (List.length (T12.flu (ByteArray.size (Prod.snd b_5)))) (T12.flu (ByteArray.size (Prod.snd b_5)))]), Sx.SO.row (22 : Nat) (Sx.Ty.imm (Sx.Ty.int Go.IntKind.i32))
      (T12.RSt.LL b_4 ++ [List.take (List.length (Prod.fst b_5)) (Prod.fst b_5)] ++ [List.take (List.length (T12.flu (ByteArray.size (Prod.snd b_5)))) (T12.flu (ByteArray.size
      (Prod.snd b_5)))]), Sx.SO.row (9 : Nat) Sx.Ty.str b]) = ([Sx.SV.lit (Go.Value.string s), Sx.SV.lit (Go.Value.int Go.IntKind.i64 fl), Sx.SV.ptr (0 : Nat) (0 : Nat),
      Sx.SV.ptr (1 : Nat) (0 : Nat), Sx.SV.ptr (3 : Nat) (0 : Nat), Sx.SV.sl (6 : Nat) (1 : Nat) (0 : Nat) (List.length b), Sx.SV.lit (Go.Value.int Go.IntKind.i64 (↑(T12.RSt.i
      x') : Int))], [Sx.SO.cells (29 : Nat) [Sx.SV.lit (Go.Value.string (T12.RSt.h x'))], Sx.SO.cells (44 : Nat) [Sx.SV.sl (2 : Nat) (1 : Nat) (0 : Nat) (List.length (T12.RSt.B
      x'))], Sx.SO.row (5 : Nat) (Sx.Ty.int Go.IntKind.u8) (T12.RSt.B x'), Sx.SO.cells (55 : Nat) (T12.bk (Sx.SV.sl (4 : Nat) (1 : Nat) (0 : Nat) (List.length (T12.RSt.LL x')))
      (Sx.SV.sl (5 : Nat) (1 : Nat) (0 : Nat) (List.length (T12.RSt.LL x')))), Sx.SO.kept (22 : Nat) (21 : Nat) (Sx.Ty.int Go.IntKind.i32) (T12.RSt.LL x'), Sx.SO.row (22 : Nat)
      (Sx.Ty.imm (Sx.Ty.int Go.IntKind.i32)) (T12.RSt.LL x'), Sx.SO.row (9 : Nat) Sx.Ty.str b]) ∧ T12.ROk b x' ∧ List.length b - T12.RSt.i x' < List.length b - T12.RSt.i b_4) ∧
      True)) ((∃ (x' : T12.RSt), ([Sx.SV.lit (Go.Value.string s), Sx.SV.lit (Go.Value.int Go.IntKind.i64 fl), Sx.SV.ptr (0 : Nat) (0 : Nat), Sx.SV.ptr (1 : Nat) (0 : Nat),
      Sx.SV.ptr (3 : Nat) (0 : Nat), Sx.SV.sl (6 : Nat) (1 : Nat) (0 : Nat) (List.length b), Sx.SV.lit (Go.Value.int Go.IntKind.i64 (Go.IntKind.wrap Go.IntKind.i64 ((↑(T12.RSt.i
      b_4) : Int) + (1 : Int))))], [Sx.SO.cells (29 : Nat) [Sx.SV.lit (Go.Value.string (Prod.snd b_5))], Sx.SO.cells (44 : Nat) [Sx.SV.sl (2 : Nat) (1 : Nat) (0 : Nat)
      (List.length (Prod.snd b_6))], Sx.SO.row (5 : Nat) (Sx.Ty.int Go.IntKind.u8) (Prod.snd b_6), Sx.SO.cells (55 : Nat) (T12.bk (Sx.SV.sl (4 : Nat) (1 : Nat) (0 : Nat)
      (List.length (T12.RSt.LL b_4) + (1 : Nat))) (Sx.SV.sl (5 : Nat) (1 : Nat) (0 : Nat) (List.length (T12.RSt.LL b_4) + (1 : Nat)))), Sx.SO.kept (22 : Nat) (21 : Nat)
      (Sx.Ty.int Go.IntKind.i32) (T12.RSt.LL b_4 ++ [List.take (List.length (Prod.fst b_5)) (Prod.fst b_5)]), Sx.SO.row (22 : Nat) (Sx.Ty.imm (Sx.Ty.int Go.IntKind.i32))
      (T12.RSt.LL b_4 ++ [List.take (List.length (Prod.fst b_5)) (Prod.fst b_5)]), Sx.SO.row (9 : Nat) Sx.Ty.str b]) = ([Sx.SV.lit (Go.Value.string s), Sx.SV.lit (Go.Value.int
      Go.IntKind.i64 fl), Sx.SV.ptr (0 : Nat) (0 : Nat), Sx.SV.ptr (1 : Nat) (0 : Nat), Sx.SV.ptr (3 : Nat) (0 : Nat), Sx.SV.sl (6 : Nat) (1 : Nat) (0 : Nat) (List.length b),
      Sx.SV.lit (Go.Value.int Go.IntKind.i64 (↑(T12.RSt.i x') : Int))], [Sx.SO.cells (29 : Nat) [Sx.SV.lit (Go.Value.string (T12.RSt.h x'))], Sx.SO.cells (44 : Nat) [Sx.SV.sl (2
      : Nat) (1 : Nat) (0 : Nat) (List.length (T12.RSt.B x'))], Sx.SO.row (5 : Nat) (Sx.Ty.int Go.IntKind.u8) (T12.RSt.B x'), Sx.SO.cells (55 : Nat) (T12.bk (Sx.SV.sl (4 : Nat)
      (1 : Nat) (0 : Nat) (List.length (T12.RSt.LL x'))) (Sx.SV.sl (5 : Nat) (1 : Nat) (0 : Nat) (List.length (T12.RSt.LL x')))), Sx.SO.kept (22 : Nat) (21 : Nat) (Sx.Ty.int
      Go.IntKind.i32) (T12.RSt.LL x'), Sx.SO.row (22 : Nat) (Sx.Ty.imm (Sx.Ty.int Go.IntKind.i32)) (T12.RSt.LL x'), Sx.SO.row (9 : Nat) Sx.Ty.str b]) ∧ T12.ROk b x' ∧
      List.length b - T12.RSt.i x' < List.length b - T12.RSt.i b_4) ∧ True))) (Sx.br ((↑(ByteArray.size (Prod.snd b_5)) : Int) != (↑(List.length (Prod.snd b_6)) : Int)) (Q
      (Sx.SV.lit (Go.Value.bool Bool.false), ([] : List Sx.SO), [])) (Sx.br ((↑(T12.RSt.i b_4) : Int) == fl) (((List.length (T12.flu (ByteArray.size (Prod.snd b_5))) ≤
      List.length (T12.flu (ByteArray.size (Prod.snd b_5))) ∧ List.length (T12.flu (ByteArray.size (Prod.snd b_5))) ≤ (1000000 : Nat)) ∧ List.length (T12.RSt.LL b_4 ++
      [List.take (List.length (Prod.fst b_5)) (Prod.fst b_5)]) ≤ (100 : Nat) ∧ List.length (T12.RSt.LL b_4 ++ [List.take (List.length (Prod.fst b_5)) (Prod.fst b_5)]) ≤ (100 :
      Nat) ∧ T12.bk (Sx.SV.sl (2 : Nat) (1 : Nat) (0 : Nat) (List.length (T12.RSt.LL b_4) + (1 : Nat))) (Sx.SV.sl (3 : Nat) (1 : Nat) (0 : Nat) (List.length (T12.RSt.LL b_4) +
      (1 : Nat))) = T12.bk (Sx.SV.sl (2 : Nat) (1 : Nat) (0 : Nat) (List.length (T12.RSt.LL b_4 ++ [List.take (List.length (Prod.fst b_5)) (Prod.fst b_5)]))) (Sx.SV.sl (3 : Nat)
      (1 : Nat) (0 : Nat) (List.length (T12.RSt.LL b_4 ++ [List.take (List.length (Prod.fst b_5)) (Prod.fst b_5)])))) ∧ List.length (Prod.snd b_6) = List.length (Prod.snd b_6) ∧
      ((0 : Nat) + List.length (T12.flu (ByteArray.size (Prod.snd b_5))) ≤ List.length (T12.flu (ByteArray.size (Prod.snd b_5))) ∧ (0 : Nat) + List.length (T12.flu (List.length
      (Prod.snd b_6))) ≤ List.length (T12.flu (List.length (Prod.snd b_6))) ∧ List.length (T12.flu (ByteArray.size (Prod.snd b_5))) ≤ (1000000 : Nat)) ∧ Sx.br (!Decidable.decide
      (List.take (List.length (T12.flu (ByteArray.size (Prod.snd b_5)))) (List.drop (0 : Nat) (T12.flu (ByteArray.size (Prod.snd b_5)))) = List.take (List.length (T12.flu
      (List.length (Prod.snd b_6)))) (List.drop (0 : Nat) (T12.flu (List.length (Prod.snd b_6)))))) (Q (Sx.SV.lit (Go.Value.bool Bool.false), ([] : List Sx.SO), [])) ((∃ (x' :
      T12.RSt), ([Sx.SV.lit (Go.Value.string s), Sx.SV.lit (Go.Value.int Go.IntKind.i64 fl), Sx.SV.ptr (0 : Nat) (0 : Nat), Sx.SV.ptr (1 : Nat) (0 : Nat), Sx.SV.ptr (3 : Nat) (0
      : Nat), Sx.SV.sl (6 : Nat) (1 : Nat) (0 : Nat) (List.length b), Sx.SV.lit (Go.Value.int Go.IntKind.i64 (Go.IntKind.wrap Go.IntKind.i64 ((↑(T12.RSt.i b_4) : Int) + (1 :
      Int))))], [Sx.SO.cells (29 : Nat) [Sx.SV.lit (Go.Value.string ByteArray.empty)], Sx.SO.cells (44 : Nat) [Sx.SV.sl (2 : Nat) (1 : Nat) (0 : Nat) (0 : Nat)], Sx.SO.row (5 :
      Nat) (Sx.Ty.int Go.IntKind.u8) [], Sx.SO.cells (55 : Nat) (T12.bk (Sx.SV.sl (4 : Nat) (1 : Nat) (0 : Nat) (List.length (T12.RSt.LL b_4 ++ [List.take (List.length (Prod.fst
      b_5)) (Prod.fst b_5)]) + (1 : Nat))) (Sx.SV.sl (5 : Nat) (1 : Nat) (0 : Nat) (List.length (T12.RSt.LL b_4 ++ [List.take (List.length (Prod.fst b_5)) (Prod.fst b_5)]) + (1
      : Nat)))), Sx.SO.kept (22 : Nat) (21 : Nat) (Sx.Ty.int Go.IntKind.i32) (T12.RSt.LL b_4 ++ [List.take (List.length (Prod.fst b_5)) (Prod.fst b_5)] ++ [List.take
      (List.length (T12.flu (ByteArray.size (Prod.snd b_5)))) (T12.flu (ByteArray.size (Prod.snd b_5)))]), Sx.SO.row (22 : Nat) (Sx.Ty.imm (Sx.Ty.int Go.IntKind.i32))
      (T12.RSt.LL b_4 ++ [List.take (List.length (Prod.fst b_5)) (Prod.fst b_5)] ++ [List.take (List.length (T12.flu (ByteArray.size (Prod.snd b_5)))) (T12.flu (ByteArray.size
      (Prod.snd b_5)))]), Sx.SO.row (9 : Nat) Sx.Ty.str b]) = ([Sx.SV.lit (Go.Value.string s), Sx.SV.lit (Go.Value.int Go.IntKind.i64 fl), Sx.SV.ptr (0 : Nat) (0 : Nat),
      Sx.SV.ptr (1 : Nat) (0 : Nat), Sx.SV.ptr (3 : Nat) (0 : Nat), Sx.SV.sl (6 : Nat) (1 : Nat) (0 : Nat) (List.length b), Sx.SV.lit (Go.Value.int Go.IntKind.i64 (↑(T12.RSt.i
      x') : Int))], [Sx.SO.cells (29 : Nat) [Sx.SV.lit (Go.Value.string (T12.RSt.h x'))], Sx.SO.cells (44 : Nat) [Sx.SV.sl (2 : Nat) (1 : Nat) (0 : Nat) (List.length (T12.RSt.B
      x'))], Sx.SO.row (5 : Nat) (Sx.Ty.int Go.IntKind.u8) (T12.RSt.B x'), Sx.SO.cells (55 : Nat) (T12.bk (Sx.SV.sl (4 : Nat) (1 : Nat) (0 : Nat) (List.length (T12.RSt.LL x')))
      (Sx.SV.sl (5 : Nat) (1 : Nat) (0 : Nat) (List.length (T12.RSt.LL x')))), Sx.SO.kept (22 : Nat) (21 : Nat) (Sx.Ty.int Go.IntKind.i32) (T12.RSt.LL x'), Sx.SO.row (22 : Nat)
      (Sx.Ty.imm (Sx.Ty.int Go.IntKind.i32)) (T12.RSt.LL x'), Sx.SO.row (9 : Nat) Sx.Ty.str b]) ∧ T12.ROk b x' ∧ List.length b - T12.RSt.i x' < List.length b - T12.RSt.i b_4) ∧
      True)) ((∃ (x' : T12.RSt), ([Sx.SV.lit (Go.Value.string s), Sx.SV.lit (Go.Value.int Go.IntKind.i64 fl), Sx.SV.ptr (0 : Nat) (0 : Nat), Sx.SV.ptr (1 : Nat) (0 : Nat),
      Sx.SV.ptr (3 : Nat) (0 : Nat), Sx.SV.sl (6 : Nat) (1 : Nat) (0 : Nat) (List.length b), Sx.SV.lit (Go.Value.int Go.IntKind.i64 (Go.IntKind.wrap Go.IntKind.i64 ((↑(T12.RSt.i
      b_4) : Int) + (1 : Int))))], [Sx.SO.cells (29 : Nat) [Sx.SV.lit (Go.Value.string (Prod.snd b_5))], Sx.SO.cells (44 : Nat) [Sx.SV.sl (2 : Nat) (1 : Nat) (0 : Nat)
      (List.length (Prod.snd b_6))], Sx.SO.row (5 : Nat) (Sx.Ty.int Go.IntKind.u8) (Prod.snd b_6), Sx.SO.cells (55 : Nat) (T12.bk (Sx.SV.sl (4 : Nat) (1 : Nat) (0 : Nat)
      (List.length (T12.RSt.LL b_4) + (1 : Nat))) (Sx.SV.sl (5 : Nat) (1 : Nat) (0 : Nat) (List.length (T12.RSt.LL b_4) + (1 : Nat)))), Sx.SO.kept (22 : Nat) (21 : Nat)
      (Sx.Ty.int Go.IntKind.i32) (T12.RSt.LL b_4 ++ [List.take (List.length (Prod.fst b_5)) (Prod.fst b_5)]), Sx.SO.row (22 : Nat) (Sx.Ty.imm (Sx.Ty.int Go.IntKind.i32))
      (T12.RSt.LL b_4 ++ [List.take (List.length (Prod.fst b_5)) (Prod.fst b_5)]), Sx.SO.row (9 : Nat) Sx.Ty.str b]) = ([Sx.SV.lit (Go.Value.string s), Sx.SV.lit (Go.Value.int
      Go.IntKind.i64 fl), Sx.SV.ptr (0 : Nat) (0 : Nat), Sx.SV.ptr (1 : Nat) (0 : Nat), Sx.SV.ptr (3 : Nat) (0 : Nat), Sx.SV.sl (6 : Nat) (1 : Nat) (0 : Nat) (List.length b),
      Sx.SV.lit (Go.Value.int Go.IntKind.i64 (↑(T12.RSt.i x') : Int))], [Sx.SO.cells (29 : Nat) [Sx.SV.lit (Go.Value.string (T12.RSt.h x'))], Sx.SO.cells (44 : Nat) [Sx.SV.sl (2
      : Nat) (1 : Nat) (0 : Nat) (List.length (T12.RSt.B x'))], Sx.SO.row (5 : Nat) (Sx.Ty.int Go.IntKind.u8) (T12.RSt.B x'), Sx.SO.cells (55 : Nat) (T12.bk (Sx.SV.sl (4 : Nat)
      (1 : Nat) (0 : Nat) (List.length (T12.RSt.LL x'))) (Sx.SV.sl (5 : Nat) (1 : Nat) (0 : Nat) (List.length (T12.RSt.LL x')))), Sx.SO.kept (22 : Nat) (21 : Nat) (Sx.Ty.int
      Go.IntKind.i32) (T12.RSt.LL x'), Sx.SO.row (22 : Nat) (Sx.Ty.imm (Sx.Ty.int Go.IntKind.i32)) (T12.RSt.LL x'), Sx.SO.row (9 : Nat) Sx.Ty.str b]) ∧ T12.ROk b x' ∧
      List.length b - T12.RSt.i x' < List.length b - T12.RSt.i b_4) ∧ True))))) (((List.length (T12.RSt.LL b_4) ≤ (1000 : Nat) ∧ (∀ (l : List (Sx.Ty.den (Sx.Ty.int
      Go.IntKind.i32))), l ∈ T12.RSt.LL b_4 → List.length l ≤ (900000 : Nat)) ∧ T12.RSt.LL b_4 = T12.RSt.LL b_4) ∧ T12.bk (Sx.SV.sl (1 : Nat) (1 : Nat) (0 : Nat) (List.length
      (T12.RSt.LL b_4))) (Sx.SV.sl (2 : Nat) (1 : Nat) (0 : Nat) (List.length (T12.RSt.LL b_4))) = T12.bk (Sx.SV.sl (1 : Nat) (1 : Nat) (0 : Nat) (List.length (T12.RSt.LL b_4)))
      (Sx.SV.sl (2 : Nat) (1 : Nat) (0 : Nat) (List.length (T12.RSt.LL b_4)))) ∧ Q (Sx.SV.lit (Go.Value.bool Bool.true), ([] : List Sx.SO), [(0 : Nat), (1 : Nat), (2 : Nat), (3
      : Nat), (4 : Nat), (5 : Nat), (6 : Nat), (7 : Nat)])))) ((∃ (x : T12.RSt), ([Sx.SV.lit (Go.Value.string s), Sx.SV.lit (Go.Value.int Go.IntKind.i64 fl), Sx.SV.ptr (0 : Nat)
      (0 : Nat), Sx.SV.ptr (1 : Nat) (0 : Nat), Sx.SV.ptr (3 : Nat) (0 : Nat), Sx.SV.sl (6 : Nat) (1 : Nat) (0 : Nat) (List.length b), Sx.SV.lit (Go.Value.int Go.IntKind.i64
      (Go.IntKind.wrap Go.IntKind.i64 ((0 : Int) + (1 : Int))))], [Sx.SO.cells (29 : Nat) [Sx.SV.lit (Go.Value.string (Prod.snd b_1))], Sx.SO.cells (44 : Nat) [Sx.SV.sl (2 :
      Nat) (1 : Nat) (0 : Nat) (List.length (Prod.snd b_2))], Sx.SO.row (5 : Nat) (Sx.Ty.int Go.IntKind.u8) (Prod.snd b_2), Sx.SO.cells (55 : Nat) (T12.bk (Sx.SV.sl (4 : Nat) (1
      : Nat) (0 : Nat) (1 : Nat)) (Sx.SV.sl (5 : Nat) (1 : Nat) (0 : Nat) (1 : Nat))), Sx.SO.kept (22 : Nat) (21 : Nat) (Sx.Ty.int Go.IntKind.i32) [List.take (List.length
      (Prod.fst b_1)) (Prod.fst b_1)], Sx.SO.row (22 : Nat) (Sx.Ty.imm (Sx.Ty.int Go.IntKind.i32)) [List.take (List.length (Prod.fst b_1)) (Prod.fst b_1)], Sx.SO.row (9 : Nat)
      Sx.Ty.str b]) = ([Sx.SV.lit (Go.Value.string s), Sx.SV.lit (Go.Value.int Go.IntKind.i64 fl), Sx.SV.ptr (0 : Nat) (0 : Nat), Sx.SV.ptr (1 : Nat) (0 : Nat), Sx.SV.ptr (3 :
      Nat) (0 : Nat), Sx.SV.sl (6 : Nat) (1 : Nat) (0 : Nat) (List.length b), Sx.SV.lit (Go.Value.int Go.IntKind.i64 (↑(T12.RSt.i x) : Int))], [Sx.SO.cells (29 : Nat) [Sx.SV.lit
      (Go.Value.string (T12.RSt.h x))], Sx.SO.cells (44 : Nat) [Sx.SV.sl (2 : Nat) (1 : Nat) (0 : Nat) (List.length (T12.RSt.B x))], Sx.SO.row (5 : Nat) (Sx.Ty.int
      Go.IntKind.u8) (T12.RSt.B x), Sx.SO.cells (55 : Nat) (T12.bk (Sx.SV.sl (4 : Nat) (1 : Nat) (0 : Nat) (List.length (T12.RSt.LL x))) (Sx.SV.sl (5 : Nat) (1 : Nat) (0 : Nat)
      (List.length (T12.RSt.LL x)))), Sx.SO.kept (22 : Nat) (21 : Nat) (Sx.Ty.int Go.IntKind.i32) (T12.RSt.LL x), Sx.SO.row (22 : Nat) (Sx.Ty.imm (Sx.Ty.int Go.IntKind.i32))
      (T12.RSt.LL x), Sx.SO.row (9 : Nat) Sx.Ty.str b]) ∧ T12.ROk b x) ∧ ∀ (b_4 : T12.RSt), T12.ROk b b_4 → Sx.br (Decidable.decide ((↑(T12.RSt.i b_4) : Int) < (↑(List.length b)
      : Int))) (((0 : Int) ≤ (↑(T12.RSt.i b_4) : Int) ∧ (↑(T12.RSt.i b_4) : Int) < (↑(List.length b) : Int)) ∧ (0 : Nat) + T12.RSt.i b_4 < List.length b ∧ (T12.Good (Sx.strInts
      (T12.RSt.h b_4)) ∧ (1 : Nat) ≤ (1 : Nat) ∧ T12.SizeOK [List.getD b ((0 : Nat) + T12.RSt.i b_4) (Sx.Ty.dflt Sx.Ty.str)] ∧ (1 : Nat) ≤ (1000000 : Nat)) ∧ ∀ (b_5 : List Int ×
      ByteArray), T12.Fed (T12.RSt.h b_4) [List.getD b ((0 : Nat) + T12.RSt.i b_4) (Sx.Ty.dflt Sx.Ty.str)] b_5 → ((List.length (Prod.fst b_5) ≤ List.length (Prod.fst b_5) ∧
      List.length (Prod.fst b_5) ≤ (1000000 : Nat)) ∧ List.length (T12.RSt.LL b_4) ≤ (100 : Nat) ∧ List.length (T12.RSt.LL b_4) ≤ (100 : Nat) ∧ T12.bk (Sx.SV.sl (2 : Nat) (1 :
      Nat) (0 : Nat) (List.length (T12.RSt.LL b_4))) (Sx.SV.sl (3 : Nat) (1 : Nat) (0 : Nat) (List.length (T12.RSt.LL b_4))) = T12.bk (Sx.SV.sl (2 : Nat) (1 : Nat) (0 : Nat)
      (List.length (T12.RSt.LL b_4))) (Sx.SV.sl (3 : Nat) (1 : Nat) (0 : Nat) (List.length (T12.RSt.LL b_4)))) ∧ ((0 : Int) ≤ (↑(T12.RSt.i b_4) : Int) ∧ (↑(T12.RSt.i b_4) : Int)
      < (↑(List.length b) : Int)) ∧ (0 : Nat) + T12.RSt.i b_4 < List.length b ∧ (List.length (T12.RSt.B b_4) = List.length (T12.RSt.B b_4) ∧ T12.Good2 (T12.RSt.B b_4) ∧
      ByteArray.size (List.getD b ((0 : Nat) + T12.RSt.i b_4) (Sx.Ty.dflt Sx.Ty.str)) ≤ (100000 : Nat)) ∧ ∀ (b_6 : List Int × List Int), b_6 = T12.feed (T12.RSt.B b_4)
      (Sx.strInts (List.getD b ((0 : Nat) + T12.RSt.i b_4) (Sx.Ty.dflt Sx.Ty.str))) → ((0 : Nat) + List.length (Prod.fst b_5) ≤ List.length (Prod.fst b_5) ∧ (0 : Nat) +
      List.length (Prod.fst b_6) ≤ List.length (Prod.fst b_6) ∧ List.length (Prod.fst b_5) ≤ (1000000 : Nat)) ∧ Sx.br (!Decidable.decide (List.take (List.length (Prod.fst b_5))
      (List.drop (0 : Nat) (Prod.fst b_5)) = List.take (List.length (Prod.fst b_6)) (List.drop (0 : Nat) (Prod.fst b_6)))) (∀ (b : Bool), True → Sx.br b (Q (Sx.SV.lit
      (Go.Value.bool Bool.false), ([] : List Sx.SO), [])) (Q (Sx.SV.lit (Go.Value.bool Bool.false), ([] : List Sx.SO), []))) (∀ (b_7 : Bool), True → Sx.br b_7 (Sx.br
      ((↑(ByteArray.size (Prod.snd b_5)) : Int) != (↑(List.length (Prod.snd b_6)) : Int)) (Q (Sx.SV.lit (Go.Value.bool Bool.false), ([] : List Sx.SO), [])) (Sx.br ((↑(T12.RSt.i
      b_4) : Int) == fl) (((List.length (T12.flu (ByteArray.size (Prod.snd b_5))) ≤ List.length (T12.flu (ByteArray.size (Prod.snd b_5))) ∧ List.length (T12.flu (ByteArray.size
      (Prod.snd b_5))) ≤ (1000000 : Nat)) ∧ List.length (T12.RSt.LL b_4 ++ [List.take (List.length (Prod.fst b_5)) (Prod.fst b_5)]) ≤ (100 : Nat) ∧ List.length (T12.RSt.LL b_4
      ++ [List.take (List.length (Prod.fst b_5)) (Prod.fst b_5)]) ≤ (100 : Nat) ∧ T12.bk (Sx.SV.sl (2 : Nat) (1 : Nat) (0 : Nat) (List.length (T12.RSt.LL b_4) + (1 : Nat)))
      (Sx.SV.sl (3 : Nat) (1 : Nat) (0 : Nat) (List.length (T12.RSt.LL b_4) + (1 : Nat))) = T12.bk (Sx.SV.sl (2 : Nat) (1 : Nat) (0 : Nat) (List.length (T12.RSt.LL b_4 ++
      [List.take (List.length (Prod.fst b_5)) (Prod.fst b_5)]))) (Sx.SV.sl (3 : Nat) (1 : Nat) (0 : Nat) (List.length (T12.RSt.LL b_4 ++ [List.take (List.length (Prod.fst b_5))
      (Prod.fst b_5)])))) ∧ List.length (Prod.snd b_6) = List.length (Prod.snd b_6) ∧ ((0 : Nat) + List.length (T12.flu (ByteArray.size (Prod.snd b_5))) ≤ List.length (T12.flu
      (ByteArray.size (Prod.snd b_5))) ∧ (0 : Nat) + List.length (T12.flu (List.length (Prod.snd b_6))) ≤ List.length (T12.flu (List.length (Prod.snd b_6))) ∧ List.length
      (T12.flu (ByteArray.size (Prod.snd b_5))) ≤ (1000000 : Nat)) ∧ Sx.br (!Decidable.decide (List.take (List.length (T12.flu (ByteArray.size (Prod.snd b_5)))) (List.drop (0 :
      Nat) (T12.flu (ByteArray.size (Prod.snd b_5)))) = List.take (List.length (T12.flu (List.length (Prod.snd b_6)))) (List.drop (0 : Nat) (T12.flu (List.length (Prod.snd
      b_6)))))) (Q (Sx.SV.lit (Go.Value.bool Bool.false), ([] : List Sx.SO), [])) ((∃ (x' : T12.RSt), ([Sx.SV.lit (Go.Value.string s), Sx.SV.lit (Go.Value.int Go.IntKind.i64
      fl), Sx.SV.ptr (0 : Nat) (0 : Nat), Sx.SV.ptr (1 : Nat) (0 : Nat), Sx.SV.ptr (3 : Nat) (0 : Nat), Sx.SV.sl (6 : Nat) (1 : Nat) (0 : Nat) (List.length b), Sx.SV.lit
      (Go.Value.int Go.IntKind.i64 (Go.IntKind.wrap Go.IntKind.i64 ((↑(T12.RSt.i b_4) : Int) + (1 : Int))))], [Sx.SO.cells (29 : Nat) [Sx.SV.lit (Go.Value.string
      ByteArray.empty)], Sx.SO.cells (44 : Nat) [Sx.SV.sl (2 : Nat) (1 : Nat) (0 : Nat) (0 : Nat)], Sx.SO.row (5 : Nat) (Sx.Ty.int Go.IntKind.u8) [], Sx.SO.cells (55 : Nat)
      (T12.bk (Sx.SV.sl (4 : Nat) (1 : Nat) (0 : Nat) (List.length (T12.RSt.LL b_4 ++ [List.take (List.length (Prod.fst b_5)) (Prod.fst b_5)]) + (1 : Nat))) (Sx.SV.sl (5 : Nat)
      (1 : Nat) (0 : Nat) (List.length (T12.RSt.LL b_4 ++ [List.take (List.length (Prod.fst b_5)) (Prod.fst b_5)]) + (1 : Nat)))), Sx.SO.kept (22 : Nat) (21 : Nat) (Sx.Ty.int
      Go.IntKind.i32) (T12.RSt.LL b_4 ++ [List.take (List.length (Prod.fst b_5)) (Prod.fst b_5)] ++ [List.take (List.length (T12.flu (ByteArray.size (Prod.snd b_5)))) (T12.flu
      (ByteArray.size (Prod.snd b_5)))]), Sx.SO.row (22 : Nat) (Sx.Ty.imm (Sx.Ty.int Go.IntKind.i32)) (T12.RSt.LL b_4 ++ [List.take (List.length (Prod.fst b_5)) (Prod.fst b_5)]
      ++ [List.take (List.length (T12.flu (ByteArray.size (Prod.snd b_5)))) (T12.flu (ByteArray.size (Prod.snd b_5)))]), Sx.SO.row (9 : Nat) Sx.Ty.str b]) = ([Sx.SV.lit
      (Go.Value.string s), Sx.SV.lit (Go.Value.int Go.IntKind.i64 fl), Sx.SV.ptr (0 : Nat) (0 : Nat), Sx.SV.ptr (1 : Nat) (0 : Nat), Sx.SV.ptr (3 : Nat) (0 : Nat), Sx.SV.sl (6 :
      Nat) (1 : Nat) (0 : Nat) (List.length b), Sx.SV.lit (Go.Value.int Go.IntKind.i64 (↑(T12.RSt.i x') : Int))], [Sx.SO.cells (29 : Nat) [Sx.SV.lit (Go.Value.string (T12.RSt.h
      x'))], Sx.SO.cells (44 : Nat) [Sx.SV.sl (2 : Nat) (1 : Nat) (0 : Nat) (List.length (T12.RSt.B x'))], Sx.SO.row (5 : Nat) (Sx.Ty.int Go.IntKind.u8) (T12.RSt.B x'),
      Sx.SO.cells (55 : Nat) (T12.bk (Sx.SV.sl (4 : Nat) (1 : Nat) (0 : Nat) (List.length (T12.RSt.LL x'))) (Sx.SV.sl (5 : Nat) (1 : Nat) (0 : Nat) (List.length (T12.RSt.LL
      x')))), Sx.SO.kept (22 : Nat) (21 : Nat) (Sx.Ty.int Go.IntKind.i32) (T12.RSt.LL x'), Sx.SO.row (22 : Nat) (Sx.Ty.imm (Sx.Ty.int Go.IntKind.i32)) (T12.RSt.LL x'), Sx.SO.row
      (9 : Nat) Sx.Ty.str b]) ∧ T12.ROk b x' ∧ List.length b - T12.RSt.i x' < List.length b - T12.RSt.i b_4) ∧ True)) ((∃ (x' : T12.RSt), ([Sx.SV.lit (Go.Value.string s),
      Sx.SV.lit (Go.Value.int Go.IntKind.i64 fl), Sx.SV.ptr (0 : Nat) (0 : Nat), Sx.SV.ptr (1 : Nat) (0 : Nat), Sx.SV.ptr (3 : Nat) (0 : Nat), Sx.SV.sl (6 : Nat) (1 : Nat) (0 :
      Nat) (List.length b), Sx.SV.lit (Go.Value.int Go.IntKind.i64 (Go.IntKind.wrap Go.IntKind.i64 ((↑(T12.RSt.i b_4) : Int) + (1 : Int))))], [Sx.SO.cells (29 : Nat) [Sx.SV.lit
      (Go.Value.string (Prod.snd b_5))], Sx.SO.cells (44 : Nat) [Sx.SV.sl (2 : Nat) (1 : Nat) (0 : Nat) (List.length (Prod.snd b_6))], Sx.SO.row (5 : Nat) (Sx.Ty.int
      Go.IntKind.u8) (Prod.snd b_6), Sx.SO.cells (55 : Nat) (T12.bk (Sx.SV.sl (4 : Nat) (1 : Nat) (0 : Nat) (List.length (T12.RSt.LL b_4) + (1 : Nat))) (Sx.SV.sl (5 : Nat) (1 :
      Nat) (0 : Nat) (List.length (T12.RSt.LL b_4) + (1 : Nat)))), Sx.SO.kept (22 : Nat) (21 : Nat) (Sx.Ty.int Go.IntKind.i32) (T12.RSt.LL b_4 ++ [List.take (List.length
      (Prod.fst b_5)) (Prod.fst b_5)]), Sx.SO.row (22 : Nat) (Sx.Ty.imm (Sx.Ty.int Go.IntKind.i32)) (T12.RSt.LL b_4 ++ [List.take (List.length (Prod.fst b_5)) (Prod.fst b_5)]),
      Sx.SO.row (9 : Nat) Sx.Ty.str b]) = ([Sx.SV.lit (Go.Value.string s), Sx.SV.lit (Go.Value.int Go.IntKind.i64 fl), Sx.SV.ptr (0 : Nat) (0 : Nat), Sx.SV.ptr (1 : Nat) (0 :
      Nat), Sx.SV.ptr (3 : Nat) (0 : Nat), Sx.SV.sl (6 : Nat) (1 : Nat) (0 : Nat) (List.length b), Sx.SV.lit (Go.Value.int Go.IntKind.i64 (↑(T12.RSt.i x') : Int))], [Sx.SO.cells
      (29 : Nat) [Sx.SV.lit (Go.Value.string (T12.RSt.h x'))], Sx.SO.cells (44 : Nat) [Sx.SV.sl (2 : Nat) (1 : Nat) (0 : Nat) (List.length (T12.RSt.B x'))], Sx.SO.row (5 : Nat)
      (Sx.Ty.int Go.IntKind.u8) (T12.RSt.B x'), Sx.SO.cells (55 : Nat) (T12.bk (Sx.SV.sl (4 : Nat) (1 : Nat) (0 : Nat) (List.length (T12.RSt.LL x'))) (Sx.SV.sl (5 : Nat) (1 :
      Nat) (0 : Nat) (List.length (T12.RSt.LL x')))), Sx.SO.kept (22 : Nat) (21 : Nat) (Sx.Ty.int Go.IntKind.i32) (T12.RSt.LL x'), Sx.SO.row (22 : Nat) (Sx.Ty.imm (Sx.Ty.int
      Go.IntKind.i32)) (T12.RSt.LL x'), Sx.SO.row (9 : Nat) Sx.Ty.str b]) ∧ T12.ROk b x' ∧ List.length b - T12.RSt.i x' < List.length b - T12.RSt.i b_4) ∧ True))) (Sx.br
      ((↑(ByteArray.size (Prod.snd b_5)) : Int) != (↑(List.length (Prod.snd b_6)) : Int)) (Q (Sx.SV.lit (Go.Value.bool Bool.false), ([] : List Sx.SO), [])) (Sx.br ((↑(T12.RSt.i
      b_4) : Int) == fl) (((List.length (T12.flu (ByteArray.size (Prod.snd b_5))) ≤ List.length (T12.flu (ByteArray.size (Prod.snd b_5))) ∧ List.length (T12.flu (ByteArray.size
      (Prod.snd b_5))) ≤ (1000000 : Nat)) ∧ List.length (T12.RSt.LL b_4 ++ [List.take (List.length (Prod.fst b_5)) (Prod.fst b_5)]) ≤ (100 : Nat) ∧ List.length (T12.RSt.LL b_4
      ++ [List.take (List.length (Prod.fst b_5)) (Prod.fst b_5)]) ≤ (100 : Nat) ∧ T12.bk (Sx.SV.sl (2 : Nat) (1 : Nat) (0 : Nat) (List.length (T12.RSt.LL b_4) + (1 : Nat)))
      (Sx.SV.sl (3 : Nat) (1 : Nat) (0 : Nat) (List.length (T12.RSt.LL b_4) + (1 : Nat))) = T12.bk (Sx.SV.sl (2 : Nat) (1 : Nat) (0 : Nat) (List.length (T12.RSt.LL b_4 ++
      [List.take (List.length (Prod.fst b_5)) (Prod.fst b_5)]))) (Sx.SV.sl (3 : Nat) (1 : Nat) (0 : Nat) (List.length (T12.RSt.LL b_4 ++ [List.take (List.length (Prod.fst b_5))
      (Prod.fst b_5)])))) ∧ List.length (Prod.snd b_6) = List.length (Prod.snd b_6) ∧ ((0 : Nat) + List.length (T12.flu (ByteArray.size (Prod.snd b_5))) ≤ List.length (T12.flu
      (ByteArray.size (Prod.snd b_5))) ∧ (0 : Nat) + List.length (T12.flu (List.length (Prod.snd b_6))) ≤ List.length (T12.flu (List.length (Prod.snd b_6))) ∧ List.length
      (T12.flu (ByteArray.size (Prod.snd b_5))) ≤ (1000000 : Nat)) ∧ Sx.br (!Decidable.decide (List.take (List.length (T12.flu (ByteArray.size (Prod.snd b_5)))) (List.drop (0 :
      Nat) (T12.flu (ByteArray.size (Prod.snd b_5)))) = List.take (List.length (T12.flu (List.length (Prod.snd b_6)))) (List.drop (0 : Nat) (T12.flu (List.length (Prod.snd
      b_6)))))) (Q (Sx.SV.lit (Go.Value.bool Bool.false), ([] : List Sx.SO), [])) ((∃ (x' : T12.RSt), ([Sx.SV.lit (Go.Value.string s), Sx.SV.lit (Go.Value.int Go.IntKind.i64
      fl), Sx.SV.ptr (0 : Nat) (0 : Nat), Sx.SV.ptr (1 : Nat) (0 : Nat), Sx.SV.ptr (3 : Nat) (0 : Nat), Sx.SV.sl (6 : Nat) (1 : Nat) (0 : Nat) (List.length b), Sx.SV.lit
      (Go.Value.int Go.IntKind.i64 (Go.IntKind.wrap Go.IntKind.i64 ((↑(T12.RSt.i b_4) : Int) + (1 : Int))))], [Sx.SO.cells (29 : Nat) [Sx.SV.lit (Go.Value.string
      ByteArray.empty)], Sx.SO.cells (44 : Nat) [Sx.SV.sl (2 : Nat) (1 : Nat) (0 : Nat) (0 : Nat)], Sx.SO.row (5 : Nat) (Sx.Ty.int Go.IntKind.u8) [], Sx.SO.cells (55 : Nat)
      (T12.bk (Sx.SV.sl (4 : Nat) (1 : Nat) (0 : Nat) (List.length (T12.RSt.LL b_4 ++ [List.take (List.length (Prod.fst b_5)) (Prod.fst b_5)]) + (1 : Nat))) (Sx.SV.sl (5 : Nat)
      (1 : Nat) (0 : Nat) (List.length (T12.RSt.LL b_4 ++ [List.take (List.length (Prod.fst b_5)) (Prod.fst b_5)]) + (1 : Nat)))), Sx.SO.kept (22 : Nat) (21 : Nat) (Sx.Ty.int
      Go.IntKind.i32) (T12.RSt.LL b_4 ++ [List.take (List.length (Prod.fst b_5)) (Prod.fst b_5)] ++ [List.take (List.length (T12.flu (ByteArray.size (Prod.snd b_5)))) (T12.flu
      (ByteArray.size (Prod.snd b_5)))]), Sx.SO.row (22 : Nat) (Sx.Ty.imm (Sx.Ty.int Go.IntKind.i32)) (T12.RSt.LL b_4 ++ [List.take (List.length (Prod.fst b_5)) (Prod.fst b_5)]
      ++ [List.take (List.length (T12.flu (ByteArray.size (Prod.snd b_5)))) (T12.flu (ByteArray.size (Prod.snd b_5)))]), Sx.SO.row (9 : Nat) Sx.Ty.str b]) = ([Sx.SV.lit
      (Go.Value.string s), Sx.SV.lit (Go.Value.int Go.IntKind.i64 fl), Sx.SV.ptr (0 : Nat) (0 : Nat), Sx.SV.ptr (1 : Nat) (0 : Nat), Sx.SV.ptr (3 : Nat) (0 : Nat), Sx.SV.sl (6 :
      Nat) (1 : Nat) (0 : Nat) (List.length b), Sx.SV.lit (Go.Value.int Go.IntKind.i64 (↑(T12.RSt.i x') : Int))], [Sx.SO.cells (29 : Nat) [Sx.SV.lit (Go.Value.string (T12.RSt.h
      x'))], Sx.SO.cells (44 : Nat) [Sx.SV.sl (2 : Nat) (1 : Nat) (0 : Nat) (List.length (T12.RSt.B x'))], Sx.SO.row (5 : Nat) (Sx.Ty.int Go.IntKind.u8) (T12.RSt.B x'),
      Sx.SO.cells (55 : Nat) (T12.bk (Sx.SV.sl (4 : Nat) (1 : Nat) (0 : Nat) (List.length (T12.RSt.LL x'))) (Sx.SV.sl (5 : Nat) (1 : Nat) (0 : Nat) (List.length (T12.RSt.LL
      x')))), Sx.SO.kept (22 : Nat) (21 : Nat) (Sx.Ty.int Go.IntKind.i32) (T12.RSt.LL x'), Sx.SO.row (22 : Nat) (Sx.Ty.imm (Sx.Ty.int Go.IntKind.i32)) (T12.RSt.LL x'), Sx.SO.row
      (9 : Nat) Sx.Ty.str b]) ∧ T12.ROk b x' ∧ List.length b - T12.RSt.i x' < List.length b - T12.RSt.i b_4) ∧ True)) ((∃ (x' : T12.RSt), ([Sx.SV.lit (Go.Value.string s),
      Sx.SV.lit (Go.Value.int Go.IntKind.i64 fl), Sx.SV.ptr (0 : Nat) (0 : Nat), Sx.SV.ptr (1 : Nat) (0 : Nat), Sx.SV.ptr (3 : Nat) (0 : Nat), Sx.SV.sl (6 : Nat) (1 : Nat) (0 :
      Nat) (List.length b), Sx.SV.lit (Go.Value.int Go.IntKind.i64 (Go.IntKind.wrap Go.IntKind.i64 ((↑(T12.RSt.i b_4) : Int) + (1 : Int))))], [Sx.SO.cells (29 : Nat) [Sx.SV.lit
      (Go.Value.string (Prod.snd b_5))], Sx.SO.cells (44 : Nat) [Sx.SV.sl (2 : Nat) (1 : Nat) (0 : Nat) (List.length (Prod.snd b_6))], Sx.SO.row (5 : Nat) (Sx.Ty.int
      Go.IntKind.u8) (Prod.snd b_6), Sx.SO.cells (55 : Nat) (T12.bk (Sx.SV.sl (4 : Nat) (1 : Nat) (0 : Nat) (List.length (T12.RSt.LL b_4) + (1 : Nat))) (Sx.SV.sl (5 : Nat) (1 :
      Nat) (0 : Nat) (List.length (T12.RSt.LL b_4) + (1 : Nat)))), Sx.SO.kept (22 : Nat) (21 : Nat) (Sx.Ty.int Go.IntKind.i32) (T12.RSt.LL b_4 ++ [List.take (List.length
      (Prod.fst b_5)) (Prod.fst b_5)]), Sx.SO.row (22 : Nat) (Sx.Ty.imm (Sx.Ty.int Go.IntKind.i32)) (T12.RSt.LL b_4 ++ [List.take (List.length (Prod.fst b_5)) (Prod.fst b_5)]),
      Sx.SO.row (9 : Nat) Sx.Ty.str b]) = ([Sx.SV.lit (Go.Value.string s), Sx.SV.lit (Go.Value.int Go.IntKind.i64 fl), Sx.SV.ptr (0 : Nat) (0 : Nat), Sx.SV.ptr (1 : Nat) (0 :
      Nat), Sx.SV.ptr (3 : Nat) (0 : Nat), Sx.SV.sl (6 : Nat) (1 : Nat) (0 : Nat) (List.length b), Sx.SV.lit (Go.Value.int Go.IntKind.i64 (↑(T12.RSt.i x') : Int))], [Sx.SO.cells
      (29 : Nat) [Sx.SV.lit (Go.Value.string (T12.RSt.h x'))], Sx.SO.cells (44 : Nat) [Sx.SV.sl (2 : Nat) (1 : Nat) (0 : Nat) (List.length (T12.RSt.B x'))], Sx.SO.row (5 : Nat)
      (Sx.Ty.int Go.IntKind.u8) (T12.RSt.B x'), Sx.SO.cells (55 : Nat) (T12.bk (Sx.SV.sl (4 : Nat) (1 : Nat) (0 : Nat) (List.length (T12.RSt.LL x'))) (Sx.SV.sl (5 : Nat) (1 :
      Nat) (0 : Nat) (List.length (T12.RSt.LL x')))), Sx.SO.kept (22 : Nat) (21 : Nat) (Sx.Ty.int Go.IntKind.i32) (T12.RSt.LL x'), Sx.SO.row (22 : Nat) (Sx.Ty.imm (Sx.Ty.int
      Go.IntKind.i32)) (T12.RSt.LL x'), Sx.SO.row (9 : Nat) Sx.Ty.str b]) ∧ T12.ROk b x' ∧ List.length b - T12.RSt.i x' < List.length b - T12.RSt.i b_4) ∧ True)))))
      (((List.length (T12.RSt.LL b_4) ≤ (1000 : Nat) ∧ (∀ (l : List (Sx.Ty.den (Sx.Ty.int Go.IntKind.i32))), l ∈ T12.RSt.LL b_4 → List.length l ≤ (900000 : Nat)) ∧ T12.RSt.LL
      b_4 = T12.RSt.LL b_4) ∧ T12.bk (Sx.SV.sl (1 : Nat) (1 : Nat) (0 : Nat) (List.length (T12.RSt.LL b_4))) (Sx.SV.sl (2 : Nat) (1 : Nat) (0 : Nat) (List.length (T12.RSt.LL
      b_4))) = T12.bk (Sx.SV.sl (1 : Nat) (1 : Nat) (0 : Nat) (List.length (T12.RSt.LL b_4))) (Sx.SV.sl (2 : Nat) (1 : Nat) (0 : Nat) (List.length (T12.RSt.LL b_4)))) ∧ Q
      (Sx.SV.lit (Go.Value.bool Bool.true), ([] : List Sx.SO), [(0 : Nat), (1 : Nat), (2 : Nat), (3 : Nat), (4 : Nat), (5 : Nat), (6 : Nat), (7 : Nat)]))))))) False))) (by kernel_rfl) ?_
  refine br_intro (fun _ => hq _) (fun h0 => br_intro (fun _ => hq _) (fun h1 => ?_))
  have h0 := of_decide_eq_false h0
  have h1 := of_decide_eq_false h1
  refine ⟨⟨by omega, by omega⟩, fun P hP => br_intro (fun _ => ?_) (fun g => absurd hP.some (by have := of_decide_eq_false g; omega))⟩
  obtain ⟨hall, hfew, hsome⟩ := hP
  have hfl : (flat P).length ≤ 1500 := by rw [hall, strInts_size]; omega
  have hpart : ∀ i, i < P.length → (P.getD i Ty.str.dflt).size ≤ 1500 := fun i hi => Nat.le_trans (part_le P i hi _) hfl
  have hp0 := hpart 0 hsome
  have e0 : strInts ({ data := #[] } : ByteArray) = [] := rfl
  refine ⟨by omega, by omega, ⟨trivial, by omega, ⟨by rw [flat_one, strInts_size]; omega⟩, by omega⟩, fun F hF => ?_⟩
  have hFl := hF.1
  have hFm := feed_most (strInts (P.getD 0 Ty.str.dflt))
  rw [flat_one, e0] at hFl
  rw [← hFl, strInts_size] at hFm
  refine ⟨⟨⟨by omega, by omega⟩, rfl⟩, by omega, by omega, by omega, fun G hG => ?_⟩
  have hb := both_of e0 (B := []) trivial hF hG
  simp only [List.drop_zero, List.take_length, Nat.zero_add]
  have f1 := flu_len F.2.size
  have f2 := flu_len G.2.length
  have wone : IntKind.i64.wrap (1 : Int) = ((1 : Nat) : Int) := by decide
  have hone := hb.one
  have htwo := hb.two
  have hsize := hb.size
  have hgood := hb.good
  have sm1 : ∀ l ∈ [F.1], l.length ≤ 900000 := small_snoc (LL := []) (fun l hl => by cases hl) (by omega)
  have sm2 : ∀ l ∈ [F.1, flu F.2.size], l.length ≤ 900000 := small_snoc (LL := [F.1]) sm1 (by omega)
  refine ⟨⟨by omega, by omega, by omega⟩, br_intro (fun g => by rw [hone] at g; simp at g) (fun _ => fun b _ => ?_)⟩
  refine br_intro (fun _ => ?_) (fun _ => ?_)
  all_goals refine br_intro (fun g => by rw [hsize] at g; simp at g) (fun _ => br_intro (fun _ => ?_) (fun _ => ?_))
  all_goals have w01 : IntKind.i64.wrap ((0 : Int) + 1) = ((1 : Nat) : Int) := by decide
  all_goals rw [w01]
  all_goals first
    | refine ⟨⟨⟨by omega, by omega⟩, by omega, by omega, trivial⟩, trivial, ⟨by omega, by omega, by omega⟩, br_intro (fun g => by rw [hsize] at g; simp at g) (fun _ => ⟨⟨⟨1, [F.1, flu F.2.size], ByteArray.empty, []⟩, rfl, rok_start hsome (by simp) sm2 rfl trivial⟩, fun x hx => ?_⟩)⟩
    | refine ⟨⟨⟨1, [F.1], F.2, G.2⟩, rfl, rok_start hsome (by simp) sm1 htwo hgood⟩, fun x hx => ?_⟩
  all_goals obtain ⟨hi, hfewx, hsmall, hsame, hgx⟩ := hx
  all_goals refine br_intro (fun hlt => ?_) (fun _ => ⟨⟨⟨by omega, hsmall, trivial⟩, trivial⟩, hq _⟩)
  all_goals have hlt := of_decide_eq_true hlt
  all_goals have hpi := hpart x.i (by omega)
  all_goals refine ⟨by omega, by omega, ⟨by rw [hsame]; exact good2_good hgx, by omega, ⟨by rw [flat_one, strInts_size]; omega⟩, by omega⟩, fun F' hF' => ?_⟩
  all_goals have hF1 := hF'.1
  all_goals have hFm1 := feed_len (strInts x.h) (strInts (P.getD x.i Ty.str.dflt))
  all_goals have hone1 : one (strInts x.h) ≤ 1 := by unfold one; omega
  all_goals rw [flat_one] at hF1
  all_goals rw [← hF1, strInts_size] at hFm1
  all_goals refine ⟨⟨⟨by omega, by omega⟩, by omega, by omega, trivial⟩, by omega, by omega, ⟨trivial, hgx, by omega⟩, fun G' hG' => ?_⟩
  all_goals have hb' := both_of hsame hgx hF' hG'
  all_goals have f1' := flu_len F'.2.size
  all_goals have f2' := flu_len G'.2.length
  all_goals have hone' := hb'.one
  all_goals have htwo' := hb'.two
  all_goals have hsize' := hb'.size
  all_goals have hgood' := hb'.good
  all_goals have e1 : x.LL.length + 1 = (x.LL ++ [F'.1]).length := by rw [List.length_append]; rfl
  all_goals have smn : ∀ l ∈ x.LL ++ [F'.1], l.length ≤ 900000 := small_snoc hsmall (by omega)
  all_goals have smn2 : ∀ l ∈ x.LL ++ [F'.1] ++ [flu F'.2.size], l.length ≤ 900000 := small_snoc smn (by omega)
  all_goals have e2 : (x.LL ++ [F'.1]).length + 1 = (x.LL ++ [F'.1] ++ [flu F'.2.size]).length := by simp only [List.length_append, List.length_cons, List.length_nil]
  all_goals refine ⟨⟨by omega, by omega, by omega⟩, br_intro (fun g => by rw [hone'] at g; simp at g) (fun _ => fun b _ => ?_)⟩
  all_goals refine br_intro (fun _ => ?_) (fun _ => ?_)
  all_goals refine br_intro (fun g => by rw [hsize'] at g; simp at g) (fun _ => br_intro (fun _ => ?_) (fun _ => ?_))
  all_goals rw [wrap1 x.i (by omega)]
  all_goals first
    | refine ⟨⟨⟨by omega, by omega⟩, by omega, by omega, by rw [e1]⟩, trivial, ⟨by omega, by omega, by omega⟩, br_intro (fun g => by rw [hsize'] at g; simp at g) (fun _ => ⟨⟨⟨x.i + 1, x.LL ++ [F'.1] ++ [flu F'.2.size], ByteArray.empty, []⟩, ?_, ⟨by show x.i + 1 ≤ _; omega, by show (x.LL ++ [F'.1] ++ [flu F'.2.size]).length ≤ 2 * (x.i + 1); omega, smn2, rfl, trivial⟩, by show P.length - (x.i + 1) < _; omega⟩, trivial⟩)⟩
    | refine ⟨⟨⟨x.i + 1, x.LL ++ [F'.1], F'.2, G'.2⟩, ?_, ⟨by show x.i + 1 ≤ _; omega, by show (x.LL ++ [F'.1]).length ≤ 2 * (x.i + 1); omega, smn, htwo', hgood'⟩, by show P.length - (x.i + 1) < _; omega⟩, trivial⟩
  all_goals first
    | (rw [e2] <;> rfl)
    | (rw [e1] <;> rfl)
end T12
