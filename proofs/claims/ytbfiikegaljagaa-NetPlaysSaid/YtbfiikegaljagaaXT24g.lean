/- Part of a proof: the walk of the functions that the law calls. -/
import Derived.Test.YtbfiikegaljagaaSxT
import Derived.Test.YtbfiikegaljagaaXT24e
set_option linter.unusedVariables false
open Go Sx Go.Proofs
namespace T24
set_option maxRecDepth 100000
set_option maxHeartbeats 4000000
attribute [local irreducible] Tree.Leads
theorem wrap1 (n : Nat) (h : n ≤ 1099511627776) : IntKind.i64.wrap ((n : Int) + 1) = ((n + 1 : Nat) : Int) := by rw [IntKind.wrap_i64]; omega
/-- Places of those to an address. -/
def places (to : Int) (L : List pty.den) : Nat → List Int
  | 0 => []
  | k + 1 => if (L.getD k pty.dflt).2.1 = to then places to L k ++ [(k : Int)] else places to L k
theorem places_len (to : Int) (R : List pty.den) : ∀ i, (places to R i).length ≤ i
  | 0 => by simp [places]
  | i + 1 => by
    have := places_len to R i
    simp only [places]
    split
    · rw [List.length_append, List.length_cons, List.length_nil]; omega
    · omega
noncomputable def A13 (to : Int) (m : Nat) (R : List pty.den) : Ann := { live := [0, 1, 5, 8, 9], mv := [], nilS := [(5, 3, .int .i64)], head := fun vals H => match vals, H with | [a, b, _, c, _], x :: y :: _ => { X := Nat, inv := fun i => ([a, b, .sl 2 1 0 (places to R i).length, c, .lit (.int .i64 i)], [x, y, .row 3 (.int .i64) (places to R i)]), ok := fun i => i ≤ m, mu := fun i => m - i } | _, _ => { X := Nat, inv := fun _ => ([], []), ok := fun _ => False, mu := fun _ => 0 } }
theorem v13 (to : Int) (m : Nat) (n : Int) (R : List pty.den) (Q : SV × Heap × List Nat → Prop) (hm : m ≤ R.length) (hs : m ≤ 1000000) (hq : Q (.sl 2 1 0 (places to R m).length, [.cells 34 [.sl 1 3 0 m, .lit (.int .i64 n)], .row 37 pty R, .row 3 (.int .i64) (places to R m)], [])) :
    (bodySumm U3 Try.prog Try.f13 (An1 0 (A13 to m R)) [.ptr 0 0, .lit (.int .i64 to)] [.cells 34 [.sl 1 3 0 m, .lit (.int .i64 n)], .row 37 pty R]).Leads Q := by
  refine Sx.by_text (q :=
      (∃ (x : Nat), ([SV.ptr (0 : Nat) (0 : Nat), SV.lit (Value.int IntKind.i64 to), SV.sl (2 : Nat) (1 : Nat) (0 : Nat) (0 : Nat), SV.lit (Value.int IntKind.i64 (↑m : Int)),
      SV.lit (Value.int IntKind.i64 (0 : Int))], [SO.cells (34 : Nat) [SV.sl (1 : Nat) (3 : Nat) (0 : Nat) m, SV.lit (Value.int IntKind.i64 n)], SO.row (37 : Nat) (Ty.pair
      (Ty.int IntKind.i64) (Ty.pair (Ty.int IntKind.i64) Ty.str)) R, SO.row (3 : Nat) (Ty.int IntKind.i64) []]) = ([SV.ptr (0 : Nat) (0 : Nat), SV.lit (Value.int IntKind.i64
      to), SV.sl (2 : Nat) (1 : Nat) (0 : Nat) (List.length (T24.places to R x)), SV.lit (Value.int IntKind.i64 (↑m : Int)), SV.lit (Value.int IntKind.i64 (↑x : Int))],
      [SO.cells (34 : Nat) [SV.sl (1 : Nat) (3 : Nat) (0 : Nat) m, SV.lit (Value.int IntKind.i64 n)], SO.row (37 : Nat) (Ty.pair (Ty.int IntKind.i64) (Ty.pair (Ty.int
      IntKind.i64) Ty.str)) R, SO.row (3 : Nat) (Ty.int IntKind.i64) (T24.places to R x)]) ∧ x ≤ m) ∧ ∀ (b : Nat), b ≤ m → br (decide ((↑b : Int) < (↑m : Int))) (((0 : Int) ≤
      (↑b : Int) ∧ (↑b : Int) < (↑m : Int)) ∧ (0 : Nat) + b < List.length R ∧ br (Prod.fst (Prod.snd (List.getD R ((0 : Nat) + b) (Ty.dflt T24.pty))) == to) ((1 : Nat) ≤ (1 :
      Nat) ∧ br (decide (List.length (T24.places to R b) + (1 : Nat) ≤ List.length (T24.places to R b))) ((∃ (x' : Nat), ([SV.ptr (0 : Nat) (0 : Nat), SV.lit (Value.int
      IntKind.i64 to), SV.sl (2 : Nat) (1 : Nat) (0 : Nat) (List.length (T24.places to R b) + (1 : Nat)), SV.lit (Value.int IntKind.i64 (↑m : Int)), SV.lit (Value.int
      IntKind.i64 (IntKind.wrap IntKind.i64 ((↑b : Int) + (1 : Int))))], [SO.cells (34 : Nat) [SV.sl (1 : Nat) (3 : Nat) (0 : Nat) m, SV.lit (Value.int IntKind.i64 n)], SO.row
      (37 : Nat) (Ty.pair (Ty.int IntKind.i64) (Ty.pair (Ty.int IntKind.i64) Ty.str)) R, SO.row (3 : Nat) (Ty.int IntKind.i64) (List.take (List.length (T24.places to R b))
      (T24.places to R b) ++ [(↑b : Int)] ++ List.drop (List.length (T24.places to R b) + (1 : Nat)) (T24.places to R b))]) = ([SV.ptr (0 : Nat) (0 : Nat), SV.lit (Value.int
      IntKind.i64 to), SV.sl (2 : Nat) (1 : Nat) (0 : Nat) (List.length (T24.places to R x')), SV.lit (Value.int IntKind.i64 (↑m : Int)), SV.lit (Value.int IntKind.i64 (↑x' :
      Int))], [SO.cells (34 : Nat) [SV.sl (1 : Nat) (3 : Nat) (0 : Nat) m, SV.lit (Value.int IntKind.i64 n)], SO.row (37 : Nat) (Ty.pair (Ty.int IntKind.i64) (Ty.pair (Ty.int
      IntKind.i64) Ty.str)) R, SO.row (3 : Nat) (Ty.int IntKind.i64) (T24.places to R x')]) ∧ x' ≤ m ∧ m - x' < m - b) ∧ True) (List.length (T24.places to R b) ≤ List.length
      (T24.places to R b) ∧ ((↑(List.length (T24.places to R b) + (1 : Nat)) : Int) ≤ (9223372036854775807 : Int) ∧ (List.length (T24.places to R b) + (1 : Nat)) * Sx.bytesOf
      Go.Proofs.Try.prog (3 : Nat) ≤ (140737488355328 : Nat)) ∧ (∃ (x' : Nat), ([SV.ptr (0 : Nat) (0 : Nat), SV.lit (Value.int IntKind.i64 to), SV.sl (2 : Nat) (1 : Nat) (0 :
      Nat) (List.length (T24.places to R b) + (1 : Nat)), SV.lit (Value.int IntKind.i64 (↑m : Int)), SV.lit (Value.int IntKind.i64 (IntKind.wrap IntKind.i64 ((↑b : Int) + (1 :
      Int))))], [SO.cells (34 : Nat) [SV.sl (1 : Nat) (3 : Nat) (0 : Nat) m, SV.lit (Value.int IntKind.i64 n)], SO.row (37 : Nat) (Ty.pair (Ty.int IntKind.i64) (Ty.pair (Ty.int
      IntKind.i64) Ty.str)) R, SO.row (3 : Nat) (Ty.int IntKind.i64) (List.take (List.length (T24.places to R b)) (T24.places to R b) ++ [(↑b : Int)])]) = ([SV.ptr (0 : Nat) (0
      : Nat), SV.lit (Value.int IntKind.i64 to), SV.sl (2 : Nat) (1 : Nat) (0 : Nat) (List.length (T24.places to R x')), SV.lit (Value.int IntKind.i64 (↑m : Int)), SV.lit
      (Value.int IntKind.i64 (↑x' : Int))], [SO.cells (34 : Nat) [SV.sl (1 : Nat) (3 : Nat) (0 : Nat) m, SV.lit (Value.int IntKind.i64 n)], SO.row (37 : Nat) (Ty.pair (Ty.int
      IntKind.i64) (Ty.pair (Ty.int IntKind.i64) Ty.str)) R, SO.row (3 : Nat) (Ty.int IntKind.i64) (T24.places to R x')]) ∧ x' ≤ m ∧ m - x' < m - b) ∧ True)) ((∃ (x' : Nat),
      ([SV.ptr (0 : Nat) (0 : Nat), SV.lit (Value.int IntKind.i64 to), SV.sl (2 : Nat) (1 : Nat) (0 : Nat) (List.length (T24.places to R b)), SV.lit (Value.int IntKind.i64 (↑m :
      Int)), SV.lit (Value.int IntKind.i64 (IntKind.wrap IntKind.i64 ((↑b : Int) + (1 : Int))))], [SO.cells (34 : Nat) [SV.sl (1 : Nat) (3 : Nat) (0 : Nat) m, SV.lit (Value.int
      IntKind.i64 n)], SO.row (37 : Nat) (Ty.pair (Ty.int IntKind.i64) (Ty.pair (Ty.int IntKind.i64) Ty.str)) R, SO.row (3 : Nat) (Ty.int IntKind.i64) (T24.places to R b)]) =
      ([SV.ptr (0 : Nat) (0 : Nat), SV.lit (Value.int IntKind.i64 to), SV.sl (2 : Nat) (1 : Nat) (0 : Nat) (List.length (T24.places to R x')), SV.lit (Value.int IntKind.i64 (↑m
      : Int)), SV.lit (Value.int IntKind.i64 (↑x' : Int))], [SO.cells (34 : Nat) [SV.sl (1 : Nat) (3 : Nat) (0 : Nat) m, SV.lit (Value.int IntKind.i64 n)], SO.row (37 : Nat)
      (Ty.pair (Ty.int IntKind.i64) (Ty.pair (Ty.int IntKind.i64) Ty.str)) R, SO.row (3 : Nat) (Ty.int IntKind.i64) (T24.places to R x')]) ∧ x' ≤ m ∧ m - x' < m - b) ∧ True)) (Q
      (SV.sl (2 : Nat) (1 : Nat) (0 : Nat) (List.length (T24.places to R b)), [SO.cells (34 : Nat) [SV.sl (1 : Nat) (3 : Nat) (0 : Nat) m, SV.lit (Value.int IntKind.i64 n)],
      SO.row (37 : Nat) (Ty.pair (Ty.int IntKind.i64) (Ty.pair (Ty.int IntKind.i64) Ty.str)) R, SO.row (3 : Nat) (Ty.int IntKind.i64) (T24.places to R b)], []))) (by kernel_rfl) ?_
  have hb : bytesOf Try.prog 3 = 8 := by kernel_rfl
  have hpl := places_len to R
  refine ⟨⟨0, rfl, by omega⟩, fun i hi => br_intro (fun hlt => ?_) (fun hge => ?_)⟩
  · have hlt := of_decide_eq_true hlt
    have hp := hpl i
    rw [hb, wrap1 i (by omega), Nat.zero_add]
    refine ⟨by omega, by omega, br_intro (fun g => ?_) (fun g => ⟨⟨i + 1, ?_, by omega, by omega⟩, trivial⟩)⟩
    · have g : (R.getD i pty.dflt).2.1 = to := eq_of_beq g
      have e : places to R (i + 1) = places to R i ++ [(i : Int)] := by simp only [places]; rw [if_pos g]
      refine ⟨by omega, br_intro (fun h => by have := of_decide_eq_true h; omega) (fun _ => ⟨by omega, ⟨by omega, by omega⟩, ⟨i + 1, ?_, by omega, by omega⟩, trivial⟩)⟩
      rw [e, List.take_length, List.length_append]; rfl
    · have g : (R.getD i pty.dflt).2.1 ≠ to := ne_of_beq_false g
      have e : places to R (i + 1) = places to R i := by simp only [places]; rw [if_neg g]
      rw [e]
  · have hge := of_decide_eq_false hge
    have : i = m := by omega
    subst this
    exact hq
/-- Packets that are sent, as far as there is room. -/
def send1 (H : List pty.den) (p : pty.den) : List pty.den := if H.length < 200 ∧ p.2.2.size ≤ 20100 then H ++ [p] else H
def sends (H L : List pty.den) : List pty.den := L.foldl send1 H
structure SSt where
  i : Nat
  m : Nat
  R : List pty.den
structure SOk (k : Nat) (H0 L : List pty.den) (x : SSt) : Prop where
  i : x.i ≤ k
  m : x.m ≤ x.R.length
  few : x.R.length ≤ 200
  eq : x.R.take x.m = sends H0 (L.take x.i)
noncomputable def A6 (k : Nat) (H0 L : List pty.den) : Ann := { live := [0, 1, 9, 10, 11], mv := [2], head := fun vals H => match vals, H with | [a, b, c, d, _], [.cells et [_, n], y, _] => { X := SSt, inv := fun x => ([a, b, c, d, .lit (.int .i64 x.i)], [.cells et [.sl 2 3 0 x.m, n], y, .row 37 (.pair (.int .i64) (.pair (.int .i64) .str)) x.R]), ok := SOk k H0 L, mu := fun x => k - x.i } | _, _ => { X := Nat, inv := fun _ => ([], []), ok := fun _ => False, mu := fun _ => 0 } }
theorem sends_len {H : List pty.den} (hH : H.length ≤ 200) : ∀ L : List pty.den, (sends H L).length ≤ 200 := fun L => by
  unfold sends
  induction L generalizing H with
  | nil => exact hH
  | cons p L ih =>
    refine ih ?_
    unfold send1
    split
    · rw [List.length_append, List.length_cons, List.length_nil]; omega
    · exact hH
theorem sends_snoc (H : List pty.den) (L : List pty.den) (i : Nat) (h : i < L.length) : sends H (L.take (i + 1)) = send1 (sends H (L.take i)) (L.getD i pty.dflt) := by
  rw [List.take_add_one, List.getElem?_eq_getElem h, List.getD_eq_getElem?_getD, List.getElem?_eq_getElem h]
  simp only [sends, Option.toList, List.foldl_append, List.foldl_cons, List.foldl_nil, Option.getD]
theorem v6g (m k : Nat) (n : Int) (L R : List pty.den) (Q : SV × Heap × List Nat → Prop) (hm : m ≤ R.length) (hR : R.length ≤ 200) (hk : k ≤ L.length) (hk2 : k ≤ 1000)
    (hq : ∀ (m' : Nat) (R' : List pty.den), m' ≤ R'.length → R'.length ≤ 200 → R'.take m' = sends (R.take m) (L.take k) → Q (.lit (.int .i64 m'), [.cells 34 [.sl 2 3 0 m', .lit (.int .i64 (IntKind.i64.wrap (n + k)))], .row 37 pty L, .row 37 pty R'], [2])) :
    (bodySumm U3 Try.prog Try.f6 (An1 0 (A6 k (R.take m) L)) [.ptr 0 0, .sl 1 3 0 k] [.cells 34 [.sl 2 3 0 m, .lit (.int .i64 n)], .row 37 pty L, .row 37 pty R]).Leads Q := by
  refine Sx.by_text (q :=
      (∃ (x : T24.SSt), ([SV.ptr (0 : Nat) (0 : Nat), SV.sl (1 : Nat) (3 : Nat) (0 : Nat) k, SV.sl (1 : Nat) (3 : Nat) (0 : Nat) k, SV.lit (Value.int IntKind.i64 (↑k : Int)),
      SV.lit (Value.int IntKind.i64 (0 : Int))], [SO.cells (34 : Nat) [SV.sl (2 : Nat) (3 : Nat) (0 : Nat) m, SV.lit (Value.int IntKind.i64 n)], SO.row (37 : Nat) (Ty.pair
      (Ty.int IntKind.i64) (Ty.pair (Ty.int IntKind.i64) Ty.str)) L, SO.row (37 : Nat) (Ty.pair (Ty.int IntKind.i64) (Ty.pair (Ty.int IntKind.i64) Ty.str)) R]) = ([SV.ptr (0 :
      Nat) (0 : Nat), SV.sl (1 : Nat) (3 : Nat) (0 : Nat) k, SV.sl (1 : Nat) (3 : Nat) (0 : Nat) k, SV.lit (Value.int IntKind.i64 (↑k : Int)), SV.lit (Value.int IntKind.i64
      (↑(T24.SSt.i x) : Int))], [SO.cells (34 : Nat) [SV.sl (2 : Nat) (3 : Nat) (0 : Nat) (T24.SSt.m x), SV.lit (Value.int IntKind.i64 n)], SO.row (37 : Nat) (Ty.pair (Ty.int
      IntKind.i64) (Ty.pair (Ty.int IntKind.i64) Ty.str)) L, SO.row (37 : Nat) (Ty.pair (Ty.int IntKind.i64) (Ty.pair (Ty.int IntKind.i64) Ty.str)) (T24.SSt.R x)]) ∧ T24.SOk k
      (List.take m R) L x) ∧ ∀ (b : T24.SSt), T24.SOk k (List.take m R) L b → br (decide ((↑(T24.SSt.i b) : Int) < (↑k : Int))) (((0 : Int) ≤ (↑(T24.SSt.i b) : Int) ∧
      (↑(T24.SSt.i b) : Int) < (↑k : Int)) ∧ (0 : Nat) + T24.SSt.i b < List.length L ∧ br (decide ((↑(T24.SSt.m b) : Int) < (200 : Int))) (br (decide ((↑(ByteArray.size
      (Prod.snd (Prod.snd (List.getD L ((0 : Nat) + T24.SSt.i b) (Ty.dflt T24.pty))))) : Int) ≤ (20100 : Int))) ((1 : Nat) ≤ (1 : Nat) ∧ br (decide (T24.SSt.m b + (1 : Nat) ≤
      List.length (T24.SSt.R b))) ((∃ (x' : T24.SSt), ([SV.ptr (0 : Nat) (0 : Nat), SV.sl (1 : Nat) (3 : Nat) (0 : Nat) k, SV.sl (1 : Nat) (3 : Nat) (0 : Nat) k, SV.lit
      (Value.int IntKind.i64 (↑k : Int)), SV.lit (Value.int IntKind.i64 (IntKind.wrap IntKind.i64 ((↑(T24.SSt.i b) : Int) + (1 : Int))))], [SO.cells (34 : Nat) [SV.sl (2 : Nat)
      (3 : Nat) (0 : Nat) (T24.SSt.m b + (1 : Nat)), SV.lit (Value.int IntKind.i64 n)], SO.row (37 : Nat) (Ty.pair (Ty.int IntKind.i64) (Ty.pair (Ty.int IntKind.i64) Ty.str)) L,
      SO.row (37 : Nat) (Ty.pair (Ty.int IntKind.i64) (Ty.pair (Ty.int IntKind.i64) Ty.str)) (List.take (T24.SSt.m b) (T24.SSt.R b) ++ [(Prod.fst (List.getD L ((0 : Nat) +
      T24.SSt.i b) (Ty.dflt T24.pty)), Prod.fst (Prod.snd (List.getD L ((0 : Nat) + T24.SSt.i b) (Ty.dflt T24.pty))), Prod.snd (Prod.snd (List.getD L ((0 : Nat) + T24.SSt.i b)
      (Ty.dflt T24.pty))))] ++ List.drop (T24.SSt.m b + (1 : Nat)) (T24.SSt.R b))]) = ([SV.ptr (0 : Nat) (0 : Nat), SV.sl (1 : Nat) (3 : Nat) (0 : Nat) k, SV.sl (1 : Nat) (3 :
      Nat) (0 : Nat) k, SV.lit (Value.int IntKind.i64 (↑k : Int)), SV.lit (Value.int IntKind.i64 (↑(T24.SSt.i x') : Int))], [SO.cells (34 : Nat) [SV.sl (2 : Nat) (3 : Nat) (0 :
      Nat) (T24.SSt.m x'), SV.lit (Value.int IntKind.i64 n)], SO.row (37 : Nat) (Ty.pair (Ty.int IntKind.i64) (Ty.pair (Ty.int IntKind.i64) Ty.str)) L, SO.row (37 : Nat)
      (Ty.pair (Ty.int IntKind.i64) (Ty.pair (Ty.int IntKind.i64) Ty.str)) (T24.SSt.R x')]) ∧ T24.SOk k (List.take m R) L x' ∧ k - T24.SSt.i x' < k - T24.SSt.i b) ∧ True)
      (T24.SSt.m b ≤ List.length (T24.SSt.R b) ∧ ((↑(T24.SSt.m b + (1 : Nat)) : Int) ≤ (9223372036854775807 : Int) ∧ (T24.SSt.m b + (1 : Nat)) * Sx.bytesOf Go.Proofs.Try.prog
      (37 : Nat) ≤ (140737488355328 : Nat)) ∧ (∃ (x' : T24.SSt), ([SV.ptr (0 : Nat) (0 : Nat), SV.sl (1 : Nat) (3 : Nat) (0 : Nat) k, SV.sl (1 : Nat) (3 : Nat) (0 : Nat) k,
      SV.lit (Value.int IntKind.i64 (↑k : Int)), SV.lit (Value.int IntKind.i64 (IntKind.wrap IntKind.i64 ((↑(T24.SSt.i b) : Int) + (1 : Int))))], [SO.cells (34 : Nat) [SV.sl (2
      : Nat) (3 : Nat) (0 : Nat) (T24.SSt.m b + (1 : Nat)), SV.lit (Value.int IntKind.i64 n)], SO.row (37 : Nat) (Ty.pair (Ty.int IntKind.i64) (Ty.pair (Ty.int IntKind.i64)
      Ty.str)) L, SO.row (37 : Nat) (Ty.pair (Ty.int IntKind.i64) (Ty.pair (Ty.int IntKind.i64) Ty.str)) (List.take (T24.SSt.m b) (T24.SSt.R b) ++ [(Prod.fst (List.getD L ((0 :
      Nat) + T24.SSt.i b) (Ty.dflt T24.pty)), Prod.fst (Prod.snd (List.getD L ((0 : Nat) + T24.SSt.i b) (Ty.dflt T24.pty))), Prod.snd (Prod.snd (List.getD L ((0 : Nat) +
      T24.SSt.i b) (Ty.dflt T24.pty))))])]) = ([SV.ptr (0 : Nat) (0 : Nat), SV.sl (1 : Nat) (3 : Nat) (0 : Nat) k, SV.sl (1 : Nat) (3 : Nat) (0 : Nat) k, SV.lit (Value.int
      IntKind.i64 (↑k : Int)), SV.lit (Value.int IntKind.i64 (↑(T24.SSt.i x') : Int))], [SO.cells (34 : Nat) [SV.sl (2 : Nat) (3 : Nat) (0 : Nat) (T24.SSt.m x'), SV.lit
      (Value.int IntKind.i64 n)], SO.row (37 : Nat) (Ty.pair (Ty.int IntKind.i64) (Ty.pair (Ty.int IntKind.i64) Ty.str)) L, SO.row (37 : Nat) (Ty.pair (Ty.int IntKind.i64)
      (Ty.pair (Ty.int IntKind.i64) Ty.str)) (T24.SSt.R x')]) ∧ T24.SOk k (List.take m R) L x' ∧ k - T24.SSt.i x' < k - T24.SSt.i b) ∧ True)) ((∃ (x' : T24.SSt), ([SV.ptr (0 :
      Nat) (0 : Nat), SV.sl (1 : Nat) (3 : Nat) (0 : Nat) k, SV.sl (1 : Nat) (3 : Nat) (0 : Nat) k, SV.lit (Value.int IntKind.i64 (↑k : Int)), SV.lit (Value.int IntKind.i64
      (IntKind.wrap IntKind.i64 ((↑(T24.SSt.i b) : Int) + (1 : Int))))], [SO.cells (34 : Nat) [SV.sl (2 : Nat) (3 : Nat) (0 : Nat) (T24.SSt.m b), SV.lit (Value.int IntKind.i64
      n)], SO.row (37 : Nat) (Ty.pair (Ty.int IntKind.i64) (Ty.pair (Ty.int IntKind.i64) Ty.str)) L, SO.row (37 : Nat) (Ty.pair (Ty.int IntKind.i64) (Ty.pair (Ty.int
      IntKind.i64) Ty.str)) (T24.SSt.R b)]) = ([SV.ptr (0 : Nat) (0 : Nat), SV.sl (1 : Nat) (3 : Nat) (0 : Nat) k, SV.sl (1 : Nat) (3 : Nat) (0 : Nat) k, SV.lit (Value.int
      IntKind.i64 (↑k : Int)), SV.lit (Value.int IntKind.i64 (↑(T24.SSt.i x') : Int))], [SO.cells (34 : Nat) [SV.sl (2 : Nat) (3 : Nat) (0 : Nat) (T24.SSt.m x'), SV.lit
      (Value.int IntKind.i64 n)], SO.row (37 : Nat) (Ty.pair (Ty.int IntKind.i64) (Ty.pair (Ty.int IntKind.i64) Ty.str)) L, SO.row (37 : Nat) (Ty.pair (Ty.int IntKind.i64)
      (Ty.pair (Ty.int IntKind.i64) Ty.str)) (T24.SSt.R x')]) ∧ T24.SOk k (List.take m R) L x' ∧ k - T24.SSt.i x' < k - T24.SSt.i b) ∧ True)) ((∃ (x' : T24.SSt), ([SV.ptr (0 :
      Nat) (0 : Nat), SV.sl (1 : Nat) (3 : Nat) (0 : Nat) k, SV.sl (1 : Nat) (3 : Nat) (0 : Nat) k, SV.lit (Value.int IntKind.i64 (↑k : Int)), SV.lit (Value.int IntKind.i64
      (IntKind.wrap IntKind.i64 ((↑(T24.SSt.i b) : Int) + (1 : Int))))], [SO.cells (34 : Nat) [SV.sl (2 : Nat) (3 : Nat) (0 : Nat) (T24.SSt.m b), SV.lit (Value.int IntKind.i64
      n)], SO.row (37 : Nat) (Ty.pair (Ty.int IntKind.i64) (Ty.pair (Ty.int IntKind.i64) Ty.str)) L, SO.row (37 : Nat) (Ty.pair (Ty.int IntKind.i64) (Ty.pair (Ty.int
      IntKind.i64) Ty.str)) (T24.SSt.R b)]) = ([SV.ptr (0 : Nat) (0 : Nat), SV.sl (1 : Nat) (3 : Nat) (0 : Nat) k, SV.sl (1 : Nat) (3 : Nat) (0 : Nat) k, SV.lit (Value.int
      IntKind.i64 (↑k : Int)), SV.lit (Value.int IntKind.i64 (↑(T24.SSt.i x') : Int))], [SO.cells (34 : Nat) [SV.sl (2 : Nat) (3 : Nat) (0 : Nat) (T24.SSt.m x'), SV.lit
      (Value.int IntKind.i64 n)], SO.row (37 : Nat) (Ty.pair (Ty.int IntKind.i64) (Ty.pair (Ty.int IntKind.i64) Ty.str)) L, SO.row (37 : Nat) (Ty.pair (Ty.int IntKind.i64)
      (Ty.pair (Ty.int IntKind.i64) Ty.str)) (T24.SSt.R x')]) ∧ T24.SOk k (List.take m R) L x' ∧ k - T24.SSt.i x' < k - T24.SSt.i b) ∧ True)) (((0 : Int) ≤ (0 : Int) ∧ (0 : Int)
      < (↑(1 : Nat) : Int)) ∧ (0 : Nat) < (1 : Nat) ∧ Q (SV.lit (Value.int IntKind.i64 (↑(T24.SSt.m b) : Int)), [SO.cells (34 : Nat) [SV.sl (2 : Nat) (3 : Nat) (0 : Nat)
      (T24.SSt.m b), SV.lit (Value.int IntKind.i64 (IntKind.wrap IntKind.i64 (n + IntKind.wrap IntKind.i64 ((0 : Int) + List.getD [(↑k : Int)] (0 : Nat) (Ty.dflt (Ty.int
      IntKind.i64))))))], SO.row (37 : Nat) (Ty.pair (Ty.int IntKind.i64) (Ty.pair (Ty.int IntKind.i64) Ty.str)) L, SO.row (37 : Nat) (Ty.pair (Ty.int IntKind.i64) (Ty.pair
      (Ty.int IntKind.i64) Ty.str)) (T24.SSt.R b)], [(2 : Nat)]))) (by kernel_rfl) ?_
  have hb : bytesOf Try.prog 37 = 32 := by kernel_rfl
  refine ⟨⟨⟨0, m, R⟩, rfl, ⟨by show 0 ≤ k; omega, hm, hR, rfl⟩⟩, fun x hx => ?_⟩
  obtain ⟨i, m', R'⟩ := x
  obtain ⟨hi, hm', hf, he⟩ := hx
  dsimp only at hi hm' hf he ⊢
  refine br_intro (fun hlt => ?_) (fun hge => ?_)
  · have hlt := of_decide_eq_true hlt
    have hs := sends_snoc (R.take m) L i (by omega)
    have hl : (R'.take m').length = m' := by rw [List.length_take]; omega
    rw [← he] at hs
    rw [Nat.zero_add, wrap1 i (by omega), hb]
    generalize hp : L.getD i pty.dflt = p at hs ⊢
    refine ⟨by omega, by omega, br_intro (fun g => br_intro (fun g2 => ⟨by omega, br_intro (fun g3 => ?_) (fun g3 => ⟨hm', ⟨by omega, by omega⟩, ?_⟩)⟩) (fun g2 => ?_)) (fun g => ?_)⟩
    · have g := of_decide_eq_true g
      have g2 := of_decide_eq_true g2
      have g3 := of_decide_eq_true g3
      have e : send1 (R'.take m') p = R'.take m' ++ [p] := by unfold send1; rw [if_pos (by omega)]
      refine ⟨⟨⟨i + 1, m' + 1, R'.take m' ++ [p] ++ R'.drop (m' + 1)⟩, rfl, ⟨by show i + 1 ≤ k; omega, ?_, ?_, ?_⟩, by show k - (i + 1) < k - i; omega⟩, trivial⟩
      · show m' + 1 ≤ (R'.take m' ++ [p] ++ R'.drop (m' + 1)).length
        rw [List.length_append, List.length_append, hl, List.length_cons, List.length_nil]; omega
      · show (R'.take m' ++ [p] ++ R'.drop (m' + 1)).length ≤ 200
        rw [List.length_append, List.length_append, hl, List.length_drop, List.length_cons, List.length_nil]; omega
      · show (R'.take m' ++ [p] ++ R'.drop (m' + 1)).take (m' + 1) = sends (R.take m) (L.take (i + 1))
        rw [hs, e]
        have hl2 : (R'.take m' ++ [p]).length = m' + 1 := by rw [List.length_append, hl]; rfl
        rw [← hl2, List.take_left]
    · have g := of_decide_eq_true g
      have g2 := of_decide_eq_true g2
      have e : send1 (R'.take m') p = R'.take m' ++ [p] := by unfold send1; rw [if_pos (by omega)]
      have hl2 : (R'.take m' ++ [p]).length = m' + 1 := by rw [List.length_append, hl]; rfl
      refine ⟨⟨⟨i + 1, m' + 1, R'.take m' ++ [p]⟩, rfl, ⟨by show i + 1 ≤ k; omega, by show m' + 1 ≤ (R'.take m' ++ [p]).length; omega, by show (R'.take m' ++ [p]).length ≤ 200; omega, ?_⟩, by show k - (i + 1) < k - i; omega⟩, trivial⟩
      show (R'.take m' ++ [p]).take (m' + 1) = sends (R.take m) (L.take (i + 1))
      rw [hs, e, ← hl2, List.take_length]
    · have g2 := of_decide_eq_false g2
      have e : send1 (R'.take m') p = R'.take m' := by unfold send1; rw [if_neg (by omega)]
      exact ⟨⟨⟨i + 1, m', R'⟩, rfl, ⟨by show i + 1 ≤ k; omega, hm', hf, by show R'.take m' = sends (R.take m) (L.take (i + 1)); rw [hs, e]⟩, by show k - (i + 1) < k - i; omega⟩, trivial⟩
    · have g := of_decide_eq_false g
      have e : send1 (R'.take m') p = R'.take m' := by unfold send1; rw [if_neg (by omega)]
      exact ⟨⟨⟨i + 1, m', R'⟩, rfl, ⟨by show i + 1 ≤ k; omega, hm', hf, by show R'.take m' = sends (R.take m) (L.take (i + 1)); rw [hs, e]⟩, by show k - (i + 1) < k - i; omega⟩, trivial⟩
  · have hge := of_decide_eq_false hge
    have hik : i = k := by omega
    subst hik
    have e9 : IntKind.i64.wrap (0 + [((i : Nat) : Int)].getD 0 (Ty.int IntKind.i64).dflt) = i := by simp only [List.getD_cons_zero]; rw [IntKind.wrap_i64]; omega
    rw [e9]
    exact ⟨by omega, by omega, hq m' R' hm' hf he⟩
end T24
