/- Part of a proof: the walk of the functions that the law calls. -/
import Derived.Test.YtlcobcpgaoeijaaSxT
import Derived.Test.YtlcobcpgaoeijaaXT13b
open Go Sx Go.Proofs T12
namespace T13
set_option maxRecDepth 100000
set_option maxHeartbeats 4000000
attribute [local irreducible] Tree.Leads
set_option linter.unusedSimpArgs false
set_option linter.unusedVariables false
def ints (l : List Int) : List SV := l.map fun n => .lit (.int .i64 n)
def tab1 : List SV := ints [2,1,1,1,0,1, 2,3,4,4,0,9, 2,3,5,6,0,9, 8,7,7,7,7,7, 0,7,7,7,7,7]
def pcells (st : Int) (h : ByteArray) (ni : Nat) (wr fi : Bool) (mk : Int) (nn : Nat) (fu : Bool) (nt no : Nat) : List SV :=
  [.lit (.int .u32 1), .lit (.int .i32 0), .lit (.int .u32 0)] ++ tab1 ++ [.lit (.int .i64 st), .lit (.string h), .sl 1 1 0 ni, .lit (.bool wr), .lit (.bool fi), .lit (.int .i64 mk), .sl 2 1 0 nn, .lit (.bool fu), .sl 3 1 0 nt, .sl 4 7 0 no]
def rows (st : Int) (h : ByteArray) (it : List Int) (ni : Nat) (wr fi : Bool) (mk : Int) (nu : List Int) (nn : Nat) (fu : Bool) (tx : List Int) (nt : Nat) (ac : List aty.den) (no : Nat) : Heap :=
  [.cells 47 (pcells st h ni wr fi mk nn fu nt no), .row 5 (.int .u8) it, .row 3 (.int .i64) nu, .row 5 (.int .u8) tx, .row 50 aty ac]
def pheap (st : Int) (h : ByteArray) (it : List Int) (wr fi : Bool) (mk : Int) (nu : List Int) (fu : Bool) (tx : List Int) (ac : List aty.den) : Heap := rows st h it it.length wr fi mk nu nu.length fu tx tx.length ac ac.length
noncomputable def N22 : Nat → Option Ann := An1 999999 { live := [], mv := [], nilH := [(47, 35, 5, .int .u8), (47, 39, 3, .int .i64), (47, 41, 5, .int .u8), (47, 42, 50, aty)], head := fun _ _ => { X := Nat, inv := fun _ => ([], []), ok := fun _ => False, mu := fun _ => 0 } }
/-- Behind a byte. -/
def Goes (s : PS) (ac : List aty.den) (b : Int) (Q : SV × Heap × List Nat → Prop) : Prop :=
  ∀ st h it ni wr fi mk nu nn fu tx nt R no mv, (pstep s b).1 = ⟨st, strInts h, it, wr, fi, mk, nu, fu, tx⟩ → R = ac ++ (pstep s b).2 → ni = it.length → nn = nu.length → nt = tx.length → no = R.length → memN 0 mv = false → Q (.tup [], rows st h it ni wr fi mk nu nn fu tx nt R no, mv)
theorem no_room (n k : Nat) : decide (n + (k + 1) ≤ n) = false := decide_eq_false (by omega)
/-- The kinds of bytes. -/
def Kind (b : Int) (e24 e26 e27 l32 l48 l64 l127 e127 : Bool) : Prop :=
  (b == 24) = e24 ∧ (b == 26) = e26 ∧ (b == 27) = e27 ∧ decide (b < 32) = l32 ∧ decide (b < 48) = l48 ∧ decide (b < 64) = l64 ∧ decide (b < 127) = l127 ∧ (b == 127) = e127
theorem kinds {b : Int} (hb : Byte b) : (b = 24 ∧ Kind b true false false true true true true false) ∨ (b = 26 ∧ Kind b false true false true true true true false) ∨ (b = 27 ∧ Kind b false false true true true true true false) ∨
    ((b < 32 ∧ b ≠ 24 ∧ b ≠ 26 ∧ b ≠ 27) ∧ Kind b false false false true true true true false) ∨ ((32 ≤ b ∧ b < 48) ∧ Kind b false false false false true true true false) ∨ ((48 ≤ b ∧ b < 64) ∧ Kind b false false false false false true true false) ∨
    ((64 ≤ b ∧ b < 127) ∧ Kind b false false false false false false true false) ∨ (b = 127 ∧ Kind b false false false false false false false true) ∨ (128 ≤ b ∧ Kind b false false false false false false false false) := by
  have h1 := hb.1
  have h2 := hb.2
  have mk : ∀ {e24 e26 e27 l32 l48 l64 l127 e127 : Bool}, ((b = 24 ↔ e24 = true) ∧ (b = 26 ↔ e26 = true) ∧ (b = 27 ↔ e27 = true) ∧ (b < 32 ↔ l32 = true) ∧ (b < 48 ↔ l48 = true) ∧ (b < 64 ↔ l64 = true) ∧ (b < 127 ↔ l127 = true) ∧ (b = 127 ↔ e127 = true)) → Kind b e24 e26 e27 l32 l48 l64 l127 e127 := fun h => by
    obtain ⟨a1, a2, a3, a4, a5, a6, a7, a8⟩ := h
    refine ⟨?_, ?_, ?_, ?_, ?_, ?_, ?_, ?_⟩
    · rw [Bool.eq_iff_iff, beq_iff_eq]; exact a1
    · rw [Bool.eq_iff_iff, beq_iff_eq]; exact a2
    · rw [Bool.eq_iff_iff, beq_iff_eq]; exact a3
    · rw [Bool.eq_iff_iff, decide_eq_true_eq]; exact a4
    · rw [Bool.eq_iff_iff, decide_eq_true_eq]; exact a5
    · rw [Bool.eq_iff_iff, decide_eq_true_eq]; exact a6
    · rw [Bool.eq_iff_iff, decide_eq_true_eq]; exact a7
    · rw [Bool.eq_iff_iff, beq_iff_eq]; exact a8
  by_cases c1 : b = 24
  · exact .inl ⟨c1, mk (by subst c1; decide)⟩
  by_cases c2 : b = 26
  · exact .inr (.inl ⟨c2, mk (by subst c2; decide)⟩)
  by_cases c3 : b = 27
  · exact .inr (.inr (.inl ⟨c3, mk (by subst c3; decide)⟩))
  by_cases c4 : b < 32
  · exact .inr (.inr (.inr (.inl ⟨⟨c4, c1, c2, c3⟩, mk (by simp only [c1, c2, c3, c4, false_iff, true_iff, Bool.false_eq_true, not_false_eq_true]; refine ⟨trivial, trivial, trivial, trivial, ?_, ?_, ?_, ?_⟩ <;> (simp; try omega))⟩)))
  by_cases c5 : b < 48
  · exact .inr (.inr (.inr (.inr (.inl ⟨⟨by omega, c5⟩, mk (by simp only [c1, c2, c3, c4, c5, false_iff, true_iff, Bool.false_eq_true, not_false_eq_true]; refine ⟨trivial, trivial, trivial, trivial, trivial, ?_, ?_, ?_⟩ <;> (simp; try omega))⟩))))
  by_cases c6 : b < 64
  · exact .inr (.inr (.inr (.inr (.inr (.inl ⟨⟨by omega, c6⟩, mk (by simp only [c1, c2, c3, c4, c5, c6, false_iff, true_iff, Bool.false_eq_true, not_false_eq_true]; refine ⟨trivial, trivial, trivial, trivial, trivial, trivial, ?_, ?_⟩ <;> (simp; try omega))⟩)))))
  by_cases c7 : b < 127
  · exact .inr (.inr (.inr (.inr (.inr (.inr (.inl ⟨⟨by omega, c7⟩, mk (by simp only [c1, c2, c3, c4, c5, c6, c7, false_iff, true_iff, Bool.false_eq_true, not_false_eq_true]; refine ⟨trivial, trivial, trivial, trivial, trivial, trivial, trivial, ?_⟩ <;> (simp; try omega))⟩))))))
  by_cases c8 : b = 127
  · exact .inr (.inr (.inr (.inr (.inr (.inr (.inr (.inl ⟨c8, mk (by subst c8; decide)⟩)))))))
  · exact .inr (.inr (.inr (.inr (.inr (.inr (.inr (.inr ⟨by omega, mk (by simp only [c1, c2, c3, c4, c5, c6, c7, c8, false_iff, true_iff, Bool.false_eq_true, not_false_eq_true, and_self])⟩)))))))
/-- Behind a call that leads to this state and these acts. -/
def GoesW (r : PS × List aty.den) (ac : List aty.den) (Q : SV × Heap × List Nat → Prop) : Prop :=
  ∀ st h it ni wr fi mk nu nn fu tx nt R no mv, r.1 = ⟨st, strInts h, it, wr, fi, mk, nu, fu, tx⟩ → R = ac ++ r.2 → ni = it.length → nn = nu.length → nt = tx.length → no = R.length → memN 0 mv = false → Q (.tup [], rows st h it ni wr fi mk nu nn fu tx nt R no, mv)
end T13
