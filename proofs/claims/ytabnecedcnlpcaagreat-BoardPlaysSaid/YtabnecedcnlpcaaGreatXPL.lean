/- Lists that are compared, element by element. -/
import Derived.Test.YtabnecedcnlpcaaGreatSxT
set_option linter.unusedVariables false
namespace PL
theorem getD_part {α : Type} (A : List α) (a m i : Nat) (d : α) (h : i < m) : A.getD (a + i) d = ((A.drop a).take m).getD i d := by
  simp only [List.getD_eq_getElem?_getD]
  rw [List.getElem?_take_of_lt h, List.getElem?_drop]
theorem part_len {α : Type} (A : List α) (a m : Nat) (hm : a + m ≤ A.length) : ((A.drop a).take m).length = m := by
  rw [List.length_take, List.length_drop]; omega
theorem take_step {α : Type} {X Y : List α} {i : Nat} {d : α} (hx : i < X.length) (hy : i < Y.length) (h : X.take i = Y.take i) (e : X.getD i d = Y.getD i d) : X.take (i + 1) = Y.take (i + 1) := by
  rw [List.take_add_one, List.take_add_one, h]
  simp only [List.getD_eq_getElem?_getD, List.getElem?_eq_getElem hx, List.getElem?_eq_getElem hy, Option.getD] at e
  rw [List.getElem?_eq_getElem hx, List.getElem?_eq_getElem hy, e]
theorem not_same {α : Type} {X Y : List α} {i : Nat} {d : α} (e : X.getD i d ≠ Y.getD i d) : X ≠ Y := fun h => e (by rw [h])
theorem take_all {α : Type} {X Y : List α} {i : Nat} (hx : i = X.length) (hy : X.length = Y.length) (h : X.take i = Y.take i) : X = Y := by
  rw [hx, List.take_length, hy, List.take_length] at h; exact h
end PL
