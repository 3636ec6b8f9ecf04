/- Plain laws of a board: names in order, one more laid at its place; what a log says. -/
import Derived.Test.YtabnecedcnlpcaaGreatXPB6
set_option linter.unusedVariables false
open Go Sx
namespace W5
def lessB (a b : ByteArray) : Bool := Op.bytesLess a.data.toList b.data.toList
def placeOf (s : ByteArray) : List ByteArray → Nat
  | [] => 0
  | x :: r => if lessB x s then placeOf s r + 1 else 0
def insAt (X : List ByteArray) (s : ByteArray) : List ByteArray := X.take (placeOf s X) ++ [s] ++ X.drop (placeOf s X)
def newOrd (X : List ByteArray) (s : ByteArray) (has : Bool) : List ByteArray := if has then X else insAt X s
/-- So far all names are less. -/
structure LessUp (X : List ByteArray) (s : ByteArray) (k : Nat) : Prop where
  le : k ≤ X.length
  all : ∀ j, j < k → lessB (X.getD j ByteArray.empty) s = true
structure OrdOf (X : List ByteArray) (s : ByteArray) (has : Bool) (Y : List ByteArray) : Prop where
  eq : Y = newOrd X s has
theorem place_eq {s : ByteArray} : ∀ {X : List ByteArray} {k : Nat}, LessUp X s k → (k = X.length ∨ lessB (X.getD k ByteArray.empty) s = false) → k = placeOf s X
  | [], k, h, _ => by have := h.le; simp at this; subst this; rfl
  | x :: r, 0, h, g => by
    simp only [placeOf]
    rcases g with g | g
    · simp at g
    · simp at g; rw [g]; rfl
  | x :: r, k + 1, h, g => by
    have h0 := h.all 0 (by omega)
    simp at h0
    simp only [placeOf, h0, if_true]
    have := place_eq (s := s) (X := r) (k := k) ⟨by have := h.le; simpa using this, fun j hj => by simpa using h.all (j + 1) (by omega)⟩ (by simpa using g)
    omega
theorem insAt_of {X : List ByteArray} {s : ByteArray} {k : Nat} (h : LessUp X s k) (g : k = X.length ∨ lessB (X.getD k ByteArray.empty) s = false) : X.take k ++ [s] ++ X.drop k = insAt X s := by
  unfold insAt; rw [← place_eq h g]
theorem insAt_len (X : List ByteArray) (s : ByteArray) : (insAt X s).length = X.length + 1 := by
  simp only [insAt, List.length_append, List.length_take, List.length_drop, List.length_cons, List.length_nil]; omega
def ltB (a b : List UInt8) : Bool := Op.bytesLess a b
theorem ltB_iff (a b : List UInt8) : ltB a b = true ↔ a < b := by unfold ltB; rw [Go.Proofs.bytesLess_eq, decide_eq_true_eq]
/-- A list in order, and one more at its place. -/
theorem ins_sorted (y : ByteArray) : ∀ (X : List ByteArray), (X.map fun b => b.data.toList).Pairwise (fun a b => leB a b = true) → ((insAt X y).map fun b => b.data.toList).Pairwise (fun a b => leB a b = true)
  | [], _ => by simp [insAt, placeOf]
  | x :: r, h => by
    simp only [List.map_cons, List.pairwise_cons] at h
    unfold insAt
    simp only [placeOf]
    by_cases hl : lessB x y = true
    · simp only [hl, if_true, List.take_succ_cons, List.drop_succ_cons, List.cons_append, List.map_cons, List.pairwise_cons]
      refine ⟨fun a ha => ?_, ins_sorted y r h.2⟩
      have hxy : x.data.toList < y.data.toList := (ltB_iff _ _).1 hl
      simp only [List.map_append, List.map_cons, List.map_nil, List.mem_append, List.mem_cons, List.not_mem_nil, or_false] at ha
      have old : a ∈ r.map (fun b : ByteArray => b.data.toList) → leB x.data.toList a = true := fun hm => h.1 a hm
      rcases ha with (ha | rfl) | ha
      · obtain ⟨b, hb, rfl⟩ := List.mem_map.1 ha
        exact old (List.mem_map_of_mem (List.mem_of_mem_take hb))
      · simp only [leB, decide_eq_true_eq]; exact List.le_of_lt hxy
      · obtain ⟨b, hb, rfl⟩ := List.mem_map.1 ha
        exact old (List.mem_map_of_mem (List.mem_of_mem_drop hb))
    · have hl' : lessB x y = false := by simpa using hl
      simp only [hl', Bool.false_eq_true, if_false, List.take_zero, List.drop_zero, List.nil_append, List.cons_append, List.map_cons, List.pairwise_cons]
      have hyx : leB y.data.toList x.data.toList = true := by
        simp only [leB, decide_eq_true_eq]
        refine List.not_lt.1 fun e => ?_
        have := (ltB_iff _ _).2 e
        unfold lessB at hl'
        unfold ltB at this
        rw [hl'] at this; cases this
      refine ⟨fun a ha => ?_, h.1, h.2⟩
      rcases List.mem_cons.1 ha with rfl | ha
      · exact hyx
      · have := h.1 a ha
        simp only [leB, decide_eq_true_eq] at hyx this ⊢
        exact List.le_trans hyx this
theorem ins_perm (X : List ByteArray) (y : ByteArray) : (insAt X y).Perm (X ++ [y]) := by
  unfold insAt
  have h : (X.take (placeOf y X) ++ [y] ++ X.drop (placeOf y X)).Perm (X.take (placeOf y X) ++ X.drop (placeOf y X) ++ [y]) := by
    rw [List.append_assoc, List.append_assoc]
    exact List.Perm.append_left _ List.perm_append_comm
  rwa [List.take_append_drop] at h
theorem sorted_pairwise (l : List (ByteArray × Int)) : ((sortedNames l).map fun b => b.data.toList).Pairwise (fun a b => leB a b = true) := by
  have tr : ∀ a b c : List UInt8, leB a b = true → leB b c = true → leB a c = true := fun a b c h1 h2 => by simp only [leB, decide_eq_true_eq] at *; exact List.le_trans h1 h2
  have to : ∀ a b : List UInt8, (leB a b || leB b a) = true := fun a b => by simp only [leB, Bool.or_eq_true, decide_eq_true_eq]; exact List.le_total a b
  have hp := List.pairwise_mergeSort tr to (l.map fun p => p.1.data.toList)
  have e : (sortedNames l).map (fun b => b.data.toList) = (l.map fun p => p.1.data.toList).mergeSort leB := by
    simp only [sortedNames, List.map_map]
    conv => rhs; rw [← List.map_id ((l.map fun p => p.1.data.toList).mergeSort leB)]
    rfl
  rw [e]; exact hp
theorem sorted_self (X : List ByteArray) (h : (X.map fun b => b.data.toList).Pairwise (fun a b => leB a b = true)) : ((X.map fun b => b.data.toList).mergeSort leB).map (fun x => (⟨x.toArray⟩ : ByteArray)) = X := by
  rw [List.mergeSort_of_pairwise h, List.map_map]
  conv => rhs; rw [← List.map_id X]
  apply List.map_congr_left
  intro b _
  simp
theorem sorted_list_perm (l : List (ByteArray × Int)) : ((sortedNames l).map fun b => b.data.toList).Perm (l.map fun p => p.1.data.toList) := by
  have e : (sortedNames l).map (fun b => b.data.toList) = (l.map fun p => p.1.data.toList).mergeSort leB := by
    simp only [sortedNames, List.map_map]
    conv => rhs; rw [← List.map_id ((l.map fun p => p.1.data.toList).mergeSort leB)]
    rfl
  rw [e]; exact List.mergeSort_perm _ _
/-- The names in order, behind one more. -/
theorem sorted_addAt (l : List (ByteArray × Int)) (s : ByteArray) (n : Int) : sortedNames (addAt l s n) = newOrd (sortedNames l) s (l.any fun p => p.1 == s) := by
  unfold newOrd
  cases h : l.any (fun p => p.1 == s) with
  | true =>
    rw [if_pos rfl]
    refine sorted_perm ?_
    rw [names_old n ((any_iff l s).1 h)]
  | false =>
    rw [if_neg (by simp)]
    have hs : s ∉ l.map Prod.fst := fun e => by rw [(any_iff l s).2 e] at h; cases h
    have hp : ((insAt (sortedNames l) s).map fun b => b.data.toList).Perm ((addAt l s n).map fun p => p.1.data.toList) := by
      rw [names_new n hs]
      refine ((ins_perm (sortedNames l) s).map _).trans ?_
      rw [List.map_append, List.map_append]
      exact List.Perm.append_right _ (sorted_list_perm l)
    have h1 := sorted_self _ (ins_sorted s _ (sorted_pairwise l))
    rw [← h1, mergeSort_of_perm hp]; rfl
theorem logAt_snoc (l : List (ByteArray × Int)) (s t : ByteArray) (v : Int) : logAt (l ++ [(s, v)]) t = if s = t then v else logAt l t := by
  simp only [logAt, List.foldl_append, List.foldl_cons, List.foldl_nil]
  by_cases h : s = t
  · subst h; simp [beq_self_bytes]
  · have : (s == t) = false := by rw [bytes_beq]; simp [h]
    simp [this, h]
theorem logHas_snoc (l : List (ByteArray × Int)) (s t : ByteArray) (v : Int) : logHas (l ++ [(s, v)]) t = (logHas l t || (s == t)) := by simp [logHas]
theorem has_addAt (l : List (ByteArray × Int)) (s t : ByteArray) (n : Int) : ((addAt l s n).any fun p => p.1 == t) = ((l.any fun p => p.1 == t) || (s == t)) := by
  rw [Bool.eq_iff_iff, Bool.or_eq_true, any_iff, any_iff, mem_addAt, bytes_iff]
  exact ⟨fun h => h.imp id Eq.symm, fun h => h.imp id Eq.symm⟩
/-- What a log and a board say alike, behind one more of both. -/
theorem same_snoc {bl lg : List (ByteArray × Int)} (h : ∀ t, logAt lg t = numAt bl t) (s : ByteArray) (n : Int) : ∀ t, logAt (lg ++ [(s, IntKind.i64.wrap (logAt lg s + n))]) t = numAt (addAt bl s n) t := fun t => by
  rw [logAt_snoc, numAt_addAt, h s, h t]
theorem has_snoc {bl lg : List (ByteArray × Int)} (h : ∀ t, logHas lg t = bl.any fun p => p.1 == t) (s : ByteArray) (v n : Int) : ∀ t, logHas (lg ++ [(s, v)]) t = (addAt bl s n).any fun p => p.1 == t := fun t => by
  rw [logHas_snoc, has_addAt, h t]
end W5
