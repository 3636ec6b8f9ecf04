/- Plain laws of a board: names that are counted in any order. -/
import Derived.Test.YtabnecedcnlpcaaGreatXT6f
import Derived.Sort.Walk0
set_option linter.unusedVariables false
open Go Sx
namespace W5
def addAll (l : List (ByteArray × Int)) (ys : List ByteArray) (n : Int) : List (ByteArray × Int) := ys.foldl (fun l s => addAt l s n) l
theorem br_no {c : Bool} {p q : Prop} (h : c = false) (g : q) : br c p q := br_intro (fun e => by rw [h] at e; cases e) (fun _ => g)
theorem bytes_beq (a b : ByteArray) : (a == b) = decide (a = b) := by
  by_cases h : a = b
  · subst h; simp [beq_self_bytes]
  · rw [decide_eq_false h]
    cases h1 : a == b with
    | false => rfl
    | true => exact absurd (bytes_eq h1) h
theorem any_iff (l : List (ByteArray × Int)) (s : ByteArray) : l.any (fun p => p.1 == s) = true ↔ s ∈ l.map Prod.fst := by
  rw [List.any_eq_true, List.mem_map]
  constructor
  · rintro ⟨p, hp, h⟩; exact ⟨p, hp, bytes_eq h⟩
  · rintro ⟨p, hp, rfl⟩; exact ⟨p, hp, beq_self_bytes _⟩
theorem names_old {l : List (ByteArray × Int)} {s : ByteArray} (n : Int) (h : s ∈ l.map Prod.fst) : (addAt l s n).map Prod.fst = l.map Prod.fst := by
  unfold addAt
  have h1 := (any_iff l s).2 h
  rw [if_pos h1]
  obtain ⟨h2, h3⟩ := any_find h1
  rw [List.map_set]
  have h4 : l.findIdx (fun p => p.1 == s) < (l.map Prod.fst).length := by simpa using h2
  have : (l.map Prod.fst)[l.findIdx fun p => p.1 == s]'h4 = s := by
    rw [List.getElem_map]
    rw [List.getD_eq_getElem?_getD, List.getElem?_eq_getElem h2] at h3
    exact h3
  have h5 := List.set_getElem_self h4
  rw [this] at h5
  exact h5
theorem names_new {l : List (ByteArray × Int)} {s : ByteArray} (n : Int) (h : s ∉ l.map Prod.fst) : addAt l s n = l ++ [(s, IntKind.i64.wrap n)] := by
  unfold addAt
  have h1 : ¬ l.any (fun p => p.1 == s) = true := fun e => h ((any_iff l s).1 e)
  rw [if_neg h1]
theorem nodup_addAt {l : List (ByteArray × Int)} (h : (l.map Prod.fst).Nodup) (s : ByteArray) (n : Int) : ((addAt l s n).map Prod.fst).Nodup := by
  by_cases hs : s ∈ l.map Prod.fst
  · rw [names_old n hs]; exact h
  · rw [names_new n hs, List.map_append, List.nodup_append]
    refine ⟨h, by simp, fun a ha b hb e => ?_⟩
    simp at hb; subst hb; subst e; exact hs ha
theorem mem_addAt (l : List (ByteArray × Int)) (s t : ByteArray) (n : Int) : t ∈ (addAt l s n).map Prod.fst ↔ t ∈ l.map Prod.fst ∨ t = s := by
  by_cases h : s ∈ l.map Prod.fst
  · rw [names_old n h]
    constructor
    · exact .inl
    · rintro (h1 | rfl)
      · exact h1
      · exact h
  · rw [names_new n h]; simp
theorem length_addAt (l : List (ByteArray × Int)) (s : ByteArray) (n : Int) : (addAt l s n).length ≤ l.length + 1 := by
  unfold addAt; split <;> simp
theorem addAll_names {l : List (ByteArray × Int)} (h : (l.map Prod.fst).Nodup) (n : Int) : ∀ ys, ((addAll l ys n).map Prod.fst).Nodup ∧ (∀ t, t ∈ (addAll l ys n).map Prod.fst ↔ t ∈ l.map Prod.fst ∨ t ∈ ys) ∧ (addAll l ys n).length ≤ l.length + ys.length := by
  intro ys
  induction ys generalizing l with
  | nil => exact ⟨h, fun t => by simp [addAll], by simp [addAll]⟩
  | cons y ys ih =>
    obtain ⟨a, b, c⟩ := ih (nodup_addAt h y n)
    refine ⟨a, fun t => ?_, ?_⟩
    · show t ∈ (addAll (addAt l y n) ys n).map Prod.fst ↔ _
      rw [b t, mem_addAt]; simp only [List.mem_cons, or_assoc]
    · have := length_addAt l y n
      show (addAll (addAt l y n) ys n).length ≤ _
      simp only [List.length_cons]; omega
theorem addAll_perm (xs ys : List ByteArray) (n : Int) (h : ∀ t, t ∈ xs ↔ t ∈ ys) : ((addAll [] xs n).map Prod.fst).Perm ((addAll [] ys n).map Prod.fst) := by
  obtain ⟨a, b, _⟩ := addAll_names (l := []) (by simp) n xs
  obtain ⟨a', b', _⟩ := addAll_names (l := []) (by simp) n ys
  refine (List.perm_ext_iff_of_nodup a a').2 fun t => ?_
  rw [b, b', h t]
theorem sorted_perm {l l' : List (ByteArray × Int)} (h : (l.map Prod.fst).Perm (l'.map Prod.fst)) : sortedNames l = sortedNames l' := by
  unfold sortedNames
  have : (l.map fun p => p.1.data.toList).Perm (l'.map fun p => p.1.data.toList) := by
    have := h.map (fun b : ByteArray => b.data.toList)
    rw [List.map_map, List.map_map] at this
    exact this
  rw [mergeSort_of_perm this]
theorem sorted_length (l : List (ByteArray × Int)) : (sortedNames l).length = l.length := by simp [sortedNames]
theorem sorted_mem (l : List (ByteArray × Int)) (t : ByteArray) : t ∈ sortedNames l ↔ t ∈ l.map Prod.fst := by
  simp only [sortedNames, List.mem_map, List.mem_mergeSort]
  constructor
  · rintro ⟨x, ⟨p, hp, rfl⟩, rfl⟩; exact ⟨p, hp, by simp⟩
  · rintro ⟨p, hp, rfl⟩; exact ⟨_, ⟨p, hp, rfl⟩, by simp⟩
theorem sorted_rises {l : List (ByteArray × Int)} (h : (l.map Prod.fst).Nodup) (i j : Nat) (hij : i < j) (hj : j < (sortedNames l).length) : Op.bytesLess ((sortedNames l).getD i ByteArray.empty).data.toList ((sortedNames l).getD j ByteArray.empty).data.toList = true := by
  have tr : ∀ a b c : List UInt8, leB a b = true → leB b c = true → leB a c = true := fun a b c h1 h2 => by simp only [leB, decide_eq_true_eq] at *; exact List.le_trans h1 h2
  have to : ∀ a b : List UInt8, (leB a b || leB b a) = true := fun a b => by simp only [leB, Bool.or_eq_true, decide_eq_true_eq]; exact List.le_total a b
  have hp := List.pairwise_mergeSort tr to (l.map fun p => p.1.data.toList)
  have hn : ((l.map fun p => p.1.data.toList).mergeSort leB).Nodup := by
    refine (List.mergeSort_perm _ leB).nodup_iff.2 ?_
    have : (l.map fun p => p.1.data.toList) = (l.map Prod.fst).map (fun b => b.data.toList) := by rw [List.map_map]; rfl
    rw [this]
    refine List.pairwise_map.2 (h.imp fun {a b} hab e => hab ?_)
    exact klit_inj (by simp [klit, e])
  have hlen : ((l.map fun p => p.1.data.toList).mergeSort leB).length = (sortedNames l).length := by simp [sortedNames]
  rw [Go.Proofs.bytesLess_eq, decide_eq_true_eq]
  have e : ∀ k (hk : k < (sortedNames l).length), ((sortedNames l).getD k ByteArray.empty).data.toList = ((l.map fun p => p.1.data.toList).mergeSort leB)[k]'(by omega) := fun k hk => by
    rw [List.getD_eq_getElem?_getD, List.getElem?_eq_getElem hk]
    simp [sortedNames]
  rw [e i (by omega), e j hj]
  have h1 := List.pairwise_iff_getElem.1 hp i j (by omega) (by omega) hij
  have h2 := List.pairwise_iff_getElem.1 hn i j (by omega) (by omega) hij
  simp only [leB, decide_eq_true_eq] at h1
  exact Classical.byContradiction fun h3 => h2 (List.le_antisymm h1 (List.not_lt.1 h3))
theorem numAt_cons (a : ByteArray) (v : Int) (l : List (ByteArray × Int)) (t : ByteArray) : numAt ((a, v) :: l) t = if a = t then v else numAt l t := by
  unfold numAt
  rw [List.findIdx_cons]
  by_cases h : a = t
  · subst h; simp [beq_self_bytes]
  · have h1 : (a == t) = false := by rw [bytes_beq]; simp [h]
    simp [h1, h]
theorem numAt_nil (t : ByteArray) : numAt [] t = 0 := rfl
theorem numAt_snoc (l : List (ByteArray × Int)) (s t : ByteArray) (x : Int) (h : s ∉ l.map Prod.fst) : numAt (l ++ [(s, x)]) t = if s = t then x else numAt l t := by
  induction l with
  | nil => rw [List.nil_append, numAt_cons]
  | cons p l ih =>
    obtain ⟨a, v⟩ := p
    simp only [List.map_cons, List.mem_cons, not_or] at h
    rw [List.cons_append, numAt_cons, numAt_cons, ih h.2]
    by_cases e : a = t
    · have : s ≠ t := fun e2 => h.1 (e2.trans e.symm)
      simp [e, this]
    · simp [e]
theorem numAt_set (l : List (ByteArray × Int)) (s t : ByteArray) (x : Int) (h : s ∈ l.map Prod.fst) : numAt (l.set (l.findIdx fun p => p.1 == s) (s, x)) t = if s = t then x else numAt l t := by
  induction l with
  | nil => simp at h
  | cons p l ih =>
    obtain ⟨a, v⟩ := p
    rw [List.findIdx_cons]
    by_cases e : a = s
    · subst e
      simp only [beq_self_bytes, cond_true, List.set_cons_zero]
      rw [numAt_cons, numAt_cons]
      by_cases e2 : a = t <;> simp [e2]
    · have h1 : (a == s) = false := by rw [bytes_beq]; simp [e]
      simp only [h1, cond_false, List.set_cons_succ]
      have hm : s ∈ l.map Prod.fst := by
        simp only [List.map_cons, List.mem_cons] at h
        exact h.resolve_left fun e2 => e e2.symm
      rw [numAt_cons, numAt_cons, ih hm]
      by_cases e2 : a = t
      · have : s ≠ t := fun e3 => e (e2.trans e3.symm)
        simp [e2, this]
      · simp [e2]
theorem numAt_none {l : List (ByteArray × Int)} {s : ByteArray} (h : s ∉ l.map Prod.fst) : numAt l s = 0 := none_find (by
  cases e : l.any (fun p => p.1 == s) with
  | false => rfl
  | true => exact absurd ((any_iff l s).1 e) h)
/-- Which number a name has, behind one more. -/
theorem numAt_addAt (l : List (ByteArray × Int)) (s t : ByteArray) (n : Int) : numAt (addAt l s n) t = if s = t then IntKind.i64.wrap (numAt l s + n) else numAt l t := by
  by_cases h : s ∈ l.map Prod.fst
  · have h1 := (any_iff l s).2 h
    unfold addAt
    rw [if_pos h1, numAt_set _ _ _ _ h]
  · rw [names_new n h, numAt_snoc _ _ _ _ h, numAt_none h, Int.zero_add]
def more (n : Int) : Nat → Int → Int
  | 0, v => v
  | k + 1, v => more n k (IntKind.i64.wrap (v + n))
theorem numAt_addAll (n : Int) (t : ByteArray) : ∀ (ys : List ByteArray) (l : List (ByteArray × Int)), numAt (addAll l ys n) t = more n (ys.countP fun s => s == t) (numAt l t)
  | [], l => rfl
  | y :: ys, l => by
    show numAt (addAll (addAt l y n) ys n) t = _
    rw [numAt_addAll n t ys, numAt_addAt, List.countP_cons]
    by_cases h : y = t
    · subst h; simp [beq_self_bytes, more]
    · have h1 : (y == t) = false := by rw [bytes_beq]; simp [h]
      simp [h1, h]
theorem numAt_rev (xs : List ByteArray) (n : Int) (t : ByteArray) : numAt (addAll [] xs.reverse n) t = numAt (addAll [] xs n) t := by
  rw [numAt_addAll, numAt_addAll, List.countP_reverse]
theorem sorted_rev (xs : List ByteArray) (n : Int) : sortedNames (addAll [] xs.reverse n) = sortedNames (addAll [] xs n) := sorted_perm (addAll_perm _ _ _ fun t => by simp)
theorem length_rev (xs : List ByteArray) (n : Int) : (addAll [] xs.reverse n).length = (addAll [] xs n).length := by
  have := (addAll_perm xs.reverse xs n fun t => by simp).length_eq
  simpa using this
theorem addAll_few (xs : List ByteArray) (n : Int) : (addAll [] xs n).length ≤ xs.length := by
  have := (addAll_names (l := []) (by simp) n xs).2.2
  simpa using this
theorem addAll_mem (xs : List ByteArray) (n : Int) (t : ByteArray) : t ∈ sortedNames (addAll [] xs n) ↔ t ∈ xs := by
  rw [sorted_mem, (addAll_names (l := []) (by simp) n xs).2.1 t]; simp
theorem addAll_snoc (ys : List ByteArray) (s : ByteArray) (n : Int) : addAll [] (ys ++ [s]) n = addAt (addAll [] ys n) s n := by simp [addAll]
end W5
