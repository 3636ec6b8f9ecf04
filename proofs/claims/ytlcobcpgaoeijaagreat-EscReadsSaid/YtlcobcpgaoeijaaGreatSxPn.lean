/- Nil slices under handles of their own. -/
import Derived.Test.YtlcobcpgaoeijaaGreatSxP
set_option linter.unusedVariables false
set_option linter.unusedSimpArgs false
namespace Sx
open Go
variable {P : Program} {E : Env} {ρ : Map} {S S' : Slots} {H : Heap} {a : Act} {w w' : World} {Z : Zone}
theorem Sat.again {k : Nat} {o o' : SO} (hs : Sat E ρ H w) (ho : H[k]? = some o) (hl : o'.live = o.live) (hd : o'.deep = true → o.deep = true) (hr : SO.rel E.Z ρ w k o') (hsf : o'.soft = false → o.soft = false := by exact fun _ => rfl) : Sat E ρ (H.set k o') w := by
  have hget : ∀ h (x : SO), (H.set k o')[h]? = some x → (h = k ∧ x = o') ∨ (h ≠ k ∧ H[h]? = some x) := fun h x hx => by
    by_cases e : h = k
    · subst e
      rw [List.getElem?_set_self (getElem?_lt' ho)] at hx
      exact .inl ⟨rfl, by injection hx with hx; exact hx.symm⟩
    · rw [List.getElem?_set_ne (Ne.symm e)] at hx; exact .inr ⟨e, hx⟩
  have hold : ∀ h (x : SO), (H.set k o')[h]? = some x → ∃ y : SO, H[h]? = some y ∧ y.live = x.live ∧ (x.deep = true → y.deep = true) ∧ (x.soft = false → y.soft = false) := fun h x hx => by
    rcases hget h x hx with ⟨rfl, rfl⟩ | ⟨_, hx⟩
    · exact ⟨o, ho, hl.symm, hd, hsf⟩
    · exact ⟨x, hx, rfl, id, id⟩
  refine ⟨hs.os, hs.tape, hs.output, fun h hh => hs.free h (by simpa using hh), fun h x hx => ?_, fun h h' x x' b hx hx' hl1 hl2 hb hb' => ?_, hs.zle, hs.keep, fun h x b hx hl1 hb => ?_, fun h x b hx hl1 hb => ?_, hs.old⟩
  · rcases hget h x hx with ⟨rfl, rfl⟩ | ⟨_, hx⟩
    · exact hr
    · exact hs.objs _ _ hx
  · obtain ⟨y, hy, e1, _⟩ := hold h x hx
    obtain ⟨y', hy', e2, _⟩ := hold h' x' hx'
    exact hs.inj _ _ _ _ _ hy hy' (by rw [e1]; exact hl1) (by rw [e2]; exact hl2) hb hb'
  · obtain ⟨y, hy, e1, e2, e3⟩ := hold h x hx
    refine hs.apart _ _ _ hy (by rw [e1]; exact hl1) ?_
    obtain ⟨b', C', l', h1, h2⟩ := hb
    exact ⟨b', C', l', h1, h2.imp (fun h => ⟨e3 h.1, h.2⟩) (fun h => ⟨e2 h.1, h.2⟩)⟩
  · obtain ⟨y, hy, e1, _⟩ := hold h x hx
    exact hs.fresh _ _ _ hy (by rw [e1]; exact hl1) hb
def isNil : SV → Bool
  | .lit (.slice none 0 0) => true
  | _ => false
theorem isNil_eq {v : SV} (h : isNil v = true) : v = .lit (.slice none 0 0) := by
  unfold isNil at h
  split at h
  · rfl
  · cases h
def nilSlot (d : Nat × TypeId × Ty) (st : St) : St := if isNil (look st.S d.1) then { S := setSlot d.1 (.sl st.H.length d.2.2.width 0 0) st.S, H := st.H ++ [.row d.2.1 d.2.2 []], mv := st.mv, df := st.df } else st
def findNil (et : TypeId) (j : Nat) : Heap → Nat → Option Nat
  | [], _ => none
  | .cells et' cs :: r, k => if Nat.beq et et' && (match cs[j]? with
      | some v => isNil v
      | none => false) then some k else findNil et j r (k + 1)
  | _ :: r, k => findNil et j r (k + 1)
def nilObj (e : Nat) (ty : Ty) : SO := if Nat.blt e 1000000 then .row e ty [] else if Nat.blt e 1000000000000 then .kept (e % 1000000) (e / 1000000 - 1) ty [] else match ty.col with
  | some _ => .drow (e % 1000000) ((e - 1000000000000) / 1000000 - 1) ty []
  | none => .dead
def nilWd (e : Nat) (ty : Ty) : Nat := if Nat.blt e 1000000 then ty.width else if Nat.blt e 1000000000000 then 1 else ty.width
theorem nilObj_rel {Z : Zone} {ρ : Map} {w : World} {h e : Nat} {ty : Ty} (hn : ρ h = some .nil) : SO.rel Z ρ w h (nilObj e ty) := by
  unfold nilObj
  split
  · exact .inl ⟨hn, rfl⟩
  · split
    · exact .inl ⟨hn, rfl⟩
    · split
      · rename_i c hc
        exact ⟨c, hc, .inl ⟨hn, rfl⟩⟩
      · trivial
def nilCell (d : TypeId × Nat × TypeId × Ty) (st : St) : St := match findNil d.1 d.2.1 st.H 0 with
  | some k => match st.H[k]? with
    | some (.cells et cs) => match cs[d.2.1]? with
      | some v => if isNil v then { S := st.S, H := (st.H ++ [nilObj d.2.2.1 d.2.2.2]).set k (.cells et (cs.set d.2.1 (.sl st.H.length (nilWd d.2.2.1 d.2.2.2) 0 0))), mv := st.mv, df := st.df } else st
      | none => st
    | _ => st
  | none => st
variable {n0 nt : Nat} {ρ0 : Map} {st : St}
theorem Inv.nilSlot {d : Nat × TypeId × Ty} (hi : Inv E n0 ρ0 nt st a w ρ) : ∃ ρ', Inv E n0 ρ0 nt (nilSlot d st) a w ρ' := by
  obtain ⟨E1, hE, hi⟩ := hi
  unfold Sx.nilSlot
  split
  · rename_i hn
    have hn := isNil_eq hn
    have hle := Map.le_put (x := .nil) (hi.sat.free _ (Nat.le_refl _))
    refine ⟨ρ.put st.H.length .nil, E1, hE, hi.sat.allocNil, fun t => ?_, hi.size, hi.defs.mono (fun _ _ h => h) hle, by have := hi.len; simp; omega, fun k hk hm => ?_⟩
    · rw [look_set]
      split
      · rename_i e; subst e
        have := rel_unlit (hi.held d.1) hn
        rw [this]
        simp only [SV.rel]
        exact .inl ⟨Map.put_same _ _ _, trivial, trivial, trivial⟩
      · exact SV.rel_mono hle (hi.held t)
    · have := hi.len
      rw [put_ne (by omega)]; exact hi.same k hk hm
  · exact ⟨ρ, E1, hE, hi⟩
theorem Inv.nilCell {d : TypeId × Nat × TypeId × Ty} (hi : Inv E n0 ρ0 nt st a w ρ) : ∃ ρ', Inv E n0 ρ0 nt (nilCell d st) a w ρ' := by
  obtain ⟨E1, hE, hi⟩ := hi
  unfold Sx.nilCell
  split
  case h_2 => exact ⟨ρ, E1, hE, hi⟩
  split
  case h_2 => exact ⟨ρ, E1, hE, hi⟩
  rename_i k _ et cs hk
  split
  case h_2 => exact ⟨ρ, E1, hE, hi⟩
  rename_i v hv
  split
  case isFalse => exact ⟨ρ, E1, hE, hi⟩
  rename_i hn
  have hn := isNil_eq hn
  subst hn
  have hle := Map.le_put (x := .nil) (hi.sat.free _ (Nat.le_refl _))
  have hs1 := hi.sat.allocNil' (ob := nilObj d.2.2.1 d.2.2.2) (nilObj_rel (Map.put_same _ _ _))
  have hk' := heap_grow (l := [nilObj d.2.2.1 d.2.2.2]) hk
  refine ⟨ρ.put st.H.length .nil, E1, hE, ?_, hi.held.mono hle, hi.size, hi.defs.mono (fun _ _ h => h) hle, by have := hi.len; simp; omega, fun k hk hm => ?_⟩
  · refine hs1.again hk' rfl (fun h => h) ?_
    have ho := hs1.objs _ _ hk'
    simp only [SO.rel] at ho ⊢
    obtain ⟨b, C, vs, h1, h2, h3⟩ := ho
    refine ⟨b, C, vs, h1, h2, ?_⟩
    obtain ⟨u, hu, hrel⟩ := rels_get h3 hv
    have := rel_lit hrel; subst this
    exact rels_set h3 hu (by simp only [SV.rel]; exact .inl ⟨Map.put_same _ _ _, trivial, trivial, trivial⟩)
  · have := hi.len
    rw [put_ne (by omega)]; exact hi.same k hk hm
def nilAll (ds : List (Nat × TypeId × Ty)) (es : List (TypeId × Nat × TypeId × Ty)) (st : St) : St := es.foldl (fun st d => nilCell d st) (ds.foldl (fun st d => nilSlot d st) st)
theorem Inv.nilAll {ds : List (Nat × TypeId × Ty)} {es : List (TypeId × Nat × TypeId × Ty)} (hi : Inv E n0 ρ0 nt st a w ρ) : ∃ ρ', Inv E n0 ρ0 nt (nilAll ds es st) a w ρ' := by
  unfold Sx.nilAll
  have h1 : ∀ (ds : List (Nat × TypeId × Ty)) (st : St) (ρ : Map), Inv E n0 ρ0 nt st a w ρ → ∃ ρ', Inv E n0 ρ0 nt (ds.foldl (fun st d => Sx.nilSlot d st) st) a w ρ' := by
    intro ds
    induction ds with
    | nil => exact fun st ρ hi => ⟨ρ, hi⟩
    | cons d ds ih =>
      intro st ρ hi
      obtain ⟨ρ', hi'⟩ := hi.nilSlot (d := d)
      exact ih _ ρ' hi'
  have h2 : ∀ (es : List (TypeId × Nat × TypeId × Ty)) (st : St) (ρ : Map), Inv E n0 ρ0 nt st a w ρ → ∃ ρ', Inv E n0 ρ0 nt (es.foldl (fun st d => Sx.nilCell d st) st) a w ρ' := by
    intro es
    induction es with
    | nil => exact fun st ρ hi => ⟨ρ, hi⟩
    | cons d ds ih =>
      intro st ρ hi
      obtain ⟨ρ', hi'⟩ := hi.nilCell (d := d)
      exact ih _ ρ' hi'
  obtain ⟨ρ1, hi1⟩ := h1 ds st ρ hi
  exact h2 es _ ρ1 hi1
end Sx
