/- A call: the part of the blocks that its arguments reach goes in, and comes back. -/
import Derived.Test.YtlcobcpgaoeijaaGreatSxJ
set_option linter.unusedVariables false
set_option linter.unusedSimpArgs false
namespace Sx
open Go
variable {P : Program} {E : Env} {ρ : Map} {S : Slots} {H : Heap} {a : Act} {w w' : World} {Z : Zone}
theorem place_none_go {h : Nat} : ∀ {σ : List Nat} {i : Nat}, place.go h σ i = none → h ∉ σ
  | [], _, _ => by simp
  | x :: r, i, e => by
    simp only [place.go] at e
    split at e
    · cases e
    · rename_i hx
      have := place_none_go e
      simp only [List.mem_cons, not_or]
      exact ⟨fun e => by subst e; simp at hx, this⟩
theorem place_mem {σ : List Nat} {h : Nat} (hm : h ∈ σ) : ∃ k, place σ h = some k := by
  cases e : place σ h with
  | some k => exact ⟨k, rfl⟩
  | none => exact absurd hm (place_none_go e)
theorem putAll_get {g : Nat → Option Nat} {mv : List Nat} : ∀ {σ : List Nat} {i : Nat} {os H H1 : Heap}, putAll g mv i σ os H = some H1 → nodupN σ = true → (∀ h ∈ σ, h < H.length) →
    H1.length = H.length ∧ (∀ k h : Nat, σ[k]? = some h → (memN (i + k) mv = true ∧ H1[h]? = some .dead) ∨ (memN (i + k) mv = false ∧ ∃ o o', os[k]? = some o ∧ SO.ren g o = some o' ∧ H1[h]? = some o')) ∧ ∀ h : Nat, h ∉ σ → H1[h]? = H[h]?
  | [], i, os, H, H1, e, _, _ => by
    have : H1 = H := by cases os <;> (simp only [putAll, Option.some.injEq] at e; exact e.symm)
    subst this
    exact ⟨rfl, fun k h hk => by simp at hk, fun h _ => rfl⟩
  | x :: r, i, [], H, H1, e, _, _ => by simp [putAll] at e
  | x :: r, i, o :: os, H, H1, e, hn, hlt => by
    simp only [nodupN, Bool.and_eq_true, Bool.not_eq_true'] at hn
    have hx : x ∉ r := fun hm => by rw [← memN_iff, hn.1] at hm; cases hm
    simp only [putAll] at e
    split at e
    · rename_i hm
      obtain ⟨h1, h2, h3⟩ := putAll_get e hn.2 (fun h hh => by simpa using hlt h (List.mem_cons_of_mem _ hh))
      refine ⟨by simpa using h1, fun k h hk => ?_, fun h hh => ?_⟩
      · cases k with
        | zero =>
          simp at hk; subst hk
          refine .inl ⟨hm, ?_⟩
          rw [h3 x hx]
          simp [hlt x (by simp)]
        | succ k =>
          simp at hk
          have := h2 k h hk
          rw [show i + 1 + k = i + (k + 1) by omega] at this
          simpa using this
      · simp only [List.mem_cons, not_or] at hh
        rw [h3 h hh.2, List.getElem?_set_ne (Ne.symm hh.1)]
    · rename_i hm
      split at e
      · rename_i o' ho'
        obtain ⟨h1, h2, h3⟩ := putAll_get e hn.2 (fun h hh => by simpa using hlt h (List.mem_cons_of_mem _ hh))
        refine ⟨by simpa using h1, fun k h hk => ?_, fun h hh => ?_⟩
        · cases k with
          | zero =>
            simp at hk; subst hk
            refine .inr ⟨by simpa using hm, o, o', rfl, ho', ?_⟩
            rw [h3 x hx]
            simp [hlt x (by simp)]
          | succ k =>
            simp at hk
            have := h2 k h hk
            rw [show i + 1 + k = i + (k + 1) by omega] at this
            simpa using this
        · simp only [List.mem_cons, not_or] at hh
          rw [h3 h hh.2, List.getElem?_set_ne (Ne.symm hh.1)]
      · cases e
theorem newOnes_mem {n k : Nat} {mv : List Nat} : ∀ {l : List Nat}, k ∈ newOnes n mv l ↔ k ∈ l ∧ (n ≤ k ∨ memN k mv = true)
  | [] => by simp [newOnes]
  | x :: r => by
    simp only [newOnes]
    split
    · rename_i h
      simp only [Bool.or_eq_true] at h
      have h' : n ≤ x ∨ memN x mv = true := h.imp Nat.le_of_ble_eq_true id
      simp only [List.mem_cons, newOnes_mem (l := r)]
      constructor
      · rintro (rfl | h2)
        · exact ⟨.inl rfl, h'⟩
        · exact ⟨.inr h2.1, h2.2⟩
      · rintro ⟨rfl | h2, h3⟩
        · exact .inl rfl
        · exact .inr ⟨h2, h3⟩
    · rename_i h
      simp only [newOnes_mem (l := r), List.mem_cons]
      constructor
      · exact fun h2 => ⟨.inr h2.1, h2.2⟩
      · rintro ⟨rfl | h2, h3⟩
        · refine absurd ?_ h
          simp only [Bool.or_eq_true]
          exact h3.imp Nat.ble_eq_true_of_le id
        · exact ⟨h2, h3⟩
theorem newOnes_nodup {n : Nat} {mv : List Nat} : ∀ {l : List Nat}, l.Nodup → (newOnes n mv l).Nodup
  | [], _ => by simp [newOnes]
  | x :: r, h => by
    simp only [newOnes]
    rw [List.nodup_cons] at h
    split
    · rw [List.nodup_cons]
      exact ⟨fun hm => h.1 (newOnes_mem.1 hm).1, newOnes_nodup h.2⟩
    · exact newOnes_nodup h.2
theorem uptoN_mem : ∀ {n k : Nat}, k ∈ uptoN n ↔ k < n
  | 0, k => by simp [uptoN]
  | n + 1, k => by
    simp only [uptoN, List.mem_append, List.mem_singleton, uptoN_mem]
    omega
theorem uptoN_nodup : ∀ n : Nat, (uptoN n).Nodup
  | 0 => by simp [uptoN]
  | n + 1 => by
    simp only [uptoN]
    rw [List.nodup_append]
    refine ⟨uptoN_nodup n, by simp, fun a ha b hb => ?_⟩
    simp only [List.mem_singleton] at hb
    have := uptoN_mem.1 ha
    omega
def PostC (E : Env) (ρ : Map) (H : Heap) (Q : SV × Heap → Prop) (e : Ending) (w' : World) : Prop :=
  ∃ E' ρ' sv H' v, Q (sv, H') ∧ e = .returned v ∧ Env.le E E' ∧ SV.rel E'.Z ρ' sv v ∧ Sat E' ρ' H' w' ∧ H.length ≤ H'.length ∧ ∀ k, k < H.length → ρ' k = ρ k
def CallOK (P : Program) (f : FuncId) (s : XSumm) : Prop :=
  (∀ args w, (callFunc f args).run P w = .ok (.enter f args) w) ∧
  ∀ (E : Env) (ρ : Map) (args : List SV) (H : Heap) (w : World) (vs : List Value) (Q : SV × Heap → Prop), Sat E ρ H w → SV.rels E.Z ρ args vs → (s args H).Leads Q →
    Calls P f vs.toArray w (PostC E ρ H Q)
open Classical in
noncomputable def others (w : World) (σ : List Nat) (ρ : Map) (H : Heap) : Zone := fun b => if ∃ h ∈ σ, ∃ o, H[h]? = some o ∧ SO.live o = true ∧ SO.owned o (ρ h) b then none else w.heap[b]?
def outer (E : Env) (σ : List Nat) (ρ : Map) (H : Heap) (k : Nat) : Prop := E.tk k ∨ ∃ h o, h ∉ σ ∧ H[h]? = some o ∧ o.live = true ∧ claimed (ρ h) k
theorem lift_core {s : Summ} {E : Env} {ρ : Map} {args : List SV} {H : Heap} {w : World} {vs : List Value} {Q : SV × Heap → Prop} (hs : Sat E ρ H w) (hargs : SV.rels E.Z ρ args vs) (h : (lift s args H).Leads Q) :
    ∃ Eσ ρσ args' Hs Q', Sat Eσ ρσ Hs w ∧ SV.rels Eσ.Z ρσ args' vs ∧ (s args' Hs).Leads Q' ∧ ∀ e w1, Post Eσ ρσ Hs Q' e w1 → PostC E ρ H Q e w1 := by
  unfold lift at h
  dsimp only at h
  generalize hσ : order H (SV.handless args) [] = σ at h
  split at h
  case isFalse => exact h.elim
  rename_i hn
  split at h
  case h_2 => exact h.elim
  rename_i args' Hs hra hpk
  rw [Tree.leads_bind] at h
  have hs1 := hs.picks hn hpk
  obtain ⟨hlenS, hgetS⟩ := picks_get hpk
  have hltσ : ∀ h ∈ σ, h < H.length := fun h hh => by
    obtain ⟨k, hk⟩ := List.mem_iff_getElem?.1 hh
    obtain ⟨o, _, ho, _⟩ := hgetS k h hk
    rcases Nat.lt_or_ge h H.length with h1 | h1
    · exact h1
    · rw [List.getElem?_eq_none h1] at ho; cases ho
  have hoth : ∀ b o, others w σ ρ H b = some o → w.heap[b]? = some o := fun b o hb => by
    unfold others at hb
    split at hb
    · cases hb
    · exact hb
  have hsE : Sat { E with F := others w σ ρ H, tk := outer E σ ρ H } (ρ.pick σ) Hs w := by
    refine ⟨hs.os, hs.tape, hs.output, hs1.free, hs1.objs, hs1.inj, ?_, hoth, ?_, ?_, ?_⟩
    · intro b o hb
      have hF := hs.zle _ _ hb
      show others w σ ρ H b = some o
      unfold others
      rw [if_neg]
      · exact hs.keep _ _ hF
      · rintro ⟨h, _, p, h2, h3, h4⟩
        rw [hs.apart _ _ _ h2 h3 h4] at hF; cases hF
    · intro k o b hk hl hb
      show others w σ ρ H b = none
      unfold others
      rw [if_pos]
      have hlt : k < σ.length := by
        rcases Nat.lt_or_ge k σ.length with h | h
        · exact h
        · rw [List.getElem?_eq_none (by omega)] at hk; cases hk
      obtain ⟨p, p', h1, h2, h3⟩ := hgetS k σ[k] (List.getElem?_eq_getElem hlt)
      rw [hk] at h3; injection h3 with h3; subst h3
      refine ⟨σ[k], List.getElem_mem _, p, h1, ?_, ?_⟩
      · rw [← SO.live_ren h2]; exact hl
      · have hb := SO.owned_ren h2 hb
        simpa only [Map.pick, List.getElem?_eq_getElem hlt] using hb
    · intro k o b hk hl hb ht
      have hlt : k < σ.length := by
        rcases Nat.lt_or_ge k σ.length with h | h
        · exact h
        · rw [List.getElem?_eq_none (by omega)] at hk; cases hk
      obtain ⟨p, p', h1, h2, h3⟩ := hgetS k σ[k] (List.getElem?_eq_getElem hlt)
      rw [hk] at h3; injection h3 with h3; subst h3
      rw [SO.live_ren h2] at hl
      have hb : claimed (ρ σ[k]) b := by simpa only [Map.pick, List.getElem?_eq_getElem hlt] using hb
      rcases ht with ht | ⟨h', o', g1, g2, g3, g4⟩
      · exact hs.fresh _ _ _ h1 hl hb ht
      · have := hs.inj _ _ _ _ _ g2 h1 g3 hl g4 hb
        rw [this] at g1; exact g1 (List.getElem_mem _)
    · rintro k (ht | ⟨h', o', g1, g2, g3, g4⟩)
      · exact hs.old _ ht
      · exact hs.claimed_heap g2 g3 g4
  have hargs' : SV.rels E.Z (ρ.pick σ) args' vs := SV.rels_ren pick_le hra hargs
  refine ⟨{ E with F := others w σ ρ H, tk := outer E σ ρ H }, ρ.pick σ, args', Hs, _, hsE, hargs', h, ?_⟩
  rintro e w1 ⟨Es, ρs, sv, Hs', mv, v, hq, he, hEs, hrel, hs2, hlen2, hkept⟩
  dsimp only at hq
  generalize hfr : newOnes σ.length mv (uptoN Hs'.length) = fr at hq
  split at hq
  case h_2 => exact hq.elim
  rename_i sv' H1 H2 hr1 hr2 hr3
  have hfrm : ∀ k, k ∈ fr ↔ k < Hs'.length ∧ (σ.length ≤ k ∨ memN k mv = true) := fun k => by rw [← hfr, newOnes_mem, uptoN_mem]
  have hfrn : fr.Nodup := by rw [← hfr]; exact newOnes_nodup (uptoN_nodup _)
  -- where each handle stands now
  let ρ' : Map := fun h => if h < H.length then ρ h else match fr[h - H.length]? with
    | some k => ρs k
    | none => none
  have hold : ∀ h, h < H.length → ρ' h = ρ h := fun h hh => by simp only [ρ', if_pos hh]
  have hnew : ∀ i k, fr[i]? = some k → ρ' (H.length + i) = ρs k := fun i k hk => by
    simp only [ρ']
    rw [if_neg (by omega), show H.length + i - H.length = i by omega, hk]
  have hle : Map.le ρ ρ' := fun h x hx => by
    rcases Nat.lt_or_ge h H.length with h1 | h1
    · rw [hold _ h1]; exact hx
    · rw [hs.free _ h1] at hx; cases hx
  have hin : ∀ k h, σ[k]? = some h → memN k mv = false → ρs k = ρ h := fun k h hk hm => by
    have hkl : k < Hs.length := by
      rw [hlenS]
      rcases Nat.lt_or_ge k σ.length with h | h
      · exact h
      · rw [List.getElem?_eq_none h] at hk; cases hk
    rw [hkept k hkl hm]
    simp only [Map.pick, hk]
  have hg : ∀ k h, back σ fr H.length k = some h → ∀ x, ρs k = some x → ρ' h = some x := fun k h hk x hx => by
    unfold back at hk
    split at hk
    · rename_i i hi
      injection hk with hk; subst hk
      rw [hnew _ _ (place_some hi)]; exact hx
    · rename_i hno
      have hno := place_none_go hno
      rw [hold _ (hltσ _ (List.mem_of_getElem? hk)), ← hin _ _ hk ?_]
      · exact hx
      · cases hm : memN k mv with
        | false => rfl
        | true =>
          refine absurd ((hfrm k).2 ⟨?_, .inr hm⟩) hno
          rcases Nat.lt_or_ge k Hs'.length with h1 | h1
          · exact h1
          · rw [hs2.free _ h1] at hx; cases hx
  obtain ⟨hl1, hg1, hg2⟩ := putAll_get hr2 hn hltσ
  simp only [Nat.zero_add] at hg1
  obtain ⟨hl2, hg3⟩ := picks_get hr3
  -- each block behind the call, where it comes from
  have hfrom : ∀ h (o : SO), (H1 ++ H2)[h]? = some o →
      (∃ k p, Hs'[k]? = some p ∧ SO.ren (back σ fr H.length) p = some o ∧ back σ fr H.length k = some h ∧ ρ' h = ρs k) ∨
      (h ∉ σ ∧ H[h]? = some o ∧ ρ' h = ρ h) ∨ o = .dead := fun h o ho => by
    rw [List.getElem?_append] at ho
    split at ho
    · rename_i hlt
      rw [hl1] at hlt
      by_cases hm : h ∈ σ
      · obtain ⟨k, hk⟩ := List.mem_iff_getElem?.1 hm
        rcases hg1 k h hk with ⟨_, h3⟩ | ⟨hmk, p, p', h1, h2, h3⟩
        · rw [h3] at ho; injection ho with ho; exact .inr (.inr ho.symm)
        · rw [h3] at ho; injection ho with ho; subst ho
          refine .inl ⟨k, p, h1, h2, ?_, by rw [hold _ hlt, hin _ _ hk hmk]⟩
          unfold back
          cases hp : place fr k with
          | none => exact hk
          | some i =>
            have := (hfrm k).1 (List.mem_of_getElem? (place_some hp))
            have hkl : k < σ.length := by
              rcases Nat.lt_or_ge k σ.length with h | h
              · exact h
              · rw [List.getElem?_eq_none h] at hk; cases hk
            rw [hmk] at this
            rcases this.2 with h | h
            · omega
            · cases h
      · rw [hg2 h hm] at ho
        exact .inr (.inl ⟨hm, ho, hold _ hlt⟩)
    · rename_i hge
      have hlt : h - H1.length < fr.length := by
        rw [← hl2]
        rcases Nat.lt_or_ge (h - H1.length) H2.length with h | h
        · exact h
        · rw [List.getElem?_eq_none h] at ho; cases ho
      have hk := List.getElem?_eq_getElem hlt
      obtain ⟨p, p', h1, h2, h3⟩ := hg3 _ _ hk
      rw [ho] at h3; injection h3 with h3; subst h3
      have hh : H.length + (h - H1.length) = h := by omega
      refine .inl ⟨_, p, h1, h2, ?_, by have := hnew _ _ hk; rwa [hh] at this⟩
      unfold back
      obtain ⟨j, hj⟩ := place_mem (List.getElem_mem hlt)
      rw [hj]
      have := place_some hj
      have hjl : j < fr.length := by
        rcases Nat.lt_or_ge j fr.length with h | h
        · exact h
        · rw [List.getElem?_eq_none h] at this; cases this
      have hji : j = h - H1.length := (List.getElem?_inj hjl hfrn).1 (by rw [this, hk])
      subst hji
      dsimp only
      rw [hh]
  have houtside : ∀ h p b, h ∉ σ → H[h]? = some p → p.live = true → claimed (ρ h) b → others w σ ρ H b = w.heap[b]? := fun h p b hm hp hl hb => by
    unfold others
    rw [if_neg]
    rintro ⟨h', hm', p', h2, h3, h4⟩
    exact hm (by rw [hs.inj _ _ _ _ _ hp h2 hl h3 hb (SO.owned_claimed h4)]; exact hm')
  have htkE : ∀ k, E.tk k → Es.tk k := fun k hk => by rw [hEs.tk]; exact .inl hk
  have htkO : ∀ h p k, h ∉ σ → H[h]? = some p → p.live = true → claimed (ρ h) k → Es.tk k := fun h p k a b c d => by rw [hEs.tk]; exact .inr ⟨h, p, a, b, c, d⟩
  have hFo : ∀ b x, E.F b = some x → others w σ ρ H b = some x := fun b x hF => by
    unfold others
    rw [if_neg]
    · exact hs.keep _ _ hF
    · rintro ⟨h', _, p', g2, g3, g4⟩
      rw [hs.apart _ _ _ g2 g3 g4] at hF; cases hF
  have hoF : ∀ b, others w σ ρ H b = none → E.F b = none := fun b hb => by
    cases hF : E.F b with
    | none => rfl
    | some x => rw [hFo _ _ hF] at hb; cases hb
  have hEsF : ∀ b, Es.F b = none → others w σ ρ H b = none := fun b hb => by
    cases ho : others w σ ρ H b with
    | none => rfl
    | some x => rw [hEs.f b x ho] at hb; cases hb
  have hEsz : ∀ b o, Es.Z b = some o → E.Z b = some o ∨ others w σ ρ H b = none := fun b o e => hEs.zold b o e
  -- what stays now
  let E' : Env := { E with Z := Es.Z, F := fun b => match E.F b with
    | some o => some o
    | none => Es.Z b }
  have hF1 : ∀ b o, E.F b = some o → E'.F b = some o := fun b o e => by simp only [E', e]
  have hF2 : ∀ b, E.F b = none → E'.F b = Es.Z b := fun b e => by simp only [E', e]
  have hle' : Env.le E E' := by
    refine ⟨hEs.z, hF1, fun b o e => ?_, fun b o e => ?_, rfl, rfl, rfl, rfl⟩
    · cases hF : E.F b with
      | none => rw [hF2 b hF] at e; exact .inr ⟨rfl, e⟩
      | some x => rw [hF1 b x hF] at e; exact .inl e
    · rcases hEsz b o e with h1 | h1
      · exact .inl h1
      · exact .inr (hoF b h1)
  refine ⟨E', ρ', sv', H1 ++ H2, v, hq, he, hle', SV.rel_ren hg hr1 hrel, ?_, by simp [hl1], hold⟩
  -- the state behind the call
  refine ⟨hs2.os.trans hEs.os, hs2.tape.trans hEs.tape, hs2.output.trans hEs.output, ?_, ?_, ?_, ?_, ?_, ?_, ?_, ?_⟩
  · intro h hh
    simp only [List.length_append, hl1, hl2] at hh
    simp only [ρ']
    rw [if_neg (by omega), List.getElem?_eq_none (by omega)]
  · intro h o ho
    rcases hfrom h o ho with ⟨k, p, h1, h2, h3, h4⟩ | ⟨hm, hp, h4⟩ | rfl
    · exact SO.rel_ren hg (fun x hx => by rw [h4]; exact hx) h2 (hs2.objs _ _ h1)
    · have hr := hs.objs _ _ hp
      by_cases hl : o.live = true
      · refine SO.rel_zone hEs.z (SO.rel_keep hr hle (fun b hb x hx => ?_))
        exact hs2.keep b x (hEs.f b x (by show others w σ ρ H b = some x; rw [houtside h o b hm hp hl (SO.owned_claimed hb)]; exact hx))
      · exact SO.rel_zone hEs.z (SO.rel_still hr hle (by simpa using hl))
    · trivial
  · intro h h' o o' b ho ho' hl hl' hb hb'
    rcases hfrom h o ho with ⟨k, p, h1, h2, h3, h4⟩ | ⟨hm, hp, h4⟩ | rfl
    · rcases hfrom h' o' ho' with ⟨k', p', h1', h2', h3', h4'⟩ | ⟨hm', hp', h4'⟩ | rfl
      · rw [SO.live_ren h2] at hl; rw [SO.live_ren h2'] at hl'
        rw [h4] at hb; rw [h4'] at hb'
        have := hs2.inj _ _ _ _ _ h1 h1' hl hl' hb hb'
        subst this
        rw [h3] at h3'; injection h3'
      · rw [SO.live_ren h2] at hl
        rw [h4] at hb; rw [h4'] at hb'
        exact absurd (htkO _ _ _ hm' hp' hl' hb') (hs2.fresh _ _ _ h1 hl hb)
      · cases hl'
    · rcases hfrom h' o' ho' with ⟨k', p', h1', h2', h3', h4'⟩ | ⟨hm', hp', h4'⟩ | rfl
      · rw [SO.live_ren h2'] at hl'
        rw [h4] at hb; rw [h4'] at hb'
        exact absurd (htkO _ _ _ hm hp hl hb) (hs2.fresh _ _ _ h1' hl' hb')
      · rw [h4] at hb; rw [h4'] at hb'
        exact hs.inj _ _ _ _ _ hp hp' hl hl' hb hb'
      · cases hl'
    · cases hl
  · intro b o e
    cases hF : E.F b with
    | none => rw [hF2 b hF]; exact e
    | some x =>
      rw [hF1 b x hF]
      rcases hEsz b o e with h1 | h1
      · rw [hs.zle _ _ h1] at hF; exact hF.symm
      · rw [hFo _ _ hF] at h1; cases h1
  · intro b o hb
    cases hF : E.F b with
    | none => rw [hF2 b hF] at hb; exact hs2.zone b o hb
    | some x =>
      rw [hF1 b x hF] at hb
      injection hb with hb; subst hb
      exact hs2.keep b x (hEs.f b x (hFo b x hF))
  · intro h o b ho hl hb
    rcases hfrom h o ho with ⟨k, p, h1, h2, h3, h4⟩ | ⟨hm, hp, h4⟩ | rfl
    · have hb := SO.owned_ren h2 hb
      rw [SO.live_ren h2] at hl
      rw [h4] at hb
      have h5 := hs2.apart _ _ _ h1 hl hb
      rw [hF2 b (hoF b (hEsF b h5))]
      cases hZ : Es.Z b with
      | none => rfl
      | some x => rw [hs2.zle _ _ hZ] at h5; cases h5
    · rw [h4] at hb
      have h5 := hs.apart _ _ _ hp hl hb
      rw [hF2 b h5]
      cases hZ : Es.Z b with
      | none => rfl
      | some x =>
        rcases hEsz b x hZ with h6 | h6
        · rw [hs.zle _ _ h6] at h5; cases h5
        · obtain ⟨_, h7⟩ := hs.claimed_heap hp hl (SO.owned_claimed hb)
          rw [houtside h o b hm hp hl (SO.owned_claimed hb), h7] at h6; cases h6
    · cases hl
  · intro h o b ho hl hb ht
    rcases hfrom h o ho with ⟨k, p, h1, h2, h3, h4⟩ | ⟨hm, hp, h4⟩ | rfl
    · rw [SO.live_ren h2] at hl
      rw [h4] at hb
      exact hs2.fresh _ _ _ h1 hl hb (htkE _ ht)
    · rw [h4] at hb
      exact hs.fresh _ _ _ hp hl hb ht
    · cases hl
  · intro k ht
    exact hs2.old _ (htkE _ ht)
theorem lift_sound {f : FuncId} {s : Summ} (hok : SummOK P f s) : CallOK P f (lift s) := by
  refine ⟨hok.1, fun E ρ args H w vs Q hs hargs h => ?_⟩
  obtain ⟨Eσ, ρσ, args', Hs, Q', h1, h2, h3, h4⟩ := lift_core hs hargs h
  exact (hok.2 Eσ ρσ args' Hs w vs Q' h1 h2 h3).mono h4
end Sx
