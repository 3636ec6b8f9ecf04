/- States: new blocks, stores, appends. -/
import Derived.Test.YtlcobcpgaoeijaaGreatSxF
import Derived.Lib.AppendStr
set_option linter.unusedVariables false
set_option linter.unusedSimpArgs false
namespace Sx
open Go
variable {P : Program} {E : Env} {ρ : Map} {S : Slots} {H : Heap} {a : Act} {w w' : World} {Z : Zone}
theorem block_lt {b : Nat} {o : Obj} (h : w.heap[b]? = some o) : b < w.heap.size := (Array.getElem?_eq_some_iff.1 h).1
theorem apart_heap {V W : Nat → Option Obj} {e2 : TypeId} {t : Ty} {k : Nat} : ∀ {r : List (List t.den)} {vs : List Value} {l : List Nat}, t.apart V W e2 r vs l → k ∈ l → ∃ o, W k = some o
  | [], _, _, h, hk => by obtain ⟨_, rfl⟩ := h; cases hk
  | L :: r, vs, l, h, hk => by
    obtain ⟨v, us, h0, h⟩ := h
    rcases h with ⟨h1, h2, h3⟩ | ⟨b, o, cap, arr, l', h1, h2, h0, h3, h4, h5, h6, h7, h8⟩
    · exact apart_heap h3 hk
    · subst h1
      rcases List.mem_cons.1 hk with rfl | hk
      · exact ⟨_, h3⟩
      · exact apart_heap h8 hk
theorem dview_mono {et e2 : TypeId} {t : Ty} {l : List t.den} {g j : Nat} {x : Option (Nat × Nat)} {h : Nat} {ρ' : Map} (hr : SO.rel Z ρ w h (.dview et e2 t l g j x)) (hl : Map.le ρ ρ') : SO.rel Z ρ' w' h (.dview et e2 t l g j x) := by
  simp only [SO.rel] at *
  obtain ⟨c, hc, ⟨h1, h2⟩ | ⟨b, C, bs, vs, gb, h1, h2, h3, h4, h5, h6, h7, h8, h10⟩⟩ := hr
  · exact ⟨c, hc, .inl ⟨hl _ _ h1, h2⟩⟩
  · refine ⟨c, hc, .inr ⟨b, C, bs, vs, gb, hl _ _ h1, h2, h3, h4, h5, h6, hl _ _ h7, h8, ?_⟩⟩
    match x with
    | none => trivial
    | some (k, n) =>
      obtain ⟨i, v, a1, a2, a3⟩ := h10
      exact ⟨i, v, a1, a2, SV.rel_mono hl a3⟩
theorem SO.rel_keep {o : SO} {h : Nat} {ρ' : Map} (hr : SO.rel Z ρ w h o) (hl : Map.le ρ ρ') (hk : ∀ k, o.owned (ρ h) k → ∀ x, w.heap[k]? = some x → w'.heap[k]? = some x) : SO.rel Z ρ' w' h o := by
  cases o with
  | cells et cs =>
    simp only [SO.rel] at *
    obtain ⟨b, C, vs, h1, h2, h3⟩ := hr
    exact ⟨b, C, vs, hl _ _ h1, hk _ (SO.owned_main h1) _ h2, SV.rels_mono hl h3⟩
  | row et t l =>
    simp only [SO.rel] at *
    rcases hr with ⟨h1, h2⟩ | ⟨b, C, vs, h1, h2, h3⟩
    · exact .inl ⟨hl _ _ h1, h2⟩
    · exact .inr ⟨b, C, vs, hl _ _ h1, hk _ (SO.owned_main h1) _ h2, h3⟩
  | dead => trivial
  | view et t l =>
    simp only [SO.rel] at *
    rcases hr with ⟨h1, h2⟩ | ⟨b, C, bs, vs, h1, h2, h3⟩
    · exact .inl ⟨hl _ _ h1, h2⟩
    · exact .inr ⟨b, C, bs, vs, hl _ _ h1, h2, h3⟩
  | kept et e2 t l =>
    simp only [SO.rel] at *
    rcases hr with ⟨h1, h2⟩ | ⟨b, C, bs, vs, us, h1, h2, h3⟩
    · exact .inl ⟨hl _ _ h1, h2⟩
    · exact .inr ⟨b, C, bs, vs, us, hl _ _ h1, hk _ (SO.owned_main h1) _ h2, h3⟩
  | lists et e2 t A B x D =>
    simp only [SO.rel] at *
    rcases hr with ⟨h1, h2⟩ | ⟨b, C, ps, ds, vs, ua, ub, ux, ud, rest, g1, g2, g3, g4, g5, g6, g7, g8, g9, g10, g11⟩
    · exact .inl ⟨hl _ _ h1, h2⟩
    · have hin : ∀ k, k ∈ ps ++ ds → ∀ x, w.heap[k]? = some x → w'.heap[k]? = some x := fun k hm => hk k ⟨b, C, ps ++ ds, g1, .inr ⟨rfl, hm⟩⟩
      refine .inr ⟨b, C, ps, ds, vs, ua, ub, ux, ud, rest, hl _ _ g1, hk _ (SO.owned_main g1) _ g2, g3, g4, g5, g6, g7, g8, Ty.apart_zone (fun k hm => hin k (by simp [hm])) g9, ?_, Ty.apart_zone (fun k hm => hin k (by simp [hm])) g11⟩
      match x with
      | none => exact g10
      | some (k, n) =>
        obtain ⟨v, a1, a2⟩ := g10
        exact ⟨v, a1, SV.rel_mono hl a2⟩
  | tmap R et l =>
    simp only [SO.rel] at *
    obtain ⟨b, C, bs, o, h1, h2, h3, h4, h5, h6⟩ := hr
    exact ⟨b, C, bs, o, hl _ _ h1, hk _ (SO.owned_main h1) _ h2, h3, h4, h5, fun i hi hb => hk _ ⟨b, C, bs, h1, .inr ⟨rfl, List.getElem_mem _⟩⟩ _ (h6 i hi hb)⟩
  | imap R l =>
    simp only [SO.rel] at *
    obtain ⟨b, C, o, h1, h2, h3⟩ := hr
    exact ⟨b, C, o, hl _ _ h1, hk _ (SO.owned_main h1) _ h2, h3⟩
  | alias h2 i =>
    simp only [SO.rel] at *
    obtain ⟨b, C, l, b2, C2, bs, h1, h2, h3⟩ := hr
    exact ⟨b, C, l, b2, C2, bs, hl _ _ h1, hl _ _ h2, h3⟩
  | drow et e2 t l =>
    simp only [SO.rel] at *
    obtain ⟨c, hc, ⟨h1, h2⟩ | ⟨b, C, ds, vs, h1, h2, h3⟩⟩ := hr
    · exact ⟨c, hc, .inl ⟨hl _ _ h1, h2⟩⟩
    · exact ⟨c, hc, .inr ⟨b, C, ds, vs, hl _ _ h1, hk _ (SO.owned_main h1) _ h2, h3⟩⟩
  | dview et e2 t l g j x => exact dview_mono hr hl
  | hold et t l =>
    simp only [SO.rel] at *
    rcases hr with ⟨h1, h2⟩ | ⟨b, C, bs, vs, h1, h2, h3⟩
    · exact .inl ⟨hl _ _ h1, h2⟩
    · exact .inr ⟨b, C, bs, vs, hl _ _ h1, h2, h3⟩
  | prow et e2 t x g n =>
    simp only [SO.rel] at *
    obtain ⟨c, b, vs, v, g1, g2, g3, g4, g5, g6, g7, g8⟩ := hr
    exact ⟨c, b, vs, v, g1, hl _ _ g2, hk _ (SO.owned_main g2) _ g3, g4, g5, g6, g7, SV.rel_mono hl g8⟩
theorem SO.rel_still {o : SO} {h : Nat} {ρ' : Map} (hr : SO.rel Z ρ w h o) (hl : Map.le ρ ρ') (ho : o.live = false) : SO.rel Z ρ' w' h o := by
  cases o with
  | dead => trivial
  | view et t l =>
    simp only [SO.rel] at *
    rcases hr with ⟨h1, h2⟩ | ⟨b, C, bs, vs, h1, h2, h3⟩
    · exact .inl ⟨hl _ _ h1, h2⟩
    · exact .inr ⟨b, C, bs, vs, hl _ _ h1, h2, h3⟩
  | cells _ _ => cases ho
  | row _ _ _ => cases ho
  | kept _ _ _ _ => cases ho
  | lists _ _ _ _ _ _ _ => cases ho
  | tmap _ _ _ => cases ho
  | imap _ _ => cases ho
  | alias h2 i =>
    simp only [SO.rel] at *
    obtain ⟨b, C, l, b2, C2, bs, h1, h2, h3⟩ := hr
    exact ⟨b, C, l, b2, C2, bs, hl _ _ h1, hl _ _ h2, h3⟩
  | drow _ _ _ _ => cases ho
  | hold _ _ _ => cases ho
  | prow _ _ _ _ _ _ => cases ho
  | dview et e2 t l g j x => exact dview_mono hr hl
theorem SO.at_heap {o : SO} {h b C : Nat} {bs : List Nat} (hz : ∀ b o, Z b = some o → w.heap[b]? = some o) (hr : SO.rel Z ρ w h o) (hl : o.live = true) (hb : ρ h = some (.at b C bs)) : ∃ x, w.heap[b]? = some x := by
  cases o with
  | cells et cs =>
    simp only [SO.rel] at hr
    obtain ⟨b', C', vs, h1, h2, h3⟩ := hr
    rw [hb] at h1; injection h1 with h1; injection h1 with e1 e2; subst e1
    exact ⟨_, h2⟩
  | row et t l =>
    simp only [SO.rel] at hr
    rcases hr with ⟨h1, h2⟩ | ⟨b', C', vs, h1, h2, h3⟩
    · rw [hb] at h1; cases h1
    · rw [hb] at h1; injection h1 with h1; injection h1 with e1 e2; subst e1
      exact ⟨_, h2⟩
  | dead => cases hl
  | view _ _ _ => cases hl
  | kept et e2 t l =>
    simp only [SO.rel] at hr
    rcases hr with ⟨h1, h2⟩ | ⟨b', C', bs', vs, us, h1, h2, h3⟩
    · rw [hb] at h1; cases h1
    · rw [hb] at h1; injection h1 with h1; injection h1 with e1 e2; subst e1
      exact ⟨_, h2⟩
  | lists et e2 t A B x D =>
    simp only [SO.rel] at hr
    rcases hr with ⟨h1, h2⟩ | ⟨b', C', ps, ds, vs, ua, ub, ux, ud, rest, g1, g2, g3⟩
    · rw [hb] at h1; cases h1
    · rw [hb] at g1; injection g1 with g1; injection g1 with e1 e2; subst e1
      exact ⟨_, g2⟩
  | tmap R et l =>
    simp only [SO.rel] at hr
    obtain ⟨b', C', bs', x, h1, h2, h3⟩ := hr
    rw [hb] at h1; injection h1 with h1; injection h1 with e1 e2; subst e1
    exact ⟨_, h2⟩
  | imap R l =>
    simp only [SO.rel] at hr
    obtain ⟨b', C', x, h1, h2, h3⟩ := hr
    rw [hb] at h1; injection h1 with h1; injection h1 with e1 e2; subst e1
    exact ⟨_, h2⟩
  | alias _ _ => cases hl
  | drow et e2 t l =>
    simp only [SO.rel] at hr
    obtain ⟨c, hc, ⟨h1, h2⟩ | ⟨b', C', ds, vs, h1, h2, h3⟩⟩ := hr
    · rw [hb] at h1; cases h1
    · rw [hb] at h1; injection h1 with h1; injection h1 with e1 e2; subst e1
      exact ⟨_, h2⟩
  | dview _ _ _ _ _ _ _ => cases hl
  | hold et t l =>
    simp only [SO.rel] at hr
    rcases hr with ⟨h1, h2⟩ | ⟨b', C', bs', vs, h1, h2, h3⟩
    · rw [hb] at h1; cases h1
    · rw [hb] at h1; injection h1 with h1; injection h1 with e1 e2; subst e1
      exact ⟨_, hz _ _ h2⟩
  | prow et e2 t x g n =>
    simp only [SO.rel] at hr
    obtain ⟨c, b', vs, v, g1, g2, g3, g4⟩ := hr
    rw [hb] at g2; injection g2 with g2; injection g2 with e1 e2; subst e1
    exact ⟨_, g3⟩
theorem Sat.claimed_heap {h k : Nat} {o : SO} (hs : Sat E ρ H w) (ho : H[h]? = some o) (hl : o.live = true) (hk : claimed (ρ h) k) : ∃ x, w.heap[k]? = some x := by
  obtain ⟨b, C, l, hb, hk⟩ := hk
  have hr := hs.objs _ _ ho
  rcases hk with rfl | hk
  · exact SO.at_heap hs.zone hr hl hb
  · cases o with
    | cells et cs =>
      simp only [SO.rel] at hr
      obtain ⟨b', C', vs, h1, h2, h3⟩ := hr
      rw [hb] at h1; injection h1 with h1; injection h1 with e1 e2 e3; subst e3
      cases hk
    | row et t l' =>
      simp only [SO.rel] at hr
      rcases hr with ⟨h1, h2⟩ | ⟨b', C', vs, h1, h2, h3⟩
      · rw [hb] at h1; cases h1
      · rw [hb] at h1; injection h1 with h1; injection h1 with e1 e2 e3; subst e3
        cases hk
    | dead => cases hl
    | view _ _ _ => cases hl
    | kept et e2 t l' =>
      simp only [SO.rel] at hr
      rcases hr with ⟨h1, h2⟩ | ⟨b', C', bs', vs, us, h1, h2, h3, h4, h5, h6, h7, h8, h9⟩
      · rw [hb] at h1; cases h1
      · rw [hb] at h1; injection h1 with h1; injection h1 with e1 e2 e3; subst e3
        obtain ⟨o, ho⟩ := apart_heap h9 hk
        exact ⟨o, hs.zone _ _ ho⟩
    | lists et e2 t A B x D =>
      simp only [SO.rel] at hr
      rcases hr with ⟨h1, h2⟩ | ⟨b', C', ps, ds, vs, ua, ub, ux, ud, rest, g1, g2, g3, g4, g5, g6, g7, g8, g9, g10, g11⟩
      · rw [hb] at h1; cases h1
      · rw [hb] at g1; injection g1 with g1; injection g1 with e1 e2 e3; subst e3
        rcases List.mem_append.1 hk with hk | hk
        · exact apart_heap g9 hk
        · exact apart_heap g11 hk
    | tmap R et l =>
      simp only [SO.rel] at hr
      obtain ⟨b', C', bs', x, h1, h2, h3, h4, h5, h6⟩ := hr
      rw [hb] at h1; injection h1 with h1; injection h1 with e1 e2 e3; subst e3
      obtain ⟨i, hi, rfl⟩ := List.getElem_of_mem hk
      exact ⟨_, h6 i (by omega) hi⟩
    | imap R l =>
      simp only [SO.rel] at hr
      obtain ⟨b', C', x, h1, h2, h3⟩ := hr
      rw [hb] at h1; injection h1 with h1; injection h1 with e1 e2 e3; subst e3
      cases hk
    | alias _ _ => cases hl
    | drow et e2 t l =>
      simp only [SO.rel] at hr
      obtain ⟨c, hc, ⟨h1, h2⟩ | ⟨b', C', ds, vs, h1, h2, h3, h4, h5, h6, h7, h8⟩⟩ := hr
      · rw [hb] at h1; cases h1
      · rw [hb] at h1; injection h1 with h1; injection h1 with e1 e2 e3; subst e3
        obtain ⟨o, ho⟩ := apart_heap h8 hk
        exact ⟨o, hs.zone _ _ ho⟩
    | dview _ _ _ _ _ _ _ => cases hl
    | hold et t l =>
      simp only [SO.rel] at hr
      rcases hr with ⟨h1, h2⟩ | ⟨b', C', bs', vs, h1, h2, h3, h4, h5, h6, h7, h8⟩
      · rw [hb] at h1; cases h1
      · rw [hb] at h1; injection h1 with h1; injection h1 with e1 e2 e3; subst e3
        obtain ⟨o, ho⟩ := h8 k hk
        exact ⟨o, hs.zone _ _ ho⟩
    | prow et e2 t x g n =>
      simp only [SO.rel] at hr
      obtain ⟨c, b', vs, v, g1, g2, g3, g4⟩ := hr
      rw [hb] at g2; injection g2 with g2; injection g2 with e1 e2 e3; subst e3
      cases hk
theorem put_ne {h k : Nat} {x : Blk} (e : k ≠ h) : ρ.put h x k = ρ k := by simp [Map.put, e]
theorem claimed_put_same {h k b C : Nat} (hk : claimed (ρ.put h (.at b C []) h) k) : k = b := claimed_flat (Map.put_same _ _ _) hk
theorem Sat.alloc {C : Nat} {ob : SO} {xo : Obj} (hs : Sat E ρ H w) (hob : SO.rel E.Z (ρ.put H.length (.at w.heap.size C [])) (w.alloc xo) H.length ob) :
    Sat E (ρ.put H.length (.at w.heap.size C [])) (H ++ [ob]) (w.alloc xo) := by
  have hle := Map.le_put (x := .at w.heap.size C []) (hs.free _ (Nat.le_refl _))
  have hkeep : ∀ (b : Nat) (x : Obj), w.heap[b]? = some x → (w.alloc xo).heap[b]? = some x := fun b x hx => by
    rw [heap_alloc_old w _ (block_lt hx)]; exact hx
  have hget : ∀ h (o : SO), (H ++ [ob])[h]? = some o → (h < H.length ∧ H[h]? = some o) ∨ (h = H.length ∧ o = ob) := fun h o ho => by
    rw [List.getElem?_append] at ho
    split at ho
    · exact .inl ⟨by assumption, ho⟩
    · have hh : h = H.length := by
        rcases Nat.lt_or_ge H.length h with h1 | h1
        · rw [List.getElem?_eq_none (by simp; omega)] at ho; cases ho
        · omega
      subst hh; simp at ho; exact .inr ⟨rfl, ho.symm⟩
  refine ⟨hs.os, hs.tape, hs.output, ?_, ?_, ?_, hs.zle, ?_, ?_, ?_, ?_⟩
  · intro h hh
    simp at hh
    rw [put_ne (by omega)]; exact hs.free _ (by omega)
  · intro h o ho
    rcases hget h o ho with ⟨h1, h2⟩ | ⟨rfl, rfl⟩
    · exact SO.rel_keep (hs.objs _ _ h2) hle (fun b _ => hkeep b)
    · exact hob
  · intro h h' o o' b ho ho' hl hl' hb hb'
    rcases hget h o ho with ⟨h1, h2⟩ | ⟨rfl, rfl⟩
    · rw [put_ne (by omega)] at hb
      obtain ⟨_, hx⟩ := hs.claimed_heap h2 hl hb
      rcases hget h' o' ho' with ⟨h1', h2'⟩ | ⟨rfl, rfl⟩
      · rw [put_ne (by omega)] at hb'
        exact hs.inj _ _ _ _ _ h2 h2' hl hl' hb hb'
      · have := claimed_put_same hb'
        have := block_lt hx; omega
    · have e := claimed_put_same hb
      rcases hget h' o' ho' with ⟨h1', h2'⟩ | ⟨rfl, rfl⟩
      · rw [put_ne (by omega)] at hb'
        obtain ⟨_, hx⟩ := hs.claimed_heap h2' hl' hb'
        have := block_lt hx; omega
      · rfl
  · intro b o hb
    exact hkeep _ _ (hs.keep _ _ hb)
  · intro h o b ho hl hb
    rcases hget h o ho with ⟨h1, h2⟩ | ⟨rfl, rfl⟩
    · rw [put_ne (by omega)] at hb
      exact hs.apart _ _ _ h2 hl hb
    · have e := claimed_put_same (SO.owned_claimed hb)
      subst e
      cases hF : E.F w.heap.size with
      | none => rfl
      | some x => have := block_lt (hs.keep _ _ hF); omega
  · intro h o b ho hl hb ht
    rcases hget h o ho with ⟨h1, h2⟩ | ⟨rfl, rfl⟩
    · rw [put_ne (by omega)] at hb
      exact hs.fresh _ _ _ h2 hl hb ht
    · have e := claimed_put_same hb
      subst e
      obtain ⟨x, hx⟩ := hs.old _ ht
      have := block_lt hx; omega
  · intro k ht
    obtain ⟨x, hx⟩ := hs.old _ ht
    exact ⟨x, hkeep _ _ hx⟩
theorem Sat.made {sv : SV} {v : Value} {on : Option SO} (hs : Sat E ρ H w) (hm : Made E ρ H w sv v w' on) : ∃ ρ', Map.le ρ ρ' ∧ Sat E ρ' (H ++ on.toList) w' ∧ SV.rel E.Z ρ' sv v ∧ ∀ k, k < H.length → ρ' k = ρ k := by
  cases on with
  | none =>
    obtain ⟨rfl, h⟩ := hm
    exact ⟨ρ, Map.le_refl ρ, by simpa using hs, h, fun _ _ => rfl⟩
  | some ob =>
    obtain ⟨arr, et, C, rfl, h1, h2, h3⟩ := hm
    exact ⟨_, Map.le_put (hs.free _ (Nat.le_refl _)), by simpa using hs.alloc h2, h1, fun k hk => put_ne (by omega)⟩
theorem Sat.set {h b C : Nat} {o o' : SO} (hs : Sat E ρ H w) (ho : H[h]? = some o) (hl : o.live = true) (hb : ρ h = some (.at b C []))
    (hos : w'.os = w.os) (htape : w'.tape = w.tape) (hout : w'.output = w.output)
    (hother : ∀ k, k ≠ b → w'.heap[k]? = w.heap[k]?) (hr : SO.rel E.Z ρ w' h o') (hl' : o'.live = true) (hsoft : o.soft = false := by rfl) : Sat E ρ (H.set h o') w' := by
  have hget : ∀ k (x : SO), (H.set h o')[k]? = some x → (k = h ∧ x = o') ∨ (k ≠ h ∧ H[k]? = some x) := fun k x hx => by
    by_cases e : k = h
    · subst e
      have : k < H.length := by
        rcases Nat.lt_or_ge k H.length with h1 | h1
        · exact h1
        · rw [List.getElem?_eq_none h1] at ho; cases ho
      simp [this] at hx; exact .inl ⟨rfl, hx.symm⟩
    · rw [List.getElem?_set_ne (Ne.symm e)] at hx; exact .inr ⟨e, hx⟩
  have hold : ∀ k (x : SO), (H.set h o')[k]? = some x → x.live = true → ∃ y : SO, H[k]? = some y ∧ y.live = true := fun k x hx hlx => by
    rcases hget k x hx with ⟨rfl, rfl⟩ | ⟨_, hx⟩
    · exact ⟨o, ho, hl⟩
    · exact ⟨x, hx, hlx⟩
  refine ⟨hos.trans hs.os, htape.trans hs.tape, hout.trans hs.output, ?_, ?_, ?_, hs.zle, ?_, ?_, ?_, ?_⟩
  · intro k hk; exact hs.free _ (by simpa using hk)
  · intro k x hx
    rcases hget k x hx with ⟨rfl, rfl⟩ | ⟨hne, hx⟩
    · exact hr
    · by_cases hlx : x.live = true
      · refine SO.rel_keep (hs.objs _ _ hx) (Map.le_refl ρ) (fun b' hb' y hy => ?_)
        rw [hother b' ?_]; exact hy
        intro e; subst e
        exact hne (hs.inj _ _ _ _ _ hx ho hlx hl (SO.owned_claimed hb') (claimed_main hb))
      · exact SO.rel_still (hs.objs _ _ hx) (Map.le_refl ρ) (by simpa using hlx)
  · intro k k' x x' b' hx hx' hl1 hl2 hb1 hb2
    obtain ⟨y, hy, hly⟩ := hold _ _ hx hl1
    obtain ⟨y', hy', hly'⟩ := hold _ _ hx' hl2
    exact hs.inj _ _ _ _ _ hy hy' hly hly' hb1 hb2
  · intro k x hk
    have hk' := hs.keep _ _ hk
    rw [hother k ?_]; exact hk'
    intro e; subst e
    rw [hs.apart _ _ _ ho hl (SO.owned_main hb hsoft)] at hk; cases hk
  · intro k x b' hx hlx hb'
    rcases hget k x hx with ⟨rfl, rfl⟩ | ⟨hne, hx⟩
    · have e := claimed_flat hb (SO.owned_claimed hb')
      subst e
      exact hs.apart _ _ _ ho hl (SO.owned_main hb hsoft)
    · exact hs.apart _ _ _ hx hlx hb'
  · intro k x b' hx hlx hb'
    obtain ⟨y, hy, hly⟩ := hold _ _ hx hlx
    exact hs.fresh _ _ _ hy hly hb'
  · intro k ht
    obtain ⟨x, hx⟩ := hs.old _ ht
    by_cases e : k = b
    · subst e
      have hzw : ∀ c y, E.Z c = some y → w'.heap[c]? = some y := fun c y hc => by
        have hF := hs.zle _ _ hc
        rw [hother c (fun e => by subst e; rw [hs.apart _ _ _ ho hl (SO.owned_main hb hsoft)] at hF; cases hF)]
        exact hs.keep _ _ hF
      obtain ⟨_, hx⟩ := SO.at_heap hzw hr hl' hb
      exact ⟨_, hx⟩
    · exact ⟨x, by rw [hother k e]; exact hx⟩
def SV.one : SV → Bool
  | .lit v => v.oneCell'
  | .agg _ => false
  | .tup _ => false
  | .junk => false
  | _ => true
theorem rel_one {s : SV} {v : Value} (h : SV.rel Z ρ s v) (h1 : s.one = true) : v.oneCell' = true := by
  cases s <;> simp only [SV.rel, SV.one] at h h1 <;> try (cases h1; done)
  · subst h; exact h1
  · obtain ⟨b, C, bs, _, rfl⟩ := h; rfl
  · obtain ⟨b, C, bs, _, rfl⟩ := h; rfl
  · rcases h with ⟨_, _, _, rfl⟩ | ⟨b, C, bs, cap, o, _, rfl, _⟩ <;> rfl
  · simp only [Ty.reads] at h
    obtain ⟨u, hu, h⟩ := h
    simp only [List.cons.injEq, and_true] at hu
    subst hu
    rcases h with ⟨_, rfl⟩ | ⟨b, o, cap, arr, et, fz, rfl, _⟩ | ⟨_, a, cap, rfl⟩ <;> rfl
  · obtain ⟨b, o, arr, et, fz, rfl, _⟩ := h; rfl
  · obtain ⟨vs, rfl, _⟩ := h; rfl
  · obtain ⟨b, C, bs, _, rfl⟩ := h; rfl
  · obtain ⟨b, C, bs, k, _, _, rfl⟩ := h; rfl
  · obtain ⟨b, C, bs, k, fz, _, rfl, _⟩ := h; rfl
theorem rels_one : ∀ {ss : List SV} {vs : List Value}, SV.rels Z ρ ss vs → ss.all SV.one = true → ∀ v ∈ vs, v.oneCell' = true
  | [], vs, h, _, v, hv => by simp only [SV.rels] at h; subst h; cases hv
  | s :: ss, vs, h, h1, v, hv => by
    obtain ⟨u, r, rfl, h2, h3⟩ := rels_head h
    simp only [List.all_cons, Bool.and_eq_true] at h1
    rcases List.mem_cons.1 hv with rfl | hv
    · exact rel_one h2 h1.1
    · exact rels_one h3 h1.2 v hv
def putElt (ty : Ty) (x : ty.den) (j : Nat) (new : List SV) : List SV := if Nat.beq j 0 && Nat.beq new.length ty.width then new else putAt (ty.cells x) j new
theorem putElt_eq {ty : Ty} {x : ty.den} {j : Nat} {new : List SV} : putElt ty x j new = putAt (ty.cells x) j new := by
  unfold putElt
  split
  · rename_i h
    simp only [Bool.and_eq_true] at h
    have h1 := Nat.eq_of_beq_eq_true h.1
    have h2 := Nat.eq_of_beq_eq_true h.2
    subst h1
    unfold putAt
    rw [List.take_zero, List.nil_append, List.drop_eq_nil_of_le (by rw [cells_length]; omega), List.append_nil]
  · rfl
def xstore (P : Program) (H : Heap) (t : TypeId) (ad v : SV) : Tree Heap :=
  if v.lays && v.cells.all SV.one && szIs P t v.cells.length then match ad with
    | .ptr h off => match H[h]? with
      | some (.cells et cs) => if Nat.ble (off + v.cells.length) cs.length then .ret (H.set h (.cells et (putAt cs off v.cells))) else .fail
      | _ => .fail
    | .ept h wd i j => match H[h]? with
      | some (.row et ty l) => if Nat.beq wd ty.width && Nat.ble (j + v.cells.length) ty.width then match ty.ofCells (putElt ty (l.getD i ty.dflt) j v.cells) with
        | some x => .need (i < l.length) (.ret (H.set h (.row et ty (l.set i x))))
        | none => .fail
        else .fail
      | _ => .fail
    | _ => .fail
  else .fail
theorem put_lies {t : Ty} {l : List t.den} {vs new : List Value} {i j : Nat} {x : t.den} (hl : t.lies Z l vs 0) (hi : i < l.length) (hlen : l.length * t.width ≤ vs.length)
    (hj : j + new.length ≤ t.width) (hx : t.reads Z x (((vs.drop (i * t.width)).take t.width).take j ++ new ++ ((vs.drop (i * t.width)).take t.width).drop (j + new.length))) :
    t.lies Z (l.set i x) (vs.take (i * t.width + j) ++ new ++ vs.drop (i * t.width + j + new.length)) 0 := by
  intro k hk
  rw [Nat.zero_add]
  have hk' : k < l.length := by simpa using hk
  have hmul : i * t.width + t.width ≤ vs.length := by
    have : (i + 1) * t.width ≤ l.length * t.width := Nat.mul_le_mul_right _ hi
    rw [Nat.add_mul] at this; omega
  by_cases e : k = i
  · subst e
    simp only [List.getElem_set_self]
    have e1 : (vs.take (k * t.width + j) ++ new ++ vs.drop (k * t.width + j + new.length)).drop (k * t.width) = (vs.drop (k * t.width)).take j ++ new ++ vs.drop (k * t.width + j + new.length) := by
      rw [List.append_assoc, List.drop_append_of_le_length (by simp; omega), List.drop_take]
      simp [Nat.add_sub_cancel_left]
    rw [e1]
    have e2 : ((vs.drop (k * t.width)).take j ++ new ++ vs.drop (k * t.width + j + new.length)).take t.width = ((vs.drop (k * t.width)).take t.width).take j ++ new ++ ((vs.drop (k * t.width)).take t.width).drop (j + new.length) := by
      have hl1 : ((vs.drop (k * t.width)).take j).length = j := by simp; omega
      rw [List.take_append, List.take_of_length_le (l := (vs.drop (k * t.width)).take j ++ new) (by simp; omega)]
      rw [List.take_take, Nat.min_eq_left (by omega), List.drop_take, List.drop_drop]
      congr 1
      simp only [List.length_append, hl1]
      congr 1
      congr 1; omega
    rw [e2]
    exact hx
  · simp only [List.getElem_set_ne (Ne.symm e)]
    have h0 := hl k hk'
    rw [Nat.zero_add] at h0
    have hmulk : k * t.width + t.width ≤ vs.length := by
      have : (k + 1) * t.width ≤ l.length * t.width := Nat.mul_le_mul_right _ hk'
      rw [Nat.add_mul] at this; omega
    have e3 : ((vs.take (i * t.width + j) ++ new ++ vs.drop (i * t.width + j + new.length)).drop (k * t.width)).take t.width = (vs.drop (k * t.width)).take t.width := by
      apply List.ext_getElem?
      intro m
      simp only [List.getElem?_take, List.getElem?_drop]
      split
      · rename_i hm
        rcases Nat.lt_or_gt_of_ne e with h1 | h1
        · have : (k + 1) * t.width ≤ i * t.width := Nat.mul_le_mul_right _ h1
          rw [Nat.add_mul] at this
          rw [List.append_assoc, List.getElem?_append_left (by simp; omega), List.getElem?_take, if_pos (by omega)]
        · have : (i + 1) * t.width ≤ k * t.width := Nat.mul_le_mul_right _ h1
          rw [Nat.add_mul] at this
          rw [List.getElem?_append_right (by simp; omega), List.getElem?_drop]
          congr 1
          simp
          omega
      · rfl
    rw [e3]
    exact h0
theorem xstore_sound {t : TypeId} {ad v : SV} {va vv : Value} {Q : Heap → Prop} (hs : Sat E ρ H w) (ha : SV.rel E.Z ρ ad va) (hv : SV.rel E.Z ρ v vv)
    (h : (xstore P H t ad v).Leads Q) : ∃ H' w', Q H' ∧ (Instr.storeAt t va vv).run P w = .ok () w' ∧ Sat E ρ H' w' ∧ H'.length = H.length := by
  unfold xstore at h
  split at h
  case isFalse => exact h.elim
  rename_i hc
  simp only [Bool.and_eq_true] at hc
  obtain ⟨⟨hc1, hc2⟩, hc3⟩ := hc
  have hcs := lays_cells hv hc1
  have hlen := rels_length hcs
  simp only [Array.length_toList] at hlen
  have hone := rels_one hcs hc2
  have hsz := run_szIs (w := w) hc3
  split at h
  · rename_i hd off
    split at h
    · rename_i et cs hh
      split at h
      case isFalse => exact h.elim
      rename_i hb
      have hle := Nat.le_of_ble_eq_true hb
      have hobj := hs.objs _ _ hh
      simp only [SO.rel] at hobj
      obtain ⟨b, C, vs, h1, h2, h3⟩ := hobj
      simp only [SV.rel] at ha
      obtain ⟨b', C', bs', h1', rfl⟩ := ha
      rw [h1] at h1'; injection h1' with h1'; injection h1' with e1 e2 e3; subst e1
      have hl3 := rels_length h3
      simp only [Array.length_toList] at hl3
      have hst := run_storeCells_at P b off et vv.cells.toList 0 vs w h2 (by simp; omega) hone
      simp only [Nat.add_zero] at hst
      refine ⟨_, w.setRow b (vs.toList.take off ++ vv.cells.toList ++ vs.toList.drop (off + vv.cells.toList.length)).toArray, h, ?_, ?_, by simp⟩
      · simp only [Instr.storeAt, Instr.sureAddr, Sem.run_bind, Sem.run_pure, Result.andThen_ok, storeVar, hsz, Sem.run_ite]
        rw [if_neg (by omega)]
        simpa using hst
      · refine Sat.set hs hh rfl h1 rfl rfl rfl (fun k hk => setRow_other w b k _ hk) ?_ rfl
        simp only [SO.rel]
        refine ⟨b, C, _, h1, setRow_heap w b vs _ et (0, 0) h2, ?_⟩
        have := rels_put off h3 hcs
        simpa using this
    · exact h.elim
  · rename_i hd wd i j
    split at h
    · rename_i et ty l hh
      split at h
      case isFalse => exact h.elim
      rename_i hb
      simp only [Bool.and_eq_true] at hb
      have hw := Nat.eq_of_beq_eq_true hb.1
      have hle := Nat.le_of_ble_eq_true hb.2
      subst hw
      rw [putElt_eq] at h
      split at h
      · rename_i x hx
        obtain ⟨hi, h⟩ := h
        have hobj := hs.objs _ _ hh
        simp only [SO.rel] at hobj
        simp only [SV.rel] at ha
        obtain ⟨b', C', bs', h1', rfl⟩ := ha
        rcases hobj with ⟨h0, _⟩ | ⟨b, C, vs, h1, h2, h3, h4, h5, h6⟩
        · rw [h0] at h1'; cases h1'
        rw [h1] at h1'; injection h1' with h1'; injection h1' with e1 e2 e3; subst e1
        have hmul : i * ty.width + ty.width ≤ vs.size := by
          have : (i + 1) * ty.width ≤ C * ty.width := Nat.mul_le_mul_right _ (by omega)
          rw [Nat.add_mul] at this; omega
        have hst := run_storeCells_at P b (i * ty.width + j) et vv.cells.toList 0 vs w h2 (by simp; omega) hone
        simp only [Nat.add_zero] at hst
        refine ⟨_, w.setRow b (vs.toList.take (i * ty.width + j) ++ vv.cells.toList ++ vs.toList.drop (i * ty.width + j + vv.cells.toList.length)).toArray, h, ?_, ?_, by simp⟩
        · simp only [Instr.storeAt, Instr.sureAddr, Sem.run_bind, Sem.run_pure, Result.andThen_ok, storeVar, hsz, Sem.run_ite]
          rw [if_neg (by omega)]
          simpa using hst
        · refine Sat.set hs hh rfl h1 rfl rfl rfl (fun k hk => setRow_other w b k _ hk) ?_ rfl
          simp only [SO.rel]
          have hread := h6 i hi
          rw [Nat.zero_add] at hread
          rw [show l.getD i ty.dflt = l[i] by simp [List.getD, hi]] at hx
          have hput := rels_put (Z := E.Z) (ρ := ρ) j ((reads_iff (ρ := ρ)).1 hread) hcs
          have hx' := ofCells_sound hx hput
          refine .inr ⟨b, C, _, h1, setRow_heap w b vs _ et (0, 0) h2, ?_, by simpa using h4, h5, ?_⟩
          · simp; omega
          · have := put_lies h6 hi (by simp; rw [h3]; exact Nat.mul_le_mul_right _ h4) (new := vv.cells.toList) (j := j) (x := x) (by simp; omega) hx'
            simpa using this
      · exact h.elim
    · exact h.elim
  · exact h.elim
end Sx
