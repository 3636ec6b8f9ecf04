/- Maps from names to numbers, each of which has a block of its own. -/
import Derived.Test.YtlcobcpgaoeijaaGreatSxK
import Derived.Test.YtlcobcpgaoeijaaGreatSxIn
import Derived.Maps.Own
import Derived.Maps.OwnSet
import Derived.Maps.Views
import Derived.Sort.KeysCollected
set_option linter.unusedVariables false
set_option linter.unusedSimpArgs false
namespace Sx
open Go Go.ChangeMaps Go.MapKept
open Go.WideElems (Fit rd rg pl rd_val elemAt)
open Go.Maps (Keyed)
variable {P : Program} {E : Env} {ρ : Map} {S : Slots} {H : Heap} {a : Act} {w w' : World} {Z : Zone}
def rptr (v : Value) : Option (DataW Unit × List MemPlace) := match v with
  | .pointer (some ⟨b, 0, none⟩) => some (.lit (.int .i64 b), [])
  | .pointer none => some (.lit (.int .i64 (-1)), [])
  | _ => none
def klit (s : ByteArray) : Lit := .string s.data.toList
def mdataFrom (D : DataW Unit) (kv : List (ByteArray × Nat)) : DataW Unit := kv.foldl (fun D p => D.put (klit p.1) (.lit (.int .i64 p.2))) D
def mdata (kv : List (ByteArray × Nat)) : DataW Unit := mdataFrom (.map []) kv
def mapR (P : Program) (K : TypeId) (o : Obj) (kv : List (ByteArray × Nat)) : Prop :=
  (kv.map Prod.fst).Nodup ∧ ∃ es clock, o = .map es clock ∧ Fit P K rptr es clock ∧ es.size ≤ kv.length ∧ mdata kv = .map ((es.toList.map (rg P K rptr)).foldr DataW.insert [])
theorem klit_inj {s t : ByteArray} (h : klit s = klit t) : s = t := by
  have h : s.data.toList = t.data.toList := by simpa [klit] using h
  cases s; cases t
  have := Array.ext' h
  simp_all
theorem klit_key (s : ByteArray) : WideAt.IsKeyLit (klit s) := by
  exact trivial
theorem mdataFrom_isMap {D : DataW Unit} (hD : Maps.IsMap D) : ∀ kv, Maps.IsMap (mdataFrom D kv) := fun kv => by
  unfold mdataFrom
  induction kv generalizing D with
  | nil => exact hD
  | cons p kv ih => exact ih (hD.put _ _)
theorem mdata_not {s : ByteArray} {z : DataW Unit} : ∀ {kv : List (ByteArray × Nat)} {D : DataW Unit}, (∀ p ∈ kv, p.1 ≠ s) → (mdataFrom D kv).atKey (klit s) z = D.atKey (klit s) z
  | [], D, _ => rfl
  | p :: kv, D, h => by
    show (mdataFrom (D.put (klit p.1) (.lit (.int .i64 p.2))) kv).atKey (klit s) z = _
    rw [mdata_not (fun q hq => h q (by simp [hq]))]
    exact Maps.atKey_put_other (fun e => h p (by simp) (klit_inj e).symm) _ _
theorem mdata_at {z : DataW Unit} : ∀ {kv : List (ByteArray × Nat)} {D : DataW Unit}, Maps.IsMap D → (kv.map Prod.fst).Nodup → ∀ p ∈ kv, (mdataFrom D kv).atKey (klit p.1) z = .lit (.int .i64 p.2)
  | [], _, _, _, p, hp => by cases hp
  | q :: kv, D, hD, hn, p, hp => by
    show (mdataFrom (D.put (klit q.1) (.lit (.int .i64 q.2))) kv).atKey (klit p.1) z = _
    simp only [List.map_cons, List.nodup_cons] at hn
    rcases List.mem_cons.1 hp with rfl | hp
    · rw [mdata_not (fun x hx e => hn.1 (by rw [← e]; exact List.mem_map_of_mem hx))]
      exact Maps.atKey_put_same hD (klit_key _) _ _
    · exact mdata_at (hD.put _ _) hn.2 p hp
theorem mdata_snoc (kv : List (ByteArray × Nat)) (s : ByteArray) (b : Nat) : mdata (kv ++ [(s, b)]) = (mdata kv).put (klit s) (.lit (.int .i64 b)) := by
  simp [mdata, mdataFrom, List.foldl_append]
theorem mapR_owns {K : TypeId} {o : Obj} {kv : List (ByteArray × Nat)} (h : mapR P K o kv) {w : World} {b : Nat} (hb : w.heap[b]? = some o) : w.ownsMap P K rptr b kv.length (mdata kv) := by
  obtain ⟨_, es, clock, rfl, hF, hs, hD⟩ := h
  exact ⟨es, clock, hb, hF, hs, hD⟩
theorem mapR_of {K : TypeId} {kv : List (ByteArray × Nat)} {w : World} {b : Nat} (hn : (kv.map Prod.fst).Nodup) (h : w.ownsMap P K rptr b kv.length (mdata kv)) : ∃ o, w.heap[b]? = some o ∧ mapR P K o kv := by
  obtain ⟨es, clock, hb, hF, hs, hD⟩ := h
  exact ⟨_, hb, hn, es, clock, rfl, hF, hs, hD⟩
theorem mapR_nil (K : TypeId) : mapR P K (.map #[] 0) [] := ⟨by simp, #[], 0, rfl, ⟨by simp, stamped_empty 0, by simp⟩, Nat.le_refl _, rfl⟩
structure More (ρ ρ' : Map) : Prop where
  at' : ∀ k b C l, ρ k = some (.at b C l) → ∃ l2, ρ' k = some (.at b C (l ++ l2))
  nil : ∀ k, ρ k = some .nil → ρ' k = some .nil
mutual
theorem SV.rel_more {ρ ρ' : Map} (hm : More ρ ρ') : ∀ {s : SV} {v : Value}, SV.rel Z ρ s v → SV.rel Z ρ' s v
  | .lit _, _, h => by simpa only [SV.rel] using h
  | .ptr _ _, _, h => by simp only [SV.rel] at *; obtain ⟨b, C, l, h1, h2⟩ := h; obtain ⟨l2, g⟩ := hm.at' _ _ _ _ h1; exact ⟨b, C, _, g, h2⟩
  | .ept _ _ _ _, _, h => by simp only [SV.rel] at *; obtain ⟨b, C, l, h1, h2⟩ := h; obtain ⟨l2, g⟩ := hm.at' _ _ _ _ h1; exact ⟨b, C, _, g, h2⟩
  | .sl _ _ _ _, _, h => by
    simp only [SV.rel] at *
    rcases h with ⟨h1, h2⟩ | ⟨b, C, l, cap, o, h1, h2⟩
    · exact .inl ⟨hm.nil _ h1, h2⟩
    · obtain ⟨l2, g⟩ := hm.at' _ _ _ _ h1
      exact .inr ⟨b, C, _, cap, o, g, h2⟩
  | .imm _ _, _, h => by simpa only [SV.rel] using h
  | .ipt _ _ _ _, _, h => by simpa only [SV.rel] using h
  | .agg _, _, h => by simp only [SV.rel] at *; obtain ⟨vs, h1, h2⟩ := h; exact ⟨vs, h1, SV.rels_more hm h2⟩
  | .tup _, _, h => by simp only [SV.rel] at *; obtain ⟨vs, h1, h2⟩ := h; exact ⟨vs, h1, SV.rels_more hm h2⟩
  | .fn _ _, _, h => by simp only [SV.rel] at *; obtain ⟨vs, h1, h2⟩ := h; exact ⟨vs, h1, SV.rels_more hm h2⟩
  | .junk, _, _ => by simp only [SV.rel]
  | .mp _, _, h => by simp only [SV.rel] at *; obtain ⟨b, C, l, h1, h2⟩ := h; obtain ⟨l2, g⟩ := hm.at' _ _ _ _ h1; exact ⟨b, C, _, g, h2⟩
  | .tref _ i, _, h => by
    simp only [SV.rel] at *
    obtain ⟨b, C, l, k, h1, h2, h3⟩ := h
    obtain ⟨l2, g⟩ := hm.at' _ _ _ _ h1
    refine ⟨b, C, _, k, g, ?_, h3⟩
    rw [List.getElem?_append_left (List.getElem?_eq_some_iff.1 h2).1]; exact h2
  | .kseq _ _ _, _, h => by simp only [SV.rel] at *; obtain ⟨b, C, l, k, fz, h1, h2⟩ := h; obtain ⟨l2, g⟩ := hm.at' _ _ _ _ h1; exact ⟨b, C, _, k, fz, g, h2⟩
theorem SV.rels_more {ρ ρ' : Map} (hm : More ρ ρ') : ∀ {s : List SV} {v : List Value}, SV.rels Z ρ s v → SV.rels Z ρ' s v
  | [], _, h => by simpa only [SV.rels] using h
  | _ :: _, _, h => by
    simp only [SV.rels] at *
    obtain ⟨v, r, h1, h2, h3⟩ := h
    exact ⟨v, r, h1, SV.rel_more hm h2, SV.rels_more hm h3⟩
end
theorem SO.rel_more {ρ ρ' : Map} (hm : More ρ ρ') {o : SO} {h : Nat} (he : ρ' h = ρ h) (hr : SO.rel Z ρ w h o) : SO.rel Z ρ' w h o := by
  cases o with
  | cells et cs =>
    simp only [SO.rel] at *
    obtain ⟨b, C, vs, h1, h2, h3⟩ := hr
    exact ⟨b, C, vs, by rw [he]; exact h1, h2, SV.rels_more hm h3⟩
  | row et t l => simp only [SO.rel, he] at *; exact hr
  | dead => trivial
  | view et t l => simp only [SO.rel, he] at *; exact hr
  | kept et e2 t l => simp only [SO.rel, he] at *; exact hr
  | lists et e2 t A B x D =>
    simp only [SO.rel] at *
    rw [he]
    rcases hr with hr | ⟨b, C, ps, ds, vs, ua, ub, ux, ud, rest, g1, g2, g3, g4, g5, g6, g7, g8, g9, g10, g11⟩
    · exact .inl hr
    · refine .inr ⟨b, C, ps, ds, vs, ua, ub, ux, ud, rest, g1, g2, g3, g4, g5, g6, g7, g8, g9, ?_, g11⟩
      match x with
      | none => exact g10
      | some (k, n) =>
        obtain ⟨v, a1, a2⟩ := g10
        exact ⟨v, a1, SV.rel_more hm a2⟩
  | tmap R et l => simp only [SO.rel, he] at *; exact hr
  | imap R l => simp only [SO.rel, he] at *; exact hr
  | alias h2 i =>
    simp only [SO.rel, he] at *
    obtain ⟨b, C, l, b2, C2, bs, h1, h2, h3⟩ := hr
    obtain ⟨l2, g⟩ := hm.at' _ _ _ _ h2
    refine ⟨b, C, l, b2, C2, _, h1, g, ?_⟩
    rw [List.getElem?_append_left (List.getElem?_eq_some_iff.1 h3).1]; exact h3
  | drow et e2 t l => simp only [SO.rel, he] at *; exact hr
  | hold et t l => simp only [SO.rel, he] at *; exact hr
  | prow et e2 t x g n =>
    simp only [SO.rel] at hr ⊢
    rw [he]
    obtain ⟨c, b, vs, v, g1, g2, g3, g4, g5, g6, g7, g8⟩ := hr
    exact ⟨c, b, vs, v, g1, g2, g3, g4, g5, g6, g7, SV.rel_more hm g8⟩
  | dview et e2 t l g j x =>
    simp only [SO.rel] at hr
    obtain ⟨c, hc, ⟨hr, hl⟩ | ⟨b, C, bs, vs, gb, h1, h2, h3, h4, h5, h6, h7, ⟨ds, tl, h8, h9, h10⟩, h11⟩⟩ := hr
    · exact ⟨c, hc, .inl ⟨by rw [he]; exact hr, hl⟩⟩
    · have hg : ∃ gb tl, ρ' g = some gb ∧ deedsOf gb = ds ++ tl := by
        cases gb with
        | nil => exact ⟨.nil, tl, hm.nil _ h7, h8⟩
        | «at» b' C' l' =>
          obtain ⟨l2, g1⟩ := hm.at' _ _ _ _ h7
          refine ⟨.at b' C' (l' ++ l2), tl ++ l2, g1, ?_⟩
          show b' :: (l' ++ l2) = ds ++ (tl ++ l2)
          rw [← List.append_assoc, ← h8]; rfl
      obtain ⟨gb', tl', g1, g2⟩ := hg
      simp only [SO.rel]
      refine ⟨c, hc, .inr ⟨b, C, bs, vs, gb', by rw [he]; exact h1, h2, h3, h4, h5, h6, g1, ⟨ds, tl', g2, h9, h10⟩, ?_⟩⟩
      match x with
      | none => trivial
      | some (k, n) =>
        obtain ⟨i, v, a1, a2, a3⟩ := h11
        exact ⟨i, v, a1, a2, SV.rel_more hm a3⟩
theorem Sat.write {h k0 : Nat} {o o' : SO} (hs : Sat E ρ H w) (ho : H[h]? = some o) (hl : o.live = true) (hk0 : o.owned (ρ h) k0)
    (hos : w'.os = w.os) (htape : w'.tape = w.tape) (hout : w'.output = w.output) (hin : ∃ x, w'.heap[k0]? = some x)
    (hother : ∀ k, k ≠ k0 → ∀ x, w.heap[k]? = some x → w'.heap[k]? = some x) (hr : SO.rel E.Z ρ w' h o') (hl' : o'.live = true) (hd : o'.deep = o.deep) (hsf : o'.soft = o.soft := by rfl) : Sat E ρ (H.set h o') w' := by
  have hget : ∀ k (x : SO), (H.set h o')[k]? = some x → (k = h ∧ x = o') ∨ (k ≠ h ∧ H[k]? = some x) := fun k x hx => by
    by_cases e : k = h
    · subst e
      rw [List.getElem?_set_self (List.getElem?_eq_some_iff.1 ho).1] at hx
      exact .inl ⟨rfl, by injection hx with hx; exact hx.symm⟩
    · rw [List.getElem?_set_ne (Ne.symm e)] at hx; exact .inr ⟨e, hx⟩
  have hold : ∀ k (x : SO), (H.set h o')[k]? = some x → x.live = true → ∃ y : SO, H[k]? = some y ∧ y.live = true := fun k x hx hlx => by
    rcases hget k x hx with ⟨rfl, rfl⟩ | ⟨_, hx⟩
    · exact ⟨o, ho, hl⟩
    · exact ⟨x, hx, hlx⟩
  refine ⟨hos.trans hs.os, htape.trans hs.tape, hout.trans hs.output, ?_, ?_, ?_, hs.zle, ?_, ?_, ?_, ?_⟩
  · intro k hk; exact hs.free _ (by simpa using hk)
  · intro k x hx
    rcases hget k x hx with ⟨rfl, rfl⟩ | ⟨hne, hx⟩
    · exact hr
    · by_cases hlx : x.live = true
      · refine SO.rel_keep (hs.objs _ _ hx) (Map.le_refl ρ) (fun b' hb' y hy => hother b' ?_ y hy)
        intro e; subst e
        exact hne (hs.inj _ _ _ _ _ hx ho hlx hl (SO.owned_claimed hb') (SO.owned_claimed hk0))
      · exact SO.rel_still (hs.objs _ _ hx) (Map.le_refl ρ) (by simpa using hlx)
  · intro k k' x x' b' hx hx' hl1 hl2 hb1 hb2
    obtain ⟨y, hy, hly⟩ := hold _ _ hx hl1
    obtain ⟨y', hy', hly'⟩ := hold _ _ hx' hl2
    exact hs.inj _ _ _ _ _ hy hy' hly hly' hb1 hb2
  · intro k x hk
    refine hother k ?_ _ (hs.keep _ _ hk)
    intro e; subst e
    rw [hs.apart _ _ _ ho hl hk0] at hk; cases hk
  · intro k x b' hx hlx hb'
    rcases hget k x hx with ⟨rfl, rfl⟩ | ⟨hne, hx⟩
    · refine hs.apart _ _ _ ho hl ?_
      obtain ⟨b2, C2, l2, e1, e2⟩ := hb'
      exact ⟨b2, C2, l2, e1, e2.imp (fun e => ⟨by rw [← hsf]; exact e.1, e.2⟩) fun e => ⟨by rw [← hd]; exact e.1, e.2⟩⟩
    · exact hs.apart _ _ _ hx hlx hb'
  · intro k x b' hx hlx hb'
    obtain ⟨y, hy, hly⟩ := hold _ _ hx hlx
    exact hs.fresh _ _ _ hy hly hb'
  · intro k ht
    obtain ⟨x, hx⟩ := hs.old _ ht
    by_cases e : k = k0
    · subst e; exact hin
    · exact ⟨x, hother k e x hx⟩
def ptrMap (P : Program) (t : TypeId) : Option (TypeId × TypeId × TypeId) := match P.underlying t with
  | some (.map K e) => match P.underlying K, P.underlying e with
    | some .string, some (.pointer s) => some (K, e, s)
    | _, _ => none
  | _ => none
theorem ptrMap_some {t K e s : TypeId} (h : ptrMap P t = some (K, e, s)) : P.underlying t = some (.map K e) ∧ P.underlying K = some .string ∧ P.underlying e = some (.pointer s) := by
  unfold ptrMap at h
  split at h
  · rename_i K' e' hu
    split at h
    · rename_i s' h1 h2
      injection h with h; injection h with e1 e2; injection e2 with e2 e3; subst e1; subst e2; subst e3
      exact ⟨hu, h1, h2⟩
    · cases h
  · cases h
def nilZero (P : Program) (e : TypeId) : Bool := match P.info? e with
  | some i => match i.zero with
    | some (.pointer none) => true
    | _ => false
  | none => false
theorem nilZero_run {e : TypeId} (h : nilZero P e = true) : (zeroValue e).run P w = .ok (.pointer none) w := by
  unfold nilZero at h
  split at h
  · rename_i i hi
    split at h
    · rename_i hz; simp [zeroValue, typeInfo, hi, hz]
    · cases h
  · cases h
def xmakeMap (P : Program) (H : Heap) (t : TypeId) : Tree (SV × Heap) := match ptrMap P t with
  | some (K, _, s) => .ret (.mp H.length, H ++ [.tmap (mapR P K) s []])
  | none => .fail
theorem xmakeMap_sound {t : TypeId} {Q : SV × Heap → Prop} (hs : Sat E ρ H w) (h : (xmakeMap P H t).Leads Q) :
    ∃ sv H' v w' ρ', Q (sv, H') ∧ (Instr.makeMap t none).run P w = .ok v w' ∧ SV.rel E.Z ρ' sv v ∧ Sat E ρ' H' w' ∧ Map.le ρ ρ' ∧ (∀ k, k < H.length → ρ' k = ρ k) ∧ H.length ≤ H'.length := by
  unfold xmakeMap at h
  split at h
  · rename_i K e s hp
    refine ⟨_, _, .map (some w.heap.size), w.alloc (.map #[] 0), _, h, rfl, ?_, Sat.alloc (C := 0) hs ?_, Map.le_put (hs.free _ (Nat.le_refl _)), fun k hk => put_ne (by omega), by simp⟩
    · simp only [SV.rel]; exact ⟨_, _, _, Map.put_same _ _ _, rfl⟩
    · simp only [SO.rel]
      refine ⟨_, _, [], _, Map.put_same _ _ _, heap_alloc_new w _, ?_, rfl, by simp, fun i hi => by simp at hi⟩
      exact mapR_nil K
  · exact h.elim
def xlookup (P : Program) (H : Heap) (t : TypeId) (m x : SV) : Tree SV := match m, x, ptrMap P t with
  | .mp h, .lit (.string s), some (K, e, _) => match H[h]? with
    | some (.tmap R _ l) => if nilZero P e then .need (R = mapR P K ∧ s.size ≤ maxLen) (.ite (l.any fun p => p.1 == s) (.ret (.tref h (l.findIdx fun p => p.1 == s))) (.ret (.lit (.pointer none)))) else .fail
    | _ => .fail
  | _, _, _ => .fail
theorem bytes_iff (a b : ByteArray) : (a == b) = true ↔ a = b := by
  cases a with | mk d => cases b with | mk e =>
  have h : (ByteArray.mk d == ByteArray.mk e) = (d == e) := rfl
  rw [h, beq_iff_eq]; constructor
  · rintro rfl; rfl
  · intro h; injection h
theorem bytes_eq {a b : ByteArray} (h : (a == b) = true) : a = b := (bytes_iff a b).1 h
theorem xlookup_sound {t : TypeId} {m x : SV} {vm vx : Value} {Q : SV → Prop} (hs : Sat E ρ H w) (hm : SV.rel E.Z ρ m vm) (hx : SV.rel E.Z ρ x vx) (h : (xlookup P H t m x).Leads Q) : Yields P E ρ (Instr.lookup t vm vx false) w Q := by
  unfold xlookup at h
  split at h
  case h_2 => exact h.elim
  rename_i hd s K e s' hp
  obtain ⟨hu, hK, he⟩ := ptrMap_some hp
  split at h
  case h_2 => exact h.elim
  rename_i R et l ho
  split at h
  case isFalse => exact h.elim
  rename_i hz
  obtain ⟨⟨hR, hsz⟩, h⟩ := h
  have := rel_lit hx; subst this
  simp only [SV.rel] at hm
  obtain ⟨b, C, bs, h1, rfl⟩ := hm
  have hr := hs.objs _ _ ho
  simp only [SO.rel] at hr
  obtain ⟨b', C', bs', o, h1', h2, h3, h4, h5, h6⟩ := hr
  rw [h1] at h1'; injection h1' with h1'; injection h1' with e1 e2 e3; subst e1; subst e3
  subst hR
  have hown := mapR_owns h3 h2
  have hkl : keyOf P K (.string s) = some (klit s) := Go.WideMaps.keyOf_string_mk hK hsz
  obtain ⟨v, ps, hrun, hv⟩ := hown.lookup (Maps.string_keyed hK) hu (nilZero_run (w := w) hz) (zd := .lit (.int .i64 (-1))) (zp := []) rfl hkl
  have hzl : ((l.map Prod.fst).zip bs).map Prod.fst = l.map Prod.fst := by
    rw [List.map_fst_zip]; rw [List.length_map]; omega
  have h := br_iff.1 h
  cases hany : l.any (fun p => p.1 == s) with
  | true =>
    have hi : l.findIdx (fun p => p.1 == s) < l.length := by
      rw [List.findIdx_lt_length]
      obtain ⟨p, hp1, hp2⟩ := List.any_eq_true.1 hany
      exact ⟨p, hp1, hp2⟩
    have hkey : (l[l.findIdx (fun p => p.1 == s)]).1 = s := bytes_eq (List.findIdx_getElem (w := hi) : (fun p : ByteArray × Int => p.1 == s) l[l.findIdx (fun p => p.1 == s)] = true)
    generalize l.findIdx (fun p => p.1 == s) = i at *
    have hib : i < bs.length := by omega
    have hmem : (s, bs[i]) ∈ (l.map Prod.fst).zip bs := by
      rw [List.mem_iff_getElem?]
      refine ⟨i, ?_⟩
      rw [List.getElem?_zip_eq_some]
      exact ⟨by rw [List.getElem?_map, List.getElem?_eq_getElem hi]; simp [hkey], List.getElem?_eq_getElem hib⟩
    have hat := mdata_at (z := .lit (.int .i64 (-1))) Maps.isMap_empty (by rw [hzl]; rw [← hzl]; exact h3.1) _ hmem
    have hv' : rptr v = some (.lit (.int .i64 (bs[i] : Nat)), ps) := by rw [hv]; exact congrArg (fun x => some (x, ps)) hat
    refine ⟨_, v, h.1 hany, hrun, ?_⟩
    simp only [SV.rel]
    refine ⟨b, C, bs, bs[i], h1, List.getElem?_eq_getElem hib, ?_⟩
    unfold rptr at hv'
    split at hv'
    · rename_i k
      simp only [Option.some.injEq, Prod.mk.injEq, DataW.lit.injEq, Lit.int.injEq, true_and] at hv'
      have : k = bs[i] := by omega
      subst this; rfl
    · simp only [Option.some.injEq, Prod.mk.injEq, DataW.lit.injEq, Lit.int.injEq, true_and] at hv'
      omega
    · cases hv'
  | false =>
    have hnot : ∀ p ∈ (l.map Prod.fst).zip bs, p.1 ≠ s := fun p hp e => by
      have h1 : p.1 ∈ l.map Prod.fst := by rw [← hzl]; exact List.mem_map_of_mem hp
      obtain ⟨q, hq, hqe⟩ := List.mem_map.1 h1
      have := List.any_eq_false.1 hany q hq
      rw [hqe, e] at this
      exact this ((bytes_iff _ _).2 rfl)
    have hat := mdata_not (s := s) (z := .lit (.int .i64 (-1))) (D := .map []) hnot
    have hv' : rptr v = some (.lit (.int .i64 (-1)), ps) := by rw [hv]; exact congrArg (fun x => some (x, ps)) (hat.trans rfl)
    refine ⟨_, v, h.2 hany, hrun, ?_⟩
    simp only [SV.rel]
    unfold rptr at hv'
    split at hv'
    · rename_i k
      simp only [Option.some.injEq, Prod.mk.injEq, DataW.lit.injEq, Lit.int.injEq, true_and] at hv'
      omega
    · rfl
    · cases hv'
def xupdate (P : Program) (H : Heap) (t : TypeId) (m x v : SV) : Tree (Nat × Heap) := match m, x, v, ptrMap P t with
  | .mp h, .lit (.string s), .ptr h2 0, some (K, _, _) => match H[h]?, H[h2]? with
    | some (.tmap R et l), some (.cells et' [.lit (.int .i64 n)]) => if Nat.beq et et' && !(Nat.beq h h2) then
        .need (R = mapR P K ∧ s.size ≤ maxLen ∧ l.length < maxLen ∧ ∀ p ∈ l, p.1 ≠ s) (.ret (h, (H.set h (.tmap R et (l ++ [(s, n)]))).set h2 (.alias h l.length)))
      else .fail
    | _, _ => .fail
  | _, _, _, _ => .fail
theorem xupdate_sound {t : TypeId} {m x u : SV} {vm vx vu : Value} {Q : Nat × Heap → Prop} (hs : Sat E ρ H w) (hm : SV.rel E.Z ρ m vm) (hx : SV.rel E.Z ρ x vx) (hu0 : SV.rel E.Z ρ u vu) (h : (xupdate P H t m x u).Leads Q) :
    ∃ h0 H' w' ρ', Q (h0, H') ∧ m = .mp h0 ∧ (Instr.mapUpdate t vm vx vu).run P w = .ok () w' ∧ Sat E ρ' H' w' ∧ More ρ ρ' ∧ (∀ k, k ≠ h0 → ρ' k = ρ k) ∧ H'.length = H.length := by
  unfold xupdate at h
  split at h
  case h_2 => exact h.elim
  rename_i hd s h2 K e s' hp
  obtain ⟨hu, hK, he⟩ := ptrMap_some hp
  split at h
  case h_2 => exact h.elim
  rename_i R et l et' n ho ho2
  split at h
  case isFalse => exact h.elim
  rename_i hcond
  simp only [Bool.and_eq_true, Bool.not_eq_true'] at hcond
  have := Nat.eq_of_beq_eq_true hcond.1; subst this
  have hne : hd ≠ h2 := fun e => by have h1 := hcond.2; rw [e, Nat.beq_refl] at h1; cases h1
  clear hcond
  obtain ⟨⟨hR, hsz, hlen, hnew⟩, h⟩ := h
  subst hR
  have := rel_lit hx; subst this
  simp only [SV.rel] at hm hu0
  obtain ⟨b, C, bs, h1, rfl⟩ := hm
  obtain ⟨b2, C2, bs2, g1, rfl⟩ := hu0
  have hr := hs.objs _ _ ho
  have hr2 := hs.objs _ _ ho2
  simp only [SO.rel] at hr hr2
  obtain ⟨b', C', bs', o, h1', h2', h3, h4, h5, h6⟩ := hr
  rw [h1] at h1'; injection h1' with h1'; injection h1' with e1 e2 e3; subst e1; subst e2; subst e3
  obtain ⟨b3, C3, vs, g1', g2, g3⟩ := hr2
  rw [g1] at g1'; injection g1' with g1'; injection g1' with e1 e2 e3; subst e1; subst e2; subst e3
  have hvs : vs = #[.int .i64 n] := by
    obtain ⟨v, r, e, a1, a2⟩ := rels_head g3
    have := rel_lit a1; subst this
    simp only [SV.rels] at a2; subst a2
    exact Array.ext' (by simpa using e)
  subst hvs
  have hb2 : b2 ∉ b :: bs := fun hin => by
    refine hne (hs.inj hd h2 _ _ b2 ho ho2 rfl rfl ⟨b, C, bs, h1, ?_⟩ (claimed_main g1))
    rcases List.mem_cons.1 hin with e | e
    · exact .inl e
    · exact .inr e
  have hown := mapR_owns h3 h2'
  have hzl : ((l.map Prod.fst).zip bs).map Prod.fst = l.map Prod.fst := by
    rw [List.map_fst_zip]; rw [List.length_map]; omega
  have hzn : ((l.map Prod.fst).zip bs).length = l.length := by rw [List.length_zip, List.length_map]; omega
  have hkl : keyOf P K (.string s) = some (klit s) := Go.WideMaps.keyOf_string_mk hK hsz
  obtain ⟨w1, hrun, hown1, hgrow⟩ := hown.update (Maps.string_keyed hK) hu (by rw [hzn]; exact hlen) (val := .pointer (some ⟨b2, 0, none⟩)) (d := .lit (.int .i64 b2)) (ps := []) hkl rfl
  have hzip : ((l ++ [(s, n)]).map Prod.fst).zip (bs ++ [b2]) = (l.map Prod.fst).zip bs ++ [(s, b2)] := by
    rw [List.map_append, List.zip_append (by rw [List.length_map]; omega)]; rfl
  have hnd : (((l ++ [(s, n)]).map Prod.fst).zip (bs ++ [b2])).map Prod.fst |>.Nodup := by
    rw [hzip, List.map_append, hzl, List.nodup_append]
    refine ⟨by rw [← hzl]; exact h3.1, by simp, fun a ha c hc e => ?_⟩
    have hc : c = s := by simpa using hc
    obtain ⟨p, hp1, hp2⟩ := List.mem_map.1 ha
    exact hnew p hp1 (by rw [hp2, e, hc])
  have hown2 : w1.ownsMap P K rptr b (((l ++ [(s, n)]).map Prod.fst).zip (bs ++ [b2])).length (mdata (((l ++ [(s, n)]).map Prod.fst).zip (bs ++ [b2]))) := by
    rw [hzip, mdata_snoc, List.length_append]; exact hown1
  obtain ⟨o1, ho1, hm1⟩ := mapR_of hnd hown2
  have hsame : ∀ k, k ≠ b → ∀ y, w.heap[k]? = some y → w1.heap[k]? = some y := fun k hk y hy => by
    rw [hgrow.block k (block_lt hy) (by simpa using hk)]; exact hy
  let ρ' : Map := fun k => if k = hd then some (.at b C (bs ++ [b2])) else ρ k
  have e0 : ρ' hd = some (.at b C (bs ++ [b2])) := if_pos rfl
  have eo : ∀ k, k ≠ hd → ρ' k = ρ k := fun k hk => if_neg hk
  have hmore : More ρ ρ' := by
    refine ⟨fun k b5 C5 l5 hk => ?_, fun k hk => ?_⟩
    · by_cases e : k = hd
      · subst e; rw [h1] at hk; injection hk with hk; injection hk with e1 e2 e3; subst e1; subst e2; subst e3
        exact ⟨[b2], e0⟩
      · exact ⟨[], by rw [eo k e, hk, List.append_nil]⟩
    · have e : k ≠ hd := fun e => by subst e; rw [h1] at hk; cases hk
      rw [eo k e]; exact hk
  have hget : ∀ k (y : SO), ((H.set hd (.tmap (mapR P K) et (l ++ [(s, n)]))).set h2 (.alias hd l.length))[k]? = some y → (k = h2 ∧ y = .alias hd l.length) ∨ (k = hd ∧ y = .tmap (mapR P K) et (l ++ [(s, n)])) ∨ (k ≠ hd ∧ k ≠ h2 ∧ H[k]? = some y) := fun k y hy => by
    by_cases e : k = h2
    · subst e
      rw [List.getElem?_set_self (by rw [List.length_set]; exact (List.getElem?_eq_some_iff.1 ho2).1)] at hy
      exact .inl ⟨rfl, by injection hy with hy; exact hy.symm⟩
    · rw [List.getElem?_set_ne (Ne.symm e)] at hy
      by_cases e' : k = hd
      · subst e'
        rw [List.getElem?_set_self (List.getElem?_eq_some_iff.1 ho).1] at hy
        exact .inr (.inl ⟨rfl, by injection hy with hy; exact hy.symm⟩)
      · rw [List.getElem?_set_ne (Ne.symm e')] at hy
        exact .inr (.inr ⟨e', e, hy⟩)
  have hclaim : ∀ c, claimed (ρ' hd) c → claimed (ρ hd) c ∨ claimed (ρ h2) c := fun c hc => by
    obtain ⟨b5, C5, l5, e1, e2⟩ := hc
    rw [e0] at e1; injection e1 with e1; injection e1 with a1 a2 a3; subst a1; subst a3
    rcases e2 with e2 | e2
    · exact .inl ⟨b, C, bs, h1, .inl e2⟩
    · rcases List.mem_append.1 e2 with e2 | e2
      · exact .inl ⟨b, C, bs, h1, .inr e2⟩
      · have : c = b2 := by simpa using e2
        exact .inr ⟨b2, C2, [], g1, .inl this⟩
  have hold : ∀ k (y : SO), k ≠ hd → k ≠ h2 → H[k]? = some y → y.live = true → ∀ c, claimed (ρ k) c → ¬ claimed (ρ' hd) c := fun k y n1 n2 hy hl c hc hc' => by
    rcases hclaim c hc' with e | e
    · exact n1 (hs.inj _ _ _ _ _ hy ho hl rfl hc e)
    · exact n2 (hs.inj _ _ _ _ _ hy ho2 hl rfl hc e)
  refine ⟨hd, _, w1, ρ', h, rfl, hrun, ?_, hmore, eo, by simp⟩
  refine ⟨hgrow.os.trans hs.os, hgrow.tape.trans hs.tape, hgrow.output.trans hs.output, fun k hk => ?_, fun k y hy => ?_, fun k k' y y' c hy hy' hl hl' hc hc' => ?_, hs.zle, fun c y hc => ?_, fun k y c hy hl hc => ?_, fun k y c hy hl hc => ?_, fun c hc => ?_⟩
  · have hk : H.length ≤ k := by simpa using hk
    rw [eo k (fun e => by subst e; have := (List.getElem?_eq_some_iff.1 ho).1; omega)]
    exact hs.free _ hk
  · rcases hget k y hy with ⟨rfl, rfl⟩ | ⟨rfl, rfl⟩ | ⟨n1, n2, hy⟩
    · simp only [SO.rel]
      exact ⟨b2, C2, [], b, C, bs ++ [b2], by rw [eo _ (Ne.symm hne)]; exact g1, e0, by rw [← h4, List.getElem?_append_right (Nat.le_refl _), Nat.sub_self]; rfl⟩
    · simp only [SO.rel]
      refine ⟨b, C, bs ++ [b2], o1, e0, ho1, hm1, by simp [h4], ?_, fun i hi hb => ?_⟩
      · have : b :: (bs ++ [b2]) = (b :: bs) ++ [b2] := rfl
        rw [this, List.nodup_append]
        exact ⟨h5, by simp, fun a ha c hc e => by have hc : c = b2 := by simpa using hc
                                                  subst hc; subst e; exact hb2 ha⟩
      · by_cases e : i < l.length
        · have e' : i < bs.length := by omega
          rw [List.getElem_append_left e', List.getElem_append_left e]
          refine hsame _ (fun e2 => ?_) _ (h6 i e e')
          exact (List.nodup_cons.1 h5).1 (by rw [← e2]; exact List.getElem_mem _)
        · have e3 : i = l.length := by simp at hi; omega
          subst e3
          rw [List.getElem_append_right (by omega), List.getElem_append_right (by omega)]
          simp only [h4, Nat.sub_self, List.getElem_cons_zero]
          exact hsame _ (fun e2 => hb2 (by simp [e2])) _ g2
    · refine SO.rel_more hmore (eo k n1) ?_
      by_cases hl : y.live = true
      · refine SO.rel_keep (hs.objs _ _ hy) (Map.le_refl ρ) (fun c hc z hz => hsame c (fun e => ?_) z hz)
        subst e
        exact n1 (hs.inj _ _ _ _ _ hy ho hl rfl (SO.owned_claimed hc) (claimed_main h1))
      · exact SO.rel_still (hs.objs _ _ hy) (Map.le_refl ρ) (by simpa using hl)
  · rcases hget k y hy with ⟨rfl, rfl⟩ | ⟨rfl, rfl⟩ | ⟨n1, n2, hy3⟩
    · cases hl
    · rcases hget k' y' hy' with ⟨rfl, rfl⟩ | ⟨rfl, rfl⟩ | ⟨n1', n2', hy4⟩
      · cases hl'
      · rfl
      · rw [eo k' n1'] at hc'
        exact absurd hc (hold _ _ n1' n2' hy4 hl' _ hc')
    · rw [eo k n1] at hc
      rcases hget k' y' hy' with ⟨rfl, rfl⟩ | ⟨rfl, rfl⟩ | ⟨n1', n2', hy4⟩
      · cases hl'
      · exact absurd hc' (hold _ _ n1 n2 hy3 hl _ hc)
      · rw [eo k' n1'] at hc'
        exact hs.inj _ _ _ _ _ hy3 hy4 hl hl' hc hc'
  · refine hsame c (fun e => ?_) _ (hs.keep _ _ hc)
    subst e
    rw [hs.apart _ _ _ ho rfl (SO.owned_main h1)] at hc; cases hc
  · rcases hget k y hy with ⟨rfl, rfl⟩ | ⟨rfl, rfl⟩ | ⟨n1, n2, hy⟩
    · cases hl
    · rcases hclaim c (SO.owned_claimed hc) with e | e
      · obtain ⟨b5, C5, l5, e1, e2⟩ := e
        exact hs.apart _ _ _ ho rfl ⟨b5, C5, l5, e1, e2.imp (fun e => ⟨rfl, e⟩) fun e => ⟨rfl, e⟩⟩
      · obtain ⟨b5, C5, l5, e1, e2⟩ := e
        rw [g1] at e1; injection e1 with e1; injection e1 with a1 a2 a3; subst a1; subst a3
        rcases e2 with e2 | e2
        · subst e2; exact hs.apart _ _ _ ho2 rfl (SO.owned_main g1)
        · cases e2
    · rw [eo k n1] at hc
      exact hs.apart _ _ _ hy hl hc
  · rcases hget k y hy with ⟨rfl, rfl⟩ | ⟨rfl, rfl⟩ | ⟨n1, n2, hy⟩
    · cases hl
    · rcases hclaim c hc with e | e
      · exact hs.fresh _ _ _ ho rfl e
      · exact hs.fresh _ _ _ ho2 rfl e
    · rw [eo k n1] at hc
      exact hs.fresh _ _ _ hy hl hc
  · obtain ⟨y, hy⟩ := hs.old _ hc
    by_cases e : c = b
    · subst e; exact ⟨_, ho1⟩
    · exact ⟨y, hsame c e _ hy⟩
/-! Maps from names to numbers that lie in it: what was laid, one behind the other. -/
def rint (v : Value) : Option (DataW Unit × List MemPlace) := match v with
  | .int .i64 n => some (.lit (.int .i64 n), [])
  | _ => none
def ifold (D : DataW Unit) (l : List (ByteArray × Int)) : DataW Unit := l.foldl (fun D p => D.put (klit p.1) (.lit (.int .i64 p.2))) D
def idata (l : List (ByteArray × Int)) : DataW Unit := ifold (.map []) l
def imapR (P : Program) (K : TypeId) (o : Obj) (l : List (ByteArray × Int)) : Prop :=
  ∃ es clock, o = .map es clock ∧ Fit P K rint es clock ∧ es.size ≤ l.length ∧ idata l = .map ((es.toList.map (rg P K rint)).foldr DataW.insert [])
def logAt (l : List (ByteArray × Int)) (s : ByteArray) : Int := l.foldl (fun a p => if p.1 == s then p.2 else a) 0
def logHas (l : List (ByteArray × Int)) (s : ByteArray) : Bool := l.any fun p => p.1 == s
theorem ifold_at {s : ByteArray} : ∀ {l : List (ByteArray × Int)} {D : DataW Unit} {a : Int}, Maps.IsMap D → D.atKey (klit s) (.lit (.int .i64 0)) = .lit (.int .i64 a) →
    (ifold D l).atKey (klit s) (.lit (.int .i64 0)) = .lit (.int .i64 (l.foldl (fun a p => if p.1 == s then p.2 else a) a))
  | [], _, _, _, h => h
  | p :: l, D, a, hD, h => by
    show (ifold (D.put (klit p.1) (.lit (.int .i64 p.2))) l).atKey _ _ = _
    refine (ifold_at (a := if p.1 == s then p.2 else a) (hD.put _ _) ?_).trans rfl
    by_cases e : p.1 = s
    · rw [if_pos ((bytes_iff _ _).2 e), ← e]
      exact Maps.atKey_put_same hD (klit_key _) _ _
    · rw [if_neg (fun e2 => e (bytes_eq e2)), Maps.atKey_put_other (fun e2 => e (klit_inj e2).symm)]
      exact h
theorem ifold_has {s : ByteArray} : ∀ {l : List (ByteArray × Int)} {D : DataW Unit}, Maps.IsMap D → Maps.has (ifold D l) (klit s) = (Maps.has D (klit s) || l.any fun p => p.1 == s)
  | [], D, _ => by simp [ifold]
  | p :: l, D, hD => by
    show Maps.has (ifold (D.put (klit p.1) (.lit (.int .i64 p.2))) l) (klit s) = _
    rw [ifold_has (hD.put _ _), List.any_cons]
    by_cases e : p.1 = s
    · have h1 : (p.1 == s) = true := (bytes_iff _ _).2 e
      rw [h1, ← e, Maps.has_put_same hD (klit_key _)]; simp
    · have h1 : (p.1 == s) = false := by
        cases h : p.1 == s with
        | false => rfl
        | true => exact absurd (bytes_eq h) e
      rw [h1, Maps.has_put_other (fun e2 => e (klit_inj e2).symm)]; simp
theorem imapR_owns {K : TypeId} {o : Obj} {l : List (ByteArray × Int)} (h : imapR P K o l) {w : World} {b : Nat} (hb : w.heap[b]? = some o) : w.ownsMap P K rint b l.length (idata l) := by
  obtain ⟨es, clock, rfl, hF, hs, hD⟩ := h
  exact ⟨es, clock, hb, hF, hs, hD⟩
theorem imapR_of {K : TypeId} {l : List (ByteArray × Int)} {w : World} {b : Nat} (h : w.ownsMap P K rint b l.length (idata l)) : ∃ o, w.heap[b]? = some o ∧ imapR P K o l := by
  obtain ⟨es, clock, hb, hF, hs, hD⟩ := h
  exact ⟨_, hb, es, clock, rfl, hF, hs, hD⟩
def intMap (P : Program) (t : TypeId) : Option (TypeId × TypeId) := match P.underlying t with
  | some (.map K e) => match P.underlying K, P.underlying e with
    | some .string, some (.int .i64) => some (K, e)
    | _, _ => none
  | _ => none
theorem intMap_some {t K e : TypeId} (h : intMap P t = some (K, e)) : P.underlying t = some (.map K e) ∧ P.underlying K = some .string := by
  unfold intMap at h
  split at h
  · rename_i K' e' hu
    split at h
    · rename_i h1 h2
      injection h with h; injection h with e1 e2; subst e1; subst e2
      exact ⟨hu, h1⟩
    · cases h
  · cases h
def zeroZero (P : Program) (e : TypeId) : Bool := match P.info? e with
  | some i => match i.zero with
    | some (.int .i64 (.ofNat 0)) => true
    | _ => false
  | none => false
theorem zeroZero_run {e : TypeId} (h : zeroZero P e = true) : (zeroValue e).run P w = .ok (.int .i64 0) w := by
  unfold zeroZero at h
  split at h
  · rename_i i hi
    split at h
    · rename_i hz; simp [zeroValue, typeInfo, hi, hz]
    · cases h
  · cases h
def xmakeMaps (P : Program) (H : Heap) (t : TypeId) : Tree (SV × Heap) := match intMap P t with
  | some (K, _) => .ret (.mp H.length, H ++ [.imap (imapR P K) []])
  | none => xmakeMap P H t
theorem xmakeMaps_sound {t : TypeId} {Q : SV × Heap → Prop} (hs : Sat E ρ H w) (h : (xmakeMaps P H t).Leads Q) :
    ∃ sv H' v w' ρ', Q (sv, H') ∧ (Instr.makeMap t none).run P w = .ok v w' ∧ SV.rel E.Z ρ' sv v ∧ Sat E ρ' H' w' ∧ Map.le ρ ρ' ∧ (∀ k, k < H.length → ρ' k = ρ k) ∧ H.length ≤ H'.length := by
  unfold xmakeMaps at h
  split at h
  · rename_i K e hp
    refine ⟨_, _, .map (some w.heap.size), w.alloc (.map #[] 0), _, h, rfl, ?_, Sat.alloc (C := 0) hs ?_, Map.le_put (hs.free _ (Nat.le_refl _)), fun k hk => put_ne (by omega), by simp⟩
    · simp only [SV.rel]; exact ⟨_, _, _, Map.put_same _ _ _, rfl⟩
    · simp only [SO.rel]
      exact ⟨_, _, _, Map.put_same _ _ _, heap_alloc_new w _, #[], 0, rfl, ⟨by simp, stamped_empty 0, by simp⟩, Nat.le_refl _, rfl⟩
  · exact xmakeMap_sound hs h
def xlookups (P : Program) (H : Heap) (t : TypeId) (m x : SV) (c : Bool) : Tree SV := match m, x, intMap P t with
  | .mp h, .lit (.string s), some (K, e) => match H[h]? with
    | some (.imap R l) => if zeroZero P e then .need (R = imapR P K ∧ s.size ≤ maxLen) (.ret (if c then .tup [.lit (.int .i64 (logAt l s)), .lit (.bool (logHas l s))] else .lit (.int .i64 (logAt l s)))) else .fail
    | _ => .fail
  | m, x, _ => if c then .fail else xlookup P H t m x
theorem xlookups_sound {t : TypeId} {m x : SV} {c : Bool} {vm vx : Value} {Q : SV → Prop} (hs : Sat E ρ H w) (hm : SV.rel E.Z ρ m vm) (hx : SV.rel E.Z ρ x vx) (h : (xlookups P H t m x c).Leads Q) : Yields P E ρ (Instr.lookup t vm vx c) w Q := by
  unfold xlookups at h
  split at h
  case h_2 =>
    split at h
    · exact h.elim
    · rename_i hc
      have : c = false := by simpa using hc
      subst this
      exact xlookup_sound hs hm hx h
  rename_i hd s K e hp
  obtain ⟨hu, hK⟩ := intMap_some hp
  split at h
  case h_2 => exact h.elim
  rename_i R l ho
  split at h
  case isFalse => exact h.elim
  rename_i hz
  obtain ⟨⟨hR, hsz⟩, h⟩ := h
  have := rel_lit hx; subst this
  simp only [SV.rel] at hm
  obtain ⟨b, C, bs, h1, rfl⟩ := hm
  have hr := hs.objs _ _ ho
  simp only [SO.rel] at hr
  obtain ⟨b', C', o, h1', h2, h3⟩ := hr
  rw [h1] at h1'; injection h1' with h1'; injection h1' with e1 e2 e3; subst e1; subst e3
  subst hR
  have hown := imapR_owns h3 h2
  have hkl : keyOf P K (.string s) = some (klit s) := Go.WideMaps.keyOf_string_mk hK hsz
  have hat : (idata l).atKey (klit s) (.lit (.int .i64 0)) = .lit (.int .i64 (logAt l s)) := ifold_at Maps.isMap_empty rfl
  have hhas : Maps.has (idata l) (klit s) = logHas l s := (ifold_has Maps.isMap_empty).trans (by simp [Maps.has, logHas])
  have val : ∀ v ps, rint v = some ((idata l).atKey (klit s) (.lit (.int .i64 0)), ps) → v = .int .i64 (logAt l s) := fun v ps hv => by
    rw [hat] at hv
    unfold rint at hv
    split at hv
    · simp only [Option.some.injEq, Prod.mk.injEq, DataW.lit.injEq, Lit.int.injEq, true_and] at hv
      rw [hv.1]
    · cases hv
  cases c with
  | false =>
    obtain ⟨v, ps, hrun, hv⟩ := hown.lookup (Maps.string_keyed hK) hu (zeroZero_run (w := w) hz) (zd := .lit (.int .i64 0)) (zp := []) rfl hkl
    have := val v ps hv; subst this
    exact ⟨_, _, h, hrun, by simp [SV.rel]⟩
  | true =>
    obtain ⟨v, ps, hrun, hv⟩ := hown.look_ok (Maps.string_keyed hK) hu (zeroZero_run (w := w) hz) (zd := .lit (.int .i64 0)) (zp := []) rfl hkl
    have := val v ps hv; subst this
    rw [hhas] at hrun
    refine ⟨_, _, h, hrun, ?_⟩
    simp only [if_true, SV.rel]
    exact ⟨[_, _], rfl, _, _, rfl, by simp [SV.rel], _, _, rfl, by simp [SV.rel], by simp [SV.rels]⟩
def xupdates (P : Program) (H : Heap) (t : TypeId) (m x v : SV) : Tree (Nat × Heap) := match m, x, v, intMap P t with
  | .mp h, .lit (.string s), .lit (.int .i64 n), some (K, _) => match H[h]? with
    | some (.imap R l) => .need (R = imapR P K ∧ s.size ≤ maxLen ∧ l.length < maxLen) (.ret (h, H.set h (.imap R (l ++ [(s, n)]))))
    | _ => .fail
  | m, x, v, _ => xupdate P H t m x v
theorem xupdates_sound {t : TypeId} {m x u : SV} {vm vx vu : Value} {Q : Nat × Heap → Prop} (hs : Sat E ρ H w) (hm : SV.rel E.Z ρ m vm) (hx : SV.rel E.Z ρ x vx) (hu0 : SV.rel E.Z ρ u vu) (h : (xupdates P H t m x u).Leads Q) :
    ∃ h0 H' w' ρ', Q (h0, H') ∧ m = .mp h0 ∧ (Instr.mapUpdate t vm vx vu).run P w = .ok () w' ∧ Sat E ρ' H' w' ∧ More ρ ρ' ∧ (∀ k, k ≠ h0 → ρ' k = ρ k) ∧ H'.length = H.length := by
  unfold xupdates at h
  split at h
  case h_2 => exact xupdate_sound hs hm hx hu0 h
  rename_i hd s n K e hp
  obtain ⟨hu, hK⟩ := intMap_some hp
  split at h
  case h_2 => exact h.elim
  rename_i R l ho
  obtain ⟨⟨hR, hsz, hlen⟩, h⟩ := h
  subst hR
  have := rel_lit hx; subst this
  have := rel_lit hu0; subst this
  simp only [SV.rel] at hm
  obtain ⟨b, C, bs, h1, rfl⟩ := hm
  have hr := hs.objs _ _ ho
  simp only [SO.rel] at hr
  obtain ⟨b', C', o, h1', h2, h3⟩ := hr
  rw [h1] at h1'; injection h1' with h1'; injection h1' with e1 e2 e3; subst e1; subst e2; subst e3
  have hown := imapR_owns h3 h2
  have hkl : keyOf P K (.string s) = some (klit s) := Go.WideMaps.keyOf_string_mk hK hsz
  obtain ⟨w1, hrun, hown1, hgrow⟩ := hown.update (Maps.string_keyed hK) hu hlen (val := .int .i64 n) (d := .lit (.int .i64 n)) (ps := []) hkl rfl
  have hown2 : w1.ownsMap P K rint b (l ++ [(s, n)]).length (idata (l ++ [(s, n)])) := by
    have e : idata (l ++ [(s, n)]) = (idata l).put (klit s) (.lit (.int .i64 n)) := by simp [idata, ifold, List.foldl_append]
    rw [e, List.length_append]; exact hown1
  obtain ⟨o1, ho1, hm1⟩ := imapR_of hown2
  refine ⟨hd, _, w1, ρ, h, rfl, hrun, Sat.write hs ho rfl (SO.owned_main h1) hgrow.os hgrow.tape hgrow.output ⟨o1, ho1⟩ (fun k hk y hy => ?_) ?_ rfl rfl, ⟨fun k b C l hk => ⟨[], by rw [hk, List.append_nil]⟩, fun k hk => hk⟩, fun k _ => rfl, by simp⟩
  · rw [hgrow.block k (block_lt hy) (by simpa using hk)]; exact hy
  · simp only [SO.rel]
    exact ⟨b, C, o1, h1, ho1, hm1⟩
end Sx
