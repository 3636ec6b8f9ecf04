/- Rows of rows: one of them taken out, and laid back. -/
import Derived.Test.YtlcobcpgaoeijaaGreatSxPn
set_option linter.unusedVariables false
set_option linter.unusedSimpArgs false
namespace Sx
open Go
variable {P : Program} {E : Env} {ρ : Map} {S S' : Slots} {H : Heap} {a : Act} {w w' : World} {Z : Zone}
mutual
def SV.sub (h h2 : Nat) : SV → SV
  | .ptr k o => .ptr (if Nat.beq k h then h2 else k) o
  | .ept k wd i j => .ept (if Nat.beq k h then h2 else k) wd i j
  | .sl k wd o l => .sl (if Nat.beq k h then h2 else k) wd o l
  | .agg cs => .agg (SV.subs h h2 cs)
  | .tup cs => .tup (SV.subs h h2 cs)
  | .fn f cs => .fn f (SV.subs h h2 cs)
  | .lit x => .lit x
  | .imm t l => .imm t l
  | .ipt t l i j => .ipt t l i j
  | .junk => .junk
  | .mp k => .mp (if Nat.beq k h then h2 else k)
  | .tref k i => if Nat.beq k h then .junk else .tref k i
  | .kseq f mt k => .kseq f mt (if Nat.beq k h then h2 else k)
def SV.subs (h h2 : Nat) : List SV → List SV
  | [] => []
  | s :: r => SV.sub h h2 s :: SV.subs h h2 r
end
def SO.sub (h h2 : Nat) : SO → SO
  | .cells et cs => .cells et (SV.subs h h2 cs)
  | .lists et e2 t A B (some (k, n)) D => .lists et e2 t A B (some (if Nat.beq k h then h2 else k, n)) D
  | .alias _ _ => .dead
  | .dview _ _ _ _ _ _ _ => .dead
  | .prow et e2 t x g n => .prow et e2 t x (if Nat.beq g h then h2 else g) n
  | o => o
theorem SO.sub_live {h h2 : Nat} {o : SO} : (SO.sub h h2 o).live = o.live := by
  cases o <;> first | rfl | skip
  rename_i x D
  cases x <;> rfl
theorem SO.sub_deep {h h2 : Nat} {o : SO} : (SO.sub h h2 o).deep = o.deep := by
  cases o <;> first | rfl | skip
  rename_i x D
  cases x <;> rfl
theorem SO.sub_soft {h h2 : Nat} {o : SO} : (SO.sub h h2 o).soft = o.soft := by
  cases o <;> first | rfl | skip
  rename_i x D
  cases x <;> rfl
structure Renamed (ρ ρ' : Map) (h h2 : Nat) : Prop where
  old : ∀ k, k ≠ h → ∀ x, ρ k = some x → ρ' k = some x
  at' : ∀ b C l, ρ h = some (.at b C l) → ∃ l', ρ' h2 = some (.at b C l')
  nil : ρ h = some .nil → ρ' h2 = some .nil
theorem Renamed.at_ {ρ ρ' : Map} {h h2 : Nat} (hr : Renamed ρ ρ' h h2) {k b C : Nat} {l : List Nat} (e : ρ k = some (.at b C l)) : ∃ l', ρ' (if Nat.beq k h then h2 else k) = some (.at b C l') := by
  by_cases hk : k = h
  · subst hk; simp only [Nat.beq_refl, if_true]; exact hr.at' _ _ _ e
  · rw [if_neg (fun e => hk (Nat.eq_of_beq_eq_true e))]; exact ⟨l, hr.old _ hk _ e⟩
theorem Renamed.nil_ {ρ ρ' : Map} {h h2 : Nat} (hr : Renamed ρ ρ' h h2) {k : Nat} (e : ρ k = some .nil) : ρ' (if Nat.beq k h then h2 else k) = some .nil := by
  by_cases hk : k = h
  · subst hk; simp only [Nat.beq_refl, if_true]; exact hr.nil e
  · rw [if_neg (fun e => hk (Nat.eq_of_beq_eq_true e))]; exact hr.old _ hk _ e
mutual
theorem rel_sub {ρ ρ' : Map} {h h2 : Nat} (hr : Renamed ρ ρ' h h2) : ∀ {s : SV} {v : Value}, SV.rel Z ρ s v → SV.rel Z ρ' (SV.sub h h2 s) v
  | .lit _, _, g => by simpa only [SV.sub, SV.rel] using g
  | .ptr _ _, _, g => by
    simp only [SV.sub, SV.rel] at *
    obtain ⟨b, C, l, g1, g2⟩ := g
    obtain ⟨l', g3⟩ := hr.at_ g1
    exact ⟨b, C, l', g3, g2⟩
  | .ept _ _ _ _, _, g => by
    simp only [SV.sub, SV.rel] at *
    obtain ⟨b, C, l, g1, g2⟩ := g
    obtain ⟨l', g3⟩ := hr.at_ g1
    exact ⟨b, C, l', g3, g2⟩
  | .sl _ _ _ _, _, g => by
    simp only [SV.sub, SV.rel] at *
    rcases g with ⟨g1, g2⟩ | ⟨b, C, l, cap, o, g1, g2⟩
    · exact .inl ⟨hr.nil_ g1, g2⟩
    · obtain ⟨l', g3⟩ := hr.at_ g1
      exact .inr ⟨b, C, l', cap, o, g3, g2⟩
  | .mp _, _, g => by
    simp only [SV.sub, SV.rel] at *
    obtain ⟨b, C, l, g1, g2⟩ := g
    obtain ⟨l', g3⟩ := hr.at_ g1
    exact ⟨b, C, l', g3, g2⟩
  | .tref k _, _, g => by
    simp only [SV.sub]
    split
    · simp only [SV.rel]
    · rename_i hne
      simp only [SV.rel] at *
      obtain ⟨b, C, l, k', g1, g2⟩ := g
      exact ⟨b, C, l, k', hr.old _ (fun e => hne (by subst e; exact Nat.beq_refl _)) _ g1, g2⟩
  | .kseq _ _ _, _, g => by
    simp only [SV.sub, SV.rel] at *
    obtain ⟨b, C, l, k', fz, g1, g2⟩ := g
    obtain ⟨l', g3⟩ := hr.at_ g1
    exact ⟨b, C, l', k', fz, g3, g2⟩
  | .imm _ _, _, g => by simpa only [SV.sub, SV.rel] using g
  | .ipt _ _ _ _, _, g => by simpa only [SV.sub, SV.rel] using g
  | .junk, _, _ => by simp only [SV.sub, SV.rel]
  | .agg _, _, g => by simp only [SV.sub, SV.rel] at *; obtain ⟨vs, h1, h2⟩ := g; exact ⟨vs, h1, rels_sub hr h2⟩
  | .tup _, _, g => by simp only [SV.sub, SV.rel] at *; obtain ⟨vs, h1, h2⟩ := g; exact ⟨vs, h1, rels_sub hr h2⟩
  | .fn _ _, _, g => by simp only [SV.sub, SV.rel] at *; obtain ⟨vs, h1, h2⟩ := g; exact ⟨vs, h1, rels_sub hr h2⟩
theorem rels_sub {ρ ρ' : Map} {h h2 : Nat} (hr : Renamed ρ ρ' h h2) : ∀ {s : List SV} {v : List Value}, SV.rels Z ρ s v → SV.rels Z ρ' (SV.subs h h2 s) v
  | [], _, g => by simpa only [SV.subs, SV.rels] using g
  | _ :: _, _, g => by
    simp only [SV.subs, SV.rels] at *
    obtain ⟨v, r, h1, h2, h3⟩ := g
    exact ⟨v, r, h1, rel_sub hr h2, rels_sub hr h3⟩
end
theorem SO.rel_sub {ρ ρ' : Map} {h h2 k : Nat} (hr : Renamed ρ ρ' h h2) (hk : k ≠ h) {o : SO} (g : SO.rel Z ρ w k o) : SO.rel Z ρ' w k (SO.sub h h2 o) := by
  cases o with
  | cells et cs =>
    simp only [SO.sub, SO.rel] at *
    obtain ⟨b, C, vs, h1, h2, h3⟩ := g
    exact ⟨b, C, vs, hr.old _ hk _ h1, h2, rels_sub hr h3⟩
  | row et t l =>
    simp only [SO.sub, SO.rel] at *
    rcases g with ⟨h1, h2⟩ | ⟨b, C, vs, h1, h2⟩
    · exact .inl ⟨hr.old _ hk _ h1, h2⟩
    · exact .inr ⟨b, C, vs, hr.old _ hk _ h1, h2⟩
  | dead => trivial
  | view et t l =>
    simp only [SO.sub, SO.rel] at *
    rcases g with ⟨h1, h2⟩ | ⟨b, C, bs, vs, h1, h2⟩
    · exact .inl ⟨hr.old _ hk _ h1, h2⟩
    · exact .inr ⟨b, C, bs, vs, hr.old _ hk _ h1, h2⟩
  | kept et e2 t l =>
    simp only [SO.sub, SO.rel] at *
    rcases g with ⟨h1, h2⟩ | ⟨b, C, bs, vs, us, h1, h2⟩
    · exact .inl ⟨hr.old _ hk _ h1, h2⟩
    · exact .inr ⟨b, C, bs, vs, us, hr.old _ hk _ h1, h2⟩
  | lists et e2 t A B x D =>
    cases x with
    | none =>
      simp only [SO.sub, SO.rel] at *
      rcases g with ⟨h1, h2⟩ | ⟨b, C, ps, ds, vs, ua, ub, ux, ud, rest, g1, g2⟩
      · exact .inl ⟨hr.old _ hk _ h1, h2⟩
      · exact .inr ⟨b, C, ps, ds, vs, ua, ub, ux, ud, rest, hr.old _ hk _ g1, g2⟩
    | some y =>
      obtain ⟨y, n⟩ := y
      simp only [SO.sub, SO.rel] at *
      rcases g with ⟨h1, h2, h3, h4, h5⟩ | ⟨b, C, ps, ds, vs, ua, ub, ux, ud, rest, g1, g2, g3, g4, g5, g6, g7, g8, g9, ⟨v, g10, g11⟩, g12⟩
      · cases h4
      · have := Sx.rel_sub hr (s := .sl y t.width 0 n) g11
        simp only [SV.sub] at this
        exact .inr ⟨b, C, ps, ds, vs, ua, ub, ux, ud, rest, hr.old _ hk _ g1, g2, g3, g4, g5, g6, g7, g8, g9, ⟨v, g10, this⟩, g12⟩
  | tmap R et l =>
    simp only [SO.sub, SO.rel] at *
    obtain ⟨b, C, bs, x, h1, h2⟩ := g
    exact ⟨b, C, bs, x, hr.old _ hk _ h1, h2⟩
  | imap R l =>
    simp only [SO.sub, SO.rel] at *
    obtain ⟨b, C, x, h1, h2⟩ := g
    exact ⟨b, C, x, hr.old _ hk _ h1, h2⟩
  | alias _ _ => trivial
  | dview _ _ _ _ _ _ _ => trivial
  | prow et e2 t x g0 n =>
    simp only [SO.sub, SO.rel] at *
    obtain ⟨c, b, vs, v, g1, g2, g3, g4, g5, g6, g7, g8⟩ := g
    have := Sx.rel_sub hr (s := .sl g0 c.u.width 0 n) g8
    simp only [SV.sub] at this
    exact ⟨c, b, vs, v, g1, hr.old _ hk _ g2, g3, g4, g5, g6, g7, this⟩
  | drow et e2 t l =>
    simp only [SO.sub, SO.rel] at *
    obtain ⟨c, hc, ⟨h1, h2⟩ | ⟨b, C, ds, vs, h1, h2⟩⟩ := g
    · exact ⟨c, hc, .inl ⟨hr.old _ hk _ h1, h2⟩⟩
    · exact ⟨c, hc, .inr ⟨b, C, ds, vs, hr.old _ hk _ h1, h2⟩⟩
  | hold et t l =>
    simp only [SO.sub, SO.rel] at *
    rcases g with ⟨h1, h2⟩ | ⟨b, C, bs, vs, h1, h2⟩
    · exact .inl ⟨hr.old _ hk _ h1, h2⟩
    · exact .inr ⟨b, C, bs, vs, hr.old _ hk _ h1, h2⟩
theorem Sat.part {h : Nat} {o o2 o3 : SO} {x2 x3 : Blk} (hs : Sat E ρ H w) (ho : H[h]? = some o) (hl : o.live = true) (hdeep : o.deep = true) (hsoft : o.soft = false)
    (hat : ∀ b C l, ρ h = some (.at b C l) → ∃ l', x2 = .at b C l') (hnil : ρ h = some .nil → x2 = .nil)
    (h2 : ∀ k, claimed (some x2) k → claimed (ρ h) k) (h3 : ∀ k, claimed (some x3) k → claimed (ρ h) k) (h23 : ∀ k, claimed (some x2) k → ¬ claimed (some x3) k)
    (hr2 : SO.rel E.Z ((ρ.put H.length x2).put (H.length + 1) x3) w H.length o2) (hr3 : SO.rel E.Z ((ρ.put H.length x2).put (H.length + 1) x3) w (H.length + 1) o3) :
    Sat E ((ρ.put H.length x2).put (H.length + 1) x3) ((H.set h .dead).map (SO.sub h H.length) ++ [o2, o3]) w ∧ Renamed ρ ((ρ.put H.length x2).put (H.length + 1) x3) h H.length := by
  have hlt : h < H.length := getElem?_lt' ho
  have e2 : ((ρ.put H.length x2).put (H.length + 1) x3) H.length = some x2 := by rw [put_ne (by omega), Map.put_same]
  have e3 : ((ρ.put H.length x2).put (H.length + 1) x3) (H.length + 1) = some x3 := Map.put_same _ _ _
  have eo : ∀ k, k < H.length → ((ρ.put H.length x2).put (H.length + 1) x3) k = ρ k := fun k hk => by rw [put_ne (by omega), put_ne (by omega)]
  have hren : Renamed ρ ((ρ.put H.length x2).put (H.length + 1) x3) h H.length := by
    refine ⟨fun k hk x hx => ?_, fun b C l e => ?_, fun e => ?_⟩
    · have : k < H.length := by
        rcases Nat.lt_or_ge k H.length with h1 | h1
        · exact h1
        · rw [hs.free _ h1] at hx; cases hx
      rw [eo k this]; exact hx
    · obtain ⟨l', e'⟩ := hat b C l e
      exact ⟨l', by rw [e2, e']⟩
    · rw [e2, hnil e]
  refine ⟨?_, hren⟩
  have hget : ∀ k (y : SO), ((H.set h .dead).map (SO.sub h H.length) ++ [o2, o3])[k]? = some y → (∃ z, k < H.length ∧ k ≠ h ∧ H[k]? = some z ∧ y = SO.sub h H.length z) ∨ y = .dead ∨ (k = H.length ∧ y = o2) ∨ (k = H.length + 1 ∧ y = o3) := fun k y hy => by
    rw [List.getElem?_append] at hy
    split at hy
    · rename_i hk
      simp at hk
      rw [List.getElem?_map] at hy
      by_cases e : k = h
      · subst e
        rw [List.getElem?_set_self hk] at hy
        injection hy with hy
        exact .inr (.inl hy.symm)
      · rw [List.getElem?_set_ne (Ne.symm e)] at hy
        cases hH : H[k]? with
        | none => rw [hH] at hy; cases hy
        | some z => rw [hH] at hy; injection hy with hy; exact .inl ⟨z, hk, e, rfl, hy.symm⟩
    · rename_i hk
      simp only [List.length_map, List.length_set] at hk hy
      match hm : k - H.length, hy with
      | 0, hy => simp at hy; exact .inr (.inr (.inl ⟨by omega, hy.symm⟩))
      | 1, hy => simp at hy; exact .inr (.inr (.inr ⟨by omega, hy.symm⟩))
      | n + 2, hy => simp at hy
  have hcl : ∀ k c, k < H.length → claimed (((ρ.put H.length x2).put (H.length + 1) x3) k) c → claimed (ρ k) c := fun k c hk hc => by rw [eo k hk] at hc; exact hc
  have hdis : ∀ k (z : SO) c, k ≠ h → H[k]? = some z → z.live = true → claimed (ρ k) c → ¬ claimed (ρ h) c := fun k z c hne hz hlz hc hc2 => hne (hs.inj _ _ _ _ _ hz ho hlz hl hc hc2)
  refine ⟨hs.os, hs.tape, hs.output, ?_, ?_, ?_, hs.zle, hs.keep, ?_, ?_, hs.old⟩
  · intro k hk
    simp at hk
    rw [put_ne (by omega), put_ne (by omega)]; exact hs.free _ (by omega)
  · intro k y hy
    rcases hget k y hy with ⟨z, g1, g2, g3, rfl⟩ | rfl | ⟨rfl, rfl⟩ | ⟨rfl, rfl⟩
    · exact SO.rel_sub hren g2 (hs.objs _ _ g3)
    · trivial
    · exact hr2
    · exact hr3
  · intro k k' y y' c hy hy' hl1 hl2 hc hc'
    rcases hget k y hy with ⟨z, g1, g2, g3, rfl⟩ | rfl | ⟨rfl, rfl⟩ | ⟨rfl, rfl⟩ <;> rcases hget k' y' hy' with ⟨z', g1', g2', g3', rfl⟩ | rfl | ⟨rfl, rfl⟩ | ⟨rfl, rfl⟩
    · rw [SO.sub_live] at hl1 hl2
      exact hs.inj _ _ _ _ _ g3 g3' hl1 hl2 (hcl _ _ g1 hc) (hcl _ _ g1' hc')
    · cases hl2
    · rw [SO.sub_live] at hl1; rw [e2] at hc'
      exact absurd (h2 _ hc') (hdis _ _ _ g2 g3 hl1 (hcl _ _ g1 hc))
    · rw [SO.sub_live] at hl1; rw [e3] at hc'
      exact absurd (h3 _ hc') (hdis _ _ _ g2 g3 hl1 (hcl _ _ g1 hc))
    · cases hl1
    · cases hl1
    · cases hl1
    · cases hl1
    · rw [SO.sub_live] at hl2; rw [e2] at hc
      exact absurd (h2 _ hc) (hdis _ _ _ g2' g3' hl2 (hcl _ _ g1' hc'))
    · cases hl2
    · rfl
    · rw [e2] at hc; rw [e3] at hc'
      exact absurd hc' (h23 _ hc)
    · rw [SO.sub_live] at hl2; rw [e3] at hc
      exact absurd (h3 _ hc) (hdis _ _ _ g2' g3' hl2 (hcl _ _ g1' hc'))
    · cases hl2
    · rw [e3] at hc; rw [e2] at hc'
      exact absurd hc (h23 _ hc')
    · rfl
  · have hap : ∀ c, claimed (ρ h) c → E.F c = none := fun c hc => by
      obtain ⟨b, C, l, h1, h2⟩ := hc
      exact hs.apart _ _ _ ho hl ⟨b, C, l, h1, h2.imp (fun h => ⟨hsoft, h⟩) (fun h => ⟨hdeep, h⟩)⟩
    intro k y c hy hl1 hc
    rcases hget k y hy with ⟨z, g1, g2, g3, rfl⟩ | rfl | ⟨rfl, rfl⟩ | ⟨rfl, rfl⟩
    · rw [SO.sub_live] at hl1
      refine hs.apart _ _ _ g3 hl1 ?_
      unfold SO.owned at hc ⊢
      rw [SO.sub_deep, SO.sub_soft, eo k g1] at hc
      exact hc
    · cases hl1
    · have := SO.owned_claimed hc
      rw [e2] at this
      exact hap _ (h2 _ this)
    · have := SO.owned_claimed hc
      rw [e3] at this
      exact hap _ (h3 _ this)
  · intro k y c hy hl1 hc
    rcases hget k y hy with ⟨z, g1, g2, g3, rfl⟩ | rfl | ⟨rfl, rfl⟩ | ⟨rfl, rfl⟩
    · rw [SO.sub_live] at hl1
      exact hs.fresh _ _ _ g3 hl1 (hcl _ _ g1 hc)
    · cases hl1
    · rw [e2] at hc
      exact hs.fresh _ _ _ ho hl (h2 _ hc)
    · rw [e3] at hc
      exact hs.fresh _ _ _ ho hl (h3 _ hc)
theorem Sat.relabel {h h2 : Nat} (hs : Sat E ρ H w) (hr : Renamed ρ ρ h h2) (hd : ∀ o : SO, H[h]? = some o → o = .dead) : Sat E ρ (H.map (SO.sub h h2)) w := by
  have hget : ∀ k (y : SO), (H.map (SO.sub h h2))[k]? = some y → ∃ z, H[k]? = some z ∧ y = SO.sub h h2 z := fun k y hy => by
    rw [List.getElem?_map] at hy
    cases hH : H[k]? with
    | none => rw [hH] at hy; cases hy
    | some z => rw [hH] at hy; injection hy with hy; exact ⟨z, hH, hy.symm⟩
  refine ⟨hs.os, hs.tape, hs.output, fun k hk => hs.free k (by simpa using hk), fun k y hy => ?_, fun k k' y y' c hy hy' hl1 hl2 hc hc' => ?_, hs.zle, hs.keep, fun k y c hy hl1 hc => ?_, fun k y c hy hl1 hc => ?_, hs.old⟩
  · obtain ⟨z, hz, rfl⟩ := hget k y hy
    by_cases e : k = h
    · subst e; rw [hd z hz]; trivial
    · exact SO.rel_sub hr e (hs.objs _ _ hz)
  · obtain ⟨z, hz, rfl⟩ := hget k y hy
    obtain ⟨z', hz', rfl⟩ := hget k' y' hy'
    rw [SO.sub_live] at hl1 hl2
    exact hs.inj _ _ _ _ _ hz hz' hl1 hl2 hc hc'
  · obtain ⟨z, hz, rfl⟩ := hget k y hy
    rw [SO.sub_live] at hl1
    refine hs.apart _ _ _ hz hl1 ?_
    unfold SO.owned at hc ⊢
    rw [SO.sub_deep, SO.sub_soft] at hc; exact hc
  · obtain ⟨z, hz, rfl⟩ := hget k y hy
    rw [SO.sub_live] at hl1
    exact hs.fresh _ _ _ hz hl1 hc
def findL (kind : Nat) (e2 : TypeId) : Heap → Nat → Option Nat
  | [], _ => none
  | .lists _ e2' _ _ _ x _ :: r, k => if Nat.beq e2' e2 && (match x with | none => Nat.ble 3 kind | some _ => Nat.ble kind 2) then some k else findL kind e2 r (k + 1)
  | _ :: r, k => findL kind e2 r (k + 1)
def subS (h h2 : Nat) (S : Slots) : Slots := fun t => SV.sub h h2 (S t)
def Ty.bare : (t : Ty) → t.den → Prop
  | .pair a b, x => a.bare x.1 ∧ b.bare x.2
  | .imm _, l => l = []
  | .opt t, x => match x with
    | none => True
    | some d => t.bare d
  | _, _ => True
theorem reads_bare {Z Z' : Zone} : ∀ {t : Ty} {x : t.den} {vs : List Value}, t.bare x → t.reads Z x vs → t.reads Z' x vs
  | .int _, _, _, _, h => h
  | .bool, _, _, _, h => h
  | .str, _, _, _, h => h
  | .unit, _, _, _, h => h
  | .pair a b, x, vs, hp, h => by
    obtain ⟨v1, v2, h0, h1, h2⟩ := h
    exact ⟨v1, v2, h0, reads_bare hp.1 h1, reads_bare hp.2 h2⟩
  | .imm _, l, vs, hp, h => by
    obtain ⟨v, h0, h⟩ := h
    refine ⟨v, h0, ?_⟩
    rcases h with h | ⟨b, o, cap, arr, et, fz, g1, _⟩ | h
    · exact .inl h
    · refine .inr (.inr ⟨hp, ⟨b, o, none⟩, cap, ?_⟩)
      have : l = [] := hp
      rw [this] at g1
      exact g1
    · exact .inr (.inr h)
  | .opt t, x, vs, hp, h => match x with
    | some d => reads_bare (t := t) (x := d) hp h
    | none => h
def bareT {α : Type} (t : Ty) (l : List t.den) (K : Tree α) : Tree α := if t.plain then K else .need (∀ x ∈ l, t.bare x) K
theorem bareT_leads {α : Type} {t : Ty} {l : List t.den} {K : Tree α} {Q : α → Prop} (h : (bareT t l K).Leads Q) : K.Leads Q ∧ ∀ (Z Z' : Zone) (vs : List Value) (o : Nat), t.lies Z l vs o → t.lies Z' l vs o := by
  unfold bareT at h
  split at h
  · rename_i hp
    exact ⟨h, fun Z Z' vs o hl => lies_plain hp hl⟩
  · exact ⟨h.2, fun Z Z' vs o hl i hi => reads_bare (h.1 _ (List.getElem_mem hi)) (hl i hi)⟩
def backT {α : Type} (et e2 : TypeId) : (t : Ty) → List (List t.den) → (SO → Tree α) → Tree α
  | .opt t, B, K => .need (∃ B' : List (List t.den), B = B'.map (List.map some)) (.any (List (List t.den)) (fun B' => B = B'.map (List.map some)) fun B' => K (.lists et e2 t [] [] none B'))
  | t, B, K => K (.lists et e2 t [] [] none B)
theorem apart_opt {V W : Zone} {e2 : TypeId} {t : Ty} : ∀ {l : List (List t.den)} {us : List Value} {bs : List Nat}, (Ty.opt t).apart V W e2 (l.map (List.map some)) us bs → t.apart V W e2 l us bs
  | [], _, _, h => h
  | L :: l, us, bs, h => by
    obtain ⟨v, vs, h0, h⟩ := h
    refine ⟨v, vs, h0, ?_⟩
    rcases h with ⟨h1, h2, h3⟩ | ⟨b, o, cap, arr, l', h1, h2, h0, h3, h4, h5, h6, h7, h8⟩
    · exact .inl ⟨List.map_eq_nil_iff.1 h1, h2, apart_opt h3⟩
    · refine .inr ⟨b, o, cap, arr, l', h1, by rw [List.length_map] at h2; exact h2, h0, h3, h4, by rw [List.length_map] at h5; exact h5, h6, fun i hi => ?_, apart_opt h8⟩
      have := h7 i (by simpa using hi)
      simp only [List.getElem_map, Ty.reads] at this
      exact this
theorem backT_leads {α : Type} {et e2 : TypeId} {t : Ty} {B : List (List t.den)} {K : SO → Tree α} {Q : α → Prop} (h : (backT et e2 t B K).Leads Q) : ∃ (t' : Ty) (B' : List (List t'.den)), (∀ V W ub ps, t.apart V W e2 B ub ps → t'.apart V W e2 B' ub ps) ∧ (B = [] → B' = []) ∧ (K (.lists et e2 t' [] [] none B')).Leads Q := by
  cases t with
  | opt t' =>
    obtain ⟨⟨B', hB'⟩, hk⟩ := h
    refine ⟨t', B', fun V W ub ps h => ?_, fun e => ?_, hk B' hB'⟩
    · rw [hB'] at h; exact apart_opt h
    · rw [hB'] at e; exact List.map_eq_nil_iff.1 e
  | int k => exact ⟨_, B, fun _ _ _ _ h => h, fun e => e, h⟩
  | bool => exact ⟨_, B, fun _ _ _ _ h => h, fun e => e, h⟩
  | str => exact ⟨_, B, fun _ _ _ _ h => h, fun e => e, h⟩
  | unit => exact ⟨_, B, fun _ _ _ _ h => h, fun e => e, h⟩
  | pair a b => exact ⟨_, B, fun _ _ _ _ h => h, fun e => e, h⟩
  | imm t => exact ⟨_, B, fun _ _ _ _ h => h, fun e => e, h⟩
def findD : Heap → Nat → Option Nat
  | [], _ => none
  | .dview _ _ _ _ _ _ _ :: _, k => some k
  | _ :: r, k => findD r (k + 1)
def hookT {α : Type} (kind : Nat) (e2 : TypeId) (st : St) (K : St → Tree α) : Tree α := match kind with
  | 0 => K st
  | 6 => (freezeOps [(0, .tmp e2)] st).bind K
  | 7 => match st.S e2 with
    | .ptr h2 0 => match st.H[h2]? with
      | some (.alias h i) => K { S := setSlot e2 (.tref h i) st.S, H := st.H, mv := st.mv, df := st.df }
      | _ => K st
    | _ => K st
  | 8 => match findD st.H 0 with
    | some h => match st.H[h]? with
      | some (.dview et eN t L g j (some _)) => K { S := st.S, H := st.H.set h (.dview et eN t L g j none), mv := st.mv, df := st.df }
      | _ => K st
    | none => K st
  | 9 => match findD st.H 0 with
    | some h => match st.H[h]? with
      | some (.dview et eN t L g j none) => match st.H[g]? with
        | some (.hold _ _ _) => match t.col with
          | some c => .ite (decide (j < L.length)) (K { S := st.S, H := (st.H.set g .dead).set h (.dview et eN t L (st.H.length + 1) (j + 1) (some (st.H.length, (c.f (L.getD j t.dflt)).length))) ++ [.hold eN c.u (c.f (L.getD j t.dflt)), .hold eN c.u []], mv := st.mv, df := st.df }) (K st)
          | none => .fail
        | _ => .fail
      | _ => .fail
    | none => K st
  | _ => match findL kind e2 st.H 0 with
    | none => K st
    | some h => match st.H[h]? with
      | some (.lists et e2' t A B x D) => match x with
        | none => match kind with
          | 5 => if noDf1 st && !(Nat.beq et e2') then .ite (decide (0 < D.length)) (K { S := subS h st.H.length st.S, H := (st.H.set h .dead).map (SO.sub h st.H.length) ++ [SO.lists et e2' t A B (some (st.H.length + 1, (D.getD 0 []).length)) (D.drop 1), SO.row e2' t (D.getD 0 [])], mv := st.mv, df := [] }) (K st) else .fail
          | 3 => match B with
            | [] => .need (D.length = 0) (K { S := st.S, H := st.H.set h (.row et (.imm t) A), mv := st.mv, df := st.df })
            | _ => .fail
          | 4 => match A with
            | [] => .need (D.length = 0) (backT et e2' t B fun o => K { S := st.S, H := st.H.set h o, mv := st.mv, df := st.df })
            | _ => .fail
          | _ => K st
        | some (h3, n) => match kind with
          | 1 => match st.H[h3]? with
            | some (.row e3 t3 L) => if Nat.beq e3 e2' && noDf1 st && !(Nat.beq h h3) then match t3.same t with
              | some q => .need (n ≤ L.length) (bareT t ((q.down ▸ L).take n) (K { S := subS h st.H.length st.S, H := ((st.H.set h .dead).set h3 .dead ++ [SO.lists et e2' t A (B ++ [(q.down ▸ L).take n]) none D]).map (SO.sub h st.H.length), mv := st.mv, df := [] }))
              | none => .fail
              else .fail
            | _ => .fail
          | 2 => match B with
            | [] => match st.H[h3]? with
              | some (.row e3 t3 L) => if !(Nat.beq h h3) then match t3.same t with
                | some q => .need (n ≤ L.length) (K { S := st.S, H := (st.H.set h3 (.view e3 t3 L)).set h (.lists et e2' t (A ++ [(q.down ▸ L).take n]) [] none D), mv := st.mv, df := st.df })
                | none => .fail
                else .fail
              | some (.view _ t3 L) => match t3.same t with
                | some q => .need (n ≤ L.length) (K { S := st.S, H := st.H.set h (.lists et e2' t (A ++ [(q.down ▸ L).take n]) [] none D), mv := st.mv, df := st.df })
                | none => .fail
              | _ => .fail
            | _ => .fail
          | _ => .fail
      | _ => K st
theorem lies_append1 {t : Ty} {A : List (List t.den)} {ua : List Value} {L : List t.den} {v : Value} (h : (Ty.imm t).lies Z A ua 0) (hl : ua.length = A.length) (hv : (Ty.imm t).reads Z L [v]) : (Ty.imm t).lies Z (A ++ [L]) (ua ++ [v]) 0 := by
  have h1 : (Ty.imm t).lies Z [L] [v] 0 := by
    have := lies_cons (Z := Z) (t := Ty.imm t) (x := L) (l := []) (u := [v]) (us := []) rfl hv (fun i hi => by simp at hi)
    simpa using this
  have := lies_snoc (Z := Z) (t := Ty.imm t) [] h h1 (by simpa [Ty.width] using hl) rfl
  simpa using this
theorem Sat.swap {h : Nat} {o o' : SO} (hs : Sat E ρ H w) (ho : H[h]? = some o) (hl : o.live = true) (hd : o'.deep = true → o.deep = true) (hr : SO.rel E.Z ρ w h o') (hsf : o'.soft = false → o.soft = false := by exact fun _ => rfl) : Sat E ρ (H.set h o') w := by
  have hget : ∀ k (x : SO), (H.set h o')[k]? = some x → x.live = true → ∃ z : SO, H[k]? = some z ∧ z.live = true ∧ (x.deep = true → z.deep = true) ∧ (x.soft = false → z.soft = false) := fun k x hx hlx => by
    by_cases e : k = h
    · subst e
      rw [List.getElem?_set_self (getElem?_lt' ho)] at hx
      injection hx with hx; subst hx
      exact ⟨o, ho, hl, hd, hsf⟩
    · rw [List.getElem?_set_ne (Ne.symm e)] at hx
      exact ⟨x, hx, hlx, id, id⟩
  refine ⟨hs.os, hs.tape, hs.output, fun k hk => hs.free k (by simpa using hk), fun k x hx => ?_, fun k k' x x' c hx hx' hl1 hl2 hc hc' => ?_, hs.zle, hs.keep, fun k x c hx hl1 hc => ?_, fun k x c hx hl1 hc => ?_, hs.old⟩
  · by_cases e : k = h
    · subst e
      rw [List.getElem?_set_self (getElem?_lt' ho)] at hx
      injection hx with hx; subst hx; exact hr
    · rw [List.getElem?_set_ne (Ne.symm e)] at hx; exact hs.objs _ _ hx
  · obtain ⟨z, a1, a2, _⟩ := hget k x hx hl1
    obtain ⟨z', b1, b2, _⟩ := hget k' x' hx' hl2
    exact hs.inj _ _ _ _ _ a1 b1 a2 b2 hc hc'
  · obtain ⟨z, a1, a2, a3, a4⟩ := hget k x hx hl1
    refine hs.apart _ _ _ a1 a2 ?_
    obtain ⟨b, C, l, c1, c2⟩ := hc
    exact ⟨b, C, l, c1, c2.imp (fun h => ⟨a4 h.1, h.2⟩) (fun h => ⟨a3 h.1, h.2⟩)⟩
  · obtain ⟨z, a1, a2, a3⟩ := hget k x hx hl1
    exact hs.fresh _ _ _ a1 a2 hc
theorem view_reads {ty : Ty} {et : TypeId} {h len : Nat} {L : List ty.den} {v : Value} (hv : SV.rel Z ρ (.sl h ty.width 0 len) v) (ho : SO.rel Z ρ w h (.view et ty L)) (hn : len ≤ L.length) : (Ty.imm ty).reads Z (L.take len) [v] := by
  simp only [SV.rel] at hv
  simp only [SO.rel] at ho
  have hlt : (L.take len).length = len := by rw [List.length_take]; omega
  rcases hv with ⟨h1, _, h3, rfl⟩ | ⟨b, C, bs, cap, o, h1, rfl, h3, h4, h5⟩
  · subst h3
    exact ⟨_, rfl, .inl ⟨by simp, rfl⟩⟩
  · rcases ho with ⟨h1', _⟩ | ⟨b', C', bs', vs, g1, g2, g3, g4, g5, g6⟩
    · rw [h1'] at h1; cases h1
    · rw [h1] at g1; injection g1 with g1; injection g1 with e1 e2 e3; subst e1; subst e2; subst e3
      refine ⟨_, rfl, .inr (.inl ⟨b, o, cap, vs, et, (0, 0), by rw [hlt], by rw [hlt]; exact h4, g2, ?_⟩)⟩
      rcases h5 with h5 | h5
      · have : len = 0 := by omega
        subst this
        intro i hi; simp at hi
      · have : o = 0 := by simpa using h5
        subst this
        have := lies_take g6 len
        intro i hi
        simpa using this i hi
variable {n0 nt : Nat} {ρ0 : Map} {st : St}
theorem hookT_sound {α : Type} {kind : Nat} {e2 : TypeId} {K : St → Tree α} {Q : α → Prop} (hi : Inv E n0 ρ0 nt st a w ρ) (h : (hookT kind e2 st K).Leads Q) : ∃ st' ρ', Inv E n0 ρ0 nt st' a w ρ' ∧ (K st').Leads Q := by
  unfold hookT at h
  split at h
  · exact ⟨st, ρ, hi, h⟩
  · rw [Tree.leads_bind] at h
    obtain ⟨st1, hq, hi1⟩ := freezeOps_sound hi h
    exact ⟨st1, ρ, hi1, hq⟩
  · split at h
    case h_2 => exact ⟨st, ρ, hi, h⟩
    rename_i h2 hsl
    split at h
    case h_2 => exact ⟨st, ρ, hi, h⟩
    rename_i hm i ho
    refine ⟨_, ρ, ?_, h⟩
    obtain ⟨E1, hE, hi1⟩ := hi
    refine ⟨E1, hE, hi1.sat, fun t => ?_, hi1.size, hi1.defs, hi1.len, hi1.same⟩
    rw [look_set]
    split
    · rename_i e; rw [e]
      have hr := hi1.held e2
      simp only [look] at hr
      rw [hsl] at hr
      have hob := hi1.sat.objs _ _ ho
      simp only [SV.rel, SO.rel] at hr hob ⊢
      obtain ⟨b, C, l, h1, hv⟩ := hr
      obtain ⟨b', C', l', b2, C2, bs, g1, g2, g3⟩ := hob
      rw [h1] at g1; injection g1 with g1; injection g1 with a1 a2 a3; subst a1
      exact ⟨b2, C2, bs, b, g2, g3, hv⟩
    · exact hi1.held t
  · split at h
    case h_2 => exact ⟨st, ρ, hi, h⟩
    rename_i hh _
    split at h
    case h_2 => exact ⟨st, ρ, hi, h⟩
    rename_i et eN t L g j y ho
    obtain ⟨E1, hE, hi1⟩ := hi
    refine ⟨_, ρ, ?_, h⟩
    refine ⟨E1, hE, hi1.sat.mute ho rfl ?_, hi1.held, hi1.size, hi1.defs, by simpa using hi1.len, hi1.same⟩
    have hob := hi1.sat.objs _ _ ho
    simp only [SO.rel] at hob ⊢
    obtain ⟨c, hc, hob | ⟨b, C, bs, vs, gb, h1, h2, h3, h4, h5, h6, h7, h8, _⟩⟩ := hob
    · exact ⟨c, hc, .inl hob⟩
    · exact ⟨c, hc, .inr ⟨b, C, bs, vs, gb, h1, h2, h3, h4, h5, h6, h7, h8, trivial⟩⟩
  · split at h
    case h_2 => exact ⟨st, ρ, hi, h⟩
    rename_i hh _
    split at h
    case h_2 => exact h.elim
    rename_i et eN t L g j ho
    split at h
    case h_2 => exact h.elim
    rename_i eg tg Lg hg
    split at h
    case h_2 => exact h.elim
    rename_i c hc
    have h := br_iff.1 h
    by_cases hj : j < L.length
    · obtain ⟨E1, hE, hi1⟩ := hi
      obtain ⟨ρ', hle, hsame, hs2⟩ := hi1.sat.split ho hg hc hj
      refine ⟨_, ρ', ?_, h.1 (decide_eq_true hj)⟩
      refine ⟨E1, hE, hs2, hi1.held.mono hle, hi1.size, hi1.defs.mono (fun _ _ h => h) hle, ?_, fun k hk hm => ?_⟩
      · have := hi1.len; simp; omega
      · have := hi1.len
        rw [hsame k (by omega)]; exact hi1.same k hk hm
    · exact ⟨st, ρ, hi, h.2 (decide_eq_false hj)⟩
  split at h
  · exact ⟨st, ρ, hi, h⟩
  rename_i hL _
  split at h
  case h_2 => exact ⟨st, ρ, hi, h⟩
  rename_i et e2' t A B x D ho
  obtain ⟨E1, hE, hi1⟩ := hi
  have hob := hi1.sat.objs _ _ ho
  have hlt : hL < st.H.length := getElem?_lt' ho
  have hdf : noDf1 st = true → st.df = [] := fun e => by
    unfold noDf1 at e
    split at e
    · assumption
    · cases e
  have hlen := hi1.len
  split at h
  · split at h
    · -- one is taken out
      split at h
      case isFalse => exact h.elim
      rename_i hc
      simp only [Bool.and_eq_true] at hc
      obtain ⟨hc1, hne⟩ := hc
      have hd := hdf hc1
      have h := br_iff.1 h
      by_cases hD : 0 < D.length
      · have hk := h.1 (decide_eq_true hD)
        obtain ⟨L, D', rfl⟩ : ∃ L D', D = L :: D' := by
          match D, hD with
          | L :: D', _ => exact ⟨L, D', rfl⟩
        have eg : (L :: D').getD 0 [] = L := rfl
        have ed : (L :: D').drop 1 = D' := rfl
        rw [eg, ed] at hk
        simp only [SO.rel] at hob
        rcases hob with ⟨_, _, _, _, h5⟩ | ⟨b, C, ps, ds, vs, ua, ub, ux, ud, rest, g1, g2, g3, g4, g5, g6, g7, g8, g9, g10, g11⟩
        · cases h5
        subst g10
        obtain ⟨v, ud', rfl, hv⟩ := g11
        rcases hv with ⟨rfl, rfl, hD'⟩ | ⟨b1, o, cap, arr, ds', rfl, rfl, q0, q1, q2, q3, q4, q5, q6⟩
        · have hpart := hi1.sat.part (x2 := .at b C (ps ++ ds)) (x3 := .nil) (o2 := .lists et e2' t A B (some (st.H.length + 1, ([] : List t.den).length)) D') (o3 := .row e2' t []) ho rfl rfl rfl
            (fun b' C' l' e => by rw [g1] at e; injection e with e; injection e with e1 e2 e3; subst e1; subst e2; exact ⟨_, rfl⟩) (fun e => by rw [g1] at e; cases e)
            (fun k hk => by rw [g1]; exact hk) (fun k hk => absurd hk not_claimed_nil) (fun k _ hk => absurd hk not_claimed_nil)
            (.inr ⟨b, C, ps, ds, vs, ua, ub, [.slice none 0 0], ud', rest, by rw [put_ne (by omega), Map.put_same], g2, g3, g4, g5, g6, g7, g8, g9, ⟨_, rfl, by simp only [SV.rel]; exact .inl ⟨Map.put_same _ _ _, trivial, rfl, trivial⟩⟩, hD'⟩)
            (.inl ⟨Map.put_same _ _ _, rfl⟩)
          obtain ⟨hs2, hren⟩ := hpart
          refine ⟨_, _, ⟨E1, hE, hs2, fun s => rel_sub hren (hi1.held s), hi1.size, ?_, by simp; omega, fun k hk hm => ?_⟩, hk⟩
          · have := hi1.defs; rw [hd] at this; exact this
          · rw [put_ne (by omega), put_ne (by omega)]; exact hi1.same k hk hm
        · have q1 : w.heap[b1]? = some (.cells arr e2' (0, 0)) := q1
          have hbb : b1 ≠ b := fun e => by
            subst e
            rw [g2] at q1; injection q1 with q1; injection q1 with e1 e2 e3
            subst e2
            simp at hne
          obtain ⟨nd1, nd2, nd3⟩ := List.nodup_append.1 g5
          obtain ⟨nd4, nd5⟩ := List.nodup_cons.1 nd2
          have hb1 : b1 ∉ ps ++ ds' := fun e => by
            rcases List.mem_append.1 e with e | e
            · exact nd3 b1 e b1 (by simp) rfl
            · exact nd4 e
          have hpart := hi1.sat.part (x2 := .at b C (ps ++ ds')) (x3 := .at b1 cap []) (o2 := .lists et e2' t A B (some (st.H.length + 1, L.length)) D') (o3 := .row e2' t L) ho rfl rfl rfl
            (fun b' C' l' e => by rw [g1] at e; injection e with e; injection e with e1 e2 e3; subst e1; subst e2; exact ⟨_, rfl⟩) (fun e => by rw [g1] at e; cases e)
            (fun k hk => by
              rw [g1]
              obtain ⟨b', C', l', e, hk⟩ := hk
              injection e with e; injection e with e1 e2 e3; subst e1; subst e2; subst e3
              refine ⟨_, _, _, rfl, hk.imp id (fun hk => ?_)⟩
              rcases List.mem_append.1 hk with hk | hk
              · exact List.mem_append.2 (.inl hk)
              · exact List.mem_append.2 (.inr (List.mem_cons_of_mem _ hk)))
            (fun k hk => by
              rw [g1, claimed_flat rfl hk]
              exact ⟨_, _, _, rfl, .inr (by simp)⟩)
            (fun k hk hk2 => by
              rw [claimed_flat rfl hk2] at hk
              obtain ⟨b', C', l', e, hk⟩ := hk
              injection e with e; injection e with e1 e2 e3; subst e1; subst e2; subst e3
              rcases hk with hk | hk
              · exact hbb hk
              · exact hb1 hk)
            (.inr ⟨b, C, ps, ds', vs, ua, ub, [.slice (some ⟨b1, o, none⟩) L.length cap], ud', rest, by rw [put_ne (by omega), Map.put_same], g2, g3, g4, List.nodup_append.2 ⟨nd1, nd5, fun x hx y hy => nd3 x hx y (List.mem_cons_of_mem _ hy)⟩, g6, g7, g8, g9,
              ⟨_, rfl, by simp only [SV.rel]; exact .inr ⟨b1, cap, [], cap, o, Map.put_same _ _ _, rfl, by omega, q3, by simpa using q0⟩⟩, q6⟩)
            (.inr ⟨b1, cap, arr, Map.put_same _ _ _, q1, q2, q3, q4, Ty.lies_zone (fun _ _ h => by cases h) q5⟩)
          obtain ⟨hs2, hren⟩ := hpart
          refine ⟨_, _, ⟨E1, hE, hs2, fun s => rel_sub hren (hi1.held s), hi1.size, ?_, by simp; omega, fun k hk hm => ?_⟩, hk⟩
          · have := hi1.defs; rw [hd] at this; exact this
          · rw [put_ne (by omega), put_ne (by omega)]; exact hi1.same k hk hm
      · exact ⟨st, ρ, ⟨E1, hE, hi1⟩, h.2 (decide_eq_false hD)⟩
    · -- all are data
      split at h
      case h_2 => exact h.elim
      obtain ⟨hD, hk⟩ := h
      have hD : D = [] := List.eq_nil_of_length_eq_zero hD
      subst hD
      refine ⟨_, ρ, ?_, hk⟩
      refine ⟨E1, hE, hi1.sat.swap ho rfl (fun e => by cases e) ?_, hi1.held, hi1.size, hi1.defs, by simpa using hi1.len, hi1.same⟩
      simp only [SO.rel] at hob
      rcases hob with ⟨h1, h2, _⟩ | ⟨b, C, ps, ds, vs, ua, ub, ux, ud, rest, g1, g2, g3, g4, g5, g6, g7, g8, g9, g10, g11⟩
      · subst h2; exact .inl ⟨h1, rfl⟩
      · obtain ⟨rfl, rfl⟩ := g9
        obtain ⟨rfl, rfl⟩ := g11
        subst g10
        have hlv : vs.toList.length = vs.size := Array.length_toList
        rw [g6] at hlv
        simp at hlv
        refine .inr ⟨b, C, vs, g1, g2, by rw [g3]; simp [Ty.width], by omega, g4, ?_⟩
        rw [g6]
        exact lies_more _ g8 (by simpa [Ty.width] using g7)
    · -- all are as at first
      split at h
      case h_2 => exact h.elim
      obtain ⟨hD, hk⟩ := h
      have hD : D = [] := List.eq_nil_of_length_eq_zero hD
      subst hD
      have main : ∀ (t' : Ty) (B' : List (List t'.den)), (∀ ub ps, t.apart (fun _ => none) (fun b => w.heap[b]?) e2' B ub ps → t'.apart (fun _ => none) (fun b => w.heap[b]?) e2' B' ub ps) → (B = [] → B' = []) → Inv E n0 ρ0 nt { S := st.S, H := st.H.set hL (.lists et e2' t' [] [] none B'), mv := st.mv, df := st.df } a w ρ := fun t' B' hBB hB0 => by
        refine ⟨E1, hE, hi1.sat.swap ho rfl (fun _ => rfl) ?_, hi1.held, hi1.size, hi1.defs, by simpa using hi1.len, hi1.same⟩
        simp only [SO.rel] at hob
        rcases hob with ⟨h1, h2, h3, _⟩ | ⟨b, C, ps, ds, vs, ua, ub, ux, ud, rest, g1, g2, g3, g4, g5, g6, g7, g8, g9, g10, g11⟩
        · exact .inl ⟨h1, rfl, rfl, rfl, hB0 h3⟩
        · obtain ⟨rfl, rfl⟩ := g11
          subst g10
          have hua : ua = [] := List.eq_nil_of_length_eq_zero g7
          subst hua
          exact .inr ⟨b, C, [], ps, vs, [], [], [], ub, rest, by simpa using g1, g2, g3, g4, by simpa using g5, by simpa using g6, rfl, fun i hi => by simp at hi, ⟨rfl, rfl⟩, rfl, hBB _ _ g9⟩
      obtain ⟨t', B', g1, g2, hk⟩ := backT_leads hk
      exact ⟨_, ρ, main t' B' (fun ub ps h => g1 _ _ ub ps h) g2, hk⟩
    · exact ⟨st, ρ, ⟨E1, hE, hi1⟩, h⟩
  · rename_i h3 n
    split at h
    · -- laid back
      split at h
      case h_2 => exact h.elim
      rename_i e3 t3 L ho3
      split at h
      case isFalse => exact h.elim
      rename_i hc
      simp only [Bool.and_eq_true] at hc
      obtain ⟨⟨hc1, hc2⟩, hne⟩ := hc
      have := Nat.eq_of_beq_eq_true hc1; subst this
      have hne : hL ≠ h3 := fun e => by subst e; simp at hne
      have hd := hdf hc2
      split at h
      case h_2 => exact h.elim
      rename_i q hqs
      obtain ⟨q⟩ := q
      subst q
      obtain ⟨hn, hk⟩ := h
      obtain ⟨hk, hbare⟩ := bareT_leads hk
      dsimp only at hk hbare
      have hob3 := hi1.sat.objs _ _ ho3
      simp only [SO.rel] at hob hob3
      rcases hob with ⟨_, _, _, h4, _⟩ | ⟨b, C, ps, ds, vs, ua, ub, ux, ud, rest, g1, g2, g3, g4, g5, g6, g7, g8, g9, g10, g11⟩
      · cases h4
      obtain ⟨v, rfl, hv⟩ := g10
      simp only [SV.rel] at hv
      have hlt : (L.take n).length = n := by rw [List.length_take]; omega
      -- the row with its block
      have main : ∃ bs3, t3.apart (fun _ => none) (fun b => w.heap[b]?) e3 [L.take n] [v] bs3 ∧ (∀ k ∈ bs3, claimed (ρ h3) k ∧ SO.owned (.row e3 t3 L) (ρ h3) k) ∧ bs3.Nodup := by
        rcases hv with ⟨h1, _, h3', rfl⟩ | ⟨b3, C3, l3, cap, o, h1, rfl, a3, a4, a5⟩
        · subst h3'
          exact ⟨[], ⟨_, [], rfl, .inl ⟨by simp, rfl, rfl, rfl⟩⟩, (fun k hk => by cases hk), List.nodup_nil⟩
        · rcases hob3 with ⟨h1', _⟩ | ⟨b', C', arr, c1, c2, c3, c4, c5, c6⟩
          · rw [h1'] at h1; cases h1
          · rw [h1] at c1; injection c1 with c1; injection c1 with e1 e2 e3; subst e1; subst e2; subst e3
            have hcap : cap = C3 := by omega
            subst hcap
            refine ⟨[b3], ⟨_, [], rfl, .inr ⟨b3, o, cap, arr, [], rfl, by rw [hlt], by simpa using a5, c2, c3, by rw [hlt]; exact a4, c5, hbare _ _ _ _ (lies_take c6 n), rfl, rfl⟩⟩, fun k hk => ?_, by simp⟩
            have : k = b3 := by simpa using hk
            subst this
            exact ⟨claimed_main h1, SO.owned_main h1⟩
      obtain ⟨bs3, m1, m2, m3⟩ := main
      have hdis : ∀ k ∈ bs3, k ∉ ps ++ ds := fun k hk hk2 => hne (hi1.sat.inj _ _ _ _ _ ho ho3 rfl rfl ⟨b, C, _, g1, .inr hk2⟩ (m2 k hk).1)
      have hpd := List.nodup_append.1 g5
      have hs2 := hi1.sat.release2 (w' := w) (x := .at b C ((ps ++ bs3) ++ ds)) (ob := .lists et e3 t3 A (B ++ [L.take n]) none D) ho rfl ho3 rfl rfl rfl rfl (fun k _ _ y hy => hy) (fun k _ y hy => ⟨y, hy⟩)
        (fun k hk => by
          obtain ⟨b', C', l', e, hk⟩ := hk
          injection e with e; injection e with e1 e2 e3; subst e1; subst e2; subst e3
          rcases hk with rfl | hk
          · exact .inl (claimed_main g1)
          · rcases List.mem_append.1 hk with hk | hk
            · rcases List.mem_append.1 hk with hk | hk
              · exact .inl ⟨b, C, _, g1, .inr (List.mem_append.2 (.inl hk))⟩
              · exact .inr (.inl (m2 k hk).1)
            · exact .inl ⟨b, C, _, g1, .inr (List.mem_append.2 (.inr hk))⟩)
        (fun k hk => by
          obtain ⟨b', C', l', e, hk⟩ := hk
          injection e with e; injection e with e1 e2 e3; subst e1; subst e2; subst e3
          rcases hk with ⟨_, rfl⟩ | ⟨_, hk⟩
          · exact .inl (SO.owned_main g1)
          · rcases List.mem_append.1 hk with hk | hk
            · rcases List.mem_append.1 hk with hk | hk
              · exact .inl ⟨b, C, _, g1, .inr ⟨rfl, List.mem_append.2 (.inl hk)⟩⟩
              · exact .inr (.inl (m2 k hk).2)
            · exact .inl ⟨b, C, _, g1, .inr ⟨rfl, List.mem_append.2 (.inr hk)⟩⟩)
        (.inr ⟨b, C, ps ++ bs3, ds, vs, ua, ub ++ [v], [], ud, rest, Map.put_same _ _ _, g2, g3, g4, by
          rw [List.nodup_append]
          refine ⟨List.nodup_append.2 ⟨hpd.1, m3, fun x hx y hy e => ?_⟩, hpd.2.1, fun x hx y hy e => ?_⟩
          · subst e; exact hdis x hy (List.mem_append.2 (.inl hx))
          · subst e
            rcases List.mem_append.1 hx with hx | hx
            · exact hpd.2.2 x hx x hy rfl
            · exact hdis x hx (List.mem_append.2 (.inr hy)), by rw [g6]; simp, g7, g8, apart_append m1 g9, rfl, g11⟩)
      have hren : Renamed (ρ.put st.H.length (.at b C ((ps ++ bs3) ++ ds))) (ρ.put st.H.length (.at b C ((ps ++ bs3) ++ ds))) hL st.H.length := by
        refine ⟨fun k _ x hx => hx, fun b' C' l' e => ?_, fun e => ?_⟩
        · rw [put_ne (by omega), g1] at e
          injection e with e; injection e with e1 e2 e3; subst e1; subst e2
          exact ⟨_, Map.put_same _ _ _⟩
        · rw [put_ne (by omega), g1] at e; cases e
      have hs3 := hs2.relabel hren (fun o ho' => by
        rw [List.getElem?_append_left (by simp; omega), List.getElem?_set_ne (Ne.symm hne), List.getElem?_set_self (by assumption)] at ho'
        injection ho' with ho'; exact ho'.symm)
      refine ⟨_, _, ⟨E1, hE, hs3, fun s => rel_sub hren (SV.rel_mono (Map.le_put (hi1.sat.free _ (Nat.le_refl _))) (hi1.held s)), hi1.size, ?_, by simp; omega, fun k hk hm => ?_⟩, hk⟩
      · have := hi1.defs; rw [hd] at this; exact this
      · rw [put_ne (by omega)]; exact hi1.same k hk hm
    · -- data from now on
      split at h
      case h_2 => exact h.elim
      split at h
      · rename_i e3 t3 L ho3
        split at h
        case isFalse => exact h.elim
        rename_i hne
        have hne : hL ≠ h3 := fun e => by subst e; simp at hne
        split at h
        case h_2 => exact h.elim
        rename_i q hqs
        obtain ⟨q⟩ := q
        subst q
        obtain ⟨hn, hk⟩ := h
        dsimp only at hk
        have hob3 := hi1.sat.objs _ _ ho3
        have hfr : ∃ E2, Env.le E1 E2 ∧ Sat E2 ρ (st.H.set h3 (.view e3 t3 L)) w := by
          have hob3' := hob3
          simp only [SO.rel] at hob3'
          rcases hob3' with ⟨h1, h2⟩ | ⟨b, C, vs, h1, h2, c3, c4, c5, c6⟩
          · exact ⟨E1, Env.le_refl E1, hi1.sat.swap ho3 rfl (fun e => by cases e) (.inl ⟨h1, h2⟩)⟩
          · obtain ⟨E2, hle, hZ, hs'⟩ := hi1.sat.freeze ho3 h1 h2
            exact ⟨E2, hle, hs' _ rfl (.inr ⟨b, C, _, vs, h1, hZ, c3, c4, c5, Ty.lies_zone hle.z c6⟩)⟩
        obtain ⟨E2, hle, hs2⟩ := hfr
        have ho2 : (st.H.set h3 (.view e3 t3 L))[hL]? = some (.lists et e2' t3 A [] (some (h3, n)) D) := by rw [List.getElem?_set_ne (Ne.symm hne)]; exact ho
        have hview := hs2.objs h3 _ (List.getElem?_set_self (getElem?_lt' ho3))
        have hob2 := hs2.objs _ _ ho2
        refine ⟨_, ρ, ?_, hk⟩
        refine ⟨E2, Env.to_trans hE hle, hs2.swap ho2 rfl (fun _ => rfl) ?_, fun s => SV.rel_zone hle.z (hi1.held s), hi1.size, hi1.defs.mono hle.z (Map.le_refl ρ), by simpa using hi1.len, hi1.same⟩
        simp only [SO.rel] at hob2
        rcases hob2 with ⟨_, _, _, h4, _⟩ | ⟨b, C, ps, ds, vs, ua, ub, ux, ud, rest, g1, g2, g3, g4, g5, g6, g7, g8, g9, g10, g11⟩
        · cases h4
        obtain ⟨v, rfl, hv⟩ := g10
        obtain ⟨rfl, rfl⟩ := g9
        have hr := view_reads hv hview hn
        exact .inr ⟨b, C, [], ds, vs, ua ++ [v], [], [], ud, rest, g1, g2, g3, g4, g5, by rw [g6]; simp, by simp [g7], lies_append1 g8 g7 hr, ⟨rfl, rfl⟩, rfl, g11⟩
      · rename_i e3 t3 L ho3
        split at h
        case h_2 => exact h.elim
        rename_i q hqs
        obtain ⟨q⟩ := q
        subst q
        obtain ⟨hn, hk⟩ := h
        dsimp only at hk
        have hview := hi1.sat.objs _ _ ho3
        refine ⟨_, ρ, ?_, hk⟩
        refine ⟨E1, hE, hi1.sat.swap ho rfl (fun _ => rfl) ?_, hi1.held, hi1.size, hi1.defs, by simpa using hi1.len, hi1.same⟩
        simp only [SO.rel] at hob
        rcases hob with ⟨_, _, _, h4, _⟩ | ⟨b, C, ps, ds, vs, ua, ub, ux, ud, rest, g1, g2, g3, g4, g5, g6, g7, g8, g9, g10, g11⟩
        · cases h4
        obtain ⟨v, rfl, hv⟩ := g10
        obtain ⟨rfl, rfl⟩ := g9
        have hr := view_reads hv hview hn
        exact .inr ⟨b, C, [], ds, vs, ua ++ [v], [], [], ud, rest, g1, g2, g3, g4, g5, by rw [g6]; simp, by simp [g7], lies_append1 g8 g7 hr, ⟨rfl, rfl⟩, rfl, g11⟩
      · exact h.elim
    · exact h.elim
end Sx
