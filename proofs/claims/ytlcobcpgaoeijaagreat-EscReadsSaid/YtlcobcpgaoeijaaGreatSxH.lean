/- Appends. -/
import Derived.Test.YtlcobcpgaoeijaaGreatSxG
set_option linter.unusedVariables false
set_option linter.unusedSimpArgs false
namespace Sx
open Go
variable {P : Program} {E : Env} {ρ : Map} {S : Slots} {H : Heap} {a : Act} {w w' : World} {Z : Zone}
theorem Sat.release2 {h g : Nat} {o p ob : SO} {x : Blk} (hs : Sat E ρ H w) (ho : H[h]? = some o) (hl : o.live = true) (hp : H[g]? = some p) (hlp : p.live = true)
    (hos : w'.os = w.os) (htape : w'.tape = w.tape) (hout : w'.output = w.output)
    (hother : ∀ k, ¬ o.owned (ρ h) k → ¬ p.owned (ρ g) k → ∀ y, w.heap[k]? = some y → w'.heap[k]? = some y)
    (hst : ∀ k, E.tk k → ∀ y, w.heap[k]? = some y → ∃ y, w'.heap[k]? = some y)
    (hx : ∀ k, claimed (some x) k → claimed (ρ h) k ∨ claimed (ρ g) k ∨ w.heap[k]? = none)
    (hxo : ∀ k, ob.owned (some x) k → o.owned (ρ h) k ∨ p.owned (ρ g) k ∨ w.heap[k]? = none)
    (hr : SO.rel E.Z (ρ.put H.length x) w' H.length ob) : Sat E (ρ.put H.length x) ((H.set h .dead).set g .dead ++ [ob]) w' := by
  have hlt : h < H.length := by
    rcases Nat.lt_or_ge h H.length with h1 | h1
    · exact h1
    · rw [List.getElem?_eq_none h1] at ho; cases ho
  have hltg : g < H.length := by
    rcases Nat.lt_or_ge g H.length with h1 | h1
    · exact h1
    · rw [List.getElem?_eq_none h1] at hp; cases hp
  have hle := Map.le_put (x := x) (hs.free _ (Nat.le_refl _))
  have hget : ∀ k (y : SO), ((H.set h .dead).set g .dead ++ [ob])[k]? = some y → (k < H.length ∧ k ≠ h ∧ k ≠ g ∧ H[k]? = some y) ∨ (k < H.length ∧ y = .dead) ∨ (k = H.length ∧ y = ob) := fun k y hy => by
    rw [List.getElem?_append] at hy
    split at hy
    · rename_i hk
      simp at hk
      by_cases e : k = g
      · subst e
        rw [List.getElem?_set_self (by simpa using hk)] at hy
        injection hy with hy
        exact .inr (.inl ⟨hk, hy.symm⟩)
      · rw [List.getElem?_set_ne (Ne.symm e)] at hy
        by_cases e2 : k = h
        · subst e2
          rw [List.getElem?_set_self hk] at hy
          injection hy with hy
          exact .inr (.inl ⟨hk, hy.symm⟩)
        · rw [List.getElem?_set_ne (Ne.symm e2)] at hy
          exact .inl ⟨hk, e2, e, hy⟩
    · rename_i hk
      simp at hk
      have hh : k = H.length := by
        rcases Nat.lt_or_ge H.length k with h1 | h1
        · rw [List.getElem?_eq_none (by simp; omega)] at hy; cases hy
        · omega
      subst hh; simp at hy; exact .inr (.inr ⟨rfl, hy.symm⟩)
  have hnew : ∀ k (y : SO) c, k ≠ h → k ≠ g → H[k]? = some y → y.live = true → claimed (ρ k) c → ¬ claimed (some x) c := fun k y c hne hneg hy hly hc hcx => by
    rcases hx c hcx with h2 | h2 | h2
    · exact hne (hs.inj _ _ _ _ _ hy ho hly hl hc h2)
    · exact hneg (hs.inj _ _ _ _ _ hy hp hly hlp hc h2)
    · obtain ⟨_, h3⟩ := hs.claimed_heap hy hly hc
      rw [h2] at h3; cases h3
  have hkF : ∀ k y, E.F k = some y → w'.heap[k]? = some y := fun k y hk => by
    refine hother k (fun e => ?_) (fun e => ?_) _ (hs.keep _ _ hk)
    · rw [hs.apart _ _ _ ho hl e] at hk; cases hk
    · rw [hs.apart _ _ _ hp hlp e] at hk; cases hk
  refine ⟨hos.trans hs.os, htape.trans hs.tape, hout.trans hs.output, ?_, ?_, ?_, hs.zle, hkF, ?_, ?_, ?_⟩
  · intro k hk
    simp at hk
    rw [put_ne (by omega)]; exact hs.free _ (by omega)
  · intro k y hy
    rcases hget k y hy with ⟨h1, h2, h2', h3⟩ | ⟨h1, rfl⟩ | ⟨rfl, rfl⟩
    · by_cases hly : y.live = true
      · refine SO.rel_keep (hs.objs _ _ h3) hle (fun b hb z hz => hother b (fun e => ?_) (fun e => ?_) z hz)
        · exact h2 (hs.inj _ _ _ _ _ h3 ho hly hl (SO.owned_claimed hb) (SO.owned_claimed e))
        · exact h2' (hs.inj _ _ _ _ _ h3 hp hly hlp (SO.owned_claimed hb) (SO.owned_claimed e))
      · exact SO.rel_still (hs.objs _ _ h3) hle (by simpa using hly)
    · trivial
    · exact hr
  · intro k k' y y' b hy hy' hl1 hl2 hb1 hb2
    rcases hget k y hy with ⟨h1, h2, h2', h3⟩ | ⟨h1, rfl⟩ | ⟨rfl, rfl⟩ <;> rcases hget k' y' hy' with ⟨h1', h4, h4', h3'⟩ | ⟨h1', rfl⟩ | ⟨rfl, rfl⟩
    · rw [put_ne (by omega)] at hb1; rw [put_ne (by omega)] at hb2
      exact hs.inj _ _ _ _ _ h3 h3' hl1 hl2 hb1 hb2
    · cases hl2
    · rw [put_ne (by omega)] at hb1; rw [Map.put_same] at hb2
      exact absurd hb2 (hnew k y b h2 h2' h3 hl1 hb1)
    · cases hl1
    · cases hl1
    · cases hl1
    · rw [put_ne (by omega)] at hb2; rw [Map.put_same] at hb1
      exact absurd hb1 (hnew k' y' b h4 h4' h3' hl2 hb2)
    · cases hl2
    · rfl
  · intro k y b hy hly hb
    rcases hget k y hy with ⟨h1, h2, h2', h3⟩ | ⟨h1, rfl⟩ | ⟨rfl, rfl⟩
    · rw [put_ne (by omega)] at hb
      exact hs.apart _ _ _ h3 hly hb
    · cases hly
    · rw [Map.put_same] at hb
      rcases hxo b hb with h2 | h2 | h2
      · exact hs.apart _ _ _ ho hl h2
      · exact hs.apart _ _ _ hp hlp h2
      · cases hF : E.F b with
        | none => rfl
        | some z => rw [hs.keep _ _ hF] at h2; cases h2
  · intro k y b hy hly hb ht
    rcases hget k y hy with ⟨h1, h2, h2', h3⟩ | ⟨h1, rfl⟩ | ⟨rfl, rfl⟩
    · rw [put_ne (by omega)] at hb
      exact hs.fresh _ _ _ h3 hly hb ht
    · cases hly
    · rw [Map.put_same] at hb
      rcases hx b hb with h2 | h2 | h2
      · exact hs.fresh _ _ _ ho hl h2 ht
      · exact hs.fresh _ _ _ hp hlp h2 ht
      · obtain ⟨z, hz⟩ := hs.old _ ht
        rw [h2] at hz; cases hz
  · intro k ht
    obtain ⟨z, hz⟩ := hs.old _ ht
    exact hst k ht _ hz
theorem Sat.release {h : Nat} {o ob : SO} {x : Blk} (hs : Sat E ρ H w) (ho : H[h]? = some o) (hl : o.live = true) (hdb : ob.deep = false)
    (hos : w'.os = w.os) (htape : w'.tape = w.tape) (hout : w'.output = w.output)
    (hother : ∀ k, (∀ C l, ρ h ≠ some (.at k C l)) → ∀ y, w.heap[k]? = some y → w'.heap[k]? = some y)
    (hx : ∀ b C l, x = .at b C l → l = [] ∧ ((∃ C' l', ρ h = some (.at b C' l')) ∨ w.heap[b]? = none))
    (hr : SO.rel E.Z (ρ.put H.length x) w' H.length ob) (hsoft : o.soft = false := by rfl) : Sat E (ρ.put H.length x) (H.set h .dead ++ [ob]) w' := by
  have hmain : ∀ k, (∃ C l, ρ h = some (.at k C l)) → o.owned (ρ h) k := fun k ⟨C, l, e⟩ => SO.owned_main e hsoft
  have hown : ∀ k, ¬ o.owned (ρ h) k → ∀ C l, ρ h ≠ some (.at k C l) := fun k hk C l e => hk (SO.owned_main e hsoft)
  have := hs.release2 (g := h) (p := o) (w' := w') (ob := ob) (x := x) ho hl ho hl hos htape hout (fun k h1 _ => hother k (hown k h1)) (fun k ht y hy => ?_) (fun k hk => ?_) (fun k hk => ?_) hr
  · rwa [List.set_set] at this
  · refine ⟨y, hother k (fun C l e => ?_) y hy⟩
    exact hs.fresh _ _ _ ho hl (claimed_main e) ht
  · obtain ⟨b, C, l, e, hk⟩ := hk
    injection e with e
    obtain ⟨rfl, hb⟩ := hx b C l e
    rcases hk with rfl | hk
    · rcases hb with ⟨C', l', hb⟩ | hb
      · exact .inl (claimed_main hb)
      · exact .inr (.inr hb)
    · cases hk
  · obtain ⟨b, C, l, e, hk⟩ := hk
    injection e with e
    obtain ⟨rfl, hb⟩ := hx b C l e
    rcases hk with ⟨_, rfl⟩ | ⟨hk, _⟩
    · rcases hb with ⟨C', l', hb⟩ | hb
      · exact .inl (SO.owned_main hb hsoft)
      · exact .inr (.inr hb)
    · rw [hdb] at hk; cases hk
def strInts (s : ByteArray) : List Int := s.data.toList.map fun b => (b.toNat : Int)
def xelems (H : Heap) (ty : Ty) (x : SV) : Tree (List ty.den) := match x with
    | .lit (.slice none 0 0) => .ret []
    | .sl h wd off len => match rowAt H h with
      | some (.row _ ty' l) => if Nat.beq wd ty'.width then match ty'.same ty with
        | some e => .need (off + len ≤ l.length) (.ret (e.down ▸ ((l.drop off).take len)))
        | none => .fail
        else .fail
      | _ => .fail
    | .imm ty' l => if Nat.blt 0 ty'.width then match ty'.same ty with
        | some e => .ret (e.down ▸ l)
        | none => .fail
      else .fail
    | .lit (.string s) => match Ty.same (.int .u8) ty with
      | some e => .ret (e.down ▸ (strInts s : List (Ty.int .u8).den))
      | none => .fail
    | _ => .fail
def Source (P : Program) (w : World) (size : Nat) (v : Value) (m : Nat) (news : List Value) : Prop :=
  (Builtin.lenOf v).run P w = .ok m w ∧ (Builtin.lenOf v).run P w.drew = .ok m w.drew ∧
  (Builtin.firstCells size m v).run P w = .ok news.toArray w ∧ (Builtin.firstCells size m v).run P w.drew = .ok news.toArray w.drew
theorem lies_cells {t : Ty} {l : List t.den} {vs : List Value} {o : Nat} (h : t.lies Z l vs o) :
    t.lies Z l ((vs.drop o).take (l.length * t.width)) 0 := fun i hi => by
  have h1 := h i hi
  have hm : i * t.width + t.width ≤ l.length * t.width := by
    have : (i + 1) * t.width ≤ l.length * t.width := Nat.mul_le_mul_right _ hi
    rw [Nat.add_mul] at this; omega
  have e : (((vs.drop o).take (l.length * t.width)).drop (0 + i * t.width)).take t.width = (vs.drop (o + i * t.width)).take t.width := by
    rw [Nat.zero_add, List.drop_take, List.take_take, List.drop_drop, Nat.min_eq_left (by omega)]
  rw [e]; exact h1
theorem source_row {b o : Nat} {arr : Array Value} {et : TypeId} {fz : Nat × Nat} {size m c : Nat} (hb : w.heap[b]? = some (.cells arr et fz)) (hlen : o + m * size ≤ arr.size) :
    Source P w size (.slice (some ⟨b, o, none⟩) m c) m ((arr.toList.drop o).take (m * size)) := by
  have hl : ((arr.toList.drop o).take (m * size)).length = m * size := by simp; omega
  have hc : ∀ j v, ((arr.toList.drop o).take (m * size))[j]? = some v → w.cell? ((⟨b, o, none⟩ : Addr).add j) = some v := fun j v hv => by
    rw [add_lit]
    rw [List.getElem?_take] at hv
    split at hv
    · simpa [World.cell?, hb] using hv
    · cases hv
  have h1 := run_loadCells_list (P := P) w ⟨b, o, none⟩ _ hc
  have h2 := run_loadCells_list (P := P) w.drew ⟨b, o, none⟩ _ hc
  rw [hl] at h1 h2
  exact ⟨by simp [Builtin.lenOf], by simp [Builtin.lenOf], by simpa [Builtin.firstCells] using h1, by simpa [Builtin.firstCells] using h2⟩
theorem source_nil {size : Nat} : Source P w size (.slice none 0 0) 0 [] := ⟨by simp [Builtin.lenOf], by simp [Builtin.lenOf], by simp [Builtin.firstCells], by simp [Builtin.firstCells]⟩
theorem lies_nil {t : Ty} {vs : List Value} {o : Nat} : t.lies Z [] vs o := fun i hi => by simp at hi
theorem reads_all {t : Ty} {l : List t.den} {vs : List Value} : t.lies Z l vs 0 → vs.length = l.length * t.width → SV.rels Z ρ (l.flatMap t.cells) vs := by
  induction l generalizing vs with
  | nil => intro _ h; simp at h; subst h; simp [SV.rels]
  | cons x l ih =>
    intro h hlen
    have h0 := h 0 (by simp)
    simp only [List.length_cons, Nat.add_mul, Nat.one_mul] at hlen
    simp only [Nat.zero_mul, Nat.add_zero, List.drop_zero, List.getElem_cons_zero] at h0
    have h1 : t.lies Z l (vs.drop t.width) 0 := fun i hi => by
      have := h (i + 1) (by simpa using hi)
      rw [Nat.zero_add] at this ⊢
      rw [List.drop_drop, show t.width + i * t.width = (i + 1) * t.width by rw [Nat.add_mul]; omega]
      simpa using this
    have := ih h1 (by simp; omega)
    rw [List.flatMap_cons, ← List.take_append_drop t.width vs]
    exact rels_append ((reads_iff (ρ := ρ)).1 h0) this
theorem all_reads {t : Ty} : ∀ {l : List t.den} {vs : List Value}, SV.rels Z ρ (l.flatMap t.cells) vs → vs.length = l.length * t.width ∧ t.lies Z l vs 0
  | [], vs, h => by simp [SV.rels] at h; subst h; exact ⟨by simp, lies_nil⟩
  | x :: l, vs, h => by
    rw [List.flatMap_cons] at h
    obtain ⟨v1, v2, rfl, h1, h2⟩ := rels_split h
    obtain ⟨e1, e2⟩ := all_reads h2
    have hw := reads_length ((reads_iff (ρ := ρ)).2 h1)
    refine ⟨by simp [hw, e1, Nat.add_mul]; omega, fun i hi => ?_⟩
    rw [Nat.zero_add]
    cases i with
    | zero => simpa [← hw] using (reads_iff (ρ := ρ)).2 h1
    | succ i =>
      have := e2 i (by simpa using hi)
      rw [Nat.zero_add] at this
      rw [show (i + 1) * t.width = v1.length + i * t.width by rw [hw, Nat.add_mul]; omega, ← List.drop_drop]
      simpa using this
theorem strCells_lies (s : ByteArray) : Ty.lies Z (.int .u8) (strInts s) (s.data.toList.map fun b => Value.int .u8 b.toNat) 0 := fun i hi => by
  have hi' : i < s.data.toList.length := by simpa [strInts] using hi
  simp only [Ty.reads, Ty.width, Nat.mul_one, Nat.zero_add, strInts, List.getElem_map]
  rw [List.drop_eq_getElem_cons (by simpa using hi')]
  simp
theorem xelems_sound {ty : Ty} {x : SV} {vx : Value} {Q : List ty.den → Prop} (hs : Sat E ρ H w) (hx : SV.rel E.Z ρ x vx) (h : (xelems H ty x).Leads Q) :
    ∃ M news, Q M ∧ news.length = M.length * ty.width ∧ ty.lies E.Z M news 0 ∧ ((∃ s, vx = .string s ∧ ty = .int .u8) ∨ ∃ a n c, vx = .slice a n c) ∧ Source P w ty.width vx M.length news := by
  unfold xelems at h
  split at h
  · have := rel_lit hx; subst this
    exact ⟨[], [], h, by simp, lies_nil, .inr ⟨_, _, _, rfl⟩, source_nil⟩
  · rename_i hd wd off len
    split at h
    · rename_i et ty' l hh
      split at h
      case isFalse => exact h.elim
      rename_i hw
      have := Nat.eq_of_beq_eq_true hw; subst this
      split at h
      · rename_i e he
        obtain ⟨e⟩ := e
        subst e
        obtain ⟨hle, h⟩ := h
        have hobj := hs.row hh
        simp only [SV.rel] at hx
        rcases hx with ⟨h1, rfl, rfl, rfl⟩ | ⟨b, C, bs, cap, o, h1, rfl, h2, h3, h4⟩
        · refine ⟨_, [], h, by simp, fun i hi => by simp at hi, .inr ⟨_, _, _, rfl⟩, by simpa using source_nil⟩
        · rcases hobj with ⟨h0, _⟩ | ⟨b', C', bs', vs, h1', h2', h3', h4', h5', h6'⟩
          · rw [h0] at h1; cases h1
          rw [h1] at h1'; injection h1' with h1'; injection h1' with e1 e2 e3; subst e1; subst e2; subst e3
          have hlen : ((l.drop off).take len).length = len := by simp; omega
          rcases h4 with h4 | h4
          · have : len = 0 := by omega
            subst this
            refine ⟨_, [], h, by simp, fun i hi => by simp at hi, .inr ⟨_, _, _, rfl⟩, ?_⟩
            simp
            exact ⟨by simp [Builtin.lenOf], by simp [Builtin.lenOf], by simp [Builtin.firstCells, loadCells, loadCellsFrom], by simp [Builtin.firstCells, loadCells, loadCellsFrom]⟩
          · subst h4
            have hmul : off * ty'.width + len * ty'.width ≤ vs.size := by
              rw [h3', ← Nat.add_mul]; exact Nat.mul_le_mul_right _ (by omega)
            have hl := lies_take (lies_drop h6' off) len
            rw [Nat.zero_add] at hl
            have hl' := lies_cells hl
            rw [hlen] at hl'
            refine ⟨_, _, h, ?_, hl', .inr ⟨_, _, _, rfl⟩, ?_⟩
            · rw [hlen, List.length_take, List.length_drop, Array.length_toList]; omega
            · have := source_row (P := P) (c := cap) (size := ty'.width) (m := len) h2' hmul
              rw [hlen]; exact this
      · exact h.elim
    · exact h.elim
  · rename_i ty' l
    split at h
    case isFalse => exact h.elim
    rename_i hw0
    have hw0 : 0 < ty'.width := Nat.lt_of_lt_of_le (Nat.zero_lt_succ 0) (Nat.le_of_ble_eq_true hw0)
    split at h
    · rename_i e he
      obtain ⟨e⟩ := e
      subst e
      simp only [SV.rel, Ty.reads] at hx
      obtain ⟨u, hu', h''⟩ := hx
      simp only [List.cons.injEq, and_true] at hu'
      subst hu'
      rcases h'' with ⟨rfl, rfl⟩ | ⟨b, o, cap, arr, et, fz, rfl, h1, h2, h3⟩ | ⟨rfl, a, cap, rfl⟩
      rotate_left 2
      · exact ⟨[], [], h, by simp, lies_nil, .inr ⟨_, _, _, rfl⟩, by simpa using ⟨by simp [Builtin.lenOf], by simp [Builtin.lenOf], by simp [Builtin.firstCells, loadCells, loadCellsFrom], by simp [Builtin.firstCells, loadCells, loadCellsFrom]⟩⟩
      · exact ⟨[], [], h, by simp, lies_nil, .inr ⟨_, _, _, rfl⟩, source_nil⟩
      · have hlenv : o + l.length * ty'.width ≤ arr.size ∨ l.length = 0 := by
          by_cases h0 : l.length = 0
          · exact .inr h0
          · left
            have h4 := h3 (l.length - 1) (by omega)
            have h5 := reads_length h4
            simp at h5
            have : (l.length - 1) * ty'.width + ty'.width = l.length * ty'.width := by
              rw [← Nat.succ_mul]; congr 1; omega
            omega
        rcases hlenv with hlenv | hlenv
        · exact ⟨l, _, h, by simp; omega, lies_cells h3, .inr ⟨_, _, _, rfl⟩, source_row (hs.zone _ _ h2) hlenv⟩
        · have : l = [] := List.eq_nil_of_length_eq_zero hlenv
          subst this
          exact ⟨[], [], h, by simp, lies_nil, .inr ⟨_, _, _, rfl⟩, by simpa using ⟨by simp [Builtin.lenOf], by simp [Builtin.lenOf], by simp [Builtin.firstCells, loadCells, loadCellsFrom], by simp [Builtin.firstCells, loadCells, loadCellsFrom]⟩⟩
    · exact h.elim
  · rename_i s
    have := rel_lit hx; subst this
    split at h
    · rename_i e he
      obtain ⟨e⟩ := e
      subst e
      refine ⟨_, s.data.toList.map fun b => Value.int .u8 b.toNat, h, by simp [strInts, Ty.width], strCells_lies s, .inl ⟨s, rfl, rfl⟩, ?_⟩
      have hl : (strInts s).length = s.size := by simp [strInts]
      have hx : ∀ w : World, (Builtin.firstCells 1 s.size (.string s)).run P w = .ok ((s.data.toList.map fun b => Value.int .u8 b.toNat).toArray) w := fun w => by
        have e : s.extract 0 s.size = s := by simp
        simp only [Builtin.firstCells, e, Sem.run_pure]
        congr 1
        apply Array.ext'; simp
      exact ⟨by simp [Builtin.lenOf, hl], by simp [Builtin.lenOf, hl], by rw [hl]; exact hx w, by rw [hl]; exact hx w.drew⟩
    · exact h.elim
  · exact h.elim
end Sx
