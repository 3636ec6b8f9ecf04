/- Appends. -/
import Derived.Test.YtlcobcpgaoeijaaSxG
namespace Sx
open Go

variable {P : Program} {E : Env} {ρ : Map} {S : Slots} {H : Heap} {a : Act} {w w' : World} {Z : Zone}

mutual
/-- Values that name a handle are forgotten. -/
def SV.drop (h : Nat) : SV → SV
  | .ptr k o => if Nat.beq k h then .junk else .ptr k o
  | .ept k wd i j => if Nat.beq k h then .junk else .ept k wd i j
  | .sl k wd o l => if Nat.beq k h then .junk else .sl k wd o l
  | .agg cs => .agg (SV.drops h cs)
  | .tup cs => .tup (SV.drops h cs)
  | .fn f cs => .fn f (SV.drops h cs)
  | s => s
def SV.drops (h : Nat) : List SV → List SV
  | [] => []
  | s :: ss => SV.drop h s :: SV.drops h ss
end
def SO.drop (h : Nat) : SO → SO
  | .cells et cs => .cells et (SV.drops h cs)
  | o => o
def Slots.drop (h : Nat) (S : Slots) : Slots := fun t => SV.drop h (S t)

mutual
theorem SV.rel_drop' {h : Nat} {ρ' : Map} (hle : ∀ k x, k ≠ h → ρ k = some x → ρ' k = some x) : ∀ {s : SV} {v : Value}, SV.rel Z ρ s v → SV.rel Z ρ' (SV.drop h s) v
  | .lit _, _, hr => by simpa only [SV.rel, SV.drop] using hr
  | .ptr k o, _, hr => by
    simp only [SV.drop]
    split
    · simp only [SV.rel]
    · rename_i hk
      simp only [SV.rel] at *
      obtain ⟨b, C, h1, h2⟩ := hr
      exact ⟨b, C, hle _ _ (fun e => hk (by subst e; simp)) h1, h2⟩
  | .ept k wd i j, _, hr => by
    simp only [SV.drop]
    split
    · simp only [SV.rel]
    · rename_i hk
      simp only [SV.rel] at *
      obtain ⟨b, C, h1, h2⟩ := hr
      exact ⟨b, C, hle _ _ (fun e => hk (by subst e; simp)) h1, h2⟩
  | .sl k wd o l, _, hr => by
    simp only [SV.drop]
    split
    · simp only [SV.rel]
    · rename_i hk
      have hk' : k ≠ h := fun e => hk (by subst e; simp)
      simp only [SV.rel] at *
      rcases hr with ⟨h1, h2⟩ | ⟨b, C, cap, o, h1, h2⟩
      · exact .inl ⟨hle _ _ hk' h1, h2⟩
      · exact .inr ⟨b, C, cap, o, hle _ _ hk' h1, h2⟩
  | .imm _ _, _, hr => by simpa only [SV.rel, SV.drop] using hr
  | .ipt _ _ _ _, _, hr => by simpa only [SV.rel, SV.drop] using hr
  | .agg _, _, hr => by simp only [SV.rel, SV.drop] at *; obtain ⟨vs, h1, h2⟩ := hr; exact ⟨vs, h1, SV.rels_drop' hle h2⟩
  | .tup _, _, hr => by simp only [SV.rel, SV.drop] at *; obtain ⟨vs, h1, h2⟩ := hr; exact ⟨vs, h1, SV.rels_drop' hle h2⟩
  | .fn _ _, _, hr => by simp only [SV.rel, SV.drop] at *; obtain ⟨vs, h1, h2⟩ := hr; exact ⟨vs, h1, SV.rels_drop' hle h2⟩
  | .junk, _, _ => by simp only [SV.rel, SV.drop]
theorem SV.rels_drop' {h : Nat} {ρ' : Map} (hle : ∀ k x, k ≠ h → ρ k = some x → ρ' k = some x) : ∀ {s : List SV} {v : List Value}, SV.rels Z ρ s v → SV.rels Z ρ' (SV.drops h s) v
  | [], _, hr => by simpa only [SV.rels, SV.drops] using hr
  | _ :: _, _, hr => by
    simp only [SV.rels, SV.drops] at *
    obtain ⟨v, r, h1, h2, h3⟩ := hr
    exact ⟨v, r, h1, SV.rel_drop' hle h2, SV.rels_drop' hle h3⟩
end
theorem put_drop {h : Nat} {x : Blk} : ∀ k y, k ≠ h → ρ k = some y → ρ.put h x k = some y := fun k y hk hy => by rw [put_ne hk]; exact hy
theorem SV.rel_drop {h : Nat} {x : Blk} {s : SV} {v : Value} (hr : SV.rel Z ρ s v) : SV.rel Z (ρ.put h x) (SV.drop h s) v := SV.rel_drop' put_drop hr
theorem SO.rel_drop' {h k : Nat} {ρ' : Map} {o : SO} (hle : ∀ k x, k ≠ h → ρ k = some x → ρ' k = some x) (hr : SO.rel Z ρ w k o) (hk : k ≠ h) : SO.rel Z ρ' w k (SO.drop h o) := by
  cases o with
  | cells et cs =>
    simp only [SO.rel, SO.drop] at *
    obtain ⟨b, C, vs, h1, h2, h3⟩ := hr
    exact ⟨b, C, vs, hle _ _ hk h1, h2, SV.rels_drop' hle h3⟩
  | row et t l =>
    simp only [SO.rel, SO.drop] at *
    rcases hr with ⟨h1, h2⟩ | ⟨b, C, vs, h1, h2⟩
    · exact .inl ⟨hle _ _ hk h1, h2⟩
    · exact .inr ⟨b, C, vs, hle _ _ hk h1, h2⟩
  | dead => trivial
theorem SO.rel_drop {h k : Nat} {x : Blk} {o : SO} (hr : SO.rel Z ρ w k o) (hk : k ≠ h) : SO.rel Z (ρ.put h x) w k (SO.drop h o) := SO.rel_drop' put_drop hr hk
theorem SO.live_drop {h : Nat} {o : SO} : (SO.drop h o).live = o.live := by cases o <;> rfl

theorem look_drop {h : Nat} {S : Slots} {t : Nat} : look (Slots.drop h S) t = SV.drop h (look S t) := rfl

/-- A handle's block is let go; a new handle stands for it, or for a new one. -/
theorem Sat.release {h : Nat} {o ob : SO} {x : Blk} (hs : Sat E ρ H w) (ho : H[h]? = some o) (hl : o.live = true)
    (hos : w'.os = w.os) (htape : w'.tape = w.tape) (hout : w'.output = w.output)
    (hother : ∀ k, (∀ C, ρ h ≠ some (.at k C)) → ∀ y, w.heap[k]? = some y → w'.heap[k]? = some y)
    (hx : ∀ b C, x = .at b C → (∃ C', ρ h = some (.at b C')) ∨ w.heap[b]? = none)
    (hr : SO.rel E.Z (ρ.put H.length x) w' H.length ob) : Sat E (ρ.put H.length x) (H.set h .dead ++ [ob]) w' := by
  have hlt : h < H.length := by
    rcases Nat.lt_or_ge h H.length with h1 | h1
    · exact h1
    · rw [List.getElem?_eq_none h1] at ho; cases ho
  have hle := Map.le_put (x := x) (hs.free _ (Nat.le_refl _))
  have hget : ∀ k (y : SO), (H.set h .dead ++ [ob])[k]? = some y → (k < H.length ∧ k ≠ h ∧ H[k]? = some y) ∨ (k < H.length ∧ y = .dead) ∨ (k = H.length ∧ y = ob) := fun k y hy => by
    rw [List.getElem?_append] at hy
    split at hy
    · rename_i hk
      simp at hk
      by_cases e : k = h
      · subst e
        simp [hlt] at hy
        exact .inr (.inl ⟨hk, hy.symm⟩)
      · rw [List.getElem?_set_ne (Ne.symm e)] at hy
        exact .inl ⟨hk, e, hy⟩
    · rename_i hk
      simp at hk
      have hh : k = H.length := by
        rcases Nat.lt_or_ge H.length k with h1 | h1
        · rw [List.getElem?_eq_none (by simp; omega)] at hy; cases hy
        · omega
      subst hh; simp at hy; exact .inr (.inr ⟨rfl, hy.symm⟩)
  have hnew : ∀ b C k (y : SO) C', x = .at b C → k ≠ h → H[k]? = some y → y.live = true → ρ k ≠ some (.at b C') := fun b C k y C' ex hne hy hly e => by
    rcases hx b C ex with ⟨C2, h2⟩ | h2
    · exact hne (hs.inj _ _ _ _ _ _ _ hy ho hly hl e h2)
    · obtain ⟨_, _, h3⟩ := SO.at_heap (hs.objs _ _ hy) hly e
      rw [h2] at h3; cases h3
  refine ⟨hos.trans hs.os, htape.trans hs.tape, hout.trans hs.output, ?_, ?_, ?_, hs.zle, ?_, ?_⟩
  · intro k hk
    simp at hk
    rw [put_ne (by omega)]; exact hs.free _ (by omega)
  · intro k y hy
    rcases hget k y hy with ⟨h1, h2, h3⟩ | ⟨h1, rfl⟩ | ⟨rfl, rfl⟩
    · by_cases hly : y.live = true
      · refine SO.rel_keep (hs.objs _ _ h3) hle (fun b C hb z hz => hother b (fun C' e => ?_) z hz)
        exact h2 (hs.inj _ _ _ _ _ _ _ h3 ho hly hl hb e)
      · cases y <;> first | exact absurd rfl hly | trivial
    · trivial
    · exact hr
  · intro k k' y y' b C1 C2 hy hy' hl1 hl2 hb1 hb2
    rcases hget k y hy with ⟨h1, h2, h3⟩ | ⟨h1, rfl⟩ | ⟨rfl, rfl⟩ <;> rcases hget k' y' hy' with ⟨h1', h2', h3'⟩ | ⟨h1', rfl⟩ | ⟨rfl, rfl⟩
    · rw [put_ne (by omega)] at hb1; rw [put_ne (by omega)] at hb2
      exact hs.inj _ _ _ _ _ _ _ h3 h3' hl1 hl2 hb1 hb2
    · cases hl2
    · rw [put_ne (by omega)] at hb1; rw [Map.put_same] at hb2; injection hb2 with hb2
      exact absurd hb1 (hnew b C2 k y C1 hb2 h2 h3 hl1)
    · cases hl1
    · cases hl1
    · cases hl1
    · rw [put_ne (by omega)] at hb2; rw [Map.put_same] at hb1; injection hb1 with hb1
      exact absurd hb2 (hnew b C1 k' y' C2 hb1 h2' h3' hl2)
    · cases hl2
    · rfl
  · intro k y hk
    refine hother k (fun C e => ?_) _ (hs.keep _ _ hk)
    rw [hs.apart _ _ _ _ ho hl e] at hk; cases hk
  · intro k y b C hy hly hb
    rcases hget k y hy with ⟨h1, h2, h3⟩ | ⟨h1, rfl⟩ | ⟨rfl, rfl⟩
    · rw [put_ne (by omega)] at hb
      exact hs.apart _ _ _ _ h3 hly hb
    · cases hly
    · rw [Map.put_same] at hb; injection hb with hb
      rcases hx b C hb with ⟨C2, h2⟩ | h2
      · exact hs.apart _ _ _ _ ho hl h2
      · cases hF : E.F b with
        | none => rfl
        | some z => rw [hs.keep _ _ hF] at h2; cases h2

/-- The elements that are appended. -/
def strInts (s : ByteArray) : List Int := s.data.toList.map fun b => (b.toNat : Int)
def xelems (H : Heap) (ty : Ty) (x : SV) : Tree (List ty.den) := match x with
    | .lit (.slice none 0 0) => .ret []
    | .sl h wd off len => match H[h]? with
      | some (.row _ ty' l) => if Nat.beq wd ty'.width then match ty'.same ty with
        | some e => .need (off + len ≤ l.length) (.ret (e.down ▸ ((l.drop off).take len)))
        | none => .fail
        else .fail
      | _ => .fail
    | .imm ty' l => if Nat.blt 0 ty'.width then match ty'.same ty with
        | some e => .ret (e.down ▸ l)
        | none => .fail
      else .fail
    | .lit (.string s) => match Ty.same (.int .u8) ty with
      | some e => .ret (e.down ▸ (strInts s : List (Ty.int .u8).den))
      | none => .fail
    | _ => .fail

/-- What is known of the elements' source: how many there are, and their cells. -/
def Source (P : Program) (w : World) (size : Nat) (v : Value) (m : Nat) (news : List Value) : Prop :=
  (Builtin.lenOf v).run P w = .ok m w ∧ (Builtin.lenOf v).run P w.drew = .ok m w.drew ∧
  (Builtin.firstCells size m v).run P w = .ok news.toArray w ∧ (Builtin.firstCells size m v).run P w.drew = .ok news.toArray w.drew

theorem lies_cells {t : Ty} {l : List t.den} {vs : List Value} {o : Nat} (h : t.lies Z l vs o) :
    t.lies Z l ((vs.drop o).take (l.length * t.width)) 0 := fun i hi => by
  have h1 := h i hi
  have hm : i * t.width + t.width ≤ l.length * t.width := by
    have : (i + 1) * t.width ≤ l.length * t.width := Nat.mul_le_mul_right _ hi
    rw [Nat.add_mul] at this; omega
  have e : (((vs.drop o).take (l.length * t.width)).drop (0 + i * t.width)).take t.width = (vs.drop (o + i * t.width)).take t.width := by
    rw [Nat.zero_add, List.drop_take, List.take_take, List.drop_drop, Nat.min_eq_left (by omega)]
  rw [e]; exact h1

theorem source_row {b o : Nat} {arr : Array Value} {et : TypeId} {fz : Nat × Nat} {size m c : Nat} (hb : w.heap[b]? = some (.cells arr et fz)) (hlen : o + m * size ≤ arr.size) :
    Source P w size (.slice (some ⟨b, o, none⟩) m c) m ((arr.toList.drop o).take (m * size)) := by
  have hl : ((arr.toList.drop o).take (m * size)).length = m * size := by simp; omega
  have hc : ∀ j v, ((arr.toList.drop o).take (m * size))[j]? = some v → w.cell? ((⟨b, o, none⟩ : Addr).add j) = some v := fun j v hv => by
    rw [add_lit]
    rw [List.getElem?_take] at hv
    split at hv
    · simpa [World.cell?, hb] using hv
    · cases hv
  have h1 := run_loadCells_list (P := P) w ⟨b, o, none⟩ _ hc
  have h2 := run_loadCells_list (P := P) w.drew ⟨b, o, none⟩ _ hc
  rw [hl] at h1 h2
  exact ⟨by simp [Builtin.lenOf], by simp [Builtin.lenOf], by simpa [Builtin.firstCells] using h1, by simpa [Builtin.firstCells] using h2⟩

theorem source_nil {size : Nat} : Source P w size (.slice none 0 0) 0 [] := ⟨by simp [Builtin.lenOf], by simp [Builtin.lenOf], by simp [Builtin.firstCells], by simp [Builtin.firstCells]⟩

theorem lies_nil {t : Ty} {vs : List Value} {o : Nat} : t.lies Z [] vs o := fun i hi => by simp at hi

theorem reads_all {t : Ty} {l : List t.den} {vs : List Value} : t.lies Z l vs 0 → vs.length = l.length * t.width → SV.rels Z ρ (l.flatMap t.cells) vs := by
  induction l generalizing vs with
  | nil => intro _ h; simp at h; subst h; simp [SV.rels]
  | cons x l ih =>
    intro h hlen
    have h0 := h 0 (by simp)
    simp only [List.length_cons, Nat.add_mul, Nat.one_mul] at hlen
    simp only [Nat.zero_mul, Nat.add_zero, List.drop_zero, List.getElem_cons_zero] at h0
    have h1 : t.lies Z l (vs.drop t.width) 0 := fun i hi => by
      have := h (i + 1) (by simpa using hi)
      rw [Nat.zero_add] at this ⊢
      rw [List.drop_drop, show t.width + i * t.width = (i + 1) * t.width by rw [Nat.add_mul]; omega]
      simpa using this
    have := ih h1 (by simp; omega)
    rw [List.flatMap_cons, ← List.take_append_drop t.width vs]
    exact rels_append ((reads_iff (ρ := ρ)).1 h0) this

theorem all_reads {t : Ty} : ∀ {l : List t.den} {vs : List Value}, SV.rels Z ρ (l.flatMap t.cells) vs → vs.length = l.length * t.width ∧ t.lies Z l vs 0
  | [], vs, h => by simp [SV.rels] at h; subst h; exact ⟨by simp, lies_nil⟩
  | x :: l, vs, h => by
    rw [List.flatMap_cons] at h
    obtain ⟨v1, v2, rfl, h1, h2⟩ := rels_split h
    obtain ⟨e1, e2⟩ := all_reads h2
    have hw := reads_length ((reads_iff (ρ := ρ)).2 h1)
    refine ⟨by simp [hw, e1, Nat.add_mul]; omega, fun i hi => ?_⟩
    rw [Nat.zero_add]
    cases i with
    | zero => simpa [← hw] using (reads_iff (ρ := ρ)).2 h1
    | succ i =>
      have := e2 i (by simpa using hi)
      rw [Nat.zero_add] at this
      rw [show (i + 1) * t.width = v1.length + i * t.width by rw [hw, Nat.add_mul]; omega, ← List.drop_drop]
      simpa using this

theorem strCells_lies (s : ByteArray) : Ty.lies Z (.int .u8) (strInts s) (s.data.toList.map fun b => Value.int .u8 b.toNat) 0 := fun i hi => by
  have hi' : i < s.data.toList.length := by simpa [strInts] using hi
  simp only [Ty.reads, Ty.width, Nat.mul_one, Nat.zero_add, strInts, List.getElem_map]
  rw [List.drop_eq_getElem_cons (by simpa using hi')]
  simp

/-- The source of the elements, and what they are. -/
theorem xelems_sound {ty : Ty} {x : SV} {vx : Value} {Q : List ty.den → Prop} (hs : Sat E ρ H w) (hx : SV.rel E.Z ρ x vx) (h : (xelems H ty x).Leads Q) :
    ∃ M news, Q M ∧ news.length = M.length * ty.width ∧ ty.lies E.Z M news 0 ∧ ((∃ s, vx = .string s ∧ ty = .int .u8) ∨ ∃ a n c, vx = .slice a n c) ∧ Source P w ty.width vx M.length news := by
  unfold xelems at h
  split at h
  · have := rel_lit hx; subst this
    exact ⟨[], [], h, by simp, lies_nil, .inr ⟨_, _, _, rfl⟩, source_nil⟩
  · rename_i hd wd off len
    split at h
    · rename_i et ty' l hh
      split at h
      case isFalse => exact h.elim
      rename_i hw
      have := Nat.eq_of_beq_eq_true hw; subst this
      split at h
      · rename_i e he
        obtain ⟨e⟩ := e
        subst e
        obtain ⟨hle, h⟩ := h
        have hobj := hs.objs _ _ hh
        simp only [SO.rel] at hobj
        simp only [SV.rel] at hx
        rcases hx with ⟨h1, rfl, rfl, rfl⟩ | ⟨b, C, cap, o, h1, rfl, h2, h3, h4⟩
        · refine ⟨_, [], h, by simp, fun i hi => by simp at hi, .inr ⟨_, _, _, rfl⟩, by simpa using source_nil⟩
        · rcases hobj with ⟨h0, _⟩ | ⟨b', C', vs, h1', h2', h3', h4', h5', h6'⟩
          · rw [h0] at h1; cases h1
          rw [h1] at h1'; injection h1' with h1'; injection h1' with e1 e2; subst e1; subst e2
          have hlen : ((l.drop off).take len).length = len := by simp; omega
          rcases h4 with h4 | h4
          · have : len = 0 := by omega
            subst this
            refine ⟨_, [], h, by simp, fun i hi => by simp at hi, .inr ⟨_, _, _, rfl⟩, ?_⟩
            simp
            exact ⟨by simp [Builtin.lenOf], by simp [Builtin.lenOf], by simp [Builtin.firstCells, loadCells, loadCellsFrom], by simp [Builtin.firstCells, loadCells, loadCellsFrom]⟩
          · subst h4
            have hmul : off * ty'.width + len * ty'.width ≤ vs.size := by
              rw [h3', ← Nat.add_mul]; exact Nat.mul_le_mul_right _ (by omega)
            have hl := lies_take (lies_drop h6' off) len
            rw [Nat.zero_add] at hl
            have hl' := lies_cells hl
            rw [hlen] at hl'
            refine ⟨_, _, h, ?_, hl', .inr ⟨_, _, _, rfl⟩, ?_⟩
            · rw [hlen, List.length_take, List.length_drop, Array.length_toList]; omega
            · have := source_row (P := P) (c := cap) (size := ty'.width) (m := len) h2' hmul
              rw [hlen]; exact this
      · exact h.elim
    · exact h.elim
  · rename_i ty' l
    split at h
    case isFalse => exact h.elim
    rename_i hw0
    have hw0 : 0 < ty'.width := Nat.lt_of_lt_of_le (Nat.zero_lt_succ 0) (Nat.le_of_ble_eq_true hw0)
    split at h
    · rename_i e he
      obtain ⟨e⟩ := e
      subst e
      simp only [SV.rel, Ty.reads] at hx
      obtain ⟨u, hu', h''⟩ := hx
      simp only [List.cons.injEq, and_true] at hu'
      subst hu'
      rcases h'' with ⟨rfl, rfl⟩ | ⟨b, o, cap, arr, et, fz, rfl, h1, h2, h3⟩ | ⟨rfl, a, cap, rfl⟩
      rotate_left 2
      · exact ⟨[], [], h, by simp, lies_nil, .inr ⟨_, _, _, rfl⟩, by simpa using ⟨by simp [Builtin.lenOf], by simp [Builtin.lenOf], by simp [Builtin.firstCells, loadCells, loadCellsFrom], by simp [Builtin.firstCells, loadCells, loadCellsFrom]⟩⟩
      · exact ⟨[], [], h, by simp, lies_nil, .inr ⟨_, _, _, rfl⟩, source_nil⟩
      · have hlenv : o + l.length * ty'.width ≤ arr.size ∨ l.length = 0 := by
          by_cases h0 : l.length = 0
          · exact .inr h0
          · left
            have h4 := h3 (l.length - 1) (by omega)
            have h5 := reads_length h4
            simp at h5
            have : (l.length - 1) * ty'.width + ty'.width = l.length * ty'.width := by
              rw [← Nat.succ_mul]; congr 1; omega
            omega
        rcases hlenv with hlenv | hlenv
        · exact ⟨l, _, h, by simp; omega, lies_cells h3, .inr ⟨_, _, _, rfl⟩, source_row (hs.zone _ _ h2) hlenv⟩
        · have : l = [] := List.eq_nil_of_length_eq_zero hlenv
          subst this
          exact ⟨[], [], h, by simp, lies_nil, .inr ⟨_, _, _, rfl⟩, by simpa using ⟨by simp [Builtin.lenOf], by simp [Builtin.lenOf], by simp [Builtin.firstCells, loadCells, loadCellsFrom], by simp [Builtin.firstCells, loadCells, loadCellsFrom]⟩⟩
    · exact h.elim
  · rename_i s
    have := rel_lit hx; subst this
    split at h
    · rename_i e he
      obtain ⟨e⟩ := e
      subst e
      refine ⟨_, s.data.toList.map fun b => Value.int .u8 b.toNat, h, by simp [strInts, Ty.width], strCells_lies s, .inl ⟨s, rfl, rfl⟩, ?_⟩
      have hl : (strInts s).length = s.size := by simp [strInts]
      have hx : ∀ w : World, (Builtin.firstCells 1 s.size (.string s)).run P w = .ok ((s.data.toList.map fun b => Value.int .u8 b.toNat).toArray) w := fun w => by
        have e : s.extract 0 s.size = s := by simp
        simp only [Builtin.firstCells, e, Sem.run_pure]
        congr 1
        apply Array.ext'; simp
      exact ⟨by simp [Builtin.lenOf, hl], by simp [Builtin.lenOf, hl], by rw [hl]; exact hx w, by rw [hl]; exact hx w.drew⟩
    · exact h.elim
  · exact h.elim
end Sx
