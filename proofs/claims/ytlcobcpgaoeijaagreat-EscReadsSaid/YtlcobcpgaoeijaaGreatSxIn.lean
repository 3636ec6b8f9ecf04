/- Rows whose elements have lists in blocks of their own. -/
import Derived.Test.YtlcobcpgaoeijaaGreatSxIm
set_option linter.unusedVariables false
set_option linter.unusedSimpArgs false
namespace Sx
open Go
variable {P : Program} {E : Env} {ρ : Map} {S : Slots} {H : Heap} {a : Act} {w w' : World} {Z : Zone}
theorem Sat.mute {h : Nat} {o o' : SO} (hs : Sat E ρ H w) (ho : H[h]? = some o) (hl' : o'.live = false) (hr : SO.rel E.Z ρ w h o') : Sat E ρ (H.set h o') w := by
  have get : ∀ k (x : SO), (H.set h o')[k]? = some x → x.live = true → H[k]? = some x := fun k x hk hl => by
    by_cases e : k = h
    · subst e
      rw [List.getElem?_set_self (List.getElem?_eq_some_iff.1 ho).1] at hk
      injection hk with hk; subst hk; rw [hl'] at hl; cases hl
    · rwa [List.getElem?_set_ne (Ne.symm e)] at hk
  refine ⟨hs.os, hs.tape, hs.output, fun k hk => hs.free k (by simpa using hk), fun k x hk => ?_, fun k k' x x' c hk hk' hl hl' hb1 hb2 => ?_, hs.zle, hs.keep, fun k x c hk hl hb1 => ?_, fun k x c hk hl hb1 => ?_, hs.old⟩
  · by_cases e : k = h
    · subst e
      rw [List.getElem?_set_self (List.getElem?_eq_some_iff.1 ho).1] at hk
      injection hk with hk; subst hk; exact hr
    · rw [List.getElem?_set_ne (Ne.symm e)] at hk; exact hs.objs _ _ hk
  · exact hs.inj _ _ _ _ _ (get _ _ hk hl) (get _ _ hk' hl') hl hl' hb1 hb2
  · exact hs.apart _ _ _ (get _ _ hk hl) hl hb1
  · exact hs.fresh _ _ _ (get _ _ hk hl) hl hb1
theorem Sat.addHold {x : Blk} {et : TypeId} {t : Ty} {l : List t.den} (hs : Sat E ρ H w) (hc : ∀ k ∈ deedsOf x, (∀ h (o : SO), H[h]? = some o → o.live = true → ¬ claimed (ρ h) k) ∧ ¬ E.tk k)
    (hr : SO.rel E.Z (ρ.put H.length x) w H.length (.hold et t l)) : Sat E (ρ.put H.length x) (H ++ [.hold et t l]) w := by
  have hle := Map.le_put (x := x) (hs.free _ (Nat.le_refl _))
  have hget : ∀ h (o : SO), (H ++ [.hold et t l])[h]? = some o → (h < H.length ∧ H[h]? = some o) ∨ (h = H.length ∧ o = .hold et t l) := fun h o ho => by
    rw [List.getElem?_append] at ho
    split at ho
    · exact .inl ⟨by assumption, ho⟩
    · have hh : h = H.length := by
        rcases Nat.lt_or_ge H.length h with h1 | h1
        · rw [List.getElem?_eq_none (by simp; omega)] at ho; cases ho
        · omega
      subst hh; simp at ho; exact .inr ⟨rfl, ho.symm⟩
  have hput : ∀ k, claimed (ρ.put H.length x H.length) k → k ∈ deedsOf x := fun k hk => by
    obtain ⟨b', C', l', h1, h2⟩ := hk
    rw [Map.put_same] at h1; injection h1 with h1; subst h1
    exact List.mem_cons.2 h2
  have hno : ∀ k, ¬ SO.owned (.hold et t l) (ρ.put H.length x H.length) k := fun k hk => by
    obtain ⟨b', C', l', h1, h2⟩ := hk
    rcases h2 with ⟨h2, _⟩ | ⟨h2, _⟩ <;> cases h2
  refine ⟨hs.os, hs.tape, hs.output, ?_, ?_, ?_, hs.zle, hs.keep, ?_, ?_, hs.old⟩
  · intro h hh
    simp at hh
    rw [put_ne (by omega)]; exact hs.free _ (by omega)
  · intro h o ho
    rcases hget h o ho with ⟨h1, h2⟩ | ⟨rfl, rfl⟩
    · exact SO.rel_keep (hs.objs _ _ h2) hle (fun b _ y hy => hy)
    · exact hr
  · intro h h' o o' b ho ho' hl1 hl2 hb hb'
    rcases hget h o ho with ⟨h1, h2⟩ | ⟨rfl, rfl⟩
    · rw [put_ne (by omega)] at hb
      rcases hget h' o' ho' with ⟨h1', h2'⟩ | ⟨rfl, rfl⟩
      · rw [put_ne (by omega)] at hb'
        exact hs.inj _ _ _ _ _ h2 h2' hl1 hl2 hb hb'
      · exact absurd hb ((hc _ (hput _ hb')).1 _ _ h2 hl1)
    · rcases hget h' o' ho' with ⟨h1', h2'⟩ | ⟨rfl, rfl⟩
      · rw [put_ne (by omega)] at hb'
        exact absurd hb' ((hc _ (hput _ hb)).1 _ _ h2' hl2)
      · rfl
  · intro h o b ho hl1 hb
    rcases hget h o ho with ⟨h1, h2⟩ | ⟨rfl, rfl⟩
    · rw [put_ne (by omega)] at hb
      exact hs.apart _ _ _ h2 hl1 hb
    · exact absurd hb (hno _)
  · intro h o b ho hl1 hb ht
    rcases hget h o ho with ⟨h1, h2⟩ | ⟨rfl, rfl⟩
    · rw [put_ne (by omega)] at hb
      exact hs.fresh _ _ _ h2 hl1 hb ht
    · exact (hc _ (hput _ hb)).2 ht
theorem apart_head {V W : Zone} {e2 : TypeId} {t : Ty} {d : Nat} {r : List Nat} : ∀ {L : List (List t.den)} {us : List Value}, t.apart V W e2 L us (d :: r) → ∃ arr cap, W d = some (.cells arr e2 (0, 0)) ∧ arr.size = cap * t.width ∧ cap ≤ maxLen
  | [], us, h => by obtain ⟨_, h⟩ := h; cases h
  | l :: L, us, h => by
    obtain ⟨v, vs, _, h⟩ := h
    rcases h with ⟨_, _, h3⟩ | ⟨b, o, cap, arr, l', h1, h2, h0, h3, h4, h5, h6, h7, h8⟩
    · exact apart_head h3
    · injection h1 with e1 e2; subst e1
      exact ⟨arr, cap, h3, h4, h6⟩
def ofDeeds (C : Nat) : List Nat → Blk
  | [] => .nil
  | d :: r => .at d C r
theorem deeds_of {C : Nat} : ∀ {l : List Nat}, deedsOf (ofDeeds C l) = l
  | [] => rfl
  | _ :: _ => rfl
theorem hold_of {V : Zone} {e2 : TypeId} {t : Ty} {L : List (List t.den)} {us : List Value} {ds : List Nat} (ha : t.apart V Z e2 L us ds) (hn : ds.Nodup) : ∃ C, ∀ (ρ' : Map) (h : Nat), ρ' h = some (ofDeeds C ds) → SO.rel Z ρ' w h (.hold e2 t []) := by
  match ds, ha, hn with
  | [], _, _ => exact ⟨0, fun ρ' h e => .inl ⟨e, rfl⟩⟩
  | d :: r, ha, hn =>
    obtain ⟨arr, cap, g1, g2, g3⟩ := apart_head ha
    exact ⟨cap, fun ρ' h e => .inr ⟨d, cap, r, arr, e, g1, g2, by simp, g3, lies_nil, hn, fun k hk => apart_heap ha (List.mem_cons_of_mem _ hk)⟩⟩
theorem col_cells : ∀ {t : Ty} {c : Col t} {x : t.den}, t.col = some c → (t.cells x)[c.j]? = some (.imm c.u (c.f x))
  | .imm u, c, x, h => by simp only [Ty.col, Option.some.injEq] at h; subst h; rfl
  | .pair a b, c, x, h => by
    simp only [Ty.col] at h
    split at h
    · rename_i d hd
      injection h with h; subst h
      have := col_lt hd
      simp only [Ty.cells]
      rw [List.getElem?_append_left (by rw [cells_length]; exact this)]
      exact col_cells hd
    · split at h
      · rename_i d hd
        injection h with h; subst h
        simp only [Ty.cells]
        rw [List.getElem?_append_right (by rw [cells_length]; omega), cells_length, Nat.add_sub_cancel_left]
        exact col_cells hd
      · cases h
  | .int _, _, _, h => by cases h
  | .bool, _, _, h => by cases h
  | .str, _, _, h => by cases h
  | .unit, _, _, h => by cases h
  | .opt _, _, _, h => by cases h
theorem colV_append {wd j : Nat} {us2 : List Value} (hj : j < wd) : ∀ {n m : Nat} {us : List Value}, us.length = n * wd → colV wd j (n + m) (us ++ us2) = colV wd j n us ++ colV wd j m us2
  | 0, m, us, h => by
    have : us = [] := List.eq_nil_of_length_eq_zero (by simpa using h)
    subst this
    simp [colV]
  | n + 1, m, us, h => by
    have hw : wd ≤ us.length := by rw [h, Nat.add_mul]; omega
    rw [show n + 1 + m = (n + m) + 1 by omega, colV, colV, List.cons_append]
    rw [List.drop_append_of_le_length hw, colV_append hj (n := n) (by rw [List.length_drop, h, Nat.add_mul]; omega)]
    congr 1
    rw [List.getD_eq_getElem?_getD, List.getD_eq_getElem?_getD, List.getElem?_append_left (by omega)]
theorem colV_take {wd j : Nat} (hj : j < wd) : ∀ {n : Nat} {vs : List Value}, colV wd j n (vs.take (n * wd)) = colV wd j n vs
  | 0, _ => rfl
  | n + 1, vs => by
    have e : (n + 1) * wd = wd + n * wd := by rw [Nat.add_mul]; omega
    rw [colV, colV, e, List.drop_take, Nat.add_sub_cancel_left, colV_take hj (n := n)]
    congr 1
    rw [List.getD_eq_getElem?_getD, List.getD_eq_getElem?_getD, List.getElem?_take, if_pos (by omega)]
theorem colV_more {wd j : Nat} (hj : j < wd) {n : Nat} {vs r : List Value} (h : vs.length = n * wd) : colV wd j n (vs ++ r) = colV wd j n vs := by
  have := colV_append (us2 := r) hj (us := vs) (m := 0) h
  simpa [colV] using this
theorem lies_more {t : Ty} {l : List t.den} {vs : List Value} (r : List Value) (h : t.lies Z l vs 0) (hl : vs.length = l.length * t.width) : t.lies Z l (vs ++ r) 0 := by
  refine lies_take_of (n := vs.length) ?_ (by omega)
  rw [List.take_left' rfl]; exact h
theorem drow_slice {h n : Nat} {e e2 : TypeId} {ty : Ty} {L : List ty.den} {v : Value} (hs : Sat E ρ H w) (hh : H[h]? = some (.drow e e2 ty L)) (hv : SV.rel E.Z ρ (.sl h ty.width 0 n) v) (hn : n = L.length) :
    ∃ c us bs base cap, ty.col = some c ∧ v = .slice base n cap ∧ us.length = n * ty.width ∧ ty.lies E.Z L us 0 ∧ c.u.apart E.Z E.Z e2 (L.map c.f) (colV ty.width c.j n us) bs ∧ bs.Nodup ∧ (∀ k ∈ bs, claimed (ρ h) k) ∧ n ≤ cap ∧ cap ≤ maxLen ∧
      ((ρ h = some .nil ∧ base = none ∧ cap = 0 ∧ bs = [] ∧ L = []) ∨ ∃ b o vs, ρ h = some (.at b cap bs) ∧ base = some ⟨b, o, none⟩ ∧ (cap = 0 ∨ o = 0) ∧ w.heap[b]? = some (.cells vs e (0, 0)) ∧ vs.size = cap * ty.width ∧ vs.toList.take (n * ty.width) = us) := by
  subst hn
  have hob := hs.objs _ _ hh
  simp only [SO.rel] at hob
  simp only [SV.rel] at hv
  obtain ⟨c, hc, hob⟩ := hob
  have hcj := col_lt hc
  rcases hv with ⟨h1, _, hL, rfl⟩ | ⟨b, C, bs, cap, o, h1, rfl, h2, h3, h4⟩
  · have hL : L = [] := List.eq_nil_of_length_eq_zero hL
    subst hL
    exact ⟨c, [], [], none, 0, hc, rfl, by simp, lies_nil, ⟨rfl, rfl⟩, List.nodup_nil, by simp, by simp, by unfold maxLen; omega, .inl ⟨h1, rfl, rfl, rfl, rfl⟩⟩
  · rcases hob with ⟨h0, _⟩ | ⟨b', C', ds, vs, g1, g2, g3, g4, g5, g6, g7, g8⟩
    · rw [h0] at h1; cases h1
    · rw [h1] at g1; injection g1 with g1; injection g1 with e1 e2 e3; subst e1; subst e2; subst e3
      have hc' : cap = C := by omega
      subst hc'
      have hlen : (vs.toList.take (L.length * ty.width)).length = L.length * ty.width := by
        have e : vs.toList.length = cap * ty.width := by rw [Array.length_toList]; exact g3
        rw [List.length_take, e]
        exact Nat.min_eq_left (Nat.mul_le_mul_right _ g4)
      refine ⟨c, vs.toList.take (L.length * ty.width), bs, _, cap, hc, rfl, hlen, ?_, ?_, g7, fun k hk => ⟨b, cap, bs, h1, .inr hk⟩, g4, g5, .inr ⟨b, o, vs, h1, rfl, ?_, g2, g3, rfl⟩⟩
      · have := lies_part g6 L.length
        rwa [List.take_length] at this
      · rw [colV_take hcj]; exact g8
      · rcases h4 with h4 | h4
        · exact .inl h4
        · exact .inr (by simpa using h4)
theorem drow_source {n cap : Nat} {base : Option Addr} {us : List Value} {e : TypeId} {wd : Nat} (_ : 0 < wd) (hus : us.length = n * wd)
    (hb : (base = none ∧ cap = 0 ∧ n = 0) ∨ ∃ b o vs, base = some ⟨b, o, none⟩ ∧ (cap = 0 ∨ o = 0) ∧ n ≤ cap ∧ w.heap[b]? = some (.cells vs e (0, 0)) ∧ vs.size = cap * wd ∧ vs.toList.take (n * wd) = us) : Source P w wd (.slice base n cap) n us := by
  rcases hb with ⟨rfl, rfl, rfl⟩ | ⟨b, o, vs, rfl, h1, h2, h3, h4, h5⟩
  · have : us = [] := List.eq_nil_of_length_eq_zero (by simpa using hus)
    subst this
    exact source_nil
  · by_cases hn : n = 0
    · subst hn
      have : us = [] := List.eq_nil_of_length_eq_zero (by simpa using hus)
      subst this
      exact ⟨by simp [Builtin.lenOf], by simp [Builtin.lenOf], by simp [Builtin.firstCells, loadCells, loadCellsFrom], by simp [Builtin.firstCells, loadCells, loadCellsFrom]⟩
    · have ho : o = 0 := by rcases h1 with h1 | h1 <;> omega
      subst ho
      have := source_row (P := P) (w := w) (c := cap) (size := wd) (m := n) (o := 0) h3 (by rw [h4]; have := Nat.mul_le_mul_right wd h2; omega)
      rw [List.drop_zero, h5] at this
      exact this
def xappendD (P : Program) (H : Heap) (t u : TypeId) (h n h2 m : Nat) (x : SV) : Tree (SV × Heap) := match P.underlying t with
  | some (.slice e) => if srcB P u x && !(Nat.beq h h2) then match H[h]?, H[h2]? with
    | some (.drow e' e2 ty L), some (.drow e'' e2' ty' M) => if Nat.beq e' e && (Nat.beq e'' e && (Nat.beq e2' e2 && rowB P e ty)) then match ty'.same ty with
      | some q => .need (n = L.length ∧ m = M.length) (.need (Small n m (bytesOf P e)) (.ret (.sl H.length ty.width 0 (n + m), (H.set h .dead).set h2 .dead ++ [.drow e e2 ty (L ++ q.down ▸ M)])))
      | none => .fail
      else .fail
    | _, _ => .fail
    else .fail
  | _ => .fail
theorem xappendD_sound {t u ty0 : TypeId} {h n h2 m : Nat} {wd : Nat} {vs vx : Value} {Q : SV × Heap → Prop} (hs : Sat E ρ H w) (hwd : ∀ e' e2 ty L, H[h]? = some (.drow e' e2 ty L) → wd = ty.width) (hwd2 : ∀ e' e2 ty L, H[h2]? = some (.drow e' e2 ty L) → wd = ty.width)
    (hv : SV.rel E.Z ρ (.sl h wd 0 n) vs) (hx : SV.rel E.Z ρ (.sl h2 wd 0 m) vx)
    (hq : (xappendD P H t u h n h2 m (.sl h2 wd 0 m)).Leads Q) : ∃ sv H' v w' ρ', Q (sv, H') ∧ (Builtin.append_ #[t, u] ty0 #[vs, vx]).run P w = .ok v w' ∧ SV.rel E.Z ρ' sv v ∧ Sat E ρ' H' w' ∧
      Map.le ρ ρ' ∧ (∀ k, k < H.length → ρ' k = ρ k) ∧ H.length ≤ H'.length := by
  unfold xappendD at hq
  split at hq
  case h_2 => exact hq.elim
  rename_i e ht
  split at hq
  case isFalse => exact hq.elim
  rename_i hc
  simp only [Bool.and_eq_true] at hc
  obtain ⟨hsrcB, hne⟩ := hc
  have hne : h ≠ h2 := fun e => by subst e; simp at hne
  obtain ⟨d, hu, hd⟩ := srcB_facts hsrcB
  split at hq
  case h_2 => exact hq.elim
  rename_i e' e2 ty L e'' e2' ty' M hh hh2
  split at hq
  case isFalse => exact hq.elim
  rename_i hc
  simp only [Bool.and_eq_true] at hc
  obtain ⟨c1, c2, c3, hrow⟩ := hc
  have := Nat.eq_of_beq_eq_true c1; subst this
  have := Nat.eq_of_beq_eq_true c2; subst this
  have := Nat.eq_of_beq_eq_true c3; subst this
  split at hq
  case h_2 => exact hq.elim
  rename_i q hqs
  obtain ⟨q⟩ := q
  subst q
  obtain ⟨⟨hn, hm⟩, ⟨hb1, hb2⟩, hq⟩ := hq
  dsimp only at hq
  obtain ⟨i, z, hi, hsz, hz, hzs, hw0, hby⟩ := rowB_facts hrow
  have := hwd _ _ _ _ hh; subst this
  obtain ⟨c, us, bs, base, cap, hcol, rfl, hul, hlies, hap, hnd, hcl, hnc, hcm, hbase⟩ := drow_slice hs hh hv hn
  obtain ⟨c', us2, bs2, base2, cap2, hcol2, rfl, hul2, hlies2, hap2, hnd2, hcl2, hnc2, hcm2, hbase2⟩ := drow_slice hs hh2 hx hm
  rw [hcol] at hcol2; injection hcol2 with hcol2; subst hcol2
  have hcj := col_lt hcol
  have hsrc : Source P w i.size (.slice base2 m cap2) m us2 := by
    rw [hsz]
    refine drow_source (e := e'') hw0 hul2 ?_
    rcases hbase2 with ⟨g1, g2, g3, g4, g5⟩ | ⟨b, o, vs, g1, g2, g3, g4, g5, g6⟩
    · exact .inl ⟨g2, g3, by omega⟩
    · exact .inr ⟨b, o, vs, g2, g3, hnc2, g4, g5, g6⟩
  have hone : ∀ v ∈ us2, v.oneCell' = true := by
    have h1 := reads_all (ρ := ρ) hlies2 (by rw [hul2, hm])
    refine rels_one h1 ?_
    rw [List.all_eq_true]
    intro c hc
    obtain ⟨x, _, hx⟩ := List.mem_flatMap.1 hc
    exact List.all_eq_true.1 (firm_one (x := x) (rowB_firm hrow)) c hx
  have happ := apart_append hap2 hap
  rw [← List.map_append, ← colV_append hcj hul] at happ
  have hLM : (L ++ M).length = n + m := by rw [List.length_append, hn, hm]
  have hliesA : ty'.lies E.Z (L ++ M) (us ++ us2) 0 := by
    have := lies_snoc (Z := E.Z) [] hlies hlies2 (by rw [hul, hn]) (by rw [hul2, hm])
    simpa using this
  have hulA : (us ++ us2).length = (n + m) * ty'.width := by rw [List.length_append, hul, hul2, Nat.add_mul]
  have hnodup : (bs ++ bs2).Nodup := by
    rw [List.nodup_append]
    refine ⟨hnd, hnd2, fun a ha b hb e => ?_⟩
    subst e
    exact hne (hs.inj _ _ _ _ _ hh hh2 rfl rfl (hcl a ha) (hcl2 a hb))
  -- what is shared by all ways
  have rel : ∀ (b : Nat) (W : World) (cells : Array Value) (C : Nat), W.heap[b]? = some (.cells cells e'' (0, 0)) → cells.size = C * ty'.width → n + m ≤ C → C ≤ maxLen → cells.toList.take ((n + m) * ty'.width) = us ++ us2 →
      SO.rel E.Z (ρ.put H.length (.at b C (bs ++ bs2))) W H.length (.drow e'' e2' ty' (L ++ M)) := fun b W cells C g1 g2 g3 g4 g5 => by
    refine ⟨c, hcol, .inr ⟨b, C, bs ++ bs2, cells, Map.put_same _ _ _, g1, g2, by omega, g4, ?_, hnodup, ?_⟩⟩
    · have h1 := lies_more (cells.toList.drop ((n + m) * ty'.width)) hliesA (by rw [hulA, hLM])
      rwa [← g5, List.take_append_drop] at h1
    · rw [hLM, ← colV_take hcj, g5]; exact happ
  have fin : ∀ (b C : Nat) (W : World), W.os = w.os → W.tape = w.tape → W.output = w.output → (claimed (ρ h) b ∨ w.heap[b]? = none) → (∀ k, ¬ SO.owned (.drow e'' e2' ty' L) (ρ h) k → ∀ y, w.heap[k]? = some y → W.heap[k]? = some y) → ((∃ y, w.heap[b]? = some y) → claimed (ρ h) b → SO.owned (.drow e'' e2' ty' L) (ρ h) b) →
      SO.rel E.Z (ρ.put H.length (.at b C (bs ++ bs2))) W H.length (.drow e'' e2' ty' (L ++ M)) → Sat E (ρ.put H.length (.at b C (bs ++ bs2))) ((H.set h .dead).set h2 .dead ++ [.drow e'' e2' ty' (L ++ M)]) W := fun b C W g1 g2 g3 g4 g5 g6 g7 => by
    refine hs.release2 hh rfl hh2 rfl g1 g2 g3 (fun k a _ => g5 k a) (fun k ht y hy => ⟨y, g5 k (fun ho => hs.fresh _ _ _ hh rfl (SO.owned_claimed ho) ht) y hy⟩) (fun k hk => ?_) (fun k hk => ?_) g7
    · obtain ⟨b', C', l', e1, hk⟩ := hk
      injection e1 with e1; injection e1 with e1 e2 e3; subst e1; subst e3
      rcases hk with rfl | hk
      · rcases g4 with g4 | g4
        · exact .inl g4
        · exact .inr (.inr g4)
      · rcases List.mem_append.1 hk with hk | hk
        · exact .inl (hcl k hk)
        · exact .inr (.inl (hcl2 k hk))
    · obtain ⟨b', C', l', e1, hk⟩ := hk
      injection e1 with e1; injection e1 with e1 e2 e3; subst e1
      rcases hk with ⟨_, rfl⟩ | ⟨hk, _⟩
      · rcases g4 with g4 | g4
        · exact .inl (g6 (hs.claimed_heap hh rfl g4) g4)
        · exact .inr (.inr g4)
      · cases hk
  have hleput : ∀ x, Map.le ρ (ρ.put H.length x) := fun x => Map.le_put (hs.free _ (Nat.le_refl _))
  by_cases hfit : n + m ≤ cap
  · rcases hbase with ⟨g1, rfl, rfl, rfl, rfl⟩ | ⟨b, o, vs, g1, rfl, g3, g4, g5, g6⟩
    · -- all of it is nil
      have hn0 : n = 0 := by omega
      have hm0 : m = 0 := by omega
      subst hn0; subst hm0
      have hus2 : us2 = [] := List.eq_nil_of_length_eq_zero (by simpa using hul2)
      subst hus2
      have hM : M = [] := List.eq_nil_of_length_eq_zero hm.symm
      subst hM
      refine ⟨_, _, .slice none 0 0, w, ρ.put H.length .nil, hq, ?_, ?_, ?_, hleput _, fun k hk => put_ne (by omega), by simp⟩
      · simpa using run_append_fits0 (ty := ty0) (n := 0) (cap := 0) ht hu hd hi hsrc (by simp) (.inl rfl)
      · simp only [SV.rel]; exact .inl ⟨Map.put_same _ _ _, by simp, by simp, trivial⟩
      · refine hs.release2 hh rfl hh2 rfl rfl rfl rfl (fun k _ _ y hy => hy) (fun k ht y hy => ⟨y, hy⟩) (fun k hk => absurd hk not_claimed_nil) (fun k hk => absurd (SO.owned_claimed hk) not_claimed_nil) ?_
        exact ⟨c, hcol, .inl ⟨Map.put_same _ _ _, rfl⟩⟩
    · by_cases hm0 : m = 0
      · subst hm0
        have hus2 : us2 = [] := List.eq_nil_of_length_eq_zero (by simpa using hul2)
        subst hus2
        refine ⟨_, _, .slice (some ⟨b, o, none⟩) n cap, w, ρ.put H.length (.at b cap (bs ++ bs2)), hq, ?_, ?_, ?_, hleput _, fun k hk => put_ne (by omega), by simp⟩
        · simpa using run_append_fits0 (ty := ty0) (n := n) (cap := cap) (base := some ⟨b, o, none⟩) ht hu hd hi hsrc (by simpa using hnc) (.inr rfl)
        · simp only [SV.rel]; exact .inr ⟨b, cap, _, cap, o, Map.put_same _ _ _, rfl, by omega, by omega, by rcases g3 with g3 | g3 <;> simp [g3]⟩
        · exact fin b cap w rfl rfl rfl (.inl (claimed_main g1)) (fun k _ y hy => hy) (fun _ _ => SO.owned_main g1) (rel b w vs cap g4 g5 hfit hcm (by simpa using g6))
      · have ho : o = 0 := by omega
        subst ho
        have hsize : (n + m) * ty'.width ≤ cap * ty'.width := Nat.mul_le_mul_right _ hfit
        have hr := run_append_fits1 (ty := ty0) (n := n) (cap := cap) ht hu hd hi hsrc hfit g4 (by rw [hsz, hul2, g5, ← Nat.add_mul]; exact hsize) hone
        rw [hsz] at hr
        refine ⟨_, _, _, _, ρ.put H.length (.at b cap (bs ++ bs2)), hq, hr, ?_, ?_, hleput _, fun k hk => put_ne (by omega), by simp⟩
        · simp only [SV.rel]; exact .inr ⟨b, cap, _, cap, 0, Map.put_same _ _ _, rfl, by omega, hfit, .inr (by simp)⟩
        · refine fin b cap _ rfl rfl rfl (.inl (claimed_main g1)) (fun k hk y hy => ?_) (fun _ _ => SO.owned_main g1) (rel b (w.setRow b _) _ cap (setRow_heap w b vs _ e'' (0, 0) g4) ?_ hfit hcm ?_)
          · rw [setRow_other w b k _ (fun e => hk (by rw [e]; exact SO.owned_main g1))]; exact hy
          · have h1 : vs.toList.length = vs.size := Array.length_toList
            have h2 : (n + m) * ty'.width = n * ty'.width + m * ty'.width := Nat.add_mul _ _ _
            simp; omega
          · simp only
            rw [g6, List.take_append_of_le_length (by rw [hulA]; exact Nat.le_refl _), List.take_of_length_le (by rw [hulA]; exact Nat.le_refl _)]
  · have hgrow : cap < n + m := by omega
    have hold : (Builtin.firstCells i.size n (.slice base n cap)).run P w.drew = .ok us.toArray w.drew := by
      rw [hsz]
      have hsrcL : Source P w ty'.width (.slice base n cap) n us := by
        refine drow_source (e := e'') hw0 hul ?_
        rcases hbase with ⟨g1, g2, g3, g4, g5⟩ | ⟨b, o, vs, g1, g2, g3, g4, g5, g6⟩
        · exact .inl ⟨g2, g3, by omega⟩
        · exact .inr ⟨b, o, vs, g2, g3, hnc, g4, g5, g6⟩
      exact hsrcL.2.2.2
    have hr := run_append_grows1 (ty := ty0) (n := n) (cap := cap) (base := base) ht hu hd hi hz hsrc hgrow hb1 (by rw [hby]; exact hb2) hold
    have hC1 := grownCap_ge w (n + m) cap e''
    have hC2 := grownCap_le_maxLen w (n + m) cap e'' (by unfold maxLen; omega)
    refine ⟨_, _, _, _, ρ.put H.length (.at w.heap.size (grownCap w (n + m) cap e'') (bs ++ bs2)), hq, hr, ?_, ?_, hleput _, fun k hk => put_ne (by omega), by simp⟩
    · simp only [SV.rel]
      exact .inr ⟨_, _, _, _, 0, Map.put_same _ _ _, rfl, by omega, hC1, .inr (by simp)⟩
    · refine fin w.heap.size (grownCap w (n + m) cap e'') _ rfl rfl rfl (.inr (by simp)) (fun k _ y hy => ?_) (fun ⟨y, hy⟩ _ => absurd (block_lt hy) (by omega)) (rel w.heap.size _ _ (grownCap w (n + m) cap e'') (alloc_new w.drew _) ?_ hC1 hC2 ?_)
      · have : ∀ o : Obj, (w.drew.alloc o).heap[k]? = w.drew.heap[k]? := fun o => heap_alloc_old w.drew _ (block_lt hy)
        rw [this]; exact hy
      · simp only [Array.size_append, List.size_toArray, size_zeroCells, hzs, hul, hul2, ← Nat.add_mul]
        congr 1; omega
      · rw [Array.toList_append, Array.toList_append]
        simp only
        rw [List.take_append_of_le_length (by rw [hulA]; exact Nat.le_refl _), List.take_of_length_le (by rw [hulA]; exact Nat.le_refl _)]
def xappendD0 (P : Program) (H : Heap) (t u : TypeId) (h2 m : Nat) (x : SV) : Tree (SV × Heap) := match H[h2]? with
  | some (.drow e e2 ty _) => match ty.col with
    | some _ => if Nat.blt h2 H.length then xappendD P (H ++ [.drow e e2 ty []]) t u H.length 0 h2 m x else .fail
    | none => .fail
  | _ => .fail
theorem xappendD0_sound {t u ty0 : TypeId} {h2 m wd : Nat} {vx : Value} {Q : SV × Heap → Prop} (hs : Sat E ρ H w) (hwd2 : ∀ e' e2 ty L, H[h2]? = some (.drow e' e2 ty L) → wd = ty.width) (hx : SV.rel E.Z ρ (.sl h2 wd 0 m) vx)
    (hq : (xappendD0 P H t u h2 m (.sl h2 wd 0 m)).Leads Q) : ∃ sv H' v w' ρ', Q (sv, H') ∧ (Builtin.append_ #[t, u] ty0 #[.slice none 0 0, vx]).run P w = .ok v w' ∧ SV.rel E.Z ρ' sv v ∧ Sat E ρ' H' w' ∧
      Map.le ρ ρ' ∧ (∀ k, k < H.length → ρ' k = ρ k) ∧ H.length ≤ H'.length := by
  unfold xappendD0 at hq
  split at hq
  case h_2 => exact hq.elim
  rename_i e e2 ty M hh
  split at hq
  case h_2 => exact hq.elim
  rename_i c hc
  split at hq
  case isFalse => exact hq.elim
  have hle := Map.le_put (x := .nil) (hs.free _ (Nat.le_refl _))
  have hlt := getElem?_lt' hh
  have hs1 : Sat E (ρ.put H.length .nil) (H ++ [.drow e e2 ty []]) w := hs.allocNil' ⟨c, hc, .inl ⟨Map.put_same _ _ _, rfl⟩⟩
  have hwd := hwd2 _ _ _ _ hh
  obtain ⟨sv, H', v, w', ρ', h1, h3, h4, h5, h6, h7, h8⟩ := xappendD_sound (ty0 := ty0) (wd := wd) (vs := .slice none 0 0) hs1 (fun e' e2' ty' L' he => by
      rw [List.getElem?_append_right (Nat.le_refl _), Nat.sub_self] at he
      simp only [List.getElem?_cons_zero, Option.some.injEq] at he
      injection he with q1 q2 q3 q4; subst q3; exact hwd) (fun e' e2' ty' L' he => by
      rw [List.getElem?_append_left hlt] at he
      exact hwd2 _ _ _ _ he) (by simp only [SV.rel]; exact .inl ⟨Map.put_same _ _ _, trivial, trivial, trivial⟩) (SV.rel_mono hle hx) hq
  refine ⟨sv, H', v, w', ρ', h1, h3, h4, h5, Map.le_trans hle h6, fun k hk => ?_, by simp at h8; omega⟩
  rw [h7 k (by simp; omega), put_ne (by omega)]
theorem Sat.keepOne {e e2 : TypeId} {ty : Ty} {L : List ty.den} {v : Value} {bs : List Nat} (hs : Sat E ρ H w) (hap : ty.apart E.Z E.Z e2 [L] [v] bs) (hn : bs.Nodup) (hfree : ∀ k ∈ bs, (∀ h (o : SO), H[h]? = some o → o.live = true → ¬ claimed (ρ h) k) ∧ ¬ E.tk k) :
    Sat E (ρ.put H.length (.at w.heap.size 1 bs)) (H ++ [.kept e e2 ty [L]]) (w.alloc (.cells #[v] e)) ∧ ∀ Z, SV.rel Z (ρ.put H.length (.at w.heap.size 1 bs)) (.sl H.length 1 0 1) (.slice (some ⟨w.heap.size, 0, none⟩) 1 1) := by
  have hmax : 1 ≤ maxLen := by unfold maxLen; omega
  refine ⟨hs.allocL rfl hfree ?_, fun Z => ?_⟩
  · exact .inr ⟨w.heap.size, 1, bs, _, _, Map.put_same _ _ _, alloc_new _ _, rfl, by simp, hmax, hn, rfl, rfl, hap⟩
  · simp only [SV.rel]; exact .inr ⟨_, 1, _, 1, 0, Map.put_same _ _ _, rfl, by omega, by omega, .inr (by simp)⟩
theorem Sat.keepH {h len : Nat} {e e2 : TypeId} {ty : Ty} {L : List ty.den} {v : Value} (hs : Sat E ρ H w) (hh : H[h]? = some (.hold e2 ty L)) (hn : len ≤ L.length) (hv : SV.rel E.Z ρ (.sl h ty.width 0 len) v) :
    ∃ x, (∃ base cap, v = .slice base len cap) ∧ Sat E (ρ.put H.length x) (H.set h (.view e2 ty L) ++ [.kept e e2 ty [L.take len]]) (w.alloc (.cells #[v] e)) ∧
      SV.rel E.Z (ρ.put H.length x) (.sl H.length 1 0 1) (.slice (some ⟨w.heap.size, 0, none⟩) 1 1) := by
  have hob := hs.objs _ _ hh
  simp only [SO.rel] at hob
  have hv0 := hv
  simp only [SV.rel] at hv0
  have hlenset : (H.set h (.view e2 ty L)).length = H.length := by simp
  rcases hob with ⟨h1, h2⟩ | ⟨b, C, bs, vs, h1, h2, h3, h4, h5, h6, h7, h8⟩
  · subst h2
    rcases hv0 with ⟨_, _, g3, rfl⟩ | ⟨b, C, bs, cap, o, g1, _⟩
    · subst g3
      have hs1 := hs.mute (o' := .view e2 ty []) hh rfl (.inl ⟨h1, rfl⟩)
      obtain ⟨a1, a2⟩ := hs1.keepOne (e := e) (e2 := e2) (ty := ty) (L := []) (v := .slice none 0 0) (bs := []) ⟨_, [], rfl, .inl ⟨rfl, rfl, rfl, rfl⟩⟩ List.nodup_nil (fun k hk => by cases hk)
      rw [hlenset] at a1 a2
      exact ⟨_, ⟨_, _, rfl⟩, a1, a2 _⟩
    · rw [h1] at g1; cases g1
  · rcases hv0 with ⟨g1, _⟩ | ⟨b', C', bs', cap, o, g1, rfl, g3, g4, g5⟩
    · rw [h1] at g1; cases g1
    rw [h1] at g1; injection g1 with g1; injection g1 with e1 e2' e3; subst e1; subst e2'; subst e3
    have hcap : cap = C := by omega
    subst hcap
    have hs1 := hs.mute (o' := .view e2 ty L) hh rfl (.inr ⟨b, cap, _, vs, h1, h2, h3, h4, h5, h6⟩)
    have hlt : (L.take len).length = len := by rw [List.length_take]; omega
    have hap : ty.apart E.Z E.Z e2 [L.take len] [.slice (some ⟨b, o, none⟩) len cap] [b] := by
      refine ⟨_, [], rfl, .inr ⟨b, o, cap, vs, [], rfl, by rw [hlt], ?_, h2, h3, by rw [hlt]; exact g4, h5, lies_take h6 len, rfl, rfl⟩⟩
      rcases g5 with g5 | g5
      · exact .inl g5
      · exact .inr (by simpa using g5)
    obtain ⟨a1, a2⟩ := hs1.keepOne (e := e) hap (by simp) (fun k hk => by
      have : k = b := by simpa using hk
      subst this
      refine ⟨fun k' o' hk' hl hc => ?_, hs.fresh _ _ _ hh rfl (claimed_main h1)⟩
      by_cases e : k' = h
      · subst e
        rw [List.getElem?_set_self (List.getElem?_eq_some_iff.1 hh).1] at hk'
        injection hk' with hk'; subst hk'; cases hl
      · rw [List.getElem?_set_ne (Ne.symm e)] at hk'
        exact e (hs.inj _ _ _ _ _ hk' hh hl rfl hc (claimed_main h1)))
    rw [hlenset] at a1 a2
    exact ⟨_, ⟨_, _, rfl⟩, a1, a2 _⟩
theorem Sat.keepD {h len : Nat} {e e2 eN : TypeId} {ty : Ty} {L : List ty.den} {c : Col ty} {v : Value} (hs : Sat E ρ H w) (hh : H[h]? = some (.drow e2 eN ty L)) (hc : ty.col = some c) (hn : len = L.length) (hv : SV.rel E.Z ρ (.sl h ty.width 0 len) v) :
    ∃ E' ρ', Env.le E E' ∧ Map.le ρ ρ' ∧ (∀ k, k < H.length → ρ' k = ρ k) ∧ (∃ base cap, v = .slice base len cap) ∧ Sat E' ρ' (H.set h (.dview e2 eN ty L (H.length + 1) 0 none) ++ [.kept e e2 ty [L], .hold eN c.u []]) (w.alloc (.cells #[v] e)) ∧
      SV.rel E'.Z ρ' (.sl H.length 1 0 1) (.slice (some ⟨w.heap.size, 0, none⟩) 1 1) := by
  subst hn
  have hob := hs.objs _ _ hh
  simp only [SO.rel] at hob
  obtain ⟨c', hc', hob⟩ := hob
  rw [hc] at hc'; injection hc' with hc'; subst hc'
  have hv0 := hv
  simp only [SV.rel] at hv0
  have hlt := getElem?_lt' hh
  have hle : ∀ x y, Map.le ρ ((ρ.put H.length x).put (H.length + 1) y) := fun x y k z hz => by
    have : k < H.length := by
      rcases Nat.lt_or_ge k H.length with h1 | h1
      · exact h1
      · rw [hs.free _ h1] at hz; cases hz
    rw [put_ne (by omega), put_ne (by omega)]; exact hz
  have hsame : ∀ x y k, k < H.length → ((ρ.put H.length x).put (H.length + 1) y) k = ρ k := fun x y k hk => by rw [put_ne (by omega), put_ne (by omega)]
  -- first it is dead; then the new ones come; then it is a row that stays
  have fin : ∀ (E' : Env) (bs ds : List Nat) (C : Nat), Env.le E E' → Sat E' ρ (H.set h .dead) w → ty.apart E'.Z E'.Z e2 [L] [v] bs → bs.Nodup → (∀ k ∈ bs, (∀ h' (o : SO), (H.set h .dead)[h']? = some o → o.live = true → ¬ claimed (ρ h') k) ∧ ¬ E'.tk k) →
      (∀ k ∈ ds, (∀ h' (o : SO), (H.set h .dead)[h']? = some o → o.live = true → ¬ claimed (ρ h') k) ∧ ¬ E'.tk k ∧ k ∉ bs ∧ ∃ o, w.heap[k]? = some o) →
      (∀ (ρ' : Map) (h' : Nat), ρ' h' = some (ofDeeds C ds) → SO.rel E'.Z ρ' (w.alloc (.cells #[v] e)) h' (.hold eN c.u [])) →
      (∀ (ρ' : Map) (W : World), ρ' h = ρ h → ρ' (H.length + 1) = some (ofDeeds C ds) → SO.rel E'.Z ρ' W h (.dview e2 eN ty L (H.length + 1) 0 none)) →
      Sat E' ((ρ.put H.length (.at w.heap.size 1 bs)).put (H.length + 1) (ofDeeds C ds)) (H.set h (.dview e2 eN ty L (H.length + 1) 0 none) ++ [.kept e e2 ty [L], .hold eN c.u []]) (w.alloc (.cells #[v] e)) ∧
        SV.rel E'.Z ((ρ.put H.length (.at w.heap.size 1 bs)).put (H.length + 1) (ofDeeds C ds)) (.sl H.length 1 0 1) (.slice (some ⟨w.heap.size, 0, none⟩) 1 1) := fun E' bs ds C hE hs1 hap hnd hbs hds hho hdv => by
    have hl1 : (H.set h .dead).length = H.length := by simp
    obtain ⟨a1, a2⟩ := hs1.keepOne (e := e) hap hnd hbs
    rw [hl1] at a1 a2
    have hl2 : (H.set h .dead ++ [SO.kept e e2 ty [L]]).length = H.length + 1 := by simp
    have hput : ∀ (r : Map) (x : Blk), r.put (H.length + 1) x = r.put (H.set h .dead ++ [SO.kept e e2 ty [L]]).length x := fun r x => by rw [hl2]
    have b1 : Sat E' ((ρ.put H.length (.at w.heap.size 1 bs)).put (H.length + 1) (ofDeeds C ds)) ((H.set h .dead ++ [SO.kept e e2 ty [L]]) ++ [.hold eN c.u []]) (w.alloc (.cells #[v] e)) := by
      rw [hput]
      refine a1.addHold (fun k hk => ?_) ?_
      · rw [deeds_of] at hk
        obtain ⟨g1, g2, g3, g4⟩ := hds k hk
        refine ⟨fun h' o ho hl hcl => ?_, g2⟩
        rw [List.getElem?_append] at ho
        split at ho
        · rename_i hlt'
          rw [put_ne (by simp at hlt'; omega)] at hcl
          exact g1 h' o ho hl hcl
        · rename_i hge
          have e0 : h' = H.length := by
            rw [hl1] at hge ho
            rcases Nat.lt_or_ge H.length h' with q | q
            · rw [List.getElem?_eq_none (by simp; omega)] at ho; cases ho
            · omega
          subst e0
          obtain ⟨b', C', l', q1, q2⟩ := hcl
          rw [Map.put_same] at q1; injection q1 with q1; injection q1 with q1 q3 q4; subst q1; subst q4
          rcases q2 with q2 | q2
          · subst q2
            obtain ⟨o', ho'⟩ := g4
            have := block_lt ho'; omega
          · exact g3 q2
      · rw [hl2]; exact hho _ _ (Map.put_same _ _ _)
    have b2 := b1.mute (h := h) (o := .dead) (o' := .dview e2 eN ty L (H.length + 1) 0 none) (by
      rw [List.append_assoc, List.getElem?_append_left (by simpa using hlt), List.getElem?_set_self hlt]) rfl (hdv _ _ (by rw [put_ne (by omega), put_ne (by omega)]) (Map.put_same _ _ _))
    refine ⟨?_, ?_⟩
    · have e1 : ((H.set h .dead ++ [SO.kept e e2 ty [L]]) ++ [SO.hold eN c.u []]).set h (.dview e2 eN ty L (H.length + 1) 0 none) = H.set h (.dview e2 eN ty L (H.length + 1) 0 none) ++ [SO.kept e e2 ty [L], SO.hold eN c.u []] := by
        rw [List.append_assoc, List.set_append_left _ _ (by simpa using hlt), List.set_set]
        rfl
      rw [e1] at b2
      exact b2
    · refine SV.rel_mono (Map.le_put ?_) (a2 _)
      rw [put_ne (by omega)]; exact hs.free _ (by omega)
  rcases hob with ⟨h1, h2⟩ | ⟨b, C, ds, vs, h1, h2, h3, h4, h5, h6, h7, h8⟩
  · subst h2
    rcases hv0 with ⟨_, _, g3, rfl⟩ | ⟨b, C, bs, cap, o, g1, _⟩
    · have hs1 := hs.mute (o' := .dead) hh rfl trivial
      obtain ⟨a1, a2⟩ := fin E [] [] 0 (Env.le_refl E) hs1 ⟨_, [], rfl, .inl ⟨rfl, rfl, rfl, rfl⟩⟩ List.nodup_nil (fun k hk => by cases hk) (fun k hk => by cases hk) (fun ρ' h' e => .inl ⟨e, rfl⟩) (fun ρ' W e1 e2 => ⟨c, hc, .inl ⟨by rw [e1]; exact h1, rfl⟩⟩)
      exact ⟨E, _, Env.le_refl E, hle _ _, hsame _ _, ⟨_, _, rfl⟩, a1, a2⟩
    · rw [h1] at g1; cases g1
  · rcases hv0 with ⟨g1, _⟩ | ⟨b', C', bs', cap, o, g1, rfl, g3, g4, g5⟩
    · rw [h1] at g1; cases g1
    rw [h1] at g1; injection g1 with g1; injection g1 with e1 e2' e3; subst e1; subst e2'; subst e3
    have hcap : cap = C := by omega
    subst hcap
    obtain ⟨E', hleE, hZ, hs'⟩ := hs.freezeO hh rfl rfl h1 h2
    have hs1 := hs' .dead rfl trivial
    have hap8 := Ty.apart_zones hleE.z (fun b _ o hb => hleE.z b o hb) h8
    obtain ⟨C2, hho⟩ := hold_of (w := w.alloc (.cells #[.slice (some ⟨b, o, none⟩) L.length cap] e)) hap8 h7
    have hnot : ∀ k, (k = b ∨ k ∈ ds) → ∀ h' (o : SO), (H.set h .dead)[h']? = some o → o.live = true → ¬ claimed (ρ h') k := fun k hk h' o ho hl hcl => by
      by_cases e : h' = h
      · subst e
        rw [List.getElem?_set_self hlt] at ho
        injection ho with ho; subst ho; cases hl
      · rw [List.getElem?_set_ne (Ne.symm e)] at ho
        exact e (hs.inj _ _ _ _ _ ho hh hl rfl hcl ⟨b, cap, ds, h1, hk⟩)
    have htk : ∀ k, (k = b ∨ k ∈ ds) → ¬ E'.tk k := fun k hk => by rw [hleE.tk]; exact hs.fresh _ _ _ hh rfl ⟨b, cap, ds, h1, hk⟩
    have hFb : E.F b = none := hs.apart _ _ _ hh rfl (SO.owned_main h1)
    have k1 : ty.apart E'.Z E'.Z e2 [L] [.slice (some ⟨b, o, none⟩) L.length cap] [b] := by
      refine ⟨_, [], rfl, .inr ⟨b, o, cap, vs, [], rfl, rfl, ?_, hZ, h3, g4, h5, Ty.lies_zone hleE.z h6, rfl, rfl⟩⟩
      rcases g5 with g5 | g5
      · exact .inl g5
      · exact .inr (by simpa using g5)
    have k2 : ∀ k ∈ [b], (∀ h' (o : SO), (H.set h .dead)[h']? = some o → o.live = true → ¬ claimed (ρ h') k) ∧ ¬ E'.tk k := fun k hk => by
      have : k = b := by simpa using hk
      subst this
      exact ⟨hnot k (.inl rfl), htk k (.inl rfl)⟩
    have k3 : ∀ k ∈ ds, (∀ h' (o : SO), (H.set h .dead)[h']? = some o → o.live = true → ¬ claimed (ρ h') k) ∧ ¬ E'.tk k ∧ k ∉ [b] ∧ ∃ o, w.heap[k]? = some o := fun k hk => by
      obtain ⟨x, hx⟩ := apart_heap h8 hk
      refine ⟨hnot k (.inr hk), htk k (.inr hk), fun hkb => ?_, ⟨x, hs.zone _ _ hx⟩⟩
      have : k = b := by simpa using hkb
      subst this
      have := hs.zle _ _ hx
      rw [hFb] at this; cases this
    obtain ⟨a1, a2⟩ := fin E' [b] ds C2 hleE hs1 k1 (by simp) k2 k3 hho (fun ρ' W e1 e2 => ⟨c, hc, .inr ⟨b, cap, ds, vs, ofDeeds C2 ds, by rw [e1]; exact h1, hZ, h3, h4, h5, Ty.lies_zone hleE.z h6, e2, ⟨ds, [], by rw [deeds_of, List.append_nil], h7, by simpa using hap8⟩, trivial⟩⟩)
    exact ⟨E', _, hleE, hle _ _, hsame _ _, ⟨_, _, rfl⟩, a1, a2⟩
theorem claimed_deeds {x : Blk} {k : Nat} (h : k ∈ deedsOf x) : claimed (some x) k := by
  cases x with
  | nil => cases h
  | «at» b C l => exact ⟨b, C, l, rfl, List.mem_cons.1 h⟩
theorem Sat.split {h g j : Nat} {et e2 eg : TypeId} {t tg : Ty} {L : List t.den} {Lg : List tg.den} {c : Col t} (hs : Sat E ρ H w) (hh : H[h]? = some (.dview et e2 t L g j none)) (hg : H[g]? = some (.hold eg tg Lg)) (hc : t.col = some c) (hj : j < L.length) :
    ∃ ρ', Map.le ρ ρ' ∧ (∀ k, k < H.length → ρ' k = ρ k) ∧ Sat E ρ' ((H.set g .dead).set h (.dview et e2 t L (H.length + 1) (j + 1) (some (H.length, (c.f (L.getD j t.dflt)).length))) ++ [.hold e2 c.u (c.f (L.getD j t.dflt)), .hold e2 c.u []]) w := by
  have hlt := getElem?_lt' hh
  have hltg := getElem?_lt' hg
  have hne : h ≠ g := fun e => by subst e; rw [hh] at hg; cases hg
  have hle : ∀ x y, Map.le ρ ((ρ.put H.length x).put (H.length + 1) y) := fun x y k z hz => by
    have : k < H.length := by
      rcases Nat.lt_or_ge k H.length with h1 | h1
      · exact h1
      · rw [hs.free _ h1] at hz; cases hz
    rw [put_ne (by omega), put_ne (by omega)]; exact hz
  have hsame : ∀ x y k, k < H.length → ((ρ.put H.length x).put (H.length + 1) y) k = ρ k := fun x y k hk => by rw [put_ne (by omega), put_ne (by omega)]
  obtain ⟨c', hc', ⟨_, h2⟩ | ⟨b, C, bs, vs, gb, h1, h2, h3, h4, h5, h6, h7, ⟨ds, tl, h8, h9, h10⟩, _⟩⟩ := hs.objs _ _ hh
  · subst h2; simp at hj
  rw [hc] at hc'; injection hc' with hc'; subst hc'
  have eL : (L.map c.f).drop j = c.f (L.getD j t.dflt) :: (L.map c.f).drop (j + 1) := by
    rw [List.drop_eq_getElem_cons (by simpa using hj)]
    congr 1
    rw [List.getElem_map, List.getD_eq_getElem?_getD, List.getElem?_eq_getElem hj]; rfl
  have hcl : j < (colV t.width c.j L.length vs.toList).length := by rw [colV_len]; exact hj
  rw [eL, List.drop_eq_getElem_cons hcl] at h10
  have hcv := List.getElem?_eq_getElem hcl
  generalize (colV t.width c.j L.length vs.toList)[j] = vj at h10 hcv
  generalize c.f (L.getD j t.dflt) = M at h10
  have hl1 : (H.set g .dead).length = H.length := by simp
  have hs1 := hs.mute (o' := .dead) hg rfl trivial
  have hfree : ∀ k ∈ deedsOf gb, (∀ h' (o : SO), (H.set g .dead)[h']? = some o → o.live = true → ¬ claimed (ρ h') k) ∧ ¬ E.tk k := fun k hk => by
    have hcg : claimed (ρ g) k := by rw [h7]; exact claimed_deeds hk
    refine ⟨fun h' o ho hl hcl => ?_, hs.fresh _ _ _ hg rfl hcg⟩
    by_cases e : h' = g
    · subst e
      rw [List.getElem?_set_self hltg] at ho
      injection ho with ho; subst ho; cases hl
    · rw [List.getElem?_set_ne (Ne.symm e)] at ho
      exact e (hs.inj _ _ _ _ _ ho hg hl rfl hcl hcg)
  have fin : ∀ (x1 : Blk) (C2 : Nat) (l' : List Nat), (∀ k ∈ deedsOf x1, k ∈ deedsOf gb) → (∀ k ∈ l', k ∈ deedsOf gb ∧ k ∉ deedsOf x1) → l'.Nodup → (∀ (ρ' : Map) h', ρ' h' = some x1 → SO.rel E.Z ρ' w h' (.hold e2 c.u M)) →
      (∀ (ρ' : Map) (h' : Nat), ρ' h' = some (ofDeeds C2 l') → SO.rel E.Z ρ' w h' (.hold e2 c.u [])) → (∀ ρ' : Map, ρ' H.length = some x1 → SV.rel E.Z ρ' (.sl H.length c.u.width 0 M.length) vj) →
      c.u.apart E.Z E.Z e2 ((L.map c.f).drop (j + 1)) ((colV t.width c.j L.length vs.toList).drop (j + 1)) l' →
      Sat E ((ρ.put H.length x1).put (H.length + 1) (ofDeeds C2 l')) ((H.set g .dead).set h (.dview et e2 t L (H.length + 1) (j + 1) (some (H.length, M.length))) ++ [.hold e2 c.u M, .hold e2 c.u []]) w := fun x1 C2 l' k1 k2 k3 k4 k5 k6 k7 => by
    have a1 : Sat E (ρ.put H.length x1) (H.set g .dead ++ [.hold e2 c.u M]) w := by
      have := hs1.addHold (x := x1) (et := e2) (t := c.u) (l := M) (fun k hk => hfree k (k1 k hk)) (by rw [hl1]; exact k4 _ _ (Map.put_same _ _ _))
      rwa [hl1] at this
    have hl2 : (H.set g .dead ++ [SO.hold e2 c.u M]).length = H.length + 1 := by simp
    have a2 : Sat E ((ρ.put H.length x1).put (H.length + 1) (ofDeeds C2 l')) ((H.set g .dead ++ [SO.hold e2 c.u M]) ++ [.hold e2 c.u []]) w := by
      have := a1.addHold (x := ofDeeds C2 l') (et := e2) (t := c.u) (l := []) (fun k hk => ?_) (by rw [hl2]; exact k5 _ _ (Map.put_same _ _ _))
      · rwa [hl2] at this
      · rw [deeds_of] at hk
        obtain ⟨q1, q2⟩ := k2 k hk
        obtain ⟨q3, q4⟩ := hfree k q1
        refine ⟨fun h' o ho hl hcl => ?_, q4⟩
        rw [List.getElem?_append] at ho
        split at ho
        · rename_i hlt'
          rw [put_ne (by simp at hlt'; omega)] at hcl
          exact q3 h' o ho hl hcl
        · rename_i hge
          have e0 : h' = H.length := by
            rw [hl1] at hge ho
            rcases Nat.lt_or_ge H.length h' with q | q
            · rw [List.getElem?_eq_none (by simp; omega)] at ho; cases ho
            · omega
          subst e0
          rw [Map.put_same] at hcl
          obtain ⟨b', C', l2, r1, r2⟩ := hcl
          injection r1 with r1; subst r1
          exact q2 (List.mem_cons.2 r2)
    have hgh : ((H.set g .dead ++ [SO.hold e2 c.u M]) ++ [SO.hold e2 c.u []])[h]? = some (.dview et e2 t L g j none) := by
      rw [List.append_assoc, List.getElem?_append_left (by simpa using hlt), List.getElem?_set_ne (Ne.symm hne)]; exact hh
    have b2 := a2.mute (o' := .dview et e2 t L (H.length + 1) (j + 1) (some (H.length, M.length))) hgh rfl ?_
    · have e1 : ((H.set g .dead ++ [SO.hold e2 c.u M]) ++ [SO.hold e2 c.u []]).set h (.dview et e2 t L (H.length + 1) (j + 1) (some (H.length, M.length))) = (H.set g .dead).set h (.dview et e2 t L (H.length + 1) (j + 1) (some (H.length, M.length))) ++ [SO.hold e2 c.u M, SO.hold e2 c.u []] := by
        rw [List.append_assoc, List.set_append_left _ _ (by simpa using hlt)]
        rfl
      rwa [e1] at b2
    · refine ⟨c, hc, .inr ⟨b, C, bs, vs, ofDeeds C2 l', ?_, h2, h3, h4, h5, h6, Map.put_same _ _ _, ⟨l', [], by rw [deeds_of, List.append_nil], k3, k7⟩, j, vj, rfl, hcv, ?_⟩⟩
      · rw [put_ne (by omega), put_ne (by omega)]; exact h1
      · exact k6 _ (by rw [put_ne (by omega)]; exact Map.put_same _ _ _)
  obtain ⟨v, us, e0, h10⟩ := h10
  injection e0 with e1 e2'; subst e1; subst e2'
  rcases h10 with ⟨m1, m2, m3⟩ | ⟨b0, o, cap, arr, l', m1, m2, m0, m3, m4, m5, m6, m7, m8⟩
  · subst m1; subst m2
    obtain ⟨C2, hho⟩ := hold_of (w := w) m3 h9
    refine ⟨_, hle .nil (ofDeeds C2 ds), hsame _ _, fin .nil C2 ds (fun k hk => by cases hk) (fun k hk => ⟨by rw [h8]; exact List.mem_append.2 (.inl hk), fun h => by cases h⟩) h9 (fun ρ' h' e => .inl ⟨e, rfl⟩) hho (fun ρ' e => ?_) m3⟩
    simp only [SV.rel]; exact .inl ⟨e, trivial, by simp, trivial⟩
  · subst m1; subst m2
    obtain ⟨n1, n2⟩ := List.nodup_cons.1 h9
    obtain ⟨C2, hho⟩ := hold_of (w := w) m8 n2
    refine ⟨_, hle (.at b0 cap []) (ofDeeds C2 l'), hsame _ _, fin (.at b0 cap []) C2 l' (fun k hk => ?_) (fun k hk => ⟨by rw [h8]; simp [hk], fun h => ?_⟩) n2 (fun ρ' h' e => ?_) hho (fun ρ' e => ?_) m8⟩
    · have : k = b0 := by simpa [deedsOf] using hk
      rw [h8, this]; simp
    · have : k = b0 := by simpa [deedsOf] using h
      subst this; exact n1 hk
    · exact .inr ⟨b0, cap, [], arr, e, m3, m4, m5, m6, m7, by simp, fun k hk => by cases hk⟩
    · simp only [SV.rel]
      refine .inr ⟨b0, cap, [], cap, o, e, rfl, by omega, m5, ?_⟩
      rcases m0 with m0 | m0
      · exact .inl m0
      · exact .inr (by simpa using m0)
theorem col_reads {t : Ty} {c : Col t} {x : t.den} {vs : List Value} (hc : t.col = some c) (h : t.reads Z x vs) : ∃ v, vs[c.j]? = some v ∧ (Ty.imm c.u).reads Z (c.f x) [v] := by
  have h1 := (reads_iff (ρ := fun _ => none)).1 h
  obtain ⟨v, g1, g2⟩ := rels_get h1 (col_cells hc)
  simp only [SV.rel] at g2
  exact ⟨v, g1, g2⟩
theorem Sat.toDrow {h2 g n : Nat} {e e2 : TypeId} {t : Ty} {x : t.den} {c : Col t} {L : List c.u.den} (hs : Sat E ρ H w) (hh : H[h2]? = some (.prow e e2 t x g n)) (hg : H[g]? = some (.hold e2 c.u L)) (hc : t.col = some c) :
    ∃ b ds, ρ h2 = some (.at b 1 []) ∧ Sat E (ρ.put H.length (.at b 1 ds)) ((H.set h2 .dead).set g .dead ++ [.drow e e2 t [x]]) w := by
  have hob := hs.objs _ _ hh
  simp only [SO.rel] at hob
  obtain ⟨c', b, vs, v, hc', h1, h3, h4, h5, h6, h7, h8⟩ := hob
  rw [hc] at hc'; injection hc' with hc'; subst hc'
  have hne : h2 ≠ g := fun e => by subst e; rw [hh] at hg; cases hg
  have hobg := hs.objs _ _ hg
  simp only [SO.rel] at hobg
  simp only [SV.rel] at h8
  have hmax : 1 ≤ maxLen := by unfold maxLen; omega
  have main : ∀ ds : List Nat, c.u.apart E.Z E.Z e2 [c.f x] [v] ds → ds.Nodup → (∀ k ∈ ds, claimed (ρ g) k) → Sat E (ρ.put H.length (.at b 1 ds)) ((H.set h2 .dead).set g .dead ++ [.drow e e2 t [x]]) w := fun ds k1 k2 k3 => by
    refine hs.release2 hh rfl hg rfl rfl rfl rfl (fun k _ _ y hy => hy) (fun k _ y hy => ⟨y, hy⟩) (fun k hk => ?_) (fun k hk => ?_) ?_
    · obtain ⟨b', C', l', e1, hk⟩ := hk
      injection e1 with e1; injection e1 with e1 e2 e3; subst e1; subst e3
      rcases hk with rfl | hk
      · exact .inl (claimed_main h1)
      · exact .inr (.inl (k3 k hk))
    · obtain ⟨b', C', l', e1, hk⟩ := hk
      injection e1 with e1; injection e1 with e1 e2 e3; subst e1
      rcases hk with ⟨_, rfl⟩ | ⟨hk, _⟩
      · exact .inl (SO.owned_main h1)
      · cases hk
    · refine ⟨c, hc, .inr ⟨b, 1, ds, vs, Map.put_same _ _ _, h3, by rw [h4, Nat.one_mul], by simp, hmax, ?_, k2, ?_⟩⟩
      · intro i hi
        have : i = 0 := by simpa using hi
        subst this
        simp only [List.getElem_cons_zero, Nat.zero_add, Nat.zero_mul, List.drop_zero]
        rw [List.take_of_length_le (by rw [Array.length_toList]; omega)]
        exact h5
      · simp only [List.map_cons, List.map_nil, List.length_cons, List.length_nil, Nat.zero_add, colV]
        have e : vs.toList.getD c.j undef = v := by rw [List.getD_eq_getElem?_getD, h6]; rfl
        rw [e]; exact k1
  obtain ⟨v', q1, q2⟩ := col_reads hc h5
  rw [h6] at q1; injection q1 with q1; subst q1
  rcases h8 with ⟨a1, _, a3, rfl⟩ | ⟨bg, C, bs, cap, o, a1, rfl, a3, a4, a5⟩
  · have hnil : c.f x = [] := List.eq_nil_of_length_eq_zero (by rw [h7]; exact a3)
    exact ⟨b, [], h1, main [] ⟨_, [], rfl, .inl ⟨hnil, rfl, rfl, rfl⟩⟩ List.nodup_nil (fun k hk => by cases hk)⟩
  · rcases hobg with ⟨m1, _⟩ | ⟨b', C', bs', ws, m1, m2, m3, m4, m5, m6, m7, m8⟩
    · rw [m1] at a1; cases a1
    rw [a1] at m1; injection m1 with m1; injection m1 with e1 e2' e3; subst e1; subst e2'; subst e3
    have hcap : cap = C := by omega
    subst hcap
    refine ⟨b, [bg], h1, main [bg] ⟨_, [], rfl, .inr ⟨bg, o, cap, ws, [], rfl, by rw [h7], ?_, m2, m3, by rw [h7]; exact a4, m5, ?_, rfl, rfl⟩⟩ (by simp) (fun k hk => ?_)⟩
    · rcases a5 with a5 | a5
      · exact .inl a5
      · exact .inr (by simpa using a5)
    · obtain ⟨v2, r0, r1⟩ := q2
      injection r0 with r0 _; subst r0
      rcases r1 with ⟨r1, r2⟩ | ⟨b3, o3, cap3, arr3, et3, fz3, r1, r2, r3, r4⟩ | ⟨r1, _⟩
      · cases r2
      · injection r1 with r1 r5 r6
        injection r1 with r1; injection r1 with r1 r7; subst r1; subst r7; subst r6
        rw [m2] at r3; injection r3 with r3; injection r3 with r3 r8 r9; subst r3
        intro i hi
        have := r4 i hi
        rcases a5 with a5 | a5
        · omega
        · have ho : o = 0 := by simpa using a5
          subst ho; exact this
      · rw [r1]; intro i hi; simp at hi
    · have : k = bg := by simpa using hk
      subst this
      exact claimed_main a1
def toD (H : Heap) (x : SV) : Option (SV × Heap) := match x with
  | .sl h2 wd off len => match H[h2]? with
    | some (.prow e e2 t y g _) => match H[g]?, t.col with
      | some (.hold e2' u _), some c => match u.same c.u with
        | some _ => if (Nat.beq e2' e2 && Nat.beq wd t.width) && (Nat.beq off 0 && Nat.beq len 1) then some (.sl H.length wd 0 1, (H.set h2 .dead).set g .dead ++ [.drow e e2 t [y]]) else none
        | none => none
      | _, _ => none
    | _ => none
  | _ => none
theorem toD_sound {x x' : SV} {vx : Value} {H' : Heap} (hs : Sat E ρ H w) (hx : SV.rel E.Z ρ x vx) (h : toD H x = some (x', H')) :
    ∃ ρ', Map.le ρ ρ' ∧ (∀ k, k < H.length → ρ' k = ρ k) ∧ H.length ≤ H'.length ∧ Sat E ρ' H' w ∧ SV.rel E.Z ρ' x' vx := by
  unfold toD at h
  split at h
  case h_2 => cases h
  rename_i h2 wd off len
  split at h
  case h_2 => cases h
  rename_i e e2 t y g n ho
  split at h
  case h_2 => cases h
  rename_i e2' u L c hg hc
  split at h
  case h_2 => cases h
  rename_i q hq
  obtain ⟨q⟩ := q
  subst q
  split at h
  case isFalse => cases h
  rename_i hb
  simp only [Bool.and_eq_true] at hb
  have := Nat.eq_of_beq_eq_true hb.1.1; subst this
  have := Nat.eq_of_beq_eq_true hb.2.1; subst this
  have := Nat.eq_of_beq_eq_true hb.2.2; subst this
  injection h with h; injection h with h1 h3; subst h1; subst h3
  obtain ⟨b, ds, hρ, hs2⟩ := hs.toDrow ho hg hc
  refine ⟨_, Map.le_put (hs.free _ (Nat.le_refl _)), fun k hk => put_ne (by omega), by simp, hs2, ?_⟩
  simp only [SV.rel] at hx ⊢
  rcases hx with ⟨g1, _, g3, _⟩ | ⟨b', C', bs', cap, o, g1, g2, g3, g4, g5⟩
  · cases g3
  · rw [hρ] at g1; injection g1 with g1; injection g1 with e1 e2 e3; subst e1; subst e2
    exact .inr ⟨b, 1, _, cap, o, Map.put_same _ _ _, g2, g3, g4, g5⟩
def holdV (P : Program) (H : Heap) (et : TypeId) (c : SV) : Tree (SV × Heap) := match c with
  | .lit (.slice none 0 0) => match P.underlying et with
    | some (.slice e) => match tyOf P 6 e with
      | some u => .ret (.sl H.length u.width 0 0, H ++ [.hold e u []])
      | none => .fail
    | _ => .fail
  | .sl hn wd 0 len => match H[hn]? with
    | some (.row e2 u M) => if Nat.beq wd u.width then .need (len ≤ M.length) (.ret (.sl H.length wd 0 len, H.set hn (.view e2 u M) ++ [.hold e2 u (M.take len)])) else .fail
    | _ => .fail
  | _ => .fail
theorem holdV_sound {et : TypeId} {c : SV} {v : Value} {Q : SV × Heap → Prop} (hs : Sat E ρ H w) (hv : SV.rel E.Z ρ c v) (h : (holdV P H et c).Leads Q) :
    ∃ E' ρ' c' H', Q (c', H') ∧ Env.le E E' ∧ Map.le ρ ρ' ∧ (∀ k, k < H.length → ρ' k = ρ k) ∧ H.length ≤ H'.length ∧ Sat E' ρ' H' w ∧ SV.rel E'.Z ρ' c' v := by
  unfold holdV at h
  split at h
  · split at h
    case h_2 => exact h.elim
    rename_i e hu
    split at h
    case h_2 => exact h.elim
    rename_i u hty
    have := rel_lit hv; subst this
    refine ⟨E, ρ.put H.length .nil, _, _, h, Env.le_refl E, Map.le_put (hs.free _ (Nat.le_refl _)), fun k hk => put_ne (by omega), by simp, hs.addHold (fun k hk => by cases hk) (.inl ⟨Map.put_same _ _ _, rfl⟩), ?_⟩
    simp only [SV.rel]; exact .inl ⟨Map.put_same _ _ _, trivial, trivial, trivial⟩
  · rename_i hn wd len
    split at h
    case h_2 => exact h.elim
    rename_i e2 u M ho
    split at h
    case isFalse => exact h.elim
    rename_i hwd
    have := Nat.eq_of_beq_eq_true hwd; subst this
    obtain ⟨hlen, h⟩ := h
    have hob := hs.objs _ _ ho
    simp only [SO.rel] at hob
    have hv0 := hv
    simp only [SV.rel] at hv0
    have hlenset : (H.set hn (.view e2 u M)).length = H.length := by simp
    have hlt : (M.take len).length = len := by rw [List.length_take]; omega
    rcases hob with ⟨h1, h2⟩ | ⟨b, C, vs, h1, h2, h3, h4, h5, h6⟩
    · subst h2
      rcases hv0 with ⟨_, _, g3, rfl⟩ | ⟨b, C, bs, cap, o, g1, _⟩
      · subst g3
        have hs1 := hs.mute (o' := .view e2 u []) ho rfl (.inl ⟨h1, rfl⟩)
        have := hs1.addHold (x := .nil) (et := e2) (t := u) (l := []) (fun k hk => by cases hk) (.inl ⟨by rw [hlenset]; exact Map.put_same _ _ _, rfl⟩)
        rw [hlenset] at this
        refine ⟨E, ρ.put H.length .nil, _, _, h, Env.le_refl E, Map.le_put (hs.free _ (Nat.le_refl _)), fun k hk => put_ne (by omega), by simp, this, ?_⟩
        simp only [SV.rel]; exact .inl ⟨Map.put_same _ _ _, trivial, trivial, trivial⟩
      · rw [h1] at g1; cases g1
    · rcases hv0 with ⟨g1, _⟩ | ⟨b', C', bs', cap, o, g1, rfl, g3, g4, g5⟩
      · rw [h1] at g1; cases g1
      rw [h1] at g1; injection g1 with g1; injection g1 with e1 e2' e3; subst e1; subst e2'; subst e3
      obtain ⟨E', hle, hZ, hs'⟩ := hs.freeze ho h1 h2
      have hs1 := hs' (.view e2 u M) rfl (.inr ⟨b, C, _, vs, h1, hZ, h3, h4, h5, Ty.lies_zone hle.z h6⟩)
      have := hs1.addHold (x := .at b C []) (et := e2) (t := u) (l := M.take len) (fun k hk => ?_) (.inr ⟨b, C, [], vs, by rw [hlenset]; exact Map.put_same _ _ _, hZ, h3, by omega, h5, lies_take (Ty.lies_zone hle.z h6) len, by simp, fun k hk => by cases hk⟩)
      · rw [hlenset] at this
        refine ⟨E', ρ.put H.length (.at b C []), _, _, h, hle, Map.le_put (hs.free _ (Nat.le_refl _)), fun k hk => put_ne (by omega), by simp, this, ?_⟩
        simp only [SV.rel]; exact .inr ⟨b, C, [], cap, o, Map.put_same _ _ _, rfl, g3, g4, g5⟩
      · have : k = b := by simpa [deedsOf] using hk
        subst this
        refine ⟨fun k' o' hk' hl hcb => ?_, by rw [hle.tk]; exact hs.fresh _ _ _ ho rfl (claimed_main h1)⟩
        by_cases e : k' = hn
        · subst e
          rw [List.getElem?_set_self (List.getElem?_eq_some_iff.1 ho).1] at hk'
          injection hk' with hk'; subst hk'; cases hl
        · rw [List.getElem?_set_ne (Ne.symm e)] at hk'
          exact e (hs.inj _ _ _ _ _ hk' ho hl rfl hcb (claimed_main h1))
  · exact h.elim
end Sx
