/- Rows of rows that stay: appends. -/
import Derived.Test.YtlcobcpgaoeijaaGreatSxIc
set_option linter.unusedVariables false
set_option linter.unusedSimpArgs false
namespace Sx
open Go
variable {P : Program} {E : Env} {ρ : Map} {S : Slots} {H : Heap} {a : Act} {w w' : World} {Z : Zone}
theorem apart_append {V W : Nat → Option Obj} {e2 : TypeId} {t : Ty} {M : List (List t.den)} {us' : List Value} {bs' : List Nat} (h' : t.apart V W e2 M us' bs') : ∀ {L : List (List t.den)} {us : List Value} {bs : List Nat}, t.apart V W e2 L us bs → t.apart V W e2 (L ++ M) (us ++ us') (bs ++ bs')
  | [], _, _, h => by obtain ⟨rfl, rfl⟩ := h; exact h'
  | L :: l, us, bs, h => by
    obtain ⟨v, vs, rfl, h⟩ := h
    refine ⟨v, vs ++ us', rfl, ?_⟩
    rcases h with ⟨h1, h2, h3⟩ | ⟨b, o, cap, arr, l', h1, h2, h0, h3, h4, h5, h6, h7, h8⟩
    · exact .inl ⟨h1, h2, apart_append h' h3⟩
    · subst h1
      exact .inr ⟨b, o, cap, arr, l' ++ bs', rfl, h2, h0, h3, h4, h5, h6, h7, apart_append h' h8⟩
theorem apart_one {V W : Nat → Option Obj} {e2 : TypeId} {t : Ty} : ∀ {L : List (List t.den)} {us : List Value} {bs : List Nat}, t.apart V W e2 L us bs → ∀ v ∈ us, v.oneCell' = true
  | [], _, _, h, v, hv => by obtain ⟨rfl, rfl⟩ := h; cases hv
  | L :: l, us, bs, h, v, hv => by
    obtain ⟨u, vs, rfl, h⟩ := h
    rcases h with ⟨h1, h2, h3⟩ | ⟨b, o, cap, arr, l', h1, h2, h0, h3, h4, h5, h6, h7, h8⟩
    · subst h2
      rcases List.mem_cons.1 hv with rfl | hv
      · rfl
      · exact apart_one h3 v hv
    · subst h2
      rcases List.mem_cons.1 hv with rfl | hv
      · rfl
      · exact apart_one h8 v hv
def xappendK (P : Program) (H : Heap) (t u : TypeId) (h n h2 m : Nat) (x : SV) : Tree (SV × Heap) := match P.underlying t with
  | some (.slice e) => if srcB P u x && !(Nat.beq h h2) then match H[h]?, H[h2]? with
    | some (.kept e' e2 ty L), some (.kept e'' e2' ty' M) => if Nat.beq e' e && (Nat.beq e'' e && (Nat.beq e2' e2 && rowB P e (.imm ty))) then match ty'.same ty with
      | some q => .need (n = L.length ∧ m = M.length) (.need (Small n m (bytesOf P e)) (.ret (.sl H.length 1 0 (n + m), (H.set h .dead).set h2 .dead ++ [.kept e e2 ty (L ++ q.down ▸ M)])))
      | none => .fail
      else .fail
    | _, _ => .fail
    else .fail
  | _ => .fail
theorem kept_slice {h n : Nat} {e e2 : TypeId} {ty : Ty} {L : List (List ty.den)} {v : Value} (hs : Sat E ρ H w) (hh : H[h]? = some (.kept e e2 ty L)) (hv : SV.rel E.Z ρ (.sl h 1 0 n) v) (hn : n = L.length) :
    ∃ us bs base cap, v = .slice base n cap ∧ ty.apart E.Z E.Z e2 L us bs ∧ bs.Nodup ∧ (∀ k ∈ bs, claimed (ρ h) k) ∧ n ≤ cap ∧ cap ≤ maxLen ∧
      ((ρ h = some .nil ∧ base = none ∧ cap = 0 ∧ bs = []) ∨ ∃ b o vs, ρ h = some (.at b cap bs) ∧ base = some ⟨b, o, none⟩ ∧ (cap = 0 ∨ o = 0) ∧ w.heap[b]? = some (.cells vs e (0, 0)) ∧ vs.size = cap ∧ vs.toList.take n = us) := by
  subst hn
  have hob := hs.objs _ _ hh
  simp only [SO.rel] at hob
  simp only [SV.rel] at hv
  rcases hv with ⟨h1, _, hL, rfl⟩ | ⟨b, C, bs, cap, o, h1, rfl, h2, h3, h4⟩
  · have hL : L = [] := List.eq_nil_of_length_eq_zero hL
    subst hL
    exact ⟨[], [], none, 0, rfl, ⟨rfl, rfl⟩, List.nodup_nil, by simp, by simp, by unfold maxLen; omega, .inl ⟨h1, rfl, rfl, rfl⟩⟩
  · rcases hob with ⟨h0, _⟩ | ⟨b', C', bs', vs, us, g1, g2, g3, g4, g5, g6, g7, g8, g9⟩
    · rw [h0] at h1; cases h1
    · rw [h1] at g1; injection g1 with g1; injection g1 with e1 e2 e3; subst e1; subst e2; subst e3
      have hc : cap = C := by omega
      subst hc
      exact ⟨us, bs, _, cap, rfl, g9, g6, fun k hk => ⟨b, cap, bs, h1, .inr hk⟩, g4, g5, .inr ⟨b, o, vs, h1, rfl, by omega, g2, g3, g8⟩⟩
theorem kept_source {n cap : Nat} {base : Option Addr} {us : List Value} {e : TypeId} (hus : us.length = n)
    (hb : (base = none ∧ cap = 0 ∧ n = 0) ∨ ∃ b o vs, base = some ⟨b, o, none⟩ ∧ (cap = 0 ∨ o = 0) ∧ n ≤ cap ∧ w.heap[b]? = some (.cells vs e (0, 0)) ∧ vs.size = cap ∧ vs.toList.take n = us) : Source P w 1 (.slice base n cap) n us := by
  rcases hb with ⟨rfl, rfl, rfl⟩ | ⟨b, o, vs, rfl, h1, h2, h3, h4, h5⟩
  · have : us = [] := List.eq_nil_of_length_eq_zero hus
    subst this
    exact source_nil
  · by_cases hn : n = 0
    · subst hn
      have : us = [] := List.eq_nil_of_length_eq_zero hus
      subst this
      exact ⟨by simp [Builtin.lenOf], by simp [Builtin.lenOf], by simp [Builtin.firstCells, loadCells, loadCellsFrom], by simp [Builtin.firstCells, loadCells, loadCellsFrom]⟩
    · have ho : o = 0 := by rcases h1 with h1 | h1 <;> omega
      subst ho
      have := source_row (P := P) (w := w) (c := cap) (size := 1) (m := n) (o := 0) h3 (by omega)
      rw [List.drop_zero, Nat.mul_one, h5] at this
      exact this
theorem xappendK_sound {t u ty0 : TypeId} {h n h2 m : Nat} {vs vx : Value} {Q : SV × Heap → Prop} (hs : Sat E ρ H w) (hv : SV.rel E.Z ρ (.sl h 1 0 n) vs) (hx : SV.rel E.Z ρ (.sl h2 1 0 m) vx)
    (hq : (xappendK P H t u h n h2 m (.sl h2 1 0 m)).Leads Q) : ∃ sv H' v w' ρ', Q (sv, H') ∧ (Builtin.append_ #[t, u] ty0 #[vs, vx]).run P w = .ok v w' ∧ SV.rel E.Z ρ' sv v ∧ Sat E ρ' H' w' ∧
      Map.le ρ ρ' ∧ (∀ k, k < H.length → ρ' k = ρ k) ∧ H.length ≤ H'.length := by
  unfold xappendK at hq
  split at hq
  case h_2 => exact hq.elim
  rename_i e ht
  split at hq
  case isFalse => exact hq.elim
  rename_i hc
  simp only [Bool.and_eq_true] at hc
  obtain ⟨hsrcB, hne⟩ := hc
  have hne : h ≠ h2 := fun e => by subst e; simp at hne
  obtain ⟨d, hu, hd⟩ := srcB_facts hsrcB
  split at hq
  case h_2 => exact hq.elim
  rename_i e' e2 ty L e'' e2' ty' M hh hh2
  split at hq
  case isFalse => exact hq.elim
  rename_i hc
  simp only [Bool.and_eq_true] at hc
  obtain ⟨c1, c2, c3, hrow⟩ := hc
  have := Nat.eq_of_beq_eq_true c1; subst this
  have := Nat.eq_of_beq_eq_true c2; subst this
  have := Nat.eq_of_beq_eq_true c3; subst this
  split at hq
  case h_2 => exact hq.elim
  rename_i q hqs
  obtain ⟨q⟩ := q
  subst q
  obtain ⟨⟨hn, hm⟩, ⟨hb1, hb2⟩, hq⟩ := hq
  dsimp only at hq
  obtain ⟨i, z, hi, hsz, hz, hzs, hw0, hby⟩ := rowB_facts hrow
  have hsz : i.size = 1 := hsz
  have hzs : z.cells.size = 1 := hzs
  obtain ⟨us, bs, base, cap, rfl, hap, hnd, hcl, hnc, hcm, hbase⟩ := kept_slice hs hh hv hn
  obtain ⟨us2, bs2, base2, cap2, rfl, hap2, hnd2, hcl2, hnc2, hcm2, hbase2⟩ := kept_slice hs hh2 hx hm
  have hul : us.length = n := by rw [apart_length hap, hn]
  have hul2 : us2.length = m := by rw [apart_length hap2, hm]
  have hsrc : Source P w i.size (.slice base2 m cap2) m us2 := by
    rw [hsz]
    refine kept_source (e := e'') hul2 ?_
    rcases hbase2 with ⟨g1, g2, g3, g4⟩ | ⟨b, o, vs, g1, g2, g3, g4, g5, g6⟩
    · exact .inl ⟨g2, g3, by omega⟩
    · exact .inr ⟨b, o, vs, g2, g3, hnc2, g4, g5, g6⟩
  have hone := apart_one hap2
  have happ := apart_append hap2 hap
  have hLM : (L ++ M).length = n + m := by rw [List.length_append, hn, hm]
  have hnodup : (bs ++ bs2).Nodup := by
    rw [List.nodup_append]
    refine ⟨hnd, hnd2, fun a ha b hb e => ?_⟩
    subst e
    exact hne (hs.inj _ _ _ _ _ hh hh2 rfl rfl (hcl a ha) (hcl2 a hb))
  -- what is shared by all ways
  have rel : ∀ (b : Nat) (W : World) (cells : Array Value) (C : Nat), (∀ k y, E.Z k = some y → E.Z k = some y) → W.heap[b]? = some (.cells cells e'' (0, 0)) → cells.size = C → n + m ≤ C → C ≤ maxLen → cells.toList.take (n + m) = us ++ us2 →
      SO.rel E.Z (ρ.put H.length (.at b C (bs ++ bs2))) W H.length (.kept e'' e2' ty' (L ++ M)) := fun b W cells C _ g1 g2 g3 g4 g5 =>
    .inr ⟨b, C, bs ++ bs2, cells, us ++ us2, Map.put_same _ _ _, g1, g2, by omega, g4, hnodup, by rw [List.length_append, hul, hul2, hLM], by rw [hLM]; exact g5, happ⟩
  have fin : ∀ (b C : Nat) (W : World), W.os = w.os → W.tape = w.tape → W.output = w.output → (claimed (ρ h) b ∨ w.heap[b]? = none) → (∀ k, ¬ SO.owned (.kept e'' e2' ty' L) (ρ h) k → ∀ y, w.heap[k]? = some y → W.heap[k]? = some y) → ((∃ y, w.heap[b]? = some y) → claimed (ρ h) b → SO.owned (.kept e'' e2' ty' L) (ρ h) b) →
      SO.rel E.Z (ρ.put H.length (.at b C (bs ++ bs2))) W H.length (.kept e'' e2' ty' (L ++ M)) → Sat E (ρ.put H.length (.at b C (bs ++ bs2))) ((H.set h .dead).set h2 .dead ++ [.kept e'' e2' ty' (L ++ M)]) W := fun b C W g1 g2 g3 g4 g5 g6 g7 => by
    refine hs.release2 hh rfl hh2 rfl g1 g2 g3 (fun k a _ => g5 k a) (fun k ht y hy => ⟨y, g5 k (fun ho => hs.fresh _ _ _ hh rfl (SO.owned_claimed ho) ht) y hy⟩) (fun k hk => ?_) (fun k hk => ?_) g7
    · obtain ⟨b', C', l', e1, hk⟩ := hk
      injection e1 with e1; injection e1 with e1 e2 e3; subst e1; subst e3
      rcases hk with rfl | hk
      · rcases g4 with g4 | g4
        · exact .inl g4
        · exact .inr (.inr g4)
      · rcases List.mem_append.1 hk with hk | hk
        · exact .inl (hcl k hk)
        · exact .inr (.inl (hcl2 k hk))
    · obtain ⟨b', C', l', e1, hk⟩ := hk
      injection e1 with e1; injection e1 with e1 e2 e3; subst e1
      rcases hk with ⟨_, rfl⟩ | ⟨hk, _⟩
      · rcases g4 with g4 | g4
        · exact .inl (g6 (hs.claimed_heap hh rfl g4) g4)
        · exact .inr (.inr g4)
      · cases hk
  have hleput : ∀ x, Map.le ρ (ρ.put H.length x) := fun x => Map.le_put (hs.free _ (Nat.le_refl _))
  by_cases hfit : n + m ≤ cap
  · rcases hbase with ⟨g1, rfl, rfl, rfl⟩ | ⟨b, o, vs, g1, rfl, g3, g4, g5, g6⟩
    · -- all of it is nil
      have hn0 : n = 0 := by omega
      have hm0 : m = 0 := by omega
      subst hn0; subst hm0
      have hus2 : us2 = [] := List.eq_nil_of_length_eq_zero hul2
      subst hus2
      have hL : L = [] := List.eq_nil_of_length_eq_zero hn.symm
      have hM : M = [] := List.eq_nil_of_length_eq_zero hm.symm
      subst hL; subst hM
      refine ⟨_, _, .slice none 0 0, w, ρ.put H.length .nil, hq, ?_, ?_, ?_, hleput _, fun k hk => put_ne (by omega), by simp⟩
      · simpa using run_append_fits0 (ty := ty0) (n := 0) (cap := 0) ht hu hd hi hsrc (by simp) (.inl rfl)
      · simp only [SV.rel]; exact .inl ⟨Map.put_same _ _ _, by simp, by simp, trivial⟩
      · refine hs.release2 hh rfl hh2 rfl rfl rfl rfl (fun k _ _ y hy => hy) (fun k ht y hy => ⟨y, hy⟩) (fun k hk => absurd hk not_claimed_nil) (fun k hk => absurd (SO.owned_claimed hk) not_claimed_nil) ?_
        exact .inl ⟨Map.put_same _ _ _, rfl⟩
    · by_cases hm0 : m = 0
      · subst hm0
        have hus2 : us2 = [] := List.eq_nil_of_length_eq_zero hul2
        subst hus2
        refine ⟨_, _, .slice (some ⟨b, o, none⟩) n cap, w, ρ.put H.length (.at b cap (bs ++ bs2)), hq, ?_, ?_, ?_, hleput _, fun k hk => put_ne (by omega), by simp⟩
        · simpa using run_append_fits0 (ty := ty0) (n := n) (cap := cap) (base := some ⟨b, o, none⟩) ht hu hd hi hsrc (by simpa using hnc) (.inr rfl)
        · simp only [SV.rel]; exact .inr ⟨b, cap, _, cap, o, Map.put_same _ _ _, rfl, by omega, by omega, by omega⟩
        · exact fin b cap w rfl rfl rfl (.inl (claimed_main g1)) (fun k _ y hy => hy) (fun _ _ => SO.owned_main g1) (rel b w vs cap (fun _ _ h => h) g4 g5 hfit hcm (by simpa using g6))
      · have ho : o = 0 := by omega
        subst ho
        have hr := run_append_fits1 (ty := ty0) (n := n) (cap := cap) ht hu hd hi hsrc hfit g4 (by rw [hsz, hul2, g5]; omega) hone
        rw [hsz, Nat.mul_one] at hr
        refine ⟨_, _, _, _, ρ.put H.length (.at b cap (bs ++ bs2)), hq, hr, ?_, ?_, hleput _, fun k hk => put_ne (by omega), by simp⟩
        · simp only [SV.rel]; exact .inr ⟨b, cap, _, cap, 0, Map.put_same _ _ _, rfl, by omega, hfit, .inr (by simp)⟩
        · refine fin b cap _ rfl rfl rfl (.inl (claimed_main g1)) (fun k hk y hy => ?_) (fun _ _ => SO.owned_main g1) (rel b (w.setRow b _) _ cap (fun _ _ h => h) (setRow_heap w b vs _ e'' (0, 0) g4) ?_ hfit hcm ?_)
          · rw [setRow_other w b k _ (fun e => hk (by rw [e]; exact SO.owned_main g1))]; exact hy
          · have : vs.toList.length = vs.size := Array.length_toList
            simp; omega
          · simp only
            rw [g6, List.take_append_of_le_length (by simp [hul, hul2]), List.take_of_length_le (by simp [hul, hul2])]
  · have hgrow : cap < n + m := by omega
    have hold : (Builtin.firstCells i.size n (.slice base n cap)).run P w.drew = .ok us.toArray w.drew := by
      rw [hsz]
      have hsrcL : Source P w 1 (.slice base n cap) n us := by
        refine kept_source (e := e'') hul ?_
        rcases hbase with ⟨g1, g2, g3, g4⟩ | ⟨b, o, vs, g1, g2, g3, g4, g5, g6⟩
        · exact .inl ⟨g2, g3, by omega⟩
        · exact .inr ⟨b, o, vs, g2, g3, hnc, g4, g5, g6⟩
      exact hsrcL.2.2.2
    have hr := run_append_grows1 (ty := ty0) (n := n) (cap := cap) (base := base) ht hu hd hi hz hsrc hgrow hb1 (by rw [hby]; exact hb2) hold
    have hC1 := grownCap_ge w (n + m) cap e''
    have hC2 := grownCap_le_maxLen w (n + m) cap e'' (by unfold maxLen; omega)
    refine ⟨_, _, _, _, ρ.put H.length (.at w.heap.size (grownCap w (n + m) cap e'') (bs ++ bs2)), hq, hr, ?_, ?_, hleput _, fun k hk => put_ne (by omega), by simp⟩
    · simp only [SV.rel]
      exact .inr ⟨_, _, _, _, 0, Map.put_same _ _ _, rfl, by omega, hC1, .inr (by simp)⟩
    · refine fin w.heap.size (grownCap w (n + m) cap e'') _ rfl rfl rfl (.inr (by simp)) (fun k _ y hy => ?_) (fun ⟨y, hy⟩ _ => absurd (block_lt hy) (by omega)) (rel w.heap.size _ _ (grownCap w (n + m) cap e'') (fun _ _ h => h) (alloc_new w.drew _) ?_ hC1 hC2 ?_)
      · have : ∀ o : Obj, (w.drew.alloc o).heap[k]? = w.drew.heap[k]? := fun o => heap_alloc_old w.drew _ (block_lt hy)
        rw [this]; exact hy
      · simp only [Array.size_append, List.size_toArray, size_zeroCells, hzs, hul, hul2]; omega
      · rw [Array.toList_append, Array.toList_append]
        simp only
        rw [List.take_append_of_le_length (by simp [hul, hul2]), List.take_of_length_le (by simp [hul, hul2])]
def xappendK0 (P : Program) (H : Heap) (t u : TypeId) (h2 m : Nat) (x : SV) : Tree (SV × Heap) := match H[h2]? with
  | some (.kept e e2 ty _) => if Nat.blt h2 H.length then xappendK P (H ++ [.kept e e2 ty []]) t u H.length 0 h2 m x else .fail
  | _ => .fail
theorem xappendK0_sound {t u ty0 : TypeId} {h2 m : Nat} {vx : Value} {Q : SV × Heap → Prop} (hs : Sat E ρ H w) (hx : SV.rel E.Z ρ (.sl h2 1 0 m) vx)
    (hq : (xappendK0 P H t u h2 m (.sl h2 1 0 m)).Leads Q) : ∃ sv H' v w' ρ', Q (sv, H') ∧ (Builtin.append_ #[t, u] ty0 #[.slice none 0 0, vx]).run P w = .ok v w' ∧ SV.rel E.Z ρ' sv v ∧ Sat E ρ' H' w' ∧
      Map.le ρ ρ' ∧ (∀ k, k < H.length → ρ' k = ρ k) ∧ H.length ≤ H'.length := by
  unfold xappendK0 at hq
  split at hq
  case h_2 => exact hq.elim
  rename_i e e2 ty M hh
  split at hq
  case isFalse => exact hq.elim
  have hle := Map.le_put (x := .nil) (hs.free _ (Nat.le_refl _))
  have hs1 : Sat E (ρ.put H.length .nil) (H ++ [.kept e e2 ty []]) w := hs.allocNil' (.inl ⟨Map.put_same _ _ _, rfl⟩)
  obtain ⟨sv, H', v, w', ρ', h1, h3, h4, h5, h6, h7, h8⟩ := xappendK_sound (ty0 := ty0) (vs := .slice none 0 0) hs1 (by simp only [SV.rel]; exact .inl ⟨Map.put_same _ _ _, trivial, trivial, trivial⟩) (SV.rel_mono hle hx) hq
  refine ⟨sv, H', v, w', ρ', h1, h3, h4, h5, Map.le_trans hle h6, fun k hk => ?_, by simp at h8; omega⟩
  rw [h7 k (by simp; omega), put_ne (by omega)]
theorem Sat.allocL {C : Nat} {l : List Nat} {ob : SO} {arr : Array Value} {et : TypeId} (hs : Sat E ρ H w) (hd : ob.deep = false) (hl : ∀ k ∈ l, (∀ h (o : SO), H[h]? = some o → o.live = true → ¬ claimed (ρ h) k) ∧ ¬ E.tk k)
    (hob : SO.rel E.Z (ρ.put H.length (.at w.heap.size C l)) (w.alloc (.cells arr et)) H.length ob) :
    Sat E (ρ.put H.length (.at w.heap.size C l)) (H ++ [ob]) (w.alloc (.cells arr et)) := by
  have hle := Map.le_put (x := .at w.heap.size C l) (hs.free _ (Nat.le_refl _))
  have hkeep : ∀ (b : Nat) (x : Obj), w.heap[b]? = some x → (w.alloc (.cells arr et)).heap[b]? = some x := fun b x hx => by
    rw [heap_alloc_old w _ (block_lt hx)]; exact hx
  have hget : ∀ h (o : SO), (H ++ [ob])[h]? = some o → (h < H.length ∧ H[h]? = some o) ∨ (h = H.length ∧ o = ob) := fun h o ho => by
    rw [List.getElem?_append] at ho
    split at ho
    · exact .inl ⟨by assumption, ho⟩
    · have hh : h = H.length := by
        rcases Nat.lt_or_ge H.length h with h1 | h1
        · rw [List.getElem?_eq_none (by simp; omega)] at ho; cases ho
        · omega
      subst hh; simp at ho; exact .inr ⟨rfl, ho.symm⟩
  have hput : ∀ k, claimed (ρ.put H.length (.at w.heap.size C l) H.length) k → k = w.heap.size ∨ k ∈ l := fun k hk => by
    obtain ⟨b', C', l', h1, h2⟩ := hk
    rw [Map.put_same] at h1; injection h1 with h1; injection h1 with e1 e2 e3; subst e1; subst e3
    exact h2
  have hold : ∀ h (o : SO) k, H[h]? = some o → o.live = true → claimed (ρ h) k → ¬ (k = w.heap.size ∨ k ∈ l) := fun h o k ho hlo hc hk => by
    rcases hk with rfl | hk
    · obtain ⟨_, hx⟩ := hs.claimed_heap ho hlo hc
      have := block_lt hx; omega
    · exact (hl k hk).1 h o ho hlo hc
  refine ⟨hs.os, hs.tape, hs.output, ?_, ?_, ?_, hs.zle, ?_, ?_, ?_, ?_⟩
  · intro h hh
    simp at hh
    rw [put_ne (by omega)]; exact hs.free _ (by omega)
  · intro h o ho
    rcases hget h o ho with ⟨h1, h2⟩ | ⟨rfl, rfl⟩
    · exact SO.rel_keep (hs.objs _ _ h2) hle (fun b _ => hkeep b)
    · exact hob
  · intro h h' o o' b ho ho' hl1 hl2 hb hb'
    rcases hget h o ho with ⟨h1, h2⟩ | ⟨rfl, rfl⟩
    · rw [put_ne (by omega)] at hb
      rcases hget h' o' ho' with ⟨h1', h2'⟩ | ⟨rfl, rfl⟩
      · rw [put_ne (by omega)] at hb'
        exact hs.inj _ _ _ _ _ h2 h2' hl1 hl2 hb hb'
      · exact absurd (hput _ hb') (hold _ _ _ h2 hl1 hb)
    · rcases hget h' o' ho' with ⟨h1', h2'⟩ | ⟨rfl, rfl⟩
      · rw [put_ne (by omega)] at hb'
        exact absurd (hput _ hb) (hold _ _ _ h2' hl2 hb')
      · rfl
  · intro b o hb
    exact hkeep _ _ (hs.keep _ _ hb)
  · intro h o b ho hl1 hb
    rcases hget h o ho with ⟨h1, h2⟩ | ⟨rfl, rfl⟩
    · rw [put_ne (by omega)] at hb
      exact hs.apart _ _ _ h2 hl1 hb
    · obtain ⟨b', C', l', h1, h2⟩ := hb
      rw [Map.put_same] at h1; injection h1 with h1; injection h1 with e1 e2 e3; subst e1
      rcases h2 with ⟨_, rfl⟩ | ⟨h2, _⟩
      · cases hF : E.F w.heap.size with
        | none => rfl
        | some x => have := block_lt (hs.keep _ _ hF); omega
      · rw [hd] at h2; cases h2
  · intro h o b ho hl1 hb ht
    rcases hget h o ho with ⟨h1, h2⟩ | ⟨rfl, rfl⟩
    · rw [put_ne (by omega)] at hb
      exact hs.fresh _ _ _ h2 hl1 hb ht
    · rcases hput _ hb with rfl | hk
      · obtain ⟨x, hx⟩ := hs.old _ ht
        have := block_lt hx; omega
      · exact (hl b hk).2 ht
  · intro k ht
    obtain ⟨x, hx⟩ := hs.old _ ht
    exact ⟨x, hkeep _ _ hx⟩
def Ty.plain : Ty → Bool
  | .imm _ => false
  | .opt t => t.plain
  | .pair a b => a.plain && b.plain
  | _ => true
theorem reads_plain {Z Z' : Zone} : ∀ {t : Ty} {x : t.den} {vs : List Value}, t.plain = true → t.reads Z x vs → t.reads Z' x vs
  | .int _, _, _, _, h => h
  | .bool, _, _, _, h => h
  | .str, _, _, _, h => h
  | .unit, _, _, _, h => h
  | .pair a b, x, vs, hp, h => by
    simp only [Ty.plain, Bool.and_eq_true] at hp
    obtain ⟨v1, v2, h0, h1, h2⟩ := h
    exact ⟨v1, v2, h0, reads_plain hp.1 h1, reads_plain hp.2 h2⟩
  | .imm _, _, _, hp, _ => by cases hp
  | .opt t, x, vs, hp, h => match x with
    | some d => reads_plain (t := t) (x := d) hp h
    | none => h
theorem lies_plain {Z Z' : Zone} {t : Ty} {l : List t.den} {vs : List Value} {o : Nat} (hp : t.plain = true) (h : t.lies Z l vs o) : t.lies Z' l vs o := fun i hi => reads_plain hp (h i hi)
theorem run_build1 {t e : TypeId} {z : List SV} {base : Option Addr} {n cap : Nat} (hu : P.underlying t = some (.slice e)) (hsz : szIs P e 1 = true) (hz : zeros P e = some z) (hzl : z.length = 1) :
    (Instr.buildSlice t 1 #[(0, .slice base n cap)]).run P w = .ok (.slice (some ⟨w.heap.size, 0, none⟩) 1 1) (w.alloc (.cells #[.slice base n cap] e)) := by
  have hsz := run_szIs (w := w) hsz
  obtain ⟨v, hv, rfl⟩ := zeros_sound (w := w) hz
  have hv1 : v.cells.size = 1 := by simpa using hzl
  obtain ⟨c, hc⟩ : ∃ c, v.cells = #[c] := by
    match hvc : v.cells with
    | ⟨[]⟩ => rw [hvc] at hv1; simp at hv1
    | ⟨[c]⟩ => exact ⟨c, rfl⟩
    | ⟨_ :: _ :: _⟩ => rw [hvc] at hv1; simp at hv1
  have hcv : (Value.slice base n cap).cells = #[.slice base n cap] := rfl
  simp [Instr.buildSlice, run_underlying hu, hsz, hv, hc, Instr.fill, hcv, newRow]
  congr 2
  apply Array.ext'
  simp [Array.toList_setIfInBounds]
theorem Sat.keep1 {h len : Nat} {e e2 : TypeId} {ty : Ty} {L : List ty.den} {v : Value} (hs : Sat E ρ H w) (hh : H[h]? = some (.row e2 ty L)) (hn : len ≤ L.length) (hv : SV.rel E.Z ρ (.sl h ty.width 0 len) v) :
    ∃ E' x, Env.le E E' ∧ (∃ base cap, v = .slice base len cap) ∧ Sat E' (ρ.put H.length x) (H.set h (.view e2 ty L) ++ [.kept e e2 ty [L.take len]]) (w.alloc (.cells #[v] e)) ∧
      SV.rel E'.Z (ρ.put H.length x) (.sl H.length 1 0 1) (.slice (some ⟨w.heap.size, 0, none⟩) 1 1) := by
  have hob := hs.objs _ _ hh
  simp only [SO.rel] at hob
  have hv0 := hv
  simp only [SV.rel] at hv0
  have hlenset : (H.set h (.view e2 ty L)).length = H.length := by simp
  have hmax : 1 ≤ maxLen := by unfold maxLen; omega
  rcases hob with ⟨h1, h2⟩ | ⟨b, C, vs, h1, h2, h3, h4, h5, h6⟩
  · subst h2
    rcases hv0 with ⟨_, _, g3, rfl⟩ | ⟨b, C, bs, cap, o, g1, _⟩
    · subst g3
      have hs1 : Sat E ρ (H.set h (.view e2 ty [])) w := by
        have get : ∀ k (o : SO), (H.set h (.view e2 ty []))[k]? = some o → o.live = true → H[k]? = some o := fun k o hk hl => by
          by_cases e : k = h
          · subst e
            rw [List.getElem?_set_self (List.getElem?_eq_some_iff.1 hh).1] at hk
            injection hk with hk; subst hk; cases hl
          · rwa [List.getElem?_set_ne (Ne.symm e)] at hk
        refine ⟨hs.os, hs.tape, hs.output, fun k hk => hs.free k (by simpa using hk), fun k o hk => ?_, fun k k' o o' c hk hk' hl hl' hb1 hb2 => ?_, hs.zle, hs.keep, fun k o c hk hl hb1 => ?_, fun k o c hk hl hb1 => ?_, hs.old⟩
        · by_cases e : k = h
          · subst e
            rw [List.getElem?_set_self (List.getElem?_eq_some_iff.1 hh).1] at hk
            injection hk with hk; subst hk; exact .inl ⟨h1, rfl⟩
          · rw [List.getElem?_set_ne (Ne.symm e)] at hk; exact hs.objs _ _ hk
        · exact hs.inj _ _ _ _ _ (get _ _ hk hl) (get _ _ hk' hl') hl hl' hb1 hb2
        · exact hs.apart _ _ _ (get _ _ hk hl) hl hb1
        · exact hs.fresh _ _ _ (get _ _ hk hl) hl hb1
      have hput : (ρ.put H.length (.at w.heap.size 1 [])) = (ρ.put (H.set h (.view e2 ty [])).length (.at w.heap.size 1 [])) := by rw [hlenset]
      refine ⟨E, .at w.heap.size 1 [], Env.le_refl E, ⟨_, _, rfl⟩, ?_, ?_⟩
      · rw [hput]
        refine hs1.allocL rfl (fun k hk => by cases hk) ?_
        refine .inr ⟨w.heap.size, 1, [], _, [.slice none 0 0], Map.put_same _ _ _, alloc_new _ _, rfl, by simp, hmax, List.nodup_nil, rfl, by simp, ?_⟩
        exact ⟨_, [], rfl, .inl ⟨by simp, rfl, rfl, rfl⟩⟩
      · simp only [SV.rel]; exact .inr ⟨_, 1, _, 1, 0, Map.put_same _ _ _, rfl, by omega, by omega, .inr (by simp)⟩
    · rw [h1] at g1; cases g1
  · rcases hv0 with ⟨g1, _⟩ | ⟨b', C', bs', cap, o, g1, rfl, g3, g4, g5⟩
    · rw [h1] at g1; cases g1
    rw [h1] at g1; injection g1 with g1; injection g1 with e1 e2' e3; subst e1; subst e2'; subst e3
    have hcap : cap = C := by omega
    subst hcap
    obtain ⟨E', hle, hZ, hs'⟩ := hs.freeze hh h1 h2
    have hs1 := hs' (.view e2 ty L) rfl (.inr ⟨b, cap, _, vs, h1, hZ, h3, h4, h5, Ty.lies_zone hle.z h6⟩)
    have hfree : ∀ k (o : SO), (H.set h (.view e2 ty L))[k]? = some o → o.live = true → ¬ claimed (ρ k) b := fun k o hk hl hc => by
      by_cases e : k = h
      · subst e
        rw [List.getElem?_set_self (List.getElem?_eq_some_iff.1 hh).1] at hk
        injection hk with hk; subst hk; cases hl
      · rw [List.getElem?_set_ne (Ne.symm e)] at hk
        exact e (hs.inj _ _ _ _ _ hk hh hl rfl hc (claimed_main h1))
    have htk : ¬ E'.tk b := by rw [hle.tk]; exact hs.fresh _ _ _ hh rfl (claimed_main h1)
    have hput : (ρ.put H.length (.at w.heap.size 1 [b])) = (ρ.put (H.set h (.view e2 ty L)).length (.at w.heap.size 1 [b])) := by rw [hlenset]
    refine ⟨E', .at w.heap.size 1 [b], hle, ⟨_, _, rfl⟩, ?_, ?_⟩
    · rw [hput]
      refine hs1.allocL rfl (fun k hk => ?_) ?_
      · have : k = b := by simpa using hk
        subst this
        exact ⟨hfree, htk⟩
      · refine .inr ⟨w.heap.size, 1, [b], _, _, Map.put_same _ _ _, alloc_new _ _, rfl, by simp, hmax, by simp, rfl, rfl, ?_⟩
        have hlt : (L.take len).length = len := by rw [List.length_take]; omega
        refine ⟨_, [], rfl, .inr ⟨b, o, cap, vs, [], rfl, by rw [hlt], ?_, hZ, h3, by rw [hlt]; exact g4, h5, Ty.lies_zone hle.z (lies_take h6 len), rfl, rfl⟩⟩
        rcases g5 with g5 | g5
        · exact .inl g5
        · exact .inr (by simpa using g5)
    · simp only [SV.rel]; exact .inr ⟨_, 1, _, 1, 0, Map.put_same _ _ _, rfl, by omega, by omega, .inr (by simp)⟩
end Sx
