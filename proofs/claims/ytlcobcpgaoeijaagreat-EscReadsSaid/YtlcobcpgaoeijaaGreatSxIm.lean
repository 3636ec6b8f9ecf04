/- Appends to a row that is known elsewhere: both ways. -/
import Derived.Test.YtlcobcpgaoeijaaGreatSxIk
set_option linter.unusedVariables false
set_option linter.unusedSimpArgs false
namespace Sx
open Go
variable {P : Program} {E : Env} {ρ : Map} {S : Slots} {H : Heap} {a : Act} {w w' : World} {Z : Zone}
def holeIn (h : Nat) : Heap → Bool
  | [] => false
  | .lists _ _ _ _ _ (some (k, _)) _ :: r => if Nat.beq k h then true else holeIn h r
  | _ :: r => holeIn h r
def xappendF (P : Program) (H : Heap) (t u : TypeId) (s x : SV) : Tree (SV × Heap) := match P.underlying t with
  | some (.slice e) => if srcB P u x then match s with
    | .sl h wd 0 len => match H[h]? with
      | some (.row et ty L) => if Nat.beq et e && Nat.beq wd ty.width && rowB P e ty then (xelems H ty x).bind fun M =>
          .need (len = L.length) (.need (Small len M.length (bytesOf P e)) (.any Bool (fun _ => True) fun c => .ite c (.ret (.sl h wd 0 (len + M.length), H.set h (.row et ty (L ++ M)))) (.ret (.sl H.length wd 0 (len + M.length), H ++ [.row e ty (L ++ M)])))) else .fail
      | _ => .fail
    | _ => .fail
    else .fail
  | _ => .fail
theorem xappendF_sound {t u ty0 : TypeId} {s x : SV} {vs vx : Value} {Q : SV × Heap → Prop} (hs : Sat E ρ H w) (hv : SV.rel E.Z ρ s vs) (hx : SV.rel E.Z ρ x vx)
    (h : (xappendF P H t u s x).Leads Q) : ∃ sv H' v w' ρ', Q (sv, H') ∧ (Builtin.append_ #[t, u] ty0 #[vs, vx]).run P w = .ok v w' ∧ SV.rel E.Z ρ' sv v ∧ Sat E ρ' H' w' ∧
      Map.le ρ ρ' ∧ (∀ k, k < H.length → ρ' k = ρ k) ∧ H.length ≤ H'.length := by
  unfold xappendF at h
  split at h
  case h_2 => exact h.elim
  rename_i e ht
  split at h
  case isFalse => exact h.elim
  rename_i hsrcB
  obtain ⟨d, hu, hd⟩ := srcB_facts hsrcB
  split at h
  case h_2 => exact h.elim
  rename_i h0 wd len
  split at h
  case h_2 => exact h.elim
  rename_i et ty L hh
  split at h
  case isFalse => exact h.elim
  rename_i hcond
  simp only [Bool.and_eq_true] at hcond
  obtain ⟨⟨hc1, hc2⟩, hrow⟩ := hcond
  have := Nat.eq_of_beq_eq_true hc1; subst this
  have := Nat.eq_of_beq_eq_true hc2; subst this
  obtain ⟨i, z, hi, hsz, hz, hzs, hw0, hby⟩ := rowB_facts hrow
  rw [Tree.leads_bind] at h
  obtain ⟨M, news, hq0, hn, hl, _, hsrc⟩ := xelems_sound (P := P) hs hx h
  rw [← hsz] at hsrc
  obtain ⟨hlenL, ⟨hb1, hb2⟩, hq⟩ := hq0
  have hq1 := (br_iff.1 (hq true trivial)).1 rfl
  have hq2 := (br_iff.1 (hq false trivial)).2 rfl
  simp only [Tree.Leads] at hq1 hq2
  have hlL : L.take len = L := by rw [hlenL, List.take_length]
  rw [← hlL] at hq1 hq2
  have hlenL : len ≤ L.length := by omega
  have hobj := hs.objs _ _ hh
  simp only [SO.rel] at hobj
  simp only [SV.rel] at hv
  have hnewM : ∀ v ∈ news, v.oneCell' = true := by
    have h1 := reads_all (ρ := ρ) hl hn
    refine rels_one h1 ?_
    rw [List.all_eq_true]
    intro c hc
    obtain ⟨x, _, hx⟩ := List.mem_flatMap.1 hc
    exact List.all_eq_true.1 (firm_one (x := x) (rowB_firm hrow)) c hx
  have hlt : h0 < H.length := getElem?_lt' hh
  have hput : ∀ x, Map.le ρ (ρ.put H.length x) := fun x => Map.le_put (hs.free _ (Nat.le_refl _))
  have grow : ∀ (n cap : Nat) (base : Option Addr) (olds : List Value), n = len → cap < n + M.length → vs = .slice base n cap → (Builtin.firstCells i.size n (.slice base n cap)).run P w.drew = .ok olds.toArray w.drew → ty.lies E.Z (L.take len) olds 0 → olds.length = len * ty.width →
      ∃ sv H' v w' ρ', Q (sv, H') ∧ (Builtin.append_ #[t, u] ty0 #[vs, vx]).run P w = .ok v w' ∧ SV.rel E.Z ρ' sv v ∧ Sat E ρ' H' w' ∧ Map.le ρ ρ' ∧ (∀ k, k < H.length → ρ' k = ρ k) ∧ H.length ≤ H'.length := fun n cap base olds hn0 hgrow hvs hold hol hoLen => by
    subst hn0; subst hvs
    have hr := run_append_grows1 (ty := ty0) (n := n) (cap := cap) (base := base) (olds := olds) ht hu hd hi hz hsrc hgrow hb1 (by rw [hby]; exact hb2) hold
    have hC1 := grownCap_ge w (n + M.length) cap et
    have hC2 := grownCap_le_maxLen w (n + M.length) cap et (by unfold maxLen; omega)
    have hLn : (L.take n).length = n := by rw [List.length_take]; omega
    have hlies : ty.lies E.Z (L.take n ++ M) (olds ++ news) 0 := by
      have := lies_snoc (Z := E.Z) [] hol hl (by rw [hoLen, hLn]) hn
      simpa using this
    have hlen2 : (olds ++ news).length = (L.take n ++ M).length * ty.width := by
      rw [List.length_append, hoLen, hn, List.length_append, hLn, Nat.add_mul]
    refine ⟨_, _, _, _, ρ.put H.length (.at w.heap.size (grownCap w (n + M.length) cap et) []), hq2, hr, ?_, ?_, hput _, fun k hk => put_ne (by omega), by simp⟩
    · simp only [SV.rel]
      exact .inr ⟨_, _, _, _, 0, Map.put_same _ _ _, rfl, by omega, hC1, .inr (by simp)⟩
    · have hg := grown_row (Z := E.Z) (w := w) (e := et) (z := z) (ρ := ρ.put H.length (.at w.heap.size (grownCap w (n + M.length) cap et) [])) (h := H.length) hzs hlies hlen2 (by rw [List.length_append, hLn]; exact hC1) hC2 (Map.put_same _ _ _)
      rw [List.length_append, hLn] at hg
      have h2 := Sat.alloc (w := w.drew) (C := grownCap w (n + M.length) cap et) hs.drew hg
      simpa using h2
  rcases hv with ⟨h1, _, hL, rfl⟩ | ⟨b, C, bs, cap, o, h1, rfl, h2, h3, h4⟩
  · subst hL
    have eL : List.take 0 L = [] := rfl
    by_cases hm : M.length = 0
    · have hM : M = [] := List.eq_nil_of_length_eq_zero hm
      subst hM
      have hnews : news = [] := List.eq_nil_of_length_eq_zero (by simpa using hn)
      subst hnews
      have hL0 : L = [] := by
        rcases hobj with ⟨_, h⟩ | ⟨b, C, vs, h2, _⟩
        · exact h
        · rw [h1] at h2; cases h2
      subst hL0
      refine ⟨_, _, .slice none 0 0, w, ρ, hq1, ?_, ?_, ?_, Map.le_refl ρ, fun k _ => rfl, by simp⟩
      · simpa using run_append_fits0 (ty := ty0) (n := 0) (cap := 0) ht hu hd hi hsrc (by simp) (.inl rfl)
      · simp only [SV.rel]; exact .inl ⟨h1, by simp, by simp, trivial⟩
      · have e0 : (H.set h0 (.row et ty (List.take 0 [] ++ []))) = H := by
          have : (SO.row et ty (List.take 0 [] ++ [])) = .row et ty [] := rfl
          rw [this, set_same hh]
        rw [e0]; exact hs
    · exact grow 0 0 none [] rfl (by omega) rfl (by simp [Builtin.firstCells]) (by rw [eL]; exact lies_nil) (by simp)
  · rcases hobj with ⟨h0', _⟩ | ⟨b', C', cells, h1', h2', h3', h4', h5', h6'⟩
    · rw [h0'] at h1; cases h1
    rw [h1] at h1'; injection h1' with h1'; injection h1' with e1 e2 e3; subst e1; subst e2; subst e3
    have hcap : cap = C := by omega
    subst hcap
    have hvl : cells.toList.length = cap * ty.width := by simpa using h3'
    have hLw : len * ty.width ≤ cap * ty.width := Nat.mul_le_mul_right _ (by omega)
    have hLn : (L.take len).length = len := by rw [List.length_take]; omega
    have holdlen : (cells.toList.take (len * ty.width)).length = len * ty.width := by simp; omega
    have holdlies : ty.lies E.Z (L.take len) (cells.toList.take (len * ty.width)) 0 := lies_part h6' len
    by_cases hroom : len + M.length ≤ cap
    · by_cases hcap0 : cap = 0
      · subst hcap0
        have hL0 : L = [] := List.eq_nil_of_length_eq_zero (by omega)
        have hM0 : M = [] := List.eq_nil_of_length_eq_zero (by omega)
        have hl0 : len = 0 := by omega
        subst hL0; subst hM0; subst hl0
        have hnews : news = [] := List.eq_nil_of_length_eq_zero (by simpa using hn)
        subst hnews
        refine ⟨_, _, .slice (some ⟨b, o, none⟩) 0 0, w, ρ, hq1, ?_, ?_, ?_, Map.le_refl ρ, fun k _ => rfl, by simp⟩
        · simpa using run_append_fits0 (ty := ty0) (n := 0) (cap := 0) (base := some ⟨b, o, none⟩) ht hu hd hi hsrc (by simp) (.inr rfl)
        · simp only [SV.rel]; exact .inr ⟨b, 0, _, 0, o, h1, rfl, rfl, Nat.le_refl _, .inl rfl⟩
        · have e0 : (H.set h0 (.row et ty (List.take 0 [] ++ []))) = H := by
            have : (SO.row et ty (List.take 0 [] ++ [])) = .row et ty [] := rfl
            rw [this, set_same hh]
          rw [e0]; exact hs
      · have ho : o = 0 := by
          rcases h4 with h4 | h4
          · exact absurd h4 hcap0
          · simpa using h4
        subst ho
        have hMw : len * ty.width + M.length * ty.width ≤ cap * ty.width := by rw [← Nat.add_mul]; exact Nat.mul_le_mul_right _ hroom
        have hr := run_append_fits1 (ty := ty0) (n := len) (cap := cap) ht hu hd hi hsrc hroom h2' (by rw [hsz, hn, h3']; exact hMw) hnewM
        rw [hsz] at hr
        refine ⟨_, _, _, _, ρ, hq1, hr, ?_, ?_, Map.le_refl ρ, fun k _ => rfl, by simp⟩
        · simp only [SV.rel]; exact .inr ⟨b, cap, _, cap, 0, h1, rfl, by omega, hroom, .inr (by simp)⟩
        · refine Sat.set hs hh rfl h1 rfl rfl rfl (fun k hk => setRow_other w b k _ hk) ?_ rfl
          refine .inr ⟨b, cap, _, h1, setRow_heap w b cells _ et (0, 0) h2', ?_, by rw [List.length_append, hLn]; exact hroom, h5', ?_⟩
          · simp; omega
          · simpa using lies_snoc (Z := E.Z) _ holdlies hl (by rw [holdlen, hLn]) hn
    · refine grow len cap (some ⟨b, o, none⟩) (cells.toList.take (len * ty.width)) rfl (by omega) rfl ?_ holdlies holdlen
      rw [hsz]
      by_cases hL0 : len = 0
      · rw [hL0]; simp [Builtin.firstCells, loadCells, loadCellsFrom]
      · have ho : o = 0 := by
          rcases h4 with h4 | h4
          · omega
          · simpa using h4
        subst ho
        have := (source_row (P := P) (w := w) (c := cap) (size := ty.width) (m := len) (o := 0) h2' (by rw [h3']; simpa using hLw)).2.2.2
        simpa using this
end Sx
