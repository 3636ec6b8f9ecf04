/- Each operation of SxB is what the machine does: addresses, slices, texts. -/
import Derived.Test.YtlcobcpgaoeijaaGreatSxD
set_option linter.unusedVariables false
set_option linter.unusedSimpArgs false
namespace Sx
open Go
variable {P : Program} {E : Env} {ρ : Map} {S : Slots} {H : Heap} {a : Act} {w : World} {Z : Zone}
theorem fieldOff_some {s : TypeId} {f o : Nat} {t : TypeId} (h : fieldOff P s f = some (o, t)) : ∃ fs x, P.underlying s = some (.struct fs) ∧ fs[f]? = some x ∧ x.offset = o ∧ x.type = t := by
  unfold fieldOff at h
  split at h
  · rename_i fs hu
    split at h
    · rename_i x hx
      injection h with h; injection h with h1 h2
      exact ⟨fs, x, hu, hx, h1, h2⟩
    · cases h
  · cases h
theorem add_lit (b o n : Nat) : (⟨b, o, none⟩ : Addr).add n = ⟨b, o + n, none⟩ := by unfold Addr.add; split <;> simp_all
theorem run_fieldAt_cells {s : TypeId} {f o : Nat} {t : TypeId} {b off : Nat} (h : fieldOff P s f = some (o, t)) (hz : ¬ Nat.beq (P.cellsOf t) 0 = true) :
    (Instr.fieldAt s (.pointer (some ⟨b, off, none⟩)) f).run P w = .ok (.pointer (some ⟨b, off + o, none⟩)) w := by
  obtain ⟨fs, x, hu, hx, rfl, rfl⟩ := fieldOff_some h
  have hs : ∃ i, P.info? x.type = some i := by
    cases hi : P.info? x.type with
    | some i => exact ⟨i, rfl⟩
    | none => simp [Program.cellsOf, hi] at hz
  obtain ⟨i, hi⟩ := hs
  have hne : ¬ i.size = 0 := by
    intro e; apply hz; simp [Program.cellsOf, hi, e]
  simp [Instr.fieldAt, run_underlying hu, hx, Instr.sureAddr, fieldPlace, Go.sizeOf, typeInfo, hi, hne, add_lit]
theorem xfieldAddr_sound {s : TypeId} {f : Nat} {x : SV} {vx : Value} {Q : SV → Prop} (hx : SV.rel E.Z ρ x vx) (h : (xfieldAddr P s f x).Leads Q) :
    Yields P E ρ (Instr.fieldAt s vx f) w Q := by
  unfold xfieldAddr at h
  split at h
  · rename_i o t hf
    split at h
    · exact h.elim
    rename_i hz
    split at h
    · simp only [SV.rel] at hx
      obtain ⟨b, C, bs, h1, rfl⟩ := hx
      exact ⟨_, _, h, run_fieldAt_cells hf hz, by simp only [SV.rel]; exact ⟨b, C, _, h1, rfl⟩⟩
    · simp only [SV.rel] at hx
      obtain ⟨b, C, bs, h1, rfl⟩ := hx
      exact ⟨_, _, h, run_fieldAt_cells hf hz, by simp only [SV.rel]; exact ⟨b, C, _, h1, by rw [Nat.add_assoc]⟩⟩
    · simp only [SV.rel] at hx
      obtain ⟨b, o, arr, et, fz, rfl, h1, h2⟩ := hx
      exact ⟨_, _, h, run_fieldAt_cells hf hz, by simp only [SV.rel]; exact ⟨b, o, arr, et, fz, by rw [Nat.add_assoc], h1, h2⟩⟩
    · split at h
      case isFalse => exact h.elim
      rename_i ho
      have ho := Nat.eq_of_beq_eq_true ho
      subst ho
      simp only [SV.rel] at hx
      obtain ⟨b, C, bs, k, h1, h2, rfl⟩ := hx
      exact ⟨_, _, h, run_fieldAt_cells hf hz, by simp only [SV.rel]; exact ⟨b, C, bs, k, h1, h2, rfl⟩⟩
    · exact h.elim
  · exact h.elim
theorem xfield_sound {s : TypeId} {f : Nat} {x : SV} {vx : Value} {Q : SV → Prop} (hx : SV.rel E.Z ρ x vx) (h : (xfield P s f x).Leads Q) :
    Yields P E ρ (Instr.field s vx f) w Q := by
  unfold xfield at h
  split at h
  · rename_i o t hf
    obtain ⟨fs, fd, hu, hfx, rfl, rfl⟩ := fieldOff_some hf
    split at h
    · rename_i cs
      unfold fromCells at h
      split at h
      · rename_i sv hp
        simp only [SV.rel] at hx
        obtain ⟨vs, rfl, hx⟩ := hx
        obtain ⟨u, h1, h2⟩ := run_part (P := P) (w := w) hp (vs := vs.toArray) (by simpa using hx)
        exact ⟨sv, u, h, by simpa [Instr.field, run_underlying hu, hfx, asAgg] using h1, h2⟩
      · exact h.elim
    · exact h.elim
  · exact h.elim
theorem xnil_sound {x : SV} {vx : Value} {Q : SV → Prop} (hx : SV.rel E.Z ρ x vx) (h : (xnil x).Leads Q) : ∃ sv, Q sv ∧ SV.rel E.Z ρ sv vx ∧ ∃ a, vx = .pointer (some a) := by
  unfold xnil at h
  split at h
  · have h' := hx; simp only [SV.rel] at h'; obtain ⟨b, C, bs, _, rfl⟩ := h'
    exact ⟨_, h, hx, _, rfl⟩
  · have h' := hx; simp only [SV.rel] at h'; obtain ⟨b, C, bs, _, rfl⟩ := h'
    exact ⟨_, h, hx, _, rfl⟩
  · have h' := hx; simp only [SV.rel] at h'; obtain ⟨b, o, arr, et, fz, rfl, _⟩ := h'
    exact ⟨_, h, hx, _, rfl⟩
  · have h' := hx; simp only [SV.rel] at h'; obtain ⟨b, C, bs, k, _, _, rfl⟩ := h'
    exact ⟨_, h, hx, _, rfl⟩
  · exact h.elim
theorem run_szIs {t : TypeId} {n : Nat} (h : szIs P t n = true) : (Go.sizeOf t).run P w = .ok n w := by
  unfold szIs at h
  split at h
  · rename_i i hi
    have := Nat.eq_of_beq_eq_true h
    simp [Go.sizeOf, typeInfo, hi, this]
  · cases h
theorem xindexAddr_sound {t : TypeId} {x i : SV} {vx vi : Value} {Q : SV → Prop} (hx : SV.rel E.Z ρ x vx) (hi : SV.rel E.Z ρ i vi)
    (h : (xindexAddr P t x i).Leads Q) : Yields P E ρ (Instr.indexAt t vx vi) w Q := by
  unfold xindexAddr at h
  split at h
  · rename_i e k n hu
    have := rel_lit hi; subst this
    split at h
    · rename_i h0 wd off len
      split at h
      case isFalse => exact h.elim
      rename_i hwd
      obtain ⟨hn, h⟩ := h
      simp only [SV.rel] at hx
      rcases hx with ⟨_, _, rfl, rfl⟩ | ⟨b, C, bs, cap, o, h1, rfl, h2, h3, h4⟩
      · omega
      · have hsz := run_szIs (w := w) hwd
        refine ⟨_, .pointer (some ⟨b, o + n.toNat * wd, none⟩), h, ?_, ?_⟩
        · simp [Instr.indexAt, asIntOf, run_underlying hu, hn, hsz, add_lit]
        · simp only [SV.rel]
          refine ⟨b, C, _, h1, ?_⟩
          rcases h4 with h4 | h4
          · omega
          · subst h4; rw [Nat.add_mul]; rfl
    · rename_i ty l
      split at h
      case isFalse => exact h.elim
      rename_i hwd
      obtain ⟨hn, h⟩ := h
      simp only [SV.rel, Ty.reads] at hx
      obtain ⟨u, hu', h'⟩ := hx
      simp only [List.cons.injEq, and_true] at hu'
      subst hu'
      rcases h' with ⟨rfl, rfl⟩ | ⟨b, o, cap, arr, et, fz, rfl, h1, h2, h3⟩ | ⟨rfl, a, cap, rfl⟩
      rotate_left 2
      · simp at hn; omega
      · simp at hn; omega
      · have hsz := run_szIs (w := w) hwd
        refine ⟨_, .pointer (some ⟨b, o + n.toNat * ty.width, none⟩), h, ?_, ?_⟩
        · simp [Instr.indexAt, asIntOf, run_underlying hu, hn, hsz, add_lit]
        · simp only [SV.rel]
          exact ⟨b, o, arr, et, fz, rfl, h2, h3⟩
    · exact h.elim
  · rename_i len e k n hu
    have := rel_lit hi; subst this
    split at h
    · rename_i h0 off i hinfo
      obtain ⟨hn, h⟩ := h
      simp only [SV.rel] at hx
      obtain ⟨b, C, bs, h1, rfl⟩ := hx
      refine ⟨_, .pointer (some ⟨b, off + n.toNat * i.size, none⟩), h, ?_, ?_⟩
      · simp [Instr.indexAt, Instr.sureAddr, asIntOf, run_underlying hu, hn, Go.sizeOf, typeInfo, hinfo, add_lit]
      · simp only [SV.rel]; exact ⟨b, C, _, h1, rfl⟩
    · exact h.elim
  · exact h.elim
theorem byteAt_get {s : ByteArray} {n : Int} (hn : 0 ≤ n ∧ n < (s.size : Int)) : ∃ b, s[n.toNat]? = some b ∧ byteAt s n = (b.toNat : Int) := by
  have hlt : n.toNat < s.size := by omega
  refine ⟨s[n.toNat], ?_, ?_⟩
  · simp [hlt]
  · unfold byteAt
    have : n.toNat < s.data.toList.length := by simpa using hlt
    simp only [List.getD, List.getElem?_eq_getElem this, Option.getD_some]
    rfl
theorem xindex_sound {t : TypeId} {x i : SV} {vx vi : Value} {Q : SV → Prop} (hx : SV.rel E.Z ρ x vx) (hi : SV.rel E.Z ρ i vi)
    (h : (xindex P t x i).Leads Q) : Yields P E ρ (Instr.index t vx vi) w Q := by
  unfold xindex at h
  split at h
  · rename_i s k n hu
    have := rel_lit hx; subst this; have := rel_lit hi; subst this
    obtain ⟨hn, h⟩ := h
    obtain ⟨b, h1, h2⟩ := byteAt_get hn
    rw [h2] at h
    exact yields_lit h (by simp [Instr.index, asIntOf, run_underlying hu, hn.1, h1])
  · exact h.elim
theorem bound_run {x : Option Operand} {d n y : Nat} {o : Option Int} {code : BoundsCode} (hS : HeldBy E ρ S a) (h : bound S x d = some (o, n)) (hw : within o y) :
    (match x.map a.eval with | some v => Instr.sliceBound v y code | none => pure d : Sem Nat).run P w = .ok n w ∧ (x = none → n = d) ∧ (x ≠ none → n ≤ y) := by
  cases x with
  | none => simp [bound] at h; simp [h.2]
  | some x =>
    simp only [bound] at h
    split at h
    · rename_i k m hm
      injection h with h; injection h with h1 h2
      subst h1; subst h2
      have e := rel_unlit (ev_rel hS x) hm
      simp only [within] at hw
      simp only [Option.map_some, e, run_sliceBound w k m y code hw.1 hw.2]
      refine ⟨trivial, by simp, fun _ => by omega⟩
    · cases h
theorem within_none {hi : Nat} : within none hi := trivial
theorem run_sliceBounds {sl : Bool} {len cap l h y : Nat} {lo hi : Option Operand} {ol oh : Option Int} (hS : HeldBy E ρ S a) (hh : bound S hi len = some (oh, h)) (hl : bound S lo 0 = some (ol, l))
    (wh : within oh y) (hy : y ≤ cap) (hlen : len ≤ cap) (wl : within ol h) :
    (Instr.sliceBounds sl len cap (lo.map a.eval) (hi.map a.eval) none).run P w = .ok (l, h, cap) w ∧ l ≤ h ∧ (h ≤ y ∨ h = len) := by
  have wh' : within oh cap := by
    cases oh with
    | none => trivial
    | some n => simp only [within] at *; omega
  have h1 := bound_run (P := P) (w := w) (y := cap) (code := if sl then BoundsCode.sliceAcap else BoundsCode.sliceAlen) hS hh wh'
  have h2 := bound_run (P := P) (w := w) (y := h) (code := .sliceB) hS hl wl
  refine ⟨?_, ?_, ?_⟩
  · unfold Instr.sliceBounds
    cases hi with
    | none =>
      have e1 : h = len := h1.2.1 rfl
      subst e1
      cases lo with
      | none => have e2 : l = 0 := h2.2.1 rfl; subst e2; simp
      | some x =>
        have h3 := h2.1; simp only [Option.map_some] at h3
        simp [h3]
    | some y =>
      have h4 := h1.1; simp only [Option.map_some] at h4
      cases lo with
      | none => have e2 : l = 0 := h2.2.1 rfl; subst e2; simp [h4]
      | some x =>
        have h3 := h2.1; simp only [Option.map_some] at h3
        simp [h3, h4]
  · rcases Classical.em (lo = none) with e | e
    · rw [h2.2.1 e]; omega
    · exact h2.2.2 e
  · have h3 := bound_run (P := P) (w := w) (y := y) (code := if sl then BoundsCode.sliceAcap else BoundsCode.sliceAlen) hS hh wh
    rcases Classical.em (hi = none) with e | e
    · exact .inr (h3.2.1 e)
    · exact .inl (h3.2.2 e)
theorem xslice_sound {t : TypeId} {x : SV} {vx : Value} {lo hi : Option Operand} {Q : SV → Prop} (hs : Sat E ρ H w) (hS : HeldBy E ρ S a) (hx : SV.rel E.Z ρ x vx)
    (h : (xslice P H S t x lo hi).Leads Q) : Yields P E ρ (Instr.slice t vx (lo.map a.eval) (hi.map a.eval) none) w Q := by
  unfold xslice at h
  split at h
  · rename_i s hu
    have := rel_lit hx; subst this
    split at h
    · rename_i hn h' ln l' hb hl
      obtain ⟨wh, wl, h⟩ := h
      obtain ⟨hr, _, _⟩ := run_sliceBounds (P := P) (w := w) (sl := false) hS hb hl wh (Nat.le_refl _) (Nat.le_refl _) wl
      exact yields_lit h (by simp [Instr.slice, run_underlying hu, hr])
    · exact h.elim
  · rename_i e h0 wd off len hu
    split at h
    case isFalse => exact h.elim
    rename_i hwd
    split at h
    · rename_i et ty L hh
      split at h
      case isFalse => exact h.elim
      rename_i hw2
      have := Nat.eq_of_beq_eq_true hw2
      subst this
      split at h
      · rename_i hn h' ln l' hb hl
        obtain ⟨wh, wl, h⟩ := h
        have hsz := run_szIs (w := w) hwd
        simp only [SV.rel] at hx
        rcases hx with ⟨h1, rfl, rfl, rfl⟩ | ⟨b, C, bs, cap, o, h1, rfl, h2, h3, h4⟩
        · rcases hs.row hh with ⟨_, rfl⟩ | ⟨b, C, bs, vs, h1', _⟩
          · obtain ⟨hr, hle, hle2⟩ := run_sliceBounds (P := P) (w := w) (sl := true) (cap := 0) hS hb hl wh (by simp) (Nat.le_refl _) wl
            have e1 : h' = 0 := by simp at hle2; omega
            subst e1
            have e2 : l' = 0 := by omega
            subst e2
            refine ⟨_, .slice none 0 0, h, ?_, ?_⟩
            · simp [Instr.slice, run_underlying hu, hr, hsz]
            · simp only [SV.rel]; exact .inl ⟨h1, by simp, by simp, trivial⟩
          · rw [h1] at h1'; cases h1'
        · rcases hs.row hh with ⟨h1', _⟩ | ⟨b', C', bs', vs, h1', h2', h3', h4', h5', h6'⟩
          · rw [h1] at h1'; cases h1'
          rw [h1] at h1'; injection h1' with h1'; injection h1' with e1 e2 e3; subst e1; subst e2; subst e3
          obtain ⟨hr, hle, hle2⟩ := run_sliceBounds (P := P) (w := w) (sl := true) (cap := cap) hS hb hl wh (by omega) h3 wl
          have hhc : h' ≤ cap := by omega
          refine ⟨_, .slice (some (if cap = l' then ⟨b, o, none⟩ else ⟨b, o + l' * ty.width, none⟩)) (h' - l') (cap - l'), h, ?_, ?_⟩
          · simp [Instr.slice, run_underlying hu, hr, hsz, add_lit]
            split <;> rfl
          · simp only [SV.rel]
            refine .inr ⟨b, C, _, cap - l', if cap = l' then o else o + l' * ty.width, h1, ?_, by omega, by omega, ?_⟩
            · split <;> rfl
            · split
              · left; omega
              · rcases h4 with h4 | h4
                · left; omega
                · right; rw [h4, Nat.add_mul]
      · exact h.elim
    · exact h.elim
  · rename_i e ty L hu
    split at h
    case isFalse => exact h.elim
    rename_i hwd
    split at h
    · rename_i hn h' ln l' hb hl
      obtain ⟨wh, wl, h⟩ := h
      have hsz := run_szIs (w := w) hwd
      simp only [SV.rel, Ty.reads] at hx
      obtain ⟨u, hu', h''⟩ := hx
      simp only [List.cons.injEq, and_true] at hu'
      subst hu'
      rcases h'' with ⟨rfl, rfl⟩ | ⟨b, o, cap, arr, et, fz, rfl, h1, h2, h3⟩ | ⟨rfl, a, cap, rfl⟩
      rotate_left 2
      · obtain ⟨hr, hle, hle2⟩ := run_sliceBounds (P := P) (w := w) (sl := true) (cap := cap) hS hb hl wh (by simp) (by simp) wl
        have e1 : h' = 0 := by simp at hle2; omega
        subst e1
        have e2 : l' = 0 := by omega
        subst e2
        refine ⟨_, .slice (some (if cap = 0 then a else a.add (0 * ty.width))) 0 cap, h, ?_, ?_⟩
        · simp at hr; simp [Instr.slice, run_underlying hu, hr, hsz]
          split <;> rfl
        · simp only [SV.rel, Ty.reads]; exact ⟨_, rfl, .inr (.inr ⟨by simp, _, _, rfl⟩)⟩
      · obtain ⟨hr, hle, hle2⟩ := run_sliceBounds (P := P) (w := w) (sl := true) (cap := 0) hS hb hl wh (by simp) (by simp) wl
        have e1 : h' = 0 := by simp at hle2; omega
        subst e1
        have e2 : l' = 0 := by omega
        subst e2
        refine ⟨_, .slice none 0 0, h, ?_, ?_⟩
        · simp at hr; simp [Instr.slice, run_underlying hu, hr, hsz]
        · simp only [SV.rel, Ty.reads]; exact ⟨_, rfl, .inl ⟨by simp, rfl⟩⟩
      · obtain ⟨hr, hle, hle2⟩ := run_sliceBounds (P := P) (w := w) (sl := true) (cap := cap) hS hb hl wh h1 h1 wl
        have hhl : h' ≤ L.length := by omega
        refine ⟨_, .slice (some (if cap = l' then ⟨b, o, none⟩ else ⟨b, o + l' * ty.width, none⟩)) (h' - l') (cap - l'), h, ?_, ?_⟩
        · simp [Instr.slice, run_underlying hu, hr, hsz, add_lit]
          split <;> rfl
        · simp only [SV.rel, Ty.reads]
          have hlen : ((L.drop l').take (h' - l')).length = h' - l' := by simp; omega
          refine ⟨_, rfl, .inr (.inl ⟨b, if cap = l' then o else o + l' * ty.width, cap - l', arr, et, fz, ?_, by omega, h2, ?_⟩)⟩
          · rw [hlen]; split <;> rfl
          · intro i hi
            have hi' : i < h' - l' := by rw [hlen] at hi; exact hi
            have := h3 (l' + i) (by omega)
            rw [if_neg (by omega)]
            have e1 : o + l' * ty.width + i * ty.width = o + (l' + i) * ty.width := by rw [Nat.add_mul]; omega
            rw [e1]
            have e2 : ((L.drop l').take (h' - l'))[i] = L[l' + i]'(by omega) := by simp
            rw [e2]
            exact this
    · exact h.elim
  · exact h.elim
theorem xslice3_sound {t : TypeId} {x : SV} {vx : Value} {lo : Option Operand} {hi mx : Operand} {Q : SV → Prop} (hs : Sat E ρ H w) (hS : HeldBy E ρ S a) (hx : SV.rel E.Z ρ x vx)
    (h : (xslice3 P H S t x lo hi mx).Leads Q) : Yields P E ρ (Instr.slice t vx (lo.map a.eval) (some (a.eval hi)) (some (a.eval mx))) w Q := by
  unfold xslice3 at h
  split at h
  case h_2 => exact h.elim
  rename_i e h0 wd off len hu
  split at h
  case isFalse => exact h.elim
  rename_i hwd
  split at h
  case h_2 => exact h.elim
  rename_i et ty L hh
  split at h
  case h_2 => exact h.elim
  rename_i mn m hn h' ln l hbm hbh hbl
  obtain ⟨wm, wh, wl, h⟩ := h
  have hsz := run_szIs (w := w) hwd
  have key : ∀ (ad : Option Addr) (n cap : Nat), L.length - off ≤ cap → Yields P E ρ (Instr.slice t (.slice ad n cap) (lo.map a.eval) (some (a.eval hi)) (some (a.eval mx))) w Q := fun ad n cap hc => by
    have wm' : within mn cap := by
      cases mn with
      | none => trivial
      | some k => simp only [within] at *; omega
    have h1 := (bound_run (P := P) (w := w) (y := cap) (code := .slice3Acap) hS hbm wm').1
    have h2 := (bound_run (P := P) (w := w) (y := m) (code := .slice3B) hS hbh wh).1
    have h3 := bound_run (P := P) (w := w) (y := h') (code := .slice3C) hS hbl wl
    simp only [Option.map_some] at h1 h2
    have hb : (Instr.sliceBounds true n cap (lo.map a.eval) (some (a.eval hi)) (some (a.eval mx))).run P w = .ok (l, h', m) w := by
      unfold Instr.sliceBounds
      cases lo with
      | none => have e2 : l = 0 := h3.2.1 rfl; subst e2; simp [h1, h2]
      | some y =>
        have h4 := h3.1
        simp only [Option.map_some] at h4
        simp [h1, h2, h4]
    exact ⟨_, .slice (if m = l then ad else ad.map (·.add (l * wd))) (h' - l) (m - l), h, by simp [Instr.slice, run_underlying hu, hb, hsz], by simp only [SV.rel]⟩
  simp only [SV.rel] at hx
  rcases hx with ⟨h1, rfl, rfl, rfl⟩ | ⟨b, C, bs, cap, o, h1, rfl, h2, h3, h4⟩
  · rcases hs.row hh with ⟨_, rfl⟩ | ⟨b, C, bs, vs, h1', _⟩
    · exact key _ _ _ (by simp)
    · rw [h1] at h1'; cases h1'
  · rcases hs.row hh with ⟨h1', _⟩ | ⟨b', C', bs', vs, h1', h2', h3', h4', h5', h6'⟩
    · rw [h1] at h1'; cases h1'
    rw [h1] at h1'; injection h1' with h1'; injection h1' with e1 e2 e3; subst e1; subst e2; subst e3
    exact key _ _ _ (by omega)
end Sx
