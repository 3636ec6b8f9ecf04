/- Tables of what is known of functions, and summaries off bodies. -/
import Derived.Test.YtlcobcpgaoeijaaGreatSxQ
set_option linter.unusedVariables false
set_option linter.unusedSimpArgs false
namespace Sx
open Go
variable {P : Program}
def Table.none : Table := fun _ => Option.none
def Table.add (T : Table) (f : FuncId) (e : Entry) : Table := fun g => if Nat.beq g f then some e else T g
def EntryOK (P : Program) (f : FuncId) (e : Entry) (m : Bool := false) : Prop := match e with
  | .go s => SummOK P f s
  | .god s => SummOK P f s ∧ SummD P f s
  | .call s => CallOK P f s
  | .ext s => ExtOK P f s
  | .bye s => m = true ∧ ByeOK P f s
  | .thaw => m = true
theorem none_ok : TableOK P Table.none := fun f e h => by cases h
theorem add_ok {T : Table} {m : Bool} {f : FuncId} {e : Entry} (hT : TableOK P T m) (h : EntryOK P f e m) : TableOK P (T.add f e) m := fun g e' hg => by
  unfold Table.add at hg
  split at hg
  · rename_i hb
    have := Nat.eq_of_beq_eq_true hb; subst this
    injection hg with hg; subst hg
    exact h
  · exact hT g e' hg
def Table.exact (T : Table) (t : TypeId) : Table := T.add (1000000 + t) (.ext fun _ _ => .fail)
theorem exact_ok {T : Table} {t : TypeId} (hT : TableOK P T) : TableOK P (T.exact t) := add_ok hT fun _ _ _ _ _ _ _ _ _ h => h.elim
def Table.frozen (T : Table) (t : TypeId) : Table := T.add (2000000 + t) (.ext fun _ _ => .fail)
theorem frozen_ok {T : Table} {t : TypeId} (hT : TableOK P T) : TableOK P (T.frozen t) := add_ok hT fun _ _ _ _ _ _ _ _ _ h => h.elim
def Table.deeds (T : Table) (t : TypeId) : Table := T.add (5000000 + t) (.ext fun _ _ => .fail)
theorem deeds_ok {T : Table} {t : TypeId} (hT : TableOK P T) : TableOK P (T.deeds t) := add_ok hT (fun _ _ _ _ _ _ _ _ _ h => by simp only [Tree.Leads] at h)
def noAn : Nat → Option Ann := fun _ => Option.none
def An1 (id : Nat) (A : Ann) : Nat → Option Ann := fun k => if Nat.beq k id then some A else Option.none
def An2 (id : Nat) (A : Ann) (id2 : Nat) (B : Ann) : Nat → Option Ann := fun k => if Nat.beq k id then some A else if Nat.beq k id2 then some B else Option.none
def An3 (id : Nat) (A : Ann) (id2 : Nat) (B : Ann) (id3 : Nat) (C : Ann) : Nat → Option Ann := fun k => if Nat.beq k id then some A else if Nat.beq k id2 then some B else if Nat.beq k id3 then some C else Option.none
theorem summ_of_body {T : Table} {f : FuncId} {fn : Func} {c : Code} {s : Summ} (hT : TableOK P T) (hf : P.funcs[f]? = some fn) (hb : fn.body = some c) (hname : (fn.name == "runtime.NumGoroutine") = false)
    (h : ∀ args H Q, (s args H).Leads Q → ∃ An, (bodySumm T P fn An args H).Leads Q) : SummOK P f s := by
  refine ⟨(bodySumm_sound (An := noAn) hT hf hb hname).1, fun E ρ args H w vs Q hs ha hl => ?_⟩
  obtain ⟨An, hl⟩ := h args H Q hl
  exact (bodySumm_sound (An := An) hT hf hb hname).2 E ρ args H w vs Q hs ha hl
theorem summd_of_body {T : Table} {f : FuncId} {fn : Func} {c : Code} {s : Summ} (hT : TableOK P T) (hf : P.funcs[f]? = some fn) (hb : fn.body = some c) (hname : (fn.name == "runtime.NumGoroutine") = false)
    (h : ∀ args H Q, (s args H).Leads Q → ∃ An, (bodySummD T P fn An args H).Leads Q) : SummOK P f s ∧ SummD P f s := by
  refine ⟨⟨(bodySumm_sound (An := noAn) hT hf hb hname).1, fun E ρ args H w vs Q hs ha hl => ?_⟩, fun E ρ args H w vs Q u hs ha hl => ?_⟩
  · obtain ⟨An, hl⟩ := h args H Q hl
    exact (bodySummD_sound (An := An) hT hf hb hname).1.2 E ρ args H w vs Q hs ha hl
  · obtain ⟨An, hl⟩ := h args H Q hl
    exact (bodySummD_sound (An := An) hT hf hb hname).2 E ρ args H w vs Q u hs ha hl
theorem summ_mv {f : FuncId} {s s' : Summ} (hs : SummOK P f s) (h : ∀ args H Q, (s' args H).Leads Q → (s args H).Leads fun r => ∃ mv, (∀ k, k < H.length → memN k mv = false → memN k r.2.2 = false) ∧ Q (r.1, r.2.1, mv)) : SummOK P f s' := by
  refine ⟨hs.1, fun E ρ args H w vs Q hsat ha hl => (hs.2 E ρ args H w vs _ hsat ha (h args H Q hl)).mono ?_⟩
  rintro e w1 ⟨E', ρ', sv, H', mv, v, ⟨mv', h1, hq⟩, he, hE, hr, hs', hlen, hk⟩
  exact ⟨E', ρ', sv, H', mv', v, hq, he, hE, hr, hs', hlen, fun k hk1 hk2 => hk k hk1 (h1 k hk1 hk2)⟩
theorem summ_of_body_mv {T : Table} {f : FuncId} {fn : Func} {c : Code} {s : Summ} (hT : TableOK P T) (hf : P.funcs[f]? = some fn) (hb : fn.body = some c) (hname : (fn.name == "runtime.NumGoroutine") = false)
    (h : ∀ args H Q, (s args H).Leads Q → ∃ An, (bodySumm T P fn An args H).Leads fun r => ∃ mv, (∀ k, k < H.length → memN k mv = false → memN k r.2.2 = false) ∧ Q (r.1, r.2.1, mv)) : SummOK P f s := by
  refine ⟨(bodySumm_sound (An := noAn) hT hf hb hname).1, fun E ρ args H w vs Q hsat ha hl => ?_⟩
  obtain ⟨An, hl⟩ := h args H Q hl
  refine ((bodySumm_sound (An := An) hT hf hb hname).2 E ρ args H w vs _ hsat ha hl).mono ?_
  rintro e w1 ⟨E', ρ', sv, H', mv, v, ⟨mv', h1, hq⟩, he, hE, hr, hs', hlen, hk⟩
  exact ⟨E', ρ', sv, H', mv', v, hq, he, hE, hr, hs', hlen, fun k hk1 hk2 => hk k hk1 (h1 k hk1 hk2)⟩
theorem summ_or {f : FuncId} {s s1 s2 : Summ} (h1 : SummOK P f s1) (h2 : SummOK P f s2) (h : ∀ args H Q, (s args H).Leads Q → (s1 args H).Leads Q ∨ (s2 args H).Leads Q) : SummOK P f s := by
  refine ⟨h1.1, fun E ρ args H w vs Q hsat ha hl => ?_⟩
  rcases h args H Q hl with h | h
  · exact h1.2 E ρ args H w vs Q hsat ha h
  · exact h2.2 E ρ args H w vs Q hsat ha h
def inlSumm (T : Table) (P : Program) (fn : Func) : XSumm := fun args H => match fn.body with
  | some c => if Nat.ble args.length fn.ntmps then
      (xcode T P args H.length fn.ntmps noAn none c { S := slotsFrom 0 args, H := H, mv := [], df := [] }).bind fun (e, st) => match e with
        | .exit _ => .fail
        | _ => match st.mv with
          | [] => if noDf st then (xres P st fn.results.toList).bind fun l => forceH st.H fun H' => .ret (oneOf l, H') else .fail
          | _ => .fail
    else .fail
  | none => .fail
theorem inlSumm_sound {T : Table} {f : FuncId} {fn : Func} {c : Code} (hT : TableOK P T) (hf : P.funcs[f]? = some fn) (hb : fn.body = some c) (hname : (fn.name == "runtime.NumGoroutine") = false) : CallOK P f (inlSumm T P fn) := by
  refine ⟨(bodySumm_sound (An := noAn) hT hf hb hname).1, fun E ρ args H w vs Q hs hargs h => ?_⟩
  unfold inlSumm at h
  rw [hb] at h
  dsimp only at h
  split at h
  case isFalse => exact h.elim
  rename_i hle
  have hle := Nat.le_of_ble_eq_true hle
  rw [Tree.leads_bind] at h
  refine calls_of_wp hf hb (body_wp (E := { E with bye := false }) hT hle hs.setBye hargs h fun e st' a' w' ρ' hq hi' => ?_)
  have fin : (match st'.mv with
      | [] => if noDf st' then (xres P st' fn.results.toList).bind fun l => forceH st'.H fun H' => Tree.ret (oneOf l, H') else .fail
      | _ => Tree.fail : Tree (SV × Heap)).Leads Q → a'.defers = [] ∧ ∃ v, (results fn a'.tmps).run P w' = .ok v w' ∧ PostC E ρ H Q (.returned v) w' := fun hq => by
    split at hq
    case h_2 => exact hq.elim
    rename_i hmv
    split at hq
    case isFalse => exact hq.elim
    rename_i hn
    obtain ⟨E1, hE, hi'⟩ := hi'
    have hd : a'.defers = [] := by
      have := hi'.defs
      rw [noDf_nil hn] at this
      exact this
    rw [Tree.leads_bind] at hq
    obtain ⟨l, us, hq, hr, hrun⟩ := results_sound (P := P) hi'.sat hi'.held hq
    rw [forceH_eq] at hq
    have h1 : SV.rel E1.Z ρ' (oneOf l) (if h : us.length = 1 then us[0] else .tuple us.toArray) := by
      have hl := rels_length hr
      unfold oneOf
      split
      · obtain ⟨v, r, rfl, g1, g2⟩ := rels_head hr
        simp only [SV.rels] at g2; subst g2
        simpa using g1
      · rename_i hno
        have : us.length ≠ 1 := fun e => by
          rw [hl] at e
          match l, e with
          | [v], _ => exact hno v rfl
        rw [dif_neg this]
        simp only [SV.rel]
        exact ⟨us, rfl, hr⟩
    exact ⟨hd, _, hrun, E1, ρ', _, _, _, hq, rfl, (by have := hE.1 rfl; exact ⟨this.z, this.f, this.new, this.zold, this.os, this.tape, this.output, this.tk⟩), h1, hi'.sat, hi'.len, fun k hk => hi'.same k hk (by rw [hmv]; rfl)⟩
  cases e with
  | normal => exact fin hq
  | exit k => exact hq.elim
  | ret => exact fin hq
end Sx
