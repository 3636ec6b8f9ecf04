/- A function's body, run. -/
import Derived.Test.YtgcbgenkbdoejaaSxK
namespace Sx
open Go

variable {P : Program} {E : Env} {ρ : Map} {S : Slots} {H : Heap} {a : Act} {w w' : World} {Z : Zone}

/-- What is known of a function that is called: a summary for a part of the blocks; one for all of them; one that is not written in Go. -/
inductive Entry : Type 1 where
  | go (s : Summ)
  | call (s : XSumm)
  | ext (s : XSumm)
abbrev Table := FuncId → Option Entry

/-- A function that is not written in Go. -/
def ExtOK (P : Program) (f : FuncId) (s : XSumm) : Prop :=
  ∀ (E : Env) (ρ : Map) (args : List SV) (H : Heap) (w : World) (vs : List Value) (Q : SV × Heap → Prop), Sat E ρ H w → SV.rels E.Z ρ args vs → (s args H).Leads Q →
    ∃ sv H' v w', Q (sv, H') ∧ (callFunc f vs.toArray).run P w = .ok (.value v) w' ∧ SV.rel E.Z ρ sv v ∧ Sat E ρ H' w' ∧ H'.length = H.length
def TableOK (P : Program) (T : Table) : Prop := ∀ f e, T f = some e → match e with
  | .go s => SummOK P f s
  | .call s => CallOK P f s
  | .ext s => ExtOK P f s

structure St where
  S : Slots
  H : Heap
  mv : List Nat

def setSlot (d : Nat) (v : SV) (S : Slots) : Slots := fun t => if Nat.beq t d then v else S t
theorem look_set {d : Nat} {v : SV} {S : Slots} {t : Nat} : look (setSlot d v S) t = if t = d then v else look S t := by
  simp only [look, setSlot]
  by_cases h : t = d
  · subst h; simp
  · rw [if_neg h, if_neg (fun e => h (Nat.eq_of_beq_eq_true e))]
def setDst (d : Option Nat) (v : SV) (S : Slots) : Slots := match d with
  | some d => setSlot d v S
  | none => S
def dstOK (d : Option Nat) (nt : Nat) : Bool := match d with
  | some d => Nat.blt d nt
  | none => true

structure Inv (E : Env) (n0 : Nat) (ρ0 : Map) (nt : Nat) (st : St) (a : Act) (w : World) (ρ : Map) : Prop where
  sat : Sat E ρ st.H w
  held : HeldBy E ρ st.S a
  size : a.tmps.size = nt
  defs : a.defers = []
  len : n0 ≤ st.H.length
  same : ∀ k, k < n0 → memN k st.mv = false → ρ k = ρ0 k

theorem getD_put {d t : Nat} {v : Value} (hd : d < a.tmps.size) : (a.put (some d) v).tmps.getD t undef = if t = d then v else a.tmps.getD t undef := by
  simp only [Act.put, Array.getD_eq_getD_getElem?, Array.getElem?_setIfInBounds]
  by_cases h : d = t
  · subst h; simp [hd]
  · simp [h, Ne.symm h]

theorem HeldBy.put {d : Option Nat} {v : Value} {sv : SV} {nt : Nat} (hS : HeldBy E ρ S a) (hd : dstOK d nt = true) (hn : a.tmps.size = nt) (hv : SV.rel E.Z ρ sv v) : HeldBy E ρ (setDst d sv S) (a.put d v) := by
  cases d with
  | none => exact hS
  | some d =>
    intro t
    have hlt : d < a.tmps.size := by rw [hn]; exact Nat.le_of_ble_eq_true hd
    simp only [setDst]
    rw [look_set, getD_put hlt]
    split
    · exact hv
    · exact hS t
theorem put_size {d : Option Nat} {v : Value} : (a.put d v).tmps.size = a.tmps.size := by cases d <;> simp [Act.put]
theorem put_defers {d : Option Nat} {v : Value} : (a.put d v).defers = a.defers := by cases d <;> rfl

theorem HeldBy.mono {ρ' : Map} (hS : HeldBy E ρ S a) (hl : Map.le ρ ρ') : HeldBy E ρ' S a := fun t => SV.rel_mono hl (hS t)

/-- Which function is called, with what behind its arguments. -/
def callee (v : SV) : Option (FuncId × List SV) := match v with
  | .lit (.func (.func g) ⟨[]⟩ ⟨[]⟩) => some (g, [])
  | .fn (.func g) cap => some (g, cap)
  | _ => none

/-- What a call leaves. -/
def xcall (T : Table) (f : FuncId) : XSumm := fun args H => match T f with
  | some (.go s) => lift s args H
  | some (.call s) => s args H
  | some (.ext s) => s args H
  | none => .fail

/-- What an operation yields, and the blocks behind it. -/
def xrun (T : Table) (P : Program) (S : Slots) (H : Heap) (op : Op) : Tree (SV × Heap) := match op with
  | .store t ad v => (xstore P H t (ev S ad) (ev S v)).bind fun H' => .ret (.lit (.tuple #[]), H')
  | .call { callee := .builtin .append, args, argTypes } => match args.toList, argTypes.toList with
    | [s, x], [t, u] => xappend P H t u (ev S s) (ev S x)
    | _, _ => .fail
  | .call { callee := .builtin .clear, args, argTypes } => match args.toList, argTypes.toList with
    | [s], [t] => (xclear P H t (ev S s)).bind fun H' => .ret (.lit (.tuple #[]), H')
    | _, _ => .fail
  | .call { callee := .value f, args, .. } => match callee (ev S f) with
    | some (g, cap) => xcall T g (args.toList.map (ev S) ++ cap) H
    | none => .fail
  | op => (xval P S H op).bind fun (sv, on) => .ret (sv, H ++ on.toList)

def stepOp (T : Table) (P : Program) (nt : Nat) (o : Oper) (st : St) : Tree St :=
  if dstOK o.dst nt then (xrun T P st.S st.H o.op).bind fun (sv, H') => .ret { S := setDst o.dst sv st.S, H := H', mv := st.mv } else .fail

theorem rels_map (hS : HeldBy E ρ S a) : ∀ l : List Operand, SV.rels E.Z ρ (l.map (ev S)) (l.map a.eval)
  | [] => by simp [SV.rels]
  | x :: l => rels_cons (ev_rel hS x) (rels_map hS l)

theorem callee_sound {v : SV} {vv : Value} {g : FuncId} {cap : List SV} (h : callee v = some (g, cap)) (hv : SV.rel Z ρ v vv) : ∃ vs : List Value, vv = .func (.func g) #[] vs.toArray ∧ SV.rels Z ρ cap vs := by
  unfold callee at h
  split at h
  · injection h with h; injection h with h1 h2; subst h1; subst h2
    have := rel_lit hv; subst this
    exact ⟨[], rfl, by simp [SV.rels]⟩
  · injection h with h; injection h with h1 h2; subst h1; subst h2
    simpa only [SV.rel] using hv
  · cases h

theorem memN_append {x : Nat} : ∀ {l r : List Nat}, memN x (l ++ r) = (memN x l || memN x r)
  | [], r => by simp [memN]
  | y :: l, r => by
    simp only [List.cons_append, memN, memN_append]
    split <;> simp

/-- ONE OPERATION. -/
theorem stepOp_sound {T : Table} {n0 nt : Nat} {ρ0 : Map} {o : Oper} {st : St} {Q : St → Prop} {next : Act → World → Prop} {Qx : Exit → Act → World → Prop}
    (hT : TableOK P T) (hi : Inv E n0 ρ0 nt st a w ρ) (h : (stepOp T P nt o st).Leads Q)
    (hk : ∀ st' a' w' ρ', Q st' → Inv E n0 ρ0 nt st' a' w' ρ' → next a' w') : o.wp P a w next Qx := by
  unfold stepOp at h
  split at h
  case isFalse => exact h.elim
  rename_i hd
  rw [Tree.leads_bind] at h
  have plain : ((xval P st.S st.H o.op).bind fun (sv, on) => Tree.ret (sv, st.H ++ on.toList)).Leads (fun r => (Tree.ret { S := setDst o.dst r.1 st.S, H := r.2, mv := st.mv : St }).Leads Q) → o.wp P a w next Qx := fun h => by
    rw [Tree.leads_bind] at h
    obtain ⟨sv, on, v, w1, hq, hr, hm⟩ := xval_sound (P := P) hi.sat hi.held h
    obtain ⟨ρ', hle, hs', hrel, hkp⟩ := hi.sat.made hm
    unfold Oper.wp
    rw [hr, Oper.upon_value]
    refine hk _ _ _ ρ' hq ⟨hs', (hi.held.mono hle).put hd hi.size hrel, by rw [put_size]; exact hi.size, by rw [put_defers]; exact hi.defs, ?_, fun k hk hm => ?_⟩
    · simp; have := hi.len; omega
    · rw [hkp k (Nat.lt_of_lt_of_le hk hi.len)]; exact hi.same k hk hm
  unfold xrun at h
  split at h
  · -- store
    rename_i t ad v hop
    rw [Tree.leads_bind] at h
    obtain ⟨H', w1, hq, hr, hs', hl⟩ := xstore_sound hi.sat (ev_rel hi.held ad) (ev_rel hi.held v) h
    unfold Oper.wp
    have he : (execOp a.eval o).run P w = .ok .skip w1 := by
      simp only [execOp, hop]; simp [hr]
    rw [he, Oper.upon_skip]
    exact hk _ _ _ ρ hq ⟨hs', hi.held.put hd hi.size (by simp [SV.rel, undef]), by rw [put_size]; exact hi.size, by rw [put_defers]; exact hi.defs, by rw [hl]; exact hi.len, hi.same⟩
  · -- append
    rename_i args argTypes hop
    split at h
    case h_2 => exact h.elim
    rename_i s x t u he1 he2
    obtain rfl : args = #[s, x] := by apply Array.ext'; simpa using he1
    obtain rfl : argTypes = #[t, u] := by apply Array.ext'; simpa using he2
    obtain ⟨sv, H', v, w1, ρ', hq, hr, hrel, hs', hle, hkp, hlen⟩ := xappend_sound (ty0 := o.type) hi.sat (ev_rel hi.held s) (ev_rel hi.held x) h
    unfold Oper.wp
    have he : (execOp a.eval o).run P w = .ok (.value v) w1 := by
      simp only [execOp, hop]; simp [resolve, invoke, builtin, hr]
    rw [he, Oper.upon_value]
    refine hk _ _ _ ρ' hq ⟨hs', (hi.held.mono hle).put hd hi.size hrel, by rw [put_size]; exact hi.size, by rw [put_defers]; exact hi.defs, by have := hi.len; simp; omega, fun k hk hm => ?_⟩
    rw [hkp k (Nat.lt_of_lt_of_le hk hi.len)]; exact hi.same k hk hm
  · -- clear
    rename_i args argTypes hop
    split at h
    case h_2 => exact h.elim
    rename_i s t he1 he2
    obtain rfl : args = #[s] := by apply Array.ext'; simpa using he1
    obtain rfl : argTypes = #[t] := by apply Array.ext'; simpa using he2
    rw [Tree.leads_bind] at h
    obtain ⟨H', w1, hq, hr, hs', hlen⟩ := xclear_sound (ty0 := o.type) hi.sat (ev_rel hi.held s) h
    unfold Oper.wp
    have he : (execOp a.eval o).run P w = .ok (.value (.tuple #[])) w1 := by
      simp only [execOp, hop]; simp [resolve, invoke, builtin, hr]
    rw [he, Oper.upon_value]
    exact hk _ _ _ ρ hq ⟨hs', hi.held.put hd hi.size (by simp [SV.rel]), by rw [put_size]; exact hi.size, by rw [put_defers]; exact hi.defs, by rw [hlen]; exact hi.len, hi.same⟩
  · -- a call
    rename_i f args argTypes hop
    split at h
    case h_2 => exact h.elim
    rename_i g cap hc
    obtain ⟨vs, hfv, hcap⟩ := callee_sound hc (ev_rel hi.held f)
    have hargs : SV.rels E.Z ρ (args.toList.map (ev st.S) ++ cap) (args.toList.map a.eval ++ vs) := rels_append (rels_map hi.held _) hcap
    have he : (execOp a.eval o).run P w = (callFunc g (args.toList.map a.eval ++ vs).toArray).run P w := by
      simp only [execOp, hop]
      have e : args.map a.eval ++ vs.toArray = (args.toList.map a.eval ++ vs).toArray := by rw [args_map]; simp
      simp [resolve, invoke, hfv, Deferred.ofValue, ← e]
    have enter : ∀ s, CallOK P g s → (s (args.toList.map (ev st.S) ++ cap) st.H).Leads (fun r => (Tree.ret { S := setDst o.dst r.1 st.S, H := r.2, mv := st.mv : St }).Leads Q) → o.wp P a w next Qx := fun s hok h => by
      unfold Oper.wp
      rw [he, hok.1, Oper.upon_enter]
      refine (hok.2 E ρ _ _ w _ _ hi.sat hargs h).mono ?_
      rintro e w1 ⟨ρ', sv, H', v, hq, rfl, hrel, hs', hlen, hkeep⟩
      have hle : Map.le ρ ρ' := fun k x hx => by
        rcases Nat.lt_or_ge k st.H.length with h1 | h1
        · rw [hkeep _ h1]; exact hx
        · rw [hi.sat.free _ h1] at hx; cases hx
      refine hk _ _ _ ρ' hq ⟨hs', (hi.held.mono hle).put hd hi.size hrel, by rw [put_size]; exact hi.size, by rw [put_defers]; exact hi.defs, by have := hi.len; simp; omega, fun k hk hm => ?_⟩
      rw [hkeep k (Nat.lt_of_lt_of_le hk hi.len)]
      exact hi.same k hk hm
    unfold xcall at h
    split at h
    · rename_i s hTs
      exact enter _ (lift_sound (hT _ _ hTs)) h
    · rename_i s hTs
      exact enter _ (hT _ _ hTs) h
    · rename_i s hTs
      have hok := hT _ _ hTs
      obtain ⟨sv, H', v, w1, hq, hr, hrel, hs', hl⟩ := hok E ρ _ _ w _ _ hi.sat hargs h
      unfold Oper.wp
      rw [he, hr, Oper.upon_value]
      exact hk _ _ _ ρ hq ⟨hs', hi.held.put hd hi.size hrel, by rw [put_size]; exact hi.size, by rw [put_defers]; exact hi.defs, by rw [hl]; exact hi.len, hi.same⟩
    · exact h.elim
  · exact plain h
end Sx
