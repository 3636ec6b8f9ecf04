/- A function's body, run. -/
import Derived.Test.YtlcobcpgaoeijaaSxK
namespace Sx
open Go

variable {P : Program} {E : Env} {ρ : Map} {S : Slots} {H : Heap} {a : Act} {w w' : World} {Z : Zone}

/-- What is known of a function that is called: a summary for a part of the blocks; one for all of them; one that is not written in Go. -/
inductive Entry : Type 1 where
  | go (s : Summ)
  | god (s : Summ)
  | call (s : XSumm)
  | ext (s : XSumm)
abbrev Table := FuncId → Option Entry

/-- A function that is not written in Go. -/
def ExtOK (P : Program) (f : FuncId) (s : XSumm) : Prop :=
  ∀ (E : Env) (ρ : Map) (args : List SV) (H : Heap) (w : World) (vs : List Value) (Q : SV × Heap → Prop), Sat E ρ H w → SV.rels E.Z ρ args vs → (s args H).Leads Q →
    ∃ sv H' v w', Q (sv, H') ∧ (callFunc f vs.toArray).run P w = .ok (.value v) w' ∧ SV.rel E.Z ρ sv v ∧ Sat E ρ H' w' ∧ H'.length = H.length
def TableOK (P : Program) (T : Table) : Prop := ∀ f e, T f = some e → match e with
  | .go s => SummOK P f s
  | .god s => SummOK P f s ∧ SummD P f s
  | .call s => CallOK P f s
  | .ext s => ExtOK P f s

structure St where
  S : Slots
  H : Heap
  mv : List Nat
  df : List (FuncId × List SV)

def setSlot (d : Nat) (v : SV) (S : Slots) : Slots := fun t => if Nat.beq t d then v else S t
theorem look_set {d : Nat} {v : SV} {S : Slots} {t : Nat} : look (setSlot d v S) t = if t = d then v else look S t := by
  simp only [look, setSlot]
  by_cases h : t = d
  · subst h; simp
  · rw [if_neg h, if_neg (fun e => h (Nat.eq_of_beq_eq_true e))]
def setDst (d : Option Nat) (v : SV) (S : Slots) : Slots := match d with
  | some d => setSlot d v S
  | none => S
def dstOK (d : Option Nat) (nt : Nat) : Bool := match d with
  | some d => Nat.blt d nt
  | none => true

/-- The calls that are deferred. -/
def DefsRel (Z : Zone) (ρ : Map) : List (FuncId × List SV) → List Deferred → Prop
  | [], ds => ds = []
  | (g, args) :: r, ds => ∃ cap dargs rest vs, ds = { target := .fn (.func g) cap, args := dargs } :: rest ∧ dargs ++ cap = vs.toArray ∧ SV.rels Z ρ args vs ∧ DefsRel Z ρ r rest
theorem DefsRel.mono {Z Z' : Zone} {ρ ρ' : Map} (hz : ∀ b o, Z b = some o → Z' b = some o) (hl : Map.le ρ ρ') : ∀ {df : List (FuncId × List SV)} {ds : List Deferred}, DefsRel Z ρ df ds → DefsRel Z' ρ' df ds
  | [], _, h => h
  | (g, args) :: r, ds, h => by
    obtain ⟨cap, dargs, rest, vs, h1, h2, h3, h4⟩ := h
    exact ⟨cap, dargs, rest, vs, h1, h2, SV.rels_zone hz (SV.rels_mono hl h3), DefsRel.mono hz hl h4⟩

structure InvAt (E : Env) (n0 : Nat) (ρ0 : Map) (nt : Nat) (st : St) (a : Act) (w : World) (ρ : Map) : Prop where
  sat : Sat E ρ st.H w
  held : HeldBy E ρ st.S a
  size : a.tmps.size = nt
  defs : DefsRel E.Z ρ st.df a.defers
  len : n0 ≤ st.H.length
  same : ∀ k, k < n0 → memN k st.mv = false → ρ k = ρ0 k
def Inv (E : Env) (n0 : Nat) (ρ0 : Map) (nt : Nat) (st : St) (a : Act) (w : World) (ρ : Map) : Prop := ∃ E', Env.le E E' ∧ InvAt E' n0 ρ0 nt st a w ρ

theorem getD_put {d t : Nat} {v : Value} (hd : d < a.tmps.size) : (a.put (some d) v).tmps.getD t undef = if t = d then v else a.tmps.getD t undef := by
  simp only [Act.put, Array.getD_eq_getD_getElem?, Array.getElem?_setIfInBounds]
  by_cases h : d = t
  · subst h; simp [hd]
  · simp [h, Ne.symm h]

theorem HeldBy.put {d : Option Nat} {v : Value} {sv : SV} {nt : Nat} (hS : HeldBy E ρ S a) (hd : dstOK d nt = true) (hn : a.tmps.size = nt) (hv : SV.rel E.Z ρ sv v) : HeldBy E ρ (setDst d sv S) (a.put d v) := by
  cases d with
  | none => exact hS
  | some d =>
    intro t
    have hlt : d < a.tmps.size := by rw [hn]; exact Nat.le_of_ble_eq_true hd
    simp only [setDst]
    rw [look_set, getD_put hlt]
    split
    · exact hv
    · exact hS t
theorem put_size {d : Option Nat} {v : Value} : (a.put d v).tmps.size = a.tmps.size := by cases d <;> simp [Act.put]
theorem put_defers {d : Option Nat} {v : Value} : (a.put d v).defers = a.defers := by cases d <;> rfl

theorem HeldBy.zone {E' : Env} (hS : HeldBy E ρ S a) (hz : ∀ b o, E.Z b = some o → E'.Z b = some o) : HeldBy E' ρ S a := fun t => SV.rel_zone hz (hS t)
theorem HeldBy.mono {ρ' : Map} (hS : HeldBy E ρ S a) (hl : Map.le ρ ρ') : HeldBy E ρ' S a := fun t => SV.rel_mono hl (hS t)

/-- Which function is called, with what behind its arguments. -/
def callee (v : SV) : Option (FuncId × List SV) := match v with
  | .lit (.func (.func g) ⟨[]⟩ ⟨[]⟩) => some (g, [])
  | .fn (.func g) pre => some (g, pre)
  | _ => none

/-- What a call leaves. -/
def xcall (T : Table) (f : FuncId) : XSumm := fun args H => match T f with
  | some (.go s) => lift s args H
  | some (.god s) => lift s args H
  | some (.call s) => s args H
  | some (.ext s) => s args H
  | none => .fail

/-- What an operation yields, and the blocks behind it. -/
def xrun (T : Table) (P : Program) (S : Slots) (H : Heap) (op : Op) : Tree (SV × Heap) := match op with
  | .store t ad v => (xstore P H t (ev S ad) (ev S v)).bind fun H' => .ret (.lit (.tuple #[]), H')
  | .call { callee := .builtin .append, args, argTypes } => match args.toList, argTypes.toList with
    | [s, x], [t, u] => match T (1000000 + t) with
      | some _ => xappendX P H t u (ev S s) (ev S x)
      | none => xappend P H t u (ev S s) (ev S x)
    | _, _ => .fail
  | .call { callee := .builtin .clear, args, argTypes } => match args.toList, argTypes.toList with
    | [s], [t] => (xclear P H t (ev S s)).bind fun H' => .ret (.lit (.tuple #[]), H')
    | _, _ => .fail
  | .call { callee := .value f, args, .. } => match callee (ev S f) with
    | some (g, cap) => xcall T g (cap ++ args.toList.map (ev S)) H
    | none => .fail
  | op => (xval P S H op).bind fun (sv, on) => .ret (sv, H ++ on.toList)

/-- A slice of a row that is let go: it is data from now on. -/
def freezeV (H : Heap) : SV → Tree (SV × Heap)
  | .sl h wd off len => match H[h]? with
    | some (.row _ ty L) => if Nat.beq wd ty.width then .need (off + len ≤ L.length) (.ret (.imm ty ((L.drop off).take len), H.set h .dead)) else .fail
    | _ => .fail
  | v => .ret (v, H)
def freezeVs : List SV → Heap → Tree (List SV × Heap)
  | [], H => .ret ([], H)
  | v :: r, H => (freezeV H v).bind fun (v', H') => (freezeVs r H').bind fun (r', H'') => .ret (v' :: r', H'')
def freezeT (t : Nat) (st : St) : Tree St := match look st.S t with
  | .agg cs => (freezeVs cs st.H).bind fun (cs', H') => .ret { S := setSlot t (.agg cs') st.S, H := H', mv := st.mv, df := st.df }
  | v => (freezeV st.H v).bind fun (v', H') => .ret { S := setSlot t v' st.S, H := H', mv := st.mv, df := st.df }
def freezeOps : List (Nat × Operand) → St → Tree St
  | [], st => .ret st
  | (_, .tmp t) :: r, st => (freezeT t st).bind (freezeOps r)
  | (_, _) :: r, st => freezeOps r st

def stepOp0 (T : Table) (P : Program) (nt : Nat) (o : Oper) (st : St) : Tree St :=
  if dstOK o.dst nt then (xrun T P st.S st.H o.op).bind fun (sv, H') => .ret { S := setDst o.dst sv st.S, H := H', mv := st.mv, df := st.df } else .fail
def stepOp (T : Table) (P : Program) (nt : Nat) (o : Oper) (st : St) : Tree St := match o.op with
  | .buildSlice t n ps => match xbuildSlice P st.S t n ps.toList with
    | some _ => stepOp0 T P nt o st
    | none => (freezeOps ps.toList st).bind (stepOp0 T P nt o)
  | .box t x => match T (2000000 + t) with
    | some _ => (freezeOps [(0, x)] st).bind (stepOp0 T P nt o)
    | none => stepOp0 T P nt o st
  | .defer { callee := .value f, args, .. } => if dstOK o.dst nt then match callee (ev st.S f) with
    | some (g, cap) => .ret { S := setDst o.dst (.lit undef) st.S, H := st.H, mv := st.mv, df := (g, cap ++ args.toList.map (ev st.S)) :: st.df }
    | none => .fail
    else .fail
  | _ => stepOp0 T P nt o st

theorem rels_map (hS : HeldBy E ρ S a) : ∀ l : List Operand, SV.rels E.Z ρ (l.map (ev S)) (l.map a.eval)
  | [] => by simp [SV.rels]
  | x :: l => rels_cons (ev_rel hS x) (rels_map hS l)

theorem callee_sound {v : SV} {vv : Value} {g : FuncId} {cap : List SV} (h : callee v = some (g, cap)) (hv : SV.rel Z ρ v vv) : ∃ vs : List Value, vv = .func (.func g) vs.toArray #[] ∧ SV.rels Z ρ cap vs := by
  unfold callee at h
  split at h
  · injection h with h; injection h with h1 h2; subst h1; subst h2
    have := rel_lit hv; subst this
    exact ⟨[], rfl, by simp [SV.rels]⟩
  · injection h with h; injection h with h1 h2; subst h1; subst h2
    simpa only [SV.rel] using hv
  · cases h

theorem memN_append {x : Nat} : ∀ {l r : List Nat}, memN x (l ++ r) = (memN x l || memN x r)
  | [], r => by simp [memN]
  | y :: l, r => by
    simp only [List.cons_append, memN, memN_append]
    split <;> simp

theorem reads_slice {Z : Zone} {ρ : Map} {h wd off len : Nat} {et : TypeId} {ty : Ty} {L : List ty.den} {v : Value} {b C : Nat} {vs : Array Value} (hr : SV.rel Z ρ (.sl h wd off len) v) (hb : ρ h = some (.at b C)) (hw : wd = ty.width)
    (hZ : Z b = some (.cells vs et (0, 0))) (hl : ty.lies Z L vs.toList 0) (hn : off + len ≤ L.length) : SV.rel Z ρ (.imm ty ((L.drop off).take len)) v := by
  have hlen : ((L.drop off).take len).length = len := by rw [List.length_take, List.length_drop]; omega
  simp only [SV.rel] at hr ⊢
  rcases hr with ⟨h1, _⟩ | ⟨b', C', cap, o, h1, h2, h3, h4, h5⟩
  · rw [hb] at h1; cases h1
  · rw [hb] at h1; injection h1 with h1; injection h1 with h1 h1'; subst h1
    refine ⟨v, rfl, ?_⟩
    by_cases hc : cap = 0
    · have : len = 0 := by omega
      refine .inr (.inr ⟨List.eq_nil_of_length_eq_zero (by omega), ⟨b, o, none⟩, cap, ?_⟩)
      rw [h2, this]
    · have ho : o = off * wd := h5.resolve_left hc
      refine .inr (.inl ⟨b, o, cap, vs, et, (0, 0), by rw [hlen]; exact h2, by omega, hZ, fun i hi => ?_⟩)
      have hi' : off + i < L.length := by omega
      have := hl (off + i) hi'
      have e1 : ((L.drop off).take len)[i] = L[off + i] := by simp
      rw [e1, ho, hw]
      have e2 : 0 + (off + i) * ty.width = off * ty.width + i * ty.width := by rw [Nat.zero_add, Nat.add_mul]
      rw [← e2]; exact this

theorem freezeV_sound {E : Env} {ρ : Map} {H : Heap} {w : World} {s : SV} {v : Value} {Q : SV × Heap → Prop} (hs : Sat E ρ H w) (hv : SV.rel E.Z ρ s v) (h : (freezeV H s).Leads Q) :
    ∃ E' s' H', Q (s', H') ∧ Env.le E E' ∧ Sat E' ρ H' w ∧ SV.rel E'.Z ρ s' v ∧ H'.length = H.length := by
  unfold freezeV at h
  split at h
  · rename_i hd wd off len
    split at h
    case h_2 => exact h.elim
    rename_i et ty L ho
    split at h
    case isFalse => exact h.elim
    rename_i hw
    have hw := Nat.eq_of_beq_eq_true hw
    obtain ⟨hn, hq⟩ := h
    have hob := hs.objs _ _ ho
    simp only [SO.rel] at hob
    rcases hob with ⟨h1, h2⟩ | ⟨b, C, vs, h1, h2, h3, h4, h5, h6⟩
    · have hv0 := hv
      simp only [SV.rel] at hv0
      rcases hv0 with ⟨_, g2, g3, g4⟩ | ⟨b, C, cap, o, g1, _⟩
      · refine ⟨E, _, _, hq, Env.le_refl E, ?_, ?_, by simp⟩
        · refine ⟨hs.os, hs.tape, hs.output, fun k hk => hs.free k (by simpa using hk), fun k o hk => ?_, fun k k' o o' c C1 C2 hk hk' hl hl' hb1 hb2 => ?_, hs.zle, hs.keep, fun k o c C1 hk hl hb1 => ?_⟩
          · by_cases e : k = hd
            · subst e
              rw [List.getElem?_set_self (List.getElem?_eq_some_iff.1 ho).1] at hk
              injection hk with hk; subst hk; trivial
            · rw [List.getElem?_set_ne (Ne.symm e)] at hk; exact hs.objs _ _ hk
          · have get : ∀ k (o : SO), (H.set hd .dead)[k]? = some o → o.live = true → H[k]? = some o := fun k o hk hl => by
              by_cases e : k = hd
              · subst e
                rw [List.getElem?_set_self (List.getElem?_eq_some_iff.1 ho).1] at hk
                injection hk with hk; subst hk; cases hl
              · rwa [List.getElem?_set_ne (Ne.symm e)] at hk
            exact hs.inj _ _ _ _ _ _ _ (get _ _ hk hl) (get _ _ hk' hl') hl hl' hb1 hb2
          · by_cases e : k = hd
            · subst e
              rw [List.getElem?_set_self (List.getElem?_eq_some_iff.1 ho).1] at hk
              injection hk with hk; subst hk; cases hl
            · rw [List.getElem?_set_ne (Ne.symm e)] at hk; exact hs.apart _ _ _ _ hk hl hb1
        · simp only [SV.rel]
          refine ⟨v, rfl, .inl ⟨?_, g4⟩⟩
          rw [h2]; simp
      · rw [h1] at g1; cases g1
    · obtain ⟨E', hle, hZ, hs'⟩ := hs.freeze ho h1 h2
      exact ⟨E', _, _, hq, hle, hs', reads_slice (SV.rel_zone hle.z hv) h1 hw hZ (Ty.lies_zone hle.z h6) hn, by simp⟩
  · exact ⟨E, _, _, h, Env.le_refl E, hs, hv, rfl⟩
theorem freezeVs_sound {ρ : Map} {w : World} : ∀ {ss : List SV} {vs : List Value} {E : Env} {H : Heap} {Q : List SV × Heap → Prop}, Sat E ρ H w → SV.rels E.Z ρ ss vs → (freezeVs ss H).Leads Q →
    ∃ E' ss' H', Q (ss', H') ∧ Env.le E E' ∧ Sat E' ρ H' w ∧ SV.rels E'.Z ρ ss' vs ∧ H'.length = H.length
  | [], vs, E, H, Q, hs, hv, h => ⟨E, [], H, h, Env.le_refl E, hs, hv, rfl⟩
  | s :: r, vs, E, H, Q, hs, hv, h => by
    unfold freezeVs at h
    rw [Tree.leads_bind] at h
    obtain ⟨v, vr, rfl, h1, h2⟩ := rels_head hv
    obtain ⟨E1, s', H1, hq, hle, hs1, hr1, hl1⟩ := freezeV_sound hs h1 h
    dsimp only at hq
    rw [Tree.leads_bind] at hq
    obtain ⟨E2, r', H2, hq2, hle2, hs2, hr2, hl2⟩ := freezeVs_sound hs1 (SV.rels_zone hle.z h2) hq
    exact ⟨E2, _, _, hq2, Env.le_trans hle hle2, hs2, rels_cons (SV.rel_zone hle2.z hr1) hr2, by rw [hl2, hl1]⟩

theorem InvAt.retold {n0 nt : Nat} {ρ0 : Map} {st : St} {E' : Env} {H' : Heap} {t : Nat} {v : SV} (hi : InvAt E n0 ρ0 nt st a w ρ) (hle : Env.le E E') (hs : Sat E' ρ H' w) (hr : SV.rel E'.Z ρ v (a.tmps.getD t undef)) (hl : H'.length = st.H.length) :
    InvAt E' n0 ρ0 nt { S := setSlot t v st.S, H := H', mv := st.mv, df := st.df } a w ρ := by
  refine ⟨hs, fun k => ?_, hi.size, hi.defs.mono hle.z (Map.le_refl _), by rw [hl]; exact hi.len, hi.same⟩
  rw [look_set]
  split
  · rename_i e; subst e; exact hr
  · exact SV.rel_zone hle.z (hi.held k)
theorem freezeT_sound {n0 nt : Nat} {ρ0 : Map} {st : St} {t : Nat} {Q : St → Prop} (hi : Inv E n0 ρ0 nt st a w ρ) (h : (freezeT t st).Leads Q) : ∃ st', Q st' ∧ Inv E n0 ρ0 nt st' a w ρ := by
  obtain ⟨E1, hE, hi⟩ := hi
  unfold freezeT at h
  have ht := hi.held t
  split at h
  · rename_i cs hc
    rw [hc] at ht
    simp only [SV.rel] at ht
    obtain ⟨vs, h1, h2⟩ := ht
    rw [Tree.leads_bind] at h
    obtain ⟨E2, cs', H', hq, hle, hs, hr, hl⟩ := freezeVs_sound hi.sat h2 h
    exact ⟨_, hq, E2, Env.le_trans hE hle, hi.retold hle hs (by simp only [SV.rel]; exact ⟨vs, h1, hr⟩) hl⟩
  · rw [Tree.leads_bind] at h
    obtain ⟨E2, v', H', hq, hle, hs, hr, hl⟩ := freezeV_sound hi.sat ht h
    exact ⟨_, hq, E2, Env.le_trans hE hle, hi.retold hle hs hr hl⟩
theorem freezeOps_sound {n0 nt : Nat} {ρ0 : Map} : ∀ {l : List (Nat × Operand)} {st : St} {Q : St → Prop}, Inv E n0 ρ0 nt st a w ρ → (freezeOps l st).Leads Q → ∃ st', Q st' ∧ Inv E n0 ρ0 nt st' a w ρ
  | [], st, Q, hi, h => ⟨st, h, hi⟩
  | (_, .tmp t) :: r, st, Q, hi, h => by
    unfold freezeOps at h
    rw [Tree.leads_bind] at h
    obtain ⟨st1, hq, hi1⟩ := freezeT_sound hi h
    exact freezeOps_sound hi1 hq
  | (_, .const _) :: r, st, Q, hi, h => freezeOps_sound (l := r) hi h
  | (_, .global _) :: r, st, Q, hi, h => freezeOps_sound (l := r) hi h
  | (_, .func _) :: r, st, Q, hi, h => freezeOps_sound (l := r) hi h

/-- ONE OPERATION. -/
theorem stepOp0_sound {T : Table} {n0 nt : Nat} {ρ0 : Map} {o : Oper} {st : St} {Q : St → Prop} {next : Act → World → Prop} {Qx : Exit → Act → World → Prop}
    (hT : TableOK P T) (hi : Inv E n0 ρ0 nt st a w ρ) (h : (stepOp0 T P nt o st).Leads Q)
    (hk : ∀ st' a' w' ρ', Q st' → Inv E n0 ρ0 nt st' a' w' ρ' → next a' w') : o.wp P a w next Qx := by
  obtain ⟨E1, hE, hi⟩ := hi
  unfold stepOp0 at h
  split at h
  case isFalse => exact h.elim
  rename_i hd
  rw [Tree.leads_bind] at h
  have plain : ((xval P st.S st.H o.op).bind fun (sv, on) => Tree.ret (sv, st.H ++ on.toList)).Leads (fun r => (Tree.ret { S := setDst o.dst r.1 st.S, H := r.2, mv := st.mv, df := st.df : St }).Leads Q) → o.wp P a w next Qx := fun h => by
    rw [Tree.leads_bind] at h
    obtain ⟨sv, on, v, w1, hq, hr, hm⟩ := xval_sound (P := P) hi.sat hi.held h
    obtain ⟨ρ', hle, hs', hrel, hkp⟩ := hi.sat.made hm
    unfold Oper.wp
    rw [hr, Oper.upon_value]
    refine hk _ _ _ ρ' hq ⟨E1, hE, hs', (hi.held.mono hle).put hd hi.size hrel, by rw [put_size]; exact hi.size, by rw [put_defers]; exact hi.defs.mono (fun _ _ h => h) hle, ?_, fun k hk hm => ?_⟩
    · simp; have := hi.len; omega
    · rw [hkp k (Nat.lt_of_lt_of_le hk hi.len)]; exact hi.same k hk hm
  unfold xrun at h
  split at h
  · -- store
    rename_i t ad v hop
    rw [Tree.leads_bind] at h
    obtain ⟨H', w1, hq, hr, hs', hl⟩ := xstore_sound hi.sat (ev_rel hi.held ad) (ev_rel hi.held v) h
    unfold Oper.wp
    have he : (execOp a.eval o).run P w = .ok .skip w1 := by
      simp only [execOp, hop]; simp [hr]
    rw [he, Oper.upon_skip]
    exact hk _ _ _ ρ hq ⟨E1, hE, hs', hi.held.put hd hi.size (by simp [SV.rel, undef]), by rw [put_size]; exact hi.size, by rw [put_defers]; exact hi.defs, by rw [hl]; exact hi.len, hi.same⟩
  · -- append
    rename_i args argTypes hop
    split at h
    case h_2 => exact h.elim
    rename_i s x t u he1 he2
    obtain rfl : args = #[s, x] := by apply Array.ext'; simpa using he1
    obtain rfl : argTypes = #[t, u] := by apply Array.ext'; simpa using he2
    have h : (xappend P st.H t u (ev st.S s) (ev st.S x)).Leads (fun r => (Tree.ret { S := setDst o.dst r.1 st.S, H := r.2, mv := st.mv, df := st.df : St }).Leads Q) := by
      split at h
      · exact xappendX_leads h
      · exact h
    obtain ⟨sv, H', v, w1, ρ', hq, hr, hrel, hs', hle, hkp, hlen⟩ := xappend_sound (ty0 := o.type) hi.sat (ev_rel hi.held s) (ev_rel hi.held x) h
    unfold Oper.wp
    have he : (execOp a.eval o).run P w = .ok (.value v) w1 := by
      simp only [execOp, hop]; simp [resolve, invoke, builtin, hr]
    rw [he, Oper.upon_value]
    refine hk _ _ _ ρ' hq ⟨E1, hE, hs', (hi.held.mono hle).put hd hi.size hrel, by rw [put_size]; exact hi.size, by rw [put_defers]; exact hi.defs.mono (fun _ _ h => h) hle, by have := hi.len; simp; omega, fun k hk hm => ?_⟩
    rw [hkp k (Nat.lt_of_lt_of_le hk hi.len)]; exact hi.same k hk hm
  · -- clear
    rename_i args argTypes hop
    split at h
    case h_2 => exact h.elim
    rename_i s t he1 he2
    obtain rfl : args = #[s] := by apply Array.ext'; simpa using he1
    obtain rfl : argTypes = #[t] := by apply Array.ext'; simpa using he2
    rw [Tree.leads_bind] at h
    obtain ⟨H', w1, hq, hr, hs', hlen⟩ := xclear_sound (ty0 := o.type) hi.sat (ev_rel hi.held s) h
    unfold Oper.wp
    have he : (execOp a.eval o).run P w = .ok (.value (.tuple #[])) w1 := by
      simp only [execOp, hop]; simp [resolve, invoke, builtin, hr]
    rw [he, Oper.upon_value]
    exact hk _ _ _ ρ hq ⟨E1, hE, hs', hi.held.put hd hi.size (by simp [SV.rel]), by rw [put_size]; exact hi.size, by rw [put_defers]; exact hi.defs, by rw [hlen]; exact hi.len, hi.same⟩
  · -- a call
    rename_i f args argTypes hop
    split at h
    case h_2 => exact h.elim
    rename_i g cap hc
    obtain ⟨vs, hfv, hcap⟩ := callee_sound hc (ev_rel hi.held f)
    have hargs : SV.rels E1.Z ρ (cap ++ args.toList.map (ev st.S)) (vs ++ args.toList.map a.eval) := rels_append hcap (rels_map hi.held _)
    have he : (execOp a.eval o).run P w = (callFunc g (vs ++ args.toList.map a.eval).toArray).run P w := by
      simp only [execOp, hop]
      have e : vs.toArray ++ args.map a.eval = (vs ++ args.toList.map a.eval).toArray := by rw [args_map]; simp
      simp [resolve, invoke, hfv, Deferred.ofValue, ← e]
    have enter : ∀ s, CallOK P g s → (s (cap ++ args.toList.map (ev st.S)) st.H).Leads (fun r => (Tree.ret { S := setDst o.dst r.1 st.S, H := r.2, mv := st.mv, df := st.df : St }).Leads Q) → o.wp P a w next Qx := fun s hok h => by
      unfold Oper.wp
      rw [he, hok.1, Oper.upon_enter]
      refine (hok.2 E1 ρ _ _ w _ _ hi.sat hargs h).mono ?_
      rintro e w1 ⟨E2, ρ', sv, H', v, hq, rfl, hE2, hrel, hs', hlen, hkeep⟩
      have hle : Map.le ρ ρ' := fun k x hx => by
        rcases Nat.lt_or_ge k st.H.length with h1 | h1
        · rw [hkeep _ h1]; exact hx
        · rw [hi.sat.free _ h1] at hx; cases hx
      refine hk _ _ _ ρ' hq ⟨E2, Env.le_trans hE hE2, hs', ((hi.held.mono hle).zone hE2.z).put hd hi.size hrel, by rw [put_size]; exact hi.size, by rw [put_defers]; exact hi.defs.mono hE2.z hle, by have := hi.len; simp; omega, fun k hk hm => ?_⟩
      rw [hkeep k (Nat.lt_of_lt_of_le hk hi.len)]
      exact hi.same k hk hm
    unfold xcall at h
    split at h
    · rename_i s hTs
      exact enter _ (lift_sound (hT _ _ hTs)) h
    · rename_i s hTs
      exact enter _ (lift_sound (hT _ _ hTs).1) h
    · rename_i s hTs
      exact enter _ (hT _ _ hTs) h
    · rename_i s hTs
      have hok := hT _ _ hTs
      obtain ⟨sv, H', v, w1, hq, hr, hrel, hs', hl⟩ := hok E1 ρ _ _ w _ _ hi.sat hargs h
      unfold Oper.wp
      rw [he, hr, Oper.upon_value]
      exact hk _ _ _ ρ hq ⟨E1, hE, hs', hi.held.put hd hi.size hrel, by rw [put_size]; exact hi.size, by rw [put_defers]; exact hi.defs, by rw [hl]; exact hi.len, hi.same⟩
    · exact h.elim
  · exact plain h

/-- ONE OPERATION. -/
theorem stepOp_sound {T : Table} {n0 nt : Nat} {ρ0 : Map} {o : Oper} {st : St} {Q : St → Prop} {next : Act → World → Prop} {Qx : Exit → Act → World → Prop}
    (hT : TableOK P T) (hi : Inv E n0 ρ0 nt st a w ρ) (h : (stepOp T P nt o st).Leads Q)
    (hk : ∀ st' a' w' ρ', Q st' → Inv E n0 ρ0 nt st' a' w' ρ' → next a' w') : o.wp P a w next Qx := by
  unfold stepOp at h
  split at h
  · split at h
    · exact stepOp0_sound hT hi h hk
    · rw [Tree.leads_bind] at h
      obtain ⟨st1, hq, hi1⟩ := freezeOps_sound hi h
      exact stepOp0_sound hT hi1 hq hk
  · split at h
    · rw [Tree.leads_bind] at h
      obtain ⟨st1, hq, hi1⟩ := freezeOps_sound hi h
      exact stepOp0_sound hT hi1 hq hk
    · exact stepOp0_sound hT hi h hk
  · rename_i f args argTypes hop
    split at h
    case isFalse => exact h.elim
    rename_i hd
    split at h
    case h_2 => exact h.elim
    rename_i g cap hc
    obtain ⟨E1, hE, hi⟩ := hi
    obtain ⟨vs, hfv, hcap⟩ := callee_sound hc (ev_rel hi.held f)
    have hargs : SV.rels E1.Z ρ (cap ++ args.toList.map (ev st.S)) (vs ++ args.toList.map a.eval) := rels_append hcap (rels_map hi.held _)
    have he : (execOp a.eval o).run P w = .ok (.defer { target := .fn (.func g) #[], args := vs.toArray ++ args.map a.eval }) w := by
      simp only [execOp, hop]
      simp [resolve, hfv, Deferred.ofValue]
    unfold Oper.wp
    rw [he, Oper.upon_defer]
    refine hk _ _ _ ρ h ⟨E1, hE, hi.sat, ?_, by rw [put_size]; exact hi.size, ?_, hi.len, hi.same⟩
    · have hh : HeldBy E1 ρ st.S { a with defers := { target := .fn (.func g) #[], args := vs.toArray ++ args.map a.eval } :: a.defers } := hi.held
      exact hh.put hd hi.size (by simp [SV.rel])
    · rw [put_defers]
      refine ⟨#[], vs.toArray ++ args.map a.eval, a.defers, _, rfl, ?_, hargs, hi.defs⟩
      rw [args_map]; simp
  · exact stepOp0_sound hT hi h hk
end Sx
