/- A function's body, run. -/
import Derived.Test.YtlcobcpgaoeijaaGreatSxLa
set_option linter.unusedVariables false
set_option linter.unusedSimpArgs false
namespace Sx
open Go
variable {P : Program} {E : Env} {ρ : Map} {S : Slots} {H : Heap} {a : Act} {w w' : World} {Z : Zone}
inductive Entry : Type 1 where
  | go (s : Summ)
  | god (s : Summ)
  | call (s : XSumm)
  | ext (s : XSumm)
  | bye (s : XSumm)
  | thaw
abbrev Table := FuncId → Option Entry
def ExtOK (P : Program) (f : FuncId) (s : XSumm) : Prop :=
  ∀ (E : Env) (ρ : Map) (args : List SV) (H : Heap) (w : World) (vs : List Value) (Q : SV × Heap → Prop), Sat E ρ H w → SV.rels E.Z ρ args vs → (s args H).Leads Q →
    ∃ sv H' v w', Q (sv, H') ∧ (callFunc f vs.toArray).run P w = .ok (.value v) w' ∧ SV.rel E.Z ρ sv v ∧ Sat E ρ H' w' ∧ H'.length = H.length
structure Env.low (E E' : Env) : Prop where
  f : ∀ k o, E.tk k → E.F k = some o → E'.F k = some o
  os : E'.os = E.os
  tape : E'.tape = E.tape
  output : E'.output = E.output
  tk : E'.tk = E.tk
theorem Env.low_of_le {E E' : Env} (h : Env.le E E') : Env.low E E' := ⟨fun k o _ hk => h.f k o hk, h.os, h.tape, h.output, h.tk⟩
theorem Env.low_trans {A B C : Env} (h : Env.low A B) (k : Env.low B C) : Env.low A C :=
  ⟨fun x o ht hx => k.f x o (by rw [h.tk]; exact ht) (h.f x o ht hx), k.os.trans h.os, k.tape.trans h.tape, k.output.trans h.output, k.tk.trans h.tk⟩
def Env.to (E E' : Env) : Prop := (E.bye = false → Env.le E E') ∧ Env.low E E'
theorem Env.to_refl (E : Env) : Env.to E E := ⟨fun _ => Env.le_refl E, Env.low_of_le (Env.le_refl E)⟩
theorem Env.to_trans {A B C : Env} (h : Env.to A B) (k : Env.le B C) : Env.to A C := ⟨fun e => Env.le_trans (h.1 e) k, Env.low_trans h.2 (Env.low_of_le k)⟩
theorem Env.to_low {A B C : Env} (h : Env.to A B) (hb : A.bye = true) (k : Env.low B C) : Env.to A C := ⟨fun e => absurd (hb.symm.trans e) (by decide), Env.low_trans h.2 k⟩
def ByeOK (P : Program) (f : FuncId) (s : XSumm) : Prop :=
  (∀ args w, (callFunc f args).run P w = .ok (.enter f args) w) ∧
  ∀ (E : Env) (ρ : Map) (args : List SV) (H : Heap) (w : World) (vs : List Value) (Q : SV × Heap → Prop), Sat E ρ H w → SV.rels E.Z ρ args vs → (s args H).Leads Q →
    Calls P f vs.toArray w fun e w' => ∃ E' x H', Q (.lit x, H') ∧ e = .returned x ∧ Env.low E E' ∧ Sat E' (fun _ => none) [] w'
def TableOK (P : Program) (T : Table) (m : Bool := false) : Prop := ∀ f e, T f = some e → match e with
  | .go s => SummOK P f s
  | .god s => SummOK P f s ∧ SummD P f s
  | .call s => CallOK P f s
  | .ext s => ExtOK P f s
  | .bye s => m = true ∧ ByeOK P f s
  | .thaw => m = true
theorem TableOK.up {P : Program} {T : Table} {m : Bool} (h : TableOK P T) : TableOK P T m := fun f e he => by
  have := h f e he
  cases e <;> first | exact this | (exact absurd this.1 (by decide)) | (exact Bool.noConfusion this)
structure St where
  S : Slots
  H : Heap
  mv : List Nat
  df : List (FuncId × List SV)
def setSlot (d : Nat) (v : SV) (S : Slots) : Slots := fun t => if Nat.beq t d then v else S t
theorem look_set {d : Nat} {v : SV} {S : Slots} {t : Nat} : look (setSlot d v S) t = if t = d then v else look S t := by
  simp only [look, setSlot]
  by_cases h : t = d
  · subst h; simp
  · rw [if_neg h, if_neg (fun e => h (Nat.eq_of_beq_eq_true e))]
def setDst (d : Option Nat) (v : SV) (S : Slots) : Slots := match d with
  | some d => setSlot d v S
  | none => S
def dstOK (d : Option Nat) (nt : Nat) : Bool := match d with
  | some d => Nat.blt d nt
  | none => true
def DefsRel (Z : Zone) (ρ : Map) : List (FuncId × List SV) → List Deferred → Prop
  | [], ds => ds = []
  | (g, args) :: r, ds => ∃ cap dargs rest vs, ds = { target := .fn (.func g) cap, args := dargs } :: rest ∧ dargs ++ cap = vs.toArray ∧ SV.rels Z ρ args vs ∧ DefsRel Z ρ r rest
theorem DefsRel.mono {Z Z' : Zone} {ρ ρ' : Map} (hz : ∀ b o, Z b = some o → Z' b = some o) (hl : Map.le ρ ρ') : ∀ {df : List (FuncId × List SV)} {ds : List Deferred}, DefsRel Z ρ df ds → DefsRel Z' ρ' df ds
  | [], _, h => h
  | (g, args) :: r, ds, h => by
    obtain ⟨cap, dargs, rest, vs, h1, h2, h3, h4⟩ := h
    exact ⟨cap, dargs, rest, vs, h1, h2, SV.rels_zone hz (SV.rels_mono hl h3), DefsRel.mono hz hl h4⟩
structure InvAt (E : Env) (n0 : Nat) (ρ0 : Map) (nt : Nat) (st : St) (a : Act) (w : World) (ρ : Map) : Prop where
  sat : Sat E ρ st.H w
  held : HeldBy E ρ st.S a
  size : a.tmps.size = nt
  defs : DefsRel E.Z ρ st.df a.defers
  len : n0 ≤ st.H.length
  same : ∀ k, k < n0 → memN k st.mv = false → ρ k = ρ0 k
def Inv (E : Env) (n0 : Nat) (ρ0 : Map) (nt : Nat) (st : St) (a : Act) (w : World) (ρ : Map) : Prop := ∃ E', Env.to E E' ∧ InvAt E' n0 ρ0 nt st a w ρ
theorem getD_put {d t : Nat} {v : Value} (hd : d < a.tmps.size) : (a.put (some d) v).tmps.getD t undef = if t = d then v else a.tmps.getD t undef := by
  simp only [Act.put, Array.getD_eq_getD_getElem?, Array.getElem?_setIfInBounds]
  by_cases h : d = t
  · subst h; simp [hd]
  · simp [h, Ne.symm h]
theorem HeldBy.put {d : Option Nat} {v : Value} {sv : SV} {nt : Nat} (hS : HeldBy E ρ S a) (hd : dstOK d nt = true) (hn : a.tmps.size = nt) (hv : SV.rel E.Z ρ sv v) : HeldBy E ρ (setDst d sv S) (a.put d v) := by
  cases d with
  | none => exact hS
  | some d =>
    intro t
    have hlt : d < a.tmps.size := by rw [hn]; exact Nat.le_of_ble_eq_true hd
    simp only [setDst]
    rw [look_set, getD_put hlt]
    split
    · exact hv
    · exact hS t
theorem put_size {d : Option Nat} {v : Value} : (a.put d v).tmps.size = a.tmps.size := by cases d <;> simp [Act.put]
theorem put_defers {d : Option Nat} {v : Value} : (a.put d v).defers = a.defers := by cases d <;> rfl
theorem DefsRel.more {Z : Zone} {ρ ρ' : Map} (hm : More ρ ρ') : ∀ {df : List (FuncId × List SV)} {ds : List Deferred}, DefsRel Z ρ df ds → DefsRel Z ρ' df ds
  | [], _, h => h
  | (g, args) :: r, ds, h => by
    obtain ⟨cap, dargs, rest, vs, h1, h2, h3, h4⟩ := h
    exact ⟨cap, dargs, rest, vs, h1, h2, SV.rels_more hm h3, DefsRel.more hm h4⟩
theorem HeldBy.more {ρ' : Map} (hS : HeldBy E ρ S a) (hm : More ρ ρ') : HeldBy E ρ' S a := fun t => SV.rel_more hm (hS t)
theorem HeldBy.zone {E' : Env} (hS : HeldBy E ρ S a) (hz : ∀ b o, E.Z b = some o → E'.Z b = some o) : HeldBy E' ρ S a := fun t => SV.rel_zone hz (hS t)
theorem HeldBy.mono {ρ' : Map} (hS : HeldBy E ρ S a) (hl : Map.le ρ ρ') : HeldBy E ρ' S a := fun t => SV.rel_mono hl (hS t)
def callee (v : SV) : Option (FuncId × List SV) := match v with
  | .lit (.func (.func g) ⟨[]⟩ ⟨[]⟩) => some (g, [])
  | .fn (.func g) pre => some (g, pre)
  | _ => none
def xcall (T : Table) (f : FuncId) : XSumm := fun args H => match T f with
  | some (.go s) => lift s args H
  | some (.god s) => lift s args H
  | some (.call s) => s args H
  | some (.ext s) => s args H
  | some (.bye _) => .fail
  | some .thaw => .fail
  | none => .fail
def keptAt (H : Heap) (x : SV) : Option (Nat × Nat) := match x with
  | .sl h2 wd off m => match H[h2]? with
    | some (.kept _ _ _ _) => if Nat.beq wd 1 && Nat.beq off 0 then some (h2, m) else none
    | _ => none
  | _ => none
theorem keptAt_some {H : Heap} {x : SV} {h m : Nat} (e : keptAt H x = some (h, m)) : x = .sl h 1 0 m := by
  unfold keptAt at e
  split at e
  · split at e
    · split at e
      · rename_i hc
        simp only [Bool.and_eq_true] at hc
        have h1 := Nat.eq_of_beq_eq_true hc.1
        have h2 := Nat.eq_of_beq_eq_true hc.2
        injection e with e; injection e with e1 e2; subst e1; subst e2; subst h1; subst h2; rfl
      · cases e
    · cases e
  · cases e
def xappends0 (T : Table) (P : Program) (H : Heap) (t u : TypeId) (s x : SV) : Tree (SV × Heap) := match keptAt H x with
  | some (h2, m) => match s with
    | .lit (.slice none 0 0) => xappendK0 P H t u h2 m x
    | .sl h 1 0 n => xappendK P H t u h n h2 m x
    | _ => .fail
  | none => match T (1000000 + t) with
    | some _ => xappendX P H t u s x
    | none => match T (1500000 + t) with
      | some _ => match s with
        | .sl h _ _ _ => if holeIn h H then xappendF P H t u s x else xappendE P H t u s x
        | _ => xappendE P H t u s x
      | none => match T (1700000 + t) with
        | some _ => xappendG P H t u s x
        | none => xappend P H t u s x
theorem xappends0_sound {T : Table} {E : Env} {ρ : Map} {H : Heap} {w : World} {t u ty0 : TypeId} {s x : SV} {vs vx : Value} {Q : SV × Heap → Prop} (hs : Sat E ρ H w) (hv : SV.rel E.Z ρ s vs) (hx : SV.rel E.Z ρ x vx)
    (h : (xappends0 T P H t u s x).Leads Q) : ∃ sv H' v w' ρ', Q (sv, H') ∧ (Builtin.append_ #[t, u] ty0 #[vs, vx]).run P w = .ok v w' ∧ SV.rel E.Z ρ' sv v ∧ Sat E ρ' H' w' ∧
      Map.le ρ ρ' ∧ (∀ k, k < H.length → ρ' k = ρ k) ∧ H.length ≤ H'.length := by
  unfold xappends0 at h
  split at h
  · rename_i h2 m hk
    have := keptAt_some hk
    subst this
    split at h
    · have := rel_lit hv; subst this
      exact xappendK0_sound hs hx h
    · exact xappendK_sound hs hv hx h
    · exact h.elim
  · split at h
    · exact xappend_sound hs hv hx (xappendX_leads h)
    · split at h
      · split at h
        · split at h
          · exact xappendF_sound hs hv hx h
          · exact xappend_sound hs hv hx (xappendE_leads h)
        · exact xappend_sound hs hv hx (xappendE_leads h)
      · split at h
        · exact xappend_sound hs hv hx (xappendG_leads h)
        · exact xappend_sound hs hv hx h
def drowAt (H : Heap) (x : SV) : Option (Nat × Nat × Nat) := match x with
  | .sl h2 wd off m => match H[h2]? with
    | some (.drow _ _ ty _) => if Nat.beq wd ty.width && Nat.beq off 0 then some (h2, wd, m) else none
    | _ => none
  | _ => none
theorem drowAt_some {H : Heap} {x : SV} {h wd m : Nat} (e : drowAt H x = some (h, wd, m)) : x = .sl h wd 0 m ∧ ∀ e' e2 ty L, H[h]? = some (.drow e' e2 ty L) → wd = ty.width := by
  unfold drowAt at e
  split at e
  · split at e
    · rename_i et e2 ty L ho
      split at e
      · rename_i hb
        simp only [Bool.and_eq_true] at hb
        have h1 := Nat.eq_of_beq_eq_true hb.1
        have h2 := Nat.eq_of_beq_eq_true hb.2
        injection e with e; injection e with e1 e2; injection e2 with e2 e3; subst e1; subst e2; subst e3; subst h2
        refine ⟨rfl, fun e' e2' ty' L' ho' => ?_⟩
        rw [ho] at ho'; injection ho' with ho'; injection ho' with q1 q2 q3 q4; subst q3; exact h1
      · cases e
    · cases e
  · cases e
def xappendDs (P : Program) (H : Heap) (t u : TypeId) (s : SV) (h2 m : Nat) (x : SV) : Tree (SV × Heap) := match s with
  | .lit (.slice none 0 0) => xappendD0 P H t u h2 m x
  | .sl h wd 0 n => match x with
    | .sl _ wd2 _ _ => match H[h]? with
      | some (.drow _ _ ty _) => if Nat.beq wd wd2 && Nat.beq wd ty.width then xappendD P H t u h n h2 m x else .fail
      | _ => .fail
    | _ => .fail
  | _ => .fail
theorem xappendDs_sound {E : Env} {ρ : Map} {H : Heap} {w : World} {t u ty0 : TypeId} {s x : SV} {h2 wd m : Nat} {vs vx : Value} {Q : SV × Heap → Prop} (hs : Sat E ρ H w) (hv : SV.rel E.Z ρ s vs) (hx : SV.rel E.Z ρ x vx) (hd : drowAt H x = some (h2, wd, m))
    (h : (xappendDs P H t u s h2 m x).Leads Q) : ∃ sv H' v w' ρ', Q (sv, H') ∧ (Builtin.append_ #[t, u] ty0 #[vs, vx]).run P w = .ok v w' ∧ SV.rel E.Z ρ' sv v ∧ Sat E ρ' H' w' ∧
      Map.le ρ ρ' ∧ (∀ k, k < H.length → ρ' k = ρ k) ∧ H.length ≤ H'.length := by
  obtain ⟨rfl, hwd⟩ := drowAt_some hd
  unfold xappendDs at h
  split at h
  · have := rel_lit hv; subst this
    exact xappendD0_sound hs hwd hx h
  · rename_i h0 wd0 n
    dsimp only at h
    split at h
    case h_2 => exact h.elim
    rename_i et e2 ty L ho
    split at h
    case isFalse => exact h.elim
    rename_i hb
    simp only [Bool.and_eq_true] at hb
    have h1 := Nat.eq_of_beq_eq_true hb.1
    have h2 := Nat.eq_of_beq_eq_true hb.2
    subst h1
    refine xappendD_sound hs (fun e' e2' ty' L' ho' => ?_) hwd hv hx h
    rw [ho] at ho'; injection ho' with ho'; injection ho' with q1 q2 q3 q4; subst q3; exact h2
  · exact h.elim
def xappends (T : Table) (P : Program) (H : Heap) (t u : TypeId) (s x : SV) : Tree (SV × Heap) := match toD H x with
  | some (x', H') => match drowAt H' x' with
    | some (h2, _, m) => xappendDs P H' t u s h2 m x'
    | none => .fail
  | none => match drowAt H x with
    | some (h2, _, m) => xappendDs P H t u s h2 m x
    | none => xappends0 T P H t u s x
theorem xappends_sound {T : Table} {E : Env} {ρ : Map} {H : Heap} {w : World} {t u ty0 : TypeId} {s x : SV} {vs vx : Value} {Q : SV × Heap → Prop} (hs : Sat E ρ H w) (hv : SV.rel E.Z ρ s vs) (hx : SV.rel E.Z ρ x vx)
    (h : (xappends T P H t u s x).Leads Q) : ∃ sv H' v w' ρ', Q (sv, H') ∧ (Builtin.append_ #[t, u] ty0 #[vs, vx]).run P w = .ok v w' ∧ SV.rel E.Z ρ' sv v ∧ Sat E ρ' H' w' ∧
      Map.le ρ ρ' ∧ (∀ k, k < H.length → ρ' k = ρ k) ∧ H.length ≤ H'.length := by
  unfold xappends at h
  split at h
  · rename_i x' H1 hD
    split at h
    case h_2 => exact h.elim
    rename_i h2 wd m hd
    obtain ⟨ρ1, hle1, hsame1, hlen1, hs1, hx1⟩ := toD_sound hs hx hD
    obtain ⟨sv, H', v, w', ρ', g1, g2, g3, g4, g5, g6, g7⟩ := xappendDs_sound (ty0 := ty0) hs1 (SV.rel_mono hle1 hv) hx1 hd h
    exact ⟨sv, H', v, w', ρ', g1, g2, g3, g4, Map.le_trans hle1 g5, fun k hk => by rw [g6 k (by omega), hsame1 k hk], by omega⟩
  · split at h
    · rename_i h2 wd m hd
      exact xappendDs_sound hs hv hx hd h
    · exact xappends0_sound hs hv hx h
def xrun (T : Table) (P : Program) (S : Slots) (H : Heap) (op : Op) : Tree (SV × Heap) := match op with
  | .store t ad v => (xstore P H t (ev S ad) (ev S v)).bind fun H' => .ret (.lit (.tuple #[]), H')
  | .call { callee := .builtin .append, args, argTypes } => match args.toList, argTypes.toList with
    | [s, x], [t, u] => xappends T P H t u (ev S s) (ev S x)
    | _, _ => .fail
  | .call { callee := .builtin .clear, args, argTypes } => match args.toList, argTypes.toList with
    | [s], [t] => (xclear P H t (ev S s)).bind fun H' => .ret (.lit (.tuple #[]), H')
    | _, _ => .fail
  | .call { callee := .value f, args, .. } => match callee (ev S f) with
    | some (g, cap) => xcall T g (cap ++ args.toList.map (ev S)) H
    | none => .fail
  | .makeMap t none => xmakeMaps P H t
  | .lookup t m x c => (xlookups P H t (ev S m) (ev S x) c).bind fun v => .ret (v, H)
  | .mapUpdate t m x v => (xupdates P H t (ev S m) (ev S x) (ev S v)).bind fun r => .ret (.lit (.tuple #[]), r.2)
  | op => (xval P S H op).bind fun (sv, on) => .ret (sv, H ++ on.toList)
def updOK (S : Slots) (mv : List Nat) (op : Op) : Bool := match op with
  | .mapUpdate _ m _ _ => match ev S m with
    | .mp h => memN h mv
    | _ => false
  | _ => true
def freezeV (H : Heap) : SV → Tree (SV × Heap)
  | .sl h wd off len => match H[h]? with
    | some (.row et ty L) => if Nat.beq wd ty.width then .need (off + len ≤ L.length) (.ret (.imm ty ((L.drop off).take len), H.set h (.view et ty L))) else .fail
    | some (.view _ ty L) => if Nat.beq wd ty.width then .need (off + len ≤ L.length) (.ret (.imm ty ((L.drop off).take len), H)) else .fail
    | _ => .fail
  | v => .ret (v, H)
def freezeVs : List SV → Heap → Tree (List SV × Heap)
  | [], H => .ret ([], H)
  | v :: r, H => (freezeV H v).bind fun (v', H') => (freezeVs r H').bind fun (r', H'') => .ret (v' :: r', H'')
def freezeT (t : Nat) (st : St) : Tree St := match look st.S t with
  | .agg cs => (freezeVs cs st.H).bind fun (cs', H') => .ret { S := setSlot t (.agg cs') st.S, H := H', mv := st.mv, df := st.df }
  | v => (freezeV st.H v).bind fun (v', H') => .ret { S := setSlot t v' st.S, H := H', mv := st.mv, df := st.df }
def freezeOps : List (Nat × Operand) → St → Tree St
  | [], st => .ret st
  | (_, .tmp t) :: r, st => (freezeT t st).bind (freezeOps r)
  | (_, _) :: r, st => freezeOps r st
def colT (P : Program) (e : TypeId) (j : Nat) : TypeId := match P.underlying e with
  | some (.struct fs) => match fs.toList.find? (fun f => Nat.beq f.offset j) with
    | some f => f.type
    | none => 0
  | _ => 0
def holdT (P : Program) (t : TypeId) (s : Nat) (st : St) : Tree St := match look st.S s with
  | .agg cs => match tyOf P 6 t with
    | some ty => match ty.col with
      | some c => match cs[c.j]? with
        | some v => (holdV P st.H (colT P t c.j) v).bind fun (v', H') => .ret { S := setSlot s (.agg (cs.set c.j v')) st.S, H := H', mv := st.mv, df := st.df }
        | none => .fail
      | none => .fail
    | none => .fail
  | _ => .fail
def noDf1 (st : St) : Bool := match st.df with
  | [] => true
  | _ => false
mutual
def SV.noImm (f : Nat → Bool) : SV → SV
  | .imm _ _ => .junk
  | .ipt _ _ _ _ => .junk
  | .agg cs => .agg (SV.noImms f cs)
  | .tup cs => .tup (SV.noImms f cs)
  | .fn g cs => .fn g (SV.noImms f cs)
  | .lit x => .lit x
  | .ptr h o => if f h then .junk else .ptr h o
  | .ept h wd i j => if f h then .junk else .ept h wd i j
  | .sl h wd o l => if f h then .junk else .sl h wd o l
  | .junk => .junk
  | .mp _ => .junk
  | .tref _ _ => .junk
  | .kseq _ _ _ => .junk
def SV.noImms (f : Nat → Bool) : List SV → List SV
  | [] => []
  | s :: r => SV.noImm f s :: SV.noImms f r
end
mutual
theorem rel_noImm {Z Z' : Zone} {ρ : Map} {f : Nat → Bool} : ∀ {s : SV} {v : Value}, SV.rel Z ρ s v → SV.rel Z' ρ (SV.noImm f s) v
  | .lit _, _, h => by simpa only [SV.noImm, SV.rel] using h
  | .ptr _ _, _, h => by
    simp only [SV.noImm]
    split
    · simp only [SV.rel]
    · simpa only [SV.rel] using h
  | .ept _ _ _ _, _, h => by
    simp only [SV.noImm]
    split
    · simp only [SV.rel]
    · simpa only [SV.rel] using h
  | .sl _ _ _ _, _, h => by
    simp only [SV.noImm]
    split
    · simp only [SV.rel]
    · simpa only [SV.rel] using h
  | .imm _ _, _, _ => by simp only [SV.noImm, SV.rel]
  | .mp _, _, _ => by simp only [SV.noImm, SV.rel]
  | .tref _ _, _, _ => by simp only [SV.noImm, SV.rel]
  | .kseq _ _ _, _, _ => by simp only [SV.noImm, SV.rel]
  | .ipt _ _ _ _, _, _ => by simp only [SV.noImm, SV.rel]
  | .junk, _, _ => by simp only [SV.noImm, SV.rel]
  | .agg _, _, h => by simp only [SV.noImm, SV.rel] at *; obtain ⟨vs, h1, h2⟩ := h; exact ⟨vs, h1, rels_noImm h2⟩
  | .tup _, _, h => by simp only [SV.noImm, SV.rel] at *; obtain ⟨vs, h1, h2⟩ := h; exact ⟨vs, h1, rels_noImm h2⟩
  | .fn _ _, _, h => by simp only [SV.noImm, SV.rel] at *; obtain ⟨vs, h1, h2⟩ := h; exact ⟨vs, h1, rels_noImm h2⟩
theorem rels_noImm {Z Z' : Zone} {ρ : Map} {f : Nat → Bool} : ∀ {s : List SV} {v : List Value}, SV.rels Z ρ s v → SV.rels Z' ρ (SV.noImms f s) v
  | [], _, h => by simpa only [SV.noImms, SV.rels] using h
  | _ :: _, _, h => by
    simp only [SV.noImms, SV.rels] at *
    obtain ⟨v, r, h1, h2, h3⟩ := h
    exact ⟨v, r, h1, rel_noImm h2, rels_noImm h3⟩
end
def goneAt (H : Heap) (h : Nat) : Bool := match H[h]? with
  | some (.cells _ _) => false
  | some (.row _ t _) => !t.plain
  | some (.kept _ _ _ _) => false
  | _ => true
def blanks (t : Ty) (l : List (List t.den)) : List (List (Option t.den)) := l.map fun r => r.map fun _ => none
theorem apart_blanks {V V' W : Zone} {e2 : TypeId} {t : Ty} : ∀ {l : List (List t.den)} {us : List Value} {bs : List Nat}, t.apart V W e2 l us bs → (Ty.opt t).apart V' W e2 (blanks t l) us bs
  | [], _, _, h => h
  | L :: l, us, bs, h => by
    obtain ⟨v, vs, h0, h⟩ := h
    refine ⟨v, vs, h0, ?_⟩
    rcases h with ⟨h1, h2, h3⟩ | ⟨b, o, cap, arr, l', h1, h2, h0, h3, h4, h5, h6, h7, h8⟩
    · exact .inl ⟨by rw [h1]; rfl, h2, apart_blanks h3⟩
    · refine .inr ⟨b, o, cap, arr, l', h1, by rw [List.length_map]; exact h2, h0, h3, h4, by rw [List.length_map]; exact h5, h6, fun i hi => ?_, apart_blanks h8⟩
      have hi' : i < L.length := by simpa using hi
      have := reads_length (h7 i hi')
      simp only [List.getElem_map, Ty.reads]
      exact this
theorem apart_plain {V V' W : Zone} {e2 : TypeId} {t : Ty} (hp : t.plain = true) : ∀ {l : List (List t.den)} {us : List Value} {bs : List Nat}, t.apart V W e2 l us bs → t.apart V' W e2 l us bs
  | [], _, _, h => h
  | L :: l, us, bs, h => by
    obtain ⟨v, vs, h0, h⟩ := h
    refine ⟨v, vs, h0, ?_⟩
    rcases h with ⟨h1, h2, h3⟩ | ⟨b, o, cap, arr, l', h1, h2, h0, h3, h4, h5, h6, h7, h8⟩
    · exact .inl ⟨h1, h2, apart_plain hp h3⟩
    · exact .inr ⟨b, o, cap, arr, l', h1, h2, h0, h3, h4, h5, h6, lies_plain hp h7, apart_plain hp h8⟩
def thawSO (f : Nat → Bool) : SO → SO
  | .cells et cs => .cells et (SV.noImms f cs)
  | .row et t l => if t.plain then .row et t l else .dead
  | .kept et e2 t l => if t.plain then .lists et e2 t [] [] none l else .lists et e2 (.opt t) [] [] none (blanks t l)
  | _ => .dead
def thawSt (st : St) : St := { S := fun t => SV.noImm (goneAt st.H) (st.S t), H := st.H.map (thawSO (goneAt st.H)), mv := st.mv, df := [] }
theorem thawSO_live {f : Nat → Bool} {o : SO} (h : (thawSO f o).live = true) : o.live = true := by
  cases o <;> first | rfl | (cases h; done)
theorem thawSO_soft {f : Nat → Bool} {o : SO} : (thawSO f o).soft = false := by
  cases o <;> simp only [thawSO] <;> first | rfl | (split <;> rfl)
open Classical in
theorem Sat.thaw {E : Env} {ρ : Map} {H : Heap} {w : World} {f : Nat → Bool} (hs : Sat E ρ H w) : ∃ E', Env.low E E' ∧ Sat E' ρ (H.map (thawSO f)) w := by
  refine ⟨{ E with Z := fun _ => none, F := fun k => if E.tk k then E.F k else none }, ⟨fun k o ht hk => ?_, rfl, rfl, rfl, rfl⟩, hs.os, hs.tape, hs.output, fun h hh => hs.free h (by simpa using hh), fun h o ho => ?_, fun h h' o o' k ho ho' hl hl' hk hk' => ?_, fun b o hb => (by cases hb), fun b o hb => ?_, fun h o k ho hl hk => ?_, fun h o k ho hl hk => ?_, hs.old⟩
  · show (if E.tk k then E.F k else none) = some o
    rw [if_pos ht]; exact hk
  · rw [List.getElem?_map] at ho
    cases hH : H[h]? with
    | none => rw [hH] at ho; cases ho
    | some p =>
      rw [hH] at ho; injection ho with ho; subst ho
      have hr := hs.objs _ _ hH
      cases p with
      | cells et cs =>
        simp only [thawSO, SO.rel] at *
        obtain ⟨b, C, vs, h1, h2, h3⟩ := hr
        exact ⟨b, C, vs, h1, h2, rels_noImm h3⟩
      | row et t l =>
        simp only [thawSO]
        split
        · rename_i hp
          simp only [SO.rel] at *
          rcases hr with hr | ⟨b, C, vs, h1, h2, h3, h4, h5, h6⟩
          · exact .inl hr
          · exact .inr ⟨b, C, vs, h1, h2, h3, h4, h5, lies_plain hp h6⟩
        · trivial
      | kept et e2 t l =>
        simp only [thawSO]
        split
        · rename_i hp
          simp only [SO.rel] at *
          rcases hr with ⟨h1, h2⟩ | ⟨b, C, bs, vs, us, h1, h2, h3, h4, h5, h6, h7, h8, h9⟩
          · exact .inl ⟨h1, trivial, trivial, trivial, h2⟩
          · refine .inr ⟨b, C, [], bs, vs, [], [], [], us, vs.toList.drop l.length, by simpa using h1, h2, h3, h5, by simpa using h6, ?_, rfl, fun i hi => by simp at hi, ⟨rfl, rfl⟩, rfl, apart_plain hp (Ty.apart_zone (fun k _ o hk => hs.zone _ _ hk) h9)⟩
            simp only [List.nil_append]
            rw [← h8, List.take_append_drop]
        · simp only [SO.rel] at *
          rcases hr with ⟨h1, h2⟩ | ⟨b, C, bs, vs, us, h1, h2, h3, h4, h5, h6, h7, h8, h9⟩
          · exact .inl ⟨h1, trivial, trivial, trivial, by rw [h2]; rfl⟩
          · refine .inr ⟨b, C, [], bs, vs, [], [], [], us, vs.toList.drop l.length, by simpa using h1, h2, h3, h5, by simpa using h6, ?_, rfl, fun i hi => by simp at hi, ⟨rfl, rfl⟩, rfl, apart_blanks (Ty.apart_zone (fun k _ o hk => hs.zone _ _ hk) h9)⟩
            simp only [List.nil_append]
            rw [← h8, List.take_append_drop]
      | dead => trivial
      | view _ _ _ => trivial
      | lists _ _ _ _ _ _ _ => trivial
      | tmap _ _ _ => trivial
      | imap _ _ => trivial
      | alias _ _ => trivial
      | drow _ _ _ _ => trivial
      | dview _ _ _ _ _ _ _ => trivial
      | hold _ _ _ => trivial
      | prow _ _ _ _ _ _ => trivial
  · rw [List.getElem?_map] at ho ho'
    cases hH : H[h]? with
    | none => rw [hH] at ho; cases ho
    | some p =>
      cases hH' : H[h']? with
      | none => rw [hH'] at ho'; cases ho'
      | some p' =>
        rw [hH] at ho; injection ho with ho; subst ho
        rw [hH'] at ho'; injection ho' with ho'; subst ho'
        exact hs.inj _ _ _ _ _ hH hH' (thawSO_live hl) (thawSO_live hl') hk hk'
  · have hb : (if E.tk b then E.F b else none) = some o := hb
    split at hb
    · exact hs.keep _ _ hb
    · cases hb
  · rw [List.getElem?_map] at ho
    cases hH : H[h]? with
    | none => rw [hH] at ho; cases ho
    | some p =>
      rw [hH] at ho; injection ho with ho; subst ho
      show (if E.tk k then E.F k else none) = none
      rw [if_neg (hs.fresh _ _ _ hH (thawSO_live hl) (SO.owned_claimed hk))]
  · rw [List.getElem?_map] at ho
    cases hH : H[h]? with
    | none => rw [hH] at ho; cases ho
    | some p =>
      rw [hH] at ho; injection ho with ho; subst ho
      exact hs.fresh _ _ _ hH (thawSO_live hl) hk
theorem Inv.thaw {E : Env} {ρ : Map} {a : Act} {w : World} {n0 nt : Nat} {ρ0 : Map} {st : St} (hb : E.bye = true) (hd : noDf1 st = true) (hi : Inv E n0 ρ0 nt st a w ρ) : Inv E n0 ρ0 nt (thawSt st) a w ρ := by
  obtain ⟨E1, hE, hi⟩ := hi
  obtain ⟨E2, hlow, hs⟩ := hi.sat.thaw
  refine ⟨E2, Env.to_low hE hb hlow, hs, fun t => rel_noImm (hi.held t), hi.size, ?_, by simpa [thawSt] using hi.len, hi.same⟩
  have := hi.defs
  unfold noDf1 at hd
  split at hd
  · rename_i e; rw [e] at this; exact this
  · cases hd
def SV.litOnly : SV → SV
  | .lit x => .lit x
  | _ => .junk
theorem rel_litOnly {Z Z' : Zone} {ρ ρ' : Map} {s : SV} {v : Value} (h : SV.rel Z ρ s v) : SV.rel Z' ρ' (SV.litOnly s) v := by
  cases s with
  | lit x => simpa only [SV.litOnly, SV.rel] using h
  | _ => simp only [SV.litOnly, SV.rel]
def byeSt (dst : Option Nat) (x : Value) (st : St) : St := { S := setDst dst (.lit x) (fun t => SV.litOnly (st.S t)), H := st.H.map (fun _ => .dead), mv := uptoN st.H.length, df := [] }
def zero1 (P : Program) (e : TypeId) : Bool := match zeros P e with
  | some z => Nat.beq z.length 1
  | none => false
theorem zero1_some {P : Program} {e : TypeId} (h : zero1 P e = true) : ∃ z, zeros P e = some z ∧ z.length = 1 := by
  unfold zero1 at h
  split at h
  · rename_i z hz; exact ⟨z, hz, Nat.eq_of_beq_eq_true h⟩
  · cases h
def stepKeep (P : Program) (nt : Nat) (o : Oper) (st : St) (t : TypeId) (s : Nat) : Tree St := if dstOK o.dst nt then match P.underlying t with
  | some (.slice e) => if szIs P e 1 && zero1 P e then match look st.S s with
    | .sl h wd 0 len => match st.H[h]? with
      | some (.row e2 ty L) => if Nat.beq wd ty.width then .need (len ≤ L.length) (.ret { S := setDst o.dst (.sl st.H.length 1 0 1) st.S, H := st.H.set h (.view e2 ty L) ++ [.kept e e2 ty [L.take len]], mv := st.mv, df := st.df }) else .fail
      | some (.hold e2 ty L) => if Nat.beq wd ty.width then .need (len ≤ L.length) (.ret { S := setDst o.dst (.sl st.H.length 1 0 1) st.S, H := st.H.set h (.view e2 ty L) ++ [.kept e e2 ty [L.take len]], mv := st.mv, df := st.df }) else .fail
      | some (.drow e2 eN ty L) => match ty.col with
        | some c => if Nat.beq wd ty.width then .need (len = L.length) (.ret { S := setDst o.dst (.sl st.H.length 1 0 1) st.S, H := st.H.set h (.dview e2 eN ty L (st.H.length + 1) 0 none) ++ [.kept e e2 ty [L], .hold eN c.u []], mv := st.mv, df := st.df }) else .fail
        | none => .fail
      | _ => .fail
    | _ => .fail
    else .fail
  | _ => .fail
  else .fail
def stepOp0 (T : Table) (P : Program) (nt : Nat) (o : Oper) (st : St) : Tree St :=
  if dstOK o.dst nt && updOK st.S st.mv o.op then (xrun T P st.S st.H o.op).bind fun (sv, H') => .ret { S := setDst o.dst sv st.S, H := H', mv := st.mv, df := st.df } else .fail
def stepOp (T : Table) (P : Program) (nt : Nat) (o : Oper) (st : St) : Tree St := match o.op with
  | .buildSlice t n ps => match T (3000000 + t) with
    | some _ => match n, ps.toList with
      | 1, [(0, .tmp s)] => stepKeep P nt o st t s
      | _, _ => .fail
    | none => match xbuildSlice P st.S t n ps.toList with
      | some _ => stepOp0 T P nt o st
      | none => (freezeOps ps.toList st).bind (stepOp0 T P nt o)
  | .call { callee := .value f, args, .. } => match callee (ev st.S f) with
    | some (g, cap) => match T g with
      | some (.bye s) => if dstOK o.dst nt && noDf1 st then (s (cap ++ args.toList.map (ev st.S)) st.H).bind fun r => match r.1 with
        | .lit x => .ret (byeSt o.dst x st)
        | _ => .fail
        else .fail
      | _ => match T (4000000 + g) with
        | some .thaw => if noDf1 st then stepOp0 T P nt o (thawSt st) else .fail
        | _ => stepOp0 T P nt o st
    | none => stepOp0 T P nt o st
  | .box t x => match T (2000000 + t) with
    | some _ => (freezeOps [(0, x)] st).bind (stepOp0 T P nt o)
    | none => match T (5000000 + t) with
      | some _ => match x with
        | .tmp s => (holdT P t s st).bind (stepOp0 T P nt o)
        | _ => .fail
      | none => stepOp0 T P nt o st
  | .defer { callee := .value f, args, .. } => if dstOK o.dst nt then match callee (ev st.S f) with
    | some (g, cap) => .ret { S := setDst o.dst (.lit undef) st.S, H := st.H, mv := st.mv, df := (g, cap ++ args.toList.map (ev st.S)) :: st.df }
    | none => .fail
    else .fail
  | _ => stepOp0 T P nt o st
theorem rels_map (hS : HeldBy E ρ S a) : ∀ l : List Operand, SV.rels E.Z ρ (l.map (ev S)) (l.map a.eval)
  | [] => by simp [SV.rels]
  | x :: l => rels_cons (ev_rel hS x) (rels_map hS l)
theorem callee_sound {v : SV} {vv : Value} {g : FuncId} {cap : List SV} (h : callee v = some (g, cap)) (hv : SV.rel Z ρ v vv) : ∃ vs : List Value, vv = .func (.func g) vs.toArray #[] ∧ SV.rels Z ρ cap vs := by
  unfold callee at h
  split at h
  · injection h with h; injection h with h1 h2; subst h1; subst h2
    have := rel_lit hv; subst this
    exact ⟨[], rfl, by simp [SV.rels]⟩
  · injection h with h; injection h with h1 h2; subst h1; subst h2
    simpa only [SV.rel] using hv
  · cases h
theorem memN_append {x : Nat} : ∀ {l r : List Nat}, memN x (l ++ r) = (memN x l || memN x r)
  | [], r => by simp [memN]
  | y :: l, r => by
    simp only [List.cons_append, memN, memN_append]
    split <;> simp
theorem freezeV_sound {E : Env} {ρ : Map} {H : Heap} {w : World} {s : SV} {v : Value} {Q : SV × Heap → Prop} (hs : Sat E ρ H w) (hv : SV.rel E.Z ρ s v) (h : (freezeV H s).Leads Q) :
    ∃ E' s' H', Q (s', H') ∧ Env.le E E' ∧ Sat E' ρ H' w ∧ SV.rel E'.Z ρ s' v ∧ H'.length = H.length := by
  unfold freezeV at h
  split at h
  · rename_i hd wd off len
    split at h
    · rename_i et ty L ho
      split at h
      case isFalse => exact h.elim
      rename_i hw
      have hw := Nat.eq_of_beq_eq_true hw
      obtain ⟨hn, hq⟩ := h
      have hob := hs.objs _ _ ho
      simp only [SO.rel] at hob
      rcases hob with ⟨h1, h2⟩ | ⟨b, C, vs, h1, h2, h3, h4, h5, h6⟩
      · have hv0 := hv
        simp only [SV.rel] at hv0
        rcases hv0 with ⟨_, g2, g3, g4⟩ | ⟨b, C, bs, cap, o, g1, _⟩
        · refine ⟨E, _, _, hq, Env.le_refl E, ?_, ?_, by simp⟩
          · have get : ∀ k (o : SO), (H.set hd (.view et ty L))[k]? = some o → o.live = true → H[k]? = some o := fun k o hk hl => by
              by_cases e : k = hd
              · subst e
                rw [List.getElem?_set_self (List.getElem?_eq_some_iff.1 ho).1] at hk
                injection hk with hk; subst hk; cases hl
              · rwa [List.getElem?_set_ne (Ne.symm e)] at hk
            refine ⟨hs.os, hs.tape, hs.output, fun k hk => hs.free k (by simpa using hk), fun k o hk => ?_, fun k k' o o' c hk hk' hl hl' hb1 hb2 => ?_, hs.zle, hs.keep, fun k o c hk hl hb1 => ?_, fun k o c hk hl hb1 => ?_, hs.old⟩
            · by_cases e : k = hd
              · subst e
                rw [List.getElem?_set_self (List.getElem?_eq_some_iff.1 ho).1] at hk
                injection hk with hk; subst hk; exact .inl ⟨h1, h2⟩
              · rw [List.getElem?_set_ne (Ne.symm e)] at hk; exact hs.objs _ _ hk
            · exact hs.inj _ _ _ _ _ (get _ _ hk hl) (get _ _ hk' hl') hl hl' hb1 hb2
            · exact hs.apart _ _ _ (get _ _ hk hl) hl hb1
            · exact hs.fresh _ _ _ (get _ _ hk hl) hl hb1
          · simp only [SV.rel]
            refine ⟨v, rfl, .inl ⟨?_, g4⟩⟩
            rw [h2]; simp
        · rw [h1] at g1; cases g1
      · obtain ⟨E', hle, hZ, hs'⟩ := hs.freeze ho h1 h2
        exact ⟨E', _, _, hq, hle, hs' (.view et ty L) rfl (.inr ⟨b, C, _, vs, h1, hZ, h3, h4, h5, Ty.lies_zone hle.z h6⟩), reads_slice (SV.rel_zone hle.z hv) h1 hw hZ (Ty.lies_zone hle.z h6) hn, by simp⟩
    · rename_i et ty L ho
      split at h
      case isFalse => exact h.elim
      rename_i hw
      have hw := Nat.eq_of_beq_eq_true hw
      obtain ⟨hn, hq⟩ := h
      have hob := hs.objs _ _ ho
      simp only [SO.rel] at hob
      refine ⟨E, _, _, hq, Env.le_refl E, hs, ?_, rfl⟩
      rcases hob with ⟨h1, h2⟩ | ⟨b, C, bs, vs, h1, h2, h3, h4, h5, h6⟩
      · have hv0 := hv
        simp only [SV.rel] at hv0
        rcases hv0 with ⟨_, g2, g3, g4⟩ | ⟨b, C, bs, cap, o, g1, _⟩
        · simp only [SV.rel]
          refine ⟨v, rfl, .inl ⟨?_, g4⟩⟩
          rw [h2]; simp
        · rw [h1] at g1; cases g1
      · exact reads_slice hv h1 hw h2 h6 hn
    · exact h.elim
  · exact ⟨E, _, _, h, Env.le_refl E, hs, hv, rfl⟩
theorem freezeVs_sound {ρ : Map} {w : World} : ∀ {ss : List SV} {vs : List Value} {E : Env} {H : Heap} {Q : List SV × Heap → Prop}, Sat E ρ H w → SV.rels E.Z ρ ss vs → (freezeVs ss H).Leads Q →
    ∃ E' ss' H', Q (ss', H') ∧ Env.le E E' ∧ Sat E' ρ H' w ∧ SV.rels E'.Z ρ ss' vs ∧ H'.length = H.length
  | [], vs, E, H, Q, hs, hv, h => ⟨E, [], H, h, Env.le_refl E, hs, hv, rfl⟩
  | s :: r, vs, E, H, Q, hs, hv, h => by
    unfold freezeVs at h
    rw [Tree.leads_bind] at h
    obtain ⟨v, vr, rfl, h1, h2⟩ := rels_head hv
    obtain ⟨E1, s', H1, hq, hle, hs1, hr1, hl1⟩ := freezeV_sound hs h1 h
    dsimp only at hq
    rw [Tree.leads_bind] at hq
    obtain ⟨E2, r', H2, hq2, hle2, hs2, hr2, hl2⟩ := freezeVs_sound hs1 (SV.rels_zone hle.z h2) hq
    exact ⟨E2, _, _, hq2, Env.le_trans hle hle2, hs2, rels_cons (SV.rel_zone hle2.z hr1) hr2, by rw [hl2, hl1]⟩
theorem InvAt.retold {n0 nt : Nat} {ρ0 : Map} {st : St} {E' : Env} {H' : Heap} {t : Nat} {v : SV} (hi : InvAt E n0 ρ0 nt st a w ρ) (hle : Env.le E E') (hs : Sat E' ρ H' w) (hr : SV.rel E'.Z ρ v (a.tmps.getD t undef)) (hl : H'.length = st.H.length) :
    InvAt E' n0 ρ0 nt { S := setSlot t v st.S, H := H', mv := st.mv, df := st.df } a w ρ := by
  refine ⟨hs, fun k => ?_, hi.size, hi.defs.mono hle.z (Map.le_refl _), by rw [hl]; exact hi.len, hi.same⟩
  rw [look_set]
  split
  · rename_i e; subst e; exact hr
  · exact SV.rel_zone hle.z (hi.held k)
theorem freezeT_sound {n0 nt : Nat} {ρ0 : Map} {st : St} {t : Nat} {Q : St → Prop} (hi : Inv E n0 ρ0 nt st a w ρ) (h : (freezeT t st).Leads Q) : ∃ st', Q st' ∧ Inv E n0 ρ0 nt st' a w ρ := by
  obtain ⟨E1, hE, hi⟩ := hi
  unfold freezeT at h
  have ht := hi.held t
  split at h
  · rename_i cs hc
    rw [hc] at ht
    simp only [SV.rel] at ht
    obtain ⟨vs, h1, h2⟩ := ht
    rw [Tree.leads_bind] at h
    obtain ⟨E2, cs', H', hq, hle, hs, hr, hl⟩ := freezeVs_sound hi.sat h2 h
    exact ⟨_, hq, E2, Env.to_trans hE hle, hi.retold hle hs (by simp only [SV.rel]; exact ⟨vs, h1, hr⟩) hl⟩
  · rw [Tree.leads_bind] at h
    obtain ⟨E2, v', H', hq, hle, hs, hr, hl⟩ := freezeV_sound hi.sat ht h
    exact ⟨_, hq, E2, Env.to_trans hE hle, hi.retold hle hs hr hl⟩
theorem freezeOps_sound {n0 nt : Nat} {ρ0 : Map} : ∀ {l : List (Nat × Operand)} {st : St} {Q : St → Prop}, Inv E n0 ρ0 nt st a w ρ → (freezeOps l st).Leads Q → ∃ st', Q st' ∧ Inv E n0 ρ0 nt st' a w ρ
  | [], st, Q, hi, h => ⟨st, h, hi⟩
  | (_, .tmp t) :: r, st, Q, hi, h => by
    unfold freezeOps at h
    rw [Tree.leads_bind] at h
    obtain ⟨st1, hq, hi1⟩ := freezeT_sound hi h
    exact freezeOps_sound hi1 hq
  | (_, .const _) :: r, st, Q, hi, h => freezeOps_sound (l := r) hi h
  | (_, .global _) :: r, st, Q, hi, h => freezeOps_sound (l := r) hi h
  | (_, .func _) :: r, st, Q, hi, h => freezeOps_sound (l := r) hi h
theorem stepOp0_sound {T : Table} {n0 nt : Nat} {ρ0 : Map} {o : Oper} {st : St} {Q : St → Prop} {next : Act → World → Prop} {Qx : Exit → Act → World → Prop}
    (hT : TableOK P T E.bye) (hi : Inv E n0 ρ0 nt st a w ρ) (h : (stepOp0 T P nt o st).Leads Q)
    (hk : ∀ st' a' w' ρ', Q st' → Inv E n0 ρ0 nt st' a' w' ρ' → next a' w') : o.wp P a w next Qx := by
  obtain ⟨E1, hE, hi⟩ := hi
  unfold stepOp0 at h
  split at h
  case isFalse => exact h.elim
  rename_i hd
  simp only [Bool.and_eq_true] at hd
  obtain ⟨hd, hupd⟩ := hd
  rw [Tree.leads_bind] at h
  have plain : ((xval P st.S st.H o.op).bind fun (sv, on) => Tree.ret (sv, st.H ++ on.toList)).Leads (fun r => (Tree.ret { S := setDst o.dst r.1 st.S, H := r.2, mv := st.mv, df := st.df : St }).Leads Q) → o.wp P a w next Qx := fun h => by
    rw [Tree.leads_bind] at h
    obtain ⟨sv, on, v, w1, hq, hr, hm⟩ := xval_sound (P := P) hi.sat hi.held h
    obtain ⟨ρ', hle, hs', hrel, hkp⟩ := hi.sat.made hm
    unfold Oper.wp
    rw [hr, Oper.upon_value]
    refine hk _ _ _ ρ' hq ⟨E1, hE, hs', (hi.held.mono hle).put hd hi.size hrel, by rw [put_size]; exact hi.size, by rw [put_defers]; exact hi.defs.mono (fun _ _ h => h) hle, ?_, fun k hk hm => ?_⟩
    · simp; have := hi.len; omega
    · rw [hkp k (Nat.lt_of_lt_of_le hk hi.len)]; exact hi.same k hk hm
  unfold xrun at h
  split at h
  · -- store
    rename_i t ad v hop
    rw [Tree.leads_bind] at h
    obtain ⟨H', w1, hq, hr, hs', hl⟩ := xstore_sound hi.sat (ev_rel hi.held ad) (ev_rel hi.held v) h
    unfold Oper.wp
    have he : (execOp a.eval o).run P w = .ok .skip w1 := by
      simp only [execOp, hop]; simp [hr]
    rw [he, Oper.upon_skip]
    exact hk _ _ _ ρ hq ⟨E1, hE, hs', hi.held.put hd hi.size (by simp [SV.rel, undef]), by rw [put_size]; exact hi.size, by rw [put_defers]; exact hi.defs, by rw [hl]; exact hi.len, hi.same⟩
  · -- append
    rename_i args argTypes hop
    split at h
    case h_2 => exact h.elim
    rename_i s x t u he1 he2
    obtain rfl : args = #[s, x] := by apply Array.ext'; simpa using he1
    obtain rfl : argTypes = #[t, u] := by apply Array.ext'; simpa using he2
    obtain ⟨sv, H', v, w1, ρ', hq, hr, hrel, hs', hle, hkp, hlen⟩ := xappends_sound (ty0 := o.type) hi.sat (ev_rel hi.held s) (ev_rel hi.held x) h
    unfold Oper.wp
    have he : (execOp a.eval o).run P w = .ok (.value v) w1 := by
      simp only [execOp, hop]; simp [resolve, invoke, builtin, hr]
    rw [he, Oper.upon_value]
    refine hk _ _ _ ρ' hq ⟨E1, hE, hs', (hi.held.mono hle).put hd hi.size hrel, by rw [put_size]; exact hi.size, by rw [put_defers]; exact hi.defs.mono (fun _ _ h => h) hle, by have := hi.len; simp; omega, fun k hk hm => ?_⟩
    rw [hkp k (Nat.lt_of_lt_of_le hk hi.len)]; exact hi.same k hk hm
  · -- clear
    rename_i args argTypes hop
    split at h
    case h_2 => exact h.elim
    rename_i s t he1 he2
    obtain rfl : args = #[s] := by apply Array.ext'; simpa using he1
    obtain rfl : argTypes = #[t] := by apply Array.ext'; simpa using he2
    rw [Tree.leads_bind] at h
    obtain ⟨H', w1, hq, hr, hs', hlen⟩ := xclear_sound (ty0 := o.type) hi.sat (ev_rel hi.held s) h
    unfold Oper.wp
    have he : (execOp a.eval o).run P w = .ok (.value (.tuple #[])) w1 := by
      simp only [execOp, hop]; simp [resolve, invoke, builtin, hr]
    rw [he, Oper.upon_value]
    exact hk _ _ _ ρ hq ⟨E1, hE, hs', hi.held.put hd hi.size (by simp [SV.rel]), by rw [put_size]; exact hi.size, by rw [put_defers]; exact hi.defs, by rw [hlen]; exact hi.len, hi.same⟩
  · -- a call
    rename_i f args argTypes hop
    split at h
    case h_2 => exact h.elim
    rename_i g cap hc
    obtain ⟨vs, hfv, hcap⟩ := callee_sound hc (ev_rel hi.held f)
    have hargs : SV.rels E1.Z ρ (cap ++ args.toList.map (ev st.S)) (vs ++ args.toList.map a.eval) := rels_append hcap (rels_map hi.held _)
    have he : (execOp a.eval o).run P w = (callFunc g (vs ++ args.toList.map a.eval).toArray).run P w := by
      simp only [execOp, hop]
      have e : vs.toArray ++ args.map a.eval = (vs ++ args.toList.map a.eval).toArray := by rw [args_map]; simp
      simp [resolve, invoke, hfv, Deferred.ofValue, ← e]
    have enter : ∀ s, CallOK P g s → (s (cap ++ args.toList.map (ev st.S)) st.H).Leads (fun r => (Tree.ret { S := setDst o.dst r.1 st.S, H := r.2, mv := st.mv, df := st.df : St }).Leads Q) → o.wp P a w next Qx := fun s hok h => by
      unfold Oper.wp
      rw [he, hok.1, Oper.upon_enter]
      refine (hok.2 E1 ρ _ _ w _ _ hi.sat hargs h).mono ?_
      rintro e w1 ⟨E2, ρ', sv, H', v, hq, rfl, hE2, hrel, hs', hlen, hkeep⟩
      have hle : Map.le ρ ρ' := fun k x hx => by
        rcases Nat.lt_or_ge k st.H.length with h1 | h1
        · rw [hkeep _ h1]; exact hx
        · rw [hi.sat.free _ h1] at hx; cases hx
      refine hk _ _ _ ρ' hq ⟨E2, Env.to_trans hE hE2, hs', ((hi.held.mono hle).zone hE2.z).put hd hi.size hrel, by rw [put_size]; exact hi.size, by rw [put_defers]; exact hi.defs.mono hE2.z hle, by have := hi.len; simp; omega, fun k hk hm => ?_⟩
      rw [hkeep k (Nat.lt_of_lt_of_le hk hi.len)]
      exact hi.same k hk hm
    unfold xcall at h
    split at h
    · rename_i s hTs
      exact enter _ (lift_sound (hT _ _ hTs)) h
    · rename_i s hTs
      exact enter _ (lift_sound (hT _ _ hTs).1) h
    · rename_i s hTs
      exact enter _ (hT _ _ hTs) h
    · rename_i s hTs
      have hok := hT _ _ hTs
      obtain ⟨sv, H', v, w1, hq, hr, hrel, hs', hl⟩ := hok E1 ρ _ _ w _ _ hi.sat hargs h
      unfold Oper.wp
      rw [he, hr, Oper.upon_value]
      exact hk _ _ _ ρ hq ⟨E1, hE, hs', hi.held.put hd hi.size hrel, by rw [put_size]; exact hi.size, by rw [put_defers]; exact hi.defs, by rw [hl]; exact hi.len, hi.same⟩
    · exact h.elim
    · exact h.elim
    · exact h.elim
  · -- a new map
    rename_i t hop
    obtain ⟨sv, H', v, w1, ρ', hq, hr, hrel, hs', hle, hkp, hlen⟩ := xmakeMaps_sound (P := P) hi.sat h
    unfold Oper.wp
    have he : (execOp a.eval o).run P w = .ok (.value v) w1 := by
      simp only [execOp, hop]; simp [hr]
    rw [he, Oper.upon_value]
    refine hk _ _ _ ρ' hq ⟨E1, hE, hs', (hi.held.mono hle).put hd hi.size hrel, by rw [put_size]; exact hi.size, by rw [put_defers]; exact hi.defs.mono (fun _ _ h => h) hle, by have := hi.len; simp; omega, fun k hk hm => ?_⟩
    rw [hkp k (Nat.lt_of_lt_of_le hk hi.len)]; exact hi.same k hk hm
  · -- a name looked up
    rename_i t m x c hop
    rw [Tree.leads_bind] at h
    obtain ⟨sv, v, hq, hr, hrel⟩ := xlookups_sound (P := P) hi.sat (ev_rel hi.held m) (ev_rel hi.held x) h
    unfold Oper.wp
    have he : (execOp a.eval o).run P w = .ok (.value v) w := by
      simp only [execOp, hop]; simp [hr]
    rw [he, Oper.upon_value]
    exact hk _ _ _ ρ hq ⟨E1, hE, hi.sat, hi.held.put hd hi.size hrel, by rw [put_size]; exact hi.size, by rw [put_defers]; exact hi.defs, hi.len, hi.same⟩
  · -- a new name
    rename_i t m x u hop
    rw [Tree.leads_bind] at h
    obtain ⟨h0, H', w1, ρ', hq, hm0, hr, hs', hmore, hkp, hlen⟩ := xupdates_sound (P := P) hi.sat (ev_rel hi.held m) (ev_rel hi.held x) (ev_rel hi.held u) h
    unfold Oper.wp
    have he : (execOp a.eval o).run P w = .ok .skip w1 := by
      simp only [execOp, hop]; simp [hr]
    rw [he, Oper.upon_skip]
    have hin : memN h0 st.mv = true := by
      unfold updOK at hupd
      rw [hop] at hupd
      dsimp only at hupd
      rw [hm0] at hupd; exact hupd
    refine hk _ _ _ ρ' hq ⟨E1, hE, hs', (hi.held.more hmore).put hd hi.size (by simp [SV.rel, undef]), by rw [put_size]; exact hi.size, by rw [put_defers]; exact hi.defs.more hmore, by rw [hlen]; exact hi.len, fun k hk hm => ?_⟩
    have : k ≠ h0 := fun e => by subst e; rw [hin] at hm; cases hm
    rw [hkp k this]; exact hi.same k hk hm
  · exact plain h
theorem holdT_sound {n0 nt : Nat} {ρ0 : Map} {t : TypeId} {s : Nat} {st : St} {Q : St → Prop} (hi : Inv E n0 ρ0 nt st a w ρ) (h : (holdT P t s st).Leads Q) : ∃ st' ρ', Q st' ∧ Inv E n0 ρ0 nt st' a w ρ' := by
  unfold holdT at h
  split at h
  case h_2 => exact h.elim
  rename_i cs hl
  split at h
  case h_2 => exact h.elim
  rename_i ty hty
  split at h
  case h_2 => exact h.elim
  rename_i c hc
  split at h
  case h_2 => exact h.elim
  rename_i v hv
  rw [Tree.leads_bind] at h
  obtain ⟨E1, hE, hi⟩ := hi
  have hh := hi.held s
  rw [hl] at hh
  simp only [SV.rel] at hh
  obtain ⟨vs, hvs, hr⟩ := hh
  obtain ⟨v0, hv0, hr0⟩ := rels_get hr hv
  obtain ⟨E2, ρ', c', H', hq, hle, hlem, hsame, hlen, hs2, hrel⟩ := holdV_sound (P := P) hi.sat hr0 h
  refine ⟨_, ρ', hq, E2, Env.to_trans hE hle, hs2, fun t' => ?_, hi.size, hi.defs.mono hle.z hlem, Nat.le_trans hi.len hlen, fun k hk hm => ?_⟩
  · rw [look_set]
    split
    · rename_i e; subst e
      simp only [SV.rel]
      exact ⟨vs, hvs, rels_set (SV.rels_zone hle.z (SV.rels_mono hlem hr)) hv0 hrel⟩
    · exact SV.rel_zone hle.z (SV.rel_mono hlem (hi.held t'))
  · have := hi.len
    rw [hsame k (by omega)]; exact hi.same k hk hm
theorem stepOp_sound {T : Table} {n0 nt : Nat} {ρ0 : Map} {o : Oper} {st : St} {Q : St → Prop} {next : Act → World → Prop} {Qx : Exit → Act → World → Prop}
    (hT : TableOK P T E.bye) (hi : Inv E n0 ρ0 nt st a w ρ) (h : (stepOp T P nt o st).Leads Q)
    (hk : ∀ st' a' w' ρ', Q st' → Inv E n0 ρ0 nt st' a' w' ρ' → next a' w') : o.wp P a w next Qx := by
  unfold stepOp at h
  split at h
  · rename_i t n ps hop
    split at h
    · split at h
      case h_2 => exact h.elim
      rename_i s hps
      unfold stepKeep at h
      split at h
      case isFalse => exact h.elim
      rename_i hd
      split at h
      case h_2 => exact h.elim
      rename_i e hu
      split at h
      case isFalse => exact h.elim
      rename_i hsz
      simp only [Bool.and_eq_true] at hsz
      obtain ⟨hsz, hz⟩ := hsz
      obtain ⟨z, hzz, hz⟩ := zero1_some hz
      split at h
      case h_2 => exact h.elim
      rename_i hh wd len hlook
      obtain rfl : ps = #[(0, .tmp s)] := by apply Array.ext'; simpa using hps
      obtain ⟨E1, hE, hi⟩ := hi
      have hv := hi.held s
      rw [hlook] at hv
      have fin : ∀ (E2 : Env) (ρ' : Map) (H' : Heap) (base : Option Addr) (cap : Nat), Env.le E1 E2 → Map.le ρ ρ' → (∀ k, k < st.H.length → ρ' k = ρ k) → st.H.length ≤ H'.length → a.tmps.getD s undef = .slice base len cap →
          Sat E2 ρ' H' (w.alloc (.cells #[a.tmps.getD s undef] e)) → SV.rel E2.Z ρ' (.sl st.H.length 1 0 1) (.slice (some ⟨w.heap.size, 0, none⟩) 1 1) → Q { S := setDst o.dst (.sl st.H.length 1 0 1) st.S, H := H', mv := st.mv, df := st.df } → o.wp P a w next Qx := fun E2 ρ' H' base cap hle hlem hsame hlen hv2 hs2 hrel hq => by
        unfold Oper.wp
        have he : (execOp a.eval o).run P w = .ok (.value (.slice (some ⟨w.heap.size, 0, none⟩) 1 1)) (w.alloc (.cells #[.slice base len cap] e)) := by
          have hr := run_build1 (P := P) (w := w) (base := base) (n := len) (cap := cap) hu hsz hzz hz
          have hev : a.eval (.tmp s) = .slice base len cap := hv2
          simp only [execOp, hop]
          simp [hev, hr]
        rw [he, Oper.upon_value]
        rw [hv2] at hs2
        refine hk _ _ _ _ hq ⟨E2, Env.to_trans hE hle, hs2, ((hi.held.mono hlem).zone hle.z).put hd hi.size hrel, by rw [put_size]; exact hi.size, by rw [put_defers]; exact hi.defs.mono hle.z hlem, Nat.le_trans hi.len hlen, fun k hk hm => ?_⟩
        have := hi.len
        rw [hsame k (by omega)]; exact hi.same k hk hm
      split at h
      · rename_i e2 ty L ho
        split at h
        case isFalse => exact h.elim
        rename_i hw
        have := Nat.eq_of_beq_eq_true hw; subst this
        obtain ⟨hn, hq⟩ := h
        obtain ⟨E2, x, hle, ⟨base, cap, hv2⟩, hs2, hrel⟩ := hi.sat.keep1 (e := e) ho hn hv
        exact fin E2 _ _ base cap hle (Map.le_put (hi.sat.free _ (Nat.le_refl _))) (fun k hk => put_ne (by omega)) (by simp) hv2 hs2 hrel hq
      · rename_i e2 ty L ho
        split at h
        case isFalse => exact h.elim
        rename_i hw
        have := Nat.eq_of_beq_eq_true hw; subst this
        obtain ⟨hn, hq⟩ := h
        obtain ⟨x, ⟨base, cap, hv2⟩, hs2, hrel⟩ := hi.sat.keepH (e := e) ho hn hv
        exact fin E1 _ _ base cap (Env.le_refl _) (Map.le_put (hi.sat.free _ (Nat.le_refl _))) (fun k hk => put_ne (by omega)) (by simp) hv2 hs2 hrel hq
      · rename_i e2 eN ty L ho
        split at h
        case h_2 => exact h.elim
        rename_i c hc
        split at h
        case isFalse => exact h.elim
        rename_i hw
        have := Nat.eq_of_beq_eq_true hw; subst this
        obtain ⟨hn, hq⟩ := h
        obtain ⟨E2, ρ', hle, hlem, hsame, ⟨base, cap, hv2⟩, hs2, hrel⟩ := hi.sat.keepD (e := e) ho hc hn hv
        exact fin E2 ρ' _ base cap hle hlem hsame (by simp) hv2 hs2 hrel hq
      · exact h.elim
    · split at h
      · exact stepOp0_sound hT hi h hk
      · rw [Tree.leads_bind] at h
        obtain ⟨st1, hq, hi1⟩ := freezeOps_sound hi h
        exact stepOp0_sound hT hi1 hq hk
  · rename_i f args argTypes hop
    split at h
    case h_2 => exact stepOp0_sound hT hi h hk
    rename_i g cap hc
    split at h
    · rename_i s hTs
      obtain ⟨hbye, hok⟩ := hT _ _ hTs
      split at h
      case isFalse => exact h.elim
      rename_i hd
      simp only [Bool.and_eq_true] at hd
      obtain ⟨hd, hdf⟩ := hd
      obtain ⟨E1, hE, hi⟩ := hi
      obtain ⟨vs, hfv, hcap⟩ := callee_sound hc (ev_rel hi.held f)
      have hargs : SV.rels E1.Z ρ (cap ++ args.toList.map (ev st.S)) (vs ++ args.toList.map a.eval) := rels_append hcap (rels_map hi.held _)
      have he : (execOp a.eval o).run P w = (callFunc g (vs ++ args.toList.map a.eval).toArray).run P w := by
        simp only [execOp, hop]
        have e : vs.toArray ++ args.map a.eval = (vs ++ args.toList.map a.eval).toArray := by rw [args_map]; simp
        simp [resolve, invoke, hfv, Deferred.ofValue, ← e]
      rw [Tree.leads_bind] at h
      unfold Oper.wp
      rw [he, hok.1, Oper.upon_enter]
      refine (hok.2 E1 ρ _ _ w _ _ hi.sat hargs h).mono ?_
      rintro e w1 ⟨E2, x, H', hq, rfl, hlow, hs2⟩
      dsimp only at hq
      refine hk _ _ _ (fun _ => none) hq ⟨E2, Env.to_low hE hbye hlow, ?_, ?_, by rw [put_size]; exact hi.size, ?_, by simpa [byeSt] using hi.len, fun k hk hm => ?_⟩
      · have hdead : ∀ (k : Nat) (o : SO), (st.H.map (fun _ => SO.dead))[k]? = some o → o = .dead := fun k o ho => by
          rw [List.getElem?_map] at ho
          cases hH : st.H[k]? with
          | none => rw [hH] at ho; cases ho
          | some p => rw [hH] at ho; injection ho with ho; exact ho.symm
        refine ⟨hs2.os, hs2.tape, hs2.output, fun _ _ => rfl, fun k o ho => ?_, fun k k' o o' b ho ho' hl => ?_, hs2.zle, hs2.keep, fun k o b ho hl => ?_, fun k o b ho hl => ?_, hs2.old⟩
        · rw [hdead k o ho]; trivial
        · rw [hdead k o ho] at hl; cases hl
        · rw [hdead k o ho] at hl; cases hl
        · rw [hdead k o ho] at hl; cases hl
      · have hh : HeldBy E2 (fun _ => none) (fun t => SV.litOnly (st.S t)) a := fun t => rel_litOnly (hi.held t)
        exact hh.put hd hi.size (by simp [SV.rel])
      · rw [put_defers]
        have := hi.defs
        unfold noDf1 at hdf
        split at hdf
        · rename_i e; rw [e] at this; exact this
        · cases hdf
      · have : memN k (uptoN st.H.length) = true := memN_iff.2 (uptoN_mem.2 (Nat.lt_of_lt_of_le hk hi.len))
        have hm : memN k (uptoN st.H.length) = false := hm
        rw [this] at hm; cases hm
    · split at h
      · rename_i hTs
        split at h
        case isFalse => exact h.elim
        rename_i hdf
        exact stepOp0_sound hT (hi.thaw (hT _ _ hTs) hdf) h hk
      · exact stepOp0_sound hT hi h hk
  · split at h
    · rw [Tree.leads_bind] at h
      obtain ⟨st1, hq, hi1⟩ := freezeOps_sound hi h
      exact stepOp0_sound hT hi1 hq hk
    · split at h
      · split at h
        case h_2 => exact h.elim
        rw [Tree.leads_bind] at h
        obtain ⟨st1, ρ1, hq, hi1⟩ := holdT_sound hi h
        exact stepOp0_sound hT hi1 hq hk
      · exact stepOp0_sound hT hi h hk
  · rename_i f args argTypes hop
    split at h
    case isFalse => exact h.elim
    rename_i hd
    split at h
    case h_2 => exact h.elim
    rename_i g cap hc
    obtain ⟨E1, hE, hi⟩ := hi
    obtain ⟨vs, hfv, hcap⟩ := callee_sound hc (ev_rel hi.held f)
    have hargs : SV.rels E1.Z ρ (cap ++ args.toList.map (ev st.S)) (vs ++ args.toList.map a.eval) := rels_append hcap (rels_map hi.held _)
    have he : (execOp a.eval o).run P w = .ok (.defer { target := .fn (.func g) #[], args := vs.toArray ++ args.map a.eval }) w := by
      simp only [execOp, hop]
      simp [resolve, hfv, Deferred.ofValue]
    unfold Oper.wp
    rw [he, Oper.upon_defer]
    refine hk _ _ _ ρ h ⟨E1, hE, hi.sat, ?_, by rw [put_size]; exact hi.size, ?_, hi.len, hi.same⟩
    · have hh : HeldBy E1 ρ st.S { a with defers := { target := .fn (.func g) #[], args := vs.toArray ++ args.map a.eval } :: a.defers } := hi.held
      exact hh.put hd hi.size (by simp [SV.rel])
    · rw [put_defers]
      refine ⟨#[], vs.toArray ++ args.map a.eval, a.defers, _, rfl, ?_, hargs, hi.defs⟩
      rw [args_map]; simp
  · exact stepOp0_sound hT hi h hk
end Sx
