/- Regions, code, loops; a function's summary off its body. -/
import Derived.Test.YtlcobcpgaoeijaaGreatSxPo
set_option linter.unusedVariables false
set_option linter.unusedSimpArgs false
namespace Sx
open Go
variable {P : Program} {E : Env} {ρ : Map} {S : Slots} {H : Heap} {a : Act} {w w' : World} {Z : Zone}
inductive Ex where
  | normal
  | exit (id : Nat)
  | ret
def Ex.to : Ex → Exit
  | .normal => .normal
  | .exit id => .exit id
  | .ret => .ret
structure Head : Type 1 where
  X : Type
  inv : X → List SV × Heap
  ok : X → Prop
  mu : X → Nat
structure Ann : Type 1 where
  live : List Nat
  mv : List Nat
  head : List SV → Heap → Head
  nilS : List (Nat × TypeId × Ty) := []
  nilH : List (TypeId × Nat × TypeId × Ty) := []
  peel : Nat := 0
  hook : Nat := 0
  hk2 : TypeId := 0
  leave : List SV → Heap → Bool := fun _ _ => false
  next : Nat := 0
def inKind : Nat → Nat
  | 0 => 0
  | 8 => 9
  | _ => 5
def upto : Nat → List Nat
  | 0 => []
  | n + 1 => upto n ++ [n]
def mvOf (σ : List Nat) : List Nat → List Nat
  | [] => []
  | k :: r => match σ[k]? with
    | some x => if Nat.beq x k then mvOf σ r else k :: mvOf σ r
    | none => k :: mvOf σ r
def canon (n0 : Nat) (args vals : List SV) (H : Heap) : Option (List SV × Heap × List Nat) :=
  let σ := order H (SV.handless args) (SV.handless vals)
  if nodupN σ then match SV.rens (place σ) vals, picks (place σ) H σ with
    | some vals', some H' => some (vals', H', mvOf σ (upto n0))
    | _, _ => none
  else none
def mvOK (n0 : Nat) (mv mv' : List Nat) : Bool := mv.all fun k => Nat.ble n0 k || memN k mv'
def slotsOf : List Nat → List SV → Slots
  | k :: ks, v :: vs => fun t => if Nat.beq t k then v else slotsOf ks vs t
  | _, _ => fun _ => .junk
theorem mvOf_not {σ : List Nat} {k : Nat} : ∀ {l : List Nat}, k ∈ l → memN k (mvOf σ l) = false → σ[k]? = some k
  | [], h, _ => by cases h
  | x :: r, h, hm => by
    simp only [mvOf] at hm
    rcases List.mem_cons.1 h with rfl | h
    · split at hm
      · rename_i y hy
        split at hm
        · rename_i hb; have := Nat.eq_of_beq_eq_true hb; subst this; exact hy
        · simp [memN] at hm
      · simp [memN] at hm
    · split at hm
      · split at hm
        · exact mvOf_not h hm
        · simp only [memN] at hm; split at hm <;> first | cases hm | exact mvOf_not h hm
      · simp only [memN] at hm; split at hm <;> first | cases hm | exact mvOf_not h hm
theorem upto_mem : ∀ {n k : Nat}, k < n → k ∈ upto n
  | 0, k, h => by omega
  | n + 1, k, h => by
    simp only [upto, List.mem_append, List.mem_singleton]
    by_cases e : k = n
    · exact .inr e
    · exact .inl (upto_mem (by omega))
theorem canon_sound {n0 : Nat} {args vals vals' : List SV} {vs : List Value} {H' : Heap} {mv : List Nat} (hs : Sat E ρ H w) (hr : SV.rels E.Z ρ vals vs) (h : canon n0 args vals H = some (vals', H', mv)) :
    ∃ ρ', Sat E ρ' H' w ∧ SV.rels E.Z ρ' vals' vs ∧ ∀ k, k < n0 → memN k mv = false → ρ' k = ρ k := by
  unfold canon at h
  dsimp only at h
  generalize hσ : order H (SV.handless args) (SV.handless vals) = σ at h
  split at h
  case isFalse => cases h
  rename_i hn
  split at h
  · rename_i v1 H1 h1 h2
    injection h with h; injection h with e1 e2; injection e2 with e2 e3; subst e1; subst e2; subst e3
    refine ⟨ρ.pick σ, hs.picks hn h2, SV.rels_ren pick_le h1 hr, fun k hk hm => ?_⟩
    simp only [Map.pick, mvOf_not (upto_mem hk) hm]
  · cases h
def vals (S : Slots) (l : List Nat) : List SV := l.map (look S)
theorem vals_rels (hS : HeldBy E ρ S a) : ∀ l : List Nat, SV.rels E.Z ρ (vals S l) (l.map fun t => a.tmps.getD t undef)
  | [] => by simp [vals, SV.rels]
  | t :: l => rels_cons (hS t) (vals_rels hS l)
theorem slotsOf_held : ∀ {l : List Nat} {vs : List SV}, SV.rels E.Z ρ vs (l.map fun t => a.tmps.getD t undef) → HeldBy E ρ (slotsOf l vs) a
  | [], vs, _ => fun t => by simp [slotsOf, look, SV.rel]
  | k :: l, [], h => fun t => by simp [slotsOf, look, SV.rel]
  | k :: l, v :: vs, h => fun t => by
    simp only [List.map_cons, SV.rels] at h
    obtain ⟨u, r, he, h1, h2⟩ := h
    injection he with e1 e2; subst e1; subst e2
    simp only [slotsOf, look]
    split
    · rename_i hk; have := Nat.eq_of_beq_eq_true hk; subst this; exact h1
    · exact slotsOf_held h2 t
def headOf (An : Ann) (c : List SV × Heap) : St := { S := slotsOf An.live c.1, H := c.2, mv := An.mv, df := [] }
def noDf (st : St) : Bool := match st.df with
  | [] => true
  | _ => false
theorem noDf_nil {st : St} (h : noDf st = true) : st.df = [] := by
  unfold noDf at h
  split at h
  · assumption
  · cases h
theorem Inv.head {n0 nt : Nat} {ρ0 : Map} {st : St} {An : Ann} {x : List SV × Heap} {args : List SV} {c : List SV × Heap} {mv : List Nat} (hi : Inv E n0 ρ0 nt st a w ρ)
    (hc : canon n0 args (vals st.S An.live) st.H = some (c.1, c.2, mv)) (hx : c = x) (hm : mvOK n0 (mv ++ st.mv) An.mv = true) (hlen : n0 ≤ c.2.length) (hdf : noDf st = true) :
    ∃ ρ', Inv E n0 ρ0 nt (headOf An x) a w ρ' := by
  subst hx
  obtain ⟨E1, hE, hi⟩ := hi
  have hd := hi.defs
  rw [noDf_nil hdf] at hd
  obtain ⟨ρ', h1, h2, h4⟩ := canon_sound hi.sat (vals_rels hi.held An.live) hc
  have hmem : ∀ k, k < n0 → memN k An.mv = false → memN k mv = false ∧ memN k st.mv = false := fun k hk hmk => by
    have h0 : memN k (mv ++ st.mv) = false := by
      cases hmm : memN k (mv ++ st.mv) with
      | false => rfl
      | true =>
        have := List.all_eq_true.1 hm k (memN_iff.1 hmm)
        simp only [Bool.or_eq_true] at this
        rcases this with h | h
        · have := Nat.le_of_ble_eq_true h; omega
        · rw [h] at hmk; cases hmk
    rw [memN_append] at h0
    simpa using h0
  refine ⟨ρ', E1, hE, h1, slotsOf_held h2, hi.size, hd, hlen, fun k hk hmk => ?_⟩
  obtain ⟨g1, g2⟩ := hmem k hk hmk
  rw [h4 k hk g1]
  exact hi.same k hk g2
def unroll (body : St → Tree (Ex × St)) : Nat → St → Tree (Ex × St)
  | 0, _ => .fail
  | n + 1, st => (body st).bind fun (e, st') => match e with
    | .normal => unroll body n st'
    | e => .ret (e, st')
def forceSV {α : Type} (v : SV) (k : SV → Tree α) : Tree α := match v with
  | .lit v => k (.lit v)
  | .ptr h o => k (.ptr h o)
  | .ept h wd i j => k (.ept h wd i j)
  | .sl h wd off len => k (.sl h wd off len)
  | .imm t l => k (.imm t l)
  | .ipt t l i j => k (.ipt t l i j)
  | .agg cs => k (.agg cs)
  | .tup cs => k (.tup cs)
  | .fn f cap => k (.fn f cap)
  | .junk => k .junk
  | .mp h => k (.mp h)
  | .tref h i => k (.tref h i)
  | .kseq f mt h => k (.kseq f mt h)
theorem forceSV_eq {α : Type} {k : SV → Tree α} : ∀ v, forceSV v k = k v := fun v => by cases v <;> rfl
def forceL {α : Type} : List SV → (List SV → Tree α) → Tree α
  | [], k => k []
  | v :: r, k => forceSV v fun v' => forceL r fun r' => k (v' :: r')
theorem forceL_eq {α : Type} : ∀ (l : List SV) (k : List SV → Tree α), forceL l k = k l
  | [], k => rfl
  | v :: r, k => by simp only [forceL, forceSV_eq, forceL_eq r]
def forceSO {α : Type} (o : SO) (k : SO → Tree α) : Tree α := match o with
  | .cells et cs => forceL cs fun cs' => k (.cells et cs')
  | .row et t l => k (.row et t l)
  | .dead => k .dead
  | .view et t l => k (.view et t l)
  | .kept et e2 t l => k (.kept et e2 t l)
  | .lists et e2 t A B x D => match x with
    | none => k (.lists et e2 t A B none D)
    | some (y, n) => k (.lists et e2 t A B (some (y, n)) D)
  | .tmap R et l => k (.tmap R et l)
  | .imap R l => k (.imap R l)
  | .alias h i => k (.alias h i)
  | .drow et e2 t l => k (.drow et e2 t l)
  | .dview et e2 t l g j x => match x with
    | none => k (.dview et e2 t l g j none)
    | some (y, n) => k (.dview et e2 t l g j (some (y, n)))
  | .hold et t l => k (.hold et t l)
  | .prow et e2 t x g n => k (.prow et e2 t x g n)
theorem forceSO_eq {α : Type} {k : SO → Tree α} : ∀ o, forceSO o k = k o := fun o => by
  cases o <;> simp only [forceSO, forceL_eq]
  all_goals split <;> rfl
def forceH {α : Type} : Heap → (Heap → Tree α) → Tree α
  | [], k => k []
  | o :: r, k => forceSO o fun o' => forceH r fun r' => k (o' :: r')
theorem forceH_eq {α : Type} : ∀ (l : Heap) (k : Heap → Tree α), forceH l k = k l
  | [], k => rfl
  | v :: r, k => by simp only [forceH, forceSO_eq, forceH_eq r]
def peelN (body : St → Tree (Ex × St)) (live : List Nat) (k : St → Tree (Ex × St)) : Nat → St → Tree (Ex × St)
  | 0, st => k st
  | n + 1, st => (body st).bind fun (e, st') => match e with
    | .normal => forceL (vals st'.S live) fun vs => forceH st'.H fun H' => peelN body live k n { S := slotsOf live vs, H := H', mv := st'.mv, df := st'.df }
    | e => .ret (e, st')
def loopT (body : St → Tree (Ex × St)) (args : List SV) (n0 : Nat) (An : Nat → Option Ann) : Nat → Ann → St → Tree (Ex × St)
  | 0, _, _ => .fail
  | k + 1, An', st => hookT An'.hook An'.hk2 st fun st => match canon n0 args (vals (nilAll An'.nilS An'.nilH st).S An'.live) (nilAll An'.nilS An'.nilH st).H with
        | some (c1, c2, mv) => if mvOK n0 (mv ++ (nilAll An'.nilS An'.nilH st).mv) An'.mv && (Nat.ble n0 c2.length && noDf (nilAll An'.nilS An'.nilH st)) then
          .need (∃ x, (c1, c2) = (An'.head c1 c2).inv x ∧ (An'.head c1 c2).ok x) (.any (An'.head c1 c2).X (An'.head c1 c2).ok fun x => (hookT (inKind An'.hook) An'.hk2 (headOf An' ((An'.head c1 c2).inv x)) body).bind fun (e, st') => match e with
            | .normal => hookT An'.hook An'.hk2 st' fun st' => match canon n0 args (vals (nilAll An'.nilS An'.nilH st').S An'.live) (nilAll An'.nilS An'.nilH st').H with
              | some (d1, d2, mv') => if An'.leave d1 d2 then match An An'.next with
                  | some A2 => loopT body args n0 An k A2 st'
                  | none => .fail
                else if mvOK n0 (mv' ++ (nilAll An'.nilS An'.nilH st').mv) An'.mv && (Nat.ble n0 d2.length && noDf (nilAll An'.nilS An'.nilH st')) then .need (∃ x', (d1, d2) = (An'.head c1 c2).inv x' ∧ (An'.head c1 c2).ok x' ∧ (An'.head c1 c2).mu x' < (An'.head c1 c2).mu x) .done else .fail
              | none => .fail
            | e => .ret (e, st'))
          else .fail
        | none => .fail
def firstReg : Code → Option Nat
  | .region id _ _ => some id
  | .seq x _ => firstReg x
  | .block _ c => firstReg c
  | .loop c => firstReg c
  | .cond _ x y => match firstReg x with
    | some r => some r
    | none => firstReg y
  | _ => none
def joinAt (An : Nat → Option Ann) (y : Code) : Option Ann := match firstReg y with
  | some r => An (3000000 + r)
  | none => none
def joinT (J : Ann) (args : List SV) (n0 : Nat) (bx : St → Tree (Ex × St)) (cont : St → Tree (Ex × St)) (st : St) : Tree (Ex × St) :=
  match canon n0 args (vals (nilAll J.nilS J.nilH st).S J.live) (nilAll J.nilS J.nilH st).H with
  | some (c1, c2, _) => .any Bool (fun _ => True) fun b => .ite b
      ((bx st).bind fun (e, st') => match e with
        | .normal => hookT J.hook J.hk2 st' fun st' => match canon n0 args (vals (nilAll J.nilS J.nilH st').S J.live) (nilAll J.nilS J.nilH st').H with
          | some (d1, d2, mv) => if mvOK n0 (mv ++ (nilAll J.nilS J.nilH st').mv) J.mv && (Nat.ble n0 d2.length && noDf (nilAll J.nilS J.nilH st')) then .need (∃ x, (d1, d2) = (J.head c1 c2).inv x ∧ (J.head c1 c2).ok x) .done else .fail
          | none => .fail
        | e => .ret (e, st'))
      (.any (J.head c1 c2).X (J.head c1 c2).ok fun x => cont (headOf J ((J.head c1 c2).inv x)))
  | none => .fail
def xcode (T : Table) (P : Program) (args : List SV) (n0 nt : Nat) (An : Nat → Option Ann) : Option Nat → Code → St → Tree (Ex × St)
  | _, .skip, st => .ret (.normal, st)
  | _, .label _, st => .ret (.normal, st)
  | _, .region _ ops draw, st => (xregion T P nt ops draw st).bind fun st => .ret (.normal, st)
  | _, .seq x y, st => match joinAt An y with
    | some J => joinT J args n0 (xcode T P args n0 nt An none x) (xcode T P args n0 nt An none y) st
    | none => (xcode T P args n0 nt An none x st).bind fun (e, st) => match e with
      | .normal => xcode T P args n0 nt An none y st
      | e => .ret (e, st)
  | _, .cond c x y, st => match ev st.S c with
    | .lit (.bool b) => .ite b (xcode T P args n0 nt An none x st) (xcode T P args n0 nt An none y st)
    | _ => .fail
  | lid, .loop c, st => match lid with
    | some id => match An id with
      | some An' => peelN (xcode T P args n0 nt An none c) An'.live (loopT (xcode T P args n0 nt An none c) args n0 An 2 An') An'.peel st
      | none => unroll (xcode T P args n0 nt An none c) 24 st
    | none => .fail
  | _, .block id c, st => (xcode T P args n0 nt An (some id) c st).bind fun (e, st) => match e with
    | .exit k => if Nat.beq k id then .ret (.normal, st) else .ret (.exit k, st)
    | e => .ret (e, st)
  | _, .exit id, st => .ret (.exit id, st)
  | _, .ret, st => .ret (.ret, st)
  | _, _, _ => .fail
def LoopWp (P : Program) (c : Code) (Q : Exit → Act → World → Prop) (a : Act) (w : World) : Prop :=
  ∀ b k cs, ∃ e a' w', Q e a' w' ∧ Arrives P (lone (b.at a (.code c :: .inLoop c :: k)) cs w) b k cs e a' w'
theorem loopWp_wp {c : Code} {Q : Exit → Act → World → Prop} (h : LoopWp P c Q a w) : (Code.loop c).wp P Q a w := by
  intro b k cs
  obtain ⟨e, a', w', hq, harr⟩ := h b k cs
  exact ⟨e, a', w', hq, .of_steps (.one step_loop) harr⟩
theorem loopWp_peel {c : Code} {Q : Exit → Act → World → Prop} (h : c.wp P (Exit.then (fun a' w' => LoopWp P c Q a' w') Q) a w) : LoopWp P c Q a w := by
  intro b k cs
  obtain ⟨e, a₁, w₁, hq, harr⟩ := h b (.inLoop c :: k) cs
  cases e with
  | normal =>
    obtain ⟨e₂, a₂, w₂, hq₂, harr₂⟩ := hq b k cs
    exact ⟨e₂, a₂, w₂, hq₂, .of_steps (Steps.trans harr (.one step_inLoop)) harr₂⟩
  | exit id => exact ⟨_, a₁, w₁, hq, .pass (x := .inLoop c) rfl (fun _ _ => .inl (by simp)) harr⟩
  | goto l => exact ⟨_, a₁, w₁, hq, .pass (x := .inLoop c) rfl (fun _ _ => .inl (by simp)) harr⟩
  | ret => exact ⟨_, a₁, w₁, hq, .pass (x := .inLoop c) rfl (fun _ _ => .inl (by simp)) harr⟩
  | panic ch => exact ⟨_, a₁, w₁, hq, .pass (x := .inLoop c) rfl (fun _ _ => .inl (by simp)) harr⟩
  | outgrown => exact ⟨_, a₁, w₁, hq, .pass (x := .inLoop c) rfl (fun _ _ => .inl (by simp)) harr⟩
theorem wp_loop_x {X : Type} {c : Code} {Q : Exit → Act → World → Prop} (I : X → Act → World → Prop) (μ : X → Nat) (x₀ : X) (h₀ : I x₀ a w)
    (round : ∀ x a w, I x a w → c.wp P (Exit.then (fun a' w' => (∃ x', I x' a' w' ∧ μ x' < μ x) ∨ LoopWp P c Q a' w') Q) a w) : LoopWp P c Q a w := by
  have key : ∀ n x a w, μ x = n → I x a w → LoopWp P c Q a w := by
    intro n
    induction n using Nat.strongRecOn with
    | _ n ih =>
      intro x a w hn hI
      refine loopWp_peel fun b k cs => ?_
      obtain ⟨e, a', w', h, harr⟩ := round x a w hI b k cs
      refine ⟨e, a', w', ?_, harr⟩
      cases e with
      | normal =>
        rcases h with ⟨x', hI', hlt⟩ | h
        · exact ih (μ x') (hn ▸ hlt) x' a' w' rfl hI'
        · exact h
      | exit id => exact h
      | goto l => exact h
      | ret => exact h
      | panic ch => exact h
      | outgrown => exact h
  exact key _ x₀ a w rfl h₀
theorem loopT_sound {c : Code} {n0 nt : Nat} {ρ0 : Map} {An : Nat → Option Ann} {args : List SV} {body : St → Tree (Ex × St)} {Q : Ex × St → Prop} {Post : Exit → Act → World → Prop}
    (hbody : ∀ (st : St) (a : Act) (w : World) (ρ : Map) (Q : Ex × St → Prop) (Post : Exit → Act → World → Prop), Inv E n0 ρ0 nt st a w ρ → (body st).Leads Q → (∀ e st' a' w' ρ', Q (e, st') → Inv E n0 ρ0 nt st' a' w' ρ' → Post e.to a' w') → c.wp P Post a w)
    (hk : ∀ e st' a' w' ρ', Q (e, st') → Inv E n0 ρ0 nt st' a' w' ρ' → Post e.to a' w') : ∀ (k : Nat) (An' : Ann) (st : St) (a : Act) (w : World) (ρ : Map), Inv E n0 ρ0 nt st a w ρ → (loopT body args n0 An k An' st).Leads Q → LoopWp P c Post a w
  | 0, _, _, _, _, _, _, h => h.elim
  | k + 1, An', st, a, w, ρ, hi, h => by
    unfold loopT at h
    obtain ⟨st, ρ, hi, h⟩ := hookT_sound hi h
    split at h
    case h_2 => exact h.elim
    rename_i c1 c2 mv hc0
    split at h
    case isFalse => exact h.elim
    rename_i hm
    simp only [Bool.and_eq_true] at hm
    obtain ⟨⟨x0, hx0, hok0⟩, h⟩ := h
    obtain ⟨ρ0', hi0⟩ := hi.nilAll (ds := An'.nilS) (es := An'.nilH)
    obtain ⟨ρ1, hi1⟩ := hi0.head (c := (c1, c2)) hc0 hx0 hm.1 (Nat.le_of_ble_eq_true hm.2.1) hm.2.2
    refine wp_loop_x (X := { x : (An'.head c1 c2).X // (An'.head c1 c2).ok x }) (fun x a w => ∃ ρ, Inv E n0 ρ0 nt (headOf An' ((An'.head c1 c2).inv x.1)) a w ρ) (fun x => (An'.head c1 c2).mu x.1) ⟨x0, hok0⟩ ⟨ρ1, hi1⟩ ?_
    rintro ⟨x, hok⟩ a2 w2 ⟨ρ2, hi2⟩
    have hx := h x hok
    rw [Tree.leads_bind] at hx
    obtain ⟨st2, ρ2, hi2, hx⟩ := hookT_sound hi2 hx
    refine hbody _ a2 w2 ρ2 _ _ hi2 hx fun e st' a' w' ρ' hq hi' => ?_
    cases e with
    | normal =>
      dsimp only at hq
      obtain ⟨st', ρ', hi', hq⟩ := hookT_sound hi' hq
      split at hq
      case h_2 => exact hq.elim
      rename_i d1 d2 mv' hc1
      split at hq
      · split at hq
        · exact .inr (loopT_sound hbody hk k _ st' a' w' ρ' hi' hq)
        · exact hq.elim
      split at hq
      case isFalse => exact hq.elim
      rename_i hm'
      simp only [Bool.and_eq_true] at hm'
      obtain ⟨⟨x', hx', hok', hlt⟩, _⟩ := hq
      obtain ⟨ρ3', hi3'⟩ := hi'.nilAll (ds := An'.nilS) (es := An'.nilH)
      obtain ⟨ρ3, hi3⟩ := hi3'.head (c := (d1, d2)) hc1 hx' hm'.1 (Nat.le_of_ble_eq_true hm'.2.1) hm'.2.2
      exact .inl ⟨⟨x', hok'⟩, ⟨ρ3, hi3⟩, hlt⟩
    | exit k => exact hk _ _ _ _ _ hq hi'
    | ret => exact hk _ _ _ _ _ hq hi'
theorem xcode_sound {T : Table} {n0 nt : Nat} {ρ0 : Map} {An : Nat → Option Ann} {args : List SV} (hT : TableOK P T E.bye) : ∀ (c : Code) (lid : Option Nat) (st : St) (a : Act) (w : World) (ρ : Map) (Q : Ex × St → Prop) (Post : Exit → Act → World → Prop),
    Inv E n0 ρ0 nt st a w ρ → (xcode T P args n0 nt An lid c st).Leads Q → (∀ e st' a' w' ρ', Q (e, st') → Inv E n0 ρ0 nt st' a' w' ρ' → Post e.to a' w') → c.wp P Post a w
  | .skip, lid, st, a, w, ρ, Q, Post, hi, h, hk => by
    simp only [xcode, Tree.Leads] at h
    exact wp_skip (hk _ _ _ _ _ h hi)
  | .label l, lid, st, a, w, ρ, Q, Post, hi, h, hk => by
    simp only [xcode, Tree.Leads] at h
    exact wp_label (hk _ _ _ _ _ h hi)
  | .region id ops draw, lid, st, a, w, ρ, Q, Post, hi, h, hk => by
    simp only [xcode] at h
    rw [Tree.leads_bind] at h
    exact xregion_sound hT hi (fun st' a' w' ρ' hq hi' => hk .normal _ _ _ _ hq hi') h
  | .seq x y, lid, st, a, w, ρ, Q, Post, hi, h, hk => by
    simp only [xcode] at h
    split at h
    · rename_i J hJ
      unfold joinT at h
      split at h
      case h_2 => exact h.elim
      rename_i c1 c2 mv0 hc0
      have h1 := (br_iff.1 (h true trivial)).1 rfl
      have h2 := (br_iff.1 (h false trivial)).2 rfl
      rw [Tree.leads_bind] at h1
      refine wp_seq (xcode_sound hT x none st a w ρ _ _ hi h1 fun e st' a' w' ρ' hq hi' => ?_)
      cases e with
      | normal =>
        dsimp only at hq
        obtain ⟨st', ρ', hi', hq⟩ := hookT_sound hi' hq
        split at hq
        case h_2 => exact hq.elim
        rename_i d1 d2 mv' hc1
        split at hq
        case isFalse => exact hq.elim
        rename_i hm'
        simp only [Bool.and_eq_true] at hm'
        obtain ⟨⟨x', hx', hok'⟩, _⟩ := hq
        obtain ⟨ρ3', hi3'⟩ := hi'.nilAll (ds := J.nilS) (es := J.nilH)
        obtain ⟨ρ3, hi3⟩ := hi3'.head (c := (d1, d2)) hc1 hx' hm'.1 (Nat.le_of_ble_eq_true hm'.2.1) hm'.2.2
        exact xcode_sound hT y none _ a' w' ρ3 Q Post hi3 (h2 x' hok') hk
      | exit id => exact hk _ _ _ _ _ hq hi'
      | ret => exact hk _ _ _ _ _ hq hi'
    rw [Tree.leads_bind] at h
    refine wp_seq (xcode_sound hT x none st a w ρ _ _ hi h fun e st' a' w' ρ' hq hi' => ?_)
    cases e with
    | normal => exact xcode_sound hT y none st' a' w' ρ' Q Post hi' hq hk
    | exit id => exact hk _ _ _ _ _ hq hi'
    | ret => exact hk _ _ _ _ _ hq hi'
  | .cond c x y, lid, st, a, w, ρ, Q, Post, hi, h, hk => by
    simp only [xcode] at h
    split at h
    · rename_i b hc
      have e : a.eval c = .bool b := by
        obtain ⟨E1, hE, hi⟩ := hi
        exact rel_unlit (ev_rel hi.held c) hc
      cases b
      · exact wp_cond_false e (xcode_sound hT y none st a w ρ Q Post hi h hk)
      · exact wp_cond_true e (xcode_sound hT x none st a w ρ Q Post hi h hk)
    · exact h.elim
  | .block id c, lid, st, a, w, ρ, Q, Post, hi, h, hk => by
    simp only [xcode] at h
    rw [Tree.leads_bind] at h
    refine wp_block (xcode_sound hT c (some id) st a w ρ _ _ hi h fun e st' a' w' ρ' hq hi' => ?_)
    cases e with
    | normal => exact hk _ _ _ _ _ hq hi'
    | exit k =>
      simp only [Ex.to, Exit.inBlock]
      dsimp only at hq
      split at hq
      · rename_i hb
        rw [if_pos (Nat.eq_of_beq_eq_true hb)]
        exact hk _ _ _ _ _ hq hi'
      · rename_i hb
        rw [if_neg (fun e => hb (by subst e; simp))]
        exact hk _ _ _ _ _ hq hi'
    | ret => exact hk _ _ _ _ _ hq hi'
  | .loop c, lid, st, a, w, ρ, Q, Post, hi, h, hk => by
    simp only [xcode] at h
    split at h
    case h_2 => exact h.elim
    split at h
    case h_2 =>
      refine loopWp_wp (wp_loop_x (X := Nat) (fun n a w => ∃ st ρ, Inv E n0 ρ0 nt st a w ρ ∧ (unroll (xcode T P args n0 nt An none c) n st).Leads Q) id 24 ⟨st, ρ, hi, h⟩ ?_)
      rintro n a2 w2 ⟨st2, ρ2, hi2, hl⟩
      cases n with
      | zero => exact hl.elim
      | succ n =>
        simp only [unroll] at hl
        rw [Tree.leads_bind] at hl
        refine xcode_sound hT c none _ a2 w2 ρ2 _ _ hi2 hl fun e st' a' w' ρ' hq hi' => ?_
        cases e with
        | normal => exact .inl ⟨n, ⟨st', ρ', hi', hq⟩, Nat.lt_succ_self n⟩
        | exit k => exact hk _ _ _ _ _ hq hi'
        | ret => exact hk _ _ _ _ _ hq hi'
    rename_i An' hAn
    refine loopWp_wp ?_
    have peel : ∀ (n : Nat) (st : St) (a : Act) (w : World) (ρ : Map) (K : St → Tree (Ex × St)), (∀ st a w ρ, Inv E n0 ρ0 nt st a w ρ → (K st).Leads Q → LoopWp P c Post a w) → Inv E n0 ρ0 nt st a w ρ → (peelN (xcode T P args n0 nt An none c) An'.live K n st).Leads Q → LoopWp P c Post a w := by
      intro n
      induction n with
      | zero => intro st a w ρ K hK hi h; exact hK st a w ρ hi h
      | succ n ih =>
        intro st a w ρ K hK hi h
        simp only [peelN] at h
        rw [Tree.leads_bind] at h
        refine loopWp_peel (xcode_sound hT c none _ a w ρ _ _ hi h fun e st' a' w' ρ' hq hi' => ?_)
        cases e with
        | normal =>
          dsimp only at hq
          rw [forceL_eq, forceH_eq] at hq
          refine ih _ a' w' ρ' K hK ?_ hq
          obtain ⟨E1, hE, hi1⟩ := hi'
          exact ⟨E1, hE, hi1.sat, slotsOf_held (vals_rels hi1.held _), hi1.size, hi1.defs, hi1.len, hi1.same⟩
        | exit k => exact hk _ _ _ _ _ hq hi'
        | ret => exact hk _ _ _ _ _ hq hi'
    refine peel _ st a w ρ _ ?_ hi h
    clear peel h hi
    intro st a w ρ hi h
    exact loopT_sound (c := c) (fun st a w ρ Q' Post' hi h hk => xcode_sound hT c none st a w ρ Q' Post' hi h hk) hk 2 An' st a w ρ hi h
  | .exit id, lid, st, a, w, ρ, Q, Post, hi, h, hk => by
    simp only [xcode, Tree.Leads] at h
    exact wp_exit (hk _ _ _ _ _ h hi)
  | .ret, lid, st, a, w, ρ, Q, Post, hi, h, hk => by
    simp only [xcode, Tree.Leads] at h
    exact wp_ret (hk _ _ _ _ _ h hi)
  | .rangeFunc .., lid, st, a, w, ρ, Q, Post, hi, h, hk => by simp only [xcode, Tree.Leads] at h
  | .scope _, lid, st, a, w, ρ, Q, Post, hi, h, hk => by simp only [xcode, Tree.Leads] at h
  | .goto _, lid, st, a, w, ρ, Q, Post, hi, h, hk => by simp only [xcode, Tree.Leads] at h
  | .refuse _, lid, st, a, w, ρ, Q, Post, hi, h, hk => by simp only [xcode, Tree.Leads] at h
def xres (P : Program) (st : St) : List ResultVar → Tree (List SV)
  | [] => .ret []
  | .tmp t :: r => (xres P st r).bind fun l => .ret (look st.S t :: l)
  | .cell ad t :: r => (xload P st.H t (look st.S ad)).bind fun v => (xres P st r).bind fun l => .ret (v :: l)
def oneOf (l : List SV) : SV := match l with
  | [v] => v
  | l => .tup l
def pad (n : Nat) (H : Heap) : Heap := H ++ List.replicate (n - H.length) .dead
def finish (n0 : Nat) (args : List SV) (v : SV) (st : St) : Tree (SV × Heap × List Nat) := match canon n0 args [v] st.H with
  | some ([v'], H', mv) => forceH (pad n0 H') fun H2 => .ret (v', H2, mv ++ st.mv)
  | _ => .fail
def slotsFrom : Nat → List SV → Slots
  | _, [] => fun _ => .junk
  | k, v :: r => fun t => if Nat.beq t k then v else slotsFrom (k + 1) r t
def runDefs (T : Table) : List (FuncId × List SV) → Heap → Tree Heap
  | [], H => .ret H
  | (g, args) :: r, H => match T g with
    | some (.god s) => (lift s args H).bind fun (_, H') => runDefs T r H'
    | _ => .fail
def endNil (An : Nat → Option Ann) (st : St) : St := match An 999999 with
  | some A => nilAll A.nilS A.nilH st
  | none => st
def endHook {α : Type} (An : Nat → Option Ann) (st : St) (K : St → Tree α) : Tree α := match An 999999 with
  | some A => hookT A.hook A.hk2 st K
  | none => K st
def startMv (An : Nat → Option Ann) : List Nat := match An 999998 with
  | some A => A.mv
  | none => []
def bodySumm (T : Table) (P : Program) (fn : Func) (An : Nat → Option Ann) : Summ := fun args H => match fn.body with
  | some c => if Nat.ble args.length fn.ntmps then
      (xcode T P args H.length fn.ntmps An none c { S := slotsFrom 0 args, H := H, mv := startMv An, df := [] }).bind fun (e, st) => match e with
        | .exit _ => .fail
        | _ => (runDefs T st.df st.H).bind fun H' => endHook An { S := st.S, H := H', mv := st.mv, df := [] } fun st => (xres P (endNil An st) fn.results.toList).bind fun l => finish H.length args (oneOf l) (endNil An st)
    else .fail
  | none => .fail
def bodySummD (T : Table) (P : Program) (fn : Func) (An : Nat → Option Ann) : Summ := fun args H => match fn.body with
  | some c => if Nat.ble args.length fn.ntmps then
      (xcode T P args H.length fn.ntmps An none c { S := slotsFrom 0 args, H := H, mv := [], df := [] }).bind fun (e, st) => match e with
        | .exit _ => .fail
        | _ => if noDf st then (xres P (endNil An st) fn.results.toList).bind fun l => finish H.length args (oneOf l) (endNil An st) else .fail
    else .fail
  | none => .fail
theorem Sat.pad {n : Nat} (hs : Sat E ρ H w) : Sat E ρ (pad n H) w := by
  have hget : ∀ k (o : SO), (Sx.pad n H)[k]? = some o → H[k]? = some o ∨ o = .dead := fun k o ho => by
    unfold Sx.pad at ho
    rw [List.getElem?_append] at ho
    split at ho
    · exact .inl ho
    · rw [List.getElem?_replicate] at ho
      split at ho
      · injection ho with ho; exact .inr ho.symm
      · cases ho
  refine ⟨hs.os, hs.tape, hs.output, fun k hk => hs.free k (by simp [Sx.pad] at hk; omega), fun k o ho => ?_, fun k k' o o' b ho ho' hl hl' hb hb' => ?_, hs.zle, hs.keep, fun k o b ho hl hb => ?_, fun k o b ho hl hb => ?_, hs.old⟩
  · rcases hget k o ho with h | rfl
    · exact hs.objs _ _ h
    · trivial
  · rcases hget k o ho with h | rfl
    · rcases hget k' o' ho' with h' | rfl
      · exact hs.inj _ _ _ _ _ h h' hl hl' hb hb'
      · cases hl'
    · cases hl
  · rcases hget k o ho with h | rfl
    · exact hs.apart _ _ _ h hl hb
    · cases hl
  · rcases hget k o ho with h | rfl
    · exact hs.fresh _ _ _ h hl hb
    · cases hl
def resV (a : Act) (r : ResultVar) : Sem Value := match r with
  | .tmp t => pure (a.tmps.getD t undef)
  | .cell ad t => do loadVar t (← asAddr (a.tmps.getD ad undef))
theorem results_sound {fn : Func} {st : St} {Q : List SV → Prop} (hs : Sat E ρ st.H w) (hS : HeldBy E ρ st.S a) (h : (xres P st fn.results.toList).Leads Q) :
    ∃ l vs, Q l ∧ SV.rels E.Z ρ l vs ∧ (results fn a.tmps).run P w = .ok (if h : vs.length = 1 then vs[0] else .tuple vs.toArray) w := by
  have key : ∀ (l : List ResultVar) (Q : List SV → Prop), (xres P st l).Leads Q → ∃ ss vs, Q ss ∧ SV.rels E.Z ρ ss vs ∧
      (l.mapM (resV a)).run P w = .ok vs w := by
    intro l
    induction l with
    | nil => intro Q h; exact ⟨[], [], h, by simp [SV.rels], by simp⟩
    | cons r l ih =>
      intro Q h
      cases r with
      | tmp t =>
        simp only [xres] at h
        rw [Tree.leads_bind] at h
        obtain ⟨ss, vs, hq, hr, hrun⟩ := ih _ h
        exact ⟨_, _, hq, rels_cons (hS t) hr, by simp only [List.mapM_cons, resV, Sem.run_bind, Sem.run_pure, Result.andThen_ok, hrun]⟩
      | cell ad t =>
        simp only [xres] at h
        rw [Tree.leads_bind] at h
        obtain ⟨sv, v, hq, hr, hrel⟩ := xload_sound (P := P) hs (hS ad) h
        rw [Tree.leads_bind] at hq
        obtain ⟨ss, vs, hq, hr2, hrun⟩ := ih _ hq
        refine ⟨_, _, hq, rels_cons hrel hr2, ?_⟩
        have hload : (resV a (.cell ad t)).run P w = .ok v w := by
          unfold resV
          simp only [Instr.loadAt] at hr
          dsimp only
          generalize a.tmps.getD ad undef = x at hr ⊢
          cases x <;> first | (simp [Instr.sureAddr] at hr; done) | skip
          rename_i p
          cases p <;> first | (simp [Instr.sureAddr] at hr; done) | skip
          simp [Instr.sureAddr] at hr
          simpa [asAddr] using hr
        simp only [List.mapM_cons, Sem.run_bind, hload, Result.andThen_ok, hrun, Sem.run_pure]
  obtain ⟨ss, vs, hq, hr, hrun⟩ := key _ _ h
  refine ⟨ss, vs, hq, hr, ?_⟩
  have e : results fn a.tmps = (fn.results.mapM (resV a)) >>= fun vs => pure (if h : vs.size = 1 then vs[0] else .tuple vs) := rfl
  rw [e, Array.mapM_eq_mapM_toList]
  simp only [Sem.run_bind, Sem.run_map, hrun]
  simp
theorem body_wp {T : Table} {fn : Func} {c : Code} {An : Nat → Option Ann} {E : Env} {ρ : Map} {args : List SV} {H : Heap} {w : World} {vs : List Value} {mv0 : List Nat} {Q : Ex × St → Prop} {Post : Exit → Act → World → Prop} (hT : TableOK P T E.bye) (hle : args.length ≤ fn.ntmps)
    (hs : Sat E ρ H w) (hargs : SV.rels E.Z ρ args vs) (h : (xcode T P args H.length fn.ntmps An none c { S := slotsFrom 0 args, H := H, mv := mv0, df := [] }).Leads Q)
    (hk : ∀ e st' a' w' ρ', Q (e, st') → Inv E H.length ρ fn.ntmps st' a' w' ρ' → Post e.to a' w') :
    c.wp P Post { tmps := vs.toArray ++ Array.replicate (fn.ntmps - vs.toArray.size) undef, defers := [] } w := by
    have hlen := rels_length hargs
    have hi : Inv E H.length ρ fn.ntmps { S := slotsFrom 0 args, H := H, mv := mv0, df := [] } { tmps := vs.toArray ++ Array.replicate (fn.ntmps - vs.toArray.size) undef, defers := [] } w ρ := by
      refine ⟨E, Env.to_refl E, hs, ?_, by simp; omega, rfl, Nat.le_refl _, fun _ _ _ => rfl⟩
      have key : ∀ (l : List SV) (us : List Value) (k : Nat), SV.rels E.Z ρ l us → ∀ t, SV.rel E.Z ρ (look (slotsFrom k l) t) (if t < k then undef else us.getD (t - k) undef) := by
        intro l
        induction l with
        | nil => intro us k _ t; simp [slotsFrom, look, SV.rel]
        | cons s l ih =>
          intro us k hr t
          obtain ⟨v, r, rfl, h1, h2⟩ := rels_head hr
          simp only [slotsFrom, look]
          split
          · rename_i hk; have := Nat.eq_of_beq_eq_true hk; subst this; simpa using h1
          · rename_i hk
            have hne : k ≠ t := fun e => hk (by subst e; simp)
            have := ih r (k + 1) h2 t
            by_cases h3 : t < k
            · rw [if_pos h3]; rwa [if_pos (by omega)] at this
            · rw [if_neg h3]; rw [if_neg (by omega)] at this
              rw [show t - k = (t - (k + 1)) + 1 by omega]
              simpa [look] using this
      intro t
      have := key args vs 0 hargs t
      simp only [Nat.not_lt_zero, if_false, Nat.sub_zero] at this
      have e : (vs.toArray ++ Array.replicate (fn.ntmps - vs.toArray.size) undef).getD t undef = vs.getD t undef := by
        simp only [Array.getD_eq_getD_getElem?, Array.getElem?_append, List.getD]
        split
        · simp
        · rename_i hge
          simp at hge
          rw [List.getElem?_eq_none hge]
          simp [Array.getElem?_replicate]
          split <;> rfl
      rw [show ({ tmps := vs.toArray ++ Array.replicate (fn.ntmps - vs.toArray.size) undef, defers := [] } : Act).tmps.getD t undef = vs.getD t undef from e]
      exact this
    exact xcode_sound hT c none _ _ w ρ _ _ hi h hk
def PostTo (E : Env) (ρ : Map) (H : Heap) (Q : SV × Heap × List Nat → Prop) (e : Ending) (w' : World) : Prop :=
  ∃ E' ρ' sv H' mv v, Q (sv, H', mv) ∧ e = .returned v ∧ Env.to E E' ∧ SV.rel E'.Z ρ' sv v ∧ Sat E' ρ' H' w' ∧ H.length ≤ H'.length ∧ ∀ k, k < H.length → memN k mv = false → ρ' k = ρ k
theorem Sat.setBye {b : Bool} (hs : Sat E ρ H w) : Sat { E with bye := b } ρ H w := ⟨hs.os, hs.tape, hs.output, hs.free, hs.objs, hs.inj, hs.zle, hs.keep, hs.apart, hs.fresh, hs.old⟩
theorem post_unbye {ρ : Map} {H : Heap} {Q : SV × Heap × List Nat → Prop} {e : Ending} {w' : World} (h : PostTo { E with bye := false } ρ H Q e w') : Post E ρ H Q e w' := by
  obtain ⟨E', ρ', sv, H', mv, v, h1, h2, h3, h4⟩ := h
  have := h3.1 rfl
  exact ⟨E', ρ', sv, H', mv, v, h1, h2, ⟨this.z, this.f, this.new, this.zold, this.os, this.tape, this.output, this.tk⟩, h4⟩
theorem body_end {fn : Func} {E : Env} {ρ ρ' : Map} {args : List SV} {H : Heap} {a' : Act} {w' : World} {st' : St} {nt : Nat} {Q : SV × Heap × List Nat → Prop} (hi' : Inv E H.length ρ nt st' a' w' ρ')
    (hq : ((xres P st' fn.results.toList).bind fun l => finish H.length args (oneOf l) st').Leads Q) : ∃ v, (results fn a'.tmps).run P w' = .ok v w' ∧ PostTo E ρ H Q (.returned v) w' := by
      obtain ⟨E1, hE, hi'⟩ := hi'
      rw [Tree.leads_bind] at hq
      obtain ⟨l, us, hq, hr, hrun⟩ := results_sound (P := P) hi'.sat hi'.held hq
      have h1 : SV.rel E1.Z ρ' (oneOf l) (if h : us.length = 1 then us[0] else .tuple us.toArray) := by
        have hl := rels_length hr
        unfold oneOf
        split
        · obtain ⟨v, r, rfl, g1, g2⟩ := rels_head hr
          simp only [SV.rels] at g2; subst g2
          simpa using g1
        · rename_i hno
          have : us.length ≠ 1 := fun e => by
            rw [hl] at e
            match l, e with
            | [v], _ => exact hno v rfl
          rw [dif_neg this]
          simp only [SV.rel]
          exact ⟨us, rfl, hr⟩
      unfold finish at hq
      split at hq
      · rename_i v' H' mv hc
        rw [forceH_eq] at hq
        obtain ⟨ρ2, g1, g2, g4⟩ := canon_sound hi'.sat (rels_cons (vs := []) h1 (by simp [SV.rels])) hc
        obtain ⟨u, r, he, g5, _⟩ := rels_head g2
        injection he with he1 he2; subst he1
        refine ⟨_, hrun, E1, ρ2, v', pad H.length H', mv ++ st'.mv, _, hq, rfl, hE, g5, g1.pad, by simp [pad]; omega, fun k hk hm => ?_⟩
        rw [memN_append] at hm
        simp only [Bool.or_eq_false_iff] at hm
        rw [g4 k hk hm.1]; exact hi'.same k hk hm.2
      · exact hq.elim
theorem endNil_sound {An : Nat → Option Ann} {n0 nt : Nat} {ρ0 : Map} {st : St} (hi : Inv E n0 ρ0 nt st a w ρ) : ∃ ρ', Inv E n0 ρ0 nt (endNil An st) a w ρ' := by
  unfold endNil
  split
  · exact hi.nilAll
  · exact ⟨ρ, hi⟩
theorem endHook_sound {α : Type} {An : Nat → Option Ann} {n0 nt : Nat} {ρ0 : Map} {st : St} {K : St → Tree α} {Q : α → Prop} (hi : Inv E n0 ρ0 nt st a w ρ) (h : (endHook An st K).Leads Q) : ∃ st' ρ', Inv E n0 ρ0 nt st' a w ρ' ∧ (K st').Leads Q := by
  unfold endHook at h
  split at h
  · exact hookT_sound hi h
  · exact ⟨st, ρ, hi, h⟩
theorem runDefs_sound {T : Table} {fn : Func} {tmps : Array Value} {R : Ending → World → Prop} {m : Bool} (hT : TableOK P T m) : ∀ (df : List (FuncId × List SV)) (ds : List Deferred) (E : Env) (ρ : Map) (H : Heap) (w : World) (Q : Heap → Prop),
    Sat E ρ H w → DefsRel E.Z ρ df ds → (runDefs T df H).Leads Q →
    (∀ E' ρ' H' w', Env.le E E' → Map.le ρ ρ' → Sat E' ρ' H' w' → H.length ≤ H'.length → (∀ k, k < H.length → ρ' k = ρ k) → Q H' → Leaves P fn tmps R [] .returning w') → Leaves P fn tmps R ds .returning w
  | [], ds, E, ρ, H, w, Q, hs, hd, h, hk => by
    have hd : ds = [] := hd
    subst hd
    exact hk E ρ H w (Env.le_refl E) (Map.le_refl ρ) hs (Nat.le_refl _) (fun _ _ => rfl) h
  | (g, args) :: r, ds, E, ρ, H, w, Q, hs, hd, h, hk => by
    obtain ⟨cap, dargs, rest, vs, rfl, h2, h3, h4⟩ := hd
    unfold runDefs at h
    split at h
    case h_2 => exact h.elim
    rename_i s hTs
    have hok := hT _ _ hTs
    rw [Tree.leads_bind] at h
    obtain ⟨Eσ, ρσ, args', Hs, Q', g1, g2, g3, g4⟩ := lift_core hs h3 h
    refine leaves_cons (f := g) (args := vs.toArray) (by simp) (by simp only [invoke]; rw [h2]; exact hok.1.1 _ _) ?_
    refine (hok.2 Eσ ρσ args' Hs w vs Q' .returning g1 g2 g3).mono ?_
    rintro e u' w' ⟨rfl, hpost⟩
    obtain ⟨E', ρ', sv, H', v, hq, rfl, hE, _, hs', hlen, hkeep⟩ := g4 _ _ hpost
    have hle : Map.le ρ ρ' := fun k x hx => by
      rcases Nat.lt_or_ge k H.length with h1 | h1
      · rw [hkeep _ h1]; exact hx
      · rw [hs.free _ h1] at hx; cases hx
    show Leaves P fn tmps R rest (settle .returning) w'
    have es : settle .returning = .returning := rfl
    rw [es]
    refine runDefs_sound hT r rest E' ρ' H' w' Q hs' (h4.mono hE.z hle) hq fun E2 ρ2 H2 w2 a1 a2 a3 a4 a5 a6 => ?_
    exact hk E2 ρ2 H2 w2 (Env.le_trans hE a1) (Map.le_trans hle a2) a3 (by omega) (fun k hkk => by rw [a5 k (by omega), hkeep k hkk]) a6
theorem body_calls {T : Table} {f : FuncId} {fn : Func} {c : Code} {An : Nat → Option Ann} {args : List SV} {vs : List Value} {Q : SV × Heap × List Nat → Prop} (hT : TableOK P T E.bye) (hf : P.funcs[f]? = some fn) (hb : fn.body = some c)
    (hs : Sat E ρ H w) (hargs : SV.rels E.Z ρ args vs) (h : (bodySumm T P fn An args H).Leads Q) : Calls P f vs.toArray w (PostTo E ρ H Q) := by
    unfold bodySumm at h
    rw [hb] at h
    dsimp only at h
    split at h
    case isFalse => exact h.elim
    rename_i hle
    have hle := Nat.le_of_ble_eq_true hle
    rw [Tree.leads_bind] at h
    refine calls_of_wp_defers hf hb (body_wp hT hle hs hargs h fun e st' a' w' ρ' hq hi' => ?_)
    have fin : ((runDefs T st'.df st'.H).bind fun H' => endHook An { S := st'.S, H := H', mv := st'.mv, df := [] } fun st => (xres P (endNil An st) fn.results.toList).bind fun l => finish H.length args (oneOf l) (endNil An st)).Leads Q → Leaves P fn a'.tmps (PostTo E ρ H Q) a'.defers .returning w' := fun hq => by
      rw [Tree.leads_bind] at hq
      obtain ⟨E1, hE, hi'⟩ := hi'
      refine runDefs_sound hT _ _ E1 ρ' _ w' _ hi'.sat hi'.defs hq fun E2 ρ2 H2 w2 a1 a2 a3 a4 a5 a6 => ?_
      have hi2 : Inv E H.length ρ fn.ntmps { S := st'.S, H := H2, mv := st'.mv, df := [] } { tmps := a'.tmps, defers := [] } w2 ρ2 :=
        ⟨E2, Env.to_trans hE a1, a3, (hi'.held.mono a2).zone a1.z, hi'.size, rfl, Nat.le_trans hi'.len a4, fun k hk hm => by
          rw [a5 k (Nat.lt_of_lt_of_le hk hi'.len)]; exact hi'.same k hk hm⟩
      obtain ⟨st3, ρ3', hi3', a6⟩ := endHook_sound hi2 a6
      obtain ⟨ρ3, hi3⟩ := endNil_sound (An := An) hi3'
      exact body_end (a' := { tmps := a'.tmps, defers := [] }) hi3 a6
    cases e with
    | normal => exact fin hq
    | exit k => exact hq.elim
    | ret => exact fin hq
theorem body_enter {f : FuncId} {fn : Func} {c : Code} (hf : P.funcs[f]? = some fn) (hb : fn.body = some c) (hname : (fn.name == "runtime.NumGoroutine") = false) (args : Array Value) (w : World) : (callFunc f args).run P w = .ok (.enter f args) w := by
  simp only [callFunc, Sem.run_bind, run_program, Result.andThen_ok, hf, hname, hb]
  rfl
theorem bodySumm_sound {T : Table} {f : FuncId} {fn : Func} {c : Code} {An : Nat → Option Ann} (hT : TableOK P T) (hf : P.funcs[f]? = some fn) (hb : fn.body = some c) (hname : (fn.name == "runtime.NumGoroutine") = false) :
    SummOK P f (bodySumm T P fn An) :=
  ⟨body_enter hf hb hname, fun E _ _ _ _ _ _ hs hargs h => (body_calls (E := { E with bye := false }) hT hf hb hs.setBye hargs h).mono fun _ _ h => post_unbye h⟩
theorem Sat.empty (hs : Sat E ρ H w) : Sat E (fun _ => none) [] w :=
  ⟨hs.os, hs.tape, hs.output, fun _ _ => rfl, fun _ _ ho => by simp at ho, fun _ _ _ _ _ ho => by simp at ho, hs.zle, hs.keep, fun _ _ _ ho => by simp at ho, fun _ _ _ ho => by simp at ho, hs.old⟩
def byeS (s : Summ) : XSumm := fun args H =>
  let σ := order H (SV.handless args) []
  if nodupN σ then match SV.rens (place σ) args, picks (place σ) H σ with
    | some args', some Hs => (s args' Hs).bind fun r => match r.1 with
      | .lit x => .ret (.lit x, [])
      | _ => .fail
    | _, _ => .fail
  else .fail
theorem bye_of_bodies {f : FuncId} {fn : Func} {c : Code} {s : Summ} (hf : P.funcs[f]? = some fn) (hb : fn.body = some c) (hname : (fn.name == "runtime.NumGoroutine") = false)
    (h : ∀ args H Q, (s args H).Leads Q → ∃ T An, TableOK P T true ∧ (bodySumm T P fn An args H).Leads Q) : ByeOK P f (byeS s) := by
  refine ⟨body_enter hf hb hname, fun E ρ args H w vs Q hs hargs hl => ?_⟩
  unfold byeS at hl
  dsimp only at hl
  generalize hσ : order H (SV.handless args) [] = σ at hl
  split at hl
  case isFalse => exact hl.elim
  rename_i hn
  split at hl
  case h_2 => exact hl.elim
  rename_i args' Hs hra hpk
  rw [Tree.leads_bind] at hl
  have hs1 := hs.picks hn hpk
  have hargs' : SV.rels E.Z (ρ.pick σ) args' vs := SV.rels_ren pick_le hra hargs
  obtain ⟨T, An, hT, hl⟩ := h args' Hs _ hl
  refine (body_calls (E := { E with bye := true }) hT hf hb hs1.setBye hargs' hl).mono ?_
  rintro e w1 ⟨E', ρ', sv, H', mv, v, hq, he, hE, hr, hs2, _⟩
  dsimp only at hq
  split at hq
  case h_2 => exact hq.elim
  have := rel_lit hr; subst this
  exact ⟨E', v, [], hq, he, ⟨hE.2.f, hE.2.os, hE.2.tape, hE.2.output, hE.2.tk⟩, hs2.empty⟩
theorem bye_of_body {T : Table} {f : FuncId} {fn : Func} {c : Code} {s : Summ} (hT : TableOK P T true) (hf : P.funcs[f]? = some fn) (hb : fn.body = some c) (hname : (fn.name == "runtime.NumGoroutine") = false)
    (h : ∀ args H Q, (s args H).Leads Q → ∃ An, (bodySumm T P fn An args H).Leads Q) : ByeOK P f (byeS s) :=
  bye_of_bodies hf hb hname fun args H Q hl => let ⟨An, hl⟩ := h args H Q hl; ⟨T, An, hT, hl⟩
theorem bodySummD_sound {T : Table} {f : FuncId} {fn : Func} {c : Code} {An : Nat → Option Ann} (hT : TableOK P T) (hf : P.funcs[f]? = some fn) (hb : fn.body = some c) (hname : (fn.name == "runtime.NumGoroutine") = false) :
    SummOK P f (bodySummD T P fn An) ∧ SummD P f (bodySummD T P fn An) := by
  have key : ∀ (E : Env), E.bye = false → ∀ (ρ : Map) (args : List SV) (H : Heap) (w : World) (vs : List Value) (Q : SV × Heap × List Nat → Prop), Sat E ρ H w → SV.rels E.Z ρ args vs → (bodySummD T P fn An args H).Leads Q →
      c.wp P (bodyPost P fn (PostTo E ρ H Q)) { tmps := vs.toArray ++ Array.replicate (fn.ntmps - vs.toArray.size) undef, defers := [] } w := by
    intro E hbye ρ args H w vs Q hs hargs h
    unfold bodySummD at h
    rw [hb] at h
    dsimp only at h
    split at h
    case isFalse => exact h.elim
    rename_i hle
    have hle := Nat.le_of_ble_eq_true hle
    rw [Tree.leads_bind] at h
    refine body_wp (by rw [hbye]; exact hT) hle hs hargs h fun e st' a' w' ρ' hq hi' => ?_
    have fin : (if noDf st' then (xres P (endNil An st') fn.results.toList).bind fun l => finish H.length args (oneOf l) (endNil An st') else .fail).Leads Q → a'.defers = [] ∧ ∃ v, (results fn a'.tmps).run P w' = .ok v w' ∧ PostTo E ρ H Q (.returned v) w' := fun hq => by
      split at hq
      case isFalse => exact hq.elim
      rename_i hn
      have hd : a'.defers = [] := by
        obtain ⟨E1, hE, hi'⟩ := hi'
        have := hi'.defs
        rw [noDf_nil hn] at this
        exact this
      obtain ⟨ρ3, hi3⟩ := endNil_sound (An := An) hi'
      exact ⟨hd, body_end hi3 hq⟩
    cases e with
    | normal => exact fin hq
    | exit k => exact hq.elim
    | ret => exact fin hq
  refine ⟨⟨?_, fun E ρ args H w vs Q hs hargs h => (calls_of_wp hf hb (key { E with bye := false } rfl ρ args H w vs Q hs.setBye hargs h)).mono fun _ _ h => post_unbye h⟩, fun E ρ args H w vs Q u hs hargs h => (callsD_of_wp hf hb (key { E with bye := false } rfl ρ args H w vs Q hs.setBye hargs h)).mono fun _ _ _ h => ⟨h.1, post_unbye h.2⟩⟩
  intro args w
  simp only [callFunc, Sem.run_bind, run_program, Result.andThen_ok, hf, hname, hb]
  rfl
end Sx
