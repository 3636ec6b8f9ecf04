/- Regions: in the order of the text, and in every order. -/
import Derived.Test.YtabnecedcnlpcaaSxO
set_option linter.unusedVariables false
namespace Sx
open Go

variable {P : Program} {E : Env} {ρ : Map} {S S' : Slots} {H : Heap} {a : Act} {w w' : World} {Z : Zone}

/-- One operation in the order of the text, guarded or not. -/
def xopE (T : Table) (P : Program) (nt : Nat) (ops : Array Oper) (o : Oper) (st : St) : Tree St := match o.guard with
  | none => stepOp T P nt o st
  | some (j, want) => if dstOK o.dst nt then match gslot ops j with
    | some t => match look st.S t with
      | .lit (.bool b) => .ite b
        (if want then stepOp T P nt o (known t true st) else .ret (skipOp o (known t true st)))
        (if want then .ret (skipOp o (known t false st)) else stepOp T P nt o (known t false st))
      | .lit (.tuple _) => .ret (skipOp o st)
      | _ => .fail
    | none => .fail
    else .fail
theorem xopE_sound {T : Table} {n0 nt : Nat} {ρ0 : Map} {ops : Array Oper} {o : Oper} {st : St} {Q : St → Prop} {K : Act → World → Prop} {Qx : Exit → Act → World → Prop} (hT : TableOK P T E.bye)
    (hi : Inv E n0 ρ0 nt st a w ρ) (h : (xopE T P nt ops o st).Leads Q) (hk : ∀ st' a' w' ρ', Q st' → Inv E n0 ρ0 nt st' a' w' ρ' → K a' w') :
    if Region.wanted o (yielded ops a.tmps) then o.wp P a w K Qx else K (a.put o.dst undef) w := by
  unfold xopE at h
  split at h
  · rename_i hg
    have hw : Region.wanted o (yielded ops a.tmps) = true := by simp [Region.wanted, hg]
    rw [hw, if_pos rfl]
    exact stepOp_sound hT hi h hk
  · rename_i j want hg
    split at h
    case isFalse => exact h.elim
    rename_i hd
    split at h
    case h_2 => exact h.elim
    rename_i t hgs
    split at h
    · rename_i b hl
      have hv := hi.lit hl
      have hy := yielded_bool hgs hv
      have hw : Region.wanted o (yielded ops a.tmps) = (b == want) := by simp [Region.wanted, hg, hy]
      rw [hw]
      have hkn := known_same hl
      have h := br_iff.1 h
      cases b with
      | true =>
        have h := h.1 rfl
        rw [hkn] at h
        cases want with
        | true => exact stepOp_sound hT hi h hk
        | false => exact hk _ _ _ ρ h (hi.skip hd)
      | false =>
        have h := h.2 rfl
        rw [hkn] at h
        cases want with
        | true => exact hk _ _ _ ρ h (hi.skip hd)
        | false => exact stepOp_sound hT hi h hk
    · rename_i vs hl
      have hv := hi.lit hl
      have hy := yielded_other hgs hv (fun b e => by cases e)
      have hw : Region.wanted o (yielded ops a.tmps) = false := by simp [Region.wanted, hg, hy]
      rw [hw, if_neg (by simp)]
      exact hk _ _ _ ρ h (hi.skip hd)
    · exact h.elim
def xops (T : Table) (P : Program) (nt : Nat) (ops : Array Oper) : List Oper → St → Tree St
  | [], st => .ret st
  | o :: r, st => (xopE T P nt ops o st).bind (xops T P nt ops r)

theorem xops_sound {T : Table} {n0 nt : Nat} {ρ0 : Map} {ops : Array Oper} {Q : St → Prop} {Qx : Exit → Act → World → Prop} (hT : TableOK P T E.bye)
    (hk : ∀ st' a' w' ρ', Q st' → Inv E n0 ρ0 nt st' a' w' ρ' → Qx .normal a' w') : ∀ (l : List Oper) (st : St) (a : Act) (w : World) (ρ : Map),
    Inv E n0 ρ0 nt st a w ρ → (xops T P nt ops l st).Leads Q → wpList P ops Qx l a w
  | [], st, a, w, ρ, hi, h => wpList_nil (hk _ _ _ _ h hi)
  | o :: r, st, a, w, ρ, hi, h => by
    simp only [xops] at h
    rw [Tree.leads_bind] at h
    exact wpList_step fun K hK => xopE_sound hT hi h fun st' a' w' ρ' hq hi' => hK _ _ (xops_sound hT hk r st' a' w' ρ' hi' hq)

def onsOf (o : Oper) : List Nat := o.after.toList.filterMap fun e => if Region.binds .any e then some e.on else none
def isReady (ops : Array Oper) (L : List Nat) (i : Nat) : Bool := !memN i L && match ops[i]? with
  | some o => (onsOf o).all fun k => memN k L
  | none => false
def upN : Nat → Nat → List Nat
  | 0, _ => []
  | n + 1, k => k :: upN n (k + 1)
theorem upN_mem : ∀ {n k i : Nat}, i ∈ upN n k ↔ k ≤ i ∧ i < k + n
  | 0, k, i => by simp [upN]
  | n + 1, k, i => by
    simp only [upN, List.mem_cons, upN_mem]
    omega
/-- What comes behind one, through others. -/
def desc (ops : Array Oper) : List Nat → List Nat → List Nat
  | [], acc => acc
  | j :: r, acc => match ops[j]? with
    | some o => if (onsOf o).any (fun k => memN k acc) then desc ops r (j :: acc) else desc ops r acc
    | none => desc ops r acc
/-- Which must have been before this one may come first. -/
def firstOf (P : Program) (ops : Array Oper) (i : Nat) : Option (List Nat) := match ops[i]? with
  | some oi => if Nat.ble (cls P oi.op) 1 then
      let ds := desc ops (upN ops.size 0) [i]
      some ((upN ops.size 0).filter fun j => !(memN j ds || match ops[j]? with
        | some oj => oi.apart ops oj && (Nat.beq (cls P oi.op) 0 || Nat.ble (cls P oj.op) 2)
        | none => true))
    else none
  | none => none
def mayFirst (P : Program) (ops : Array Oper) (L : List Nat) (i : Nat) : Bool := match firstOf P ops i with
  | some l => l.all fun j => memN j L
  | none => false
def findN (p : Nat → Bool) : List Nat → Option Nat
  | [] => none
  | i :: r => if p i then some i else findN p r
theorem findN_some {p : Nat → Bool} {i : Nat} : ∀ {l : List Nat}, findN p l = some i → p i = true
  | [], h => by cases h
  | j :: r, h => by
    simp only [findN] at h
    split at h
    · rename_i hp; injection h with h; subst h; exact hp
    · exact findN_some h

/-- In every order, in symbols. -/
def XAny (T : Table) (P : Program) (nt : Nat) (ops : Array Oper) (Q : St → Prop) : Nat → List Nat → St → Prop
  | 0, L, st => (∀ i, isReady ops L i = false) ∧ Q st
  | n + 1, L, st => ((∀ i, isReady ops L i = false) → Q st) ∧ ∀ i, isReady ops L i = true → ∀ o, ops[i]? = some o → (xop0 T P nt ops o st).Leads (XAny T P nt ops Q n (i :: L))

def SameL (L L' : List Nat) : Prop := ∀ k, memN k L = memN k L'
theorem isReady_same {ops : Array Oper} {L L' : List Nat} {i : Nat} (h : SameL L L') : isReady ops L i = isReady ops L' i := by
  unfold isReady
  rw [h i]
  have : (fun k => memN k L) = fun k => memN k L' := funext h
  rw [this]
theorem XAny_same {T : Table} {nt : Nat} {ops : Array Oper} {Q : St → Prop} : ∀ {n : Nat} {L L' : List Nat} {st : St}, SameL L L' → XAny T P nt ops Q n L st → XAny T P nt ops Q n L' st
  | 0, L, L', st, hs, h => ⟨fun i => by rw [← isReady_same hs]; exact h.1 i, h.2⟩
  | n + 1, L, L', st, hs, h => ⟨fun h0 => h.1 fun i => by rw [isReady_same hs]; exact h0 i, fun i hi o ho =>
      Tree.leads_mono (fun st' hq => XAny_same (fun k => by simp only [memN]; split <;> first | rfl | exact hs k) hq) (h.2 i (by rw [isReady_same hs]; exact hi) o ho)⟩

def Closed (ops : Array Oper) (L : List Nat) : Prop := ∀ j, memN j L = true → j < ops.size ∧ ∀ o, ops[j]? = some o → ∀ k ∈ onsOf o, memN k L = true
theorem ready_spec {ops : Array Oper} {L : List Nat} {i : Nat} (h : isReady ops L i = true) : memN i L = false ∧ ∃ o, ops[i]? = some o ∧ ∀ k ∈ onsOf o, memN k L = true := by
  unfold isReady at h
  simp only [Bool.and_eq_true, Bool.not_eq_true'] at h
  obtain ⟨h1, h2⟩ := h
  split at h2
  · rename_i o ho
    exact ⟨h1, o, ho, fun k hk => List.all_eq_true.1 h2 k hk⟩
  · cases h2
theorem memN_cons {x y : Nat} {l : List Nat} : memN x (y :: l) = true ↔ x = y ∨ memN x l = true := by
  rw [memN_iff, List.mem_cons, memN_iff]
theorem Closed.cons {ops : Array Oper} {L : List Nat} {i : Nat} (hc : Closed ops L) (h : isReady ops L i = true) : Closed ops (i :: L) := by
  obtain ⟨_, o, ho, hall⟩ := ready_spec h
  intro j hj
  rcases memN_cons.1 hj with rfl | hj
  · refine ⟨(Array.getElem?_eq_some_iff.1 ho).1, fun o' ho' k hk => ?_⟩
    rw [ho] at ho'; injection ho' with ho'; subst ho'
    exact memN_cons.2 (.inr (hall k hk))
  · exact ⟨(hc j hj).1, fun o ho k hk => memN_cons.2 (.inr ((hc j hj).2 o ho k hk))⟩
theorem ready_cons {ops : Array Oper} {L : List Nat} {i j : Nat} (h : isReady ops L j = true) (hne : j ≠ i) : isReady ops (i :: L) j = true := by
  obtain ⟨h1, o, ho, hall⟩ := ready_spec h
  unfold isReady
  simp only [ho, Bool.and_eq_true, Bool.not_eq_true', List.all_eq_true]
  refine ⟨?_, fun k hk => memN_cons.2 (.inr (hall k hk))⟩
  cases hm : memN j (i :: L) with
  | false => rfl
  | true =>
    rcases memN_cons.1 hm with h | h
    · exact absurd h hne
    · rw [h1] at h; cases h
theorem desc_not {ops : Array Oper} {L : List Nat} (hc : Closed ops L) : ∀ {l acc : List Nat}, (∀ k, memN k acc = true → memN k L = false) → ∀ k, memN k (desc ops l acc) = true → memN k L = false
  | [], acc, h => h
  | j :: r, acc, h => by
    simp only [desc]
    split
    · rename_i o ho
      split
      · rename_i ha
        refine desc_not hc fun k hk => ?_
        rcases memN_cons.1 hk with rfl | hk
        · cases hm : memN k L with
          | false => rfl
          | true =>
            obtain ⟨x, hx, hxa⟩ := List.any_eq_true.1 ha
            have := (hc k hm).2 o ho x hx
            rw [h x hxa] at this; cases this
        · exact h k hk
      · exact desc_not hc h
    · exact desc_not hc h
/-- What comes behind one that has not been is not ready. -/
theorem desc_unready {ops : Array Oper} {L : List Nat} {i j : Nat} (hc : Closed ops L) (hi : memN i L = false) (hj : isReady ops L j = true) (hne : j ≠ i) : memN j (desc ops (upN ops.size 0) [i]) = false := by
  cases hm : memN j (desc ops (upN ops.size 0) [i]) with
  | false => rfl
  | true =>
    exfalso
    have hc' := hc.cons hj
    have := desc_not hc' (l := upN ops.size 0) (acc := [i]) (fun k hk => by
      rcases memN_cons.1 hk with rfl | hk
      · cases hm : memN k (j :: L) with
        | false => rfl
        | true =>
          rcases memN_cons.1 hm with h | h
          · exact absurd h.symm hne
          · rw [hi] at h; cases h
      · cases hk) j hm
    rw [memN_cons.2 (.inl rfl)] at this; cases this

theorem mayFirst_spec {ops : Array Oper} {L : List Nat} {i : Nat} (h : mayFirst P ops L i = true) : ∃ oi, ops[i]? = some oi ∧ cls P oi.op ≤ 1 ∧
    ∀ j oj, ops[j]? = some oj → memN j L = false → memN j (desc ops (upN ops.size 0) [i]) = false → oi.apart ops oj = true ∧ (cls P oi.op = 0 ∨ cls P oj.op ≤ 2) := by
  unfold mayFirst at h
  split at h
  case h_2 => cases h
  rename_i l hl
  unfold firstOf at hl
  split at hl
  case h_2 => cases hl
  rename_i oi ho
  split at hl
  case isFalse => cases hl
  rename_i hc
  injection hl with hl; subst hl
  refine ⟨oi, ho, Nat.le_of_ble_eq_true hc, fun j oj hj hjL hjd => ?_⟩
  have hjs := (Array.getElem?_eq_some_iff.1 hj).1
  by_cases hb : (oi.apart ops oj && (Nat.beq (cls P oi.op) 0 || Nat.ble (cls P oj.op) 2)) = true
  · simp only [Bool.and_eq_true, Bool.or_eq_true] at hb
    exact ⟨hb.1, hb.2.imp Nat.eq_of_beq_eq_true Nat.le_of_ble_eq_true⟩
  · exfalso
    have := List.all_eq_true.1 h j (List.mem_filter.2 ⟨upN_mem.2 ⟨by omega, by omega⟩, by simp only [hjd, hj, Bool.false_or, Bool.not_eq_true']; exact Bool.eq_false_iff.2 hb⟩)
    rw [hjL] at this; cases this

/-- THE FIRST MAY COME LATER. -/
theorem XAny_first {T : Table} {nt : Nat} {ops : Array Oper} {Q : St → Prop} {i : Nat} {oi : Oper} {v : SV} (ho : ops[i]? = some oi) (hc1 : cls P oi.op ≤ 1) : ∀ (n : Nat) (L : List Nat) (st : St),
    Closed ops L → (∀ j oj, ops[j]? = some oj → memN j L = false → memN j (desc ops (upN ops.size 0) [i]) = false → oi.apart ops oj = true ∧ (cls P oi.op = 0 ∨ cls P oj.op ≤ 2)) →
    isReady ops L i = true → Ends (xop0 T P nt ops oi st) (putS oi.dst v st) → XAny T P nt ops Q n (i :: L) (putS oi.dst v st) → XAny T P nt ops Q (n + 1) L st := by
  intro n
  induction n with
  | zero =>
    intro L st hc hall hr he h
    refine ⟨fun h0 => (by rw [h0 i] at hr; cases hr), fun j hj o hoj => ?_⟩
    by_cases hji : j = i
    · subst hji; rw [ho] at hoj; injection hoj with hoj; subst hoj
      exact ends_leads h he
    · have := h.1 j; rw [ready_cons hj hji] at this; cases this
  | succ n ih =>
    intro L st hc hall hr he h
    refine ⟨fun h0 => (by rw [h0 i] at hr; cases hr), fun j hj o hoj => ?_⟩
    by_cases hji : j = i
    · subst hji; rw [ho] at hoj; injection hoj with hoj; subst hoj
      exact ends_leads h he
    · have h1 := h.2 j (ready_cons hj hji) o hoj
      have hiL := (ready_spec hr).1
      have hjL := (ready_spec hj).1
      obtain ⟨hap, hcc⟩ := hall j o hoj hjL (desc_unready hc hiL hj hji)
      refine Tree.leads_mono ?_ (xop0_comm hap hc1 hcc he h1)
      rintro st' ⟨he', hq⟩
      refine ih (j :: L) st' (hc.cons hj) (fun k ok hk hkL hkd => hall k ok hk ?_ hkd) (ready_cons hr (Ne.symm hji)) he' (XAny_same (fun k => ?_) hq)
      · cases hm : memN k L with
        | false => rfl
        | true => rw [memN_cons.2 (.inr hm)] at hkL; cases hkL
      · rw [Bool.eq_iff_iff]
        simp only [memN_cons]
        constructor <;> (rintro (h | h | h) <;> simp [h])

/-- All of some ways. -/
def both : List (Tree St) → Tree St
  | [] => .done
  | [t] => t
  | t :: r => .any Bool (fun _ => True) fun b => .ite b t (both r)
theorem both_mem {Q : St → Prop} : ∀ {l : List (Tree St)}, (both l).Leads Q → ∀ t ∈ l, t.Leads Q
  | [], _, t, ht => by cases ht
  | [t], h, u, hu => by simp at hu; subst hu; exact h
  | t :: u :: r, h, x, hx => by
    simp only [both] at h
    rcases List.mem_cons.1 hx with rfl | hx
    · exact h true trivial
    · exact both_mem (l := u :: r) (h false trivial) x hx

/-- The run of a region in every order: what may come first comes first. -/
def xany (T : Table) (P : Program) (nt : Nat) (ops : Array Oper) : Nat → List Nat → St → Tree St
  | 0, L, st => if (upN ops.size 0).all (fun i => !isReady ops L i) then .ret st else .fail
  | n + 1, L, st => match findN (fun i => isReady ops L i && mayFirst P ops L i) (upN ops.size 0) with
    | some i => match ops[i]? with
      | some o => (xop T P nt ops o st).det.bind (xany T P nt ops n (i :: L))
      | none => .fail
    | none => match (upN ops.size 0).filter (isReady ops L) with
      | [] => .ret st
      | rs => both (rs.map fun i => match ops[i]? with
        | some o => (xop T P nt ops o st).bind (xany T P nt ops n (i :: L))
        | none => .fail)

theorem isReady_lt {ops : Array Oper} {L : List Nat} {i : Nat} (h : isReady ops L i = true) : i ∈ upN ops.size 0 := by
  obtain ⟨_, o, ho, _⟩ := ready_spec h
  have := (Array.getElem?_eq_some_iff.1 ho).1
  exact upN_mem.2 ⟨by omega, by omega⟩

theorem xany_XAny {T : Table} {nt : Nat} {ops : Array Oper} {Q : St → Prop} : ∀ (n : Nat) (L : List Nat) (st : St), Closed ops L → (xany T P nt ops n L st).Leads Q → XAny T P nt ops Q n L st
  | 0, L, st, hc, h => by
    simp only [xany] at h
    split at h
    · rename_i hall
      refine ⟨fun i => ?_, h⟩
      cases hr : isReady ops L i with
      | false => rfl
      | true => have := List.all_eq_true.1 hall i (isReady_lt hr); rw [hr] at this; cases this
    · exact h.elim
  | n + 1, L, st, hc, h => by
    simp only [xany] at h
    split at h
    · rename_i i hi
      have hi := findN_some hi
      simp only [Bool.and_eq_true] at hi
      obtain ⟨hr, hm⟩ := hi
      split at h
      case h_2 => exact h.elim
      rename_i o ho
      rw [Tree.leads_bind] at h
      obtain ⟨st1, he, hq⟩ := det_ends h
      rw [xop_ends] at he
      obtain ⟨oi, ho', hc1, hall⟩ := mayFirst_spec hm
      rw [ho] at ho'; injection ho' with ho'; subst ho'
      obtain ⟨v, rfl⟩ := xop0_quiet hc1 he
      exact XAny_first ho hc1 n L st hc hall hr he (xany_XAny n (i :: L) _ (hc.cons hr) hq)
    · split at h
      · rename_i hnil
        have hno : ∀ i, isReady ops L i = false := fun i => by
          cases hr : isReady ops L i with
          | false => rfl
          | true => have := List.mem_filter.2 ⟨isReady_lt hr, hr⟩; rw [hnil] at this; cases this
        exact ⟨fun _ => h, fun i hi => by rw [hno i] at hi; cases hi⟩
      · rename_i rs hne
        refine ⟨fun h0 => ?_, fun i hi o ho => ?_⟩
        · exfalso
          apply hne
          rw [List.filter_eq_nil_iff]
          intro i _; rw [h0 i]; simp
        · have := both_mem h _ (List.mem_map.2 ⟨i, List.mem_filter.2 ⟨isReady_lt hi, hi⟩, rfl⟩)
          simp only [ho] at this
          rw [Tree.leads_bind, xop_leads] at this
          exact Tree.leads_mono (fun st' hq => xany_XAny n (i :: L) st' (hc.cons hi) hq) this

def Lists (ops : Array Oper) (listed : Array Bool) (L : List Nat) : Prop := listed.size = ops.size ∧ ∀ k, listed.getD k false = memN k L
theorem ready_iff {ops : Array Oper} {listed : Array Bool} {L : List Nat} {i : Nat} (hl : Lists ops listed L) : i ∈ Region.ready .any ops listed ↔ isReady ops L i = true := by
  rw [mem_ready]
  unfold isReady
  simp only [Bool.and_eq_true, Bool.not_eq_true']
  cases ho : ops[i]? with
  | none => simp
  | some o =>
    have hlt := (Array.getElem?_eq_some_iff.1 ho).1
    have h1 : listed.getD i true = listed.getD i false := by
      have : i < listed.size := by rw [hl.1]; exact hlt
      simp [this]
    rw [h1, hl.2]
    simp only [Option.some.injEq, exists_eq_left', List.all_eq_true]
    refine and_congr Iff.rfl ⟨fun h k hk => ?_, fun h e he hb => ?_⟩
    · unfold onsOf at hk
      obtain ⟨e, he, hek⟩ := List.mem_filterMap.1 hk
      split at hek
      · rename_i hb
        injection hek with hek; subst hek
        rw [← hl.2]; exact h e (by simpa using he) hb
      · cases hek
    · rw [hl.2]
      exact h _ (List.mem_filterMap.2 ⟨e, by simpa using he, by rw [if_pos hb]⟩)
theorem Lists.set {ops : Array Oper} {listed : Array Bool} {L : List Nat} {i : Nat} (hl : Lists ops listed L) (hi : i < ops.size) : Lists ops (listed.setIfInBounds i true) (i :: L) := by
  refine ⟨by simp [hl.1], fun k => ?_⟩
  by_cases hk : i = k
  · subst hk
    have : i < listed.size := by rw [hl.1]; exact hi
    have h1 : memN i (i :: L) = true := memN_cons.2 (.inl rfl)
    rw [h1]
    simp [this]
  · rw [getD_set_ne false hk, hl.2 k, Bool.eq_iff_iff, memN_cons]
    simp [Ne.symm hk]

theorem XAny_wpAny {T : Table} {n0 nt : Nat} {ρ0 : Map} {ops : Array Oper} {Q : St → Prop} {Qx : Exit → Act → World → Prop} (hT : TableOK P T E.bye)
    (hk : ∀ st' a' w' ρ', Q st' → Inv E n0 ρ0 nt st' a' w' ρ' → Qx .normal a' w') : ∀ (n : Nat) (L : List Nat) (listed : Array Bool) (st : St) (a : Act) (w : World) (ρ : Map), Lists ops listed L →
    Inv E n0 ρ0 nt st a w ρ → XAny T P nt ops Q n L st → wpAny P .any ops Qx n listed a w
  | 0, L, listed, st, a, w, ρ, hl, hi, h => by
    refine ⟨?_, hk _ _ _ _ h.2 hi⟩
    rw [List.eq_nil_iff_forall_not_mem]
    intro i hm
    rw [ready_iff hl, h.1 i] at hm; cases hm
  | n + 1, L, listed, st, a, w, ρ, hl, hi, h => by
    refine ⟨fun h0 => hk _ _ _ _ (h.1 fun i => ?_) hi, fun i hm => ?_⟩
    · cases hr : isReady ops L i with
      | false => rfl
      | true => rw [← ready_iff hl, h0] at hr; cases hr
    · rw [ready_iff hl] at hm
      obtain ⟨_, o, ho, _⟩ := ready_spec hm
      have := xop0_sound (Qx := Qx) (K := wpAny P .any ops Qx n (listed.setIfInBounds i true)) hT hi (h.2 i hm o ho) fun st' a' w' ρ' hq hi' =>
        XAny_wpAny hT hk n (i :: L) (listed.setIfInBounds i true) st' a' w' ρ' (hl.set (Array.getElem?_eq_some_iff.1 ho).1) hi' hq
      unfold wpOp
      simp only [ho]
      split
      · rename_i hw; rw [if_pos hw] at this; exact .inl this
      · rename_i hw; rw [if_neg hw] at this; exact this

theorem Inv.drawn {n0 nt : Nat} {ρ0 : Map} {st : St} (hi : Inv E n0 ρ0 nt st a w ρ) : Inv E n0 ρ0 nt st a { w with drawn := w.drawn + 1 } ρ := by
  obtain ⟨E1, hE, hi⟩ := hi
  have hs := hi.sat
  refine ⟨E1, hE, ⟨hs.os, hs.tape, hs.output, hs.free, fun h o ho => ?_, hs.inj, hs.zle, hs.keep, hs.apart, hs.fresh, hs.old⟩, hi.held, hi.size, hi.defs, hi.len, hi.same⟩
  have := hs.objs h o ho
  cases o <;> exact this

def xregion (T : Table) (P : Program) (nt : Nat) (ops : Array Oper) (draw : Bool) (st : St) : Tree St :=
  if draw then if P.follows .mixedOrders then xany T P nt ops ops.size [] st else .fail else xops T P nt ops ops.toList st

theorem xregion_sound {T : Table} {n0 nt : Nat} {ρ0 : Map} {id : Nat} {ops : Array Oper} {draw : Bool} {st : St} {Q : St → Prop} {Qx : Exit → Act → World → Prop} (hT : TableOK P T E.bye) (hi : Inv E n0 ρ0 nt st a w ρ)
    (hk : ∀ st' a' w' ρ', Q st' → Inv E n0 ρ0 nt st' a' w' ρ' → Qx .normal a' w') (h : (xregion T P nt ops draw st).Leads Q) : (Code.region id ops draw).wp P Qx a w := by
  unfold xregion at h
  cases draw with
  | false =>
    rw [if_neg (by simp)] at h
    exact wp_region_list (xops_sound hT hk _ _ _ _ _ hi h)
  | true =>
    rw [if_pos rfl] at h
    split at h
    case isFalse => exact h.elim
    rename_i hm
    refine wp_region_any hm (XAny_wpAny hT hk ops.size [] _ st a _ ρ ⟨by simp, fun k => by simp [memN, Array.getElem?_replicate]; split <;> rfl⟩ hi.drawn (xany_XAny ops.size [] st (fun j hj => by cases hj) h))
end Sx
