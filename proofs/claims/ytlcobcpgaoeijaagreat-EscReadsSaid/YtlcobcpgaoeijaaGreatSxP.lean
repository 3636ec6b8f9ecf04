/- Regions: in the order of the text, and in every order. -/
import Derived.Test.YtlcobcpgaoeijaaGreatSxO
set_option linter.unusedVariables false
set_option linter.unusedSimpArgs false
namespace Sx
open Go
variable {P : Program} {E : Env} {ρ : Map} {S S' : Slots} {H : Heap} {a : Act} {w w' : World} {Z : Zone}
def xopE (T : Table) (P : Program) (nt : Nat) (ops : Array Oper) (o : Oper) (st : St) : Tree St := match o.guard with
  | none => stepOp T P nt o st
  | some (j, want) => if dstOK o.dst nt then match gslot ops j with
    | some t => match look st.S t with
      | .lit (.bool b) => .ite b
        (if want then stepOp T P nt o (known t true st) else .ret (skipOp o (known t true st)))
        (if want then .ret (skipOp o (known t false st)) else stepOp T P nt o (known t false st))
      | .lit (.tuple _) => .ret (skipOp o st)
      | _ => .fail
    | none => .fail
    else .fail
theorem xopE_sound {T : Table} {n0 nt : Nat} {ρ0 : Map} {ops : Array Oper} {o : Oper} {st : St} {Q : St → Prop} {K : Act → World → Prop} {Qx : Exit → Act → World → Prop} (hT : TableOK P T E.bye)
    (hi : Inv E n0 ρ0 nt st a w ρ) (h : (xopE T P nt ops o st).Leads Q) (hk : ∀ st' a' w' ρ', Q st' → Inv E n0 ρ0 nt st' a' w' ρ' → K a' w') :
    if Region.wanted o (yielded ops a.tmps) then o.wp P a w K Qx else K (a.put o.dst undef) w := by
  unfold xopE at h
  split at h
  · rename_i hg
    have hw : Region.wanted o (yielded ops a.tmps) = true := by simp [Region.wanted, hg]
    rw [hw, if_pos rfl]
    exact stepOp_sound hT hi h hk
  · rename_i j want hg
    split at h
    case isFalse => exact h.elim
    rename_i hd
    split at h
    case h_2 => exact h.elim
    rename_i t hgs
    split at h
    · rename_i b hl
      have hv := hi.lit hl
      have hy := yielded_bool hgs hv
      have hw : Region.wanted o (yielded ops a.tmps) = (b == want) := by simp [Region.wanted, hg, hy]
      rw [hw]
      have hkn := known_same hl
      have h := br_iff.1 h
      cases b with
      | true =>
        have h := h.1 rfl
        rw [hkn] at h
        cases want with
        | true => exact stepOp_sound hT hi h hk
        | false => exact hk _ _ _ ρ h (hi.skip hd)
      | false =>
        have h := h.2 rfl
        rw [hkn] at h
        cases want with
        | true => exact hk _ _ _ ρ h (hi.skip hd)
        | false => exact stepOp_sound hT hi h hk
    · rename_i vs hl
      have hv := hi.lit hl
      have hy := yielded_other hgs hv (fun b e => by cases e)
      have hw : Region.wanted o (yielded ops a.tmps) = false := by simp [Region.wanted, hg, hy]
      rw [hw, if_neg (by simp)]
      exact hk _ _ _ ρ h (hi.skip hd)
    · exact h.elim
def xops (T : Table) (P : Program) (nt : Nat) (ops : Array Oper) : List Oper → St → Tree St
  | [], st => .ret st
  | o :: r, st => (xopE T P nt ops o st).bind (xops T P nt ops r)
theorem xops_sound {T : Table} {n0 nt : Nat} {ρ0 : Map} {ops : Array Oper} {Q : St → Prop} {Qx : Exit → Act → World → Prop} (hT : TableOK P T E.bye)
    (hk : ∀ st' a' w' ρ', Q st' → Inv E n0 ρ0 nt st' a' w' ρ' → Qx .normal a' w') : ∀ (l : List Oper) (st : St) (a : Act) (w : World) (ρ : Map),
    Inv E n0 ρ0 nt st a w ρ → (xops T P nt ops l st).Leads Q → wpList P ops Qx l a w
  | [], st, a, w, ρ, hi, h => wpList_nil (hk _ _ _ _ h hi)
  | o :: r, st, a, w, ρ, hi, h => by
    simp only [xops] at h
    rw [Tree.leads_bind] at h
    exact wpList_step fun K hK => xopE_sound hT hi h fun st' a' w' ρ' hq hi' => hK _ _ (xops_sound hT hk r st' a' w' ρ' hi' hq)
def onsOf (o : Oper) : List Nat := o.after.toList.filterMap fun e => if Region.binds .any e then some e.on else none
def isReady (ops : Array Oper) (L : List Nat) (i : Nat) : Bool := !memN i L && match ops[i]? with
  | some o => (onsOf o).all fun k => memN k L
  | none => false
def upN : Nat → Nat → List Nat
  | 0, _ => []
  | n + 1, k => k :: upN n (k + 1)
theorem upN_mem : ∀ {n k i : Nat}, i ∈ upN n k ↔ k ≤ i ∧ i < k + n
  | 0, k, i => by simp [upN]
  | n + 1, k, i => by
    simp only [upN, List.mem_cons, upN_mem]
    omega
def desc (ops : Array Oper) : List Nat → List Nat → List Nat
  | [], acc => acc
  | j :: r, acc => match ops[j]? with
    | some o => if (onsOf o).any (fun k => memN k acc) then desc ops r (j :: acc) else desc ops r acc
    | none => desc ops r acc
def firstOf (P : Program) (ops : Array Oper) (i : Nat) : Option (List Nat) := match ops[i]? with
  | some oi => if Nat.ble (cls P oi.op) 1 then
      let ds := desc ops (upN ops.size 0) [i]
      some ((upN ops.size 0).filter fun j => !(memN j ds || match ops[j]? with
        | some oj => oi.apart ops oj && (Nat.beq (cls P oi.op) 0 || Nat.ble (cls P oj.op) 2)
        | none => true))
    else none
  | none => none
def mayFirst (P : Program) (ops : Array Oper) (L : List Nat) (i : Nat) : Bool := match firstOf P ops i with
  | some l => l.all fun j => memN j L
  | none => false
def findN (p : Nat → Bool) : List Nat → Option Nat
  | [] => none
  | i :: r => if p i then some i else findN p r
theorem findN_some {p : Nat → Bool} {i : Nat} : ∀ {l : List Nat}, findN p l = some i → p i = true
  | [], h => by cases h
  | j :: r, h => by
    simp only [findN] at h
    split at h
    · rename_i hp; injection h with h; subst h; exact hp
    · exact findN_some h
def XAny (T : Table) (P : Program) (nt : Nat) (ops : Array Oper) (Q : St → Prop) : Nat → List Nat → St → Prop
  | 0, L, st => (∀ i, isReady ops L i = false) ∧ Q st
  | n + 1, L, st => ((∀ i, isReady ops L i = false) → Q st) ∧ ∀ i, isReady ops L i = true → ∀ o, ops[i]? = some o → (xop0 T P nt ops o st).Leads (XAny T P nt ops Q n (i :: L))
def SameL (L L' : List Nat) : Prop := ∀ k, memN k L = memN k L'
theorem isReady_same {ops : Array Oper} {L L' : List Nat} {i : Nat} (h : SameL L L') : isReady ops L i = isReady ops L' i := by
  unfold isReady
  rw [h i]
  have : (fun k => memN k L) = fun k => memN k L' := funext h
  rw [this]
theorem XAny_same {T : Table} {nt : Nat} {ops : Array Oper} {Q : St → Prop} : ∀ {n : Nat} {L L' : List Nat} {st : St}, SameL L L' → XAny T P nt ops Q n L st → XAny T P nt ops Q n L' st
  | 0, L, L', st, hs, h => ⟨fun i => by rw [← isReady_same hs]; exact h.1 i, h.2⟩
  | n + 1, L, L', st, hs, h => ⟨fun h0 => h.1 fun i => by rw [isReady_same hs]; exact h0 i, fun i hi o ho =>
      Tree.leads_mono (fun st' hq => XAny_same (fun k => by simp only [memN]; split <;> first | rfl | exact hs k) hq) (h.2 i (by rw [isReady_same hs]; exact hi) o ho)⟩
def Closed (ops : Array Oper) (L : List Nat) : Prop := ∀ j, memN j L = true → j < ops.size ∧ ∀ o, ops[j]? = some o → ∀ k ∈ onsOf o, memN k L = true
theorem ready_spec {ops : Array Oper} {L : List Nat} {i : Nat} (h : isReady ops L i = true) : memN i L = false ∧ ∃ o, ops[i]? = some o ∧ ∀ k ∈ onsOf o, memN k L = true := by
  unfold isReady at h
  simp only [Bool.and_eq_true, Bool.not_eq_true'] at h
  obtain ⟨h1, h2⟩ := h
  split at h2
  · rename_i o ho
    exact ⟨h1, o, ho, fun k hk => List.all_eq_true.1 h2 k hk⟩
  · cases h2
theorem memN_cons {x y : Nat} {l : List Nat} : memN x (y :: l) = true ↔ x = y ∨ memN x l = true := by
  rw [memN_iff, List.mem_cons, memN_iff]
theorem Closed.cons {ops : Array Oper} {L : List Nat} {i : Nat} (hc : Closed ops L) (h : isReady ops L i = true) : Closed ops (i :: L) := by
  obtain ⟨_, o, ho, hall⟩ := ready_spec h
  intro j hj
  rcases memN_cons.1 hj with rfl | hj
  · refine ⟨(Array.getElem?_eq_some_iff.1 ho).1, fun o' ho' k hk => ?_⟩
    rw [ho] at ho'; injection ho' with ho'; subst ho'
    exact memN_cons.2 (.inr (hall k hk))
  · exact ⟨(hc j hj).1, fun o ho k hk => memN_cons.2 (.inr ((hc j hj).2 o ho k hk))⟩
theorem ready_cons {ops : Array Oper} {L : List Nat} {i j : Nat} (h : isReady ops L j = true) (hne : j ≠ i) : isReady ops (i :: L) j = true := by
  obtain ⟨h1, o, ho, hall⟩ := ready_spec h
  unfold isReady
  simp only [ho, Bool.and_eq_true, Bool.not_eq_true', List.all_eq_true]
  refine ⟨?_, fun k hk => memN_cons.2 (.inr (hall k hk))⟩
  cases hm : memN j (i :: L) with
  | false => rfl
  | true =>
    rcases memN_cons.1 hm with h | h
    · exact absurd h hne
    · rw [h1] at h; cases h
theorem desc_not {ops : Array Oper} {L : List Nat} (hc : Closed ops L) : ∀ {l acc : List Nat}, (∀ k, memN k acc = true → memN k L = false) → ∀ k, memN k (desc ops l acc) = true → memN k L = false
  | [], acc, h => h
  | j :: r, acc, h => by
    simp only [desc]
    split
    · rename_i o ho
      split
      · rename_i ha
        refine desc_not hc fun k hk => ?_
        rcases memN_cons.1 hk with rfl | hk
        · cases hm : memN k L with
          | false => rfl
          | true =>
            obtain ⟨x, hx, hxa⟩ := List.any_eq_true.1 ha
            have := (hc k hm).2 o ho x hx
            rw [h x hxa] at this; cases this
        · exact h k hk
      · exact desc_not hc h
    · exact desc_not hc h
theorem desc_unready {ops : Array Oper} {L : List Nat} {i j : Nat} (hc : Closed ops L) (hi : memN i L = false) (hj : isReady ops L j = true) (hne : j ≠ i) : memN j (desc ops (upN ops.size 0) [i]) = false := by
  cases hm : memN j (desc ops (upN ops.size 0) [i]) with
  | false => rfl
  | true =>
    exfalso
    have hc' := hc.cons hj
    have := desc_not hc' (l := upN ops.size 0) (acc := [i]) (fun k hk => by
      rcases memN_cons.1 hk with rfl | hk
      · cases hm : memN k (j :: L) with
        | false => rfl
        | true =>
          rcases memN_cons.1 hm with h | h
          · exact absurd h.symm hne
          · rw [hi] at h; cases h
      · cases hk) j hm
    rw [memN_cons.2 (.inl rfl)] at this; cases this
theorem mayFirst_spec {ops : Array Oper} {L : List Nat} {i : Nat} (h : mayFirst P ops L i = true) : ∃ oi, ops[i]? = some oi ∧ cls P oi.op ≤ 1 ∧
    ∀ j oj, ops[j]? = some oj → memN j L = false → memN j (desc ops (upN ops.size 0) [i]) = false → oi.apart ops oj = true ∧ (cls P oi.op = 0 ∨ cls P oj.op ≤ 2) := by
  unfold mayFirst at h
  split at h
  case h_2 => cases h
  rename_i l hl
  unfold firstOf at hl
  split at hl
  case h_2 => cases hl
  rename_i oi ho
  split at hl
  case isFalse => cases hl
  rename_i hc
  injection hl with hl; subst hl
  refine ⟨oi, ho, Nat.le_of_ble_eq_true hc, fun j oj hj hjL hjd => ?_⟩
  have hjs := (Array.getElem?_eq_some_iff.1 hj).1
  by_cases hb : (oi.apart ops oj && (Nat.beq (cls P oi.op) 0 || Nat.ble (cls P oj.op) 2)) = true
  · simp only [Bool.and_eq_true, Bool.or_eq_true] at hb
    exact ⟨hb.1, hb.2.imp Nat.eq_of_beq_eq_true Nat.le_of_ble_eq_true⟩
  · exfalso
    have := List.all_eq_true.1 h j (List.mem_filter.2 ⟨upN_mem.2 ⟨by omega, by omega⟩, by simp only [hjd, hj, Bool.false_or, Bool.not_eq_true']; exact Bool.eq_false_iff.2 hb⟩)
    rw [hjL] at this; cases this
theorem XAny_first {T : Table} {nt : Nat} {ops : Array Oper} {Q : St → Prop} {i : Nat} {oi : Oper} {v : SV} (ho : ops[i]? = some oi) (hc1 : cls P oi.op ≤ 1) : ∀ (n : Nat) (L : List Nat) (st : St),
    Closed ops L → (∀ j oj, ops[j]? = some oj → memN j L = false → memN j (desc ops (upN ops.size 0) [i]) = false → oi.apart ops oj = true ∧ (cls P oi.op = 0 ∨ cls P oj.op ≤ 2)) →
    isReady ops L i = true → Ends (xop0 T P nt ops oi st) (putS oi.dst v st) → XAny T P nt ops Q n (i :: L) (putS oi.dst v st) → XAny T P nt ops Q (n + 1) L st := by
  intro n
  induction n with
  | zero =>
    intro L st hc hall hr he h
    refine ⟨fun h0 => (by rw [h0 i] at hr; cases hr), fun j hj o hoj => ?_⟩
    by_cases hji : j = i
    · subst hji; rw [ho] at hoj; injection hoj with hoj; subst hoj
      exact ends_leads h he
    · have := h.1 j; rw [ready_cons hj hji] at this; cases this
  | succ n ih =>
    intro L st hc hall hr he h
    refine ⟨fun h0 => (by rw [h0 i] at hr; cases hr), fun j hj o hoj => ?_⟩
    by_cases hji : j = i
    · subst hji; rw [ho] at hoj; injection hoj with hoj; subst hoj
      exact ends_leads h he
    · have h1 := h.2 j (ready_cons hj hji) o hoj
      have hiL := (ready_spec hr).1
      have hjL := (ready_spec hj).1
      obtain ⟨hap, hcc⟩ := hall j o hoj hjL (desc_unready hc hiL hj hji)
      refine Tree.leads_mono ?_ (xop0_comm hap hc1 hcc he h1)
      rintro st' ⟨he', hq⟩
      refine ih (j :: L) st' (hc.cons hj) (fun k ok hk hkL hkd => hall k ok hk ?_ hkd) (ready_cons hr (Ne.symm hji)) he' (XAny_same (fun k => ?_) hq)
      · cases hm : memN k L with
        | false => rfl
        | true => rw [memN_cons.2 (.inr hm)] at hkL; cases hkL
      · rw [Bool.eq_iff_iff]
        simp only [memN_cons]
        constructor <;> (rintro (h | h | h) <;> simp [h])
def both : List (Tree St) → Tree St
  | [] => .done
  | [t] => t
  | t :: r => .any Bool (fun _ => True) fun b => .ite b t (both r)
theorem both_mem {Q : St → Prop} : ∀ {l : List (Tree St)}, (both l).Leads Q → ∀ t ∈ l, t.Leads Q
  | [], _, t, ht => by cases ht
  | [t], h, u, hu => by simp at hu; subst hu; exact h
  | t :: u :: r, h, x, hx => by
    simp only [both] at h
    rcases List.mem_cons.1 hx with rfl | hx
    · exact h true trivial
    · exact both_mem (l := u :: r) (h false trivial) x hx
def xany (T : Table) (P : Program) (nt : Nat) (ops : Array Oper) : Nat → List Nat → St → Tree St
  | 0, L, st => if (upN ops.size 0).all (fun i => !isReady ops L i) then .ret st else .fail
  | n + 1, L, st => match findN (fun i => isReady ops L i && mayFirst P ops L i) (upN ops.size 0) with
    | some i => match ops[i]? with
      | some o => (xop T P nt ops o st).det.bind (xany T P nt ops n (i :: L))
      | none => .fail
    | none => match (upN ops.size 0).filter (isReady ops L) with
      | [] => .ret st
      | rs => both (rs.map fun i => match ops[i]? with
        | some o => (xop T P nt ops o st).bind (xany T P nt ops n (i :: L))
        | none => .fail)
theorem isReady_lt {ops : Array Oper} {L : List Nat} {i : Nat} (h : isReady ops L i = true) : i ∈ upN ops.size 0 := by
  obtain ⟨_, o, ho, _⟩ := ready_spec h
  have := (Array.getElem?_eq_some_iff.1 ho).1
  exact upN_mem.2 ⟨by omega, by omega⟩
theorem xany_XAny {T : Table} {nt : Nat} {ops : Array Oper} {Q : St → Prop} : ∀ (n : Nat) (L : List Nat) (st : St), Closed ops L → (xany T P nt ops n L st).Leads Q → XAny T P nt ops Q n L st
  | 0, L, st, hc, h => by
    simp only [xany] at h
    split at h
    · rename_i hall
      refine ⟨fun i => ?_, h⟩
      cases hr : isReady ops L i with
      | false => rfl
      | true => have := List.all_eq_true.1 hall i (isReady_lt hr); rw [hr] at this; cases this
    · exact h.elim
  | n + 1, L, st, hc, h => by
    simp only [xany] at h
    split at h
    · rename_i i hi
      have hi := findN_some hi
      simp only [Bool.and_eq_true] at hi
      obtain ⟨hr, hm⟩ := hi
      split at h
      case h_2 => exact h.elim
      rename_i o ho
      rw [Tree.leads_bind] at h
      obtain ⟨st1, he, hq⟩ := det_ends h
      rw [xop_ends] at he
      obtain ⟨oi, ho', hc1, hall⟩ := mayFirst_spec hm
      rw [ho] at ho'; injection ho' with ho'; subst ho'
      obtain ⟨v, rfl⟩ := xop0_quiet hc1 he
      exact XAny_first ho hc1 n L st hc hall hr he (xany_XAny n (i :: L) _ (hc.cons hr) hq)
    · split at h
      · rename_i hnil
        have hno : ∀ i, isReady ops L i = false := fun i => by
          cases hr : isReady ops L i with
          | false => rfl
          | true => have := List.mem_filter.2 ⟨isReady_lt hr, hr⟩; rw [hnil] at this; cases this
        exact ⟨fun _ => h, fun i hi => by rw [hno i] at hi; cases hi⟩
      · rename_i rs hne
        refine ⟨fun h0 => ?_, fun i hi o ho => ?_⟩
        · exfalso
          apply hne
          rw [List.filter_eq_nil_iff]
          intro i _; rw [h0 i]; simp
        · have := both_mem h _ (List.mem_map.2 ⟨i, List.mem_filter.2 ⟨isReady_lt hi, hi⟩, rfl⟩)
          simp only [ho] at this
          rw [Tree.leads_bind, xop_leads] at this
          exact Tree.leads_mono (fun st' hq => xany_XAny n (i :: L) st' (hc.cons hi) hq) this
def pureD (S : Slots) : Op → Bool
  | .load _ ad => match ev S ad with
    | .ipt _ _ _ _ => true
    | _ => false
  | _ => false
def pureN (ops : Array Oper) (S : Slots) (i : Nat) : Bool := match ops[i]? with
  | some o => pureD S o.op
  | none => false
/-! A region in every order, with what is known of its guards: what is skipped comes first; a guard that is not known parts the ways; a look at a map may come ahead of the one other that is open, if it says the same behind it. -/
abbrev Known := List (Nat × Nat)
def knows (t : Nat) : Known → Option Nat
  | [] => none
  | (k, c) :: r => if Nat.beq k t then some c else knows t r
def guardOf (ops : Array Oper) (o : Oper) : Option (Nat × Bool) := match o.guard with
  | some (j, want) => match gslot ops j with
    | some t => some (t, want)
    | none => none
  | none => none
def skipsK (K : Known) (ops : Array Oper) (i : Nat) : Bool := match ops[i]? with
  | some o => match guardOf ops o with
    | some (t, want) => match knows t K with
      | some c => Nat.beq c 2 || Nat.beq c (match want with | true => 0 | false => 1)
      | none => false
    | none => false
  | none => false
def openK (K : Known) (ops : Array Oper) (i : Nat) : Bool := match ops[i]? with
  | some o => match guardOf ops o with
    | some (t, _) => match knows t K with
      | some _ => false
      | none => true
    | none => false
  | none => false
def apartIn (ops : Array Oper) (L : List Nat) (oi : Oper) (ds : List Nat) : List Nat → Bool
  | [] => true
  | j :: r => (memN j L || memN j ds || match ops[j]? with
    | some oj => oi.apart ops oj
    | none => true) && apartIn ops L oi ds r
def allApart (ops : Array Oper) (L : List Nat) (i : Nat) : Bool := match ops[i]? with
  | some oi => apartIn ops L oi (desc ops (upN ops.size 0) [i]) (upN ops.size 0)
  | none => false
def skipT (nt : Nat) (ops : Array Oper) (o : Oper) (st : St) : Tree St := if dstOK o.dst nt then match guardOf ops o with
    | some (t, want) => match look st.S t with
      | .lit (.bool b) => if b == want then .fail else .ret (skipOp o st)
      | .lit (.tuple _) => .ret (skipOp o st)
      | _ => .fail
    | none => .fail
  else .fail
def splitT (t : Nat) (st : St) (k : Nat → St → Tree St) : Tree St := match look st.S t with
  | .lit (.bool b) => .ite b (k 1 (known t true st)) (k 0 (known t false st))
  | .lit (.tuple _) => k 2 st
  | _ => .fail
def looker : Op → Bool
  | .lookup .. => true
  | _ => false
def openOnes (L ds : List Nat) : List Nat → List Nat
  | [] => []
  | k :: r => if memN k L || memN k ds then openOnes L ds r else k :: openOnes L ds r
def pairFor (ops : Array Oper) (L : List Nat) (i : Nat) : Option (Nat × Nat) := match ops[i]? with
  | some oi => if isReady ops L i && looker oi.op then match openOnes L (desc ops (upN ops.size 0) [i]) (upN ops.size 0) with
      | [j] => match ops[j]? with
        | some oj => if oi.apart ops oj then some (i, j) else none
        | none => none
      | _ => none
    else none
  | none => none
def findPair (ops : Array Oper) (L : List Nat) : List Nat → Option (Nat × Nat)
  | [] => none
  | i :: r => match pairFor ops L i with
    | some p => some p
    | none => findPair ops L r
def xpair (T : Table) (P : Program) (nt : Nat) (ops : Array Oper) (oi oj : Oper) (d : Nat) (st : St) (k : St → Tree St) : Tree St :=
  (xop T P nt ops oi st).det.bind fun st1 => .any Bool (fun _ => True) fun b => .ite b
    ((xop T P nt ops oj st).bind fun st2 => (xop T P nt ops oi st2).det.bind fun st3 => .need (look st3.S d = look st1.S d) .done)
    (k st1)
def cellD (S : Slots) (H : Heap) : Op → Bool
  | .load _ ad => match ev S ad with
    | .ptr h _ => match H[h]? with
      | some (.cells _ _) => true
      | _ => false
    | _ => false
  | _ => false
def softOp (P : Program) (op : Op) : Bool := match op with
  | .call { callee := .builtin .append, .. } => true
  | op => Nat.ble (cls P op) 2
def softIn (P : Program) (ops : Array Oper) (L : List Nat) (oi : Oper) (ds : List Nat) : List Nat → Bool
  | [] => true
  | j :: r => (memN j L || memN j ds || match ops[j]? with
    | some oj => oi.apart ops oj && softOp P oj.op
    | none => true) && softIn P ops L oi ds r
def cellN (P : Program) (ops : Array Oper) (st : St) (L : List Nat) (i : Nat) : Bool := match ops[i]? with
  | some o => cellD st.S st.H o.op && softIn P ops L o (desc ops (upN ops.size 0) [i]) (upN ops.size 0)
  | none => false
def xany2 (T : Table) (P : Program) (nt : Nat) (ops : Array Oper) : Nat → Nat → Known → List Nat → St → Tree St
  | 0, _, _, _, _ => .fail
  | _ + 1, 0, _, L, st => if (upN ops.size 0).all (fun i => !isReady ops L i) then .ret st else .fail
  | f + 1, n + 1, K, L, st => match findN (fun i => isReady ops L i && (skipsK K ops i && allApart ops L i)) (upN ops.size 0) with
    | some i => match ops[i]? with
      | some o => (skipT nt ops o st).bind (xany2 T P nt ops f n (match o.dst with | some d => (d, 2) :: K | none => K) (i :: L))
      | none => .fail
    | none => match findN (fun i => isReady ops L i && (!openK K ops i && (mayFirst P ops L i || ((pureN ops st.S i && allApart ops L i) || cellN P ops st L i)))) (upN ops.size 0) with
      | some i => match ops[i]? with
        | some o => (xop T P nt ops o st).det.bind (xany2 T P nt ops f n K (i :: L))
        | none => .fail
      | none => match findN (fun i => isReady ops L i && openK K ops i) (upN ops.size 0) with
        | some i => match ops[i]? with
          | some o => match guardOf ops o with
            | some (t, _) => splitT t st fun c st' => xany2 T P nt ops f (n + 1) ((t, c) :: K) L st'
            | none => .fail
          | none => .fail
        | none => match findPair ops L (upN ops.size 0) with
          | some (i, j) => match ops[i]?, ops[j]? with
            | some oi, some oj => match oi.dst with
              | some d => xpair T P nt ops oi oj d st (xany2 T P nt ops f n K (i :: L))
              | none => .fail
            | _, _ => .fail
          | none => match (upN ops.size 0).filter (isReady ops L) with
            | [] => .ret st
            | rs => both (rs.map fun i => match ops[i]? with
              | some o => (xop T P nt ops o st).bind (xany2 T P nt ops f n K (i :: L))
              | none => .fail)
theorem pureD_cls {op : Op} (h : pureD S op = true) : cls P op ≤ 1 := by
  cases op <;> first | (cases h; done) | (simp [cls]; done)
theorem pureD_xval {op : Op} {H' : Heap} (h : pureD S op = true) : xval P S H op = xval P S H' op := by
  cases op <;> first | (cases h; done) | skip
  rename_i t ad
  simp only [pureD] at h
  split at h
  · rename_i he; simp only [xval, he, xload]
  · cases h
theorem pureD_congr {op : Op} (h : ∀ x ∈ op.operands, ev S x = ev S' x) : pureD S op = pureD S' op := by
  cases op <;> first | rfl | skip
  rename_i t ad
  simp only [pureD]
  rw [h ad (by simp [Op.operands])]
theorem stepOp0_pure {T : Table} {nt : Nat} {ops : Array Oper} {o : Oper} {d : Option Nat} {u v : SV} {st st' : St} (h1 : ∀ k, d = some k → k ∉ o.looksAt ops) (hp : pureD st.S o.op = true)
    (hS : st'.S = setDst d u st.S) (h : Ends (stepOp0 T P nt o st) (putS o.dst v st)) : Ends (stepOp0 T P nt o st') (putS o.dst v st') := by
  have hc : cls P o.op ≤ 1 := pureD_cls hp
  unfold stepOp0 at *
  split at h
  case isFalse => exact h.elim
  rename_i hd
  have hd' : (dstOK o.dst nt && updOK st'.S st'.mv o.op) = true := by
    simp only [Bool.and_eq_true] at hd ⊢
    exact ⟨hd.1, updOK_cls (P := P) (Nat.le_trans hc (by decide))⟩
  rw [if_pos hd']
  rw [xrun_plain (Nat.le_trans hc (by decide))] at *
  simp only [ends_bind, Tree.bind_assoc, Tree.bind] at h ⊢
  obtain ⟨⟨sv, on⟩, h2, h3⟩ := h
  have hon : on = none := (leads_ends h2 (xval_none (R := fun _ => True) hc (ends_leads trivial h2))).2
  subst hon
  simp only [Ends, putS, St.mk.injEq] at h3
  have hx : xval P st'.S st'.H o.op = xval P st.S st.H o.op := by
    rw [hS, xval_congr (ev_looks h1)]; exact pureD_xval hp
  refine ⟨_, by rw [hx]; exact h2, ?_⟩
  simp only [Ends, putS, St.mk.injEq]
  refine ⟨?_, by simp, trivial, trivial⟩
  have e := h3.1
  cases ho : o.dst with
  | none => rfl
  | some k =>
    rw [ho] at e
    have := congrFun e k
    simp [setDst, setSlot] at this
    rw [this]
theorem xop0_pure {T : Table} {nt : Nat} {ops : Array Oper} {o : Oper} {d : Option Nat} {u v : SV} {st st' : St} (h1 : ∀ k, d = some k → k ∉ o.looksAt ops) (hp : pureD st.S o.op = true)
    (hS : st'.S = setDst d u st.S) (h : Ends (xop0 T P nt ops o st) (putS o.dst v st)) : Ends (xop0 T P nt ops o st') (putS o.dst v st') := by
  have hskip : ∀ st : St, ∀ st' : St, Ends (Tree.ret (skipOp o st)) (putS o.dst v st) → Ends (Tree.ret (skipOp o st')) (putS o.dst v st') := fun st st' h => by
    simp only [Ends, putS, skipOp, St.mk.injEq] at *
    refine ⟨?_, trivial, trivial, trivial⟩
    have e := h.1
    cases ho : o.dst with
    | none => rfl
    | some k =>
      rw [ho] at e
      have := congrFun e k
      simp [setDst, setSlot] at this
      rw [this]
  unfold xop0 at *
  split at h
  · exact stepOp0_pure h1 hp hS h
  · rename_i j want hg
    split at h
    case isFalse => exact h.elim
    rename_i hd
    rw [if_pos hd]
    split at h
    case h_2 => exact h.elim
    rename_i t ht
    have hl : look st'.S t = look st.S t := by rw [hS]; exact look_guard h1 hg ht
    rw [hl]
    split at h
    · split at h
      · rename_i hb
        rw [if_pos hb]; exact stepOp0_pure h1 hp hS h
      · rename_i hb
        rw [if_neg hb]; exact hskip _ _ h
    · exact hskip _ _ h
    · exact h.elim
theorem XAny_pure {T : Table} {nt : Nat} {ops : Array Oper} {Q : St → Prop} {i : Nat} {oi : Oper} {v : SV} (ho : ops[i]? = some oi) : ∀ (n : Nat) (L : List Nat) (st : St),
    Closed ops L → (∀ j oj, ops[j]? = some oj → memN j L = false → memN j (desc ops (upN ops.size 0) [i]) = false → oi.apart ops oj = true) → pureD st.S oi.op = true →
    isReady ops L i = true → Ends (xop0 T P nt ops oi st) (putS oi.dst v st) → XAny T P nt ops Q n (i :: L) (putS oi.dst v st) → XAny T P nt ops Q (n + 1) L st := by
  intro n
  induction n with
  | zero =>
    intro L st hc hall hp hr he h
    refine ⟨fun h0 => (by rw [h0 i] at hr; cases hr), fun j hj o hoj => ?_⟩
    by_cases hji : j = i
    · subst hji; rw [ho] at hoj; injection hoj with hoj; subst hoj
      exact ends_leads h he
    · have := h.1 j; rw [ready_cons hj hji] at this; cases this
  | succ n ih =>
    intro L st hc hall hp hr he h
    refine ⟨fun h0 => (by rw [h0 i] at hr; cases hr), fun j hj o hoj => ?_⟩
    by_cases hji : j = i
    · subst hji; rw [ho] at hoj; injection hoj with hoj; subst hoj
      exact ends_leads h he
    · have h1 := h.2 j (ready_cons hj hji) o hoj
      have hiL := (ready_spec hr).1
      have hjL := (ready_spec hj).1
      have hap := hall j o hoj hjL (desc_unready hc hiL hj hji)
      obtain ⟨a1, a2, a3⟩ := Oper.apart_spec hap
      rw [xop0_put a1 a2, Tree.leads_bind] at h1
      refine Tree.leads_mono ?_ (xop0_form h1)
      rintro st' ⟨hq, u, g1, _⟩
      have hp' : pureD st'.S oi.op = true := by rw [g1, pureD_congr (S' := st.S) (ev_looks a3)]; exact hp
      refine ih (j :: L) st' (hc.cons hj) (fun k ok hk hkL hkd => hall k ok hk ?_ hkd) hp' (ready_cons hr (Ne.symm hji)) (xop0_pure a3 hp g1 he) (XAny_same (fun k => ?_) hq)
      · cases hm : memN k L with
        | false => rfl
        | true => rw [memN_cons.2 (.inr hm)] at hkL; cases hkL
      · rw [Bool.eq_iff_iff]
        simp only [memN_cons]
        constructor <;> (rintro (h | h | h) <;> simp [h])
def Tree.All {α : Type} (R : α → Prop) : Tree α → Prop
  | .ret a => R a
  | .ite _ t e => t.All R ∧ e.All R
  | .need _ t => t.All R
  | .any _ _ f => ∀ b, (f b).All R
  | .done => True
  | .fail => True
theorem all_leads {α : Type} {R Q : α → Prop} : ∀ {t : Tree α}, t.All R → t.Leads Q → t.Leads fun a => Q a ∧ R a
  | .ret _, h, g => ⟨g, h⟩
  | .ite c t e, h, g => by
    simp only [Tree.Leads] at *
    cases c
    · exact all_leads (t := e) h.2 g
    · exact all_leads (t := t) h.1 g
  | .need _ t, h, g => ⟨g.1, all_leads (t := t) h g.2⟩
  | .any _ _ _, h, g => fun b hb => all_leads (h b) (g b hb)
  | .done, _, _ => trivial
  | .fail, _, g => g.elim
theorem all_mono {α : Type} {R Q : α → Prop} (h : ∀ a, R a → Q a) : ∀ {t : Tree α}, t.All R → t.All Q
  | .ret _, g => h _ g
  | .ite _ t e, g => ⟨all_mono h (t := t) g.1, all_mono h (t := e) g.2⟩
  | .need _ t, g => all_mono h (t := t) g
  | .any _ _ _, g => fun b => all_mono h (g b)
  | .done, _ => trivial
  | .fail, _ => trivial
theorem all_bind {α β : Type} {R : β → Prop} {f : α → Tree β} (h : ∀ a, (f a).All R) : ∀ (t : Tree α), (t.bind f).All R
  | .ret a => h a
  | .ite _ t e => ⟨all_bind h t, all_bind h e⟩
  | .need _ t => all_bind h t
  | .any _ _ g => fun b => all_bind h (g b)
  | .done => trivial
  | .fail => trivial
def CellsLe (H H' : Heap) : Prop := ∀ (h : Nat) (et : TypeId) (cs : List SV), H[h]? = some (SO.cells et cs) → H'[h]? = some (SO.cells et cs)
theorem CellsLe.refl (H : Heap) : CellsLe H H := fun _ _ _ h => h
theorem CellsLe.trans {A B C : Heap} (h : CellsLe A B) (g : CellsLe B C) : CellsLe A C := fun k et cs hk => g k et cs (h k et cs hk)
theorem CellsLe.add (H l : Heap) : CellsLe H (H ++ l) := fun _ _ _ h => heap_grow h
theorem CellsLe.put {H : Heap} {h : Nat} {o : SO} (o' : SO) (ho : H[h]? = some o) (hn : ∀ et cs, o ≠ .cells et cs) : CellsLe H (H.set h o') := fun k et cs hk => by
  by_cases e : k = h
  · subst e; rw [ho] at hk; injection hk with hk; exact absurd hk (hn et cs)
  · rw [List.getElem?_set_ne (Ne.symm e)]; exact hk
theorem CellsLe.put2 {H : Heap} {h g : Nat} {o p : SO} (o' p' : SO) (ho : H[h]? = some o) (hn : ∀ et cs, o ≠ .cells et cs) (hp : H[g]? = some p) (hm : ∀ et cs, p ≠ .cells et cs) : CellsLe H ((H.set h o').set g p') := fun k et cs hk => by
  by_cases e : k = g
  · subst e; rw [hp] at hk; injection hk with hk; exact absurd hk (hm et cs)
  · rw [List.getElem?_set_ne (Ne.symm e)]; exact CellsLe.put o' ho hn k et cs hk
theorem append_cells {H : Heap} {t u : TypeId} {s x : SV} : (xappend P H t u s x).All fun r => CellsLe H r.2 := by
  unfold xappend
  repeat' split
  all_goals first
    | trivial
    | (refine all_bind (fun M => ?_) _; simp only [Tree.All]; exact CellsLe.add H _)
    | (rename_i ho _
       refine all_bind (fun M => ?_) _
       have hp : ∀ o' : SO, CellsLe H (H.set _ o') := fun o' => CellsLe.put o' ho (fun _ _ e => by cases e)
       simp only [Tree.All]
       exact ⟨hp _, (hp _).trans (CellsLe.add _ _)⟩)
theorem appendF_cells {H : Heap} {t u : TypeId} {s x : SV} : (xappendF P H t u s x).All fun r => CellsLe H r.2 := by
  unfold xappendF
  repeat' split
  all_goals first
    | trivial
    | (refine all_bind (fun M => ?_) _; simp only [Tree.All]; exact CellsLe.add H _)
    | (rename_i ho _
       refine all_bind (fun M => ?_) _
       have hp : ∀ o' : SO, CellsLe H (H.set _ o') := fun o' => CellsLe.put o' ho (fun _ _ e => by cases e)
       simp only [Tree.All]
       exact fun b => ⟨hp _, CellsLe.add _ _⟩)
theorem appendX_cells {H : Heap} {t u : TypeId} {s x : SV} : (xappendX P H t u s x).All fun r => CellsLe H r.2 := by
  unfold xappendX
  repeat' split
  all_goals first
    | trivial
    | (refine all_bind (fun M => ?_) _; simp only [Tree.All]; exact CellsLe.add H _)
    | (rename_i ho _
       refine all_bind (fun M => ?_) _
       have hp : ∀ o' : SO, CellsLe H (H.set _ o') := fun o' => CellsLe.put o' ho (fun _ _ e => by cases e)
       split
       · trivial
       · simp only [Tree.All]
         exact (hp _).trans (CellsLe.add _ _))
theorem appendE_cells {H : Heap} {t u : TypeId} {s x : SV} : (xappendE P H t u s x).All fun r => CellsLe H r.2 := by
  unfold xappendE
  repeat' split
  all_goals first
    | trivial
    | (refine all_bind (fun M => ?_) _; simp only [Tree.All]; exact CellsLe.add H _)
    | (rename_i ho _
       refine all_bind (fun M => ?_) _
       have hp : ∀ o' : SO, CellsLe H (H.set _ o') := fun o' => CellsLe.put o' ho (fun _ _ e => by cases e)
       simp only [Tree.All]
       exact (hp _).trans (CellsLe.add _ _))
theorem appendG_cells {H : Heap} {t u : TypeId} {s x : SV} : (xappendG P H t u s x).All fun r => CellsLe H r.2 := by
  unfold xappendG
  repeat' split
  all_goals first
    | trivial
    | (refine all_bind (fun M => ?_) _; simp only [Tree.All]; exact CellsLe.add H _)
    | (rename_i ho _
       refine all_bind (fun M => ?_) _
       have hp : ∀ o' : SO, CellsLe H (H.set _ o') := fun o' => CellsLe.put o' ho (fun _ _ e => by cases e)
       simp only [Tree.All]
       exact ⟨CellsLe.refl H, (hp _).trans (CellsLe.add _ _)⟩)
theorem appendK_cells {H : Heap} {t u : TypeId} {h n h2 m : Nat} {x : SV} : (xappendK P H t u h n h2 m x).All fun r => CellsLe H r.2 := by
  unfold xappendK
  repeat' split
  all_goals first
    | trivial
    | skip
  simp only [Tree.All]
  refine CellsLe.trans (CellsLe.put2 _ _ (by assumption) ?_ (by assumption) ?_) (CellsLe.add _ _)
  all_goals (intro _ _ e; cases e)
theorem appendK0_cells {H : Heap} {t u : TypeId} {h2 m : Nat} {x : SV} : (xappendK0 P H t u h2 m x).All fun r => CellsLe H r.2 := by
  unfold xappendK0
  repeat' split
  all_goals first
    | trivial
    | skip
  exact all_mono (fun r hr => (CellsLe.add H _).trans hr) appendK_cells
theorem appendD_cells {H : Heap} {t u : TypeId} {h n h2 m : Nat} {x : SV} : (xappendD P H t u h n h2 m x).All fun r => CellsLe H r.2 := by
  unfold xappendD
  repeat' split
  all_goals first
    | trivial
    | skip
  simp only [Tree.All]
  refine CellsLe.trans (CellsLe.put2 _ _ (by assumption) ?_ (by assumption) ?_) (CellsLe.add _ _)
  all_goals (intro _ _ e; cases e)
theorem appendD0_cells {H : Heap} {t u : TypeId} {h2 m : Nat} {x : SV} : (xappendD0 P H t u h2 m x).All fun r => CellsLe H r.2 := by
  unfold xappendD0
  repeat' split
  all_goals first
    | trivial
    | skip
  exact all_mono (fun r hr => (CellsLe.add H _).trans hr) appendD_cells
theorem appendDs_cells {H : Heap} {t u : TypeId} {s : SV} {h2 m : Nat} {x : SV} : (xappendDs P H t u s h2 m x).All fun r => CellsLe H r.2 := by
  unfold xappendDs
  repeat' split
  all_goals first
    | trivial
    | exact appendD0_cells
    | exact appendD_cells
theorem toD_cells {H H' : Heap} {x x' : SV} (h : toD H x = some (x', H')) : CellsLe H H' := by
  unfold toD at h
  repeat' split at h
  all_goals first
    | (cases h; done)
    | skip
  injection h with h; injection h with h1 h3; subst h3
  refine CellsLe.trans (CellsLe.put2 _ _ (by assumption) ?_ (by assumption) ?_) (CellsLe.add _ _)
  all_goals (intro _ _ e; cases e)
theorem appends_cells {T : Table} {H : Heap} {t u : TypeId} {s x : SV} : (xappends T P H t u s x).All fun r => CellsLe H r.2 := by
  unfold xappends
  split
  · rename_i hD
    split
    · exact all_mono (fun r hr => (toD_cells hD).trans hr) appendDs_cells
    · trivial
  · split
    · exact appendDs_cells
    · unfold xappends0
      repeat' split
      all_goals first
        | trivial
        | exact appendK0_cells
        | exact appendK_cells
        | exact appendX_cells
        | exact appendF_cells
        | exact appendE_cells
        | exact appendG_cells
        | exact append_cells
theorem soft_cells {T : Table} {op : Op} {R : SV × Heap → Prop} (hs : softOp P op = true) (h : (xrun T P S H op).Leads R) : (xrun T P S H op).Leads fun r => R r ∧ CellsLe H r.2 := by
  unfold softOp at hs
  split at hs
  · refine all_leads ?_ h
    simp only [xrun]
    split
    · exact appends_cells
    · trivial
  · have hc : cls P op ≤ 2 := Nat.le_of_ble_eq_true hs
    refine Tree.leads_mono ?_ (xrun_form h)
    rintro r ⟨hr, _, g⟩
    obtain ⟨l, hl⟩ := g hc
    exact ⟨hr, by rw [hl]; exact CellsLe.add H l⟩
theorem stepOp0_cells {T : Table} {nt : Nat} {o : Oper} {st : St} {R : St → Prop} (hs : softOp P o.op = true) (h : (stepOp0 T P nt o st).Leads R) : (stepOp0 T P nt o st).Leads fun st' => R st' ∧ CellsLe st.H st'.H := by
  unfold stepOp0 at h ⊢
  split at h
  case isFalse => exact h.elim
  rename_i hd
  rw [if_pos hd]
  rw [Tree.leads_bind] at *
  refine Tree.leads_mono ?_ (soft_cells hs h)
  rintro ⟨sv, H'⟩ ⟨hq, hc⟩
  exact ⟨hq, hc⟩
theorem xop0_cells {T : Table} {nt : Nat} {ops : Array Oper} {o : Oper} {st : St} {R : St → Prop} (hs : softOp P o.op = true) (h : (xop0 T P nt ops o st).Leads R) : (xop0 T P nt ops o st).Leads fun st' => R st' ∧ CellsLe st.H st'.H := by
  unfold xop0 at h ⊢
  split at h
  · exact stepOp0_cells hs h
  · split at h
    case isFalse => exact h.elim
    rename_i hd
    rw [if_pos hd]
    split at h
    case h_2 => exact h.elim
    split at h
    · split at h
      · rename_i hb
        rw [if_pos hb]; exact stepOp0_cells hs h
      · rename_i hb
        rw [if_neg hb]; exact ⟨h, CellsLe.refl _⟩
    · exact ⟨h, CellsLe.refl _⟩
    · exact h.elim
theorem cellD_cls {op : Op} (h : cellD S H op = true) : cls P op ≤ 1 := by
  cases op <;> first | (cases h; done) | (simp [cls]; done)
theorem cellD_xval {op : Op} {H' : Heap} (h : cellD S H op = true) (hc : CellsLe H H') : xval P S H' op = xval P S H op := by
  cases op <;> first | (cases h; done) | skip
  rename_i t ad
  simp only [cellD] at h
  split at h
  · rename_i k off he
    split at h
    · rename_i et cs hk
      simp only [xval, he, xload, hk, hc _ _ _ hk]
    · cases h
  · cases h
theorem cellD_congr {op : Op} {H' : Heap} (h : ∀ x ∈ op.operands, ev S x = ev S' x) (hc : CellsLe H H') (hd : cellD S H op = true) : cellD S' H' op = true := by
  cases op <;> first | (cases hd; done) | skip
  rename_i t ad
  simp only [cellD] at hd ⊢
  rw [← h ad (by simp [Op.operands])]
  split at hd
  · rename_i k off he
    split at hd
    · rename_i et cs hk
      rw [hc _ _ _ hk]
    · cases hd
  · cases hd
theorem stepOp0_celled {T : Table} {nt : Nat} {ops : Array Oper} {o : Oper} {d : Option Nat} {u v : SV} {st st' : St} (h1 : ∀ k, d = some k → k ∉ o.looksAt ops) (hp : cellD st.S st.H o.op = true)
    (hS : st'.S = setDst d u st.S) (hH : CellsLe st.H st'.H) (h : Ends (stepOp0 T P nt o st) (putS o.dst v st)) : Ends (stepOp0 T P nt o st') (putS o.dst v st') := by
  have hc : cls P o.op ≤ 1 := cellD_cls hp
  unfold stepOp0 at *
  split at h
  case isFalse => exact h.elim
  rename_i hd
  have hd' : (dstOK o.dst nt && updOK st'.S st'.mv o.op) = true := by
    simp only [Bool.and_eq_true] at hd ⊢
    exact ⟨hd.1, updOK_cls (P := P) (Nat.le_trans hc (by decide))⟩
  rw [if_pos hd']
  rw [xrun_plain (Nat.le_trans hc (by decide))] at *
  simp only [ends_bind, Tree.bind_assoc, Tree.bind] at h ⊢
  obtain ⟨⟨sv, on⟩, h2, h3⟩ := h
  have hon : on = none := (leads_ends h2 (xval_none (R := fun _ => True) hc (ends_leads trivial h2))).2
  subst hon
  simp only [Ends, putS, St.mk.injEq] at h3
  have hx : xval P st'.S st'.H o.op = xval P st.S st.H o.op := by
    rw [hS, xval_congr (ev_looks h1)]; exact cellD_xval hp hH
  refine ⟨_, by rw [hx]; exact h2, ?_⟩
  simp only [Ends, putS, St.mk.injEq]
  refine ⟨?_, by simp, trivial, trivial⟩
  have e := h3.1
  cases ho : o.dst with
  | none => rfl
  | some k =>
    rw [ho] at e
    have := congrFun e k
    simp [setDst, setSlot] at this
    rw [this]
theorem xop0_celled {T : Table} {nt : Nat} {ops : Array Oper} {o : Oper} {d : Option Nat} {u v : SV} {st st' : St} (h1 : ∀ k, d = some k → k ∉ o.looksAt ops) (hp : cellD st.S st.H o.op = true)
    (hS : st'.S = setDst d u st.S) (hH : CellsLe st.H st'.H) (h : Ends (xop0 T P nt ops o st) (putS o.dst v st)) : Ends (xop0 T P nt ops o st') (putS o.dst v st') := by
  have hskip : ∀ st : St, ∀ st' : St, Ends (Tree.ret (skipOp o st)) (putS o.dst v st) → Ends (Tree.ret (skipOp o st')) (putS o.dst v st') := fun st st' h => by
    simp only [Ends, putS, skipOp, St.mk.injEq] at *
    refine ⟨?_, trivial, trivial, trivial⟩
    have e := h.1
    cases ho : o.dst with
    | none => rfl
    | some k =>
      rw [ho] at e
      have := congrFun e k
      simp [setDst, setSlot] at this
      rw [this]
  unfold xop0 at *
  split at h
  · exact stepOp0_celled h1 hp hS hH h
  · rename_i j want hg
    split at h
    case isFalse => exact h.elim
    rename_i hd
    rw [if_pos hd]
    split at h
    case h_2 => exact h.elim
    rename_i t ht
    have hl : look st'.S t = look st.S t := by rw [hS]; exact look_guard h1 hg ht
    rw [hl]
    split at h
    · split at h
      · rename_i hb
        rw [if_pos hb]; exact stepOp0_celled h1 hp hS hH h
      · rename_i hb
        rw [if_neg hb]; exact hskip _ _ h
    · exact hskip _ _ h
    · exact h.elim
theorem XAny_cell {T : Table} {nt : Nat} {ops : Array Oper} {Q : St → Prop} {i : Nat} {oi : Oper} {v : SV} (ho : ops[i]? = some oi) : ∀ (n : Nat) (L : List Nat) (st : St),
    Closed ops L → (∀ j oj, ops[j]? = some oj → memN j L = false → memN j (desc ops (upN ops.size 0) [i]) = false → oi.apart ops oj = true ∧ softOp P oj.op = true) → cellD st.S st.H oi.op = true →
    isReady ops L i = true → Ends (xop0 T P nt ops oi st) (putS oi.dst v st) → XAny T P nt ops Q n (i :: L) (putS oi.dst v st) → XAny T P nt ops Q (n + 1) L st := by
  intro n
  induction n with
  | zero =>
    intro L st hc hall hp hr he h
    refine ⟨fun h0 => (by rw [h0 i] at hr; cases hr), fun j hj o hoj => ?_⟩
    by_cases hji : j = i
    · subst hji; rw [ho] at hoj; injection hoj with hoj; subst hoj
      exact ends_leads h he
    · have := h.1 j; rw [ready_cons hj hji] at this; cases this
  | succ n ih =>
    intro L st hc hall hp hr he h
    refine ⟨fun h0 => (by rw [h0 i] at hr; cases hr), fun j hj o hoj => ?_⟩
    by_cases hji : j = i
    · subst hji; rw [ho] at hoj; injection hoj with hoj; subst hoj
      exact ends_leads h he
    · have h1 := h.2 j (ready_cons hj hji) o hoj
      have hiL := (ready_spec hr).1
      have hjL := (ready_spec hj).1
      obtain ⟨hap, hsoft⟩ := hall j o hoj hjL (desc_unready hc hiL hj hji)
      obtain ⟨a1, a2, a3⟩ := Oper.apart_spec hap
      rw [xop0_put a1 a2, Tree.leads_bind] at h1
      refine Tree.leads_mono ?_ (xop0_cells hsoft (xop0_form h1))
      rintro st' ⟨⟨hq, u, g1, _⟩, hH⟩
      have hp' : cellD st'.S st'.H oi.op = true := cellD_congr (S := st.S) (fun x hx => by rw [g1]; exact (ev_looks a3 x hx).symm) hH hp
      refine ih (j :: L) st' (hc.cons hj) (fun k ok hk hkL hkd => hall k ok hk ?_ hkd) hp' (ready_cons hr (Ne.symm hji)) (xop0_celled a3 hp g1 hH he) (XAny_same (fun k => ?_) hq)
      · cases hm : memN k L with
        | false => rfl
        | true => rw [memN_cons.2 (.inr hm)] at hkL; cases hkL
      · rw [Bool.eq_iff_iff]
        simp only [memN_cons]
        constructor <;> (rintro (h | h | h) <;> simp [h])
theorem softIn_spec {ops : Array Oper} {L ds : List Nat} {oi : Oper} : ∀ {l : List Nat}, softIn P ops L oi ds l = true → ∀ j ∈ l, ∀ oj, ops[j]? = some oj → memN j L = false → memN j ds = false → oi.apart ops oj = true ∧ softOp P oj.op = true
  | [], _, j, hj => by cases hj
  | k :: r, h, j, hj => by
    simp only [softIn, Bool.and_eq_true] at h
    rcases List.mem_cons.1 hj with rfl | hj
    · intro oj ho h1 h2
      have := h.1
      rw [ho, h1, h2] at this
      simpa using this
    · exact softIn_spec h.2 j hj
def SkipAt (nt : Nat) (ops : Array Oper) (o : Oper) (st : St) : Prop :=
  ∃ j want t, o.guard = some (j, want) ∧ dstOK o.dst nt = true ∧ gslot ops j = some t ∧ ((∃ b, look st.S t = .lit (.bool b) ∧ (b == want) = false) ∨ ∃ vs, look st.S t = .lit (.tuple vs))
theorem SkipAt.run {T : Table} {nt : Nat} {ops : Array Oper} {o : Oper} {st : St} (h : SkipAt nt ops o st) : xop0 T P nt ops o st = .ret (skipOp o st) := by
  obtain ⟨j, want, t, hg, hd, ht, h⟩ := h
  unfold xop0
  simp only [hg, hd, if_true, ht]
  rcases h with ⟨b, hb, hne⟩ | ⟨vs, hb⟩
  · simp [hb, hne]
  · simp [hb]
theorem skipT_spec {nt : Nat} {ops : Array Oper} {o : Oper} {st : St} {Q : St → Prop} (h : (skipT nt ops o st).Leads Q) : SkipAt nt ops o st ∧ Q (skipOp o st) := by
  unfold skipT at h
  split at h
  case isFalse => exact h.elim
  rename_i hd
  split at h
  case h_2 => exact h.elim
  rename_i t want hg
  unfold guardOf at hg
  split at hg
  case h_2 => cases hg
  rename_i j want' hog
  split at hg
  case h_2 => cases hg
  rename_i t' ht
  injection hg with hg; injection hg with e1 e2; subst e1; subst e2
  split at h
  · rename_i b hb
    split at h
    · exact h.elim
    · rename_i hne
      exact ⟨⟨j, want', t', hog, hd, ht, .inl ⟨b, hb, by simpa using hne⟩⟩, h⟩
  · rename_i vs hb
    exact ⟨⟨j, want', t', hog, hd, ht, .inr ⟨vs, hb⟩⟩, h⟩
  · exact h.elim
theorem SkipAt.keep {nt : Nat} {ops : Array Oper} {o : Oper} {d : Option Nat} {u : SV} {st st' : St} (h : SkipAt nt ops o st) (h1 : ∀ k, d = some k → k ∉ o.looksAt ops) (hS : st'.S = setDst d u st.S) : SkipAt nt ops o st' := by
  obtain ⟨j, want, t, hg, hd, ht, h⟩ := h
  have hl : look st'.S t = look st.S t := by rw [hS]; exact look_guard h1 hg ht
  exact ⟨j, want, t, hg, hd, ht, by rw [hl]; exact h⟩
theorem XAny_skip {T : Table} {nt : Nat} {ops : Array Oper} {Q : St → Prop} {i : Nat} {oi : Oper} (ho : ops[i]? = some oi) : ∀ (n : Nat) (L : List Nat) (st : St),
    Closed ops L → (∀ j oj, ops[j]? = some oj → memN j L = false → memN j (desc ops (upN ops.size 0) [i]) = false → oi.apart ops oj = true) →
    isReady ops L i = true → SkipAt nt ops oi st → XAny T P nt ops Q n (i :: L) (skipOp oi st) → XAny T P nt ops Q (n + 1) L st := by
  intro n
  induction n with
  | zero =>
    intro L st hc hall hr he h
    refine ⟨fun h0 => (by rw [h0 i] at hr; cases hr), fun j hj o hoj => ?_⟩
    by_cases hji : j = i
    · subst hji; rw [ho] at hoj; injection hoj with hoj; subst hoj
      rw [he.run]; exact h
    · have := h.1 j; rw [ready_cons hj hji] at this; cases this
  | succ n ih =>
    intro L st hc hall hr he h
    refine ⟨fun h0 => (by rw [h0 i] at hr; cases hr), fun j hj o hoj => ?_⟩
    by_cases hji : j = i
    · subst hji; rw [ho] at hoj; injection hoj with hoj; subst hoj
      rw [he.run]; exact h
    · have h1 := h.2 j (ready_cons hj hji) o hoj
      have hiL := (ready_spec hr).1
      have hjL := (ready_spec hj).1
      have hap := hall j o hoj hjL (desc_unready hc hiL hj hji)
      obtain ⟨a1, a2, a3⟩ := Oper.apart_spec hap
      have h1 : (xop0 T P nt ops o (putS oi.dst (.lit (.tuple #[])) st)).Leads (XAny T P nt ops Q n (j :: i :: L)) := h1
      rw [xop0_put a1 a2, Tree.leads_bind] at h1
      refine Tree.leads_mono ?_ (xop0_form h1)
      rintro st' ⟨hq, u, g1, _⟩
      have hq : XAny T P nt ops Q n (j :: i :: L) (skipOp oi st') := hq
      refine ih (j :: L) st' (hc.cons hj) (fun k ok hk hkL hkd => hall k ok hk ?_ hkd) (ready_cons hr (Ne.symm hji)) (he.keep a3 g1) (XAny_same (fun k => ?_) hq)
      · cases hm : memN k L with
        | false => rfl
        | true => rw [memN_cons.2 (.inr hm)] at hkL; cases hkL
      · rw [Bool.eq_iff_iff]
        simp only [memN_cons]
        constructor <;> (rintro (h | h | h) <;> simp [h])
theorem apartIn_spec {ops : Array Oper} {L ds : List Nat} {oi : Oper} : ∀ {l : List Nat}, apartIn ops L oi ds l = true → ∀ j ∈ l, ∀ oj, ops[j]? = some oj → memN j L = false → memN j ds = false → oi.apart ops oj = true
  | [], _, j, hj => by cases hj
  | k :: r, h, j, hj => by
    simp only [apartIn, Bool.and_eq_true] at h
    rcases List.mem_cons.1 hj with rfl | hj
    · intro oj ho h1 h2
      have := h.1
      rw [ho, h1, h2] at this
      simpa using this
    · exact apartIn_spec h.2 j hj
theorem allApart_spec {ops : Array Oper} {L : List Nat} {i : Nat} {oi : Oper} (ho : ops[i]? = some oi) (h : allApart ops L i = true) : ∀ j oj, ops[j]? = some oj → memN j L = false → memN j (desc ops (upN ops.size 0) [i]) = false → oi.apart ops oj = true := fun j oj hj h1 h2 => by
  unfold allApart at h
  rw [ho] at h
  have := (Array.getElem?_eq_some_iff.1 hj).1
  exact apartIn_spec h j (upN_mem.2 ⟨by omega, by omega⟩) oj hj h1 h2
theorem looker_run {T : Table} {op : Op} {R : SV × Heap → Prop} (h : looker op = true) (hr : (xrun T P S H op).Leads R) : (xrun T P S H op).Leads fun r => R r ∧ r.2 = H := by
  cases op <;> first | (cases h; done) | skip
  simp only [xrun] at hr ⊢
  rw [Tree.leads_bind] at hr ⊢
  exact Tree.leads_mono (fun r hq => ⟨hq, rfl⟩) hr
theorem looker_step {T : Table} {nt : Nat} {o : Oper} {st : St} {R : St → Prop} (h : looker o.op = true) (hr : (stepOp0 T P nt o st).Leads R) : (stepOp0 T P nt o st).Leads fun st' => R st' ∧ ∃ u, st' = putS o.dst u st := by
  unfold stepOp0 at hr ⊢
  split at hr
  case isFalse => exact hr.elim
  rename_i hd
  rw [if_pos hd]
  rw [Tree.leads_bind] at *
  refine Tree.leads_mono ?_ (looker_run h hr)
  rintro ⟨sv, H'⟩ ⟨hq, rfl⟩
  exact ⟨hq, sv, rfl⟩
theorem looker_form {T : Table} {nt : Nat} {ops : Array Oper} {o : Oper} {st : St} {R : St → Prop} (hl : looker o.op = true) (h : (xop0 T P nt ops o st).Leads R) : (xop0 T P nt ops o st).Leads fun st' => R st' ∧ ∃ u, st' = putS o.dst u st := by
  unfold xop0 at h ⊢
  split at h
  · exact looker_step hl h
  · split at h
    case isFalse => exact h.elim
    rename_i hd
    rw [if_pos hd]
    split at h
    case h_2 => exact h.elim
    split at h
    · split at h
      · rename_i hb
        rw [if_pos hb]; exact looker_step hl h
      · rename_i hb
        rw [if_neg hb]; exact ⟨h, _, rfl⟩
    · exact ⟨h, _, rfl⟩
    · exact h.elim
theorem leads_and {α : Type} {A B : α → Prop} : ∀ {t : Tree α}, t.Leads A → t.Leads B → t.Leads fun x => A x ∧ B x
  | .ret _, h, g => ⟨h, g⟩
  | .ite c t e, h, g => by
    simp only [Tree.Leads] at *
    cases c
    · exact leads_and (t := e) h g
    · exact leads_and (t := t) h g
  | .need p t, h, g => ⟨h.1, leads_and h.2 g.2⟩
  | .any β p f, h, g => fun b hb => leads_and (h b hb) (g b hb)
  | .done, _, _ => trivial
  | .fail, h, _ => h.elim
theorem openOnes_mem {L ds : List Nat} {k : Nat} : ∀ {l : List Nat}, k ∈ l → memN k L = false → memN k ds = false → k ∈ openOnes L ds l
  | [], h, _, _ => by cases h
  | x :: r, h, h1, h2 => by
    simp only [openOnes]
    rcases List.mem_cons.1 h with rfl | h
    · rw [h1, h2]; simp
    · split
      · exact openOnes_mem h h1 h2
      · exact List.mem_cons_of_mem _ (openOnes_mem h h1 h2)
theorem findPair_spec {ops : Array Oper} {L : List Nat} {p : Nat × Nat} : ∀ {l : List Nat}, findPair ops L l = some p → ∃ i, pairFor ops L i = some p
  | [], h => by cases h
  | i :: r, h => by
    simp only [findPair] at h
    split at h
    · rename_i q hq; injection h with h; subst h; exact ⟨i, hq⟩
    · exact findPair_spec h
theorem pairFor_spec {ops : Array Oper} {L : List Nat} {x i j : Nat} (h : pairFor ops L x = some (i, j)) : ∃ oi oj, ops[i]? = some oi ∧ ops[j]? = some oj ∧ isReady ops L i = true ∧ looker oi.op = true ∧ oi.apart ops oj = true ∧
    ∀ k ok, ops[k]? = some ok → memN k L = false → memN k (desc ops (upN ops.size 0) [i]) = false → k = j := by
  unfold pairFor at h
  split at h
  case h_2 => cases h
  rename_i oi ho
  split at h
  case isFalse => cases h
  rename_i hc
  simp only [Bool.and_eq_true] at hc
  split at h
  case h_2 => cases h
  rename_i j' hj
  split at h
  case h_2 => cases h
  rename_i oj hoj
  split at h
  case isFalse => cases h
  rename_i hap
  injection h with h; injection h with e1 e2; subst e1; subst e2
  refine ⟨oi, oj, ho, hoj, hc.1, hc.2, hap, fun k ok hk h1 h2 => ?_⟩
  have := (Array.getElem?_eq_some_iff.1 hk).1
  have hm := openOnes_mem (L := L) (ds := desc ops (upN ops.size 0) [x]) (k := k) (l := upN ops.size 0) (upN_mem.2 ⟨by omega, by omega⟩) h1 h2
  rw [hj] at hm
  simpa using hm
theorem XAny_two {T : Table} {nt : Nat} {ops : Array Oper} {Q : St → Prop} {i j : Nat} {oi oj : Oper} {v : SV} {n : Nat} {L : List Nat} {st : St} (ho : ops[i]? = some oi) (hoj : ops[j]? = some oj) (hc : Closed ops L)
    (hall : ∀ k ok, ops[k]? = some ok → memN k L = false → memN k (desc ops (upN ops.size 0) [i]) = false → k = j) (hr : isReady ops L i = true) (hap : oi.apart ops oj = true)
    (he : Ends (xop0 T P nt ops oi st) (putS oi.dst v st)) (hchk : (xop0 T P nt ops oj st).Leads fun st2 => Ends (xop0 T P nt ops oi st2) (putS oi.dst v st2)) (h : XAny T P nt ops Q n (i :: L) (putS oi.dst v st)) : XAny T P nt ops Q (n + 1) L st := by
  refine ⟨fun h0 => (by rw [h0 i] at hr; cases hr), fun k hk o hok => ?_⟩
  by_cases hki : k = i
  · subst hki; rw [ho] at hok; injection hok with hok; subst hok
    exact ends_leads h he
  · have hiL := (ready_spec hr).1
    have hkL := (ready_spec hk).1
    obtain rfl := hall k o hok hkL (desc_unready hc hiL hk hki)
    rw [hoj] at hok; injection hok with hok; subst hok
    obtain ⟨a1, a2, a3⟩ := Oper.apart_spec hap
    cases n with
    | zero => have := h.1 k; rw [ready_cons hk hki] at this; cases this
    | succ n =>
      have h1 := h.2 k (ready_cons hk hki) oj hoj
      rw [xop0_put a1 a2, Tree.leads_bind] at h1
      refine Tree.leads_mono ?_ (leads_and h1 hchk)
      rintro st2 ⟨hq, he2⟩
      have hq : XAny T P nt ops Q n (k :: i :: L) (putS oi.dst v st2) := hq
      refine ⟨fun h0 => ?_, fun m hm om hom => ?_⟩
      · have := ready_cons hr (Ne.symm hki); rw [h0 i] at this; cases this
      · by_cases hmi : m = i
        · subst hmi; rw [ho] at hom; injection hom with hom; subst hom
          refine ends_leads (XAny_same (fun x => ?_) hq) he2
          rw [Bool.eq_iff_iff]
          simp only [memN_cons]
          constructor <;> (rintro (h | h | h) <;> simp [h])
        · exfalso
          have hiL' : memN i (k :: L) = false := by
            cases hmm : memN i (k :: L) with
            | false => rfl
            | true =>
              rcases memN_cons.1 hmm with e | e
              · exact absurd e.symm hki
              · rw [hiL] at e; cases e
          have hmL := (ready_spec hm).1
          have hmL' : memN m L = false := by
            cases hmm : memN m L with
            | false => rfl
            | true => rw [memN_cons.2 (.inr hmm)] at hmL; cases hmL
          have := hall m om hom hmL' (desc_unready (hc.cons hk) hiL' hm hmi)
          subst this
          rw [memN_cons.2 (.inl rfl)] at hmL; cases hmL
theorem xany2_XAny {T : Table} {nt : Nat} {ops : Array Oper} {Q : St → Prop} : ∀ (f n : Nat) (K : Known) (L : List Nat) (st : St), Closed ops L → (xany2 T P nt ops f n K L st).Leads Q → XAny T P nt ops Q n L st
  | 0, _, _, _, _, _, h => by simp only [xany2] at h; exact h.elim
  | f + 1, 0, K, L, st, hc, h => by
    simp only [xany2] at h
    split at h
    · rename_i hall
      refine ⟨fun i => ?_, h⟩
      cases hr : isReady ops L i with
      | false => rfl
      | true => have := List.all_eq_true.1 hall i (isReady_lt hr); rw [hr] at this; cases this
    · exact h.elim
  | f + 1, n + 1, K, L, st, hc, h => by
    simp only [xany2] at h
    split at h
    · rename_i i hi
      have hi := findN_some hi
      simp only [Bool.and_eq_true] at hi
      obtain ⟨hr, _, hm⟩ := hi
      split at h
      case h_2 => exact h.elim
      rename_i o ho
      rw [Tree.leads_bind] at h
      obtain ⟨hs, hq⟩ := skipT_spec h
      exact XAny_skip ho n L st hc (allApart_spec ho hm) hr hs (xany2_XAny f n _ (i :: L) _ (hc.cons hr) hq)
    · split at h
      · rename_i i hi
        have hi := findN_some hi
        simp only [Bool.and_eq_true] at hi
        obtain ⟨hr, _, hm⟩ := hi
        split at h
        case h_2 => exact h.elim
        rename_i o ho
        rw [Tree.leads_bind] at h
        obtain ⟨st1, he, hq⟩ := det_ends h
        rw [xop_ends] at he
        simp only [Bool.or_eq_true, Bool.and_eq_true] at hm
        rcases hm with hm | ⟨hp, hm⟩ | hm
        · obtain ⟨oi, ho', hc1, hall⟩ := mayFirst_spec hm
          rw [ho] at ho'; injection ho' with ho'; subst ho'
          obtain ⟨v, rfl⟩ := xop0_quiet hc1 he
          exact XAny_first ho hc1 n L st hc hall hr he (xany2_XAny f n K (i :: L) _ (hc.cons hr) hq)
        · unfold pureN at hp
          rw [ho] at hp
          obtain ⟨v, rfl⟩ := xop0_quiet (pureD_cls hp) he
          exact XAny_pure ho n L st hc (allApart_spec ho hm) hp hr he (xany2_XAny f n K (i :: L) _ (hc.cons hr) hq)
        · unfold cellN at hm
          rw [ho] at hm
          simp only [Bool.and_eq_true] at hm
          obtain ⟨hp, hm⟩ := hm
          obtain ⟨v, rfl⟩ := xop0_quiet (cellD_cls hp) he
          refine XAny_cell ho n L st hc (fun j oj hj h1 h2 => ?_) hp hr he (xany2_XAny f n K (i :: L) _ (hc.cons hr) hq)
          have := (Array.getElem?_eq_some_iff.1 hj).1
          exact softIn_spec hm j (upN_mem.2 ⟨by omega, by omega⟩) oj hj h1 h2
      · split at h
        · rename_i i hi
          split at h
          case h_2 => exact h.elim
          rename_i o ho
          split at h
          case h_2 => exact h.elim
          rename_i t w hg
          unfold splitT at h
          split at h
          · rename_i b hl
            have hkn := known_same hl
            have h := br_iff.1 h
            cases b with
            | true => have h := h.1 rfl; rw [hkn] at h; exact xany2_XAny f (n + 1) _ L st hc h
            | false => have h := h.2 rfl; rw [hkn] at h; exact xany2_XAny f (n + 1) _ L st hc h
          · exact xany2_XAny f (n + 1) _ L st hc h
          · exact h.elim
        · split at h
          · rename_i i j hp
            obtain ⟨x, hx⟩ := findPair_spec hp
            obtain ⟨oi, oj, ho, hoj, hr, hlk, hap, hall⟩ := pairFor_spec hx
            split at h
            case h_2 => exact h.elim
            rename_i oi' oj' hoi' hoj'
            rw [ho] at hoi'; injection hoi' with e; subst e
            rw [hoj] at hoj'; injection hoj' with e; subst e
            split at h
            case h_2 => exact h.elim
            rename_i d hd
            unfold xpair at h
            rw [Tree.leads_bind] at h
            obtain ⟨st1, he, hq⟩ := det_ends h
            rw [xop_ends] at he
            obtain ⟨_, v, rfl⟩ := leads_ends he (looker_form (R := fun _ => True) hlk (ends_leads trivial he))
            have hchk := br_true.mp (hq true trivial)
            have hcont := br_false.mp (hq false trivial)
            rw [Tree.leads_bind, xop_leads] at hchk
            refine XAny_two ho hoj hc hall hr hap he (Tree.leads_mono (fun st2 h2 => ?_) hchk) (xany2_XAny f n K (i :: L) _ (hc.cons hr) hcont)
            rw [Tree.leads_bind] at h2
            obtain ⟨st3, he3, heq, _⟩ := det_ends h2
            rw [xop_ends] at he3
            obtain ⟨_, u, rfl⟩ := leads_ends he3 (looker_form (R := fun _ => True) hlk (ends_leads trivial he3))
            have e : u = v := by
              simp only [putS, hd, setDst, look_set] at heq
              simpa using heq
            rw [e] at he3; exact he3
          · split at h
            · rename_i hnil
              have hno : ∀ i, isReady ops L i = false := fun i => by
                cases hr : isReady ops L i with
                | false => rfl
                | true => have := List.mem_filter.2 ⟨isReady_lt hr, hr⟩; rw [hnil] at this; cases this
              exact ⟨fun _ => h, fun i hi => by rw [hno i] at hi; cases hi⟩
            · rename_i rs hne
              refine ⟨fun h0 => ?_, fun i hi o ho => ?_⟩
              · exfalso
                apply hne
                rw [List.filter_eq_nil_iff]
                intro i _; rw [h0 i]; simp
              · have := both_mem h _ (List.mem_map.2 ⟨i, List.mem_filter.2 ⟨isReady_lt hi, hi⟩, rfl⟩)
                simp only [ho] at this
                rw [Tree.leads_bind, xop_leads] at this
                exact Tree.leads_mono (fun st' hq => xany2_XAny f n K (i :: L) st' (hc.cons hi) hq) this
def Lists (ops : Array Oper) (listed : Array Bool) (L : List Nat) : Prop := listed.size = ops.size ∧ ∀ k, listed.getD k false = memN k L
theorem ready_iff {ops : Array Oper} {listed : Array Bool} {L : List Nat} {i : Nat} (hl : Lists ops listed L) : i ∈ Region.ready .any ops listed ↔ isReady ops L i = true := by
  rw [mem_ready]
  unfold isReady
  simp only [Bool.and_eq_true, Bool.not_eq_true']
  cases ho : ops[i]? with
  | none => simp
  | some o =>
    have hlt := (Array.getElem?_eq_some_iff.1 ho).1
    have h1 : listed.getD i true = listed.getD i false := by
      have : i < listed.size := by rw [hl.1]; exact hlt
      simp [this]
    rw [h1, hl.2]
    simp only [Option.some.injEq, exists_eq_left', List.all_eq_true]
    refine and_congr Iff.rfl ⟨fun h k hk => ?_, fun h e he hb => ?_⟩
    · unfold onsOf at hk
      obtain ⟨e, he, hek⟩ := List.mem_filterMap.1 hk
      split at hek
      · rename_i hb
        injection hek with hek; subst hek
        rw [← hl.2]; exact h e (by simpa using he) hb
      · cases hek
    · rw [hl.2]
      exact h _ (List.mem_filterMap.2 ⟨e, by simpa using he, by rw [if_pos hb]⟩)
theorem Lists.set {ops : Array Oper} {listed : Array Bool} {L : List Nat} {i : Nat} (hl : Lists ops listed L) (hi : i < ops.size) : Lists ops (listed.setIfInBounds i true) (i :: L) := by
  refine ⟨by simp [hl.1], fun k => ?_⟩
  by_cases hk : i = k
  · subst hk
    have : i < listed.size := by rw [hl.1]; exact hi
    have h1 : memN i (i :: L) = true := memN_cons.2 (.inl rfl)
    rw [h1]
    simp [this]
  · rw [getD_set_ne false hk, hl.2 k, Bool.eq_iff_iff, memN_cons]
    simp [Ne.symm hk]
theorem XAny_wpAny {T : Table} {n0 nt : Nat} {ρ0 : Map} {ops : Array Oper} {Q : St → Prop} {Qx : Exit → Act → World → Prop} (hT : TableOK P T E.bye)
    (hk : ∀ st' a' w' ρ', Q st' → Inv E n0 ρ0 nt st' a' w' ρ' → Qx .normal a' w') : ∀ (n : Nat) (L : List Nat) (listed : Array Bool) (st : St) (a : Act) (w : World) (ρ : Map), Lists ops listed L →
    Inv E n0 ρ0 nt st a w ρ → XAny T P nt ops Q n L st → wpAny P .any ops Qx n listed a w
  | 0, L, listed, st, a, w, ρ, hl, hi, h => by
    refine ⟨?_, hk _ _ _ _ h.2 hi⟩
    rw [List.eq_nil_iff_forall_not_mem]
    intro i hm
    rw [ready_iff hl, h.1 i] at hm; cases hm
  | n + 1, L, listed, st, a, w, ρ, hl, hi, h => by
    refine ⟨fun h0 => hk _ _ _ _ (h.1 fun i => ?_) hi, fun i hm => ?_⟩
    · cases hr : isReady ops L i with
      | false => rfl
      | true => rw [← ready_iff hl, h0] at hr; cases hr
    · rw [ready_iff hl] at hm
      obtain ⟨_, o, ho, _⟩ := ready_spec hm
      have := xop0_sound (Qx := Qx) (K := wpAny P .any ops Qx n (listed.setIfInBounds i true)) hT hi (h.2 i hm o ho) fun st' a' w' ρ' hq hi' =>
        XAny_wpAny hT hk n (i :: L) (listed.setIfInBounds i true) st' a' w' ρ' (hl.set (Array.getElem?_eq_some_iff.1 ho).1) hi' hq
      unfold wpOp
      simp only [ho]
      split
      · rename_i hw; rw [if_pos hw] at this; exact .inl this
      · rename_i hw; rw [if_neg hw] at this; exact this
theorem Inv.drawn {n0 nt : Nat} {ρ0 : Map} {st : St} (hi : Inv E n0 ρ0 nt st a w ρ) : Inv E n0 ρ0 nt st a { w with drawn := w.drawn + 1 } ρ := by
  obtain ⟨E1, hE, hi⟩ := hi
  have hs := hi.sat
  refine ⟨E1, hE, ⟨hs.os, hs.tape, hs.output, hs.free, fun h o ho => ?_, hs.inj, hs.zle, hs.keep, hs.apart, hs.fresh, hs.old⟩, hi.held, hi.size, hi.defs, hi.len, hi.same⟩
  have := hs.objs h o ho
  cases o <;> exact this
def xregion (T : Table) (P : Program) (nt : Nat) (ops : Array Oper) (draw : Bool) (st : St) : Tree St :=
  if draw then if P.follows .mixedOrders then xany2 T P nt ops (3 * ops.size + 3) ops.size [] [] st else .fail else xops T P nt ops ops.toList st
theorem xregion_sound {T : Table} {n0 nt : Nat} {ρ0 : Map} {id : Nat} {ops : Array Oper} {draw : Bool} {st : St} {Q : St → Prop} {Qx : Exit → Act → World → Prop} (hT : TableOK P T E.bye) (hi : Inv E n0 ρ0 nt st a w ρ)
    (hk : ∀ st' a' w' ρ', Q st' → Inv E n0 ρ0 nt st' a' w' ρ' → Qx .normal a' w') (h : (xregion T P nt ops draw st).Leads Q) : (Code.region id ops draw).wp P Qx a w := by
  unfold xregion at h
  cases draw with
  | false =>
    rw [if_neg (by simp)] at h
    exact wp_region_list (xops_sound hT hk _ _ _ _ _ hi h)
  | true =>
    rw [if_pos rfl] at h
    split at h
    case isFalse => exact h.elim
    rename_i hm
    refine wp_region_any hm (XAny_wpAny hT hk ops.size [] _ st a _ ρ ⟨by simp, fun k => by simp [memN, Array.getElem?_replicate]; split <;> rfl⟩ hi.drawn (xany2_XAny _ ops.size [] [] st (fun j hj => by cases hj) h))
end Sx
