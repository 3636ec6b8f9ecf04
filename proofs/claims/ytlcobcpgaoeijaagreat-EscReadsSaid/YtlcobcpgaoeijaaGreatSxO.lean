/- An operation with its guard; two of them in either order. -/
import Derived.Test.YtlcobcpgaoeijaaGreatSxN
set_option linter.unusedVariables false
set_option linter.unusedSimpArgs false
namespace Sx
open Go
variable {P : Program} {E : Env} {ρ : Map} {S S' : Slots} {H : Heap} {a : Act} {w w' : World} {Z : Zone}
def gslot (ops : Array Oper) (j : Nat) : Option Nat := match ops[j]? with
  | some o => o.dst
  | none => none
def skipOp (o : Oper) (st : St) : St := { S := setDst o.dst (.lit (.tuple #[])) st.S, H := st.H, mv := st.mv, df := st.df }
def known (t : Nat) (b : Bool) (st : St) : St := { S := setSlot t (.lit (.bool b)) st.S, H := st.H, mv := st.mv, df := st.df }
def xop (T : Table) (P : Program) (nt : Nat) (ops : Array Oper) (o : Oper) (st : St) : Tree St := match o.guard with
  | none => stepOp0 T P nt o st
  | some (j, want) => if dstOK o.dst nt then match gslot ops j with
    | some t => match look st.S t with
      | .lit (.bool b) => .ite b
        (if want then stepOp0 T P nt o (known t true st) else .ret (skipOp o (known t true st)))
        (if want then .ret (skipOp o (known t false st)) else stepOp0 T P nt o (known t false st))
      | .lit (.tuple _) => .ret (skipOp o st)
      | _ => .fail
    | none => .fail
    else .fail
def xop0 (T : Table) (P : Program) (nt : Nat) (ops : Array Oper) (o : Oper) (st : St) : Tree St := match o.guard with
  | none => stepOp0 T P nt o st
  | some (j, want) => if dstOK o.dst nt then match gslot ops j with
    | some t => match look st.S t with
      | .lit (.bool b) => if b == want then stepOp0 T P nt o st else .ret (skipOp o st)
      | .lit (.tuple _) => .ret (skipOp o st)
      | _ => .fail
    | none => .fail
    else .fail
theorem known_same {t : Nat} {b : Bool} {st : St} (h : look st.S t = .lit (.bool b)) : known t b st = st := by
  unfold known
  have : setSlot t (.lit (.bool b)) st.S = st.S := by
    funext k
    have := look_set (d := t) (v := .lit (.bool b)) (S := st.S) (t := k)
    simp only [look] at this h
    rw [this]
    split
    · rename_i e; rw [e, h]
    · rfl
  rw [this]
theorem xop_leads {T : Table} {nt : Nat} {ops : Array Oper} {o : Oper} {st : St} {Q : St → Prop} : (xop T P nt ops o st).Leads Q ↔ (xop0 T P nt ops o st).Leads Q := by
  unfold xop xop0
  split
  · exact Iff.rfl
  · rename_i j want hg
    split
    case isFalse => exact Iff.rfl
    split
    case h_2 => exact Iff.rfl
    rename_i t _
    split
    · rename_i b hl
      have hk := known_same hl
      cases b <;> cases want <;> simp [Tree.Leads, br_true, br_false, hk]
    · exact Iff.rfl
    · exact Iff.rfl
theorem xop_ends {T : Table} {nt : Nat} {ops : Array Oper} {o : Oper} {st st' : St} : Ends (xop T P nt ops o st) st' ↔ Ends (xop0 T P nt ops o st) st' := by
  unfold xop xop0
  split
  · exact Iff.rfl
  · rename_i j want hg
    split
    case isFalse => exact Iff.rfl
    split
    case h_2 => exact Iff.rfl
    rename_i t _
    split
    · rename_i b hl
      have hk := known_same hl
      cases b <;> cases want <;> simp [Ends, br_true, br_false, hk]
    · exact Iff.rfl
    · exact Iff.rfl
theorem Inv.skip {n0 nt : Nat} {ρ0 : Map} {o : Oper} {st : St} (hi : Inv E n0 ρ0 nt st a w ρ) (hd : dstOK o.dst nt = true) : Inv E n0 ρ0 nt (skipOp o st) (a.put o.dst undef) w ρ :=
  let ⟨E1, hE, hi⟩ := hi
  ⟨E1, hE, hi.sat, hi.held.put hd hi.size (by simp [SV.rel, undef]), by rw [put_size]; exact hi.size, by rw [put_defers]; exact hi.defs, hi.len, hi.same⟩
theorem Inv.lit {n0 nt : Nat} {ρ0 : Map} {st : St} {t : Nat} {v : Value} (hi : Inv E n0 ρ0 nt st a w ρ) (hl : look st.S t = .lit v) : a.tmps.getD t undef = v := by
  obtain ⟨E1, hE, hi⟩ := hi
  exact rel_unlit (hi.held t) hl
theorem yielded_bool {ops : Array Oper} {j t : Nat} {b : Bool} (hg : gslot ops j = some t) (hv : a.tmps.getD t undef = .bool b) : yielded ops a.tmps j = some b := by
  unfold gslot at hg
  split at hg
  · rename_i o ho
    have : a.tmps[t]? = some (.bool b) := by
      rw [Array.getD_eq_getD_getElem?] at hv
      cases h : a.tmps[t]? with
      | none => rw [h] at hv; simp [undef] at hv
      | some x => rw [h] at hv; simp at hv; rw [hv]
    simp [yielded, ho, hg, this]
  · cases hg
theorem yielded_other {ops : Array Oper} {j t : Nat} {v : Value} (hg : gslot ops j = some t) (hv : a.tmps.getD t undef = v) (hb : ∀ b, v ≠ .bool b) : yielded ops a.tmps j = none := by
  unfold gslot at hg
  split at hg
  · rename_i o ho
    rw [Array.getD_eq_getD_getElem?] at hv
    cases h : a.tmps[t]? with
    | none => simp [yielded, ho, hg, h]
    | some x =>
      rw [h] at hv; simp at hv; subst hv
      simp only [yielded, ho, Option.bind_some, hg, h]
      cases x <;> first | rfl | exact absurd rfl (hb _)
  · cases hg
theorem xop0_sound {T : Table} {n0 nt : Nat} {ρ0 : Map} {ops : Array Oper} {o : Oper} {st : St} {Q : St → Prop} {K : Act → World → Prop} {Qx : Exit → Act → World → Prop} (hT : TableOK P T E.bye)
    (hi : Inv E n0 ρ0 nt st a w ρ) (h : (xop0 T P nt ops o st).Leads Q) (hk : ∀ st' a' w' ρ', Q st' → Inv E n0 ρ0 nt st' a' w' ρ' → K a' w') :
    if Region.wanted o (yielded ops a.tmps) then o.wp P a w K Qx else K (a.put o.dst undef) w := by
  unfold xop0 at h
  split at h
  · rename_i hg
    have hw : Region.wanted o (yielded ops a.tmps) = true := by simp [Region.wanted, hg]
    rw [hw, if_pos rfl]
    exact stepOp0_sound hT hi h hk
  · rename_i j want hg
    split at h
    case isFalse => exact h.elim
    rename_i hd
    split at h
    case h_2 => exact h.elim
    rename_i t hgs
    split at h
    · rename_i b hl
      have hv := hi.lit hl
      have hy := yielded_bool hgs hv
      have hw : Region.wanted o (yielded ops a.tmps) = (b == want) := by simp [Region.wanted, hg, hy]
      rw [hw]
      split at h
      · rename_i e; rw [if_pos e]; exact stepOp0_sound hT hi h hk
      · rename_i e; rw [if_neg e]; exact hk _ _ _ ρ h (hi.skip hd)
    · rename_i vs hl
      have hv := hi.lit hl
      have hy := yielded_other hgs hv (fun b e => by cases e)
      have hw : Region.wanted o (yielded ops a.tmps) = false := by simp [Region.wanted, hg, hy]
      rw [hw, if_neg (by simp)]
      exact hk _ _ _ ρ h (hi.skip hd)
    · exact h.elim
def putS (d : Option Nat) (v : SV) (st : St) : St := { S := setDst d v st.S, H := st.H, mv := st.mv, df := st.df }
theorem setDst_comm {d e : Option Nat} {v u : SV} (h : ∀ x, d = some x → e ≠ some x) : setDst e u (setDst d v S) = setDst d v (setDst e u S) := by
  cases d with
  | none => rfl
  | some d =>
    cases e with
    | none => rfl
    | some e =>
      have hne : d ≠ e := fun he => h d rfl (he ▸ rfl)
      funext k
      have h1 := look_set (d := e) (v := u) (S := setSlot d v S) (t := k)
      have h2 := look_set (d := d) (v := v) (S := S) (t := k)
      have h3 := look_set (d := d) (v := v) (S := setSlot e u S) (t := k)
      have h4 := look_set (d := e) (v := u) (S := S) (t := k)
      simp only [setDst]
      simp only [look] at *
      rw [h1, h2, h3, h4]
      by_cases a : k = d <;> by_cases b : k = e <;> simp_all
theorem ev_put {d : Option Nat} {v : SV} {x : Operand} (h : ∀ k, d = some k → x ≠ .tmp k) : ev (setDst d v S) x = ev S x := by
  cases d with
  | none => rfl
  | some d =>
    cases x with
    | tmp t =>
      simp only [ev, setDst]
      rw [look_set, if_neg]
      intro e; exact h d rfl (e ▸ rfl)
    | _ => rfl
theorem ev_looks {ops : Array Oper} {o : Oper} {d : Option Nat} {v : SV} (h : ∀ k, d = some k → k ∉ o.looksAt ops) : ∀ x ∈ o.op.operands, ev (setDst d v S) x = ev S x := fun x hx =>
  ev_put fun k hk hxk => h k hk (by
    subst hxk
    exact List.mem_append_left _ (List.mem_filterMap.2 ⟨.tmp k, by simpa using hx, rfl⟩))
theorem look_guard {ops : Array Oper} {o : Oper} {d : Option Nat} {v : SV} {j t : Nat} {want : Bool} (h : ∀ k, d = some k → k ∉ o.looksAt ops) (hg : o.guard = some (j, want)) (ht : gslot ops j = some t) : look (setDst d v S) t = look S t := by
  cases d with
  | none => rfl
  | some d =>
    simp only [setDst]
    rw [look_set, if_neg]
    intro e; subst e
    refine h _ rfl ?_
    have : (ops[j]?).bind (·.dst) = some t := by
      unfold gslot at ht
      cases hj : ops[j]? <;> simp_all
    simp [Oper.looksAt, hg, this]
theorem xrun_congr {T : Table} {op : Op} (h : ∀ x ∈ op.operands, ev S x = ev S' x) : xrun T P S H op = xrun T P S' H op := by
  have hval := xval_congr (P := P) (H := H) h
  have pl : (xval P S H op).bind (fun (r : SV × Option SO) => Tree.ret (r.1, H ++ r.2.toList)) = (xval P S' H op).bind (fun r => Tree.ret (r.1, H ++ r.2.toList)) := by rw [hval]
  cases op <;> first | exact pl | skip
  case store t ad v =>
    simp only [xrun]
    rw [h ad (by simp [Op.operands]), h v (by simp [Op.operands])]
  case makeMap t r =>
    cases r with
    | none => rfl
    | some r => exact pl
  case lookup t m x ok =>
    simp only [xrun]
    rw [h m (by simp [Op.operands]), h x (by simp [Op.operands])]
  case mapUpdate t m x v =>
    simp only [xrun]
    rw [h m (by simp [Op.operands]), h x (by simp [Op.operands]), h v (by simp [Op.operands])]
  case call c =>
    obtain ⟨cal, args, ats⟩ := c
    have hargs : ∀ x ∈ args.toList, ev S x = ev S' x := fun x hx => h x (by simp [Op.operands, Call.operands]; exact .inr (by simpa using hx))
    cases cal with
    | invoke r m => exact pl
    | value f =>
      simp only [xrun]
      rw [h f (by simp [Op.operands, Call.operands]), map_ev_congr hargs]
    | builtin b =>
      cases b <;> first | exact pl | skip
      · simp only [xrun]
        split
        · rename_i s x t u e1 e2
          rw [hargs s (by rw [e1]; simp), hargs x (by rw [e1]; simp)]
        · rfl
      · simp only [xrun]
        split
        · rename_i s t e1 e2
          rw [hargs s (by rw [e1]; simp)]
        · rfl
theorem updOK_congr {mv : List Nat} {op : Op} (h : ∀ x ∈ op.operands, ev S x = ev S' x) : updOK S mv op = updOK S' mv op := by
  cases op <;> first | rfl | skip
  case mapUpdate t m x v =>
    simp only [updOK]
    rw [h m (by simp [Op.operands])]
theorem updOK_cls {mv : List Nat} {op : Op} (h : cls P op ≤ 2) : updOK S mv op = true := by
  cases op <;> first | rfl | (simp [cls] at h; done)
theorem xrun_form {T : Table} {op : Op} {R : SV × Heap → Prop} (h : (xrun T P S H op).Leads R) :
    (xrun T P S H op).Leads fun r => R r ∧ (cls P op ≤ 1 → r.2 = H) ∧ (cls P op ≤ 2 → ∃ l, r.2 = H ++ l) := by
  have big : plainOp op = false → (xrun T P S H op).Leads fun r => R r ∧ (cls P op ≤ 1 → r.2 = H) ∧ (cls P op ≤ 2 → ∃ l, r.2 = H ++ l) := fun hp => by
    have hc : ¬ cls P op ≤ 2 := fun hc => by rw [plain_of_cls hc] at hp; cases hp
    exact Tree.leads_mono (fun r hr => ⟨hr, fun h => absurd (Nat.le_trans h (by decide)) hc, fun h => absurd h hc⟩) h
  have pl : ((xval P S H op).bind (fun (r : SV × Option SO) => Tree.ret (r.1, H ++ r.2.toList))).Leads R → ((xval P S H op).bind (fun (r : SV × Option SO) => Tree.ret (r.1, H ++ r.2.toList))).Leads fun r => R r ∧ (cls P op ≤ 1 → r.2 = H) ∧ (cls P op ≤ 2 → ∃ l, r.2 = H ++ l) := fun h => by
    rw [Tree.leads_bind] at *
    by_cases hc : cls P op ≤ 1
    · refine Tree.leads_mono ?_ (xval_none hc h)
      rintro ⟨sv, on⟩ ⟨hq, he⟩
      simp only at he; subst he
      exact ⟨hq, fun _ => by simp, fun _ => ⟨[], by simp⟩⟩
    · exact Tree.leads_mono (fun r hq => ⟨hq, fun h => absurd h hc, fun _ => ⟨_, rfl⟩⟩) h
  cases op <;> first | exact pl h | exact big rfl | skip
  case call c =>
    obtain ⟨cal, args, ats⟩ := c
    cases cal with
    | invoke r m => exact pl h
    | value f => exact big rfl
    | builtin b => cases b <;> first | exact pl h | exact big rfl
theorem xrun_plain {T : Table} {op : Op} (h : cls P op ≤ 2) : xrun T P S H op = (xval P S H op).bind fun (r : SV × Option SO) => Tree.ret (r.1, H ++ r.2.toList) := by
  cases op <;> first | rfl | (simp [cls] at h; done) | skip
  case call c =>
    obtain ⟨cal, args, ats⟩ := c
    cases cal with
    | builtin b => cases b <;> first | rfl | (simp [cls] at h; done)
    | _ => first | rfl | (simp [cls] at h; done)
theorem stepOp0_put {T : Table} {nt : Nat} {ops : Array Oper} {o : Oper} {d : Option Nat} {v : SV} {st : St} (h1 : ∀ k, d = some k → k ∉ o.looksAt ops) (h2 : ∀ k, d = some k → o.dst ≠ some k) :
    stepOp0 T P nt o (putS d v st) = (stepOp0 T P nt o st).bind fun st' => .ret (putS d v st') := by
  have hcomm : ∀ u, setDst o.dst u (setDst d v st.S) = setDst d v (setDst o.dst u st.S) := fun u => setDst_comm h2
  have hval : xrun T P (setDst d v st.S) st.H o.op = xrun T P st.S st.H o.op := xrun_congr (ev_looks (S := st.S) (v := v) h1)
  have hupd : updOK (setDst d v st.S) st.mv o.op = updOK st.S st.mv o.op := updOK_congr (ev_looks (S := st.S) (v := v) h1)
  unfold stepOp0
  simp only [putS, hval, hupd]
  split
  case isFalse => rfl
  simp only [Tree.bind_assoc, Tree.bind, hcomm]
theorem xop0_put {T : Table} {nt : Nat} {ops : Array Oper} {o : Oper} {d : Option Nat} {v : SV} {st : St} (h1 : ∀ k, d = some k → k ∉ o.looksAt ops) (h2 : ∀ k, d = some k → o.dst ≠ some k) :
    xop0 T P nt ops o (putS d v st) = (xop0 T P nt ops o st).bind fun st' => .ret (putS d v st') := by
  have hskip : skipOp o (putS d v st) = putS d v (skipOp o st) := by
    simp only [skipOp, putS]
    rw [setDst_comm h2]
  unfold xop0
  split
  · exact stepOp0_put h1 h2
  · rename_i j want hg
    split
    case isFalse => rfl
    split
    case h_2 => rfl
    rename_i t ht
    have hl : look (putS d v st).S t = look st.S t := look_guard (S := st.S) h1 hg ht
    rw [hl]
    split
    · split
      · exact stepOp0_put h1 h2
      · simp only [Tree.bind, hskip]
    · simp only [Tree.bind, hskip]
    · rfl
def Form (P : Program) (o : Oper) (st st' : St) : Prop :=
  ∃ u, st'.S = setDst o.dst u st.S ∧ (st'.mv = st.mv ∧ st'.df = st.df) ∧ (cls P o.op ≤ 1 → st'.H = st.H) ∧ (cls P o.op ≤ 2 → ∃ l, st'.H = st.H ++ l)
theorem stepOp0_form {T : Table} {nt : Nat} {o : Oper} {st : St} {R : St → Prop} (h : (stepOp0 T P nt o st).Leads R) : (stepOp0 T P nt o st).Leads fun st' => R st' ∧ Form P o st st' := by
  unfold stepOp0 at h ⊢
  split at h
  case isFalse => exact h.elim
  rename_i hd
  rw [if_pos hd]
  rw [Tree.leads_bind] at *
  refine Tree.leads_mono ?_ (xrun_form h)
  rintro ⟨sv, H'⟩ ⟨hq, h1, h2⟩
  exact ⟨hq, sv, rfl, ⟨rfl, rfl⟩, h1, h2⟩
theorem xop0_form {T : Table} {nt : Nat} {ops : Array Oper} {o : Oper} {st : St} {R : St → Prop} (h : (xop0 T P nt ops o st).Leads R) : (xop0 T P nt ops o st).Leads fun st' => R st' ∧ Form P o st st' := by
  have hskip : Form P o st (skipOp o st) := ⟨_, rfl, ⟨rfl, rfl⟩, fun _ => rfl, fun _ => ⟨[], by simp [skipOp]⟩⟩
  unfold xop0 at h ⊢
  split at h
  · exact stepOp0_form h
  · split at h
    case isFalse => exact h.elim
    rename_i hd
    rw [if_pos hd]
    split at h
    case h_2 => exact h.elim
    split at h
    · split at h
      · rename_i hb
        rw [if_pos hb]; exact stepOp0_form h
      · rename_i hb
        rw [if_neg hb]; exact ⟨h, hskip⟩
    · exact ⟨h, hskip⟩
    · exact h.elim
theorem stepOp0_again {T : Table} {nt : Nat} {ops : Array Oper} {o : Oper} {d : Option Nat} {u v : SV} {st st' : St} (h1 : ∀ k, d = some k → k ∉ o.looksAt ops) (hc : cls P o.op ≤ 1)
    (hS : st'.S = setDst d u st.S) (hH : cls P o.op = 0 ∨ ∃ l, st'.H = st.H ++ l) (h : Ends (stepOp0 T P nt o st) (putS o.dst v st)) : Ends (stepOp0 T P nt o st') (putS o.dst v st') := by
  unfold stepOp0 at *
  split at h
  case isFalse => exact h.elim
  rename_i hd
  have hd' : (dstOK o.dst nt && updOK st'.S st'.mv o.op) = true := by
    simp only [Bool.and_eq_true] at hd ⊢
    exact ⟨hd.1, updOK_cls (P := P) (Nat.le_trans hc (by decide))⟩
  rw [if_pos hd']
  rw [xrun_plain (Nat.le_trans hc (by decide))] at *
  simp only [ends_bind, Tree.bind_assoc, Tree.bind] at h ⊢
  obtain ⟨⟨sv, on⟩, h2, h3⟩ := h
  have hon : on = none := (leads_ends h2 (xval_none (R := fun _ => True) hc (ends_leads trivial h2))).2
  subst hon
  simp only [Ends, putS, St.mk.injEq] at h3
  have hx : xval P st'.S st.H o.op = xval P st.S st.H o.op := by rw [hS]; exact xval_congr (ev_looks h1)
  have h4 : Ends (xval P st'.S st'.H o.op) (sv, none) := by
    rcases hH with h0 | ⟨l, hl⟩
    · rw [xval_pure (H' := st.H) h0, hx]; exact h2
    · rw [hl]; exact xval_grow hc (by rw [hx]; exact h2)
  refine ⟨_, h4, ?_⟩
  simp only [Ends, putS, St.mk.injEq]
  refine ⟨?_, by simp, trivial, trivial⟩
  have e := h3.1
  cases ho : o.dst with
  | none => rfl
  | some k =>
    rw [ho] at e
    have := congrFun e k
    simp [setDst, setSlot] at this
    rw [this]
theorem xop0_again {T : Table} {nt : Nat} {ops : Array Oper} {o : Oper} {d : Option Nat} {u v : SV} {st st' : St} (h1 : ∀ k, d = some k → k ∉ o.looksAt ops) (hc : cls P o.op ≤ 1)
    (hS : st'.S = setDst d u st.S) (hH : cls P o.op = 0 ∨ ∃ l, st'.H = st.H ++ l) (h : Ends (xop0 T P nt ops o st) (putS o.dst v st)) : Ends (xop0 T P nt ops o st') (putS o.dst v st') := by
  have hskip : ∀ st : St, ∀ st' : St, Ends (Tree.ret (skipOp o st)) (putS o.dst v st) → Ends (Tree.ret (skipOp o st')) (putS o.dst v st') := fun st st' h => by
    simp only [Ends, putS, skipOp, St.mk.injEq] at *
    refine ⟨?_, trivial, trivial, trivial⟩
    have e := h.1
    cases ho : o.dst with
    | none => rfl
    | some k =>
      rw [ho] at e
      have := congrFun e k
      simp [setDst, setSlot] at this
      rw [this]
  unfold xop0 at *
  split at h
  · exact stepOp0_again h1 hc hS hH h
  · rename_i j want hg
    split at h
    case isFalse => exact h.elim
    rename_i hd
    rw [if_pos hd]
    split at h
    case h_2 => exact h.elim
    rename_i t ht
    have hl : look st'.S t = look st.S t := by rw [hS]; exact look_guard h1 hg ht
    rw [hl]
    split at h
    · split at h
      · rename_i hb
        rw [if_pos hb]; exact stepOp0_again h1 hc hS hH h
      · rename_i hb
        rw [if_neg hb]; exact hskip _ _ h
    · exact hskip _ _ h
    · exact h.elim
theorem xop0_quiet {T : Table} {nt : Nat} {ops : Array Oper} {o : Oper} {st st' : St} (hc : cls P o.op ≤ 1) (h : Ends (xop0 T P nt ops o st) st') : ∃ v, st' = putS o.dst v st := by
  obtain ⟨_, u, h1, h2, h3, _⟩ := leads_ends h (xop0_form (R := fun _ => True) (ends_leads trivial h))
  exact ⟨u, by cases st'; simp only [putS, St.mk.injEq] at *; exact ⟨h1, h3 hc, h2⟩⟩
theorem xop0_comm {T : Table} {nt : Nat} {ops : Array Oper} {oi oj : Oper} {v : SV} {st : St} {Q : St → Prop} (hap : oi.apart ops oj = true) (hc : cls P oi.op ≤ 1) (hcc : cls P oi.op = 0 ∨ cls P oj.op ≤ 2)
    (hi : Ends (xop0 T P nt ops oi st) (putS oi.dst v st)) (h : (xop0 T P nt ops oj (putS oi.dst v st)).Leads Q) :
    (xop0 T P nt ops oj st).Leads fun st' => Ends (xop0 T P nt ops oi st') (putS oi.dst v st') ∧ Q (putS oi.dst v st') := by
  obtain ⟨h1, h2, h3⟩ := Oper.apart_spec hap
  rw [xop0_put h1 h2, Tree.leads_bind] at h
  refine Tree.leads_mono ?_ (xop0_form h)
  rintro st' ⟨hq, u, g1, g2, g3, g4⟩
  exact ⟨xop0_again h3 hc g1 (hcc.imp id g4) hi, hq⟩
end Sx
