/- Which operations look at what: an operation in another order. -/
import Derived.Test.YtlcobcpgaoeijaaGreatSxL
set_option linter.unusedVariables false
set_option linter.unusedSimpArgs false
namespace Sx
open Go
variable {P : Program} {E : Env} {ρ : Map} {S S' : Slots} {H : Heap} {a : Act} {w w' : World} {Z : Zone}
theorem Tree.bind_assoc {α β γ : Type} {f : α → Tree β} {g : β → Tree γ} : ∀ {t : Tree α}, (t.bind f).bind g = t.bind fun a => (f a).bind g
  | .ret a => rfl
  | .ite c t e => by simp only [Tree.bind]; rw [Tree.bind_assoc (t := t), Tree.bind_assoc (t := e)]
  | .need p t => by simp only [Tree.bind]; rw [Tree.bind_assoc (t := t)]
  | .any _ p h => by simp only [Tree.bind]; congr 1; funext b; exact Tree.bind_assoc
  | .done => rfl
  | .fail => rfl
def Ends {α : Type} : Tree α → α → Prop
  | .ret b, a => a = b
  | .ite c t e, a => br c (Ends t a) (Ends e a)
  | .need p t, a => p ∧ Ends t a
  | _, _ => False
def Tree.det {α : Type} : Tree α → Tree α
  | .ret b => .ret b
  | .ite c t e => .ite c t.det e.det
  | .need p t => .need p t.det
  | _ => .fail
theorem det_ends {α : Type} {Q : α → Prop} : ∀ {t : Tree α}, t.det.Leads Q → ∃ a, Ends t a ∧ Q a
  | .ret b, h => ⟨b, rfl, h⟩
  | .ite c t e, h => by
    simp only [Tree.det, Tree.Leads] at h
    cases c
    · exact det_ends (t := e) h
    · exact det_ends (t := t) h
  | .need p t, h => by
    obtain ⟨a, h1, h2⟩ := det_ends (t := t) h.2
    exact ⟨a, ⟨h.1, h1⟩, h2⟩
  | .any _ _ _, h => h.elim
  | .done, h => h.elim
  | .fail, h => h.elim
theorem ends_leads {α : Type} {Q : α → Prop} {a : α} (hq : Q a) : ∀ {t : Tree α}, Ends t a → t.Leads Q
  | .ret b, h => by simp only [Ends] at h; subst h; exact hq
  | .ite c t e, h => by
    simp only [Ends, Tree.Leads] at *
    cases c
    · exact ends_leads hq (t := e) h
    · exact ends_leads hq (t := t) h
  | .need p t, h => ⟨h.1, ends_leads hq h.2⟩
  | .any _ _ _, h => h.elim
  | .done, h => h.elim
  | .fail, h => h.elim
theorem leads_ends {α : Type} {Q : α → Prop} {a : α} : ∀ {t : Tree α}, Ends t a → t.Leads Q → Q a
  | .ret b, h, hq => by simp only [Ends] at h; subst h; exact hq
  | .ite c t e, h, hq => by
    simp only [Ends, Tree.Leads] at *
    cases c
    · exact leads_ends (t := e) h hq
    · exact leads_ends (t := t) h hq
  | .need p t, h, hq => leads_ends h.2 hq.2
  | .any _ _ _, h, _ => h.elim
  | .done, h, _ => h.elim
  | .fail, h, _ => h.elim
theorem ends_bind {α β : Type} {f : α → Tree β} {b : β} : ∀ {t : Tree α}, Ends (t.bind f) b ↔ ∃ a, Ends t a ∧ Ends (f a) b
  | .ret a => by simp [Tree.bind, Ends]
  | .ite c t e => by
    simp only [Tree.bind, Ends]
    cases c
    · exact ends_bind (t := e)
    · exact ends_bind (t := t)
  | .need p t => by
    simp only [Tree.bind, Ends, ends_bind (t := t)]
    constructor
    · rintro ⟨h, a, h1, h2⟩; exact ⟨a, ⟨h, h1⟩, h2⟩
    · rintro ⟨a, ⟨h, h1⟩, h2⟩; exact ⟨h, a, h1, h2⟩
  | .any _ _ _ => by simp [Tree.bind, Ends]
  | .done => by simp [Tree.bind, Ends]
  | .fail => by simp [Tree.bind, Ends]
def cls (P : Program) : Op → Nat
  | .move _ => 0
  | .assign _ => 0
  | .pick .. => 0
  | .build .. => 0
  | .nilCheck _ => 0
  | .binOp .. => 0
  | .unOp .. => 0
  | .fieldAddr .. => 0
  | .field .. => 0
  | .indexAddr .. => 0
  | .index .. => 0
  | .extract .. => 0
  | .makeFunc .. => 0
  | .call { callee := .builtin .len, .. } => 0
  | .call { callee := .builtin .min, .. } => 0
  | .call { callee := .builtin .max, .. } => 0
  | .convert s _ _ => match P.underlying s with
    | some (.slice _) => 1
    | some (.pointer _) => 1
    | _ => 0
  | .load .. => 1
  | .slice _ _ _ _ none => 1
  | .slice _ _ _ (some _) (some _) => 1
  | .alloc _ => 2
  | .box .. => 2
  | .buildSlice .. => 2
  | _ => 3
def plainOp : Op → Bool
  | .store .. => false
  | .call { callee := .builtin .append, .. } => false
  | .call { callee := .builtin .clear, .. } => false
  | .call { callee := .value _, .. } => false
  | .makeMap .. => false
  | .lookup .. => false
  | .mapUpdate .. => false
  | _ => true
theorem plain_of_cls {op : Op} (h : cls P op ≤ 2) : plainOp op = true := by
  unfold plainOp
  split <;> first | rfl | (simp [cls] at h; done)
theorem fills_congr {place : Nat → Option (Nat × Nat)} : ∀ {parts : List (Nat × Operand)} {cs : List SV}, (∀ p ∈ parts, ev S p.2 = ev S' p.2) → fills S place cs parts = fills S' place cs parts
  | [], cs, _ => rfl
  | (i, x) :: r, cs, h => by
    have h1 : ev S x = ev S' x := h (i, x) (by simp)
    simp only [fills, h1]
    split
    · rename_i off n _
      rw [fills_congr (parts := r) fun p hp => h p (List.mem_cons_of_mem _ hp)]
    · rfl
theorem bound_congr {x : Option Operand} {d : Nat} (h : ∀ y ∈ x, ev S y = ev S' y) : bound S x d = bound S' x d := by
  cases x with
  | none => rfl
  | some o => simp only [bound, h o rfl]
theorem map_ev_congr {l : List Operand} (h : ∀ x ∈ l, ev S x = ev S' x) : l.map (ev S) = l.map (ev S') := List.map_congr_left h
theorem xslice_congr {t : TypeId} {x : SV} {lo hi : Option Operand} (h1 : ∀ y ∈ lo, ev S y = ev S' y) (h2 : ∀ y ∈ hi, ev S y = ev S' y) : xslice P H S t x lo hi = xslice P H S' t x lo hi := by
  unfold xslice
  simp only [bound_congr h1, bound_congr h2]
theorem xval_congr {op : Op} (h : ∀ x ∈ op.operands, ev S x = ev S' x) : xval P S H op = xval P S' H op := by
  cases op <;> simp only [Op.operands] at h <;> simp only [xval]
  case build t ps =>
    have hf : ∀ place cs, fills S place cs ps.toList = fills S' place cs ps.toList := fun place cs => fills_congr fun p hp => h p.2 (by simp; exact ⟨p.1, by simpa using hp⟩)
    unfold xbuild
    simp only [hf]
  case buildSlice t n ps =>
    have hf : ∀ place cs, fills S place cs ps.toList = fills S' place cs ps.toList := fun place cs => fills_congr fun p hp => h p.2 (by simp; exact ⟨p.1, by simpa using hp⟩)
    have hp : xbuildP P S H t n ps.toList = xbuildP P S' H t n ps.toList := by
      unfold xbuildP
      split
      · rename_i e x hu hps
        have : ev S x = ev S' x := h x (by simp; exact ⟨0, by rw [← Array.mem_toList_iff, hps]; simp⟩)
        rw [this]
      · rfl
    unfold xbuildSlice
    simp only [hf, hp]
  case slice t x lo hi mx =>
    cases mx
    rotate_left
    · rename_i m
      cases hi with
      | none => rfl
      | some hi =>
        simp only []
        have h1 : ∀ y ∈ lo, ev S y = ev S' y := fun y hy => h y (by simp at hy; subst hy; simp)
        have h2 : ∀ y ∈ some hi, ev S y = ev S' y := fun y hy => h y (by simp at hy; subst hy; simp)
        have h3 : ∀ y ∈ some m, ev S y = ev S' y := fun y hy => h y (by simp at hy; subst hy; simp)
        rw [h x (by simp)]
        unfold xslice3
        simp only [bound_congr h1, bound_congr h2, bound_congr h3]
    · simp only []
      rw [h x (by simp), xslice_congr (lo := lo) (hi := hi) (fun y hy => h y (by simp at hy; subst hy; simp)) (fun y hy => h y (by simp at hy; subst hy; simp))]
  case makeFunc f first cap =>
    have h1 : first.toList.map (ev S) = first.toList.map (ev S') := map_ev_congr fun x hx => h x (by simp; exact .inl (by simpa using hx))
    rw [h1]
  case call c =>
    have h1 : c.args.toList.map (ev S) = c.args.toList.map (ev S') := map_ev_congr fun x hx => h x (by simp [Call.operands]; exact .inr (by simpa using hx))
    obtain ⟨cal, args, ats⟩ := c
    cases cal with
    | value f => rfl
    | invoke r m => rfl
    | builtin b =>
      cases b <;> first | rfl | skip
      · simp only
        simp only at h1
        generalize args.toList = l at h1
        match l, ats.toList with
        | [x], [t] => simp at h1; simp only [h1]
        | [], _ => rfl
        | [_], [] => rfl
        | [_], _ :: _ :: _ => rfl
        | _ :: _ :: _, _ => rfl
      all_goals (simp only; simp only at h1; rw [h1])
  all_goals first | rfl | (simp_all; done)
theorem xval_none {op : Op} {R : SV × Option SO → Prop} (hc : cls P op ≤ 1) (h : (xval P S H op).Leads R) : (xval P S H op).Leads fun r => R r ∧ r.2 = none := by
  have of : ∀ {t : Tree SV}, (ofTree t).Leads R → (ofTree t).Leads fun r => R r ∧ r.2 = none := fun {t} h => by
    unfold ofTree at *
    rw [Tree.leads_bind] at *
    exact Tree.leads_mono (fun a ha => ⟨ha, rfl⟩) h
  unfold xval at h ⊢
  split at h <;> first
    | exact of h
    | exact ⟨h, rfl⟩
    | exact h.elim
    | (simp [cls] at hc; done)
    | skip
  · split at h
    · simp only [Tree.Leads] at *
      exact br_intro (fun e => ⟨(br_iff.1 h).1 e, trivial⟩) (fun e => ⟨(br_iff.1 h).2 e, trivial⟩)
    · exact h.elim
  · split at h
    · rename_i hcap; rw [if_pos hcap]; exact ⟨h, rfl⟩
    · exact h.elim
  · split at h
    · exact of h
    · exact h.elim
theorem xval_grows {op : Op} {R : SV × Option SO → Prop} (h : (xval P S H op).Leads R) : (xval P S H op).Leads fun r => R r ∧ ∃ l, H ++ r.2.toList = H ++ l := Tree.leads_mono (fun _ ha => ⟨ha, _, rfl⟩) h
theorem xval_pure {op : Op} {H' : Heap} (hc : cls P op = 0) : xval P S H op = xval P S H' op := by
  cases op <;> first | rfl | (simp [cls] at hc; done) | skip
  case convert s d x =>
    simp only [cls] at hc
    simp only [xval, xconv]
    split <;> first | rfl | (simp_all; done)
  case call c =>
    obtain ⟨cal, args, ats⟩ := c
    cases cal with
    | builtin b => cases b <;> first | rfl | (simp [cls] at hc; done)
    | _ => simp [cls] at hc
  case slice t x lo hi mx => cases mx <;> cases hi <;> first | rfl | (simp [cls] at hc; done)
theorem heap_grow {l : Heap} {h : Nat} {o : SO} (e : H[h]? = some o) : (H ++ l)[h]? = some o := by
  rw [List.getElem?_append]
  split
  · exact e
  · rename_i hn; rw [List.getElem?_eq_none (by omega)] at e; cases e
theorem rowAt_grow {l : Heap} {h : Nat} {o : SO} (e : rowAt H h = some o) : rowAt (H ++ l) h = some o := by
  unfold rowAt at *
  cases hH : H[h]? with
  | none => rw [hH] at e; cases e
  | some x => rw [hH] at e; rw [heap_grow hH]; exact e
theorem xval_grow {op : Op} {l : Heap} {r : SV × Option SO} (hc : cls P op ≤ 1) (h : Ends (xval P S H op) r) : Ends (xval P S (H ++ l) op) r := by
  by_cases h0 : cls P op = 0
  · rwa [xval_pure (H' := H) h0]
  cases op <;> first | (simp [cls] at hc h0; done) | skip
  case convert s d x =>
    simp only [xval, ofTree, ends_bind] at h ⊢
    obtain ⟨v, h1, h2⟩ := h
    refine ⟨v, ?_, h2⟩
    unfold xconv at h1 ⊢
    split at h1 <;> first | exact h1 | exact h1.elim | skip
    · rename_i e hh wd off len e1 e2 e3
      cases hH : rowAt H hh with
      | none => rw [hH] at h1; split at h1 <;> simp_all [Ends]
      | some o => rw [rowAt_grow hH]; rw [hH] at h1; exact h1
    · rename_i hh off e1 e2 e3
      cases hH : H[hh]? with
      | none => rw [hH] at h1; split at h1 <;> simp_all [Ends]
      | some o => rw [heap_grow hH]; rw [hH] at h1; exact h1
  case load t x =>
    simp only [xval, ofTree, ends_bind] at h ⊢
    obtain ⟨v, h1, h2⟩ := h
    refine ⟨v, ?_, h2⟩
    unfold xload at h1 ⊢
    cases hx : ev S x with
    | ptr hh off =>
      simp only [hx] at h1 ⊢
      cases hH : H[hh]? with
      | none => simp [hH, Ends] at h1
      | some o => rw [heap_grow hH]; rw [hH] at h1; exact h1
    | ept hh wd i j =>
      simp only [hx] at h1 ⊢
      cases hH : rowAt H hh with
      | none => simp [hH, Ends] at h1
      | some o => rw [rowAt_grow hH]; rw [hH] at h1; exact h1
    | _ => simp only [hx] at h1 ⊢; exact h1
  case call c =>
    obtain ⟨cal, args, ats⟩ := c
    cases cal with
    | builtin b => cases b <;> (simp [cls] at hc h0; done)
    | _ => simp [cls] at hc
  case slice t x lo hi mx =>
    cases mx with
    | some m =>
      cases hi with
      | none => simp only [xval, Ends] at h
      | some hi =>
        simp only [xval, ofTree, ends_bind] at h ⊢
        obtain ⟨v, h1, h2⟩ := h
        refine ⟨v, ?_, h2⟩
        unfold xslice3 at h1 ⊢
        split at h1 <;> first | exact h1.elim | skip
        rename_i e hh wd off len e1 e2
        split at h1
        · rename_i hz
          simp only [if_pos hz]
          cases hH : rowAt H hh with
          | none => simp [hH, Ends] at h1
          | some o => rw [rowAt_grow hH]; rw [hH] at h1; exact h1
        · exact h1.elim
    | none =>
      simp only [xval, ofTree, ends_bind] at h ⊢
      obtain ⟨v, h1, h2⟩ := h
      refine ⟨v, ?_, h2⟩
      unfold xslice at h1 ⊢
      split at h1 <;> first | exact h1 | exact h1.elim | skip
      rename_i e hh wd off len e1 e2
      split at h1
      · rename_i hz
        simp only [if_pos hz]
        cases hH : rowAt H hh with
        | none => simp [hH, Ends] at h1
        | some o => rw [rowAt_grow hH]; rw [hH] at h1; exact h1
      · exact h1.elim
end Sx
