/- Functions of sync/atomic that have no body in Go: what they do to a cell. -/
import Derived.Test.YtlcobcpgaoeijaaGreatSxM
import Derived.Laws.LoneSync
set_option linter.unusedVariables false
set_option linter.unusedSimpArgs false
namespace Sx
open Go
variable {P : Program} {E : Env} {ρ : Map} {S S' : Slots} {H : Heap} {a : Act} {w w' : World} {Z : Zone}
theorem at_cell {h off : Nat} {va v : Value} {et : TypeId} {cs : List SV} (hs : Sat E ρ H w) (hr : SV.rel E.Z ρ (.ptr h off) va) (hh : H[h]? = some (.cells et cs)) (hc : cs[off]? = some (.lit v)) :
    ∃ b, va = .pointer (some ⟨b, off, none⟩) ∧ w.cell? ⟨b, off, none⟩ = some v ∧ w.frozen? ⟨b, off, none⟩ = false ∧
      ∀ u, Sat E ρ (H.set h (.cells et (putAt cs off [.lit u]))) (w.setCell ⟨b, off, none⟩ u) := by
  simp only [SV.rel] at hr
  obtain ⟨b, C, bs, h1, rfl⟩ := hr
  have ho := hs.objs _ _ hh
  simp only [SO.rel] at ho
  obtain ⟨b', C', vs, h1', h2, h3⟩ := ho
  rw [h1] at h1'; injection h1' with h1'; injection h1' with e1 e2 e3; subst e1; subst e2; subst e3
  have hlen := rels_length h3
  have hlt : off < cs.length := by
    rcases Nat.lt_or_ge off cs.length with h | h
    · exact h
    · rw [List.getElem?_eq_none h] at hc; cases hc
  obtain ⟨v', hv, hrel⟩ := rels_get h3 hc
  have := rel_lit hrel; subst this
  refine ⟨b, rfl, ?_, ?_, fun u => ?_⟩
  · simp only [World.cell?, h2]
    simpa using hv
  · simp [World.frozen?, h2]
  · have hb : b < w.heap.size := block_lt h2
    refine Sat.set hs hh rfl h1 rfl rfl rfl (fun k hk => ?_) ?_ rfl
    · simp only [World.setCell]
      rw [Array.getElem?_modify]
      rw [if_neg (Ne.symm hk)]
    · simp only [SO.rel]
      refine ⟨b, C, vs.setIfInBounds off u, h1, ?_, ?_⟩
      · simp only [World.setCell]
        rw [Array.getElem?_modify]
        simp [h2]
      · have := rels_put off h3 (rels_cons (s := .lit u) (ss := []) (v := u) (vs := []) (by simp [SV.rel]) (by simp [SV.rels]))
        have e : (vs.setIfInBounds off u).toList = vs.toList.take off ++ [u] ++ vs.toList.drop (off + [u].length) := by
          simp only [Array.length_toList] at hlen
          simp only [Array.toList_setIfInBounds]
          rw [List.set_eq_take_append_cons_drop]
          rw [if_pos (by simp; omega)]
          simp
        rw [e]
        exact this
def intAt (H : Heap) (v : SV) : Option (Nat × Nat × TypeId × List SV × IntKind × Int) := match v with
  | .ptr h off => match H[h]? with
    | some (.cells et cs) => match cs[off]? with
      | some (.lit (.int k x)) => some (h, off, et, cs, k, x)
      | _ => none
    | _ => none
  | _ => none
theorem intAt_spec {v : SV} {h off : Nat} {et : TypeId} {cs : List SV} {k : IntKind} {x : Int} (e : intAt H v = some (h, off, et, cs, k, x)) : v = .ptr h off ∧ H[h]? = some (.cells et cs) ∧ cs[off]? = some (.lit (.int k x)) := by
  unfold intAt at e
  split at e
  · split at e
    · rename_i h1
      split at e
      · rename_i h2
        injection e with e; cases e
        exact ⟨rfl, h1, h2⟩
      · cases e
    · cases e
  · cases e
def xAtomicLoad (k : IntKind) : XSumm := fun args H => match args with
  | [p] => match intAt H p with
    | some (_, _, _, _, k', x) => if kindEq k' k then .ret (.lit (.int k' x), H) else .fail
    | none => .fail
  | _ => .fail
def xAtomicStore : XSumm := fun args H => match args with
  | [p, .lit (.int k' y)] => match intAt H p with
    | some (h, off, et, cs, _, _) => .ret (.lit (.tuple #[]), H.set h (.cells et (putAt cs off [.lit (.int k' y)])))
    | none => .fail
  | _ => .fail
def xAtomicAdd (k : IntKind) : XSumm := fun args H => match args with
  | [p, .lit (.int k1 y)] => match intAt H p with
    | some (h, off, et, cs, k2, x) => if kindEq k1 k && kindEq k2 k then .ret (.lit (.int k (k.wrap (x + y))), H.set h (.cells et (putAt cs off [.lit (.int k (k.wrap (x + y)))]))) else .fail
    | none => .fail
  | _ => .fail
def xAtomicSwap (k : IntKind) : XSumm := fun args H => match args with
  | [p, .lit (.int k1 y)] => match intAt H p with
    | some (h, off, et, cs, k2, x) => if kindEq k1 k && kindEq k2 k then .ret (.lit (.int k x), H.set h (.cells et (putAt cs off [.lit (.int k y)]))) else .fail
    | none => .fail
  | _ => .fail
def xAtomicCas (k : IntKind) : XSumm := fun args H => match args with
  | [p, .lit (.int k1 o), .lit (.int k3 y)] => match intAt H p with
    | some (h, off, et, cs, k2, x) => if kindEq k1 k && kindEq k2 k && kindEq k3 k then .ite (x == o) (.ret (.lit (.bool true), H.set h (.cells et (putAt cs off [.lit (.int k y)])))) (.ret (.lit (.bool false), H)) else .fail
    | none => .fail
  | _ => .fail
theorem rels_two {p q : SV} {vs : List Value} (h : SV.rels Z ρ [p, q] vs) : ∃ v u, vs = [v, u] ∧ SV.rel Z ρ p v ∧ SV.rel Z ρ q u := by
  obtain ⟨v, r, rfl, h1, h2⟩ := rels_head h
  obtain ⟨u, r, rfl, h3, h4⟩ := rels_head h2
  simp only [SV.rels] at h4; subst h4
  exact ⟨v, u, rfl, h1, h3⟩
variable {f : FuncId} {fn : Func}
theorem atomicLoad_ok {k : IntKind} (hf : P.funcs[f]? = some fn) (hname : (fn.name == "runtime.NumGoroutine") = false) (hb : fn.body.isNone = true) (hn : Extern.findNext fn = none) (he : Extern.find fn = some (Extern.Atomic.loadT (.int k))) : ExtOK P f (xAtomicLoad k) := by
  intro E ρ args H w vs Q hs hargs h
  unfold xAtomicLoad at h
  split at h
  case h_2 => exact h.elim
  rename_i p
  split at h
  case h_2 => exact h.elim
  rename_i hh off et cs k' x hi
  split at h
  case isFalse => exact h.elim
  rename_i hk
  have := kindEq_eq hk; subst this
  obtain ⟨rfl, h1, h2⟩ := intAt_spec hi
  obtain ⟨v, r, rfl, g1, g2⟩ := rels_head hargs
  simp only [SV.rels] at g2; subst g2
  obtain ⟨b, rfl, hc, hz, hset⟩ := at_cell hs g1 h1 h2
  exact ⟨_, _, _, _, h, run_call_load hf hname hb hn _ he hc, by simp [SV.rel], hs, rfl⟩
theorem atomicStore_ok (hf : P.funcs[f]? = some fn) (hname : (fn.name == "runtime.NumGoroutine") = false) (hb : fn.body.isNone = true) (hn : Extern.findNext fn = none) (he : Extern.find fn = some Extern.Atomic.storeT) : ExtOK P f xAtomicStore := by
  intro E ρ args H w vs Q hs hargs h
  unfold xAtomicStore at h
  split at h
  case h_2 => exact h.elim
  rename_i p k' y
  split at h
  case h_2 => exact h.elim
  rename_i hh off et cs k2 x hi
  obtain ⟨rfl, h1, h2⟩ := intAt_spec hi
  obtain ⟨v, u, rfl, g1, g2⟩ := rels_two hargs
  have := rel_lit g2; subst this
  obtain ⟨b, rfl, hc, hz, hset⟩ := at_cell hs g1 h1 h2
  exact ⟨_, _, _, _, h, run_call_store hf hname hb hn he hc hz, by simp [SV.rel], hset _, by simp⟩
theorem atomicAdd_ok {k : IntKind} (hf : P.funcs[f]? = some fn) (hname : (fn.name == "runtime.NumGoroutine") = false) (hb : fn.body.isNone = true) (hn : Extern.findNext fn = none) (he : Extern.find fn = some (Extern.Atomic.update (Op.intArith .add) k true)) : ExtOK P f (xAtomicAdd k) := by
  intro E ρ args H w vs Q hs hargs h
  unfold xAtomicAdd at h
  split at h
  case h_2 => exact h.elim
  rename_i p k1 y
  split at h
  case h_2 => exact h.elim
  rename_i hh off et cs k2 x hi
  split at h
  case isFalse => exact h.elim
  rename_i hk
  simp only [Bool.and_eq_true] at hk
  have e1 := kindEq_eq hk.1; subst e1
  have e2 := kindEq_eq hk.2; subst e2
  obtain ⟨rfl, h1, h2⟩ := intAt_spec hi
  obtain ⟨v, u, rfl, g1, g2⟩ := rels_two hargs
  have := rel_lit g2; subst this
  obtain ⟨b, rfl, hc, hz, hset⟩ := at_cell hs g1 h1 h2
  exact ⟨_, _, _, _, h, run_call_add hf hname hb hn _ he hc hz (by simp [Op.intArith]), by simp [SV.rel], hset _, by simp⟩
theorem atomicSwap_ok {k : IntKind} (hf : P.funcs[f]? = some fn) (hname : (fn.name == "runtime.NumGoroutine") = false) (hb : fn.body.isNone = true) (hn : Extern.findNext fn = none) (he : Extern.find fn = some (Extern.Atomic.swapT (.int k))) : ExtOK P f (xAtomicSwap k) := by
  intro E ρ args H w vs Q hs hargs h
  unfold xAtomicSwap at h
  split at h
  case h_2 => exact h.elim
  rename_i p k1 y
  split at h
  case h_2 => exact h.elim
  rename_i hh off et cs k2 x hi
  split at h
  case isFalse => exact h.elim
  rename_i hk
  simp only [Bool.and_eq_true] at hk
  have e1 := kindEq_eq hk.1; subst e1
  have e2 := kindEq_eq hk.2; subst e2
  obtain ⟨rfl, h1, h2⟩ := intAt_spec hi
  obtain ⟨v, u, rfl, g1, g2⟩ := rels_two hargs
  have := rel_lit g2; subst this
  obtain ⟨b, rfl, hc, hz, hset⟩ := at_cell hs g1 h1 h2
  refine ⟨_, _, .int k2 x, _, h, ?_, by simp [SV.rel], hset _, by simp⟩
  rw [run_callFunc_extern hf hname hb hn he]
  change (Sem.run P (do
    let a' ← asAddr (.pointer (some ⟨b, off, none⟩))
    let old ← Extern.Atomic.read (.int k2) a'
    store a' (.int k2 y) .atomic
    pure old) w).andThen _ = _
  simp [Extern.Atomic.read, asAddr, hc, hz, run_store P w ⟨b, off, none⟩ (.int k2 y) .atomic rfl, Result.andThen]
theorem atomicCas_ok {k : IntKind} (hf : P.funcs[f]? = some fn) (hname : (fn.name == "runtime.NumGoroutine") = false) (hb : fn.body.isNone = true) (hn : Extern.findNext fn = none) (he : Extern.find fn = some (Extern.Atomic.casT (.int k))) : ExtOK P f (xAtomicCas k) := by
  intro E ρ args H w vs Q hs hargs h
  unfold xAtomicCas at h
  split at h
  case h_2 => exact h.elim
  rename_i p k1 o k3 y
  split at h
  case h_2 => exact h.elim
  rename_i hh off et cs k2 x hi
  split at h
  case isFalse => exact h.elim
  rename_i hk
  simp only [Bool.and_eq_true] at hk
  have e1 := kindEq_eq hk.1.1; subst e1
  have e2 := kindEq_eq hk.1.2; subst e2
  have e3 := kindEq_eq hk.2; subst e3
  obtain ⟨rfl, h1, h2⟩ := intAt_spec hi
  obtain ⟨v, r, rfl, g1, g2⟩ := rels_head hargs
  obtain ⟨u, v2, rfl, g2, g3⟩ := rels_two g2
  have := rel_lit g2; subst this
  have := rel_lit g3; subst this
  obtain ⟨b, rfl, hc, hz, hset⟩ := at_cell hs g1 h1 h2
  simp only [Tree.Leads] at h
  by_cases hx : x = o
  · subst hx
    have h := (br_iff.1 h).1 (by simp)
    exact ⟨_, _, _, _, h, run_call_cas_hit hf hname hb hn _ he hc hz, by simp [SV.rel], hset _, by simp⟩
  · have h := (br_iff.1 h).2 (by simp [hx])
    exact ⟨_, _, _, _, h, run_call_cas_miss hf hname hb hn _ he hc hz hx, by simp [SV.rel], hs, rfl⟩
def xMark0 : XSumm := fun args H => match args with
  | [] => .ret (.lit (.tuple #[]), H)
  | _ => .fail
def xMarked : XSumm := fun args H => match args with
  | [.ptr _ _] => .ret (.lit (.tuple #[]), H)
  | _ => .fail
theorem mark0_ok (m : Mark) (hf : P.funcs[f]? = some fn) (hname : (fn.name == "runtime.NumGoroutine") = false) (hb : fn.body.isNone = true) (hn : Extern.findNext fn = none) (he : Extern.find fn = some (fun _ => do mark m; pure Extern.Race.none_)) : ExtOK P f xMark0 := by
  intro E ρ args H w vs Q hs hargs h
  unfold xMark0 at h
  split at h
  case h_2 => exact h.elim
  simp only [SV.rels] at hargs; subst hargs
  exact ⟨_, _, _, _, h, run_call_mark0 hf hname hb hn m he w, by simp [SV.rel], hs, rfl⟩
theorem marked_ok (m : Addr → Mark) (hf : P.funcs[f]? = some fn) (hname : (fn.name == "runtime.NumGoroutine") = false) (hb : fn.body.isNone = true) (hn : Extern.findNext fn = none) (he : Extern.find fn = some (Extern.Race.marked m)) : ExtOK P f xMarked := by
  intro E ρ args H w vs Q hs hargs h
  unfold xMarked at h
  split at h
  case h_2 => exact h.elim
  obtain ⟨v, r, rfl, g1, g2⟩ := rels_head hargs
  simp only [SV.rels] at g2; subst g2
  simp only [SV.rel] at g1
  obtain ⟨b, C, bs, _, rfl⟩ := g1
  exact ⟨_, _, _, _, h, run_call_marked hf hname hb hn m he _ w, by simp [SV.rel], hs, rfl⟩
theorem at_tref {h i : Nat} {va : Value} {R : Obj → List (ByteArray × Nat) → Prop} {et : TypeId} {l : List (ByteArray × Int)} (hs : Sat E ρ H w) (hr : SV.rel E.Z ρ (.tref h i) va) (hh : H[h]? = some (.tmap R et l)) (hi : i < l.length) :
    ∃ b, va = .pointer (some ⟨b, 0, none⟩) ∧ w.cell? ⟨b, 0, none⟩ = some (.int .i64 (l.getD i (ByteArray.empty, 0)).2) ∧ w.frozen? ⟨b, 0, none⟩ = false ∧
      ∀ n, Sat E ρ (H.set h (.tmap R et (l.set i ((l.getD i (ByteArray.empty, 0)).1, n)))) (w.setCell ⟨b, 0, none⟩ (.int .i64 n)) := by
  simp only [SV.rel] at hr
  obtain ⟨b, C, bs, k, h1, hk, rfl⟩ := hr
  have ho := hs.objs _ _ hh
  simp only [SO.rel] at ho
  obtain ⟨b', C', bs', o, h1', h2, h3, h4, h5, h6⟩ := ho
  rw [h1] at h1'; injection h1' with h1'; injection h1' with e1 e2 e3; subst e1; subst e2; subst e3
  have hib : i < bs.length := by omega
  have hkb : bs[i] = k := by rw [List.getElem?_eq_getElem hib] at hk; injection hk
  have hcell := h6 i hi hib
  rw [hkb] at hcell
  have hd : l.getD i (ByteArray.empty, 0) = l[i] := by rw [List.getD_eq_getElem?_getD, List.getElem?_eq_getElem hi]; rfl
  rw [hd]
  have hkm : k ∈ bs := by rw [← hkb]; exact List.getElem_mem _
  have hkn : k ≠ b := fun e => (List.nodup_cons.1 h5).1 (by rw [← e]; exact hkm)
  refine ⟨k, rfl, ?_, ?_, fun n => ?_⟩
  · simp only [World.cell?, hcell]; rfl
  · simp [World.frozen?, hcell]
  · have hlt : k < w.heap.size := block_lt hcell
    have hother : ∀ c, c ≠ k → ∀ x, w.heap[c]? = some x → (w.setCell ⟨k, 0, none⟩ (.int .i64 n)).heap[c]? = some x := fun c hc x hx => by
      simp only [World.setCell]
      rw [Array.getElem?_modify, if_neg (Ne.symm hc)]; exact hx
    have hnew : (w.setCell ⟨k, 0, none⟩ (.int .i64 n)).heap[k]? = some (.cells #[.int .i64 n] et (0, 0)) := by
      simp only [World.setCell]
      rw [Array.getElem?_modify]
      simp [hcell]
    refine Sat.write (k0 := k) hs hh rfl ⟨b, C, bs, h1, .inr ⟨rfl, hkm⟩⟩ rfl rfl rfl ⟨_, hnew⟩ hother ?_ rfl rfl
    simp only [SO.rel]
    have hmap : (l.set i (l[i].1, n)).map Prod.fst = l.map Prod.fst := by
      apply List.ext_getElem?
      intro j
      rw [List.getElem?_map, List.getElem?_map, List.getElem?_set]
      split
      · rename_i e; subst e; simp [hi]
      · rfl
    refine ⟨b, C, bs, o, h1, hother b (Ne.symm hkn) _ h2, by rw [hmap]; exact h3, by simp [h4], h5, fun j hj hjb => ?_⟩
    by_cases e : j = i
    · subst e
      rw [hkb]
      simp [hnew]
    · have hj' : j < l.length := by simpa using hj
      rw [List.getElem_set_ne (Ne.symm e)]
      refine hother _ (fun e2 => e ?_) _ (h6 j hj' hjb)
      rw [← hkb] at e2
      exact (List.getElem_inj (List.nodup_cons.1 h5).2).1 e2
def xAtomicAddT : XSumm := fun args H => match args with
  | [.tref h i, .lit (.int .i64 y)] => match H[h]? with
    | some (.tmap R et l) => .need (i < l.length) (.ret (.lit (.int .i64 (IntKind.i64.wrap ((l.getD i (ByteArray.empty, 0)).2 + y))), H.set h (.tmap R et (l.set i ((l.getD i (ByteArray.empty, 0)).1, IntKind.i64.wrap ((l.getD i (ByteArray.empty, 0)).2 + y))))))
    | _ => .fail
  | _ => xAtomicAdd .i64 args H
def xAtomicLoadT : XSumm := fun args H => match args with
  | [.tref h i] => match H[h]? with
    | some (.tmap _ _ l) => .need (i < l.length) (.ret (.lit (.int .i64 (l.getD i (ByteArray.empty, 0)).2), H))
    | _ => .fail
  | _ => xAtomicLoad .i64 args H
theorem atomicLoadT_ok (hf : P.funcs[f]? = some fn) (hname : (fn.name == "runtime.NumGoroutine") = false) (hb : fn.body.isNone = true) (hn : Extern.findNext fn = none) (he : Extern.find fn = some (Extern.Atomic.loadT (.int .i64))) : ExtOK P f xAtomicLoadT := by
  intro E ρ args H w vs Q hs hargs h
  unfold xAtomicLoadT at h
  split at h
  · rename_i hh i
    split at h
    case h_2 => exact h.elim
    rename_i R et l ho
    obtain ⟨hi, h⟩ := h
    obtain ⟨v, r, rfl, g1, g2⟩ := rels_head hargs
    simp only [SV.rels] at g2; subst g2
    obtain ⟨b, rfl, hc, hz, hset⟩ := at_tref hs g1 ho hi
    exact ⟨_, _, _, _, h, run_call_load hf hname hb hn _ he hc, by simp [SV.rel], hs, rfl⟩
  · exact atomicLoad_ok hf hname hb hn he E ρ args H w vs Q hs hargs h
theorem atomicAddT_ok (hf : P.funcs[f]? = some fn) (hname : (fn.name == "runtime.NumGoroutine") = false) (hb : fn.body.isNone = true) (hn : Extern.findNext fn = none) (he : Extern.find fn = some (Extern.Atomic.update (Op.intArith .add) .i64 true)) : ExtOK P f xAtomicAddT := by
  intro E ρ args H w vs Q hs hargs h
  unfold xAtomicAddT at h
  split at h
  · rename_i hh i y
    split at h
    case h_2 => exact h.elim
    rename_i R et l ho
    obtain ⟨hi, h⟩ := h
    obtain ⟨v, u, rfl, g1, g2⟩ := rels_two hargs
    have := rel_lit g2; subst this
    obtain ⟨b, rfl, hc, hz, hset⟩ := at_tref hs g1 ho hi
    exact ⟨_, _, _, _, h, run_call_add hf hname hb hn _ he hc hz (by simp [Op.intArith]), by simp [SV.rel], hset _, by simp⟩
  · exact atomicAdd_ok hf hname hb hn he E ρ args H w vs Q hs hargs h
end Sx
