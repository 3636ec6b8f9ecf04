/- What a library's contract leaves: all that was there, and a new row. -/
import Derived.Test.YtabnecedcnlpcaaGreatSxT
import Derived.Below
import Derived.Laws.AppendOwn
import Derived.Sort.KeysCollected
set_option linter.unusedVariables false
namespace Sx
open Go

variable {P : Program} {E : Env} {ρ : Map} {S : Slots} {H : Heap} {a : Act} {w w' : World} {Z : Zone}

theorem Sat.under (hs : Sat E ρ H w) (hb : RowKit.Below w.heap.size w w') : Sat E ρ H w' := by
  have hkeep : ∀ k x, w.heap[k]? = some x → w'.heap[k]? = some x := fun k x hx => by rw [hb.block k (block_lt hx)]; exact hx
  refine ⟨hb.os.trans hs.os, hb.tape.trans hs.tape, hb.output.trans hs.output, hs.free, fun h o ho => ?_, hs.inj, hs.zle, fun b o ho => hkeep _ _ (hs.keep _ _ ho), hs.apart, hs.fresh, fun k hk => ?_⟩
  · by_cases hl : o.live = true
    · exact SO.rel_keep (hs.objs _ _ ho) (Map.le_refl ρ) (fun b _ => hkeep b)
    · exact SO.rel_still (hs.objs _ _ ho) (Map.le_refl ρ) (by simpa using hl)
  · obtain ⟨x, hx⟩ := hs.old _ hk
    exact ⟨x, hkeep _ _ hx⟩
theorem Sat.newBlock {g C : Nat} {ob : SO} (hs : Sat E ρ H w) (hb : RowKit.Below w.heap.size w w') (hg : w.heap.size ≤ g) (hin : ∃ x, w'.heap[g]? = some x) (hob : SO.rel E.Z (ρ.put H.length (.at g C [])) w' H.length ob) :
    Sat E (ρ.put H.length (.at g C [])) (H ++ [ob]) w' := by
  have hs' := hs.under hb
  have hle := Map.le_put (x := .at g C []) (hs.free _ (Nat.le_refl _))
  have hget : ∀ h (o : SO), (H ++ [ob])[h]? = some o → (h < H.length ∧ H[h]? = some o) ∨ (h = H.length ∧ o = ob) := fun h o ho => by
    rw [List.getElem?_append] at ho
    split at ho
    · exact .inl ⟨by assumption, ho⟩
    · have hh : h = H.length := by
        rcases Nat.lt_or_ge H.length h with h1 | h1
        · rw [List.getElem?_eq_none (by simp; omega)] at ho; cases ho
        · omega
      subst hh; simp at ho; exact .inr ⟨rfl, ho.symm⟩
  have hno : ∀ h (o : SO), H[h]? = some o → o.live = true → ¬ claimed (ρ h) g := fun h o ho hl hc => by
    obtain ⟨x, hx⟩ := hs.claimed_heap ho hl hc
    have := block_lt hx; omega
  refine ⟨hs'.os, hs'.tape, hs'.output, ?_, ?_, ?_, hs'.zle, hs'.keep, ?_, ?_, hs'.old⟩
  · intro h hh
    simp at hh
    rw [put_ne (by omega)]; exact hs.free _ (by omega)
  · intro h o ho
    rcases hget h o ho with ⟨h1, h2⟩ | ⟨rfl, rfl⟩
    · by_cases hl : o.live = true
      · exact SO.rel_keep (hs'.objs _ _ h2) hle (fun b _ x hx => hx)
      · exact SO.rel_still (hs'.objs _ _ h2) hle (by simpa using hl)
    · exact hob
  · intro h h' o o' b ho ho' hl hl' hb1 hb2
    rcases hget h o ho with ⟨h1, h2⟩ | ⟨rfl, rfl⟩
    · rw [put_ne (by omega)] at hb1
      rcases hget h' o' ho' with ⟨h1', h2'⟩ | ⟨rfl, rfl⟩
      · rw [put_ne (by omega)] at hb2
        exact hs.inj _ _ _ _ _ h2 h2' hl hl' hb1 hb2
      · have := claimed_put_same hb2
        subst this
        exact absurd hb1 (hno _ _ h2 hl)
    · have e := claimed_put_same hb1
      subst e
      rcases hget h' o' ho' with ⟨h1', h2'⟩ | ⟨rfl, rfl⟩
      · rw [put_ne (by omega)] at hb2
        exact absurd hb2 (hno _ _ h2' hl')
      · rfl
  · intro h o b ho hl hb1
    rcases hget h o ho with ⟨h1, h2⟩ | ⟨rfl, rfl⟩
    · rw [put_ne (by omega)] at hb1
      exact hs.apart _ _ _ h2 hl hb1
    · have e := claimed_put_same (SO.owned_claimed hb1)
      subst e
      cases hF : E.F b with
      | none => rfl
      | some x => have := block_lt (hs.keep _ _ hF); omega
  · intro h o b ho hl hb1 ht
    rcases hget h o ho with ⟨h1, h2⟩ | ⟨rfl, rfl⟩
    · rw [put_ne (by omega)] at hb1
      exact hs.fresh _ _ _ h2 hl hb1 ht
    · have e := claimed_put_same hb1
      subst e
      obtain ⟨x, hx⟩ := hs.old _ ht
      have := block_lt hx; omega
/-- strings.Clone, by its contract. -/
def xClone : XSumm := fun args H => match args with
  | [.lit (.string s)] => .need (s.size ≤ 281474976710656) (.ret (.lit (.string s), H))
  | _ => .fail
theorem xClone_ok {f : FuncId} {fn : Func} {c : Code} (hf : P.funcs[f]? = some fn) (hb : fn.body = some c) (hname : (fn.name == "runtime.NumGoroutine") = false)
    (hc : ∀ (s : ByteArray) (w : World), s.size ≤ 281474976710656 → Calls P f #[.string s] w fun e w' => e = .returned (.string s) ∧ RowKit.Below w.heap.size w w') : CallOK P f xClone := by
  refine ⟨body_enter hf hb hname, fun E ρ args H w vs Q hs hargs h => ?_⟩
  unfold xClone at h
  split at h
  case h_2 => exact h.elim
  rename_i s
  obtain ⟨hsz, h⟩ := h
  obtain ⟨v, r, rfl, g1, g2⟩ := rels_head hargs
  simp only [SV.rels] at g2; subst g2
  have := rel_lit g1; subst this
  refine (hc s w hsz).mono ?_
  rintro e w1 ⟨rfl, hb⟩
  exact ⟨E, ρ, _, _, _, h, rfl, Env.le_refl E, by simp [SV.rel], hs.under hb, Nat.le_refl _, fun _ _ => rfl⟩
/-- A map's names, sorted. -/
def sortedNames (l : List (ByteArray × Int)) : List ByteArray := ((l.map fun p => p.1.data.toList).mergeSort leB).map fun x => ⟨x.toArray⟩
/-- maps.Keys: the names of a map, one by one. -/
def xKeys (f : FuncId) (mt : TypeId) : XSumm := fun args H => match args with
  | [.mp h] => .ret (.kseq f mt h, H)
  | _ => .fail
/-- slices.Sorted of these. -/
def xSorted (K : TypeId) (f : FuncId) (mt : TypeId) (P : Program) : XSumm := fun args H => match args with
  | [.kseq f' mt' h] => match H[h]? with
    | some (.tmap R _ l) => if Nat.beq f f' && Nat.beq mt mt' then .need (R = mapR P K ∧ l.length ≤ 1000000) (.ret (.sl H.length 1 0 l.length, H ++ [.row K .str (sortedNames l)])) else .fail
    | _ => .fail
  | _ => .fail

open Go.Maps in
theorem mdata_keys {kv : List (ByteArray × Nat)} (hn : (kv.map Prod.fst).Nodup) : (kv.map fun p => p.1.data.toList).Perm (Go.strKeys (mdata kv)) := by
  have key : ∀ (kv : List (ByteArray × Nat)) (D : DataW Unit), Maps.Tidy D → (∀ es, D = .map es → ∀ p ∈ es, ∃ x, p.1 = .string x) →
      Maps.Tidy (mdataFrom D kv) ∧ (∀ es, mdataFrom D kv = .map es → ∀ p ∈ es, ∃ x, p.1 = .string x) ∧ ∀ x : List UInt8, Maps.has (mdataFrom D kv) (.string x) = true ↔ (x ∈ kv.map (fun p => p.1.data.toList) ∨ Maps.has D (.string x) = true) := by
    intro kv
    induction kv with
    | nil => exact fun D hT hk => ⟨hT, hk, fun x => by simp [mdataFrom]⟩
    | cons p kv ih =>
      intro D hT hk
      have hT' := hT.put (klit_key p.1) (.lit (.int .i64 p.2))
      obtain ⟨a1, a2, a3⟩ := ih (D.put (klit p.1) (.lit (.int .i64 p.2))) hT' (fun es he q hq => by
        obtain ⟨es0, rfl, _⟩ := hT
        have he : DataW.map (DataW.insert (klit p.1, .lit (.int .i64 p.2)) (es0.filter fun q => !q.1.sameKey (klit p.1))) = .map es := he
        injection he with he
        subst he
        rcases Go.ChangeMaps.mem_insert_iff.1 hq with rfl | hq
        · exact ⟨_, rfl⟩
        · exact hk _ rfl q (List.mem_filter.1 hq).1)
      refine ⟨a1, a2, fun x => ?_⟩
      rw [show mdataFrom D (p :: kv) = mdataFrom (D.put (klit p.1) (.lit (.int .i64 p.2))) kv from rfl, a3 x]
      by_cases e : x = p.1.data.toList
      · subst e
        have := Maps.has_put_same (k := klit p.1) hT.isMap (klit_key p.1) (.lit (.int .i64 p.2) : DataW Unit)
        constructor
        · exact fun _ => .inl (by simp)
        · exact fun _ => .inr this
      · have := Maps.has_put_other (D := D) (k := klit p.1) (k' := .string x) (fun e' => e (by simpa [klit] using e')) (.lit (.int .i64 p.2) : DataW Unit)
        rw [this]
        simp [e]
  obtain ⟨⟨es, he, hp⟩, hk, hh⟩ := key kv (.map []) Maps.tidy_empty (fun es he p hp => by
    have he : (DataW.map [] : DataW Unit) = .map es := he
    injection he with he; subst he; cases hp)
  have he' : mdata kv = .map es := he
  rw [he']
  refine Go.perm_strKeys hp (hk es he) ?_ fun x => ?_
  · have : (kv.map fun p => p.1.data.toList) = (kv.map Prod.fst).map (fun b => b.data.toList) := by rw [List.map_map]; rfl
    rw [this]
    refine List.pairwise_map.2 (hn.imp fun {a b} hab e => hab ?_)
    exact klit_inj (by simp [klit, e])
  · have := hh x
    rw [he] at this
    rw [this]
    constructor
    · exact fun h => .inl h
    · rintro (h | h)
      · exact h
      · exact absurd h (by simp [Maps.has])
theorem xKeys_ok {f fk : FuncId} {fn : Func} {c : Code} {mt : TypeId} (hf : P.funcs[fk]? = some fn) (hb : fn.body = some c) (hname : (fn.name == "runtime.NumGoroutine") = false)
    (hc : ∀ (mb : Option Nat) (w : World), Calls P fk #[.map mb] w fun e w' => e = .returned (.func (.func f) #[] #[.pointer (some ⟨w.heap.size, 0, none⟩)]) ∧ w' = w.alloc (.cells #[.map mb] mt)) : CallOK P fk (xKeys f mt) := by
  refine ⟨body_enter hf hb hname, fun E ρ args H w vs Q hs hargs h => ?_⟩
  unfold xKeys at h
  split at h
  case h_2 => exact h.elim
  rename_i hd
  obtain ⟨v, r, rfl, g1, g2⟩ := rels_head hargs
  simp only [SV.rels] at g2; subst g2
  simp only [SV.rel] at g1
  obtain ⟨b, C, bs, h1, rfl⟩ := g1
  refine (hc (some b) w).mono ?_
  rintro e w1 ⟨rfl, rfl⟩
  have hZ : E.Z w.heap.size = none := by
    cases hZ : E.Z w.heap.size with
    | none => rfl
    | some x => have := block_lt (hs.keep _ _ (hs.zle _ _ hZ)); omega
  have hF : E.F w.heap.size = none := by
    cases hF : E.F w.heap.size with
    | none => rfl
    | some x => have := block_lt (hs.keep _ _ hF); omega
  have hbelow : RowKit.Below w.heap.size w (w.alloc (.cells #[.map (some b)] mt)) := (RowKit.Below.refl _ w).alloc (Nat.le_refl _) _
  have hs1 := hs.under hbelow
  have hnew : (w.alloc (.cells #[.map (some b)] mt)).heap[w.heap.size]? = some (.cells #[.map (some b)] mt) := heap_alloc_new w _
  let x0 : Obj := .cells #[.map (some b)] mt
  let E' : Env := { E with Z := fun k => if k = w.heap.size then some x0 else E.Z k, F := fun k => if k = w.heap.size then some x0 else E.F k }
  have hz : ∀ k o, E.Z k = some o → E'.Z k = some o := fun k o hk => by
    show (if k = w.heap.size then some x0 else E.Z k) = some o
    rw [if_neg (fun e => by rw [e, hZ] at hk; cases hk)]; exact hk
  have hff : ∀ k o, E.F k = some o → E'.F k = some o := fun k o hk => by
    show (if k = w.heap.size then some x0 else E.F k) = some o
    rw [if_neg (fun e => by rw [e, hF] at hk; cases hk)]; exact hk
  have hno : ∀ h (o : SO), H[h]? = some o → o.live = true → ¬ claimed (ρ h) w.heap.size := fun h o ho hl hcl => by
    obtain ⟨x, hx⟩ := hs.claimed_heap ho hl hcl
    have := block_lt hx; omega
  refine ⟨E', ρ, _, _, _, h, rfl, ⟨hz, hff, fun k o hk => ?_, fun k o hk => ?_, rfl, rfl, rfl, rfl⟩, ?_, ⟨hs1.os, hs1.tape, hs1.output, hs1.free, fun h o ho => SO.rel_zone hz (hs1.objs _ _ ho), hs1.inj, fun k o hk => ?_, fun k o hk => ?_, fun h o k ho hl hk => ?_, hs1.fresh, hs1.old⟩, Nat.le_refl _, fun _ _ => rfl⟩
  · have hk : (if k = w.heap.size then some x0 else E.F k) = some o := hk
    by_cases e : k = w.heap.size
    · rw [if_pos e] at hk
      exact .inr ⟨by rw [e]; exact hF, by show (if k = w.heap.size then some x0 else E.Z k) = some o; rw [if_pos e]; exact hk⟩
    · rw [if_neg e] at hk; exact .inl hk
  · have hk : (if k = w.heap.size then some x0 else E.Z k) = some o := hk
    split at hk
    · rename_i e; rw [e]; exact .inr hF
    · exact .inl hk
  · simp only [SV.rel]
    refine ⟨b, C, bs, w.heap.size, (0, 0), h1, rfl, ?_⟩
    show (if w.heap.size = w.heap.size then some x0 else E.Z w.heap.size) = _
    rw [if_pos rfl]
  · have hk : (if k = w.heap.size then some x0 else E.Z k) = some o := hk
    show (if k = w.heap.size then some x0 else E.F k) = some o
    split at hk
    · rename_i e; rw [if_pos e]; exact hk
    · rename_i e; rw [if_neg e]; exact hs.zle _ _ hk
  · have hk : (if k = w.heap.size then some x0 else E.F k) = some o := hk
    by_cases e : k = w.heap.size
    · rw [if_pos e] at hk; rw [e, hnew]; exact hk
    · rw [if_neg e] at hk; exact hs1.keep _ _ hk
  · show (if k = w.heap.size then some x0 else E.F k) = none
    rw [if_neg (fun e => by subst e; exact hno _ _ ho hl (SO.owned_claimed hk))]
    exact hs.apart _ _ _ ho hl hk

/-- slices.Sorted at the keys of a map that a block holds. -/
def SortsKeys (P : Program) (f f2 : FuncId) (mt K : TypeId) : Prop := ∀ (b nn k : Nat) (D0 : DataW Unit) (fz : Nat × Nat) (w : World), w.ownsMap P K rptr b nn D0 → w.heap[k]? = some (.cells #[.map (some b)] mt fz) → Maps.size D0 ≤ maxLen → Maps.size D0 * 16 ≤ 140737488355328 →
  Calls P f #[.func (.func f2) #[] #[.pointer (some ⟨k, 0, none⟩)]] w fun e w' => ∃ (v : Value) (ss : List (List UInt8)), e = .returned v ∧ ss.Perm (strKeys D0) ∧ w'.ownsRow w.heap.size K 1 v ss.length ((ss.mergeSort leB).map Go.Proofs.encStr) ∧ RowKit.Below w.heap.size w w'

theorem strs_lie (Z : Zone) (l : List (List UInt8)) (rest : List Value) : Ty.str.lies Z (l.map fun x => (⟨x.toArray⟩ : ByteArray)) (l.map Go.Proofs.encStr ++ rest) 0 := by
  intro i hi
  have hi' : i < l.length := by simpa using hi
  show List.take 1 (List.drop (0 + i * 1) _) = [Value.string _]
  rw [show 0 + i * 1 = i by omega, List.drop_eq_getElem_cons (by simp; omega)]
  simp [Go.Proofs.encStr, hi']
theorem xSorted_ok {f f2 : FuncId} {fn : Func} {c : Code} {mt K : TypeId} (hf : P.funcs[f]? = some fn) (hb : fn.body = some c) (hname : (fn.name == "runtime.NumGoroutine") = false)
    (hc : SortsKeys P f f2 mt K) : CallOK P f (xSorted K f2 mt P) := by
  refine ⟨body_enter hf hb hname, fun E ρ args H w vs Q hs hargs h => ?_⟩
  unfold xSorted at h
  split at h
  case h_2 => exact h.elim
  rename_i f' mt' hd
  split at h
  case h_2 => exact h.elim
  rename_i R et l ho
  split at h
  case isFalse => exact h.elim
  rename_i hcond
  simp only [Bool.and_eq_true, Nat.beq_eq] at hcond
  obtain ⟨rfl, rfl⟩ := hcond
  obtain ⟨⟨rfl, hlen⟩, h⟩ := h
  obtain ⟨v, r, rfl, g1, g2⟩ := rels_head hargs
  simp only [SV.rels] at g2; subst g2
  simp only [SV.rel] at g1
  obtain ⟨b, C, bs, k, fz, h1, rfl, hZ⟩ := g1
  have hobj := hs.objs _ _ ho
  simp only [SO.rel] at hobj
  obtain ⟨b', C', bs', o, e1, e2, hR, e4, e5, e6⟩ := hobj
  rw [h1] at e1; injection e1 with e1; injection e1 with i1 i2 i3; subst i1; subst i3
  have hown := mapR_owns hR e2
  have hkv : ((l.map Prod.fst).zip bs).length = l.length := by simp [e4]
  have hfst : ((l.map Prod.fst).zip bs).map Prod.fst = l.map Prod.fst := by rw [List.map_fst_zip]; simp [e4]
  have hperm := mdata_keys hR.1
  have hsz : Maps.size (mdata ((l.map Prod.fst).zip bs)) = l.length := by
    have := hperm.length_eq
    rw [List.length_map, hkv] at this
    rw [this]
    cases hm : mdata ((l.map Prod.fst).zip bs) <;> simp [strKeys, Maps.size]
  refine (hc b _ k _ fz w hown (hs.keep _ _ (hs.zle _ _ hZ)) (by rw [hsz]; unfold maxLen; omega) (by rw [hsz]; omega)).mono ?_
  rintro e w1 ⟨v, ss, rfl, hp, hrow, hbel⟩
  have hnames : (ss.mergeSort leB).map (fun x => (⟨x.toArray⟩ : ByteArray)) = sortedNames l := by
    unfold sortedNames
    rw [mergeSort_of_perm (hp.trans hperm.symm)]
    congr 2
    have : (((l.map Prod.fst).zip bs).map fun p => p.1.data.toList) = (((l.map Prod.fst).zip bs).map Prod.fst).map (fun b => b.data.toList) := by rw [List.map_map]; rfl
    rw [this, hfst, List.map_map]; rfl
  have hssl : ss.length = l.length := by
    rw [(hp.trans hperm.symm).length_eq, List.length_map, hkv]
  have hlies : ∀ rest, Ty.str.lies E.Z (sortedNames l) ((ss.mergeSort leB).map Go.Proofs.encStr ++ rest) 0 := fun rest => by rw [← hnames]; exact strs_lie E.Z _ rest
  have hnl : (sortedNames l).length = l.length := by rw [← hnames]; simp [hssl]
  rcases hrow.2 with ⟨rfl, hn⟩ | ⟨g, cap, cur, rfl, hge, hg, hncap, hcap, hcs, htake⟩
  · have hl0 : l.length = 0 := by omega
    have hnil : sortedNames l = [] := List.eq_nil_of_length_eq_zero (by omega)
    refine ⟨E, ρ.put H.length .nil, _, _, _, h, rfl, Env.le_refl E, ?_, ?_, by simp, fun k hk => put_ne (by omega)⟩
    · simp only [SV.rel]; exact .inl ⟨Map.put_same _ _ _, trivial, hl0, trivial⟩
    · rw [hnil]; exact (hs.under hbel).allocNil
  · refine ⟨E, ρ.put H.length (.at g cap []), _, _, _, h, rfl, Env.le_refl E, ?_, hs.newBlock hbel hge ⟨_, hg⟩ ?_, by simp, fun k hk => put_ne (by omega)⟩
    · simp only [SV.rel]; exact .inr ⟨g, cap, [], cap, 0, Map.put_same _ _ _, by rw [hssl], by omega, by omega, .inr (by omega)⟩
    · simp only [SO.rel]
      refine .inr ⟨g, cap, cur, Map.put_same _ _ _, hg, by rw [hcs]; rfl, by omega, hcap, ?_⟩
      have := hlies (cur.toList.drop (ss.length * 1))
      rw [← htake, List.take_append_drop] at this
      exact this
/-- A law that answers true, called; which handles it says have moved is all one. -/
theorem law_calls_any {k : FuncId} {s : Summ} (hok : SummOK P k s) {args : List SV} {vs : List Value} {W : World} (hrel : SV.rels (zoneOf W) (fun _ => none) args vs)
    (h : ∀ Q : SV × Heap × List Nat → Prop, (∀ mv, Q (.lit (.bool true), [], mv)) → (s args []).Leads Q) : Calls P k vs.toArray W fun e W' => e = .returned (.bool true) ∧ RowKit.Below W.heap.size W W' := by
  refine (hok.2 (envOf W) (fun _ => none) args [] W vs (fun r => r.1 = .lit (.bool true) ∧ r.2.1 = []) (sat_start W) hrel (h _ fun _ => ⟨rfl, rfl⟩)).mono ?_
  rintro e W' ⟨E', ρ', sv, H', mv, v, hq, rfl, hE, hr, hs, _⟩
  obtain ⟨h1, h2⟩ := hq
  dsimp only at h1
  subst h1
  have := rel_lit hr; subst this
  exact ⟨rfl, below_of_sat hE hs⟩
open Go.ChangeShapes Go.WideShapes Go.ChangeAt in
/-- An argument that is a row of strings: what it reads as has each of them. -/
theorem strs_read {HH : Type} {enc : TypeId × Value → HH} {W : World} {t e : TypeId} {v : Value} {d : DataW HH} {ps : List MemPlace} {r : Reach} {b0 base : Nat} {spare : Nat → Bool} {held : Bool} {ρ : Map} (hu : P.underlying t = some (.slice e)) (he : P.underlying e = some .string) (hc : P.cellsOf e = 1)
    (hval : Value.okWide P W r b0 t v) (h : DataW.Trod enc P W base spare held t v d ps) : ∃ l : List ByteArray, SV.rel (zoneOf W) ρ (.imm .str l) v ∧ ∀ s ∈ l, ∃ elems rest, d = .slice elems rest ∧ DataW.lit (.string s.data.toList) ∈ elems := by
  obtain ⟨a, len, cap, rfl⟩ := okWide_slice hu hval
  obtain ⟨fuel, hf⟩ := h
  rcases DataW.trod_slice hu hf with ⟨h1, _⟩ | ⟨a, len, cap, elems, rest, m, _, h1, h2, hb, hle, hm, hlen, hel, _, _⟩
  · refine ⟨[], ?_, by simp⟩
    simp only [SV.rel, Ty.reads]
    simp only [Value.cells] at h1
    injection h1 with h1
    exact ⟨_, rfl, .inl ⟨trivial, h1⟩⟩
  · simp only [Value.cells] at h1
    injection h1 with h1
    rw [h1]
    have hd : d = .slice (elems.map (·.1)) (rest.map (·.1)) := congrArg Prod.fst h2
    rcases Nat.eq_zero_or_pos len with h0 | h0
    · subst h0
      refine ⟨[], ?_, by simp⟩
      simp only [SV.rel, Ty.reads]
      exact ⟨_, rfl, .inr (.inr ⟨trivial, _, _, rfl⟩)⟩
    · have each : ∀ i, i < len → ∃ s : ByteArray, W.cells? base (a.add (i * 1)) 1 = some [.string s] ∧ DataW.lit (.string s.data.toList) ∈ elems.map (·.1) := fun i hi => by
        have h3 := hel i hi
        rw [hc] at h3
        have hi2 : i < elems.length := by omega
        have hy : elems[i]? = some elems[i] := List.getElem?_eq_getElem hi2
        rw [hy] at h3
        cases hcc : W.cells? base (a.add (i * 1)) 1 with
        | none => rw [hcc] at h3; cases h3
        | some cs =>
          rw [hcc] at h3
          obtain ⟨s, g1, g2, _⟩ := DataW.trod_string he h3
          subst g1
          exact ⟨s, rfl, List.mem_map.2 ⟨_, List.getElem_mem hi2, by rw [g2]⟩⟩
      obtain ⟨b, o, sp⟩ := a
      have hsp : sp = none := by
        obtain ⟨s, g1, _⟩ := each 0 h0
        obtain ⟨_, _, _, g3, _⟩ := cells?_at g1 (by omega)
        simpa [Addr.add] using g3
      subst hsp
      have hblk : ∃ arr et fz, W.heap[b]? = some (.cells arr et fz) ∧ ∀ i, i < len → ∃ s : ByteArray, (arr.toList.drop (o + i * 1)).take 1 = [.string s] ∧ DataW.lit (.string s.data.toList) ∈ elems.map (·.1) := by
        obtain ⟨s, g1, _⟩ := each 0 h0
        obtain ⟨arr, et, fz, _, g4, _⟩ := cells?_at g1 (by omega)
        rw [add_lit] at g4
        refine ⟨arr, et, fz, g4, fun i hi => ?_⟩
        obtain ⟨s, g1, g2⟩ := each i hi
        obtain ⟨arr', et', fz', _, g4', g5, _⟩ := cells?_at g1 (by omega)
        rw [add_lit] at g4' g5
        simp only at g4' g5 g4
        rw [g4] at g4'; injection g4' with g4'; injection g4' with e1 e2 e3; subst e1
        exact ⟨s, g5.symm, g2⟩
      obtain ⟨arr, et, fz, hb', hd'⟩ := hblk
      refine ⟨List.ofFn fun i : Fin len => Classical.choose (hd' i.1 i.2), ?_, fun s hs => ⟨_, _, hd, ?_⟩⟩
      · simp only [SV.rel, Ty.reads]
        refine ⟨_, rfl, .inr (.inl ⟨b, o, cap, arr, et, fz, by simp, by simpa using hle, hb', fun i hi => ?_⟩)⟩
        have hi' : i < len := by simpa using hi
        simp only [List.getElem_ofFn]
        exact (Classical.choose_spec (hd' i hi')).1
      · obtain ⟨i, rfl⟩ := List.mem_ofFn.1 hs
        exact (Classical.choose_spec (hd' i.1 i.2)).2
end Sx
