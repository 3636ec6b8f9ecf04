/- A law's call, and its row. -/
import Derived.Test.YtlcobcpgaoeijaaGreatSxS
set_option linter.unusedVariables false
set_option linter.unusedSimpArgs false
namespace Sx
open Go Go.ChangeShapes Go.WideShapes Go.ChangeAt Go.RowKit
variable {P : Program}
def envOf (W : World) : Env := { Z := zoneOf W, F := zoneOf W, tk := fun k => k < W.heap.size, bye := false, os := W.os, tape := W.tape, output := W.output }
theorem sat_start (W : World) : Sat (envOf W) (fun _ => none) [] W :=
  ⟨rfl, rfl, rfl, fun _ _ => rfl, fun h o ho => by simp at ho, fun h h' o o' b ho => by simp at ho, fun _ _ h => h, fun _ _ h => h, fun h o b ho => by simp at ho, fun h o b ho => by simp at ho, fun k hk => ⟨W.heap[k], Array.getElem?_eq_getElem hk⟩⟩
theorem below_of_sat {W W' : World} {ρ : Map} {H : Heap} {E : Env} (hE : Env.le (envOf W) E) (hs : Sat E ρ H W') : Below W.heap.size W W' := by
  have hk : ∀ k, k < W.heap.size → W'.heap[k]? = W.heap[k]? := fun k hk => by
    have := hs.keep k W.heap[k] (hE.f k _ (Array.getElem?_eq_getElem hk))
    rw [this, Array.getElem?_eq_getElem hk]
  refine ⟨hs.os.trans hE.os, hs.tape.trans hE.tape, hs.output.trans hE.output, ?_, hk⟩
  rcases Nat.eq_zero_or_pos W.heap.size with h0 | h0
  · omega
  · have h1 := hk (W.heap.size - 1) (by omega)
    rw [Array.getElem?_eq_getElem (show W.heap.size - 1 < W.heap.size by omega)] at h1
    have := block_lt h1
    omega
theorem law_calls {k : FuncId} {s : Summ} (hok : SummOK P k s) {args : List SV} {vs : List Value} {W : World} (hrel : SV.rels (zoneOf W) (fun _ => none) args vs)
    (h : ∀ Q : SV × Heap × List Nat → Prop, Q (.lit (.bool true), [], []) → (s args []).Leads Q) : Calls P k vs.toArray W fun e W' => e = .returned (.bool true) ∧ Below W.heap.size W W' := by
  refine (hok.2 (envOf W) (fun _ => none) args [] W vs (fun r => r = (.lit (.bool true), [], [])) (sat_start W) hrel (h _ rfl)).mono ?_
  rintro e W' ⟨E', ρ', sv, H', mv, v, hq, rfl, hE, hr, hs, _⟩
  injection hq with h1 h2
  subst h1
  have := rel_lit hr; subst this
  exact ⟨rfl, below_of_sat hE hs⟩
theorem below_of_low {W W' : World} {ρ : Map} {H : Heap} {E : Env} (hE : Env.low { envOf W with bye := true } E) (hs : Sat E ρ H W') : Below W.heap.size W W' := by
  have hk : ∀ k, k < W.heap.size → W'.heap[k]? = W.heap[k]? := fun k hk => by
    have := hs.keep k W.heap[k] (hE.f k _ hk (Array.getElem?_eq_getElem hk))
    rw [this, Array.getElem?_eq_getElem hk]
  refine ⟨hs.os.trans hE.os, hs.tape.trans hE.tape, hs.output.trans hE.output, ?_, hk⟩
  rcases Nat.eq_zero_or_pos W.heap.size with h0 | h0
  · omega
  · have h1 := hk (W.heap.size - 1) (by omega)
    rw [Array.getElem?_eq_getElem (show W.heap.size - 1 < W.heap.size by omega)] at h1
    have := block_lt h1
    omega
theorem law_calls_bye {T : Table} {k : FuncId} {fn : Func} {c : Code} {An : Nat → Option Ann} (hT : TableOK P T true) (hf : P.funcs[k]? = some fn) (hb : fn.body = some c) {args : List SV} {vs : List Value} {W : World} (hrel : SV.rels (zoneOf W) (fun _ => none) args vs)
    (h : ∀ Q : SV × Heap × List Nat → Prop, (∀ mv, Q (.lit (.bool true), [], mv)) → (bodySumm T P fn An args []).Leads Q) : Calls P k vs.toArray W fun e W' => e = .returned (.bool true) ∧ Below W.heap.size W W' := by
  refine (body_calls (E := { envOf W with bye := true }) (ρ := fun _ => none) (H := []) (Q := fun r => r.1 = .lit (.bool true) ∧ r.2.1 = []) hT hf hb (sat_start W).setBye hrel (h _ fun _ => ⟨rfl, rfl⟩)).mono ?_
  rintro e W' ⟨E', ρ', sv, H', mv, v, hq, rfl, hE, hr, hs, _⟩
  obtain ⟨h1, h2⟩ := hq
  dsimp only at h1
  subst h1
  have := rel_lit hr; subst this
  exact ⟨rfl, below_of_low hE.2 hs⟩
section
variable {HH : Type} {enc : TypeId × Value → HH}
theorem trodAll_stays (hl : laidOutB P = true) {W W' : World} {sp' : Nat → Bool} : ∀ {ts : List TypeId} {vs : List Value} {ds : List (DataW HH)} {ps : List MemPlace}, (∀ t ∈ ts, P.readableRec t = true ∧ t < P.types.size) →
    DataW.TrodAll enc P W 0 (fun _ => true) true ts vs ds ps → (∀ p ∈ ps, W.sameAt W' p) → (∀ p ∈ ps, sp' p.block = true) → DataW.TrodAll enc P W' 0 sp' true ts vs ds ps
  | [], [], [], ps, _, h, _, _ => h
  | t :: ts, v :: vs, d :: ds, ps, ht, h, hsame, hsp => by
    obtain ⟨p, q, h1, h2, rfl⟩ := h
    refine ⟨p, q, WideElems.Trod_stays hl (ht t (by simp)).1 (ht t (by simp)).2 h1 (fun x hx => hsame x (by simp [hx])) (fun x hx => hsp x (by simp [hx])),
      trodAll_stays hl (fun t h => ht t (by simp [h])) h2 (fun x hx => hsame x (by simp [hx])) (fun x hx => hsp x (by simp [hx])), rfl⟩
  | [], [], _ :: _, _, _, h, _, _ => h.elim
  | [], _ :: _, [], _, _, h, _, _ => h.elim
  | [], _ :: _, _ :: _, _, _, h, _, _ => h.elim
  | _ :: _, [], [], _, _, h, _, _ => h.elim
  | _ :: _, [], _ :: _, _, _, h, _, _ => h.elim
  | _ :: _, _ :: _, [], _, _, h, _, _ => h.elim
theorem post_true {f : Func} {s : ChangeSpec} {apart fresh handsOn again : Bool} {W W' : World} {args : Array Value} {ds : List (DataW HH)} {before : List MemPlace} {tb : TypeId}
    (hW : DataW.Whole enc P f.params.toList s.vars apart W args.toList ds [] before) (hv : s.vars = []) (hb : Below W.heap.size W W')
    (hfn : s.fn HH ds = { results := [.lit (.bool true)], args := ds }) (hres : f.resultTypes = #[tb]) (hu : P.underlying tb = some .bool) (hl : laidOutB P = true)
    (hread : ∀ t ∈ f.params.toList, P.readableRec t = true ∧ t < P.types.size) : s.post enc P f apart fresh handsOn again W args (.bool true) W' := by
  have hold : ∀ p ∈ before, (fun b => decide (b < W.heap.size)) p.block = true := fun p hp => by simpa using hW.lt p hp
  have hres' : ∀ (b : Nat) (sp : Nat → Bool) (hd : Bool), DataW.TrodAll enc P W' b sp hd f.resultTypes.toList ((Value.bool true).resultList f.resultTypes.size) (s.fn HH (ds ++ [])).results [] := fun b sp hd => by
    rw [List.append_nil, hfn, hres]
    exact trodAll_cons_mk (shut_bool hu _) trodAll_mk0
  have hargs : ∀ sp : Nat → Bool, (∀ p ∈ before, sp p.block = true) → DataW.TrodAll enc P W' 0 sp true f.params.toList args.toList (s.fn HH (ds ++ [])).args before := fun sp hsp => by
    rw [List.append_nil, hfn]
    have hlt := hW.lt
    obtain ⟨p, q, hA, hV, rfl, _⟩ := hW
    rw [hv] at hV
    obtain ⟨_, rfl⟩ := trodVars_none hV
    simp only [List.append_nil] at *
    exact trodAll_stays hl hread hA (fun x hx => hb.same (hlt x hx)) hsp
  have hvars : ∀ sp : Nat → Bool, DataW.TrodVars enc P W' sp s.vars (s.fn HH (ds ++ [])).vars [] := fun sp => by
    rw [List.append_nil, hfn, hv]; rfl
  refine ⟨ds, [], before, [], before, [], hW, hres' _ _ _, hargs _ hold, hvars _, World.keptBut_mono (fun p hp => ⟨hp, .inr (.inl hp)⟩) (hb.frame _), fun _ => ?_⟩
  have hlt := hW.lt
  obtain ⟨_, _, _, _, _, hz, hn⟩ := hW
  refine ⟨ok_one hres rfl (okWide_bool_mk hu _), _, _, ([] ++ before) ++ [], ⟨[] ++ before, [], trodAll_append (hargs _ (fun _ _ => rfl)) (hres' _ _ _), hvars _, rfl, ?_, ?_⟩, ?_⟩
  · intro b off hp
    have hp' : MemPlace.cell b off ∈ before := by simpa using hp
    rw [hb.frozen (p := ⟨b, off, none⟩) (hlt _ hp')]
    exact hz b off hp'
  · intro ha
    simpa using hn ha
  · intro p hp _
    simpa using hp
theorem slice_reads {W : World} {t e : TypeId} {ty : Ty} {v : Value} {d : DataW HH} {ps : List MemPlace} {r : Reach} {b0 base : Nat} {spare : Nat → Bool} {held : Bool} {ρ : Map} (n : Nat) (hu : P.underlying t = some (.slice e)) (ht : tyOf P n t = some (.imm ty)) (hd : tidy P n t = true)
    (hval : Value.okWide P W r b0 t v) (h : DataW.Trod enc P W base spare held t v d ps) : ∃ l : List ty.den, SV.rel (zoneOf W) ρ (.imm ty l) v ∧ (Ty.imm ty).wf l := by
  obtain ⟨a, len, cap, rfl⟩ := okWide_slice hu hval
  obtain ⟨fuel, hf⟩ := h
  obtain ⟨l, h1, h2⟩ := trod_reads n t (.imm ty) fuel _ _ ht hd hf
  exact ⟨l, by simpa [SV.rel, Value.cells] using h1, h2⟩
end
end Sx
