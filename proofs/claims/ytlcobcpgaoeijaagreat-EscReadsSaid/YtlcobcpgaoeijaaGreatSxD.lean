/- Each operation of SxB is what the machine does: second part. -/
import Derived.Test.YtlcobcpgaoeijaaGreatSxC
set_option linter.unusedVariables false
set_option linter.unusedSimpArgs false
namespace Sx
open Go
variable {P : Program} {E : Env} {ρ : Map} {S : Slots} {H : Heap} {a : Act} {w : World} {Z : Zone}
theorem beq_data (x y : ByteArray) : (x.data.toList == y.data.toList) = (x == y) := by rw [← beq_bytes, Go.ByteArray.toList_eq, Go.ByteArray.toList_eq]
theorem rel_unlit {x : SV} {v u : Value} (h : SV.rel Z ρ x v) (e : x = .lit u) : v = u := by subst e; exact rel_lit h
section eqs
theorem equalIn_ptr_nil {d : Nat} {t e : TypeId} {a : Addr} (hu : P.underlying t = some (.pointer e)) : (Op.equalIn (d + 1) t (.pointer (some a)) (.pointer none)).run P w = .ok false w := by
  unfold Op.equalIn; simp [run_underlying hu]
theorem equalIn_nil_nil {d : Nat} {t e : TypeId} (hu : P.underlying t = some (.pointer e)) : (Op.equalIn (d + 1) t (.pointer none) (.pointer none)).run P w = .ok true w := by
  unfold Op.equalIn; simp [run_underlying hu]
theorem xeq_sound : ∀ (n : Nat) (t : TypeId) (x y : SV) (vx vy : Value) (b : Bool), xeq P n t x y = some b → SV.rel Z ρ x vx → SV.rel Z ρ y vy → ∀ d, n ≤ d →
    (Op.equalIn d t vx vy).run P w = .ok b w
  | 0, _, _, _, _, _, _, h, _, _, _, _ => by simp [xeq] at h
  | n + 1, t, x, y, vx, vy, b, h, hx, hy, d, hd => by
    obtain ⟨d, rfl⟩ : ∃ e, d = e + 1 := ⟨d - 1, by omega⟩
    unfold xeq at h
    split at h
    · rename_i k1 k a l b' hu
      split at h
      case isFalse => cases h
      rename_i hk
      have := kindEq_eq hk; subst this
      injection h with h; subst h
      have := rel_lit hx; subst this; have := rel_lit hy; subst this
      exact run_equalIn_int w d t _ _ _ _ hu
    · rename_i hu
      injection h with h; subst h
      have := rel_lit hx; subst this; have := rel_lit hy; subst this
      exact run_equalIn_bool' w d t _ _ hu
    · rename_i hu
      injection h with h; subst h
      have := rel_lit hx; subst this; have := rel_lit hy; subst this
      rw [run_equalIn_string w d t _ _ hu, beq_bytes]
    · rename_i fs xs ys hu
      split at h
      · cases h
      rename_i hst
      simp only [SV.rel] at hx hy
      obtain ⟨vs, rfl, hx⟩ := hx
      obtain ⟨us, rfl, hy⟩ := hy
      have hf : P.fieldsOf t = fs := by simp [Program.fieldsOf, hu]
      rw [run_equalIn_struct w d t _ _ (by rw [hf]; exact hu) (by simpa using hst), hf]
      generalize fs.toList = l at h
      clear hu hf
      induction l generalizing b with
      | nil => simp at h; subst h; simp [Op.eqFields]
      | cons f l ih =>
        simp only [List.foldr_cons] at h
        by_cases hn : f.name = "_"
        · rw [if_pos hn] at h
          simp only [Op.eqFields, hn, ne_eq, not_true, if_false]
          exact ih _ h
        · rw [if_neg hn] at h
          split at h
          · rename_i p q c hp hq hc
            split at h
            · rename_i e he
              injection h with h
              obtain ⟨u, hu1, hu2⟩ := run_part (P := P) (w := w) hp (vs := vs.toArray) (by simpa using hx)
              obtain ⟨u', hu1', hu2'⟩ := run_part (P := P) (w := w) hq (vs := us.toArray) (by simpa using hy)
              have h1 := xeq_sound n f.type p q u u' e he hu2 hu2' d (by omega)
              have h2 := ih c hc
              simp only [Op.eqFields, ne_eq, hn, not_false_eq_true, if_true, Sem.run_bind, hu1, hu1', h1, Result.andThen_ok]
              subst h
              cases e
              · simp
              · simpa using h2
            · cases h
          · cases h
    · cases h
end eqs
theorem xbin_sound {op : BinOp} {t : TypeId} {x y : SV} {vx vy : Value} {ox oy : Operand} {Q : SV → Prop}
    (hx : SV.rel E.Z ρ x vx) (hy : SV.rel E.Z ρ y vy) (h : (xbin P op t x y).Leads Q) :
    Yields P E ρ (do eqGuard op t ox oy vx vy; Go.binOp op t vx vy) w Q := by
  unfold xbin at h
  split at h
  · have := rel_lit hx; subst this; have := rel_lit hy; subst this
    obtain ⟨h0, hq⟩ := h
    refine yields_lit hq (run_guarded (guard_int ..) ?_)
    simp [Go.binOp, Op.shift]
    intro h; omega
  · have := rel_lit hx; subst this; have := rel_lit hy; subst this
    obtain ⟨h0, hq⟩ := h
    refine yields_lit hq (run_guarded (guard_int ..) ?_)
    simp [Go.binOp, Op.shift]
    intro h; omega
  · rename_i k m l n hn1 hn2
    have := rel_lit hx; subst this; have := rel_lit hy; subst this
    split at h
    case isFalse => exact h.elim
    rename_i hk
    have := kindEq_eq hk
    subst this
    split at h
    all_goals first
      | exact h.elim
      | (refine yields_lit h (run_guarded (guard_int ..) ?_); simp [Go.binOp, Op.intArith, Op.intBits, Op.intCmp]; done)
      | (obtain ⟨h0, hq⟩ := h; refine yields_lit hq (run_guarded (guard_int ..) ?_); simp [Go.binOp, Op.intDiv, h0]; done)
  · have := rel_lit hx; subst this; have := rel_lit hy; subst this
    obtain ⟨h0, hq⟩ := h
    refine yields_lit hq (run_guarded (guard_str ..) ?_)
    rename_i a b
    have : ¬ ((a.size + b.size : Nat) : Int) > IntKind.i64.max := by
      show ¬ (_ > (9223372036854775807 : Int)); omega
    simp only [Go.binOp, Op.stringOp, if_neg this, Sem.run_pure]
  all_goals try
    (have := rel_lit hx; subst this; have := rel_lit hy; subst this
     refine yields_lit h (run_guarded (guard_str ..) ?_); simp only [Go.binOp, Op.stringOp, Go.ByteArray.toList_eq, beq_data, Sem.run_pure]; done)
  · have := rel_lit hx; subst this; have := rel_lit hy; subst this
    split at h
    · rename_i hu
      refine yields_lit h (run_guarded (guard_bool ..) ?_)
      simp [Go.binOp, Op.equal, Op.maxDepth, run_equalIn_bool' w 9999 t _ _ hu]
    · exact h.elim
  · have := rel_lit hx; subst this; have := rel_lit hy; subst this
    split at h
    · rename_i hu
      refine yields_lit h (run_guarded (guard_bool ..) ?_)
      simp [Go.binOp, Op.equal, Op.maxDepth, run_equalIn_bool' w 9999 t _ _ hu]
    · exact h.elim
  · have := rel_lit hy; subst this
    simp only [SV.rel] at hx
    obtain ⟨b, C, bs, _, rfl⟩ := hx
    split at h
    · rename_i hu
      refine yields_lit h (run_guarded (guard_ptr ..) ?_)
      simp [Go.binOp, Op.equal, Op.maxDepth, equalIn_ptr_nil (d := 9999) hu]
    · exact h.elim
  · have := rel_lit hy; subst this
    simp only [SV.rel] at hx
    obtain ⟨b, C, bs, _, rfl⟩ := hx
    split at h
    · rename_i hu
      refine yields_lit h (run_guarded (guard_ptr ..) ?_)
      simp [Go.binOp, Op.equal, Op.maxDepth, equalIn_ptr_nil (d := 9999) hu]
    · exact h.elim
  · have := rel_lit hy; subst this
    simp only [SV.rel] at hx
    obtain ⟨b, C, bs, k, _, _, rfl⟩ := hx
    split at h
    · rename_i hu
      refine yields_lit h (run_guarded (guard_ptr ..) ?_)
      simp [Go.binOp, Op.equal, Op.maxDepth, equalIn_ptr_nil (d := 9999) hu]
    · exact h.elim
  · have := rel_lit hy; subst this
    simp only [SV.rel] at hx
    obtain ⟨b, C, bs, k, _, _, rfl⟩ := hx
    split at h
    · rename_i hu
      refine yields_lit h (run_guarded (guard_ptr ..) ?_)
      simp [Go.binOp, Op.equal, Op.maxDepth, equalIn_ptr_nil (d := 9999) hu]
    · exact h.elim
  · have := rel_lit hx; subst this; have := rel_lit hy; subst this
    split at h
    · rename_i hu
      refine yields_lit h (run_guarded (guard_ptr ..) ?_)
      simp [Go.binOp, Op.equal, Op.maxDepth, equalIn_nil_nil (d := 9999) hu]
    · exact h.elim
  · have := rel_lit hx; subst this; have := rel_lit hy; subst this
    split at h
    · rename_i hu
      refine yields_lit h (run_guarded (guard_ptr ..) ?_)
      simp [Go.binOp, Op.equal, Op.maxDepth, equalIn_nil_nil (d := 9999) hu]
    · exact h.elim
  · split at h
    · exact h.elim
    rename_i hg
    split at h
    · rename_i b hb
      have he := xeq_sound (P := P) (Z := E.Z) (ρ := ρ) (w := w) 8 t _ _ vx vy b hb hx hy 10000 (by decide)
      simp only [SV.rel] at hx hy
      obtain ⟨vs, rfl, hx⟩ := hx
      obtain ⟨us, rfl, hy⟩ := hy
      refine yields_lit h (run_guarded (run_eqGuard_agg w _ _ _ _ _ _ (by simpa using hg)) ?_)
      rw [run_eql_struct, he]; rfl
    · exact h.elim
  · split at h
    · exact h.elim
    rename_i hg
    split at h
    · rename_i b hb
      have he := xeq_sound (P := P) (Z := E.Z) (ρ := ρ) (w := w) 8 t _ _ vx vy b hb hx hy 10000 (by decide)
      simp only [SV.rel] at hx hy
      obtain ⟨vs, rfl, hx⟩ := hx
      obtain ⟨us, rfl, hy⟩ := hy
      refine yields_lit h (run_guarded (run_eqGuard_agg w _ _ _ _ _ _ (by simpa using hg)) ?_)
      rw [run_neq_struct, he]; rfl
    · exact h.elim
  · exact h.elim
theorem xun_sound {op : UnOp} {x : SV} {vx : Value} {Q : SV → Prop} (hx : SV.rel E.Z ρ x vx) (h : (xun op x).Leads Q) : Yields P E ρ (Op.unary op vx) w Q := by
  unfold xun at h
  split at h
  · have := rel_lit hx; subst this
    exact yields_lit h (by simp [Op.unary])
  · have := rel_lit hx; subst this
    exact yields_lit h (by simp [Op.unary, Op.intArith])
  · exact h.elim
theorem xlen_sound {t ty : TypeId} {x : SV} {vx : Value} {Q : SV → Prop} (hx : SV.rel E.Z ρ x vx) (h : (xlen P t x).Leads Q) : Yields P E ρ (Builtin.len_ #[t] ty #[vx]) w Q := by
  unfold xlen at h
  split at h
  · rename_i hu; have := rel_lit hx; subst this
    exact yields_lit h (by simp [Builtin.len_, run_underlying hu, goInt])
  · rename_i hu; have := rel_lit hx; subst this
    exact yields_lit h (by simp [Builtin.len_, run_underlying hu, goInt])
  · rename_i hu
    simp only [SV.rel] at hx
    rcases hx with ⟨_, _, rfl, rfl⟩ | ⟨b, C, bs, cap, o, _, rfl, _⟩
    · exact yields_lit h (by simp [Builtin.len_, run_underlying hu, goInt])
    · exact yields_lit h (by simp [Builtin.len_, run_underlying hu, goInt])
  · rename_i hu
    simp only [SV.rel, Ty.reads] at hx
    obtain ⟨u, hu', h'⟩ := hx
    simp only [List.cons.injEq, and_true] at hu'
    subst hu'
    rcases h' with ⟨rfl, rfl⟩ | ⟨b, o, cap, arr, et, fz, rfl, _⟩ | ⟨rfl, a, cap, rfl⟩
    · exact yields_lit h (by simp [Builtin.len_, run_underlying hu, goInt])
    · exact yields_lit h (by simp [Builtin.len_, run_underlying hu, goInt])
    · exact yields_lit h (by simp [Builtin.len_, run_underlying hu, goInt])
  · exact h.elim
theorem xmax_go {k : IntKind} : ∀ (l : List SV) (x : Int) (vs : List Value) (Q : SV → Prop), SV.rels E.Z ρ l vs → (xminmax.go (fun x y => max x y) k x l).Leads Q → Yields P E ρ (vs.foldlM Builtin.max2 (.int k x)) w Q
  | [], x, vs, Q, hr, h => by
    simp only [SV.rels] at hr; subst hr
    simp only [xminmax.go] at h
    exact yields_lit h (by simp)
  | s :: l, x, vs, Q, hr, h => by
    obtain ⟨v, r, rfl, h1, h2⟩ := rels_head hr
    unfold xminmax.go at h
    split at h
    · cases ‹_ :: _ = []›
    · rename_i k' y r' heq
      injection heq with e1 e2; subst e1; subst e2
      have := rel_lit h1; subst this
      obtain ⟨sv, v, hq, hrun, hrel⟩ := xmax_go _ _ r Q h2 h
      refine ⟨sv, v, hq, ?_, hrel⟩
      simp only [List.foldlM_cons, Builtin.max2, Sem.run_bind, Sem.run_pure, Result.andThen_ok]
      have e : max x y = if y > x then y else x := by split <;> omega
      rw [e] at hrun
      simpa using hrun
    · exact h.elim
theorem xmin_go {k : IntKind} : ∀ (l : List SV) (x : Int) (vs : List Value) (Q : SV → Prop), SV.rels E.Z ρ l vs → (xminmax.go (fun x y => min x y) k x l).Leads Q → Yields P E ρ (vs.foldlM Builtin.min2 (.int k x)) w Q
  | [], x, vs, Q, hr, h => by
    simp only [SV.rels] at hr; subst hr
    simp only [xminmax.go] at h
    exact yields_lit h (by simp)
  | s :: l, x, vs, Q, hr, h => by
    obtain ⟨v, r, rfl, h1, h2⟩ := rels_head hr
    unfold xminmax.go at h
    split at h
    · cases ‹_ :: _ = []›
    · rename_i k' y r' heq
      injection heq with e1 e2; subst e1; subst e2
      have := rel_lit h1; subst this
      obtain ⟨sv, v, hq, hrun, hrel⟩ := xmin_go _ _ r Q h2 h
      refine ⟨sv, v, hq, ?_, hrel⟩
      simp only [List.foldlM_cons, Builtin.min2, Sem.run_bind, Sem.run_pure, Result.andThen_ok]
      have e : min x y = if y < x then y else x := by split <;> omega
      rw [e] at hrun
      simpa using hrun
    · exact h.elim
theorem xmax_sound {l : List SV} {vs : List Value} {Q : SV → Prop} {ts : Array TypeId} {ty : TypeId} (hr : SV.rels E.Z ρ l vs) (h : (xminmax (fun x y => max x y) l).Leads Q) : Yields P E ρ (Builtin.max_ ts ty vs.toArray) w Q := by
  unfold xminmax at h
  split at h
  · obtain ⟨v, r, rfl, h1, h2⟩ := rels_head hr
    have := rel_lit h1; subst this
    simpa [Builtin.max_] using xmax_go _ _ _ _ h2 h
  · exact h.elim
theorem xmin_sound {l : List SV} {vs : List Value} {Q : SV → Prop} {ts : Array TypeId} {ty : TypeId} (hr : SV.rels E.Z ρ l vs) (h : (xminmax (fun x y => min x y) l).Leads Q) : Yields P E ρ (Builtin.min_ ts ty vs.toArray) w Q := by
  unfold xminmax at h
  split at h
  · obtain ⟨v, r, rfl, h1, h2⟩ := rels_head hr
    have := rel_lit h1; subst this
    simpa [Builtin.min_] using xmin_go _ _ _ _ h2 h
  · exact h.elim
theorem rels_get : ∀ {ss : List SV} {vs : List Value} {i : Nat} {s : SV}, SV.rels Z ρ ss vs → ss[i]? = some s → ∃ v, vs[i]? = some v ∧ SV.rel Z ρ s v
  | [], _, _, _, _, h => by simp at h
  | s :: ss, vs, 0, t, hr, h => by
    obtain ⟨v, r, rfl, h1, _⟩ := rels_head hr
    simp at h; subst h
    exact ⟨v, rfl, h1⟩
  | s :: ss, vs, i + 1, t, hr, h => by
    obtain ⟨v, r, rfl, _, h2⟩ := rels_head hr
    simp at h
    simpa using rels_get h2 h
theorem xextract_sound {x : SV} {vx : Value} {i : Nat} {Q : SV → Prop} (hx : SV.rel E.Z ρ x vx) (h : (xextract x i).Leads Q) : Yields P E ρ (Instr.extract vx i) w Q := by
  unfold xextract at h
  split at h
  · split at h
    · rename_i cs v hv
      simp only [SV.rel] at hx
      obtain ⟨vs, rfl, hx⟩ := hx
      obtain ⟨u, h1, h2⟩ := rels_get hx hv
      exact ⟨v, u, h, by simp [Instr.extract, h1], h2⟩
    · exact h.elim
  · exact h.elim
end Sx
