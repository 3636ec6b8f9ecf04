/- Each operation of SxB is what the machine does: texts out of bytes, structs, new slices. -/
import Derived.Test.YtlcobcpgaoeijaaGreatSxE
set_option linter.unusedVariables false
set_option linter.unusedSimpArgs false
namespace Sx
open Go
variable {P : Program} {E : Env} {ρ : Map} {S : Slots} {H : Heap} {a : Act} {w : World} {Z : Zone}
theorem foldl_push : ∀ (ns : List Int) (s : ByteArray), (ns.foldl (fun r n => r.push (UInt8.ofNat n.toNat)) s).data.toList = s.data.toList ++ ns.map (fun n => UInt8.ofNat n.toNat)
  | [], s => by simp
  | n :: ns, s => by
    rw [List.foldl_cons, foldl_push ns]
    simp [ByteArray.push]
theorem foldl_bsOf (ns : List Int) : ns.foldl (fun r n => r.push (UInt8.ofNat n.toNat)) ByteArray.empty = bsOf ns := by
  have h := foldl_push ns ByteArray.empty
  unfold bsOf
  generalize ns.foldl (fun r n => r.push (UInt8.ofNat n.toNat)) ByteArray.empty = x at h ⊢
  obtain ⟨⟨d⟩⟩ := x
  simp at h
  simp [h]
theorem load_bytes {b o : Nat} {arr : Array Value} {et : TypeId} {fz : Nat × Nat} {l : List Int} (hb : w.heap[b]? = some (.cells arr et fz))
    (hl : Ty.lies Z (.int .u8) l arr.toList o) : (loadCells ⟨b, o, none⟩ l.length).run P w = .ok (l.map (Value.int .u8)).toArray w := by
  have h := run_loadCells_list (P := P) w ⟨b, o, none⟩ (l.map (Value.int .u8)) (fun j v hv => by
    rw [add_lit]
    have hj : j < l.length := by
      rcases Nat.lt_or_ge j l.length with h | h
      · exact h
      · simp [List.getElem?_eq_none h] at hv
    have h1 := hl j hj
    simp only [Ty.reads, Ty.width, Nat.mul_one] at h1
    have h2 : arr.toList[o + j]? = some (.int .u8 l[j]) := by
      have : ((arr.toList.drop (o + j)).take 1)[0]? = some (.int .u8 l[j]) := by rw [h1]; rfl
      simpa using this
    simp [hj] at hv
    subst hv
    simpa [World.cell?, hb] using h2)
  simpa using h
theorem lies_drop {t : Ty} {l : List t.den} {vs : List Value} {o : Nat} (h : t.lies Z l vs o) (n : Nat) : t.lies Z (l.drop n) vs (o + n * t.width) := fun i hi => by
  have := h (n + i) (by simp at hi; omega)
  rw [show o + n * t.width + i * t.width = o + (n + i) * t.width by rw [Nat.add_mul]; omega]
  simpa using this
theorem lies_take {t : Ty} {l : List t.den} {vs : List Value} {o : Nat} (h : t.lies Z l vs o) (n : Nat) : t.lies Z (l.take n) vs o := fun i hi => by
  have := h i (by simp at hi; omega)
  simpa using this
theorem xconv_sound {src dst : TypeId} {x : SV} {vx : Value} {Q : SV → Prop} (hs : Sat E ρ H w) (hx : SV.rel E.Z ρ x vx)
    (h : (xconv P H src dst x).Leads Q) : Yields P E ρ (Go.convert src dst vx) w Q := by
  unfold xconv at h
  split at h
  · rename_i d k k' n hsu hdu
    have := rel_lit hx; subst this
    exact yields_lit h (by simp [Go.convert, run_underlying hsu, run_underlying hdu, Conv.intToInt])
  · rename_i d s hsu hdu
    have := rel_lit hx; subst this
    exact yields_lit h (by simp [Go.convert, run_underlying hsu, run_underlying hdu])
  · rename_i e h0 wd off len hsu hdu
    split at h
    · rename_i et L heu hh
      split at h
      case isFalse => exact h.elim
      rename_i hwd
      have := Nat.eq_of_beq_eq_true hwd; subst this
      obtain ⟨hle, h⟩ := h
      simp only [SV.rel] at hx
      rcases hx with ⟨h1, rfl, rfl, rfl⟩ | ⟨b, C, bs, cap, o, h1, rfl, h2, h3, h4⟩
      · refine yields_lit h ?_
        rw [run_convert_bytes_string w src dst e _ _ _ hsu heu hdu]
        simp [Conv.bytesToString, bsOf]
        rfl
      · rcases hs.row hh with ⟨h1', _⟩ | ⟨b', C', bs', vs, h1', h2', h3', h4', h5', h6'⟩
        · rw [h1] at h1'; cases h1'
        rw [h1] at h1'; injection h1' with h1'; injection h1' with e1 e2 e3; subst e1; subst e2; subst e3
        refine yields_lit h ?_
        rw [run_convert_bytes_string w src dst e _ _ _ hsu heu hdu]
        rcases h4 with h4 | h4
        · have : len = 0 := by omega
          subst this
          rw [run_bytesToString (ns := []) w _ _ _ (by simp [loadCells, loadCellsFrom])]
          simp [bsOf]; rfl
        · subst h4
          have hl := lies_take (lies_drop h6' off) len
          have hlen : ((L.drop off).take len).length = len := by simp; omega
          have h7 := load_bytes (P := P) h2' hl
          rw [hlen] at h7
          rw [run_bytesToString (ns := (L.drop off).take len) w _ _ _ (by simpa [Ty.width] using h7), foldl_bsOf]
    · exact h.elim
  · rename_i e L hsu hdu
    split at h
    · rename_i heu
      simp only [SV.rel, Ty.reads] at hx
      obtain ⟨u, hu', h'⟩ := hx
      simp only [List.cons.injEq, and_true] at hu'
      subst hu'
      refine yields_lit h ?_
      rcases h' with ⟨rfl, rfl⟩ | ⟨b, o, cap, arr, et, fz, rfl, h1, h2, h3⟩ | ⟨rfl, a, cap, rfl⟩
      rotate_left 2
      · rw [run_convert_bytes_string w src dst e _ _ _ hsu heu hdu]
        rw [run_bytesToString (ns := []) w _ _ _ (by simp [loadCells, loadCellsFrom]), foldl_bsOf]
      · rw [run_convert_bytes_string w src dst e _ _ _ hsu heu hdu]
        simp [Conv.bytesToString, bsOf]
        rfl
      · rw [run_convert_bytes_string w src dst e _ _ _ hsu heu hdu]
        have h7 := load_bytes (P := P) (Z := E.Z) (hs.zone _ _ h2) h3
        rw [run_bytesToString (ns := L) w _ _ _ h7, foldl_bsOf]
    · exact h.elim
  · rename_i t h0 off hsu hdu
    split at h
    case h_2 => exact h.elim
    rename_i et cs i hh hinfo
    split at h
    case isFalse => exact h.elim
    rename_i hb
    simp only [Bool.and_eq_true] at hb
    have hb1 := Nat.le_of_ble_eq_true hb.1
    have hb2 := Nat.le_of_ble_eq_true hb.2
    have hx0 := hx
    simp only [SV.rel] at hx
    obtain ⟨b, C, bs, h1, rfl⟩ := hx
    have hob := hs.objs _ _ hh
    simp only [SO.rel] at hob
    obtain ⟨b', C', vs, g1, g2, g3⟩ := hob
    rw [h1] at g1; injection g1 with g1; injection g1 with e1 e2; subst e1; subst e2
    have hl := rels_length g3
    simp only [Array.length_toList] at hl
    have hc : w.cell? ⟨b, off, none⟩ = some vs[off]! := by
      have hlt : off < vs.size := by omega
      simp [World.cell?, g2, hlt]
    refine ⟨_, _, h, run_convert_to_unsafe hsu hdu (by rw [hinfo]; simp; omega) hc, hx0⟩
  · exact h.elim
theorem setAll_list (new : List Value) : ∀ (k off : Nat) (cells : Array Value), off + k + new.length ≤ cells.size →
    ((new.zipIdx k).foldl (fun cs (x : Value × Nat) => cs.setIfInBounds (off + x.2) x.1) cells).toList = cells.toList.take (off + k) ++ new ++ cells.toList.drop (off + k + new.length) := by
  induction new with
  | nil => intro k off cells _; simp
  | cons v new ih =>
    intro k off cells h
    simp only [List.length_cons] at h
    rw [List.zipIdx_cons, List.foldl_cons, ih (k + 1) off _ (by simp; omega)]
    simp only [Array.toList_setIfInBounds]
    have hk : off + k < cells.toList.length := by simp; omega
    have hset : cells.toList.set (off + k) v = cells.toList.take (off + k) ++ v :: cells.toList.drop (off + k + 1) := by
      rw [List.set_eq_take_append_cons_drop, if_pos hk]
    have hlt : (cells.toList.take (off + k)).length = off + k := by simp; simp at hk; omega
    rw [hset, show off + (k + 1) = (off + k) + 1 by omega]
    have h1 : (cells.toList.take (off + k) ++ v :: cells.toList.drop (off + k + 1)).take (off + k + 1) = cells.toList.take (off + k) ++ [v] := by
      rw [List.take_append, hlt, List.take_of_length_le (by omega), show off + k + 1 - (off + k) = 1 by omega]; rfl
    have h2 : (cells.toList.take (off + k) ++ v :: cells.toList.drop (off + k + 1)).drop (off + k + 1 + new.length) = cells.toList.drop (off + k + (new.length + 1)) := by
      rw [List.drop_append, hlt, List.drop_eq_nil_of_le (by omega), show off + k + 1 + new.length - (off + k) = new.length + 1 by omega]
      simp only [List.nil_append, List.drop_succ_cons, List.drop_drop]
      congr 1; omega
    rw [h1, h2]
    simp
theorem rels_put {cs new : List SV} {vs : List Value} {ns : List Value} (off : Nat) (h : SV.rels Z ρ cs vs) (hn : SV.rels Z ρ new ns) :
    SV.rels Z ρ (putAt cs off new) (vs.take off ++ ns ++ vs.drop (off + ns.length)) := by
  unfold putAt
  rw [rels_length hn]
  exact rels_append (rels_append (rels_take _ h) hn) (rels_drop _ h)
theorem junk_cells {s : SV} {v : Value} (h : SV.rel Z ρ s v) (hj : ∀ c ∈ s.cells, c ≠ .junk) (ht : ∀ c, s ≠ .tup c) (hl : ∀ c, s ≠ .lit (.tuple c)) : SV.rels Z ρ s.cells v.cells.toList :=
  rel_cells h (fun e => by subst e; exact hj .junk (by simp [SV.cells]) rfl) ht hl
theorem lays_cells {s : SV} {v : Value} (h : SV.rel Z ρ s v) (hl : s.lays = true) : SV.rels Z ρ s.cells v.cells.toList :=
  rel_cells h (fun e => by subst e; cases hl) (fun c e => by subst e; cases hl) (fun c e => by subst e; cases hl)
theorem fills_sound {place : Nat → Option (Nat × Nat)} (hS : HeldBy E ρ S a) : ∀ (parts : List (Nat × Operand)) (cs : List SV) (cells : Array Value) (out : List SV),
    SV.rels E.Z ρ cs cells.toList → fills S place cs parts = some out →
    ∃ r, Instr.fill place cells (parts.map fun (x : Nat × Operand) => (x.1, a.eval x.2)) = some r ∧ SV.rels E.Z ρ out r.toList
  | [], cs, cells, out, h, hf => by
    simp only [fills, Option.some.injEq] at hf; subst hf
    exact ⟨cells, rfl, h⟩
  | (i, x) :: parts, cs, cells, out, h, hf => by
    simp only [fills] at hf
    split at hf
    · rename_i off n hp
      split at hf
      · rename_i hb
        simp only [Bool.and_eq_true] at hb
        obtain ⟨⟨hl, h1⟩, h2⟩ := hb
        have hc := lays_cells (ev_rel hS x) hl
        have e1 := Nat.eq_of_beq_eq_true h1
        have e2 := Nat.le_of_ble_eq_true h2
        have l1 := rels_length hc
        have l2 := rels_length h
        simp only [Array.length_toList] at l1 l2
        have hsz : (a.eval x).cells.size = n := by omega
        have hset := setAll_list (a.eval x).cells.toList 0 off cells (by simp; omega)
        have hrel : SV.rels E.Z ρ (putAt cs off (ev S x).cells) (((a.eval x).cells.toList.zipIdx 0).foldl (fun cs (y : Value × Nat) => cs.setIfInBounds (off + y.2) y.1) cells).toList := by
          rw [hset]
          have := rels_put off h hc
          simpa using this
        obtain ⟨r, hr1, hr2⟩ := fills_sound hS parts _ _ out hrel hf
        refine ⟨r, ?_, hr2⟩
        simp only [List.map_cons, Instr.fill, hp]
        rw [if_neg (by simp [hsz]; omega)]
        rw [← hr1]
        congr 1
        rw [← Array.foldl_toList, Array.toList_zipIdx]
      · cases hf
    · cases hf
theorem zeros_sound {t : TypeId} {z : List SV} (h : zeros P t = some z) : ∃ v, (zeroValue t).run P w = .ok v w ∧ z = v.cells.toList.map .lit := by
  unfold zeros at h
  split at h
  · rename_i i hi
    split at h
    · rename_i v hv
      injection h with h
      exact ⟨v, by simp [zeroValue, typeInfo, hi, hv], h.symm⟩
    · cases h
  · cases h
theorem mapM_sizes (fs : Array Field) (hs : ∀ f ∈ fs.toList, ∃ i, P.info? f.type = some i) :
    ((fs.mapM fun f => do pure (f.offset, ← Go.sizeOf f.type) : Sem (Array (Nat × Nat)))).run P w = .ok (fs.map fun f => (f.offset, P.cellsOf f.type)) w := by
  rw [Array.mapM_eq_mapM_toList]
  have key : ∀ l : List Field, (∀ f ∈ l, ∃ i, P.info? f.type = some i) →
      ((l.mapM fun f => do pure (f.offset, ← Go.sizeOf f.type) : Sem (List (Nat × Nat)))).run P w = .ok (l.map fun f => (f.offset, P.cellsOf f.type)) w := by
    intro l hl
    induction l with
    | nil => simp
    | cons f l ih =>
      obtain ⟨i, hi⟩ := hl f (by simp)
      have := ih (fun g hg => hl g (by simp [hg]))
      simp only [List.mapM_cons, Sem.run_bind, Go.sizeOf, typeInfo, run_program, Result.andThen_ok, hi, Sem.run_pure, List.map_cons, Program.cellsOf, Option.map_some, Option.getD_some] at this ⊢
      rw [this]
      simp
  have := key fs.toList hs
  rw [Sem.run_map, this]
  simp only [Result.andThen_ok]
  congr 1
  apply Array.ext'
  simp
theorem xbuild_sound {t : TypeId} {ps : Array (Nat × Operand)} {Q : SV → Prop} (hS : HeldBy E ρ S a) (h : (xbuild P S t ps.toList).Leads Q) :
    Yields P E ρ (Instr.build t (ps.map fun (x : Nat × Operand) => (x.1, a.eval x.2))) w Q := by
  unfold xbuild at h
  split at h
  · rename_i fs z hu hz
    split at h
    case isFalse => exact h.elim
    rename_i hall
    obtain ⟨v, hv, rfl⟩ := zeros_sound (w := w) hz
    split at h
    · rename_i cs hf
      obtain ⟨r, h1, h2⟩ := fills_sound (E := E) hS _ _ v.cells _ (rels_lits _) hf
      have hm := mapM_sizes (P := P) (w := w) fs (fun f hf => by
        have := List.all_eq_true.1 hall f hf
        exact Option.isSome_iff_exists.1 this)
      refine ⟨.agg cs, .agg r, h, ?_, ?_⟩
      · have e : (ps.map fun (x : Nat × Operand) => (x.1, a.eval x.2)).toList = ps.toList.map fun (x : Nat × Operand) => (x.1, a.eval x.2) := by simp
        have e2 : (fun i : Nat => (fs.map fun f : Field => (f.offset, P.cellsOf f.type))[i]?) = fun i : Nat => (fs[i]?).map fun f : Field => (f.offset, P.cellsOf f.type) := by
          funext i; simp
        simp only [Instr.build, Sem.run_bind, hv, Result.andThen_ok, run_underlying hu, hm, e, e2, h1, Sem.run_pure]
      · simp only [SV.rel]; exact ⟨r.toList, by simp, h2⟩
    · exact h.elim
  · rename_i len e z hu hz
    obtain ⟨v, hv, rfl⟩ := zeros_sound (w := w) hz
    split at h
    · rename_i i hinfo
      split at h
      · rename_i cs hf
        obtain ⟨r, h1, h2⟩ := fills_sound (E := E) hS _ _ v.cells _ (rels_lits _) hf
        refine ⟨.agg cs, .agg r, h, ?_, ?_⟩
        · have e1 : (ps.map fun (x : Nat × Operand) => (x.1, a.eval x.2)).toList = ps.toList.map fun (x : Nat × Operand) => (x.1, a.eval x.2) := by simp
          simp only [Instr.build, Sem.run_bind, hv, Result.andThen_ok, run_underlying hu, Go.sizeOf, typeInfo, run_program, hinfo, Sem.run_pure, e1, h1]
        · simp only [SV.rel]; exact ⟨r.toList, by simp, h2⟩
      · exact h.elim
    · exact h.elim
  · exact h.elim
def Map.put (ρ : Map) (h : Nat) (x : Blk) : Map := fun k => if k = h then some x else ρ k
theorem Map.le_put {ρ : Map} {h : Nat} {x : Blk} (hf : ρ h = none) : Map.le ρ (ρ.put h x) := fun k y hk => by
  unfold Map.put
  split
  · rename_i e; subst e; rw [hf] at hk; cases hk
  · exact hk
theorem Map.put_same (ρ : Map) (h : Nat) (x : Blk) : ρ.put h x h = some x := by simp [Map.put]
def Made (E : Env) (ρ : Map) (H : Heap) (w : World) (sv : SV) (v : Value) (w' : World) : Option SO → Prop
  | none => w' = w ∧ SV.rel E.Z ρ sv v
  | some ob => ∃ arr et C, w' = w.alloc (.cells arr et) ∧ SV.rel E.Z (ρ.put H.length (.at w.heap.size C [])) sv v ∧ SO.rel E.Z (ρ.put H.length (.at w.heap.size C [])) w' H.length ob ∧ ob.live = true
theorem alloc_new (w : World) (o : Obj) : (w.alloc o).heap[w.heap.size]? = some o := heap_alloc_new w o
theorem reps_map {n : Nat} (hn : 0 < n) (l : Array Value) (hl : l.size = n) : ∀ len, (List.range (len * n)).map (fun i => l[i % n]!) = (List.replicate len l.toList).flatten
  | 0 => by simp
  | len + 1 => by
    rw [show (len + 1) * n = n + len * n by rw [Nat.add_mul]; omega, List.range_add, List.map_append, List.map_map, List.replicate_succ, List.flatten_cons, ← reps_map hn l hl len]
    congr 1
    · apply List.ext_getElem
      · simp [hl]
      · intro i h1 h2
        simp at h1
        have h3 : i < l.size := by omega
        simp [Nat.mod_eq_of_lt h1, h3]
    · apply List.map_congr_left
      intro i _
      simp [Nat.add_mod_left]
theorem reps_rels {z : List SV} {vs : List Value} (h : SV.rels Z ρ z vs) : ∀ n, SV.rels Z ρ (reps n z) (List.replicate n vs).flatten
  | 0 => by simp [reps, SV.rels]
  | n + 1 => by
    rw [List.replicate_succ, List.flatten_cons]
    exact rels_append h (reps_rels h n)
theorem take_sound : ∀ {t : Ty} {cs r : List SV} {x : t.den} {vs : List Value}, t.take cs = some (x, r) → SV.rels Z ρ cs vs → ∃ v1 v2, vs = v1 ++ v2 ∧ t.reads Z x v1 ∧ SV.rels Z ρ r v2
  | .int k, cs, r, x, vs, h, hr => by
    simp only [Ty.take] at h
    split at h
    · rename_i k' n r'
      split at h
      case isFalse => cases h
      rename_i hk; have := kindEq_eq hk; subst this
      injection h with h; injection h with h1 h2; subst h1; subst h2
      obtain ⟨v, vr, rfl, h1, h2⟩ := rels_head hr
      have := rel_lit h1; subst this
      exact ⟨[_], vr, rfl, by simp [Ty.reads], h2⟩
    · cases h
  | .bool, cs, r, x, vs, h, hr => by
    simp only [Ty.take] at h
    split at h
    · injection h with h; injection h with h1 h2; subst h1; subst h2
      obtain ⟨v, vr, rfl, h1, h2⟩ := rels_head hr
      have := rel_lit h1; subst this
      exact ⟨[_], vr, rfl, by simp [Ty.reads], h2⟩
    · cases h
  | .str, cs, r, x, vs, h, hr => by
    simp only [Ty.take] at h
    split at h
    · injection h with h; injection h with h1 h2; subst h1; subst h2
      obtain ⟨v, vr, rfl, h1, h2⟩ := rels_head hr
      have := rel_lit h1; subst this
      exact ⟨[_], vr, rfl, by simp [Ty.reads], h2⟩
    · cases h
  | .unit, cs, r, x, vs, h, hr => by
    simp only [Ty.take, Option.some.injEq, Prod.mk.injEq] at h
    obtain ⟨_, rfl⟩ := h
    exact ⟨[], vs, rfl, by simp [Ty.reads], hr⟩
  | .pair a b, cs, r, x, vs, h, hr => by
    simp only [Ty.take] at h
    split at h
    · rename_i x1 r1 h1
      split at h
      · rename_i y r2 h2
        injection h with h; injection h with e1 e2; subst e1; subst e2
        obtain ⟨v1, v2, rfl, g1, g2⟩ := take_sound h1 hr
        obtain ⟨v3, v4, rfl, g3, g4⟩ := take_sound h2 g2
        exact ⟨v1 ++ v3, v4, by simp, by simp only [Ty.reads]; exact ⟨v1, v3, rfl, g1, g3⟩, g4⟩
      · cases h
    · cases h
  | .imm t, cs, r, x, vs, h, hr => by
    simp only [Ty.take] at h
    split at h
    · rename_i u l r'
      split at h
      · rename_i e he
        obtain ⟨e⟩ := e
        subst e
        injection h with h; injection h with h1 h2; subst h1; subst h2
        obtain ⟨v, vr, rfl, h1, h2⟩ := rels_head hr
        simp only [SV.rel] at h1
        exact ⟨[v], vr, rfl, h1, h2⟩
      · cases h
    · injection h with h; injection h with h1 h2; subst h1; subst h2
      obtain ⟨v, vr, rfl, h1, h2⟩ := rels_head hr
      have := rel_lit h1; subst this
      exact ⟨[_], vr, rfl, by simp only [Ty.reads]; exact ⟨_, rfl, .inl (by simp)⟩, h2⟩
    · cases h
  | .opt t, cs, r, x, vs, h, hr => by
    simp only [Ty.take] at h
    split at h
    · rename_i y r' h1
      injection h with h; injection h with e1 e2; subst e1; subst e2
      obtain ⟨v1, v2, rfl, g1, g2⟩ := take_sound h1 hr
      exact ⟨v1, v2, rfl, by simp only [Ty.reads]; exact g1, g2⟩
    · cases h
theorem reads_length {t : Ty} {x : t.den} {vs : List Value} (h : t.reads Z x vs) : vs.length = t.width := by
  rw [rels_length (reads_iff (ρ := fun _ => none) |>.1 h), cells_length]
theorem takes_sound {t : Ty} : ∀ {n : Nat} {cs : List SV} {l : List t.den} {vs : List Value}, t.takes n cs = some l → SV.rels Z ρ cs vs →
    l.length = n ∧ vs.length = n * t.width ∧ t.lies Z l vs 0
  | 0, cs, l, vs, h, hr => by
    cases cs with
    | nil =>
      simp only [Ty.takes, Option.some.injEq] at h; subst h
      simp only [SV.rels] at hr; subst hr
      exact ⟨rfl, by simp, fun i hi => by simp at hi⟩
    | cons c cs => simp [Ty.takes] at h
  | n + 1, cs, l, vs, h, hr => by
    simp only [Ty.takes] at h
    split at h
    · rename_i x r h1
      split at h
      · rename_i l' h2
        injection h with h; subst h
        obtain ⟨v1, v2, rfl, g1, g2⟩ := take_sound h1 hr
        obtain ⟨e1, e2, e3⟩ := takes_sound h2 g2
        have hw := reads_length g1
        refine ⟨by simp [e1], by simp [hw, e2, Nat.add_mul]; omega, fun i hi => ?_⟩
        cases i with
        | zero => simpa [← hw] using g1
        | succ i =>
          have := e3 i (by simpa using hi)
          rw [Nat.zero_add] at this ⊢
          rw [show (i + 1) * t.width = v1.length + i * t.width by rw [hw, Nat.add_mul]; omega, ← List.drop_drop]
          simpa using this
      · cases h
    · cases h
theorem xbuildSlice_sound {t : TypeId} {n : Nat} {ps : Array (Nat × Operand)} {e : TypeId} {ty : Ty} {l : List ty.den} (hS : HeldBy E ρ S a)
    (h : xbuildSlice P S t n ps.toList = some (.row e ty l)) :
    ∃ v w', (Instr.buildSlice t n (ps.map fun (x : Nat × Operand) => (x.1, a.eval x.2))).run P w = .ok v w' ∧ Made E ρ H w (.sl H.length ty.width 0 n) v w' (some (.row e ty l)) := by
  unfold xbuildSlice at h
  split at h
  · rename_i e' hu
    split at h
    · rename_i ty' z hty hz
      dsimp only at h
      split at h
      case isFalse => cases h
      rename_i hb
      simp only [Bool.and_eq_true] at hb
      obtain ⟨⟨⟨hb1, hb2⟩, hb3⟩, hb4⟩ := hb
      have hsz := run_szIs (w := w) hb1
      have e2 := Nat.eq_of_beq_eq_true hb2
      have e3 := Nat.le_of_ble_eq_true hb3
      have e4 : 0 < ty'.width := Nat.lt_of_lt_of_le (Nat.zero_lt_succ 0) (Nat.le_of_ble_eq_true hb4)
      obtain ⟨v, hv, rfl⟩ := zeros_sound (w := w) hz
      split at h
      · rename_i cs hf
        split at h
        · rename_i l' hl
          injection h with h
          injection h with h1 h2 h3
          subst h1; subst h2; cases h3
          have hz0 : v.cells.size = ty'.width := by simpa using e2
          have hr0 : SV.rels E.Z ρ (reps n (v.cells.toList.map SV.lit)) ((Array.range (n * ty'.width)).map (v.cells[· % v.cells.size]!)).toList := by
            have h1 := reps_rels (Z := E.Z) (ρ := ρ) (rels_lits v.cells.toList) n
            have h2 := reps_map e4 v.cells hz0 n
            have h3 : ((Array.range (n * ty'.width)).map (v.cells[· % v.cells.size]!)).toList = (List.range (n * ty'.width)).map (fun i => v.cells[i % ty'.width]!) := by
              simp [hz0]
            rw [h3, h2]; exact h1
          obtain ⟨r, h1, h2⟩ := fills_sound (E := E) hS _ _ _ _ hr0 hf
          obtain ⟨g1, g2, g3⟩ := takes_sound hl h2
          refine ⟨.slice (some ⟨w.heap.size, 0, none⟩) n n, w.alloc (.cells r e'), ?_, ?_⟩
          · have hn0 : ¬ n * ty'.width > 2 ^ 24 := by omega
            have e5 : (ps.map fun (x : Nat × Operand) => (x.1, a.eval x.2)).toList = ps.toList.map fun (x : Nat × Operand) => (x.1, a.eval x.2) := by simp
            by_cases h0 : n * ty'.width = 0
            · have e6 : ((Array.range (n * ty'.width)).map ((#[] : Array Value)[· % (#[] : Array Value).size]!)) = (Array.range (n * ty'.width)).map (v.cells[· % v.cells.size]!) := by
                rw [h0]; simp
              simp only [Instr.buildSlice, Sem.run_bind, run_underlying hu, Result.andThen_ok, hsz, if_neg hn0, if_pos h0, e5, e6, h1, newRow, run_newObj, Sem.run_pure]
              rfl
            · simp only [Instr.buildSlice, Sem.run_bind, run_underlying hu, Result.andThen_ok, hsz, if_neg hn0, if_neg h0, hv, e5, h1, newRow, run_newObj, Sem.run_pure]
              rfl
          · refine ⟨r, e', n, rfl, ?_, ?_, rfl⟩
            · simp only [SV.rel]
              exact .inr ⟨w.heap.size, n, [], n, 0, Map.put_same _ _ _, rfl, by omega, Nat.le_refl _, .inr (by simp)⟩
            · simp only [SO.rel]
              refine .inr ⟨w.heap.size, n, r, Map.put_same _ _ _, alloc_new _ _, by simpa using g2, by omega, ?_, g3⟩
              have : n ≤ n * ty'.width := Nat.le_mul_of_pos_right _ e4
              unfold maxLen; omega
        · cases h
      · cases h
    · cases h
  · cases h
theorem ofCells_sound {t : Ty} {cs : List SV} {x : t.den} {vs : List Value} (h : t.ofCells cs = some x) (hr : SV.rels Z ρ cs vs) : t.reads Z x vs := by
  unfold Ty.ofCells at h
  split at h
  · rename_i y he
    injection h with h; subst h
    obtain ⟨v1, v2, rfl, h1, h2⟩ := take_sound he hr
    simp only [SV.rels] at h2; subst h2
    simpa using h1
  · cases h
theorem rels_set : ∀ {cs : List SV} {vs : List Value} {j : Nat} {s : SV} {v : Value}, SV.rels Z ρ cs vs → vs[j]? = some v → SV.rel Z ρ s v → SV.rels Z ρ (cs.set j s) vs
  | [], vs, j, s, v, h, hv, hs => by simpa using h
  | c :: cs, vs, j, s, v, h, hv, hs => by
    obtain ⟨u, r, rfl, h1, h2⟩ := rels_head h
    cases j with
    | zero =>
      simp at hv; subst hv
      exact rels_cons hs h2
    | succ j =>
      simp at hv
      exact rels_cons h1 (rels_set h2 hv hs)
theorem reads_slice {Z : Zone} {ρ : Map} {h wd off len : Nat} {et : TypeId} {ty : Ty} {L : List ty.den} {v : Value} {b C : Nat} {bs : List Nat} {vs : Array Value} (hr : SV.rel Z ρ (.sl h wd off len) v) (hb : ρ h = some (.at b C bs)) (hw : wd = ty.width)
    (hZ : Z b = some (.cells vs et (0, 0))) (hl : ty.lies Z L vs.toList 0) (hn : off + len ≤ L.length) : SV.rel Z ρ (.imm ty ((L.drop off).take len)) v := by
  have hlen : ((L.drop off).take len).length = len := by rw [List.length_take, List.length_drop]; omega
  simp only [SV.rel] at hr ⊢
  rcases hr with ⟨h1, _⟩ | ⟨b', C', bs', cap, o, h1, h2, h3, h4, h5⟩
  · rw [hb] at h1; cases h1
  · rw [hb] at h1; injection h1 with h1; injection h1 with h1 h1'; subst h1
    refine ⟨v, rfl, ?_⟩
    by_cases hc : cap = 0
    · have : len = 0 := by omega
      refine .inr (.inr ⟨List.eq_nil_of_length_eq_zero (by omega), ⟨b, o, none⟩, cap, ?_⟩)
      rw [h2, this]
    · have ho : o = off * wd := h5.resolve_left hc
      refine .inr (.inl ⟨b, o, cap, vs, et, (0, 0), by rw [hlen]; exact h2, by omega, hZ, fun i hi => ?_⟩)
      have hi' : off + i < L.length := by omega
      have := hl (off + i) hi'
      have e1 : ((L.drop off).take len)[i] = L[off + i] := by simp
      rw [e1, ho, hw]
      have e2 : 0 + (off + i) * ty.width = off * ty.width + i * ty.width := by rw [Nat.zero_add, Nat.add_mul]
      rw [← e2]; exact this
theorem take_drop : ∀ {t : Ty} {cs r : List SV} {x : t.den}, t.take cs = some (x, r) → r = cs.drop t.width ∧ t.width ≤ cs.length
  | .int k, cs, r, x, h => by
    simp only [Ty.take] at h
    split at h
    · split at h
      · injection h with h; injection h with h1 h2; subst h2; exact ⟨rfl, by simp [Ty.width]⟩
      · cases h
    · cases h
  | .bool, cs, r, x, h => by
    simp only [Ty.take] at h
    split at h
    · injection h with h; injection h with h1 h2; subst h2; exact ⟨rfl, by simp [Ty.width]⟩
    · cases h
  | .str, cs, r, x, h => by
    simp only [Ty.take] at h
    split at h
    · injection h with h; injection h with h1 h2; subst h2; exact ⟨rfl, by simp [Ty.width]⟩
    · cases h
  | .unit, cs, r, x, h => by
    simp only [Ty.take, Option.some.injEq, Prod.mk.injEq] at h
    obtain ⟨_, rfl⟩ := h
    exact ⟨rfl, by simp [Ty.width]⟩
  | .pair a b, cs, r, x, h => by
    simp only [Ty.take] at h
    split at h
    · rename_i x1 r1 h1
      split at h
      · rename_i y r2 h2
        injection h with h; injection h with e1 e2; subst e1; subst e2
        obtain ⟨g1, g2⟩ := take_drop h1
        obtain ⟨g3, g4⟩ := take_drop h2
        subst g1
        rw [List.length_drop] at g4
        exact ⟨by rw [g3, List.drop_drop, Ty.width], by rw [Ty.width]; omega⟩
      · cases h
    · cases h
  | .imm t, cs, r, x, h => by
    simp only [Ty.take] at h
    split at h
    · split at h
      · injection h with h; injection h with h1 h2; subst h2; exact ⟨rfl, by simp [Ty.width]⟩
      · cases h
    · injection h with h; injection h with h1 h2; subst h2; exact ⟨rfl, by simp [Ty.width]⟩
    · cases h
  | .opt t, cs, r, x, h => by
    simp only [Ty.take] at h
    split at h
    · rename_i y r' h1
      injection h with h; injection h with e1 e2; subst e2
      have := take_drop (t := t) h1
      exact this
    · cases h
theorem take_col : ∀ {t : Ty} {c : Col t} {cs r : List SV} {x : t.den}, t.take cs = some (x, r) → t.col = some c → (cs[c.j]? = some (.lit (.slice none 0 0)) → c.f x = []) ∧ ∀ l, cs[c.j]? = some (.imm c.u l) → c.f x = l
  | .imm u, c, cs, r, x, h, hc => by
    simp only [Ty.col, Option.some.injEq] at hc; subst hc
    simp only [Ty.take] at h
    split at h
    · rename_i u' l' r'
      split at h
      · rename_i e he
        obtain ⟨e⟩ := e
        subst e
        injection h with h; injection h with h1 h2; subst h1
        refine ⟨fun e => by simp at e, fun l e => ?_⟩
        simp at e
        exact e
      · cases h
    · injection h with h; injection h with h1 h2; subst h1
      exact ⟨fun _ => rfl, fun l e => by simp at e⟩
    · cases h
  | .pair a b, c, cs, r, x, h, hc => by
    simp only [Ty.take] at h
    split at h
    case h_2 => cases h
    rename_i x1 r1 h1
    split at h
    case h_2 => cases h
    rename_i y r2 h2
    injection h with h; injection h with e1 e2; subst e1; subst e2
    simp only [Ty.col] at hc
    split at hc
    · rename_i d hd
      injection hc with hc; subst hc
      have := take_col (t := a) h1 hd
      exact this
    · split at hc
      · rename_i d hd
        injection hc with hc; subst hc
        obtain ⟨g1, g2⟩ := take_drop h1
        have := take_col (t := b) h2 hd
        rw [g1, List.getElem?_drop] at this
        exact this
      · cases hc
  | .int _, _, _, _, _, _, h => by cases h
  | .bool, _, _, _, _, _, h => by cases h
  | .str, _, _, _, _, _, h => by cases h
  | .unit, _, _, _, _, _, h => by cases h
  | .opt _, _, _, _, _, _, h => by cases h
theorem ofCells_col {t : Ty} {c : Col t} {cs : List SV} {x : t.den} (h : t.ofCells cs = some x) (hc : t.col = some c) : (cs[c.j]? = some (.lit (.slice none 0 0)) → c.f x = []) ∧ ∀ l, cs[c.j]? = some (.imm c.u l) → c.f x = l := by
  unfold Ty.ofCells at h
  split at h
  · rename_i y he
    injection h with h; subst h
    exact take_col he hc
  · cases h
theorem run_buildOne {t e : TypeId} {n : Nat} {z : List SV} {v : Value} (hu : P.underlying t = some (.slice e)) (hsz : szIs P e n = true) (hz : zeros P e = some z) (hzl : z.length = n) (hn : 0 < n ∧ n ≤ 16777216) (hv : v.cells.size = n) :
    (Instr.buildSlice t 1 #[(0, v)]).run P w = .ok (.slice (some ⟨w.heap.size, 0, none⟩) 1 1) (w.alloc (.cells v.cells e)) := by
  have hsz := run_szIs (w := w) hsz
  obtain ⟨zv, hzv, rfl⟩ := zeros_sound (w := w) hz
  have hz0 : zv.cells.size = n := by simpa using hzl
  have hn0 : ¬ 1 * n > 2 ^ 24 := by omega
  have h0 : ¬ 1 * n = 0 := by omega
  have hfill : Instr.fill (fun i => some (i * n, n)) ((Array.range (1 * n)).map (zv.cells[· % zv.cells.size]!)) [(0, v)] = some v.cells := by
    simp only [Instr.fill, hv]
    rw [if_neg (by simp)]
    congr 1
    apply Array.ext'
    have hset := setAll_list v.cells.toList 0 (0 * n) ((Array.range (1 * n)).map (zv.cells[· % zv.cells.size]!)) (by simp [hv])
    rw [← Array.foldl_toList, Array.toList_zipIdx]
    have e : (List.foldl (fun cs x => cs.setIfInBounds (0 * n + x.snd) x.fst) (Array.map (fun x => zv.cells[x % zv.cells.size]!) (Array.range (1 * n))) (v.cells.toList.zipIdx 0)).toList = v.cells.toList := by
      rw [hset, Nat.zero_mul, Nat.zero_add, List.take_zero, List.nil_append, List.drop_eq_nil_of_le (by simp [hv]), List.append_nil]
    exact e
  simp only [Instr.buildSlice, Sem.run_bind, run_underlying hu, Result.andThen_ok, hsz, if_neg hn0, if_neg h0, hzv, hfill, newRow, run_newObj, Sem.run_pure]
  rfl
theorem xbuildP_sound {t : TypeId} {n : Nat} {ps : Array (Nat × Operand)} {Q : SV × Option SO → Prop} (hs : Sat E ρ H w) (hS : HeldBy E ρ S a) (h : (xbuildP P S H t n ps.toList).Leads Q) :
    ∃ sv on v w', Q (sv, on) ∧ (Instr.buildSlice t n (ps.map fun (x : Nat × Operand) => (x.1, a.eval x.2))).run P w = .ok v w' ∧ Made E ρ H w sv v w' on := by
  unfold xbuildP at h
  split at h
  case h_2 => exact h.elim
  rename_i e x hu hps
  obtain rfl : ps = #[(0, x)] := by apply Array.ext'; simpa using hps
  split at h
  case h_2 => exact h.elim
  rename_i cs hcs
  split at h
  case h_2 => exact h.elim
  rename_i ty z hty hz
  split at h
  case h_2 => exact h.elim
  rename_i c hc
  split at h
  case isFalse => exact h.elim
  rename_i hb
  simp only [Bool.and_eq_true] at hb
  obtain ⟨hsz, b1, b2, b3, b4⟩ := hb
  have hz1 := Nat.eq_of_beq_eq_true b1
  have hcl := Nat.eq_of_beq_eq_true b2
  have hw1 := Nat.le_of_ble_eq_true b3
  have hw0 : 0 < ty.width := Nat.lt_of_lt_of_le (Nat.zero_lt_succ 0) (Nat.le_of_ble_eq_true b4)
  have hcj := col_lt hc
  split at h
  case h_2 => exact h.elim
  rename_i g wd len hcell
  split at h
  case h_2 => exact h.elim
  rename_i e2 u M ho
  split at h
  case h_2 => exact h.elim
  rename_i q y hq hy
  obtain ⟨q⟩ := q
  subst q
  split at h
  case isFalse => exact h.elim
  rename_i hwd
  have := Nat.eq_of_beq_eq_true hwd
  subst this
  obtain ⟨hlen, h⟩ := h
  have hv := ev_rel hS x
  rw [hcs] at hv
  simp only [SV.rel] at hv
  obtain ⟨vs, hev, hr⟩ := hv
  have hvl := rels_length hr
  have hcells : (Value.agg vs.toArray).cells = vs.toArray := rfl
  have hrun := run_buildOne (P := P) (w := w) (v := .agg vs.toArray) hu hsz hz hz1 ⟨hw0, hw1⟩ (by rw [hcells]; simp; omega)
  rw [hcells] at hrun
  have hmax : 1 ≤ maxLen := by unfold maxLen; omega
  obtain ⟨v0, hv0, hr0⟩ := rels_get hr hcell
  have hf := (ofCells_col hy hc).2 (M.take len) (by rw [List.getElem?_set_self (by omega)])
  have hlt : (M.take len).length = len := by rw [List.length_take]; omega
  have himm : SV.rel E.Z ρ (.imm c.u (M.take len)) v0 := by
    have hob := hs.objs _ _ ho
    simp only [SO.rel] at hob
    rcases hob with ⟨h1, h2⟩ | ⟨b, C, bs, ws, h1, h2, h3, h4, h5, h6, h7⟩
    · have hr1 := hr0
      simp only [SV.rel] at hr1
      rcases hr1 with ⟨_, _, g3, rfl⟩ | ⟨b, C, bs, cap, o, g1, _⟩
      · simp only [SV.rel, Ty.reads]
        exact ⟨_, rfl, .inl ⟨by rw [g3, List.take_zero], rfl⟩⟩
      · rw [h1] at g1; cases g1
    · have := reads_slice hr0 h1 rfl h2 h6 (by omega : 0 + len ≤ M.length)
      rwa [List.drop_zero] at this
  have hle := Map.le_put (x := .at w.heap.size 1 []) (hs.free _ (Nat.le_refl _))
  refine ⟨_, _, .slice (some ⟨w.heap.size, 0, none⟩) 1 1, w.alloc (.cells vs.toArray e), h, ?_, vs.toArray, e, 1, rfl, ?_, ?_, rfl⟩
  · have e1 : (#[((0 : Nat), x)].map fun (x : Nat × Operand) => (x.1, a.eval x.2)) = #[(0, .agg vs.toArray)] := by simp [hev]
    rw [e1]; exact hrun
  · simp only [SV.rel]; exact .inr ⟨_, 1, _, 1, 0, Map.put_same _ _ _, rfl, by omega, by omega, .inr (by simp)⟩
  · simp only [SO.rel]
    refine ⟨c, w.heap.size, vs.toArray, v0, hc, Map.put_same _ _ _, alloc_new _ _, by simp; omega, ?_, by simpa using hv0, by rw [hf, hlt], SV.rel_mono hle hr0⟩
    have := ofCells_sound (ρ := ρ) (Z := E.Z) hy (rels_set hr hv0 himm)
    simpa using this
theorem args_map (a : Act) (args : Array Operand) : args.map a.eval = (args.toList.map a.eval).toArray := by apply Array.ext'; simp
theorem sliceAt_eq {t : TypeId} {x : SV} {vx : Value} {lo hi : Option Operand} {l h m : Option Value} {Q : SV → Prop} (hq : (xslice P H S t x lo hi).Leads Q) :
    (Instr.sliceAt t vx l h m).run P w = (Instr.slice t vx l h m).run P w := by
  unfold xslice at hq
  split at hq
  · rename_i hu; simp [Instr.sliceAt, run_underlying hu]
  · rename_i hu; simp [Instr.sliceAt, run_underlying hu]
  · rename_i hu; simp [Instr.sliceAt, run_underlying hu]
  · exact hq.elim
theorem sliceAt_eq3 {t : TypeId} {x : SV} {vx : Value} {lo : Option Operand} {hi mx : Operand} {l h m : Option Value} {Q : SV → Prop} (hq : (xslice3 P H S t x lo hi mx).Leads Q) :
    (Instr.sliceAt t vx l h m).run P w = (Instr.slice t vx l h m).run P w := by
  unfold xslice3 at hq
  split at hq
  · rename_i hu; simp [Instr.sliceAt, run_underlying hu]
  · exact hq.elim
theorem xval_sound {o : Oper} {Q : SV × Option SO → Prop} (hs : Sat E ρ H w) (hS : HeldBy E ρ S a) (h : (xval P S H o.op).Leads Q) :
    ∃ sv on v w', Q (sv, on) ∧ (execOp a.eval o).run P w = .ok (.value v) w' ∧ Made E ρ H w sv v w' on := by
  have plain : ∀ {s : Sem Value} {x : Tree SV}, (ofTree x).Leads Q → (∀ R : SV → Prop, x.Leads R → Yields P E ρ s w R) → (execOp a.eval o = do pure (.value (← s))) →
      ∃ sv on v w', Q (sv, on) ∧ (execOp a.eval o).run P w = .ok (.value v) w' ∧ Made E ρ H w sv v w' on := by
    intro s x hx hy he
    unfold ofTree at hx
    rw [Tree.leads_bind] at hx
    obtain ⟨sv, v, hq, hr, hrel⟩ := hy _ hx
    refine ⟨sv, none, v, w, hq, ?_, rfl, hrel⟩
    rw [he]; simp [hr]
  obtain ⟨dst, op, ty, pos, after, guard⟩ := o
  dsimp only at h
  unfold xval at h
  split at h
  · rename_i x
    exact ⟨_, _, _, w, h, by simp [execOp], rfl, ev_rel hS x⟩
  · rename_i x
    exact ⟨_, _, _, w, h, by simp [execOp], rfl, ev_rel hS x⟩
  · rename_i c x y
    split at h
    · rename_i t hc
      have e := rel_unlit (ev_rel hS c) hc
      cases t
      · exact ⟨ev S y, none, a.eval y, w, h, by simp [execOp, e, asBool], rfl, ev_rel hS y⟩
      · exact ⟨ev S x, none, a.eval x, w, h, by simp [execOp, e, asBool], rfl, ev_rel hS x⟩
    · exact h.elim
  · rename_i t
    split at h
    · rename_i z hz
      obtain ⟨v, hv, rfl⟩ := zeros_sound (w := w) hz
      refine ⟨_, _, .pointer (some ⟨w.heap.size, 0, none⟩), w.alloc (.cells v.cells t), h, ?_, v.cells, t, 0, rfl, ?_, ?_, rfl⟩
      · simp [execOp, Instr.alloc, hv, newVar, newRow]
      · simp only [SV.rel]; exact ⟨_, _, _, Map.put_same _ _ _, rfl⟩
      · simp only [SO.rel]; exact ⟨_, _, _, Map.put_same _ _ _, alloc_new _ _, rels_lits _⟩
    · exact h.elim
  · rename_i t x
    split at h
    case isFalse => exact h.elim
    rename_i hl
    refine ⟨_, _, .pointer (some ⟨w.heap.size, 0, none⟩), w.alloc (.cells (a.eval x).cells t), h, ?_, (a.eval x).cells, t, 0, rfl, ?_, ?_, rfl⟩
    · simp [execOp, Instr.box, newVar, newRow]
    · simp only [SV.rel]; exact ⟨_, _, _, Map.put_same _ _ _, rfl⟩
    · simp only [SO.rel]
      exact ⟨_, _, _, Map.put_same _ _ _, alloc_new _ _, SV.rels_mono (Map.le_put (hs.free _ (Nat.le_refl _))) (lays_cells (ev_rel hS x) hl)⟩
  · exact plain h (fun R hr => xbuild_sound hS hr) rfl
  · split at h
    · rename_i e ty l hb
      obtain ⟨v, w', hr, hm⟩ := xbuildSlice_sound (P := P) (w := w) hS hb
      exact ⟨_, _, v, w', h, by simp [execOp, hr], hm⟩
    · obtain ⟨sv, on, v, w', hq, hr, hm⟩ := xbuildP_sound (P := P) (w := w) hs hS h
      exact ⟨_, _, v, w', hq, by simp [execOp, hr], hm⟩
  · exact plain h (fun R hr => xload_sound hs (ev_rel hS _) hr) rfl
  · rename_i x
    unfold ofTree at h
    rw [Tree.leads_bind] at h
    obtain ⟨sv, hq, hrel, ad, hv⟩ := xnil_sound (ev_rel hS x) h
    refine ⟨sv, none, a.eval x, w, hq, ?_, rfl, hrel⟩
    simp [execOp, hv]
  · exact plain h (fun R hr => xbin_sound (ev_rel hS _) (ev_rel hS _) hr) rfl
  · exact plain h (fun R hr => xun_sound (ev_rel hS _) hr) rfl
  · exact plain h (fun R hr => xconv_sound hs (ev_rel hS _) hr) rfl
  · rename_i t x lo hi
    refine plain h (fun R hr => ?_) rfl
    obtain ⟨sv, v, h1, h2, h3⟩ := xslice_sound hs hS (ev_rel hS x) hr
    exact ⟨sv, v, h1, (sliceAt_eq hr).trans h2, h3⟩
  · rename_i t x lo hi mx
    refine plain h (fun R hr => ?_) rfl
    obtain ⟨sv, v, h1, h2, h3⟩ := xslice3_sound hs hS (ev_rel hS x) hr
    exact ⟨sv, v, h1, (sliceAt_eq3 hr).trans h2, h3⟩
  · exact plain h (fun R hr => xfieldAddr_sound (ev_rel hS _) hr) rfl
  · exact plain h (fun R hr => xfield_sound (ev_rel hS _) hr) rfl
  · exact plain h (fun R hr => xindexAddr_sound (ev_rel hS _) (ev_rel hS _) hr) rfl
  · exact plain h (fun R hr => xindex_sound (ev_rel hS _) (ev_rel hS _) hr) rfl
  · exact plain h (fun R hr => xextract_sound (ev_rel hS _) hr) rfl
  · rename_i f first cap
    split at h
    case isFalse => exact h.elim
    rename_i hcap
    obtain rfl : cap = #[] := Array.isEmpty_iff.1 hcap
    refine ⟨_, none, .func f (first.toList.map a.eval).toArray #[], w, h, ?_, rfl, ?_⟩
    · have e : first.map a.eval = (first.toList.map a.eval).toArray := by apply Array.ext'; simp
      simp [execOp, Instr.makeFunc, e]
    · simp only [SV.rel]
      refine ⟨_, rfl, ?_⟩
      induction first.toList with
      | nil => simp [SV.rels]
      | cons x l ih => exact rels_cons (ev_rel hS x) ih
  · rename_i args argTypes
    split at h
    · rename_i x t he1 he2
      obtain rfl : args = #[x] := by apply Array.ext'; simpa using he1
      obtain rfl : argTypes = #[t] := by apply Array.ext'; simpa using he2
      exact plain h (fun R hr => xlen_sound (ty := ty) (ev_rel hS x) hr) (by simp [execOp, resolve, invoke, builtin])
    · exact h.elim
  · rename_i args argTypes
    have hr : SV.rels E.Z ρ (args.toList.map (ev S)) (args.toList.map a.eval) := by
      induction args.toList with
      | nil => simp [SV.rels]
      | cons x l ih => exact rels_cons (ev_rel hS x) ih
    exact plain h (fun R hq => xmin_sound (ts := argTypes) (ty := ty) hr hq) (by rw [← args_map]; simp [execOp, resolve, invoke, builtin])
  · rename_i args argTypes
    have hr : SV.rels E.Z ρ (args.toList.map (ev S)) (args.toList.map a.eval) := by
      induction args.toList with
      | nil => simp [SV.rels]
      | cons x l ih => exact rels_cons (ev_rel hS x) ih
    exact plain h (fun R hq => xmax_sound (ts := argTypes) (ty := ty) hr hq) (by rw [← args_map]; simp [execOp, resolve, invoke, builtin])
  · exact h.elim
end Sx
