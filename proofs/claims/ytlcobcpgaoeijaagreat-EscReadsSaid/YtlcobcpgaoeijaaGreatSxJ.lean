/- A part of the blocks, under new handles. -/
import Derived.Test.YtlcobcpgaoeijaaGreatSxIm
set_option linter.unusedVariables false
set_option linter.unusedSimpArgs false
namespace Sx
open Go
variable {P : Program} {E : Env} {ρ : Map} {S : Slots} {H : Heap} {a : Act} {w w' : World} {Z : Zone}
mutual
def SV.handles : SV → List Nat
  | .ptr h _ => [h]
  | .ept h _ _ _ => [h]
  | .sl h _ _ _ => [h]
  | .agg cs => SV.handless cs
  | .tup cs => SV.handless cs
  | .fn _ cs => SV.handless cs
  | .mp h => [h]
  | .tref h _ => [h]
  | .kseq _ _ h => [h]
  | _ => []
def SV.handless : List SV → List Nat
  | [] => []
  | s :: ss => SV.handles s ++ SV.handless ss
end
def SO.handles : Option SO → List Nat
  | some (.cells _ cs) => SV.handless cs
  | some (.lists _ _ _ _ _ (some (k, _)) _) => [k]
  | some (.alias h _) => [h]
  | some (.prow _ _ _ _ g _) => [g]
  | some (.dview _ _ _ _ g _ none) => [g]
  | some (.dview _ _ _ _ g _ (some (k, _))) => [g, k]
  | _ => []
def memN (x : Nat) : List Nat → Bool
  | [] => false
  | y :: r => if Nat.beq x y then true else memN x r
def reach (H : Heap) : Nat → List Nat → List Nat → List Nat
  | 0, _, acc => acc
  | _ + 1, [], acc => acc
  | n + 1, h :: r, acc => if memN h acc then reach H n r acc else reach H n (SO.handles H[h]? ++ r) (acc ++ [h])
def dedupe : List Nat → List Nat → List Nat
  | [], acc => acc
  | h :: r, acc => if memN h acc then dedupe r acc else dedupe r (acc ++ [h])
def kids (H : Heap) : List Nat → List Nat
  | [] => []
  | h :: r => SO.handles H[h]? ++ kids H r
def order (H : Heap) (roots more : List Nat) : List Nat := let r := dedupe roots []; reach H 4000 (kids H r ++ more) r
def place.go (h : Nat) : List Nat → Nat → Option Nat
  | [], _ => none
  | x :: r, i => if Nat.beq x h then some i else place.go h r (i + 1)
def place (σ : List Nat) (h : Nat) : Option Nat := place.go h σ 0
theorem place_go {h : Nat} : ∀ {σ : List Nat} {i k : Nat}, place.go h σ i = some k → ∃ j, k = i + j ∧ σ[j]? = some h
  | [], _, _, e => by simp [place.go] at e
  | x :: r, i, k, e => by
    simp only [place.go] at e
    split at e
    · rename_i hx
      injection e with e; subst e
      have := Nat.eq_of_beq_eq_true hx; subst this
      exact ⟨0, rfl, rfl⟩
    · obtain ⟨j, h1, h2⟩ := place_go e
      exact ⟨j + 1, by omega, by simpa using h2⟩
theorem place_some {σ : List Nat} {h k : Nat} (e : place σ h = some k) : σ[k]? = some h := by
  obtain ⟨j, h1, h2⟩ := place_go e
  rw [show k = j by omega]; exact h2
mutual
def SV.ren (f : Nat → Option Nat) : SV → Option SV
  | .ptr h o => match f h with | some k => some (.ptr k o) | none => none
  | .ept h wd i j => match f h with | some k => some (.ept k wd i j) | none => none
  | .sl h wd o l => match f h with | some k => some (.sl k wd o l) | none => none
  | .agg cs => match SV.rens f cs with | some cs => some (.agg cs) | none => none
  | .tup cs => match SV.rens f cs with | some cs => some (.tup cs) | none => none
  | .fn g cs => match SV.rens f cs with | some cs => some (.fn g cs) | none => none
  | .mp h => match f h with | some k => some (.mp k) | none => none
  | .tref h i => match f h with | some k => some (.tref k i) | none => none
  | .kseq g mt h => match f h with | some k => some (.kseq g mt k) | none => none
  | s => some s
def SV.rens (f : Nat → Option Nat) : List SV → Option (List SV)
  | [] => some []
  | s :: ss => match SV.ren f s with
    | some s' => match SV.rens f ss with
      | some ss' => some (s' :: ss')
      | none => none
    | none => none
end
def SO.ren (f : Nat → Option Nat) : SO → Option SO
  | .cells et cs => match SV.rens f cs with | some cs => some (.cells et cs) | none => none
  | .lists et e2 t A B (some (k, n)) D => match f k with | some k' => some (.lists et e2 t A B (some (k', n)) D) | none => none
  | .alias h i => match f h with | some k => some (.alias k i) | none => none
  | .prow et e2 t x g n => match f g with | some g' => some (.prow et e2 t x g' n) | none => none
  | .dview et e2 t l g j none => match f g with | some g' => some (.dview et e2 t l g' j none) | none => none
  | .dview et e2 t l g j (some (k, n)) => match f g with
    | some g' => match f k with | some k' => some (.dview et e2 t l g' j (some (k', n))) | none => none
    | none => none
  | o => some o
mutual
theorem SV.rel_ren {f : Nat → Option Nat} {ρ' : Map} (hf : ∀ h k, f h = some k → ∀ x, ρ h = some x → ρ' k = some x) : ∀ {s s' : SV} {v : Value}, SV.ren f s = some s' → SV.rel Z ρ s v → SV.rel Z ρ' s' v
  | .lit x, s', v, e, h => by simp only [SV.ren, Option.some.injEq] at e; subst e; simpa only [SV.rel] using h
  | .ptr h o, s', v, e, hr => by
    simp only [SV.ren] at e
    split at e
    · rename_i k hk
      injection e with e; subst e
      simp only [SV.rel] at *
      obtain ⟨b, C, bs, h1, h2⟩ := hr
      exact ⟨b, C, bs, hf _ _ hk _ h1, h2⟩
    · cases e
  | .ept h wd i j, s', v, e, hr => by
    simp only [SV.ren] at e
    split at e
    · rename_i k hk
      injection e with e; subst e
      simp only [SV.rel] at *
      obtain ⟨b, C, bs, h1, h2⟩ := hr
      exact ⟨b, C, bs, hf _ _ hk _ h1, h2⟩
    · cases e
  | .sl h wd o l, s', v, e, hr => by
    simp only [SV.ren] at e
    split at e
    · rename_i k hk
      injection e with e; subst e
      simp only [SV.rel] at *
      rcases hr with ⟨h1, h2⟩ | ⟨b, C, bs, cap, o', h1, h2⟩
      · exact .inl ⟨hf _ _ hk _ h1, h2⟩
      · exact .inr ⟨b, C, bs, cap, o', hf _ _ hk _ h1, h2⟩
    · cases e
  | .mp h, s', v, e, hr => by
    simp only [SV.ren] at e
    split at e
    · rename_i k hk
      injection e with e; subst e
      simp only [SV.rel] at *
      obtain ⟨b, C, bs, h1, h2⟩ := hr
      exact ⟨b, C, bs, hf _ _ hk _ h1, h2⟩
    · cases e
  | .tref h i, s', v, e, hr => by
    simp only [SV.ren] at e
    split at e
    · rename_i k hk
      injection e with e; subst e
      simp only [SV.rel] at *
      obtain ⟨b, C, bs, k', h1, h2⟩ := hr
      exact ⟨b, C, bs, k', hf _ _ hk _ h1, h2⟩
    · cases e
  | .kseq g mt h, s', v, e, hr => by
    simp only [SV.ren] at e
    split at e
    · rename_i k hk
      injection e with e; subst e
      simp only [SV.rel] at *
      obtain ⟨b, C, bs, k', fz, h1, h2⟩ := hr
      exact ⟨b, C, bs, k', fz, hf _ _ hk _ h1, h2⟩
    · cases e
  | .imm t l, s', v, e, h => by simp only [SV.ren, Option.some.injEq] at e; subst e; simpa only [SV.rel] using h
  | .ipt t l i j, s', v, e, h => by simp only [SV.ren, Option.some.injEq] at e; subst e; simpa only [SV.rel] using h
  | .junk, s', v, e, h => by simp only [SV.ren, Option.some.injEq] at e; subst e; simp only [SV.rel]
  | .agg cs, s', v, e, hr => by
    simp only [SV.ren] at e
    split at e
    · rename_i cs' hk
      injection e with e; subst e
      simp only [SV.rel] at *
      obtain ⟨vs, h1, h2⟩ := hr
      exact ⟨vs, h1, SV.rels_ren hf hk h2⟩
    · cases e
  | .tup cs, s', v, e, hr => by
    simp only [SV.ren] at e
    split at e
    · rename_i cs' hk
      injection e with e; subst e
      simp only [SV.rel] at *
      obtain ⟨vs, h1, h2⟩ := hr
      exact ⟨vs, h1, SV.rels_ren hf hk h2⟩
    · cases e
  | .fn g cs, s', v, e, hr => by
    simp only [SV.ren] at e
    split at e
    · rename_i cs' hk
      injection e with e; subst e
      simp only [SV.rel] at *
      obtain ⟨vs, h1, h2⟩ := hr
      exact ⟨vs, h1, SV.rels_ren hf hk h2⟩
    · cases e
theorem SV.rels_ren {f : Nat → Option Nat} {ρ' : Map} (hf : ∀ h k, f h = some k → ∀ x, ρ h = some x → ρ' k = some x) : ∀ {s s' : List SV} {v : List Value}, SV.rens f s = some s' → SV.rels Z ρ s v → SV.rels Z ρ' s' v
  | [], s', v, e, h => by simp only [SV.rens, Option.some.injEq] at e; subst e; simpa only [SV.rels] using h
  | s :: ss, s', v, e, h => by
    simp only [SV.rens] at e
    split at e
    · rename_i t ht
      split at e
      · rename_i ts hts
        injection e with e; subst e
        simp only [SV.rels] at *
        obtain ⟨u, r, h1, h2, h3⟩ := h
        exact ⟨u, r, h1, SV.rel_ren hf ht h2, SV.rels_ren hf hts h3⟩
      · cases e
    · cases e
end
theorem SO.rel_ren {f : Nat → Option Nat} {ρ' : Map} (hf : ∀ h k, f h = some k → ∀ x, ρ h = some x → ρ' k = some x) {o o' : SO} {h k : Nat} (hk : ∀ x, ρ h = some x → ρ' k = some x)
    (e : SO.ren f o = some o') (hr : SO.rel Z ρ w h o) : SO.rel Z ρ' w k o' := by
  cases o with
  | cells et cs =>
    simp only [SO.ren] at e
    split at e
    · rename_i cs' hcs
      injection e with e; subst e
      simp only [SO.rel] at *
      obtain ⟨b, C, vs, h1, h2, h3⟩ := hr
      exact ⟨b, C, vs, hk _ h1, h2, SV.rels_ren hf hcs h3⟩
    · cases e
  | row et t l =>
    simp only [SO.ren, Option.some.injEq] at e; subst e
    simp only [SO.rel] at *
    rcases hr with ⟨h1, h2⟩ | ⟨b, C, vs, h1, h2⟩
    · exact .inl ⟨hk _ h1, h2⟩
    · exact .inr ⟨b, C, vs, hk _ h1, h2⟩
  | dead => simp only [SO.ren, Option.some.injEq] at e; subst e; trivial
  | view et t l =>
    simp only [SO.ren, Option.some.injEq] at e; subst e
    simp only [SO.rel] at *
    rcases hr with ⟨h1, h2⟩ | ⟨b, C, bs, vs, h1, h2⟩
    · exact .inl ⟨hk _ h1, h2⟩
    · exact .inr ⟨b, C, bs, vs, hk _ h1, h2⟩
  | kept et e2 t l =>
    simp only [SO.ren, Option.some.injEq] at e; subst e
    simp only [SO.rel] at *
    rcases hr with ⟨h1, h2⟩ | ⟨b, C, bs, vs, us, h1, h2⟩
    · exact .inl ⟨hk _ h1, h2⟩
    · exact .inr ⟨b, C, bs, vs, us, hk _ h1, h2⟩
  | lists et e2 t A B x D =>
    cases x with
    | none =>
      simp only [SO.ren, Option.some.injEq] at e; subst e
      simp only [SO.rel] at *
      rcases hr with ⟨h1, h2⟩ | ⟨b, C, ps, ds, vs, ua, ub, ux, ud, rest, g1, g2⟩
      · exact .inl ⟨hk _ h1, h2⟩
      · exact .inr ⟨b, C, ps, ds, vs, ua, ub, ux, ud, rest, hk _ g1, g2⟩
    | some y =>
      obtain ⟨y, n⟩ := y
      simp only [SO.ren] at e
      split at e
      case h_2 => cases e
      rename_i y' hy
      injection e with e; subst e
      simp only [SO.rel] at hr ⊢
      rcases hr with ⟨h1, h2, h3, h4, h5⟩ | ⟨b, C, ps, ds, vs, ua, ub, ux, ud, rest, g1, g2, g3, g4, g5, g6, g7, g8, g9, ⟨v, g10, g11⟩, g12⟩
      · cases h4
      · exact .inr ⟨b, C, ps, ds, vs, ua, ub, ux, ud, rest, hk _ g1, g2, g3, g4, g5, g6, g7, g8, g9, ⟨v, g10, SV.rel_ren hf (s := .sl y t.width 0 n) (by simp only [SV.ren, hy]) g11⟩, g12⟩
  | tmap R et l =>
    simp only [SO.ren, Option.some.injEq] at e; subst e
    simp only [SO.rel] at *
    obtain ⟨b, C, bs, x, h1, h2⟩ := hr
    exact ⟨b, C, bs, x, hk _ h1, h2⟩
  | imap R l =>
    simp only [SO.ren, Option.some.injEq] at e; subst e
    simp only [SO.rel] at *
    obtain ⟨b, C, x, h1, h2⟩ := hr
    exact ⟨b, C, x, hk _ h1, h2⟩
  | alias h2 i =>
    simp only [SO.ren] at e
    split at e
    case h_2 => cases e
    rename_i k' hk'
    injection e with e; subst e
    simp only [SO.rel] at *
    obtain ⟨b, C, l, b2, C2, bs, h1, h2, h3⟩ := hr
    exact ⟨b, C, l, b2, C2, bs, hk _ h1, hf _ _ hk' _ h2, h3⟩
  | drow et e2 t l =>
    simp only [SO.ren, Option.some.injEq] at e; subst e
    simp only [SO.rel] at *
    obtain ⟨c, hc, ⟨h1, h2⟩ | ⟨b, C, ds, vs, h1, h2⟩⟩ := hr
    · exact ⟨c, hc, .inl ⟨hk _ h1, h2⟩⟩
    · exact ⟨c, hc, .inr ⟨b, C, ds, vs, hk _ h1, h2⟩⟩
  | dview et e2 t l g j x =>
    cases x with
    | none =>
      simp only [SO.ren] at e
      split at e
      case h_2 => cases e
      rename_i g' hg'
      injection e with e; subst e
      simp only [SO.rel] at *
      obtain ⟨c, hc, ⟨h1, h2⟩ | ⟨b, C, bs, vs, gb, h1, h2, h3, h4, h5, h6, h7, h8⟩⟩ := hr
      · exact ⟨c, hc, .inl ⟨hk _ h1, h2⟩⟩
      · exact ⟨c, hc, .inr ⟨b, C, bs, vs, gb, hk _ h1, h2, h3, h4, h5, h6, hf _ _ hg' _ h7, h8⟩⟩
    | some y =>
      obtain ⟨y, n⟩ := y
      simp only [SO.ren] at e
      split at e
      case h_2 => cases e
      rename_i g' hg'
      split at e
      case h_2 => cases e
      rename_i y' hy
      injection e with e; subst e
      simp only [SO.rel] at hr ⊢
      obtain ⟨c, hc, ⟨h1, h2⟩ | ⟨b, C, bs, vs, gb, h1, h2, h3, h4, h5, h6, h7, h8, i, v, h10, h11, h12⟩⟩ := hr
      · exact ⟨c, hc, .inl ⟨hk _ h1, h2⟩⟩
      · exact ⟨c, hc, .inr ⟨b, C, bs, vs, gb, hk _ h1, h2, h3, h4, h5, h6, hf _ _ hg' _ h7, h8, i, v, h10, h11, SV.rel_ren hf (s := .sl y c.u.width 0 n) (by simp only [SV.ren, hy]) h12⟩⟩
  | hold et t l =>
    simp only [SO.ren, Option.some.injEq] at e; subst e
    simp only [SO.rel] at *
    rcases hr with ⟨h1, h2⟩ | ⟨b, C, bs, vs, h1, h2⟩
    · exact .inl ⟨hk _ h1, h2⟩
    · exact .inr ⟨b, C, bs, vs, hk _ h1, h2⟩
  | prow et e2 t x g n =>
    simp only [SO.ren] at e
    split at e
    case h_2 => cases e
    rename_i g' hg'
    injection e with e; subst e
    simp only [SO.rel] at hr ⊢
    obtain ⟨c, b, vs, v, g1, g2, g3, g4, g5, g6, g7, g8⟩ := hr
    exact ⟨c, b, vs, v, g1, hk _ g2, g3, g4, g5, g6, g7, SV.rel_ren hf (s := .sl g c.u.width 0 n) (by simp only [SV.ren, hg']) g8⟩
theorem SO.live_ren {f : Nat → Option Nat} {o o' : SO} (e : SO.ren f o = some o') : o'.live = o.live := by
  cases o with
  | cells et cs =>
    simp only [SO.ren] at e
    split at e
    · injection e with e; subst e; rfl
    · cases e
  | row et t l => simp only [SO.ren, Option.some.injEq] at e; subst e; rfl
  | dead => simp only [SO.ren, Option.some.injEq] at e; subst e; rfl
  | view et t l => simp only [SO.ren, Option.some.injEq] at e; subst e; rfl
  | kept et e2 t l => simp only [SO.ren, Option.some.injEq] at e; subst e; rfl
  | lists et e2 t A B x D =>
    cases x with
    | none => simp only [SO.ren, Option.some.injEq] at e; subst e; rfl
    | some y =>
      obtain ⟨y, n⟩ := y
      simp only [SO.ren] at e
      split at e
      · injection e with e; subst e; rfl
      · cases e
  | tmap R et l => simp only [SO.ren, Option.some.injEq] at e; subst e; rfl
  | imap R l => simp only [SO.ren, Option.some.injEq] at e; subst e; rfl
  | alias h2 i =>
    simp only [SO.ren] at e
    split at e
    · injection e with e; subst e; rfl
    · cases e
  | drow et e2 t l => simp only [SO.ren, Option.some.injEq] at e; subst e; rfl
  | prow et e2 t x g n =>
    simp only [SO.ren] at e
    split at e
    · injection e with e; subst e; rfl
    · cases e
  | hold et t l => simp only [SO.ren, Option.some.injEq] at e; subst e; rfl
  | dview et e2 t l g j x =>
    cases x with
    | none =>
      simp only [SO.ren] at e
      split at e
      · injection e with e; subst e; rfl
      · cases e
    | some y =>
      obtain ⟨y, n⟩ := y
      simp only [SO.ren] at e
      split at e
      · split at e
        · injection e with e; subst e; rfl
        · cases e
      · cases e
theorem SO.deep_ren {f : Nat → Option Nat} {o o' : SO} (e : SO.ren f o = some o') : o'.deep = o.deep := by
  cases o with
  | cells et cs =>
    simp only [SO.ren] at e
    split at e
    · injection e with e; subst e; rfl
    · cases e
  | row et t l => simp only [SO.ren, Option.some.injEq] at e; subst e; rfl
  | dead => simp only [SO.ren, Option.some.injEq] at e; subst e; rfl
  | view et t l => simp only [SO.ren, Option.some.injEq] at e; subst e; rfl
  | kept et e2 t l => simp only [SO.ren, Option.some.injEq] at e; subst e; rfl
  | lists et e2 t A B x D =>
    cases x with
    | none => simp only [SO.ren, Option.some.injEq] at e; subst e; rfl
    | some y =>
      obtain ⟨y, n⟩ := y
      simp only [SO.ren] at e
      split at e
      · injection e with e; subst e; rfl
      · cases e
  | tmap R et l => simp only [SO.ren, Option.some.injEq] at e; subst e; rfl
  | imap R l => simp only [SO.ren, Option.some.injEq] at e; subst e; rfl
  | alias h2 i =>
    simp only [SO.ren] at e
    split at e
    · injection e with e; subst e; rfl
    · cases e
  | drow et e2 t l => simp only [SO.ren, Option.some.injEq] at e; subst e; rfl
  | prow et e2 t x g n =>
    simp only [SO.ren] at e
    split at e
    · injection e with e; subst e; rfl
    · cases e
  | hold et t l => simp only [SO.ren, Option.some.injEq] at e; subst e; rfl
  | dview et e2 t l g j x =>
    cases x with
    | none =>
      simp only [SO.ren] at e
      split at e
      · injection e with e; subst e; rfl
      · cases e
    | some y =>
      obtain ⟨y, n⟩ := y
      simp only [SO.ren] at e
      split at e
      · split at e
        · injection e with e; subst e; rfl
        · cases e
      · cases e
theorem SO.soft_ren {f : Nat → Option Nat} {o o' : SO} (e : SO.ren f o = some o') : o'.soft = o.soft := by
  cases o with
  | cells et cs =>
    simp only [SO.ren] at e
    split at e
    · injection e with e; subst e; rfl
    · cases e
  | row et t l => simp only [SO.ren, Option.some.injEq] at e; subst e; rfl
  | dead => simp only [SO.ren, Option.some.injEq] at e; subst e; rfl
  | view et t l => simp only [SO.ren, Option.some.injEq] at e; subst e; rfl
  | kept et e2 t l => simp only [SO.ren, Option.some.injEq] at e; subst e; rfl
  | lists et e2 t A B x D =>
    cases x with
    | none => simp only [SO.ren, Option.some.injEq] at e; subst e; rfl
    | some y =>
      obtain ⟨y, n⟩ := y
      simp only [SO.ren] at e
      split at e
      · injection e with e; subst e; rfl
      · cases e
  | tmap R et l => simp only [SO.ren, Option.some.injEq] at e; subst e; rfl
  | imap R l => simp only [SO.ren, Option.some.injEq] at e; subst e; rfl
  | alias h2 i =>
    simp only [SO.ren] at e
    split at e
    · injection e with e; subst e; rfl
    · cases e
  | drow et e2 t l => simp only [SO.ren, Option.some.injEq] at e; subst e; rfl
  | prow et e2 t x g n =>
    simp only [SO.ren] at e
    split at e
    · injection e with e; subst e; rfl
    · cases e
  | hold et t l => simp only [SO.ren, Option.some.injEq] at e; subst e; rfl
  | dview et e2 t l g j x =>
    cases x with
    | none =>
      simp only [SO.ren] at e
      split at e
      · injection e with e; subst e; rfl
      · cases e
    | some y =>
      obtain ⟨y, n⟩ := y
      simp only [SO.ren] at e
      split at e
      · split at e
        · injection e with e; subst e; rfl
        · cases e
      · cases e
theorem SO.owned_ren {f : Nat → Option Nat} {o o' : SO} {x : Option Blk} {k : Nat} (e : SO.ren f o = some o') (h : o'.owned x k) : o.owned x k := by
  unfold SO.owned at *
  rw [SO.deep_ren e, SO.soft_ren e] at h; exact h
theorem SO.owned_ren' {f : Nat → Option Nat} {o o' : SO} {x : Option Blk} {k : Nat} (e : SO.ren f o = some o') (h : o.owned x k) : o'.owned x k := by
  unfold SO.owned at *
  rw [SO.deep_ren e, SO.soft_ren e]; exact h
def nodupN : List Nat → Bool
  | [] => true
  | x :: r => !memN x r && nodupN r
theorem memN_iff {x : Nat} : ∀ {l : List Nat}, memN x l = true ↔ x ∈ l
  | [] => by simp [memN]
  | y :: r => by
    simp only [memN]
    split
    · rename_i h; have := Nat.eq_of_beq_eq_true h; subst this; simp
    · rename_i h
      rw [memN_iff]
      constructor
      · exact fun h => List.mem_cons_of_mem _ h
      · intro h'
        rcases List.mem_cons.1 h' with rfl | h'
        · simp at h
        · exact h'
theorem nodupN_inj : ∀ {l : List Nat}, nodupN l = true → ∀ i j x : Nat, l[i]? = some x → l[j]? = some x → i = j
  | [], _, i, j, x, h, _ => by simp at h
  | y :: r, h, i, j, x, h1, h2 => by
    simp only [nodupN, Bool.and_eq_true, Bool.not_eq_true'] at h
    have hne : ∀ k, r[k]? = some y → False := fun k hk => by
      have := List.mem_of_getElem? hk
      rw [← memN_iff, h.1] at this; cases this
    cases i with
    | zero =>
      cases j with
      | zero => rfl
      | succ j =>
        simp at h1 h2
        subst h1
        exact (hne _ h2).elim
    | succ i =>
      cases j with
      | zero =>
        simp at h1 h2
        subst h2
        exact (hne _ h1).elim
      | succ j =>
        simp at h1 h2
        rw [nodupN_inj h.2 i j x h1 h2]
def picks (f : Nat → Option Nat) (H : Heap) : List Nat → Option Heap
  | [] => some []
  | h :: r => match H[h]? with
    | some o => match SO.ren f o with
      | some o' => match picks f H r with
        | some H' => some (o' :: H')
        | none => none
      | none => none
    | none => none
theorem picks_get {f : Nat → Option Nat} : ∀ {σ : List Nat} {H' : Heap}, picks f H σ = some H' → H'.length = σ.length ∧ ∀ k h : Nat, σ[k]? = some h → ∃ o o', H[h]? = some o ∧ SO.ren f o = some o' ∧ H'[k]? = some o'
  | [], H', e => by simp only [picks, Option.some.injEq] at e; subst e; exact ⟨rfl, fun k h hk => by simp at hk⟩
  | x :: r, H', e => by
    simp only [picks] at e
    split at e
    · rename_i o ho
      split at e
      · rename_i o' ho'
        split at e
        · rename_i H'' hH
          injection e with e; subst e
          obtain ⟨h1, h2⟩ := picks_get hH
          refine ⟨by simp [h1], fun k h hk => ?_⟩
          cases k with
          | zero => simp at hk; subst hk; exact ⟨o, o', ho, ho', rfl⟩
          | succ k => simp at hk; simpa using h2 k h hk
        · cases e
      · cases e
    · cases e
def Map.pick (ρ : Map) (σ : List Nat) : Map := fun k => match σ[k]? with
  | some h => ρ h
  | none => none
theorem pick_le {σ : List Nat} : ∀ h k, place σ h = some k → ∀ x, ρ h = some x → ρ.pick σ k = some x := fun h k e x hx => by
  simp only [Map.pick, place_some e, hx]
theorem Sat.picks {σ : List Nat} {H' : Heap} (hs : Sat E ρ H w) (hn : nodupN σ = true) (e : picks (place σ) H σ = some H') : Sat E (ρ.pick σ) H' w := by
  obtain ⟨hlen, hget⟩ := picks_get e
  have hback : ∀ k (o' : SO), H'[k]? = some o' → ∃ h o, σ[k]? = some h ∧ H[h]? = some o ∧ SO.ren (place σ) o = some o' := fun k o' hk => by
    have hlt : k < σ.length := by
      rcases Nat.lt_or_ge k σ.length with h | h
      · exact h
      · rw [List.getElem?_eq_none (by omega)] at hk; cases hk
    obtain ⟨o, o'', h1, h2, h3⟩ := hget k σ[k] (List.getElem?_eq_getElem hlt)
    rw [hk] at h3; injection h3 with h3; subst h3
    exact ⟨_, o, List.getElem?_eq_getElem hlt, h1, h2⟩
  refine ⟨hs.os, hs.tape, hs.output, ?_, ?_, ?_, hs.zle, hs.keep, ?_, ?_, hs.old⟩
  · intro k hk
    simp only [Map.pick, List.getElem?_eq_none (show σ.length ≤ k by omega)]
  · intro k o' hk
    obtain ⟨h, o, h1, h2, h3⟩ := hback k o' hk
    exact SO.rel_ren pick_le (fun x hx => by simp only [Map.pick, h1, hx]) h3 (hs.objs _ _ h2)
  · intro k k' o o' b hk hk' hl hl' hb hb'
    obtain ⟨h, p, h1, h2, h3⟩ := hback k o hk
    obtain ⟨h', p', h1', h2', h3'⟩ := hback k' o' hk'
    rw [SO.live_ren h3] at hl; rw [SO.live_ren h3'] at hl'
    simp only [Map.pick, h1] at hb; simp only [Map.pick, h1'] at hb'
    have := hs.inj _ _ _ _ _ h2 h2' hl hl' hb hb'
    subst this
    exact nodupN_inj hn _ _ _ h1 h1'
  · intro k o b hk hl hb
    obtain ⟨h, p, h1, h2, h3⟩ := hback k o hk
    rw [SO.live_ren h3] at hl
    have hb := SO.owned_ren h3 hb
    simp only [Map.pick, h1] at hb
    exact hs.apart _ _ _ h2 hl hb
  · intro k o b hk hl hb
    obtain ⟨h, p, h1, h2, h3⟩ := hback k o hk
    rw [SO.live_ren h3] at hl
    simp only [Map.pick, h1] at hb
    exact hs.fresh _ _ _ h2 hl hb
abbrev Summ := List SV → Heap → Tree (SV × Heap × List Nat)
def Post (E : Env) (ρ : Map) (H : Heap) (Q : SV × Heap × List Nat → Prop) (e : Ending) (w' : World) : Prop :=
  ∃ E' ρ' sv H' mv v, Q (sv, H', mv) ∧ e = .returned v ∧ Env.le E E' ∧ SV.rel E'.Z ρ' sv v ∧ Sat E' ρ' H' w' ∧ H.length ≤ H'.length ∧ ∀ k, k < H.length → memN k mv = false → ρ' k = ρ k
def SummOK (P : Program) (f : FuncId) (s : Summ) : Prop :=
  (∀ args w, (callFunc f args).run P w = .ok (.enter f args) w) ∧
  ∀ (E : Env) (ρ : Map) (args : List SV) (H : Heap) (w : World) (vs : List Value) (Q : SV × Heap × List Nat → Prop), Sat E ρ H w → SV.rels E.Z ρ args vs → (s args H).Leads Q →
    Calls P f vs.toArray w (Post E ρ H Q)
def SummD (P : Program) (f : FuncId) (s : Summ) : Prop :=
  ∀ (E : Env) (ρ : Map) (args : List SV) (H : Heap) (w : World) (vs : List Value) (Q : SV × Heap × List Nat → Prop) (u : FrameMode), Sat E ρ H w → SV.rels E.Z ρ args vs → (s args H).Leads Q →
    CallsD P f vs.toArray u w fun e u' w' => u' = u ∧ Post E ρ H Q e w'
def newOnes (n : Nat) (mv : List Nat) : List Nat → List Nat
  | [] => []
  | k :: r => if Nat.ble n k || memN k mv then k :: newOnes n mv r else newOnes n mv r
def uptoN : Nat → List Nat
  | 0 => []
  | n + 1 => uptoN n ++ [n]
def back (σ fr : List Nat) (n : Nat) (k : Nat) : Option Nat := match place fr k with
  | some i => some (n + i)
  | none => σ[k]?
def putAll (g : Nat → Option Nat) (mv : List Nat) : Nat → List Nat → Heap → Heap → Option Heap
  | _, [], _, H => some H
  | k, h :: r, o :: os, H => if memN k mv then putAll g mv (k + 1) r os (H.set h .dead) else match SO.ren g o with
    | some o' => putAll g mv (k + 1) r os (H.set h o')
    | none => none
  | _, _ :: _, [], _ => none
abbrev XSumm := List SV → Heap → Tree (SV × Heap)
def lift (s : Summ) : XSumm := fun args H =>
  let σ := order H (SV.handless args) []
  if nodupN σ then match SV.rens (place σ) args, picks (place σ) H σ with
    | some args', some Hs => (s args' Hs).bind fun (sv, Hs', mv) =>
        let fr := newOnes σ.length mv (uptoN Hs'.length)
        let g := back σ fr H.length
        match SV.ren g sv, putAll g mv 0 σ Hs' H, picks g Hs' fr with
        | some sv', some H1, some H2 => .ret (sv', H1 ++ H2)
        | _, _, _ => .fail
    | _, _ => .fail
  else .fail
end Sx
