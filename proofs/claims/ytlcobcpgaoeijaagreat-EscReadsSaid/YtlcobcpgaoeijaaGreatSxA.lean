/- The words of a small symbolic run of Go functions: values, blocks, trees of outcomes. -/
import Derived.WalkKit
import Derived.KernelRfl
import Derived.Still
set_option linter.unusedVariables false
set_option linter.unusedSimpArgs false
namespace Sx
open Go
inductive Ty where
  | int (k : IntKind)
  | bool
  | str
  | unit
  | pair (a b : Ty)
  | imm (t : Ty)
  | opt (t : Ty)
@[reducible] def Ty.den : Ty → Type
  | .int _ => Int
  | .bool => Bool
  | .str => ByteArray
  | .unit => Unit
  | .pair a b => a.den × b.den
  | .imm t => List t.den
  | .opt t => Option t.den
def Ty.dflt : (t : Ty) → t.den
  | .int _ => (0 : Int)
  | .bool => false
  | .str => ByteArray.empty
  | .unit => ()
  | .pair a b => (a.dflt, b.dflt)
  | .imm _ => []
  | .opt _ => none
def Ty.width : Ty → Nat
  | .int _ => 1
  | .bool => 1
  | .str => 1
  | .unit => 0
  | .pair a b => a.width + b.width
  | .imm _ => 1
  | .opt t => t.width
def kindEq : IntKind → IntKind → Bool
  | .i8, .i8 => true | .i16, .i16 => true | .i32, .i32 => true | .i64, .i64 => true
  | .u8, .u8 => true | .u16, .u16 => true | .u32, .u32 => true | .u64, .u64 => true
  | _, _ => false
theorem kindEq_eq {a b : IntKind} (h : kindEq a b = true) : a = b := by cases a <;> cases b <;> simp [kindEq] at h <;> rfl
def Ty.same : (a b : Ty) → Option (PLift (a = b))
  | .int k, .int l => if h : kindEq k l = true then some ⟨by rw [kindEq_eq h]⟩ else none
  | .bool, .bool => some ⟨rfl⟩
  | .str, .str => some ⟨rfl⟩
  | .unit, .unit => some ⟨rfl⟩
  | .pair a b, .pair c d => match a.same c, b.same d with
    | some h, some g => some ⟨by rw [h.down, g.down]⟩
    | _, _ => none
  | .imm a, .imm b => match a.same b with
    | some h => some ⟨by rw [h.down]⟩
    | none => none
  | .opt a, .opt b => match a.same b with
    | some h => some ⟨by rw [h.down]⟩
    | none => none
  | _, _ => none
inductive SV where
  | lit (v : Value)
  | ptr (h off : Nat)
  | ept (h wd i j : Nat)
  | sl (h wd off len : Nat)
  | imm (t : Ty) (l : List t.den)
  | ipt (t : Ty) (l : List t.den) (i j : Nat)
  | agg (cs : List SV)
  | tup (cs : List SV)
  | fn (f : Fn) (cap : List SV)
  | junk
    | mp (h : Nat)
  | tref (h i : Nat)
  | kseq (f : FuncId) (mt : TypeId) (h : Nat)
def SV.cells : SV → List SV
  | .agg cs => cs
  | .lit (.agg cs) => cs.toList.map .lit
  | v => [v]
def Ty.cells : (t : Ty) → t.den → List SV
  | .int k, n => [.lit (.int k n)]
  | .bool, b => [.lit (.bool b)]
  | .str, s => [.lit (.string s)]
  | .unit, _ => []
  | .pair a b, x => a.cells x.1 ++ b.cells x.2
  | .imm t, l => [.imm t l]
  | .opt t, x => match x with
    | some d => t.cells d
    | none => List.replicate t.width .junk
def Ty.take : (t : Ty) → List SV → Option (t.den × List SV)
  | .int k, cs => match cs with
    | .lit (.int l n) :: r => if kindEq k l = true then some (n, r) else none
    | _ => none
  | .bool, cs => match cs with
    | .lit (.bool b) :: r => some (b, r)
    | _ => none
  | .str, cs => match cs with
    | .lit (.string s) :: r => some (s, r)
    | _ => none
  | .unit, r => some ((), r)
  | .pair a b, r => match a.take r with
    | some (x, r') => match b.take r' with
      | some (y, r'') => some ((x, y), r'')
      | none => none
    | none => none
  | .imm t, cs => match cs with
    | .imm u l :: r => match u.same t with
      | some h => some (h.down ▸ l, r)
      | none => none
    | .lit (.slice none 0 0) :: r => some ([], r)
    | _ => none
  | .opt t, cs => match t.take cs with
    | some (x, r) => some (some x, r)
    | none => none
def Ty.ofCells (t : Ty) (cs : List SV) : Option t.den := match t.take cs with
  | some (x, []) => some x
  | _ => none
structure Col (t : Ty) where
  j : Nat
  u : Ty
  f : t.den → List u.den
def Ty.col : (t : Ty) → Option (Col t)
  | .imm u => some ⟨0, u, fun x => x⟩
  | .pair a b => match a.col with
    | some c => some ⟨c.j, c.u, fun x => c.f x.1⟩
    | none => match b.col with
      | some c => some ⟨a.width + c.j, c.u, fun x => c.f x.2⟩
      | none => none
  | _ => none
inductive SO where
  | cells (et : TypeId) (cs : List SV)
  | row (et : TypeId) (t : Ty) (l : List t.den)
  | dead
    | view (et : TypeId) (t : Ty) (l : List t.den)
    | kept (et e2 : TypeId) (t : Ty) (l : List (List t.den))
    | lists (et e2 : TypeId) (t : Ty) (A B : List (List t.den)) (x : Option (Nat × Nat)) (D : List (List t.den))
    | tmap (R : Obj → List (ByteArray × Nat) → Prop) (et : TypeId) (l : List (ByteArray × Int))
    | imap (R : Obj → List (ByteArray × Int) → Prop) (l : List (ByteArray × Int))
    | alias (h i : Nat)
    | drow (et e2 : TypeId) (t : Ty) (l : List t.den)
    | dview (et e2 : TypeId) (t : Ty) (l : List t.den) (g j : Nat) (x : Option (Nat × Nat))
    | hold (et : TypeId) (t : Ty) (l : List t.den)
    | prow (et e2 : TypeId) (t : Ty) (x : t.den) (g n : Nat)
abbrev Heap := List SO
abbrev Slots := Nat → SV
inductive Tree (α : Type) : Type 1 where
  | ret (a : α)
  | ite (c : Bool) (t e : Tree α)
  | need (p : Prop) (t : Tree α)
  | any (β : Type) (p : β → Prop) (f : β → Tree α)
  | done
  | fail
def br (c : Bool) (p q : Prop) : Prop := @Bool.rec (fun _ => Prop) q p c
theorem br_true {p q : Prop} : br true p q = p := rfl
theorem br_false {p q : Prop} : br false p q = q := rfl
theorem br_iff {c : Bool} {p q : Prop} : br c p q ↔ (c = true → p) ∧ (c = false → q) := by cases c <;> simp [br_true, br_false]
theorem br_intro {c : Bool} {p q : Prop} (h : c = true → p) (g : c = false → q) : br c p q := br_iff.2 ⟨h, g⟩
theorem by_text {p q : Prop} (e : p = q) (h : q) : p := e ▸ h
def Tree.Leads {α : Type} : Tree α → (α → Prop) → Prop
  | .ret a, Q => Q a
  | .ite c t e, Q => br c (t.Leads Q) (e.Leads Q)
  | .need p t, Q => p ∧ t.Leads Q
  | .any β p f, Q => ∀ b : β, p b → (f b).Leads Q
  | .done, _ => True
  | .fail, _ => False
def Tree.bind {α β : Type} : Tree α → (α → Tree β) → Tree β
  | .ret a, f => f a
  | .ite c t e, f => .ite c (t.bind f) (e.bind f)
  | .need p t, f => .need p (t.bind f)
  | .any γ p g, f => .any γ p fun b => (g b).bind f
  | .done, _ => .done
  | .fail, _ => .fail
theorem Tree.leads_bind {α β : Type} {f : α → Tree β} {Q : β → Prop} : ∀ {t : Tree α}, (t.bind f).Leads Q ↔ t.Leads (fun a => (f a).Leads Q)
  | .ret a => Iff.rfl
  | .ite c t e => by
    simp only [Tree.bind, Tree.Leads]
    cases c
    · exact Tree.leads_bind (t := e)
    · exact Tree.leads_bind (t := t)
  | .need p t => by
    simp only [Tree.bind, Tree.Leads]
    exact and_congr Iff.rfl Tree.leads_bind
  | .any γ p g => by
    simp only [Tree.bind, Tree.Leads]
    exact forall_congr' fun b => forall_congr' fun _ => Tree.leads_bind
  | .done => Iff.rfl
  | .fail => Iff.rfl
theorem Tree.leads_mono {α : Type} {Q R : α → Prop} (h : ∀ a, Q a → R a) : ∀ {t : Tree α}, t.Leads Q → t.Leads R
  | .ret a, hq => h a hq
  | .ite c t e, hq => by
    simp only [Tree.Leads] at *
    cases c
    · exact Tree.leads_mono (t := e) h hq
    · exact Tree.leads_mono (t := t) h hq
  | .need p t, hq => ⟨hq.1, Tree.leads_mono h hq.2⟩
  | .any γ p g, hq => fun b hb => Tree.leads_mono h (hq b hb)
  | .done, _ => trivial
  | .fail, hq => hq
abbrev Zone := Nat → Option Obj
inductive Blk where
  | nil
  | at (b C : Nat) (l : List Nat)
abbrev Map := Nat → Option Blk
def Map.le (ρ ρ' : Map) : Prop := ∀ h x, ρ h = some x → ρ' h = some x
theorem Map.le_refl (ρ : Map) : Map.le ρ ρ := fun _ _ h => h
theorem Map.le_trans {a b c : Map} (h : Map.le a b) (k : Map.le b c) : Map.le a c := fun x y e => k x y (h x y e)
def Ty.reads (Z : Zone) : (t : Ty) → t.den → List Value → Prop
  | .int k, n, vs => vs = [.int k n]
  | .bool, b, vs => vs = [.bool b]
  | .str, s, vs => vs = [.string s]
  | .unit, _, vs => vs = []
  | .pair a b, x, vs => ∃ v1 v2, vs = v1 ++ v2 ∧ a.reads Z x.1 v1 ∧ b.reads Z x.2 v2
  | .imm t, l, vs => ∃ v, vs = [v] ∧ ((l = [] ∧ v = .slice none 0 0) ∨
      (∃ b o cap arr et fz, v = .slice (some ⟨b, o, none⟩) l.length cap ∧ l.length ≤ cap ∧ Z b = some (.cells arr et fz) ∧
        ∀ i (h : i < l.length), t.reads Z l[i] ((arr.toList.drop (o + i * t.width)).take t.width)) ∨ (l = [] ∧ ∃ a cap, v = .slice (some a) 0 cap))
  | .opt t, x, vs => match x with
    | some d => t.reads Z d vs
    | none => vs.length = t.width
def Ty.lies (Z : Zone) (t : Ty) (l : List t.den) (vs : List Value) (o : Nat) : Prop :=
  ∀ i (h : i < l.length), t.reads Z l[i] ((vs.drop (o + i * t.width)).take t.width)
mutual
def SV.rel (Z : Zone) (ρ : Map) : SV → Value → Prop
  | .lit x, v => v = x
  | .ptr h off, v => ∃ b C l, ρ h = some (.at b C l) ∧ v = .pointer (some ⟨b, off, none⟩)
  | .ept h wd i j, v => ∃ b C l, ρ h = some (.at b C l) ∧ v = .pointer (some ⟨b, i * wd + j, none⟩)
  | .sl h wd off len, v => (ρ h = some .nil ∧ off = 0 ∧ len = 0 ∧ v = .slice none 0 0) ∨
      ∃ b C l cap o, ρ h = some (.at b C l) ∧ v = .slice (some ⟨b, o, none⟩) len cap ∧ off + cap = C ∧ len ≤ cap ∧ (cap = 0 ∨ o = off * wd)
  | .imm t l, v => (Ty.imm t).reads Z l [v]
  | .ipt t l i j, v => ∃ b o arr et fz, v = .pointer (some ⟨b, o + i * t.width + j, none⟩) ∧ Z b = some (.cells arr et fz) ∧ t.lies Z l arr.toList o
  | .agg cs, v => ∃ vs : List Value, v = .agg vs.toArray ∧ SV.rels Z ρ cs vs
  | .tup cs, v => ∃ vs : List Value, v = .tuple vs.toArray ∧ SV.rels Z ρ cs vs
  | .fn f pre, v => ∃ vs : List Value, v = .func f vs.toArray #[] ∧ SV.rels Z ρ pre vs
  | .junk, _ => True
  | .mp h, v => ∃ b C l, ρ h = some (.at b C l) ∧ v = .map (some b)
  | .tref h i, v => ∃ b C l k, ρ h = some (.at b C l) ∧ l[i]? = some k ∧ v = .pointer (some ⟨k, 0, none⟩)
  | .kseq f mt h, v => ∃ b C l k fz, ρ h = some (.at b C l) ∧ v = .func (.func f) #[] #[.pointer (some ⟨k, 0, none⟩)] ∧ Z k = some (.cells #[.map (some b)] mt fz)
def SV.rels (Z : Zone) (ρ : Map) : List SV → List Value → Prop
  | [], vs => vs = []
  | s :: ss, vs => ∃ v r, vs = v :: r ∧ SV.rel Z ρ s v ∧ SV.rels Z ρ ss r
end
def Ty.apart (V : Zone) (W : Nat → Option Obj) (e2 : TypeId) (t : Ty) : List (List t.den) → List Value → List Nat → Prop
  | [], vs, l => vs = [] ∧ l = []
  | L :: r, vs, l => ∃ v us, vs = v :: us ∧ ((L = [] ∧ v = .slice none 0 0 ∧ t.apart V W e2 r us l) ∨
      ∃ b o cap arr l', l = b :: l' ∧ v = .slice (some ⟨b, o, none⟩) L.length cap ∧ (cap = 0 ∨ o = 0) ∧ W b = some (.cells arr e2 (0, 0)) ∧ arr.size = cap * t.width ∧ L.length ≤ cap ∧ cap ≤ maxLen ∧
        t.lies V L arr.toList 0 ∧ t.apart V W e2 r us l')
def colV (wd j : Nat) : Nat → List Value → List Value
  | 0, _ => []
  | n + 1, vs => vs.getD j undef :: colV wd j n (vs.drop wd)
def deedsOf (x : Blk) : List Nat := match x with
  | .at b _ l => b :: l
  | .nil => []
def SO.rel (Z : Zone) (ρ : Map) (w : World) (h : Nat) : SO → Prop
  | .cells et cs => ∃ b C vs, ρ h = some (.at b C []) ∧ w.heap[b]? = some (.cells vs et (0, 0)) ∧ SV.rels Z ρ cs vs.toList
  | .row et t l => (ρ h = some .nil ∧ l = []) ∨
      ∃ b C vs, ρ h = some (.at b C []) ∧ w.heap[b]? = some (.cells vs et (0, 0)) ∧ vs.size = C * t.width ∧ l.length ≤ C ∧ C ≤ maxLen ∧ t.lies Z l vs.toList 0
  | .dead => True
  | .view et t l => (ρ h = some .nil ∧ l = []) ∨
      ∃ b C bs vs, ρ h = some (.at b C bs) ∧ Z b = some (.cells vs et (0, 0)) ∧ vs.size = C * t.width ∧ l.length ≤ C ∧ C ≤ maxLen ∧ t.lies Z l vs.toList 0
  | .kept et e2 t l => (ρ h = some .nil ∧ l = []) ∨
      ∃ b C bs vs us, ρ h = some (.at b C bs) ∧ w.heap[b]? = some (.cells vs et (0, 0)) ∧ vs.size = C ∧ l.length ≤ C ∧ C ≤ maxLen ∧ bs.Nodup ∧ us.length = l.length ∧ vs.toList.take l.length = us ∧
        t.apart Z Z e2 l us bs
  | .lists et e2 t A B x D => (ρ h = some .nil ∧ A = [] ∧ B = [] ∧ x = none ∧ D = []) ∨
      ∃ b C ps ds vs ua ub ux ud rest, ρ h = some (.at b C (ps ++ ds)) ∧ w.heap[b]? = some (.cells vs et (0, 0)) ∧ vs.size = C ∧ C ≤ maxLen ∧ (ps ++ ds).Nodup ∧
        vs.toList = ua ++ (ub ++ (ux ++ (ud ++ rest))) ∧ ua.length = A.length ∧ (Ty.imm t).lies Z A ua 0 ∧ t.apart (fun _ => none) (fun b => w.heap[b]?) e2 B ub ps ∧
        (match x with | none => ux = [] | some (k, n) => ∃ v, ux = [v] ∧ SV.rel Z ρ (.sl k t.width 0 n) v) ∧ t.apart (fun _ => none) (fun b => w.heap[b]?) e2 D ud ds
  | .imap R l => ∃ b C o, ρ h = some (.at b C []) ∧ w.heap[b]? = some o ∧ R o l
  | .tmap R et l => ∃ b C bs o, ρ h = some (.at b C bs) ∧ w.heap[b]? = some o ∧ R o ((l.map Prod.fst).zip bs) ∧ bs.length = l.length ∧ (b :: bs).Nodup ∧
      ∀ i (hi : i < l.length) (hb : i < bs.length), w.heap[bs[i]]? = some (.cells #[.int .i64 l[i].2] et (0, 0))
  | .alias h2 i => ∃ b C l b2 C2 bs, ρ h = some (.at b C l) ∧ ρ h2 = some (.at b2 C2 bs) ∧ bs[i]? = some b
  | .drow et e2 t L => ∃ c, t.col = some c ∧ ((ρ h = some .nil ∧ L = []) ∨
      ∃ b C ds vs, ρ h = some (.at b C ds) ∧ w.heap[b]? = some (.cells vs et (0, 0)) ∧ vs.size = C * t.width ∧ L.length ≤ C ∧ C ≤ maxLen ∧ t.lies Z L vs.toList 0 ∧ ds.Nodup ∧
        c.u.apart Z Z e2 (L.map c.f) (colV t.width c.j L.length vs.toList) ds)
  | .dview et e2 t L g j x => ∃ c, t.col = some c ∧ ((ρ h = some .nil ∧ L = []) ∨
      ∃ b C bs vs gb, ρ h = some (.at b C bs) ∧ Z b = some (.cells vs et (0, 0)) ∧ vs.size = C * t.width ∧ L.length ≤ C ∧ C ≤ maxLen ∧ t.lies Z L vs.toList 0 ∧ ρ g = some gb ∧ (∃ ds tl, deedsOf gb = ds ++ tl ∧ ds.Nodup ∧
        c.u.apart Z Z e2 ((L.map c.f).drop j) ((colV t.width c.j L.length vs.toList).drop j) ds) ∧
        (match x with | none => True | some (k, n) => ∃ i v, j = i + 1 ∧ (colV t.width c.j L.length vs.toList)[i]? = some v ∧ SV.rel Z ρ (.sl k c.u.width 0 n) v))
  | .hold et t L => (ρ h = some .nil ∧ L = []) ∨
      ∃ b C bs vs, ρ h = some (.at b C bs) ∧ Z b = some (.cells vs et (0, 0)) ∧ vs.size = C * t.width ∧ L.length ≤ C ∧ C ≤ maxLen ∧ t.lies Z L vs.toList 0 ∧ (b :: bs).Nodup ∧ ∀ k ∈ bs, ∃ x, Z k = some x
  | .prow et e2 t x g n => ∃ c b vs v, t.col = some c ∧ ρ h = some (.at b 1 []) ∧ w.heap[b]? = some (.cells vs et (0, 0)) ∧ vs.size = t.width ∧ t.reads Z x vs.toList ∧ vs.toList[c.j]? = some v ∧ (c.f x).length = n ∧ SV.rel Z ρ (.sl g c.u.width 0 n) v
def SO.live : SO → Bool
  | .dead => false
  | .view _ _ _ => false
  | .alias _ _ => false
  | .dview _ _ _ _ _ _ _ => false
  | _ => true
def SO.soft : SO → Bool
  | .hold _ _ _ => true
  | _ => false
def SO.deep : SO → Bool
  | .lists _ _ _ _ _ _ _ => true
  | .tmap _ _ _ => true
  | _ => false
def claimed (x : Option Blk) (k : Nat) : Prop := ∃ b C l, x = some (.at b C l) ∧ (k = b ∨ k ∈ l)
def SO.owned (o : SO) (x : Option Blk) (k : Nat) : Prop := ∃ b C l, x = some (.at b C l) ∧ ((o.soft = false ∧ k = b) ∨ (o.deep = true ∧ k ∈ l))
theorem SO.owned_claimed {o : SO} {x : Option Blk} {k : Nat} (h : o.owned x k) : claimed x k := by
  obtain ⟨b, C, l, h1, h2⟩ := h
  exact ⟨b, C, l, h1, h2.imp And.right And.right⟩
theorem claimed_main {x : Option Blk} {b C : Nat} {l : List Nat} (h : x = some (.at b C l)) : claimed x b := ⟨b, C, l, h, .inl rfl⟩
theorem SO.owned_main {o : SO} {x : Option Blk} {b C : Nat} {l : List Nat} (h : x = some (.at b C l)) (hs : o.soft = false := by rfl) : o.owned x b := ⟨b, C, l, h, .inl ⟨hs, rfl⟩⟩
theorem claimed_flat {x : Option Blk} {b C k : Nat} (h : x = some (.at b C [])) (hk : claimed x k) : k = b := by
  obtain ⟨b', C', l', h1, h2⟩ := hk
  rw [h] at h1; injection h1 with h1; injection h1 with e1 e2 e3; subst e1; subst e3
  rcases h2 with h2 | h2
  · exact h2
  · cases h2
structure Env where
  Z : Zone
  F : Zone
  tk : Nat → Prop
  bye : Bool
  os : Os
  tape : Nat → Question → Nat
  output : Array (Nat × ByteArray)
structure Sat (E : Env) (ρ : Map) (H : Heap) (w : World) : Prop where
  os : w.os = E.os
  tape : w.tape = E.tape
  output : w.output = E.output
  free : ∀ h, H.length ≤ h → ρ h = none
  objs : ∀ h (o : SO), H[h]? = some o → o.rel E.Z ρ w h
  inj : ∀ h h' (o o' : SO) k, H[h]? = some o → H[h']? = some o' → o.live = true → o'.live = true → claimed (ρ h) k → claimed (ρ h') k → h = h'
  zle : ∀ b o, E.Z b = some o → E.F b = some o
  keep : ∀ b o, E.F b = some o → w.heap[b]? = some o
  apart : ∀ h (o : SO) k, H[h]? = some o → o.live = true → o.owned (ρ h) k → E.F k = none
  fresh : ∀ h (o : SO) k, H[h]? = some o → o.live = true → claimed (ρ h) k → ¬ E.tk k
  old : ∀ k, E.tk k → ∃ o, w.heap[k]? = some o
theorem Sat.zone {E : Env} {ρ : Map} {H : Heap} {w : World} (hs : Sat E ρ H w) (b : Nat) (o : Obj) (h : E.Z b = some o) : w.heap[b]? = some o := hs.keep _ _ (hs.zle _ _ h)
mutual
theorem SV.rel_mono {Z : Zone} {ρ ρ' : Map} (hl : Map.le ρ ρ') : ∀ {s : SV} {v : Value}, SV.rel Z ρ s v → SV.rel Z ρ' s v
  | .lit _, _, h => by simpa only [SV.rel] using h
  | .ptr _ _, _, h => by simp only [SV.rel] at *; obtain ⟨b, C, l, h1, h2⟩ := h; exact ⟨b, C, l, hl _ _ h1, h2⟩
  | .ept _ _ _ _, _, h => by simp only [SV.rel] at *; obtain ⟨b, C, l, h1, h2⟩ := h; exact ⟨b, C, l, hl _ _ h1, h2⟩
  | .sl _ _ _ _, _, h => by
    simp only [SV.rel] at *
    rcases h with ⟨h1, h2⟩ | ⟨b, C, l, cap, o, h1, h2⟩
    · exact .inl ⟨hl _ _ h1, h2⟩
    · exact .inr ⟨b, C, l, cap, o, hl _ _ h1, h2⟩
  | .imm _ _, _, h => by simpa only [SV.rel] using h
  | .ipt _ _ _ _, _, h => by simpa only [SV.rel] using h
  | .agg _, _, h => by simp only [SV.rel] at *; obtain ⟨vs, h1, h2⟩ := h; exact ⟨vs, h1, SV.rels_mono hl h2⟩
  | .tup _, _, h => by simp only [SV.rel] at *; obtain ⟨vs, h1, h2⟩ := h; exact ⟨vs, h1, SV.rels_mono hl h2⟩
  | .fn _ _, _, h => by simp only [SV.rel] at *; obtain ⟨vs, h1, h2⟩ := h; exact ⟨vs, h1, SV.rels_mono hl h2⟩
  | .junk, _, _ => by simp only [SV.rel]
  | .mp _, _, h => by simp only [SV.rel] at *; obtain ⟨b, C, l, h1, h2⟩ := h; exact ⟨b, C, l, hl _ _ h1, h2⟩
  | .tref _ _, _, h => by simp only [SV.rel] at *; obtain ⟨b, C, l, k, h1, h2⟩ := h; exact ⟨b, C, l, k, hl _ _ h1, h2⟩
  | .kseq _ _ _, _, h => by simp only [SV.rel] at *; obtain ⟨b, C, l, k, fz, h1, h2⟩ := h; exact ⟨b, C, l, k, fz, hl _ _ h1, h2⟩
theorem SV.rels_mono {Z : Zone} {ρ ρ' : Map} (hl : Map.le ρ ρ') : ∀ {s : List SV} {v : List Value}, SV.rels Z ρ s v → SV.rels Z ρ' s v
  | [], _, h => by simpa only [SV.rels] using h
  | _ :: _, _, h => by
    simp only [SV.rels] at *
    obtain ⟨v, r, h1, h2, h3⟩ := h
    exact ⟨v, r, h1, SV.rel_mono hl h2, SV.rels_mono hl h3⟩
end
structure Env.le (E E' : Env) : Prop where
  z : ∀ b o, E.Z b = some o → E'.Z b = some o
  f : ∀ b o, E.F b = some o → E'.F b = some o
  new : ∀ b o, E'.F b = some o → E.F b = some o ∨ (E.F b = none ∧ E'.Z b = some o)
  zold : ∀ b o, E'.Z b = some o → E.Z b = some o ∨ E.F b = none
  os : E'.os = E.os
  tape : E'.tape = E.tape
  output : E'.output = E.output
  tk : E'.tk = E.tk
theorem Env.le_refl (E : Env) : Env.le E E := ⟨fun _ _ h => h, fun _ _ h => h, fun _ _ h => .inl h, fun _ _ h => .inl h, rfl, rfl, rfl, rfl⟩
theorem Env.le_trans {A B C : Env} (h : Env.le A B) (k : Env.le B C) : Env.le A C := by
  have hn : ∀ b, B.F b = none → A.F b = none := fun b hb => by
    cases hA : A.F b with
    | none => rfl
    | some x => rw [h.f _ _ hA] at hb; cases hb
  refine ⟨fun b o e => k.z _ _ (h.z _ _ e), fun b o e => k.f _ _ (h.f _ _ e), fun b o e => ?_, fun b o e => ?_, k.os.trans h.os, k.tape.trans h.tape, k.output.trans h.output, k.tk.trans h.tk⟩
  · rcases k.new _ _ e with e1 | ⟨e1, e2⟩
    · rcases h.new _ _ e1 with e3 | ⟨e3, e4⟩
      · exact .inl e3
      · exact .inr ⟨e3, k.z _ _ e4⟩
    · exact .inr ⟨hn b e1, e2⟩
  · rcases k.zold _ _ e with e1 | e1
    · exact h.zold _ _ e1
    · exact .inr (hn b e1)
theorem Ty.reads_zone {Z Z' : Zone} (hz : ∀ b o, Z b = some o → Z' b = some o) : ∀ (t : Ty) (x : t.den) (vs : List Value), t.reads Z x vs → t.reads Z' x vs
  | .int _, _, _, h => h
  | .bool, _, _, h => h
  | .str, _, _, h => h
  | .unit, _, _, h => h
  | .pair a b, x, vs, h => by
    obtain ⟨v1, v2, h0, h1, h2⟩ := h
    exact ⟨v1, v2, h0, Ty.reads_zone hz a _ _ h1, Ty.reads_zone hz b _ _ h2⟩
  | .imm t, l, vs, h => by
    obtain ⟨v, h0, h1⟩ := h
    refine ⟨v, h0, ?_⟩
    rcases h1 with h1 | ⟨b, o, cap, arr, et, fz, g1, g2, g3, g4⟩ | h1
    · exact .inl h1
    · exact .inr (.inl ⟨b, o, cap, arr, et, fz, g1, g2, hz _ _ g3, fun i hi => Ty.reads_zone hz t _ _ (g4 i hi)⟩)
    · exact .inr (.inr h1)
  | .opt t, x, vs, h => match x with
    | some d => Ty.reads_zone hz t d vs h
    | none => h
theorem Ty.lies_zone {Z Z' : Zone} (hz : ∀ b o, Z b = some o → Z' b = some o) {t : Ty} {l : List t.den} {vs : List Value} {o : Nat} (h : t.lies Z l vs o) : t.lies Z' l vs o := fun i hi => Ty.reads_zone hz t _ _ (h i hi)
mutual
theorem SV.rel_zone {Z Z' : Zone} (hz : ∀ b o, Z b = some o → Z' b = some o) {ρ : Map} : ∀ {s : SV} {v : Value}, SV.rel Z ρ s v → SV.rel Z' ρ s v
  | .lit _, _, h => by simpa only [SV.rel] using h
  | .ptr _ _, _, h => by simpa only [SV.rel] using h
  | .ept _ _ _ _, _, h => by simpa only [SV.rel] using h
  | .sl _ _ _ _, _, h => by simpa only [SV.rel] using h
  | .imm t l, v, h => by simp only [SV.rel] at *; exact Ty.reads_zone hz (.imm t) l [v] h
  | .ipt _ _ _ _, _, h => by simp only [SV.rel] at *; obtain ⟨b, o, arr, et, fz, h1, h2, h3⟩ := h; exact ⟨b, o, arr, et, fz, h1, hz _ _ h2, Ty.lies_zone hz h3⟩
  | .agg _, _, h => by simp only [SV.rel] at *; obtain ⟨vs, h1, h2⟩ := h; exact ⟨vs, h1, SV.rels_zone hz h2⟩
  | .tup _, _, h => by simp only [SV.rel] at *; obtain ⟨vs, h1, h2⟩ := h; exact ⟨vs, h1, SV.rels_zone hz h2⟩
  | .fn _ _, _, h => by simp only [SV.rel] at *; obtain ⟨vs, h1, h2⟩ := h; exact ⟨vs, h1, SV.rels_zone hz h2⟩
  | .junk, _, _ => by simp only [SV.rel]
  | .mp _, _, h => by simpa only [SV.rel] using h
  | .tref _ _, _, h => by simpa only [SV.rel] using h
  | .kseq _ _ _, _, h => by simp only [SV.rel] at *; obtain ⟨b, C, l, k, fz, h1, h2, h3⟩ := h; exact ⟨b, C, l, k, fz, h1, h2, hz _ _ h3⟩
theorem SV.rels_zone {Z Z' : Zone} (hz : ∀ b o, Z b = some o → Z' b = some o) {ρ : Map} : ∀ {s : List SV} {v : List Value}, SV.rels Z ρ s v → SV.rels Z' ρ s v
  | [], _, h => by simpa only [SV.rels] using h
  | _ :: _, _, h => by
    simp only [SV.rels] at *
    obtain ⟨v, r, h1, h2, h3⟩ := h
    exact ⟨v, r, h1, SV.rel_zone hz h2, SV.rels_zone hz h3⟩
end
theorem Ty.apart_zones {V V' : Zone} (hV : ∀ b o, V b = some o → V' b = some o) {W W' : Nat → Option Obj} {e2 : TypeId} {t : Ty} : ∀ {r : List (List t.den)} {vs : List Value} {l : List Nat}, (∀ b, b ∈ l → ∀ o, W b = some o → W' b = some o) → t.apart V W e2 r vs l → t.apart V' W' e2 r vs l
  | [], _, _, _, h => h
  | L :: r, vs, l, hW, h => by
    obtain ⟨v, us, h0, h⟩ := h
    refine ⟨v, us, h0, ?_⟩
    rcases h with ⟨h1, h2, h3⟩ | ⟨b, o, cap, arr, l', h1, h2, h0, h3, h4, h5, h6, h7, h8⟩
    · exact .inl ⟨h1, h2, Ty.apart_zones hV hW h3⟩
    · subst h1
      exact .inr ⟨b, o, cap, arr, l', rfl, h2, h0, hW b (by simp) _ h3, h4, h5, h6, Ty.lies_zone hV h7, Ty.apart_zones hV (fun c hc => hW c (by simp [hc])) h8⟩
theorem Ty.apart_zone {V : Zone} {W W' : Nat → Option Obj} {e2 : TypeId} {t : Ty} {r : List (List t.den)} {vs : List Value} {l : List Nat} (hW : ∀ b, b ∈ l → ∀ o, W b = some o → W' b = some o) (h : t.apart V W e2 r vs l) : t.apart V W' e2 r vs l := Ty.apart_zones (fun _ _ h => h) hW h
theorem SO.rel_zone {Z Z' : Zone} (hz : ∀ b o, Z b = some o → Z' b = some o) {ρ : Map} {w : World} {h : Nat} : ∀ {o : SO}, o.rel Z ρ w h → o.rel Z' ρ w h
  | .cells _ _, g => by simp only [SO.rel] at *; obtain ⟨b, C, vs, g1, g2, g3⟩ := g; exact ⟨b, C, vs, g1, g2, SV.rels_zone hz g3⟩
  | .row _ _ _, g => by
    simp only [SO.rel] at *
    rcases g with g | ⟨b, C, vs, g1, g2, g3, g4, g5, g6⟩
    · exact .inl g
    · exact .inr ⟨b, C, vs, g1, g2, g3, g4, g5, Ty.lies_zone hz g6⟩
  | .dead, _ => trivial
  | .view _ _ _, g => by
    simp only [SO.rel] at *
    rcases g with g | ⟨b, C, bs, vs, g1, g2, g3, g4, g5, g6⟩
    · exact .inl g
    · exact .inr ⟨b, C, bs, vs, g1, hz _ _ g2, g3, g4, g5, Ty.lies_zone hz g6⟩
  | .kept _ _ _ _, g => by
    simp only [SO.rel] at *
    rcases g with g | ⟨b, C, bs, vs, us, g1, g2, g3, g4, g5, g6, g7, g8, g9⟩
    · exact .inl g
    · exact .inr ⟨b, C, bs, vs, us, g1, g2, g3, g4, g5, g6, g7, g8, Ty.apart_zones hz (fun b _ o hb => hz b o hb) g9⟩
  | .lists _ _ _ _ _ x _, g => by
    simp only [SO.rel] at *
    rcases g with g | ⟨b, C, ps, ds, vs, ua, ub, ux, ud, rest, g1, g2, g3, g4, g5, g6, g7, g8, g9, g10, g11⟩
    · exact .inl g
    · refine .inr ⟨b, C, ps, ds, vs, ua, ub, ux, ud, rest, g1, g2, g3, g4, g5, g6, g7, Ty.lies_zone hz g8, g9, ?_, g11⟩
      match x with
      | none => exact g10
      | some (k, n) =>
        obtain ⟨v, a1, a2⟩ := g10
        exact ⟨v, a1, SV.rel_zone hz a2⟩
  | .tmap _ _ _, g => by simpa only [SO.rel] using g
  | .imap _ _, g => by simpa only [SO.rel] using g
  | .alias _ _, g => by simpa only [SO.rel] using g
  | .drow _ _ _ _, g => by
    simp only [SO.rel] at *
    obtain ⟨c, hc, g | ⟨b, C, ds, vs, g1, g2, g3, g4, g5, g6, g7, g8⟩⟩ := g
    · exact ⟨c, hc, .inl g⟩
    · exact ⟨c, hc, .inr ⟨b, C, ds, vs, g1, g2, g3, g4, g5, Ty.lies_zone hz g6, g7, Ty.apart_zones hz (fun b _ o hb => hz b o hb) g8⟩⟩
  | .dview _ _ _ _ _ _ x, g => by
    simp only [SO.rel] at *
    obtain ⟨c, hc, g | ⟨b, C, bs, vs, gb, g1, g2, g3, g4, g5, g6, g0, ⟨ds, tl, g7, g8, g10⟩, g9⟩⟩ := g
    · exact ⟨c, hc, .inl g⟩
    · refine ⟨c, hc, .inr ⟨b, C, bs, vs, gb, g1, hz _ _ g2, g3, g4, g5, Ty.lies_zone hz g6, g0, ⟨ds, tl, g7, g8, Ty.apart_zones hz (fun b _ o hb => hz b o hb) g10⟩, ?_⟩⟩
      match x with
      | none => trivial
      | some (k, n) =>
        obtain ⟨i, v, a1, a2, a3⟩ := g9
        exact ⟨i, v, a1, a2, SV.rel_zone hz a3⟩
  | .hold _ _ _, g => by
    simp only [SO.rel] at *
    rcases g with g | ⟨b, C, bs, vs, g1, g2, g3, g4, g5, g6, g7, g8⟩
    · exact .inl g
    · exact .inr ⟨b, C, bs, vs, g1, hz _ _ g2, g3, g4, g5, Ty.lies_zone hz g6, g7, fun k hk => (g8 k hk).imp fun x hx => hz _ _ hx⟩
  | .prow _ _ _ _ _ _, g => by
    simp only [SO.rel] at *
    obtain ⟨c, b, vs, v, g1, g2, g3, g4, g5, g6, g7, g8⟩ := g
    exact ⟨c, b, vs, v, g1, g2, g3, g4, Ty.reads_zone hz _ _ _ g5, g6, g7, SV.rel_zone hz g8⟩
theorem Sat.freezeO {E : Env} {ρ : Map} {H : Heap} {w : World} {h : Nat} {o0 : SO} {b C : Nat} {ds : List Nat} {x : Obj} (hs : Sat E ρ H w) (ho : H[h]? = some o0) (hl0 : o0.live = true) (hsf : o0.soft = false) (hb : ρ h = some (.at b C ds)) (hx : w.heap[b]? = some x) :
    ∃ E', Env.le E E' ∧ E'.Z b = some x ∧ ∀ o' : SO, o'.live = false → o'.rel E'.Z ρ w h → Sat E' ρ (H.set h o') w := by
  have hFb : E.F b = none := hs.apart _ _ _ ho hl0 (SO.owned_main hb hsf)
  have hZb : E.Z b = none := by
    cases hZ : E.Z b with
    | none => rfl
    | some y => rw [hs.zle _ _ hZ] at hFb; cases hFb
  let E' : Env := { E with Z := fun k => if k = b then some x else E.Z k, F := fun k => if k = b then some x else E.F k }
  have hz : ∀ k o, E.Z k = some o → E'.Z k = some o := fun k o hk => by
    show (if k = b then some x else E.Z k) = some o
    rw [if_neg (fun e => by subst e; rw [hZb] at hk; cases hk)]; exact hk
  have hf : ∀ k o, E.F k = some o → E'.F k = some o := fun k o hk => by
    show (if k = b then some x else E.F k) = some o
    rw [if_neg (fun e => by subst e; rw [hFb] at hk; cases hk)]; exact hk
  refine ⟨E', ⟨hz, hf, fun k o hk => ?_, fun k o hk => ?_, rfl, rfl, rfl, rfl⟩, by show (if b = b then some x else E.Z b) = some x; rw [if_pos rfl], fun o' hl' hrel => ?_⟩
  · have hk : (if k = b then some x else E.F k) = some o := hk
    by_cases e : k = b
    · rw [if_pos e] at hk
      exact .inr ⟨by rw [e]; exact hFb, by show (if k = b then some x else E.Z k) = some o; rw [if_pos e]; exact hk⟩
    · rw [if_neg e] at hk; exact .inl hk
  · have hk : (if k = b then some x else E.Z k) = some o := hk
    split at hk
    · rename_i e; subst e; exact .inr hFb
    · exact .inl hk
  have get : ∀ k (o : SO), (H.set h o')[k]? = some o → o.live = true → k ≠ h ∧ H[k]? = some o := fun k o hk hl => by
    by_cases e : k = h
    · subst e
      rw [List.getElem?_set_self (List.getElem?_eq_some_iff.1 ho).1] at hk
      injection hk with hk; subst hk; rw [hl'] at hl; cases hl
    · rw [List.getElem?_set_ne (Ne.symm e)] at hk; exact ⟨e, hk⟩
  refine ⟨hs.os, hs.tape, hs.output, fun k hk => hs.free k (by simpa using hk), fun k o hk => ?_, fun k k' o o' c hk hk' hl hl' hb1 hb2 => ?_, fun k o hk => ?_, fun k o hk => ?_, fun k o c hk hl hb1 => ?_, fun k o c hk hl hb1 => ?_, hs.old⟩
  · by_cases e : k = h
    · subst e
      rw [List.getElem?_set_self (List.getElem?_eq_some_iff.1 ho).1] at hk
      injection hk with hk; subst hk; exact hrel
    · rw [List.getElem?_set_ne (Ne.symm e)] at hk
      exact SO.rel_zone hz (hs.objs _ _ hk)
  · exact hs.inj _ _ _ _ _ (get _ _ hk hl).2 (get _ _ hk' hl').2 hl hl' hb1 hb2
  · have hk : (if k = b then some x else E.Z k) = some o := hk
    show (if k = b then some x else E.F k) = some o
    split at hk
    · rename_i e; rw [if_pos e]; exact hk
    · rename_i e; rw [if_neg e]; exact hs.zle _ _ hk
  · have hk : (if k = b then some x else E.F k) = some o := hk
    by_cases e : k = b
    · rw [if_pos e] at hk; rw [e, hx]; exact hk
    · rw [if_neg e] at hk; exact hs.keep _ _ hk
  · obtain ⟨hne, hk⟩ := get _ _ hk hl
    show (if c = b then some x else E.F c) = none
    rw [if_neg (fun e => by subst e; exact hne (hs.inj _ _ _ _ _ hk ho hl hl0 (SO.owned_claimed hb1) (claimed_main hb)))]
    exact hs.apart _ _ _ hk hl hb1
  · exact hs.fresh _ _ _ (get _ _ hk hl).2 hl hb1
theorem Sat.freeze {E : Env} {ρ : Map} {H : Heap} {w : World} {h : Nat} {et : TypeId} {ty : Ty} {L : List ty.den} {b C : Nat} {x : Obj} (hs : Sat E ρ H w) (ho : H[h]? = some (.row et ty L)) (hb : ρ h = some (.at b C [])) (hx : w.heap[b]? = some x) :
    ∃ E', Env.le E E' ∧ E'.Z b = some x ∧ ∀ o' : SO, o'.live = false → o'.rel E'.Z ρ w h → Sat E' ρ (H.set h o') w := hs.freezeO ho rfl rfl hb hx
end Sx
