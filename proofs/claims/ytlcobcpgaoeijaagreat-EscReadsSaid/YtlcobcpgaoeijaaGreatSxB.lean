/- What one operation does in a symbolic state: operations that change no block that is there. -/
import Derived.Test.YtlcobcpgaoeijaaGreatSxA
set_option linter.unusedVariables false
set_option linter.unusedSimpArgs false
namespace Sx
open Go
def bsOf (l : List Int) : ByteArray := ⟨(l.map fun n => UInt8.ofNat n.toNat).toArray⟩
def byteAt (s : ByteArray) (i : Int) : Int := ((s.data.toList.getD i.toNat 0).toNat : Int)
def look (S : Slots) (t : Nat) : SV := S t
def ev (S : Slots) : Operand → SV
  | .tmp t => look S t
  | .const v => .lit v
  | .global g => .lit (.pointer (some ⟨g, 0, none⟩))
  | .func f => .lit (.func (.func f) #[] #[])
def aggO (P : Program) (t : TypeId) : Option Bool := match P.underlying t with
  | some (.struct _) => some true
  | some (.array _ _) => some true
  | some _ => some false
  | none => none
def joinTy (x r : Option Ty) : Option Ty := match x, r with
  | some a, some .unit => some a
  | some a, some b => some (.pair a b)
  | _, _ => none
def tyOf (P : Program) : Nat → TypeId → Option Ty
  | 0, _ => none
  | n + 1, t => match P.underlying t with
    | some (.int k) => some (.int k)
    | some .bool => some .bool
    | some .string => some .str
    | some (.slice e) => (tyOf P n e).map .imm
    | some (.struct fs) => fs.toList.foldr (fun f r => joinTy (tyOf P n f.type) r) (some .unit)
    | _ => none
def cut (cs : List SV) (off n : Nat) : Option (List SV) :=
  let r := (cs.drop off).take n
  if Nat.beq r.length n then some r else none
def partO (P : Program) (t : TypeId) (cs : List SV) (off : Nat) : Option SV := match aggO P t with
  | some true => match cut cs off (P.cellsOf t) with
    | some r => some (.agg r)
    | none => none
  | some false => match cs.drop off with
    | v :: _ => some v
    | [] => none
  | none => none
def fromCells (P : Program) (t : TypeId) (cs : List SV) (off : Nat) : Tree SV := match partO P t cs off with
  | some v => .ret v
  | none => .fail
def SO.asRow : SO → SO
  | .view et t l => .row et t l
  | .kept et _ t l => .row et (.imm t) l
  | .drow et _ t l => .row et t l
  | .dview et _ t l _ _ none => .row et t l
  | .hold et t l => .row et t l
  | o => o
def rowAt (H : Heap) (h : Nat) : Option SO := match H[h]? with
  | some o => some o.asRow
  | none => none
def xload (P : Program) (H : Heap) (t : TypeId) : SV → Tree SV
  | .ptr h off => match H[h]? with
    | some (.cells _ cs) => fromCells P t cs off
    | _ => .fail
  | .ept h wd i j => match rowAt H h with
    | some (.row _ ty l) => if Nat.beq wd ty.width then .need (i < l.length) (fromCells P t (ty.cells (l.getD i ty.dflt)) j) else .fail
    | some (.dview _ _ ty l _ i0 (some (k, n))) => match ty.col with
      | some c => if Nat.beq wd ty.width then (if Nat.beq j c.j then .need (i + 1 = i0) (fromCells P t [.sl k c.u.width 0 n] 0)
        else .need (i < l.length) (fromCells P t (ty.cells (l.getD i ty.dflt)) j)) else .fail
      | none => .fail
    | some (.lists _ _ ty A B (some (k, n)) _) => if Nat.beq wd 1 then .need (i = A.length + B.length) (fromCells P t [.sl k ty.width 0 n] j) else .fail
    | _ => .fail
  | .ipt ty l i j => .need (i < l.length) (fromCells P t (ty.cells (l.getD i ty.dflt)) j)
  | _ => .fail
def fieldOff (P : Program) (s : TypeId) (f : Nat) : Option (Nat × TypeId) := match P.underlying s with
  | some (.struct fs) => match fs[f]? with
    | some x => some (x.offset, x.type)
    | none => none
  | _ => none
def xfieldAddr (P : Program) (s : TypeId) (f : Nat) (v : SV) : Tree SV := match fieldOff P s f with
  | some (o, t) => if Nat.beq (P.cellsOf t) 0 then .fail else match v with
    | .ptr h off => .ret (.ptr h (off + o))
    | .ept h wd i j => .ret (.ept h wd i (j + o))
    | .ipt ty l i j => .ret (.ipt ty l i (j + o))
    | .tref h i => if Nat.beq o 0 then .ret (.tref h i) else .fail
    | _ => .fail
  | none => .fail
def xfield (P : Program) (s : TypeId) (f : Nat) (v : SV) : Tree SV := match fieldOff P s f with
  | some (o, t) => match v with
    | .agg cs => fromCells P t cs o
    | _ => .fail
  | none => .fail
def szIs (P : Program) (e : TypeId) (n : Nat) : Bool := match P.info? e with
  | some i => Nat.beq i.size n
  | none => false
def xindexAddr (P : Program) (t : TypeId) (x i : SV) : Tree SV := match P.underlying t, i with
  | some (.slice e), .lit (.int _ n) => match x with
    | .sl h wd off len => if szIs P e wd then .need (0 ≤ n ∧ n < (len : Int)) (.ret (.ept h wd (off + n.toNat) 0)) else .fail
    | .imm ty l => if szIs P e ty.width then .need (0 ≤ n ∧ n < (l.length : Int)) (.ret (.ipt ty l n.toNat 0)) else .fail
    | _ => .fail
  | some (.array len e), .lit (.int _ n) => match x, P.info? e with
    | .ptr h off, some i => .need (0 ≤ n ∧ n < (len : Int)) (.ret (.ptr h (off + n.toNat * i.size)))
    | _, _ => .fail
  | _, _ => .fail
def xindex (P : Program) (t : TypeId) (x i : SV) : Tree SV := match P.underlying t, x, i with
  | some .string, .lit (.string s), .lit (.int _ n) => .need (0 ≤ n ∧ n < (s.size : Int)) (.ret (.lit (.int .u8 (byteAt s n))))
  | _, _, _ => .fail
def bound (S : Slots) (x : Option Operand) (d : Nat) : Option (Option Int × Nat) := match x with
  | none => some (none, d)
  | some o => match ev S o with
    | .lit (.int _ n) => some (some n, n.toNat)
    | _ => none
def within (n : Option Int) (hi : Nat) : Prop := match n with
  | none => True
  | some n => 0 ≤ n ∧ n ≤ (hi : Int)
def xslice (P : Program) (H : Heap) (S : Slots) (t : TypeId) (x : SV) (lo hi : Option Operand) : Tree SV := match P.underlying t, x with
  | some .string, .lit (.string s) => match bound S hi s.size, bound S lo 0 with
    | some (hn, h), some (ln, l) => .need (within hn s.size) (.need (within ln h) (.ret (.lit (.string (s.extract l h)))))
    | _, _ => .fail
  | some (.slice e), .sl h0 wd off len => if szIs P e wd then match rowAt H h0 with
    | some (.row _ ty L) => if Nat.beq wd ty.width then match bound S hi len, bound S lo 0 with
      | some (hn, h), some (ln, l) => .need (within hn (L.length - off)) (.need (within ln h) (.ret (.sl h0 wd (off + l) (h - l))))
      | _, _ => .fail
      else .fail
    | _ => .fail
    else .fail
  | some (.slice e), .imm ty L => if szIs P e ty.width then match bound S hi L.length, bound S lo 0 with
    | some (hn, h), some (ln, l) => .need (within hn L.length) (.need (within ln h) (.ret (.imm ty ((L.drop l).take (h - l)))))
    | _, _ => .fail
    else .fail
  | _, _ => .fail
def xslice3 (P : Program) (H : Heap) (S : Slots) (t : TypeId) (x : SV) (lo : Option Operand) (hi mx : Operand) : Tree SV := match P.underlying t, x with
  | some (.slice e), .sl h0 wd off _ => if szIs P e wd then match rowAt H h0 with
    | some (.row _ _ L) => match bound S (some mx) 0, bound S (some hi) 0, bound S lo 0 with
      | some (mn, m), some (hn, h), some (ln, _) => .need (within mn (L.length - off)) (.need (within hn m) (.need (within ln h) (.ret .junk)))
      | _, _, _ => .fail
    | _ => .fail
    else .fail
  | _, _ => .fail
def xeq (P : Program) : Nat → TypeId → SV → SV → Option Bool
  | 0, _, _, _ => none
  | n + 1, t, x, y => match P.underlying t, x, y with
    | some (.int _), .lit (.int k a), .lit (.int l b) => if kindEq k l then some (a == b) else none
    | some .bool, .lit (.bool a), .lit (.bool b) => some (a == b)
    | some .string, .lit (.string a), .lit (.string b) => some (a == b)
    | some (.struct fs), .agg xs, .agg ys => if P.stoodInHeld t then none else fs.toList.foldr (fun f r => if f.name = "_" then r else
        match partO P f.type xs f.offset, partO P f.type ys f.offset, r with
        | some a, some b, some c => match xeq P n f.type a b with
          | some d => some (d && c)
          | none => none
        | _, _, _ => none) (some true)
    | _, _, _ => none
def xbin (P : Program) (op : BinOp) (t : TypeId) (x y : SV) : Tree SV := match op, x, y with
  | .shl, .lit (.int k a), .lit (.int _ b) => .need (0 ≤ b) (.ret (.lit (.int k (k.wrap (a * 2 ^ (min b.toNat k.bits))))))
  | .shr, .lit (.int k a), .lit (.int _ b) => .need (0 ≤ b) (.ret (.lit (.int k (a.fdiv (2 ^ (min b.toNat k.bits))))))
  | op, .lit (.int k a), .lit (.int l b) => if kindEq k l then match op with
    | .add => .ret (.lit (.int k (k.wrap (a + b))))
    | .sub => .ret (.lit (.int k (k.wrap (a - b))))
    | .mul => .ret (.lit (.int k (k.wrap (a * b))))
    | .quo => .need (b ≠ 0) (.ret (.lit (.int k (k.wrap (a.tdiv b)))))
    | .rem => .need (b ≠ 0) (.ret (.lit (.int k (a.tmod b))))
    | .and => .ret (.lit (.int k (k.wrap (BitVec.ofInt k.bits a &&& BitVec.ofInt k.bits b).toNat)))
    | .or => .ret (.lit (.int k (k.wrap (BitVec.ofInt k.bits a ||| BitVec.ofInt k.bits b).toNat)))
    | .xor => .ret (.lit (.int k (k.wrap (BitVec.ofInt k.bits a ^^^ BitVec.ofInt k.bits b).toNat)))
    | .andNot => .ret (.lit (.int k (k.wrap (BitVec.ofInt k.bits a &&& ~~~(BitVec.ofInt k.bits b)).toNat)))
    | .eql => .ret (.lit (.bool (a == b)))
    | .neq => .ret (.lit (.bool (a != b)))
    | .lss => .ret (.lit (.bool (decide (a < b))))
    | .leq => .ret (.lit (.bool (decide (a ≤ b))))
    | .gtr => .ret (.lit (.bool (decide (a > b))))
    | .geq => .ret (.lit (.bool (decide (a ≥ b))))
    | _ => .fail
    else .fail
  | .add, .lit (.string a), .lit (.string b) => .need (((a.size + b.size : Nat) : Int) ≤ 9223372036854775807) (.ret (.lit (.string (a ++ b))))
  | .eql, .lit (.string a), .lit (.string b) => .ret (.lit (.bool (a == b)))
  | .neq, .lit (.string a), .lit (.string b) => .ret (.lit (.bool (!(a == b))))
  | .lss, .lit (.string a), .lit (.string b) => .ret (.lit (.bool (Op.bytesLess a.data.toList b.data.toList)))
  | .leq, .lit (.string a), .lit (.string b) => .ret (.lit (.bool (Op.bytesLess a.data.toList b.data.toList || (a == b))))
  | .gtr, .lit (.string a), .lit (.string b) => .ret (.lit (.bool (!(Op.bytesLess a.data.toList b.data.toList || (a == b)))))
  | .geq, .lit (.string a), .lit (.string b) => .ret (.lit (.bool (!(Op.bytesLess a.data.toList b.data.toList))))
  | .eql, .lit (.bool a), .lit (.bool b) => match P.underlying t with
    | some .bool => .ret (.lit (.bool (a == b)))
    | _ => .fail
  | .neq, .lit (.bool a), .lit (.bool b) => match P.underlying t with
    | some .bool => .ret (.lit (.bool (!(a == b))))
    | _ => .fail
  | .eql, .ptr _ _, .lit (.pointer none) => match P.underlying t with
    | some (.pointer _) => .ret (.lit (.bool false))
    | _ => .fail
  | .neq, .ptr _ _, .lit (.pointer none) => match P.underlying t with
    | some (.pointer _) => .ret (.lit (.bool true))
    | _ => .fail
  | .eql, .tref _ _, .lit (.pointer none) => match P.underlying t with
    | some (.pointer _) => .ret (.lit (.bool false))
    | _ => .fail
  | .neq, .tref _ _, .lit (.pointer none) => match P.underlying t with
    | some (.pointer _) => .ret (.lit (.bool true))
    | _ => .fail
  | .eql, .lit (.pointer none), .lit (.pointer none) => match P.underlying t with
    | some (.pointer _) => .ret (.lit (.bool true))
    | _ => .fail
  | .neq, .lit (.pointer none), .lit (.pointer none) => match P.underlying t with
    | some (.pointer _) => .ret (.lit (.bool false))
    | _ => .fail
  | .eql, .agg xs, .agg ys => if P.eqGuardType P.depth t then .fail else match xeq P 8 t (.agg xs) (.agg ys) with
    | some b => .ret (.lit (.bool b))
    | none => .fail
  | .neq, .agg xs, .agg ys => if P.eqGuardType P.depth t then .fail else match xeq P 8 t (.agg xs) (.agg ys) with
    | some b => .ret (.lit (.bool (!b)))
    | none => .fail
  | _, _, _ => .fail
def xun (op : UnOp) (x : SV) : Tree SV := match op, x with
  | .not, .lit (.bool b) => .ret (.lit (.bool (!b)))
  | .neg, .lit (.int k a) => .ret (.lit (.int k (k.wrap (0 - a))))
  | _, _ => .fail
def xconv (P : Program) (H : Heap) (src dst : TypeId) (x : SV) : Tree SV := match P.underlying src, P.underlying dst, x with
  | some _, some (.int k), .lit (.int _ n) => .ret (.lit (.int k (k.wrap n)))
  | some _, some .string, .lit (.string s) => .ret (.lit (.string s))
  | some (.slice e), some .string, .sl h wd off len => match P.underlying e, rowAt H h with
    | some (.int .u8), some (.row _ (.int .u8) L) => if Nat.beq wd 1 then .need (off + len ≤ L.length) (.ret (.lit (.string (bsOf ((L.drop off).take len))))) else .fail
    | _, _ => .fail
  | some (.slice e), some .string, .imm (.int .u8) L => match P.underlying e with
    | some (.int .u8) => .ret (.lit (.string (bsOf L)))
    | _ => .fail
  | some (.pointer t), some .unsafePointer, .ptr h off => match H[h]?, P.info? t with
    | some (.cells _ cs), some i => if Nat.blt off cs.length && Nat.blt 0 i.size then .ret (.ptr h off) else .fail
    | _, _ => .fail
  | _, _, _ => .fail
def xlen (P : Program) (t : TypeId) (x : SV) : Tree SV := match P.underlying t, x with
  | some .string, .lit (.string s) => .ret (.lit (.int .i64 s.size))
  | some (.slice _), .lit (.slice _ n _) => .ret (.lit (.int .i64 n))
  | some (.slice _), .sl _ _ _ n => .ret (.lit (.int .i64 n))
  | some (.slice _), .imm _ l => .ret (.lit (.int .i64 l.length))
  | _, _ => .fail
def xminmax.go (f : Int → Int → Int) (k : IntKind) (x : Int) : List SV → Tree SV
  | [] => .ret (.lit (.int k x))
  | .lit (.int _ y) :: r => xminmax.go f k (f x y) r
  | _ => .fail
def xminmax (f : Int → Int → Int) : List SV → Tree SV
  | .lit (.int k x) :: r => xminmax.go f k x r
  | _ => .fail
def xextract (x : SV) (i : Nat) : Tree SV := match x with
  | .tup cs => match cs[i]? with
    | some v => .ret v
    | none => .fail
  | _ => .fail
def xnil : SV → Tree SV
  | .ptr h o => .ret (.ptr h o)
  | .ept h wd i j => .ret (.ept h wd i j)
  | .ipt t l i j => .ret (.ipt t l i j)
  | .tref h i => .ret (.tref h i)
  | _ => .fail
def SV.lays : SV → Bool
  | .junk => false
  | .tup _ => false
  | .lit (.tuple _) => false
  | _ => true
def putAt (cs : List SV) (off : Nat) (new : List SV) : List SV := cs.take off ++ new ++ cs.drop (off + new.length)
def fills (S : Slots) (place : Nat → Option (Nat × Nat)) : List SV → List (Nat × Operand) → Option (List SV)
  | cs, [] => some cs
  | cs, (i, x) :: r => match place i with
    | some (off, n) => let new := (ev S x).cells
      if (ev S x).lays && Nat.beq new.length n && Nat.ble (off + n) cs.length then fills S place (putAt cs off new) r else none
    | none => none
def zeros (P : Program) (t : TypeId) : Option (List SV) := match P.info? t with
  | some i => match i.zero with
    | some z => some (z.cells.toList.map .lit)
    | none => none
  | none => none
def xbuild (P : Program) (S : Slots) (t : TypeId) (parts : List (Nat × Operand)) : Tree SV := match P.underlying t, zeros P t with
  | some (.struct fs), some z => if fs.toList.all (fun f => (P.info? f.type).isSome) then match fills S (fun i => (fs[i]?).map fun f => (f.offset, P.cellsOf f.type)) z parts with
    | some cs => .ret (.agg cs)
    | none => .fail
    else .fail
  | some (.array _ e), some z => match P.info? e with
    | some i => match fills S (fun k => some (k * i.size, i.size)) z parts with
      | some cs => .ret (.agg cs)
      | none => .fail
    | none => .fail
  | _, _ => .fail
def Ty.takes (t : Ty) : Nat → List SV → Option (List t.den)
  | 0, [] => some []
  | 0, _ => none
  | n + 1, cs => match t.take cs with
    | some (x, r) => match t.takes n r with
      | some l => some (x :: l)
      | none => none
    | none => none
def reps (n : Nat) (z : List SV) : List SV := match n with
  | 0 => []
  | n + 1 => z ++ reps n z
def xbuildSlice (P : Program) (S : Slots) (t : TypeId) (len : Nat) (parts : List (Nat × Operand)) : Option SO := match P.underlying t with
  | some (.slice e) => match tyOf P 6 e, zeros P e with
    | some ty, some z => let n := ty.width
      if szIs P e n && Nat.beq z.length n && Nat.ble (len * n) 16777216 && Nat.blt 0 n then
        match fills S (fun i => some (i * n, n)) (reps len z) parts with
        | some cs => match ty.takes len cs with
          | some l => some (.row e ty l)
          | none => none
        | none => none
      else none
    | _, _ => none
  | _ => none
def xbuildP (P : Program) (S : Slots) (H : Heap) (t : TypeId) (n : Nat) (parts : List (Nat × Operand)) : Tree (SV × Option SO) := match P.underlying t, n, parts with
  | some (.slice e), 1, [(0, x)] => match ev S x with
    | .agg cs => match tyOf P 6 e, zeros P e with
      | some ty, some z => match ty.col with
        | some c => if szIs P e ty.width && (Nat.beq z.length ty.width && (Nat.beq cs.length ty.width && (Nat.ble ty.width 16777216 && Nat.blt 0 ty.width))) then match cs[c.j]? with
          | some (.sl g wd 0 len) => match H[g]? with
            | some (.hold e2 u M) => match u.same c.u, ty.ofCells (cs.set c.j (.imm u (M.take len))) with
              | some _, some y => if Nat.beq wd u.width then .need (len ≤ M.length) (.ret (.sl H.length ty.width 0 1, some (.prow e e2 ty y g len))) else .fail
              | _, _ => .fail
            | _ => .fail
          | _ => .fail
          else .fail
        | none => .fail
      | _, _ => .fail
    | _ => .fail
  | _, _, _ => .fail
def ofTree (x : Tree SV) : Tree (SV × Option SO) := x.bind fun v => .ret (v, none)
def xval (P : Program) (S : Slots) (H : Heap) : Op → Tree (SV × Option SO)
  | .move x => .ret (ev S x, none)
  | .assign x => .ret (ev S x, none)
  | .pick c a b => match ev S c with
    | .lit (.bool c) => .ite c (.ret (ev S a, none)) (.ret (ev S b, none))
    | _ => .fail
  | .alloc t => match zeros P t with
    | some z => .ret (.ptr H.length 0, some (.cells t z))
    | none => .fail
  | .box t x => if (ev S x).lays then .ret (.ptr H.length 0, some (.cells t (ev S x).cells)) else .fail
  | .build t ps => ofTree (xbuild P S t ps.toList)
  | .buildSlice t n ps => match xbuildSlice P S t n ps.toList with
    | some (.row e ty l) => .ret (.sl H.length ty.width 0 n, some (.row e ty l))
    | _ => xbuildP P S H t n ps.toList
  | .load t a => ofTree (xload P H t (ev S a))
  | .nilCheck x => ofTree (xnil (ev S x))
  | .binOp op t x y _ => ofTree (xbin P op t (ev S x) (ev S y))
  | .unOp op _ x => ofTree (xun op (ev S x))
  | .convert s d x => ofTree (xconv P H s d (ev S x))
  | .slice t x lo hi none => ofTree (xslice P H S t (ev S x) lo hi)
  | .slice t x lo (some hi) (some mx) => ofTree (xslice3 P H S t (ev S x) lo hi mx)
  | .fieldAddr s x f => ofTree (xfieldAddr P s f (ev S x))
  | .field s x f => ofTree (xfield P s f (ev S x))
  | .indexAddr t x i => ofTree (xindexAddr P t (ev S x) (ev S i))
  | .index t x i => ofTree (xindex P t (ev S x) (ev S i))
  | .extract x i => ofTree (xextract (ev S x) i)
  | .makeFunc f first cap => if cap.isEmpty then .ret (.fn f (first.toList.map (ev S)), none) else .fail
  | .call { callee := .builtin .len, args, argTypes } => match args.toList, argTypes.toList with
    | [x], [t] => ofTree (xlen P t (ev S x))
    | _, _ => .fail
  | .call { callee := .builtin .min, args, .. } => ofTree (xminmax (fun x y => min x y) (args.toList.map (ev S)))
  | .call { callee := .builtin .max, args, .. } => ofTree (xminmax (fun x y => max x y) (args.toList.map (ev S)))
  | _ => .fail
end Sx
