/- Part of a proof: the walk of the functions that the law calls. -/
import Derived.Test.YtabnecedcnlpcaaGreatXT6e
set_option linter.unusedVariables false
open Go Sx Go.Proofs
namespace W5
set_option maxRecDepth 100000
set_option maxHeartbeats 1000000
attribute [local irreducible] Tree.Leads
/-- A name's number. -/
def numAt (l : List (ByteArray × Int)) (s : ByteArray) : Int := (l.getD (l.findIdx fun p => p.1 == s) (ByteArray.empty, 0)).2
def addAt (l : List (ByteArray × Int)) (s : ByteArray) (n : Int) : List (ByteArray × Int) := if l.any (fun p => p.1 == s) then l.set (l.findIdx fun p => p.1 == s) (s, IntKind.i64.wrap (numAt l s + n)) else l ++ [(s, IntKind.i64.wrap n)]
theorem any_find {l : List (ByteArray × Int)} {s : ByteArray} (h : l.any (fun p => p.1 == s) = true) : l.findIdx (fun p => p.1 == s) < l.length ∧ (l.getD (l.findIdx fun p => p.1 == s) (ByteArray.empty, 0)).1 = s := by
  have h1 : l.findIdx (fun p => p.1 == s) < l.length := List.findIdx_lt_length.2 (by simpa using h)
  refine ⟨h1, ?_⟩
  rw [List.getD_eq_getElem?_getD, List.getElem?_eq_getElem h1]
  exact bytes_eq (List.findIdx_getElem (w := h1) : (fun p : ByteArray × Int => p.1 == s) _ = true)
theorem beq_self_bytes (s : ByteArray) : (s == s) = true := by rw [← Sx.beq_bytes]; simp
theorem none_find {l : List (ByteArray × Int)} {s : ByteArray} (h : l.any (fun p => p.1 == s) = false) : numAt l s = 0 := by
  have : l.findIdx (fun p => p.1 == s) = l.length := by
    rw [List.findIdx_eq_length]
    intro x hx
    have := List.any_eq_false.1 h x hx
    simpa using this
  unfold numAt
  rw [this, List.getD_eq_getElem?_getD, List.getElem?_eq_none (Nat.le_refl _)]; rfl
theorem wrapw (a n : Int) : IntKind.i64.wrap (a + IntKind.i64.wrap (0 + n)) = IntKind.i64.wrap (a + n) := by simp only [IntKind.wrap_i64]; omega
theorem wrapw0 (n : Int) : IntKind.i64.wrap (0 + n) = IntKind.i64.wrap n := by rw [Int.zero_add]
theorem w32 : IntKind.i32.wrap (1 + -1) = 0 := by decide
def An14 : Nat → Option Ann := An1 999998 { live := [], mv := [1], head := hd0 }
theorem ne_of_any {l : List (ByteArray × Int)} {s : ByteArray} (h : l.any (fun p => p.1 == s) = false) : ∀ p ∈ l, p.1 = s → False := fun p hp e => by
  have := List.any_eq_false.1 h p hp
  rw [e] at this
  exact this (beq_self_bytes s)
theorem v14 (l : List (ByteArray × Int)) (s : ByteArray) (n : Int) (Q : SV × Heap × List Nat → Prop) (hs : s.size ≤ 281474976710656) (hl : l.length ≤ 1000000)
    (hq : Q (.lit (.int .i64 (IntKind.i64.wrap (numAt l s + n))), [.cells 40 (bcells 1 (.mp 1)), mapOf (addAt l s n)], [1, 1])) :
    (bodySumm T8 Tryz.prog Tryz.f6 An14 [.ptr 0 0, .lit (.string s), .lit (.int .i64 n)] [.cells 40 (bcells 1 (.mp 1)), mapOf l]).Leads Q := by
  refine Sx.by_text (q :=
      (Sx.mapR Go.Proofs.Tryz.prog (9 : Go.TypeId) = Sx.mapR Go.Proofs.Tryz.prog (9 : Nat) ∧ ByteArray.size s ≤ Go.maxLen) ∧ br (List.any l fun (p : ByteArray × Int) => Prod.fst
      p == s) (((0 : Int) ≤ (0 : Int) ∧ (0 : Int) < (↑(1 : Nat) : Int)) ∧ (0 : Nat) < (1 : Nat) ∧ List.findIdx (fun (p : ByteArray × Int) => Prod.fst p == s) l < List.length l ∧
      Q (SV.lit (Value.int IntKind.i64 (IntKind.wrap IntKind.i64 (Prod.snd (List.getD l (List.findIdx (fun (p : ByteArray × Int) => Prod.fst p == s) l) (ByteArray.empty, (0 :
      Int))) + IntKind.wrap IntKind.i64 ((0 : Int) + List.getD [n] (0 : Nat) (Ty.dflt (Ty.int IntKind.i64)))))), [SO.cells (40 : Nat) [SV.lit (Value.int IntKind.u32 (1 : Int)),
      SV.lit (Value.int IntKind.i32 (0 : Int)), SV.lit (Value.int IntKind.u32 (0 : Int)), SV.lit (Value.int IntKind.i32 (IntKind.wrap IntKind.i32 ((1 : Int) + (-1 : Int)))),
      SV.lit (Value.int IntKind.u32 (0 : Int)), SV.mp (1 : Nat)], SO.tmap (Sx.mapR Go.Proofs.Tryz.prog (9 : Go.TypeId)) (64 : Nat) (List.set l (List.findIdx (fun (p : ByteArray
      × Int) => Prod.fst p == s) l) (Prod.fst (List.getD l (List.findIdx (fun (p : ByteArray × Int) => Prod.fst p == s) l) (ByteArray.empty, (0 : Int))), IntKind.wrap
      IntKind.i64 (Prod.snd (List.getD l (List.findIdx (fun (p : ByteArray × Int) => Prod.fst p == s) l) (ByteArray.empty, (0 : Int))) + IntKind.wrap IntKind.i64 ((0 : Int) +
      List.getD [n] (0 : Nat) (Ty.dflt (Ty.int IntKind.i64))))))], [(1 : Nat), (1 : Nat)])) (∀ (b : Bool), True → br b (ByteArray.size s ≤ (281474976710656 : Nat) ∧ (Sx.mapR
      Go.Proofs.Tryz.prog (9 : Go.TypeId) = Sx.mapR Go.Proofs.Tryz.prog (9 : Nat) ∧ ByteArray.size s ≤ Go.maxLen ∧ List.length l < Go.maxLen ∧ ∀ (p : ByteArray × Int), p ∈ l →
      Prod.fst p = s → False) ∧ ((0 : Int) ≤ (0 : Int) ∧ (0 : Int) < (↑(1 : Nat) : Int)) ∧ (0 : Nat) < (1 : Nat) ∧ List.length l < List.length (l ++ [(s, (0 : Int))]) ∧ Q
      (SV.lit (Value.int IntKind.i64 (IntKind.wrap IntKind.i64 (Prod.snd (List.getD (l ++ [(s, (0 : Int))]) (List.length l) (ByteArray.empty, (0 : Int))) + IntKind.wrap
      IntKind.i64 ((0 : Int) + List.getD [n] (0 : Nat) (Ty.dflt (Ty.int IntKind.i64)))))), [SO.cells (40 : Nat) [SV.lit (Value.int IntKind.u32 (1 : Int)), SV.lit (Value.int
      IntKind.i32 (0 : Int)), SV.lit (Value.int IntKind.u32 (0 : Int)), SV.lit (Value.int IntKind.i32 (IntKind.wrap IntKind.i32 ((1 : Int) + (-1 : Int)))), SV.lit (Value.int
      IntKind.u32 (0 : Int)), SV.mp (1 : Nat)], SO.tmap (Sx.mapR Go.Proofs.Tryz.prog (9 : Go.TypeId)) (64 : Nat) (List.set (l ++ [(s, (0 : Int))]) (List.length l) (Prod.fst
      (List.getD (l ++ [(s, (0 : Int))]) (List.length l) (ByteArray.empty, (0 : Int))), IntKind.wrap IntKind.i64 (Prod.snd (List.getD (l ++ [(s, (0 : Int))]) (List.length l)
      (ByteArray.empty, (0 : Int))) + IntKind.wrap IntKind.i64 ((0 : Int) + List.getD [n] (0 : Nat) (Ty.dflt (Ty.int IntKind.i64))))))], [(1 : Nat), (1 : Nat)])) (ByteArray.size
      s ≤ (281474976710656 : Nat) ∧ (Sx.mapR Go.Proofs.Tryz.prog (9 : Go.TypeId) = Sx.mapR Go.Proofs.Tryz.prog (9 : Nat) ∧ ByteArray.size s ≤ Go.maxLen ∧ List.length l <
      Go.maxLen ∧ ∀ (p : ByteArray × Int), p ∈ l → Prod.fst p = s → False) ∧ ((0 : Int) ≤ (0 : Int) ∧ (0 : Int) < (↑(1 : Nat) : Int)) ∧ (0 : Nat) < (1 : Nat) ∧ List.length l <
      List.length (l ++ [(s, (0 : Int))]) ∧ Q (SV.lit (Value.int IntKind.i64 (IntKind.wrap IntKind.i64 (Prod.snd (List.getD (l ++ [(s, (0 : Int))]) (List.length l)
      (ByteArray.empty, (0 : Int))) + IntKind.wrap IntKind.i64 ((0 : Int) + List.getD [n] (0 : Nat) (Ty.dflt (Ty.int IntKind.i64)))))), [SO.cells (40 : Nat) [SV.lit (Value.int
      IntKind.u32 (1 : Int)), SV.lit (Value.int IntKind.i32 (0 : Int)), SV.lit (Value.int IntKind.u32 (0 : Int)), SV.lit (Value.int IntKind.i32 (IntKind.wrap IntKind.i32 ((1 :
      Int) + (-1 : Int)))), SV.lit (Value.int IntKind.u32 (0 : Int)), SV.mp (1 : Nat)], SO.tmap (Sx.mapR Go.Proofs.Tryz.prog (9 : Go.TypeId)) (64 : Nat) (List.set (l ++ [(s, (0
      : Int))]) (List.length l) (Prod.fst (List.getD (l ++ [(s, (0 : Int))]) (List.length l) (ByteArray.empty, (0 : Int))), IntKind.wrap IntKind.i64 (Prod.snd (List.getD (l ++
      [(s, (0 : Int))]) (List.length l) (ByteArray.empty, (0 : Int))) + IntKind.wrap IntKind.i64 ((0 : Int) + List.getD [n] (0 : Nat) (Ty.dflt (Ty.int IntKind.i64))))))], [(1 :
      Nat), (1 : Nat)])))) (by kernel_rfl) ?_
  have hs' : s.size ≤ maxLen := by unfold maxLen; omega
  have hl' : l.length < maxLen := by unfold maxLen; omega
  refine ⟨⟨rfl, hs'⟩, br_intro (fun h => ?_) (fun h => ?_)⟩
  · obtain ⟨h1, h2⟩ := any_find h
    refine ⟨by omega, by omega, h1, ?_⟩
    simp only [addAt, numAt, h, if_true] at hq
    rw [h2]
    show Q _
    have e : [n].getD 0 (Ty.int IntKind.i64).dflt = n := rfl
    rw [e, wrapw, w32]
    exact hq
  · have e : [n].getD 0 (Ty.int IntKind.i64).dflt = n := rfl
    have e2 : (l ++ [(s, (0 : Int))]).getD l.length (ByteArray.empty, 0) = (s, 0) := by simp
    have e3 : ∀ x, (l ++ [(s, (0 : Int))]).set l.length x = l ++ [x] := fun x => by simp
    rw [e, e2, e3, wrapw, w32, Int.zero_add]
    have hl0 : addAt l s n = l ++ [(s, IntKind.i64.wrap n)] := by simp [addAt, h]
    rw [hl0, none_find h, Int.zero_add] at hq
    have hlen : l.length < (l ++ [(s, (0 : Int))]).length := by simp
    refine fun b _ => br_intro (fun _ => ⟨hs, ⟨rfl, hs', hl', ne_of_any h⟩, by omega, by omega, hlen, hq⟩) (fun _ => ⟨hs, ⟨rfl, hs', hl', ne_of_any h⟩, by omega, by omega, hlen, hq⟩)
theorem v14n (s : ByteArray) (n : Int) (Q : SV × Heap × List Nat → Prop) (hs : s.size ≤ 281474976710656)
    (hq : Q (.lit (.int .i64 (IntKind.i64.wrap n)), [.cells 40 (bcells 1 (.mp 1)), mapOf [(s, IntKind.i64.wrap n)]], [1])) :
    (bodySumm T8 Tryz.prog Tryz.f6 An14 [.ptr 0 0, .lit (.string s), .lit (.int .i64 n)] [.cells 40 (bcells 0 (.lit (.map none)))]).Leads Q := by
  refine Sx.by_text (q :=
      (Sx.mapR Go.Proofs.Tryz.prog (9 : Nat) = Sx.mapR Go.Proofs.Tryz.prog (9 : Nat) ∧ ByteArray.size s ≤ Go.maxLen) ∧ ∀ (b : Bool), True → br b (ByteArray.size s ≤
      (281474976710656 : Nat) ∧ (Sx.mapR Go.Proofs.Tryz.prog (9 : Nat) = Sx.mapR Go.Proofs.Tryz.prog (9 : Nat) ∧ ByteArray.size s ≤ Go.maxLen ∧ (0 : Nat) < Go.maxLen ∧ ∀ (p :
      ByteArray × Int), p ∈ [] → Prod.fst p = s → False) ∧ ((0 : Int) ≤ (0 : Int) ∧ (0 : Int) < (↑(1 : Nat) : Int)) ∧ (0 : Nat) < (1 : Nat) ∧ (0 : Nat) < (1 : Nat) ∧ Q (SV.lit
      (Value.int IntKind.i64 (IntKind.wrap IntKind.i64 ((0 : Int) + IntKind.wrap IntKind.i64 ((0 : Int) + List.getD [n] (0 : Nat) (Ty.dflt (Ty.int IntKind.i64)))))), [SO.cells
      (40 : Nat) [SV.lit (Value.int IntKind.u32 (1 : Int)), SV.lit (Value.int IntKind.i32 (IntKind.wrap IntKind.i32 ((1 : Int) + (-1 : Int)))), SV.lit (Value.int IntKind.u32 (0
      : Int)), SV.lit (Value.int IntKind.i32 (IntKind.wrap IntKind.i32 ((1 : Int) + (-1 : Int)))), SV.lit (Value.int IntKind.u32 (0 : Int)), SV.mp (1 : Nat)], SO.tmap (Sx.mapR
      Go.Proofs.Tryz.prog (9 : Nat)) (64 : Nat) [(s, IntKind.wrap IntKind.i64 ((0 : Int) + IntKind.wrap IntKind.i64 ((0 : Int) + List.getD [n] (0 : Nat) (Ty.dflt (Ty.int
      IntKind.i64)))))]], [(1 : Nat)])) (ByteArray.size s ≤ (281474976710656 : Nat) ∧ (Sx.mapR Go.Proofs.Tryz.prog (9 : Nat) = Sx.mapR Go.Proofs.Tryz.prog (9 : Nat) ∧
      ByteArray.size s ≤ Go.maxLen ∧ (0 : Nat) < Go.maxLen ∧ ∀ (p : ByteArray × Int), p ∈ [] → Prod.fst p = s → False) ∧ ((0 : Int) ≤ (0 : Int) ∧ (0 : Int) < (↑(1 : Nat) : Int))
      ∧ (0 : Nat) < (1 : Nat) ∧ (0 : Nat) < (1 : Nat) ∧ Q (SV.lit (Value.int IntKind.i64 (IntKind.wrap IntKind.i64 ((0 : Int) + IntKind.wrap IntKind.i64 ((0 : Int) + List.getD
      [n] (0 : Nat) (Ty.dflt (Ty.int IntKind.i64)))))), [SO.cells (40 : Nat) [SV.lit (Value.int IntKind.u32 (1 : Int)), SV.lit (Value.int IntKind.i32 (IntKind.wrap IntKind.i32
      ((1 : Int) + (-1 : Int)))), SV.lit (Value.int IntKind.u32 (0 : Int)), SV.lit (Value.int IntKind.i32 (IntKind.wrap IntKind.i32 ((1 : Int) + (-1 : Int)))), SV.lit (Value.int
      IntKind.u32 (0 : Int)), SV.mp (1 : Nat)], SO.tmap (Sx.mapR Go.Proofs.Tryz.prog (9 : Nat)) (64 : Nat) [(s, IntKind.wrap IntKind.i64 ((0 : Int) + IntKind.wrap IntKind.i64
      ((0 : Int) + List.getD [n] (0 : Nat) (Ty.dflt (Ty.int IntKind.i64)))))]], [(1 : Nat)]))) (by kernel_rfl) ?_
  have hs' : s.size ≤ maxLen := by unfold maxLen; omega
  have hl' : 0 < maxLen := by unfold maxLen; omega
  have e : [n].getD 0 (Ty.int IntKind.i64).dflt = n := rfl
  rw [e, wrapw, w32, Int.zero_add]
  have hno : ∀ p ∈ ([] : List (ByteArray × Int)), p.1 = s → False := fun p hp => by cases hp
  refine ⟨⟨rfl, hs'⟩, fun b _ => br_intro (fun _ => ⟨hs, ⟨rfl, hs', hl', hno⟩, by omega, by omega, by omega, hq⟩) (fun _ => ⟨hs, ⟨rfl, hs', hl', hno⟩, by omega, by omega, by omega, hq⟩)⟩
theorem v16 (l : List (ByteArray × Int)) (s : ByteArray) (Q : SV × Heap × List Nat → Prop) (hs : s.size ≤ maxLen)
    (hq : Q (.lit (.int .i64 (numAt l s)), [.cells 40 (bcells 1 (.mp 1)), mapOf l], [1])) :
    (bodySumm T8 Tryz.prog Tryz.f7 noAn [.ptr 0 0, .lit (.string s)] [.cells 40 (bcells 1 (.mp 1)), mapOf l]).Leads Q := by
  refine Sx.by_text (q :=
      (Sx.mapR Go.Proofs.Tryz.prog (9 : Go.TypeId) = Sx.mapR Go.Proofs.Tryz.prog (9 : Nat) ∧ ByteArray.size s ≤ Go.maxLen) ∧ br (List.any l fun (p : ByteArray × Int) => Prod.fst
      p == s) (List.findIdx (fun (p : ByteArray × Int) => Prod.fst p == s) l < List.length l ∧ Q (SV.lit (Value.int IntKind.i64 (Prod.snd (List.getD l (List.findIdx (fun (p :
      ByteArray × Int) => Prod.fst p == s) l) (ByteArray.empty, (0 : Int))))), [SO.cells (40 : Nat) [SV.lit (Value.int IntKind.u32 (1 : Int)), SV.lit (Value.int IntKind.i32 (0 :
      Int)), SV.lit (Value.int IntKind.u32 (0 : Int)), SV.lit (Value.int IntKind.i32 (IntKind.wrap IntKind.i32 ((1 : Int) + (-1 : Int)))), SV.lit (Value.int IntKind.u32 (0 :
      Int)), SV.mp (1 : Nat)], SO.tmap (Sx.mapR Go.Proofs.Tryz.prog (9 : Go.TypeId)) (64 : Nat) l], [(1 : Nat)])) (Q (SV.lit (Value.int IntKind.i64 (0 : Int)), [SO.cells (40 :
      Nat) [SV.lit (Value.int IntKind.u32 (1 : Int)), SV.lit (Value.int IntKind.i32 (0 : Int)), SV.lit (Value.int IntKind.u32 (0 : Int)), SV.lit (Value.int IntKind.i32
      (IntKind.wrap IntKind.i32 ((1 : Int) + (-1 : Int)))), SV.lit (Value.int IntKind.u32 (0 : Int)), SV.mp (1 : Nat)], SO.tmap (Sx.mapR Go.Proofs.Tryz.prog (9 : Go.TypeId)) (64
      : Nat) l], [(1 : Nat)]))) (by kernel_rfl) ?_
  rw [w32]
  refine ⟨⟨rfl, hs⟩, br_intro (fun h => ⟨(any_find h).1, hq⟩) (fun h => ?_)⟩
  rw [none_find h] at hq
  exact hq
theorem v15 (l : List (ByteArray × Int)) (Q : SV × Heap × List Nat → Prop) (hl : l.length ≤ 1000000)
    (hq : Q (.sl 2 1 0 l.length, [.cells 40 (bcells 1 (.mp 1)), mapOf l, .row 9 .str (sortedNames l)], [])) :
    (bodySumm T8 Tryz.prog Tryz.f5 noAn [.ptr 0 0] [.cells 40 (bcells 1 (.mp 1)), mapOf l]).Leads Q := by
  refine Sx.by_text (q :=
      (Sx.mapR Go.Proofs.Tryz.prog (9 : Go.TypeId) = Sx.mapR Go.Proofs.Tryz.prog (9 : Go.TypeId) ∧ List.length l ≤ (1000000 : Nat)) ∧ Q (SV.sl (2 : Nat) (1 : Nat) (0 : Nat)
      (List.length l), [SO.cells (40 : Nat) [SV.lit (Value.int IntKind.u32 (1 : Int)), SV.lit (Value.int IntKind.i32 (0 : Int)), SV.lit (Value.int IntKind.u32 (0 : Int)), SV.lit
      (Value.int IntKind.i32 (IntKind.wrap IntKind.i32 ((1 : Int) + (-1 : Int)))), SV.lit (Value.int IntKind.u32 (0 : Int)), SV.mp (1 : Nat)], SO.tmap (Sx.mapR
      Go.Proofs.Tryz.prog (9 : Go.TypeId)) (64 : Nat) l, SO.row (9 : Nat) Ty.str (Sx.sortedNames l)], [])) (by kernel_rfl) ?_
  rw [w32]
  exact ⟨⟨rfl, hl⟩, hq⟩
theorem v15n (Q : SV × Heap × List Nat → Prop)
    (hq : Q (.sl 2 1 0 0, [.cells 40 (bcells 1 (.mp 1)), mapOf [], .row 9 .str []], [])) :
    (bodySumm T8 Tryz.prog Tryz.f5 noAn [.ptr 0 0] [.cells 40 (bcells 0 (.lit (.map none)))]).Leads Q := by
  refine Sx.by_text (q :=
      (Sx.mapR Go.Proofs.Tryz.prog (9 : Nat) = Sx.mapR Go.Proofs.Tryz.prog (9 : Go.TypeId) ∧ (0 : Nat) ≤ (1000000 : Nat)) ∧ Q (SV.sl (2 : Nat) (1 : Nat) (0 : Nat) (0 : Nat),
      [SO.cells (40 : Nat) [SV.lit (Value.int IntKind.u32 (1 : Int)), SV.lit (Value.int IntKind.i32 (IntKind.wrap IntKind.i32 ((1 : Int) + (-1 : Int)))), SV.lit (Value.int
      IntKind.u32 (0 : Int)), SV.lit (Value.int IntKind.i32 (IntKind.wrap IntKind.i32 ((1 : Int) + (-1 : Int)))), SV.lit (Value.int IntKind.u32 (0 : Int)), SV.mp (1 : Nat)],
      SO.tmap (Sx.mapR Go.Proofs.Tryz.prog (9 : Nat)) (64 : Nat) [], SO.row (9 : Nat) Ty.str ([] : List ByteArray)], [])) (by kernel_rfl) ?_
  rw [w32]
  exact ⟨⟨rfl, by omega⟩, hq⟩
noncomputable def s14 : Summ := fun args H => match args, H with
  | [.ptr 0 0, .lit (.string s), .lit (.int .i64 n)], [.cells 40 cs] => .need (cs = bcells 0 (.lit (.map none)) ∧ s.size ≤ 281474976710656) (.ret (.lit (.int .i64 (IntKind.i64.wrap n)), [.cells 40 (bcells 1 (.mp 1)), mapOf [(s, IntKind.i64.wrap n)]], [1]))
  | [.ptr 0 0, .lit (.string s), .lit (.int .i64 n)], [.cells 40 cs, .tmap R 64 l] => .need (cs = bcells 1 (.mp 1) ∧ R = mapR Tryz.prog 9 ∧ s.size ≤ 281474976710656 ∧ l.length ≤ 1000000) (.ret (.lit (.int .i64 (IntKind.i64.wrap (numAt l s + n))), [.cells 40 (bcells 1 (.mp 1)), mapOf (addAt l s n)], [1, 1]))
  | args, H => bodySumm T8 Tryz.prog Tryz.f6 noAn args H
theorem s14_ok : SummOK Tryz.prog 6 s14 := by
  refine summ_of_body (fn := Tryz.f6) (c := Tryz.f6.body.get!) T8_ok (by kernel_rfl) (by kernel_rfl) (by kernel_rfl) fun args H Q h => ?_
  unfold s14 at h
  split at h
  · simp only [Tree.Leads] at h
    obtain ⟨⟨rfl, hs⟩, h⟩ := h
    exact ⟨_, v14n _ _ Q hs h⟩
  · simp only [Tree.Leads] at h
    obtain ⟨⟨rfl, rfl, hs, hl⟩, h⟩ := h
    exact ⟨_, v14 _ _ _ Q hs hl h⟩
  · exact ⟨_, h⟩
noncomputable def s16 : Summ := fun args H => match args, H with
  | [.ptr 0 0, .lit (.string s)], [.cells 40 cs, .tmap R 64 l] => .need (cs = bcells 1 (.mp 1) ∧ R = mapR Tryz.prog 9 ∧ s.size ≤ maxLen) (.ret (.lit (.int .i64 (numAt l s)), [.cells 40 (bcells 1 (.mp 1)), mapOf l], [1]))
  | args, H => bodySumm T8 Tryz.prog Tryz.f7 noAn args H
theorem s16_ok : SummOK Tryz.prog 7 s16 := by
  refine summ_of_body (fn := Tryz.f7) (c := Tryz.f7.body.get!) T8_ok (by kernel_rfl) (by kernel_rfl) (by kernel_rfl) fun args H Q h => ?_
  unfold s16 at h
  split at h
  · simp only [Tree.Leads] at h
    obtain ⟨⟨rfl, rfl, hs⟩, h⟩ := h
    exact ⟨_, v16 _ _ Q hs h⟩
  · exact ⟨_, h⟩
noncomputable def s15 : Summ := fun args H => match args, H with
  | [.ptr 0 0], [.cells 40 cs] => .need (cs = bcells 0 (.lit (.map none))) (.ret (.sl 2 1 0 0, [.cells 40 (bcells 1 (.mp 1)), mapOf [], .row 9 .str []], []))
  | [.ptr 0 0], [.cells 40 cs, .tmap R 64 l] => .need (cs = bcells 1 (.mp 1) ∧ R = mapR Tryz.prog 9 ∧ l.length ≤ 1000000) (.ret (.sl 2 1 0 l.length, [.cells 40 (bcells 1 (.mp 1)), mapOf l, .row 9 .str (sortedNames l)], []))
  | args, H => bodySumm T8 Tryz.prog Tryz.f5 noAn args H
theorem s15_ok : SummOK Tryz.prog 5 s15 := by
  refine summ_of_body (fn := Tryz.f5) (c := Tryz.f5.body.get!) T8_ok (by kernel_rfl) (by kernel_rfl) (by kernel_rfl) fun args H Q h => ?_
  unfold s15 at h
  split at h
  · simp only [Tree.Leads] at h
    obtain ⟨rfl, h⟩ := h
    exact ⟨_, v15n Q h⟩
  · simp only [Tree.Leads] at h
    obtain ⟨⟨rfl, rfl, hl⟩, h⟩ := h
    exact ⟨_, v15 _ Q hl h⟩
  · exact ⟨_, h⟩
noncomputable def T9 : Table := (((T8.add 4 (.go s6)).add 6 (.go s14)).add 5 (.go s15)).add 7 (.go s16)
theorem T9_ok : TableOK Tryz.prog T9 := add_ok (add_ok (add_ok (add_ok T8_ok s6_ok) s14_ok) s15_ok) s16_ok
end W5
