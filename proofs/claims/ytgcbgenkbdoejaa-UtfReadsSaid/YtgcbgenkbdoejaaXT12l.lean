/- Part of a proof: the walk of the functions that the law calls. -/
import Derived.Test.YtgcbgenkbdoejaaSxT
import Derived.Test.YtgcbgenkbdoejaaXT12k
set_option linter.unusedVariables false
open Go Sx Go.Proofs
namespace T12
set_option maxRecDepth 100000
set_option maxHeartbeats 40000000
attribute [local irreducible] Tree.Leads
structure MkOf (i : Int) (k n : Nat) (l : List Int) : Prop where
  eq : l = marks i k n
/-- Marks, under a name. -/
noncomputable def s79h : Summ := fun args H => match args, H with
  | [.lit (.int .i64 i), .lit (.int .i64 k), .lit (.int .i64 n)], [] => .need ((0 ≤ i ∧ 0 ≤ k ∧ 0 ≤ n) ∧ k ≤ 1000000 ∧ n ≤ 1000000) (.any (List Int) (MkOf i k.toNat n.toNat) fun l => .ret (.sl 0 1 0 n.toNat, [.row 21 (.int .i32) l], []))
  | _, _ => .fail
theorem s79h_ok : SummOK Try.prog 79 s79h := by
  refine summ_of_body (fn := Try.f79) (c := Try.f79.body.get!) T3_ok (by kernel_rfl) (by kernel_rfl) (by kernel_rfl) fun args H Q h => ?_
  unfold s79h at h
  split at h
  · rename_i i k n
    simp only [Tree.Leads] at h
    obtain ⟨⟨⟨h1, h2, h3⟩, h4, h5⟩, hq⟩ := h
    obtain ⟨i, rfl⟩ : ∃ m : Nat, i = m := ⟨i.toNat, by omega⟩
    obtain ⟨k, rfl⟩ : ∃ m : Nat, k = m := ⟨k.toNat, by omega⟩
    obtain ⟨n, rfl⟩ : ∃ m : Nat, n = m := ⟨n.toNat, by omega⟩
    exact ⟨_, v79 i k n Q (by omega) (by omega) (hq _ ⟨rfl⟩)⟩
  · simp only [Tree.Leads] at h
noncomputable def K2h : Table := (T3.add 79 (.go s79h)).add 13 (.go s13k)
theorem K2h_ok : TableOK Try.prog K2h := add_ok (add_ok T3_ok s79h_ok) s13k_ok
/-- Appends both ways. -/
noncomputable def K3 : Table := K2h.add 1500022 (.ext fun _ _ => .fail)
theorem K3_ok : TableOK Try.prog K3 := add_ok K2h_ok (fun _ _ _ _ _ _ _ _ _ h => by simp only [Tree.Leads] at h)
def grown (i : Nat) : List (List Int) → List (List Int)
  | [] => []
  | l :: r => (l ++ marks i l.length 72) :: grown (i + 1) r
noncomputable def A49 (LL : List (List Int)) : Ann := { live := [0, 3, 4], mv := [1], hook := 2, hk2 := 21, nilS := [(3, 22, .imm (.int .i32))], head := fun _ _ => { X := Nat, inv := fun i => ([.ptr 0 0, .sl 2 1 0 i, .lit (.int .i64 i)], [.cells 55 (bk (.sl 1 1 0 LL.length) .junk), .lists 22 21 (.int .i32) (LL.take i) [] none (LL.drop i), .row 22 (.imm (.int .i32)) (grown 0 (LL.take i))]), ok := fun i => i ≤ LL.length, mu := fun i => LL.length - i } }
def left2 (vals : List SV) : Bool := match vals with
  | [_, _, _, .sl h _ _ _, _] => !(Nat.beq h 2)
  | _ => false
noncomputable def B49 (LL : List (List Int)) : Ann := { live := [0, 3, 4, 5, 6], mv := [1], leave := fun vals _ => left2 vals, next := 1000, head := fun vals H => match vals, H with | [a, o, .lit (.int .i64 i), _, _], [c, l, _, u] => { X := Nat, inv := fun k => ([a, o, .lit (.int .i64 i), .sl 2 1 0 ((LL.getD i.toNat []).length + k), .lit (.int .i64 k)], [c, l, .row 21 (.int .i32) (LL.getD i.toNat [] ++ marks i (LL.getD i.toNat []).length k), u]), ok := fun k => k ≤ 12, mu := fun k => 12 - k } | _, _ => { X := Nat, inv := fun _ => ([], []), ok := fun _ => False, mu := fun _ => 0 } }
noncomputable def D49 (LL : List (List Int)) : Ann := { live := [0, 3, 4, 5, 6], mv := [1], head := fun vals H => match vals, H with | [a, o, .lit (.int .i64 i), _, _], [c, l, r, u, _] => { X := Nat, inv := fun k => ([a, o, .lit (.int .i64 i), .sl 4 1 0 ((LL.getD i.toNat []).length + k), .lit (.int .i64 k)], [c, l, r, u, .row 21 (.int .i32) (LL.getD i.toNat [] ++ marks i (LL.getD i.toNat []).length k)]), ok := fun k => k ≤ 12, mu := fun k => 12 - k } | _, _ => { X := Nat, inv := fun _ => ([], []), ok := fun _ => False, mu := fun _ => 0 } }
noncomputable def Z3 : Ann := { live := [], mv := [], head := fun _ _ => { X := Nat, inv := fun _ => ([], []), ok := fun _ => False, mu := fun _ => 0 }, hook := 3, hk2 := 21 }
noncomputable def N49 (LL : List (List Int)) : Nat → Option Ann := fun k => if Nat.beq k 0 then some (A49 LL) else if Nat.beq k 2 then some (B49 LL) else if Nat.beq k 1000 then some (D49 LL) else if Nat.beq k 999999 then some Z3 else none
theorem marks_append (i : Int) (k m : Nat) : ∀ n, marks i k (m + n) = marks i k m ++ marks i (k + m) n
  | 0 => by simp [marks]
  | n + 1 => by
    rw [← Nat.add_assoc, marks, marks_append i k m n, marks, List.append_assoc]
    rw [show k + (m + n) = k + m + n by omega]
theorem grown_len (i : Nat) : ∀ l, (grown i l).length = l.length
  | [] => rfl
  | x :: l => by simp only [grown, List.length_cons, grown_len (i + 1) l]
theorem grown_snoc (x : List Int) : ∀ (l : List (List Int)) (i : Nat), grown i (l ++ [x]) = grown i l ++ [x ++ marks ((i + l.length : Nat) : Int) x.length 72]
  | [], i => rfl
  | y :: l, i => by
    simp only [List.cons_append, grown, grown_snoc x l (i + 1), List.length_cons]
    rw [show i + 1 + l.length = i + (l.length + 1) by omega]
attribute [local irreducible] marks
theorem v49 (LL : List (List Int)) (Q : SV × Heap × List Nat → Prop) (hn : LL.length ≤ 1000) (hL : ∀ l ∈ LL, l.length ≤ 900000)
    (hq : Q (.sl 2 1 0 LL.length, [.cells 55 (bk (.sl 1 1 0 LL.length) .junk), .row 22 (.imm (.int .i32)) LL, .row 22 (.imm (.int .i32)) (grown 0 LL)], [1])) :
    (bodySumm K3 Try.prog Try.f49 (N49 LL) [.ptr 0 0] [.cells 55 (bk (.sl 1 1 0 LL.length) .junk), .lists 22 21 (.int .i32) [] [] none LL]).Leads Q := by
  refine Sx.by_text (q :=
      (∃ (x : Nat), ([Sx.SV.ptr (0 : Nat) (0 : Nat), Sx.SV.sl (2 : Nat) (1 : Nat) (0 : Nat) (0 : Nat), Sx.SV.lit (Go.Value.int Go.IntKind.i64 (0 : Int))], [Sx.SO.cells (55 :
      Nat) (T12.bk (Sx.SV.sl (1 : Nat) (1 : Nat) (0 : Nat) (List.length LL)) Sx.SV.junk), Sx.SO.lists (22 : Nat) (21 : Nat) (Sx.Ty.int Go.IntKind.i32) [] [] Option.none LL,
      Sx.SO.row (22 : Nat) (Sx.Ty.imm (Sx.Ty.int Go.IntKind.i32)) []]) = ([Sx.SV.ptr (0 : Nat) (0 : Nat), Sx.SV.sl (2 : Nat) (1 : Nat) (0 : Nat) x, Sx.SV.lit (Go.Value.int
      Go.IntKind.i64 (↑x : Int))], [Sx.SO.cells (55 : Nat) (T12.bk (Sx.SV.sl (1 : Nat) (1 : Nat) (0 : Nat) (List.length LL)) Sx.SV.junk), Sx.SO.lists (22 : Nat) (21 : Nat)
      (Sx.Ty.int Go.IntKind.i32) (List.take x LL) [] Option.none (List.drop x LL), Sx.SO.row (22 : Nat) (Sx.Ty.imm (Sx.Ty.int Go.IntKind.i32)) (T12.grown (0 : Nat) (List.take x
      LL))]) ∧ x ≤ List.length LL) ∧ ∀ (b : Nat), b ≤ List.length LL → Sx.br (Decidable.decide ((0 : Nat) < List.length (List.drop b LL))) (Sx.br (Decidable.decide ((↑b : Int) <
      (↑(List.length LL) : Int))) (((0 : Int) ≤ (↑b : Int) ∧ (↑b : Int) < (↑(List.length LL) : Int)) ∧ (0 : Nat) + b = List.length (List.take b LL) ∧ (∃ (x : Nat), ([Sx.SV.ptr
      (0 : Nat) (0 : Nat), Sx.SV.sl (3 : Nat) (1 : Nat) (0 : Nat) b, Sx.SV.lit (Go.Value.int Go.IntKind.i64 (↑b : Int)), Sx.SV.sl (2 : Nat) (1 : Nat) (0 : Nat) (List.length
      (List.getD (List.drop b LL) (0 : Nat) [])), Sx.SV.lit (Go.Value.int Go.IntKind.i64 (0 : Int))], [Sx.SO.cells (55 : Nat) (T12.bk (Sx.SV.sl (1 : Nat) (1 : Nat) (0 : Nat)
      (List.length LL)) Sx.SV.junk), Sx.SO.lists (22 : Nat) (21 : Nat) (Sx.Ty.int Go.IntKind.i32) (List.take b LL) [] (Option.some ((2 : Nat), List.length (List.getD (List.drop
      b LL) (0 : Nat) []))) (List.drop (1 : Nat) (List.drop b LL)), Sx.SO.row (21 : Nat) (Sx.Ty.int Go.IntKind.i32) (List.getD (List.drop b LL) (0 : Nat) []), Sx.SO.row (22 :
      Nat) (Sx.Ty.imm (Sx.Ty.int Go.IntKind.i32)) (T12.grown (0 : Nat) (List.take b LL))]) = ([Sx.SV.ptr (0 : Nat) (0 : Nat), Sx.SV.sl (3 : Nat) (1 : Nat) (0 : Nat) b, Sx.SV.lit
      (Go.Value.int Go.IntKind.i64 (↑b : Int)), Sx.SV.sl (2 : Nat) (1 : Nat) (0 : Nat) (List.length (List.getD LL b []) + x), Sx.SV.lit (Go.Value.int Go.IntKind.i64 (↑x :
      Int))], [Sx.SO.cells (55 : Nat) (T12.bk (Sx.SV.sl (1 : Nat) (1 : Nat) (0 : Nat) (List.length LL)) Sx.SV.junk), Sx.SO.lists (22 : Nat) (21 : Nat) (Sx.Ty.int Go.IntKind.i32)
      (List.take b LL) [] (Option.some ((2 : Nat), List.length (List.getD (List.drop b LL) (0 : Nat) []))) (List.drop (1 : Nat) (List.drop b LL)), Sx.SO.row (21 : Nat)
      (Sx.Ty.int Go.IntKind.i32) (List.getD LL b [] ++ T12.marks (↑b : Int) (List.length (List.getD LL b [])) x), Sx.SO.row (22 : Nat) (Sx.Ty.imm (Sx.Ty.int Go.IntKind.i32))
      (T12.grown (0 : Nat) (List.take b LL))]) ∧ x ≤ (12 : Nat)) ∧ ∀ (b_1 : Nat), b_1 ≤ (12 : Nat) → Sx.br (Decidable.decide ((↑b_1 : Int) < (12 : Int))) ((((0 : Int) ≤ (↑b :
      Int) ∧ (0 : Int) ≤ (↑(List.length (List.getD LL b []) + b_1) : Int) ∧ (0 : Int) ≤ (1 : Int)) ∧ (↑(List.length (List.getD LL b []) + b_1) : Int) ≤ (1000000 : Int) ∧ (1 :
      Int) ≤ (1000000 : Int)) ∧ ∀ (b_2 : List Int), T12.MkOf (↑b : Int) (List.length (List.getD LL b []) + b_1) (1 : Nat) b_2 → (1 : Nat) ≤ List.length b_2 ∧ List.length
      (List.getD LL b []) + b_1 = List.length (List.getD LL b [] ++ T12.marks (↑b : Int) (List.length (List.getD LL b [])) b_1) ∧ ((↑(List.length (List.getD LL b []) + b_1 +
      List.length (List.take (1 : Nat) (List.drop (0 : Nat) b_2))) : Int) ≤ (9223372036854775807 : Int) ∧ (List.length (List.getD LL b []) + b_1 + List.length (List.take (1 :
      Nat) (List.drop (0 : Nat) b_2))) * Sx.bytesOf Go.Proofs.Try.prog (21 : Nat) ≤ (140737488355328 : Nat)) ∧ ∀ (b_3 : Bool), True → Sx.br b_3 ((∃ (x' : Nat), ([Sx.SV.ptr (0 :
      Nat) (0 : Nat), Sx.SV.sl (3 : Nat) (1 : Nat) (0 : Nat) b, Sx.SV.lit (Go.Value.int Go.IntKind.i64 (↑b : Int)), Sx.SV.sl (2 : Nat) (1 : Nat) (0 : Nat) (List.length
      (List.getD LL b []) + b_1 + List.length (List.take (1 : Nat) (List.drop (0 : Nat) b_2))), Sx.SV.lit (Go.Value.int Go.IntKind.i64 (Go.IntKind.wrap Go.IntKind.i64 ((↑b_1 :
      Int) + (1 : Int))))], [Sx.SO.cells (55 : Nat) (T12.bk (Sx.SV.sl (1 : Nat) (1 : Nat) (0 : Nat) (List.length LL)) Sx.SV.junk), Sx.SO.lists (22 : Nat) (21 : Nat) (Sx.Ty.int
      Go.IntKind.i32) (List.take b LL) [] (Option.some ((2 : Nat), List.length (List.getD (List.drop b LL) (0 : Nat) []))) (List.drop (1 : Nat) (List.drop b LL)), Sx.SO.row (21
      : Nat) (Sx.Ty.int Go.IntKind.i32) (List.getD LL b [] ++ T12.marks (↑b : Int) (List.length (List.getD LL b [])) b_1 ++ List.take (1 : Nat) (List.drop (0 : Nat) b_2)),
      Sx.SO.row (22 : Nat) (Sx.Ty.imm (Sx.Ty.int Go.IntKind.i32)) (T12.grown (0 : Nat) (List.take b LL))]) = ([Sx.SV.ptr (0 : Nat) (0 : Nat), Sx.SV.sl (3 : Nat) (1 : Nat) (0 :
      Nat) b, Sx.SV.lit (Go.Value.int Go.IntKind.i64 (↑b : Int)), Sx.SV.sl (2 : Nat) (1 : Nat) (0 : Nat) (List.length (List.getD LL b []) + x'), Sx.SV.lit (Go.Value.int
      Go.IntKind.i64 (↑x' : Int))], [Sx.SO.cells (55 : Nat) (T12.bk (Sx.SV.sl (1 : Nat) (1 : Nat) (0 : Nat) (List.length LL)) Sx.SV.junk), Sx.SO.lists (22 : Nat) (21 : Nat)
      (Sx.Ty.int Go.IntKind.i32) (List.take b LL) [] (Option.some ((2 : Nat), List.length (List.getD (List.drop b LL) (0 : Nat) []))) (List.drop (1 : Nat) (List.drop b LL)),
      Sx.SO.row (21 : Nat) (Sx.Ty.int Go.IntKind.i32) (List.getD LL b [] ++ T12.marks (↑b : Int) (List.length (List.getD LL b [])) x'), Sx.SO.row (22 : Nat) (Sx.Ty.imm
      (Sx.Ty.int Go.IntKind.i32)) (T12.grown (0 : Nat) (List.take b LL))]) ∧ x' ≤ (12 : Nat) ∧ (12 : Nat) - x' < (12 : Nat) - b_1) ∧ True) ((∃ (x : Nat), ([Sx.SV.ptr (0 : Nat)
      (0 : Nat), Sx.SV.sl (3 : Nat) (1 : Nat) (0 : Nat) b, Sx.SV.lit (Go.Value.int Go.IntKind.i64 (↑b : Int)), Sx.SV.sl (4 : Nat) (1 : Nat) (0 : Nat) (List.length (List.getD LL
      b []) + b_1 + List.length (List.take (1 : Nat) (List.drop (0 : Nat) b_2))), Sx.SV.lit (Go.Value.int Go.IntKind.i64 (Go.IntKind.wrap Go.IntKind.i64 ((↑b_1 : Int) + (1 :
      Int))))], [Sx.SO.cells (55 : Nat) (T12.bk (Sx.SV.sl (1 : Nat) (1 : Nat) (0 : Nat) (List.length LL)) Sx.SV.junk), Sx.SO.lists (22 : Nat) (21 : Nat) (Sx.Ty.int
      Go.IntKind.i32) (List.take b LL) [] (Option.some ((2 : Nat), List.length (List.getD (List.drop b LL) (0 : Nat) []))) (List.drop (1 : Nat) (List.drop b LL)), Sx.SO.row (21
      : Nat) (Sx.Ty.int Go.IntKind.i32) (List.getD LL b [] ++ T12.marks (↑b : Int) (List.length (List.getD LL b [])) b_1), Sx.SO.row (22 : Nat) (Sx.Ty.imm (Sx.Ty.int
      Go.IntKind.i32)) (T12.grown (0 : Nat) (List.take b LL)), Sx.SO.row (21 : Nat) (Sx.Ty.int Go.IntKind.i32) (List.getD LL b [] ++ T12.marks (↑b : Int) (List.length (List.getD
      LL b [])) b_1 ++ List.take (1 : Nat) (List.drop (0 : Nat) b_2))]) = ([Sx.SV.ptr (0 : Nat) (0 : Nat), Sx.SV.sl (3 : Nat) (1 : Nat) (0 : Nat) b, Sx.SV.lit (Go.Value.int
      Go.IntKind.i64 (↑b : Int)), Sx.SV.sl (4 : Nat) (1 : Nat) (0 : Nat) (List.length (List.getD LL b []) + x), Sx.SV.lit (Go.Value.int Go.IntKind.i64 (↑x : Int))], [Sx.SO.cells
      (55 : Nat) (T12.bk (Sx.SV.sl (1 : Nat) (1 : Nat) (0 : Nat) (List.length LL)) Sx.SV.junk), Sx.SO.lists (22 : Nat) (21 : Nat) (Sx.Ty.int Go.IntKind.i32) (List.take b LL) []
      (Option.some ((2 : Nat), List.length (List.getD (List.drop b LL) (0 : Nat) []))) (List.drop (1 : Nat) (List.drop b LL)), Sx.SO.row (21 : Nat) (Sx.Ty.int Go.IntKind.i32)
      (List.getD LL b [] ++ T12.marks (↑b : Int) (List.length (List.getD LL b [])) b_1), Sx.SO.row (22 : Nat) (Sx.Ty.imm (Sx.Ty.int Go.IntKind.i32)) (T12.grown (0 : Nat)
      (List.take b LL)), Sx.SO.row (21 : Nat) (Sx.Ty.int Go.IntKind.i32) (List.getD LL b [] ++ T12.marks (↑b : Int) (List.length (List.getD LL b [])) x)]) ∧ x ≤ (12 : Nat)) ∧ ∀
      (b_4 : Nat), b_4 ≤ (12 : Nat) → Sx.br (Decidable.decide ((↑b_4 : Int) < (12 : Int))) ((((0 : Int) ≤ (↑b : Int) ∧ (0 : Int) ≤ (↑(List.length (List.getD LL b []) + b_4) :
      Int) ∧ (0 : Int) ≤ (1 : Int)) ∧ (↑(List.length (List.getD LL b []) + b_4) : Int) ≤ (1000000 : Int) ∧ (1 : Int) ≤ (1000000 : Int)) ∧ ∀ (b_5 : List Int), T12.MkOf (↑b : Int)
      (List.length (List.getD LL b []) + b_4) (1 : Nat) b_5 → (1 : Nat) ≤ List.length b_5 ∧ (List.length (List.getD LL b []) + b_4 = List.length (List.getD LL b [] ++ T12.marks
      (↑b : Int) (List.length (List.getD LL b [])) b_4) ∧ (0 : Nat) < List.length (List.take (1 : Nat) (List.drop (0 : Nat) b_5))) ∧ ((↑(List.length (List.getD LL b []) + b_4 +
      List.length (List.take (1 : Nat) (List.drop (0 : Nat) b_5))) : Int) ≤ (9223372036854775807 : Int) ∧ (List.length (List.getD LL b []) + b_4 + List.length (List.take (1 :
      Nat) (List.drop (0 : Nat) b_5))) * Sx.bytesOf Go.Proofs.Try.prog (21 : Nat) ≤ (140737488355328 : Nat)) ∧ (∃ (x' : Nat), ([Sx.SV.ptr (0 : Nat) (0 : Nat), Sx.SV.sl (3 : Nat)
      (1 : Nat) (0 : Nat) b, Sx.SV.lit (Go.Value.int Go.IntKind.i64 (↑b : Int)), Sx.SV.sl (4 : Nat) (1 : Nat) (0 : Nat) (List.length (List.getD LL b []) + b_4 + List.length
      (List.take (1 : Nat) (List.drop (0 : Nat) b_5))), Sx.SV.lit (Go.Value.int Go.IntKind.i64 (Go.IntKind.wrap Go.IntKind.i64 ((↑b_4 : Int) + (1 : Int))))], [Sx.SO.cells (55 :
      Nat) (T12.bk (Sx.SV.sl (1 : Nat) (1 : Nat) (0 : Nat) (List.length LL)) Sx.SV.junk), Sx.SO.lists (22 : Nat) (21 : Nat) (Sx.Ty.int Go.IntKind.i32) (List.take b LL) []
      (Option.some ((2 : Nat), List.length (List.getD (List.drop b LL) (0 : Nat) []))) (List.drop (1 : Nat) (List.drop b LL)), Sx.SO.row (21 : Nat) (Sx.Ty.int Go.IntKind.i32)
      (List.getD LL b [] ++ T12.marks (↑b : Int) (List.length (List.getD LL b [])) b_1), Sx.SO.row (22 : Nat) (Sx.Ty.imm (Sx.Ty.int Go.IntKind.i32)) (T12.grown (0 : Nat)
      (List.take b LL)), Sx.SO.row (21 : Nat) (Sx.Ty.int Go.IntKind.i32) (List.getD LL b [] ++ T12.marks (↑b : Int) (List.length (List.getD LL b [])) b_4 ++ List.take (1 : Nat)
      (List.drop (0 : Nat) b_5))]) = ([Sx.SV.ptr (0 : Nat) (0 : Nat), Sx.SV.sl (3 : Nat) (1 : Nat) (0 : Nat) b, Sx.SV.lit (Go.Value.int Go.IntKind.i64 (↑b : Int)), Sx.SV.sl (4 :
      Nat) (1 : Nat) (0 : Nat) (List.length (List.getD LL b []) + x'), Sx.SV.lit (Go.Value.int Go.IntKind.i64 (↑x' : Int))], [Sx.SO.cells (55 : Nat) (T12.bk (Sx.SV.sl (1 : Nat)
      (1 : Nat) (0 : Nat) (List.length LL)) Sx.SV.junk), Sx.SO.lists (22 : Nat) (21 : Nat) (Sx.Ty.int Go.IntKind.i32) (List.take b LL) [] (Option.some ((2 : Nat), List.length
      (List.getD (List.drop b LL) (0 : Nat) []))) (List.drop (1 : Nat) (List.drop b LL)), Sx.SO.row (21 : Nat) (Sx.Ty.int Go.IntKind.i32) (List.getD LL b [] ++ T12.marks (↑b :
      Int) (List.length (List.getD LL b [])) b_1), Sx.SO.row (22 : Nat) (Sx.Ty.imm (Sx.Ty.int Go.IntKind.i32)) (T12.grown (0 : Nat) (List.take b LL)), Sx.SO.row (21 : Nat)
      (Sx.Ty.int Go.IntKind.i32) (List.getD LL b [] ++ T12.marks (↑b : Int) (List.length (List.getD LL b [])) x')]) ∧ x' ≤ (12 : Nat) ∧ (12 : Nat) - x' < (12 : Nat) - b_4) ∧
      True) ((((0 : Int) ≤ (↑b : Int) ∧ (0 : Int) ≤ (↑(List.length (List.getD LL b []) + b_4) : Int) ∧ (0 : Int) ≤ (60 : Int)) ∧ (↑(List.length (List.getD LL b []) + b_4) : Int)
      ≤ (1000000 : Int) ∧ (60 : Int) ≤ (1000000 : Int)) ∧ ∀ (b_5 : List Int), T12.MkOf (↑b : Int) (List.length (List.getD LL b []) + b_4) (60 : Nat) b_5 → (60 : Nat) ≤
      List.length b_5 ∧ (List.length (List.getD LL b []) + b_4 = List.length (List.getD LL b [] ++ T12.marks (↑b : Int) (List.length (List.getD LL b [])) b_4) ∧ (0 : Nat) <
      List.length (List.take (60 : Nat) (List.drop (0 : Nat) b_5))) ∧ ((↑(List.length (List.getD LL b []) + b_4 + List.length (List.take (60 : Nat) (List.drop (0 : Nat) b_5))) :
      Int) ≤ (9223372036854775807 : Int) ∧ (List.length (List.getD LL b []) + b_4 + List.length (List.take (60 : Nat) (List.drop (0 : Nat) b_5))) * Sx.bytesOf Go.Proofs.Try.prog
      (21 : Nat) ≤ (140737488355328 : Nat)) ∧ (0 : Nat) + (List.length (List.getD LL b []) + b_4 + List.length (List.take (60 : Nat) (List.drop (0 : Nat) b_5))) ≤ List.length
      (List.getD LL b [] ++ T12.marks (↑b : Int) (List.length (List.getD LL b [])) b_4 ++ List.take (60 : Nat) (List.drop (0 : Nat) b_5)) ∧ (1 : Nat) ≤ (1 : Nat) ∧ Sx.br
      (Decidable.decide (b + (1 : Nat) ≤ List.length (T12.grown (0 : Nat) (List.take b LL)))) (List.length (List.getD (List.drop b LL) (0 : Nat) []) ≤ List.length (List.getD LL
      b [] ++ T12.marks (↑b : Int) (List.length (List.getD LL b [])) b_1) ∧ (∃ (x' : Nat), ([Sx.SV.ptr (0 : Nat) (0 : Nat), Sx.SV.sl (2 : Nat) (1 : Nat) (0 : Nat) (b + (1 :
      Nat)), Sx.SV.lit (Go.Value.int Go.IntKind.i64 (Go.IntKind.wrap Go.IntKind.i64 ((↑b : Int) + (1 : Int))))], [Sx.SO.cells (55 : Nat) (T12.bk (Sx.SV.sl (1 : Nat) (1 : Nat) (0
      : Nat) (List.length LL)) Sx.SV.junk), Sx.SO.lists (22 : Nat) (21 : Nat) (Sx.Ty.int Go.IntKind.i32) (List.take b LL ++ [List.take (List.length (List.getD (List.drop b LL)
      (0 : Nat) [])) (List.getD LL b [] ++ T12.marks (↑b : Int) (List.length (List.getD LL b [])) b_1)]) [] Option.none (List.drop (1 : Nat) (List.drop b LL)), Sx.SO.row (22 :
      Nat) (Sx.Ty.imm (Sx.Ty.int Go.IntKind.i32)) (List.take b (T12.grown (0 : Nat) (List.take b LL)) ++ [List.take (List.length (List.getD LL b []) + b_4 + List.length
      (List.take (60 : Nat) (List.drop (0 : Nat) b_5))) (List.drop (0 : Nat) (List.getD LL b [] ++ T12.marks (↑b : Int) (List.length (List.getD LL b [])) b_4 ++ List.take (60 :
      Nat) (List.drop (0 : Nat) b_5)))] ++ List.drop (b + (1 : Nat)) (T12.grown (0 : Nat) (List.take b LL)))]) = ([Sx.SV.ptr (0 : Nat) (0 : Nat), Sx.SV.sl (2 : Nat) (1 : Nat) (0
      : Nat) x', Sx.SV.lit (Go.Value.int Go.IntKind.i64 (↑x' : Int))], [Sx.SO.cells (55 : Nat) (T12.bk (Sx.SV.sl (1 : Nat) (1 : Nat) (0 : Nat) (List.length LL)) Sx.SV.junk),
      Sx.SO.lists (22 : Nat) (21 : Nat) (Sx.Ty.int Go.IntKind.i32) (List.take x' LL) [] Option.none (List.drop x' LL), Sx.SO.row (22 : Nat) (Sx.Ty.imm (Sx.Ty.int
      Go.IntKind.i32)) (T12.grown (0 : Nat) (List.take x' LL))]) ∧ x' ≤ List.length LL ∧ List.length LL - x' < List.length LL - b) ∧ True) (b ≤ List.length (T12.grown (0 : Nat)
      (List.take b LL)) ∧ ((↑(b + (1 : Nat)) : Int) ≤ (9223372036854775807 : Int) ∧ (b + (1 : Nat)) * Sx.bytesOf Go.Proofs.Try.prog (22 : Nat) ≤ (140737488355328 : Nat)) ∧
      List.length (List.getD (List.drop b LL) (0 : Nat) []) ≤ List.length (List.getD LL b [] ++ T12.marks (↑b : Int) (List.length (List.getD LL b [])) b_1) ∧ (∃ (x' : Nat),
      ([Sx.SV.ptr (0 : Nat) (0 : Nat), Sx.SV.sl (2 : Nat) (1 : Nat) (0 : Nat) (b + (1 : Nat)), Sx.SV.lit (Go.Value.int Go.IntKind.i64 (Go.IntKind.wrap Go.IntKind.i64 ((↑b : Int)
      + (1 : Int))))], [Sx.SO.cells (55 : Nat) (T12.bk (Sx.SV.sl (1 : Nat) (1 : Nat) (0 : Nat) (List.length LL)) Sx.SV.junk), Sx.SO.lists (22 : Nat) (21 : Nat) (Sx.Ty.int
      Go.IntKind.i32) (List.take b LL ++ [List.take (List.length (List.getD (List.drop b LL) (0 : Nat) [])) (List.getD LL b [] ++ T12.marks (↑b : Int) (List.length (List.getD LL
      b [])) b_1)]) [] Option.none (List.drop (1 : Nat) (List.drop b LL)), Sx.SO.row (22 : Nat) (Sx.Ty.imm (Sx.Ty.int Go.IntKind.i32)) (List.take b (T12.grown (0 : Nat)
      (List.take b LL)) ++ [List.take (List.length (List.getD LL b []) + b_4 + List.length (List.take (60 : Nat) (List.drop (0 : Nat) b_5))) (List.drop (0 : Nat) (List.getD LL b
      [] ++ T12.marks (↑b : Int) (List.length (List.getD LL b [])) b_4 ++ List.take (60 : Nat) (List.drop (0 : Nat) b_5)))])]) = ([Sx.SV.ptr (0 : Nat) (0 : Nat), Sx.SV.sl (2 :
      Nat) (1 : Nat) (0 : Nat) x', Sx.SV.lit (Go.Value.int Go.IntKind.i64 (↑x' : Int))], [Sx.SO.cells (55 : Nat) (T12.bk (Sx.SV.sl (1 : Nat) (1 : Nat) (0 : Nat) (List.length
      LL)) Sx.SV.junk), Sx.SO.lists (22 : Nat) (21 : Nat) (Sx.Ty.int Go.IntKind.i32) (List.take x' LL) [] Option.none (List.drop x' LL), Sx.SO.row (22 : Nat) (Sx.Ty.imm
      (Sx.Ty.int Go.IntKind.i32)) (T12.grown (0 : Nat) (List.take x' LL))]) ∧ x' ≤ List.length LL ∧ List.length LL - x' < List.length LL - b) ∧ True)))) ((((0 : Int) ≤ (↑b :
      Int) ∧ (0 : Int) ≤ (↑(List.length (List.getD LL b []) + b_1) : Int) ∧ (0 : Int) ≤ (60 : Int)) ∧ (↑(List.length (List.getD LL b []) + b_1) : Int) ≤ (1000000 : Int) ∧ (60 :
      Int) ≤ (1000000 : Int)) ∧ ∀ (b_2 : List Int), T12.MkOf (↑b : Int) (List.length (List.getD LL b []) + b_1) (60 : Nat) b_2 → (60 : Nat) ≤ List.length b_2 ∧ List.length
      (List.getD LL b []) + b_1 = List.length (List.getD LL b [] ++ T12.marks (↑b : Int) (List.length (List.getD LL b [])) b_1) ∧ ((↑(List.length (List.getD LL b []) + b_1 +
      List.length (List.take (60 : Nat) (List.drop (0 : Nat) b_2))) : Int) ≤ (9223372036854775807 : Int) ∧ (List.length (List.getD LL b []) + b_1 + List.length (List.take (60 :
      Nat) (List.drop (0 : Nat) b_2))) * Sx.bytesOf Go.Proofs.Try.prog (21 : Nat) ≤ (140737488355328 : Nat)) ∧ ∀ (b_3 : Bool), True → Sx.br b_3 ((0 : Nat) + (List.length
      (List.getD LL b []) + b_1 + List.length (List.take (60 : Nat) (List.drop (0 : Nat) b_2))) ≤ List.length (List.getD LL b [] ++ T12.marks (↑b : Int) (List.length (List.getD
      LL b [])) b_1 ++ List.take (60 : Nat) (List.drop (0 : Nat) b_2)) ∧ (1 : Nat) ≤ (1 : Nat) ∧ Sx.br (Decidable.decide (b + (1 : Nat) ≤ List.length (T12.grown (0 : Nat)
      (List.take b LL)))) (List.length (List.getD (List.drop b LL) (0 : Nat) []) ≤ List.length (List.getD LL b [] ++ T12.marks (↑b : Int) (List.length (List.getD LL b [])) b_1
      ++ List.take (60 : Nat) (List.drop (0 : Nat) b_2)) ∧ (∃ (x' : Nat), ([Sx.SV.ptr (0 : Nat) (0 : Nat), Sx.SV.sl (2 : Nat) (1 : Nat) (0 : Nat) (b + (1 : Nat)), Sx.SV.lit
      (Go.Value.int Go.IntKind.i64 (Go.IntKind.wrap Go.IntKind.i64 ((↑b : Int) + (1 : Int))))], [Sx.SO.cells (55 : Nat) (T12.bk (Sx.SV.sl (1 : Nat) (1 : Nat) (0 : Nat)
      (List.length LL)) Sx.SV.junk), Sx.SO.lists (22 : Nat) (21 : Nat) (Sx.Ty.int Go.IntKind.i32) (List.take b LL ++ [List.take (List.length (List.getD (List.drop b LL) (0 :
      Nat) [])) (List.getD LL b [] ++ T12.marks (↑b : Int) (List.length (List.getD LL b [])) b_1 ++ List.take (60 : Nat) (List.drop (0 : Nat) b_2))]) [] Option.none (List.drop
      (1 : Nat) (List.drop b LL)), Sx.SO.row (22 : Nat) (Sx.Ty.imm (Sx.Ty.int Go.IntKind.i32)) (List.take b (T12.grown (0 : Nat) (List.take b LL)) ++ [List.take (List.length
      (List.getD LL b []) + b_1 + List.length (List.take (60 : Nat) (List.drop (0 : Nat) b_2))) (List.drop (0 : Nat) (List.getD LL b [] ++ T12.marks (↑b : Int) (List.length
      (List.getD LL b [])) b_1 ++ List.take (60 : Nat) (List.drop (0 : Nat) b_2)))] ++ List.drop (b + (1 : Nat)) (T12.grown (0 : Nat) (List.take b LL)))]) = ([Sx.SV.ptr (0 :
      Nat) (0 : Nat), Sx.SV.sl (2 : Nat) (1 : Nat) (0 : Nat) x', Sx.SV.lit (Go.Value.int Go.IntKind.i64 (↑x' : Int))], [Sx.SO.cells (55 : Nat) (T12.bk (Sx.SV.sl (1 : Nat) (1 :
      Nat) (0 : Nat) (List.length LL)) Sx.SV.junk), Sx.SO.lists (22 : Nat) (21 : Nat) (Sx.Ty.int Go.IntKind.i32) (List.take x' LL) [] Option.none (List.drop x' LL), Sx.SO.row
      (22 : Nat) (Sx.Ty.imm (Sx.Ty.int Go.IntKind.i32)) (T12.grown (0 : Nat) (List.take x' LL))]) ∧ x' ≤ List.length LL ∧ List.length LL - x' < List.length LL - b) ∧ True) (b ≤
      List.length (T12.grown (0 : Nat) (List.take b LL)) ∧ ((↑(b + (1 : Nat)) : Int) ≤ (9223372036854775807 : Int) ∧ (b + (1 : Nat)) * Sx.bytesOf Go.Proofs.Try.prog (22 : Nat) ≤
      (140737488355328 : Nat)) ∧ List.length (List.getD (List.drop b LL) (0 : Nat) []) ≤ List.length (List.getD LL b [] ++ T12.marks (↑b : Int) (List.length (List.getD LL b []))
      b_1 ++ List.take (60 : Nat) (List.drop (0 : Nat) b_2)) ∧ (∃ (x' : Nat), ([Sx.SV.ptr (0 : Nat) (0 : Nat), Sx.SV.sl (2 : Nat) (1 : Nat) (0 : Nat) (b + (1 : Nat)), Sx.SV.lit
      (Go.Value.int Go.IntKind.i64 (Go.IntKind.wrap Go.IntKind.i64 ((↑b : Int) + (1 : Int))))], [Sx.SO.cells (55 : Nat) (T12.bk (Sx.SV.sl (1 : Nat) (1 : Nat) (0 : Nat)
      (List.length LL)) Sx.SV.junk), Sx.SO.lists (22 : Nat) (21 : Nat) (Sx.Ty.int Go.IntKind.i32) (List.take b LL ++ [List.take (List.length (List.getD (List.drop b LL) (0 :
      Nat) [])) (List.getD LL b [] ++ T12.marks (↑b : Int) (List.length (List.getD LL b [])) b_1 ++ List.take (60 : Nat) (List.drop (0 : Nat) b_2))]) [] Option.none (List.drop
      (1 : Nat) (List.drop b LL)), Sx.SO.row (22 : Nat) (Sx.Ty.imm (Sx.Ty.int Go.IntKind.i32)) (List.take b (T12.grown (0 : Nat) (List.take b LL)) ++ [List.take (List.length
      (List.getD LL b []) + b_1 + List.length (List.take (60 : Nat) (List.drop (0 : Nat) b_2))) (List.drop (0 : Nat) (List.getD LL b [] ++ T12.marks (↑b : Int) (List.length
      (List.getD LL b [])) b_1 ++ List.take (60 : Nat) (List.drop (0 : Nat) b_2)))])]) = ([Sx.SV.ptr (0 : Nat) (0 : Nat), Sx.SV.sl (2 : Nat) (1 : Nat) (0 : Nat) x', Sx.SV.lit
      (Go.Value.int Go.IntKind.i64 (↑x' : Int))], [Sx.SO.cells (55 : Nat) (T12.bk (Sx.SV.sl (1 : Nat) (1 : Nat) (0 : Nat) (List.length LL)) Sx.SV.junk), Sx.SO.lists (22 : Nat)
      (21 : Nat) (Sx.Ty.int Go.IntKind.i32) (List.take x' LL) [] Option.none (List.drop x' LL), Sx.SO.row (22 : Nat) (Sx.Ty.imm (Sx.Ty.int Go.IntKind.i32)) (T12.grown (0 : Nat)
      (List.take x' LL))]) ∧ x' ≤ List.length LL ∧ List.length LL - x' < List.length LL - b) ∧ True)) ((0 : Nat) + (List.length (List.getD LL b []) + b_1 + List.length
      (List.take (60 : Nat) (List.drop (0 : Nat) b_2))) ≤ List.length (List.getD LL b [] ++ T12.marks (↑b : Int) (List.length (List.getD LL b [])) b_1 ++ List.take (60 : Nat)
      (List.drop (0 : Nat) b_2)) ∧ (1 : Nat) ≤ (1 : Nat) ∧ Sx.br (Decidable.decide (b + (1 : Nat) ≤ List.length (T12.grown (0 : Nat) (List.take b LL)))) (List.length (List.getD
      (List.drop b LL) (0 : Nat) []) ≤ List.length (List.getD LL b [] ++ T12.marks (↑b : Int) (List.length (List.getD LL b [])) b_1) ∧ (∃ (x' : Nat), ([Sx.SV.ptr (0 : Nat) (0 :
      Nat), Sx.SV.sl (2 : Nat) (1 : Nat) (0 : Nat) (b + (1 : Nat)), Sx.SV.lit (Go.Value.int Go.IntKind.i64 (Go.IntKind.wrap Go.IntKind.i64 ((↑b : Int) + (1 : Int))))],
      [Sx.SO.cells (55 : Nat) (T12.bk (Sx.SV.sl (1 : Nat) (1 : Nat) (0 : Nat) (List.length LL)) Sx.SV.junk), Sx.SO.lists (22 : Nat) (21 : Nat) (Sx.Ty.int Go.IntKind.i32)
      (List.take b LL ++ [List.take (List.length (List.getD (List.drop b LL) (0 : Nat) [])) (List.getD LL b [] ++ T12.marks (↑b : Int) (List.length (List.getD LL b [])) b_1)])
      [] Option.none (List.drop (1 : Nat) (List.drop b LL)), Sx.SO.row (22 : Nat) (Sx.Ty.imm (Sx.Ty.int Go.IntKind.i32)) (List.take b (T12.grown (0 : Nat) (List.take b LL)) ++
      [List.take (List.length (List.getD LL b []) + b_1 + List.length (List.take (60 : Nat) (List.drop (0 : Nat) b_2))) (List.drop (0 : Nat) (List.getD LL b [] ++ T12.marks (↑b
      : Int) (List.length (List.getD LL b [])) b_1 ++ List.take (60 : Nat) (List.drop (0 : Nat) b_2)))] ++ List.drop (b + (1 : Nat)) (T12.grown (0 : Nat) (List.take b LL)))]) =
      ([Sx.SV.ptr (0 : Nat) (0 : Nat), Sx.SV.sl (2 : Nat) (1 : Nat) (0 : Nat) x', Sx.SV.lit (Go.Value.int Go.IntKind.i64 (↑x' : Int))], [Sx.SO.cells (55 : Nat) (T12.bk (Sx.SV.sl
      (1 : Nat) (1 : Nat) (0 : Nat) (List.length LL)) Sx.SV.junk), Sx.SO.lists (22 : Nat) (21 : Nat) (Sx.Ty.int Go.IntKind.i32) (List.take x' LL) [] Option.none (List.drop x'
      LL), Sx.SO.row (22 : Nat) (Sx.Ty.imm (Sx.Ty.int Go.IntKind.i32)) (T12.grown (0 : Nat) (List.take x' LL))]) ∧ x' ≤ List.length LL ∧ List.length LL - x' < List.length LL -
      b) ∧ True) (b ≤ List.length (T12.grown (0 : Nat) (List.take b LL)) ∧ ((↑(b + (1 : Nat)) : Int) ≤ (9223372036854775807 : Int) ∧ (b + (1 : Nat)) * Sx.bytesOf
      Go.Proofs.Try.prog (22 : Nat) ≤ (140737488355328 : Nat)) ∧ List.length (List.getD (List.drop b LL) (0 : Nat) []) ≤ List.length (List.getD LL b [] ++ T12.marks (↑b : Int)
      (List.length (List.getD LL b [])) b_1) ∧ (∃ (x' : Nat), ([Sx.SV.ptr (0 : Nat) (0 : Nat), Sx.SV.sl (2 : Nat) (1 : Nat) (0 : Nat) (b + (1 : Nat)), Sx.SV.lit (Go.Value.int
      Go.IntKind.i64 (Go.IntKind.wrap Go.IntKind.i64 ((↑b : Int) + (1 : Int))))], [Sx.SO.cells (55 : Nat) (T12.bk (Sx.SV.sl (1 : Nat) (1 : Nat) (0 : Nat) (List.length LL))
      Sx.SV.junk), Sx.SO.lists (22 : Nat) (21 : Nat) (Sx.Ty.int Go.IntKind.i32) (List.take b LL ++ [List.take (List.length (List.getD (List.drop b LL) (0 : Nat) [])) (List.getD
      LL b [] ++ T12.marks (↑b : Int) (List.length (List.getD LL b [])) b_1)]) [] Option.none (List.drop (1 : Nat) (List.drop b LL)), Sx.SO.row (22 : Nat) (Sx.Ty.imm (Sx.Ty.int
      Go.IntKind.i32)) (List.take b (T12.grown (0 : Nat) (List.take b LL)) ++ [List.take (List.length (List.getD LL b []) + b_1 + List.length (List.take (60 : Nat) (List.drop (0
      : Nat) b_2))) (List.drop (0 : Nat) (List.getD LL b [] ++ T12.marks (↑b : Int) (List.length (List.getD LL b [])) b_1 ++ List.take (60 : Nat) (List.drop (0 : Nat) b_2)))])])
      = ([Sx.SV.ptr (0 : Nat) (0 : Nat), Sx.SV.sl (2 : Nat) (1 : Nat) (0 : Nat) x', Sx.SV.lit (Go.Value.int Go.IntKind.i64 (↑x' : Int))], [Sx.SO.cells (55 : Nat) (T12.bk
      (Sx.SV.sl (1 : Nat) (1 : Nat) (0 : Nat) (List.length LL)) Sx.SV.junk), Sx.SO.lists (22 : Nat) (21 : Nat) (Sx.Ty.int Go.IntKind.i32) (List.take x' LL) [] Option.none
      (List.drop x' LL), Sx.SO.row (22 : Nat) (Sx.Ty.imm (Sx.Ty.int Go.IntKind.i32)) (T12.grown (0 : Nat) (List.take x' LL))]) ∧ x' ≤ List.length LL ∧ List.length LL - x' <
      List.length LL - b) ∧ True)))) (Q (Sx.SV.sl (3 : Nat) (1 : Nat) (0 : Nat) b, [Sx.SO.cells (55 : Nat) (T12.bk (Sx.SV.sl (1 : Nat) (1 : Nat) (0 : Nat) (List.length LL))
      Sx.SV.junk), Sx.SO.lists (22 : Nat) (21 : Nat) (Sx.Ty.int Go.IntKind.i32) (List.take b LL) [] (Option.some ((2 : Nat), List.length (List.getD (List.drop b LL) (0 : Nat)
      []))) (List.drop (1 : Nat) (List.drop b LL)), Sx.SO.row (21 : Nat) (Sx.Ty.int Go.IntKind.i32) (List.getD (List.drop b LL) (0 : Nat) []), Sx.SO.row (22 : Nat) (Sx.Ty.imm
      (Sx.Ty.int Go.IntKind.i32)) (T12.grown (0 : Nat) (List.take b LL))], [(1 : Nat), (1 : Nat)]))) (Sx.br (Decidable.decide ((↑b : Int) < (↑(List.length LL) : Int))) (((0 :
      Int) ≤ (↑b : Int) ∧ (↑b : Int) < (↑(List.length LL) : Int)) ∧ False) (List.length (List.drop b LL) = (0 : Nat) ∧ Q (Sx.SV.sl (2 : Nat) (1 : Nat) (0 : Nat) b, [Sx.SO.cells
      (55 : Nat) (T12.bk (Sx.SV.sl (1 : Nat) (1 : Nat) (0 : Nat) (List.length LL)) Sx.SV.junk), Sx.SO.row (22 : Nat) (Sx.Ty.imm (Sx.Ty.int Go.IntKind.i32)) (List.take b LL),
      Sx.SO.row (22 : Nat) (Sx.Ty.imm (Sx.Ty.int Go.IntKind.i32)) (T12.grown (0 : Nat) (List.take b LL))], [(1 : Nat)])))) (by kernel_rfl) ?_
  have hb1 : bytesOf Try.prog 21 = 4 := by kernel_rfl
  have hb2 : bytesOf Try.prog 22 = 24 := by kernel_rfl
  rw [hb1, hb2]
  refine ⟨⟨0, rfl, by omega⟩, fun i hi => br_intro (fun hd => ?_) (fun hd => ?_)⟩
  · have hd := of_decide_eq_true hd
    rw [List.length_drop] at hd
    have hi2 : i < LL.length := by omega
    have e := List.drop_eq_getElem_cons hi2
    have eg : LL.getD i [] = LL[i] := by rw [List.getD_eq_getElem?_getD, List.getElem?_eq_getElem hi2]; rfl
    have hlen := hL _ (List.getElem_mem hi2)
    have etk : LL.take (i + 1) = LL.take i ++ [LL[i]] := by rw [List.take_add_one, List.getElem?_eq_getElem hi2]; rfl
    have hgs : grown 0 (LL.take (i + 1)) = grown 0 (LL.take i) ++ [LL[i] ++ marks (i : Int) LL[i].length 72] := by
      rw [etk, grown_snoc, List.length_take, Nat.min_eq_left hi, Nat.zero_add]
    have hml := grown_len 0 (LL.take i)
    have htl : (LL.take i).length = i := by rw [List.length_take]; omega
    rw [htl] at hml
    rw [e, eg]
    simp only [List.getD_cons_zero, List.drop_succ_cons, List.drop_zero, List.drop_drop]
    generalize LL[i] = R at *
    have hml2 : ∀ (a : Int) (k n : Nat), (marks a k n).length = n := marks_len
    have one : ∀ k, marks (i : Int) R.length (k + 1) = marks (i : Int) R.length k ++ marks (i : Int) (R.length + k) 1 := fun k => marks_append _ _ _ _
    have h72 : marks (i : Int) R.length 72 = marks (i : Int) R.length 12 ++ marks (i : Int) (R.length + 12) 60 := marks_append _ _ 12 60
    have t1 : ∀ (a : Int) (k n : Nat), (marks a k n).take n = marks a k n := fun a k n => List.take_of_length_le (by rw [hml2]; exact Nat.le_refl _)
    have tR : ∀ X : List Int, (R ++ X).take R.length = R := fun X => List.take_left
    have w1 : ∀ n : Nat, n ≤ 2000 → IntKind.i64.wrap ((n : Int) + 1) = ((n + 1 : Nat) : Int) := fun n hn => wrap1 n (by omega)
    have tX : (R ++ marks (i : Int) R.length 12 ++ marks (i : Int) (R.length + 12) 60).take (R.length + 12 + 60) = R ++ marks (i : Int) R.length 72 := by
      rw [h72, ← List.append_assoc]
      exact List.take_of_length_le (by rw [List.length_append, List.length_append, hml2, hml2]; omega)
    generalize grown 0 (LL.take i) = G at *
    have hG : G.take i = G := List.take_of_length_le (by omega)
    refine br_intro (fun hlt => ⟨by omega, by omega, ⟨0, by simp [marks], by omega⟩, fun k hk => br_intro (fun hk2 => ⟨⟨by omega, by omega, by omega⟩, fun l hl => ?_⟩) (fun hk2 => ⟨⟨by omega, by omega, by omega⟩, fun l hl => ?_⟩)⟩) (fun hge => by have := of_decide_eq_false hge; omega)
    · have hk2 := of_decide_eq_true hk2
      obtain rfl := hl.eq
      rw [t1 i (R.length + k) 1, hml2 i (R.length + k) 1]
      refine ⟨by omega, by rw [List.length_append, hml2], ⟨by omega, by omega⟩, fun c _ => br_intro (fun _ => ⟨⟨k + 1, ?_, by omega, by omega⟩, trivial⟩) (fun _ => ⟨⟨k + 1, ?_, by omega⟩, fun j hj => br_intro (fun hj2 => ⟨⟨by omega, by omega, by omega⟩, fun l hl => ?_⟩) (fun hj2 => ⟨⟨by omega, by omega, by omega⟩, fun l hl => ?_⟩)⟩)⟩
      · rw [w1 k (by omega), one k, List.append_assoc]; rfl
      · rw [w1 k (by omega), one k, List.append_assoc]; rfl
      · have hj2 := of_decide_eq_true hj2
        obtain rfl := hl.eq
        rw [t1 i (R.length + j) 1, hml2 i (R.length + j) 1]
        refine ⟨by omega, ⟨by rw [List.length_append, hml2], by omega⟩, ⟨by omega, by omega⟩, ⟨j + 1, ?_, by omega, by omega⟩, trivial⟩
        rw [w1 j (by omega), one j, List.append_assoc]; rfl
      · have hj2 := of_decide_eq_false hj2
        have : j = 12 := by omega
        subst this
        obtain rfl := hl.eq
        rw [t1 i (R.length + 12) 60, hml2 i (R.length + 12) 60]
        refine ⟨by omega, ⟨by rw [List.length_append, hml2], by omega⟩, ⟨by omega, by omega⟩, by rw [List.length_append, List.length_append, hml2, hml2]; omega, by omega, br_intro (fun h => by have := of_decide_eq_true h; omega) (fun _ => ⟨by omega, ⟨by omega, by omega⟩, by rw [List.length_append]; omega, ⟨i + 1, ?_, by omega, by omega⟩, trivial⟩)⟩
        rw [w1 i (by omega), hgs, etk, tR, tX, hG]
    · have hk2 := of_decide_eq_false hk2
      have : k = 12 := by omega
      subst this
      obtain rfl := hl.eq
      rw [t1 i (R.length + 12) 60, hml2 i (R.length + 12) 60]
      refine ⟨by omega, by rw [List.length_append, hml2], ⟨by omega, by omega⟩, fun c _ => br_intro (fun _ => ?_) (fun _ => ?_)⟩
      · refine ⟨by rw [List.length_append, List.length_append, hml2, hml2]; omega, by omega, br_intro (fun h => by have := of_decide_eq_true h; omega) (fun _ => ⟨by omega, ⟨by omega, by omega⟩, by rw [List.length_append, List.length_append]; omega, ⟨i + 1, ?_, by omega, by omega⟩, trivial⟩)⟩
        rw [w1 i (by omega), hgs, etk, tX, hG, List.append_assoc R, tR]
      · refine ⟨by rw [List.length_append, List.length_append, hml2, hml2]; omega, by omega, br_intro (fun h => by have := of_decide_eq_true h; omega) (fun _ => ⟨by omega, ⟨by omega, by omega⟩, by rw [List.length_append]; omega, ⟨i + 1, ?_, by omega, by omega⟩, trivial⟩)⟩
        rw [w1 i (by omega), hgs, etk, tR, tX, hG]
  · have hd := of_decide_eq_false hd
    rw [List.length_drop] at hd
    have : i = LL.length := by omega
    subst this
    refine br_intro (fun h => by have := of_decide_eq_true h; omega) (fun _ => ⟨by rw [List.length_drop]; omega, ?_⟩)
    rw [List.take_length]
    exact hq
end T12
