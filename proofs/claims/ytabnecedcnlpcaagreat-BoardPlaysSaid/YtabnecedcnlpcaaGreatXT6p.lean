/- Part of a proof: the walk of the functions that the law calls. -/
import Derived.Test.YtabnecedcnlpcaaGreatSxT
import Derived.Test.YtabnecedcnlpcaaGreatXT6h
import Derived.Test.YtabnecedcnlpcaaGreatXPB7
set_option linter.unusedVariables false
set_option linter.unusedSimpArgs false
open Go Sx Go.Proofs
namespace W5
set_option maxRecDepth 100000
set_option maxHeartbeats 8000000
attribute [local irreducible] Tree.Leads
noncomputable def UL : Table := (((T9.add 1700022 (.ext fun _ _ => .fail)).add 8 (.go s20)).add 9 (.go s13k)).add 10 (.bye (byeS s24))
theorem UL_ok : TableOK Tryz.prog UL true := add_ok (e := .bye (byeS s24)) (TableOK.up (add_ok (e := .go s13k) (add_ok (e := .go s20) (add_ok (e := .ext fun _ _ => .fail) T9_ok (fun _ _ _ _ _ _ _ _ _ h => by simp only [Tree.Leads] at h)) s20_ok) s13k_ok)) ⟨rfl, s24_bye⟩
structure BSt where
  i : Nat
  bl : List (ByteArray × Int)
  lg : List (ByteArray × Int)
  LL : List (List ByteArray)
structure BOk (n : Nat) (x : BSt) : Prop where
  i : x.i ≤ n
  few : x.bl.length ≤ x.i
  nd : (x.bl.map Prod.fst).Nodup
  log : x.lg.length = x.i
  same : ∀ t, logAt x.lg t = numAt x.bl t
  has : ∀ t, logHas x.lg t = x.bl.any fun p => p.1 == t
  kept : x.LL.length = x.i
  small : ∀ l ∈ x.LL, l.length ≤ 900000
noncomputable def A3 (names : List ByteArray) : Ann := { live := [0, 1, 2, 7, 8, 9, 10, 11], mv := [0, 1, 2, 3, 4, 5, 6], nilS := [(9, 9, .str)], nilH := [(52, 0, 10000022, .str), (52, 1, 22, .imm .str)], peel := 1, head := fun vals _ => match vals with | [a, b, c, _, _, _, _, _] => { X := BSt, inv := fun x => ([a, b, c, .ptr 0 0, .mp 2, .sl 3 1 0 (sortedNames x.bl).length, .ptr 4 0, .lit (.int .i64 x.i)], [.cells 40 (bcells 1 (.mp 1)), mapOf x.bl, .imap (imapR Tryz.prog 9) x.lg, .row 9 .str (sortedNames x.bl), .cells 52 (bk (.sl 5 1 0 x.LL.length) (.sl 6 1 0 x.LL.length)), .kept 22 9 .str x.LL, .row 22 (.imm .str) x.LL]), ok := BOk names.length, mu := fun x => names.length - x.i } | _ => { X := Nat, inv := fun _ => ([], []), ok := fun _ => False, mu := fun _ => 0 } }
noncomputable def B3 (names : List ByteArray) : Ann := { live := [0, 1, 2, 7, 8, 9, 10, 11, 14], mv := [0, 1, 2, 3, 4, 5, 6], nilS := [(9, 9, .str)], head := fun vals H => match vals with | [a, b, c, d, m, .sl h w o n, f, .lit (.int .i64 i), _] => (match H[h]? with | some (.row _ .str X) => { X := Nat, inv := fun k => ([a, b, c, d, m, .sl h w o n, f, .lit (.int .i64 i), .lit (.int .i64 k)], H), ok := LessUp X (names.getD i.toNat Ty.str.dflt), mu := fun k => X.length - k } | _ => { X := Nat, inv := fun _ => ([], []), ok := fun _ => False, mu := fun _ => 0 }) | _ => { X := Nat, inv := fun _ => ([], []), ok := fun _ => False, mu := fun _ => 0 } }
noncomputable def J18 (names : List ByteArray) : Ann := { live := [0, 1, 2, 7, 8, 9, 10, 11], mv := [0, 1, 2, 3, 4, 5, 6], nilS := [(9, 9, .str)], head := fun vals H => match vals with | [a, b, c, d, .mp m, .sl h w o _, f, .lit (.int .i64 i)] => (match H[m]?, H[h]? with | some (.imap _ lg), some (.row _ .str X) => { X := List ByteArray, inv := fun Y => ([a, b, c, d, .mp m, .sl h w o Y.length, f, .lit (.int .i64 i)], H.set h (.row 9 .str Y)), ok := OrdOf X (names.getD i.toNat Ty.str.dflt) (logHas lg (names.getD i.toNat Ty.str.dflt)), mu := fun _ => 0 } | _, _ => { X := Unit, inv := fun _ => ([], []), ok := fun _ => False, mu := fun _ => 0 }) | _ => { X := Unit, inv := fun _ => ([], []), ok := fun _ => False, mu := fun _ => 0 } }
structure FewSmall (LL : List (List ByteArray)) : Prop where
  few : LL.length ≤ 100
  small : ∀ l ∈ LL, l.length ≤ 900000
noncomputable def J26 : Ann := { live := [10], mv := [0, 1, 2, 3, 4, 5, 6], nilH := [(52, 0, 10000022, .str), (52, 1, 22, .imm .str)], head := fun _ _ => { X := List (List ByteArray), inv := fun LL => ([.ptr 0 0], [.cells 52 (bk (.sl 1 1 0 LL.length) (.sl 2 1 0 LL.length)), .kept 22 9 .str LL, .row 22 (.imm .str) LL]), ok := FewSmall, mu := fun _ => 0 } }
noncomputable def M0 : Ann := { live := [], mv := [0, 1, 2, 3, 4, 5, 6], head := hd0 }
noncomputable def AL (names : List ByteArray) : Nat → Option Ann := fun k => if Nat.beq k 0 then some (A3 names) else if Nat.beq k 2 then some (B3 names) else if Nat.beq k 3000018 then some (J18 names) else if Nat.beq k 3000026 then some J26 else if Nat.beq k 999998 then some M0 else none
theorem bne_no {a b : Int} {p q : Prop} (h : a = b) (g : q) : br (a != b) p q := br_no (by simp [h]) g
theorem eta_bytes (s : ByteArray) : (⟨s.data.toList.toArray⟩ : ByteArray) = s := by simp
theorem sorted_one (s : ByteArray) (v : Int) : sortedNames [(s, v)] = [s] := by simp [sortedNames]
theorem ord_old {X : List ByteArray} {s : ByteArray} : OrdOf X s true X := ⟨rfl⟩
theorem ord_new {X : List ByteArray} {s : ByteArray} {k : Nat} (h : LessUp X s k) (g : k = X.length ∨ lessB (X.getD k ByteArray.empty) s = false) : OrdOf X s false (X.take k ++ [s] ++ (X.drop (0 + k)).take (X.length - k)) := by
  have e : (X.drop (0 + k)).take (X.length - k) = X.drop k := by
    rw [Nat.zero_add]; exact List.take_of_length_le (by rw [List.length_drop]; exact Nat.le_refl _)
  rw [e]
  exact ⟨insAt_of h g⟩
theorem ord_new0 {X : List ByteArray} {s : ByteArray} {k : Nat} (h : LessUp X s k) (g : k = X.length ∨ lessB (X.getD k ByteArray.empty) s = false) (h0 : ((X.drop (0 + k)).take (X.length - k)).length = 0) : OrdOf X s false (X.take k ++ [s]) := by
  have h1 := ord_new h g
  rw [List.length_eq_zero_iff.1 h0, List.append_nil] at h1
  exact h1
theorem dflt_eq : Ty.str.dflt = ByteArray.empty := rfl
theorem bok_next {n : Nat} {x : BSt} (h : BOk n x) (hi : x.i < n) (s : ByteArray) (w : Int) (hn : n ≤ 40) {l : List ByteArray} (hl : l.length ≤ 900000) : BOk n ⟨x.i + 1, addAt x.bl s w, x.lg ++ [(s, IntKind.i64.wrap (logAt x.lg s + w))], x.LL ++ [l]⟩ := by
  refine ⟨hi, ?_, nodup_addAt h.nd s w, ?_, same_snoc h.same s w, has_snoc h.has s _ w, ?_, fun y hy => ?_⟩
  · have := length_addAt x.bl s w; have := h.few; show (addAt x.bl s w).length ≤ x.i + 1; omega
  · show (x.lg ++ [_]).length = x.i + 1; rw [List.length_append, h.log]; rfl
  · show (x.LL ++ [_]).length = x.i + 1; rw [List.length_append, h.kept]; rfl
  · rcases List.mem_append.1 hy with hy | hy
    · exact h.small y hy
    · have : y = l := by simpa using hy
      rw [this]; exact hl
theorem bok_zero (n : Nat) : BOk n ⟨0, [], [], []⟩ := ⟨Nat.zero_le _, Nat.le_refl _, by simp, rfl, fun _ => rfl, fun _ => rfl, rfl, fun _ h => by cases h⟩
theorem wrapN (n : Nat) (h : n ≤ 1099511627776) : IntKind.i64.wrap ((n : Int) + 1) = ((n + 1 : Nat) : Int) := by rw [IntKind.wrap_i64]; omega
theorem addAt_ge (l : List (ByteArray × Int)) (s : ByteArray) (n : Int) : l.length ≤ (addAt l s n).length := by unfold addAt; split <;> simp
theorem v3 (names : List ByteArray) (ns : List Int) (ask : ByteArray) (hask : ask.size ≤ maxLen) (Q : SV × Heap × List Nat → Prop) (hq : ∀ mv, Q (.lit (.bool true), [], mv)) :
    (bodySumm UL Tryz.prog Tryz.f3 (AL names) [.imm .str names, .imm (.int .i64) ns, .lit (.string ask)] []).Leads Q := by
  refine Sx.by_text (q :=
      br (decide ((↑(List.length names) : Int) > (40 : Int))) (Q (SV.lit (Value.bool true), ([] : List Sx.SO), [(0 : Nat), (1 : Nat), (2 : Nat), (3 : Nat), (4 : Nat), (5 : Nat),
      (6 : Nat)])) (br (decide ((↑(List.length ns) : Int) < (↑(List.length names) : Int))) (Q (SV.lit (Value.bool true), ([] : List Sx.SO), [(0 : Nat), (1 : Nat), (2 : Nat), (3
      : Nat), (4 : Nat), (5 : Nat), (6 : Nat)])) (∀ (b : Bool), True → br b (br (decide ((0 : Int) < (↑(List.length names) : Int))) (((0 : Int) ≤ (0 : Int) ∧ (0 : Int) <
      (↑(List.length names) : Int)) ∧ (0 : Nat) < List.length names ∧ br (decide ((↑(ByteArray.size (List.getD names (0 : Nat) (Ty.dflt Ty.str))) : Int) > (60 : Int))) (Q
      (SV.lit (Value.bool true), ([] : List Sx.SO), [(0 : Nat), (1 : Nat), (2 : Nat), (3 : Nat), (4 : Nat), (5 : Nat), (6 : Nat)])) (((0 : Int) ≤ (0 : Int) ∧ (0 : Int) <
      (↑(List.length names) : Int)) ∧ (0 : Nat) < List.length names ∧ (Sx.imapR Go.Proofs.Tryz.prog (9 : Nat) = Sx.imapR Go.Proofs.Tryz.prog (9 : Nat) ∧ ByteArray.size
      (List.getD names (0 : Nat) (Ty.dflt Ty.str)) ≤ Go.maxLen) ∧ ∀ (b : Bool), True → br b ((∃ (x : Nat), ([SV.imm Ty.str names, SV.imm (Ty.int IntKind.i64) ns, SV.lit
      (Value.string ask), SV.ptr (0 : Nat) (0 : Nat), SV.mp (1 : Nat), SV.sl (2 : Nat) (1 : Nat) (0 : Nat) (0 : Nat), SV.ptr (3 : Nat) (0 : Nat), SV.lit (Value.int IntKind.i64
      (0 : Int)), SV.lit (Value.int IntKind.i64 (0 : Int))], [SO.cells (40 : Nat) (W5.bcells (0 : Int) (SV.lit (Value.map Option.none))), SO.imap (Sx.imapR Go.Proofs.Tryz.prog
      (9 : Nat)) [], SO.row (9 : Nat) Ty.str [], SO.cells (52 : Nat) (W5.bk (SV.lit (Value.slice Option.none (0 : Nat) (0 : Nat))) (SV.lit (Value.slice Option.none (0 : Nat) (0
      : Nat))))]) = ([SV.imm Ty.str names, SV.imm (Ty.int IntKind.i64) ns, SV.lit (Value.string ask), SV.ptr (0 : Nat) (0 : Nat), SV.mp (1 : Nat), SV.sl (2 : Nat) (1 : Nat) (0 :
      Nat) (0 : Nat), SV.ptr (3 : Nat) (0 : Nat), SV.lit (Value.int IntKind.i64 (0 : Int)), SV.lit (Value.int IntKind.i64 (↑x : Int))], [SO.cells (40 : Nat) (W5.bcells (0 : Int)
      (SV.lit (Value.map Option.none))), SO.imap (Sx.imapR Go.Proofs.Tryz.prog (9 : Nat)) [], SO.row (9 : Nat) Ty.str [], SO.cells (52 : Nat) (W5.bk (SV.lit (Value.slice
      Option.none (0 : Nat) (0 : Nat))) (SV.lit (Value.slice Option.none (0 : Nat) (0 : Nat))))]) ∧ W5.LessUp ([] : List ByteArray) (List.getD names (0 : Nat) (Ty.dflt Ty.str))
      x) ∧ ∀ (b : Nat), W5.LessUp ([] : List ByteArray) (List.getD names (0 : Nat) (Ty.dflt Ty.str)) b → ((0 : Int) ≤ (↑b : Int) ∧ (↑b : Int) ≤ (↑(0 : Nat) : Int)) ∧ True ∧ ((0
      : Int) ≤ (0 : Int) ∧ (0 : Int) < (↑(List.length names) : Int)) ∧ (0 : Nat) < List.length names ∧ ∀ (b_1 : Bool), True → br b_1 ((0 : Nat) + b ≤ (0 : Nat) ∧ ((↑((0 : Nat) +
      List.length (List.take b ([] : List ByteArray))) : Int) ≤ (9223372036854775807 : Int) ∧ ((0 : Nat) + List.length (List.take b ([] : List ByteArray))) * Sx.bytesOf Go.Proofs.Tryz.prog (9 : Nat) ≤
      (140737488355328 : Nat)) ∧ ∀ (b_2 : Bool), True → br b_2 (∀ (b_3 : Bool), True → br b_3 ((1 : Nat) ≤ (1 : Nat) ∧ List.length (List.take b ([] : List ByteArray)) = List.length (List.take b ([] : List ByteArray)) ∧ ((↑(List.length (List.take b ([] : List ByteArray)) + (1 : Nat)) : Int) ≤ (9223372036854775807 : Int) ∧ (List.length (List.take b ([] : List ByteArray)) + (1 : Nat)) * Sx.bytesOf Go.Proofs.Tryz.prog (9 :
      Nat) ≤ (140737488355328 : Nat)) ∧ True ∧ ((0 : Int) ≤ (↑b : Int) ∧ (↑b : Int) ≤ (↑(0 : Nat) : Int)) ∧ (0 : Nat) + b + ((0 : Nat) - b) ≤ (0 : Nat) ∧ List.length (List.take
      b ([] : List ByteArray)) + (1 : Nat) = List.length (List.take b ([] : List ByteArray) ++ [List.getD names (0 : Nat) (Ty.dflt Ty.str)]) ∧ Sx.br (decide (List.length (List.take ((0 : Nat) - b) (List.drop ((0 :
      Nat) + b) ([] : List ByteArray))) = (0 : Nat))) ((∃ (x : List ByteArray), ([SV.imm Ty.str names, SV.imm (Ty.int IntKind.i64) ns, SV.lit (Value.string ask), SV.ptr (0 :
      Nat) (0 : Nat), SV.mp (1 : Nat), SV.sl (2 : Nat) (1 : Nat) (0 : Nat) (List.length (List.take b ([] : List ByteArray)) + (1 : Nat)), SV.ptr (3 : Nat) (0 : Nat), SV.lit (Value.int IntKind.i64
      (0 : Int))], [SO.cells (40 : Nat) (W5.bcells (0 : Int) (SV.lit (Value.map Option.none))), SO.imap (Sx.imapR Go.Proofs.Tryz.prog (9 : Nat)) [], SO.row (9 : Nat) Ty.str
      (List.take b ([] : List ByteArray) ++ [List.getD names (0 : Nat) (Ty.dflt Ty.str)]), SO.cells (52 : Nat) (W5.bk (SV.lit (Value.slice Option.none (0 : Nat) (0 : Nat))) (SV.lit (Value.slice
      Option.none (0 : Nat) (0 : Nat))))]) = ([SV.imm Ty.str names, SV.imm (Ty.int IntKind.i64) ns, SV.lit (Value.string ask), SV.ptr (0 : Nat) (0 : Nat), SV.mp (1 : Nat), SV.sl
      (2 : Nat) (1 : Nat) (0 : Nat) (List.length x), SV.ptr (3 : Nat) (0 : Nat), SV.lit (Value.int IntKind.i64 (0 : Int))], [SO.cells (40 : Nat) (W5.bcells (0 : Int) (SV.lit
      (Value.map Option.none))), SO.imap (Sx.imapR Go.Proofs.Tryz.prog (9 : Nat)) [], SO.row (9 : Nat) Ty.str x, SO.cells (52 : Nat) (W5.bk (SV.lit (Value.slice Option.none (0 :
      Nat) (0 : Nat))) (SV.lit (Value.slice Option.none (0 : Nat) (0 : Nat))))]) ∧ W5.OrdOf ([] : List ByteArray) (List.getD names (0 : Nat) (Ty.dflt Ty.str)) (Sx.logHas []
      (List.getD names (0 : Nat) (Ty.dflt Ty.str))) x) ∧ True) (((↑(List.length (List.take b ([] : List ByteArray)) + (1 : Nat) + List.length (List.take ((0 : Nat) - b) (List.drop ((0 : Nat) + b)
      ([] : List ByteArray)))) : Int) ≤ (9223372036854775807 : Int) ∧ (List.length (List.take b ([] : List ByteArray)) + (1 : Nat) + List.length (List.take ((0 : Nat) - b) (List.drop ((0 : Nat) +
      b) ([] : List ByteArray)))) * Sx.bytesOf Go.Proofs.Tryz.prog (9 : Nat) ≤ (140737488355328 : Nat)) ∧ (∃ (x : List ByteArray), ([SV.imm Ty.str names, SV.imm (Ty.int
      IntKind.i64) ns, SV.lit (Value.string ask), SV.ptr (0 : Nat) (0 : Nat), SV.mp (1 : Nat), SV.sl (2 : Nat) (1 : Nat) (0 : Nat) (List.length (List.take b ([] : List ByteArray)) + (1 : Nat) +
      List.length (List.take ((0 : Nat) - b) (List.drop ((0 : Nat) + b) ([] : List ByteArray)))), SV.ptr (3 : Nat) (0 : Nat), SV.lit (Value.int IntKind.i64 (0 : Int))],
      [SO.cells (40 : Nat) (W5.bcells (0 : Int) (SV.lit (Value.map Option.none))), SO.imap (Sx.imapR Go.Proofs.Tryz.prog (9 : Nat)) [], SO.row (9 : Nat) Ty.str (List.take b ([] : List ByteArray)
      ++ [List.getD names (0 : Nat) (Ty.dflt Ty.str)] ++ List.take ((0 : Nat) - b) (List.drop ((0 : Nat) + b) ([] : List ByteArray))), SO.cells (52 : Nat) (W5.bk (SV.lit
      (Value.slice Option.none (0 : Nat) (0 : Nat))) (SV.lit (Value.slice Option.none (0 : Nat) (0 : Nat))))]) = ([SV.imm Ty.str names, SV.imm (Ty.int IntKind.i64) ns, SV.lit
      (Value.string ask), SV.ptr (0 : Nat) (0 : Nat), SV.mp (1 : Nat), SV.sl (2 : Nat) (1 : Nat) (0 : Nat) (List.length x), SV.ptr (3 : Nat) (0 : Nat), SV.lit (Value.int
      IntKind.i64 (0 : Int))], [SO.cells (40 : Nat) (W5.bcells (0 : Int) (SV.lit (Value.map Option.none))), SO.imap (Sx.imapR Go.Proofs.Tryz.prog (9 : Nat)) [], SO.row (9 : Nat)
      Ty.str x, SO.cells (52 : Nat) (W5.bk (SV.lit (Value.slice Option.none (0 : Nat) (0 : Nat))) (SV.lit (Value.slice Option.none (0 : Nat) (0 : Nat))))]) ∧ W5.OrdOf ([] : List
      ByteArray) (List.getD names (0 : Nat) (Ty.dflt Ty.str)) (Sx.logHas [] (List.getD names (0 : Nat) (Ty.dflt Ty.str))) x) ∧ True)) (True ∧ ((0 : Int) ≤ (↑b : Int) ∧ (↑b :
      Int) ≤ (↑(0 : Nat) : Int)) ∧ (1 : Nat) ≤ (1 : Nat) ∧ List.length (List.take b ([] : List ByteArray)) = List.length (List.take b ([] : List ByteArray)) ∧ ((↑(List.length (List.take b ([] : List ByteArray)) + (1 : Nat)) : Int) ≤
      (9223372036854775807 : Int) ∧ (List.length (List.take b ([] : List ByteArray)) + (1 : Nat)) * Sx.bytesOf Go.Proofs.Tryz.prog (9 : Nat) ≤ (140737488355328 : Nat)) ∧ (0 : Nat) + b + ((0 : Nat)
      - b) ≤ (0 : Nat) ∧ List.length (List.take b ([] : List ByteArray)) + (1 : Nat) = List.length (List.take b ([] : List ByteArray) ++ [List.getD names (0 : Nat) (Ty.dflt Ty.str)]) ∧ Sx.br (decide (List.length
      (List.take ((0 : Nat) - b) (List.drop ((0 : Nat) + b) ([] : List ByteArray))) = (0 : Nat))) ((∃ (x : List ByteArray), ([SV.imm Ty.str names, SV.imm (Ty.int IntKind.i64)
      ns, SV.lit (Value.string ask), SV.ptr (0 : Nat) (0 : Nat), SV.mp (1 : Nat), SV.sl (2 : Nat) (1 : Nat) (0 : Nat) (List.length (List.take b ([] : List ByteArray)) + (1 : Nat)), SV.ptr (3 :
      Nat) (0 : Nat), SV.lit (Value.int IntKind.i64 (0 : Int))], [SO.cells (40 : Nat) (W5.bcells (0 : Int) (SV.lit (Value.map Option.none))), SO.imap (Sx.imapR
      Go.Proofs.Tryz.prog (9 : Nat)) [], SO.row (9 : Nat) Ty.str (List.take b ([] : List ByteArray) ++ [List.getD names (0 : Nat) (Ty.dflt Ty.str)]), SO.cells (52 : Nat) (W5.bk (SV.lit
      (Value.slice Option.none (0 : Nat) (0 : Nat))) (SV.lit (Value.slice Option.none (0 : Nat) (0 : Nat))))]) = ([SV.imm Ty.str names, SV.imm (Ty.int IntKind.i64) ns, SV.lit
      (Value.string ask), SV.ptr (0 : Nat) (0 : Nat), SV.mp (1 : Nat), SV.sl (2 : Nat) (1 : Nat) (0 : Nat) (List.length x), SV.ptr (3 : Nat) (0 : Nat), SV.lit (Value.int
      IntKind.i64 (0 : Int))], [SO.cells (40 : Nat) (W5.bcells (0 : Int) (SV.lit (Value.map Option.none))), SO.imap (Sx.imapR Go.Proofs.Tryz.prog (9 : Nat)) [], SO.row (9 : Nat)
      Ty.str x, SO.cells (52 : Nat) (W5.bk (SV.lit (Value.slice Option.none (0 : Nat) (0 : Nat))) (SV.lit (Value.slice Option.none (0 : Nat) (0 : Nat))))]) ∧ W5.OrdOf ([] : List
      ByteArray) (List.getD names (0 : Nat) (Ty.dflt Ty.str)) (Sx.logHas [] (List.getD names (0 : Nat) (Ty.dflt Ty.str))) x) ∧ True) (((↑(List.length (List.take b ([] : List ByteArray)) + (1 :
      Nat) + List.length (List.take ((0 : Nat) - b) (List.drop ((0 : Nat) + b) ([] : List ByteArray)))) : Int) ≤ (9223372036854775807 : Int) ∧ (List.length (List.take b ([] : List ByteArray)) + (1
      : Nat) + List.length (List.take ((0 : Nat) - b) (List.drop ((0 : Nat) + b) ([] : List ByteArray)))) * Sx.bytesOf Go.Proofs.Tryz.prog (9 : Nat) ≤ (140737488355328 : Nat)) ∧
      (∃ (x : List ByteArray), ([SV.imm Ty.str names, SV.imm (Ty.int IntKind.i64) ns, SV.lit (Value.string ask), SV.ptr (0 : Nat) (0 : Nat), SV.mp (1 : Nat), SV.sl (2 : Nat) (1
      : Nat) (0 : Nat) (List.length (List.take b ([] : List ByteArray)) + (1 : Nat) + List.length (List.take ((0 : Nat) - b) (List.drop ((0 : Nat) + b) ([] : List ByteArray)))), SV.ptr (3 : Nat)
      (0 : Nat), SV.lit (Value.int IntKind.i64 (0 : Int))], [SO.cells (40 : Nat) (W5.bcells (0 : Int) (SV.lit (Value.map Option.none))), SO.imap (Sx.imapR Go.Proofs.Tryz.prog (9
      : Nat)) [], SO.row (9 : Nat) Ty.str (List.take b ([] : List ByteArray) ++ [List.getD names (0 : Nat) (Ty.dflt Ty.str)] ++ List.take ((0 : Nat) - b) (List.drop ((0 : Nat) + b) ([] : List
      ByteArray))), SO.cells (52 : Nat) (W5.bk (SV.lit (Value.slice Option.none (0 : Nat) (0 : Nat))) (SV.lit (Value.slice Option.none (0 : Nat) (0 : Nat))))]) = ([SV.imm Ty.str
      names, SV.imm (Ty.int IntKind.i64) ns, SV.lit (Value.string ask), SV.ptr (0 : Nat) (0 : Nat), SV.mp (1 : Nat), SV.sl (2 : Nat) (1 : Nat) (0 : Nat) (List.length x), SV.ptr
      (3 : Nat) (0 : Nat), SV.lit (Value.int IntKind.i64 (0 : Int))], [SO.cells (40 : Nat) (W5.bcells (0 : Int) (SV.lit (Value.map Option.none))), SO.imap (Sx.imapR
      Go.Proofs.Tryz.prog (9 : Nat)) [], SO.row (9 : Nat) Ty.str x, SO.cells (52 : Nat) (W5.bk (SV.lit (Value.slice Option.none (0 : Nat) (0 : Nat))) (SV.lit (Value.slice
      Option.none (0 : Nat) (0 : Nat))))]) ∧ W5.OrdOf ([] : List ByteArray) (List.getD names (0 : Nat) (Ty.dflt Ty.str)) (Sx.logHas [] (List.getD names (0 : Nat) (Ty.dflt
      Ty.str))) x) ∧ True))) (True ∧ ((0 : Int) ≤ (↑b : Int) ∧ (↑b : Int) ≤ (↑(0 : Nat) : Int)) ∧ (1 : Nat) ≤ (1 : Nat) ∧ List.length (List.take b ([] : List ByteArray)) = List.length (List.take b ([] : List ByteArray)) ∧ ((↑(List.length (List.take b ([] : List ByteArray)) + (1 : Nat)) : Int) ≤ (9223372036854775807 : Int) ∧ (List.length (List.take b ([] : List ByteArray)) + (1 : Nat)) * Sx.bytesOf Go.Proofs.Tryz.prog (9 :
      Nat) ≤ (140737488355328 : Nat)) ∧ (0 : Nat) + b + ((0 : Nat) - b) ≤ (0 : Nat) ∧ List.length (List.take b ([] : List ByteArray)) + (1 : Nat) = List.length (List.take b ([] : List ByteArray) ++ [List.getD names
      (0 : Nat) (Ty.dflt Ty.str)]) ∧ Sx.br (decide (List.length (List.take ((0 : Nat) - b) (List.drop ((0 : Nat) + b) ([] : List ByteArray))) = (0 : Nat))) ((∃ (x : List
      ByteArray), ([SV.imm Ty.str names, SV.imm (Ty.int IntKind.i64) ns, SV.lit (Value.string ask), SV.ptr (0 : Nat) (0 : Nat), SV.mp (1 : Nat), SV.sl (2 : Nat) (1 : Nat) (0 :
      Nat) (List.length (List.take b ([] : List ByteArray)) + (1 : Nat)), SV.ptr (3 : Nat) (0 : Nat), SV.lit (Value.int IntKind.i64 (0 : Int))], [SO.cells (40 : Nat) (W5.bcells (0 : Int) (SV.lit
      (Value.map Option.none))), SO.imap (Sx.imapR Go.Proofs.Tryz.prog (9 : Nat)) [], SO.row (9 : Nat) Ty.str (List.take b ([] : List ByteArray) ++ [List.getD names (0 : Nat) (Ty.dflt Ty.str)]),
      SO.cells (52 : Nat) (W5.bk (SV.lit (Value.slice Option.none (0 : Nat) (0 : Nat))) (SV.lit (Value.slice Option.none (0 : Nat) (0 : Nat))))]) = ([SV.imm Ty.str names, SV.imm
      (Ty.int IntKind.i64) ns, SV.lit (Value.string ask), SV.ptr (0 : Nat) (0 : Nat), SV.mp (1 : Nat), SV.sl (2 : Nat) (1 : Nat) (0 : Nat) (List.length x), SV.ptr (3 : Nat) (0 :
      Nat), SV.lit (Value.int IntKind.i64 (0 : Int))], [SO.cells (40 : Nat) (W5.bcells (0 : Int) (SV.lit (Value.map Option.none))), SO.imap (Sx.imapR Go.Proofs.Tryz.prog (9 :
      Nat)) [], SO.row (9 : Nat) Ty.str x, SO.cells (52 : Nat) (W5.bk (SV.lit (Value.slice Option.none (0 : Nat) (0 : Nat))) (SV.lit (Value.slice Option.none (0 : Nat) (0 :
      Nat))))]) ∧ W5.OrdOf ([] : List ByteArray) (List.getD names (0 : Nat) (Ty.dflt Ty.str)) (Sx.logHas [] (List.getD names (0 : Nat) (Ty.dflt Ty.str))) x) ∧ True)
      (((↑(List.length (List.take b ([] : List ByteArray)) + (1 : Nat) + List.length (List.take ((0 : Nat) - b) (List.drop ((0 : Nat) + b) ([] : List ByteArray)))) : Int) ≤ (9223372036854775807 :
      Int) ∧ (List.length (List.take b ([] : List ByteArray)) + (1 : Nat) + List.length (List.take ((0 : Nat) - b) (List.drop ((0 : Nat) + b) ([] : List ByteArray)))) * Sx.bytesOf
      Go.Proofs.Tryz.prog (9 : Nat) ≤ (140737488355328 : Nat)) ∧ (∃ (x : List ByteArray), ([SV.imm Ty.str names, SV.imm (Ty.int IntKind.i64) ns, SV.lit (Value.string ask),
      SV.ptr (0 : Nat) (0 : Nat), SV.mp (1 : Nat), SV.sl (2 : Nat) (1 : Nat) (0 : Nat) (List.length (List.take b ([] : List ByteArray)) + (1 : Nat) + List.length (List.take ((0 : Nat) - b)
      (List.drop ((0 : Nat) + b) ([] : List ByteArray)))), SV.ptr (3 : Nat) (0 : Nat), SV.lit (Value.int IntKind.i64 (0 : Int))], [SO.cells (40 : Nat) (W5.bcells (0 : Int)
      (SV.lit (Value.map Option.none))), SO.imap (Sx.imapR Go.Proofs.Tryz.prog (9 : Nat)) [], SO.row (9 : Nat) Ty.str (List.take b ([] : List ByteArray) ++ [List.getD names (0 : Nat) (Ty.dflt
      Ty.str)] ++ List.take ((0 : Nat) - b) (List.drop ((0 : Nat) + b) ([] : List ByteArray))), SO.cells (52 : Nat) (W5.bk (SV.lit (Value.slice Option.none (0 : Nat) (0 : Nat)))
      (SV.lit (Value.slice Option.none (0 : Nat) (0 : Nat))))]) = ([SV.imm Ty.str names, SV.imm (Ty.int IntKind.i64) ns, SV.lit (Value.string ask), SV.ptr (0 : Nat) (0 : Nat),
      SV.mp (1 : Nat), SV.sl (2 : Nat) (1 : Nat) (0 : Nat) (List.length x), SV.ptr (3 : Nat) (0 : Nat), SV.lit (Value.int IntKind.i64 (0 : Int))], [SO.cells (40 : Nat)
      (W5.bcells (0 : Int) (SV.lit (Value.map Option.none))), SO.imap (Sx.imapR Go.Proofs.Tryz.prog (9 : Nat)) [], SO.row (9 : Nat) Ty.str x, SO.cells (52 : Nat) (W5.bk (SV.lit
      (Value.slice Option.none (0 : Nat) (0 : Nat))) (SV.lit (Value.slice Option.none (0 : Nat) (0 : Nat))))]) ∧ W5.OrdOf ([] : List ByteArray) (List.getD names (0 : Nat)
      (Ty.dflt Ty.str)) (Sx.logHas [] (List.getD names (0 : Nat) (Ty.dflt Ty.str))) x) ∧ True))) (∀ (b_2 : Bool), True → br b_2 (∀ (b_3 : Bool), True → br b_3 ((0 : Nat) + b ≤
      (0 : Nat) ∧ ((↑((0 : Nat) + List.length (List.take b ([] : List ByteArray))) : Int) ≤ (9223372036854775807 : Int) ∧ ((0 : Nat) + List.length (List.take b ([] : List ByteArray))) * Sx.bytesOf
      Go.Proofs.Tryz.prog (9 : Nat) ≤ (140737488355328 : Nat)) ∧ ∀ (b_4 : Bool), True → br b_4 ((1 : Nat) ≤ (1 : Nat) ∧ List.length (List.take b ([] : List ByteArray)) = List.length (List.take b ([] : List ByteArray)) ∧ ((↑(List.length (List.take b ([] : List ByteArray)) + (1 : Nat)) : Int) ≤ (9223372036854775807 : Int) ∧ (List.length (List.take b ([] : List ByteArray)) + (1 : Nat)) * Sx.bytesOf Go.Proofs.Tryz.prog (9 :
      Nat) ≤ (140737488355328 : Nat)) ∧ True ∧ ((0 : Int) ≤ (↑b : Int) ∧ (↑b : Int) ≤ (↑(0 : Nat) : Int)) ∧ (0 : Nat) + b + ((0 : Nat) - b) ≤ (0 : Nat) ∧ List.length (List.take
      b ([] : List ByteArray)) + (1 : Nat) = List.length (List.take b ([] : List ByteArray) ++ [List.getD names (0 : Nat) (Ty.dflt Ty.str)]) ∧ Sx.br (decide (List.length (List.take ((0 : Nat) - b) (List.drop ((0 :
      Nat) + b) ([] : List ByteArray))) = (0 : Nat))) ((∃ (x : List ByteArray), ([SV.imm Ty.str names, SV.imm (Ty.int IntKind.i64) ns, SV.lit (Value.string ask), SV.ptr (0 :
      Nat) (0 : Nat), SV.mp (1 : Nat), SV.sl (2 : Nat) (1 : Nat) (0 : Nat) (List.length (List.take b ([] : List ByteArray)) + (1 : Nat)), SV.ptr (3 : Nat) (0 : Nat), SV.lit (Value.int IntKind.i64
      (0 : Int))], [SO.cells (40 : Nat) (W5.bcells (0 : Int) (SV.lit (Value.map Option.none))), SO.imap (Sx.imapR Go.Proofs.Tryz.prog (9 : Nat)) [], SO.row (9 : Nat) Ty.str
      (List.take b ([] : List ByteArray) ++ [List.getD names (0 : Nat) (Ty.dflt Ty.str)]), SO.cells (52 : Nat) (W5.bk (SV.lit (Value.slice Option.none (0 : Nat) (0 : Nat))) (SV.lit (Value.slice
      Option.none (0 : Nat) (0 : Nat))))]) = ([SV.imm Ty.str names, SV.imm (Ty.int IntKind.i64) ns, SV.lit (Value.string ask), SV.ptr (0 : Nat) (0 : Nat), SV.mp (1 : Nat), SV.sl
      (2 : Nat) (1 : Nat) (0 : Nat) (List.length x), SV.ptr (3 : Nat) (0 : Nat), SV.lit (Value.int IntKind.i64 (0 : Int))], [SO.cells (40 : Nat) (W5.bcells (0 : Int) (SV.lit
      (Value.map Option.none))), SO.imap (Sx.imapR Go.Proofs.Tryz.prog (9 : Nat)) [], SO.row (9 : Nat) Ty.str x, SO.cells (52 : Nat) (W5.bk (SV.lit (Value.slice Option.none (0 :
      Nat) (0 : Nat))) (SV.lit (Value.slice Option.none (0 : Nat) (0 : Nat))))]) ∧ W5.OrdOf ([] : List ByteArray) (List.getD names (0 : Nat) (Ty.dflt Ty.str)) (Sx.logHas []
      (List.getD names (0 : Nat) (Ty.dflt Ty.str))) x) ∧ True) (((↑(List.length (List.take b ([] : List ByteArray)) + (1 : Nat) + List.length (List.take ((0 : Nat) - b) (List.drop ((0 : Nat) + b)
      ([] : List ByteArray)))) : Int) ≤ (9223372036854775807 : Int) ∧ (List.length (List.take b ([] : List ByteArray)) + (1 : Nat) + List.length (List.take ((0 : Nat) - b) (List.drop ((0 : Nat) +
      b) ([] : List ByteArray)))) * Sx.bytesOf Go.Proofs.Tryz.prog (9 : Nat) ≤ (140737488355328 : Nat)) ∧ (∃ (x : List ByteArray), ([SV.imm Ty.str names, SV.imm (Ty.int
      IntKind.i64) ns, SV.lit (Value.string ask), SV.ptr (0 : Nat) (0 : Nat), SV.mp (1 : Nat), SV.sl (2 : Nat) (1 : Nat) (0 : Nat) (List.length (List.take b ([] : List ByteArray)) + (1 : Nat) +
      List.length (List.take ((0 : Nat) - b) (List.drop ((0 : Nat) + b) ([] : List ByteArray)))), SV.ptr (3 : Nat) (0 : Nat), SV.lit (Value.int IntKind.i64 (0 : Int))],
      [SO.cells (40 : Nat) (W5.bcells (0 : Int) (SV.lit (Value.map Option.none))), SO.imap (Sx.imapR Go.Proofs.Tryz.prog (9 : Nat)) [], SO.row (9 : Nat) Ty.str (List.take b ([] : List ByteArray)
      ++ [List.getD names (0 : Nat) (Ty.dflt Ty.str)] ++ List.take ((0 : Nat) - b) (List.drop ((0 : Nat) + b) ([] : List ByteArray))), SO.cells (52 : Nat) (W5.bk (SV.lit
      (Value.slice Option.none (0 : Nat) (0 : Nat))) (SV.lit (Value.slice Option.none (0 : Nat) (0 : Nat))))]) = ([SV.imm Ty.str names, SV.imm (Ty.int IntKind.i64) ns, SV.lit
      (Value.string ask), SV.ptr (0 : Nat) (0 : Nat), SV.mp (1 : Nat), SV.sl (2 : Nat) (1 : Nat) (0 : Nat) (List.length x), SV.ptr (3 : Nat) (0 : Nat), SV.lit (Value.int
      IntKind.i64 (0 : Int))], [SO.cells (40 : Nat) (W5.bcells (0 : Int) (SV.lit (Value.map Option.none))), SO.imap (Sx.imapR Go.Proofs.Tryz.prog (9 : Nat)) [], SO.row (9 : Nat)
      Ty.str x, SO.cells (52 : Nat) (W5.bk (SV.lit (Value.slice Option.none (0 : Nat) (0 : Nat))) (SV.lit (Value.slice Option.none (0 : Nat) (0 : Nat))))]) ∧ W5.OrdOf ([] : List
      ByteArray) (List.getD names (0 : Nat) (Ty.dflt Ty.str)) (Sx.logHas [] (List.getD names (0 : Nat) (Ty.dflt Ty.str))) x) ∧ True)) (True ∧ ((0 : Int) ≤ (↑b : Int) ∧ (↑b :
      Int) ≤ (↑(0 : Nat) : Int)) ∧ (1 : Nat) ≤ (1 : Nat) ∧ List.length (List.take b ([] : List ByteArray)) = List.length (List.take b ([] : List ByteArray)) ∧ ((↑(List.length (List.take b ([] : List ByteArray)) + (1 : Nat)) : Int) ≤
      (9223372036854775807 : Int) ∧ (List.length (List.take b ([] : List ByteArray)) + (1 : Nat)) * Sx.bytesOf Go.Proofs.Tryz.prog (9 : Nat) ≤ (140737488355328 : Nat)) ∧ (0 : Nat) + b + ((0 : Nat)
      - b) ≤ (0 : Nat) ∧ List.length (List.take b ([] : List ByteArray)) + (1 : Nat) = List.length (List.take b ([] : List ByteArray) ++ [List.getD names (0 : Nat) (Ty.dflt Ty.str)]) ∧ Sx.br (decide (List.length
      (List.take ((0 : Nat) - b) (List.drop ((0 : Nat) + b) ([] : List ByteArray))) = (0 : Nat))) ((∃ (x : List ByteArray), ([SV.imm Ty.str names, SV.imm (Ty.int IntKind.i64)
      ns, SV.lit (Value.string ask), SV.ptr (0 : Nat) (0 : Nat), SV.mp (1 : Nat), SV.sl (2 : Nat) (1 : Nat) (0 : Nat) (List.length (List.take b ([] : List ByteArray)) + (1 : Nat)), SV.ptr (3 :
      Nat) (0 : Nat), SV.lit (Value.int IntKind.i64 (0 : Int))], [SO.cells (40 : Nat) (W5.bcells (0 : Int) (SV.lit (Value.map Option.none))), SO.imap (Sx.imapR
      Go.Proofs.Tryz.prog (9 : Nat)) [], SO.row (9 : Nat) Ty.str (List.take b ([] : List ByteArray) ++ [List.getD names (0 : Nat) (Ty.dflt Ty.str)]), SO.cells (52 : Nat) (W5.bk (SV.lit
      (Value.slice Option.none (0 : Nat) (0 : Nat))) (SV.lit (Value.slice Option.none (0 : Nat) (0 : Nat))))]) = ([SV.imm Ty.str names, SV.imm (Ty.int IntKind.i64) ns, SV.lit
      (Value.string ask), SV.ptr (0 : Nat) (0 : Nat), SV.mp (1 : Nat), SV.sl (2 : Nat) (1 : Nat) (0 : Nat) (List.length x), SV.ptr (3 : Nat) (0 : Nat), SV.lit (Value.int
      IntKind.i64 (0 : Int))], [SO.cells (40 : Nat) (W5.bcells (0 : Int) (SV.lit (Value.map Option.none))), SO.imap (Sx.imapR Go.Proofs.Tryz.prog (9 : Nat)) [], SO.row (9 : Nat)
      Ty.str x, SO.cells (52 : Nat) (W5.bk (SV.lit (Value.slice Option.none (0 : Nat) (0 : Nat))) (SV.lit (Value.slice Option.none (0 : Nat) (0 : Nat))))]) ∧ W5.OrdOf ([] : List
      ByteArray) (List.getD names (0 : Nat) (Ty.dflt Ty.str)) (Sx.logHas [] (List.getD names (0 : Nat) (Ty.dflt Ty.str))) x) ∧ True) (((↑(List.length (List.take b ([] : List ByteArray)) + (1 :
      Nat) + List.length (List.take ((0 : Nat) - b) (List.drop ((0 : Nat) + b) ([] : List ByteArray)))) : Int) ≤ (9223372036854775807 : Int) ∧ (List.length (List.take b ([] : List ByteArray)) + (1
      : Nat) + List.length (List.take ((0 : Nat) - b) (List.drop ((0 : Nat) + b) ([] : List ByteArray)))) * Sx.bytesOf Go.Proofs.Tryz.prog (9 : Nat) ≤ (140737488355328 : Nat)) ∧
      (∃ (x : List ByteArray), ([SV.imm Ty.str names, SV.imm (Ty.int IntKind.i64) ns, SV.lit (Value.string ask), SV.ptr (0 : Nat) (0 : Nat), SV.mp (1 : Nat), SV.sl (2 : Nat) (1
      : Nat) (0 : Nat) (List.length (List.take b ([] : List ByteArray)) + (1 : Nat) + List.length (List.take ((0 : Nat) - b) (List.drop ((0 : Nat) + b) ([] : List ByteArray)))), SV.ptr (3 : Nat)
      (0 : Nat), SV.lit (Value.int IntKind.i64 (0 : Int))], [SO.cells (40 : Nat) (W5.bcells (0 : Int) (SV.lit (Value.map Option.none))), SO.imap (Sx.imapR Go.Proofs.Tryz.prog (9
      : Nat)) [], SO.row (9 : Nat) Ty.str (List.take b ([] : List ByteArray) ++ [List.getD names (0 : Nat) (Ty.dflt Ty.str)] ++ List.take ((0 : Nat) - b) (List.drop ((0 : Nat) + b) ([] : List
      ByteArray))), SO.cells (52 : Nat) (W5.bk (SV.lit (Value.slice Option.none (0 : Nat) (0 : Nat))) (SV.lit (Value.slice Option.none (0 : Nat) (0 : Nat))))]) = ([SV.imm Ty.str
      names, SV.imm (Ty.int IntKind.i64) ns, SV.lit (Value.string ask), SV.ptr (0 : Nat) (0 : Nat), SV.mp (1 : Nat), SV.sl (2 : Nat) (1 : Nat) (0 : Nat) (List.length x), SV.ptr
      (3 : Nat) (0 : Nat), SV.lit (Value.int IntKind.i64 (0 : Int))], [SO.cells (40 : Nat) (W5.bcells (0 : Int) (SV.lit (Value.map Option.none))), SO.imap (Sx.imapR
      Go.Proofs.Tryz.prog (9 : Nat)) [], SO.row (9 : Nat) Ty.str x, SO.cells (52 : Nat) (W5.bk (SV.lit (Value.slice Option.none (0 : Nat) (0 : Nat))) (SV.lit (Value.slice
      Option.none (0 : Nat) (0 : Nat))))]) ∧ W5.OrdOf ([] : List ByteArray) (List.getD names (0 : Nat) (Ty.dflt Ty.str)) (Sx.logHas [] (List.getD names (0 : Nat) (Ty.dflt
      Ty.str))) x) ∧ True))) (True ∧ ((0 : Int) ≤ (↑b : Int) ∧ (↑b : Int) ≤ (↑(0 : Nat) : Int)) ∧ (0 : Nat) + b ≤ (0 : Nat) ∧ ((↑((0 : Nat) + List.length (List.take b ([] : List ByteArray))) :
      Int) ≤ (9223372036854775807 : Int) ∧ ((0 : Nat) + List.length (List.take b ([] : List ByteArray))) * Sx.bytesOf Go.Proofs.Tryz.prog (9 : Nat) ≤ (140737488355328 : Nat)) ∧ (1 : Nat) ≤ (1 :
      Nat) ∧ List.length (List.take b ([] : List ByteArray)) = List.length (List.take b ([] : List ByteArray)) ∧ ((↑(List.length (List.take b ([] : List ByteArray)) + (1 : Nat)) : Int) ≤ (9223372036854775807 : Int) ∧ (List.length
      (List.take b ([] : List ByteArray)) + (1 : Nat)) * Sx.bytesOf Go.Proofs.Tryz.prog (9 : Nat) ≤ (140737488355328 : Nat)) ∧ (0 : Nat) + b + ((0 : Nat) - b) ≤ (0 : Nat) ∧ List.length (List.take
      b ([] : List ByteArray)) + (1 : Nat) = List.length (List.take b ([] : List ByteArray) ++ [List.getD names (0 : Nat) (Ty.dflt Ty.str)]) ∧ Sx.br (decide (List.length (List.take ((0 : Nat) - b) (List.drop ((0 :
      Nat) + b) ([] : List ByteArray))) = (0 : Nat))) ((∃ (x : List ByteArray), ([SV.imm Ty.str names, SV.imm (Ty.int IntKind.i64) ns, SV.lit (Value.string ask), SV.ptr (0 :
      Nat) (0 : Nat), SV.mp (1 : Nat), SV.sl (2 : Nat) (1 : Nat) (0 : Nat) (List.length (List.take b ([] : List ByteArray)) + (1 : Nat)), SV.ptr (3 : Nat) (0 : Nat), SV.lit (Value.int IntKind.i64
      (0 : Int))], [SO.cells (40 : Nat) (W5.bcells (0 : Int) (SV.lit (Value.map Option.none))), SO.imap (Sx.imapR Go.Proofs.Tryz.prog (9 : Nat)) [], SO.row (9 : Nat) Ty.str
      (List.take b ([] : List ByteArray) ++ [List.getD names (0 : Nat) (Ty.dflt Ty.str)]), SO.cells (52 : Nat) (W5.bk (SV.lit (Value.slice Option.none (0 : Nat) (0 : Nat))) (SV.lit (Value.slice
      Option.none (0 : Nat) (0 : Nat))))]) = ([SV.imm Ty.str names, SV.imm (Ty.int IntKind.i64) ns, SV.lit (Value.string ask), SV.ptr (0 : Nat) (0 : Nat), SV.mp (1 : Nat), SV.sl
      (2 : Nat) (1 : Nat) (0 : Nat) (List.length x), SV.ptr (3 : Nat) (0 : Nat), SV.lit (Value.int IntKind.i64 (0 : Int))], [SO.cells (40 : Nat) (W5.bcells (0 : Int) (SV.lit
      (Value.map Option.none))), SO.imap (Sx.imapR Go.Proofs.Tryz.prog (9 : Nat)) [], SO.row (9 : Nat) Ty.str x, SO.cells (52 : Nat) (W5.bk (SV.lit (Value.slice Option.none (0 :
      Nat) (0 : Nat))) (SV.lit (Value.slice Option.none (0 : Nat) (0 : Nat))))]) ∧ W5.OrdOf ([] : List ByteArray) (List.getD names (0 : Nat) (Ty.dflt Ty.str)) (Sx.logHas []
      (List.getD names (0 : Nat) (Ty.dflt Ty.str))) x) ∧ True) (((↑(List.length (List.take b ([] : List ByteArray)) + (1 : Nat) + List.length (List.take ((0 : Nat) - b) (List.drop ((0 : Nat) + b)
      ([] : List ByteArray)))) : Int) ≤ (9223372036854775807 : Int) ∧ (List.length (List.take b ([] : List ByteArray)) + (1 : Nat) + List.length (List.take ((0 : Nat) - b) (List.drop ((0 : Nat) +
      b) ([] : List ByteArray)))) * Sx.bytesOf Go.Proofs.Tryz.prog (9 : Nat) ≤ (140737488355328 : Nat)) ∧ (∃ (x : List ByteArray), ([SV.imm Ty.str names, SV.imm (Ty.int
      IntKind.i64) ns, SV.lit (Value.string ask), SV.ptr (0 : Nat) (0 : Nat), SV.mp (1 : Nat), SV.sl (2 : Nat) (1 : Nat) (0 : Nat) (List.length (List.take b ([] : List ByteArray)) + (1 : Nat) +
      List.length (List.take ((0 : Nat) - b) (List.drop ((0 : Nat) + b) ([] : List ByteArray)))), SV.ptr (3 : Nat) (0 : Nat), SV.lit (Value.int IntKind.i64 (0 : Int))],
      [SO.cells (40 : Nat) (W5.bcells (0 : Int) (SV.lit (Value.map Option.none))), SO.imap (Sx.imapR Go.Proofs.Tryz.prog (9 : Nat)) [], SO.row (9 : Nat) Ty.str (List.take b ([] : List ByteArray)
      ++ [List.getD names (0 : Nat) (Ty.dflt Ty.str)] ++ List.take ((0 : Nat) - b) (List.drop ((0 : Nat) + b) ([] : List ByteArray))), SO.cells (52 : Nat) (W5.bk (SV.lit
      (Value.slice Option.none (0 : Nat) (0 : Nat))) (SV.lit (Value.slice Option.none (0 : Nat) (0 : Nat))))]) = ([SV.imm Ty.str names, SV.imm (Ty.int IntKind.i64) ns, SV.lit
      (Value.string ask), SV.ptr (0 : Nat) (0 : Nat), SV.mp (1 : Nat), SV.sl (2 : Nat) (1 : Nat) (0 : Nat) (List.length x), SV.ptr (3 : Nat) (0 : Nat), SV.lit (Value.int
      IntKind.i64 (0 : Int))], [SO.cells (40 : Nat) (W5.bcells (0 : Int) (SV.lit (Value.map Option.none))), SO.imap (Sx.imapR Go.Proofs.Tryz.prog (9 : Nat)) [], SO.row (9 : Nat)
      Ty.str x, SO.cells (52 : Nat) (W5.bk (SV.lit (Value.slice Option.none (0 : Nat) (0 : Nat))) (SV.lit (Value.slice Option.none (0 : Nat) (0 : Nat))))]) ∧ W5.OrdOf ([] : List
      ByteArray) (List.getD names (0 : Nat) (Ty.dflt Ty.str)) (Sx.logHas [] (List.getD names (0 : Nat) (Ty.dflt Ty.str))) x) ∧ True))) (True ∧ ((0 : Int) ≤ (↑b : Int) ∧ (↑b :
      Int) ≤ (↑(0 : Nat) : Int)) ∧ ∀ (b_3 : Bool), True → br b_3 ((0 : Nat) + b ≤ (0 : Nat) ∧ ((↑((0 : Nat) + List.length (List.take b ([] : List ByteArray))) : Int) ≤ (9223372036854775807 : Int)
      ∧ ((0 : Nat) + List.length (List.take b ([] : List ByteArray))) * Sx.bytesOf Go.Proofs.Tryz.prog (9 : Nat) ≤ (140737488355328 : Nat)) ∧ (1 : Nat) ≤ (1 : Nat) ∧ List.length (List.take b ([] : List ByteArray)) =
      List.length (List.take b ([] : List ByteArray)) ∧ ((↑(List.length (List.take b ([] : List ByteArray)) + (1 : Nat)) : Int) ≤ (9223372036854775807 : Int) ∧ (List.length (List.take b ([] : List ByteArray)) + (1 : Nat)) * Sx.bytesOf
      Go.Proofs.Tryz.prog (9 : Nat) ≤ (140737488355328 : Nat)) ∧ (0 : Nat) + b + ((0 : Nat) - b) ≤ (0 : Nat) ∧ List.length (List.take b ([] : List ByteArray)) + (1 : Nat) = List.length (List.take
      b ([] : List ByteArray) ++ [List.getD names (0 : Nat) (Ty.dflt Ty.str)]) ∧ Sx.br (decide (List.length (List.take ((0 : Nat) - b) (List.drop ((0 : Nat) + b) ([] : List ByteArray))) = (0 :
      Nat))) ((∃ (x : List ByteArray), ([SV.imm Ty.str names, SV.imm (Ty.int IntKind.i64) ns, SV.lit (Value.string ask), SV.ptr (0 : Nat) (0 : Nat), SV.mp (1 : Nat), SV.sl (2 :
      Nat) (1 : Nat) (0 : Nat) (List.length (List.take b ([] : List ByteArray)) + (1 : Nat)), SV.ptr (3 : Nat) (0 : Nat), SV.lit (Value.int IntKind.i64 (0 : Int))], [SO.cells (40 : Nat) (W5.bcells
      (0 : Int) (SV.lit (Value.map Option.none))), SO.imap (Sx.imapR Go.Proofs.Tryz.prog (9 : Nat)) [], SO.row (9 : Nat) Ty.str (List.take b ([] : List ByteArray) ++ [List.getD names (0 : Nat)
      (Ty.dflt Ty.str)]), SO.cells (52 : Nat) (W5.bk (SV.lit (Value.slice Option.none (0 : Nat) (0 : Nat))) (SV.lit (Value.slice Option.none (0 : Nat) (0 : Nat))))]) = ([SV.imm
      Ty.str names, SV.imm (Ty.int IntKind.i64) ns, SV.lit (Value.string ask), SV.ptr (0 : Nat) (0 : Nat), SV.mp (1 : Nat), SV.sl (2 : Nat) (1 : Nat) (0 : Nat) (List.length x),
      SV.ptr (3 : Nat) (0 : Nat), SV.lit (Value.int IntKind.i64 (0 : Int))], [SO.cells (40 : Nat) (W5.bcells (0 : Int) (SV.lit (Value.map Option.none))), SO.imap (Sx.imapR
      Go.Proofs.Tryz.prog (9 : Nat)) [], SO.row (9 : Nat) Ty.str x, SO.cells (52 : Nat) (W5.bk (SV.lit (Value.slice Option.none (0 : Nat) (0 : Nat))) (SV.lit (Value.slice
      Option.none (0 : Nat) (0 : Nat))))]) ∧ W5.OrdOf ([] : List ByteArray) (List.getD names (0 : Nat) (Ty.dflt Ty.str)) (Sx.logHas [] (List.getD names (0 : Nat) (Ty.dflt
      Ty.str))) x) ∧ True) (((↑(List.length (List.take b ([] : List ByteArray)) + (1 : Nat) + List.length (List.take ((0 : Nat) - b) (List.drop ((0 : Nat) + b) ([] : List ByteArray)))) : Int) ≤
      (9223372036854775807 : Int) ∧ (List.length (List.take b ([] : List ByteArray)) + (1 : Nat) + List.length (List.take ((0 : Nat) - b) (List.drop ((0 : Nat) + b) ([] : List ByteArray)))) *
      Sx.bytesOf Go.Proofs.Tryz.prog (9 : Nat) ≤ (140737488355328 : Nat)) ∧ (∃ (x : List ByteArray), ([SV.imm Ty.str names, SV.imm (Ty.int IntKind.i64) ns, SV.lit (Value.string
      ask), SV.ptr (0 : Nat) (0 : Nat), SV.mp (1 : Nat), SV.sl (2 : Nat) (1 : Nat) (0 : Nat) (List.length (List.take b ([] : List ByteArray)) + (1 : Nat) + List.length (List.take ((0 : Nat) - b)
      (List.drop ((0 : Nat) + b) ([] : List ByteArray)))), SV.ptr (3 : Nat) (0 : Nat), SV.lit (Value.int IntKind.i64 (0 : Int))], [SO.cells (40 : Nat) (W5.bcells (0 : Int)
      (SV.lit (Value.map Option.none))), SO.imap (Sx.imapR Go.Proofs.Tryz.prog (9 : Nat)) [], SO.row (9 : Nat) Ty.str (List.take b ([] : List ByteArray) ++ [List.getD names (0 : Nat) (Ty.dflt
      Ty.str)] ++ List.take ((0 : Nat) - b) (List.drop ((0 : Nat) + b) ([] : List ByteArray))), SO.cells (52 : Nat) (W5.bk (SV.lit (Value.slice Option.none (0 : Nat) (0 : Nat)))
      (SV.lit (Value.slice Option.none (0 : Nat) (0 : Nat))))]) = ([SV.imm Ty.str names, SV.imm (Ty.int IntKind.i64) ns, SV.lit (Value.string ask), SV.ptr (0 : Nat) (0 : Nat),
      SV.mp (1 : Nat), SV.sl (2 : Nat) (1 : Nat) (0 : Nat) (List.length x), SV.ptr (3 : Nat) (0 : Nat), SV.lit (Value.int IntKind.i64 (0 : Int))], [SO.cells (40 : Nat)
      (W5.bcells (0 : Int) (SV.lit (Value.map Option.none))), SO.imap (Sx.imapR Go.Proofs.Tryz.prog (9 : Nat)) [], SO.row (9 : Nat) Ty.str x, SO.cells (52 : Nat) (W5.bk (SV.lit
      (Value.slice Option.none (0 : Nat) (0 : Nat))) (SV.lit (Value.slice Option.none (0 : Nat) (0 : Nat))))]) ∧ W5.OrdOf ([] : List ByteArray) (List.getD names (0 : Nat)
      (Ty.dflt Ty.str)) (Sx.logHas [] (List.getD names (0 : Nat) (Ty.dflt Ty.str))) x) ∧ True)) ((0 : Nat) + b ≤ (0 : Nat) ∧ ((↑((0 : Nat) + List.length (List.take b ([] : List ByteArray))) : Int)
      ≤ (9223372036854775807 : Int) ∧ ((0 : Nat) + List.length (List.take b ([] : List ByteArray))) * Sx.bytesOf Go.Proofs.Tryz.prog (9 : Nat) ≤ (140737488355328 : Nat)) ∧ (1 : Nat) ≤ (1 : Nat) ∧
      List.length (List.take b ([] : List ByteArray)) = List.length (List.take b ([] : List ByteArray)) ∧ ((↑(List.length (List.take b ([] : List ByteArray)) + (1 : Nat)) : Int) ≤ (9223372036854775807 : Int) ∧ (List.length (List.take
      b ([] : List ByteArray)) + (1 : Nat)) * Sx.bytesOf Go.Proofs.Tryz.prog (9 : Nat) ≤ (140737488355328 : Nat)) ∧ (0 : Nat) + b + ((0 : Nat) - b) ≤ (0 : Nat) ∧ List.length (List.take b ([] : List ByteArray)) + (1
      : Nat) = List.length (List.take b ([] : List ByteArray) ++ [List.getD names (0 : Nat) (Ty.dflt Ty.str)]) ∧ Sx.br (decide (List.length (List.take ((0 : Nat) - b) (List.drop ((0 : Nat) + b)
      ([] : List ByteArray))) = (0 : Nat))) ((∃ (x : List ByteArray), ([SV.imm Ty.str names, SV.imm (Ty.int IntKind.i64) ns, SV.lit (Value.string ask), SV.ptr (0 : Nat) (0 :
      Nat), SV.mp (1 : Nat), SV.sl (2 : Nat) (1 : Nat) (0 : Nat) (List.length (List.take b ([] : List ByteArray)) + (1 : Nat)), SV.ptr (3 : Nat) (0 : Nat), SV.lit (Value.int IntKind.i64 (0 :
      Int))], [SO.cells (40 : Nat) (W5.bcells (0 : Int) (SV.lit (Value.map Option.none))), SO.imap (Sx.imapR Go.Proofs.Tryz.prog (9 : Nat)) [], SO.row (9 : Nat) Ty.str
      (List.take b ([] : List ByteArray) ++ [List.getD names (0 : Nat) (Ty.dflt Ty.str)]), SO.cells (52 : Nat) (W5.bk (SV.lit (Value.slice Option.none (0 : Nat) (0 : Nat))) (SV.lit (Value.slice
      Option.none (0 : Nat) (0 : Nat))))]) = ([SV.imm Ty.str names, SV.imm (Ty.int IntKind.i64) ns, SV.lit (Value.string ask), SV.ptr (0 : Nat) (0 : Nat), SV.mp (1 : Nat), SV.sl
      (2 : Nat) (1 : Nat) (0 : Nat) (List.length x), SV.ptr (3 : Nat) (0 : Nat), SV.lit (Value.int IntKind.i64 (0 : Int))], [SO.cells (40 : Nat) (W5.bcells (0 : Int) (SV.lit
      (Value.map Option.none))), SO.imap (Sx.imapR Go.Proofs.Tryz.prog (9 : Nat)) [], SO.row (9 : Nat) Ty.str x, SO.cells (52 : Nat) (W5.bk (SV.lit (Value.slice Option.none (0 :
      Nat) (0 : Nat))) (SV.lit (Value.slice Option.none (0 : Nat) (0 : Nat))))]) ∧ W5.OrdOf ([] : List ByteArray) (List.getD names (0 : Nat) (Ty.dflt Ty.str)) (Sx.logHas []
      (List.getD names (0 : Nat) (Ty.dflt Ty.str))) x) ∧ True) (((↑(List.length (List.take b ([] : List ByteArray)) + (1 : Nat) + List.length (List.take ((0 : Nat) - b) (List.drop ((0 : Nat) + b)
      ([] : List ByteArray)))) : Int) ≤ (9223372036854775807 : Int) ∧ (List.length (List.take b ([] : List ByteArray)) + (1 : Nat) + List.length (List.take ((0 : Nat) - b) (List.drop ((0 : Nat) +
      b) ([] : List ByteArray)))) * Sx.bytesOf Go.Proofs.Tryz.prog (9 : Nat) ≤ (140737488355328 : Nat)) ∧ (∃ (x : List ByteArray), ([SV.imm Ty.str names, SV.imm (Ty.int
      IntKind.i64) ns, SV.lit (Value.string ask), SV.ptr (0 : Nat) (0 : Nat), SV.mp (1 : Nat), SV.sl (2 : Nat) (1 : Nat) (0 : Nat) (List.length (List.take b ([] : List ByteArray)) + (1 : Nat) +
      List.length (List.take ((0 : Nat) - b) (List.drop ((0 : Nat) + b) ([] : List ByteArray)))), SV.ptr (3 : Nat) (0 : Nat), SV.lit (Value.int IntKind.i64 (0 : Int))],
      [SO.cells (40 : Nat) (W5.bcells (0 : Int) (SV.lit (Value.map Option.none))), SO.imap (Sx.imapR Go.Proofs.Tryz.prog (9 : Nat)) [], SO.row (9 : Nat) Ty.str (List.take b ([] : List ByteArray)
      ++ [List.getD names (0 : Nat) (Ty.dflt Ty.str)] ++ List.take ((0 : Nat) - b) (List.drop ((0 : Nat) + b) ([] : List ByteArray))), SO.cells (52 : Nat) (W5.bk (SV.lit
      (Value.slice Option.none (0 : Nat) (0 : Nat))) (SV.lit (Value.slice Option.none (0 : Nat) (0 : Nat))))]) = ([SV.imm Ty.str names, SV.imm (Ty.int IntKind.i64) ns, SV.lit
      (Value.string ask), SV.ptr (0 : Nat) (0 : Nat), SV.mp (1 : Nat), SV.sl (2 : Nat) (1 : Nat) (0 : Nat) (List.length x), SV.ptr (3 : Nat) (0 : Nat), SV.lit (Value.int
      IntKind.i64 (0 : Int))], [SO.cells (40 : Nat) (W5.bcells (0 : Int) (SV.lit (Value.map Option.none))), SO.imap (Sx.imapR Go.Proofs.Tryz.prog (9 : Nat)) [], SO.row (9 : Nat)
      Ty.str x, SO.cells (52 : Nat) (W5.bk (SV.lit (Value.slice Option.none (0 : Nat) (0 : Nat))) (SV.lit (Value.slice Option.none (0 : Nat) (0 : Nat))))]) ∧ W5.OrdOf ([] : List
      ByteArray) (List.getD names (0 : Nat) (Ty.dflt Ty.str)) (Sx.logHas [] (List.getD names (0 : Nat) (Ty.dflt Ty.str))) x) ∧ True))))) (∀ (b : List ByteArray), W5.OrdOf ([] :
      List ByteArray) (List.getD names (0 : Nat) (Ty.dflt Ty.str)) (Sx.logHas [] (List.getD names (0 : Nat) (Ty.dflt Ty.str))) b → ((0 : Int) ≤ (0 : Int) ∧ (0 : Int) <
      (↑(List.length names) : Int)) ∧ (0 : Nat) < List.length names ∧ ((0 : Int) ≤ (0 : Int) ∧ (0 : Int) < (↑(List.length ns) : Int)) ∧ (0 : Nat) < List.length ns ∧ (Sx.imapR
      Go.Proofs.Tryz.prog (9 : Nat) = Sx.imapR Go.Proofs.Tryz.prog (9 : Nat) ∧ ByteArray.size (List.getD names (0 : Nat) (Ty.dflt Ty.str)) ≤ Go.maxLen) ∧ (Sx.imapR
      Go.Proofs.Tryz.prog (9 : Nat) = Sx.imapR Go.Proofs.Tryz.prog (9 : Nat) ∧ ByteArray.size (List.getD names (0 : Nat) (Ty.dflt Ty.str)) ≤ Go.maxLen ∧ (0 : Nat) < Go.maxLen) ∧
      W5.bcells (0 : Int) (SV.lit (Value.map Option.none)) = W5.bcells (0 : Int) (SV.lit (Value.map Option.none)) ∧ ((0 : Int) ≤ (0 : Int) ∧ (0 : Int) < (↑(List.length names) :
      Int)) ∧ (0 : Nat) < List.length names ∧ ((0 : Int) ≤ (0 : Int) ∧ (0 : Int) < (↑(List.length ns) : Int)) ∧ (0 : Nat) < List.length ns ∧ ((0 : Int) ≤ (0 : Int) ∧ (0 : Int) <
      (↑(List.length names) : Int)) ∧ (0 : Nat) < List.length names ∧ (Sx.imapR Go.Proofs.Tryz.prog (9 : Nat) = Sx.imapR Go.Proofs.Tryz.prog (9 : Nat) ∧ ByteArray.size
      (List.getD names (0 : Nat) (Ty.dflt Ty.str)) ≤ Go.maxLen) ∧ ∀ (b_1 : Bool), True → br b_1 ((W5.bcells (1 : Int) (SV.mp (1 : Nat)) = W5.bcells (1 : Int) (SV.mp (1 : Nat)) ∧
      Sx.mapR Go.Proofs.Tryz.prog (9 : Go.TypeId) = Sx.mapR Go.Proofs.Tryz.prog (9 : Go.TypeId) ∧ ByteArray.size (List.getD names (0 : Nat) (Ty.dflt Ty.str)) ≤ (281474976710656
      : Nat) ∧ (0 : Nat) ≤ (1000000 : Nat)) ∧ (Sx.imapR Go.Proofs.Tryz.prog (9 : Nat) = Sx.imapR Go.Proofs.Tryz.prog (9 : Nat) ∧ ByteArray.size (List.getD names (0 : Nat)
      (Ty.dflt Ty.str)) ≤ Go.maxLen) ∧ SV.lit (Value.int IntKind.i64 (Sx.logAt [(List.getD names (0 : Nat) (Ty.dflt Ty.str), IntKind.wrap IntKind.i64 (Sx.logAt [] (List.getD
      names (0 : Nat) (Ty.dflt Ty.str)) + List.getD ns (0 : Nat) (Ty.dflt (Ty.int IntKind.i64))))] (List.getD names (0 : Nat) (Ty.dflt Ty.str)))) = SV.lit (Value.int IntKind.i64
      (Sx.logAt [(List.getD names (0 : Nat) (Ty.dflt Ty.str), IntKind.wrap IntKind.i64 (Sx.logAt [] (List.getD names (0 : Nat) (Ty.dflt Ty.str)) + List.getD ns (0 : Nat)
      (Ty.dflt (Ty.int IntKind.i64))))] (List.getD names (0 : Nat) (Ty.dflt Ty.str)))) ∧ True) ((W5.bcells (1 : Int) (SV.mp (1 : Nat)) = W5.bcells (1 : Int) (SV.mp (1 : Nat)) ∧
      Sx.mapR Go.Proofs.Tryz.prog (9 : Go.TypeId) = Sx.mapR Go.Proofs.Tryz.prog (9 : Go.TypeId) ∧ ByteArray.size (List.getD names (0 : Nat) (Ty.dflt Ty.str)) ≤ (281474976710656
      : Nat) ∧ (0 : Nat) ≤ (1000000 : Nat)) ∧ Sx.br (IntKind.wrap IntKind.i64 (W5.numAt [] (List.getD names (0 : Nat) (Ty.dflt Ty.str)) + List.getD ns (0 : Nat) (Ty.dflt (Ty.int
      IntKind.i64))) != Sx.logAt [(List.getD names (0 : Nat) (Ty.dflt Ty.str), IntKind.wrap IntKind.i64 (Sx.logAt [] (List.getD names (0 : Nat) (Ty.dflt Ty.str)) + List.getD ns
      (0 : Nat) (Ty.dflt (Ty.int IntKind.i64))))] (List.getD names (0 : Nat) (Ty.dflt Ty.str))) (Q (SV.lit (Value.bool false), ([] : List Sx.SO), [(0 : Nat), (1 : Nat), (2 :
      Nat), (3 : Nat), (4 : Nat), (5 : Nat), (6 : Nat)])) (((0 : Int) ≤ (0 : Int) ∧ (0 : Int) < (↑(List.length names) : Int)) ∧ (0 : Nat) < List.length names ∧ ((0 : Int) ≤ (0 :
      Int) ∧ (0 : Int) < (↑(List.length names) : Int)) ∧ (0 : Nat) < List.length names ∧ (Sx.imapR Go.Proofs.Tryz.prog (9 : Nat) = Sx.imapR Go.Proofs.Tryz.prog (9 : Nat) ∧
      ByteArray.size (List.getD names (0 : Nat) (Ty.dflt Ty.str)) ≤ Go.maxLen) ∧ ∀ (b_2 : Bool), True → br b_2 ((W5.bcells (1 : Int) (SV.mp (1 : Nat)) = W5.bcells (1 : Int)
      (SV.mp (1 : Nat)) ∧ Sx.mapR Go.Proofs.Tryz.prog (9 : Go.TypeId) = Sx.mapR Go.Proofs.Tryz.prog (9 : Go.TypeId) ∧ ByteArray.size (List.getD names (0 : Nat) (Ty.dflt Ty.str))
      ≤ Go.maxLen) ∧ (Sx.imapR Go.Proofs.Tryz.prog (9 : Nat) = Sx.imapR Go.Proofs.Tryz.prog (9 : Nat) ∧ ByteArray.size (List.getD names (0 : Nat) (Ty.dflt Ty.str)) ≤ Go.maxLen)
      ∧ SV.lit (Value.int IntKind.i64 (Sx.logAt [(List.getD names (0 : Nat) (Ty.dflt Ty.str), IntKind.wrap IntKind.i64 (Sx.logAt [] (List.getD names (0 : Nat) (Ty.dflt Ty.str))
      + List.getD ns (0 : Nat) (Ty.dflt (Ty.int IntKind.i64))))] (List.getD names (0 : Nat) (Ty.dflt Ty.str)))) = SV.lit (Value.int IntKind.i64 (Sx.logAt [(List.getD names (0 :
      Nat) (Ty.dflt Ty.str), IntKind.wrap IntKind.i64 (Sx.logAt [] (List.getD names (0 : Nat) (Ty.dflt Ty.str)) + List.getD ns (0 : Nat) (Ty.dflt (Ty.int IntKind.i64))))]
      (List.getD names (0 : Nat) (Ty.dflt Ty.str)))) ∧ True) ((W5.bcells (1 : Int) (SV.mp (1 : Nat)) = W5.bcells (1 : Int) (SV.mp (1 : Nat)) ∧ Sx.mapR Go.Proofs.Tryz.prog (9 :
      Go.TypeId) = Sx.mapR Go.Proofs.Tryz.prog (9 : Go.TypeId) ∧ ByteArray.size (List.getD names (0 : Nat) (Ty.dflt Ty.str)) ≤ Go.maxLen) ∧ Sx.br (W5.numAt (W5.addAt []
      (List.getD names (0 : Nat) (Ty.dflt Ty.str)) (List.getD ns (0 : Nat) (Ty.dflt (Ty.int IntKind.i64)))) (List.getD names (0 : Nat) (Ty.dflt Ty.str)) != Sx.logAt [(List.getD
      names (0 : Nat) (Ty.dflt Ty.str), IntKind.wrap IntKind.i64 (Sx.logAt [] (List.getD names (0 : Nat) (Ty.dflt Ty.str)) + List.getD ns (0 : Nat) (Ty.dflt (Ty.int
      IntKind.i64))))] (List.getD names (0 : Nat) (Ty.dflt Ty.str))) (Q (SV.lit (Value.bool false), ([] : List Sx.SO), [(0 : Nat), (1 : Nat), (2 : Nat), (3 : Nat), (4 : Nat), (5
      : Nat), (6 : Nat)])) ((Sx.imapR Go.Proofs.Tryz.prog (9 : Nat) = Sx.imapR Go.Proofs.Tryz.prog (9 : Nat) ∧ ByteArray.size ask ≤ Go.maxLen) ∧ ∀ (b_3 : Bool), True → br b_3
      ((W5.bcells (1 : Int) (SV.mp (1 : Nat)) = W5.bcells (1 : Int) (SV.mp (1 : Nat)) ∧ Sx.mapR Go.Proofs.Tryz.prog (9 : Go.TypeId) = Sx.mapR Go.Proofs.Tryz.prog (9 : Go.TypeId)
      ∧ ByteArray.size ask ≤ Go.maxLen) ∧ (Sx.imapR Go.Proofs.Tryz.prog (9 : Nat) = Sx.imapR Go.Proofs.Tryz.prog (9 : Nat) ∧ ByteArray.size ask ≤ Go.maxLen) ∧ SV.lit (Value.int
      IntKind.i64 (Sx.logAt [(List.getD names (0 : Nat) (Ty.dflt Ty.str), IntKind.wrap IntKind.i64 (Sx.logAt [] (List.getD names (0 : Nat) (Ty.dflt Ty.str)) + List.getD ns (0 :
      Nat) (Ty.dflt (Ty.int IntKind.i64))))] ask)) = SV.lit (Value.int IntKind.i64 (Sx.logAt [(List.getD names (0 : Nat) (Ty.dflt Ty.str), IntKind.wrap IntKind.i64 (Sx.logAt []
      (List.getD names (0 : Nat) (Ty.dflt Ty.str)) + List.getD ns (0 : Nat) (Ty.dflt (Ty.int IntKind.i64))))] ask)) ∧ True) ((W5.bcells (1 : Int) (SV.mp (1 : Nat)) = W5.bcells
      (1 : Int) (SV.mp (1 : Nat)) ∧ Sx.mapR Go.Proofs.Tryz.prog (9 : Go.TypeId) = Sx.mapR Go.Proofs.Tryz.prog (9 : Go.TypeId) ∧ ByteArray.size ask ≤ Go.maxLen) ∧ Sx.br (W5.numAt
      (W5.addAt [] (List.getD names (0 : Nat) (Ty.dflt Ty.str)) (List.getD ns (0 : Nat) (Ty.dflt (Ty.int IntKind.i64)))) ask != Sx.logAt [(List.getD names (0 : Nat) (Ty.dflt
      Ty.str), IntKind.wrap IntKind.i64 (Sx.logAt [] (List.getD names (0 : Nat) (Ty.dflt Ty.str)) + List.getD ns (0 : Nat) (Ty.dflt (Ty.int IntKind.i64))))] ask) (Q (SV.lit
      (Value.bool false), ([] : List Sx.SO), [(0 : Nat), (1 : Nat), (2 : Nat), (3 : Nat), (4 : Nat), (5 : Nat), (6 : Nat)])) ((W5.bcells (1 : Int) (SV.mp (1 : Nat)) = W5.bcells
      (1 : Int) (SV.mp (1 : Nat)) ∧ Sx.mapR Go.Proofs.Tryz.prog (9 : Go.TypeId) = Sx.mapR Go.Proofs.Tryz.prog (9 : Go.TypeId) ∧ (1 : Nat) ≤ (1000000 : Nat)) ∧ (((1 : Nat) ≤ (1 :
      Nat) ∧ (1 : Nat) ≤ (1000000 : Nat)) ∧ W5.bk (SV.lit (Value.slice Option.none (0 : Nat) (0 : Nat))) (SV.lit (Value.slice Option.none (0 : Nat) (0 : Nat))) = W5.bk (SV.lit
      (Value.slice Option.none (0 : Nat) (0 : Nat))) (SV.lit (Value.slice Option.none (0 : Nat) (0 : Nat)))) ∧ ((1 : Nat) ≤ (1 : Nat) ∧ (0 : Nat) + List.length b ≤ List.length b
      ∧ (1 : Nat) ≤ (1000000 : Nat)) ∧ Sx.br (!decide ([{ data := List.toArray (Array.toList (ByteArray.data (List.getD names (0 : Nat) (Ty.dflt Ty.str)))) }] = List.take
      (List.length b) (List.drop (0 : Nat) b))) (Q (SV.lit (Value.bool false), ([] : List Sx.SO), [(0 : Nat), (1 : Nat), (2 : Nat), (3 : Nat), (4 : Nat), (5 : Nat), (6 : Nat)]))
      ((∃ (x : W5.BSt), ([SV.imm Ty.str names, SV.imm (Ty.int IntKind.i64) ns, SV.lit (Value.string ask), SV.ptr (0 : Nat) (0 : Nat), SV.mp (2 : Nat), SV.sl (3 : Nat) (1 : Nat)
      (0 : Nat) (List.length b), SV.ptr (4 : Nat) (0 : Nat), SV.lit (Value.int IntKind.i64 (IntKind.wrap IntKind.i64 ((0 : Int) + (1 : Int))))], [SO.cells (40 : Nat) (W5.bcells
      (1 : Int) (SV.mp (1 : Nat))), W5.mapOf [(List.getD names (0 : Nat) (Ty.dflt Ty.str), IntKind.wrap IntKind.i64 (List.getD ns (0 : Nat) (Ty.dflt (Ty.int IntKind.i64))))],
      SO.imap (Sx.imapR Go.Proofs.Tryz.prog (9 : Nat)) [(List.getD names (0 : Nat) (Ty.dflt Ty.str), IntKind.wrap IntKind.i64 (Sx.logAt [] (List.getD names (0 : Nat) (Ty.dflt
      Ty.str)) + List.getD ns (0 : Nat) (Ty.dflt (Ty.int IntKind.i64))))], SO.row (9 : Nat) Ty.str b, SO.cells (52 : Nat) (W5.bk (SV.sl (5 : Nat) (1 : Nat) (0 : Nat) (1 : Nat))
      (SV.sl (6 : Nat) (1 : Nat) (0 : Nat) (1 : Nat))), SO.kept (22 : Nat) (9 : Nat) Ty.str [[{ data := List.toArray (Array.toList (ByteArray.data (List.getD names (0 : Nat)
      (Ty.dflt Ty.str)))) }]], SO.row (22 : Nat) (Ty.imm Ty.str) [[{ data := List.toArray (Array.toList (ByteArray.data (List.getD names (0 : Nat) (Ty.dflt Ty.str)))) }]]]) =
      ([SV.imm Ty.str names, SV.imm (Ty.int IntKind.i64) ns, SV.lit (Value.string ask), SV.ptr (0 : Nat) (0 : Nat), SV.mp (2 : Nat), SV.sl (3 : Nat) (1 : Nat) (0 : Nat)
      (List.length (Sx.sortedNames (W5.BSt.bl x))), SV.ptr (4 : Nat) (0 : Nat), SV.lit (Value.int IntKind.i64 (↑(W5.BSt.i x) : Int))], [SO.cells (40 : Nat) (W5.bcells (1 : Int)
      (SV.mp (1 : Nat))), W5.mapOf (W5.BSt.bl x), SO.imap (Sx.imapR Go.Proofs.Tryz.prog (9 : Go.TypeId)) (W5.BSt.lg x), SO.row (9 : Nat) Ty.str (Sx.sortedNames (W5.BSt.bl x)),
      SO.cells (52 : Nat) (W5.bk (SV.sl (5 : Nat) (1 : Nat) (0 : Nat) (List.length (W5.BSt.LL x))) (SV.sl (6 : Nat) (1 : Nat) (0 : Nat) (List.length (W5.BSt.LL x)))), SO.kept
      (22 : Nat) (9 : Nat) Ty.str (W5.BSt.LL x), SO.row (22 : Nat) (Ty.imm Ty.str) (W5.BSt.LL x)]) ∧ W5.BOk (List.length names) x) ∧ ∀ (b : W5.BSt), W5.BOk (List.length names) b
      → Sx.br (decide ((↑(W5.BSt.i b) : Int) < (↑(List.length names) : Int))) (((0 : Int) ≤ (↑(W5.BSt.i b) : Int) ∧ (↑(W5.BSt.i b) : Int) < (↑(List.length names) : Int)) ∧
      W5.BSt.i b < List.length names ∧ Sx.br (decide ((↑(ByteArray.size (List.getD names (W5.BSt.i b) (Ty.dflt Ty.str))) : Int) > (60 : Int))) (Q (SV.lit (Value.bool true), ([]
      : List Sx.SO), [(0 : Nat), (1 : Nat), (2 : Nat), (3 : Nat), (4 : Nat), (5 : Nat), (6 : Nat)])) (((0 : Int) ≤ (↑(W5.BSt.i b) : Int) ∧ (↑(W5.BSt.i b) : Int) < (↑(List.length
      names) : Int)) ∧ W5.BSt.i b < List.length names ∧ (Sx.imapR Go.Proofs.Tryz.prog (9 : Go.TypeId) = Sx.imapR Go.Proofs.Tryz.prog (9 : Nat) ∧ ByteArray.size (List.getD names
      (W5.BSt.i b) (Ty.dflt Ty.str)) ≤ Go.maxLen) ∧ ∀ (b_4 : Bool), True → br b_4 (Sx.br (!Sx.logHas (W5.BSt.lg b) (List.getD names (W5.BSt.i b) (Ty.dflt Ty.str))) ((∃ (x :
      Nat), ([SV.imm Ty.str names, SV.imm (Ty.int IntKind.i64) ns, SV.lit (Value.string ask), SV.ptr (0 : Nat) (0 : Nat), SV.mp (2 : Nat), SV.sl (3 : Nat) (1 : Nat) (0 : Nat)
      (List.length (Sx.sortedNames (W5.BSt.bl b))), SV.ptr (4 : Nat) (0 : Nat), SV.lit (Value.int IntKind.i64 (↑(W5.BSt.i b) : Int)), SV.lit (Value.int IntKind.i64 (0 : Int))],
      [SO.cells (40 : Nat) (W5.bcells (1 : Int) (SV.mp (1 : Nat))), W5.mapOf (W5.BSt.bl b), SO.imap (Sx.imapR Go.Proofs.Tryz.prog (9 : Go.TypeId)) (W5.BSt.lg b), SO.row (9 :
      Nat) Ty.str (Sx.sortedNames (W5.BSt.bl b)), SO.cells (52 : Nat) (W5.bk (SV.sl (5 : Nat) (1 : Nat) (0 : Nat) (List.length (W5.BSt.LL b))) (SV.sl (6 : Nat) (1 : Nat) (0 :
      Nat) (List.length (W5.BSt.LL b)))), SO.kept (22 : Nat) (9 : Nat) Ty.str (W5.BSt.LL b), SO.row (22 : Nat) (Ty.imm Ty.str) (W5.BSt.LL b)]) = ([SV.imm Ty.str names, SV.imm
      (Ty.int IntKind.i64) ns, SV.lit (Value.string ask), SV.ptr (0 : Nat) (0 : Nat), SV.mp (2 : Nat), SV.sl (3 : Nat) (1 : Nat) (0 : Nat) (List.length (Sx.sortedNames
      (W5.BSt.bl b))), SV.ptr (4 : Nat) (0 : Nat), SV.lit (Value.int IntKind.i64 (↑(W5.BSt.i b) : Int)), SV.lit (Value.int IntKind.i64 (↑x : Int))], [SO.cells (40 : Nat)
      (W5.bcells (1 : Int) (SV.mp (1 : Nat))), W5.mapOf (W5.BSt.bl b), SO.imap (Sx.imapR Go.Proofs.Tryz.prog (9 : Go.TypeId)) (W5.BSt.lg b), SO.row (9 : Nat) Ty.str
      (Sx.sortedNames (W5.BSt.bl b)), SO.cells (52 : Nat) (W5.bk (SV.sl (5 : Nat) (1 : Nat) (0 : Nat) (List.length (W5.BSt.LL b))) (SV.sl (6 : Nat) (1 : Nat) (0 : Nat)
      (List.length (W5.BSt.LL b)))), SO.kept (22 : Nat) (9 : Nat) Ty.str (W5.BSt.LL b), SO.row (22 : Nat) (Ty.imm Ty.str) (W5.BSt.LL b)]) ∧ W5.LessUp (Sx.sortedNames (W5.BSt.bl
      b)) (List.getD names (W5.BSt.i b) (Ty.dflt Ty.str)) x) ∧ ∀ (b_5 : Nat), W5.LessUp (Sx.sortedNames (W5.BSt.bl b)) (List.getD names (W5.BSt.i b) (Ty.dflt Ty.str)) b_5 →
      Sx.br (decide ((↑b_5 : Int) < (↑(List.length (Sx.sortedNames (W5.BSt.bl b))) : Int))) (((0 : Int) ≤ (↑b_5 : Int) ∧ (↑b_5 : Int) < (↑(List.length (Sx.sortedNames (W5.BSt.bl
      b))) : Int)) ∧ (0 : Nat) + b_5 < List.length (Sx.sortedNames (W5.BSt.bl b)) ∧ ((0 : Int) ≤ (↑(W5.BSt.i b) : Int) ∧ (↑(W5.BSt.i b) : Int) < (↑(List.length names) : Int)) ∧
      W5.BSt.i b < List.length names ∧ Sx.br (Go.Op.bytesLess (Array.toList (ByteArray.data (List.getD (Sx.sortedNames (W5.BSt.bl b)) ((0 : Nat) + b_5) (Ty.dflt Ty.str))))
      (Array.toList (ByteArray.data (List.getD names (W5.BSt.i b) (Ty.dflt Ty.str))))) ((∃ (x' : Nat), ([SV.imm Ty.str names, SV.imm (Ty.int IntKind.i64) ns, SV.lit
      (Value.string ask), SV.ptr (0 : Nat) (0 : Nat), SV.mp (2 : Nat), SV.sl (3 : Nat) (1 : Nat) (0 : Nat) (List.length (Sx.sortedNames (W5.BSt.bl b))), SV.ptr (4 : Nat) (0 :
      Nat), SV.lit (Value.int IntKind.i64 (↑(W5.BSt.i b) : Int)), SV.lit (Value.int IntKind.i64 (IntKind.wrap IntKind.i64 ((↑b_5 : Int) + (1 : Int))))], [SO.cells (40 : Nat)
      (W5.bcells (1 : Int) (SV.mp (1 : Nat))), W5.mapOf (W5.BSt.bl b), SO.imap (Sx.imapR Go.Proofs.Tryz.prog (9 : Go.TypeId)) (W5.BSt.lg b), SO.row (9 : Nat) Ty.str
      (Sx.sortedNames (W5.BSt.bl b)), SO.cells (52 : Nat) (W5.bk (SV.sl (5 : Nat) (1 : Nat) (0 : Nat) (List.length (W5.BSt.LL b))) (SV.sl (6 : Nat) (1 : Nat) (0 : Nat)
      (List.length (W5.BSt.LL b)))), SO.kept (22 : Nat) (9 : Nat) Ty.str (W5.BSt.LL b), SO.row (22 : Nat) (Ty.imm Ty.str) (W5.BSt.LL b)]) = ([SV.imm Ty.str names, SV.imm (Ty.int
      IntKind.i64) ns, SV.lit (Value.string ask), SV.ptr (0 : Nat) (0 : Nat), SV.mp (2 : Nat), SV.sl (3 : Nat) (1 : Nat) (0 : Nat) (List.length (Sx.sortedNames (W5.BSt.bl b))),
      SV.ptr (4 : Nat) (0 : Nat), SV.lit (Value.int IntKind.i64 (↑(W5.BSt.i b) : Int)), SV.lit (Value.int IntKind.i64 (↑x' : Int))], [SO.cells (40 : Nat) (W5.bcells (1 : Int)
      (SV.mp (1 : Nat))), W5.mapOf (W5.BSt.bl b), SO.imap (Sx.imapR Go.Proofs.Tryz.prog (9 : Go.TypeId)) (W5.BSt.lg b), SO.row (9 : Nat) Ty.str (Sx.sortedNames (W5.BSt.bl b)),
      SO.cells (52 : Nat) (W5.bk (SV.sl (5 : Nat) (1 : Nat) (0 : Nat) (List.length (W5.BSt.LL b))) (SV.sl (6 : Nat) (1 : Nat) (0 : Nat) (List.length (W5.BSt.LL b)))), SO.kept
      (22 : Nat) (9 : Nat) Ty.str (W5.BSt.LL b), SO.row (22 : Nat) (Ty.imm Ty.str) (W5.BSt.LL b)]) ∧ W5.LessUp (Sx.sortedNames (W5.BSt.bl b)) (List.getD names (W5.BSt.i b)
      (Ty.dflt Ty.str)) x' ∧ List.length (Sx.sortedNames (W5.BSt.bl b)) - x' < List.length (Sx.sortedNames (W5.BSt.bl b)) - b_5) ∧ True) (((0 : Int) ≤ (↑b_5 : Int) ∧ (↑b_5 :
      Int) ≤ (↑(List.length (Sx.sortedNames (W5.BSt.bl b))) : Int)) ∧ True ∧ ((0 : Int) ≤ (↑(W5.BSt.i b) : Int) ∧ (↑(W5.BSt.i b) : Int) < (↑(List.length names) : Int)) ∧
      W5.BSt.i b < List.length names ∧ ∀ (b_6 : Bool), True → br b_6 ((0 : Nat) + b_5 ≤ List.length (Sx.sortedNames (W5.BSt.bl b)) ∧ ((↑((0 : Nat) + List.length (List.take b_5
      (List.drop (0 : Nat) (Sx.sortedNames (W5.BSt.bl b))))) : Int) ≤ (9223372036854775807 : Int) ∧ ((0 : Nat) + List.length (List.take b_5 (List.drop (0 : Nat) (Sx.sortedNames
      (W5.BSt.bl b))))) * Sx.bytesOf Go.Proofs.Tryz.prog (9 : Nat) ≤ (140737488355328 : Nat)) ∧ ∀ (b_7 : Bool), True → Sx.br b_7 (∀ (b_8 : Bool), True → Sx.br b_8 ((1 : Nat) ≤
      (1 : Nat) ∧ List.length (List.take b_5 (List.drop (0 : Nat) (Sx.sortedNames (W5.BSt.bl b)))) = List.length (List.take b_5 (List.drop (0 : Nat) (Sx.sortedNames (W5.BSt.bl
      b)))) ∧ ((↑(List.length (List.take b_5 (List.drop (0 : Nat) (Sx.sortedNames (W5.BSt.bl b)))) + (1 : Nat)) : Int) ≤ (9223372036854775807 : Int) ∧ (List.length (List.take
      b_5 (List.drop (0 : Nat) (Sx.sortedNames (W5.BSt.bl b)))) + (1 : Nat)) * Sx.bytesOf Go.Proofs.Tryz.prog (9 : Nat) ≤ (140737488355328 : Nat)) ∧ True ∧ ((0 : Int) ≤ (↑b_5 :
      Int) ∧ (↑b_5 : Int) ≤ (↑(List.length (Sx.sortedNames (W5.BSt.bl b))) : Int)) ∧ (0 : Nat) + b_5 + (List.length (Sx.sortedNames (W5.BSt.bl b)) - b_5) ≤ List.length
      (Sx.sortedNames (W5.BSt.bl b)) ∧ List.length (List.take b_5 (List.drop (0 : Nat) (Sx.sortedNames (W5.BSt.bl b)))) + (1 : Nat) = List.length (List.take b_5 (List.drop (0 :
      Nat) (Sx.sortedNames (W5.BSt.bl b))) ++ [List.getD names (W5.BSt.i b) (Ty.dflt Ty.str)]) ∧ Sx.br (decide (List.length (List.take (List.length (Sx.sortedNames (W5.BSt.bl
      b)) - b_5) (List.drop ((0 : Nat) + b_5) (Sx.sortedNames (W5.BSt.bl b)))) = (0 : Nat))) ((∃ (x : List ByteArray), ([SV.imm Ty.str names, SV.imm (Ty.int IntKind.i64) ns,
      SV.lit (Value.string ask), SV.ptr (0 : Nat) (0 : Nat), SV.mp (2 : Nat), SV.sl (3 : Nat) (1 : Nat) (0 : Nat) (List.length (List.take b_5 (List.drop (0 : Nat)
      (Sx.sortedNames (W5.BSt.bl b)))) + (1 : Nat)), SV.ptr (4 : Nat) (0 : Nat), SV.lit (Value.int IntKind.i64 (↑(W5.BSt.i b) : Int))], [SO.cells (40 : Nat) (W5.bcells (1 : Int)
      (SV.mp (1 : Nat))), W5.mapOf (W5.BSt.bl b), SO.imap (Sx.imapR Go.Proofs.Tryz.prog (9 : Go.TypeId)) (W5.BSt.lg b), SO.row (9 : Nat) Ty.str (List.take b_5 (List.drop (0 :
      Nat) (Sx.sortedNames (W5.BSt.bl b))) ++ [List.getD names (W5.BSt.i b) (Ty.dflt Ty.str)]), SO.cells (52 : Nat) (W5.bk (SV.sl (5 : Nat) (1 : Nat) (0 : Nat) (List.length
      (W5.BSt.LL b))) (SV.sl (6 : Nat) (1 : Nat) (0 : Nat) (List.length (W5.BSt.LL b)))), SO.kept (22 : Nat) (9 : Nat) Ty.str (W5.BSt.LL b), SO.row (22 : Nat) (Ty.imm Ty.str)
      (W5.BSt.LL b)]) = ([SV.imm Ty.str names, SV.imm (Ty.int IntKind.i64) ns, SV.lit (Value.string ask), SV.ptr (0 : Nat) (0 : Nat), SV.mp (2 : Nat), SV.sl (3 : Nat) (1 : Nat)
      (0 : Nat) (List.length x), SV.ptr (4 : Nat) (0 : Nat), SV.lit (Value.int IntKind.i64 (↑(W5.BSt.i b) : Int))], [SO.cells (40 : Nat) (W5.bcells (1 : Int) (SV.mp (1 : Nat))),
      W5.mapOf (W5.BSt.bl b), SO.imap (Sx.imapR Go.Proofs.Tryz.prog (9 : Go.TypeId)) (W5.BSt.lg b), SO.row (9 : Nat) Ty.str x, SO.cells (52 : Nat) (W5.bk (SV.sl (5 : Nat) (1 :
      Nat) (0 : Nat) (List.length (W5.BSt.LL b))) (SV.sl (6 : Nat) (1 : Nat) (0 : Nat) (List.length (W5.BSt.LL b)))), SO.kept (22 : Nat) (9 : Nat) Ty.str (W5.BSt.LL b), SO.row
      (22 : Nat) (Ty.imm Ty.str) (W5.BSt.LL b)]) ∧ W5.OrdOf (Sx.sortedNames (W5.BSt.bl b)) (List.getD names (W5.BSt.i b) (Ty.dflt Ty.str)) (Sx.logHas (W5.BSt.lg b) (List.getD
      names (W5.BSt.i b) (Ty.dflt Ty.str))) x) ∧ True) (((↑(List.length (List.take b_5 (List.drop (0 : Nat) (Sx.sortedNames (W5.BSt.bl b)))) + (1 : Nat) + List.length (List.take
      (List.length (Sx.sortedNames (W5.BSt.bl b)) - b_5) (List.drop ((0 : Nat) + b_5) (Sx.sortedNames (W5.BSt.bl b))))) : Int) ≤ (9223372036854775807 : Int) ∧ (List.length
      (List.take b_5 (List.drop (0 : Nat) (Sx.sortedNames (W5.BSt.bl b)))) + (1 : Nat) + List.length (List.take (List.length (Sx.sortedNames (W5.BSt.bl b)) - b_5) (List.drop ((0
      : Nat) + b_5) (Sx.sortedNames (W5.BSt.bl b))))) * Sx.bytesOf Go.Proofs.Tryz.prog (9 : Nat) ≤ (140737488355328 : Nat)) ∧ (∃ (x : List ByteArray), ([SV.imm Ty.str names,
      SV.imm (Ty.int IntKind.i64) ns, SV.lit (Value.string ask), SV.ptr (0 : Nat) (0 : Nat), SV.mp (2 : Nat), SV.sl (3 : Nat) (1 : Nat) (0 : Nat) (List.length (List.take b_5
      (List.drop (0 : Nat) (Sx.sortedNames (W5.BSt.bl b)))) + (1 : Nat) + List.length (List.take (List.length (Sx.sortedNames (W5.BSt.bl b)) - b_5) (List.drop ((0 : Nat) + b_5)
      (Sx.sortedNames (W5.BSt.bl b))))), SV.ptr (4 : Nat) (0 : Nat), SV.lit (Value.int IntKind.i64 (↑(W5.BSt.i b) : Int))], [SO.cells (40 : Nat) (W5.bcells (1 : Int) (SV.mp (1 :
      Nat))), W5.mapOf (W5.BSt.bl b), SO.imap (Sx.imapR Go.Proofs.Tryz.prog (9 : Go.TypeId)) (W5.BSt.lg b), SO.row (9 : Nat) Ty.str (List.take b_5 (List.drop (0 : Nat)
      (Sx.sortedNames (W5.BSt.bl b))) ++ [List.getD names (W5.BSt.i b) (Ty.dflt Ty.str)] ++ List.take (List.length (Sx.sortedNames (W5.BSt.bl b)) - b_5) (List.drop ((0 : Nat) +
      b_5) (Sx.sortedNames (W5.BSt.bl b)))), SO.cells (52 : Nat) (W5.bk (SV.sl (5 : Nat) (1 : Nat) (0 : Nat) (List.length (W5.BSt.LL b))) (SV.sl (6 : Nat) (1 : Nat) (0 : Nat)
      (List.length (W5.BSt.LL b)))), SO.kept (22 : Nat) (9 : Nat) Ty.str (W5.BSt.LL b), SO.row (22 : Nat) (Ty.imm Ty.str) (W5.BSt.LL b)]) = ([SV.imm Ty.str names, SV.imm (Ty.int
      IntKind.i64) ns, SV.lit (Value.string ask), SV.ptr (0 : Nat) (0 : Nat), SV.mp (2 : Nat), SV.sl (3 : Nat) (1 : Nat) (0 : Nat) (List.length x), SV.ptr (4 : Nat) (0 : Nat),
      SV.lit (Value.int IntKind.i64 (↑(W5.BSt.i b) : Int))], [SO.cells (40 : Nat) (W5.bcells (1 : Int) (SV.mp (1 : Nat))), W5.mapOf (W5.BSt.bl b), SO.imap (Sx.imapR
      Go.Proofs.Tryz.prog (9 : Go.TypeId)) (W5.BSt.lg b), SO.row (9 : Nat) Ty.str x, SO.cells (52 : Nat) (W5.bk (SV.sl (5 : Nat) (1 : Nat) (0 : Nat) (List.length (W5.BSt.LL b)))
      (SV.sl (6 : Nat) (1 : Nat) (0 : Nat) (List.length (W5.BSt.LL b)))), SO.kept (22 : Nat) (9 : Nat) Ty.str (W5.BSt.LL b), SO.row (22 : Nat) (Ty.imm Ty.str) (W5.BSt.LL b)]) ∧
      W5.OrdOf (Sx.sortedNames (W5.BSt.bl b)) (List.getD names (W5.BSt.i b) (Ty.dflt Ty.str)) (Sx.logHas (W5.BSt.lg b) (List.getD names (W5.BSt.i b) (Ty.dflt Ty.str))) x) ∧
      True)) (True ∧ ((0 : Int) ≤ (↑b_5 : Int) ∧ (↑b_5 : Int) ≤ (↑(List.length (Sx.sortedNames (W5.BSt.bl b))) : Int)) ∧ (1 : Nat) ≤ (1 : Nat) ∧ List.length (List.take b_5
      (List.drop (0 : Nat) (Sx.sortedNames (W5.BSt.bl b)))) = List.length (List.take b_5 (List.drop (0 : Nat) (Sx.sortedNames (W5.BSt.bl b)))) ∧ ((↑(List.length (List.take b_5
      (List.drop (0 : Nat) (Sx.sortedNames (W5.BSt.bl b)))) + (1 : Nat)) : Int) ≤ (9223372036854775807 : Int) ∧ (List.length (List.take b_5 (List.drop (0 : Nat) (Sx.sortedNames
      (W5.BSt.bl b)))) + (1 : Nat)) * Sx.bytesOf Go.Proofs.Tryz.prog (9 : Nat) ≤ (140737488355328 : Nat)) ∧ (0 : Nat) + b_5 + (List.length (Sx.sortedNames (W5.BSt.bl b)) - b_5)
      ≤ List.length (Sx.sortedNames (W5.BSt.bl b)) ∧ List.length (List.take b_5 (List.drop (0 : Nat) (Sx.sortedNames (W5.BSt.bl b)))) + (1 : Nat) = List.length (List.take b_5
      (List.drop (0 : Nat) (Sx.sortedNames (W5.BSt.bl b))) ++ [List.getD names (W5.BSt.i b) (Ty.dflt Ty.str)]) ∧ Sx.br (decide (List.length (List.take (List.length
      (Sx.sortedNames (W5.BSt.bl b)) - b_5) (List.drop ((0 : Nat) + b_5) (Sx.sortedNames (W5.BSt.bl b)))) = (0 : Nat))) ((∃ (x : List ByteArray), ([SV.imm Ty.str names, SV.imm
      (Ty.int IntKind.i64) ns, SV.lit (Value.string ask), SV.ptr (0 : Nat) (0 : Nat), SV.mp (2 : Nat), SV.sl (3 : Nat) (1 : Nat) (0 : Nat) (List.length (List.take b_5 (List.drop
      (0 : Nat) (Sx.sortedNames (W5.BSt.bl b)))) + (1 : Nat)), SV.ptr (4 : Nat) (0 : Nat), SV.lit (Value.int IntKind.i64 (↑(W5.BSt.i b) : Int))], [SO.cells (40 : Nat) (W5.bcells
      (1 : Int) (SV.mp (1 : Nat))), W5.mapOf (W5.BSt.bl b), SO.imap (Sx.imapR Go.Proofs.Tryz.prog (9 : Go.TypeId)) (W5.BSt.lg b), SO.row (9 : Nat) Ty.str (List.take b_5
      (List.drop (0 : Nat) (Sx.sortedNames (W5.BSt.bl b))) ++ [List.getD names (W5.BSt.i b) (Ty.dflt Ty.str)]), SO.cells (52 : Nat) (W5.bk (SV.sl (5 : Nat) (1 : Nat) (0 : Nat)
      (List.length (W5.BSt.LL b))) (SV.sl (6 : Nat) (1 : Nat) (0 : Nat) (List.length (W5.BSt.LL b)))), SO.kept (22 : Nat) (9 : Nat) Ty.str (W5.BSt.LL b), SO.row (22 : Nat)
      (Ty.imm Ty.str) (W5.BSt.LL b)]) = ([SV.imm Ty.str names, SV.imm (Ty.int IntKind.i64) ns, SV.lit (Value.string ask), SV.ptr (0 : Nat) (0 : Nat), SV.mp (2 : Nat), SV.sl (3 :
      Nat) (1 : Nat) (0 : Nat) (List.length x), SV.ptr (4 : Nat) (0 : Nat), SV.lit (Value.int IntKind.i64 (↑(W5.BSt.i b) : Int))], [SO.cells (40 : Nat) (W5.bcells (1 : Int)
      (SV.mp (1 : Nat))), W5.mapOf (W5.BSt.bl b), SO.imap (Sx.imapR Go.Proofs.Tryz.prog (9 : Go.TypeId)) (W5.BSt.lg b), SO.row (9 : Nat) Ty.str x, SO.cells (52 : Nat) (W5.bk
      (SV.sl (5 : Nat) (1 : Nat) (0 : Nat) (List.length (W5.BSt.LL b))) (SV.sl (6 : Nat) (1 : Nat) (0 : Nat) (List.length (W5.BSt.LL b)))), SO.kept (22 : Nat) (9 : Nat) Ty.str
      (W5.BSt.LL b), SO.row (22 : Nat) (Ty.imm Ty.str) (W5.BSt.LL b)]) ∧ W5.OrdOf (Sx.sortedNames (W5.BSt.bl b)) (List.getD names (W5.BSt.i b) (Ty.dflt Ty.str)) (Sx.logHas
      (W5.BSt.lg b) (List.getD names (W5.BSt.i b) (Ty.dflt Ty.str))) x) ∧ True) (((↑(List.length (List.take b_5 (List.drop (0 : Nat) (Sx.sortedNames (W5.BSt.bl b)))) + (1 : Nat)
      + List.length (List.take (List.length (Sx.sortedNames (W5.BSt.bl b)) - b_5) (List.drop ((0 : Nat) + b_5) (Sx.sortedNames (W5.BSt.bl b))))) : Int) ≤ (9223372036854775807 :
      Int) ∧ (List.length (List.take b_5 (List.drop (0 : Nat) (Sx.sortedNames (W5.BSt.bl b)))) + (1 : Nat) + List.length (List.take (List.length (Sx.sortedNames (W5.BSt.bl b)) -
      b_5) (List.drop ((0 : Nat) + b_5) (Sx.sortedNames (W5.BSt.bl b))))) * Sx.bytesOf Go.Proofs.Tryz.prog (9 : Nat) ≤ (140737488355328 : Nat)) ∧ (∃ (x : List ByteArray),
      ([SV.imm Ty.str names, SV.imm (Ty.int IntKind.i64) ns, SV.lit (Value.string ask), SV.ptr (0 : Nat) (0 : Nat), SV.mp (2 : Nat), SV.sl (3 : Nat) (1 : Nat) (0 : Nat)
      (List.length (List.take b_5 (List.drop (0 : Nat) (Sx.sortedNames (W5.BSt.bl b)))) + (1 : Nat) + List.length (List.take (List.length (Sx.sortedNames (W5.BSt.bl b)) - b_5)
      (List.drop ((0 : Nat) + b_5) (Sx.sortedNames (W5.BSt.bl b))))), SV.ptr (4 : Nat) (0 : Nat), SV.lit (Value.int IntKind.i64 (↑(W5.BSt.i b) : Int))], [SO.cells (40 : Nat)
      (W5.bcells (1 : Int) (SV.mp (1 : Nat))), W5.mapOf (W5.BSt.bl b), SO.imap (Sx.imapR Go.Proofs.Tryz.prog (9 : Go.TypeId)) (W5.BSt.lg b), SO.row (9 : Nat) Ty.str (List.take
      b_5 (List.drop (0 : Nat) (Sx.sortedNames (W5.BSt.bl b))) ++ [List.getD names (W5.BSt.i b) (Ty.dflt Ty.str)] ++ List.take (List.length (Sx.sortedNames (W5.BSt.bl b)) - b_5)
      (List.drop ((0 : Nat) + b_5) (Sx.sortedNames (W5.BSt.bl b)))), SO.cells (52 : Nat) (W5.bk (SV.sl (5 : Nat) (1 : Nat) (0 : Nat) (List.length (W5.BSt.LL b))) (SV.sl (6 :
      Nat) (1 : Nat) (0 : Nat) (List.length (W5.BSt.LL b)))), SO.kept (22 : Nat) (9 : Nat) Ty.str (W5.BSt.LL b), SO.row (22 : Nat) (Ty.imm Ty.str) (W5.BSt.LL b)]) = ([SV.imm
      Ty.str names, SV.imm (Ty.int IntKind.i64) ns, SV.lit (Value.string ask), SV.ptr (0 : Nat) (0 : Nat), SV.mp (2 : Nat), SV.sl (3 : Nat) (1 : Nat) (0 : Nat) (List.length x),
      SV.ptr (4 : Nat) (0 : Nat), SV.lit (Value.int IntKind.i64 (↑(W5.BSt.i b) : Int))], [SO.cells (40 : Nat) (W5.bcells (1 : Int) (SV.mp (1 : Nat))), W5.mapOf (W5.BSt.bl b),
      SO.imap (Sx.imapR Go.Proofs.Tryz.prog (9 : Go.TypeId)) (W5.BSt.lg b), SO.row (9 : Nat) Ty.str x, SO.cells (52 : Nat) (W5.bk (SV.sl (5 : Nat) (1 : Nat) (0 : Nat)
      (List.length (W5.BSt.LL b))) (SV.sl (6 : Nat) (1 : Nat) (0 : Nat) (List.length (W5.BSt.LL b)))), SO.kept (22 : Nat) (9 : Nat) Ty.str (W5.BSt.LL b), SO.row (22 : Nat)
      (Ty.imm Ty.str) (W5.BSt.LL b)]) ∧ W5.OrdOf (Sx.sortedNames (W5.BSt.bl b)) (List.getD names (W5.BSt.i b) (Ty.dflt Ty.str)) (Sx.logHas (W5.BSt.lg b) (List.getD names
      (W5.BSt.i b) (Ty.dflt Ty.str))) x) ∧ True))) (True ∧ ((0 : Int) ≤ (↑b_5 : Int) ∧ (↑b_5 : Int) ≤ (↑(List.length (Sx.sortedNames (W5.BSt.bl b))) : Int)) ∧ (1 : Nat) ≤ (1 :
      Nat) ∧ List.length (List.take b_5 (List.drop (0 : Nat) (Sx.sortedNames (W5.BSt.bl b)))) = List.length (List.take b_5 (List.drop (0 : Nat) (Sx.sortedNames (W5.BSt.bl b))))
      ∧ ((↑(List.length (List.take b_5 (List.drop (0 : Nat) (Sx.sortedNames (W5.BSt.bl b)))) + (1 : Nat)) : Int) ≤ (9223372036854775807 : Int) ∧ (List.length (List.take b_5
      (List.drop (0 : Nat) (Sx.sortedNames (W5.BSt.bl b)))) + (1 : Nat)) * Sx.bytesOf Go.Proofs.Tryz.prog (9 : Nat) ≤ (140737488355328 : Nat)) ∧ (0 : Nat) + b_5 + (List.length
      (Sx.sortedNames (W5.BSt.bl b)) - b_5) ≤ List.length (Sx.sortedNames (W5.BSt.bl b)) ∧ List.length (List.take b_5 (List.drop (0 : Nat) (Sx.sortedNames (W5.BSt.bl b)))) + (1
      : Nat) = List.length (List.take b_5 (List.drop (0 : Nat) (Sx.sortedNames (W5.BSt.bl b))) ++ [List.getD names (W5.BSt.i b) (Ty.dflt Ty.str)]) ∧ Sx.br (decide (List.length
      (List.take (List.length (Sx.sortedNames (W5.BSt.bl b)) - b_5) (List.drop ((0 : Nat) + b_5) (Sx.sortedNames (W5.BSt.bl b)))) = (0 : Nat))) ((∃ (x : List ByteArray),
      ([SV.imm Ty.str names, SV.imm (Ty.int IntKind.i64) ns, SV.lit (Value.string ask), SV.ptr (0 : Nat) (0 : Nat), SV.mp (2 : Nat), SV.sl (3 : Nat) (1 : Nat) (0 : Nat)
      (List.length (List.take b_5 (List.drop (0 : Nat) (Sx.sortedNames (W5.BSt.bl b)))) + (1 : Nat)), SV.ptr (4 : Nat) (0 : Nat), SV.lit (Value.int IntKind.i64 (↑(W5.BSt.i b) :
      Int))], [SO.cells (40 : Nat) (W5.bcells (1 : Int) (SV.mp (1 : Nat))), W5.mapOf (W5.BSt.bl b), SO.imap (Sx.imapR Go.Proofs.Tryz.prog (9 : Go.TypeId)) (W5.BSt.lg b), SO.row
      (9 : Nat) Ty.str (List.take b_5 (List.drop (0 : Nat) (Sx.sortedNames (W5.BSt.bl b))) ++ [List.getD names (W5.BSt.i b) (Ty.dflt Ty.str)]), SO.cells (52 : Nat) (W5.bk (SV.sl
      (5 : Nat) (1 : Nat) (0 : Nat) (List.length (W5.BSt.LL b))) (SV.sl (6 : Nat) (1 : Nat) (0 : Nat) (List.length (W5.BSt.LL b)))), SO.kept (22 : Nat) (9 : Nat) Ty.str
      (W5.BSt.LL b), SO.row (22 : Nat) (Ty.imm Ty.str) (W5.BSt.LL b)]) = ([SV.imm Ty.str names, SV.imm (Ty.int IntKind.i64) ns, SV.lit (Value.string ask), SV.ptr (0 : Nat) (0 :
      Nat), SV.mp (2 : Nat), SV.sl (3 : Nat) (1 : Nat) (0 : Nat) (List.length x), SV.ptr (4 : Nat) (0 : Nat), SV.lit (Value.int IntKind.i64 (↑(W5.BSt.i b) : Int))], [SO.cells
      (40 : Nat) (W5.bcells (1 : Int) (SV.mp (1 : Nat))), W5.mapOf (W5.BSt.bl b), SO.imap (Sx.imapR Go.Proofs.Tryz.prog (9 : Go.TypeId)) (W5.BSt.lg b), SO.row (9 : Nat) Ty.str
      x, SO.cells (52 : Nat) (W5.bk (SV.sl (5 : Nat) (1 : Nat) (0 : Nat) (List.length (W5.BSt.LL b))) (SV.sl (6 : Nat) (1 : Nat) (0 : Nat) (List.length (W5.BSt.LL b)))), SO.kept
      (22 : Nat) (9 : Nat) Ty.str (W5.BSt.LL b), SO.row (22 : Nat) (Ty.imm Ty.str) (W5.BSt.LL b)]) ∧ W5.OrdOf (Sx.sortedNames (W5.BSt.bl b)) (List.getD names (W5.BSt.i b)
      (Ty.dflt Ty.str)) (Sx.logHas (W5.BSt.lg b) (List.getD names (W5.BSt.i b) (Ty.dflt Ty.str))) x) ∧ True) (((↑(List.length (List.take b_5 (List.drop (0 : Nat) (Sx.sortedNames
      (W5.BSt.bl b)))) + (1 : Nat) + List.length (List.take (List.length (Sx.sortedNames (W5.BSt.bl b)) - b_5) (List.drop ((0 : Nat) + b_5) (Sx.sortedNames (W5.BSt.bl b))))) :
      Int) ≤ (9223372036854775807 : Int) ∧ (List.length (List.take b_5 (List.drop (0 : Nat) (Sx.sortedNames (W5.BSt.bl b)))) + (1 : Nat) + List.length (List.take (List.length
      (Sx.sortedNames (W5.BSt.bl b)) - b_5) (List.drop ((0 : Nat) + b_5) (Sx.sortedNames (W5.BSt.bl b))))) * Sx.bytesOf Go.Proofs.Tryz.prog (9 : Nat) ≤ (140737488355328 : Nat))
      ∧ (∃ (x : List ByteArray), ([SV.imm Ty.str names, SV.imm (Ty.int IntKind.i64) ns, SV.lit (Value.string ask), SV.ptr (0 : Nat) (0 : Nat), SV.mp (2 : Nat), SV.sl (3 : Nat)
      (1 : Nat) (0 : Nat) (List.length (List.take b_5 (List.drop (0 : Nat) (Sx.sortedNames (W5.BSt.bl b)))) + (1 : Nat) + List.length (List.take (List.length (Sx.sortedNames
      (W5.BSt.bl b)) - b_5) (List.drop ((0 : Nat) + b_5) (Sx.sortedNames (W5.BSt.bl b))))), SV.ptr (4 : Nat) (0 : Nat), SV.lit (Value.int IntKind.i64 (↑(W5.BSt.i b) : Int))],
      [SO.cells (40 : Nat) (W5.bcells (1 : Int) (SV.mp (1 : Nat))), W5.mapOf (W5.BSt.bl b), SO.imap (Sx.imapR Go.Proofs.Tryz.prog (9 : Go.TypeId)) (W5.BSt.lg b), SO.row (9 :
      Nat) Ty.str (List.take b_5 (List.drop (0 : Nat) (Sx.sortedNames (W5.BSt.bl b))) ++ [List.getD names (W5.BSt.i b) (Ty.dflt Ty.str)] ++ List.take (List.length
      (Sx.sortedNames (W5.BSt.bl b)) - b_5) (List.drop ((0 : Nat) + b_5) (Sx.sortedNames (W5.BSt.bl b)))), SO.cells (52 : Nat) (W5.bk (SV.sl (5 : Nat) (1 : Nat) (0 : Nat)
      (List.length (W5.BSt.LL b))) (SV.sl (6 : Nat) (1 : Nat) (0 : Nat) (List.length (W5.BSt.LL b)))), SO.kept (22 : Nat) (9 : Nat) Ty.str (W5.BSt.LL b), SO.row (22 : Nat)
      (Ty.imm Ty.str) (W5.BSt.LL b)]) = ([SV.imm Ty.str names, SV.imm (Ty.int IntKind.i64) ns, SV.lit (Value.string ask), SV.ptr (0 : Nat) (0 : Nat), SV.mp (2 : Nat), SV.sl (3 :
      Nat) (1 : Nat) (0 : Nat) (List.length x), SV.ptr (4 : Nat) (0 : Nat), SV.lit (Value.int IntKind.i64 (↑(W5.BSt.i b) : Int))], [SO.cells (40 : Nat) (W5.bcells (1 : Int)
      (SV.mp (1 : Nat))), W5.mapOf (W5.BSt.bl b), SO.imap (Sx.imapR Go.Proofs.Tryz.prog (9 : Go.TypeId)) (W5.BSt.lg b), SO.row (9 : Nat) Ty.str x, SO.cells (52 : Nat) (W5.bk
      (SV.sl (5 : Nat) (1 : Nat) (0 : Nat) (List.length (W5.BSt.LL b))) (SV.sl (6 : Nat) (1 : Nat) (0 : Nat) (List.length (W5.BSt.LL b)))), SO.kept (22 : Nat) (9 : Nat) Ty.str
      (W5.BSt.LL b), SO.row (22 : Nat) (Ty.imm Ty.str) (W5.BSt.LL b)]) ∧ W5.OrdOf (Sx.sortedNames (W5.BSt.bl b)) (List.getD names (W5.BSt.i b) (Ty.dflt Ty.str)) (Sx.logHas
      (W5.BSt.lg b) (List.getD names (W5.BSt.i b) (Ty.dflt Ty.str))) x) ∧ True))) (∀ (b_7 : Bool), True → Sx.br b_7 (∀ (b_8 : Bool), True → Sx.br b_8 ((0 : Nat) + b_5 ≤
      List.length (Sx.sortedNames (W5.BSt.bl b)) ∧ ((↑((0 : Nat) + List.length (List.take b_5 (List.drop (0 : Nat) (Sx.sortedNames (W5.BSt.bl b))))) : Int) ≤
      (9223372036854775807 : Int) ∧ ((0 : Nat) + List.length (List.take b_5 (List.drop (0 : Nat) (Sx.sortedNames (W5.BSt.bl b))))) * Sx.bytesOf Go.Proofs.Tryz.prog (9 : Nat) ≤
      (140737488355328 : Nat)) ∧ ∀ (b_9 : Bool), True → Sx.br b_9 ((1 : Nat) ≤ (1 : Nat) ∧ List.length (List.take b_5 (List.drop (0 : Nat) (Sx.sortedNames (W5.BSt.bl b)))) =
      List.length (List.take b_5 (List.drop (0 : Nat) (Sx.sortedNames (W5.BSt.bl b)))) ∧ ((↑(List.length (List.take b_5 (List.drop (0 : Nat) (Sx.sortedNames (W5.BSt.bl b)))) +
      (1 : Nat)) : Int) ≤ (9223372036854775807 : Int) ∧ (List.length (List.take b_5 (List.drop (0 : Nat) (Sx.sortedNames (W5.BSt.bl b)))) + (1 : Nat)) * Sx.bytesOf
      Go.Proofs.Tryz.prog (9 : Nat) ≤ (140737488355328 : Nat)) ∧ True ∧ ((0 : Int) ≤ (↑b_5 : Int) ∧ (↑b_5 : Int) ≤ (↑(List.length (Sx.sortedNames (W5.BSt.bl b))) : Int)) ∧ (0 :
      Nat) + b_5 + (List.length (Sx.sortedNames (W5.BSt.bl b)) - b_5) ≤ List.length (Sx.sortedNames (W5.BSt.bl b)) ∧ List.length (List.take b_5 (List.drop (0 : Nat)
      (Sx.sortedNames (W5.BSt.bl b)))) + (1 : Nat) = List.length (List.take b_5 (List.drop (0 : Nat) (Sx.sortedNames (W5.BSt.bl b))) ++ [List.getD names (W5.BSt.i b) (Ty.dflt
      Ty.str)]) ∧ Sx.br (decide (List.length (List.take (List.length (Sx.sortedNames (W5.BSt.bl b)) - b_5) (List.drop ((0 : Nat) + b_5) (Sx.sortedNames (W5.BSt.bl b)))) = (0 :
      Nat))) ((∃ (x : List ByteArray), ([SV.imm Ty.str names, SV.imm (Ty.int IntKind.i64) ns, SV.lit (Value.string ask), SV.ptr (0 : Nat) (0 : Nat), SV.mp (2 : Nat), SV.sl (3 :
      Nat) (1 : Nat) (0 : Nat) (List.length (List.take b_5 (List.drop (0 : Nat) (Sx.sortedNames (W5.BSt.bl b)))) + (1 : Nat)), SV.ptr (4 : Nat) (0 : Nat), SV.lit (Value.int
      IntKind.i64 (↑(W5.BSt.i b) : Int))], [SO.cells (40 : Nat) (W5.bcells (1 : Int) (SV.mp (1 : Nat))), W5.mapOf (W5.BSt.bl b), SO.imap (Sx.imapR Go.Proofs.Tryz.prog (9 :
      Go.TypeId)) (W5.BSt.lg b), SO.row (9 : Nat) Ty.str (List.take b_5 (List.drop (0 : Nat) (Sx.sortedNames (W5.BSt.bl b))) ++ [List.getD names (W5.BSt.i b) (Ty.dflt Ty.str)]),
      SO.cells (52 : Nat) (W5.bk (SV.sl (5 : Nat) (1 : Nat) (0 : Nat) (List.length (W5.BSt.LL b))) (SV.sl (6 : Nat) (1 : Nat) (0 : Nat) (List.length (W5.BSt.LL b)))), SO.kept
      (22 : Nat) (9 : Nat) Ty.str (W5.BSt.LL b), SO.row (22 : Nat) (Ty.imm Ty.str) (W5.BSt.LL b)]) = ([SV.imm Ty.str names, SV.imm (Ty.int IntKind.i64) ns, SV.lit (Value.string
      ask), SV.ptr (0 : Nat) (0 : Nat), SV.mp (2 : Nat), SV.sl (3 : Nat) (1 : Nat) (0 : Nat) (List.length x), SV.ptr (4 : Nat) (0 : Nat), SV.lit (Value.int IntKind.i64
      (↑(W5.BSt.i b) : Int))], [SO.cells (40 : Nat) (W5.bcells (1 : Int) (SV.mp (1 : Nat))), W5.mapOf (W5.BSt.bl b), SO.imap (Sx.imapR Go.Proofs.Tryz.prog (9 : Go.TypeId))
      (W5.BSt.lg b), SO.row (9 : Nat) Ty.str x, SO.cells (52 : Nat) (W5.bk (SV.sl (5 : Nat) (1 : Nat) (0 : Nat) (List.length (W5.BSt.LL b))) (SV.sl (6 : Nat) (1 : Nat) (0 : Nat)
      (List.length (W5.BSt.LL b)))), SO.kept (22 : Nat) (9 : Nat) Ty.str (W5.BSt.LL b), SO.row (22 : Nat) (Ty.imm Ty.str) (W5.BSt.LL b)]) ∧ W5.OrdOf (Sx.sortedNames (W5.BSt.bl
      b)) (List.getD names (W5.BSt.i b) (Ty.dflt Ty.str)) (Sx.logHas (W5.BSt.lg b) (List.getD names (W5.BSt.i b) (Ty.dflt Ty.str))) x) ∧ True) (((↑(List.length (List.take b_5
      (List.drop (0 : Nat) (Sx.sortedNames (W5.BSt.bl b)))) + (1 : Nat) + List.length (List.take (List.length (Sx.sortedNames (W5.BSt.bl b)) - b_5) (List.drop ((0 : Nat) + b_5)
      (Sx.sortedNames (W5.BSt.bl b))))) : Int) ≤ (9223372036854775807 : Int) ∧ (List.length (List.take b_5 (List.drop (0 : Nat) (Sx.sortedNames (W5.BSt.bl b)))) + (1 : Nat) +
      List.length (List.take (List.length (Sx.sortedNames (W5.BSt.bl b)) - b_5) (List.drop ((0 : Nat) + b_5) (Sx.sortedNames (W5.BSt.bl b))))) * Sx.bytesOf Go.Proofs.Tryz.prog
      (9 : Nat) ≤ (140737488355328 : Nat)) ∧ (∃ (x : List ByteArray), ([SV.imm Ty.str names, SV.imm (Ty.int IntKind.i64) ns, SV.lit (Value.string ask), SV.ptr (0 : Nat) (0 :
      Nat), SV.mp (2 : Nat), SV.sl (3 : Nat) (1 : Nat) (0 : Nat) (List.length (List.take b_5 (List.drop (0 : Nat) (Sx.sortedNames (W5.BSt.bl b)))) + (1 : Nat) + List.length
      (List.take (List.length (Sx.sortedNames (W5.BSt.bl b)) - b_5) (List.drop ((0 : Nat) + b_5) (Sx.sortedNames (W5.BSt.bl b))))), SV.ptr (4 : Nat) (0 : Nat), SV.lit (Value.int
      IntKind.i64 (↑(W5.BSt.i b) : Int))], [SO.cells (40 : Nat) (W5.bcells (1 : Int) (SV.mp (1 : Nat))), W5.mapOf (W5.BSt.bl b), SO.imap (Sx.imapR Go.Proofs.Tryz.prog (9 :
      Go.TypeId)) (W5.BSt.lg b), SO.row (9 : Nat) Ty.str (List.take b_5 (List.drop (0 : Nat) (Sx.sortedNames (W5.BSt.bl b))) ++ [List.getD names (W5.BSt.i b) (Ty.dflt Ty.str)]
      ++ List.take (List.length (Sx.sortedNames (W5.BSt.bl b)) - b_5) (List.drop ((0 : Nat) + b_5) (Sx.sortedNames (W5.BSt.bl b)))), SO.cells (52 : Nat) (W5.bk (SV.sl (5 : Nat)
      (1 : Nat) (0 : Nat) (List.length (W5.BSt.LL b))) (SV.sl (6 : Nat) (1 : Nat) (0 : Nat) (List.length (W5.BSt.LL b)))), SO.kept (22 : Nat) (9 : Nat) Ty.str (W5.BSt.LL b),
      SO.row (22 : Nat) (Ty.imm Ty.str) (W5.BSt.LL b)]) = ([SV.imm Ty.str names, SV.imm (Ty.int IntKind.i64) ns, SV.lit (Value.string ask), SV.ptr (0 : Nat) (0 : Nat), SV.mp (2
      : Nat), SV.sl (3 : Nat) (1 : Nat) (0 : Nat) (List.length x), SV.ptr (4 : Nat) (0 : Nat), SV.lit (Value.int IntKind.i64 (↑(W5.BSt.i b) : Int))], [SO.cells (40 : Nat)
      (W5.bcells (1 : Int) (SV.mp (1 : Nat))), W5.mapOf (W5.BSt.bl b), SO.imap (Sx.imapR Go.Proofs.Tryz.prog (9 : Go.TypeId)) (W5.BSt.lg b), SO.row (9 : Nat) Ty.str x, SO.cells
      (52 : Nat) (W5.bk (SV.sl (5 : Nat) (1 : Nat) (0 : Nat) (List.length (W5.BSt.LL b))) (SV.sl (6 : Nat) (1 : Nat) (0 : Nat) (List.length (W5.BSt.LL b)))), SO.kept (22 : Nat)
      (9 : Nat) Ty.str (W5.BSt.LL b), SO.row (22 : Nat) (Ty.imm Ty.str) (W5.BSt.LL b)]) ∧ W5.OrdOf (Sx.sortedNames (W5.BSt.bl b)) (List.getD names (W5.BSt.i b) (Ty.dflt Ty.str))
      (Sx.logHas (W5.BSt.lg b) (List.getD names (W5.BSt.i b) (Ty.dflt Ty.str))) x) ∧ True)) (True ∧ ((0 : Int) ≤ (↑b_5 : Int) ∧ (↑b_5 : Int) ≤ (↑(List.length (Sx.sortedNames
      (W5.BSt.bl b))) : Int)) ∧ (1 : Nat) ≤ (1 : Nat) ∧ List.length (List.take b_5 (List.drop (0 : Nat) (Sx.sortedNames (W5.BSt.bl b)))) = List.length (List.take b_5 (List.drop
      (0 : Nat) (Sx.sortedNames (W5.BSt.bl b)))) ∧ ((↑(List.length (List.take b_5 (List.drop (0 : Nat) (Sx.sortedNames (W5.BSt.bl b)))) + (1 : Nat)) : Int) ≤
      (9223372036854775807 : Int) ∧ (List.length (List.take b_5 (List.drop (0 : Nat) (Sx.sortedNames (W5.BSt.bl b)))) + (1 : Nat)) * Sx.bytesOf Go.Proofs.Tryz.prog (9 : Nat) ≤
      (140737488355328 : Nat)) ∧ (0 : Nat) + b_5 + (List.length (Sx.sortedNames (W5.BSt.bl b)) - b_5) ≤ List.length (Sx.sortedNames (W5.BSt.bl b)) ∧ List.length (List.take b_5
      (List.drop (0 : Nat) (Sx.sortedNames (W5.BSt.bl b)))) + (1 : Nat) = List.length (List.take b_5 (List.drop (0 : Nat) (Sx.sortedNames (W5.BSt.bl b))) ++ [List.getD names
      (W5.BSt.i b) (Ty.dflt Ty.str)]) ∧ Sx.br (decide (List.length (List.take (List.length (Sx.sortedNames (W5.BSt.bl b)) - b_5) (List.drop ((0 : Nat) + b_5) (Sx.sortedNames
      (W5.BSt.bl b)))) = (0 : Nat))) ((∃ (x : List ByteArray), ([SV.imm Ty.str names, SV.imm (Ty.int IntKind.i64) ns, SV.lit (Value.string ask), SV.ptr (0 : Nat) (0 : Nat),
      SV.mp (2 : Nat), SV.sl (3 : Nat) (1 : Nat) (0 : Nat) (List.length (List.take b_5 (List.drop (0 : Nat) (Sx.sortedNames (W5.BSt.bl b)))) + (1 : Nat)), SV.ptr (4 : Nat) (0 :
      Nat), SV.lit (Value.int IntKind.i64 (↑(W5.BSt.i b) : Int))], [SO.cells (40 : Nat) (W5.bcells (1 : Int) (SV.mp (1 : Nat))), W5.mapOf (W5.BSt.bl b), SO.imap (Sx.imapR
      Go.Proofs.Tryz.prog (9 : Go.TypeId)) (W5.BSt.lg b), SO.row (9 : Nat) Ty.str (List.take b_5 (List.drop (0 : Nat) (Sx.sortedNames (W5.BSt.bl b))) ++ [List.getD names
      (W5.BSt.i b) (Ty.dflt Ty.str)]), SO.cells (52 : Nat) (W5.bk (SV.sl (5 : Nat) (1 : Nat) (0 : Nat) (List.length (W5.BSt.LL b))) (SV.sl (6 : Nat) (1 : Nat) (0 : Nat)
      (List.length (W5.BSt.LL b)))), SO.kept (22 : Nat) (9 : Nat) Ty.str (W5.BSt.LL b), SO.row (22 : Nat) (Ty.imm Ty.str) (W5.BSt.LL b)]) = ([SV.imm Ty.str names, SV.imm (Ty.int
      IntKind.i64) ns, SV.lit (Value.string ask), SV.ptr (0 : Nat) (0 : Nat), SV.mp (2 : Nat), SV.sl (3 : Nat) (1 : Nat) (0 : Nat) (List.length x), SV.ptr (4 : Nat) (0 : Nat),
      SV.lit (Value.int IntKind.i64 (↑(W5.BSt.i b) : Int))], [SO.cells (40 : Nat) (W5.bcells (1 : Int) (SV.mp (1 : Nat))), W5.mapOf (W5.BSt.bl b), SO.imap (Sx.imapR
      Go.Proofs.Tryz.prog (9 : Go.TypeId)) (W5.BSt.lg b), SO.row (9 : Nat) Ty.str x, SO.cells (52 : Nat) (W5.bk (SV.sl (5 : Nat) (1 : Nat) (0 : Nat) (List.length (W5.BSt.LL b)))
      (SV.sl (6 : Nat) (1 : Nat) (0 : Nat) (List.length (W5.BSt.LL b)))), SO.kept (22 : Nat) (9 : Nat) Ty.str (W5.BSt.LL b), SO.row (22 : Nat) (Ty.imm Ty.str) (W5.BSt.LL b)]) ∧
      W5.OrdOf (Sx.sortedNames (W5.BSt.bl b)) (List.getD names (W5.BSt.i b) (Ty.dflt Ty.str)) (Sx.logHas (W5.BSt.lg b) (List.getD names (W5.BSt.i b) (Ty.dflt Ty.str))) x) ∧
      True) (((↑(List.length (List.take b_5 (List.drop (0 : Nat) (Sx.sortedNames (W5.BSt.bl b)))) + (1 : Nat) + List.length (List.take (List.length (Sx.sortedNames (W5.BSt.bl
      b)) - b_5) (List.drop ((0 : Nat) + b_5) (Sx.sortedNames (W5.BSt.bl b))))) : Int) ≤ (9223372036854775807 : Int) ∧ (List.length (List.take b_5 (List.drop (0 : Nat)
      (Sx.sortedNames (W5.BSt.bl b)))) + (1 : Nat) + List.length (List.take (List.length (Sx.sortedNames (W5.BSt.bl b)) - b_5) (List.drop ((0 : Nat) + b_5) (Sx.sortedNames
      (W5.BSt.bl b))))) * Sx.bytesOf Go.Proofs.Tryz.prog (9 : Nat) ≤ (140737488355328 : Nat)) ∧ (∃ (x : List ByteArray), ([SV.imm Ty.str names, SV.imm (Ty.int IntKind.i64) ns,
      SV.lit (Value.string ask), SV.ptr (0 : Nat) (0 : Nat), SV.mp (2 : Nat), SV.sl (3 : Nat) (1 : Nat) (0 : Nat) (List.length (List.take b_5 (List.drop (0 : Nat)
      (Sx.sortedNames (W5.BSt.bl b)))) + (1 : Nat) + List.length (List.take (List.length (Sx.sortedNames (W5.BSt.bl b)) - b_5) (List.drop ((0 : Nat) + b_5) (Sx.sortedNames
      (W5.BSt.bl b))))), SV.ptr (4 : Nat) (0 : Nat), SV.lit (Value.int IntKind.i64 (↑(W5.BSt.i b) : Int))], [SO.cells (40 : Nat) (W5.bcells (1 : Int) (SV.mp (1 : Nat))),
      W5.mapOf (W5.BSt.bl b), SO.imap (Sx.imapR Go.Proofs.Tryz.prog (9 : Go.TypeId)) (W5.BSt.lg b), SO.row (9 : Nat) Ty.str (List.take b_5 (List.drop (0 : Nat) (Sx.sortedNames
      (W5.BSt.bl b))) ++ [List.getD names (W5.BSt.i b) (Ty.dflt Ty.str)] ++ List.take (List.length (Sx.sortedNames (W5.BSt.bl b)) - b_5) (List.drop ((0 : Nat) + b_5)
      (Sx.sortedNames (W5.BSt.bl b)))), SO.cells (52 : Nat) (W5.bk (SV.sl (5 : Nat) (1 : Nat) (0 : Nat) (List.length (W5.BSt.LL b))) (SV.sl (6 : Nat) (1 : Nat) (0 : Nat)
      (List.length (W5.BSt.LL b)))), SO.kept (22 : Nat) (9 : Nat) Ty.str (W5.BSt.LL b), SO.row (22 : Nat) (Ty.imm Ty.str) (W5.BSt.LL b)]) = ([SV.imm Ty.str names, SV.imm (Ty.int
      IntKind.i64) ns, SV.lit (Value.string ask), SV.ptr (0 : Nat) (0 : Nat), SV.mp (2 : Nat), SV.sl (3 : Nat) (1 : Nat) (0 : Nat) (List.length x), SV.ptr (4 : Nat) (0 : Nat),
      SV.lit (Value.int IntKind.i64 (↑(W5.BSt.i b) : Int))], [SO.cells (40 : Nat) (W5.bcells (1 : Int) (SV.mp (1 : Nat))), W5.mapOf (W5.BSt.bl b), SO.imap (Sx.imapR
      Go.Proofs.Tryz.prog (9 : Go.TypeId)) (W5.BSt.lg b), SO.row (9 : Nat) Ty.str x, SO.cells (52 : Nat) (W5.bk (SV.sl (5 : Nat) (1 : Nat) (0 : Nat) (List.length (W5.BSt.LL b)))
      (SV.sl (6 : Nat) (1 : Nat) (0 : Nat) (List.length (W5.BSt.LL b)))), SO.kept (22 : Nat) (9 : Nat) Ty.str (W5.BSt.LL b), SO.row (22 : Nat) (Ty.imm Ty.str) (W5.BSt.LL b)]) ∧
      W5.OrdOf (Sx.sortedNames (W5.BSt.bl b)) (List.getD names (W5.BSt.i b) (Ty.dflt Ty.str)) (Sx.logHas (W5.BSt.lg b) (List.getD names (W5.BSt.i b) (Ty.dflt Ty.str))) x) ∧
      True))) (True ∧ ((0 : Int) ≤ (↑b_5 : Int) ∧ (↑b_5 : Int) ≤ (↑(List.length (Sx.sortedNames (W5.BSt.bl b))) : Int)) ∧ (0 : Nat) + b_5 ≤ List.length (Sx.sortedNames
      (W5.BSt.bl b)) ∧ ((↑((0 : Nat) + List.length (List.take b_5 (List.drop (0 : Nat) (Sx.sortedNames (W5.BSt.bl b))))) : Int) ≤ (9223372036854775807 : Int) ∧ ((0 : Nat) +
      List.length (List.take b_5 (List.drop (0 : Nat) (Sx.sortedNames (W5.BSt.bl b))))) * Sx.bytesOf Go.Proofs.Tryz.prog (9 : Nat) ≤ (140737488355328 : Nat)) ∧ (1 : Nat) ≤ (1 :
      Nat) ∧ List.length (List.take b_5 (List.drop (0 : Nat) (Sx.sortedNames (W5.BSt.bl b)))) = List.length (List.take b_5 (List.drop (0 : Nat) (Sx.sortedNames (W5.BSt.bl b))))
      ∧ ((↑(List.length (List.take b_5 (List.drop (0 : Nat) (Sx.sortedNames (W5.BSt.bl b)))) + (1 : Nat)) : Int) ≤ (9223372036854775807 : Int) ∧ (List.length (List.take b_5
      (List.drop (0 : Nat) (Sx.sortedNames (W5.BSt.bl b)))) + (1 : Nat)) * Sx.bytesOf Go.Proofs.Tryz.prog (9 : Nat) ≤ (140737488355328 : Nat)) ∧ (0 : Nat) + b_5 + (List.length
      (Sx.sortedNames (W5.BSt.bl b)) - b_5) ≤ List.length (Sx.sortedNames (W5.BSt.bl b)) ∧ List.length (List.take b_5 (List.drop (0 : Nat) (Sx.sortedNames (W5.BSt.bl b)))) + (1
      : Nat) = List.length (List.take b_5 (List.drop (0 : Nat) (Sx.sortedNames (W5.BSt.bl b))) ++ [List.getD names (W5.BSt.i b) (Ty.dflt Ty.str)]) ∧ Sx.br (decide (List.length
      (List.take (List.length (Sx.sortedNames (W5.BSt.bl b)) - b_5) (List.drop ((0 : Nat) + b_5) (Sx.sortedNames (W5.BSt.bl b)))) = (0 : Nat))) ((∃ (x : List ByteArray),
      ([SV.imm Ty.str names, SV.imm (Ty.int IntKind.i64) ns, SV.lit (Value.string ask), SV.ptr (0 : Nat) (0 : Nat), SV.mp (2 : Nat), SV.sl (3 : Nat) (1 : Nat) (0 : Nat)
      (List.length (List.take b_5 (List.drop (0 : Nat) (Sx.sortedNames (W5.BSt.bl b)))) + (1 : Nat)), SV.ptr (4 : Nat) (0 : Nat), SV.lit (Value.int IntKind.i64 (↑(W5.BSt.i b) :
      Int))], [SO.cells (40 : Nat) (W5.bcells (1 : Int) (SV.mp (1 : Nat))), W5.mapOf (W5.BSt.bl b), SO.imap (Sx.imapR Go.Proofs.Tryz.prog (9 : Go.TypeId)) (W5.BSt.lg b), SO.row
      (9 : Nat) Ty.str (List.take b_5 (List.drop (0 : Nat) (Sx.sortedNames (W5.BSt.bl b))) ++ [List.getD names (W5.BSt.i b) (Ty.dflt Ty.str)]), SO.cells (52 : Nat) (W5.bk (SV.sl
      (5 : Nat) (1 : Nat) (0 : Nat) (List.length (W5.BSt.LL b))) (SV.sl (6 : Nat) (1 : Nat) (0 : Nat) (List.length (W5.BSt.LL b)))), SO.kept (22 : Nat) (9 : Nat) Ty.str
      (W5.BSt.LL b), SO.row (22 : Nat) (Ty.imm Ty.str) (W5.BSt.LL b)]) = ([SV.imm Ty.str names, SV.imm (Ty.int IntKind.i64) ns, SV.lit (Value.string ask), SV.ptr (0 : Nat) (0 :
      Nat), SV.mp (2 : Nat), SV.sl (3 : Nat) (1 : Nat) (0 : Nat) (List.length x), SV.ptr (4 : Nat) (0 : Nat), SV.lit (Value.int IntKind.i64 (↑(W5.BSt.i b) : Int))], [SO.cells
      (40 : Nat) (W5.bcells (1 : Int) (SV.mp (1 : Nat))), W5.mapOf (W5.BSt.bl b), SO.imap (Sx.imapR Go.Proofs.Tryz.prog (9 : Go.TypeId)) (W5.BSt.lg b), SO.row (9 : Nat) Ty.str
      x, SO.cells (52 : Nat) (W5.bk (SV.sl (5 : Nat) (1 : Nat) (0 : Nat) (List.length (W5.BSt.LL b))) (SV.sl (6 : Nat) (1 : Nat) (0 : Nat) (List.length (W5.BSt.LL b)))), SO.kept
      (22 : Nat) (9 : Nat) Ty.str (W5.BSt.LL b), SO.row (22 : Nat) (Ty.imm Ty.str) (W5.BSt.LL b)]) ∧ W5.OrdOf (Sx.sortedNames (W5.BSt.bl b)) (List.getD names (W5.BSt.i b)
      (Ty.dflt Ty.str)) (Sx.logHas (W5.BSt.lg b) (List.getD names (W5.BSt.i b) (Ty.dflt Ty.str))) x) ∧ True) (((↑(List.length (List.take b_5 (List.drop (0 : Nat) (Sx.sortedNames
      (W5.BSt.bl b)))) + (1 : Nat) + List.length (List.take (List.length (Sx.sortedNames (W5.BSt.bl b)) - b_5) (List.drop ((0 : Nat) + b_5) (Sx.sortedNames (W5.BSt.bl b))))) :
      Int) ≤ (9223372036854775807 : Int) ∧ (List.length (List.take b_5 (List.drop (0 : Nat) (Sx.sortedNames (W5.BSt.bl b)))) + (1 : Nat) + List.length (List.take (List.length
      (Sx.sortedNames (W5.BSt.bl b)) - b_5) (List.drop ((0 : Nat) + b_5) (Sx.sortedNames (W5.BSt.bl b))))) * Sx.bytesOf Go.Proofs.Tryz.prog (9 : Nat) ≤ (140737488355328 : Nat))
      ∧ (∃ (x : List ByteArray), ([SV.imm Ty.str names, SV.imm (Ty.int IntKind.i64) ns, SV.lit (Value.string ask), SV.ptr (0 : Nat) (0 : Nat), SV.mp (2 : Nat), SV.sl (3 : Nat)
      (1 : Nat) (0 : Nat) (List.length (List.take b_5 (List.drop (0 : Nat) (Sx.sortedNames (W5.BSt.bl b)))) + (1 : Nat) + List.length (List.take (List.length (Sx.sortedNames
      (W5.BSt.bl b)) - b_5) (List.drop ((0 : Nat) + b_5) (Sx.sortedNames (W5.BSt.bl b))))), SV.ptr (4 : Nat) (0 : Nat), SV.lit (Value.int IntKind.i64 (↑(W5.BSt.i b) : Int))],
      [SO.cells (40 : Nat) (W5.bcells (1 : Int) (SV.mp (1 : Nat))), W5.mapOf (W5.BSt.bl b), SO.imap (Sx.imapR Go.Proofs.Tryz.prog (9 : Go.TypeId)) (W5.BSt.lg b), SO.row (9 :
      Nat) Ty.str (List.take b_5 (List.drop (0 : Nat) (Sx.sortedNames (W5.BSt.bl b))) ++ [List.getD names (W5.BSt.i b) (Ty.dflt Ty.str)] ++ List.take (List.length
      (Sx.sortedNames (W5.BSt.bl b)) - b_5) (List.drop ((0 : Nat) + b_5) (Sx.sortedNames (W5.BSt.bl b)))), SO.cells (52 : Nat) (W5.bk (SV.sl (5 : Nat) (1 : Nat) (0 : Nat)
      (List.length (W5.BSt.LL b))) (SV.sl (6 : Nat) (1 : Nat) (0 : Nat) (List.length (W5.BSt.LL b)))), SO.kept (22 : Nat) (9 : Nat) Ty.str (W5.BSt.LL b), SO.row (22 : Nat)
      (Ty.imm Ty.str) (W5.BSt.LL b)]) = ([SV.imm Ty.str names, SV.imm (Ty.int IntKind.i64) ns, SV.lit (Value.string ask), SV.ptr (0 : Nat) (0 : Nat), SV.mp (2 : Nat), SV.sl (3 :
      Nat) (1 : Nat) (0 : Nat) (List.length x), SV.ptr (4 : Nat) (0 : Nat), SV.lit (Value.int IntKind.i64 (↑(W5.BSt.i b) : Int))], [SO.cells (40 : Nat) (W5.bcells (1 : Int)
      (SV.mp (1 : Nat))), W5.mapOf (W5.BSt.bl b), SO.imap (Sx.imapR Go.Proofs.Tryz.prog (9 : Go.TypeId)) (W5.BSt.lg b), SO.row (9 : Nat) Ty.str x, SO.cells (52 : Nat) (W5.bk
      (SV.sl (5 : Nat) (1 : Nat) (0 : Nat) (List.length (W5.BSt.LL b))) (SV.sl (6 : Nat) (1 : Nat) (0 : Nat) (List.length (W5.BSt.LL b)))), SO.kept (22 : Nat) (9 : Nat) Ty.str
      (W5.BSt.LL b), SO.row (22 : Nat) (Ty.imm Ty.str) (W5.BSt.LL b)]) ∧ W5.OrdOf (Sx.sortedNames (W5.BSt.bl b)) (List.getD names (W5.BSt.i b) (Ty.dflt Ty.str)) (Sx.logHas
      (W5.BSt.lg b) (List.getD names (W5.BSt.i b) (Ty.dflt Ty.str))) x) ∧ True))) (True ∧ ((0 : Int) ≤ (↑b_5 : Int) ∧ (↑b_5 : Int) ≤ (↑(List.length (Sx.sortedNames (W5.BSt.bl
      b))) : Int)) ∧ ∀ (b_8 : Bool), True → Sx.br b_8 ((0 : Nat) + b_5 ≤ List.length (Sx.sortedNames (W5.BSt.bl b)) ∧ ((↑((0 : Nat) + List.length (List.take b_5 (List.drop (0 :
      Nat) (Sx.sortedNames (W5.BSt.bl b))))) : Int) ≤ (9223372036854775807 : Int) ∧ ((0 : Nat) + List.length (List.take b_5 (List.drop (0 : Nat) (Sx.sortedNames (W5.BSt.bl
      b))))) * Sx.bytesOf Go.Proofs.Tryz.prog (9 : Nat) ≤ (140737488355328 : Nat)) ∧ (1 : Nat) ≤ (1 : Nat) ∧ List.length (List.take b_5 (List.drop (0 : Nat) (Sx.sortedNames
      (W5.BSt.bl b)))) = List.length (List.take b_5 (List.drop (0 : Nat) (Sx.sortedNames (W5.BSt.bl b)))) ∧ ((↑(List.length (List.take b_5 (List.drop (0 : Nat) (Sx.sortedNames
      (W5.BSt.bl b)))) + (1 : Nat)) : Int) ≤ (9223372036854775807 : Int) ∧ (List.length (List.take b_5 (List.drop (0 : Nat) (Sx.sortedNames (W5.BSt.bl b)))) + (1 : Nat)) *
      Sx.bytesOf Go.Proofs.Tryz.prog (9 : Nat) ≤ (140737488355328 : Nat)) ∧ (0 : Nat) + b_5 + (List.length (Sx.sortedNames (W5.BSt.bl b)) - b_5) ≤ List.length (Sx.sortedNames
      (W5.BSt.bl b)) ∧ List.length (List.take b_5 (List.drop (0 : Nat) (Sx.sortedNames (W5.BSt.bl b)))) + (1 : Nat) = List.length (List.take b_5 (List.drop (0 : Nat)
      (Sx.sortedNames (W5.BSt.bl b))) ++ [List.getD names (W5.BSt.i b) (Ty.dflt Ty.str)]) ∧ Sx.br (decide (List.length (List.take (List.length (Sx.sortedNames (W5.BSt.bl b)) -
      b_5) (List.drop ((0 : Nat) + b_5) (Sx.sortedNames (W5.BSt.bl b)))) = (0 : Nat))) ((∃ (x : List ByteArray), ([SV.imm Ty.str names, SV.imm (Ty.int IntKind.i64) ns, SV.lit
      (Value.string ask), SV.ptr (0 : Nat) (0 : Nat), SV.mp (2 : Nat), SV.sl (3 : Nat) (1 : Nat) (0 : Nat) (List.length (List.take b_5 (List.drop (0 : Nat) (Sx.sortedNames
      (W5.BSt.bl b)))) + (1 : Nat)), SV.ptr (4 : Nat) (0 : Nat), SV.lit (Value.int IntKind.i64 (↑(W5.BSt.i b) : Int))], [SO.cells (40 : Nat) (W5.bcells (1 : Int) (SV.mp (1 :
      Nat))), W5.mapOf (W5.BSt.bl b), SO.imap (Sx.imapR Go.Proofs.Tryz.prog (9 : Go.TypeId)) (W5.BSt.lg b), SO.row (9 : Nat) Ty.str (List.take b_5 (List.drop (0 : Nat)
      (Sx.sortedNames (W5.BSt.bl b))) ++ [List.getD names (W5.BSt.i b) (Ty.dflt Ty.str)]), SO.cells (52 : Nat) (W5.bk (SV.sl (5 : Nat) (1 : Nat) (0 : Nat) (List.length
      (W5.BSt.LL b))) (SV.sl (6 : Nat) (1 : Nat) (0 : Nat) (List.length (W5.BSt.LL b)))), SO.kept (22 : Nat) (9 : Nat) Ty.str (W5.BSt.LL b), SO.row (22 : Nat) (Ty.imm Ty.str)
      (W5.BSt.LL b)]) = ([SV.imm Ty.str names, SV.imm (Ty.int IntKind.i64) ns, SV.lit (Value.string ask), SV.ptr (0 : Nat) (0 : Nat), SV.mp (2 : Nat), SV.sl (3 : Nat) (1 : Nat)
      (0 : Nat) (List.length x), SV.ptr (4 : Nat) (0 : Nat), SV.lit (Value.int IntKind.i64 (↑(W5.BSt.i b) : Int))], [SO.cells (40 : Nat) (W5.bcells (1 : Int) (SV.mp (1 : Nat))),
      W5.mapOf (W5.BSt.bl b), SO.imap (Sx.imapR Go.Proofs.Tryz.prog (9 : Go.TypeId)) (W5.BSt.lg b), SO.row (9 : Nat) Ty.str x, SO.cells (52 : Nat) (W5.bk (SV.sl (5 : Nat) (1 :
      Nat) (0 : Nat) (List.length (W5.BSt.LL b))) (SV.sl (6 : Nat) (1 : Nat) (0 : Nat) (List.length (W5.BSt.LL b)))), SO.kept (22 : Nat) (9 : Nat) Ty.str (W5.BSt.LL b), SO.row
      (22 : Nat) (Ty.imm Ty.str) (W5.BSt.LL b)]) ∧ W5.OrdOf (Sx.sortedNames (W5.BSt.bl b)) (List.getD names (W5.BSt.i b) (Ty.dflt Ty.str)) (Sx.logHas (W5.BSt.lg b) (List.getD
      names (W5.BSt.i b) (Ty.dflt Ty.str))) x) ∧ True) (((↑(List.length (List.take b_5 (List.drop (0 : Nat) (Sx.sortedNames (W5.BSt.bl b)))) + (1 : Nat) + List.length (List.take
      (List.length (Sx.sortedNames (W5.BSt.bl b)) - b_5) (List.drop ((0 : Nat) + b_5) (Sx.sortedNames (W5.BSt.bl b))))) : Int) ≤ (9223372036854775807 : Int) ∧ (List.length
      (List.take b_5 (List.drop (0 : Nat) (Sx.sortedNames (W5.BSt.bl b)))) + (1 : Nat) + List.length (List.take (List.length (Sx.sortedNames (W5.BSt.bl b)) - b_5) (List.drop ((0
      : Nat) + b_5) (Sx.sortedNames (W5.BSt.bl b))))) * Sx.bytesOf Go.Proofs.Tryz.prog (9 : Nat) ≤ (140737488355328 : Nat)) ∧ (∃ (x : List ByteArray), ([SV.imm Ty.str names,
      SV.imm (Ty.int IntKind.i64) ns, SV.lit (Value.string ask), SV.ptr (0 : Nat) (0 : Nat), SV.mp (2 : Nat), SV.sl (3 : Nat) (1 : Nat) (0 : Nat) (List.length (List.take b_5
      (List.drop (0 : Nat) (Sx.sortedNames (W5.BSt.bl b)))) + (1 : Nat) + List.length (List.take (List.length (Sx.sortedNames (W5.BSt.bl b)) - b_5) (List.drop ((0 : Nat) + b_5)
      (Sx.sortedNames (W5.BSt.bl b))))), SV.ptr (4 : Nat) (0 : Nat), SV.lit (Value.int IntKind.i64 (↑(W5.BSt.i b) : Int))], [SO.cells (40 : Nat) (W5.bcells (1 : Int) (SV.mp (1 :
      Nat))), W5.mapOf (W5.BSt.bl b), SO.imap (Sx.imapR Go.Proofs.Tryz.prog (9 : Go.TypeId)) (W5.BSt.lg b), SO.row (9 : Nat) Ty.str (List.take b_5 (List.drop (0 : Nat)
      (Sx.sortedNames (W5.BSt.bl b))) ++ [List.getD names (W5.BSt.i b) (Ty.dflt Ty.str)] ++ List.take (List.length (Sx.sortedNames (W5.BSt.bl b)) - b_5) (List.drop ((0 : Nat) +
      b_5) (Sx.sortedNames (W5.BSt.bl b)))), SO.cells (52 : Nat) (W5.bk (SV.sl (5 : Nat) (1 : Nat) (0 : Nat) (List.length (W5.BSt.LL b))) (SV.sl (6 : Nat) (1 : Nat) (0 : Nat)
      (List.length (W5.BSt.LL b)))), SO.kept (22 : Nat) (9 : Nat) Ty.str (W5.BSt.LL b), SO.row (22 : Nat) (Ty.imm Ty.str) (W5.BSt.LL b)]) = ([SV.imm Ty.str names, SV.imm (Ty.int
      IntKind.i64) ns, SV.lit (Value.string ask), SV.ptr (0 : Nat) (0 : Nat), SV.mp (2 : Nat), SV.sl (3 : Nat) (1 : Nat) (0 : Nat) (List.length x), SV.ptr (4 : Nat) (0 : Nat),
      SV.lit (Value.int IntKind.i64 (↑(W5.BSt.i b) : Int))], [SO.cells (40 : Nat) (W5.bcells (1 : Int) (SV.mp (1 : Nat))), W5.mapOf (W5.BSt.bl b), SO.imap (Sx.imapR
      Go.Proofs.Tryz.prog (9 : Go.TypeId)) (W5.BSt.lg b), SO.row (9 : Nat) Ty.str x, SO.cells (52 : Nat) (W5.bk (SV.sl (5 : Nat) (1 : Nat) (0 : Nat) (List.length (W5.BSt.LL b)))
      (SV.sl (6 : Nat) (1 : Nat) (0 : Nat) (List.length (W5.BSt.LL b)))), SO.kept (22 : Nat) (9 : Nat) Ty.str (W5.BSt.LL b), SO.row (22 : Nat) (Ty.imm Ty.str) (W5.BSt.LL b)]) ∧
      W5.OrdOf (Sx.sortedNames (W5.BSt.bl b)) (List.getD names (W5.BSt.i b) (Ty.dflt Ty.str)) (Sx.logHas (W5.BSt.lg b) (List.getD names (W5.BSt.i b) (Ty.dflt Ty.str))) x) ∧
      True)) ((0 : Nat) + b_5 ≤ List.length (Sx.sortedNames (W5.BSt.bl b)) ∧ ((↑((0 : Nat) + List.length (List.take b_5 (List.drop (0 : Nat) (Sx.sortedNames (W5.BSt.bl b))))) :
      Int) ≤ (9223372036854775807 : Int) ∧ ((0 : Nat) + List.length (List.take b_5 (List.drop (0 : Nat) (Sx.sortedNames (W5.BSt.bl b))))) * Sx.bytesOf Go.Proofs.Tryz.prog (9 :
      Nat) ≤ (140737488355328 : Nat)) ∧ (1 : Nat) ≤ (1 : Nat) ∧ List.length (List.take b_5 (List.drop (0 : Nat) (Sx.sortedNames (W5.BSt.bl b)))) = List.length (List.take b_5
      (List.drop (0 : Nat) (Sx.sortedNames (W5.BSt.bl b)))) ∧ ((↑(List.length (List.take b_5 (List.drop (0 : Nat) (Sx.sortedNames (W5.BSt.bl b)))) + (1 : Nat)) : Int) ≤
      (9223372036854775807 : Int) ∧ (List.length (List.take b_5 (List.drop (0 : Nat) (Sx.sortedNames (W5.BSt.bl b)))) + (1 : Nat)) * Sx.bytesOf Go.Proofs.Tryz.prog (9 : Nat) ≤
      (140737488355328 : Nat)) ∧ (0 : Nat) + b_5 + (List.length (Sx.sortedNames (W5.BSt.bl b)) - b_5) ≤ List.length (Sx.sortedNames (W5.BSt.bl b)) ∧ List.length (List.take b_5
      (List.drop (0 : Nat) (Sx.sortedNames (W5.BSt.bl b)))) + (1 : Nat) = List.length (List.take b_5 (List.drop (0 : Nat) (Sx.sortedNames (W5.BSt.bl b))) ++ [List.getD names
      (W5.BSt.i b) (Ty.dflt Ty.str)]) ∧ Sx.br (decide (List.length (List.take (List.length (Sx.sortedNames (W5.BSt.bl b)) - b_5) (List.drop ((0 : Nat) + b_5) (Sx.sortedNames
      (W5.BSt.bl b)))) = (0 : Nat))) ((∃ (x : List ByteArray), ([SV.imm Ty.str names, SV.imm (Ty.int IntKind.i64) ns, SV.lit (Value.string ask), SV.ptr (0 : Nat) (0 : Nat),
      SV.mp (2 : Nat), SV.sl (3 : Nat) (1 : Nat) (0 : Nat) (List.length (List.take b_5 (List.drop (0 : Nat) (Sx.sortedNames (W5.BSt.bl b)))) + (1 : Nat)), SV.ptr (4 : Nat) (0 :
      Nat), SV.lit (Value.int IntKind.i64 (↑(W5.BSt.i b) : Int))], [SO.cells (40 : Nat) (W5.bcells (1 : Int) (SV.mp (1 : Nat))), W5.mapOf (W5.BSt.bl b), SO.imap (Sx.imapR
      Go.Proofs.Tryz.prog (9 : Go.TypeId)) (W5.BSt.lg b), SO.row (9 : Nat) Ty.str (List.take b_5 (List.drop (0 : Nat) (Sx.sortedNames (W5.BSt.bl b))) ++ [List.getD names
      (W5.BSt.i b) (Ty.dflt Ty.str)]), SO.cells (52 : Nat) (W5.bk (SV.sl (5 : Nat) (1 : Nat) (0 : Nat) (List.length (W5.BSt.LL b))) (SV.sl (6 : Nat) (1 : Nat) (0 : Nat)
      (List.length (W5.BSt.LL b)))), SO.kept (22 : Nat) (9 : Nat) Ty.str (W5.BSt.LL b), SO.row (22 : Nat) (Ty.imm Ty.str) (W5.BSt.LL b)]) = ([SV.imm Ty.str names, SV.imm (Ty.int
      IntKind.i64) ns, SV.lit (Value.string ask), SV.ptr (0 : Nat) (0 : Nat), SV.mp (2 : Nat), SV.sl (3 : Nat) (1 : Nat) (0 : Nat) (List.length x), SV.ptr (4 : Nat) (0 : Nat),
      SV.lit (Value.int IntKind.i64 (↑(W5.BSt.i b) : Int))], [SO.cells (40 : Nat) (W5.bcells (1 : Int) (SV.mp (1 : Nat))), W5.mapOf (W5.BSt.bl b), SO.imap (Sx.imapR
      Go.Proofs.Tryz.prog (9 : Go.TypeId)) (W5.BSt.lg b), SO.row (9 : Nat) Ty.str x, SO.cells (52 : Nat) (W5.bk (SV.sl (5 : Nat) (1 : Nat) (0 : Nat) (List.length (W5.BSt.LL b)))
      (SV.sl (6 : Nat) (1 : Nat) (0 : Nat) (List.length (W5.BSt.LL b)))), SO.kept (22 : Nat) (9 : Nat) Ty.str (W5.BSt.LL b), SO.row (22 : Nat) (Ty.imm Ty.str) (W5.BSt.LL b)]) ∧
      W5.OrdOf (Sx.sortedNames (W5.BSt.bl b)) (List.getD names (W5.BSt.i b) (Ty.dflt Ty.str)) (Sx.logHas (W5.BSt.lg b) (List.getD names (W5.BSt.i b) (Ty.dflt Ty.str))) x) ∧
      True) (((↑(List.length (List.take b_5 (List.drop (0 : Nat) (Sx.sortedNames (W5.BSt.bl b)))) + (1 : Nat) + List.length (List.take (List.length (Sx.sortedNames (W5.BSt.bl
      b)) - b_5) (List.drop ((0 : Nat) + b_5) (Sx.sortedNames (W5.BSt.bl b))))) : Int) ≤ (9223372036854775807 : Int) ∧ (List.length (List.take b_5 (List.drop (0 : Nat)
      (Sx.sortedNames (W5.BSt.bl b)))) + (1 : Nat) + List.length (List.take (List.length (Sx.sortedNames (W5.BSt.bl b)) - b_5) (List.drop ((0 : Nat) + b_5) (Sx.sortedNames
      (W5.BSt.bl b))))) * Sx.bytesOf Go.Proofs.Tryz.prog (9 : Nat) ≤ (140737488355328 : Nat)) ∧ (∃ (x : List ByteArray), ([SV.imm Ty.str names, SV.imm (Ty.int IntKind.i64) ns,
      SV.lit (Value.string ask), SV.ptr (0 : Nat) (0 : Nat), SV.mp (2 : Nat), SV.sl (3 : Nat) (1 : Nat) (0 : Nat) (List.length (List.take b_5 (List.drop (0 : Nat)
      (Sx.sortedNames (W5.BSt.bl b)))) + (1 : Nat) + List.length (List.take (List.length (Sx.sortedNames (W5.BSt.bl b)) - b_5) (List.drop ((0 : Nat) + b_5) (Sx.sortedNames
      (W5.BSt.bl b))))), SV.ptr (4 : Nat) (0 : Nat), SV.lit (Value.int IntKind.i64 (↑(W5.BSt.i b) : Int))], [SO.cells (40 : Nat) (W5.bcells (1 : Int) (SV.mp (1 : Nat))),
      W5.mapOf (W5.BSt.bl b), SO.imap (Sx.imapR Go.Proofs.Tryz.prog (9 : Go.TypeId)) (W5.BSt.lg b), SO.row (9 : Nat) Ty.str (List.take b_5 (List.drop (0 : Nat) (Sx.sortedNames
      (W5.BSt.bl b))) ++ [List.getD names (W5.BSt.i b) (Ty.dflt Ty.str)] ++ List.take (List.length (Sx.sortedNames (W5.BSt.bl b)) - b_5) (List.drop ((0 : Nat) + b_5)
      (Sx.sortedNames (W5.BSt.bl b)))), SO.cells (52 : Nat) (W5.bk (SV.sl (5 : Nat) (1 : Nat) (0 : Nat) (List.length (W5.BSt.LL b))) (SV.sl (6 : Nat) (1 : Nat) (0 : Nat)
      (List.length (W5.BSt.LL b)))), SO.kept (22 : Nat) (9 : Nat) Ty.str (W5.BSt.LL b), SO.row (22 : Nat) (Ty.imm Ty.str) (W5.BSt.LL b)]) = ([SV.imm Ty.str names, SV.imm (Ty.int
      IntKind.i64) ns, SV.lit (Value.string ask), SV.ptr (0 : Nat) (0 : Nat), SV.mp (2 : Nat), SV.sl (3 : Nat) (1 : Nat) (0 : Nat) (List.length x), SV.ptr (4 : Nat) (0 : Nat),
      SV.lit (Value.int IntKind.i64 (↑(W5.BSt.i b) : Int))], [SO.cells (40 : Nat) (W5.bcells (1 : Int) (SV.mp (1 : Nat))), W5.mapOf (W5.BSt.bl b), SO.imap (Sx.imapR
      Go.Proofs.Tryz.prog (9 : Go.TypeId)) (W5.BSt.lg b), SO.row (9 : Nat) Ty.str x, SO.cells (52 : Nat) (W5.bk (SV.sl (5 : Nat) (1 : Nat) (0 : Nat) (List.length (W5.BSt.LL b)))
      (SV.sl (6 : Nat) (1 : Nat) (0 : Nat) (List.length (W5.BSt.LL b)))), SO.kept (22 : Nat) (9 : Nat) Ty.str (W5.BSt.LL b), SO.row (22 : Nat) (Ty.imm Ty.str) (W5.BSt.LL b)]) ∧
      W5.OrdOf (Sx.sortedNames (W5.BSt.bl b)) (List.getD names (W5.BSt.i b) (Ty.dflt Ty.str)) (Sx.logHas (W5.BSt.lg b) (List.getD names (W5.BSt.i b) (Ty.dflt Ty.str))) x) ∧
      True)))))) (((0 : Int) ≤ (↑b_5 : Int) ∧ (↑b_5 : Int) ≤ (↑(List.length (Sx.sortedNames (W5.BSt.bl b))) : Int)) ∧ True ∧ ((0 : Int) ≤ (↑(W5.BSt.i b) : Int) ∧ (↑(W5.BSt.i b)
      : Int) < (↑(List.length names) : Int)) ∧ W5.BSt.i b < List.length names ∧ ∀ (b_6 : Bool), True → br b_6 ((0 : Nat) + b_5 ≤ List.length (Sx.sortedNames (W5.BSt.bl b)) ∧
      ((↑((0 : Nat) + List.length (List.take b_5 (List.drop (0 : Nat) (Sx.sortedNames (W5.BSt.bl b))))) : Int) ≤ (9223372036854775807 : Int) ∧ ((0 : Nat) + List.length
      (List.take b_5 (List.drop (0 : Nat) (Sx.sortedNames (W5.BSt.bl b))))) * Sx.bytesOf Go.Proofs.Tryz.prog (9 : Nat) ≤ (140737488355328 : Nat)) ∧ ∀ (b_7 : Bool), True → br b_7
      (∀ (b_8 : Bool), True → Sx.br b_8 ((1 : Nat) ≤ (1 : Nat) ∧ List.length (List.take b_5 (List.drop (0 : Nat) (Sx.sortedNames (W5.BSt.bl b)))) = List.length (List.take b_5
      (List.drop (0 : Nat) (Sx.sortedNames (W5.BSt.bl b)))) ∧ ((↑(List.length (List.take b_5 (List.drop (0 : Nat) (Sx.sortedNames (W5.BSt.bl b)))) + (1 : Nat)) : Int) ≤
      (9223372036854775807 : Int) ∧ (List.length (List.take b_5 (List.drop (0 : Nat) (Sx.sortedNames (W5.BSt.bl b)))) + (1 : Nat)) * Sx.bytesOf Go.Proofs.Tryz.prog (9 : Nat) ≤
      (140737488355328 : Nat)) ∧ True ∧ ((0 : Int) ≤ (↑b_5 : Int) ∧ (↑b_5 : Int) ≤ (↑(List.length (Sx.sortedNames (W5.BSt.bl b))) : Int)) ∧ (0 : Nat) + b_5 + (List.length
      (Sx.sortedNames (W5.BSt.bl b)) - b_5) ≤ List.length (Sx.sortedNames (W5.BSt.bl b)) ∧ List.length (List.take b_5 (List.drop (0 : Nat) (Sx.sortedNames (W5.BSt.bl b)))) + (1
      : Nat) = List.length (List.take b_5 (List.drop (0 : Nat) (Sx.sortedNames (W5.BSt.bl b))) ++ [List.getD names (W5.BSt.i b) (Ty.dflt Ty.str)]) ∧ Sx.br (decide (List.length
      (List.take (List.length (Sx.sortedNames (W5.BSt.bl b)) - b_5) (List.drop ((0 : Nat) + b_5) (Sx.sortedNames (W5.BSt.bl b)))) = (0 : Nat))) ((∃ (x : List ByteArray),
      ([SV.imm Ty.str names, SV.imm (Ty.int IntKind.i64) ns, SV.lit (Value.string ask), SV.ptr (0 : Nat) (0 : Nat), SV.mp (2 : Nat), SV.sl (3 : Nat) (1 : Nat) (0 : Nat)
      (List.length (List.take b_5 (List.drop (0 : Nat) (Sx.sortedNames (W5.BSt.bl b)))) + (1 : Nat)), SV.ptr (4 : Nat) (0 : Nat), SV.lit (Value.int IntKind.i64 (↑(W5.BSt.i b) :
      Int))], [SO.cells (40 : Nat) (W5.bcells (1 : Int) (SV.mp (1 : Nat))), W5.mapOf (W5.BSt.bl b), SO.imap (Sx.imapR Go.Proofs.Tryz.prog (9 : Go.TypeId)) (W5.BSt.lg b), SO.row
      (9 : Nat) Ty.str (List.take b_5 (List.drop (0 : Nat) (Sx.sortedNames (W5.BSt.bl b))) ++ [List.getD names (W5.BSt.i b) (Ty.dflt Ty.str)]), SO.cells (52 : Nat) (W5.bk (SV.sl
      (5 : Nat) (1 : Nat) (0 : Nat) (List.length (W5.BSt.LL b))) (SV.sl (6 : Nat) (1 : Nat) (0 : Nat) (List.length (W5.BSt.LL b)))), SO.kept (22 : Nat) (9 : Nat) Ty.str
      (W5.BSt.LL b), SO.row (22 : Nat) (Ty.imm Ty.str) (W5.BSt.LL b)]) = ([SV.imm Ty.str names, SV.imm (Ty.int IntKind.i64) ns, SV.lit (Value.string ask), SV.ptr (0 : Nat) (0 :
      Nat), SV.mp (2 : Nat), SV.sl (3 : Nat) (1 : Nat) (0 : Nat) (List.length x), SV.ptr (4 : Nat) (0 : Nat), SV.lit (Value.int IntKind.i64 (↑(W5.BSt.i b) : Int))], [SO.cells
      (40 : Nat) (W5.bcells (1 : Int) (SV.mp (1 : Nat))), W5.mapOf (W5.BSt.bl b), SO.imap (Sx.imapR Go.Proofs.Tryz.prog (9 : Go.TypeId)) (W5.BSt.lg b), SO.row (9 : Nat) Ty.str
      x, SO.cells (52 : Nat) (W5.bk (SV.sl (5 : Nat) (1 : Nat) (0 : Nat) (List.length (W5.BSt.LL b))) (SV.sl (6 : Nat) (1 : Nat) (0 : Nat) (List.length (W5.BSt.LL b)))), SO.kept
      (22 : Nat) (9 : Nat) Ty.str (W5.BSt.LL b), SO.row (22 : Nat) (Ty.imm Ty.str) (W5.BSt.LL b)]) ∧ W5.OrdOf (Sx.sortedNames (W5.BSt.bl b)) (List.getD names (W5.BSt.i b)
      (Ty.dflt Ty.str)) (Sx.logHas (W5.BSt.lg b) (List.getD names (W5.BSt.i b) (Ty.dflt Ty.str))) x) ∧ True) (((↑(List.length (List.take b_5 (List.drop (0 : Nat) (Sx.sortedNames
      (W5.BSt.bl b)))) + (1 : Nat) + List.length (List.take (List.length (Sx.sortedNames (W5.BSt.bl b)) - b_5) (List.drop ((0 : Nat) + b_5) (Sx.sortedNames (W5.BSt.bl b))))) :
      Int) ≤ (9223372036854775807 : Int) ∧ (List.length (List.take b_5 (List.drop (0 : Nat) (Sx.sortedNames (W5.BSt.bl b)))) + (1 : Nat) + List.length (List.take (List.length
      (Sx.sortedNames (W5.BSt.bl b)) - b_5) (List.drop ((0 : Nat) + b_5) (Sx.sortedNames (W5.BSt.bl b))))) * Sx.bytesOf Go.Proofs.Tryz.prog (9 : Nat) ≤ (140737488355328 : Nat))
      ∧ (∃ (x : List ByteArray), ([SV.imm Ty.str names, SV.imm (Ty.int IntKind.i64) ns, SV.lit (Value.string ask), SV.ptr (0 : Nat) (0 : Nat), SV.mp (2 : Nat), SV.sl (3 : Nat)
      (1 : Nat) (0 : Nat) (List.length (List.take b_5 (List.drop (0 : Nat) (Sx.sortedNames (W5.BSt.bl b)))) + (1 : Nat) + List.length (List.take (List.length (Sx.sortedNames
      (W5.BSt.bl b)) - b_5) (List.drop ((0 : Nat) + b_5) (Sx.sortedNames (W5.BSt.bl b))))), SV.ptr (4 : Nat) (0 : Nat), SV.lit (Value.int IntKind.i64 (↑(W5.BSt.i b) : Int))],
      [SO.cells (40 : Nat) (W5.bcells (1 : Int) (SV.mp (1 : Nat))), W5.mapOf (W5.BSt.bl b), SO.imap (Sx.imapR Go.Proofs.Tryz.prog (9 : Go.TypeId)) (W5.BSt.lg b), SO.row (9 :
      Nat) Ty.str (List.take b_5 (List.drop (0 : Nat) (Sx.sortedNames (W5.BSt.bl b))) ++ [List.getD names (W5.BSt.i b) (Ty.dflt Ty.str)] ++ List.take (List.length
      (Sx.sortedNames (W5.BSt.bl b)) - b_5) (List.drop ((0 : Nat) + b_5) (Sx.sortedNames (W5.BSt.bl b)))), SO.cells (52 : Nat) (W5.bk (SV.sl (5 : Nat) (1 : Nat) (0 : Nat)
      (List.length (W5.BSt.LL b))) (SV.sl (6 : Nat) (1 : Nat) (0 : Nat) (List.length (W5.BSt.LL b)))), SO.kept (22 : Nat) (9 : Nat) Ty.str (W5.BSt.LL b), SO.row (22 : Nat)
      (Ty.imm Ty.str) (W5.BSt.LL b)]) = ([SV.imm Ty.str names, SV.imm (Ty.int IntKind.i64) ns, SV.lit (Value.string ask), SV.ptr (0 : Nat) (0 : Nat), SV.mp (2 : Nat), SV.sl (3 :
      Nat) (1 : Nat) (0 : Nat) (List.length x), SV.ptr (4 : Nat) (0 : Nat), SV.lit (Value.int IntKind.i64 (↑(W5.BSt.i b) : Int))], [SO.cells (40 : Nat) (W5.bcells (1 : Int)
      (SV.mp (1 : Nat))), W5.mapOf (W5.BSt.bl b), SO.imap (Sx.imapR Go.Proofs.Tryz.prog (9 : Go.TypeId)) (W5.BSt.lg b), SO.row (9 : Nat) Ty.str x, SO.cells (52 : Nat) (W5.bk
      (SV.sl (5 : Nat) (1 : Nat) (0 : Nat) (List.length (W5.BSt.LL b))) (SV.sl (6 : Nat) (1 : Nat) (0 : Nat) (List.length (W5.BSt.LL b)))), SO.kept (22 : Nat) (9 : Nat) Ty.str
      (W5.BSt.LL b), SO.row (22 : Nat) (Ty.imm Ty.str) (W5.BSt.LL b)]) ∧ W5.OrdOf (Sx.sortedNames (W5.BSt.bl b)) (List.getD names (W5.BSt.i b) (Ty.dflt Ty.str)) (Sx.logHas
      (W5.BSt.lg b) (List.getD names (W5.BSt.i b) (Ty.dflt Ty.str))) x) ∧ True)) (True ∧ ((0 : Int) ≤ (↑b_5 : Int) ∧ (↑b_5 : Int) ≤ (↑(List.length (Sx.sortedNames (W5.BSt.bl
      b))) : Int)) ∧ (1 : Nat) ≤ (1 : Nat) ∧ List.length (List.take b_5 (List.drop (0 : Nat) (Sx.sortedNames (W5.BSt.bl b)))) = List.length (List.take b_5 (List.drop (0 : Nat)
      (Sx.sortedNames (W5.BSt.bl b)))) ∧ ((↑(List.length (List.take b_5 (List.drop (0 : Nat) (Sx.sortedNames (W5.BSt.bl b)))) + (1 : Nat)) : Int) ≤ (9223372036854775807 : Int) ∧
      (List.length (List.take b_5 (List.drop (0 : Nat) (Sx.sortedNames (W5.BSt.bl b)))) + (1 : Nat)) * Sx.bytesOf Go.Proofs.Tryz.prog (9 : Nat) ≤ (140737488355328 : Nat)) ∧ (0 :
      Nat) + b_5 + (List.length (Sx.sortedNames (W5.BSt.bl b)) - b_5) ≤ List.length (Sx.sortedNames (W5.BSt.bl b)) ∧ List.length (List.take b_5 (List.drop (0 : Nat)
      (Sx.sortedNames (W5.BSt.bl b)))) + (1 : Nat) = List.length (List.take b_5 (List.drop (0 : Nat) (Sx.sortedNames (W5.BSt.bl b))) ++ [List.getD names (W5.BSt.i b) (Ty.dflt
      Ty.str)]) ∧ Sx.br (decide (List.length (List.take (List.length (Sx.sortedNames (W5.BSt.bl b)) - b_5) (List.drop ((0 : Nat) + b_5) (Sx.sortedNames (W5.BSt.bl b)))) = (0 :
      Nat))) ((∃ (x : List ByteArray), ([SV.imm Ty.str names, SV.imm (Ty.int IntKind.i64) ns, SV.lit (Value.string ask), SV.ptr (0 : Nat) (0 : Nat), SV.mp (2 : Nat), SV.sl (3 :
      Nat) (1 : Nat) (0 : Nat) (List.length (List.take b_5 (List.drop (0 : Nat) (Sx.sortedNames (W5.BSt.bl b)))) + (1 : Nat)), SV.ptr (4 : Nat) (0 : Nat), SV.lit (Value.int
      IntKind.i64 (↑(W5.BSt.i b) : Int))], [SO.cells (40 : Nat) (W5.bcells (1 : Int) (SV.mp (1 : Nat))), W5.mapOf (W5.BSt.bl b), SO.imap (Sx.imapR Go.Proofs.Tryz.prog (9 :
      Go.TypeId)) (W5.BSt.lg b), SO.row (9 : Nat) Ty.str (List.take b_5 (List.drop (0 : Nat) (Sx.sortedNames (W5.BSt.bl b))) ++ [List.getD names (W5.BSt.i b) (Ty.dflt Ty.str)]),
      SO.cells (52 : Nat) (W5.bk (SV.sl (5 : Nat) (1 : Nat) (0 : Nat) (List.length (W5.BSt.LL b))) (SV.sl (6 : Nat) (1 : Nat) (0 : Nat) (List.length (W5.BSt.LL b)))), SO.kept
      (22 : Nat) (9 : Nat) Ty.str (W5.BSt.LL b), SO.row (22 : Nat) (Ty.imm Ty.str) (W5.BSt.LL b)]) = ([SV.imm Ty.str names, SV.imm (Ty.int IntKind.i64) ns, SV.lit (Value.string
      ask), SV.ptr (0 : Nat) (0 : Nat), SV.mp (2 : Nat), SV.sl (3 : Nat) (1 : Nat) (0 : Nat) (List.length x), SV.ptr (4 : Nat) (0 : Nat), SV.lit (Value.int IntKind.i64
      (↑(W5.BSt.i b) : Int))], [SO.cells (40 : Nat) (W5.bcells (1 : Int) (SV.mp (1 : Nat))), W5.mapOf (W5.BSt.bl b), SO.imap (Sx.imapR Go.Proofs.Tryz.prog (9 : Go.TypeId))
      (W5.BSt.lg b), SO.row (9 : Nat) Ty.str x, SO.cells (52 : Nat) (W5.bk (SV.sl (5 : Nat) (1 : Nat) (0 : Nat) (List.length (W5.BSt.LL b))) (SV.sl (6 : Nat) (1 : Nat) (0 : Nat)
      (List.length (W5.BSt.LL b)))), SO.kept (22 : Nat) (9 : Nat) Ty.str (W5.BSt.LL b), SO.row (22 : Nat) (Ty.imm Ty.str) (W5.BSt.LL b)]) ∧ W5.OrdOf (Sx.sortedNames (W5.BSt.bl
      b)) (List.getD names (W5.BSt.i b) (Ty.dflt Ty.str)) (Sx.logHas (W5.BSt.lg b) (List.getD names (W5.BSt.i b) (Ty.dflt Ty.str))) x) ∧ True) (((↑(List.length (List.take b_5
      (List.drop (0 : Nat) (Sx.sortedNames (W5.BSt.bl b)))) + (1 : Nat) + List.length (List.take (List.length (Sx.sortedNames (W5.BSt.bl b)) - b_5) (List.drop ((0 : Nat) + b_5)
      (Sx.sortedNames (W5.BSt.bl b))))) : Int) ≤ (9223372036854775807 : Int) ∧ (List.length (List.take b_5 (List.drop (0 : Nat) (Sx.sortedNames (W5.BSt.bl b)))) + (1 : Nat) +
      List.length (List.take (List.length (Sx.sortedNames (W5.BSt.bl b)) - b_5) (List.drop ((0 : Nat) + b_5) (Sx.sortedNames (W5.BSt.bl b))))) * Sx.bytesOf Go.Proofs.Tryz.prog
      (9 : Nat) ≤ (140737488355328 : Nat)) ∧ (∃ (x : List ByteArray), ([SV.imm Ty.str names, SV.imm (Ty.int IntKind.i64) ns, SV.lit (Value.string ask), SV.ptr (0 : Nat) (0 :
      Nat), SV.mp (2 : Nat), SV.sl (3 : Nat) (1 : Nat) (0 : Nat) (List.length (List.take b_5 (List.drop (0 : Nat) (Sx.sortedNames (W5.BSt.bl b)))) + (1 : Nat) + List.length
      (List.take (List.length (Sx.sortedNames (W5.BSt.bl b)) - b_5) (List.drop ((0 : Nat) + b_5) (Sx.sortedNames (W5.BSt.bl b))))), SV.ptr (4 : Nat) (0 : Nat), SV.lit (Value.int
      IntKind.i64 (↑(W5.BSt.i b) : Int))], [SO.cells (40 : Nat) (W5.bcells (1 : Int) (SV.mp (1 : Nat))), W5.mapOf (W5.BSt.bl b), SO.imap (Sx.imapR Go.Proofs.Tryz.prog (9 :
      Go.TypeId)) (W5.BSt.lg b), SO.row (9 : Nat) Ty.str (List.take b_5 (List.drop (0 : Nat) (Sx.sortedNames (W5.BSt.bl b))) ++ [List.getD names (W5.BSt.i b) (Ty.dflt Ty.str)]
      ++ List.take (List.length (Sx.sortedNames (W5.BSt.bl b)) - b_5) (List.drop ((0 : Nat) + b_5) (Sx.sortedNames (W5.BSt.bl b)))), SO.cells (52 : Nat) (W5.bk (SV.sl (5 : Nat)
      (1 : Nat) (0 : Nat) (List.length (W5.BSt.LL b))) (SV.sl (6 : Nat) (1 : Nat) (0 : Nat) (List.length (W5.BSt.LL b)))), SO.kept (22 : Nat) (9 : Nat) Ty.str (W5.BSt.LL b),
      SO.row (22 : Nat) (Ty.imm Ty.str) (W5.BSt.LL b)]) = ([SV.imm Ty.str names, SV.imm (Ty.int IntKind.i64) ns, SV.lit (Value.string ask), SV.ptr (0 : Nat) (0 : Nat), SV.mp (2
      : Nat), SV.sl (3 : Nat) (1 : Nat) (0 : Nat) (List.length x), SV.ptr (4 : Nat) (0 : Nat), SV.lit (Value.int IntKind.i64 (↑(W5.BSt.i b) : Int))], [SO.cells (40 : Nat)
      (W5.bcells (1 : Int) (SV.mp (1 : Nat))), W5.mapOf (W5.BSt.bl b), SO.imap (Sx.imapR Go.Proofs.Tryz.prog (9 : Go.TypeId)) (W5.BSt.lg b), SO.row (9 : Nat) Ty.str x, SO.cells
      (52 : Nat) (W5.bk (SV.sl (5 : Nat) (1 : Nat) (0 : Nat) (List.length (W5.BSt.LL b))) (SV.sl (6 : Nat) (1 : Nat) (0 : Nat) (List.length (W5.BSt.LL b)))), SO.kept (22 : Nat)
      (9 : Nat) Ty.str (W5.BSt.LL b), SO.row (22 : Nat) (Ty.imm Ty.str) (W5.BSt.LL b)]) ∧ W5.OrdOf (Sx.sortedNames (W5.BSt.bl b)) (List.getD names (W5.BSt.i b) (Ty.dflt Ty.str))
      (Sx.logHas (W5.BSt.lg b) (List.getD names (W5.BSt.i b) (Ty.dflt Ty.str))) x) ∧ True))) (True ∧ ((0 : Int) ≤ (↑b_5 : Int) ∧ (↑b_5 : Int) ≤ (↑(List.length (Sx.sortedNames
      (W5.BSt.bl b))) : Int)) ∧ (1 : Nat) ≤ (1 : Nat) ∧ List.length (List.take b_5 (List.drop (0 : Nat) (Sx.sortedNames (W5.BSt.bl b)))) = List.length (List.take b_5 (List.drop
      (0 : Nat) (Sx.sortedNames (W5.BSt.bl b)))) ∧ ((↑(List.length (List.take b_5 (List.drop (0 : Nat) (Sx.sortedNames (W5.BSt.bl b)))) + (1 : Nat)) : Int) ≤
      (9223372036854775807 : Int) ∧ (List.length (List.take b_5 (List.drop (0 : Nat) (Sx.sortedNames (W5.BSt.bl b)))) + (1 : Nat)) * Sx.bytesOf Go.Proofs.Tryz.prog (9 : Nat) ≤
      (140737488355328 : Nat)) ∧ (0 : Nat) + b_5 + (List.length (Sx.sortedNames (W5.BSt.bl b)) - b_5) ≤ List.length (Sx.sortedNames (W5.BSt.bl b)) ∧ List.length (List.take b_5
      (List.drop (0 : Nat) (Sx.sortedNames (W5.BSt.bl b)))) + (1 : Nat) = List.length (List.take b_5 (List.drop (0 : Nat) (Sx.sortedNames (W5.BSt.bl b))) ++ [List.getD names
      (W5.BSt.i b) (Ty.dflt Ty.str)]) ∧ Sx.br (decide (List.length (List.take (List.length (Sx.sortedNames (W5.BSt.bl b)) - b_5) (List.drop ((0 : Nat) + b_5) (Sx.sortedNames
      (W5.BSt.bl b)))) = (0 : Nat))) ((∃ (x : List ByteArray), ([SV.imm Ty.str names, SV.imm (Ty.int IntKind.i64) ns, SV.lit (Value.string ask), SV.ptr (0 : Nat) (0 : Nat),
      SV.mp (2 : Nat), SV.sl (3 : Nat) (1 : Nat) (0 : Nat) (List.length (List.take b_5 (List.drop (0 : Nat) (Sx.sortedNames (W5.BSt.bl b)))) + (1 : Nat)), SV.ptr (4 : Nat) (0 :
      Nat), SV.lit (Value.int IntKind.i64 (↑(W5.BSt.i b) : Int))], [SO.cells (40 : Nat) (W5.bcells (1 : Int) (SV.mp (1 : Nat))), W5.mapOf (W5.BSt.bl b), SO.imap (Sx.imapR
      Go.Proofs.Tryz.prog (9 : Go.TypeId)) (W5.BSt.lg b), SO.row (9 : Nat) Ty.str (List.take b_5 (List.drop (0 : Nat) (Sx.sortedNames (W5.BSt.bl b))) ++ [List.getD names
      (W5.BSt.i b) (Ty.dflt Ty.str)]), SO.cells (52 : Nat) (W5.bk (SV.sl (5 : Nat) (1 : Nat) (0 : Nat) (List.length (W5.BSt.LL b))) (SV.sl (6 : Nat) (1 : Nat) (0 : Nat)
      (List.length (W5.BSt.LL b)))), SO.kept (22 : Nat) (9 : Nat) Ty.str (W5.BSt.LL b), SO.row (22 : Nat) (Ty.imm Ty.str) (W5.BSt.LL b)]) = ([SV.imm Ty.str names, SV.imm (Ty.int
      IntKind.i64) ns, SV.lit (Value.string ask), SV.ptr (0 : Nat) (0 : Nat), SV.mp (2 : Nat), SV.sl (3 : Nat) (1 : Nat) (0 : Nat) (List.length x), SV.ptr (4 : Nat) (0 : Nat),
      SV.lit (Value.int IntKind.i64 (↑(W5.BSt.i b) : Int))], [SO.cells (40 : Nat) (W5.bcells (1 : Int) (SV.mp (1 : Nat))), W5.mapOf (W5.BSt.bl b), SO.imap (Sx.imapR
      Go.Proofs.Tryz.prog (9 : Go.TypeId)) (W5.BSt.lg b), SO.row (9 : Nat) Ty.str x, SO.cells (52 : Nat) (W5.bk (SV.sl (5 : Nat) (1 : Nat) (0 : Nat) (List.length (W5.BSt.LL b)))
      (SV.sl (6 : Nat) (1 : Nat) (0 : Nat) (List.length (W5.BSt.LL b)))), SO.kept (22 : Nat) (9 : Nat) Ty.str (W5.BSt.LL b), SO.row (22 : Nat) (Ty.imm Ty.str) (W5.BSt.LL b)]) ∧
      W5.OrdOf (Sx.sortedNames (W5.BSt.bl b)) (List.getD names (W5.BSt.i b) (Ty.dflt Ty.str)) (Sx.logHas (W5.BSt.lg b) (List.getD names (W5.BSt.i b) (Ty.dflt Ty.str))) x) ∧
      True) (((↑(List.length (List.take b_5 (List.drop (0 : Nat) (Sx.sortedNames (W5.BSt.bl b)))) + (1 : Nat) + List.length (List.take (List.length (Sx.sortedNames (W5.BSt.bl
      b)) - b_5) (List.drop ((0 : Nat) + b_5) (Sx.sortedNames (W5.BSt.bl b))))) : Int) ≤ (9223372036854775807 : Int) ∧ (List.length (List.take b_5 (List.drop (0 : Nat)
      (Sx.sortedNames (W5.BSt.bl b)))) + (1 : Nat) + List.length (List.take (List.length (Sx.sortedNames (W5.BSt.bl b)) - b_5) (List.drop ((0 : Nat) + b_5) (Sx.sortedNames
      (W5.BSt.bl b))))) * Sx.bytesOf Go.Proofs.Tryz.prog (9 : Nat) ≤ (140737488355328 : Nat)) ∧ (∃ (x : List ByteArray), ([SV.imm Ty.str names, SV.imm (Ty.int IntKind.i64) ns,
      SV.lit (Value.string ask), SV.ptr (0 : Nat) (0 : Nat), SV.mp (2 : Nat), SV.sl (3 : Nat) (1 : Nat) (0 : Nat) (List.length (List.take b_5 (List.drop (0 : Nat)
      (Sx.sortedNames (W5.BSt.bl b)))) + (1 : Nat) + List.length (List.take (List.length (Sx.sortedNames (W5.BSt.bl b)) - b_5) (List.drop ((0 : Nat) + b_5) (Sx.sortedNames
      (W5.BSt.bl b))))), SV.ptr (4 : Nat) (0 : Nat), SV.lit (Value.int IntKind.i64 (↑(W5.BSt.i b) : Int))], [SO.cells (40 : Nat) (W5.bcells (1 : Int) (SV.mp (1 : Nat))),
      W5.mapOf (W5.BSt.bl b), SO.imap (Sx.imapR Go.Proofs.Tryz.prog (9 : Go.TypeId)) (W5.BSt.lg b), SO.row (9 : Nat) Ty.str (List.take b_5 (List.drop (0 : Nat) (Sx.sortedNames
      (W5.BSt.bl b))) ++ [List.getD names (W5.BSt.i b) (Ty.dflt Ty.str)] ++ List.take (List.length (Sx.sortedNames (W5.BSt.bl b)) - b_5) (List.drop ((0 : Nat) + b_5)
      (Sx.sortedNames (W5.BSt.bl b)))), SO.cells (52 : Nat) (W5.bk (SV.sl (5 : Nat) (1 : Nat) (0 : Nat) (List.length (W5.BSt.LL b))) (SV.sl (6 : Nat) (1 : Nat) (0 : Nat)
      (List.length (W5.BSt.LL b)))), SO.kept (22 : Nat) (9 : Nat) Ty.str (W5.BSt.LL b), SO.row (22 : Nat) (Ty.imm Ty.str) (W5.BSt.LL b)]) = ([SV.imm Ty.str names, SV.imm (Ty.int
      IntKind.i64) ns, SV.lit (Value.string ask), SV.ptr (0 : Nat) (0 : Nat), SV.mp (2 : Nat), SV.sl (3 : Nat) (1 : Nat) (0 : Nat) (List.length x), SV.ptr (4 : Nat) (0 : Nat),
      SV.lit (Value.int IntKind.i64 (↑(W5.BSt.i b) : Int))], [SO.cells (40 : Nat) (W5.bcells (1 : Int) (SV.mp (1 : Nat))), W5.mapOf (W5.BSt.bl b), SO.imap (Sx.imapR
      Go.Proofs.Tryz.prog (9 : Go.TypeId)) (W5.BSt.lg b), SO.row (9 : Nat) Ty.str x, SO.cells (52 : Nat) (W5.bk (SV.sl (5 : Nat) (1 : Nat) (0 : Nat) (List.length (W5.BSt.LL b)))
      (SV.sl (6 : Nat) (1 : Nat) (0 : Nat) (List.length (W5.BSt.LL b)))), SO.kept (22 : Nat) (9 : Nat) Ty.str (W5.BSt.LL b), SO.row (22 : Nat) (Ty.imm Ty.str) (W5.BSt.LL b)]) ∧
      W5.OrdOf (Sx.sortedNames (W5.BSt.bl b)) (List.getD names (W5.BSt.i b) (Ty.dflt Ty.str)) (Sx.logHas (W5.BSt.lg b) (List.getD names (W5.BSt.i b) (Ty.dflt Ty.str))) x) ∧
      True))) (∀ (b_7 : Bool), True → br b_7 (∀ (b_8 : Bool), True → Sx.br b_8 ((0 : Nat) + b_5 ≤ List.length (Sx.sortedNames (W5.BSt.bl b)) ∧ ((↑((0 : Nat) + List.length
      (List.take b_5 (List.drop (0 : Nat) (Sx.sortedNames (W5.BSt.bl b))))) : Int) ≤ (9223372036854775807 : Int) ∧ ((0 : Nat) + List.length (List.take b_5 (List.drop (0 : Nat)
      (Sx.sortedNames (W5.BSt.bl b))))) * Sx.bytesOf Go.Proofs.Tryz.prog (9 : Nat) ≤ (140737488355328 : Nat)) ∧ ∀ (b_9 : Bool), True → Sx.br b_9 ((1 : Nat) ≤ (1 : Nat) ∧
      List.length (List.take b_5 (List.drop (0 : Nat) (Sx.sortedNames (W5.BSt.bl b)))) = List.length (List.take b_5 (List.drop (0 : Nat) (Sx.sortedNames (W5.BSt.bl b)))) ∧
      ((↑(List.length (List.take b_5 (List.drop (0 : Nat) (Sx.sortedNames (W5.BSt.bl b)))) + (1 : Nat)) : Int) ≤ (9223372036854775807 : Int) ∧ (List.length (List.take b_5
      (List.drop (0 : Nat) (Sx.sortedNames (W5.BSt.bl b)))) + (1 : Nat)) * Sx.bytesOf Go.Proofs.Tryz.prog (9 : Nat) ≤ (140737488355328 : Nat)) ∧ True ∧ ((0 : Int) ≤ (↑b_5 : Int)
      ∧ (↑b_5 : Int) ≤ (↑(List.length (Sx.sortedNames (W5.BSt.bl b))) : Int)) ∧ (0 : Nat) + b_5 + (List.length (Sx.sortedNames (W5.BSt.bl b)) - b_5) ≤ List.length
      (Sx.sortedNames (W5.BSt.bl b)) ∧ List.length (List.take b_5 (List.drop (0 : Nat) (Sx.sortedNames (W5.BSt.bl b)))) + (1 : Nat) = List.length (List.take b_5 (List.drop (0 :
      Nat) (Sx.sortedNames (W5.BSt.bl b))) ++ [List.getD names (W5.BSt.i b) (Ty.dflt Ty.str)]) ∧ Sx.br (decide (List.length (List.take (List.length (Sx.sortedNames (W5.BSt.bl
      b)) - b_5) (List.drop ((0 : Nat) + b_5) (Sx.sortedNames (W5.BSt.bl b)))) = (0 : Nat))) ((∃ (x : List ByteArray), ([SV.imm Ty.str names, SV.imm (Ty.int IntKind.i64) ns,
      SV.lit (Value.string ask), SV.ptr (0 : Nat) (0 : Nat), SV.mp (2 : Nat), SV.sl (3 : Nat) (1 : Nat) (0 : Nat) (List.length (List.take b_5 (List.drop (0 : Nat)
      (Sx.sortedNames (W5.BSt.bl b)))) + (1 : Nat)), SV.ptr (4 : Nat) (0 : Nat), SV.lit (Value.int IntKind.i64 (↑(W5.BSt.i b) : Int))], [SO.cells (40 : Nat) (W5.bcells (1 : Int)
      (SV.mp (1 : Nat))), W5.mapOf (W5.BSt.bl b), SO.imap (Sx.imapR Go.Proofs.Tryz.prog (9 : Go.TypeId)) (W5.BSt.lg b), SO.row (9 : Nat) Ty.str (List.take b_5 (List.drop (0 :
      Nat) (Sx.sortedNames (W5.BSt.bl b))) ++ [List.getD names (W5.BSt.i b) (Ty.dflt Ty.str)]), SO.cells (52 : Nat) (W5.bk (SV.sl (5 : Nat) (1 : Nat) (0 : Nat) (List.length
      (W5.BSt.LL b))) (SV.sl (6 : Nat) (1 : Nat) (0 : Nat) (List.length (W5.BSt.LL b)))), SO.kept (22 : Nat) (9 : Nat) Ty.str (W5.BSt.LL b), SO.row (22 : Nat) (Ty.imm Ty.str)
      (W5.BSt.LL b)]) = ([SV.imm Ty.str names, SV.imm (Ty.int IntKind.i64) ns, SV.lit (Value.string ask), SV.ptr (0 : Nat) (0 : Nat), SV.mp (2 : Nat), SV.sl (3 : Nat) (1 : Nat)
      (0 : Nat) (List.length x), SV.ptr (4 : Nat) (0 : Nat), SV.lit (Value.int IntKind.i64 (↑(W5.BSt.i b) : Int))], [SO.cells (40 : Nat) (W5.bcells (1 : Int) (SV.mp (1 : Nat))),
      W5.mapOf (W5.BSt.bl b), SO.imap (Sx.imapR Go.Proofs.Tryz.prog (9 : Go.TypeId)) (W5.BSt.lg b), SO.row (9 : Nat) Ty.str x, SO.cells (52 : Nat) (W5.bk (SV.sl (5 : Nat) (1 :
      Nat) (0 : Nat) (List.length (W5.BSt.LL b))) (SV.sl (6 : Nat) (1 : Nat) (0 : Nat) (List.length (W5.BSt.LL b)))), SO.kept (22 : Nat) (9 : Nat) Ty.str (W5.BSt.LL b), SO.row
      (22 : Nat) (Ty.imm Ty.str) (W5.BSt.LL b)]) ∧ W5.OrdOf (Sx.sortedNames (W5.BSt.bl b)) (List.getD names (W5.BSt.i b) (Ty.dflt Ty.str)) (Sx.logHas (W5.BSt.lg b) (List.getD
      names (W5.BSt.i b) (Ty.dflt Ty.str))) x) ∧ True) (((↑(List.length (List.take b_5 (List.drop (0 : Nat) (Sx.sortedNames (W5.BSt.bl b)))) + (1 : Nat) + List.length (List.take
      (List.length (Sx.sortedNames (W5.BSt.bl b)) - b_5) (List.drop ((0 : Nat) + b_5) (Sx.sortedNames (W5.BSt.bl b))))) : Int) ≤ (9223372036854775807 : Int) ∧ (List.length
      (List.take b_5 (List.drop (0 : Nat) (Sx.sortedNames (W5.BSt.bl b)))) + (1 : Nat) + List.length (List.take (List.length (Sx.sortedNames (W5.BSt.bl b)) - b_5) (List.drop ((0
      : Nat) + b_5) (Sx.sortedNames (W5.BSt.bl b))))) * Sx.bytesOf Go.Proofs.Tryz.prog (9 : Nat) ≤ (140737488355328 : Nat)) ∧ (∃ (x : List ByteArray), ([SV.imm Ty.str names,
      SV.imm (Ty.int IntKind.i64) ns, SV.lit (Value.string ask), SV.ptr (0 : Nat) (0 : Nat), SV.mp (2 : Nat), SV.sl (3 : Nat) (1 : Nat) (0 : Nat) (List.length (List.take b_5
      (List.drop (0 : Nat) (Sx.sortedNames (W5.BSt.bl b)))) + (1 : Nat) + List.length (List.take (List.length (Sx.sortedNames (W5.BSt.bl b)) - b_5) (List.drop ((0 : Nat) + b_5)
      (Sx.sortedNames (W5.BSt.bl b))))), SV.ptr (4 : Nat) (0 : Nat), SV.lit (Value.int IntKind.i64 (↑(W5.BSt.i b) : Int))], [SO.cells (40 : Nat) (W5.bcells (1 : Int) (SV.mp (1 :
      Nat))), W5.mapOf (W5.BSt.bl b), SO.imap (Sx.imapR Go.Proofs.Tryz.prog (9 : Go.TypeId)) (W5.BSt.lg b), SO.row (9 : Nat) Ty.str (List.take b_5 (List.drop (0 : Nat)
      (Sx.sortedNames (W5.BSt.bl b))) ++ [List.getD names (W5.BSt.i b) (Ty.dflt Ty.str)] ++ List.take (List.length (Sx.sortedNames (W5.BSt.bl b)) - b_5) (List.drop ((0 : Nat) +
      b_5) (Sx.sortedNames (W5.BSt.bl b)))), SO.cells (52 : Nat) (W5.bk (SV.sl (5 : Nat) (1 : Nat) (0 : Nat) (List.length (W5.BSt.LL b))) (SV.sl (6 : Nat) (1 : Nat) (0 : Nat)
      (List.length (W5.BSt.LL b)))), SO.kept (22 : Nat) (9 : Nat) Ty.str (W5.BSt.LL b), SO.row (22 : Nat) (Ty.imm Ty.str) (W5.BSt.LL b)]) = ([SV.imm Ty.str names, SV.imm (Ty.int
      IntKind.i64) ns, SV.lit (Value.string ask), SV.ptr (0 : Nat) (0 : Nat), SV.mp (2 : Nat), SV.sl (3 : Nat) (1 : Nat) (0 : Nat) (List.length x), SV.ptr (4 : Nat) (0 : Nat),
      SV.lit (Value.int IntKind.i64 (↑(W5.BSt.i b) : Int))], [SO.cells (40 : Nat) (W5.bcells (1 : Int) (SV.mp (1 : Nat))), W5.mapOf (W5.BSt.bl b), SO.imap (Sx.imapR
      Go.Proofs.Tryz.prog (9 : Go.TypeId)) (W5.BSt.lg b), SO.row (9 : Nat) Ty.str x, SO.cells (52 : Nat) (W5.bk (SV.sl (5 : Nat) (1 : Nat) (0 : Nat) (List.length (W5.BSt.LL b)))
      (SV.sl (6 : Nat) (1 : Nat) (0 : Nat) (List.length (W5.BSt.LL b)))), SO.kept (22 : Nat) (9 : Nat) Ty.str (W5.BSt.LL b), SO.row (22 : Nat) (Ty.imm Ty.str) (W5.BSt.LL b)]) ∧
      W5.OrdOf (Sx.sortedNames (W5.BSt.bl b)) (List.getD names (W5.BSt.i b) (Ty.dflt Ty.str)) (Sx.logHas (W5.BSt.lg b) (List.getD names (W5.BSt.i b) (Ty.dflt Ty.str))) x) ∧
      True)) (True ∧ ((0 : Int) ≤ (↑b_5 : Int) ∧ (↑b_5 : Int) ≤ (↑(List.length (Sx.sortedNames (W5.BSt.bl b))) : Int)) ∧ (1 : Nat) ≤ (1 : Nat) ∧ List.length (List.take b_5
      (List.drop (0 : Nat) (Sx.sortedNames (W5.BSt.bl b)))) = List.length (List.take b_5 (List.drop (0 : Nat) (Sx.sortedNames (W5.BSt.bl b)))) ∧ ((↑(List.length (List.take b_5
      (List.drop (0 : Nat) (Sx.sortedNames (W5.BSt.bl b)))) + (1 : Nat)) : Int) ≤ (9223372036854775807 : Int) ∧ (List.length (List.take b_5 (List.drop (0 : Nat) (Sx.sortedNames
      (W5.BSt.bl b)))) + (1 : Nat)) * Sx.bytesOf Go.Proofs.Tryz.prog (9 : Nat) ≤ (140737488355328 : Nat)) ∧ (0 : Nat) + b_5 + (List.length (Sx.sortedNames (W5.BSt.bl b)) - b_5)
      ≤ List.length (Sx.sortedNames (W5.BSt.bl b)) ∧ List.length (List.take b_5 (List.drop (0 : Nat) (Sx.sortedNames (W5.BSt.bl b)))) + (1 : Nat) = List.length (List.take b_5
      (List.drop (0 : Nat) (Sx.sortedNames (W5.BSt.bl b))) ++ [List.getD names (W5.BSt.i b) (Ty.dflt Ty.str)]) ∧ Sx.br (decide (List.length (List.take (List.length
      (Sx.sortedNames (W5.BSt.bl b)) - b_5) (List.drop ((0 : Nat) + b_5) (Sx.sortedNames (W5.BSt.bl b)))) = (0 : Nat))) ((∃ (x : List ByteArray), ([SV.imm Ty.str names, SV.imm
      (Ty.int IntKind.i64) ns, SV.lit (Value.string ask), SV.ptr (0 : Nat) (0 : Nat), SV.mp (2 : Nat), SV.sl (3 : Nat) (1 : Nat) (0 : Nat) (List.length (List.take b_5 (List.drop
      (0 : Nat) (Sx.sortedNames (W5.BSt.bl b)))) + (1 : Nat)), SV.ptr (4 : Nat) (0 : Nat), SV.lit (Value.int IntKind.i64 (↑(W5.BSt.i b) : Int))], [SO.cells (40 : Nat) (W5.bcells
      (1 : Int) (SV.mp (1 : Nat))), W5.mapOf (W5.BSt.bl b), SO.imap (Sx.imapR Go.Proofs.Tryz.prog (9 : Go.TypeId)) (W5.BSt.lg b), SO.row (9 : Nat) Ty.str (List.take b_5
      (List.drop (0 : Nat) (Sx.sortedNames (W5.BSt.bl b))) ++ [List.getD names (W5.BSt.i b) (Ty.dflt Ty.str)]), SO.cells (52 : Nat) (W5.bk (SV.sl (5 : Nat) (1 : Nat) (0 : Nat)
      (List.length (W5.BSt.LL b))) (SV.sl (6 : Nat) (1 : Nat) (0 : Nat) (List.length (W5.BSt.LL b)))), SO.kept (22 : Nat) (9 : Nat) Ty.str (W5.BSt.LL b), SO.row (22 : Nat)
      (Ty.imm Ty.str) (W5.BSt.LL b)]) = ([SV.imm Ty.str names, SV.imm (Ty.int IntKind.i64) ns, SV.lit (Value.string ask), SV.ptr (0 : Nat) (0 : Nat), SV.mp (2 : Nat), SV.sl (3 :
      Nat) (1 : Nat) (0 : Nat) (List.length x), SV.ptr (4 : Nat) (0 : Nat), SV.lit (Value.int IntKind.i64 (↑(W5.BSt.i b) : Int))], [SO.cells (40 : Nat) (W5.bcells (1 : Int)
      (SV.mp (1 : Nat))), W5.mapOf (W5.BSt.bl b), SO.imap (Sx.imapR Go.Proofs.Tryz.prog (9 : Go.TypeId)) (W5.BSt.lg b), SO.row (9 : Nat) Ty.str x, SO.cells (52 : Nat) (W5.bk
      (SV.sl (5 : Nat) (1 : Nat) (0 : Nat) (List.length (W5.BSt.LL b))) (SV.sl (6 : Nat) (1 : Nat) (0 : Nat) (List.length (W5.BSt.LL b)))), SO.kept (22 : Nat) (9 : Nat) Ty.str
      (W5.BSt.LL b), SO.row (22 : Nat) (Ty.imm Ty.str) (W5.BSt.LL b)]) ∧ W5.OrdOf (Sx.sortedNames (W5.BSt.bl b)) (List.getD names (W5.BSt.i b) (Ty.dflt Ty.str)) (Sx.logHas
      (W5.BSt.lg b) (List.getD names (W5.BSt.i b) (Ty.dflt Ty.str))) x) ∧ True) (((↑(List.length (List.take b_5 (List.drop (0 : Nat) (Sx.sortedNames (W5.BSt.bl b)))) + (1 : Nat)
      + List.length (List.take (List.length (Sx.sortedNames (W5.BSt.bl b)) - b_5) (List.drop ((0 : Nat) + b_5) (Sx.sortedNames (W5.BSt.bl b))))) : Int) ≤ (9223372036854775807 :
      Int) ∧ (List.length (List.take b_5 (List.drop (0 : Nat) (Sx.sortedNames (W5.BSt.bl b)))) + (1 : Nat) + List.length (List.take (List.length (Sx.sortedNames (W5.BSt.bl b)) -
      b_5) (List.drop ((0 : Nat) + b_5) (Sx.sortedNames (W5.BSt.bl b))))) * Sx.bytesOf Go.Proofs.Tryz.prog (9 : Nat) ≤ (140737488355328 : Nat)) ∧ (∃ (x : List ByteArray),
      ([SV.imm Ty.str names, SV.imm (Ty.int IntKind.i64) ns, SV.lit (Value.string ask), SV.ptr (0 : Nat) (0 : Nat), SV.mp (2 : Nat), SV.sl (3 : Nat) (1 : Nat) (0 : Nat)
      (List.length (List.take b_5 (List.drop (0 : Nat) (Sx.sortedNames (W5.BSt.bl b)))) + (1 : Nat) + List.length (List.take (List.length (Sx.sortedNames (W5.BSt.bl b)) - b_5)
      (List.drop ((0 : Nat) + b_5) (Sx.sortedNames (W5.BSt.bl b))))), SV.ptr (4 : Nat) (0 : Nat), SV.lit (Value.int IntKind.i64 (↑(W5.BSt.i b) : Int))], [SO.cells (40 : Nat)
      (W5.bcells (1 : Int) (SV.mp (1 : Nat))), W5.mapOf (W5.BSt.bl b), SO.imap (Sx.imapR Go.Proofs.Tryz.prog (9 : Go.TypeId)) (W5.BSt.lg b), SO.row (9 : Nat) Ty.str (List.take
      b_5 (List.drop (0 : Nat) (Sx.sortedNames (W5.BSt.bl b))) ++ [List.getD names (W5.BSt.i b) (Ty.dflt Ty.str)] ++ List.take (List.length (Sx.sortedNames (W5.BSt.bl b)) - b_5)
      (List.drop ((0 : Nat) + b_5) (Sx.sortedNames (W5.BSt.bl b)))), SO.cells (52 : Nat) (W5.bk (SV.sl (5 : Nat) (1 : Nat) (0 : Nat) (List.length (W5.BSt.LL b))) (SV.sl (6 :
      Nat) (1 : Nat) (0 : Nat) (List.length (W5.BSt.LL b)))), SO.kept (22 : Nat) (9 : Nat) Ty.str (W5.BSt.LL b), SO.row (22 : Nat) (Ty.imm Ty.str) (W5.BSt.LL b)]) = ([SV.imm
      Ty.str names, SV.imm (Ty.int IntKind.i64) ns, SV.lit (Value.string ask), SV.ptr (0 : Nat) (0 : Nat), SV.mp (2 : Nat), SV.sl (3 : Nat) (1 : Nat) (0 : Nat) (List.length x),
      SV.ptr (4 : Nat) (0 : Nat), SV.lit (Value.int IntKind.i64 (↑(W5.BSt.i b) : Int))], [SO.cells (40 : Nat) (W5.bcells (1 : Int) (SV.mp (1 : Nat))), W5.mapOf (W5.BSt.bl b),
      SO.imap (Sx.imapR Go.Proofs.Tryz.prog (9 : Go.TypeId)) (W5.BSt.lg b), SO.row (9 : Nat) Ty.str x, SO.cells (52 : Nat) (W5.bk (SV.sl (5 : Nat) (1 : Nat) (0 : Nat)
      (List.length (W5.BSt.LL b))) (SV.sl (6 : Nat) (1 : Nat) (0 : Nat) (List.length (W5.BSt.LL b)))), SO.kept (22 : Nat) (9 : Nat) Ty.str (W5.BSt.LL b), SO.row (22 : Nat)
      (Ty.imm Ty.str) (W5.BSt.LL b)]) ∧ W5.OrdOf (Sx.sortedNames (W5.BSt.bl b)) (List.getD names (W5.BSt.i b) (Ty.dflt Ty.str)) (Sx.logHas (W5.BSt.lg b) (List.getD names
      (W5.BSt.i b) (Ty.dflt Ty.str))) x) ∧ True))) (True ∧ ((0 : Int) ≤ (↑b_5 : Int) ∧ (↑b_5 : Int) ≤ (↑(List.length (Sx.sortedNames (W5.BSt.bl b))) : Int)) ∧ (0 : Nat) + b_5 ≤
      List.length (Sx.sortedNames (W5.BSt.bl b)) ∧ ((↑((0 : Nat) + List.length (List.take b_5 (List.drop (0 : Nat) (Sx.sortedNames (W5.BSt.bl b))))) : Int) ≤
      (9223372036854775807 : Int) ∧ ((0 : Nat) + List.length (List.take b_5 (List.drop (0 : Nat) (Sx.sortedNames (W5.BSt.bl b))))) * Sx.bytesOf Go.Proofs.Tryz.prog (9 : Nat) ≤
      (140737488355328 : Nat)) ∧ (1 : Nat) ≤ (1 : Nat) ∧ List.length (List.take b_5 (List.drop (0 : Nat) (Sx.sortedNames (W5.BSt.bl b)))) = List.length (List.take b_5 (List.drop
      (0 : Nat) (Sx.sortedNames (W5.BSt.bl b)))) ∧ ((↑(List.length (List.take b_5 (List.drop (0 : Nat) (Sx.sortedNames (W5.BSt.bl b)))) + (1 : Nat)) : Int) ≤
      (9223372036854775807 : Int) ∧ (List.length (List.take b_5 (List.drop (0 : Nat) (Sx.sortedNames (W5.BSt.bl b)))) + (1 : Nat)) * Sx.bytesOf Go.Proofs.Tryz.prog (9 : Nat) ≤
      (140737488355328 : Nat)) ∧ (0 : Nat) + b_5 + (List.length (Sx.sortedNames (W5.BSt.bl b)) - b_5) ≤ List.length (Sx.sortedNames (W5.BSt.bl b)) ∧ List.length (List.take b_5
      (List.drop (0 : Nat) (Sx.sortedNames (W5.BSt.bl b)))) + (1 : Nat) = List.length (List.take b_5 (List.drop (0 : Nat) (Sx.sortedNames (W5.BSt.bl b))) ++ [List.getD names
      (W5.BSt.i b) (Ty.dflt Ty.str)]) ∧ Sx.br (decide (List.length (List.take (List.length (Sx.sortedNames (W5.BSt.bl b)) - b_5) (List.drop ((0 : Nat) + b_5) (Sx.sortedNames
      (W5.BSt.bl b)))) = (0 : Nat))) ((∃ (x : List ByteArray), ([SV.imm Ty.str names, SV.imm (Ty.int IntKind.i64) ns, SV.lit (Value.string ask), SV.ptr (0 : Nat) (0 : Nat),
      SV.mp (2 : Nat), SV.sl (3 : Nat) (1 : Nat) (0 : Nat) (List.length (List.take b_5 (List.drop (0 : Nat) (Sx.sortedNames (W5.BSt.bl b)))) + (1 : Nat)), SV.ptr (4 : Nat) (0 :
      Nat), SV.lit (Value.int IntKind.i64 (↑(W5.BSt.i b) : Int))], [SO.cells (40 : Nat) (W5.bcells (1 : Int) (SV.mp (1 : Nat))), W5.mapOf (W5.BSt.bl b), SO.imap (Sx.imapR
      Go.Proofs.Tryz.prog (9 : Go.TypeId)) (W5.BSt.lg b), SO.row (9 : Nat) Ty.str (List.take b_5 (List.drop (0 : Nat) (Sx.sortedNames (W5.BSt.bl b))) ++ [List.getD names
      (W5.BSt.i b) (Ty.dflt Ty.str)]), SO.cells (52 : Nat) (W5.bk (SV.sl (5 : Nat) (1 : Nat) (0 : Nat) (List.length (W5.BSt.LL b))) (SV.sl (6 : Nat) (1 : Nat) (0 : Nat)
      (List.length (W5.BSt.LL b)))), SO.kept (22 : Nat) (9 : Nat) Ty.str (W5.BSt.LL b), SO.row (22 : Nat) (Ty.imm Ty.str) (W5.BSt.LL b)]) = ([SV.imm Ty.str names, SV.imm (Ty.int
      IntKind.i64) ns, SV.lit (Value.string ask), SV.ptr (0 : Nat) (0 : Nat), SV.mp (2 : Nat), SV.sl (3 : Nat) (1 : Nat) (0 : Nat) (List.length x), SV.ptr (4 : Nat) (0 : Nat),
      SV.lit (Value.int IntKind.i64 (↑(W5.BSt.i b) : Int))], [SO.cells (40 : Nat) (W5.bcells (1 : Int) (SV.mp (1 : Nat))), W5.mapOf (W5.BSt.bl b), SO.imap (Sx.imapR
      Go.Proofs.Tryz.prog (9 : Go.TypeId)) (W5.BSt.lg b), SO.row (9 : Nat) Ty.str x, SO.cells (52 : Nat) (W5.bk (SV.sl (5 : Nat) (1 : Nat) (0 : Nat) (List.length (W5.BSt.LL b)))
      (SV.sl (6 : Nat) (1 : Nat) (0 : Nat) (List.length (W5.BSt.LL b)))), SO.kept (22 : Nat) (9 : Nat) Ty.str (W5.BSt.LL b), SO.row (22 : Nat) (Ty.imm Ty.str) (W5.BSt.LL b)]) ∧
      W5.OrdOf (Sx.sortedNames (W5.BSt.bl b)) (List.getD names (W5.BSt.i b) (Ty.dflt Ty.str)) (Sx.logHas (W5.BSt.lg b) (List.getD names (W5.BSt.i b) (Ty.dflt Ty.str))) x) ∧
      True) (((↑(List.length (List.take b_5 (List.drop (0 : Nat) (Sx.sortedNames (W5.BSt.bl b)))) + (1 : Nat) + List.length (List.take (List.length (Sx.sortedNames (W5.BSt.bl
      b)) - b_5) (List.drop ((0 : Nat) + b_5) (Sx.sortedNames (W5.BSt.bl b))))) : Int) ≤ (9223372036854775807 : Int) ∧ (List.length (List.take b_5 (List.drop (0 : Nat)
      (Sx.sortedNames (W5.BSt.bl b)))) + (1 : Nat) + List.length (List.take (List.length (Sx.sortedNames (W5.BSt.bl b)) - b_5) (List.drop ((0 : Nat) + b_5) (Sx.sortedNames
      (W5.BSt.bl b))))) * Sx.bytesOf Go.Proofs.Tryz.prog (9 : Nat) ≤ (140737488355328 : Nat)) ∧ (∃ (x : List ByteArray), ([SV.imm Ty.str names, SV.imm (Ty.int IntKind.i64) ns,
      SV.lit (Value.string ask), SV.ptr (0 : Nat) (0 : Nat), SV.mp (2 : Nat), SV.sl (3 : Nat) (1 : Nat) (0 : Nat) (List.length (List.take b_5 (List.drop (0 : Nat)
      (Sx.sortedNames (W5.BSt.bl b)))) + (1 : Nat) + List.length (List.take (List.length (Sx.sortedNames (W5.BSt.bl b)) - b_5) (List.drop ((0 : Nat) + b_5) (Sx.sortedNames
      (W5.BSt.bl b))))), SV.ptr (4 : Nat) (0 : Nat), SV.lit (Value.int IntKind.i64 (↑(W5.BSt.i b) : Int))], [SO.cells (40 : Nat) (W5.bcells (1 : Int) (SV.mp (1 : Nat))),
      W5.mapOf (W5.BSt.bl b), SO.imap (Sx.imapR Go.Proofs.Tryz.prog (9 : Go.TypeId)) (W5.BSt.lg b), SO.row (9 : Nat) Ty.str (List.take b_5 (List.drop (0 : Nat) (Sx.sortedNames
      (W5.BSt.bl b))) ++ [List.getD names (W5.BSt.i b) (Ty.dflt Ty.str)] ++ List.take (List.length (Sx.sortedNames (W5.BSt.bl b)) - b_5) (List.drop ((0 : Nat) + b_5)
      (Sx.sortedNames (W5.BSt.bl b)))), SO.cells (52 : Nat) (W5.bk (SV.sl (5 : Nat) (1 : Nat) (0 : Nat) (List.length (W5.BSt.LL b))) (SV.sl (6 : Nat) (1 : Nat) (0 : Nat)
      (List.length (W5.BSt.LL b)))), SO.kept (22 : Nat) (9 : Nat) Ty.str (W5.BSt.LL b), SO.row (22 : Nat) (Ty.imm Ty.str) (W5.BSt.LL b)]) = ([SV.imm Ty.str names, SV.imm (Ty.int
      IntKind.i64) ns, SV.lit (Value.string ask), SV.ptr (0 : Nat) (0 : Nat), SV.mp (2 : Nat), SV.sl (3 : Nat) (1 : Nat) (0 : Nat) (List.length x), SV.ptr (4 : Nat) (0 : Nat),
      SV.lit (Value.int IntKind.i64 (↑(W5.BSt.i b) : Int))], [SO.cells (40 : Nat) (W5.bcells (1 : Int) (SV.mp (1 : Nat))), W5.mapOf (W5.BSt.bl b), SO.imap (Sx.imapR
      Go.Proofs.Tryz.prog (9 : Go.TypeId)) (W5.BSt.lg b), SO.row (9 : Nat) Ty.str x, SO.cells (52 : Nat) (W5.bk (SV.sl (5 : Nat) (1 : Nat) (0 : Nat) (List.length (W5.BSt.LL b)))
      (SV.sl (6 : Nat) (1 : Nat) (0 : Nat) (List.length (W5.BSt.LL b)))), SO.kept (22 : Nat) (9 : Nat) Ty.str (W5.BSt.LL b), SO.row (22 : Nat) (Ty.imm Ty.str) (W5.BSt.LL b)]) ∧
      W5.OrdOf (Sx.sortedNames (W5.BSt.bl b)) (List.getD names (W5.BSt.i b) (Ty.dflt Ty.str)) (Sx.logHas (W5.BSt.lg b) (List.getD names (W5.BSt.i b) (Ty.dflt Ty.str))) x) ∧
      True))) (True ∧ ((0 : Int) ≤ (↑b_5 : Int) ∧ (↑b_5 : Int) ≤ (↑(List.length (Sx.sortedNames (W5.BSt.bl b))) : Int)) ∧ ∀ (b_8 : Bool), True → Sx.br b_8 ((0 : Nat) + b_5 ≤
      List.length (Sx.sortedNames (W5.BSt.bl b)) ∧ ((↑((0 : Nat) + List.length (List.take b_5 (List.drop (0 : Nat) (Sx.sortedNames (W5.BSt.bl b))))) : Int) ≤
      (9223372036854775807 : Int) ∧ ((0 : Nat) + List.length (List.take b_5 (List.drop (0 : Nat) (Sx.sortedNames (W5.BSt.bl b))))) * Sx.bytesOf Go.Proofs.Tryz.prog (9 : Nat) ≤
      (140737488355328 : Nat)) ∧ (1 : Nat) ≤ (1 : Nat) ∧ List.length (List.take b_5 (List.drop (0 : Nat) (Sx.sortedNames (W5.BSt.bl b)))) = List.length (List.take b_5 (List.drop
      (0 : Nat) (Sx.sortedNames (W5.BSt.bl b)))) ∧ ((↑(List.length (List.take b_5 (List.drop (0 : Nat) (Sx.sortedNames (W5.BSt.bl b)))) + (1 : Nat)) : Int) ≤
      (9223372036854775807 : Int) ∧ (List.length (List.take b_5 (List.drop (0 : Nat) (Sx.sortedNames (W5.BSt.bl b)))) + (1 : Nat)) * Sx.bytesOf Go.Proofs.Tryz.prog (9 : Nat) ≤
      (140737488355328 : Nat)) ∧ (0 : Nat) + b_5 + (List.length (Sx.sortedNames (W5.BSt.bl b)) - b_5) ≤ List.length (Sx.sortedNames (W5.BSt.bl b)) ∧ List.length (List.take b_5
      (List.drop (0 : Nat) (Sx.sortedNames (W5.BSt.bl b)))) + (1 : Nat) = List.length (List.take b_5 (List.drop (0 : Nat) (Sx.sortedNames (W5.BSt.bl b))) ++ [List.getD names
      (W5.BSt.i b) (Ty.dflt Ty.str)]) ∧ Sx.br (decide (List.length (List.take (List.length (Sx.sortedNames (W5.BSt.bl b)) - b_5) (List.drop ((0 : Nat) + b_5) (Sx.sortedNames
      (W5.BSt.bl b)))) = (0 : Nat))) ((∃ (x : List ByteArray), ([SV.imm Ty.str names, SV.imm (Ty.int IntKind.i64) ns, SV.lit (Value.string ask), SV.ptr (0 : Nat) (0 : Nat),
      SV.mp (2 : Nat), SV.sl (3 : Nat) (1 : Nat) (0 : Nat) (List.length (List.take b_5 (List.drop (0 : Nat) (Sx.sortedNames (W5.BSt.bl b)))) + (1 : Nat)), SV.ptr (4 : Nat) (0 :
      Nat), SV.lit (Value.int IntKind.i64 (↑(W5.BSt.i b) : Int))], [SO.cells (40 : Nat) (W5.bcells (1 : Int) (SV.mp (1 : Nat))), W5.mapOf (W5.BSt.bl b), SO.imap (Sx.imapR
      Go.Proofs.Tryz.prog (9 : Go.TypeId)) (W5.BSt.lg b), SO.row (9 : Nat) Ty.str (List.take b_5 (List.drop (0 : Nat) (Sx.sortedNames (W5.BSt.bl b))) ++ [List.getD names
      (W5.BSt.i b) (Ty.dflt Ty.str)]), SO.cells (52 : Nat) (W5.bk (SV.sl (5 : Nat) (1 : Nat) (0 : Nat) (List.length (W5.BSt.LL b))) (SV.sl (6 : Nat) (1 : Nat) (0 : Nat)
      (List.length (W5.BSt.LL b)))), SO.kept (22 : Nat) (9 : Nat) Ty.str (W5.BSt.LL b), SO.row (22 : Nat) (Ty.imm Ty.str) (W5.BSt.LL b)]) = ([SV.imm Ty.str names, SV.imm (Ty.int
      IntKind.i64) ns, SV.lit (Value.string ask), SV.ptr (0 : Nat) (0 : Nat), SV.mp (2 : Nat), SV.sl (3 : Nat) (1 : Nat) (0 : Nat) (List.length x), SV.ptr (4 : Nat) (0 : Nat),
      SV.lit (Value.int IntKind.i64 (↑(W5.BSt.i b) : Int))], [SO.cells (40 : Nat) (W5.bcells (1 : Int) (SV.mp (1 : Nat))), W5.mapOf (W5.BSt.bl b), SO.imap (Sx.imapR
      Go.Proofs.Tryz.prog (9 : Go.TypeId)) (W5.BSt.lg b), SO.row (9 : Nat) Ty.str x, SO.cells (52 : Nat) (W5.bk (SV.sl (5 : Nat) (1 : Nat) (0 : Nat) (List.length (W5.BSt.LL b)))
      (SV.sl (6 : Nat) (1 : Nat) (0 : Nat) (List.length (W5.BSt.LL b)))), SO.kept (22 : Nat) (9 : Nat) Ty.str (W5.BSt.LL b), SO.row (22 : Nat) (Ty.imm Ty.str) (W5.BSt.LL b)]) ∧
      W5.OrdOf (Sx.sortedNames (W5.BSt.bl b)) (List.getD names (W5.BSt.i b) (Ty.dflt Ty.str)) (Sx.logHas (W5.BSt.lg b) (List.getD names (W5.BSt.i b) (Ty.dflt Ty.str))) x) ∧
      True) (((↑(List.length (List.take b_5 (List.drop (0 : Nat) (Sx.sortedNames (W5.BSt.bl b)))) + (1 : Nat) + List.length (List.take (List.length (Sx.sortedNames (W5.BSt.bl
      b)) - b_5) (List.drop ((0 : Nat) + b_5) (Sx.sortedNames (W5.BSt.bl b))))) : Int) ≤ (9223372036854775807 : Int) ∧ (List.length (List.take b_5 (List.drop (0 : Nat)
      (Sx.sortedNames (W5.BSt.bl b)))) + (1 : Nat) + List.length (List.take (List.length (Sx.sortedNames (W5.BSt.bl b)) - b_5) (List.drop ((0 : Nat) + b_5) (Sx.sortedNames
      (W5.BSt.bl b))))) * Sx.bytesOf Go.Proofs.Tryz.prog (9 : Nat) ≤ (140737488355328 : Nat)) ∧ (∃ (x : List ByteArray), ([SV.imm Ty.str names, SV.imm (Ty.int IntKind.i64) ns,
      SV.lit (Value.string ask), SV.ptr (0 : Nat) (0 : Nat), SV.mp (2 : Nat), SV.sl (3 : Nat) (1 : Nat) (0 : Nat) (List.length (List.take b_5 (List.drop (0 : Nat)
      (Sx.sortedNames (W5.BSt.bl b)))) + (1 : Nat) + List.length (List.take (List.length (Sx.sortedNames (W5.BSt.bl b)) - b_5) (List.drop ((0 : Nat) + b_5) (Sx.sortedNames
      (W5.BSt.bl b))))), SV.ptr (4 : Nat) (0 : Nat), SV.lit (Value.int IntKind.i64 (↑(W5.BSt.i b) : Int))], [SO.cells (40 : Nat) (W5.bcells (1 : Int) (SV.mp (1 : Nat))),
      W5.mapOf (W5.BSt.bl b), SO.imap (Sx.imapR Go.Proofs.Tryz.prog (9 : Go.TypeId)) (W5.BSt.lg b), SO.row (9 : Nat) Ty.str (List.take b_5 (List.drop (0 : Nat) (Sx.sortedNames
      (W5.BSt.bl b))) ++ [List.getD names (W5.BSt.i b) (Ty.dflt Ty.str)] ++ List.take (List.length (Sx.sortedNames (W5.BSt.bl b)) - b_5) (List.drop ((0 : Nat) + b_5)
      (Sx.sortedNames (W5.BSt.bl b)))), SO.cells (52 : Nat) (W5.bk (SV.sl (5 : Nat) (1 : Nat) (0 : Nat) (List.length (W5.BSt.LL b))) (SV.sl (6 : Nat) (1 : Nat) (0 : Nat)
      (List.length (W5.BSt.LL b)))), SO.kept (22 : Nat) (9 : Nat) Ty.str (W5.BSt.LL b), SO.row (22 : Nat) (Ty.imm Ty.str) (W5.BSt.LL b)]) = ([SV.imm Ty.str names, SV.imm (Ty.int
      IntKind.i64) ns, SV.lit (Value.string ask), SV.ptr (0 : Nat) (0 : Nat), SV.mp (2 : Nat), SV.sl (3 : Nat) (1 : Nat) (0 : Nat) (List.length x), SV.ptr (4 : Nat) (0 : Nat),
      SV.lit (Value.int IntKind.i64 (↑(W5.BSt.i b) : Int))], [SO.cells (40 : Nat) (W5.bcells (1 : Int) (SV.mp (1 : Nat))), W5.mapOf (W5.BSt.bl b), SO.imap (Sx.imapR
      Go.Proofs.Tryz.prog (9 : Go.TypeId)) (W5.BSt.lg b), SO.row (9 : Nat) Ty.str x, SO.cells (52 : Nat) (W5.bk (SV.sl (5 : Nat) (1 : Nat) (0 : Nat) (List.length (W5.BSt.LL b)))
      (SV.sl (6 : Nat) (1 : Nat) (0 : Nat) (List.length (W5.BSt.LL b)))), SO.kept (22 : Nat) (9 : Nat) Ty.str (W5.BSt.LL b), SO.row (22 : Nat) (Ty.imm Ty.str) (W5.BSt.LL b)]) ∧
      W5.OrdOf (Sx.sortedNames (W5.BSt.bl b)) (List.getD names (W5.BSt.i b) (Ty.dflt Ty.str)) (Sx.logHas (W5.BSt.lg b) (List.getD names (W5.BSt.i b) (Ty.dflt Ty.str))) x) ∧
      True)) ((0 : Nat) + b_5 ≤ List.length (Sx.sortedNames (W5.BSt.bl b)) ∧ ((↑((0 : Nat) + List.length (List.take b_5 (List.drop (0 : Nat) (Sx.sortedNames (W5.BSt.bl b))))) :
      Int) ≤ (9223372036854775807 : Int) ∧ ((0 : Nat) + List.length (List.take b_5 (List.drop (0 : Nat) (Sx.sortedNames (W5.BSt.bl b))))) * Sx.bytesOf Go.Proofs.Tryz.prog (9 :
      Nat) ≤ (140737488355328 : Nat)) ∧ (1 : Nat) ≤ (1 : Nat) ∧ List.length (List.take b_5 (List.drop (0 : Nat) (Sx.sortedNames (W5.BSt.bl b)))) = List.length (List.take b_5
      (List.drop (0 : Nat) (Sx.sortedNames (W5.BSt.bl b)))) ∧ ((↑(List.length (List.take b_5 (List.drop (0 : Nat) (Sx.sortedNames (W5.BSt.bl b)))) + (1 : Nat)) : Int) ≤
      (9223372036854775807 : Int) ∧ (List.length (List.take b_5 (List.drop (0 : Nat) (Sx.sortedNames (W5.BSt.bl b)))) + (1 : Nat)) * Sx.bytesOf Go.Proofs.Tryz.prog (9 : Nat) ≤
      (140737488355328 : Nat)) ∧ (0 : Nat) + b_5 + (List.length (Sx.sortedNames (W5.BSt.bl b)) - b_5) ≤ List.length (Sx.sortedNames (W5.BSt.bl b)) ∧ List.length (List.take b_5
      (List.drop (0 : Nat) (Sx.sortedNames (W5.BSt.bl b)))) + (1 : Nat) = List.length (List.take b_5 (List.drop (0 : Nat) (Sx.sortedNames (W5.BSt.bl b))) ++ [List.getD names
      (W5.BSt.i b) (Ty.dflt Ty.str)]) ∧ Sx.br (decide (List.length (List.take (List.length (Sx.sortedNames (W5.BSt.bl b)) - b_5) (List.drop ((0 : Nat) + b_5) (Sx.sortedNames
      (W5.BSt.bl b)))) = (0 : Nat))) ((∃ (x : List ByteArray), ([SV.imm Ty.str names, SV.imm (Ty.int IntKind.i64) ns, SV.lit (Value.string ask), SV.ptr (0 : Nat) (0 : Nat),
      SV.mp (2 : Nat), SV.sl (3 : Nat) (1 : Nat) (0 : Nat) (List.length (List.take b_5 (List.drop (0 : Nat) (Sx.sortedNames (W5.BSt.bl b)))) + (1 : Nat)), SV.ptr (4 : Nat) (0 :
      Nat), SV.lit (Value.int IntKind.i64 (↑(W5.BSt.i b) : Int))], [SO.cells (40 : Nat) (W5.bcells (1 : Int) (SV.mp (1 : Nat))), W5.mapOf (W5.BSt.bl b), SO.imap (Sx.imapR
      Go.Proofs.Tryz.prog (9 : Go.TypeId)) (W5.BSt.lg b), SO.row (9 : Nat) Ty.str (List.take b_5 (List.drop (0 : Nat) (Sx.sortedNames (W5.BSt.bl b))) ++ [List.getD names
      (W5.BSt.i b) (Ty.dflt Ty.str)]), SO.cells (52 : Nat) (W5.bk (SV.sl (5 : Nat) (1 : Nat) (0 : Nat) (List.length (W5.BSt.LL b))) (SV.sl (6 : Nat) (1 : Nat) (0 : Nat)
      (List.length (W5.BSt.LL b)))), SO.kept (22 : Nat) (9 : Nat) Ty.str (W5.BSt.LL b), SO.row (22 : Nat) (Ty.imm Ty.str) (W5.BSt.LL b)]) = ([SV.imm Ty.str names, SV.imm (Ty.int
      IntKind.i64) ns, SV.lit (Value.string ask), SV.ptr (0 : Nat) (0 : Nat), SV.mp (2 : Nat), SV.sl (3 : Nat) (1 : Nat) (0 : Nat) (List.length x), SV.ptr (4 : Nat) (0 : Nat),
      SV.lit (Value.int IntKind.i64 (↑(W5.BSt.i b) : Int))], [SO.cells (40 : Nat) (W5.bcells (1 : Int) (SV.mp (1 : Nat))), W5.mapOf (W5.BSt.bl b), SO.imap (Sx.imapR
      Go.Proofs.Tryz.prog (9 : Go.TypeId)) (W5.BSt.lg b), SO.row (9 : Nat) Ty.str x, SO.cells (52 : Nat) (W5.bk (SV.sl (5 : Nat) (1 : Nat) (0 : Nat) (List.length (W5.BSt.LL b)))
      (SV.sl (6 : Nat) (1 : Nat) (0 : Nat) (List.length (W5.BSt.LL b)))), SO.kept (22 : Nat) (9 : Nat) Ty.str (W5.BSt.LL b), SO.row (22 : Nat) (Ty.imm Ty.str) (W5.BSt.LL b)]) ∧
      W5.OrdOf (Sx.sortedNames (W5.BSt.bl b)) (List.getD names (W5.BSt.i b) (Ty.dflt Ty.str)) (Sx.logHas (W5.BSt.lg b) (List.getD names (W5.BSt.i b) (Ty.dflt Ty.str))) x) ∧
      True) (((↑(List.length (List.take b_5 (List.drop (0 : Nat) (Sx.sortedNames (W5.BSt.bl b)))) + (1 : Nat) + List.length (List.take (List.length (Sx.sortedNames (W5.BSt.bl
      b)) - b_5) (List.drop ((0 : Nat) + b_5) (Sx.sortedNames (W5.BSt.bl b))))) : Int) ≤ (9223372036854775807 : Int) ∧ (List.length (List.take b_5 (List.drop (0 : Nat)
      (Sx.sortedNames (W5.BSt.bl b)))) + (1 : Nat) + List.length (List.take (List.length (Sx.sortedNames (W5.BSt.bl b)) - b_5) (List.drop ((0 : Nat) + b_5) (Sx.sortedNames
      (W5.BSt.bl b))))) * Sx.bytesOf Go.Proofs.Tryz.prog (9 : Nat) ≤ (140737488355328 : Nat)) ∧ (∃ (x : List ByteArray), ([SV.imm Ty.str names, SV.imm (Ty.int IntKind.i64) ns,
      SV.lit (Value.string ask), SV.ptr (0 : Nat) (0 : Nat), SV.mp (2 : Nat), SV.sl (3 : Nat) (1 : Nat) (0 : Nat) (List.length (List.take b_5 (List.drop (0 : Nat)
      (Sx.sortedNames (W5.BSt.bl b)))) + (1 : Nat) + List.length (List.take (List.length (Sx.sortedNames (W5.BSt.bl b)) - b_5) (List.drop ((0 : Nat) + b_5) (Sx.sortedNames
      (W5.BSt.bl b))))), SV.ptr (4 : Nat) (0 : Nat), SV.lit (Value.int IntKind.i64 (↑(W5.BSt.i b) : Int))], [SO.cells (40 : Nat) (W5.bcells (1 : Int) (SV.mp (1 : Nat))),
      W5.mapOf (W5.BSt.bl b), SO.imap (Sx.imapR Go.Proofs.Tryz.prog (9 : Go.TypeId)) (W5.BSt.lg b), SO.row (9 : Nat) Ty.str (List.take b_5 (List.drop (0 : Nat) (Sx.sortedNames
      (W5.BSt.bl b))) ++ [List.getD names (W5.BSt.i b) (Ty.dflt Ty.str)] ++ List.take (List.length (Sx.sortedNames (W5.BSt.bl b)) - b_5) (List.drop ((0 : Nat) + b_5)
      (Sx.sortedNames (W5.BSt.bl b)))), SO.cells (52 : Nat) (W5.bk (SV.sl (5 : Nat) (1 : Nat) (0 : Nat) (List.length (W5.BSt.LL b))) (SV.sl (6 : Nat) (1 : Nat) (0 : Nat)
      (List.length (W5.BSt.LL b)))), SO.kept (22 : Nat) (9 : Nat) Ty.str (W5.BSt.LL b), SO.row (22 : Nat) (Ty.imm Ty.str) (W5.BSt.LL b)]) = ([SV.imm Ty.str names, SV.imm (Ty.int
      IntKind.i64) ns, SV.lit (Value.string ask), SV.ptr (0 : Nat) (0 : Nat), SV.mp (2 : Nat), SV.sl (3 : Nat) (1 : Nat) (0 : Nat) (List.length x), SV.ptr (4 : Nat) (0 : Nat),
      SV.lit (Value.int IntKind.i64 (↑(W5.BSt.i b) : Int))], [SO.cells (40 : Nat) (W5.bcells (1 : Int) (SV.mp (1 : Nat))), W5.mapOf (W5.BSt.bl b), SO.imap (Sx.imapR
      Go.Proofs.Tryz.prog (9 : Go.TypeId)) (W5.BSt.lg b), SO.row (9 : Nat) Ty.str x, SO.cells (52 : Nat) (W5.bk (SV.sl (5 : Nat) (1 : Nat) (0 : Nat) (List.length (W5.BSt.LL b)))
      (SV.sl (6 : Nat) (1 : Nat) (0 : Nat) (List.length (W5.BSt.LL b)))), SO.kept (22 : Nat) (9 : Nat) Ty.str (W5.BSt.LL b), SO.row (22 : Nat) (Ty.imm Ty.str) (W5.BSt.LL b)]) ∧
      W5.OrdOf (Sx.sortedNames (W5.BSt.bl b)) (List.getD names (W5.BSt.i b) (Ty.dflt Ty.str)) (Sx.logHas (W5.BSt.lg b) (List.getD names (W5.BSt.i b) (Ty.dflt Ty.str))) x) ∧
      True)))))) ((∃ (x : List ByteArray), ([SV.imm Ty.str names, SV.imm (Ty.int IntKind.i64) ns, SV.lit (Value.string ask), SV.ptr (0 : Nat) (0 : Nat), SV.mp (2 : Nat), SV.sl
      (3 : Nat) (1 : Nat) (0 : Nat) (List.length (Sx.sortedNames (W5.BSt.bl b))), SV.ptr (4 : Nat) (0 : Nat), SV.lit (Value.int IntKind.i64 (↑(W5.BSt.i b) : Int))], [SO.cells
      (40 : Nat) (W5.bcells (1 : Int) (SV.mp (1 : Nat))), W5.mapOf (W5.BSt.bl b), SO.imap (Sx.imapR Go.Proofs.Tryz.prog (9 : Go.TypeId)) (W5.BSt.lg b), SO.row (9 : Nat) Ty.str
      (Sx.sortedNames (W5.BSt.bl b)), SO.cells (52 : Nat) (W5.bk (SV.sl (5 : Nat) (1 : Nat) (0 : Nat) (List.length (W5.BSt.LL b))) (SV.sl (6 : Nat) (1 : Nat) (0 : Nat)
      (List.length (W5.BSt.LL b)))), SO.kept (22 : Nat) (9 : Nat) Ty.str (W5.BSt.LL b), SO.row (22 : Nat) (Ty.imm Ty.str) (W5.BSt.LL b)]) = ([SV.imm Ty.str names, SV.imm (Ty.int
      IntKind.i64) ns, SV.lit (Value.string ask), SV.ptr (0 : Nat) (0 : Nat), SV.mp (2 : Nat), SV.sl (3 : Nat) (1 : Nat) (0 : Nat) (List.length x), SV.ptr (4 : Nat) (0 : Nat),
      SV.lit (Value.int IntKind.i64 (↑(W5.BSt.i b) : Int))], [SO.cells (40 : Nat) (W5.bcells (1 : Int) (SV.mp (1 : Nat))), W5.mapOf (W5.BSt.bl b), SO.imap (Sx.imapR
      Go.Proofs.Tryz.prog (9 : Go.TypeId)) (W5.BSt.lg b), SO.row (9 : Nat) Ty.str x, SO.cells (52 : Nat) (W5.bk (SV.sl (5 : Nat) (1 : Nat) (0 : Nat) (List.length (W5.BSt.LL b)))
      (SV.sl (6 : Nat) (1 : Nat) (0 : Nat) (List.length (W5.BSt.LL b)))), SO.kept (22 : Nat) (9 : Nat) Ty.str (W5.BSt.LL b), SO.row (22 : Nat) (Ty.imm Ty.str) (W5.BSt.LL b)]) ∧
      W5.OrdOf (Sx.sortedNames (W5.BSt.bl b)) (List.getD names (W5.BSt.i b) (Ty.dflt Ty.str)) (Sx.logHas (W5.BSt.lg b) (List.getD names (W5.BSt.i b) (Ty.dflt Ty.str))) x) ∧
      True)) (∀ (b_5 : List ByteArray), W5.OrdOf (Sx.sortedNames (W5.BSt.bl b)) (List.getD names (W5.BSt.i b) (Ty.dflt Ty.str)) (Sx.logHas (W5.BSt.lg b) (List.getD names
      (W5.BSt.i b) (Ty.dflt Ty.str))) b_5 → ((0 : Int) ≤ (↑(W5.BSt.i b) : Int) ∧ (↑(W5.BSt.i b) : Int) < (↑(List.length names) : Int)) ∧ W5.BSt.i b < List.length names ∧ ((0 :
      Int) ≤ (↑(W5.BSt.i b) : Int) ∧ (↑(W5.BSt.i b) : Int) < (↑(List.length ns) : Int)) ∧ W5.BSt.i b < List.length ns ∧ (Sx.imapR Go.Proofs.Tryz.prog (9 : Go.TypeId) = Sx.imapR
      Go.Proofs.Tryz.prog (9 : Nat) ∧ ByteArray.size (List.getD names (W5.BSt.i b) (Ty.dflt Ty.str)) ≤ Go.maxLen) ∧ (Sx.imapR Go.Proofs.Tryz.prog (9 : Go.TypeId) = Sx.imapR
      Go.Proofs.Tryz.prog (9 : Nat) ∧ ByteArray.size (List.getD names (W5.BSt.i b) (Ty.dflt Ty.str)) ≤ Go.maxLen ∧ List.length (W5.BSt.lg b) < Go.maxLen) ∧ (W5.bcells (1 : Int)
      (SV.mp (1 : Nat)) = W5.bcells (1 : Int) (SV.mp (1 : Nat)) ∧ Sx.mapR Go.Proofs.Tryz.prog (9 : Go.TypeId) = Sx.mapR Go.Proofs.Tryz.prog (9 : Go.TypeId) ∧ List.length
      (W5.BSt.bl b) ≤ (1000000 : Nat)) ∧ ((0 : Int) ≤ (↑(W5.BSt.i b) : Int) ∧ (↑(W5.BSt.i b) : Int) < (↑(List.length names) : Int)) ∧ W5.BSt.i b < List.length names ∧ ((0 : Int)
      ≤ (↑(W5.BSt.i b) : Int) ∧ (↑(W5.BSt.i b) : Int) < (↑(List.length ns) : Int)) ∧ W5.BSt.i b < List.length ns ∧ ((0 : Int) ≤ (↑(W5.BSt.i b) : Int) ∧ (↑(W5.BSt.i b) : Int) <
      (↑(List.length names) : Int)) ∧ W5.BSt.i b < List.length names ∧ (Sx.imapR Go.Proofs.Tryz.prog (9 : Go.TypeId) = Sx.imapR Go.Proofs.Tryz.prog (9 : Nat) ∧ ByteArray.size
      (List.getD names (W5.BSt.i b) (Ty.dflt Ty.str)) ≤ Go.maxLen) ∧ ∀ (b_6 : Bool), True → Sx.br b_6 ((W5.bcells (1 : Int) (SV.mp (1 : Nat)) = W5.bcells (1 : Int) (SV.mp (1 :
      Nat)) ∧ Sx.mapR Go.Proofs.Tryz.prog (9 : Go.TypeId) = Sx.mapR Go.Proofs.Tryz.prog (9 : Go.TypeId) ∧ ByteArray.size (List.getD names (W5.BSt.i b) (Ty.dflt Ty.str)) ≤
      (281474976710656 : Nat) ∧ List.length (W5.BSt.bl b) ≤ (1000000 : Nat)) ∧ (Sx.imapR Go.Proofs.Tryz.prog (9 : Go.TypeId) = Sx.imapR Go.Proofs.Tryz.prog (9 : Nat) ∧
      ByteArray.size (List.getD names (W5.BSt.i b) (Ty.dflt Ty.str)) ≤ Go.maxLen) ∧ SV.lit (Value.int IntKind.i64 (Sx.logAt (W5.BSt.lg b ++ [(List.getD names (W5.BSt.i b)
      (Ty.dflt Ty.str), IntKind.wrap IntKind.i64 (Sx.logAt (W5.BSt.lg b) (List.getD names (W5.BSt.i b) (Ty.dflt Ty.str)) + List.getD ns (W5.BSt.i b) (Ty.dflt (Ty.int
      IntKind.i64))))]) (List.getD names (W5.BSt.i b) (Ty.dflt Ty.str)))) = SV.lit (Value.int IntKind.i64 (Sx.logAt (W5.BSt.lg b ++ [(List.getD names (W5.BSt.i b) (Ty.dflt
      Ty.str), IntKind.wrap IntKind.i64 (Sx.logAt (W5.BSt.lg b) (List.getD names (W5.BSt.i b) (Ty.dflt Ty.str)) + List.getD ns (W5.BSt.i b) (Ty.dflt (Ty.int IntKind.i64))))])
      (List.getD names (W5.BSt.i b) (Ty.dflt Ty.str)))) ∧ True) ((W5.bcells (1 : Int) (SV.mp (1 : Nat)) = W5.bcells (1 : Int) (SV.mp (1 : Nat)) ∧ Sx.mapR Go.Proofs.Tryz.prog (9
      : Go.TypeId) = Sx.mapR Go.Proofs.Tryz.prog (9 : Go.TypeId) ∧ ByteArray.size (List.getD names (W5.BSt.i b) (Ty.dflt Ty.str)) ≤ (281474976710656 : Nat) ∧ List.length
      (W5.BSt.bl b) ≤ (1000000 : Nat)) ∧ Sx.br (IntKind.wrap IntKind.i64 (W5.numAt (W5.BSt.bl b) (List.getD names (W5.BSt.i b) (Ty.dflt Ty.str)) + List.getD ns (W5.BSt.i b)
      (Ty.dflt (Ty.int IntKind.i64))) != Sx.logAt (W5.BSt.lg b ++ [(List.getD names (W5.BSt.i b) (Ty.dflt Ty.str), IntKind.wrap IntKind.i64 (Sx.logAt (W5.BSt.lg b) (List.getD
      names (W5.BSt.i b) (Ty.dflt Ty.str)) + List.getD ns (W5.BSt.i b) (Ty.dflt (Ty.int IntKind.i64))))]) (List.getD names (W5.BSt.i b) (Ty.dflt Ty.str))) (Q (SV.lit (Value.bool
      false), ([] : List Sx.SO), [(0 : Nat), (1 : Nat), (2 : Nat), (3 : Nat), (4 : Nat), (5 : Nat), (6 : Nat)])) (((0 : Int) ≤ (↑(W5.BSt.i b) : Int) ∧ (↑(W5.BSt.i b) : Int) <
      (↑(List.length names) : Int)) ∧ W5.BSt.i b < List.length names ∧ ((0 : Int) ≤ (↑(W5.BSt.i b) : Int) ∧ (↑(W5.BSt.i b) : Int) < (↑(List.length names) : Int)) ∧ W5.BSt.i b <
      List.length names ∧ (Sx.imapR Go.Proofs.Tryz.prog (9 : Go.TypeId) = Sx.imapR Go.Proofs.Tryz.prog (9 : Nat) ∧ ByteArray.size (List.getD names (W5.BSt.i b) (Ty.dflt Ty.str))
      ≤ Go.maxLen) ∧ ∀ (b_7 : Bool), True → Sx.br b_7 ((W5.bcells (1 : Int) (SV.mp (1 : Nat)) = W5.bcells (1 : Int) (SV.mp (1 : Nat)) ∧ Sx.mapR Go.Proofs.Tryz.prog (9 :
      Go.TypeId) = Sx.mapR Go.Proofs.Tryz.prog (9 : Go.TypeId) ∧ ByteArray.size (List.getD names (W5.BSt.i b) (Ty.dflt Ty.str)) ≤ Go.maxLen) ∧ (Sx.imapR Go.Proofs.Tryz.prog (9 :
      Go.TypeId) = Sx.imapR Go.Proofs.Tryz.prog (9 : Nat) ∧ ByteArray.size (List.getD names (W5.BSt.i b) (Ty.dflt Ty.str)) ≤ Go.maxLen) ∧ SV.lit (Value.int IntKind.i64 (Sx.logAt
      (W5.BSt.lg b ++ [(List.getD names (W5.BSt.i b) (Ty.dflt Ty.str), IntKind.wrap IntKind.i64 (Sx.logAt (W5.BSt.lg b) (List.getD names (W5.BSt.i b) (Ty.dflt Ty.str)) +
      List.getD ns (W5.BSt.i b) (Ty.dflt (Ty.int IntKind.i64))))]) (List.getD names (W5.BSt.i b) (Ty.dflt Ty.str)))) = SV.lit (Value.int IntKind.i64 (Sx.logAt (W5.BSt.lg b ++
      [(List.getD names (W5.BSt.i b) (Ty.dflt Ty.str), IntKind.wrap IntKind.i64 (Sx.logAt (W5.BSt.lg b) (List.getD names (W5.BSt.i b) (Ty.dflt Ty.str)) + List.getD ns (W5.BSt.i
      b) (Ty.dflt (Ty.int IntKind.i64))))]) (List.getD names (W5.BSt.i b) (Ty.dflt Ty.str)))) ∧ True) ((W5.bcells (1 : Int) (SV.mp (1 : Nat)) = W5.bcells (1 : Int) (SV.mp (1 :
      Nat)) ∧ Sx.mapR Go.Proofs.Tryz.prog (9 : Go.TypeId) = Sx.mapR Go.Proofs.Tryz.prog (9 : Go.TypeId) ∧ ByteArray.size (List.getD names (W5.BSt.i b) (Ty.dflt Ty.str)) ≤
      Go.maxLen) ∧ Sx.br (W5.numAt (W5.addAt (W5.BSt.bl b) (List.getD names (W5.BSt.i b) (Ty.dflt Ty.str)) (List.getD ns (W5.BSt.i b) (Ty.dflt (Ty.int IntKind.i64)))) (List.getD
      names (W5.BSt.i b) (Ty.dflt Ty.str)) != Sx.logAt (W5.BSt.lg b ++ [(List.getD names (W5.BSt.i b) (Ty.dflt Ty.str), IntKind.wrap IntKind.i64 (Sx.logAt (W5.BSt.lg b)
      (List.getD names (W5.BSt.i b) (Ty.dflt Ty.str)) + List.getD ns (W5.BSt.i b) (Ty.dflt (Ty.int IntKind.i64))))]) (List.getD names (W5.BSt.i b) (Ty.dflt Ty.str))) (Q (SV.lit
      (Value.bool false), ([] : List Sx.SO), [(0 : Nat), (1 : Nat), (2 : Nat), (3 : Nat), (4 : Nat), (5 : Nat), (6 : Nat)])) ((Sx.imapR Go.Proofs.Tryz.prog (9 : Go.TypeId) =
      Sx.imapR Go.Proofs.Tryz.prog (9 : Nat) ∧ ByteArray.size ask ≤ Go.maxLen) ∧ ∀ (b_8 : Bool), True → Sx.br b_8 ((W5.bcells (1 : Int) (SV.mp (1 : Nat)) = W5.bcells (1 : Int)
      (SV.mp (1 : Nat)) ∧ Sx.mapR Go.Proofs.Tryz.prog (9 : Go.TypeId) = Sx.mapR Go.Proofs.Tryz.prog (9 : Go.TypeId) ∧ ByteArray.size ask ≤ Go.maxLen) ∧ (Sx.imapR
      Go.Proofs.Tryz.prog (9 : Go.TypeId) = Sx.imapR Go.Proofs.Tryz.prog (9 : Nat) ∧ ByteArray.size ask ≤ Go.maxLen) ∧ SV.lit (Value.int IntKind.i64 (Sx.logAt (W5.BSt.lg b ++
      [(List.getD names (W5.BSt.i b) (Ty.dflt Ty.str), IntKind.wrap IntKind.i64 (Sx.logAt (W5.BSt.lg b) (List.getD names (W5.BSt.i b) (Ty.dflt Ty.str)) + List.getD ns (W5.BSt.i
      b) (Ty.dflt (Ty.int IntKind.i64))))]) ask)) = SV.lit (Value.int IntKind.i64 (Sx.logAt (W5.BSt.lg b ++ [(List.getD names (W5.BSt.i b) (Ty.dflt Ty.str), IntKind.wrap
      IntKind.i64 (Sx.logAt (W5.BSt.lg b) (List.getD names (W5.BSt.i b) (Ty.dflt Ty.str)) + List.getD ns (W5.BSt.i b) (Ty.dflt (Ty.int IntKind.i64))))]) ask)) ∧ True)
      ((W5.bcells (1 : Int) (SV.mp (1 : Nat)) = W5.bcells (1 : Int) (SV.mp (1 : Nat)) ∧ Sx.mapR Go.Proofs.Tryz.prog (9 : Go.TypeId) = Sx.mapR Go.Proofs.Tryz.prog (9 : Go.TypeId)
      ∧ ByteArray.size ask ≤ Go.maxLen) ∧ Sx.br (W5.numAt (W5.addAt (W5.BSt.bl b) (List.getD names (W5.BSt.i b) (Ty.dflt Ty.str)) (List.getD ns (W5.BSt.i b) (Ty.dflt (Ty.int
      IntKind.i64)))) ask != Sx.logAt (W5.BSt.lg b ++ [(List.getD names (W5.BSt.i b) (Ty.dflt Ty.str), IntKind.wrap IntKind.i64 (Sx.logAt (W5.BSt.lg b) (List.getD names
      (W5.BSt.i b) (Ty.dflt Ty.str)) + List.getD ns (W5.BSt.i b) (Ty.dflt (Ty.int IntKind.i64))))]) ask) (Q (SV.lit (Value.bool false), ([] : List Sx.SO), [(0 : Nat), (1 : Nat),
      (2 : Nat), (3 : Nat), (4 : Nat), (5 : Nat), (6 : Nat)])) (Sx.br (decide ((↑(List.length (W5.BSt.bl b)) : Int) > (↑(List.length b_5) : Int))) (Q (SV.lit (Value.bool false),
      ([] : List Sx.SO), [(0 : Nat), (1 : Nat), (2 : Nat), (3 : Nat), (4 : Nat), (5 : Nat), (6 : Nat)])) ((W5.bcells (1 : Int) (SV.mp (1 : Nat)) = W5.bcells (1 : Int) (SV.mp (1
      : Nat)) ∧ Sx.mapR Go.Proofs.Tryz.prog (9 : Go.TypeId) = Sx.mapR Go.Proofs.Tryz.prog (9 : Go.TypeId) ∧ List.length (W5.addAt (W5.BSt.bl b) (List.getD names (W5.BSt.i b)
      (Ty.dflt Ty.str)) (List.getD ns (W5.BSt.i b) (Ty.dflt (Ty.int IntKind.i64)))) ≤ (1000000 : Nat)) ∧ ((List.length (W5.addAt (W5.BSt.bl b) (List.getD names (W5.BSt.i b)
      (Ty.dflt Ty.str)) (List.getD ns (W5.BSt.i b) (Ty.dflt (Ty.int IntKind.i64)))) ≤ List.length (Sx.sortedNames (W5.addAt (W5.BSt.bl b) (List.getD names (W5.BSt.i b) (Ty.dflt
      Ty.str)) (List.getD ns (W5.BSt.i b) (Ty.dflt (Ty.int IntKind.i64))))) ∧ List.length (Sx.sortedNames (W5.addAt (W5.BSt.bl b) (List.getD names (W5.BSt.i b) (Ty.dflt Ty.str))
      (List.getD ns (W5.BSt.i b) (Ty.dflt (Ty.int IntKind.i64))))) ≤ (1000000 : Nat)) ∧ List.length (W5.BSt.LL b) ≤ (100 : Nat) ∧ List.length (W5.BSt.LL b) ≤ (100 : Nat) ∧ W5.bk
      (SV.sl (2 : Nat) (1 : Nat) (0 : Nat) (List.length (W5.BSt.LL b))) (SV.sl (3 : Nat) (1 : Nat) (0 : Nat) (List.length (W5.BSt.LL b))) = W5.bk (SV.sl (2 : Nat) (1 : Nat) (0 :
      Nat) (List.length (W5.BSt.LL b))) (SV.sl (3 : Nat) (1 : Nat) (0 : Nat) (List.length (W5.BSt.LL b)))) ∧ ((0 : Nat) + List.length (W5.addAt (W5.BSt.bl b) (List.getD names
      (W5.BSt.i b) (Ty.dflt Ty.str)) (List.getD ns (W5.BSt.i b) (Ty.dflt (Ty.int IntKind.i64)))) ≤ List.length (Sx.sortedNames (W5.addAt (W5.BSt.bl b) (List.getD names (W5.BSt.i
      b) (Ty.dflt Ty.str)) (List.getD ns (W5.BSt.i b) (Ty.dflt (Ty.int IntKind.i64))))) ∧ (0 : Nat) + List.length b_5 ≤ List.length b_5 ∧ List.length (W5.addAt (W5.BSt.bl b)
      (List.getD names (W5.BSt.i b) (Ty.dflt Ty.str)) (List.getD ns (W5.BSt.i b) (Ty.dflt (Ty.int IntKind.i64)))) ≤ (1000000 : Nat)) ∧ Sx.br (!decide (List.take (List.length
      (W5.addAt (W5.BSt.bl b) (List.getD names (W5.BSt.i b) (Ty.dflt Ty.str)) (List.getD ns (W5.BSt.i b) (Ty.dflt (Ty.int IntKind.i64))))) (List.drop (0 : Nat) (Sx.sortedNames
      (W5.addAt (W5.BSt.bl b) (List.getD names (W5.BSt.i b) (Ty.dflt Ty.str)) (List.getD ns (W5.BSt.i b) (Ty.dflt (Ty.int IntKind.i64)))))) = List.take (List.length b_5)
      (List.drop (0 : Nat) b_5))) (Q (SV.lit (Value.bool false), ([] : List Sx.SO), [(0 : Nat), (1 : Nat), (2 : Nat), (3 : Nat), (4 : Nat), (5 : Nat), (6 : Nat)])) ((∃ (x' :
      W5.BSt), ([SV.imm Ty.str names, SV.imm (Ty.int IntKind.i64) ns, SV.lit (Value.string ask), SV.ptr (0 : Nat) (0 : Nat), SV.mp (2 : Nat), SV.sl (3 : Nat) (1 : Nat) (0 : Nat)
      (List.length b_5), SV.ptr (4 : Nat) (0 : Nat), SV.lit (Value.int IntKind.i64 (IntKind.wrap IntKind.i64 ((↑(W5.BSt.i b) : Int) + (1 : Int))))], [SO.cells (40 : Nat)
      (W5.bcells (1 : Int) (SV.mp (1 : Nat))), W5.mapOf (W5.addAt (W5.BSt.bl b) (List.getD names (W5.BSt.i b) (Ty.dflt Ty.str)) (List.getD ns (W5.BSt.i b) (Ty.dflt (Ty.int
      IntKind.i64)))), SO.imap (Sx.imapR Go.Proofs.Tryz.prog (9 : Go.TypeId)) (W5.BSt.lg b ++ [(List.getD names (W5.BSt.i b) (Ty.dflt Ty.str), IntKind.wrap IntKind.i64 (Sx.logAt
      (W5.BSt.lg b) (List.getD names (W5.BSt.i b) (Ty.dflt Ty.str)) + List.getD ns (W5.BSt.i b) (Ty.dflt (Ty.int IntKind.i64))))]), SO.row (9 : Nat) Ty.str b_5, SO.cells (52 :
      Nat) (W5.bk (SV.sl (5 : Nat) (1 : Nat) (0 : Nat) (List.length (W5.BSt.LL b) + (1 : Nat))) (SV.sl (6 : Nat) (1 : Nat) (0 : Nat) (List.length (W5.BSt.LL b) + (1 : Nat)))),
      SO.kept (22 : Nat) (9 : Nat) Ty.str (W5.BSt.LL b ++ [List.take (List.length (W5.addAt (W5.BSt.bl b) (List.getD names (W5.BSt.i b) (Ty.dflt Ty.str)) (List.getD ns (W5.BSt.i
      b) (Ty.dflt (Ty.int IntKind.i64))))) (Sx.sortedNames (W5.addAt (W5.BSt.bl b) (List.getD names (W5.BSt.i b) (Ty.dflt Ty.str)) (List.getD ns (W5.BSt.i b) (Ty.dflt (Ty.int
      IntKind.i64)))))]), SO.row (22 : Nat) (Ty.imm Ty.str) (W5.BSt.LL b ++ [List.take (List.length (W5.addAt (W5.BSt.bl b) (List.getD names (W5.BSt.i b) (Ty.dflt Ty.str))
      (List.getD ns (W5.BSt.i b) (Ty.dflt (Ty.int IntKind.i64))))) (Sx.sortedNames (W5.addAt (W5.BSt.bl b) (List.getD names (W5.BSt.i b) (Ty.dflt Ty.str)) (List.getD ns
      (W5.BSt.i b) (Ty.dflt (Ty.int IntKind.i64)))))])]) = ([SV.imm Ty.str names, SV.imm (Ty.int IntKind.i64) ns, SV.lit (Value.string ask), SV.ptr (0 : Nat) (0 : Nat), SV.mp (2
      : Nat), SV.sl (3 : Nat) (1 : Nat) (0 : Nat) (List.length (Sx.sortedNames (W5.BSt.bl x'))), SV.ptr (4 : Nat) (0 : Nat), SV.lit (Value.int IntKind.i64 (↑(W5.BSt.i x') :
      Int))], [SO.cells (40 : Nat) (W5.bcells (1 : Int) (SV.mp (1 : Nat))), W5.mapOf (W5.BSt.bl x'), SO.imap (Sx.imapR Go.Proofs.Tryz.prog (9 : Go.TypeId)) (W5.BSt.lg x'),
      SO.row (9 : Nat) Ty.str (Sx.sortedNames (W5.BSt.bl x')), SO.cells (52 : Nat) (W5.bk (SV.sl (5 : Nat) (1 : Nat) (0 : Nat) (List.length (W5.BSt.LL x'))) (SV.sl (6 : Nat) (1
      : Nat) (0 : Nat) (List.length (W5.BSt.LL x')))), SO.kept (22 : Nat) (9 : Nat) Ty.str (W5.BSt.LL x'), SO.row (22 : Nat) (Ty.imm Ty.str) (W5.BSt.LL x')]) ∧ W5.BOk
      (List.length names) x' ∧ List.length names - W5.BSt.i x' < List.length names - W5.BSt.i b) ∧ True))))))))))) ((∃ (x : List (List ByteArray)), ([SV.ptr (0 : Nat) (0 :
      Nat)], [SO.cells (52 : Nat) (W5.bk (SV.sl (1 : Nat) (1 : Nat) (0 : Nat) (List.length (W5.BSt.LL b))) (SV.sl (2 : Nat) (1 : Nat) (0 : Nat) (List.length (W5.BSt.LL b)))),
      SO.kept (22 : Nat) (9 : Nat) Ty.str (W5.BSt.LL b), SO.row (22 : Nat) (Ty.imm Ty.str) (W5.BSt.LL b)]) = ([SV.ptr (0 : Nat) (0 : Nat)], [SO.cells (52 : Nat) (W5.bk (SV.sl (1
      : Nat) (1 : Nat) (0 : Nat) (List.length x)) (SV.sl (2 : Nat) (1 : Nat) (0 : Nat) (List.length x))), SO.kept (22 : Nat) (9 : Nat) Ty.str x, SO.row (22 : Nat) (Ty.imm
      Ty.str) x]) ∧ W5.FewSmall x) ∧ True))))))))))) ((∃ (x : List (List ByteArray)), ([SV.ptr (0 : Nat) (0 : Nat)], [SO.cells (52 : Nat) (W5.bk (SV.sl (1 : Nat) (1 : Nat) (0 :
      Nat) (0 : Nat)) (SV.sl (2 : Nat) (1 : Nat) (0 : Nat) (0 : Nat))), SO.kept (22 : Nat) (9 : Nat) Ty.str [], SO.row (22 : Nat) (Ty.imm Ty.str) []]) = ([SV.ptr (0 : Nat) (0 :
      Nat)], [SO.cells (52 : Nat) (W5.bk (SV.sl (1 : Nat) (1 : Nat) (0 : Nat) (List.length x)) (SV.sl (2 : Nat) (1 : Nat) (0 : Nat) (List.length x))), SO.kept (22 : Nat) (9 :
      Nat) Ty.str x, SO.row (22 : Nat) (Ty.imm Ty.str) x]) ∧ W5.FewSmall x) ∧ True)) (∀ (b : List (List ByteArray)), W5.FewSmall b → ((List.length b ≤ (1000 : Nat) ∧ (∀ (l :
      List (Ty.den Ty.str)), l ∈ b → List.length l ≤ (900000 : Nat)) ∧ b = b) ∧ W5.bk (SV.sl (1 : Nat) (1 : Nat) (0 : Nat) (List.length b)) (SV.sl (2 : Nat) (1 : Nat) (0 : Nat)
      (List.length b)) = W5.bk (SV.sl (1 : Nat) (1 : Nat) (0 : Nat) (List.length b)) (SV.sl (2 : Nat) (1 : Nat) (0 : Nat) (List.length b))) ∧ Q (SV.lit (Value.bool true), ([] :
      List Sx.SO), [(0 : Nat), (1 : Nat), (2 : Nat)]))))) (by kernel_rfl) ?_
  have hb : bytesOf Tryz.prog 9 = 16 := by kernel_rfl
  have hmx : maxLen = 9223372036854775807 := rfl
  refine br_intro (fun _ => hq _) (fun h0 => br_intro (fun _ => hq _) (fun h1 => fun bb _ => br_intro (fun _ => br_intro (fun hlt0 => ?_) (fun _ => ⟨⟨[], rfl, ⟨by simp, fun l hl => by cases hl⟩⟩, trivial⟩)) (fun _ => fun LL hLL => ⟨⟨⟨by have := hLL.few; omega, hLL.small, rfl⟩, rfl⟩, hq _⟩)))
  have h0 := of_decide_eq_false h0
  have h1 := of_decide_eq_false h1
  have hlt0 := of_decide_eq_true hlt0
  refine ⟨⟨by omega, by omega⟩, by omega, br_intro (fun _ => hq _) (fun hsz => ?_)⟩
  have hsz := of_decide_eq_false hsz
  generalize hn0 : names.getD 0 Ty.str.dflt = n0 at *
  generalize hw0 : ns.getD 0 (Ty.int IntKind.i64).dflt = w0 at *
  have hS0 := same_snoc (bl := []) (lg := []) (fun _ => rfl) n0 w0
  refine ⟨⟨by omega, by omega⟩, by omega, ⟨rfl, by omega⟩, fun b2 _ => br_intro (fun _ => ⟨⟨0, rfl, ⟨by simp, fun j hj => by omega⟩⟩, fun k hk => ?_⟩) (fun _ => fun Y hY => ?_)⟩
  · have hk0 : k = 0 := by have := hk.le; simpa using this
    subst hk0
    have hB := ord_new hk (.inl rfl)
    have hA := ord_new0 hk (.inl rfl) rfl
    have lk : (List.take 0 ([] : List ByteArray)).length = 0 := rfl
    have ld : (List.take (0 - 0) (List.drop (0 + 0) ([] : List ByteArray))).length = 0 := rfl
    repeat' (first
      | exact trivial
      | rfl
      | omega
      | (simp only [lk, ld, hb, List.length_append, List.length_cons, List.length_nil] <;> omega)
      | exact ⟨_, by rw [List.length_append, List.length_append]; rfl, hB⟩
      | exact ⟨_, by rw [List.length_append]; rfl, hA⟩
      | (refine br_intro (fun _ => ?_) (fun _ => ?_))
      | (intro _ _)
      | apply And.intro)
  · have hY1 : Y = [n0] := by simpa [newOrd, logHas, insAt, placeOf] using hY.eq
    subst hY1
    refine ⟨⟨by omega, by omega⟩, by omega, ⟨by omega, by omega⟩, by omega, ⟨rfl, by omega⟩, ⟨rfl, by omega, by omega⟩, rfl, ⟨by omega, by omega⟩, by omega, ⟨by omega, by omega⟩, by omega, ⟨by omega, by omega⟩, by omega, ⟨rfl, by omega⟩, fun _ _ => br_intro (fun _ => ⟨⟨rfl, rfl, by omega, by omega⟩, ⟨rfl, by omega⟩, rfl, trivial⟩) (fun _ => ⟨⟨rfl, rfl, by omega, by omega⟩, bne_no ?_ ⟨⟨by omega, by omega⟩, by omega, ⟨by omega, by omega⟩, by omega, ⟨rfl, by omega⟩, fun _ _ => br_intro (fun _ => ⟨⟨rfl, rfl, by omega⟩, ⟨rfl, by omega⟩, rfl, trivial⟩) (fun _ => ⟨⟨rfl, rfl, by omega⟩, bne_no ?_ ⟨⟨rfl, hask⟩, fun _ _ => br_intro (fun _ => ⟨⟨rfl, rfl, hask⟩, ⟨rfl, hask⟩, rfl, trivial⟩) (fun _ => ⟨⟨rfl, rfl, hask⟩, bne_no ?_ ⟨⟨rfl, rfl, by omega⟩, ⟨⟨by omega, by omega⟩, rfl⟩, ⟨by omega, by simp, by omega⟩, br_no ?_ ⟨⟨⟨1, [(n0, IntKind.i64.wrap w0)], [(n0, IntKind.i64.wrap (logAt [] n0 + w0))], [[n0]]⟩, ?_, ?_⟩, fun x hx => ?_⟩⟩⟩)⟩⟩)⟩⟩)⟩
    · exact ((hS0 n0).trans (by rw [numAt_addAt, if_pos rfl])).symm
    · exact (hS0 n0).symm
    · exact (hS0 ask).symm
    · rw [eta_bytes]; simp
    · have w01 : IntKind.i64.wrap ((0 : Int) + 1) = ((1 : Nat) : Int) := by decide
      rw [w01]; simp [sorted_one]
    · exact bok_next (bok_zero names.length) (by show 0 < names.length; omega) n0 w0 (by omega) (l := [n0]) (by simp)
    · refine br_intro (fun hlt => ?_) (fun _ => ⟨⟨x.LL, rfl, ⟨by have := hx.kept; have := hx.i; omega, hx.small⟩⟩, trivial⟩)
      have hlt := of_decide_eq_true hlt
      have hlog := hx.log
      have hkept := hx.kept
      have hfew := hx.few
      have hxi := hx.i
      refine ⟨⟨by omega, by omega⟩, by omega, br_intro (fun _ => hq _) (fun hsz2 => ?_)⟩
      have hsz2 := of_decide_eq_false hsz2
      generalize hs : names.getD x.i Ty.str.dflt = s at *
      generalize hw : ns.getD x.i (Ty.int IntKind.i64).dflt = w at *
      have hS := same_snoc hx.same s w
      have hsl := sorted_length x.bl
      refine ⟨⟨by omega, by omega⟩, by omega, ⟨rfl, by omega⟩, fun _ _ => br_intro (fun _ => br_intro (fun hnew => ?_) (fun hold => ⟨⟨_, rfl, ?_⟩, trivial⟩)) (fun _ => fun Y hY => ?_)⟩
      · have hnew : logHas x.lg s = false := by simpa using hnew
        rw [hnew]
        refine ⟨⟨0, rfl, ⟨Nat.zero_le _, fun j hj => absurd hj (by omega)⟩⟩, fun k hk => br_intro (fun hlt3 => ?_) (fun hge3 => ?_)⟩
        · have hlt3 := of_decide_eq_true hlt3
          refine ⟨⟨by omega, by omega⟩, by omega, ⟨by omega, by omega⟩, by omega, br_intro (fun hless => ⟨⟨k + 1, by rw [wrapN k (by omega)], ⟨by omega, fun j hj => ?_⟩, by omega⟩, trivial⟩) (fun hge => ?_)⟩
          · by_cases e : j < k
            · exact hk.all j e
            · obtain rfl : j = k := by omega
              rw [Nat.zero_add] at hless; exact hless
          · rw [Nat.zero_add] at hge
            have hB := ord_new hk (.inr hge)
            have hA := ord_new0 hk (.inr hge)
            have lk : (List.take k (sortedNames x.bl)).length = k := by rw [List.length_take]; omega
            have ld : (List.take ((sortedNames x.bl).length - k) (List.drop (0 + k) (sortedNames x.bl))).length = (sortedNames x.bl).length - k := by rw [List.length_take, List.length_drop]; omega
            simp only [List.drop_zero]
            repeat' (first
              | exact trivial
              | rfl
              | omega
              | (simp only [lk, ld, hb, List.length_append, List.length_cons, List.length_nil] <;> omega)
              | exact ⟨_, by rw [List.length_append, List.length_append]; rfl, hB⟩
              | exact ⟨_, by rw [List.length_append]; rfl, hA (of_decide_eq_true (by assumption))⟩
              | (refine br_intro (fun _ => ?_) (fun _ => ?_))
              | (intro _ _)
              | apply And.intro)
        · have hge3 := of_decide_eq_false hge3
          have hkl : k = (sortedNames x.bl).length := by have := hk.le; omega
          have hB := ord_new hk (.inl hkl)
          have hA := ord_new0 hk (.inl hkl)
          have lk : (List.take k (sortedNames x.bl)).length = k := by rw [List.length_take]; omega
          have ld : (List.take ((sortedNames x.bl).length - k) (List.drop (0 + k) (sortedNames x.bl))).length = (sortedNames x.bl).length - k := by rw [List.length_take, List.length_drop]; omega
          simp only [List.drop_zero]
          repeat' (first
            | exact trivial
            | rfl
            | omega
            | (simp only [lk, ld, hb, List.length_append, List.length_cons, List.length_nil] <;> omega)
            | exact ⟨_, by rw [List.length_append, List.length_append]; rfl, hB⟩
            | exact ⟨_, by rw [List.length_append]; rfl, hA (of_decide_eq_true (by assumption))⟩
            | (refine br_intro (fun _ => ?_) (fun _ => ?_))
            | (intro _ _)
            | apply And.intro)
      · have hold : logHas x.lg s = true := by simpa using hold
        rw [hold]; exact ord_old
      · have hYs : Y = sortedNames (addAt x.bl s w) := by rw [hY.eq, sorted_addAt, hx.has s]
        subst hYs
        have hsl2 := sorted_length (addAt x.bl s w)
        have hal := length_addAt x.bl s w
        have hag := addAt_ge x.bl s w
        have tk : List.take (addAt x.bl s w).length (sortedNames (addAt x.bl s w)) = sortedNames (addAt x.bl s w) := List.take_of_length_le (by omega)
        refine ⟨⟨by omega, by omega⟩, by omega, ⟨by omega, by omega⟩, by omega, ⟨rfl, by omega⟩, ⟨rfl, by omega, by omega⟩, ⟨⟨rfl, rfl, by omega⟩, ⟨by omega, by omega⟩, by omega, ⟨by omega, by omega⟩, by omega, ⟨by omega, by omega⟩, by omega, ⟨rfl, by omega⟩, fun _ _ => br_intro (fun _ => ⟨⟨rfl, rfl, by omega, by omega⟩, ⟨rfl, by omega⟩, rfl, trivial⟩) (fun _ => ⟨⟨rfl, rfl, by omega, by omega⟩, bne_no ?_ ⟨⟨by omega, by omega⟩, by omega, ⟨by omega, by omega⟩, by omega, ⟨rfl, by omega⟩, fun _ _ => br_intro (fun _ => ⟨⟨rfl, rfl, by omega⟩, ⟨rfl, by omega⟩, rfl, trivial⟩) (fun _ => ⟨⟨rfl, rfl, by omega⟩, bne_no ?_ ⟨⟨rfl, hask⟩, fun _ _ => br_intro (fun _ => ⟨⟨rfl, rfl, hask⟩, ⟨rfl, hask⟩, rfl, trivial⟩) (fun _ => ⟨⟨rfl, rfl, hask⟩, bne_no ?_ (br_intro (fun g => absurd (of_decide_eq_true g) (by omega)) (fun _ => ⟨⟨rfl, rfl, by omega⟩, ⟨⟨by omega, by omega⟩, by omega, by omega, rfl⟩, ⟨by omega, by omega, by omega⟩, br_no ?_ ⟨⟨⟨x.i + 1, addAt x.bl s w, x.lg ++ [(s, IntKind.i64.wrap (logAt x.lg s + w))], x.LL ++ [sortedNames (addAt x.bl s w)]⟩, ?_, ?_, ?_⟩, trivial⟩⟩))⟩)⟩⟩)⟩⟩)⟩⟩
        · exact ((hS s).trans (by rw [numAt_addAt, if_pos rfl])).symm
        · exact (hS s).symm
        · exact (hS ask).symm
        · rw [List.drop_zero, tk, List.take_length]; simp
        · rw [wrapN x.i (by omega), tk]; simp
        · exact bok_next hx (by omega) s w (by omega) (by omega)
        · show names.length - (x.i + 1) < names.length - x.i; omega
end W5
