/- Part of a proof: the walk of the functions that the law calls. -/
import Derived.Test.YtbfiikegaljagaaSxT
import Derived.Test.YtbfiikegaljagaaXT24h
import Derived.Test.YtbfiikegaljagaaXB24
set_option linter.unusedVariables false
open Go Sx Go.Proofs
namespace T24
set_option maxRecDepth 100000
set_option maxHeartbeats 8000000
attribute [local irreducible] Tree.Leads
noncomputable def UL : Table := ((U7.add 14 (.go B24.s20)).add 15 (.go B24.s13k)).add 16 (.bye (byeS B24.s24))
theorem UL_ok : TableOK Try.prog UL true := add_ok (e := .bye (byeS B24.s24)) (TableOK.up (add_ok (e := .go B24.s13k) (add_ok (e := .go B24.s20) U7_ok B24.s20_ok) B24.s13k_ok)) ⟨rfl, B24.s24_bye⟩
@[reducible] def oty : Ty := .pair (.int .i64) (.pair (.int .i64) (.imm pty))
structure NSt where
  i : Nat
  m : Nat
  sent : Nat
  R : List pty.den
  Hv : List pty.den
  LL : List (List Int)
structure NOk (n : Nat) (x : NSt) : Prop where
  i : x.i ≤ n
  row : RowOf x.m x.Hv x.R
  sent : x.sent ≤ 100 * x.i
  few : x.LL.length ≤ x.i
  small : ∀ l ∈ x.LL, l.length ≤ 900000
/-- The law's blocks and values, for the printed texts. -/
noncomputable def hpq (m : Nat) (s : Int) (R Hv : List pty.den) (n1 n2 : Nat) (LL WW : List (List Int)) (tl : Heap) : Heap := .cells 34 [.sl 1 3 0 m, .lit (.int .i64 s)] :: .row 37 (.pair (.int .i64) (.pair (.int .i64) .str)) R :: .row 37 (.pair (.int .i64) (.pair (.int .i64) .str)) Hv :: .cells 54 (B24.bk (.sl 4 1 0 n1) (.sl 5 1 0 n2)) :: .kept 57 3 (.int .i64) LL :: .row 57 (.imm (.int .i64)) WW :: tl
noncomputable def vq (L : List oty.den) (to : Int) (c : Nat) (s i : Int) (tl : List SV) : List SV := .imm (.pair (.int .i64) (.pair (.int .i64) (.imm (.pair (.int .i64) (.pair (.int .i64) .str))))) L :: .lit (.int .i64 to) :: .ptr 0 0 :: .sl 2 3 0 c :: .lit (.int .i64 s) :: .ptr 3 0 :: .lit (.int .i64 i) :: tl
noncomputable def heapOf (x : NSt) : Heap := [.cells 34 [.sl 1 3 0 x.m, .lit (.int .i64 x.sent)], .row 37 (.pair (.int .i64) (.pair (.int .i64) .str)) x.R, .row 37 (.pair (.int .i64) (.pair (.int .i64) .str)) x.Hv, .cells 54 (B24.bk (.sl 4 1 0 x.LL.length) (.sl 5 1 0 x.LL.length)), .kept 57 3 (.int .i64) x.LL, .row 57 (.imm (.int .i64)) x.LL]
noncomputable def P0 : Ann := { live := [0, 1, 5, 6, 7, 8, 9], mv := [], nilS := [(6, 37, pty)], nilH := [(34, 0, 37, pty), (54, 2, 4000057, .int .i64), (54, 3, 57, .imm (.int .i64))], head := fun vals _ => match vals with | [.imm (.pair (.int .i64) (.pair (.int .i64) (.imm (.pair (.int .i64) (.pair (.int .i64) .str))))) L, to, n, _, _, k, _] => { X := NSt, inv := fun x => ([.imm oty L, to, n, .sl 2 3 0 x.Hv.length, .lit (.int .i64 x.sent), k, .lit (.int .i64 x.i)], heapOf x), ok := NOk L.length, mu := fun x => L.length - x.i } | _ => { X := Nat, inv := fun _ => ([], []), ok := fun _ => False, mu := fun _ => 0 } }
noncomputable def P51 : Ann := { live := [0, 1, 5, 6, 7, 8, 9, 12], mv := [], nilS := [(6, 37, pty)], head := fun vals H => match vals, H with | [l, to, n, _, _, k, .lit (.int .i64 i), _], [_, _, _, _, .kept 57 3 (.int .i64) LL, _] => { X := NSt, inv := fun x => ([l, to, n, .sl 2 3 0 x.Hv.length, .lit (.int .i64 x.sent), k, .lit (.int .i64 i), .lit (.bool true)], heapOf x), ok := fun x => (x.i = i ∧ x.LL = LL) ∧ RowOf x.m x.Hv x.R ∧ (x.sent : Int) ≤ 100 * (i + 1), mu := fun _ => 0 } | _, _ => { X := Nat, inv := fun _ => ([], []), ok := fun _ => False, mu := fun _ => 0 } }
noncomputable def P3 : Ann := { live := [0, 1, 5, 6, 7, 8, 9, 10, 13, 14], mv := [], nilS := [(6, 37, pty)], head := fun vals H => match vals, H with | [l, to, n, .sl _ _ _ _, s, kp, i, op, m, _], [c, r, .row _ (.pair (.int .i64) (.pair (.int .i64) .str)) Hv, b, k1, k2, .cells 56 [kd, kk, .imm (.pair (.int .i64) (.pair (.int .i64) .str)) oL], mr] => { X := Nat, inv := fun k => ([l, to, n, .sl 2 3 0 (sends Hv (oL.take k)).length, s, kp, i, op, m, .lit (.int .i64 k)], [c, r, .row 37 pty (sends Hv (oL.take k)), b, k1, k2, .cells 56 [kd, kk, .imm pty oL], mr]), ok := fun k => k ≤ oL.length, mu := fun k => oL.length - k } | _, _ => { X := Nat, inv := fun _ => ([], []), ok := fun _ => False, mu := fun _ => 0 } }
noncomputable def P5 : Ann := { live := [0, 1, 5, 6, 7, 8, 9, 10, 12, 13, 15], mv := [], head := fun vals H => match vals, H with | [l, to, n, h, s, kp, i, op, ok, m, _], [c, r, hv, b, k1, k2, .cells 56 [kd, kk, .imm (.pair (.int .i64) (.pair (.int .i64) .str)) oL], mr] => { X := Nat, inv := fun k => ([l, to, n, h, s, kp, i, op, ok, m, .lit (.int .i64 k)], [c, r, hv, b, k1, k2, .cells 56 [kd, kk, .imm pty oL], mr]), ok := fun k => k ≤ oL.length, mu := fun k => oL.length - k } | _, _ => { X := Nat, inv := fun _ => ([], []), ok := fun _ => False, mu := fun _ => 0 } }
noncomputable def P8 : Ann := { live := [0, 1, 5, 6, 7, 8, 9, 12, 22, 23], mv := [], nilS := [(22, 3, .int .i64)], head := fun vals H => match vals, H with | [l, .lit (.int .i64 to), n, h, s, kp, i, ok, _, _], [c, r, .row _ (.pair (.int .i64) (.pair (.int .i64) .str)) Hv, b, k1, k2, _] => { X := Nat, inv := fun k => ([l, .lit (.int .i64 to), n, h, s, kp, i, ok, .sl 6 1 0 (places to Hv k).length, .lit (.int .i64 k)], [c, r, .row 37 pty Hv, b, k1, k2, .row 3 (.int .i64) (places to Hv k)]), ok := fun k => k ≤ Hv.length, mu := fun k => Hv.length - k } | _, _ => { X := Nat, inv := fun _ => ([], []), ok := fun _ => False, mu := fun _ => 0 } }
/-- A place where ways meet: the values and blocks that are there, by what is met. -/
def joinOf (live : List Nat) {X : Type} (f : List SV → Heap → Option ((X → List SV × Heap) × (X → Prop))) : Ann := { live := live, mv := [], head := fun vals H => match f vals H with | some (i, o) => { X := X, inv := i, ok := o, mu := fun _ => 0 } | none => { X := X, inv := fun _ => ([], []), ok := fun _ => False, mu := fun _ => 0 } }
def markP : pty.den := ((0 : Int), (0 : Int), (⟨#[109, 97, 114, 107]⟩ : ByteArray))
abbrev inB (k : Int) (n : Nat) : Bool := decide (0 ≤ k ∧ k < (n : Int))
noncomputable def P14 : Ann := joinOf [0, 1, 5, 6, 7, 8, 9, 10, 11] (X := Unit) fun vals H => match vals, H with | [l, to, n, .sl h w o c, s, kp, i, op, _], [h0, h1, h2, h3, h4, h5, .cells 56 [kd, .lit (.int .i64 kk), oL]] => some (fun _ => ([l, to, n, .sl h w o c, s, kp, i, op, .lit (.bool (inB kk c))], [h0, h1, h2, h3, h4, h5, .cells 56 [kd, .lit (.int .i64 kk), oL]]), fun _ => True) | _, _ => none
noncomputable def P22 : Ann := joinOf [0, 1, 5, 6, 7, 8, 9, 10, 13] (X := Unit) fun vals H => match vals, H with | [l, to, n, h, s, kp, i, op, _], [h0, h1, h2, h3, h4, h5, .cells 56 [kd, kk, .imm (.pair (.int .i64) (.pair (.int .i64) .str)) oL]] => some (fun _ => ([l, to, n, h, s, kp, i, op, .sl 7 3 0 oL.length], [h0, h1, h2, h3, h4, h5, .cells 56 [kd, kk, .imm pty oL], .row 37 pty (oL ++ [markP])]), fun _ => True) | _, _ => none
noncomputable def P31 : Ann := joinOf [0, 1, 5, 6, 7, 8, 9, 10, 12, 13] (X := Nat × List pty.den) fun vals H => match vals, H with | [l, to, n, h, s, kp, i, op, _, m], [_, _, .row e (.pair (.int .i64) (.pair (.int .i64) .str)) Hv, b, k1, k2, oc, mr] => some (fun x => ([l, to, n, h, s, kp, i, op, .lit (.bool true), m], [.cells 34 [.sl 1 3 0 x.1, s], .row 37 pty x.2, .row e pty Hv, b, k1, k2, oc, mr]), fun x => RowOf x.1 Hv x.2) | _, _ => none
noncomputable def P38 : Ann := joinOf [0, 1, 5, 6, 7, 8, 9, 10, 11, 12, 183] (X := Unit) fun vals H => match vals, H with | [l, to, n, h, s, kp, i, op, nn, ok, _], [h0, h1, h2, h3, h4, h5, .cells 56 [.lit (.int .i64 kd), kk, oL]] => some (fun _ => ([l, to, n, h, s, kp, i, op, nn, ok, .lit (.bool (decide (kd = 2 ∨ kd = 4 ∨ kd = 5)))], [h0, h1, h2, h3, h4, h5, .cells 56 [.lit (.int .i64 kd), kk, oL]]), fun _ => True) | _, _ => none
def wantOf (k : Int) (Hv : List pty.den) : pty.den := if 0 ≤ k ∧ k < (Hv.length : Int) then Hv.getD k.toNat pty.dflt else pz
noncomputable def P41 : Ann := joinOf [0, 1, 5, 6, 7, 8, 9, 10, 11, 12, 16] (X := pty.den) fun vals H => match vals, H with | [l, to, n, h, s, kp, i, op, nn, ok, w], [h0, h1, .row e (.pair (.int .i64) (.pair (.int .i64) .str)) Hv, h3, h4, h5, .cells 56 [kd, .lit (.int .i64 kk), oL], .cells ew _] => some (fun x => ([l, to, n, h, s, kp, i, op, nn, ok, w], [h0, h1, .row e pty Hv, h3, h4, h5, .cells 56 [kd, .lit (.int .i64 kk), oL], .cells ew (pty.cells x)]), fun x => x = wantOf kk Hv) | _, _ => none
def lessOf (kd k : Int) (Hv : List pty.den) : List pty.den := if (0 ≤ k ∧ k < (Hv.length : Int)) ∧ kd ≠ 5 then Hv.take k.toNat ++ Hv.drop (k.toNat + 1) else Hv
noncomputable def P49 : Ann := joinOf [0, 1, 5, 6, 7, 8, 9, 10, 11, 12] (X := Nat × List pty.den) fun vals H => match vals, H with | [l, to, n, h, s, kp, i, op, nn, _], [.cells e0 [_, s0], _, .row e (.pair (.int .i64) (.pair (.int .i64) .str)) Hv, b, k1, k2, .cells 56 [.lit (.int .i64 kd), .lit (.int .i64 kk), oL]] => some (fun x => ([l, to, n, h, s, kp, i, op, nn, .lit (.bool true)], [.cells e0 [.sl 1 3 0 x.1, s0], .row 37 pty x.2, .row e pty Hv, b, k1, k2, .cells 56 [.lit (.int .i64 kd), .lit (.int .i64 kk), oL]]), fun x => RowOf x.1 (lessOf kd kk Hv) x.2) | _, _ => none
noncomputable def AP : Nat → Option Ann := fun k => if Nat.blt k 3000000 then (if Nat.beq k 0 then some P0 else if Nat.beq k 3 then some P3 else if Nat.beq k 5 then some P5 else if Nat.beq k 8 then some P8 else none) else
  if Nat.beq k 3000051 then some P51 else if Nat.beq k 3000014 then some P14 else if Nat.beq k 3000022 then some P22 else if Nat.beq k 3000031 then some P31 else if Nat.beq k 3000038 then some P38 else if Nat.beq k 3000041 then some P41 else if Nat.beq k 3000049 then some P49 else none
theorem places_take (to : Int) (R : List pty.den) (m : Nat) (hm : m ≤ R.length) : ∀ k, k ≤ m → places to R k = places to (R.take m) k
  | 0, _ => rfl
  | k + 1, hk => by
    have e : (R.take m).getD k pty.dflt = R.getD k pty.dflt := by
      rw [List.getD_eq_getElem?_getD, List.getD_eq_getElem?_getD, List.getElem?_take, if_pos (by omega)]
    simp only [places, places_take to R m hm k (by omega), e]
theorem small_snoc {LL : List (List Int)} {x : List Int} (h : ∀ l ∈ LL, l.length ≤ 900000) (hx : x.length ≤ 900000) : ∀ l ∈ LL ++ [x], l.length ≤ 900000 := fun l hl => by
  rcases List.mem_append.1 hl with h' | h'
  · exact h l h'
  · have : l = x := by simpa using h'
    rw [this]; exact hx
theorem getD_take {R : List pty.den} {m k : Nat} {d : pty.den} (hk : k < m) : (R.take m).getD k d = R.getD k d := by
  rw [List.getD_eq_getElem?_getD, List.getD_eq_getElem?_getD, List.getElem?_take, if_pos hk]
theorem delAt_row (R : List pty.den) (m k : Nat) (hk : k < m) (hm : m ≤ R.length) (hR : R.length ≤ 200) : RowOf (m - 1) ((R.take m).take k ++ (R.take m).drop (k + 1)) (delAt R m k) := by
  have h1 : (R.take m).take k = R.take k := by rw [List.take_take, Nat.min_eq_left (by omega)]
  have h2 : (R.take m).drop (k + 1) = (R.drop (k + 1)).take (m - (k + 1)) := by rw [List.drop_take]
  have h3 : ((R.drop (k + 1)).take (m - (k + 1))).length = m - (k + 1) := by rw [List.length_take, List.length_drop]; omega
  have h4 : (R.take k).length = k := by rw [List.length_take]; omega
  have h5 : (R.take k ++ (R.drop (k + 1)).take (m - (k + 1))).length = m - 1 := by rw [List.length_append, h3, h4]; omega
  have h6 : (delAt R m k).length = R.length := by
    unfold delAt
    rw [List.length_append, List.length_append, h5, List.length_drop, List.length_cons, List.length_nil]; omega
  refine ⟨by omega, by omega, ?_⟩
  rw [h1, h2]
  unfold delAt
  rw [List.append_assoc, ← h5, List.take_left]
theorem same_p (p : pty.den) : (p.1 == p.1 && (p.2.1 == p.2.1 && (p.2.2 == p.2.2 && true))) = true := by rw [bytes_self]; simp
theorem v4 (L : List oty.den) (to : Int) (Q : SV × Heap × List Nat → Prop) (hq : ∀ mv, Q (.lit (.bool true), [], mv)) :
    (bodySumm UL Try.prog Try.f4 AP [.imm oty L, .lit (.int .i64 to)] []).Leads Q := by
  refine Sx.by_text (q :=
      br (decide ((↑(List.length L) : Int) > (80 : Int))) (Q (SV.lit (Value.bool true), ([] : List Sx.SO), [])) ((∃ (x : T24.NSt), (T24.vq L to (0 : Nat) (0 : Int) (0 : Int) ([]
      : List Sx.SV), T24.hpq (0 : Nat) (0 : Int) [] [] (0 : Nat) (0 : Nat) [] [] ([] : List Sx.SO)) = (T24.vq L to (List.length (T24.NSt.Hv x)) (↑(T24.NSt.sent x) : Int)
      (↑(T24.NSt.i x) : Int) ([] : List Sx.SV), T24.hpq (T24.NSt.m x) (↑(T24.NSt.sent x) : Int) (T24.NSt.R x) (T24.NSt.Hv x) (List.length (T24.NSt.LL x)) (List.length
      (T24.NSt.LL x)) (T24.NSt.LL x) (T24.NSt.LL x) ([] : List Sx.SO)) ∧ T24.NOk (List.length L) x) ∧ ∀ (b : T24.NSt), T24.NOk (List.length L) b → br (decide ((↑(T24.NSt.i b) :
      Int) < (↑(List.length L) : Int))) (((0 : Int) ≤ (↑(T24.NSt.i b) : Int) ∧ (↑(T24.NSt.i b) : Int) < (↑(List.length L) : Int)) ∧ T24.NSt.i b < List.length L ∧ br (decide
      ((↑(List.length (Prod.snd (Prod.snd (List.getD L (T24.NSt.i b) (Ty.dflt T24.oty))))) : Int) > (100 : Int))) (Q (SV.lit (Value.bool true), ([] : List Sx.SO), [])) (∀ (b_1 :
      Bool), True → br b_1 (br (decide (Prod.fst (Prod.snd (List.getD L (T24.NSt.i b) (Ty.dflt T24.oty))) ≥ (0 : Int))) ((∃ (x : Unit), (T24.vq L to (List.length (T24.NSt.Hv b))
      (↑(T24.NSt.sent b) : Int) (↑(T24.NSt.i b) : Int) [SV.ptr (6 : Nat) (0 : Nat), SV.lit (Value.bool (decide (Prod.fst (Prod.snd (List.getD L (T24.NSt.i b) (Ty.dflt T24.oty)))
      < (↑(List.length (T24.NSt.Hv b)) : Int))))], T24.hpq (T24.NSt.m b) (↑(T24.NSt.sent b) : Int) (T24.NSt.R b) (T24.NSt.Hv b) (List.length (T24.NSt.LL b)) (List.length
      (T24.NSt.LL b)) (T24.NSt.LL b) (T24.NSt.LL b) [SO.cells (56 : Nat) [SV.lit (Value.int IntKind.i64 (Prod.fst (List.getD L (T24.NSt.i b) (Ty.dflt T24.oty)))), SV.lit
      (Value.int IntKind.i64 (Prod.fst (Prod.snd (List.getD L (T24.NSt.i b) (Ty.dflt T24.oty))))), SV.imm T24.pty (Prod.snd (Prod.snd (List.getD L (T24.NSt.i b) (Ty.dflt
      T24.oty))))]]) = (T24.vq L to (List.length (T24.NSt.Hv b)) (↑(T24.NSt.sent b) : Int) (↑(T24.NSt.i b) : Int) [SV.ptr (6 : Nat) (0 : Nat), SV.lit (Value.bool (T24.inB
      (Prod.fst (Prod.snd (List.getD L (T24.NSt.i b) (Ty.dflt T24.oty)))) (List.length (T24.NSt.Hv b))))], T24.hpq (T24.NSt.m b) (↑(T24.NSt.sent b) : Int) (T24.NSt.R b)
      (T24.NSt.Hv b) (List.length (T24.NSt.LL b)) (List.length (T24.NSt.LL b)) (T24.NSt.LL b) (T24.NSt.LL b) [SO.cells (56 : Nat) [SV.lit (Value.int IntKind.i64 (Prod.fst
      (List.getD L (T24.NSt.i b) (Ty.dflt T24.oty)))), SV.lit (Value.int IntKind.i64 (Prod.fst (Prod.snd (List.getD L (T24.NSt.i b) (Ty.dflt T24.oty))))), SV.imm T24.pty
      (Prod.snd (Prod.snd (List.getD L (T24.NSt.i b) (Ty.dflt T24.oty))))]]) ∧ True) ∧ True) ((∃ (x : Unit), (T24.vq L to (List.length (T24.NSt.Hv b)) (↑(T24.NSt.sent b) : Int)
      (↑(T24.NSt.i b) : Int) [SV.ptr (6 : Nat) (0 : Nat), SV.lit (Value.bool false)], T24.hpq (T24.NSt.m b) (↑(T24.NSt.sent b) : Int) (T24.NSt.R b) (T24.NSt.Hv b) (List.length
      (T24.NSt.LL b)) (List.length (T24.NSt.LL b)) (T24.NSt.LL b) (T24.NSt.LL b) [SO.cells (56 : Nat) [SV.lit (Value.int IntKind.i64 (Prod.fst (List.getD L (T24.NSt.i b)
      (Ty.dflt T24.oty)))), SV.lit (Value.int IntKind.i64 (Prod.fst (Prod.snd (List.getD L (T24.NSt.i b) (Ty.dflt T24.oty))))), SV.imm T24.pty (Prod.snd (Prod.snd (List.getD L
      (T24.NSt.i b) (Ty.dflt T24.oty))))]]) = (T24.vq L to (List.length (T24.NSt.Hv b)) (↑(T24.NSt.sent b) : Int) (↑(T24.NSt.i b) : Int) [SV.ptr (6 : Nat) (0 : Nat), SV.lit
      (Value.bool (T24.inB (Prod.fst (Prod.snd (List.getD L (T24.NSt.i b) (Ty.dflt T24.oty)))) (List.length (T24.NSt.Hv b))))], T24.hpq (T24.NSt.m b) (↑(T24.NSt.sent b) : Int)
      (T24.NSt.R b) (T24.NSt.Hv b) (List.length (T24.NSt.LL b)) (List.length (T24.NSt.LL b)) (T24.NSt.LL b) (T24.NSt.LL b) [SO.cells (56 : Nat) [SV.lit (Value.int IntKind.i64
      (Prod.fst (List.getD L (T24.NSt.i b) (Ty.dflt T24.oty)))), SV.lit (Value.int IntKind.i64 (Prod.fst (Prod.snd (List.getD L (T24.NSt.i b) (Ty.dflt T24.oty))))), SV.imm
      T24.pty (Prod.snd (Prod.snd (List.getD L (T24.NSt.i b) (Ty.dflt T24.oty))))]]) ∧ True) ∧ True)) (∀ (b_2 : Unit), True → ∀ (b_3 : Bool), True → br b_3 (br (Prod.fst
      (List.getD L (T24.NSt.i b) (Ty.dflt T24.oty)) == (1 : Int)) (∀ (b_4 : Bool), True → br b_4 (∀ (b_5 : Bool), True → br b_5 (((↑((0 : Nat) + List.length (Prod.snd (Prod.snd
      (List.getD L (T24.NSt.i b) (Ty.dflt T24.oty))))) : Int) ≤ (9223372036854775807 : Int) ∧ ((0 : Nat) + List.length (Prod.snd (Prod.snd (List.getD L (T24.NSt.i b) (Ty.dflt
      T24.oty))))) * Sx.bytesOf Go.Proofs.Try.prog (37 : Nat) ≤ (140737488355328 : Nat)) ∧ ∀ (b_6 : Bool), True → br b_6 (∀ (b_7 : Bool), True → br b_7 ((1 : Nat) ≤ (1 : Nat) ∧
      Sx.br (decide (List.length (Prod.snd (Prod.snd (List.getD L (T24.NSt.i b) (Ty.dflt T24.oty)))) + (1 : Nat) ≤ List.length (Prod.snd (Prod.snd (List.getD L (T24.NSt.i b)
      (Ty.dflt T24.oty)))))) (((0 : Int) ≤ (↑(List.length (Prod.snd (Prod.snd (List.getD L (T24.NSt.i b) (Ty.dflt T24.oty))))) : Int) ∧ (↑(List.length (Prod.snd (Prod.snd
      (List.getD L (T24.NSt.i b) (Ty.dflt T24.oty))))) : Int) ≤ (↑(List.length (List.take (List.length (Prod.snd (Prod.snd (List.getD L (T24.NSt.i b) (Ty.dflt T24.oty)))))
      (Prod.snd (Prod.snd (List.getD L (T24.NSt.i b) (Ty.dflt T24.oty)))) ++ [T24.markP] ++ List.drop (List.length (Prod.snd (Prod.snd (List.getD L (T24.NSt.i b) (Ty.dflt
      T24.oty)))) + (1 : Nat)) (Prod.snd (Prod.snd (List.getD L (T24.NSt.i b) (Ty.dflt T24.oty)))))) : Int)) ∧ True ∧ (∃ (x : Unit), (T24.vq L to (List.length (T24.NSt.Hv b))
      (↑(T24.NSt.sent b) : Int) (↑(T24.NSt.i b) : Int) [SV.ptr (6 : Nat) (0 : Nat), SV.sl (7 : Nat) (3 : Nat) (0 : Nat) (List.length (Prod.snd (Prod.snd (List.getD L (T24.NSt.i
      b) (Ty.dflt T24.oty)))))], T24.hpq (T24.NSt.m b) (↑(T24.NSt.sent b) : Int) (T24.NSt.R b) (T24.NSt.Hv b) (List.length (T24.NSt.LL b)) (List.length (T24.NSt.LL b))
      (T24.NSt.LL b) (T24.NSt.LL b) [SO.cells (56 : Nat) [SV.lit (Value.int IntKind.i64 (Prod.fst (List.getD L (T24.NSt.i b) (Ty.dflt T24.oty)))), SV.lit (Value.int IntKind.i64
      (Prod.fst (Prod.snd (List.getD L (T24.NSt.i b) (Ty.dflt T24.oty))))), SV.imm T24.pty (Prod.snd (Prod.snd (List.getD L (T24.NSt.i b) (Ty.dflt T24.oty))))], SO.row (37 :
      Nat) T24.pty (List.take (List.length (Prod.snd (Prod.snd (List.getD L (T24.NSt.i b) (Ty.dflt T24.oty))))) (Prod.snd (Prod.snd (List.getD L (T24.NSt.i b) (Ty.dflt
      T24.oty)))) ++ [T24.markP] ++ List.drop (List.length (Prod.snd (Prod.snd (List.getD L (T24.NSt.i b) (Ty.dflt T24.oty)))) + (1 : Nat)) (Prod.snd (Prod.snd (List.getD L
      (T24.NSt.i b) (Ty.dflt T24.oty)))))]) = (T24.vq L to (List.length (T24.NSt.Hv b)) (↑(T24.NSt.sent b) : Int) (↑(T24.NSt.i b) : Int) [SV.ptr (6 : Nat) (0 : Nat), SV.sl (7 :
      Nat) (3 : Nat) (0 : Nat) (List.length (Prod.snd (Prod.snd (List.getD L (T24.NSt.i b) (Ty.dflt T24.oty)))))], T24.hpq (T24.NSt.m b) (↑(T24.NSt.sent b) : Int) (T24.NSt.R b)
      (T24.NSt.Hv b) (List.length (T24.NSt.LL b)) (List.length (T24.NSt.LL b)) (T24.NSt.LL b) (T24.NSt.LL b) [SO.cells (56 : Nat) [SV.lit (Value.int IntKind.i64 (Prod.fst
      (List.getD L (T24.NSt.i b) (Ty.dflt T24.oty)))), SV.lit (Value.int IntKind.i64 (Prod.fst (Prod.snd (List.getD L (T24.NSt.i b) (Ty.dflt T24.oty))))), SV.imm T24.pty
      (Prod.snd (Prod.snd (List.getD L (T24.NSt.i b) (Ty.dflt T24.oty))))], SO.row (37 : Nat) T24.pty (Prod.snd (Prod.snd (List.getD L (T24.NSt.i b) (Ty.dflt T24.oty))) ++
      [T24.markP])]) ∧ True) ∧ True) (List.length (Prod.snd (Prod.snd (List.getD L (T24.NSt.i b) (Ty.dflt T24.oty)))) ≤ List.length (Prod.snd (Prod.snd (List.getD L (T24.NSt.i
      b) (Ty.dflt T24.oty)))) ∧ ((↑(List.length (Prod.snd (Prod.snd (List.getD L (T24.NSt.i b) (Ty.dflt T24.oty)))) + (1 : Nat)) : Int) ≤ (9223372036854775807 : Int) ∧
      (List.length (Prod.snd (Prod.snd (List.getD L (T24.NSt.i b) (Ty.dflt T24.oty)))) + (1 : Nat)) * Sx.bytesOf Go.Proofs.Try.prog (37 : Nat) ≤ (140737488355328 : Nat)) ∧ ((0 :
      Int) ≤ (↑(List.length (Prod.snd (Prod.snd (List.getD L (T24.NSt.i b) (Ty.dflt T24.oty))))) : Int) ∧ (↑(List.length (Prod.snd (Prod.snd (List.getD L (T24.NSt.i b) (Ty.dflt
      T24.oty))))) : Int) ≤ (↑(List.length (List.take (List.length (Prod.snd (Prod.snd (List.getD L (T24.NSt.i b) (Ty.dflt T24.oty))))) (Prod.snd (Prod.snd (List.getD L
      (T24.NSt.i b) (Ty.dflt T24.oty)))) ++ [T24.markP])) : Int)) ∧ True ∧ (∃ (x : Unit), (T24.vq L to (List.length (T24.NSt.Hv b)) (↑(T24.NSt.sent b) : Int) (↑(T24.NSt.i b) :
      Int) [SV.ptr (6 : Nat) (0 : Nat), SV.sl (7 : Nat) (3 : Nat) (0 : Nat) (List.length (Prod.snd (Prod.snd (List.getD L (T24.NSt.i b) (Ty.dflt T24.oty)))))], T24.hpq
      (T24.NSt.m b) (↑(T24.NSt.sent b) : Int) (T24.NSt.R b) (T24.NSt.Hv b) (List.length (T24.NSt.LL b)) (List.length (T24.NSt.LL b)) (T24.NSt.LL b) (T24.NSt.LL b) [SO.cells (56
      : Nat) [SV.lit (Value.int IntKind.i64 (Prod.fst (List.getD L (T24.NSt.i b) (Ty.dflt T24.oty)))), SV.lit (Value.int IntKind.i64 (Prod.fst (Prod.snd (List.getD L (T24.NSt.i
      b) (Ty.dflt T24.oty))))), SV.imm T24.pty (Prod.snd (Prod.snd (List.getD L (T24.NSt.i b) (Ty.dflt T24.oty))))], SO.row (37 : Nat) T24.pty (List.take (List.length (Prod.snd
      (Prod.snd (List.getD L (T24.NSt.i b) (Ty.dflt T24.oty))))) (Prod.snd (Prod.snd (List.getD L (T24.NSt.i b) (Ty.dflt T24.oty)))) ++ [T24.markP])]) = (T24.vq L to
      (List.length (T24.NSt.Hv b)) (↑(T24.NSt.sent b) : Int) (↑(T24.NSt.i b) : Int) [SV.ptr (6 : Nat) (0 : Nat), SV.sl (7 : Nat) (3 : Nat) (0 : Nat) (List.length (Prod.snd
      (Prod.snd (List.getD L (T24.NSt.i b) (Ty.dflt T24.oty)))))], T24.hpq (T24.NSt.m b) (↑(T24.NSt.sent b) : Int) (T24.NSt.R b) (T24.NSt.Hv b) (List.length (T24.NSt.LL b))
      (List.length (T24.NSt.LL b)) (T24.NSt.LL b) (T24.NSt.LL b) [SO.cells (56 : Nat) [SV.lit (Value.int IntKind.i64 (Prod.fst (List.getD L (T24.NSt.i b) (Ty.dflt T24.oty)))),
      SV.lit (Value.int IntKind.i64 (Prod.fst (Prod.snd (List.getD L (T24.NSt.i b) (Ty.dflt T24.oty))))), SV.imm T24.pty (Prod.snd (Prod.snd (List.getD L (T24.NSt.i b) (Ty.dflt
      T24.oty))))], SO.row (37 : Nat) T24.pty (Prod.snd (Prod.snd (List.getD L (T24.NSt.i b) (Ty.dflt T24.oty))) ++ [T24.markP])]) ∧ True) ∧ True)) ((1 : Nat) ≤ (1 : Nat) ∧
      Sx.br (decide (List.length (Prod.snd (Prod.snd (List.getD L (T24.NSt.i b) (Ty.dflt T24.oty)))) + (1 : Nat) ≤ List.length (Prod.snd (Prod.snd (List.getD L (T24.NSt.i b)
      (Ty.dflt T24.oty)))))) (((0 : Int) ≤ (↑(List.length (Prod.snd (Prod.snd (List.getD L (T24.NSt.i b) (Ty.dflt T24.oty))))) : Int) ∧ (↑(List.length (Prod.snd (Prod.snd
      (List.getD L (T24.NSt.i b) (Ty.dflt T24.oty))))) : Int) ≤ (↑(List.length (List.take (List.length (Prod.snd (Prod.snd (List.getD L (T24.NSt.i b) (Ty.dflt T24.oty)))))
      (Prod.snd (Prod.snd (List.getD L (T24.NSt.i b) (Ty.dflt T24.oty)))) ++ [T24.markP] ++ List.drop (List.length (Prod.snd (Prod.snd (List.getD L (T24.NSt.i b) (Ty.dflt
      T24.oty)))) + (1 : Nat)) (Prod.snd (Prod.snd (List.getD L (T24.NSt.i b) (Ty.dflt T24.oty)))))) : Int)) ∧ True ∧ (∃ (x : Unit), (T24.vq L to (List.length (T24.NSt.Hv b))
      (↑(T24.NSt.sent b) : Int) (↑(T24.NSt.i b) : Int) [SV.ptr (6 : Nat) (0 : Nat), SV.sl (7 : Nat) (3 : Nat) (0 : Nat) (List.length (Prod.snd (Prod.snd (List.getD L (T24.NSt.i
      b) (Ty.dflt T24.oty)))))], T24.hpq (T24.NSt.m b) (↑(T24.NSt.sent b) : Int) (T24.NSt.R b) (T24.NSt.Hv b) (List.length (T24.NSt.LL b)) (List.length (T24.NSt.LL b))
      (T24.NSt.LL b) (T24.NSt.LL b) [SO.cells (56 : Nat) [SV.lit (Value.int IntKind.i64 (Prod.fst (List.getD L (T24.NSt.i b) (Ty.dflt T24.oty)))), SV.lit (Value.int IntKind.i64
      (Prod.fst (Prod.snd (List.getD L (T24.NSt.i b) (Ty.dflt T24.oty))))), SV.imm T24.pty (Prod.snd (Prod.snd (List.getD L (T24.NSt.i b) (Ty.dflt T24.oty))))], SO.row (37 :
      Nat) T24.pty (List.take (List.length (Prod.snd (Prod.snd (List.getD L (T24.NSt.i b) (Ty.dflt T24.oty))))) (Prod.snd (Prod.snd (List.getD L (T24.NSt.i b) (Ty.dflt
      T24.oty)))) ++ [T24.markP] ++ List.drop (List.length (Prod.snd (Prod.snd (List.getD L (T24.NSt.i b) (Ty.dflt T24.oty)))) + (1 : Nat)) (Prod.snd (Prod.snd (List.getD L
      (T24.NSt.i b) (Ty.dflt T24.oty)))))]) = (T24.vq L to (List.length (T24.NSt.Hv b)) (↑(T24.NSt.sent b) : Int) (↑(T24.NSt.i b) : Int) [SV.ptr (6 : Nat) (0 : Nat), SV.sl (7 :
      Nat) (3 : Nat) (0 : Nat) (List.length (Prod.snd (Prod.snd (List.getD L (T24.NSt.i b) (Ty.dflt T24.oty)))))], T24.hpq (T24.NSt.m b) (↑(T24.NSt.sent b) : Int) (T24.NSt.R b)
      (T24.NSt.Hv b) (List.length (T24.NSt.LL b)) (List.length (T24.NSt.LL b)) (T24.NSt.LL b) (T24.NSt.LL b) [SO.cells (56 : Nat) [SV.lit (Value.int IntKind.i64 (Prod.fst
      (List.getD L (T24.NSt.i b) (Ty.dflt T24.oty)))), SV.lit (Value.int IntKind.i64 (Prod.fst (Prod.snd (List.getD L (T24.NSt.i b) (Ty.dflt T24.oty))))), SV.imm T24.pty
      (Prod.snd (Prod.snd (List.getD L (T24.NSt.i b) (Ty.dflt T24.oty))))], SO.row (37 : Nat) T24.pty (Prod.snd (Prod.snd (List.getD L (T24.NSt.i b) (Ty.dflt T24.oty))) ++
      [T24.markP])]) ∧ True) ∧ True) (List.length (Prod.snd (Prod.snd (List.getD L (T24.NSt.i b) (Ty.dflt T24.oty)))) ≤ List.length (Prod.snd (Prod.snd (List.getD L (T24.NSt.i
      b) (Ty.dflt T24.oty)))) ∧ ((↑(List.length (Prod.snd (Prod.snd (List.getD L (T24.NSt.i b) (Ty.dflt T24.oty)))) + (1 : Nat)) : Int) ≤ (9223372036854775807 : Int) ∧
      (List.length (Prod.snd (Prod.snd (List.getD L (T24.NSt.i b) (Ty.dflt T24.oty)))) + (1 : Nat)) * Sx.bytesOf Go.Proofs.Try.prog (37 : Nat) ≤ (140737488355328 : Nat)) ∧ ((0 :
      Int) ≤ (↑(List.length (Prod.snd (Prod.snd (List.getD L (T24.NSt.i b) (Ty.dflt T24.oty))))) : Int) ∧ (↑(List.length (Prod.snd (Prod.snd (List.getD L (T24.NSt.i b) (Ty.dflt
      T24.oty))))) : Int) ≤ (↑(List.length (List.take (List.length (Prod.snd (Prod.snd (List.getD L (T24.NSt.i b) (Ty.dflt T24.oty))))) (Prod.snd (Prod.snd (List.getD L
      (T24.NSt.i b) (Ty.dflt T24.oty)))) ++ [T24.markP])) : Int)) ∧ True ∧ (∃ (x : Unit), (T24.vq L to (List.length (T24.NSt.Hv b)) (↑(T24.NSt.sent b) : Int) (↑(T24.NSt.i b) :
      Int) [SV.ptr (6 : Nat) (0 : Nat), SV.sl (7 : Nat) (3 : Nat) (0 : Nat) (List.length (Prod.snd (Prod.snd (List.getD L (T24.NSt.i b) (Ty.dflt T24.oty)))))], T24.hpq
      (T24.NSt.m b) (↑(T24.NSt.sent b) : Int) (T24.NSt.R b) (T24.NSt.Hv b) (List.length (T24.NSt.LL b)) (List.length (T24.NSt.LL b)) (T24.NSt.LL b) (T24.NSt.LL b) [SO.cells (56
      : Nat) [SV.lit (Value.int IntKind.i64 (Prod.fst (List.getD L (T24.NSt.i b) (Ty.dflt T24.oty)))), SV.lit (Value.int IntKind.i64 (Prod.fst (Prod.snd (List.getD L (T24.NSt.i
      b) (Ty.dflt T24.oty))))), SV.imm T24.pty (Prod.snd (Prod.snd (List.getD L (T24.NSt.i b) (Ty.dflt T24.oty))))], SO.row (37 : Nat) T24.pty (List.take (List.length (Prod.snd
      (Prod.snd (List.getD L (T24.NSt.i b) (Ty.dflt T24.oty))))) (Prod.snd (Prod.snd (List.getD L (T24.NSt.i b) (Ty.dflt T24.oty)))) ++ [T24.markP])]) = (T24.vq L to
      (List.length (T24.NSt.Hv b)) (↑(T24.NSt.sent b) : Int) (↑(T24.NSt.i b) : Int) [SV.ptr (6 : Nat) (0 : Nat), SV.sl (7 : Nat) (3 : Nat) (0 : Nat) (List.length (Prod.snd
      (Prod.snd (List.getD L (T24.NSt.i b) (Ty.dflt T24.oty)))))], T24.hpq (T24.NSt.m b) (↑(T24.NSt.sent b) : Int) (T24.NSt.R b) (T24.NSt.Hv b) (List.length (T24.NSt.LL b))
      (List.length (T24.NSt.LL b)) (T24.NSt.LL b) (T24.NSt.LL b) [SO.cells (56 : Nat) [SV.lit (Value.int IntKind.i64 (Prod.fst (List.getD L (T24.NSt.i b) (Ty.dflt T24.oty)))),
      SV.lit (Value.int IntKind.i64 (Prod.fst (Prod.snd (List.getD L (T24.NSt.i b) (Ty.dflt T24.oty))))), SV.imm T24.pty (Prod.snd (Prod.snd (List.getD L (T24.NSt.i b) (Ty.dflt
      T24.oty))))], SO.row (37 : Nat) T24.pty (Prod.snd (Prod.snd (List.getD L (T24.NSt.i b) (Ty.dflt T24.oty))) ++ [T24.markP])]) ∧ True) ∧ True))) ((1 : Nat) ≤ (1 : Nat) ∧
      Sx.br (decide (List.length (Prod.snd (Prod.snd (List.getD L (T24.NSt.i b) (Ty.dflt T24.oty)))) + (1 : Nat) ≤ List.length (Prod.snd (Prod.snd (List.getD L (T24.NSt.i b)
      (Ty.dflt T24.oty)))))) (((0 : Int) ≤ (↑(List.length (Prod.snd (Prod.snd (List.getD L (T24.NSt.i b) (Ty.dflt T24.oty))))) : Int) ∧ (↑(List.length (Prod.snd (Prod.snd
      (List.getD L (T24.NSt.i b) (Ty.dflt T24.oty))))) : Int) ≤ (↑(List.length (List.take (List.length (Prod.snd (Prod.snd (List.getD L (T24.NSt.i b) (Ty.dflt T24.oty)))))
      (Prod.snd (Prod.snd (List.getD L (T24.NSt.i b) (Ty.dflt T24.oty)))) ++ [T24.markP] ++ List.drop (List.length (Prod.snd (Prod.snd (List.getD L (T24.NSt.i b) (Ty.dflt
      T24.oty)))) + (1 : Nat)) (Prod.snd (Prod.snd (List.getD L (T24.NSt.i b) (Ty.dflt T24.oty)))))) : Int)) ∧ True ∧ (∃ (x : Unit), (T24.vq L to (List.length (T24.NSt.Hv b))
      (↑(T24.NSt.sent b) : Int) (↑(T24.NSt.i b) : Int) [SV.ptr (6 : Nat) (0 : Nat), SV.sl (7 : Nat) (3 : Nat) (0 : Nat) (List.length (Prod.snd (Prod.snd (List.getD L (T24.NSt.i
      b) (Ty.dflt T24.oty)))))], T24.hpq (T24.NSt.m b) (↑(T24.NSt.sent b) : Int) (T24.NSt.R b) (T24.NSt.Hv b) (List.length (T24.NSt.LL b)) (List.length (T24.NSt.LL b))
      (T24.NSt.LL b) (T24.NSt.LL b) [SO.cells (56 : Nat) [SV.lit (Value.int IntKind.i64 (Prod.fst (List.getD L (T24.NSt.i b) (Ty.dflt T24.oty)))), SV.lit (Value.int IntKind.i64
      (Prod.fst (Prod.snd (List.getD L (T24.NSt.i b) (Ty.dflt T24.oty))))), SV.imm T24.pty (Prod.snd (Prod.snd (List.getD L (T24.NSt.i b) (Ty.dflt T24.oty))))], SO.row (37 :
      Nat) T24.pty (List.take (List.length (Prod.snd (Prod.snd (List.getD L (T24.NSt.i b) (Ty.dflt T24.oty))))) (Prod.snd (Prod.snd (List.getD L (T24.NSt.i b) (Ty.dflt
      T24.oty)))) ++ [T24.markP] ++ List.drop (List.length (Prod.snd (Prod.snd (List.getD L (T24.NSt.i b) (Ty.dflt T24.oty)))) + (1 : Nat)) (Prod.snd (Prod.snd (List.getD L
      (T24.NSt.i b) (Ty.dflt T24.oty)))))]) = (T24.vq L to (List.length (T24.NSt.Hv b)) (↑(T24.NSt.sent b) : Int) (↑(T24.NSt.i b) : Int) [SV.ptr (6 : Nat) (0 : Nat), SV.sl (7 :
      Nat) (3 : Nat) (0 : Nat) (List.length (Prod.snd (Prod.snd (List.getD L (T24.NSt.i b) (Ty.dflt T24.oty)))))], T24.hpq (T24.NSt.m b) (↑(T24.NSt.sent b) : Int) (T24.NSt.R b)
      (T24.NSt.Hv b) (List.length (T24.NSt.LL b)) (List.length (T24.NSt.LL b)) (T24.NSt.LL b) (T24.NSt.LL b) [SO.cells (56 : Nat) [SV.lit (Value.int IntKind.i64 (Prod.fst
      (List.getD L (T24.NSt.i b) (Ty.dflt T24.oty)))), SV.lit (Value.int IntKind.i64 (Prod.fst (Prod.snd (List.getD L (T24.NSt.i b) (Ty.dflt T24.oty))))), SV.imm T24.pty
      (Prod.snd (Prod.snd (List.getD L (T24.NSt.i b) (Ty.dflt T24.oty))))], SO.row (37 : Nat) T24.pty (Prod.snd (Prod.snd (List.getD L (T24.NSt.i b) (Ty.dflt T24.oty))) ++
      [T24.markP])]) ∧ True) ∧ True) (List.length (Prod.snd (Prod.snd (List.getD L (T24.NSt.i b) (Ty.dflt T24.oty)))) ≤ List.length (Prod.snd (Prod.snd (List.getD L (T24.NSt.i
      b) (Ty.dflt T24.oty)))) ∧ ((↑(List.length (Prod.snd (Prod.snd (List.getD L (T24.NSt.i b) (Ty.dflt T24.oty)))) + (1 : Nat)) : Int) ≤ (9223372036854775807 : Int) ∧
      (List.length (Prod.snd (Prod.snd (List.getD L (T24.NSt.i b) (Ty.dflt T24.oty)))) + (1 : Nat)) * Sx.bytesOf Go.Proofs.Try.prog (37 : Nat) ≤ (140737488355328 : Nat)) ∧ ((0 :
      Int) ≤ (↑(List.length (Prod.snd (Prod.snd (List.getD L (T24.NSt.i b) (Ty.dflt T24.oty))))) : Int) ∧ (↑(List.length (Prod.snd (Prod.snd (List.getD L (T24.NSt.i b) (Ty.dflt
      T24.oty))))) : Int) ≤ (↑(List.length (List.take (List.length (Prod.snd (Prod.snd (List.getD L (T24.NSt.i b) (Ty.dflt T24.oty))))) (Prod.snd (Prod.snd (List.getD L
      (T24.NSt.i b) (Ty.dflt T24.oty)))) ++ [T24.markP])) : Int)) ∧ True ∧ (∃ (x : Unit), (T24.vq L to (List.length (T24.NSt.Hv b)) (↑(T24.NSt.sent b) : Int) (↑(T24.NSt.i b) :
      Int) [SV.ptr (6 : Nat) (0 : Nat), SV.sl (7 : Nat) (3 : Nat) (0 : Nat) (List.length (Prod.snd (Prod.snd (List.getD L (T24.NSt.i b) (Ty.dflt T24.oty)))))], T24.hpq
      (T24.NSt.m b) (↑(T24.NSt.sent b) : Int) (T24.NSt.R b) (T24.NSt.Hv b) (List.length (T24.NSt.LL b)) (List.length (T24.NSt.LL b)) (T24.NSt.LL b) (T24.NSt.LL b) [SO.cells (56
      : Nat) [SV.lit (Value.int IntKind.i64 (Prod.fst (List.getD L (T24.NSt.i b) (Ty.dflt T24.oty)))), SV.lit (Value.int IntKind.i64 (Prod.fst (Prod.snd (List.getD L (T24.NSt.i
      b) (Ty.dflt T24.oty))))), SV.imm T24.pty (Prod.snd (Prod.snd (List.getD L (T24.NSt.i b) (Ty.dflt T24.oty))))], SO.row (37 : Nat) T24.pty (List.take (List.length (Prod.snd
      (Prod.snd (List.getD L (T24.NSt.i b) (Ty.dflt T24.oty))))) (Prod.snd (Prod.snd (List.getD L (T24.NSt.i b) (Ty.dflt T24.oty)))) ++ [T24.markP])]) = (T24.vq L to
      (List.length (T24.NSt.Hv b)) (↑(T24.NSt.sent b) : Int) (↑(T24.NSt.i b) : Int) [SV.ptr (6 : Nat) (0 : Nat), SV.sl (7 : Nat) (3 : Nat) (0 : Nat) (List.length (Prod.snd
      (Prod.snd (List.getD L (T24.NSt.i b) (Ty.dflt T24.oty)))))], T24.hpq (T24.NSt.m b) (↑(T24.NSt.sent b) : Int) (T24.NSt.R b) (T24.NSt.Hv b) (List.length (T24.NSt.LL b))
      (List.length (T24.NSt.LL b)) (T24.NSt.LL b) (T24.NSt.LL b) [SO.cells (56 : Nat) [SV.lit (Value.int IntKind.i64 (Prod.fst (List.getD L (T24.NSt.i b) (Ty.dflt T24.oty)))),
      SV.lit (Value.int IntKind.i64 (Prod.fst (Prod.snd (List.getD L (T24.NSt.i b) (Ty.dflt T24.oty))))), SV.imm T24.pty (Prod.snd (Prod.snd (List.getD L (T24.NSt.i b) (Ty.dflt
      T24.oty))))], SO.row (37 : Nat) T24.pty (Prod.snd (Prod.snd (List.getD L (T24.NSt.i b) (Ty.dflt T24.oty))) ++ [T24.markP])]) ∧ True) ∧ True))) (∀ (b_6 : Bool), True → br
      b_6 (∀ (b_7 : Bool), True → br b_7 (((↑((0 : Nat) + List.length (Prod.snd (Prod.snd (List.getD L (T24.NSt.i b) (Ty.dflt T24.oty))))) : Int) ≤ (9223372036854775807 : Int) ∧
      ((0 : Nat) + List.length (Prod.snd (Prod.snd (List.getD L (T24.NSt.i b) (Ty.dflt T24.oty))))) * Sx.bytesOf Go.Proofs.Try.prog (37 : Nat) ≤ (140737488355328 : Nat)) ∧ ∀
      (b_8 : Bool), True → br b_8 ((1 : Nat) ≤ (1 : Nat) ∧ Sx.br (decide (List.length (Prod.snd (Prod.snd (List.getD L (T24.NSt.i b) (Ty.dflt T24.oty)))) + (1 : Nat) ≤
      List.length (Prod.snd (Prod.snd (List.getD L (T24.NSt.i b) (Ty.dflt T24.oty)))))) (((0 : Int) ≤ (↑(List.length (Prod.snd (Prod.snd (List.getD L (T24.NSt.i b) (Ty.dflt
      T24.oty))))) : Int) ∧ (↑(List.length (Prod.snd (Prod.snd (List.getD L (T24.NSt.i b) (Ty.dflt T24.oty))))) : Int) ≤ (↑(List.length (List.take (List.length (Prod.snd
      (Prod.snd (List.getD L (T24.NSt.i b) (Ty.dflt T24.oty))))) (Prod.snd (Prod.snd (List.getD L (T24.NSt.i b) (Ty.dflt T24.oty)))) ++ [T24.markP] ++ List.drop (List.length
      (Prod.snd (Prod.snd (List.getD L (T24.NSt.i b) (Ty.dflt T24.oty)))) + (1 : Nat)) (Prod.snd (Prod.snd (List.getD L (T24.NSt.i b) (Ty.dflt T24.oty)))))) : Int)) ∧ True ∧ (∃
      (x : Unit), (T24.vq L to (List.length (T24.NSt.Hv b)) (↑(T24.NSt.sent b) : Int) (↑(T24.NSt.i b) : Int) [SV.ptr (6 : Nat) (0 : Nat), SV.sl (7 : Nat) (3 : Nat) (0 : Nat)
      (List.length (Prod.snd (Prod.snd (List.getD L (T24.NSt.i b) (Ty.dflt T24.oty)))))], T24.hpq (T24.NSt.m b) (↑(T24.NSt.sent b) : Int) (T24.NSt.R b) (T24.NSt.Hv b)
      (List.length (T24.NSt.LL b)) (List.length (T24.NSt.LL b)) (T24.NSt.LL b) (T24.NSt.LL b) [SO.cells (56 : Nat) [SV.lit (Value.int IntKind.i64 (Prod.fst (List.getD L
      (T24.NSt.i b) (Ty.dflt T24.oty)))), SV.lit (Value.int IntKind.i64 (Prod.fst (Prod.snd (List.getD L (T24.NSt.i b) (Ty.dflt T24.oty))))), SV.imm T24.pty (Prod.snd (Prod.snd
      (List.getD L (T24.NSt.i b) (Ty.dflt T24.oty))))], SO.row (37 : Nat) T24.pty (List.take (List.length (Prod.snd (Prod.snd (List.getD L (T24.NSt.i b) (Ty.dflt T24.oty)))))
      (Prod.snd (Prod.snd (List.getD L (T24.NSt.i b) (Ty.dflt T24.oty)))) ++ [T24.markP] ++ List.drop (List.length (Prod.snd (Prod.snd (List.getD L (T24.NSt.i b) (Ty.dflt
      T24.oty)))) + (1 : Nat)) (Prod.snd (Prod.snd (List.getD L (T24.NSt.i b) (Ty.dflt T24.oty)))))]) = (T24.vq L to (List.length (T24.NSt.Hv b)) (↑(T24.NSt.sent b) : Int)
      (↑(T24.NSt.i b) : Int) [SV.ptr (6 : Nat) (0 : Nat), SV.sl (7 : Nat) (3 : Nat) (0 : Nat) (List.length (Prod.snd (Prod.snd (List.getD L (T24.NSt.i b) (Ty.dflt T24.oty)))))],
      T24.hpq (T24.NSt.m b) (↑(T24.NSt.sent b) : Int) (T24.NSt.R b) (T24.NSt.Hv b) (List.length (T24.NSt.LL b)) (List.length (T24.NSt.LL b)) (T24.NSt.LL b) (T24.NSt.LL b)
      [SO.cells (56 : Nat) [SV.lit (Value.int IntKind.i64 (Prod.fst (List.getD L (T24.NSt.i b) (Ty.dflt T24.oty)))), SV.lit (Value.int IntKind.i64 (Prod.fst (Prod.snd (List.getD
      L (T24.NSt.i b) (Ty.dflt T24.oty))))), SV.imm T24.pty (Prod.snd (Prod.snd (List.getD L (T24.NSt.i b) (Ty.dflt T24.oty))))], SO.row (37 : Nat) T24.pty (Prod.snd (Prod.snd
      (List.getD L (T24.NSt.i b) (Ty.dflt T24.oty))) ++ [T24.markP])]) ∧ True) ∧ True) (List.length (Prod.snd (Prod.snd (List.getD L (T24.NSt.i b) (Ty.dflt T24.oty)))) ≤
      List.length (Prod.snd (Prod.snd (List.getD L (T24.NSt.i b) (Ty.dflt T24.oty)))) ∧ ((↑(List.length (Prod.snd (Prod.snd (List.getD L (T24.NSt.i b) (Ty.dflt T24.oty)))) + (1
      : Nat)) : Int) ≤ (9223372036854775807 : Int) ∧ (List.length (Prod.snd (Prod.snd (List.getD L (T24.NSt.i b) (Ty.dflt T24.oty)))) + (1 : Nat)) * Sx.bytesOf
      Go.Proofs.Try.prog (37 : Nat) ≤ (140737488355328 : Nat)) ∧ ((0 : Int) ≤ (↑(List.length (Prod.snd (Prod.snd (List.getD L (T24.NSt.i b) (Ty.dflt T24.oty))))) : Int) ∧
      (↑(List.length (Prod.snd (Prod.snd (List.getD L (T24.NSt.i b) (Ty.dflt T24.oty))))) : Int) ≤ (↑(List.length (List.take (List.length (Prod.snd (Prod.snd (List.getD L
      (T24.NSt.i b) (Ty.dflt T24.oty))))) (Prod.snd (Prod.snd (List.getD L (T24.NSt.i b) (Ty.dflt T24.oty)))) ++ [T24.markP])) : Int)) ∧ True ∧ (∃ (x : Unit), (T24.vq L to
      (List.length (T24.NSt.Hv b)) (↑(T24.NSt.sent b) : Int) (↑(T24.NSt.i b) : Int) [SV.ptr (6 : Nat) (0 : Nat), SV.sl (7 : Nat) (3 : Nat) (0 : Nat) (List.length (Prod.snd
      (Prod.snd (List.getD L (T24.NSt.i b) (Ty.dflt T24.oty)))))], T24.hpq (T24.NSt.m b) (↑(T24.NSt.sent b) : Int) (T24.NSt.R b) (T24.NSt.Hv b) (List.length (T24.NSt.LL b))
      (List.length (T24.NSt.LL b)) (T24.NSt.LL b) (T24.NSt.LL b) [SO.cells (56 : Nat) [SV.lit (Value.int IntKind.i64 (Prod.fst (List.getD L (T24.NSt.i b) (Ty.dflt T24.oty)))),
      SV.lit (Value.int IntKind.i64 (Prod.fst (Prod.snd (List.getD L (T24.NSt.i b) (Ty.dflt T24.oty))))), SV.imm T24.pty (Prod.snd (Prod.snd (List.getD L (T24.NSt.i b) (Ty.dflt
      T24.oty))))], SO.row (37 : Nat) T24.pty (List.take (List.length (Prod.snd (Prod.snd (List.getD L (T24.NSt.i b) (Ty.dflt T24.oty))))) (Prod.snd (Prod.snd (List.getD L
      (T24.NSt.i b) (Ty.dflt T24.oty)))) ++ [T24.markP])]) = (T24.vq L to (List.length (T24.NSt.Hv b)) (↑(T24.NSt.sent b) : Int) (↑(T24.NSt.i b) : Int) [SV.ptr (6 : Nat) (0 :
      Nat), SV.sl (7 : Nat) (3 : Nat) (0 : Nat) (List.length (Prod.snd (Prod.snd (List.getD L (T24.NSt.i b) (Ty.dflt T24.oty)))))], T24.hpq (T24.NSt.m b) (↑(T24.NSt.sent b) :
      Int) (T24.NSt.R b) (T24.NSt.Hv b) (List.length (T24.NSt.LL b)) (List.length (T24.NSt.LL b)) (T24.NSt.LL b) (T24.NSt.LL b) [SO.cells (56 : Nat) [SV.lit (Value.int
      IntKind.i64 (Prod.fst (List.getD L (T24.NSt.i b) (Ty.dflt T24.oty)))), SV.lit (Value.int IntKind.i64 (Prod.fst (Prod.snd (List.getD L (T24.NSt.i b) (Ty.dflt T24.oty))))),
      SV.imm T24.pty (Prod.snd (Prod.snd (List.getD L (T24.NSt.i b) (Ty.dflt T24.oty))))], SO.row (37 : Nat) T24.pty (Prod.snd (Prod.snd (List.getD L (T24.NSt.i b) (Ty.dflt
      T24.oty))) ++ [T24.markP])]) ∧ True) ∧ True)) ((1 : Nat) ≤ (1 : Nat) ∧ Sx.br (decide (List.length (Prod.snd (Prod.snd (List.getD L (T24.NSt.i b) (Ty.dflt T24.oty)))) + (1
      : Nat) ≤ List.length (Prod.snd (Prod.snd (List.getD L (T24.NSt.i b) (Ty.dflt T24.oty)))))) (((0 : Int) ≤ (↑(List.length (Prod.snd (Prod.snd (List.getD L (T24.NSt.i b)
      (Ty.dflt T24.oty))))) : Int) ∧ (↑(List.length (Prod.snd (Prod.snd (List.getD L (T24.NSt.i b) (Ty.dflt T24.oty))))) : Int) ≤ (↑(List.length (List.take (List.length
      (Prod.snd (Prod.snd (List.getD L (T24.NSt.i b) (Ty.dflt T24.oty))))) (Prod.snd (Prod.snd (List.getD L (T24.NSt.i b) (Ty.dflt T24.oty)))) ++ [T24.markP] ++ List.drop
      (List.length (Prod.snd (Prod.snd (List.getD L (T24.NSt.i b) (Ty.dflt T24.oty)))) + (1 : Nat)) (Prod.snd (Prod.snd (List.getD L (T24.NSt.i b) (Ty.dflt T24.oty)))))) : Int))
      ∧ True ∧ (∃ (x : Unit), (T24.vq L to (List.length (T24.NSt.Hv b)) (↑(T24.NSt.sent b) : Int) (↑(T24.NSt.i b) : Int) [SV.ptr (6 : Nat) (0 : Nat), SV.sl (7 : Nat) (3 : Nat)
      (0 : Nat) (List.length (Prod.snd (Prod.snd (List.getD L (T24.NSt.i b) (Ty.dflt T24.oty)))))], T24.hpq (T24.NSt.m b) (↑(T24.NSt.sent b) : Int) (T24.NSt.R b) (T24.NSt.Hv b)
      (List.length (T24.NSt.LL b)) (List.length (T24.NSt.LL b)) (T24.NSt.LL b) (T24.NSt.LL b) [SO.cells (56 : Nat) [SV.lit (Value.int IntKind.i64 (Prod.fst (List.getD L
      (T24.NSt.i b) (Ty.dflt T24.oty)))), SV.lit (Value.int IntKind.i64 (Prod.fst (Prod.snd (List.getD L (T24.NSt.i b) (Ty.dflt T24.oty))))), SV.imm T24.pty (Prod.snd (Prod.snd
      (List.getD L (T24.NSt.i b) (Ty.dflt T24.oty))))], SO.row (37 : Nat) T24.pty (List.take (List.length (Prod.snd (Prod.snd (List.getD L (T24.NSt.i b) (Ty.dflt T24.oty)))))
      (Prod.snd (Prod.snd (List.getD L (T24.NSt.i b) (Ty.dflt T24.oty)))) ++ [T24.markP] ++ List.drop (List.length (Prod.snd (Prod.snd (List.getD L (T24.NSt.i b) (Ty.dflt
      T24.oty)))) + (1 : Nat)) (Prod.snd (Prod.snd (List.getD L (T24.NSt.i b) (Ty.dflt T24.oty)))))]) = (T24.vq L to (List.length (T24.NSt.Hv b)) (↑(T24.NSt.sent b) : Int)
      (↑(T24.NSt.i b) : Int) [SV.ptr (6 : Nat) (0 : Nat), SV.sl (7 : Nat) (3 : Nat) (0 : Nat) (List.length (Prod.snd (Prod.snd (List.getD L (T24.NSt.i b) (Ty.dflt T24.oty)))))],
      T24.hpq (T24.NSt.m b) (↑(T24.NSt.sent b) : Int) (T24.NSt.R b) (T24.NSt.Hv b) (List.length (T24.NSt.LL b)) (List.length (T24.NSt.LL b)) (T24.NSt.LL b) (T24.NSt.LL b)
      [SO.cells (56 : Nat) [SV.lit (Value.int IntKind.i64 (Prod.fst (List.getD L (T24.NSt.i b) (Ty.dflt T24.oty)))), SV.lit (Value.int IntKind.i64 (Prod.fst (Prod.snd (List.getD
      L (T24.NSt.i b) (Ty.dflt T24.oty))))), SV.imm T24.pty (Prod.snd (Prod.snd (List.getD L (T24.NSt.i b) (Ty.dflt T24.oty))))], SO.row (37 : Nat) T24.pty (Prod.snd (Prod.snd
      (List.getD L (T24.NSt.i b) (Ty.dflt T24.oty))) ++ [T24.markP])]) ∧ True) ∧ True) (List.length (Prod.snd (Prod.snd (List.getD L (T24.NSt.i b) (Ty.dflt T24.oty)))) ≤
      List.length (Prod.snd (Prod.snd (List.getD L (T24.NSt.i b) (Ty.dflt T24.oty)))) ∧ ((↑(List.length (Prod.snd (Prod.snd (List.getD L (T24.NSt.i b) (Ty.dflt T24.oty)))) + (1
      : Nat)) : Int) ≤ (9223372036854775807 : Int) ∧ (List.length (Prod.snd (Prod.snd (List.getD L (T24.NSt.i b) (Ty.dflt T24.oty)))) + (1 : Nat)) * Sx.bytesOf
      Go.Proofs.Try.prog (37 : Nat) ≤ (140737488355328 : Nat)) ∧ ((0 : Int) ≤ (↑(List.length (Prod.snd (Prod.snd (List.getD L (T24.NSt.i b) (Ty.dflt T24.oty))))) : Int) ∧
      (↑(List.length (Prod.snd (Prod.snd (List.getD L (T24.NSt.i b) (Ty.dflt T24.oty))))) : Int) ≤ (↑(List.length (List.take (List.length (Prod.snd (Prod.snd (List.getD L
      (T24.NSt.i b) (Ty.dflt T24.oty))))) (Prod.snd (Prod.snd (List.getD L (T24.NSt.i b) (Ty.dflt T24.oty)))) ++ [T24.markP])) : Int)) ∧ True ∧ (∃ (x : Unit), (T24.vq L to
      (List.length (T24.NSt.Hv b)) (↑(T24.NSt.sent b) : Int) (↑(T24.NSt.i b) : Int) [SV.ptr (6 : Nat) (0 : Nat), SV.sl (7 : Nat) (3 : Nat) (0 : Nat) (List.length (Prod.snd
      (Prod.snd (List.getD L (T24.NSt.i b) (Ty.dflt T24.oty)))))], T24.hpq (T24.NSt.m b) (↑(T24.NSt.sent b) : Int) (T24.NSt.R b) (T24.NSt.Hv b) (List.length (T24.NSt.LL b))
      (List.length (T24.NSt.LL b)) (T24.NSt.LL b) (T24.NSt.LL b) [SO.cells (56 : Nat) [SV.lit (Value.int IntKind.i64 (Prod.fst (List.getD L (T24.NSt.i b) (Ty.dflt T24.oty)))),
      SV.lit (Value.int IntKind.i64 (Prod.fst (Prod.snd (List.getD L (T24.NSt.i b) (Ty.dflt T24.oty))))), SV.imm T24.pty (Prod.snd (Prod.snd (List.getD L (T24.NSt.i b) (Ty.dflt
      T24.oty))))], SO.row (37 : Nat) T24.pty (List.take (List.length (Prod.snd (Prod.snd (List.getD L (T24.NSt.i b) (Ty.dflt T24.oty))))) (Prod.snd (Prod.snd (List.getD L
      (T24.NSt.i b) (Ty.dflt T24.oty)))) ++ [T24.markP])]) = (T24.vq L to (List.length (T24.NSt.Hv b)) (↑(T24.NSt.sent b) : Int) (↑(T24.NSt.i b) : Int) [SV.ptr (6 : Nat) (0 :
      Nat), SV.sl (7 : Nat) (3 : Nat) (0 : Nat) (List.length (Prod.snd (Prod.snd (List.getD L (T24.NSt.i b) (Ty.dflt T24.oty)))))], T24.hpq (T24.NSt.m b) (↑(T24.NSt.sent b) :
      Int) (T24.NSt.R b) (T24.NSt.Hv b) (List.length (T24.NSt.LL b)) (List.length (T24.NSt.LL b)) (T24.NSt.LL b) (T24.NSt.LL b) [SO.cells (56 : Nat) [SV.lit (Value.int
      IntKind.i64 (Prod.fst (List.getD L (T24.NSt.i b) (Ty.dflt T24.oty)))), SV.lit (Value.int IntKind.i64 (Prod.fst (Prod.snd (List.getD L (T24.NSt.i b) (Ty.dflt T24.oty))))),
      SV.imm T24.pty (Prod.snd (Prod.snd (List.getD L (T24.NSt.i b) (Ty.dflt T24.oty))))], SO.row (37 : Nat) T24.pty (Prod.snd (Prod.snd (List.getD L (T24.NSt.i b) (Ty.dflt
      T24.oty))) ++ [T24.markP])]) ∧ True) ∧ True))) (((↑((0 : Nat) + List.length (Prod.snd (Prod.snd (List.getD L (T24.NSt.i b) (Ty.dflt T24.oty))))) : Int) ≤
      (9223372036854775807 : Int) ∧ ((0 : Nat) + List.length (Prod.snd (Prod.snd (List.getD L (T24.NSt.i b) (Ty.dflt T24.oty))))) * Sx.bytesOf Go.Proofs.Try.prog (37 : Nat) ≤
      (140737488355328 : Nat)) ∧ (1 : Nat) ≤ (1 : Nat) ∧ Sx.br (decide (List.length (Prod.snd (Prod.snd (List.getD L (T24.NSt.i b) (Ty.dflt T24.oty)))) + (1 : Nat) ≤ List.length
      (Prod.snd (Prod.snd (List.getD L (T24.NSt.i b) (Ty.dflt T24.oty)))))) (((0 : Int) ≤ (↑(List.length (Prod.snd (Prod.snd (List.getD L (T24.NSt.i b) (Ty.dflt T24.oty))))) :
      Int) ∧ (↑(List.length (Prod.snd (Prod.snd (List.getD L (T24.NSt.i b) (Ty.dflt T24.oty))))) : Int) ≤ (↑(List.length (List.take (List.length (Prod.snd (Prod.snd (List.getD L
      (T24.NSt.i b) (Ty.dflt T24.oty))))) (Prod.snd (Prod.snd (List.getD L (T24.NSt.i b) (Ty.dflt T24.oty)))) ++ [T24.markP] ++ List.drop (List.length (Prod.snd (Prod.snd
      (List.getD L (T24.NSt.i b) (Ty.dflt T24.oty)))) + (1 : Nat)) (Prod.snd (Prod.snd (List.getD L (T24.NSt.i b) (Ty.dflt T24.oty)))))) : Int)) ∧ True ∧ (∃ (x : Unit), (T24.vq
      L to (List.length (T24.NSt.Hv b)) (↑(T24.NSt.sent b) : Int) (↑(T24.NSt.i b) : Int) [SV.ptr (6 : Nat) (0 : Nat), SV.sl (7 : Nat) (3 : Nat) (0 : Nat) (List.length (Prod.snd
      (Prod.snd (List.getD L (T24.NSt.i b) (Ty.dflt T24.oty)))))], T24.hpq (T24.NSt.m b) (↑(T24.NSt.sent b) : Int) (T24.NSt.R b) (T24.NSt.Hv b) (List.length (T24.NSt.LL b))
      (List.length (T24.NSt.LL b)) (T24.NSt.LL b) (T24.NSt.LL b) [SO.cells (56 : Nat) [SV.lit (Value.int IntKind.i64 (Prod.fst (List.getD L (T24.NSt.i b) (Ty.dflt T24.oty)))),
      SV.lit (Value.int IntKind.i64 (Prod.fst (Prod.snd (List.getD L (T24.NSt.i b) (Ty.dflt T24.oty))))), SV.imm T24.pty (Prod.snd (Prod.snd (List.getD L (T24.NSt.i b) (Ty.dflt
      T24.oty))))], SO.row (37 : Nat) T24.pty (List.take (List.length (Prod.snd (Prod.snd (List.getD L (T24.NSt.i b) (Ty.dflt T24.oty))))) (Prod.snd (Prod.snd (List.getD L
      (T24.NSt.i b) (Ty.dflt T24.oty)))) ++ [T24.markP] ++ List.drop (List.length (Prod.snd (Prod.snd (List.getD L (T24.NSt.i b) (Ty.dflt T24.oty)))) + (1 : Nat)) (Prod.snd
      (Prod.snd (List.getD L (T24.NSt.i b) (Ty.dflt T24.oty)))))]) = (T24.vq L to (List.length (T24.NSt.Hv b)) (↑(T24.NSt.sent b) : Int) (↑(T24.NSt.i b) : Int) [SV.ptr (6 : Nat)
      (0 : Nat), SV.sl (7 : Nat) (3 : Nat) (0 : Nat) (List.length (Prod.snd (Prod.snd (List.getD L (T24.NSt.i b) (Ty.dflt T24.oty)))))], T24.hpq (T24.NSt.m b) (↑(T24.NSt.sent b)
      : Int) (T24.NSt.R b) (T24.NSt.Hv b) (List.length (T24.NSt.LL b)) (List.length (T24.NSt.LL b)) (T24.NSt.LL b) (T24.NSt.LL b) [SO.cells (56 : Nat) [SV.lit (Value.int
      IntKind.i64 (Prod.fst (List.getD L (T24.NSt.i b) (Ty.dflt T24.oty)))), SV.lit (Value.int IntKind.i64 (Prod.fst (Prod.snd (List.getD L (T24.NSt.i b) (Ty.dflt T24.oty))))),
      SV.imm T24.pty (Prod.snd (Prod.snd (List.getD L (T24.NSt.i b) (Ty.dflt T24.oty))))], SO.row (37 : Nat) T24.pty (Prod.snd (Prod.snd (List.getD L (T24.NSt.i b) (Ty.dflt
      T24.oty))) ++ [T24.markP])]) ∧ True) ∧ True) (List.length (Prod.snd (Prod.snd (List.getD L (T24.NSt.i b) (Ty.dflt T24.oty)))) ≤ List.length (Prod.snd (Prod.snd (List.getD
      L (T24.NSt.i b) (Ty.dflt T24.oty)))) ∧ ((↑(List.length (Prod.snd (Prod.snd (List.getD L (T24.NSt.i b) (Ty.dflt T24.oty)))) + (1 : Nat)) : Int) ≤ (9223372036854775807 :
      Int) ∧ (List.length (Prod.snd (Prod.snd (List.getD L (T24.NSt.i b) (Ty.dflt T24.oty)))) + (1 : Nat)) * Sx.bytesOf Go.Proofs.Try.prog (37 : Nat) ≤ (140737488355328 : Nat))
      ∧ ((0 : Int) ≤ (↑(List.length (Prod.snd (Prod.snd (List.getD L (T24.NSt.i b) (Ty.dflt T24.oty))))) : Int) ∧ (↑(List.length (Prod.snd (Prod.snd (List.getD L (T24.NSt.i b)
      (Ty.dflt T24.oty))))) : Int) ≤ (↑(List.length (List.take (List.length (Prod.snd (Prod.snd (List.getD L (T24.NSt.i b) (Ty.dflt T24.oty))))) (Prod.snd (Prod.snd (List.getD L
      (T24.NSt.i b) (Ty.dflt T24.oty)))) ++ [T24.markP])) : Int)) ∧ True ∧ (∃ (x : Unit), (T24.vq L to (List.length (T24.NSt.Hv b)) (↑(T24.NSt.sent b) : Int) (↑(T24.NSt.i b) :
      Int) [SV.ptr (6 : Nat) (0 : Nat), SV.sl (7 : Nat) (3 : Nat) (0 : Nat) (List.length (Prod.snd (Prod.snd (List.getD L (T24.NSt.i b) (Ty.dflt T24.oty)))))], T24.hpq
      (T24.NSt.m b) (↑(T24.NSt.sent b) : Int) (T24.NSt.R b) (T24.NSt.Hv b) (List.length (T24.NSt.LL b)) (List.length (T24.NSt.LL b)) (T24.NSt.LL b) (T24.NSt.LL b) [SO.cells (56
      : Nat) [SV.lit (Value.int IntKind.i64 (Prod.fst (List.getD L (T24.NSt.i b) (Ty.dflt T24.oty)))), SV.lit (Value.int IntKind.i64 (Prod.fst (Prod.snd (List.getD L (T24.NSt.i
      b) (Ty.dflt T24.oty))))), SV.imm T24.pty (Prod.snd (Prod.snd (List.getD L (T24.NSt.i b) (Ty.dflt T24.oty))))], SO.row (37 : Nat) T24.pty (List.take (List.length (Prod.snd
      (Prod.snd (List.getD L (T24.NSt.i b) (Ty.dflt T24.oty))))) (Prod.snd (Prod.snd (List.getD L (T24.NSt.i b) (Ty.dflt T24.oty)))) ++ [T24.markP])]) = (T24.vq L to
      (List.length (T24.NSt.Hv b)) (↑(T24.NSt.sent b) : Int) (↑(T24.NSt.i b) : Int) [SV.ptr (6 : Nat) (0 : Nat), SV.sl (7 : Nat) (3 : Nat) (0 : Nat) (List.length (Prod.snd
      (Prod.snd (List.getD L (T24.NSt.i b) (Ty.dflt T24.oty)))))], T24.hpq (T24.NSt.m b) (↑(T24.NSt.sent b) : Int) (T24.NSt.R b) (T24.NSt.Hv b) (List.length (T24.NSt.LL b))
      (List.length (T24.NSt.LL b)) (T24.NSt.LL b) (T24.NSt.LL b) [SO.cells (56 : Nat) [SV.lit (Value.int IntKind.i64 (Prod.fst (List.getD L (T24.NSt.i b) (Ty.dflt T24.oty)))),
      SV.lit (Value.int IntKind.i64 (Prod.fst (Prod.snd (List.getD L (T24.NSt.i b) (Ty.dflt T24.oty))))), SV.imm T24.pty (Prod.snd (Prod.snd (List.getD L (T24.NSt.i b) (Ty.dflt
      T24.oty))))], SO.row (37 : Nat) T24.pty (Prod.snd (Prod.snd (List.getD L (T24.NSt.i b) (Ty.dflt T24.oty))) ++ [T24.markP])]) ∧ True) ∧ True))) (∀ (b_7 : Bool), True → br
      b_7 (((↑((0 : Nat) + List.length (Prod.snd (Prod.snd (List.getD L (T24.NSt.i b) (Ty.dflt T24.oty))))) : Int) ≤ (9223372036854775807 : Int) ∧ ((0 : Nat) + List.length
      (Prod.snd (Prod.snd (List.getD L (T24.NSt.i b) (Ty.dflt T24.oty))))) * Sx.bytesOf Go.Proofs.Try.prog (37 : Nat) ≤ (140737488355328 : Nat)) ∧ (1 : Nat) ≤ (1 : Nat) ∧ Sx.br
      (decide (List.length (Prod.snd (Prod.snd (List.getD L (T24.NSt.i b) (Ty.dflt T24.oty)))) + (1 : Nat) ≤ List.length (Prod.snd (Prod.snd (List.getD L (T24.NSt.i b) (Ty.dflt
      T24.oty)))))) (((0 : Int) ≤ (↑(List.length (Prod.snd (Prod.snd (List.getD L (T24.NSt.i b) (Ty.dflt T24.oty))))) : Int) ∧ (↑(List.length (Prod.snd (Prod.snd (List.getD L
      (T24.NSt.i b) (Ty.dflt T24.oty))))) : Int) ≤ (↑(List.length (List.take (List.length (Prod.snd (Prod.snd (List.getD L (T24.NSt.i b) (Ty.dflt T24.oty))))) (Prod.snd
      (Prod.snd (List.getD L (T24.NSt.i b) (Ty.dflt T24.oty)))) ++ [T24.markP] ++ List.drop (List.length (Prod.snd (Prod.snd (List.getD L (T24.NSt.i b) (Ty.dflt T24.oty)))) + (1
      : Nat)) (Prod.snd (Prod.snd (List.getD L (T24.NSt.i b) (Ty.dflt T24.oty)))))) : Int)) ∧ True ∧ (∃ (x : Unit), (T24.vq L to (List.length (T24.NSt.Hv b)) (↑(T24.NSt.sent b)
      : Int) (↑(T24.NSt.i b) : Int) [SV.ptr (6 : Nat) (0 : Nat), SV.sl (7 : Nat) (3 : Nat) (0 : Nat) (List.length (Prod.snd (Prod.snd (List.getD L (T24.NSt.i b) (Ty.dflt
      T24.oty)))))], T24.hpq (T24.NSt.m b) (↑(T24.NSt.sent b) : Int) (T24.NSt.R b) (T24.NSt.Hv b) (List.length (T24.NSt.LL b)) (List.length (T24.NSt.LL b)) (T24.NSt.LL b)
      (T24.NSt.LL b) [SO.cells (56 : Nat) [SV.lit (Value.int IntKind.i64 (Prod.fst (List.getD L (T24.NSt.i b) (Ty.dflt T24.oty)))), SV.lit (Value.int IntKind.i64 (Prod.fst
      (Prod.snd (List.getD L (T24.NSt.i b) (Ty.dflt T24.oty))))), SV.imm T24.pty (Prod.snd (Prod.snd (List.getD L (T24.NSt.i b) (Ty.dflt T24.oty))))], SO.row (37 : Nat) T24.pty
      (List.take (List.length (Prod.snd (Prod.snd (List.getD L (T24.NSt.i b) (Ty.dflt T24.oty))))) (Prod.snd (Prod.snd (List.getD L (T24.NSt.i b) (Ty.dflt T24.oty)))) ++
      [T24.markP] ++ List.drop (List.length (Prod.snd (Prod.snd (List.getD L (T24.NSt.i b) (Ty.dflt T24.oty)))) + (1 : Nat)) (Prod.snd (Prod.snd (List.getD L (T24.NSt.i b)
      (Ty.dflt T24.oty)))))]) = (T24.vq L to (List.length (T24.NSt.Hv b)) (↑(T24.NSt.sent b) : Int) (↑(T24.NSt.i b) : Int) [SV.ptr (6 : Nat) (0 : Nat), SV.sl (7 : Nat) (3 : Nat)
      (0 : Nat) (List.length (Prod.snd (Prod.snd (List.getD L (T24.NSt.i b) (Ty.dflt T24.oty)))))], T24.hpq (T24.NSt.m b) (↑(T24.NSt.sent b) : Int) (T24.NSt.R b) (T24.NSt.Hv b)
      (List.length (T24.NSt.LL b)) (List.length (T24.NSt.LL b)) (T24.NSt.LL b) (T24.NSt.LL b) [SO.cells (56 : Nat) [SV.lit (Value.int IntKind.i64 (Prod.fst (List.getD L
      (T24.NSt.i b) (Ty.dflt T24.oty)))), SV.lit (Value.int IntKind.i64 (Prod.fst (Prod.snd (List.getD L (T24.NSt.i b) (Ty.dflt T24.oty))))), SV.imm T24.pty (Prod.snd (Prod.snd
      (List.getD L (T24.NSt.i b) (Ty.dflt T24.oty))))], SO.row (37 : Nat) T24.pty (Prod.snd (Prod.snd (List.getD L (T24.NSt.i b) (Ty.dflt T24.oty))) ++ [T24.markP])]) ∧ True) ∧
      True) (List.length (Prod.snd (Prod.snd (List.getD L (T24.NSt.i b) (Ty.dflt T24.oty)))) ≤ List.length (Prod.snd (Prod.snd (List.getD L (T24.NSt.i b) (Ty.dflt T24.oty)))) ∧
      ((↑(List.length (Prod.snd (Prod.snd (List.getD L (T24.NSt.i b) (Ty.dflt T24.oty)))) + (1 : Nat)) : Int) ≤ (9223372036854775807 : Int) ∧ (List.length (Prod.snd (Prod.snd
      (List.getD L (T24.NSt.i b) (Ty.dflt T24.oty)))) + (1 : Nat)) * Sx.bytesOf Go.Proofs.Try.prog (37 : Nat) ≤ (140737488355328 : Nat)) ∧ ((0 : Int) ≤ (↑(List.length (Prod.snd
      (Prod.snd (List.getD L (T24.NSt.i b) (Ty.dflt T24.oty))))) : Int) ∧ (↑(List.length (Prod.snd (Prod.snd (List.getD L (T24.NSt.i b) (Ty.dflt T24.oty))))) : Int) ≤
      (↑(List.length (List.take (List.length (Prod.snd (Prod.snd (List.getD L (T24.NSt.i b) (Ty.dflt T24.oty))))) (Prod.snd (Prod.snd (List.getD L (T24.NSt.i b) (Ty.dflt
      T24.oty)))) ++ [T24.markP])) : Int)) ∧ True ∧ (∃ (x : Unit), (T24.vq L to (List.length (T24.NSt.Hv b)) (↑(T24.NSt.sent b) : Int) (↑(T24.NSt.i b) : Int) [SV.ptr (6 : Nat)
      (0 : Nat), SV.sl (7 : Nat) (3 : Nat) (0 : Nat) (List.length (Prod.snd (Prod.snd (List.getD L (T24.NSt.i b) (Ty.dflt T24.oty)))))], T24.hpq (T24.NSt.m b) (↑(T24.NSt.sent b)
      : Int) (T24.NSt.R b) (T24.NSt.Hv b) (List.length (T24.NSt.LL b)) (List.length (T24.NSt.LL b)) (T24.NSt.LL b) (T24.NSt.LL b) [SO.cells (56 : Nat) [SV.lit (Value.int
      IntKind.i64 (Prod.fst (List.getD L (T24.NSt.i b) (Ty.dflt T24.oty)))), SV.lit (Value.int IntKind.i64 (Prod.fst (Prod.snd (List.getD L (T24.NSt.i b) (Ty.dflt T24.oty))))),
      SV.imm T24.pty (Prod.snd (Prod.snd (List.getD L (T24.NSt.i b) (Ty.dflt T24.oty))))], SO.row (37 : Nat) T24.pty (List.take (List.length (Prod.snd (Prod.snd (List.getD L
      (T24.NSt.i b) (Ty.dflt T24.oty))))) (Prod.snd (Prod.snd (List.getD L (T24.NSt.i b) (Ty.dflt T24.oty)))) ++ [T24.markP])]) = (T24.vq L to (List.length (T24.NSt.Hv b))
      (↑(T24.NSt.sent b) : Int) (↑(T24.NSt.i b) : Int) [SV.ptr (6 : Nat) (0 : Nat), SV.sl (7 : Nat) (3 : Nat) (0 : Nat) (List.length (Prod.snd (Prod.snd (List.getD L (T24.NSt.i
      b) (Ty.dflt T24.oty)))))], T24.hpq (T24.NSt.m b) (↑(T24.NSt.sent b) : Int) (T24.NSt.R b) (T24.NSt.Hv b) (List.length (T24.NSt.LL b)) (List.length (T24.NSt.LL b))
      (T24.NSt.LL b) (T24.NSt.LL b) [SO.cells (56 : Nat) [SV.lit (Value.int IntKind.i64 (Prod.fst (List.getD L (T24.NSt.i b) (Ty.dflt T24.oty)))), SV.lit (Value.int IntKind.i64
      (Prod.fst (Prod.snd (List.getD L (T24.NSt.i b) (Ty.dflt T24.oty))))), SV.imm T24.pty (Prod.snd (Prod.snd (List.getD L (T24.NSt.i b) (Ty.dflt T24.oty))))], SO.row (37 :
      Nat) T24.pty (Prod.snd (Prod.snd (List.getD L (T24.NSt.i b) (Ty.dflt T24.oty))) ++ [T24.markP])]) ∧ True) ∧ True)) (((↑((0 : Nat) + List.length (Prod.snd (Prod.snd
      (List.getD L (T24.NSt.i b) (Ty.dflt T24.oty))))) : Int) ≤ (9223372036854775807 : Int) ∧ ((0 : Nat) + List.length (Prod.snd (Prod.snd (List.getD L (T24.NSt.i b) (Ty.dflt
      T24.oty))))) * Sx.bytesOf Go.Proofs.Try.prog (37 : Nat) ≤ (140737488355328 : Nat)) ∧ (1 : Nat) ≤ (1 : Nat) ∧ Sx.br (decide (List.length (Prod.snd (Prod.snd (List.getD L
      (T24.NSt.i b) (Ty.dflt T24.oty)))) + (1 : Nat) ≤ List.length (Prod.snd (Prod.snd (List.getD L (T24.NSt.i b) (Ty.dflt T24.oty)))))) (((0 : Int) ≤ (↑(List.length (Prod.snd
      (Prod.snd (List.getD L (T24.NSt.i b) (Ty.dflt T24.oty))))) : Int) ∧ (↑(List.length (Prod.snd (Prod.snd (List.getD L (T24.NSt.i b) (Ty.dflt T24.oty))))) : Int) ≤
      (↑(List.length (List.take (List.length (Prod.snd (Prod.snd (List.getD L (T24.NSt.i b) (Ty.dflt T24.oty))))) (Prod.snd (Prod.snd (List.getD L (T24.NSt.i b) (Ty.dflt
      T24.oty)))) ++ [T24.markP] ++ List.drop (List.length (Prod.snd (Prod.snd (List.getD L (T24.NSt.i b) (Ty.dflt T24.oty)))) + (1 : Nat)) (Prod.snd (Prod.snd (List.getD L
      (T24.NSt.i b) (Ty.dflt T24.oty)))))) : Int)) ∧ True ∧ (∃ (x : Unit), (T24.vq L to (List.length (T24.NSt.Hv b)) (↑(T24.NSt.sent b) : Int) (↑(T24.NSt.i b) : Int) [SV.ptr (6
      : Nat) (0 : Nat), SV.sl (7 : Nat) (3 : Nat) (0 : Nat) (List.length (Prod.snd (Prod.snd (List.getD L (T24.NSt.i b) (Ty.dflt T24.oty)))))], T24.hpq (T24.NSt.m b)
      (↑(T24.NSt.sent b) : Int) (T24.NSt.R b) (T24.NSt.Hv b) (List.length (T24.NSt.LL b)) (List.length (T24.NSt.LL b)) (T24.NSt.LL b) (T24.NSt.LL b) [SO.cells (56 : Nat) [SV.lit
      (Value.int IntKind.i64 (Prod.fst (List.getD L (T24.NSt.i b) (Ty.dflt T24.oty)))), SV.lit (Value.int IntKind.i64 (Prod.fst (Prod.snd (List.getD L (T24.NSt.i b) (Ty.dflt
      T24.oty))))), SV.imm T24.pty (Prod.snd (Prod.snd (List.getD L (T24.NSt.i b) (Ty.dflt T24.oty))))], SO.row (37 : Nat) T24.pty (List.take (List.length (Prod.snd (Prod.snd
      (List.getD L (T24.NSt.i b) (Ty.dflt T24.oty))))) (Prod.snd (Prod.snd (List.getD L (T24.NSt.i b) (Ty.dflt T24.oty)))) ++ [T24.markP] ++ List.drop (List.length (Prod.snd
      (Prod.snd (List.getD L (T24.NSt.i b) (Ty.dflt T24.oty)))) + (1 : Nat)) (Prod.snd (Prod.snd (List.getD L (T24.NSt.i b) (Ty.dflt T24.oty)))))]) = (T24.vq L to (List.length
      (T24.NSt.Hv b)) (↑(T24.NSt.sent b) : Int) (↑(T24.NSt.i b) : Int) [SV.ptr (6 : Nat) (0 : Nat), SV.sl (7 : Nat) (3 : Nat) (0 : Nat) (List.length (Prod.snd (Prod.snd
      (List.getD L (T24.NSt.i b) (Ty.dflt T24.oty)))))], T24.hpq (T24.NSt.m b) (↑(T24.NSt.sent b) : Int) (T24.NSt.R b) (T24.NSt.Hv b) (List.length (T24.NSt.LL b)) (List.length
      (T24.NSt.LL b)) (T24.NSt.LL b) (T24.NSt.LL b) [SO.cells (56 : Nat) [SV.lit (Value.int IntKind.i64 (Prod.fst (List.getD L (T24.NSt.i b) (Ty.dflt T24.oty)))), SV.lit
      (Value.int IntKind.i64 (Prod.fst (Prod.snd (List.getD L (T24.NSt.i b) (Ty.dflt T24.oty))))), SV.imm T24.pty (Prod.snd (Prod.snd (List.getD L (T24.NSt.i b) (Ty.dflt
      T24.oty))))], SO.row (37 : Nat) T24.pty (Prod.snd (Prod.snd (List.getD L (T24.NSt.i b) (Ty.dflt T24.oty))) ++ [T24.markP])]) ∧ True) ∧ True) (List.length (Prod.snd
      (Prod.snd (List.getD L (T24.NSt.i b) (Ty.dflt T24.oty)))) ≤ List.length (Prod.snd (Prod.snd (List.getD L (T24.NSt.i b) (Ty.dflt T24.oty)))) ∧ ((↑(List.length (Prod.snd
      (Prod.snd (List.getD L (T24.NSt.i b) (Ty.dflt T24.oty)))) + (1 : Nat)) : Int) ≤ (9223372036854775807 : Int) ∧ (List.length (Prod.snd (Prod.snd (List.getD L (T24.NSt.i b)
      (Ty.dflt T24.oty)))) + (1 : Nat)) * Sx.bytesOf Go.Proofs.Try.prog (37 : Nat) ≤ (140737488355328 : Nat)) ∧ ((0 : Int) ≤ (↑(List.length (Prod.snd (Prod.snd (List.getD L
      (T24.NSt.i b) (Ty.dflt T24.oty))))) : Int) ∧ (↑(List.length (Prod.snd (Prod.snd (List.getD L (T24.NSt.i b) (Ty.dflt T24.oty))))) : Int) ≤ (↑(List.length (List.take
      (List.length (Prod.snd (Prod.snd (List.getD L (T24.NSt.i b) (Ty.dflt T24.oty))))) (Prod.snd (Prod.snd (List.getD L (T24.NSt.i b) (Ty.dflt T24.oty)))) ++ [T24.markP])) :
      Int)) ∧ True ∧ (∃ (x : Unit), (T24.vq L to (List.length (T24.NSt.Hv b)) (↑(T24.NSt.sent b) : Int) (↑(T24.NSt.i b) : Int) [SV.ptr (6 : Nat) (0 : Nat), SV.sl (7 : Nat) (3 :
      Nat) (0 : Nat) (List.length (Prod.snd (Prod.snd (List.getD L (T24.NSt.i b) (Ty.dflt T24.oty)))))], T24.hpq (T24.NSt.m b) (↑(T24.NSt.sent b) : Int) (T24.NSt.R b)
      (T24.NSt.Hv b) (List.length (T24.NSt.LL b)) (List.length (T24.NSt.LL b)) (T24.NSt.LL b) (T24.NSt.LL b) [SO.cells (56 : Nat) [SV.lit (Value.int IntKind.i64 (Prod.fst
      (List.getD L (T24.NSt.i b) (Ty.dflt T24.oty)))), SV.lit (Value.int IntKind.i64 (Prod.fst (Prod.snd (List.getD L (T24.NSt.i b) (Ty.dflt T24.oty))))), SV.imm T24.pty
      (Prod.snd (Prod.snd (List.getD L (T24.NSt.i b) (Ty.dflt T24.oty))))], SO.row (37 : Nat) T24.pty (List.take (List.length (Prod.snd (Prod.snd (List.getD L (T24.NSt.i b)
      (Ty.dflt T24.oty))))) (Prod.snd (Prod.snd (List.getD L (T24.NSt.i b) (Ty.dflt T24.oty)))) ++ [T24.markP])]) = (T24.vq L to (List.length (T24.NSt.Hv b)) (↑(T24.NSt.sent b)
      : Int) (↑(T24.NSt.i b) : Int) [SV.ptr (6 : Nat) (0 : Nat), SV.sl (7 : Nat) (3 : Nat) (0 : Nat) (List.length (Prod.snd (Prod.snd (List.getD L (T24.NSt.i b) (Ty.dflt
      T24.oty)))))], T24.hpq (T24.NSt.m b) (↑(T24.NSt.sent b) : Int) (T24.NSt.R b) (T24.NSt.Hv b) (List.length (T24.NSt.LL b)) (List.length (T24.NSt.LL b)) (T24.NSt.LL b)
      (T24.NSt.LL b) [SO.cells (56 : Nat) [SV.lit (Value.int IntKind.i64 (Prod.fst (List.getD L (T24.NSt.i b) (Ty.dflt T24.oty)))), SV.lit (Value.int IntKind.i64 (Prod.fst
      (Prod.snd (List.getD L (T24.NSt.i b) (Ty.dflt T24.oty))))), SV.imm T24.pty (Prod.snd (Prod.snd (List.getD L (T24.NSt.i b) (Ty.dflt T24.oty))))], SO.row (37 : Nat) T24.pty
      (Prod.snd (Prod.snd (List.getD L (T24.NSt.i b) (Ty.dflt T24.oty))) ++ [T24.markP])]) ∧ True) ∧ True))))) (∀ (b_5 : Unit), True → (∃ (x : Nat), (T24.vq L to (List.length
      (T24.NSt.Hv b)) (↑(T24.NSt.sent b) : Int) (↑(T24.NSt.i b) : Int) [SV.ptr (6 : Nat) (0 : Nat), SV.sl (7 : Nat) (3 : Nat) (0 : Nat) (List.length (Prod.snd (Prod.snd
      (List.getD L (T24.NSt.i b) (Ty.dflt T24.oty))))), SV.lit (Value.int IntKind.i64 (0 : Int))], T24.hpq (T24.NSt.m b) (↑(T24.NSt.sent b) : Int) (T24.NSt.R b) (T24.NSt.Hv b)
      (List.length (T24.NSt.LL b)) (List.length (T24.NSt.LL b)) (T24.NSt.LL b) (T24.NSt.LL b) [SO.cells (56 : Nat) [SV.lit (Value.int IntKind.i64 (Prod.fst (List.getD L
      (T24.NSt.i b) (Ty.dflt T24.oty)))), SV.lit (Value.int IntKind.i64 (Prod.fst (Prod.snd (List.getD L (T24.NSt.i b) (Ty.dflt T24.oty))))), SV.imm T24.pty (Prod.snd (Prod.snd
      (List.getD L (T24.NSt.i b) (Ty.dflt T24.oty))))], SO.row (37 : Nat) T24.pty (Prod.snd (Prod.snd (List.getD L (T24.NSt.i b) (Ty.dflt T24.oty))) ++ [T24.markP])]) = (T24.vq
      L to (List.length (T24.sends (T24.NSt.Hv b) (List.take x (Prod.snd (Prod.snd (List.getD L (T24.NSt.i b) (Ty.dflt T24.oty))))))) (↑(T24.NSt.sent b) : Int) (↑(T24.NSt.i b) :
      Int) [SV.ptr (6 : Nat) (0 : Nat), SV.sl (7 : Nat) (3 : Nat) (0 : Nat) (List.length (Prod.snd (Prod.snd (List.getD L (T24.NSt.i b) (Ty.dflt T24.oty))))), SV.lit (Value.int
      IntKind.i64 (↑x : Int))], T24.hpq (T24.NSt.m b) (↑(T24.NSt.sent b) : Int) (T24.NSt.R b) (T24.sends (T24.NSt.Hv b) (List.take x (Prod.snd (Prod.snd (List.getD L (T24.NSt.i
      b) (Ty.dflt T24.oty)))))) (List.length (T24.NSt.LL b)) (List.length (T24.NSt.LL b)) (T24.NSt.LL b) (T24.NSt.LL b) [SO.cells (56 : Nat) [SV.lit (Value.int IntKind.i64
      (Prod.fst (List.getD L (T24.NSt.i b) (Ty.dflt T24.oty)))), SV.lit (Value.int IntKind.i64 (Prod.fst (Prod.snd (List.getD L (T24.NSt.i b) (Ty.dflt T24.oty))))), SV.imm
      T24.pty (Prod.snd (Prod.snd (List.getD L (T24.NSt.i b) (Ty.dflt T24.oty))))], SO.row (37 : Nat) T24.pty (Prod.snd (Prod.snd (List.getD L (T24.NSt.i b) (Ty.dflt T24.oty)))
      ++ [T24.markP])]) ∧ x ≤ List.length (Prod.snd (Prod.snd (List.getD L (T24.NSt.i b) (Ty.dflt T24.oty))))) ∧ ∀ (b_6 : Nat), b_6 ≤ List.length (Prod.snd (Prod.snd (List.getD
      L (T24.NSt.i b) (Ty.dflt T24.oty)))) → Sx.br (decide ((↑b_6 : Int) < (↑(List.length (Prod.snd (Prod.snd (List.getD L (T24.NSt.i b) (Ty.dflt T24.oty))))) : Int))) (((0 :
      Int) ≤ (↑b_6 : Int) ∧ (↑b_6 : Int) < (↑(List.length (Prod.snd (Prod.snd (List.getD L (T24.NSt.i b) (Ty.dflt T24.oty))))) : Int)) ∧ b_6 < List.length (Prod.snd (Prod.snd
      (List.getD L (T24.NSt.i b) (Ty.dflt T24.oty)))) ∧ Sx.br (decide ((↑(ByteArray.size (Prod.snd (Prod.snd (List.getD (Prod.snd (Prod.snd (List.getD L (T24.NSt.i b) (Ty.dflt
      T24.oty)))) b_6 (Ty.dflt T24.pty))))) : Int) > (500 : Int))) (Q (SV.lit (Value.bool true), ([] : List Sx.SO), [])) (Sx.br (decide ((↑(List.length (T24.sends (T24.NSt.Hv b)
      (List.take b_6 (Prod.snd (Prod.snd (List.getD L (T24.NSt.i b) (Ty.dflt T24.oty))))))) : Int) < (200 : Int))) (((0 : Int) ≤ (↑b_6 : Int) ∧ (↑b_6 : Int) < (↑(List.length
      (Prod.snd (Prod.snd (List.getD L (T24.NSt.i b) (Ty.dflt T24.oty))))) : Int)) ∧ b_6 < List.length (Prod.snd (Prod.snd (List.getD L (T24.NSt.i b) (Ty.dflt T24.oty)))) ∧
      Sx.br (decide ((↑(ByteArray.size (Prod.snd (Prod.snd (List.getD (Prod.snd (Prod.snd (List.getD L (T24.NSt.i b) (Ty.dflt T24.oty)))) b_6 (Ty.dflt T24.pty))))) : Int) ≤
      (20100 : Int))) (∀ (b_7 : Bool), True → br b_7 ((0 : Nat) + List.length (T24.sends (T24.NSt.Hv b) (List.take b_6 (Prod.snd (Prod.snd (List.getD L (T24.NSt.i b) (Ty.dflt
      T24.oty)))))) ≤ List.length (T24.sends (T24.NSt.Hv b) (List.take b_6 (Prod.snd (Prod.snd (List.getD L (T24.NSt.i b) (Ty.dflt T24.oty)))))) ∧ ((↑((0 : Nat) + List.length
      (List.take (List.length (T24.sends (T24.NSt.Hv b) (List.take b_6 (Prod.snd (Prod.snd (List.getD L (T24.NSt.i b) (Ty.dflt T24.oty))))))) (List.drop (0 : Nat) (T24.sends
      (T24.NSt.Hv b) (List.take b_6 (Prod.snd (Prod.snd (List.getD L (T24.NSt.i b) (Ty.dflt T24.oty))))))))) : Int) ≤ (9223372036854775807 : Int) ∧ ((0 : Nat) + List.length
      (List.take (List.length (T24.sends (T24.NSt.Hv b) (List.take b_6 (Prod.snd (Prod.snd (List.getD L (T24.NSt.i b) (Ty.dflt T24.oty))))))) (List.drop (0 : Nat) (T24.sends
      (T24.NSt.Hv b) (List.take b_6 (Prod.snd (Prod.snd (List.getD L (T24.NSt.i b) (Ty.dflt T24.oty))))))))) * Sx.bytesOf Go.Proofs.Try.prog (37 : Nat) ≤ (140737488355328 :
      Nat)) ∧ ((0 : Int) ≤ (↑b_6 : Int) ∧ (↑b_6 : Int) < (↑(List.length (Prod.snd (Prod.snd (List.getD L (T24.NSt.i b) (Ty.dflt T24.oty))))) : Int)) ∧ b_6 < List.length
      (Prod.snd (Prod.snd (List.getD L (T24.NSt.i b) (Ty.dflt T24.oty)))) ∧ (1 : Nat) ≤ (1 : Nat) ∧ Sx.br (decide (List.length (List.take (List.length (T24.sends (T24.NSt.Hv b)
      (List.take b_6 (Prod.snd (Prod.snd (List.getD L (T24.NSt.i b) (Ty.dflt T24.oty))))))) (List.drop (0 : Nat) (T24.sends (T24.NSt.Hv b) (List.take b_6 (Prod.snd (Prod.snd
      (List.getD L (T24.NSt.i b) (Ty.dflt T24.oty)))))))) + (1 : Nat) ≤ List.length (List.take (List.length (T24.sends (T24.NSt.Hv b) (List.take b_6 (Prod.snd (Prod.snd
      (List.getD L (T24.NSt.i b) (Ty.dflt T24.oty))))))) (List.drop (0 : Nat) (T24.sends (T24.NSt.Hv b) (List.take b_6 (Prod.snd (Prod.snd (List.getD L (T24.NSt.i b) (Ty.dflt
      T24.oty)))))))))) ((∃ (x' : Nat), (T24.vq L to (List.length (List.take (List.length (T24.sends (T24.NSt.Hv b) (List.take b_6 (Prod.snd (Prod.snd (List.getD L (T24.NSt.i b)
      (Ty.dflt T24.oty))))))) (List.drop (0 : Nat) (T24.sends (T24.NSt.Hv b) (List.take b_6 (Prod.snd (Prod.snd (List.getD L (T24.NSt.i b) (Ty.dflt T24.oty)))))))) + (1 : Nat))
      (↑(T24.NSt.sent b) : Int) (↑(T24.NSt.i b) : Int) [SV.ptr (6 : Nat) (0 : Nat), SV.sl (7 : Nat) (3 : Nat) (0 : Nat) (List.length (Prod.snd (Prod.snd (List.getD L (T24.NSt.i
      b) (Ty.dflt T24.oty))))), SV.lit (Value.int IntKind.i64 (IntKind.wrap IntKind.i64 ((↑b_6 : Int) + (1 : Int))))], T24.hpq (T24.NSt.m b) (↑(T24.NSt.sent b) : Int) (T24.NSt.R
      b) (List.take (List.length (List.take (List.length (T24.sends (T24.NSt.Hv b) (List.take b_6 (Prod.snd (Prod.snd (List.getD L (T24.NSt.i b) (Ty.dflt T24.oty)))))))
      (List.drop (0 : Nat) (T24.sends (T24.NSt.Hv b) (List.take b_6 (Prod.snd (Prod.snd (List.getD L (T24.NSt.i b) (Ty.dflt T24.oty))))))))) (List.take (List.length (T24.sends
      (T24.NSt.Hv b) (List.take b_6 (Prod.snd (Prod.snd (List.getD L (T24.NSt.i b) (Ty.dflt T24.oty))))))) (List.drop (0 : Nat) (T24.sends (T24.NSt.Hv b) (List.take b_6
      (Prod.snd (Prod.snd (List.getD L (T24.NSt.i b) (Ty.dflt T24.oty)))))))) ++ [(Prod.fst (List.getD (Prod.snd (Prod.snd (List.getD L (T24.NSt.i b) (Ty.dflt T24.oty)))) b_6
      (Ty.dflt T24.pty)), Prod.fst (Prod.snd (List.getD (Prod.snd (Prod.snd (List.getD L (T24.NSt.i b) (Ty.dflt T24.oty)))) b_6 (Ty.dflt T24.pty))), Prod.snd (Prod.snd
      (List.getD (Prod.snd (Prod.snd (List.getD L (T24.NSt.i b) (Ty.dflt T24.oty)))) b_6 (Ty.dflt T24.pty))))] ++ List.drop (List.length (List.take (List.length (T24.sends
      (T24.NSt.Hv b) (List.take b_6 (Prod.snd (Prod.snd (List.getD L (T24.NSt.i b) (Ty.dflt T24.oty))))))) (List.drop (0 : Nat) (T24.sends (T24.NSt.Hv b) (List.take b_6
      (Prod.snd (Prod.snd (List.getD L (T24.NSt.i b) (Ty.dflt T24.oty)))))))) + (1 : Nat)) (List.take (List.length (T24.sends (T24.NSt.Hv b) (List.take b_6 (Prod.snd (Prod.snd
      (List.getD L (T24.NSt.i b) (Ty.dflt T24.oty))))))) (List.drop (0 : Nat) (T24.sends (T24.NSt.Hv b) (List.take b_6 (Prod.snd (Prod.snd (List.getD L (T24.NSt.i b) (Ty.dflt
      T24.oty))))))))) (List.length (T24.NSt.LL b)) (List.length (T24.NSt.LL b)) (T24.NSt.LL b) (T24.NSt.LL b) [SO.cells (56 : Nat) [SV.lit (Value.int IntKind.i64 (Prod.fst
      (List.getD L (T24.NSt.i b) (Ty.dflt T24.oty)))), SV.lit (Value.int IntKind.i64 (Prod.fst (Prod.snd (List.getD L (T24.NSt.i b) (Ty.dflt T24.oty))))), SV.imm T24.pty
      (Prod.snd (Prod.snd (List.getD L (T24.NSt.i b) (Ty.dflt T24.oty))))], SO.row (37 : Nat) T24.pty (Prod.snd (Prod.snd (List.getD L (T24.NSt.i b) (Ty.dflt T24.oty))) ++
      [T24.markP])]) = (T24.vq L to (List.length (T24.sends (T24.NSt.Hv b) (List.take x' (Prod.snd (Prod.snd (List.getD L (T24.NSt.i b) (Ty.dflt T24.oty))))))) (↑(T24.NSt.sent
      b) : Int) (↑(T24.NSt.i b) : Int) [SV.ptr (6 : Nat) (0 : Nat), SV.sl (7 : Nat) (3 : Nat) (0 : Nat) (List.length (Prod.snd (Prod.snd (List.getD L (T24.NSt.i b) (Ty.dflt
      T24.oty))))), SV.lit (Value.int IntKind.i64 (↑x' : Int))], T24.hpq (T24.NSt.m b) (↑(T24.NSt.sent b) : Int) (T24.NSt.R b) (T24.sends (T24.NSt.Hv b) (List.take x' (Prod.snd
      (Prod.snd (List.getD L (T24.NSt.i b) (Ty.dflt T24.oty)))))) (List.length (T24.NSt.LL b)) (List.length (T24.NSt.LL b)) (T24.NSt.LL b) (T24.NSt.LL b) [SO.cells (56 : Nat)
      [SV.lit (Value.int IntKind.i64 (Prod.fst (List.getD L (T24.NSt.i b) (Ty.dflt T24.oty)))), SV.lit (Value.int IntKind.i64 (Prod.fst (Prod.snd (List.getD L (T24.NSt.i b)
      (Ty.dflt T24.oty))))), SV.imm T24.pty (Prod.snd (Prod.snd (List.getD L (T24.NSt.i b) (Ty.dflt T24.oty))))], SO.row (37 : Nat) T24.pty (Prod.snd (Prod.snd (List.getD L
      (T24.NSt.i b) (Ty.dflt T24.oty))) ++ [T24.markP])]) ∧ x' ≤ List.length (Prod.snd (Prod.snd (List.getD L (T24.NSt.i b) (Ty.dflt T24.oty)))) ∧ List.length (Prod.snd
      (Prod.snd (List.getD L (T24.NSt.i b) (Ty.dflt T24.oty)))) - x' < List.length (Prod.snd (Prod.snd (List.getD L (T24.NSt.i b) (Ty.dflt T24.oty)))) - b_6) ∧ True)
      (List.length (List.take (List.length (T24.sends (T24.NSt.Hv b) (List.take b_6 (Prod.snd (Prod.snd (List.getD L (T24.NSt.i b) (Ty.dflt T24.oty))))))) (List.drop (0 : Nat)
      (T24.sends (T24.NSt.Hv b) (List.take b_6 (Prod.snd (Prod.snd (List.getD L (T24.NSt.i b) (Ty.dflt T24.oty)))))))) ≤ List.length (List.take (List.length (T24.sends
      (T24.NSt.Hv b) (List.take b_6 (Prod.snd (Prod.snd (List.getD L (T24.NSt.i b) (Ty.dflt T24.oty))))))) (List.drop (0 : Nat) (T24.sends (T24.NSt.Hv b) (List.take b_6
      (Prod.snd (Prod.snd (List.getD L (T24.NSt.i b) (Ty.dflt T24.oty)))))))) ∧ ((↑(List.length (List.take (List.length (T24.sends (T24.NSt.Hv b) (List.take b_6 (Prod.snd
      (Prod.snd (List.getD L (T24.NSt.i b) (Ty.dflt T24.oty))))))) (List.drop (0 : Nat) (T24.sends (T24.NSt.Hv b) (List.take b_6 (Prod.snd (Prod.snd (List.getD L (T24.NSt.i b)
      (Ty.dflt T24.oty)))))))) + (1 : Nat)) : Int) ≤ (9223372036854775807 : Int) ∧ (List.length (List.take (List.length (T24.sends (T24.NSt.Hv b) (List.take b_6 (Prod.snd
      (Prod.snd (List.getD L (T24.NSt.i b) (Ty.dflt T24.oty))))))) (List.drop (0 : Nat) (T24.sends (T24.NSt.Hv b) (List.take b_6 (Prod.snd (Prod.snd (List.getD L (T24.NSt.i b)
      (Ty.dflt T24.oty)))))))) + (1 : Nat)) * Sx.bytesOf Go.Proofs.Try.prog (37 : Nat) ≤ (140737488355328 : Nat)) ∧ (∃ (x' : Nat), (T24.vq L to (List.length (List.take
      (List.length (T24.sends (T24.NSt.Hv b) (List.take b_6 (Prod.snd (Prod.snd (List.getD L (T24.NSt.i b) (Ty.dflt T24.oty))))))) (List.drop (0 : Nat) (T24.sends (T24.NSt.Hv b)
      (List.take b_6 (Prod.snd (Prod.snd (List.getD L (T24.NSt.i b) (Ty.dflt T24.oty)))))))) + (1 : Nat)) (↑(T24.NSt.sent b) : Int) (↑(T24.NSt.i b) : Int) [SV.ptr (6 : Nat) (0 :
      Nat), SV.sl (7 : Nat) (3 : Nat) (0 : Nat) (List.length (Prod.snd (Prod.snd (List.getD L (T24.NSt.i b) (Ty.dflt T24.oty))))), SV.lit (Value.int IntKind.i64 (IntKind.wrap
      IntKind.i64 ((↑b_6 : Int) + (1 : Int))))], T24.hpq (T24.NSt.m b) (↑(T24.NSt.sent b) : Int) (T24.NSt.R b) (List.take (List.length (List.take (List.length (T24.sends
      (T24.NSt.Hv b) (List.take b_6 (Prod.snd (Prod.snd (List.getD L (T24.NSt.i b) (Ty.dflt T24.oty))))))) (List.drop (0 : Nat) (T24.sends (T24.NSt.Hv b) (List.take b_6
      (Prod.snd (Prod.snd (List.getD L (T24.NSt.i b) (Ty.dflt T24.oty))))))))) (List.take (List.length (T24.sends (T24.NSt.Hv b) (List.take b_6 (Prod.snd (Prod.snd (List.getD L
      (T24.NSt.i b) (Ty.dflt T24.oty))))))) (List.drop (0 : Nat) (T24.sends (T24.NSt.Hv b) (List.take b_6 (Prod.snd (Prod.snd (List.getD L (T24.NSt.i b) (Ty.dflt T24.oty))))))))
      ++ [(Prod.fst (List.getD (Prod.snd (Prod.snd (List.getD L (T24.NSt.i b) (Ty.dflt T24.oty)))) b_6 (Ty.dflt T24.pty)), Prod.fst (Prod.snd (List.getD (Prod.snd (Prod.snd
      (List.getD L (T24.NSt.i b) (Ty.dflt T24.oty)))) b_6 (Ty.dflt T24.pty))), Prod.snd (Prod.snd (List.getD (Prod.snd (Prod.snd (List.getD L (T24.NSt.i b) (Ty.dflt T24.oty))))
      b_6 (Ty.dflt T24.pty))))]) (List.length (T24.NSt.LL b)) (List.length (T24.NSt.LL b)) (T24.NSt.LL b) (T24.NSt.LL b) [SO.cells (56 : Nat) [SV.lit (Value.int IntKind.i64
      (Prod.fst (List.getD L (T24.NSt.i b) (Ty.dflt T24.oty)))), SV.lit (Value.int IntKind.i64 (Prod.fst (Prod.snd (List.getD L (T24.NSt.i b) (Ty.dflt T24.oty))))), SV.imm
      T24.pty (Prod.snd (Prod.snd (List.getD L (T24.NSt.i b) (Ty.dflt T24.oty))))], SO.row (37 : Nat) T24.pty (Prod.snd (Prod.snd (List.getD L (T24.NSt.i b) (Ty.dflt T24.oty)))
      ++ [T24.markP])]) = (T24.vq L to (List.length (T24.sends (T24.NSt.Hv b) (List.take x' (Prod.snd (Prod.snd (List.getD L (T24.NSt.i b) (Ty.dflt T24.oty)))))))
      (↑(T24.NSt.sent b) : Int) (↑(T24.NSt.i b) : Int) [SV.ptr (6 : Nat) (0 : Nat), SV.sl (7 : Nat) (3 : Nat) (0 : Nat) (List.length (Prod.snd (Prod.snd (List.getD L (T24.NSt.i
      b) (Ty.dflt T24.oty))))), SV.lit (Value.int IntKind.i64 (↑x' : Int))], T24.hpq (T24.NSt.m b) (↑(T24.NSt.sent b) : Int) (T24.NSt.R b) (T24.sends (T24.NSt.Hv b) (List.take
      x' (Prod.snd (Prod.snd (List.getD L (T24.NSt.i b) (Ty.dflt T24.oty)))))) (List.length (T24.NSt.LL b)) (List.length (T24.NSt.LL b)) (T24.NSt.LL b) (T24.NSt.LL b) [SO.cells
      (56 : Nat) [SV.lit (Value.int IntKind.i64 (Prod.fst (List.getD L (T24.NSt.i b) (Ty.dflt T24.oty)))), SV.lit (Value.int IntKind.i64 (Prod.fst (Prod.snd (List.getD L
      (T24.NSt.i b) (Ty.dflt T24.oty))))), SV.imm T24.pty (Prod.snd (Prod.snd (List.getD L (T24.NSt.i b) (Ty.dflt T24.oty))))], SO.row (37 : Nat) T24.pty (Prod.snd (Prod.snd
      (List.getD L (T24.NSt.i b) (Ty.dflt T24.oty))) ++ [T24.markP])]) ∧ x' ≤ List.length (Prod.snd (Prod.snd (List.getD L (T24.NSt.i b) (Ty.dflt T24.oty)))) ∧ List.length
      (Prod.snd (Prod.snd (List.getD L (T24.NSt.i b) (Ty.dflt T24.oty)))) - x' < List.length (Prod.snd (Prod.snd (List.getD L (T24.NSt.i b) (Ty.dflt T24.oty)))) - b_6) ∧ True))
      (((0 : Int) ≤ (↑b_6 : Int) ∧ (↑b_6 : Int) < (↑(List.length (Prod.snd (Prod.snd (List.getD L (T24.NSt.i b) (Ty.dflt T24.oty))))) : Int)) ∧ ∀ (b_8 : Bool), True → br b_8 ((0
      : Nat) + List.length (T24.sends (T24.NSt.Hv b) (List.take b_6 (Prod.snd (Prod.snd (List.getD L (T24.NSt.i b) (Ty.dflt T24.oty)))))) ≤ List.length (T24.sends (T24.NSt.Hv b)
      (List.take b_6 (Prod.snd (Prod.snd (List.getD L (T24.NSt.i b) (Ty.dflt T24.oty)))))) ∧ ((↑((0 : Nat) + List.length (List.take (List.length (T24.sends (T24.NSt.Hv b)
      (List.take b_6 (Prod.snd (Prod.snd (List.getD L (T24.NSt.i b) (Ty.dflt T24.oty))))))) (List.drop (0 : Nat) (T24.sends (T24.NSt.Hv b) (List.take b_6 (Prod.snd (Prod.snd
      (List.getD L (T24.NSt.i b) (Ty.dflt T24.oty))))))))) : Int) ≤ (9223372036854775807 : Int) ∧ ((0 : Nat) + List.length (List.take (List.length (T24.sends (T24.NSt.Hv b)
      (List.take b_6 (Prod.snd (Prod.snd (List.getD L (T24.NSt.i b) (Ty.dflt T24.oty))))))) (List.drop (0 : Nat) (T24.sends (T24.NSt.Hv b) (List.take b_6 (Prod.snd (Prod.snd
      (List.getD L (T24.NSt.i b) (Ty.dflt T24.oty))))))))) * Sx.bytesOf Go.Proofs.Try.prog (37 : Nat) ≤ (140737488355328 : Nat)) ∧ b_6 < List.length (Prod.snd (Prod.snd
      (List.getD L (T24.NSt.i b) (Ty.dflt T24.oty)))) ∧ (1 : Nat) ≤ (1 : Nat) ∧ Sx.br (decide (List.length (List.take (List.length (T24.sends (T24.NSt.Hv b) (List.take b_6
      (Prod.snd (Prod.snd (List.getD L (T24.NSt.i b) (Ty.dflt T24.oty))))))) (List.drop (0 : Nat) (T24.sends (T24.NSt.Hv b) (List.take b_6 (Prod.snd (Prod.snd (List.getD L
      (T24.NSt.i b) (Ty.dflt T24.oty)))))))) + (1 : Nat) ≤ List.length (List.take (List.length (T24.sends (T24.NSt.Hv b) (List.take b_6 (Prod.snd (Prod.snd (List.getD L
      (T24.NSt.i b) (Ty.dflt T24.oty))))))) (List.drop (0 : Nat) (T24.sends (T24.NSt.Hv b) (List.take b_6 (Prod.snd (Prod.snd (List.getD L (T24.NSt.i b) (Ty.dflt
      T24.oty)))))))))) ((∃ (x' : Nat), (T24.vq L to (List.length (List.take (List.length (T24.sends (T24.NSt.Hv b) (List.take b_6 (Prod.snd (Prod.snd (List.getD L (T24.NSt.i b)
      (Ty.dflt T24.oty))))))) (List.drop (0 : Nat) (T24.sends (T24.NSt.Hv b) (List.take b_6 (Prod.snd (Prod.snd (List.getD L (T24.NSt.i b) (Ty.dflt T24.oty)))))))) + (1 : Nat))
      (↑(T24.NSt.sent b) : Int) (↑(T24.NSt.i b) : Int) [SV.ptr (6 : Nat) (0 : Nat), SV.sl (7 : Nat) (3 : Nat) (0 : Nat) (List.length (Prod.snd (Prod.snd (List.getD L (T24.NSt.i
      b) (Ty.dflt T24.oty))))), SV.lit (Value.int IntKind.i64 (IntKind.wrap IntKind.i64 ((↑b_6 : Int) + (1 : Int))))], T24.hpq (T24.NSt.m b) (↑(T24.NSt.sent b) : Int) (T24.NSt.R
      b) (List.take (List.length (List.take (List.length (T24.sends (T24.NSt.Hv b) (List.take b_6 (Prod.snd (Prod.snd (List.getD L (T24.NSt.i b) (Ty.dflt T24.oty)))))))
      (List.drop (0 : Nat) (T24.sends (T24.NSt.Hv b) (List.take b_6 (Prod.snd (Prod.snd (List.getD L (T24.NSt.i b) (Ty.dflt T24.oty))))))))) (List.take (List.length (T24.sends
      (T24.NSt.Hv b) (List.take b_6 (Prod.snd (Prod.snd (List.getD L (T24.NSt.i b) (Ty.dflt T24.oty))))))) (List.drop (0 : Nat) (T24.sends (T24.NSt.Hv b) (List.take b_6
      (Prod.snd (Prod.snd (List.getD L (T24.NSt.i b) (Ty.dflt T24.oty)))))))) ++ [(Prod.fst (List.getD (Prod.snd (Prod.snd (List.getD L (T24.NSt.i b) (Ty.dflt T24.oty)))) b_6
      (Ty.dflt T24.pty)), Prod.fst (Prod.snd (List.getD (Prod.snd (Prod.snd (List.getD L (T24.NSt.i b) (Ty.dflt T24.oty)))) b_6 (Ty.dflt T24.pty))), Prod.snd (Prod.snd
      (List.getD (Prod.snd (Prod.snd (List.getD L (T24.NSt.i b) (Ty.dflt T24.oty)))) b_6 (Ty.dflt T24.pty))))] ++ List.drop (List.length (List.take (List.length (T24.sends
      (T24.NSt.Hv b) (List.take b_6 (Prod.snd (Prod.snd (List.getD L (T24.NSt.i b) (Ty.dflt T24.oty))))))) (List.drop (0 : Nat) (T24.sends (T24.NSt.Hv b) (List.take b_6
      (Prod.snd (Prod.snd (List.getD L (T24.NSt.i b) (Ty.dflt T24.oty)))))))) + (1 : Nat)) (List.take (List.length (T24.sends (T24.NSt.Hv b) (List.take b_6 (Prod.snd (Prod.snd
      (List.getD L (T24.NSt.i b) (Ty.dflt T24.oty))))))) (List.drop (0 : Nat) (T24.sends (T24.NSt.Hv b) (List.take b_6 (Prod.snd (Prod.snd (List.getD L (T24.NSt.i b) (Ty.dflt
      T24.oty))))))))) (List.length (T24.NSt.LL b)) (List.length (T24.NSt.LL b)) (T24.NSt.LL b) (T24.NSt.LL b) [SO.cells (56 : Nat) [SV.lit (Value.int IntKind.i64 (Prod.fst
      (List.getD L (T24.NSt.i b) (Ty.dflt T24.oty)))), SV.lit (Value.int IntKind.i64 (Prod.fst (Prod.snd (List.getD L (T24.NSt.i b) (Ty.dflt T24.oty))))), SV.imm T24.pty
      (Prod.snd (Prod.snd (List.getD L (T24.NSt.i b) (Ty.dflt T24.oty))))], SO.row (37 : Nat) T24.pty (Prod.snd (Prod.snd (List.getD L (T24.NSt.i b) (Ty.dflt T24.oty))) ++
      [T24.markP])]) = (T24.vq L to (List.length (T24.sends (T24.NSt.Hv b) (List.take x' (Prod.snd (Prod.snd (List.getD L (T24.NSt.i b) (Ty.dflt T24.oty))))))) (↑(T24.NSt.sent
      b) : Int) (↑(T24.NSt.i b) : Int) [SV.ptr (6 : Nat) (0 : Nat), SV.sl (7 : Nat) (3 : Nat) (0 : Nat) (List.length (Prod.snd (Prod.snd (List.getD L (T24.NSt.i b) (Ty.dflt
      T24.oty))))), SV.lit (Value.int IntKind.i64 (↑x' : Int))], T24.hpq (T24.NSt.m b) (↑(T24.NSt.sent b) : Int) (T24.NSt.R b) (T24.sends (T24.NSt.Hv b) (List.take x' (Prod.snd
      (Prod.snd (List.getD L (T24.NSt.i b) (Ty.dflt T24.oty)))))) (List.length (T24.NSt.LL b)) (List.length (T24.NSt.LL b)) (T24.NSt.LL b) (T24.NSt.LL b) [SO.cells (56 : Nat)
      [SV.lit (Value.int IntKind.i64 (Prod.fst (List.getD L (T24.NSt.i b) (Ty.dflt T24.oty)))), SV.lit (Value.int IntKind.i64 (Prod.fst (Prod.snd (List.getD L (T24.NSt.i b)
      (Ty.dflt T24.oty))))), SV.imm T24.pty (Prod.snd (Prod.snd (List.getD L (T24.NSt.i b) (Ty.dflt T24.oty))))], SO.row (37 : Nat) T24.pty (Prod.snd (Prod.snd (List.getD L
      (T24.NSt.i b) (Ty.dflt T24.oty))) ++ [T24.markP])]) ∧ x' ≤ List.length (Prod.snd (Prod.snd (List.getD L (T24.NSt.i b) (Ty.dflt T24.oty)))) ∧ List.length (Prod.snd
      (Prod.snd (List.getD L (T24.NSt.i b) (Ty.dflt T24.oty)))) - x' < List.length (Prod.snd (Prod.snd (List.getD L (T24.NSt.i b) (Ty.dflt T24.oty)))) - b_6) ∧ True)
      (List.length (List.take (List.length (T24.sends (T24.NSt.Hv b) (List.take b_6 (Prod.snd (Prod.snd (List.getD L (T24.NSt.i b) (Ty.dflt T24.oty))))))) (List.drop (0 : Nat)
      (T24.sends (T24.NSt.Hv b) (List.take b_6 (Prod.snd (Prod.snd (List.getD L (T24.NSt.i b) (Ty.dflt T24.oty)))))))) ≤ List.length (List.take (List.length (T24.sends
      (T24.NSt.Hv b) (List.take b_6 (Prod.snd (Prod.snd (List.getD L (T24.NSt.i b) (Ty.dflt T24.oty))))))) (List.drop (0 : Nat) (T24.sends (T24.NSt.Hv b) (List.take b_6
      (Prod.snd (Prod.snd (List.getD L (T24.NSt.i b) (Ty.dflt T24.oty)))))))) ∧ ((↑(List.length (List.take (List.length (T24.sends (T24.NSt.Hv b) (List.take b_6 (Prod.snd
      (Prod.snd (List.getD L (T24.NSt.i b) (Ty.dflt T24.oty))))))) (List.drop (0 : Nat) (T24.sends (T24.NSt.Hv b) (List.take b_6 (Prod.snd (Prod.snd (List.getD L (T24.NSt.i b)
      (Ty.dflt T24.oty)))))))) + (1 : Nat)) : Int) ≤ (9223372036854775807 : Int) ∧ (List.length (List.take (List.length (T24.sends (T24.NSt.Hv b) (List.take b_6 (Prod.snd
      (Prod.snd (List.getD L (T24.NSt.i b) (Ty.dflt T24.oty))))))) (List.drop (0 : Nat) (T24.sends (T24.NSt.Hv b) (List.take b_6 (Prod.snd (Prod.snd (List.getD L (T24.NSt.i b)
      (Ty.dflt T24.oty)))))))) + (1 : Nat)) * Sx.bytesOf Go.Proofs.Try.prog (37 : Nat) ≤ (140737488355328 : Nat)) ∧ (∃ (x' : Nat), (T24.vq L to (List.length (List.take
      (List.length (T24.sends (T24.NSt.Hv b) (List.take b_6 (Prod.snd (Prod.snd (List.getD L (T24.NSt.i b) (Ty.dflt T24.oty))))))) (List.drop (0 : Nat) (T24.sends (T24.NSt.Hv b)
      (List.take b_6 (Prod.snd (Prod.snd (List.getD L (T24.NSt.i b) (Ty.dflt T24.oty)))))))) + (1 : Nat)) (↑(T24.NSt.sent b) : Int) (↑(T24.NSt.i b) : Int) [SV.ptr (6 : Nat) (0 :
      Nat), SV.sl (7 : Nat) (3 : Nat) (0 : Nat) (List.length (Prod.snd (Prod.snd (List.getD L (T24.NSt.i b) (Ty.dflt T24.oty))))), SV.lit (Value.int IntKind.i64 (IntKind.wrap
      IntKind.i64 ((↑b_6 : Int) + (1 : Int))))], T24.hpq (T24.NSt.m b) (↑(T24.NSt.sent b) : Int) (T24.NSt.R b) (List.take (List.length (List.take (List.length (T24.sends
      (T24.NSt.Hv b) (List.take b_6 (Prod.snd (Prod.snd (List.getD L (T24.NSt.i b) (Ty.dflt T24.oty))))))) (List.drop (0 : Nat) (T24.sends (T24.NSt.Hv b) (List.take b_6
      (Prod.snd (Prod.snd (List.getD L (T24.NSt.i b) (Ty.dflt T24.oty))))))))) (List.take (List.length (T24.sends (T24.NSt.Hv b) (List.take b_6 (Prod.snd (Prod.snd (List.getD L
      (T24.NSt.i b) (Ty.dflt T24.oty))))))) (List.drop (0 : Nat) (T24.sends (T24.NSt.Hv b) (List.take b_6 (Prod.snd (Prod.snd (List.getD L (T24.NSt.i b) (Ty.dflt T24.oty))))))))
      ++ [(Prod.fst (List.getD (Prod.snd (Prod.snd (List.getD L (T24.NSt.i b) (Ty.dflt T24.oty)))) b_6 (Ty.dflt T24.pty)), Prod.fst (Prod.snd (List.getD (Prod.snd (Prod.snd
      (List.getD L (T24.NSt.i b) (Ty.dflt T24.oty)))) b_6 (Ty.dflt T24.pty))), Prod.snd (Prod.snd (List.getD (Prod.snd (Prod.snd (List.getD L (T24.NSt.i b) (Ty.dflt T24.oty))))
      b_6 (Ty.dflt T24.pty))))]) (List.length (T24.NSt.LL b)) (List.length (T24.NSt.LL b)) (T24.NSt.LL b) (T24.NSt.LL b) [SO.cells (56 : Nat) [SV.lit (Value.int IntKind.i64
      (Prod.fst (List.getD L (T24.NSt.i b) (Ty.dflt T24.oty)))), SV.lit (Value.int IntKind.i64 (Prod.fst (Prod.snd (List.getD L (T24.NSt.i b) (Ty.dflt T24.oty))))), SV.imm
      T24.pty (Prod.snd (Prod.snd (List.getD L (T24.NSt.i b) (Ty.dflt T24.oty))))], SO.row (37 : Nat) T24.pty (Prod.snd (Prod.snd (List.getD L (T24.NSt.i b) (Ty.dflt T24.oty)))
      ++ [T24.markP])]) = (T24.vq L to (List.length (T24.sends (T24.NSt.Hv b) (List.take x' (Prod.snd (Prod.snd (List.getD L (T24.NSt.i b) (Ty.dflt T24.oty)))))))
      (↑(T24.NSt.sent b) : Int) (↑(T24.NSt.i b) : Int) [SV.ptr (6 : Nat) (0 : Nat), SV.sl (7 : Nat) (3 : Nat) (0 : Nat) (List.length (Prod.snd (Prod.snd (List.getD L (T24.NSt.i
      b) (Ty.dflt T24.oty))))), SV.lit (Value.int IntKind.i64 (↑x' : Int))], T24.hpq (T24.NSt.m b) (↑(T24.NSt.sent b) : Int) (T24.NSt.R b) (T24.sends (T24.NSt.Hv b) (List.take
      x' (Prod.snd (Prod.snd (List.getD L (T24.NSt.i b) (Ty.dflt T24.oty)))))) (List.length (T24.NSt.LL b)) (List.length (T24.NSt.LL b)) (T24.NSt.LL b) (T24.NSt.LL b) [SO.cells
      (56 : Nat) [SV.lit (Value.int IntKind.i64 (Prod.fst (List.getD L (T24.NSt.i b) (Ty.dflt T24.oty)))), SV.lit (Value.int IntKind.i64 (Prod.fst (Prod.snd (List.getD L
      (T24.NSt.i b) (Ty.dflt T24.oty))))), SV.imm T24.pty (Prod.snd (Prod.snd (List.getD L (T24.NSt.i b) (Ty.dflt T24.oty))))], SO.row (37 : Nat) T24.pty (Prod.snd (Prod.snd
      (List.getD L (T24.NSt.i b) (Ty.dflt T24.oty))) ++ [T24.markP])]) ∧ x' ≤ List.length (Prod.snd (Prod.snd (List.getD L (T24.NSt.i b) (Ty.dflt T24.oty)))) ∧ List.length
      (Prod.snd (Prod.snd (List.getD L (T24.NSt.i b) (Ty.dflt T24.oty)))) - x' < List.length (Prod.snd (Prod.snd (List.getD L (T24.NSt.i b) (Ty.dflt T24.oty)))) - b_6) ∧ True))
      (b_6 < List.length (Prod.snd (Prod.snd (List.getD L (T24.NSt.i b) (Ty.dflt T24.oty)))) ∧ ∀ (b_9 : Bool), True → br b_9 ((0 : Nat) + List.length (T24.sends (T24.NSt.Hv b)
      (List.take b_6 (Prod.snd (Prod.snd (List.getD L (T24.NSt.i b) (Ty.dflt T24.oty)))))) ≤ List.length (T24.sends (T24.NSt.Hv b) (List.take b_6 (Prod.snd (Prod.snd (List.getD
      L (T24.NSt.i b) (Ty.dflt T24.oty)))))) ∧ ((↑((0 : Nat) + List.length (List.take (List.length (T24.sends (T24.NSt.Hv b) (List.take b_6 (Prod.snd (Prod.snd (List.getD L
      (T24.NSt.i b) (Ty.dflt T24.oty))))))) (List.drop (0 : Nat) (T24.sends (T24.NSt.Hv b) (List.take b_6 (Prod.snd (Prod.snd (List.getD L (T24.NSt.i b) (Ty.dflt
      T24.oty))))))))) : Int) ≤ (9223372036854775807 : Int) ∧ ((0 : Nat) + List.length (List.take (List.length (T24.sends (T24.NSt.Hv b) (List.take b_6 (Prod.snd (Prod.snd
      (List.getD L (T24.NSt.i b) (Ty.dflt T24.oty))))))) (List.drop (0 : Nat) (T24.sends (T24.NSt.Hv b) (List.take b_6 (Prod.snd (Prod.snd (List.getD L (T24.NSt.i b) (Ty.dflt
      T24.oty))))))))) * Sx.bytesOf Go.Proofs.Try.prog (37 : Nat) ≤ (140737488355328 : Nat)) ∧ (1 : Nat) ≤ (1 : Nat) ∧ Sx.br (decide (List.length (List.take (List.length
      (T24.sends (T24.NSt.Hv b) (List.take b_6 (Prod.snd (Prod.snd (List.getD L (T24.NSt.i b) (Ty.dflt T24.oty))))))) (List.drop (0 : Nat) (T24.sends (T24.NSt.Hv b) (List.take
      b_6 (Prod.snd (Prod.snd (List.getD L (T24.NSt.i b) (Ty.dflt T24.oty)))))))) + (1 : Nat) ≤ List.length (List.take (List.length (T24.sends (T24.NSt.Hv b) (List.take b_6
      (Prod.snd (Prod.snd (List.getD L (T24.NSt.i b) (Ty.dflt T24.oty))))))) (List.drop (0 : Nat) (T24.sends (T24.NSt.Hv b) (List.take b_6 (Prod.snd (Prod.snd (List.getD L
      (T24.NSt.i b) (Ty.dflt T24.oty)))))))))) ((∃ (x' : Nat), (T24.vq L to (List.length (List.take (List.length (T24.sends (T24.NSt.Hv b) (List.take b_6 (Prod.snd (Prod.snd
      (List.getD L (T24.NSt.i b) (Ty.dflt T24.oty))))))) (List.drop (0 : Nat) (T24.sends (T24.NSt.Hv b) (List.take b_6 (Prod.snd (Prod.snd (List.getD L (T24.NSt.i b) (Ty.dflt
      T24.oty)))))))) + (1 : Nat)) (↑(T24.NSt.sent b) : Int) (↑(T24.NSt.i b) : Int) [SV.ptr (6 : Nat) (0 : Nat), SV.sl (7 : Nat) (3 : Nat) (0 : Nat) (List.length (Prod.snd
      (Prod.snd (List.getD L (T24.NSt.i b) (Ty.dflt T24.oty))))), SV.lit (Value.int IntKind.i64 (IntKind.wrap IntKind.i64 ((↑b_6 : Int) + (1 : Int))))], T24.hpq (T24.NSt.m b)
      (↑(T24.NSt.sent b) : Int) (T24.NSt.R b) (List.take (List.length (List.take (List.length (T24.sends (T24.NSt.Hv b) (List.take b_6 (Prod.snd (Prod.snd (List.getD L
      (T24.NSt.i b) (Ty.dflt T24.oty))))))) (List.drop (0 : Nat) (T24.sends (T24.NSt.Hv b) (List.take b_6 (Prod.snd (Prod.snd (List.getD L (T24.NSt.i b) (Ty.dflt
      T24.oty))))))))) (List.take (List.length (T24.sends (T24.NSt.Hv b) (List.take b_6 (Prod.snd (Prod.snd (List.getD L (T24.NSt.i b) (Ty.dflt T24.oty))))))) (List.drop (0 :
      Nat) (T24.sends (T24.NSt.Hv b) (List.take b_6 (Prod.snd (Prod.snd (List.getD L (T24.NSt.i b) (Ty.dflt T24.oty)))))))) ++ [(Prod.fst (List.getD (Prod.snd (Prod.snd
      (List.getD L (T24.NSt.i b) (Ty.dflt T24.oty)))) b_6 (Ty.dflt T24.pty)), Prod.fst (Prod.snd (List.getD (Prod.snd (Prod.snd (List.getD L (T24.NSt.i b) (Ty.dflt T24.oty))))
      b_6 (Ty.dflt T24.pty))), Prod.snd (Prod.snd (List.getD (Prod.snd (Prod.snd (List.getD L (T24.NSt.i b) (Ty.dflt T24.oty)))) b_6 (Ty.dflt T24.pty))))] ++ List.drop
      (List.length (List.take (List.length (T24.sends (T24.NSt.Hv b) (List.take b_6 (Prod.snd (Prod.snd (List.getD L (T24.NSt.i b) (Ty.dflt T24.oty))))))) (List.drop (0 : Nat)
      (T24.sends (T24.NSt.Hv b) (List.take b_6 (Prod.snd (Prod.snd (List.getD L (T24.NSt.i b) (Ty.dflt T24.oty)))))))) + (1 : Nat)) (List.take (List.length (T24.sends
      (T24.NSt.Hv b) (List.take b_6 (Prod.snd (Prod.snd (List.getD L (T24.NSt.i b) (Ty.dflt T24.oty))))))) (List.drop (0 : Nat) (T24.sends (T24.NSt.Hv b) (List.take b_6
      (Prod.snd (Prod.snd (List.getD L (T24.NSt.i b) (Ty.dflt T24.oty))))))))) (List.length (T24.NSt.LL b)) (List.length (T24.NSt.LL b)) (T24.NSt.LL b) (T24.NSt.LL b) [SO.cells
      (56 : Nat) [SV.lit (Value.int IntKind.i64 (Prod.fst (List.getD L (T24.NSt.i b) (Ty.dflt T24.oty)))), SV.lit (Value.int IntKind.i64 (Prod.fst (Prod.snd (List.getD L
      (T24.NSt.i b) (Ty.dflt T24.oty))))), SV.imm T24.pty (Prod.snd (Prod.snd (List.getD L (T24.NSt.i b) (Ty.dflt T24.oty))))], SO.row (37 : Nat) T24.pty (Prod.snd (Prod.snd
      (List.getD L (T24.NSt.i b) (Ty.dflt T24.oty))) ++ [T24.markP])]) = (T24.vq L to (List.length (T24.sends (T24.NSt.Hv b) (List.take x' (Prod.snd (Prod.snd (List.getD L
      (T24.NSt.i b) (Ty.dflt T24.oty))))))) (↑(T24.NSt.sent b) : Int) (↑(T24.NSt.i b) : Int) [SV.ptr (6 : Nat) (0 : Nat), SV.sl (7 : Nat) (3 : Nat) (0 : Nat) (List.length
      (Prod.snd (Prod.snd (List.getD L (T24.NSt.i b) (Ty.dflt T24.oty))))), SV.lit (Value.int IntKind.i64 (↑x' : Int))], T24.hpq (T24.NSt.m b) (↑(T24.NSt.sent b) : Int)
      (T24.NSt.R b) (T24.sends (T24.NSt.Hv b) (List.take x' (Prod.snd (Prod.snd (List.getD L (T24.NSt.i b) (Ty.dflt T24.oty)))))) (List.length (T24.NSt.LL b)) (List.length
      (T24.NSt.LL b)) (T24.NSt.LL b) (T24.NSt.LL b) [SO.cells (56 : Nat) [SV.lit (Value.int IntKind.i64 (Prod.fst (List.getD L (T24.NSt.i b) (Ty.dflt T24.oty)))), SV.lit
      (Value.int IntKind.i64 (Prod.fst (Prod.snd (List.getD L (T24.NSt.i b) (Ty.dflt T24.oty))))), SV.imm T24.pty (Prod.snd (Prod.snd (List.getD L (T24.NSt.i b) (Ty.dflt
      T24.oty))))], SO.row (37 : Nat) T24.pty (Prod.snd (Prod.snd (List.getD L (T24.NSt.i b) (Ty.dflt T24.oty))) ++ [T24.markP])]) ∧ x' ≤ List.length (Prod.snd (Prod.snd
      (List.getD L (T24.NSt.i b) (Ty.dflt T24.oty)))) ∧ List.length (Prod.snd (Prod.snd (List.getD L (T24.NSt.i b) (Ty.dflt T24.oty)))) - x' < List.length (Prod.snd (Prod.snd
      (List.getD L (T24.NSt.i b) (Ty.dflt T24.oty)))) - b_6) ∧ True) (List.length (List.take (List.length (T24.sends (T24.NSt.Hv b) (List.take b_6 (Prod.snd (Prod.snd (List.getD
      L (T24.NSt.i b) (Ty.dflt T24.oty))))))) (List.drop (0 : Nat) (T24.sends (T24.NSt.Hv b) (List.take b_6 (Prod.snd (Prod.snd (List.getD L (T24.NSt.i b) (Ty.dflt
      T24.oty)))))))) ≤ List.length (List.take (List.length (T24.sends (T24.NSt.Hv b) (List.take b_6 (Prod.snd (Prod.snd (List.getD L (T24.NSt.i b) (Ty.dflt T24.oty)))))))
      (List.drop (0 : Nat) (T24.sends (T24.NSt.Hv b) (List.take b_6 (Prod.snd (Prod.snd (List.getD L (T24.NSt.i b) (Ty.dflt T24.oty)))))))) ∧ ((↑(List.length (List.take
      (List.length (T24.sends (T24.NSt.Hv b) (List.take b_6 (Prod.snd (Prod.snd (List.getD L (T24.NSt.i b) (Ty.dflt T24.oty))))))) (List.drop (0 : Nat) (T24.sends (T24.NSt.Hv b)
      (List.take b_6 (Prod.snd (Prod.snd (List.getD L (T24.NSt.i b) (Ty.dflt T24.oty)))))))) + (1 : Nat)) : Int) ≤ (9223372036854775807 : Int) ∧ (List.length (List.take
      (List.length (T24.sends (T24.NSt.Hv b) (List.take b_6 (Prod.snd (Prod.snd (List.getD L (T24.NSt.i b) (Ty.dflt T24.oty))))))) (List.drop (0 : Nat) (T24.sends (T24.NSt.Hv b)
      (List.take b_6 (Prod.snd (Prod.snd (List.getD L (T24.NSt.i b) (Ty.dflt T24.oty)))))))) + (1 : Nat)) * Sx.bytesOf Go.Proofs.Try.prog (37 : Nat) ≤ (140737488355328 : Nat)) ∧
      (∃ (x' : Nat), (T24.vq L to (List.length (List.take (List.length (T24.sends (T24.NSt.Hv b) (List.take b_6 (Prod.snd (Prod.snd (List.getD L (T24.NSt.i b) (Ty.dflt
      T24.oty))))))) (List.drop (0 : Nat) (T24.sends (T24.NSt.Hv b) (List.take b_6 (Prod.snd (Prod.snd (List.getD L (T24.NSt.i b) (Ty.dflt T24.oty)))))))) + (1 : Nat))
      (↑(T24.NSt.sent b) : Int) (↑(T24.NSt.i b) : Int) [SV.ptr (6 : Nat) (0 : Nat), SV.sl (7 : Nat) (3 : Nat) (0 : Nat) (List.length (Prod.snd (Prod.snd (List.getD L (T24.NSt.i
      b) (Ty.dflt T24.oty))))), SV.lit (Value.int IntKind.i64 (IntKind.wrap IntKind.i64 ((↑b_6 : Int) + (1 : Int))))], T24.hpq (T24.NSt.m b) (↑(T24.NSt.sent b) : Int) (T24.NSt.R
      b) (List.take (List.length (List.take (List.length (T24.sends (T24.NSt.Hv b) (List.take b_6 (Prod.snd (Prod.snd (List.getD L (T24.NSt.i b) (Ty.dflt T24.oty)))))))
      (List.drop (0 : Nat) (T24.sends (T24.NSt.Hv b) (List.take b_6 (Prod.snd (Prod.snd (List.getD L (T24.NSt.i b) (Ty.dflt T24.oty))))))))) (List.take (List.length (T24.sends
      (T24.NSt.Hv b) (List.take b_6 (Prod.snd (Prod.snd (List.getD L (T24.NSt.i b) (Ty.dflt T24.oty))))))) (List.drop (0 : Nat) (T24.sends (T24.NSt.Hv b) (List.take b_6
      (Prod.snd (Prod.snd (List.getD L (T24.NSt.i b) (Ty.dflt T24.oty)))))))) ++ [(Prod.fst (List.getD (Prod.snd (Prod.snd (List.getD L (T24.NSt.i b) (Ty.dflt T24.oty)))) b_6
      (Ty.dflt T24.pty)), Prod.fst (Prod.snd (List.getD (Prod.snd (Prod.snd (List.getD L (T24.NSt.i b) (Ty.dflt T24.oty)))) b_6 (Ty.dflt T24.pty))), Prod.snd (Prod.snd
      (List.getD (Prod.snd (Prod.snd (List.getD L (T24.NSt.i b) (Ty.dflt T24.oty)))) b_6 (Ty.dflt T24.pty))))]) (List.length (T24.NSt.LL b)) (List.length (T24.NSt.LL b))
      (T24.NSt.LL b) (T24.NSt.LL b) [SO.cells (56 : Nat) [SV.lit (Value.int IntKind.i64 (Prod.fst (List.getD L (T24.NSt.i b) (Ty.dflt T24.oty)))), SV.lit (Value.int IntKind.i64
      (Prod.fst (Prod.snd (List.getD L (T24.NSt.i b) (Ty.dflt T24.oty))))), SV.imm T24.pty (Prod.snd (Prod.snd (List.getD L (T24.NSt.i b) (Ty.dflt T24.oty))))], SO.row (37 :
      Nat) T24.pty (Prod.snd (Prod.snd (List.getD L (T24.NSt.i b) (Ty.dflt T24.oty))) ++ [T24.markP])]) = (T24.vq L to (List.length (T24.sends (T24.NSt.Hv b) (List.take x'
      (Prod.snd (Prod.snd (List.getD L (T24.NSt.i b) (Ty.dflt T24.oty))))))) (↑(T24.NSt.sent b) : Int) (↑(T24.NSt.i b) : Int) [SV.ptr (6 : Nat) (0 : Nat), SV.sl (7 : Nat) (3 :
      Nat) (0 : Nat) (List.length (Prod.snd (Prod.snd (List.getD L (T24.NSt.i b) (Ty.dflt T24.oty))))), SV.lit (Value.int IntKind.i64 (↑x' : Int))], T24.hpq (T24.NSt.m b)
      (↑(T24.NSt.sent b) : Int) (T24.NSt.R b) (T24.sends (T24.NSt.Hv b) (List.take x' (Prod.snd (Prod.snd (List.getD L (T24.NSt.i b) (Ty.dflt T24.oty)))))) (List.length
      (T24.NSt.LL b)) (List.length (T24.NSt.LL b)) (T24.NSt.LL b) (T24.NSt.LL b) [SO.cells (56 : Nat) [SV.lit (Value.int IntKind.i64 (Prod.fst (List.getD L (T24.NSt.i b)
      (Ty.dflt T24.oty)))), SV.lit (Value.int IntKind.i64 (Prod.fst (Prod.snd (List.getD L (T24.NSt.i b) (Ty.dflt T24.oty))))), SV.imm T24.pty (Prod.snd (Prod.snd (List.getD L
      (T24.NSt.i b) (Ty.dflt T24.oty))))], SO.row (37 : Nat) T24.pty (Prod.snd (Prod.snd (List.getD L (T24.NSt.i b) (Ty.dflt T24.oty))) ++ [T24.markP])]) ∧ x' ≤ List.length
      (Prod.snd (Prod.snd (List.getD L (T24.NSt.i b) (Ty.dflt T24.oty)))) ∧ List.length (Prod.snd (Prod.snd (List.getD L (T24.NSt.i b) (Ty.dflt T24.oty)))) - x' < List.length
      (Prod.snd (Prod.snd (List.getD L (T24.NSt.i b) (Ty.dflt T24.oty)))) - b_6) ∧ True)) ((0 : Nat) + List.length (T24.sends (T24.NSt.Hv b) (List.take b_6 (Prod.snd (Prod.snd
      (List.getD L (T24.NSt.i b) (Ty.dflt T24.oty)))))) ≤ List.length (T24.sends (T24.NSt.Hv b) (List.take b_6 (Prod.snd (Prod.snd (List.getD L (T24.NSt.i b) (Ty.dflt
      T24.oty)))))) ∧ ((↑((0 : Nat) + List.length (List.take (List.length (T24.sends (T24.NSt.Hv b) (List.take b_6 (Prod.snd (Prod.snd (List.getD L (T24.NSt.i b) (Ty.dflt
      T24.oty))))))) (List.drop (0 : Nat) (T24.sends (T24.NSt.Hv b) (List.take b_6 (Prod.snd (Prod.snd (List.getD L (T24.NSt.i b) (Ty.dflt T24.oty))))))))) : Int) ≤
      (9223372036854775807 : Int) ∧ ((0 : Nat) + List.length (List.take (List.length (T24.sends (T24.NSt.Hv b) (List.take b_6 (Prod.snd (Prod.snd (List.getD L (T24.NSt.i b)
      (Ty.dflt T24.oty))))))) (List.drop (0 : Nat) (T24.sends (T24.NSt.Hv b) (List.take b_6 (Prod.snd (Prod.snd (List.getD L (T24.NSt.i b) (Ty.dflt T24.oty))))))))) * Sx.bytesOf
      Go.Proofs.Try.prog (37 : Nat) ≤ (140737488355328 : Nat)) ∧ (1 : Nat) ≤ (1 : Nat) ∧ Sx.br (decide (List.length (List.take (List.length (T24.sends (T24.NSt.Hv b) (List.take
      b_6 (Prod.snd (Prod.snd (List.getD L (T24.NSt.i b) (Ty.dflt T24.oty))))))) (List.drop (0 : Nat) (T24.sends (T24.NSt.Hv b) (List.take b_6 (Prod.snd (Prod.snd (List.getD L
      (T24.NSt.i b) (Ty.dflt T24.oty)))))))) + (1 : Nat) ≤ List.length (List.take (List.length (T24.sends (T24.NSt.Hv b) (List.take b_6 (Prod.snd (Prod.snd (List.getD L
      (T24.NSt.i b) (Ty.dflt T24.oty))))))) (List.drop (0 : Nat) (T24.sends (T24.NSt.Hv b) (List.take b_6 (Prod.snd (Prod.snd (List.getD L (T24.NSt.i b) (Ty.dflt
      T24.oty)))))))))) ((∃ (x' : Nat), (T24.vq L to (List.length (List.take (List.length (T24.sends (T24.NSt.Hv b) (List.take b_6 (Prod.snd (Prod.snd (List.getD L (T24.NSt.i b)
      (Ty.dflt T24.oty))))))) (List.drop (0 : Nat) (T24.sends (T24.NSt.Hv b) (List.take b_6 (Prod.snd (Prod.snd (List.getD L (T24.NSt.i b) (Ty.dflt T24.oty)))))))) + (1 : Nat))
      (↑(T24.NSt.sent b) : Int) (↑(T24.NSt.i b) : Int) [SV.ptr (6 : Nat) (0 : Nat), SV.sl (7 : Nat) (3 : Nat) (0 : Nat) (List.length (Prod.snd (Prod.snd (List.getD L (T24.NSt.i
      b) (Ty.dflt T24.oty))))), SV.lit (Value.int IntKind.i64 (IntKind.wrap IntKind.i64 ((↑b_6 : Int) + (1 : Int))))], T24.hpq (T24.NSt.m b) (↑(T24.NSt.sent b) : Int) (T24.NSt.R
      b) (List.take (List.length (List.take (List.length (T24.sends (T24.NSt.Hv b) (List.take b_6 (Prod.snd (Prod.snd (List.getD L (T24.NSt.i b) (Ty.dflt T24.oty)))))))
      (List.drop (0 : Nat) (T24.sends (T24.NSt.Hv b) (List.take b_6 (Prod.snd (Prod.snd (List.getD L (T24.NSt.i b) (Ty.dflt T24.oty))))))))) (List.take (List.length (T24.sends
      (T24.NSt.Hv b) (List.take b_6 (Prod.snd (Prod.snd (List.getD L (T24.NSt.i b) (Ty.dflt T24.oty))))))) (List.drop (0 : Nat) (T24.sends (T24.NSt.Hv b) (List.take b_6
      (Prod.snd (Prod.snd (List.getD L (T24.NSt.i b) (Ty.dflt T24.oty)))))))) ++ [(Prod.fst (List.getD (Prod.snd (Prod.snd (List.getD L (T24.NSt.i b) (Ty.dflt T24.oty)))) b_6
      (Ty.dflt T24.pty)), Prod.fst (Prod.snd (List.getD (Prod.snd (Prod.snd (List.getD L (T24.NSt.i b) (Ty.dflt T24.oty)))) b_6 (Ty.dflt T24.pty))), Prod.snd (Prod.snd
      (List.getD (Prod.snd (Prod.snd (List.getD L (T24.NSt.i b) (Ty.dflt T24.oty)))) b_6 (Ty.dflt T24.pty))))] ++ List.drop (List.length (List.take (List.length (T24.sends
      (T24.NSt.Hv b) (List.take b_6 (Prod.snd (Prod.snd (List.getD L (T24.NSt.i b) (Ty.dflt T24.oty))))))) (List.drop (0 : Nat) (T24.sends (T24.NSt.Hv b) (List.take b_6
      (Prod.snd (Prod.snd (List.getD L (T24.NSt.i b) (Ty.dflt T24.oty)))))))) + (1 : Nat)) (List.take (List.length (T24.sends (T24.NSt.Hv b) (List.take b_6 (Prod.snd (Prod.snd
      (List.getD L (T24.NSt.i b) (Ty.dflt T24.oty))))))) (List.drop (0 : Nat) (T24.sends (T24.NSt.Hv b) (List.take b_6 (Prod.snd (Prod.snd (List.getD L (T24.NSt.i b) (Ty.dflt
      T24.oty))))))))) (List.length (T24.NSt.LL b)) (List.length (T24.NSt.LL b)) (T24.NSt.LL b) (T24.NSt.LL b) [SO.cells (56 : Nat) [SV.lit (Value.int IntKind.i64 (Prod.fst
      (List.getD L (T24.NSt.i b) (Ty.dflt T24.oty)))), SV.lit (Value.int IntKind.i64 (Prod.fst (Prod.snd (List.getD L (T24.NSt.i b) (Ty.dflt T24.oty))))), SV.imm T24.pty
      (Prod.snd (Prod.snd (List.getD L (T24.NSt.i b) (Ty.dflt T24.oty))))], SO.row (37 : Nat) T24.pty (Prod.snd (Prod.snd (List.getD L (T24.NSt.i b) (Ty.dflt T24.oty))) ++
      [T24.markP])]) = (T24.vq L to (List.length (T24.sends (T24.NSt.Hv b) (List.take x' (Prod.snd (Prod.snd (List.getD L (T24.NSt.i b) (Ty.dflt T24.oty))))))) (↑(T24.NSt.sent
      b) : Int) (↑(T24.NSt.i b) : Int) [SV.ptr (6 : Nat) (0 : Nat), SV.sl (7 : Nat) (3 : Nat) (0 : Nat) (List.length (Prod.snd (Prod.snd (List.getD L (T24.NSt.i b) (Ty.dflt
      T24.oty))))), SV.lit (Value.int IntKind.i64 (↑x' : Int))], T24.hpq (T24.NSt.m b) (↑(T24.NSt.sent b) : Int) (T24.NSt.R b) (T24.sends (T24.NSt.Hv b) (List.take x' (Prod.snd
      (Prod.snd (List.getD L (T24.NSt.i b) (Ty.dflt T24.oty)))))) (List.length (T24.NSt.LL b)) (List.length (T24.NSt.LL b)) (T24.NSt.LL b) (T24.NSt.LL b) [SO.cells (56 : Nat)
      [SV.lit (Value.int IntKind.i64 (Prod.fst (List.getD L (T24.NSt.i b) (Ty.dflt T24.oty)))), SV.lit (Value.int IntKind.i64 (Prod.fst (Prod.snd (List.getD L (T24.NSt.i b)
      (Ty.dflt T24.oty))))), SV.imm T24.pty (Prod.snd (Prod.snd (List.getD L (T24.NSt.i b) (Ty.dflt T24.oty))))], SO.row (37 : Nat) T24.pty (Prod.snd (Prod.snd (List.getD L
      (T24.NSt.i b) (Ty.dflt T24.oty))) ++ [T24.markP])]) ∧ x' ≤ List.length (Prod.snd (Prod.snd (List.getD L (T24.NSt.i b) (Ty.dflt T24.oty)))) ∧ List.length (Prod.snd
      (Prod.snd (List.getD L (T24.NSt.i b) (Ty.dflt T24.oty)))) - x' < List.length (Prod.snd (Prod.snd (List.getD L (T24.NSt.i b) (Ty.dflt T24.oty)))) - b_6) ∧ True)
      (List.length (List.take (List.length (T24.sends (T24.NSt.Hv b) (List.take b_6 (Prod.snd (Prod.snd (List.getD L (T24.NSt.i b) (Ty.dflt T24.oty))))))) (List.drop (0 : Nat)
      (T24.sends (T24.NSt.Hv b) (List.take b_6 (Prod.snd (Prod.snd (List.getD L (T24.NSt.i b) (Ty.dflt T24.oty)))))))) ≤ List.length (List.take (List.length (T24.sends
      (T24.NSt.Hv b) (List.take b_6 (Prod.snd (Prod.snd (List.getD L (T24.NSt.i b) (Ty.dflt T24.oty))))))) (List.drop (0 : Nat) (T24.sends (T24.NSt.Hv b) (List.take b_6
      (Prod.snd (Prod.snd (List.getD L (T24.NSt.i b) (Ty.dflt T24.oty)))))))) ∧ ((↑(List.length (List.take (List.length (T24.sends (T24.NSt.Hv b) (List.take b_6 (Prod.snd
      (Prod.snd (List.getD L (T24.NSt.i b) (Ty.dflt T24.oty))))))) (List.drop (0 : Nat) (T24.sends (T24.NSt.Hv b) (List.take b_6 (Prod.snd (Prod.snd (List.getD L (T24.NSt.i b)
      (Ty.dflt T24.oty)))))))) + (1 : Nat)) : Int) ≤ (9223372036854775807 : Int) ∧ (List.length (List.take (List.length (T24.sends (T24.NSt.Hv b) (List.take b_6 (Prod.snd
      (Prod.snd (List.getD L (T24.NSt.i b) (Ty.dflt T24.oty))))))) (List.drop (0 : Nat) (T24.sends (T24.NSt.Hv b) (List.take b_6 (Prod.snd (Prod.snd (List.getD L (T24.NSt.i b)
      (Ty.dflt T24.oty)))))))) + (1 : Nat)) * Sx.bytesOf Go.Proofs.Try.prog (37 : Nat) ≤ (140737488355328 : Nat)) ∧ (∃ (x' : Nat), (T24.vq L to (List.length (List.take
      (List.length (T24.sends (T24.NSt.Hv b) (List.take b_6 (Prod.snd (Prod.snd (List.getD L (T24.NSt.i b) (Ty.dflt T24.oty))))))) (List.drop (0 : Nat) (T24.sends (T24.NSt.Hv b)
      (List.take b_6 (Prod.snd (Prod.snd (List.getD L (T24.NSt.i b) (Ty.dflt T24.oty)))))))) + (1 : Nat)) (↑(T24.NSt.sent b) : Int) (↑(T24.NSt.i b) : Int) [SV.ptr (6 : Nat) (0 :
      Nat), SV.sl (7 : Nat) (3 : Nat) (0 : Nat) (List.length (Prod.snd (Prod.snd (List.getD L (T24.NSt.i b) (Ty.dflt T24.oty))))), SV.lit (Value.int IntKind.i64 (IntKind.wrap
      IntKind.i64 ((↑b_6 : Int) + (1 : Int))))], T24.hpq (T24.NSt.m b) (↑(T24.NSt.sent b) : Int) (T24.NSt.R b) (List.take (List.length (List.take (List.length (T24.sends
      (T24.NSt.Hv b) (List.take b_6 (Prod.snd (Prod.snd (List.getD L (T24.NSt.i b) (Ty.dflt T24.oty))))))) (List.drop (0 : Nat) (T24.sends (T24.NSt.Hv b) (List.take b_6
      (Prod.snd (Prod.snd (List.getD L (T24.NSt.i b) (Ty.dflt T24.oty))))))))) (List.take (List.length (T24.sends (T24.NSt.Hv b) (List.take b_6 (Prod.snd (Prod.snd (List.getD L
      (T24.NSt.i b) (Ty.dflt T24.oty))))))) (List.drop (0 : Nat) (T24.sends (T24.NSt.Hv b) (List.take b_6 (Prod.snd (Prod.snd (List.getD L (T24.NSt.i b) (Ty.dflt T24.oty))))))))
      ++ [(Prod.fst (List.getD (Prod.snd (Prod.snd (List.getD L (T24.NSt.i b) (Ty.dflt T24.oty)))) b_6 (Ty.dflt T24.pty)), Prod.fst (Prod.snd (List.getD (Prod.snd (Prod.snd
      (List.getD L (T24.NSt.i b) (Ty.dflt T24.oty)))) b_6 (Ty.dflt T24.pty))), Prod.snd (Prod.snd (List.getD (Prod.snd (Prod.snd (List.getD L (T24.NSt.i b) (Ty.dflt T24.oty))))
      b_6 (Ty.dflt T24.pty))))]) (List.length (T24.NSt.LL b)) (List.length (T24.NSt.LL b)) (T24.NSt.LL b) (T24.NSt.LL b) [SO.cells (56 : Nat) [SV.lit (Value.int IntKind.i64
      (Prod.fst (List.getD L (T24.NSt.i b) (Ty.dflt T24.oty)))), SV.lit (Value.int IntKind.i64 (Prod.fst (Prod.snd (List.getD L (T24.NSt.i b) (Ty.dflt T24.oty))))), SV.imm
      T24.pty (Prod.snd (Prod.snd (List.getD L (T24.NSt.i b) (Ty.dflt T24.oty))))], SO.row (37 : Nat) T24.pty (Prod.snd (Prod.snd (List.getD L (T24.NSt.i b) (Ty.dflt T24.oty)))
      ++ [T24.markP])]) = (T24.vq L to (List.length (T24.sends (T24.NSt.Hv b) (List.take x' (Prod.snd (Prod.snd (List.getD L (T24.NSt.i b) (Ty.dflt T24.oty)))))))
      (↑(T24.NSt.sent b) : Int) (↑(T24.NSt.i b) : Int) [SV.ptr (6 : Nat) (0 : Nat), SV.sl (7 : Nat) (3 : Nat) (0 : Nat) (List.length (Prod.snd (Prod.snd (List.getD L (T24.NSt.i
      b) (Ty.dflt T24.oty))))), SV.lit (Value.int IntKind.i64 (↑x' : Int))], T24.hpq (T24.NSt.m b) (↑(T24.NSt.sent b) : Int) (T24.NSt.R b) (T24.sends (T24.NSt.Hv b) (List.take
      x' (Prod.snd (Prod.snd (List.getD L (T24.NSt.i b) (Ty.dflt T24.oty)))))) (List.length (T24.NSt.LL b)) (List.length (T24.NSt.LL b)) (T24.NSt.LL b) (T24.NSt.LL b) [SO.cells
      (56 : Nat) [SV.lit (Value.int IntKind.i64 (Prod.fst (List.getD L (T24.NSt.i b) (Ty.dflt T24.oty)))), SV.lit (Value.int IntKind.i64 (Prod.fst (Prod.snd (List.getD L
      (T24.NSt.i b) (Ty.dflt T24.oty))))), SV.imm T24.pty (Prod.snd (Prod.snd (List.getD L (T24.NSt.i b) (Ty.dflt T24.oty))))], SO.row (37 : Nat) T24.pty (Prod.snd (Prod.snd
      (List.getD L (T24.NSt.i b) (Ty.dflt T24.oty))) ++ [T24.markP])]) ∧ x' ≤ List.length (Prod.snd (Prod.snd (List.getD L (T24.NSt.i b) (Ty.dflt T24.oty)))) ∧ List.length
      (Prod.snd (Prod.snd (List.getD L (T24.NSt.i b) (Ty.dflt T24.oty)))) - x' < List.length (Prod.snd (Prod.snd (List.getD L (T24.NSt.i b) (Ty.dflt T24.oty)))) - b_6) ∧
      True))))) ((∃ (x' : Nat), (T24.vq L to (List.length (T24.sends (T24.NSt.Hv b) (List.take b_6 (Prod.snd (Prod.snd (List.getD L (T24.NSt.i b) (Ty.dflt T24.oty)))))))
      (↑(T24.NSt.sent b) : Int) (↑(T24.NSt.i b) : Int) [SV.ptr (6 : Nat) (0 : Nat), SV.sl (7 : Nat) (3 : Nat) (0 : Nat) (List.length (Prod.snd (Prod.snd (List.getD L (T24.NSt.i
      b) (Ty.dflt T24.oty))))), SV.lit (Value.int IntKind.i64 (IntKind.wrap IntKind.i64 ((↑b_6 : Int) + (1 : Int))))], T24.hpq (T24.NSt.m b) (↑(T24.NSt.sent b) : Int) (T24.NSt.R
      b) (T24.sends (T24.NSt.Hv b) (List.take b_6 (Prod.snd (Prod.snd (List.getD L (T24.NSt.i b) (Ty.dflt T24.oty)))))) (List.length (T24.NSt.LL b)) (List.length (T24.NSt.LL b))
      (T24.NSt.LL b) (T24.NSt.LL b) [SO.cells (56 : Nat) [SV.lit (Value.int IntKind.i64 (Prod.fst (List.getD L (T24.NSt.i b) (Ty.dflt T24.oty)))), SV.lit (Value.int IntKind.i64
      (Prod.fst (Prod.snd (List.getD L (T24.NSt.i b) (Ty.dflt T24.oty))))), SV.imm T24.pty (Prod.snd (Prod.snd (List.getD L (T24.NSt.i b) (Ty.dflt T24.oty))))], SO.row (37 :
      Nat) T24.pty (Prod.snd (Prod.snd (List.getD L (T24.NSt.i b) (Ty.dflt T24.oty))) ++ [T24.markP])]) = (T24.vq L to (List.length (T24.sends (T24.NSt.Hv b) (List.take x'
      (Prod.snd (Prod.snd (List.getD L (T24.NSt.i b) (Ty.dflt T24.oty))))))) (↑(T24.NSt.sent b) : Int) (↑(T24.NSt.i b) : Int) [SV.ptr (6 : Nat) (0 : Nat), SV.sl (7 : Nat) (3 :
      Nat) (0 : Nat) (List.length (Prod.snd (Prod.snd (List.getD L (T24.NSt.i b) (Ty.dflt T24.oty))))), SV.lit (Value.int IntKind.i64 (↑x' : Int))], T24.hpq (T24.NSt.m b)
      (↑(T24.NSt.sent b) : Int) (T24.NSt.R b) (T24.sends (T24.NSt.Hv b) (List.take x' (Prod.snd (Prod.snd (List.getD L (T24.NSt.i b) (Ty.dflt T24.oty)))))) (List.length
      (T24.NSt.LL b)) (List.length (T24.NSt.LL b)) (T24.NSt.LL b) (T24.NSt.LL b) [SO.cells (56 : Nat) [SV.lit (Value.int IntKind.i64 (Prod.fst (List.getD L (T24.NSt.i b)
      (Ty.dflt T24.oty)))), SV.lit (Value.int IntKind.i64 (Prod.fst (Prod.snd (List.getD L (T24.NSt.i b) (Ty.dflt T24.oty))))), SV.imm T24.pty (Prod.snd (Prod.snd (List.getD L
      (T24.NSt.i b) (Ty.dflt T24.oty))))], SO.row (37 : Nat) T24.pty (Prod.snd (Prod.snd (List.getD L (T24.NSt.i b) (Ty.dflt T24.oty))) ++ [T24.markP])]) ∧ x' ≤ List.length
      (Prod.snd (Prod.snd (List.getD L (T24.NSt.i b) (Ty.dflt T24.oty)))) ∧ List.length (Prod.snd (Prod.snd (List.getD L (T24.NSt.i b) (Ty.dflt T24.oty)))) - x' < List.length
      (Prod.snd (Prod.snd (List.getD L (T24.NSt.i b) (Ty.dflt T24.oty)))) - b_6) ∧ True)) ((∃ (x' : Nat), (T24.vq L to (List.length (T24.sends (T24.NSt.Hv b) (List.take b_6
      (Prod.snd (Prod.snd (List.getD L (T24.NSt.i b) (Ty.dflt T24.oty))))))) (↑(T24.NSt.sent b) : Int) (↑(T24.NSt.i b) : Int) [SV.ptr (6 : Nat) (0 : Nat), SV.sl (7 : Nat) (3 :
      Nat) (0 : Nat) (List.length (Prod.snd (Prod.snd (List.getD L (T24.NSt.i b) (Ty.dflt T24.oty))))), SV.lit (Value.int IntKind.i64 (IntKind.wrap IntKind.i64 ((↑b_6 : Int) +
      (1 : Int))))], T24.hpq (T24.NSt.m b) (↑(T24.NSt.sent b) : Int) (T24.NSt.R b) (T24.sends (T24.NSt.Hv b) (List.take b_6 (Prod.snd (Prod.snd (List.getD L (T24.NSt.i b)
      (Ty.dflt T24.oty)))))) (List.length (T24.NSt.LL b)) (List.length (T24.NSt.LL b)) (T24.NSt.LL b) (T24.NSt.LL b) [SO.cells (56 : Nat) [SV.lit (Value.int IntKind.i64
      (Prod.fst (List.getD L (T24.NSt.i b) (Ty.dflt T24.oty)))), SV.lit (Value.int IntKind.i64 (Prod.fst (Prod.snd (List.getD L (T24.NSt.i b) (Ty.dflt T24.oty))))), SV.imm
      T24.pty (Prod.snd (Prod.snd (List.getD L (T24.NSt.i b) (Ty.dflt T24.oty))))], SO.row (37 : Nat) T24.pty (Prod.snd (Prod.snd (List.getD L (T24.NSt.i b) (Ty.dflt T24.oty)))
      ++ [T24.markP])]) = (T24.vq L to (List.length (T24.sends (T24.NSt.Hv b) (List.take x' (Prod.snd (Prod.snd (List.getD L (T24.NSt.i b) (Ty.dflt T24.oty)))))))
      (↑(T24.NSt.sent b) : Int) (↑(T24.NSt.i b) : Int) [SV.ptr (6 : Nat) (0 : Nat), SV.sl (7 : Nat) (3 : Nat) (0 : Nat) (List.length (Prod.snd (Prod.snd (List.getD L (T24.NSt.i
      b) (Ty.dflt T24.oty))))), SV.lit (Value.int IntKind.i64 (↑x' : Int))], T24.hpq (T24.NSt.m b) (↑(T24.NSt.sent b) : Int) (T24.NSt.R b) (T24.sends (T24.NSt.Hv b) (List.take
      x' (Prod.snd (Prod.snd (List.getD L (T24.NSt.i b) (Ty.dflt T24.oty)))))) (List.length (T24.NSt.LL b)) (List.length (T24.NSt.LL b)) (T24.NSt.LL b) (T24.NSt.LL b) [SO.cells
      (56 : Nat) [SV.lit (Value.int IntKind.i64 (Prod.fst (List.getD L (T24.NSt.i b) (Ty.dflt T24.oty)))), SV.lit (Value.int IntKind.i64 (Prod.fst (Prod.snd (List.getD L
      (T24.NSt.i b) (Ty.dflt T24.oty))))), SV.imm T24.pty (Prod.snd (Prod.snd (List.getD L (T24.NSt.i b) (Ty.dflt T24.oty))))], SO.row (37 : Nat) T24.pty (Prod.snd (Prod.snd
      (List.getD L (T24.NSt.i b) (Ty.dflt T24.oty))) ++ [T24.markP])]) ∧ x' ≤ List.length (Prod.snd (Prod.snd (List.getD L (T24.NSt.i b) (Ty.dflt T24.oty)))) ∧ List.length
      (Prod.snd (Prod.snd (List.getD L (T24.NSt.i b) (Ty.dflt T24.oty)))) - x' < List.length (Prod.snd (Prod.snd (List.getD L (T24.NSt.i b) (Ty.dflt T24.oty)))) - b_6) ∧ True)))
      (∀ (b_7 : Bool), True → br b_7 ((T24.NSt.m b ≤ List.length (T24.NSt.R b) ∧ List.length (T24.NSt.R b) ≤ (200 : Nat) ∧ List.length (Prod.snd (Prod.snd (List.getD L
      (T24.NSt.i b) (Ty.dflt T24.oty)))) ≤ List.length (Prod.snd (Prod.snd (List.getD L (T24.NSt.i b) (Ty.dflt T24.oty))) ++ [T24.markP]) ∧ List.length (Prod.snd (Prod.snd
      (List.getD L (T24.NSt.i b) (Ty.dflt T24.oty)))) ≤ (1000 : Nat)) ∧ ∀ (b_8 : Nat × List (Ty.den T24.pty)), T24.RowOf (Prod.fst b_8) (T24.sends (List.take (T24.NSt.m b)
      (T24.NSt.R b)) (List.take (List.length (Prod.snd (Prod.snd (List.getD L (T24.NSt.i b) (Ty.dflt T24.oty))))) (Prod.snd (Prod.snd (List.getD L (T24.NSt.i b) (Ty.dflt
      T24.oty))) ++ [T24.markP]))) (Prod.snd b_8) → Sx.br ((↑(Prod.fst b_8) : Int) == (↑(List.length (T24.sends (T24.NSt.Hv b) (List.take b_6 (Prod.snd (Prod.snd (List.getD L
      (T24.NSt.i b) (Ty.dflt T24.oty))))))) : Int)) (((0 : Int) ≤ IntKind.wrap IntKind.i64 ((↑(List.length (Prod.snd (Prod.snd (List.getD L (T24.NSt.i b) (Ty.dflt T24.oty))))) :
      Int) + (1 : Int)) ∧ IntKind.wrap IntKind.i64 ((↑(List.length (Prod.snd (Prod.snd (List.getD L (T24.NSt.i b) (Ty.dflt T24.oty))))) : Int) + (1 : Int)) ≤ (↑(List.length
      (Prod.snd (Prod.snd (List.getD L (T24.NSt.i b) (Ty.dflt T24.oty))) ++ [T24.markP])) : Int)) ∧ True ∧ ((0 : Int) ≤ (↑(List.length (Prod.snd (Prod.snd (List.getD L
      (T24.NSt.i b) (Ty.dflt T24.oty))))) : Int) ∧ (↑(List.length (Prod.snd (Prod.snd (List.getD L (T24.NSt.i b) (Ty.dflt T24.oty))))) : Int) < (↑(Int.toNat (IntKind.wrap
      IntKind.i64 ((↑(List.length (Prod.snd (Prod.snd (List.getD L (T24.NSt.i b) (Ty.dflt T24.oty))))) : Int) + (1 : Int)))) : Int)) ∧ (0 : Nat) + List.length (Prod.snd
      (Prod.snd (List.getD L (T24.NSt.i b) (Ty.dflt T24.oty)))) < List.length (Prod.snd (Prod.snd (List.getD L (T24.NSt.i b) (Ty.dflt T24.oty))) ++ [T24.markP]) ∧ (∃ (x : Nat ×
      List (Ty.den T24.pty)), (T24.vq L to (List.length (T24.sends (T24.NSt.Hv b) (List.take b_6 (Prod.snd (Prod.snd (List.getD L (T24.NSt.i b) (Ty.dflt T24.oty)))))))
      (IntKind.wrap IntKind.i64 ((↑(T24.NSt.sent b) : Int) + (↑(List.length (Prod.snd (Prod.snd (List.getD L (T24.NSt.i b) (Ty.dflt T24.oty))))) : Int))) (↑(T24.NSt.i b) : Int)
      [SV.ptr (6 : Nat) (0 : Nat), SV.lit (Value.bool (Prod.snd (Prod.snd (List.getD (Prod.snd (Prod.snd (List.getD L (T24.NSt.i b) (Ty.dflt T24.oty))) ++ [T24.markP]) ((0 :
      Nat) + List.length (Prod.snd (Prod.snd (List.getD L (T24.NSt.i b) (Ty.dflt T24.oty))))) (Ty.dflt T24.pty))) == { data := #[(109 : UInt8), (97 : UInt8), (114 : UInt8), (107
      : UInt8)] })), SV.sl (7 : Nat) (3 : Nat) (0 : Nat) (List.length (Prod.snd (Prod.snd (List.getD L (T24.NSt.i b) (Ty.dflt T24.oty)))))], T24.hpq (Prod.fst b_8) (IntKind.wrap
      IntKind.i64 ((↑(T24.NSt.sent b) : Int) + (↑(List.length (Prod.snd (Prod.snd (List.getD L (T24.NSt.i b) (Ty.dflt T24.oty))))) : Int))) (Prod.snd b_8) (T24.sends (T24.NSt.Hv
      b) (List.take b_6 (Prod.snd (Prod.snd (List.getD L (T24.NSt.i b) (Ty.dflt T24.oty)))))) (List.length (T24.NSt.LL b)) (List.length (T24.NSt.LL b)) (T24.NSt.LL b)
      (T24.NSt.LL b) [SO.cells (56 : Nat) [SV.lit (Value.int IntKind.i64 (Prod.fst (List.getD L (T24.NSt.i b) (Ty.dflt T24.oty)))), SV.lit (Value.int IntKind.i64 (Prod.fst
      (Prod.snd (List.getD L (T24.NSt.i b) (Ty.dflt T24.oty))))), SV.imm T24.pty (Prod.snd (Prod.snd (List.getD L (T24.NSt.i b) (Ty.dflt T24.oty))))], SO.row (37 : Nat) T24.pty
      (Prod.snd (Prod.snd (List.getD L (T24.NSt.i b) (Ty.dflt T24.oty))) ++ [T24.markP])]) = (T24.vq L to (List.length (T24.sends (T24.NSt.Hv b) (List.take b_6 (Prod.snd
      (Prod.snd (List.getD L (T24.NSt.i b) (Ty.dflt T24.oty))))))) (IntKind.wrap IntKind.i64 ((↑(T24.NSt.sent b) : Int) + (↑(List.length (Prod.snd (Prod.snd (List.getD L
      (T24.NSt.i b) (Ty.dflt T24.oty))))) : Int))) (↑(T24.NSt.i b) : Int) [SV.ptr (6 : Nat) (0 : Nat), SV.lit (Value.bool true), SV.sl (7 : Nat) (3 : Nat) (0 : Nat) (List.length
      (Prod.snd (Prod.snd (List.getD L (T24.NSt.i b) (Ty.dflt T24.oty)))))], T24.hpq (Prod.fst x) (IntKind.wrap IntKind.i64 ((↑(T24.NSt.sent b) : Int) + (↑(List.length (Prod.snd
      (Prod.snd (List.getD L (T24.NSt.i b) (Ty.dflt T24.oty))))) : Int))) (Prod.snd x) (T24.sends (T24.NSt.Hv b) (List.take b_6 (Prod.snd (Prod.snd (List.getD L (T24.NSt.i b)
      (Ty.dflt T24.oty)))))) (List.length (T24.NSt.LL b)) (List.length (T24.NSt.LL b)) (T24.NSt.LL b) (T24.NSt.LL b) [SO.cells (56 : Nat) [SV.lit (Value.int IntKind.i64
      (Prod.fst (List.getD L (T24.NSt.i b) (Ty.dflt T24.oty)))), SV.lit (Value.int IntKind.i64 (Prod.fst (Prod.snd (List.getD L (T24.NSt.i b) (Ty.dflt T24.oty))))), SV.imm
      T24.pty (Prod.snd (Prod.snd (List.getD L (T24.NSt.i b) (Ty.dflt T24.oty))))], SO.row (37 : Nat) T24.pty (Prod.snd (Prod.snd (List.getD L (T24.NSt.i b) (Ty.dflt T24.oty)))
      ++ [T24.markP])]) ∧ T24.RowOf (Prod.fst x) (T24.sends (T24.NSt.Hv b) (List.take b_6 (Prod.snd (Prod.snd (List.getD L (T24.NSt.i b) (Ty.dflt T24.oty)))))) (Prod.snd x)) ∧
      True) ((∃ (x : Nat × List (Ty.den T24.pty)), (T24.vq L to (List.length (T24.sends (T24.NSt.Hv b) (List.take b_6 (Prod.snd (Prod.snd (List.getD L (T24.NSt.i b) (Ty.dflt
      T24.oty))))))) (IntKind.wrap IntKind.i64 ((↑(T24.NSt.sent b) : Int) + (↑(List.length (Prod.snd (Prod.snd (List.getD L (T24.NSt.i b) (Ty.dflt T24.oty))))) : Int)))
      (↑(T24.NSt.i b) : Int) [SV.ptr (6 : Nat) (0 : Nat), SV.lit (Value.bool false), SV.sl (7 : Nat) (3 : Nat) (0 : Nat) (List.length (Prod.snd (Prod.snd (List.getD L (T24.NSt.i
      b) (Ty.dflt T24.oty)))))], T24.hpq (Prod.fst b_8) (IntKind.wrap IntKind.i64 ((↑(T24.NSt.sent b) : Int) + (↑(List.length (Prod.snd (Prod.snd (List.getD L (T24.NSt.i b)
      (Ty.dflt T24.oty))))) : Int))) (Prod.snd b_8) (T24.sends (T24.NSt.Hv b) (List.take b_6 (Prod.snd (Prod.snd (List.getD L (T24.NSt.i b) (Ty.dflt T24.oty)))))) (List.length
      (T24.NSt.LL b)) (List.length (T24.NSt.LL b)) (T24.NSt.LL b) (T24.NSt.LL b) [SO.cells (56 : Nat) [SV.lit (Value.int IntKind.i64 (Prod.fst (List.getD L (T24.NSt.i b)
      (Ty.dflt T24.oty)))), SV.lit (Value.int IntKind.i64 (Prod.fst (Prod.snd (List.getD L (T24.NSt.i b) (Ty.dflt T24.oty))))), SV.imm T24.pty (Prod.snd (Prod.snd (List.getD L
      (T24.NSt.i b) (Ty.dflt T24.oty))))], SO.row (37 : Nat) T24.pty (Prod.snd (Prod.snd (List.getD L (T24.NSt.i b) (Ty.dflt T24.oty))) ++ [T24.markP])]) = (T24.vq L to
      (List.length (T24.sends (T24.NSt.Hv b) (List.take b_6 (Prod.snd (Prod.snd (List.getD L (T24.NSt.i b) (Ty.dflt T24.oty))))))) (IntKind.wrap IntKind.i64 ((↑(T24.NSt.sent b)
      : Int) + (↑(List.length (Prod.snd (Prod.snd (List.getD L (T24.NSt.i b) (Ty.dflt T24.oty))))) : Int))) (↑(T24.NSt.i b) : Int) [SV.ptr (6 : Nat) (0 : Nat), SV.lit
      (Value.bool true), SV.sl (7 : Nat) (3 : Nat) (0 : Nat) (List.length (Prod.snd (Prod.snd (List.getD L (T24.NSt.i b) (Ty.dflt T24.oty)))))], T24.hpq (Prod.fst x)
      (IntKind.wrap IntKind.i64 ((↑(T24.NSt.sent b) : Int) + (↑(List.length (Prod.snd (Prod.snd (List.getD L (T24.NSt.i b) (Ty.dflt T24.oty))))) : Int))) (Prod.snd x) (T24.sends
      (T24.NSt.Hv b) (List.take b_6 (Prod.snd (Prod.snd (List.getD L (T24.NSt.i b) (Ty.dflt T24.oty)))))) (List.length (T24.NSt.LL b)) (List.length (T24.NSt.LL b)) (T24.NSt.LL
      b) (T24.NSt.LL b) [SO.cells (56 : Nat) [SV.lit (Value.int IntKind.i64 (Prod.fst (List.getD L (T24.NSt.i b) (Ty.dflt T24.oty)))), SV.lit (Value.int IntKind.i64 (Prod.fst
      (Prod.snd (List.getD L (T24.NSt.i b) (Ty.dflt T24.oty))))), SV.imm T24.pty (Prod.snd (Prod.snd (List.getD L (T24.NSt.i b) (Ty.dflt T24.oty))))], SO.row (37 : Nat) T24.pty
      (Prod.snd (Prod.snd (List.getD L (T24.NSt.i b) (Ty.dflt T24.oty))) ++ [T24.markP])]) ∧ T24.RowOf (Prod.fst x) (T24.sends (T24.NSt.Hv b) (List.take b_6 (Prod.snd (Prod.snd
      (List.getD L (T24.NSt.i b) (Ty.dflt T24.oty)))))) (Prod.snd x)) ∧ True)) (∀ (b_8 : Nat × List (Ty.den T24.pty)), T24.RowOf (Prod.fst b_8) (T24.sends (T24.NSt.Hv b)
      (List.take b_6 (Prod.snd (Prod.snd (List.getD L (T24.NSt.i b) (Ty.dflt T24.oty)))))) (Prod.snd b_8) → (∃ (x : Nat), (T24.vq L to (List.length (T24.sends (T24.NSt.Hv b)
      (List.take b_6 (Prod.snd (Prod.snd (List.getD L (T24.NSt.i b) (Ty.dflt T24.oty))))))) (IntKind.wrap IntKind.i64 ((↑(T24.NSt.sent b) : Int) + (↑(List.length (Prod.snd
      (Prod.snd (List.getD L (T24.NSt.i b) (Ty.dflt T24.oty))))) : Int))) (↑(T24.NSt.i b) : Int) [SV.ptr (6 : Nat) (0 : Nat), SV.lit (Value.bool true), SV.sl (7 : Nat) (3 : Nat)
      (0 : Nat) (List.length (Prod.snd (Prod.snd (List.getD L (T24.NSt.i b) (Ty.dflt T24.oty))))), SV.lit (Value.int IntKind.i64 (0 : Int))], T24.hpq (Prod.fst b_8)
      (IntKind.wrap IntKind.i64 ((↑(T24.NSt.sent b) : Int) + (↑(List.length (Prod.snd (Prod.snd (List.getD L (T24.NSt.i b) (Ty.dflt T24.oty))))) : Int))) (Prod.snd b_8)
      (T24.sends (T24.NSt.Hv b) (List.take b_6 (Prod.snd (Prod.snd (List.getD L (T24.NSt.i b) (Ty.dflt T24.oty)))))) (List.length (T24.NSt.LL b)) (List.length (T24.NSt.LL b))
      (T24.NSt.LL b) (T24.NSt.LL b) [SO.cells (56 : Nat) [SV.lit (Value.int IntKind.i64 (Prod.fst (List.getD L (T24.NSt.i b) (Ty.dflt T24.oty)))), SV.lit (Value.int IntKind.i64
      (Prod.fst (Prod.snd (List.getD L (T24.NSt.i b) (Ty.dflt T24.oty))))), SV.imm T24.pty (Prod.snd (Prod.snd (List.getD L (T24.NSt.i b) (Ty.dflt T24.oty))))], SO.row (37 :
      Nat) T24.pty (Prod.snd (Prod.snd (List.getD L (T24.NSt.i b) (Ty.dflt T24.oty))) ++ [T24.markP])]) = (T24.vq L to (List.length (T24.sends (T24.NSt.Hv b) (List.take b_6
      (Prod.snd (Prod.snd (List.getD L (T24.NSt.i b) (Ty.dflt T24.oty))))))) (IntKind.wrap IntKind.i64 ((↑(T24.NSt.sent b) : Int) + (↑(List.length (Prod.snd (Prod.snd (List.getD
      L (T24.NSt.i b) (Ty.dflt T24.oty))))) : Int))) (↑(T24.NSt.i b) : Int) [SV.ptr (6 : Nat) (0 : Nat), SV.lit (Value.bool true), SV.sl (7 : Nat) (3 : Nat) (0 : Nat)
      (List.length (Prod.snd (Prod.snd (List.getD L (T24.NSt.i b) (Ty.dflt T24.oty))))), SV.lit (Value.int IntKind.i64 (↑x : Int))], T24.hpq (Prod.fst b_8) (IntKind.wrap
      IntKind.i64 ((↑(T24.NSt.sent b) : Int) + (↑(List.length (Prod.snd (Prod.snd (List.getD L (T24.NSt.i b) (Ty.dflt T24.oty))))) : Int))) (Prod.snd b_8) (T24.sends (T24.NSt.Hv
      b) (List.take b_6 (Prod.snd (Prod.snd (List.getD L (T24.NSt.i b) (Ty.dflt T24.oty)))))) (List.length (T24.NSt.LL b)) (List.length (T24.NSt.LL b)) (T24.NSt.LL b)
      (T24.NSt.LL b) [SO.cells (56 : Nat) [SV.lit (Value.int IntKind.i64 (Prod.fst (List.getD L (T24.NSt.i b) (Ty.dflt T24.oty)))), SV.lit (Value.int IntKind.i64 (Prod.fst
      (Prod.snd (List.getD L (T24.NSt.i b) (Ty.dflt T24.oty))))), SV.imm T24.pty (Prod.snd (Prod.snd (List.getD L (T24.NSt.i b) (Ty.dflt T24.oty))))], SO.row (37 : Nat) T24.pty
      (Prod.snd (Prod.snd (List.getD L (T24.NSt.i b) (Ty.dflt T24.oty))) ++ [T24.markP])]) ∧ x ≤ List.length (Prod.snd (Prod.snd (List.getD L (T24.NSt.i b) (Ty.dflt T24.oty)))))
      ∧ ∀ (b_9 : Nat), b_9 ≤ List.length (Prod.snd (Prod.snd (List.getD L (T24.NSt.i b) (Ty.dflt T24.oty)))) → Sx.br (decide ((↑b_9 : Int) < (↑(List.length (Prod.snd (Prod.snd
      (List.getD L (T24.NSt.i b) (Ty.dflt T24.oty))))) : Int))) (((0 : Int) ≤ (↑b_9 : Int) ∧ (↑b_9 : Int) < (↑(List.length (Prod.snd (Prod.snd (List.getD L (T24.NSt.i b)
      (Ty.dflt T24.oty))))) : Int)) ∧ (0 : Nat) + b_9 < List.length (Prod.snd (Prod.snd (List.getD L (T24.NSt.i b) (Ty.dflt T24.oty))) ++ [T24.markP]) ∧ ((0 : Int) ≤ (↑b_9 :
      Int) ∧ (↑b_9 : Int) < (↑(List.length (Prod.snd (Prod.snd (List.getD L (T24.NSt.i b) (Ty.dflt T24.oty))))) : Int)) ∧ b_9 < List.length (Prod.snd (Prod.snd (List.getD L
      (T24.NSt.i b) (Ty.dflt T24.oty)))) ∧ (∃ (x' : Nat), (T24.vq L to (List.length (T24.sends (T24.NSt.Hv b) (List.take b_6 (Prod.snd (Prod.snd (List.getD L (T24.NSt.i b)
      (Ty.dflt T24.oty))))))) (IntKind.wrap IntKind.i64 ((↑(T24.NSt.sent b) : Int) + (↑(List.length (Prod.snd (Prod.snd (List.getD L (T24.NSt.i b) (Ty.dflt T24.oty))))) : Int)))
      (↑(T24.NSt.i b) : Int) [SV.ptr (6 : Nat) (0 : Nat), SV.lit (Value.bool (Prod.fst (List.getD (Prod.snd (Prod.snd (List.getD L (T24.NSt.i b) (Ty.dflt T24.oty))) ++
      [T24.markP]) ((0 : Nat) + b_9) (Ty.dflt T24.pty)) == Prod.fst (List.getD (Prod.snd (Prod.snd (List.getD L (T24.NSt.i b) (Ty.dflt T24.oty)))) b_9 (Ty.dflt T24.pty)) &&
      (Prod.fst (Prod.snd (List.getD (Prod.snd (Prod.snd (List.getD L (T24.NSt.i b) (Ty.dflt T24.oty))) ++ [T24.markP]) ((0 : Nat) + b_9) (Ty.dflt T24.pty))) == Prod.fst
      (Prod.snd (List.getD (Prod.snd (Prod.snd (List.getD L (T24.NSt.i b) (Ty.dflt T24.oty)))) b_9 (Ty.dflt T24.pty))) && (Prod.snd (Prod.snd (List.getD (Prod.snd (Prod.snd
      (List.getD L (T24.NSt.i b) (Ty.dflt T24.oty))) ++ [T24.markP]) ((0 : Nat) + b_9) (Ty.dflt T24.pty))) == Prod.snd (Prod.snd (List.getD (Prod.snd (Prod.snd (List.getD L
      (T24.NSt.i b) (Ty.dflt T24.oty)))) b_9 (Ty.dflt T24.pty))) && true)))), SV.sl (7 : Nat) (3 : Nat) (0 : Nat) (List.length (Prod.snd (Prod.snd (List.getD L (T24.NSt.i b)
      (Ty.dflt T24.oty))))), SV.lit (Value.int IntKind.i64 (IntKind.wrap IntKind.i64 ((↑b_9 : Int) + (1 : Int))))], T24.hpq (Prod.fst b_8) (IntKind.wrap IntKind.i64
      ((↑(T24.NSt.sent b) : Int) + (↑(List.length (Prod.snd (Prod.snd (List.getD L (T24.NSt.i b) (Ty.dflt T24.oty))))) : Int))) (Prod.snd b_8) (T24.sends (T24.NSt.Hv b)
      (List.take b_6 (Prod.snd (Prod.snd (List.getD L (T24.NSt.i b) (Ty.dflt T24.oty)))))) (List.length (T24.NSt.LL b)) (List.length (T24.NSt.LL b)) (T24.NSt.LL b) (T24.NSt.LL
      b) [SO.cells (56 : Nat) [SV.lit (Value.int IntKind.i64 (Prod.fst (List.getD L (T24.NSt.i b) (Ty.dflt T24.oty)))), SV.lit (Value.int IntKind.i64 (Prod.fst (Prod.snd
      (List.getD L (T24.NSt.i b) (Ty.dflt T24.oty))))), SV.imm T24.pty (Prod.snd (Prod.snd (List.getD L (T24.NSt.i b) (Ty.dflt T24.oty))))], SO.row (37 : Nat) T24.pty (Prod.snd
      (Prod.snd (List.getD L (T24.NSt.i b) (Ty.dflt T24.oty))) ++ [T24.markP])]) = (T24.vq L to (List.length (T24.sends (T24.NSt.Hv b) (List.take b_6 (Prod.snd (Prod.snd
      (List.getD L (T24.NSt.i b) (Ty.dflt T24.oty))))))) (IntKind.wrap IntKind.i64 ((↑(T24.NSt.sent b) : Int) + (↑(List.length (Prod.snd (Prod.snd (List.getD L (T24.NSt.i b)
      (Ty.dflt T24.oty))))) : Int))) (↑(T24.NSt.i b) : Int) [SV.ptr (6 : Nat) (0 : Nat), SV.lit (Value.bool true), SV.sl (7 : Nat) (3 : Nat) (0 : Nat) (List.length (Prod.snd
      (Prod.snd (List.getD L (T24.NSt.i b) (Ty.dflt T24.oty))))), SV.lit (Value.int IntKind.i64 (↑x' : Int))], T24.hpq (Prod.fst b_8) (IntKind.wrap IntKind.i64 ((↑(T24.NSt.sent
      b) : Int) + (↑(List.length (Prod.snd (Prod.snd (List.getD L (T24.NSt.i b) (Ty.dflt T24.oty))))) : Int))) (Prod.snd b_8) (T24.sends (T24.NSt.Hv b) (List.take b_6 (Prod.snd
      (Prod.snd (List.getD L (T24.NSt.i b) (Ty.dflt T24.oty)))))) (List.length (T24.NSt.LL b)) (List.length (T24.NSt.LL b)) (T24.NSt.LL b) (T24.NSt.LL b) [SO.cells (56 : Nat)
      [SV.lit (Value.int IntKind.i64 (Prod.fst (List.getD L (T24.NSt.i b) (Ty.dflt T24.oty)))), SV.lit (Value.int IntKind.i64 (Prod.fst (Prod.snd (List.getD L (T24.NSt.i b)
      (Ty.dflt T24.oty))))), SV.imm T24.pty (Prod.snd (Prod.snd (List.getD L (T24.NSt.i b) (Ty.dflt T24.oty))))], SO.row (37 : Nat) T24.pty (Prod.snd (Prod.snd (List.getD L
      (T24.NSt.i b) (Ty.dflt T24.oty))) ++ [T24.markP])]) ∧ x' ≤ List.length (Prod.snd (Prod.snd (List.getD L (T24.NSt.i b) (Ty.dflt T24.oty)))) ∧ List.length (Prod.snd
      (Prod.snd (List.getD L (T24.NSt.i b) (Ty.dflt T24.oty)))) - x' < List.length (Prod.snd (Prod.snd (List.getD L (T24.NSt.i b) (Ty.dflt T24.oty)))) - b_9) ∧ True) ((∃ (x :
      T24.NSt), (T24.vq L to (List.length (T24.sends (T24.NSt.Hv b) (List.take b_6 (Prod.snd (Prod.snd (List.getD L (T24.NSt.i b) (Ty.dflt T24.oty))))))) (IntKind.wrap
      IntKind.i64 ((↑(T24.NSt.sent b) : Int) + (↑(List.length (Prod.snd (Prod.snd (List.getD L (T24.NSt.i b) (Ty.dflt T24.oty))))) : Int))) (↑(T24.NSt.i b) : Int) [SV.lit
      (Value.bool true)], T24.hpq (Prod.fst b_8) (IntKind.wrap IntKind.i64 ((↑(T24.NSt.sent b) : Int) + (↑(List.length (Prod.snd (Prod.snd (List.getD L (T24.NSt.i b) (Ty.dflt
      T24.oty))))) : Int))) (Prod.snd b_8) (T24.sends (T24.NSt.Hv b) (List.take b_6 (Prod.snd (Prod.snd (List.getD L (T24.NSt.i b) (Ty.dflt T24.oty)))))) (List.length
      (T24.NSt.LL b)) (List.length (T24.NSt.LL b)) (T24.NSt.LL b) (T24.NSt.LL b) ([] : List Sx.SO)) = (T24.vq L to (List.length (T24.NSt.Hv x)) (↑(T24.NSt.sent x) : Int)
      (↑(T24.NSt.i b) : Int) [SV.lit (Value.bool true)], T24.hpq (T24.NSt.m x) (↑(T24.NSt.sent x) : Int) (T24.NSt.R x) (T24.NSt.Hv x) (List.length (T24.NSt.LL x)) (List.length
      (T24.NSt.LL x)) (T24.NSt.LL x) (T24.NSt.LL x) ([] : List Sx.SO)) ∧ ((↑(T24.NSt.i x) : Int) = (↑(T24.NSt.i b) : Int) ∧ T24.NSt.LL x = T24.NSt.LL b) ∧ T24.RowOf (T24.NSt.m
      x) (T24.NSt.Hv x) (T24.NSt.R x) ∧ (↑(T24.NSt.sent x) : Int) ≤ (100 : Int) * ((↑(T24.NSt.i b) : Int) + (1 : Int))) ∧ True))))) (∀ (b_4 : Bool), True → br b_4 (br (Prod.fst
      (List.getD L (T24.NSt.i b) (Ty.dflt T24.oty)) == (2 : Int)) ((∃ (x : Unit), (T24.vq L to (List.length (T24.NSt.Hv b)) (↑(T24.NSt.sent b) : Int) (↑(T24.NSt.i b) : Int)
      [SV.ptr (6 : Nat) (0 : Nat), SV.lit (Value.bool (T24.inB (Prod.fst (Prod.snd (List.getD L (T24.NSt.i b) (Ty.dflt T24.oty)))) (List.length (T24.NSt.Hv b)))), SV.lit
      (Value.bool true), SV.lit (Value.bool (Prod.fst (List.getD L (T24.NSt.i b) (Ty.dflt T24.oty)) == (2 : Int)))], T24.hpq (T24.NSt.m b) (↑(T24.NSt.sent b) : Int) (T24.NSt.R
      b) (T24.NSt.Hv b) (List.length (T24.NSt.LL b)) (List.length (T24.NSt.LL b)) (T24.NSt.LL b) (T24.NSt.LL b) [SO.cells (56 : Nat) [SV.lit (Value.int IntKind.i64 (Prod.fst
      (List.getD L (T24.NSt.i b) (Ty.dflt T24.oty)))), SV.lit (Value.int IntKind.i64 (Prod.fst (Prod.snd (List.getD L (T24.NSt.i b) (Ty.dflt T24.oty))))), SV.imm T24.pty
      (Prod.snd (Prod.snd (List.getD L (T24.NSt.i b) (Ty.dflt T24.oty))))]]) = (T24.vq L to (List.length (T24.NSt.Hv b)) (↑(T24.NSt.sent b) : Int) (↑(T24.NSt.i b) : Int) [SV.ptr
      (6 : Nat) (0 : Nat), SV.lit (Value.bool (T24.inB (Prod.fst (Prod.snd (List.getD L (T24.NSt.i b) (Ty.dflt T24.oty)))) (List.length (T24.NSt.Hv b)))), SV.lit (Value.bool
      true), SV.lit (Value.bool (decide (Prod.fst (List.getD L (T24.NSt.i b) (Ty.dflt T24.oty)) = (2 : Int) ∨ Prod.fst (List.getD L (T24.NSt.i b) (Ty.dflt T24.oty)) = (4 : Int)
      ∨ Prod.fst (List.getD L (T24.NSt.i b) (Ty.dflt T24.oty)) = (5 : Int))))], T24.hpq (T24.NSt.m b) (↑(T24.NSt.sent b) : Int) (T24.NSt.R b) (T24.NSt.Hv b) (List.length
      (T24.NSt.LL b)) (List.length (T24.NSt.LL b)) (T24.NSt.LL b) (T24.NSt.LL b) [SO.cells (56 : Nat) [SV.lit (Value.int IntKind.i64 (Prod.fst (List.getD L (T24.NSt.i b)
      (Ty.dflt T24.oty)))), SV.lit (Value.int IntKind.i64 (Prod.fst (Prod.snd (List.getD L (T24.NSt.i b) (Ty.dflt T24.oty))))), SV.imm T24.pty (Prod.snd (Prod.snd (List.getD L
      (T24.NSt.i b) (Ty.dflt T24.oty))))]]) ∧ True) ∧ True) (br (Prod.fst (List.getD L (T24.NSt.i b) (Ty.dflt T24.oty)) == (4 : Int)) ((∃ (x : Unit), (T24.vq L to (List.length
      (T24.NSt.Hv b)) (↑(T24.NSt.sent b) : Int) (↑(T24.NSt.i b) : Int) [SV.ptr (6 : Nat) (0 : Nat), SV.lit (Value.bool (T24.inB (Prod.fst (Prod.snd (List.getD L (T24.NSt.i b)
      (Ty.dflt T24.oty)))) (List.length (T24.NSt.Hv b)))), SV.lit (Value.bool true), SV.lit (Value.bool (Prod.fst (List.getD L (T24.NSt.i b) (Ty.dflt T24.oty)) == (4 : Int)))],
      T24.hpq (T24.NSt.m b) (↑(T24.NSt.sent b) : Int) (T24.NSt.R b) (T24.NSt.Hv b) (List.length (T24.NSt.LL b)) (List.length (T24.NSt.LL b)) (T24.NSt.LL b) (T24.NSt.LL b)
      [SO.cells (56 : Nat) [SV.lit (Value.int IntKind.i64 (Prod.fst (List.getD L (T24.NSt.i b) (Ty.dflt T24.oty)))), SV.lit (Value.int IntKind.i64 (Prod.fst (Prod.snd (List.getD
      L (T24.NSt.i b) (Ty.dflt T24.oty))))), SV.imm T24.pty (Prod.snd (Prod.snd (List.getD L (T24.NSt.i b) (Ty.dflt T24.oty))))]]) = (T24.vq L to (List.length (T24.NSt.Hv b))
      (↑(T24.NSt.sent b) : Int) (↑(T24.NSt.i b) : Int) [SV.ptr (6 : Nat) (0 : Nat), SV.lit (Value.bool (T24.inB (Prod.fst (Prod.snd (List.getD L (T24.NSt.i b) (Ty.dflt
      T24.oty)))) (List.length (T24.NSt.Hv b)))), SV.lit (Value.bool true), SV.lit (Value.bool (decide (Prod.fst (List.getD L (T24.NSt.i b) (Ty.dflt T24.oty)) = (2 : Int) ∨
      Prod.fst (List.getD L (T24.NSt.i b) (Ty.dflt T24.oty)) = (4 : Int) ∨ Prod.fst (List.getD L (T24.NSt.i b) (Ty.dflt T24.oty)) = (5 : Int))))], T24.hpq (T24.NSt.m b)
      (↑(T24.NSt.sent b) : Int) (T24.NSt.R b) (T24.NSt.Hv b) (List.length (T24.NSt.LL b)) (List.length (T24.NSt.LL b)) (T24.NSt.LL b) (T24.NSt.LL b) [SO.cells (56 : Nat) [SV.lit
      (Value.int IntKind.i64 (Prod.fst (List.getD L (T24.NSt.i b) (Ty.dflt T24.oty)))), SV.lit (Value.int IntKind.i64 (Prod.fst (Prod.snd (List.getD L (T24.NSt.i b) (Ty.dflt
      T24.oty))))), SV.imm T24.pty (Prod.snd (Prod.snd (List.getD L (T24.NSt.i b) (Ty.dflt T24.oty))))]]) ∧ True) ∧ True) ((∃ (x : Unit), (T24.vq L to (List.length (T24.NSt.Hv
      b)) (↑(T24.NSt.sent b) : Int) (↑(T24.NSt.i b) : Int) [SV.ptr (6 : Nat) (0 : Nat), SV.lit (Value.bool (T24.inB (Prod.fst (Prod.snd (List.getD L (T24.NSt.i b) (Ty.dflt
      T24.oty)))) (List.length (T24.NSt.Hv b)))), SV.lit (Value.bool true), SV.lit (Value.bool (Prod.fst (List.getD L (T24.NSt.i b) (Ty.dflt T24.oty)) == (5 : Int)))], T24.hpq
      (T24.NSt.m b) (↑(T24.NSt.sent b) : Int) (T24.NSt.R b) (T24.NSt.Hv b) (List.length (T24.NSt.LL b)) (List.length (T24.NSt.LL b)) (T24.NSt.LL b) (T24.NSt.LL b) [SO.cells (56
      : Nat) [SV.lit (Value.int IntKind.i64 (Prod.fst (List.getD L (T24.NSt.i b) (Ty.dflt T24.oty)))), SV.lit (Value.int IntKind.i64 (Prod.fst (Prod.snd (List.getD L (T24.NSt.i
      b) (Ty.dflt T24.oty))))), SV.imm T24.pty (Prod.snd (Prod.snd (List.getD L (T24.NSt.i b) (Ty.dflt T24.oty))))]]) = (T24.vq L to (List.length (T24.NSt.Hv b)) (↑(T24.NSt.sent
      b) : Int) (↑(T24.NSt.i b) : Int) [SV.ptr (6 : Nat) (0 : Nat), SV.lit (Value.bool (T24.inB (Prod.fst (Prod.snd (List.getD L (T24.NSt.i b) (Ty.dflt T24.oty)))) (List.length
      (T24.NSt.Hv b)))), SV.lit (Value.bool true), SV.lit (Value.bool (decide (Prod.fst (List.getD L (T24.NSt.i b) (Ty.dflt T24.oty)) = (2 : Int) ∨ Prod.fst (List.getD L
      (T24.NSt.i b) (Ty.dflt T24.oty)) = (4 : Int) ∨ Prod.fst (List.getD L (T24.NSt.i b) (Ty.dflt T24.oty)) = (5 : Int))))], T24.hpq (T24.NSt.m b) (↑(T24.NSt.sent b) : Int)
      (T24.NSt.R b) (T24.NSt.Hv b) (List.length (T24.NSt.LL b)) (List.length (T24.NSt.LL b)) (T24.NSt.LL b) (T24.NSt.LL b) [SO.cells (56 : Nat) [SV.lit (Value.int IntKind.i64
      (Prod.fst (List.getD L (T24.NSt.i b) (Ty.dflt T24.oty)))), SV.lit (Value.int IntKind.i64 (Prod.fst (Prod.snd (List.getD L (T24.NSt.i b) (Ty.dflt T24.oty))))), SV.imm
      T24.pty (Prod.snd (Prod.snd (List.getD L (T24.NSt.i b) (Ty.dflt T24.oty))))]]) ∧ True) ∧ True))) (∀ (b_5 : Unit), True → Sx.br (decide (Prod.fst (List.getD L (T24.NSt.i b)
      (Ty.dflt T24.oty)) = (2 : Int) ∨ Prod.fst (List.getD L (T24.NSt.i b) (Ty.dflt T24.oty)) = (4 : Int) ∨ Prod.fst (List.getD L (T24.NSt.i b) (Ty.dflt T24.oty)) = (5 : Int)))
      (∀ (b_6 : Bool), True → br b_6 (br (T24.inB (Prod.fst (Prod.snd (List.getD L (T24.NSt.i b) (Ty.dflt T24.oty)))) (List.length (T24.NSt.Hv b))) (((0 : Int) ≤ Prod.fst
      (Prod.snd (List.getD L (T24.NSt.i b) (Ty.dflt T24.oty))) ∧ Prod.fst (Prod.snd (List.getD L (T24.NSt.i b) (Ty.dflt T24.oty))) < (↑(List.length (T24.NSt.Hv b)) : Int)) ∧ (0
      : Nat) + Int.toNat (Prod.fst (Prod.snd (List.getD L (T24.NSt.i b) (Ty.dflt T24.oty)))) < List.length (T24.NSt.Hv b) ∧ (∃ (x : Ty.den T24.pty), (T24.vq L to (List.length
      (T24.NSt.Hv b)) (↑(T24.NSt.sent b) : Int) (↑(T24.NSt.i b) : Int) [SV.ptr (6 : Nat) (0 : Nat), SV.lit (Value.bool (T24.inB (Prod.fst (Prod.snd (List.getD L (T24.NSt.i b)
      (Ty.dflt T24.oty)))) (List.length (T24.NSt.Hv b)))), SV.lit (Value.bool true), SV.ptr (7 : Nat) (0 : Nat)], T24.hpq (T24.NSt.m b) (↑(T24.NSt.sent b) : Int) (T24.NSt.R b)
      (T24.NSt.Hv b) (List.length (T24.NSt.LL b)) (List.length (T24.NSt.LL b)) (T24.NSt.LL b) (T24.NSt.LL b) [SO.cells (56 : Nat) [SV.lit (Value.int IntKind.i64 (Prod.fst
      (List.getD L (T24.NSt.i b) (Ty.dflt T24.oty)))), SV.lit (Value.int IntKind.i64 (Prod.fst (Prod.snd (List.getD L (T24.NSt.i b) (Ty.dflt T24.oty))))), SV.imm T24.pty
      (Prod.snd (Prod.snd (List.getD L (T24.NSt.i b) (Ty.dflt T24.oty))))], SO.cells (37 : Nat) [SV.lit (Value.int IntKind.i64 (Prod.fst (List.getD (T24.NSt.Hv b) ((0 : Nat) +
      Int.toNat (Prod.fst (Prod.snd (List.getD L (T24.NSt.i b) (Ty.dflt T24.oty))))) (Ty.dflt T24.pty)))), SV.lit (Value.int IntKind.i64 (Prod.fst (Prod.snd (List.getD
      (T24.NSt.Hv b) ((0 : Nat) + Int.toNat (Prod.fst (Prod.snd (List.getD L (T24.NSt.i b) (Ty.dflt T24.oty))))) (Ty.dflt T24.pty))))), SV.lit (Value.string (Prod.snd (Prod.snd
      (List.getD (T24.NSt.Hv b) ((0 : Nat) + Int.toNat (Prod.fst (Prod.snd (List.getD L (T24.NSt.i b) (Ty.dflt T24.oty))))) (Ty.dflt T24.pty)))))]]) = (T24.vq L to (List.length
      (T24.NSt.Hv b)) (↑(T24.NSt.sent b) : Int) (↑(T24.NSt.i b) : Int) [SV.ptr (6 : Nat) (0 : Nat), SV.lit (Value.bool (T24.inB (Prod.fst (Prod.snd (List.getD L (T24.NSt.i b)
      (Ty.dflt T24.oty)))) (List.length (T24.NSt.Hv b)))), SV.lit (Value.bool true), SV.ptr (7 : Nat) (0 : Nat)], T24.hpq (T24.NSt.m b) (↑(T24.NSt.sent b) : Int) (T24.NSt.R b)
      (T24.NSt.Hv b) (List.length (T24.NSt.LL b)) (List.length (T24.NSt.LL b)) (T24.NSt.LL b) (T24.NSt.LL b) [SO.cells (56 : Nat) [SV.lit (Value.int IntKind.i64 (Prod.fst
      (List.getD L (T24.NSt.i b) (Ty.dflt T24.oty)))), SV.lit (Value.int IntKind.i64 (Prod.fst (Prod.snd (List.getD L (T24.NSt.i b) (Ty.dflt T24.oty))))), SV.imm T24.pty
      (Prod.snd (Prod.snd (List.getD L (T24.NSt.i b) (Ty.dflt T24.oty))))], SO.cells (37 : Nat) [SV.lit (Value.int IntKind.i64 (Prod.fst x)), SV.lit (Value.int IntKind.i64
      (Prod.fst (Prod.snd x))), SV.lit (Value.string (Prod.snd (Prod.snd x)))]]) ∧ x = T24.wantOf (Prod.fst (Prod.snd (List.getD L (T24.NSt.i b) (Ty.dflt T24.oty)))) (T24.NSt.Hv
      b)) ∧ True) ((∃ (x : Ty.den T24.pty), (T24.vq L to (List.length (T24.NSt.Hv b)) (↑(T24.NSt.sent b) : Int) (↑(T24.NSt.i b) : Int) [SV.ptr (6 : Nat) (0 : Nat), SV.lit
      (Value.bool (T24.inB (Prod.fst (Prod.snd (List.getD L (T24.NSt.i b) (Ty.dflt T24.oty)))) (List.length (T24.NSt.Hv b)))), SV.lit (Value.bool true), SV.ptr (7 : Nat) (0 :
      Nat)], T24.hpq (T24.NSt.m b) (↑(T24.NSt.sent b) : Int) (T24.NSt.R b) (T24.NSt.Hv b) (List.length (T24.NSt.LL b)) (List.length (T24.NSt.LL b)) (T24.NSt.LL b) (T24.NSt.LL b)
      [SO.cells (56 : Nat) [SV.lit (Value.int IntKind.i64 (Prod.fst (List.getD L (T24.NSt.i b) (Ty.dflt T24.oty)))), SV.lit (Value.int IntKind.i64 (Prod.fst (Prod.snd (List.getD
      L (T24.NSt.i b) (Ty.dflt T24.oty))))), SV.imm T24.pty (Prod.snd (Prod.snd (List.getD L (T24.NSt.i b) (Ty.dflt T24.oty))))], SO.cells (37 : Nat) [SV.lit (Value.int
      IntKind.i64 (0 : Int)), SV.lit (Value.int IntKind.i64 (0 : Int)), SV.lit (Value.string { data := #[] })]]) = (T24.vq L to (List.length (T24.NSt.Hv b)) (↑(T24.NSt.sent b) :
      Int) (↑(T24.NSt.i b) : Int) [SV.ptr (6 : Nat) (0 : Nat), SV.lit (Value.bool (T24.inB (Prod.fst (Prod.snd (List.getD L (T24.NSt.i b) (Ty.dflt T24.oty)))) (List.length
      (T24.NSt.Hv b)))), SV.lit (Value.bool true), SV.ptr (7 : Nat) (0 : Nat)], T24.hpq (T24.NSt.m b) (↑(T24.NSt.sent b) : Int) (T24.NSt.R b) (T24.NSt.Hv b) (List.length
      (T24.NSt.LL b)) (List.length (T24.NSt.LL b)) (T24.NSt.LL b) (T24.NSt.LL b) [SO.cells (56 : Nat) [SV.lit (Value.int IntKind.i64 (Prod.fst (List.getD L (T24.NSt.i b)
      (Ty.dflt T24.oty)))), SV.lit (Value.int IntKind.i64 (Prod.fst (Prod.snd (List.getD L (T24.NSt.i b) (Ty.dflt T24.oty))))), SV.imm T24.pty (Prod.snd (Prod.snd (List.getD L
      (T24.NSt.i b) (Ty.dflt T24.oty))))], SO.cells (37 : Nat) [SV.lit (Value.int IntKind.i64 (Prod.fst x)), SV.lit (Value.int IntKind.i64 (Prod.fst (Prod.snd x))), SV.lit
      (Value.string (Prod.snd (Prod.snd x)))]]) ∧ x = T24.wantOf (Prod.fst (Prod.snd (List.getD L (T24.NSt.i b) (Ty.dflt T24.oty)))) (T24.NSt.Hv b)) ∧ True)) (∀ (b_7 : Ty.den
      T24.pty), b_7 = T24.wantOf (Prod.fst (Prod.snd (List.getD L (T24.NSt.i b) (Ty.dflt T24.oty)))) (T24.NSt.Hv b) → ∀ (b_8 : Bool), True → br b_8 (br (Prod.fst (List.getD L
      (T24.NSt.i b) (Ty.dflt T24.oty)) == (2 : Int)) ((T24.NSt.m b ≤ List.length (T24.NSt.R b) ∧ T24.NSt.m b ≤ (1000000 : Nat)) ∧ Sx.br (decide ((0 : Int) ≤ Prod.fst (Prod.snd
      (List.getD L (T24.NSt.i b) (Ty.dflt T24.oty))) ∧ Prod.fst (Prod.snd (List.getD L (T24.NSt.i b) (Ty.dflt T24.oty))) < (↑(T24.NSt.m b) : Int))) (Sx.br (true == T24.inB
      (Prod.fst (Prod.snd (List.getD L (T24.NSt.i b) (Ty.dflt T24.oty)))) (List.length (T24.NSt.Hv b))) ((∃ (x : Nat × List (Ty.den T24.pty)), (T24.vq L to (List.length
      (T24.NSt.Hv b)) (↑(T24.NSt.sent b) : Int) (↑(T24.NSt.i b) : Int) [SV.ptr (6 : Nat) (0 : Nat), SV.lit (Value.bool (T24.inB (Prod.fst (Prod.snd (List.getD L (T24.NSt.i b)
      (Ty.dflt T24.oty)))) (List.length (T24.NSt.Hv b)))), SV.lit (Value.bool (Prod.fst (List.getD (T24.NSt.R b) (Int.toNat (Prod.fst (Prod.snd (List.getD L (T24.NSt.i b)
      (Ty.dflt T24.oty))))) (Ty.dflt T24.pty)) == Prod.fst b_7 && (Prod.fst (Prod.snd (List.getD (T24.NSt.R b) (Int.toNat (Prod.fst (Prod.snd (List.getD L (T24.NSt.i b) (Ty.dflt
      T24.oty))))) (Ty.dflt T24.pty))) == Prod.fst (Prod.snd b_7) && (Prod.snd (Prod.snd (List.getD (T24.NSt.R b) (Int.toNat (Prod.fst (Prod.snd (List.getD L (T24.NSt.i b)
      (Ty.dflt T24.oty))))) (Ty.dflt T24.pty))) == Prod.snd (Prod.snd b_7) && true))))], T24.hpq (T24.NSt.m b - (1 : Nat)) (↑(T24.NSt.sent b) : Int) (T24.delAt (T24.NSt.R b)
      (T24.NSt.m b) (Int.toNat (Prod.fst (Prod.snd (List.getD L (T24.NSt.i b) (Ty.dflt T24.oty)))))) (T24.NSt.Hv b) (List.length (T24.NSt.LL b)) (List.length (T24.NSt.LL b))
      (T24.NSt.LL b) (T24.NSt.LL b) [SO.cells (56 : Nat) [SV.lit (Value.int IntKind.i64 (Prod.fst (List.getD L (T24.NSt.i b) (Ty.dflt T24.oty)))), SV.lit (Value.int IntKind.i64
      (Prod.fst (Prod.snd (List.getD L (T24.NSt.i b) (Ty.dflt T24.oty))))), SV.imm T24.pty (Prod.snd (Prod.snd (List.getD L (T24.NSt.i b) (Ty.dflt T24.oty))))]]) = (T24.vq L to
      (List.length (T24.NSt.Hv b)) (↑(T24.NSt.sent b) : Int) (↑(T24.NSt.i b) : Int) [SV.ptr (6 : Nat) (0 : Nat), SV.lit (Value.bool (T24.inB (Prod.fst (Prod.snd (List.getD L
      (T24.NSt.i b) (Ty.dflt T24.oty)))) (List.length (T24.NSt.Hv b)))), SV.lit (Value.bool true)], T24.hpq (Prod.fst x) (↑(T24.NSt.sent b) : Int) (Prod.snd x) (T24.NSt.Hv b)
      (List.length (T24.NSt.LL b)) (List.length (T24.NSt.LL b)) (T24.NSt.LL b) (T24.NSt.LL b) [SO.cells (56 : Nat) [SV.lit (Value.int IntKind.i64 (Prod.fst (List.getD L
      (T24.NSt.i b) (Ty.dflt T24.oty)))), SV.lit (Value.int IntKind.i64 (Prod.fst (Prod.snd (List.getD L (T24.NSt.i b) (Ty.dflt T24.oty))))), SV.imm T24.pty (Prod.snd (Prod.snd
      (List.getD L (T24.NSt.i b) (Ty.dflt T24.oty))))]]) ∧ T24.RowOf (Prod.fst x) (T24.lessOf (Prod.fst (List.getD L (T24.NSt.i b) (Ty.dflt T24.oty))) (Prod.fst (Prod.snd
      (List.getD L (T24.NSt.i b) (Ty.dflt T24.oty)))) (T24.NSt.Hv b)) (Prod.snd x)) ∧ True) ((∃ (x : Nat × List (Ty.den T24.pty)), (T24.vq L to (List.length (T24.NSt.Hv b))
      (↑(T24.NSt.sent b) : Int) (↑(T24.NSt.i b) : Int) [SV.ptr (6 : Nat) (0 : Nat), SV.lit (Value.bool (T24.inB (Prod.fst (Prod.snd (List.getD L (T24.NSt.i b) (Ty.dflt
      T24.oty)))) (List.length (T24.NSt.Hv b)))), SV.lit (Value.bool false)], T24.hpq (T24.NSt.m b - (1 : Nat)) (↑(T24.NSt.sent b) : Int) (T24.delAt (T24.NSt.R b) (T24.NSt.m b)
      (Int.toNat (Prod.fst (Prod.snd (List.getD L (T24.NSt.i b) (Ty.dflt T24.oty)))))) (T24.NSt.Hv b) (List.length (T24.NSt.LL b)) (List.length (T24.NSt.LL b)) (T24.NSt.LL b)
      (T24.NSt.LL b) [SO.cells (56 : Nat) [SV.lit (Value.int IntKind.i64 (Prod.fst (List.getD L (T24.NSt.i b) (Ty.dflt T24.oty)))), SV.lit (Value.int IntKind.i64 (Prod.fst
      (Prod.snd (List.getD L (T24.NSt.i b) (Ty.dflt T24.oty))))), SV.imm T24.pty (Prod.snd (Prod.snd (List.getD L (T24.NSt.i b) (Ty.dflt T24.oty))))]]) = (T24.vq L to
      (List.length (T24.NSt.Hv b)) (↑(T24.NSt.sent b) : Int) (↑(T24.NSt.i b) : Int) [SV.ptr (6 : Nat) (0 : Nat), SV.lit (Value.bool (T24.inB (Prod.fst (Prod.snd (List.getD L
      (T24.NSt.i b) (Ty.dflt T24.oty)))) (List.length (T24.NSt.Hv b)))), SV.lit (Value.bool true)], T24.hpq (Prod.fst x) (↑(T24.NSt.sent b) : Int) (Prod.snd x) (T24.NSt.Hv b)
      (List.length (T24.NSt.LL b)) (List.length (T24.NSt.LL b)) (T24.NSt.LL b) (T24.NSt.LL b) [SO.cells (56 : Nat) [SV.lit (Value.int IntKind.i64 (Prod.fst (List.getD L
      (T24.NSt.i b) (Ty.dflt T24.oty)))), SV.lit (Value.int IntKind.i64 (Prod.fst (Prod.snd (List.getD L (T24.NSt.i b) (Ty.dflt T24.oty))))), SV.imm T24.pty (Prod.snd (Prod.snd
      (List.getD L (T24.NSt.i b) (Ty.dflt T24.oty))))]]) ∧ T24.RowOf (Prod.fst x) (T24.lessOf (Prod.fst (List.getD L (T24.NSt.i b) (Ty.dflt T24.oty))) (Prod.fst (Prod.snd
      (List.getD L (T24.NSt.i b) (Ty.dflt T24.oty)))) (T24.NSt.Hv b)) (Prod.snd x)) ∧ True)) (Sx.br (false == T24.inB (Prod.fst (Prod.snd (List.getD L (T24.NSt.i b) (Ty.dflt
      T24.oty)))) (List.length (T24.NSt.Hv b))) ((∃ (x : Nat × List (Ty.den T24.pty)), (T24.vq L to (List.length (T24.NSt.Hv b)) (↑(T24.NSt.sent b) : Int) (↑(T24.NSt.i b) : Int)
      [SV.ptr (6 : Nat) (0 : Nat), SV.lit (Value.bool (T24.inB (Prod.fst (Prod.snd (List.getD L (T24.NSt.i b) (Ty.dflt T24.oty)))) (List.length (T24.NSt.Hv b)))), SV.lit
      (Value.bool ((0 : Int) == Prod.fst b_7 && ((0 : Int) == Prod.fst (Prod.snd b_7) && (ByteArray.empty == Prod.snd (Prod.snd b_7) && true))))], T24.hpq (T24.NSt.m b)
      (↑(T24.NSt.sent b) : Int) (T24.NSt.R b) (T24.NSt.Hv b) (List.length (T24.NSt.LL b)) (List.length (T24.NSt.LL b)) (T24.NSt.LL b) (T24.NSt.LL b) [SO.cells (56 : Nat) [SV.lit
      (Value.int IntKind.i64 (Prod.fst (List.getD L (T24.NSt.i b) (Ty.dflt T24.oty)))), SV.lit (Value.int IntKind.i64 (Prod.fst (Prod.snd (List.getD L (T24.NSt.i b) (Ty.dflt
      T24.oty))))), SV.imm T24.pty (Prod.snd (Prod.snd (List.getD L (T24.NSt.i b) (Ty.dflt T24.oty))))]]) = (T24.vq L to (List.length (T24.NSt.Hv b)) (↑(T24.NSt.sent b) : Int)
      (↑(T24.NSt.i b) : Int) [SV.ptr (6 : Nat) (0 : Nat), SV.lit (Value.bool (T24.inB (Prod.fst (Prod.snd (List.getD L (T24.NSt.i b) (Ty.dflt T24.oty)))) (List.length
      (T24.NSt.Hv b)))), SV.lit (Value.bool true)], T24.hpq (Prod.fst x) (↑(T24.NSt.sent b) : Int) (Prod.snd x) (T24.NSt.Hv b) (List.length (T24.NSt.LL b)) (List.length
      (T24.NSt.LL b)) (T24.NSt.LL b) (T24.NSt.LL b) [SO.cells (56 : Nat) [SV.lit (Value.int IntKind.i64 (Prod.fst (List.getD L (T24.NSt.i b) (Ty.dflt T24.oty)))), SV.lit
      (Value.int IntKind.i64 (Prod.fst (Prod.snd (List.getD L (T24.NSt.i b) (Ty.dflt T24.oty))))), SV.imm T24.pty (Prod.snd (Prod.snd (List.getD L (T24.NSt.i b) (Ty.dflt
      T24.oty))))]]) ∧ T24.RowOf (Prod.fst x) (T24.lessOf (Prod.fst (List.getD L (T24.NSt.i b) (Ty.dflt T24.oty))) (Prod.fst (Prod.snd (List.getD L (T24.NSt.i b) (Ty.dflt
      T24.oty)))) (T24.NSt.Hv b)) (Prod.snd x)) ∧ True) ((∃ (x : Nat × List (Ty.den T24.pty)), (T24.vq L to (List.length (T24.NSt.Hv b)) (↑(T24.NSt.sent b) : Int) (↑(T24.NSt.i
      b) : Int) [SV.ptr (6 : Nat) (0 : Nat), SV.lit (Value.bool (T24.inB (Prod.fst (Prod.snd (List.getD L (T24.NSt.i b) (Ty.dflt T24.oty)))) (List.length (T24.NSt.Hv b)))),
      SV.lit (Value.bool false)], T24.hpq (T24.NSt.m b) (↑(T24.NSt.sent b) : Int) (T24.NSt.R b) (T24.NSt.Hv b) (List.length (T24.NSt.LL b)) (List.length (T24.NSt.LL b))
      (T24.NSt.LL b) (T24.NSt.LL b) [SO.cells (56 : Nat) [SV.lit (Value.int IntKind.i64 (Prod.fst (List.getD L (T24.NSt.i b) (Ty.dflt T24.oty)))), SV.lit (Value.int IntKind.i64
      (Prod.fst (Prod.snd (List.getD L (T24.NSt.i b) (Ty.dflt T24.oty))))), SV.imm T24.pty (Prod.snd (Prod.snd (List.getD L (T24.NSt.i b) (Ty.dflt T24.oty))))]]) = (T24.vq L to
      (List.length (T24.NSt.Hv b)) (↑(T24.NSt.sent b) : Int) (↑(T24.NSt.i b) : Int) [SV.ptr (6 : Nat) (0 : Nat), SV.lit (Value.bool (T24.inB (Prod.fst (Prod.snd (List.getD L
      (T24.NSt.i b) (Ty.dflt T24.oty)))) (List.length (T24.NSt.Hv b)))), SV.lit (Value.bool true)], T24.hpq (Prod.fst x) (↑(T24.NSt.sent b) : Int) (Prod.snd x) (T24.NSt.Hv b)
      (List.length (T24.NSt.LL b)) (List.length (T24.NSt.LL b)) (T24.NSt.LL b) (T24.NSt.LL b) [SO.cells (56 : Nat) [SV.lit (Value.int IntKind.i64 (Prod.fst (List.getD L
      (T24.NSt.i b) (Ty.dflt T24.oty)))), SV.lit (Value.int IntKind.i64 (Prod.fst (Prod.snd (List.getD L (T24.NSt.i b) (Ty.dflt T24.oty))))), SV.imm T24.pty (Prod.snd (Prod.snd
      (List.getD L (T24.NSt.i b) (Ty.dflt T24.oty))))]]) ∧ T24.RowOf (Prod.fst x) (T24.lessOf (Prod.fst (List.getD L (T24.NSt.i b) (Ty.dflt T24.oty))) (Prod.fst (Prod.snd
      (List.getD L (T24.NSt.i b) (Ty.dflt T24.oty)))) (T24.NSt.Hv b)) (Prod.snd x)) ∧ True))) (br (Prod.fst (List.getD L (T24.NSt.i b) (Ty.dflt T24.oty)) == (4 : Int))
      ((T24.NSt.m b ≤ List.length (T24.NSt.R b) ∧ T24.NSt.m b ≤ (1000000 : Nat)) ∧ Sx.br (decide ((0 : Int) ≤ Prod.fst (Prod.snd (List.getD L (T24.NSt.i b) (Ty.dflt T24.oty))) ∧
      Prod.fst (Prod.snd (List.getD L (T24.NSt.i b) (Ty.dflt T24.oty))) < (↑(T24.NSt.m b) : Int))) ((∃ (x : Nat × List (Ty.den T24.pty)), (T24.vq L to (List.length (T24.NSt.Hv
      b)) (↑(T24.NSt.sent b) : Int) (↑(T24.NSt.i b) : Int) [SV.ptr (6 : Nat) (0 : Nat), SV.lit (Value.bool (T24.inB (Prod.fst (Prod.snd (List.getD L (T24.NSt.i b) (Ty.dflt
      T24.oty)))) (List.length (T24.NSt.Hv b)))), SV.lit (Value.bool (true == T24.inB (Prod.fst (Prod.snd (List.getD L (T24.NSt.i b) (Ty.dflt T24.oty)))) (List.length
      (T24.NSt.Hv b))))], T24.hpq (T24.NSt.m b - (1 : Nat)) (↑(T24.NSt.sent b) : Int) (T24.delAt (T24.NSt.R b) (T24.NSt.m b) (Int.toNat (Prod.fst (Prod.snd (List.getD L
      (T24.NSt.i b) (Ty.dflt T24.oty)))))) (T24.NSt.Hv b) (List.length (T24.NSt.LL b)) (List.length (T24.NSt.LL b)) (T24.NSt.LL b) (T24.NSt.LL b) [SO.cells (56 : Nat) [SV.lit
      (Value.int IntKind.i64 (Prod.fst (List.getD L (T24.NSt.i b) (Ty.dflt T24.oty)))), SV.lit (Value.int IntKind.i64 (Prod.fst (Prod.snd (List.getD L (T24.NSt.i b) (Ty.dflt
      T24.oty))))), SV.imm T24.pty (Prod.snd (Prod.snd (List.getD L (T24.NSt.i b) (Ty.dflt T24.oty))))]]) = (T24.vq L to (List.length (T24.NSt.Hv b)) (↑(T24.NSt.sent b) : Int)
      (↑(T24.NSt.i b) : Int) [SV.ptr (6 : Nat) (0 : Nat), SV.lit (Value.bool (T24.inB (Prod.fst (Prod.snd (List.getD L (T24.NSt.i b) (Ty.dflt T24.oty)))) (List.length
      (T24.NSt.Hv b)))), SV.lit (Value.bool true)], T24.hpq (Prod.fst x) (↑(T24.NSt.sent b) : Int) (Prod.snd x) (T24.NSt.Hv b) (List.length (T24.NSt.LL b)) (List.length
      (T24.NSt.LL b)) (T24.NSt.LL b) (T24.NSt.LL b) [SO.cells (56 : Nat) [SV.lit (Value.int IntKind.i64 (Prod.fst (List.getD L (T24.NSt.i b) (Ty.dflt T24.oty)))), SV.lit
      (Value.int IntKind.i64 (Prod.fst (Prod.snd (List.getD L (T24.NSt.i b) (Ty.dflt T24.oty))))), SV.imm T24.pty (Prod.snd (Prod.snd (List.getD L (T24.NSt.i b) (Ty.dflt
      T24.oty))))]]) ∧ T24.RowOf (Prod.fst x) (T24.lessOf (Prod.fst (List.getD L (T24.NSt.i b) (Ty.dflt T24.oty))) (Prod.fst (Prod.snd (List.getD L (T24.NSt.i b) (Ty.dflt
      T24.oty)))) (T24.NSt.Hv b)) (Prod.snd x)) ∧ True) ((∃ (x : Nat × List (Ty.den T24.pty)), (T24.vq L to (List.length (T24.NSt.Hv b)) (↑(T24.NSt.sent b) : Int) (↑(T24.NSt.i
      b) : Int) [SV.ptr (6 : Nat) (0 : Nat), SV.lit (Value.bool (T24.inB (Prod.fst (Prod.snd (List.getD L (T24.NSt.i b) (Ty.dflt T24.oty)))) (List.length (T24.NSt.Hv b)))),
      SV.lit (Value.bool (false == T24.inB (Prod.fst (Prod.snd (List.getD L (T24.NSt.i b) (Ty.dflt T24.oty)))) (List.length (T24.NSt.Hv b))))], T24.hpq (T24.NSt.m b)
      (↑(T24.NSt.sent b) : Int) (T24.NSt.R b) (T24.NSt.Hv b) (List.length (T24.NSt.LL b)) (List.length (T24.NSt.LL b)) (T24.NSt.LL b) (T24.NSt.LL b) [SO.cells (56 : Nat) [SV.lit
      (Value.int IntKind.i64 (Prod.fst (List.getD L (T24.NSt.i b) (Ty.dflt T24.oty)))), SV.lit (Value.int IntKind.i64 (Prod.fst (Prod.snd (List.getD L (T24.NSt.i b) (Ty.dflt
      T24.oty))))), SV.imm T24.pty (Prod.snd (Prod.snd (List.getD L (T24.NSt.i b) (Ty.dflt T24.oty))))]]) = (T24.vq L to (List.length (T24.NSt.Hv b)) (↑(T24.NSt.sent b) : Int)
      (↑(T24.NSt.i b) : Int) [SV.ptr (6 : Nat) (0 : Nat), SV.lit (Value.bool (T24.inB (Prod.fst (Prod.snd (List.getD L (T24.NSt.i b) (Ty.dflt T24.oty)))) (List.length
      (T24.NSt.Hv b)))), SV.lit (Value.bool true)], T24.hpq (Prod.fst x) (↑(T24.NSt.sent b) : Int) (Prod.snd x) (T24.NSt.Hv b) (List.length (T24.NSt.LL b)) (List.length
      (T24.NSt.LL b)) (T24.NSt.LL b) (T24.NSt.LL b) [SO.cells (56 : Nat) [SV.lit (Value.int IntKind.i64 (Prod.fst (List.getD L (T24.NSt.i b) (Ty.dflt T24.oty)))), SV.lit
      (Value.int IntKind.i64 (Prod.fst (Prod.snd (List.getD L (T24.NSt.i b) (Ty.dflt T24.oty))))), SV.imm T24.pty (Prod.snd (Prod.snd (List.getD L (T24.NSt.i b) (Ty.dflt
      T24.oty))))]]) ∧ T24.RowOf (Prod.fst x) (T24.lessOf (Prod.fst (List.getD L (T24.NSt.i b) (Ty.dflt T24.oty))) (Prod.fst (Prod.snd (List.getD L (T24.NSt.i b) (Ty.dflt
      T24.oty)))) (T24.NSt.Hv b)) (Prod.snd x)) ∧ True)) (br (decide (Prod.fst (Prod.snd (List.getD L (T24.NSt.i b) (Ty.dflt T24.oty))) < (0 : Int))) (Sx.br (false == T24.inB
      (Prod.fst (Prod.snd (List.getD L (T24.NSt.i b) (Ty.dflt T24.oty)))) (List.length (T24.NSt.Hv b))) ((∃ (x : Nat × List (Ty.den T24.pty)), (T24.vq L to (List.length
      (T24.NSt.Hv b)) (↑(T24.NSt.sent b) : Int) (↑(T24.NSt.i b) : Int) [SV.ptr (6 : Nat) (0 : Nat), SV.lit (Value.bool (T24.inB (Prod.fst (Prod.snd (List.getD L (T24.NSt.i b)
      (Ty.dflt T24.oty)))) (List.length (T24.NSt.Hv b)))), SV.lit (Value.bool ((0 : Int) == Prod.fst b_7 && ((0 : Int) == Prod.fst (Prod.snd b_7) && ({ data := #[] } == Prod.snd
      (Prod.snd b_7) && true))))], T24.hpq (T24.NSt.m b) (↑(T24.NSt.sent b) : Int) (T24.NSt.R b) (T24.NSt.Hv b) (List.length (T24.NSt.LL b)) (List.length (T24.NSt.LL b))
      (T24.NSt.LL b) (T24.NSt.LL b) [SO.cells (56 : Nat) [SV.lit (Value.int IntKind.i64 (Prod.fst (List.getD L (T24.NSt.i b) (Ty.dflt T24.oty)))), SV.lit (Value.int IntKind.i64
      (Prod.fst (Prod.snd (List.getD L (T24.NSt.i b) (Ty.dflt T24.oty))))), SV.imm T24.pty (Prod.snd (Prod.snd (List.getD L (T24.NSt.i b) (Ty.dflt T24.oty))))]]) = (T24.vq L to
      (List.length (T24.NSt.Hv b)) (↑(T24.NSt.sent b) : Int) (↑(T24.NSt.i b) : Int) [SV.ptr (6 : Nat) (0 : Nat), SV.lit (Value.bool (T24.inB (Prod.fst (Prod.snd (List.getD L
      (T24.NSt.i b) (Ty.dflt T24.oty)))) (List.length (T24.NSt.Hv b)))), SV.lit (Value.bool true)], T24.hpq (Prod.fst x) (↑(T24.NSt.sent b) : Int) (Prod.snd x) (T24.NSt.Hv b)
      (List.length (T24.NSt.LL b)) (List.length (T24.NSt.LL b)) (T24.NSt.LL b) (T24.NSt.LL b) [SO.cells (56 : Nat) [SV.lit (Value.int IntKind.i64 (Prod.fst (List.getD L
      (T24.NSt.i b) (Ty.dflt T24.oty)))), SV.lit (Value.int IntKind.i64 (Prod.fst (Prod.snd (List.getD L (T24.NSt.i b) (Ty.dflt T24.oty))))), SV.imm T24.pty (Prod.snd (Prod.snd
      (List.getD L (T24.NSt.i b) (Ty.dflt T24.oty))))]]) ∧ T24.RowOf (Prod.fst x) (T24.lessOf (Prod.fst (List.getD L (T24.NSt.i b) (Ty.dflt T24.oty))) (Prod.fst (Prod.snd
      (List.getD L (T24.NSt.i b) (Ty.dflt T24.oty)))) (T24.NSt.Hv b)) (Prod.snd x)) ∧ True) ((∃ (x : Nat × List (Ty.den T24.pty)), (T24.vq L to (List.length (T24.NSt.Hv b))
      (↑(T24.NSt.sent b) : Int) (↑(T24.NSt.i b) : Int) [SV.ptr (6 : Nat) (0 : Nat), SV.lit (Value.bool (T24.inB (Prod.fst (Prod.snd (List.getD L (T24.NSt.i b) (Ty.dflt
      T24.oty)))) (List.length (T24.NSt.Hv b)))), SV.lit (Value.bool false)], T24.hpq (T24.NSt.m b) (↑(T24.NSt.sent b) : Int) (T24.NSt.R b) (T24.NSt.Hv b) (List.length
      (T24.NSt.LL b)) (List.length (T24.NSt.LL b)) (T24.NSt.LL b) (T24.NSt.LL b) [SO.cells (56 : Nat) [SV.lit (Value.int IntKind.i64 (Prod.fst (List.getD L (T24.NSt.i b)
      (Ty.dflt T24.oty)))), SV.lit (Value.int IntKind.i64 (Prod.fst (Prod.snd (List.getD L (T24.NSt.i b) (Ty.dflt T24.oty))))), SV.imm T24.pty (Prod.snd (Prod.snd (List.getD L
      (T24.NSt.i b) (Ty.dflt T24.oty))))]]) = (T24.vq L to (List.length (T24.NSt.Hv b)) (↑(T24.NSt.sent b) : Int) (↑(T24.NSt.i b) : Int) [SV.ptr (6 : Nat) (0 : Nat), SV.lit
      (Value.bool (T24.inB (Prod.fst (Prod.snd (List.getD L (T24.NSt.i b) (Ty.dflt T24.oty)))) (List.length (T24.NSt.Hv b)))), SV.lit (Value.bool true)], T24.hpq (Prod.fst x)
      (↑(T24.NSt.sent b) : Int) (Prod.snd x) (T24.NSt.Hv b) (List.length (T24.NSt.LL b)) (List.length (T24.NSt.LL b)) (T24.NSt.LL b) (T24.NSt.LL b) [SO.cells (56 : Nat) [SV.lit
      (Value.int IntKind.i64 (Prod.fst (List.getD L (T24.NSt.i b) (Ty.dflt T24.oty)))), SV.lit (Value.int IntKind.i64 (Prod.fst (Prod.snd (List.getD L (T24.NSt.i b) (Ty.dflt
      T24.oty))))), SV.imm T24.pty (Prod.snd (Prod.snd (List.getD L (T24.NSt.i b) (Ty.dflt T24.oty))))]]) ∧ T24.RowOf (Prod.fst x) (T24.lessOf (Prod.fst (List.getD L (T24.NSt.i
      b) (Ty.dflt T24.oty))) (Prod.fst (Prod.snd (List.getD L (T24.NSt.i b) (Ty.dflt T24.oty)))) (T24.NSt.Hv b)) (Prod.snd x)) ∧ True)) (Sx.br (decide (Prod.fst (Prod.snd
      (List.getD L (T24.NSt.i b) (Ty.dflt T24.oty))) ≥ (↑(T24.NSt.m b) : Int))) (Sx.br (false == T24.inB (Prod.fst (Prod.snd (List.getD L (T24.NSt.i b) (Ty.dflt T24.oty))))
      (List.length (T24.NSt.Hv b))) ((∃ (x : Nat × List (Ty.den T24.pty)), (T24.vq L to (List.length (T24.NSt.Hv b)) (↑(T24.NSt.sent b) : Int) (↑(T24.NSt.i b) : Int) [SV.ptr (6
      : Nat) (0 : Nat), SV.lit (Value.bool (T24.inB (Prod.fst (Prod.snd (List.getD L (T24.NSt.i b) (Ty.dflt T24.oty)))) (List.length (T24.NSt.Hv b)))), SV.lit (Value.bool ((0 :
      Int) == Prod.fst b_7 && ((0 : Int) == Prod.fst (Prod.snd b_7) && ({ data := #[] } == Prod.snd (Prod.snd b_7) && true))))], T24.hpq (T24.NSt.m b) (↑(T24.NSt.sent b) : Int)
      (T24.NSt.R b) (T24.NSt.Hv b) (List.length (T24.NSt.LL b)) (List.length (T24.NSt.LL b)) (T24.NSt.LL b) (T24.NSt.LL b) [SO.cells (56 : Nat) [SV.lit (Value.int IntKind.i64
      (Prod.fst (List.getD L (T24.NSt.i b) (Ty.dflt T24.oty)))), SV.lit (Value.int IntKind.i64 (Prod.fst (Prod.snd (List.getD L (T24.NSt.i b) (Ty.dflt T24.oty))))), SV.imm
      T24.pty (Prod.snd (Prod.snd (List.getD L (T24.NSt.i b) (Ty.dflt T24.oty))))]]) = (T24.vq L to (List.length (T24.NSt.Hv b)) (↑(T24.NSt.sent b) : Int) (↑(T24.NSt.i b) : Int)
      [SV.ptr (6 : Nat) (0 : Nat), SV.lit (Value.bool (T24.inB (Prod.fst (Prod.snd (List.getD L (T24.NSt.i b) (Ty.dflt T24.oty)))) (List.length (T24.NSt.Hv b)))), SV.lit
      (Value.bool true)], T24.hpq (Prod.fst x) (↑(T24.NSt.sent b) : Int) (Prod.snd x) (T24.NSt.Hv b) (List.length (T24.NSt.LL b)) (List.length (T24.NSt.LL b)) (T24.NSt.LL b)
      (T24.NSt.LL b) [SO.cells (56 : Nat) [SV.lit (Value.int IntKind.i64 (Prod.fst (List.getD L (T24.NSt.i b) (Ty.dflt T24.oty)))), SV.lit (Value.int IntKind.i64 (Prod.fst
      (Prod.snd (List.getD L (T24.NSt.i b) (Ty.dflt T24.oty))))), SV.imm T24.pty (Prod.snd (Prod.snd (List.getD L (T24.NSt.i b) (Ty.dflt T24.oty))))]]) ∧ T24.RowOf (Prod.fst x)
      (T24.lessOf (Prod.fst (List.getD L (T24.NSt.i b) (Ty.dflt T24.oty))) (Prod.fst (Prod.snd (List.getD L (T24.NSt.i b) (Ty.dflt T24.oty)))) (T24.NSt.Hv b)) (Prod.snd x)) ∧
      True) ((∃ (x : Nat × List (Ty.den T24.pty)), (T24.vq L to (List.length (T24.NSt.Hv b)) (↑(T24.NSt.sent b) : Int) (↑(T24.NSt.i b) : Int) [SV.ptr (6 : Nat) (0 : Nat), SV.lit
      (Value.bool (T24.inB (Prod.fst (Prod.snd (List.getD L (T24.NSt.i b) (Ty.dflt T24.oty)))) (List.length (T24.NSt.Hv b)))), SV.lit (Value.bool false)], T24.hpq (T24.NSt.m b)
      (↑(T24.NSt.sent b) : Int) (T24.NSt.R b) (T24.NSt.Hv b) (List.length (T24.NSt.LL b)) (List.length (T24.NSt.LL b)) (T24.NSt.LL b) (T24.NSt.LL b) [SO.cells (56 : Nat) [SV.lit
      (Value.int IntKind.i64 (Prod.fst (List.getD L (T24.NSt.i b) (Ty.dflt T24.oty)))), SV.lit (Value.int IntKind.i64 (Prod.fst (Prod.snd (List.getD L (T24.NSt.i b) (Ty.dflt
      T24.oty))))), SV.imm T24.pty (Prod.snd (Prod.snd (List.getD L (T24.NSt.i b) (Ty.dflt T24.oty))))]]) = (T24.vq L to (List.length (T24.NSt.Hv b)) (↑(T24.NSt.sent b) : Int)
      (↑(T24.NSt.i b) : Int) [SV.ptr (6 : Nat) (0 : Nat), SV.lit (Value.bool (T24.inB (Prod.fst (Prod.snd (List.getD L (T24.NSt.i b) (Ty.dflt T24.oty)))) (List.length
      (T24.NSt.Hv b)))), SV.lit (Value.bool true)], T24.hpq (Prod.fst x) (↑(T24.NSt.sent b) : Int) (Prod.snd x) (T24.NSt.Hv b) (List.length (T24.NSt.LL b)) (List.length
      (T24.NSt.LL b)) (T24.NSt.LL b) (T24.NSt.LL b) [SO.cells (56 : Nat) [SV.lit (Value.int IntKind.i64 (Prod.fst (List.getD L (T24.NSt.i b) (Ty.dflt T24.oty)))), SV.lit
      (Value.int IntKind.i64 (Prod.fst (Prod.snd (List.getD L (T24.NSt.i b) (Ty.dflt T24.oty))))), SV.imm T24.pty (Prod.snd (Prod.snd (List.getD L (T24.NSt.i b) (Ty.dflt
      T24.oty))))]]) ∧ T24.RowOf (Prod.fst x) (T24.lessOf (Prod.fst (List.getD L (T24.NSt.i b) (Ty.dflt T24.oty))) (Prod.fst (Prod.snd (List.getD L (T24.NSt.i b) (Ty.dflt
      T24.oty)))) (T24.NSt.Hv b)) (Prod.snd x)) ∧ True)) (((0 : Int) ≤ Prod.fst (Prod.snd (List.getD L (T24.NSt.i b) (Ty.dflt T24.oty))) ∧ Prod.fst (Prod.snd (List.getD L
      (T24.NSt.i b) (Ty.dflt T24.oty))) < (↑(T24.NSt.m b) : Int)) ∧ (0 : Nat) + Int.toNat (Prod.fst (Prod.snd (List.getD L (T24.NSt.i b) (Ty.dflt T24.oty)))) < List.length
      (T24.NSt.R b) ∧ Sx.br (true == T24.inB (Prod.fst (Prod.snd (List.getD L (T24.NSt.i b) (Ty.dflt T24.oty)))) (List.length (T24.NSt.Hv b))) ((∃ (x : Nat × List (Ty.den
      T24.pty)), (T24.vq L to (List.length (T24.NSt.Hv b)) (↑(T24.NSt.sent b) : Int) (↑(T24.NSt.i b) : Int) [SV.ptr (6 : Nat) (0 : Nat), SV.lit (Value.bool (T24.inB (Prod.fst
      (Prod.snd (List.getD L (T24.NSt.i b) (Ty.dflt T24.oty)))) (List.length (T24.NSt.Hv b)))), SV.lit (Value.bool (Prod.fst (List.getD (T24.NSt.R b) ((0 : Nat) + Int.toNat
      (Prod.fst (Prod.snd (List.getD L (T24.NSt.i b) (Ty.dflt T24.oty))))) (Ty.dflt T24.pty)) == Prod.fst b_7 && (Prod.fst (Prod.snd (List.getD (T24.NSt.R b) ((0 : Nat) +
      Int.toNat (Prod.fst (Prod.snd (List.getD L (T24.NSt.i b) (Ty.dflt T24.oty))))) (Ty.dflt T24.pty))) == Prod.fst (Prod.snd b_7) && (Prod.snd (Prod.snd (List.getD (T24.NSt.R
      b) ((0 : Nat) + Int.toNat (Prod.fst (Prod.snd (List.getD L (T24.NSt.i b) (Ty.dflt T24.oty))))) (Ty.dflt T24.pty))) == Prod.snd (Prod.snd b_7) && true))))], T24.hpq
      (T24.NSt.m b) (↑(T24.NSt.sent b) : Int) (T24.NSt.R b) (T24.NSt.Hv b) (List.length (T24.NSt.LL b)) (List.length (T24.NSt.LL b)) (T24.NSt.LL b) (T24.NSt.LL b) [SO.cells (56
      : Nat) [SV.lit (Value.int IntKind.i64 (Prod.fst (List.getD L (T24.NSt.i b) (Ty.dflt T24.oty)))), SV.lit (Value.int IntKind.i64 (Prod.fst (Prod.snd (List.getD L (T24.NSt.i
      b) (Ty.dflt T24.oty))))), SV.imm T24.pty (Prod.snd (Prod.snd (List.getD L (T24.NSt.i b) (Ty.dflt T24.oty))))]]) = (T24.vq L to (List.length (T24.NSt.Hv b)) (↑(T24.NSt.sent
      b) : Int) (↑(T24.NSt.i b) : Int) [SV.ptr (6 : Nat) (0 : Nat), SV.lit (Value.bool (T24.inB (Prod.fst (Prod.snd (List.getD L (T24.NSt.i b) (Ty.dflt T24.oty)))) (List.length
      (T24.NSt.Hv b)))), SV.lit (Value.bool true)], T24.hpq (Prod.fst x) (↑(T24.NSt.sent b) : Int) (Prod.snd x) (T24.NSt.Hv b) (List.length (T24.NSt.LL b)) (List.length
      (T24.NSt.LL b)) (T24.NSt.LL b) (T24.NSt.LL b) [SO.cells (56 : Nat) [SV.lit (Value.int IntKind.i64 (Prod.fst (List.getD L (T24.NSt.i b) (Ty.dflt T24.oty)))), SV.lit
      (Value.int IntKind.i64 (Prod.fst (Prod.snd (List.getD L (T24.NSt.i b) (Ty.dflt T24.oty))))), SV.imm T24.pty (Prod.snd (Prod.snd (List.getD L (T24.NSt.i b) (Ty.dflt
      T24.oty))))]]) ∧ T24.RowOf (Prod.fst x) (T24.lessOf (Prod.fst (List.getD L (T24.NSt.i b) (Ty.dflt T24.oty))) (Prod.fst (Prod.snd (List.getD L (T24.NSt.i b) (Ty.dflt
      T24.oty)))) (T24.NSt.Hv b)) (Prod.snd x)) ∧ True) ((∃ (x : Nat × List (Ty.den T24.pty)), (T24.vq L to (List.length (T24.NSt.Hv b)) (↑(T24.NSt.sent b) : Int) (↑(T24.NSt.i
      b) : Int) [SV.ptr (6 : Nat) (0 : Nat), SV.lit (Value.bool (T24.inB (Prod.fst (Prod.snd (List.getD L (T24.NSt.i b) (Ty.dflt T24.oty)))) (List.length (T24.NSt.Hv b)))),
      SV.lit (Value.bool false)], T24.hpq (T24.NSt.m b) (↑(T24.NSt.sent b) : Int) (T24.NSt.R b) (T24.NSt.Hv b) (List.length (T24.NSt.LL b)) (List.length (T24.NSt.LL b))
      (T24.NSt.LL b) (T24.NSt.LL b) [SO.cells (56 : Nat) [SV.lit (Value.int IntKind.i64 (Prod.fst (List.getD L (T24.NSt.i b) (Ty.dflt T24.oty)))), SV.lit (Value.int IntKind.i64
      (Prod.fst (Prod.snd (List.getD L (T24.NSt.i b) (Ty.dflt T24.oty))))), SV.imm T24.pty (Prod.snd (Prod.snd (List.getD L (T24.NSt.i b) (Ty.dflt T24.oty))))]]) = (T24.vq L to
      (List.length (T24.NSt.Hv b)) (↑(T24.NSt.sent b) : Int) (↑(T24.NSt.i b) : Int) [SV.ptr (6 : Nat) (0 : Nat), SV.lit (Value.bool (T24.inB (Prod.fst (Prod.snd (List.getD L
      (T24.NSt.i b) (Ty.dflt T24.oty)))) (List.length (T24.NSt.Hv b)))), SV.lit (Value.bool true)], T24.hpq (Prod.fst x) (↑(T24.NSt.sent b) : Int) (Prod.snd x) (T24.NSt.Hv b)
      (List.length (T24.NSt.LL b)) (List.length (T24.NSt.LL b)) (T24.NSt.LL b) (T24.NSt.LL b) [SO.cells (56 : Nat) [SV.lit (Value.int IntKind.i64 (Prod.fst (List.getD L
      (T24.NSt.i b) (Ty.dflt T24.oty)))), SV.lit (Value.int IntKind.i64 (Prod.fst (Prod.snd (List.getD L (T24.NSt.i b) (Ty.dflt T24.oty))))), SV.imm T24.pty (Prod.snd (Prod.snd
      (List.getD L (T24.NSt.i b) (Ty.dflt T24.oty))))]]) ∧ T24.RowOf (Prod.fst x) (T24.lessOf (Prod.fst (List.getD L (T24.NSt.i b) (Ty.dflt T24.oty))) (Prod.fst (Prod.snd
      (List.getD L (T24.NSt.i b) (Ty.dflt T24.oty)))) (T24.NSt.Hv b)) (Prod.snd x)) ∧ True)))))) (∀ (b_9 : Nat × List (Ty.den T24.pty)), T24.RowOf (Prod.fst b_9) (T24.lessOf
      (Prod.fst (List.getD L (T24.NSt.i b) (Ty.dflt T24.oty))) (Prod.fst (Prod.snd (List.getD L (T24.NSt.i b) (Ty.dflt T24.oty)))) (T24.NSt.Hv b)) (Prod.snd b_9) → Sx.br
      (T24.inB (Prod.fst (Prod.snd (List.getD L (T24.NSt.i b) (Ty.dflt T24.oty)))) (List.length (T24.NSt.Hv b))) (br (Prod.fst (List.getD L (T24.NSt.i b) (Ty.dflt T24.oty)) !=
      (5 : Int)) (((0 : Int) ≤ Prod.fst (Prod.snd (List.getD L (T24.NSt.i b) (Ty.dflt T24.oty))) ∧ Prod.fst (Prod.snd (List.getD L (T24.NSt.i b) (Ty.dflt T24.oty))) ≤
      (↑(List.length (T24.NSt.Hv b)) : Int)) ∧ True ∧ ∀ (b_10 : Bool), True → br b_10 ((0 : Nat) + Int.toNat (Prod.fst (Prod.snd (List.getD L (T24.NSt.i b) (Ty.dflt T24.oty))))
      ≤ List.length (T24.NSt.Hv b) ∧ ((↑((0 : Nat) + List.length (List.take (Int.toNat (Prod.fst (Prod.snd (List.getD L (T24.NSt.i b) (Ty.dflt T24.oty))))) (List.drop (0 : Nat)
      (T24.NSt.Hv b)))) : Int) ≤ (9223372036854775807 : Int) ∧ ((0 : Nat) + List.length (List.take (Int.toNat (Prod.fst (Prod.snd (List.getD L (T24.NSt.i b) (Ty.dflt
      T24.oty))))) (List.drop (0 : Nat) (T24.NSt.Hv b)))) * Sx.bytesOf Go.Proofs.Try.prog (37 : Nat) ≤ (140737488355328 : Nat)) ∧ True ∧ ((0 : Int) ≤ IntKind.wrap IntKind.i64
      (Prod.fst (Prod.snd (List.getD L (T24.NSt.i b) (Ty.dflt T24.oty))) + (1 : Int)) ∧ IntKind.wrap IntKind.i64 (Prod.fst (Prod.snd (List.getD L (T24.NSt.i b) (Ty.dflt
      T24.oty))) + (1 : Int)) ≤ (↑(List.length (T24.NSt.Hv b)) : Int)) ∧ (0 : Nat) + Int.toNat (IntKind.wrap IntKind.i64 (Prod.fst (Prod.snd (List.getD L (T24.NSt.i b) (Ty.dflt
      T24.oty))) + (1 : Int))) + (List.length (T24.NSt.Hv b) - Int.toNat (IntKind.wrap IntKind.i64 (Prod.fst (Prod.snd (List.getD L (T24.NSt.i b) (Ty.dflt T24.oty))) + (1 :
      Int)))) ≤ List.length (T24.NSt.Hv b) ∧ Sx.br (decide (List.length (List.take (Int.toNat (Prod.fst (Prod.snd (List.getD L (T24.NSt.i b) (Ty.dflt T24.oty))))) (List.drop (0
      : Nat) (T24.NSt.Hv b))) + List.length (List.take (List.length (T24.NSt.Hv b) - Int.toNat (IntKind.wrap IntKind.i64 (Prod.fst (Prod.snd (List.getD L (T24.NSt.i b) (Ty.dflt
      T24.oty))) + (1 : Int)))) (List.drop ((0 : Nat) + Int.toNat (IntKind.wrap IntKind.i64 (Prod.fst (Prod.snd (List.getD L (T24.NSt.i b) (Ty.dflt T24.oty))) + (1 : Int))))
      (T24.NSt.Hv b))) ≤ List.length (List.take (Int.toNat (Prod.fst (Prod.snd (List.getD L (T24.NSt.i b) (Ty.dflt T24.oty))))) (List.drop (0 : Nat) (T24.NSt.Hv b))))) ((∃ (x :
      T24.NSt), (T24.vq L to (List.length (List.take (Int.toNat (Prod.fst (Prod.snd (List.getD L (T24.NSt.i b) (Ty.dflt T24.oty))))) (List.drop (0 : Nat) (T24.NSt.Hv b))) +
      List.length (List.take (List.length (T24.NSt.Hv b) - Int.toNat (IntKind.wrap IntKind.i64 (Prod.fst (Prod.snd (List.getD L (T24.NSt.i b) (Ty.dflt T24.oty))) + (1 : Int))))
      (List.drop ((0 : Nat) + Int.toNat (IntKind.wrap IntKind.i64 (Prod.fst (Prod.snd (List.getD L (T24.NSt.i b) (Ty.dflt T24.oty))) + (1 : Int)))) (T24.NSt.Hv b))))
      (↑(T24.NSt.sent b) : Int) (↑(T24.NSt.i b) : Int) [SV.lit (Value.bool true)], T24.hpq (Prod.fst b_9) (↑(T24.NSt.sent b) : Int) (Prod.snd b_9) (List.take (List.length
      (List.take (Int.toNat (Prod.fst (Prod.snd (List.getD L (T24.NSt.i b) (Ty.dflt T24.oty))))) (List.drop (0 : Nat) (T24.NSt.Hv b)))) (List.take (Int.toNat (Prod.fst (Prod.snd
      (List.getD L (T24.NSt.i b) (Ty.dflt T24.oty))))) (List.drop (0 : Nat) (T24.NSt.Hv b))) ++ List.take (List.length (T24.NSt.Hv b) - Int.toNat (IntKind.wrap IntKind.i64
      (Prod.fst (Prod.snd (List.getD L (T24.NSt.i b) (Ty.dflt T24.oty))) + (1 : Int)))) (List.drop ((0 : Nat) + Int.toNat (IntKind.wrap IntKind.i64 (Prod.fst (Prod.snd
      (List.getD L (T24.NSt.i b) (Ty.dflt T24.oty))) + (1 : Int)))) (T24.NSt.Hv b)) ++ List.drop (List.length (List.take (Int.toNat (Prod.fst (Prod.snd (List.getD L (T24.NSt.i
      b) (Ty.dflt T24.oty))))) (List.drop (0 : Nat) (T24.NSt.Hv b))) + List.length (List.take (List.length (T24.NSt.Hv b) - Int.toNat (IntKind.wrap IntKind.i64 (Prod.fst
      (Prod.snd (List.getD L (T24.NSt.i b) (Ty.dflt T24.oty))) + (1 : Int)))) (List.drop ((0 : Nat) + Int.toNat (IntKind.wrap IntKind.i64 (Prod.fst (Prod.snd (List.getD L
      (T24.NSt.i b) (Ty.dflt T24.oty))) + (1 : Int)))) (T24.NSt.Hv b)))) (List.take (Int.toNat (Prod.fst (Prod.snd (List.getD L (T24.NSt.i b) (Ty.dflt T24.oty))))) (List.drop (0
      : Nat) (T24.NSt.Hv b)))) (List.length (T24.NSt.LL b)) (List.length (T24.NSt.LL b)) (T24.NSt.LL b) (T24.NSt.LL b) ([] : List Sx.SO)) = (T24.vq L to (List.length (T24.NSt.Hv
      x)) (↑(T24.NSt.sent x) : Int) (↑(T24.NSt.i b) : Int) [SV.lit (Value.bool true)], T24.hpq (T24.NSt.m x) (↑(T24.NSt.sent x) : Int) (T24.NSt.R x) (T24.NSt.Hv x) (List.length
      (T24.NSt.LL x)) (List.length (T24.NSt.LL x)) (T24.NSt.LL x) (T24.NSt.LL x) ([] : List Sx.SO)) ∧ ((↑(T24.NSt.i x) : Int) = (↑(T24.NSt.i b) : Int) ∧ T24.NSt.LL x =
      T24.NSt.LL b) ∧ T24.RowOf (T24.NSt.m x) (T24.NSt.Hv x) (T24.NSt.R x) ∧ (↑(T24.NSt.sent x) : Int) ≤ (100 : Int) * ((↑(T24.NSt.i b) : Int) + (1 : Int))) ∧ True) (List.length
      (List.take (Int.toNat (Prod.fst (Prod.snd (List.getD L (T24.NSt.i b) (Ty.dflt T24.oty))))) (List.drop (0 : Nat) (T24.NSt.Hv b))) ≤ List.length (List.take (Int.toNat
      (Prod.fst (Prod.snd (List.getD L (T24.NSt.i b) (Ty.dflt T24.oty))))) (List.drop (0 : Nat) (T24.NSt.Hv b))) ∧ ((↑(List.length (List.take (Int.toNat (Prod.fst (Prod.snd
      (List.getD L (T24.NSt.i b) (Ty.dflt T24.oty))))) (List.drop (0 : Nat) (T24.NSt.Hv b))) + List.length (List.take (List.length (T24.NSt.Hv b) - Int.toNat (IntKind.wrap
      IntKind.i64 (Prod.fst (Prod.snd (List.getD L (T24.NSt.i b) (Ty.dflt T24.oty))) + (1 : Int)))) (List.drop ((0 : Nat) + Int.toNat (IntKind.wrap IntKind.i64 (Prod.fst
      (Prod.snd (List.getD L (T24.NSt.i b) (Ty.dflt T24.oty))) + (1 : Int)))) (T24.NSt.Hv b)))) : Int) ≤ (9223372036854775807 : Int) ∧ (List.length (List.take (Int.toNat
      (Prod.fst (Prod.snd (List.getD L (T24.NSt.i b) (Ty.dflt T24.oty))))) (List.drop (0 : Nat) (T24.NSt.Hv b))) + List.length (List.take (List.length (T24.NSt.Hv b) - Int.toNat
      (IntKind.wrap IntKind.i64 (Prod.fst (Prod.snd (List.getD L (T24.NSt.i b) (Ty.dflt T24.oty))) + (1 : Int)))) (List.drop ((0 : Nat) + Int.toNat (IntKind.wrap IntKind.i64
      (Prod.fst (Prod.snd (List.getD L (T24.NSt.i b) (Ty.dflt T24.oty))) + (1 : Int)))) (T24.NSt.Hv b)))) * Sx.bytesOf Go.Proofs.Try.prog (37 : Nat) ≤ (140737488355328 : Nat)) ∧
      (∃ (x : T24.NSt), (T24.vq L to (List.length (List.take (Int.toNat (Prod.fst (Prod.snd (List.getD L (T24.NSt.i b) (Ty.dflt T24.oty))))) (List.drop (0 : Nat) (T24.NSt.Hv
      b))) + List.length (List.take (List.length (T24.NSt.Hv b) - Int.toNat (IntKind.wrap IntKind.i64 (Prod.fst (Prod.snd (List.getD L (T24.NSt.i b) (Ty.dflt T24.oty))) + (1 :
      Int)))) (List.drop ((0 : Nat) + Int.toNat (IntKind.wrap IntKind.i64 (Prod.fst (Prod.snd (List.getD L (T24.NSt.i b) (Ty.dflt T24.oty))) + (1 : Int)))) (T24.NSt.Hv b))))
      (↑(T24.NSt.sent b) : Int) (↑(T24.NSt.i b) : Int) [SV.lit (Value.bool true)], T24.hpq (Prod.fst b_9) (↑(T24.NSt.sent b) : Int) (Prod.snd b_9) (List.take (List.length
      (List.take (Int.toNat (Prod.fst (Prod.snd (List.getD L (T24.NSt.i b) (Ty.dflt T24.oty))))) (List.drop (0 : Nat) (T24.NSt.Hv b)))) (List.take (Int.toNat (Prod.fst (Prod.snd
      (List.getD L (T24.NSt.i b) (Ty.dflt T24.oty))))) (List.drop (0 : Nat) (T24.NSt.Hv b))) ++ List.take (List.length (T24.NSt.Hv b) - Int.toNat (IntKind.wrap IntKind.i64
      (Prod.fst (Prod.snd (List.getD L (T24.NSt.i b) (Ty.dflt T24.oty))) + (1 : Int)))) (List.drop ((0 : Nat) + Int.toNat (IntKind.wrap IntKind.i64 (Prod.fst (Prod.snd
      (List.getD L (T24.NSt.i b) (Ty.dflt T24.oty))) + (1 : Int)))) (T24.NSt.Hv b))) (List.length (T24.NSt.LL b)) (List.length (T24.NSt.LL b)) (T24.NSt.LL b) (T24.NSt.LL b) ([]
      : List Sx.SO)) = (T24.vq L to (List.length (T24.NSt.Hv x)) (↑(T24.NSt.sent x) : Int) (↑(T24.NSt.i b) : Int) [SV.lit (Value.bool true)], T24.hpq (T24.NSt.m x)
      (↑(T24.NSt.sent x) : Int) (T24.NSt.R x) (T24.NSt.Hv x) (List.length (T24.NSt.LL x)) (List.length (T24.NSt.LL x)) (T24.NSt.LL x) (T24.NSt.LL x) ([] : List Sx.SO)) ∧
      ((↑(T24.NSt.i x) : Int) = (↑(T24.NSt.i b) : Int) ∧ T24.NSt.LL x = T24.NSt.LL b) ∧ T24.RowOf (T24.NSt.m x) (T24.NSt.Hv x) (T24.NSt.R x) ∧ (↑(T24.NSt.sent x) : Int) ≤ (100 :
      Int) * ((↑(T24.NSt.i b) : Int) + (1 : Int))) ∧ True)) (∀ (b_11 : Bool), True → br b_11 ((0 : Nat) + Int.toNat (Prod.fst (Prod.snd (List.getD L (T24.NSt.i b) (Ty.dflt
      T24.oty)))) ≤ List.length (T24.NSt.Hv b) ∧ ((↑((0 : Nat) + List.length (List.take (Int.toNat (Prod.fst (Prod.snd (List.getD L (T24.NSt.i b) (Ty.dflt T24.oty)))))
      (List.drop (0 : Nat) (T24.NSt.Hv b)))) : Int) ≤ (9223372036854775807 : Int) ∧ ((0 : Nat) + List.length (List.take (Int.toNat (Prod.fst (Prod.snd (List.getD L (T24.NSt.i b)
      (Ty.dflt T24.oty))))) (List.drop (0 : Nat) (T24.NSt.Hv b)))) * Sx.bytesOf Go.Proofs.Try.prog (37 : Nat) ≤ (140737488355328 : Nat)) ∧ True ∧ ((0 : Int) ≤ IntKind.wrap
      IntKind.i64 (Prod.fst (Prod.snd (List.getD L (T24.NSt.i b) (Ty.dflt T24.oty))) + (1 : Int)) ∧ IntKind.wrap IntKind.i64 (Prod.fst (Prod.snd (List.getD L (T24.NSt.i b)
      (Ty.dflt T24.oty))) + (1 : Int)) ≤ (↑(List.length (T24.NSt.Hv b)) : Int)) ∧ (0 : Nat) + Int.toNat (IntKind.wrap IntKind.i64 (Prod.fst (Prod.snd (List.getD L (T24.NSt.i b)
      (Ty.dflt T24.oty))) + (1 : Int))) + (List.length (T24.NSt.Hv b) - Int.toNat (IntKind.wrap IntKind.i64 (Prod.fst (Prod.snd (List.getD L (T24.NSt.i b) (Ty.dflt T24.oty))) +
      (1 : Int)))) ≤ List.length (T24.NSt.Hv b) ∧ Sx.br (decide (List.length (List.take (Int.toNat (Prod.fst (Prod.snd (List.getD L (T24.NSt.i b) (Ty.dflt T24.oty)))))
      (List.drop (0 : Nat) (T24.NSt.Hv b))) + List.length (List.take (List.length (T24.NSt.Hv b) - Int.toNat (IntKind.wrap IntKind.i64 (Prod.fst (Prod.snd (List.getD L
      (T24.NSt.i b) (Ty.dflt T24.oty))) + (1 : Int)))) (List.drop ((0 : Nat) + Int.toNat (IntKind.wrap IntKind.i64 (Prod.fst (Prod.snd (List.getD L (T24.NSt.i b) (Ty.dflt
      T24.oty))) + (1 : Int)))) (T24.NSt.Hv b))) ≤ List.length (List.take (Int.toNat (Prod.fst (Prod.snd (List.getD L (T24.NSt.i b) (Ty.dflt T24.oty))))) (List.drop (0 : Nat)
      (T24.NSt.Hv b))))) ((∃ (x : T24.NSt), (T24.vq L to (List.length (List.take (Int.toNat (Prod.fst (Prod.snd (List.getD L (T24.NSt.i b) (Ty.dflt T24.oty))))) (List.drop (0 :
      Nat) (T24.NSt.Hv b))) + List.length (List.take (List.length (T24.NSt.Hv b) - Int.toNat (IntKind.wrap IntKind.i64 (Prod.fst (Prod.snd (List.getD L (T24.NSt.i b) (Ty.dflt
      T24.oty))) + (1 : Int)))) (List.drop ((0 : Nat) + Int.toNat (IntKind.wrap IntKind.i64 (Prod.fst (Prod.snd (List.getD L (T24.NSt.i b) (Ty.dflt T24.oty))) + (1 : Int))))
      (T24.NSt.Hv b)))) (↑(T24.NSt.sent b) : Int) (↑(T24.NSt.i b) : Int) [SV.lit (Value.bool true)], T24.hpq (Prod.fst b_9) (↑(T24.NSt.sent b) : Int) (Prod.snd b_9) (List.take
      (List.length (List.take (Int.toNat (Prod.fst (Prod.snd (List.getD L (T24.NSt.i b) (Ty.dflt T24.oty))))) (List.drop (0 : Nat) (T24.NSt.Hv b)))) (List.take (Int.toNat
      (Prod.fst (Prod.snd (List.getD L (T24.NSt.i b) (Ty.dflt T24.oty))))) (List.drop (0 : Nat) (T24.NSt.Hv b))) ++ List.take (List.length (T24.NSt.Hv b) - Int.toNat
      (IntKind.wrap IntKind.i64 (Prod.fst (Prod.snd (List.getD L (T24.NSt.i b) (Ty.dflt T24.oty))) + (1 : Int)))) (List.drop ((0 : Nat) + Int.toNat (IntKind.wrap IntKind.i64
      (Prod.fst (Prod.snd (List.getD L (T24.NSt.i b) (Ty.dflt T24.oty))) + (1 : Int)))) (T24.NSt.Hv b)) ++ List.drop (List.length (List.take (Int.toNat (Prod.fst (Prod.snd
      (List.getD L (T24.NSt.i b) (Ty.dflt T24.oty))))) (List.drop (0 : Nat) (T24.NSt.Hv b))) + List.length (List.take (List.length (T24.NSt.Hv b) - Int.toNat (IntKind.wrap
      IntKind.i64 (Prod.fst (Prod.snd (List.getD L (T24.NSt.i b) (Ty.dflt T24.oty))) + (1 : Int)))) (List.drop ((0 : Nat) + Int.toNat (IntKind.wrap IntKind.i64 (Prod.fst
      (Prod.snd (List.getD L (T24.NSt.i b) (Ty.dflt T24.oty))) + (1 : Int)))) (T24.NSt.Hv b)))) (List.take (Int.toNat (Prod.fst (Prod.snd (List.getD L (T24.NSt.i b) (Ty.dflt
      T24.oty))))) (List.drop (0 : Nat) (T24.NSt.Hv b)))) (List.length (T24.NSt.LL b)) (List.length (T24.NSt.LL b)) (T24.NSt.LL b) (T24.NSt.LL b) ([] : List Sx.SO)) = (T24.vq L
      to (List.length (T24.NSt.Hv x)) (↑(T24.NSt.sent x) : Int) (↑(T24.NSt.i b) : Int) [SV.lit (Value.bool true)], T24.hpq (T24.NSt.m x) (↑(T24.NSt.sent x) : Int) (T24.NSt.R x)
      (T24.NSt.Hv x) (List.length (T24.NSt.LL x)) (List.length (T24.NSt.LL x)) (T24.NSt.LL x) (T24.NSt.LL x) ([] : List Sx.SO)) ∧ ((↑(T24.NSt.i x) : Int) = (↑(T24.NSt.i b) :
      Int) ∧ T24.NSt.LL x = T24.NSt.LL b) ∧ T24.RowOf (T24.NSt.m x) (T24.NSt.Hv x) (T24.NSt.R x) ∧ (↑(T24.NSt.sent x) : Int) ≤ (100 : Int) * ((↑(T24.NSt.i b) : Int) + (1 :
      Int))) ∧ True) (List.length (List.take (Int.toNat (Prod.fst (Prod.snd (List.getD L (T24.NSt.i b) (Ty.dflt T24.oty))))) (List.drop (0 : Nat) (T24.NSt.Hv b))) ≤ List.length
      (List.take (Int.toNat (Prod.fst (Prod.snd (List.getD L (T24.NSt.i b) (Ty.dflt T24.oty))))) (List.drop (0 : Nat) (T24.NSt.Hv b))) ∧ ((↑(List.length (List.take (Int.toNat
      (Prod.fst (Prod.snd (List.getD L (T24.NSt.i b) (Ty.dflt T24.oty))))) (List.drop (0 : Nat) (T24.NSt.Hv b))) + List.length (List.take (List.length (T24.NSt.Hv b) - Int.toNat
      (IntKind.wrap IntKind.i64 (Prod.fst (Prod.snd (List.getD L (T24.NSt.i b) (Ty.dflt T24.oty))) + (1 : Int)))) (List.drop ((0 : Nat) + Int.toNat (IntKind.wrap IntKind.i64
      (Prod.fst (Prod.snd (List.getD L (T24.NSt.i b) (Ty.dflt T24.oty))) + (1 : Int)))) (T24.NSt.Hv b)))) : Int) ≤ (9223372036854775807 : Int) ∧ (List.length (List.take
      (Int.toNat (Prod.fst (Prod.snd (List.getD L (T24.NSt.i b) (Ty.dflt T24.oty))))) (List.drop (0 : Nat) (T24.NSt.Hv b))) + List.length (List.take (List.length (T24.NSt.Hv b)
      - Int.toNat (IntKind.wrap IntKind.i64 (Prod.fst (Prod.snd (List.getD L (T24.NSt.i b) (Ty.dflt T24.oty))) + (1 : Int)))) (List.drop ((0 : Nat) + Int.toNat (IntKind.wrap
      IntKind.i64 (Prod.fst (Prod.snd (List.getD L (T24.NSt.i b) (Ty.dflt T24.oty))) + (1 : Int)))) (T24.NSt.Hv b)))) * Sx.bytesOf Go.Proofs.Try.prog (37 : Nat) ≤
      (140737488355328 : Nat)) ∧ (∃ (x : T24.NSt), (T24.vq L to (List.length (List.take (Int.toNat (Prod.fst (Prod.snd (List.getD L (T24.NSt.i b) (Ty.dflt T24.oty)))))
      (List.drop (0 : Nat) (T24.NSt.Hv b))) + List.length (List.take (List.length (T24.NSt.Hv b) - Int.toNat (IntKind.wrap IntKind.i64 (Prod.fst (Prod.snd (List.getD L
      (T24.NSt.i b) (Ty.dflt T24.oty))) + (1 : Int)))) (List.drop ((0 : Nat) + Int.toNat (IntKind.wrap IntKind.i64 (Prod.fst (Prod.snd (List.getD L (T24.NSt.i b) (Ty.dflt
      T24.oty))) + (1 : Int)))) (T24.NSt.Hv b)))) (↑(T24.NSt.sent b) : Int) (↑(T24.NSt.i b) : Int) [SV.lit (Value.bool true)], T24.hpq (Prod.fst b_9) (↑(T24.NSt.sent b) : Int)
      (Prod.snd b_9) (List.take (List.length (List.take (Int.toNat (Prod.fst (Prod.snd (List.getD L (T24.NSt.i b) (Ty.dflt T24.oty))))) (List.drop (0 : Nat) (T24.NSt.Hv b))))
      (List.take (Int.toNat (Prod.fst (Prod.snd (List.getD L (T24.NSt.i b) (Ty.dflt T24.oty))))) (List.drop (0 : Nat) (T24.NSt.Hv b))) ++ List.take (List.length (T24.NSt.Hv b) -
      Int.toNat (IntKind.wrap IntKind.i64 (Prod.fst (Prod.snd (List.getD L (T24.NSt.i b) (Ty.dflt T24.oty))) + (1 : Int)))) (List.drop ((0 : Nat) + Int.toNat (IntKind.wrap
      IntKind.i64 (Prod.fst (Prod.snd (List.getD L (T24.NSt.i b) (Ty.dflt T24.oty))) + (1 : Int)))) (T24.NSt.Hv b))) (List.length (T24.NSt.LL b)) (List.length (T24.NSt.LL b))
      (T24.NSt.LL b) (T24.NSt.LL b) ([] : List Sx.SO)) = (T24.vq L to (List.length (T24.NSt.Hv x)) (↑(T24.NSt.sent x) : Int) (↑(T24.NSt.i b) : Int) [SV.lit (Value.bool true)],
      T24.hpq (T24.NSt.m x) (↑(T24.NSt.sent x) : Int) (T24.NSt.R x) (T24.NSt.Hv x) (List.length (T24.NSt.LL x)) (List.length (T24.NSt.LL x)) (T24.NSt.LL x) (T24.NSt.LL x) ([] :
      List Sx.SO)) ∧ ((↑(T24.NSt.i x) : Int) = (↑(T24.NSt.i b) : Int) ∧ T24.NSt.LL x = T24.NSt.LL b) ∧ T24.RowOf (T24.NSt.m x) (T24.NSt.Hv x) (T24.NSt.R x) ∧ (↑(T24.NSt.sent x)
      : Int) ≤ (100 : Int) * ((↑(T24.NSt.i b) : Int) + (1 : Int))) ∧ True)) (True ∧ ((0 : Int) ≤ IntKind.wrap IntKind.i64 (Prod.fst (Prod.snd (List.getD L (T24.NSt.i b) (Ty.dflt
      T24.oty))) + (1 : Int)) ∧ IntKind.wrap IntKind.i64 (Prod.fst (Prod.snd (List.getD L (T24.NSt.i b) (Ty.dflt T24.oty))) + (1 : Int)) ≤ (↑(List.length (T24.NSt.Hv b)) : Int))
      ∧ (0 : Nat) + Int.toNat (Prod.fst (Prod.snd (List.getD L (T24.NSt.i b) (Ty.dflt T24.oty)))) ≤ List.length (T24.NSt.Hv b) ∧ ((↑((0 : Nat) + List.length (List.take
      (Int.toNat (Prod.fst (Prod.snd (List.getD L (T24.NSt.i b) (Ty.dflt T24.oty))))) (List.drop (0 : Nat) (T24.NSt.Hv b)))) : Int) ≤ (9223372036854775807 : Int) ∧ ((0 : Nat) +
      List.length (List.take (Int.toNat (Prod.fst (Prod.snd (List.getD L (T24.NSt.i b) (Ty.dflt T24.oty))))) (List.drop (0 : Nat) (T24.NSt.Hv b)))) * Sx.bytesOf
      Go.Proofs.Try.prog (37 : Nat) ≤ (140737488355328 : Nat)) ∧ (0 : Nat) + Int.toNat (IntKind.wrap IntKind.i64 (Prod.fst (Prod.snd (List.getD L (T24.NSt.i b) (Ty.dflt
      T24.oty))) + (1 : Int))) + (List.length (T24.NSt.Hv b) - Int.toNat (IntKind.wrap IntKind.i64 (Prod.fst (Prod.snd (List.getD L (T24.NSt.i b) (Ty.dflt T24.oty))) + (1 :
      Int)))) ≤ List.length (T24.NSt.Hv b) ∧ Sx.br (decide (List.length (List.take (Int.toNat (Prod.fst (Prod.snd (List.getD L (T24.NSt.i b) (Ty.dflt T24.oty))))) (List.drop (0
      : Nat) (T24.NSt.Hv b))) + List.length (List.take (List.length (T24.NSt.Hv b) - Int.toNat (IntKind.wrap IntKind.i64 (Prod.fst (Prod.snd (List.getD L (T24.NSt.i b) (Ty.dflt
      T24.oty))) + (1 : Int)))) (List.drop ((0 : Nat) + Int.toNat (IntKind.wrap IntKind.i64 (Prod.fst (Prod.snd (List.getD L (T24.NSt.i b) (Ty.dflt T24.oty))) + (1 : Int))))
      (T24.NSt.Hv b))) ≤ List.length (List.take (Int.toNat (Prod.fst (Prod.snd (List.getD L (T24.NSt.i b) (Ty.dflt T24.oty))))) (List.drop (0 : Nat) (T24.NSt.Hv b))))) ((∃ (x :
      T24.NSt), (T24.vq L to (List.length (List.take (Int.toNat (Prod.fst (Prod.snd (List.getD L (T24.NSt.i b) (Ty.dflt T24.oty))))) (List.drop (0 : Nat) (T24.NSt.Hv b))) +
      List.length (List.take (List.length (T24.NSt.Hv b) - Int.toNat (IntKind.wrap IntKind.i64 (Prod.fst (Prod.snd (List.getD L (T24.NSt.i b) (Ty.dflt T24.oty))) + (1 : Int))))
      (List.drop ((0 : Nat) + Int.toNat (IntKind.wrap IntKind.i64 (Prod.fst (Prod.snd (List.getD L (T24.NSt.i b) (Ty.dflt T24.oty))) + (1 : Int)))) (T24.NSt.Hv b))))
      (↑(T24.NSt.sent b) : Int) (↑(T24.NSt.i b) : Int) [SV.lit (Value.bool true)], T24.hpq (Prod.fst b_9) (↑(T24.NSt.sent b) : Int) (Prod.snd b_9) (List.take (List.length
      (List.take (Int.toNat (Prod.fst (Prod.snd (List.getD L (T24.NSt.i b) (Ty.dflt T24.oty))))) (List.drop (0 : Nat) (T24.NSt.Hv b)))) (List.take (Int.toNat (Prod.fst (Prod.snd
      (List.getD L (T24.NSt.i b) (Ty.dflt T24.oty))))) (List.drop (0 : Nat) (T24.NSt.Hv b))) ++ List.take (List.length (T24.NSt.Hv b) - Int.toNat (IntKind.wrap IntKind.i64
      (Prod.fst (Prod.snd (List.getD L (T24.NSt.i b) (Ty.dflt T24.oty))) + (1 : Int)))) (List.drop ((0 : Nat) + Int.toNat (IntKind.wrap IntKind.i64 (Prod.fst (Prod.snd
      (List.getD L (T24.NSt.i b) (Ty.dflt T24.oty))) + (1 : Int)))) (T24.NSt.Hv b)) ++ List.drop (List.length (List.take (Int.toNat (Prod.fst (Prod.snd (List.getD L (T24.NSt.i
      b) (Ty.dflt T24.oty))))) (List.drop (0 : Nat) (T24.NSt.Hv b))) + List.length (List.take (List.length (T24.NSt.Hv b) - Int.toNat (IntKind.wrap IntKind.i64 (Prod.fst
      (Prod.snd (List.getD L (T24.NSt.i b) (Ty.dflt T24.oty))) + (1 : Int)))) (List.drop ((0 : Nat) + Int.toNat (IntKind.wrap IntKind.i64 (Prod.fst (Prod.snd (List.getD L
      (T24.NSt.i b) (Ty.dflt T24.oty))) + (1 : Int)))) (T24.NSt.Hv b)))) (List.take (Int.toNat (Prod.fst (Prod.snd (List.getD L (T24.NSt.i b) (Ty.dflt T24.oty))))) (List.drop (0
      : Nat) (T24.NSt.Hv b)))) (List.length (T24.NSt.LL b)) (List.length (T24.NSt.LL b)) (T24.NSt.LL b) (T24.NSt.LL b) ([] : List Sx.SO)) = (T24.vq L to (List.length (T24.NSt.Hv
      x)) (↑(T24.NSt.sent x) : Int) (↑(T24.NSt.i b) : Int) [SV.lit (Value.bool true)], T24.hpq (T24.NSt.m x) (↑(T24.NSt.sent x) : Int) (T24.NSt.R x) (T24.NSt.Hv x) (List.length
      (T24.NSt.LL x)) (List.length (T24.NSt.LL x)) (T24.NSt.LL x) (T24.NSt.LL x) ([] : List Sx.SO)) ∧ ((↑(T24.NSt.i x) : Int) = (↑(T24.NSt.i b) : Int) ∧ T24.NSt.LL x =
      T24.NSt.LL b) ∧ T24.RowOf (T24.NSt.m x) (T24.NSt.Hv x) (T24.NSt.R x) ∧ (↑(T24.NSt.sent x) : Int) ≤ (100 : Int) * ((↑(T24.NSt.i b) : Int) + (1 : Int))) ∧ True) (List.length
      (List.take (Int.toNat (Prod.fst (Prod.snd (List.getD L (T24.NSt.i b) (Ty.dflt T24.oty))))) (List.drop (0 : Nat) (T24.NSt.Hv b))) ≤ List.length (List.take (Int.toNat
      (Prod.fst (Prod.snd (List.getD L (T24.NSt.i b) (Ty.dflt T24.oty))))) (List.drop (0 : Nat) (T24.NSt.Hv b))) ∧ ((↑(List.length (List.take (Int.toNat (Prod.fst (Prod.snd
      (List.getD L (T24.NSt.i b) (Ty.dflt T24.oty))))) (List.drop (0 : Nat) (T24.NSt.Hv b))) + List.length (List.take (List.length (T24.NSt.Hv b) - Int.toNat (IntKind.wrap
      IntKind.i64 (Prod.fst (Prod.snd (List.getD L (T24.NSt.i b) (Ty.dflt T24.oty))) + (1 : Int)))) (List.drop ((0 : Nat) + Int.toNat (IntKind.wrap IntKind.i64 (Prod.fst
      (Prod.snd (List.getD L (T24.NSt.i b) (Ty.dflt T24.oty))) + (1 : Int)))) (T24.NSt.Hv b)))) : Int) ≤ (9223372036854775807 : Int) ∧ (List.length (List.take (Int.toNat
      (Prod.fst (Prod.snd (List.getD L (T24.NSt.i b) (Ty.dflt T24.oty))))) (List.drop (0 : Nat) (T24.NSt.Hv b))) + List.length (List.take (List.length (T24.NSt.Hv b) - Int.toNat
      (IntKind.wrap IntKind.i64 (Prod.fst (Prod.snd (List.getD L (T24.NSt.i b) (Ty.dflt T24.oty))) + (1 : Int)))) (List.drop ((0 : Nat) + Int.toNat (IntKind.wrap IntKind.i64
      (Prod.fst (Prod.snd (List.getD L (T24.NSt.i b) (Ty.dflt T24.oty))) + (1 : Int)))) (T24.NSt.Hv b)))) * Sx.bytesOf Go.Proofs.Try.prog (37 : Nat) ≤ (140737488355328 : Nat)) ∧
      (∃ (x : T24.NSt), (T24.vq L to (List.length (List.take (Int.toNat (Prod.fst (Prod.snd (List.getD L (T24.NSt.i b) (Ty.dflt T24.oty))))) (List.drop (0 : Nat) (T24.NSt.Hv
      b))) + List.length (List.take (List.length (T24.NSt.Hv b) - Int.toNat (IntKind.wrap IntKind.i64 (Prod.fst (Prod.snd (List.getD L (T24.NSt.i b) (Ty.dflt T24.oty))) + (1 :
      Int)))) (List.drop ((0 : Nat) + Int.toNat (IntKind.wrap IntKind.i64 (Prod.fst (Prod.snd (List.getD L (T24.NSt.i b) (Ty.dflt T24.oty))) + (1 : Int)))) (T24.NSt.Hv b))))
      (↑(T24.NSt.sent b) : Int) (↑(T24.NSt.i b) : Int) [SV.lit (Value.bool true)], T24.hpq (Prod.fst b_9) (↑(T24.NSt.sent b) : Int) (Prod.snd b_9) (List.take (List.length
      (List.take (Int.toNat (Prod.fst (Prod.snd (List.getD L (T24.NSt.i b) (Ty.dflt T24.oty))))) (List.drop (0 : Nat) (T24.NSt.Hv b)))) (List.take (Int.toNat (Prod.fst (Prod.snd
      (List.getD L (T24.NSt.i b) (Ty.dflt T24.oty))))) (List.drop (0 : Nat) (T24.NSt.Hv b))) ++ List.take (List.length (T24.NSt.Hv b) - Int.toNat (IntKind.wrap IntKind.i64
      (Prod.fst (Prod.snd (List.getD L (T24.NSt.i b) (Ty.dflt T24.oty))) + (1 : Int)))) (List.drop ((0 : Nat) + Int.toNat (IntKind.wrap IntKind.i64 (Prod.fst (Prod.snd
      (List.getD L (T24.NSt.i b) (Ty.dflt T24.oty))) + (1 : Int)))) (T24.NSt.Hv b))) (List.length (T24.NSt.LL b)) (List.length (T24.NSt.LL b)) (T24.NSt.LL b) (T24.NSt.LL b) ([]
      : List Sx.SO)) = (T24.vq L to (List.length (T24.NSt.Hv x)) (↑(T24.NSt.sent x) : Int) (↑(T24.NSt.i b) : Int) [SV.lit (Value.bool true)], T24.hpq (T24.NSt.m x)
      (↑(T24.NSt.sent x) : Int) (T24.NSt.R x) (T24.NSt.Hv x) (List.length (T24.NSt.LL x)) (List.length (T24.NSt.LL x)) (T24.NSt.LL x) (T24.NSt.LL x) ([] : List Sx.SO)) ∧
      ((↑(T24.NSt.i x) : Int) = (↑(T24.NSt.i b) : Int) ∧ T24.NSt.LL x = T24.NSt.LL b) ∧ T24.RowOf (T24.NSt.m x) (T24.NSt.Hv x) (T24.NSt.R x) ∧ (↑(T24.NSt.sent x) : Int) ≤ (100 :
      Int) * ((↑(T24.NSt.i b) : Int) + (1 : Int))) ∧ True)))) ((∃ (x : T24.NSt), (T24.vq L to (List.length (T24.NSt.Hv b)) (↑(T24.NSt.sent b) : Int) (↑(T24.NSt.i b) : Int)
      [SV.lit (Value.bool true)], T24.hpq (Prod.fst b_9) (↑(T24.NSt.sent b) : Int) (Prod.snd b_9) (T24.NSt.Hv b) (List.length (T24.NSt.LL b)) (List.length (T24.NSt.LL b))
      (T24.NSt.LL b) (T24.NSt.LL b) ([] : List Sx.SO)) = (T24.vq L to (List.length (T24.NSt.Hv x)) (↑(T24.NSt.sent x) : Int) (↑(T24.NSt.i b) : Int) [SV.lit (Value.bool true)],
      T24.hpq (T24.NSt.m x) (↑(T24.NSt.sent x) : Int) (T24.NSt.R x) (T24.NSt.Hv x) (List.length (T24.NSt.LL x)) (List.length (T24.NSt.LL x)) (T24.NSt.LL x) (T24.NSt.LL x) ([] :
      List Sx.SO)) ∧ ((↑(T24.NSt.i x) : Int) = (↑(T24.NSt.i b) : Int) ∧ T24.NSt.LL x = T24.NSt.LL b) ∧ T24.RowOf (T24.NSt.m x) (T24.NSt.Hv x) (T24.NSt.R x) ∧ (↑(T24.NSt.sent x)
      : Int) ≤ (100 : Int) * ((↑(T24.NSt.i b) : Int) + (1 : Int))) ∧ True)) ((∃ (x : T24.NSt), (T24.vq L to (List.length (T24.NSt.Hv b)) (↑(T24.NSt.sent b) : Int) (↑(T24.NSt.i
      b) : Int) [SV.lit (Value.bool true)], T24.hpq (Prod.fst b_9) (↑(T24.NSt.sent b) : Int) (Prod.snd b_9) (T24.NSt.Hv b) (List.length (T24.NSt.LL b)) (List.length (T24.NSt.LL
      b)) (T24.NSt.LL b) (T24.NSt.LL b) ([] : List Sx.SO)) = (T24.vq L to (List.length (T24.NSt.Hv x)) (↑(T24.NSt.sent x) : Int) (↑(T24.NSt.i b) : Int) [SV.lit (Value.bool
      true)], T24.hpq (T24.NSt.m x) (↑(T24.NSt.sent x) : Int) (T24.NSt.R x) (T24.NSt.Hv x) (List.length (T24.NSt.LL x)) (List.length (T24.NSt.LL x)) (T24.NSt.LL x) (T24.NSt.LL
      x) ([] : List Sx.SO)) ∧ ((↑(T24.NSt.i x) : Int) = (↑(T24.NSt.i b) : Int) ∧ T24.NSt.LL x = T24.NSt.LL b) ∧ T24.RowOf (T24.NSt.m x) (T24.NSt.Hv x) (T24.NSt.R x) ∧
      (↑(T24.NSt.sent x) : Int) ≤ (100 : Int) * ((↑(T24.NSt.i b) : Int) + (1 : Int))) ∧ True)))) (br (T24.inB (Prod.fst (Prod.snd (List.getD L (T24.NSt.i b) (Ty.dflt T24.oty))))
      (List.length (T24.NSt.Hv b))) ((T24.NSt.m b ≤ List.length (T24.NSt.R b) ∧ List.length (T24.NSt.R b) ≤ (200 : Nat)) ∧ Sx.br (decide ((0 : Int) ≤ Prod.fst (Prod.snd
      (List.getD L (T24.NSt.i b) (Ty.dflt T24.oty))) ∧ Prod.fst (Prod.snd (List.getD L (T24.NSt.i b) (Ty.dflt T24.oty))) < (↑(T24.NSt.m b) : Int) ∧ T24.NSt.m b < (200 : Nat)))
      (∀ (b_6 : List (Ty.den T24.pty)), T24.RowOf (T24.NSt.m b + (1 : Nat)) (List.take (T24.NSt.m b) (T24.NSt.R b) ++ [List.getD (T24.NSt.R b) (Int.toNat (Prod.fst (Prod.snd
      (List.getD L (T24.NSt.i b) (Ty.dflt T24.oty))))) (Ty.dflt T24.pty)]) b_6 → br (decide ((↑(List.length (T24.NSt.Hv b)) : Int) < (200 : Int))) (∀ (b_7 : Bool), True → br b_7
      ((0 : Nat) + List.length (T24.NSt.Hv b) ≤ List.length (T24.NSt.Hv b) ∧ ((↑((0 : Nat) + List.length (List.take (List.length (T24.NSt.Hv b)) (List.drop (0 : Nat) (T24.NSt.Hv
      b)))) : Int) ≤ (9223372036854775807 : Int) ∧ ((0 : Nat) + List.length (List.take (List.length (T24.NSt.Hv b)) (List.drop (0 : Nat) (T24.NSt.Hv b)))) * Sx.bytesOf
      Go.Proofs.Try.prog (37 : Nat) ≤ (140737488355328 : Nat)) ∧ ((0 : Int) ≤ Prod.fst (Prod.snd (List.getD L (T24.NSt.i b) (Ty.dflt T24.oty))) ∧ Prod.fst (Prod.snd (List.getD L
      (T24.NSt.i b) (Ty.dflt T24.oty))) < (↑(List.length (T24.NSt.Hv b)) : Int)) ∧ (0 : Nat) + Int.toNat (Prod.fst (Prod.snd (List.getD L (T24.NSt.i b) (Ty.dflt T24.oty)))) <
      List.length (T24.NSt.Hv b) ∧ (1 : Nat) ≤ (1 : Nat) ∧ Sx.br (decide (List.length (List.take (List.length (T24.NSt.Hv b)) (List.drop (0 : Nat) (T24.NSt.Hv b))) + (1 : Nat) ≤
      List.length (List.take (List.length (T24.NSt.Hv b)) (List.drop (0 : Nat) (T24.NSt.Hv b))))) ((∃ (x : T24.NSt), (T24.vq L to (List.length (List.take (List.length
      (T24.NSt.Hv b)) (List.drop (0 : Nat) (T24.NSt.Hv b))) + (1 : Nat)) (↑(T24.NSt.sent b) : Int) (↑(T24.NSt.i b) : Int) [SV.lit (Value.bool (true == decide ((↑(List.length
      (T24.NSt.Hv b)) : Int) < (200 : Int))))], T24.hpq (T24.NSt.m b + (1 : Nat)) (↑(T24.NSt.sent b) : Int) b_6 (List.take (List.length (List.take (List.length (T24.NSt.Hv b))
      (List.drop (0 : Nat) (T24.NSt.Hv b)))) (List.take (List.length (T24.NSt.Hv b)) (List.drop (0 : Nat) (T24.NSt.Hv b))) ++ [(Prod.fst (List.getD (T24.NSt.Hv b) ((0 : Nat) +
      Int.toNat (Prod.fst (Prod.snd (List.getD L (T24.NSt.i b) (Ty.dflt T24.oty))))) (Ty.dflt T24.pty)), Prod.fst (Prod.snd (List.getD (T24.NSt.Hv b) ((0 : Nat) + Int.toNat
      (Prod.fst (Prod.snd (List.getD L (T24.NSt.i b) (Ty.dflt T24.oty))))) (Ty.dflt T24.pty))), Prod.snd (Prod.snd (List.getD (T24.NSt.Hv b) ((0 : Nat) + Int.toNat (Prod.fst
      (Prod.snd (List.getD L (T24.NSt.i b) (Ty.dflt T24.oty))))) (Ty.dflt T24.pty))))] ++ List.drop (List.length (List.take (List.length (T24.NSt.Hv b)) (List.drop (0 : Nat)
      (T24.NSt.Hv b))) + (1 : Nat)) (List.take (List.length (T24.NSt.Hv b)) (List.drop (0 : Nat) (T24.NSt.Hv b)))) (List.length (T24.NSt.LL b)) (List.length (T24.NSt.LL b))
      (T24.NSt.LL b) (T24.NSt.LL b) ([] : List Sx.SO)) = (T24.vq L to (List.length (T24.NSt.Hv x)) (↑(T24.NSt.sent x) : Int) (↑(T24.NSt.i b) : Int) [SV.lit (Value.bool true)],
      T24.hpq (T24.NSt.m x) (↑(T24.NSt.sent x) : Int) (T24.NSt.R x) (T24.NSt.Hv x) (List.length (T24.NSt.LL x)) (List.length (T24.NSt.LL x)) (T24.NSt.LL x) (T24.NSt.LL x) ([] :
      List Sx.SO)) ∧ ((↑(T24.NSt.i x) : Int) = (↑(T24.NSt.i b) : Int) ∧ T24.NSt.LL x = T24.NSt.LL b) ∧ T24.RowOf (T24.NSt.m x) (T24.NSt.Hv x) (T24.NSt.R x) ∧ (↑(T24.NSt.sent x)
      : Int) ≤ (100 : Int) * ((↑(T24.NSt.i b) : Int) + (1 : Int))) ∧ True) (List.length (List.take (List.length (T24.NSt.Hv b)) (List.drop (0 : Nat) (T24.NSt.Hv b))) ≤
      List.length (List.take (List.length (T24.NSt.Hv b)) (List.drop (0 : Nat) (T24.NSt.Hv b))) ∧ ((↑(List.length (List.take (List.length (T24.NSt.Hv b)) (List.drop (0 : Nat)
      (T24.NSt.Hv b))) + (1 : Nat)) : Int) ≤ (9223372036854775807 : Int) ∧ (List.length (List.take (List.length (T24.NSt.Hv b)) (List.drop (0 : Nat) (T24.NSt.Hv b))) + (1 :
      Nat)) * Sx.bytesOf Go.Proofs.Try.prog (37 : Nat) ≤ (140737488355328 : Nat)) ∧ (∃ (x : T24.NSt), (T24.vq L to (List.length (List.take (List.length (T24.NSt.Hv b))
      (List.drop (0 : Nat) (T24.NSt.Hv b))) + (1 : Nat)) (↑(T24.NSt.sent b) : Int) (↑(T24.NSt.i b) : Int) [SV.lit (Value.bool (true == decide ((↑(List.length (T24.NSt.Hv b)) :
      Int) < (200 : Int))))], T24.hpq (T24.NSt.m b + (1 : Nat)) (↑(T24.NSt.sent b) : Int) b_6 (List.take (List.length (List.take (List.length (T24.NSt.Hv b)) (List.drop (0 :
      Nat) (T24.NSt.Hv b)))) (List.take (List.length (T24.NSt.Hv b)) (List.drop (0 : Nat) (T24.NSt.Hv b))) ++ [(Prod.fst (List.getD (T24.NSt.Hv b) ((0 : Nat) + Int.toNat
      (Prod.fst (Prod.snd (List.getD L (T24.NSt.i b) (Ty.dflt T24.oty))))) (Ty.dflt T24.pty)), Prod.fst (Prod.snd (List.getD (T24.NSt.Hv b) ((0 : Nat) + Int.toNat (Prod.fst
      (Prod.snd (List.getD L (T24.NSt.i b) (Ty.dflt T24.oty))))) (Ty.dflt T24.pty))), Prod.snd (Prod.snd (List.getD (T24.NSt.Hv b) ((0 : Nat) + Int.toNat (Prod.fst (Prod.snd
      (List.getD L (T24.NSt.i b) (Ty.dflt T24.oty))))) (Ty.dflt T24.pty))))]) (List.length (T24.NSt.LL b)) (List.length (T24.NSt.LL b)) (T24.NSt.LL b) (T24.NSt.LL b) ([] : List
      Sx.SO)) = (T24.vq L to (List.length (T24.NSt.Hv x)) (↑(T24.NSt.sent x) : Int) (↑(T24.NSt.i b) : Int) [SV.lit (Value.bool true)], T24.hpq (T24.NSt.m x) (↑(T24.NSt.sent x) :
      Int) (T24.NSt.R x) (T24.NSt.Hv x) (List.length (T24.NSt.LL x)) (List.length (T24.NSt.LL x)) (T24.NSt.LL x) (T24.NSt.LL x) ([] : List Sx.SO)) ∧ ((↑(T24.NSt.i x) : Int) =
      (↑(T24.NSt.i b) : Int) ∧ T24.NSt.LL x = T24.NSt.LL b) ∧ T24.RowOf (T24.NSt.m x) (T24.NSt.Hv x) (T24.NSt.R x) ∧ (↑(T24.NSt.sent x) : Int) ≤ (100 : Int) * ((↑(T24.NSt.i b) :
      Int) + (1 : Int))) ∧ True)) (((0 : Int) ≤ Prod.fst (Prod.snd (List.getD L (T24.NSt.i b) (Ty.dflt T24.oty))) ∧ Prod.fst (Prod.snd (List.getD L (T24.NSt.i b) (Ty.dflt
      T24.oty))) < (↑(List.length (T24.NSt.Hv b)) : Int)) ∧ ∀ (b_8 : Bool), True → br b_8 ((0 : Nat) + List.length (T24.NSt.Hv b) ≤ List.length (T24.NSt.Hv b) ∧ ((↑((0 : Nat) +
      List.length (List.take (List.length (T24.NSt.Hv b)) (List.drop (0 : Nat) (T24.NSt.Hv b)))) : Int) ≤ (9223372036854775807 : Int) ∧ ((0 : Nat) + List.length (List.take
      (List.length (T24.NSt.Hv b)) (List.drop (0 : Nat) (T24.NSt.Hv b)))) * Sx.bytesOf Go.Proofs.Try.prog (37 : Nat) ≤ (140737488355328 : Nat)) ∧ (0 : Nat) + Int.toNat (Prod.fst
      (Prod.snd (List.getD L (T24.NSt.i b) (Ty.dflt T24.oty)))) < List.length (T24.NSt.Hv b) ∧ (1 : Nat) ≤ (1 : Nat) ∧ Sx.br (decide (List.length (List.take (List.length
      (T24.NSt.Hv b)) (List.drop (0 : Nat) (T24.NSt.Hv b))) + (1 : Nat) ≤ List.length (List.take (List.length (T24.NSt.Hv b)) (List.drop (0 : Nat) (T24.NSt.Hv b))))) ((∃ (x :
      T24.NSt), (T24.vq L to (List.length (List.take (List.length (T24.NSt.Hv b)) (List.drop (0 : Nat) (T24.NSt.Hv b))) + (1 : Nat)) (↑(T24.NSt.sent b) : Int) (↑(T24.NSt.i b) :
      Int) [SV.lit (Value.bool (true == decide ((↑(List.length (T24.NSt.Hv b)) : Int) < (200 : Int))))], T24.hpq (T24.NSt.m b + (1 : Nat)) (↑(T24.NSt.sent b) : Int) b_6
      (List.take (List.length (List.take (List.length (T24.NSt.Hv b)) (List.drop (0 : Nat) (T24.NSt.Hv b)))) (List.take (List.length (T24.NSt.Hv b)) (List.drop (0 : Nat)
      (T24.NSt.Hv b))) ++ [(Prod.fst (List.getD (T24.NSt.Hv b) ((0 : Nat) + Int.toNat (Prod.fst (Prod.snd (List.getD L (T24.NSt.i b) (Ty.dflt T24.oty))))) (Ty.dflt T24.pty)),
      Prod.fst (Prod.snd (List.getD (T24.NSt.Hv b) ((0 : Nat) + Int.toNat (Prod.fst (Prod.snd (List.getD L (T24.NSt.i b) (Ty.dflt T24.oty))))) (Ty.dflt T24.pty))), Prod.snd
      (Prod.snd (List.getD (T24.NSt.Hv b) ((0 : Nat) + Int.toNat (Prod.fst (Prod.snd (List.getD L (T24.NSt.i b) (Ty.dflt T24.oty))))) (Ty.dflt T24.pty))))] ++ List.drop
      (List.length (List.take (List.length (T24.NSt.Hv b)) (List.drop (0 : Nat) (T24.NSt.Hv b))) + (1 : Nat)) (List.take (List.length (T24.NSt.Hv b)) (List.drop (0 : Nat)
      (T24.NSt.Hv b)))) (List.length (T24.NSt.LL b)) (List.length (T24.NSt.LL b)) (T24.NSt.LL b) (T24.NSt.LL b) ([] : List Sx.SO)) = (T24.vq L to (List.length (T24.NSt.Hv x))
      (↑(T24.NSt.sent x) : Int) (↑(T24.NSt.i b) : Int) [SV.lit (Value.bool true)], T24.hpq (T24.NSt.m x) (↑(T24.NSt.sent x) : Int) (T24.NSt.R x) (T24.NSt.Hv x) (List.length
      (T24.NSt.LL x)) (List.length (T24.NSt.LL x)) (T24.NSt.LL x) (T24.NSt.LL x) ([] : List Sx.SO)) ∧ ((↑(T24.NSt.i x) : Int) = (↑(T24.NSt.i b) : Int) ∧ T24.NSt.LL x =
      T24.NSt.LL b) ∧ T24.RowOf (T24.NSt.m x) (T24.NSt.Hv x) (T24.NSt.R x) ∧ (↑(T24.NSt.sent x) : Int) ≤ (100 : Int) * ((↑(T24.NSt.i b) : Int) + (1 : Int))) ∧ True) (List.length
      (List.take (List.length (T24.NSt.Hv b)) (List.drop (0 : Nat) (T24.NSt.Hv b))) ≤ List.length (List.take (List.length (T24.NSt.Hv b)) (List.drop (0 : Nat) (T24.NSt.Hv b))) ∧
      ((↑(List.length (List.take (List.length (T24.NSt.Hv b)) (List.drop (0 : Nat) (T24.NSt.Hv b))) + (1 : Nat)) : Int) ≤ (9223372036854775807 : Int) ∧ (List.length (List.take
      (List.length (T24.NSt.Hv b)) (List.drop (0 : Nat) (T24.NSt.Hv b))) + (1 : Nat)) * Sx.bytesOf Go.Proofs.Try.prog (37 : Nat) ≤ (140737488355328 : Nat)) ∧ (∃ (x : T24.NSt),
      (T24.vq L to (List.length (List.take (List.length (T24.NSt.Hv b)) (List.drop (0 : Nat) (T24.NSt.Hv b))) + (1 : Nat)) (↑(T24.NSt.sent b) : Int) (↑(T24.NSt.i b) : Int)
      [SV.lit (Value.bool (true == decide ((↑(List.length (T24.NSt.Hv b)) : Int) < (200 : Int))))], T24.hpq (T24.NSt.m b + (1 : Nat)) (↑(T24.NSt.sent b) : Int) b_6 (List.take
      (List.length (List.take (List.length (T24.NSt.Hv b)) (List.drop (0 : Nat) (T24.NSt.Hv b)))) (List.take (List.length (T24.NSt.Hv b)) (List.drop (0 : Nat) (T24.NSt.Hv b)))
      ++ [(Prod.fst (List.getD (T24.NSt.Hv b) ((0 : Nat) + Int.toNat (Prod.fst (Prod.snd (List.getD L (T24.NSt.i b) (Ty.dflt T24.oty))))) (Ty.dflt T24.pty)), Prod.fst (Prod.snd
      (List.getD (T24.NSt.Hv b) ((0 : Nat) + Int.toNat (Prod.fst (Prod.snd (List.getD L (T24.NSt.i b) (Ty.dflt T24.oty))))) (Ty.dflt T24.pty))), Prod.snd (Prod.snd (List.getD
      (T24.NSt.Hv b) ((0 : Nat) + Int.toNat (Prod.fst (Prod.snd (List.getD L (T24.NSt.i b) (Ty.dflt T24.oty))))) (Ty.dflt T24.pty))))]) (List.length (T24.NSt.LL b)) (List.length
      (T24.NSt.LL b)) (T24.NSt.LL b) (T24.NSt.LL b) ([] : List Sx.SO)) = (T24.vq L to (List.length (T24.NSt.Hv x)) (↑(T24.NSt.sent x) : Int) (↑(T24.NSt.i b) : Int) [SV.lit
      (Value.bool true)], T24.hpq (T24.NSt.m x) (↑(T24.NSt.sent x) : Int) (T24.NSt.R x) (T24.NSt.Hv x) (List.length (T24.NSt.LL x)) (List.length (T24.NSt.LL x)) (T24.NSt.LL x)
      (T24.NSt.LL x) ([] : List Sx.SO)) ∧ ((↑(T24.NSt.i x) : Int) = (↑(T24.NSt.i b) : Int) ∧ T24.NSt.LL x = T24.NSt.LL b) ∧ T24.RowOf (T24.NSt.m x) (T24.NSt.Hv x) (T24.NSt.R x)
      ∧ (↑(T24.NSt.sent x) : Int) ≤ (100 : Int) * ((↑(T24.NSt.i b) : Int) + (1 : Int))) ∧ True)) ((0 : Nat) + Int.toNat (Prod.fst (Prod.snd (List.getD L (T24.NSt.i b) (Ty.dflt
      T24.oty)))) < List.length (T24.NSt.Hv b) ∧ ∀ (b_9 : Bool), True → br b_9 ((0 : Nat) + List.length (T24.NSt.Hv b) ≤ List.length (T24.NSt.Hv b) ∧ ((↑((0 : Nat) + List.length
      (List.take (List.length (T24.NSt.Hv b)) (List.drop (0 : Nat) (T24.NSt.Hv b)))) : Int) ≤ (9223372036854775807 : Int) ∧ ((0 : Nat) + List.length (List.take (List.length
      (T24.NSt.Hv b)) (List.drop (0 : Nat) (T24.NSt.Hv b)))) * Sx.bytesOf Go.Proofs.Try.prog (37 : Nat) ≤ (140737488355328 : Nat)) ∧ (1 : Nat) ≤ (1 : Nat) ∧ Sx.br (decide
      (List.length (List.take (List.length (T24.NSt.Hv b)) (List.drop (0 : Nat) (T24.NSt.Hv b))) + (1 : Nat) ≤ List.length (List.take (List.length (T24.NSt.Hv b)) (List.drop (0
      : Nat) (T24.NSt.Hv b))))) ((∃ (x : T24.NSt), (T24.vq L to (List.length (List.take (List.length (T24.NSt.Hv b)) (List.drop (0 : Nat) (T24.NSt.Hv b))) + (1 : Nat))
      (↑(T24.NSt.sent b) : Int) (↑(T24.NSt.i b) : Int) [SV.lit (Value.bool (true == decide ((↑(List.length (T24.NSt.Hv b)) : Int) < (200 : Int))))], T24.hpq (T24.NSt.m b + (1 :
      Nat)) (↑(T24.NSt.sent b) : Int) b_6 (List.take (List.length (List.take (List.length (T24.NSt.Hv b)) (List.drop (0 : Nat) (T24.NSt.Hv b)))) (List.take (List.length
      (T24.NSt.Hv b)) (List.drop (0 : Nat) (T24.NSt.Hv b))) ++ [(Prod.fst (List.getD (T24.NSt.Hv b) ((0 : Nat) + Int.toNat (Prod.fst (Prod.snd (List.getD L (T24.NSt.i b)
      (Ty.dflt T24.oty))))) (Ty.dflt T24.pty)), Prod.fst (Prod.snd (List.getD (T24.NSt.Hv b) ((0 : Nat) + Int.toNat (Prod.fst (Prod.snd (List.getD L (T24.NSt.i b) (Ty.dflt
      T24.oty))))) (Ty.dflt T24.pty))), Prod.snd (Prod.snd (List.getD (T24.NSt.Hv b) ((0 : Nat) + Int.toNat (Prod.fst (Prod.snd (List.getD L (T24.NSt.i b) (Ty.dflt T24.oty)))))
      (Ty.dflt T24.pty))))] ++ List.drop (List.length (List.take (List.length (T24.NSt.Hv b)) (List.drop (0 : Nat) (T24.NSt.Hv b))) + (1 : Nat)) (List.take (List.length
      (T24.NSt.Hv b)) (List.drop (0 : Nat) (T24.NSt.Hv b)))) (List.length (T24.NSt.LL b)) (List.length (T24.NSt.LL b)) (T24.NSt.LL b) (T24.NSt.LL b) ([] : List Sx.SO)) = (T24.vq
      L to (List.length (T24.NSt.Hv x)) (↑(T24.NSt.sent x) : Int) (↑(T24.NSt.i b) : Int) [SV.lit (Value.bool true)], T24.hpq (T24.NSt.m x) (↑(T24.NSt.sent x) : Int) (T24.NSt.R
      x) (T24.NSt.Hv x) (List.length (T24.NSt.LL x)) (List.length (T24.NSt.LL x)) (T24.NSt.LL x) (T24.NSt.LL x) ([] : List Sx.SO)) ∧ ((↑(T24.NSt.i x) : Int) = (↑(T24.NSt.i b) :
      Int) ∧ T24.NSt.LL x = T24.NSt.LL b) ∧ T24.RowOf (T24.NSt.m x) (T24.NSt.Hv x) (T24.NSt.R x) ∧ (↑(T24.NSt.sent x) : Int) ≤ (100 : Int) * ((↑(T24.NSt.i b) : Int) + (1 :
      Int))) ∧ True) (List.length (List.take (List.length (T24.NSt.Hv b)) (List.drop (0 : Nat) (T24.NSt.Hv b))) ≤ List.length (List.take (List.length (T24.NSt.Hv b)) (List.drop
      (0 : Nat) (T24.NSt.Hv b))) ∧ ((↑(List.length (List.take (List.length (T24.NSt.Hv b)) (List.drop (0 : Nat) (T24.NSt.Hv b))) + (1 : Nat)) : Int) ≤ (9223372036854775807 :
      Int) ∧ (List.length (List.take (List.length (T24.NSt.Hv b)) (List.drop (0 : Nat) (T24.NSt.Hv b))) + (1 : Nat)) * Sx.bytesOf Go.Proofs.Try.prog (37 : Nat) ≤
      (140737488355328 : Nat)) ∧ (∃ (x : T24.NSt), (T24.vq L to (List.length (List.take (List.length (T24.NSt.Hv b)) (List.drop (0 : Nat) (T24.NSt.Hv b))) + (1 : Nat))
      (↑(T24.NSt.sent b) : Int) (↑(T24.NSt.i b) : Int) [SV.lit (Value.bool (true == decide ((↑(List.length (T24.NSt.Hv b)) : Int) < (200 : Int))))], T24.hpq (T24.NSt.m b + (1 :
      Nat)) (↑(T24.NSt.sent b) : Int) b_6 (List.take (List.length (List.take (List.length (T24.NSt.Hv b)) (List.drop (0 : Nat) (T24.NSt.Hv b)))) (List.take (List.length
      (T24.NSt.Hv b)) (List.drop (0 : Nat) (T24.NSt.Hv b))) ++ [(Prod.fst (List.getD (T24.NSt.Hv b) ((0 : Nat) + Int.toNat (Prod.fst (Prod.snd (List.getD L (T24.NSt.i b)
      (Ty.dflt T24.oty))))) (Ty.dflt T24.pty)), Prod.fst (Prod.snd (List.getD (T24.NSt.Hv b) ((0 : Nat) + Int.toNat (Prod.fst (Prod.snd (List.getD L (T24.NSt.i b) (Ty.dflt
      T24.oty))))) (Ty.dflt T24.pty))), Prod.snd (Prod.snd (List.getD (T24.NSt.Hv b) ((0 : Nat) + Int.toNat (Prod.fst (Prod.snd (List.getD L (T24.NSt.i b) (Ty.dflt T24.oty)))))
      (Ty.dflt T24.pty))))]) (List.length (T24.NSt.LL b)) (List.length (T24.NSt.LL b)) (T24.NSt.LL b) (T24.NSt.LL b) ([] : List Sx.SO)) = (T24.vq L to (List.length (T24.NSt.Hv
      x)) (↑(T24.NSt.sent x) : Int) (↑(T24.NSt.i b) : Int) [SV.lit (Value.bool true)], T24.hpq (T24.NSt.m x) (↑(T24.NSt.sent x) : Int) (T24.NSt.R x) (T24.NSt.Hv x) (List.length
      (T24.NSt.LL x)) (List.length (T24.NSt.LL x)) (T24.NSt.LL x) (T24.NSt.LL x) ([] : List Sx.SO)) ∧ ((↑(T24.NSt.i x) : Int) = (↑(T24.NSt.i b) : Int) ∧ T24.NSt.LL x =
      T24.NSt.LL b) ∧ T24.RowOf (T24.NSt.m x) (T24.NSt.Hv x) (T24.NSt.R x) ∧ (↑(T24.NSt.sent x) : Int) ≤ (100 : Int) * ((↑(T24.NSt.i b) : Int) + (1 : Int))) ∧ True)) ((0 : Nat)
      + List.length (T24.NSt.Hv b) ≤ List.length (T24.NSt.Hv b) ∧ ((↑((0 : Nat) + List.length (List.take (List.length (T24.NSt.Hv b)) (List.drop (0 : Nat) (T24.NSt.Hv b)))) :
      Int) ≤ (9223372036854775807 : Int) ∧ ((0 : Nat) + List.length (List.take (List.length (T24.NSt.Hv b)) (List.drop (0 : Nat) (T24.NSt.Hv b)))) * Sx.bytesOf
      Go.Proofs.Try.prog (37 : Nat) ≤ (140737488355328 : Nat)) ∧ (1 : Nat) ≤ (1 : Nat) ∧ Sx.br (decide (List.length (List.take (List.length (T24.NSt.Hv b)) (List.drop (0 : Nat)
      (T24.NSt.Hv b))) + (1 : Nat) ≤ List.length (List.take (List.length (T24.NSt.Hv b)) (List.drop (0 : Nat) (T24.NSt.Hv b))))) ((∃ (x : T24.NSt), (T24.vq L to (List.length
      (List.take (List.length (T24.NSt.Hv b)) (List.drop (0 : Nat) (T24.NSt.Hv b))) + (1 : Nat)) (↑(T24.NSt.sent b) : Int) (↑(T24.NSt.i b) : Int) [SV.lit (Value.bool (true ==
      decide ((↑(List.length (T24.NSt.Hv b)) : Int) < (200 : Int))))], T24.hpq (T24.NSt.m b + (1 : Nat)) (↑(T24.NSt.sent b) : Int) b_6 (List.take (List.length (List.take
      (List.length (T24.NSt.Hv b)) (List.drop (0 : Nat) (T24.NSt.Hv b)))) (List.take (List.length (T24.NSt.Hv b)) (List.drop (0 : Nat) (T24.NSt.Hv b))) ++ [(Prod.fst (List.getD
      (T24.NSt.Hv b) ((0 : Nat) + Int.toNat (Prod.fst (Prod.snd (List.getD L (T24.NSt.i b) (Ty.dflt T24.oty))))) (Ty.dflt T24.pty)), Prod.fst (Prod.snd (List.getD (T24.NSt.Hv b)
      ((0 : Nat) + Int.toNat (Prod.fst (Prod.snd (List.getD L (T24.NSt.i b) (Ty.dflt T24.oty))))) (Ty.dflt T24.pty))), Prod.snd (Prod.snd (List.getD (T24.NSt.Hv b) ((0 : Nat) +
      Int.toNat (Prod.fst (Prod.snd (List.getD L (T24.NSt.i b) (Ty.dflt T24.oty))))) (Ty.dflt T24.pty))))] ++ List.drop (List.length (List.take (List.length (T24.NSt.Hv b))
      (List.drop (0 : Nat) (T24.NSt.Hv b))) + (1 : Nat)) (List.take (List.length (T24.NSt.Hv b)) (List.drop (0 : Nat) (T24.NSt.Hv b)))) (List.length (T24.NSt.LL b)) (List.length
      (T24.NSt.LL b)) (T24.NSt.LL b) (T24.NSt.LL b) ([] : List Sx.SO)) = (T24.vq L to (List.length (T24.NSt.Hv x)) (↑(T24.NSt.sent x) : Int) (↑(T24.NSt.i b) : Int) [SV.lit
      (Value.bool true)], T24.hpq (T24.NSt.m x) (↑(T24.NSt.sent x) : Int) (T24.NSt.R x) (T24.NSt.Hv x) (List.length (T24.NSt.LL x)) (List.length (T24.NSt.LL x)) (T24.NSt.LL x)
      (T24.NSt.LL x) ([] : List Sx.SO)) ∧ ((↑(T24.NSt.i x) : Int) = (↑(T24.NSt.i b) : Int) ∧ T24.NSt.LL x = T24.NSt.LL b) ∧ T24.RowOf (T24.NSt.m x) (T24.NSt.Hv x) (T24.NSt.R x)
      ∧ (↑(T24.NSt.sent x) : Int) ≤ (100 : Int) * ((↑(T24.NSt.i b) : Int) + (1 : Int))) ∧ True) (List.length (List.take (List.length (T24.NSt.Hv b)) (List.drop (0 : Nat)
      (T24.NSt.Hv b))) ≤ List.length (List.take (List.length (T24.NSt.Hv b)) (List.drop (0 : Nat) (T24.NSt.Hv b))) ∧ ((↑(List.length (List.take (List.length (T24.NSt.Hv b))
      (List.drop (0 : Nat) (T24.NSt.Hv b))) + (1 : Nat)) : Int) ≤ (9223372036854775807 : Int) ∧ (List.length (List.take (List.length (T24.NSt.Hv b)) (List.drop (0 : Nat)
      (T24.NSt.Hv b))) + (1 : Nat)) * Sx.bytesOf Go.Proofs.Try.prog (37 : Nat) ≤ (140737488355328 : Nat)) ∧ (∃ (x : T24.NSt), (T24.vq L to (List.length (List.take (List.length
      (T24.NSt.Hv b)) (List.drop (0 : Nat) (T24.NSt.Hv b))) + (1 : Nat)) (↑(T24.NSt.sent b) : Int) (↑(T24.NSt.i b) : Int) [SV.lit (Value.bool (true == decide ((↑(List.length
      (T24.NSt.Hv b)) : Int) < (200 : Int))))], T24.hpq (T24.NSt.m b + (1 : Nat)) (↑(T24.NSt.sent b) : Int) b_6 (List.take (List.length (List.take (List.length (T24.NSt.Hv b))
      (List.drop (0 : Nat) (T24.NSt.Hv b)))) (List.take (List.length (T24.NSt.Hv b)) (List.drop (0 : Nat) (T24.NSt.Hv b))) ++ [(Prod.fst (List.getD (T24.NSt.Hv b) ((0 : Nat) +
      Int.toNat (Prod.fst (Prod.snd (List.getD L (T24.NSt.i b) (Ty.dflt T24.oty))))) (Ty.dflt T24.pty)), Prod.fst (Prod.snd (List.getD (T24.NSt.Hv b) ((0 : Nat) + Int.toNat
      (Prod.fst (Prod.snd (List.getD L (T24.NSt.i b) (Ty.dflt T24.oty))))) (Ty.dflt T24.pty))), Prod.snd (Prod.snd (List.getD (T24.NSt.Hv b) ((0 : Nat) + Int.toNat (Prod.fst
      (Prod.snd (List.getD L (T24.NSt.i b) (Ty.dflt T24.oty))))) (Ty.dflt T24.pty))))]) (List.length (T24.NSt.LL b)) (List.length (T24.NSt.LL b)) (T24.NSt.LL b) (T24.NSt.LL b)
      ([] : List Sx.SO)) = (T24.vq L to (List.length (T24.NSt.Hv x)) (↑(T24.NSt.sent x) : Int) (↑(T24.NSt.i b) : Int) [SV.lit (Value.bool true)], T24.hpq (T24.NSt.m x)
      (↑(T24.NSt.sent x) : Int) (T24.NSt.R x) (T24.NSt.Hv x) (List.length (T24.NSt.LL x)) (List.length (T24.NSt.LL x)) (T24.NSt.LL x) (T24.NSt.LL x) ([] : List Sx.SO)) ∧
      ((↑(T24.NSt.i x) : Int) = (↑(T24.NSt.i b) : Int) ∧ T24.NSt.LL x = T24.NSt.LL b) ∧ T24.RowOf (T24.NSt.m x) (T24.NSt.Hv x) (T24.NSt.R x) ∧ (↑(T24.NSt.sent x) : Int) ≤ (100 :
      Int) * ((↑(T24.NSt.i b) : Int) + (1 : Int))) ∧ True))))) ((∃ (x : T24.NSt), (T24.vq L to (List.length (T24.NSt.Hv b)) (↑(T24.NSt.sent b) : Int) (↑(T24.NSt.i b) : Int)
      [SV.lit (Value.bool (true == decide ((↑(List.length (T24.NSt.Hv b)) : Int) < (200 : Int))))], T24.hpq (T24.NSt.m b + (1 : Nat)) (↑(T24.NSt.sent b) : Int) b_6 (T24.NSt.Hv
      b) (List.length (T24.NSt.LL b)) (List.length (T24.NSt.LL b)) (T24.NSt.LL b) (T24.NSt.LL b) ([] : List Sx.SO)) = (T24.vq L to (List.length (T24.NSt.Hv x)) (↑(T24.NSt.sent
      x) : Int) (↑(T24.NSt.i b) : Int) [SV.lit (Value.bool true)], T24.hpq (T24.NSt.m x) (↑(T24.NSt.sent x) : Int) (T24.NSt.R x) (T24.NSt.Hv x) (List.length (T24.NSt.LL x))
      (List.length (T24.NSt.LL x)) (T24.NSt.LL x) (T24.NSt.LL x) ([] : List Sx.SO)) ∧ ((↑(T24.NSt.i x) : Int) = (↑(T24.NSt.i b) : Int) ∧ T24.NSt.LL x = T24.NSt.LL b) ∧ T24.RowOf
      (T24.NSt.m x) (T24.NSt.Hv x) (T24.NSt.R x) ∧ (↑(T24.NSt.sent x) : Int) ≤ (100 : Int) * ((↑(T24.NSt.i b) : Int) + (1 : Int))) ∧ True)) (br (decide ((↑(List.length
      (T24.NSt.Hv b)) : Int) < (200 : Int))) (∀ (b_6 : Bool), True → br b_6 ((0 : Nat) + List.length (T24.NSt.Hv b) ≤ List.length (T24.NSt.Hv b) ∧ ((↑((0 : Nat) + List.length
      (List.take (List.length (T24.NSt.Hv b)) (List.drop (0 : Nat) (T24.NSt.Hv b)))) : Int) ≤ (9223372036854775807 : Int) ∧ ((0 : Nat) + List.length (List.take (List.length
      (T24.NSt.Hv b)) (List.drop (0 : Nat) (T24.NSt.Hv b)))) * Sx.bytesOf Go.Proofs.Try.prog (37 : Nat) ≤ (140737488355328 : Nat)) ∧ ((0 : Int) ≤ Prod.fst (Prod.snd (List.getD L
      (T24.NSt.i b) (Ty.dflt T24.oty))) ∧ Prod.fst (Prod.snd (List.getD L (T24.NSt.i b) (Ty.dflt T24.oty))) < (↑(List.length (T24.NSt.Hv b)) : Int)) ∧ (0 : Nat) + Int.toNat
      (Prod.fst (Prod.snd (List.getD L (T24.NSt.i b) (Ty.dflt T24.oty)))) < List.length (T24.NSt.Hv b) ∧ (1 : Nat) ≤ (1 : Nat) ∧ Sx.br (decide (List.length (List.take
      (List.length (T24.NSt.Hv b)) (List.drop (0 : Nat) (T24.NSt.Hv b))) + (1 : Nat) ≤ List.length (List.take (List.length (T24.NSt.Hv b)) (List.drop (0 : Nat) (T24.NSt.Hv
      b))))) ((∃ (x : T24.NSt), (T24.vq L to (List.length (List.take (List.length (T24.NSt.Hv b)) (List.drop (0 : Nat) (T24.NSt.Hv b))) + (1 : Nat)) (↑(T24.NSt.sent b) : Int)
      (↑(T24.NSt.i b) : Int) [SV.lit (Value.bool (false == decide ((↑(List.length (T24.NSt.Hv b)) : Int) < (200 : Int))))], T24.hpq (T24.NSt.m b) (↑(T24.NSt.sent b) : Int)
      (T24.NSt.R b) (List.take (List.length (List.take (List.length (T24.NSt.Hv b)) (List.drop (0 : Nat) (T24.NSt.Hv b)))) (List.take (List.length (T24.NSt.Hv b)) (List.drop (0
      : Nat) (T24.NSt.Hv b))) ++ [(Prod.fst (List.getD (T24.NSt.Hv b) ((0 : Nat) + Int.toNat (Prod.fst (Prod.snd (List.getD L (T24.NSt.i b) (Ty.dflt T24.oty))))) (Ty.dflt
      T24.pty)), Prod.fst (Prod.snd (List.getD (T24.NSt.Hv b) ((0 : Nat) + Int.toNat (Prod.fst (Prod.snd (List.getD L (T24.NSt.i b) (Ty.dflt T24.oty))))) (Ty.dflt T24.pty))),
      Prod.snd (Prod.snd (List.getD (T24.NSt.Hv b) ((0 : Nat) + Int.toNat (Prod.fst (Prod.snd (List.getD L (T24.NSt.i b) (Ty.dflt T24.oty))))) (Ty.dflt T24.pty))))] ++ List.drop
      (List.length (List.take (List.length (T24.NSt.Hv b)) (List.drop (0 : Nat) (T24.NSt.Hv b))) + (1 : Nat)) (List.take (List.length (T24.NSt.Hv b)) (List.drop (0 : Nat)
      (T24.NSt.Hv b)))) (List.length (T24.NSt.LL b)) (List.length (T24.NSt.LL b)) (T24.NSt.LL b) (T24.NSt.LL b) ([] : List Sx.SO)) = (T24.vq L to (List.length (T24.NSt.Hv x))
      (↑(T24.NSt.sent x) : Int) (↑(T24.NSt.i b) : Int) [SV.lit (Value.bool true)], T24.hpq (T24.NSt.m x) (↑(T24.NSt.sent x) : Int) (T24.NSt.R x) (T24.NSt.Hv x) (List.length
      (T24.NSt.LL x)) (List.length (T24.NSt.LL x)) (T24.NSt.LL x) (T24.NSt.LL x) ([] : List Sx.SO)) ∧ ((↑(T24.NSt.i x) : Int) = (↑(T24.NSt.i b) : Int) ∧ T24.NSt.LL x =
      T24.NSt.LL b) ∧ T24.RowOf (T24.NSt.m x) (T24.NSt.Hv x) (T24.NSt.R x) ∧ (↑(T24.NSt.sent x) : Int) ≤ (100 : Int) * ((↑(T24.NSt.i b) : Int) + (1 : Int))) ∧ True) (List.length
      (List.take (List.length (T24.NSt.Hv b)) (List.drop (0 : Nat) (T24.NSt.Hv b))) ≤ List.length (List.take (List.length (T24.NSt.Hv b)) (List.drop (0 : Nat) (T24.NSt.Hv b))) ∧
      ((↑(List.length (List.take (List.length (T24.NSt.Hv b)) (List.drop (0 : Nat) (T24.NSt.Hv b))) + (1 : Nat)) : Int) ≤ (9223372036854775807 : Int) ∧ (List.length (List.take
      (List.length (T24.NSt.Hv b)) (List.drop (0 : Nat) (T24.NSt.Hv b))) + (1 : Nat)) * Sx.bytesOf Go.Proofs.Try.prog (37 : Nat) ≤ (140737488355328 : Nat)) ∧ (∃ (x : T24.NSt),
      (T24.vq L to (List.length (List.take (List.length (T24.NSt.Hv b)) (List.drop (0 : Nat) (T24.NSt.Hv b))) + (1 : Nat)) (↑(T24.NSt.sent b) : Int) (↑(T24.NSt.i b) : Int)
      [SV.lit (Value.bool (false == decide ((↑(List.length (T24.NSt.Hv b)) : Int) < (200 : Int))))], T24.hpq (T24.NSt.m b) (↑(T24.NSt.sent b) : Int) (T24.NSt.R b) (List.take
      (List.length (List.take (List.length (T24.NSt.Hv b)) (List.drop (0 : Nat) (T24.NSt.Hv b)))) (List.take (List.length (T24.NSt.Hv b)) (List.drop (0 : Nat) (T24.NSt.Hv b)))
      ++ [(Prod.fst (List.getD (T24.NSt.Hv b) ((0 : Nat) + Int.toNat (Prod.fst (Prod.snd (List.getD L (T24.NSt.i b) (Ty.dflt T24.oty))))) (Ty.dflt T24.pty)), Prod.fst (Prod.snd
      (List.getD (T24.NSt.Hv b) ((0 : Nat) + Int.toNat (Prod.fst (Prod.snd (List.getD L (T24.NSt.i b) (Ty.dflt T24.oty))))) (Ty.dflt T24.pty))), Prod.snd (Prod.snd (List.getD
      (T24.NSt.Hv b) ((0 : Nat) + Int.toNat (Prod.fst (Prod.snd (List.getD L (T24.NSt.i b) (Ty.dflt T24.oty))))) (Ty.dflt T24.pty))))]) (List.length (T24.NSt.LL b)) (List.length
      (T24.NSt.LL b)) (T24.NSt.LL b) (T24.NSt.LL b) ([] : List Sx.SO)) = (T24.vq L to (List.length (T24.NSt.Hv x)) (↑(T24.NSt.sent x) : Int) (↑(T24.NSt.i b) : Int) [SV.lit
      (Value.bool true)], T24.hpq (T24.NSt.m x) (↑(T24.NSt.sent x) : Int) (T24.NSt.R x) (T24.NSt.Hv x) (List.length (T24.NSt.LL x)) (List.length (T24.NSt.LL x)) (T24.NSt.LL x)
      (T24.NSt.LL x) ([] : List Sx.SO)) ∧ ((↑(T24.NSt.i x) : Int) = (↑(T24.NSt.i b) : Int) ∧ T24.NSt.LL x = T24.NSt.LL b) ∧ T24.RowOf (T24.NSt.m x) (T24.NSt.Hv x) (T24.NSt.R x)
      ∧ (↑(T24.NSt.sent x) : Int) ≤ (100 : Int) * ((↑(T24.NSt.i b) : Int) + (1 : Int))) ∧ True)) (((0 : Int) ≤ Prod.fst (Prod.snd (List.getD L (T24.NSt.i b) (Ty.dflt T24.oty)))
      ∧ Prod.fst (Prod.snd (List.getD L (T24.NSt.i b) (Ty.dflt T24.oty))) < (↑(List.length (T24.NSt.Hv b)) : Int)) ∧ ∀ (b_7 : Bool), True → br b_7 ((0 : Nat) + List.length
      (T24.NSt.Hv b) ≤ List.length (T24.NSt.Hv b) ∧ ((↑((0 : Nat) + List.length (List.take (List.length (T24.NSt.Hv b)) (List.drop (0 : Nat) (T24.NSt.Hv b)))) : Int) ≤
      (9223372036854775807 : Int) ∧ ((0 : Nat) + List.length (List.take (List.length (T24.NSt.Hv b)) (List.drop (0 : Nat) (T24.NSt.Hv b)))) * Sx.bytesOf Go.Proofs.Try.prog (37 :
      Nat) ≤ (140737488355328 : Nat)) ∧ (0 : Nat) + Int.toNat (Prod.fst (Prod.snd (List.getD L (T24.NSt.i b) (Ty.dflt T24.oty)))) < List.length (T24.NSt.Hv b) ∧ (1 : Nat) ≤ (1 :
      Nat) ∧ Sx.br (decide (List.length (List.take (List.length (T24.NSt.Hv b)) (List.drop (0 : Nat) (T24.NSt.Hv b))) + (1 : Nat) ≤ List.length (List.take (List.length
      (T24.NSt.Hv b)) (List.drop (0 : Nat) (T24.NSt.Hv b))))) ((∃ (x : T24.NSt), (T24.vq L to (List.length (List.take (List.length (T24.NSt.Hv b)) (List.drop (0 : Nat)
      (T24.NSt.Hv b))) + (1 : Nat)) (↑(T24.NSt.sent b) : Int) (↑(T24.NSt.i b) : Int) [SV.lit (Value.bool (false == decide ((↑(List.length (T24.NSt.Hv b)) : Int) < (200 :
      Int))))], T24.hpq (T24.NSt.m b) (↑(T24.NSt.sent b) : Int) (T24.NSt.R b) (List.take (List.length (List.take (List.length (T24.NSt.Hv b)) (List.drop (0 : Nat) (T24.NSt.Hv
      b)))) (List.take (List.length (T24.NSt.Hv b)) (List.drop (0 : Nat) (T24.NSt.Hv b))) ++ [(Prod.fst (List.getD (T24.NSt.Hv b) ((0 : Nat) + Int.toNat (Prod.fst (Prod.snd
      (List.getD L (T24.NSt.i b) (Ty.dflt T24.oty))))) (Ty.dflt T24.pty)), Prod.fst (Prod.snd (List.getD (T24.NSt.Hv b) ((0 : Nat) + Int.toNat (Prod.fst (Prod.snd (List.getD L
      (T24.NSt.i b) (Ty.dflt T24.oty))))) (Ty.dflt T24.pty))), Prod.snd (Prod.snd (List.getD (T24.NSt.Hv b) ((0 : Nat) + Int.toNat (Prod.fst (Prod.snd (List.getD L (T24.NSt.i b)
      (Ty.dflt T24.oty))))) (Ty.dflt T24.pty))))] ++ List.drop (List.length (List.take (List.length (T24.NSt.Hv b)) (List.drop (0 : Nat) (T24.NSt.Hv b))) + (1 : Nat)) (List.take
      (List.length (T24.NSt.Hv b)) (List.drop (0 : Nat) (T24.NSt.Hv b)))) (List.length (T24.NSt.LL b)) (List.length (T24.NSt.LL b)) (T24.NSt.LL b) (T24.NSt.LL b) ([] : List
      Sx.SO)) = (T24.vq L to (List.length (T24.NSt.Hv x)) (↑(T24.NSt.sent x) : Int) (↑(T24.NSt.i b) : Int) [SV.lit (Value.bool true)], T24.hpq (T24.NSt.m x) (↑(T24.NSt.sent x) :
      Int) (T24.NSt.R x) (T24.NSt.Hv x) (List.length (T24.NSt.LL x)) (List.length (T24.NSt.LL x)) (T24.NSt.LL x) (T24.NSt.LL x) ([] : List Sx.SO)) ∧ ((↑(T24.NSt.i x) : Int) =
      (↑(T24.NSt.i b) : Int) ∧ T24.NSt.LL x = T24.NSt.LL b) ∧ T24.RowOf (T24.NSt.m x) (T24.NSt.Hv x) (T24.NSt.R x) ∧ (↑(T24.NSt.sent x) : Int) ≤ (100 : Int) * ((↑(T24.NSt.i b) :
      Int) + (1 : Int))) ∧ True) (List.length (List.take (List.length (T24.NSt.Hv b)) (List.drop (0 : Nat) (T24.NSt.Hv b))) ≤ List.length (List.take (List.length (T24.NSt.Hv b))
      (List.drop (0 : Nat) (T24.NSt.Hv b))) ∧ ((↑(List.length (List.take (List.length (T24.NSt.Hv b)) (List.drop (0 : Nat) (T24.NSt.Hv b))) + (1 : Nat)) : Int) ≤
      (9223372036854775807 : Int) ∧ (List.length (List.take (List.length (T24.NSt.Hv b)) (List.drop (0 : Nat) (T24.NSt.Hv b))) + (1 : Nat)) * Sx.bytesOf Go.Proofs.Try.prog (37 :
      Nat) ≤ (140737488355328 : Nat)) ∧ (∃ (x : T24.NSt), (T24.vq L to (List.length (List.take (List.length (T24.NSt.Hv b)) (List.drop (0 : Nat) (T24.NSt.Hv b))) + (1 : Nat))
      (↑(T24.NSt.sent b) : Int) (↑(T24.NSt.i b) : Int) [SV.lit (Value.bool (false == decide ((↑(List.length (T24.NSt.Hv b)) : Int) < (200 : Int))))], T24.hpq (T24.NSt.m b)
      (↑(T24.NSt.sent b) : Int) (T24.NSt.R b) (List.take (List.length (List.take (List.length (T24.NSt.Hv b)) (List.drop (0 : Nat) (T24.NSt.Hv b)))) (List.take (List.length
      (T24.NSt.Hv b)) (List.drop (0 : Nat) (T24.NSt.Hv b))) ++ [(Prod.fst (List.getD (T24.NSt.Hv b) ((0 : Nat) + Int.toNat (Prod.fst (Prod.snd (List.getD L (T24.NSt.i b)
      (Ty.dflt T24.oty))))) (Ty.dflt T24.pty)), Prod.fst (Prod.snd (List.getD (T24.NSt.Hv b) ((0 : Nat) + Int.toNat (Prod.fst (Prod.snd (List.getD L (T24.NSt.i b) (Ty.dflt
      T24.oty))))) (Ty.dflt T24.pty))), Prod.snd (Prod.snd (List.getD (T24.NSt.Hv b) ((0 : Nat) + Int.toNat (Prod.fst (Prod.snd (List.getD L (T24.NSt.i b) (Ty.dflt T24.oty)))))
      (Ty.dflt T24.pty))))]) (List.length (T24.NSt.LL b)) (List.length (T24.NSt.LL b)) (T24.NSt.LL b) (T24.NSt.LL b) ([] : List Sx.SO)) = (T24.vq L to (List.length (T24.NSt.Hv
      x)) (↑(T24.NSt.sent x) : Int) (↑(T24.NSt.i b) : Int) [SV.lit (Value.bool true)], T24.hpq (T24.NSt.m x) (↑(T24.NSt.sent x) : Int) (T24.NSt.R x) (T24.NSt.Hv x) (List.length
      (T24.NSt.LL x)) (List.length (T24.NSt.LL x)) (T24.NSt.LL x) (T24.NSt.LL x) ([] : List Sx.SO)) ∧ ((↑(T24.NSt.i x) : Int) = (↑(T24.NSt.i b) : Int) ∧ T24.NSt.LL x =
      T24.NSt.LL b) ∧ T24.RowOf (T24.NSt.m x) (T24.NSt.Hv x) (T24.NSt.R x) ∧ (↑(T24.NSt.sent x) : Int) ≤ (100 : Int) * ((↑(T24.NSt.i b) : Int) + (1 : Int))) ∧ True)) ((0 : Nat)
      + Int.toNat (Prod.fst (Prod.snd (List.getD L (T24.NSt.i b) (Ty.dflt T24.oty)))) < List.length (T24.NSt.Hv b) ∧ ∀ (b_8 : Bool), True → br b_8 ((0 : Nat) + List.length
      (T24.NSt.Hv b) ≤ List.length (T24.NSt.Hv b) ∧ ((↑((0 : Nat) + List.length (List.take (List.length (T24.NSt.Hv b)) (List.drop (0 : Nat) (T24.NSt.Hv b)))) : Int) ≤
      (9223372036854775807 : Int) ∧ ((0 : Nat) + List.length (List.take (List.length (T24.NSt.Hv b)) (List.drop (0 : Nat) (T24.NSt.Hv b)))) * Sx.bytesOf Go.Proofs.Try.prog (37 :
      Nat) ≤ (140737488355328 : Nat)) ∧ (1 : Nat) ≤ (1 : Nat) ∧ Sx.br (decide (List.length (List.take (List.length (T24.NSt.Hv b)) (List.drop (0 : Nat) (T24.NSt.Hv b))) + (1 :
      Nat) ≤ List.length (List.take (List.length (T24.NSt.Hv b)) (List.drop (0 : Nat) (T24.NSt.Hv b))))) ((∃ (x : T24.NSt), (T24.vq L to (List.length (List.take (List.length
      (T24.NSt.Hv b)) (List.drop (0 : Nat) (T24.NSt.Hv b))) + (1 : Nat)) (↑(T24.NSt.sent b) : Int) (↑(T24.NSt.i b) : Int) [SV.lit (Value.bool (false == decide ((↑(List.length
      (T24.NSt.Hv b)) : Int) < (200 : Int))))], T24.hpq (T24.NSt.m b) (↑(T24.NSt.sent b) : Int) (T24.NSt.R b) (List.take (List.length (List.take (List.length (T24.NSt.Hv b))
      (List.drop (0 : Nat) (T24.NSt.Hv b)))) (List.take (List.length (T24.NSt.Hv b)) (List.drop (0 : Nat) (T24.NSt.Hv b))) ++ [(Prod.fst (List.getD (T24.NSt.Hv b) ((0 : Nat) +
      Int.toNat (Prod.fst (Prod.snd (List.getD L (T24.NSt.i b) (Ty.dflt T24.oty))))) (Ty.dflt T24.pty)), Prod.fst (Prod.snd (List.getD (T24.NSt.Hv b) ((0 : Nat) + Int.toNat
      (Prod.fst (Prod.snd (List.getD L (T24.NSt.i b) (Ty.dflt T24.oty))))) (Ty.dflt T24.pty))), Prod.snd (Prod.snd (List.getD (T24.NSt.Hv b) ((0 : Nat) + Int.toNat (Prod.fst
      (Prod.snd (List.getD L (T24.NSt.i b) (Ty.dflt T24.oty))))) (Ty.dflt T24.pty))))] ++ List.drop (List.length (List.take (List.length (T24.NSt.Hv b)) (List.drop (0 : Nat)
      (T24.NSt.Hv b))) + (1 : Nat)) (List.take (List.length (T24.NSt.Hv b)) (List.drop (0 : Nat) (T24.NSt.Hv b)))) (List.length (T24.NSt.LL b)) (List.length (T24.NSt.LL b))
      (T24.NSt.LL b) (T24.NSt.LL b) ([] : List Sx.SO)) = (T24.vq L to (List.length (T24.NSt.Hv x)) (↑(T24.NSt.sent x) : Int) (↑(T24.NSt.i b) : Int) [SV.lit (Value.bool true)],
      T24.hpq (T24.NSt.m x) (↑(T24.NSt.sent x) : Int) (T24.NSt.R x) (T24.NSt.Hv x) (List.length (T24.NSt.LL x)) (List.length (T24.NSt.LL x)) (T24.NSt.LL x) (T24.NSt.LL x) ([] :
      List Sx.SO)) ∧ ((↑(T24.NSt.i x) : Int) = (↑(T24.NSt.i b) : Int) ∧ T24.NSt.LL x = T24.NSt.LL b) ∧ T24.RowOf (T24.NSt.m x) (T24.NSt.Hv x) (T24.NSt.R x) ∧ (↑(T24.NSt.sent x)
      : Int) ≤ (100 : Int) * ((↑(T24.NSt.i b) : Int) + (1 : Int))) ∧ True) (List.length (List.take (List.length (T24.NSt.Hv b)) (List.drop (0 : Nat) (T24.NSt.Hv b))) ≤
      List.length (List.take (List.length (T24.NSt.Hv b)) (List.drop (0 : Nat) (T24.NSt.Hv b))) ∧ ((↑(List.length (List.take (List.length (T24.NSt.Hv b)) (List.drop (0 : Nat)
      (T24.NSt.Hv b))) + (1 : Nat)) : Int) ≤ (9223372036854775807 : Int) ∧ (List.length (List.take (List.length (T24.NSt.Hv b)) (List.drop (0 : Nat) (T24.NSt.Hv b))) + (1 :
      Nat)) * Sx.bytesOf Go.Proofs.Try.prog (37 : Nat) ≤ (140737488355328 : Nat)) ∧ (∃ (x : T24.NSt), (T24.vq L to (List.length (List.take (List.length (T24.NSt.Hv b))
      (List.drop (0 : Nat) (T24.NSt.Hv b))) + (1 : Nat)) (↑(T24.NSt.sent b) : Int) (↑(T24.NSt.i b) : Int) [SV.lit (Value.bool (false == decide ((↑(List.length (T24.NSt.Hv b)) :
      Int) < (200 : Int))))], T24.hpq (T24.NSt.m b) (↑(T24.NSt.sent b) : Int) (T24.NSt.R b) (List.take (List.length (List.take (List.length (T24.NSt.Hv b)) (List.drop (0 : Nat)
      (T24.NSt.Hv b)))) (List.take (List.length (T24.NSt.Hv b)) (List.drop (0 : Nat) (T24.NSt.Hv b))) ++ [(Prod.fst (List.getD (T24.NSt.Hv b) ((0 : Nat) + Int.toNat (Prod.fst
      (Prod.snd (List.getD L (T24.NSt.i b) (Ty.dflt T24.oty))))) (Ty.dflt T24.pty)), Prod.fst (Prod.snd (List.getD (T24.NSt.Hv b) ((0 : Nat) + Int.toNat (Prod.fst (Prod.snd
      (List.getD L (T24.NSt.i b) (Ty.dflt T24.oty))))) (Ty.dflt T24.pty))), Prod.snd (Prod.snd (List.getD (T24.NSt.Hv b) ((0 : Nat) + Int.toNat (Prod.fst (Prod.snd (List.getD L
      (T24.NSt.i b) (Ty.dflt T24.oty))))) (Ty.dflt T24.pty))))]) (List.length (T24.NSt.LL b)) (List.length (T24.NSt.LL b)) (T24.NSt.LL b) (T24.NSt.LL b) ([] : List Sx.SO)) =
      (T24.vq L to (List.length (T24.NSt.Hv x)) (↑(T24.NSt.sent x) : Int) (↑(T24.NSt.i b) : Int) [SV.lit (Value.bool true)], T24.hpq (T24.NSt.m x) (↑(T24.NSt.sent x) : Int)
      (T24.NSt.R x) (T24.NSt.Hv x) (List.length (T24.NSt.LL x)) (List.length (T24.NSt.LL x)) (T24.NSt.LL x) (T24.NSt.LL x) ([] : List Sx.SO)) ∧ ((↑(T24.NSt.i x) : Int) =
      (↑(T24.NSt.i b) : Int) ∧ T24.NSt.LL x = T24.NSt.LL b) ∧ T24.RowOf (T24.NSt.m x) (T24.NSt.Hv x) (T24.NSt.R x) ∧ (↑(T24.NSt.sent x) : Int) ≤ (100 : Int) * ((↑(T24.NSt.i b) :
      Int) + (1 : Int))) ∧ True)) ((0 : Nat) + List.length (T24.NSt.Hv b) ≤ List.length (T24.NSt.Hv b) ∧ ((↑((0 : Nat) + List.length (List.take (List.length (T24.NSt.Hv b))
      (List.drop (0 : Nat) (T24.NSt.Hv b)))) : Int) ≤ (9223372036854775807 : Int) ∧ ((0 : Nat) + List.length (List.take (List.length (T24.NSt.Hv b)) (List.drop (0 : Nat)
      (T24.NSt.Hv b)))) * Sx.bytesOf Go.Proofs.Try.prog (37 : Nat) ≤ (140737488355328 : Nat)) ∧ (1 : Nat) ≤ (1 : Nat) ∧ Sx.br (decide (List.length (List.take (List.length
      (T24.NSt.Hv b)) (List.drop (0 : Nat) (T24.NSt.Hv b))) + (1 : Nat) ≤ List.length (List.take (List.length (T24.NSt.Hv b)) (List.drop (0 : Nat) (T24.NSt.Hv b))))) ((∃ (x :
      T24.NSt), (T24.vq L to (List.length (List.take (List.length (T24.NSt.Hv b)) (List.drop (0 : Nat) (T24.NSt.Hv b))) + (1 : Nat)) (↑(T24.NSt.sent b) : Int) (↑(T24.NSt.i b) :
      Int) [SV.lit (Value.bool (false == decide ((↑(List.length (T24.NSt.Hv b)) : Int) < (200 : Int))))], T24.hpq (T24.NSt.m b) (↑(T24.NSt.sent b) : Int) (T24.NSt.R b)
      (List.take (List.length (List.take (List.length (T24.NSt.Hv b)) (List.drop (0 : Nat) (T24.NSt.Hv b)))) (List.take (List.length (T24.NSt.Hv b)) (List.drop (0 : Nat)
      (T24.NSt.Hv b))) ++ [(Prod.fst (List.getD (T24.NSt.Hv b) ((0 : Nat) + Int.toNat (Prod.fst (Prod.snd (List.getD L (T24.NSt.i b) (Ty.dflt T24.oty))))) (Ty.dflt T24.pty)),
      Prod.fst (Prod.snd (List.getD (T24.NSt.Hv b) ((0 : Nat) + Int.toNat (Prod.fst (Prod.snd (List.getD L (T24.NSt.i b) (Ty.dflt T24.oty))))) (Ty.dflt T24.pty))), Prod.snd
      (Prod.snd (List.getD (T24.NSt.Hv b) ((0 : Nat) + Int.toNat (Prod.fst (Prod.snd (List.getD L (T24.NSt.i b) (Ty.dflt T24.oty))))) (Ty.dflt T24.pty))))] ++ List.drop
      (List.length (List.take (List.length (T24.NSt.Hv b)) (List.drop (0 : Nat) (T24.NSt.Hv b))) + (1 : Nat)) (List.take (List.length (T24.NSt.Hv b)) (List.drop (0 : Nat)
      (T24.NSt.Hv b)))) (List.length (T24.NSt.LL b)) (List.length (T24.NSt.LL b)) (T24.NSt.LL b) (T24.NSt.LL b) ([] : List Sx.SO)) = (T24.vq L to (List.length (T24.NSt.Hv x))
      (↑(T24.NSt.sent x) : Int) (↑(T24.NSt.i b) : Int) [SV.lit (Value.bool true)], T24.hpq (T24.NSt.m x) (↑(T24.NSt.sent x) : Int) (T24.NSt.R x) (T24.NSt.Hv x) (List.length
      (T24.NSt.LL x)) (List.length (T24.NSt.LL x)) (T24.NSt.LL x) (T24.NSt.LL x) ([] : List Sx.SO)) ∧ ((↑(T24.NSt.i x) : Int) = (↑(T24.NSt.i b) : Int) ∧ T24.NSt.LL x =
      T24.NSt.LL b) ∧ T24.RowOf (T24.NSt.m x) (T24.NSt.Hv x) (T24.NSt.R x) ∧ (↑(T24.NSt.sent x) : Int) ≤ (100 : Int) * ((↑(T24.NSt.i b) : Int) + (1 : Int))) ∧ True) (List.length
      (List.take (List.length (T24.NSt.Hv b)) (List.drop (0 : Nat) (T24.NSt.Hv b))) ≤ List.length (List.take (List.length (T24.NSt.Hv b)) (List.drop (0 : Nat) (T24.NSt.Hv b))) ∧
      ((↑(List.length (List.take (List.length (T24.NSt.Hv b)) (List.drop (0 : Nat) (T24.NSt.Hv b))) + (1 : Nat)) : Int) ≤ (9223372036854775807 : Int) ∧ (List.length (List.take
      (List.length (T24.NSt.Hv b)) (List.drop (0 : Nat) (T24.NSt.Hv b))) + (1 : Nat)) * Sx.bytesOf Go.Proofs.Try.prog (37 : Nat) ≤ (140737488355328 : Nat)) ∧ (∃ (x : T24.NSt),
      (T24.vq L to (List.length (List.take (List.length (T24.NSt.Hv b)) (List.drop (0 : Nat) (T24.NSt.Hv b))) + (1 : Nat)) (↑(T24.NSt.sent b) : Int) (↑(T24.NSt.i b) : Int)
      [SV.lit (Value.bool (false == decide ((↑(List.length (T24.NSt.Hv b)) : Int) < (200 : Int))))], T24.hpq (T24.NSt.m b) (↑(T24.NSt.sent b) : Int) (T24.NSt.R b) (List.take
      (List.length (List.take (List.length (T24.NSt.Hv b)) (List.drop (0 : Nat) (T24.NSt.Hv b)))) (List.take (List.length (T24.NSt.Hv b)) (List.drop (0 : Nat) (T24.NSt.Hv b)))
      ++ [(Prod.fst (List.getD (T24.NSt.Hv b) ((0 : Nat) + Int.toNat (Prod.fst (Prod.snd (List.getD L (T24.NSt.i b) (Ty.dflt T24.oty))))) (Ty.dflt T24.pty)), Prod.fst (Prod.snd
      (List.getD (T24.NSt.Hv b) ((0 : Nat) + Int.toNat (Prod.fst (Prod.snd (List.getD L (T24.NSt.i b) (Ty.dflt T24.oty))))) (Ty.dflt T24.pty))), Prod.snd (Prod.snd (List.getD
      (T24.NSt.Hv b) ((0 : Nat) + Int.toNat (Prod.fst (Prod.snd (List.getD L (T24.NSt.i b) (Ty.dflt T24.oty))))) (Ty.dflt T24.pty))))]) (List.length (T24.NSt.LL b)) (List.length
      (T24.NSt.LL b)) (T24.NSt.LL b) (T24.NSt.LL b) ([] : List Sx.SO)) = (T24.vq L to (List.length (T24.NSt.Hv x)) (↑(T24.NSt.sent x) : Int) (↑(T24.NSt.i b) : Int) [SV.lit
      (Value.bool true)], T24.hpq (T24.NSt.m x) (↑(T24.NSt.sent x) : Int) (T24.NSt.R x) (T24.NSt.Hv x) (List.length (T24.NSt.LL x)) (List.length (T24.NSt.LL x)) (T24.NSt.LL x)
      (T24.NSt.LL x) ([] : List Sx.SO)) ∧ ((↑(T24.NSt.i x) : Int) = (↑(T24.NSt.i b) : Int) ∧ T24.NSt.LL x = T24.NSt.LL b) ∧ T24.RowOf (T24.NSt.m x) (T24.NSt.Hv x) (T24.NSt.R x)
      ∧ (↑(T24.NSt.sent x) : Int) ≤ (100 : Int) * ((↑(T24.NSt.i b) : Int) + (1 : Int))) ∧ True))))) ((∃ (x : T24.NSt), (T24.vq L to (List.length (T24.NSt.Hv b)) (↑(T24.NSt.sent
      b) : Int) (↑(T24.NSt.i b) : Int) [SV.lit (Value.bool (false == decide ((↑(List.length (T24.NSt.Hv b)) : Int) < (200 : Int))))], T24.hpq (T24.NSt.m b) (↑(T24.NSt.sent b) :
      Int) (T24.NSt.R b) (T24.NSt.Hv b) (List.length (T24.NSt.LL b)) (List.length (T24.NSt.LL b)) (T24.NSt.LL b) (T24.NSt.LL b) ([] : List Sx.SO)) = (T24.vq L to (List.length
      (T24.NSt.Hv x)) (↑(T24.NSt.sent x) : Int) (↑(T24.NSt.i b) : Int) [SV.lit (Value.bool true)], T24.hpq (T24.NSt.m x) (↑(T24.NSt.sent x) : Int) (T24.NSt.R x) (T24.NSt.Hv x)
      (List.length (T24.NSt.LL x)) (List.length (T24.NSt.LL x)) (T24.NSt.LL x) (T24.NSt.LL x) ([] : List Sx.SO)) ∧ ((↑(T24.NSt.i x) : Int) = (↑(T24.NSt.i b) : Int) ∧ T24.NSt.LL
      x = T24.NSt.LL b) ∧ T24.RowOf (T24.NSt.m x) (T24.NSt.Hv x) (T24.NSt.R x) ∧ (↑(T24.NSt.sent x) : Int) ≤ (100 : Int) * ((↑(T24.NSt.i b) : Int) + (1 : Int))) ∧ True)))
      ((T24.NSt.m b ≤ List.length (T24.NSt.R b) ∧ List.length (T24.NSt.R b) ≤ (200 : Nat)) ∧ Sx.br (decide ((0 : Int) ≤ Prod.fst (Prod.snd (List.getD L (T24.NSt.i b) (Ty.dflt
      T24.oty))) ∧ Prod.fst (Prod.snd (List.getD L (T24.NSt.i b) (Ty.dflt T24.oty))) < (↑(T24.NSt.m b) : Int) ∧ T24.NSt.m b < (200 : Nat))) (∀ (b_6 : List (Ty.den T24.pty)),
      T24.RowOf (T24.NSt.m b + (1 : Nat)) (List.take (T24.NSt.m b) (T24.NSt.R b) ++ [List.getD (T24.NSt.R b) (Int.toNat (Prod.fst (Prod.snd (List.getD L (T24.NSt.i b) (Ty.dflt
      T24.oty))))) (Ty.dflt T24.pty)]) b_6 → (∃ (x : T24.NSt), (T24.vq L to (List.length (T24.NSt.Hv b)) (↑(T24.NSt.sent b) : Int) (↑(T24.NSt.i b) : Int) [SV.lit (Value.bool
      false)], T24.hpq (T24.NSt.m b + (1 : Nat)) (↑(T24.NSt.sent b) : Int) b_6 (T24.NSt.Hv b) (List.length (T24.NSt.LL b)) (List.length (T24.NSt.LL b)) (T24.NSt.LL b)
      (T24.NSt.LL b) ([] : List Sx.SO)) = (T24.vq L to (List.length (T24.NSt.Hv x)) (↑(T24.NSt.sent x) : Int) (↑(T24.NSt.i b) : Int) [SV.lit (Value.bool true)], T24.hpq
      (T24.NSt.m x) (↑(T24.NSt.sent x) : Int) (T24.NSt.R x) (T24.NSt.Hv x) (List.length (T24.NSt.LL x)) (List.length (T24.NSt.LL x)) (T24.NSt.LL x) (T24.NSt.LL x) ([] : List
      Sx.SO)) ∧ ((↑(T24.NSt.i x) : Int) = (↑(T24.NSt.i b) : Int) ∧ T24.NSt.LL x = T24.NSt.LL b) ∧ T24.RowOf (T24.NSt.m x) (T24.NSt.Hv x) (T24.NSt.R x) ∧ (↑(T24.NSt.sent x) :
      Int) ≤ (100 : Int) * ((↑(T24.NSt.i b) : Int) + (1 : Int))) ∧ True) ((∃ (x : T24.NSt), (T24.vq L to (List.length (T24.NSt.Hv b)) (↑(T24.NSt.sent b) : Int) (↑(T24.NSt.i b) :
      Int) [SV.lit (Value.bool true)], T24.hpq (T24.NSt.m b) (↑(T24.NSt.sent b) : Int) (T24.NSt.R b) (T24.NSt.Hv b) (List.length (T24.NSt.LL b)) (List.length (T24.NSt.LL b))
      (T24.NSt.LL b) (T24.NSt.LL b) ([] : List Sx.SO)) = (T24.vq L to (List.length (T24.NSt.Hv x)) (↑(T24.NSt.sent x) : Int) (↑(T24.NSt.i b) : Int) [SV.lit (Value.bool true)],
      T24.hpq (T24.NSt.m x) (↑(T24.NSt.sent x) : Int) (T24.NSt.R x) (T24.NSt.Hv x) (List.length (T24.NSt.LL x)) (List.length (T24.NSt.LL x)) (T24.NSt.LL x) (T24.NSt.LL x) ([] :
      List Sx.SO)) ∧ ((↑(T24.NSt.i x) : Int) = (↑(T24.NSt.i b) : Int) ∧ T24.NSt.LL x = T24.NSt.LL b) ∧ T24.RowOf (T24.NSt.m x) (T24.NSt.Hv x) (T24.NSt.R x) ∧ (↑(T24.NSt.sent x)
      : Int) ≤ (100 : Int) * ((↑(T24.NSt.i b) : Int) + (1 : Int))) ∧ True)))))) (∀ (b_4 : T24.NSt), ((↑(T24.NSt.i b_4) : Int) = (↑(T24.NSt.i b) : Int) ∧ T24.NSt.LL b_4 =
      T24.NSt.LL b) ∧ T24.RowOf (T24.NSt.m b_4) (T24.NSt.Hv b_4) (T24.NSt.R b_4) ∧ (↑(T24.NSt.sent b_4) : Int) ≤ (100 : Int) * ((↑(T24.NSt.i b) : Int) + (1 : Int)) → (∃ (x :
      Nat), (T24.vq L to (List.length (T24.NSt.Hv b_4)) (↑(T24.NSt.sent b_4) : Int) (↑(T24.NSt.i b) : Int) [SV.lit (Value.bool true), SV.sl (6 : Nat) (1 : Nat) (0 : Nat) (0 :
      Nat), SV.lit (Value.int IntKind.i64 (0 : Int))], T24.hpq (T24.NSt.m b_4) (↑(T24.NSt.sent b_4) : Int) (T24.NSt.R b_4) (T24.NSt.Hv b_4) (List.length (T24.NSt.LL b_4))
      (List.length (T24.NSt.LL b_4)) (T24.NSt.LL b_4) (T24.NSt.LL b_4) [SO.row (3 : Nat) (Ty.int IntKind.i64) []]) = (T24.vq L to (List.length (T24.NSt.Hv b_4)) (↑(T24.NSt.sent
      b_4) : Int) (↑(T24.NSt.i b) : Int) [SV.lit (Value.bool true), SV.sl (6 : Nat) (1 : Nat) (0 : Nat) (List.length (T24.places to (T24.NSt.Hv b_4) x)), SV.lit (Value.int
      IntKind.i64 (↑x : Int))], T24.hpq (T24.NSt.m b_4) (↑(T24.NSt.sent b_4) : Int) (T24.NSt.R b_4) (T24.NSt.Hv b_4) (List.length (T24.NSt.LL b_4)) (List.length (T24.NSt.LL
      b_4)) (T24.NSt.LL b_4) (T24.NSt.LL b_4) [SO.row (3 : Nat) (Ty.int IntKind.i64) (T24.places to (T24.NSt.Hv b_4) x)]) ∧ x ≤ List.length (T24.NSt.Hv b_4)) ∧ ∀ (b_5 : Nat),
      b_5 ≤ List.length (T24.NSt.Hv b_4) → br (decide ((↑b_5 : Int) < (↑(List.length (T24.NSt.Hv b_4)) : Int))) (((0 : Int) ≤ (↑b_5 : Int) ∧ (↑b_5 : Int) < (↑(List.length
      (T24.NSt.Hv b_4)) : Int)) ∧ (0 : Nat) + b_5 < List.length (T24.NSt.Hv b_4) ∧ br (Prod.fst (Prod.snd (List.getD (T24.NSt.Hv b_4) ((0 : Nat) + b_5) (Ty.dflt T24.pty))) ==
      to) ((1 : Nat) ≤ (1 : Nat) ∧ Sx.br (decide (List.length (T24.places to (T24.NSt.Hv b_4) b_5) + (1 : Nat) ≤ List.length (T24.places to (T24.NSt.Hv b_4) b_5))) ((∃ (x' :
      Nat), (T24.vq L to (List.length (T24.NSt.Hv b_4)) (↑(T24.NSt.sent b_4) : Int) (↑(T24.NSt.i b) : Int) [SV.lit (Value.bool true), SV.sl (6 : Nat) (1 : Nat) (0 : Nat)
      (List.length (T24.places to (T24.NSt.Hv b_4) b_5) + (1 : Nat)), SV.lit (Value.int IntKind.i64 (IntKind.wrap IntKind.i64 ((↑b_5 : Int) + (1 : Int))))], T24.hpq (T24.NSt.m
      b_4) (↑(T24.NSt.sent b_4) : Int) (T24.NSt.R b_4) (T24.NSt.Hv b_4) (List.length (T24.NSt.LL b_4)) (List.length (T24.NSt.LL b_4)) (T24.NSt.LL b_4) (T24.NSt.LL b_4) [SO.row
      (3 : Nat) (Ty.int IntKind.i64) (List.take (List.length (T24.places to (T24.NSt.Hv b_4) b_5)) (T24.places to (T24.NSt.Hv b_4) b_5) ++ [(↑b_5 : Int)] ++ List.drop
      (List.length (T24.places to (T24.NSt.Hv b_4) b_5) + (1 : Nat)) (T24.places to (T24.NSt.Hv b_4) b_5))]) = (T24.vq L to (List.length (T24.NSt.Hv b_4)) (↑(T24.NSt.sent b_4) :
      Int) (↑(T24.NSt.i b) : Int) [SV.lit (Value.bool true), SV.sl (6 : Nat) (1 : Nat) (0 : Nat) (List.length (T24.places to (T24.NSt.Hv b_4) x')), SV.lit (Value.int IntKind.i64
      (↑x' : Int))], T24.hpq (T24.NSt.m b_4) (↑(T24.NSt.sent b_4) : Int) (T24.NSt.R b_4) (T24.NSt.Hv b_4) (List.length (T24.NSt.LL b_4)) (List.length (T24.NSt.LL b_4))
      (T24.NSt.LL b_4) (T24.NSt.LL b_4) [SO.row (3 : Nat) (Ty.int IntKind.i64) (T24.places to (T24.NSt.Hv b_4) x')]) ∧ x' ≤ List.length (T24.NSt.Hv b_4) ∧ List.length
      (T24.NSt.Hv b_4) - x' < List.length (T24.NSt.Hv b_4) - b_5) ∧ True) (List.length (T24.places to (T24.NSt.Hv b_4) b_5) ≤ List.length (T24.places to (T24.NSt.Hv b_4) b_5) ∧
      ((↑(List.length (T24.places to (T24.NSt.Hv b_4) b_5) + (1 : Nat)) : Int) ≤ (9223372036854775807 : Int) ∧ (List.length (T24.places to (T24.NSt.Hv b_4) b_5) + (1 : Nat)) *
      Sx.bytesOf Go.Proofs.Try.prog (3 : Nat) ≤ (140737488355328 : Nat)) ∧ (∃ (x' : Nat), (T24.vq L to (List.length (T24.NSt.Hv b_4)) (↑(T24.NSt.sent b_4) : Int) (↑(T24.NSt.i b)
      : Int) [SV.lit (Value.bool true), SV.sl (6 : Nat) (1 : Nat) (0 : Nat) (List.length (T24.places to (T24.NSt.Hv b_4) b_5) + (1 : Nat)), SV.lit (Value.int IntKind.i64
      (IntKind.wrap IntKind.i64 ((↑b_5 : Int) + (1 : Int))))], T24.hpq (T24.NSt.m b_4) (↑(T24.NSt.sent b_4) : Int) (T24.NSt.R b_4) (T24.NSt.Hv b_4) (List.length (T24.NSt.LL
      b_4)) (List.length (T24.NSt.LL b_4)) (T24.NSt.LL b_4) (T24.NSt.LL b_4) [SO.row (3 : Nat) (Ty.int IntKind.i64) (List.take (List.length (T24.places to (T24.NSt.Hv b_4) b_5))
      (T24.places to (T24.NSt.Hv b_4) b_5) ++ [(↑b_5 : Int)])]) = (T24.vq L to (List.length (T24.NSt.Hv b_4)) (↑(T24.NSt.sent b_4) : Int) (↑(T24.NSt.i b) : Int) [SV.lit
      (Value.bool true), SV.sl (6 : Nat) (1 : Nat) (0 : Nat) (List.length (T24.places to (T24.NSt.Hv b_4) x')), SV.lit (Value.int IntKind.i64 (↑x' : Int))], T24.hpq (T24.NSt.m
      b_4) (↑(T24.NSt.sent b_4) : Int) (T24.NSt.R b_4) (T24.NSt.Hv b_4) (List.length (T24.NSt.LL b_4)) (List.length (T24.NSt.LL b_4)) (T24.NSt.LL b_4) (T24.NSt.LL b_4) [SO.row
      (3 : Nat) (Ty.int IntKind.i64) (T24.places to (T24.NSt.Hv b_4) x')]) ∧ x' ≤ List.length (T24.NSt.Hv b_4) ∧ List.length (T24.NSt.Hv b_4) - x' < List.length (T24.NSt.Hv b_4)
      - b_5) ∧ True)) ((∃ (x' : Nat), (T24.vq L to (List.length (T24.NSt.Hv b_4)) (↑(T24.NSt.sent b_4) : Int) (↑(T24.NSt.i b) : Int) [SV.lit (Value.bool true), SV.sl (6 : Nat)
      (1 : Nat) (0 : Nat) (List.length (T24.places to (T24.NSt.Hv b_4) b_5)), SV.lit (Value.int IntKind.i64 (IntKind.wrap IntKind.i64 ((↑b_5 : Int) + (1 : Int))))], T24.hpq
      (T24.NSt.m b_4) (↑(T24.NSt.sent b_4) : Int) (T24.NSt.R b_4) (T24.NSt.Hv b_4) (List.length (T24.NSt.LL b_4)) (List.length (T24.NSt.LL b_4)) (T24.NSt.LL b_4) (T24.NSt.LL
      b_4) [SO.row (3 : Nat) (Ty.int IntKind.i64) (T24.places to (T24.NSt.Hv b_4) b_5)]) = (T24.vq L to (List.length (T24.NSt.Hv b_4)) (↑(T24.NSt.sent b_4) : Int) (↑(T24.NSt.i
      b) : Int) [SV.lit (Value.bool true), SV.sl (6 : Nat) (1 : Nat) (0 : Nat) (List.length (T24.places to (T24.NSt.Hv b_4) x')), SV.lit (Value.int IntKind.i64 (↑x' : Int))],
      T24.hpq (T24.NSt.m b_4) (↑(T24.NSt.sent b_4) : Int) (T24.NSt.R b_4) (T24.NSt.Hv b_4) (List.length (T24.NSt.LL b_4)) (List.length (T24.NSt.LL b_4)) (T24.NSt.LL b_4)
      (T24.NSt.LL b_4) [SO.row (3 : Nat) (Ty.int IntKind.i64) (T24.places to (T24.NSt.Hv b_4) x')]) ∧ x' ≤ List.length (T24.NSt.Hv b_4) ∧ List.length (T24.NSt.Hv b_4) - x' <
      List.length (T24.NSt.Hv b_4) - b_5) ∧ True)) ((T24.NSt.m b_4 ≤ List.length (T24.NSt.R b_4) ∧ T24.NSt.m b_4 ≤ (1000000 : Nat)) ∧ ((List.length (T24.places to (T24.NSt.R
      b_4) (T24.NSt.m b_4)) ≤ List.length (T24.places to (T24.NSt.R b_4) (T24.NSt.m b_4)) ∧ List.length (T24.places to (T24.NSt.R b_4) (T24.NSt.m b_4)) ≤ (1000000 : Nat)) ∧
      List.length (T24.NSt.LL b_4) ≤ (100 : Nat) ∧ List.length (T24.NSt.LL b_4) ≤ (100 : Nat) ∧ B24.bk (SV.sl (2 : Nat) (1 : Nat) (0 : Nat) (List.length (T24.NSt.LL b_4)))
      (SV.sl (3 : Nat) (1 : Nat) (0 : Nat) (List.length (T24.NSt.LL b_4))) = B24.bk (SV.sl (2 : Nat) (1 : Nat) (0 : Nat) (List.length (T24.NSt.LL b_4))) (SV.sl (3 : Nat) (1 :
      Nat) (0 : Nat) (List.length (T24.NSt.LL b_4)))) ∧ br ((↑(T24.NSt.m b_4) : Int) != (↑(List.length (T24.NSt.Hv b_4)) : Int)) (Q (SV.lit (Value.bool false), ([] : List
      Sx.SO), [])) (br ((↑(T24.NSt.sent b_4) : Int) != (↑(T24.NSt.sent b_4) : Int)) (Q (SV.lit (Value.bool false), ([] : List Sx.SO), [])) (br (decide ((↑(T24.NSt.m b_4) : Int)
      > (200 : Int))) (Q (SV.lit (Value.bool false), ([] : List Sx.SO), [])) (((0 : Nat) + List.length (T24.places to (T24.NSt.R b_4) (T24.NSt.m b_4)) ≤ List.length (T24.places
      to (T24.NSt.R b_4) (T24.NSt.m b_4)) ∧ (0 : Nat) + List.length (T24.places to (T24.NSt.Hv b_4) b_5) ≤ List.length (T24.places to (T24.NSt.Hv b_4) b_5) ∧ List.length
      (T24.places to (T24.NSt.R b_4) (T24.NSt.m b_4)) ≤ (1000000 : Nat)) ∧ Sx.br (!decide (List.take (List.length (T24.places to (T24.NSt.R b_4) (T24.NSt.m b_4))) (List.drop (0
      : Nat) (T24.places to (T24.NSt.R b_4) (T24.NSt.m b_4))) = List.take (List.length (T24.places to (T24.NSt.Hv b_4) b_5)) (List.drop (0 : Nat) (T24.places to (T24.NSt.Hv b_4)
      b_5)))) (Q (SV.lit (Value.bool false), ([] : List Sx.SO), [])) ((∃ (x' : T24.NSt), (T24.vq L to (List.length (T24.NSt.Hv b_4)) (↑(T24.NSt.sent b_4) : Int) (IntKind.wrap
      IntKind.i64 ((↑(T24.NSt.i b) : Int) + (1 : Int))) ([] : List Sx.SV), T24.hpq (T24.NSt.m b_4) (↑(T24.NSt.sent b_4) : Int) (T24.NSt.R b_4) (T24.NSt.Hv b_4) (List.length
      (T24.NSt.LL b_4) + (1 : Nat)) (List.length (T24.NSt.LL b_4) + (1 : Nat)) (T24.NSt.LL b_4 ++ [List.take (List.length (T24.places to (T24.NSt.R b_4) (T24.NSt.m b_4)))
      (T24.places to (T24.NSt.R b_4) (T24.NSt.m b_4))]) (T24.NSt.LL b_4 ++ [List.take (List.length (T24.places to (T24.NSt.R b_4) (T24.NSt.m b_4))) (T24.places to (T24.NSt.R
      b_4) (T24.NSt.m b_4))]) ([] : List Sx.SO)) = (T24.vq L to (List.length (T24.NSt.Hv x')) (↑(T24.NSt.sent x') : Int) (↑(T24.NSt.i x') : Int) ([] : List Sx.SV), T24.hpq
      (T24.NSt.m x') (↑(T24.NSt.sent x') : Int) (T24.NSt.R x') (T24.NSt.Hv x') (List.length (T24.NSt.LL x')) (List.length (T24.NSt.LL x')) (T24.NSt.LL x') (T24.NSt.LL x') ([] :
      List Sx.SO)) ∧ T24.NOk (List.length L) x' ∧ List.length L - T24.NSt.i x' < List.length L - T24.NSt.i b) ∧ True))))))))) (((List.length (T24.NSt.LL b) ≤ (1000 : Nat) ∧ (∀
      (l : List (Ty.den (Ty.int IntKind.i64))), l ∈ T24.NSt.LL b → List.length l ≤ (900000 : Nat)) ∧ T24.NSt.LL b = T24.NSt.LL b) ∧ B24.bk (SV.sl (1 : Nat) (1 : Nat) (0 : Nat)
      (List.length (T24.NSt.LL b))) (SV.sl (2 : Nat) (1 : Nat) (0 : Nat) (List.length (T24.NSt.LL b))) = B24.bk (SV.sl (1 : Nat) (1 : Nat) (0 : Nat) (List.length (T24.NSt.LL
      b))) (SV.sl (2 : Nat) (1 : Nat) (0 : Nat) (List.length (T24.NSt.LL b)))) ∧ Q (SV.lit (Value.bool true), ([] : List Sx.SO), [(0 : Nat), (1 : Nat), (2 : Nat), (3 : Nat), (4
      : Nat), (5 : Nat), (6 : Nat), (7 : Nat), (8 : Nat)])))) (by kernel_rfl) ?_
  refine br_intro (fun _ => hq _) (fun h0 => ?_)
  have h0 := of_decide_eq_false h0
  refine ⟨⟨⟨0, 0, 0, [], [], []⟩, rfl, ⟨by show 0 ≤ L.length; omega, ⟨by simp, by simp, rfl⟩, by simp, by simp, fun l hl => by cases hl⟩⟩, fun x hx => br_intro (fun hlt => ?_) (fun _ => ?_)⟩
  · have hlt := of_decide_eq_true hlt
    refine ⟨by omega, by omega, br_intro (fun _ => hq _) (fun h1 => ?_)⟩
    have h1 := of_decide_eq_false h1
    obtain ⟨i, m, sent, R, Hv, LL⟩ := x
    obtain ⟨hi, hrow, hsent, hfew, hsmall⟩ := hx
    dsimp only at hi hrow hsent hfew hsmall hlt h1 ⊢
    generalize L.getD i oty.dflt = o at h1 ⊢
    obtain ⟨(kd : Int), (kk : Int), (oL : List pty.den)⟩ := o
    dsimp only at h1 ⊢
    have hHl : Hv.length = m := by rw [← hrow.eq, List.length_take]; have := hrow.room; omega
    have hR := hrow.few
    have hroom := hrow.room
    refine fun b1 _ => br_intro (fun _ => br_intro (fun g => ⟨⟨(), ?_, trivial⟩, trivial⟩) (fun g => ⟨⟨(), ?_, trivial⟩, trivial⟩)) (fun _ => fun _ _ => fun b2 _ => br_intro (fun _ => ?_) (fun _ => ?_))
    · have g : kk ≥ 0 := of_decide_eq_true g
      have e : inB kk Hv.length = decide (kk < (Hv.length : Int)) := by simp only [inB, g, true_and]
      rw [e]
    · have g : ¬ kk ≥ 0 := of_decide_eq_false g
      have e : inB kk Hv.length = false := decide_eq_false (by omega)
      rw [e]
    · refine br_intro (fun hkd => ?_) (fun hkd => ?_)
      · have hb37 : bytesOf Try.prog 37 = 32 := by kernel_rfl
        rw [hb37]
        have e1 : (oL.take oL.length) = oL := List.take_length
        have e2 : (oL ++ [markP]).length = oL.length + 1 := by rw [List.length_append]; rfl
        simp only [Nat.zero_add, e1]
        refine fun b3 _ => br_intro (fun _ => ?_) (fun _ => ?_)
        · repeat' first
            | (exfalso; have h9 := of_decide_eq_true h; omega)
            | exact trivial
            | exact ⟨(), trivial, trivial⟩
            | omega
            | (refine br_intro (fun h => ?_) (fun h => ?_))
            | (refine And.intro ?_ ?_)
            | (refine fun _ _ => ?_)
        · intro _ _
          refine ⟨⟨0, rfl, by omega⟩, fun k hk => br_intro (fun hlt2 => ?_) (fun hge => ?_)⟩
          · have hlt2 := of_decide_eq_true hlt2
            have hs := sends_snoc Hv oL k (by omega)
            have hsl := sends_len (H := Hv) (by omega) (oL.take k)
            generalize sends Hv (oL.take k) = S at hs hsl ⊢
            generalize oL.getD k pty.dflt = p at hs ⊢
            rw [wrap1 k (by omega)]
            refine ⟨by omega, by omega, br_intro (fun _ => hq _) (fun _ => br_intro (fun g1 => ?_) (fun g1 => ?_))⟩
            · have g1 := of_decide_eq_true g1
              refine ⟨by omega, by omega, br_intro (fun g2 => ?_) (fun g2 => ?_)⟩
              · have g2 := of_decide_eq_true g2
                have e : sends Hv (oL.take (k + 1)) = S ++ [p] := by rw [hs]; unfold send1; rw [if_pos (by omega)]
                simp only [List.drop_zero, List.take_length]
                repeat' first
                  | (exfalso; have h9 := of_decide_eq_true h; omega)
                  | exact trivial
                  | omega
                  | (refine ⟨k + 1, ?_, by omega, by omega⟩; rw [e, List.length_append]; rfl)
                  | (refine br_intro (fun h => ?_) (fun h => ?_))
                  | (refine And.intro ?_ ?_)
                  | (refine fun _ _ => ?_)
              · have g2 := of_decide_eq_false g2
                have e : sends Hv (oL.take (k + 1)) = S := by rw [hs]; unfold send1; rw [if_neg (by omega)]
                exact ⟨⟨k + 1, by rw [e], by omega, by omega⟩, trivial⟩
            · have g1 := of_decide_eq_false g1
              have e : sends Hv (oL.take (k + 1)) = S := by rw [hs]; unfold send1; rw [if_neg (by omega)]
              exact ⟨⟨k + 1, by rw [e], by omega, by omega⟩, trivial⟩
          · have hge := of_decide_eq_false hge
            have : k = oL.length := by omega
            subst this
            have e3 : (oL ++ [markP]).take oL.length = oL := List.take_left
            have e4 : (oL ++ [markP]).getD oL.length pty.dflt = markP := by
              rw [List.getD_eq_getElem?_getD, List.getElem?_append_right (Nat.le_refl _), Nat.sub_self]; rfl
            have e5 : (markP.2.2 == ({ data := #[109, 97, 114, 107] } : ByteArray)) = true := bytes_self _
            rw [e3, e4, hrow.eq, wrap1 oL.length (by omega)]
            simp only [e1]
            rw [e5]
            refine fun b4 _ => br_intro (fun _ => ⟨⟨by omega, by omega, by omega, by omega⟩, fun y hy => ?_⟩) (fun _ => fun y hy => ?_)
            · have hyl : (sends Hv oL).length = y.1 := by rw [← hy.eq, List.length_take]; have := hy.room; omega
              refine br_intro (fun g => ⟨by omega, trivial, by omega, by omega, ⟨y, rfl, hy⟩, trivial⟩) (fun g => by rw [hyl] at g; simp at g)
            · obtain ⟨m', R'⟩ := y
              dsimp only at hy ⊢
              have ws : IntKind.i64.wrap ((sent : Int) + oL.length) = ((sent + oL.length : Nat) : Int) := by rw [IntKind.wrap_i64]; omega
              rw [ws]
              refine ⟨⟨0, rfl, by omega⟩, fun k hk => br_intro (fun hlt3 => ?_) (fun hge3 => ⟨⟨⟨i, m', sent + oL.length, R', sends Hv oL, LL⟩, rfl, ⟨rfl, rfl⟩, hy, by show ((sent + oL.length : Nat) : Int) ≤ 100 * ((i : Int) + 1); omega⟩, trivial⟩)⟩
              have hlt3 := of_decide_eq_true hlt3
              have e6 : (oL ++ [markP]).getD k pty.dflt = oL.getD k pty.dflt := by
                rw [List.getD_eq_getElem?_getD, List.getD_eq_getElem?_getD, List.getElem?_append_left (by omega)]
              rw [e6, wrap1 k (by omega)]
              generalize oL.getD k pty.dflt = p
              have e7 : (p.1 == p.1 && (p.2.1 == p.2.1 && (p.2.2 == p.2.2 && true))) = true := by rw [bytes_self]; simp
              rw [e7]
              exact ⟨by omega, by omega, by omega, by omega, ⟨k + 1, rfl, by omega, by omega⟩, trivial⟩
      · refine fun b3 _ => br_intro (fun _ => br_intro (fun g => ⟨⟨(), ?_, trivial⟩, trivial⟩) (fun g => br_intro (fun g' => ⟨⟨(), ?_, trivial⟩, trivial⟩) (fun g' => ⟨⟨(), ?_, trivial⟩, trivial⟩))) (fun _ => fun _ _ => br_intro (fun hin => ?_) (fun hin => ?_))
        · have g1 : kd = 2 := eq_of_beq g
          rw [g, decide_eq_true (p := kd = 2 ∨ kd = 4 ∨ kd = 5) (.inl g1)]
        · have g1 : kd = 4 := eq_of_beq g'
          rw [g', decide_eq_true (p := kd = 2 ∨ kd = 4 ∨ kd = 5) (.inr (.inl g1))]
        · have n2 : kd ≠ 2 := ne_of_beq_false g
          have n4 : kd ≠ 4 := ne_of_beq_false g'
          have e : decide (kd = 2 ∨ kd = 4 ∨ kd = 5) = (kd == 5) := by
            rw [Bool.eq_iff_iff, decide_eq_true_eq, beq_iff_eq]; omega
          rw [e]
        · have hin : kd = 2 ∨ kd = 4 ∨ kd = 5 := of_decide_eq_true hin
          refine fun b4 _ => br_intro (fun _ => ?_) (fun _ => fun w hw => fun b5 _ => br_intro (fun _ => ?_) (fun _ => ?_))
          · refine br_intro (fun g => ?_) (fun g => ?_)
            · have g' := of_decide_eq_true g
              refine ⟨g', by omega, ⟨Hv.getD (0 + Int.toNat kk) pty.dflt, rfl, ?_⟩, trivial⟩
              unfold wantOf; rw [if_pos g', Nat.zero_add]
            · have g' := of_decide_eq_false g
              refine ⟨⟨pz, rfl, ?_⟩, trivial⟩
              unfold wantOf; rw [if_neg g']
          · have hw : w = wantOf kk Hv := hw
            by_cases hk : 0 ≤ kk ∧ kk < (Hv.length : Int)
            · obtain ⟨k, rfl⟩ : ∃ k : Nat, kk = k := ⟨kk.toNat, by omega⟩
              have hkm : k < m := by omega
              have e1 : inB k Hv.length = true := decide_eq_true hk
              have e2 : decide ((0 : Int) ≤ k ∧ (k : Int) < m) = true := decide_eq_true (by omega)
              have e3 : w = R.getD k pty.dflt := by rw [hw]; unfold wantOf; rw [if_pos hk, ← hrow.eq, Int.toNat_natCast, getD_take hkm]
              have e4 : kd ≠ 5 → lessOf kd k Hv = (R.take m).take k ++ (R.take m).drop (k + 1) := fun h5 => by unfold lessOf; rw [if_pos ⟨hk, h5⟩, Int.toNat_natCast, hrow.eq]
              have e5 : kd = 5 → lessOf kd k Hv = Hv := fun h5 => by unfold lessOf; rw [if_neg (fun h => h.2 h5)]
              have hdel := delAt_row R m k hkm hroom hR
              subst e3
              rw [e1]
              simp only [e2, Int.toNat_natCast, br_true, beq_self_eq_true, Nat.zero_add]
              have t1 : (true == true) = true := rfl
              refine br_intro (fun g => ⟨⟨hroom, by omega⟩, ⟨(m - 1, delAt R m k), by rw [bytes_self]; rfl, ?_⟩, trivial⟩) (fun g => br_intro (fun g' => ⟨⟨hroom, by omega⟩, ⟨(m - 1, delAt R m k), rfl, ?_⟩, trivial⟩) (fun g' => ?_))
              · rw [e4 (by have g : kd = 2 := eq_of_beq g; omega)]; exact hdel
              · rw [e4 (by have g : kd = 4 := eq_of_beq g'; omega)]; exact hdel
              · refine br_intro (fun h => by have : (k : Int) < 0 := of_decide_eq_true h; omega) (fun _ => br_intro (fun h => by have : (k : Int) ≥ (m : Int) := of_decide_eq_true h; omega) (fun _ => ?_))
                have n2 : kd ≠ 2 := ne_of_beq_false g
                have n4 : kd ≠ 4 := ne_of_beq_false g'
                refine ⟨show (0 : Int) ≤ (k : Int) ∧ (k : Int) < (m : Int) by omega, by omega, ⟨(m, R), by rw [bytes_self]; rfl, ?_⟩, trivial⟩
                rw [e5 (by omega)]; exact hrow
            · have e1 : inB kk Hv.length = false := decide_eq_false hk
              have e2 : decide ((0 : Int) ≤ kk ∧ kk < (m : Int)) = false := decide_eq_false (by omega)
              have e3 : w = pz := by rw [hw]; unfold wantOf; rw [if_neg hk]
              have e5 : lessOf kd kk Hv = Hv := by unfold lessOf; rw [if_neg (fun h => hk h.1)]
              subst e3
              rw [e1, e5]
              simp only [e2, br_false, beq_self_eq_true, br_true]
              have z : (ByteArray.empty == pz.2.2) = true := bytes_self _
              have z2 : (({ data := #[] } : ByteArray) == pz.2.2) = true := bytes_self _
              refine br_intro (fun g => ⟨⟨hroom, by omega⟩, ⟨(m, R), by rw [z]; rfl, hrow⟩, trivial⟩) (fun g => br_intro (fun g' => ⟨⟨hroom, by omega⟩, ⟨(m, R), rfl, hrow⟩, trivial⟩) (fun g' => br_intro (fun h => ⟨⟨(m, R), by rw [z2]; rfl, hrow⟩, trivial⟩) (fun h => br_intro (fun h' => ⟨⟨(m, R), by rw [z2]; rfl, hrow⟩, trivial⟩) (fun h' => ?_))))
              have h : ¬ kk < 0 := of_decide_eq_false h
              have h' : ¬ kk ≥ (m : Int) := of_decide_eq_false h'
              omega
          · intro y hy
            obtain ⟨m', R'⟩ := y
            have hy : RowOf m' (lessOf kd kk Hv) R' := hy
            have hb37 : bytesOf Try.prog 37 = 32 := by kernel_rfl
            have same : lessOf kd kk Hv = Hv → RowOf m' Hv R' := fun e => e ▸ hy
            by_cases hk : 0 ≤ kk ∧ kk < (Hv.length : Int)
            · obtain ⟨k, rfl⟩ : ∃ k : Nat, kk = k := ⟨kk.toNat, by omega⟩
              have e1 : inB k Hv.length = true := decide_eq_true hk
              rw [e1]
              refine br_intro (fun _ => br_intro (fun g => ?_) (fun g => ?_)) (fun h => by cases h)
              · have g : kd ≠ 5 := by simpa using g
                have e4 : lessOf kd k Hv = Hv.take k ++ Hv.drop (k + 1) := by unfold lessOf; rw [if_pos ⟨hk, g⟩, Int.toNat_natCast]
                rw [e4] at hy
                have wk : IntKind.i64.wrap ((k : Int) + 1) = ((k + 1 : Nat) : Int) := wrap1 k (by omega)
                have ht2 : (Hv.drop (k + 1)).take (Hv.length - (k + 1)) = Hv.drop (k + 1) := List.take_of_length_le (by rw [List.length_drop]; omega)
                have hl1 : (Hv.take k).length = k := by rw [List.length_take]; omega
                have hl2 : (Hv.drop (k + 1)).length = Hv.length - (k + 1) := List.length_drop
                simp only [wk, Int.toNat_natCast, List.drop_zero, Nat.zero_add, ht2, hb37]
                generalize Hv.take k = T1 at *
                generalize Hv.drop (k + 1) = T2 at *
                have hdr : T1.drop (T1.length + T2.length) = [] := List.drop_eq_nil_of_le (by omega)
                have hap : (T1 ++ T2).length = T1.length + T2.length := List.length_append
                have f1 : (0 : Int) ≤ (k : Int) := by omega
                have f2 : (k : Int) ≤ (Hv.length : Int) := by omega
                have f3 : (0 : Int) ≤ ((k + 1 : Nat) : Int) := by omega
                have f4 : ((k + 1 : Nat) : Int) ≤ (Hv.length : Int) := by omega
                simp only [List.take_length, hdr, List.append_nil]
                repeat' first
                  | exact trivial
                  | exact f1
                  | exact f2
                  | exact f3
                  | exact f4
                  | omega
                  | (refine ⟨⟨i, m', sent, R', T1 ++ T2, LL⟩, ?_, ⟨rfl, rfl⟩, hy, by show (sent : Int) ≤ 100 * ((i : Int) + 1); omega⟩; rw [← hap] <;> rfl)
                  | (refine br_intro (fun h => ?_) (fun h => ?_))
                  | (refine And.intro ?_ ?_)
                  | (refine fun _ _ => ?_)
              · have g : kd = 5 := by simpa using g
                have hs := same (by unfold lessOf; rw [if_neg (fun h => h.2 g)])
                exact ⟨⟨⟨i, m', sent, R', Hv, LL⟩, rfl, ⟨rfl, rfl⟩, hs, by show (sent : Int) ≤ 100 * ((i : Int) + 1); omega⟩, trivial⟩
            · have e1 : inB kk Hv.length = false := decide_eq_false hk
              have hs := same (by unfold lessOf; rw [if_neg (fun h => hk h.1)])
              rw [e1]
              refine br_intro (fun h => by cases h) (fun _ => ?_)
              exact ⟨⟨⟨i, m', sent, R', Hv, LL⟩, rfl, ⟨rfl, rfl⟩, hs, by show (sent : Int) ≤ 100 * ((i : Int) + 1); omega⟩, trivial⟩
        · have hb37 : bytesOf Try.prog 37 = 32 := by kernel_rfl
          by_cases hk : 0 ≤ kk ∧ kk < (Hv.length : Int)
          · obtain ⟨k, rfl⟩ : ∃ k : Nat, kk = k := ⟨kk.toNat, by omega⟩
            have e1 : inB k Hv.length = true := decide_eq_true hk
            have hkm : k < m := by omega
            rw [e1]
            refine br_intro (fun _ => ⟨⟨hroom, hR⟩, br_intro (fun g => fun R' hR' => ?_) (fun g => ?_)⟩) (fun h => by cases h)
            · have g : (0 : Int) ≤ (k : Int) ∧ (k : Int) < (m : Int) ∧ m < 200 := of_decide_eq_true g
              have f1 : (0 : Int) ≤ (k : Int) := by omega
              have f2 : (k : Int) < (Hv.length : Int) := by omega
              have e2 : decide ((Hv.length : Int) < 200) = true := decide_eq_true (by omega)
              rw [hrow.eq, Int.toNat_natCast, ← getD_take (R := R) (m := m) hkm, hrow.eq] at hR'
              rw [e2]
              simp only [Int.toNat_natCast, List.drop_zero, Nat.zero_add, hb37, List.take_length]
              generalize Hv.getD k pty.dflt = p at hR' ⊢
              have hap : (Hv ++ [p]).length = Hv.length + 1 := by rw [List.length_append]; rfl
              refine br_intro (fun _ => ?_) (fun h => by cases h)
              repeat' first
                | (exfalso; have h9 := of_decide_eq_true h; omega)
                | exact trivial
                | exact f1
                | exact f2
                | omega
                | (refine ⟨⟨i, m + 1, sent, R', Hv ++ [p], LL⟩, ?_, ⟨rfl, rfl⟩, hR', by show (sent : Int) ≤ 100 * ((i : Int) + 1); omega⟩; rw [← hap] <;> rfl)
                | (refine br_intro (fun h => ?_) (fun h => ?_))
                | (refine And.intro ?_ ?_)
                | (refine fun _ _ => ?_)
            · have g : ¬ ((0 : Int) ≤ (k : Int) ∧ (k : Int) < (m : Int) ∧ m < 200) := of_decide_eq_false g
              refine br_intro (fun h => by have : (Hv.length : Int) < 200 := of_decide_eq_true h; omega) (fun h => ?_)
              rw [h]
              exact ⟨⟨⟨i, m, sent, R, Hv, LL⟩, rfl, ⟨rfl, rfl⟩, hrow, by show (sent : Int) ≤ 100 * ((i : Int) + 1); omega⟩, trivial⟩
          · have e1 : inB kk Hv.length = false := decide_eq_false hk
            rw [e1]
            refine br_intro (fun h => by cases h) (fun _ => ?_)
            exact ⟨⟨hroom, hR⟩, br_intro (fun h => by have : 0 ≤ kk ∧ kk < (m : Int) ∧ m < 200 := of_decide_eq_true h; omega) (fun _ => ⟨⟨⟨i, m, sent, R, Hv, LL⟩, rfl, ⟨rfl, rfl⟩, hrow, by show (sent : Int) ≤ 100 * ((i : Int) + 1); omega⟩, trivial⟩)⟩
    · intro y hy
      obtain ⟨yi, m', sent', R', Hv', LL'⟩ := y
      obtain ⟨⟨hyi, hyl⟩, hrow', hsent'⟩ := hy
      dsimp only at hyi hyl hrow' hsent' ⊢
      subst hyl
      have hb3 : bytesOf Try.prog 3 = 8 := by kernel_rfl
      have hH' : Hv'.length = m' := by rw [← hrow'.eq, List.length_take]; have := hrow'.room; omega
      have hR' := hrow'.few
      have hroom' := hrow'.room
      rw [hb3]
      refine ⟨⟨0, rfl, by omega⟩, fun k hk => br_intro (fun hlt2 => ?_) (fun hge => ?_)⟩
      · have hlt2 := of_decide_eq_true hlt2
        have hp := places_len to Hv' k
        rw [wrap1 k (by omega), Nat.zero_add]
        refine ⟨by omega, by omega, br_intro (fun g => ?_) (fun g => ⟨⟨k + 1, ?_, by omega, by omega⟩, trivial⟩)⟩
        · have g : (Hv'.getD k pty.dflt).2.1 = to := eq_of_beq g
          have e : places to Hv' (k + 1) = places to Hv' k ++ [(k : Int)] := by simp only [places]; rw [if_pos g]
          refine ⟨by omega, br_intro (fun h => by have := of_decide_eq_true h; omega) (fun _ => ⟨by omega, ⟨by omega, by omega⟩, ⟨k + 1, ?_, by omega, by omega⟩, trivial⟩)⟩
          rw [e, List.take_length, List.length_append]; rfl
        · have g : (Hv'.getD k pty.dflt).2.1 ≠ to := ne_of_beq_false g
          have e : places to Hv' (k + 1) = places to Hv' k := by simp only [places]; rw [if_neg g]
          rw [e]
      · have hge := of_decide_eq_false hge
        have : k = Hv'.length := by omega
        subst this
        have hp := places_len to R' m'
        have ep : places to R' m' = places to Hv' Hv'.length := by rw [places_take to R' m' hroom' m' (Nat.le_refl _), hrow'.eq, hH']
        rw [ep] at hp ⊢
        generalize places to Hv' Hv'.length = pl at hp ⊢
        simp only [List.drop_zero, List.take_length]
        refine ⟨⟨by omega, by omega⟩, ⟨⟨by omega, by omega⟩, by omega, by omega, trivial⟩, br_intro (fun g => by rw [hH'] at g; simp at g) (fun _ => br_intro (fun g => by simp at g) (fun _ => br_intro (fun g => by have := of_decide_eq_true g; omega) (fun _ => ⟨⟨by omega, by omega, by omega⟩, br_intro (fun g => by simp at g) (fun _ => ⟨⟨⟨i + 1, m', sent', R', Hv', LL' ++ [pl]⟩, ?_, ⟨by show i + 1 ≤ L.length; omega, hrow', by show sent' ≤ 100 * (i + 1); omega, by show (LL' ++ [pl]).length ≤ i + 1; rw [List.length_append]; simp; omega, small_snoc hsmall (by omega)⟩, by show L.length - (i + 1) < L.length - i; omega⟩, trivial⟩)⟩)))⟩
        rw [wrap1 i (by omega), List.length_append]; rfl
  · obtain ⟨hi, hrow, hsent, hfew, hsmall⟩ := hx
    exact ⟨⟨⟨by omega, hsmall, rfl⟩, rfl⟩, hq _⟩
end T24
