/- Part of a proof: the walks of the functions that the law calls, and their plain laws; no condition. -/
import Derived.Test.YtlcobcpgaoeijaaGreatSxT
import Derived.Test.YtlcobcpgaoeijaaGreatM2
set_option linter.unusedVariables false
set_option linter.unusedSimpArgs false
section
open Go Sx Go.Proofs T12
namespace T13
set_option maxRecDepth 100000
set_option maxHeartbeats 8000000
attribute [local irreducible] Tree.Leads
theorem v32_0 (st : Int) (h : ByteArray) (it : List Int) (wr fi : Bool) (mk : Int) (nu : List Int) (fu : Bool) (tx : List Int) (ac : List aty.den) (b : Int) (Q : SV × Heap × List Nat → Prop) (hb : Byte b) (hac : ac.length ≤ 1000000) (hok : PS.OK ⟨st, strInts h, it, wr, fi, mk, nu, fu, tx⟩)
    (hq : GoesW (PS.actW ⟨st, strInts h, it, wr, fi, mk, nu, fu, tx⟩ 0 b) ac Q) : (bodySumm T10 Tryz.prog Tryz.f61 N22 [.ptr 0 0, .lit (.int .i64 0), .lit (.int .u8 b)] (pheap st h it wr fi mk nu fu tx ac)).Leads Q := by
  refine Sx.by_text (q :=
   Q (SV.tup ([] : List Sx.SV), T13.rows st h it (List.length it) wr fi mk nu (List.length nu) fu tx (List.length tx) ac (List.length ac), [])) (by kernel_rfl) ?_
  have hbs : bytesOf Tryz.prog 69 = 88 := by kernel_rfl
  have hbt : bytesOf Tryz.prog 5 = 1 := by kernel_rfl
  have hbi : bytesOf Tryz.prog 3 = 8 := by kernel_rfl
  have hbr : bytesOf Tryz.prog 21 = 4 := by kernel_rfl
  obtain ⟨_, ok1, ok0, ok2, ok3, ok4, ok5⟩ := hok
  simp only at ok1 ok0 ok2 ok3 ok4 ok5
  have hw64 : IntKind.i64.wrap b = b := by have := hb.1; have := hb.2; rw [IntKind.wrap_i64]; omega
  have hw32 : IntKind.i32.wrap b = b := by have := hb.1; have := hb.2; rw [IntKind.wrap_i32]; omega
  unfold GoesW at hq
  try simp only [List.take_length, List.drop_zero, hbs, hbt, hbi, hbr]
  repeat' first
    | (intro _ _)
    | (refine br_intro (fun h => ?_) (fun h => ?_))
    | (refine And.intro ?_ ?_)
  all_goals first | omega | trivial | (simp only [beq_iff_eq, beq_eq_false_iff_ne, decide_eq_true_eq, decide_eq_false_iff_not, ne_eq, Bool.not_eq_true', Bool.not_eq_false'] at *) | skip
  all_goals first | omega | refine hq _ _ _ _ _ _ _ _ _ _ _ _ _ _ _ ?_ ?_ ?_ ?_ ?_ ?_ rfl
  all_goals clear hq
  all_goals first
    | rfl
    | (simp only [List.length_append, List.length_cons, List.length_nil]; done)
    | (simp [PS.actW, PS.begin, PS.endA, PS.bell, PS.keep, PS.inters, PS.finish, PS.param, PS.number, PS.more, PS.digit, PS.dispatch, PS.print, aOsc, aDcs, aControl, aEscape, aCsi, aPrint, e0, *]; done)
    | (simp only [PS.actW, PS.begin, PS.endA, PS.bell, PS.keep, PS.inters, PS.finish, PS.param, PS.number, PS.more, PS.digit, PS.dispatch, PS.print, aOsc, aDcs, aControl, aEscape, aCsi, aPrint, e0, and_true, true_and, and_false, false_and, or_true, true_or, or_false, false_or, if_true, if_false, List.append_nil, not_true_eq_false, not_false_eq_true, *]; first | done | rfl)
end T13
end
section
open Go Sx Go.Proofs T12
namespace T13
set_option maxRecDepth 100000
set_option maxHeartbeats 8000000
attribute [local irreducible] Tree.Leads
noncomputable abbrev zT13w1_1 (b : Int) := (List.getD [Sx.bsOf [b]] 0 (Ty.dflt Ty.str))
noncomputable abbrev zT13w1_3 := ((↑(1 : Nat) : Int) ≤ (9223372036854775807 : Int) ∧ 1 * Sx.bytesOf Go.Proofs.Tryz.prog 21 ≤ 140737488355328)
noncomputable abbrev zT13w1_2 (ac : List aty.den) := ((↑(List.length ac + 1) : Int) ≤ (9223372036854775807 : Int) ∧ (List.length ac + 1) * Sx.bytesOf Go.Proofs.Tryz.prog 69 ≤ 140737488355328)
noncomputable abbrev zT13w1_0 (st : Int) (h : ByteArray) (it : List Int) (wr : Bool) (fi : Bool) (mk : Int) (nu : List Int) (fu : Bool) (tx : List Int) (ac : List aty.den) (b : Int) (Q : SV × Heap × List Nat → Prop) := ((2 ≤ ByteArray.size (h ++ Sx.bsOf [Sx.byteAt (zT13w1_1 b) (0 : Int)]) ∧ ByteArray.size (h ++ Sx.bsOf [Sx.byteAt (zT13w1_1 b) (0 : Int)]) ≤ 4) ∧ 1 ≤ 1 ∧ (zT13w1_3) ∧ ((0 : Int) ≤ (0 : Int) ∧ (0 : Int) < (↑(1 : Nat) : Int)) ∧ 0 < 1 ∧ 0 ≤ 0 ∧ (List.length ac = List.length ac ∧ 1 = 1) ∧ (zT13w1_2 ac) ∧ Q (SV.tup ([] : List Sx.SV), T13.rows st { data := #[] } it (List.length it) wr fi mk nu (List.length nu) fu tx (List.length tx) (ac ++ [((1 : Int), List.getD [T12.whole (Sx.strInts (h ++ Sx.bsOf [Sx.byteAt (zT13w1_1 b) (0 : Int)]))] 0 (Ty.dflt (Ty.int IntKind.i32)), (0 : Int), (0 : Int), [], { data := #[] }, { data := #[] })]) (List.length ac + 1), [4]))
theorem v32_1 (st : Int) (h : ByteArray) (it : List Int) (wr fi : Bool) (mk : Int) (nu : List Int) (fu : Bool) (tx : List Int) (ac : List aty.den) (b : Int) (Q : SV × Heap × List Nat → Prop) (hb : Byte b) (hac : ac.length ≤ 1000000) (hok : PS.OK ⟨st, strInts h, it, wr, fi, mk, nu, fu, tx⟩)
    (hq : GoesW (PS.actW ⟨st, strInts h, it, wr, fi, mk, nu, fu, tx⟩ 1 b) ac Q) : (bodySumm T10 Tryz.prog Tryz.f61 N22 [.ptr 0 0, .lit (.int .i64 1), .lit (.int .u8 b)] (pheap st h it wr fi mk nu fu tx ac)).Leads Q := by
  refine Sx.by_text (q :=
   1 ≤ 1 ∧ ((0 : Int) ≤ (0 : Int) ∧ (0 : Int) < (↑(1 : Nat) : Int)) ∧ 0 < 1 ∧ ((0 : Int) ≤ (0 : Int) ∧ (0 : Int) < (↑(ByteArray.size (zT13w1_1 b)) : Int)) ∧ br (h == { data
   := #[] }) (br (T12.wid (Sx.byteAt (zT13w1_1 b) (0 : Int)) == (0 : Int)) (1 ≤ 1 ∧ (zT13w1_3) ∧ ((0 : Int) ≤ (0 : Int) ∧ (0 : Int) < (↑(1 : Nat) : Int)) ∧ 0 < 1 ∧ 0 ≤ 0 ∧
   (List.length ac = List.length ac ∧ 1 = 1) ∧ (zT13w1_2 ac) ∧ Q (SV.tup ([] : List Sx.SV), T13.rows st h it (List.length it) wr fi mk nu (List.length nu) fu tx (List.length
   tx) (ac ++ [((1 : Int), List.getD [(65533 : Int)] 0 (Ty.dflt (Ty.int IntKind.i32)), (0 : Int), (0 : Int), [], { data := #[] }, { data := #[] })]) (List.length ac + 1),
   [4])) (br (T12.wid (Sx.byteAt (zT13w1_1 b) (0 : Int)) == (1 : Int)) (1 ≤ 1 ∧ (zT13w1_3) ∧ ((0 : Int) ≤ (0 : Int) ∧ (0 : Int) < (↑(1 : Nat) : Int)) ∧ 0 < 1 ∧ 0 ≤ 0 ∧
   (List.length ac = List.length ac ∧ 1 = 1) ∧ (zT13w1_2 ac) ∧ Q (SV.tup ([] : List Sx.SV), T13.rows st h it (List.length it) wr fi mk nu (List.length nu) fu tx (List.length
   tx) (ac ++ [((1 : Int), List.getD [IntKind.wrap IntKind.i32 (Sx.byteAt (zT13w1_1 b) (0 : Int))] 0 (Ty.dflt (Ty.int IntKind.i32)), (0 : Int), (0 : Int), [], { data := #[]
   }, { data := #[] })]) (List.length ac + 1), [4])) (1 ≤ 1 ∧ Q (SV.tup ([] : List Sx.SV), T13.rows st (Sx.bsOf [Sx.byteAt (zT13w1_1 b) (0 : Int)]) it (List.length it) wr fi
   mk nu (List.length nu) fu tx (List.length tx) ac (List.length ac), [])))) (br (!T12.may (Sx.strInts h) (Sx.byteAt (zT13w1_1 b) (0 : Int))) (1 ≤ 1 ∧ (zT13w1_3) ∧ br
   (T12.wid (Sx.byteAt (zT13w1_1 b) (0 : Int)) == (0 : Int)) (1 ≤ 1 ∧ 1 = 1 ∧ ((↑(2 : Nat) : Int) ≤ (9223372036854775807 : Int) ∧ 2 * Sx.bytesOf Go.Proofs.Tryz.prog 21 ≤
   140737488355328) ∧ ((0 : Int) ≤ (0 : Int) ∧ (0 : Int) < (↑(2 : Nat) : Int)) ∧ 0 < 2 ∧ 0 ≤ 0 ∧ (List.length ac = List.length ac ∧ 1 = 1) ∧ (zT13w1_2 ac) ∧ ((0 : Int) ≤
   IntKind.wrap IntKind.i64 ((0 : Int) + (1 : Int)) ∧ IntKind.wrap IntKind.i64 ((0 : Int) + (1 : Int)) < (↑(2 : Nat) : Int)) ∧ 1 < 2 ∧ 0 ≤ 0 ∧ (List.length ac + 1 =
   List.length (ac ++ [((1 : Int), List.getD [(65533 : Int), (65533 : Int)] 0 (Ty.dflt (Ty.int IntKind.i32)), (0 : Int), (0 : Int), [], { data := #[] }, { data := #[] })]) ∧
   1 = 1) ∧ ((↑(List.length ac + 1 + 1) : Int) ≤ (9223372036854775807 : Int) ∧ (List.length ac + 1 + 1) * Sx.bytesOf Go.Proofs.Tryz.prog 69 ≤ 140737488355328) ∧ Q (SV.tup ([]
   : List Sx.SV), T13.rows st { data := #[] } it (List.length it) wr fi mk nu (List.length nu) fu tx (List.length tx) (ac ++ [((1 : Int), List.getD [(65533 : Int), (65533 :
   Int)] 0 (Ty.dflt (Ty.int IntKind.i32)), (0 : Int), (0 : Int), [], { data := #[] }, { data := #[] })] ++ [((1 : Int), List.getD [(65533 : Int), (65533 : Int)] 1 (Ty.dflt
   (Ty.int IntKind.i32)), (0 : Int), (0 : Int), [], { data := #[] }, { data := #[] })]) (List.length ac + 1 + 1), [4])) (br (T12.wid (Sx.byteAt (zT13w1_1 b) (0 : Int)) == (1
   : Int)) (1 ≤ 1 ∧ 1 = 1 ∧ ((↑(2 : Nat) : Int) ≤ (9223372036854775807 : Int) ∧ 2 * Sx.bytesOf Go.Proofs.Tryz.prog 21 ≤ 140737488355328) ∧ ((0 : Int) ≤ (0 : Int) ∧ (0 : Int)
   < (↑(2 : Nat) : Int)) ∧ 0 < 2 ∧ 0 ≤ 0 ∧ (List.length ac = List.length ac ∧ 1 = 1) ∧ (zT13w1_2 ac) ∧ ((0 : Int) ≤ IntKind.wrap IntKind.i64 ((0 : Int) + (1 : Int)) ∧
   IntKind.wrap IntKind.i64 ((0 : Int) + (1 : Int)) < (↑(2 : Nat) : Int)) ∧ 1 < 2 ∧ 0 ≤ 0 ∧ (List.length ac + 1 = List.length (ac ++ [((1 : Int), List.getD [(65533 : Int),
   IntKind.wrap IntKind.i32 (Sx.byteAt (zT13w1_1 b) (0 : Int))] 0 (Ty.dflt (Ty.int IntKind.i32)), (0 : Int), (0 : Int), [], { data := #[] }, { data := #[] })]) ∧ 1 = 1) ∧
   ((↑(List.length ac + 1 + 1) : Int) ≤ (9223372036854775807 : Int) ∧ (List.length ac + 1 + 1) * Sx.bytesOf Go.Proofs.Tryz.prog 69 ≤ 140737488355328) ∧ Q (SV.tup ([] : List
   Sx.SV), T13.rows st { data := #[] } it (List.length it) wr fi mk nu (List.length nu) fu tx (List.length tx) (ac ++ [((1 : Int), List.getD [(65533 : Int), IntKind.wrap
   IntKind.i32 (Sx.byteAt (zT13w1_1 b) (0 : Int))] 0 (Ty.dflt (Ty.int IntKind.i32)), (0 : Int), (0 : Int), [], { data := #[] }, { data := #[] })] ++ [((1 : Int), List.getD
   [(65533 : Int), IntKind.wrap IntKind.i32 (Sx.byteAt (zT13w1_1 b) (0 : Int))] 1 (Ty.dflt (Ty.int IntKind.i32)), (0 : Int), (0 : Int), [], { data := #[] }, { data := #[]
   })]) (List.length ac + 1 + 1), [4])) (1 ≤ 1 ∧ ((0 : Int) ≤ (0 : Int) ∧ (0 : Int) < (↑(1 : Nat) : Int)) ∧ 0 < 1 ∧ 0 ≤ 0 ∧ (List.length ac = List.length ac ∧ 1 = 1) ∧
   (zT13w1_2 ac) ∧ Q (SV.tup ([] : List Sx.SV), T13.rows st (Sx.bsOf [Sx.byteAt (zT13w1_1 b) (0 : Int)]) it (List.length it) wr fi mk nu (List.length nu) fu tx (List.length
   tx) (ac ++ [((1 : Int), List.getD [(65533 : Int)] 0 (Ty.dflt (Ty.int IntKind.i32)), (0 : Int), (0 : Int), [], { data := #[] }, { data := #[] })]) (List.length ac + 1),
   [4])))) (1 ≤ 1 ∧ (↑(ByteArray.size h + ByteArray.size (Sx.bsOf [Sx.byteAt (zT13w1_1 b) (0 : Int)])) : Int) ≤ (9223372036854775807 : Int) ∧ ((0 : Int) ≤ (0 : Int) ∧ (0 :
   Int) < (↑(ByteArray.size (h ++ Sx.bsOf [Sx.byteAt (zT13w1_1 b) (0 : Int)])) : Int)) ∧ ∀ (u0 : Bool), True → br u0 (br (decide ((↑(ByteArray.size (h ++ Sx.bsOf [Sx.byteAt
   (zT13w1_1 b) (0 : Int)])) : Int) < T12.wid (Sx.byteAt (h ++ Sx.bsOf [Sx.byteAt (zT13w1_1 b) (0 : Int)]) (0 : Int)))) (Q (SV.tup ([] : List Sx.SV), T13.rows st (h ++
   Sx.bsOf [Sx.byteAt (zT13w1_1 b) (0 : Int)]) it (List.length it) wr fi mk nu (List.length nu) fu tx (List.length tx) ac (List.length ac), [])) (zT13w1_0 st h it wr fi mk nu
   fu tx ac b Q)) (br (decide ((↑(ByteArray.size (h ++ Sx.bsOf [Sx.byteAt (zT13w1_1 b) (0 : Int)])) : Int) < T12.wid (Sx.byteAt (h ++ Sx.bsOf [Sx.byteAt (zT13w1_1 b) (0 :
   Int)]) (0 : Int)))) (Q (SV.tup ([] : List Sx.SV), T13.rows st (h ++ Sx.bsOf [Sx.byteAt (zT13w1_1 b) (0 : Int)]) it (List.length it) wr fi mk nu (List.length nu) fu tx
   (List.length tx) ac (List.length ac), [])) (zT13w1_0 st h it wr fi mk nu fu tx ac b Q))))) (by kernel_rfl) ?_
  delta zT13w1_0 zT13w1_1 zT13w1_2 zT13w1_3
  have hbs : bytesOf Tryz.prog 69 = 88 := by kernel_rfl
  have hbt : bytesOf Tryz.prog 5 = 1 := by kernel_rfl
  have hbi : bytesOf Tryz.prog 3 = 8 := by kernel_rfl
  have hbr : bytesOf Tryz.prog 21 = 4 := by kernel_rfl
  obtain ⟨_, ok1, ok0, ok2, ok3, ok4, ok5⟩ := hok
  simp only at ok1 ok0 ok2 ok3 ok4 ok5
  have hw64 : IntKind.i64.wrap b = b := by have := hb.1; have := hb.2; rw [IntKind.wrap_i64]; omega
  have hw32 : IntKind.i32.wrap b = b := by have := hb.1; have := hb.2; rw [IntKind.wrap_i32]; omega
  have hget : ([bsOf [b]] : List ByteArray).getD 0 Ty.str.dflt = bsOf [b] := rfl
  have hb1 : ∀ x ∈ [b], Byte x := fun x hx => by simp at hx; subst hx; exact hb
  have hs1 : strInts (bsOf [b]) = [b] := strInts_bsOf hb1
  have hbb : byteAt (bsOf [b]) 0 = b := by rw [byteAt_eq, hs1]; rfl
  have hsz1 : (bsOf [b]).size = 1 := rfl
  have es : strInts ({ data := #[] } : ByteArray) = [] := rfl
  have hh2 : strInts (h ++ bsOf [b]) = strInts h ++ [b] := by rw [strInts_append, hs1]
  have hsz : (h ++ bsOf [b]).size = h.size + 1 := by rw [← strInts_size, hh2, List.length_append, strInts_size]; rfl
  have hb0 : byteAt (h ++ bsOf [b]) 0 = (strInts h ++ [b]).getD 0 0 := by rw [byteAt_eq, hh2]; rfl
  have hhs := strInts_size h
  have hl3 := good_len ok1
  have hne : (h == ({ data := #[] } : ByteArray)) = (strInts h).isEmpty := by
    rw [Bool.eq_iff_iff, bytes_beq, List.isEmpty_iff]
    constructor
    · rintro rfl; rfl
    · intro e; rw [← bsOf_strInts h, e]; rfl
  have c64 : ∀ n : Nat, n ≤ 2000000 → ((n : Nat) : Int) ≤ 9223372036854775807 := fun n hn => by omega
  have hw01 : IntKind.i64.wrap (0 + 1) = 1 := by decide
  unfold GoesW at hq
  simp only [hw01, hget, hbb, hsz1, hw32, hb0, hsz, hh2, hne, hbs, hbr]
  rcases hl : strInts h with _ | ⟨c, r⟩
  all_goals rw [hl] at hq hhs hl3
  all_goals simp only [hl, List.isEmpty_nil, List.isEmpty_cons, br_true, br_false, List.cons_append, List.nil_append, List.getD_cons_zero]
  all_goals try (rw [show h.size + 1 = r.length + 2 by rw [← hhs]; rfl])
  all_goals try simp only [List.length_cons] at hl3
  all_goals repeat' first
    | (intro _ _)
    | (refine br_intro (fun h => ?_) (fun h => ?_))
    | (refine And.intro ?_ ?_)
  all_goals first | omega | exact True.intro | (simp only [beq_iff_eq, beq_eq_false_iff_ne, decide_eq_true_eq, decide_eq_false_iff_not, ne_eq, Bool.not_eq_true', Bool.not_eq_false'] at *) | skip
  all_goals first | omega | (refine hq _ _ _ _ _ _ _ _ _ _ _ _ _ _ _ ?_ ?_ ?_ ?_ ?_ ?_ rfl) | skip
  all_goals clear hq hne hb0 hsz hbb hget hsz1 c64 hw64 hbi hbt hbs hbr hb1 hb hac ok0 ok2 ok3 ok4 ok5 hw32
  all_goals first
    | with_reducible rfl
    | omega
    | (simp only [List.length_append, List.length_cons, List.length_nil]; done)
    | (simp only [PS.actW, PS.print, T12.step, T12.step0, aPrint, e0, es, List.getD_cons_succ, List.getD_cons_zero, show ¬ (1 : Int) = 0 from by decide, hs1, hh2, hl, if_true, if_false, and_true, true_and, and_false, false_and, not_true_eq_false, not_false_eq_true, List.cons_append, List.nil_append, List.map_cons, List.map_nil, List.append_nil, List.append_assoc, Bool.false_eq_true, *]; done)
    | skip
end T13
end
section
open Go Sx Go.Proofs T12
namespace T13
set_option maxRecDepth 100000
set_option maxHeartbeats 8000000
attribute [local irreducible] Tree.Leads
theorem v32_2 (st : Int) (h : ByteArray) (it : List Int) (wr fi : Bool) (mk : Int) (nu : List Int) (fu : Bool) (tx : List Int) (ac : List aty.den) (b : Int) (Q : SV × Heap × List Nat → Prop) (hb : Byte b) (hac : ac.length ≤ 1000000) (hok : PS.OK ⟨st, strInts h, it, wr, fi, mk, nu, fu, tx⟩)
    (hq : GoesW (PS.actW ⟨st, strInts h, it, wr, fi, mk, nu, fu, tx⟩ 2 b) ac Q) : (bodySumm T10 Tryz.prog Tryz.f61 N22 [.ptr 0 0, .lit (.int .i64 2), .lit (.int .u8 b)] (pheap st h it wr fi mk nu fu tx ac)).Leads Q := by
  refine Sx.by_text (q :=
   0 ≤ 0 ∧ (List.length ac = List.length ac ∧ 1 = 1) ∧ ((↑(List.length ac + 1) : Int) ≤ (9223372036854775807 : Int) ∧ (List.length ac + 1) * Sx.bytesOf Go.Proofs.Tryz.prog 69
   ≤ 140737488355328) ∧ Q (SV.tup ([] : List Sx.SV), T13.rows st h it (List.length it) wr fi mk nu (List.length nu) fu tx (List.length tx) (ac ++ [((2 : Int), (0 : Int),
   IntKind.wrap IntKind.i64 b, (0 : Int), [], { data := #[] }, { data := #[] })]) (List.length ac + 1), [4])) (by kernel_rfl) ?_
  have hbs : bytesOf Tryz.prog 69 = 88 := by kernel_rfl
  have hbt : bytesOf Tryz.prog 5 = 1 := by kernel_rfl
  have hbi : bytesOf Tryz.prog 3 = 8 := by kernel_rfl
  have hbr : bytesOf Tryz.prog 21 = 4 := by kernel_rfl
  obtain ⟨_, ok1, ok0, ok2, ok3, ok4, ok5⟩ := hok
  simp only at ok1 ok0 ok2 ok3 ok4 ok5
  have hw64 : IntKind.i64.wrap b = b := by have := hb.1; have := hb.2; rw [IntKind.wrap_i64]; omega
  have hw32 : IntKind.i32.wrap b = b := by have := hb.1; have := hb.2; rw [IntKind.wrap_i32]; omega
  unfold GoesW at hq
  try simp only [List.take_length, List.drop_zero, hbs, hbt, hbi, hbr]
  repeat' first
    | (intro _ _)
    | (refine br_intro (fun h => ?_) (fun h => ?_))
    | (refine And.intro ?_ ?_)
  all_goals first | omega | trivial | (simp only [beq_iff_eq, beq_eq_false_iff_ne, decide_eq_true_eq, decide_eq_false_iff_not, ne_eq, Bool.not_eq_true', Bool.not_eq_false'] at *) | skip
  all_goals first | omega | refine hq _ _ _ _ _ _ _ _ _ _ _ _ _ _ _ ?_ ?_ ?_ ?_ ?_ ?_ rfl
  all_goals clear hq
  all_goals first
    | rfl
    | (simp only [List.length_append, List.length_cons, List.length_nil]; done)
    | (simp [PS.actW, PS.begin, PS.endA, PS.bell, PS.keep, PS.inters, PS.finish, PS.param, PS.number, PS.more, PS.digit, PS.dispatch, PS.print, aOsc, aDcs, aControl, aEscape, aCsi, aPrint, e0, *]; done)
    | (simp only [PS.actW, PS.begin, PS.endA, PS.bell, PS.keep, PS.inters, PS.finish, PS.param, PS.number, PS.more, PS.digit, PS.dispatch, PS.print, aOsc, aDcs, aControl, aEscape, aCsi, aPrint, e0, and_true, true_and, and_false, false_and, or_true, true_or, or_false, false_or, if_true, if_false, List.append_nil, not_true_eq_false, not_false_eq_true, *]; first | done | rfl)
end T13
end
section
open Go Sx Go.Proofs T12
namespace T13
set_option maxRecDepth 100000
set_option maxHeartbeats 8000000
attribute [local irreducible] Tree.Leads
theorem v32_3 (st : Int) (h : ByteArray) (it : List Int) (wr fi : Bool) (mk : Int) (nu : List Int) (fu : Bool) (tx : List Int) (ac : List aty.den) (b : Int) (Q : SV × Heap × List Nat → Prop) (hb : Byte b) (hac : ac.length ≤ 1000000) (hok : PS.OK ⟨st, strInts h, it, wr, fi, mk, nu, fu, tx⟩)
    (hq : GoesW (PS.actW ⟨st, strInts h, it, wr, fi, mk, nu, fu, tx⟩ 3 b) ac Q) : (bodySumm T10 Tryz.prog Tryz.f61 N22 [.ptr 0 0, .lit (.int .i64 3), .lit (.int .u8 b)] (pheap st h it wr fi mk nu fu tx ac)).Leads Q := by
  refine Sx.by_text (q :=
   br (decide ((↑(List.length it) : Int) ≥ (2 : Int))) (Q (SV.tup ([] : List Sx.SV), T13.rows st h it (List.length it) true false mk nu (List.length nu) fu tx (List.length
   tx) ac (List.length ac), [])) (1 ≤ 1 ∧ List.length it = List.length it ∧ ((↑(List.length it + 1) : Int) ≤ (9223372036854775807 : Int) ∧ (List.length it + 1) * Sx.bytesOf
   Go.Proofs.Tryz.prog 5 ≤ 140737488355328) ∧ Q (SV.tup ([] : List Sx.SV), T13.rows st h (it ++ [b]) (List.length it + 1) wr false mk nu (List.length nu) fu tx (List.length
   tx) ac (List.length ac), [1]))) (by kernel_rfl) ?_
  have hbs : bytesOf Tryz.prog 69 = 88 := by kernel_rfl
  have hbt : bytesOf Tryz.prog 5 = 1 := by kernel_rfl
  have hbi : bytesOf Tryz.prog 3 = 8 := by kernel_rfl
  have hbr : bytesOf Tryz.prog 21 = 4 := by kernel_rfl
  obtain ⟨_, ok1, ok0, ok2, ok3, ok4, ok5⟩ := hok
  simp only at ok1 ok0 ok2 ok3 ok4 ok5
  have hw64 : IntKind.i64.wrap b = b := by have := hb.1; have := hb.2; rw [IntKind.wrap_i64]; omega
  have hw32 : IntKind.i32.wrap b = b := by have := hb.1; have := hb.2; rw [IntKind.wrap_i32]; omega
  unfold GoesW at hq
  try simp only [List.take_length, List.drop_zero, hbs, hbt, hbi, hbr]
  repeat' first
    | (intro _ _)
    | (refine br_intro (fun h => ?_) (fun h => ?_))
    | (refine And.intro ?_ ?_)
  all_goals first | omega | trivial | (simp only [beq_iff_eq, beq_eq_false_iff_ne, decide_eq_true_eq, decide_eq_false_iff_not, ne_eq, Bool.not_eq_true', Bool.not_eq_false'] at *) | skip
  all_goals first | omega | refine hq _ _ _ _ _ _ _ _ _ _ _ _ _ _ _ ?_ ?_ ?_ ?_ ?_ ?_ rfl
  all_goals clear hq
  all_goals first
    | rfl
    | (simp only [List.length_append, List.length_cons, List.length_nil]; done)
    | (simp [PS.actW, PS.begin, PS.endA, PS.bell, PS.keep, PS.inters, PS.finish, PS.param, PS.number, PS.more, PS.digit, PS.dispatch, PS.print, aOsc, aDcs, aControl, aEscape, aCsi, aPrint, e0, *]; done)
    | (simp only [PS.actW, PS.begin, PS.endA, PS.bell, PS.keep, PS.inters, PS.finish, PS.param, PS.number, PS.more, PS.digit, PS.dispatch, PS.print, aOsc, aDcs, aControl, aEscape, aCsi, aPrint, e0, and_true, true_and, and_false, false_and, or_true, true_or, or_false, false_or, if_true, if_false, List.append_nil, not_true_eq_false, not_false_eq_true, *]; first | done | rfl)
end T13
end
section
open Go Sx Go.Proofs T12
namespace T13
set_option maxRecDepth 100000
set_option maxHeartbeats 8000000
attribute [local irreducible] Tree.Leads
noncomputable abbrev zT13w4_0 (h : ByteArray) (it : List Int) (wr : Bool) (ac : List aty.den) (b : Int) (Q : SV × Heap × List Nat → Prop) := (br (!wr) (0 + List.length it ≤ List.length it ∧ 0 ≤ 0 ∧ (List.length ac = List.length ac ∧ 1 = 1) ∧ ((↑(List.length ac + 1) : Int) ≤ (9223372036854775807 : Int) ∧ (List.length ac + 1) * Sx.bytesOf Go.Proofs.Tryz.prog 69 ≤ 140737488355328) ∧ Q (SV.tup ([] : List Sx.SV), T13.rows (0 : Int) h [] 0 false true (0 : Int) [] 0 false [] 0 (ac ++ [((3 : Int), (0 : Int), IntKind.wrap IntKind.i64 b, (0 : Int), [], Sx.bsOf (List.take (List.length it) (List.drop 0 it)), { data := #[] })]) (List.length ac + 1), [1, 2, 3, 4])) (Q (SV.tup ([] : List Sx.SV), T13.rows (0 : Int) h [] 0 false true (0 : Int) [] 0 false [] 0 ac (List.length ac), [1, 2, 3])))
theorem v32_4 (st : Int) (h : ByteArray) (it : List Int) (wr fi : Bool) (mk : Int) (nu : List Int) (fu : Bool) (tx : List Int) (ac : List aty.den) (b : Int) (Q : SV × Heap × List Nat → Prop) (hb : Byte b) (hac : ac.length ≤ 1000000) (hok : PS.OK ⟨st, strInts h, it, wr, fi, mk, nu, fu, tx⟩)
    (hq : GoesW (PS.actW ⟨st, strInts h, it, wr, fi, mk, nu, fu, tx⟩ 4 b) ac Q) : (bodySumm T10 Tryz.prog Tryz.f61 N22 [.ptr 0 0, .lit (.int .i64 4), .lit (.int .u8 b)] (pheap st h it wr fi mk nu fu tx ac)).Leads Q := by
  refine Sx.by_text (q :=
   br ((↑(List.length it) : Int) == (0 : Int)) (br (b == (91 : Int)) (Q (SV.tup ([] : List Sx.SV), T13.rows (2 : Int) h [] 0 false true (0 : Int) [] 0 false [] 0 ac
   (List.length ac), [1, 2, 3])) (br (b == (93 : Int)) (Q (SV.tup ([] : List Sx.SV), T13.rows (3 : Int) h [] 0 false true (0 : Int) [] 0 false [] 0 ac (List.length ac), [1,
   2, 3])) (br (b == (80 : Int)) (Q (SV.tup ([] : List Sx.SV), T13.rows (4 : Int) h [] 0 false true (0 : Int) [] 0 false [] 0 ac (List.length ac), [1, 2, 3])) (zT13w4_0 h it
   wr ac b Q)))) (zT13w4_0 h it wr ac b Q)) (by kernel_rfl) ?_
  delta zT13w4_0
  have hbs : bytesOf Tryz.prog 69 = 88 := by kernel_rfl
  have hbt : bytesOf Tryz.prog 5 = 1 := by kernel_rfl
  have hbi : bytesOf Tryz.prog 3 = 8 := by kernel_rfl
  have hbr : bytesOf Tryz.prog 21 = 4 := by kernel_rfl
  obtain ⟨_, ok1, ok0, ok2, ok3, ok4, ok5⟩ := hok
  simp only at ok1 ok0 ok2 ok3 ok4 ok5
  have hw64 : IntKind.i64.wrap b = b := by have := hb.1; have := hb.2; rw [IntKind.wrap_i64]; omega
  have hw32 : IntKind.i32.wrap b = b := by have := hb.1; have := hb.2; rw [IntKind.wrap_i32]; omega
  unfold GoesW at hq
  try simp only [List.take_length, List.drop_zero, hbs, hbt, hbi, hbr]
  repeat' first
    | (intro _ _)
    | (refine br_intro (fun h => ?_) (fun h => ?_))
    | (refine And.intro ?_ ?_)
  all_goals first | omega | trivial | (simp only [beq_iff_eq, beq_eq_false_iff_ne, decide_eq_true_eq, decide_eq_false_iff_not, ne_eq, Bool.not_eq_true', Bool.not_eq_false'] at *) | skip
  all_goals first | omega | refine hq _ _ _ _ _ _ _ _ _ _ _ _ _ _ _ ?_ ?_ ?_ ?_ ?_ ?_ rfl
  all_goals clear hq
  all_goals first
    | rfl
    | (simp only [List.length_append, List.length_cons, List.length_nil]; done)
    | (simp [PS.actW, PS.begin, PS.endA, PS.bell, PS.keep, PS.inters, PS.finish, PS.param, PS.number, PS.more, PS.digit, PS.dispatch, PS.print, aOsc, aDcs, aControl, aEscape, aCsi, aPrint, e0, *]; done)
    | (simp only [PS.actW, PS.begin, PS.endA, PS.bell, PS.keep, PS.inters, PS.finish, PS.param, PS.number, PS.more, PS.digit, PS.dispatch, PS.print, aOsc, aDcs, aControl, aEscape, aCsi, aPrint, e0, and_true, true_and, and_false, false_and, or_true, true_or, or_false, false_or, if_true, if_false, List.append_nil, not_true_eq_false, not_false_eq_true, *]; first | done | rfl)
end T13
end
section
open Go Sx Go.Proofs T12
namespace T13
set_option maxRecDepth 100000
set_option maxHeartbeats 8000000
attribute [local irreducible] Tree.Leads
noncomputable abbrev zT13w5_0 (st : Int) (h : ByteArray) (it : List Int) (wr : Bool) (mk : Int) (nu : List Int) (fu : Bool) (tx : List Int) (ac : List aty.den) (b : Int) (Q : SV × Heap × List Nat → Prop) := (br (decide (b > (59 : Int))) (Q (SV.tup ([] : List Sx.SV), T13.rows st h it (List.length it) wr false (IntKind.wrap IntKind.i64 b) nu (List.length nu) fu tx (List.length tx) ac (List.length ac), [])) (br (b == (59 : Int)) (br ((↑(List.length nu) : Int) == (0 : Int)) (1 ≤ 1 ∧ 1 = 1 ∧ ((↑(2 : Nat) : Int) ≤ (9223372036854775807 : Int) ∧ 2 * Sx.bytesOf Go.Proofs.Tryz.prog 3 ≤ 140737488355328) ∧ Q (SV.tup ([] : List Sx.SV), T13.rows st h it (List.length it) wr false mk [(-1 : Int), (-1 : Int)] 2 fu tx (List.length tx) ac (List.length ac), [2])) (br (decide ((↑(List.length nu) : Int) ≥ (8 : Int))) (Q (SV.tup ([] : List Sx.SV), T13.rows st h it (List.length it) wr false mk nu (List.length nu) true tx (List.length tx) ac (List.length ac), [])) (1 ≤ 1 ∧ List.length nu = List.length nu ∧ ((↑(List.length nu + 1) : Int) ≤ (9223372036854775807 : Int) ∧ (List.length nu + 1) * Sx.bytesOf Go.Proofs.Tryz.prog 3 ≤ 140737488355328) ∧ Q (SV.tup ([] : List Sx.SV), T13.rows st h it (List.length it) wr false mk (nu ++ [(-1 : Int)]) (List.length nu + 1) fu tx (List.length tx) ac (List.length ac), [2])))) (br ((↑(List.length nu) : Int) == (0 : Int)) (br (!fu) (((0 : Int) ≤ IntKind.wrap IntKind.i64 ((↑(1 : Nat) : Int) - (1 : Int)) ∧ IntKind.wrap IntKind.i64 ((↑(1 : Nat) : Int) - (1 : Int)) < (↑(1 : Nat) : Int)) ∧ 0 < 1 ∧ ((0 : Int) ≤ IntKind.wrap IntKind.i64 ((↑(1 : Nat) : Int) - (1 : Int)) ∧ IntKind.wrap IntKind.i64 ((↑(1 : Nat) : Int) - (1 : Int)) < (↑(1 : Nat) : Int)) ∧ 0 < 1 ∧ Q (SV.tup ([] : List Sx.SV), T13.rows st h it (List.length it) wr false mk [Min.min (IntKind.wrap IntKind.i64 (IntKind.wrap IntKind.i64 (Max.max (List.getD [(-1 : Int)] 0 (Ty.dflt (Ty.int IntKind.i64))) (0 : Int) * (10 : Int)) + IntKind.wrap IntKind.i64 (IntKind.wrap IntKind.u8 (b - (48 : Int))))) (9999 : Int)] 1 fu tx (List.length tx) ac (List.length ac), [2])) (Q (SV.tup ([] : List Sx.SV), T13.rows st h it (List.length it) wr false mk [(-1 : Int)] 1 fu tx (List.length tx) ac (List.length ac), [2]))) (br (!fu) (((0 : Int) ≤ IntKind.wrap IntKind.i64 ((↑(List.length nu) : Int) - (1 : Int)) ∧ IntKind.wrap IntKind.i64 ((↑(List.length nu) : Int) - (1 : Int)) < (↑(List.length nu) : Int)) ∧ 0 + Int.toNat (IntKind.wrap IntKind.i64 ((↑(List.length nu) : Int) - (1 : Int))) < List.length nu ∧ ((0 : Int) ≤ IntKind.wrap IntKind.i64 ((↑(List.length nu) : Int) - (1 : Int)) ∧ IntKind.wrap IntKind.i64 ((↑(List.length nu) : Int) - (1 : Int)) < (↑(List.length nu) : Int)) ∧ 0 + Int.toNat (IntKind.wrap IntKind.i64 ((↑(List.length nu) : Int) - (1 : Int))) < List.length nu ∧ Q (SV.tup ([] : List Sx.SV), T13.rows st h it (List.length it) wr false mk (List.set nu (0 + Int.toNat (IntKind.wrap IntKind.i64 ((↑(List.length nu) : Int) - (1 : Int)))) (Min.min (IntKind.wrap IntKind.i64 (IntKind.wrap IntKind.i64 (Max.max (List.getD nu (0 + Int.toNat (IntKind.wrap IntKind.i64 ((↑(List.length nu) : Int) - (1 : Int)))) (Ty.dflt (Ty.int IntKind.i64))) (0 : Int) * (10 : Int)) + IntKind.wrap IntKind.i64 (IntKind.wrap IntKind.u8 (b - (48 : Int))))) (9999 : Int))) (List.length nu) fu tx (List.length tx) ac (List.length ac), [])) (Q (SV.tup ([] : List Sx.SV), T13.rows st h it (List.length it) wr false mk nu (List.length nu) fu tx (List.length tx) ac (List.length ac), []))))))
theorem v32_5 (st : Int) (h : ByteArray) (it : List Int) (wr fi : Bool) (mk : Int) (nu : List Int) (fu : Bool) (tx : List Int) (ac : List aty.den) (b : Int) (Q : SV × Heap × List Nat → Prop) (hb : Byte b) (hbp : 48 ≤ b ∧ b < 64) (hac : ac.length ≤ 1000000) (hok : PS.OK ⟨st, strInts h, it, wr, fi, mk, nu, fu, tx⟩)
    (hq : GoesW (PS.actW ⟨st, strInts h, it, wr, fi, mk, nu, fu, tx⟩ 5 b) ac Q) : (bodySumm T10 Tryz.prog Tryz.f61 N22 [.ptr 0 0, .lit (.int .i64 5), .lit (.int .u8 b)] (pheap st h it wr fi mk nu fu tx ac)).Leads Q := by
  refine Sx.by_text (q :=
   br (decide ((↑(List.length it) : Int) > (0 : Int))) (Q (SV.tup ([] : List Sx.SV), T13.rows st h it (List.length it) true false mk nu (List.length nu) fu tx (List.length
   tx) ac (List.length ac), [])) (br (b == (58 : Int)) (Q (SV.tup ([] : List Sx.SV), T13.rows st h it (List.length it) true false mk nu (List.length nu) fu tx (List.length
   tx) ac (List.length ac), [])) (br (decide (b > (59 : Int))) (br (!fi) (Q (SV.tup ([] : List Sx.SV), T13.rows st h it (List.length it) true false mk nu (List.length nu) fu
   tx (List.length tx) ac (List.length ac), [])) (zT13w5_0 st h it wr mk nu fu tx ac b Q)) (zT13w5_0 st h it wr mk nu fu tx ac b Q)))) (by kernel_rfl) ?_
  delta zT13w5_0
  have hbs : bytesOf Tryz.prog 69 = 88 := by kernel_rfl
  have hbt : bytesOf Tryz.prog 5 = 1 := by kernel_rfl
  have hbi : bytesOf Tryz.prog 3 = 8 := by kernel_rfl
  have hbr : bytesOf Tryz.prog 21 = 4 := by kernel_rfl
  obtain ⟨_, ok1, ok0, ok2, ok3, ok4, ok5⟩ := hok
  simp only at ok1 ok0 ok2 ok3 ok4 ok5
  have hw64 : IntKind.i64.wrap b = b := by have := hb.1; have := hb.2; rw [IntKind.wrap_i64]; omega
  have hw32 : IntKind.i32.wrap b = b := by have := hb.1; have := hb.2; rw [IntKind.wrap_i32]; omega
  have hl : IntKind.i64.wrap ((nu.length : Int) - 1) = (nu.length : Int) - 1 := by rw [IntKind.wrap_i64]; omega
  have hl1 : IntKind.i64.wrap (((1 : Nat) : Int) - 1) = 0 := by decide
  have hd : IntKind.i64.wrap (IntKind.u8.wrap (b - 48)) = b - 48 := by rw [IntKind.wrap_u8, IntKind.wrap_i64]; omega
  have hnum : ∀ k : Nat, IntKind.i64.wrap (IntKind.i64.wrap (max (nu.getD k (Ty.int IntKind.i64).dflt) 0 * 10) + (b - 48)) = max (nu.getD k 0) 0 * 10 + (b - 48) := fun k => by
    have e : nu.getD k (Ty.int IntKind.i64).dflt = nu.getD k (0 : Int) := rfl
    have hx : -1 ≤ nu.getD k (0 : Int) ∧ nu.getD k (0 : Int) ≤ 9999 := by
      rw [List.getD_eq_getElem?_getD]
      cases hk : nu[k]? with
      | none => simp
      | some x => exact ok5 x (List.mem_of_getElem? hk)
    rw [e]
    generalize nu.getD k (0 : Int) = x at hx
    have : 0 ≤ max x 0 ∧ max x 0 ≤ 9999 := by omega
    generalize max x 0 = y at this
    rw [IntKind.wrap_i64, IntKind.wrap_i64]; omega
  have hnum1 : IntKind.i64.wrap (IntKind.i64.wrap (max (([(-1 : Int)] : List Int).getD 0 (Ty.int IntKind.i64).dflt) 0 * 10) + (b - 48)) = b - 48 := by
    have e : max (([(-1 : Int)] : List Int).getD 0 (Ty.int IntKind.i64).dflt) 0 = 0 := by decide
    rw [e, IntKind.wrap_i64, IntKind.wrap_i64]; omega
  have ht : 0 + ((nu.length : Int) - 1).toNat = nu.length - 1 := by omega
  unfold GoesW at hq
  simp only [hl, hl1, hd, ht, hnum, hnum1]
  try simp only [List.take_length, List.drop_zero, hbs, hbt, hbi, hbr]
  repeat' first
    | (intro _ _)
    | (refine br_intro (fun h => ?_) (fun h => ?_))
    | (refine And.intro ?_ ?_)
  all_goals first | omega | trivial | (simp only [beq_iff_eq, beq_eq_false_iff_ne, decide_eq_true_eq, decide_eq_false_iff_not, ne_eq, Bool.not_eq_true', Bool.not_eq_false'] at *) | skip
  all_goals first | omega | refine hq _ _ _ _ _ _ _ _ _ _ _ _ _ _ _ ?_ ?_ ?_ ?_ ?_ ?_ rfl
  all_goals clear hq
  all_goals first
    | rfl
    | (simp only [List.length_append, List.length_cons, List.length_nil]; done)
    | (simp [PS.actW, PS.begin, PS.endA, PS.bell, PS.keep, PS.inters, PS.finish, PS.param, PS.number, PS.more, PS.digit, PS.dispatch, PS.print, aOsc, aDcs, aControl, aEscape, aCsi, aPrint, e0, *]; done)
    | (simp only [PS.actW, PS.begin, PS.endA, PS.bell, PS.keep, PS.inters, PS.finish, PS.param, PS.number, PS.more, PS.digit, PS.dispatch, PS.print, aOsc, aDcs, aControl, aEscape, aCsi, aPrint, e0, and_true, true_and, and_false, false_and, or_true, true_or, or_false, false_or, if_true, if_false, List.append_nil, not_true_eq_false, not_false_eq_true, *]; first | done | rfl)
    | (have hnu : nu = [] := List.eq_nil_of_length_eq_zero (by omega)
       subst hnu
       clear hnum hnum1 hl hl1 ht hd ok5
       simp only [PS.actW, PS.param, PS.number, PS.digit, List.length_nil, and_true, true_and, and_false, false_and, or_true, true_or, or_false, false_or, if_true, if_false, not_true_eq_false, not_false_eq_true, *]
       have hm : min (max (-1 : Int) 0 * 10 + (b - 48)) 9999 = min (b - 48) 9999 := by
         rw [show max (-1 : Int) 0 = 0 from by decide, Int.zero_mul, Int.zero_add]
       show PS.mk st (strInts _) it wr false mk [min (max (-1 : Int) 0 * 10 + (b - 48)) 9999] _ tx = _
       rw [hm]
       simp)
end T13
end
section
open Go Sx Go.Proofs T12
namespace T13
set_option maxRecDepth 100000
set_option maxHeartbeats 8000000
attribute [local irreducible] Tree.Leads
theorem v32_6 (st : Int) (h : ByteArray) (it : List Int) (wr fi : Bool) (mk : Int) (nu : List Int) (fu : Bool) (tx : List Int) (ac : List aty.den) (b : Int) (Q : SV × Heap × List Nat → Prop) (hb : Byte b) (hac : ac.length ≤ 1000000) (hok : PS.OK ⟨st, strInts h, it, wr, fi, mk, nu, fu, tx⟩)
    (hq : GoesW (PS.actW ⟨st, strInts h, it, wr, fi, mk, nu, fu, tx⟩ 6 b) ac Q) : (bodySumm T10 Tryz.prog Tryz.f61 N22 [.ptr 0 0, .lit (.int .i64 6), .lit (.int .u8 b)] (pheap st h it wr fi mk nu fu tx ac)).Leads Q := by
  refine Sx.by_text (q :=
   br (!wr) (0 + List.length it ≤ List.length it ∧ List.length nu ≤ List.length nu ∧ List.length nu ≤ List.length (List.take (List.length nu) nu) ∧ (List.length ac =
   List.length ac ∧ 1 = 1) ∧ ((↑(List.length ac + 1) : Int) ≤ (9223372036854775807 : Int) ∧ (List.length ac + 1) * Sx.bytesOf Go.Proofs.Tryz.prog 69 ≤ 140737488355328) ∧ Q
   (SV.tup ([] : List Sx.SV), T13.rows (0 : Int) h [] 0 false true (0 : Int) [] 0 false [] 0 (ac ++ [((4 : Int), (0 : Int), IntKind.wrap IntKind.i64 b, mk, List.take
   (List.length nu) (List.take (List.length nu) nu), Sx.bsOf (List.take (List.length it) (List.drop 0 it)), { data := #[] })]) (List.length ac + 1), [1, 2, 3, 4])) (Q (SV.tup
   ([] : List Sx.SV), T13.rows (0 : Int) h [] 0 false true (0 : Int) [] 0 false [] 0 ac (List.length ac), [1, 2, 3]))) (by kernel_rfl) ?_
  have hbs : bytesOf Tryz.prog 69 = 88 := by kernel_rfl
  have hbt : bytesOf Tryz.prog 5 = 1 := by kernel_rfl
  have hbi : bytesOf Tryz.prog 3 = 8 := by kernel_rfl
  have hbr : bytesOf Tryz.prog 21 = 4 := by kernel_rfl
  obtain ⟨_, ok1, ok0, ok2, ok3, ok4, ok5⟩ := hok
  simp only at ok1 ok0 ok2 ok3 ok4 ok5
  have hw64 : IntKind.i64.wrap b = b := by have := hb.1; have := hb.2; rw [IntKind.wrap_i64]; omega
  have hw32 : IntKind.i32.wrap b = b := by have := hb.1; have := hb.2; rw [IntKind.wrap_i32]; omega
  unfold GoesW at hq
  try simp only [List.take_length, List.drop_zero, hbs, hbt, hbi, hbr]
  repeat' first
    | (intro _ _)
    | (refine br_intro (fun h => ?_) (fun h => ?_))
    | (refine And.intro ?_ ?_)
  all_goals first | omega | trivial | (simp only [beq_iff_eq, beq_eq_false_iff_ne, decide_eq_true_eq, decide_eq_false_iff_not, ne_eq, Bool.not_eq_true', Bool.not_eq_false'] at *) | skip
  all_goals first | omega | refine hq _ _ _ _ _ _ _ _ _ _ _ _ _ _ _ ?_ ?_ ?_ ?_ ?_ ?_ rfl
  all_goals clear hq
  all_goals first
    | rfl
    | (simp only [List.length_append, List.length_cons, List.length_nil]; done)
    | (simp [PS.actW, PS.begin, PS.endA, PS.bell, PS.keep, PS.inters, PS.finish, PS.param, PS.number, PS.more, PS.digit, PS.dispatch, PS.print, aOsc, aDcs, aControl, aEscape, aCsi, aPrint, e0, *]; done)
    | (simp only [PS.actW, PS.begin, PS.endA, PS.bell, PS.keep, PS.inters, PS.finish, PS.param, PS.number, PS.more, PS.digit, PS.dispatch, PS.print, aOsc, aDcs, aControl, aEscape, aCsi, aPrint, e0, and_true, true_and, and_false, false_and, or_true, true_or, or_false, false_or, if_true, if_false, List.append_nil, not_true_eq_false, not_false_eq_true, *]; first | done | rfl)
end T13
end
section
open Go Sx Go.Proofs T12
namespace T13
set_option maxRecDepth 100000
set_option maxHeartbeats 8000000
attribute [local irreducible] Tree.Leads
theorem v32_7 (st : Int) (h : ByteArray) (it : List Int) (wr fi : Bool) (mk : Int) (nu : List Int) (fu : Bool) (tx : List Int) (ac : List aty.den) (b : Int) (Q : SV × Heap × List Nat → Prop) (hb : Byte b) (hac : ac.length ≤ 1000000) (hok : PS.OK ⟨st, strInts h, it, wr, fi, mk, nu, fu, tx⟩)
    (hq : GoesW (PS.actW ⟨st, strInts h, it, wr, fi, mk, nu, fu, tx⟩ 7 b) ac Q) : (bodySumm T10 Tryz.prog Tryz.f61 N22 [.ptr 0 0, .lit (.int .i64 7), .lit (.int .u8 b)] (pheap st h it wr fi mk nu fu tx ac)).Leads Q := by
  refine Sx.by_text (q :=
   br (decide ((↑(List.length tx) : Int) < (60 : Int))) (1 ≤ 1 ∧ List.length tx = List.length tx ∧ ((↑(List.length tx + 1) : Int) ≤ (9223372036854775807 : Int) ∧ (List.length
   tx + 1) * Sx.bytesOf Go.Proofs.Tryz.prog 5 ≤ 140737488355328) ∧ Q (SV.tup ([] : List Sx.SV), T13.rows st h it (List.length it) wr fi mk nu (List.length nu) fu (tx ++ [b])
   (List.length tx + 1) ac (List.length ac), [3])) (Q (SV.tup ([] : List Sx.SV), T13.rows st h it (List.length it) wr fi mk nu (List.length nu) fu tx (List.length tx) ac
   (List.length ac), []))) (by kernel_rfl) ?_
  have hbs : bytesOf Tryz.prog 69 = 88 := by kernel_rfl
  have hbt : bytesOf Tryz.prog 5 = 1 := by kernel_rfl
  have hbi : bytesOf Tryz.prog 3 = 8 := by kernel_rfl
  have hbr : bytesOf Tryz.prog 21 = 4 := by kernel_rfl
  obtain ⟨_, ok1, ok0, ok2, ok3, ok4, ok5⟩ := hok
  simp only at ok1 ok0 ok2 ok3 ok4 ok5
  have hw64 : IntKind.i64.wrap b = b := by have := hb.1; have := hb.2; rw [IntKind.wrap_i64]; omega
  have hw32 : IntKind.i32.wrap b = b := by have := hb.1; have := hb.2; rw [IntKind.wrap_i32]; omega
  unfold GoesW at hq
  try simp only [List.take_length, List.drop_zero, hbs, hbt, hbi, hbr]
  repeat' first
    | (intro _ _)
    | (refine br_intro (fun h => ?_) (fun h => ?_))
    | (refine And.intro ?_ ?_)
  all_goals first | omega | trivial | (simp only [beq_iff_eq, beq_eq_false_iff_ne, decide_eq_true_eq, decide_eq_false_iff_not, ne_eq, Bool.not_eq_true', Bool.not_eq_false'] at *) | skip
  all_goals first | omega | refine hq _ _ _ _ _ _ _ _ _ _ _ _ _ _ _ ?_ ?_ ?_ ?_ ?_ ?_ rfl
  all_goals clear hq
  all_goals first
    | rfl
    | (simp only [List.length_append, List.length_cons, List.length_nil]; done)
    | (simp [PS.actW, PS.begin, PS.endA, PS.bell, PS.keep, PS.inters, PS.finish, PS.param, PS.number, PS.more, PS.digit, PS.dispatch, PS.print, aOsc, aDcs, aControl, aEscape, aCsi, aPrint, e0, *]; done)
    | (simp only [PS.actW, PS.begin, PS.endA, PS.bell, PS.keep, PS.inters, PS.finish, PS.param, PS.number, PS.more, PS.digit, PS.dispatch, PS.print, aOsc, aDcs, aControl, aEscape, aCsi, aPrint, e0, and_true, true_and, and_false, false_and, or_true, true_or, or_false, false_or, if_true, if_false, List.append_nil, not_true_eq_false, not_false_eq_true, *]; first | done | rfl)
end T13
end
section
open Go Sx Go.Proofs T12
namespace T13
set_option maxRecDepth 100000
set_option maxHeartbeats 8000000
attribute [local irreducible] Tree.Leads
theorem v32_8 (st : Int) (h : ByteArray) (it : List Int) (wr fi : Bool) (mk : Int) (nu : List Int) (fu : Bool) (tx : List Int) (ac : List aty.den) (b : Int) (Q : SV × Heap × List Nat → Prop) (hb : Byte b) (hac : ac.length ≤ 1000000) (hok : PS.OK ⟨st, strInts h, it, wr, fi, mk, nu, fu, tx⟩)
    (hq : GoesW (PS.actW ⟨st, strInts h, it, wr, fi, mk, nu, fu, tx⟩ 8 b) ac Q) : (bodySumm T10 Tryz.prog Tryz.f61 N22 [.ptr 0 0, .lit (.int .i64 8), .lit (.int .u8 b)] (pheap st h it wr fi mk nu fu tx ac)).Leads Q := by
  refine Sx.by_text (q :=
   br (b == (7 : Int)) (br (st == (3 : Int)) (0 + List.length tx ≤ List.length tx ∧ 0 ≤ 0 ∧ (List.length ac = List.length ac ∧ 1 = 1) ∧ ((↑(List.length ac + 1) : Int) ≤
   (9223372036854775807 : Int) ∧ (List.length ac + 1) * Sx.bytesOf Go.Proofs.Tryz.prog 69 ≤ 140737488355328) ∧ Q (SV.tup ([] : List Sx.SV), T13.rows (0 : Int) h [] 0 false
   true (0 : Int) [] 0 false [] 0 (ac ++ [((5 : Int), (0 : Int), (0 : Int), (0 : Int), [], { data := #[] }, Sx.bsOf (List.take (List.length tx) (List.drop 0 tx)))])
   (List.length ac + 1), [1, 2, 3, 4])) (br (st == (4 : Int)) (0 + List.length tx ≤ List.length tx ∧ 0 ≤ 0 ∧ (List.length ac = List.length ac ∧ 1 = 1) ∧ ((↑(List.length ac +
   1) : Int) ≤ (9223372036854775807 : Int) ∧ (List.length ac + 1) * Sx.bytesOf Go.Proofs.Tryz.prog 69 ≤ 140737488355328) ∧ Q (SV.tup ([] : List Sx.SV), T13.rows (0 : Int) h
   [] 0 false true (0 : Int) [] 0 false [] 0 (ac ++ [((6 : Int), (0 : Int), (0 : Int), (0 : Int), [], { data := #[] }, Sx.bsOf (List.take (List.length tx) (List.drop 0
   tx)))]) (List.length ac + 1), [1, 2, 3, 4])) (Q (SV.tup ([] : List Sx.SV), T13.rows (0 : Int) h [] 0 false true (0 : Int) [] 0 false [] 0 ac (List.length ac), [1, 2,
   3])))) (Q (SV.tup ([] : List Sx.SV), T13.rows st h it (List.length it) wr fi mk nu (List.length nu) fu tx (List.length tx) ac (List.length ac), []))) (by kernel_rfl) ?_
  have hbs : bytesOf Tryz.prog 69 = 88 := by kernel_rfl
  have hbt : bytesOf Tryz.prog 5 = 1 := by kernel_rfl
  have hbi : bytesOf Tryz.prog 3 = 8 := by kernel_rfl
  have hbr : bytesOf Tryz.prog 21 = 4 := by kernel_rfl
  obtain ⟨_, ok1, ok0, ok2, ok3, ok4, ok5⟩ := hok
  simp only at ok1 ok0 ok2 ok3 ok4 ok5
  have hw64 : IntKind.i64.wrap b = b := by have := hb.1; have := hb.2; rw [IntKind.wrap_i64]; omega
  have hw32 : IntKind.i32.wrap b = b := by have := hb.1; have := hb.2; rw [IntKind.wrap_i32]; omega
  unfold GoesW at hq
  try simp only [List.take_length, List.drop_zero, hbs, hbt, hbi, hbr]
  repeat' first
    | (intro _ _)
    | (refine br_intro (fun h => ?_) (fun h => ?_))
    | (refine And.intro ?_ ?_)
  all_goals first | omega | trivial | (simp only [beq_iff_eq, beq_eq_false_iff_ne, decide_eq_true_eq, decide_eq_false_iff_not, ne_eq, Bool.not_eq_true', Bool.not_eq_false'] at *) | skip
  all_goals first | omega | refine hq _ _ _ _ _ _ _ _ _ _ _ _ _ _ _ ?_ ?_ ?_ ?_ ?_ ?_ rfl
  all_goals clear hq
  all_goals first
    | rfl
    | (simp only [List.length_append, List.length_cons, List.length_nil]; done)
    | (simp [PS.actW, PS.begin, PS.endA, PS.bell, PS.keep, PS.inters, PS.finish, PS.param, PS.number, PS.more, PS.digit, PS.dispatch, PS.print, aOsc, aDcs, aControl, aEscape, aCsi, aPrint, e0, *]; done)
    | (simp only [PS.actW, PS.begin, PS.endA, PS.bell, PS.keep, PS.inters, PS.finish, PS.param, PS.number, PS.more, PS.digit, PS.dispatch, PS.print, aOsc, aDcs, aControl, aEscape, aCsi, aPrint, e0, and_true, true_and, and_false, false_and, or_true, true_or, or_false, false_or, if_true, if_false, List.append_nil, not_true_eq_false, not_false_eq_true, *]; first | done | rfl)
end T13
end
