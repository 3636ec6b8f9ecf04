/- Part of a proof: the walk of the functions that the law calls. -/
import Derived.Test.YtlcobcpgaoeijaaSxT
import Derived.Test.YtlcobcpgaoeijaaXT13h
open Go Sx Go.Proofs T12
namespace T13
set_option maxRecDepth 100000
set_option maxHeartbeats 4000000
attribute [local irreducible] Tree.Leads
set_option linter.unusedVariables false
noncomputable def V2 : Table := (((V1.add 17 (.go s17)).add 15 (.go s15)).add 16 (.go s16)).add 18 (.go s18)
theorem V2_ok : TableOK Try.prog V2 := add_ok (add_ok (add_ok (add_ok V1_ok s17_ok) s15_ok) s16_ok) s18_ok
theorem br_yes {c : Bool} {p q : Prop} (h : c = true) (hp : p) : br c p q := by rw [h]; exact hp
theorem br_no {c : Bool} {p q : Prop} (h : c = false) (hq : q) : br c p q := by rw [h]; exact hq
theorem v10 (Q : SV × Heap × List Nat → Prop) (hq : Q (.lit (.bool true), [], [])) : (bodySumm V2 Try.prog Try.f10 noAn [] []).Leads Q := by
  refine Sx.by_text (q :=
      (T13.newP = T13.newP ∧
          (2 : Nat) ≤ (2 : Nat) ∧
            T13.FeedOK T13.ps0 [{ data := #[(97 : UInt8), (27 : UInt8), (91 : UInt8), (49 : UInt8), (59 : UInt8)] }, { data := #[(50 : UInt8), (72 : UInt8), (98 : UInt8)] }]) ∧
        ∀ (b : T13.PS × List (Sx.Ty.den T13.aty)),
          T13.FeedOf T13.ps0 [{ data := #[(97 : UInt8), (27 : UInt8), (91 : UInt8), (49 : UInt8), (59 : UInt8)] }, { data := #[(50 : UInt8), (72 : UInt8), (98 : UInt8)] }] b →
            Sx.br ((↑(List.length (Prod.snd b)) : Int) == (3 : Int))
              (((0 : Int) ≤ (0 : Int) ∧ (0 : Int) < (↑(List.length (Prod.snd b)) : Int)) ∧
                (0 : Nat) < List.length (Prod.snd b) ∧
                  Sx.br (Prod.fst (List.getD (Prod.snd b) (0 : Nat) (Sx.Ty.dflt T13.aty)) == (1 : Int))
                    (((0 : Int) ≤ (0 : Int) ∧ (0 : Int) < (↑(List.length (Prod.snd b)) : Int)) ∧
                      (0 : Nat) < List.length (Prod.snd b) ∧
                        Sx.br (Prod.fst (Prod.snd (List.getD (Prod.snd b) (0 : Nat) (Sx.Ty.dflt T13.aty))) == (97 : Int))
                          (((0 : Int) ≤ (1 : Int) ∧ (1 : Int) < (↑(List.length (Prod.snd b)) : Int)) ∧
                            (1 : Nat) < List.length (Prod.snd b) ∧
                              Sx.br (Prod.fst (List.getD (Prod.snd b) (1 : Nat) (Sx.Ty.dflt T13.aty)) == (4 : Int))
                                (((0 : Int) ≤ (1 : Int) ∧ (1 : Int) < (↑(List.length (Prod.snd b)) : Int)) ∧
                                  (1 : Nat) < List.length (Prod.snd b) ∧
                                    Sx.br (Prod.fst (Prod.snd (Prod.snd (List.getD (Prod.snd b) (1 : Nat) (Sx.Ty.dflt T13.aty)))) == (72 : Int))
                                      (((0 : Int) ≤ (1 : Int) ∧ (1 : Int) < (↑(List.length (Prod.snd b)) : Int)) ∧
                                        (1 : Nat) < List.length (Prod.snd b) ∧
                                          Sx.br
                                            ((↑(List.length (Prod.fst (Prod.snd (Prod.snd (Prod.snd (Prod.snd (List.getD (Prod.snd b) (1 : Nat) (Sx.Ty.dflt T13.aty)))))))) : Int) ==
                                              (2 : Int))
                                            (((0 : Int) ≤ (1 : Int) ∧ (1 : Int) < (↑(List.length (Prod.snd b)) : Int)) ∧
                                              (1 : Nat) < List.length (Prod.snd b) ∧
                                                ((0 : Int) ≤ (1 : Int) ∧
                                                    (1 : Int) <
                                                      (↑(List.length (Prod.fst (Prod.snd (Prod.snd (Prod.snd (Prod.snd (List.getD (Prod.snd b) (1 : Nat) (Sx.Ty.dflt T13.aty)))))))) :
                                                        Int)) ∧
                                                  (1 : Nat) < List.length (Prod.fst (Prod.snd (Prod.snd (Prod.snd (Prod.snd (List.getD (Prod.snd b) (1 : Nat) (Sx.Ty.dflt T13.aty))))))) ∧
                                                    Sx.br
                                                      (List.getD (Prod.fst (Prod.snd (Prod.snd (Prod.snd (Prod.snd (List.getD (Prod.snd b) (1 : Nat) (Sx.Ty.dflt T13.aty))))))) (1 : Nat)
                                                          (Sx.Ty.dflt (Sx.Ty.int Go.IntKind.i64)) ==
                                                        (2 : Int))
                                                      (Sx.br (T13.PS.st (Prod.fst b) == (0 : Int))
                                                        (Q (Sx.SV.lit (Go.Value.bool ((↑(ByteArray.size (Sx.bsOf (T13.PS.half (Prod.fst b)))) : Int) == (0 : Int))), ([] : List Sx.SO), []))
                                                        (Q (Sx.SV.lit (Go.Value.bool Bool.false), ([] : List Sx.SO), [])))
                                                      (Q (Sx.SV.lit (Go.Value.bool Bool.false), ([] : List Sx.SO), [])))
                                            (Q (Sx.SV.lit (Go.Value.bool Bool.false), ([] : List Sx.SO), [])))
                                      (Q (Sx.SV.lit (Go.Value.bool Bool.false), ([] : List Sx.SO), [])))
                                (Q (Sx.SV.lit (Go.Value.bool Bool.false), ([] : List Sx.SO), [])))
                          (Q (Sx.SV.lit (Go.Value.bool Bool.false), ([] : List Sx.SO), [])))
                    (Q (Sx.SV.lit (Go.Value.bool Bool.false), ([] : List Sx.SO), [])))
              (Q (Sx.SV.lit (Go.Value.bool Bool.false), ([] : List Sx.SO), []))) (by kernel_rfl) ?_
  have e : pfeed ps0 (flat [({ data := #[97, 27, 91, 49, 59] } : ByteArray), { data := #[50, 72, 98] }]) = (⟨0, [], [], false, true, 0, [], false, []⟩, [aPrint 97, aCsi 0 [1, 2] [] 72, aPrint 98]) := by kernel_rfl
  refine ⟨⟨rfl, by omega, ⟨ps0_ok, by decide, by decide⟩⟩, fun r hr => ?_⟩
  obtain ⟨rfl⟩ := hr
  rw [e]
  repeat' first
    | exact hq
    | refine And.intro ?_ ?_
    | refine br_yes (by decide) ?_
    | refine br_no (by decide) ?_
    | decide
noncomputable def s10 : Summ := fun args H => match args, H with
  | [], [] => .ret (.lit (.bool true), [], [])
  | _, _ => .fail
theorem s10_ok : SummOK Try.prog 10 s10 := by
  refine summ_of_body (fn := Try.f10) (c := Try.f10.body.get!) V2_ok (by kernel_rfl) (by kernel_rfl) (by kernel_rfl) fun args H Q h => ?_
  unfold s10 at h
  split at h
  · simp only [Tree.Leads] at h
    exact ⟨noAn, v10 Q h⟩
  · simp only [Tree.Leads] at h
def gheap (s : PS) : Heap := [.cells 47 (fedP s 1 2 3 nilV), .row 5 (.int .u8) s.inter, .row 3 (.int .i64) s.nums, .row 5 (.int .u8) s.text]
theorem v14 (s : PS) (Q : SV × Heap × List Nat → Prop) (hq : Q (.lit (.bool (s.st == 0 && (bsOf s.half).size == 0)), gheap s, [])) : (bodySumm U5 Try.prog Try.f14 noAn [.ptr 0 0] (gheap s)).Leads Q := by
  refine Sx.by_text (q :=
      Sx.br (T13.PS.st s == (0 : Int))
        (Q
          (Sx.SV.lit (Go.Value.bool ((↑(ByteArray.size (Sx.bsOf (T13.PS.half s))) : Int) == (0 : Int))),
            [Sx.SO.cells (47 : Nat) (T13.fedP s (1 : Nat) (2 : Nat) (3 : Nat) (Sx.SV.lit (Go.Value.slice Option.none (0 : Nat) (0 : Nat)))),
              Sx.SO.row (5 : Nat) (Sx.Ty.int Go.IntKind.u8) (T13.PS.inter s), Sx.SO.row (3 : Nat) (Sx.Ty.int Go.IntKind.i64) (T13.PS.nums s),
              Sx.SO.row (5 : Nat) (Sx.Ty.int Go.IntKind.u8) (T13.PS.text s)],
            []))
        (Q
          (Sx.SV.lit (Go.Value.bool Bool.false),
            [Sx.SO.cells (47 : Nat) (T13.fedP s (1 : Nat) (2 : Nat) (3 : Nat) (Sx.SV.lit (Go.Value.slice Option.none (0 : Nat) (0 : Nat)))),
              Sx.SO.row (5 : Nat) (Sx.Ty.int Go.IntKind.u8) (T13.PS.inter s), Sx.SO.row (3 : Nat) (Sx.Ty.int Go.IntKind.i64) (T13.PS.nums s),
              Sx.SO.row (5 : Nat) (Sx.Ty.int Go.IntKind.u8) (T13.PS.text s)],
            []))) (by kernel_rfl) ?_
  have e : (((bsOf s.half).size : Int) == 0) = ((bsOf s.half).size == 0) := by
    rw [Bool.eq_iff_iff, beq_iff_eq, beq_iff_eq]; omega
  rw [e]
  refine br_intro (fun g => ?_) (fun g => ?_)
  · rw [g, Bool.true_and] at hq; exact hq
  · rw [g, Bool.false_and] at hq; exact hq
theorem v14n (Q : SV × Heap × List Nat → Prop) (hq : Q (.lit (.bool true), [.cells 47 newP], [])) : (bodySumm U5 Try.prog Try.f14 noAn [.ptr 0 0] [.cells 47 newP]).Leads Q := by
  refine Sx.by_text (q :=
      Q (Sx.SV.lit (Go.Value.bool Bool.true), [Sx.SO.cells (47 : Nat) T13.newP], [])) (by kernel_rfl) ?_
  exact hq
theorem v19 (s : PS) (Q : SV × Heap × List Nat → Prop) (h1 : s.inter.length + s.nums.length + s.text.length + (bsOf s.half).size ≤ 1000000) (hq : Q (.lit (.int .i64 ((s.inter.length + s.nums.length + s.text.length + (bsOf s.half).size : Nat) : Int)), gheap s, [])) : (bodySumm U5 Try.prog Try.f19 noAn [.ptr 0 0] (gheap s)).Leads Q := by
  refine Sx.by_text (q :=
      ∀ (b : Bool),
        True →
          Sx.br b
            (∀ (b : Bool),
              True →
                Sx.br b
                  (∀ (b : Bool),
                    True →
                      Sx.br b
                        (Q
                          (Sx.SV.lit
                              (Go.Value.int Go.IntKind.i64
                                (Go.IntKind.wrap Go.IntKind.i64
                                  (Go.IntKind.wrap Go.IntKind.i64
                                      (Go.IntKind.wrap Go.IntKind.i64 ((↑(List.length (T13.PS.inter s)) : Int) + (↑(List.length (T13.PS.nums s)) : Int)) +
                                        (↑(List.length (T13.PS.text s)) : Int)) +
                                    (↑(ByteArray.size (Sx.bsOf (T13.PS.half s))) : Int)))),
                            [Sx.SO.cells (47 : Nat) (T13.fedP s (1 : Nat) (2 : Nat) (3 : Nat) (Sx.SV.lit (Go.Value.slice Option.none (0 : Nat) (0 : Nat)))),
                              Sx.SO.row (5 : Nat) (Sx.Ty.int Go.IntKind.u8) (T13.PS.inter s), Sx.SO.row (3 : Nat) (Sx.Ty.int Go.IntKind.i64) (T13.PS.nums s),
                              Sx.SO.row (5 : Nat) (Sx.Ty.int Go.IntKind.u8) (T13.PS.text s)],
                            []))
                        (Q
                          (Sx.SV.lit
                              (Go.Value.int Go.IntKind.i64
                                (Go.IntKind.wrap Go.IntKind.i64
                                  (Go.IntKind.wrap Go.IntKind.i64
                                      (Go.IntKind.wrap Go.IntKind.i64 ((↑(List.length (T13.PS.inter s)) : Int) + (↑(List.length (T13.PS.nums s)) : Int)) +
                                        (↑(List.length (T13.PS.text s)) : Int)) +
                                    (↑(ByteArray.size (Sx.bsOf (T13.PS.half s))) : Int)))),
                            [Sx.SO.cells (47 : Nat) (T13.fedP s (1 : Nat) (2 : Nat) (3 : Nat) (Sx.SV.lit (Go.Value.slice Option.none (0 : Nat) (0 : Nat)))),
                              Sx.SO.row (5 : Nat) (Sx.Ty.int Go.IntKind.u8) (T13.PS.inter s), Sx.SO.row (3 : Nat) (Sx.Ty.int Go.IntKind.i64) (T13.PS.nums s),
                              Sx.SO.row (5 : Nat) (Sx.Ty.int Go.IntKind.u8) (T13.PS.text s)],
                            [])))
                  (∀ (b : Bool),
                    True →
                      Sx.br b
                        (∀ (b : Bool),
                          True →
                            Sx.br b
                              (Q
                                (Sx.SV.lit
                                    (Go.Value.int Go.IntKind.i64
                                      (Go.IntKind.wrap Go.IntKind.i64
                                        (Go.IntKind.wrap Go.IntKind.i64
                                            (Go.IntKind.wrap Go.IntKind.i64 ((↑(List.length (T13.PS.inter s)) : Int) + (↑(List.length (T13.PS.nums s)) : Int)) +
                                              (↑(List.length (T13.PS.text s)) : Int)) +
                                          (↑(ByteArray.size (Sx.bsOf (T13.PS.half s))) : Int)))),
                                  [Sx.SO.cells (47 : Nat) (T13.fedP s (1 : Nat) (2 : Nat) (3 : Nat) (Sx.SV.lit (Go.Value.slice Option.none (0 : Nat) (0 : Nat)))),
                                    Sx.SO.row (5 : Nat) (Sx.Ty.int Go.IntKind.u8) (T13.PS.inter s), Sx.SO.row (3 : Nat) (Sx.Ty.int Go.IntKind.i64) (T13.PS.nums s),
                                    Sx.SO.row (5 : Nat) (Sx.Ty.int Go.IntKind.u8) (T13.PS.text s)],
                                  []))
                              (Q
                                (Sx.SV.lit
                                    (Go.Value.int Go.IntKind.i64
                                      (Go.IntKind.wrap Go.IntKind.i64
                                        (Go.IntKind.wrap Go.IntKind.i64
                                            (Go.IntKind.wrap Go.IntKind.i64 ((↑(List.length (T13.PS.inter s)) : Int) + (↑(List.length (T13.PS.nums s)) : Int)) +
                                              (↑(List.length (T13.PS.text s)) : Int)) +
                                          (↑(ByteArray.size (Sx.bsOf (T13.PS.half s))) : Int)))),
                                  [Sx.SO.cells (47 : Nat) (T13.fedP s (1 : Nat) (2 : Nat) (3 : Nat) (Sx.SV.lit (Go.Value.slice Option.none (0 : Nat) (0 : Nat)))),
                                    Sx.SO.row (5 : Nat) (Sx.Ty.int Go.IntKind.u8) (T13.PS.inter s), Sx.SO.row (3 : Nat) (Sx.Ty.int Go.IntKind.i64) (T13.PS.nums s),
                                    Sx.SO.row (5 : Nat) (Sx.Ty.int Go.IntKind.u8) (T13.PS.text s)],
                                  [])))
                        (Q
                          (Sx.SV.lit
                              (Go.Value.int Go.IntKind.i64
                                (Go.IntKind.wrap Go.IntKind.i64
                                  (Go.IntKind.wrap Go.IntKind.i64
                                      (Go.IntKind.wrap Go.IntKind.i64 ((↑(List.length (T13.PS.inter s)) : Int) + (↑(List.length (T13.PS.nums s)) : Int)) +
                                        (↑(List.length (T13.PS.text s)) : Int)) +
                                    (↑(ByteArray.size (Sx.bsOf (T13.PS.half s))) : Int)))),
                            [Sx.SO.cells (47 : Nat) (T13.fedP s (1 : Nat) (2 : Nat) (3 : Nat) (Sx.SV.lit (Go.Value.slice Option.none (0 : Nat) (0 : Nat)))),
                              Sx.SO.row (5 : Nat) (Sx.Ty.int Go.IntKind.u8) (T13.PS.inter s), Sx.SO.row (3 : Nat) (Sx.Ty.int Go.IntKind.i64) (T13.PS.nums s),
                              Sx.SO.row (5 : Nat) (Sx.Ty.int Go.IntKind.u8) (T13.PS.text s)],
                            []))))
            (∀ (b : Bool),
              True →
                Sx.br b
                  (∀ (b : Bool),
                    True →
                      Sx.br b
                        (∀ (b : Bool),
                          True →
                            Sx.br b
                              (Q
                                (Sx.SV.lit
                                    (Go.Value.int Go.IntKind.i64
                                      (Go.IntKind.wrap Go.IntKind.i64
                                        (Go.IntKind.wrap Go.IntKind.i64
                                            (Go.IntKind.wrap Go.IntKind.i64 ((↑(List.length (T13.PS.inter s)) : Int) + (↑(List.length (T13.PS.nums s)) : Int)) +
                                              (↑(List.length (T13.PS.text s)) : Int)) +
                                          (↑(ByteArray.size (Sx.bsOf (T13.PS.half s))) : Int)))),
                                  [Sx.SO.cells (47 : Nat) (T13.fedP s (1 : Nat) (2 : Nat) (3 : Nat) (Sx.SV.lit (Go.Value.slice Option.none (0 : Nat) (0 : Nat)))),
                                    Sx.SO.row (5 : Nat) (Sx.Ty.int Go.IntKind.u8) (T13.PS.inter s), Sx.SO.row (3 : Nat) (Sx.Ty.int Go.IntKind.i64) (T13.PS.nums s),
                                    Sx.SO.row (5 : Nat) (Sx.Ty.int Go.IntKind.u8) (T13.PS.text s)],
                                  []))
                              (Q
                                (Sx.SV.lit
                                    (Go.Value.int Go.IntKind.i64
                                      (Go.IntKind.wrap Go.IntKind.i64
                                        (Go.IntKind.wrap Go.IntKind.i64
                                            (Go.IntKind.wrap Go.IntKind.i64 ((↑(List.length (T13.PS.inter s)) : Int) + (↑(List.length (T13.PS.nums s)) : Int)) +
                                              (↑(List.length (T13.PS.text s)) : Int)) +
                                          (↑(ByteArray.size (Sx.bsOf (T13.PS.half s))) : Int)))),
                                  [Sx.SO.cells (47 : Nat) (T13.fedP s (1 : Nat) (2 : Nat) (3 : Nat) (Sx.SV.lit (Go.Value.slice Option.none (0 : Nat) (0 : Nat)))),
                                    Sx.SO.row (5 : Nat) (Sx.Ty.int Go.IntKind.u8) (T13.PS.inter s), Sx.SO.row (3 : Nat) (Sx.Ty.int Go.IntKind.i64) (T13.PS.nums s),
                                    Sx.SO.row (5 : Nat) (Sx.Ty.int Go.IntKind.u8) (T13.PS.text s)],
                                  [])))
                        (∀ (b : Bool),
                          True →
                            Sx.br b
                              (∀ (b : Bool),
                                True →
                                  Sx.br b
                                    (Q
                                      (Sx.SV.lit
                                          (Go.Value.int Go.IntKind.i64
                                            (Go.IntKind.wrap Go.IntKind.i64
                                              (Go.IntKind.wrap Go.IntKind.i64
                                                  (Go.IntKind.wrap Go.IntKind.i64 ((↑(List.length (T13.PS.inter s)) : Int) + (↑(List.length (T13.PS.nums s)) : Int)) +
                                                    (↑(List.length (T13.PS.text s)) : Int)) +
                                                (↑(ByteArray.size (Sx.bsOf (T13.PS.half s))) : Int)))),
                                        [Sx.SO.cells (47 : Nat) (T13.fedP s (1 : Nat) (2 : Nat) (3 : Nat) (Sx.SV.lit (Go.Value.slice Option.none (0 : Nat) (0 : Nat)))),
                                          Sx.SO.row (5 : Nat) (Sx.Ty.int Go.IntKind.u8) (T13.PS.inter s), Sx.SO.row (3 : Nat) (Sx.Ty.int Go.IntKind.i64) (T13.PS.nums s),
                                          Sx.SO.row (5 : Nat) (Sx.Ty.int Go.IntKind.u8) (T13.PS.text s)],
                                        []))
                                    (Q
                                      (Sx.SV.lit
                                          (Go.Value.int Go.IntKind.i64
                                            (Go.IntKind.wrap Go.IntKind.i64
                                              (Go.IntKind.wrap Go.IntKind.i64
                                                  (Go.IntKind.wrap Go.IntKind.i64 ((↑(List.length (T13.PS.inter s)) : Int) + (↑(List.length (T13.PS.nums s)) : Int)) +
                                                    (↑(List.length (T13.PS.text s)) : Int)) +
                                                (↑(ByteArray.size (Sx.bsOf (T13.PS.half s))) : Int)))),
                                        [Sx.SO.cells (47 : Nat) (T13.fedP s (1 : Nat) (2 : Nat) (3 : Nat) (Sx.SV.lit (Go.Value.slice Option.none (0 : Nat) (0 : Nat)))),
                                          Sx.SO.row (5 : Nat) (Sx.Ty.int Go.IntKind.u8) (T13.PS.inter s), Sx.SO.row (3 : Nat) (Sx.Ty.int Go.IntKind.i64) (T13.PS.nums s),
                                          Sx.SO.row (5 : Nat) (Sx.Ty.int Go.IntKind.u8) (T13.PS.text s)],
                                        [])))
                              (Q
                                (Sx.SV.lit
                                    (Go.Value.int Go.IntKind.i64
                                      (Go.IntKind.wrap Go.IntKind.i64
                                        (Go.IntKind.wrap Go.IntKind.i64
                                            (Go.IntKind.wrap Go.IntKind.i64 ((↑(List.length (T13.PS.inter s)) : Int) + (↑(List.length (T13.PS.nums s)) : Int)) +
                                              (↑(List.length (T13.PS.text s)) : Int)) +
                                          (↑(ByteArray.size (Sx.bsOf (T13.PS.half s))) : Int)))),
                                  [Sx.SO.cells (47 : Nat) (T13.fedP s (1 : Nat) (2 : Nat) (3 : Nat) (Sx.SV.lit (Go.Value.slice Option.none (0 : Nat) (0 : Nat)))),
                                    Sx.SO.row (5 : Nat) (Sx.Ty.int Go.IntKind.u8) (T13.PS.inter s), Sx.SO.row (3 : Nat) (Sx.Ty.int Go.IntKind.i64) (T13.PS.nums s),
                                    Sx.SO.row (5 : Nat) (Sx.Ty.int Go.IntKind.u8) (T13.PS.text s)],
                                  []))))
                  (∀ (b : Bool),
                    True →
                      Sx.br b
                        (∀ (b : Bool),
                          True →
                            Sx.br b
                              (∀ (b : Bool),
                                True →
                                  Sx.br b
                                    (Q
                                      (Sx.SV.lit
                                          (Go.Value.int Go.IntKind.i64
                                            (Go.IntKind.wrap Go.IntKind.i64
                                              (Go.IntKind.wrap Go.IntKind.i64
                                                  (Go.IntKind.wrap Go.IntKind.i64 ((↑(List.length (T13.PS.inter s)) : Int) + (↑(List.length (T13.PS.nums s)) : Int)) +
                                                    (↑(List.length (T13.PS.text s)) : Int)) +
                                                (↑(ByteArray.size (Sx.bsOf (T13.PS.half s))) : Int)))),
                                        [Sx.SO.cells (47 : Nat) (T13.fedP s (1 : Nat) (2 : Nat) (3 : Nat) (Sx.SV.lit (Go.Value.slice Option.none (0 : Nat) (0 : Nat)))),
                                          Sx.SO.row (5 : Nat) (Sx.Ty.int Go.IntKind.u8) (T13.PS.inter s), Sx.SO.row (3 : Nat) (Sx.Ty.int Go.IntKind.i64) (T13.PS.nums s),
                                          Sx.SO.row (5 : Nat) (Sx.Ty.int Go.IntKind.u8) (T13.PS.text s)],
                                        []))
                                    (Q
                                      (Sx.SV.lit
                                          (Go.Value.int Go.IntKind.i64
                                            (Go.IntKind.wrap Go.IntKind.i64
                                              (Go.IntKind.wrap Go.IntKind.i64
                                                  (Go.IntKind.wrap Go.IntKind.i64 ((↑(List.length (T13.PS.inter s)) : Int) + (↑(List.length (T13.PS.nums s)) : Int)) +
                                                    (↑(List.length (T13.PS.text s)) : Int)) +
                                                (↑(ByteArray.size (Sx.bsOf (T13.PS.half s))) : Int)))),
                                        [Sx.SO.cells (47 : Nat) (T13.fedP s (1 : Nat) (2 : Nat) (3 : Nat) (Sx.SV.lit (Go.Value.slice Option.none (0 : Nat) (0 : Nat)))),
                                          Sx.SO.row (5 : Nat) (Sx.Ty.int Go.IntKind.u8) (T13.PS.inter s), Sx.SO.row (3 : Nat) (Sx.Ty.int Go.IntKind.i64) (T13.PS.nums s),
                                          Sx.SO.row (5 : Nat) (Sx.Ty.int Go.IntKind.u8) (T13.PS.text s)],
                                        [])))
                              (∀ (b : Bool),
                                True →
                                  Sx.br b
                                    (∀ (b : Bool),
                                      True →
                                        Sx.br b
                                          (Q
                                            (Sx.SV.lit
                                                (Go.Value.int Go.IntKind.i64
                                                  (Go.IntKind.wrap Go.IntKind.i64
                                                    (Go.IntKind.wrap Go.IntKind.i64
                                                        (Go.IntKind.wrap Go.IntKind.i64 ((↑(List.length (T13.PS.inter s)) : Int) + (↑(List.length (T13.PS.nums s)) : Int)) +
                                                          (↑(List.length (T13.PS.text s)) : Int)) +
                                                      (↑(ByteArray.size (Sx.bsOf (T13.PS.half s))) : Int)))),
                                              [Sx.SO.cells (47 : Nat) (T13.fedP s (1 : Nat) (2 : Nat) (3 : Nat) (Sx.SV.lit (Go.Value.slice Option.none (0 : Nat) (0 : Nat)))),
                                                Sx.SO.row (5 : Nat) (Sx.Ty.int Go.IntKind.u8) (T13.PS.inter s), Sx.SO.row (3 : Nat) (Sx.Ty.int Go.IntKind.i64) (T13.PS.nums s),
                                                Sx.SO.row (5 : Nat) (Sx.Ty.int Go.IntKind.u8) (T13.PS.text s)],
                                              []))
                                          (Q
                                            (Sx.SV.lit
                                                (Go.Value.int Go.IntKind.i64
                                                  (Go.IntKind.wrap Go.IntKind.i64
                                                    (Go.IntKind.wrap Go.IntKind.i64
                                                        (Go.IntKind.wrap Go.IntKind.i64 ((↑(List.length (T13.PS.inter s)) : Int) + (↑(List.length (T13.PS.nums s)) : Int)) +
                                                          (↑(List.length (T13.PS.text s)) : Int)) +
                                                      (↑(ByteArray.size (Sx.bsOf (T13.PS.half s))) : Int)))),
                                              [Sx.SO.cells (47 : Nat) (T13.fedP s (1 : Nat) (2 : Nat) (3 : Nat) (Sx.SV.lit (Go.Value.slice Option.none (0 : Nat) (0 : Nat)))),
                                                Sx.SO.row (5 : Nat) (Sx.Ty.int Go.IntKind.u8) (T13.PS.inter s), Sx.SO.row (3 : Nat) (Sx.Ty.int Go.IntKind.i64) (T13.PS.nums s),
                                                Sx.SO.row (5 : Nat) (Sx.Ty.int Go.IntKind.u8) (T13.PS.text s)],
                                              [])))
                                    (Q
                                      (Sx.SV.lit
                                          (Go.Value.int Go.IntKind.i64
                                            (Go.IntKind.wrap Go.IntKind.i64
                                              (Go.IntKind.wrap Go.IntKind.i64
                                                  (Go.IntKind.wrap Go.IntKind.i64 ((↑(List.length (T13.PS.inter s)) : Int) + (↑(List.length (T13.PS.nums s)) : Int)) +
                                                    (↑(List.length (T13.PS.text s)) : Int)) +
                                                (↑(ByteArray.size (Sx.bsOf (T13.PS.half s))) : Int)))),
                                        [Sx.SO.cells (47 : Nat) (T13.fedP s (1 : Nat) (2 : Nat) (3 : Nat) (Sx.SV.lit (Go.Value.slice Option.none (0 : Nat) (0 : Nat)))),
                                          Sx.SO.row (5 : Nat) (Sx.Ty.int Go.IntKind.u8) (T13.PS.inter s), Sx.SO.row (3 : Nat) (Sx.Ty.int Go.IntKind.i64) (T13.PS.nums s),
                                          Sx.SO.row (5 : Nat) (Sx.Ty.int Go.IntKind.u8) (T13.PS.text s)],
                                        []))))
                        (Q
                          (Sx.SV.lit
                              (Go.Value.int Go.IntKind.i64
                                (Go.IntKind.wrap Go.IntKind.i64
                                  (Go.IntKind.wrap Go.IntKind.i64
                                      (Go.IntKind.wrap Go.IntKind.i64 ((↑(List.length (T13.PS.inter s)) : Int) + (↑(List.length (T13.PS.nums s)) : Int)) +
                                        (↑(List.length (T13.PS.text s)) : Int)) +
                                    (↑(ByteArray.size (Sx.bsOf (T13.PS.half s))) : Int)))),
                            [Sx.SO.cells (47 : Nat) (T13.fedP s (1 : Nat) (2 : Nat) (3 : Nat) (Sx.SV.lit (Go.Value.slice Option.none (0 : Nat) (0 : Nat)))),
                              Sx.SO.row (5 : Nat) (Sx.Ty.int Go.IntKind.u8) (T13.PS.inter s), Sx.SO.row (3 : Nat) (Sx.Ty.int Go.IntKind.i64) (T13.PS.nums s),
                              Sx.SO.row (5 : Nat) (Sx.Ty.int Go.IntKind.u8) (T13.PS.text s)],
                            []))))) (by kernel_rfl) ?_
  have e : IntKind.i64.wrap (IntKind.i64.wrap (IntKind.i64.wrap ((s.inter.length : Int) + (s.nums.length : Int)) + (s.text.length : Int)) + ((bsOf s.half).size : Int)) = ((s.inter.length + s.nums.length + s.text.length + (bsOf s.half).size : Nat) : Int) := by
    rw [IntKind.wrap_i64, IntKind.wrap_i64, IntKind.wrap_i64]; omega
  rw [e]
  repeat' first
    | exact hq
    | exact True.intro
    | refine And.intro ?_ ?_
    | refine br_intro (fun g => ?_) (fun g => ?_)
    | intro _ _
structure KeptOK (s : PS) : Prop where
  le : s.inter.length + s.nums.length + s.text.length + (bsOf s.half).size ≤ 1000000
noncomputable def s14 : Summ := fun args H => match args, H with
  | [.ptr 0 0], [.cells 47 cs] => .need (cs = newP) (.ret (.lit (.bool true), [.cells 47 cs], []))
  | [.ptr 0 0], [.cells 47 cs, .row 5 (.int .u8) it, .row 3 (.int .i64) nu, .row 5 (.int .u8) tx] => match cs.drop 33 with
    | [.lit (.int .i64 st), .lit (.string h), .sl 1 1 0 ni, .lit (.bool wr), .lit (.bool fi), .lit (.int .i64 mk), .sl 2 1 0 nn, .lit (.bool fu), .sl 3 1 0 nt, .lit (.slice none 0 0)] =>
      .need (cs = fedP ⟨st, strInts h, it, wr, fi, mk, nu, fu, tx⟩ 1 2 3 nilV) (.ret (.lit (.bool (st == 0 && h.size == 0)), [.cells 47 cs, .row 5 (.int .u8) it, .row 3 (.int .i64) nu, .row 5 (.int .u8) tx], []))
    | _ => .fail
  | _, _ => .fail
theorem s14_ok : SummOK Try.prog 14 s14 := by
  refine summ_of_body (fn := Try.f14) (c := Try.f14.body.get!) U5_ok (by kernel_rfl) (by kernel_rfl) (by kernel_rfl) fun args H Q h => ?_
  unfold s14 at h
  split at h
  · simp only [Tree.Leads] at h
    obtain ⟨rfl, hq⟩ := h
    exact ⟨noAn, v14n Q hq⟩
  · split at h
    case h_2 => simp only [Tree.Leads] at h
    rename_i it nu tx _ st h' ni wr fi mk nn fu nt hcs
    simp only [Tree.Leads] at h
    obtain ⟨rfl, hq⟩ := h
    refine ⟨noAn, v14 ⟨st, strInts h', it, wr, fi, mk, nu, fu, tx⟩ Q ?_⟩
    rw [show (⟨st, strInts h', it, wr, fi, mk, nu, fu, tx⟩ : PS).half = strInts h' from rfl, bsOf_strInts]; exact hq
  · simp only [Tree.Leads] at h
noncomputable def s19 : Summ := fun args H => match args, H with
  | [.ptr 0 0], [.cells 47 cs, .row 5 (.int .u8) it, .row 3 (.int .i64) nu, .row 5 (.int .u8) tx] => match cs.drop 33 with
    | [.lit (.int .i64 st), .lit (.string h), .sl 1 1 0 ni, .lit (.bool wr), .lit (.bool fi), .lit (.int .i64 mk), .sl 2 1 0 nn, .lit (.bool fu), .sl 3 1 0 nt, .lit (.slice none 0 0)] =>
      .need (cs = fedP ⟨st, strInts h, it, wr, fi, mk, nu, fu, tx⟩ 1 2 3 nilV ∧ KeptOK ⟨st, strInts h, it, wr, fi, mk, nu, fu, tx⟩) (.ret (.lit (.int .i64 ((it.length + nu.length + tx.length + h.size : Nat) : Int)), [.cells 47 cs, .row 5 (.int .u8) it, .row 3 (.int .i64) nu, .row 5 (.int .u8) tx], []))
    | _ => .fail
  | _, _ => .fail
theorem s19_ok : SummOK Try.prog 19 s19 := by
  refine summ_of_body (fn := Try.f19) (c := Try.f19.body.get!) U5_ok (by kernel_rfl) (by kernel_rfl) (by kernel_rfl) fun args H Q h => ?_
  unfold s19 at h
  split at h
  · split at h
    case h_2 => simp only [Tree.Leads] at h
    rename_i it nu tx _ st h' ni wr fi mk nn fu nt hcs
    simp only [Tree.Leads] at h
    obtain ⟨⟨rfl, hk⟩, hq⟩ := h
    refine ⟨noAn, v19 ⟨st, strInts h', it, wr, fi, mk, nu, fu, tx⟩ Q hk.le ?_⟩
    rw [show (⟨st, strInts h', it, wr, fi, mk, nu, fu, tx⟩ : PS).half = strInts h' from rfl, bsOf_strInts]; exact hq
  · simp only [Tree.Leads] at h
noncomputable def V3 : Table := ((V2.add 10 (.go s10)).add 14 (.go s14)).add 19 (.go s19)
theorem V3_ok : TableOK Try.prog V3 := add_ok (add_ok (add_ok V2_ok s10_ok) s14_ok) s19_ok
end T13
