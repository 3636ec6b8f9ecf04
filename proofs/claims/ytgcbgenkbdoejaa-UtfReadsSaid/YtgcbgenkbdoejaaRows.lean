/-
  No cell of these rows narrows 'for every input' (looked for: loops, veiled, ifaces, maps, wideKeys, modest, calm, conditions, laid).
  DERIVED. THE GIVEN ROWS OF THIS SEAT. 6 by the template 'for every input the law returns true; each argument reads behind the call as it read before'; 0 by the template 'total and deterministic' (their statements: YtgcbgenkbdoejaaTotals.lean).
  GIVEN WITH THE SEED: the statements are not yours to turn. If you find one false, say at which input.
  Laid BY PROGRAM, IN A SANDBOX (cutbox-rows.mjs): the forced cells as the released guide's own fill.sh prints them over the translation 6cc6048339319d6e… (all of the seat's roots in one cut). By AI agents, Wed Nov 11 2026. No macro, syntax, notation, axiom, sorry.
-/
import Derived.Test.YtgcbgenkbdoejaaChecked
import GoSem.Claim
import GoSem.ClaimJoined
import GoSem.ClaimMapViews
import Derived.JoinedTies
import Derived.KernelRfl
namespace Go.Proofs.Ytgcbgenkbdoejaa
/- THE CELL 'sum', in the pinned program and in every row, IS THE sha256 OF THE DUMP (.gsa) THAT YtgcbgenkbdoejaaProg.lean LOADS. Nothing in Lean hashes anything: it is a label: what it is worth is what the hold of that sum in a sandbox is worth. -/
noncomputable def Try.pinned : Pinned := { name := "ytgcbgenkbdoejaa", sum := "6cc6048339319d6e5cd732a04b8d139ec3f0c86881eef86b611bce632de7d031", checked := Try.checked }
namespace Rows
def none {H : Type} : Left H := { results := [], args := [] }

/-- 'pontoonlaw12.UtfTexts': WHATEVER THE INPUT: true; the input reads as it did. -/
def utfTextsSpec : ChangeSpec := { name := "utfTexts", fn := fun _ => fun
  | [d] => { results := [.lit (.bool true)], args := [d] }
  | _ => none }
def utfTextsRow : OpenClaim := { program := "ytgcbgenkbdoejaa", sum := "6cc6048339319d6e5cd732a04b8d139ec3f0c86881eef86b611bce632de7d031", func := "pontoon/pontoonlaw12.UtfTexts", spec := "utfTexts", recurses := true, apart := false }
def UtfTextsSaid : Prop := utfTextsRow.holds Try.pinned (OpenSpec.ofChange utfTextsSpec)

/-- ITS FALSE NEIGHBOUR: 'it returns false'. Refute it at one input. -/
def utfTextsWrong : ChangeSpec := { name := "utfTexts", fn := fun _ => fun
  | [d] => { results := [.lit (.bool false)], args := [d] }
  | _ => none }
def UtfTextsWrongFalsely : Prop := utfTextsRow.holds Try.pinned (OpenSpec.ofChange utfTextsWrong)

/-- 'pontoonlaw12.UtfBad': WHATEVER THE INPUT: true; the input reads as it did. -/
def utfBadSpec : ChangeSpec := { name := "utfBad", fn := fun _ => fun
  | [d1, d2] => { results := [.lit (.bool true)], args := [d1, d2] }
  | _ => none }
def utfBadRow : OpenClaim := { program := "ytgcbgenkbdoejaa", sum := "6cc6048339319d6e5cd732a04b8d139ec3f0c86881eef86b611bce632de7d031", func := "pontoon/pontoonlaw12.UtfBad", spec := "utfBad", recurses := true, apart := false }
def UtfBadSaid : Prop := utfBadRow.holds Try.pinned (OpenSpec.ofChange utfBadSpec)

/-- ITS FALSE NEIGHBOUR: 'it returns false'. Refute it at one input. -/
def utfBadWrong : ChangeSpec := { name := "utfBad", fn := fun _ => fun
  | [d1, d2] => { results := [.lit (.bool false)], args := [d1, d2] }
  | _ => none }
def UtfBadWrongFalsely : Prop := utfBadRow.holds Try.pinned (OpenSpec.ofChange utfBadWrong)

/-- 'pontoonlaw12.UtfCuts': WHATEVER THE INPUT: true; the input reads as it did. -/
def utfCutsSpec : ChangeSpec := { name := "utfCuts", fn := fun _ => fun
  | [d1, d2] => { results := [.lit (.bool true)], args := [d1, d2] }
  | _ => none }
def utfCutsRow : OpenClaim := { program := "ytgcbgenkbdoejaa", sum := "6cc6048339319d6e5cd732a04b8d139ec3f0c86881eef86b611bce632de7d031", func := "pontoon/pontoonlaw12.UtfCuts", spec := "utfCuts", recurses := true, apart := false }
def UtfCutsSaid : Prop := utfCutsRow.holds Try.pinned (OpenSpec.ofChange utfCutsSpec)

/-- ITS FALSE NEIGHBOUR: 'it returns false'. Refute it at one input. -/
def utfCutsWrong : ChangeSpec := { name := "utfCuts", fn := fun _ => fun
  | [d1, d2] => { results := [.lit (.bool false)], args := [d1, d2] }
  | _ => none }
def UtfCutsWrongFalsely : Prop := utfCutsRow.holds Try.pinned (OpenSpec.ofChange utfCutsWrong)

/-- 'pontoonlaw12.UtfReads': WHATEVER THE INPUT: true; the input reads as it did. -/
def utfReadsSpec : ChangeSpec := { name := "utfReads", fn := fun _ => fun
  | [d1, d2, d3] => { results := [.lit (.bool true)], args := [d1, d2, d3] }
  | _ => none }
def utfReadsRow : OpenClaim := { program := "ytgcbgenkbdoejaa", sum := "6cc6048339319d6e5cd732a04b8d139ec3f0c86881eef86b611bce632de7d031", func := "pontoon/pontoonlaw12.UtfReads", spec := "utfReads", recurses := true, apart := false }
def UtfReadsSaid : Prop := utfReadsRow.holds Try.pinned (OpenSpec.ofChange utfReadsSpec)

/-- ITS FALSE NEIGHBOUR: 'it returns false'. Refute it at one input. -/
def utfReadsWrong : ChangeSpec := { name := "utfReads", fn := fun _ => fun
  | [d1, d2, d3] => { results := [.lit (.bool false)], args := [d1, d2, d3] }
  | _ => none }
def UtfReadsWrongFalsely : Prop := utfReadsRow.holds Try.pinned (OpenSpec.ofChange utfReadsWrong)

/-- 'pontoonlaw12.UtfHalf': WHATEVER THE INPUT: true; the input reads as it did. -/
def utfHalfSpec : ChangeSpec := { name := "utfHalf", fn := fun _ => fun
  | [d1, d2] => { results := [.lit (.bool true)], args := [d1, d2] }
  | _ => none }
def utfHalfRow : OpenClaim := { program := "ytgcbgenkbdoejaa", sum := "6cc6048339319d6e5cd732a04b8d139ec3f0c86881eef86b611bce632de7d031", func := "pontoon/pontoonlaw12.UtfHalf", spec := "utfHalf", recurses := true, apart := false }
def UtfHalfSaid : Prop := utfHalfRow.holds Try.pinned (OpenSpec.ofChange utfHalfSpec)

/-- ITS FALSE NEIGHBOUR: 'it returns false'. Refute it at one input. -/
def utfHalfWrong : ChangeSpec := { name := "utfHalf", fn := fun _ => fun
  | [d1, d2] => { results := [.lit (.bool false)], args := [d1, d2] }
  | _ => none }
def UtfHalfWrongFalsely : Prop := utfHalfRow.holds Try.pinned (OpenSpec.ofChange utfHalfWrong)

/-- 'pontoonlaw12.UtfPlain': WHATEVER THE INPUT: true; the input reads as it did. -/
def utfPlainSpec : ChangeSpec := { name := "utfPlain", fn := fun _ => fun
  | [d] => { results := [.lit (.bool true)], args := [d] }
  | _ => none }
def utfPlainRow : OpenClaim := { program := "ytgcbgenkbdoejaa", sum := "6cc6048339319d6e5cd732a04b8d139ec3f0c86881eef86b611bce632de7d031", func := "pontoon/pontoonlaw12.UtfPlain", spec := "utfPlain", recurses := true, apart := false }
def UtfPlainSaid : Prop := utfPlainRow.holds Try.pinned (OpenSpec.ofChange utfPlainSpec)

/-- ITS FALSE NEIGHBOUR: 'it returns false'. Refute it at one input. -/
def utfPlainWrong : ChangeSpec := { name := "utfPlain", fn := fun _ => fun
  | [d] => { results := [.lit (.bool false)], args := [d] }
  | _ => none }
def UtfPlainWrongFalsely : Prop := utfPlainRow.holds Try.pinned (OpenSpec.ofChange utfPlainWrong)

/- THE SECOND FORM. 'bulk': how many values and letters a reading holds, each counted each time it is reached (what is shared counts as often as it is met; a slice's spare places count too). A statement '..UptoSaid' is the law's where the arguments, and the package variables that the reading takes, are together of bulk at most 1048576: NARROWER than '..Said'. Prove '..Said' where nothing that the law and all that it calls make is longer than what came in: it says more and counts as full. Else prove '..UptoSaid'. A law counts once. -/
mutual
def uptoBulk {H : Type} : DataW H → Nat
  | .lit (.string bytes) => bytes.length + 1
  | .lit _ => 1
  | .nil => 1
  | .ptr d => uptoBulk d + 1
  | .slice elems spare => uptoBulkAll elems + uptoBulkAll spare + 1
  | .agg parts => uptoBulkAll parts + 1
  | .iface _ d => uptoBulk d + 1
  | .map entries => uptoBulkEntries entries + 1
  | .held _ => 1
def uptoBulkAll {H : Type} : List (DataW H) → Nat
  | [] => 0
  | d :: r => uptoBulk d + uptoBulkAll r
def uptoBulkEntries {H : Type} : List (Lit × DataW H) → Nat
  | [] => 0
  | x :: r => uptoBulkEntry x + uptoBulkEntries r
def uptoBulkEntry {H : Type} : Lit × DataW H → Nat
  | (.string bytes, d) => bytes.length + uptoBulk d + 1
  | (_, d) => uptoBulk d + 1
 end
def uptoSmall : (H : Type) → List (DataW H) → Bool := fun _ ds => decide (uptoBulkAll ds ≤ 1048576)
def OpenSpec.upto (s : _root_.Go.ChangeSpec) : _root_.Go.OpenSpec := { _root_.Go.OpenSpec.ofChange s with cond := some uptoSmall }

/-- 'pontoonlaw12.UtfTexts', WHERE WHAT IT READS IS OF BULK AT MOST 1048576: true; the input reads as it did. -/
def utfTextsUptoRow : OpenClaim := { program := "ytgcbgenkbdoejaa", sum := "6cc6048339319d6e5cd732a04b8d139ec3f0c86881eef86b611bce632de7d031", func := "pontoon/pontoonlaw12.UtfTexts", spec := "utfTexts", recurses := true, apart := false, narrowed := true }
def UtfTextsUptoSaid : Prop := utfTextsUptoRow.holds Try.pinned (OpenSpec.upto utfTextsSpec)

/-- 'pontoonlaw12.UtfBad', WHERE WHAT IT READS IS OF BULK AT MOST 1048576: true; the input reads as it did. -/
def utfBadUptoRow : OpenClaim := { program := "ytgcbgenkbdoejaa", sum := "6cc6048339319d6e5cd732a04b8d139ec3f0c86881eef86b611bce632de7d031", func := "pontoon/pontoonlaw12.UtfBad", spec := "utfBad", recurses := true, apart := false, narrowed := true }
def UtfBadUptoSaid : Prop := utfBadUptoRow.holds Try.pinned (OpenSpec.upto utfBadSpec)

/-- 'pontoonlaw12.UtfCuts', WHERE WHAT IT READS IS OF BULK AT MOST 1048576: true; the input reads as it did. -/
def utfCutsUptoRow : OpenClaim := { program := "ytgcbgenkbdoejaa", sum := "6cc6048339319d6e5cd732a04b8d139ec3f0c86881eef86b611bce632de7d031", func := "pontoon/pontoonlaw12.UtfCuts", spec := "utfCuts", recurses := true, apart := false, narrowed := true }
def UtfCutsUptoSaid : Prop := utfCutsUptoRow.holds Try.pinned (OpenSpec.upto utfCutsSpec)

/-- 'pontoonlaw12.UtfReads', WHERE WHAT IT READS IS OF BULK AT MOST 1048576: true; the input reads as it did. -/
def utfReadsUptoRow : OpenClaim := { program := "ytgcbgenkbdoejaa", sum := "6cc6048339319d6e5cd732a04b8d139ec3f0c86881eef86b611bce632de7d031", func := "pontoon/pontoonlaw12.UtfReads", spec := "utfReads", recurses := true, apart := false, narrowed := true }
def UtfReadsUptoSaid : Prop := utfReadsUptoRow.holds Try.pinned (OpenSpec.upto utfReadsSpec)

/-- 'pontoonlaw12.UtfHalf', WHERE WHAT IT READS IS OF BULK AT MOST 1048576: true; the input reads as it did. -/
def utfHalfUptoRow : OpenClaim := { program := "ytgcbgenkbdoejaa", sum := "6cc6048339319d6e5cd732a04b8d139ec3f0c86881eef86b611bce632de7d031", func := "pontoon/pontoonlaw12.UtfHalf", spec := "utfHalf", recurses := true, apart := false, narrowed := true }
def UtfHalfUptoSaid : Prop := utfHalfUptoRow.holds Try.pinned (OpenSpec.upto utfHalfSpec)

/-- 'pontoonlaw12.UtfPlain', WHERE WHAT IT READS IS OF BULK AT MOST 1048576: true; the input reads as it did. -/
def utfPlainUptoRow : OpenClaim := { program := "ytgcbgenkbdoejaa", sum := "6cc6048339319d6e5cd732a04b8d139ec3f0c86881eef86b611bce632de7d031", func := "pontoon/pontoonlaw12.UtfPlain", spec := "utfPlain", recurses := true, apart := false, narrowed := true }
def UtfPlainUptoSaid : Prop := utfPlainUptoRow.holds Try.pinned (OpenSpec.upto utfPlainSpec)

end Rows
end Go.Proofs.Ytgcbgenkbdoejaa
