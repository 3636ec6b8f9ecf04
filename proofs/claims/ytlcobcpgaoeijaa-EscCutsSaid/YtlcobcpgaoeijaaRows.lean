/-
  No cell of these rows narrows 'for every input' (looked for: loops, veiled, ifaces, maps, wideKeys, modest, calm, conditions, laid).
  DERIVED. THE GIVEN ROWS OF THIS SEAT. 7 by the template 'for every input the law returns true; each argument reads behind the call as it read before'; 0 by the template 'total and deterministic' (their statements: YtlcobcpgaoeijaaTotals.lean).
  GIVEN WITH THE SEED: the statements are not yours to turn. If you find one false, say at which input.
  Laid BY PROGRAM, IN A SANDBOX (cutbox-rows.mjs): the forced cells as the released guide's own fill.sh prints them over the translation 172e84ee4d077ec9… (all of the seat's roots in one cut). By AI agents, Wed Nov 11 2026. No macro, syntax, notation, axiom, sorry.
-/
import Derived.Test.YtlcobcpgaoeijaaChecked
import GoSem.Claim
import GoSem.ClaimJoined
import GoSem.ClaimMapViews
import Derived.JoinedTies
import Derived.KernelRfl
namespace Go.Proofs.Ytlcobcpgaoeijaa
/- THE CELL 'sum', in the pinned program and in every row, IS THE sha256 OF THE DUMP (.gsa) THAT YtlcobcpgaoeijaaProg.lean LOADS. Nothing in Lean hashes anything: it is a label: what it is worth is what the hold of that sum in a sandbox is worth. -/
noncomputable def Try.pinned : Pinned := { name := "ytlcobcpgaoeijaa", sum := "172e84ee4d077ec9ec3609c8ad64fb741790ffafa03c8b0bf0653cacdd5cb5b1", checked := Try.checked }
namespace Rows
def none {H : Type} : Left H := { results := [], args := [] }

/-- 'pontoonlaw13.EscNumbers': WHATEVER THE INPUT: true; the input reads as it did. -/
def escNumbersSpec : ChangeSpec := { name := "escNumbers", fn := fun _ => fun
  | [d1, d2, d3] => { results := [.lit (.bool true)], args := [d1, d2, d3] }
  | _ => none }
def escNumbersRow : OpenClaim := { program := "ytlcobcpgaoeijaa", sum := "172e84ee4d077ec9ec3609c8ad64fb741790ffafa03c8b0bf0653cacdd5cb5b1", func := "pontoon/pontoonlaw13.EscNumbers", spec := "escNumbers", inPlace := ["sync/atomic.LoadUint32", "(*internal/sync.Mutex).Lock", "internal/race.Disable", "sync/atomic.CompareAndSwapInt32", "internal/race.Enable", "internal/race.Acquire", "(*internal/sync.Mutex).lockSlow", "internal/sync.runtime_canSpin", "internal/sync.runtime_doSpin", "internal/sync.throw", "internal/sync.runtime_nanotime", "internal/sync.runtime_SemacquireMutex", "sync/atomic.AddInt32", "(*internal/sync.Mutex).Unlock", "internal/race.ReleaseMerge", "(*internal/sync.Mutex).unlockSlow", "internal/sync.fatal", "internal/sync.runtime_Semrelease", "sync/atomic.StoreUint32"], unfollowed := true, recurses := true, apart := false }
def EscNumbersSaid : Prop := escNumbersRow.holds Try.pinned (OpenSpec.ofChange escNumbersSpec)

/-- ITS FALSE NEIGHBOUR: 'it returns false'. Refute it at one input. -/
def escNumbersWrong : ChangeSpec := { name := "escNumbers", fn := fun _ => fun
  | [d1, d2, d3] => { results := [.lit (.bool false)], args := [d1, d2, d3] }
  | _ => none }
def EscNumbersWrongFalsely : Prop := escNumbersRow.holds Try.pinned (OpenSpec.ofChange escNumbersWrong)

/-- 'pontoonlaw13.EscControls': WHATEVER THE INPUT: true; the input reads as it did. -/
def escControlsSpec : ChangeSpec := { name := "escControls", fn := fun _ => fun
  | [d1, d2, d3] => { results := [.lit (.bool true)], args := [d1, d2, d3] }
  | _ => none }
def escControlsRow : OpenClaim := { program := "ytlcobcpgaoeijaa", sum := "172e84ee4d077ec9ec3609c8ad64fb741790ffafa03c8b0bf0653cacdd5cb5b1", func := "pontoon/pontoonlaw13.EscControls", spec := "escControls", inPlace := ["sync/atomic.LoadUint32", "(*internal/sync.Mutex).Lock", "internal/race.Disable", "sync/atomic.CompareAndSwapInt32", "internal/race.Enable", "internal/race.Acquire", "(*internal/sync.Mutex).lockSlow", "internal/sync.runtime_canSpin", "internal/sync.runtime_doSpin", "internal/sync.throw", "internal/sync.runtime_nanotime", "internal/sync.runtime_SemacquireMutex", "sync/atomic.AddInt32", "(*internal/sync.Mutex).Unlock", "internal/race.ReleaseMerge", "(*internal/sync.Mutex).unlockSlow", "internal/sync.fatal", "internal/sync.runtime_Semrelease", "sync/atomic.StoreUint32"], unfollowed := true, recurses := true, apart := false }
def EscControlsSaid : Prop := escControlsRow.holds Try.pinned (OpenSpec.ofChange escControlsSpec)

/-- ITS FALSE NEIGHBOUR: 'it returns false'. Refute it at one input. -/
def escControlsWrong : ChangeSpec := { name := "escControls", fn := fun _ => fun
  | [d1, d2, d3] => { results := [.lit (.bool false)], args := [d1, d2, d3] }
  | _ => none }
def EscControlsWrongFalsely : Prop := escControlsRow.holds Try.pinned (OpenSpec.ofChange escControlsWrong)

/-- 'pontoonlaw13.EscText': WHATEVER THE INPUT: true; the input reads as it did. -/
def escTextSpec : ChangeSpec := { name := "escText", fn := fun _ => fun
  | [d1, d2] => { results := [.lit (.bool true)], args := [d1, d2] }
  | _ => none }
def escTextRow : OpenClaim := { program := "ytlcobcpgaoeijaa", sum := "172e84ee4d077ec9ec3609c8ad64fb741790ffafa03c8b0bf0653cacdd5cb5b1", func := "pontoon/pontoonlaw13.EscText", spec := "escText", inPlace := ["sync/atomic.LoadUint32", "(*internal/sync.Mutex).Lock", "internal/race.Disable", "sync/atomic.CompareAndSwapInt32", "internal/race.Enable", "internal/race.Acquire", "(*internal/sync.Mutex).lockSlow", "internal/sync.runtime_canSpin", "internal/sync.runtime_doSpin", "internal/sync.throw", "internal/sync.runtime_nanotime", "internal/sync.runtime_SemacquireMutex", "sync/atomic.AddInt32", "(*internal/sync.Mutex).Unlock", "internal/race.ReleaseMerge", "(*internal/sync.Mutex).unlockSlow", "internal/sync.fatal", "internal/sync.runtime_Semrelease", "sync/atomic.StoreUint32"], unfollowed := true, recurses := true, apart := false }
def EscTextSaid : Prop := escTextRow.holds Try.pinned (OpenSpec.ofChange escTextSpec)

/-- ITS FALSE NEIGHBOUR: 'it returns false'. Refute it at one input. -/
def escTextWrong : ChangeSpec := { name := "escText", fn := fun _ => fun
  | [d1, d2] => { results := [.lit (.bool false)], args := [d1, d2] }
  | _ => none }
def EscTextWrongFalsely : Prop := escTextRow.holds Try.pinned (OpenSpec.ofChange escTextWrong)

/-- 'pontoonlaw13.EscInters': WHATEVER THE INPUT: true; the input reads as it did. -/
def escIntersSpec : ChangeSpec := { name := "escInters", fn := fun _ => fun
  | [d1, d2, d3, d4] => { results := [.lit (.bool true)], args := [d1, d2, d3, d4] }
  | _ => none }
def escIntersRow : OpenClaim := { program := "ytlcobcpgaoeijaa", sum := "172e84ee4d077ec9ec3609c8ad64fb741790ffafa03c8b0bf0653cacdd5cb5b1", func := "pontoon/pontoonlaw13.EscInters", spec := "escInters", inPlace := ["sync/atomic.LoadUint32", "(*internal/sync.Mutex).Lock", "internal/race.Disable", "sync/atomic.CompareAndSwapInt32", "internal/race.Enable", "internal/race.Acquire", "(*internal/sync.Mutex).lockSlow", "internal/sync.runtime_canSpin", "internal/sync.runtime_doSpin", "internal/sync.throw", "internal/sync.runtime_nanotime", "internal/sync.runtime_SemacquireMutex", "sync/atomic.AddInt32", "(*internal/sync.Mutex).Unlock", "internal/race.ReleaseMerge", "(*internal/sync.Mutex).unlockSlow", "internal/sync.fatal", "internal/sync.runtime_Semrelease", "sync/atomic.StoreUint32"], unfollowed := true, recurses := true, apart := false }
def EscIntersSaid : Prop := escIntersRow.holds Try.pinned (OpenSpec.ofChange escIntersSpec)

/-- ITS FALSE NEIGHBOUR: 'it returns false'. Refute it at one input. -/
def escIntersWrong : ChangeSpec := { name := "escInters", fn := fun _ => fun
  | [d1, d2, d3, d4] => { results := [.lit (.bool false)], args := [d1, d2, d3, d4] }
  | _ => none }
def EscIntersWrongFalsely : Prop := escIntersRow.holds Try.pinned (OpenSpec.ofChange escIntersWrong)

/-- 'pontoonlaw13.EscCuts': WHATEVER THE INPUT: true; the input reads as it did. -/
def escCutsSpec : ChangeSpec := { name := "escCuts", fn := fun _ => fun
  | [d1, d2] => { results := [.lit (.bool true)], args := [d1, d2] }
  | _ => none }
def escCutsRow : OpenClaim := { program := "ytlcobcpgaoeijaa", sum := "172e84ee4d077ec9ec3609c8ad64fb741790ffafa03c8b0bf0653cacdd5cb5b1", func := "pontoon/pontoonlaw13.EscCuts", spec := "escCuts", inPlace := ["sync/atomic.LoadUint32", "(*internal/sync.Mutex).Lock", "internal/race.Disable", "sync/atomic.CompareAndSwapInt32", "internal/race.Enable", "internal/race.Acquire", "(*internal/sync.Mutex).lockSlow", "internal/sync.runtime_canSpin", "internal/sync.runtime_doSpin", "internal/sync.throw", "internal/sync.runtime_nanotime", "internal/sync.runtime_SemacquireMutex", "sync/atomic.AddInt32", "(*internal/sync.Mutex).Unlock", "internal/race.ReleaseMerge", "(*internal/sync.Mutex).unlockSlow", "internal/sync.fatal", "internal/sync.runtime_Semrelease", "sync/atomic.StoreUint32"], unfollowed := true, recurses := true, apart := false }
def EscCutsSaid : Prop := escCutsRow.holds Try.pinned (OpenSpec.ofChange escCutsSpec)

/-- ITS FALSE NEIGHBOUR: 'it returns false'. Refute it at one input. -/
def escCutsWrong : ChangeSpec := { name := "escCuts", fn := fun _ => fun
  | [d1, d2] => { results := [.lit (.bool false)], args := [d1, d2] }
  | _ => none }
def EscCutsWrongFalsely : Prop := escCutsRow.holds Try.pinned (OpenSpec.ofChange escCutsWrong)

/-- 'pontoonlaw13.EscStops': WHATEVER THE INPUT: true; the input reads as it did. -/
def escStopsSpec : ChangeSpec := { name := "escStops", fn := fun _ => fun
  | [d1, d2] => { results := [.lit (.bool true)], args := [d1, d2] }
  | _ => none }
def escStopsRow : OpenClaim := { program := "ytlcobcpgaoeijaa", sum := "172e84ee4d077ec9ec3609c8ad64fb741790ffafa03c8b0bf0653cacdd5cb5b1", func := "pontoon/pontoonlaw13.EscStops", spec := "escStops", inPlace := ["sync/atomic.LoadUint32", "(*internal/sync.Mutex).Lock", "internal/race.Disable", "sync/atomic.CompareAndSwapInt32", "internal/race.Enable", "internal/race.Acquire", "(*internal/sync.Mutex).lockSlow", "internal/sync.runtime_canSpin", "internal/sync.runtime_doSpin", "internal/sync.throw", "internal/sync.runtime_nanotime", "internal/sync.runtime_SemacquireMutex", "sync/atomic.AddInt32", "(*internal/sync.Mutex).Unlock", "internal/race.ReleaseMerge", "(*internal/sync.Mutex).unlockSlow", "internal/sync.fatal", "internal/sync.runtime_Semrelease", "sync/atomic.StoreUint32"], unfollowed := true, recurses := true, apart := false }
def EscStopsSaid : Prop := escStopsRow.holds Try.pinned (OpenSpec.ofChange escStopsSpec)

/-- ITS FALSE NEIGHBOUR: 'it returns false'. Refute it at one input. -/
def escStopsWrong : ChangeSpec := { name := "escStops", fn := fun _ => fun
  | [d1, d2] => { results := [.lit (.bool false)], args := [d1, d2] }
  | _ => none }
def EscStopsWrongFalsely : Prop := escStopsRow.holds Try.pinned (OpenSpec.ofChange escStopsWrong)

/-- 'pontoonlaw13.EscStrings': WHATEVER THE INPUT: true; the input reads as it did. -/
def escStringsSpec : ChangeSpec := { name := "escStrings", fn := fun _ => fun
  | [d1, d2, d3, d4] => { results := [.lit (.bool true)], args := [d1, d2, d3, d4] }
  | _ => none }
def escStringsRow : OpenClaim := { program := "ytlcobcpgaoeijaa", sum := "172e84ee4d077ec9ec3609c8ad64fb741790ffafa03c8b0bf0653cacdd5cb5b1", func := "pontoon/pontoonlaw13.EscStrings", spec := "escStrings", inPlace := ["sync/atomic.LoadUint32", "(*internal/sync.Mutex).Lock", "internal/race.Disable", "sync/atomic.CompareAndSwapInt32", "internal/race.Enable", "internal/race.Acquire", "(*internal/sync.Mutex).lockSlow", "internal/sync.runtime_canSpin", "internal/sync.runtime_doSpin", "internal/sync.throw", "internal/sync.runtime_nanotime", "internal/sync.runtime_SemacquireMutex", "sync/atomic.AddInt32", "(*internal/sync.Mutex).Unlock", "internal/race.ReleaseMerge", "(*internal/sync.Mutex).unlockSlow", "internal/sync.fatal", "internal/sync.runtime_Semrelease", "sync/atomic.StoreUint32"], unfollowed := true, recurses := true, apart := false }
def EscStringsSaid : Prop := escStringsRow.holds Try.pinned (OpenSpec.ofChange escStringsSpec)

/-- ITS FALSE NEIGHBOUR: 'it returns false'. Refute it at one input. -/
def escStringsWrong : ChangeSpec := { name := "escStrings", fn := fun _ => fun
  | [d1, d2, d3, d4] => { results := [.lit (.bool false)], args := [d1, d2, d3, d4] }
  | _ => none }
def EscStringsWrongFalsely : Prop := escStringsRow.holds Try.pinned (OpenSpec.ofChange escStringsWrong)

/- THE SECOND FORM. 'bulk': how many values and letters a reading holds, each counted each time it is reached (what is shared counts as often as it is met; a slice's spare places count too). A statement '..UptoSaid' is the law's where the arguments, and the package variables that the reading takes, are together of bulk at most 1048576: NARROWER than '..Said'. Prove '..Said' where nothing that the law and all that it calls make is longer than what came in: it says more and counts as full. Else prove '..UptoSaid'. A law counts once. -/
mutual
def uptoBulk {H : Type} : DataW H → Nat
  | .lit (.string bytes) => bytes.length + 1
  | .lit _ => 1
  | .nil => 1
  | .ptr d => uptoBulk d + 1
  | .slice elems spare => uptoBulkAll elems + uptoBulkAll spare + 1
  | .agg parts => uptoBulkAll parts + 1
  | .iface _ d => uptoBulk d + 1
  | .map entries => uptoBulkEntries entries + 1
  | .held _ => 1
def uptoBulkAll {H : Type} : List (DataW H) → Nat
  | [] => 0
  | d :: r => uptoBulk d + uptoBulkAll r
def uptoBulkEntries {H : Type} : List (Lit × DataW H) → Nat
  | [] => 0
  | x :: r => uptoBulkEntry x + uptoBulkEntries r
def uptoBulkEntry {H : Type} : Lit × DataW H → Nat
  | (.string bytes, d) => bytes.length + uptoBulk d + 1
  | (_, d) => uptoBulk d + 1
 end
def uptoSmall : (H : Type) → List (DataW H) → Bool := fun _ ds => decide (uptoBulkAll ds ≤ 1048576)
def OpenSpec.upto (s : _root_.Go.ChangeSpec) : _root_.Go.OpenSpec := { _root_.Go.OpenSpec.ofChange s with cond := some uptoSmall }

/-- 'pontoonlaw13.EscNumbers', WHERE WHAT IT READS IS OF BULK AT MOST 1048576: true; the input reads as it did. -/
def escNumbersUptoRow : OpenClaim := { program := "ytlcobcpgaoeijaa", sum := "172e84ee4d077ec9ec3609c8ad64fb741790ffafa03c8b0bf0653cacdd5cb5b1", func := "pontoon/pontoonlaw13.EscNumbers", spec := "escNumbers", inPlace := ["sync/atomic.LoadUint32", "(*internal/sync.Mutex).Lock", "internal/race.Disable", "sync/atomic.CompareAndSwapInt32", "internal/race.Enable", "internal/race.Acquire", "(*internal/sync.Mutex).lockSlow", "internal/sync.runtime_canSpin", "internal/sync.runtime_doSpin", "internal/sync.throw", "internal/sync.runtime_nanotime", "internal/sync.runtime_SemacquireMutex", "sync/atomic.AddInt32", "(*internal/sync.Mutex).Unlock", "internal/race.ReleaseMerge", "(*internal/sync.Mutex).unlockSlow", "internal/sync.fatal", "internal/sync.runtime_Semrelease", "sync/atomic.StoreUint32"], unfollowed := true, recurses := true, apart := false, narrowed := true }
def EscNumbersUptoSaid : Prop := escNumbersUptoRow.holds Try.pinned (OpenSpec.upto escNumbersSpec)

/-- 'pontoonlaw13.EscControls', WHERE WHAT IT READS IS OF BULK AT MOST 1048576: true; the input reads as it did. -/
def escControlsUptoRow : OpenClaim := { program := "ytlcobcpgaoeijaa", sum := "172e84ee4d077ec9ec3609c8ad64fb741790ffafa03c8b0bf0653cacdd5cb5b1", func := "pontoon/pontoonlaw13.EscControls", spec := "escControls", inPlace := ["sync/atomic.LoadUint32", "(*internal/sync.Mutex).Lock", "internal/race.Disable", "sync/atomic.CompareAndSwapInt32", "internal/race.Enable", "internal/race.Acquire", "(*internal/sync.Mutex).lockSlow", "internal/sync.runtime_canSpin", "internal/sync.runtime_doSpin", "internal/sync.throw", "internal/sync.runtime_nanotime", "internal/sync.runtime_SemacquireMutex", "sync/atomic.AddInt32", "(*internal/sync.Mutex).Unlock", "internal/race.ReleaseMerge", "(*internal/sync.Mutex).unlockSlow", "internal/sync.fatal", "internal/sync.runtime_Semrelease", "sync/atomic.StoreUint32"], unfollowed := true, recurses := true, apart := false, narrowed := true }
def EscControlsUptoSaid : Prop := escControlsUptoRow.holds Try.pinned (OpenSpec.upto escControlsSpec)

/-- 'pontoonlaw13.EscText', WHERE WHAT IT READS IS OF BULK AT MOST 1048576: true; the input reads as it did. -/
def escTextUptoRow : OpenClaim := { program := "ytlcobcpgaoeijaa", sum := "172e84ee4d077ec9ec3609c8ad64fb741790ffafa03c8b0bf0653cacdd5cb5b1", func := "pontoon/pontoonlaw13.EscText", spec := "escText", inPlace := ["sync/atomic.LoadUint32", "(*internal/sync.Mutex).Lock", "internal/race.Disable", "sync/atomic.CompareAndSwapInt32", "internal/race.Enable", "internal/race.Acquire", "(*internal/sync.Mutex).lockSlow", "internal/sync.runtime_canSpin", "internal/sync.runtime_doSpin", "internal/sync.throw", "internal/sync.runtime_nanotime", "internal/sync.runtime_SemacquireMutex", "sync/atomic.AddInt32", "(*internal/sync.Mutex).Unlock", "internal/race.ReleaseMerge", "(*internal/sync.Mutex).unlockSlow", "internal/sync.fatal", "internal/sync.runtime_Semrelease", "sync/atomic.StoreUint32"], unfollowed := true, recurses := true, apart := false, narrowed := true }
def EscTextUptoSaid : Prop := escTextUptoRow.holds Try.pinned (OpenSpec.upto escTextSpec)

/-- 'pontoonlaw13.EscInters', WHERE WHAT IT READS IS OF BULK AT MOST 1048576: true; the input reads as it did. -/
def escIntersUptoRow : OpenClaim := { program := "ytlcobcpgaoeijaa", sum := "172e84ee4d077ec9ec3609c8ad64fb741790ffafa03c8b0bf0653cacdd5cb5b1", func := "pontoon/pontoonlaw13.EscInters", spec := "escInters", inPlace := ["sync/atomic.LoadUint32", "(*internal/sync.Mutex).Lock", "internal/race.Disable", "sync/atomic.CompareAndSwapInt32", "internal/race.Enable", "internal/race.Acquire", "(*internal/sync.Mutex).lockSlow", "internal/sync.runtime_canSpin", "internal/sync.runtime_doSpin", "internal/sync.throw", "internal/sync.runtime_nanotime", "internal/sync.runtime_SemacquireMutex", "sync/atomic.AddInt32", "(*internal/sync.Mutex).Unlock", "internal/race.ReleaseMerge", "(*internal/sync.Mutex).unlockSlow", "internal/sync.fatal", "internal/sync.runtime_Semrelease", "sync/atomic.StoreUint32"], unfollowed := true, recurses := true, apart := false, narrowed := true }
def EscIntersUptoSaid : Prop := escIntersUptoRow.holds Try.pinned (OpenSpec.upto escIntersSpec)

/-- 'pontoonlaw13.EscCuts', WHERE WHAT IT READS IS OF BULK AT MOST 1048576: true; the input reads as it did. -/
def escCutsUptoRow : OpenClaim := { program := "ytlcobcpgaoeijaa", sum := "172e84ee4d077ec9ec3609c8ad64fb741790ffafa03c8b0bf0653cacdd5cb5b1", func := "pontoon/pontoonlaw13.EscCuts", spec := "escCuts", inPlace := ["sync/atomic.LoadUint32", "(*internal/sync.Mutex).Lock", "internal/race.Disable", "sync/atomic.CompareAndSwapInt32", "internal/race.Enable", "internal/race.Acquire", "(*internal/sync.Mutex).lockSlow", "internal/sync.runtime_canSpin", "internal/sync.runtime_doSpin", "internal/sync.throw", "internal/sync.runtime_nanotime", "internal/sync.runtime_SemacquireMutex", "sync/atomic.AddInt32", "(*internal/sync.Mutex).Unlock", "internal/race.ReleaseMerge", "(*internal/sync.Mutex).unlockSlow", "internal/sync.fatal", "internal/sync.runtime_Semrelease", "sync/atomic.StoreUint32"], unfollowed := true, recurses := true, apart := false, narrowed := true }
def EscCutsUptoSaid : Prop := escCutsUptoRow.holds Try.pinned (OpenSpec.upto escCutsSpec)

/-- 'pontoonlaw13.EscStops', WHERE WHAT IT READS IS OF BULK AT MOST 1048576: true; the input reads as it did. -/
def escStopsUptoRow : OpenClaim := { program := "ytlcobcpgaoeijaa", sum := "172e84ee4d077ec9ec3609c8ad64fb741790ffafa03c8b0bf0653cacdd5cb5b1", func := "pontoon/pontoonlaw13.EscStops", spec := "escStops", inPlace := ["sync/atomic.LoadUint32", "(*internal/sync.Mutex).Lock", "internal/race.Disable", "sync/atomic.CompareAndSwapInt32", "internal/race.Enable", "internal/race.Acquire", "(*internal/sync.Mutex).lockSlow", "internal/sync.runtime_canSpin", "internal/sync.runtime_doSpin", "internal/sync.throw", "internal/sync.runtime_nanotime", "internal/sync.runtime_SemacquireMutex", "sync/atomic.AddInt32", "(*internal/sync.Mutex).Unlock", "internal/race.ReleaseMerge", "(*internal/sync.Mutex).unlockSlow", "internal/sync.fatal", "internal/sync.runtime_Semrelease", "sync/atomic.StoreUint32"], unfollowed := true, recurses := true, apart := false, narrowed := true }
def EscStopsUptoSaid : Prop := escStopsUptoRow.holds Try.pinned (OpenSpec.upto escStopsSpec)

/-- 'pontoonlaw13.EscStrings', WHERE WHAT IT READS IS OF BULK AT MOST 1048576: true; the input reads as it did. -/
def escStringsUptoRow : OpenClaim := { program := "ytlcobcpgaoeijaa", sum := "172e84ee4d077ec9ec3609c8ad64fb741790ffafa03c8b0bf0653cacdd5cb5b1", func := "pontoon/pontoonlaw13.EscStrings", spec := "escStrings", inPlace := ["sync/atomic.LoadUint32", "(*internal/sync.Mutex).Lock", "internal/race.Disable", "sync/atomic.CompareAndSwapInt32", "internal/race.Enable", "internal/race.Acquire", "(*internal/sync.Mutex).lockSlow", "internal/sync.runtime_canSpin", "internal/sync.runtime_doSpin", "internal/sync.throw", "internal/sync.runtime_nanotime", "internal/sync.runtime_SemacquireMutex", "sync/atomic.AddInt32", "(*internal/sync.Mutex).Unlock", "internal/race.ReleaseMerge", "(*internal/sync.Mutex).unlockSlow", "internal/sync.fatal", "internal/sync.runtime_Semrelease", "sync/atomic.StoreUint32"], unfollowed := true, recurses := true, apart := false, narrowed := true }
def EscStringsUptoSaid : Prop := escStringsUptoRow.holds Try.pinned (OpenSpec.upto escStringsSpec)

end Rows
end Go.Proofs.Ytlcobcpgaoeijaa
