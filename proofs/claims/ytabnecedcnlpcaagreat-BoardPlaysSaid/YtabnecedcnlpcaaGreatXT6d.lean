/- Part of a proof: the walk of the functions that the law calls. -/
import Derived.Test.YtabnecedcnlpcaaGreatXT6c
set_option linter.unusedVariables false
open Go Sx Go.Proofs
namespace W5
set_option maxRecDepth 100000
set_option maxHeartbeats 1000000
attribute [local irreducible] Tree.Leads
def hd0 : List SV → Heap → Head := fun _ _ => { X := Unit, inv := fun _ => ([], []), ok := fun _ => True, mu := fun _ => 0 }
def An24 : Nat → Option Ann := An2 999998 { live := [], mv := [1], head := hd0 } 999999 { live := [], mv := [], head := hd0, hook := 7, hk2 := 6 }
end W5
