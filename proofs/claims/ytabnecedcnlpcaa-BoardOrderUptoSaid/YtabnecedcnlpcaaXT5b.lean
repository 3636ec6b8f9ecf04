/- The library's functions at this program: strings.Clone, maps.Keys, slices.Sorted. -/
import Derived.Test.YtabnecedcnlpcaaSxU
import Derived.Test.YtabnecedcnlpcaaXT5a
import Derived.Shelf.SlIter.Nil
import Derived.Shelf.SortM.Plain
import Derived.Shelf.SortM.SortNone
import Derived.Ground.GgzProg
import Derived.Ground.SlgmProg
import Derived.Shelf.LaysM
import Derived.Shelf.Lay
import Derived.Shelf.Strconv.Clone
import Derived.Test.YtabnecedcnlpcaaProg
set_option linter.unusedVariables false
namespace Go.Proofs
open Go.RowKit Go.Maps Go.Sort Go.Shelf
shelf_lay_g SlLaysZ.n7 Ggz 7 at Try 29 as Try.keys29
shelf_lay_g SlLaysZ.n6 Ggz 6 at Try 28 as Try.sorted28
shelf_lay_g SlLaysM.n6 Slgm 6 at Try 40 as Try.sort40
shelf_lay LaysM.n316 Nm 316 at Try as Try.laysM316
theorem Try.sorts28 (m : Nat) : AnyZ.SortsIn Try.prog Try.sorted28_ren Fence.wide m :=
  ⟨fun blk off cap ss W hH hblk hsz => callsIn_wide.2 (AnyM.slices_Sort_string Try.sort40 blk off cap ss W hH hblk hsz),
   fun p cap W => callsIn_wide.2 (AnyM.slices_Sort_string_none Try.sort40 p cap W)⟩
theorem Try.keysC (mb : Option Nat) (w : World) : Calls Try.prog 29 #[.map mb] w fun e w' => e = .returned (.func (.func 41) #[] #[.pointer (some ⟨w.heap.size, 0, none⟩)]) ∧ w' = w.alloc (.cells #[.map mb] 55) :=
  callsIn_wide.1 (AnyZ.keys_in Try.keys29 Fence.wide 5 trivial rfl mb w)
set_option maxHeartbeats 1000000 in
theorem Try.sortsKeys : Sx.SortsKeys Try.prog 28 41 55 9 := by
  intro b nn k D0 fz w hown hk hmax hbytes
  have hseq : SeqGives Fence.wide 2 Try.prog 41 #[.pointer (some ⟨k, 0, none⟩)] encStr (fun ss => ss.Perm (strKeys D0)) (Maps.size D0) w :=
    AnyZ.keys_gives (ρ := Try.keys29_ren) { Try.keys29 with } Fence.wide _ trivial rfl (by omega) k b nn D0 _ (Sx.block_lt hk) (by rw [cell_of_row _ _ _ _ _ _ hk]; rfl) hown
  refine (callsIn_wide.1 (AnyZ.sorted_in Try.sorted28 Fence.wide 5 trivial trivial trivial trivial rfl (by omega) (Try.sorts28 _) (enters_of Try.func40 (by kernel_rfl) rfl) 41 #[.pointer (some ⟨k, 0, none⟩)] trivial (enters_of Try.func41 (by kernel_rfl) rfl) _ _ hmax hbytes _ hseq)).mono ?_
  rintro e w' ⟨v, ss, h1, h2, h3, _, h4⟩
  exact ⟨v, ss, h1, h2, h3, h4⟩
theorem Try.clone43 (s : ByteArray) (w : World) (hs : s.size ≤ 281474976710656) : Calls Try.prog 43 #[.string s] w fun e w' => e = .returned (.string s) ∧ Below w.heap.size w w' := Any.stringslite_Clone Try.laysM316 s w hs
end Go.Proofs
