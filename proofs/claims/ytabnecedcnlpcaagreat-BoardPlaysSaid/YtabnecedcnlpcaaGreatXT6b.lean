/- The library's functions at this program: strings.Clone, maps.Keys, slices.Sorted. -/
import Derived.Test.YtabnecedcnlpcaaGreatSxU
import Derived.Test.YtabnecedcnlpcaaGreatXT6a
import Derived.Shelf.SlIter.Nil
import Derived.Shelf.SortM.Plain
import Derived.Shelf.SortM.SortNone
import Derived.Ground.GgzProg
import Derived.Ground.SlgmProg
import Derived.Shelf.LaysM
import Derived.Shelf.Lay
import Derived.Shelf.Strconv.Clone
import Derived.Test.YtabnecedcnlpcaaGreatProg
set_option linter.unusedVariables false
namespace Go.Proofs
open Go.RowKit Go.Maps Go.Sort Go.Shelf
shelf_lay_g SlLaysZ.n7 Ggz 7 at Tryz 19 as Tryz.keys29
shelf_lay_g SlLaysZ.n6 Ggz 6 at Tryz 18 as Tryz.sorted28
shelf_lay_g SlLaysM.n6 Slgm 6 at Tryz 64 as Tryz.sort40
shelf_lay LaysM.n316 Nm 316 at Tryz as Tryz.laysM316
theorem Tryz.sorts28 (m : Nat) : AnyZ.SortsIn Tryz.prog Tryz.sorted28_ren Fence.wide m :=
  ⟨fun blk off cap ss W hH hblk hsz => callsIn_wide.2 (AnyM.slices_Sort_string Tryz.sort40 blk off cap ss W hH hblk hsz),
   fun p cap W => callsIn_wide.2 (AnyM.slices_Sort_string_none Tryz.sort40 p cap W)⟩
theorem Tryz.keysC (mb : Option Nat) (w : World) : Calls Tryz.prog 19 #[.map mb] w fun e w' => e = .returned (.func (.func 65) #[] #[.pointer (some ⟨w.heap.size, 0, none⟩)]) ∧ w' = w.alloc (.cells #[.map mb] 38) :=
  callsIn_wide.1 (AnyZ.keys_in Tryz.keys29 Fence.wide 5 trivial rfl mb w)
set_option maxHeartbeats 1000000 in
theorem Tryz.sortsKeys : Sx.SortsKeys Tryz.prog 18 65 38 9 := by
  intro b nn k D0 fz w hown hk hmax hbytes
  have hseq : SeqGives Fence.wide 2 Tryz.prog 65 #[.pointer (some ⟨k, 0, none⟩)] encStr (fun ss => ss.Perm (strKeys D0)) (Maps.size D0) w :=
    AnyZ.keys_gives (ρ := Tryz.keys29_ren) { Tryz.keys29 with } Fence.wide _ trivial rfl (by omega) k b nn D0 _ (Sx.block_lt hk) (by rw [cell_of_row _ _ _ _ _ _ hk]; rfl) hown
  refine (callsIn_wide.1 (AnyZ.sorted_in Tryz.sorted28 Fence.wide 5 trivial trivial trivial trivial rfl (by omega) (Tryz.sorts28 _) (enters_of Tryz.func64 (by kernel_rfl) rfl) 65 #[.pointer (some ⟨k, 0, none⟩)] trivial (enters_of Tryz.func65 (by kernel_rfl) rfl) _ _ hmax hbytes _ hseq)).mono ?_
  rintro e w' ⟨v, ss, h1, h2, h3, _, h4⟩
  exact ⟨v, ss, h1, h2, h3, h4⟩
theorem Tryz.clone43 (s : ByteArray) (w : World) (hs : s.size ≤ 281474976710656) : Calls Tryz.prog 100 #[.string s] w fun e w' => e = .returned (.string s) ∧ Below w.heap.size w w' := Any.stringslite_Clone Tryz.laysM316 s w hs
end Go.Proofs
