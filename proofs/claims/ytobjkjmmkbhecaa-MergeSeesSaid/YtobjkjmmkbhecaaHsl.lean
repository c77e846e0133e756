-- slices.Sort and slices.Compact at []int: the kit's contracts, laid over this program.
import Derived.Test.YtobjkjmmkbhecaaProg
import Derived.Shelf.Sort.Plain
import Derived.Shelf.Slices.CompactI
import Derived.Shelf.Bytes.SlEqualAll
import Derived.Shelf.Lay
import Derived.Ground.Names2Prog
namespace Go.Proofs
open Go.Shelf
shelf_lay Lays.n189 Nm 189 at Try as Try.lays189
shelf_lay Lays2.n20 Nm2 20 at Try as Try.lays2_20
shelf_lay Lays.nb115 Nm 115 at Try as Try.laysnb115
end Go.Proofs
namespace Go.Proofs.Ytobjkjmmkbhecaa.Sk
open Go.Sort Go.Lib
theorem sortI_calls (blk off cap : Nat) (zs : List Int) (w : World) (hH : Holds (Value.int .i64) w blk off zs.toArray) (hblk : blk < w.heap.size) (hsz : zs.length < 4611686018427387904) :
  Calls Try.prog 53 #[.slice (some ⟨blk, off, none⟩) zs.length cap] w fun e w' =>
   e = .returned (.tuple #[]) ∧ ∃ n os, w' = grow (putRow (Value.int .i64) (Sort.ahead w n) blk off (zs.mergeSort fun x y => decide (x ≤ y)).toArray) os :=
 Any.slices_Sort_int Try.lays189 blk off cap zs w hH hblk hsz
theorem compactI_calls (blk off cap : Nat) (zs : List Int) (w : World) (hH : Holds (Value.int .i64) w blk off zs.toArray) (hsz : zs.length ≤ 9223372036854775807) (hcap : zs.length ≤ cap) :
  Calls Try.prog 54 #[.slice (some ⟨blk, off, none⟩) zs.length cap] w fun e w' => e = .returned (.slice (some ⟨blk, off, none⟩) (Lib.compact zs).length cap) ∧ ∃ q, w' = putRow (Value.int .i64) (Sort.ahead w q) blk off (Lib.compact zs ++ List.replicate (zs.length - (Lib.compact zs).length) 0).toArray :=
 Any.slices_Compact_int Try.lays2_20 blk off cap zs w hH hsz hcap
end Go.Proofs.Ytobjkjmmkbhecaa.Sk
