/- Facts on blocks, in few letters. -/
import Derived.Test.YtckgkblpbfckdaaQgWords
namespace Go.Proofs.YtckgkblpbfckdaaShort
open Go Go.RowKit Go.Proofs.YtckgkblpbfckdaaW.PrintWords
theorem blkb {W W2 : World} (hb : Below W.heap.size W W2) {g : Nat} {o : Obj} (h : W.heap[g]? = some o) : W2.heap[g]? = some o := blk_below h hb
theorem blkn {W : World} {g g' : Nat} (hg : g' = W.heap.size) {o : Obj} (h : W.heap[g]? = some o) : g ≠ g' := by
  rw [hg]
  exact Nat.ne_of_lt (blk_lt h)
theorem blkm {W : World} {g g' : Nat} (hg : g' = W.heap.size) {o : Obj} (h : W.heap[g]? = some o) : g' ≠ g := (blkn hg h).symm
/-- A list of bools, as a number. -/
def bA (n m : Nat) : Array Bool := ((List.range n).map fun i => m.testBit i).toArray
end Go.Proofs.YtckgkblpbfckdaaShort
