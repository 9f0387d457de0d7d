/-
  A second new block.
-/
import Derived.Test.Qxb6500337aW2
namespace Go.Proofs.Qxb6500337a
open Go.RowKit

theorem at_new2 (w : World) (o : Obj) (C : Array Value) (t : TypeId) : At ((w.alloc o).alloc (.cells C t)) (w.heap.size + 1) t C := by
  have := At.new (w.alloc o) C t
  rwa [World.size_alloc] at this

end Go.Proofs.Qxb6500337a
