/-
  Walks: the law's Ground, Steps, Mark, After.
-/
import Derived.Test.Qxb6500337aW8
namespace Go.Proofs.Qxb6500337a
open Go.RowKit

/-- The disk d, its record nil. -/
def DiskNil (w : World) (d : Nat) (now bas : List Blk) : Prop := At w d 61 (diskCells now bas (.slice none 0 0) (.slice none 0 0)) ∧ now.length = 8 ∧ bas.length = 8
theorem DiskNil.at {w : World} {d : Nat} {now bas : List Blk} (h : DiskNil w d now bas) (base : Nat) : DiskAt base w d now bas [] := DiskAt.rebase h.1 rfl rfl h.2.1 h.2.2
theorem DiskNil.ext {w w' : World} {d : Nat} {now bas : List Blk} {r : Option Nat} (h : DiskNil w d now bas) (g : w.grownBy w' r) (hr : some d ≠ r) : DiskNil w' d now bas := ⟨h.1.kept g hr, h.2⟩

end Go.Proofs.Qxb6500337a
