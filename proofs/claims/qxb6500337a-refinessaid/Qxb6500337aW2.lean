/-
  Walks: marks, copies of the model.
-/
import Derived.Test.Qxb6500337aW1
import Derived.Test.Qxb6500337aLaws
namespace Go.Proofs.Qxb6500337a
open Go.RowKit
theorem size61 : (Try.prog.info? 57).map (·.size) = some 32 := by kernel_rfl
set_option maxHeartbeats 400000 in
theorem dmark_at (d : Nat) (now bas : List Blk) (va vv : Value) (w : World) (hd : At w d 61 (diskCells now bas va vv)) (h1 : now.length = 8) (h2 : bas.length = 8) :
    Calls Try.prog 23 #[.pointer (some ⟨d, 0, none⟩)] w fun e w' => e = .returned (.tuple #[]) ∧ At w' d 61 (diskCells now now (.slice none 0 0) (.slice none 0 0)) ∧ w.grownBy w' (some d) := by
  have hlt := hd.lt
  have c64 : w.cell? ⟨d, 64, none⟩ = some va := (hd.cell 64).trans (diskCells_at now bas va vv h1 h2)
  have c65 : w.cell? ⟨d, 65, none⟩ = some vv := (hd.cell 65).trans (diskCells_val now bas va vv h1 h2)
  have f64 := hd.free 64
  have f65 := hd.free 65
  have hs : (Try.prog.info? 57).map (·.size) = some (encs now).length := by rw [size61, encs_length, h1]
  have hd2 : At ((w.setCell ⟨d, 64, none⟩ (.slice none 0 0)).setCell ⟨d, 65, none⟩ (.slice none 0 0)) d 61 (diskCells now bas (.slice none 0 0) (.slice none 0 0)) := by
    have := (hd.setSame 64 (.slice none 0 0)).setSame 65 (.slice none 0 0)
    rwa [diskCells_setAt _ _ _ _ _ h1 h2, diskCells_setVal _ _ _ _ _ h1 h2] at this
  have hg : w.grownBy ((w.setCell ⟨d, 64, none⟩ (.slice none 0 0)).setCell ⟨d, 65, none⟩ (.slice none 0 0)) (some d) := g_own (g_own (g_refl _ _) _ _) _ _
  have hsz : 32 + (encs now).length ≤ (diskCells now bas (.slice none 0 0) (.slice none 0 0)).size := by rw [diskCells_size _ _ _ _ h1 h2, encs_length, h1]; omega
  clear hd
  go_enter Try.func23, Try.ntmps23
  go_wp2_with (first
    | (refine wpList_load_at (by rfl) 57 (.tmp 11) (by rfl) d 0 (by rfl) 61 _ (encs now) _ Try.underlying57 (by rfl) hs hd2 (disk_now _ _ _ _) ?_)
    | (refine wpList_store_at (by rfl) 57 (.tmp 14) (.tmp 12) (by rfl) d 32 (encs now) (by rfl) (by rfl) 61 _ hs (encs_one _) hd2 hsz ?_; intro w2 hw2 hg2 _))
  go_end0
  rw [disk_laid_bas _ _ _ _ _ h1 (by rw [h1, h2])] at hw2
  exact ⟨rfl, hw2, g_trans hg hg2⟩

/-- Mark. -/
theorem dmark_calls (base base' d : Nat) (now bas : List Blk) (log : List (Nat × Blk)) (w : World) (hD : DiskAt base w d now bas log) :
    Calls Try.prog 23 #[.pointer (some ⟨d, 0, none⟩)] w fun e w' => e = .returned (.tuple #[]) ∧ DiskAt base' w' d now now [] ∧ w.grownBy w' (some d) := by
  obtain ⟨va, vv, hd, h1, h2, -, -, -⟩ := hD
  exact (dmark_at d now bas va vv w hd h1 h2).mono fun e w' ⟨he, ha, hg⟩ => ⟨he, DiskAt.rebase ha rfl rfl h1 h1, hg⟩

end Go.Proofs.Qxb6500337a
