/-
  Walks: marks, copies of the model.
-/
import Derived.Test.Qxb6500338aW1
import Derived.Test.Qxb6500338aLaws
namespace Go.Proofs.Qxb6500338a
open Go.RowKit
theorem size61 : (Try.prog.info? 61).map (·.size) = some 32 := by kernel_rfl
theorem size52 : (Try.prog.info? 52).map (·.size) = some 20 := by kernel_rfl
set_option maxHeartbeats 400000 in
theorem dmark_at (d : Nat) (now bas : List Blk) (va vv : Value) (w : World) (hd : At w d 65 (diskCells now bas va vv)) (h1 : now.length = 8) (h2 : bas.length = 8) :
    Calls Try.prog 25 #[.pointer (some ⟨d, 0, none⟩)] w fun e w' => e = .returned (.tuple #[]) ∧ At w' d 65 (diskCells now now (.slice none 0 0) (.slice none 0 0)) ∧ w.grownBy w' (some d) := by
  have hlt := hd.lt
  have c64 : w.cell? ⟨d, 64, none⟩ = some va := (hd.cell 64).trans (diskCells_at now bas va vv h1 h2)
  have c65 : w.cell? ⟨d, 65, none⟩ = some vv := (hd.cell 65).trans (diskCells_val now bas va vv h1 h2)
  have f64 := hd.free 64
  have f65 := hd.free 65
  have hs : (Try.prog.info? 61).map (·.size) = some (encs now).length := by rw [size61, encs_length, h1]
  have hd2 : At ((w.setCell ⟨d, 64, none⟩ (.slice none 0 0)).setCell ⟨d, 65, none⟩ (.slice none 0 0)) d 65 (diskCells now bas (.slice none 0 0) (.slice none 0 0)) := by
    have := (hd.setSame 64 (.slice none 0 0)).setSame 65 (.slice none 0 0)
    rwa [diskCells_setAt _ _ _ _ _ h1 h2, diskCells_setVal _ _ _ _ _ h1 h2] at this
  have hg : w.grownBy ((w.setCell ⟨d, 64, none⟩ (.slice none 0 0)).setCell ⟨d, 65, none⟩ (.slice none 0 0)) (some d) := g_own (g_own (g_refl _ _) _ _) _ _
  have hsz : 32 + (encs now).length ≤ (diskCells now bas (.slice none 0 0) (.slice none 0 0)).size := by rw [diskCells_size _ _ _ _ h1 h2, encs_length, h1]; omega
  clear hd
  go_enter Try.func25, Try.ntmps25
  go_wp2_with (first
    | (refine wpList_load_at (by rfl) 61 (.tmp 11) (by rfl) d 0 (by rfl) 65 _ (encs now) _ Try.underlying61 (by rfl) hs hd2 (disk_now _ _ _ _) ?_)
    | (refine wpList_store_at (by rfl) 61 (.tmp 14) (.tmp 12) (by rfl) d 32 (encs now) (by rfl) (by rfl) 65 _ hs (encs_one _) hd2 hsz ?_; intro w2 hw2 hg2 _))
  go_end0
  rw [disk_laid_bas _ _ _ _ _ h1 (by rw [h1, h2])] at hw2
  exact ⟨rfl, hw2, g_trans hg hg2⟩

/-- Mark. -/
theorem dmark_calls (base base' d : Nat) (now bas : List Blk) (log : List (Nat × Blk)) (w : World) (hD : DiskAt base w d now bas log) :
    Calls Try.prog 25 #[.pointer (some ⟨d, 0, none⟩)] w fun e w' => e = .returned (.tuple #[]) ∧ DiskAt base' w' d now now [] ∧ w.grownBy w' (some d) := by
  obtain ⟨va, vv, hd, h1, h2, -, -, -⟩ := hD
  exact (dmark_at d now bas va vv w hd h1 h2).mono fun e w' ⟨he, ha, hg⟩ => ⟨he, DiskAt.rebase ha rfl rfl h1 h1, hg⟩

set_option maxHeartbeats 400000 in
/-- (*pairm.Pair).Mark. -/
theorem mmark_calls (m : Nat) (now : List Blk) (w : World) (hM : ModAt w m now) :
    Calls Try.prog 15 #[.pointer (some ⟨m, 0, none⟩)] w fun e w' => e = .returned (.tuple #[]) ∧ ModNil w' m now ∧ w.grownBy w' (some m) := by
  obtain ⟨bas, rec, hd, h1, h2⟩ := hM
  have hlt := hd.lt
  have c40 : w.cell? ⟨m, 40, none⟩ = some rec := (hd.cell 40).trans (modCells_rec now bas rec h1 h2)
  have f40 := hd.free 40
  have hs : (Try.prog.info? 52).map (·.size) = some (encs now).length := by rw [encs_length, h1]; exact size52
  have hd2 : At (w.setCell ⟨m, 40, none⟩ (.slice none 0 0)) m 55 (modCells now bas (.slice none 0 0)) := by
    have := hd.setSame 40 (.slice none 0 0)
    rwa [modCells_setRec _ _ _ _ h1 h2] at this
  have hg : w.grownBy (w.setCell ⟨m, 40, none⟩ (.slice none 0 0)) (some m) := g_own (g_refl _ _) _ _
  have hsz : 20 + (encs now).length ≤ (modCells now bas (.slice none 0 0)).size := by rw [modCells_size _ _ _ h1 h2, encs_length, h1]; omega
  clear hd
  go_enter Try.func15, Try.ntmps15
  go_wp2_with (first
    | (refine wpList_load_at (by rfl) 52 (.tmp 8) (by rfl) m 0 (by rfl) 55 _ (encs now) _ Try.underlying52 (by rfl) hs hd2 (mod_now _ _ _) ?_)
    | (refine wpList_store_at (by rfl) 52 (.tmp 11) (.tmp 9) (by rfl) m 20 (encs now) (by rfl) (by rfl) 55 _ hs (encs_one _) hd2 hsz ?_; intro w2 hw2 hg2 _))
  go_end0
  rw [mod_laid_bas _ _ _ _ h1 (by rw [h1, h2])] at hw2
  exact ⟨rfl, ⟨now, hw2, h1, h1⟩, g_trans hg hg2⟩

set_option maxHeartbeats 400000 in
/-- (*pairm.Pair).Crashed. -/
theorem crashed_calls (m : Nat) (now : List Blk) (w : World) (hM : ModAt w m now) :
    Calls Try.prog 18 #[.pointer (some ⟨m, 0, none⟩)] w fun e w' => e = .returned (.pointer (some ⟨w.heap.size, 0, none⟩)) ∧ ModNil w' w.heap.size now ∧ w.grownBy w' none := by
  obtain ⟨bas, rec, hd, h1, h2⟩ := hM
  have hlt := hd.lt
  have hz := zero55
  have hs : (Try.prog.info? 52).map (·.size) = some (encs now).length := by rw [encs_length, h1]; exact size52
  have hd1 : At (w.alloc (.cells zMod 55)) m 55 (modCells now bas rec) := hd.alloc _
  have hn1 : At (w.alloc (.cells zMod 55)) w.heap.size 55 (modCells [zB, zB, zB, zB, zB] [zB, zB, zB, zB, zB] (.slice none 0 0)) := At.new _ _ _
  have hg1 : w.grownBy (w.alloc (.cells zMod 55)) none := g_alloc (g_refl _ _) _
  have hsz : 0 + (encs now).length ≤ (modCells [zB, zB, zB, zB, zB] [zB, zB, zB, zB, zB] (.slice none 0 0)).size := by rw [modCells_size _ _ _ rfl rfl, encs_length, h1]; omega
  have hsz2 : 20 + (encs now).length ≤ (laid (modCells [zB, zB, zB, zB, zB] [zB, zB, zB, zB, zB] (.slice none 0 0)) 0 (encs now)).size := by
    rw [mod_laid_now _ _ _ _ (by rw [h1]; rfl), modCells_size _ _ _ h1 rfl, encs_length, h1]; omega
  clear hd
  go_enter Try.func18, Try.ntmps18
  go_wp2_with (first
    | (refine wpList_load_at (by rfl) 52 (.tmp 9) (by rfl) m 0 (by rfl) 55 _ (encs now) _ Try.underlying52 (by rfl) hs hd1 (mod_now _ _ _) ?_)
    | (refine wpList_store_at (by rfl) 52 (.tmp 12) (.tmp 10) (by rfl) w.heap.size 0 (encs now) (by rfl) (by rfl) 55 _ hs (encs_one _) hn1 hsz ?_; intro w2 hw2 hg2 hz2; have hd2 := hd1.kept hg2 (by simp; omega))
    | (refine wpList_load_at (by rfl) 52 (.tmp 16) (by rfl) m 0 (by rfl) 55 _ (encs now) _ Try.underlying52 (by rfl) hs hd2 (mod_now _ _ _) ?_)
    | (refine wpList_store_at (by rfl) 52 (.tmp 19) (.tmp 17) (by rfl) w.heap.size 20 (encs now) (by rfl) (by rfl) 55 _ hs (encs_one _) hw2 hsz2 ?_; intro w3 hw3 hg3 hz3))
  go_ret
  rw [mod_laid_now _ _ _ _ (by rw [h1]; rfl), mod_laid_bas _ _ _ _ h1 (by rw [h1]; rfl)] at hw3
  exact ⟨rfl, ⟨now, hw3, h1, h1⟩, g_new (g_new hg1 (Nat.le_refl _) hg2) (Nat.le_refl _) hg3⟩

end Go.Proofs.Qxb6500338a
