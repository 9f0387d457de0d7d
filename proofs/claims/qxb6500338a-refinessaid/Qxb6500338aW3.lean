/-
  Walks: Clone, SameBlock, BlockOf.
-/
import Derived.Test.Qxb6500338aW2
namespace Go.Proofs.Qxb6500338a
open Go.RowKit

set_option maxHeartbeats 800000 in
/-- (*pairm.Pair).Clone, the record nil. -/
theorem clone_calls (m : Nat) (now : List Blk) (w : World) (hM : ModNil w m now) :
    Calls Try.prog 11 #[.pointer (some ⟨m, 0, none⟩)] w fun e w' => e = .returned (.pointer (some ⟨w.heap.size, 0, none⟩)) ∧ ModNil w' w.heap.size now ∧ w.grownBy w' none := by
  obtain ⟨bas, hd, h1, h2⟩ := hM
  have hlt := hd.lt
  have hz := zero55
  have hs : (Try.prog.info? 52).map (·.size) = some (encs now).length := by rw [encs_length, h1]; exact size52
  have hs' : (Try.prog.info? 52).map (·.size) = some (encs bas).length := by rw [encs_length, h2]; exact size52
  have hd1 : At (w.alloc (.cells zMod 55)) m 55 (modCells now bas (.slice none 0 0)) := hd.alloc _
  have hn1 : At (w.alloc (.cells zMod 55)) w.heap.size 55 (modCells [zB, zB, zB, zB, zB] [zB, zB, zB, zB, zB] (.slice none 0 0)) := At.new _ _ _
  have hg1 : w.grownBy (w.alloc (.cells zMod 55)) none := g_alloc (g_refl _ _) _
  have hsz : 0 + (encs now).length ≤ (modCells [zB, zB, zB, zB, zB] [zB, zB, zB, zB, zB] (.slice none 0 0)).size := by rw [modCells_size _ _ _ rfl rfl, encs_length, h1]; omega
  have hsz2 : 20 + (encs bas).length ≤ (laid (modCells [zB, zB, zB, zB, zB] [zB, zB, zB, zB, zB] (.slice none 0 0)) 0 (encs now)).size := by
    rw [mod_laid_now _ _ _ _ (by rw [h1]; rfl), modCells_size _ _ _ h1 rfl, encs_length, h2]; omega
  clear hd
  go_enter Try.func11, Try.ntmps11
  go_wp2_with (first
    | (refine wpList_load_at (by rfl) 52 (.tmp 9) (by rfl) m 0 (by rfl) 55 _ (encs now) _ Try.underlying52 (by rfl) hs hd1 (mod_now _ _ _) ?_)
    | (refine wpList_store_at (by rfl) 52 (.tmp 12) (.tmp 10) (by rfl) w.heap.size 0 (encs now) (by rfl) (by rfl) 55 _ hs (encs_one _) hn1 hsz ?_; intro w2 hw2 hg2 hz2; have hd2 := hd1.kept hg2 (by simp; omega))
    | (refine wpList_load_at (by rfl) 52 (.tmp 16) (by rfl) m 20 (by rfl) 55 _ (encs bas) _ Try.underlying52 (by rfl) hs' hd2 (mod_bas _ _ _ h1) ?_)
    | (refine wpList_store_at (by rfl) 52 (.tmp 19) (.tmp 17) (by rfl) w.heap.size 20 (encs bas) (by rfl) (by rfl) 55 _ hs' (encs_one _) hw2 hsz2 ?_; intro w3 hw3 hg3 hz3))
  rw [mod_laid_now _ _ _ _ (by rw [h1]; rfl), mod_laid_bas _ _ _ _ h1 (by rw [h2]; rfl)] at hw3
  have hd3 := hd2.kept hg3 (by simp; omega)
  have k1 : w3.cell? ⟨w.heap.size, 40, none⟩ = some (.slice none 0 0) := (hw3.cell 40).trans (modCells_rec now bas _ h1 h2)
  have k2 : w3.cell? ⟨m, 40, none⟩ = some (.slice none 0 0) := (hd3.cell 40).trans (modCells_rec now bas _ h1 h2)
  have k3 := hw3.free 40
  clear hs hs' hd1 hn1 hsz hsz2 hz
  have hfin : ModNil (w3.setCell ⟨w.heap.size, 40, none⟩ (.slice none 0 0)).drew w.heap.size now ∧ w.grownBy (w3.setCell ⟨w.heap.size, 40, none⟩ (.slice none 0 0)).drew none := by
    have h4 := hw3.setSame 40 (.slice none 0 0)
    rw [modCells_setRec _ _ _ _ h1 h2] at h4
    exact ⟨⟨bas, h4.drew, h1, h2⟩, g_drew (g_set (g_new (g_new hg1 (Nat.le_refl _) hg2) (Nat.le_refl _) hg3) _ _ _ (Or.inl (Nat.le_refl _)))⟩
  clear hg1 hg2 hg3 hw2 hw3 hd2 hd3
  go_region
  all_goals go_wp2
  all_goals (go_ret; exact ⟨rfl, hfin⟩)

/-- The first k bytes of two blocks are the same. -/
def sameTo (x y : Blk) (k : Nat) : Prop :=
  (0 < k → x.1 = y.1) ∧ (1 < k → x.2.1 = y.2.1) ∧ (2 < k → x.2.2.1 = y.2.2.1) ∧ (3 < k → x.2.2.2 = y.2.2.2)

theorem sameTo_four {x y : Blk} (h : sameTo x y 4) : (x == y) = true := by
  obtain ⟨a, b, c, d⟩ := x
  obtain ⟨a', b', c', d'⟩ := y
  simpa [sameTo, and_assoc] using h
theorem byte_ne {a b : UInt8} (h : ((a.toNat : Int) != (b.toNat : Int)) = true) : a ≠ b := by
  intro e; subst e; simp at h
theorem byte_eq {a b : UInt8} (h : ((a.toNat : Int) != (b.toNat : Int)) = false) : a = b := by
  simp only [bne_eq_false_iff_eq] at h
  exact UInt8.toNat_inj.1 (by omega)
theorem blk_ne0 {x y : Blk} (h : x.1 ≠ y.1) : (x == y) = false := by simp; intro e; exact h (by rw [e])
theorem blk_ne1 {x y : Blk} (h : x.2.1 ≠ y.2.1) : (x == y) = false := by simp; intro e; exact h (by rw [e])
theorem blk_ne2 {x y : Blk} (h : x.2.2.1 ≠ y.2.2.1) : (x == y) = false := by simp; intro e; exact h (by rw [e])
theorem blk_ne3 {x y : Blk} (h : x.2.2.2 ≠ y.2.2.2) : (x == y) = false := by simp; intro e; exact h (by rw [e])

set_option maxHeartbeats 800000 in
/-- SameBlock. -/
theorem sameBlock_calls (x y : Blk) (w : World) :
    Calls Try.prog 31 #[bv x, bv y] w fun e w' => e = .returned (.bool (x == y)) ∧ w.grownBy w' none := by
  go_enter Try.func31, Try.ntmps31
  go_wp2
  go_loopw [5] (fun i wr => ∃ k : Nat, k ≤ 4 ∧ i = .int .i64 k ∧ sameTo x y k ∧ At wr w.heap.size 44 (bc x) ∧ At wr (w.heap.size + 1) 44 (bc y) ∧ w.grownBy wr none) (fun i _ => 4 - (intOf i).toNat)
  case atStart =>
    refine ⟨0, by omega, rfl, by simp [sameTo], ?_, ?_, ?_⟩
    · exact (At.new w _ _).alloc _
    · have := At.new (w.alloc (.cells (bc x) 44)) (bc y) 44
      simpa using this
    · exact g_alloc (g_alloc (g_refl _ _) _) _
  case round =>
    obtain ⟨k, hk, rfl, hs, hx, hy, hg⟩ := hrel
    have hcase : k = 0 ∨ k = 1 ∨ k = 2 ∨ k = 3 ∨ k = 4 := by omega
    rcases hcase with rfl | rfl | rfl | rfl | rfl
    · have c1 : wr.cell? ⟨w.heap.size, 0, none⟩ = some (.int .u8 x.1.toNat) := hx.cell 0
      have c2 : wr.cell? ⟨w.heap.size + 1, 0, none⟩ = some (.int .u8 y.1.toNat) := hy.cell 0
      go_wp2
      go_region_held3 (fun w' => w'.cell? ⟨w.heap.size, 0, none⟩ = some (.int .u8 x.1.toNat) ∧ w'.cell? ⟨w.heap.size + 1, 0, none⟩ = some (.int .u8 y.1.toNat)) (go_keep) (fail)
      go_wp2
      · have hb : ((x.1.toNat : Int) != (y.1.toNat : Int)) = true := by assumption
        go_ret
        exact ⟨by rw [blk_ne0 (byte_ne hb)]; rfl, g_drew hg⟩
      · have hb : ((x.1.toNat : Int) != (y.1.toNat : Int)) = false := by assumption
        exact ⟨⟨1, by omega, rfl, ⟨fun _ => byte_eq hb, fun h => absurd h (by omega), fun h => absurd h (by omega), fun h => absurd h (by omega)⟩, hx.drew, hy.drew, g_drew hg⟩, by simp [intOf]⟩
    · have c1 : wr.cell? ⟨w.heap.size, 1, none⟩ = some (.int .u8 x.2.1.toNat) := hx.cell 1
      have c2 : wr.cell? ⟨w.heap.size + 1, 1, none⟩ = some (.int .u8 y.2.1.toNat) := hy.cell 1
      go_wp2
      go_region_held3 (fun w' => w'.cell? ⟨w.heap.size, 1, none⟩ = some (.int .u8 x.2.1.toNat) ∧ w'.cell? ⟨w.heap.size + 1, 1, none⟩ = some (.int .u8 y.2.1.toNat)) (go_keep) (fail)
      go_wp2
      · have hb : ((x.2.1.toNat : Int) != (y.2.1.toNat : Int)) = true := by assumption
        go_ret
        exact ⟨by rw [blk_ne1 (byte_ne hb)]; rfl, g_drew hg⟩
      · have hb : ((x.2.1.toNat : Int) != (y.2.1.toNat : Int)) = false := by assumption
        exact ⟨⟨2, by omega, rfl, ⟨fun _ => hs.1 (by omega), fun _ => byte_eq hb, fun h => absurd h (by omega), fun h => absurd h (by omega)⟩, hx.drew, hy.drew, g_drew hg⟩, by simp [intOf]⟩
    · have c1 : wr.cell? ⟨w.heap.size, 2, none⟩ = some (.int .u8 x.2.2.1.toNat) := hx.cell 2
      have c2 : wr.cell? ⟨w.heap.size + 1, 2, none⟩ = some (.int .u8 y.2.2.1.toNat) := hy.cell 2
      go_wp2
      go_region_held3 (fun w' => w'.cell? ⟨w.heap.size, 2, none⟩ = some (.int .u8 x.2.2.1.toNat) ∧ w'.cell? ⟨w.heap.size + 1, 2, none⟩ = some (.int .u8 y.2.2.1.toNat)) (go_keep) (fail)
      go_wp2
      · have hb : ((x.2.2.1.toNat : Int) != (y.2.2.1.toNat : Int)) = true := by assumption
        go_ret
        exact ⟨by rw [blk_ne2 (byte_ne hb)]; rfl, g_drew hg⟩
      · have hb : ((x.2.2.1.toNat : Int) != (y.2.2.1.toNat : Int)) = false := by assumption
        exact ⟨⟨3, by omega, rfl, ⟨fun _ => hs.1 (by omega), fun _ => hs.2.1 (by omega), fun _ => byte_eq hb, fun h => absurd h (by omega)⟩, hx.drew, hy.drew, g_drew hg⟩, by simp [intOf]⟩
    · have c1 : wr.cell? ⟨w.heap.size, 3, none⟩ = some (.int .u8 x.2.2.2.toNat) := hx.cell 3
      have c2 : wr.cell? ⟨w.heap.size + 1, 3, none⟩ = some (.int .u8 y.2.2.2.toNat) := hy.cell 3
      go_wp2
      go_region_held3 (fun w' => w'.cell? ⟨w.heap.size, 3, none⟩ = some (.int .u8 x.2.2.2.toNat) ∧ w'.cell? ⟨w.heap.size + 1, 3, none⟩ = some (.int .u8 y.2.2.2.toNat)) (go_keep) (fail)
      go_wp2
      · have hb : ((x.2.2.2.toNat : Int) != (y.2.2.2.toNat : Int)) = true := by assumption
        go_ret
        exact ⟨by rw [blk_ne3 (byte_ne hb)]; rfl, g_drew hg⟩
      · have hb : ((x.2.2.2.toNat : Int) != (y.2.2.2.toNat : Int)) = false := by assumption
        exact ⟨⟨4, by omega, rfl, ⟨fun _ => hs.1 (by omega), fun _ => hs.2.1 (by omega), fun _ => hs.2.2.1 (by omega), fun _ => byte_eq hb⟩, hx.drew, hy.drew, g_drew hg⟩, by simp [intOf]⟩
    · go_wp2
      go_ret
      exact ⟨by rw [sameTo_four hs]; rfl, hg⟩
end Go.Proofs.Qxb6500338a
