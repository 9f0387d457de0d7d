/-
  Walks: Get.
-/
import Derived.Test.Qxb6500337aW5
namespace Go.Proofs.Qxb6500337a
open Go.RowKit

/-- The layer p over the disk d. -/
def PairAt (w : World) (p d : Nat) : Prop := At w p 68 #[.pointer (some ⟨d, 0, none⟩)]

theorem PairAt.cell {w : World} {p d : Nat} (h : PairAt w p d) : w.cell? ⟨p, 0, none⟩ = some (.pointer (some ⟨d, 0, none⟩)) := At.cell h 0

/-- Four cells of a block of bytes. -/
theorem At.four {w : World} {b : Nat} {x : Blk} {t : TypeId} (h : At w b t (bc x)) :
    w.cell? ⟨b, 0, none⟩ = some (.int .u8 x.1.toNat) ∧ w.cell? ⟨b, 1, none⟩ = some (.int .u8 x.2.1.toNat) ∧ w.cell? ⟨b, 2, none⟩ = some (.int .u8 x.2.2.1.toNat) ∧ w.cell? ⟨b, 3, none⟩ = some (.int .u8 x.2.2.2.toNat) :=
  ⟨h.cell 0, h.cell 1, h.cell 2, h.cell 3⟩
theorem At.free4 {w : World} {b : Nat} {x : Blk} {t : TypeId} (h : At w b t (bc x)) :
    w.frozen? ⟨b, 0, none⟩ = false ∧ w.frozen? ⟨b, 1, none⟩ = false ∧ w.frozen? ⟨b, 2, none⟩ = false ∧ w.frozen? ⟨b, 3, none⟩ = false :=
  ⟨h.free 0, h.free 1, h.free 2, h.free 3⟩

set_option maxHeartbeats 800000 in
/-- (*Pair).Get in range. -/
theorem get_in (base p d : Nat) (now bas : List Blk) (log : List (Nat × Blk)) (i : Int) (w : World) (hP : PairAt w p d) (hD : DiskAt base w d now bas log) (h0 : 0 ≤ i) (h5 : i < 5) :
    Calls Try.prog 41 #[.pointer (some ⟨p, 0, none⟩), .int .i64 i] w fun e w' => e = .returned (.tuple #[bv (now.getD (3 + i).toNat zB), .int .i64 0]) ∧ w.grownBy w' none := by
  have hp := hP.cell
  have hlt := At.lt hP
  have hne : w.heap.size ≠ p := by omega
  have hb0 : At (w.alloc (.cells (bc zB) 56)) w.heap.size 56 (bc zB) := At.new _ _ _
  have hD0 : DiskAt base (w.alloc (.cells (bc zB) 56)).drew d now bas log := hD.ext (g_drew (g_alloc (g_refl _ _) _))
  have hg0 : w.grownBy (w.alloc (.cells (bc zB) 56)).drew none := g_drew (g_alloc (g_refl _ _) _)
  go_enter Try.func41, Try.ntmps41
  go_wp2
  go_region_held3 (fun w' => w'.cell? ⟨p, 0, none⟩ = some (.pointer (some ⟨d, 0, none⟩))) (go_keep)
    (first
      | (go_at_call 29; refine (home_calls i _ h0 h5).mono ?_; rintro e w' ⟨rfl, rfl⟩)
      | (go_at_call 27; refine (read_calls base d now bas log (3 + i) _ hD0 (by omega) (by omega)).mono ?_; rintro e w2 ⟨rfl, hg⟩; have hb2 := (At.drew hb0).ext hg; obtain ⟨c0, c1, c2, c3⟩ := hb2.four; obtain ⟨f0, f1, f2, f3⟩ := hb2.free4; have s1 := (At.cell (((At.alloc hP _).drew).ext hg) 0)))
  go_wp2
  refine bodyPost_ret (v := .tuple #[bv (now[(3 + i).toNat]?.getD zB), .int .i64 0]) (by simp [results, Try.results41, go_sem, *]) rfl ⟨by simp, ?_⟩
  refine g_set ?_ _ _ _ (Or.inl (Nat.le_refl _))
  refine g_set ?_ _ _ _ (Or.inl (Nat.le_refl _))
  refine g_set ?_ _ _ _ (Or.inl (Nat.le_refl _))
  refine g_set ?_ _ _ _ (Or.inl (Nat.le_refl _))
  exact g_trans hg0 hg

theorem get_out (p : Nat) (i : Int) (w : World) (h : i < 0 ∨ 5 ≤ i) :
    Calls Try.prog 41 #[.pointer (some ⟨p, 0, none⟩), .int .i64 i] w fun e w' => e = .returned (.tuple #[bv zB, .int .i64 1]) ∧ w.grownBy w' none := by
  rcases h with h | h
  · go_enter Try.func41, Try.ntmps41
    go_wp2
    refine bodyPost_ret (v := .tuple #[bv zB, .int .i64 1]) (by simp [results, Try.results41, go_sem, zB]) rfl ⟨rfl, ?_⟩
    exact g_alloc (g_refl _ _) _
  · have h' : ¬ i < 0 := by omega
    go_enter Try.func41, Try.ntmps41
    go_wp2
    refine bodyPost_ret (v := .tuple #[bv zB, .int .i64 1]) (by simp [results, Try.results41, go_sem, zB]) rfl ⟨rfl, ?_⟩
    exact g_alloc (g_refl _ _) _

theorem at_new' (w : World) (C : Array Value) (t : TypeId) (n : Nat) (h : w.heap.size = n) : At (w.alloc (.cells C t)) n t C := by subst h; exact At.new _ _ _

end Go.Proofs.Qxb6500337a
