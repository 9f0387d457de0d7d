/-
  Walks: BlockOf.
-/
import Derived.Test.Qxb6500338aW3
namespace Go.Proofs.Qxb6500338a
open Go.RowKit

theorem at_new2 (w : World) (o : Obj) (C : Array Value) (t : TypeId) : At ((w.alloc o).alloc (.cells C t)) (w.heap.size + 1) t C := by
  have := At.new (w.alloc o) C t
  rwa [World.size_alloc] at this

/-- Some block comes back. -/
def RetBlk (w : World) (e : Ending) (w' : World) : Prop := ∃ x : Blk, e = .returned (bv x) ∧ w.grownBy w' none

set_option maxHeartbeats 800000 in
/-- BlockOf: some block. -/
theorem blockOf_calls (s : ByteArray) (w : World) (hs : s.size ≤ maxLen) :
    Calls Try.prog 27 #[.string s] w (RetBlk w) := by
  unfold maxLen at hs
  go_enter Try.func27, Try.ntmps27
  go_wp2
  go_loopw [4] (fun i wr => ∃ k : Nat, k ≤ 4 ∧ k ≤ s.size ∧ i = .int .i64 k ∧ ∃ x : Blk, At wr w.heap.size 44 (bc zB) ∧ At wr (w.heap.size + 1) 44 (bc x) ∧ w.grownBy wr none) (fun i _ => 4 - (intOf i).toNat)
  case atStart =>
    refine ⟨0, by omega, by omega, rfl, zB, ?_, ?_, ?_⟩
    · exact (At.new w _ _).alloc _
    · exact at_new2 w _ _ _
    · exact g_alloc (g_alloc (g_refl _ _) _) _
  case round =>
    obtain ⟨k, hk, hks, rfl, x, hx, hy, hg⟩ := hrel
    by_cases hlt : k < s.size
    · have hcase : k = 0 ∨ k = 1 ∨ k = 2 ∨ k = 3 ∨ k = 4 := by omega
      rcases hcase with rfl | rfl | rfl | rfl | rfl
      · have c1 : wr.cell? ⟨w.heap.size + 1, 0, none⟩ = some (.int .u8 x.1.toNat) := hy.cell 0
        have f1 := hy.free 0
        go_wp2
        exact ⟨⟨1, by omega, by omega, rfl, (s[0], x.2.1, x.2.2.1, x.2.2.2), hx.setOther _ (by simp), hy.setSame 0 _, g_set hg _ _ _ (Or.inl (by omega))⟩, by simp [intOf]⟩
      · have c1 : wr.cell? ⟨w.heap.size + 1, 1, none⟩ = some (.int .u8 x.2.1.toNat) := hy.cell 1
        have f1 := hy.free 1
        go_wp2
        exact ⟨⟨2, by omega, by omega, rfl, (x.1, s[1], x.2.2.1, x.2.2.2), hx.setOther _ (by simp), hy.setSame 1 _, g_set hg _ _ _ (Or.inl (by omega))⟩, by simp [intOf]⟩
      · have c1 : wr.cell? ⟨w.heap.size + 1, 2, none⟩ = some (.int .u8 x.2.2.1.toNat) := hy.cell 2
        have f1 := hy.free 2
        go_wp2
        exact ⟨⟨3, by omega, by omega, rfl, (x.1, x.2.1, s[2], x.2.2.2), hx.setOther _ (by simp), hy.setSame 2 _, g_set hg _ _ _ (Or.inl (by omega))⟩, by simp [intOf]⟩
      · have c1 : wr.cell? ⟨w.heap.size + 1, 3, none⟩ = some (.int .u8 x.2.2.2.toNat) := hy.cell 3
        have f1 := hy.free 3
        go_wp2
        exact ⟨⟨4, by omega, by omega, rfl, (x.1, x.2.1, x.2.2.1, s[3]), hx.setOther _ (by simp), hy.setSame 3 _, g_set hg _ _ _ (Or.inl (by omega))⟩, by simp [intOf]⟩
      · clear hs hk hks
        have c0 : wr.cell? ⟨w.heap.size + 1, 0, none⟩ = some (.int .u8 x.1.toNat) := hy.cell 0
        have c1 : wr.cell? ⟨w.heap.size + 1, 1, none⟩ = some (.int .u8 x.2.1.toNat) := hy.cell 1
        have c2 : wr.cell? ⟨w.heap.size + 1, 2, none⟩ = some (.int .u8 x.2.2.1.toNat) := hy.cell 2
        have c3 : wr.cell? ⟨w.heap.size + 1, 3, none⟩ = some (.int .u8 x.2.2.2.toNat) := hy.cell 3
        have d0 : wr.cell? ⟨w.heap.size, 0, none⟩ = some (.int .u8 zB.1.toNat) := hx.cell 0
        have d1 : wr.cell? ⟨w.heap.size, 1, none⟩ = some (.int .u8 zB.2.1.toNat) := hx.cell 1
        have d2 : wr.cell? ⟨w.heap.size, 2, none⟩ = some (.int .u8 zB.2.2.1.toNat) := hx.cell 2
        have d3 : wr.cell? ⟨w.heap.size, 3, none⟩ = some (.int .u8 zB.2.2.2.toNat) := hx.cell 3
        have f0 := hx.free 0
        have f1 := hx.free 1
        have f2 := hx.free 2
        have f3 := hx.free 3
        go_wp2
        refine bodyPost_ret (v := bv x) (by simp [results, Try.results27, go_sem, *]) rfl ⟨x, rfl, ?_⟩
        refine g_set ?_ _ _ _ (Or.inl (Nat.le_refl _))
        refine g_set ?_ _ _ _ (Or.inl (Nat.le_refl _))
        refine g_set ?_ _ _ _ (Or.inl (Nat.le_refl _))
        refine g_set ?_ _ _ _ (Or.inl (Nat.le_refl _))
        exact hg
    · have hlt' : ¬ ((k : Int) < (s.size : Int)) := by omega
      have c0 : wr.cell? ⟨w.heap.size + 1, 0, none⟩ = some (.int .u8 x.1.toNat) := hy.cell 0
      have c1 : wr.cell? ⟨w.heap.size + 1, 1, none⟩ = some (.int .u8 x.2.1.toNat) := hy.cell 1
      have c2 : wr.cell? ⟨w.heap.size + 1, 2, none⟩ = some (.int .u8 x.2.2.1.toNat) := hy.cell 2
      have c3 : wr.cell? ⟨w.heap.size + 1, 3, none⟩ = some (.int .u8 x.2.2.2.toNat) := hy.cell 3
      have d0 : wr.cell? ⟨w.heap.size, 0, none⟩ = some (.int .u8 zB.1.toNat) := hx.cell 0
      have d1 : wr.cell? ⟨w.heap.size, 1, none⟩ = some (.int .u8 zB.2.1.toNat) := hx.cell 1
      have d2 : wr.cell? ⟨w.heap.size, 2, none⟩ = some (.int .u8 zB.2.2.1.toNat) := hx.cell 2
      have d3 : wr.cell? ⟨w.heap.size, 3, none⟩ = some (.int .u8 zB.2.2.2.toNat) := hx.cell 3
      have f0 := hx.free 0
      have f1 := hx.free 1
      have f2 := hx.free 2
      have f3 := hx.free 3
      go_wp2
      refine bodyPost_ret (v := bv x) (by simp [results, Try.results27, go_sem, *]) rfl ⟨x, rfl, ?_⟩
      refine g_set ?_ _ _ _ (Or.inl (Nat.le_refl _))
      refine g_set ?_ _ _ _ (Or.inl (Nat.le_refl _))
      refine g_set ?_ _ _ _ (Or.inl (Nat.le_refl _))
      refine g_set ?_ _ _ _ (Or.inl (Nat.le_refl _))
      exact hg
end Go.Proofs.Qxb6500338a
