/-
  Walks: the law's Ground, Steps, Mark, After.
-/
import Derived.Test.Qxb6500338aW8
namespace Go.Proofs.Qxb6500338a
open Go.RowKit

/-- The disk d, its record nil. -/
def DiskNil (w : World) (d : Nat) (now bas : List Blk) : Prop := At w d 65 (diskCells now bas (.slice none 0 0) (.slice none 0 0)) ∧ now.length = 8 ∧ bas.length = 8
theorem DiskNil.at {w : World} {d : Nat} {now bas : List Blk} (h : DiskNil w d now bas) (base : Nat) : DiskAt base w d now bas [] := DiskAt.rebase h.1 rfl rfl h.2.1 h.2.2
theorem DiskNil.ext {w w' : World} {d : Nat} {now bas : List Blk} {r : Option Nat} (h : DiskNil w d now bas) (g : w.grownBy w' r) (hr : some d ≠ r) : DiskNil w' d now bas := ⟨h.1.kept g hr, h.2⟩

abbrev below (d : Nat) : Value := .agg #[.pointer (some ⟨d, 0, none⟩)]

/-- Ground. -/
theorem ground_calls (w : World) : Calls Try.prog 8 #[] w fun e w' => e = .returned (below (w.heap.size + 1)) ∧ DiskNil w' (w.heap.size + 1) [zB, zB, zB, zB, zB, zB, zB, zB] [zB, zB, zB, zB, zB, zB, zB, zB] ∧ w.grownBy w' none := by
  go_enter Try.func8, Try.ntmps8
  go_wp2_with (go_at_call 19; refine (newDisk_calls _).mono ?_; rintro e w' ⟨rfl, rfl⟩)
  refine bodyPost_ret (v := below (w.heap.size + 1)) (by simp [results, Try.results8, go_sem]) rfl ⟨rfl, ?_, ?_⟩
  · exact ⟨at_new2 _ _ _ _, rfl, rfl⟩
  · exact g_alloc (g_alloc (g_refl _ _) _) _

/-- Steps. -/
theorem steps_calls (base d : Nat) (now bas : List Blk) (log : List (Nat × Blk)) (w : World) (hD : DiskAt base w d now bas log) :
    Calls Try.prog 12 #[below d] w fun e w' => e = .returned (.int .i64 log.length) ∧ w.grownBy w' none := by
  have h0 : DiskAt base (w.alloc (.cells #[.pointer (some ⟨d, 0, none⟩)] 29)) d now bas log := hD.ext (g_alloc (g_refl _ _) _)
  go_enter Try.func12, Try.ntmps12
  go_wp2_with (go_at_call 23; refine (dsteps_calls base d now bas log _ h0).mono ?_; rintro e w' ⟨rfl, rfl⟩)
  go_ret
  exact ⟨rfl, g_alloc (g_refl _ _) _⟩

/-- Mark. -/
theorem mark_calls (base d : Nat) (now bas : List Blk) (log : List (Nat × Blk)) (w : World) (hD : DiskAt base w d now bas log) :
    Calls Try.prog 14 #[below d] w fun e w' => e = .returned (.tuple #[]) ∧ DiskNil w' d now now ∧ w.grownBy w' (some d) := by
  have h0 : DiskAt base (w.alloc (.cells #[.pointer (some ⟨d, 0, none⟩)] 29)) d now bas log := hD.ext (g_alloc (g_refl _ _) _)
  go_enter Try.func14, Try.ntmps14
  obtain ⟨va, vv, hd, h1, h2, -, -, -⟩ := h0
  go_wp2_with (go_at_call 25; refine (dmark_at d now bas va vv _ hd h1 h2).mono ?_; rintro e w1 ⟨rfl, hD1, hg1⟩)
  go_end0
  exact ⟨rfl, ⟨hD1, h1, h1⟩, g_trans (g_alloc (g_refl _ _) _) hg1⟩

set_option maxHeartbeats 400000 in
/-- After. -/
theorem after_calls (base d : Nat) (now bas : List Blk) (log : List (Nat × Blk)) (k : Int) (w : World) (hD : DiskAt base w d now bas log) (hl : log.length < 100) :
    Calls Try.prog 17 #[below d, .int .i64 k] w fun e w' => e = .returned (below (w.heap.size + 2)) ∧
      DiskNil w' (w.heap.size + 2) (app bas (log.take k.toNat)) (app bas (log.take k.toNat)) ∧ w.grownBy w' none := by
  have h0 : DiskAt base ((w.alloc (.cells #[.pointer (some ⟨d, 0, none⟩)] 29)).alloc (.cells #[.pointer none] 29)) d now bas log := hD.ext (g_alloc (g_alloc (g_refl _ _) _) _)
  have hb : bas.length = 8 := by obtain ⟨_, _, _, _, h, _⟩ := hD; exact h
  have ht : (app bas (log.take k.toNat)).length = 8 := by rw [app_length]; exact hb
  have hc := dafter_calls base d now bas log k _ h0 hl
  have hr : At ((w.alloc (.cells #[.pointer (some ⟨d, 0, none⟩)] 29)).alloc (.cells #[.pointer none] 29)) (w.heap.size + 1) 29 #[.pointer none] := at_new2 _ _ _ _
  generalize app bas (log.take k.toNat) = t at *
  have hs2 : ((w.alloc (.cells #[.pointer (some ⟨d, 0, none⟩)] 29)).alloc (.cells #[.pointer none] 29)).heap.size = w.heap.size + 2 := by simp
  rw [hs2] at hc
  have HC := hc
  clear hc h0 hD hb hl hs2
  go_enter Try.func17, Try.ntmps17
  go_wp2_with fail
  refine HC.mono ?_
  clear HC
  rintro e w1 ⟨rfl, hA1, hg1⟩
  have hr1 := hr.ext hg1
  go_wp2_with fail
  refine (dmark_at (w.heap.size + 2) t t _ _ _ hA1 ht ht).mono ?_
  rintro e w2 ⟨rfl, hA2, hg2⟩
  have hr2 := hr1.kept hg2 (by simp)
  have c0 : w2.cell? ⟨w.heap.size + 1, 0, none⟩ = some (.pointer none) := hr2.cell 0
  have f0 := hr2.free 0
  go_wp2
  refine bodyPost_ret (v := below (w.heap.size + 2)) (by simp [results, Try.results17, go_sem, *]) rfl ⟨rfl, ?_, ?_⟩
  · exact ⟨hA2.setOther _ (by simp), ht, ht⟩
  · exact g_set (g_new (g_trans (g_alloc (g_alloc (g_refl _ _) _) _) hg1) (by omega) hg2) _ _ _ (Or.inl (by omega))
end Go.Proofs.Qxb6500338a
