/-
  Walks: the law's Ground, Steps, Mark, After; the bank's Open.
-/
import Derived.Test.Qxb6500337aB8
namespace Go.Proofs.Qxb6500337a
open Go.RowKit

abbrev below (d p : Nat) : Value := .agg #[.pointer (some ⟨d, 0, none⟩), .pointer (some ⟨p, 0, none⟩)]

/-- Lower layers over the image t. -/
def Lower (w : World) (t : List Blk) (e : Ending) (w' : World) : Prop :=
  ∃ d p, e = .returned (below d p) ∧ w.heap.size ≤ d ∧ PairAt w' p d ∧ DiskAt w.heap.size w' d (rcv t) t (recW t) ∧ w.grownBy w' none

set_option maxHeartbeats 400000 in
/-- Ground. -/
theorem ground_calls (w : World) : Calls Try.prog 8 #[] w (Lower w [zB, zB, zB, zB, zB, zB, zB, zB]) := by
  have hr : At (w.alloc (.cells #[.pointer none, .pointer none] 30)) w.heap.size 30 #[.pointer none, .pointer none] := At.new _ _ _
  have hg1 : w.grownBy (w.alloc (.cells #[.pointer none, .pointer none] 30)) none := g_alloc (g_refl _ _) _
  have hs1 : w.heap.size ≤ (w.alloc (.cells #[.pointer none, .pointer none] 30)).heap.size := by simp
  have hw : w.heap.size < (w.alloc (.cells #[.pointer none, .pointer none] 30)).heap.size := by simp
  go_enter Try.func8, Try.ntmps8
  go_wp2_with fail
  generalize (w.alloc (.cells #[.pointer none, .pointer none] 30)) = w1 at *
  refine (newDisk_calls _).mono ?_
  rintro e w2 ⟨rfl, hw2⟩
  have hN2 : DiskNil w2 w1.heap.size [zB, zB, zB, zB, zB, zB, zB, zB] [zB, zB, zB, zB, zB, zB, zB, zB] := by rw [hw2]; exact ⟨At.new _ _ _, rfl, rfl⟩
  have g2 : w1.grownBy w2 none := by rw [hw2]; exact g_alloc (g_refl _ _) _
  clear hw2
  obtain ⟨d, hd⟩ : ∃ d, w1.heap.size = d := ⟨_, rfl⟩
  rw [hd] at hN2 hs1 hw
  rw [hd]
  clear hd
  have hr2 := hr.ext g2
  have hG2 := g_trans hg1 g2
  clear hr hg1 g2
  go_wp2_with fail
  refine (open_calls d _ _ _ hN2).mono ?_
  rintro e w3 ⟨p, rfl, hp, hP3, hD3, g3⟩
  have hr3 := hr2.kept g3 (by simp; omega)
  have hG3 := g_new hG2 hs1 g3
  have hD3' := hD3.mono hG2.size
  have c0 : w3.cell? ⟨w.heap.size, 0, none⟩ = some (.pointer none) := hr3.cell 0
  have c1 : w3.cell? ⟨w.heap.size, 1, none⟩ = some (.pointer none) := hr3.cell 1
  have f0 := hr3.free 0
  have f1 := hr3.free 1
  have gF : w3.grownBy ((w3.setCell ⟨w.heap.size, 0, none⟩ (.pointer (some ⟨d, 0, none⟩))).setCell ⟨w.heap.size, 1, none⟩ (.pointer (some ⟨p, 0, none⟩))) (some w.heap.size) := g_own (g_own (g_refl _ _) _ _) _ _
  have hPF : PairAt _ p d := At.kept hP3 gF (by simpa using At.ne hP3 hr3 (by decide))
  have hDF := hD3'.kept gF hr3 (by decide) (by decide) (by decide)
  have hGF := g_new hG3 (Nat.le_refl _) gF
  clear hr2 hG2 hN2 hP3 hD3 g3 hD3' hG3 gF hp
  go_wp2
  refine bodyPost_ret (v := below d p) (by simp [results, Try.results8, go_sem, *]) rfl ?_
  exact ⟨d, p, rfl, hs1, hPF, hDF, hGF⟩

/-- bank.Open. -/
theorem bankOpen_calls (p : Nat) (w : World) : Calls Try.prog 9 #[.pointer (some ⟨p, 0, none⟩)] w fun e w' => e = .returned (.pointer (some ⟨w.heap.size, 0, none⟩)) ∧ BankAt w' w.heap.size p ∧ w.grownBy w' none := by
  go_enter Try.func9, Try.ntmps9
  go_wp2
  go_ret
  exact ⟨rfl, At.new _ _ _, g_alloc (g_refl _ _) _⟩

/-- Steps. -/
theorem steps_calls (base d p : Nat) (now bas : List Blk) (log : List (Nat × Blk)) (w : World) (hD : DiskAt base w d now bas log) :
    Calls Try.prog 12 #[below d p] w fun e w' => e = .returned (.int .i64 log.length) ∧ w.grownBy w' none := by
  have h0 : DiskAt base (w.alloc (.cells #[.pointer (some ⟨d, 0, none⟩), .pointer (some ⟨p, 0, none⟩)] 30)) d now bas log := hD.ext (g_alloc (g_refl _ _) _)
  go_enter Try.func12, Try.ntmps12
  go_wp2_with (go_at_call 20; refine (dsteps_calls base d now bas log _ h0).mono ?_; rintro e w' ⟨rfl, rfl⟩)
  go_ret
  exact ⟨rfl, g_alloc (g_refl _ _) _⟩

/-- Mark. -/
theorem mark_calls (base d p : Nat) (now bas : List Blk) (log : List (Nat × Blk)) (w : World) (hD : DiskAt base w d now bas log) :
    Calls Try.prog 14 #[below d p] w fun e w' => e = .returned (.tuple #[]) ∧ DiskNil w' d now now ∧ w.grownBy w' (some d) := by
  have h0 : DiskAt base (w.alloc (.cells #[.pointer (some ⟨d, 0, none⟩), .pointer (some ⟨p, 0, none⟩)] 30)) d now bas log := hD.ext (g_alloc (g_refl _ _) _)
  go_enter Try.func14, Try.ntmps14
  obtain ⟨va, vv, hd, h1, h2, -, -, -⟩ := h0
  go_wp2_with (go_at_call 23; refine (dmark_at d now bas va vv _ hd h1 h2).mono ?_; rintro e w1 ⟨rfl, hD1, hg1⟩)
  go_end0
  exact ⟨rfl, ⟨hD1, h1, h1⟩, g_trans (g_alloc (g_refl _ _) _) hg1⟩

set_option maxHeartbeats 800000 in
/-- After. -/
theorem after_calls (base d p : Nat) (now bas : List Blk) (log : List (Nat × Blk)) (k : Int) (w : World) (hD : DiskAt base w d now bas log) (hl : log.length < 100) :
    Calls Try.prog 16 #[below d p, .int .i64 k] w (Lower w (app bas (log.take k.toNat))) := by
  have hg1 : w.grownBy ((w.alloc (.cells #[.pointer (some ⟨d, 0, none⟩), .pointer (some ⟨p, 0, none⟩)] 30)).alloc (.cells #[.pointer none, .pointer none] 30)) none := g_alloc (g_alloc (g_refl _ _) _) _
  have hb : bas.length = 8 := by obtain ⟨_, _, _, _, h, _⟩ := hD; exact h
  have ht : (app bas (log.take k.toNat)).length = 8 := by rw [app_length]; exact hb
  have hc := dafter_calls base d now bas log k _ (hD.ext hg1) hl
  have hr : At ((w.alloc (.cells #[.pointer (some ⟨d, 0, none⟩), .pointer (some ⟨p, 0, none⟩)] 30)).alloc (.cells #[.pointer none, .pointer none] 30)) (w.heap.size + 1) 30 #[.pointer none, .pointer none] := at_new2 _ _ _ _
  generalize app bas (log.take k.toNat) = t at *
  obtain ⟨d2, hd2⟩ : ∃ d2, ((w.alloc (.cells #[.pointer (some ⟨d, 0, none⟩), .pointer (some ⟨p, 0, none⟩)] 30)).alloc (.cells #[.pointer none, .pointer none] 30)).heap.size = d2 := ⟨_, rfl⟩
  rw [hd2] at hc
  have hd3 : w.heap.size + 2 = d2 := by simpa using hd2
  have hdl : w.heap.size ≤ d2 := by omega
  have hdn : w.heap.size + 1 ≠ d2 := by omega
  have HC := hc
  clear hc hD hb hl hd2 hd3
  go_enter Try.func16, Try.ntmps16
  go_wp2_with fail
  generalize ((w.alloc (.cells #[.pointer (some ⟨d, 0, none⟩), .pointer (some ⟨p, 0, none⟩)] 30)).alloc (.cells #[.pointer none, .pointer none] 30)) = w0 at *
  refine HC.mono ?_
  clear HC
  rintro e w1 ⟨rfl, hA1, g1⟩
  have hr1 := hr.ext g1
  have hG1 := g_trans hg1 g1
  clear hr hg1 g1
  go_wp2_with fail
  refine (dmark_at d2 t t _ _ _ hA1 ht ht).mono ?_
  rintro e w2 ⟨rfl, hA2, g2⟩
  have hr2 := hr1.kept g2 (by simpa using hdn)
  have hG2 := g_new hG1 hdl g2
  have hN2 : DiskNil w2 d2 t t := ⟨hA2, ht, ht⟩
  clear hr1 hG1 g2 hA1 hA2
  go_wp2_with fail
  refine (open_calls d2 t t _ hN2).mono ?_
  rintro e w3 ⟨p2, rfl, hp, hP3, hD3, g3⟩
  have hr3 := hr2.kept g3 (by simpa using hdn)
  have hG3 := g_new hG2 hdl g3
  have hD3' := hD3.mono hG2.size
  have c0 : w3.cell? ⟨w.heap.size + 1, 0, none⟩ = some (.pointer none) := hr3.cell 0
  have c1 : w3.cell? ⟨w.heap.size + 1, 1, none⟩ = some (.pointer none) := hr3.cell 1
  have f0 := hr3.free 0
  have f1 := hr3.free 1
  have gF : w3.grownBy ((w3.setCell ⟨w.heap.size + 1, 0, none⟩ (.pointer (some ⟨d2, 0, none⟩))).setCell ⟨w.heap.size + 1, 1, none⟩ (.pointer (some ⟨p2, 0, none⟩))) (some (w.heap.size + 1)) := g_own (g_own (g_refl _ _) _ _) _ _
  have hPF : PairAt _ p2 d2 := At.kept hP3 gF (by simpa using At.ne hP3 hr3 (by decide))
  have hDF := hD3'.kept gF hr3 (by decide) (by decide) (by decide)
  have hGF := g_new hG3 (by omega) gF
  clear hr2 hG2 hN2 hP3 hD3 g3 hD3' hG3 gF hp
  go_wp2
  refine bodyPost_ret (v := below d2 p2) (by simp [results, Try.results16, go_sem, *]) rfl ?_
  exact ⟨d2, p2, rfl, hdl, hPF, hDF, hGF⟩
end Go.Proofs.Qxb6500337a
