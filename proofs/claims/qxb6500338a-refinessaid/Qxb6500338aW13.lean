/-
  Walks: Put of the model.
-/
import Derived.Test.Qxb6500338aW12
namespace Go.Proofs.Qxb6500338a
open Go.RowKit

theorem mput_bad1 (p : Nat) (a b : Int) (x y : Blk) (w : World) (h : a < 0 ∨ 5 ≤ a) :
    Calls Try.prog 33 #[.pointer (some ⟨p, 0, none⟩), .int .i64 a, bv x, .int .i64 b, bv y] w fun e w' => e = .returned (.int .i64 1) ∧ w.grownBy w' none := by
  rcases h with h | h
  · go_enter Try.func33, Try.ntmps33
    go_wp2
    go_ret
    exact ⟨rfl, g_alloc (g_alloc (g_refl _ _) _) _⟩
  · have h' : ¬ a < 0 := by omega
    go_enter Try.func33, Try.ntmps33
    go_wp2
    go_ret
    exact ⟨rfl, g_alloc (g_alloc (g_refl _ _) _) _⟩
theorem mput_bad2 (p : Nat) (a b : Int) (x y : Blk) (w : World) (ha0 : 0 ≤ a) (ha5 : a < 5) (h : b < 0 ∨ 5 ≤ b) :
    Calls Try.prog 33 #[.pointer (some ⟨p, 0, none⟩), .int .i64 a, bv x, .int .i64 b, bv y] w fun e w' => e = .returned (.int .i64 1) ∧ w.grownBy w' none := by
  rcases h with h | h
  · go_enter Try.func33, Try.ntmps33
    go_wp2
    go_ret
    exact ⟨rfl, g_alloc (g_alloc (g_refl _ _) _) _⟩
  · have h' : ¬ b < 0 := by omega
    go_enter Try.func33, Try.ntmps33
    go_wp2
    go_ret
    exact ⟨rfl, g_alloc (g_alloc (g_refl _ _) _) _⟩
theorem mput_bad3 (p : Nat) (a : Int) (x y : Blk) (w : World) (ha0 : 0 ≤ a) (ha5 : a < 5) :
    Calls Try.prog 33 #[.pointer (some ⟨p, 0, none⟩), .int .i64 a, bv x, .int .i64 a, bv y] w fun e w' => e = .returned (.int .i64 2) ∧ w.grownBy w' none := by
  go_enter Try.func33, Try.ntmps33
  go_wp2
  go_ret
  exact ⟨rfl, g_alloc (g_alloc (g_refl _ _) _) _⟩

theorem info70 : (Try.prog.info? 70).map (fun i => (i.zero, i.size, i.bytes)) = some (some (.agg #[.int .i64 0, .int .i64 0, .int .u8 0, .int .u8 0, .int .u8 0, .int .u8 0, .int .u8 0, .int .u8 0, .int .u8 0, .int .u8 0]), 10, 24) := by kernel_rfl

/-- What a store into m.now leaves. -/
theorem mput_mid {m : Nat} {now bas : List Blk} {rec : Value} {w : World} (k : Nat) (x : Blk) (hm : At w m 55 (modCells now bas rec)) (h1 : now.length = 5) (hk : k < 5)
    (W : World) (hW : W = ((((w.setCell ⟨m, k * 4, none⟩ (.int .u8 x.1.toNat)).setCell ⟨m, k * 4 + 1, none⟩ (.int .u8 x.2.1.toNat)).setCell ⟨m, k * 4 + 2, none⟩ (.int .u8 x.2.2.1.toNat)).setCell ⟨m, k * 4 + 3, none⟩ (.int .u8 x.2.2.2.toNat)).drew) :
    At W m 55 (modCells (now.set k x) bas rec) ∧ w.grownBy W (some m) ∧ W.heap.size = w.heap.size := by
  subst hW
  have g4 := g_own (g_own (g_own (g_own (g_refl w (some m)) (k * 4) (.int .u8 x.1.toNat)) (k * 4 + 1) (.int .u8 x.2.1.toNat)) (k * 4 + 2) (.int .u8 x.2.2.1.toNat)) (k * 4 + 3) (.int .u8 x.2.2.2.toNat)
  have a4 := (((hm.setSame (k * 4) (.int .u8 x.1.toNat)).setSame (k * 4 + 1) (.int .u8 x.2.1.toNat)).setSame (k * 4 + 2) (.int .u8 x.2.2.1.toNat)).setSame (k * 4 + 3) (.int .u8 x.2.2.2.toNat)
  rw [modCells_put _ _ _ _ _ h1 hk] at a4
  exact ⟨a4.drew, g_drew g4, by simp⟩

set_option maxHeartbeats 3200000 in
/-- The model's Put that answers OK. -/
theorem mput_ok (m : Nat) (now : List Blk) (a b : Nat) (x y : Blk) (w : World) (hM : ModNil w m now) (ha5 : a < 5) (hb5 : b < 5) (hab : a ≠ b) :
    Calls Try.prog 33 #[.pointer (some ⟨m, 0, none⟩), .int .i64 a, bv x, .int .i64 b, bv y] w fun e w' => e = .returned (.int .i64 0) ∧
      ModAt w' m ((now.set a x).set b y) ∧ w.grownBy w' (some m) := by
  obtain ⟨bas, hm, h1, h2⟩ := hM
  have hmlt := hm.lt
  have q1 : (a : Int) < 5 := by omega
  have q2 : (b : Int) < 5 := by omega
  have q0 : (0 : Int) ≤ (a : Int) := by omega
  have q4 : (0 : Int) ≤ (b : Int) := by omega
  have q3 : ((a : Int) == (b : Int)) = false := by rw [beq_eq_false_iff_ne]; omega
  clear hab
  go_enter Try.func33, Try.ntmps33
  go_wp2
  have hM0 : At ((w.alloc (.cells (bc x) 44)).alloc (.cells (bc y) 44)) m 55 (modCells now bas (.slice none 0 0)) := At.alloc (At.alloc hm _) _
  have hX0 : At ((w.alloc (.cells (bc x) 44)).alloc (.cells (bc y) 44)) w.heap.size 44 (bc x) := (At.new w (bc x) 44).alloc _
  have hY0 : At ((w.alloc (.cells (bc x) 44)).alloc (.cells (bc y) 44)) (w.heap.size + 1) 44 (bc y) := at_new2 _ _ _ _
  have hg0 : w.grownBy ((w.alloc (.cells (bc x) 44)).alloc (.cells (bc y) 44)) (some m) := g_alloc (g_alloc (g_refl _ _) _) _
  generalize ((w.alloc (.cells (bc x) 44)).alloc (.cells (bc y) 44)) = w0 at *
  have hXm : w.heap.size ≠ m := by omega
  have hYm : w.heap.size + 1 ≠ m := by omega
  clear hm
  -- now[a] = x
  obtain ⟨x0, x1, x2, x3⟩ := hX0.four
  obtain ⟨c0, c1, c2, c3⟩ := mod_cells4 hM0 h1 a ha5
  have f0 := hM0.free (a * 4)
  have f1 := hM0.free (a * 4 + 1)
  have f2 := hM0.free (a * 4 + 2)
  have f3 := hM0.free (a * 4 + 3)
  have hmid := mput_mid a x hM0 h1 ha5
  go_region
  generalize hW : ((((w0.setCell ⟨m, a * 4, none⟩ (.int .u8 x.1.toNat)).setCell ⟨m, a * 4 + 1, none⟩ (.int .u8 x.2.1.toNat)).setCell ⟨m, a * 4 + 2, none⟩ (.int .u8 x.2.2.1.toNat)).setCell ⟨m, a * 4 + 3, none⟩ (.int .u8 x.2.2.2.toNat)).drew = w1
  obtain ⟨hM1, hg1, hs1⟩ := hmid w1 hW.symm
  clear hmid hW c0 c1 c2 c3 f0 f1 f2 f3 x0 x1 x2 x3 hs1
  have hX1 := hX0.kept hg1 (by simpa using hXm)
  have hY1 := hY0.kept hg1 (by simpa using hYm)
  have hG1 := g_trans hg0 hg1
  clear hg0 hg1 hX0 hY0 hM0
  -- now[b] = y
  have h1' : (now.set a x).length = 5 := by simp [h1]
  obtain ⟨x0, x1, x2, x3⟩ := hY1.four
  obtain ⟨c0, c1, c2, c3⟩ := mod_cells4 hM1 h1' b hb5
  have f0 := hM1.free (b * 4)
  have f1 := hM1.free (b * 4 + 1)
  have f2 := hM1.free (b * 4 + 2)
  have f3 := hM1.free (b * 4 + 3)
  have hmid := mput_mid b y hM1 h1' hb5
  go_wp2
  go_region
  generalize hW : ((((w1.setCell ⟨m, b * 4, none⟩ (.int .u8 y.1.toNat)).setCell ⟨m, b * 4 + 1, none⟩ (.int .u8 y.2.1.toNat)).setCell ⟨m, b * 4 + 2, none⟩ (.int .u8 y.2.2.1.toNat)).setCell ⟨m, b * 4 + 3, none⟩ (.int .u8 y.2.2.2.toNat)).drew = w2
  obtain ⟨hM2, hg2, hs2⟩ := hmid w2 hW.symm
  clear hmid hW c0 c1 c2 c3 f0 f1 f2 f3 x0 x1 x2 x3 hs2
  have hX2 := hX1.kept hg2 (by simpa using hXm)
  have hY2 := hY1.kept hg2 (by simpa using hYm)
  have hG2 := g_trans hG1 hg2
  clear hG1 hg2 hX1 hY1 hM1
  have h2' : ((now.set a x).set b y).length = 5 := by simp [h1]
  -- the record
  obtain ⟨x0, x1, x2, x3⟩ := hX2.four
  obtain ⟨y0, y1, y2, y3⟩ := hY2.four
  have k1 : w2.cell? ⟨m, 40, none⟩ = some (.slice none 0 0) := (hM2.cell 40).trans (modCells_rec _ _ _ h2' h2)
  have k2 := hM2.lt
  have k3 := hX2.lt
  have k4 := hY2.lt
  obtain ⟨i70, hj, hy0, hy1, hy2⟩ := info_parts info70
  go_wp2
  go_region_law ((refine step_append_lies _ (by rfl) (.tmp 42) (.tmp 48) 53 (by rfl) w2.heap.size 70 i70 (.agg #[.int .i64 0, .int .i64 0, .int .u8 0, .int .u8 0, .int .u8 0, .int .u8 0, .int .u8 0, .int .u8 0, .int .u8 0, .int .u8 0]) 10 24 Try.underlying53 hj hy0 hy1 hy2 rfl (by decide) (.slice none 0 0) 0 [] (by simp [Act.eval]) (World.ownsRow_nil _ _ _ _) ⟨w2.heap.size, 0, none⟩ 1 1 [.int .i64 a, .int .i64 b, .int .u8 x.1.toNat, .int .u8 x.2.1.toNat, .int .u8 x.2.2.1.toNat, .int .u8 x.2.2.2.toNat, .int .u8 y.1.toNat, .int .u8 y.2.1.toNat, .int .u8 y.2.2.1.toNat, .int .u8 y.2.2.2.toNat] (by simp [Act.eval]) rfl (World.news_of_block (heap_alloc_new w2 _)) (by simp [Value.oneCell']) (by decide) (by unfold maxLen; omega) (by omega) (by simp) _ rfl ?_; intro gv capv w4 hown4 hgrow4 hat4 hlt4; have hM4 := ((hM2.alloc _).drew).kept hgrow4 (by simp [Value.ownBlock]); have k5 := (hM4.cell 40).trans (modCells_rec _ _ _ h2' h2); have k6 := hM4.free 40))
  all_goals (have hF := hM4.setSame 40 (.slice (some ⟨gv, 0, none⟩) (0 + 1) capv); rw [modCells_setRec _ _ _ _ h2' h2] at hF; have hGF : w.grownBy (w4.setCell ⟨m, 40, none⟩ (.slice (some ⟨gv, 0, none⟩) (0 + 1) capv)) (some m) := g_own (g_trans (g_drew (g_alloc hG2 _)) (g_some hgrow4 _)) _ _; clear hM4 hgrow4 hown4 hat4 hlt4 k5 k6 k1 hM2 hG2 x0 x1 x2 x3 y0 y1 y2 y3)
  all_goals go_wp2
  all_goals go_ret
  all_goals exact ⟨rfl, ⟨bas, _, hF, h2', h2⟩, hGF⟩
end Go.Proofs.Qxb6500338a
