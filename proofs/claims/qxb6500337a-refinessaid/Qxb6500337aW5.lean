/-
  Walks: Write.
-/
import Derived.Test.Qxb6500337aW4
import Derived.Deep.AppendLies
import Derived.Deep.RegionLaw
import Derived.Deep.DeepMust
namespace Go.Proofs.Qxb6500337a
open Go.RowKit

theorem info3 : (Try.prog.info? 3).map (fun i => (i.zero, i.size, i.bytes)) = some (some (.int .i64 0), 1, 8) := by kernel_rfl
theorem info44 : (Try.prog.info? 56).map (fun i => (i.zero, i.size, i.bytes)) = some (some (bv zB), 4, 4) := by kernel_rfl

theorem own_ne {w : World} {base e size n : Nat} {v : Value} {xs : List Value} (h : w.ownsRow base e size v n xs) {d : Nat} (hd : d < base) : some d ≠ v.ownBlock := by
  intro k
  have := (h.lt d k.symm).1
  omega
theorem own_apart {w : World} {base e size n base' e' size' n' : Nat} {v v' : Value} {xs xs' : List Value} (h : w.ownsRow base e size v n xs) (h' : w.ownsRow base' e' size' v' n' xs') (hne : e ≠ e') :
    v.ownBlock = none ∨ v.ownBlock ≠ v'.ownBlock := by
  rcases h.2 with ⟨rfl, _⟩ | ⟨g, cap, cur, rfl, _, hg, _⟩
  · left; rfl
  · rcases h'.2 with ⟨rfl, _⟩ | ⟨g', cap', cur', rfl, _, hg', _⟩
    · right; simp [Value.ownBlock]
    · right
      simp only [Value.ownBlock, ne_eq, Option.some.injEq]
      intro e1
      subst e1
      rw [hg] at hg'
      simp only [Option.some.injEq, Obj.cells.injEq] at hg'
      exact hne hg'.2.1

/-- What the store into d.now leaves. -/
theorem write_mid {base d : Nat} {now bas : List Blk} {va vv : Value} {w : World} {na nv : Nat} {xs ys : List Value} (k : Nat) (x : Blk) (hd : At w d 61 (diskCells now bas va vv)) (h1 : now.length = 8) (hk : k < 8)
    (hb : base ≤ w.heap.size) (hdb : d < base) (h4 : w.ownsRow base 3 1 va na xs) (h5 : w.ownsRow base 56 4 vv nv ys)
    (W : World) (hW : W = (((((w.setCell ⟨d, k * 4, none⟩ (.int .u8 x.1.toNat)).setCell ⟨d, k * 4 + 1, none⟩ (.int .u8 x.2.1.toNat)).setCell ⟨d, k * 4 + 2, none⟩ (.int .u8 x.2.2.1.toNat)).setCell ⟨d, k * 4 + 3, none⟩ (.int .u8 x.2.2.2.toNat)).alloc (.cells (bc x) 56)).drew) :
    At W d 61 (diskCells (now.set k x) bas va vv) ∧ At W w.heap.size 56 (bc x) ∧ W.ownsRow base 3 1 va na xs ∧ W.ownsRow base 56 4 vv nv ys ∧ Low base d w W ∧ W.heap.size = w.heap.size + 1 := by
  subst hW
  have g4 := g_own (g_own (g_own (g_own (g_refl w (some d)) (k * 4) (.int .u8 x.1.toNat)) (k * 4 + 1) (.int .u8 x.2.1.toNat)) (k * 4 + 2) (.int .u8 x.2.2.1.toNat)) (k * 4 + 3) (.int .u8 x.2.2.2.toNat)
  have a4 := (((hd.setSame (k * 4) (.int .u8 x.1.toNat)).setSame (k * 4 + 1) (.int .u8 x.2.1.toNat)).setSame (k * 4 + 2) (.int .u8 x.2.2.1.toNat)).setSame (k * 4 + 3) (.int .u8 x.2.2.2.toNat)
  rw [diskCells_put _ _ _ _ _ _ h1 hk] at a4
  have s4 : ((((w.setCell ⟨d, k * 4, none⟩ (.int .u8 x.1.toNat)).setCell ⟨d, k * 4 + 1, none⟩ (.int .u8 x.2.1.toNat)).setCell ⟨d, k * 4 + 2, none⟩ (.int .u8 x.2.2.1.toNat)).setCell ⟨d, k * 4 + 3, none⟩ (.int .u8 x.2.2.2.toNat)).heap.size = w.heap.size := by simp
  generalize ((((w.setCell ⟨d, k * 4, none⟩ (.int .u8 x.1.toNat)).setCell ⟨d, k * 4 + 1, none⟩ (.int .u8 x.2.1.toNat)).setCell ⟨d, k * 4 + 2, none⟩ (.int .u8 x.2.2.1.toNat)).setCell ⟨d, k * 4 + 3, none⟩ (.int .u8 x.2.2.2.toNat)) = w4 at *
  have o4 := h4.kept g4 (Or.inr (own_ne h4 hdb).symm)
  have o5 := h5.kept g4 (Or.inr (own_ne h5 hdb).symm)
  refine ⟨(a4.alloc _).drew, ?_, o4.alloc _, o5.alloc _, ?_, by simp [s4]⟩
  · have := At.new w4 (bc x) 56
    rw [s4] at this
    exact this.drew
  · refine Low.drew (Low.alloc ?_ (by omega) _)
    exact (Low.refl base d w).grown g4 hb (fun k hk => by simp at hk; exact Or.inr hk.symm)

theorem own_far {w : World} {base e size n : Nat} {v : Value} {xs : List Value} (h : w.ownsRow base e size v n xs) {b : Nat} {t : TypeId} {C : Array Value} (hb : At w b t C) (hne : t ≠ e) : some b ≠ v.ownBlock := by
  rcases h.2 with ⟨rfl, _⟩ | ⟨g, cap, cur, rfl, _, hg, _⟩
  · simp [Value.ownBlock]
  · simp only [Value.ownBlock, ne_eq, Option.some.injEq]
    intro e1
    subst e1
    exact hne (hb.inj (show At w _ _ _ from hg)).1

/-- What the first append and its store leave. -/
theorem write_mid2 {base d b : Nat} {now bas : List Blk} {va vv va' : Value} {w w1 w2 : World} {na nv na' : Nat} {xs ys xs' : List Value} {C : Array Value} {o : Obj}
    (hd1 : At w1 d 61 (diskCells now bas va vv)) (hx1 : At w1 b 56 C) (h41 : w1.ownsRow base 3 1 va na xs) (h51 : w1.ownsRow base 56 4 vv nv ys) (hL : Low base d w w1) (hb1 : base ≤ w1.heap.size) (hdb : d < base)
    (h1 : now.length = 8) (h2 : bas.length = 8) (hown2 : w2.ownsRow base 3 1 va' na' xs') (hgrow2 : (w1.alloc o).grownBy w2 va.ownBlock) (W : World) (hW : W = w2.setCell ⟨d, 64, none⟩ va') :
    At W d 61 (diskCells now bas va' vv) ∧ At W b 56 C ∧ W.ownsRow base 3 1 va' na' xs' ∧ W.ownsRow base 56 4 vv nv ys ∧ Low base d w W ∧ base ≤ W.heap.size := by
  subst hW
  have hbd : b ≠ d := At.ne hx1 hd1 (by decide)
  have a2 : At w2 d 61 (diskCells now bas va vv) := (hd1.alloc o).kept hgrow2 (own_ne h41 hdb)
  have b2 : At w2 b 56 C := (hx1.alloc o).kept hgrow2 (own_far h41 hx1 (by decide))
  have v2 : w2.ownsRow base 56 4 vv nv ys := (h51.alloc o).kept hgrow2 (own_apart h51 h41 (by decide))
  have a3 := a2.setSame 64 va'
  rw [diskCells_setAt _ _ _ _ _ h1 h2] at a3
  have hs : base ≤ w2.heap.size := by have := hgrow2.size; simp at this; omega
  have L2 : Low base d w w2 := (hL.alloc hb1 o).grown hgrow2 (by simp; omega) (fun k hk => Or.inl (h41.lt k hk).1)
  exact ⟨a3, b2.setOther _ hbd, ownsRow_setCell_other hown2 (own_ne hown2 hdb).symm _, ownsRow_setCell_other v2 (own_ne v2 hdb).symm _, L2.own _ _, by simpa using hs⟩

/-- What the second append and its store leave. -/
theorem write_fin {base d : Nat} {now bas : List Blk} {va vv vv' : Value} {w w1 w2 : World} {na nv nv' : Nat} {xs ys ys' : List Value} {o : Obj}
    (hd1 : At w1 d 61 (diskCells now bas va vv)) (h41 : w1.ownsRow base 3 1 va na xs) (h51 : w1.ownsRow base 56 4 vv nv ys) (hL : Low base d w w1) (hb1 : base ≤ w1.heap.size) (hdb : d < base)
    (h1 : now.length = 8) (h2 : bas.length = 8) (hown2 : w2.ownsRow base 56 4 vv' nv' ys') (hgrow2 : (w1.alloc o).drew.grownBy w2 vv.ownBlock) (W : World) (hW : W = w2.setCell ⟨d, 65, none⟩ vv') :
    At W d 61 (diskCells now bas va vv') ∧ W.ownsRow base 3 1 va na xs ∧ W.ownsRow base 56 4 vv' nv' ys' ∧ Low base d w W := by
  subst hW
  have a2 : At w2 d 61 (diskCells now bas va vv) := ((hd1.alloc o).drew).kept hgrow2 (own_ne h51 hdb)
  have v2 : w2.ownsRow base 3 1 va na xs := World.ownsRow.kept (w := (w1.alloc o).drew) (h41.alloc o) hgrow2 (own_apart h41 h51 (by decide))
  have a3 := a2.setSame 65 vv'
  rw [diskCells_setVal _ _ _ _ _ h1 h2] at a3
  have L2 : Low base d w w2 := ((hL.alloc hb1 o).drew).grown hgrow2 (by simp; omega) (fun k hk => Or.inl (h51.lt k hk).1)
  exact ⟨a3, ownsRow_setCell_other v2 (own_ne v2 hdb).symm _, ownsRow_setCell_other hown2 (own_ne hown2 hdb).symm _, L2.own _ _⟩

theorem disk_snoc {base d : Nat} {now bas : List Blk} {va vv : Value} {W : World} {log : List (Nat × Blk)} {i : Int} {x : Blk} (hA : At W d 61 (diskCells now bas va vv)) (h1 : now.length = 8) (h2 : bas.length = 8)
    (h3 : ∀ p ∈ log, p.1 < 8) (h0 : 0 ≤ i) (h8 : i < 8) (ha : W.ownsRow base 3 1 va (log.length + 1) (log.map (fun p => .int .i64 p.1) ++ [.int .i64 i])) (hv : W.ownsRow base 56 4 vv (log.length + 1) (encs (log.map (·.2)) ++ encB x)) :
    DiskAt base W d now bas (log ++ [(i.toNat, x)]) := by
  refine ⟨va, vv, hA, h1, h2, ?_, ?_, ?_⟩
  · intro p hp
    simp only [List.mem_append, List.mem_singleton] at hp
    rcases hp with hp | rfl
    · exact h3 p hp
    · show i.toNat < 8; omega
  · have e : ((i.toNat : Nat) : Int) = i := by omega
    simpa [e] using ha
  · have e : encs ((log ++ [(i.toNat, x)]).map (·.2)) = encs (log.map (·.2)) ++ encB x := by
      rw [List.map_append, encs_append]; simp [encs]
    rw [e]
    simpa using hv

set_option maxHeartbeats 1600000 in
/-- (*Disk).Write in range. -/
theorem write_calls (base d : Nat) (now bas : List Blk) (log : List (Nat × Blk)) (i : Int) (x : Blk) (w : World) (hD : DiskAt base w d now bas log) (h0 : 0 ≤ i) (h8 : i < 8)
    (hb : base ≤ w.heap.size) (hdb : d < base) (hl : log.length < 100) :
    Calls Try.prog 28 #[.pointer (some ⟨d, 0, none⟩), .int .i64 i, bv x] w fun e w' => e = .returned (.int .i64 0) ∧ DiskAt base w' d (now.set i.toNat x) bas (log ++ [(i.toNat, x)]) ∧ Low base d w w' := by
  obtain ⟨va, vv, hd, h1, h2, h3, h4, h5⟩ := hD
  have hlt := hd.lt
  obtain ⟨c0, c1, c2, c3⟩ := disk_cells4 hd h1 i.toNat (by omega)
  have f0 := hd.free (i.toNat * 4)
  have f1 := hd.free (i.toNat * 4 + 1)
  have f2 := hd.free (i.toNat * 4 + 2)
  have f3 := hd.free (i.toNat * 4 + 3)
  have hmid := write_mid i.toNat x hd h1 (by omega) hb hdb h4 h5
  obtain ⟨i3, hi, hz0, hz1, hz2⟩ := info_parts info3
  obtain ⟨i44, hj, hy0, hy1, hy2⟩ := info_parts info44
  go_enter Try.func28, Try.ntmps28
  go_wp2
  go_region
  generalize hW : (((((w.setCell ⟨d, i.toNat * 4, none⟩ (.int .u8 x.1.toNat)).setCell ⟨d, i.toNat * 4 + 1, none⟩ (.int .u8 x.2.1.toNat)).setCell ⟨d, i.toNat * 4 + 2, none⟩ (.int .u8 x.2.2.1.toNat)).setCell ⟨d, i.toNat * 4 + 3, none⟩ (.int .u8 x.2.2.2.toNat)).alloc (.cells (bc x) 56)).drew = w1
  obtain ⟨hd1, hx1, h41, h51, hL1, hs1⟩ := hmid w1 hW.symm
  have Hs1 : Hid (w1.heap.size = w.heap.size + 1) := hs1
  have hb1 : base ≤ w1.heap.size := by omega
  have k2 : d < w1.heap.size := by omega
  clear hs1
  clear hmid hW c0 c1 c2 c3 f0 f1 f2 f3 hd h4 h5
  have hn1 : (now.set i.toNat x).length = 8 := by simp [h1]
  have k1 : w1.cell? ⟨d, 64, none⟩ = some va := (hd1.cell 64).trans (diskCells_at _ _ _ _ hn1 h2)
  go_wp2_with (at_builtin; go_must (refine wpList_append_lies _ (by rfl) (.tmp 23) (.tmp 25) 58 (by rfl) base 3 i3 (.int .i64 0) 1 8 Try.underlying58 hi hz0 hz1 hz2 rfl (by decide) va log.length _ (by rfl) (h41.alloc _) ⟨w1.heap.size, 0, none⟩ 1 1 [.int .i64 i] (by rfl) rfl (World.news_of_block (heap_alloc_new w1 _)) (by simp [Value.oneCell']) (by decide) (by unfold maxLen; omega) (by omega) (by simp; omega) _ rfl ?_); intro ga capa w2 hown2 hgrow2 hat2 hlt2; have hd2 := (hd1.alloc _).kept hgrow2 (own_ne h41 hdb); have k3 := (hd2.cell 64).trans (diskCells_at _ _ _ _ hn1 h2); have k4 := hd2.free 64; clear hd2)
  generalize hW : w2.setCell ⟨d, 64, none⟩ (.slice (some ⟨ga, 0, none⟩) (log.length + 1) capa) = w3
  obtain ⟨hd3, hx3, h43, h53, hL3, hb3⟩ := write_mid2 hd1 hx1 h41 h51 hL1 hb1 hdb hn1 h2 hown2 hgrow2 w3 hW.symm
  clear hW hd1 hx1 h41 h51 hL1 hb1 hown2 hgrow2 hat2 hlt2 k1 k2 k3 k4 Hs1
  have k1 : w3.cell? ⟨d, 65, none⟩ = some vv := (hd3.cell 65).trans (diskCells_val _ _ _ _ hn1 h2)
  have b0 : w3.cell? ⟨w.heap.size, 0, none⟩ = some (.int .u8 x.1.toNat) := hx3.cell 0
  have b1 : w3.cell? ⟨w.heap.size, 1, none⟩ = some (.int .u8 x.2.1.toNat) := hx3.cell 1
  have b2 : w3.cell? ⟨w.heap.size, 2, none⟩ = some (.int .u8 x.2.2.1.toNat) := hx3.cell 2
  have b3 : w3.cell? ⟨w.heap.size, 3, none⟩ = some (.int .u8 x.2.2.2.toNat) := hx3.cell 3
  have k2 : d < w3.heap.size := by omega
  have k5 := hx3.lt
  go_region_law ((refine step_append_lies _ (by rfl) (.tmp 33) (.tmp 35) 59 (by rfl) base 56 i44 (bv zB) 4 4 Try.underlying59 hj hy0 hy1 hy2 rfl (by decide) vv log.length _ (by simp [Act.eval]) (h53.alloc _) ⟨w3.heap.size, 0, none⟩ 1 1 (encB x) (by simp [Act.eval]) rfl (World.news_of_block (heap_alloc_new w3 _)) (encB_one x) (by decide) (by unfold maxLen; omega) (by omega) (by simp; omega) _ rfl ?_; intro gv capv w4 hown4 hgrow4 hat4 hlt4; have hd4 := ((hd3.alloc _).drew).kept hgrow4 (own_ne h53 hdb); have k3 := (hd4.cell 65).trans (diskCells_val _ _ _ _ hn1 h2); have k4 := hd4.free 65; clear hd4))
  all_goals go_wp2
  all_goals go_ret
  all_goals (obtain ⟨q1, q2, q3, q4⟩ := write_fin hd3 h43 h53 hL3 hb3 hdb hn1 h2 hown4 hgrow4 _ rfl; exact ⟨rfl, disk_snoc q1 hn1 h2 h3 h0 h8 q2 q3, q4⟩)
end Go.Proofs.Qxb6500337a
