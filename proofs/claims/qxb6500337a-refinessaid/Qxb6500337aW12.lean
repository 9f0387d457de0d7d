/-
  Walks: Put of the real layer.
-/
import Derived.Test.Qxb6500337aW11
namespace Go.Proofs.Qxb6500337a
open Go.RowKit

/-- The errno of a Put. -/
def putE (a b : Int) : Int := if a < 0 ∨ 5 ≤ a then 1 else if b < 0 ∨ 5 ≤ b then 1 else if a = b then 2 else 0

theorem put_bad1 (p : Nat) (a b : Int) (x y : Blk) (w : World) (h : a < 0 ∨ 5 ≤ a) :
    Calls Try.prog 39 #[.pointer (some ⟨p, 0, none⟩), .int .i64 a, bv x, .int .i64 b, bv y] w fun e w' => e = .returned (.int .i64 1) ∧ w.grownBy w' none := by
  rcases h with h | h
  · go_enter Try.func39, Try.ntmps39
    go_wp2
    go_ret
    exact ⟨rfl, g_alloc (g_alloc (g_refl _ _) _) _⟩
  · have h' : ¬ a < 0 := by omega
    go_enter Try.func39, Try.ntmps39
    go_wp2
    go_ret
    exact ⟨rfl, g_alloc (g_alloc (g_refl _ _) _) _⟩
theorem put_bad2 (p : Nat) (a b : Int) (x y : Blk) (w : World) (ha0 : 0 ≤ a) (ha5 : a < 5) (h : b < 0 ∨ 5 ≤ b) :
    Calls Try.prog 39 #[.pointer (some ⟨p, 0, none⟩), .int .i64 a, bv x, .int .i64 b, bv y] w fun e w' => e = .returned (.int .i64 1) ∧ w.grownBy w' none := by
  rcases h with h | h
  · go_enter Try.func39, Try.ntmps39
    go_wp2
    go_ret
    exact ⟨rfl, g_alloc (g_alloc (g_refl _ _) _) _⟩
  · have h' : ¬ b < 0 := by omega
    go_enter Try.func39, Try.ntmps39
    go_wp2
    go_ret
    exact ⟨rfl, g_alloc (g_alloc (g_refl _ _) _) _⟩
theorem put_bad3 (p : Nat) (a : Int) (x y : Blk) (w : World) (ha0 : 0 ≤ a) (ha5 : a < 5) :
    Calls Try.prog 39 #[.pointer (some ⟨p, 0, none⟩), .int .i64 a, bv x, .int .i64 a, bv y] w fun e w' => e = .returned (.int .i64 2) ∧ w.grownBy w' none := by
  go_enter Try.func39, Try.ntmps39
  go_wp2
  go_ret
  exact ⟨rfl, g_alloc (g_alloc (g_refl _ _) _) _⟩

set_option maxHeartbeats 3200000 in
/-- A Put that answers OK. -/
theorem put_ok (p d : Nat) (now bas : List Blk) (a b : Nat) (x y : Blk) (w : World) (hP : PairAt w p d) (hD : DiskNil w d now bas) (ha5 : a < 5) (hb5 : b < 5) (hab : a ≠ b) :
    Calls Try.prog 39 #[.pointer (some ⟨p, 0, none⟩), .int .i64 a, bv x, .int .i64 b, bv y] w fun e w' => e = .returned (.int .i64 0) ∧
      DiskAt w.heap.size w' d (app now (putW a x b y)) bas (putW a x b y) ∧ w.grownBy w' (some d) := by
  have hpd : p ≠ d := At.ne hP hD.1 (by decide)
  have hp := At.lt hP
  have hd := hD.1.lt
  have q1 : (a : Int) < 5 := by omega
  have q2 : (b : Int) < 5 := by omega
  have q0 : (0 : Int) ≤ (a : Int) := by omega
  have q4 : (0 : Int) ≤ (b : Int) := by omega
  have q3 : ((a : Int) == (b : Int)) = false := by rw [beq_eq_false_iff_ne]; omega
  have hhdr := fun w' => header_calls (a : Int) (b : Int) w' q0 q1 q4 q2
  simp only [Int.toNat_natCast] at hhdr
  have HH : Hid (∀ w', Calls Try.prog 43 #[.int .i64 (a : Int), .int .i64 (b : Int)] w' fun e w'' => e = .returned (bv (hdr a b)) ∧ w'.grownBy w'' none) := hhdr
  clear hhdr hab
  go_enter Try.func39, Try.ntmps39
  go_wp2
  have hP0 : PairAt ((w.alloc (.cells (bc x) 56)).alloc (.cells (bc y) 56)) p d := At.alloc (At.alloc hP _) _
  have hX0 : At ((w.alloc (.cells (bc x) 56)).alloc (.cells (bc y) 56)) w.heap.size 56 (bc x) := (At.new w (bc x) 56).alloc _
  have hY0 : At ((w.alloc (.cells (bc x) 56)).alloc (.cells (bc y) 56)) (w.heap.size + 1) 56 (bc y) := at_new2 _ _ _ _
  have hg0 : w.grownBy ((w.alloc (.cells (bc x) 56)).alloc (.cells (bc y) 56)) none := g_alloc (g_alloc (g_refl _ _) _) _
  have hN0 : DiskNil ((w.alloc (.cells (bc x) 56)).alloc (.cells (bc y) 56)) d now bas := hD.ext hg0 (by simp)
  have hs0 : w.heap.size + 2 ≤ ((w.alloc (.cells (bc x) 56)).alloc (.cells (bc y) 56)).heap.size := by simp
  generalize ((w.alloc (.cells (bc x) 56)).alloc (.cells (bc y) 56)) = w0 at *
  obtain ⟨B, hB⟩ : ∃ B, B = w.heap.size + 2 := ⟨_, rfl⟩
  have hBs : B ≤ w0.heap.size := by omega
  have hBw : w.heap.size ≤ B := by omega
  have hBp : p < B := by omega
  have hBd : d < B := by omega
  have hBx : w.heap.size < B := by omega
  have hBy : w.heap.size + 1 < B := by omega
  have hXd : w.heap.size ≠ d := by omega
  have hYd : w.heap.size + 1 ≠ d := by omega
  clear hB hs0
  have hD0 : DiskAt B w0 d now bas [] := hN0.at B
  have hL0 : Low B d w0 w0 := Low.refl _ _ _
  clear hN0 hP hD
  -- write 1
  have hp0 := hP0.cell
  obtain ⟨x0, x1, x2, x3⟩ := hX0.four
  have hw1 := write_calls B d now bas [] 1 x w0.drew (DiskAt.ext hD0 (g_drew (g_refl _ _))) (by omega) (by omega) hBs hBd (by simp)
  go_region_held3 (fun w' => w'.cell? ⟨p, 0, none⟩ = some (.pointer (some ⟨d, 0, none⟩)) ∧ w'.cell? ⟨w.heap.size, 0, none⟩ = some (.int .u8 x.1.toNat) ∧ w'.cell? ⟨w.heap.size, 1, none⟩ = some (.int .u8 x.2.1.toNat) ∧ w'.cell? ⟨w.heap.size, 2, none⟩ = some (.int .u8 x.2.2.1.toNat) ∧ w'.cell? ⟨w.heap.size, 3, none⟩ = some (.int .u8 x.2.2.2.toNat)) (go_keep)
    (first
      | (go_at_call 28; refine hw1.mono ?_; rintro e w1 ⟨rfl, hD1, hl1⟩; obtain ⟨y0, y1, y2, y3⟩ := (hl1.at (At.drew hX0) hBx hXd).four; have hp1 := PairAt.cell (hl1.at (At.drew hP0) hBp hpd)))
  have hL1 : Low B d w0 w1 := (hL0.drew).trans hl1
  have hP1 : PairAt w1 p d := hl1.at (At.drew hP0) hBp hpd
  have hX1 := hl1.at (At.drew hX0) hBx hXd
  have hY1 := hl1.at (At.drew hY0) hBy hYd
  clear hw1 hl1 x0 x1 x2 x3 y0 y1 y2 y3 hp1
  rw [show (1 : Int).toNat = 1 from rfl] at hD1
  have hBs1 : B ≤ w1.heap.size := Nat.le_trans hBs hL1.size
  clear hP0 hX0 hY0 hD0 hp0
  -- write 2
  go_wp2
  have hp1 := hP1.cell
  obtain ⟨x0, x1, x2, x3⟩ := hY1.four
  have hw2 := write_calls B d (now.set 1 x) bas ([] ++ [(1, x)]) 2 y w1.drew (DiskAt.ext hD1 (g_drew (g_refl _ _))) (by omega) (by omega) hBs1 hBd (by simp)
  go_region_held3 (fun w' => w'.cell? ⟨p, 0, none⟩ = some (.pointer (some ⟨d, 0, none⟩)) ∧ w'.cell? ⟨(w.heap.size + 1), 0, none⟩ = some (.int .u8 y.1.toNat) ∧ w'.cell? ⟨(w.heap.size + 1), 1, none⟩ = some (.int .u8 y.2.1.toNat) ∧ w'.cell? ⟨(w.heap.size + 1), 2, none⟩ = some (.int .u8 y.2.2.1.toNat) ∧ w'.cell? ⟨(w.heap.size + 1), 3, none⟩ = some (.int .u8 y.2.2.2.toNat)) (go_keep)
    (first
      | (go_at_call 28; refine hw2.mono ?_; rintro e w2 ⟨rfl, hD2, hl2⟩; obtain ⟨y0, y1, y2, y3⟩ := (hl2.at (At.drew hY1) hBy hYd).four; have hp1 := PairAt.cell (hl2.at (At.drew hP1) hBp hpd)))
  have hL2 : Low B d w0 w2 := (hL1.drew).trans hl2
  have hP2 : PairAt w2 p d := hl2.at (At.drew hP1) hBp hpd
  have hX2 := hl2.at (At.drew hX1) hBx hXd
  have hY2 := hl2.at (At.drew hY1) hBy hYd
  clear hw2 hl2 x0 x1 x2 x3 y0 y1 y2 y3 hp1
  rw [show (2 : Int).toNat = 2 from rfl] at hD2
  have hBs2 : B ≤ w2.heap.size := Nat.le_trans hBs hL2.size
  clear hP1 hX1 hY1 hD1 hp1 hL1
  -- write 3
  go_wp2
  have hp2 := hP2.cell
  go_region_held3 (fun w' => w'.cell? ⟨p, 0, none⟩ = some (.pointer (some ⟨d, 0, none⟩))) (go_keep)
    (first
      | (go_at_call 43; refine (HH.out _).mono ?_; rintro e wh ⟨rfl, hgh⟩; have hph := PairAt.cell (At.ext (At.drew hP2) hgh); have hDh := (DiskAt.ext hD2 (g_drew (g_refl _ _))).ext hgh; have hsh : B ≤ wh.heap.size := Nat.le_trans hBs2 hgh.size)
      | (go_at_call 28; refine (write_calls B d ((now.set 1 x).set 2 y) bas (([] ++ [(1, x)]) ++ [(2, y)]) 0 (hdr a b) _ hDh (by omega) (by omega) hsh hBd (by simp)).mono ?_; rintro e w3 ⟨rfl, hD3, hl3⟩; have hph1 := PairAt.cell (hl3.at (At.ext (At.drew hP2) hgh) hBp hpd)))
  have hL3 : Low B d w0 w3 := ((hL2.drew).grown hgh hBs2 (by simp)).trans hl3
  have hP3 : PairAt w3 p d := hl3.at (At.ext (At.drew hP2) hgh) hBp hpd
  have hX3 := hl3.at (At.ext (At.drew hX2) hgh) hBx hXd
  have hY3 := hl3.at (At.ext (At.drew hY2) hgh) hBy hYd
  clear hl3 hph hph1 hDh hsh hgh
  rw [show (0 : Int).toNat = 0 from rfl] at hD3
  have hBs3 : B ≤ w3.heap.size := Nat.le_trans hBs hL3.size
  clear hP2 hX2 hY2 hD2 hp2 hL2
  -- write 4
  go_wp2
  have hp3 := hP3.cell
  obtain ⟨x0, x1, x2, x3⟩ := hX3.four
  have hw4 := write_calls B d (((now.set 1 x).set 2 y).set 0 (hdr a b)) bas ((([] ++ [(1, x)]) ++ [(2, y)]) ++ [(0, (hdr a b))]) (3 + (a : Int)) x w3.drew (DiskAt.ext hD3 (g_drew (g_refl _ _))) (by omega) (by omega) hBs3 hBd (by simp)
  go_region_held3 (fun w' => w'.cell? ⟨p, 0, none⟩ = some (.pointer (some ⟨d, 0, none⟩)) ∧ w'.cell? ⟨w.heap.size, 0, none⟩ = some (.int .u8 x.1.toNat) ∧ w'.cell? ⟨w.heap.size, 1, none⟩ = some (.int .u8 x.2.1.toNat) ∧ w'.cell? ⟨w.heap.size, 2, none⟩ = some (.int .u8 x.2.2.1.toNat) ∧ w'.cell? ⟨w.heap.size, 3, none⟩ = some (.int .u8 x.2.2.2.toNat)) (go_keep)
    (first
      | (go_at_call 29; refine (home_calls (a : Int) _ q0 q1).mono ?_; rintro e w' ⟨rfl, rfl⟩)
      | (go_at_call 28; refine hw4.mono ?_; rintro e w4 ⟨rfl, hD4, hl4⟩; obtain ⟨y0, y1, y2, y3⟩ := (hl4.at (At.drew hX3) hBx hXd).four; have hp1 := PairAt.cell (hl4.at (At.drew hP3) hBp hpd)))
  have hL4 : Low B d w0 w4 := (hL3.drew).trans hl4
  have hP4 : PairAt w4 p d := hl4.at (At.drew hP3) hBp hpd
  have hX4 := hl4.at (At.drew hX3) hBx hXd
  have hY4 := hl4.at (At.drew hY3) hBy hYd
  clear hw4 hl4 x0 x1 x2 x3 y0 y1 y2 y3 hp1
  rw [show (3 + (a : Int)).toNat = 3 + a by omega] at hD4
  have hBs4 : B ≤ w4.heap.size := Nat.le_trans hBs hL4.size
  clear hP3 hX3 hY3 hD3 hp3 hL3
  -- write 5
  go_wp2
  have hp4 := hP4.cell
  obtain ⟨x0, x1, x2, x3⟩ := hY4.four
  have hw5 := write_calls B d ((((now.set 1 x).set 2 y).set 0 (hdr a b)).set (3 + a) x) bas (((([] ++ [(1, x)]) ++ [(2, y)]) ++ [(0, (hdr a b))]) ++ [((3 + a), x)]) (3 + (b : Int)) y w4.drew (DiskAt.ext hD4 (g_drew (g_refl _ _))) (by omega) (by omega) hBs4 hBd (by simp)
  go_region_held3 (fun w' => w'.cell? ⟨p, 0, none⟩ = some (.pointer (some ⟨d, 0, none⟩)) ∧ w'.cell? ⟨(w.heap.size + 1), 0, none⟩ = some (.int .u8 y.1.toNat) ∧ w'.cell? ⟨(w.heap.size + 1), 1, none⟩ = some (.int .u8 y.2.1.toNat) ∧ w'.cell? ⟨(w.heap.size + 1), 2, none⟩ = some (.int .u8 y.2.2.1.toNat) ∧ w'.cell? ⟨(w.heap.size + 1), 3, none⟩ = some (.int .u8 y.2.2.2.toNat)) (go_keep)
    (first
      | (go_at_call 29; refine (home_calls (b : Int) _ q4 q2).mono ?_; rintro e w' ⟨rfl, rfl⟩)
      | (go_at_call 28; refine hw5.mono ?_; rintro e w5 ⟨rfl, hD5, hl5⟩; obtain ⟨y0, y1, y2, y3⟩ := (hl5.at (At.drew hY4) hBy hYd).four; have hp1 := PairAt.cell (hl5.at (At.drew hP4) hBp hpd)))
  have hL5 : Low B d w0 w5 := (hL4.drew).trans hl5
  have hP5 : PairAt w5 p d := hl5.at (At.drew hP4) hBp hpd
  have hX5 := hl5.at (At.drew hX4) hBx hXd
  have hY5 := hl5.at (At.drew hY4) hBy hYd
  clear hw5 hl5 x0 x1 x2 x3 y0 y1 y2 y3 hp1
  rw [show (3 + (b : Int)).toNat = 3 + b by omega] at hD5
  have hBs5 : B ≤ w5.heap.size := Nat.le_trans hBs hL5.size
  clear hP4 hX4 hY4 hD4 hp4 hL4
  -- the wiping
  have hw6 := write_zero B d (((((now.set 1 x).set 2 y).set 0 (hdr a b)).set (3 + a) x).set (3 + b) y) bas ((((([] ++ [(1, x)]) ++ [(2, y)]) ++ [(0, (hdr a b))]) ++ [((3 + a), x)]) ++ [((3 + b), y)]) 0 w5 hD5 (by omega) (by omega) hBs5 hBd (by simp)
  have HW6 := hw6
  have hp5 := hP5.cell
  clear hw6 hX5 hY5
  go_wp2_with fail
  refine HW6.mono ?_
  rintro e w6 ⟨rfl, hD6, hL6⟩
  go_wp2
  go_ret
  exact ⟨rfl, DiskAt.mono hD6 hBw, low_after hg0 (hL5.trans hL6) hBw⟩
end Go.Proofs.Qxb6500337a
