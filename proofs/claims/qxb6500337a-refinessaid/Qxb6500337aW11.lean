/-
  Walks: Open, a committed pair.
-/
import Derived.Test.Qxb6500337aW10
namespace Go.Proofs.Qxb6500337a
open Go.RowKit

set_option maxHeartbeats 1600000 in
/-- Open over a disk with a committed pair. -/
theorem open_good (d : Nat) (t bas : List Blk) (w : World) (hD : DiskNil w d t bas) (hf : full (t.getD 0 zB) = true) (hv : valid (t.getD 0 zB) = true) : Calls Try.prog 19 #[.pointer (some ⟨d, 0, none⟩)] w (Opened w d t bas) := by
  have hr := read_calls 0 d t bas [] 0 w (hD.at 0) (by omega) (by omega)
  rw [Int.toNat_zero] at hr
  have hb := (full_int (t.getD 0 zB)).trans hf
  have hlt := hD.1.lt
  have hF := recW_good hf hv
  rw [valid_nat] at hv
  clear hf
  generalize hx : t.getD 0 zB = x at *
  clear hx
  have hx1 : x.2.1.toNat < 256 := x.2.1.toNat_lt
  have hx2 : x.2.2.1.toNat < 256 := x.2.2.1.toNat_lt
  obtain ⟨a, ha⟩ : ∃ a : Nat, x.2.1.toNat = a := ⟨_, rfl⟩
  obtain ⟨b, hbb⟩ : ∃ b : Nat, x.2.2.1.toNat = b := ⟨_, rfl⟩
  rw [ha] at hx1 hv hF
  rw [hbb] at hx2 hv hF
  have Ha : Hid (x.2.1.toNat = a) := ha
  have Hb : Hid (x.2.2.1.toNat = b) := hbb
  have HF : Hid (recW t = [(3 + a, t.getD 1 zB), (3 + b, t.getD 2 zB), (0, zB)]) := hF
  clear ha hbb hF
  simp only [Bool.and_eq_true, decide_eq_true_eq] at hv
  obtain ⟨⟨ha5, hb5⟩, hab⟩ := hv
  have wa := wrap_byte a hx1
  have wb := wrap_byte b hx2
  have q1 : (a : Int) < 5 := by omega
  have q2 : (b : Int) < 5 := by omega
  have q3 : ((a : Int) != (b : Int)) = true := by rw [bne_iff_ne]; omega
  clear hx1 hx2 hab
  go_enter Try.func19, Try.ntmps19
  go_wp2_with fail
  refine hr.mono ?_
  clear hr
  rintro e w1 ⟨rfl, hg1⟩
  go_wp2
  have hg2 : w.grownBy (w1.alloc (.cells (bc x) 56)) none := g_alloc hg1 _
  have hA2 := At.new w1 (bc x) 56
  generalize (w1.alloc (.cells (bc x) 56)) = w2 at *
  have c1 : w2.cell? ⟨w1.heap.size, 1, none⟩ = some (.int .u8 a) := by rw [← Ha.out]; exact hA2.cell 1
  have c2 : w2.cell? ⟨w1.heap.size, 2, none⟩ = some (.int .u8 b) := by rw [← Hb.out]; exact hA2.cell 2
  clear hA2 Ha Hb
  go_region_held3 (fun w' => w'.cell? ⟨w1.heap.size, 1, none⟩ = some (.int .u8 a) ∧ w'.cell? ⟨w1.heap.size, 2, none⟩ = some (.int .u8 b)) (go_keep) (fail)
  clear wa wb c1 c2
  have hr1 := read_calls 0 d t bas [] 1 w2.drew ((hD.ext (g_drew hg2) (by simp)).at _) (by omega) (by omega)
  rw [show (1 : Int).toNat = 1 from rfl] at hr1
  generalize t.getD 1 zB = xa at *
  have HR1 := hr1
  have HG2 := hg2
  clear hr1 hg1 hg2
  go_wp2_with fail
  refine HR1.mono ?_
  clear HR1
  rintro e w3 ⟨rfl, hg3⟩
  have hD3 : DiskNil (w3.alloc (.cells (bc xa) 56)) d t bas := hD.ext (g_alloc (g_trans (g_drew HG2) hg3) _) (by simp)
  have hr2 := read_calls 0 d t bas [] 2 (w3.alloc (.cells (bc xa) 56)) (hD3.at _) (by omega) (by omega)
  rw [show (2 : Int).toNat = 2 from rfl] at hr2
  generalize t.getD 2 zB = yb at *
  have HR2 := hr2
  clear hr2 hD3
  go_wp2_with fail
  refine HR2.mono ?_
  clear HR2
  rintro e w4 ⟨rfl, hg4⟩
  go_wp2
  have hX5 : At (w4.alloc (.cells (bc yb) 56)) w3.heap.size 56 (bc xa) := ((At.new w3 (bc xa) 56).ext hg4).alloc _
  have hY5 : At (w4.alloc (.cells (bc yb) 56)) w4.heap.size 56 (bc yb) := At.new _ _ _
  have hg5 : w.grownBy (w4.alloc (.cells (bc yb) 56)) none := g_alloc (g_trans (g_alloc (g_trans (g_drew HG2) hg3) _) hg4) _
  have hD5 : DiskNil (w4.alloc (.cells (bc yb) 56)) d t bas := hD.ext hg5 (by simp)
  have hl3 : w.heap.size ≤ w3.heap.size := (g_trans (g_drew HG2) hg3).size
  have hl4 : w.heap.size ≤ w4.heap.size := (g_trans (g_alloc (g_trans (g_drew HG2) hg3) _) hg4).size
  clear HG2 hg3 hg4 hD
  generalize (w4.alloc (.cells (bc yb) 56)) = w5 at *
  obtain ⟨B, hB⟩ : ∃ B, B = w5.heap.size := ⟨_, rfl⟩
  have hB1 : w3.heap.size < B := by rw [hB]; exact hX5.lt
  have hB2 : w4.heap.size < B := by rw [hB]; exact hY5.lt
  have hB3 : w.heap.size ≤ B := by omega
  have hB4 : d < B := by omega
  have hBle : B ≤ w5.heap.size := by omega
  have dX : w3.heap.size ≠ d := by omega
  have dY : w4.heap.size ≠ d := by omega
  clear hB hl3 hl4 hlt
  have HD6 := fun h => write_calls B d t bas [] (3 + (a : Int)) xa w5.drew ((show DiskNil w5.drew d t bas from hD5).at B) h (by omega) hBle hB4 (by simp)
  have hw6 := HD6 (by omega)
  clear HD6
  rw [show (3 + (a : Int)).toNat = 3 + a by omega] at hw6
  obtain ⟨x0, x1, x2, x3⟩ := hX5.four
  go_region_held3 (fun w' => w'.cell? ⟨w3.heap.size, 0, none⟩ = some (.int .u8 xa.1.toNat) ∧ w'.cell? ⟨w3.heap.size, 1, none⟩ = some (.int .u8 xa.2.1.toNat) ∧ w'.cell? ⟨w3.heap.size, 2, none⟩ = some (.int .u8 xa.2.2.1.toNat) ∧ w'.cell? ⟨w3.heap.size, 3, none⟩ = some (.int .u8 xa.2.2.2.toNat)) (go_keep)
    (first
      | (go_at_call 29; refine (home_calls (a : Int) _ (by omega) q1).mono ?_; rintro e w' ⟨rfl, rfl⟩)
      | (go_at_call 28; refine hw6.mono ?_; rintro e w6 ⟨rfl, hD6, hL6⟩; obtain ⟨y0, y1, y2, y3⟩ := (hL6.at (At.drew hX5) hB1 dX).four))
  clear hw6 x0 x1 x2 x3 y0 y1 y2 y3
  have hY6 : At w6 w4.heap.size 56 (bc yb) := hL6.at (At.drew hY5) hB2 dY
  have hL60 : Low B d w5 w6 := ((Low.refl B d w5).drew).trans hL6
  have hB6 : B ≤ w6.heap.size := Nat.le_trans hBle hL60.size
  clear hX5 hY5 hL6 hD5
  have hw7 := write_calls B d (t.set (3 + a) xa) bas ([] ++ [(3 + a, xa)]) (3 + (b : Int)) yb w6.drew (DiskAt.ext hD6 (g_drew (g_refl _ _))) (by omega) (by omega) hB6 hB4 (by simp)
  rw [show (3 + (b : Int)).toNat = 3 + b by omega] at hw7
  obtain ⟨x0, x1, x2, x3⟩ := hY6.four
  go_wp2
  go_region_held3 (fun w' => w'.cell? ⟨w4.heap.size, 0, none⟩ = some (.int .u8 yb.1.toNat) ∧ w'.cell? ⟨w4.heap.size, 1, none⟩ = some (.int .u8 yb.2.1.toNat) ∧ w'.cell? ⟨w4.heap.size, 2, none⟩ = some (.int .u8 yb.2.2.1.toNat) ∧ w'.cell? ⟨w4.heap.size, 3, none⟩ = some (.int .u8 yb.2.2.2.toNat)) (go_keep)
    (first
      | (go_at_call 29; refine (home_calls (b : Int) _ (by omega) q2).mono ?_; rintro e w' ⟨rfl, rfl⟩)
      | (go_at_call 28; refine hw7.mono ?_; rintro e w7 ⟨rfl, hD7, hL7⟩; obtain ⟨y0, y1, y2, y3⟩ := (hL7.at (At.drew hY6) hB2 dY).four))
  clear hw7 x0 x1 x2 x3 y0 y1 y2 y3 hY6
  have hL70 : Low B d w5 w7 := hL60.trans (((Low.refl B d w6).drew).trans hL7)
  have hB7 : B ≤ w7.heap.size := Nat.le_trans hBle hL70.size
  clear hL7 hL60 hB6
  have hw8 := write_zero B d ((t.set (3 + a) xa).set (3 + b) yb) bas (([] ++ [(3 + a, xa)]) ++ [(3 + b, yb)]) 0 w7 hD7 (by omega) (by omega) hB7 hB4 (by simp)
  have HW8 := hw8
  clear hw8
  go_wp2_with fail
  refine HW8.mono ?_
  rintro e w8 ⟨rfl, hD8, hL8⟩
  go_wp2
  go_ret
  exact opened_of hg5 hB3 hD8 (hL70.trans hL8) (by rw [rcv, HF.out]; rfl) (by rw [HF.out]; rfl)

/-- Open. -/
theorem open_calls (d : Nat) (t bas : List Blk) (w : World) (hD : DiskNil w d t bas) : Calls Try.prog 19 #[.pointer (some ⟨d, 0, none⟩)] w (Opened w d t bas) := by
  cases hf : full (t.getD 0 zB) with
  | false => exact open_idle d t bas w hD hf
  | true =>
    cases hv : valid (t.getD 0 zB) with
    | false => exact open_bad d t bas w hD hf hv
    | true => exact open_good d t bas w hD hf hv
end Go.Proofs.Qxb6500337a
