/-
  Walks: Encode, Decode, at, Balance, Total of the real bank.
-/
import Derived.Test.Qxb6500337aW12
import Derived.Test.Qxb6500337aPlainB
namespace Go.Proofs.Qxb6500337a
open Go.RowKit

theorem wraps_i64 (n : Int) (h₀ : 0 ≤ n) (h₁ : n < 2 ^ 62) : IntKind.i64.wrap n = n := by rw [IntKind.wrap_i64]; omega
theorem or_hi (i : Nat) (x y : Int) (hx₀ : 0 ≤ x) (hx : x % 2 ^ i = 0) (hx₁ : x < 2 ^ 62) (hy₀ : 0 ≤ y) (hy : y < 2 ^ i) (hy₁ : y < 2 ^ 62) : bits .or .i64 y x = y + x := by
  have hc : bits .or .i64 y x = bits .or .i64 x y := by simp only [bits, BitVec.or_comm]
  rw [hc, bits_join .i64 62 (by decide) wraps_i64 i x y hx₀ hx hx₁ hy₀ hy hy₁]
  omega

/-- Encode. -/
theorem encode_calls (n : Nat) (w : World) (h : n ≤ 5000) : Calls Try.prog 40 #[.int .i64 n] w fun e w' => e = .returned (bv (eB n)) ∧ w.grownBy w' none := by
  go_enter Try.func40, Try.ntmps40
  go_wp2
  refine bodyPost_ret (v := .agg #[.int .u8 ((n : Int) % 256), .int .u8 ((n : Int) / 256), .int .u8 ((n : Int) / 65536), .int .u8 ((n : Int) / 16777216)]) (by simp [results, Try.results40, go_sem]) rfl ⟨?_, ?_⟩
  · have e : bv (eB n) = .agg #[.int .u8 ((UInt8.ofNat n).toNat : Int), .int .u8 ((UInt8.ofNat (n / 256)).toNat : Int), .int .u8 ((UInt8.ofNat (n / 65536)).toNat : Int), .int .u8 ((UInt8.ofNat (n / 16777216)).toNat : Int)] := rfl
    have e1 : ((UInt8.ofNat n).toNat : Int) = (n : Int) % 256 := by rw [UInt8.toNat_ofNat']; omega
    have e2 : ((UInt8.ofNat (n / 256)).toNat : Int) = (n : Int) / 256 := by rw [UInt8.toNat_ofNat']; omega
    have e3 : ((UInt8.ofNat (n / 65536)).toNat : Int) = (n : Int) / 65536 := by rw [UInt8.toNat_ofNat']; omega
    have e4 : ((UInt8.ofNat (n / 16777216)).toNat : Int) = (n : Int) / 16777216 := by rw [UInt8.toNat_ofNat']; omega
    rw [e, e1, e2, e3, e4]
  · exact g_alloc (g_alloc (g_refl _ _) _) _

theorem ret_int {k : IntKind} {a b : Int} (h : a = b) : Ending.returned (.int k a) = .returned (.int k b) := by rw [h]

/-- Decode. -/
theorem decode_calls (x : Blk) (w : World) : Calls Try.prog 42 #[bv x] w fun e w' => e = .returned (.int .i64 (dec x)) ∧ w.grownBy w' none := by
  have h0 : x.1.toNat < 256 := x.1.toNat_lt
  have h1 : x.2.1.toNat < 256 := x.2.1.toNat_lt
  have h2 : x.2.2.1.toNat < 256 := x.2.2.1.toNat_lt
  have h3 : x.2.2.2.toNat < 256 := x.2.2.2.toNat_lt
  go_enter Try.func42, Try.ntmps42
  go_wp2
  go_ret
  refine ⟨ret_int ?_, g_alloc (g_refl _ _) _⟩
  rw [or_hi 8 ((x.2.1.toNat : Int) * 256) _ (by omega) (by omega) (by omega) (by omega) (by omega) (by omega),
    or_hi 16 ((x.2.2.1.toNat : Int) * 65536) _ (by omega) (by omega) (by omega) (by omega) (by omega) (by omega),
    or_hi 24 ((x.2.2.2.toNat : Int) * 16777216) _ (by omega) (by omega) (by omega) (by omega) (by omega) (by omega)]
  unfold dec
  omega

/-- The bank x over the layer p. -/
def BankAt (w : World) (x p : Nat) : Prop := At w x 46 #[.pointer (some ⟨p, 0, none⟩)]
theorem BankAt.cell {w : World} {x p : Nat} (h : BankAt w x p) : w.cell? ⟨x, 0, none⟩ = some (.pointer (some ⟨p, 0, none⟩)) := At.cell h 0

set_option maxHeartbeats 400000 in
/-- at. -/
theorem at_calls (base x p d : Nat) (now bas : List Blk) (log : List (Nat × Blk)) (i : Int) (w : World) (hX : BankAt w x p) (hP : PairAt w p d) (hD : DiskAt base w d now bas log) (h0 : 0 ≤ i) (h5 : i < 5) :
    Calls Try.prog 38 #[.pointer (some ⟨x, 0, none⟩), .int .i64 i] w fun e w' => e = .returned (.int .i64 (dec (now.getD (3 + i).toNat zB))) ∧ w.grownBy w' none := by
  have hx := hX.cell
  have hg := get_in base p d now bas log i w hP hD h0 h5
  generalize now.getD (3 + i).toNat zB = b at *
  have HG := hg
  clear hg
  go_enter Try.func38, Try.ntmps38
  go_wp2_with fail
  refine HG.mono ?_
  clear HG
  rintro e w1 ⟨rfl, g1⟩
  go_wp2_with fail
  refine (decode_calls b _).mono ?_
  rintro e w2 ⟨rfl, g2⟩
  go_wp2
  go_ret
  exact ⟨rfl, g_trans (g_alloc g1 _) g2⟩

/-- Balance in range. -/
theorem balance_in (base x p d : Nat) (now bas : List Blk) (log : List (Nat × Blk)) (i : Int) (w : World) (hX : BankAt w x p) (hP : PairAt w p d) (hD : DiskAt base w d now bas log) (h0 : 0 ≤ i) (h4 : i < 4) :
    Calls Try.prog 30 #[.pointer (some ⟨x, 0, none⟩), .int .i64 i] w fun e w' => e = .returned (.tuple #[.int .i64 (dec (now.getD (3 + i).toNat zB)), .int .i64 0]) ∧ w.grownBy w' none := by
  have HA := at_calls base x p d now bas log i w hX hP hD h0 (by omega)
  go_enter Try.func30, Try.ntmps30
  go_wp2_with fail
  refine HA.mono ?_
  clear HA
  rintro e w1 ⟨rfl, g1⟩
  go_wp2
  go_ret2
  exact ⟨rfl, g1⟩
theorem balance_out (x : Nat) (i : Int) (w : World) (h : i < 0 ∨ 4 ≤ i) :
    Calls Try.prog 30 #[.pointer (some ⟨x, 0, none⟩), .int .i64 i] w fun e w' => e = .returned (.tuple #[.int .i64 0, .int .i64 1]) ∧ w.grownBy w' none := by
  rcases h with h | h
  · go_enter Try.func30, Try.ntmps30
    go_wp2
    go_ret2
    exact ⟨rfl, g_refl _ _⟩
  · have h' : ¬ i < 0 := by omega
    go_enter Try.func30, Try.ntmps30
    go_wp2
    go_ret2
    exact ⟨rfl, g_refl _ _⟩
/-- Total. -/
theorem total_calls (base x p d : Nat) (now bas : List Blk) (log : List (Nat × Blk)) (w : World) (hX : BankAt w x p) (hP : PairAt w p d) (hD : DiskAt base w d now bas log) :
    Calls Try.prog 32 #[.pointer (some ⟨x, 0, none⟩)] w fun e w' => e = .returned (.int .i64 (dec (now.getD 7 zB))) ∧ w.grownBy w' none := by
  have HA := at_calls base x p d now bas log 4 w hX hP hD (by omega) (by omega)
  rw [show (3 + (4 : Int)).toNat = 7 from rfl] at HA
  go_enter Try.func32, Try.ntmps32
  go_wp2_with fail
  refine HA.mono ?_
  clear HA
  rintro e w1 ⟨rfl, g1⟩
  go_wp2
  go_ret
  exact ⟨rfl, g1⟩
end Go.Proofs.Qxb6500337a
