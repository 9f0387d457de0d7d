/-
  Walks: Transfer of the real bank.
-/
import Derived.Test.Qxb6500337aB4
namespace Go.Proofs.Qxb6500337a
open Go.RowKit

theorem tra_bad1a (x : Nat) (f t n : Int) (w : World) (h : f < 0) :
    Calls Try.prog 36 #[.pointer (some ⟨x, 0, none⟩), .int .i64 f, .int .i64 t, .int .i64 n] w fun e w' => e = .returned (.int .i64 1) ∧ w.grownBy w' none := by
  go_enter Try.func36, Try.ntmps36
  go_wp2
  go_ret
  exact ⟨rfl, g_refl _ _⟩

theorem tra_bad1b (x : Nat) (f t n : Int) (w : World) (h : 4 ≤ f) :
    Calls Try.prog 36 #[.pointer (some ⟨x, 0, none⟩), .int .i64 f, .int .i64 t, .int .i64 n] w fun e w' => e = .returned (.int .i64 1) ∧ w.grownBy w' none := by
  have h' : ¬ f < 0 := by omega
  go_enter Try.func36, Try.ntmps36
  go_wp2
  go_ret
  exact ⟨rfl, g_refl _ _⟩

theorem tra_bad2a (x : Nat) (f t n : Int) (w : World) (h0 : 0 ≤ f) (h4 : f < 4) (h : t < 0) :
    Calls Try.prog 36 #[.pointer (some ⟨x, 0, none⟩), .int .i64 f, .int .i64 t, .int .i64 n] w fun e w' => e = .returned (.int .i64 1) ∧ w.grownBy w' none := by
  go_enter Try.func36, Try.ntmps36
  go_wp2
  go_ret
  exact ⟨rfl, g_refl _ _⟩

theorem tra_bad2b (x : Nat) (f t n : Int) (w : World) (h0 : 0 ≤ f) (h4 : f < 4) (h : 4 ≤ t) :
    Calls Try.prog 36 #[.pointer (some ⟨x, 0, none⟩), .int .i64 f, .int .i64 t, .int .i64 n] w fun e w' => e = .returned (.int .i64 1) ∧ w.grownBy w' none := by
  have h' : ¬ t < 0 := by omega
  go_enter Try.func36, Try.ntmps36
  go_wp2
  go_ret
  exact ⟨rfl, g_refl _ _⟩

theorem tra_bad3 (x : Nat) (f n : Int) (w : World) (h0 : 0 ≤ f) (h4 : f < 4) :
    Calls Try.prog 36 #[.pointer (some ⟨x, 0, none⟩), .int .i64 f, .int .i64 f, .int .i64 n] w fun e w' => e = .returned (.int .i64 2) ∧ w.grownBy w' none := by
  go_enter Try.func36, Try.ntmps36
  go_wp2
  go_ret
  exact ⟨rfl, g_refl _ _⟩

theorem tra_bad4 (x : Nat) (f t n : Int) (w : World) (h0 : 0 ≤ f) (h4 : f < 4) (k0 : 0 ≤ t) (k4 : t < 4) (hne : (f == t) = false) (hn : n ≤ 0) :
    Calls Try.prog 36 #[.pointer (some ⟨x, 0, none⟩), .int .i64 f, .int .i64 t, .int .i64 n] w fun e w' => e = .returned (.int .i64 3) ∧ w.grownBy w' none := by
  go_enter Try.func36, Try.ntmps36
  go_wp2
  go_ret
  exact ⟨rfl, g_refl _ _⟩

theorem tra_bad5 (x p d : Nat) (now bas : List Blk) (bal : List Nat) (f t : Nat) (n : Int) (w : World) (hS : Shows w x p d now bas bal) (hf4 : f < 4) (ht4 : t < 4) (hft : f ≠ t) (hn : 0 < n) (hf : (bal.getD f 0 : Int) < n) :
    Calls Try.prog 36 #[.pointer (some ⟨x, 0, none⟩), .int .i64 (f : Int), .int .i64 (t : Int), .int .i64 n] w fun e w' => e = .returned (.int .i64 4) ∧ w.grownBy w' none := by
  have HA := at_acc x p d now bas bal f w hS hf4
  have hb := hS.bal.le f
  generalize bal.getD f 0 = v at *
  clear hS
  have a0 : (0 : Int) ≤ (f : Int) := by omega
  have a4 : (f : Int) < 4 := by omega
  have b0 : (0 : Int) ≤ (t : Int) := by omega
  have b4 : (t : Int) < 4 := by omega
  have hne : ((f : Int) == (t : Int)) = false := by rw [beq_eq_false_iff_ne]; omega
  clear hft
  go_enter Try.func36, Try.ntmps36
  go_wp2_with fail
  refine HA.mono ?_
  clear HA
  rintro e w1 ⟨rfl, g1⟩
  go_wp2
  go_ret
  exact ⟨rfl, g1⟩
theorem tra_bad6 (x p d : Nat) (now bas : List Blk) (bal : List Nat) (f t : Nat) (n : Int) (w : World) (hS : Shows w x p d now bas bal) (hf4 : f < 4) (ht4 : t < 4) (hft : f ≠ t) (hn : 0 < n) (hf : n ≤ (bal.getD f 0 : Int)) (ht : 1000 - (bal.getD t 0 : Int) < n) :
    Calls Try.prog 36 #[.pointer (some ⟨x, 0, none⟩), .int .i64 (f : Int), .int .i64 (t : Int), .int .i64 n] w fun e w' => e = .returned (.int .i64 5) ∧ w.grownBy w' none := by
  have HA := at_acc x p d now bas bal f w hS hf4
  have HT : Hid (∀ w', w.grownBy w' none → Calls Try.prog 38 #[.pointer (some ⟨x, 0, none⟩), .int .i64 (t : Int)] w' fun e w'' => e = .returned (.int .i64 (bal.getD t 0)) ∧ w'.grownBy w'' none) := fun w' g => at_acc x p d now bas bal t w' (hS.ext g) ht4
  have hb := hS.bal.le f
  have hb' := hS.bal.le t
  generalize bal.getD f 0 = v at *
  generalize bal.getD t 0 = u at *
  clear hS
  have a0 : (0 : Int) ≤ (f : Int) := by omega
  have a4 : (f : Int) < 4 := by omega
  have b0 : (0 : Int) ≤ (t : Int) := by omega
  have b4 : (t : Int) < 4 := by omega
  have hne : ((f : Int) == (t : Int)) = false := by rw [beq_eq_false_iff_ne]; omega
  clear hft
  go_enter Try.func36, Try.ntmps36
  go_wp2_with fail
  refine HA.mono ?_
  clear HA
  rintro e w1 ⟨rfl, g1⟩
  go_wp2_with fail
  refine (HT.out _ g1).mono ?_
  rintro e w2 ⟨rfl, g2⟩
  go_wp2
  go_ret
  exact ⟨rfl, g_trans g1 g2⟩

set_option maxHeartbeats 1600000 in
/-- A transfer that is done. -/
theorem tra_ok (x p d : Nat) (now bas : List Blk) (bal : List Nat) (f t n : Nat) (w : World) (hS : Shows w x p d now bas bal) (hf4 : f < 4) (ht4 : t < 4) (hft : f ≠ t) (hn : 0 < n) (hf : n ≤ bal.getD f 0) (ht : bal.getD t 0 + n ≤ 1000) :
    Calls Try.prog 36 #[.pointer (some ⟨x, 0, none⟩), .int .i64 (f : Int), .int .i64 (t : Int), .int .i64 (n : Int)] w fun e w' => e = .returned (.int .i64 0) ∧
      DiskAt w.heap.size w' d (app now (putW f (eB (bal.getD f 0 - n)) t (eB (bal.getD t 0 + n)))) bas (putW f (eB (bal.getD f 0 - n)) t (eB (bal.getD t 0 + n))) ∧ w.grownBy w' (some d) := by
  have hb := hS.bal.le f
  have hxd : some x ≠ some d := by simpa using At.ne hS.bank hS.disk.1 (by decide)
  have HA : Hid (∀ w', w.grownBy w' none → Calls Try.prog 38 #[.pointer (some ⟨x, 0, none⟩), .int .i64 (f : Int)] w' fun e w'' => e = .returned (.int .i64 (bal.getD f 0)) ∧ w'.grownBy w'' none) := fun w' g => at_acc x p d now bas bal f w' (hS.ext g) hf4
  have HT : Hid (∀ w', w.grownBy w' none → Calls Try.prog 38 #[.pointer (some ⟨x, 0, none⟩), .int .i64 (t : Int)] w' fun e w'' => e = .returned (.int .i64 (bal.getD t 0)) ∧ w'.grownBy w'' none) := fun w' g => at_acc x p d now bas bal t w' (hS.ext g) ht4
  have hE1 := fun w' => encode_calls (bal.getD f 0 - n) w' (by omega)
  have hE2 := fun w' => encode_calls (bal.getD t 0 + n) w' (by omega)
  rw [Int.ofNat_sub hf] at hE1
  rw [Int.natCast_add] at hE2
  have hPut := fun w' (g : w.grownBy w' none) => put_ok p d now bas f t (eB (bal.getD f 0 - n)) (eB (bal.getD t 0 + n)) w' (At.ext hS.pair g) (hS.disk.ext g (by simp)) (by omega) (by omega) hft
  have hX := hS.bank
  clear hS
  generalize app now (putW f (eB (bal.getD f 0 - n)) t (eB (bal.getD t 0 + n))) = now' at *
  generalize putW f (eB (bal.getD f 0 - n)) t (eB (bal.getD t 0 + n)) = log' at *
  generalize eB (bal.getD f 0 - n) = ea at *
  generalize eB (bal.getD t 0 + n) = et at *
  generalize bal.getD f 0 = v at *
  generalize bal.getD t 0 = u at *
  have HE1 : Hid (∀ w', Calls Try.prog 40 #[.int .i64 ((v : Int) - (n : Int))] w' fun e w'' => e = .returned (bv ea) ∧ w'.grownBy w'' none) := hE1
  have HE2 : Hid (∀ w', Calls Try.prog 40 #[.int .i64 ((u : Int) + (n : Int))] w' fun e w'' => e = .returned (bv et) ∧ w'.grownBy w'' none) := hE2
  have HP : Hid (∀ w', w.grownBy w' none → Calls Try.prog 39 #[.pointer (some ⟨p, 0, none⟩), .int .i64 (f : Int), bv ea, .int .i64 (t : Int), bv et] w' fun e w'' => e = .returned (.int .i64 0) ∧ DiskAt w'.heap.size w'' d now' bas log' ∧ w'.grownBy w'' (some d)) := hPut
  clear hE1 hE2 hPut
  have a0 : (0 : Int) ≤ (f : Int) := by omega
  have a4 : (f : Int) < 4 := by omega
  have b0 : (0 : Int) ≤ (t : Int) := by omega
  have b4 : (t : Int) < 4 := by omega
  have hne : ((f : Int) == (t : Int)) = false := by rw [beq_eq_false_iff_ne]; omega
  have n0 : ¬ (n : Int) ≤ 0 := by omega
  have q1 : ¬ ((v : Int) < (n : Int)) := by omega
  have q2 : ¬ (1000 - (u : Int) < (n : Int)) := by omega
  have hw1 : IntKind.i64.wrap ((v : Int) - (n : Int)) = (v : Int) - (n : Int) := by rw [IntKind.wrap_i64]; omega
  have hw2 : IntKind.i64.wrap ((u : Int) + (n : Int)) = (u : Int) + (n : Int) := by rw [IntKind.wrap_i64]; omega
  have hv1 : (v : Int) ≤ 1000 := by omega
  have hu1 : (u : Int) ≤ 1000 := by omega
  have hn1 : (n : Int) ≤ 1000 := by omega
  clear hft
  go_enter Try.func36, Try.ntmps36
  go_wp2_with fail
  refine (HA.out _ (g_refl _ _)).mono ?_
  rintro e w0 ⟨rfl, g0⟩
  go_wp2_with fail
  refine (HT.out _ g0).mono ?_
  rintro e w1 ⟨rfl, g01⟩
  have g1 := g_trans g0 g01
  have x1 := BankAt.cell (At.ext hX g1)
  go_wp2_with fail
  go_region_held3 (fun w' => w'.cell? ⟨x, 0, none⟩ = some (.pointer (some ⟨p, 0, none⟩))) (go_keep)
    (first
      | (go_at_call_of 38 (Value.int IntKind.i64 (t : Int)); refine (HT.out _ G3).mono ?_; rintro e w4 ⟨rfl, g4⟩; have G4 := g_trans G3 g4; have x4 := BankAt.cell (At.ext hX G4))
      | (go_at_call_of 38 (Value.int IntKind.i64 (f : Int)); refine (HA.out _ (g_drew g1)).mono ?_; rintro e w2 ⟨rfl, g2⟩; have G2 := g_trans (g_drew g1) g2; have x2 := BankAt.cell (At.ext hX G2))
      | (go_at_call_of 40 (Value.int IntKind.i64 ((v : Int) - (n : Int))); refine (HE1.out _).mono ?_; rintro e w3 ⟨rfl, g3⟩; have G3 := g_trans G2 g3; have x3 := BankAt.cell (At.ext hX G3))
      | (go_at_call_of 40 (Value.int IntKind.i64 ((u : Int) + (n : Int))); refine (HE2.out _).mono ?_; rintro e w5 ⟨rfl, g5⟩; have G5 := g_trans G4 g5; have x5 := BankAt.cell (At.ext hX G5))
      | (go_at_call 39; refine (HP.out _ G5).mono ?_; rintro e w6 ⟨rfl, hD6, g6⟩; have x6 := BankAt.cell (At.kept (At.ext hX G5) g6 hxd)))
  go_wp2
  go_ret
  exact ⟨rfl, hD6.mono G5.size, g_trans (g_some G5 _) g6⟩
end Go.Proofs.Qxb6500337a
