/-
  Walks: Deposit of the real bank.
-/
import Derived.Test.Qxb6500337aB3
import Derived.Deep.RegionWith
namespace Go.Proofs.Qxb6500337a
open Go.RowKit

/-- The real bank shows the balances. -/
structure Shows (w : World) (x p d : Nat) (now bas : List Blk) (bal : List Nat) : Prop where
  bank : BankAt w x p
  pair : PairAt w p d
  disk : DiskNil w d now bas
  same : homes now = enc bal
  bal : Bal bal
theorem Shows.ext {w w' : World} {x p d : Nat} {now bas : List Blk} {bal : List Nat} (h : Shows w x p d now bas bal) (g : w.grownBy w' none) : Shows w' x p d now bas bal :=
  ⟨At.ext h.bank g, At.ext h.pair g, h.disk.ext g (by simp), h.same, h.bal⟩

theorem at_acc (x p d : Nat) (now bas : List Blk) (bal : List Nat) (i : Nat) (w : World) (h : Shows w x p d now bas bal) (hi : i < 4) :
    Calls Try.prog 38 #[.pointer (some ⟨x, 0, none⟩), .int .i64 (i : Int)] w fun e w' => e = .returned (.int .i64 (bal.getD i 0)) ∧ w.grownBy w' none := by
  have := at_calls 0 x p d now bas [] (i : Int) w h.bank h.pair (h.disk.at 0) (by omega) (by omega)
  have hb := h.bal.le i
  rwa [show (3 + (i : Int)).toNat = 3 + i by omega, home_at now (enc bal) i h.same, enc_get h.bal i hi, dec_eB _ (by omega)] at this
theorem at_tot (x p d : Nat) (now bas : List Blk) (bal : List Nat) (w : World) (h : Shows w x p d now bas bal) :
    Calls Try.prog 38 #[.pointer (some ⟨x, 0, none⟩), .int .i64 4] w fun e w' => e = .returned (.int .i64 bal.sum) ∧ w.grownBy w' none := by
  have := at_calls 0 x p d now bas [] 4 w h.bank h.pair (h.disk.at 0) (by omega) (by omega)
  have hb := h.bal.sum
  rwa [show (3 + (4 : Int)).toNat = 3 + 4 from rfl, home_at now (enc bal) 4 h.same, enc_total h.bal, dec_eB _ (by omega)] at this

theorem dep_bad1 (x : Nat) (a n : Int) (w : World) (h : a < 0 ∨ 4 ≤ a) :
    Calls Try.prog 34 #[.pointer (some ⟨x, 0, none⟩), .int .i64 a, .int .i64 n] w fun e w' => e = .returned (.int .i64 1) ∧ w.grownBy w' none := by
  rcases h with h | h
  · go_enter Try.func34, Try.ntmps34
    go_wp2
    go_ret
    exact ⟨rfl, g_refl _ _⟩
  · have h' : ¬ a < 0 := by omega
    go_enter Try.func34, Try.ntmps34
    go_wp2
    go_ret
    exact ⟨rfl, g_refl _ _⟩
theorem dep_bad2 (x : Nat) (a n : Int) (w : World) (h0 : 0 ≤ a) (h4 : a < 4) (hn : n ≤ 0) :
    Calls Try.prog 34 #[.pointer (some ⟨x, 0, none⟩), .int .i64 a, .int .i64 n] w fun e w' => e = .returned (.int .i64 3) ∧ w.grownBy w' none := by
  go_enter Try.func34, Try.ntmps34
  go_wp2
  go_ret
  exact ⟨rfl, g_refl _ _⟩
theorem dep_bad3 (x p d : Nat) (now bas : List Blk) (bal : List Nat) (a : Nat) (n : Int) (w : World) (hS : Shows w x p d now bas bal) (h4 : a < 4) (hn : 0 < n) (hf : 1000 - (bal.getD a 0 : Int) < n) :
    Calls Try.prog 34 #[.pointer (some ⟨x, 0, none⟩), .int .i64 (a : Int), .int .i64 n] w fun e w' => e = .returned (.int .i64 5) ∧ w.grownBy w' none := by
  have HA := at_acc x p d now bas bal a w hS h4
  have hb := hS.bal.le a
  generalize bal.getD a 0 = v at *
  clear hS
  have a0 : (0 : Int) ≤ (a : Int) := by omega
  have a4 : (a : Int) < 4 := by omega
  go_enter Try.func34, Try.ntmps34
  go_wp2_with fail
  refine HA.mono ?_
  clear HA
  rintro e w1 ⟨rfl, g1⟩
  go_wp2
  go_ret
  exact ⟨rfl, g1⟩

set_option maxHeartbeats 1600000 in
/-- A deposit that is done. -/
theorem dep_ok (x p d : Nat) (now bas : List Blk) (bal : List Nat) (a n : Nat) (w : World) (hS : Shows w x p d now bas bal) (h4 : a < 4) (hn : 0 < n) (hf : bal.getD a 0 + n ≤ 1000) :
    Calls Try.prog 34 #[.pointer (some ⟨x, 0, none⟩), .int .i64 (a : Int), .int .i64 (n : Int)] w fun e w' => e = .returned (.int .i64 0) ∧
      DiskAt w.heap.size w' d (app now (putW a (eB (bal.getD a 0 + n)) 4 (eB (bal.sum + n)))) bas (putW a (eB (bal.getD a 0 + n)) 4 (eB (bal.sum + n))) ∧ w.grownBy w' (some d) := by
  have hbs := hS.bal.sum
  have hxd : some x ≠ some d := by simpa using At.ne hS.bank hS.disk.1 (by decide)
  have HA : Hid (∀ w', w.grownBy w' none → Calls Try.prog 38 #[.pointer (some ⟨x, 0, none⟩), .int .i64 (a : Int)] w' fun e w'' => e = .returned (.int .i64 (bal.getD a 0)) ∧ w'.grownBy w'' none) := fun w' g => at_acc x p d now bas bal a w' (hS.ext g) h4
  have HT : Hid (∀ w', w.grownBy w' none → Calls Try.prog 38 #[.pointer (some ⟨x, 0, none⟩), .int .i64 4] w' fun e w'' => e = .returned (.int .i64 bal.sum) ∧ w'.grownBy w'' none) := fun w' g => at_tot x p d now bas bal w' (hS.ext g)
  have hE1 := fun w' => encode_calls (bal.getD a 0 + n) w' (by omega)
  have hE2 := fun w' => encode_calls (bal.sum + n) w' (by omega)
  rw [Int.natCast_add] at hE1 hE2
  have hPut : ∀ w', w.grownBy w' none → Calls Try.prog 39 #[.pointer (some ⟨p, 0, none⟩), .int .i64 (a : Int), bv (eB (bal.getD a 0 + n)), .int .i64 4, bv (eB (bal.sum + n))] w' fun e w'' => e = .returned (.int .i64 0) ∧
      DiskAt w'.heap.size w'' d (app now (putW a (eB (bal.getD a 0 + n)) 4 (eB (bal.sum + n)))) bas (putW a (eB (bal.getD a 0 + n)) 4 (eB (bal.sum + n))) ∧ w'.grownBy w'' (some d) :=
    fun w' g => put_ok p d now bas a 4 (eB (bal.getD a 0 + n)) (eB (bal.sum + n)) w' (At.ext hS.pair g) (hS.disk.ext g (by simp)) (by omega) (by omega) (by omega)
  have hX := hS.bank
  clear hS
  generalize app now (putW a (eB (bal.getD a 0 + n)) 4 (eB (bal.sum + n))) = now' at *
  generalize putW a (eB (bal.getD a 0 + n)) 4 (eB (bal.sum + n)) = log' at *
  generalize eB (bal.getD a 0 + n) = ea at *
  generalize eB (bal.sum + n) = et at *
  generalize bal.getD a 0 = v at *
  generalize bal.sum = s at *
  have HE1 : Hid (∀ w', Calls Try.prog 40 #[.int .i64 ((v : Int) + (n : Int))] w' fun e w'' => e = .returned (bv ea) ∧ w'.grownBy w'' none) := hE1
  have HE2 : Hid (∀ w', Calls Try.prog 40 #[.int .i64 ((s : Int) + (n : Int))] w' fun e w'' => e = .returned (bv et) ∧ w'.grownBy w'' none) := hE2
  have HP : Hid (∀ w', w.grownBy w' none → Calls Try.prog 39 #[.pointer (some ⟨p, 0, none⟩), .int .i64 (a : Int), bv ea, .int .i64 4, bv et] w' fun e w'' => e = .returned (.int .i64 0) ∧ DiskAt w'.heap.size w'' d now' bas log' ∧ w'.grownBy w'' (some d)) := hPut
  clear hE1 hE2 hPut
  have a0 : (0 : Int) ≤ (a : Int) := by omega
  have a4 : (a : Int) < 4 := by omega
  have n0 : ¬ (n : Int) ≤ 0 := by omega
  have q : ¬ (1000 - (v : Int) < (n : Int)) := by omega
  have hw1 : IntKind.i64.wrap ((v : Int) + (n : Int)) = (v : Int) + (n : Int) := by rw [IntKind.wrap_i64]; omega
  have hw2 : IntKind.i64.wrap ((s : Int) + (n : Int)) = (s : Int) + (n : Int) := by rw [IntKind.wrap_i64]; omega
  have hv1 : (v : Int) ≤ 1000 := by omega
  have hs1 : (s : Int) ≤ 4000 := by omega
  have hn1 : (n : Int) ≤ 1000 := by omega
  go_enter Try.func34, Try.ntmps34
  go_wp2_with fail
  refine (HA.out _ (g_refl _ _)).mono ?_
  rintro e w1 ⟨rfl, g1⟩
  have x1 := BankAt.cell (At.ext hX g1)
  go_wp2_with fail
  go_region_held3 (fun w' => w'.cell? ⟨x, 0, none⟩ = some (.pointer (some ⟨p, 0, none⟩))) (go_keep)
    (first
      | (go_at_call_of 38 (Value.int IntKind.i64 (4 : Int)); refine (HT.out _ G3).mono ?_; rintro e w4 ⟨rfl, g4⟩; have G4 := g_trans G3 g4; have x4 := BankAt.cell (At.ext hX G4))
      | (go_at_call 38; refine (HA.out _ (g_drew g1)).mono ?_; rintro e w2 ⟨rfl, g2⟩; have G2 := g_trans (g_drew g1) g2; have x2 := BankAt.cell (At.ext hX G2))
      | (go_at_call_of 40 (Value.int IntKind.i64 ((v : Int) + (n : Int))); refine (HE1.out _).mono ?_; rintro e w3 ⟨rfl, g3⟩; have G3 := g_trans G2 g3; have x3 := BankAt.cell (At.ext hX G3))
      | (go_at_call_of 40 (Value.int IntKind.i64 ((s : Int) + (n : Int))); refine (HE2.out _).mono ?_; rintro e w5 ⟨rfl, g5⟩; have G5 := g_trans G4 g5; have x5 := BankAt.cell (At.ext hX G5))
      | (go_at_call 39; refine (HP.out _ G5).mono ?_; rintro e w6 ⟨rfl, hD6, g6⟩; have x6 := BankAt.cell (At.kept (At.ext hX G5) g6 hxd)))
  go_wp2
  go_ret
  exact ⟨rfl, hD6.mono G5.size, g_trans (g_some G5 _) g6⟩
end Go.Proofs.Qxb6500337a
