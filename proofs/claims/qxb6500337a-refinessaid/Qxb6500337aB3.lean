/-
  Walks: Deposit and Transfer of the abstract bank.
-/
import Derived.Test.Qxb6500337aB2
namespace Go.Proofs.Qxb6500337a
open Go.RowKit

theorem mdep_bad1 (m : Nat) (a x : Int) (w : World) (h : a < 0 ∨ 4 ≤ a) :
    Calls Try.prog 35 #[.pointer (some ⟨m, 0, none⟩), .int .i64 a, .int .i64 x] w fun e w' => e = .returned (.int .i64 1) ∧ w.grownBy w' none := by
  rcases h with h | h
  · go_enter Try.func35, Try.ntmps35
    go_wp2
    go_ret
    exact ⟨rfl, g_refl _ _⟩
  · have h' : ¬ a < 0 := by omega
    go_enter Try.func35, Try.ntmps35
    go_wp2
    go_ret
    exact ⟨rfl, g_refl _ _⟩
theorem mdep_bad2 (m : Nat) (a x : Int) (w : World) (h0 : 0 ≤ a) (h4 : a < 4) (hx : x ≤ 0) :
    Calls Try.prog 35 #[.pointer (some ⟨m, 0, none⟩), .int .i64 a, .int .i64 x] w fun e w' => e = .returned (.int .i64 3) ∧ w.grownBy w' none := by
  go_enter Try.func35, Try.ntmps35
  go_wp2
  go_ret
  exact ⟨rfl, g_refl _ _⟩
theorem mdep_bad3 (m : Nat) (bal : List Nat) (a x : Int) (w : World) (hM : ModAt w m bal) (h0 : 0 ≤ a) (h4 : a < 4) (hx : 0 < x) (hf : 1000 - (bal.getD a.toNat 0 : Int) < x) :
    Calls Try.prog 35 #[.pointer (some ⟨m, 0, none⟩), .int .i64 a, .int .i64 x] w fun e w' => e = .returned (.int .i64 5) ∧ w.grownBy w' none := by
  have c := hM.cell a.toNat (by omega)
  have hb := hM.2.le a.toNat
  generalize bal.getD a.toNat 0 = v at *
  clear hM
  go_enter Try.func35, Try.ntmps35
  go_wp2
  go_ret
  exact ⟨rfl, g_refl _ _⟩

set_option maxHeartbeats 800000 in
theorem mdep_ok (m : Nat) (bal : List Nat) (a x : Nat) (w : World) (hM : ModAt w m bal) (h4 : a < 4) (hx : 0 < x) (hf : bal.getD a 0 + x ≤ 1000) :
    Calls Try.prog 35 #[.pointer (some ⟨m, 0, none⟩), .int .i64 a, .int .i64 x] w fun e w' => e = .returned (.int .i64 0) ∧ ModAt w' m (bal.set a (bal.getD a 0 + x)) ∧ w.grownBy w' (some m) := by
  have c := hM.cell a h4
  have f := hM.1.free a
  have hN : ModAt (w.setCell ⟨m, a, none⟩ (.int .i64 ((bal.getD a 0 : Int) + x))).drew m (bal.set a (bal.getD a 0 + x)) := by
    refine ⟨?_, bal_dep hM.2 a x hf⟩
    have := (hM.1.setSame a (.int .i64 ((bal.getD a 0 + x : Nat) : Int))).drew
    rw [modC_set] at this
    rwa [Int.natCast_add] at this
  have hG : w.grownBy (w.setCell ⟨m, a, none⟩ (.int .i64 ((bal.getD a 0 : Int) + x))).drew (some m) := g_drew (g_own (g_refl _ _) _ _)
  clear hM
  obtain ⟨v, hv⟩ : ∃ v, bal.getD a 0 = v := ⟨_, rfl⟩
  rw [hv] at c hf hN hG
  rw [hv]
  clear hv
  have a0 : (0 : Int) ≤ (a : Int) := by omega
  have a4 : (a : Int) < 4 := by omega
  have x0 : ¬ (x : Int) ≤ 0 := by omega
  have q : ¬ (1000 - (v : Int) < (x : Int)) := by omega
  have hw : IntKind.i64.wrap ((v : Int) + (x : Int)) = (v : Int) + (x : Int) := by rw [IntKind.wrap_i64]; omega
  have hv1 : (v : Int) ≤ 1000 := by omega
  have hx1 : (x : Int) ≤ 1000 := by omega
  go_enter Try.func35, Try.ntmps35
  go_wp2
  go_region
  all_goals go_wp2
  all_goals go_ret
  all_goals exact ⟨rfl, hN, hG⟩

theorem mtra_bad1a (m : Nat) (f t x : Int) (w : World) (h : f < 0) :
    Calls Try.prog 37 #[.pointer (some ⟨m, 0, none⟩), .int .i64 f, .int .i64 t, .int .i64 x] w fun e w' => e = .returned (.int .i64 1) ∧ w.grownBy w' none := by
  go_enter Try.func37, Try.ntmps37
  go_wp2
  go_ret
  exact ⟨rfl, g_refl _ _⟩

theorem mtra_bad1b (m : Nat) (f t x : Int) (w : World) (h : 4 ≤ f) :
    Calls Try.prog 37 #[.pointer (some ⟨m, 0, none⟩), .int .i64 f, .int .i64 t, .int .i64 x] w fun e w' => e = .returned (.int .i64 1) ∧ w.grownBy w' none := by
  have h' : ¬ f < 0 := by omega
  go_enter Try.func37, Try.ntmps37
  go_wp2
  go_ret
  exact ⟨rfl, g_refl _ _⟩

theorem mtra_bad2a (m : Nat) (f t x : Int) (w : World) (h0 : 0 ≤ f) (h4 : f < 4) (h : t < 0) :
    Calls Try.prog 37 #[.pointer (some ⟨m, 0, none⟩), .int .i64 f, .int .i64 t, .int .i64 x] w fun e w' => e = .returned (.int .i64 1) ∧ w.grownBy w' none := by
  go_enter Try.func37, Try.ntmps37
  go_wp2
  go_ret
  exact ⟨rfl, g_refl _ _⟩

theorem mtra_bad2b (m : Nat) (f t x : Int) (w : World) (h0 : 0 ≤ f) (h4 : f < 4) (h : 4 ≤ t) :
    Calls Try.prog 37 #[.pointer (some ⟨m, 0, none⟩), .int .i64 f, .int .i64 t, .int .i64 x] w fun e w' => e = .returned (.int .i64 1) ∧ w.grownBy w' none := by
  have h' : ¬ t < 0 := by omega
  go_enter Try.func37, Try.ntmps37
  go_wp2
  go_ret
  exact ⟨rfl, g_refl _ _⟩

theorem mtra_bad3 (m : Nat) (f x : Int) (w : World) (h0 : 0 ≤ f) (h4 : f < 4) :
    Calls Try.prog 37 #[.pointer (some ⟨m, 0, none⟩), .int .i64 f, .int .i64 f, .int .i64 x] w fun e w' => e = .returned (.int .i64 2) ∧ w.grownBy w' none := by
  go_enter Try.func37, Try.ntmps37
  go_wp2
  go_ret
  exact ⟨rfl, g_refl _ _⟩

theorem mtra_bad4 (m : Nat) (f t x : Int) (w : World) (h0 : 0 ≤ f) (h4 : f < 4) (k0 : 0 ≤ t) (k4 : t < 4) (hne : (f == t) = false) (hx : x ≤ 0) :
    Calls Try.prog 37 #[.pointer (some ⟨m, 0, none⟩), .int .i64 f, .int .i64 t, .int .i64 x] w fun e w' => e = .returned (.int .i64 3) ∧ w.grownBy w' none := by
  go_enter Try.func37, Try.ntmps37
  go_wp2
  go_ret
  exact ⟨rfl, g_refl _ _⟩

theorem mtra_bad5 (m : Nat) (bal : List Nat) (f t x : Int) (w : World) (hM : ModAt w m bal) (h0 : 0 ≤ f) (h4 : f < 4) (k0 : 0 ≤ t) (k4 : t < 4) (hne : (f == t) = false) (hx : 0 < x) (hf : (bal.getD f.toNat 0 : Int) < x) :
    Calls Try.prog 37 #[.pointer (some ⟨m, 0, none⟩), .int .i64 f, .int .i64 t, .int .i64 x] w fun e w' => e = .returned (.int .i64 4) ∧ w.grownBy w' none := by
  have c := hM.cell f.toNat (by omega)
  have hb := hM.2.le f.toNat
  generalize bal.getD f.toNat 0 = v at *
  clear hM
  go_enter Try.func37, Try.ntmps37
  go_wp2
  go_ret
  exact ⟨rfl, g_refl _ _⟩
theorem mtra_bad6 (m : Nat) (bal : List Nat) (f t x : Int) (w : World) (hM : ModAt w m bal) (h0 : 0 ≤ f) (h4 : f < 4) (k0 : 0 ≤ t) (k4 : t < 4) (hne : (f == t) = false) (hx : 0 < x) (hf : x ≤ (bal.getD f.toNat 0 : Int)) (ht : 1000 - (bal.getD t.toNat 0 : Int) < x) :
    Calls Try.prog 37 #[.pointer (some ⟨m, 0, none⟩), .int .i64 f, .int .i64 t, .int .i64 x] w fun e w' => e = .returned (.int .i64 5) ∧ w.grownBy w' none := by
  have c := hM.cell f.toNat (by omega)
  have c' := hM.cell t.toNat (by omega)
  have hb := hM.2.le f.toNat
  have hb' := hM.2.le t.toNat
  generalize bal.getD f.toNat 0 = v at *
  generalize bal.getD t.toNat 0 = u at *
  clear hM
  go_enter Try.func37, Try.ntmps37
  go_wp2
  go_ret
  exact ⟨rfl, g_refl _ _⟩

set_option maxHeartbeats 1600000 in
theorem mtra_ok (m : Nat) (bal : List Nat) (f t x : Nat) (w : World) (hM : ModAt w m bal) (hf4 : f < 4) (ht4 : t < 4) (hft : f ≠ t) (hx : 0 < x) (hf : x ≤ bal.getD f 0) (ht : bal.getD t 0 + x ≤ 1000) :
    Calls Try.prog 37 #[.pointer (some ⟨m, 0, none⟩), .int .i64 f, .int .i64 t, .int .i64 x] w fun e w' => e = .returned (.int .i64 0) ∧ ModAt w' m ((bal.set f (bal.getD f 0 - x)).set t (bal.getD t 0 + x)) ∧ w.grownBy w' (some m) := by
  have c := hM.cell f hf4
  have c' := hM.cell t ht4
  have fr := hM.1.free f
  have fr' := hM.1.free t
  have hbf := hM.2.le f
  have h1 : (f : Int) ≠ (t : Int) := by omega
  have A1 := (hM.1.setSame f (.int .i64 ((bal.getD f 0 - x : Nat) : Int))).drew
  rw [modC_set] at A1
  have A2 := (A1.setSame t (.int .i64 ((bal.getD t 0 + x : Nat) : Int))).drew
  rw [modC_set] at A2
  have e1 : ((bal.getD f 0 - x : Nat) : Int) = (bal.getD f 0 : Int) - (x : Int) := by omega
  have e2 : ((bal.getD t 0 + x : Nat) : Int) = (bal.getD t 0 : Int) + (x : Int) := by omega
  have hBal := bal_tra hM.2 f t x ht
  have c2 : (w.setCell ⟨m, f, none⟩ (.int .i64 ((bal.getD f 0 : Int) - (x : Int)))).drew.cell? ⟨m, t, none⟩ = some (.int .i64 (bal.getD t 0)) := by
    rw [World.cell?_drew, World.cell?_setCell_other _ _ _ _ (by intro e; simp only [Addr.mk.injEq] at e; exact hft e.2.1)]; exact c'
  have c3 : (w.setCell ⟨m, f, none⟩ (.int .i64 ((bal.getD f 0 : Int) - (x : Int)))).drew.frozen? ⟨m, t, none⟩ = false := by simpa using fr'
  rw [e1, e2] at A2
  have hG : w.grownBy ((w.setCell ⟨m, f, none⟩ (.int .i64 ((bal.getD f 0 : Int) - (x : Int)))).drew.setCell ⟨m, t, none⟩ (.int .i64 ((bal.getD t 0 : Int) + (x : Int)))).drew (some m) := g_drew (g_own (g_drew (g_own (g_refl _ _) _ _)) _ _)
  have HN : Hid (ModAt ((w.setCell ⟨m, f, none⟩ (.int .i64 ((bal.getD f 0 : Int) - (x : Int)))).drew.setCell ⟨m, t, none⟩ (.int .i64 ((bal.getD t 0 : Int) + (x : Int)))).drew m ((bal.set f (bal.getD f 0 - x)).set t (bal.getD t 0 + x)) ∧
    w.grownBy ((w.setCell ⟨m, f, none⟩ (.int .i64 ((bal.getD f 0 : Int) - (x : Int)))).drew.setCell ⟨m, t, none⟩ (.int .i64 ((bal.getD t 0 : Int) + (x : Int)))).drew (some m)) := ⟨⟨A2, hBal⟩, hG⟩
  clear A1 A2 e1 e2 hBal hG hM
  obtain ⟨v, hv⟩ : ∃ v, bal.getD f 0 = v := ⟨_, rfl⟩
  obtain ⟨u, hu⟩ : ∃ u, bal.getD t 0 = u := ⟨_, rfl⟩
  rw [hv] at c hf hbf c2 c3 HN
  rw [hu] at c' ht c2 HN
  rw [hv, hu]
  clear hv hu
  obtain ⟨L, hL⟩ : ∃ L, (bal.set f (v - x)).set t (u + x) = L := ⟨_, rfl⟩
  rw [hL] at HN
  rw [hL]
  clear hL
  have a0 : (0 : Int) ≤ (f : Int) := by omega
  have a4 : (f : Int) < 4 := by omega
  have b0 : (0 : Int) ≤ (t : Int) := by omega
  have b4 : (t : Int) < 4 := by omega
  have hne : ((f : Int) == (t : Int)) = false := by rw [beq_eq_false_iff_ne]; exact h1
  have x0 : ¬ (x : Int) ≤ 0 := by omega
  have q1 : ¬ ((v : Int) < (x : Int)) := by omega
  have q2 : ¬ (1000 - (u : Int) < (x : Int)) := by omega
  have hw1 : IntKind.i64.wrap ((v : Int) - (x : Int)) = (v : Int) - (x : Int) := by rw [IntKind.wrap_i64]; omega
  have hw2 : IntKind.i64.wrap ((u : Int) + (x : Int)) = (u : Int) + (x : Int) := by rw [IntKind.wrap_i64]; omega
  have hv1 : (v : Int) ≤ 1000 := by omega
  have hu1 : (u : Int) ≤ 1000 := by omega
  have hx1 : (x : Int) ≤ 1000 := by omega
  clear h1
  go_enter Try.func37, Try.ntmps37
  go_wp2
  go_region
  generalize hW : (w.setCell ⟨m, f, none⟩ (.int .i64 ((v : Int) - (x : Int)))).drew = w1 at *
  clear hW c c' fr fr'
  go_wp2
  go_region
  go_wp2
  go_ret
  exact ⟨rfl, HN.out⟩
end Go.Proofs.Qxb6500337a
