/-
  Walks: SameBalance, SameTotal, Alike.
-/
import Derived.Test.Qxb6500337aB5
namespace Go.Proofs.Qxb6500337a
open Go.RowKit

/-- The real bank shows the balances v, whatever the record. -/
structure View (base : Nat) (w : World) (x p d : Nat) (now bas : List Blk) (log : List (Nat × Blk)) (v : List Nat) : Prop where
  bank : BankAt w x p
  pair : PairAt w p d
  disk : DiskAt base w d now bas log
  same : homes now = enc v
  bal : Bal v
theorem View.ext {base : Nat} {w w' : World} {x p d : Nat} {now bas : List Blk} {log : List (Nat × Blk)} {v : List Nat} (h : View base w x p d now bas log v) (g : w.grownBy w' none) : View base w' x p d now bas log v :=
  ⟨At.ext h.bank g, At.ext h.pair g, h.disk.ext g, h.same, h.bal⟩
theorem Shows.view {w : World} {x p d : Nat} {now bas : List Blk} {bal : List Nat} (h : Shows w x p d now bas bal) (base : Nat) : View base w x p d now bas [] bal := ⟨h.bank, h.pair, h.disk.at base, h.same, h.bal⟩

theorem balance_view (base x p d : Nat) (now bas : List Blk) (log : List (Nat × Blk)) (v : List Nat) (i : Int) (w : World) (h : View base w x p d now bas log v) (h0 : 0 ≤ i) (h4 : i < 4) :
    Calls Try.prog 30 #[.pointer (some ⟨x, 0, none⟩), .int .i64 i] w fun e w' => e = .returned (.tuple #[.int .i64 (v.getD i.toNat 0), .int .i64 0]) ∧ w.grownBy w' none := by
  have := balance_in base x p d now bas log i w h.bank h.pair h.disk h0 h4
  have hb := h.bal.le i.toNat
  rwa [show (3 + i).toNat = 3 + i.toNat by omega, home_at now (enc v) i.toNat h.same, enc_get h.bal i.toNat (by omega), dec_eB _ (by omega)] at this
theorem total_view (base x p d : Nat) (now bas : List Blk) (log : List (Nat × Blk)) (v : List Nat) (w : World) (h : View base w x p d now bas log v) :
    Calls Try.prog 32 #[.pointer (some ⟨x, 0, none⟩)] w fun e w' => e = .returned (.int .i64 v.sum) ∧ w.grownBy w' none := by
  have := total_calls base x p d now bas log w h.bank h.pair h.disk
  have hb := h.bal.sum
  rwa [show (7 : Nat) = 3 + 4 from rfl, home_at now (enc v) 4 h.same, enc_total h.bal, dec_eB _ (by omega)] at this

set_option maxHeartbeats 800000 in
/-- SameBalance, in range. -/
theorem sameBalance_in (base x p d m : Nat) (now bas : List Blk) (log : List (Nat × Blk)) (v u : List Nat) (i : Int) (w : World) (h : View base w x p d now bas log v) (hM : ModAt w m u) (h0 : 0 ≤ i) (h4 : i < 4) :
    Calls Try.prog 21 #[.pointer (some ⟨x, 0, none⟩), .pointer (some ⟨m, 0, none⟩), .int .i64 i] w fun e w' => e = .returned (.bool (v.getD i.toNat 0 == u.getD i.toNat 0)) ∧ w.grownBy w' none := by
  have HB := balance_view base x p d now bas log v i w h h0 h4
  have HM : Hid (∀ w', w.grownBy w' none → Calls Try.prog 31 #[.pointer (some ⟨m, 0, none⟩), .int .i64 i] w' fun e w'' => e = .returned (.tuple #[.int .i64 (u.getD i.toNat 0), .int .i64 0]) ∧ w'' = w') := fun w' g => mbalance_in m u i w' (hM.ext g (by simp)) h0 h4
  generalize v.getD i.toNat 0 = a at *
  generalize u.getD i.toNat 0 = b at *
  clear h hM
  by_cases hab : a = b
  · subst hab
    go_enter Try.func21, Try.ntmps21
    go_wp2_with fail
    refine HB.mono ?_
    clear HB
    rintro e w1 ⟨rfl, g1⟩
    go_wp2_with fail
    refine (HM.out _ g1).mono ?_
    rintro e w2 ⟨rfl, hw2⟩
    subst hw2
    go_wp2
    go_ret
    exact ⟨by simp, g1⟩
  · have hb : ((a : Int) == (b : Int)) = false := by rw [beq_eq_false_iff_ne]; omega
    have hb2 : (a == b) = false := by rw [beq_eq_false_iff_ne]; exact hab
    rw [hb2]
    clear hab hb2
    go_enter Try.func21, Try.ntmps21
    go_wp2_with fail
    refine HB.mono ?_
    clear HB
    rintro e w1 ⟨rfl, g1⟩
    go_wp2_with fail
    refine (HM.out _ g1).mono ?_
    rintro e w2 ⟨rfl, hw2⟩
    subst hw2
    go_wp2
    go_ret
    exact ⟨by simp, g1⟩
theorem sameBalance_out (x m : Nat) (i : Int) (w : World) (h : i < 0 ∨ 4 ≤ i) :
    Calls Try.prog 21 #[.pointer (some ⟨x, 0, none⟩), .pointer (some ⟨m, 0, none⟩), .int .i64 i] w fun e w' => e = .returned (.bool true) ∧ w.grownBy w' none := by
  have HB := balance_out x i w h
  have HM : Hid (∀ w', Calls Try.prog 31 #[.pointer (some ⟨m, 0, none⟩), .int .i64 i] w' fun e w'' => e = .returned (.tuple #[.int .i64 0, .int .i64 1]) ∧ w'' = w') := fun w' => mbalance_out m i w' h
  clear h
  go_enter Try.func21, Try.ntmps21
  go_wp2_with fail
  refine HB.mono ?_
  clear HB
  rintro e w1 ⟨rfl, g1⟩
  go_wp2_with fail
  refine (HM.out _).mono ?_
  rintro e w2 ⟨rfl, hw2⟩
  subst hw2
  go_wp2
  go_ret
  exact ⟨by simp, g1⟩

set_option maxHeartbeats 800000 in
/-- SameTotal. -/
theorem sameTotal_calls (base x p d m : Nat) (now bas : List Blk) (log : List (Nat × Blk)) (v u : List Nat) (w : World) (h : View base w x p d now bas log v) (hM : ModAt w m u) :
    Calls Try.prog 22 #[.pointer (some ⟨x, 0, none⟩), .pointer (some ⟨m, 0, none⟩)] w fun e w' => e = .returned (.bool (((v.sum : Nat) : Int) == ((u.sum : Nat) : Int))) ∧ w.grownBy w' none := by
  have HB := total_view base x p d now bas log v w h
  have HM : Hid (∀ w', w.grownBy w' none → Calls Try.prog 33 #[.pointer (some ⟨m, 0, none⟩)] w' fun e w'' => e = .returned (.int .i64 u.sum) ∧ w'' = w') := fun w' g => mtotal_calls m u w' (hM.ext g (by simp))
  generalize v.sum = a at *
  generalize u.sum = b at *
  clear h hM
  go_enter Try.func22, Try.ntmps22
  go_wp2_with fail
  refine HB.mono ?_
  clear HB
  rintro e w1 ⟨rfl, g1⟩
  go_wp2_with fail
  refine (HM.out _ g1).mono ?_
  rintro e w2 ⟨rfl, hw2⟩
  subst hw2
  go_wp2
  go_ret
  exact ⟨rfl, g1⟩

/-- What Alike answers. -/
def alike (v u : List Nat) : Bool := decide (v = u)
theorem alike_iff (v u : List Nat) : alike v u = true ↔ v = u := by unfold alike; rw [decide_eq_true_eq]
theorem alike_of {v u : List Nat} (hv : Bal v) (hu : Bal u) (h : ∀ a, a < 4 → v.getD a 0 = u.getD a 0) : alike v u = true := by
  rw [alike_iff]
  apply List.ext_getElem
  · rw [hv.1, hu.1]
  · intro a h1 h2
    have := h a (by rw [hv.1] at h1; exact h1)
    simpa [List.getD, List.getElem?_eq_getElem h1, List.getElem?_eq_getElem h2] using this
theorem alike_not {v u : List Nat} {a : Nat} (h : v.getD a 0 ≠ u.getD a 0) : alike v u = false := by
  unfold alike
  rw [decide_eq_false_iff_not]
  intro e
  exact h (by rw [e])

set_option maxHeartbeats 800000 in
/-- Alike. -/
theorem alike_calls (base x p d m : Nat) (now bas : List Blk) (log : List (Nat × Blk)) (v u : List Nat) (w : World) (h : View base w x p d now bas log v) (hM : ModAt w m u) :
    Calls Try.prog 13 #[.pointer (some ⟨x, 0, none⟩), .pointer (some ⟨m, 0, none⟩)] w fun e w' => e = .returned (.bool (alike v u)) ∧ w.grownBy w' none := by
  have HS : Hid (∀ (k : Nat) w', k < 4 → w.grownBy w' none → Calls Try.prog 21 #[.pointer (some ⟨x, 0, none⟩), .pointer (some ⟨m, 0, none⟩), .int .i64 k] w' fun e w'' => e = .returned (.bool (v.getD k 0 == u.getD k 0)) ∧ w'.grownBy w'' none) := by
    intro k w' hk hg
    have := sameBalance_in base x p d m now bas log v u k w' (h.ext hg) (hM.ext hg (by simp)) (by omega) (by omega)
    rwa [Int.toNat_natCast] at this
  have HT : Hid (∀ w', alike v u = true → w.grownBy w' none → Calls Try.prog 22 #[.pointer (some ⟨x, 0, none⟩), .pointer (some ⟨m, 0, none⟩)] w' fun e w'' => e = .returned (.bool true) ∧ w'.grownBy w'' none) := by
    intro w' he hg
    have := sameTotal_calls base x p d m now bas log v u w' (h.ext hg) (hM.ext hg (by simp))
    rw [(alike_iff v u).1 he] at this
    simpa using this
  have HY : Hid ((∀ a, a < 4 → v.getD a 0 = u.getD a 0) → alike v u = true) := alike_of h.bal hM.2
  have HN : Hid (∀ a, a < 4 → v.getD a 0 ≠ u.getD a 0 → alike v u = false) := fun _ _ h => alike_not h
  clear h hM
  generalize alike v u = r at *
  go_enter Try.func13, Try.ntmps13
  go_wp2
  go_loopw [5] (fun i wr => ∃ k : Nat, k ≤ 4 ∧ i = .int .i64 k ∧ Hid (∀ a, a < k → v.getD a 0 = u.getD a 0) ∧ w.grownBy wr none) (fun i _ => 4 - (intOf i).toNat)
  case atStart => exact ⟨0, by omega, rfl, fun a ha => absurd ha (by omega), g_refl _ _⟩
  case round =>
    obtain ⟨k, hk, rfl, hs, hg⟩ := hrel
    by_cases hlt : k < 4
    · have hc := HS.out k wr hlt hg
      by_cases hb : v.getD k 0 = u.getD k 0
      · have HC : Hid (Calls Try.prog 21 #[.pointer (some ⟨x, 0, none⟩), .pointer (some ⟨m, 0, none⟩), .int .i64 k] wr fun e w'' => e = .returned (.bool true) ∧ wr.grownBy w'' none) := by
          rw [hb] at hc; unfold Hid; simpa using hc
        have HB : Hid (v.getD k 0 = u.getD k 0) := hb
        clear hc hb
        go_wp2_with fail
        refine HC.out.mono ?_
        rintro e w1 ⟨rfl, hg1⟩
        go_wp2
        refine ⟨⟨k + 1, by omega, by go_num, ?_, g_trans hg hg1⟩, by simp [intOf]; omega⟩
        intro a ha
        rcases Nat.lt_succ_iff_lt_or_eq.1 ha with h | rfl
        · exact hs.out a h
        · exact HB.out
      · have HC : Hid (Calls Try.prog 21 #[.pointer (some ⟨x, 0, none⟩), .pointer (some ⟨m, 0, none⟩), .int .i64 k] wr fun e w'' => e = .returned (.bool false) ∧ wr.grownBy w'' none) := by
          rw [beq_eq_false_iff_ne.2 hb] at hc; exact hc
        have hr := HN.out k hlt hb
        clear hc hb HN HY HT
        subst hr
        go_wp2_with fail
        refine HC.out.mono ?_
        rintro e w1 ⟨rfl, hg1⟩
        go_wp2
        go_ret
        exact ⟨rfl, g_trans hg hg1⟩
    · have hr := HY.out (fun a ha => hs.out a (by omega))
      have HC := HT.out wr hr hg
      clear HN HY HT
      subst hr
      have HC' : Hid (Calls Try.prog 22 #[.pointer (some ⟨x, 0, none⟩), .pointer (some ⟨m, 0, none⟩)] wr fun e w'' => e = .returned (.bool true) ∧ wr.grownBy w'' none) := HC
      clear HC
      go_wp2_with fail
      refine HC'.out.mono ?_
      rintro e w1 ⟨rfl, hg1⟩
      go_wp2
      go_ret
      exact ⟨rfl, g_trans hg hg1⟩
end Go.Proofs.Qxb6500337a
