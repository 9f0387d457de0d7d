/-
  Walks: Alike; Ground, Steps, Mark of the law.
-/
import Derived.Test.Qxb6500338aW6
namespace Go.Proofs.Qxb6500338a
open Go.RowKit

/-- What Alike answers. -/
def alike (now m : List Blk) : Bool := decide (homes now = m)

theorem alike_of {now m : List Blk} (h1 : now.length = 8) (h2 : m.length = 5) (h : ∀ a, a < 5 → now.getD (3 + a) zB = m.getD a zB) : alike now m = true := by
  unfold alike
  rw [decide_eq_true_eq]
  apply List.ext_getElem
  · simp [homes, h1, h2]
  · intro a ha hb
    have := h a (by omega)
    simp only [homes, List.getElem_drop]
    simpa [List.getD, List.getElem?_eq_getElem (show 3 + a < now.length by omega), List.getElem?_eq_getElem hb] using this
theorem alike_not {now m : List Blk} {a : Nat} (h : now.getD (3 + a) zB ≠ m.getD a zB) : alike now m = false := by
  unfold alike
  rw [decide_eq_false_iff_not]
  intro e
  apply h
  subst e
  simp [homes, List.getD]

set_option maxHeartbeats 800000 in
/-- Alike. -/
theorem alike_calls (base p d m : Nat) (now bas mnow : List Blk) (log : List (Nat × Blk)) (w : World) (hP : PairAt w p d) (hD : DiskAt base w d now bas log) (hM : ModAt w m mnow) :
    Calls Try.prog 13 #[.pointer (some ⟨p, 0, none⟩), .pointer (some ⟨m, 0, none⟩)] w fun e w' => e = .returned (.bool (alike now mnow)) ∧ w.grownBy w' none := by
  have h1 : now.length = 8 := by obtain ⟨_, _, _, h, _⟩ := hD; exact h
  have h2 : mnow.length = 5 := by obtain ⟨_, _, _, h, _⟩ := hM; exact h
  have HS : Hid (∀ (k : Nat) w', k < 5 → w.grownBy w' none → Calls Try.prog 24 #[.pointer (some ⟨p, 0, none⟩), .pointer (some ⟨m, 0, none⟩), .int .i64 k] w' fun e w'' => e = .returned (.bool (now.getD (3 + k) zB == mnow.getD k zB)) ∧ w'.grownBy w'' none) := by
    intro k w' hk hg
    have := sameGet_in base p d m now bas mnow log k w' (At.ext hP hg) (hD.ext hg) (hM.ext hg (by simp)) (by omega) (by omega)
    rwa [show (3 + (k : Int)).toNat = 3 + k by omega, Int.toNat_natCast] at this
  have HY : Hid ((∀ a, a < 5 → now.getD (3 + a) zB = mnow.getD a zB) → alike now mnow = true) := alike_of h1 h2
  have HN : Hid (∀ a, a < 5 → now.getD (3 + a) zB ≠ mnow.getD a zB → alike now mnow = false) := fun _ _ h => alike_not h
  clear hP hD hM h1 h2
  generalize alike now mnow = r at *
  go_enter Try.func13, Try.ntmps13
  go_wp2
  go_loopw [5] (fun i wr => ∃ k : Nat, k ≤ 5 ∧ i = .int .i64 k ∧ Hid (∀ a, a < k → now.getD (3 + a) zB = mnow.getD a zB) ∧ w.grownBy wr none) (fun i _ => 5 - (intOf i).toNat)
  case atStart => exact ⟨0, by omega, rfl, fun a ha => absurd ha (by omega), g_refl _ _⟩
  case round =>
    obtain ⟨k, hk, rfl, hs, hg⟩ := hrel
    by_cases hlt : k < 5
    · have hc := HS.out k wr hlt hg
      by_cases hb : now.getD (3 + k) zB = mnow.getD k zB
      · have HC : Hid (Calls Try.prog 24 #[.pointer (some ⟨p, 0, none⟩), .pointer (some ⟨m, 0, none⟩), .int .i64 k] wr fun e w'' => e = .returned (.bool true) ∧ wr.grownBy w'' none) := by
          rw [hb] at hc; unfold Hid; simpa using hc
        have HB : Hid (now.getD (3 + k) zB = mnow.getD k zB) := hb
        clear hc hb
        go_wp2_with fail
        refine HC.out.mono ?_
        rintro e w1 ⟨rfl, hg1⟩
        go_wp2
        refine ⟨⟨k + 1, by omega, by go_num, ?_, g_trans hg hg1⟩, by simp [intOf]; omega⟩
        intro a ha
        rcases Nat.lt_succ_iff_lt_or_eq.1 ha with h | rfl
        · exact hs.out a h
        · exact HB.out
      · have HC : Hid (Calls Try.prog 24 #[.pointer (some ⟨p, 0, none⟩), .pointer (some ⟨m, 0, none⟩), .int .i64 k] wr fun e w'' => e = .returned (.bool false) ∧ wr.grownBy w'' none) := by
          rw [beq_eq_false_iff_ne.2 hb] at hc; exact hc
        have hr := HN.out k hlt hb
        clear hc hb HN HY
        subst hr
        go_wp2_with fail
        refine HC.out.mono ?_
        rintro e w1 ⟨rfl, hg1⟩
        go_wp2
        go_ret
        exact ⟨rfl, g_trans hg hg1⟩
    · go_wp2
      go_ret
      exact ⟨by rw [HY.out (fun a ha => hs.out a (by omega))]; rfl, hg⟩
end Go.Proofs.Qxb6500338a
