/-
  Walks: Play.
-/
import Derived.Test.Qxb6500337aB7
namespace Go.Proofs.Qxb6500337a
open Go.RowKit

/-- An op as a value. -/
abbrev opv (k a b c : Int) (s t : ByteArray) : Value := .agg #[.int .i64 k, .int .i64 a, .int .i64 b, .int .i64 c, .string s, .string t]

/-- What one op that is no cut leaves. -/
def PlayPost (d m : Nat) (now : List Blk) (bal : List Nat) (w : World) (e : Ending) (w' : World) : Prop :=
  e = .returned (.bool true) ∧ ∃ now' log bal', DiskAt w.heap.size w' d now' now log ∧ ModAt w' m bal' ∧ Kept2 d m w w' ∧ Inv now' now log (enc bal') (enc bal) ∧ log.length < 100

/-- What stands ahead of an op. -/
structure Ready (w : World) (x p d m : Nat) (now : List Blk) (bal : List Nat) : Prop where
  shows' : Shows w x p d now now bal
  mod : ModAt w m bal
  idle : full (now.getD 0 zB) = false
theorem Ready.ext {w w' : World} {x p d m : Nat} {now : List Blk} {bal : List Nat} (h : Ready w x p d m now bal) (g : w.grownBy w' none) : Ready w' x p d m now bal :=
  ⟨h.shows'.ext g, h.mod.ext g (by simp), h.idle⟩

theorem Ready.still {w w' : World} {x p d m : Nat} {now : List Blk} {bal : List Nat} (h : Ready w x p d m now bal) (g : w.grownBy w' none) : PlayPost d m now bal w (.returned (.bool true)) w' :=
  ⟨rfl, now, [], bal, (h.shows'.disk.ext g (by simp)).at _, h.mod.ext g (by simp), Kept2.none g, inv_mark now (enc bal) h.shows'.disk.2.1 h.idle h.shows'.same, by simp⟩

theorem PlayPost.pre {d m : Nat} {now : List Blk} {bal : List Nat} {w w1 w' : World} {e : Ending} (g : w.grownBy w1 none) (h : PlayPost d m now bal w1 e w') : PlayPost d m now bal w e w' := by
  obtain ⟨he, now', log, bal', h1, h2, h3, h4, h5⟩ := h
  exact ⟨he, now', log, bal', h1.mono g.size, h2, (Kept2.none g).trans h3, h4, h5⟩

/-- Deposit on both sides. -/
theorem dep_post (x p d m : Nat) (now : List Blk) (bal : List Nat) (a n : Int) (w : World) (hR : Ready w x p d m now bal) :
    Calls Try.prog 24 #[.pointer (some ⟨x, 0, none⟩), .pointer (some ⟨m, 0, none⟩), .int .i64 a, .int .i64 n] w (PlayPost d m now bal w) := by
  have hS := hR.shows'
  have still : ∀ c, (∀ w', w.grownBy w' none → Calls Try.prog 34 #[.pointer (some ⟨x, 0, none⟩), .int .i64 a, .int .i64 n] w' fun e w'' => e = .returned (.int .i64 c) ∧ w'.grownBy w'' none) →
      (∀ w', w.grownBy w' none → Calls Try.prog 35 #[.pointer (some ⟨m, 0, none⟩), .int .i64 a, .int .i64 n] w' fun e w'' => e = .returned (.int .i64 c) ∧ w'.grownBy w'' none) →
      Calls Try.prog 24 #[.pointer (some ⟨x, 0, none⟩), .pointer (some ⟨m, 0, none⟩), .int .i64 a, .int .i64 n] w (PlayPost d m now bal w) := by
    intro c h1 h2
    exact (sameDep_bad x m a n c w (h1 w (g_refl _ _)) h2).mono fun e w' ⟨he, g⟩ => by rw [he]; exact hR.still g
  by_cases ha : a < 0 ∨ 4 ≤ a
  · exact still 1 (fun w' _ => dep_bad1 x a n w' ha) (fun w' _ => mdep_bad1 m a n w' ha)
  · obtain ⟨a', rfl⟩ := Int.eq_ofNat_of_zero_le (show 0 ≤ a by omega)
    by_cases hn : n ≤ 0
    · exact still 3 (fun w' _ => dep_bad2 x a' n w' (by omega) (by omega) hn) (fun w' _ => mdep_bad2 m a' n w' (by omega) (by omega) hn)
    · obtain ⟨n', rfl⟩ := Int.eq_ofNat_of_zero_le (show 0 ≤ n by omega)
      by_cases hf : bal.getD a' 0 + n' ≤ 1000
      · refine (sameDep_ok x p d m now now _ _ bal (bal.set a' (bal.getD a' 0 + n')) a' n' w hS hR.mod (dep_ok x p d now now bal a' n' w hS (by omega) (by omega) hf) (fun w' h => mdep_ok m bal a' n' w' h (by omega) (by omega) hf)).mono ?_
        rintro e w' ⟨rfl, hD, hM, k⟩
        refine ⟨rfl, _, _, _, hD, hM, k, ?_, by simp [putW]⟩
        have := inv_put now (enc bal) a' 4 (eB (bal.getD a' 0 + n')) (eB (bal.sum + n')) hS.disk.2.1 hR.idle hS.same (by omega) (by omega) (by omega)
        rwa [enc_dep hS.bal a' n' (by omega)] at this
      · exact still 5 (fun w' g => dep_bad3 x p d now now bal a' n' w' (hS.ext g) (by omega) (by omega) (by omega)) (fun w' g => mdep_bad3 m bal a' n' w' (hR.mod.ext g (by simp)) (by omega) (by omega) (by omega) (by rw [Int.toNat_natCast]; omega))

/-- Transfer on both sides. -/
theorem tra_post (x p d m : Nat) (now : List Blk) (bal : List Nat) (f t n : Int) (w : World) (hR : Ready w x p d m now bal) :
    Calls Try.prog 25 #[.pointer (some ⟨x, 0, none⟩), .pointer (some ⟨m, 0, none⟩), .int .i64 f, .int .i64 t, .int .i64 n] w (PlayPost d m now bal w) := by
  have hS := hR.shows'
  have still : ∀ c, (∀ w', w.grownBy w' none → Calls Try.prog 36 #[.pointer (some ⟨x, 0, none⟩), .int .i64 f, .int .i64 t, .int .i64 n] w' fun e w'' => e = .returned (.int .i64 c) ∧ w'.grownBy w'' none) →
      (∀ w', w.grownBy w' none → Calls Try.prog 37 #[.pointer (some ⟨m, 0, none⟩), .int .i64 f, .int .i64 t, .int .i64 n] w' fun e w'' => e = .returned (.int .i64 c) ∧ w'.grownBy w'' none) →
      Calls Try.prog 25 #[.pointer (some ⟨x, 0, none⟩), .pointer (some ⟨m, 0, none⟩), .int .i64 f, .int .i64 t, .int .i64 n] w (PlayPost d m now bal w) := by
    intro c h1 h2
    exact (sameTra_bad x m f t n c w (h1 w (g_refl _ _)) h2).mono fun e w' ⟨he, g⟩ => by rw [he]; exact hR.still g
  by_cases hf1 : f < 0
  · exact still 1 (fun w' _ => tra_bad1a x f t n w' hf1) (fun w' _ => mtra_bad1a m f t n w' hf1)
  by_cases hf2 : 4 ≤ f
  · exact still 1 (fun w' _ => tra_bad1b x f t n w' hf2) (fun w' _ => mtra_bad1b m f t n w' hf2)
  by_cases ht1 : t < 0
  · exact still 1 (fun w' _ => tra_bad2a x f t n w' (by omega) (by omega) ht1) (fun w' _ => mtra_bad2a m f t n w' (by omega) (by omega) ht1)
  by_cases ht2 : 4 ≤ t
  · exact still 1 (fun w' _ => tra_bad2b x f t n w' (by omega) (by omega) ht2) (fun w' _ => mtra_bad2b m f t n w' (by omega) (by omega) ht2)
  by_cases hft : f = t
  · subst hft
    exact still 2 (fun w' _ => tra_bad3 x f n w' (by omega) (by omega)) (fun w' _ => mtra_bad3 m f n w' (by omega) (by omega))
  have hne : (f == t) = false := by rw [beq_eq_false_iff_ne]; exact hft
  by_cases hn : n ≤ 0
  · exact still 3 (fun w' _ => tra_bad4 x f t n w' (by omega) (by omega) (by omega) (by omega) hne hn) (fun w' _ => mtra_bad4 m f t n w' (by omega) (by omega) (by omega) (by omega) hne hn)
  obtain ⟨f', rfl⟩ := Int.eq_ofNat_of_zero_le (show 0 ≤ f by omega)
  obtain ⟨t', rfl⟩ := Int.eq_ofNat_of_zero_le (show 0 ≤ t by omega)
  obtain ⟨n', rfl⟩ := Int.eq_ofNat_of_zero_le (show 0 ≤ n by omega)
  by_cases hfu : n' ≤ bal.getD f' 0
  · by_cases hto : bal.getD t' 0 + n' ≤ 1000
    · refine (sameTra_ok x p d m now now _ _ bal ((bal.set f' (bal.getD f' 0 - n')).set t' (bal.getD t' 0 + n')) f' t' n' w hS hR.mod (tra_ok x p d now now bal f' t' n' w hS (by omega) (by omega) (by omega) (by omega) hfu hto)
        (fun w' h => mtra_ok m bal f' t' n' w' h (by omega) (by omega) (by omega) (by omega) hfu hto)).mono ?_
      rintro e w' ⟨rfl, hD, hM, k⟩
      refine ⟨rfl, _, _, _, hD, hM, k, ?_, by simp [putW]⟩
      have := inv_put now (enc bal) f' t' (eB (bal.getD f' 0 - n')) (eB (bal.getD t' 0 + n')) hS.disk.2.1 hR.idle hS.same (by omega) (by omega) (by omega)
      rwa [enc_tra hS.bal f' t' n' (by omega) (by omega) (by omega) hfu] at this
    · exact still 5 (fun w' g => tra_bad6 x p d now now bal f' t' n' w' (hS.ext g) (by omega) (by omega) (by omega) (by omega) (by omega) (by omega))
        (fun w' g => mtra_bad6 m bal f' t' n' w' (hR.mod.ext g (by simp)) (by omega) (by omega) (by omega) (by omega) hne (by omega) (by rw [Int.toNat_natCast]; omega) (by rw [Int.toNat_natCast]; omega))
  · exact still 4 (fun w' g => tra_bad5 x p d now now bal f' t' n' w' (hS.ext g) (by omega) (by omega) (by omega) (by omega) (by omega))
      (fun w' g => mtra_bad5 m bal f' t' n' w' (hR.mod.ext g (by simp)) (by omega) (by omega) (by omega) (by omega) hne (by omega) (by rw [Int.toNat_natCast]; omega))

theorem bal_post (x p d m : Nat) (now : List Blk) (bal : List Nat) (a : Int) (w : World) (hR : Ready w x p d m now bal) :
    Calls Try.prog 21 #[.pointer (some ⟨x, 0, none⟩), .pointer (some ⟨m, 0, none⟩), .int .i64 a] w (PlayPost d m now bal w) := by
  by_cases h : 0 ≤ a ∧ a < 4
  · refine (sameBalance_in 0 x p d m now now [] bal bal a w (hR.shows'.view 0) hR.mod h.1 h.2).mono ?_
    rintro e w' ⟨rfl, g⟩
    rw [beq_self_eq_true]
    exact hR.still g
  · refine (sameBalance_out x m a w (by omega)).mono ?_
    rintro e w' ⟨rfl, g⟩
    exact hR.still g
theorem tot_post (x p d m : Nat) (now : List Blk) (bal : List Nat) (w : World) (hR : Ready w x p d m now bal) :
    Calls Try.prog 22 #[.pointer (some ⟨x, 0, none⟩), .pointer (some ⟨m, 0, none⟩)] w (PlayPost d m now bal w) := by
  refine (sameTotal_calls 0 x p d m now now [] bal bal w (hR.shows'.view 0) hR.mod).mono ?_
  rintro e w' ⟨rfl, g⟩
  rw [beq_self_eq_true]
  exact hR.still g

/-- Play. -/
theorem play_calls (x p d m : Nat) (now : List Blk) (bal : List Nat) (k a b c : Int) (s t : ByteArray) (w : World) (hR : Ready w x p d m now bal) :
    Calls Try.prog 15 #[.pointer (some ⟨x, 0, none⟩), .pointer (some ⟨m, 0, none⟩), opv k a b c s t] w (PlayPost d m now bal w) := by
  have hg : w.grownBy (w.alloc (.cells #[.int .i64 k, .int .i64 a, .int .i64 b, .int .i64 c, .string s, .string t] 39)) none := g_alloc (g_refl _ _) _
  have hR1 := hR.ext hg
  by_cases h1 : k = 1
  · subst h1
    have HC := dep_post x p d m now bal a b _ hR1
    clear hR1 hR
    go_enter Try.func15, Try.ntmps15
    go_wp2_with fail
    refine HC.mono ?_
    intro e w1 hp
    have hp' := hp.pre hg
    obtain ⟨rfl, -⟩ := hp
    go_wp2
    go_ret
    exact hp'
  by_cases h2 : k = 2
  · subst h2
    have HC := tra_post x p d m now bal a b c _ hR1
    clear hR1 hR
    go_enter Try.func15, Try.ntmps15
    go_wp2_with fail
    refine HC.mono ?_
    intro e w1 hp
    have hp' := hp.pre hg
    obtain ⟨rfl, -⟩ := hp
    go_wp2
    go_ret
    exact hp'
  by_cases h3 : k = 3
  · subst h3
    have HC := bal_post x p d m now bal a _ hR1
    clear hR1 hR
    go_enter Try.func15, Try.ntmps15
    go_wp2_with fail
    refine HC.mono ?_
    intro e w1 hp
    have hp' := hp.pre hg
    obtain ⟨rfl, -⟩ := hp
    go_wp2
    go_ret
    exact hp'
  by_cases h4 : k = 4
  · subst h4
    have HC := tot_post x p d m now bal _ hR1
    clear hR1 hR
    go_enter Try.func15, Try.ntmps15
    go_wp2_with fail
    refine HC.mono ?_
    intro e w1 hp
    have hp' := hp.pre hg
    obtain ⟨rfl, -⟩ := hp
    go_wp2
    go_ret
    exact hp'
  have e1 : (k == 1) = false := by rw [beq_eq_false_iff_ne]; exact h1
  have e2 : (k == 2) = false := by rw [beq_eq_false_iff_ne]; exact h2
  have e3 : (k == 3) = false := by rw [beq_eq_false_iff_ne]; exact h3
  have e4 : (k == 4) = false := by rw [beq_eq_false_iff_ne]; exact h4
  clear h1 h2 h3 h4
  have hp' := hR.still hg
  clear hR1 hR
  go_enter Try.func15, Try.ntmps15
  go_wp2
  go_ret
  exact hp'
end Go.Proofs.Qxb6500337a
