/-
  Walks: Play.
-/
import Derived.Test.Qxb6500338aW14
import Derived.Deep.RegionWith
namespace Go.Proofs.Qxb6500338a
open Go.RowKit

/-- An op as a value. -/
abbrev opv (k a b c : Int) (s t : ByteArray) : Value := .agg #[.int .i64 k, .int .i64 a, .int .i64 b, .int .i64 c, .string s, .string t]

/-- What one op that is no cut leaves. -/
def PlayPost (d m : Nat) (now mnow : List Blk) (w : World) (e : Ending) (w' : World) : Prop :=
  e = .returned (.bool true) ∧ ∃ now' log mnow', DiskAt w.heap.size w' d now' now log ∧ ModAt w' m mnow' ∧ Kept2 d m w w' ∧ Inv now' now log mnow' mnow ∧ log.length < 100

/-- What stands ahead of an op. -/
structure Ready (w : World) (p d m : Nat) (now mnow : List Blk) : Prop where
  pair : PairAt w p d
  disk : DiskNil w d now now
  mod : ModNil w m mnow
  idle : full (now.getD 0 zB) = false
  same : homes now = mnow

theorem Ready.still {w w' : World} {p d m : Nat} {now mnow : List Blk} (h : Ready w p d m now mnow) (g : w.grownBy w' none) : PlayPost d m now mnow w (.returned (.bool true)) w' :=
  ⟨rfl, now, [], mnow, (h.disk.ext g (by simp)).at _, (h.mod.ext g (by simp)).any, Kept2.none g, inv_mark now mnow h.disk.2.1 h.idle h.same, by simp⟩

/-- A Kind that does nothing. -/
theorem play_none (p d m : Nat) (now mnow : List Blk) (k a b c : Int) (s t : ByteArray) (w : World) (hR : Ready w p d m now mnow) (h1 : (k == 1) = false) (h2 : (k == 2) = false) :
    Calls Try.prog 16 #[.pointer (some ⟨p, 0, none⟩), .pointer (some ⟨m, 0, none⟩), opv k a b c s t] w (PlayPost d m now mnow w) := by
  go_enter Try.func16, Try.ntmps16
  go_wp2
  go_ret
  exact hR.still (g_alloc (g_refl _ _) _)

theorem home_get (now mnow : List Blk) (i : Int) (h : homes now = mnow) (h0 : 0 ≤ i) : (now.getD (3 + i).toNat zB == mnow.getD i.toNat zB) = true := by
  subst h
  rw [beq_iff_eq]
  simp [homes, List.getD, show (3 + i).toNat = 3 + i.toNat by omega]

set_option maxHeartbeats 800000 in
/-- Get. -/
theorem play_get (p d m : Nat) (now mnow : List Blk) (a b c : Int) (s t : ByteArray) (w : World) (hR : Ready w p d m now mnow) :
    Calls Try.prog 16 #[.pointer (some ⟨p, 0, none⟩), .pointer (some ⟨m, 0, none⟩), opv 2 a b c s t] w (PlayPost d m now mnow w) := by
  have HG : Hid (∀ w', w.grownBy w' none → Calls Try.prog 24 #[.pointer (some ⟨p, 0, none⟩), .pointer (some ⟨m, 0, none⟩), .int .i64 a] w' fun e w'' => e = .returned (.bool true) ∧ w'.grownBy w'' none) := by
    intro w' g
    by_cases h : 0 ≤ a ∧ a < 5
    · have := sameGet_in 0 p d m now now mnow [] a w' (At.ext hR.pair g) ((hR.disk.ext g (by simp)).at 0) (hR.mod.ext g (by simp)).any h.1 h.2
      rwa [home_get now mnow a hR.same h.1] at this
    · exact sameGet_out p m a w' (by omega)
  go_enter Try.func16, Try.ntmps16
  go_wp2_with fail
  refine (HG.out _ (g_alloc (g_refl _ _) _)).mono ?_
  rintro e w1 ⟨rfl, hg1⟩
  go_wp2
  go_ret
  exact hR.still (g_trans (g_alloc (g_refl _ _) _) hg1)

set_option maxHeartbeats 1600000 in
/-- A Put that both sides refuse. -/
theorem play_bad (p d m : Nat) (now mnow : List Blk) (a b c : Int) (s t : ByteArray) (w : World) (hR : Ready w p d m now mnow) (hs : s.size ≤ maxLen) (ht : t.size ≤ maxLen)
    (hb : ∀ x y w', Calls Try.prog 26 #[.pointer (some ⟨p, 0, none⟩), .pointer (some ⟨m, 0, none⟩), .int .i64 a, bv x, .int .i64 b, bv y] w' fun e w'' => e = .returned (.bool true) ∧ w'.grownBy w'' none) :
    Calls Try.prog 16 #[.pointer (some ⟨p, 0, none⟩), .pointer (some ⟨m, 0, none⟩), opv 1 a b c s t] w (PlayPost d m now mnow w) := by
  have HB : Hid (∀ x y w', Calls Try.prog 26 #[.pointer (some ⟨p, 0, none⟩), .pointer (some ⟨m, 0, none⟩), .int .i64 a, bv x, .int .i64 b, bv y] w' fun e w'' => e = .returned (.bool true) ∧ w'.grownBy w'' none) := hb
  clear hb
  go_enter Try.func16, Try.ntmps16
  go_wp2
  have hO : At (w.alloc (.cells #[.int .i64 1, .int .i64 a, .int .i64 b, .int .i64 c, .string s, .string t] 38)) w.heap.size 38 #[.int .i64 1, .int .i64 a, .int .i64 b, .int .i64 c, .string s, .string t] := At.new _ _ _
  have hg0 : w.grownBy (w.alloc (.cells #[.int .i64 1, .int .i64 a, .int .i64 b, .int .i64 c, .string s, .string t] 38)) none := g_alloc (g_refl _ _) _
  generalize (w.alloc (.cells #[.int .i64 1, .int .i64 a, .int .i64 b, .int .i64 c, .string s, .string t] 38)) = w0 at *
  have a0 : w0.cell? ⟨w.heap.size, 1, none⟩ = some (.int .i64 a) := hO.cell 1
  have b0 : w0.cell? ⟨w.heap.size, 2, none⟩ = some (.int .i64 b) := hO.cell 2
  have s0 : w0.cell? ⟨w.heap.size, 4, none⟩ = some (.string s) := hO.cell 4
  have t0 : w0.cell? ⟨w.heap.size, 5, none⟩ = some (.string t) := hO.cell 5
  go_region_held3 (fun w' => w'.cell? ⟨w.heap.size, 1, none⟩ = some (.int .i64 a) ∧ w'.cell? ⟨w.heap.size, 2, none⟩ = some (.int .i64 b) ∧ w'.cell? ⟨w.heap.size, 4, none⟩ = some (.string s) ∧ w'.cell? ⟨w.heap.size, 5, none⟩ = some (.string t)) (go_keep)
    (first
      | (go_at_call_of 27 (Value.string s); refine (blockOf_calls s _ hs).mono ?_; rintro e w1 ⟨x, rfl, hg1⟩; have hO1 := (At.drew hO).ext hg1; have a1 : w1.cell? ⟨w.heap.size, 1, none⟩ = some (.int .i64 a) := hO1.cell 1; have b1 : w1.cell? ⟨w.heap.size, 2, none⟩ = some (.int .i64 b) := hO1.cell 2; have s1 : w1.cell? ⟨w.heap.size, 4, none⟩ = some (.string s) := hO1.cell 4; have t1 : w1.cell? ⟨w.heap.size, 5, none⟩ = some (.string t) := hO1.cell 5)
      | (go_at_call_of 27 (Value.string t); refine (blockOf_calls t _ ht).mono ?_; rintro e w2 ⟨y, rfl, hg2⟩; have hO2 := hO1.ext hg2; have a2 : w2.cell? ⟨w.heap.size, 1, none⟩ = some (.int .i64 a) := hO2.cell 1; have b2 : w2.cell? ⟨w.heap.size, 2, none⟩ = some (.int .i64 b) := hO2.cell 2; have s2 : w2.cell? ⟨w.heap.size, 4, none⟩ = some (.string s) := hO2.cell 4; have t2 : w2.cell? ⟨w.heap.size, 5, none⟩ = some (.string t) := hO2.cell 5)
      | (go_at_call 26; refine (HB.out x y _).mono ?_; rintro e w3 ⟨rfl, hg3⟩; have hO3 := hO2.ext hg3; have a3 : w3.cell? ⟨w.heap.size, 1, none⟩ = some (.int .i64 a) := hO3.cell 1; have b3 : w3.cell? ⟨w.heap.size, 2, none⟩ = some (.int .i64 b) := hO3.cell 2; have s3 : w3.cell? ⟨w.heap.size, 4, none⟩ = some (.string s) := hO3.cell 4; have t3 : w3.cell? ⟨w.heap.size, 5, none⟩ = some (.string t) := hO3.cell 5))
  go_wp2
  go_ret
  exact hR.still (g_trans (g_trans (g_trans (g_drew hg0) hg1) hg2) hg3)

set_option maxHeartbeats 1600000 in
/-- A Put that both sides do. -/
theorem play_ok (p d m : Nat) (now mnow : List Blk) (a b : Nat) (c : Int) (s t : ByteArray) (w : World) (hR : Ready w p d m now mnow) (hs : s.size ≤ maxLen) (ht : t.size ≤ maxLen)
    (ha5 : a < 5) (hb5 : b < 5) (hab : a ≠ b) :
    Calls Try.prog 16 #[.pointer (some ⟨p, 0, none⟩), .pointer (some ⟨m, 0, none⟩), opv 1 a b c s t] w (PlayPost d m now mnow w) := by
  have HB : Hid (∀ x y w', PairAt w' p d → DiskNil w' d now now → ModNil w' m mnow → Calls Try.prog 26 #[.pointer (some ⟨p, 0, none⟩), .pointer (some ⟨m, 0, none⟩), .int .i64 (a : Int), bv x, .int .i64 (b : Int), bv y] w' fun e w'' => e = .returned (.bool true) ∧
      DiskAt w'.heap.size w'' d (app now (putW a x b y)) now (putW a x b y) ∧ ModAt w'' m ((mnow.set a x).set b y) ∧ Kept2 d m w' w'') :=
    fun x y w' h1 h2 h3 => samePut_ok p d m now now mnow a b x y w' h1 h2 h3 ha5 hb5 hab
  have HI : Hid (∀ x y, Inv (app now (putW a x b y)) now (putW a x b y) ((mnow.set a x).set b y) mnow) := fun x y => inv_put now mnow a b x y hR.disk.2.1 hR.idle hR.same ha5 hb5 hab
  have hdl := hR.disk.1.lt
  have hml : m < w.heap.size := by obtain ⟨bas', h, _⟩ := hR.mod; exact h.lt
  have hOd : w.heap.size ≠ d := by omega
  have hOm : w.heap.size ≠ m := by omega
  clear ha5 hb5 hab
  go_enter Try.func16, Try.ntmps16
  go_wp2
  have hO : At (w.alloc (.cells #[.int .i64 1, .int .i64 a, .int .i64 b, .int .i64 c, .string s, .string t] 38)) w.heap.size 38 #[.int .i64 1, .int .i64 a, .int .i64 b, .int .i64 c, .string s, .string t] := At.new _ _ _
  have hg0 : w.grownBy (w.alloc (.cells #[.int .i64 1, .int .i64 a, .int .i64 b, .int .i64 c, .string s, .string t] 38)) none := g_alloc (g_refl _ _) _
  generalize (w.alloc (.cells #[.int .i64 1, .int .i64 a, .int .i64 b, .int .i64 c, .string s, .string t] 38)) = w0 at *
  have a0 : w0.cell? ⟨w.heap.size, 1, none⟩ = some (.int .i64 a) := hO.cell 1
  have b0 : w0.cell? ⟨w.heap.size, 2, none⟩ = some (.int .i64 b) := hO.cell 2
  have s0 : w0.cell? ⟨w.heap.size, 4, none⟩ = some (.string s) := hO.cell 4
  have t0 : w0.cell? ⟨w.heap.size, 5, none⟩ = some (.string t) := hO.cell 5
  have hP0 : PairAt w0.drew p d := At.ext hR.pair (g_drew hg0)
  have hD0 : DiskNil w0.drew d now now := hR.disk.ext (g_drew hg0) (by simp)
  have hM0 : ModNil w0.drew m mnow := hR.mod.ext (g_drew hg0) (by simp)
  clear hR
  go_region_held3 (fun w' => w'.cell? ⟨w.heap.size, 1, none⟩ = some (.int .i64 a) ∧ w'.cell? ⟨w.heap.size, 2, none⟩ = some (.int .i64 b) ∧ w'.cell? ⟨w.heap.size, 4, none⟩ = some (.string s) ∧ w'.cell? ⟨w.heap.size, 5, none⟩ = some (.string t)) (go_keep)
    (first
      | (go_at_call_of 27 (Value.string s); refine (blockOf_calls s _ hs).mono ?_; rintro e w1 ⟨x, rfl, hg1⟩; have hO1 := (At.drew hO).ext hg1; have a1 : w1.cell? ⟨w.heap.size, 1, none⟩ = some (.int .i64 a) := hO1.cell 1; have b1 : w1.cell? ⟨w.heap.size, 2, none⟩ = some (.int .i64 b) := hO1.cell 2; have s1 : w1.cell? ⟨w.heap.size, 4, none⟩ = some (.string s) := hO1.cell 4; have t1 : w1.cell? ⟨w.heap.size, 5, none⟩ = some (.string t) := hO1.cell 5)
      | (go_at_call_of 27 (Value.string t); refine (blockOf_calls t _ ht).mono ?_; rintro e w2 ⟨y, rfl, hg2⟩; have hO2 := hO1.ext hg2; have a2 : w2.cell? ⟨w.heap.size, 1, none⟩ = some (.int .i64 a) := hO2.cell 1; have b2 : w2.cell? ⟨w.heap.size, 2, none⟩ = some (.int .i64 b) := hO2.cell 2; have s2 : w2.cell? ⟨w.heap.size, 4, none⟩ = some (.string s) := hO2.cell 4; have t2 : w2.cell? ⟨w.heap.size, 5, none⟩ = some (.string t) := hO2.cell 5)
      | (go_at_call 26; refine (HB.out x y _ (At.ext hP0 (g_trans hg1 hg2)) (hD0.ext (g_trans hg1 hg2) (by simp)) (hM0.ext (g_trans hg1 hg2) (by simp))).mono ?_; rintro e w3 ⟨rfl, hD3, hM3, hk3⟩; have hO3 := hk3.at hO2 hOd hOm; have a3 : w3.cell? ⟨w.heap.size, 1, none⟩ = some (.int .i64 a) := hO3.cell 1; have b3 : w3.cell? ⟨w.heap.size, 2, none⟩ = some (.int .i64 b) := hO3.cell 2; have s3 : w3.cell? ⟨w.heap.size, 4, none⟩ = some (.string s) := hO3.cell 4; have t3 : w3.cell? ⟨w.heap.size, 5, none⟩ = some (.string t) := hO3.cell 5))
  go_wp2
  go_ret
  have hg02 := g_trans (g_trans (g_drew hg0) hg1) hg2
  exact ⟨by simp, _, _, _, hD3.mono hg02.size, hM3, (Kept2.none hg02).trans hk3, HI.out x y, by simp [putW]⟩

/-- Play. -/
theorem play_calls (p d m : Nat) (now mnow : List Blk) (k a b c : Int) (s t : ByteArray) (w : World) (hR : Ready w p d m now mnow) (hs : s.size ≤ maxLen) (ht : t.size ≤ maxLen) :
    Calls Try.prog 16 #[.pointer (some ⟨p, 0, none⟩), .pointer (some ⟨m, 0, none⟩), opv k a b c s t] w (PlayPost d m now mnow w) := by
  by_cases h1 : k = 1
  · subst h1
    by_cases ha : a < 0 ∨ 5 ≤ a
    · exact play_bad p d m now mnow a b c s t w hR hs ht fun x y w' => samePut_bad p m a b 1 x y w' (fun w'' => put_bad1 p a b x y w'' ha) (fun w'' => mput_bad1 m a b x y w'' ha)
    · by_cases hb : b < 0 ∨ 5 ≤ b
      · exact play_bad p d m now mnow a b c s t w hR hs ht fun x y w' => samePut_bad p m a b 1 x y w' (fun w'' => put_bad2 p a b x y w'' (by omega) (by omega) hb) (fun w'' => mput_bad2 m a b x y w'' (by omega) (by omega) hb)
      · by_cases hab : a = b
        · subst hab
          exact play_bad p d m now mnow a a c s t w hR hs ht fun x y w' => samePut_bad p m a a 2 x y w' (fun w'' => put_bad3 p a x y w'' (by omega) (by omega)) (fun w'' => mput_bad3 m a x y w'' (by omega) (by omega))
        · obtain ⟨a', rfl⟩ := Int.eq_ofNat_of_zero_le (show 0 ≤ a by omega)
          obtain ⟨b', rfl⟩ := Int.eq_ofNat_of_zero_le (show 0 ≤ b by omega)
          exact play_ok p d m now mnow a' b' c s t w hR hs ht (by omega) (by omega) (by omega)
  · by_cases h2 : k = 2
    · subst h2
      exact play_get p d m now mnow a b c s t w hR
    · exact play_none p d m now mnow k a b c s t w hR (by simpa using h1) (by simpa using h2)
end Go.Proofs.Qxb6500338a
