/-
  Walks: SamePut.
-/
import Derived.Test.Qxb6500338aW13
namespace Go.Proofs.Qxb6500338a
open Go.RowKit

/-- But for blocks d and m all that was there is as it was. -/
structure Kept2 (d m : Nat) (w w' : World) : Prop where
  os : w'.os = w.os
  tape : w'.tape = w.tape
  output : w'.output = w.output
  size : w.heap.size ≤ w'.heap.size
  block : ∀ k, k < w.heap.size → k ≠ d → k ≠ m → w'.heap[k]? = w.heap[k]?
section
variable {d m : Nat} {w w1 w2 : World}
theorem Kept2.refl (d m : Nat) (w : World) : Kept2 d m w w := ⟨rfl, rfl, rfl, Nat.le_refl _, fun _ _ _ _ => rfl⟩
theorem Kept2.trans (h : Kept2 d m w w1) (k : Kept2 d m w1 w2) : Kept2 d m w w2 :=
  ⟨k.os.trans h.os, k.tape.trans h.tape, k.output.trans h.output, Nat.le_trans h.size k.size, fun i hi h1 h2 => (k.block i (Nat.lt_of_lt_of_le hi h.size) h1 h2).trans (h.block i hi h1 h2)⟩
theorem Kept2.none (g : w.grownBy w1 none) : Kept2 d m w w1 := ⟨g.os, g.tape, g.output, g.size, fun i hi _ _ => g.block i hi (by simp)⟩
theorem Kept2.left (g : w.grownBy w1 (some d)) : Kept2 d m w w1 := ⟨g.os, g.tape, g.output, g.size, fun i hi h _ => g.block i hi (by simpa using h)⟩
theorem Kept2.right (g : w.grownBy w1 (some m)) : Kept2 d m w w1 := ⟨g.os, g.tape, g.output, g.size, fun i hi _ h => g.block i hi (by simpa using h)⟩
theorem Kept2.at {b : Nat} {t : TypeId} {C : Array Value} (h : Kept2 d m w w1) (ha : At w b t C) (hd : b ≠ d) (hm : b ≠ m) : At w1 b t C := by
  unfold At; rw [h.block b ha.lt hd hm]; exact ha
end

set_option maxHeartbeats 1600000 in
/-- SamePut, both sides refusing. -/
theorem samePut_bad (p m : Nat) (a b c : Int) (x y : Blk) (w : World)
    (hp : ∀ w', Calls Try.prog 32 #[.pointer (some ⟨p, 0, none⟩), .int .i64 a, bv x, .int .i64 b, bv y] w' fun e w'' => e = .returned (.int .i64 c) ∧ w'.grownBy w'' none)
    (hm : ∀ w', Calls Try.prog 33 #[.pointer (some ⟨m, 0, none⟩), .int .i64 a, bv x, .int .i64 b, bv y] w' fun e w'' => e = .returned (.int .i64 c) ∧ w'.grownBy w'' none) :
    Calls Try.prog 26 #[.pointer (some ⟨p, 0, none⟩), .pointer (some ⟨m, 0, none⟩), .int .i64 a, bv x, .int .i64 b, bv y] w fun e w' => e = .returned (.bool true) ∧ w.grownBy w' none := by
  have HP : Hid (∀ w', Calls Try.prog 32 #[.pointer (some ⟨p, 0, none⟩), .int .i64 a, bv x, .int .i64 b, bv y] w' fun e w'' => e = .returned (.int .i64 c) ∧ w'.grownBy w'' none) := hp
  have HM : Hid (∀ w', Calls Try.prog 33 #[.pointer (some ⟨m, 0, none⟩), .int .i64 a, bv x, .int .i64 b, bv y] w' fun e w'' => e = .returned (.int .i64 c) ∧ w'.grownBy w'' none) := hm
  clear hp hm
  go_enter Try.func26, Try.ntmps26
  go_wp2
  have hX0 : At ((w.alloc (.cells (bc x) 44)).alloc (.cells (bc y) 44)) w.heap.size 44 (bc x) := (At.new w (bc x) 44).alloc _
  have hY0 : At ((w.alloc (.cells (bc x) 44)).alloc (.cells (bc y) 44)) (w.heap.size + 1) 44 (bc y) := at_new2 _ _ _ _
  have hg0 : w.grownBy ((w.alloc (.cells (bc x) 44)).alloc (.cells (bc y) 44)) none := g_alloc (g_alloc (g_refl _ _) _) _
  generalize ((w.alloc (.cells (bc x) 44)).alloc (.cells (bc y) 44)) = w0 at *
  obtain ⟨x0, x1, x2, x3⟩ := hX0.four
  obtain ⟨y0, y1, y2, y3⟩ := hY0.four
  go_region_held3 (fun w' => w'.cell? ⟨w.heap.size, 0, none⟩ = some (.int .u8 x.1.toNat) ∧ w'.cell? ⟨w.heap.size, 1, none⟩ = some (.int .u8 x.2.1.toNat) ∧ w'.cell? ⟨w.heap.size, 2, none⟩ = some (.int .u8 x.2.2.1.toNat) ∧ w'.cell? ⟨w.heap.size, 3, none⟩ = some (.int .u8 x.2.2.2.toNat) ∧ w'.cell? ⟨(w.heap.size + 1), 0, none⟩ = some (.int .u8 y.1.toNat) ∧ w'.cell? ⟨(w.heap.size + 1), 1, none⟩ = some (.int .u8 y.2.1.toNat) ∧ w'.cell? ⟨(w.heap.size + 1), 2, none⟩ = some (.int .u8 y.2.2.1.toNat) ∧ w'.cell? ⟨(w.heap.size + 1), 3, none⟩ = some (.int .u8 y.2.2.2.toNat)) (go_keep)
    (first
      | (go_at_call 32; refine (HP.out _).mono ?_; rintro e w1 ⟨rfl, hg1⟩; obtain ⟨u0, u1, u2, u3⟩ := ((At.drew hX0).ext hg1).four; obtain ⟨v0, v1, v2, v3⟩ := ((At.drew hY0).ext hg1).four)
      | (go_at_call 33; refine (HM.out _).mono ?_; rintro e w2 ⟨rfl, hg2⟩; obtain ⟨r0, r1, r2, r3⟩ := (((At.drew hX0).ext hg1).ext hg2).four; obtain ⟨s0, s1, s2, s3⟩ := (((At.drew hY0).ext hg1).ext hg2).four))
  go_wp2
  go_ret
  refine ⟨by simp, ?_⟩
  exact g_trans (g_trans (g_drew hg0) hg1) hg2

set_option maxHeartbeats 1600000 in
/-- SamePut, both sides doing it. -/
theorem samePut_ok (p d m : Nat) (now bas mnow : List Blk) (a b : Nat) (x y : Blk) (w : World) (hP : PairAt w p d) (hD : DiskNil w d now bas) (hM : ModNil w m mnow) (ha5 : a < 5) (hb5 : b < 5) (hab : a ≠ b) :
    Calls Try.prog 26 #[.pointer (some ⟨p, 0, none⟩), .pointer (some ⟨m, 0, none⟩), .int .i64 a, bv x, .int .i64 b, bv y] w fun e w' => e = .returned (.bool true) ∧
      DiskAt w.heap.size w' d (app now (putW a x b y)) bas (putW a x b y) ∧ ModAt w' m ((mnow.set a x).set b y) ∧ Kept2 d m w w' := by
  have hmd : m ≠ d := by obtain ⟨bas', h, _⟩ := hM; exact At.ne h hD.1 (by decide)
  have hml : m < w.heap.size := by obtain ⟨bas', h, _⟩ := hM; exact h.lt
  have hdl := hD.1.lt
  have HP : Hid (∀ w', PairAt w' p d → DiskNil w' d now bas → Calls Try.prog 32 #[.pointer (some ⟨p, 0, none⟩), .int .i64 (a : Int), bv x, .int .i64 (b : Int), bv y] w' fun e w'' => e = .returned (.int .i64 0) ∧ DiskAt w'.heap.size w'' d (app now (putW a x b y)) bas (putW a x b y) ∧ w'.grownBy w'' (some d)) :=
    fun w' h1 h2 => put_ok p d now bas a b x y w' h1 h2 ha5 hb5 hab
  have HM : Hid (∀ w', ModNil w' m mnow → Calls Try.prog 33 #[.pointer (some ⟨m, 0, none⟩), .int .i64 (a : Int), bv x, .int .i64 (b : Int), bv y] w' fun e w'' => e = .returned (.int .i64 0) ∧ ModAt w'' m ((mnow.set a x).set b y) ∧ w'.grownBy w'' (some m)) :=
    fun w' h => mput_ok m mnow a b x y w' h ha5 hb5 hab
  clear ha5 hb5 hab
  generalize app now (putW a x b y) = now' at *
  generalize putW a x b y = log' at *
  generalize (mnow.set a x).set b y = mnow' at *
  go_enter Try.func26, Try.ntmps26
  go_wp2
  have hX0 : At ((w.alloc (.cells (bc x) 44)).alloc (.cells (bc y) 44)) w.heap.size 44 (bc x) := (At.new w (bc x) 44).alloc _
  have hY0 : At ((w.alloc (.cells (bc x) 44)).alloc (.cells (bc y) 44)) (w.heap.size + 1) 44 (bc y) := at_new2 _ _ _ _
  have hg0 : w.grownBy ((w.alloc (.cells (bc x) 44)).alloc (.cells (bc y) 44)) none := g_alloc (g_alloc (g_refl _ _) _) _
  generalize ((w.alloc (.cells (bc x) 44)).alloc (.cells (bc y) 44)) = w0 at *
  obtain ⟨x0, x1, x2, x3⟩ := hX0.four
  obtain ⟨y0, y1, y2, y3⟩ := hY0.four
  have nX : some w.heap.size ≠ some d := by simp; omega
  have nY : some (w.heap.size + 1) ≠ some d := by simp; omega
  have mX : some w.heap.size ≠ some m := by simp; omega
  have mY : some (w.heap.size + 1) ≠ some m := by simp; omega
  have hP0 : PairAt w0.drew p d := At.ext hP (g_drew hg0)
  have hD0 : DiskNil w0.drew d now bas := hD.ext (g_drew hg0) (by simp)
  have hM0 : ModNil w0.drew m mnow := hM.ext (g_drew hg0) (by simp)
  clear hP hD hM
  go_region_held3 (fun w' => w'.cell? ⟨w.heap.size, 0, none⟩ = some (.int .u8 x.1.toNat) ∧ w'.cell? ⟨w.heap.size, 1, none⟩ = some (.int .u8 x.2.1.toNat) ∧ w'.cell? ⟨w.heap.size, 2, none⟩ = some (.int .u8 x.2.2.1.toNat) ∧ w'.cell? ⟨w.heap.size, 3, none⟩ = some (.int .u8 x.2.2.2.toNat) ∧ w'.cell? ⟨(w.heap.size + 1), 0, none⟩ = some (.int .u8 y.1.toNat) ∧ w'.cell? ⟨(w.heap.size + 1), 1, none⟩ = some (.int .u8 y.2.1.toNat) ∧ w'.cell? ⟨(w.heap.size + 1), 2, none⟩ = some (.int .u8 y.2.2.1.toNat) ∧ w'.cell? ⟨(w.heap.size + 1), 3, none⟩ = some (.int .u8 y.2.2.2.toNat)) (go_keep)
    (first
      | (go_at_call 32; refine (HP.out _ hP0 hD0).mono ?_; rintro e w1 ⟨rfl, hD1, hg1⟩; obtain ⟨u0, u1, u2, u3⟩ := ((At.drew hX0).kept hg1 nX).four; obtain ⟨v0, v1, v2, v3⟩ := ((At.drew hY0).kept hg1 nY).four)
      | (go_at_call 33; refine (HM.out _ (hM0.ext hg1 (by simpa using hmd))).mono ?_; rintro e w2 ⟨rfl, hM2, hg2⟩; obtain ⟨r0, r1, r2, r3⟩ := (((At.drew hX0).kept hg1 nX).kept hg2 mX).four; obtain ⟨s0, s1, s2, s3⟩ := (((At.drew hY0).kept hg1 nY).kept hg2 mY).four))
  go_wp2
  go_ret
  refine ⟨by simp, ?_, hM2, ?_⟩
  · obtain ⟨bas', hm1, _, _⟩ := hM0.ext hg1 (by simpa using hmd)
    exact (hD1.mono hg0.size).kept hg2 hm1 (by decide) (by decide) (by decide)
  · exact ((Kept2.none (g_drew hg0)).trans (Kept2.left hg1)).trans (Kept2.right hg2)
end Go.Proofs.Qxb6500338a
