/-
  Walks: SameDeposit, SameTransfer.
-/
import Derived.Test.Qxb6500337aB6
namespace Go.Proofs.Qxb6500337a
open Go.RowKit

/-- But for blocks d and m all that was there is as it was. -/
structure Kept2 (d m : Nat) (w w' : World) : Prop where
  os : w'.os = w.os
  tape : w'.tape = w.tape
  output : w'.output = w.output
  size : w.heap.size ≤ w'.heap.size
  block : ∀ k, k < w.heap.size → k ≠ d → k ≠ m → w'.heap[k]? = w.heap[k]?
section
variable {d m : Nat} {w w1 w2 : World}
theorem Kept2.refl (d m : Nat) (w : World) : Kept2 d m w w := ⟨rfl, rfl, rfl, Nat.le_refl _, fun _ _ _ _ => rfl⟩
theorem Kept2.trans (h : Kept2 d m w w1) (k : Kept2 d m w1 w2) : Kept2 d m w w2 :=
  ⟨k.os.trans h.os, k.tape.trans h.tape, k.output.trans h.output, Nat.le_trans h.size k.size, fun i hi h1 h2 => (k.block i (Nat.lt_of_lt_of_le hi h.size) h1 h2).trans (h.block i hi h1 h2)⟩
theorem Kept2.none (g : w.grownBy w1 none) : Kept2 d m w w1 := ⟨g.os, g.tape, g.output, g.size, fun i hi _ _ => g.block i hi (by simp)⟩
theorem Kept2.left (g : w.grownBy w1 (some d)) : Kept2 d m w w1 := ⟨g.os, g.tape, g.output, g.size, fun i hi h _ => g.block i hi (by simpa using h)⟩
theorem Kept2.right (g : w.grownBy w1 (some m)) : Kept2 d m w w1 := ⟨g.os, g.tape, g.output, g.size, fun i hi _ h => g.block i hi (by simpa using h)⟩
theorem Kept2.at {b : Nat} {t : TypeId} {C : Array Value} (h : Kept2 d m w w1) (ha : At w b t C) (hd : b ≠ d) (hm : b ≠ m) : At w1 b t C := by
  unfold At; rw [h.block b ha.lt hd hm]; exact ha
end


/-- sameDep, both sides refusing. -/
theorem sameDep_bad (x m : Nat) (a n c : Int) (w : World)
    (hp : Calls Try.prog 34 #[.pointer (some ⟨x, 0, none⟩), .int .i64 a, .int .i64 n] w fun e w' => e = .returned (.int .i64 c) ∧ w.grownBy w' none)
    (hm : ∀ w', w.grownBy w' none → Calls Try.prog 35 #[.pointer (some ⟨m, 0, none⟩), .int .i64 a, .int .i64 n] w' fun e w'' => e = .returned (.int .i64 c) ∧ w'.grownBy w'' none) :
    Calls Try.prog 24 #[.pointer (some ⟨x, 0, none⟩), .pointer (some ⟨m, 0, none⟩), .int .i64 a, .int .i64 n] w fun e w' => e = .returned (.bool true) ∧ w.grownBy w' none := by
  have HP := hp
  have HM : Hid (∀ w', w.grownBy w' none → Calls Try.prog 35 #[.pointer (some ⟨m, 0, none⟩), .int .i64 a, .int .i64 n] w' fun e w'' => e = .returned (.int .i64 c) ∧ w'.grownBy w'' none) := hm
  clear hp hm
  go_enter Try.func24, Try.ntmps24
  go_wp2_with fail
  refine HP.mono ?_
  clear HP
  rintro e w1 ⟨rfl, g1⟩
  go_wp2_with fail
  refine (HM.out _ g1).mono ?_
  rintro e w2 ⟨rfl, g2⟩
  go_wp2
  go_ret
  exact ⟨by simp, g_trans g1 g2⟩

/-- sameDep, both sides doing it. -/
theorem sameDep_ok (x p d m : Nat) (now bas now' : List Blk) (log' : List (Nat × Blk)) (bal bal' : List Nat) (a n : Int) (w : World) (hS : Shows w x p d now bas bal) (hM : ModAt w m bal)
    (hp : Calls Try.prog 34 #[.pointer (some ⟨x, 0, none⟩), .int .i64 a, .int .i64 n] w fun e w' => e = .returned (.int .i64 0) ∧ DiskAt w.heap.size w' d now' bas log' ∧ w.grownBy w' (some d))
    (hm : ∀ w', ModAt w' m bal → Calls Try.prog 35 #[.pointer (some ⟨m, 0, none⟩), .int .i64 a, .int .i64 n] w' fun e w'' => e = .returned (.int .i64 0) ∧ ModAt w'' m bal' ∧ w'.grownBy w'' (some m)) :
    Calls Try.prog 24 #[.pointer (some ⟨x, 0, none⟩), .pointer (some ⟨m, 0, none⟩), .int .i64 a, .int .i64 n] w fun e w' => e = .returned (.bool true) ∧ DiskAt w.heap.size w' d now' bas log' ∧ ModAt w' m bal' ∧ Kept2 d m w w' := by
  have hmd : some m ≠ some d := by simpa using At.ne hM.1 hS.disk.1 (by decide)
  have HP := hp
  have HM : Hid (∀ w', ModAt w' m bal → Calls Try.prog 35 #[.pointer (some ⟨m, 0, none⟩), .int .i64 a, .int .i64 n] w' fun e w'' => e = .returned (.int .i64 0) ∧ ModAt w'' m bal' ∧ w'.grownBy w'' (some m)) := hm
  clear hp hm hS
  go_enter Try.func24, Try.ntmps24
  go_wp2_with fail
  refine HP.mono ?_
  clear HP
  rintro e w1 ⟨rfl, hD1, g1⟩
  have hM1 := hM.ext g1 hmd
  go_wp2_with fail
  refine (HM.out _ hM1).mono ?_
  rintro e w2 ⟨rfl, hM2, g2⟩
  go_wp2
  go_ret
  exact ⟨by simp, hD1.kept g2 hM1.1 (by decide) (by decide) (by decide), hM2, (Kept2.left g1).trans (Kept2.right g2)⟩

/-- sameTra, both sides refusing. -/
theorem sameTra_bad (x m : Nat) (f t n c : Int) (w : World)
    (hp : Calls Try.prog 36 #[.pointer (some ⟨x, 0, none⟩), .int .i64 f, .int .i64 t, .int .i64 n] w fun e w' => e = .returned (.int .i64 c) ∧ w.grownBy w' none)
    (hm : ∀ w', w.grownBy w' none → Calls Try.prog 37 #[.pointer (some ⟨m, 0, none⟩), .int .i64 f, .int .i64 t, .int .i64 n] w' fun e w'' => e = .returned (.int .i64 c) ∧ w'.grownBy w'' none) :
    Calls Try.prog 25 #[.pointer (some ⟨x, 0, none⟩), .pointer (some ⟨m, 0, none⟩), .int .i64 f, .int .i64 t, .int .i64 n] w fun e w' => e = .returned (.bool true) ∧ w.grownBy w' none := by
  have HP := hp
  have HM : Hid (∀ w', w.grownBy w' none → Calls Try.prog 37 #[.pointer (some ⟨m, 0, none⟩), .int .i64 f, .int .i64 t, .int .i64 n] w' fun e w'' => e = .returned (.int .i64 c) ∧ w'.grownBy w'' none) := hm
  clear hp hm
  go_enter Try.func25, Try.ntmps25
  go_wp2_with fail
  refine HP.mono ?_
  clear HP
  rintro e w1 ⟨rfl, g1⟩
  go_wp2_with fail
  refine (HM.out _ g1).mono ?_
  rintro e w2 ⟨rfl, g2⟩
  go_wp2
  go_ret
  exact ⟨by simp, g_trans g1 g2⟩

/-- sameTra, both sides doing it. -/
theorem sameTra_ok (x p d m : Nat) (now bas now' : List Blk) (log' : List (Nat × Blk)) (bal bal' : List Nat) (f t n : Int) (w : World) (hS : Shows w x p d now bas bal) (hM : ModAt w m bal)
    (hp : Calls Try.prog 36 #[.pointer (some ⟨x, 0, none⟩), .int .i64 f, .int .i64 t, .int .i64 n] w fun e w' => e = .returned (.int .i64 0) ∧ DiskAt w.heap.size w' d now' bas log' ∧ w.grownBy w' (some d))
    (hm : ∀ w', ModAt w' m bal → Calls Try.prog 37 #[.pointer (some ⟨m, 0, none⟩), .int .i64 f, .int .i64 t, .int .i64 n] w' fun e w'' => e = .returned (.int .i64 0) ∧ ModAt w'' m bal' ∧ w'.grownBy w'' (some m)) :
    Calls Try.prog 25 #[.pointer (some ⟨x, 0, none⟩), .pointer (some ⟨m, 0, none⟩), .int .i64 f, .int .i64 t, .int .i64 n] w fun e w' => e = .returned (.bool true) ∧ DiskAt w.heap.size w' d now' bas log' ∧ ModAt w' m bal' ∧ Kept2 d m w w' := by
  have hmd : some m ≠ some d := by simpa using At.ne hM.1 hS.disk.1 (by decide)
  have HP := hp
  have HM : Hid (∀ w', ModAt w' m bal → Calls Try.prog 37 #[.pointer (some ⟨m, 0, none⟩), .int .i64 f, .int .i64 t, .int .i64 n] w' fun e w'' => e = .returned (.int .i64 0) ∧ ModAt w'' m bal' ∧ w'.grownBy w'' (some m)) := hm
  clear hp hm hS
  go_enter Try.func25, Try.ntmps25
  go_wp2_with fail
  refine HP.mono ?_
  clear HP
  rintro e w1 ⟨rfl, hD1, g1⟩
  have hM1 := hM.ext g1 hmd
  go_wp2_with fail
  refine (HM.out _ hM1).mono ?_
  rintro e w2 ⟨rfl, hM2, g2⟩
  go_wp2
  go_ret
  exact ⟨by simp, hD1.kept g2 hM1.1 (by decide) (by decide) (by decide), hM2, (Kept2.left g1).trans (Kept2.right g2)⟩
end Go.Proofs.Qxb6500337a
