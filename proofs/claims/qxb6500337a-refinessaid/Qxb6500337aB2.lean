/-
  Walks: the abstract bank.
-/
import Derived.Test.Qxb6500337aB1
namespace Go.Proofs.Qxb6500337a
open Go.RowKit

def modC (l : List Nat) : Array Value := (l.map fun n : Nat => Value.int .i64 (n : Int)).toArray
/-- The model m and its balances. -/
def ModAt (w : World) (m : Nat) (bal : List Nat) : Prop := At w m 49 (modC bal) ∧ Bal bal

theorem ModAt.ext {w w' : World} {m : Nat} {bal : List Nat} {r : Option Nat} (h : ModAt w m bal) (g : w.grownBy w' r) (hr : some m ≠ r) : ModAt w' m bal := ⟨h.1.kept g hr, h.2⟩
theorem modC_get (l : List Nat) (i : Nat) (h : i < l.length) : (modC l)[i]? = some (.int .i64 (l.getD i 0)) := by
  simp [modC, List.getD, List.getElem?_eq_getElem h]
theorem modC_set (l : List Nat) (i n : Nat) : (modC l).setIfInBounds i (.int .i64 n) = modC (l.set i n) := by
  simp [modC, List.map_set]
theorem ModAt.cell {w : World} {m : Nat} {bal : List Nat} (h : ModAt w m bal) (i : Nat) (hi : i < 4) : w.cell? ⟨m, i, none⟩ = some (.int .i64 (bal.getD i 0)) :=
  (At.cell h.1 i).trans (modC_get bal i (by rw [h.2.1]; exact hi))

/-- bankm.New. -/
theorem newMod_calls (w : World) : Calls Try.prog 10 #[] w fun e w' => e = .returned (.pointer (some ⟨w.heap.size, 0, none⟩)) ∧ ModAt w' w.heap.size [0, 0, 0, 0] ∧ w.grownBy w' none := by
  go_enter Try.func10, Try.ntmps10
  go_wp2
  go_ret
  exact ⟨rfl, ⟨At.new _ _ _, bal_zero⟩, g_alloc (g_refl _ _) _⟩

set_option maxHeartbeats 400000 in
/-- Clone. -/
theorem clone_calls (m : Nat) (bal : List Nat) (w : World) (hM : ModAt w m bal) :
    Calls Try.prog 11 #[.pointer (some ⟨m, 0, none⟩)] w fun e w' => e = .returned (.pointer (some ⟨w.heap.size, 0, none⟩)) ∧ ModAt w' w.heap.size bal ∧ w.grownBy w' none := by
  have hlt := hM.1.lt
  have hB := hM.2
  have c0 := hM.cell 0 (by omega)
  have c1 := hM.cell 1 (by omega)
  have c2 := hM.cell 2 (by omega)
  have c3 := hM.cell 3 (by omega)
  obtain ⟨a, b, c, d, rfl⟩ := four hB.1
  simp at c0 c1 c2 c3
  clear hM
  go_enter Try.func11, Try.ntmps11
  go_wp2
  go_ret
  exact ⟨rfl, ⟨At.new _ _ _, hB⟩, g_alloc (g_refl _ _) _⟩

/-- Crashed. -/
theorem crashed_calls (m : Nat) (bal : List Nat) (w : World) (hM : ModAt w m bal) :
    Calls Try.prog 17 #[.pointer (some ⟨m, 0, none⟩)] w fun e w' => e = .returned (.pointer (some ⟨w.heap.size, 0, none⟩)) ∧ ModAt w' w.heap.size bal ∧ w.grownBy w' none := by
  have HC := clone_calls m bal w hM
  clear hM
  go_enter Try.func17, Try.ntmps17
  go_wp2_with fail
  refine HC.mono ?_
  rintro e w1 ⟨rfl, h1, g1⟩
  go_wp2
  go_ret
  exact ⟨rfl, h1, g1⟩

/-- Balance. -/
theorem mbalance_in (m : Nat) (bal : List Nat) (i : Int) (w : World) (hM : ModAt w m bal) (h0 : 0 ≤ i) (h4 : i < 4) :
    Calls Try.prog 31 #[.pointer (some ⟨m, 0, none⟩), .int .i64 i] w fun e w' => e = .returned (.tuple #[.int .i64 (bal.getD i.toNat 0), .int .i64 0]) ∧ w' = w := by
  have c := hM.cell i.toNat (by omega)
  generalize bal.getD i.toNat 0 = v at *
  clear hM
  go_enter Try.func31, Try.ntmps31
  go_wp2
  go_ret2
  exact ⟨rfl, rfl⟩
theorem mbalance_out (m : Nat) (i : Int) (w : World) (h : i < 0 ∨ 4 ≤ i) :
    Calls Try.prog 31 #[.pointer (some ⟨m, 0, none⟩), .int .i64 i] w fun e w' => e = .returned (.tuple #[.int .i64 0, .int .i64 1]) ∧ w' = w := by
  rcases h with h | h
  · go_enter Try.func31, Try.ntmps31
    go_wp2
    go_ret2
    exact ⟨rfl, rfl⟩
  · have h' : ¬ i < 0 := by omega
    go_enter Try.func31, Try.ntmps31
    go_wp2
    go_ret2
    exact ⟨rfl, rfl⟩

/-- The first k of four added up. -/
def ps (a b c d : Nat) : Nat → Int
  | 0 => 0
  | 1 => a
  | 2 => (a : Int) + b
  | 3 => (a : Int) + b + c
  | _ => (a : Int) + b + c + d

set_option maxHeartbeats 800000 in
/-- Total. -/
theorem mtotal_calls (m : Nat) (bal : List Nat) (w : World) (hM : ModAt w m bal) :
    Calls Try.prog 33 #[.pointer (some ⟨m, 0, none⟩)] w fun e w' => e = .returned (.int .i64 bal.sum) ∧ w' = w := by
  have hB := hM.2
  have c0 := hM.cell 0 (by omega)
  have c1 := hM.cell 1 (by omega)
  have c2 := hM.cell 2 (by omega)
  have c3 := hM.cell 3 (by omega)
  have b0 := hB.le 0
  have b1 := hB.le 1
  have b2 := hB.le 2
  have b3 := hB.le 3
  obtain ⟨a, b, c, d, rfl⟩ := four hB.1
  simp at c0 c1 c2 c3 b0 b1 b2 b3
  clear hM hB
  go_enter Try.func33, Try.ntmps33
  go_wp2
  go_loop [3, 4] (fun t i => ∃ k : Nat, k ≤ 4 ∧ i = .int .i64 k ∧ t = .int .i64 (ps a b c d k)) (fun _ i => 4 - (intOf i).toNat)
  case atStart => exact ⟨0, by omega, rfl, rfl⟩
  case round =>
    obtain ⟨k, hk, rfl, rfl⟩ := hrel
    have hcase : k = 0 ∨ k = 1 ∨ k = 2 ∨ k = 3 ∨ k = 4 := by omega
    rcases hcase with rfl | rfl | rfl | rfl | rfl
    · simp only [ps]
      go_wp2
      exact ⟨⟨1, by omega, rfl, by simp⟩, by simp [intOf]⟩
    · simp only [ps]
      go_wp2
      exact ⟨⟨2, by omega, rfl, by simp⟩, by simp [intOf]⟩
    · simp only [ps]
      go_wp2
      exact ⟨⟨3, by omega, rfl, by simp⟩, by simp [intOf]⟩
    · simp only [ps]
      go_wp2
      exact ⟨⟨4, by omega, rfl, by simp⟩, by simp [intOf]⟩
    · go_wp2
      go_ret
      exact ⟨ret_int (by simp [ps]; omega), rfl⟩
end Go.Proofs.Qxb6500337a
