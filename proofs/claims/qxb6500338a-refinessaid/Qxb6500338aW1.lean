/-
  Walks: the leaves.
-/
import Derived.Test.Qxb6500338aProg
import Derived.WalkKit
import Derived.WalkSpells
import Derived.Deep.RegionHeld3
import Derived.Deep.MidRow
import Derived.KernelRfl
import Derived.Test.Qxb6500338aMem
namespace Go.Proofs.Qxb6500338a
open Go.RowKit

/-- Home. -/
theorem home_calls (a : Int) (w : World) (h0 : 0 ≤ a) (h1 : a < 5) : Calls Try.prog 22 #[.int .i64 a] w fun e w' => e = .returned (.int .i64 (3 + a)) ∧ w' = w := by
  go_enter Try.func22, Try.ntmps22
  go_wp2
  go_ret
  exact ⟨rfl, rfl⟩

def zDisk : Array Value := diskCells [zB, zB, zB, zB, zB, zB, zB, zB] [zB, zB, zB, zB, zB, zB, zB, zB] (.slice none 0 0) (.slice none 0 0)
theorem zero65 (w : World) : (zeroValue 65).run Try.prog w = .ok (.agg zDisk) w := by kernel_rfl
/-- diskm.New. -/
theorem newDisk_calls (w : World) : Calls Try.prog 19 #[] w fun e w' => e = .returned (.pointer (some ⟨w.heap.size, 0, none⟩)) ∧ w' = w.alloc (.cells zDisk 65) := by
  have hz := zero65
  go_enter Try.func19, Try.ntmps19
  go_wp2
  go_ret
  exact ⟨rfl, rfl⟩

def zMod : Array Value := modCells [zB, zB, zB, zB, zB] [zB, zB, zB, zB, zB] (.slice none 0 0)
theorem zero55 (w : World) : (zeroValue 55).run Try.prog w = .ok (.agg zMod) w := by kernel_rfl
/-- pairm.New. -/
theorem newMod_calls (w : World) : Calls Try.prog 10 #[] w fun e w' => e = .returned (.pointer (some ⟨w.heap.size, 0, none⟩)) ∧ w' = w.alloc (.cells zMod 55) := by
  have hz := zero55
  go_enter Try.func10, Try.ntmps10
  go_wp2
  go_ret
  exact ⟨rfl, rfl⟩

/-- (*Disk).Steps. -/
theorem dsteps_calls (base d : Nat) (now bas : List Blk) (log : List (Nat × Blk)) (w : World) (hD : DiskAt base w d now bas log) :
    Calls Try.prog 23 #[.pointer (some ⟨d, 0, none⟩)] w fun e w' => e = .returned (.int .i64 log.length) ∧ w' = w := by
  obtain ⟨va, vv, hd, h1, h2, h3, h4, h5⟩ := hD
  have c : w.cell? ⟨d, 64, none⟩ = some va := (hd.cell 64).trans (diskCells_at now bas va vv h1 h2)
  obtain ⟨a, cap, rfl⟩ : ∃ a cap, va = .slice a log.length cap := by
    rcases h4.2 with ⟨rfl, h⟩ | ⟨g, cap, cur, rfl, _⟩
    · exact ⟨_, _, by rw [h]⟩
    · exact ⟨_, _, rfl⟩
  clear hd h4 h5 h3 h1 h2
  go_enter Try.func23, Try.ntmps23
  go_wp2
  go_ret
  exact ⟨rfl, rfl⟩
/-- The four cells of a block of the disk. -/
theorem disk_cells4 {w : World} {d : Nat} {now bas : List Blk} {va vv : Value} (h : At w d 65 (diskCells now bas va vv)) (h1 : now.length = 8) (i : Nat) (hi : i < 8) :
    w.cell? ⟨d, i * 4, none⟩ = some (.int .u8 (now.getD i zB).1.toNat) ∧ w.cell? ⟨d, i * 4 + 1, none⟩ = some (.int .u8 (now.getD i zB).2.1.toNat) ∧
    w.cell? ⟨d, i * 4 + 2, none⟩ = some (.int .u8 (now.getD i zB).2.2.1.toNat) ∧ w.cell? ⟨d, i * 4 + 3, none⟩ = some (.int .u8 (now.getD i zB).2.2.2.toNat) :=
  ⟨(h.cell _).trans (diskCells_now now bas va vv i 0 h1 hi (by omega)), (h.cell _).trans (diskCells_now now bas va vv i 1 h1 hi (by omega)),
   (h.cell _).trans (diskCells_now now bas va vv i 2 h1 hi (by omega)), (h.cell _).trans (diskCells_now now bas va vv i 3 h1 hi (by omega))⟩
theorem mod_cells4 {w : World} {m : Nat} {now bas : List Blk} {rec : Value} (h : At w m 55 (modCells now bas rec)) (h1 : now.length = 5) (i : Nat) (hi : i < 5) :
    w.cell? ⟨m, i * 4, none⟩ = some (.int .u8 (now.getD i zB).1.toNat) ∧ w.cell? ⟨m, i * 4 + 1, none⟩ = some (.int .u8 (now.getD i zB).2.1.toNat) ∧
    w.cell? ⟨m, i * 4 + 2, none⟩ = some (.int .u8 (now.getD i zB).2.2.1.toNat) ∧ w.cell? ⟨m, i * 4 + 3, none⟩ = some (.int .u8 (now.getD i zB).2.2.2.toNat) :=
  ⟨(h.cell _).trans (modCells_now now bas rec i 0 h1 hi (by omega)), (h.cell _).trans (modCells_now now bas rec i 1 h1 hi (by omega)),
   (h.cell _).trans (modCells_now now bas rec i 2 h1 hi (by omega)), (h.cell _).trans (modCells_now now bas rec i 3 h1 hi (by omega))⟩

/-- (*Disk).Read in range. -/
theorem read_calls (base d : Nat) (now bas : List Blk) (log : List (Nat × Blk)) (i : Int) (w : World) (hD : DiskAt base w d now bas log) (h0 : 0 ≤ i) (h8 : i < 8) :
    Calls Try.prog 20 #[.pointer (some ⟨d, 0, none⟩), .int .i64 i] w fun e w' => e = .returned (.tuple #[bv (now.getD i.toNat zB), .int .i64 0]) ∧ w.grownBy w' none := by
  obtain ⟨va, vv, hd, h1, h2, h3, h4, h5⟩ := hD
  have hlt := hd.lt
  obtain ⟨c0, c1, c2, c3⟩ := disk_cells4 hd h1 i.toNat (by omega)
  clear hd h4 h5 h3 h1 h2
  generalize now.getD i.toNat zB = x at *
  go_enter Try.func20, Try.ntmps20
  go_wp2
  refine bodyPost_ret (v := .tuple #[bv x, .int .i64 0]) (by simp [results, Try.results20, go_sem]) rfl ⟨rfl, ?_⟩
  exact g_alloc (g_refl _ _) _

/-- (*pairm.Pair).Get. -/
theorem mget_in (m : Nat) (now : List Blk) (i : Int) (w : World) (hM : ModAt w m now) (h0 : 0 ≤ i) (h8 : i < 5) :
    Calls Try.prog 30 #[.pointer (some ⟨m, 0, none⟩), .int .i64 i] w fun e w' => e = .returned (.tuple #[bv (now.getD i.toNat zB), .int .i64 0]) ∧ w.grownBy w' none := by
  obtain ⟨bas, rec, hd, h1, h2⟩ := hM
  have hlt := hd.lt
  obtain ⟨c0, c1, c2, c3⟩ := mod_cells4 hd h1 i.toNat (by omega)
  clear hd h1 h2
  generalize now.getD i.toNat zB = x at *
  go_enter Try.func30, Try.ntmps30
  go_wp2
  refine bodyPost_ret (v := .tuple #[bv x, .int .i64 0]) (by simp [results, Try.results30, go_sem]) rfl ⟨rfl, ?_⟩
  exact g_alloc (g_refl _ _) _
theorem mget_out (m : Nat) (i : Int) (w : World) (h : i < 0 ∨ 5 ≤ i) :
    Calls Try.prog 30 #[.pointer (some ⟨m, 0, none⟩), .int .i64 i] w fun e w' => e = .returned (.tuple #[bv zB, .int .i64 1]) ∧ w.grownBy w' none := by
  rcases h with h | h
  · go_enter Try.func30, Try.ntmps30
    go_wp2
    refine bodyPost_ret (v := .tuple #[bv zB, .int .i64 1]) (by simp [results, Try.results30, go_sem, zB]) rfl ⟨rfl, ?_⟩
    exact g_alloc (g_refl _ _) _
  · have h' : ¬ i < 0 := by omega
    go_enter Try.func30, Try.ntmps30
    go_wp2
    refine bodyPost_ret (v := .tuple #[bv zB, .int .i64 1]) (by simp [results, Try.results30, go_sem, zB]) rfl ⟨rfl, ?_⟩
    exact g_alloc (g_refl _ _) _

/-- HeaderOf. -/
theorem header_calls (a b : Int) (w : World) (ha : 0 ≤ a) (ha5 : a < 5) (hb : 0 ≤ b) (hb5 : b < 5) :
    Calls Try.prog 34 #[.int .i64 a, .int .i64 b] w fun e w' => e = .returned (bv (hdr a.toNat b.toNat)) ∧ w.grownBy w' none := by
  go_enter Try.func34, Try.ntmps34
  go_wp2
  refine bodyPost_ret (v := .agg #[.int .u8 1, .int .u8 a, .int .u8 b, .int .u8 0]) (by simp [results, Try.results34, go_sem]) rfl ⟨?_, ?_⟩
  · have e1 : ((UInt8.ofNat a.toNat).toNat : Int) = a := by simp; omega
    have e2 : ((UInt8.ofNat b.toNat).toNat : Int) = b := by simp; omega
    have e : bv (hdr a.toNat b.toNat) = .agg #[.int .u8 1, .int .u8 ((UInt8.ofNat a.toNat).toNat : Int), .int .u8 ((UInt8.ofNat b.toNat).toNat : Int), .int .u8 0] := rfl
    rw [e, e1, e2]
  · exact g_alloc (g_alloc (g_refl _ _) _) _

end Go.Proofs.Qxb6500338a
