/-
  Walks: the leaves.
-/
import Derived.Test.Qxb6500337aProg
import Derived.WalkKit
import Derived.WalkSpells
import Derived.Deep.RegionHeld3
import Derived.Deep.MidRow
import Derived.KernelRfl
import Derived.Test.Qxb6500337aMem
namespace Go.Proofs.Qxb6500337a
open Go.RowKit

/-- Home. -/
theorem home_calls (a : Int) (w : World) (h0 : 0 ≤ a) (h1 : a < 5) : Calls Try.prog 29 #[.int .i64 a] w fun e w' => e = .returned (.int .i64 (3 + a)) ∧ w' = w := by
  go_enter Try.func29, Try.ntmps29
  go_wp2
  go_ret
  exact ⟨rfl, rfl⟩

def zDisk : Array Value := diskCells [zB, zB, zB, zB, zB, zB, zB, zB] [zB, zB, zB, zB, zB, zB, zB, zB] (.slice none 0 0) (.slice none 0 0)
theorem zero65 (w : World) : (zeroValue 61).run Try.prog w = .ok (.agg zDisk) w := by kernel_rfl
/-- diskm.New. -/
theorem newDisk_calls (w : World) : Calls Try.prog 18 #[] w fun e w' => e = .returned (.pointer (some ⟨w.heap.size, 0, none⟩)) ∧ w' = w.alloc (.cells zDisk 61) := by
  have hz := zero65
  go_enter Try.func18, Try.ntmps18
  go_wp2
  go_ret
  exact ⟨rfl, rfl⟩

/-- (*Disk).Steps. -/
theorem dsteps_calls (base d : Nat) (now bas : List Blk) (log : List (Nat × Blk)) (w : World) (hD : DiskAt base w d now bas log) :
    Calls Try.prog 20 #[.pointer (some ⟨d, 0, none⟩)] w fun e w' => e = .returned (.int .i64 log.length) ∧ w' = w := by
  obtain ⟨va, vv, hd, h1, h2, h3, h4, h5⟩ := hD
  have c : w.cell? ⟨d, 64, none⟩ = some va := (hd.cell 64).trans (diskCells_at now bas va vv h1 h2)
  obtain ⟨a, cap, rfl⟩ : ∃ a cap, va = .slice a log.length cap := by
    rcases h4.2 with ⟨rfl, h⟩ | ⟨g, cap, cur, rfl, _⟩
    · exact ⟨_, _, by rw [h]⟩
    · exact ⟨_, _, rfl⟩
  clear hd h4 h5 h3 h1 h2
  go_enter Try.func20, Try.ntmps20
  go_wp2
  go_ret
  exact ⟨rfl, rfl⟩
/-- The four cells of a block of the disk. -/
theorem disk_cells4 {w : World} {d : Nat} {now bas : List Blk} {va vv : Value} (h : At w d 61 (diskCells now bas va vv)) (h1 : now.length = 8) (i : Nat) (hi : i < 8) :
    w.cell? ⟨d, i * 4, none⟩ = some (.int .u8 (now.getD i zB).1.toNat) ∧ w.cell? ⟨d, i * 4 + 1, none⟩ = some (.int .u8 (now.getD i zB).2.1.toNat) ∧
    w.cell? ⟨d, i * 4 + 2, none⟩ = some (.int .u8 (now.getD i zB).2.2.1.toNat) ∧ w.cell? ⟨d, i * 4 + 3, none⟩ = some (.int .u8 (now.getD i zB).2.2.2.toNat) :=
  ⟨(h.cell _).trans (diskCells_now now bas va vv i 0 h1 hi (by omega)), (h.cell _).trans (diskCells_now now bas va vv i 1 h1 hi (by omega)),
   (h.cell _).trans (diskCells_now now bas va vv i 2 h1 hi (by omega)), (h.cell _).trans (diskCells_now now bas va vv i 3 h1 hi (by omega))⟩
/-- (*Disk).Read in range. -/
theorem read_calls (base d : Nat) (now bas : List Blk) (log : List (Nat × Blk)) (i : Int) (w : World) (hD : DiskAt base w d now bas log) (h0 : 0 ≤ i) (h8 : i < 8) :
    Calls Try.prog 27 #[.pointer (some ⟨d, 0, none⟩), .int .i64 i] w fun e w' => e = .returned (.tuple #[bv (now.getD i.toNat zB), .int .i64 0]) ∧ w.grownBy w' none := by
  obtain ⟨va, vv, hd, h1, h2, h3, h4, h5⟩ := hD
  have hlt := hd.lt
  obtain ⟨c0, c1, c2, c3⟩ := disk_cells4 hd h1 i.toNat (by omega)
  clear hd h4 h5 h3 h1 h2
  generalize now.getD i.toNat zB = x at *
  go_enter Try.func27, Try.ntmps27
  go_wp2
  refine bodyPost_ret (v := .tuple #[bv x, .int .i64 0]) (by simp [results, Try.results27, go_sem]) rfl ⟨rfl, ?_⟩
  exact g_alloc (g_refl _ _) _

/-- HeaderOf. -/
theorem header_calls (a b : Int) (w : World) (ha : 0 ≤ a) (ha5 : a < 5) (hb : 0 ≤ b) (hb5 : b < 5) :
    Calls Try.prog 43 #[.int .i64 a, .int .i64 b] w fun e w' => e = .returned (bv (hdr a.toNat b.toNat)) ∧ w.grownBy w' none := by
  go_enter Try.func43, Try.ntmps43
  go_wp2
  refine bodyPost_ret (v := .agg #[.int .u8 1, .int .u8 a, .int .u8 b, .int .u8 0]) (by simp [results, Try.results43, go_sem]) rfl ⟨?_, ?_⟩
  · have e1 : ((UInt8.ofNat a.toNat).toNat : Int) = a := by simp; omega
    have e2 : ((UInt8.ofNat b.toNat).toNat : Int) = b := by simp; omega
    have e : bv (hdr a.toNat b.toNat) = .agg #[.int .u8 1, .int .u8 ((UInt8.ofNat a.toNat).toNat : Int), .int .u8 ((UInt8.ofNat b.toNat).toNat : Int), .int .u8 0] := rfl
    rw [e, e1, e2]
  · exact g_alloc (g_alloc (g_refl _ _) _) _

end Go.Proofs.Qxb6500337a
