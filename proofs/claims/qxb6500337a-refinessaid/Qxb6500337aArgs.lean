/-
  The script as it came in.
-/
import Derived.Test.Qxb6500337aRows
import Derived.Test.Qxb6500337aC1
import Derived.ProofKit
import Derived.OpenShut
import Derived.ShutString
import Derived.ChangeOld
import Derived.Below
import Derived.Deep.Slices
namespace Go.Proofs.Qxb6500337a
open Go.ChangeShapes Go.WideShapes Go.ChangeAt Go.RowKit

theorem own : ownKnob Try.prog.godebug = none := by kernel_rfl
theorem laidOut : laidOutB Try.prog = true := by kernel_rfl
theorem cells39 : Try.prog.cellsOf 39 = 6 := by kernel_rfl
theorem cells3 : Try.prog.cellsOf 3 = 1 := by kernel_rfl
theorem cells9 : Try.prog.cellsOf 9 = 1 := by kernel_rfl

theorem script_of {H : Type} {enc : TypeId × Value → H} {W : World} {a0 : Option Addr} {len cap fuel : Nat} {x : DataW H × List MemPlace}
    (hf : DataW.trod enc Try.prog W 0 (fun _ => true) true fuel 22 (Value.cells (.slice a0 len cap)).toList = some x) : Script W a0 len := by
  rcases Go.Deep.open_slice Try.underlying22 hf with ⟨hcs, _⟩ | ⟨a, l, c, m, n, D, Pl, hcs, _, hl, hm, hmm, _, hx⟩
  · simp [Value.cells] at hcs
    obtain ⟨rfl, rfl, rfl⟩ := hcs
    intro i hi
    omega
  · simp [Value.cells] at hcs
    obtain ⟨rfl, rfl, rfl⟩ := hcs
    intro i hi
    simp at hmm
    obtain ⟨b, off, spot⟩ := a
    have hspot : spot = none := by
      obtain ⟨cs0, h10, _⟩ := hx 0 (by omega)
      rw [cells39] at h10
      obtain ⟨_, hlen0, hcell0⟩ := World.cells?_some h10
      have k0 := hcell0 0 (by omega)
      rw [List.getElem?_eq_getElem (by omega)] at k0
      have := World.cell?_spot k0
      simpa [Addr.add] using this
    subst hspot
    obtain ⟨cs, h1, h2⟩ := hx i (by omega)
    rw [cells39] at h1
    obtain ⟨_, hlen, hcell⟩ := World.cells?_some h1
    obtain ⟨xs, n', _, _, _, hxl, hfld⟩ := DataW.trod_struct Try.underlying39 h2
    match cs, hlen with
    | [c0, c1, c2, c3, c4, c5], _ =>
      match xs, hxl with
      | [x0, x1, x2, x3, x4, x5], _ =>
        have f0 := hfld 0 _ rfl
        have f1 := hfld 1 _ rfl
        have f2 := hfld 2 _ rfl
        have f3 := hfld 3 _ rfl
        have f4 := hfld 4 _ rfl
        have f5 := hfld 5 _ rfl
        simp [cells3, cells9] at f0 f1 f2 f3 f4 f5
        obtain ⟨k, e0, _, _⟩ := DataW.trod_int Try.underlying3 f0
        obtain ⟨a, e1, _, _⟩ := DataW.trod_int Try.underlying3 f1
        obtain ⟨b', e2, _, _⟩ := DataW.trod_int Try.underlying3 f2
        obtain ⟨c', e3, _, _⟩ := DataW.trod_int Try.underlying3 f3
        obtain ⟨s, e4, _, hs⟩ := DataW.trod_string Try.underlying9 f4
        obtain ⟨t, e5, _, ht⟩ := DataW.trod_string Try.underlying9 f5
        simp at e0 e1 e2 e3 e4 e5
        subst e0 e1 e2 e3 e4 e5
        have step : ∀ j, (((⟨b, off, none⟩ : Addr).add (i * 6)).add j) = ⟨b, off + i * 6 + j, none⟩ := fun j => by rw [Addr.add_mid, Addr.add_mid]
        simp only [step] at hcell
        exact ⟨b, off, rfl, k, a, b', c', s, t, hcell 0 (by omega), hcell 1 (by omega), hcell 2 (by omega), hcell 3 (by omega), hcell 4 (by omega), hcell 5 (by omega), hs, ht⟩

/-- In the guide's word. -/
theorem below_of {w w' : World} (g : w.grownBy w' none) : Below w.heap.size w w' := ⟨g.os, g.tape, g.output, g.size, fun k hk => g.block k hk (by simp)⟩
end Go.Proofs.Qxb6500337a
