/-
  The walk's state.
-/
import Derived.Test.Qxb6500338aW15
namespace Go.Proofs.Qxb6500338a
open Go.RowKit

/-- What stands at the head of every round: H: the heap's size when the law was called · bb: the box of b. -/
structure St (H bb : Nat) (wr : World) (p d m mb : Nat) (now bas : List Blk) (log : List (Nat × Blk)) (mnow mbnow : List Blk) : Prop where
  box : At wr bb 29 #[.pointer (some ⟨d, 0, none⟩)]
  pair : PairAt wr p d
  disk : DiskAt H wr d now bas log
  mod : ModAt wr m mnow
  modb : ModAt wr mb mbnow
  hbb : H ≤ bb
  hd : H ≤ d
  hm : H ≤ m
  ne : m ≠ mb
  inv : Inv now bas log mnow mbnow
  short : log.length < 100

theorem ModAt.blk {w : World} {m : Nat} {now : List Blk} (h : ModAt w m now) : ∃ C, At w m 55 C := by obtain ⟨_, _, h, _⟩ := h; exact ⟨_, h⟩
theorem ModNil.blk {w : World} {m : Nat} {now : List Blk} (h : ModNil w m now) : ∃ C, At w m 55 C := by obtain ⟨_, h, _⟩ := h; exact ⟨_, h⟩
theorem DiskAt.blk {base : Nat} {w : World} {d : Nat} {now bas : List Blk} {log : List (Nat × Blk)} (h : DiskAt base w d now bas log) : ∃ C, At w d 65 C := by obtain ⟨_, _, h, _⟩ := h; exact ⟨_, h⟩

/-- Nothing that was there when the law was called has turned. -/
theorem kept2_grown {d m : Nat} {w wr w' : World} (g : w.grownBy wr none) (k : Kept2 d m wr w') (hd : w.heap.size ≤ d) (hm : w.heap.size ≤ m) : w.grownBy w' none :=
  ⟨k.os.trans g.os, k.tape.trans g.tape, k.output.trans g.output, Nat.le_trans g.size k.size,
    fun i hi _ => (k.block i (Nat.lt_of_lt_of_le hi g.size) (by omega) (by omega)).trans (g.block i hi (by simp))⟩
/-- The script's ops lie in memory. -/
def Script (w : World) (ao : Option Addr) (len : Nat) : Prop := ∀ i, i < len → ∃ sb so, ao = some ⟨sb, so, none⟩ ∧ ∃ (k a b c : Int) (s t : ByteArray), w.cell? ⟨sb, so + i * 6, none⟩ = some (.int .i64 k) ∧ w.cell? ⟨sb, so + i * 6 + 1, none⟩ = some (.int .i64 a) ∧ w.cell? ⟨sb, so + i * 6 + 2, none⟩ = some (.int .i64 b) ∧
  w.cell? ⟨sb, so + i * 6 + 3, none⟩ = some (.int .i64 c) ∧ w.cell? ⟨sb, so + i * 6 + 4, none⟩ = some (.string s) ∧ w.cell? ⟨sb, so + i * 6 + 5, none⟩ = some (.string t) ∧ s.size ≤ maxLen ∧ t.size ≤ maxLen
/-- What walk answers. -/
def WalkPost (w : World) (e : Ending) (w' : World) : Prop := (∃ n, e = .returned (.tuple #[.int .i64 (-1), .int .i64 n])) ∧ w.grownBy w' none
/-- The loop's relation. -/
def Rl (w : World) (bb len : Nat) (s9 s10 s11 s13 : Value) (wr : World) : Prop :=
  ∃ (k p d m mb : Nat) (now bas : List Blk) (log : List (Nat × Blk)) (mnow mbnow : List Blk), k ≤ len ∧ (k : Int) ≤ 4398046511104 ∧ s13 = .int .i64 k ∧ s9 = .pointer (some ⟨p, 0, none⟩) ∧ s10 = .pointer (some ⟨m, 0, none⟩) ∧ s11 = .pointer (some ⟨mb, 0, none⟩) ∧
    St w.heap.size bb wr p d m mb now bas log mnow mbnow ∧ w.grownBy wr none
theorem inv_zero : Inv [zB, zB, zB, zB, zB, zB, zB, zB] [zB, zB, zB, zB, zB, zB, zB, zB] [] [zB, zB, zB, zB, zB] [zB, zB, zB, zB, zB] := inv_mark _ _ rfl rfl rfl
theorem St.ext {H bb : Nat} {wr w' : World} {p d m mb : Nat} {now bas : List Blk} {log : List (Nat × Blk)} {mnow mbnow : List Blk} (h : St H bb wr p d m mb now bas log mnow mbnow) (g : wr.grownBy w' none) : St H bb w' p d m mb now bas log mnow mbnow :=
  ⟨h.box.ext g, At.ext h.pair g, h.disk.ext g, h.mod.ext g (by simp), h.modb.ext g (by simp), h.hbb, h.hd, h.hm, h.ne, h.inv, h.short⟩


theorem St.md {H bb : Nat} {wr : World} {p d m mb : Nat} {now bas : List Blk} {log : List (Nat × Blk)} {mnow mbnow : List Blk} (h : St H bb wr p d m mb now bas log mnow mbnow) : some m ≠ some d := by
  obtain ⟨Cm, hm⟩ := h.mod.blk
  obtain ⟨Cd, hd⟩ := h.disk.blk
  simpa using At.ne hm hd (by decide)

/-- Behind the marks and the clone: what the op finds. -/
theorem marks_ready {H bb ob p d m mb : Nat} {w1 w2 w3 w4 : World} {now bas : List Blk} {log : List (Nat × Blk)} {mnow mbnow : List Blk} {C : Array Value} (h : St H bb w1 p d m mb now bas log mnow mbnow) (hO : At w1 ob 38 C)
    (hN : DiskNil w2 d now now) (g2 : w1.grownBy w2 (some d)) (hM : ModNil w3 m mnow) (g3 : w2.grownBy w3 (some m)) (g4 : w3.grownBy w4 none) :
    Ready w4 p d m now mnow ∧ At w4 ob 38 C ∧ At w4 bb 29 #[.pointer (some ⟨d, 0, none⟩)] ∧ Kept2 d m w1 w4 := by
  obtain ⟨Cm, hm⟩ := h.mod.blk
  obtain ⟨Cd, hd⟩ := h.disk.blk
  have k : Kept2 d m w1 w4 := ((Kept2.left g2).trans (Kept2.right g3)).trans (Kept2.none g4)
  have hdm : some d ≠ some m := by simpa using At.ne hd hm (by decide)
  exact ⟨⟨k.at h.pair (At.ne h.pair hd (by decide)) (At.ne h.pair hm (by decide)), (hN.ext g3 hdm).ext g4 (by simp), hM.ext g4 (by simp), h.inv.idle, h.inv.mod⟩,
    k.at hO (At.ne hO hd (by decide)) (At.ne hO hm (by decide)), k.at h.box (At.ne h.box hd (by decide)) (At.ne h.box hm (by decide)), k⟩

/-- Behind the op: the state again. -/
theorem played_st {H bb p d m mb mb' : Nat} {w1 w4 w5 : World} {now bas now' : List Blk} {log log' : List (Nat × Blk)} {mnow mbnow mnow' : List Blk} (h : St H bb w1 p d m mb now bas log mnow mbnow)
    (hR : Ready w4 p d m now mnow) (hB : At w4 bb 29 #[.pointer (some ⟨d, 0, none⟩)]) (hMb : ModNil w4 mb' mnow) (hmb : mb' ≠ m) (hH : H ≤ w4.heap.size)
    (hD : DiskAt w4.heap.size w5 d now' now log') (hM : ModAt w5 m mnow') (k : Kept2 d m w4 w5) (hI : Inv now' now log' mnow' mnow) (hl : log'.length < 100) : St H bb w5 p d m mb' now' now log' mnow' mnow := by
  obtain ⟨Cm, hm⟩ := hR.mod.blk
  obtain ⟨Cb, hb⟩ := hMb.blk
  have hd := hR.disk.1
  obtain ⟨basb, hmb1, hmb2, hmb3⟩ := hMb
  exact ⟨k.at hB (At.ne hB hd (by decide)) (At.ne hB hm (by decide)), k.at hR.pair (At.ne hR.pair hd (by decide)) (At.ne hR.pair hm (by decide)), hD.mono hH, hM,
    ⟨basb, _, k.at hmb1 (At.ne hmb1 hd (by decide)) hmb, hmb2, hmb3⟩, h.hbb, h.hd, h.hm, hmb.symm, hI, hl⟩

theorem alike_inv {now bas : List Blk} {log : List (Nat × Blk)} {m mb : List Blk} (h : Inv now bas log m mb) : alike now m = true := by
  unfold alike
  rw [decide_eq_true_eq]
  exact h.mod
end Go.Proofs.Qxb6500338a
