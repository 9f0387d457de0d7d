/-
  Memory: blocks known whole, what a call keeps, and how a disk and a model lie in memory. No program.
-/
import Derived.WalkKit
import Derived.Deep.MidRow
import Derived.Test.Qxb6500337aPlain
namespace Go.Proofs.Qxb6500337a
open Go.RowKit

/-! ### blocks -/
/-- Block b is the row C of type t, and may be written. -/
def At (w : World) (b : Nat) (t : TypeId) (C : Array Value) : Prop := w.heap[b]? = some (.cells C t (0, 0))

section
variable {w w' : World} {b : Nat} {t : TypeId} {C : Array Value}
theorem At.lt (h : At w b t C) : b < w.heap.size := lt_of_block h
theorem At.cell (h : At w b t C) (j : Nat) : w.cell? ⟨b, j, none⟩ = C[j]? := cell_of_row w b j C t (0, 0) h
theorem At.free (h : At w b t C) (j : Nat) : w.frozen? ⟨b, j, none⟩ = false := frozen_of_row w b j C t h
theorem At.alloc (h : At w b t C) (o : Obj) : At (w.alloc o) b t C := by
  unfold At; rw [Below.heap_alloc w o b h.lt]; exact h
theorem At.drew (h : At w b t C) : At w.drew b t C := h
theorem At.new (w : World) (C : Array Value) (t : TypeId) : At (w.alloc (.cells C t)) w.heap.size t C := heap_alloc_new w _
theorem At.setSame (h : At w b t C) (j : Nat) (v : Value) : At (w.setCell ⟨b, j, none⟩ v) b t (C.setIfInBounds j v) := heap_setCell_same w b j C t v h
theorem At.setOther (h : At w b t C) {a : Addr} (v : Value) (hne : b ≠ a.block) : At (w.setCell a v) b t C := by
  unfold At; rw [heap_setCell_other w a b v hne]; exact h
theorem At.kept {r : Option Nat} (h : At w b t C) (hg : w.grownBy w' r) (hne : some b ≠ r) : At w' b t C := by
  unfold At; rw [hg.block b h.lt hne]; exact h
theorem At.ext (h : At w b t C) (hg : w.grownBy w' none) : At w' b t C := h.kept hg (by simp)
theorem At.inj {t' : TypeId} {C' : Array Value} (h : At w b t C) (h' : At w b t' C') : t = t' ∧ C = C' := by
  unfold At at h h'; rw [h] at h'; simp only [Option.some.injEq, Obj.cells.injEq] at h'; exact ⟨h'.2.1, h'.1⟩
theorem At.ne {b' : Nat} {t' : TypeId} {C' : Array Value} (h : At w b t C) (h' : At w b' t' C') (ht : t ≠ t') : b ≠ b' := by
  intro e; subst e; exact ht (h.inj h').1
end

/-! ### what a call keeps -/
section
variable {w w1 w2 : World} {r : Option Nat}
theorem g_refl (w : World) (r : Option Nat) : w.grownBy w r := ⟨rfl, rfl, rfl, Nat.le_refl _, fun _ _ _ => rfl⟩
theorem g_trans (h : w.grownBy w1 r) (k : w1.grownBy w2 r) : w.grownBy w2 r :=
  ⟨k.os.trans h.os, k.tape.trans h.tape, k.output.trans h.output, Nat.le_trans h.size k.size,
    fun i hi hr => (k.block i (Nat.lt_of_lt_of_le hi h.size) hr).trans (h.block i hi hr)⟩
theorem g_some (h : w.grownBy w1 none) (r : Option Nat) : w.grownBy w1 r := ⟨h.os, h.tape, h.output, h.size, fun i hi _ => h.block i hi (by simp)⟩
/-- Behind writes to a block that was not there at the start. -/
theorem g_new (h : w.grownBy w1 r) {k : Nat} (hk : w.heap.size ≤ k) (g : w1.grownBy w2 (some k)) : w.grownBy w2 r :=
  ⟨g.os.trans h.os, g.tape.trans h.tape, g.output.trans h.output, Nat.le_trans h.size g.size,
    fun i hi hr => (g.block i (Nat.lt_of_lt_of_le hi h.size) (by simp; omega)).trans (h.block i hi hr)⟩
theorem g_alloc (h : w.grownBy w1 r) (o : Obj) : w.grownBy (w1.alloc o) r :=
  g_trans h ⟨rfl, rfl, rfl, by simp, fun k hk _ => Below.heap_alloc w1 o k hk⟩
theorem g_drew (h : w.grownBy w1 r) : w.grownBy w1.drew r := ⟨h.os, h.tape, h.output, h.size, h.block⟩
theorem g_setCell (h : w.grownBy w1 r) {a : Addr} (ha : w.heap.size ≤ a.block ∨ r = some a.block) (v : Value) : w.grownBy (w1.setCell a v) r :=
  ⟨h.os, h.tape, h.output, by simpa using h.size, fun i hi hr => by
    rw [heap_setCell_other w1 a i v (by rintro rfl; rcases ha with ha | ha; exact absurd hi (by omega); exact hr ha.symm)]; exact h.block i hi hr⟩
theorem g_set (h : w.grownBy w1 r) (b o : Nat) (v : Value) (ha : w.heap.size ≤ b ∨ r = some b) : w.grownBy (w1.setCell ⟨b, o, none⟩ v) r := g_setCell h ha v
theorem g_own {b : Nat} (h : w.grownBy w1 (some b)) (o : Nat) (v : Value) : w.grownBy (w1.setCell ⟨b, o, none⟩ v) (some b) := g_setCell h (Or.inr rfl) v
end

/-- Below 'base' nothing but block d has turned. -/
structure Low (base d : Nat) (w w' : World) : Prop where
  os : w'.os = w.os
  tape : w'.tape = w.tape
  output : w'.output = w.output
  size : w.heap.size ≤ w'.heap.size
  block : ∀ k, k < base → k ≠ d → w'.heap[k]? = w.heap[k]?

section
variable {base d : Nat} {w w1 w2 : World}
theorem Low.refl (base d : Nat) (w : World) : Low base d w w := ⟨rfl, rfl, rfl, Nat.le_refl _, fun _ _ _ => rfl⟩
theorem Low.trans (h : Low base d w w1) (k : Low base d w1 w2) : Low base d w w2 :=
  ⟨k.os.trans h.os, k.tape.trans h.tape, k.output.trans h.output, Nat.le_trans h.size k.size, fun i hi hd => (k.block i hi hd).trans (h.block i hi hd)⟩
theorem Low.grown {r : Option Nat} (h : Low base d w w1) (g : w1.grownBy w2 r) (hb : base ≤ w1.heap.size) (hr : ∀ k, r = some k → base ≤ k ∨ k = d) : Low base d w w2 :=
  h.trans ⟨g.os, g.tape, g.output, g.size, fun i hi hd => g.block i (by omega) (fun e => by rcases hr i e.symm with h | h <;> omega)⟩
theorem Low.alloc (h : Low base d w w1) (hb : base ≤ w1.heap.size) (o : Obj) : Low base d w (w1.alloc o) :=
  h.grown (World.grownBy_alloc w1 o none) hb (by simp)
theorem Low.drew (h : Low base d w w1) : Low base d w w1.drew := ⟨h.os, h.tape, h.output, h.size, h.block⟩
theorem Low.setCell (h : Low base d w w1) {a : Addr} (ha : base ≤ a.block ∨ a.block = d) (v : Value) : Low base d w (w1.setCell a v) :=
  ⟨h.os, h.tape, h.output, by simpa using h.size, fun i hi hd => by
    rw [heap_setCell_other w1 a i v (by rintro rfl; rcases ha with ha | ha <;> omega)]; exact h.block i hi hd⟩
theorem Low.own (h : Low base d w w1) (o : Nat) (v : Value) : Low base d w (w1.setCell ⟨d, o, none⟩ v) := h.setCell (Or.inr rfl) v
theorem Low.at {b : Nat} {t : TypeId} {C : Array Value} (h : Low base d w w1) (ha : At w b t C) (hb : b < base) (hd : b ≠ d) : At w1 b t C := by
  unfold At; rw [h.block b hb hd]; exact ha
/-- With 'base' the heap's size at the start. -/
theorem Low.toGrown (h : Low base d w w1) (hb : w.heap.size ≤ base) : w.grownBy w1 (some d) :=
  ⟨h.os, h.tape, h.output, h.size, fun k hk hd => h.block k (by omega) (fun e => hd (by rw [e]))⟩
end

/-! ### blocks of bytes as cells -/
/-- A block as a value. -/
abbrev bv (x : Blk) : Value := .agg #[.int .u8 x.1.toNat, .int .u8 x.2.1.toNat, .int .u8 x.2.2.1.toNat, .int .u8 x.2.2.2.toNat]
/-- A block as cells. -/
abbrev bc (x : Blk) : Array Value := #[.int .u8 x.1.toNat, .int .u8 x.2.1.toNat, .int .u8 x.2.2.1.toNat, .int .u8 x.2.2.2.toNat]
def encB (x : Blk) : List Value := [.int .u8 x.1.toNat, .int .u8 x.2.1.toNat, .int .u8 x.2.2.1.toNat, .int .u8 x.2.2.2.toNat]
def encs : List Blk → List Value
  | [] => []
  | x :: l => encB x ++ encs l

theorem encB_length (x : Blk) : (encB x).length = 4 := rfl
theorem encs_length : ∀ l : List Blk, (encs l).length = 4 * l.length
  | [] => rfl
  | x :: l => by rw [encs, List.length_append, encs_length l, encB_length, List.length_cons]; omega
theorem encs_append : ∀ l k : List Blk, encs (l ++ k) = encs l ++ encs k
  | [], _ => rfl
  | x :: l, k => by rw [List.cons_append, encs, encs, encs_append l k, List.append_assoc]
theorem encs_one : ∀ l : List Blk, ∀ v ∈ encs l, v.oneCell' = true
  | [], v, h => by simp [encs] at h
  | x :: l, v, h => by
    rw [encs, List.mem_append] at h
    rcases h with h | h
    · simp only [encB, List.mem_cons, List.not_mem_nil, or_false] at h
      rcases h with rfl | rfl | rfl | rfl <;> rfl
    · exact encs_one l v h
theorem encB_one (x : Blk) : ∀ v ∈ encB x, v.oneCell' = true := by
  intro v h
  simp only [encB, List.mem_cons, List.not_mem_nil, or_false] at h
  rcases h with rfl | rfl | rfl | rfl <;> rfl

theorem encs_get : ∀ (l : List Blk) (i j : Nat), j < 4 → (encs l)[i * 4 + j]? = (l[i]?).bind fun x => (encB x)[j]?
  | [], i, j, _ => by simp [encs]
  | x :: l, 0, j, hj => by rw [encs]; simp [List.getElem?_append, encB_length, hj]
  | x :: l, i + 1, j, hj => by
    rw [encs, List.getElem?_append_right (by rw [encB_length]; omega), encB_length, show (i + 1) * 4 + j - 4 = i * 4 + j from by omega, encs_get l i j hj]
    simp

/-- A store of a block: cell by cell. -/
theorem encs_set : ∀ (l : List Blk) (i : Nat) (x : Blk), i < l.length →
    ((((encs l).set (i * 4) (.int .u8 x.1.toNat)).set (i * 4 + 1) (.int .u8 x.2.1.toNat)).set (i * 4 + 2) (.int .u8 x.2.2.1.toNat)).set (i * 4 + 3) (.int .u8 x.2.2.2.toNat) = encs (l.set i x)
  | [], i, x, h => by simp at h
  | y :: l, 0, x, _ => by simp [encs, encB]
  | y :: l, i + 1, x, h => by
    have ih := encs_set l i x (by simpa using h)
    have e : (i + 1) * 4 = i * 4 + 4 := by omega
    rw [List.set_cons_succ, encs, encs, ← ih, e]
    simp [encB]

/-! ### the disk -/
def diskCells (now bas : List Blk) (va vv : Value) : Array Value := (encs now ++ encs bas ++ [va, vv]).toArray

theorem diskCells_size (now bas : List Blk) (va vv : Value) (h1 : now.length = 8) (h2 : bas.length = 8) : (diskCells now bas va vv).size = 66 := by
  simp [diskCells, encs_length, h1, h2]
theorem diskCells_now (now bas : List Blk) (va vv : Value) (i j : Nat) (h1 : now.length = 8) (hi : i < 8) (hj : j < 4) : (diskCells now bas va vv)[i * 4 + j]? = (encB (now.getD i zB))[j]? := by
  have e : now[i]? = some (now.getD i zB) := by simp [List.getD, List.getElem?_eq_getElem (show i < now.length by omega)]
  rw [diskCells, List.getElem?_toArray, List.append_assoc, List.getElem?_append_left (by rw [encs_length]; omega), encs_get _ _ _ hj, e]
  rfl
theorem diskCells_at (now bas : List Blk) (va vv : Value) (h1 : now.length = 8) (h2 : bas.length = 8) : (diskCells now bas va vv)[64]? = some va := by
  rw [diskCells, List.getElem?_toArray, List.getElem?_append_right (by simp [encs_length, h1, h2])]; simp [encs_length, h1, h2]
theorem diskCells_val (now bas : List Blk) (va vv : Value) (h1 : now.length = 8) (h2 : bas.length = 8) : (diskCells now bas va vv)[65]? = some vv := by
  rw [diskCells, List.getElem?_toArray, List.getElem?_append_right (by simp [encs_length, h1, h2])]; simp [encs_length, h1, h2]
theorem diskCells_setAt (now bas : List Blk) (va vv u : Value) (h1 : now.length = 8) (h2 : bas.length = 8) : (diskCells now bas va vv).setIfInBounds 64 u = diskCells now bas u vv := by
  rw [diskCells, List.setIfInBounds_toArray, List.set_append_right _ _ (by simp [encs_length, h1, h2])]; simp [encs_length, h1, h2, diskCells]
theorem diskCells_setVal (now bas : List Blk) (va vv u : Value) (h1 : now.length = 8) (h2 : bas.length = 8) : (diskCells now bas va vv).setIfInBounds 65 u = diskCells now bas va u := by
  rw [diskCells, List.setIfInBounds_toArray, List.set_append_right _ _ (by simp [encs_length, h1, h2])]; simp [encs_length, h1, h2, diskCells]
theorem diskCells_put (now bas : List Blk) (va vv : Value) (i : Nat) (x : Blk) (h1 : now.length = 8) (hi : i < 8) :
    ((((diskCells now bas va vv).setIfInBounds (i * 4) (.int .u8 x.1.toNat)).setIfInBounds (i * 4 + 1) (.int .u8 x.2.1.toNat)).setIfInBounds (i * 4 + 2) (.int .u8 x.2.2.1.toNat)).setIfInBounds (i * 4 + 3) (.int .u8 x.2.2.2.toNat) = diskCells (now.set i x) bas va vv := by
  have hl := encs_length now
  simp only [diskCells, List.setIfInBounds_toArray, List.append_assoc]
  rw [List.set_append_left _ _ (by omega), List.set_append_left _ _ (by simp; omega), List.set_append_left _ _ (by simp; omega), List.set_append_left _ _ (by simp; omega), encs_set _ _ _ (by omega)]

/-- The disk d: what it shows, as at the mark, and the log; its rows lie from 'base' on. -/
def DiskAt (base : Nat) (w : World) (d : Nat) (now bas : List Blk) (log : List (Nat × Blk)) : Prop :=
  ∃ va vv, At w d 61 (diskCells now bas va vv) ∧ now.length = 8 ∧ bas.length = 8 ∧ (∀ p ∈ log, p.1 < 8) ∧
    w.ownsRow base 3 1 va log.length (log.map fun p => .int .i64 p.1) ∧ w.ownsRow base 56 4 vv log.length (encs (log.map (·.2)))

theorem DiskAt.ext {base d : Nat} {w w' : World} {now bas : List Blk} {log : List (Nat × Blk)} (h : DiskAt base w d now bas log) (g : w.grownBy w' none) : DiskAt base w' d now bas log := by
  obtain ⟨va, vv, h, h1, h2, h3, h4, h5⟩ := h
  exact ⟨va, vv, h.ext g, h1, h2, h3, h4.kept g (by cases va.ownBlock <;> simp), h5.kept g (by cases vv.ownBlock <;> simp)⟩
/-- Another block than the disk's own (known by its type) is written. -/
theorem DiskAt.kept {base d k : Nat} {w w' : World} {now bas : List Blk} {log : List (Nat × Blk)} {t : TypeId} {C : Array Value} (h : DiskAt base w d now bas log) (g : w.grownBy w' (some k)) (hk : At w k t C)
    (h65 : t ≠ 61) (h3 : t ≠ 3) (h44 : t ≠ 56) : DiskAt base w' d now bas log := by
  obtain ⟨va, vv, h, h1, h2, h4, h5, h6⟩ := h
  have own : ∀ {e size : Nat} {v : Value} {n : Nat} {xs : List Value}, w.ownsRow base e size v n xs → t ≠ e → v.ownBlock = none ∨ v.ownBlock ≠ some k := by
    intro e size v n xs ho hne
    rcases ho.2 with ⟨rfl, _⟩ | ⟨gg, cap, cur, rfl, _, hg, _⟩
    · left; rfl
    · right
      simp only [Value.ownBlock, ne_eq, Option.some.injEq]
      intro e; subst e
      exact hne (At.inj hk (show At w _ _ _ from hg)).1
  exact ⟨va, vv, h.kept g (by simp; exact fun e => (At.ne hk h h65) e.symm), h1, h2, h4, h5.kept g (own h5 h3), h6.kept g (own h6 h44)⟩
/-- With an empty log: whatever the base. -/
theorem DiskAt.rebase {base' d : Nat} {w : World} {now bas : List Blk} {va vv : Value} (h : At w d 61 (diskCells now bas va vv)) (hva : va = .slice none 0 0) (hvv : vv = .slice none 0 0) (h1 : now.length = 8) (h2 : bas.length = 8) : DiskAt base' w d now bas [] := by
  subst hva hvv
  exact ⟨_, _, h, h1, h2, by simp, World.ownsRow_nil _ _ _ _, World.ownsRow_nil _ _ _ _⟩

end Go.Proofs.Qxb6500337a
