/-
  Laws of the walk for a part of a block that is known whole. Over any program.
-/
import Derived.Test.Qxb6500337aMem
namespace Go.Proofs.Qxb6500337a
open Go.RowKit

/-- The cells cs lie in C from o on. -/
def Part (C : Array Value) (o : Nat) (cs : List Value) : Prop := ∀ j v, cs[j]? = some v → C[o + j]? = some v
/-- C with the cells cs laid from o on. -/
def laid (C : Array Value) (o : Nat) (cs : List Value) : Array Value := (C.toList.take o ++ cs ++ C.toList.drop (o + cs.length)).toArray

section
variable {P : Program} {ops : Array Oper} {rest : List Oper} {op : Oper} {a : Act} {w : World} {Q : Exit → Act → World → Prop}

theorem run_loadVar_at (b o : Nat) (t ty : TypeId) (C : Array Value) (cs : List Value) (d : TypeDesc) (hA : At w b t C) (hp : Part C o cs)
    (hu : P.underlying ty = some d) (hd : d.isRow = true) (hi : (P.info? ty).map (·.size) = some cs.length) :
    (loadVar ty ⟨b, o, none⟩).run P w = .ok (.agg cs.toArray) w :=
  run_loadVar_mid w b o ty cs d (fun j v hv => (hA.cell (o + j)).trans (hp j v hv)) hu hd hi

theorem wpList_load_at (hgd : op.guard = none) (ty : TypeId) (x : Operand) (ho : op.op = .load ty x)
    (b o : Nat) (hx : a.eval x = .pointer (some ⟨b, o, none⟩)) (t : TypeId) (C : Array Value) (cs : List Value) (d : TypeDesc)
    (hu : P.underlying ty = some d) (hd : d.isRow = true) (hi : (P.info? ty).map (·.size) = some cs.length) (hA : At w b t C) (hp : Part C o cs)
    (h : wpList P ops Q rest (a.put op.dst (.agg cs.toArray)) w) : wpList P ops Q (op :: rest) a w :=
  wpList_load_mid hgd ty x ho b o hx cs d (fun j v hv => (hA.cell (o + j)).trans (hp j v hv)) hu hd hi h

theorem setCells_at (b : Nat) (t : TypeId) : ∀ (vs : List Value) (o : Nat) (C : Array Value) (w : World), At w b t C → o + vs.length ≤ C.size → At (w.setCells b o vs) b t (laid C o vs)
  | [], o, C, w, h, _ => by
    have e : laid C o [] = C := by simp [laid]
    rw [World.setCells, e]; exact h
  | v :: vs, o, C, w, h, hl => by
    rw [World.setCells]
    have ih := setCells_at b t vs (o + 1) (C.setIfInBounds o v) (w.setCell ⟨b, o, none⟩ v) (h.setSame o v) (by simp at hl ⊢; omega)
    have e : laid (C.setIfInBounds o v) (o + 1) vs = laid C o (v :: vs) := by
      have := list_seg_step C.toList o v vs (by simp at hl ⊢; omega)
      simp only [laid, Array.toList_setIfInBounds, List.length_cons] at this ⊢
      rw [← this]
    rw [e] at ih; exact ih

theorem setCells_grown (b : Nat) : ∀ (vs : List Value) (o : Nat) (w : World), w.grownBy (w.setCells b o vs) (some b)
  | [], o, w => by rw [World.setCells]; exact g_refl _ _
  | v :: vs, o, w => by
    rw [World.setCells]
    exact g_trans (g_setCell (g_refl w _) (Or.inr rfl) v) (setCells_grown b vs (o + 1) _)

theorem setCells_size (b : Nat) : ∀ (vs : List Value) (o : Nat) (w : World), (w.setCells b o vs).heap.size = w.heap.size
  | [], o, w => by rw [World.setCells]
  | v :: vs, o, w => by rw [World.setCells, setCells_size b vs]; simp

/-- A store of a row into a block that is known whole: the world behind it is a letter. -/
theorem wpList_store_at (hgd : op.guard = none) (ty : TypeId) (x y : Operand) (ho : op.op = .store ty x y)
    (b o : Nat) (cs : List Value) (hx : a.eval x = .pointer (some ⟨b, o, none⟩)) (hy : a.eval y = .agg cs.toArray) (t : TypeId) (C : Array Value)
    (hi : (P.info? ty).map (·.size) = some cs.length) (h1 : ∀ v ∈ cs, v.oneCell' = true) (hA : At w b t C) (hsz : o + cs.length ≤ C.size)
    (h : ∀ w2, At w2 b t (laid C o cs) → w.grownBy w2 (some b) → w2.heap.size = w.heap.size → wpList P ops Q rest (a.put op.dst undef) w2) : wpList P ops Q (op :: rest) a w := by
  refine wpList_store_mid hgd ty x y ho b o cs.toArray hx hy ?_ (by simpa using hi) (all_oneCell_toArray h1) ?_
  · intro j hj
    rw [hA.cell, hA.free]
    simp at hj
    simp
    omega
  · exact h _ (setCells_at b t cs o C w hA hsz) (setCells_grown b cs o w) (setCells_size b cs o w)
end

/-! ### the parts of a disk and of a model -/
theorem disk_now (now bas : List Blk) (va vv : Value) : Part (diskCells now bas va vv) 0 (encs now) := fun j v h => by
  rw [diskCells, List.getElem?_toArray, List.append_assoc, Nat.zero_add, List.getElem?_append_left (List.getElem?_eq_some_iff.1 h).1]; exact h
theorem disk_bas (now bas : List Blk) (va vv : Value) (h1 : now.length = 8) : Part (diskCells now bas va vv) 32 (encs bas) := fun j v h => by
  have hj := (List.getElem?_eq_some_iff.1 h).1
  rw [diskCells, List.getElem?_toArray, List.append_assoc, List.getElem?_append_right (by rw [encs_length]; omega), encs_length, show 32 + j - 4 * now.length = j from by omega, List.getElem?_append_left hj]; exact h
theorem laid_head {A B : List Value} (cs : List Value) (h : cs.length = A.length) : laid (A ++ B).toArray 0 cs = (cs ++ B).toArray := by
  simp only [laid, List.take_zero, List.nil_append, Nat.zero_add, h, List.drop_left]
theorem laid_mid {A M B : List Value} (o : Nat) (cs : List Value) (ho : A.length = o) (h : cs.length = M.length) : laid (A ++ M ++ B).toArray o cs = (A ++ cs ++ B).toArray := by
  subst ho
  simp only [laid, h, List.append_assoc, List.take_left]
  rw [← List.drop_drop, List.drop_left, List.drop_left]

theorem disk_laid_now (now bas k : List Blk) (va vv : Value) (h : k.length = now.length) : laid (diskCells now bas va vv) 0 (encs k) = diskCells k bas va vv := by
  unfold diskCells
  rw [List.append_assoc, laid_head _ (by rw [encs_length, encs_length, h]), List.append_assoc]
theorem disk_laid_bas (now bas k : List Blk) (va vv : Value) (h1 : now.length = 8) (h : k.length = bas.length) : laid (diskCells now bas va vv) 32 (encs k) = diskCells now k va vv := by
  unfold diskCells
  rw [laid_mid _ _ (by rw [encs_length, h1]) (by rw [encs_length, encs_length, h])]
end Go.Proofs.Qxb6500337a
