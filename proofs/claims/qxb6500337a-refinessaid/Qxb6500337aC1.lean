/-
  The walk's state, and the state in the middle of a cut.
-/
import Derived.Test.Qxb6500337aB9
namespace Go.Proofs.Qxb6500337a
open Go.RowKit

abbrev bx (d p : Nat) : Array Value := #[.pointer (some ⟨d, 0, none⟩), .pointer (some ⟨p, 0, none⟩)]

/-- What stands at the head of every round: H: the heap's size when the law was called · bb: the box of b. -/
structure St (H bb : Nat) (wr : World) (x p d m mb : Nat) (now bas : List Blk) (log : List (Nat × Blk)) (bal mbal : List Nat) : Prop where
  box : At wr bb 30 (bx d p)
  view : View H wr x p d now bas log bal
  mod : ModAt wr m bal
  modb : ModAt wr mb mbal
  hbb : H ≤ bb
  hd : H ≤ d
  hm : H ≤ m
  ne : m ≠ mb
  inv : Inv now bas log (enc bal) (enc mbal)
  short : log.length < 100

theorem DiskAt.blk {base : Nat} {w : World} {d : Nat} {now bas : List Blk} {log : List (Nat × Blk)} (h : DiskAt base w d now bas log) : ∃ C, At w d 61 C := by obtain ⟨_, _, h, _⟩ := h; exact ⟨_, h⟩

/-- Nothing that was there when the law was called has turned. -/
theorem kept2_grown {d m : Nat} {w wr w' : World} (g : w.grownBy wr none) (k : Kept2 d m wr w') (hd : w.heap.size ≤ d) (hm : w.heap.size ≤ m) : w.grownBy w' none :=
  ⟨k.os.trans g.os, k.tape.trans g.tape, k.output.trans g.output, Nat.le_trans g.size k.size,
    fun i hi _ => (k.block i (Nat.lt_of_lt_of_le hi g.size) (by omega) (by omega)).trans (g.block i hi (by simp))⟩

/-- The script's ops lie in memory. -/
def Script (w : World) (ao : Option Addr) (len : Nat) : Prop := ∀ i, i < len → ∃ sb so, ao = some ⟨sb, so, none⟩ ∧ ∃ (k a b c : Int) (s t : ByteArray), w.cell? ⟨sb, so + i * 6, none⟩ = some (.int .i64 k) ∧ w.cell? ⟨sb, so + i * 6 + 1, none⟩ = some (.int .i64 a) ∧ w.cell? ⟨sb, so + i * 6 + 2, none⟩ = some (.int .i64 b) ∧
  w.cell? ⟨sb, so + i * 6 + 3, none⟩ = some (.int .i64 c) ∧ w.cell? ⟨sb, so + i * 6 + 4, none⟩ = some (.string s) ∧ w.cell? ⟨sb, so + i * 6 + 5, none⟩ = some (.string t) ∧ s.size ≤ maxLen ∧ t.size ≤ maxLen
/-- What walk answers. -/
def WalkPost (w : World) (e : Ending) (w' : World) : Prop := (∃ n, e = .returned (.tuple #[.int .i64 (-1), .int .i64 n])) ∧ w.grownBy w' none
/-- The loop's relation. -/
def Rl (w : World) (bb len : Nat) (s9 s10 s11 s13 : Value) (wr : World) : Prop :=
  ∃ (k x p d m mb : Nat) (now bas : List Blk) (log : List (Nat × Blk)) (bal mbal : List Nat), k ≤ len ∧ (k : Int) ≤ 4398046511104 ∧ s13 = .int .i64 k ∧ s9 = .pointer (some ⟨x, 0, none⟩) ∧ s10 = .pointer (some ⟨m, 0, none⟩) ∧ s11 = .pointer (some ⟨mb, 0, none⟩) ∧
    St w.heap.size bb wr x p d m mb now bas log bal mbal ∧ w.grownBy wr none
theorem inv_zero : Inv [zB, zB, zB, zB, zB, zB, zB, zB] [zB, zB, zB, zB, zB, zB, zB, zB] [] (enc [0, 0, 0, 0]) (enc [0, 0, 0, 0]) := inv_mark _ _ rfl rfl rfl

section
variable {H bb : Nat} {wr w' : World} {x p d m mb : Nat} {now bas : List Blk} {log : List (Nat × Blk)} {bal mbal : List Nat}
theorem St.ext (h : St H bb wr x p d m mb now bas log bal mbal) (g : wr.grownBy w' none) : St H bb w' x p d m mb now bas log bal mbal :=
  ⟨h.box.ext g, h.view.ext g, h.mod.ext g (by simp), h.modb.ext g (by simp), h.hbb, h.hd, h.hm, h.ne, h.inv, h.short⟩
theorem St.md (h : St H bb wr x p d m mb now bas log bal mbal) : some m ≠ some d := by
  obtain ⟨Cd, hd⟩ := h.view.disk.blk
  simpa using At.ne h.mod.1 hd (by decide)
theorem St.cells (h : St H bb wr x p d m mb now bas log bal mbal) : wr.cell? ⟨bb, 0, none⟩ = some (.pointer (some ⟨d, 0, none⟩)) ∧ wr.cell? ⟨bb, 1, none⟩ = some (.pointer (some ⟨p, 0, none⟩)) := ⟨h.box.cell 0, h.box.cell 1⟩
end

/-- Behind the mark and the clone: what the op finds. -/
theorem marks_ready {H bb ob x p d m mb : Nat} {w1 w2 w4 : World} {now bas : List Blk} {log : List (Nat × Blk)} {bal mbal : List Nat} {C : Array Value} (h : St H bb w1 x p d m mb now bas log bal mbal) (hO : At w1 ob 39 C)
    (hN : DiskNil w2 d now now) (g2 : w1.grownBy w2 (some d)) (g4 : w2.grownBy w4 none) :
    Ready w4 x p d m now bal ∧ At w4 ob 39 C ∧ At w4 bb 30 (bx d p) ∧ Kept2 d m w1 w4 := by
  obtain ⟨Cd, hd⟩ := h.view.disk.blk
  have k : Kept2 d m w1 w4 := (Kept2.left g2).trans (Kept2.none g4)
  have b : ∀ {b : Nat} {t : TypeId} {C : Array Value}, At w1 b t C → t ≠ 61 → t ≠ 49 → At w4 b t C := fun ha h1 h2 => k.at ha (At.ne ha hd h1) (At.ne ha h.mod.1 h2)
  exact ⟨⟨⟨b h.view.bank (by decide) (by decide), b h.view.pair (by decide) (by decide), hN.ext g4 (by simp), h.view.same, h.view.bal⟩, (h.mod.ext g2 h.md).ext g4 (by simp), h.inv.idle⟩,
    b hO (by decide) (by decide), b h.box (by decide) (by decide), k⟩

/-- Behind the op: the state again. -/
theorem played_st {H bb x p d m mb mb' : Nat} {w1 w4 w5 : World} {now bas now' : List Blk} {log log' : List (Nat × Blk)} {bal mbal bal' : List Nat} (h : St H bb w1 x p d m mb now bas log bal mbal)
    (hR : Ready w4 x p d m now bal) (hB : At w4 bb 30 (bx d p)) (hMb : ModAt w4 mb' bal) (hmb : mb' ≠ m) (hH : H ≤ w4.heap.size)
    (hD : DiskAt w4.heap.size w5 d now' now log') (hM : ModAt w5 m bal') (k : Kept2 d m w4 w5) (hI : Inv now' now log' (enc bal') (enc bal)) (hl : log'.length < 100) : St H bb w5 x p d m mb' now' now log' bal' bal := by
  have hd := hR.shows'.disk.1
  have b : ∀ {b : Nat} {t : TypeId} {C : Array Value}, At w4 b t C → t ≠ 61 → t ≠ 49 → At w5 b t C := fun ha h1 h2 => k.at ha (At.ne ha hd h1) (At.ne ha hR.mod.1 h2)
  exact ⟨b hB (by decide) (by decide), ⟨b hR.shows'.bank (by decide) (by decide), b hR.shows'.pair (by decide) (by decide), hD.mono hH, hI.mod, hM.2⟩, hM,
    ⟨k.at hMb.1 (At.ne hMb.1 hd (by decide)) hmb, hMb.2⟩, h.hbb, h.hd, h.hm, hmb.symm, hI, hl⟩

theorem alike_self (v : List Nat) : alike v v = true := (alike_iff v v).2 rfl

/-- Behind the cut: d, p: the lower layers that were cut · d2, p2: those over the cut image. -/
structure Mid (H bb b0 ob : Nat) (w : World) (p2 d2 p d m mb : Nat) (C : Array Value) (t now bas : List Blk) (log : List (Nat × Blk)) (bal mbal : List Nat) : Prop where
  box : At w bb 30 (bx d2 p2)
  box0 : At w b0 30 (bx d p)
  op : At w ob 39 C
  pair : PairAt w p2 d2
  disk2 : DiskAt H w d2 (rcv t) t (recW t)
  disk : DiskAt H w d now bas log
  mod : ModAt w m bal
  modb : ModAt w mb mbal
theorem Mid.ext {H bb b0 ob : Nat} {w w' : World} {p2 d2 p d m mb : Nat} {C : Array Value} {t now bas : List Blk} {log : List (Nat × Blk)} {bal mbal : List Nat} (h : Mid H bb b0 ob w p2 d2 p d m mb C t now bas log bal mbal) (g : w.grownBy w' none) :
    Mid H bb b0 ob w' p2 d2 p d m mb C t now bas log bal mbal :=
  ⟨h.box.ext g, h.box0.ext g, h.op.ext g, At.ext h.pair g, h.disk2.ext g, h.disk.ext g, h.mod.ext g (by simp), h.modb.ext g (by simp)⟩

/-- The store of the new lower layers into b. -/
theorem cut_store {H bb b0 ob d2 p2 : Nat} {w4 : World} {dd pp p d m mb : Nat} {C : Array Value} {t now bas : List Blk} {log : List (Nat × Blk)} {bal mbal : List Nat}
    (hB : At w4 bb 30 (bx dd pp)) (hB0 : At w4 b0 30 (bx d p)) (hne : b0 ≠ bb) (hO : At w4 ob 39 C) (hP : PairAt w4 p2 d2) (hD2 : DiskAt H w4 d2 (rcv t) t (recW t)) (hD : DiskAt H w4 d now bas log) (hM : ModAt w4 m bal) (hMb : ModAt w4 mb mbal)
    (W : World) (hW : W = (w4.setCell ⟨bb, 0, none⟩ (.pointer (some ⟨d2, 0, none⟩))).setCell ⟨bb, 1, none⟩ (.pointer (some ⟨p2, 0, none⟩))) :
    Mid H bb b0 ob W p2 d2 p d m mb C t now bas log bal mbal ∧ w4.grownBy W (some bb) := by
  subst hW
  have g : w4.grownBy ((w4.setCell ⟨bb, 0, none⟩ (.pointer (some ⟨d2, 0, none⟩))).setCell ⟨bb, 1, none⟩ (.pointer (some ⟨p2, 0, none⟩))) (some bb) := g_own (g_own (g_refl _ _) _ _) _ _
  exact ⟨⟨(hB.setSame 0 _).setSame 1 _, hB0.kept g (by simpa using hne), hO.kept g (by simpa using At.ne hO hB (by decide)), At.kept hP g (by simpa using At.ne hP hB (by decide)), hD2.kept g hB (by decide) (by decide) (by decide), hD.kept g hB (by decide) (by decide) (by decide),
    hM.ext g (by simpa using At.ne hM.1 hB (by decide)), hMb.ext g (by simpa using At.ne hMb.1 hB (by decide))⟩, g⟩

theorem recW_length (t : List Blk) : (recW t).length < 100 := by
  unfold recW
  split
  · split <;> simp
  · simp

theorem Mid.view {H bb b0 ob : Nat} {w : World} {p2 d2 p d m mb x2 : Nat} {C : Array Value} {t now bas : List Blk} {log : List (Nat × Blk)} {bal mbal v : List Nat} (h : Mid H bb b0 ob w p2 d2 p d m mb C t now bas log bal mbal) (hX : BankAt w x2 p2) (hv : homes (rcv t) = enc v) (hB : Bal v) :
    View H w x2 p2 d2 (rcv t) t (recW t) v := ⟨hX, h.pair, h.disk2, hv, hB⟩

/-- The state again. -/
theorem mid_st {H bb b0 ob : Nat} {w w1 w2 : World} {x2 p2 d2 p d m mb m2 mb2 : Nat} {C : Array Value} {t now bas : List Blk} {log : List (Nat × Blk)} {bal mbal M : List Nat} (h : Mid H bb b0 ob w p2 d2 p d m mb C t now bas log bal mbal) (hX : BankAt w x2 p2)
    (g1 : w.grownBy w1 none) (hM : ModAt w1 m2 M) (g2 : w1.grownBy w2 none) (hMb : ModAt w2 mb2 M) (hbb : H ≤ bb) (hd2 : H ≤ d2) (hm2 : H ≤ m2) (hne : m2 ≠ mb2) (ht : t.length = 8) (hR : homes (rcv t) = enc M) :
    St H bb w2 x2 p2 d2 m2 mb2 (rcv t) t (recW t) M M := by
  have h2 := (h.ext g1).ext g2
  exact ⟨h2.box, h2.view (At.ext (At.ext hX g1) g2) hR hM.2, hM.ext g2 (by simp), hMb, hbb, hd2, hm2, hne, inv_cut t (enc M) ht hR, recW_length t⟩

/-- The state over the second, equal cut image. -/
theorem mid_quiet {H bb b0 ob : Nat} {w w' : World} {x2 p2 d2 x3 p3 d3 p d m mb : Nat} {C : Array Value} {t now bas : List Blk} {log : List (Nat × Blk)} {M : List Nat} (h : Mid H bb b0 ob w' p3 d3 p d m mb C t now bas log M M) (hX : BankAt w' x3 p3)
    (hT : St H bb w x2 p2 d2 m mb (rcv t) t (recW t) M M) (hd : H ≤ d3) : St H bb w' x3 p3 d3 m mb (rcv t) t (recW t) M M :=
  ⟨h.box, h.view hX hT.view.same hT.view.bal, h.mod, h.modb, hT.hbb, hd, hT.hm, hT.ne, hT.inv, hT.short⟩

/-- What the recovered layer shows, and what the two looks say. -/
theorem cut_looks {now bas : List Blk} {log : List (Nat × Blk)} {bal mbal : List Nat} (h : Inv now bas log (enc bal) (enc mbal)) (hB : Bal bal) (hMb : Bal mbal) (A : Int) :
    ∃ v, homes (rcv (app bas (log.take A.toNat))) = enc v ∧ Bal v ∧ (alike v mbal = true ∨ alike v bal = true) ∧ (A ≤ 0 → alike v mbal = true) ∧ ((log.length : Int) ≤ A → alike v bal = true) := by
  have foot : ∀ v, Bal v → homes (rcv (app bas (log.take A.toNat))) = enc v → A ≤ 0 → alike v mbal = true := by
    intro v hv e hA
    rw [show A.toNat = 0 by omega] at e
    have e2 : homes (rcv (app bas (log.take 0))) = enc mbal := h.foot
    rw [e2] at e
    exact (alike_iff _ _).2 (enc_inj hMb hv e).symm
  have work : ∀ v, Bal v → homes (rcv (app bas (log.take A.toNat))) = enc v → (log.length : Int) ≤ A → alike v bal = true := by
    intro v hv e hA
    rw [h.work A.toNat (by omega)] at e
    exact (alike_iff _ _).2 (enc_inj hB hv e).symm
  rcases h.cut A.toNat with e | e
  · exact ⟨mbal, e, hMb, Or.inl (alike_self _), foot mbal hMb e, work mbal hMb e⟩
  · exact ⟨bal, e, hB, Or.inr (alike_self _), foot bal hB e, work bal hB e⟩
end Go.Proofs.Qxb6500337a
