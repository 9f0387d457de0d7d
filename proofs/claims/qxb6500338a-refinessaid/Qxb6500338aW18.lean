/-
  The state in the middle of a cut.
-/
import Derived.Test.Qxb6500338aW16
namespace Go.Proofs.Qxb6500338a
open Go.RowKit

/-- Another block than the disk's own is written: a block of the disks' own type too. -/
theorem DiskAt.keptNe {base d k : Nat} {w w' : World} {now bas : List Blk} {log : List (Nat × Blk)} {t : TypeId} {C : Array Value} (h : DiskAt base w d now bas log) (g : w.grownBy w' (some k)) (hk : At w k t C)
    (hd : d ≠ k) (h3 : t ≠ 3) (h44 : t ≠ 44) : DiskAt base w' d now bas log := by
  obtain ⟨va, vv, h, h1, h2, h4, h5, h6⟩ := h
  exact ⟨va, vv, h.kept g (by simpa using hd), h1, h2, h4, h5.kept g (Or.inr (own_far h5 hk h3).symm), h6.kept g (Or.inr (own_far h6 hk h44).symm)⟩

/-- Behind the cut and the recovery: d: the disk that was cut · d2: the cut image, p2 the layer over it. -/
structure Mid (H bb b0 ob : Nat) (w : World) (p2 d2 d m mb : Nat) (C : Array Value) (t now bas : List Blk) (log : List (Nat × Blk)) (mnow mbnow : List Blk) : Prop where
  box : At w bb 29 #[.pointer (some ⟨d2, 0, none⟩)]
  box0 : At w b0 29 #[.pointer (some ⟨d, 0, none⟩)]
  op : At w ob 38 C
  pair : PairAt w p2 d2
  disk2 : DiskAt H w d2 (rcv t) t (recW t)
  disk : DiskAt H w d now bas log
  mod : ModAt w m mnow
  modb : ModAt w mb mbnow

theorem Mid.ext {H bb b0 ob : Nat} {w w' : World} {p2 d2 d m mb : Nat} {C : Array Value} {t now bas : List Blk} {log : List (Nat × Blk)} {mnow mbnow : List Blk} (h : Mid H bb b0 ob w p2 d2 d m mb C t now bas log mnow mbnow) (g : w.grownBy w' none) :
    Mid H bb b0 ob w' p2 d2 d m mb C t now bas log mnow mbnow :=
  ⟨h.box.ext g, h.box0.ext g, h.op.ext g, At.ext h.pair g, h.disk2.ext g, h.disk.ext g, h.mod.ext g (by simp), h.modb.ext g (by simp)⟩

/-- The store of the new lower layers into b. -/
theorem cut_store {H bb b0 ob d2 : Nat} {w4 : World} {d m mb : Nat} {C : Array Value} {t now bas : List Blk} {log : List (Nat × Blk)} {mnow mbnow : List Blk} {v : Value}
    (hB : At w4 bb 29 #[v]) (hB0 : At w4 b0 29 #[.pointer (some ⟨d, 0, none⟩)]) (hne : b0 ≠ bb) (hO : At w4 ob 38 C) (hN : DiskNil w4 d2 t t) (hD : DiskAt H w4 d now bas log) (hM : ModAt w4 m mnow) (hMb : ModAt w4 mb mbnow)
    (W : World) (hW : W = w4.setCell ⟨bb, 0, none⟩ (.pointer (some ⟨d2, 0, none⟩))) :
    At W bb 29 #[.pointer (some ⟨d2, 0, none⟩)] ∧ At W b0 29 #[.pointer (some ⟨d, 0, none⟩)] ∧ At W ob 38 C ∧ DiskNil W d2 t t ∧ DiskAt H W d now bas log ∧ ModAt W m mnow ∧ ModAt W mb mbnow ∧ w4.grownBy W (some bb) ∧ W.heap.size = w4.heap.size := by
  subst hW
  have g : w4.grownBy (w4.setCell ⟨bb, 0, none⟩ (.pointer (some ⟨d2, 0, none⟩))) (some bb) := g_own (g_refl _ _) _ _
  obtain ⟨Cm, hm⟩ := hM.blk
  obtain ⟨Cb, hb⟩ := hMb.blk
  exact ⟨hB.setSame 0 _, hB0.kept g (by simpa using hne), hO.kept g (by simpa using At.ne hO hB (by decide)), hN.ext g (by simpa using At.ne hN.1 hB (by decide)), hD.kept g hB (by decide) (by decide) (by decide),
    hM.ext g (by simpa using At.ne hm hB (by decide)), hMb.ext g (by simpa using At.ne hb hB (by decide)), g, by simp⟩

/-- Behind the recovery. -/
theorem cut_open {H bb b0 ob d2 p2 : Nat} {w5 w6 : World} {d m mb : Nat} {C : Array Value} {t now bas : List Blk} {log : List (Nat × Blk)} {mnow mbnow : List Blk}
    (hB : At w5 bb 29 #[.pointer (some ⟨d2, 0, none⟩)]) (hB0 : At w5 b0 29 #[.pointer (some ⟨d, 0, none⟩)]) (hO : At w5 ob 38 C) (hN : DiskNil w5 d2 t t) (hD : DiskAt H w5 d now bas log) (hM : ModAt w5 m mnow) (hMb : ModAt w5 mb mbnow)
    (hd : d ≠ d2) (hH : H ≤ w5.heap.size) (hP : PairAt w6 p2 d2) (hD2 : DiskAt w5.heap.size w6 d2 (rcv t) t (recW t)) (g : w5.grownBy w6 (some d2)) :
    Mid H bb b0 ob w6 p2 d2 d m mb C t now bas log mnow mbnow := by
  obtain ⟨Cm, hm⟩ := hM.blk
  obtain ⟨Cb, hb⟩ := hMb.blk
  exact ⟨hB.kept g (by simpa using At.ne hB hN.1 (by decide)), hB0.kept g (by simpa using At.ne hB0 hN.1 (by decide)), hO.kept g (by simpa using At.ne hO hN.1 (by decide)), hP, hD2.mono hH,
    hD.keptNe g hN.1 hd (by decide) (by decide), hM.ext g (by simpa using At.ne hm hN.1 (by decide)), hMb.ext g (by simpa using At.ne hb hN.1 (by decide))⟩

theorem recW_length (t : List Blk) : (recW t).length < 100 := by
  unfold recW
  split
  · split <;> simp
  · simp

/-- The state again. -/
theorem mid_st {H bb b0 ob : Nat} {w w1 w2 : World} {p2 d2 d m mb m2 mb2 : Nat} {C : Array Value} {t now bas : List Blk} {log : List (Nat × Blk)} {mnow mbnow M : List Blk} (h : Mid H bb b0 ob w p2 d2 d m mb C t now bas log mnow mbnow)
    (g1 : w.grownBy w1 none) (hM : ModNil w1 m2 M) (g2 : w1.grownBy w2 none) (hMb : ModNil w2 mb2 M) (hbb : H ≤ bb) (hd2 : H ≤ d2) (hm2 : H ≤ m2) (hne : m2 ≠ mb2) (ht : t.length = 8) (hR : homes (rcv t) = M) :
    St H bb w2 p2 d2 m2 mb2 (rcv t) t (recW t) M M := by
  have h2 := (h.ext g1).ext g2
  exact ⟨h2.box, h2.pair, h2.disk2, (hM.ext g2 (by simp)).any, hMb.any, hbb, hd2, hm2, hne, inv_cut t M ht hR, recW_length t⟩

/-- The state over the second, equal cut image. -/
theorem mid_quiet {H bb b0 ob : Nat} {w w' : World} {p2 d2 p3 d3 d m mb : Nat} {C : Array Value} {t now bas : List Blk} {log : List (Nat × Blk)} {M : List Blk} (h : Mid H bb b0 ob w' p3 d3 d m mb C t now bas log M M)
    (hT : St H bb w p2 d2 m mb (rcv t) t (recW t) M M) (hd : H ≤ d3) : St H bb w' p3 d3 m mb (rcv t) t (recW t) M M :=
  ⟨h.box, h.pair, h.disk2, h.mod, h.modb, hT.hbb, hd, hT.hm, hT.ne, hT.inv, hT.short⟩

theorem alike_iff (now m : List Blk) : (alike now m = true ↔ homes now = m) := by unfold alike; rw [decide_eq_true_eq]

/-- What the two looks at the recovered layer say. -/
theorem cut_looks {now bas : List Blk} {log : List (Nat × Blk)} {mnow mbnow : List Blk} (h : Inv now bas log mnow mbnow) (A : Int) :
    (alike (rcv (app bas (log.take A.toNat))) mbnow = true ∨ alike (rcv (app bas (log.take A.toNat))) mnow = true) ∧
    (A ≤ 0 → alike (rcv (app bas (log.take A.toNat))) mbnow = true) ∧ ((log.length : Int) ≤ A → alike (rcv (app bas (log.take A.toNat))) mnow = true) := by
  refine ⟨?_, ?_, ?_⟩
  · rcases h.cut A.toNat with e | e
    · exact Or.inl ((alike_iff _ _).2 e)
    · exact Or.inr ((alike_iff _ _).2 e)
  · intro hA
    rw [show A.toNat = 0 by omega]
    exact (alike_iff _ _).2 h.foot
  · intro hA
    exact (alike_iff _ _).2 (h.work A.toNat (by omega))
end Go.Proofs.Qxb6500338a
