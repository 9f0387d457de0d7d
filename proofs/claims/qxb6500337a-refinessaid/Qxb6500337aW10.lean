/-
  Walks: Open.
-/
import Derived.Test.Qxb6500337aW9
namespace Go.Proofs.Qxb6500337a
open Go.RowKit

theorem DiskAt.mono {base base' d : Nat} {w : World} {now bas : List Blk} {log : List (Nat × Blk)} (h : DiskAt base w d now bas log) (hb : base' ≤ base) : DiskAt base' w d now bas log := by
  obtain ⟨va, vv, h, h1, h2, h3, h4, h5⟩ := h
  have own : ∀ {e size : Nat} {v : Value} {n : Nat} {xs : List Value}, w.ownsRow base e size v n xs → w.ownsRow base' e size v n xs := by
    intro e size v n xs ho
    refine ⟨ho.1, ?_⟩
    rcases ho.2 with h | ⟨g, cap, cur, hv, hg, r⟩
    · exact Or.inl h
    · exact Or.inr ⟨g, cap, cur, hv, by omega, r⟩
  exact ⟨va, vv, h, h1, h2, h3, own h4, own h5⟩

theorem low_after {base d : Nat} {w W w' : World} (g : w.grownBy W none) (h : Low base d W w') (hb : w.heap.size ≤ base) : w.grownBy w' (some d) :=
  ⟨h.os.trans g.os, h.tape.trans g.tape, h.output.trans g.output, Nat.le_trans g.size h.size,
    fun k hk hd => (h.block k (by omega) (fun e => hd (by rw [e]))).trans (g.block k hk (by simp))⟩

/-- What Open leaves. -/
def Opened (w : World) (d : Nat) (t bas : List Blk) (e : Ending) (w' : World) : Prop :=
  ∃ p, e = .returned (.pointer (some ⟨p, 0, none⟩)) ∧ w.heap.size ≤ p ∧ PairAt w' p d ∧ DiskAt w.heap.size w' d (rcv t) bas (recW t) ∧ w.grownBy w' (some d)

theorem recW_idle {t : List Blk} (h : full (t.getD 0 zB) = false) : recW t = [] := by unfold recW; rw [h]; rfl
theorem recW_bad {t : List Blk} (h : full (t.getD 0 zB) = true) (hv : valid (t.getD 0 zB) = false) : recW t = [(0, zB)] := by unfold recW; rw [h, hv]; rfl
theorem recW_good {t : List Blk} (h : full (t.getD 0 zB) = true) (hv : valid (t.getD 0 zB) = true) :
    recW t = [(3 + (t.getD 0 zB).2.1.toNat, t.getD 1 zB), (3 + (t.getD 0 zB).2.2.1.toNat, t.getD 2 zB), (0, zB)] := by unfold recW; rw [h, hv]; rfl

theorem full_int (x : Blk) : ((x.1.toNat : Int) == 1) = full x := by
  rw [Bool.eq_iff_iff, beq_iff_eq]
  unfold full
  rw [beq_iff_eq]
  constructor
  · intro e; exact UInt8.toNat_inj.1 (by have : x.1.toNat = 1 := by omega
                                         simpa using this)
  · intro e; rw [e]; rfl

set_option maxHeartbeats 800000 in
/-- Open over an idle disk. -/
theorem open_idle (d : Nat) (t bas : List Blk) (w : World) (hD : DiskNil w d t bas) (hf : full (t.getD 0 zB) = false) : Calls Try.prog 19 #[.pointer (some ⟨d, 0, none⟩)] w (Opened w d t bas) := by
  have hr := read_calls 0 d t bas [] 0 w (hD.at 0) (by omega) (by omega)
  rw [Int.toNat_zero] at hr
  have hb := (full_int (t.getD 0 zB)).trans hf
  have hlt := hD.1.lt
  have HF : Hid (recW t = [] ∧ rcv t = t) := ⟨recW_idle hf, rcv_of_idle t hf⟩
  clear hf
  generalize hx : t.getD 0 zB = x at *
  clear hx
  go_enter Try.func19, Try.ntmps19
  go_wp2_with fail
  refine hr.mono ?_
  clear hr
  rintro e w1 ⟨rfl, hg1⟩
  go_wp2
  go_ret
  have hs1 := hg1.size
  refine ⟨w1.heap.size + 1, rfl, by omega, at_new2 _ _ _ _, ?_, ?_⟩
  · rw [HF.out.1, HF.out.2]
    exact (hD.ext (g_alloc (g_alloc hg1 _) _) (by simp)).at _
  · exact g_some (g_alloc (g_alloc hg1 _) _) _

theorem wrap_byte (a : Nat) (h : a < 256) : IntKind.i64.wrap (a : Int) = (a : Int) := by
  rw [IntKind.wrap_i64]
  omega

/-- Write of the zero block. -/
theorem write_zero (base d : Nat) (now bas : List Blk) (log : List (Nat × Blk)) (i : Int) (w : World) (hD : DiskAt base w d now bas log) (h0 : 0 ≤ i) (h8 : i < 8)
    (hb : base ≤ w.heap.size) (hdb : d < base) (hl : log.length < 100) :
    Calls Try.prog 28 #[.pointer (some ⟨d, 0, none⟩), .int .i64 i, .agg #[.int .u8 0, .int .u8 0, .int .u8 0, .int .u8 0]] w fun e w' => e = .returned (.int .i64 0) ∧ DiskAt base w' d (now.set i.toNat zB) bas (log ++ [(i.toNat, zB)]) ∧ Low base d w w' :=
  write_calls base d now bas log i zB w hD h0 h8 hb hdb hl

/-- What is left of Open when the disk has been written. -/
theorem opened_of {base d : Nat} {t bas : List Blk} {w W w3 : World} {now : List Blk} {log : List (Nat × Blk)} (hg : w.grownBy W none) (hb : w.heap.size ≤ base) (hD : DiskAt base w3 d now bas log) (hL : Low base d W w3) (hn : now = rcv t) (hlog : log = recW t) :
    Opened w d t bas (.returned (.pointer (some ⟨w3.heap.size, 0, none⟩))) (w3.alloc (.cells #[.pointer (some ⟨d, 0, none⟩)] 68)) := by
  subst hn hlog
  have h1 := hg.size
  have h2 := hL.size
  refine ⟨_, rfl, by omega, At.new _ _ _, ?_, ?_⟩
  · exact (hD.mono hb).ext (g_alloc (g_refl _ _) _)
  · exact g_alloc (low_after hg hL hb) _

theorem valid_nat (x : Blk) : valid x = (decide (x.2.1.toNat < 5) && decide (x.2.2.1.toNat < 5) && decide (x.2.1.toNat ≠ x.2.2.1.toNat)) := by
  unfold valid
  congr 1
  rw [Bool.eq_iff_iff]
  simp only [bne_iff_ne, ne_eq, decide_eq_true_eq, UInt8.toNat_inj]

set_option maxHeartbeats 800000 in
/-- Open over a disk with a full header that names no pair. -/
theorem open_bad (d : Nat) (t bas : List Blk) (w : World) (hD : DiskNil w d t bas) (hf : full (t.getD 0 zB) = true) (hv : valid (t.getD 0 zB) = false) : Calls Try.prog 19 #[.pointer (some ⟨d, 0, none⟩)] w (Opened w d t bas) := by
  have hr := read_calls 0 d t bas [] 0 w (hD.at 0) (by omega) (by omega)
  rw [Int.toNat_zero] at hr
  have hb := (full_int (t.getD 0 zB)).trans hf
  have hlt := hD.1.lt
  have HF : Hid (recW t = [(0, zB)]) := recW_bad hf hv
  clear hf
  generalize hx : t.getD 0 zB = x at *
  clear hx
  have hx1 : x.2.1.toNat < 256 := x.2.1.toNat_lt
  have hx2 : x.2.2.1.toNat < 256 := x.2.2.1.toNat_lt
  rw [valid_nat] at hv
  go_enter Try.func19, Try.ntmps19
  go_wp2_with fail
  refine hr.mono ?_
  clear hr
  rintro e w1 ⟨rfl, hg1⟩
  go_wp2
  have hg2 : w.grownBy (w1.alloc (.cells (bc x) 56)) none := g_alloc hg1 _
  have hA2 := At.new w1 (bc x) 56
  generalize (w1.alloc (.cells (bc x) 56)) = w2 at *
  obtain ⟨a, ha⟩ : ∃ a : Nat, x.2.1.toNat = a := ⟨_, rfl⟩
  obtain ⟨b, hbb⟩ : ∃ b : Nat, x.2.2.1.toNat = b := ⟨_, rfl⟩
  have c1 : w2.cell? ⟨w1.heap.size, 1, none⟩ = some (.int .u8 a) := by rw [← ha]; exact hA2.cell 1
  have c2 : w2.cell? ⟨w1.heap.size, 2, none⟩ = some (.int .u8 b) := by rw [← hbb]; exact hA2.cell 2
  rw [ha] at hx1 hv
  rw [hbb] at hx2 hv
  have wa := wrap_byte a hx1
  have wb := wrap_byte b hx2
  clear ha hbb hA2
  go_region_held3 (fun w' => w'.cell? ⟨w1.heap.size, 1, none⟩ = some (.int .u8 a) ∧ w'.cell? ⟨w1.heap.size, 2, none⟩ = some (.int .u8 b)) (go_keep) (fail)
  clear wa wb c1 c2
  have hsz := hg2.size
  have hw := write_zero w2.heap.size d t bas [] 0 w2.drew ((hD.ext (g_drew hg2) (by simp)).at _) (by omega) (by omega) (Nat.le_refl _) (by omega) (by simp)
  have HW := hw
  clear hw
  have HG := hg2
  clear hg2
  rcases Nat.lt_or_ge a 5 with ha | ha
  · rcases Nat.lt_or_ge b 5 with hb5 | hb5
    · have hab : a = b := by simp [ha, hb5] at hv; exact hv
      subst hab
      clear hv
      have q1 : (a : Int) < 5 := by omega
      have q2 : ((a : Int) != (a : Int)) = false := by simp
      go_wp2_with fail
      refine HW.mono ?_
      rintro e w3 ⟨rfl, hD3, hL3⟩
      go_wp2
      go_ret
      exact opened_of (g_drew HG) (by omega) hD3 hL3 (by rw [rcv, HF.out]; rfl) (by rw [HF.out]; rfl)
    · clear hv
      have q1 : (a : Int) < 5 := by omega
      have q2 : ¬ (b : Int) < 5 := by omega
      go_wp2_with fail
      refine HW.mono ?_
      rintro e w3 ⟨rfl, hD3, hL3⟩
      go_wp2
      go_ret
      exact opened_of (g_drew HG) (by omega) hD3 hL3 (by rw [rcv, HF.out]; rfl) (by rw [HF.out]; rfl)
  · clear hv
    have q1 : ¬ (a : Int) < 5 := by omega
    go_wp2_with fail
    refine HW.mono ?_
    rintro e w3 ⟨rfl, hD3, hL3⟩
    go_wp2
    go_ret
    exact opened_of (g_drew HG) (by omega) hD3 hL3 (by rw [rcv, HF.out]; rfl) (by rw [HF.out]; rfl)
end Go.Proofs.Qxb6500337a
