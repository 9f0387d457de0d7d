/-
  Walks: After of the disk.
-/
import Derived.Test.Qxb6500337aW6
namespace Go.Proofs.Qxb6500337a
open Go.RowKit

/-- What entry j of the record lies as. -/
theorem rec_cells {base : Nat} {w : World} {log : List (Nat × Blk)} {va vv : Value} (h4 : w.ownsRow base 3 1 va log.length (log.map fun p => .int .i64 p.1))
    (h5 : w.ownsRow base 56 4 vv log.length (encs (log.map (·.2)))) (j : Nat) (hj : j < log.length) :
    ∃ ga capa gv capv, va = .slice (some ⟨ga, 0, none⟩) log.length capa ∧ vv = .slice (some ⟨gv, 0, none⟩) log.length capv ∧ ga < w.heap.size ∧ gv < w.heap.size ∧
      w.cell? ⟨ga, j, none⟩ = some (.int .i64 (log.getD j (0, zB)).1) ∧
      w.cell? ⟨gv, j * 4, none⟩ = some (.int .u8 (log.getD j (0, zB)).2.1.toNat) ∧ w.cell? ⟨gv, j * 4 + 1, none⟩ = some (.int .u8 (log.getD j (0, zB)).2.2.1.toNat) ∧
      w.cell? ⟨gv, j * 4 + 2, none⟩ = some (.int .u8 (log.getD j (0, zB)).2.2.2.1.toNat) ∧ w.cell? ⟨gv, j * 4 + 3, none⟩ = some (.int .u8 (log.getD j (0, zB)).2.2.2.2.toNat) := by
  obtain ⟨ga, capa, hva, _, hga⟩ := h4.form (by omega)
  obtain ⟨gv, capv, hvv, _, hgv⟩ := h5.form (by omega)
  have ca := h4.cells (g := ga) (by rw [hva]; rfl)
  have cv := h5.cells (g := gv) (by rw [hvv]; rfl)
  have e : log[j]? = some (log.getD j (0, zB)) := by simp [List.getD, List.getElem?_eq_getElem hj]
  generalize log.getD j (0, zB) = q at *
  have hv : ∀ r, r < 4 → ∀ u, (encB q.2)[r]? = some u → w.cell? ⟨gv, j * 4 + r, none⟩ = some u := by
    intro r hr u hu
    have := cv (j * 4 + r) u (by rw [encs_get _ _ _ hr, List.getElem?_map, e]; exact hu)
    rwa [Addr.add_mid, Nat.zero_add] at this
  refine ⟨ga, capa, gv, capv, hva, hvv, hga, hgv, ?_, hv 0 (by omega) _ rfl, hv 1 (by omega) _ rfl, hv 2 (by omega) _ rfl, hv 3 (by omega) _ rfl⟩
  have := ca j (.int .i64 q.1) (by rw [List.getElem?_map, e]; rfl)
  rwa [Addr.add_mid, Nat.zero_add] at this

theorem app_take_succ (t : List Blk) (log : List (Nat × Blk)) (j : Nat) (hj : j < log.length) : app t (log.take (j + 1)) = (app t (log.take j)).set (log.getD j (0, zB)).1 (log.getD j (0, zB)).2 := by
  have e : log.take (j + 1) = log.take j ++ [log.getD j (0, zB)] := by
    rw [List.take_succ_eq_append_getElem hj]
    simp [List.getD, List.getElem?_eq_getElem hj]
  rw [e, app_append]
  rfl

set_option maxHeartbeats 1600000 in
/-- (*Disk).After. -/
theorem dafter_calls (base d : Nat) (now bas : List Blk) (log : List (Nat × Blk)) (k : Int) (w : World) (hD : DiskAt base w d now bas log) (hl : log.length < 100) :
    Calls Try.prog 26 #[.pointer (some ⟨d, 0, none⟩), .int .i64 k] w fun e w' => e = .returned (.pointer (some ⟨w.heap.size, 0, none⟩)) ∧
      At w' w.heap.size 61 (diskCells (app bas (log.take k.toNat)) (app bas (log.take k.toNat)) (.slice none 0 0) (.slice none 0 0)) ∧ w.grownBy w' none := by
  obtain ⟨va, vv, hd, h1, h2, h3, h4, h5⟩ := hD
  have hlt := hd.lt
  have hz := zero65
  have hs : (Try.prog.info? 57).map (·.size) = some (encs bas).length := by rw [encs_length, h2]; exact size61
  have hd1 : At (w.alloc (.cells zDisk 61)) d 61 (diskCells now bas va vv) := hd.alloc _
  have hn1 : At (w.alloc (.cells zDisk 61)) w.heap.size 61 (diskCells [zB, zB, zB, zB, zB, zB, zB, zB] [zB, zB, zB, zB, zB, zB, zB, zB] (.slice none 0 0) (.slice none 0 0)) := At.new _ _ _
  have hg1 : w.grownBy (w.alloc (.cells zDisk 61)) none := g_alloc (g_refl _ _) _
  have hsz : 0 + (encs bas).length ≤ (diskCells [zB, zB, zB, zB, zB, zB, zB, zB] [zB, zB, zB, zB, zB, zB, zB, zB] (.slice none 0 0) (.slice none 0 0)).size := by rw [diskCells_size _ _ _ _ rfl rfl, encs_length, h2]; omega
  go_enter Try.func26, Try.ntmps26
  go_wp2_with (first
    | (refine wpList_load_at (by rfl) 57 (.tmp 12) (by rfl) d 32 (by rfl) 61 _ (encs bas) _ Try.underlying57 (by rfl) hs hd1 (disk_bas _ _ _ _ h1) ?_)
    | (refine wpList_store_at (by rfl) 57 (.tmp 15) (.tmp 13) (by rfl) w.heap.size 0 (encs bas) (by rfl) (by rfl) 61 _ hs (encs_one _) hn1 hsz ?_; intro w2 hw2 hg2 hz2))
  rw [disk_laid_now _ _ _ _ _ (by rw [h2]; rfl)] at hw2
  have hgw2 : w.grownBy w2 none := g_new hg1 (Nat.le_refl _) hg2
  clear hs hd1 hn1 hg1 hsz hg2 hz2 hz
  go_loopw [6] (fun i wr => ∃ j : Nat, j ≤ log.length ∧ j ≤ k.toNat ∧ i = .int .i64 j ∧ At wr w.heap.size 61 (diskCells (app bas (log.take j)) [zB, zB, zB, zB, zB, zB, zB, zB] (.slice none 0 0) (.slice none 0 0)) ∧ w.grownBy wr none) (fun i _ => log.length - (intOf i).toNat)
  case atStart => exact ⟨0, by omega, by omega, rfl, by simpa [app] using hw2, hgw2⟩
  case round =>
    clear hgw2 hw2
    obtain ⟨j, hj, hjk, rfl, hA, hg⟩ := hrel
    have hla : (app bas (log.take j)).length = 8 := by rw [app_length, h2]
    have hdr := hd.ext hg
    have k64 : wr.cell? ⟨d, 64, none⟩ = some va := (hdr.cell 64).trans (diskCells_at _ _ _ _ h1 h2)
    by_cases hc : (j : Int) < k
    · by_cases hjl : j < log.length
      · have hjI : (j : Int) < (log.length : Int) := by omega
        have hq8 : (log.getD j (0, zB)).1 < 8 := h3 _ (by
          have e : log.getD j (0, zB) = log[j] := by simp [List.getD, List.getElem?_eq_getElem hjl]
          rw [e]; exact List.getElem_mem hjl)
        obtain ⟨ga, capa, gv, capv, rfl, rfl, hga, hgv, r0, r1, r2, r3, r4⟩ := rec_cells (h4.kept hg (by cases va.ownBlock <;> simp)) (h5.kept hg (by cases vv.ownBlock <;> simp)) j hjl
        have hga' := (h4.lt ga rfl).2
        have hgv' := (h5.lt gv rfl).2
        have k65 : wr.cell? ⟨d, 65, none⟩ = some (.slice (some ⟨gv, 0, none⟩) log.length capv) := (hdr.cell 65).trans (diskCells_val _ _ _ _ h1 h2)
        have hstep := app_take_succ bas log j hjl
        have HS : Hid (app bas (log.take (j + 1)) = (app bas (log.take j)).set (log.getD j (0, zB)).1 (log.getD j (0, zB)).2) := hstep
        clear hstep
        generalize log.getD j (0, zB) = q at *
        obtain ⟨n0, n1, n2, n3⟩ := disk_cells4 hA hla q.1 hq8
        have f0 := hA.free (q.1 * 4)
        have f1 := hA.free (q.1 * 4 + 1)
        have f2 := hA.free (q.1 * 4 + 2)
        have f3 := hA.free (q.1 * 4 + 3)
        have hqI : ((q.1 : Nat) : Int) < 8 := by omega
        have hq0 : (0 : Int) ≤ ((q.1 : Nat) : Int) := by omega
        have hj0 : (0 : Int) ≤ (j : Int) := by omega
        have e1 : w.heap.size ≠ d := by omega
        have e2 : w.heap.size ≠ ga := by omega
        have e3 : w.heap.size ≠ gv := by omega
        have a4 := (((hA.setSame (q.1 * 4) (.int .u8 q.2.1.toNat)).setSame (q.1 * 4 + 1) (.int .u8 q.2.2.1.toNat)).setSame (q.1 * 4 + 2) (.int .u8 q.2.2.2.1.toNat)).setSame (q.1 * 4 + 3) (.int .u8 q.2.2.2.2.toNat)
        rw [diskCells_put _ _ _ _ _ _ hla hq8, ← HS.out] at a4
        have g4 := g_set (g_set (g_set (g_set hg _ (q.1 * 4) (.int .u8 q.2.1.toNat) (Or.inl (Nat.le_refl w.heap.size))) _ (q.1 * 4 + 1) (.int .u8 q.2.2.1.toNat) (Or.inl (Nat.le_refl w.heap.size))) _ (q.1 * 4 + 2) (.int .u8 q.2.2.2.1.toNat) (Or.inl (Nat.le_refl w.heap.size))) _ (q.1 * 4 + 3) (.int .u8 q.2.2.2.2.toNat) (Or.inl (Nat.le_refl w.heap.size))
        clear h4 h5 h3 hd hdr hA hg
        go_wp2
        go_region_held3 (fun w' => w'.cell? ⟨d, 64, none⟩ = some (.slice (some ⟨ga, 0, none⟩) log.length capa) ∧ w'.cell? ⟨d, 65, none⟩ = some (.slice (some ⟨gv, 0, none⟩) log.length capv) ∧ w'.cell? ⟨ga, j, none⟩ = some (.int .i64 q.1) ∧ w'.cell? ⟨gv, j * 4, none⟩ = some (.int .u8 q.2.1.toNat) ∧ w'.cell? ⟨gv, j * 4 + 1, none⟩ = some (.int .u8 q.2.2.1.toNat) ∧ w'.cell? ⟨gv, j * 4 + 2, none⟩ = some (.int .u8 q.2.2.2.1.toNat) ∧ w'.cell? ⟨gv, j * 4 + 3, none⟩ = some (.int .u8 q.2.2.2.2.toNat)) (go_keep) (fail)
        go_wp2
        exact ⟨⟨j + 1, by omega, by omega, by go_num, a4.drew, g_drew g4⟩, by simp [intOf]; omega⟩
      · have hjI : ¬ (j : Int) < (log.length : Int) := by omega
        have et : app bas (log.take k.toNat) = app bas (log.take j) := by
          rw [show log.take k.toNat = log.take j from by rw [List.take_of_length_le (by omega), List.take_of_length_le (by omega)]]
        obtain ⟨t, ht⟩ : ∃ t, t = app bas (log.take j) := ⟨_, rfl⟩
        rw [← ht] at hA hla et
        have HT : Hid (app bas (log.take k.toNat) = t) := et
        clear ht
        have hst : (Try.prog.info? 57).map (·.size) = some (encs t).length := by rw [encs_length, hla]; exact size61
        have hsz : 32 + (encs t).length ≤ (diskCells t [zB, zB, zB, zB, zB, zB, zB, zB] (.slice none 0 0) (.slice none 0 0)).size := by rw [diskCells_size _ _ _ _ hla rfl, encs_length, hla]; omega
        obtain ⟨aa, capa, rfl⟩ : ∃ a cap, va = .slice a log.length cap := by
          rcases h4.2 with ⟨rfl, h⟩ | ⟨g, cap, cur, rfl, _⟩
          · exact ⟨_, _, by rw [h]⟩
          · exact ⟨_, _, rfl⟩
        clear hd h4 h5 h3 et hdr
        go_wp2_with (first
          | (refine wpList_load_at (by rfl) 57 (.tmp 51) (by rfl) w.heap.size 0 (by rfl) 61 _ (encs t) _ Try.underlying57 (by rfl) hst hA (disk_now _ _ _ _) ?_)
          | (refine wpList_store_at (by rfl) 57 (.tmp 54) (.tmp 52) (by rfl) w.heap.size 32 (encs t) (by rfl) (by rfl) 61 _ hst (encs_one _) hA hsz ?_; intro w3 hw3 hg3 hz3))
        go_ret
        rw [disk_laid_bas _ _ _ _ _ hla (by rw [hla]; rfl)] at hw3
        rw [HT.out]
        exact ⟨rfl, hw3, g_new hg (Nat.le_refl _) hg3⟩
    · have hjI : ¬ (j : Int) < k := hc
      have et : app bas (log.take k.toNat) = app bas (log.take j) := by
        rw [show log.take k.toNat = log.take j from by congr 1; omega]
      obtain ⟨t, ht⟩ : ∃ t, t = app bas (log.take j) := ⟨_, rfl⟩
      rw [← ht] at hA hla et
      have HT : Hid (app bas (log.take k.toNat) = t) := et
      clear ht
      have hst : (Try.prog.info? 57).map (·.size) = some (encs t).length := by rw [encs_length, hla]; exact size61
      have hsz : 32 + (encs t).length ≤ (diskCells t [zB, zB, zB, zB, zB, zB, zB, zB] (.slice none 0 0) (.slice none 0 0)).size := by rw [diskCells_size _ _ _ _ hla rfl, encs_length, hla]; omega
      obtain ⟨aa, capa, rfl⟩ : ∃ a cap, va = .slice a log.length cap := by
        rcases h4.2 with ⟨rfl, h⟩ | ⟨g, cap, cur, rfl, _⟩
        · exact ⟨_, _, by rw [h]⟩
        · exact ⟨_, _, rfl⟩
      clear hd h4 h5 h3 et hdr
      go_wp2_with (first
        | (refine wpList_load_at (by rfl) 57 (.tmp 51) (by rfl) w.heap.size 0 (by rfl) 61 _ (encs t) _ Try.underlying57 (by rfl) hst hA (disk_now _ _ _ _) ?_)
        | (refine wpList_store_at (by rfl) 57 (.tmp 54) (.tmp 52) (by rfl) w.heap.size 32 (encs t) (by rfl) (by rfl) 61 _ hst (encs_one _) hA hsz ?_; intro w3 hw3 hg3 hz3))
      go_ret
      rw [disk_laid_bas _ _ _ _ _ hla (by rw [hla]; rfl)] at hw3
      rw [HT.out]
      exact ⟨rfl, hw3, g_new hg (Nat.le_refl _) hg3⟩
end Go.Proofs.Qxb6500337a
