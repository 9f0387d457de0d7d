/-
  walk, steady.
-/
import Derived.Test.Qxb6500338aW16
namespace Go.Proofs.Qxb6500338a
open Go.RowKit
set_option maxRecDepth 100000 in
set_option maxHeartbeats 3200000 in
/-- walk, steady: every cut is passed over. -/
theorem walk_steady (ao : Option Addr) (len cap : Nat) (w : World) (hS : Script w ao len) : Calls Try.prog 7 #[.slice ao len cap, .bool true, .bool false] w (WalkPost w) := by
  go_enter Try.func7, Try.ntmps7
  go_wp2_with fail
  refine (ground_calls _).mono ?_
  rintro e w1 ⟨rfl, hN1, hg1⟩
  -- b, Open
  obtain ⟨d, hd⟩ : ∃ d, d = w.heap.size + 1 := ⟨_, rfl⟩
  rw [← hd] at hN1
  rw [← hd]
  have hdw : w.heap.size ≤ d := by omega
  clear hd
  go_wp2_with fail
  have hB2 := At.new w1 #[.pointer (some ⟨d, 0, none⟩)] 29
  have hN2 := hN1.ext (g_alloc (g_refl w1 none) (.cells #[.pointer (some ⟨d, 0, none⟩)] 29)) (by simp)
  have hg2 := g_alloc hg1 (.cells #[.pointer (some ⟨d, 0, none⟩)] 29)
  obtain ⟨bb, hbb⟩ : ∃ bb, bb = w1.heap.size := ⟨_, rfl⟩
  rw [← hbb] at hB2
  rw [← hbb]
  have hbw : w.heap.size ≤ bb := by have := hg1.size; omega
  clear hbb
  generalize w1.alloc (.cells #[.pointer (some ⟨d, 0, none⟩)] 29) = w2 at *
  clear hN1 hg1
  refine (open_calls d _ _ _ hN2).mono ?_
  rintro e w3 ⟨p, rfl, hp, hP3, hD3, hg3⟩
  have hz1 : rcv [zB, zB, zB, zB, zB, zB, zB, zB] = [zB, zB, zB, zB, zB, zB, zB, zB] := rfl
  have hz2 : recW [zB, zB, zB, zB, zB, zB, zB, zB] = [] := rfl
  rw [hz1, hz2] at hD3
  clear hz1 hz2
  have hbd : bb ≠ d := At.ne hB2 hN2.1 (by decide)
  have hB3 := hB2.kept hg3 (by simpa using hbd)
  replace hD3 := hD3.mono hg2.size
  have hG3 : w.grownBy w3 none := g_new hg2 hdw hg3
  clear hg2 hg3 hB2 hN2 hbd hp
  go_wp2_with fail
  -- the model
  refine (newMod_calls _).mono ?_
  rintro e w4 ⟨rfl, hw4⟩
  have hM4 : ModNil w4 w3.heap.size [zB, zB, zB, zB, zB] := by rw [hw4]; exact ⟨[zB, zB, zB, zB, zB], At.new _ _ _, rfl, rfl⟩
  have g4 : w3.grownBy w4 none := by rw [hw4]; exact g_alloc (g_refl _ _) _
  clear hw4
  obtain ⟨m, hm⟩ : ∃ m, m = w3.heap.size := ⟨_, rfl⟩
  rw [← hm] at hM4
  rw [← hm]
  have hmw : w.heap.size ≤ m := by have := hG3.size; omega
  clear hm
  have hB4 := hB3.ext g4
  have hP4 : PairAt w4 p d := At.ext hP3 g4
  have hD4 := hD3.ext g4
  have hG4 := g_trans hG3 g4
  clear hB3 hP3 hD3 hG3 g4
  go_wp2_with fail
  refine (clone_calls m _ _ hM4).mono ?_
  rintro e w5 ⟨rfl, hMb5, g5⟩
  obtain ⟨mb, hmb⟩ : ∃ mb, mb = w4.heap.size := ⟨_, rfl⟩
  rw [← hmb] at hMb5
  rw [← hmb]
  have hne : m ≠ mb := by obtain ⟨C, hC⟩ := hM4.blk; have := hC.lt; omega
  clear hmb
  have hB5 := hB4.ext g5
  have hP5 : PairAt w5 p d := At.ext hP4 g5
  have hD5 := hD4.ext g5
  have hM5 := hM4.ext g5 (by simp)
  have hG5 := g_trans hG4 g5
  clear hB4 hP4 hD4 hM4 hG4 g5
  have c5 : w5.cell? ⟨bb, 0, none⟩ = some (.pointer (some ⟨d, 0, none⟩)) := hB5.cell 0
  go_wp2_with fail
  refine (steps_calls _ d _ _ _ _ hD5).mono ?_
  rintro e w6 ⟨rfl, g6⟩
  have hB6 := hB5.ext g6
  have hP6 : PairAt w6 p d := At.ext hP5 g6
  have hD6 := hD5.ext g6
  have hM6 := hM5.ext g6 (by simp)
  have hMb6 := hMb5.ext g6 (by simp)
  have hG6 := g_trans hG5 g6
  clear hB5 hP5 hD5 hM5 hMb5 hG5 g6 c5
  have c6 : w6.cell? ⟨bb, 0, none⟩ = some (.pointer (some ⟨d, 0, none⟩)) := hB6.cell 0
  go_wp2_with fail
  refine (alike_calls _ p d m _ _ _ _ _ hP6 hD6 hM6.any).mono ?_
  rintro e w7 ⟨rfl, g7⟩
  have hal : alike [zB, zB, zB, zB, zB, zB, zB, zB] [zB, zB, zB, zB, zB] = true := rfl
  rw [hal]
  clear hal
  have hB7 := hB6.ext g7
  have hP7 : PairAt w7 p d := At.ext hP6 g7
  have hD7 := hD6.ext g7
  have hM7 := hM6.ext g7 (by simp)
  have hMb7 := hMb6.ext g7 (by simp)
  have hG7 := g_trans hG6 g7
  clear hB6 hP6 hD6 hM6 hMb6 hG6 g7 c6
  have c7 : w7.cell? ⟨bb, 0, none⟩ = some (.pointer (some ⟨d, 0, none⟩)) := hB7.cell 0
  go_wp2_with fail
  refine (steps_calls _ d _ _ _ _ hD7).mono ?_
  rintro e w8 ⟨rfl, g8⟩
  have hB8 := hB7.ext g8
  have hP8 : PairAt w8 p d := At.ext hP7 g8
  have hD8 := hD7.ext g8
  have hM8 := hM7.ext g8 (by simp)
  have hMb8 := hMb7.ext g8 (by simp)
  have hG8 := g_trans hG7 g8
  clear hB7 hP7 hD7 hM7 hMb7 hG7 g8 c7
  go_wp2_with fail
  have hSt : St w.heap.size bb w8 p d m mb _ _ _ _ _ := ⟨hB8, hP8, hD8, hM8.any, hMb8.any, hbw, hdw, hmw, hne, inv_zero, by simp⟩
  clear hB8 hP8 hD8 hM8 hMb8 hbw hdw hmw hne
  go_loopw [9, 10, 11, 13] (fun s9 s10 s11 s13 wr => Rl w bb len s9 s10 s11 s13 wr) (fun _ _ _ i _ => len - (intOf i).toNat)
  case atStart => exact ⟨0, p, d, m, mb, _, _, _, _, _, by omega, by omega, rfl, rfl, rfl, rfl, hSt, hG8⟩
  case round =>
    clear hSt hG8
    clear w1 w2 w3 w4 w5 w6 w7 w8
    obtain ⟨k, p, d, m, mb, now, bas, log, mnow, mbnow, hk, hk42, rfl, rfl, rfl, rfl, hSt, hG⟩ := hrel
    by_cases hlt : k < len ∧ (k : Int) < 4398046511104
    · obtain ⟨hl, h42⟩ := hlt
      obtain ⟨sb, so, rfl, kd, a, b, c, s, t, e0, e1, e2, e3, e4, e5, hs, ht⟩ := hS k hl
      have j0 := hG.cell e0 (by simp)
      have j1 := hG.cell e1 (by simp)
      have j2 := hG.cell e2 (by simp)
      have j3 := hG.cell e3 (by simp)
      have j4 := hG.cell e4 (by simp)
      have j5 := hG.cell e5 (by simp)
      have hkI : (k : Int) < (len : Int) := by omega
      clear e0 e1 e2 e3 e4 e5 hk hk42
      have hO := At.new wr #[.int .i64 kd, .int .i64 a, .int .i64 b, .int .i64 c, .string s, .string t] 38
      have g1 : wr.grownBy (wr.alloc (.cells #[.int .i64 kd, .int .i64 a, .int .i64 b, .int .i64 c, .string s, .string t] 38)) none := g_alloc (g_refl _ _) _
      by_cases hkd : kd = 3
      · have hkb : (kd != 3) = false := by simp [hkd]
        clear hkd
        go_wp2
        exact ⟨⟨k + 1, p, d, m, mb, now, bas, log, mnow, mbnow, by omega, by omega, by go_num, rfl, rfl, rfl, hSt.ext g1, g_trans hG g1⟩, by simp [intOf]; omega⟩
      · have hkb : (kd != 3) = true := by simp [hkd]
        clear hkd
        have cb : wr.cell? ⟨bb, 0, none⟩ = some (.pointer (some ⟨d, 0, none⟩)) := hSt.box.cell 0
        have lb := hSt.box.lt
        go_wp2_with fail
        generalize hW1 : (wr.alloc (.cells #[.int .i64 kd, .int .i64 a, .int .i64 b, .int .i64 c, .string s, .string t] 38)) = w1 at *
        clear hW1
        obtain ⟨ob, hob⟩ : ∃ ob, ob = wr.heap.size := ⟨_, rfl⟩
        rw [← hob] at hO
        rw [← hob]
        clear hob j0 j1 j2 j3 j4 j5 cb lb
        have hSt1 := hSt.ext g1
        have hG1 := g_trans hG g1
        clear hSt hG g1
        -- Mark(b)
        refine (mark_calls _ d _ _ _ _ hSt1.disk).mono ?_
        rintro e w2 ⟨rfl, hN2, g2⟩
        go_wp2_with fail
        refine (mmark_calls m mnow _ (hSt1.mod.ext g2 hSt1.md)).mono ?_
        rintro e w3 ⟨rfl, hM3, g3⟩
        go_wp2_with fail
        refine (clone_calls m mnow _ hM3).mono ?_
        rintro e w4 ⟨rfl, hMb4, g4⟩
        obtain ⟨hR4, hO4, hB4, k4⟩ := marks_ready hSt1 hO hN2 g2 hM3 g3 g4
        obtain ⟨mb', hmb⟩ : ∃ mb', mb' = w3.heap.size := ⟨_, rfl⟩
        rw [← hmb] at hMb4
        rw [← hmb]
        have hmb' : mb' ≠ m := by obtain ⟨C, hC⟩ := hM3.blk; have := hC.lt; omega
        have hG4 : w.grownBy w4 none := kept2_grown hG1 k4 hSt1.hd hSt1.hm
        clear hmb hM3 g2 g3 g4 hN2 hO k4 hG1
        have o0 : w4.cell? ⟨ob, 0, none⟩ = some (.int .i64 kd) := hO4.cell 0
        have o1 : w4.cell? ⟨ob, 1, none⟩ = some (.int .i64 a) := hO4.cell 1
        have o2 : w4.cell? ⟨ob, 2, none⟩ = some (.int .i64 b) := hO4.cell 2
        have o3 : w4.cell? ⟨ob, 3, none⟩ = some (.int .i64 c) := hO4.cell 3
        have o4 : w4.cell? ⟨ob, 4, none⟩ = some (.string s) := hO4.cell 4
        have o5 : w4.cell? ⟨ob, 5, none⟩ = some (.string t) := hO4.cell 5
        go_wp2_with fail
        refine (play_calls p d m now mnow kd a b c s t _ hR4 hs ht).mono ?_
        rintro e w5 ⟨rfl, now', log', mnow', hD5, hM5, k5, hI5, hl5⟩
        have hSt5 := played_st hSt1 hR4 hB4 hMb4 hmb' hG4.size hD5 hM5 k5 hI5 hl5
        have hG5 : w.grownBy w5 none := kept2_grown hG4 k5 hSt1.hd hSt1.hm
        have c5 : w5.cell? ⟨bb, 0, none⟩ = some (.pointer (some ⟨d, 0, none⟩)) := hSt5.box.cell 0
        clear hSt1 hR4 hO4 hB4 hMb4 hmb' hG4 o0 o1 o2 o3 o4 o5 hD5 hM5 k5 hI5 hl5 hs ht
        go_wp2_with fail
        refine (steps_calls _ d _ _ _ _ hSt5.disk).mono ?_
        rintro e w6 ⟨rfl, g6⟩
        have hSt6 := hSt5.ext g6
        have hG6 := g_trans hG5 g6
        clear hSt5 hG5 c5 g6
        go_wp2_with fail
        refine (alike_calls _ p d m _ _ _ _ _ hSt6.pair hSt6.disk hSt6.mod).mono ?_
        rintro e w7 ⟨rfl, g7⟩
        rw [alike_inv hSt6.inv]
        have hSt7 := hSt6.ext g7
        have hG7 := g_trans hG6 g7
        have c7 : w7.cell? ⟨bb, 0, none⟩ = some (.pointer (some ⟨d, 0, none⟩)) := hSt7.box.cell 0
        clear hSt6 hG6 g7
        go_wp2_with fail
        refine (steps_calls _ d _ _ _ _ hSt7.disk).mono ?_
        rintro e w8 ⟨rfl, g8⟩
        have hSt8 := hSt7.ext g8
        have hG8 := g_trans hG7 g8
        clear hSt7 hG7 c7 g8
        go_wp2
        exact ⟨⟨k + 1, p, d, m, mb', _, _, _, _, _, by omega, by omega, by go_num, rfl, rfl, rfl, hSt8, hG8⟩, by simp [intOf]; omega⟩
    · clear hSt
      by_cases hl : k < len
      · have h42 : ¬ (k : Int) < 4398046511104 := fun h => hlt ⟨hl, h⟩
        have hkI : (k : Int) < (len : Int) := by omega
        clear hlt
        have hlm : ¬ (len : Int) < 4398046511104 := by omega
        go_wp2
        go_ret2
        exact ⟨⟨_, rfl⟩, hG⟩
      · have hkI : ¬ (k : Int) < (len : Int) := by omega
        clear hlt
        by_cases hlm : (len : Int) < 4398046511104
        · go_wp2
          go_ret2
          exact ⟨⟨_, rfl⟩, hG⟩
        · go_wp2
          go_ret2
          exact ⟨⟨_, rfl⟩, hG⟩
end Go.Proofs.Qxb6500338a
