/-
  walk, cuts played.
-/
import Derived.Test.Qxb6500338aW18
namespace Go.Proofs.Qxb6500338a
open Go.RowKit
set_option maxRecDepth 100000 in
set_option maxHeartbeats 3200000 in
/-- walk. -/
theorem walk_full (ao : Option Addr) (len cap : Nat) (w : World) (hS : Script w ao len) : Calls Try.prog 7 #[.slice ao len cap, .bool false, .bool false] w (WalkPost w) := by
  go_enter Try.func7, Try.ntmps7
  go_wp2_with fail
  refine (ground_calls _).mono ?_
  rintro e w1 ⟨rfl, hN1, hg1⟩
  -- b, Open
  obtain ⟨d, hd⟩ : ∃ d, d = w.heap.size + 1 := ⟨_, rfl⟩
  rw [← hd] at hN1
  rw [← hd]
  have hdw : w.heap.size ≤ d := by omega
  clear hd
  go_wp2_with fail
  have hB2 := At.new w1 #[.pointer (some ⟨d, 0, none⟩)] 29
  have hN2 := hN1.ext (g_alloc (g_refl w1 none) (.cells #[.pointer (some ⟨d, 0, none⟩)] 29)) (by simp)
  have hg2 := g_alloc hg1 (.cells #[.pointer (some ⟨d, 0, none⟩)] 29)
  obtain ⟨bb, hbb⟩ : ∃ bb, bb = w1.heap.size := ⟨_, rfl⟩
  rw [← hbb] at hB2
  rw [← hbb]
  have hbw : w.heap.size ≤ bb := by have := hg1.size; omega
  clear hbb
  generalize w1.alloc (.cells #[.pointer (some ⟨d, 0, none⟩)] 29) = w2 at *
  clear hN1 hg1
  refine (open_calls d _ _ _ hN2).mono ?_
  rintro e w3 ⟨p, rfl, hp, hP3, hD3, hg3⟩
  have hz1 : rcv [zB, zB, zB, zB, zB, zB, zB, zB] = [zB, zB, zB, zB, zB, zB, zB, zB] := rfl
  have hz2 : recW [zB, zB, zB, zB, zB, zB, zB, zB] = [] := rfl
  rw [hz1, hz2] at hD3
  clear hz1 hz2
  have hbd : bb ≠ d := At.ne hB2 hN2.1 (by decide)
  have hB3 := hB2.kept hg3 (by simpa using hbd)
  replace hD3 := hD3.mono hg2.size
  have hG3 : w.grownBy w3 none := g_new hg2 hdw hg3
  clear hg2 hg3 hB2 hN2 hbd hp
  go_wp2_with fail
  -- the model
  refine (newMod_calls _).mono ?_
  rintro e w4 ⟨rfl, hw4⟩
  have hM4 : ModNil w4 w3.heap.size [zB, zB, zB, zB, zB] := by rw [hw4]; exact ⟨[zB, zB, zB, zB, zB], At.new _ _ _, rfl, rfl⟩
  have g4 : w3.grownBy w4 none := by rw [hw4]; exact g_alloc (g_refl _ _) _
  clear hw4
  obtain ⟨m, hm⟩ : ∃ m, m = w3.heap.size := ⟨_, rfl⟩
  rw [← hm] at hM4
  rw [← hm]
  have hmw : w.heap.size ≤ m := by have := hG3.size; omega
  clear hm
  have hB4 := hB3.ext g4
  have hP4 : PairAt w4 p d := At.ext hP3 g4
  have hD4 := hD3.ext g4
  have hG4 := g_trans hG3 g4
  clear hB3 hP3 hD3 hG3 g4
  go_wp2_with fail
  refine (clone_calls m _ _ hM4).mono ?_
  rintro e w5 ⟨rfl, hMb5, g5⟩
  obtain ⟨mb, hmb⟩ : ∃ mb, mb = w4.heap.size := ⟨_, rfl⟩
  rw [← hmb] at hMb5
  rw [← hmb]
  have hne : m ≠ mb := by obtain ⟨C, hC⟩ := hM4.blk; have := hC.lt; omega
  clear hmb
  have hB5 := hB4.ext g5
  have hP5 : PairAt w5 p d := At.ext hP4 g5
  have hD5 := hD4.ext g5
  have hM5 := hM4.ext g5 (by simp)
  have hG5 := g_trans hG4 g5
  clear hB4 hP4 hD4 hM4 hG4 g5
  have c5 : w5.cell? ⟨bb, 0, none⟩ = some (.pointer (some ⟨d, 0, none⟩)) := hB5.cell 0
  go_wp2_with fail
  refine (steps_calls _ d _ _ _ _ hD5).mono ?_
  rintro e w6 ⟨rfl, g6⟩
  have hB6 := hB5.ext g6
  have hP6 : PairAt w6 p d := At.ext hP5 g6
  have hD6 := hD5.ext g6
  have hM6 := hM5.ext g6 (by simp)
  have hMb6 := hMb5.ext g6 (by simp)
  have hG6 := g_trans hG5 g6
  clear hB5 hP5 hD5 hM5 hMb5 hG5 g6 c5
  have c6 : w6.cell? ⟨bb, 0, none⟩ = some (.pointer (some ⟨d, 0, none⟩)) := hB6.cell 0
  go_wp2_with fail
  refine (alike_calls _ p d m _ _ _ _ _ hP6 hD6 hM6.any).mono ?_
  rintro e w7 ⟨rfl, g7⟩
  have hal : alike [zB, zB, zB, zB, zB, zB, zB, zB] [zB, zB, zB, zB, zB] = true := rfl
  rw [hal]
  clear hal
  have hB7 := hB6.ext g7
  have hP7 : PairAt w7 p d := At.ext hP6 g7
  have hD7 := hD6.ext g7
  have hM7 := hM6.ext g7 (by simp)
  have hMb7 := hMb6.ext g7 (by simp)
  have hG7 := g_trans hG6 g7
  clear hB6 hP6 hD6 hM6 hMb6 hG6 g7 c6
  have c7 : w7.cell? ⟨bb, 0, none⟩ = some (.pointer (some ⟨d, 0, none⟩)) := hB7.cell 0
  go_wp2_with fail
  refine (steps_calls _ d _ _ _ _ hD7).mono ?_
  rintro e w8 ⟨rfl, g8⟩
  have hB8 := hB7.ext g8
  have hP8 : PairAt w8 p d := At.ext hP7 g8
  have hD8 := hD7.ext g8
  have hM8 := hM7.ext g8 (by simp)
  have hMb8 := hMb7.ext g8 (by simp)
  have hG8 := g_trans hG7 g8
  clear hB7 hP7 hD7 hM7 hMb7 hG7 g8 c7
  go_wp2_with fail
  have hSt : St w.heap.size bb w8 p d m mb _ _ _ _ _ := ⟨hB8, hP8, hD8, hM8.any, hMb8.any, hbw, hdw, hmw, hne, inv_zero, by simp⟩
  clear hB8 hP8 hD8 hM8 hMb8 hbw hdw hmw hne
  go_loopw [9, 10, 11, 13] (fun s9 s10 s11 s13 wr => Rl w bb len s9 s10 s11 s13 wr) (fun _ _ _ i _ => len - (intOf i).toNat)
  case atStart => exact ⟨0, p, d, m, mb, _, _, _, _, _, by omega, by omega, rfl, rfl, rfl, rfl, hSt, hG8⟩
  case round =>
    clear hSt hG8
    clear w1 w2 w3 w4 w5 w6 w7 w8
    obtain ⟨k, p, d, m, mb, now, bas, log, mnow, mbnow, hk, hk42, rfl, rfl, rfl, rfl, hSt, hG⟩ := hrel
    by_cases hlt : k < len ∧ (k : Int) < 4398046511104
    · obtain ⟨hl, h42⟩ := hlt
      obtain ⟨sb, so, rfl, kd, a, b, c, s, t, e0, e1, e2, e3, e4, e5, hs, ht⟩ := hS k hl
      have j0 := hG.cell e0 (by simp)
      have j1 := hG.cell e1 (by simp)
      have j2 := hG.cell e2 (by simp)
      have j3 := hG.cell e3 (by simp)
      have j4 := hG.cell e4 (by simp)
      have j5 := hG.cell e5 (by simp)
      have hkI : (k : Int) < (len : Int) := by omega
      clear e0 e1 e2 e3 e4 e5 hk hk42
      have hO := At.new wr #[.int .i64 kd, .int .i64 a, .int .i64 b, .int .i64 c, .string s, .string t] 38
      have g1 : wr.grownBy (wr.alloc (.cells #[.int .i64 kd, .int .i64 a, .int .i64 b, .int .i64 c, .string s, .string t] 38)) none := g_alloc (g_refl _ _) _
      by_cases hkd : kd = 3
      · have hkb : (kd != 3) = false := by simp [hkd]
        clear hkd
        have cb : wr.cell? ⟨bb, 0, none⟩ = some (.pointer (some ⟨d, 0, none⟩)) := hSt.box.cell 0
        have lb := hSt.box.lt
        clear hs ht
        go_wp2_with fail
        generalize hW1 : (wr.alloc (.cells #[.int .i64 kd, .int .i64 a, .int .i64 b, .int .i64 c, .string s, .string t] 38)) = w1 at *
        clear hW1
        obtain ⟨ob, hob⟩ : ∃ ob, ob = wr.heap.size := ⟨_, rfl⟩
        rw [← hob] at hO
        rw [← hob]
        clear hob j0 j1 j2 j3 j4 j5 cb lb
        have hSt1 := hSt.ext g1
        have hG1 := g_trans hG g1
        clear hSt hG g1
        -- n := Steps(b)
        refine (steps_calls _ d _ _ _ _ hSt1.disk).mono ?_
        rintro e w2 ⟨rfl, g2⟩
        have hSt2 := hSt1.ext g2
        have hO2 := hO.ext g2
        have hG2 := g_trans hG1 g2
        clear hSt1 hO hG1 g2
        have cb : w2.cell? ⟨bb, 0, none⟩ = some (.pointer (some ⟨d, 0, none⟩)) := hSt2.box.cell 0
        have lb := hSt2.box.lt
        have oA : w2.cell? ⟨ob, 1, none⟩ = some (.int .i64 a) := hO2.cell 1
        have lo := hO2.lt
        have g3 : w2.grownBy (w2.alloc (.cells #[.pointer (some ⟨d, 0, none⟩)] 29)) none := g_alloc (g_refl _ _) _
        have hB03 := At.new w2 #[.pointer (some ⟨d, 0, none⟩)] 29
        have hne0 : w2.heap.size ≠ bb := by omega
        have haft := after_calls _ d now bas log a (w2.alloc (.cells #[.pointer (some ⟨d, 0, none⟩)] 29)) (hSt2.disk.ext g3) hSt2.short
        have hlooks := cut_looks hSt2.inv a
        have htl : (app bas (log.take a.toNat)).length = 8 := by rw [app_length, hSt2.inv.len]
        obtain ⟨d2, hd2⟩ : ∃ d2, (w2.alloc (.cells #[.pointer (some ⟨d, 0, none⟩)] 29)).heap.size + 2 = d2 := ⟨_, rfl⟩
        rw [hd2] at haft
        have hdd : d ≠ d2 := by obtain ⟨C, hC⟩ := hSt2.disk.blk; have := hC.lt; rw [World.size_alloc] at hd2; omega
        have hHd : w.heap.size ≤ d2 := by have := hG2.size; rw [World.size_alloc] at hd2; omega
        obtain ⟨tt, htt⟩ : ∃ tt, app bas (log.take a.toNat) = tt := ⟨_, rfl⟩
        rw [htt] at haft hlooks htl
        have HA := haft
        have HL : Hid ((alike (rcv tt) mbnow = true ∨ alike (rcv tt) mnow = true) ∧ (a ≤ 0 → alike (rcv tt) mbnow = true) ∧ ((log.length : Int) ≤ a → alike (rcv tt) mnow = true)) := hlooks
        have HTT : Hid (app bas (log.take a.toNat) = tt) := htt
        clear haft hlooks hd2 htt
        go_wp2_with fail
        refine HA.mono ?_
        clear HA
        rintro e w4 ⟨rfl, hN4, g4⟩
        have g24 := g_trans g3 g4
        have hB4 := hSt2.box.ext g24
        have hB04 := hB03.ext g4
        have hO4 := hO2.ext g24
        have hD4 := hSt2.disk.ext g24
        have hM4 := hSt2.mod.ext g24 (by simp)
        have hMb4 := hSt2.modb.ext g24 (by simp)
        have hG4 := g_trans hG2 g24
        have hbb := hSt2.hbb
        clear g3 g4 g24 hB03 hO2 hG2 cb lb oA lo
        have cb : w4.cell? ⟨bb, 0, none⟩ = some (.pointer (some ⟨d, 0, none⟩)) := hB4.cell 0
        have fb := hB4.free 0
        go_wp2_with fail
        generalize hW : w4.setCell ⟨bb, 0, none⟩ (.pointer (some ⟨d2, 0, none⟩)) = w5
        obtain ⟨hB5, hB05, hO5, hN5, hD5, hM5, hMb5, g5, hs5⟩ := cut_store hB4 hB04 hne0 hO4 hN4 hD4 hM4 hMb4 w5 hW.symm
        have hG5 := g_new hG4 hbb g5
        clear hW hB4 hB04 hO4 hN4 hD4 hM4 hMb4 g5 hs5 hG4 cb fb
        -- the recovery
        refine (open_calls d2 tt tt w5 hN5).mono ?_
        rintro e w6 ⟨p2, rfl, hp2, hP6, hD6, g6⟩
        have hm6 := cut_open hB5 hB05 hO5 hN5 hD5 hM5 hMb5 hdd hG5.size hP6 hD6 g6
        have hG6 := g_new hG5 hHd g6
        clear hB5 hB05 hO5 hN5 hD5 hM5 hMb5 hP6 hD6 g6 hG5 hp2
        have cb : w6.cell? ⟨bb, 0, none⟩ = some (.pointer (some ⟨d2, 0, none⟩)) := hm6.box.cell 0
        go_wp2_with fail
        refine (steps_calls _ d2 _ _ _ _ hm6.disk2).mono ?_
        rintro e w7 ⟨rfl, g7⟩
        have hm7 := hm6.ext g7
        have hG7 := g_trans hG6 g7
        clear hm6 hG6 g7 cb
        -- the two looks
        go_wp2_with fail
        refine (crashed_calls mb mbnow _ hm7.modb).mono ?_
        rintro e w8 ⟨rfl, hC8, g8⟩
        have hm8 := hm7.ext g8
        have hG8 := g_trans hG7 g8
        clear hm7 hG7 g8
        go_wp2_with fail
        refine (alike_calls _ p2 d2 w7.heap.size _ _ _ _ _ hm8.pair hm8.disk2 hC8.any).mono ?_
        rintro e w9 ⟨rfl, g9⟩
        have hm9 := hm8.ext g9
        have hG9 := g_trans hG8 g9
        clear hm8 hG8 g9 hC8
        obtain ⟨rn, hrn⟩ : ∃ rn, alike (rcv tt) mbnow = rn := ⟨_, rfl⟩
        rw [hrn]
        have HRN : Hid (alike (rcv tt) mbnow = rn) := hrn
        clear hrn
        go_wp2_with fail
        refine (crashed_calls m mnow _ hm9.mod).mono ?_
        rintro e w10 ⟨rfl, hC10, g10⟩
        have hm10 := hm9.ext g10
        have hG10 := g_trans hG9 g10
        clear hm9 hG9 g10
        go_wp2_with fail
        refine (alike_calls _ p2 d2 w9.heap.size _ _ _ _ _ hm10.pair hm10.disk2 hC10.any).mono ?_
        rintro e w11 ⟨rfl, g11⟩
        have hm11 := hm10.ext g11
        have hG11 := g_trans hG10 g11
        clear hm10 hG10 g11 hC10
        obtain ⟨ra, hra⟩ : ∃ ra, alike (rcv tt) mnow = ra := ⟨_, rfl⟩
        rw [hra]
        have HRA : Hid (alike (rcv tt) mnow = ra) := hra
        clear hra
        have cb : w11.cell? ⟨bb, 0, none⟩ = some (.pointer (some ⟨d2, 0, none⟩)) := hm11.box.cell 0
        go_wp2_with fail
        refine (steps_calls _ d2 _ _ _ _ hm11.disk2).mono ?_
        rintro e w12 ⟨rfl, g12⟩
        have hm12 := hm11.ext g12
        have hG12 := g_trans hG11 g12
        clear hm11 hG11 g12 cb
        have oA : w12.cell? ⟨ob, 1, none⟩ = some (.int .i64 a) := hm12.op.cell 1
        have hl0 := HL.out
        rw [HRN.out, HRA.out] at hl0
        obtain ⟨l1, l2, l3⟩ := hl0
        clear HL
        cases rn with
        | true =>
          cases ra with
          | true =>
            clear l1 l2 l3
            rcases Int.lt_or_le 0 a with hA0 | hA0
            · rcases Int.lt_or_le a (log.length : Int) with hAn | hAn
              · first | have hd0 : decide (a ≤ 0) = false := decide_eq_false (Int.not_le.2 hA0) | skip
                first | have hd1 : decide ((log.length : Int) ≤ a) = false := decide_eq_false (Int.not_le.2 hAn) | skip
                go_wp2_with fail
                refine (crashed_calls m mnow _ hm12.mod).mono ?_
                rintro e w13 ⟨rfl, hM13, g13⟩
                go_wp2_with fail
                refine (clone_calls w12.heap.size mnow _ hM13).mono ?_
                rintro e w14 ⟨rfl, hMb14, g14⟩
                have hne14 : w12.heap.size ≠ w13.heap.size := by obtain ⟨C, hC⟩ := hM13.blk; have := hC.lt; omega
                have hSt14 := mid_st hm12 g13 hM13 g14 hMb14 hbb hHd hG12.size hne14 htl ((alike_iff _ _).1 HRA.out)
                clear hm12 hM13 hMb14 oA
                go_wp2
                exact ⟨⟨k + 1, p2, d2, w12.heap.size, w13.heap.size, _, _, _, _, _, by omega, by omega, by go_num, rfl, rfl, rfl, hSt14, g_trans (g_trans hG12 g13) g14⟩, by simp [intOf]; omega⟩
              · first | have hd0 : decide (a ≤ 0) = false := decide_eq_false (Int.not_le.2 hA0) | skip
                first | have hd1 : decide ((log.length : Int) ≤ a) = false := decide_eq_false (Int.not_le.2 hAn) | skip
                go_wp2_with fail
                refine (crashed_calls m mnow _ hm12.mod).mono ?_
                rintro e w13 ⟨rfl, hM13, g13⟩
                go_wp2_with fail
                refine (clone_calls w12.heap.size mnow _ hM13).mono ?_
                rintro e w14 ⟨rfl, hMb14, g14⟩
                have hne14 : w12.heap.size ≠ w13.heap.size := by obtain ⟨C, hC⟩ := hM13.blk; have := hC.lt; omega
                have hSt14 := mid_st hm12 g13 hM13 g14 hMb14 hbb hHd hG12.size hne14 htl ((alike_iff _ _).1 HRA.out)
                clear hm12 hM13 hMb14 oA
                go_wp2
                exact ⟨⟨k + 1, p2, d2, w12.heap.size, w13.heap.size, _, _, _, _, _, by omega, by omega, by go_num, rfl, rfl, rfl, hSt14, g_trans (g_trans hG12 g13) g14⟩, by simp [intOf]; omega⟩
            · rcases Int.lt_or_le a (log.length : Int) with hAn | hAn
              · first | have hd0 : decide (a ≤ 0) = false := decide_eq_false (Int.not_le.2 hA0) | skip
                first | have hd1 : decide ((log.length : Int) ≤ a) = false := decide_eq_false (Int.not_le.2 hAn) | skip
                go_wp2_with fail
                refine (crashed_calls m mnow _ hm12.mod).mono ?_
                rintro e w13 ⟨rfl, hM13, g13⟩
                go_wp2_with fail
                refine (clone_calls w12.heap.size mnow _ hM13).mono ?_
                rintro e w14 ⟨rfl, hMb14, g14⟩
                have hne14 : w12.heap.size ≠ w13.heap.size := by obtain ⟨C, hC⟩ := hM13.blk; have := hC.lt; omega
                have hSt14 := mid_st hm12 g13 hM13 g14 hMb14 hbb hHd hG12.size hne14 htl ((alike_iff _ _).1 HRA.out)
                clear hm12 hM13 hMb14 oA
                go_wp2
                exact ⟨⟨k + 1, p2, d2, w12.heap.size, w13.heap.size, _, _, _, _, _, by omega, by omega, by go_num, rfl, rfl, rfl, hSt14, g_trans (g_trans hG12 g13) g14⟩, by simp [intOf]; omega⟩
              · first | have hd0 : decide (a ≤ 0) = false := decide_eq_false (Int.not_le.2 hA0) | skip
                first | have hd1 : decide ((log.length : Int) ≤ a) = false := decide_eq_false (Int.not_le.2 hAn) | skip
                go_wp2_with fail
                refine (crashed_calls m mnow _ hm12.mod).mono ?_
                rintro e w13 ⟨rfl, hM13, g13⟩
                go_wp2_with fail
                refine (clone_calls w12.heap.size mnow _ hM13).mono ?_
                rintro e w14 ⟨rfl, hMb14, g14⟩
                have hne14 : w12.heap.size ≠ w13.heap.size := by obtain ⟨C, hC⟩ := hM13.blk; have := hC.lt; omega
                have hSt14 := mid_st hm12 g13 hM13 g14 hMb14 hbb hHd hG12.size hne14 htl ((alike_iff _ _).1 HRA.out)
                clear hm12 hM13 hMb14 oA
                go_wp2
                exact ⟨⟨k + 1, p2, d2, w12.heap.size, w13.heap.size, _, _, _, _, _, by omega, by omega, by go_num, rfl, rfl, rfl, hSt14, g_trans (g_trans hG12 g13) g14⟩, by simp [intOf]; omega⟩
          | false =>
            have hAn : a < (log.length : Int) := Int.not_le.1 (fun h => Bool.noConfusion (l3 h))
            clear l1 l2 l3
            rcases Int.lt_or_le 0 a with hA0 | hA0
            · first | have hd0 : decide (a ≤ 0) = false := decide_eq_false (Int.not_le.2 hA0) | skip
              first | have hd1 : decide ((log.length : Int) ≤ a) = false := decide_eq_false (Int.not_le.2 hAn) | skip
              go_wp2_with fail
              refine (crashed_calls mb mbnow _ hm12.modb).mono ?_
              rintro e w13 ⟨rfl, hM13, g13⟩
              go_wp2_with fail
              refine (clone_calls w12.heap.size mbnow _ hM13).mono ?_
              rintro e w14 ⟨rfl, hMb14, g14⟩
              have hne14 : w12.heap.size ≠ w13.heap.size := by obtain ⟨C, hC⟩ := hM13.blk; have := hC.lt; omega
              have hSt14 := mid_st hm12 g13 hM13 g14 hMb14 hbb hHd hG12.size hne14 htl ((alike_iff _ _).1 HRN.out)
              clear hm12 hM13 hMb14 oA
              go_wp2
              exact ⟨⟨k + 1, p2, d2, w12.heap.size, w13.heap.size, _, _, _, _, _, by omega, by omega, by go_num, rfl, rfl, rfl, hSt14, g_trans (g_trans hG12 g13) g14⟩, by simp [intOf]; omega⟩
            · first | have hd0 : decide (a ≤ 0) = false := decide_eq_false (Int.not_le.2 hA0) | skip
              first | have hd1 : decide ((log.length : Int) ≤ a) = false := decide_eq_false (Int.not_le.2 hAn) | skip
              go_wp2_with fail
              refine (crashed_calls mb mbnow _ hm12.modb).mono ?_
              rintro e w13 ⟨rfl, hM13, g13⟩
              go_wp2_with fail
              refine (clone_calls w12.heap.size mbnow _ hM13).mono ?_
              rintro e w14 ⟨rfl, hMb14, g14⟩
              have hne14 : w12.heap.size ≠ w13.heap.size := by obtain ⟨C, hC⟩ := hM13.blk; have := hC.lt; omega
              have hSt14 := mid_st hm12 g13 hM13 g14 hMb14 hbb hHd hG12.size hne14 htl ((alike_iff _ _).1 HRN.out)
              clear hm12 hM13 hMb14 oA
              go_wp2
              exact ⟨⟨k + 1, p2, d2, w12.heap.size, w13.heap.size, _, _, _, _, _, by omega, by omega, by go_num, rfl, rfl, rfl, hSt14, g_trans (g_trans hG12 g13) g14⟩, by simp [intOf]; omega⟩
        | false =>
          have hA0 : 0 < a := Int.not_le.1 (fun h => Bool.noConfusion (l2 h))
          cases ra with
          | true =>
            clear l1 l2 l3
            rcases Int.lt_or_le a (log.length : Int) with hAn | hAn
            · first | have hd0 : decide (a ≤ 0) = false := decide_eq_false (Int.not_le.2 hA0) | skip
              first | have hd1 : decide ((log.length : Int) ≤ a) = false := decide_eq_false (Int.not_le.2 hAn) | skip
              go_wp2_with fail
              refine (crashed_calls m mnow _ hm12.mod).mono ?_
              rintro e w13 ⟨rfl, hM13, g13⟩
              go_wp2_with fail
              refine (clone_calls w12.heap.size mnow _ hM13).mono ?_
              rintro e w14 ⟨rfl, hMb14, g14⟩
              have hne14 : w12.heap.size ≠ w13.heap.size := by obtain ⟨C, hC⟩ := hM13.blk; have := hC.lt; omega
              have hSt14 := mid_st hm12 g13 hM13 g14 hMb14 hbb hHd hG12.size hne14 htl ((alike_iff _ _).1 HRA.out)
              clear hm12 hM13 hMb14 oA
              go_wp2
              exact ⟨⟨k + 1, p2, d2, w12.heap.size, w13.heap.size, _, _, _, _, _, by omega, by omega, by go_num, rfl, rfl, rfl, hSt14, g_trans (g_trans hG12 g13) g14⟩, by simp [intOf]; omega⟩
            · first | have hd0 : decide (a ≤ 0) = false := decide_eq_false (Int.not_le.2 hA0) | skip
              first | have hd1 : decide ((log.length : Int) ≤ a) = false := decide_eq_false (Int.not_le.2 hAn) | skip
              go_wp2_with fail
              refine (crashed_calls m mnow _ hm12.mod).mono ?_
              rintro e w13 ⟨rfl, hM13, g13⟩
              go_wp2_with fail
              refine (clone_calls w12.heap.size mnow _ hM13).mono ?_
              rintro e w14 ⟨rfl, hMb14, g14⟩
              have hne14 : w12.heap.size ≠ w13.heap.size := by obtain ⟨C, hC⟩ := hM13.blk; have := hC.lt; omega
              have hSt14 := mid_st hm12 g13 hM13 g14 hMb14 hbb hHd hG12.size hne14 htl ((alike_iff _ _).1 HRA.out)
              clear hm12 hM13 hMb14 oA
              go_wp2
              exact ⟨⟨k + 1, p2, d2, w12.heap.size, w13.heap.size, _, _, _, _, _, by omega, by omega, by go_num, rfl, rfl, rfl, hSt14, g_trans (g_trans hG12 g13) g14⟩, by simp [intOf]; omega⟩
          | false => exact l1.elim (fun h => Bool.noConfusion h) (fun h => Bool.noConfusion h)
      · have hkb : (kd != 3) = true := by simp [hkd]
        clear hkd
        have cb : wr.cell? ⟨bb, 0, none⟩ = some (.pointer (some ⟨d, 0, none⟩)) := hSt.box.cell 0
        have lb := hSt.box.lt
        go_wp2_with fail
        generalize hW1 : (wr.alloc (.cells #[.int .i64 kd, .int .i64 a, .int .i64 b, .int .i64 c, .string s, .string t] 38)) = w1 at *
        clear hW1
        obtain ⟨ob, hob⟩ : ∃ ob, ob = wr.heap.size := ⟨_, rfl⟩
        rw [← hob] at hO
        rw [← hob]
        clear hob j0 j1 j2 j3 j4 j5 cb lb
        have hSt1 := hSt.ext g1
        have hG1 := g_trans hG g1
        clear hSt hG g1
        -- Mark(b)
        refine (mark_calls _ d _ _ _ _ hSt1.disk).mono ?_
        rintro e w2 ⟨rfl, hN2, g2⟩
        go_wp2_with fail
        refine (mmark_calls m mnow _ (hSt1.mod.ext g2 hSt1.md)).mono ?_
        rintro e w3 ⟨rfl, hM3, g3⟩
        go_wp2_with fail
        refine (clone_calls m mnow _ hM3).mono ?_
        rintro e w4 ⟨rfl, hMb4, g4⟩
        obtain ⟨hR4, hO4, hB4, k4⟩ := marks_ready hSt1 hO hN2 g2 hM3 g3 g4
        obtain ⟨mb', hmb⟩ : ∃ mb', mb' = w3.heap.size := ⟨_, rfl⟩
        rw [← hmb] at hMb4
        rw [← hmb]
        have hmb' : mb' ≠ m := by obtain ⟨C, hC⟩ := hM3.blk; have := hC.lt; omega
        have hG4 : w.grownBy w4 none := kept2_grown hG1 k4 hSt1.hd hSt1.hm
        clear hmb hM3 g2 g3 g4 hN2 hO k4 hG1
        have o0 : w4.cell? ⟨ob, 0, none⟩ = some (.int .i64 kd) := hO4.cell 0
        have o1 : w4.cell? ⟨ob, 1, none⟩ = some (.int .i64 a) := hO4.cell 1
        have o2 : w4.cell? ⟨ob, 2, none⟩ = some (.int .i64 b) := hO4.cell 2
        have o3 : w4.cell? ⟨ob, 3, none⟩ = some (.int .i64 c) := hO4.cell 3
        have o4 : w4.cell? ⟨ob, 4, none⟩ = some (.string s) := hO4.cell 4
        have o5 : w4.cell? ⟨ob, 5, none⟩ = some (.string t) := hO4.cell 5
        go_wp2_with fail
        refine (play_calls p d m now mnow kd a b c s t _ hR4 hs ht).mono ?_
        rintro e w5 ⟨rfl, now', log', mnow', hD5, hM5, k5, hI5, hl5⟩
        have hSt5 := played_st hSt1 hR4 hB4 hMb4 hmb' hG4.size hD5 hM5 k5 hI5 hl5
        have hG5 : w.grownBy w5 none := kept2_grown hG4 k5 hSt1.hd hSt1.hm
        have c5 : w5.cell? ⟨bb, 0, none⟩ = some (.pointer (some ⟨d, 0, none⟩)) := hSt5.box.cell 0
        clear hSt1 hR4 hO4 hB4 hMb4 hmb' hG4 o0 o1 o2 o3 o4 o5 hD5 hM5 k5 hI5 hl5 hs ht
        go_wp2_with fail
        refine (steps_calls _ d _ _ _ _ hSt5.disk).mono ?_
        rintro e w6 ⟨rfl, g6⟩
        have hSt6 := hSt5.ext g6
        have hG6 := g_trans hG5 g6
        clear hSt5 hG5 c5 g6
        go_wp2_with fail
        refine (alike_calls _ p d m _ _ _ _ _ hSt6.pair hSt6.disk hSt6.mod).mono ?_
        rintro e w7 ⟨rfl, g7⟩
        rw [alike_inv hSt6.inv]
        have hSt7 := hSt6.ext g7
        have hG7 := g_trans hG6 g7
        have c7 : w7.cell? ⟨bb, 0, none⟩ = some (.pointer (some ⟨d, 0, none⟩)) := hSt7.box.cell 0
        clear hSt6 hG6 g7
        go_wp2_with fail
        refine (steps_calls _ d _ _ _ _ hSt7.disk).mono ?_
        rintro e w8 ⟨rfl, g8⟩
        have hSt8 := hSt7.ext g8
        have hG8 := g_trans hG7 g8
        clear hSt7 hG7 c7 g8
        go_wp2
        exact ⟨⟨k + 1, p, d, m, mb', _, _, _, _, _, by omega, by omega, by go_num, rfl, rfl, rfl, hSt8, hG8⟩, by simp [intOf]; omega⟩
    · clear hSt
      by_cases hl : k < len
      · have h42 : ¬ (k : Int) < 4398046511104 := fun h => hlt ⟨hl, h⟩
        have hkI : (k : Int) < (len : Int) := by omega
        clear hlt
        have hlm : ¬ (len : Int) < 4398046511104 := by omega
        go_wp2
        go_ret2
        exact ⟨⟨_, rfl⟩, hG⟩
      · have hkI : ¬ (k : Int) < (len : Int) := by omega
        clear hlt
        by_cases hlm : (len : Int) < 4398046511104
        · go_wp2
          go_ret2
          exact ⟨⟨_, rfl⟩, hG⟩
        · go_wp2
          go_ret2
          exact ⟨⟨_, rfl⟩, hG⟩
end Go.Proofs.Qxb6500338a
