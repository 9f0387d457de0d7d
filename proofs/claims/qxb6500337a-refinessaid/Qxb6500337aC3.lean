/-
  walk, cuts played.
-/
import Derived.Test.Qxb6500337aC1
namespace Go.Proofs.Qxb6500337a
open Go.RowKit
set_option maxRecDepth 100000 in
set_option maxHeartbeats 6400000 in
/-- walk. -/
theorem walk_full (ao : Option Addr) (len cap : Nat) (w : World) (hS : Script w ao len) : Calls Try.prog 7 #[.slice ao len cap, .bool false, .bool false] w (WalkPost w) := by
  go_enter Try.func7, Try.ntmps7
  go_wp2_with fail
  refine (ground_calls _).mono ?_
  rintro e w1 ⟨d, p, rfl, hdw, hP1, hD1, hg1⟩
  have hz1 : rcv [zB, zB, zB, zB, zB, zB, zB, zB] = [zB, zB, zB, zB, zB, zB, zB, zB] := rfl
  have hz2 : recW [zB, zB, zB, zB, zB, zB, zB, zB] = [] := rfl
  rw [hz1, hz2] at hD1
  clear hz1 hz2
  go_wp2_with fail
  have hB2 := At.new w1 (bx d p) 30
  have g2 : w1.grownBy (w1.alloc (.cells (bx d p) 30)) none := g_alloc (g_refl _ _) _
  obtain ⟨bb, hbb⟩ : ∃ bb, bb = w1.heap.size := ⟨_, rfl⟩
  rw [← hbb] at hB2
  rw [← hbb]
  have hbw : w.heap.size ≤ bb := by have := hg1.size; omega
  clear hbb
  generalize (w1.alloc (.cells (bx d p) 30)) = w2 at *
  have hP2 : PairAt w2 p d := At.ext hP1 g2
  have hD2 := hD1.ext g2
  have hG2 := g_trans hg1 g2
  clear hP1 hD1 hg1 g2
  -- the bank
  refine (bankOpen_calls p _).mono ?_
  rintro e w3 ⟨rfl, hX3, g3⟩
  obtain ⟨x, hx⟩ : ∃ x, x = w2.heap.size := ⟨_, rfl⟩
  rw [← hx] at hX3
  rw [← hx]
  clear hx
  have hV3 : View w.heap.size w3 x p d _ _ _ [0, 0, 0, 0] := ⟨hX3, At.ext hP2 g3, hD2.ext g3, rfl, bal_zero⟩
  have hB3 := hB2.ext g3
  have hG3 := g_trans hG2 g3
  clear hX3 hP2 hD2 hB2 hG2 g3
  go_wp2_with fail
  -- the model
  refine (newMod_calls _).mono ?_
  rintro e w4 ⟨rfl, hM4, g4⟩
  obtain ⟨m, hm⟩ : ∃ m, m = w3.heap.size := ⟨_, rfl⟩
  rw [← hm] at hM4
  rw [← hm]
  have hmw : w.heap.size ≤ m := by have := hG3.size; omega
  clear hm
  have hV4 := hV3.ext g4
  have hB4 := hB3.ext g4
  have hG4 := g_trans hG3 g4
  clear hV3 hB3 hG3 g4
  go_wp2_with fail
  refine (clone_calls m _ _ hM4).mono ?_
  rintro e w5 ⟨rfl, hMb5, g5⟩
  obtain ⟨mb, hmb⟩ : ∃ mb, mb = w4.heap.size := ⟨_, rfl⟩
  rw [← hmb] at hMb5
  rw [← hmb]
  have hne : m ≠ mb := by have := hM4.1.lt; omega
  clear hmb
  have hSt5 : St w.heap.size bb w5 x p d m mb _ _ _ _ _ := ⟨hB4.ext g5, hV4.ext g5, hM4.ext g5 (by simp), hMb5, hbw, hdw, hmw, hne, inv_zero, by simp⟩
  have hG5 := g_trans hG4 g5
  clear hB4 hV4 hM4 hMb5 hbw hdw hmw hne hG4 g5
  obtain ⟨cb0, cb1⟩ := hSt5.cells
  go_wp2_with fail
  refine (steps_calls _ d p _ _ _ _ hSt5.view.disk).mono ?_
  rintro e w6 ⟨rfl, g6⟩
  have hSt6 := hSt5.ext g6
  have hG6 := g_trans hG5 g6
  clear hSt5 hG5 g6 cb0 cb1
  go_wp2_with fail
  refine (alike_calls _ x p d m _ _ _ _ _ _ hSt6.view hSt6.mod).mono ?_
  rintro e w7 ⟨rfl, g7⟩
  rw [alike_self]
  have hSt7 := hSt6.ext g7
  have hG7 := g_trans hG6 g7
  clear hSt6 hG6 g7
  obtain ⟨cb0, cb1⟩ := hSt7.cells
  go_wp2_with fail
  refine (steps_calls _ d p _ _ _ _ hSt7.view.disk).mono ?_
  rintro e w8 ⟨rfl, g8⟩
  have hSt8 := hSt7.ext g8
  have hG8 := g_trans hG7 g8
  clear hSt7 hG7 g8 cb0 cb1
  go_wp2_with fail
  go_loopw [9, 10, 11, 13] (fun s9 s10 s11 s13 wr => Rl w bb len s9 s10 s11 s13 wr) (fun _ _ _ i _ => len - (intOf i).toNat)
  case atStart => exact ⟨0, x, p, d, m, mb, _, _, _, _, _, by omega, by omega, rfl, rfl, rfl, rfl, hSt8, hG8⟩
  case round =>
    clear hSt8 hG8
    clear w1 w2 w3 w4 w5 w6 w7 w8
    obtain ⟨k, x, p, d, m, mb, now, bas, log, bal, mbal, hk, hk42, rfl, rfl, rfl, rfl, hSt, hG⟩ := hrel
    by_cases hlt : k < len ∧ (k : Int) < 4398046511104
    · obtain ⟨hl, h42⟩ := hlt
      obtain ⟨sb, so, rfl, kd, a, b, c, s, t, e0, e1, e2, e3, e4, e5, hs, ht⟩ := hS k hl
      have j0 := hG.cell e0 (by simp)
      have j1 := hG.cell e1 (by simp)
      have j2 := hG.cell e2 (by simp)
      have j3 := hG.cell e3 (by simp)
      have j4 := hG.cell e4 (by simp)
      have j5 := hG.cell e5 (by simp)
      have hkI : (k : Int) < (len : Int) := by omega
      clear e0 e1 e2 e3 e4 e5 hk hk42 hs ht
      have hO := At.new wr #[.int .i64 kd, .int .i64 a, .int .i64 b, .int .i64 c, .string s, .string t] 39
      have g1 : wr.grownBy (wr.alloc (.cells #[.int .i64 kd, .int .i64 a, .int .i64 b, .int .i64 c, .string s, .string t] 39)) none := g_alloc (g_refl _ _) _
      by_cases hkd : kd = 5
      · have hkb : (kd != 5) = false := by simp [hkd]
        clear hkd
        obtain ⟨cb0, cb1⟩ := hSt.cells
        have lb := hSt.box.lt
        go_wp2_with fail
        generalize hW1 : (wr.alloc (.cells #[.int .i64 kd, .int .i64 a, .int .i64 b, .int .i64 c, .string s, .string t] 39)) = w1 at *
        clear hW1
        obtain ⟨ob, hob⟩ : ∃ ob, ob = wr.heap.size := ⟨_, rfl⟩
        rw [← hob] at hO
        rw [← hob]
        clear hob j0 j1 j2 j3 j4 j5 cb0 cb1 lb
        have hSt1 := hSt.ext g1
        have hG1 := g_trans hG g1
        clear hSt hG g1
        -- n := Steps(b)
        refine (steps_calls _ d p _ _ _ _ hSt1.view.disk).mono ?_
        rintro e w2 ⟨rfl, g2⟩
        have hSt2 := hSt1.ext g2
        have hO2 := hO.ext g2
        have hG2 := g_trans hG1 g2
        clear hSt1 hO hG1 g2
        obtain ⟨cb0, cb1⟩ := hSt2.cells
        have lb := hSt2.box.lt
        have oA : w2.cell? ⟨ob, 1, none⟩ = some (.int .i64 a) := hO2.cell 1
        have lo := hO2.lt
        have g3 : w2.grownBy (w2.alloc (.cells (bx d p) 30)) none := g_alloc (g_refl _ _) _
        have hB03 := At.new w2 (bx d p) 30
        have hne0 : w2.heap.size ≠ bb := by omega
        have haft := after_calls _ d p now bas log a (w2.alloc (.cells (bx d p) 30)) (hSt2.view.disk.ext g3) hSt2.short
        obtain ⟨v, hv, hBv, hlooks⟩ := cut_looks hSt2.inv hSt2.view.bal hSt2.modb.2 a
        have htl : (app bas (log.take a.toNat)).length = 8 := by rw [app_length, hSt2.inv.len]
        have hG3 := g_trans hG2 g3
        have hbb := hSt2.hbb
        obtain ⟨tt, htt⟩ : ∃ tt, app bas (log.take a.toNat) = tt := ⟨_, rfl⟩
        rw [htt] at haft hv htl
        have HA := haft
        have HL : Hid ((alike v mbal = true ∨ alike v bal = true) ∧ (a ≤ 0 → alike v mbal = true) ∧ ((log.length : Int) ≤ a → alike v bal = true)) := hlooks
        have HTT : Hid (app bas (log.take a.toNat) = tt) := htt
        have HV : Hid (homes (rcv tt) = enc v) := hv
        clear haft hlooks htt hv
        go_wp2_with fail
        refine HA.mono ?_
        clear HA
        rintro e w4 ⟨d2, p2, rfl, hd2, hP4, hD24, g4⟩
        have hHd : w.heap.size ≤ d2 := Nat.le_trans hG3.size hd2
        have g24 := g_trans g3 g4
        have hG4 := g_trans hG3 g4
        have hB4 := hSt2.box.ext g24
        have cB0 : w4.cell? ⟨bb, 0, none⟩ = some (.pointer (some ⟨d, 0, none⟩)) := hB4.cell 0
        have cB1 : w4.cell? ⟨bb, 1, none⟩ = some (.pointer (some ⟨p, 0, none⟩)) := hB4.cell 1
        have fB0 := hB4.free 0
        have fB1 := hB4.free 1
        have hcs := cut_store hB4 (hB03.ext g4) hne0 (hO2.ext g24) hP4 (hD24.mono hG3.size) (hSt2.view.disk.ext g24) (hSt2.mod.ext g24 (by simp)) (hSt2.modb.ext g24 (by simp))
        clear g3 g4 g24 hB03 hO2 hG2 hG3 cb0 cb1 lb oA lo hB4 hd2 hP4 hD24
        go_wp2_with fail
        generalize hW : (w4.setCell ⟨bb, 0, none⟩ (.pointer (some ⟨d2, 0, none⟩))).setCell ⟨bb, 1, none⟩ (.pointer (some ⟨p2, 0, none⟩)) = w5
        obtain ⟨hm5, g5⟩ := hcs w5 hW.symm
        have hG5 := g_new hG4 hbb g5
        clear hW hcs g5 hG4 cB0 cB1 fB0 fB1
        -- the bank over the recovered layer
        refine (bankOpen_calls p2 _).mono ?_
        rintro e w6 ⟨rfl, hX6, g6⟩
        obtain ⟨x2, hx2⟩ : ∃ x2, x2 = w5.heap.size := ⟨_, rfl⟩
        rw [← hx2] at hX6
        rw [← hx2]
        clear hx2
        have hm6 := hm5.ext g6
        have hG6 := g_trans hG5 g6
        clear hm5 hG5 g6
        have c0 : w6.cell? ⟨bb, 0, none⟩ = some (.pointer (some ⟨d2, 0, none⟩)) := hm6.box.cell 0
        have c1 : w6.cell? ⟨bb, 1, none⟩ = some (.pointer (some ⟨p2, 0, none⟩)) := hm6.box.cell 1
        go_wp2_with fail
        refine (steps_calls _ d2 p2 _ _ _ _ hm6.disk2).mono ?_
        rintro e w7 ⟨rfl, g7⟩
        have hm7 := hm6.ext g7
        have hX7 : BankAt w7 x2 p2 := At.ext hX6 g7
        have hG7 := g_trans hG6 g7
        clear hm6 hX6 hG6 g7 c0 c1
        -- the two looks
        go_wp2_with fail
        refine (crashed_calls mb mbal _ hm7.modb).mono ?_
        rintro e w8 ⟨rfl, hC8, g8⟩
        have hm8 := hm7.ext g8
        have hX8 : BankAt w8 x2 p2 := At.ext hX7 g8
        have hG8 := g_trans hG7 g8
        clear hm7 hX7 hG7 g8
        go_wp2_with fail
        refine (alike_calls _ x2 p2 d2 w7.heap.size _ _ _ v _ _ (hm8.view hX8 HV.out hBv) hC8).mono ?_
        rintro e w9 ⟨rfl, g9⟩
        have hm9 := hm8.ext g9
        have hX9 : BankAt w9 x2 p2 := At.ext hX8 g9
        have hG9 := g_trans hG8 g9
        clear hm8 hX8 hG8 g9 hC8
        obtain ⟨rn, hrn⟩ : ∃ rn, alike v mbal = rn := ⟨_, rfl⟩
        rw [hrn]
        have HRN : Hid (alike v mbal = rn) := hrn
        clear hrn
        go_wp2_with fail
        refine (crashed_calls m bal _ hm9.mod).mono ?_
        rintro e w10 ⟨rfl, hC10, g10⟩
        have hm10 := hm9.ext g10
        have hX10 : BankAt w10 x2 p2 := At.ext hX9 g10
        have hG10 := g_trans hG9 g10
        clear hm9 hX9 hG9 g10
        go_wp2_with fail
        refine (alike_calls _ x2 p2 d2 w9.heap.size _ _ _ v _ _ (hm10.view hX10 HV.out hBv) hC10).mono ?_
        rintro e w11 ⟨rfl, g11⟩
        have hm11 := hm10.ext g11
        have hX11 : BankAt w11 x2 p2 := At.ext hX10 g11
        have hG11 := g_trans hG10 g11
        clear hm10 hX10 hG10 g11 hC10
        obtain ⟨ra, hra⟩ : ∃ ra, alike v bal = ra := ⟨_, rfl⟩
        rw [hra]
        have HRA : Hid (alike v bal = ra) := hra
        clear hra
        have c0 : w11.cell? ⟨bb, 0, none⟩ = some (.pointer (some ⟨d2, 0, none⟩)) := hm11.box.cell 0
        have c1 : w11.cell? ⟨bb, 1, none⟩ = some (.pointer (some ⟨p2, 0, none⟩)) := hm11.box.cell 1
        go_wp2_with fail
        refine (steps_calls _ d2 p2 _ _ _ _ hm11.disk2).mono ?_
        rintro e w12 ⟨rfl, g12⟩
        have hm12 := hm11.ext g12
        have hX12 : BankAt w12 x2 p2 := At.ext hX11 g12
        have hG12 := g_trans hG11 g12
        clear hm11 hX11 hG11 g12 c0 c1
        have oA : w12.cell? ⟨ob, 1, none⟩ = some (.int .i64 a) := hm12.op.cell 1
        have hl0 := HL.out
        rw [HRN.out, HRA.out] at hl0
        obtain ⟨l1, l2, l3⟩ := hl0
        clear HL
        cases rn with
        | true =>
          cases ra with
          | true =>
            clear l1 l2 l3
            rcases Int.lt_or_le 0 a with hA0 | hA0
            · rcases Int.lt_or_le a (log.length : Int) with hAn | hAn
              · have hd0 : decide (a ≤ 0) = false := decide_eq_false (Int.not_le.2 hA0)
                have hd1 : decide ((log.length : Int) ≤ a) = false := decide_eq_false (Int.not_le.2 hAn)
                go_wp2_with fail
                refine (crashed_calls m bal _ hm12.mod).mono ?_
                rintro e w13 ⟨rfl, hM13, g13⟩
                go_wp2_with fail
                refine (clone_calls w12.heap.size bal _ hM13).mono ?_
                rintro e w14 ⟨rfl, hMb14, g14⟩
                have hne14 : w12.heap.size ≠ w13.heap.size := by have := hM13.1.lt; omega
                have hSt14 := mid_st hm12 hX12 g13 hM13 g14 hMb14 hbb hHd hG12.size hne14 htl (by rw [HV.out, (alike_iff _ _).1 HRA.out])
                clear hm12 hX12 hM13 hMb14 oA
                go_wp2
                exact ⟨⟨k + 1, x2, p2, d2, w12.heap.size, w13.heap.size, _, _, _, _, _, by omega, by omega, by go_num, rfl, rfl, rfl, hSt14, g_trans (g_trans hG12 g13) g14⟩, by simp [intOf]; omega⟩
              · have hd0 : decide (a ≤ 0) = false := decide_eq_false (Int.not_le.2 hA0)
                go_wp2_with fail
                refine (crashed_calls m bal _ hm12.mod).mono ?_
                rintro e w13 ⟨rfl, hM13, g13⟩
                go_wp2_with fail
                refine (clone_calls w12.heap.size bal _ hM13).mono ?_
                rintro e w14 ⟨rfl, hMb14, g14⟩
                have hne14 : w12.heap.size ≠ w13.heap.size := by have := hM13.1.lt; omega
                have hSt14 := mid_st hm12 hX12 g13 hM13 g14 hMb14 hbb hHd hG12.size hne14 htl (by rw [HV.out, (alike_iff _ _).1 HRA.out])
                clear hm12 hX12 hM13 hMb14 oA
                go_wp2
                exact ⟨⟨k + 1, x2, p2, d2, w12.heap.size, w13.heap.size, _, _, _, _, _, by omega, by omega, by go_num, rfl, rfl, rfl, hSt14, g_trans (g_trans hG12 g13) g14⟩, by simp [intOf]; omega⟩
            · rcases Int.lt_or_le a (log.length : Int) with hAn | hAn
              · have hd1 : decide ((log.length : Int) ≤ a) = false := decide_eq_false (Int.not_le.2 hAn)
                go_wp2_with fail
                refine (crashed_calls m bal _ hm12.mod).mono ?_
                rintro e w13 ⟨rfl, hM13, g13⟩
                go_wp2_with fail
                refine (clone_calls w12.heap.size bal _ hM13).mono ?_
                rintro e w14 ⟨rfl, hMb14, g14⟩
                have hne14 : w12.heap.size ≠ w13.heap.size := by have := hM13.1.lt; omega
                have hSt14 := mid_st hm12 hX12 g13 hM13 g14 hMb14 hbb hHd hG12.size hne14 htl (by rw [HV.out, (alike_iff _ _).1 HRA.out])
                clear hm12 hX12 hM13 hMb14 oA
                go_wp2
                exact ⟨⟨k + 1, x2, p2, d2, w12.heap.size, w13.heap.size, _, _, _, _, _, by omega, by omega, by go_num, rfl, rfl, rfl, hSt14, g_trans (g_trans hG12 g13) g14⟩, by simp [intOf]; omega⟩
              · go_wp2_with fail
                refine (crashed_calls m bal _ hm12.mod).mono ?_
                rintro e w13 ⟨rfl, hM13, g13⟩
                go_wp2_with fail
                refine (clone_calls w12.heap.size bal _ hM13).mono ?_
                rintro e w14 ⟨rfl, hMb14, g14⟩
                have hne14 : w12.heap.size ≠ w13.heap.size := by have := hM13.1.lt; omega
                have hSt14 := mid_st hm12 hX12 g13 hM13 g14 hMb14 hbb hHd hG12.size hne14 htl (by rw [HV.out, (alike_iff _ _).1 HRA.out])
                clear hm12 hX12 hM13 hMb14 oA
                go_wp2
                exact ⟨⟨k + 1, x2, p2, d2, w12.heap.size, w13.heap.size, _, _, _, _, _, by omega, by omega, by go_num, rfl, rfl, rfl, hSt14, g_trans (g_trans hG12 g13) g14⟩, by simp [intOf]; omega⟩
          | false =>
            have hAn : a < (log.length : Int) := Int.not_le.1 (fun h => Bool.noConfusion (l3 h))
            clear l1 l2 l3
            rcases Int.lt_or_le 0 a with hA0 | hA0
            · have hd0 : decide (a ≤ 0) = false := decide_eq_false (Int.not_le.2 hA0)
              have hd1 : decide ((log.length : Int) ≤ a) = false := decide_eq_false (Int.not_le.2 hAn)
              go_wp2_with fail
              refine (crashed_calls mb mbal _ hm12.modb).mono ?_
              rintro e w13 ⟨rfl, hM13, g13⟩
              go_wp2_with fail
              refine (clone_calls w12.heap.size mbal _ hM13).mono ?_
              rintro e w14 ⟨rfl, hMb14, g14⟩
              have hne14 : w12.heap.size ≠ w13.heap.size := by have := hM13.1.lt; omega
              have hSt14 := mid_st hm12 hX12 g13 hM13 g14 hMb14 hbb hHd hG12.size hne14 htl (by rw [HV.out, (alike_iff _ _).1 HRN.out])
              clear hm12 hX12 hM13 hMb14 oA
              go_wp2
              exact ⟨⟨k + 1, x2, p2, d2, w12.heap.size, w13.heap.size, _, _, _, _, _, by omega, by omega, by go_num, rfl, rfl, rfl, hSt14, g_trans (g_trans hG12 g13) g14⟩, by simp [intOf]; omega⟩
            · have hd1 : decide ((log.length : Int) ≤ a) = false := decide_eq_false (Int.not_le.2 hAn)
              go_wp2_with fail
              refine (crashed_calls mb mbal _ hm12.modb).mono ?_
              rintro e w13 ⟨rfl, hM13, g13⟩
              go_wp2_with fail
              refine (clone_calls w12.heap.size mbal _ hM13).mono ?_
              rintro e w14 ⟨rfl, hMb14, g14⟩
              have hne14 : w12.heap.size ≠ w13.heap.size := by have := hM13.1.lt; omega
              have hSt14 := mid_st hm12 hX12 g13 hM13 g14 hMb14 hbb hHd hG12.size hne14 htl (by rw [HV.out, (alike_iff _ _).1 HRN.out])
              clear hm12 hX12 hM13 hMb14 oA
              go_wp2
              exact ⟨⟨k + 1, x2, p2, d2, w12.heap.size, w13.heap.size, _, _, _, _, _, by omega, by omega, by go_num, rfl, rfl, rfl, hSt14, g_trans (g_trans hG12 g13) g14⟩, by simp [intOf]; omega⟩
        | false =>
          have hA0 : 0 < a := Int.not_le.1 (fun h => Bool.noConfusion (l2 h))
          cases ra with
          | true =>
            clear l1 l2 l3
            rcases Int.lt_or_le a (log.length : Int) with hAn | hAn
            · have hd0 : decide (a ≤ 0) = false := decide_eq_false (Int.not_le.2 hA0)
              have hd1 : decide ((log.length : Int) ≤ a) = false := decide_eq_false (Int.not_le.2 hAn)
              go_wp2_with fail
              refine (crashed_calls m bal _ hm12.mod).mono ?_
              rintro e w13 ⟨rfl, hM13, g13⟩
              go_wp2_with fail
              refine (clone_calls w12.heap.size bal _ hM13).mono ?_
              rintro e w14 ⟨rfl, hMb14, g14⟩
              have hne14 : w12.heap.size ≠ w13.heap.size := by have := hM13.1.lt; omega
              have hSt14 := mid_st hm12 hX12 g13 hM13 g14 hMb14 hbb hHd hG12.size hne14 htl (by rw [HV.out, (alike_iff _ _).1 HRA.out])
              clear hm12 hX12 hM13 hMb14 oA
              go_wp2
              exact ⟨⟨k + 1, x2, p2, d2, w12.heap.size, w13.heap.size, _, _, _, _, _, by omega, by omega, by go_num, rfl, rfl, rfl, hSt14, g_trans (g_trans hG12 g13) g14⟩, by simp [intOf]; omega⟩
            · have hd0 : decide (a ≤ 0) = false := decide_eq_false (Int.not_le.2 hA0)
              go_wp2_with fail
              refine (crashed_calls m bal _ hm12.mod).mono ?_
              rintro e w13 ⟨rfl, hM13, g13⟩
              go_wp2_with fail
              refine (clone_calls w12.heap.size bal _ hM13).mono ?_
              rintro e w14 ⟨rfl, hMb14, g14⟩
              have hne14 : w12.heap.size ≠ w13.heap.size := by have := hM13.1.lt; omega
              have hSt14 := mid_st hm12 hX12 g13 hM13 g14 hMb14 hbb hHd hG12.size hne14 htl (by rw [HV.out, (alike_iff _ _).1 HRA.out])
              clear hm12 hX12 hM13 hMb14 oA
              go_wp2
              exact ⟨⟨k + 1, x2, p2, d2, w12.heap.size, w13.heap.size, _, _, _, _, _, by omega, by omega, by go_num, rfl, rfl, rfl, hSt14, g_trans (g_trans hG12 g13) g14⟩, by simp [intOf]; omega⟩
          | false => exact l1.elim (fun h => Bool.noConfusion h) (fun h => Bool.noConfusion h)
      · have hkb : (kd != 5) = true := by simp [hkd]
        clear hkd
        obtain ⟨cb0, cb1⟩ := hSt.cells
        have lb := hSt.box.lt
        go_wp2_with fail
        generalize hW1 : (wr.alloc (.cells #[.int .i64 kd, .int .i64 a, .int .i64 b, .int .i64 c, .string s, .string t] 39)) = w1 at *
        clear hW1
        obtain ⟨ob, hob⟩ : ∃ ob, ob = wr.heap.size := ⟨_, rfl⟩
        rw [← hob] at hO
        rw [← hob]
        clear hob j0 j1 j2 j3 j4 j5 cb0 cb1 lb
        have hSt1 := hSt.ext g1
        have hG1 := g_trans hG g1
        clear hSt hG g1
        -- Mark(b)
        refine (mark_calls _ d p _ _ _ _ hSt1.view.disk).mono ?_
        rintro e w2 ⟨rfl, hN2, g2⟩
        go_wp2_with fail
        refine (clone_calls m bal _ (hSt1.mod.ext g2 hSt1.md)).mono ?_
        rintro e w4 ⟨rfl, hMb4, g4⟩
        obtain ⟨hR4, hO4, hB4, k4⟩ := marks_ready hSt1 hO hN2 g2 g4
        obtain ⟨mb', hmb⟩ : ∃ mb', mb' = w2.heap.size := ⟨_, rfl⟩
        rw [← hmb] at hMb4
        rw [← hmb]
        have hmb' : mb' ≠ m := by have := (hSt1.mod.ext g2 hSt1.md).1.lt; omega
        have hG4 : w.grownBy w4 none := kept2_grown hG1 k4 hSt1.hd hSt1.hm
        clear hmb g2 g4 hN2 hO k4 hG1
        have o0 : w4.cell? ⟨ob, 0, none⟩ = some (.int .i64 kd) := hO4.cell 0
        have o1 : w4.cell? ⟨ob, 1, none⟩ = some (.int .i64 a) := hO4.cell 1
        have o2 : w4.cell? ⟨ob, 2, none⟩ = some (.int .i64 b) := hO4.cell 2
        have o3 : w4.cell? ⟨ob, 3, none⟩ = some (.int .i64 c) := hO4.cell 3
        have o4 : w4.cell? ⟨ob, 4, none⟩ = some (.string s) := hO4.cell 4
        have o5 : w4.cell? ⟨ob, 5, none⟩ = some (.string t) := hO4.cell 5
        go_wp2_with fail
        refine (play_calls x p d m now bal kd a b c s t _ hR4).mono ?_
        rintro e w5 ⟨rfl, now', log', bal', hD5, hM5, k5, hI5, hl5⟩
        have hSt5 := played_st hSt1 hR4 hB4 hMb4 hmb' hG4.size hD5 hM5 k5 hI5 hl5
        have hG5 : w.grownBy w5 none := kept2_grown hG4 k5 hSt1.hd hSt1.hm
        obtain ⟨cb0, cb1⟩ := hSt5.cells
        clear hSt1 hR4 hO4 hB4 hMb4 hmb' hG4 o0 o1 o2 o3 o4 o5 hD5 hM5 k5 hI5 hl5
        go_wp2_with fail
        refine (steps_calls _ d p _ _ _ _ hSt5.view.disk).mono ?_
        rintro e w6 ⟨rfl, g6⟩
        have hSt6 := hSt5.ext g6
        have hG6 := g_trans hG5 g6
        clear hSt5 hG5 cb0 cb1 g6
        go_wp2_with fail
        refine (alike_calls _ x p d m _ _ _ _ _ _ hSt6.view hSt6.mod).mono ?_
        rintro e w7 ⟨rfl, g7⟩
        rw [alike_self]
        have hSt7 := hSt6.ext g7
        have hG7 := g_trans hG6 g7
        obtain ⟨cb0, cb1⟩ := hSt7.cells
        clear hSt6 hG6 g7
        go_wp2_with fail
        refine (steps_calls _ d p _ _ _ _ hSt7.view.disk).mono ?_
        rintro e w8 ⟨rfl, g8⟩
        have hSt8 := hSt7.ext g8
        have hG8 := g_trans hG7 g8
        clear hSt7 hG7 cb0 cb1 g8
        go_wp2
        exact ⟨⟨k + 1, x, p, d, m, mb', _, _, _, _, _, by omega, by omega, by go_num, rfl, rfl, rfl, hSt8, hG8⟩, by simp [intOf]; omega⟩
    · clear hSt
      by_cases hl : k < len
      · have h42 : ¬ (k : Int) < 4398046511104 := fun h => hlt ⟨hl, h⟩
        have hkI : (k : Int) < (len : Int) := by omega
        clear hlt
        have hlm : ¬ (len : Int) < 4398046511104 := by omega
        go_wp2
        go_ret2
        exact ⟨⟨_, rfl⟩, hG⟩
      · have hkI : ¬ (k : Int) < (len : Int) := by omega
        clear hlt
        by_cases hlm : (len : Int) < 4398046511104
        · go_wp2
          go_ret2
          exact ⟨⟨_, rfl⟩, hG⟩
        · go_wp2
          go_ret2
          exact ⟨⟨_, rfl⟩, hG⟩
end Go.Proofs.Qxb6500337a
