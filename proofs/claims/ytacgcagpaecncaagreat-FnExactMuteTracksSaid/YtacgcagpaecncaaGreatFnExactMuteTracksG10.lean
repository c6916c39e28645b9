import Derived.Test.YtacgcagpaecncaaGreatFnExactMuteTracksG9
import Derived.Test.YtacgcagpaecncaaGreatFnExactMuteTracksG6
import Derived.Test.YtacgcagpaecncaaGreatFnExactMuteTracksG8
import Derived.Lib.QuietBelow
import Derived.Test.YtacgcagpaecncaaGreatFnExactMuteTracksG3
set_option linter.unusedVariables false
set_option linter.unusedSimpArgs false
namespace Go.Proofs.YtacgcagpaecncaaGreat
open Go.RowKit Go.Sort
set_option maxHeartbeats 4000000
set_option maxRecDepth 100000
set_option linter.unusedVariables false
set_option linter.unusedSimpArgs false
theorem spec_l27Own (vb : Nat) (a0 : Int) (A1 : Option Addr) (n1 c1 : Nat) (A2 : Option Addr) (n2 c2 : Nat) (A3 : Option Addr) (n3 c3 : Nat) (A4 : Option Addr) (n4 c4 : Nat) (A5 : Option Addr) (n5 c5 : Nat) (x1 : List (List Int)) (x2 : List (List Clip_)) (x3 : List Int) (x4 : List Patch) (x5 : List Strip) (w : World) (e0 : w.cell? ⟨vb, 0, none⟩ = some (.int .i64 a0)) (e1 : w.cell? ⟨vb, 1, none⟩ = some (.slice A1 n1 c1)) (e2 : w.cell? ⟨vb, 2, none⟩ = some (.slice A2 n2 c2)) (e3 : w.cell? ⟨vb, 3, none⟩ = some (.slice A3 n3 c3)) (e4 : w.cell? ⟨vb, 4, none⟩ = some (.slice A4 n4 c4)) (e5 : w.cell? ⟨vb, 5, none⟩ = some (.slice A5 n5 c5)) (h1 : tSS.R w w.heap.size [.slice A1 n1 c1] x1) (h2 : tTS.R w w.heap.size [.slice A2 n2 c2] x2) (h3 : tS.R w w.heap.size [.slice A3 n3 c3] x3) (h4 : tPS.R w w.heap.size [.slice A4 n4 c4] x4) (h5 : tM.R w w.heap.size [.slice A5 n5 c5] x5) (hn : hZ.sz ((a0, x1, x2, x3, x4, x5) : Sess) ≤ 100000000) :
    Calls Tryz.prog 77 #[.pointer (some ⟨vb, 0, none⟩)] w fun e w' => ∃ A1' n1' c1' A2' n2' c2' A3' n3' c3' A4' n4' c4' A5' n5' c5', e = .returned (.agg #[.int .i64 a0, .slice A1' n1' c1', .slice A2' n2' c2', .slice A3' n3' c3', .slice A4' n4' c4', .slice A5' n5' c5']) ∧ tZ.O w' (Iv w.heap.size w'.heap.size) [.int .i64 a0, .slice A1' n1' c1', .slice A2' n2' c2', .slice A3' n3' c3', .slice A4' n4' c4', .slice A5' n5' c5'] (a0, x1, x2, x3, x4, x5) ∧ Below w.heap.size w w' := by
  have lv0 : vb < w.heap.size := World.block_lt_of_cell? w _ e0
  obtain ⟨W, hW, B0, sW, r0, r1, r2, r3, r4, r5, rf⟩ := newbox6 w (.int .i64 0) (.slice none 0 0) (.slice none 0 0) (.slice none 0 0) (.slice none 0 0) (.slice none 0 0) 39
  have lW : w.heap.size < W.heap.size := by omega
  have lv : vb < W.heap.size := by omega
  clear sW
  have p0 : W.cell? ⟨vb, 0, none⟩ = some (.int .i64 a0) := by rw [B0.cell (by show vb < _; omega)]; exact e0
  have p1 : W.cell? ⟨vb, 1, none⟩ = some (.slice A1 n1 c1) := by rw [B0.cell (by show vb < _; omega)]; exact e1
  have p2 : W.cell? ⟨vb, 2, none⟩ = some (.slice A2 n2 c2) := by rw [B0.cell (by show vb < _; omega)]; exact e2
  have p3 : W.cell? ⟨vb, 3, none⟩ = some (.slice A3 n3 c3) := by rw [B0.cell (by show vb < _; omega)]; exact e3
  have p4 : W.cell? ⟨vb, 4, none⟩ = some (.slice A4 n4 c4) := by rw [B0.cell (by show vb < _; omega)]; exact e4
  have p5 : W.cell? ⟨vb, 5, none⟩ = some (.slice A5 n5 c5) := by rw [B0.cell (by show vb < _; omega)]; exact e5
  clear e0 e1 e2 e3 e4 e5
  have HW := Lib.hid hW
  clear hW
  have k1 := tSS.later h1 B0
  have k2 := sl_R.1 (tTS.later h2 B0)
  have k3 := tS.later h3 B0
  have k4 := sl_R.1 (tPS.later h4 B0)
  have k5 := sl_R.1 (tM.later h5 B0)
  have L1 := Lib.hid (sl_R.1 k1).cap.1
  have L2 := Lib.hid k2.cap.1
  have L3 := Lib.hid (tS_len k3)
  have L4 := Lib.hid k4.cap.1
  have L5 := Lib.hid k5.cap.1
  rw [hZ_sz] at hn
  have z1 : hSS.sz x1 ≤ 100000000 := by omega
  have z2 : hTS.sz x2 ≤ 100000000 := by omega
  have z3 : x3.length ≤ 100000000 := by rw [hS_sz] at hn; omega
  have z4 : hPS.sz x4 ≤ 100000000 := by omega
  have z5 : hM.sz x5 ≤ 100000000 := by omega
  have hb1 : Hid (∀ x ∈ x1, x.length ≤ 1000000000) := Lib.hid (fun x hx => by
    obtain ⟨i, hi⟩ := List.getElem?_of_mem hx
    have := hS.szL_at hi
    have e : x1.length + hS.szL x1 = hSS.sz x1 := rfl
    rw [hS_sz] at this
    omega)
  have bn1 : n1 ≤ 100000000 := by have e : x1.length + hS.szL x1 = hSS.sz x1 := rfl; have := L1.out; omega
  have bn2 : n2 ≤ 100000000 := by have e : x2.length + hT.szL x2 = hTS.sz x2 := rfl; have := L2.out; omega
  have bn3 : n3 ≤ 100000000 := by have := L3.out; omega
  have bn4 : n4 ≤ 100000000 := by have e : x4.length + hP.szL x4 = hPS.sz x4 := rfl; have := L4.out; omega
  have bn5 : n5 ≤ 100000000 := by have e : x5.length + hSt.szL x5 = hM.sz x5 := rfl; have := L5.out; omega
  have pp0 := cell_regrown p0
  have pp1 := cell_regrown p1
  have pp3 := cell_regrown p3
  have D1 : Below W.heap.size W W.drew := below_drewN (Below.refl _ _) 1
  have hd0 : W.drew.heap.size = W.heap.size := rfl
  clear h1 h2 h3 h4 h5 hn
  go_enter Tryz.func77, Tryz.ntmps77
  go_wp2_with fail
  rw [← HW.out]
  go_cut [3] (fun q3 wx => ∃ (g : Nat) (A3' : Option Addr) (c3' l3 u3 : Nat), q3 = .pointer (some ⟨g, 0, none⟩) ∧ W.heap.size ≤ g ∧ g < wx.heap.size ∧ wx.cell? ⟨g, 0, none⟩ = some (.int .i64 a0) ∧ wx.cell? ⟨g, 1, none⟩ = some (.slice none 0 0) ∧ wx.cell? ⟨g, 2, none⟩ = some (.slice none 0 0) ∧ wx.cell? ⟨g, 3, none⟩ = some (.slice A3' x3.length c3') ∧ wx.cell? ⟨g, 4, none⟩ = some (.slice none 0 0) ∧ wx.cell? ⟨g, 5, none⟩ = some (.slice none 0 0) ∧ (∀ j, wx.frozen? ⟨g, j, none⟩ = false) ∧ tS.O wx (Iv l3 u3) [.slice A3' x3.length c3'] x3 ∧ Below W.heap.size W wx ∧ W.heap.size ≤ l3 ∧ l3 ≤ u3 ∧ u3 ≤ wx.heap.size ∧ (g < l3 ∨ u3 ≤ g))
  case first =>
    clear p2 p4 p5 r0 r1 r2 r3 r4 r5 rf k2 k4 k5
    go_wp2_with fail
    (refine wp_region_fresh [0, 1, 2, 4, 5, 6] [3, 7] 3 (.two 8 (.two 9 (.one 10 .rest) 10 (.one 9 .rest)) 10 (.one 8 (.one 9 .rest))) [11] (by kernel_rfl) (by kernel_rfl) ?_; simp only [pickOps]; simp only [List.filterMap, List.getElem?_cons_succ, List.getElem?_cons_zero]; (repeat (go_big_quiet_step (fail))); refine wpQuiet_nil ?_; (repeat (go_big_quiet_step (fail))); refine wpQuiet_nil ?_)
    refine seqT_two rfl rfl ?_ ?_
    · go_wp2_with fail
      refine (spec_l00Own _ _ _ _ _ (tS_R.1 (tS.later k3 D1)).ri (by omega)).mono ?_
      rintro e w_1 ⟨V_4, rfl, own_2, bel_3⟩
      obtain ⟨AA_5, cc_6, rfl, -⟩ := own_2.shape
      have Bw_1 := bel_trans D1 bel_3
      have sw_1 := bel_3.size
      go_wp2_with fail
      refine ⟨regrown_of_below Bw_1, seqT_two rfl rfl ?_ ?_⟩
      · go_wp2_with fail
        refine ⟨regrown_of_below Bw_1, seqT_one rfl ?_⟩
        obtain ⟨U_7, hU_7, Bx_8, sU_7, x0U_7, x1U_7, x2U_7, x3U_7, x4U_7, x5U_7, xfU_7⟩ := newbox6 w_1 (.int .i64 0) (.slice none 0 0) (.slice none 0 0) (.slice none 0 0) (.slice none 0 0) (.slice none 0 0) 39
        have BU_7 := bel_trans Bw_1 Bx_8
        go_wp2_with fail
        rw [← hU_7]
        clear hU_7
        refine ⟨regrown_of_below BU_7, ?_⟩
        have bx0 := x0U_7
        have bx1 := x1U_7
        have bx2 := x2U_7
        have bx3 := x3U_7
        have bx4 := x4U_7
        have bx5 := x5U_7
        have bxf := xfU_7
        have by0 := bxf 0
        have by1 := bxf 1
        have by2 := bxf 2
        have by3 := bxf 3
        have by4 := bxf 4
        have by5 := bxf 5
        have q3 := OI.os own_2
        replace q3 := q3.below Bx_8 (by omega)
        refine seqT_rest ?_
        go_wp2_with fail
        try refine ⟨rfl, ?_⟩
        go_meet
        obtain ⟨U_, hU_, d0, d1, d2, d3, d4, d5, df, dch, dsz⟩ := box6 bx0 bx1 bx2 bx3 bx4 bx5 bxf (.int .i64 a0) (.slice none 0 0) (.slice none 0 0) (.slice AA_5 x3.length cc_6) (.slice none 0 0) (.slice none 0 0)
        rw [← hU_]
        exact ⟨w_1.heap.size, AA_5, cc_6, _, _, rfl, by omega, by omega, d0, d1, d2, d3, d4, d5, df, tS_O.2 (q3.chg dch (fun b hb (e : b = _) => by have := hb.1; have := hb.2; omega)), BU_7.trans (dch.toBelow (fun k (hk : k = _) => by omega) (by omega)), by omega, by omega, by omega, by omega⟩
      · obtain ⟨U_9, hU_9, Bx_10, sU_9, x0U_9, x1U_9, x2U_9, x3U_9, x4U_9, x5U_9, xfU_9⟩ := newbox6 w_1 (.int .i64 0) (.slice none 0 0) (.slice none 0 0) (.slice none 0 0) (.slice none 0 0) (.slice none 0 0) 39
        have BU_9 := bel_trans Bw_1 Bx_10
        go_wp2_with fail
        rw [← hU_9]
        clear hU_9
        refine ⟨regrown_of_below BU_9, seqT_one rfl ?_⟩
        go_wp2_with fail
        refine ⟨regrown_of_below BU_9, ?_⟩
        have bx0 := x0U_9
        have bx1 := x1U_9
        have bx2 := x2U_9
        have bx3 := x3U_9
        have bx4 := x4U_9
        have bx5 := x5U_9
        have bxf := xfU_9
        have by0 := bxf 0
        have by1 := bxf 1
        have by2 := bxf 2
        have by3 := bxf 3
        have by4 := bxf 4
        have by5 := bxf 5
        have q3 := OI.os own_2
        replace q3 := q3.below Bx_10 (by omega)
        refine seqT_rest ?_
        go_wp2_with fail
        try refine ⟨rfl, ?_⟩
        go_meet
        obtain ⟨U_, hU_, d0, d1, d2, d3, d4, d5, df, dch, dsz⟩ := box6 bx0 bx1 bx2 bx3 bx4 bx5 bxf (.int .i64 a0) (.slice none 0 0) (.slice none 0 0) (.slice AA_5 x3.length cc_6) (.slice none 0 0) (.slice none 0 0)
        rw [← hU_]
        exact ⟨w_1.heap.size, AA_5, cc_6, _, _, rfl, by omega, by omega, d0, d1, d2, d3, d4, d5, df, tS_O.2 (q3.chg dch (fun b hb (e : b = _) => by have := hb.1; have := hb.2; omega)), BU_9.trans (dch.toBelow (fun k (hk : k = _) => by omega) (by omega)), by omega, by omega, by omega, by omega⟩
    · obtain ⟨U_11, hU_11, Bx_12, sU_11, x0U_11, x1U_11, x2U_11, x3U_11, x4U_11, x5U_11, xfU_11⟩ := newbox6 W (.int .i64 0) (.slice none 0 0) (.slice none 0 0) (.slice none 0 0) (.slice none 0 0) (.slice none 0 0) 39
      obtain ⟨V_13, hV_13⟩ : ∃ V, V = U_11.drew := ⟨_, rfl⟩
      have BV_13 : Below W.heap.size W V_13 := by rw [hV_13]; exact below_drewN Bx_12 1
      have sV_13 : V_13.heap.size = W.heap.size + 1 := by rw [hV_13]; exact sU_11
      have x0V_13 : V_13.cell? ⟨W.heap.size, 0, none⟩ = some (.int .i64 0) := by rw [hV_13]; exact x0U_11
      have x1V_13 : V_13.cell? ⟨W.heap.size, 1, none⟩ = some (.slice none 0 0) := by rw [hV_13]; exact x1U_11
      have x2V_13 : V_13.cell? ⟨W.heap.size, 2, none⟩ = some (.slice none 0 0) := by rw [hV_13]; exact x2U_11
      have x3V_13 : V_13.cell? ⟨W.heap.size, 3, none⟩ = some (.slice none 0 0) := by rw [hV_13]; exact x3U_11
      have x4V_13 : V_13.cell? ⟨W.heap.size, 4, none⟩ = some (.slice none 0 0) := by rw [hV_13]; exact x4U_11
      have x5V_13 : V_13.cell? ⟨W.heap.size, 5, none⟩ = some (.slice none 0 0) := by rw [hV_13]; exact x5U_11
      have xfV_13 : ∀ j, V_13.frozen? ⟨W.heap.size, j, none⟩ = false := by rw [hV_13]; exact xfU_11
      rw [hU_11] at hV_13
      clear x0U_11 x1U_11 x2U_11 x3U_11 x4U_11 x5U_11 xfU_11
      go_wp2_with fail
      rw [← hV_13]
      clear hV_13 hU_11 Bx_12 sU_11
      refine ⟨regrown_of_below BV_13, seqT_one rfl ?_⟩
      go_wp2_with fail
      refine (spec_l00Own _ _ _ _ _ (tS_R.1 (tS.later k3 BV_13)).ri (by omega)).mono ?_
      rintro e w_14 ⟨V_17, rfl, own_15, bel_16⟩
      obtain ⟨AA_18, cc_19, rfl, -⟩ := own_15.shape
      have Bw_14 := bel_trans BV_13 bel_16
      have sw_14 := bel_16.size
      go_wp2_with fail
      refine ⟨regrown_of_below Bw_14, seqT_one rfl ?_⟩
      go_wp2_with fail
      refine ⟨regrown_of_below Bw_14, ?_⟩
      have bx0 : w_14.cell? ⟨W.heap.size, 0, none⟩ = some (.int .i64 0) := by rw [bel_16.cell (by show W.heap.size < _; omega)]; exact x0V_13
      have bx1 : w_14.cell? ⟨W.heap.size, 1, none⟩ = some (.slice none 0 0) := by rw [bel_16.cell (by show W.heap.size < _; omega)]; exact x1V_13
      have bx2 : w_14.cell? ⟨W.heap.size, 2, none⟩ = some (.slice none 0 0) := by rw [bel_16.cell (by show W.heap.size < _; omega)]; exact x2V_13
      have bx3 : w_14.cell? ⟨W.heap.size, 3, none⟩ = some (.slice none 0 0) := by rw [bel_16.cell (by show W.heap.size < _; omega)]; exact x3V_13
      have bx4 : w_14.cell? ⟨W.heap.size, 4, none⟩ = some (.slice none 0 0) := by rw [bel_16.cell (by show W.heap.size < _; omega)]; exact x4V_13
      have bx5 : w_14.cell? ⟨W.heap.size, 5, none⟩ = some (.slice none 0 0) := by rw [bel_16.cell (by show W.heap.size < _; omega)]; exact x5V_13
      have bxf : ∀ j, w_14.frozen? ⟨W.heap.size, j, none⟩ = false := fun j => by rw [bel_16.frozen (by show W.heap.size < _; omega)]; exact xfV_13 j
      have by0 := bxf 0
      have by1 := bxf 1
      have by2 := bxf 2
      have by3 := bxf 3
      have by4 := bxf 4
      have by5 := bxf 5
      have q3 := OI.os own_15
      refine seqT_rest ?_
      go_wp2_with fail
      try refine ⟨rfl, ?_⟩
      go_meet
      obtain ⟨U_, hU_, d0, d1, d2, d3, d4, d5, df, dch, dsz⟩ := box6 bx0 bx1 bx2 bx3 bx4 bx5 bxf (.int .i64 a0) (.slice none 0 0) (.slice none 0 0) (.slice AA_18 x3.length cc_19) (.slice none 0 0) (.slice none 0 0)
      rw [← hU_]
      exact ⟨W.heap.size, AA_18, cc_19, _, _, rfl, by omega, by omega, d0, d1, d2, d3, d4, d5, df, tS_O.2 (q3.chg dch (fun b hb (e : b = _) => by have := hb.1; have := hb.2; omega)), Bw_14.trans (dch.toBelow (fun k (hk : k = _) => by omega) (by omega)), by omega, by omega, by omega, by omega⟩
  case rest =>
    obtain ⟨w0, rfl⟩ : ∃ u_ : World, u_ = wc := ⟨_, rfl⟩
    obtain ⟨g, A3', c3', l3, u3, rfl, hg1, hg2, d0, d1, d2, d3, d4, d5, df, o3, BW, s3, s4_, s5_, sg⟩ := hcut
    have sW0 := BW.size
    replace r0 : w0.cell? ⟨w.heap.size, 0, none⟩ = some (.int .i64 0) := by rw [BW.cell (by show w.heap.size < _; omega)]; exact r0
    replace r1 : w0.cell? ⟨w.heap.size, 1, none⟩ = some (.slice none 0 0) := by rw [BW.cell (by show w.heap.size < _; omega)]; exact r1
    replace r2 : w0.cell? ⟨w.heap.size, 2, none⟩ = some (.slice none 0 0) := by rw [BW.cell (by show w.heap.size < _; omega)]; exact r2
    replace r3 : w0.cell? ⟨w.heap.size, 3, none⟩ = some (.slice none 0 0) := by rw [BW.cell (by show w.heap.size < _; omega)]; exact r3
    replace r4 : w0.cell? ⟨w.heap.size, 4, none⟩ = some (.slice none 0 0) := by rw [BW.cell (by show w.heap.size < _; omega)]; exact r4
    replace r5 : w0.cell? ⟨w.heap.size, 5, none⟩ = some (.slice none 0 0) := by rw [BW.cell (by show w.heap.size < _; omega)]; exact r5
    replace rf : ∀ j, w0.frozen? ⟨w.heap.size, j, none⟩ = false := fun j => by rw [BW.frozen (by show w.heap.size < _; omega)]; exact rf j
    replace p1 : w0.cell? ⟨vb, 1, none⟩ = some (.slice A1 n1 c1) := by rw [BW.cell (by show vb < _; omega)]; exact p1
    replace p2 : w0.cell? ⟨vb, 2, none⟩ = some (.slice A2 n2 c2) := by rw [BW.cell (by show vb < _; omega)]; exact p2
    replace p4 : w0.cell? ⟨vb, 4, none⟩ = some (.slice A4 n4 c4) := by rw [BW.cell (by show vb < _; omega)]; exact p4
    replace p5 : w0.cell? ⟨vb, 5, none⟩ = some (.slice A5 n5 c5) := by rw [BW.cell (by show vb < _; omega)]; exact p5
    clear p0 p3 pp0 pp1 pp3 D1 hd0 k3 HW
    replace k1 := sl_R.1 k1
    go_wp2_with fail
    go_loopw [4] (fun i wr => ∃ (k : Nat) (v : Value), i = .int .i64 k ∧ k ≤ n1 ∧ OS tS 24 wr (Iv w0.heap.size wr.heap.size) v (x1.take k) ∧ Gr g 1 w0 wr v) (fun i _ => n1 - (intOf i).toNat)
    case atStart => exact ⟨0, _, rfl, by omega, OS.nil _ _ _ _, Gr.start d1⟩
    case round =>
      obtain ⟨k, v, rfl, hk, own, G⟩ := hrel
      have sr1 := G.chg.size
      have Bwr1 : Below W.heap.size W wr := BW.trans (G.chg.toBelow (fun b (hb : b = g) => by omega) (by omega))
      have q1 : wr.cell? ⟨vb, 1, none⟩ = some (.slice A1 n1 c1) := by rw [G.chg.cell (by omega) (by omega)]; exact p1
      by_cases hlt : k < n1
      · obtain ⟨bb, o, A5_, c5_, x, rfl, hbb, X, hc, hri, hxl2⟩ := src_cell (k1.below Bwr1) hb1 hlt
        have hpt := Lib.hid (M.take_at X.out)
        have hxl : (x1.take k).length ≤ 100000000 := by rw [List.length_take]; omega
        have m1 := cell_regrown q1
        have m2 := cell_regrown hc
        have m3 := cell_regrown G.cel
        have DV : Below wr.heap.size wr wr.drew := below_drewN (Below.refl _ _) 1
        have hdv : wr.drew.heap.size = wr.heap.size := rfl
        have hri2 := (hri.more (by omega)).later DV
        have hx9 := hb1.out x (List.mem_of_getElem? X.out)
        go_wp2_with fail
        (refine wp_region_fresh [0, 2, 3, 4, 6] [1, 5, 7, 8] 2 (.one 9 (.one 10 .rest)) [11, 12, 13] (by kernel_rfl) (by kernel_rfl) ?_; simp only [pickOps]; simp only [List.filterMap, List.getElem?_cons_succ, List.getElem?_cons_zero]; (repeat (go_big_quiet_step (fail))); refine wpQuiet_nil ?_; (repeat (go_big_quiet_step (fail))); refine wpQuiet_nil ?_)
        refine seqT_one rfl ?_
        go_wp2_with fail
        refine (spec_l00Own _ _ _ _ _ hri2 (by omega)).mono ?_
        rintro e w2 ⟨v1, rfl, on, bel2⟩
        obtain ⟨A6, c6, rfl, -⟩ := on.shape
        have s2_ := bel2.size
        have Bw2 := bel_trans DV bel2
        have own2 := own.below Bw2 (Nat.le_refl _)
        have G2 := G.below Bw2 (by omega)
        have os2 := tS_O.2 (OI.os on)
        go_wp2_with fail
        refine ⟨regrown_of_below Bw2, seqT_one rfl ?_⟩
        go_wp2_with fail
        refine ⟨regrown_of_below (bel_trans Bw2 ((Below.refl _ _).alloc (Nat.le_refl _) _)), seqT_rest ?_⟩
        go_wp2_with ((at_builtin; refine wpList_pushS ei_S #[.slice A6 x.length c6] rfl _ _ rfl own2 os2 (Iv.apart (by omega)) rfl rfl (by unfold maxLen; omega) (by omega) ?_; intro v3 w4 own4 ch4; obtain ⟨A7, c7, e7⟩ := own4.shape; obtain ⟨n7, hn7⟩ : ∃ n7, n7 = (x1.take k ++ [x]).length := ⟨_, rfl⟩; rw [← hn7] at e7; subst e7; have HN7 := Lib.hid hn7; clear hn7; have G4 := G2.row ch4 (by omega) (fun b hb => ⟨hb.1, by have := hb.1; omega⟩); have hc4 := G4.cel; have hf4 : w4.frozen? ⟨g, 1, none⟩ = false := (by rw [G4.fro]; exact df 1)))
        go_roundw
        case rel =>
          have s4 := ch4.size
          refine ⟨k + 1, _, by go_num, by omega, ?_, G4.set (df 1) _⟩
          rw [hpt.out]
          refine (own4.chg (Chg.set (F := fun b => b = g) w4 g 1 _ rfl) (fun b hb (e : b = g) => ?_)).wide (fun b hb => ?_)
          · rcases hb with hb | hb | hb
            · have := hb.1; omega
            · have := hb.1; omega
            · omega
          · have e9 : (w4.setCell ⟨g, 1, none⟩ (.slice A7 n7 c7)).heap.size = w4.heap.size := by simp
            rcases hb with hb | hb | hb
            · exact ⟨hb.1, by have := hb.2; omega⟩
            · exact ⟨by have := hb.1; omega, by have := hb.2; omega⟩
            · exact ⟨by omega, by omega⟩
        case measure => simp [intOf]; omega
      · obtain rfl : k = n1 := by omega
        rw [List.take_of_length_le (by rw [L1.out]; exact Nat.le_refl _)] at own
        obtain ⟨wa, rfl⟩ : ∃ wx : World, wx = wr := ⟨_, rfl⟩
        obtain ⟨A1', c1', rfl⟩ := own.shape
        replace d0 := (G.oth 0 (by decide)).trans d0
        replace d1 := G.cel
        replace d2 := (G.oth 2 (by decide)).trans d2
        replace d3 := (G.oth 3 (by decide)).trans d3
        replace d4 := (G.oth 4 (by decide)).trans d4
        replace d5 := (G.oth 5 (by decide)).trans d5
        replace df : ∀ j, wa.frozen? ⟨g, j, none⟩ = false := fun j => (G.fro j).trans (df j)
        replace r0 : wa.cell? ⟨w.heap.size, 0, none⟩ = some (.int .i64 0) := (G.chg.cell (by omega) (by omega)).trans r0
        replace r1 : wa.cell? ⟨w.heap.size, 1, none⟩ = some (.slice none 0 0) := (G.chg.cell (by omega) (by omega)).trans r1
        replace r2 : wa.cell? ⟨w.heap.size, 2, none⟩ = some (.slice none 0 0) := (G.chg.cell (by omega) (by omega)).trans r2
        replace r3 : wa.cell? ⟨w.heap.size, 3, none⟩ = some (.slice none 0 0) := (G.chg.cell (by omega) (by omega)).trans r3
        replace r4 : wa.cell? ⟨w.heap.size, 4, none⟩ = some (.slice none 0 0) := (G.chg.cell (by omega) (by omega)).trans r4
        replace r5 : wa.cell? ⟨w.heap.size, 5, none⟩ = some (.slice none 0 0) := (G.chg.cell (by omega) (by omega)).trans r5
        replace rf : ∀ j, wa.frozen? ⟨w.heap.size, j, none⟩ = false := fun j => (G.chg.frozen (by omega) (by omega)).trans (rf j)
        replace p2 : wa.cell? ⟨vb, 2, none⟩ = some (.slice A2 n2 c2) := (G.chg.cell (by omega) (by omega)).trans p2
        replace p4 : wa.cell? ⟨vb, 4, none⟩ = some (.slice A4 n4 c4) := (G.chg.cell (by omega) (by omega)).trans p4
        replace p5 : wa.cell? ⟨vb, 5, none⟩ = some (.slice A5 n5 c5) := (G.chg.cell (by omega) (by omega)).trans p5
        replace o3 : tS.O wa (Iv l3 u3) [.slice A3' x3.length c3'] x3 := tS_O.2 ((tS_O.1 o3).chg G.chg (fun b hb (e : b = g) => by have := hb.1; have := hb.2; omega))
        have o1 : tSS.O wa (Iv w0.heap.size wa.heap.size) _ x1 := sl_O.2 own
        clear G own
        go_wp2_with fail
        go_loopw [5] (fun i wr => ∃ (k : Nat) (v : Value), i = .int .i64 k ∧ k ≤ n2 ∧ OS tT 95 wr (Iv wa.heap.size wr.heap.size) v (x2.take k) ∧ Gr g 2 wa wr v) (fun i _ => n2 - (intOf i).toNat)
        case atStart => exact ⟨0, _, rfl, by omega, OS.nil _ _ _ _, Gr.start d2⟩
        case round =>
          obtain ⟨k, v, rfl, hk, own, G⟩ := hrel
          have sr2 := G.chg.size
          have Bwr2 : Below W.heap.size W wr := Bwr1.trans (G.chg.toBelow (fun b (hb : b = g) => by omega) (by omega))
          have q2 : wr.cell? ⟨vb, 2, none⟩ = some (.slice A2 n2 c2) := by rw [G.chg.cell (by omega) (by omega)]; exact p2
          by_cases hlt : k < n2
          · obtain ⟨bb, o, A7_, n7_, c7_, x, rfl, hbb, X, e0, hT_, hra, h7⟩ := track_cell (k2.below Bwr2) z2 hlt
            have hpt := Lib.hid (M.take_at X.out)
            have hxl : (x2.take k).length ≤ 100000000 := by rw [List.length_take]; omega
            have hl := Lib.hid hra.len
            have BV : Below wr.heap.size wr wr := Below.refl _ _
            have m0 := cell_regrown q2
            have m1 := cell_regrown e0
            have mg := cell_regrown G.cel
            obtain ⟨U, hU⟩ : ∃ U, U = (wr.alloc (.cells #[] 133)).drew := ⟨_, rfl⟩
            have BU : Below wr.heap.size wr U := by rw [hU]; exact below_drewN ((Below.refl _ _).alloc (Nat.le_refl _) _) 1
            have sU : U.heap.size = wr.heap.size + 1 := by rw [hU]; simp
            have h0 : U.ownsRow wr.heap.size 133 5 (.slice (some ⟨wr.heap.size, 0, none⟩) 0 0) 0 [] := by rw [hU]; exact World.ownsRow_made _ _ _ (Nat.le_refl _) (by simp [maxLen]) rfl
            have BwU : Below wr.heap.size wr U := BU
            have rd := ((hra.more (show W.heap.size ≤ wr.heap.size by omega)).later BwU).reads
            have HU := Lib.hid hU
            clear hU
            go_wp2_with fail
            (refine wp_region_fresh [0, 3, 4, 5, 7] [1, 6, 8, 9, 10] 4 (.one 2 (.one 11 (.one 12 (.one 13 .rest)))) [14, 15, 16] (by kernel_rfl) (by kernel_rfl) ?_; simp only [pickOps]; simp only [List.filterMap, List.getElem?_cons_succ, List.getElem?_cons_zero]; (repeat (go_big_quiet_step (fail))); refine wpQuiet_nil ?_; (repeat (go_big_quiet_step (fail))); refine wpQuiet_nil ?_)
            refine seqT_one rfl ?_
            go_wp2_with fail
            rw [← HU.out]
            refine ⟨regrown_of_below BU, seqT_one rfl ?_⟩
            go_wp2_with (at_builtin; refine wpList_cat ei_cl rfl _ _ rfl h0 (by first | rfl | (rw [sV]; rfl)) rd rfl (cl_one _) (by unfold maxLen; omega) (by omega) (by omega) ?_; intro v1 w2 own1 gr1 bel1; rw [Nat.zero_add, List.nil_append, ← hl.out] at own1; obtain ⟨A6, c6, e6, -⟩ := own_shape own1; subst e6)
            have s2_ := bel1.size
            have BU2 := BU.trans bel1
            have Bw2 : Below wr.heap.size wr w2 := BU2
            refine ⟨regrown_of_below BU2, seqT_one rfl ?_⟩
            go_wp2_with fail
            refine ⟨regrown_of_below BU2, seqT_one rfl ?_⟩
            go_wp2_with fail
            refine ⟨regrown_of_below (bel_trans BU2 ((Below.refl _ _).alloc (Nat.le_refl _) _)), seqT_rest ?_⟩
            have oT : OS tCl 133 w2 (Iv wr.heap.size w2.heap.size) _ x := OS.of_flat (OX.of_own own1)
            have own2 := own.below Bw2 (Nat.le_refl _)
            have G2 := G.below Bw2 (by omega)
            go_wp2_with ((at_builtin; refine wpList_pushS ei_TS #[.slice A6 x.length c6] rfl _ _ rfl own2 (sl_O.2 oT) (Iv.apart (by omega)) rfl rfl (by unfold maxLen; omega) (by omega) ?_; intro v3 w4 own4 ch4; obtain ⟨A7, c7, e7⟩ := own4.shape; obtain ⟨n7, hn7⟩ : ∃ n7, n7 = (x2.take k ++ [x]).length := ⟨_, rfl⟩; rw [← hn7] at e7; subst e7; have HN7 := Lib.hid hn7; clear hn7; have G4 := G2.row ch4 (by omega) (fun b hb => ⟨hb.1, by have := hb.1; omega⟩); have hc4 := G4.cel; have hf4 : w4.frozen? ⟨g, 2, none⟩ = false := (by rw [G4.fro]; exact df 2)))
            go_roundw
            case rel =>
              have s4 := ch4.size
              refine ⟨k + 1, _, by go_num, by omega, ?_, G4.set (df 2) _⟩
              rw [hpt.out]
              refine (own4.chg (Chg.set (F := fun b => b = g) w4 g 2 _ rfl) (fun b hb (e : b = g) => ?_)).wide (fun b hb => ?_)
              · rcases hb with hb | hb | hb
                · have := hb.1; omega
                · have := hb.1; omega
                · omega
              · have e9 : (w4.setCell ⟨g, 2, none⟩ (.slice A7 n7 c7)).heap.size = w4.heap.size := by simp
                rcases hb with hb | hb | hb
                · exact ⟨hb.1, by have := hb.2; omega⟩
                · exact ⟨by have := hb.1; omega, by have := hb.2; omega⟩
                · exact ⟨by omega, by omega⟩
            case measure => simp [intOf]; omega
          · obtain rfl : k = n2 := by omega
            rw [List.take_of_length_le (by rw [L2.out]; exact Nat.le_refl _)] at own
            obtain ⟨wb, rfl⟩ : ∃ wx : World, wx = wr := ⟨_, rfl⟩
            obtain ⟨A2', c2', rfl⟩ := own.shape
            replace d0 := (G.oth 0 (by decide)).trans d0
            replace d1 := (G.oth 1 (by decide)).trans d1
            replace d2 := G.cel
            replace d3 := (G.oth 3 (by decide)).trans d3
            replace d4 := (G.oth 4 (by decide)).trans d4
            replace d5 := (G.oth 5 (by decide)).trans d5
            replace df : ∀ j, wb.frozen? ⟨g, j, none⟩ = false := fun j => (G.fro j).trans (df j)
            replace r0 : wb.cell? ⟨w.heap.size, 0, none⟩ = some (.int .i64 0) := (G.chg.cell (by omega) (by omega)).trans r0
            replace r1 : wb.cell? ⟨w.heap.size, 1, none⟩ = some (.slice none 0 0) := (G.chg.cell (by omega) (by omega)).trans r1
            replace r2 : wb.cell? ⟨w.heap.size, 2, none⟩ = some (.slice none 0 0) := (G.chg.cell (by omega) (by omega)).trans r2
            replace r3 : wb.cell? ⟨w.heap.size, 3, none⟩ = some (.slice none 0 0) := (G.chg.cell (by omega) (by omega)).trans r3
            replace r4 : wb.cell? ⟨w.heap.size, 4, none⟩ = some (.slice none 0 0) := (G.chg.cell (by omega) (by omega)).trans r4
            replace r5 : wb.cell? ⟨w.heap.size, 5, none⟩ = some (.slice none 0 0) := (G.chg.cell (by omega) (by omega)).trans r5
            replace rf : ∀ j, wb.frozen? ⟨w.heap.size, j, none⟩ = false := fun j => (G.chg.frozen (by omega) (by omega)).trans (rf j)
            replace p4 : wb.cell? ⟨vb, 4, none⟩ = some (.slice A4 n4 c4) := (G.chg.cell (by omega) (by omega)).trans p4
            replace p5 : wb.cell? ⟨vb, 5, none⟩ = some (.slice A5 n5 c5) := (G.chg.cell (by omega) (by omega)).trans p5
            replace o3 : tS.O wb (Iv l3 u3) [.slice A3' x3.length c3'] x3 := tS_O.2 ((tS_O.1 o3).chg G.chg (fun b hb (e : b = g) => by have := hb.1; have := hb.2; omega))
            replace o1 : tSS.O wb (Iv w0.heap.size wa.heap.size) [.slice A1' x1.length c1'] x1 := sl_O.2 ((sl_O.1 o1).chg G.chg (fun b hb (e : b = g) => by have := hb.1; have := hb.2; omega))
            have o2 : tTS.O wb (Iv wa.heap.size wb.heap.size) _ x2 := sl_O.2 own
            clear G own
            go_wp2_with fail
            go_loopw [6] (fun i wr => ∃ (k : Nat) (v : Value), i = .int .i64 k ∧ k ≤ n4 ∧ OS tP 68 wr (Iv wb.heap.size wr.heap.size) v (x4.take k) ∧ Gr g 4 wb wr v) (fun i _ => n4 - (intOf i).toNat)
            case atStart => exact ⟨0, _, rfl, by omega, OS.nil _ _ _ _, Gr.start d4⟩
            case round =>
              obtain ⟨k, v, rfl, hk, own, G⟩ := hrel
              have sr4 := G.chg.size
              have Bwr4 : Below W.heap.size W wr := Bwr2.trans (G.chg.toBelow (fun b (hb : b = g) => by omega) (by omega))
              have q4 : wr.cell? ⟨vb, 4, none⟩ = some (.slice A4 n4 c4) := by rw [G.chg.cell (by omega) (by omega)]; exact p4
              by_cases hlt : k < n4
              · obtain ⟨bb, o, b0, D1_, m1_, d1_, D2_, m2_, d2_, D3_, m3_, d3_, y1, y2, y3, rfl, hbb, X, e0, e1, e2, e3, t1, t2, t3, hz⟩ := patch_cell (k4.below Bwr4) z4 hlt
                have hpt := Lib.hid (M.take_at X.out)
                have hxl : (x4.take k).length ≤ 100000000 := by rw [List.length_take]; omega
                have m0 := cell_regrown q4
                have mg := cell_regrown G.cel
                have DV : Below wr.heap.size wr wr.drew := below_drewN (Below.refl _ _) 1
                have DD := DV
                have hdv : wr.drew.heap.size = wr.heap.size := rfl
                have t1_ := tSS.later (tSS.more (show W.heap.size ≤ wr.heap.size by omega) t1) DV
                have t2_ := tNS.later (tNS.more (show W.heap.size ≤ wr.heap.size by omega) t2) DV
                have t3_ := tS.later (tS.more (show W.heap.size ≤ wr.heap.size by omega) t3) DV
                have E0 : wr.drew.cell? ⟨bb, o + k * 4, none⟩ = some (.int .i64 b0) := e0
                have E1 : wr.drew.cell? ⟨bb, o + k * 4 + 1, none⟩ = some (.slice D1_ m1_ d1_) := e1
                have E2 : wr.drew.cell? ⟨bb, o + k * 4 + 2, none⟩ = some (.slice D2_ m2_ d2_) := e2
                have E3 : wr.drew.cell? ⟨bb, o + k * 4 + 3, none⟩ = some (.slice D3_ m3_ d3_) := e3
                go_wp2_with fail
                (refine wp_region_fresh [0, 2, 3, 4, 6] [1, 5, 7] 2 (.one 8 (.one 9 .rest)) [10, 11, 12] (by kernel_rfl) (by kernel_rfl) ?_; simp only [pickOps]; simp only [List.filterMap, List.getElem?_cons_succ, List.getElem?_cons_zero]; (repeat (go_big_quiet_step (fail))); refine wpQuiet_nil ?_; (repeat (go_big_quiet_step (fail))); refine wpQuiet_nil ?_)
                refine seqT_one rfl ?_
                go_wp2_with fail
                refine (spec_l07Own _ _ _ _ _ _ _ _ _ _ _ _ _ _ _ wr.drew E0 E1 E2 E3 t1_ t2_ t3_ hz).mono ?_
                rintro e w2 ⟨H1, i1, j1, H2, i2, j2, H3, i3, j3, rfl, on, bel2⟩
                have s2_ := bel2.size
                have Bw2 := bel_trans DV bel2
                have own2 := own.below Bw2 (Nat.le_refl _)
                have G2 := G.below Bw2 (by omega)
                have BVw := bel_trans DD bel2
                go_wp2_with fail
                refine ⟨regrown_of_below BVw, seqT_one rfl ?_⟩
                go_wp2_with fail
                refine ⟨regrown_of_below (bel_trans BVw ((Below.refl _ _).alloc (Nat.le_refl _) _)), seqT_rest ?_⟩
                go_wp2_with ((at_builtin; refine wpList_pushS ei_PS #[.int .i64 b0, .slice H1 i1 j1, .slice H2 i2 j2, .slice H3 i3 j3] rfl _ _ rfl own2 on (Iv.apart (by omega)) rfl rfl (by unfold maxLen; omega) (by omega) ?_; intro v3 w4 own4 ch4; obtain ⟨A7, c7, e7⟩ := own4.shape; obtain ⟨n7, hn7⟩ : ∃ n7, n7 = (x4.take k ++ [(b0, y1, y2, y3)]).length := ⟨_, rfl⟩; rw [← hn7] at e7; subst e7; have HN7 := Lib.hid hn7; clear hn7; have G4 := G2.row ch4 (by omega) (fun b hb => ⟨hb.1, by have := hb.1; omega⟩); have hc4 := G4.cel; have hf4 : w4.frozen? ⟨g, 4, none⟩ = false := (by rw [G4.fro]; exact df 4)))
                go_roundw
                case rel =>
                  have s4 := ch4.size
                  refine ⟨k + 1, _, by go_num, by omega, ?_, G4.set (df 4) _⟩
                  rw [hpt.out]
                  refine (own4.chg (Chg.set (F := fun b => b = g) w4 g 4 _ rfl) (fun b hb (e : b = g) => ?_)).wide (fun b hb => ?_)
                  · rcases hb with hb | hb | hb
                    · have := hb.1; omega
                    · have := hb.1; omega
                    · omega
                  · have e9 : (w4.setCell ⟨g, 4, none⟩ (.slice A7 n7 c7)).heap.size = w4.heap.size := by simp
                    rcases hb with hb | hb | hb
                    · exact ⟨hb.1, by have := hb.2; omega⟩
                    · exact ⟨by have := hb.1; omega, by have := hb.2; omega⟩
                    · exact ⟨by omega, by omega⟩
                case measure => simp [intOf]; omega
              · obtain rfl : k = n4 := by omega
                rw [List.take_of_length_le (by rw [L4.out]; exact Nat.le_refl _)] at own
                obtain ⟨wd, rfl⟩ : ∃ wx : World, wx = wr := ⟨_, rfl⟩
                obtain ⟨A4', c4', rfl⟩ := own.shape
                replace d0 := (G.oth 0 (by decide)).trans d0
                replace d1 := (G.oth 1 (by decide)).trans d1
                replace d2 := (G.oth 2 (by decide)).trans d2
                replace d3 := (G.oth 3 (by decide)).trans d3
                replace d4 := G.cel
                replace d5 := (G.oth 5 (by decide)).trans d5
                replace df : ∀ j, wd.frozen? ⟨g, j, none⟩ = false := fun j => (G.fro j).trans (df j)
                replace r0 : wd.cell? ⟨w.heap.size, 0, none⟩ = some (.int .i64 0) := (G.chg.cell (by omega) (by omega)).trans r0
                replace r1 : wd.cell? ⟨w.heap.size, 1, none⟩ = some (.slice none 0 0) := (G.chg.cell (by omega) (by omega)).trans r1
                replace r2 : wd.cell? ⟨w.heap.size, 2, none⟩ = some (.slice none 0 0) := (G.chg.cell (by omega) (by omega)).trans r2
                replace r3 : wd.cell? ⟨w.heap.size, 3, none⟩ = some (.slice none 0 0) := (G.chg.cell (by omega) (by omega)).trans r3
                replace r4 : wd.cell? ⟨w.heap.size, 4, none⟩ = some (.slice none 0 0) := (G.chg.cell (by omega) (by omega)).trans r4
                replace r5 : wd.cell? ⟨w.heap.size, 5, none⟩ = some (.slice none 0 0) := (G.chg.cell (by omega) (by omega)).trans r5
                replace rf : ∀ j, wd.frozen? ⟨w.heap.size, j, none⟩ = false := fun j => (G.chg.frozen (by omega) (by omega)).trans (rf j)
                replace p5 : wd.cell? ⟨vb, 5, none⟩ = some (.slice A5 n5 c5) := (G.chg.cell (by omega) (by omega)).trans p5
                replace o3 : tS.O wd (Iv l3 u3) [.slice A3' x3.length c3'] x3 := tS_O.2 ((tS_O.1 o3).chg G.chg (fun b hb (e : b = g) => by have := hb.1; have := hb.2; omega))
                replace o1 : tSS.O wd (Iv w0.heap.size wa.heap.size) [.slice A1' x1.length c1'] x1 := sl_O.2 ((sl_O.1 o1).chg G.chg (fun b hb (e : b = g) => by have := hb.1; have := hb.2; omega))
                replace o2 : tTS.O wd (Iv wa.heap.size wb.heap.size) [.slice A2' x2.length c2'] x2 := sl_O.2 ((sl_O.1 o2).chg G.chg (fun b hb (e : b = g) => by have := hb.1; have := hb.2; omega))
                have o4 : tPS.O wd (Iv wb.heap.size wd.heap.size) _ x4 := sl_O.2 own
                clear G own
                go_wp2_with fail
                go_loopw [7] (fun i wr => ∃ (k : Nat) (v : Value), i = .int .i64 k ∧ k ≤ n5 ∧ OS tSt 102 wr (Iv wd.heap.size wr.heap.size) v (x5.take k) ∧ Gr g 5 wd wr v) (fun i _ => n5 - (intOf i).toNat)
                case atStart => exact ⟨0, _, rfl, by omega, OS.nil _ _ _ _, Gr.start d5⟩
                case round =>
                  obtain ⟨k, v, rfl, hk, own, G⟩ := hrel
                  have sr5 := G.chg.size
                  have Bwr5 : Below W.heap.size W wr := Bwr4.trans (G.chg.toBelow (fun b (hb : b = g) => by omega) (by omega))
                  have q5 : wr.cell? ⟨vb, 5, none⟩ = some (.slice A5 n5 c5) := by rw [G.chg.cell (by omega) (by omega)]; exact p5
                  by_cases hlt : k < n5
                  · obtain ⟨bb, o, s, l, A7_, n7_, c7_, us, rfl, hbb, X, e0, e1, e2, hs, hra, h7⟩ := strip_cell (k5.below Bwr5) z5 hlt
                    have hpt := Lib.hid (M.take_at X.out)
                    have hxl : (x5.take k).length ≤ 100000000 := by rw [List.length_take]; omega
                    have hl := Lib.hid hra.len
                    obtain ⟨V, hV, BV, sV, n0, n1_, n2_, nf⟩ := newbox3 wr (.string s) (.int .i64 l) (.slice A7_ n7_ c7_) 102
                    have HV := Lib.hid hV
                    clear hV
                    obtain ⟨U, hU⟩ : ∃ U, U = V.alloc (.cells #[] 155) := ⟨_, rfl⟩
                    have BU : Below V.heap.size V U := by rw [hU]; exact (Below.refl _ _).alloc (Nat.le_refl _) _
                    have sU : U.heap.size = V.heap.size + 1 := by rw [hU]; simp
                    have h0 : U.ownsRow V.heap.size 155 2 (.slice (some ⟨V.heap.size, 0, none⟩) 0 0) 0 [] := by rw [hU]; exact World.ownsRow_made _ _ _ (Nat.le_refl _) (by simp [maxLen]) rfl
                    have BwU : Below wr.heap.size wr U := bel_trans BV BU
                    have rd := ((hra.more (show W.heap.size ≤ wr.heap.size by omega)).later BwU).reads
                    have HU := Lib.hid hU
                    clear hU
                    go_wp2_with (first | (at_builtin; rw [← HV.out, ← HU.out]; refine wpList_cat ei_sd rfl _ _ rfl h0 (by first | rfl | (rw [sV]; rfl)) rd rfl (sd_one _) (by unfold maxLen; omega) (by omega) (by omega) ?_; intro v1 w2 own1 gr1 bel1; rw [Nat.zero_add, List.nil_append, ← hl.out] at own1; obtain ⟨A6, c6, e6, -⟩ := own_shape own1; subst e6; have s2_ := bel1.size; have Bv := BU.trans bel1; have N0 := (Bv.cell (p := ⟨wr.heap.size, 0, none⟩) (by show wr.heap.size < _; omega)).trans n0; have N1 := (Bv.cell (p := ⟨wr.heap.size, 1, none⟩) (by show wr.heap.size < _; omega)).trans n1_; have N2 := (Bv.cell (p := ⟨wr.heap.size, 2, none⟩) (by show wr.heap.size < _; omega)).trans n2_; have NF := (Bv.frozen (p := ⟨wr.heap.size, 2, none⟩) (by show wr.heap.size < _; omega)).trans (nf 2); have hvw2 := (G.below (bel_trans BV Bv) (by omega)).cel; have chS := Chg.set (F := fun b => b = wr.heap.size) w2 wr.heap.size 2 (.slice A6 us.length c6) rfl; obtain ⟨w3, hw3⟩ : ∃ w3, w3 = w2.setCell ⟨wr.heap.size, 2, none⟩ (.slice A6 us.length c6) := ⟨_, rfl⟩; rw [← hw3] at chS; have s3_ : w3.heap.size = w2.heap.size := (by rw [hw3]; simp); have Bw3 : Below wr.heap.size wr w3 := (bel_trans BV Bv).trans (chS.toBelow (fun b (hb : b = _) => by omega) (by omega)); have own2 := own.below Bw3 (Nat.le_refl _); have G2 := G.below Bw3 (by omega); have oT : OS tSd 155 w2 (Iv V.heap.size w2.heap.size) _ us := OS.of_flat (OX.of_own own1); have on2 : tSt.O w3 (Iv V.heap.size w2.heap.size) [.string s, .int .i64 l, .slice A6 us.length c6] (s, l, us) := st_O.2 ⟨A6, us.length, c6, rfl, hs, sl_O.2 (oT.chg chS (fun b hb (e : b = _) => by have := hb.1; omega))⟩; have HW3 := Lib.hid hw3; clear hw3) | (at_builtin; rw [← HW3.out]; refine wpList_pushS ei_st #[.string s, .int .i64 l, .slice A6 us.length c6] rfl _ _ rfl own2 on2 (Iv.apart (by omega)) rfl (by rw [s3_]; rfl) (by unfold maxLen; omega) (by omega) ?_; intro v3 w4 own4 ch4; obtain ⟨A7, c7, e7⟩ := own4.shape; obtain ⟨n7, hn7⟩ : ∃ n7, n7 = (x5.take k ++ [(s, l, us)]).length := ⟨_, rfl⟩; rw [← hn7] at e7; subst e7; have HN7 := Lib.hid hn7; clear hn7; have G4 := G2.row ch4 (by omega) (fun b hb => ⟨hb.1, by have := hb.1; omega⟩); have hc4 := G4.cel; have hf4 : w4.frozen? ⟨g, 5, none⟩ = false := (by rw [G4.fro]; exact df 5)))
                    go_roundw
                    case rel =>
                      have s4 := ch4.size
                      refine ⟨k + 1, _, by go_num, by omega, ?_, G4.set (df 5) _⟩
                      rw [hpt.out]
                      refine (own4.chg (Chg.set (F := fun b => b = g) w4 g 5 _ rfl) (fun b hb (e : b = g) => ?_)).wide (fun b hb => ?_)
                      · rcases hb with hb | hb | hb
                        · have := hb.1; omega
                        · have := hb.1; omega
                        · omega
                      · have e9 : (w4.setCell ⟨g, 5, none⟩ (.slice A7 n7 c7)).heap.size = w4.heap.size := by simp
                        rcases hb with hb | hb | hb
                        · exact ⟨hb.1, by have := hb.2; omega⟩
                        · exact ⟨by have := hb.1; omega, by have := hb.2; omega⟩
                        · exact ⟨by omega, by omega⟩
                    case measure => simp [intOf]; omega
                  · obtain rfl : k = n5 := by omega
                    rw [List.take_of_length_le (by rw [L5.out]; exact Nat.le_refl _)] at own
                    obtain ⟨we, rfl⟩ : ∃ wx : World, wx = wr := ⟨_, rfl⟩
                    obtain ⟨A5', c5', rfl⟩ := own.shape
                    replace d0 := (G.oth 0 (by decide)).trans d0
                    replace d1 := (G.oth 1 (by decide)).trans d1
                    replace d2 := (G.oth 2 (by decide)).trans d2
                    replace d3 := (G.oth 3 (by decide)).trans d3
                    replace d4 := (G.oth 4 (by decide)).trans d4
                    replace d5 := G.cel
                    replace df : ∀ j, we.frozen? ⟨g, j, none⟩ = false := fun j => (G.fro j).trans (df j)
                    replace r0 : we.cell? ⟨w.heap.size, 0, none⟩ = some (.int .i64 0) := (G.chg.cell (by omega) (by omega)).trans r0
                    replace r1 : we.cell? ⟨w.heap.size, 1, none⟩ = some (.slice none 0 0) := (G.chg.cell (by omega) (by omega)).trans r1
                    replace r2 : we.cell? ⟨w.heap.size, 2, none⟩ = some (.slice none 0 0) := (G.chg.cell (by omega) (by omega)).trans r2
                    replace r3 : we.cell? ⟨w.heap.size, 3, none⟩ = some (.slice none 0 0) := (G.chg.cell (by omega) (by omega)).trans r3
                    replace r4 : we.cell? ⟨w.heap.size, 4, none⟩ = some (.slice none 0 0) := (G.chg.cell (by omega) (by omega)).trans r4
                    replace r5 : we.cell? ⟨w.heap.size, 5, none⟩ = some (.slice none 0 0) := (G.chg.cell (by omega) (by omega)).trans r5
                    replace rf : ∀ j, we.frozen? ⟨w.heap.size, j, none⟩ = false := fun j => (G.chg.frozen (by omega) (by omega)).trans (rf j)
                    replace o3 : tS.O we (Iv l3 u3) [.slice A3' x3.length c3'] x3 := tS_O.2 ((tS_O.1 o3).chg G.chg (fun b hb (e : b = g) => by have := hb.1; have := hb.2; omega))
                    replace o1 : tSS.O we (Iv w0.heap.size wa.heap.size) [.slice A1' x1.length c1'] x1 := sl_O.2 ((sl_O.1 o1).chg G.chg (fun b hb (e : b = g) => by have := hb.1; have := hb.2; omega))
                    replace o2 : tTS.O we (Iv wa.heap.size wb.heap.size) [.slice A2' x2.length c2'] x2 := sl_O.2 ((sl_O.1 o2).chg G.chg (fun b hb (e : b = g) => by have := hb.1; have := hb.2; omega))
                    replace o4 : tPS.O we (Iv wb.heap.size wd.heap.size) [.slice A4' x4.length c4'] x4 := sl_O.2 ((sl_O.1 o4).chg G.chg (fun b hb (e : b = g) => by have := hb.1; have := hb.2; omega))
                    have o5 : tM.O we (Iv wd.heap.size we.heap.size) _ x5 := sl_O.2 own
                    clear G own
                    have rf0 := rf 0
                    have rf1 := rf 1
                    have rf2 := rf 2
                    have rf3 := rf 3
                    have rf4 := rf 4
                    have rf5 := rf 5
                    obtain ⟨U_, hU_, y0, y1, y2, y3, y4, y5, yf, ych, ysz⟩ := box6 r0 r1 r2 r3 r4 r5 rf (.int .i64 a0) (.slice A1' x1.length c1') (.slice A2' x2.length c2') (.slice A3' x3.length c3') (.slice A4' x4.length c4') (.slice A5' x5.length c5')
                    have HU := Lib.hid hU_
                    clear hU_
                    go_wp2
                    rw [← HU.out]
                    have yf0 := yf 0
                    have yf1 := yf 1
                    have yf2 := yf 2
                    have yf3 := yf 3
                    have yf4 := yf 4
                    have yf5 := yf 5
                    refine bodyPost_ret (v := .agg #[.int .i64 a0, .slice A1' x1.length c1', .slice A2' x2.length c2', .slice A3' x3.length c3', .slice A4' x4.length c4', .slice A5' x5.length c5']) (by simp [results, Tryz.results77, go_sem, y0, y1, y2, y3, y4, y5, yf0, yf1, yf2, yf3, yf4, yf5]) rfl ?_
                    refine ⟨A1', x1.length, c1', A2', x2.length, c2', A3', x3.length, c3', A4', x4.length, c4', A5', x5.length, c5', rfl, tZ_O.2 ⟨_, _, _, _, _, _, _, _, _, _, _, _, _, _, _, Iv w0.heap.size wa.heap.size, Iv wa.heap.size wb.heap.size, Iv l3 u3, Iv wb.heap.size wd.heap.size, Iv wd.heap.size we.heap.size, rfl, tSS.ochg o1 ych (fun b hb (e : b = _) => by have := hb.1; omega), tTS.ochg o2 ych (fun b hb (e : b = _) => by have := hb.1; omega), tS.ochg o3 ych (fun b hb (e : b = _) => by have := hb.1; omega), tPS.ochg o4 ych (fun b hb (e : b = _) => by have := hb.1; omega), tM.ochg o5 ych (fun b hb (e : b = _) => by have := hb.1; omega), Iv.mono (by omega) (by omega), Iv.mono (by omega) (by omega), Iv.mono (by omega) (by omega), Iv.mono (by omega) (by omega), Iv.mono (by omega) (by omega), fun b hb hb2 => by have h_1 := hb.1; have h_2 := hb.2; have h_3 := hb2.1; have h_4 := hb2.2; omega, fun b hb hb2 => by have h_1 := hb.1; have h_2 := hb.2; have h_3 := hb2.1; have h_4 := hb2.2; omega, fun b hb hb2 => by have h_1 := hb.1; have h_2 := hb.2; have h_3 := hb2.1; have h_4 := hb2.2; omega, fun b hb hb2 => by have h_1 := hb.1; have h_2 := hb.2; have h_3 := hb2.1; have h_4 := hb2.2; omega, fun b hb hb2 => by have h_1 := hb.1; have h_2 := hb.2; have h_3 := hb2.1; have h_4 := hb2.2; omega, fun b hb hb2 => by have h_1 := hb.1; have h_2 := hb.2; have h_3 := hb2.1; have h_4 := hb2.2; omega, fun b hb hb2 => by have h_1 := hb.1; have h_2 := hb.2; have h_3 := hb2.1; have h_4 := hb2.2; omega, fun b hb hb2 => by have h_1 := hb.1; have h_2 := hb.2; have h_3 := hb2.1; have h_4 := hb2.2; omega, fun b hb hb2 => by have h_1 := hb.1; have h_2 := hb.2; have h_3 := hb2.1; have h_4 := hb2.2; omega, fun b hb hb2 => by have h_1 := hb.1; have h_2 := hb.2; have h_3 := hb2.1; have h_4 := hb2.2; omega⟩, ?_⟩
                    exact (bel_trans B0 Bwr5).trans (ych.toBelow (fun b (hb : b = _) => by omega) (by omega))
end Go.Proofs.YtacgcagpaecncaaGreat
namespace Go.Proofs.YtacgcagpaecncaaGreat
open Go.RowKit Go.Sort
set_option maxHeartbeats 4000000
set_option maxRecDepth 100000
set_option linter.unusedVariables false
set_option linter.unusedSimpArgs false
theorem impl_has (A : Option Addr) (n c : Nat) (xs : List Int) (m : Int) (w : World) (hx : RI w w.heap.size A n xs) (hn : n ≤ 1000000000000) :
    Calls Tryz.prog 81 #[.slice A n c, .int .i64 m] w fun e w' => e = .returned (.bool (M.mem xs m)) ∧ w = w' := by
  go_enter Tryz.func81, Tryz.ntmps81
  go_wp2
  go_loop [9] (fun i => ∃ k : Nat, i = .int .i64 k ∧ k ≤ n ∧ Hid (M.mem xs m = M.mem (xs.drop k) m)) (fun i => n - (intOf i).toNat)
  case atStart => exact ⟨0, rfl, by omega, Lib.hid (by simp)⟩
  case round =>
    obtain ⟨k, rfl, hk, H⟩ := hrel
    have hl := Lib.hid hx.len
    by_cases hlt : k < n
    · obtain ⟨ad, x, rfl, hab, X, hc⟩ := hx.at hlt
      have hd := Lib.hid (M.drop_at X.out)
      by_cases hs : x = m
      · have R := Lib.hid (show M.mem xs m = true by rw [H.out, hd.out, M.mem_cons]; simp [hs])
        have g : (m == x) = true := by simpa using hs.symm
        subst hs
        go_wp2
        go_ret
        exact ⟨ret_bool (by rw [R.out]), rfl⟩
      · have R := Lib.hid (show M.mem xs m = M.mem (xs.drop (k + 1)) m by rw [H.out, hd.out, M.mem_cons, decide_eq_false hs, Bool.false_or])
        have g : (m == x) = false := by simpa using fun h => hs h.symm
        have hs' : ¬ m = x := fun h => hs h.symm
        clear hs
        go_wp2
        go_round
        case rel => exact ⟨k + 1, by go_num, by omega, R⟩
        case measure => simp [intOf]; omega
    · have R := Lib.hid (show M.mem xs m = false by rw [H.out, List.drop_eq_nil_of_le (by rw [hl.out]; omega)]; rfl)
      go_wp2
      go_ret
      exact ⟨ret_bool (by rw [R.out]), rfl⟩
/-- The tracks, of the first k only those kept. -/
def M.muteK (keep : List Int) (k : Nat) (xs : List (List Clip_)) : List (List Clip_) := xs.mapIdx (fun i x => if i < k ∧ M.mem keep i = false then [] else x)
theorem M.muteK_len (keep : List Int) (k : Nat) (xs : List (List Clip_)) : (M.muteK keep k xs).length = xs.length := by simp [M.muteK]
theorem M.muteK_zero (keep : List Int) (xs : List (List Clip_)) : M.muteK keep 0 xs = xs := by
  apply List.ext_getElem (by simp [M.muteK])
  intro i h h'
  simp [M.muteK]
theorem M.muteK_at {keep : List Int} {k : Nat} {xs : List (List Clip_)} {x : List Clip_} (h : xs[k]? = some x) : (M.muteK keep k xs)[k]? = some x := by
  simp [M.muteK, List.getElem?_mapIdx, h]
theorem M.muteK_keep {keep : List Int} {k : Nat} (xs : List (List Clip_)) (h : M.mem keep k = true) : M.muteK keep (k + 1) xs = M.muteK keep k xs := by
  apply List.ext_getElem (by simp [M.muteK])
  intro i h1 h2
  simp only [M.muteK, List.getElem_mapIdx]
  by_cases hi : i = k
  · subst hi; simp [h]
  · have e : (i < k + 1) ↔ (i < k) := by omega
    simp only [e]
theorem M.muteK_drop {keep : List Int} {k : Nat} (xs : List (List Clip_)) (h : M.mem keep k = false) : M.muteK keep (k + 1) xs = (M.muteK keep k xs).set k [] := by
  apply List.ext_getElem (by simp [M.muteK])
  intro i h1 h2
  rw [List.getElem_set]
  simp only [M.muteK, List.getElem_mapIdx]
  by_cases hi : i = k
  · subst hi; simp [h]
  · have e : (i < k + 1) ↔ (i < k) := by omega
    simp only [e, if_neg (show ¬ k = i by omega)]
theorem impl_mute (a0 : Int) (A1 : Option Addr) (n1 c1 : Nat) (A2 : Option Addr) (n2 c2 : Nat) (A3 : Option Addr) (n3 c3 : Nat) (A4 : Option Addr) (n4 c4 : Nat) (A5 : Option Addr) (n5 c5 : Nat) (x1 : List (List Int)) (x2 : List (List Clip_)) (x3 : List Int) (x4 : List Patch) (x5 : List Strip) (KA : Option Addr) (kn kc : Nat) (keep : List Int) (w : World)  (h1 : tSS.R w w.heap.size [.slice A1 n1 c1] x1) (h2 : tTS.R w w.heap.size [.slice A2 n2 c2] x2) (h3 : tS.R w w.heap.size [.slice A3 n3 c3] x3) (h4 : tPS.R w w.heap.size [.slice A4 n4 c4] x4) (h5 : tM.R w w.heap.size [.slice A5 n5 c5] x5) (hk_ : RI w w.heap.size KA kn keep) (hkn : kn ≤ 1000000000) (hn : hZ.sz ((a0, x1, x2, x3, x4, x5) : Sess) ≤ 100000000) :
    Calls Tryz.prog 40 #[.agg #[.int .i64 a0, .slice A1 n1 c1, .slice A2 n2 c2, .slice A3 n3 c3, .slice A4 n4 c4, .slice A5 n5 c5], .slice KA kn kc] w fun e w' => ∃ A1' n1' c1' A2' n2' c2' A3' n3' c3' A4' n4' c4' A5' n5' c5', e = .returned (.agg #[.int .i64 a0, .slice A1' n1' c1', .slice A2' n2' c2', .slice A3' n3' c3', .slice A4' n4' c4', .slice A5' n5' c5']) ∧ tZ.O w' (Iv w.heap.size w'.heap.size) [.int .i64 a0, .slice A1' n1' c1', .slice A2' n2' c2', .slice A3' n3' c3', .slice A4' n4' c4', .slice A5' n5' c5'] (a0, x1, M.muteK keep x2.length x2, x3, x4, x5) ∧ Below w.heap.size w w' := by
  obtain ⟨W_, hW_, B0_, sW_, p0, p1, p2, p3, p4, p5, pf⟩ := newbox6 w (.int .i64 a0) (.slice A1 n1 c1) (.slice A2 n2 c2) (.slice A3 n3 c3) (.slice A4 n4 c4) (.slice A5 n5 c5) 39
  obtain ⟨W, hW, B1_, sW, r0, r1, r2, r3, r4, r5, rf⟩ := newbox6 W_ (.int .i64 0) (.slice none 0 0) (.slice none 0 0) (.slice none 0 0) (.slice none 0 0) (.slice none 0 0) 39
  have B0 := bel_trans B0_ B1_
  rw [hW_] at hW
  clear hW_
  replace p0 : W.cell? ⟨w.heap.size, 0, none⟩ = some (.int .i64 a0) := by rw [B1_.cell (by show w.heap.size < _; omega)]; exact p0
  replace p1 : W.cell? ⟨w.heap.size, 1, none⟩ = some (.slice A1 n1 c1) := by rw [B1_.cell (by show w.heap.size < _; omega)]; exact p1
  replace p2 : W.cell? ⟨w.heap.size, 2, none⟩ = some (.slice A2 n2 c2) := by rw [B1_.cell (by show w.heap.size < _; omega)]; exact p2
  replace p3 : W.cell? ⟨w.heap.size, 3, none⟩ = some (.slice A3 n3 c3) := by rw [B1_.cell (by show w.heap.size < _; omega)]; exact p3
  replace p4 : W.cell? ⟨w.heap.size, 4, none⟩ = some (.slice A4 n4 c4) := by rw [B1_.cell (by show w.heap.size < _; omega)]; exact p4
  replace p5 : W.cell? ⟨w.heap.size, 5, none⟩ = some (.slice A5 n5 c5) := by rw [B1_.cell (by show w.heap.size < _; omega)]; exact p5
  obtain ⟨rb, hrb⟩ : ∃ rb, rb = W_.heap.size := ⟨_, rfl⟩
  have hrb2 : rb = w.heap.size + 1 := by omega
  rw [← hrb] at r0 r1 r2 r3 r4 r5 rf
  clear hrb
  subst hrb2
  have lW : w.heap.size + 1 < W.heap.size := by omega
  clear sW sW_ B0_ B1_ pf
  have HW := Lib.hid hW
  clear hW
  have k1 := tSS.later h1 B0
  have k2 := tTS.later h2 B0
  have k3 := tS.later h3 B0
  have k4 := tPS.later h4 B0
  have k5 := tM.later h5 B0
  have kk := hk_.later B0
  have z2 : x2.length ≤ 100000000 := by rw [hZ_sz] at hn; have e : x2.length + hT.szL x2 = hTS.sz x2 := rfl; omega
  clear h1 h2 h3 h4 h5
  go_enter Tryz.func40, Tryz.ntmps40
  go_wp2_with fail
  rw [← HW.out]
  refine (impl_copySession a0 A1 n1 c1 A2 n2 c2 A3 n3 c3 A4 n4 c4 A5 n5 c5 x1 x2 x3 x4 x5 W k1 k2 k3 k4 k5 hn).mono ?_
  rintro e w1 ⟨A1', n1', c1', A2', n2', c2', A3', n3', c3', A4', n4', c4', A5', n5', c5', rfl, oz, bel1⟩
  have s1 := bel1.size
  obtain ⟨_, _, _, _, _, _, _, _, _, _, _, _, _, _, _, F1, F2, F3, F4, F5, hcs, g1, g2, g3, g4, g5, q1, q2, q3, q4, q5, r1_2, r1_3, r1_4, r1_5, r2_3, r2_4, r2_5, r3_4, r3_5, r4_5⟩ := tZ_O.1 oz
  simp only [List.cons.injEq, Value.slice.injEq, and_true, true_and] at hcs
  obtain ⟨⟨rfl, rfl, rfl⟩, ⟨rfl, rfl, rfl⟩, ⟨rfl, rfl, rfl⟩, ⟨rfl, rfl, rfl⟩, ⟨rfl, rfl, rfl⟩⟩ := hcs
  obtain ⟨U, hU, BU, sU, d0, d1, d2, d3, d4, d5, df⟩ := newbox6 w1 (.int .i64 a0) (.slice A1' n1' c1') (.slice A2' n2' c2') (.slice A3' n3' c3') (.slice A4' n4' c4') (.slice A5' n5' c5') 39
  have HU := Lib.hid hU
  have BWU := bel_trans bel1 BU
  clear hU oz
  replace g1 := tSS.ochg g1 (Chg.of_below BU (fun _ => False)) (fun _ _ h => h)
  replace g2 := tTS.ochg g2 (Chg.of_below BU (fun _ => False)) (fun _ _ h => h)
  replace g3 := tS.ochg g3 (Chg.of_below BU (fun _ => False)) (fun _ _ h => h)
  replace g4 := tPS.ochg g4 (Chg.of_below BU (fun _ => False)) (fun _ _ h => h)
  replace g5 := tM.ochg g5 (Chg.of_below BU (fun _ => False)) (fun _ _ h => h)
  replace r0 : U.cell? ⟨w.heap.size + 1, 0, none⟩ = some (.int .i64 0) := (BWU.cell (by show w.heap.size + 1 < _; omega)).trans r0
  replace r1 : U.cell? ⟨w.heap.size + 1, 1, none⟩ = some (.slice none 0 0) := (BWU.cell (by show w.heap.size + 1 < _; omega)).trans r1
  replace r2 : U.cell? ⟨w.heap.size + 1, 2, none⟩ = some (.slice none 0 0) := (BWU.cell (by show w.heap.size + 1 < _; omega)).trans r2
  replace r3 : U.cell? ⟨w.heap.size + 1, 3, none⟩ = some (.slice none 0 0) := (BWU.cell (by show w.heap.size + 1 < _; omega)).trans r3
  replace r4 : U.cell? ⟨w.heap.size + 1, 4, none⟩ = some (.slice none 0 0) := (BWU.cell (by show w.heap.size + 1 < _; omega)).trans r4
  replace r5 : U.cell? ⟨w.heap.size + 1, 5, none⟩ = some (.slice none 0 0) := (BWU.cell (by show w.heap.size + 1 < _; omega)).trans r5
  replace rf : ∀ j, U.frozen? ⟨w.heap.size + 1, j, none⟩ = false := fun j => (BWU.frozen (by show w.heap.size + 1 < _; omega)).trans (rf j)
  have kU := kk.later BWU
  have ln2 := Lib.hid (sl_O.1 g2).read.cap.1
  have gF2 : ∀ b, F2 b → W.heap.size ≤ b ∧ b < w1.heap.size := fun b hb => q2 b hb
  have bn2' : n2' ≤ 100000000 := by have := ln2.out; omega
  go_wp2_with fail
  rw [← HU.out]
  go_loopw [12] (fun i wr => ∃ k : Nat, i = .int .i64 k ∧ k ≤ n2' ∧ OS tT 95 wr F2 (.slice A2' n2' c2') (M.muteK keep k x2) ∧ Chg F2 U wr) (fun i _ => n2' - (intOf i).toNat)
  case atStart => exact ⟨0, rfl, by omega, by rw [M.muteK_zero]; exact sl_O.1 g2, Chg.refl _ _⟩
  case round =>
    obtain ⟨k, rfl, hk, own, ch⟩ := hrel
    have sr := ch.size
    have Bwr : Below W.heap.size W wr := BWU.trans (ch.toBelow (fun b hb => (gF2 b hb).1) (by omega))
    have D2 : wr.cell? ⟨w1.heap.size, 2, none⟩ = some (.slice A2' n2' c2') := (ch.cell (by omega) (fun h => by have := gF2 _ h; omega)).trans d2
    have kw : RI wr wr.heap.size KA kn keep := kk.later Bwr
    by_cases hlt : k < n2'
    · have hX := Lib.hid (List.getElem?_eq_getElem (show k < x2.length by rw [ln2.out]; exact hlt))
      generalize x2[k]'(by rw [ln2.out]; exact hlt) = x at hX
      cases hm : M.mem keep (k : Int)
      · have HM := Lib.hid hm
        have Q := Lib.hid (M.muteK_drop x2 hm)
        clear hm
        obtain ⟨css, Fs, hole, cs, hcs, hE⟩ := own.openAt (M.muteK_at (keep := keep) hX.out)
        obtain ⟨A0, n0, c0, rfl⟩ := open_sl (tT.read hE)
        obtain ⟨g2_, rfl, hgF, hgn, hgl, -⟩ := hole.form (by rw [M.muteK_len, ln2.out]; exact hlt)
        have c0_ := (hole.cell hcs (j := 0) rfl).1
        have f0_ := (hole.cell hcs (j := 0) rfl).2
        change wr.cell? ⟨g2_, k * 1 + 0, none⟩ = _ at c0_
        change wr.frozen? ⟨g2_, k * 1 + 0, none⟩ = _ at f0_
        rw [Nat.add_zero, Nat.mul_one] at c0_ f0_
        go_wp2_with (go_at_call 81; refine (impl_has _ _ _ _ _ _ kw (by omega)).mono ?_; rw [HM.out]; rintro e w2 ⟨rfl, rfl⟩)
        go_roundw
        case rel =>
          have s0 := hole.set hcs 0 (by decide) (.slice none 0 0)
          have h3 := s0.1.fill s0.2 (y := []) (sl_O.2 (OS.nil _ _ _ _))
          rw [Nat.add_zero, show tT.s = 1 from rfl, Nat.mul_one] at h3
          exact ⟨k + 1, by go_num, by omega, by rw [Q.out]; exact h3, ch.trans (Chg.set _ g2_ k _ hgF)⟩
        case measure => simp [intOf]; omega
      · have HM := Lib.hid hm
        have Q := Lib.hid (M.muteK_keep x2 hm)
        clear hm
        go_wp2_with (go_at_call 81; refine (impl_has _ _ _ _ _ _ kw (by omega)).mono ?_; rw [HM.out]; rintro e w2 ⟨rfl, rfl⟩)
        go_roundw
        case rel => exact ⟨k + 1, by go_num, by omega, by rw [Q.out]; exact own, ch⟩
        case measure => simp [intOf]; omega
    · obtain rfl : k = n2' := by omega
      have D0 : wr.cell? ⟨w1.heap.size, 0, none⟩ = some (.int .i64 a0) := (ch.cell (by omega) (fun h => by have := gF2 _ h; omega)).trans d0
      have D1 : wr.cell? ⟨w1.heap.size, 1, none⟩ = some (.slice A1' n1' c1') := (ch.cell (by omega) (fun h => by have := gF2 _ h; omega)).trans d1
      have D3 : wr.cell? ⟨w1.heap.size, 3, none⟩ = some (.slice A3' n3' c3') := (ch.cell (by omega) (fun h => by have := gF2 _ h; omega)).trans d3
      have D4 : wr.cell? ⟨w1.heap.size, 4, none⟩ = some (.slice A4' n4' c4') := (ch.cell (by omega) (fun h => by have := gF2 _ h; omega)).trans d4
      have D5 : wr.cell? ⟨w1.heap.size, 5, none⟩ = some (.slice A5' n5' c5') := (ch.cell (by omega) (fun h => by have := gF2 _ h; omega)).trans d5
      have R0 : wr.cell? ⟨w.heap.size + 1, 0, none⟩ = some (.int .i64 0) := (ch.cell (by omega) (fun h => by have := gF2 _ h; omega)).trans r0
      have R1 : wr.cell? ⟨w.heap.size + 1, 1, none⟩ = some (.slice none 0 0) := (ch.cell (by omega) (fun h => by have := gF2 _ h; omega)).trans r1
      have R2 : wr.cell? ⟨w.heap.size + 1, 2, none⟩ = some (.slice none 0 0) := (ch.cell (by omega) (fun h => by have := gF2 _ h; omega)).trans r2
      have R3 : wr.cell? ⟨w.heap.size + 1, 3, none⟩ = some (.slice none 0 0) := (ch.cell (by omega) (fun h => by have := gF2 _ h; omega)).trans r3
      have R4 : wr.cell? ⟨w.heap.size + 1, 4, none⟩ = some (.slice none 0 0) := (ch.cell (by omega) (fun h => by have := gF2 _ h; omega)).trans r4
      have R5 : wr.cell? ⟨w.heap.size + 1, 5, none⟩ = some (.slice none 0 0) := (ch.cell (by omega) (fun h => by have := gF2 _ h; omega)).trans r5
      have RF : ∀ j, wr.frozen? ⟨w.heap.size + 1, j, none⟩ = false := fun j => (ch.frozen (by omega) (fun h => by have := gF2 _ h; omega)).trans (rf j)
      have RF0 := RF 0
      have RF1 := RF 1
      have RF2 := RF 2
      have RF3 := RF 3
      have RF4 := RF 4
      have RF5 := RF 5
      obtain ⟨U_, hU_, y0, y1, y2, y3, y4, y5, yf, ych, ysz⟩ := box6 R0 R1 R2 R3 R4 R5 RF (.int .i64 a0) (.slice A1' n1' c1') (.slice A2' k c2') (.slice A3' n3' c3') (.slice A4' n4' c4') (.slice A5' n5' c5')
      have HU_ := Lib.hid hU_
      clear hU_
      go_wp2
      rw [← HU_.out]
      have yf0 := yf 0
      have yf1 := yf 1
      have yf2 := yf 2
      have yf3 := yf 3
      have yf4 := yf 4
      have yf5 := yf 5
      refine bodyPost_ret (v := .agg #[.int .i64 a0, .slice A1' n1' c1', .slice A2' k c2', .slice A3' n3' c3', .slice A4' n4' c4', .slice A5' n5' c5']) (by simp [results, Tryz.results40, go_sem, y0, y1, y2, y3, y4, y5, yf0, yf1, yf2, yf3, yf4, yf5]) rfl ?_
      have eM : M.muteK keep x2.length x2 = M.muteK keep k x2 := by rw [ln2.out]
      rw [← eM] at own
      have hE_ : ∀ b, (Iv W.heap.size w1.heap.size) b → ¬ b = w.heap.size + 1 := fun b hb e => by have := hb.1; omega
      have ey : U_.heap.size = wr.heap.size := ysz
      refine ⟨A1', n1', c1', A2', k, c2', A3', n3', c3', A4', n4', c4', A5', n5', c5', rfl, tZ_O.2 ⟨_, _, _, _, _, _, _, _, _, _, _, _, _, _, _, F1, F2, F3, F4, F5, rfl, tSS.ochg (tSS.ochg g1 ch (fun b h h2 => r1_2 b h h2)) ych (fun b hb => hE_ b (q1 b hb)), tTS.ochg (sl_O.2 own) ych (fun b hb => hE_ b (q2 b hb)), tS.ochg (tS.ochg g3 ch (fun b h h2 => r2_3 b h2 h)) ych (fun b hb => hE_ b (q3 b hb)), tPS.ochg (tPS.ochg g4 ch (fun b h h2 => r2_4 b h2 h)) ych (fun b hb => hE_ b (q4 b hb)), tM.ochg (tM.ochg g5 ch (fun b h h2 => r2_5 b h2 h)) ych (fun b hb => hE_ b (q5 b hb)), fun b hb => Iv.mono (by omega) (by omega) b (q1 b hb), fun b hb => Iv.mono (by omega) (by omega) b (q2 b hb), fun b hb => Iv.mono (by omega) (by omega) b (q3 b hb), fun b hb => Iv.mono (by omega) (by omega) b (q4 b hb), fun b hb => Iv.mono (by omega) (by omega) b (q5 b hb), r1_2, r1_3, r1_4, r1_5, r2_3, r2_4, r2_5, r3_4, r3_5, r4_5⟩, ?_⟩
      exact (bel_trans B0 Bwr).trans (ych.toBelow (fun b (hb : b = _) => by omega) (by omega))
theorem spec_l27Mute (vb : Nat) (a0 : Int) (A1 : Option Addr) (n1 c1 : Nat) (A2 : Option Addr) (n2 c2 : Nat) (A3 : Option Addr) (n3 c3 : Nat) (A4 : Option Addr) (n4 c4 : Nat) (A5 : Option Addr) (n5 c5 : Nat) (x1 : List (List Int)) (x2 : List (List Clip_)) (x3 : List Int) (x4 : List Patch) (x5 : List Strip) (KA : Option Addr) (kn kc : Nat) (keep : List Int) (w : World) (e0 : w.cell? ⟨vb, 0, none⟩ = some (.int .i64 a0)) (e1 : w.cell? ⟨vb, 1, none⟩ = some (.slice A1 n1 c1)) (e2 : w.cell? ⟨vb, 2, none⟩ = some (.slice A2 n2 c2)) (e3 : w.cell? ⟨vb, 3, none⟩ = some (.slice A3 n3 c3)) (e4 : w.cell? ⟨vb, 4, none⟩ = some (.slice A4 n4 c4)) (e5 : w.cell? ⟨vb, 5, none⟩ = some (.slice A5 n5 c5)) (h1 : tSS.R w w.heap.size [.slice A1 n1 c1] x1) (h2 : tTS.R w w.heap.size [.slice A2 n2 c2] x2) (h3 : tS.R w w.heap.size [.slice A3 n3 c3] x3) (h4 : tPS.R w w.heap.size [.slice A4 n4 c4] x4) (h5 : tM.R w w.heap.size [.slice A5 n5 c5] x5) (hk_ : RI w w.heap.size KA kn keep) (hkn : kn ≤ 1000000000) (hn : hZ.sz ((a0, x1, x2, x3, x4, x5) : Sess) ≤ 100000000) :
    Calls Tryz.prog 38 #[.pointer (some ⟨vb, 0, none⟩), .slice KA kn kc] w fun e w' => ∃ A1' n1' c1' A2' n2' c2' A3' n3' c3' A4' n4' c4' A5' n5' c5', e = .returned (.agg #[.int .i64 a0, .slice A1' n1' c1', .slice A2' n2' c2', .slice A3' n3' c3', .slice A4' n4' c4', .slice A5' n5' c5']) ∧ tZ.O w' (Iv w.heap.size w'.heap.size) [.int .i64 a0, .slice A1' n1' c1', .slice A2' n2' c2', .slice A3' n3' c3', .slice A4' n4' c4', .slice A5' n5' c5'] (a0, x1, M.muteK keep x2.length x2, x3, x4, x5) ∧ Below w.heap.size w w' := by
  have lv0 : vb < w.heap.size := World.block_lt_of_cell? w _ e0
  obtain ⟨W, hW, B0, sW, r0, r1, r2, r3, r4, r5, rf⟩ := newbox6 w (.int .i64 0) (.slice none 0 0) (.slice none 0 0) (.slice none 0 0) (.slice none 0 0) (.slice none 0 0) 39
  have lW : w.heap.size < W.heap.size := by omega
  clear sW
  have p0 : W.cell? ⟨vb, 0, none⟩ = some (.int .i64 a0) := by rw [B0.cell (by show vb < _; omega)]; exact e0
  have p1 : W.cell? ⟨vb, 1, none⟩ = some (.slice A1 n1 c1) := by rw [B0.cell (by show vb < _; omega)]; exact e1
  have p2 : W.cell? ⟨vb, 2, none⟩ = some (.slice A2 n2 c2) := by rw [B0.cell (by show vb < _; omega)]; exact e2
  have p3 : W.cell? ⟨vb, 3, none⟩ = some (.slice A3 n3 c3) := by rw [B0.cell (by show vb < _; omega)]; exact e3
  have p4 : W.cell? ⟨vb, 4, none⟩ = some (.slice A4 n4 c4) := by rw [B0.cell (by show vb < _; omega)]; exact e4
  have p5 : W.cell? ⟨vb, 5, none⟩ = some (.slice A5 n5 c5) := by rw [B0.cell (by show vb < _; omega)]; exact e5
  clear e0 e1 e2 e3 e4 e5
  have HW := Lib.hid hW
  clear hW
  have k1 := tSS.later h1 B0
  have k2 := tTS.later h2 B0
  have k3 := tS.later h3 B0
  have k4 := tPS.later h4 B0
  have k5 := tM.later h5 B0
  have kk := hk_.later B0
  have z2 : x2.length ≤ 100000000 := by rw [hZ_sz] at hn; have e : x2.length + hT.szL x2 = hTS.sz x2 := rfl; omega
  clear h1 h2 h3 h4 h5
  go_enter Tryz.func38, Tryz.ntmps38
  go_wp2_with fail
  rw [← HW.out]
  refine (spec_l27Own vb a0 A1 n1 c1 A2 n2 c2 A3 n3 c3 A4 n4 c4 A5 n5 c5 x1 x2 x3 x4 x5 W p0 p1 p2 p3 p4 p5 k1 k2 k3 k4 k5 hn).mono ?_
  rintro e w1 ⟨A1', n1', c1', A2', n2', c2', A3', n3', c3', A4', n4', c4', A5', n5', c5', rfl, oz, bel1⟩
  have s1 := bel1.size
  obtain ⟨_, _, _, _, _, _, _, _, _, _, _, _, _, _, _, F1, F2, F3, F4, F5, hcs, g1, g2, g3, g4, g5, q1, q2, q3, q4, q5, r1_2, r1_3, r1_4, r1_5, r2_3, r2_4, r2_5, r3_4, r3_5, r4_5⟩ := tZ_O.1 oz
  simp only [List.cons.injEq, Value.slice.injEq, and_true, true_and] at hcs
  obtain ⟨⟨rfl, rfl, rfl⟩, ⟨rfl, rfl, rfl⟩, ⟨rfl, rfl, rfl⟩, ⟨rfl, rfl, rfl⟩, ⟨rfl, rfl, rfl⟩⟩ := hcs
  obtain ⟨U, hU, BU, sU, d0, d1, d2, d3, d4, d5, df⟩ := newbox6 w1 (.int .i64 a0) (.slice A1' n1' c1') (.slice A2' n2' c2') (.slice A3' n3' c3') (.slice A4' n4' c4') (.slice A5' n5' c5') 39
  have HU := Lib.hid hU
  have BWU := bel_trans bel1 BU
  clear hU oz
  replace g1 := tSS.ochg g1 (Chg.of_below BU (fun _ => False)) (fun _ _ h => h)
  replace g2 := tTS.ochg g2 (Chg.of_below BU (fun _ => False)) (fun _ _ h => h)
  replace g3 := tS.ochg g3 (Chg.of_below BU (fun _ => False)) (fun _ _ h => h)
  replace g4 := tPS.ochg g4 (Chg.of_below BU (fun _ => False)) (fun _ _ h => h)
  replace g5 := tM.ochg g5 (Chg.of_below BU (fun _ => False)) (fun _ _ h => h)
  replace r0 : U.cell? ⟨w.heap.size, 0, none⟩ = some (.int .i64 0) := (BWU.cell (by show w.heap.size < _; omega)).trans r0
  replace r1 : U.cell? ⟨w.heap.size, 1, none⟩ = some (.slice none 0 0) := (BWU.cell (by show w.heap.size < _; omega)).trans r1
  replace r2 : U.cell? ⟨w.heap.size, 2, none⟩ = some (.slice none 0 0) := (BWU.cell (by show w.heap.size < _; omega)).trans r2
  replace r3 : U.cell? ⟨w.heap.size, 3, none⟩ = some (.slice none 0 0) := (BWU.cell (by show w.heap.size < _; omega)).trans r3
  replace r4 : U.cell? ⟨w.heap.size, 4, none⟩ = some (.slice none 0 0) := (BWU.cell (by show w.heap.size < _; omega)).trans r4
  replace r5 : U.cell? ⟨w.heap.size, 5, none⟩ = some (.slice none 0 0) := (BWU.cell (by show w.heap.size < _; omega)).trans r5
  replace rf : ∀ j, U.frozen? ⟨w.heap.size, j, none⟩ = false := fun j => (BWU.frozen (by show w.heap.size < _; omega)).trans (rf j)
  have kU := kk.later BWU
  have ln2 := Lib.hid (sl_O.1 g2).read.cap.1
  have gF2 : ∀ b, F2 b → W.heap.size ≤ b ∧ b < w1.heap.size := fun b hb => q2 b hb
  have bn2' : n2' ≤ 100000000 := by have := ln2.out; omega
  go_wp2_with fail
  rw [← HU.out]
  go_loopw [6] (fun i wr => ∃ k : Nat, i = .int .i64 k ∧ k ≤ n2' ∧ OS tT 95 wr F2 (.slice A2' n2' c2') (M.muteK keep k x2) ∧ Chg F2 U wr) (fun i _ => n2' - (intOf i).toNat)
  case atStart => exact ⟨0, rfl, by omega, by rw [M.muteK_zero]; exact sl_O.1 g2, Chg.refl _ _⟩
  case round =>
    obtain ⟨k, rfl, hk, own, ch⟩ := hrel
    have sr := ch.size
    have Bwr : Below W.heap.size W wr := BWU.trans (ch.toBelow (fun b hb => (gF2 b hb).1) (by omega))
    have D2 : wr.cell? ⟨w1.heap.size, 2, none⟩ = some (.slice A2' n2' c2') := (ch.cell (by omega) (fun h => by have := gF2 _ h; omega)).trans d2
    have kw : RI wr wr.heap.size KA kn keep := kk.later Bwr
    by_cases hlt : k < n2'
    · have hX := Lib.hid (List.getElem?_eq_getElem (show k < x2.length by rw [ln2.out]; exact hlt))
      generalize x2[k]'(by rw [ln2.out]; exact hlt) = x at hX
      cases hm : M.mem keep (k : Int)
      · have HM := Lib.hid hm
        have Q := Lib.hid (M.muteK_drop x2 hm)
        clear hm
        obtain ⟨css, Fs, hole, cs, hcs, hE⟩ := own.openAt (M.muteK_at (keep := keep) hX.out)
        obtain ⟨A0, n0, c0, rfl⟩ := open_sl (tT.read hE)
        obtain ⟨g2_, rfl, hgF, hgn, hgl, -⟩ := hole.form (by rw [M.muteK_len, ln2.out]; exact hlt)
        have c0_ := (hole.cell hcs (j := 0) rfl).1
        have f0_ := (hole.cell hcs (j := 0) rfl).2
        change wr.cell? ⟨g2_, k * 1 + 0, none⟩ = _ at c0_
        change wr.frozen? ⟨g2_, k * 1 + 0, none⟩ = _ at f0_
        rw [Nat.add_zero, Nat.mul_one] at c0_ f0_
        go_wp2_with (go_at_call 78; refine (spec_l00Has _ _ _ _ _ _ kw (by omega)).mono ?_; rw [HM.out]; rintro e w2 ⟨rfl, rfl⟩)
        go_roundw
        case rel =>
          have s0 := hole.set hcs 0 (by decide) (.slice none 0 0)
          have h3 := s0.1.fill s0.2 (y := []) (sl_O.2 (OS.nil _ _ _ _))
          rw [Nat.add_zero, show tT.s = 1 from rfl, Nat.mul_one] at h3
          exact ⟨k + 1, by go_num, by omega, by rw [Q.out]; exact h3, ch.trans (Chg.set _ g2_ k _ hgF)⟩
        case measure => simp [intOf]; omega
      · have HM := Lib.hid hm
        have Q := Lib.hid (M.muteK_keep x2 hm)
        clear hm
        go_wp2_with (go_at_call 78; refine (spec_l00Has _ _ _ _ _ _ kw (by omega)).mono ?_; rw [HM.out]; rintro e w2 ⟨rfl, rfl⟩)
        go_roundw
        case rel => exact ⟨k + 1, by go_num, by omega, by rw [Q.out]; exact own, ch⟩
        case measure => simp [intOf]; omega
    · obtain rfl : k = n2' := by omega
      have D0 : wr.cell? ⟨w1.heap.size, 0, none⟩ = some (.int .i64 a0) := (ch.cell (by omega) (fun h => by have := gF2 _ h; omega)).trans d0
      have D1 : wr.cell? ⟨w1.heap.size, 1, none⟩ = some (.slice A1' n1' c1') := (ch.cell (by omega) (fun h => by have := gF2 _ h; omega)).trans d1
      have D3 : wr.cell? ⟨w1.heap.size, 3, none⟩ = some (.slice A3' n3' c3') := (ch.cell (by omega) (fun h => by have := gF2 _ h; omega)).trans d3
      have D4 : wr.cell? ⟨w1.heap.size, 4, none⟩ = some (.slice A4' n4' c4') := (ch.cell (by omega) (fun h => by have := gF2 _ h; omega)).trans d4
      have D5 : wr.cell? ⟨w1.heap.size, 5, none⟩ = some (.slice A5' n5' c5') := (ch.cell (by omega) (fun h => by have := gF2 _ h; omega)).trans d5
      have R0 : wr.cell? ⟨w.heap.size, 0, none⟩ = some (.int .i64 0) := (ch.cell (by omega) (fun h => by have := gF2 _ h; omega)).trans r0
      have R1 : wr.cell? ⟨w.heap.size, 1, none⟩ = some (.slice none 0 0) := (ch.cell (by omega) (fun h => by have := gF2 _ h; omega)).trans r1
      have R2 : wr.cell? ⟨w.heap.size, 2, none⟩ = some (.slice none 0 0) := (ch.cell (by omega) (fun h => by have := gF2 _ h; omega)).trans r2
      have R3 : wr.cell? ⟨w.heap.size, 3, none⟩ = some (.slice none 0 0) := (ch.cell (by omega) (fun h => by have := gF2 _ h; omega)).trans r3
      have R4 : wr.cell? ⟨w.heap.size, 4, none⟩ = some (.slice none 0 0) := (ch.cell (by omega) (fun h => by have := gF2 _ h; omega)).trans r4
      have R5 : wr.cell? ⟨w.heap.size, 5, none⟩ = some (.slice none 0 0) := (ch.cell (by omega) (fun h => by have := gF2 _ h; omega)).trans r5
      have RF : ∀ j, wr.frozen? ⟨w.heap.size, j, none⟩ = false := fun j => (ch.frozen (by omega) (fun h => by have := gF2 _ h; omega)).trans (rf j)
      have RF0 := RF 0
      have RF1 := RF 1
      have RF2 := RF 2
      have RF3 := RF 3
      have RF4 := RF 4
      have RF5 := RF 5
      obtain ⟨U_, hU_, y0, y1, y2, y3, y4, y5, yf, ych, ysz⟩ := box6 R0 R1 R2 R3 R4 R5 RF (.int .i64 a0) (.slice A1' n1' c1') (.slice A2' k c2') (.slice A3' n3' c3') (.slice A4' n4' c4') (.slice A5' n5' c5')
      have HU_ := Lib.hid hU_
      clear hU_
      go_wp2
      rw [← HU_.out]
      have yf0 := yf 0
      have yf1 := yf 1
      have yf2 := yf 2
      have yf3 := yf 3
      have yf4 := yf 4
      have yf5 := yf 5
      refine bodyPost_ret (v := .agg #[.int .i64 a0, .slice A1' n1' c1', .slice A2' k c2', .slice A3' n3' c3', .slice A4' n4' c4', .slice A5' n5' c5']) (by simp [results, Tryz.results38, go_sem, y0, y1, y2, y3, y4, y5, yf0, yf1, yf2, yf3, yf4, yf5]) rfl ?_
      have eM : M.muteK keep x2.length x2 = M.muteK keep k x2 := by rw [ln2.out]
      rw [← eM] at own
      have hE_ : ∀ b, (Iv W.heap.size w1.heap.size) b → ¬ b = w.heap.size := fun b hb e => by have := hb.1; omega
      have ey : U_.heap.size = wr.heap.size := ysz
      refine ⟨A1', n1', c1', A2', k, c2', A3', n3', c3', A4', n4', c4', A5', n5', c5', rfl, tZ_O.2 ⟨_, _, _, _, _, _, _, _, _, _, _, _, _, _, _, F1, F2, F3, F4, F5, rfl, tSS.ochg (tSS.ochg g1 ch (fun b h h2 => r1_2 b h h2)) ych (fun b hb => hE_ b (q1 b hb)), tTS.ochg (sl_O.2 own) ych (fun b hb => hE_ b (q2 b hb)), tS.ochg (tS.ochg g3 ch (fun b h h2 => r2_3 b h2 h)) ych (fun b hb => hE_ b (q3 b hb)), tPS.ochg (tPS.ochg g4 ch (fun b h h2 => r2_4 b h2 h)) ych (fun b hb => hE_ b (q4 b hb)), tM.ochg (tM.ochg g5 ch (fun b h h2 => r2_5 b h2 h)) ych (fun b hb => hE_ b (q5 b hb)), fun b hb => Iv.mono (by omega) (by omega) b (q1 b hb), fun b hb => Iv.mono (by omega) (by omega) b (q2 b hb), fun b hb => Iv.mono (by omega) (by omega) b (q3 b hb), fun b hb => Iv.mono (by omega) (by omega) b (q4 b hb), fun b hb => Iv.mono (by omega) (by omega) b (q5 b hb), r1_2, r1_3, r1_4, r1_5, r2_3, r2_4, r2_5, r3_4, r3_5, r4_5⟩, ?_⟩
      exact (bel_trans B0 Bwr).trans (ych.toBelow (fun b (hb : b = _) => by omega) (by omega))
end Go.Proofs.YtacgcagpaecncaaGreat
namespace Go.Proofs.YtacgcagpaecncaaGreat
open Go.RowKit Go.Sort
set_option maxHeartbeats 4000000
set_option maxRecDepth 100000
set_option linter.unusedVariables false
set_option linter.unusedSimpArgs false
set_option synthInstance.maxSize 2000
set_option synthInstance.maxHeartbeats 400000
theorem impl_size_impl_Patch (A : Option Addr) (n c : Nat) (w : World) : Calls Tryz.prog 66 #[.slice A n c] w fun e w' => e = .returned (.int .i64 n) ∧ w = w' := by
  go_enter Tryz.func66, Tryz.ntmps66
  go_wp2
  go_ret
  exact ⟨rfl, rfl⟩
theorem impl_isSession (a0 : Int) (A1 : Option Addr) (n1 c1 : Nat) (A2 : Option Addr) (n2 c2 : Nat) (A3 : Option Addr) (n3 c3 : Nat) (A4 : Option Addr) (n4 c4 : Nat) (A5 : Option Addr) (n5 c5 : Nat) (x1 : List (List Int)) (x2 : List (List Clip_)) (x3 : List Int) (x4 : List Patch) (x5 : List Strip) (w : World) (h1 : tSS.R w w.heap.size [.slice A1 n1 c1] x1) (h2 : tTS.R w w.heap.size [.slice A2 n2 c2] x2) (h3 : tS.R w w.heap.size [.slice A3 n3 c3] x3) (h4 : tPS.R w w.heap.size [.slice A4 n4 c4] x4) (h5 : tM.R w w.heap.size [.slice A5 n5 c5] x5) (hn : hZ.sz ((a0, x1, x2, x3, x4, x5) : Sess) ≤ 100000000) :
    Calls Tryz.prog 30 #[.agg #[.int .i64 a0, .slice A1 n1 c1, .slice A2 n2 c2, .slice A3 n3 c3, .slice A4 n4 c4, .slice A5 n5 c5]] w fun e w' => e = .returned (.bool (M.sessOk (a0, x1, x2, x3, x4, x5))) ∧ Below w.heap.size w w' := by
  obtain ⟨W, hW⟩ : ∃ W, W = w.alloc (.cells #[.int .i64 a0, .slice A1 n1 c1, .slice A2 n2 c2, .slice A3 n3 c3, .slice A4 n4 c4, .slice A5 n5 c5] 39) := ⟨_, rfl⟩
  have B0 : Below w.heap.size w W := by rw [hW]; exact (Below.refl _ _).alloc (Nat.le_refl _) _
  have p0 : W.cell? ⟨w.heap.size, 0, none⟩ = some (.int .i64 a0) := by rw [hW]; simp [go_sem]
  have p1 : W.cell? ⟨w.heap.size, 1, none⟩ = some (.slice A1 n1 c1) := by rw [hW]; simp [go_sem]
  have p2 : W.cell? ⟨w.heap.size, 2, none⟩ = some (.slice A2 n2 c2) := by rw [hW]; simp [go_sem]
  have p3 : W.cell? ⟨w.heap.size, 3, none⟩ = some (.slice A3 n3 c3) := by rw [hW]; simp [go_sem]
  have p4 : W.cell? ⟨w.heap.size, 4, none⟩ = some (.slice A4 n4 c4) := by rw [hW]; simp [go_sem]
  have p5 : W.cell? ⟨w.heap.size, 5, none⟩ = some (.slice A5 n5 c5) := by rw [hW]; simp [go_sem]
  have lx : w.heap.size < W.heap.size := by rw [hW]; simp
  have HW := Lib.hid hW
  clear hW
  have k1 := tSS.later h1 B0
  have k2 := tTS.later h2 B0
  have k3 := tS.later h3 B0
  have k4 := tPS.later h4 B0
  have k5 := tM.later h5 B0
  rw [hZ_sz] at hn
  have r1 := sl_R.1 k1
  have L1 := Lib.hid r1.cap.1
  have r2 := sl_R.1 k2
  have L2 := Lib.hid r2.cap.1
  have r3 := sl_R.1 k3
  have L3 := Lib.hid r3.cap.1
  have r4 := sl_R.1 k4
  have L4 := Lib.hid r4.cap.1
  have r5 := sl_R.1 k5
  have L5 := Lib.hid r5.cap.1
  have z1 : hSS.sz x1 ≤ 100000000 := by omega
  have bn1 : n1 ≤ 100000000 := by have e : x1.length + hS.szL x1 = hSS.sz x1 := rfl; have := L1.out; omega
  have z2 : hTS.sz x2 ≤ 100000000 := by omega
  have bn2 : n2 ≤ 100000000 := by have e : x2.length + hT.szL x2 = hTS.sz x2 := rfl; have := L2.out; omega
  have z3 : hS.sz x3 ≤ 100000000 := by omega
  have bn3 : n3 ≤ 100000000 := by have e : x3.length + hI.szL x3 = hS.sz x3 := rfl; have := L3.out; omega
  have z4 : hPS.sz x4 ≤ 100000000 := by omega
  have bn4 : n4 ≤ 100000000 := by have e : x4.length + hP.szL x4 = hPS.sz x4 := rfl; have := L4.out; omega
  have z5 : hM.sz x5 ≤ 100000000 := by omega
  have bn5 : n5 ≤ 100000000 := by have e : x5.length + hSt.szL x5 = hM.sz x5 := rfl; have := L5.out; omega
  have hb1 : Hid (∀ x ∈ x1, x.length ≤ 1000000000) := Lib.hid (fun x hx => by
    have hq1 : x1.length + hS.szL x1 = hSS.sz x1 := rfl
    obtain ⟨i, hi⟩ := List.getElem?_of_mem hx
    have := hS.szL_at hi
    rw [hS_sz] at this
    omega)
  have hx3 := (tS_R.1 k3).ri
  clear hn
  clear h1 h2 h3 h4 h5
  have HS := Lib.hid (show M.sessOk (a0, x1, x2, x3, x4, x5) = (M.inn a0 0 1000 && M.srcOk x1 && decide (n2 ≤ 6) && M.mixOk x5 && decide (n3 = n2) && x3.all (M.idx n5) && decide (n4 = n5) && x2.all (fun t => M.trackOk t && M.hasS t n1) && x4.all M.effOk) by rw [M.sessOk]; simp only [L1.out, L2.out, L3.out, L4.out, L5.out])
  generalize M.sessOk (a0, x1, x2, x3, x4, x5) = ok at HS ⊢
  cases g0 : M.inn a0 0 1000
  · have R := Lib.hid (show ok = false by rw [HS.out]; simp only [g0, Bool.false_and, Bool.and_false, Bool.true_and])
    have G0 := Lib.hid g0
    clear g0
    go_enter Tryz.func30, Tryz.ntmps30
    go_wp2_with fail
    rw [← HW.out]
    go_wp2_with (first | (go_at_call 61; refine (impl_size_impl_Strip _ _ _ _).mono ?_; rintro e w' ⟨rfl, rfl⟩) | (go_at_call 66; refine (impl_size_impl_Patch _ _ _ _).mono ?_; rintro e w' ⟨rfl, rfl⟩) | (go_at_call 62; refine (impl_within _ _ _ _).mono ?_; rw [G0.out]; rintro e w' ⟨rfl, rfl⟩))
    go_ret
    exact ⟨ret_bool (by rw [R.out]), B0⟩
  have G0 := Lib.hid g0
  clear g0
  cases g1 : M.srcOk x1
  · have R := Lib.hid (show ok = false by rw [HS.out]; simp only [G0.out, g1, Bool.false_and, Bool.and_false, Bool.true_and])
    have G1 := Lib.hid g1
    clear g1
    go_enter Tryz.func30, Tryz.ntmps30
    go_wp2_with fail
    rw [← HW.out]
    go_wp2_with (first | (go_at_call 61; refine (impl_size_impl_Strip _ _ _ _).mono ?_; rintro e w' ⟨rfl, rfl⟩) | (go_at_call 66; refine (impl_size_impl_Patch _ _ _ _).mono ?_; rintro e w' ⟨rfl, rfl⟩) | (go_at_call 62; refine (impl_within _ _ _ _).mono ?_; rw [G0.out]; rintro e w' ⟨rfl, rfl⟩) | (go_at_call 63; refine (impl_areSources _ _ _ _ _ r1 hb1 (by omega)).mono ?_; rw [G1.out]; rintro e w' ⟨rfl, rfl⟩))
    go_ret
    exact ⟨ret_bool (by rw [R.out]), B0⟩
  have G1 := Lib.hid g1
  clear g1
  by_cases g2 : ¬ n2 ≤ 6
  · have R := Lib.hid (show ok = false by rw [HS.out]; simp only [G0.out, G1.out, decide_eq_false g2, Bool.false_and, Bool.and_false, Bool.true_and])
    have gg : decide ((6 : Int) < (n2 : Int)) = true := decide_eq_true (by omega)
    go_enter Tryz.func30, Tryz.ntmps30
    go_wp2_with fail
    rw [← HW.out]
    go_wp2_with (first | (go_at_call 61; refine (impl_size_impl_Strip _ _ _ _).mono ?_; rintro e w' ⟨rfl, rfl⟩) | (go_at_call 66; refine (impl_size_impl_Patch _ _ _ _).mono ?_; rintro e w' ⟨rfl, rfl⟩) | (go_at_call 62; refine (impl_within _ _ _ _).mono ?_; rw [G0.out]; rintro e w' ⟨rfl, rfl⟩) | (go_at_call 63; refine (impl_areSources _ _ _ _ _ r1 hb1 (by omega)).mono ?_; rw [G1.out]; rintro e w' ⟨rfl, rfl⟩))
    go_ret
    exact ⟨ret_bool (by rw [R.out]), B0⟩
  replace g2 : n2 ≤ 6 := Decidable.not_not.1 g2
  have gd2 : decide ((6 : Int) < (n2 : Int)) = false := decide_eq_false (by omega)
  cases g3 : M.mixOk x5
  · have R := Lib.hid (show ok = false by rw [HS.out]; simp only [G0.out, G1.out, decide_eq_true g2, g3, Bool.false_and, Bool.and_false, Bool.true_and])
    have G3 := Lib.hid g3
    clear g3
    go_enter Tryz.func30, Tryz.ntmps30
    go_wp2_with fail
    rw [← HW.out]
    go_wp2_with (first | (go_at_call 61; refine (impl_size_impl_Strip _ _ _ _).mono ?_; rintro e w' ⟨rfl, rfl⟩) | (go_at_call 66; refine (impl_size_impl_Patch _ _ _ _).mono ?_; rintro e w' ⟨rfl, rfl⟩) | (go_at_call 62; refine (impl_within _ _ _ _).mono ?_; rw [G0.out]; rintro e w' ⟨rfl, rfl⟩) | (go_at_call 63; refine (impl_areSources _ _ _ _ _ r1 hb1 (by omega)).mono ?_; rw [G1.out]; rintro e w' ⟨rfl, rfl⟩) | (go_at_call 64; refine (impl_isMixer _ _ _ _ _ k5 z5).mono ?_; rw [G3.out]; rintro e w2 ⟨rfl, bel2⟩; have s0 : w2.cell? ⟨w.heap.size, 0, none⟩ = some (.int .i64 a0) := (by rw [bel2.cell lx]; exact p0); have s1 : w2.cell? ⟨w.heap.size, 1, none⟩ = some (.slice A1 n1 c1) := (by rw [bel2.cell lx]; exact p1); have s2 : w2.cell? ⟨w.heap.size, 2, none⟩ = some (.slice A2 n2 c2) := (by rw [bel2.cell lx]; exact p2); have s3 : w2.cell? ⟨w.heap.size, 3, none⟩ = some (.slice A3 n3 c3) := (by rw [bel2.cell lx]; exact p3); have s4 : w2.cell? ⟨w.heap.size, 4, none⟩ = some (.slice A4 n4 c4) := (by rw [bel2.cell lx]; exact p4); have s5 : w2.cell? ⟨w.heap.size, 5, none⟩ = some (.slice A5 n5 c5) := (by rw [bel2.cell lx]; exact p5); have hy3 := hx3.later bel2))
    go_ret
    exact ⟨ret_bool (by rw [R.out]), bel_trans B0 bel2⟩
  have G3 := Lib.hid g3
  clear g3
  by_cases g4 : ¬ n3 = n2
  · have R := Lib.hid (show ok = false by rw [HS.out]; simp only [G0.out, G1.out, decide_eq_true g2, G3.out, decide_eq_false g4, Bool.false_and, Bool.and_false, Bool.true_and])
    have gg : ((n3 : Int) != (n2 : Int)) = true := by simp; omega
    go_enter Tryz.func30, Tryz.ntmps30
    go_wp2_with fail
    rw [← HW.out]
    go_wp2_with (first | (go_at_call 61; refine (impl_size_impl_Strip _ _ _ _).mono ?_; rintro e w' ⟨rfl, rfl⟩) | (go_at_call 66; refine (impl_size_impl_Patch _ _ _ _).mono ?_; rintro e w' ⟨rfl, rfl⟩) | (go_at_call 62; refine (impl_within _ _ _ _).mono ?_; rw [G0.out]; rintro e w' ⟨rfl, rfl⟩) | (go_at_call 63; refine (impl_areSources _ _ _ _ _ r1 hb1 (by omega)).mono ?_; rw [G1.out]; rintro e w' ⟨rfl, rfl⟩) | (go_at_call 64; refine (impl_isMixer _ _ _ _ _ k5 z5).mono ?_; rw [G3.out]; rintro e w2 ⟨rfl, bel2⟩; have s0 : w2.cell? ⟨w.heap.size, 0, none⟩ = some (.int .i64 a0) := (by rw [bel2.cell lx]; exact p0); have s1 : w2.cell? ⟨w.heap.size, 1, none⟩ = some (.slice A1 n1 c1) := (by rw [bel2.cell lx]; exact p1); have s2 : w2.cell? ⟨w.heap.size, 2, none⟩ = some (.slice A2 n2 c2) := (by rw [bel2.cell lx]; exact p2); have s3 : w2.cell? ⟨w.heap.size, 3, none⟩ = some (.slice A3 n3 c3) := (by rw [bel2.cell lx]; exact p3); have s4 : w2.cell? ⟨w.heap.size, 4, none⟩ = some (.slice A4 n4 c4) := (by rw [bel2.cell lx]; exact p4); have s5 : w2.cell? ⟨w.heap.size, 5, none⟩ = some (.slice A5 n5 c5) := (by rw [bel2.cell lx]; exact p5); have hy3 := hx3.later bel2))
    go_ret
    exact ⟨ret_bool (by rw [R.out]), bel_trans B0 bel2⟩
  replace g4 : n3 = n2 := Decidable.not_not.1 g4
  subst g4
  cases g5 : x3.all (M.idx n5)
  · have R := Lib.hid (show ok = false by rw [HS.out]; simp only [G0.out, G1.out, decide_eq_true g2, G3.out, decide_true, g5, Bool.false_and, Bool.and_false, Bool.true_and])
    have G5 := Lib.hid g5
    clear g5
    go_enter Tryz.func30, Tryz.ntmps30
    go_wp2_with fail
    rw [← HW.out]
    go_wp2_with (first | (go_at_call 61; refine (impl_size_impl_Strip _ _ _ _).mono ?_; rintro e w' ⟨rfl, rfl⟩) | (go_at_call 66; refine (impl_size_impl_Patch _ _ _ _).mono ?_; rintro e w' ⟨rfl, rfl⟩) | (go_at_call 62; refine (impl_within _ _ _ _).mono ?_; rw [G0.out]; rintro e w' ⟨rfl, rfl⟩) | (go_at_call 63; refine (impl_areSources _ _ _ _ _ r1 hb1 (by omega)).mono ?_; rw [G1.out]; rintro e w' ⟨rfl, rfl⟩) | (go_at_call 64; refine (impl_isMixer _ _ _ _ _ k5 z5).mono ?_; rw [G3.out]; rintro e w2 ⟨rfl, bel2⟩; have s0 : w2.cell? ⟨w.heap.size, 0, none⟩ = some (.int .i64 a0) := (by rw [bel2.cell lx]; exact p0); have s1 : w2.cell? ⟨w.heap.size, 1, none⟩ = some (.slice A1 n1 c1) := (by rw [bel2.cell lx]; exact p1); have s2 : w2.cell? ⟨w.heap.size, 2, none⟩ = some (.slice A2 n3 c2) := (by rw [bel2.cell lx]; exact p2); have s3 : w2.cell? ⟨w.heap.size, 3, none⟩ = some (.slice A3 n3 c3) := (by rw [bel2.cell lx]; exact p3); have s4 : w2.cell? ⟨w.heap.size, 4, none⟩ = some (.slice A4 n4 c4) := (by rw [bel2.cell lx]; exact p4); have s5 : w2.cell? ⟨w.heap.size, 5, none⟩ = some (.slice A5 n5 c5) := (by rw [bel2.cell lx]; exact p5); have hy3 := hx3.later bel2) | (go_at_call 65; refine (impl_areIndices _ _ _ _ _ _ hy3 (by omega) (by omega)).mono ?_; rw [G5.out]; rintro e w' ⟨rfl, rfl⟩))
    go_ret
    exact ⟨ret_bool (by rw [R.out]), bel_trans B0 bel2⟩
  have G5 := Lib.hid g5
  clear g5
  by_cases g6 : ¬ n4 = n5
  · have R := Lib.hid (show ok = false by rw [HS.out]; simp only [G0.out, G1.out, decide_eq_true g2, G3.out, decide_true, G5.out, decide_eq_false g6, Bool.false_and, Bool.and_false, Bool.true_and])
    have gg : ((n4 : Int) != (n5 : Int)) = true := by simp; omega
    go_enter Tryz.func30, Tryz.ntmps30
    go_wp2_with fail
    rw [← HW.out]
    go_wp2_with (first | (go_at_call 61; refine (impl_size_impl_Strip _ _ _ _).mono ?_; rintro e w' ⟨rfl, rfl⟩) | (go_at_call 66; refine (impl_size_impl_Patch _ _ _ _).mono ?_; rintro e w' ⟨rfl, rfl⟩) | (go_at_call 62; refine (impl_within _ _ _ _).mono ?_; rw [G0.out]; rintro e w' ⟨rfl, rfl⟩) | (go_at_call 63; refine (impl_areSources _ _ _ _ _ r1 hb1 (by omega)).mono ?_; rw [G1.out]; rintro e w' ⟨rfl, rfl⟩) | (go_at_call 64; refine (impl_isMixer _ _ _ _ _ k5 z5).mono ?_; rw [G3.out]; rintro e w2 ⟨rfl, bel2⟩; have s0 : w2.cell? ⟨w.heap.size, 0, none⟩ = some (.int .i64 a0) := (by rw [bel2.cell lx]; exact p0); have s1 : w2.cell? ⟨w.heap.size, 1, none⟩ = some (.slice A1 n1 c1) := (by rw [bel2.cell lx]; exact p1); have s2 : w2.cell? ⟨w.heap.size, 2, none⟩ = some (.slice A2 n3 c2) := (by rw [bel2.cell lx]; exact p2); have s3 : w2.cell? ⟨w.heap.size, 3, none⟩ = some (.slice A3 n3 c3) := (by rw [bel2.cell lx]; exact p3); have s4 : w2.cell? ⟨w.heap.size, 4, none⟩ = some (.slice A4 n4 c4) := (by rw [bel2.cell lx]; exact p4); have s5 : w2.cell? ⟨w.heap.size, 5, none⟩ = some (.slice A5 n5 c5) := (by rw [bel2.cell lx]; exact p5); have hy3 := hx3.later bel2) | (go_at_call 65; refine (impl_areIndices _ _ _ _ _ _ hy3 (by omega) (by omega)).mono ?_; rw [G5.out]; rintro e w' ⟨rfl, rfl⟩))
    go_ret
    exact ⟨ret_bool (by rw [R.out]), bel_trans B0 bel2⟩
  replace g6 : n4 = n5 := Decidable.not_not.1 g6
  subst g6
  have HS2 := Lib.hid (show ok = (x2.all (fun t => M.trackOk t && M.hasS t n1) && x4.all M.effOk) by rw [HS.out]; simp only [G0.out, G1.out, decide_eq_true g2, G3.out, G5.out, decide_true, Bool.true_and, Bool.and_true])
  clear HS
  go_enter Tryz.func30, Tryz.ntmps30
  go_wp2_with fail
  rw [← HW.out]
  go_wp2_with (first | (go_at_call 61; refine (impl_size_impl_Strip _ _ _ _).mono ?_; rintro e w' ⟨rfl, rfl⟩) | (go_at_call 66; refine (impl_size_impl_Patch _ _ _ _).mono ?_; rintro e w' ⟨rfl, rfl⟩) | (go_at_call 62; refine (impl_within _ _ _ _).mono ?_; rw [G0.out]; rintro e w' ⟨rfl, rfl⟩) | (go_at_call 63; refine (impl_areSources _ _ _ _ _ r1 hb1 (by omega)).mono ?_; rw [G1.out]; rintro e w' ⟨rfl, rfl⟩) | (go_at_call 64; refine (impl_isMixer _ _ _ _ _ k5 z5).mono ?_; rw [G3.out]; rintro e w2 ⟨rfl, bel2⟩; have s0 : w2.cell? ⟨w.heap.size, 0, none⟩ = some (.int .i64 a0) := (by rw [bel2.cell lx]; exact p0); have s1 : w2.cell? ⟨w.heap.size, 1, none⟩ = some (.slice A1 n1 c1) := (by rw [bel2.cell lx]; exact p1); have s2 : w2.cell? ⟨w.heap.size, 2, none⟩ = some (.slice A2 n3 c2) := (by rw [bel2.cell lx]; exact p2); have s3 : w2.cell? ⟨w.heap.size, 3, none⟩ = some (.slice A3 n3 c3) := (by rw [bel2.cell lx]; exact p3); have s4 : w2.cell? ⟨w.heap.size, 4, none⟩ = some (.slice A4 n4 c4) := (by rw [bel2.cell lx]; exact p4); have s5 : w2.cell? ⟨w.heap.size, 5, none⟩ = some (.slice A5 n4 c5) := (by rw [bel2.cell lx]; exact p5); have hy3 := hx3.later bel2) | (go_at_call 65; refine (impl_areIndices _ _ _ _ _ _ hy3 (by omega) (by omega)).mono ?_; rw [G5.out]; rintro e w' ⟨rfl, rfl⟩))
  have B2 := bel_trans B0 bel2
  have lV : w.heap.size < w2.heap.size := by have := bel2.size; omega
  replace r2 := r2.later bel2
  replace r4 := r4.later bel2
  go_loopw [60] (fun i wr => ∃ k : Nat, i = .int .i64 k ∧ k ≤ n3 ∧ Hid (ok = ((x2.drop k).all (fun t => M.trackOk t && M.hasS t n1) && x4.all M.effOk)) ∧ Below w2.heap.size w2 wr) (fun i _ => n3 - (intOf i).toNat)
  case atStart => exact ⟨0, rfl, by omega, Lib.hid HS2.out, Below.refl _ _⟩
  case round =>
    obtain ⟨k, rfl, hk, H, Bw⟩ := hrel
    have BW := bel_trans B2 Bw
    by_cases hlt : k < n3
    · obtain ⟨bt, ot, A7, n7, c7, t, rfl, hbt, Y, e0, hT, hra, h7⟩ := track_cell (r2.below Bw) z2 hlt
      have hd := Lib.hid (M.drop_at Y.out)
      have hk0 : (0 : Int) ≤ (k : Int) := by omega
      have hkn : (k : Int) < (n3 : Int) := by omega
      obtain ⟨U, hU⟩ : ∃ U, U = wr.alloc (.cells #[.slice A7 n7 c7] 95) := ⟨_, rfl⟩
      have GU : Below wr.heap.size wr U := by rw [hU]; exact (Below.refl _ _).alloc (Nat.le_refl _) _
      have u0 : U.cell? ⟨wr.heap.size, 0, none⟩ = some (.slice A7 n7 c7) := by rw [hU, cell_of_row _ wr.heap.size 0 _ 95 (0, 0) (heap_alloc_new wr _)]; rfl
      have BU := bel_trans Bw GU
      have q1 : U.cell? ⟨w.heap.size, 1, none⟩ = some (.slice A1 n1 c1) := by rw [BU.cell lV]; exact s1
      have HU := Lib.hid hU
      clear hU
      have hry := (hra.more Bw.size).later GU
      have uu0 := cell_regrown u0
      have qq1 := cell_regrown q1
      have cS : ∀ d os, Calls Tryz.prog 69 #[.slice A1 n1 c1] (grow (redrawn U d) os) fun e w'' => e = .returned (.int .i64 n1) ∧ ∃ p : Regrown, w'' = grow (redrawn U p.d) p.os := fun d os => Calls.regrown_of (to_bel (impl_size_int64S _ _ _ _))
      have cT : ∀ d os, Calls Tryz.prog 67 #[.agg #[.slice A7 n7 c7]] (grow (redrawn U d) os) fun e w'' => e = .returned (.bool (M.trackOk t)) ∧ ∃ p : Regrown, w'' = grow (redrawn U p.d) p.os := fun d os => Calls.regrown_of (impl_isTrack _ _ _ _ _ (hry.later (below_regrown U d os)) (by omega))
      have cH : ∀ d os, Calls Tryz.prog 68 #[.agg #[.slice A7 n7 c7], .int .i64 n1] (grow (redrawn U d) os) fun e w'' => e = .returned (.bool (M.hasS t n1)) ∧ ∃ p : Regrown, w'' = grow (redrawn U p.d) p.os := fun d os => Calls.regrown_of (impl_hasSources _ _ _ _ _ _ (hry.later (below_regrown U d os)) (by omega))
      clear u0 q1
      cases ht : M.trackOk t
      · have R := Lib.hid (show ok = false by rw [H.out, hd.out, List.all_cons]; simp only [ht, Bool.false_and])
        rw [ht] at cT
        clear ht
        go_wp2_with fail
        rw [← HU.out]
        clear e0
        (refine wp_region_quiet_below (by kernel_rfl) (by kernel_rfl) ?_; (repeat (go_big_quiet_step ((first | exact cS _ _ | exact cT _ _ | exact cH _ _)))); refine wpQuiet_nil ?_; intro _ hw'; obtain ⟨⟨dq, osq⟩, hw''⟩ := hw'; subst hw'')
        go_wp2
        go_ret
        exact ⟨ret_bool (by rw [R.out]), bel_trans BW (bel_trans GU (below_regrown U dq osq))⟩
      · rw [ht] at cT
        cases hh : M.hasS t n1
        · have R := Lib.hid (show ok = false by rw [H.out, hd.out, List.all_cons]; simp only [ht, hh, Bool.false_and, Bool.and_false])
          rw [hh] at cH
          clear ht hh
          go_wp2_with fail
          rw [← HU.out]
          clear e0
          (refine wp_region_quiet_below (by kernel_rfl) (by kernel_rfl) ?_; (repeat (go_big_quiet_step ((first | exact cS _ _ | exact cT _ _ | exact cH _ _)))); refine wpQuiet_nil ?_; intro _ hw'; obtain ⟨⟨dq, osq⟩, hw''⟩ := hw'; subst hw'')
          go_wp2
          go_ret
          exact ⟨ret_bool (by rw [R.out]), bel_trans BW (bel_trans GU (below_regrown U dq osq))⟩
        · have R := Lib.hid (show ok = ((x2.drop (k + 1)).all (fun t => M.trackOk t && M.hasS t n1) && x4.all M.effOk) by rw [H.out, hd.out, List.all_cons]; simp only [ht, hh, Bool.true_and])
          rw [hh] at cH
          clear ht hh
          go_wp2_with fail
          rw [← HU.out]
          clear e0
          (refine wp_region_quiet_below (by kernel_rfl) (by kernel_rfl) ?_; (repeat (go_big_quiet_step ((first | exact cS _ _ | exact cT _ _ | exact cH _ _)))); refine wpQuiet_nil ?_; intro _ hw'; obtain ⟨⟨dq, osq⟩, hw''⟩ := hw'; subst hw'')
          go_wp2
          go_roundw
          case rel => exact ⟨k + 1, by go_num, by omega, R, bel_trans Bw (bel_trans GU (below_regrown U dq osq))⟩
          case measure => simp [intOf]; omega
    · have HS4 := Lib.hid (show ok = x4.all M.effOk by rw [H.out, List.drop_eq_nil_of_le (by rw [L2.out]; omega)]; rfl)
      have q4 : wr.cell? ⟨w.heap.size, 4, none⟩ = some (.slice A4 n4 c4) := by rw [Bw.cell lV]; exact s4
      go_wp2_with fail
      clear H hk hlt
      obtain ⟨wo, rfl⟩ : ∃ wo : World, wo = wr := ⟨_, rfl⟩
      go_loopw [79] (fun i wr => ∃ k : Nat, i = .int .i64 k ∧ k ≤ n4 ∧ Hid (ok = (x4.drop k).all M.effOk) ∧ Below w2.heap.size w2 wr) (fun i _ => n4 - (intOf i).toNat)
      case atStart => exact ⟨0, rfl, by omega, Lib.hid HS4.out, Bw⟩
      case round =>
        obtain ⟨k, rfl, hk, H, Bw2⟩ := hrel
        have BW := bel_trans B2 Bw2
        by_cases hlt2 : k < n4
        · obtain ⟨bp, op, b0, B1, m1, d1, B2, m2, d2, B3, m3, d3, y1, y2, y3, rfl, hbp, Y, e0, e1, e2, e3, t1, t2, t3, hz⟩ := patch_cell (r4.below Bw2) z4 hlt2
          have hd := Lib.hid (M.drop_at Y.out)
          obtain ⟨U, hU⟩ : ∃ U, U = wr.alloc (.cells #[.int .i64 b0, .slice B1 m1 d1, .slice B2 m2 d2, .slice B3 m3 d3] 68) := ⟨_, rfl⟩
          have GU : Below wr.heap.size wr U := by rw [hU]; exact (Below.refl _ _).alloc (Nat.le_refl _) _
          have HU := Lib.hid hU
          clear hU
          have s1 := tSS.later (tSS.more Bw2.size t1) GU
          have s2 := tNS.later (tNS.more Bw2.size t2) GU
          have s3 := tS.later (tS.more Bw2.size t3) GU
          have hk0 : (0 : Int) ≤ (k : Int) := by omega
          have hkn : (k : Int) < (n4 : Int) := by omega
          cases he : M.effOk (b0, y1, y2, y3)
          · have R := Lib.hid (show ok = false by rw [H.out, hd.out, List.all_cons, he]; rfl)
            have HE := Lib.hid he
            clear he
            go_wp2_with fail
            rw [← HU.out]
            refine (impl_isEffect _ _ _ _ _ _ _ _ _ _ _ _ _ U s1 s2 s3 hz).mono ?_
            rw [HE.out]
            rintro e w5 ⟨rfl, bel5⟩
            go_wp2
            go_ret
            exact ⟨ret_bool (by rw [R.out]), bel_trans BW (bel_trans GU bel5)⟩
          · have R := Lib.hid (show ok = (x4.drop (k + 1)).all M.effOk by rw [H.out, hd.out, List.all_cons, he]; rfl)
            have HE := Lib.hid he
            clear he
            go_wp2_with fail
            rw [← HU.out]
            refine (impl_isEffect _ _ _ _ _ _ _ _ _ _ _ _ _ U s1 s2 s3 hz).mono ?_
            rw [HE.out]
            rintro e w5 ⟨rfl, bel5⟩
            go_wp2
            go_roundw
            case rel => exact ⟨k + 1, by go_num, by omega, R, bel_trans Bw2 (bel_trans GU bel5)⟩
            case measure => simp [intOf]; omega
        · have R := Lib.hid (show ok = true by rw [H.out, List.drop_eq_nil_of_le (by rw [L4.out]; omega)]; rfl)
          go_wp2
          go_ret
          exact ⟨ret_bool (by rw [R.out]), BW⟩
end Go.Proofs.YtacgcagpaecncaaGreat
namespace Go.Proofs.YtacgcagpaecncaaGreat
open Go.RowKit Go.Sort
set_option maxHeartbeats 4000000
set_option maxRecDepth 100000
set_option synthInstance.maxSize 2000
set_option synthInstance.maxHeartbeats 400000
instance decTracks : DecidableEq (List (List Clip_)) := inferInstance
instance decPatch : DecidableEq Patch := inferInstance
instance decPatches : DecidableEq (List Patch) := inferInstance
instance decStrips : DecidableEq (List Strip) := inferInstance
instance decSess5 : DecidableEq (List Patch × List Strip) := inferInstance
instance decSess4 : DecidableEq (List Int × List Patch × List Strip) := inferInstance
instance decSess3 : DecidableEq (List (List Clip_) × List Int × List Patch × List Strip) := inferInstance
instance decSess : DecidableEq Sess := inferInstance
end Go.Proofs.YtacgcagpaecncaaGreat
namespace Go.Proofs.YtacgcagpaecncaaGreat
open Go.RowKit
set_option maxHeartbeats 4000000
set_option maxRecDepth 100000
theorem nf_sz_Y (p : Int) (A : Option Addr) (n c : Nat) (Ab : Option Addr) (nb cb : Nat) (Ac : Option Addr) (nc cc : Nat) (Ad : Option Addr) (nd cd : Nat) (Ae : Option Addr) (ne ce : Nat) (x : Sess) (l : Int) (w : World) (hx : tZ.R w w.heap.size [.int .i64 p, .slice A n c, .slice Ab nb cb, .slice Ac nc cc, .slice Ad nd cd, .slice Ae ne ce] x) (hl : 0 ≤ l ∧ l ≤ 1000000000) :
    Calls Tryz.prog 6 #[.agg #[.int .i64 p, .slice A n c, .slice Ab nb cb, .slice Ac nc cc, .slice Ad nd cd, .slice Ae ne ce], .int .i64 l] w fun e w' => e = .returned (.int .i64 (if (hZ.sz x : Int) ≤ l then l - hZ.sz x else -1)) ∧ Below w.heap.size w w' := by
  obtain ⟨a0, x1, x2, x3, x4, x5⟩ := x
  obtain ⟨A1, n1, c1, A2, n2, c2, A3, n3, c3, A4, n4, c4, A5, n5, c5, hcs, h1, h2, h3, h4, h5⟩ := tZ_R.1 hx
  simp only [List.cons.injEq, Value.int.injEq, Value.slice.injEq, true_and, and_true] at hcs
  obtain ⟨rfl, ⟨rfl, rfl, rfl⟩, ⟨rfl, rfl, rfl⟩, ⟨rfl, rfl, rfl⟩, ⟨rfl, rfl, rfl⟩, ⟨rfl, rfl, rfl⟩⟩ := hcs
  exact nf_sz_Z _ _ _ _ _ _ _ _ _ _ _ _ _ _ _ _ _ _ _ _ _ _ _ h1 h2 h3 h4 h5 hl
theorem nf_to_Y (p : Int) (A : Option Addr) (n c : Nat) (Ab : Option Addr) (nb cb : Nat) (Ac : Option Addr) (nc cc : Nat) (Ad : Option Addr) (nd cd : Nat) (Ae : Option Addr) (ne ce : Nat) (x : Sess) (w : World) (hx : tZ.R w w.heap.size [.int .i64 p, .slice A n c, .slice Ab nb cb, .slice Ac nc cc, .slice Ad nd cd, .slice Ae ne ce] x) (hn : hZ.sz x ≤ 100000000) :
    Calls Tryz.prog 8 #[.agg #[.int .i64 p, .slice A n c, .slice Ab nb cb, .slice Ac nc cc, .slice Ad nd cd, .slice Ae ne ce]] w fun e w' => ∃ p' A' n' c' Ab' nb' cb' Ac' nc' cc' Ad' nd' cd' Ae' ne' ce', e = .returned (.agg #[.int .i64 p', .slice A' n' c', .slice Ab' nb' cb', .slice Ac' nc' cc', .slice Ad' nd' cd', .slice Ae' ne' ce']) ∧ tZ.O w' (Iv w.heap.size w'.heap.size) [.int .i64 p', .slice A' n' c', .slice Ab' nb' cb', .slice Ac' nc' cc', .slice Ad' nd' cd', .slice Ae' ne' ce'] x ∧ Below w.heap.size w w' := by
  obtain ⟨a0, x1, x2, x3, x4, x5⟩ := x
  obtain ⟨A1, n1, c1, A2, n2, c2, A3, n3, c3, A4, n4, c4, A5, n5, c5, hcs, h1, h2, h3, h4, h5⟩ := tZ_R.1 hx
  simp only [List.cons.injEq, Value.int.injEq, Value.slice.injEq, true_and, and_true] at hcs
  obtain ⟨rfl, ⟨rfl, rfl, rfl⟩, ⟨rfl, rfl, rfl⟩, ⟨rfl, rfl, rfl⟩, ⟨rfl, rfl, rfl⟩, ⟨rfl, rfl, rfl⟩⟩ := hcs
  refine (nf_to_Z _ _ _ _ _ _ _ _ _ _ _ _ _ _ _ _ _ _ _ _ _ _ h1 h2 h3 h4 h5 hn).mono ?_
  rintro e w' ⟨B1, m1, d1, B2, m2, d2, B3, m3, d3, B4, m4, d4, B5, m5, d5, rfl, o, bel⟩
  exact ⟨_, _, _, _, _, _, _, _, _, _, _, _, _, _, _, _, rfl, o, bel⟩
theorem nf_eq_Y (p : Int) (A : Option Addr) (n c : Nat) (Ab : Option Addr) (nb cb : Nat) (Ac : Option Addr) (nc cc : Nat) (Ad : Option Addr) (nd cd : Nat) (Ae : Option Addr) (ne ce : Nat) (p' : Int) (A' : Option Addr) (n' c' : Nat) (Ab' : Option Addr) (nb' cb' : Nat) (Ac' : Option Addr) (nc' cc' : Nat) (Ad' : Option Addr) (nd' cd' : Nat) (Ae' : Option Addr) (ne' ce' : Nat) (x : Sess) (w : World) (hx : tZ.R w w.heap.size [.int .i64 p, .slice A n c, .slice Ab nb cb, .slice Ac nc cc, .slice Ad nd cd, .slice Ae ne ce] x) (hy : tZ.R w w.heap.size [.int .i64 p', .slice A' n' c', .slice Ab' nb' cb', .slice Ac' nc' cc', .slice Ad' nd' cd', .slice Ae' ne' ce'] x) (hn : hZ.sz x ≤ 100000000) :
    Calls Tryz.prog 10 #[.agg #[.int .i64 p, .slice A n c, .slice Ab nb cb, .slice Ac nc cc, .slice Ad nd cd, .slice Ae ne ce], .agg #[.int .i64 p', .slice A' n' c', .slice Ab' nb' cb', .slice Ac' nc' cc', .slice Ad' nd' cd', .slice Ae' ne' ce']] w fun e w' => e = .returned (.bool true) ∧ Below w.heap.size w w' := by
  obtain ⟨a0, x1, x2, x3, x4, x5⟩ := x
  obtain ⟨A1, n1, c1, A2, n2, c2, A3, n3, c3, A4, n4, c4, A5, n5, c5, hcs, h1, h2, h3, h4, h5⟩ := tZ_R.1 hx
  simp only [List.cons.injEq, Value.int.injEq, Value.slice.injEq, true_and, and_true] at hcs
  obtain ⟨rfl, ⟨rfl, rfl, rfl⟩, ⟨rfl, rfl, rfl⟩, ⟨rfl, rfl, rfl⟩, ⟨rfl, rfl, rfl⟩, ⟨rfl, rfl, rfl⟩⟩ := hcs
  obtain ⟨A1', n1', c1', A2', n2', c2', A3', n3', c3', A4', n4', c4', A5', n5', c5', hcs', k1, k2, k3, k4, k5⟩ := tZ_R.1 hy
  simp only [List.cons.injEq, Value.int.injEq, Value.slice.injEq, true_and, and_true] at hcs'
  obtain ⟨rfl, ⟨rfl, rfl, rfl⟩, ⟨rfl, rfl, rfl⟩, ⟨rfl, rfl, rfl⟩, ⟨rfl, rfl, rfl⟩, ⟨rfl, rfl, rfl⟩⟩ := hcs'
  exact nf_eq_Z _ _ _ _ _ _ _ _ _ _ _ _ _ _ _ _ _ _ _ _ _ _ _ _ _ _ _ _ _ _ _ _ _ _ _ _ _  h1 h2 h3 h4 h5 k1 k2 k3 k4 k5 hn
end Go.Proofs.YtacgcagpaecncaaGreat
