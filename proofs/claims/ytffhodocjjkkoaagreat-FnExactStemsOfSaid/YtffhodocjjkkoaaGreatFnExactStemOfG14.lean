import Derived.Test.YtffhodocjjkkoaaGreatFnExactStemOfG9
import Derived.Test.YtffhodocjjkkoaaGreatFnExactStemOfG13
set_option linter.unusedVariables false
set_option linter.unusedSimpArgs false
set_option maxRecDepth 100000
set_option maxHeartbeats 4000000
namespace Go.Proofs.YtffhodocjjkkoaaGreat
section
open Go.RowKit Go.Sort
theorem zuw (a0 : Int) (A1 : Option Addr) (n1 c1 : Nat) (A2 : Option Addr) (n2 c2 : Nat) (A3 : Option Addr) (n3 c3 : Nat) (A4 : Option Addr) (n4 c4 : Nat) (A5 : Option Addr) (n5 c5 : Nat) (x1 : List (List Int)) (x2 : List (List zag)) (x3 : List Int) (x4 : List zad) (x5 : List zae) (w : World)  (h1 : tSS.R w w.heap.size [.slice A1 n1 c1] x1) (h2 : tTS.R w w.heap.size [.slice A2 n2 c2] x2) (h3 : tS.R w w.heap.size [.slice A3 n3 c3] x3) (h4 : tPS.R w w.heap.size [.slice A4 n4 c4] x4) (h5 : tM.R w w.heap.size [.slice A5 n5 c5] x5) (hn : hZ.sz ((a0,x1,x2,x3,x4,x5) : Sess) ≤ 100000000) :
 Calls Tryz.prog 144 #[.agg #[.int .i64 a0,.slice A1 n1 c1,.slice A2 n2 c2,.slice A3 n3 c3,.slice A4 n4 c4,.slice A5 n5 c5]] w fun e w' => ∃ A1' n1' c1' A2' n2' c2' A3' n3' c3' A4' n4' c4' A5' n5' c5',e = .returned (.agg #[.int .i64 a0,.slice A1' n1' c1',.slice A2' n2' c2',.slice A3' n3' c3',.slice A4' n4' c4',.slice A5' n5' c5']) ∧ tZ.O w' (Iv w.heap.size w'.heap.size) [.int .i64 a0,.slice A1' n1' c1',.slice A2' n2' c2',.slice A3' n3' c3',.slice A4' n4' c4',.slice A5' n5' c5'] (a0,x1,x2,x3,x4,x5) ∧ Below w.heap.size w w' := by
 obtain ⟨W_,hW_,B0_,sW_,p0,p1,p2,p3,p4,p5,pf⟩ := zbw w (.int .i64 a0) (.slice A1 n1 c1) (.slice A2 n2 c2) (.slice A3 n3 c3) (.slice A4 n4 c4) (.slice A5 n5 c5) 40
 obtain ⟨W,hW,B1_,sW,r0,r1,r2,r3,r4,r5,rf⟩ := zbw W_ (.int .i64 0) (.slice none 0 0) (.slice none 0 0) (.slice none 0 0) (.slice none 0 0) (.slice none 0 0) 40
 have B0 := zaa B0_ B1_
 rw [hW_] at hW
 clear hW_
 replace p0 : W.cell? ⟨w.heap.size,0,none⟩ = some (.int .i64 a0) := by rw [B1_.cell (by show w.heap.size < _; omega)]; exact p0
 replace p1 : W.cell? ⟨w.heap.size,1,none⟩ = some (.slice A1 n1 c1) := by rw [B1_.cell (by show w.heap.size < _; omega)]; exact p1
 replace p2 : W.cell? ⟨w.heap.size,2,none⟩ = some (.slice A2 n2 c2) := by rw [B1_.cell (by show w.heap.size < _; omega)]; exact p2
 replace p3 : W.cell? ⟨w.heap.size,3,none⟩ = some (.slice A3 n3 c3) := by rw [B1_.cell (by show w.heap.size < _; omega)]; exact p3
 replace p4 : W.cell? ⟨w.heap.size,4,none⟩ = some (.slice A4 n4 c4) := by rw [B1_.cell (by show w.heap.size < _; omega)]; exact p4
 replace p5 : W.cell? ⟨w.heap.size,5,none⟩ = some (.slice A5 n5 c5) := by rw [B1_.cell (by show w.heap.size < _; omega)]; exact p5
 obtain ⟨rb,hrb⟩ : ∃ rb,rb = W_.heap.size := ⟨_,rfl⟩
 have hrb2 : rb = w.heap.size + 1 := by omega
 rw [← hrb] at r0 r1 r2 r3 r4 r5 rf
 clear hrb
 subst hrb2
 have lW : w.heap.size + 1 < W.heap.size := by omega
 clear sW sW_ B0_ B1_ pf
 have lv : w.heap.size < W.heap.size := by omega
 have HW := Lib.hid hW
 clear hW
 have k1 := tSS.later h1 B0
 have k2 := sl_R.1 (tTS.later h2 B0)
 have k3 := tS.later h3 B0
 have k4 := sl_R.1 (tPS.later h4 B0)
 have k5 := sl_R.1 (tM.later h5 B0)
 have L1 := Lib.hid (sl_R.1 k1).cap.1
 have L2 := Lib.hid k2.cap.1
 have L3 := Lib.hid (zc0 k3)
 have L4 := Lib.hid k4.cap.1
 have L5 := Lib.hid k5.cap.1
 rw [zc7] at hn
 have z1 : hSS.sz x1 ≤ 100000000 := by omega
 have z2 : hTS.sz x2 ≤ 100000000 := by omega
 have z3 : x3.length ≤ 100000000 := by rw [zbl] at hn; omega
 have z4 : hPS.sz x4 ≤ 100000000 := by omega
 have z5 : hM.sz x5 ≤ 100000000 := by omega
 have hb1 : Hid (∀ x ∈ x1,x.length ≤ 1000000000) := Lib.hid (fun x hx => by
  obtain ⟨i,hi⟩ := List.getElem?_of_mem hx
  have := hS.szL_at hi
  have e : x1.length + hS.szL x1 = hSS.sz x1 := rfl
  rw [zbl] at this
  omega)
 have bn1 : n1 ≤ 100000000 := by have e : x1.length + hS.szL x1 = hSS.sz x1 := rfl; have := L1.out; omega
 have bn2 : n2 ≤ 100000000 := by have e : x2.length + hT.szL x2 = hTS.sz x2 := rfl; have := L2.out; omega
 have bn3 : n3 ≤ 100000000 := by have := L3.out; omega
 have bn4 : n4 ≤ 100000000 := by have e : x4.length + hP.szL x4 = hPS.sz x4 := rfl; have := L4.out; omega
 have bn5 : n5 ≤ 100000000 := by have e : x5.length + hSt.szL x5 = hM.sz x5 := rfl; have := L5.out; omega
 have pp0 := cell_regrown p0
 have pp1 := cell_regrown p1
 have pp3 := cell_regrown p3
 have D1 : Below W.heap.size W W.drew := zac (Below.refl _ _) 1
 have hd0 : W.drew.heap.size = W.heap.size := rfl
 clear h1 h2 h3 h4 h5 hn
 go_enter Tryz.func144,Tryz.ntmps144
 go_wp2_with fail
 rw [← HW.out]
 go_cut [3] (fun q3 wx => ∃ (g : Nat) (A1' : Option Addr) (c1' : Nat) (A3' : Option Addr) (c3' l1 u1 l3 u3 : Nat),q3 = .pointer (some ⟨g,0,none⟩) ∧ W.heap.size ≤ g ∧ g < wx.heap.size ∧ wx.cell? ⟨g,0,none⟩ = some (.int .i64 a0) ∧ wx.cell? ⟨g,1,none⟩ = some (.slice A1' x1.length c1') ∧ wx.cell? ⟨g,2,none⟩ = some (.slice none 0 0) ∧ wx.cell? ⟨g,3,none⟩ = some (.slice A3' x3.length c3') ∧ wx.cell? ⟨g,4,none⟩ = some (.slice none 0 0) ∧ wx.cell? ⟨g,5,none⟩ = some (.slice none 0 0) ∧ (∀ j,wx.frozen? ⟨g,j,none⟩ = false) ∧ tSS.O wx (Iv l1 u1) [.slice A1' x1.length c1'] x1 ∧ tS.O wx (Iv l3 u3) [.slice A3' x3.length c3'] x3 ∧ Below W.heap.size W wx ∧ W.heap.size ≤ l1 ∧ l1 ≤ u1 ∧ u1 ≤ l3 ∧ l3 ≤ u3 ∧ u3 ≤ wx.heap.size ∧ (g < l1 ∨ (u1 ≤ g ∧ g < l3) ∨ u3 ≤ g))
 case first =>
  clear p2 p4 p5 r0 r1 r2 r3 r4 r5 rf k2 k4 k5
  go_wp2_with fail
  (refine zcq [0,2,5] [1,3,6] 4 (.two 4 (.two 7 (.two 8 (.one 9 .rest) 9 (.one 8 .rest)) 9 (.one 7 (.one 8 .rest))) 9 (.one 4 (.one 7 (.one 8 .rest)))) [10] (by kernel_rfl) (by kernel_rfl) ?_; simp only [zaj]; simp only [List.filterMap,List.getElem?_cons_succ,List.getElem?_cons_zero]; (repeat (go_big_quiet_step (fail))); refine wpQuiet_nil ?_; (repeat (go_big_quiet_step (fail))); refine wpQuiet_nil ?_)
  refine zc9 rfl rfl ?_ ?_
  · go_wp2_with fail
    refine (zgz _ _ _ _ _ (tSS.later k1 D1) z1).mono ?_
    rintro e w_1 ⟨V_4,rfl,own_2,bel_3⟩
    obtain ⟨AA_5,cc_6,rfl⟩ := own_2.shape
    have Bw_1 := zaa D1 bel_3
    have sw_1 := bel_3.size
    go_wp2_with fail
    refine ⟨regrown_of_below Bw_1,zc9 rfl rfl ?_ ?_⟩
    · go_wp2_with fail
      refine (zd1 _ _ _ _ _ (tS_R.1 (tS.later k3 Bw_1)).ri (by omega)).mono ?_
      rintro e w_7 ⟨V_10,rfl,own_8,bel_9⟩
      obtain ⟨AA_11,cc_12,rfl,-⟩ := own_8.shape
      have Bw_7 := zaa Bw_1 bel_9
      have sw_7 := bel_9.size
      go_wp2_with fail
      refine ⟨regrown_of_below Bw_7,zc9 rfl rfl ?_ ?_⟩
      · go_wp2_with fail
        refine ⟨regrown_of_below Bw_7,zao rfl ?_⟩
        obtain ⟨U_13,hU_13,Bx_14,sU_13,x0U_13,x1U_13,x2U_13,x3U_13,x4U_13,x5U_13,xfU_13⟩ := zbw w_7 (.int .i64 0) (.slice none 0 0) (.slice none 0 0) (.slice none 0 0) (.slice none 0 0) (.slice none 0 0) 40
        have BU_13 := zaa Bw_7 Bx_14
        go_wp2_with fail
        rw [← hU_13]
        clear hU_13
        refine ⟨regrown_of_below BU_13,?_⟩
        have bx0 := x0U_13
        have bx1 := x1U_13
        have bx2 := x2U_13
        have bx3 := x3U_13
        have bx4 := x4U_13
        have bx5 := x5U_13
        have bxf := xfU_13
        have by0 := bxf 0
        have by1 := bxf 1
        have by2 := bxf 2
        have by3 := bxf 3
        have by4 := bxf 4
        have by5 := bxf 5
        have q1 := own_2
        replace q1 := q1.below bel_9 (by omega)
        replace q1 := q1.below Bx_14 (by omega)
        have q3 := OI.os own_8
        replace q3 := q3.below Bx_14 (by omega)
        refine zbi ?_
        go_wp2_with fail
        try refine ⟨rfl,?_⟩
        go_meet
        obtain ⟨U_,hU_,d0,d1,d2,d3,d4,d5,df,dch,dsz⟩ := box6 bx0 bx1 bx2 bx3 bx4 bx5 bxf (.int .i64 a0) (.slice AA_5 x1.length cc_6) (.slice none 0 0) (.slice AA_11 x3.length cc_12) (.slice none 0 0) (.slice none 0 0)
        rw [← hU_]
        exact ⟨w_7.heap.size,AA_5,cc_6,AA_11,cc_12,_,_,_,_,rfl,by omega,by omega,d0,d1,d2,d3,d4,d5,df,sl_O.2 (q1.chg dch (fun b hb (e : b = _) => by have := hb.1; have := hb.2; omega)),tS_O.2 (q3.chg dch (fun b hb (e : b = _) => by have := hb.1; have := hb.2; omega)),BU_13.trans (dch.toBelow (fun k (hk : k = _) => by omega) (by omega)),by omega,by omega,by omega,by omega,by omega,by omega⟩
      · obtain ⟨U_15,hU_15,Bx_16,sU_15,x0U_15,x1U_15,x2U_15,x3U_15,x4U_15,x5U_15,xfU_15⟩ := zbw w_7 (.int .i64 0) (.slice none 0 0) (.slice none 0 0) (.slice none 0 0) (.slice none 0 0) (.slice none 0 0) 40
        have BU_15 := zaa Bw_7 Bx_16
        go_wp2_with fail
        rw [← hU_15]
        clear hU_15
        refine ⟨regrown_of_below BU_15,zao rfl ?_⟩
        go_wp2_with fail
        refine ⟨regrown_of_below BU_15,?_⟩
        have bx0 := x0U_15
        have bx1 := x1U_15
        have bx2 := x2U_15
        have bx3 := x3U_15
        have bx4 := x4U_15
        have bx5 := x5U_15
        have bxf := xfU_15
        have by0 := bxf 0
        have by1 := bxf 1
        have by2 := bxf 2
        have by3 := bxf 3
        have by4 := bxf 4
        have by5 := bxf 5
        have q1 := own_2
        replace q1 := q1.below bel_9 (by omega)
        replace q1 := q1.below Bx_16 (by omega)
        have q3 := OI.os own_8
        replace q3 := q3.below Bx_16 (by omega)
        refine zbi ?_
        go_wp2_with fail
        try refine ⟨rfl,?_⟩
        go_meet
        obtain ⟨U_,hU_,d0,d1,d2,d3,d4,d5,df,dch,dsz⟩ := box6 bx0 bx1 bx2 bx3 bx4 bx5 bxf (.int .i64 a0) (.slice AA_5 x1.length cc_6) (.slice none 0 0) (.slice AA_11 x3.length cc_12) (.slice none 0 0) (.slice none 0 0)
        rw [← hU_]
        exact ⟨w_7.heap.size,AA_5,cc_6,AA_11,cc_12,_,_,_,_,rfl,by omega,by omega,d0,d1,d2,d3,d4,d5,df,sl_O.2 (q1.chg dch (fun b hb (e : b = _) => by have := hb.1; have := hb.2; omega)),tS_O.2 (q3.chg dch (fun b hb (e : b = _) => by have := hb.1; have := hb.2; omega)),BU_15.trans (dch.toBelow (fun k (hk : k = _) => by omega) (by omega)),by omega,by omega,by omega,by omega,by omega,by omega⟩
    · obtain ⟨U_17,hU_17,Bx_18,sU_17,x0U_17,x1U_17,x2U_17,x3U_17,x4U_17,x5U_17,xfU_17⟩ := zbw w_1 (.int .i64 0) (.slice none 0 0) (.slice none 0 0) (.slice none 0 0) (.slice none 0 0) (.slice none 0 0) 40
      have BU_17 := zaa Bw_1 Bx_18
      go_wp2_with fail
      rw [← hU_17]
      clear hU_17
      refine ⟨regrown_of_below BU_17,zao rfl ?_⟩
      go_wp2_with fail
      refine (zd1 _ _ _ _ _ (tS_R.1 (tS.later k3 BU_17)).ri (by omega)).mono ?_
      rintro e w_19 ⟨V_22,rfl,own_20,bel_21⟩
      obtain ⟨AA_23,cc_24,rfl,-⟩ := own_20.shape
      have Bw_19 := zaa BU_17 bel_21
      have sw_19 := bel_21.size
      go_wp2_with fail
      refine ⟨regrown_of_below Bw_19,zao rfl ?_⟩
      go_wp2_with fail
      refine ⟨regrown_of_below Bw_19,?_⟩
      have bx0 : w_19.cell? ⟨w_1.heap.size,0,none⟩ = some (.int .i64 0) := by rw [bel_21.cell (by show w_1.heap.size < _; omega)]; exact x0U_17
      have bx1 : w_19.cell? ⟨w_1.heap.size,1,none⟩ = some (.slice none 0 0) := by rw [bel_21.cell (by show w_1.heap.size < _; omega)]; exact x1U_17
      have bx2 : w_19.cell? ⟨w_1.heap.size,2,none⟩ = some (.slice none 0 0) := by rw [bel_21.cell (by show w_1.heap.size < _; omega)]; exact x2U_17
      have bx3 : w_19.cell? ⟨w_1.heap.size,3,none⟩ = some (.slice none 0 0) := by rw [bel_21.cell (by show w_1.heap.size < _; omega)]; exact x3U_17
      have bx4 : w_19.cell? ⟨w_1.heap.size,4,none⟩ = some (.slice none 0 0) := by rw [bel_21.cell (by show w_1.heap.size < _; omega)]; exact x4U_17
      have bx5 : w_19.cell? ⟨w_1.heap.size,5,none⟩ = some (.slice none 0 0) := by rw [bel_21.cell (by show w_1.heap.size < _; omega)]; exact x5U_17
      have bxf : ∀ j,w_19.frozen? ⟨w_1.heap.size,j,none⟩ = false := fun j => by rw [bel_21.frozen (by show w_1.heap.size < _; omega)]; exact xfU_17 j
      have by0 := bxf 0
      have by1 := bxf 1
      have by2 := bxf 2
      have by3 := bxf 3
      have by4 := bxf 4
      have by5 := bxf 5
      have q1 := own_2
      replace q1 := q1.below Bx_18 (by omega)
      replace q1 := q1.below bel_21 (by omega)
      have q3 := OI.os own_20
      refine zbi ?_
      go_wp2_with fail
      try refine ⟨rfl,?_⟩
      go_meet
      obtain ⟨U_,hU_,d0,d1,d2,d3,d4,d5,df,dch,dsz⟩ := box6 bx0 bx1 bx2 bx3 bx4 bx5 bxf (.int .i64 a0) (.slice AA_5 x1.length cc_6) (.slice none 0 0) (.slice AA_23 x3.length cc_24) (.slice none 0 0) (.slice none 0 0)
      rw [← hU_]
      exact ⟨w_1.heap.size,AA_5,cc_6,AA_23,cc_24,_,_,_,_,rfl,by omega,by omega,d0,d1,d2,d3,d4,d5,df,sl_O.2 (q1.chg dch (fun b hb (e : b = _) => by have := hb.1; have := hb.2; omega)),tS_O.2 (q3.chg dch (fun b hb (e : b = _) => by have := hb.1; have := hb.2; omega)),Bw_19.trans (dch.toBelow (fun k (hk : k = _) => by omega) (by omega)),by omega,by omega,by omega,by omega,by omega,by omega⟩
  · obtain ⟨U_25,hU_25,Bx_26,sU_25,x0U_25,x1U_25,x2U_25,x3U_25,x4U_25,x5U_25,xfU_25⟩ := zbw W (.int .i64 0) (.slice none 0 0) (.slice none 0 0) (.slice none 0 0) (.slice none 0 0) (.slice none 0 0) 40
    obtain ⟨V_27,hV_27⟩ : ∃ V,V = U_25.drew := ⟨_,rfl⟩
    have BV_27 : Below W.heap.size W V_27 := by rw [hV_27]; exact zac Bx_26 1
    have sV_27 : V_27.heap.size = W.heap.size + 1 := by rw [hV_27]; exact sU_25
    have x0V_27 : V_27.cell? ⟨W.heap.size,0,none⟩ = some (.int .i64 0) := by rw [hV_27]; exact x0U_25
    have x1V_27 : V_27.cell? ⟨W.heap.size,1,none⟩ = some (.slice none 0 0) := by rw [hV_27]; exact x1U_25
    have x2V_27 : V_27.cell? ⟨W.heap.size,2,none⟩ = some (.slice none 0 0) := by rw [hV_27]; exact x2U_25
    have x3V_27 : V_27.cell? ⟨W.heap.size,3,none⟩ = some (.slice none 0 0) := by rw [hV_27]; exact x3U_25
    have x4V_27 : V_27.cell? ⟨W.heap.size,4,none⟩ = some (.slice none 0 0) := by rw [hV_27]; exact x4U_25
    have x5V_27 : V_27.cell? ⟨W.heap.size,5,none⟩ = some (.slice none 0 0) := by rw [hV_27]; exact x5U_25
    have xfV_27 : ∀ j,V_27.frozen? ⟨W.heap.size,j,none⟩ = false := by rw [hV_27]; exact xfU_25
    rw [hU_25] at hV_27
    clear x0U_25 x1U_25 x2U_25 x3U_25 x4U_25 x5U_25 xfU_25
    go_wp2_with fail
    rw [← hV_27]
    clear hV_27 hU_25 Bx_26 sU_25
    refine ⟨regrown_of_below BV_27,zao rfl ?_⟩
    go_wp2_with fail
    refine (zgz _ _ _ _ _ (tSS.later k1 BV_27) z1).mono ?_
    rintro e w_28 ⟨V_31,rfl,own_29,bel_30⟩
    obtain ⟨AA_32,cc_33,rfl⟩ := own_29.shape
    have Bw_28 := zaa BV_27 bel_30
    have sw_28 := bel_30.size
    go_wp2_with fail
    refine ⟨regrown_of_below Bw_28,zao rfl ?_⟩
    go_wp2_with fail
    refine (zd1 _ _ _ _ _ (tS_R.1 (tS.later k3 Bw_28)).ri (by omega)).mono ?_
    rintro e w_34 ⟨V_37,rfl,own_35,bel_36⟩
    obtain ⟨AA_38,cc_39,rfl,-⟩ := own_35.shape
    have Bw_34 := zaa Bw_28 bel_36
    have sw_34 := bel_36.size
    go_wp2_with fail
    refine ⟨regrown_of_below Bw_34,zao rfl ?_⟩
    go_wp2_with fail
    refine ⟨regrown_of_below Bw_34,?_⟩
    have bx0 : w_34.cell? ⟨W.heap.size,0,none⟩ = some (.int .i64 0) := by rw [bel_36.cell (by show W.heap.size < _; omega),bel_30.cell (by show W.heap.size < _; omega)]; exact x0V_27
    have bx1 : w_34.cell? ⟨W.heap.size,1,none⟩ = some (.slice none 0 0) := by rw [bel_36.cell (by show W.heap.size < _; omega),bel_30.cell (by show W.heap.size < _; omega)]; exact x1V_27
    have bx2 : w_34.cell? ⟨W.heap.size,2,none⟩ = some (.slice none 0 0) := by rw [bel_36.cell (by show W.heap.size < _; omega),bel_30.cell (by show W.heap.size < _; omega)]; exact x2V_27
    have bx3 : w_34.cell? ⟨W.heap.size,3,none⟩ = some (.slice none 0 0) := by rw [bel_36.cell (by show W.heap.size < _; omega),bel_30.cell (by show W.heap.size < _; omega)]; exact x3V_27
    have bx4 : w_34.cell? ⟨W.heap.size,4,none⟩ = some (.slice none 0 0) := by rw [bel_36.cell (by show W.heap.size < _; omega),bel_30.cell (by show W.heap.size < _; omega)]; exact x4V_27
    have bx5 : w_34.cell? ⟨W.heap.size,5,none⟩ = some (.slice none 0 0) := by rw [bel_36.cell (by show W.heap.size < _; omega),bel_30.cell (by show W.heap.size < _; omega)]; exact x5V_27
    have bxf : ∀ j,w_34.frozen? ⟨W.heap.size,j,none⟩ = false := fun j => by rw [bel_36.frozen (by show W.heap.size < _; omega),bel_30.frozen (by show W.heap.size < _; omega)]; exact xfV_27 j
    have by0 := bxf 0
    have by1 := bxf 1
    have by2 := bxf 2
    have by3 := bxf 3
    have by4 := bxf 4
    have by5 := bxf 5
    have q1 := own_29
    replace q1 := q1.below bel_36 (by omega)
    have q3 := OI.os own_35
    refine zbi ?_
    go_wp2_with fail
    try refine ⟨rfl,?_⟩
    go_meet
    obtain ⟨U_,hU_,d0,d1,d2,d3,d4,d5,df,dch,dsz⟩ := box6 bx0 bx1 bx2 bx3 bx4 bx5 bxf (.int .i64 a0) (.slice AA_32 x1.length cc_33) (.slice none 0 0) (.slice AA_38 x3.length cc_39) (.slice none 0 0) (.slice none 0 0)
    rw [← hU_]
    exact ⟨W.heap.size,AA_32,cc_33,AA_38,cc_39,_,_,_,_,rfl,by omega,by omega,d0,d1,d2,d3,d4,d5,df,sl_O.2 (q1.chg dch (fun b hb (e : b = _) => by have := hb.1; have := hb.2; omega)),tS_O.2 (q3.chg dch (fun b hb (e : b = _) => by have := hb.1; have := hb.2; omega)),Bw_34.trans (dch.toBelow (fun k (hk : k = _) => by omega) (by omega)),by omega,by omega,by omega,by omega,by omega,by omega⟩
 case rest =>
  obtain ⟨w0,rfl⟩ : ∃ u_ : World,u_ = wc := ⟨_,rfl⟩
  obtain ⟨g,A1',c1',A3',c3',l1,u1,l3,u3,rfl,hg1,hg2,d0,d1,d2,d3,d4,d5,df,o1,o3,BW,s1,s2,s3,s4_,s5_,sg⟩ := hcut
  have sW0 := BW.size
  replace r0 : w0.cell? ⟨w.heap.size + 1,0,none⟩ = some (.int .i64 0) := by rw [BW.cell (by show w.heap.size + 1 < _; omega)]; exact r0
  replace r1 : w0.cell? ⟨w.heap.size + 1,1,none⟩ = some (.slice none 0 0) := by rw [BW.cell (by show w.heap.size + 1 < _; omega)]; exact r1
  replace r2 : w0.cell? ⟨w.heap.size + 1,2,none⟩ = some (.slice none 0 0) := by rw [BW.cell (by show w.heap.size + 1 < _; omega)]; exact r2
  replace r3 : w0.cell? ⟨w.heap.size + 1,3,none⟩ = some (.slice none 0 0) := by rw [BW.cell (by show w.heap.size + 1 < _; omega)]; exact r3
  replace r4 : w0.cell? ⟨w.heap.size + 1,4,none⟩ = some (.slice none 0 0) := by rw [BW.cell (by show w.heap.size + 1 < _; omega)]; exact r4
  replace r5 : w0.cell? ⟨w.heap.size + 1,5,none⟩ = some (.slice none 0 0) := by rw [BW.cell (by show w.heap.size + 1 < _; omega)]; exact r5
  replace rf : ∀ j,w0.frozen? ⟨w.heap.size + 1,j,none⟩ = false := fun j => by rw [BW.frozen (by show w.heap.size + 1 < _; omega)]; exact rf j
  replace p2 : w0.cell? ⟨w.heap.size,2,none⟩ = some (.slice A2 n2 c2) := by rw [BW.cell (by show w.heap.size < _; omega)]; exact p2
  replace p4 : w0.cell? ⟨w.heap.size,4,none⟩ = some (.slice A4 n4 c4) := by rw [BW.cell (by show w.heap.size < _; omega)]; exact p4
  replace p5 : w0.cell? ⟨w.heap.size,5,none⟩ = some (.slice A5 n5 c5) := by rw [BW.cell (by show w.heap.size < _; omega)]; exact p5
  clear p0 p3 pp0 pp1 pp3 D1 hd0 k3 HW p1 k1
  go_wp2_with fail
  go_loopw [22] (fun i wr => ∃ (k : Nat) (v : Value),i = .int .i64 k ∧ k ≤ n2 ∧ OS tT 89 wr (Iv w0.heap.size wr.heap.size) v (x2.take k) ∧ Gr g 2 w0 wr v) (fun i _ => n2 - (intOf i).toNat)
  case atStart => exact ⟨0,_,rfl,by omega,OS.nil _ _ _ _,Gr.start d2⟩
  case round =>
   obtain ⟨k,v,rfl,hk,own,G⟩ := hrel
   have sr2 := G.chg.size
   have Bwr2 : Below W.heap.size W wr := BW.trans (G.chg.toBelow (fun b (hb : b = g) => by omega) (by omega))
   have q2 : wr.cell? ⟨w.heap.size,2,none⟩ = some (.slice A2 n2 c2) := by rw [G.chg.cell (by omega) (by omega)]; exact p2
   by_cases hlt : k < n2
   · obtain ⟨bb,o,A7_,n7_,c7_,x,rfl,hbb,X,e0,hT_,hra,h7⟩ := zf2 (k2.below Bwr2) z2 hlt
     have hpt := Lib.hid (M.take_at X.out)
     have hxl : (x2.take k).length ≤ 100000000 := by rw [List.length_take]; omega
     have hl := Lib.hid hra.len
     obtain ⟨V,hV,BV,sV,n0,nf⟩ := zeb wr (.slice A7_ n7_ c7_) 89
     have HV := Lib.hid hV
     clear hV
     have hvg : V.cell? ⟨g,2,none⟩ = some v := by rw [BV.cell (by show g < _; omega)]; exact G.cel
     have m0 := cell_regrown n0
     have mg := cell_regrown hvg
     obtain ⟨U,hU⟩ : ∃ U,U = (V.alloc (.cells #[] 156)).drew := ⟨_,rfl⟩
     have BU : Below V.heap.size V U := by rw [hU]; exact zac ((Below.refl _ _).alloc (Nat.le_refl _) _) 1
     have sU : U.heap.size = V.heap.size + 1 := by rw [hU]; simp
     have h0 : U.ownsRow V.heap.size 156 5 (.slice (some ⟨V.heap.size,0,none⟩) 0 0) 0 [] := by rw [hU]; exact World.ownsRow_made _ _ _ (Nat.le_refl _) (by simp [maxLen]) rfl
     have BwU : Below wr.heap.size wr U := zaa BV BU
     have rd := ((hra.more (show W.heap.size ≤ wr.heap.size by omega)).later BwU).reads
     have HU := Lib.hid hU
     clear hU
     go_wp2_with fail
     rw [← HV.out]
     (refine zcq [0,3] [1,4] 4 (.one 2 (.one 5 (.one 6 (.one 7 .rest)))) [8,9,10] (by kernel_rfl) (by kernel_rfl) ?_; simp only [zaj]; simp only [List.filterMap,List.getElem?_cons_succ,List.getElem?_cons_zero]; (repeat (go_big_quiet_step (fail))); refine wpQuiet_nil ?_; (repeat (go_big_quiet_step (fail))); refine wpQuiet_nil ?_)
     refine zao rfl ?_
     go_wp2_with fail
     rw [← HU.out]
     refine ⟨regrown_of_below BU,zao rfl ?_⟩
     go_wp2_with (at_builtin; refine zdz zig rfl _ _ rfl h0 (by first | rfl | (rw [sV]; rfl)) rd rfl (zmx _) (by unfold maxLen; omega) (by omega) (by omega) ?_; intro v1 w2 own1 gr1 bel1; rw [Nat.zero_add,List.nil_append,← hl.out] at own1; obtain ⟨A6,c6,e6,-⟩ := zb9 own1; subst e6)
     have s2_ := bel1.size
     have BU2 := BU.trans bel1
     have Bw2 : Below wr.heap.size wr w2 := zaa BV BU2
     refine ⟨regrown_of_below BU2,zao rfl ?_⟩
     go_wp2_with fail
     refine ⟨regrown_of_below BU2,zao rfl ?_⟩
     go_wp2_with fail
     refine ⟨regrown_of_below (zaa BU2 ((Below.refl _ _).alloc (Nat.le_refl _) _)),zbi ?_⟩
     have oT : OS tCl 156 w2 (Iv V.heap.size w2.heap.size) _ x := OS.of_flat (OX.of_own own1)
     have own2 := own.below Bw2 (Nat.le_refl _)
     have G2 := G.below Bw2 (by omega)
     go_wp2_with ((at_builtin; refine zca ziz #[.slice A6 x.length c6] rfl _ _ rfl own2 (sl_O.2 oT) (Iv.apart (by omega)) rfl rfl (by unfold maxLen; omega) (by omega) ?_; intro v3 w4 own4 ch4; obtain ⟨A7,c7,e7⟩ := own4.shape; obtain ⟨n7,hn7⟩ : ∃ n7,n7 = (x2.take k ++ [x]).length := ⟨_,rfl⟩; rw [← hn7] at e7; subst e7; have HN7 := Lib.hid hn7; clear hn7; have G4 := G2.row ch4 (by omega) (fun b hb => ⟨hb.1,by have := hb.1; omega⟩); have hc4 := G4.cel; have hf4 : w4.frozen? ⟨g,2,none⟩ = false := (by rw [G4.fro]; exact df 2)))
     go_roundw
     case rel =>
      have s4 := ch4.size
      refine ⟨k + 1,_,by go_num,by omega,?_,G4.set (df 2) _⟩
      rw [hpt.out]
      refine (own4.chg (Chg.set (F := fun b => b = g) w4 g 2 _ rfl) (fun b hb (e : b = g) => ?_)).wide (fun b hb => ?_)
      · rcases hb with hb | hb | hb
        · have := hb.1; omega
        · have := hb.1; omega
        · omega
      · have e9 : (w4.setCell ⟨g,2,none⟩ (.slice A7 n7 c7)).heap.size = w4.heap.size := by simp
        rcases hb with hb | hb | hb
        · exact ⟨hb.1,by have := hb.2; omega⟩
        · exact ⟨by have := hb.1; omega,by have := hb.2; omega⟩
        · exact ⟨by omega,by omega⟩
     case measure => simp [intOf]; omega
   · obtain rfl : k = n2 := by omega
     rw [List.take_of_length_le (by rw [L2.out]; exact Nat.le_refl _)] at own
     obtain ⟨wb,rfl⟩ : ∃ wx : World,wx = wr := ⟨_,rfl⟩
     obtain ⟨A2',c2',rfl⟩ := own.shape
     replace d0 := (G.oth 0 (by decide)).trans d0
     replace d1 := (G.oth 1 (by decide)).trans d1
     replace d2 := G.cel
     replace d3 := (G.oth 3 (by decide)).trans d3
     replace d4 := (G.oth 4 (by decide)).trans d4
     replace d5 := (G.oth 5 (by decide)).trans d5
     replace df : ∀ j,wb.frozen? ⟨g,j,none⟩ = false := fun j => (G.fro j).trans (df j)
     replace r0 : wb.cell? ⟨w.heap.size + 1,0,none⟩ = some (.int .i64 0) := (G.chg.cell (by omega) (by omega)).trans r0
     replace r1 : wb.cell? ⟨w.heap.size + 1,1,none⟩ = some (.slice none 0 0) := (G.chg.cell (by omega) (by omega)).trans r1
     replace r2 : wb.cell? ⟨w.heap.size + 1,2,none⟩ = some (.slice none 0 0) := (G.chg.cell (by omega) (by omega)).trans r2
     replace r3 : wb.cell? ⟨w.heap.size + 1,3,none⟩ = some (.slice none 0 0) := (G.chg.cell (by omega) (by omega)).trans r3
     replace r4 : wb.cell? ⟨w.heap.size + 1,4,none⟩ = some (.slice none 0 0) := (G.chg.cell (by omega) (by omega)).trans r4
     replace r5 : wb.cell? ⟨w.heap.size + 1,5,none⟩ = some (.slice none 0 0) := (G.chg.cell (by omega) (by omega)).trans r5
     replace rf : ∀ j,wb.frozen? ⟨w.heap.size + 1,j,none⟩ = false := fun j => (G.chg.frozen (by omega) (by omega)).trans (rf j)
     replace p4 : wb.cell? ⟨w.heap.size,4,none⟩ = some (.slice A4 n4 c4) := (G.chg.cell (by omega) (by omega)).trans p4
     replace p5 : wb.cell? ⟨w.heap.size,5,none⟩ = some (.slice A5 n5 c5) := (G.chg.cell (by omega) (by omega)).trans p5
     replace o3 : tS.O wb (Iv l3 u3) [.slice A3' x3.length c3'] x3 := tS_O.2 ((tS_O.1 o3).chg G.chg (fun b hb (e : b = g) => by have := hb.1; have := hb.2; omega))
     replace o1 : tSS.O wb (Iv l1 u1) [.slice A1' x1.length c1'] x1 := sl_O.2 ((sl_O.1 o1).chg G.chg (fun b hb (e : b = g) => by have := hb.1; have := hb.2; omega))
     have o2 : tTS.O wb (Iv w0.heap.size wb.heap.size) _ x2 := sl_O.2 own
     clear G own
     go_wp2_with fail
     go_loopw [40] (fun i wr => ∃ (k : Nat) (v : Value),i = .int .i64 k ∧ k ≤ n4 ∧ OS tP 107 wr (Iv wb.heap.size wr.heap.size) v (x4.take k) ∧ Gr g 4 wb wr v) (fun i _ => n4 - (intOf i).toNat)
     case atStart => exact ⟨0,_,rfl,by omega,OS.nil _ _ _ _,Gr.start d4⟩
     case round =>
      obtain ⟨k,v,rfl,hk,own,G⟩ := hrel
      have sr4 := G.chg.size
      have Bwr4 : Below W.heap.size W wr := Bwr2.trans (G.chg.toBelow (fun b (hb : b = g) => by omega) (by omega))
      have q4 : wr.cell? ⟨w.heap.size,4,none⟩ = some (.slice A4 n4 c4) := by rw [G.chg.cell (by omega) (by omega)]; exact p4
      by_cases hlt : k < n4
      · obtain ⟨bb,o,b0,D1_,m1_,d1_,D2_,m2_,d2_,D3_,m3_,d3_,y1,y2,y3,rfl,hbb,X,e0,e1,e2,e3,t1,t2,t3,hz⟩ := zf3 (k4.below Bwr4) z4 hlt
        have hpt := Lib.hid (M.take_at X.out)
        have hxl : (x4.take k).length ≤ 100000000 := by rw [List.length_take]; omega
        obtain ⟨V,hV,BV,sV,n0,n1_,n2_,n3_,nf⟩ := zdm wr (.int .i64 b0) (.slice D1_ m1_ d1_) (.slice D2_ m2_ d2_) (.slice D3_ m3_ d3_) 107
        have HV := Lib.hid hV
        clear hV
        have hvg : V.cell? ⟨g,4,none⟩ = some v := by rw [BV.cell (by show g < _; omega)]; exact G.cel
        have m0 := cell_regrown n0
        have m1 := cell_regrown n1_
        have m2 := cell_regrown n2_
        have m3 := cell_regrown n3_
        have mg := cell_regrown hvg
        have DV : Below wr.heap.size wr V.drew := zac BV 1
        have DD : Below V.heap.size V V.drew := zac (Below.refl _ _) 1
        have hdv : V.drew.heap.size = V.heap.size := rfl
        have t1_ := tSS.later (tSS.more (show W.heap.size ≤ wr.heap.size by omega) t1) DV
        have t2_ := tNS.later (tNS.more (show W.heap.size ≤ wr.heap.size by omega) t2) DV
        have t3_ := tS.later (tS.more (show W.heap.size ≤ wr.heap.size by omega) t3) DV
        go_wp2_with fail
        rw [← HV.out]
        (refine zcq [0] [1,2] 2 (.one 3 (.one 4 .rest)) [5,6,7] (by kernel_rfl) (by kernel_rfl) ?_; simp only [zaj]; simp only [List.filterMap,List.getElem?_cons_succ,List.getElem?_cons_zero]; (repeat (go_big_quiet_step (fail))); refine wpQuiet_nil ?_; (repeat (go_big_quiet_step (fail))); refine wpQuiet_nil ?_)
        refine zao rfl ?_
        go_wp2_with fail
        refine (zuu _ _ _ _ _ _ _ _ _ _ _ _ _ _ t1_ t2_ t3_ hz).mono ?_
        rintro e w2 ⟨H1,i1,j1,H2,i2,j2,H3,i3,j3,rfl,on,bel2⟩
        have s2_ := bel2.size
        have Bw2 := zaa DV bel2
        have own2 := own.below Bw2 (Nat.le_refl _)
        have G2 := G.below Bw2 (by omega)
        have BVw := zaa DD bel2
        go_wp2_with fail
        refine ⟨regrown_of_below BVw,zao rfl ?_⟩
        go_wp2_with fail
        refine ⟨regrown_of_below (zaa BVw ((Below.refl _ _).alloc (Nat.le_refl _) _)),zbi ?_⟩
        go_wp2_with ((at_builtin; refine zca ziy #[.int .i64 b0,.slice H1 i1 j1,.slice H2 i2 j2,.slice H3 i3 j3] rfl _ _ rfl own2 on (Iv.apart (by omega)) rfl rfl (by unfold maxLen; omega) (by omega) ?_; intro v3 w4 own4 ch4; obtain ⟨A7,c7,e7⟩ := own4.shape; obtain ⟨n7,hn7⟩ : ∃ n7,n7 = (x4.take k ++ [(b0,y1,y2,y3)]).length := ⟨_,rfl⟩; rw [← hn7] at e7; subst e7; have HN7 := Lib.hid hn7; clear hn7; have G4 := G2.row ch4 (by omega) (fun b hb => ⟨hb.1,by have := hb.1; omega⟩); have hc4 := G4.cel; have hf4 : w4.frozen? ⟨g,4,none⟩ = false := (by rw [G4.fro]; exact df 4)))
        go_roundw
        case rel =>
         have s4 := ch4.size
         refine ⟨k + 1,_,by go_num,by omega,?_,G4.set (df 4) _⟩
         rw [hpt.out]
         refine (own4.chg (Chg.set (F := fun b => b = g) w4 g 4 _ rfl) (fun b hb (e : b = g) => ?_)).wide (fun b hb => ?_)
         · rcases hb with hb | hb | hb
           · have := hb.1; omega
           · have := hb.1; omega
           · omega
         · have e9 : (w4.setCell ⟨g,4,none⟩ (.slice A7 n7 c7)).heap.size = w4.heap.size := by simp
           rcases hb with hb | hb | hb
           · exact ⟨hb.1,by have := hb.2; omega⟩
           · exact ⟨by have := hb.1; omega,by have := hb.2; omega⟩
           · exact ⟨by omega,by omega⟩
        case measure => simp [intOf]; omega
      · obtain rfl : k = n4 := by omega
        rw [List.take_of_length_le (by rw [L4.out]; exact Nat.le_refl _)] at own
        obtain ⟨wd,rfl⟩ : ∃ wx : World,wx = wr := ⟨_,rfl⟩
        obtain ⟨A4',c4',rfl⟩ := own.shape
        replace d0 := (G.oth 0 (by decide)).trans d0
        replace d1 := (G.oth 1 (by decide)).trans d1
        replace d2 := (G.oth 2 (by decide)).trans d2
        replace d3 := (G.oth 3 (by decide)).trans d3
        replace d4 := G.cel
        replace d5 := (G.oth 5 (by decide)).trans d5
        replace df : ∀ j,wd.frozen? ⟨g,j,none⟩ = false := fun j => (G.fro j).trans (df j)
        replace r0 : wd.cell? ⟨w.heap.size + 1,0,none⟩ = some (.int .i64 0) := (G.chg.cell (by omega) (by omega)).trans r0
        replace r1 : wd.cell? ⟨w.heap.size + 1,1,none⟩ = some (.slice none 0 0) := (G.chg.cell (by omega) (by omega)).trans r1
        replace r2 : wd.cell? ⟨w.heap.size + 1,2,none⟩ = some (.slice none 0 0) := (G.chg.cell (by omega) (by omega)).trans r2
        replace r3 : wd.cell? ⟨w.heap.size + 1,3,none⟩ = some (.slice none 0 0) := (G.chg.cell (by omega) (by omega)).trans r3
        replace r4 : wd.cell? ⟨w.heap.size + 1,4,none⟩ = some (.slice none 0 0) := (G.chg.cell (by omega) (by omega)).trans r4
        replace r5 : wd.cell? ⟨w.heap.size + 1,5,none⟩ = some (.slice none 0 0) := (G.chg.cell (by omega) (by omega)).trans r5
        replace rf : ∀ j,wd.frozen? ⟨w.heap.size + 1,j,none⟩ = false := fun j => (G.chg.frozen (by omega) (by omega)).trans (rf j)
        replace p5 : wd.cell? ⟨w.heap.size,5,none⟩ = some (.slice A5 n5 c5) := (G.chg.cell (by omega) (by omega)).trans p5
        replace o3 : tS.O wd (Iv l3 u3) [.slice A3' x3.length c3'] x3 := tS_O.2 ((tS_O.1 o3).chg G.chg (fun b hb (e : b = g) => by have := hb.1; have := hb.2; omega))
        replace o1 : tSS.O wd (Iv l1 u1) [.slice A1' x1.length c1'] x1 := sl_O.2 ((sl_O.1 o1).chg G.chg (fun b hb (e : b = g) => by have := hb.1; have := hb.2; omega))
        replace o2 : tTS.O wd (Iv w0.heap.size wb.heap.size) [.slice A2' x2.length c2'] x2 := sl_O.2 ((sl_O.1 o2).chg G.chg (fun b hb (e : b = g) => by have := hb.1; have := hb.2; omega))
        have o4 : tPS.O wd (Iv wb.heap.size wd.heap.size) _ x4 := sl_O.2 own
        clear G own
        go_wp2_with fail
        go_loopw [56] (fun i wr => ∃ (k : Nat) (v : Value),i = .int .i64 k ∧ k ≤ n5 ∧ OS tSt 78 wr (Iv wd.heap.size wr.heap.size) v (x5.take k) ∧ Gr g 5 wd wr v) (fun i _ => n5 - (intOf i).toNat)
        case atStart => exact ⟨0,_,rfl,by omega,OS.nil _ _ _ _,Gr.start d5⟩
        case round =>
         obtain ⟨k,v,rfl,hk,own,G⟩ := hrel
         have sr5 := G.chg.size
         have Bwr5 : Below W.heap.size W wr := Bwr4.trans (G.chg.toBelow (fun b (hb : b = g) => by omega) (by omega))
         have q5 : wr.cell? ⟨w.heap.size,5,none⟩ = some (.slice A5 n5 c5) := by rw [G.chg.cell (by omega) (by omega)]; exact p5
         by_cases hlt : k < n5
         · obtain ⟨bb,o,s,l,A7_,n7_,c7_,us,rfl,hbb,X,e0,e1,e2,hs,hra,h7⟩ := zhu (k5.below Bwr5) z5 hlt
           have hpt := Lib.hid (M.take_at X.out)
           have hxl : (x5.take k).length ≤ 100000000 := by rw [List.length_take]; omega
           have hl := Lib.hid hra.len
           obtain ⟨V,hV,BV,sV,n0,n1_,n2_,nf⟩ := zji wr (.string s) (.int .i64 l) (.slice A7_ n7_ c7_) 78
           have HV := Lib.hid hV
           clear hV
           obtain ⟨U,hU⟩ : ∃ U,U = V.alloc (.cells #[] 130) := ⟨_,rfl⟩
           have BU : Below V.heap.size V U := by rw [hU]; exact (Below.refl _ _).alloc (Nat.le_refl _) _
           have sU : U.heap.size = V.heap.size + 1 := by rw [hU]; simp
           have h0 : U.ownsRow V.heap.size 130 2 (.slice (some ⟨V.heap.size,0,none⟩) 0 0) 0 [] := by rw [hU]; exact World.ownsRow_made _ _ _ (Nat.le_refl _) (by simp [maxLen]) rfl
           have BwU : Below wr.heap.size wr U := zaa BV BU
           have rd := ((hra.more (show W.heap.size ≤ wr.heap.size by omega)).later BwU).reads
           have HU := Lib.hid hU
           clear hU
           go_wp2_with (first | (at_builtin; rw [← HV.out,← HU.out]; refine zdz zik rfl _ _ rfl h0 (by first | rfl | (rw [sV]; rfl)) rd rfl (zmy _) (by unfold maxLen; omega) (by omega) (by omega) ?_; intro v1 w2 own1 gr1 bel1; rw [Nat.zero_add,List.nil_append,← hl.out] at own1; obtain ⟨A6,c6,e6,-⟩ := zb9 own1; subst e6; have s2_ := bel1.size; have Bv := BU.trans bel1; have N0 := (Bv.cell (p := ⟨wr.heap.size,0,none⟩) (by show wr.heap.size < _; omega)).trans n0; have N1 := (Bv.cell (p := ⟨wr.heap.size,1,none⟩) (by show wr.heap.size < _; omega)).trans n1_; have N2 := (Bv.cell (p := ⟨wr.heap.size,2,none⟩) (by show wr.heap.size < _; omega)).trans n2_; have NF := (Bv.frozen (p := ⟨wr.heap.size,2,none⟩) (by show wr.heap.size < _; omega)).trans (nf 2); have hvw2 := (G.below (zaa BV Bv) (by omega)).cel; have chS := Chg.set (F := fun b => b = wr.heap.size) w2 wr.heap.size 2 (.slice A6 us.length c6) rfl; obtain ⟨w3,hw3⟩ : ∃ w3,w3 = w2.setCell ⟨wr.heap.size,2,none⟩ (.slice A6 us.length c6) := ⟨_,rfl⟩; rw [← hw3] at chS; have s3_ : w3.heap.size = w2.heap.size := (by rw [hw3]; simp); have Bw3 : Below wr.heap.size wr w3 := (zaa BV Bv).trans (chS.toBelow (fun b (hb : b = _) => by omega) (by omega)); have own2 := own.below Bw3 (Nat.le_refl _); have G2 := G.below Bw3 (by omega); have oT : OS tSd 130 w2 (Iv V.heap.size w2.heap.size) _ us := OS.of_flat (OX.of_own own1); have on2 : tSt.O w3 (Iv V.heap.size w2.heap.size) [.string s,.int .i64 l,.slice A6 us.length c6] (s,l,us) := st_O.2 ⟨A6,us.length,c6,rfl,hs,sl_O.2 (oT.chg chS (fun b hb (e : b = _) => by have := hb.1; omega))⟩; have HW3 := Lib.hid hw3; clear hw3) | (at_builtin; rw [← HW3.out]; refine zca zio #[.string s,.int .i64 l,.slice A6 us.length c6] rfl _ _ rfl own2 on2 (Iv.apart (by omega)) rfl (by rw [s3_]; rfl) (by unfold maxLen; omega) (by omega) ?_; intro v3 w4 own4 ch4; obtain ⟨A7,c7,e7⟩ := own4.shape; obtain ⟨n7,hn7⟩ : ∃ n7,n7 = (x5.take k ++ [(s,l,us)]).length := ⟨_,rfl⟩; rw [← hn7] at e7; subst e7; have HN7 := Lib.hid hn7; clear hn7; have G4 := G2.row ch4 (by omega) (fun b hb => ⟨hb.1,by have := hb.1; omega⟩); have hc4 := G4.cel; have hf4 : w4.frozen? ⟨g,5,none⟩ = false := (by rw [G4.fro]; exact df 5)))
           go_roundw
           case rel =>
            have s4 := ch4.size
            refine ⟨k + 1,_,by go_num,by omega,?_,G4.set (df 5) _⟩
            rw [hpt.out]
            refine (own4.chg (Chg.set (F := fun b => b = g) w4 g 5 _ rfl) (fun b hb (e : b = g) => ?_)).wide (fun b hb => ?_)
            · rcases hb with hb | hb | hb
              · have := hb.1; omega
              · have := hb.1; omega
              · omega
            · have e9 : (w4.setCell ⟨g,5,none⟩ (.slice A7 n7 c7)).heap.size = w4.heap.size := by simp
              rcases hb with hb | hb | hb
              · exact ⟨hb.1,by have := hb.2; omega⟩
              · exact ⟨by have := hb.1; omega,by have := hb.2; omega⟩
              · exact ⟨by omega,by omega⟩
           case measure => simp [intOf]; omega
         · obtain rfl : k = n5 := by omega
           rw [List.take_of_length_le (by rw [L5.out]; exact Nat.le_refl _)] at own
           obtain ⟨we,rfl⟩ : ∃ wx : World,wx = wr := ⟨_,rfl⟩
           obtain ⟨A5',c5',rfl⟩ := own.shape
           replace d0 := (G.oth 0 (by decide)).trans d0
           replace d1 := (G.oth 1 (by decide)).trans d1
           replace d2 := (G.oth 2 (by decide)).trans d2
           replace d3 := (G.oth 3 (by decide)).trans d3
           replace d4 := (G.oth 4 (by decide)).trans d4
           replace d5 := G.cel
           replace df : ∀ j,we.frozen? ⟨g,j,none⟩ = false := fun j => (G.fro j).trans (df j)
           replace r0 : we.cell? ⟨w.heap.size + 1,0,none⟩ = some (.int .i64 0) := (G.chg.cell (by omega) (by omega)).trans r0
           replace r1 : we.cell? ⟨w.heap.size + 1,1,none⟩ = some (.slice none 0 0) := (G.chg.cell (by omega) (by omega)).trans r1
           replace r2 : we.cell? ⟨w.heap.size + 1,2,none⟩ = some (.slice none 0 0) := (G.chg.cell (by omega) (by omega)).trans r2
           replace r3 : we.cell? ⟨w.heap.size + 1,3,none⟩ = some (.slice none 0 0) := (G.chg.cell (by omega) (by omega)).trans r3
           replace r4 : we.cell? ⟨w.heap.size + 1,4,none⟩ = some (.slice none 0 0) := (G.chg.cell (by omega) (by omega)).trans r4
           replace r5 : we.cell? ⟨w.heap.size + 1,5,none⟩ = some (.slice none 0 0) := (G.chg.cell (by omega) (by omega)).trans r5
           replace rf : ∀ j,we.frozen? ⟨w.heap.size + 1,j,none⟩ = false := fun j => (G.chg.frozen (by omega) (by omega)).trans (rf j)
           replace o3 : tS.O we (Iv l3 u3) [.slice A3' x3.length c3'] x3 := tS_O.2 ((tS_O.1 o3).chg G.chg (fun b hb (e : b = g) => by have := hb.1; have := hb.2; omega))
           replace o1 : tSS.O we (Iv l1 u1) [.slice A1' x1.length c1'] x1 := sl_O.2 ((sl_O.1 o1).chg G.chg (fun b hb (e : b = g) => by have := hb.1; have := hb.2; omega))
           replace o2 : tTS.O we (Iv w0.heap.size wb.heap.size) [.slice A2' x2.length c2'] x2 := sl_O.2 ((sl_O.1 o2).chg G.chg (fun b hb (e : b = g) => by have := hb.1; have := hb.2; omega))
           replace o4 : tPS.O we (Iv wb.heap.size wd.heap.size) [.slice A4' x4.length c4'] x4 := sl_O.2 ((sl_O.1 o4).chg G.chg (fun b hb (e : b = g) => by have := hb.1; have := hb.2; omega))
           have o5 : tM.O we (Iv wd.heap.size we.heap.size) _ x5 := sl_O.2 own
           clear G own
           have rf0 := rf 0
           have rf1 := rf 1
           have rf2 := rf 2
           have rf3 := rf 3
           have rf4 := rf 4
           have rf5 := rf 5
           obtain ⟨U_,hU_,y0,y1,y2,y3,y4,y5,yf,ych,ysz⟩ := box6 r0 r1 r2 r3 r4 r5 rf (.int .i64 a0) (.slice A1' x1.length c1') (.slice A2' x2.length c2') (.slice A3' x3.length c3') (.slice A4' x4.length c4') (.slice A5' x5.length c5')
           have HU := Lib.hid hU_
           clear hU_
           go_wp2
           rw [← HU.out]
           have yf0 := yf 0
           have yf1 := yf 1
           have yf2 := yf 2
           have yf3 := yf 3
           have yf4 := yf 4
           have yf5 := yf 5
           refine bodyPost_ret (v := .agg #[.int .i64 a0,.slice A1' x1.length c1',.slice A2' x2.length c2',.slice A3' x3.length c3',.slice A4' x4.length c4',.slice A5' x5.length c5']) (by simp [results,Tryz.results144,go_sem,y0,y1,y2,y3,y4,y5,yf0,yf1,yf2,yf3,yf4,yf5]) rfl ?_
           refine ⟨A1',x1.length,c1',A2',x2.length,c2',A3',x3.length,c3',A4',x4.length,c4',A5',x5.length,c5',rfl,tZ_O.2 ⟨_,_,_,_,_,_,_,_,_,_,_,_,_,_,_,Iv l1 u1,Iv w0.heap.size wb.heap.size,Iv l3 u3,Iv wb.heap.size wd.heap.size,Iv wd.heap.size we.heap.size,rfl,tSS.ochg o1 ych (fun b hb (e : b = _) => by have := hb.1; omega),tTS.ochg o2 ych (fun b hb (e : b = _) => by have := hb.1; omega),tS.ochg o3 ych (fun b hb (e : b = _) => by have := hb.1; omega),tPS.ochg o4 ych (fun b hb (e : b = _) => by have := hb.1; omega),tM.ochg o5 ych (fun b hb (e : b = _) => by have := hb.1; omega),Iv.mono (by omega) (by omega),Iv.mono (by omega) (by omega),Iv.mono (by omega) (by omega),Iv.mono (by omega) (by omega),Iv.mono (by omega) (by omega),fun b hb hb2 => by have h_1 := hb.1; have h_2 := hb.2; have h_3 := hb2.1; have h_4 := hb2.2; omega,fun b hb hb2 => by have h_1 := hb.1; have h_2 := hb.2; have h_3 := hb2.1; have h_4 := hb2.2; omega,fun b hb hb2 => by have h_1 := hb.1; have h_2 := hb.2; have h_3 := hb2.1; have h_4 := hb2.2; omega,fun b hb hb2 => by have h_1 := hb.1; have h_2 := hb.2; have h_3 := hb2.1; have h_4 := hb2.2; omega,fun b hb hb2 => by have h_1 := hb.1; have h_2 := hb.2; have h_3 := hb2.1; have h_4 := hb2.2; omega,fun b hb hb2 => by have h_1 := hb.1; have h_2 := hb.2; have h_3 := hb2.1; have h_4 := hb2.2; omega,fun b hb hb2 => by have h_1 := hb.1; have h_2 := hb.2; have h_3 := hb2.1; have h_4 := hb2.2; omega,fun b hb hb2 => by have h_1 := hb.1; have h_2 := hb.2; have h_3 := hb2.1; have h_4 := hb2.2; omega,fun b hb hb2 => by have h_1 := hb.1; have h_2 := hb.2; have h_3 := hb2.1; have h_4 := hb2.2; omega,fun b hb hb2 => by have h_1 := hb.1; have h_2 := hb.2; have h_3 := hb2.1; have h_4 := hb2.2; omega⟩,?_⟩
           exact (zaa B0 Bwr5).trans (ych.toBelow (fun b (hb : b = _) => by omega) (by omega))
end
section
open Go.RowKit Go.Sort
theorem zux (vb : Nat) (a0 : Int) (A1 : Option Addr) (n1 c1 : Nat) (A2 : Option Addr) (n2 c2 : Nat) (A3 : Option Addr) (n3 c3 : Nat) (A4 : Option Addr) (n4 c4 : Nat) (A5 : Option Addr) (n5 c5 : Nat) (x1 : List (List Int)) (x2 : List (List zag)) (x3 : List Int) (x4 : List zad) (x5 : List zae) (w : World) (e0 : w.cell? ⟨vb,0,none⟩ = some (.int .i64 a0)) (e1 : w.cell? ⟨vb,1,none⟩ = some (.slice A1 n1 c1)) (e2 : w.cell? ⟨vb,2,none⟩ = some (.slice A2 n2 c2)) (e3 : w.cell? ⟨vb,3,none⟩ = some (.slice A3 n3 c3)) (e4 : w.cell? ⟨vb,4,none⟩ = some (.slice A4 n4 c4)) (e5 : w.cell? ⟨vb,5,none⟩ = some (.slice A5 n5 c5)) (h1 : tSS.R w w.heap.size [.slice A1 n1 c1] x1) (h2 : tTS.R w w.heap.size [.slice A2 n2 c2] x2) (h3 : tS.R w w.heap.size [.slice A3 n3 c3] x3) (h4 : tPS.R w w.heap.size [.slice A4 n4 c4] x4) (h5 : tM.R w w.heap.size [.slice A5 n5 c5] x5) (hn : hZ.sz ((a0,x1,x2,x3,x4,x5) : Sess) ≤ 100000000) :
 Calls Tryz.prog 142 #[.pointer (some ⟨vb,0,none⟩)] w fun e w' => ∃ A1' n1' c1' A2' n2' c2' A3' n3' c3' A4' n4' c4' A5' n5' c5',e = .returned (.agg #[.int .i64 a0,.slice A1' n1' c1',.slice A2' n2' c2',.slice A3' n3' c3',.slice A4' n4' c4',.slice A5' n5' c5']) ∧ tZ.O w' (Iv w.heap.size w'.heap.size) [.int .i64 a0,.slice A1' n1' c1',.slice A2' n2' c2',.slice A3' n3' c3',.slice A4' n4' c4',.slice A5' n5' c5'] (a0,x1,x2,x3,x4,x5) ∧ Below w.heap.size w w' := by
 have lv0 : vb < w.heap.size := World.block_lt_of_cell? w _ e0
 obtain ⟨W,hW,B0,sW,r0,r1,r2,r3,r4,r5,rf⟩ := zbw w (.int .i64 0) (.slice none 0 0) (.slice none 0 0) (.slice none 0 0) (.slice none 0 0) (.slice none 0 0) 40
 have lW : w.heap.size < W.heap.size := by omega
 have lv : vb < W.heap.size := by omega
 clear sW
 have p0 : W.cell? ⟨vb,0,none⟩ = some (.int .i64 a0) := by rw [B0.cell (by show vb < _; omega)]; exact e0
 have p1 : W.cell? ⟨vb,1,none⟩ = some (.slice A1 n1 c1) := by rw [B0.cell (by show vb < _; omega)]; exact e1
 have p2 : W.cell? ⟨vb,2,none⟩ = some (.slice A2 n2 c2) := by rw [B0.cell (by show vb < _; omega)]; exact e2
 have p3 : W.cell? ⟨vb,3,none⟩ = some (.slice A3 n3 c3) := by rw [B0.cell (by show vb < _; omega)]; exact e3
 have p4 : W.cell? ⟨vb,4,none⟩ = some (.slice A4 n4 c4) := by rw [B0.cell (by show vb < _; omega)]; exact e4
 have p5 : W.cell? ⟨vb,5,none⟩ = some (.slice A5 n5 c5) := by rw [B0.cell (by show vb < _; omega)]; exact e5
 clear e0 e1 e2 e3 e4 e5
 have HW := Lib.hid hW
 clear hW
 have k1 := tSS.later h1 B0
 have k2 := sl_R.1 (tTS.later h2 B0)
 have k3 := tS.later h3 B0
 have k4 := sl_R.1 (tPS.later h4 B0)
 have k5 := sl_R.1 (tM.later h5 B0)
 have L1 := Lib.hid (sl_R.1 k1).cap.1
 have L2 := Lib.hid k2.cap.1
 have L3 := Lib.hid (zc0 k3)
 have L4 := Lib.hid k4.cap.1
 have L5 := Lib.hid k5.cap.1
 rw [zc7] at hn
 have z1 : hSS.sz x1 ≤ 100000000 := by omega
 have z2 : hTS.sz x2 ≤ 100000000 := by omega
 have z3 : x3.length ≤ 100000000 := by rw [zbl] at hn; omega
 have z4 : hPS.sz x4 ≤ 100000000 := by omega
 have z5 : hM.sz x5 ≤ 100000000 := by omega
 have hb1 : Hid (∀ x ∈ x1,x.length ≤ 1000000000) := Lib.hid (fun x hx => by
  obtain ⟨i,hi⟩ := List.getElem?_of_mem hx
  have := hS.szL_at hi
  have e : x1.length + hS.szL x1 = hSS.sz x1 := rfl
  rw [zbl] at this
  omega)
 have bn1 : n1 ≤ 100000000 := by have e : x1.length + hS.szL x1 = hSS.sz x1 := rfl; have := L1.out; omega
 have bn2 : n2 ≤ 100000000 := by have e : x2.length + hT.szL x2 = hTS.sz x2 := rfl; have := L2.out; omega
 have bn3 : n3 ≤ 100000000 := by have := L3.out; omega
 have bn4 : n4 ≤ 100000000 := by have e : x4.length + hP.szL x4 = hPS.sz x4 := rfl; have := L4.out; omega
 have bn5 : n5 ≤ 100000000 := by have e : x5.length + hSt.szL x5 = hM.sz x5 := rfl; have := L5.out; omega
 have pp0 := cell_regrown p0
 have pp1 := cell_regrown p1
 have pp3 := cell_regrown p3
 have D1 : Below W.heap.size W W.drew := zac (Below.refl _ _) 1
 have hd0 : W.drew.heap.size = W.heap.size := rfl
 clear h1 h2 h3 h4 h5 hn
 go_enter Tryz.func142,Tryz.ntmps142
 go_wp2_with fail
 rw [← HW.out]
 go_cut [3] (fun q3 wx => ∃ (g : Nat) (A3' : Option Addr) (c3' l3 u3 : Nat),q3 = .pointer (some ⟨g,0,none⟩) ∧ W.heap.size ≤ g ∧ g < wx.heap.size ∧ wx.cell? ⟨g,0,none⟩ = some (.int .i64 a0) ∧ wx.cell? ⟨g,1,none⟩ = some (.slice none 0 0) ∧ wx.cell? ⟨g,2,none⟩ = some (.slice none 0 0) ∧ wx.cell? ⟨g,3,none⟩ = some (.slice A3' x3.length c3') ∧ wx.cell? ⟨g,4,none⟩ = some (.slice none 0 0) ∧ wx.cell? ⟨g,5,none⟩ = some (.slice none 0 0) ∧ (∀ j,wx.frozen? ⟨g,j,none⟩ = false) ∧ tS.O wx (Iv l3 u3) [.slice A3' x3.length c3'] x3 ∧ Below W.heap.size W wx ∧ W.heap.size ≤ l3 ∧ l3 ≤ u3 ∧ u3 ≤ wx.heap.size ∧ (g < l3 ∨ u3 ≤ g))
 case first =>
  clear p2 p4 p5 r0 r1 r2 r3 r4 r5 rf k2 k4 k5
  go_wp2_with fail
  (refine zcq [0,1,2,4,5,6] [3,7] 3 (.two 8 (.two 9 (.one 10 .rest) 10 (.one 9 .rest)) 10 (.one 8 (.one 9 .rest))) [11] (by kernel_rfl) (by kernel_rfl) ?_; simp only [zaj]; simp only [List.filterMap,List.getElem?_cons_succ,List.getElem?_cons_zero]; (repeat (go_big_quiet_step (fail))); refine wpQuiet_nil ?_; (repeat (go_big_quiet_step (fail))); refine wpQuiet_nil ?_)
  refine zc9 rfl rfl ?_ ?_
  · go_wp2_with fail
    refine (zfb _ _ _ _ _ (tS_R.1 (tS.later k3 D1)).ri (by omega)).mono ?_
    rintro e w_1 ⟨V_4,rfl,own_2,bel_3⟩
    obtain ⟨AA_5,cc_6,rfl,-⟩ := own_2.shape
    have Bw_1 := zaa D1 bel_3
    have sw_1 := bel_3.size
    go_wp2_with fail
    refine ⟨regrown_of_below Bw_1,zc9 rfl rfl ?_ ?_⟩
    · go_wp2_with fail
      refine ⟨regrown_of_below Bw_1,zao rfl ?_⟩
      obtain ⟨U_7,hU_7,Bx_8,sU_7,x0U_7,x1U_7,x2U_7,x3U_7,x4U_7,x5U_7,xfU_7⟩ := zbw w_1 (.int .i64 0) (.slice none 0 0) (.slice none 0 0) (.slice none 0 0) (.slice none 0 0) (.slice none 0 0) 40
      have BU_7 := zaa Bw_1 Bx_8
      go_wp2_with fail
      rw [← hU_7]
      clear hU_7
      refine ⟨regrown_of_below BU_7,?_⟩
      have bx0 := x0U_7
      have bx1 := x1U_7
      have bx2 := x2U_7
      have bx3 := x3U_7
      have bx4 := x4U_7
      have bx5 := x5U_7
      have bxf := xfU_7
      have by0 := bxf 0
      have by1 := bxf 1
      have by2 := bxf 2
      have by3 := bxf 3
      have by4 := bxf 4
      have by5 := bxf 5
      have q3 := OI.os own_2
      replace q3 := q3.below Bx_8 (by omega)
      refine zbi ?_
      go_wp2_with fail
      try refine ⟨rfl,?_⟩
      go_meet
      obtain ⟨U_,hU_,d0,d1,d2,d3,d4,d5,df,dch,dsz⟩ := box6 bx0 bx1 bx2 bx3 bx4 bx5 bxf (.int .i64 a0) (.slice none 0 0) (.slice none 0 0) (.slice AA_5 x3.length cc_6) (.slice none 0 0) (.slice none 0 0)
      rw [← hU_]
      exact ⟨w_1.heap.size,AA_5,cc_6,_,_,rfl,by omega,by omega,d0,d1,d2,d3,d4,d5,df,tS_O.2 (q3.chg dch (fun b hb (e : b = _) => by have := hb.1; have := hb.2; omega)),BU_7.trans (dch.toBelow (fun k (hk : k = _) => by omega) (by omega)),by omega,by omega,by omega,by omega⟩
    · obtain ⟨U_9,hU_9,Bx_10,sU_9,x0U_9,x1U_9,x2U_9,x3U_9,x4U_9,x5U_9,xfU_9⟩ := zbw w_1 (.int .i64 0) (.slice none 0 0) (.slice none 0 0) (.slice none 0 0) (.slice none 0 0) (.slice none 0 0) 40
      have BU_9 := zaa Bw_1 Bx_10
      go_wp2_with fail
      rw [← hU_9]
      clear hU_9
      refine ⟨regrown_of_below BU_9,zao rfl ?_⟩
      go_wp2_with fail
      refine ⟨regrown_of_below BU_9,?_⟩
      have bx0 := x0U_9
      have bx1 := x1U_9
      have bx2 := x2U_9
      have bx3 := x3U_9
      have bx4 := x4U_9
      have bx5 := x5U_9
      have bxf := xfU_9
      have by0 := bxf 0
      have by1 := bxf 1
      have by2 := bxf 2
      have by3 := bxf 3
      have by4 := bxf 4
      have by5 := bxf 5
      have q3 := OI.os own_2
      replace q3 := q3.below Bx_10 (by omega)
      refine zbi ?_
      go_wp2_with fail
      try refine ⟨rfl,?_⟩
      go_meet
      obtain ⟨U_,hU_,d0,d1,d2,d3,d4,d5,df,dch,dsz⟩ := box6 bx0 bx1 bx2 bx3 bx4 bx5 bxf (.int .i64 a0) (.slice none 0 0) (.slice none 0 0) (.slice AA_5 x3.length cc_6) (.slice none 0 0) (.slice none 0 0)
      rw [← hU_]
      exact ⟨w_1.heap.size,AA_5,cc_6,_,_,rfl,by omega,by omega,d0,d1,d2,d3,d4,d5,df,tS_O.2 (q3.chg dch (fun b hb (e : b = _) => by have := hb.1; have := hb.2; omega)),BU_9.trans (dch.toBelow (fun k (hk : k = _) => by omega) (by omega)),by omega,by omega,by omega,by omega⟩
  · obtain ⟨U_11,hU_11,Bx_12,sU_11,x0U_11,x1U_11,x2U_11,x3U_11,x4U_11,x5U_11,xfU_11⟩ := zbw W (.int .i64 0) (.slice none 0 0) (.slice none 0 0) (.slice none 0 0) (.slice none 0 0) (.slice none 0 0) 40
    obtain ⟨V_13,hV_13⟩ : ∃ V,V = U_11.drew := ⟨_,rfl⟩
    have BV_13 : Below W.heap.size W V_13 := by rw [hV_13]; exact zac Bx_12 1
    have sV_13 : V_13.heap.size = W.heap.size + 1 := by rw [hV_13]; exact sU_11
    have x0V_13 : V_13.cell? ⟨W.heap.size,0,none⟩ = some (.int .i64 0) := by rw [hV_13]; exact x0U_11
    have x1V_13 : V_13.cell? ⟨W.heap.size,1,none⟩ = some (.slice none 0 0) := by rw [hV_13]; exact x1U_11
    have x2V_13 : V_13.cell? ⟨W.heap.size,2,none⟩ = some (.slice none 0 0) := by rw [hV_13]; exact x2U_11
    have x3V_13 : V_13.cell? ⟨W.heap.size,3,none⟩ = some (.slice none 0 0) := by rw [hV_13]; exact x3U_11
    have x4V_13 : V_13.cell? ⟨W.heap.size,4,none⟩ = some (.slice none 0 0) := by rw [hV_13]; exact x4U_11
    have x5V_13 : V_13.cell? ⟨W.heap.size,5,none⟩ = some (.slice none 0 0) := by rw [hV_13]; exact x5U_11
    have xfV_13 : ∀ j,V_13.frozen? ⟨W.heap.size,j,none⟩ = false := by rw [hV_13]; exact xfU_11
    rw [hU_11] at hV_13
    clear x0U_11 x1U_11 x2U_11 x3U_11 x4U_11 x5U_11 xfU_11
    go_wp2_with fail
    rw [← hV_13]
    clear hV_13 hU_11 Bx_12 sU_11
    refine ⟨regrown_of_below BV_13,zao rfl ?_⟩
    go_wp2_with fail
    refine (zfb _ _ _ _ _ (tS_R.1 (tS.later k3 BV_13)).ri (by omega)).mono ?_
    rintro e w_14 ⟨V_17,rfl,own_15,bel_16⟩
    obtain ⟨AA_18,cc_19,rfl,-⟩ := own_15.shape
    have Bw_14 := zaa BV_13 bel_16
    have sw_14 := bel_16.size
    go_wp2_with fail
    refine ⟨regrown_of_below Bw_14,zao rfl ?_⟩
    go_wp2_with fail
    refine ⟨regrown_of_below Bw_14,?_⟩
    have bx0 : w_14.cell? ⟨W.heap.size,0,none⟩ = some (.int .i64 0) := by rw [bel_16.cell (by show W.heap.size < _; omega)]; exact x0V_13
    have bx1 : w_14.cell? ⟨W.heap.size,1,none⟩ = some (.slice none 0 0) := by rw [bel_16.cell (by show W.heap.size < _; omega)]; exact x1V_13
    have bx2 : w_14.cell? ⟨W.heap.size,2,none⟩ = some (.slice none 0 0) := by rw [bel_16.cell (by show W.heap.size < _; omega)]; exact x2V_13
    have bx3 : w_14.cell? ⟨W.heap.size,3,none⟩ = some (.slice none 0 0) := by rw [bel_16.cell (by show W.heap.size < _; omega)]; exact x3V_13
    have bx4 : w_14.cell? ⟨W.heap.size,4,none⟩ = some (.slice none 0 0) := by rw [bel_16.cell (by show W.heap.size < _; omega)]; exact x4V_13
    have bx5 : w_14.cell? ⟨W.heap.size,5,none⟩ = some (.slice none 0 0) := by rw [bel_16.cell (by show W.heap.size < _; omega)]; exact x5V_13
    have bxf : ∀ j,w_14.frozen? ⟨W.heap.size,j,none⟩ = false := fun j => by rw [bel_16.frozen (by show W.heap.size < _; omega)]; exact xfV_13 j
    have by0 := bxf 0
    have by1 := bxf 1
    have by2 := bxf 2
    have by3 := bxf 3
    have by4 := bxf 4
    have by5 := bxf 5
    have q3 := OI.os own_15
    refine zbi ?_
    go_wp2_with fail
    try refine ⟨rfl,?_⟩
    go_meet
    obtain ⟨U_,hU_,d0,d1,d2,d3,d4,d5,df,dch,dsz⟩ := box6 bx0 bx1 bx2 bx3 bx4 bx5 bxf (.int .i64 a0) (.slice none 0 0) (.slice none 0 0) (.slice AA_18 x3.length cc_19) (.slice none 0 0) (.slice none 0 0)
    rw [← hU_]
    exact ⟨W.heap.size,AA_18,cc_19,_,_,rfl,by omega,by omega,d0,d1,d2,d3,d4,d5,df,tS_O.2 (q3.chg dch (fun b hb (e : b = _) => by have := hb.1; have := hb.2; omega)),Bw_14.trans (dch.toBelow (fun k (hk : k = _) => by omega) (by omega)),by omega,by omega,by omega,by omega⟩
 case rest =>
  obtain ⟨w0,rfl⟩ : ∃ u_ : World,u_ = wc := ⟨_,rfl⟩
  obtain ⟨g,A3',c3',l3,u3,rfl,hg1,hg2,d0,d1,d2,d3,d4,d5,df,o3,BW,s3,s4_,s5_,sg⟩ := hcut
  have sW0 := BW.size
  replace r0 : w0.cell? ⟨w.heap.size,0,none⟩ = some (.int .i64 0) := by rw [BW.cell (by show w.heap.size < _; omega)]; exact r0
  replace r1 : w0.cell? ⟨w.heap.size,1,none⟩ = some (.slice none 0 0) := by rw [BW.cell (by show w.heap.size < _; omega)]; exact r1
  replace r2 : w0.cell? ⟨w.heap.size,2,none⟩ = some (.slice none 0 0) := by rw [BW.cell (by show w.heap.size < _; omega)]; exact r2
  replace r3 : w0.cell? ⟨w.heap.size,3,none⟩ = some (.slice none 0 0) := by rw [BW.cell (by show w.heap.size < _; omega)]; exact r3
  replace r4 : w0.cell? ⟨w.heap.size,4,none⟩ = some (.slice none 0 0) := by rw [BW.cell (by show w.heap.size < _; omega)]; exact r4
  replace r5 : w0.cell? ⟨w.heap.size,5,none⟩ = some (.slice none 0 0) := by rw [BW.cell (by show w.heap.size < _; omega)]; exact r5
  replace rf : ∀ j,w0.frozen? ⟨w.heap.size,j,none⟩ = false := fun j => by rw [BW.frozen (by show w.heap.size < _; omega)]; exact rf j
  replace p1 : w0.cell? ⟨vb,1,none⟩ = some (.slice A1 n1 c1) := by rw [BW.cell (by show vb < _; omega)]; exact p1
  replace p2 : w0.cell? ⟨vb,2,none⟩ = some (.slice A2 n2 c2) := by rw [BW.cell (by show vb < _; omega)]; exact p2
  replace p4 : w0.cell? ⟨vb,4,none⟩ = some (.slice A4 n4 c4) := by rw [BW.cell (by show vb < _; omega)]; exact p4
  replace p5 : w0.cell? ⟨vb,5,none⟩ = some (.slice A5 n5 c5) := by rw [BW.cell (by show vb < _; omega)]; exact p5
  clear p0 p3 pp0 pp1 pp3 D1 hd0 k3 HW
  replace k1 := sl_R.1 k1
  go_wp2_with fail
  go_loopw [4] (fun i wr => ∃ (k : Nat) (v : Value),i = .int .i64 k ∧ k ≤ n1 ∧ OS tS 24 wr (Iv w0.heap.size wr.heap.size) v (x1.take k) ∧ Gr g 1 w0 wr v) (fun i _ => n1 - (intOf i).toNat)
  case atStart => exact ⟨0,_,rfl,by omega,OS.nil _ _ _ _,Gr.start d1⟩
  case round =>
   obtain ⟨k,v,rfl,hk,own,G⟩ := hrel
   have sr1 := G.chg.size
   have Bwr1 : Below W.heap.size W wr := BW.trans (G.chg.toBelow (fun b (hb : b = g) => by omega) (by omega))
   have q1 : wr.cell? ⟨vb,1,none⟩ = some (.slice A1 n1 c1) := by rw [G.chg.cell (by omega) (by omega)]; exact p1
   by_cases hlt : k < n1
   · obtain ⟨bb,o,A5_,c5_,x,rfl,hbb,X,hc,hri,hxl2⟩ := zdr (k1.below Bwr1) hb1 hlt
     have hpt := Lib.hid (M.take_at X.out)
     have hxl : (x1.take k).length ≤ 100000000 := by rw [List.length_take]; omega
     have m1 := cell_regrown q1
     have m2 := cell_regrown hc
     have m3 := cell_regrown G.cel
     have DV : Below wr.heap.size wr wr.drew := zac (Below.refl _ _) 1
     have hdv : wr.drew.heap.size = wr.heap.size := rfl
     have hri2 := (hri.more (by omega)).later DV
     have hx9 := hb1.out x (List.mem_of_getElem? X.out)
     go_wp2_with fail
     (refine zcq [0,2,3,4,6] [1,5,7,8] 2 (.one 9 (.one 10 .rest)) [11,12,13] (by kernel_rfl) (by kernel_rfl) ?_; simp only [zaj]; simp only [List.filterMap,List.getElem?_cons_succ,List.getElem?_cons_zero]; (repeat (go_big_quiet_step (fail))); refine wpQuiet_nil ?_; (repeat (go_big_quiet_step (fail))); refine wpQuiet_nil ?_)
     refine zao rfl ?_
     go_wp2_with fail
     refine (zfb _ _ _ _ _ hri2 (by omega)).mono ?_
     rintro e w2 ⟨v1,rfl,on,bel2⟩
     obtain ⟨A6,c6,rfl,-⟩ := on.shape
     have s2_ := bel2.size
     have Bw2 := zaa DV bel2
     have own2 := own.below Bw2 (Nat.le_refl _)
     have G2 := G.below Bw2 (by omega)
     have os2 := tS_O.2 (OI.os on)
     go_wp2_with fail
     refine ⟨regrown_of_below Bw2,zao rfl ?_⟩
     go_wp2_with fail
     refine ⟨regrown_of_below (zaa Bw2 ((Below.refl _ _).alloc (Nat.le_refl _) _)),zbi ?_⟩
     go_wp2_with ((at_builtin; refine zca ei_S #[.slice A6 x.length c6] rfl _ _ rfl own2 os2 (Iv.apart (by omega)) rfl rfl (by unfold maxLen; omega) (by omega) ?_; intro v3 w4 own4 ch4; obtain ⟨A7,c7,e7⟩ := own4.shape; obtain ⟨n7,hn7⟩ : ∃ n7,n7 = (x1.take k ++ [x]).length := ⟨_,rfl⟩; rw [← hn7] at e7; subst e7; have HN7 := Lib.hid hn7; clear hn7; have G4 := G2.row ch4 (by omega) (fun b hb => ⟨hb.1,by have := hb.1; omega⟩); have hc4 := G4.cel; have hf4 : w4.frozen? ⟨g,1,none⟩ = false := (by rw [G4.fro]; exact df 1)))
     go_roundw
     case rel =>
      have s4 := ch4.size
      refine ⟨k + 1,_,by go_num,by omega,?_,G4.set (df 1) _⟩
      rw [hpt.out]
      refine (own4.chg (Chg.set (F := fun b => b = g) w4 g 1 _ rfl) (fun b hb (e : b = g) => ?_)).wide (fun b hb => ?_)
      · rcases hb with hb | hb | hb
        · have := hb.1; omega
        · have := hb.1; omega
        · omega
      · have e9 : (w4.setCell ⟨g,1,none⟩ (.slice A7 n7 c7)).heap.size = w4.heap.size := by simp
        rcases hb with hb | hb | hb
        · exact ⟨hb.1,by have := hb.2; omega⟩
        · exact ⟨by have := hb.1; omega,by have := hb.2; omega⟩
        · exact ⟨by omega,by omega⟩
     case measure => simp [intOf]; omega
   · obtain rfl : k = n1 := by omega
     rw [List.take_of_length_le (by rw [L1.out]; exact Nat.le_refl _)] at own
     obtain ⟨wa,rfl⟩ : ∃ wx : World,wx = wr := ⟨_,rfl⟩
     obtain ⟨A1',c1',rfl⟩ := own.shape
     replace d0 := (G.oth 0 (by decide)).trans d0
     replace d1 := G.cel
     replace d2 := (G.oth 2 (by decide)).trans d2
     replace d3 := (G.oth 3 (by decide)).trans d3
     replace d4 := (G.oth 4 (by decide)).trans d4
     replace d5 := (G.oth 5 (by decide)).trans d5
     replace df : ∀ j,wa.frozen? ⟨g,j,none⟩ = false := fun j => (G.fro j).trans (df j)
     replace r0 : wa.cell? ⟨w.heap.size,0,none⟩ = some (.int .i64 0) := (G.chg.cell (by omega) (by omega)).trans r0
     replace r1 : wa.cell? ⟨w.heap.size,1,none⟩ = some (.slice none 0 0) := (G.chg.cell (by omega) (by omega)).trans r1
     replace r2 : wa.cell? ⟨w.heap.size,2,none⟩ = some (.slice none 0 0) := (G.chg.cell (by omega) (by omega)).trans r2
     replace r3 : wa.cell? ⟨w.heap.size,3,none⟩ = some (.slice none 0 0) := (G.chg.cell (by omega) (by omega)).trans r3
     replace r4 : wa.cell? ⟨w.heap.size,4,none⟩ = some (.slice none 0 0) := (G.chg.cell (by omega) (by omega)).trans r4
     replace r5 : wa.cell? ⟨w.heap.size,5,none⟩ = some (.slice none 0 0) := (G.chg.cell (by omega) (by omega)).trans r5
     replace rf : ∀ j,wa.frozen? ⟨w.heap.size,j,none⟩ = false := fun j => (G.chg.frozen (by omega) (by omega)).trans (rf j)
     replace p2 : wa.cell? ⟨vb,2,none⟩ = some (.slice A2 n2 c2) := (G.chg.cell (by omega) (by omega)).trans p2
     replace p4 : wa.cell? ⟨vb,4,none⟩ = some (.slice A4 n4 c4) := (G.chg.cell (by omega) (by omega)).trans p4
     replace p5 : wa.cell? ⟨vb,5,none⟩ = some (.slice A5 n5 c5) := (G.chg.cell (by omega) (by omega)).trans p5
     replace o3 : tS.O wa (Iv l3 u3) [.slice A3' x3.length c3'] x3 := tS_O.2 ((tS_O.1 o3).chg G.chg (fun b hb (e : b = g) => by have := hb.1; have := hb.2; omega))
     have o1 : tSS.O wa (Iv w0.heap.size wa.heap.size) _ x1 := sl_O.2 own
     clear G own
     go_wp2_with fail
     go_loopw [5] (fun i wr => ∃ (k : Nat) (v : Value),i = .int .i64 k ∧ k ≤ n2 ∧ OS tT 89 wr (Iv wa.heap.size wr.heap.size) v (x2.take k) ∧ Gr g 2 wa wr v) (fun i _ => n2 - (intOf i).toNat)
     case atStart => exact ⟨0,_,rfl,by omega,OS.nil _ _ _ _,Gr.start d2⟩
     case round =>
      obtain ⟨k,v,rfl,hk,own,G⟩ := hrel
      have sr2 := G.chg.size
      have Bwr2 : Below W.heap.size W wr := Bwr1.trans (G.chg.toBelow (fun b (hb : b = g) => by omega) (by omega))
      have q2 : wr.cell? ⟨vb,2,none⟩ = some (.slice A2 n2 c2) := by rw [G.chg.cell (by omega) (by omega)]; exact p2
      by_cases hlt : k < n2
      · obtain ⟨bb,o,A7_,n7_,c7_,x,rfl,hbb,X,e0,hT_,hra,h7⟩ := zf2 (k2.below Bwr2) z2 hlt
        have hpt := Lib.hid (M.take_at X.out)
        have hxl : (x2.take k).length ≤ 100000000 := by rw [List.length_take]; omega
        have hl := Lib.hid hra.len
        have BV : Below wr.heap.size wr wr := Below.refl _ _
        have m0 := cell_regrown q2
        have m1 := cell_regrown e0
        have mg := cell_regrown G.cel
        obtain ⟨U,hU⟩ : ∃ U,U = (wr.alloc (.cells #[] 156)).drew := ⟨_,rfl⟩
        have BU : Below wr.heap.size wr U := by rw [hU]; exact zac ((Below.refl _ _).alloc (Nat.le_refl _) _) 1
        have sU : U.heap.size = wr.heap.size + 1 := by rw [hU]; simp
        have h0 : U.ownsRow wr.heap.size 156 5 (.slice (some ⟨wr.heap.size,0,none⟩) 0 0) 0 [] := by rw [hU]; exact World.ownsRow_made _ _ _ (Nat.le_refl _) (by simp [maxLen]) rfl
        have BwU : Below wr.heap.size wr U := BU
        have rd := ((hra.more (show W.heap.size ≤ wr.heap.size by omega)).later BwU).reads
        have HU := Lib.hid hU
        clear hU
        go_wp2_with fail
        (refine zcq [0,3,4,5,7] [1,6,8,9,10] 4 (.one 2 (.one 11 (.one 12 (.one 13 .rest)))) [14,15,16] (by kernel_rfl) (by kernel_rfl) ?_; simp only [zaj]; simp only [List.filterMap,List.getElem?_cons_succ,List.getElem?_cons_zero]; (repeat (go_big_quiet_step (fail))); refine wpQuiet_nil ?_; (repeat (go_big_quiet_step (fail))); refine wpQuiet_nil ?_)
        refine zao rfl ?_
        go_wp2_with fail
        rw [← HU.out]
        refine ⟨regrown_of_below BU,zao rfl ?_⟩
        go_wp2_with (at_builtin; refine zdz zig rfl _ _ rfl h0 (by first | rfl | (rw [sV]; rfl)) rd rfl (zmx _) (by unfold maxLen; omega) (by omega) (by omega) ?_; intro v1 w2 own1 gr1 bel1; rw [Nat.zero_add,List.nil_append,← hl.out] at own1; obtain ⟨A6,c6,e6,-⟩ := zb9 own1; subst e6)
        have s2_ := bel1.size
        have BU2 := BU.trans bel1
        have Bw2 : Below wr.heap.size wr w2 := BU2
        refine ⟨regrown_of_below BU2,zao rfl ?_⟩
        go_wp2_with fail
        refine ⟨regrown_of_below BU2,zao rfl ?_⟩
        go_wp2_with fail
        refine ⟨regrown_of_below (zaa BU2 ((Below.refl _ _).alloc (Nat.le_refl _) _)),zbi ?_⟩
        have oT : OS tCl 156 w2 (Iv wr.heap.size w2.heap.size) _ x := OS.of_flat (OX.of_own own1)
        have own2 := own.below Bw2 (Nat.le_refl _)
        have G2 := G.below Bw2 (by omega)
        go_wp2_with ((at_builtin; refine zca ziz #[.slice A6 x.length c6] rfl _ _ rfl own2 (sl_O.2 oT) (Iv.apart (by omega)) rfl rfl (by unfold maxLen; omega) (by omega) ?_; intro v3 w4 own4 ch4; obtain ⟨A7,c7,e7⟩ := own4.shape; obtain ⟨n7,hn7⟩ : ∃ n7,n7 = (x2.take k ++ [x]).length := ⟨_,rfl⟩; rw [← hn7] at e7; subst e7; have HN7 := Lib.hid hn7; clear hn7; have G4 := G2.row ch4 (by omega) (fun b hb => ⟨hb.1,by have := hb.1; omega⟩); have hc4 := G4.cel; have hf4 : w4.frozen? ⟨g,2,none⟩ = false := (by rw [G4.fro]; exact df 2)))
        go_roundw
        case rel =>
         have s4 := ch4.size
         refine ⟨k + 1,_,by go_num,by omega,?_,G4.set (df 2) _⟩
         rw [hpt.out]
         refine (own4.chg (Chg.set (F := fun b => b = g) w4 g 2 _ rfl) (fun b hb (e : b = g) => ?_)).wide (fun b hb => ?_)
         · rcases hb with hb | hb | hb
           · have := hb.1; omega
           · have := hb.1; omega
           · omega
         · have e9 : (w4.setCell ⟨g,2,none⟩ (.slice A7 n7 c7)).heap.size = w4.heap.size := by simp
           rcases hb with hb | hb | hb
           · exact ⟨hb.1,by have := hb.2; omega⟩
           · exact ⟨by have := hb.1; omega,by have := hb.2; omega⟩
           · exact ⟨by omega,by omega⟩
        case measure => simp [intOf]; omega
      · obtain rfl : k = n2 := by omega
        rw [List.take_of_length_le (by rw [L2.out]; exact Nat.le_refl _)] at own
        obtain ⟨wb,rfl⟩ : ∃ wx : World,wx = wr := ⟨_,rfl⟩
        obtain ⟨A2',c2',rfl⟩ := own.shape
        replace d0 := (G.oth 0 (by decide)).trans d0
        replace d1 := (G.oth 1 (by decide)).trans d1
        replace d2 := G.cel
        replace d3 := (G.oth 3 (by decide)).trans d3
        replace d4 := (G.oth 4 (by decide)).trans d4
        replace d5 := (G.oth 5 (by decide)).trans d5
        replace df : ∀ j,wb.frozen? ⟨g,j,none⟩ = false := fun j => (G.fro j).trans (df j)
        replace r0 : wb.cell? ⟨w.heap.size,0,none⟩ = some (.int .i64 0) := (G.chg.cell (by omega) (by omega)).trans r0
        replace r1 : wb.cell? ⟨w.heap.size,1,none⟩ = some (.slice none 0 0) := (G.chg.cell (by omega) (by omega)).trans r1
        replace r2 : wb.cell? ⟨w.heap.size,2,none⟩ = some (.slice none 0 0) := (G.chg.cell (by omega) (by omega)).trans r2
        replace r3 : wb.cell? ⟨w.heap.size,3,none⟩ = some (.slice none 0 0) := (G.chg.cell (by omega) (by omega)).trans r3
        replace r4 : wb.cell? ⟨w.heap.size,4,none⟩ = some (.slice none 0 0) := (G.chg.cell (by omega) (by omega)).trans r4
        replace r5 : wb.cell? ⟨w.heap.size,5,none⟩ = some (.slice none 0 0) := (G.chg.cell (by omega) (by omega)).trans r5
        replace rf : ∀ j,wb.frozen? ⟨w.heap.size,j,none⟩ = false := fun j => (G.chg.frozen (by omega) (by omega)).trans (rf j)
        replace p4 : wb.cell? ⟨vb,4,none⟩ = some (.slice A4 n4 c4) := (G.chg.cell (by omega) (by omega)).trans p4
        replace p5 : wb.cell? ⟨vb,5,none⟩ = some (.slice A5 n5 c5) := (G.chg.cell (by omega) (by omega)).trans p5
        replace o3 : tS.O wb (Iv l3 u3) [.slice A3' x3.length c3'] x3 := tS_O.2 ((tS_O.1 o3).chg G.chg (fun b hb (e : b = g) => by have := hb.1; have := hb.2; omega))
        replace o1 : tSS.O wb (Iv w0.heap.size wa.heap.size) [.slice A1' x1.length c1'] x1 := sl_O.2 ((sl_O.1 o1).chg G.chg (fun b hb (e : b = g) => by have := hb.1; have := hb.2; omega))
        have o2 : tTS.O wb (Iv wa.heap.size wb.heap.size) _ x2 := sl_O.2 own
        clear G own
        go_wp2_with fail
        go_loopw [6] (fun i wr => ∃ (k : Nat) (v : Value),i = .int .i64 k ∧ k ≤ n4 ∧ OS tP 107 wr (Iv wb.heap.size wr.heap.size) v (x4.take k) ∧ Gr g 4 wb wr v) (fun i _ => n4 - (intOf i).toNat)
        case atStart => exact ⟨0,_,rfl,by omega,OS.nil _ _ _ _,Gr.start d4⟩
        case round =>
         obtain ⟨k,v,rfl,hk,own,G⟩ := hrel
         have sr4 := G.chg.size
         have Bwr4 : Below W.heap.size W wr := Bwr2.trans (G.chg.toBelow (fun b (hb : b = g) => by omega) (by omega))
         have q4 : wr.cell? ⟨vb,4,none⟩ = some (.slice A4 n4 c4) := by rw [G.chg.cell (by omega) (by omega)]; exact p4
         by_cases hlt : k < n4
         · obtain ⟨bb,o,b0,D1_,m1_,d1_,D2_,m2_,d2_,D3_,m3_,d3_,y1,y2,y3,rfl,hbb,X,e0,e1,e2,e3,t1,t2,t3,hz⟩ := zf3 (k4.below Bwr4) z4 hlt
           have hpt := Lib.hid (M.take_at X.out)
           have hxl : (x4.take k).length ≤ 100000000 := by rw [List.length_take]; omega
           have m0 := cell_regrown q4
           have mg := cell_regrown G.cel
           have DV : Below wr.heap.size wr wr.drew := zac (Below.refl _ _) 1
           have DD := DV
           have hdv : wr.drew.heap.size = wr.heap.size := rfl
           have t1_ := tSS.later (tSS.more (show W.heap.size ≤ wr.heap.size by omega) t1) DV
           have t2_ := tNS.later (tNS.more (show W.heap.size ≤ wr.heap.size by omega) t2) DV
           have t3_ := tS.later (tS.more (show W.heap.size ≤ wr.heap.size by omega) t3) DV
           have E0 : wr.drew.cell? ⟨bb,o + k * 4,none⟩ = some (.int .i64 b0) := e0
           have E1 : wr.drew.cell? ⟨bb,o + k * 4 + 1,none⟩ = some (.slice D1_ m1_ d1_) := e1
           have E2 : wr.drew.cell? ⟨bb,o + k * 4 + 2,none⟩ = some (.slice D2_ m2_ d2_) := e2
           have E3 : wr.drew.cell? ⟨bb,o + k * 4 + 3,none⟩ = some (.slice D3_ m3_ d3_) := e3
           go_wp2_with fail
           (refine zcq [0,2,3,4,6] [1,5,7] 2 (.one 8 (.one 9 .rest)) [10,11,12] (by kernel_rfl) (by kernel_rfl) ?_; simp only [zaj]; simp only [List.filterMap,List.getElem?_cons_succ,List.getElem?_cons_zero]; (repeat (go_big_quiet_step (fail))); refine wpQuiet_nil ?_; (repeat (go_big_quiet_step (fail))); refine wpQuiet_nil ?_)
           refine zao rfl ?_
           go_wp2_with fail
           refine (zuv _ _ _ _ _ _ _ _ _ _ _ _ _ _ _ wr.drew E0 E1 E2 E3 t1_ t2_ t3_ hz).mono ?_
           rintro e w2 ⟨H1,i1,j1,H2,i2,j2,H3,i3,j3,rfl,on,bel2⟩
           have s2_ := bel2.size
           have Bw2 := zaa DV bel2
           have own2 := own.below Bw2 (Nat.le_refl _)
           have G2 := G.below Bw2 (by omega)
           have BVw := zaa DD bel2
           go_wp2_with fail
           refine ⟨regrown_of_below BVw,zao rfl ?_⟩
           go_wp2_with fail
           refine ⟨regrown_of_below (zaa BVw ((Below.refl _ _).alloc (Nat.le_refl _) _)),zbi ?_⟩
           go_wp2_with ((at_builtin; refine zca ziy #[.int .i64 b0,.slice H1 i1 j1,.slice H2 i2 j2,.slice H3 i3 j3] rfl _ _ rfl own2 on (Iv.apart (by omega)) rfl rfl (by unfold maxLen; omega) (by omega) ?_; intro v3 w4 own4 ch4; obtain ⟨A7,c7,e7⟩ := own4.shape; obtain ⟨n7,hn7⟩ : ∃ n7,n7 = (x4.take k ++ [(b0,y1,y2,y3)]).length := ⟨_,rfl⟩; rw [← hn7] at e7; subst e7; have HN7 := Lib.hid hn7; clear hn7; have G4 := G2.row ch4 (by omega) (fun b hb => ⟨hb.1,by have := hb.1; omega⟩); have hc4 := G4.cel; have hf4 : w4.frozen? ⟨g,4,none⟩ = false := (by rw [G4.fro]; exact df 4)))
           go_roundw
           case rel =>
            have s4 := ch4.size
            refine ⟨k + 1,_,by go_num,by omega,?_,G4.set (df 4) _⟩
            rw [hpt.out]
            refine (own4.chg (Chg.set (F := fun b => b = g) w4 g 4 _ rfl) (fun b hb (e : b = g) => ?_)).wide (fun b hb => ?_)
            · rcases hb with hb | hb | hb
              · have := hb.1; omega
              · have := hb.1; omega
              · omega
            · have e9 : (w4.setCell ⟨g,4,none⟩ (.slice A7 n7 c7)).heap.size = w4.heap.size := by simp
              rcases hb with hb | hb | hb
              · exact ⟨hb.1,by have := hb.2; omega⟩
              · exact ⟨by have := hb.1; omega,by have := hb.2; omega⟩
              · exact ⟨by omega,by omega⟩
           case measure => simp [intOf]; omega
         · obtain rfl : k = n4 := by omega
           rw [List.take_of_length_le (by rw [L4.out]; exact Nat.le_refl _)] at own
           obtain ⟨wd,rfl⟩ : ∃ wx : World,wx = wr := ⟨_,rfl⟩
           obtain ⟨A4',c4',rfl⟩ := own.shape
           replace d0 := (G.oth 0 (by decide)).trans d0
           replace d1 := (G.oth 1 (by decide)).trans d1
           replace d2 := (G.oth 2 (by decide)).trans d2
           replace d3 := (G.oth 3 (by decide)).trans d3
           replace d4 := G.cel
           replace d5 := (G.oth 5 (by decide)).trans d5
           replace df : ∀ j,wd.frozen? ⟨g,j,none⟩ = false := fun j => (G.fro j).trans (df j)
           replace r0 : wd.cell? ⟨w.heap.size,0,none⟩ = some (.int .i64 0) := (G.chg.cell (by omega) (by omega)).trans r0
           replace r1 : wd.cell? ⟨w.heap.size,1,none⟩ = some (.slice none 0 0) := (G.chg.cell (by omega) (by omega)).trans r1
           replace r2 : wd.cell? ⟨w.heap.size,2,none⟩ = some (.slice none 0 0) := (G.chg.cell (by omega) (by omega)).trans r2
           replace r3 : wd.cell? ⟨w.heap.size,3,none⟩ = some (.slice none 0 0) := (G.chg.cell (by omega) (by omega)).trans r3
           replace r4 : wd.cell? ⟨w.heap.size,4,none⟩ = some (.slice none 0 0) := (G.chg.cell (by omega) (by omega)).trans r4
           replace r5 : wd.cell? ⟨w.heap.size,5,none⟩ = some (.slice none 0 0) := (G.chg.cell (by omega) (by omega)).trans r5
           replace rf : ∀ j,wd.frozen? ⟨w.heap.size,j,none⟩ = false := fun j => (G.chg.frozen (by omega) (by omega)).trans (rf j)
           replace p5 : wd.cell? ⟨vb,5,none⟩ = some (.slice A5 n5 c5) := (G.chg.cell (by omega) (by omega)).trans p5
           replace o3 : tS.O wd (Iv l3 u3) [.slice A3' x3.length c3'] x3 := tS_O.2 ((tS_O.1 o3).chg G.chg (fun b hb (e : b = g) => by have := hb.1; have := hb.2; omega))
           replace o1 : tSS.O wd (Iv w0.heap.size wa.heap.size) [.slice A1' x1.length c1'] x1 := sl_O.2 ((sl_O.1 o1).chg G.chg (fun b hb (e : b = g) => by have := hb.1; have := hb.2; omega))
           replace o2 : tTS.O wd (Iv wa.heap.size wb.heap.size) [.slice A2' x2.length c2'] x2 := sl_O.2 ((sl_O.1 o2).chg G.chg (fun b hb (e : b = g) => by have := hb.1; have := hb.2; omega))
           have o4 : tPS.O wd (Iv wb.heap.size wd.heap.size) _ x4 := sl_O.2 own
           clear G own
           go_wp2_with fail
           go_loopw [7] (fun i wr => ∃ (k : Nat) (v : Value),i = .int .i64 k ∧ k ≤ n5 ∧ OS tSt 78 wr (Iv wd.heap.size wr.heap.size) v (x5.take k) ∧ Gr g 5 wd wr v) (fun i _ => n5 - (intOf i).toNat)
           case atStart => exact ⟨0,_,rfl,by omega,OS.nil _ _ _ _,Gr.start d5⟩
           case round =>
            obtain ⟨k,v,rfl,hk,own,G⟩ := hrel
            have sr5 := G.chg.size
            have Bwr5 : Below W.heap.size W wr := Bwr4.trans (G.chg.toBelow (fun b (hb : b = g) => by omega) (by omega))
            have q5 : wr.cell? ⟨vb,5,none⟩ = some (.slice A5 n5 c5) := by rw [G.chg.cell (by omega) (by omega)]; exact p5
            by_cases hlt : k < n5
            · obtain ⟨bb,o,s,l,A7_,n7_,c7_,us,rfl,hbb,X,e0,e1,e2,hs,hra,h7⟩ := zhu (k5.below Bwr5) z5 hlt
              have hpt := Lib.hid (M.take_at X.out)
              have hxl : (x5.take k).length ≤ 100000000 := by rw [List.length_take]; omega
              have hl := Lib.hid hra.len
              obtain ⟨V,hV,BV,sV,n0,n1_,n2_,nf⟩ := zji wr (.string s) (.int .i64 l) (.slice A7_ n7_ c7_) 78
              have HV := Lib.hid hV
              clear hV
              obtain ⟨U,hU⟩ : ∃ U,U = V.alloc (.cells #[] 130) := ⟨_,rfl⟩
              have BU : Below V.heap.size V U := by rw [hU]; exact (Below.refl _ _).alloc (Nat.le_refl _) _
              have sU : U.heap.size = V.heap.size + 1 := by rw [hU]; simp
              have h0 : U.ownsRow V.heap.size 130 2 (.slice (some ⟨V.heap.size,0,none⟩) 0 0) 0 [] := by rw [hU]; exact World.ownsRow_made _ _ _ (Nat.le_refl _) (by simp [maxLen]) rfl
              have BwU : Below wr.heap.size wr U := zaa BV BU
              have rd := ((hra.more (show W.heap.size ≤ wr.heap.size by omega)).later BwU).reads
              have HU := Lib.hid hU
              clear hU
              go_wp2_with (first | (at_builtin; rw [← HV.out,← HU.out]; refine zdz zik rfl _ _ rfl h0 (by first | rfl | (rw [sV]; rfl)) rd rfl (zmy _) (by unfold maxLen; omega) (by omega) (by omega) ?_; intro v1 w2 own1 gr1 bel1; rw [Nat.zero_add,List.nil_append,← hl.out] at own1; obtain ⟨A6,c6,e6,-⟩ := zb9 own1; subst e6; have s2_ := bel1.size; have Bv := BU.trans bel1; have N0 := (Bv.cell (p := ⟨wr.heap.size,0,none⟩) (by show wr.heap.size < _; omega)).trans n0; have N1 := (Bv.cell (p := ⟨wr.heap.size,1,none⟩) (by show wr.heap.size < _; omega)).trans n1_; have N2 := (Bv.cell (p := ⟨wr.heap.size,2,none⟩) (by show wr.heap.size < _; omega)).trans n2_; have NF := (Bv.frozen (p := ⟨wr.heap.size,2,none⟩) (by show wr.heap.size < _; omega)).trans (nf 2); have hvw2 := (G.below (zaa BV Bv) (by omega)).cel; have chS := Chg.set (F := fun b => b = wr.heap.size) w2 wr.heap.size 2 (.slice A6 us.length c6) rfl; obtain ⟨w3,hw3⟩ : ∃ w3,w3 = w2.setCell ⟨wr.heap.size,2,none⟩ (.slice A6 us.length c6) := ⟨_,rfl⟩; rw [← hw3] at chS; have s3_ : w3.heap.size = w2.heap.size := (by rw [hw3]; simp); have Bw3 : Below wr.heap.size wr w3 := (zaa BV Bv).trans (chS.toBelow (fun b (hb : b = _) => by omega) (by omega)); have own2 := own.below Bw3 (Nat.le_refl _); have G2 := G.below Bw3 (by omega); have oT : OS tSd 130 w2 (Iv V.heap.size w2.heap.size) _ us := OS.of_flat (OX.of_own own1); have on2 : tSt.O w3 (Iv V.heap.size w2.heap.size) [.string s,.int .i64 l,.slice A6 us.length c6] (s,l,us) := st_O.2 ⟨A6,us.length,c6,rfl,hs,sl_O.2 (oT.chg chS (fun b hb (e : b = _) => by have := hb.1; omega))⟩; have HW3 := Lib.hid hw3; clear hw3) | (at_builtin; rw [← HW3.out]; refine zca zio #[.string s,.int .i64 l,.slice A6 us.length c6] rfl _ _ rfl own2 on2 (Iv.apart (by omega)) rfl (by rw [s3_]; rfl) (by unfold maxLen; omega) (by omega) ?_; intro v3 w4 own4 ch4; obtain ⟨A7,c7,e7⟩ := own4.shape; obtain ⟨n7,hn7⟩ : ∃ n7,n7 = (x5.take k ++ [(s,l,us)]).length := ⟨_,rfl⟩; rw [← hn7] at e7; subst e7; have HN7 := Lib.hid hn7; clear hn7; have G4 := G2.row ch4 (by omega) (fun b hb => ⟨hb.1,by have := hb.1; omega⟩); have hc4 := G4.cel; have hf4 : w4.frozen? ⟨g,5,none⟩ = false := (by rw [G4.fro]; exact df 5)))
              go_roundw
              case rel =>
               have s4 := ch4.size
               refine ⟨k + 1,_,by go_num,by omega,?_,G4.set (df 5) _⟩
               rw [hpt.out]
               refine (own4.chg (Chg.set (F := fun b => b = g) w4 g 5 _ rfl) (fun b hb (e : b = g) => ?_)).wide (fun b hb => ?_)
               · rcases hb with hb | hb | hb
                 · have := hb.1; omega
                 · have := hb.1; omega
                 · omega
               · have e9 : (w4.setCell ⟨g,5,none⟩ (.slice A7 n7 c7)).heap.size = w4.heap.size := by simp
                 rcases hb with hb | hb | hb
                 · exact ⟨hb.1,by have := hb.2; omega⟩
                 · exact ⟨by have := hb.1; omega,by have := hb.2; omega⟩
                 · exact ⟨by omega,by omega⟩
              case measure => simp [intOf]; omega
            · obtain rfl : k = n5 := by omega
              rw [List.take_of_length_le (by rw [L5.out]; exact Nat.le_refl _)] at own
              obtain ⟨we,rfl⟩ : ∃ wx : World,wx = wr := ⟨_,rfl⟩
              obtain ⟨A5',c5',rfl⟩ := own.shape
              replace d0 := (G.oth 0 (by decide)).trans d0
              replace d1 := (G.oth 1 (by decide)).trans d1
              replace d2 := (G.oth 2 (by decide)).trans d2
              replace d3 := (G.oth 3 (by decide)).trans d3
              replace d4 := (G.oth 4 (by decide)).trans d4
              replace d5 := G.cel
              replace df : ∀ j,we.frozen? ⟨g,j,none⟩ = false := fun j => (G.fro j).trans (df j)
              replace r0 : we.cell? ⟨w.heap.size,0,none⟩ = some (.int .i64 0) := (G.chg.cell (by omega) (by omega)).trans r0
              replace r1 : we.cell? ⟨w.heap.size,1,none⟩ = some (.slice none 0 0) := (G.chg.cell (by omega) (by omega)).trans r1
              replace r2 : we.cell? ⟨w.heap.size,2,none⟩ = some (.slice none 0 0) := (G.chg.cell (by omega) (by omega)).trans r2
              replace r3 : we.cell? ⟨w.heap.size,3,none⟩ = some (.slice none 0 0) := (G.chg.cell (by omega) (by omega)).trans r3
              replace r4 : we.cell? ⟨w.heap.size,4,none⟩ = some (.slice none 0 0) := (G.chg.cell (by omega) (by omega)).trans r4
              replace r5 : we.cell? ⟨w.heap.size,5,none⟩ = some (.slice none 0 0) := (G.chg.cell (by omega) (by omega)).trans r5
              replace rf : ∀ j,we.frozen? ⟨w.heap.size,j,none⟩ = false := fun j => (G.chg.frozen (by omega) (by omega)).trans (rf j)
              replace o3 : tS.O we (Iv l3 u3) [.slice A3' x3.length c3'] x3 := tS_O.2 ((tS_O.1 o3).chg G.chg (fun b hb (e : b = g) => by have := hb.1; have := hb.2; omega))
              replace o1 : tSS.O we (Iv w0.heap.size wa.heap.size) [.slice A1' x1.length c1'] x1 := sl_O.2 ((sl_O.1 o1).chg G.chg (fun b hb (e : b = g) => by have := hb.1; have := hb.2; omega))
              replace o2 : tTS.O we (Iv wa.heap.size wb.heap.size) [.slice A2' x2.length c2'] x2 := sl_O.2 ((sl_O.1 o2).chg G.chg (fun b hb (e : b = g) => by have := hb.1; have := hb.2; omega))
              replace o4 : tPS.O we (Iv wb.heap.size wd.heap.size) [.slice A4' x4.length c4'] x4 := sl_O.2 ((sl_O.1 o4).chg G.chg (fun b hb (e : b = g) => by have := hb.1; have := hb.2; omega))
              have o5 : tM.O we (Iv wd.heap.size we.heap.size) _ x5 := sl_O.2 own
              clear G own
              have rf0 := rf 0
              have rf1 := rf 1
              have rf2 := rf 2
              have rf3 := rf 3
              have rf4 := rf 4
              have rf5 := rf 5
              obtain ⟨U_,hU_,y0,y1,y2,y3,y4,y5,yf,ych,ysz⟩ := box6 r0 r1 r2 r3 r4 r5 rf (.int .i64 a0) (.slice A1' x1.length c1') (.slice A2' x2.length c2') (.slice A3' x3.length c3') (.slice A4' x4.length c4') (.slice A5' x5.length c5')
              have HU := Lib.hid hU_
              clear hU_
              go_wp2
              rw [← HU.out]
              have yf0 := yf 0
              have yf1 := yf 1
              have yf2 := yf 2
              have yf3 := yf 3
              have yf4 := yf 4
              have yf5 := yf 5
              refine bodyPost_ret (v := .agg #[.int .i64 a0,.slice A1' x1.length c1',.slice A2' x2.length c2',.slice A3' x3.length c3',.slice A4' x4.length c4',.slice A5' x5.length c5']) (by simp [results,Tryz.results142,go_sem,y0,y1,y2,y3,y4,y5,yf0,yf1,yf2,yf3,yf4,yf5]) rfl ?_
              refine ⟨A1',x1.length,c1',A2',x2.length,c2',A3',x3.length,c3',A4',x4.length,c4',A5',x5.length,c5',rfl,tZ_O.2 ⟨_,_,_,_,_,_,_,_,_,_,_,_,_,_,_,Iv w0.heap.size wa.heap.size,Iv wa.heap.size wb.heap.size,Iv l3 u3,Iv wb.heap.size wd.heap.size,Iv wd.heap.size we.heap.size,rfl,tSS.ochg o1 ych (fun b hb (e : b = _) => by have := hb.1; omega),tTS.ochg o2 ych (fun b hb (e : b = _) => by have := hb.1; omega),tS.ochg o3 ych (fun b hb (e : b = _) => by have := hb.1; omega),tPS.ochg o4 ych (fun b hb (e : b = _) => by have := hb.1; omega),tM.ochg o5 ych (fun b hb (e : b = _) => by have := hb.1; omega),Iv.mono (by omega) (by omega),Iv.mono (by omega) (by omega),Iv.mono (by omega) (by omega),Iv.mono (by omega) (by omega),Iv.mono (by omega) (by omega),fun b hb hb2 => by have h_1 := hb.1; have h_2 := hb.2; have h_3 := hb2.1; have h_4 := hb2.2; omega,fun b hb hb2 => by have h_1 := hb.1; have h_2 := hb.2; have h_3 := hb2.1; have h_4 := hb2.2; omega,fun b hb hb2 => by have h_1 := hb.1; have h_2 := hb.2; have h_3 := hb2.1; have h_4 := hb2.2; omega,fun b hb hb2 => by have h_1 := hb.1; have h_2 := hb.2; have h_3 := hb2.1; have h_4 := hb2.2; omega,fun b hb hb2 => by have h_1 := hb.1; have h_2 := hb.2; have h_3 := hb2.1; have h_4 := hb2.2; omega,fun b hb hb2 => by have h_1 := hb.1; have h_2 := hb.2; have h_3 := hb2.1; have h_4 := hb2.2; omega,fun b hb hb2 => by have h_1 := hb.1; have h_2 := hb.2; have h_3 := hb2.1; have h_4 := hb2.2; omega,fun b hb hb2 => by have h_1 := hb.1; have h_2 := hb.2; have h_3 := hb2.1; have h_4 := hb2.2; omega,fun b hb hb2 => by have h_1 := hb.1; have h_2 := hb.2; have h_3 := hb2.1; have h_4 := hb2.2; omega,fun b hb hb2 => by have h_1 := hb.1; have h_2 := hb.2; have h_3 := hb2.1; have h_4 := hb2.2; omega⟩,?_⟩
              exact (zaa B0 Bwr5).trans (ych.toBelow (fun b (hb : b = _) => by omega) (by omega))
end
end Go.Proofs.YtffhodocjjkkoaaGreat
