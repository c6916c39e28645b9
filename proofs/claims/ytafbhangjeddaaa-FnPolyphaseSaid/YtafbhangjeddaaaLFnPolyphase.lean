import Derived.Test.YtafbhangjeddaaaW73
import Derived.Test.YtafbhangjeddaaaW51
namespace Go.Proofs.Ytafbhangjeddaaa
open Go.RowKit
set_option maxHeartbeats 4000000
set_option maxRecDepth 100000
theorem core_FnPolyphase (A0 : Option Addr) (n0 : Nat) (c0 : Nat) (x0 : List UInt8) (w : World) (h0 : RS tU8 w w.heap.size (.slice A0 n0 c0) x0) :
    Calls Try.prog 10 #[.slice A0 n0 c0] w fun e w' => e = .returned (.bool true) ∧ Below w.heap.size w w' := by
  cases hlong : (decide (3000 < n0) || decide (3000 < 0))
  · have hlong' := Lib.hid hlong
    clear hlong
    go_enter Try.func10, Try.ntmps10
    go_wp2_with fail
    refine (laws_a2Long _ _ _ _ _ _ _).mono ?_
    rw [hlong'.out]
    rintro e w' ⟨rfl, rfl⟩
    go_wp2_with fail
    refine (spec_A2Signal _ _ _ _ _ h0).mono ?_
    rintro e w1 ⟨Ax, cx, xs, At, ct, ts, f, rfl, rx, rt, lx, sx, lt0, lt1, st, f0, f1, b1⟩
    obtain ⟨f, rfl⟩ : ∃ j : Nat, f = j := ⟨f.toNat, by omega⟩
    have hf : 1 ≤ f ∧ f ≤ 5 := by omega
    obtain ⟨hU, hD, hR⟩ := M.poly_calls sx.out lx st.out lt0 lt1 hf
    have hP : M.phasesR ts f = (M.phases ts f, 0) := by
      rw [M.phasesR, M.taps_of st.out lt0 (by omega), show M.fac (f : Int) = true by simp [M.fac, M.inn]; omega]
      simp only [if_true]
      rw [Int.toNat_natCast]
    have HU := Lib.hid hU
    have HD := Lib.hid hD
    have HR := Lib.hid hR
    have HP := Lib.hid hP
    clear hU hD hR hP
    go_wp2_with fail
    refine (impl_PhasesOf _ _ _ _ _ w1 rt (by omega)).mono ?_
    rintro e w2 ⟨v2, rfl, o2, b2⟩
    rw [show M.phasesR ts (f : Int) = (M.phases ts f, 0) from HP.out] at o2 ⊢
    obtain ⟨A2, c2, rfl⟩ := o2.shape
    have B2 := bel_trans b1 b2
    have rx2 := rx.later b2
    have rt2 := rt.later b2
    go_wp2_with fail
    refine (impl_FilterExpand _ _ _ _ _ _ _ _ _ w2 rx2 rt2 (by omega) (by omega)).mono ?_
    rintro e w3 ⟨v3, rfl, o3, b3⟩
    rw [show M.FilterExpand xs ts (f : Int) = (M.tapL ts (M.expandL xs f false), 0) from HU.out] at o3 ⊢
    obtain ⟨A3, c3, rfl, r3⟩ := o3.shape
    have B3 := bel_trans B2 b3
    have rx3 := rx2.later b3
    have rt3 := rt2.later b3
    have q2 := (o2.read).later b3
    clear o3 o2
    go_wp2_with fail
    refine (impl_FilterDecimate _ _ _ _ _ _ _ _ _ w3 rx3 rt3 (by omega) (by omega)).mono ?_
    rintro e w4 ⟨v4, rfl, o4, b4⟩
    rw [show M.FilterDecimate xs ts (f : Int) = (M.decL (M.tapL ts xs) f 0, 0) from HD.out] at o4 ⊢
    obtain ⟨A4, c4, rfl, r4⟩ := o4.shape
    have B4 := bel_trans B3 b4
    have rx4 := rx3.later b4
    have q4 := q2.later b4
    have r34 := r3.later b4
    have hpl := Lib.hid (M.phases_len ts f)
    have hdl : (M.decL (M.tapL ts xs) f 0).length ≤ 24 := by have := M.decL_len (M.tapL ts xs) f 0; rw [M.tapL_len] at this; omega
    clear o4 rt3 rt2 rt
    rw [hpl.out] at q4 ⊢
    go_wp2_with (at_make; refine wpList_mk ei_i64 rfl _ _ rfl (M.decL (M.tapL ts xs) f 0).length _ _ rfl rfl rfl rfl (by omega) (by unfold maxLen; omega) ?_; intro w5 own5 b5)
    have own5' : OI 2 w4.heap.size w5 (.slice (some ⟨w4.heap.size, 0, none⟩) (M.decL (M.tapL ts xs) f 0).length (M.decL (M.tapL ts xs) f 0).length) (M.accS xs ts f (M.decL (M.tapL ts xs) f 0).length 0) := by
      rw [M.accS_zero]
      unfold OI
      have := toList_madeCells_one (.int .i64 0) (M.decL (M.tapL ts xs) f 0).length
      simp only [Nat.mul_one, Value.cells] at own5
      rw [this] at own5
      simpa using own5
    have s5 : w4.heap.size + 1 ≤ w5.heap.size := (World.ownsRow.lt own5 _ rfl).2
    clear own5
    have HEND := Lib.hid (M.accS_end hf.1 xs ts)
    generalize hd : (M.decL (M.tapL ts xs) f 0).length = d at *
    have HDL := Lib.hid hd
    clear hd
    go_loopw [13] (fun i wr => ∃ r : Nat, i = .int .i64 r ∧ r ≤ f ∧ OI 2 w4.heap.size wr (.slice (some ⟨w4.heap.size, 0, none⟩) d d) (M.accS xs ts f d r) ∧ w4.heap.size + 1 ≤ wr.heap.size ∧ Below w4.heap.size w4 wr) (fun i _ => f - (intOf i).toNat)
    case atStart => exact ⟨0, rfl, by omega, own5', s5, b5⟩
    case round =>
      obtain ⟨r, rfl, hr, own, hsz, hb⟩ := hrel
      have rx5 := rx4.later hb
      by_cases hlt : r < f
      · obtain ⟨hA, hB, hC⟩ := HR.out r hlt
        have HA := Lib.hid hA
        have HB := Lib.hid hB
        have HC := Lib.hid hC
        have hph := Lib.hid (M.phases_at (xs := ts) hlt)
        have hshort := M.dec_short ts f r
        have hU5 := r34.later hb
        have hup : (M.tapL ts (M.expandL xs f false)).length ≤ 1000000000 := by
          rw [M.tapL_len, M.expandL_len _ hf.1]
          have := Nat.mul_le_mul hf.2 lx
          omega
        clear hA hB hC
        go_wp2_with fail
        refine (impl_DecimateSignal _ _ _ _ _ _ wr hU5 hup).mono ?_
        rintro e w6 ⟨v6, rfl, o6, b6⟩
        rw [HA.out] at o6 ⊢
        obtain ⟨A6, c6, rfl, -⟩ := o6.shape
        have tl := Lib.hid (M.tapL_len (M.decL ts f r) xs)
        have x6 := OX.of_own o6
        rw [tl.out] at x6 ⊢
        have s6 := b6.size
        have own6 := own.below b6
        have rx6 := rx5.later b6
        have B6 := bel_trans' hb (by omega) b6
        clear o6
        go_wp2_with (at_make; refine wpList_mk ei_i64 rfl _ _ rfl xs.length _ _ rfl rfl rfl rfl (by omega) (by unfold maxLen; omega) ?_; intro w7 own7 b7)
        have s7 := b7.size
        have z7 : OI 2 w6.heap.size w7 (.slice (some ⟨w6.heap.size, 0, none⟩) xs.length xs.length) (List.replicate xs.length 0) := by
          unfold OI
          have := toList_madeCells_one (.int .i64 0) xs.length
          simp only [Nat.mul_one, Value.cells] at own7
          rw [this] at own7
          simpa using own7
        clear own7
        have x7 := x6.below b7 (Nat.le_refl _)
        have own7 := own6.below b7
        have rx7 := rx6.later b7
        have B7 := bel_trans' B6 (by omega) b7
        go_wp2_with fail
        refine (spec_DelaySignal _ _ _ _ _ w7 rx7 (M.sig_of sx.out (by omega)) lx (by omega)).mono ?_
        rintro e w8 ⟨v8, rfl, o8, b8⟩
        obtain ⟨A8, c8, rfl, r8⟩ := o8.shape
        have s8 := b8.size
        have hll : (M.late xs r).length ≤ 40 := by rw [M.late_len]; omega
        have x8 := x7.below b8 (by omega)
        have own8 := own7.below b8
        have rx8 := rx7.later b8
        have z8 := OI.below z7 b8
        have B8 := bel_trans' B7 (by omega) b8
        have q8 := (q4.later hb).later (bel_trans (bel_trans b6 b7) b8)
        go_wp2_with fail
        refine (spec_DecimateSignal _ _ _ _ _ _ w8 r8 (by omega)).mono ?_
        rintro e w9 ⟨v9, rfl, o9, b9⟩
        rw [HB.out] at o9 ⊢
        obtain ⟨A9, c9, rfl, r9⟩ := o9.shape
        have s9 := b9.size
        have x9 := x8.below b9 (by omega)
        have own9 := own8.below b9
        have rx9 := rx8.later b9
        have z9 := OI.below z8 b9
        have B9 := bel_trans' B8 (by omega) b9
        have q9 := q8.later b9
        have hsl : (M.decL (M.late xs r) f 0).length ≤ 40 := by have := M.dec_short (M.late xs r) f 0; omega
        have hdz : d ≤ (M.decL (M.late xs r) f 0).length := by
          have := M.dec_len_le hf.1 (a := M.tapL ts xs) (b := M.late xs r) (by rw [M.tapL_len, M.late_len]; omega)
          have h2 := HDL.out
          omega
        obtain ⟨bp, op, cp, cs, hv, hab, -, hE, hcc⟩ := q9.atX hph.out
        simp only [Value.slice.injEq] at hv
        obtain ⟨rfl, -, rfl⟩ := hv
        obtain ⟨Ap, np, cpp, rfl⟩ := open_S hE
        have e0 : w9.cell? ⟨bp, op + r * 1, none⟩ = some (.slice Ap np cpp) := hcc 0 _ rfl
        rw [Nat.mul_one] at e0
        have rp := (sl_R.1 hE).ri
        have hpl2 := rp.len
        clear hcc o8 o9 q8 q4 x6 x7 x8 own6 own7 own8 z7 z8 rx5 rx6 rx7 rx8 r8
        by_cases hnp : 0 < np
        · obtain ⟨hT1, hT2⟩ := HC.out (by omega)
          have HT1 := Lib.hid hT1
          have HT2 := Lib.hid hT2
          have HPL := Lib.hid hpl2
          have hnp2 : np ≤ 1000000000 := by omega
          clear hT1 hT2 hpl2
          go_wp2_with fail
          refine (impl_TapSignal _ _ _ _ _ _ _ _ w9 rx9 rp (by omega) hnp2).mono ?_
          rintro e w10 ⟨v10, rfl, o10, b10⟩
          rw [HT1.out] at o10 ⊢
          obtain ⟨A10, c10, rfl, -⟩ := o10.shape
          have s10 := b10.size
          have x10 := x9.below b10 (by omega)
          have y10 := OX.of_own o10
          rw [tl.out] at y10 ⊢
          have own10 := own9.below b10
          have rp10 := rp.later b10
          have r10 := r9.later b10
          have B10 := bel_trans' B9 (by omega) b10
          have f0 : w10.cell? ⟨bp, op + r, none⟩ = some (.slice Ap np cpp) := by rw [b10.cell hab]; exact e0
          go_wp2_with fail
          refine (impl_TapSignal _ _ _ _ _ _ _ _ w10 r10 rp10 (by omega) hnp2).mono ?_
          rintro e w11 ⟨v11, rfl, o11, b11⟩
          rw [HT2.out] at o11 ⊢
          obtain ⟨A11, c11, rfl, -⟩ := o11.shape
          have s11 := b11.size
          have tl2 := Lib.hid (M.tapL_len (M.decL ts f r) (M.decL (M.late xs r) f 0))
          have x11 := x10.below b11 (by omega)
          have y11 := y10.below b11 (Nat.le_refl _)
          have zz := OX.of_own o11
          rw [tl2.out] at zz ⊢
          have own11 := own10.below b11
          have B11 := bel_trans' B10 (by omega) b11
          clear o10 o11 x9 x10 y10 own9 own10 rp10 r10 z9
          have hps : (M.tapL (M.decL ts f r) xs).length = xs.length := tl.out
          have HPS := Lib.hid hps
          clear hps
          go_wp2_with fail
          obtain ⟨wo, rfl⟩ : ∃ wo : World, wo = wr := ⟨_, rfl⟩
          go_loopw [25] (fun i wq => ∃ j : Nat, i = .int .i64 j ∧ j ≤ d ∧ OI 2 w4.heap.size wq (.slice (some ⟨w4.heap.size, 0, none⟩) d d) ((M.accS xs ts f d (r + 1)).take j ++ (M.accS xs ts f d r).drop j) ∧ Mid w4.heap.size (w4.heap.size + 1) w11 wq) (fun i _ => d - (intOf i).toNat)
          case atStart => exact ⟨0, rfl, by omega, by simpa using own11, Mid.refl _ _ _⟩
          case round =>
            obtain ⟨j, rfl, hj, ownj, hm⟩ := hrel
            obtain ⟨wq, rfl⟩ : ∃ wq : World, wq = wr := ⟨_, rfl⟩
            have zj := zz.mid hm (.inr (by omega)) (Nat.le_refl _)
            by_cases hlt2 : j < d
            · obtain ⟨x, X, hc2, hf2, _, _⟩ := ownj.at' hlt2
              have hzj : j < (M.decL (M.late xs r) f 0).length := by omega
              obtain ⟨g, rfl, hg1, hg2, hg3, -⟩ := zj.form (by omega)
              have hY := Lib.hid (List.getElem?_eq_getElem (l := M.tapL (M.decL ts f r) (M.decL (M.late xs r) f 0)) (i := j) (by rw [tl2.out]; exact hzj))
              generalize (M.tapL (M.decL ts f r) (M.decL (M.late xs r) f 0))[j]'(by rw [tl2.out]; exact hzj) = y at hY
              have hcz : wq.cell? ⟨g, j, none⟩ = some (.int .i64 y) := (zj.cell (j := j) (u := .int .i64 y) (by rw [List.getElem?_map, hY.out]; rfl)).1
              have hX2 := Lib.hid (show (M.accS xs ts f d r)[j]? = some x by rw [← M.mid_at (c := M.accS xs ts f d (r + 1)) (by rw [M.accS_len, M.accS_len])]; exact X.out)
              go_wp2
              refine wp_region_still_tail 12 (by kernel_rfl) (by kernel_rfl) ?_
              simp only [List.take_succ_cons, List.take_zero, List.drop_succ_cons, List.drop_zero]
              iterate 10 still_step
              still_call (still_of (spec_WrapAdd _ _ _))
              still_step
              refine wpStill_nil ?_
              change wpList _ _ _ _ _ wq.drew
              go_wp2
              go_roundw
              case rel =>
                have h3 := OI.stored' ownj j (wrap32 (x + y))
                rw [M.set_mid (by rw [M.accS_len, M.accS_len]) (M.accS_step hlt2 hzj hX2.out hY.out)] at h3
                have hdr : Mid w4.heap.size (w4.heap.size + 1) wq wq.drew := ⟨rfl, rfl, rfl, Nat.le_refl _, fun _ _ _ => rfl⟩
                exact ⟨j + 1, by go_num, by omega, h3, (hm.trans hdr).trans (Mid.of_grown (grown_setCell wq.drew w4.heap.size j _) fun k hk => by injection hk with hk; omega)⟩
              case measure => simp [intOf]; omega
            · obtain rfl : j = d := by omega
              have px : RI wq wq.heap.size A6 xs.length (M.tapL (M.decL ts f r) xs) := (x11.mid hm (.inr (by omega)) (by omega)).reads
              have py : RI wq wq.heap.size A10 xs.length (M.tapL (M.decL ts f r) xs) := (y11.mid hm (.inr (by omega)) (by omega)).reads
              rw [List.take_of_length_le (by rw [M.accS_len]; exact Nat.le_refl _), List.drop_eq_nil_of_le (by rw [M.accS_len]; exact Nat.le_refl _), List.append_nil] at ownj
              have smq := hm.size
              have Bq := B11.trans (hm.toBelow (by omega))
              go_wp2_with fail
              refine (laws_a2Same _ _ _ _ _ _ _ _ _ px py (by omega)).mono ?_
              rintro e w12 ⟨rfl, b12⟩
              rw [decide_eq_true rfl]
              have s12 := b12.size
              go_wp2
              go_roundw
              case rel => exact ⟨r + 1, by go_num, by omega, ownj.below b12, by omega, bel_trans' Bq (by omega) b12⟩
              case measure => simp [intOf]; omega
        · have hnil : M.decL ts f r = [] := List.eq_nil_of_length_eq_zero (by omega)
          have hnp0 : np = 0 := by omega
          subst hnp0
          have hsame := Lib.hid (show decide (M.tapL (M.decL ts f r) xs = List.replicate xs.length 0) = true by rw [decide_eq_true_eq, hnil, M.tap_none])
          have hacc := Lib.hid (M.accS_none (xs := xs) (d := d) hnil)
          have px : RI w9 w9.heap.size A6 xs.length (M.tapL (M.decL ts f r) xs) := x9.reads
          have pz : RI w9 w9.heap.size (some ⟨w6.heap.size, 0, none⟩) xs.length (List.replicate xs.length 0) := by
            have h1 := z9.shape
            obtain ⟨Az, cz, hvz, hrz⟩ := h1
            simp only [Value.slice.injEq] at hvz
            obtain ⟨rfl, hl1, -⟩ := hvz
            rw [hl1]
            rw [List.length_replicate] at hrz ⊢
            exact hrz
          clear hnil hpl2 HC
          go_wp2_with fail
          refine (laws_a2Same _ _ _ _ _ _ _ _ _ px pz (by omega)).mono ?_
          rw [hsame.out]
          rintro e w12 ⟨rfl, b12⟩
          have s12 := b12.size
          go_wp2
          go_roundw
          case rel => exact ⟨r + 1, by go_num, by omega, by rw [hacc.out]; exact own9.below b12, by omega, bel_trans' B9 (by omega) b12⟩
          case measure => simp [intOf]; omega
      · obtain rfl : r = f := by omega
        have pr : RI wr wr.heap.size (some ⟨w4.heap.size, 0, none⟩) d (M.accS xs ts r d r) := by
          obtain ⟨Az, cz, hvz, hrz⟩ := own.shape
          simp only [Value.slice.injEq] at hvz
          obtain ⟨rfl, hl1, -⟩ := hvz
          rw [← hl1] at hrz
          exact hrz
        have r4' := r4.later hb
        go_wp2_with fail
        refine (laws_a2Same _ _ _ _ _ _ _ _ _ pr r4' (by omega)).mono ?_
        rw [HEND.out, decide_eq_true rfl]
        rintro e w12 ⟨rfl, b12⟩
        go_wp2
        go_ret
        exact ⟨rfl, bel_trans (bel_trans B4 hb) b12⟩
  · go_enter Try.func10, Try.ntmps10
    go_wp2_with fail
    refine (laws_a2Long _ _ _ _ _ _ _).mono ?_
    rw [hlong]
    rintro e w' ⟨rfl, rfl⟩
    go_wp2
    go_ret
    exact ⟨rfl, Below.refl _ _⟩
end Go.Proofs.Ytafbhangjeddaaa
