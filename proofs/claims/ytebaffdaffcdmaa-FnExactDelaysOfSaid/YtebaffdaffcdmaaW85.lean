import Derived.Test.YtebaffdaffcdmaaW84
namespace Go.Proofs.Ytebaffdaffcdmaa
open Go.RowKit
set_option maxHeartbeats 4000000
set_option maxRecDepth 100000
theorem impl_SameMixer (A A' : Option Addr) (n c n' c' : Nat) (xs ys : List Strip) (w : World) (hx : tM.R w w.heap.size [.slice A n c] xs) (hy : tM.R w w.heap.size [.slice A' n' c'] ys) (hn : hM.sz xs ≤ 100000000) (hn' : hM.sz ys ≤ 100000000) :
    Calls Try.prog 14 #[.agg #[.slice A n c], .agg #[.slice A' n' c']] w fun e w' => e = .returned (.bool (decide (xs = ys))) ∧ Below w.heap.size w w' := by
  obtain ⟨W, hW⟩ : ∃ W, W = (w.alloc (.cells #[.slice A n c] 29)).alloc (.cells #[.slice A' n' c'] 29) := ⟨_, rfl⟩
  have B0 : Below w.heap.size w W := by rw [hW]; exact ((Below.refl _ _).alloc (Nat.le_refl _) _).alloc (by simp) _
  have hs0 : W.heap.size = w.heap.size + 1 + 1 := by rw [hW]; simp
  have a0 : W.cell? ⟨w.heap.size, 0, none⟩ = some (.slice A n c) := by rw [hW]; simp [go_sem]
  have b0 : W.cell? ⟨w.heap.size + 1, 0, none⟩ = some (.slice A' n' c') := by rw [hW]; simp [go_sem]
  have HW := Lib.hid hW
  clear hW
  have lx : w.heap.size < W.heap.size := by omega
  have ly : w.heap.size + 1 < W.heap.size := by omega
  have rx := sl_R.1 hx
  have ry := sl_R.1 hy
  have hlx := rx.cap.1
  have hly := ry.cap.1
  have hm1 : xs.length + hSt.szL xs ≤ 100000000 := hn
  have hm2 : ys.length + hSt.szL ys ≤ 100000000 := hn'
  by_cases hnn : ¬ n = n'
  · have R := Lib.hid (show decide (xs = ys) = false by rw [decide_eq_false_iff_not]; intro e; exact hnn (by rw [← hlx, ← hly, e]))
    have hne : ((n : Int) != (n' : Int)) = true := by simp; omega
    clear hlx hly
    go_enter Try.func14, Try.ntmps14
    go_wp2_with fail
    rw [← HW.out]
    go_ret
    exact ⟨ret_bool (by rw [R.out]), B0⟩
  replace hnn : n = n' := Decidable.not_not.1 hnn
  subst hnn
  have HLX := Lib.hid hlx
  have HLY := Lib.hid hly
  have hnb : n ≤ 100000000 := by omega
  have hm1' := Lib.hid hm1
  have hm2' := Lib.hid hm2
  clear hlx hly hx hy hn hn' hm1 hm2
  go_enter Try.func14, Try.ntmps14
  go_wp2_with fail
  rw [← HW.out]
  go_loopw [5, 6, 17] (fun _ _ i wr => ∃ k : Nat, i = .int .i64 k ∧ k ≤ n ∧ Hid (xs.take k = ys.take k) ∧ Below W.heap.size W wr) (fun _ _ i _ => n - (intOf i).toNat)
  case atStart => exact ⟨0, rfl, by omega, Lib.hid (by simp), Below.refl _ _⟩
  case round =>
    obtain ⟨k, rfl, hk, H, hb⟩ := hrel
    have Bw : Below w.heap.size w wr := B0.trans (hb.mono B0.size)
    have hsw := hb.size
    have c0 : wr.cell? ⟨w.heap.size, 0, none⟩ = some (.slice A n c) := by rw [hb.cell lx]; exact a0
    have d0 : wr.cell? ⟨w.heap.size + 1, 0, none⟩ = some (.slice A' n c') := by rw [hb.cell ly]; exact b0
    have lx1 : w.heap.size < wr.heap.size := by omega
    have ly1 : w.heap.size + 1 < wr.heap.size := by omega
    by_cases hlt : k < n
    · have hX := Lib.hid (List.getElem?_eq_getElem (l := xs) (i := k) (by rw [HLX.out]; exact hlt))
      have hY := Lib.hid (List.getElem?_eq_getElem (l := ys) (i := k) (by rw [HLY.out]; exact hlt))
      obtain ⟨b, o1, cc, cs, hv, hab, -, hE, hcc⟩ := (rx.below Bw).atX hX.out
      obtain ⟨b', o2, cc', cs', hv', hab', -, hE', hdd⟩ := (ry.below Bw).atX hY.out
      simp only [Value.slice.injEq] at hv hv'
      obtain ⟨rfl, -, rfl⟩ := hv
      obtain ⟨rfl, -, rfl⟩ := hv'
      have hU := hSt.szL_at hX.out
      have hV := hSt.szL_at hY.out
      generalize xs[k]'(by rw [HLX.out]; exact hlt) = x at hX hE hU
      generalize ys[k]'(by rw [HLY.out]; exact hlt) = y at hY hE' hV
      obtain ⟨s, l, us⟩ := x
      obtain ⟨s', l', vs⟩ := y
      rw [hSt_sz] at hU hV
      obtain ⟨A1, n1, c1, rfl, -, hE⟩ := st_R.1 hE
      obtain ⟨A2, n2, c2, rfl, -, hE'⟩ := st_R.1 hE'
      have n1b : n1 ≤ 1000000000 := by have := (tSdS_ra hE).1.1; have := hm1'.out; omega
      have n2b : n2 ≤ 1000000000 := by have := (tSdS_ra hE').1.1; have := hm2'.out; omega
      have e0 : wr.cell? ⟨b, o1 + k * 3, none⟩ = some (.string s) := hcc 0 _ rfl
      have e1 : wr.cell? ⟨b, o1 + k * 3 + 1, none⟩ = some (.int .i64 l) := hcc 1 _ rfl
      have e2 : wr.cell? ⟨b, o1 + k * 3 + 2, none⟩ = some (.slice A1 n1 c1) := hcc 2 _ rfl
      have f0 : wr.cell? ⟨b', o2 + k * 3, none⟩ = some (.string s') := hdd 0 _ rfl
      have f1 : wr.cell? ⟨b', o2 + k * 3 + 1, none⟩ = some (.int .i64 l') := hdd 1 _ rfl
      have f2 : wr.cell? ⟨b', o2 + k * 3 + 2, none⟩ = some (.slice A2 n2 c2) := hdd 2 _ rfl
      have hbr : b < wr.heap.size := Nat.lt_of_lt_of_le hab Bw.size
      have hbr' : b' < wr.heap.size := Nat.lt_of_lt_of_le hab' Bw.size
      replace hE := tSdS.more Bw.size hE
      replace hE' := tSdS.more Bw.size hE'
      clear hcc hdd hU hV
      obtain ⟨U, hU⟩ : ∃ U, U = wr.alloc (.cells #[.string s, .int .i64 l, .slice A1 n1 c1] 57) := ⟨_, rfl⟩
      have G0 : Below wr.heap.size wr U := by rw [hU]; exact (Below.refl _ _).alloc (Nat.le_refl _) _
      have sU : wr.heap.size < U.heap.size := by rw [hU]; simp
      have g0 : U.cell? ⟨wr.heap.size, 0, none⟩ = some (.string s) := by rw [hU, cell_of_row _ wr.heap.size 0 _ 57 (0, 0) (heap_alloc_new wr _)]; rfl
      have g1 : U.cell? ⟨wr.heap.size, 1, none⟩ = some (.int .i64 l) := by rw [hU, cell_of_row _ wr.heap.size 1 _ 57 (0, 0) (heap_alloc_new wr _)]; rfl
      have g2 : U.cell? ⟨wr.heap.size, 2, none⟩ = some (.slice A1 n1 c1) := by rw [hU, cell_of_row _ wr.heap.size 2 _ 57 (0, 0) (heap_alloc_new wr _)]; rfl
      have h0 : U.cell? ⟨b', o2 + k * 3, none⟩ = some (.string s') := by rw [G0.cell hbr']; exact f0
      have h1 : U.cell? ⟨b', o2 + k * 3 + 1, none⟩ = some (.int .i64 l') := by rw [G0.cell hbr']; exact f1
      have h2 : U.cell? ⟨b', o2 + k * 3 + 2, none⟩ = some (.slice A2 n2 c2) := by rw [G0.cell hbr']; exact f2
      have d1 : U.cell? ⟨w.heap.size + 1, 0, none⟩ = some (.slice (some ⟨b', o2, none⟩) n c') := by rw [G0.cell ly1]; exact d0
      have HU := Lib.hid hU
      clear hU
      have l1 : wr.heap.size < U.heap.size := sU
      have l2 : b' < U.heap.size := by omega
      have l3 : w.heap.size + 1 < U.heap.size := by omega
      have D1 : Below U.heap.size U (U.drewN 1) := below_drewN (Below.refl _ _) 1
      have hF := tSdS.later (tSdS.later hE G0) D1
      have hF' := tSdS.later (tSdS.later hE' G0) D1
      by_cases hp : ((s, l, us) : Strip) = (s', l', vs)
      · have HD := Lib.hid (decide_eq_true hp)
        have HP := Lib.hid hp
        clear hp
        go_wp2
        rw [← HU.out]
        go_region_held3 (fun w' => Below U.heap.size U w' ∧ w'.cell? ⟨w.heap.size + 1, 0, none⟩ = some (.slice (some ⟨b', o2, none⟩) n c') ∧ w'.cell? ⟨wr.heap.size, 0, none⟩ = some (.string s) ∧ w'.cell? ⟨wr.heap.size, 1, none⟩ = some (.int .i64 l) ∧ w'.cell? ⟨wr.heap.size, 2, none⟩ = some (.slice A1 n1 c1) ∧ w'.cell? ⟨b', o2 + k * 3, none⟩ = some (.string s') ∧ w'.cell? ⟨b', o2 + k * 3 + 1, none⟩ = some (.int .i64 l') ∧ w'.cell? ⟨b', o2 + k * 3 + 2, none⟩ = some (.slice A2 n2 c2))
          (first | exact ⟨below_drewN (Below.refl _ _) _, d1, g0, g1, g2, h0, h1, h2⟩ | exact ⟨G2, (by rw [G2.cell l3]; exact d1), (by rw [G2.cell l1]; exact g0), (by rw [G2.cell l1]; exact g1), (by rw [G2.cell l1]; exact g2), (by rw [G2.cell l2]; exact h0), (by rw [G2.cell l2]; exact h1), (by rw [G2.cell l2]; exact h2)⟩)
          (first | (go_at_call 40; refine (impl_sameStrip _ _ _ _ _ _ _ _ _ _ _ _ _ hF hF' n1b n2b).mono ?_; rw [HD.out]; rintro e w2 ⟨rfl, bel2⟩; have G2 := bel_trans D1 bel2))
        go_wp2
        go_roundw
        case rel => exact ⟨k + 1, by go_num, by omega, Lib.hid (by rw [M.take_at hX.out, M.take_at hY.out, H.out, HP.out]), bel_trans' hb hsw (bel_trans G0 G2)⟩
        case measure => simp [intOf]; omega
      · have HD := Lib.hid (decide_eq_false hp)
        have R := Lib.hid (show decide (xs = ys) = false by
          rw [decide_eq_false_iff_not]
          intro e
          have h1 := hX.out
          rw [e, hY.out] at h1
          injection h1 with h1
          exact hp h1.symm)
        clear hp
        go_wp2
        rw [← HU.out]
        go_region_held3 (fun w' => Below U.heap.size U w' ∧ w'.cell? ⟨w.heap.size + 1, 0, none⟩ = some (.slice (some ⟨b', o2, none⟩) n c') ∧ w'.cell? ⟨wr.heap.size, 0, none⟩ = some (.string s) ∧ w'.cell? ⟨wr.heap.size, 1, none⟩ = some (.int .i64 l) ∧ w'.cell? ⟨wr.heap.size, 2, none⟩ = some (.slice A1 n1 c1) ∧ w'.cell? ⟨b', o2 + k * 3, none⟩ = some (.string s') ∧ w'.cell? ⟨b', o2 + k * 3 + 1, none⟩ = some (.int .i64 l') ∧ w'.cell? ⟨b', o2 + k * 3 + 2, none⟩ = some (.slice A2 n2 c2))
          (first | exact ⟨below_drewN (Below.refl _ _) _, d1, g0, g1, g2, h0, h1, h2⟩ | exact ⟨G2, (by rw [G2.cell l3]; exact d1), (by rw [G2.cell l1]; exact g0), (by rw [G2.cell l1]; exact g1), (by rw [G2.cell l1]; exact g2), (by rw [G2.cell l2]; exact h0), (by rw [G2.cell l2]; exact h1), (by rw [G2.cell l2]; exact h2)⟩)
          (first | (go_at_call 40; refine (impl_sameStrip _ _ _ _ _ _ _ _ _ _ _ _ _ hF hF' n1b n2b).mono ?_; rw [HD.out]; rintro e w2 ⟨rfl, bel2⟩; have G2 := bel_trans D1 bel2))
        go_wp2
        go_ret
        exact ⟨ret_bool (by rw [R.out]), bel_trans Bw (bel_trans G0 G2)⟩
    · go_wp2
      go_ret
      have h1 : xs = ys := by have := H.out; rwa [List.take_of_length_le (by rw [HLX.out]; omega), List.take_of_length_le (by rw [HLY.out]; omega)] at this
      exact ⟨ret_bool (by rw [h1]; simp), Bw⟩
theorem spec_SameMixer (A A' : Option Addr) (n c n' c' : Nat) (xs ys : List Strip) (w : World) (hx : tM.R w w.heap.size [.slice A n c] xs) (hy : tM.R w w.heap.size [.slice A' n' c'] ys) (hn : hM.sz xs ≤ 100000000) (hn' : hM.sz ys ≤ 100000000) :
    Calls Try.prog 12 #[.agg #[.slice A n c], .agg #[.slice A' n' c']] w fun e w' => e = .returned (.bool (decide (xs = ys))) ∧ Below w.heap.size w w' := by
  obtain ⟨W, hW⟩ : ∃ W, W = (w.alloc (.cells #[.slice A n c] 29)).alloc (.cells #[.slice A' n' c'] 29) := ⟨_, rfl⟩
  have B0 : Below w.heap.size w W := by rw [hW]; exact ((Below.refl _ _).alloc (Nat.le_refl _) _).alloc (by simp) _
  have hs0 : W.heap.size = w.heap.size + 1 + 1 := by rw [hW]; simp
  have a0 : W.cell? ⟨w.heap.size, 0, none⟩ = some (.slice A n c) := by rw [hW]; simp [go_sem]
  have b0 : W.cell? ⟨w.heap.size + 1, 0, none⟩ = some (.slice A' n' c') := by rw [hW]; simp [go_sem]
  have HW := Lib.hid hW
  clear hW
  have lx : w.heap.size < W.heap.size := by omega
  have ly : w.heap.size + 1 < W.heap.size := by omega
  have rx := sl_R.1 hx
  have ry := sl_R.1 hy
  have hlx := rx.cap.1
  have hly := ry.cap.1
  have hm1 : xs.length + hSt.szL xs ≤ 100000000 := hn
  have hm2 : ys.length + hSt.szL ys ≤ 100000000 := hn'
  by_cases hnn : ¬ n = n'
  · have R := Lib.hid (show decide (xs = ys) = false by rw [decide_eq_false_iff_not]; intro e; exact hnn (by rw [← hlx, ← hly, e]))
    have hne : ((n : Int) != (n' : Int)) = true := by simp; omega
    clear hlx hly
    go_enter Try.func12, Try.ntmps12
    go_wp2_with fail
    rw [← HW.out]
    go_ret
    exact ⟨ret_bool (by rw [R.out]), B0⟩
  replace hnn : n = n' := Decidable.not_not.1 hnn
  subst hnn
  have HLX := Lib.hid hlx
  have HLY := Lib.hid hly
  have hnb : n ≤ 100000000 := by omega
  have hm1' := Lib.hid hm1
  have hm2' := Lib.hid hm2
  clear hlx hly hx hy hn hn' hm1 hm2
  go_enter Try.func12, Try.ntmps12
  go_wp2_with fail
  rw [← HW.out]
  go_loopw [5] (fun i wr => ∃ k : Nat, i = .int .i64 k ∧ k ≤ n ∧ Hid (xs.take k = ys.take k) ∧ Below W.heap.size W wr) (fun i _ => n - (intOf i).toNat)
  case atStart => exact ⟨0, rfl, by omega, Lib.hid (by simp), Below.refl _ _⟩
  case round =>
    obtain ⟨k, rfl, hk, H, hb⟩ := hrel
    have Bw : Below w.heap.size w wr := B0.trans (hb.mono B0.size)
    have hsw := hb.size
    have c0 : wr.cell? ⟨w.heap.size, 0, none⟩ = some (.slice A n c) := by rw [hb.cell lx]; exact a0
    have d0 : wr.cell? ⟨w.heap.size + 1, 0, none⟩ = some (.slice A' n c') := by rw [hb.cell ly]; exact b0
    have lx1 : w.heap.size < wr.heap.size := by omega
    have ly1 : w.heap.size + 1 < wr.heap.size := by omega
    by_cases hlt : k < n
    · have hX := Lib.hid (List.getElem?_eq_getElem (l := xs) (i := k) (by rw [HLX.out]; exact hlt))
      have hY := Lib.hid (List.getElem?_eq_getElem (l := ys) (i := k) (by rw [HLY.out]; exact hlt))
      obtain ⟨b, o1, cc, cs, hv, hab, -, hE, hcc⟩ := (rx.below Bw).atX hX.out
      obtain ⟨b', o2, cc', cs', hv', hab', -, hE', hdd⟩ := (ry.below Bw).atX hY.out
      simp only [Value.slice.injEq] at hv hv'
      obtain ⟨rfl, -, rfl⟩ := hv
      obtain ⟨rfl, -, rfl⟩ := hv'
      have hU := hSt.szL_at hX.out
      have hV := hSt.szL_at hY.out
      generalize xs[k]'(by rw [HLX.out]; exact hlt) = x at hX hE hU
      generalize ys[k]'(by rw [HLY.out]; exact hlt) = y at hY hE' hV
      obtain ⟨s, l, us⟩ := x
      obtain ⟨s', l', vs⟩ := y
      rw [hSt_sz] at hU hV
      obtain ⟨A1, n1, c1, rfl, -, hE⟩ := st_R.1 hE
      obtain ⟨A2, n2, c2, rfl, -, hE'⟩ := st_R.1 hE'
      have n1b : n1 ≤ 1000000000 := by have := (tSdS_ra hE).1.1; have := hm1'.out; omega
      have n2b : n2 ≤ 1000000000 := by have := (tSdS_ra hE').1.1; have := hm2'.out; omega
      have e0 : wr.cell? ⟨b, o1 + k * 3, none⟩ = some (.string s) := hcc 0 _ rfl
      have e1 : wr.cell? ⟨b, o1 + k * 3 + 1, none⟩ = some (.int .i64 l) := hcc 1 _ rfl
      have e2 : wr.cell? ⟨b, o1 + k * 3 + 2, none⟩ = some (.slice A1 n1 c1) := hcc 2 _ rfl
      have f0 : wr.cell? ⟨b', o2 + k * 3, none⟩ = some (.string s') := hdd 0 _ rfl
      have f1 : wr.cell? ⟨b', o2 + k * 3 + 1, none⟩ = some (.int .i64 l') := hdd 1 _ rfl
      have f2 : wr.cell? ⟨b', o2 + k * 3 + 2, none⟩ = some (.slice A2 n2 c2) := hdd 2 _ rfl
      have hbr : b < wr.heap.size := Nat.lt_of_lt_of_le hab Bw.size
      have hbr' : b' < wr.heap.size := Nat.lt_of_lt_of_le hab' Bw.size
      replace hE := tSdS.more Bw.size hE
      replace hE' := tSdS.more Bw.size hE'
      clear hcc hdd hU hV
      have D1 : Below wr.heap.size wr (wr.drewN 1) := below_drewN (Below.refl _ _) 1
      have hF := tSdS.later hE D1
      have hF' := tSdS.later hE' D1
      by_cases hp : ((s, l, us) : Strip) = (s', l', vs)
      · have HD := Lib.hid (decide_eq_true hp)
        have HP := Lib.hid hp
        clear hp
        go_wp2
        go_region_held3 (fun w' => Below wr.heap.size wr w' ∧ w'.cell? ⟨w.heap.size, 0, none⟩ = some (.slice (some ⟨b, o1, none⟩) n c) ∧ w'.cell? ⟨w.heap.size + 1, 0, none⟩ = some (.slice (some ⟨b', o2, none⟩) n c'))
          (first | exact ⟨below_drewN (Below.refl _ _) _, c0, d0⟩ | exact ⟨G2, (by rw [G2.cell lx1]; exact c0), (by rw [G2.cell ly1]; exact d0)⟩)
          (first | (go_at_call 38; refine (spec_l26Same b (o1 + k * 3) b' (o2 + k * 3) s s' l l' A1 A2 n1 c1 n2 c2 us vs (wr.drewN 1) (by rw [D1.cell hbr]; exact e0) (by rw [D1.cell hbr']; exact f0) (by rw [D1.cell hbr]; exact e1) (by rw [D1.cell hbr']; exact f1) (by rw [D1.cell hbr]; exact e2) (by rw [D1.cell hbr']; exact f2) hF hF' n1b n2b).mono ?_; rw [HD.out]; rintro e w2 ⟨rfl, bel2⟩; have G2 := bel_trans D1 bel2))
        go_wp2
        go_roundw
        case rel => exact ⟨k + 1, by go_num, by omega, Lib.hid (by rw [M.take_at hX.out, M.take_at hY.out, H.out, HP.out]), bel_trans' hb hsw G2⟩
        case measure => simp [intOf]; omega
      · have HD := Lib.hid (decide_eq_false hp)
        have R := Lib.hid (show decide (xs = ys) = false by
          rw [decide_eq_false_iff_not]
          intro e
          have h1 := hX.out
          rw [e, hY.out] at h1
          injection h1 with h1
          exact hp h1.symm)
        clear hp
        go_wp2
        go_region_held3 (fun w' => Below wr.heap.size wr w' ∧ w'.cell? ⟨w.heap.size, 0, none⟩ = some (.slice (some ⟨b, o1, none⟩) n c) ∧ w'.cell? ⟨w.heap.size + 1, 0, none⟩ = some (.slice (some ⟨b', o2, none⟩) n c'))
          (first | exact ⟨below_drewN (Below.refl _ _) _, c0, d0⟩ | exact ⟨G2, (by rw [G2.cell lx1]; exact c0), (by rw [G2.cell ly1]; exact d0)⟩)
          (first | (go_at_call 38; refine (spec_l26Same b (o1 + k * 3) b' (o2 + k * 3) s s' l l' A1 A2 n1 c1 n2 c2 us vs (wr.drewN 1) (by rw [D1.cell hbr]; exact e0) (by rw [D1.cell hbr']; exact f0) (by rw [D1.cell hbr]; exact e1) (by rw [D1.cell hbr']; exact f1) (by rw [D1.cell hbr]; exact e2) (by rw [D1.cell hbr']; exact f2) hF hF' n1b n2b).mono ?_; rw [HD.out]; rintro e w2 ⟨rfl, bel2⟩; have G2 := bel_trans D1 bel2))
        go_wp2
        go_ret
        exact ⟨ret_bool (by rw [R.out]), bel_trans Bw G2⟩
    · go_wp2
      go_ret
      have h1 : xs = ys := by have := H.out; rwa [List.take_of_length_le (by rw [HLX.out]; omega), List.take_of_length_le (by rw [HLY.out]; omega)] at this
      exact ⟨ret_bool (by rw [h1]; simp), Bw⟩
end Go.Proofs.Ytebaffdaffcdmaa
