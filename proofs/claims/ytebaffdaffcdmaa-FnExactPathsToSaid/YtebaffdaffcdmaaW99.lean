import Derived.Test.YtebaffdaffcdmaaW97
namespace Go.Proofs.Ytebaffdaffcdmaa
open Go.RowKit Go.Sort
set_option maxHeartbeats 4000000
set_option maxRecDepth 100000
theorem impl_sumAll_gain (A : Option Addr) (n c : Nat) (xs : List Strip) (k : Int) (w : World) (hx : tM.R w w.heap.size [.slice A n c] xs) (hn : hM.sz xs ≤ 100000000) :
    Calls Try.prog 50 #[.agg #[.slice A n c], .int .i64 k, .func (.func 51) #[] #[]] w fun e w' => e = .returned (.tuple #[.int .i64 (M.sumR xs M.gainF k).1, .int .i64 (M.sumR xs M.gainF k).2]) ∧ Below w.heap.size w w' := by
  have hlx := (sl_R.1 hx).cap.1
  obtain ⟨W, hW⟩ : ∃ W, W = w.alloc (.cells #[.slice A n c] 29) := ⟨_, rfl⟩
  have B0 : Below w.heap.size w W := by rw [hW]; exact (Below.refl _ _).alloc (Nat.le_refl _) _
  have hself : W.cell? ⟨w.heap.size, 0, none⟩ = some (.slice A n c) := by rw [hW]; simp [go_sem]
  have lx : w.heap.size < W.heap.size := by rw [hW]; simp
  have hx2 := tM.later hx B0
  cases hM : M.mixOk xs
  · have R := Lib.hid (show M.sumR xs M.gainF k = (0, 1) by rw [M.sumR, hM]; rfl)
    have HM := Lib.hid hM
    have HW := Lib.hid hW
    clear hM hW
    go_enter Try.func50, Try.ntmps50
    go_wp2_with fail
    rw [← HW.out]
    go_wp2_with (go_at_call 43; refine (impl_isMixer _ _ _ _ _ hx2 hn).mono ?_; rw [HM.out]; rintro e w1 ⟨rfl, bel1⟩)
    go_ret2
    exact ⟨by rw [R.out]; rfl, bel_trans B0 bel1⟩
  · cases hI : M.inn k 0 ((xs.length : Int) - 1)
    · have R := Lib.hid (show M.sumR xs M.gainF k = (0, 2) by rw [M.sumR, hM, hI]; rfl)
      have hmn := M.mix_n hM
      have hk4 : IntKind.i64.wrap ((n : Int) - 1) = (n : Int) - 1 := IntWalk.i64_in _ (by omega)
      rw [hlx] at hI
      have HI := Lib.hid hI
      have HM := Lib.hid hM
      have HW := Lib.hid hW
      clear hM hW hI
      go_enter Try.func50, Try.ntmps50
      go_wp2_with fail
      rw [← HW.out]
      go_wp2_with (first | (go_at_call 43; refine (impl_isMixer _ _ _ _ _ hx2 hn).mono ?_; rw [HM.out]; rintro e w1 ⟨rfl, bel1⟩; have hs1 : w1.cell? ⟨w.heap.size, 0, none⟩ = some (.slice A n c) := (by rw [bel1.cell lx]; exact hself)) | (go_at_call 63; refine (impl_size_impl_Strip _ _ _ _).mono ?_; rintro e w' ⟨rfl, rfl⟩) | (go_at_call 65; refine (impl_within _ _ _ _).mono ?_; rw [HI.out]; rintro e w' ⟨rfl, rfl⟩))
      go_ret2
      exact ⟨by rw [R.out]; rfl, bel_trans B0 bel1⟩
    · exact impl_sum_gain A n c xs k w hx hn hM hI
theorem impl_sumAll_paths (A : Option Addr) (n c : Nat) (xs : List Strip) (k : Int) (w : World) (hx : tM.R w w.heap.size [.slice A n c] xs) (hn : hM.sz xs ≤ 100000000) :
    Calls Try.prog 50 #[.agg #[.slice A n c], .int .i64 k, .func (.func 52) #[] #[]] w fun e w' => e = .returned (.tuple #[.int .i64 (M.sumR xs M.oneF k).1, .int .i64 (M.sumR xs M.oneF k).2]) ∧ Below w.heap.size w w' := by
  have hlx := (sl_R.1 hx).cap.1
  obtain ⟨W, hW⟩ : ∃ W, W = w.alloc (.cells #[.slice A n c] 29) := ⟨_, rfl⟩
  have B0 : Below w.heap.size w W := by rw [hW]; exact (Below.refl _ _).alloc (Nat.le_refl _) _
  have hself : W.cell? ⟨w.heap.size, 0, none⟩ = some (.slice A n c) := by rw [hW]; simp [go_sem]
  have lx : w.heap.size < W.heap.size := by rw [hW]; simp
  have hx2 := tM.later hx B0
  cases hM : M.mixOk xs
  · have R := Lib.hid (show M.sumR xs M.oneF k = (0, 1) by rw [M.sumR, hM]; rfl)
    have HM := Lib.hid hM
    have HW := Lib.hid hW
    clear hM hW
    go_enter Try.func50, Try.ntmps50
    go_wp2_with fail
    rw [← HW.out]
    go_wp2_with (go_at_call 43; refine (impl_isMixer _ _ _ _ _ hx2 hn).mono ?_; rw [HM.out]; rintro e w1 ⟨rfl, bel1⟩)
    go_ret2
    exact ⟨by rw [R.out]; rfl, bel_trans B0 bel1⟩
  · cases hI : M.inn k 0 ((xs.length : Int) - 1)
    · have R := Lib.hid (show M.sumR xs M.oneF k = (0, 2) by rw [M.sumR, hM, hI]; rfl)
      have hmn := M.mix_n hM
      have hk4 : IntKind.i64.wrap ((n : Int) - 1) = (n : Int) - 1 := IntWalk.i64_in _ (by omega)
      rw [hlx] at hI
      have HI := Lib.hid hI
      have HM := Lib.hid hM
      have HW := Lib.hid hW
      clear hM hW hI
      go_enter Try.func50, Try.ntmps50
      go_wp2_with fail
      rw [← HW.out]
      go_wp2_with (first | (go_at_call 43; refine (impl_isMixer _ _ _ _ _ hx2 hn).mono ?_; rw [HM.out]; rintro e w1 ⟨rfl, bel1⟩; have hs1 : w1.cell? ⟨w.heap.size, 0, none⟩ = some (.slice A n c) := (by rw [bel1.cell lx]; exact hself)) | (go_at_call 63; refine (impl_size_impl_Strip _ _ _ _).mono ?_; rintro e w' ⟨rfl, rfl⟩) | (go_at_call 65; refine (impl_within _ _ _ _).mono ?_; rw [HI.out]; rintro e w' ⟨rfl, rfl⟩))
      go_ret2
      exact ⟨by rw [R.out]; rfl, bel_trans B0 bel1⟩
    · exact impl_sum_paths A n c xs k w hx hn hM hI
theorem spec_l26Ask (vb : Nat) (A : Option Addr) (n c : Nat) (xs : List Strip) (k : Int) (w : World) (hv0 : w.cell? ⟨vb, 0, none⟩ = some (.slice A n c)) (hx : tM.R w w.heap.size [.slice A n c] xs) (hn : hM.sz xs ≤ 100000000) (f : Int × Int → Int) :
    Calls Try.prog 48 #[.pointer (some ⟨vb, 0, none⟩), .int .i64 k] w fun e w' => e = .returned (.int .i64 (M.sumR xs f k).2) ∧ Below w.heap.size w w' := by
  have hvb : vb < w.heap.size := World.block_lt_of_cell? w _ hv0
  have hlx := (sl_R.1 hx).cap.1
  cases hM : M.mixOk xs
  · have R := Lib.hid (show (M.sumR xs f k).2 = 1 by rw [M.sumR, hM]; rfl)
    have HM := Lib.hid hM
    clear hM
    go_enter Try.func48, Try.ntmps48
    go_wp2_with (go_at_call 42; refine (spec_l26Ok _ _ _ _ _ _ hv0 hx hn).mono ?_; rw [HM.out]; rintro e w2 ⟨rfl, bel2⟩)
    go_ret
    exact ⟨ret_int R.out.symm, bel2⟩
  · have hmn := M.mix_n hM
    have hkk : IntKind.i64.wrap ((n : Int) - 1) = (n : Int) - 1 := IntWalk.i64_in _ (by omega)
    cases hI : M.inn k 0 ((n : Int) - 1)
    · have R := Lib.hid (show (M.sumR xs f k).2 = 2 by rw [M.sumR, hM, hlx, hI]; rfl)
      have HM := Lib.hid hM
      have HI := Lib.hid hI
      clear hM hI
      go_enter Try.func48, Try.ntmps48
      go_wp2_with (first | (go_at_call 42; refine (spec_l26Ok _ _ _ _ _ _ hv0 hx hn).mono ?_; rw [HM.out]; rintro e w2 ⟨rfl, bel2⟩; have hv2 : w2.cell? ⟨vb, 0, none⟩ = some (.slice A n c) := (by rw [bel2.cell hvb]; exact hv0)) | (go_at_call 61; refine (spec_l00In _ _ _ _).mono ?_; rw [HI.out]; rintro e w' ⟨rfl, rfl⟩))
      go_ret
      exact ⟨ret_int R.out.symm, bel2⟩
    · have R := Lib.hid (show (M.sumR xs f k).2 = 0 by rw [M.sumR, hM, hlx, hI]; rfl)
      have HM := Lib.hid hM
      have HI := Lib.hid hI
      clear hM hI
      go_enter Try.func48, Try.ntmps48
      go_wp2_with (first | (go_at_call 42; refine (spec_l26Ok _ _ _ _ _ _ hv0 hx hn).mono ?_; rw [HM.out]; rintro e w2 ⟨rfl, bel2⟩; have hv2 : w2.cell? ⟨vb, 0, none⟩ = some (.slice A n c) := (by rw [bel2.cell hvb]; exact hv0)) | (go_at_call 61; refine (spec_l00In _ _ _ _).mono ?_; rw [HI.out]; rintro e w' ⟨rfl, rfl⟩))
      go_ret
      exact ⟨ret_int R.out.symm, bel2⟩
theorem spec_l26Sums_gain (vb : Nat) (A : Option Addr) (n c : Nat) (xs : List Strip) (w : World) (hv0 : w.cell? ⟨vb, 0, none⟩ = some (.slice A n c)) (hx : tM.R w w.heap.size [.slice A n c] xs) (hok : M.mixOk xs = true) :
    Calls Try.prog 49 #[.pointer (some ⟨vb, 0, none⟩), .bool false] w (Ret1 2 w (M.sums xs M.gainF)) := by
  have hvb : vb < w.heap.size := World.block_lt_of_cell? w _ hv0
  have rx := sl_R.1 hx
  have hlx := rx.cap.1
  have hmn := M.mix_n hok
  have hnb : 1 ≤ n ∧ n ≤ 8 := by omega
  have HLX := Lib.hid hlx
  have HOK := Lib.hid hok
  have hk2 : IntKind.i64.wrap ((n : Int) - 2) = (n : Int) - 2 := IntWalk.i64_in _ (by omega)
  have hm1 : (((n - 1 : Nat)) : Int) = (n : Int) - 1 := by omega
  have hml : n - 1 < n := by omega
  have hk4 : IntKind.i64.wrap ((n : Int) - 1) = (n : Int) - 1 := IntWalk.i64_in _ (by omega)
  clear hlx hmn hok
  go_enter Try.func49, Try.ntmps49
  go_wp2_with (at_make; refine wpList_mk ei_i64 rfl _ _ rfl n _ _ rfl rfl rfl rfl (by omega) (by unfold maxLen; omega) ?_; intro w2 own2 B2; have own1' : OI 2 w.heap.size w2 (.slice (some ⟨w.heap.size, 0, none⟩) n n) (List.replicate n 0) := (by unfold OI; have := toList_madeCells_one (.int .i64 0) n; simp only [Nat.mul_one, Value.cells] at own2; rw [this] at own2; simpa using own2); obtain ⟨z0, -, cz, fz, -, lz⟩ := own1'.at' hml)
  obtain ⟨w3, hw3⟩ : ∃ w3, w3 = w2.setCell ⟨w.heap.size, n - 1, none⟩ (.int .i64 1) := ⟨_, rfl⟩
  rw [← hw3]
  have own3 : OI 2 w.heap.size w3 (.slice (some ⟨w.heap.size, 0, none⟩) n n) (M.sumN xs M.gainF 0) := by
    have h1 := OI.stored' own1' (n - 1) 1
    rw [hw3]
    show OI 2 w.heap.size _ _ ((List.replicate xs.length 0).set (xs.length - 1) 1)
    rw [HLX.out]
    exact h1
  have B3 : Below w.heap.size w w3 := by rw [hw3]; exact B2.setCell (Nat.le_refl _) _
  have lz3 : w.heap.size < w3.heap.size := by rw [hw3]; simpa using lz
  clear own2 own1' B2 cz fz lz hw3
  go_loopw [7, 8, 9] (fun i _ _ wr => ∃ (z : Int) (t : Nat), i = .int .i64 z ∧ z + t + 2 = n ∧ -1 ≤ z ∧ OI 2 w.heap.size wr (.slice (some ⟨w.heap.size, 0, none⟩) n n) (M.sumN xs M.gainF t) ∧ Below w.heap.size w wr ∧ w.heap.size < wr.heap.size) (fun i _ _ _ => (intOf i + 1).toNat)
  case atStart => exact ⟨(n : Int) - 2, 0, by go_num, by omega, by omega, own3, B3, lz3⟩
  case round =>
    obtain ⟨z, t, rfl, hz, hz1, own, Bw, lwr⟩ := hrel
    have c0 : wr.cell? ⟨vb, 0, none⟩ = some (.slice A n c) := by rw [Bw.cell hvb]; exact hv0
    by_cases hlt : 0 ≤ z
    · obtain ⟨ii, rfl⟩ : ∃ ii : Nat, z = ii := ⟨z.toNat, by omega⟩
      have hidx := Lib.hid (show xs.length - 2 - t = ii by rw [HLX.out]; omega)
      have hii : ii < n := by omega
      have hX := Lib.hid (List.getElem?_eq_getElem (l := xs) (i := ii) (by rw [HLX.out]; exact hii))
      obtain ⟨b, o1, cc, cs, hv, hab, -, hE, hcc⟩ := (rx.below Bw).atX hX.out
      simp only [Value.slice.injEq] at hv
      obtain ⟨rfl, -, rfl⟩ := hv
      generalize xs[ii]'(by rw [HLX.out]; exact hii) = x at hX hE
      obtain ⟨s, l, us⟩ := x
      obtain ⟨A2, n2, c2, rfl, -, hE⟩ := st_R.1 hE
      have e2 : wr.cell? ⟨b, o1 + ii * 3 + 2, none⟩ = some (.slice A2 n2 c2) := hcc 2 _ rfl
      have hbr : b < wr.heap.size := Nat.lt_of_lt_of_le hab Bw.size
      have rs := (tSdS_ra hE).1
      have hn2 := rs.1
      obtain ⟨hlat, hu4, hsb⟩ := M.mix_strip HOK.out hX.out
      have HN2 := Lib.hid hn2
      have HSB := Lib.hid hsb
      have n2b : n2 ≤ 4 := by omega
      have hin2 : (ii : Int) < (n : Int) := by omega
      have hX' : xs[xs.length - 2 - t]? = some (s, l, us) := by rw [hidx.out]; exact hX.out
      have HXP := Lib.hid hX'
      clear hcc hE hn2 hu4 hsb hX'
      go_wp2
      obtain ⟨wo, rfl⟩ : ∃ wo : World, wo = wr := ⟨_, rfl⟩
      go_loopw [8, 9] (fun i _ wr => ∃ j : Nat, i = .int .i64 j ∧ j ≤ n2 ∧ OI 2 w.heap.size wr (.slice (some ⟨w.heap.size, 0, none⟩) n n) (M.sumS xs M.gainF t us j) ∧ Below w.heap.size w wr ∧ Below w.heap.size wo wr ∧ w.heap.size < wr.heap.size) (fun i _ _ => n2 - (intOf i).toNat)
      case atStart => exact ⟨0, rfl, by omega, own, Bw, (Below.refl _ _).mono Bw.size, lwr⟩
      case round =>
        obtain ⟨j, rfl, hj, ownj, Bj, Bo, lwj⟩ := hrel
        have g0 : wr.cell? ⟨vb, 0, none⟩ = some (.slice (some ⟨b, o1, none⟩) n c) := by rw [Bj.cell hvb]; exact hv0
        have g2 : wr.cell? ⟨b, o1 + ii * 3 + 2, none⟩ = some (.slice A2 n2 c2) := by rw [Bo.cell hab]; exact e2
        by_cases hlt2 : j < n2
        · obtain ⟨b2, o2, ⟨p0, p1⟩, rfl, hab2, X2, hdd⟩ := (rs.below Bo).at sd_len (by decide) hlt2
          have f0 : wr.cell? ⟨b2, o2 + j * 2, none⟩ = some (.int .i64 p0) := hdd 0 _ rfl
          have f1 : wr.cell? ⟨b2, o2 + j * 2 + 1, none⟩ = some (.int .i64 p1) := hdd 1 _ rfl
          obtain ⟨hp1, hp2, hp3⟩ := M.sends_at HSB.out X2.out
          obtain ⟨q, rfl⟩ : ∃ q : Nat, p0 = q := ⟨p0.toNat, by omega⟩
          have hqn : q < n := by have := HLX.out; omega
          have hqn2 : (q : Int) < (n : Int) := by omega
          have bp := M.smp_bd hp3
          obtain ⟨y, hyy, cy, fy, -, -⟩ := ownj.at' hqn
          obtain ⟨x, hxx, cx, fx, -, -⟩ := ownj.at' hii
          have bx := M.allSmp_at (M.sumS_smp xs M.gainF t us j) hxx.out
          have by_ := M.allSmp_at (M.sumS_smp xs M.gainF t us j) hyy.out
          have hE2 := Lib.hid (M.sumS_next (xs := xs) (f := M.gainF) (t := t) X2.out)
          have hE3 := Lib.hid (M.sumSend_eq (f := M.gainF) (g := p1) hxx.out hyy.out)
          have hb2w : b2 < wr.heap.size := Nat.lt_of_lt_of_le hab2 Bj.size
          have hmb := M.wrap64_mul_bd p1 y bp by_
          have hval := Lib.hid (M.wrap_in x (p1 * y))
          clear hdd hp1 hp2 hp3 hmb
          obtain ⟨U, hU⟩ : ∃ U, U = wr.alloc (.cells #[.int .i64 (q : Int), .int .i64 p1] 71) := ⟨_, rfl⟩
          have G0 : Below wr.heap.size wr U := by rw [hU]; exact (Below.refl _ _).alloc (Nat.le_refl _) _
          have u0 : U.cell? ⟨wr.heap.size, 0, none⟩ = some (.int .i64 (q : Int)) := by rw [hU, cell_of_row _ wr.heap.size 0 _ 71 (0, 0) (heap_alloc_new wr _)]; rfl
          have u1 : U.cell? ⟨wr.heap.size, 1, none⟩ = some (.int .i64 p1) := by rw [hU, cell_of_row _ wr.heap.size 1 _ 71 (0, 0) (heap_alloc_new wr _)]; rfl
          have ux : U.cell? ⟨w.heap.size, ii, none⟩ = some (.int .i64 x) := by rw [G0.cell lwj]; exact cx
          have uy : U.cell? ⟨w.heap.size, q, none⟩ = some (.int .i64 y) := by rw [G0.cell lwj]; exact cy
          have fu : U.frozen? ⟨w.heap.size, ii, none⟩ = false := by rw [G0.frozen lwj]; exact fx
          have ownU := ownj.below G0
          have HU := Lib.hid hU
          have zw : w.heap.size ≤ wr.heap.size := by omega
          have lwu : w.heap.size < U.heap.size := Nat.lt_of_lt_of_le lwj G0.size
          clear hU
          go_wp2
          rw [← HU.out]
          refine wp_region_still_tail 16 (by kernel_rfl) (by kernel_rfl) ?_
          simp only [List.take_succ_cons, List.take_zero, List.drop_succ_cons, List.drop_zero]
          iterate 13 still_step
          still_call (still_of (spec_l01Mul _ _ _))
          still_call (still_of (spec_l01Add _ _ _))
          still_step
          refine wpStill_nil ?_
          change wpList _ _ _ _ _ U.drew
          go_wp2
          go_roundw
          case rel =>
            have h3 := OI.stored' ownU ii (wrap32 (x + p1 * y))
            have e3 : (M.sumS xs M.gainF t us j).set ii (wrap32 (x + p1 * y)) = M.sumS xs M.gainF t us (j + 1) := by
              rw [hE2.out, hidx.out, hE3.out]; rfl
            rw [e3, ← hval.out] at h3
            exact ⟨j + 1, by go_num, by omega, h3, ((Bj.trans (G0.mono zw)).setCell (Nat.le_refl _) _).drew, ((Bo.trans (G0.mono zw)).setCell (Nat.le_refl _) _).drew, by simpa using lwu⟩
          case measure => simp [intOf]; omega
        · obtain rfl : j = n2 := by omega
          have hend := M.sumS_end (f := M.gainF) HXP.out
          rw [HN2.out] at hend
          have HE := Lib.hid hend
          clear hend
          go_wp2
          go_roundw
          case rel => exact ⟨(ii : Int) - 1, t + 1, by go_num, by omega, by omega, by rw [← HE.out]; exact ownj, Bj, lwj⟩
          case measure => simp [intOf] <;> omega
    · obtain rfl : z = -1 := by omega
      obtain rfl : t = n - 1 := by omega
      go_wp2
      go_ret
      exact ⟨_, rfl, by rw [M.sums, HLX.out]; exact own, Bw⟩
theorem spec_l26Sums_paths (vb : Nat) (A : Option Addr) (n c : Nat) (xs : List Strip) (w : World) (hv0 : w.cell? ⟨vb, 0, none⟩ = some (.slice A n c)) (hx : tM.R w w.heap.size [.slice A n c] xs) (hok : M.mixOk xs = true) :
    Calls Try.prog 49 #[.pointer (some ⟨vb, 0, none⟩), .bool true] w (Ret1 2 w (M.sums xs M.oneF)) := by
  have hvb : vb < w.heap.size := World.block_lt_of_cell? w _ hv0
  have rx := sl_R.1 hx
  have hlx := rx.cap.1
  have hmn := M.mix_n hok
  have hnb : 1 ≤ n ∧ n ≤ 8 := by omega
  have HLX := Lib.hid hlx
  have HOK := Lib.hid hok
  have hk2 : IntKind.i64.wrap ((n : Int) - 2) = (n : Int) - 2 := IntWalk.i64_in _ (by omega)
  have hm1 : (((n - 1 : Nat)) : Int) = (n : Int) - 1 := by omega
  have hml : n - 1 < n := by omega
  have hk4 : IntKind.i64.wrap ((n : Int) - 1) = (n : Int) - 1 := IntWalk.i64_in _ (by omega)
  clear hlx hmn hok
  go_enter Try.func49, Try.ntmps49
  go_wp2_with (at_make; refine wpList_mk ei_i64 rfl _ _ rfl n _ _ rfl rfl rfl rfl (by omega) (by unfold maxLen; omega) ?_; intro w2 own2 B2; have own1' : OI 2 w.heap.size w2 (.slice (some ⟨w.heap.size, 0, none⟩) n n) (List.replicate n 0) := (by unfold OI; have := toList_madeCells_one (.int .i64 0) n; simp only [Nat.mul_one, Value.cells] at own2; rw [this] at own2; simpa using own2); obtain ⟨z0, -, cz, fz, -, lz⟩ := own1'.at' hml)
  obtain ⟨w3, hw3⟩ : ∃ w3, w3 = w2.setCell ⟨w.heap.size, n - 1, none⟩ (.int .i64 1) := ⟨_, rfl⟩
  rw [← hw3]
  have own3 : OI 2 w.heap.size w3 (.slice (some ⟨w.heap.size, 0, none⟩) n n) (M.sumN xs M.oneF 0) := by
    have h1 := OI.stored' own1' (n - 1) 1
    rw [hw3]
    show OI 2 w.heap.size _ _ ((List.replicate xs.length 0).set (xs.length - 1) 1)
    rw [HLX.out]
    exact h1
  have B3 : Below w.heap.size w w3 := by rw [hw3]; exact B2.setCell (Nat.le_refl _) _
  have lz3 : w.heap.size < w3.heap.size := by rw [hw3]; simpa using lz
  clear own2 own1' B2 cz fz lz hw3
  go_loopw [7, 8, 9] (fun i _ _ wr => ∃ (z : Int) (t : Nat), i = .int .i64 z ∧ z + t + 2 = n ∧ -1 ≤ z ∧ OI 2 w.heap.size wr (.slice (some ⟨w.heap.size, 0, none⟩) n n) (M.sumN xs M.oneF t) ∧ Below w.heap.size w wr ∧ w.heap.size < wr.heap.size) (fun i _ _ _ => (intOf i + 1).toNat)
  case atStart => exact ⟨(n : Int) - 2, 0, by go_num, by omega, by omega, own3, B3, lz3⟩
  case round =>
    obtain ⟨z, t, rfl, hz, hz1, own, Bw, lwr⟩ := hrel
    have c0 : wr.cell? ⟨vb, 0, none⟩ = some (.slice A n c) := by rw [Bw.cell hvb]; exact hv0
    by_cases hlt : 0 ≤ z
    · obtain ⟨ii, rfl⟩ : ∃ ii : Nat, z = ii := ⟨z.toNat, by omega⟩
      have hidx := Lib.hid (show xs.length - 2 - t = ii by rw [HLX.out]; omega)
      have hii : ii < n := by omega
      have hX := Lib.hid (List.getElem?_eq_getElem (l := xs) (i := ii) (by rw [HLX.out]; exact hii))
      obtain ⟨b, o1, cc, cs, hv, hab, -, hE, hcc⟩ := (rx.below Bw).atX hX.out
      simp only [Value.slice.injEq] at hv
      obtain ⟨rfl, -, rfl⟩ := hv
      generalize xs[ii]'(by rw [HLX.out]; exact hii) = x at hX hE
      obtain ⟨s, l, us⟩ := x
      obtain ⟨A2, n2, c2, rfl, -, hE⟩ := st_R.1 hE
      have e2 : wr.cell? ⟨b, o1 + ii * 3 + 2, none⟩ = some (.slice A2 n2 c2) := hcc 2 _ rfl
      have hbr : b < wr.heap.size := Nat.lt_of_lt_of_le hab Bw.size
      have rs := (tSdS_ra hE).1
      have hn2 := rs.1
      obtain ⟨hlat, hu4, hsb⟩ := M.mix_strip HOK.out hX.out
      have HN2 := Lib.hid hn2
      have HSB := Lib.hid hsb
      have n2b : n2 ≤ 4 := by omega
      have hin2 : (ii : Int) < (n : Int) := by omega
      have hX' : xs[xs.length - 2 - t]? = some (s, l, us) := by rw [hidx.out]; exact hX.out
      have HXP := Lib.hid hX'
      clear hcc hE hn2 hu4 hsb hX'
      go_wp2
      obtain ⟨wo, rfl⟩ : ∃ wo : World, wo = wr := ⟨_, rfl⟩
      go_loopw [8, 9] (fun i _ wr => ∃ j : Nat, i = .int .i64 j ∧ j ≤ n2 ∧ OI 2 w.heap.size wr (.slice (some ⟨w.heap.size, 0, none⟩) n n) (M.sumS xs M.oneF t us j) ∧ Below w.heap.size w wr ∧ Below w.heap.size wo wr ∧ w.heap.size < wr.heap.size) (fun i _ _ => n2 - (intOf i).toNat)
      case atStart => exact ⟨0, rfl, by omega, own, Bw, (Below.refl _ _).mono Bw.size, lwr⟩
      case round =>
        obtain ⟨j, rfl, hj, ownj, Bj, Bo, lwj⟩ := hrel
        have g0 : wr.cell? ⟨vb, 0, none⟩ = some (.slice (some ⟨b, o1, none⟩) n c) := by rw [Bj.cell hvb]; exact hv0
        have g2 : wr.cell? ⟨b, o1 + ii * 3 + 2, none⟩ = some (.slice A2 n2 c2) := by rw [Bo.cell hab]; exact e2
        by_cases hlt2 : j < n2
        · obtain ⟨b2, o2, ⟨p0, p1⟩, rfl, hab2, X2, hdd⟩ := (rs.below Bo).at sd_len (by decide) hlt2
          have f0 : wr.cell? ⟨b2, o2 + j * 2, none⟩ = some (.int .i64 p0) := hdd 0 _ rfl
          have f1 : wr.cell? ⟨b2, o2 + j * 2 + 1, none⟩ = some (.int .i64 p1) := hdd 1 _ rfl
          obtain ⟨hp1, hp2, hp3⟩ := M.sends_at HSB.out X2.out
          obtain ⟨q, rfl⟩ : ∃ q : Nat, p0 = q := ⟨p0.toNat, by omega⟩
          have hqn : q < n := by have := HLX.out; omega
          have hqn2 : (q : Int) < (n : Int) := by omega
          have bp := M.smp_bd hp3
          obtain ⟨y, hyy, cy, fy, -, -⟩ := ownj.at' hqn
          obtain ⟨x, hxx, cx, fx, -, -⟩ := ownj.at' hii
          have bx := M.allSmp_at (M.sumS_smp xs M.oneF t us j) hxx.out
          have by_ := M.allSmp_at (M.sumS_smp xs M.oneF t us j) hyy.out
          have hE2 := Lib.hid (M.sumS_next (xs := xs) (f := M.oneF) (t := t) X2.out)
          have hE3 := Lib.hid (M.sumSend_eq (f := M.oneF) (g := p1) hxx.out hyy.out)
          have hb2w : b2 < wr.heap.size := Nat.lt_of_lt_of_le hab2 Bj.size
          have hmb := M.wrap64_mul_bd p1 y bp by_
          have H1 := M.one_S HOK.out (t := t) (by rw [HLX.out]; omega) HXP.out j
          have bx1 := M.upTo_at H1 hxx.out
          have by1 := M.upTo_at H1 hyy.out
          have hval := Lib.hid (show wrap32 (x + 1 * y) = x + y by rw [Int.one_mul, M.wrap32_of _ (by simp [M.smp, M.inn]; omega)])
          clear hdd hp1 hp2 hp3 hmb
          obtain ⟨U, hU⟩ : ∃ U, U = wr.alloc (.cells #[.int .i64 (q : Int), .int .i64 p1] 71) := ⟨_, rfl⟩
          have G0 : Below wr.heap.size wr U := by rw [hU]; exact (Below.refl _ _).alloc (Nat.le_refl _) _
          have u0 : U.cell? ⟨wr.heap.size, 0, none⟩ = some (.int .i64 (q : Int)) := by rw [hU, cell_of_row _ wr.heap.size 0 _ 71 (0, 0) (heap_alloc_new wr _)]; rfl
          have u1 : U.cell? ⟨wr.heap.size, 1, none⟩ = some (.int .i64 p1) := by rw [hU, cell_of_row _ wr.heap.size 1 _ 71 (0, 0) (heap_alloc_new wr _)]; rfl
          have ux : U.cell? ⟨w.heap.size, ii, none⟩ = some (.int .i64 x) := by rw [G0.cell lwj]; exact cx
          have uy : U.cell? ⟨w.heap.size, q, none⟩ = some (.int .i64 y) := by rw [G0.cell lwj]; exact cy
          have fu : U.frozen? ⟨w.heap.size, ii, none⟩ = false := by rw [G0.frozen lwj]; exact fx
          have ownU := ownj.below G0
          have HU := Lib.hid hU
          have zw : w.heap.size ≤ wr.heap.size := by omega
          have lwu : w.heap.size < U.heap.size := Nat.lt_of_lt_of_le lwj G0.size
          clear hU
          go_wp2
          rw [← HU.out]
          refine wp_region_still_tail 11 (by kernel_rfl) (by kernel_rfl) ?_
          simp only [List.take_succ_cons, List.take_zero, List.drop_succ_cons, List.drop_zero]
          iterate 11 still_step
          refine wpStill_nil ?_
          change wpList _ _ _ _ _ U.drew
          go_wp2
          go_roundw
          case rel =>
            have h3 := OI.stored' ownU ii (wrap32 (x + 1 * y))
            have e3 : (M.sumS xs M.oneF t us j).set ii (wrap32 (x + 1 * y)) = M.sumS xs M.oneF t us (j + 1) := by
              rw [hE2.out, hidx.out, hE3.out]; rfl
            rw [e3, hval.out] at h3
            exact ⟨j + 1, by go_num, by omega, h3, ((Bj.trans (G0.mono zw)).setCell (Nat.le_refl _) _).drew, ((Bo.trans (G0.mono zw)).setCell (Nat.le_refl _) _).drew, by simpa using lwu⟩
          case measure => simp [intOf]; omega
        · obtain rfl : j = n2 := by omega
          have hend := M.sumS_end (f := M.oneF) HXP.out
          rw [HN2.out] at hend
          have HE := Lib.hid hend
          clear hend
          go_wp2
          go_roundw
          case rel => exact ⟨(ii : Int) - 1, t + 1, by go_num, by omega, by omega, by rw [← HE.out]; exact ownj, Bj, lwj⟩
          case measure => simp [intOf] <;> omega
    · obtain rfl : z = -1 := by omega
      obtain rfl : t = n - 1 := by omega
      go_wp2
      go_ret
      exact ⟨_, rfl, by rw [M.sums, HLX.out]; exact own, Bw⟩
theorem spec_GainTo (A : Option Addr) (n c : Nat) (xs : List Strip) (k : Int) (w : World) (hx : tM.R w w.heap.size [.slice A n c] xs) (hn : hM.sz xs ≤ 100000000) :
    Calls Try.prog 22 #[.agg #[.slice A n c], .int .i64 k] w fun e w' => e = .returned (.tuple #[.int .i64 (M.sumR xs M.gainF k).1, .int .i64 (M.sumR xs M.gainF k).2]) ∧ Below w.heap.size w w' := by
  have hlx := (sl_R.1 hx).cap.1
  have hb : Below w.heap.size w (w.alloc (.cells #[.slice A n c] 29)) := (Below.refl _ _).alloc (Nat.le_refl _) _
  have hx2 := tM.later hx hb
  have hself : (w.alloc (.cells #[.slice A n c] 29)).cell? ⟨w.heap.size, 0, none⟩ = some (.slice A n c) := by simp [go_sem]
  have hsz : (w.alloc (.cells #[.slice A n c] 29)).heap.size = w.heap.size + 1 := by simp
  have HSZ := Lib.hid hsz
  clear hsz
  by_cases hc : (M.sumR xs M.gainF k).2 = 0
  · have hok : M.mixOk xs = true := by
      cases h : M.mixOk xs
      · rw [M.sumR, h] at hc; exact absurd hc (by simp)
      · rfl
    have hI : M.inn k 0 ((xs.length : Int) - 1) = true := by
      cases h : M.inn k 0 ((xs.length : Int) - 1)
      · rw [M.sumR, hok, h] at hc; exact absurd hc (by simp)
      · rfl
    have hmn := M.mix_n hok
    have hk1 := M.inn_iff.1 hI
    obtain ⟨kk, rfl⟩ : ∃ kk : Nat, k = kk := ⟨k.toNat, by omega⟩
    have hkn : kk < n := by omega
    have hkn2 : (kk : Int) < (n : Int) := by omega
    have i0 : (0 : Int) ≤ (kk : Int) := by omega
    have R := Lib.hid (show M.sumR xs M.gainF (kk : Int) = (((M.sums xs M.gainF)[kk]?).getD 0, 0) by rw [M.sumR, hok, hI]; rfl)
    have HC := Lib.hid hc
    have HLX := Lib.hid hlx
    clear hc hlx hI hmn hk1
    go_enter Try.func22, Try.ntmps22
    go_wp2_with (first | (go_at_call 48; refine (spec_l26Ask _ _ _ _ _ _ _ hself hx2 hn M.gainF).mono ?_; rw [HC.out]; rintro e w2 ⟨rfl, bel2⟩; have hv2 : w2.cell? ⟨w.heap.size, 0, none⟩ = some (.slice A n c) := (by rw [bel2.cell (by rw [HSZ.out]; simp)]; exact hself)) | (go_at_call 49; refine (spec_l26Sums_gain _ _ _ _ _ _ hv2 (tM.later hx2 bel2) hok).mono ?_; rintro e w3 ⟨v3, rfl, own3, bel3⟩; obtain ⟨A3, c3, rfl, -⟩ := own3.shape; have hl3 : (M.sums xs M.gainF).length = n := (by rw [M.sums, M.sumN_len, HLX.out]); rw [hl3] at own3 ⊢; clear hl3; obtain ⟨g3, rfl, -, -⟩ := own3.form' (show 0 < n by omega); obtain ⟨v, hvv, cv, -, -, -⟩ := own3.at' hkn))
    have hR := Lib.hid (show M.sumR xs M.gainF (kk : Int) = (v, 0) by rw [R.out, hvv.out]; rfl)
    go_ret2
    exact ⟨by rw [hR.out]; rfl, bel_trans (bel_trans hb bel2) bel3⟩
  · have R := Lib.hid (show (M.sumR xs M.gainF k).1 = 0 by
      revert hc
      unfold M.sumR
      split
      · split
        · intro h; exact absurd rfl h
        · intro _; rfl
      · intro _; rfl)
    generalize hr2 : (M.sumR xs M.gainF k).2 = r2 at hc
    have HR2 := Lib.hid hr2
    clear hr2
    go_enter Try.func22, Try.ntmps22
    go_wp2_with (go_at_call 48; refine (spec_l26Ask _ _ _ _ _ _ _ hself hx2 hn M.gainF).mono ?_; rw [HR2.out]; rintro e w2 ⟨rfl, bel2⟩)
    go_ret2
    exact ⟨by rw [R.out]; rfl, bel_trans hb bel2⟩
theorem impl_GainTo (A : Option Addr) (n c : Nat) (xs : List Strip) (k : Int) (w : World) (hx : tM.R w w.heap.size [.slice A n c] xs) (hn : hM.sz xs ≤ 100000000) :
    Calls Try.prog 23 #[.agg #[.slice A n c], .int .i64 k] w fun e w' => e = .returned (.tuple #[.int .i64 (M.sumR xs M.gainF k).1, .int .i64 (M.sumR xs M.gainF k).2]) ∧ Below w.heap.size w w' := by
  have hb : Below w.heap.size w (w.alloc (.cells #[.slice A n c] 29)) := (Below.refl _ _).alloc (Nat.le_refl _) _
  have hx2 := tM.later hx hb
  go_enter Try.func23, Try.ntmps23
  go_wp2_with (go_at_call 50; refine (impl_sumAll_gain _ _ _ _ _ _ hx2 hn).mono ?_; rintro e w2 ⟨rfl, bel2⟩)
  go_ret2
  exact ⟨rfl, bel_trans hb bel2⟩
theorem spec_PathsTo (A : Option Addr) (n c : Nat) (xs : List Strip) (k : Int) (w : World) (hx : tM.R w w.heap.size [.slice A n c] xs) (hn : hM.sz xs ≤ 100000000) :
    Calls Try.prog 24 #[.agg #[.slice A n c], .int .i64 k] w fun e w' => e = .returned (.tuple #[.int .i64 (M.sumR xs M.oneF k).1, .int .i64 (M.sumR xs M.oneF k).2]) ∧ Below w.heap.size w w' := by
  have hlx := (sl_R.1 hx).cap.1
  have hb : Below w.heap.size w (w.alloc (.cells #[.slice A n c] 29)) := (Below.refl _ _).alloc (Nat.le_refl _) _
  have hx2 := tM.later hx hb
  have hself : (w.alloc (.cells #[.slice A n c] 29)).cell? ⟨w.heap.size, 0, none⟩ = some (.slice A n c) := by simp [go_sem]
  have hsz : (w.alloc (.cells #[.slice A n c] 29)).heap.size = w.heap.size + 1 := by simp
  have HSZ := Lib.hid hsz
  clear hsz
  by_cases hc : (M.sumR xs M.oneF k).2 = 0
  · have hok : M.mixOk xs = true := by
      cases h : M.mixOk xs
      · rw [M.sumR, h] at hc; exact absurd hc (by simp)
      · rfl
    have hI : M.inn k 0 ((xs.length : Int) - 1) = true := by
      cases h : M.inn k 0 ((xs.length : Int) - 1)
      · rw [M.sumR, hok, h] at hc; exact absurd hc (by simp)
      · rfl
    have hmn := M.mix_n hok
    have hk1 := M.inn_iff.1 hI
    obtain ⟨kk, rfl⟩ : ∃ kk : Nat, k = kk := ⟨k.toNat, by omega⟩
    have hkn : kk < n := by omega
    have hkn2 : (kk : Int) < (n : Int) := by omega
    have i0 : (0 : Int) ≤ (kk : Int) := by omega
    have R := Lib.hid (show M.sumR xs M.oneF (kk : Int) = (((M.sums xs M.oneF)[kk]?).getD 0, 0) by rw [M.sumR, hok, hI]; rfl)
    have HC := Lib.hid hc
    have HLX := Lib.hid hlx
    clear hc hlx hI hmn hk1
    go_enter Try.func24, Try.ntmps24
    go_wp2_with (first | (go_at_call 48; refine (spec_l26Ask _ _ _ _ _ _ _ hself hx2 hn M.oneF).mono ?_; rw [HC.out]; rintro e w2 ⟨rfl, bel2⟩; have hv2 : w2.cell? ⟨w.heap.size, 0, none⟩ = some (.slice A n c) := (by rw [bel2.cell (by rw [HSZ.out]; simp)]; exact hself)) | (go_at_call 49; refine (spec_l26Sums_paths _ _ _ _ _ _ hv2 (tM.later hx2 bel2) hok).mono ?_; rintro e w3 ⟨v3, rfl, own3, bel3⟩; obtain ⟨A3, c3, rfl, -⟩ := own3.shape; have hl3 : (M.sums xs M.oneF).length = n := (by rw [M.sums, M.sumN_len, HLX.out]); rw [hl3] at own3 ⊢; clear hl3; obtain ⟨g3, rfl, -, -⟩ := own3.form' (show 0 < n by omega); obtain ⟨v, hvv, cv, -, -, -⟩ := own3.at' hkn))
    have hR := Lib.hid (show M.sumR xs M.oneF (kk : Int) = (v, 0) by rw [R.out, hvv.out]; rfl)
    go_ret2
    exact ⟨by rw [hR.out]; rfl, bel_trans (bel_trans hb bel2) bel3⟩
  · have R := Lib.hid (show (M.sumR xs M.oneF k).1 = 0 by
      revert hc
      unfold M.sumR
      split
      · split
        · intro h; exact absurd rfl h
        · intro _; rfl
      · intro _; rfl)
    generalize hr2 : (M.sumR xs M.oneF k).2 = r2 at hc
    have HR2 := Lib.hid hr2
    clear hr2
    go_enter Try.func24, Try.ntmps24
    go_wp2_with (go_at_call 48; refine (spec_l26Ask _ _ _ _ _ _ _ hself hx2 hn M.oneF).mono ?_; rw [HR2.out]; rintro e w2 ⟨rfl, bel2⟩)
    go_ret2
    exact ⟨by rw [R.out]; rfl, bel_trans hb bel2⟩
theorem impl_PathsTo (A : Option Addr) (n c : Nat) (xs : List Strip) (k : Int) (w : World) (hx : tM.R w w.heap.size [.slice A n c] xs) (hn : hM.sz xs ≤ 100000000) :
    Calls Try.prog 25 #[.agg #[.slice A n c], .int .i64 k] w fun e w' => e = .returned (.tuple #[.int .i64 (M.sumR xs M.oneF k).1, .int .i64 (M.sumR xs M.oneF k).2]) ∧ Below w.heap.size w w' := by
  have hb : Below w.heap.size w (w.alloc (.cells #[.slice A n c] 29)) := (Below.refl _ _).alloc (Nat.le_refl _) _
  have hx2 := tM.later hx hb
  go_enter Try.func25, Try.ntmps25
  go_wp2_with (go_at_call 50; refine (impl_sumAll_paths _ _ _ _ _ _ hx2 hn).mono ?_; rintro e w2 ⟨rfl, bel2⟩)
  go_ret2
  exact ⟨rfl, bel_trans hb bel2⟩
end Go.Proofs.Ytebaffdaffcdmaa
