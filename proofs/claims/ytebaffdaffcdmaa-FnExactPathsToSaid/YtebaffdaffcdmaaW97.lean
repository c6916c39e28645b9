import Derived.Test.YtebaffdaffcdmaaW96
import Derived.Test.YtebaffdaffcdmaaW93
import Derived.Test.YtebaffdaffcdmaaW98
import Derived.StillTailTactics
namespace Go.Proofs.Ytebaffdaffcdmaa
open Go.RowKit Go.Sort
set_option maxHeartbeats 4000000
set_option maxRecDepth 100000
theorem spec_l01Add (a b : Int) (w : World) : Calls Try.prog 67 #[.int .i64 a, .int .i64 b] w fun e w' => e = .returned (.int .i64 (wrap32 (a + b))) ∧ w = w' := by
  have h1 := M.wrap32_bd a
  have h2 := M.wrap32_bd b
  go_enter Try.func67, Try.ntmps67
  go_wp2_with (go_at_call 81; refine (spec_l01Wrap _ _).mono ?_; rintro e w' ⟨rfl, rfl⟩)
  go_ret
  exact ⟨ret_int (M.wrap32_add _ _), rfl⟩
theorem spec_l01Mul (a b : Int) (w : World) : Calls Try.prog 68 #[.int .i64 a, .int .i64 b] w fun e w' => e = .returned (.int .i64 (wrap32 (a * b))) ∧ w = w' := by
  have h1 := M.wrap32_bd a
  have h2 := M.wrap32_bd b
  have h3 := M.wrap64_mul_bd _ _ h1 h2
  go_enter Try.func68, Try.ntmps68
  go_wp2_with (go_at_call 81; refine (spec_l01Wrap _ _).mono ?_; rintro e w' ⟨rfl, rfl⟩)
  go_ret
  exact ⟨ret_int (M.wrap32_mul _ _), rfl⟩
theorem M.wrap_in (a b : Int) : wrap32 (a + wrap32 b) = wrap32 (a + b) := by unfold wrap32; omega
theorem impl_cGain (a b : Int) (w : World) : Calls Try.prog 51 #[.agg #[.int .i64 a, .int .i64 b]] w fun e w' => e = .returned (.int .i64 b) ∧ Below w.heap.size w w' := by
  go_enter Try.func51, Try.ntmps51
  go_wp2
  go_ret
  exact ⟨rfl, (Below.refl _ _).alloc (Nat.le_refl _) _⟩
theorem impl_cPaths (a b : Int) (w : World) : Calls Try.prog 52 #[.agg #[.int .i64 a, .int .i64 b]] w fun e w' => e = .returned (.int .i64 1) ∧ Below w.heap.size w w' := by
  go_enter Try.func52, Try.ntmps52
  go_wp2
  go_ret
  exact ⟨rfl, (Below.refl _ _).alloc (Nat.le_refl _) _⟩

theorem impl_sum_gain (A : Option Addr) (n c : Nat) (xs : List Strip) (k : Int) (w : World) (hx : tM.R w w.heap.size [.slice A n c] xs) (hn : hM.sz xs ≤ 100000000) (hok : M.mixOk xs = true) (hik : M.inn k 0 ((xs.length : Int) - 1) = true) :
    Calls Try.prog 50 #[.agg #[.slice A n c], .int .i64 k, .func (.func 51) #[] #[]] w fun e w' => e = .returned (.tuple #[.int .i64 (M.sumR xs M.gainF k).1, .int .i64 (M.sumR xs M.gainF k).2]) ∧ Below w.heap.size w w' := by
  have rx := sl_R.1 hx
  have hlx := rx.cap.1
  have hmn := M.mix_n hok
  have hnb : 1 ≤ n ∧ n ≤ 8 := by omega
  have HLX := Lib.hid hlx
  have HOK := Lib.hid hok
  have hk2 : IntKind.i64.wrap ((n : Int) - 2) = (n : Int) - 2 := IntWalk.i64_in _ (by omega)
  have hk1 := M.inn_iff.1 hik
  obtain ⟨kk, rfl⟩ : ∃ kk : Nat, k = kk := ⟨k.toNat, by omega⟩
  have hkn : kk < n := by omega
  have hkn2 : (kk : Int) < (n : Int) := by omega
  have i0 : (0 : Int) ≤ (kk : Int) := by omega
  have HIK := Lib.hid (show M.inn (kk : Int) 0 ((n : Int) - 1) = true by rw [← hlx]; exact hik)
  have R := Lib.hid (show M.sumR xs M.gainF (kk : Int) = (((M.sums xs M.gainF)[kk]?).getD 0, 0) by rw [M.sumR, hok, hik]; rfl)
  have hk3 : IntKind.i64.wrap ((n : Int) - 1) = (n : Int) - 1 := IntWalk.i64_in _ (by omega)
  obtain ⟨W, hW⟩ : ∃ W, W = w.alloc (.cells #[.slice A n c] 29) := ⟨_, rfl⟩
  have B0 : Below w.heap.size w W := by rw [hW]; exact (Below.refl _ _).alloc (Nat.le_refl _) _
  have hself : W.cell? ⟨w.heap.size, 0, none⟩ = some (.slice A n c) := by rw [hW]; simp [go_sem]
  have lx : w.heap.size < W.heap.size := by rw [hW]; simp
  have hx2 := tM.later hx B0
  have HX2 := Lib.hid hx2
  have HW := Lib.hid hW
  have hm1 : (((n - 1 : Nat)) : Int) = (n : Int) - 1 := by omega
  have hml : n - 1 < n := by omega
  have j0 : (0 : Int) ≤ ((n - 1 : Nat) : Int) := by omega
  have j1 : ((n - 1 : Nat) : Int) < (n : Int) := by omega
  have hk4 : IntKind.i64.wrap ((n : Int) - 1) = ((n - 1 : Nat) : Int) := by rw [hk3, hm1]
  clear hlx hmn hok hik hk1 hW hx2 hk3
  go_enter Try.func50, Try.ntmps50
  go_wp2_with fail
  rw [← HW.out]
  go_wp2_with (first | (go_at_call 43; refine (impl_isMixer _ _ _ _ _ HX2.out hn).mono ?_; rw [HOK.out]; rintro e w1 ⟨rfl, bel1⟩; have hs1 : w1.cell? ⟨w.heap.size, 0, none⟩ = some (.slice A n c) := (by rw [bel1.cell lx]; exact hself)) | (go_at_call 63; refine (impl_size_impl_Strip _ _ _ _).mono ?_; rintro e w' ⟨rfl, rfl⟩) | (go_at_call 65; refine (impl_within _ _ _ _).mono ?_; rw [HIK.out]; rintro e w' ⟨rfl, rfl⟩) | (go_at_call 69; refine (impl_zeros _ _ (by omega) (by omega)).mono ?_; rintro e w2 ⟨v2, rfl, own2, bel2⟩; rw [Int.toNat_natCast] at own2; obtain ⟨A1, c1, rfl, -⟩ := own2.shape; rw [List.length_replicate] at own2 ⊢; obtain ⟨g, rfl, hg1, hg2⟩ := own2.form' (by omega); obtain ⟨z, -, cz, fz, -, -⟩ := own2.at' hml; have hs2 : w2.cell? ⟨w.heap.size, 0, none⟩ = some (.slice A n c) := (by rw [bel2.cell (Nat.lt_of_lt_of_le lx bel1.size)]; exact hs1)))
  have B1 := bel_trans B0 bel1
  have B2 := bel_trans B1 bel2
  have hw1 := bel1.size
  have lw1 : w.heap.size + 1 ≤ w1.heap.size := by omega
  have own3 : OI 2 (w.heap.size + 1) (w2.setCell ⟨g, n - 1, none⟩ (.int .i64 1)) (.slice (some ⟨g, 0, none⟩) n c1) (M.sumN xs M.gainF 0) := by
    have h1 := OI.stored' (own2.base lw1) (n - 1) 1
    show OI 2 (w.heap.size + 1) _ _ ((List.replicate xs.length 0).set (xs.length - 1) 1)
    rw [HLX.out]
    exact h1
  have B3 : Below w.heap.size w (w2.setCell ⟨g, n - 1, none⟩ (.int .i64 1)) := B2.setCell (by show w.heap.size ≤ g; omega) _
  have hs3 : (w2.setCell ⟨g, n - 1, none⟩ (.int .i64 1)).cell? ⟨w.heap.size, 0, none⟩ = some (.slice A n c) := by
    rw [World.cell?_of_block (heap_setCell_other w2 ⟨g, n - 1, none⟩ w.heap.size _ (fun e => by simp at e; omega))]
    exact hs2
  clear own2 bel1 bel2 hself B0 B1 B2 cz fz hs1 hs2 hw1
  obtain ⟨w3, hw3⟩ : ∃ w3, w3 = w2.setCell ⟨g, n - 1, none⟩ (.int .i64 1) := ⟨_, rfl⟩
  rw [← hw3] at own3 B3 hs3 ⊢
  go_loopw [10, 12, 43] (fun i _ _ wr => ∃ (z : Int) (t : Nat), i = .int .i64 z ∧ z + t + 2 = n ∧ -1 ≤ z ∧ OI 2 (w.heap.size + 1) wr (.slice (some ⟨g, 0, none⟩) n c1) (M.sumN xs M.gainF t) ∧ Below w.heap.size w wr ∧ wr.cell? ⟨w.heap.size, 0, none⟩ = some (.slice A n c) ∧ w.heap.size < wr.heap.size) (fun i _ _ _ => (intOf i + 1).toNat)
  case atStart => exact ⟨(n : Int) - 2, 0, by go_num, by omega, by omega, own3, B3, hs3, World.block_lt_of_cell? _ _ hs3⟩
  case round =>
    obtain ⟨z, t, rfl, hz, hz1, own, Bw, hsr, lwr⟩ := hrel
    by_cases hlt : 0 ≤ z
    · obtain ⟨ii, rfl⟩ : ∃ ii : Nat, z = ii := ⟨z.toNat, by omega⟩
      have hidx := Lib.hid (show xs.length - 2 - t = ii by rw [HLX.out]; omega)
      have hii : ii < n := by omega
      have hX := Lib.hid (List.getElem?_eq_getElem (l := xs) (i := ii) (by rw [HLX.out]; exact hii))
      obtain ⟨b, o1, cc, cs, hv, hab, -, hE, hcc⟩ := (rx.below Bw).atX hX.out
      simp only [Value.slice.injEq] at hv
      obtain ⟨rfl, -, rfl⟩ := hv
      generalize xs[ii]'(by rw [HLX.out]; exact hii) = x at hX hE
      obtain ⟨s, l, us⟩ := x
      obtain ⟨A2, n2, c2, rfl, -, hE⟩ := st_R.1 hE
      have e2 : wr.cell? ⟨b, o1 + ii * 3 + 2, none⟩ = some (.slice A2 n2 c2) := hcc 2 _ rfl
      have hbr : b < wr.heap.size := Nat.lt_of_lt_of_le hab Bw.size
      have rs := (tSdS_ra hE).1
      have hn2 := rs.1
      obtain ⟨hlat, hu4, hsb⟩ := M.mix_strip HOK.out hX.out
      have HN2 := Lib.hid hn2
      have HSB := Lib.hid hsb
      have n2b : n2 ≤ 4 := by omega
      have hin2 : (ii : Int) < (n : Int) := by omega
      have hX' : xs[xs.length - 2 - t]? = some (s, l, us) := by rw [hidx.out]; exact hX.out
      have HXP := Lib.hid hX'
      clear hcc hE hn2 hu4 hsb hX'
      go_wp2
      obtain ⟨wo, rfl⟩ : ∃ wo : World, wo = wr := ⟨_, rfl⟩
      go_loopw [12, 43] (fun _ i wr => ∃ j : Nat, i = .int .i64 j ∧ j ≤ n2 ∧ OI 2 (w.heap.size + 1) wr (.slice (some ⟨g, 0, none⟩) n c1) (M.sumS xs M.gainF t us j) ∧ Below w.heap.size w wr ∧ Below w.heap.size wo wr ∧ wr.cell? ⟨w.heap.size, 0, none⟩ = some (.slice (some ⟨b, o1, none⟩) n c) ∧ w.heap.size < wr.heap.size) (fun _ i _ => n2 - (intOf i).toNat)
      case atStart => exact ⟨0, rfl, by omega, own, Bw, (Below.refl _ _).mono Bw.size, hsr, lwr⟩
      case round =>
        obtain ⟨j, rfl, hj, ownj, Bj, Bo, hsj, lwj⟩ := hrel
        by_cases hlt2 : j < n2
        · obtain ⟨b2, o2, ⟨p0, p1⟩, rfl, hab2, X2, hdd⟩ := (rs.below Bo).at sd_len (by decide) hlt2
          have f0 : wr.cell? ⟨b2, o2 + j * 2, none⟩ = some (.int .i64 p0) := hdd 0 _ rfl
          have f1 : wr.cell? ⟨b2, o2 + j * 2 + 1, none⟩ = some (.int .i64 p1) := hdd 1 _ rfl
          obtain ⟨hp1, hp2, hp3⟩ := M.sends_at HSB.out X2.out
          obtain ⟨q, rfl⟩ : ∃ q : Nat, p0 = q := ⟨p0.toNat, by omega⟩
          have hqn : q < n := by have := HLX.out; omega
          have hqn2 : (q : Int) < (n : Int) := by omega
          have bp := M.smp_bd hp3
          obtain ⟨y, hyy, cy, fy, -, -⟩ := ownj.at' hqn
          obtain ⟨x, hxx, cx, fx, -, -⟩ := ownj.at' hii
          have bx := M.allSmp_at (M.sumS_smp xs M.gainF t us j) hxx.out
          have by_ := M.allSmp_at (M.sumS_smp xs M.gainF t us j) hyy.out
          have hE2 := Lib.hid (M.sumS_next (xs := xs) (f := M.gainF) (t := t) X2.out)
          have hE3 := Lib.hid (M.sumSend_eq (f := M.gainF) (g := p1) hxx.out hyy.out)
          obtain ⟨g2, hg2, hg3, hgw⟩ := ownj.form' (by omega)
          obtain rfl : g = g2 := by injection hg2 with hg2; injection hg2
          have hb2w : b2 < wr.heap.size := Nat.lt_of_lt_of_le hab2 Bj.size
          have hmb := M.wrap64_mul_bd p1 y bp by_
          have hm9 : IntKind.i64.wrap (p1 * y) = p1 * y := IntWalk.i64_in _ (by omega)
          have ha9 : IntKind.i64.wrap (x + p1 * y) = x + p1 * y := IntWalk.i64_in _ (by omega)
          clear hdd hp1 hp2 hp3 hg2 hmb
          obtain ⟨U, hU⟩ : ∃ U, U = wr.alloc (.cells #[.int .i64 (q : Int), .int .i64 p1] 71) := ⟨_, rfl⟩
          have G0 : Below wr.heap.size wr U := by rw [hU]; exact (Below.refl _ _).alloc (Nat.le_refl _) _
          have u0 : U.cell? ⟨wr.heap.size, 0, none⟩ = some (.int .i64 (q : Int)) := by rw [hU, cell_of_row _ wr.heap.size 0 _ 71 (0, 0) (heap_alloc_new wr _)]; rfl
          have u1 : U.cell? ⟨wr.heap.size, 1, none⟩ = some (.int .i64 p1) := by rw [hU, cell_of_row _ wr.heap.size 1 _ 71 (0, 0) (heap_alloc_new wr _)]; rfl
          have lu : wr.heap.size < U.heap.size := by rw [hU]; simp
          have gu : g < U.heap.size := by omega
          have wu : w.heap.size < U.heap.size := by omega
          have ux : U.cell? ⟨g, ii, none⟩ = some (.int .i64 x) := by rw [G0.cell hgw]; exact cx
          have uy : U.cell? ⟨g, q, none⟩ = some (.int .i64 y) := by rw [G0.cell hgw]; exact cy
          have fu : U.frozen? ⟨g, ii, none⟩ = false := by rw [G0.frozen hgw]; exact fx
          have us_ : U.cell? ⟨w.heap.size, 0, none⟩ = some (.slice (some ⟨b, o1, none⟩) n c) := by rw [G0.cell lwj]; exact hsj
          have ownU := ownj.below G0
          have HU := Lib.hid hU
          have k0' := cell_regrown u0
          have k1' := cell_regrown u1
          have kx' := cell_regrown ux
          have ky' := cell_regrown uy
          have cC : ∀ d os, Calls Try.prog 51 #[.agg #[.int .i64 (q : Int), .int .i64 p1]] (grow (redrawn U d) os) fun e w'' => e = .returned (.int .i64 p1) ∧ ∃ p : Regrown, w'' = grow (redrawn U p.d) p.os := fun d os => Calls.regrown_of (impl_cGain _ _ _)
          have cW : ∀ d os z, Calls Try.prog 70 #[.int .i64 z] (grow (redrawn U d) os) fun e w'' => e = .returned (.int .i64 (wrap32 z)) ∧ ∃ p : Regrown, w'' = grow (redrawn U p.d) p.os := fun d os z => Calls.regrown_of ((impl_Wrap z _).mono fun _ _ h => ⟨h.1, by rw [← h.2]; exact Below.refl _ _⟩)
          have zw : w.heap.size ≤ wr.heap.size := by omega
          clear hU
          go_wp2
          rw [← HU.out]
          refine wp_region_below_tail 18 (by kernel_rfl) (by kernel_rfl) ?_
          simp only [List.take_succ_cons, List.take_zero, List.drop_succ_cons, List.drop_zero]
          repeat (go_big_quiet_step ((first | exact cC _ _ | exact cW _ _ _)))
          refine wpQuiet_nil ?_
          intro _ hw9
          obtain ⟨⟨dq, osq⟩, hw9⟩ := hw9
          subst hw9
          have G2 := below_regrown U dq osq
          clear cC cW k0' k1' kx' ky'
          generalize grow (redrawn U dq) osq = w5 at G2 ⊢
          have fv : w5.frozen? ⟨g, ii, none⟩ = false := by rw [G2.frozen gu]; exact fu
          have vs : w5.cell? ⟨w.heap.size, 0, none⟩ = some (.slice (some ⟨b, o1, none⟩) n c) := by rw [G2.cell wu]; exact us_
          have cv5 : w5.cell? ⟨g, ii, none⟩ = some (.int .i64 x) := by rw [G2.cell gu]; exact ux
          have own5 := ownU.below G2
          have hu2 := G2.size
          go_wp2
          go_roundw
          case rel =>
            have h3 := OI.stored' own5 ii (wrap32 (x + p1 * y))
            have e3 : (M.sumS xs M.gainF t us j).set ii (wrap32 (x + p1 * y)) = M.sumS xs M.gainF t us (j + 1) := by
              rw [hE2.out, hidx.out, hE3.out]; rfl
            rw [e3] at h3
            have BB := Bj.trans (G0.mono zw)
            have BC := Bo.trans (G0.mono zw)
            have zU : w.heap.size ≤ U.heap.size := by omega
            have vt : (w5.setCell ⟨g, ii, none⟩ (.int .i64 (wrap32 (x + p1 * y)))).cell? ⟨w.heap.size, 0, none⟩ = some (.slice (some ⟨b, o1, none⟩) n c) := by
              rw [World.cell?_of_block (heap_setCell_other w5 ⟨g, ii, none⟩ w.heap.size _ (fun e => by simp at e; omega))]
              exact vs
            try simp only [Int.one_mul] at h3 vt ⊢
            exact ⟨j + 1, by go_num, by omega, h3, (BB.trans (G2.mono zU)).setCell (by show w.heap.size ≤ g; omega) _, (BC.trans (G2.mono zU)).setCell (by show w.heap.size ≤ g; omega) _, vt, World.block_lt_of_cell? _ _ vt⟩
          case measure => simp [intOf]; omega
        · obtain rfl : j = n2 := by omega
          have hend := M.sumS_end (f := M.gainF) HXP.out
          rw [HN2.out] at hend
          have HE := Lib.hid hend
          clear hend
          go_wp2
          go_roundw
          case rel => exact ⟨(ii : Int) - 1, t + 1, by go_num, by omega, by omega, by rw [← HE.out]; exact ownj, Bj, hsj, lwj⟩
          case measure => simp [intOf] <;> omega
    · obtain rfl : z = -1 := by omega
      obtain rfl : t = n - 1 := by omega
      obtain ⟨v, hvv, cv, fv, -, -⟩ := own.at' hkn
      have hR := Lib.hid (show M.sumR xs M.gainF (kk : Int) = (v, 0) by rw [R.out, M.sums, HLX.out, hvv.out]; rfl)
      go_wp2
      go_ret2
      exact ⟨by rw [hR.out]; rfl, Bw⟩
theorem impl_sum_paths (A : Option Addr) (n c : Nat) (xs : List Strip) (k : Int) (w : World) (hx : tM.R w w.heap.size [.slice A n c] xs) (hn : hM.sz xs ≤ 100000000) (hok : M.mixOk xs = true) (hik : M.inn k 0 ((xs.length : Int) - 1) = true) :
    Calls Try.prog 50 #[.agg #[.slice A n c], .int .i64 k, .func (.func 52) #[] #[]] w fun e w' => e = .returned (.tuple #[.int .i64 (M.sumR xs M.oneF k).1, .int .i64 (M.sumR xs M.oneF k).2]) ∧ Below w.heap.size w w' := by
  have rx := sl_R.1 hx
  have hlx := rx.cap.1
  have hmn := M.mix_n hok
  have hnb : 1 ≤ n ∧ n ≤ 8 := by omega
  have HLX := Lib.hid hlx
  have HOK := Lib.hid hok
  have hk2 : IntKind.i64.wrap ((n : Int) - 2) = (n : Int) - 2 := IntWalk.i64_in _ (by omega)
  have hk1 := M.inn_iff.1 hik
  obtain ⟨kk, rfl⟩ : ∃ kk : Nat, k = kk := ⟨k.toNat, by omega⟩
  have hkn : kk < n := by omega
  have hkn2 : (kk : Int) < (n : Int) := by omega
  have i0 : (0 : Int) ≤ (kk : Int) := by omega
  have HIK := Lib.hid (show M.inn (kk : Int) 0 ((n : Int) - 1) = true by rw [← hlx]; exact hik)
  have R := Lib.hid (show M.sumR xs M.oneF (kk : Int) = (((M.sums xs M.oneF)[kk]?).getD 0, 0) by rw [M.sumR, hok, hik]; rfl)
  have hk3 : IntKind.i64.wrap ((n : Int) - 1) = (n : Int) - 1 := IntWalk.i64_in _ (by omega)
  obtain ⟨W, hW⟩ : ∃ W, W = w.alloc (.cells #[.slice A n c] 29) := ⟨_, rfl⟩
  have B0 : Below w.heap.size w W := by rw [hW]; exact (Below.refl _ _).alloc (Nat.le_refl _) _
  have hself : W.cell? ⟨w.heap.size, 0, none⟩ = some (.slice A n c) := by rw [hW]; simp [go_sem]
  have lx : w.heap.size < W.heap.size := by rw [hW]; simp
  have hx2 := tM.later hx B0
  have HX2 := Lib.hid hx2
  have HW := Lib.hid hW
  have hm1 : (((n - 1 : Nat)) : Int) = (n : Int) - 1 := by omega
  have hml : n - 1 < n := by omega
  have j0 : (0 : Int) ≤ ((n - 1 : Nat) : Int) := by omega
  have j1 : ((n - 1 : Nat) : Int) < (n : Int) := by omega
  have hk4 : IntKind.i64.wrap ((n : Int) - 1) = ((n - 1 : Nat) : Int) := by rw [hk3, hm1]
  clear hlx hmn hok hik hk1 hW hx2 hk3
  go_enter Try.func50, Try.ntmps50
  go_wp2_with fail
  rw [← HW.out]
  go_wp2_with (first | (go_at_call 43; refine (impl_isMixer _ _ _ _ _ HX2.out hn).mono ?_; rw [HOK.out]; rintro e w1 ⟨rfl, bel1⟩; have hs1 : w1.cell? ⟨w.heap.size, 0, none⟩ = some (.slice A n c) := (by rw [bel1.cell lx]; exact hself)) | (go_at_call 63; refine (impl_size_impl_Strip _ _ _ _).mono ?_; rintro e w' ⟨rfl, rfl⟩) | (go_at_call 65; refine (impl_within _ _ _ _).mono ?_; rw [HIK.out]; rintro e w' ⟨rfl, rfl⟩) | (go_at_call 69; refine (impl_zeros _ _ (by omega) (by omega)).mono ?_; rintro e w2 ⟨v2, rfl, own2, bel2⟩; rw [Int.toNat_natCast] at own2; obtain ⟨A1, c1, rfl, -⟩ := own2.shape; rw [List.length_replicate] at own2 ⊢; obtain ⟨g, rfl, hg1, hg2⟩ := own2.form' (by omega); obtain ⟨z, -, cz, fz, -, -⟩ := own2.at' hml; have hs2 : w2.cell? ⟨w.heap.size, 0, none⟩ = some (.slice A n c) := (by rw [bel2.cell (Nat.lt_of_lt_of_le lx bel1.size)]; exact hs1)))
  have B1 := bel_trans B0 bel1
  have B2 := bel_trans B1 bel2
  have hw1 := bel1.size
  have lw1 : w.heap.size + 1 ≤ w1.heap.size := by omega
  have own3 : OI 2 (w.heap.size + 1) (w2.setCell ⟨g, n - 1, none⟩ (.int .i64 1)) (.slice (some ⟨g, 0, none⟩) n c1) (M.sumN xs M.oneF 0) := by
    have h1 := OI.stored' (own2.base lw1) (n - 1) 1
    show OI 2 (w.heap.size + 1) _ _ ((List.replicate xs.length 0).set (xs.length - 1) 1)
    rw [HLX.out]
    exact h1
  have B3 : Below w.heap.size w (w2.setCell ⟨g, n - 1, none⟩ (.int .i64 1)) := B2.setCell (by show w.heap.size ≤ g; omega) _
  have hs3 : (w2.setCell ⟨g, n - 1, none⟩ (.int .i64 1)).cell? ⟨w.heap.size, 0, none⟩ = some (.slice A n c) := by
    rw [World.cell?_of_block (heap_setCell_other w2 ⟨g, n - 1, none⟩ w.heap.size _ (fun e => by simp at e; omega))]
    exact hs2
  clear own2 bel1 bel2 hself B0 B1 B2 cz fz hs1 hs2 hw1
  obtain ⟨w3, hw3⟩ : ∃ w3, w3 = w2.setCell ⟨g, n - 1, none⟩ (.int .i64 1) := ⟨_, rfl⟩
  rw [← hw3] at own3 B3 hs3 ⊢
  go_loopw [10, 12, 43] (fun i _ _ wr => ∃ (z : Int) (t : Nat), i = .int .i64 z ∧ z + t + 2 = n ∧ -1 ≤ z ∧ OI 2 (w.heap.size + 1) wr (.slice (some ⟨g, 0, none⟩) n c1) (M.sumN xs M.oneF t) ∧ Below w.heap.size w wr ∧ wr.cell? ⟨w.heap.size, 0, none⟩ = some (.slice A n c) ∧ w.heap.size < wr.heap.size) (fun i _ _ _ => (intOf i + 1).toNat)
  case atStart => exact ⟨(n : Int) - 2, 0, by go_num, by omega, by omega, own3, B3, hs3, World.block_lt_of_cell? _ _ hs3⟩
  case round =>
    obtain ⟨z, t, rfl, hz, hz1, own, Bw, hsr, lwr⟩ := hrel
    by_cases hlt : 0 ≤ z
    · obtain ⟨ii, rfl⟩ : ∃ ii : Nat, z = ii := ⟨z.toNat, by omega⟩
      have hidx := Lib.hid (show xs.length - 2 - t = ii by rw [HLX.out]; omega)
      have hii : ii < n := by omega
      have hX := Lib.hid (List.getElem?_eq_getElem (l := xs) (i := ii) (by rw [HLX.out]; exact hii))
      obtain ⟨b, o1, cc, cs, hv, hab, -, hE, hcc⟩ := (rx.below Bw).atX hX.out
      simp only [Value.slice.injEq] at hv
      obtain ⟨rfl, -, rfl⟩ := hv
      generalize xs[ii]'(by rw [HLX.out]; exact hii) = x at hX hE
      obtain ⟨s, l, us⟩ := x
      obtain ⟨A2, n2, c2, rfl, -, hE⟩ := st_R.1 hE
      have e2 : wr.cell? ⟨b, o1 + ii * 3 + 2, none⟩ = some (.slice A2 n2 c2) := hcc 2 _ rfl
      have hbr : b < wr.heap.size := Nat.lt_of_lt_of_le hab Bw.size
      have rs := (tSdS_ra hE).1
      have hn2 := rs.1
      obtain ⟨hlat, hu4, hsb⟩ := M.mix_strip HOK.out hX.out
      have HN2 := Lib.hid hn2
      have HSB := Lib.hid hsb
      have n2b : n2 ≤ 4 := by omega
      have hin2 : (ii : Int) < (n : Int) := by omega
      have hX' : xs[xs.length - 2 - t]? = some (s, l, us) := by rw [hidx.out]; exact hX.out
      have HXP := Lib.hid hX'
      clear hcc hE hn2 hu4 hsb hX'
      go_wp2
      obtain ⟨wo, rfl⟩ : ∃ wo : World, wo = wr := ⟨_, rfl⟩
      go_loopw [12, 43] (fun _ i wr => ∃ j : Nat, i = .int .i64 j ∧ j ≤ n2 ∧ OI 2 (w.heap.size + 1) wr (.slice (some ⟨g, 0, none⟩) n c1) (M.sumS xs M.oneF t us j) ∧ Below w.heap.size w wr ∧ Below w.heap.size wo wr ∧ wr.cell? ⟨w.heap.size, 0, none⟩ = some (.slice (some ⟨b, o1, none⟩) n c) ∧ w.heap.size < wr.heap.size) (fun _ i _ => n2 - (intOf i).toNat)
      case atStart => exact ⟨0, rfl, by omega, own, Bw, (Below.refl _ _).mono Bw.size, hsr, lwr⟩
      case round =>
        obtain ⟨j, rfl, hj, ownj, Bj, Bo, hsj, lwj⟩ := hrel
        by_cases hlt2 : j < n2
        · obtain ⟨b2, o2, ⟨p0, p1⟩, rfl, hab2, X2, hdd⟩ := (rs.below Bo).at sd_len (by decide) hlt2
          have f0 : wr.cell? ⟨b2, o2 + j * 2, none⟩ = some (.int .i64 p0) := hdd 0 _ rfl
          have f1 : wr.cell? ⟨b2, o2 + j * 2 + 1, none⟩ = some (.int .i64 p1) := hdd 1 _ rfl
          obtain ⟨hp1, hp2, hp3⟩ := M.sends_at HSB.out X2.out
          obtain ⟨q, rfl⟩ : ∃ q : Nat, p0 = q := ⟨p0.toNat, by omega⟩
          have hqn : q < n := by have := HLX.out; omega
          have hqn2 : (q : Int) < (n : Int) := by omega
          have bp := M.smp_bd hp3
          obtain ⟨y, hyy, cy, fy, -, -⟩ := ownj.at' hqn
          obtain ⟨x, hxx, cx, fx, -, -⟩ := ownj.at' hii
          have bx := M.allSmp_at (M.sumS_smp xs M.oneF t us j) hxx.out
          have by_ := M.allSmp_at (M.sumS_smp xs M.oneF t us j) hyy.out
          have hE2 := Lib.hid (M.sumS_next (xs := xs) (f := M.oneF) (t := t) X2.out)
          have hE3 := Lib.hid (M.sumSend_eq (f := M.oneF) (g := p1) hxx.out hyy.out)
          obtain ⟨g2, hg2, hg3, hgw⟩ := ownj.form' (by omega)
          obtain rfl : g = g2 := by injection hg2 with hg2; injection hg2
          have hb2w : b2 < wr.heap.size := Nat.lt_of_lt_of_le hab2 Bj.size
          have hmb := M.wrap64_mul_bd p1 y bp by_
          have hm9 : IntKind.i64.wrap (1 * y) = 1 * y := IntWalk.i64_in _ (by omega)
          have ha9 : IntKind.i64.wrap (x + 1 * y) = x + 1 * y := IntWalk.i64_in _ (by omega)
          clear hdd hp1 hp2 hp3 hg2 hmb
          obtain ⟨U, hU⟩ : ∃ U, U = wr.alloc (.cells #[.int .i64 (q : Int), .int .i64 p1] 71) := ⟨_, rfl⟩
          have G0 : Below wr.heap.size wr U := by rw [hU]; exact (Below.refl _ _).alloc (Nat.le_refl _) _
          have u0 : U.cell? ⟨wr.heap.size, 0, none⟩ = some (.int .i64 (q : Int)) := by rw [hU, cell_of_row _ wr.heap.size 0 _ 71 (0, 0) (heap_alloc_new wr _)]; rfl
          have u1 : U.cell? ⟨wr.heap.size, 1, none⟩ = some (.int .i64 p1) := by rw [hU, cell_of_row _ wr.heap.size 1 _ 71 (0, 0) (heap_alloc_new wr _)]; rfl
          have lu : wr.heap.size < U.heap.size := by rw [hU]; simp
          have gu : g < U.heap.size := by omega
          have wu : w.heap.size < U.heap.size := by omega
          have ux : U.cell? ⟨g, ii, none⟩ = some (.int .i64 x) := by rw [G0.cell hgw]; exact cx
          have uy : U.cell? ⟨g, q, none⟩ = some (.int .i64 y) := by rw [G0.cell hgw]; exact cy
          have fu : U.frozen? ⟨g, ii, none⟩ = false := by rw [G0.frozen hgw]; exact fx
          have us_ : U.cell? ⟨w.heap.size, 0, none⟩ = some (.slice (some ⟨b, o1, none⟩) n c) := by rw [G0.cell lwj]; exact hsj
          have ownU := ownj.below G0
          have HU := Lib.hid hU
          have k0' := cell_regrown u0
          have k1' := cell_regrown u1
          have kx' := cell_regrown ux
          have ky' := cell_regrown uy
          have cC : ∀ d os, Calls Try.prog 52 #[.agg #[.int .i64 (q : Int), .int .i64 p1]] (grow (redrawn U d) os) fun e w'' => e = .returned (.int .i64 1) ∧ ∃ p : Regrown, w'' = grow (redrawn U p.d) p.os := fun d os => Calls.regrown_of (impl_cPaths _ _ _)
          have cW : ∀ d os z, Calls Try.prog 70 #[.int .i64 z] (grow (redrawn U d) os) fun e w'' => e = .returned (.int .i64 (wrap32 z)) ∧ ∃ p : Regrown, w'' = grow (redrawn U p.d) p.os := fun d os z => Calls.regrown_of ((impl_Wrap z _).mono fun _ _ h => ⟨h.1, by rw [← h.2]; exact Below.refl _ _⟩)
          have zw : w.heap.size ≤ wr.heap.size := by omega
          clear hU
          go_wp2
          rw [← HU.out]
          refine wp_region_below_tail 18 (by kernel_rfl) (by kernel_rfl) ?_
          simp only [List.take_succ_cons, List.take_zero, List.drop_succ_cons, List.drop_zero]
          repeat (go_big_quiet_step ((first | exact cC _ _ | exact cW _ _ _)))
          refine wpQuiet_nil ?_
          intro _ hw9
          obtain ⟨⟨dq, osq⟩, hw9⟩ := hw9
          subst hw9
          have G2 := below_regrown U dq osq
          clear cC cW k0' k1' kx' ky'
          generalize grow (redrawn U dq) osq = w5 at G2 ⊢
          have fv : w5.frozen? ⟨g, ii, none⟩ = false := by rw [G2.frozen gu]; exact fu
          have vs : w5.cell? ⟨w.heap.size, 0, none⟩ = some (.slice (some ⟨b, o1, none⟩) n c) := by rw [G2.cell wu]; exact us_
          have cv5 : w5.cell? ⟨g, ii, none⟩ = some (.int .i64 x) := by rw [G2.cell gu]; exact ux
          have own5 := ownU.below G2
          have hu2 := G2.size
          go_wp2
          go_roundw
          case rel =>
            have h3 := OI.stored' own5 ii (wrap32 (x + 1 * y))
            have e3 : (M.sumS xs M.oneF t us j).set ii (wrap32 (x + 1 * y)) = M.sumS xs M.oneF t us (j + 1) := by
              rw [hE2.out, hidx.out, hE3.out]; rfl
            rw [e3] at h3
            have BB := Bj.trans (G0.mono zw)
            have BC := Bo.trans (G0.mono zw)
            have zU : w.heap.size ≤ U.heap.size := by omega
            have vt : (w5.setCell ⟨g, ii, none⟩ (.int .i64 (wrap32 (x + 1 * y)))).cell? ⟨w.heap.size, 0, none⟩ = some (.slice (some ⟨b, o1, none⟩) n c) := by
              rw [World.cell?_of_block (heap_setCell_other w5 ⟨g, ii, none⟩ w.heap.size _ (fun e => by simp at e; omega))]
              exact vs
            try simp only [Int.one_mul] at h3 vt ⊢
            exact ⟨j + 1, by go_num, by omega, h3, (BB.trans (G2.mono zU)).setCell (by show w.heap.size ≤ g; omega) _, (BC.trans (G2.mono zU)).setCell (by show w.heap.size ≤ g; omega) _, vt, World.block_lt_of_cell? _ _ vt⟩
          case measure => simp [intOf]; omega
        · obtain rfl : j = n2 := by omega
          have hend := M.sumS_end (f := M.oneF) HXP.out
          rw [HN2.out] at hend
          have HE := Lib.hid hend
          clear hend
          go_wp2
          go_roundw
          case rel => exact ⟨(ii : Int) - 1, t + 1, by go_num, by omega, by omega, by rw [← HE.out]; exact ownj, Bj, hsj, lwj⟩
          case measure => simp [intOf] <;> omega
    · obtain rfl : z = -1 := by omega
      obtain rfl : t = n - 1 := by omega
      obtain ⟨v, hvv, cv, fv, -, -⟩ := own.at' hkn
      have hR := Lib.hid (show M.sumR xs M.oneF (kk : Int) = (v, 0) by rw [R.out, M.sums, HLX.out, hvv.out]; rfl)
      go_wp2
      go_ret2
      exact ⟨by rw [hR.out]; rfl, Bw⟩
end Go.Proofs.Ytebaffdaffcdmaa
