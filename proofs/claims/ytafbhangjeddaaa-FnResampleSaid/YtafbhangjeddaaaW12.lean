import Derived.Test.YtafbhangjeddaaaW11
namespace Go.Proofs.Ytafbhangjeddaaa
open Go.RowKit
set_option maxHeartbeats 1000000
set_option maxRecDepth 100000
theorem impl_CombCascade (A : Option Addr) (n c : Nat) (xs : List Int) (m o : Int) (w : World) (hx : RI w w.heap.size A n xs) (hn : n ≤ 1000000000) :
    Calls Try.prog 30 #[.slice A n c, .int .i64 m, .int .i64 o] w (Ret2 2 w (M.CombCascade xs m o)) := by
  have hl := Lib.hid hx.len
  cases hs : M.sig xs
  · have R := Lib.hid (show M.CombCascade xs m o = ([], 1) by simp [M.CombCascade, hs])
    cases h1 : M.spn m
    · have hr : M.rate xs false = 1 := by simp [M.rate, hs]
      go_enter Try.func30, Try.ntmps30
      go_wp2_with (first | (go_at_call 57; refine (impl_isSpan _ _).mono ?_; rintro e w' ⟨rfl, rfl⟩) | (go_at_call 62; refine (impl_within _ _ _ _).mono ?_; rintro e w' ⟨rfl, rfl⟩) | (go_at_call 56; refine (impl_rateCode _ _ _ _ _ _ hx hn).mono ?_; rintro e w' ⟨rfl, rfl⟩))
      go_ret2
      rw [R.out]
      exact ⟨_, rfl, OI.nil _ _ _, Below.refl _ _⟩
    · have hr : M.rate xs (M.inn o 0 6) = 1 := by simp [M.rate, hs]
      have hr2 : M.rate xs true = 1 := by simp [M.rate, hs]
      go_enter Try.func30, Try.ntmps30
      go_wp2_with (first | (go_at_call 57; refine (impl_isSpan _ _).mono ?_; rintro e w' ⟨rfl, rfl⟩) | (go_at_call 62; refine (impl_within _ _ _ _).mono ?_; rintro e w' ⟨rfl, rfl⟩) | (go_at_call 56; refine (impl_rateCode _ _ _ _ _ _ hx hn).mono ?_; rintro e w' ⟨rfl, rfl⟩))
      go_ret2
      rw [R.out]
      exact ⟨_, rfl, OI.nil _ _ _, Below.refl _ _⟩
  cases h1 : M.spn m
  · have R := Lib.hid (show M.CombCascade xs m o = ([], 2) by simp [M.CombCascade, hs, h1])
    have hr : M.rate xs false = 2 := by simp [M.rate, hs]
    go_enter Try.func30, Try.ntmps30
    go_wp2_with (first | (go_at_call 57; refine (impl_isSpan _ _).mono ?_; rintro e w' ⟨rfl, rfl⟩) | (go_at_call 62; refine (impl_within _ _ _ _).mono ?_; rintro e w' ⟨rfl, rfl⟩) | (go_at_call 56; refine (impl_rateCode _ _ _ _ _ _ hx hn).mono ?_; rintro e w' ⟨rfl, rfl⟩))
    go_ret2
    rw [R.out]
    exact ⟨_, rfl, OI.nil _ _ _, Below.refl _ _⟩
  cases h2 : M.inn o 0 6
  · have R := Lib.hid (show M.CombCascade xs m o = ([], 2) by simp [M.CombCascade, hs, h1, h2])
    have hr2 : M.rate xs false = 2 := by simp [M.rate, hs]
    have hr : M.rate xs true = 0 := by simp [M.rate, hs]
    go_enter Try.func30, Try.ntmps30
    go_wp2_with (first | (go_at_call 57; refine (impl_isSpan _ _).mono ?_; rintro e w' ⟨rfl, rfl⟩) | (go_at_call 62; refine (impl_within _ _ _ _).mono ?_; rintro e w' ⟨rfl, rfl⟩) | (go_at_call 56; refine (impl_rateCode _ _ _ _ _ _ hx hn).mono ?_; rintro e w' ⟨rfl, rfl⟩))
    go_ret2
    rw [R.out]
    exact ⟨_, rfl, OI.nil _ _ _, Below.refl _ _⟩
  have R := Lib.hid (show M.CombCascade xs m o = (M.iter (fun l => M.combL l m) o.toNat (M.iter (M.integ 0) o.toNat xs), 0) by simp [M.CombCascade, hs, h1, h2])
  have hr : M.rate xs true = 0 := by simp [M.rate, hs]
  have hm := M.spn_bd h1
  have ho := M.inn_bd h2
  obtain ⟨o, rfl⟩ := Int.eq_ofNat_of_zero_le ho.1
  rw [Int.toNat_natCast] at R
  have HS := Lib.hid (M.sig_smp hs)
  go_enter Try.func30, Try.ntmps30
  go_wp2_with (first | (go_at_call 63; refine (impl_clone _ _ _ _ _ hx hn).mono ?_; rintro e w1 ⟨v1, rfl, own1, bel1⟩) | (first | (go_at_call 57; refine (impl_isSpan _ _).mono ?_; rintro e w' ⟨rfl, rfl⟩) | (go_at_call 62; refine (impl_within _ _ _ _).mono ?_; rintro e w' ⟨rfl, rfl⟩) | (go_at_call 56; refine (impl_rateCode _ _ _ _ _ _ hx hn).mono ?_; rintro e w' ⟨rfl, rfl⟩)))
  go_loopw [9, 24] (fun v i wr => ∃ (k : Nat) (ys : List Int), i = .int .i64 k ∧ k ≤ o ∧ Hid (ys.length = n) ∧ Hid (∀ x ∈ ys, M.smp x = true) ∧ Hid (M.iter (M.integ 0) (o - k) ys = M.iter (M.integ 0) o xs) ∧
      OI 2 w.heap.size wr v ys ∧ Below w.heap.size w wr)
    (fun _ i _ => o - (intOf i).toNat)
  case atStart => exact ⟨0, xs, rfl, by omega, hl, HS, Lib.hid rfl, own1, bel1⟩
  case round =>
    obtain ⟨k, ys, rfl, hk, hyl, hys, H, own, hb⟩ := hrel
    have hy1 : ys.length ≤ 1000000000 := by rw [hyl.out]; exact hn
    by_cases hlt : k < o
    · obtain ⟨A1, c1, rfl, r1⟩ := own.shape
      go_wp2_with (go_at_call 59; refine (impl_integrate _ _ _ _ _ r1 hys.out hy1).mono ?_; rintro e w2 ⟨v2, rfl, own2, bel2⟩)
      go_roundw
      case rel => exact ⟨k + 1, M.integ 0 ys, by go_num, by omega, Lib.hid (by rw [M.integ_len]; exact hyl.out), Lib.hid (M.integ_smp _ _), Lib.hid (by have := H.out; rwa [show o - k = (o - (k + 1)) + 1 by omega] at this), own2.base hb.size, bel_trans' hb hb.size bel2⟩
      case measure => simp [intOf]; omega
    · obtain rfl : k = o := by omega
      have e0 := Lib.hid (show ys = M.iter (M.integ 0) k xs by have := H.out; rwa [Nat.sub_self] at this)
      clear H
      go_wp2
      go_loopw [9, 30] (fun v i wr => ∃ (j : Nat) (zs : List Int), i = .int .i64 j ∧ j ≤ k ∧ Hid (zs.length = n) ∧ Hid (∀ x ∈ zs, M.smp x = true) ∧ Hid (M.iter (fun l => M.combL l m) (k - j) zs = M.iter (fun l => M.combL l m) k ys) ∧
          OI 2 w.heap.size wr v zs ∧ Below w.heap.size w wr)
        (fun _ i _ => k - (intOf i).toNat)
      case atStart => exact ⟨0, ys, rfl, by omega, hyl, hys, Lib.hid rfl, own, hb⟩
      case round =>
        clear hy1 hyl hys own hb
        obtain ⟨j, ys', rfl, hj, hyl, hys, H, own, hb⟩ := hrel
        have hy1 : ys'.length ≤ 1000000000 := by rw [hyl.out]; exact hn
        by_cases hlj : j < k
        · obtain ⟨A1, c1, rfl, r1⟩ := own.shape
          go_wp2_with (go_at_call 58; refine (impl_comb _ _ _ _ _ _ r1 hys.out hy1 hm).mono ?_; rintro e w2 ⟨v2, rfl, own2, bel2⟩)
          go_roundw
          case rel => exact ⟨j + 1, M.combL ys' m, by go_num, by omega, Lib.hid (by rw [M.combL_len]; exact hyl.out), Lib.hid (M.combL_smp _ _), Lib.hid (by have := H.out; rwa [show k - j = (k - (j + 1)) + 1 by omega] at this), own2.base hb.size, bel_trans' hb hb.size bel2⟩
          case measure => simp [intOf]; omega
        · obtain rfl : j = k := by omega
          go_wp2
          go_ret2
          have e1 := H.out
          rw [Nat.sub_self, e0.out] at e1
          rw [R.out]
          exact ⟨_, rfl, by rw [← e1]; exact own, hb⟩
theorem spec_CombCascade (A : Option Addr) (n c : Nat) (xs : List Int) (m o : Int) (w : World) (hx : RI w w.heap.size A n xs) (hn : n ≤ 1000000000) :
    Calls Try.prog 29 #[.slice A n c, .int .i64 m, .int .i64 o] w (Ret2 2 w (M.CombCascade xs m o)) := by
  have hl := Lib.hid hx.len
  cases hs : M.sig xs
  · have R := Lib.hid (show M.CombCascade xs m o = ([], 1) by simp [M.CombCascade, hs])
    cases h1 : M.spn m
    · have hr : M.rate xs false = 1 := by simp [M.rate, hs]
      go_enter Try.func29, Try.ntmps29
      go_wp2_with (first | (go_at_call 60; refine (spec_l00In _ _ _ _).mono ?_; rintro e w' ⟨rfl, rfl⟩) | (go_at_call 54; refine (spec_l28Ask _ _ _ _ _ _ hx hn).mono ?_; (first | rw [h1] | skip); (first | rw [hr] | skip); rintro e w' ⟨rfl, rfl⟩))
      go_ret2
      rw [R.out]
      exact ⟨_, rfl, OI.nil _ _ _, Below.refl _ _⟩
    · have hr : M.rate xs (M.inn o 0 6) = 1 := by simp [M.rate, hs]
      have hr2 : M.rate xs true = 1 := by simp [M.rate, hs]
      go_enter Try.func29, Try.ntmps29
      go_wp2_with (first | (go_at_call 60; refine (spec_l00In _ _ _ _).mono ?_; rintro e w' ⟨rfl, rfl⟩) | (go_at_call 54; refine (spec_l28Ask _ _ _ _ _ _ hx hn).mono ?_; (first | rw [h1] | skip); (first | rw [hr] | skip); rintro e w' ⟨rfl, rfl⟩))
      go_ret2
      rw [R.out]
      exact ⟨_, rfl, OI.nil _ _ _, Below.refl _ _⟩
  cases h1 : M.spn m
  · have R := Lib.hid (show M.CombCascade xs m o = ([], 2) by simp [M.CombCascade, hs, h1])
    have hr : M.rate xs false = 2 := by simp [M.rate, hs]
    go_enter Try.func29, Try.ntmps29
    go_wp2_with (first | (go_at_call 60; refine (spec_l00In _ _ _ _).mono ?_; rintro e w' ⟨rfl, rfl⟩) | (go_at_call 54; refine (spec_l28Ask _ _ _ _ _ _ hx hn).mono ?_; (first | rw [h1] | skip); (first | rw [hr] | skip); rintro e w' ⟨rfl, rfl⟩))
    go_ret2
    rw [R.out]
    exact ⟨_, rfl, OI.nil _ _ _, Below.refl _ _⟩
  cases h2 : M.inn o 0 6
  · have R := Lib.hid (show M.CombCascade xs m o = ([], 2) by simp [M.CombCascade, hs, h1, h2])
    have hr2 : M.rate xs false = 2 := by simp [M.rate, hs]
    have hr : M.rate xs true = 0 := by simp [M.rate, hs]
    go_enter Try.func29, Try.ntmps29
    go_wp2_with (first | (go_at_call 60; refine (spec_l00In _ _ _ _).mono ?_; rintro e w' ⟨rfl, rfl⟩) | (go_at_call 54; refine (spec_l28Ask _ _ _ _ _ _ hx hn).mono ?_; (first | rw [h1] | skip); (first | rw [hr] | skip); rintro e w' ⟨rfl, rfl⟩))
    go_ret2
    rw [R.out]
    exact ⟨_, rfl, OI.nil _ _ _, Below.refl _ _⟩
  have R := Lib.hid (show M.CombCascade xs m o = (M.iter (fun l => M.combL l m) o.toNat (M.iter (M.integ 0) o.toNat xs), 0) by simp [M.CombCascade, hs, h1, h2])
  have hr : M.rate xs true = 0 := by simp [M.rate, hs]
  have hm := M.spn_bd h1
  have ho := M.inn_bd h2
  obtain ⟨o, rfl⟩ := Int.eq_ofNat_of_zero_le ho.1
  rw [Int.toNat_natCast] at R
  have HS := Lib.hid (M.sig_smp hs)
  go_enter Try.func29, Try.ntmps29
  go_wp2_with (first | (go_at_call 61; refine (spec_l00Own _ _ _ _ _ hx hn).mono ?_; rintro e w1 ⟨v1, rfl, own1, bel1⟩) | (first | (go_at_call 60; refine (spec_l00In _ _ _ _).mono ?_; rintro e w' ⟨rfl, rfl⟩) | (go_at_call 54; refine (spec_l28Ask _ _ _ _ _ _ hx hn).mono ?_; (first | rw [h1] | skip); (first | rw [hr] | skip); rintro e w' ⟨rfl, rfl⟩)))
  go_loopw [9, 10] (fun v i wr => ∃ (k : Nat) (ys : List Int), i = .int .i64 k ∧ k ≤ o ∧ Hid (ys.length = n) ∧ Hid (∀ x ∈ ys, M.smp x = true) ∧ Hid (M.iter (M.integ 0) (o - k) ys = M.iter (M.integ 0) o xs) ∧
      OI 2 w.heap.size wr v ys ∧ Below w.heap.size w wr)
    (fun _ i _ => o - (intOf i).toNat)
  case atStart => exact ⟨0, xs, rfl, by omega, hl, HS, Lib.hid rfl, own1, bel1⟩
  case round =>
    obtain ⟨k, ys, rfl, hk, hyl, hys, H, own, hb⟩ := hrel
    have hy1 : ys.length ≤ 1000000000 := by rw [hyl.out]; exact hn
    by_cases hlt : k < o
    · obtain ⟨A1, c1, rfl, r1⟩ := own.shape
      go_wp2_with (go_at_call 66; refine (spec_l28Integrate _ _ _ _ _ r1 hy1).mono ?_; rintro e w2 ⟨v2, rfl, own2, bel2⟩)
      go_roundw
      case rel => exact ⟨k + 1, M.integ 0 ys, by go_num, by omega, Lib.hid (by rw [M.integ_len]; exact hyl.out), Lib.hid (M.integ_smp _ _), Lib.hid (by have := H.out; rwa [show o - k = (o - (k + 1)) + 1 by omega] at this), own2.base hb.size, bel_trans' hb hb.size bel2⟩
      case measure => simp [intOf]; omega
    · obtain rfl : k = o := by omega
      have e0 := Lib.hid (show ys = M.iter (M.integ 0) k xs by have := H.out; rwa [Nat.sub_self] at this)
      clear H
      go_wp2
      go_loopw [9, 11] (fun v i wr => ∃ (j : Nat) (zs : List Int), i = .int .i64 j ∧ j ≤ k ∧ Hid (zs.length = n) ∧ Hid (∀ x ∈ zs, M.smp x = true) ∧ Hid (M.iter (fun l => M.combL l m) (k - j) zs = M.iter (fun l => M.combL l m) k ys) ∧
          OI 2 w.heap.size wr v zs ∧ Below w.heap.size w wr)
        (fun _ i _ => k - (intOf i).toNat)
      case atStart => exact ⟨0, ys, rfl, by omega, hyl, hys, Lib.hid rfl, own, hb⟩
      case round =>
        clear hy1 hyl hys own hb
        obtain ⟨j, ys', rfl, hj, hyl, hys, H, own, hb⟩ := hrel
        have hy1 : ys'.length ≤ 1000000000 := by rw [hyl.out]; exact hn
        by_cases hlj : j < k
        · obtain ⟨A1, c1, rfl, r1⟩ := own.shape
          go_wp2_with (go_at_call 67; refine (spec_l28Comb _ _ _ _ _ _ r1 hy1 hm).mono ?_; rintro e w2 ⟨v2, rfl, own2, bel2⟩)
          go_roundw
          case rel => exact ⟨j + 1, M.combL ys' m, by go_num, by omega, Lib.hid (by rw [M.combL_len]; exact hyl.out), Lib.hid (M.combL_smp _ _), Lib.hid (by have := H.out; rwa [show k - j = (k - (j + 1)) + 1 by omega] at this), own2.base hb.size, bel_trans' hb hb.size bel2⟩
          case measure => simp [intOf]; omega
        · obtain rfl : j = k := by omega
          go_wp2
          go_ret2
          have e1 := H.out
          rw [Nat.sub_self, e0.out] at e1
          rw [R.out]
          exact ⟨_, rfl, by rw [← e1]; exact own, hb⟩
end Go.Proofs.Ytafbhangjeddaaa
