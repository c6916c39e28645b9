import Derived.Test.YtdllhkfbplpicaaW7
namespace Go.Proofs.Ytdllhkfbplpicaa
open Go.RowKit
set_option maxHeartbeats 400000
set_option maxRecDepth 100000
theorem spec_l29Restore (A : Option Addr) (n c : Nat) (xs : List Int) (m : Int) (w : World) (hx : RI w w.heap.size A n xs) (hn : n ≤ 1000000000) (hm : 0 ≤ m ∧ m ≤ 6) :
    Calls Try.prog 68 #[.slice A n c, .int .i64 m] w (Ret1 2 w (M.iter (M.integ 0) m.toNat xs)) := by
  obtain ⟨m, rfl⟩ := Int.eq_ofNat_of_zero_le hm.1
  rw [Int.toNat_natCast]
  have hl := Lib.hid hx.len
  go_enter Try.func68, Try.ntmps68
  go_wp2_with (go_at_call 84; refine (spec_l00Own _ _ _ _ _ hx hn).mono ?_; rintro e w1 ⟨v1, rfl, own1, bel1⟩)
  obtain ⟨A1, c1, rfl, _⟩ := own1.shape
  rw [hl.out] at own1 ⊢
  go_loopw [1, 6, 7] (fun o _ _ wr => ∃ (j : Nat) (ys : List Int), o = .int .i64 j ∧ j ≤ m ∧ Hid (ys.length = n) ∧ Hid (M.iter (M.integ 0) j ys = M.iter (M.integ 0) m xs) ∧
      OI 2 w.heap.size wr (.slice A1 n c1) ys ∧ Below w.heap.size w wr)
    (fun o _ _ _ => (intOf o).toNat)
  case atStart => exact ⟨m, xs, rfl, Nat.le_refl _, hl, Lib.hid rfl, own1, bel1⟩
  case round =>
    obtain ⟨j, ys, rfl, hj, hyl, H, own, hb⟩ := hrel
    obtain ⟨wo, rfl⟩ : ∃ wo : World, wo = wr := ⟨_, rfl⟩
    by_cases hlt : 0 < j
    · go_wp2
      go_loopw [6, 7] (fun q i w2 => ∃ (k : Nat) (s : Int), i = .int .i64 k ∧ k ≤ n ∧ q = .int .i64 s ∧ Hid ((M.integ 0 ys).drop k = M.integ s (ys.drop k)) ∧
          OI 2 w.heap.size w2 (.slice A1 n c1) ((M.integ 0 ys).take k ++ ys.drop k) ∧ Below w.heap.size w w2)
        (fun _ i _ => n - (intOf i).toNat)
      case atStart => exact ⟨0, 0, rfl, by omega, rfl, Lib.hid rfl, own, hb⟩
      case round =>
        obtain ⟨k, s, rfl, hk, rfl, T, own2, hb2⟩ := hrel
        by_cases hlk : k < n
        · obtain ⟨g, rfl, hB, hgl⟩ := own2.form' (by omega)
          obtain ⟨x, X, hc2, hf2, _, _⟩ := own2.at' hlk
          have X2 := Lib.hid (show ys[k]? = some x by rw [← M.mid_at (c := M.integ 0 ys) (M.integ_len _ _)]; exact X.out)
          have T2 := Lib.hid (M.integ_step T.out X2.out)
          go_wp2_with (go_at_call 75; refine (spec_l01Add _ _ _).mono ?_; rintro e w' ⟨rfl, rfl⟩)
          go_roundw
          case rel =>
            refine ⟨k + 1, wrap32 (s + x), by go_num, by omega, rfl, Lib.hid T2.out.2, ?_, hb2.setCell hB _⟩
            have h3 := own2.stored' k (wrap32 (s + x))
            rw [M.set_mid (M.integ_len _ _) T2.out.1] at h3
            exact h3
          case measure => simp [intOf]; omega
        · go_wp2
          go_roundw
          case rel =>
            rw [List.take_of_length_le (by rw [M.integ_len, hyl.out]; omega), List.drop_eq_nil_of_le (by rw [hyl.out]; omega), List.append_nil] at own2
            exact ⟨j - 1, M.integ 0 ys, by go_num, by omega, Lib.hid (by rw [M.integ_len]; exact hyl.out), Lib.hid (by have := H.out; rwa [show j = (j - 1) + 1 by omega] at this), own2, hb2⟩
          case measure => simp [intOf]; omega
    · obtain rfl : j = 0 := by omega
      go_wp2
      go_ret
      have e0 := H.out
      exact ⟨_, rfl, by rw [← e0]; exact own, hb⟩
theorem impl_IntegrateSignal (A : Option Addr) (n c : Nat) (xs : List Int) (w : World) (hx : RI w w.heap.size A n xs) (hn : n ≤ 1000000000) :
    Calls Try.prog 26 #[.slice A n c] w (Ret2 2 w (M.IntegrateSignal xs)) := by
  cases hs : M.sig xs
  · have R := Lib.hid (show M.IntegrateSignal xs = ([], 1) by simp [M.IntegrateSignal, hs])
    have hr : M.rate xs true = 1 := by simp [M.rate, hs]
    go_enter Try.func26, Try.ntmps26
    go_wp2_with (go_at_call 48; refine (impl_rateCode _ _ _ _ _ _ hx hn).mono ?_; rintro e w' ⟨rfl, rfl⟩)
    go_ret2
    rw [R.out]
    exact ⟨_, rfl, OI.nil _ _ _, Below.refl _ _⟩
  · have R := Lib.hid (show M.IntegrateSignal xs = (M.integ 0 xs, 0) by simp [M.IntegrateSignal, hs])
    have hr : M.rate xs true = 0 := by simp [M.rate, hs]
    go_enter Try.func26, Try.ntmps26
    go_wp2_with (first | (go_at_call 48; refine (impl_rateCode _ _ _ _ _ _ hx hn).mono ?_; rintro e w' ⟨rfl, rfl⟩) | (go_at_call 55; refine (impl_integrate _ _ _ _ _ hx (M.sig_smp hs) hn).mono ?_; rintro e w1 ⟨v1, rfl, own1, bel1⟩))
    go_ret2
    rw [R.out]
    exact ⟨_, rfl, own1, bel1⟩
theorem spec_IntegrateSignal (A : Option Addr) (n c : Nat) (xs : List Int) (w : World) (hx : RI w w.heap.size A n xs) (hn : n ≤ 1000000000) :
    Calls Try.prog 25 #[.slice A n c] w (Ret2 2 w (M.IntegrateSignal xs)) := by
  cases hs : M.sig xs
  · have R := Lib.hid (show M.IntegrateSignal xs = ([], 1) by simp [M.IntegrateSignal, hs])
    go_enter Try.func25, Try.ntmps25
    go_wp2_with (go_at_call 45; refine (spec_l03Ok _ _ _ _ _ hx (by omega)).mono ?_; rintro e w' ⟨rfl, rfl⟩)
    go_ret2
    rw [R.out]
    exact ⟨_, rfl, OI.nil _ _ _, Below.refl _ _⟩
  · have R := Lib.hid (show M.IntegrateSignal xs = (M.integ 0 xs, 0) by simp [M.IntegrateSignal, hs])
    go_enter Try.func25, Try.ntmps25
    go_wp2_with (first | (go_at_call 45; refine (spec_l03Ok _ _ _ _ _ hx (by omega)).mono ?_; rintro e w' ⟨rfl, rfl⟩) | (go_at_call 54; refine (spec_l28Integrate _ _ _ _ _ hx hn).mono ?_; rintro e w1 ⟨v1, rfl, own1, bel1⟩))
    go_ret2
    rw [R.out]
    exact ⟨_, rfl, own1, bel1⟩
theorem impl_CombSignal (A : Option Addr) (n c : Nat) (xs : List Int) (m : Int) (w : World) (hx : RI w w.heap.size A n xs) (hn : n ≤ 1000000000) :
    Calls Try.prog 32 #[.slice A n c, .int .i64 m] w (Ret2 2 w (M.CombSignal xs m)) := by
  cases hs : M.sig xs
  · have R := Lib.hid (show M.CombSignal xs m = ([], 1) by simp [M.CombSignal, hs])
    have hr : M.rate xs (M.spn m) = 1 := by simp [M.rate, hs]
    go_enter Try.func32, Try.ntmps32
    go_wp2_with (first | (go_at_call 66; refine (impl_isSpan _ _).mono ?_; rintro e w' ⟨rfl, rfl⟩) | (go_at_call 48; refine (impl_rateCode _ _ _ _ _ _ hx hn).mono ?_; rintro e w' ⟨rfl, rfl⟩))
    go_ret2
    rw [R.out]
    exact ⟨_, rfl, OI.nil _ _ _, Below.refl _ _⟩
  · cases h1 : M.spn m
    · have R := Lib.hid (show M.CombSignal xs m = ([], 2) by simp [M.CombSignal, hs, h1])
      have hr : M.rate xs false = 2 := by simp [M.rate, hs]
      go_enter Try.func32, Try.ntmps32
      go_wp2_with (first | (go_at_call 66; refine (impl_isSpan _ _).mono ?_; rintro e w' ⟨rfl, rfl⟩) | (go_at_call 48; refine (impl_rateCode _ _ _ _ _ _ hx hn).mono ?_; rintro e w' ⟨rfl, rfl⟩))
      go_ret2
      rw [R.out]
      exact ⟨_, rfl, OI.nil _ _ _, Below.refl _ _⟩
    · have R := Lib.hid (show M.CombSignal xs m = (M.combL xs m, 0) by simp [M.CombSignal, hs, h1])
      have hr : M.rate xs true = 0 := by simp [M.rate, hs]
      have hm := M.spn_bd h1
      go_enter Try.func32, Try.ntmps32
      go_wp2_with (first | (go_at_call 66; refine (impl_isSpan _ _).mono ?_; rintro e w' ⟨rfl, rfl⟩) | (go_at_call 48; refine (impl_rateCode _ _ _ _ _ _ hx hn).mono ?_; rintro e w' ⟨rfl, rfl⟩) | (go_at_call 67; refine (impl_comb _ _ _ _ _ _ hx (M.sig_smp hs) hn hm).mono ?_; rintro e w1 ⟨v1, rfl, own1, bel1⟩))
      go_ret2
      rw [R.out]
      exact ⟨_, rfl, own1, bel1⟩
theorem impl_RestoreSignal (A : Option Addr) (n c : Nat) (xs : List Int) (m : Int) (w : World) (hx : RI w w.heap.size A n xs) (hn : n ≤ 1000000000) :
    Calls Try.prog 34 #[.slice A n c, .int .i64 m] w (Ret2 2 w (M.RestoreSignal xs m)) := by
  cases hs : M.sig xs
  · have R := Lib.hid (show M.RestoreSignal xs m = ([], 1) by simp [M.RestoreSignal, hs])
    have hr : M.rate xs (M.isOrder m) = 1 := by simp [M.rate, hs]
    go_enter Try.func34, Try.ntmps34
    go_wp2_with (first | (go_at_call 69; refine (impl_isOrder _ _).mono ?_; rintro e w' ⟨rfl, rfl⟩) | (go_at_call 48; refine (impl_rateCode _ _ _ _ _ _ hx hn).mono ?_; rintro e w' ⟨rfl, rfl⟩))
    go_ret2
    rw [R.out]
    exact ⟨_, rfl, OI.nil _ _ _, Below.refl _ _⟩
  · cases h1 : M.isOrder m
    · have R := Lib.hid (show M.RestoreSignal xs m = ([], 2) by simp [M.RestoreSignal, hs, h1])
      have hr : M.rate xs false = 2 := by simp [M.rate, hs]
      go_enter Try.func34, Try.ntmps34
      go_wp2_with (first | (go_at_call 69; refine (impl_isOrder _ _).mono ?_; rintro e w' ⟨rfl, rfl⟩) | (go_at_call 48; refine (impl_rateCode _ _ _ _ _ _ hx hn).mono ?_; rintro e w' ⟨rfl, rfl⟩))
      go_ret2
      rw [R.out]
      exact ⟨_, rfl, OI.nil _ _ _, Below.refl _ _⟩
    · have R := Lib.hid (show M.RestoreSignal xs m = (M.iter (M.integ 0) m.toNat xs, 0) by simp [M.RestoreSignal, hs, h1])
      have hr : M.rate xs true = 0 := by simp [M.rate, hs]
      have hm := M.isOrder_bd h1
      go_enter Try.func34, Try.ntmps34
      go_wp2_with (first | (go_at_call 69; refine (impl_isOrder _ _).mono ?_; rintro e w' ⟨rfl, rfl⟩) | (go_at_call 48; refine (impl_rateCode _ _ _ _ _ _ hx hn).mono ?_; rintro e w' ⟨rfl, rfl⟩) | (go_at_call 70; refine (impl_restore _ _ _ _ _ _ hx (M.sig_smp hs) hn ⟨hm.1, by omega⟩).mono ?_; rintro e w1 ⟨v1, rfl, own1, bel1⟩))
      go_ret2
      rw [R.out]
      exact ⟨_, rfl, own1, bel1⟩
theorem spec_CombSignal (A : Option Addr) (n c : Nat) (xs : List Int) (m : Int) (w : World) (hx : RI w w.heap.size A n xs) (hn : n ≤ 1000000000) :
    Calls Try.prog 31 #[.slice A n c, .int .i64 m] w (Ret2 2 w (M.CombSignal xs m)) := by
  cases hs : M.sig xs
  · have R := Lib.hid (show M.CombSignal xs m = ([], 1) by simp [M.CombSignal, hs])
    have hr : M.rate xs (M.spn m) = 1 := by simp [M.rate, hs]
    go_enter Try.func31, Try.ntmps31
    go_wp2_with (first | (go_at_call 64; refine (spec_l28Ask _ _ _ _ _ _ hx hn).mono ?_; rintro e w' ⟨rfl, rfl⟩))
    go_ret2
    rw [R.out]
    exact ⟨_, rfl, OI.nil _ _ _, Below.refl _ _⟩
  · cases h1 : M.spn m
    · have R := Lib.hid (show M.CombSignal xs m = ([], 2) by simp [M.CombSignal, hs, h1])
      have hr : M.rate xs false = 2 := by simp [M.rate, hs]
      go_enter Try.func31, Try.ntmps31
      go_wp2_with (first | (go_at_call 64; refine (spec_l28Ask _ _ _ _ _ _ hx hn).mono ?_; rintro e w' ⟨rfl, rfl⟩))
      go_ret2
      rw [R.out]
      exact ⟨_, rfl, OI.nil _ _ _, Below.refl _ _⟩
    · have R := Lib.hid (show M.CombSignal xs m = (M.combL xs m, 0) by simp [M.CombSignal, hs, h1])
      have hr : M.rate xs true = 0 := by simp [M.rate, hs]
      have hm := M.spn_bd h1
      go_enter Try.func31, Try.ntmps31
      go_wp2_with (first | (go_at_call 64; refine (spec_l28Ask _ _ _ _ _ _ hx hn).mono ?_; rintro e w' ⟨rfl, rfl⟩) | (go_at_call 65; refine (spec_l28Comb _ _ _ _ _ _ hx hn hm).mono ?_; rintro e w1 ⟨v1, rfl, own1, bel1⟩))
      go_ret2
      rw [R.out]
      exact ⟨_, rfl, own1, bel1⟩
theorem spec_RestoreSignal (A : Option Addr) (n c : Nat) (xs : List Int) (m : Int) (w : World) (hx : RI w w.heap.size A n xs) (hn : n ≤ 1000000000) :
    Calls Try.prog 33 #[.slice A n c, .int .i64 m] w (Ret2 2 w (M.RestoreSignal xs m)) := by
  cases hs : M.sig xs
  · have R := Lib.hid (show M.RestoreSignal xs m = ([], 1) by simp [M.RestoreSignal, hs])
    go_enter Try.func33, Try.ntmps33
    go_wp2_with (go_at_call 45; refine (spec_l03Ok _ _ _ _ _ hx (by omega)).mono ?_; rintro e w' ⟨rfl, rfl⟩)
    go_ret2
    rw [R.out]
    exact ⟨_, rfl, OI.nil _ _ _, Below.refl _ _⟩
  · cases h1 : M.inn m 0 3
    · have R := Lib.hid (show M.RestoreSignal xs m = ([], 2) by simp [M.RestoreSignal, M.isOrder, hs, h1])
      go_enter Try.func33, Try.ntmps33
      go_wp2_with (first | (go_at_call 45; refine (spec_l03Ok _ _ _ _ _ hx (by omega)).mono ?_; rintro e w' ⟨rfl, rfl⟩) | (go_at_call 37; refine (spec_l00In _ _ _ _).mono ?_; rintro e w' ⟨rfl, rfl⟩))
      go_ret2
      rw [R.out]
      exact ⟨_, rfl, OI.nil _ _ _, Below.refl _ _⟩
    · have R := Lib.hid (show M.RestoreSignal xs m = (M.iter (M.integ 0) m.toNat xs, 0) by simp [M.RestoreSignal, M.isOrder, hs, h1])
      have hm := M.inn_bd h1
      go_enter Try.func33, Try.ntmps33
      go_wp2_with (first | (go_at_call 45; refine (spec_l03Ok _ _ _ _ _ hx (by omega)).mono ?_; rintro e w' ⟨rfl, rfl⟩) | (go_at_call 37; refine (spec_l00In _ _ _ _).mono ?_; rintro e w' ⟨rfl, rfl⟩) | (go_at_call 68; refine (spec_l29Restore _ _ _ _ _ _ hx hn ⟨hm.1, by omega⟩).mono ?_; rintro e w1 ⟨v1, rfl, own1, bel1⟩))
      go_ret2
      rw [R.out]
      exact ⟨_, rfl, own1, bel1⟩
end Go.Proofs.Ytdllhkfbplpicaa
