import Derived.Test.YtafbhangjeddaaaW7
namespace Go.Proofs.Ytafbhangjeddaaa
open Go.RowKit
set_option maxHeartbeats 400000
set_option maxRecDepth 100000
theorem impl_IntegrateSignal (A : Option Addr) (n c : Nat) (xs : List Int) (w : World) (hx : RI w w.heap.size A n xs) (hn : n ≤ 1000000000) :
    Calls Try.prog 43 #[.slice A n c] w (Ret2 2 w (M.IntegrateSignal xs)) := by
  cases hs : M.sig xs
  · have R := Lib.hid (show M.IntegrateSignal xs = ([], 1) by simp [M.IntegrateSignal, hs])
    have hr : M.rate xs true = 1 := by simp [M.rate, hs]
    go_enter Try.func43, Try.ntmps43
    go_wp2_with (go_at_call 56; refine (impl_rateCode _ _ _ _ _ _ hx hn).mono ?_; rintro e w' ⟨rfl, rfl⟩)
    go_ret2
    rw [R.out]
    exact ⟨_, rfl, OI.nil _ _ _, Below.refl _ _⟩
  · have R := Lib.hid (show M.IntegrateSignal xs = (M.integ 0 xs, 0) by simp [M.IntegrateSignal, hs])
    have hr : M.rate xs true = 0 := by simp [M.rate, hs]
    go_enter Try.func43, Try.ntmps43
    go_wp2_with (first | (go_at_call 56; refine (impl_rateCode _ _ _ _ _ _ hx hn).mono ?_; rintro e w' ⟨rfl, rfl⟩) | (go_at_call 59; refine (impl_integrate _ _ _ _ _ hx (M.sig_smp hs) hn).mono ?_; rintro e w1 ⟨v1, rfl, own1, bel1⟩))
    go_ret2
    rw [R.out]
    exact ⟨_, rfl, own1, bel1⟩
theorem impl_CombSignal (A : Option Addr) (n c : Nat) (xs : List Int) (m : Int) (w : World) (hx : RI w w.heap.size A n xs) (hn : n ≤ 1000000000) :
    Calls Try.prog 44 #[.slice A n c, .int .i64 m] w (Ret2 2 w (M.CombSignal xs m)) := by
  cases hs : M.sig xs
  · have R := Lib.hid (show M.CombSignal xs m = ([], 1) by simp [M.CombSignal, hs])
    have hr : M.rate xs (M.spn m) = 1 := by simp [M.rate, hs]
    go_enter Try.func44, Try.ntmps44
    go_wp2_with (first | (go_at_call 57; refine (impl_isSpan _ _).mono ?_; rintro e w' ⟨rfl, rfl⟩) | (go_at_call 56; refine (impl_rateCode _ _ _ _ _ _ hx hn).mono ?_; rintro e w' ⟨rfl, rfl⟩))
    go_ret2
    rw [R.out]
    exact ⟨_, rfl, OI.nil _ _ _, Below.refl _ _⟩
  · cases h1 : M.spn m
    · have R := Lib.hid (show M.CombSignal xs m = ([], 2) by simp [M.CombSignal, hs, h1])
      have hr : M.rate xs false = 2 := by simp [M.rate, hs]
      go_enter Try.func44, Try.ntmps44
      go_wp2_with (first | (go_at_call 57; refine (impl_isSpan _ _).mono ?_; rintro e w' ⟨rfl, rfl⟩) | (go_at_call 56; refine (impl_rateCode _ _ _ _ _ _ hx hn).mono ?_; rintro e w' ⟨rfl, rfl⟩))
      go_ret2
      rw [R.out]
      exact ⟨_, rfl, OI.nil _ _ _, Below.refl _ _⟩
    · have R := Lib.hid (show M.CombSignal xs m = (M.combL xs m, 0) by simp [M.CombSignal, hs, h1])
      have hr : M.rate xs true = 0 := by simp [M.rate, hs]
      have hm := M.spn_bd h1
      go_enter Try.func44, Try.ntmps44
      go_wp2_with (first | (go_at_call 57; refine (impl_isSpan _ _).mono ?_; rintro e w' ⟨rfl, rfl⟩) | (go_at_call 56; refine (impl_rateCode _ _ _ _ _ _ hx hn).mono ?_; rintro e w' ⟨rfl, rfl⟩) | (go_at_call 58; refine (impl_comb _ _ _ _ _ _ hx (M.sig_smp hs) hn hm).mono ?_; rintro e w1 ⟨v1, rfl, own1, bel1⟩))
      go_ret2
      rw [R.out]
      exact ⟨_, rfl, own1, bel1⟩
theorem impl_MovingSum (A : Option Addr) (n c : Nat) (xs : List Int) (m : Int) (w : World) (hx : RI w w.heap.size A n xs) (hn : n ≤ 1000000000) :
    Calls Try.prog 24 #[.slice A n c, .int .i64 m] w (Ret2 2 w (M.MovingSum xs m)) := by
  have hl := Lib.hid hx.len
  cases hs : M.sig xs
  · have R := Lib.hid (show M.MovingSum xs m = ([], 1) by simp [M.MovingSum, hs])
    have hr : M.rate xs (M.spn m) = 1 := by simp [M.rate, hs]
    go_enter Try.func24, Try.ntmps24
    go_wp2_with (first | (go_at_call 57; refine (impl_isSpan _ _).mono ?_; rintro e w' ⟨rfl, rfl⟩) | (go_at_call 56; refine (impl_rateCode _ _ _ _ _ _ hx hn).mono ?_; rintro e w' ⟨rfl, rfl⟩))
    go_ret2
    rw [R.out]
    exact ⟨_, rfl, OI.nil _ _ _, Below.refl _ _⟩
  · cases h1 : M.spn m
    · have R := Lib.hid (show M.MovingSum xs m = ([], 2) by simp [M.MovingSum, hs, h1])
      have hr : M.rate xs false = 2 := by simp [M.rate, hs]
      go_enter Try.func24, Try.ntmps24
      go_wp2_with (first | (go_at_call 57; refine (impl_isSpan _ _).mono ?_; rintro e w' ⟨rfl, rfl⟩) | (go_at_call 56; refine (impl_rateCode _ _ _ _ _ _ hx hn).mono ?_; rintro e w' ⟨rfl, rfl⟩))
      go_ret2
      rw [R.out]
      exact ⟨_, rfl, OI.nil _ _ _, Below.refl _ _⟩
    · have R := Lib.hid (show M.MovingSum xs m = (M.sumL xs m, 0) by simp [M.MovingSum, hs, h1])
      have hr : M.rate xs true = 0 := by simp [M.rate, hs]
      have hm := M.spn_bd h1
      go_enter Try.func24, Try.ntmps24
      go_wp2_with (first | (go_at_call 57; refine (impl_isSpan _ _).mono ?_; rintro e w' ⟨rfl, rfl⟩) | (go_at_call 56; refine (impl_rateCode _ _ _ _ _ _ hx hn).mono ?_; rintro e w' ⟨rfl, rfl⟩) | (go_at_call 59; refine (impl_integrate _ _ _ _ _ hx (M.sig_smp hs) hn).mono ?_; rintro e w1 ⟨v1, rfl, own1, bel1⟩; obtain ⟨A1, c1, rfl, r1⟩ := own1.shape) | (go_at_call 58; refine (impl_comb _ _ _ _ _ _ r1 (M.integ_smp _ _) (by rw [M.integ_len, hl.out]; exact hn) hm).mono ?_; rintro e w2 ⟨v2, rfl, own2, bel2⟩))
      go_ret2
      rw [R.out]
      exact ⟨_, rfl, own2.base bel1.size, bel_trans bel1 bel2⟩
theorem spec_MovingSum (A : Option Addr) (n c : Nat) (xs : List Int) (m : Int) (w : World) (hx : RI w w.heap.size A n xs) (hn : n ≤ 1000000000) :
    Calls Try.prog 23 #[.slice A n c, .int .i64 m] w (Ret2 2 w (M.MovingSum xs m)) := by
  cases hs : M.sig xs
  · have R := Lib.hid (show M.MovingSum xs m = ([], 1) by simp [M.MovingSum, hs])
    have hr : M.rate xs (M.spn m) = 1 := by simp [M.rate, hs]
    go_enter Try.func23, Try.ntmps23
    go_wp2_with (first | (go_at_call 54; refine (spec_l28Ask _ _ _ _ _ _ hx hn).mono ?_; rintro e w' ⟨rfl, rfl⟩))
    go_ret2
    rw [R.out]
    exact ⟨_, rfl, OI.nil _ _ _, Below.refl _ _⟩
  · cases h1 : M.spn m
    · have R := Lib.hid (show M.MovingSum xs m = ([], 2) by simp [M.MovingSum, hs, h1])
      have hr : M.rate xs false = 2 := by simp [M.rate, hs]
      go_enter Try.func23, Try.ntmps23
      go_wp2_with (first | (go_at_call 54; refine (spec_l28Ask _ _ _ _ _ _ hx hn).mono ?_; rintro e w' ⟨rfl, rfl⟩))
      go_ret2
      rw [R.out]
      exact ⟨_, rfl, OI.nil _ _ _, Below.refl _ _⟩
    · have R := Lib.hid (show M.MovingSum xs m = (M.sumL xs m, 0) by simp [M.MovingSum, hs, h1])
      have hr : M.rate xs true = 0 := by simp [M.rate, hs]
      have hm := M.spn_bd h1
      go_enter Try.func23, Try.ntmps23
      go_wp2_with (first | (go_at_call 54; refine (spec_l28Ask _ _ _ _ _ _ hx hn).mono ?_; rintro e w' ⟨rfl, rfl⟩) | (go_at_call 55; refine (spec_l28Sum _ _ _ _ _ _ hx hn hm).mono ?_; rintro e w1 ⟨v1, rfl, own1, bel1⟩))
      go_ret2
      rw [R.out]
      exact ⟨_, rfl, own1, bel1⟩
end Go.Proofs.Ytafbhangjeddaaa
