import Derived.Test.YtafbhangjeddaaaW10
namespace Go.Proofs.Ytafbhangjeddaaa
open Go.RowKit
set_option maxHeartbeats 1000000
set_option maxRecDepth 100000
theorem impl_TapSignal (A A' : Option Addr) (n c p c' : Nat) (xs ts : List Int) (w : World) (hx : RI w w.heap.size A n xs) (hp : RI w w.heap.size A' p ts) (hn : n ≤ 1000000000) (hpn : p ≤ 1000000000) :
    Calls Try.prog 38 #[.slice A n c, .slice A' p c'] w (Ret2 2 w (M.TapSignal xs ts)) := by
  have hl := Lib.hid hx.len
  have hlp := Lib.hid hp.len
  cases hs : M.sig xs
  · have R := Lib.hid (show M.TapSignal xs ts = ([], 1) by simp [M.TapSignal, hs])
    go_enter Try.func38, Try.ntmps38
    go_wp2_with (go_at_call 73; refine (impl_isSignal _ _ _ _ _ hx (by omega)).mono ?_; rintro e w' ⟨rfl, rfl⟩)
    go_ret2
    rw [R.out]
    exact ⟨_, rfl, OI.nil _ _ _, Below.refl _ _⟩
  cases h1 : M.taps ts
  · have R := Lib.hid (show M.TapSignal xs ts = ([], 1) by simp [M.TapSignal, hs, h1])
    go_enter Try.func38, Try.ntmps38
    go_wp2_with (first | (go_at_call 73; refine (impl_isSignal _ _ _ _ _ hx (by omega)).mono ?_; rintro e w' ⟨rfl, rfl⟩) | (go_at_call 51; refine (impl_areTaps _ _ _ _ _ hp (by omega)).mono ?_; rintro e w' ⟨rfl, rfl⟩))
    go_ret2
    rw [R.out]
    exact ⟨_, rfl, OI.nil _ _ _, Below.refl _ _⟩
  have R := Lib.hid (show M.TapSignal xs ts = (M.tapL ts xs, 0) by simp [M.TapSignal, hs, h1])
  have h4 : n ≤ 4000 := by have := M.sig_len hs; rw [hl.out] at this; exact this
  have ht := Lib.hid (M.taps_bd h1)
  have ht1 : p ≤ 64 := by have := ht.out.2.1; rw [hlp.out] at this; exact this
  have hts := ht.out.2.2
  go_enter Try.func38, Try.ntmps38
  go_wp2_with (first | (go_at_call 73; refine (impl_isSignal _ _ _ _ _ hx (by omega)).mono ?_; rintro e w' ⟨rfl, rfl⟩) | (go_at_call 51; refine (impl_areTaps _ _ _ _ _ hp (by omega)).mono ?_; rintro e w' ⟨rfl, rfl⟩) | (go_at_call 75; refine (impl_size_int64 _ _ _ _).mono ?_; rintro e w' ⟨rfl, rfl⟩) | (go_at_call 74; refine (impl_convolve _ _ _ _ _ _ _ _ _ hp hx ht1 h4 hts).mono ?_; rintro e w1 ⟨v1, rfl, own1, bel1⟩))
  go_ret2
  rw [R.out]
  exact ⟨_, rfl, own1, bel1⟩
theorem impl_FilterDecimate (A A' : Option Addr) (n c p c' : Nat) (xs ts : List Int) (f : Int) (w : World) (hx : RI w w.heap.size A n xs) (hp : RI w w.heap.size A' p ts) (hn : n ≤ 1000000000) (hpn : p ≤ 1000000000) :
    Calls Try.prog 28 #[.slice A n c, .slice A' p c', .int .i64 f] w (Ret2 2 w (M.FilterDecimate xs ts f)) := by
  cases hs : (M.sig xs && M.taps ts)
  · have R := Lib.hid (show M.FilterDecimate xs ts f = ([], 1) by simp [M.FilterDecimate, hs])
    have R2 := Lib.hid (show M.TapSignal xs ts = ([], 1) by simp [M.TapSignal, hs])
    go_enter Try.func28, Try.ntmps28
    go_wp2_with (go_at_call 38; refine (impl_TapSignal _ _ _ _ _ _ _ _ _ hx hp hn hpn).mono ?_; rw [R2.out]; rintro e w1 ⟨v1, rfl, own1, bel1⟩)
    go_ret2
    rw [R.out]
    exact ⟨_, rfl, OI.nil _ _ _, bel1⟩
  have R2 := Lib.hid (show M.TapSignal xs ts = (M.tapL ts xs, 0) by simp [M.TapSignal, hs])
  have hlen : (M.tapL ts xs).length ≤ 1000000000 := by rw [M.tapL_len, hx.len]; exact hn
  have R := Lib.hid (show M.FilterDecimate xs ts f = M.DecimateSignal (M.tapL ts xs) f 0 by
    have hsig : M.sig (M.tapL ts xs) = true := by
      simp only [Bool.and_eq_true] at hs
      simp only [M.sig, Bool.and_eq_true, decide_eq_true_eq, List.all_eq_true, M.tapL_len]
      exact ⟨M.sig_len hs.1, M.tapL_smp _ _⟩
    cases hf : M.fac f
    · simp [M.FilterDecimate, M.DecimateSignal, hs, hsig, hf]
    · have := M.fac_bd hf
      have h0 : M.inn 0 0 (f - 1) = true := by simp [M.inn]; omega
      simp [M.FilterDecimate, M.DecimateSignal, hs, hsig, hf, h0])
  clear hs
  go_enter Try.func28, Try.ntmps28
  go_wp2_with (first | (go_at_call 38; refine (impl_TapSignal _ _ _ _ _ _ _ _ _ hx hp hn hpn).mono ?_; rw [R2.out]; rintro e w1 ⟨v1, rfl, own1, bel1⟩; obtain ⟨A1, c1, rfl, r1⟩ := own1.shape) | (go_at_call 35; refine (impl_DecimateSignal _ _ _ _ _ _ _ r1 hlen).mono ?_; rintro e w2 ⟨v2, rfl, own2, bel2⟩))
  go_ret2
  rw [R.out]
  exact ⟨_, rfl, own2.base bel1.size, bel_trans bel1 bel2⟩
theorem spec_FilterDecimate (A A' : Option Addr) (n c p c' : Nat) (xs ts : List Int) (f : Int) (w : World) (hx : RI w w.heap.size A n xs) (hp : RI w w.heap.size A' p ts) (hn : n ≤ 1000000000) (hpn : p ≤ 1000000000) :
    Calls Try.prog 27 #[.slice A n c, .slice A' p c', .int .i64 f] w (Ret2 2 w (M.FilterDecimate xs ts f)) := by
  have hl := Lib.hid hx.len
  have hlp := Lib.hid hp.len
  cases hs : M.sig xs
  · have R := Lib.hid (show M.FilterDecimate xs ts f = ([], 1) by simp [M.FilterDecimate, hs])
    go_enter Try.func27, Try.ntmps27
    go_wp2_with (go_at_call 64; refine (spec_l03Ok _ _ _ _ _ hx (by omega)).mono ?_; rintro e w' ⟨rfl, rfl⟩)
    go_ret2
    rw [R.out]
    exact ⟨_, rfl, OI.nil _ _ _, Below.refl _ _⟩
  cases h1 : M.taps ts
  · have R := Lib.hid (show M.FilterDecimate xs ts f = ([], 1) by simp [M.FilterDecimate, hs, h1])
    go_enter Try.func27, Try.ntmps27
    go_wp2_with (first | (go_at_call 64; refine (spec_l03Ok _ _ _ _ _ hx (by omega)).mono ?_; rintro e w' ⟨rfl, rfl⟩) | (go_at_call 48; refine (spec_l28Taps _ _ _ _ _ hp (by omega)).mono ?_; rintro e w' ⟨rfl, rfl⟩))
    go_ret2
    rw [R.out]
    exact ⟨_, rfl, OI.nil _ _ _, Below.refl _ _⟩
  cases h2 : M.fac f
  · have R := Lib.hid (show M.FilterDecimate xs ts f = ([], 2) by simp [M.FilterDecimate, hs, h1, h2])
    go_enter Try.func27, Try.ntmps27
    go_wp2_with (first | (go_at_call 64; refine (spec_l03Ok _ _ _ _ _ hx (by omega)).mono ?_; rintro e w' ⟨rfl, rfl⟩) | (go_at_call 48; refine (spec_l28Taps _ _ _ _ _ hp (by omega)).mono ?_; rintro e w' ⟨rfl, rfl⟩) | (go_at_call 49; refine (spec_l28Factor _ _).mono ?_; rintro e w' ⟨rfl, rfl⟩))
    go_ret2
    rw [R.out]
    exact ⟨_, rfl, OI.nil _ _ _, Below.refl _ _⟩
  have R := Lib.hid (show M.FilterDecimate xs ts f = (M.decL (M.tapL ts xs) f.toNat 0, 0) by simp [M.FilterDecimate, hs, h1, h2])
  have h4 : n ≤ 4000 := by have := M.sig_len hs; rw [hl.out] at this; exact this
  have ht := Lib.hid (M.taps_bd h1)
  have ht1 : p ≤ 64 := by have := ht.out.2.1; rw [hlp.out] at this; exact this
  have hf := M.fac_bd h2
  have hlen : (M.tapL ts xs).length ≤ 1000000000 := by rw [M.tapL_len, hl.out]; exact hn
  go_enter Try.func27, Try.ntmps27
  go_wp2_with (first | (go_at_call 64; refine (spec_l03Ok _ _ _ _ _ hx (by omega)).mono ?_; rintro e w' ⟨rfl, rfl⟩) | (go_at_call 48; refine (spec_l28Taps _ _ _ _ _ hp (by omega)).mono ?_; rintro e w' ⟨rfl, rfl⟩) | (go_at_call 49; refine (spec_l28Factor _ _).mono ?_; rintro e w' ⟨rfl, rfl⟩) | (go_at_call 65; refine (spec_l28Tap _ _ _ _ _ _ _ _ _ hx hp ht1 h4).mono ?_; rintro e w1 ⟨v1, rfl, own1, bel1⟩; obtain ⟨A1, c1, rfl, r1⟩ := own1.shape) | (go_at_call 50; refine (spec_l28Decimate _ _ _ _ _ _ _ r1 hlen hf ⟨Int.le_refl _, by omega⟩).mono ?_; rintro e w2 ⟨v2, rfl, own2, bel2⟩))
  go_ret2
  rw [R.out]
  exact ⟨_, rfl, own2.base bel1.size, bel_trans bel1 bel2⟩
theorem expand_sig {xs : List Int} {f : Int} (hs : M.sig xs = true) (hf : M.fac f = true) (hb : f * xs.length ≤ 4000) (b : Bool) : M.sig (M.expandL xs f.toNat b) = true ∧ (M.expandL xs f.toNat b).length ≤ 4000 := by
  have h := M.fac_bd hf
  obtain ⟨k, rfl⟩ := Int.eq_ofNat_of_zero_le (show 0 ≤ f by omega)
  have hl : (M.expandL xs k b).length ≤ 4000 := by
    rw [M.expandL_len xs (by omega)]
    have : ((k * xs.length : Nat) : Int) ≤ 4000 := by rw [Int.natCast_mul]; exact hb
    omega
  refine ⟨?_, hl⟩
  simp only [M.sig, Bool.and_eq_true, decide_eq_true_eq, List.all_eq_true]
  exact ⟨hl, M.expandL_smp (M.sig_smp hs)⟩
theorem impl_FilterExpand (A A' : Option Addr) (n c p c' : Nat) (xs ts : List Int) (f : Int) (w : World) (hx : RI w w.heap.size A n xs) (hp : RI w w.heap.size A' p ts) (hn : n ≤ 1000000000) (hpn : p ≤ 1000000000) :
    Calls Try.prog 32 #[.slice A n c, .slice A' p c', .int .i64 f] w (Ret2 2 w (M.FilterExpand xs ts f)) := by
  cases h1 : M.taps ts
  · have R := Lib.hid (show M.FilterExpand xs ts f = ([], 1) by simp [M.FilterExpand, h1])
    go_enter Try.func32, Try.ntmps32
    go_wp2_with (go_at_call 51; refine (impl_areTaps _ _ _ _ _ hp (by omega)).mono ?_; rintro e w' ⟨rfl, rfl⟩)
    go_ret2
    rw [R.out]
    exact ⟨_, rfl, OI.nil _ _ _, Below.refl _ _⟩
  by_cases hok : (M.expandS xs f false).2 = 0
  · have hsf : M.sig xs = true ∧ M.fac f = true ∧ f * xs.length ≤ 4000 := by
      unfold M.expandS at hok
      by_cases a1 : M.sig xs = true
      · by_cases a2 : M.fac f = true
        · by_cases a3 : f * xs.length ≤ 4000
          · exact ⟨a1, a2, a3⟩
          · simp [a1, a2, a3] at hok
        · simp [a1, a2] at hok
      · simp [a1] at hok
    obtain ⟨hs, h2, h3⟩ := hsf
    have R2 := Lib.hid (show M.expandS xs f false = (M.expandL xs f.toNat false, 0) by simp [M.expandS, hs, h2, h3])
    have hE := expand_sig hs h2 h3 false
    have hlen : (M.expandL xs f.toNat false).length ≤ 1000000000 := by omega
    have R := Lib.hid (show M.FilterExpand xs ts f = M.TapSignal (M.expandL xs f.toNat false) ts by simp [M.FilterExpand, M.TapSignal, hs, h1, h2, h3, hE.1])
    clear hok hE h3
    go_enter Try.func32, Try.ntmps32
    go_wp2_with (first | (go_at_call 51; refine (impl_areTaps _ _ _ _ _ hp (by omega)).mono ?_; rintro e w' ⟨rfl, rfl⟩) | (go_at_call 42; refine (impl_ExpandSignal _ _ _ _ _ _ hx hn).mono ?_; rw [R2.out]; rintro e w1 ⟨v1, rfl, own1, bel1⟩; obtain ⟨A1, c1, rfl, r1⟩ := own1.shape) | (go_at_call 38; refine (impl_TapSignal _ _ _ _ _ _ _ _ _ r1 (hp.later bel1) hlen hpn).mono ?_; rintro e w2 ⟨v2, rfl, own2, bel2⟩))
    go_ret2
    rw [R.out]
    exact ⟨_, rfl, own2.base bel1.size, bel_trans bel1 bel2⟩
  · have R := Lib.hid (show M.FilterExpand xs ts f = ([], (M.expandS xs f false).2) by
      unfold M.expandS at hok ⊢
      unfold M.FilterExpand
      by_cases a1 : M.sig xs = true
      · by_cases a2 : M.fac f = true
        · by_cases a3 : f * xs.length ≤ 4000
          · simp [a1, a2, a3] at hok
          · simp [a1, a2, a3, h1]
        · simp [a1, a2, h1]
      · simp [a1, h1])
    have hne2 : ((M.expandS xs f false).2 != 0) = true := by simpa using hok
    have hne : ((M.expandS xs f false).2 == 0) = false := by simpa using hok
    clear hok
    go_enter Try.func32, Try.ntmps32
    go_wp2_with (first | (go_at_call 51; refine (impl_areTaps _ _ _ _ _ hp (by omega)).mono ?_; rintro e w' ⟨rfl, rfl⟩) | (go_at_call 42; refine (impl_ExpandSignal _ _ _ _ _ _ hx hn).mono ?_; rintro e w1 ⟨v1, rfl, own1, bel1⟩))
    go_ret2
    rw [R.out]
    exact ⟨_, rfl, OI.nil _ _ _, bel1⟩
theorem spec_FilterExpand (A A' : Option Addr) (n c p c' : Nat) (xs ts : List Int) (f : Int) (w : World) (hx : RI w w.heap.size A n xs) (hp : RI w w.heap.size A' p ts) (hn : n ≤ 1000000000) (hpn : p ≤ 1000000000) :
    Calls Try.prog 31 #[.slice A n c, .slice A' p c', .int .i64 f] w (Ret2 2 w (M.FilterExpand xs ts f)) := by
  have hl := Lib.hid hx.len
  have hlp := Lib.hid hp.len
  cases hs : M.sig xs
  · have R := Lib.hid (show M.FilterExpand xs ts f = ([], 1) by simp [M.FilterExpand, hs])
    go_enter Try.func31, Try.ntmps31
    go_wp2_with (go_at_call 64; refine (spec_l03Ok _ _ _ _ _ hx (by omega)).mono ?_; rintro e w' ⟨rfl, rfl⟩)
    go_ret2
    rw [R.out]
    exact ⟨_, rfl, OI.nil _ _ _, Below.refl _ _⟩
  cases h1 : M.taps ts
  · have R := Lib.hid (show M.FilterExpand xs ts f = ([], 1) by simp [M.FilterExpand, h1])
    go_enter Try.func31, Try.ntmps31
    go_wp2_with (first | (go_at_call 64; refine (spec_l03Ok _ _ _ _ _ hx (by omega)).mono ?_; rintro e w' ⟨rfl, rfl⟩) | (go_at_call 48; refine (spec_l28Taps _ _ _ _ _ hp (by omega)).mono ?_; rintro e w' ⟨rfl, rfl⟩))
    go_ret2
    rw [R.out]
    exact ⟨_, rfl, OI.nil _ _ _, Below.refl _ _⟩
  cases h2 : M.fac f
  · have R := Lib.hid (show M.FilterExpand xs ts f = ([], 2) by simp [M.FilterExpand, hs, h1, h2])
    have hr : M.longer xs f = 2 := by simp [M.longer, hs, h2]
    go_enter Try.func31, Try.ntmps31
    go_wp2_with (first | (go_at_call 64; refine (spec_l03Ok _ _ _ _ _ hx (by omega)).mono ?_; rintro e w' ⟨rfl, rfl⟩) | (go_at_call 48; refine (spec_l28Taps _ _ _ _ _ hp (by omega)).mono ?_; rintro e w' ⟨rfl, rfl⟩) | (go_at_call 45; refine (spec_l28Longer _ _ _ _ _ _ hx hn).mono ?_; rintro e w' ⟨rfl, rfl⟩))
    go_ret2
    rw [R.out]
    exact ⟨_, rfl, OI.nil _ _ _, Below.refl _ _⟩
  by_cases h3 : f * xs.length ≤ 4000
  · have R := Lib.hid (show M.FilterExpand xs ts f = (M.tapL ts (M.expandL xs f.toNat false), 0) by simp [M.FilterExpand, hs, h1, h2, h3])
    have hr : M.longer xs f = 0 := by simp [M.longer, hs, h2, h3]
    have hE := (expand_sig hs h2 h3 false).2
    have h4 : n ≤ 4000 := by have := M.sig_len hs; rw [hl.out] at this; exact this
    have ht := Lib.hid (M.taps_bd h1)
    have ht1 : p ≤ 64 := by have := ht.out.2.1; rw [hlp.out] at this; exact this
    have hf := M.fac_bd h2
    clear h3
    go_enter Try.func31, Try.ntmps31
    go_wp2_with (first | (go_at_call 64; refine (spec_l03Ok _ _ _ _ _ hx (by omega)).mono ?_; rintro e w' ⟨rfl, rfl⟩) | (go_at_call 48; refine (spec_l28Taps _ _ _ _ _ hp (by omega)).mono ?_; rintro e w' ⟨rfl, rfl⟩) | (go_at_call 45; refine (spec_l28Longer _ _ _ _ _ _ hx hn).mono ?_; rintro e w' ⟨rfl, rfl⟩) | (go_at_call 46; refine (spec_l28Expand _ _ _ _ _ _ _ hx h4 hf).mono ?_; rintro e w1 ⟨v1, rfl, own1, bel1⟩; obtain ⟨A1, c1, rfl, r1⟩ := own1.shape) | (go_at_call 65; refine (spec_l28Tap _ _ _ _ _ _ _ _ _ r1 (hp.later bel1) ht1 hE).mono ?_; rintro e w2 ⟨v2, rfl, own2, bel2⟩))
    go_ret2
    rw [R.out]
    exact ⟨_, rfl, own2.base bel1.size, bel_trans bel1 bel2⟩
  · have R := Lib.hid (show M.FilterExpand xs ts f = ([], 5) by simp [M.FilterExpand, hs, h1, h2, h3])
    have hr : M.longer xs f = 5 := by simp [M.longer, hs, h2, h3]
    clear h3
    go_enter Try.func31, Try.ntmps31
    go_wp2_with (first | (go_at_call 64; refine (spec_l03Ok _ _ _ _ _ hx (by omega)).mono ?_; rintro e w' ⟨rfl, rfl⟩) | (go_at_call 48; refine (spec_l28Taps _ _ _ _ _ hp (by omega)).mono ?_; rintro e w' ⟨rfl, rfl⟩) | (go_at_call 45; refine (spec_l28Longer _ _ _ _ _ _ hx hn).mono ?_; rintro e w' ⟨rfl, rfl⟩))
    go_ret2
    rw [R.out]
    exact ⟨_, rfl, OI.nil _ _ _, Below.refl _ _⟩
theorem impl_CascadeSums (A : Option Addr) (n c : Nat) (xs : List Int) (m o : Int) (w : World) (hx : RI w w.heap.size A n xs) (hn : n ≤ 1000000000) :
    Calls Try.prog 26 #[.slice A n c, .int .i64 m, .int .i64 o] w (Ret2 2 w (M.CascadeSums xs m o)) := by
  have hl := Lib.hid hx.len
  cases hs : M.sig xs
  · have R := Lib.hid (show M.CascadeSums xs m o = ([], 1) by simp [M.CascadeSums, hs])
    cases h1 : M.spn m
    · have hr : M.rate xs false = 1 := by simp [M.rate, hs]
      go_enter Try.func26, Try.ntmps26
      go_wp2_with (first | (go_at_call 57; refine (impl_isSpan _ _).mono ?_; rintro e w' ⟨rfl, rfl⟩) | (go_at_call 62; refine (impl_within _ _ _ _).mono ?_; rintro e w' ⟨rfl, rfl⟩) | (go_at_call 56; refine (impl_rateCode _ _ _ _ _ _ hx hn).mono ?_; rintro e w' ⟨rfl, rfl⟩))
      go_ret2
      rw [R.out]
      exact ⟨_, rfl, OI.nil _ _ _, Below.refl _ _⟩
    · have hr : M.rate xs (M.inn o 0 6) = 1 := by simp [M.rate, hs]
      go_enter Try.func26, Try.ntmps26
      go_wp2_with (first | (go_at_call 57; refine (impl_isSpan _ _).mono ?_; rintro e w' ⟨rfl, rfl⟩) | (go_at_call 62; refine (impl_within _ _ _ _).mono ?_; rintro e w' ⟨rfl, rfl⟩) | (go_at_call 56; refine (impl_rateCode _ _ _ _ _ _ hx hn).mono ?_; rintro e w' ⟨rfl, rfl⟩))
      go_ret2
      rw [R.out]
      exact ⟨_, rfl, OI.nil _ _ _, Below.refl _ _⟩
  cases h1 : M.spn m
  · have R := Lib.hid (show M.CascadeSums xs m o = ([], 2) by simp [M.CascadeSums, hs, h1])
    have hr : M.rate xs false = 2 := by simp [M.rate, hs]
    go_enter Try.func26, Try.ntmps26
    go_wp2_with (first | (go_at_call 57; refine (impl_isSpan _ _).mono ?_; rintro e w' ⟨rfl, rfl⟩) | (go_at_call 62; refine (impl_within _ _ _ _).mono ?_; rintro e w' ⟨rfl, rfl⟩) | (go_at_call 56; refine (impl_rateCode _ _ _ _ _ _ hx hn).mono ?_; rintro e w' ⟨rfl, rfl⟩))
    go_ret2
    rw [R.out]
    exact ⟨_, rfl, OI.nil _ _ _, Below.refl _ _⟩
  cases h2 : M.inn o 0 6
  · have R := Lib.hid (show M.CascadeSums xs m o = ([], 2) by simp [M.CascadeSums, hs, h1, h2])
    have hr : M.rate xs false = 2 := by simp [M.rate, hs]
    go_enter Try.func26, Try.ntmps26
    go_wp2_with (first | (go_at_call 57; refine (impl_isSpan _ _).mono ?_; rintro e w' ⟨rfl, rfl⟩) | (go_at_call 62; refine (impl_within _ _ _ _).mono ?_; rintro e w' ⟨rfl, rfl⟩) | (go_at_call 56; refine (impl_rateCode _ _ _ _ _ _ hx hn).mono ?_; rintro e w' ⟨rfl, rfl⟩))
    go_ret2
    rw [R.out]
    exact ⟨_, rfl, OI.nil _ _ _, Below.refl _ _⟩
  have R := Lib.hid (show M.CascadeSums xs m o = (M.iter (fun l => M.sumL l m) o.toNat xs, 0) by simp [M.CascadeSums, hs, h1, h2])
  have hr : M.rate xs true = 0 := by simp [M.rate, hs]
  have hm := M.spn_bd h1
  have ho := M.inn_bd h2
  obtain ⟨o, rfl⟩ := Int.eq_ofNat_of_zero_le ho.1
  rw [Int.toNat_natCast] at R
  have HS := Lib.hid (M.sig_smp hs)
  go_enter Try.func26, Try.ntmps26
  go_wp2_with (first | (go_at_call 57; refine (impl_isSpan _ _).mono ?_; rintro e w' ⟨rfl, rfl⟩) | (go_at_call 62; refine (impl_within _ _ _ _).mono ?_; rintro e w' ⟨rfl, rfl⟩) | (go_at_call 56; refine (impl_rateCode _ _ _ _ _ _ hx hn).mono ?_; rintro e w' ⟨rfl, rfl⟩) | (go_at_call 63; refine (impl_clone _ _ _ _ _ hx hn).mono ?_; rintro e w1 ⟨v1, rfl, own1, bel1⟩))
  go_loopw [9, 24] (fun v i wr => ∃ (k : Nat) (ys : List Int), i = .int .i64 k ∧ k ≤ o ∧ Hid (ys.length = n) ∧ Hid (∀ x ∈ ys, M.smp x = true) ∧ Hid (M.iter (fun l => M.sumL l m) (o - k) ys = M.iter (fun l => M.sumL l m) o xs) ∧
      OI 2 w.heap.size wr v ys ∧ Below w.heap.size w wr)
    (fun _ i _ => o - (intOf i).toNat)
  case atStart => exact ⟨0, xs, rfl, by omega, hl, HS, Lib.hid rfl, own1, bel1⟩
  case round =>
    obtain ⟨k, ys, rfl, hk, hyl, hys, H, own, hb⟩ := hrel
    by_cases hlt : k < o
    · obtain ⟨A1, c1, rfl, r1⟩ := own.shape
      have hy1 : ys.length ≤ 1000000000 := by rw [hyl.out]; exact hn
      go_wp2_with (first | (go_at_call 59; refine (impl_integrate _ _ _ _ _ r1 hys.out hy1).mono ?_; rintro e w2 ⟨v2, rfl, own2, bel2⟩; obtain ⟨A2, c2, rfl, r2⟩ := own2.shape) | (go_at_call 58; refine (impl_comb _ _ _ _ _ _ r2 (M.integ_smp _ _) (by rw [M.integ_len]; exact hy1) hm).mono ?_; rintro e w3 ⟨v3, rfl, own3, bel3⟩))
      go_roundw
      case rel => exact ⟨k + 1, (fun l => M.sumL l m) ys, by go_num, by omega, Lib.hid (by rw [show (fun l => M.sumL l m) ys = M.sumL ys m from rfl, M.sumL_len]; exact hyl.out), Lib.hid (M.sumL_smp _ _), Lib.hid (by have := H.out; rwa [show o - k = (o - (k + 1)) + 1 by omega] at this), (own3.base bel2.size).base hb.size, bel_trans' hb hb.size (bel_trans bel2 bel3)⟩
      case measure => simp [intOf]; omega
    · obtain rfl : k = o := by omega
      go_wp2
      go_ret2
      have e0 := H.out
      rw [Nat.sub_self] at e0
      rw [R.out]
      exact ⟨_, rfl, by rw [← e0]; exact own, hb⟩
theorem spec_CascadeSums (A : Option Addr) (n c : Nat) (xs : List Int) (m o : Int) (w : World) (hx : RI w w.heap.size A n xs) (hn : n ≤ 1000000000) :
    Calls Try.prog 25 #[.slice A n c, .int .i64 m, .int .i64 o] w (Ret2 2 w (M.CascadeSums xs m o)) := by
  have hl := Lib.hid hx.len
  cases hs : M.sig xs
  · have R := Lib.hid (show M.CascadeSums xs m o = ([], 1) by simp [M.CascadeSums, hs])
    have hr : M.rate xs (M.spn m) = 1 := by simp [M.rate, hs]
    go_enter Try.func25, Try.ntmps25
    go_wp2_with (first | (go_at_call 54; refine (spec_l28Ask _ _ _ _ _ _ hx hn).mono ?_; rintro e w' ⟨rfl, rfl⟩) | (go_at_call 60; refine (spec_l00In _ _ _ _).mono ?_; rintro e w' ⟨rfl, rfl⟩))
    go_ret2
    rw [R.out]
    exact ⟨_, rfl, OI.nil _ _ _, Below.refl _ _⟩
  cases h1 : M.spn m
  · have R := Lib.hid (show M.CascadeSums xs m o = ([], 2) by simp [M.CascadeSums, hs, h1])
    have hr : M.rate xs false = 2 := by simp [M.rate, hs]
    go_enter Try.func25, Try.ntmps25
    go_wp2_with (first | (go_at_call 54; refine (spec_l28Ask _ _ _ _ _ _ hx hn).mono ?_; rw [h1]; rintro e w' ⟨rfl, rfl⟩) | (go_at_call 60; refine (spec_l00In _ _ _ _).mono ?_; rintro e w' ⟨rfl, rfl⟩))
    go_ret2
    rw [R.out]
    exact ⟨_, rfl, OI.nil _ _ _, Below.refl _ _⟩
  cases h2 : M.inn o 0 6
  · have R := Lib.hid (show M.CascadeSums xs m o = ([], 2) by simp [M.CascadeSums, hs, h1, h2])
    have hr : M.rate xs true = 0 := by simp [M.rate, hs]
    go_enter Try.func25, Try.ntmps25
    go_wp2_with (first | (go_at_call 54; refine (spec_l28Ask _ _ _ _ _ _ hx hn).mono ?_; rintro e w' ⟨rfl, rfl⟩) | (go_at_call 60; refine (spec_l00In _ _ _ _).mono ?_; rintro e w' ⟨rfl, rfl⟩))
    go_ret2
    rw [R.out]
    exact ⟨_, rfl, OI.nil _ _ _, Below.refl _ _⟩
  have R := Lib.hid (show M.CascadeSums xs m o = (M.iter (fun l => M.sumL l m) o.toNat xs, 0) by simp [M.CascadeSums, hs, h1, h2])
  have hr : M.rate xs true = 0 := by simp [M.rate, hs]
  have hm := M.spn_bd h1
  have ho := M.inn_bd h2
  obtain ⟨o, rfl⟩ := Int.eq_ofNat_of_zero_le ho.1
  rw [Int.toNat_natCast] at R
  go_enter Try.func25, Try.ntmps25
  go_wp2_with (first | (go_at_call 54; refine (spec_l28Ask _ _ _ _ _ _ hx hn).mono ?_; rintro e w' ⟨rfl, rfl⟩) | (go_at_call 60; refine (spec_l00In _ _ _ _).mono ?_; rintro e w' ⟨rfl, rfl⟩) | (go_at_call 61; refine (spec_l00Own _ _ _ _ _ hx hn).mono ?_; rintro e w1 ⟨v1, rfl, own1, bel1⟩))
  go_loopw [2, 9] (fun q v wr => ∃ (k : Nat) (ys : List Int), q = .int .i64 k ∧ k ≤ o ∧ Hid (ys.length = n) ∧ Hid (M.iter (fun l => M.sumL l m) k ys = M.iter (fun l => M.sumL l m) o xs) ∧
      OI 2 w.heap.size wr v ys ∧ Below w.heap.size w wr)
    (fun q _ _ => (intOf q).toNat)
  case atStart => exact ⟨o, xs, rfl, Nat.le_refl _, hl, Lib.hid rfl, own1, bel1⟩
  case round =>
    obtain ⟨k, ys, rfl, hk, hyl, H, own, hb⟩ := hrel
    by_cases hlt : 0 < k
    · obtain ⟨A1, c1, rfl, r1⟩ := own.shape
      have hy1 : ys.length ≤ 1000000000 := by rw [hyl.out]; exact hn
      go_wp2_with (go_at_call 55; refine (spec_l28Sum _ _ _ _ _ _ r1 hy1 hm).mono ?_; rintro e w2 ⟨v2, rfl, own2, bel2⟩)
      go_roundw
      case rel => exact ⟨k - 1, M.sumL ys m, by go_num, by omega, Lib.hid (by rw [M.sumL_len]; exact hyl.out), Lib.hid (by have := H.out; rwa [show k = (k - 1) + 1 by omega] at this), own2.base hb.size, bel_trans' hb hb.size bel2⟩
      case measure => simp [intOf]; omega
    · obtain rfl : k = 0 := by omega
      go_wp2
      go_ret2
      have e0 := H.out
      rw [R.out]
      exact ⟨_, rfl, by rw [← e0]; exact own, hb⟩
end Go.Proofs.Ytafbhangjeddaaa
