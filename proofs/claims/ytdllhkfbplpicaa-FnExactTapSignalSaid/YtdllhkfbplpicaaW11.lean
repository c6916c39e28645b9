import Derived.Test.YtdllhkfbplpicaaW10
namespace Go.Proofs.Ytdllhkfbplpicaa
open Go.RowKit
set_option maxHeartbeats 1000000
set_option maxRecDepth 100000
theorem impl_TapSignal (A A' : Option Addr) (n c p c' : Nat) (xs ts : List Int) (w : World) (hx : RI w w.heap.size A n xs) (hp : RI w w.heap.size A' p ts) (hn : n ≤ 1000000000) (hpn : p ≤ 1000000000) :
    Calls Try.prog 30 #[.slice A n c, .slice A' p c'] w (Ret2 2 w (M.TapSignal xs ts)) := by
  have hl := Lib.hid hx.len
  have hlp := Lib.hid hp.len
  cases hs : M.sig xs
  · have R := Lib.hid (show M.TapSignal xs ts = ([], 1) by simp [M.TapSignal, hs])
    go_enter Try.func30, Try.ntmps30
    go_wp2_with (go_at_call 57; refine (impl_isSignal _ _ _ _ _ hx (by omega)).mono ?_; rintro e w' ⟨rfl, rfl⟩)
    go_ret2
    rw [R.out]
    exact ⟨_, rfl, OI.nil _ _ _, Below.refl _ _⟩
  cases h1 : M.taps ts
  · have R := Lib.hid (show M.TapSignal xs ts = ([], 1) by simp [M.TapSignal, hs, h1])
    go_enter Try.func30, Try.ntmps30
    go_wp2_with (first | (go_at_call 57; refine (impl_isSignal _ _ _ _ _ hx (by omega)).mono ?_; rintro e w' ⟨rfl, rfl⟩) | (go_at_call 61; refine (impl_areTaps _ _ _ _ _ hp (by omega)).mono ?_; rintro e w' ⟨rfl, rfl⟩))
    go_ret2
    rw [R.out]
    exact ⟨_, rfl, OI.nil _ _ _, Below.refl _ _⟩
  have R := Lib.hid (show M.TapSignal xs ts = (M.tapL ts xs, 0) by simp [M.TapSignal, hs, h1])
  have h4 : n ≤ 4000 := by have := M.sig_len hs; rw [hl.out] at this; exact this
  have ht := Lib.hid (M.taps_bd h1)
  have ht1 : p ≤ 64 := by have := ht.out.2.1; rw [hlp.out] at this; exact this
  have hts := ht.out.2.2
  go_enter Try.func30, Try.ntmps30
  go_wp2_with (first | (go_at_call 57; refine (impl_isSignal _ _ _ _ _ hx (by omega)).mono ?_; rintro e w' ⟨rfl, rfl⟩) | (go_at_call 61; refine (impl_areTaps _ _ _ _ _ hp (by omega)).mono ?_; rintro e w' ⟨rfl, rfl⟩) | (go_at_call 63; refine (impl_size_int64 _ _ _ _).mono ?_; rintro e w' ⟨rfl, rfl⟩) | (go_at_call 62; refine (impl_convolve _ _ _ _ _ _ _ _ _ hp hx ht1 h4 hts).mono ?_; rintro e w1 ⟨v1, rfl, own1, bel1⟩))
  go_ret2
  rw [R.out]
  exact ⟨_, rfl, own1, bel1⟩
theorem spec_TapSignal (A A' : Option Addr) (n c p c' : Nat) (xs ts : List Int) (w : World) (hx : RI w w.heap.size A n xs) (hp : RI w w.heap.size A' p ts) (hn : n ≤ 1000000000) (hpn : p ≤ 1000000000) :
    Calls Try.prog 29 #[.slice A n c, .slice A' p c'] w (Ret2 2 w (M.TapSignal xs ts)) := by
  have hl := Lib.hid hx.len
  have hlp := Lib.hid hp.len
  cases hs : M.sig xs
  · have R := Lib.hid (show M.TapSignal xs ts = ([], 1) by simp [M.TapSignal, hs])
    go_enter Try.func29, Try.ntmps29
    go_wp2_with (go_at_call 45; refine (spec_l03Ok _ _ _ _ _ hx (by omega)).mono ?_; rintro e w' ⟨rfl, rfl⟩)
    go_ret2
    rw [R.out]
    exact ⟨_, rfl, OI.nil _ _ _, Below.refl _ _⟩
  cases h1 : M.taps ts
  · have R := Lib.hid (show M.TapSignal xs ts = ([], 1) by simp [M.TapSignal, hs, h1])
    go_enter Try.func29, Try.ntmps29
    go_wp2_with (first | (go_at_call 45; refine (spec_l03Ok _ _ _ _ _ hx (by omega)).mono ?_; rintro e w' ⟨rfl, rfl⟩) | (go_at_call 59; refine (spec_l28Taps _ _ _ _ _ hp (by omega)).mono ?_; rintro e w' ⟨rfl, rfl⟩))
    go_ret2
    rw [R.out]
    exact ⟨_, rfl, OI.nil _ _ _, Below.refl _ _⟩
  have R := Lib.hid (show M.TapSignal xs ts = (M.tapL ts xs, 0) by simp [M.TapSignal, hs, h1])
  have h4 : n ≤ 4000 := by have := M.sig_len hs; rw [hl.out] at this; exact this
  have ht := Lib.hid (M.taps_bd h1)
  have ht1 : p ≤ 64 := by have := ht.out.2.1; rw [hlp.out] at this; exact this
  have hts := ht.out.2.2
  go_enter Try.func29, Try.ntmps29
  go_wp2_with (first | (go_at_call 45; refine (spec_l03Ok _ _ _ _ _ hx (by omega)).mono ?_; rintro e w' ⟨rfl, rfl⟩) | (go_at_call 59; refine (spec_l28Taps _ _ _ _ _ hp (by omega)).mono ?_; rintro e w' ⟨rfl, rfl⟩) | (go_at_call 60; refine (spec_l28Tap _ _ _ _ _ _ _ _ _ hx hp ht1 h4).mono ?_; rintro e w1 ⟨v1, rfl, own1, bel1⟩))
  go_ret2
  rw [R.out]
  exact ⟨_, rfl, own1, bel1⟩
theorem expand_sig {xs : List Int} {f : Int} (hs : M.sig xs = true) (hf : M.fac f = true) (hb : f * xs.length ≤ 4000) (b : Bool) : M.sig (M.expandL xs f.toNat b) = true ∧ (M.expandL xs f.toNat b).length ≤ 4000 := by
  have h := M.fac_bd hf
  obtain ⟨k, rfl⟩ := Int.eq_ofNat_of_zero_le (show 0 ≤ f by omega)
  have hl : (M.expandL xs k b).length ≤ 4000 := by
    rw [M.expandL_len xs (by omega)]
    have : ((k * xs.length : Nat) : Int) ≤ 4000 := by rw [Int.natCast_mul]; exact hb
    omega
  refine ⟨?_, hl⟩
  simp only [M.sig, Bool.and_eq_true, decide_eq_true_eq, List.all_eq_true]
  exact ⟨hl, M.expandL_smp (M.sig_smp hs)⟩
end Go.Proofs.Ytdllhkfbplpicaa
