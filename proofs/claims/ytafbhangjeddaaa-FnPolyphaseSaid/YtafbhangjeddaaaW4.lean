import Derived.Test.YtafbhangjeddaaaW3
namespace Go.Proofs.Ytafbhangjeddaaa
open Go.RowKit
set_option maxHeartbeats 400000
theorem impl_isFactor (n : Int) (w : World) :
    Calls Try.prog 52 #[.int .i64 n] w fun e w' => e = .returned (.bool (M.fac n)) ∧ w = w' := by
  go_enter Try.func52, Try.ntmps52
  go_wp2_with (go_at_call 62; refine (impl_within _ _ _ _).mono ?_; rintro e w' ⟨rfl, rfl⟩)
  go_ret
  exact ⟨rfl, rfl⟩
theorem spec_l28Factor (n : Int) (w : World) :
    Calls Try.prog 49 #[.int .i64 n] w fun e w' => e = .returned (.bool (M.fac n)) ∧ w = w' := by
  go_enter Try.func49, Try.ntmps49
  go_wp2_with (go_at_call 60; refine (spec_l00In _ _ _ _).mono ?_; rintro e w' ⟨rfl, rfl⟩)
  go_ret
  exact ⟨rfl, rfl⟩
theorem impl_isSpan (n : Int) (w : World) :
    Calls Try.prog 57 #[.int .i64 n] w fun e w' => e = .returned (.bool (M.spn n)) ∧ w = w' := by
  go_enter Try.func57, Try.ntmps57
  go_wp2_with (go_at_call 62; refine (impl_within _ _ _ _).mono ?_; rintro e w' ⟨rfl, rfl⟩)
  go_ret
  exact ⟨rfl, rfl⟩
theorem impl_rateCode (A : Option Addr) (n c : Nat) (xs : List Int) (b : Bool) (w : World) (hx : RI w w.heap.size A n xs) (hn : n ≤ 1000000000) :
    Calls Try.prog 56 #[.slice A n c, .bool b] w fun e w' => e = .returned (.int .i64 (M.rate xs b)) ∧ w = w' := by
  cases b <;> cases hs : M.sig xs
  all_goals
    go_enter Try.func56, Try.ntmps56
    go_wp2_with (go_at_call 73; refine (impl_isSignal _ _ _ _ _ hx (by omega)).mono ?_; rintro e w' ⟨rfl, rfl⟩)
    go_ret
    exact ⟨ret_int (by simp [M.rate, hs]), rfl⟩
theorem spec_l28Ask (A : Option Addr) (n c : Nat) (xs : List Int) (m : Int) (w : World) (hx : RI w w.heap.size A n xs) (hn : n ≤ 1000000000) :
    Calls Try.prog 54 #[.slice A n c, .int .i64 m] w fun e w' => e = .returned (.int .i64 (M.rate xs (M.spn m))) ∧ w = w' := by
  cases hs : M.sig xs
  · go_enter Try.func54, Try.ntmps54
    go_wp2_with (go_at_call 64; refine (spec_l03Ok _ _ _ _ _ hx (by omega)).mono ?_; rintro e w' ⟨rfl, rfl⟩)
    go_ret
    exact ⟨ret_int (by simp [M.rate, hs]), rfl⟩
  · have hm : M.spn m = M.inn m 1 4000 := rfl
    rw [hm]
    clear hm
    cases hb : M.inn m 1 4000
    all_goals
      go_enter Try.func54, Try.ntmps54
      go_wp2_with (first | (go_at_call 64; refine (spec_l03Ok _ _ _ _ _ hx (by omega)).mono ?_; rintro e w' ⟨rfl, rfl⟩) | (go_at_call 60; refine (spec_l00In _ _ _ _).mono ?_; rintro e w' ⟨rfl, rfl⟩))
      go_ret
      exact ⟨ret_int (by simp [M.rate, hs]), rfl⟩
theorem impl_decimate (A : Option Addr) (n c : Nat) (xs : List Int) (f p : Int) (w : World) (hx : RI w w.heap.size A n xs)
    (hn : n ≤ 1000000000) (hf : 1 ≤ f ∧ f ≤ 16) (hp : 0 ≤ p ∧ p ≤ 16) :
    Calls Try.prog 53 #[.slice A n c, .int .i64 f, .int .i64 p] w (Ret1 2 w (M.decL xs f.toNat p.toNat)) := by
  obtain ⟨f, rfl⟩ := Int.eq_ofNat_of_zero_le (show 0 ≤ f by omega)
  obtain ⟨p, rfl⟩ := Int.eq_ofNat_of_zero_le hp.1
  rw [Int.toNat_natCast, Int.toNat_natCast]
  have hl := Lib.hid hx.len
  go_enter Try.func53, Try.ntmps53
  go_wp2
  go_loopw [7, 8] (fun v i wr => ∃ (k : Nat) (acc : List Int), i = .int .i64 k ∧ k ≤ 2000000000 ∧ acc.length ≤ k ∧ Hid (acc ++ M.decL xs f k = M.decL xs f p) ∧ OI 2 w.heap.size wr v acc ∧ Below w.heap.size w wr)
    (fun _ i _ => n - (intOf i).toNat)
  case atStart => exact ⟨p, [], rfl, by omega, by simp, Lib.hid rfl, OI.made _ _, (Below.refl _ _).alloc (Nat.le_refl _) _⟩
  case round =>
    obtain ⟨k, acc, rfl, hk, hal, H, hown, hb⟩ := hrel
    by_cases hlt : k < n
    · obtain ⟨ad, x, rfl, hab, X, hc⟩ := (hx.below hb).at hlt
      go_wp2_with (first
        | (go_at_call 75; refine (impl_size_int64 _ _ _ _).mono ?_; rintro e w' ⟨rfl, rfl⟩)
        | (at_builtin; refine wpList_push1 ei_i64 rfl _ _ rfl hown rfl rfl rfl (by unfold maxLen; omega) (by omega) hb.size ?_; intro v1 w1 own1 gr1 bel1))
      go_roundw
      case rel =>
        exact ⟨k + f, acc ++ [x], by go_num, by omega, by simp; omega, Lib.hid (by have := H.out; rw [M.decL_at (by omega) X.out] at this; simpa using this), OI.push own1, hb.trans bel1⟩
      case measure => simp [intOf]; omega
    · go_wp2_with (go_at_call 75; refine (impl_size_int64 _ _ _ _).mono ?_; rintro e w' ⟨rfl, rfl⟩)
      go_ret
      have e1 : acc = M.decL xs f p := by have := H.out; rw [M.decL_end (by rw [hl.out]; omega)] at this; simpa using this
      exact ⟨_, rfl, by rw [← e1]; exact hown, hb⟩
theorem spec_l28Decimate (A : Option Addr) (n c : Nat) (xs : List Int) (f p : Int) (w : World) (hx : RI w w.heap.size A n xs)
    (hn : n ≤ 1000000000) (hf : 1 ≤ f ∧ f ≤ 16) (hp : 0 ≤ p ∧ p ≤ 16) :
    Calls Try.prog 50 #[.slice A n c, .int .i64 f, .int .i64 p] w (Ret1 2 w (M.decL xs f.toNat p.toNat)) := by
  obtain ⟨f, rfl⟩ := Int.eq_ofNat_of_zero_le (show 0 ≤ f by omega)
  obtain ⟨p, rfl⟩ := Int.eq_ofNat_of_zero_le hp.1
  rw [Int.toNat_natCast, Int.toNat_natCast]
  have hl := Lib.hid hx.len
  go_enter Try.func50, Try.ntmps50
  go_wp2
  go_loopw [7, 8] (fun v i wr => ∃ (k : Nat) (acc : List Int), i = .int .i64 k ∧ k ≤ 2000000000 ∧ acc.length ≤ k ∧ Hid (acc ++ M.decL xs f k = M.decL xs f p) ∧ OI 2 w.heap.size wr v acc ∧ Below w.heap.size w wr)
    (fun _ i _ => n - (intOf i).toNat)
  case atStart => exact ⟨p, [], rfl, by omega, by simp, Lib.hid rfl, OI.made _ _, (Below.refl _ _).alloc (Nat.le_refl _) _⟩
  case round =>
    obtain ⟨k, acc, rfl, hk, hal, H, hown, hb⟩ := hrel
    by_cases hlt : k < n
    · obtain ⟨ad, x, rfl, hab, X, hc⟩ := (hx.below hb).at hlt
      go_wp2_with (first
        | fail
        | (at_builtin; refine wpList_push1 ei_i64 rfl _ _ rfl hown rfl rfl rfl (by unfold maxLen; omega) (by omega) hb.size ?_; intro v1 w1 own1 gr1 bel1))
      go_roundw
      case rel =>
        exact ⟨k + f, acc ++ [x], by go_num, by omega, by simp; omega, Lib.hid (by have := H.out; rw [M.decL_at (by omega) X.out] at this; simpa using this), OI.push own1, hb.trans bel1⟩
      case measure => simp [intOf]; omega
    · go_wp2_with fail
      go_ret
      have e1 : acc = M.decL xs f p := by have := H.out; rw [M.decL_end (by rw [hl.out]; omega)] at this; simpa using this
      exact ⟨_, rfl, by rw [← e1]; exact hown, hb⟩
theorem impl_DecimateSignal (A : Option Addr) (n c : Nat) (xs : List Int) (f p : Int) (w : World) (hx : RI w w.heap.size A n xs) (hn : n ≤ 1000000000) :
    Calls Try.prog 35 #[.slice A n c, .int .i64 f, .int .i64 p] w (Ret2 2 w (M.DecimateSignal xs f p)) := by
  cases hs : M.sig xs
  · have R := Lib.hid (show M.DecimateSignal xs f p = ([], 1) by simp [M.DecimateSignal, hs])
    cases h1 : M.fac f
    · have hr : M.rate xs false = 1 := by simp [M.rate, hs]
      go_enter Try.func35, Try.ntmps35
      go_wp2_with (first | (go_at_call 52; refine (impl_isFactor _ _).mono ?_; rintro e w' ⟨rfl, rfl⟩) | (go_at_call 62; refine (impl_within _ _ _ _).mono ?_; rintro e w' ⟨rfl, rfl⟩) | (go_at_call 56; refine (impl_rateCode _ _ _ _ _ _ hx hn).mono ?_; rintro e w' ⟨rfl, rfl⟩))
      go_ret2
      rw [R.out]
      exact ⟨_, rfl, OI.nil _ _ _, Below.refl _ _⟩
    · have hf := M.fac_bd h1
      have hr : M.rate xs (M.inn p 0 (f - 1)) = 1 := by simp [M.rate, hs]
      go_enter Try.func35, Try.ntmps35
      go_wp2_with (first | (go_at_call 52; refine (impl_isFactor _ _).mono ?_; rintro e w' ⟨rfl, rfl⟩) | (go_at_call 62; refine (impl_within _ _ _ _).mono ?_; rintro e w' ⟨rfl, rfl⟩) | (go_at_call 56; refine (impl_rateCode _ _ _ _ _ _ hx hn).mono ?_; rintro e w' ⟨rfl, rfl⟩))
      go_ret2
      rw [R.out]
      exact ⟨_, rfl, OI.nil _ _ _, Below.refl _ _⟩
  · cases h1 : M.fac f
    · have R := Lib.hid (show M.DecimateSignal xs f p = ([], 2) by simp [M.DecimateSignal, hs, h1])
      have hr : M.rate xs false = 2 := by simp [M.rate, hs]
      go_enter Try.func35, Try.ntmps35
      go_wp2_with (first | (go_at_call 52; refine (impl_isFactor _ _).mono ?_; rintro e w' ⟨rfl, rfl⟩) | (go_at_call 62; refine (impl_within _ _ _ _).mono ?_; rintro e w' ⟨rfl, rfl⟩) | (go_at_call 56; refine (impl_rateCode _ _ _ _ _ _ hx hn).mono ?_; rintro e w' ⟨rfl, rfl⟩))
      go_ret2
      rw [R.out]
      exact ⟨_, rfl, OI.nil _ _ _, Below.refl _ _⟩
    · have hf := M.fac_bd h1
      cases h2 : M.inn p 0 (f - 1)
      · have R := Lib.hid (show M.DecimateSignal xs f p = ([], 2) by simp [M.DecimateSignal, hs, h1, h2])
        have hr : M.rate xs false = 2 := by simp [M.rate, hs]
        go_enter Try.func35, Try.ntmps35
        go_wp2_with (first | (go_at_call 52; refine (impl_isFactor _ _).mono ?_; rintro e w' ⟨rfl, rfl⟩) | (go_at_call 62; refine (impl_within _ _ _ _).mono ?_; rintro e w' ⟨rfl, rfl⟩) | (go_at_call 56; refine (impl_rateCode _ _ _ _ _ _ hx hn).mono ?_; rintro e w' ⟨rfl, rfl⟩))
        go_ret2
        rw [R.out]
        exact ⟨_, rfl, OI.nil _ _ _, Below.refl _ _⟩
      · have R := Lib.hid (show M.DecimateSignal xs f p = (M.decL xs f.toNat p.toNat, 0) by simp [M.DecimateSignal, hs, h1, h2])
        have hr : M.rate xs true = 0 := by simp [M.rate, hs]
        have hp := M.inn_bd h2
        go_enter Try.func35, Try.ntmps35
        go_wp2_with (first | (go_at_call 52; refine (impl_isFactor _ _).mono ?_; rintro e w' ⟨rfl, rfl⟩) | (go_at_call 62; refine (impl_within _ _ _ _).mono ?_; rintro e w' ⟨rfl, rfl⟩) | (go_at_call 56; refine (impl_rateCode _ _ _ _ _ _ hx hn).mono ?_; rintro e w' ⟨rfl, rfl⟩) | (go_at_call 53; refine (impl_decimate _ _ _ _ _ _ _ hx hn hf ⟨by omega, by omega⟩).mono ?_; rintro e w1 ⟨v1, rfl, own1, bel1⟩))
        go_ret2
        rw [R.out]
        exact ⟨_, rfl, own1, bel1⟩
theorem spec_DecimateSignal (A : Option Addr) (n c : Nat) (xs : List Int) (f p : Int) (w : World) (hx : RI w w.heap.size A n xs) (hn : n ≤ 1000000000) :
    Calls Try.prog 37 #[.slice A n c, .int .i64 f, .int .i64 p] w (Ret2 2 w (M.DecimateSignal xs f p)) := by
  cases hs : M.sig xs
  · have R := Lib.hid (show M.DecimateSignal xs f p = ([], 1) by simp [M.DecimateSignal, hs])
    go_enter Try.func37, Try.ntmps37
    go_wp2_with (first | (go_at_call 64; refine (spec_l03Ok _ _ _ _ _ hx (by omega)).mono ?_; rintro e w' ⟨rfl, rfl⟩))
    go_ret2
    rw [R.out]
    exact ⟨_, rfl, OI.nil _ _ _, Below.refl _ _⟩
  · cases h1 : M.fac f
    · have R := Lib.hid (show M.DecimateSignal xs f p = ([], 2) by simp [M.DecimateSignal, hs, h1])
      go_enter Try.func37, Try.ntmps37
      go_wp2_with (first | (go_at_call 64; refine (spec_l03Ok _ _ _ _ _ hx (by omega)).mono ?_; rintro e w' ⟨rfl, rfl⟩) | (go_at_call 49; refine (spec_l28Factor _ _).mono ?_; rintro e w' ⟨rfl, rfl⟩) | (go_at_call 60; refine (spec_l00In _ _ _ _).mono ?_; rintro e w' ⟨rfl, rfl⟩))
      go_ret2
      rw [R.out]
      exact ⟨_, rfl, OI.nil _ _ _, Below.refl _ _⟩
    · have hf := M.fac_bd h1
      cases h2 : M.inn p 0 (f - 1)
      · have R := Lib.hid (show M.DecimateSignal xs f p = ([], 2) by simp [M.DecimateSignal, hs, h1, h2])
        go_enter Try.func37, Try.ntmps37
        go_wp2_with (first | (go_at_call 64; refine (spec_l03Ok _ _ _ _ _ hx (by omega)).mono ?_; rintro e w' ⟨rfl, rfl⟩) | (go_at_call 49; refine (spec_l28Factor _ _).mono ?_; rintro e w' ⟨rfl, rfl⟩) | (go_at_call 60; refine (spec_l00In _ _ _ _).mono ?_; rintro e w' ⟨rfl, rfl⟩))
        go_ret2
        rw [R.out]
        exact ⟨_, rfl, OI.nil _ _ _, Below.refl _ _⟩
      · have R := Lib.hid (show M.DecimateSignal xs f p = (M.decL xs f.toNat p.toNat, 0) by simp [M.DecimateSignal, hs, h1, h2])
        have hp := M.inn_bd h2
        go_enter Try.func37, Try.ntmps37
        go_wp2_with (first | (go_at_call 64; refine (spec_l03Ok _ _ _ _ _ hx (by omega)).mono ?_; rintro e w' ⟨rfl, rfl⟩) | (go_at_call 49; refine (spec_l28Factor _ _).mono ?_; rintro e w' ⟨rfl, rfl⟩) | (go_at_call 60; refine (spec_l00In _ _ _ _).mono ?_; rintro e w' ⟨rfl, rfl⟩) | (go_at_call 50; refine (spec_l28Decimate _ _ _ _ _ _ _ hx hn hf ⟨by omega, by omega⟩).mono ?_; rintro e w1 ⟨v1, rfl, own1, bel1⟩))
        go_ret2
        rw [R.out]
        exact ⟨_, rfl, own1, bel1⟩
end Go.Proofs.Ytafbhangjeddaaa
