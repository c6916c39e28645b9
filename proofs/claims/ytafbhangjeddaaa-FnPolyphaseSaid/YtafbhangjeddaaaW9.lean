import Derived.Test.YtafbhangjeddaaaW8
namespace Go.Proofs.Ytafbhangjeddaaa
open Go.RowKit
set_option maxHeartbeats 1000000
set_option maxRecDepth 100000
theorem spec_l28Expand (A : Option Addr) (n c : Nat) (xs : List Int) (f : Int) (b : Bool) (w : World) (hx : RI w w.heap.size A n xs) (hn : n ≤ 4000) (hf : 1 ≤ f ∧ f ≤ 16) :
    Calls Try.prog 46 #[.slice A n c, .int .i64 f, .bool b] w (Ret1 2 w (M.expandL xs f.toNat b)) := by
  obtain ⟨f, rfl⟩ := Int.eq_ofNat_of_zero_le (show 0 ≤ f by omega)
  rw [Int.toNat_natCast]
  have hl := Lib.hid hx.len
  go_enter Try.func46, Try.ntmps46
  go_wp2
  go_loopw [7, 8, 9] (fun v i _ wr => ∃ (k : Nat) (acc : List Int), i = .int .i64 k ∧ k ≤ n ∧ acc.length ≤ 16 * k ∧ Hid (acc ++ M.expandL (xs.drop k) f b = M.expandL xs f b) ∧
      OI 2 w.heap.size wr v acc ∧ Below w.heap.size w wr)
    (fun _ i _ _ => n - (intOf i).toNat)
  case atStart => exact ⟨0, [], rfl, by omega, by simp, Lib.hid rfl, OI.made _ _, (Below.refl _ _).alloc (Nat.le_refl _) _⟩
  case round =>
    obtain ⟨k, acc, rfl, hk, hal, H, own, hb⟩ := hrel
    obtain ⟨wo, rfl⟩ : ∃ wo : World, wo = wr := ⟨_, rfl⟩
    by_cases hlt : k < n
    · obtain ⟨ad, x, rfl, hab, X, _⟩ := (hx.below hb).at hlt
      go_wp2
      go_loopw [7, 9] (fun v i w2 => ∃ j : Nat, i = .int .i64 j ∧ j ≤ f ∧ OI 2 w.heap.size w2 v (acc ++ (M.rep f b x).take j) ∧ Below w.heap.size w w2)
        (fun _ i _ => f - (intOf i).toNat)
      case atStart => exact ⟨0, rfl, by omega, by simpa using own, hb⟩
      case round =>
        obtain ⟨j, rfl, hj, own2, hb2⟩ := hrel
        by_cases hlj : j < f
        · obtain ⟨x', X', hc⟩ := (hx.below hb2).cell hlt
          obtain rfl : x' = x := by have h1 := X.out; have h2 := X'.out; rw [h1] at h2; injection h2 with h2; exact h2.symm
          have hal2 : (acc ++ (M.rep f b x').take j).length ≤ 1000000 := by rw [List.length_append, List.length_take]; omega
          cases b
          · by_cases hj0 : j = 0
            · subst hj0
              have E := Lib.hid (M.rep_zero (f := f) false x')
              go_wp2_with (first
                | (at_builtin; refine wpList_push1 ei_i64 rfl _ _ rfl own2 rfl rfl rfl (by unfold maxLen; omega) (by omega) hb2.size ?_; intro v1 w1 own1 gr1 bel1))
              go_roundw
              case rel => exact ⟨1, by go_num, by omega, by rw [M.take_at E.out, ← List.append_assoc]; exact OI.push own1, hb2.trans bel1⟩
              case measure => simp [intOf]; omega
            · have hjb : ((j : Int) == 0) = false := by simpa using hj0
              have E := Lib.hid (M.rep_false (show 1 ≤ j by omega) hlj x')
              clear hj0
              go_wp2_with (first
                | (at_builtin; refine wpList_push1 ei_i64 rfl _ _ rfl own2 rfl rfl rfl (by unfold maxLen; omega) (by omega) hb2.size ?_; intro v1 w1 own1 gr1 bel1))
              go_roundw
              case rel => exact ⟨j + 1, by go_num, by omega, by rw [M.take_at E.out, ← List.append_assoc]; exact OI.push own1, hb2.trans bel1⟩
              case measure => simp [intOf]; omega
          · have E := Lib.hid (M.rep_true hlj x')
            go_wp2_with (first
              | (at_builtin; refine wpList_push1 ei_i64 rfl _ _ rfl own2 rfl rfl rfl (by unfold maxLen; omega) (by omega) hb2.size ?_; intro v1 w1 own1 gr1 bel1))
            go_roundw
            case rel => exact ⟨j + 1, by go_num, by omega, by rw [M.take_at E.out, ← List.append_assoc]; exact OI.push own1, hb2.trans bel1⟩
            case measure => simp [intOf]; omega
        · obtain rfl : j = f := by omega
          go_wp2
          go_roundw
          case rel =>
            rw [List.take_of_length_le (by rw [M.rep_len (by omega)]; omega)] at own2
            exact ⟨k + 1, acc ++ M.rep j b x, by go_num, by omega, by rw [List.length_append, M.rep_len (by omega)]; omega, Lib.hid (by have := H.out; rwa [M.expandL_at X.out, ← List.append_assoc] at this), own2, hb2⟩
          case measure => simp [intOf]; omega
    · go_wp2
      go_ret
      have e0 := H.out
      rw [List.drop_eq_nil_of_le (by rw [hl.out]; omega)] at e0
      exact ⟨_, rfl, by rw [← e0]; simpa [M.expandL] using own, hb⟩
theorem impl_expand (A : Option Addr) (n c : Nat) (xs : List Int) (f : Int) (b : Bool) (w : World) (hx : RI w w.heap.size A n xs) (hn : n ≤ 1000000000) :
    Calls Try.prog 47 #[.slice A n c, .int .i64 f, .bool b] w (Ret2 2 w (M.expandS xs f b)) := by
  have hl := Lib.hid hx.len
  cases hs : M.sig xs
  · have R := Lib.hid (show M.expandS xs f b = ([], 1) by simp [M.expandS, hs])
    have hr : M.rate xs (M.fac f) = 1 := by simp [M.rate, hs]
    go_enter Try.func47, Try.ntmps47
    go_wp2_with (first | (go_at_call 52; refine (impl_isFactor _ _).mono ?_; rintro e w' ⟨rfl, rfl⟩) | (go_at_call 56; refine (impl_rateCode _ _ _ _ _ _ hx hn).mono ?_; rintro e w' ⟨rfl, rfl⟩))
    go_ret2
    rw [R.out]
    exact ⟨_, rfl, OI.nil _ _ _, Below.refl _ _⟩
  have h4 : n ≤ 4000 := by have := M.sig_len hs; rw [hl.out] at this; exact this
  cases h1 : M.fac f
  · have R := Lib.hid (show M.expandS xs f b = ([], 2) by simp [M.expandS, hs, h1])
    have hr : M.rate xs false = 2 := by simp [M.rate, hs]
    go_enter Try.func47, Try.ntmps47
    go_wp2_with (first | (go_at_call 52; refine (impl_isFactor _ _).mono ?_; rintro e w' ⟨rfl, rfl⟩) | (go_at_call 56; refine (impl_rateCode _ _ _ _ _ _ hx hn).mono ?_; rintro e w' ⟨rfl, rfl⟩))
    go_ret2
    rw [R.out]
    exact ⟨_, rfl, OI.nil _ _ _, Below.refl _ _⟩
  have hf := M.fac_bd h1
  have hr : M.rate xs true = 0 := by simp [M.rate, hs]
  obtain ⟨f, rfl⟩ := Int.eq_ofNat_of_zero_le (show 0 ≤ f by omega)
  have hfn := M.mul_bd hf (n := n) (by omega)
  by_cases hbig : (f : Int) * n ≤ 4000
  · have R := Lib.hid (show M.expandS xs f b = (M.expandL xs f b, 0) by simp [M.expandS, hs, h1, hl.out, hbig])
    go_enter Try.func47, Try.ntmps47
    go_wp2_with (first | (go_at_call 52; refine (impl_isFactor _ _).mono ?_; rintro e w' ⟨rfl, rfl⟩) | (go_at_call 56; refine (impl_rateCode _ _ _ _ _ _ hx hn).mono ?_; rintro e w' ⟨rfl, rfl⟩) | (go_at_call 75; refine (impl_size_int64 _ _ _ _).mono ?_; rintro e w' ⟨rfl, rfl⟩))
    go_loopw [9, 11, 12, 28] (fun v _ _ i wr => ∃ (k : Nat) (acc : List Int), i = .int .i64 k ∧ k ≤ n ∧ acc.length ≤ 16 * k ∧ Hid (acc ++ M.expandL (xs.drop k) f b = M.expandL xs f b) ∧
        OI 2 w.heap.size wr v acc ∧ Below w.heap.size w wr)
      (fun _ _ _ i _ => n - (intOf i).toNat)
    case atStart => exact ⟨0, [], rfl, by omega, by simp, Lib.hid rfl, OI.made _ _, (Below.refl _ _).alloc (Nat.le_refl _) _⟩
    case round =>
      obtain ⟨k, acc, rfl, hk, hal, H, own, hb⟩ := hrel
      obtain ⟨wo, rfl⟩ : ∃ wo : World, wo = wr := ⟨_, rfl⟩
      by_cases hlt : k < n
      · obtain ⟨ad, x, rfl, hab, X, hc⟩ := (hx.below hb).at hlt
        have E0 := Lib.hid (M.rep_zero (f := f) b x)
        go_wp2_with (first
          | (at_builtin; refine wpList_push1 ei_i64 rfl _ _ rfl own rfl rfl rfl (by unfold maxLen; omega) (by omega) hb.size ?_; intro v1 w1 own1 gr1 bel1))
        go_loopw [9, 12] (fun v i w2 => ∃ j : Nat, i = .int .i64 j ∧ 1 ≤ j ∧ j ≤ f ∧ OI 2 w.heap.size w2 v (acc ++ (M.rep f b x).take j) ∧ Below w.heap.size w w2)
          (fun _ i _ => f - (intOf i).toNat)
        case atStart => exact ⟨1, rfl, by omega, by omega, by rw [M.take_at E0.out]; exact OI.push own1, hb.trans bel1⟩
        case round =>
          obtain ⟨j, rfl, hj1, hj, own2, hb2⟩ := hrel
          by_cases hlj : j < f
          · have hal2 : (acc ++ (M.rep f b x).take j).length ≤ 1000000 := by rw [List.length_append, List.length_take]; omega
            cases b
            · have E := Lib.hid (M.rep_false hj1 hlj x)
              go_wp2_with (first
                | (at_builtin; refine wpList_push1 ei_i64 rfl _ _ rfl own2 rfl rfl rfl (by unfold maxLen; omega) (by omega) hb2.size ?_; intro v3 w3 own3 gr3 bel3))
              go_roundw
              case rel => exact ⟨j + 1, by go_num, by omega, by omega, by rw [M.take_at E.out, ← List.append_assoc]; exact OI.push own3, hb2.trans bel3⟩
              case measure => simp [intOf]; omega
            · have E := Lib.hid (M.rep_true hlj x)
              go_wp2_with (first
                | (at_builtin; refine wpList_push1 ei_i64 rfl _ _ rfl own2 rfl rfl rfl (by unfold maxLen; omega) (by omega) hb2.size ?_; intro v3 w3 own3 gr3 bel3))
              go_roundw
              case rel => exact ⟨j + 1, by go_num, by omega, by omega, by rw [M.take_at E.out, ← List.append_assoc]; exact OI.push own3, hb2.trans bel3⟩
              case measure => simp [intOf]; omega
          · obtain rfl : j = f := by omega
            go_wp2
            go_roundw
            case rel =>
              rw [List.take_of_length_le (by rw [M.rep_len (by omega)]; omega)] at own2
              exact ⟨k + 1, acc ++ M.rep j b x, by go_num, by omega, by rw [List.length_append, M.rep_len (by omega)]; omega, Lib.hid (by have := H.out; rwa [M.expandL_at X.out, ← List.append_assoc] at this), own2, hb2⟩
            case measure => simp [intOf]; omega
      · go_wp2
        go_ret2
        have e0 := H.out
        rw [List.drop_eq_nil_of_le (by rw [hl.out]; omega)] at e0
        rw [R.out]
        exact ⟨_, rfl, by rw [← e0]; simpa [M.expandL] using own, hb⟩
  · have R := Lib.hid (show M.expandS xs f b = ([], 5) by simp only [M.expandS, hs, h1, hl.out, hbig, if_true, if_false])
    go_enter Try.func47, Try.ntmps47
    go_wp2_with (first | (go_at_call 52; refine (impl_isFactor _ _).mono ?_; rintro e w' ⟨rfl, rfl⟩) | (go_at_call 56; refine (impl_rateCode _ _ _ _ _ _ hx hn).mono ?_; rintro e w' ⟨rfl, rfl⟩) | (go_at_call 75; refine (impl_size_int64 _ _ _ _).mono ?_; rintro e w' ⟨rfl, rfl⟩))
    go_ret2
    rw [R.out]
    exact ⟨_, rfl, OI.nil _ _ _, Below.refl _ _⟩
theorem spec_l28Longer (A : Option Addr) (n c : Nat) (xs : List Int) (f : Int) (w : World) (hx : RI w w.heap.size A n xs) (hn : n ≤ 1000000000) :
    Calls Try.prog 45 #[.slice A n c, .int .i64 f] w fun e w' => e = .returned (.int .i64 (M.longer xs f)) ∧ w = w' := by
  have hl := Lib.hid hx.len
  cases hs : M.sig xs
  · go_enter Try.func45, Try.ntmps45
    go_wp2_with (first | (go_at_call 64; refine (spec_l03Ok _ _ _ _ _ hx (by omega)).mono ?_; rintro e w' ⟨rfl, rfl⟩))
    go_ret
    exact ⟨ret_int (by simp [M.longer, hs]), rfl⟩
  have h4 : n ≤ 4000 := by have := M.sig_len hs; rw [hl.out] at this; exact this
  cases h1 : M.fac f
  · go_enter Try.func45, Try.ntmps45
    go_wp2_with (first | (go_at_call 64; refine (spec_l03Ok _ _ _ _ _ hx (by omega)).mono ?_; rintro e w' ⟨rfl, rfl⟩) | (go_at_call 49; refine (spec_l28Factor _ _).mono ?_; rintro e w' ⟨rfl, rfl⟩))
    go_ret
    exact ⟨ret_int (by simp [M.longer, hs, h1]), rfl⟩
  have hf := M.fac_bd h1
  obtain ⟨f, rfl⟩ := Int.eq_ofNat_of_zero_le (show 0 ≤ f by omega)
  have hfn := M.mul_bd hf (n := n) (by omega)
  have hc := Lib.hid (Int.mul_comm (f : Int) n)
  rw [hc.out] at hfn
  by_cases hbig : (n : Int) * f ≤ 4000
  · have R := Lib.hid (show M.longer xs f = 0 by simp [M.longer, hs, h1, hl.out, hc.out, hbig])
    go_enter Try.func45, Try.ntmps45
    go_wp2_with (first | (go_at_call 64; refine (spec_l03Ok _ _ _ _ _ hx (by omega)).mono ?_; rintro e w' ⟨rfl, rfl⟩) | (go_at_call 49; refine (spec_l28Factor _ _).mono ?_; rintro e w' ⟨rfl, rfl⟩))
    go_ret
    exact ⟨ret_int R.out.symm, rfl⟩
  · have R := Lib.hid (show M.longer xs f = 5 by simp only [M.longer, hs, h1, hl.out, hc.out, hbig, if_true, if_false])
    go_enter Try.func45, Try.ntmps45
    go_wp2_with (first | (go_at_call 64; refine (spec_l03Ok _ _ _ _ _ hx (by omega)).mono ?_; rintro e w' ⟨rfl, rfl⟩) | (go_at_call 49; refine (spec_l28Factor _ _).mono ?_; rintro e w' ⟨rfl, rfl⟩))
    go_ret
    exact ⟨ret_int R.out.symm, rfl⟩
theorem impl_ExpandSignal (A : Option Addr) (n c : Nat) (xs : List Int) (f : Int) (w : World) (hx : RI w w.heap.size A n xs) (hn : n ≤ 1000000000) :
    Calls Try.prog 42 #[.slice A n c, .int .i64 f] w (Ret2 2 w (M.expandS xs f false)) := by
  go_enter Try.func42, Try.ntmps42
  go_wp2_with (go_at_call 47; refine (impl_expand _ _ _ _ _ _ _ hx hn).mono ?_; rintro e w1 ⟨v1, rfl, own1, bel1⟩)
  go_ret2
  exact ⟨_, rfl, own1, bel1⟩
theorem impl_HoldSignal (A : Option Addr) (n c : Nat) (xs : List Int) (f : Int) (w : World) (hx : RI w w.heap.size A n xs) (hn : n ≤ 1000000000) :
    Calls Try.prog 14 #[.slice A n c, .int .i64 f] w (Ret2 2 w (M.expandS xs f true)) := by
  go_enter Try.func14, Try.ntmps14
  go_wp2_with (go_at_call 47; refine (impl_expand _ _ _ _ _ _ _ hx hn).mono ?_; rintro e w1 ⟨v1, rfl, own1, bel1⟩)
  go_ret2
  exact ⟨_, rfl, own1, bel1⟩
theorem spec_HoldSignal (A : Option Addr) (n c : Nat) (xs : List Int) (f : Int) (w : World) (hx : RI w w.heap.size A n xs) (hn : n ≤ 1000000000) :
    Calls Try.prog 12 #[.slice A n c, .int .i64 f] w (Ret2 2 w (M.expandS xs f true)) := by
  have hl := Lib.hid hx.len
  cases hs : M.sig xs
  · have R := Lib.hid (show M.expandS xs f true = ([], 1) by simp [M.expandS, hs])
    have hr : M.longer xs f = 1 := by simp [M.longer, hs]
    go_enter Try.func12, Try.ntmps12
    go_wp2_with (go_at_call 45; refine (spec_l28Longer _ _ _ _ _ _ hx hn).mono ?_; rintro e w' ⟨rfl, rfl⟩)
    go_ret2
    rw [R.out]
    exact ⟨_, rfl, OI.nil _ _ _, Below.refl _ _⟩
  cases h1 : M.fac f
  · have R := Lib.hid (show M.expandS xs f true = ([], 2) by simp [M.expandS, hs, h1])
    have hr : M.longer xs f = 2 := by simp [M.longer, hs, h1]
    go_enter Try.func12, Try.ntmps12
    go_wp2_with (go_at_call 45; refine (spec_l28Longer _ _ _ _ _ _ hx hn).mono ?_; rintro e w' ⟨rfl, rfl⟩)
    go_ret2
    rw [R.out]
    exact ⟨_, rfl, OI.nil _ _ _, Below.refl _ _⟩
  have h4 : n ≤ 4000 := by have := M.sig_len hs; rw [hl.out] at this; exact this
  by_cases hbig : f * xs.length ≤ 4000
  · have R := Lib.hid (show M.expandS xs f true = (M.expandL xs f.toNat true, 0) by simp [M.expandS, hs, h1, hbig])
    have hr : M.longer xs f = 0 := by simp [M.longer, hs, h1, hbig]
    have hf := M.fac_bd h1
    clear hbig
    go_enter Try.func12, Try.ntmps12
    go_wp2_with (first | (go_at_call 45; refine (spec_l28Longer _ _ _ _ _ _ hx hn).mono ?_; rintro e w' ⟨rfl, rfl⟩) | (go_at_call 46; refine (spec_l28Expand _ _ _ _ _ _ _ hx h4 hf).mono ?_; rintro e w1 ⟨v1, rfl, own1, bel1⟩))
    go_ret2
    rw [R.out]
    exact ⟨_, rfl, own1, bel1⟩
  · have R := Lib.hid (show M.expandS xs f true = ([], 5) by simp only [M.expandS, hs, h1, hbig, if_true, if_false])
    have hr : M.longer xs f = 5 := by simp only [M.longer, hs, h1, hbig, if_true, if_false]
    clear hbig
    go_enter Try.func12, Try.ntmps12
    go_wp2_with (go_at_call 45; refine (spec_l28Longer _ _ _ _ _ _ hx hn).mono ?_; rintro e w' ⟨rfl, rfl⟩)
    go_ret2
    rw [R.out]
    exact ⟨_, rfl, OI.nil _ _ _, Below.refl _ _⟩
end Go.Proofs.Ytafbhangjeddaaa
