import Derived.Test.YtafbhangjeddaaaW6
namespace Go.Proofs.Ytafbhangjeddaaa
open Go.RowKit
set_option maxHeartbeats 400000
set_option maxRecDepth 100000
theorem impl_integrate (A : Option Addr) (n c : Nat) (xs : List Int) (w : World) (hx : RI w w.heap.size A n xs) (hs : ∀ x ∈ xs, M.smp x = true) (hn : n ≤ 1000000000) :
    Calls Try.prog 59 #[.slice A n c] w (Ret1 2 w (M.integ 0 xs)) := by
  have hl := Lib.hid hx.len
  have HS := Lib.hid hs
  clear hs
  go_enter Try.func59, Try.ntmps59
  go_wp2_with (first | (go_at_call 75; refine (impl_size_int64 _ _ _ _).mono ?_; rintro e w' ⟨rfl, rfl⟩) | (go_at_call 81; refine (impl_zeros _ _ (by omega) (by omega)).mono ?_; rintro e w1 ⟨v1, rfl, own1, bel1⟩))
  obtain ⟨A1, c1, rfl, _⟩ := own1.shape
  rw [show ((n : Int)).toNat = n from Int.toNat_natCast n] at own1
  rw [List.length_replicate, show ((n : Int)).toNat = n from Int.toNat_natCast n]
  go_loopw [4, 5, 6, 12] (fun q _ _ i wr => ∃ (k : Nat) (s : Int), i = .int .i64 k ∧ k ≤ n ∧ q = .int .i64 s ∧ -2147483648 ≤ s ∧ s ≤ 2147483647 ∧ Hid ((M.integ 0 xs).drop k = M.integ s (xs.drop k)) ∧
      OI 2 w.heap.size wr (.slice A1 n c1) ((M.integ 0 xs).take k ++ (List.replicate n 0).drop k) ∧ Below w.heap.size w wr)
    (fun _ _ _ i _ => n - (intOf i).toNat)
  case atStart => exact ⟨0, 0, rfl, by omega, rfl, by omega, by omega, Lib.hid rfl, by simpa using own1, bel1⟩
  case round =>
    obtain ⟨k, s, rfl, hk, rfl, hs1, hs2, H, own, hb⟩ := hrel
    by_cases hlt : k < n
    · obtain ⟨ad, x, rfl, hab, X, hc⟩ := (hx.below hb).at hlt
      have hxb := M.smp_bd (HS.out x (List.mem_of_getElem? X.out))
      obtain ⟨g, rfl, hB, hgl⟩ := own.form' (by omega)
      obtain ⟨z, Z, hc2, hf2, _, _⟩ := own.at' hlt
      have hwb := M.wrap32_bd (s + x)
      have T := Lib.hid (M.integ_step H.out X.out)
      go_wp2_with (go_at_call 80; refine (impl_Wrap _ _).mono ?_; rintro e w' ⟨rfl, rfl⟩)
      go_roundw
      case rel =>
        refine ⟨k + 1, wrap32 (s + x), by go_num, by omega, rfl, hwb.1, hwb.2, Lib.hid T.out.2, ?_, hb.setCell hB _⟩
        have h3 := own.stored' k (wrap32 (s + x))
        rw [M.set_mid (by rw [M.integ_len, hl.out, List.length_replicate]) T.out.1] at h3
        exact h3
      case measure => simp [intOf]; omega
    · go_wp2
      go_ret
      rw [List.take_of_length_le (by rw [M.integ_len, hl.out]; omega), List.drop_eq_nil_of_le (by simp; omega), List.append_nil] at own
      exact ⟨_, rfl, own, hb⟩
theorem spec_l28Integrate (A : Option Addr) (n c : Nat) (xs : List Int) (w : World) (hx : RI w w.heap.size A n xs) (hn : n ≤ 1000000000) :
    Calls Try.prog 66 #[.slice A n c] w (Ret1 2 w (M.integ 0 xs)) := by
  have hl := Lib.hid hx.len
  go_enter Try.func66, Try.ntmps66
  go_wp2
  go_loopw [3, 4, 5] (fun v q i wr => ∃ (k : Nat) (s : Int), i = .int .i64 k ∧ k ≤ n ∧ q = .int .i64 s ∧ Hid ((M.integ 0 xs).drop k = M.integ s (xs.drop k)) ∧
      OI 2 w.heap.size wr v ((M.integ 0 xs).take k) ∧ Below w.heap.size w wr)
    (fun _ _ i _ => n - (intOf i).toNat)
  case atStart => exact ⟨0, 0, rfl, by omega, rfl, Lib.hid rfl, OI.made _ _, (Below.refl _ _).alloc (Nat.le_refl _) _⟩
  case round =>
    obtain ⟨k, s, rfl, hk, rfl, H, own, hb⟩ := hrel
    by_cases hlt : k < n
    · obtain ⟨ad, x, rfl, hab, X, hc⟩ := (hx.below hb).at hlt
      have T := Lib.hid (M.integ_step H.out X.out)
      have hk1 : ((M.integ 0 xs).take k).length ≤ 1000000000 := by rw [List.length_take]; omega
      go_wp2_with (first | (go_at_call 76; refine (spec_l01Add _ _ _).mono ?_; rintro e w' ⟨rfl, rfl⟩) | (at_builtin; refine wpList_push1 ei_i64 rfl _ _ rfl own rfl rfl rfl (by unfold maxLen; omega) (by omega) hb.size ?_; intro v1 w1 own1 gr1 bel1))
      go_roundw
      case rel => exact ⟨k + 1, wrap32 (s + x), by go_num, by omega, rfl, Lib.hid T.out.2, by rw [M.take_at T.out.1]; exact OI.push own1, hb.trans bel1⟩
      case measure => simp [intOf]; omega
    · go_wp2
      go_ret
      rw [List.take_of_length_le (by rw [M.integ_len, hl.out]; omega)] at own
      exact ⟨_, rfl, own, hb⟩
theorem spec_l28Sum (A : Option Addr) (n c : Nat) (xs : List Int) (m : Int) (w : World) (hx : RI w w.heap.size A n xs) (hn : n ≤ 1000000000) (hm : 1 ≤ m ∧ m ≤ 4000) :
    Calls Try.prog 55 #[.slice A n c, .int .i64 m] w (Ret1 2 w (M.sumL xs m)) := by
  obtain ⟨m, rfl⟩ := Int.eq_ofNat_of_zero_le (show 0 ≤ m by omega)
  have hl := Lib.hid hx.len
  go_enter Try.func55, Try.ntmps55
  go_wp2
  go_loopw [5, 6, 7] (fun v q i wr => ∃ (k : Nat) (s : Int), i = .int .i64 k ∧ k ≤ n ∧ q = .int .i64 s ∧ Hid (s = wrap32 ((xs.take k).sum - (xs.take (k - m)).sum)) ∧
      OI 2 w.heap.size wr v ((M.sumL xs m).take k) ∧ Below w.heap.size w wr)
    (fun _ _ i _ => n - (intOf i).toNat)
  case atStart => exact ⟨0, 0, rfl, by omega, rfl, Lib.hid (by simp [wrap32]), OI.made _ _, (Below.refl _ _).alloc (Nat.le_refl _) _⟩
  case round =>
    obtain ⟨k, s, rfl, hk, rfl, H, own, hb⟩ := hrel
    by_cases hlt : k < n
    · have hxr : RI wr wr.heap.size A n xs := (hx.below hb).more hb.size
      obtain ⟨ad, x, rfl, hab, X, hc⟩ := (hx.below hb).at hlt
      have T := Lib.hid (M.sum_step (n := m) (by omega) X.out)
      have T2 := Lib.hid (M.sumL_at (xs := xs) (n := m) (k := k) (by omega) (by rw [hl.out]; exact hlt))
      have hk1 : ((M.sumL xs m).take k).length ≤ 1000000000 := by rw [List.length_take]; omega
      go_wp2_with (first | (go_at_call 76; refine (spec_l01Add _ _ _).mono ?_; rintro e w' ⟨rfl, rfl⟩) | (go_at_call 78; refine (spec_l01Sub _ _ _).mono ?_; rintro e w' ⟨rfl, rfl⟩) | (go_at_call 79; refine (spec_l03At _ _ _ xs _ _ hxr (by omega)).mono ?_; rintro e w' ⟨rfl, rfl⟩) | (at_builtin; refine wpList_push1 ei_i64 rfl _ _ rfl own rfl rfl rfl (by unfold maxLen; omega) (by omega) hb.size ?_; intro v1 w1 own1 gr1 bel1))
      go_roundw
      case rel =>
        have e := T.out
        rw [← H.out] at e
        exact ⟨k + 1, _, by go_num, by omega, rfl, Lib.hid e, by rw [M.take_at T2.out, ← e]; exact OI.push own1, hb.trans bel1⟩
      case measure => simp [intOf]; omega
    · go_wp2
      go_ret
      rw [List.take_of_length_le (by rw [M.sumL_len, hl.out]; omega)] at own
      exact ⟨_, rfl, own, hb⟩
end Go.Proofs.Ytafbhangjeddaaa
