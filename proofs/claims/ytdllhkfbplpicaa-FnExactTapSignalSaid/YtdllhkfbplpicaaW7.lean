import Derived.Test.YtdllhkfbplpicaaW6
namespace Go.Proofs.Ytdllhkfbplpicaa
open Go.RowKit
set_option maxHeartbeats 400000
set_option maxRecDepth 100000
theorem impl_integrate (A : Option Addr) (n c : Nat) (xs : List Int) (w : World) (hx : RI w w.heap.size A n xs) (hs : ∀ x ∈ xs, M.smp x = true) (hn : n ≤ 1000000000) :
    Calls Try.prog 55 #[.slice A n c] w (Ret1 2 w (M.integ 0 xs)) := by
  have hl := Lib.hid hx.len
  have HS := Lib.hid hs
  clear hs
  go_enter Try.func55, Try.ntmps55
  go_wp2_with (first | (go_at_call 63; refine (impl_size_int64 _ _ _ _).mono ?_; rintro e w' ⟨rfl, rfl⟩) | (go_at_call 76; refine (impl_zeros _ _ (by omega) (by omega)).mono ?_; rintro e w1 ⟨v1, rfl, own1, bel1⟩))
  obtain ⟨A1, c1, rfl, _⟩ := own1.shape
  rw [show ((n : Int)).toNat = n from Int.toNat_natCast n] at own1
  rw [List.length_replicate, show ((n : Int)).toNat = n from Int.toNat_natCast n]
  go_loopw [4, 5, 6, 12] (fun q _ _ i wr => ∃ (k : Nat) (s : Int), i = .int .i64 k ∧ k ≤ n ∧ q = .int .i64 s ∧ -2147483648 ≤ s ∧ s ≤ 2147483647 ∧ Hid ((M.integ 0 xs).drop k = M.integ s (xs.drop k)) ∧
      OI 2 w.heap.size wr (.slice A1 n c1) ((M.integ 0 xs).take k ++ (List.replicate n 0).drop k) ∧ Below w.heap.size w wr)
    (fun _ _ _ i _ => n - (intOf i).toNat)
  case atStart => exact ⟨0, 0, rfl, by omega, rfl, by omega, by omega, Lib.hid rfl, by simpa using own1, bel1⟩
  case round =>
    obtain ⟨k, s, rfl, hk, rfl, hs1, hs2, H, own, hb⟩ := hrel
    by_cases hlt : k < n
    · obtain ⟨ad, x, rfl, hab, X, hc⟩ := (hx.below hb).at hlt
      have hxb := M.smp_bd (HS.out x (List.mem_of_getElem? X.out))
      obtain ⟨g, rfl, hB, hgl⟩ := own.form' (by omega)
      obtain ⟨z, Z, hc2, hf2, _, _⟩ := own.at' hlt
      have hwb := M.wrap32_bd (s + x)
      have T := Lib.hid (M.integ_step H.out X.out)
      go_wp2_with (go_at_call 77; refine (impl_Wrap _ _).mono ?_; rintro e w' ⟨rfl, rfl⟩)
      go_roundw
      case rel =>
        refine ⟨k + 1, wrap32 (s + x), by go_num, by omega, rfl, hwb.1, hwb.2, Lib.hid T.out.2, ?_, hb.setCell hB _⟩
        have h3 := own.stored' k (wrap32 (s + x))
        rw [M.set_mid (by rw [M.integ_len, hl.out, List.length_replicate]) T.out.1] at h3
        exact h3
      case measure => simp [intOf]; omega
    · go_wp2
      go_ret
      rw [List.take_of_length_le (by rw [M.integ_len, hl.out]; omega), List.drop_eq_nil_of_le (by simp; omega), List.append_nil] at own
      exact ⟨_, rfl, own, hb⟩
theorem spec_l28Integrate (A : Option Addr) (n c : Nat) (xs : List Int) (w : World) (hx : RI w w.heap.size A n xs) (hn : n ≤ 1000000000) :
    Calls Try.prog 54 #[.slice A n c] w (Ret1 2 w (M.integ 0 xs)) := by
  have hl := Lib.hid hx.len
  go_enter Try.func54, Try.ntmps54
  go_wp2
  go_loopw [3, 4, 5] (fun v q i wr => ∃ (k : Nat) (s : Int), i = .int .i64 k ∧ k ≤ n ∧ q = .int .i64 s ∧ Hid ((M.integ 0 xs).drop k = M.integ s (xs.drop k)) ∧
      OI 2 w.heap.size wr v ((M.integ 0 xs).take k) ∧ Below w.heap.size w wr)
    (fun _ _ i _ => n - (intOf i).toNat)
  case atStart => exact ⟨0, 0, rfl, by omega, rfl, Lib.hid rfl, OI.made _ _, (Below.refl _ _).alloc (Nat.le_refl _) _⟩
  case round =>
    obtain ⟨k, s, rfl, hk, rfl, H, own, hb⟩ := hrel
    by_cases hlt : k < n
    · obtain ⟨ad, x, rfl, hab, X, hc⟩ := (hx.below hb).at hlt
      have T := Lib.hid (M.integ_step H.out X.out)
      have hk1 : ((M.integ 0 xs).take k).length ≤ 1000000000 := by rw [List.length_take]; omega
      go_wp2_with (first | (go_at_call 75; refine (spec_l01Add _ _ _).mono ?_; rintro e w' ⟨rfl, rfl⟩) | (at_builtin; refine wpList_push1 ei_i64 rfl _ _ rfl own rfl rfl rfl (by unfold maxLen; omega) (by omega) hb.size ?_; intro v1 w1 own1 gr1 bel1))
      go_roundw
      case rel => exact ⟨k + 1, wrap32 (s + x), by go_num, by omega, rfl, Lib.hid T.out.2, by rw [M.take_at T.out.1]; exact OI.push own1, hb.trans bel1⟩
      case measure => simp [intOf]; omega
    · go_wp2
      go_ret
      rw [List.take_of_length_le (by rw [M.integ_len, hl.out]; omega)] at own
      exact ⟨_, rfl, own, hb⟩
theorem impl_isOrder (n : Int) (w : World) :
    Calls Try.prog 69 #[.int .i64 n] w fun e w' => e = .returned (.bool (M.isOrder n)) ∧ w = w' := by
  go_enter Try.func69, Try.ntmps69
  go_wp2_with (go_at_call 39; refine (impl_within _ _ _ _).mono ?_; rintro e w' ⟨rfl, rfl⟩)
  go_ret
  exact ⟨rfl, rfl⟩
theorem impl_restore (A : Option Addr) (n c : Nat) (xs : List Int) (m : Int) (w : World) (hx : RI w w.heap.size A n xs) (hs : ∀ x ∈ xs, M.smp x = true) (hn : n ≤ 1000000000) (hm : 0 ≤ m ∧ m ≤ 6) :
    Calls Try.prog 70 #[.slice A n c, .int .i64 m] w (Ret1 2 w (M.iter (M.integ 0) m.toNat xs)) := by
  obtain ⟨m, rfl⟩ := Int.eq_ofNat_of_zero_le hm.1
  rw [Int.toNat_natCast]
  have hl := Lib.hid hx.len
  have HS := Lib.hid hs
  clear hs
  go_enter Try.func70, Try.ntmps70
  go_wp2_with (go_at_call 83; refine (impl_clone _ _ _ _ _ hx hn).mono ?_; rintro e w1 ⟨v1, rfl, own1, bel1⟩)
  go_loopw [5, 9] (fun v i wr => ∃ (k : Nat) (ys : List Int), i = .int .i64 k ∧ k ≤ m ∧ Hid (ys.length = n) ∧ Hid (∀ x ∈ ys, M.smp x = true) ∧ Hid (M.iter (M.integ 0) (m - k) ys = M.iter (M.integ 0) m xs) ∧
      OI 2 w.heap.size wr v ys ∧ Below w.heap.size w wr)
    (fun _ i _ => m - (intOf i).toNat)
  case atStart => exact ⟨0, xs, rfl, by omega, hl, HS, Lib.hid rfl, own1, bel1⟩
  case round =>
    obtain ⟨k, ys, rfl, hk, hyl, hys, H, own, hb⟩ := hrel
    by_cases hlt : k < m
    · obtain ⟨A1, c1, rfl, r1⟩ := own.shape
      have hy1 : ys.length ≤ 1000000000 := by rw [hyl.out]; exact hn
      go_wp2_with (go_at_call 55; refine (impl_integrate _ _ _ _ _ r1 hys.out hy1).mono ?_; rintro e w2 ⟨v2, rfl, own2, bel2⟩)
      go_roundw
      case rel => exact ⟨k + 1, M.integ 0 ys, by go_num, by omega, Lib.hid (by rw [M.integ_len]; exact hyl.out), Lib.hid (M.integ_smp _ _), Lib.hid (by have := H.out; rwa [show m - k = (m - (k + 1)) + 1 by omega] at this), own2.base hb.size, bel_trans' hb hb.size bel2⟩
      case measure => simp [intOf]; omega
    · obtain rfl : k = m := by omega
      go_wp2
      go_ret
      have e0 := H.out
      rw [Nat.sub_self] at e0
      exact ⟨_, rfl, by rw [← e0]; exact own, hb⟩
end Go.Proofs.Ytdllhkfbplpicaa
