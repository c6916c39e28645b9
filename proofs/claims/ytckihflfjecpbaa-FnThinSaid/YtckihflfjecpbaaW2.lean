import Derived.Test.YtckihflfjecpbaaW1
namespace Go.Proofs.Ytckihflfjecpbaa
open Go.RowKit
set_option maxHeartbeats 400000
theorem impl_size_int64 (A : Option Addr) (n c : Nat) (w : World) : Calls Try.prog 93 #[.slice A n c] w fun e w' => e = .returned (.int .i64 n) ∧ w = w' := by
  go_enter Try.func93, Try.ntmps93
  go_wp2
  go_ret
  exact ⟨rfl, rfl⟩
theorem impl_areSamples (A : Option Addr) (n c : Nat) (xs : List Int) (w : World) (hx : RI w w.heap.size A n xs) (hn : n ≤ 1000000000000) :
    Calls Try.prog 136 #[.slice A n c] w fun e w' => e = .returned (.bool (xs.all M.smp)) ∧ w = w' := by
  go_enter Try.func136, Try.ntmps136
  go_wp2
  go_loop [7] (fun i => ∃ k : Nat, i = .int .i64 k ∧ k ≤ n ∧ Hid (xs.all M.smp = (xs.drop k).all M.smp)) (fun i => n - (intOf i).toNat)
  case atStart => exact ⟨0, rfl, by omega, Lib.hid (by simp)⟩
  case round =>
    obtain ⟨k, rfl, hk, H⟩ := hrel
    have hl := Lib.hid hx.len
    by_cases hlt : k < n
    · obtain ⟨ad, x, rfl, hab, X, hc⟩ := hx.at hlt
      have hd := Lib.hid (M.drop_at X.out)
      cases hs : M.smp x
      · go_wp2_with (go_at_call 144; refine (impl_isSample _ _).mono ?_; rintro e w' ⟨rfl, rfl⟩)
        go_ret
        exact ⟨by rw [H.out, hd.out]; simp [hs], rfl⟩
      · go_wp2_with (go_at_call 144; refine (impl_isSample _ _).mono ?_; rintro e w' ⟨rfl, rfl⟩)
        go_round
        case rel => exact ⟨k + 1, by go_num, by omega, Lib.hid (by rw [H.out, hd.out]; simp [hs])⟩
        case measure => simp [intOf]; omega
    · go_wp2
      go_ret
      have e0 : xs.drop k = [] := List.drop_eq_nil_of_le (by rw [hl.out]; omega)
      exact ⟨by rw [H.out, e0]; rfl, rfl⟩
theorem impl_isSignal (A : Option Addr) (n c : Nat) (xs : List Int) (w : World) (hx : RI w w.heap.size A n xs) (hn : n ≤ 1000000000000) :
    Calls Try.prog 91 #[.slice A n c] w fun e w' => e = .returned (.bool (M.sig xs)) ∧ w = w' := by
  have hl := Lib.hid hx.len
  by_cases hlen : n ≤ 4000
  · go_enter Try.func91, Try.ntmps91
    go_wp2_with (go_at_call 136; refine (impl_areSamples _ _ _ _ _ hx hn).mono ?_; rintro e w' ⟨rfl, rfl⟩)
    go_ret
    exact ⟨by simp [M.sig, hl.out, hlen], rfl⟩
  · go_enter Try.func91, Try.ntmps91
    go_wp2_with fail
    go_ret
    exact ⟨by simp [M.sig, hl.out]; omega, rfl⟩
theorem spec_l03Ok (A : Option Addr) (n c : Nat) (xs : List Int) (w : World) (hx : RI w w.heap.size A n xs) (hn : n ≤ 1000000000000) :
    Calls Try.prog 97 #[.slice A n c] w fun e w' => e = .returned (.bool (M.sig xs)) ∧ w = w' := by
  have hl := Lib.hid hx.len
  by_cases hlen : n ≤ 4000
  · go_enter Try.func97, Try.ntmps97
    go_wp2
    go_loop [3] (fun i => ∃ k : Nat, i = .int .i64 k ∧ k ≤ n ∧ Hid (xs.all M.smp = (xs.drop k).all M.smp)) (fun i => n - (intOf i).toNat)
    case atStart => exact ⟨0, rfl, by omega, Lib.hid (by simp)⟩
    case round =>
      obtain ⟨k, rfl, hk, H⟩ := hrel
      by_cases hlt : k < n
      · obtain ⟨ad, x, rfl, hab, X, hc⟩ := hx.at hlt
        have hd := Lib.hid (M.drop_at X.out)
        cases hs : M.smp x
        · go_wp2_with (go_at_call 137; refine (spec_l01Sample _ _).mono ?_; rintro e w' ⟨rfl, rfl⟩)
          go_ret
          exact ⟨by rw [M.sig, H.out, hd.out]; simp [hs], rfl⟩
        · go_wp2_with (go_at_call 137; refine (spec_l01Sample _ _).mono ?_; rintro e w' ⟨rfl, rfl⟩)
          go_round
          case rel => exact ⟨k + 1, by go_num, by omega, Lib.hid (by rw [H.out, hd.out]; simp [hs])⟩
          case measure => simp [intOf]; omega
      · go_wp2
        go_ret
        have e0 : xs.drop k = [] := List.drop_eq_nil_of_le (by rw [hl.out]; omega)
        exact ⟨by rw [M.sig, H.out, e0, hl.out]; simp [hlen], rfl⟩
  · go_enter Try.func97, Try.ntmps97
    go_wp2
    go_ret
    exact ⟨by simp [M.sig, hl.out]; omega, rfl⟩
theorem impl_at (A : Option Addr) (n c : Nat) (xs : List Int) (i : Int) (w : World) (hx : RI w w.heap.size A n xs) (hn : n ≤ 1000000000000) (h0 : 0 ≤ i) :
    Calls Try.prog 152 #[.slice A n c, .int .i64 i] w fun e w' => e = .returned (.int .i64 (M.at_ xs i)) ∧ w = w' := by
  have hl := Lib.hid hx.len
  obtain ⟨k, rfl⟩ := Int.eq_ofNat_of_zero_le h0
  by_cases hlt : k < n
  · obtain ⟨ad, x, rfl, hab, X, hc⟩ := hx.at hlt
    go_enter Try.func152, Try.ntmps152
    go_wp2_with (go_at_call 93; refine (impl_size_int64 _ _ _ _).mono ?_; rintro e w' ⟨rfl, rfl⟩)
    go_ret
    exact ⟨ret_int (M.at_nat X.out).symm, rfl⟩
  · go_enter Try.func152, Try.ntmps152
    go_wp2_with (go_at_call 93; refine (impl_size_int64 _ _ _ _).mono ?_; rintro e w' ⟨rfl, rfl⟩)
    go_ret
    exact ⟨ret_int (by simp [M.at_, hl.out, hlt]), rfl⟩
theorem spec_l03At (A : Option Addr) (n c : Nat) (xs : List Int) (i : Int) (w : World) (hx : RI w w.heap.size A n xs) (hn : n ≤ 1000000000000) :
    Calls Try.prog 148 #[.slice A n c, .int .i64 i] w fun e w' => e = .returned (.int .i64 (M.at_ xs i)) ∧ w = w' := by
  have hl := Lib.hid hx.len
  by_cases hlt : 0 ≤ i ∧ i < n
  · obtain ⟨k, rfl⟩ := Int.eq_ofNat_of_zero_le hlt.1
    have hkn : k < n := by omega
    obtain ⟨ad, x, rfl, hab, X, hc⟩ := hx.at hkn
    have hi : M.inn k 0 (n - 1) = true := by simp [M.inn]; omega
    go_enter Try.func148, Try.ntmps148
    go_wp2_with (go_at_call 79; refine (spec_l00In _ _ _ _).mono ?_; rintro e w' ⟨rfl, rfl⟩)
    go_ret
    exact ⟨ret_int (M.at_nat X.out).symm, rfl⟩
  · have hi : M.inn i 0 (n - 1) = false := by simp [M.inn]; omega
    have ha := Lib.hid (show M.at_ xs i = 0 by rw [M.at_, hl.out, if_neg hlt])
    clear hlt
    go_enter Try.func148, Try.ntmps148
    go_wp2_with (go_at_call 79; refine (spec_l00In _ _ _ _).mono ?_; rintro e w' ⟨rfl, rfl⟩)
    go_ret
    exact ⟨ret_int ha.out.symm, rfl⟩
theorem impl_zeros (i : Int) (w : World) (h0 : 0 ≤ i) (hi : i ≤ 1000000000) :
    Calls Try.prog 92 #[.int .i64 i] w fun e w' => ∃ v, e = .returned v ∧ OI 2 w.heap.size w' v (List.replicate i.toNat 0) ∧ Below w.heap.size w w' := by
  obtain ⟨n, rfl⟩ := Int.eq_ofNat_of_zero_le h0
  go_enter Try.func92, Try.ntmps92
  go_wp2_with (at_make; refine wpList_mk ei_i64 rfl _ _ rfl n _ _ rfl rfl rfl rfl (by omega) (by unfold maxLen; omega) ?_; intro w1 own1 bel1)
  go_ret
  refine ⟨_, rfl, ?_, bel1⟩
  unfold OI
  have := toList_madeCells_one (.int .i64 0) n
  simp only [Nat.mul_one, Value.cells] at own1
  rw [this] at own1
  simpa using own1
end Go.Proofs.Ytckihflfjecpbaa
