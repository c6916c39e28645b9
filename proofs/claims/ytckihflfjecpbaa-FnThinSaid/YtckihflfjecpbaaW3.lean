import Derived.Test.YtckihflfjecpbaaW2
namespace Go.Proofs.Ytckihflfjecpbaa
open Go.RowKit
set_option maxHeartbeats 400000
theorem laws_toInt64S (A : Option Addr) (n c : Nat) (xs : List Int) (w : World) (hx : RI w w.heap.size A n xs) (hn : n ≤ 1000000000) :
    Calls Try.prog 41 #[.slice A n c] w fun e w' => ∃ v, e = .returned v ∧ OI 2 w.heap.size w' v xs ∧ Below w.heap.size w w' := by
  have hl := Lib.hid hx.len
  go_enter Try.func41, Try.ntmps41
  go_wp2_with (at_make; refine wpList_mk ei_i64 rfl _ _ rfl n _ _ rfl rfl rfl rfl (by omega) (by unfold maxLen; omega) ?_; intro w1 own1 bel1)
  have own2 : OI 2 w.heap.size w1 (.slice (some ⟨w.heap.size, 0, none⟩) n n) (List.replicate n 0) := by
    unfold OI
    have := toList_madeCells_one (.int .i64 0) n
    simp only [Nat.mul_one, Value.cells] at own1
    rw [this] at own1
    simpa using own1
  clear own1
  go_loopw [4] (fun i wr => ∃ k : Nat, i = .int .i64 k ∧ k ≤ n ∧ OI 2 w.heap.size wr (.slice (some ⟨w.heap.size, 0, none⟩) n n) (xs.take k ++ (List.replicate n 0).drop k) ∧ Below w.heap.size w wr)
    (fun i _ => n - (intOf i).toNat)
  case atStart => exact ⟨0, rfl, by omega, by simpa using own2, bel1⟩
  case round =>
    obtain ⟨k, rfl, hk, own, hb⟩ := hrel
    by_cases hlt : k < n
    · obtain ⟨ad, x, rfl, hab, X, hc⟩ := (hx.below hb).at hlt
      obtain ⟨y, Y, hc2, hf2, hg, hgl⟩ := own.at' hlt
      go_wp2
      go_roundw
      case rel =>
        refine ⟨k + 1, by go_num, by omega, ?_, hb.setCell (Nat.le_refl _) _⟩
        have h3 := own.stored' k x
        rw [M.set_mid (by simp [hl.out]) X.out] at h3
        exact h3
      case measure => simp [intOf]; omega
    · go_wp2
      go_ret
      have e0 : xs.take k ++ (List.replicate n 0).drop k = xs := by rw [List.take_of_length_le (by rw [hl.out]; omega), List.drop_eq_nil_of_le (by simp; omega), List.append_nil]
      rw [e0] at own
      exact ⟨_, rfl, own, hb⟩
theorem laws_eqInt64S (A A' : Option Addr) (n c n' c' : Nat) (xs ys : List Int) (w : World) (hx : RI w w.heap.size A n xs) (hy : RI w w.heap.size A' n' ys) (hn : n ≤ 1000000000) :
    Calls Try.prog 29 #[.slice A n c, .slice A' n' c'] w fun e w' => e = .returned (.bool (decide (xs = ys))) ∧ Below w.heap.size w w' := by
  have hl := Lib.hid hx.len
  have hl' := Lib.hid hy.len
  by_cases hnn : n = n'
  · subst hnn
    go_enter Try.func29, Try.ntmps29
    go_wp2
    go_loopw [5] (fun i wr => ∃ k : Nat, i = .int .i64 k ∧ k ≤ n ∧ Hid (xs.take k = ys.take k) ∧ Below w.heap.size w wr) (fun i _ => n - (intOf i).toNat)
    case atStart => exact ⟨0, rfl, by omega, Lib.hid (by simp), Below.refl _ _⟩
    case round =>
      obtain ⟨k, rfl, hk, H, hb⟩ := hrel
      by_cases hlt : k < n
      · obtain ⟨ad, x, rfl, hab, X, hc⟩ := (hx.below hb).at hlt
        obtain ⟨ad', y, rfl, hab', Y, hc'⟩ := (hy.below hb).at hlt
        by_cases hxy : x = y
        · subst hxy
          go_wp2
          go_quiet (fail)
          go_wp2
          go_roundw
          case rel => exact ⟨k + 1, by go_num, by omega, Lib.hid (by rw [M.take_at X.out, M.take_at Y.out, H.out]), hb.trans (below_drewN (Below.refl _ _) _)⟩
          case measure => simp [intOf]; omega
        · have hne := Lib.hid (show ¬ xs = ys from fun e => hxy (by have h1 := X.out; have h2 := Y.out; rw [e, h2] at h1; injection h1 with h1; exact h1.symm))
          have hxy' : (x == y) = false := by simpa using hxy
          clear hxy
          go_wp2
          go_quiet (fail)
          go_wp2
          go_ret
          exact ⟨ret_bool (by simp [hne.out]), hb.trans (below_drewN (Below.refl _ _) _)⟩
      · go_wp2
        go_ret
        have h1 : xs = ys := by have := H.out; rwa [List.take_of_length_le (by rw [hl.out]; omega), List.take_of_length_le (by rw [hl'.out]; omega)] at this
        exact ⟨ret_bool (by simp [h1]), hb⟩
  · have hne := Lib.hid (show ¬ xs = ys from fun e => hnn (by rw [← hl.out, ← hl'.out, e]))
    go_enter Try.func29, Try.ntmps29
    go_wp2
    go_ret
    exact ⟨ret_bool (by simp [hne.out]), Below.refl _ _⟩
theorem laws_markInt64S (v : Value) (B n : Nat) (k : Int) (xs : List Int) (w : World) (hx : OI 2 B w v xs) (hn : xs.length = n) (hl : n ≤ 1000000000) (hk : 0 ≤ k ∧ k ≤ 1000000000) :
    Calls Try.prog 30 #[v, .int .i64 k] w fun e w' => e = .returned (.int .i64 (k + n)) ∧ OI 2 B w' v (M.ramp k n) ∧ w.grownBy w' v.ownBlock := by
  have hl' := Lib.hid hn
  obtain ⟨A, c, rfl, hrr⟩ := hx.shape
  rw [hn] at hx ⊢
  clear hrr hn
  go_enter Try.func30, Try.ntmps30
  go_wp2
  go_loopw [1, 5] (fun q i wr => ∃ j : Nat, i = .int .i64 j ∧ j ≤ n ∧ q = .int .i64 (k + j) ∧ OI 2 B wr (.slice A n c) ((M.ramp k n).take j ++ xs.drop j) ∧ w.grownBy wr (Value.slice A n c).ownBlock)
    (fun _ i _ => n - (intOf i).toNat)
  case atStart => exact ⟨0, rfl, by omega, by go_num, by simpa using hx, World.grownBy.refl _ _⟩
  case round =>
    obtain ⟨j, rfl, hj, rfl, own, hg⟩ := hrel
    by_cases hlt : j < n
    · obtain ⟨g, rfl, hB, hgl⟩ := own.form' (by omega)
      obtain ⟨y, Y, hc2, hf2, _, _⟩ := own.at' hlt
      go_wp2
      go_roundw
      case rel =>
        refine ⟨j + 1, by go_num, by omega, by go_num, ?_, grown_trans hg (grown_setCell _ _ _ _)⟩
        have h3 := own.stored' j (k + (j : Int))
        rw [M.set_mid (by rw [M.ramp_len, hl'.out]) (M.ramp_at hlt)] at h3
        simpa using h3
      case measure => simp [intOf]; omega
    · obtain rfl : j = n := by omega
      go_wp2
      go_ret
      refine ⟨rfl, ?_, hg⟩
      rw [List.take_of_length_le (by rw [M.ramp_len]; omega), List.drop_eq_nil_of_le (by rw [hl'.out]; omega), List.append_nil] at own
      exact own
theorem laws_heldInt64S (A : Option Addr) (n c : Nat) (k : Int) (w : World) (hx : RI w w.heap.size A n (M.ramp k n)) (hn : n ≤ 1000000000) (hk : 0 ≤ k ∧ k ≤ 1000000000) :
    Calls Try.prog 31 #[.slice A n c, .int .i64 k] w fun e w' => e = .returned (.int .i64 (k + n)) ∧ w = w' := by
  go_enter Try.func31, Try.ntmps31
  go_wp2
  go_loop [1, 5] (fun q i => ∃ j : Nat, i = .int .i64 j ∧ j ≤ n ∧ q = .int .i64 (k + j)) (fun _ i => n - (intOf i).toNat)
  case atStart => exact ⟨0, rfl, by omega, by go_num⟩
  case round =>
    obtain ⟨j, rfl, hj, rfl⟩ := hrel
    by_cases hlt : j < n
    · obtain ⟨ad, x, rfl, hab, X, hc⟩ := hx.at hlt
      have hxj : x = k + (j : Int) := by have := X.out; rw [M.ramp_at hlt] at this; injection this with this; exact this.symm
      subst hxj
      go_wp2
      go_round
      case rel => exact ⟨j + 1, by go_num, by omega, by go_num⟩
      case measure => simp [intOf]; omega
    · obtain rfl : j = n := by omega
      go_wp2
      go_ret
      exact ⟨rfl, rfl⟩
end Go.Proofs.Ytckihflfjecpbaa
