import Derived.Test.YtdllhkfbplpicaaW4
namespace Go.Proofs.Ytdllhkfbplpicaa
open Go.RowKit
set_option maxHeartbeats 400000
theorem impl_fold (x : Int) (w : World) (h : -2147483648 ≤ x ∧ x ≤ 2147483647) : Calls Try.prog 44 #[.int .i64 x] w fun e w' => e = .returned (.int .i64 (M.fold x)) ∧ w = w' := by
  by_cases hx : x < 0
  all_goals
    go_enter Try.func44, Try.ntmps44
    go_wp2
    go_ret
    exact ⟨ret_int (by unfold M.fold; (first | rw [if_pos hx] | rw [if_neg (by omega)])), rfl⟩
theorem spec_l29Fold (x : Int) (w : World) (h : -2147483648 ≤ x ∧ x ≤ 2147483647) : Calls Try.prog 42 #[.int .i64 x] w fun e w' => e = .returned (.int .i64 (M.fold x)) ∧ w = w' := by
  by_cases hx : x < 0
  all_goals
    go_enter Try.func42, Try.ntmps42
    go_wp2
    go_ret
    exact ⟨ret_int (by unfold M.fold; (first | rw [if_pos hx] | rw [if_neg (by omega)])), rfl⟩
theorem impl_unfold (n : Int) (w : World) : Calls Try.prog 40 #[.int .i64 n] w fun e w' => e = .returned (.int .i64 (M.unfold_ n)) ∧ w = w' := by
  by_cases hx : n.tmod 2 = 1
  · have H := Lib.hid (show wrap64 ((wrap64 (-wrap64 (n + 1))).tdiv 2) = M.unfold_ n by rw [M.unfold_, if_pos hx])
    have hb : (n.tmod 2 == 1) = true := by simpa using hx
    clear hx
    go_enter Try.func40, Try.ntmps40
    go_wp2
    go_ret
    exact ⟨ret_int H.out, rfl⟩
  · have H := Lib.hid (show wrap64 (n.tdiv 2) = M.unfold_ n by rw [M.unfold_, if_neg hx])
    have hb : (n.tmod 2 == 1) = false := by simpa using hx
    clear hx
    go_enter Try.func40, Try.ntmps40
    go_wp2
    go_ret
    exact ⟨ret_int H.out, rfl⟩
theorem spec_l29Unfold (n : Int) (w : World) : Calls Try.prog 38 #[.int .i64 n] w fun e w' => e = .returned (.int .i64 (M.unfold_ n)) ∧ w = w' := by
  by_cases hx : n.tmod 2 = 1
  · have H := Lib.hid (show wrap64 ((wrap64 (-wrap64 (n + 1))).tdiv 2) = M.unfold_ n by rw [M.unfold_, if_pos hx])
    have hb : (n.tmod 2 == 1) = true := by simpa using hx
    clear hx
    go_enter Try.func38, Try.ntmps38
    go_wp2
    go_ret
    exact ⟨ret_int H.out, rfl⟩
  · have H := Lib.hid (show wrap64 (n.tdiv 2) = M.unfold_ n by rw [M.unfold_, if_neg hx])
    have hb : (n.tmod 2 == 1) = false := by simpa using hx
    clear hx
    go_enter Try.func38, Try.ntmps38
    go_wp2
    go_ret
    exact ⟨ret_int H.out, rfl⟩
theorem impl_UnfoldSample (n : Int) (w : World) : Calls Try.prog 14 #[.int .i64 n] w fun e w' => e = .returned (.tuple #[.int .i64 (M.UnfoldSample n).1, .bool (M.UnfoldSample n).2]) ∧ w = w' := by
  cases h : M.inn n 0 4294967295
  · have R := Lib.hid (show M.UnfoldSample n = (0, false) by simp [M.UnfoldSample, h])
    go_enter Try.func14, Try.ntmps14
    go_wp2_with (first | (go_at_call 39; refine (impl_within _ _ _ _).mono ?_; rintro e w' ⟨rfl, rfl⟩) | (go_at_call 40; refine (impl_unfold _ _).mono ?_; rintro e w' ⟨rfl, rfl⟩))
    go_ret2
    rw [R.out]
    exact ⟨rfl, rfl⟩
  · have R := Lib.hid (show M.UnfoldSample n = (M.unfold_ n, true) by simp [M.UnfoldSample, h])
    go_enter Try.func14, Try.ntmps14
    go_wp2_with (first | (go_at_call 39; refine (impl_within _ _ _ _).mono ?_; rintro e w' ⟨rfl, rfl⟩) | (go_at_call 40; refine (impl_unfold _ _).mono ?_; rintro e w' ⟨rfl, rfl⟩))
    go_ret2
    rw [R.out]
    exact ⟨rfl, rfl⟩
theorem spec_UnfoldSample (n : Int) (w : World) : Calls Try.prog 13 #[.int .i64 n] w fun e w' => e = .returned (.tuple #[.int .i64 (M.UnfoldSample n).1, .bool (M.UnfoldSample n).2]) ∧ w = w' := by
  cases h : M.inn n 0 4294967295
  · have R := Lib.hid (show M.UnfoldSample n = (0, false) by simp [M.UnfoldSample, h])
    go_enter Try.func13, Try.ntmps13
    go_wp2_with (first | (go_at_call 37; refine (spec_l00In _ _ _ _).mono ?_; rintro e w' ⟨rfl, rfl⟩) | (go_at_call 38; refine (spec_l29Unfold _ _).mono ?_; rintro e w' ⟨rfl, rfl⟩))
    go_ret2
    rw [R.out]
    exact ⟨rfl, rfl⟩
  · have R := Lib.hid (show M.UnfoldSample n = (M.unfold_ n, true) by simp [M.UnfoldSample, h])
    go_enter Try.func13, Try.ntmps13
    go_wp2_with (first | (go_at_call 37; refine (spec_l00In _ _ _ _).mono ?_; rintro e w' ⟨rfl, rfl⟩) | (go_at_call 38; refine (spec_l29Unfold _ _).mono ?_; rintro e w' ⟨rfl, rfl⟩))
    go_ret2
    rw [R.out]
    exact ⟨rfl, rfl⟩
theorem impl_FoldSample (n : Int) (w : World) : Calls Try.prog 16 #[.int .i64 n] w fun e w' => e = .returned (.tuple #[.int .i64 (M.FoldSample n).1, .bool (M.FoldSample n).2]) ∧ w = w' := by
  cases h : M.smp n
  · have R := Lib.hid (show M.FoldSample n = (0, false) by simp [M.FoldSample, h])
    go_enter Try.func16, Try.ntmps16
    go_wp2_with (first | (go_at_call 43; refine (impl_isSample _ _).mono ?_; rintro e w' ⟨rfl, rfl⟩))
    go_ret2
    rw [R.out]
    exact ⟨rfl, rfl⟩
  · have R := Lib.hid (show M.FoldSample n = (M.fold n, true) by simp [M.FoldSample, h])
    have hb := M.smp_bd h
    go_enter Try.func16, Try.ntmps16
    go_wp2_with (first | (go_at_call 43; refine (impl_isSample _ _).mono ?_; rintro e w' ⟨rfl, rfl⟩) | (go_at_call 44; refine (impl_fold _ _ hb).mono ?_; rintro e w' ⟨rfl, rfl⟩))
    go_ret2
    rw [R.out]
    exact ⟨rfl, rfl⟩
theorem spec_FoldSample (n : Int) (w : World) : Calls Try.prog 15 #[.int .i64 n] w fun e w' => e = .returned (.tuple #[.int .i64 (M.FoldSample n).1, .bool (M.FoldSample n).2]) ∧ w = w' := by
  cases h : M.smp n
  · have R := Lib.hid (show M.FoldSample n = (0, false) by simp [M.FoldSample, h])
    go_enter Try.func15, Try.ntmps15
    go_wp2_with (first | (go_at_call 41; refine (spec_l01Sample _ _).mono ?_; rintro e w' ⟨rfl, rfl⟩))
    go_ret2
    rw [R.out]
    exact ⟨rfl, rfl⟩
  · have R := Lib.hid (show M.FoldSample n = (M.fold n, true) by simp [M.FoldSample, h])
    have hb := M.smp_bd h
    go_enter Try.func15, Try.ntmps15
    go_wp2_with (first | (go_at_call 41; refine (spec_l01Sample _ _).mono ?_; rintro e w' ⟨rfl, rfl⟩) | (go_at_call 42; refine (spec_l29Fold _ _ hb).mono ?_; rintro e w' ⟨rfl, rfl⟩))
    go_ret2
    rw [R.out]
    exact ⟨rfl, rfl⟩
theorem impl_isRice (n : Int) (w : World) :
    Calls Try.prog 52 #[.int .i64 n] w fun e w' => e = .returned (.bool (M.isRice n)) ∧ w = w' := by
  go_enter Try.func52, Try.ntmps52
  go_wp2_with (go_at_call 39; refine (impl_within _ _ _ _).mono ?_; rintro e w' ⟨rfl, rfl⟩)
  go_ret
  exact ⟨rfl, rfl⟩
theorem spec_l29Bits (x k : Int) (w : World) (h : -2147483648 ≤ x ∧ x ≤ 2147483647) (hk : 0 ≤ k ∧ k ≤ 30) : Calls Try.prog 74 #[.int .i64 x, .int .i64 k] w fun e w' => e = .returned (.int .i64 (M.bits x k)) ∧ w = w' := by
  have hf := M.fold_bd h
  have hd := M.div_bd k.toNat hf
  by_cases hq : M.fold x / 2 ^ k.toNat < 20
  all_goals
    go_enter Try.func74, Try.ntmps74
    go_wp2_with (first | (go_at_call 42; refine (spec_l29Fold _ _ h).mono ?_; rintro e w' ⟨rfl, rfl⟩))
    go_ret
    exact ⟨ret_int (by unfold M.bits; (first | rw [if_pos hq] | rw [if_neg (by omega)])), rfl⟩
theorem spec_l29Length (A : Option Addr) (n c : Nat) (xs : List Int) (m : Int) (w : World) (hx : RI w w.heap.size A n xs) (hs : ∀ x ∈ xs, M.smp x = true) (hn : n ≤ 4000) (hm : 0 ≤ m ∧ m ≤ 30) :
    Calls Try.prog 51 #[.slice A n c, .int .i64 m] w fun e w' => e = .returned (.int .i64 (M.riceLen xs m)) ∧ w = w' := by
  have HS := Lib.hid hs
  clear hs
  go_enter Try.func51, Try.ntmps51
  go_wp2
  go_loop [5, 6] (fun s i => ∃ (k : Nat) (t : Int), i = .int .i64 k ∧ k ≤ n ∧ s = .int .i64 t ∧ 0 ≤ t ∧ t ≤ 52 * k ∧ Hid (M.riceLen xs m = M.riceFrom m t (xs.drop k))) (fun _ i => n - (intOf i).toNat)
  case atStart => exact ⟨0, 0, rfl, by omega, rfl, by omega, by omega, Lib.hid rfl⟩
  case round =>
    obtain ⟨k, t, rfl, hk, rfl, ht0, ht, H⟩ := hrel
    by_cases hlt : k < n
    · obtain ⟨ad, x, rfl, hab, X, hc⟩ := hx.at hlt
      have hb := M.smp_bd (HS.out x (List.mem_of_getElem? X.out))
      have hbb := M.bits_bd hb hm
      go_wp2_with (go_at_call 74; refine (spec_l29Bits _ _ _ hb hm).mono ?_; rintro e w' ⟨rfl, rfl⟩)
      go_round
      case rel => exact ⟨k + 1, t + M.bits x m, by go_num, by omega, by go_num, by omega, by omega, Lib.hid (by rw [H.out, M.drop_at X.out]; rfl)⟩
      case measure => simp [intOf]; omega
    · have hl := Lib.hid hx.len
      go_wp2
      go_ret
      exact ⟨ret_int (by rw [H.out, List.drop_eq_nil_of_le (by rw [hl.out]; omega)]; rfl), rfl⟩
theorem impl_riceLength (A : Option Addr) (n c : Nat) (xs : List Int) (m : Int) (w : World) (hx : RI w w.heap.size A n xs) (hs : ∀ x ∈ xs, M.smp x = true) (hn : n ≤ 4000) (hm : 0 ≤ m ∧ m ≤ 30) :
    Calls Try.prog 53 #[.slice A n c, .int .i64 m] w fun e w' => e = .returned (.int .i64 (M.riceLen xs m)) ∧ w = w' := by
  have HS := Lib.hid hs
  clear hs
  go_enter Try.func53, Try.ntmps53
  go_wp2
  go_loop [5, 11] (fun s i => ∃ (k : Nat) (t : Int), i = .int .i64 k ∧ k ≤ n ∧ s = .int .i64 t ∧ 0 ≤ t ∧ t ≤ 52 * k ∧ Hid (M.riceLen xs m = M.riceFrom m t (xs.drop k))) (fun _ i => n - (intOf i).toNat)
  case atStart => exact ⟨0, 0, rfl, by omega, rfl, by omega, by omega, Lib.hid rfl⟩
  case round =>
    obtain ⟨k, t, rfl, hk, rfl, ht0, ht, H⟩ := hrel
    by_cases hlt : k < n
    · obtain ⟨ad, x, rfl, hab, X, hc⟩ := hx.at hlt
      have hb := M.smp_bd (HS.out x (List.mem_of_getElem? X.out))
      have hbb := M.bits_bd hb hm
      have hd := M.div_bd m.toNat (M.fold_bd hb)
      have hf := M.fold_bd hb
      by_cases hq : M.fold x / 2 ^ m.toNat < 20
      · have hbe := Lib.hid (show M.bits x m = M.fold x / 2 ^ m.toNat + 1 + m by rw [M.bits, if_pos hq])
        go_wp2_with (go_at_call 44; refine (impl_fold _ _ hb).mono ?_; rintro e w' ⟨rfl, rfl⟩)
        go_round
        case rel => exact ⟨k + 1, t + (M.fold x / 2 ^ m.toNat + 1 + m), by go_num, by omega, by go_num, by omega, by rw [← hbe.out]; omega, Lib.hid (by rw [H.out, M.drop_at X.out, ← hbe.out]; rfl)⟩
        case measure => simp [intOf]; omega
      · have hbe := Lib.hid (show M.bits x m = 52 by rw [M.bits, if_neg hq])
        go_wp2_with (go_at_call 44; refine (impl_fold _ _ hb).mono ?_; rintro e w' ⟨rfl, rfl⟩)
        go_round
        case rel => exact ⟨k + 1, t + 52, by go_num, by omega, by go_num, by omega, by omega, Lib.hid (by rw [H.out, M.drop_at X.out, ← hbe.out]; rfl)⟩
        case measure => simp [intOf]; omega
    · have hl := Lib.hid hx.len
      go_wp2
      go_ret
      exact ⟨ret_int (by rw [H.out, List.drop_eq_nil_of_le (by rw [hl.out]; omega)]; rfl), rfl⟩
theorem impl_bestRice (A : Option Addr) (n c : Nat) (xs : List Int) (w : World) (hx : RI w w.heap.size A n xs) (hs : ∀ x ∈ xs, M.smp x = true) (hn : n ≤ 4000) :
    Calls Try.prog 58 #[.slice A n c] w fun e w' => e = .returned (.tuple #[.int .i64 (M.best xs).1, .int .i64 (M.best xs).2]) ∧ w = w' := by
  have HS := Lib.hid hs
  clear hs
  go_enter Try.func58, Try.ntmps58
  go_wp2_with (go_at_call 53; refine (impl_riceLength _ _ _ _ _ _ hx HS.out hn (by omega)).mono ?_; rintro e w' ⟨rfl, rfl⟩)
  go_loop [4, 5, 6] (fun b l i => ∃ (k : Nat) (x y : Int), i = .int .i64 k ∧ 1 ≤ k ∧ k ≤ 31 ∧ b = .int .i64 x ∧ l = .int .i64 y ∧ Hid (M.best xs = M.bestGo xs (31 - k) k x y)) (fun _ _ i => 31 - (intOf i).toNat)
  case atStart => exact ⟨1, 0, M.riceLen xs 0, rfl, by omega, by omega, rfl, rfl, Lib.hid rfl⟩
  case round =>
    obtain ⟨k, x, y, rfl, hk1, hk, rfl, rfl, H⟩ := hrel
    by_cases hlt : k ≤ 30
    · by_cases hq : M.riceLen xs k < y
      · go_wp2_with (go_at_call 53; refine (impl_riceLength _ _ _ _ _ _ hx HS.out hn (by omega)).mono ?_; rintro e w' ⟨rfl, rfl⟩)
        go_round
        case rel => exact ⟨k + 1, k, M.riceLen xs k, by go_num, by omega, by omega, rfl, rfl, Lib.hid (by
          rw [H.out, show 31 - k = (31 - (k + 1)) + 1 by omega]
          simp only [M.bestGo, hq, if_true]
          rfl)⟩
        case measure => simp [intOf]; omega
      · go_wp2_with (go_at_call 53; refine (impl_riceLength _ _ _ _ _ _ hx HS.out hn (by omega)).mono ?_; rintro e w' ⟨rfl, rfl⟩)
        go_round
        case rel => exact ⟨k + 1, x, y, by go_num, by omega, by omega, rfl, rfl, Lib.hid (by
          rw [H.out, show 31 - k = (31 - (k + 1)) + 1 by omega]
          simp only [M.bestGo]
          rw [if_neg (by omega)]
          rfl)⟩
        case measure => simp [intOf]; omega
    · obtain rfl : k = 31 := by omega
      go_wp2
      go_ret2
      have e0 : M.best xs = (x, y) := by rw [H.out]; rfl
      rw [e0]
      exact ⟨rfl, rfl⟩
theorem spec_l29Best (A : Option Addr) (n c : Nat) (xs : List Int) (w : World) (hx : RI w w.heap.size A n xs) (hs : ∀ x ∈ xs, M.smp x = true) (hn : n ≤ 4000) :
    Calls Try.prog 56 #[.slice A n c] w fun e w' => e = .returned (.tuple #[.int .i64 (M.best xs).1, .int .i64 (M.best xs).2]) ∧ w = w' := by
  have HS := Lib.hid hs
  clear hs
  go_enter Try.func56, Try.ntmps56
  go_wp2_with (go_at_call 51; refine (spec_l29Length _ _ _ _ _ _ hx HS.out hn (by omega)).mono ?_; rintro e w' ⟨rfl, rfl⟩)
  go_loop [4, 5, 6] (fun b l i => ∃ (k : Nat) (x y : Int), i = .int .i64 k ∧ 1 ≤ k ∧ k ≤ 31 ∧ b = .int .i64 x ∧ l = .int .i64 y ∧ Hid (M.best xs = M.bestGo xs (31 - k) k x y)) (fun _ _ i => 31 - (intOf i).toNat)
  case atStart => exact ⟨1, 0, M.riceLen xs 0, rfl, by omega, by omega, rfl, rfl, Lib.hid rfl⟩
  case round =>
    obtain ⟨k, x, y, rfl, hk1, hk, rfl, rfl, H⟩ := hrel
    by_cases hlt : k ≤ 30
    · by_cases hq : M.riceLen xs k < y
      · go_wp2_with (go_at_call 51; refine (spec_l29Length _ _ _ _ _ _ hx HS.out hn (by omega)).mono ?_; rintro e w' ⟨rfl, rfl⟩)
        go_round
        case rel => exact ⟨k + 1, k, M.riceLen xs k, by go_num, by omega, by omega, rfl, rfl, Lib.hid (by
          rw [H.out, show 31 - k = (31 - (k + 1)) + 1 by omega]
          simp only [M.bestGo, hq, if_true]
          rfl)⟩
        case measure => simp [intOf]; omega
      · go_wp2_with (go_at_call 51; refine (spec_l29Length _ _ _ _ _ _ hx HS.out hn (by omega)).mono ?_; rintro e w' ⟨rfl, rfl⟩)
        go_round
        case rel => exact ⟨k + 1, x, y, by go_num, by omega, by omega, rfl, rfl, Lib.hid (by
          rw [H.out, show 31 - k = (31 - (k + 1)) + 1 by omega]
          simp only [M.bestGo]
          rw [if_neg (by omega)]
          rfl)⟩
        case measure => simp [intOf]; omega
    · obtain rfl : k = 31 := by omega
      go_wp2
      go_ret2
      have e0 : M.best xs = (x, y) := by rw [H.out]; rfl
      rw [e0]
      exact ⟨rfl, rfl⟩
theorem spec_RiceLength (A : Option Addr) (n c : Nat) (xs : List Int) (m : Int) (w : World) (hx : RI w w.heap.size A n xs) (hn : n ≤ 1000000000) :
    Calls Try.prog 23 #[.slice A n c, .int .i64 m] w fun e w' => e = .returned (.tuple #[.int .i64 (M.RiceLength xs m).1, .int .i64 (M.RiceLength xs m).2]) ∧ w = w' := by
  have hl := Lib.hid hx.len
  cases hs : M.sig xs
  · have R := Lib.hid (show M.RiceLength xs m = (0, 1) by simp [M.RiceLength, hs])
    go_enter Try.func23, Try.ntmps23
    go_wp2_with (go_at_call 45; refine (spec_l03Ok _ _ _ _ _ hx (by omega)).mono ?_; rintro e w' ⟨rfl, rfl⟩)
    go_ret2
    rw [R.out]
    exact ⟨rfl, rfl⟩
  · cases h1 : M.inn m 0 30
    · have R := Lib.hid (show M.RiceLength xs m = (0, 2) by simp [M.RiceLength, hs, M.isRice, h1])
      go_enter Try.func23, Try.ntmps23
      go_wp2_with (first | (go_at_call 45; refine (spec_l03Ok _ _ _ _ _ hx (by omega)).mono ?_; rintro e w' ⟨rfl, rfl⟩) | (go_at_call 37; refine (spec_l00In _ _ _ _).mono ?_; rintro e w' ⟨rfl, rfl⟩))
      go_ret2
      rw [R.out]
      exact ⟨rfl, rfl⟩
    · have R := Lib.hid (show M.RiceLength xs m = (M.riceLen xs m, 0) by simp [M.RiceLength, hs, M.isRice, h1])
      have h4 : n ≤ 4000 := by have := M.sig_len hs; rw [hl.out] at this; exact this
      go_enter Try.func23, Try.ntmps23
      go_wp2_with (first | (go_at_call 45; refine (spec_l03Ok _ _ _ _ _ hx (by omega)).mono ?_; rintro e w' ⟨rfl, rfl⟩) | (go_at_call 37; refine (spec_l00In _ _ _ _).mono ?_; rintro e w' ⟨rfl, rfl⟩) | (go_at_call 51; refine (spec_l29Length _ _ _ _ _ _ hx (M.sig_smp hs) h4 (M.inn_bd h1)).mono ?_; rintro e w' ⟨rfl, rfl⟩))
      go_ret2
      rw [R.out]
      exact ⟨rfl, rfl⟩
theorem impl_RiceLength (A : Option Addr) (n c : Nat) (xs : List Int) (m : Int) (w : World) (hx : RI w w.heap.size A n xs) (hn : n ≤ 1000000000) :
    Calls Try.prog 24 #[.slice A n c, .int .i64 m] w fun e w' => e = .returned (.tuple #[.int .i64 (M.RiceLength xs m).1, .int .i64 (M.RiceLength xs m).2]) ∧ w = w' := by
  have hl := Lib.hid hx.len
  cases hs : M.sig xs
  · have R := Lib.hid (show M.RiceLength xs m = (0, 1) by simp [M.RiceLength, hs])
    have hr : M.rate xs (M.isRice m) = 1 := by simp [M.rate, hs]
    go_enter Try.func24, Try.ntmps24
    go_wp2_with (first | (go_at_call 52; refine (impl_isRice _ _).mono ?_; rintro e w' ⟨rfl, rfl⟩) | (go_at_call 48; refine (impl_rateCode _ _ _ _ _ _ hx hn).mono ?_; rintro e w' ⟨rfl, rfl⟩))
    go_ret2
    rw [R.out]
    exact ⟨rfl, rfl⟩
  · cases h1 : M.isRice m
    · have R := Lib.hid (show M.RiceLength xs m = (0, 2) by simp [M.RiceLength, hs, h1])
      have hr : M.rate xs false = 2 := by simp [M.rate, hs]
      go_enter Try.func24, Try.ntmps24
      go_wp2_with (first | (go_at_call 52; refine (impl_isRice _ _).mono ?_; rintro e w' ⟨rfl, rfl⟩) | (go_at_call 48; refine (impl_rateCode _ _ _ _ _ _ hx hn).mono ?_; rintro e w' ⟨rfl, rfl⟩))
      go_ret2
      rw [R.out]
      exact ⟨rfl, rfl⟩
    · have R := Lib.hid (show M.RiceLength xs m = (M.riceLen xs m, 0) by simp [M.RiceLength, hs, h1])
      have hr : M.rate xs true = 0 := by simp [M.rate, hs]
      have h4 : n ≤ 4000 := by have := M.sig_len hs; rw [hl.out] at this; exact this
      go_enter Try.func24, Try.ntmps24
      go_wp2_with (first | (go_at_call 52; refine (impl_isRice _ _).mono ?_; rintro e w' ⟨rfl, rfl⟩) | (go_at_call 48; refine (impl_rateCode _ _ _ _ _ _ hx hn).mono ?_; rintro e w' ⟨rfl, rfl⟩) | (go_at_call 53; refine (impl_riceLength _ _ _ _ _ _ hx (M.sig_smp hs) h4 (M.inn_bd h1)).mono ?_; rintro e w' ⟨rfl, rfl⟩))
      go_ret2
      rw [R.out]
      exact ⟨rfl, rfl⟩
theorem impl_BestRice (A : Option Addr) (n c : Nat) (xs : List Int) (w : World) (hx : RI w w.heap.size A n xs) (hn : n ≤ 1000000000) :
    Calls Try.prog 28 #[.slice A n c] w fun e w' => e = .returned (.tuple #[.int .i64 (M.BestRice xs).1, .int .i64 (M.BestRice xs).2.1, .int .i64 (M.BestRice xs).2.2]) ∧ w = w' := by
  have hl := Lib.hid hx.len
  cases hs : M.sig xs
  · have R := Lib.hid (show M.BestRice xs = (0, 0, 1) by simp [M.BestRice, hs])
    go_enter Try.func28, Try.ntmps28
    go_wp2_with (go_at_call 57; refine (impl_isSignal _ _ _ _ _ hx (by omega)).mono ?_; rintro e w' ⟨rfl, rfl⟩)
    go_ret3
    rw [R.out]
    exact ⟨rfl, rfl⟩
  · have R := Lib.hid (show M.BestRice xs = ((M.best xs).1, (M.best xs).2, 0) by simp [M.BestRice, hs])
    have h4 : n ≤ 4000 := by have := M.sig_len hs; rw [hl.out] at this; exact this
    go_enter Try.func28, Try.ntmps28
    go_wp2_with (first | (go_at_call 57; refine (impl_isSignal _ _ _ _ _ hx (by omega)).mono ?_; rintro e w' ⟨rfl, rfl⟩) | (go_at_call 58; refine (impl_bestRice _ _ _ _ _ hx (M.sig_smp hs) h4).mono ?_; rintro e w' ⟨rfl, rfl⟩))
    go_ret3
    rw [R.out]
    exact ⟨rfl, rfl⟩
theorem spec_BestRice (A : Option Addr) (n c : Nat) (xs : List Int) (w : World) (hx : RI w w.heap.size A n xs) (hn : n ≤ 1000000000) :
    Calls Try.prog 27 #[.slice A n c] w fun e w' => e = .returned (.tuple #[.int .i64 (M.BestRice xs).1, .int .i64 (M.BestRice xs).2.1, .int .i64 (M.BestRice xs).2.2]) ∧ w = w' := by
  have hl := Lib.hid hx.len
  cases hs : M.sig xs
  · have R := Lib.hid (show M.BestRice xs = (0, 0, 1) by simp [M.BestRice, hs])
    go_enter Try.func27, Try.ntmps27
    go_wp2_with (go_at_call 45; refine (spec_l03Ok _ _ _ _ _ hx (by omega)).mono ?_; rintro e w' ⟨rfl, rfl⟩)
    go_ret3
    rw [R.out]
    exact ⟨rfl, rfl⟩
  · have R := Lib.hid (show M.BestRice xs = ((M.best xs).1, (M.best xs).2, 0) by simp [M.BestRice, hs])
    have h4 : n ≤ 4000 := by have := M.sig_len hs; rw [hl.out] at this; exact this
    go_enter Try.func27, Try.ntmps27
    go_wp2_with (first | (go_at_call 45; refine (spec_l03Ok _ _ _ _ _ hx (by omega)).mono ?_; rintro e w' ⟨rfl, rfl⟩) | (go_at_call 56; refine (spec_l29Best _ _ _ _ _ hx (M.sig_smp hs) h4).mono ?_; rintro e w' ⟨rfl, rfl⟩))
    go_ret3
    rw [R.out]
    exact ⟨rfl, rfl⟩
end Go.Proofs.Ytdllhkfbplpicaa
