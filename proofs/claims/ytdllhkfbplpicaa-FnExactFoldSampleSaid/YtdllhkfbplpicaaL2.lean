import Derived.Test.YtdllhkfbplpicaaW11
namespace Go.Proofs.Ytdllhkfbplpicaa
open Go.RowKit
set_option maxHeartbeats 1000000
set_option maxRecDepth 100000
theorem core_FnExactUnfoldSample (n : Int) (w : World) : Calls Try.prog 3 #[.int .i64 n] w fun e w' => e = .returned (.bool true) ∧ w = w' := by
  go_enter Try.func3, Try.ntmps3
  go_wp2_with (first | (go_at_call 13; refine (spec_UnfoldSample _ _).mono ?_; rintro e w' ⟨rfl, rfl⟩) | (go_at_call 14; refine (impl_UnfoldSample _ _).mono ?_; rintro e w' ⟨rfl, rfl⟩))
  go_ret
  exact ⟨rfl, rfl⟩
theorem core_FnExactFoldSample (n : Int) (w : World) : Calls Try.prog 4 #[.int .i64 n] w fun e w' => e = .returned (.bool true) ∧ w = w' := by
  go_enter Try.func4, Try.ntmps4
  go_wp2_with (first | (go_at_call 15; refine (spec_FoldSample _ _).mono ?_; rintro e w' ⟨rfl, rfl⟩) | (go_at_call 16; refine (impl_FoldSample _ _).mono ?_; rintro e w' ⟨rfl, rfl⟩))
  go_ret
  exact ⟨rfl, rfl⟩
theorem core_FnExactRiceLength (A : Option Addr) (n c : Nat) (xs : List Int) (m : Int) (w : World) (hx : RI w w.heap.size A n xs) :
    Calls Try.prog 6 #[.slice A n c, .int .i64 m] w fun e w' => e = .returned (.bool true) ∧ Below w.heap.size w w' := by
  have hl := Lib.hid hx.len
  by_cases hbig : 1048576 < n
  · go_enter Try.func6, Try.ntmps6
    go_wp2_with fail
    go_ret
    exact ⟨rfl, Below.refl _ _⟩
  have hn : n ≤ 100000000 := by omega
  have hxn : xs.length ≤ 100000000 := by rw [hl.out]; exact hn
  go_enter Try.func6, Try.ntmps6
  go_wp2_with fail
  refine (laws_toInt64S _ _ _ _ _ hx (by omega)).mono ?_
  rintro e w1 ⟨v, rfl, o1, b1⟩
  obtain ⟨A1, c1, rfl, r1⟩ := o1.shape
  go_wp2_with fail
  refine (spec_RiceLength _ _ _ _ _ _ r1 (by omega)).mono ?_
  rintro e w' ⟨rfl, rfl⟩
  go_wp2_with fail
  refine (laws_toInt64S _ _ _ _ _ (hx.later b1) (by omega)).mono ?_
  rintro e w3 ⟨v, rfl, o3, b3⟩
  obtain ⟨A3, c3, rfl, r3⟩ := o3.shape
  go_wp2_with fail
  refine (impl_RiceLength _ _ _ _ _ _ r3 (by omega)).mono ?_
  rintro e w' ⟨rfl, rfl⟩
  have h3 := bel_trans b1 b3
  go_wp2_with fail
  refine (laws_toInt64S _ _ _ _ _ (hx.later h3) (by omega)).mono ?_
  rintro e w6 ⟨v, rfl, o6, b6⟩
  obtain ⟨A6, c6, rfl, r6⟩ := o6.shape
  go_wp2_with fail
  refine (laws_eqInt64S _ _ _ _ _ _ _ _ _ (r3.later b6) r6 (by omega)).mono ?_
  rintro e w7 ⟨rfl, b7⟩
  rw [decide_eq_true (rfl : xs = xs)]
  go_wp2_with fail
  go_ret
  exact ⟨rfl, bel_trans h3 (bel_trans b6 b7)⟩
theorem core_FnExactBestRice (A : Option Addr) (n c : Nat) (xs : List Int) (w : World) (hx : RI w w.heap.size A n xs) :
    Calls Try.prog 8 #[.slice A n c] w fun e w' => e = .returned (.bool true) ∧ Below w.heap.size w w' := by
  have hl := Lib.hid hx.len
  by_cases hbig : 1048576 < n
  · go_enter Try.func8, Try.ntmps8
    go_wp2_with fail
    go_ret
    exact ⟨rfl, Below.refl _ _⟩
  have hn : n ≤ 100000000 := by omega
  have hxn : xs.length ≤ 100000000 := by rw [hl.out]; exact hn
  go_enter Try.func8, Try.ntmps8
  go_wp2_with fail
  refine (laws_toInt64S _ _ _ _ _ hx (by omega)).mono ?_
  rintro e w1 ⟨v, rfl, o1, b1⟩
  obtain ⟨A1, c1, rfl, r1⟩ := o1.shape
  go_wp2_with fail
  refine (spec_BestRice _ _ _ _ _ r1 (by omega)).mono ?_
  rintro e w' ⟨rfl, rfl⟩
  go_wp2_with fail
  refine (laws_toInt64S _ _ _ _ _ (hx.later b1) (by omega)).mono ?_
  rintro e w3 ⟨v, rfl, o3, b3⟩
  obtain ⟨A3, c3, rfl, r3⟩ := o3.shape
  go_wp2_with fail
  refine (impl_BestRice _ _ _ _ _ r3 (by omega)).mono ?_
  rintro e w' ⟨rfl, rfl⟩
  have h3 := bel_trans b1 b3
  go_wp2_with fail
  refine (laws_toInt64S _ _ _ _ _ (hx.later h3) (by omega)).mono ?_
  rintro e w6 ⟨v, rfl, o6, b6⟩
  obtain ⟨A6, c6, rfl, r6⟩ := o6.shape
  go_wp2_with fail
  refine (laws_eqInt64S _ _ _ _ _ _ _ _ _ (r3.later b6) r6 (by omega)).mono ?_
  rintro e w7 ⟨rfl, b7⟩
  rw [decide_eq_true (rfl : xs = xs)]
  go_wp2_with fail
  go_ret
  exact ⟨rfl, bel_trans h3 (bel_trans b6 b7)⟩
end Go.Proofs.Ytdllhkfbplpicaa
