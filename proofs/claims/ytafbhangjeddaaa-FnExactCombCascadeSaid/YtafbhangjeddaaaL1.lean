import Derived.Test.YtafbhangjeddaaaW11
namespace Go.Proofs.Ytafbhangjeddaaa
open Go.RowKit
set_option maxHeartbeats 1000000
theorem core_FnExactHoldSignal (A : Option Addr) (n c : Nat) (xs : List Int) (f : Int) (zs : List Int) (q : Int) (w : World) (hx : RI w w.heap.size A n xs) (hz : zs.length ≤ 100000000)
    (hS : ∀ A n c w, RI w w.heap.size A n xs → n ≤ 1000000000 → Calls Try.prog 12 #[.slice A n c, .int .i64 f] w (Ret2 2 w (zs, q)))
    (hI : ∀ A n c w, RI w w.heap.size A n xs → n ≤ 1000000000 → Calls Try.prog 14 #[.slice A n c, .int .i64 f] w (Ret2 2 w (zs, q))) :
    Calls Try.prog 3 #[.slice A n c, .int .i64 f] w fun e w' => e = .returned (.bool true) ∧ Below w.heap.size w w' := by
  have HS := Lib.hid hS
  have HI := Lib.hid hI
  have hl := Lib.hid hx.len
  clear hS hI
  by_cases hbig : 1048576 < n
  · go_enter Try.func3, Try.ntmps3
    go_wp2_with fail
    go_ret
    exact ⟨rfl, Below.refl _ _⟩
  have hn : n ≤ 100000000 := by omega
  have hxn : xs.length ≤ 100000000 := by rw [hl.out]; exact hn
  go_enter Try.func3, Try.ntmps3
  go_wp2_with fail
  refine (laws_toInt64S _ _ _ _ _ hx (by omega)).mono ?_
  rintro e w1 ⟨v, rfl, o1, b1⟩
  obtain ⟨A1, c1, rfl, r1⟩ := o1.shape
  go_wp2_with fail
  refine (HS.out _ _ _ _ r1 (by omega)).mono ?_
  rintro e w2 ⟨v, rfl, o2, b2⟩
  obtain ⟨A2, c2, rfl, r2⟩ := o2.shape
  have g2 := bel_trans b1 b2
  go_wp2_with fail
  refine (laws_toInt64S _ _ _ _ _ (hx.later g2) (by omega)).mono ?_
  rintro e w3 ⟨v, rfl, o3, b3⟩
  obtain ⟨A3, c3, rfl, r3⟩ := o3.shape
  go_wp2_with fail
  refine (HI.out _ _ _ _ r3 (by omega)).mono ?_
  rintro e w4 ⟨v, rfl, o4, b4⟩
  obtain ⟨A4, c4, rfl, r4⟩ := o4.shape
  have g4 := bel_trans b3 b4
  go_wp2_with fail
  refine (laws_eqInt64S _ _ _ _ _ _ _ _ _ r4 (r2.later g4) (by omega)).mono ?_
  rintro e w5 ⟨rfl, b5⟩
  rw [decide_eq_true (rfl : zs = zs)]
  have g5 := bel_trans g4 b5
  have h5 := bel_trans g2 g5
  go_wp2_with fail
  refine (laws_toInt64S _ _ _ _ _ (hx.later h5) (by omega)).mono ?_
  rintro e w6 ⟨v, rfl, o6, b6⟩
  obtain ⟨A6, c6, rfl, r6⟩ := o6.shape
  go_wp2_with fail
  have g36 := bel_trans (bel_trans b4 b5) b6
  refine (laws_eqInt64S _ _ _ _ _ _ _ _ _ (r3.later g36) r6 (by omega)).mono ?_
  rintro e w7 ⟨rfl, b7⟩
  rw [decide_eq_true (rfl : xs = xs)]
  have g37 := bel_trans g36 b7
  have g47 := bel_trans (bel_trans b5 b6) b7
  have g27 := bel_trans g5 (bel_trans b6 b7)
  have g7 := bel_trans h5 (bel_trans b6 b7)
  go_wp2_with fail
  refine (laws_markInt64S _ _ _ _ _ _ (o3.below g37) rfl (by omega) (by omega)).mono ?_
  rintro e w8 ⟨rfl, o8, m8⟩
  have own2 : OI 2 w1.heap.size w8 _ zs := OI.keptL o2 o3 (Nat.le_refl _) (o2.below g27) m8
  have own4 : OI 2 w3.heap.size w8 _ zs := OI.keptR o4 o3 (Nat.le_refl _) (o4.below g47) m8
  have g8 : Below w.heap.size w w8 := bel_row g7 (o3.below g37) g2.size g7.size m8
  have e8 : w7.heap.size ≤ w8.heap.size := m8.size
  clear m8 o8 o3 r3
  go_wp2_with fail
  refine (laws_eqInt64S _ _ _ _ _ _ _ _ _ own4.ri own2.ri (by omega)).mono ?_
  rintro e w9 ⟨rfl, b9⟩
  rw [decide_eq_true (rfl : zs = zs)]
  go_wp2_with fail
  refine (laws_markInt64S _ _ _ _ _ _ (own4.below b9) rfl (by omega) (by omega)).mono ?_
  rintro e w10 ⟨rfl, o10, m10⟩
  have own2' : OI 2 w1.heap.size w10 _ zs := OI.keptL o2 o4 b3.size (own2.below b9) m10
  have g10 : Below w.heap.size w w10 := bel_row (bel_trans g8 b9) (own4.below b9) (bel_trans g2 b3).size (bel_trans g8 b9).size m10
  have hr10 : RI w10 w10.heap.size A4 zs.length (M.ramp 1 zs.length) := by
    have h := OI.ri (xs := M.ramp 1 zs.length) (A := A4) (c := c4) (by rw [M.ramp_len]; exact o10)
    rwa [M.ramp_len] at h
  go_wp2_with fail
  refine (laws_heldInt64S _ _ _ _ _ hr10 (by omega) (by omega)).mono ?_
  rintro e w' ⟨rfl, rfl⟩
  go_wp2_with fail
  refine (laws_toInt64S _ _ _ _ _ (hx.later g10) (by omega)).mono ?_
  rintro e w11 ⟨v, rfl, o11, b11⟩
  obtain ⟨A11, c11, rfl, r11⟩ := o11.shape
  go_wp2_with fail
  refine (HI.out _ _ _ _ r11 (by omega)).mono ?_
  rintro e w12 ⟨v, rfl, o12, b12⟩
  obtain ⟨A12, c12, rfl, r12⟩ := o12.shape
  have g12 := bel_trans b11 b12
  go_wp2_with fail
  refine (laws_eqInt64S _ _ _ _ _ _ _ _ _ r12 (own2'.ri.later g12) (by omega)).mono ?_
  rintro e w13 ⟨rfl, b13⟩
  rw [decide_eq_true (rfl : zs = zs)]
  have g13 := bel_trans g12 b13
  go_wp2_with fail
  refine (laws_heldInt64S _ _ _ _ _ (hr10.later g13) (by omega) (by omega)).mono ?_
  rintro e w' ⟨rfl, rfl⟩
  go_wp2_with fail
  go_ret
  exact ⟨rfl, bel_trans g10 g13⟩
theorem core_FnExactMovingSum (A : Option Addr) (n c : Nat) (xs : List Int) (f : Int) (zs : List Int) (q : Int) (w : World) (hx : RI w w.heap.size A n xs) (hz : zs.length ≤ 100000000)
    (hS : ∀ A n c w, RI w w.heap.size A n xs → n ≤ 1000000000 → Calls Try.prog 23 #[.slice A n c, .int .i64 f] w (Ret2 2 w (zs, q)))
    (hI : ∀ A n c w, RI w w.heap.size A n xs → n ≤ 1000000000 → Calls Try.prog 24 #[.slice A n c, .int .i64 f] w (Ret2 2 w (zs, q))) :
    Calls Try.prog 5 #[.slice A n c, .int .i64 f] w fun e w' => e = .returned (.bool true) ∧ Below w.heap.size w w' := by
  have HS := Lib.hid hS
  have HI := Lib.hid hI
  have hl := Lib.hid hx.len
  clear hS hI
  by_cases hbig : 1048576 < n
  · go_enter Try.func5, Try.ntmps5
    go_wp2_with fail
    go_ret
    exact ⟨rfl, Below.refl _ _⟩
  have hn : n ≤ 100000000 := by omega
  have hxn : xs.length ≤ 100000000 := by rw [hl.out]; exact hn
  go_enter Try.func5, Try.ntmps5
  go_wp2_with fail
  refine (laws_toInt64S _ _ _ _ _ hx (by omega)).mono ?_
  rintro e w1 ⟨v, rfl, o1, b1⟩
  obtain ⟨A1, c1, rfl, r1⟩ := o1.shape
  go_wp2_with fail
  refine (HS.out _ _ _ _ r1 (by omega)).mono ?_
  rintro e w2 ⟨v, rfl, o2, b2⟩
  obtain ⟨A2, c2, rfl, r2⟩ := o2.shape
  have g2 := bel_trans b1 b2
  go_wp2_with fail
  refine (laws_toInt64S _ _ _ _ _ (hx.later g2) (by omega)).mono ?_
  rintro e w3 ⟨v, rfl, o3, b3⟩
  obtain ⟨A3, c3, rfl, r3⟩ := o3.shape
  go_wp2_with fail
  refine (HI.out _ _ _ _ r3 (by omega)).mono ?_
  rintro e w4 ⟨v, rfl, o4, b4⟩
  obtain ⟨A4, c4, rfl, r4⟩ := o4.shape
  have g4 := bel_trans b3 b4
  go_wp2_with fail
  refine (laws_eqInt64S _ _ _ _ _ _ _ _ _ r4 (r2.later g4) (by omega)).mono ?_
  rintro e w5 ⟨rfl, b5⟩
  rw [decide_eq_true (rfl : zs = zs)]
  have g5 := bel_trans g4 b5
  have h5 := bel_trans g2 g5
  go_wp2_with fail
  refine (laws_toInt64S _ _ _ _ _ (hx.later h5) (by omega)).mono ?_
  rintro e w6 ⟨v, rfl, o6, b6⟩
  obtain ⟨A6, c6, rfl, r6⟩ := o6.shape
  go_wp2_with fail
  have g36 := bel_trans (bel_trans b4 b5) b6
  refine (laws_eqInt64S _ _ _ _ _ _ _ _ _ (r3.later g36) r6 (by omega)).mono ?_
  rintro e w7 ⟨rfl, b7⟩
  rw [decide_eq_true (rfl : xs = xs)]
  have g37 := bel_trans g36 b7
  have g47 := bel_trans (bel_trans b5 b6) b7
  have g27 := bel_trans g5 (bel_trans b6 b7)
  have g7 := bel_trans h5 (bel_trans b6 b7)
  go_wp2_with fail
  refine (laws_markInt64S _ _ _ _ _ _ (o3.below g37) rfl (by omega) (by omega)).mono ?_
  rintro e w8 ⟨rfl, o8, m8⟩
  have own2 : OI 2 w1.heap.size w8 _ zs := OI.keptL o2 o3 (Nat.le_refl _) (o2.below g27) m8
  have own4 : OI 2 w3.heap.size w8 _ zs := OI.keptR o4 o3 (Nat.le_refl _) (o4.below g47) m8
  have g8 : Below w.heap.size w w8 := bel_row g7 (o3.below g37) g2.size g7.size m8
  have e8 : w7.heap.size ≤ w8.heap.size := m8.size
  clear m8 o8 o3 r3
  go_wp2_with fail
  refine (laws_eqInt64S _ _ _ _ _ _ _ _ _ own4.ri own2.ri (by omega)).mono ?_
  rintro e w9 ⟨rfl, b9⟩
  rw [decide_eq_true (rfl : zs = zs)]
  go_wp2_with fail
  refine (laws_markInt64S _ _ _ _ _ _ (own4.below b9) rfl (by omega) (by omega)).mono ?_
  rintro e w10 ⟨rfl, o10, m10⟩
  have own2' : OI 2 w1.heap.size w10 _ zs := OI.keptL o2 o4 b3.size (own2.below b9) m10
  have g10 : Below w.heap.size w w10 := bel_row (bel_trans g8 b9) (own4.below b9) (bel_trans g2 b3).size (bel_trans g8 b9).size m10
  have hr10 : RI w10 w10.heap.size A4 zs.length (M.ramp 1 zs.length) := by
    have h := OI.ri (xs := M.ramp 1 zs.length) (A := A4) (c := c4) (by rw [M.ramp_len]; exact o10)
    rwa [M.ramp_len] at h
  go_wp2_with fail
  refine (laws_heldInt64S _ _ _ _ _ hr10 (by omega) (by omega)).mono ?_
  rintro e w' ⟨rfl, rfl⟩
  go_wp2_with fail
  refine (laws_toInt64S _ _ _ _ _ (hx.later g10) (by omega)).mono ?_
  rintro e w11 ⟨v, rfl, o11, b11⟩
  obtain ⟨A11, c11, rfl, r11⟩ := o11.shape
  go_wp2_with fail
  refine (HI.out _ _ _ _ r11 (by omega)).mono ?_
  rintro e w12 ⟨v, rfl, o12, b12⟩
  obtain ⟨A12, c12, rfl, r12⟩ := o12.shape
  have g12 := bel_trans b11 b12
  go_wp2_with fail
  refine (laws_eqInt64S _ _ _ _ _ _ _ _ _ r12 (own2'.ri.later g12) (by omega)).mono ?_
  rintro e w13 ⟨rfl, b13⟩
  rw [decide_eq_true (rfl : zs = zs)]
  have g13 := bel_trans g12 b13
  go_wp2_with fail
  refine (laws_heldInt64S _ _ _ _ _ (hr10.later g13) (by omega) (by omega)).mono ?_
  rintro e w' ⟨rfl, rfl⟩
  go_wp2_with fail
  go_ret
  exact ⟨rfl, bel_trans g10 g13⟩
theorem core_FnExactCascadeSums (A : Option Addr) (n c : Nat) (xs : List Int) (f p : Int) (zs : List Int) (q : Int) (w : World) (hx : RI w w.heap.size A n xs) (hz : zs.length ≤ 100000000)
    (hS : ∀ A n c w, RI w w.heap.size A n xs → n ≤ 1000000000 → Calls Try.prog 25 #[.slice A n c, .int .i64 f, .int .i64 p] w (Ret2 2 w (zs, q)))
    (hI : ∀ A n c w, RI w w.heap.size A n xs → n ≤ 1000000000 → Calls Try.prog 26 #[.slice A n c, .int .i64 f, .int .i64 p] w (Ret2 2 w (zs, q))) :
    Calls Try.prog 6 #[.slice A n c, .int .i64 f, .int .i64 p] w fun e w' => e = .returned (.bool true) ∧ Below w.heap.size w w' := by
  have HS := Lib.hid hS
  have HI := Lib.hid hI
  have hl := Lib.hid hx.len
  clear hS hI
  by_cases hbig : 1048576 < n
  · go_enter Try.func6, Try.ntmps6
    go_wp2_with fail
    go_ret
    exact ⟨rfl, Below.refl _ _⟩
  have hn : n ≤ 100000000 := by omega
  have hxn : xs.length ≤ 100000000 := by rw [hl.out]; exact hn
  go_enter Try.func6, Try.ntmps6
  go_wp2_with fail
  refine (laws_toInt64S _ _ _ _ _ hx (by omega)).mono ?_
  rintro e w1 ⟨v, rfl, o1, b1⟩
  obtain ⟨A1, c1, rfl, r1⟩ := o1.shape
  go_wp2_with fail
  refine (HS.out _ _ _ _ r1 (by omega)).mono ?_
  rintro e w2 ⟨v, rfl, o2, b2⟩
  obtain ⟨A2, c2, rfl, r2⟩ := o2.shape
  have g2 := bel_trans b1 b2
  go_wp2_with fail
  refine (laws_toInt64S _ _ _ _ _ (hx.later g2) (by omega)).mono ?_
  rintro e w3 ⟨v, rfl, o3, b3⟩
  obtain ⟨A3, c3, rfl, r3⟩ := o3.shape
  go_wp2_with fail
  refine (HI.out _ _ _ _ r3 (by omega)).mono ?_
  rintro e w4 ⟨v, rfl, o4, b4⟩
  obtain ⟨A4, c4, rfl, r4⟩ := o4.shape
  have g4 := bel_trans b3 b4
  go_wp2_with fail
  refine (laws_eqInt64S _ _ _ _ _ _ _ _ _ r4 (r2.later g4) (by omega)).mono ?_
  rintro e w5 ⟨rfl, b5⟩
  rw [decide_eq_true (rfl : zs = zs)]
  have g5 := bel_trans g4 b5
  have h5 := bel_trans g2 g5
  go_wp2_with fail
  refine (laws_toInt64S _ _ _ _ _ (hx.later h5) (by omega)).mono ?_
  rintro e w6 ⟨v, rfl, o6, b6⟩
  obtain ⟨A6, c6, rfl, r6⟩ := o6.shape
  go_wp2_with fail
  have g36 := bel_trans (bel_trans b4 b5) b6
  refine (laws_eqInt64S _ _ _ _ _ _ _ _ _ (r3.later g36) r6 (by omega)).mono ?_
  rintro e w7 ⟨rfl, b7⟩
  rw [decide_eq_true (rfl : xs = xs)]
  have g37 := bel_trans g36 b7
  have g47 := bel_trans (bel_trans b5 b6) b7
  have g27 := bel_trans g5 (bel_trans b6 b7)
  have g7 := bel_trans h5 (bel_trans b6 b7)
  go_wp2_with fail
  refine (laws_markInt64S _ _ _ _ _ _ (o3.below g37) rfl (by omega) (by omega)).mono ?_
  rintro e w8 ⟨rfl, o8, m8⟩
  have own2 : OI 2 w1.heap.size w8 _ zs := OI.keptL o2 o3 (Nat.le_refl _) (o2.below g27) m8
  have own4 : OI 2 w3.heap.size w8 _ zs := OI.keptR o4 o3 (Nat.le_refl _) (o4.below g47) m8
  have g8 : Below w.heap.size w w8 := bel_row g7 (o3.below g37) g2.size g7.size m8
  have e8 : w7.heap.size ≤ w8.heap.size := m8.size
  clear m8 o8 o3 r3
  go_wp2_with fail
  refine (laws_eqInt64S _ _ _ _ _ _ _ _ _ own4.ri own2.ri (by omega)).mono ?_
  rintro e w9 ⟨rfl, b9⟩
  rw [decide_eq_true (rfl : zs = zs)]
  go_wp2_with fail
  refine (laws_markInt64S _ _ _ _ _ _ (own4.below b9) rfl (by omega) (by omega)).mono ?_
  rintro e w10 ⟨rfl, o10, m10⟩
  have own2' : OI 2 w1.heap.size w10 _ zs := OI.keptL o2 o4 b3.size (own2.below b9) m10
  have g10 : Below w.heap.size w w10 := bel_row (bel_trans g8 b9) (own4.below b9) (bel_trans g2 b3).size (bel_trans g8 b9).size m10
  have hr10 : RI w10 w10.heap.size A4 zs.length (M.ramp 1 zs.length) := by
    have h := OI.ri (xs := M.ramp 1 zs.length) (A := A4) (c := c4) (by rw [M.ramp_len]; exact o10)
    rwa [M.ramp_len] at h
  go_wp2_with fail
  refine (laws_heldInt64S _ _ _ _ _ hr10 (by omega) (by omega)).mono ?_
  rintro e w' ⟨rfl, rfl⟩
  go_wp2_with fail
  refine (laws_toInt64S _ _ _ _ _ (hx.later g10) (by omega)).mono ?_
  rintro e w11 ⟨v, rfl, o11, b11⟩
  obtain ⟨A11, c11, rfl, r11⟩ := o11.shape
  go_wp2_with fail
  refine (HI.out _ _ _ _ r11 (by omega)).mono ?_
  rintro e w12 ⟨v, rfl, o12, b12⟩
  obtain ⟨A12, c12, rfl, r12⟩ := o12.shape
  have g12 := bel_trans b11 b12
  go_wp2_with fail
  refine (laws_eqInt64S _ _ _ _ _ _ _ _ _ r12 (own2'.ri.later g12) (by omega)).mono ?_
  rintro e w13 ⟨rfl, b13⟩
  rw [decide_eq_true (rfl : zs = zs)]
  have g13 := bel_trans g12 b13
  go_wp2_with fail
  refine (laws_heldInt64S _ _ _ _ _ (hr10.later g13) (by omega) (by omega)).mono ?_
  rintro e w' ⟨rfl, rfl⟩
  go_wp2_with fail
  go_ret
  exact ⟨rfl, bel_trans g10 g13⟩
theorem core_FnExactCombCascade (A : Option Addr) (n c : Nat) (xs : List Int) (f p : Int) (zs : List Int) (q : Int) (w : World) (hx : RI w w.heap.size A n xs) (hz : zs.length ≤ 100000000)
    (hS : ∀ A n c w, RI w w.heap.size A n xs → n ≤ 1000000000 → Calls Try.prog 29 #[.slice A n c, .int .i64 f, .int .i64 p] w (Ret2 2 w (zs, q)))
    (hI : ∀ A n c w, RI w w.heap.size A n xs → n ≤ 1000000000 → Calls Try.prog 30 #[.slice A n c, .int .i64 f, .int .i64 p] w (Ret2 2 w (zs, q))) :
    Calls Try.prog 8 #[.slice A n c, .int .i64 f, .int .i64 p] w fun e w' => e = .returned (.bool true) ∧ Below w.heap.size w w' := by
  have HS := Lib.hid hS
  have HI := Lib.hid hI
  have hl := Lib.hid hx.len
  clear hS hI
  by_cases hbig : 1048576 < n
  · go_enter Try.func8, Try.ntmps8
    go_wp2_with fail
    go_ret
    exact ⟨rfl, Below.refl _ _⟩
  have hn : n ≤ 100000000 := by omega
  have hxn : xs.length ≤ 100000000 := by rw [hl.out]; exact hn
  go_enter Try.func8, Try.ntmps8
  go_wp2_with fail
  refine (laws_toInt64S _ _ _ _ _ hx (by omega)).mono ?_
  rintro e w1 ⟨v, rfl, o1, b1⟩
  obtain ⟨A1, c1, rfl, r1⟩ := o1.shape
  go_wp2_with fail
  refine (HS.out _ _ _ _ r1 (by omega)).mono ?_
  rintro e w2 ⟨v, rfl, o2, b2⟩
  obtain ⟨A2, c2, rfl, r2⟩ := o2.shape
  have g2 := bel_trans b1 b2
  go_wp2_with fail
  refine (laws_toInt64S _ _ _ _ _ (hx.later g2) (by omega)).mono ?_
  rintro e w3 ⟨v, rfl, o3, b3⟩
  obtain ⟨A3, c3, rfl, r3⟩ := o3.shape
  go_wp2_with fail
  refine (HI.out _ _ _ _ r3 (by omega)).mono ?_
  rintro e w4 ⟨v, rfl, o4, b4⟩
  obtain ⟨A4, c4, rfl, r4⟩ := o4.shape
  have g4 := bel_trans b3 b4
  go_wp2_with fail
  refine (laws_eqInt64S _ _ _ _ _ _ _ _ _ r4 (r2.later g4) (by omega)).mono ?_
  rintro e w5 ⟨rfl, b5⟩
  rw [decide_eq_true (rfl : zs = zs)]
  have g5 := bel_trans g4 b5
  have h5 := bel_trans g2 g5
  go_wp2_with fail
  refine (laws_toInt64S _ _ _ _ _ (hx.later h5) (by omega)).mono ?_
  rintro e w6 ⟨v, rfl, o6, b6⟩
  obtain ⟨A6, c6, rfl, r6⟩ := o6.shape
  go_wp2_with fail
  have g36 := bel_trans (bel_trans b4 b5) b6
  refine (laws_eqInt64S _ _ _ _ _ _ _ _ _ (r3.later g36) r6 (by omega)).mono ?_
  rintro e w7 ⟨rfl, b7⟩
  rw [decide_eq_true (rfl : xs = xs)]
  have g37 := bel_trans g36 b7
  have g47 := bel_trans (bel_trans b5 b6) b7
  have g27 := bel_trans g5 (bel_trans b6 b7)
  have g7 := bel_trans h5 (bel_trans b6 b7)
  go_wp2_with fail
  refine (laws_markInt64S _ _ _ _ _ _ (o3.below g37) rfl (by omega) (by omega)).mono ?_
  rintro e w8 ⟨rfl, o8, m8⟩
  have own2 : OI 2 w1.heap.size w8 _ zs := OI.keptL o2 o3 (Nat.le_refl _) (o2.below g27) m8
  have own4 : OI 2 w3.heap.size w8 _ zs := OI.keptR o4 o3 (Nat.le_refl _) (o4.below g47) m8
  have g8 : Below w.heap.size w w8 := bel_row g7 (o3.below g37) g2.size g7.size m8
  have e8 : w7.heap.size ≤ w8.heap.size := m8.size
  clear m8 o8 o3 r3
  go_wp2_with fail
  refine (laws_eqInt64S _ _ _ _ _ _ _ _ _ own4.ri own2.ri (by omega)).mono ?_
  rintro e w9 ⟨rfl, b9⟩
  rw [decide_eq_true (rfl : zs = zs)]
  go_wp2_with fail
  refine (laws_markInt64S _ _ _ _ _ _ (own4.below b9) rfl (by omega) (by omega)).mono ?_
  rintro e w10 ⟨rfl, o10, m10⟩
  have own2' : OI 2 w1.heap.size w10 _ zs := OI.keptL o2 o4 b3.size (own2.below b9) m10
  have g10 : Below w.heap.size w w10 := bel_row (bel_trans g8 b9) (own4.below b9) (bel_trans g2 b3).size (bel_trans g8 b9).size m10
  have hr10 : RI w10 w10.heap.size A4 zs.length (M.ramp 1 zs.length) := by
    have h := OI.ri (xs := M.ramp 1 zs.length) (A := A4) (c := c4) (by rw [M.ramp_len]; exact o10)
    rwa [M.ramp_len] at h
  go_wp2_with fail
  refine (laws_heldInt64S _ _ _ _ _ hr10 (by omega) (by omega)).mono ?_
  rintro e w' ⟨rfl, rfl⟩
  go_wp2_with fail
  refine (laws_toInt64S _ _ _ _ _ (hx.later g10) (by omega)).mono ?_
  rintro e w11 ⟨v, rfl, o11, b11⟩
  obtain ⟨A11, c11, rfl, r11⟩ := o11.shape
  go_wp2_with fail
  refine (HI.out _ _ _ _ r11 (by omega)).mono ?_
  rintro e w12 ⟨v, rfl, o12, b12⟩
  obtain ⟨A12, c12, rfl, r12⟩ := o12.shape
  have g12 := bel_trans b11 b12
  go_wp2_with fail
  refine (laws_eqInt64S _ _ _ _ _ _ _ _ _ r12 (own2'.ri.later g12) (by omega)).mono ?_
  rintro e w13 ⟨rfl, b13⟩
  rw [decide_eq_true (rfl : zs = zs)]
  have g13 := bel_trans g12 b13
  go_wp2_with fail
  refine (laws_heldInt64S _ _ _ _ _ (hr10.later g13) (by omega) (by omega)).mono ?_
  rintro e w' ⟨rfl, rfl⟩
  go_wp2_with fail
  go_ret
  exact ⟨rfl, bel_trans g10 g13⟩
end Go.Proofs.Ytafbhangjeddaaa
