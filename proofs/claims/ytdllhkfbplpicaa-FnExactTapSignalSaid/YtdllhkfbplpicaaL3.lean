import Derived.Test.YtdllhkfbplpicaaW11
namespace Go.Proofs.Ytdllhkfbplpicaa
open Go.RowKit
set_option maxHeartbeats 2000000
set_option maxRecDepth 100000
theorem core_FnExactTapSignal (A B : Option Addr) (n c n' c' : Nat) (xs ys : List Int)  (zs : List Int) (q : Int) (w : World) (hx : RI w w.heap.size A n xs) (hy : RI w w.heap.size B n' ys) (hz : zs.length ≤ 100000000)
    (hS : ∀ A B n c n' c' w, RI w w.heap.size A n xs → RI w w.heap.size B n' ys → n ≤ 1000000000 → n' ≤ 1000000000 → Calls Try.prog 29 #[.slice A n c, .slice B n' c'] w (Ret2 2 w (zs, q)))
    (hI : ∀ A B n c n' c' w, RI w w.heap.size A n xs → RI w w.heap.size B n' ys → n ≤ 1000000000 → n' ≤ 1000000000 → Calls Try.prog 30 #[.slice A n c, .slice B n' c'] w (Ret2 2 w (zs, q))) :
    Calls Try.prog 9 #[.slice A n c, .slice B n' c'] w fun e w' => e = .returned (.bool true) ∧ Below w.heap.size w w' := by
  have HS := Lib.hid hS
  have HI := Lib.hid hI
  have hl := Lib.hid hx.len
  have hl' := Lib.hid hy.len
  clear hS hI
  by_cases hbig : 1048576 < n
  · go_enter Try.func9, Try.ntmps9
    go_wp2_with fail
    go_ret
    exact ⟨rfl, Below.refl _ _⟩
  by_cases hbig' : 1048576 < n'
  · go_enter Try.func9, Try.ntmps9
    go_wp2_with fail
    go_ret
    exact ⟨rfl, Below.refl _ _⟩
  have hn : n ≤ 100000000 := by omega
  have hn' : n' ≤ 100000000 := by omega
  have hxn : xs.length ≤ 100000000 := by rw [hl.out]; exact hn
  have hyn : ys.length ≤ 100000000 := by rw [hl'.out]; exact hn'
  go_enter Try.func9, Try.ntmps9
  go_wp2_with fail
  refine (laws_toInt64S _ _ _ _ _ hx (by omega)).mono ?_
  rintro e w1 ⟨v, rfl, o1, b1⟩
  obtain ⟨A1, c1, rfl, r1⟩ := o1.shape
  go_wp2_with fail
  refine (laws_toInt64S _ _ _ _ _ (hy.later b1) (by omega)).mono ?_
  rintro e w2 ⟨v, rfl, o2, b2⟩
  obtain ⟨A2, c2, rfl, r2⟩ := o2.shape
  go_wp2_with fail
  refine (HS.out _ _ _ _ _ _ _ (r1.later b2) r2 (by omega) (by omega)).mono ?_
  rintro e w3 ⟨v, rfl, o3, b3⟩
  obtain ⟨A3, c3, rfl, r3⟩ := o3.shape
  have h3 := bel_trans (bel_trans b1 b2) b3
  clear r1 r2 o1 o2
  go_wp2_with fail
  refine (laws_toInt64S _ _ _ _ _ (hx.later h3) (by omega)).mono ?_
  rintro e w4 ⟨v, rfl, o4, b4⟩
  obtain ⟨A4, c4, rfl, r4⟩ := o4.shape
  have h4 := bel_trans h3 b4
  go_wp2_with fail
  refine (laws_toInt64S _ _ _ _ _ (hy.later h4) (by omega)).mono ?_
  rintro e w5 ⟨v, rfl, o5, b5⟩
  obtain ⟨A5, c5, rfl, r5⟩ := o5.shape
  have h5 := bel_trans h4 b5
  go_wp2_with fail
  refine (HI.out _ _ _ _ _ _ _ (r4.later b5) r5 (by omega) (by omega)).mono ?_
  rintro e w6 ⟨v, rfl, o6, b6⟩
  obtain ⟨A6, c6, rfl, r6⟩ := o6.shape
  have h6 := bel_trans h5 b6
  have g36 := bel_trans (bel_trans b4 b5) b6
  go_wp2_with fail
  refine (laws_eqInt64S _ _ _ _ _ _ _ _ _ r6 (r3.later g36) (by omega)).mono ?_
  rintro e w7 ⟨rfl, b7⟩
  rw [decide_eq_true (rfl : zs = zs)]
  have h7 := bel_trans h6 b7
  go_wp2_with fail
  refine (laws_toInt64S _ _ _ _ _ (hx.later h7) (by omega)).mono ?_
  rintro e w8 ⟨v, rfl, o8, b8⟩
  obtain ⟨A8, c8, rfl, r8⟩ := o8.shape
  have h8 := bel_trans h7 b8
  have g48 := bel_trans (bel_trans (bel_trans b5 b6) b7) b8
  go_wp2_with fail
  refine (laws_eqInt64S _ _ _ _ _ _ _ _ _ (r4.later g48) r8 (by omega)).mono ?_
  rintro e w9 ⟨rfl, b9⟩
  rw [decide_eq_true (rfl : xs = xs)]
  have h9 := bel_trans h8 b9
  clear r8 o8
  go_wp2_with fail
  refine (laws_toInt64S _ _ _ _ _ (hy.later h9) (by omega)).mono ?_
  rintro e w10 ⟨v, rfl, o10, b10⟩
  obtain ⟨A10, c10, rfl, r10⟩ := o10.shape
  have h10 := bel_trans h9 b10
  have g510 := bel_trans (bel_trans (bel_trans (bel_trans b6 b7) b8) b9) b10
  go_wp2_with fail
  refine (laws_eqInt64S _ _ _ _ _ _ _ _ _ (r5.later g510) r10 (by omega)).mono ?_
  rintro e w11 ⟨rfl, b11⟩
  rw [decide_eq_true (rfl : ys = ys)]
  have h11 := bel_trans h10 b11
  clear r10 o10
  have g611 := bel_trans (bel_trans (bel_trans (bel_trans b7 b8) b9) b10) b11
  have g511 := bel_trans b6 g611
  have g411 := bel_trans b5 g511
  have g311 := bel_trans b4 g411
  go_wp2_with fail
  refine (laws_markInt64S _ _ _ _ _ _ (o4.below g411) rfl (by omega) (by omega)).mono ?_
  rintro e w12 ⟨rfl, o12, m12⟩
  have p3 : OI 2 _ w12 _ zs := OI.keptL o3 o4 (Nat.le_refl _) (o3.below g311) m12
  have p6 : OI 2 _ w12 _ zs := OI.keptR o6 o4 b5.size (o6.below g611) m12
  have p5 : OI 2 _ w12 _ ys := OI.keptR o5 o4 (Nat.le_refl _) (o5.below g511) m12
  have h12 : Below w.heap.size w w12 := bel_row h11 (o4.below g411) h3.size h11.size m12
  clear m12 o12 o4 r4 r3 r5 r6
  go_wp2_with fail
  refine (laws_markInt64S _ _ _ _ _ _ p5 rfl (by omega) (by omega)).mono ?_
  rintro e w13 ⟨rfl, o13, m13⟩
  have t3 : OI 2 _ w13 _ zs := OI.keptL o3 o5 b4.size p3 m13
  have t6 : OI 2 _ w13 _ zs := OI.keptR o6 o5 (Nat.le_refl _) p6 m13
  have h13 : Below w.heap.size w w13 := bel_row h12 p5 h4.size h12.size m13
  clear m13 o13 p5 p3 p6 o5
  go_wp2_with fail
  refine (laws_eqInt64S _ _ _ _ _ _ _ _ _ t6.ri t3.ri (by omega)).mono ?_
  rintro e w14 ⟨rfl, b14⟩
  rw [decide_eq_true (rfl : zs = zs)]
  have h14 := h13.trans (b14.mono h13.size)
  go_wp2_with fail
  refine (laws_markInt64S _ _ _ _ _ _ (t6.below b14) rfl (by omega) (by omega)).mono ?_
  rintro e w15 ⟨rfl, o15, m15⟩
  have u3 : OI 2 _ w15 _ zs := OI.keptL o3 o6 (bel_trans b4 b5).size (t3.below b14) m15
  have h15 : Below w.heap.size w w15 := bel_row h14 (t6.below b14) h5.size h14.size m15
  have hr15 : RI w15 w15.heap.size A6 zs.length (M.ramp 1 zs.length) := by
    have h := OI.ri (xs := M.ramp 1 zs.length) (A := A6) (c := c6) (by rw [M.ramp_len]; exact o15)
    rwa [M.ramp_len] at h
  go_wp2_with fail
  refine (laws_heldInt64S _ _ _ _ _ hr15 (by omega) (by omega)).mono ?_
  rintro e w' ⟨rfl, rfl⟩
  go_wp2_with fail
  refine (laws_toInt64S _ _ _ _ _ (hx.later h15) (by omega)).mono ?_
  rintro e w16 ⟨v, rfl, o16, b16⟩
  obtain ⟨A16, c16, rfl, r16⟩ := o16.shape
  have h16 := bel_trans h15 b16
  go_wp2_with fail
  refine (laws_toInt64S _ _ _ _ _ (hy.later h16) (by omega)).mono ?_
  rintro e w17 ⟨v, rfl, o17, b17⟩
  obtain ⟨A17, c17, rfl, r17⟩ := o17.shape
  go_wp2_with fail
  refine (HI.out _ _ _ _ _ _ _ (r16.later b17) r17 (by omega) (by omega)).mono ?_
  rintro e w18 ⟨v, rfl, o18, b18⟩
  obtain ⟨A18, c18, rfl, r18⟩ := o18.shape
  have g1518 := bel_trans (bel_trans b16 b17) b18
  go_wp2_with fail
  refine (laws_eqInt64S _ _ _ _ _ _ _ _ _ r18 (u3.ri.later g1518) (by omega)).mono ?_
  rintro e w19 ⟨rfl, b19⟩
  rw [decide_eq_true (rfl : zs = zs)]
  have g1519 := bel_trans g1518 b19
  go_wp2_with fail
  refine (laws_heldInt64S _ _ _ _ _ (hr15.later g1519) (by omega) (by omega)).mono ?_
  rintro e w' ⟨rfl, rfl⟩
  go_wp2_with fail
  go_ret
  exact ⟨rfl, bel_trans h15 g1519⟩
end Go.Proofs.Ytdllhkfbplpicaa
