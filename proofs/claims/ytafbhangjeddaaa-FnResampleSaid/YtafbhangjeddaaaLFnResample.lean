import Derived.Test.YtafbhangjeddaaaW72
import Derived.Test.YtafbhangjeddaaaW12
namespace Go.Proofs.Ytafbhangjeddaaa
open Go.RowKit
set_option maxHeartbeats 2000000
set_option maxRecDepth 100000
theorem core_FnResample (A0 : Option Addr) (n0 : Nat) (c0 : Nat) (x0 : List UInt8) (A1 : Option Addr) (n1 : Nat) (c1 : Nat) (x1 : List UInt8) (w : World) (h0 : RS tU8 w w.heap.size (.slice A0 n0 c0) x0) (h1 : RS tU8 w w.heap.size (.slice A1 n1 c1) x1) :
    Calls Try.prog 11 #[.slice A0 n0 c0, .slice A1 n1 c1] w fun e w' => e = .returned (.bool true) ∧ Below w.heap.size w w' := by
  cases hlong : (decide (3000 < n0) || decide (3000 < n1))
  · have hlong' := Lib.hid hlong
    clear hlong
    go_enter Try.func11, Try.ntmps11
    go_wp2_with fail
    refine (laws_a2Long _ _ _ _ _ _ _).mono ?_
    rw [hlong'.out]
    rintro e w' ⟨rfl, rfl⟩
    go_wp2_with fail
    refine (spec_A2Signal _ _ _ _ _ h0).mono ?_
    rintro e w1 ⟨Ax, cx, xs, At, ct, ts, f, rfl, rx, rt, lx, sx, lt0, lt1, st, f0, f1, b1⟩
    obtain ⟨f, rfl⟩ : ∃ j : Nat, f = j := ⟨f.toNat, by omega⟩
    clear rt st lt0 lt1
    go_wp2_with fail
    refine (laws_a2At _ _ _ _ 0 9 w1 (h1.later b1) (by omega) (by omega)).mono ?_
    rintro e w2 ⟨n, rfl, ⟨n0', n1'⟩, b2⟩
    have B2 := bel_trans b1 b2
    obtain ⟨n, rfl⟩ : ∃ j : Nat, n = j := ⟨n.toNat, by omega⟩
    go_wp2_with fail
    refine (laws_a2At _ _ _ _ 1 7 w2 (h1.later B2) (by omega) (by omega)).mono ?_
    rintro e w3 ⟨o, rfl, ⟨o0, o1⟩, b3⟩
    have B3 := bel_trans B2 b3
    obtain ⟨o, rfl⟩ : ∃ j : Nat, o = j := ⟨o.toNat, by omega⟩
    have rx3 := rx.later (bel_trans b2 b3)
    obtain ⟨ys, hs, es, is, q1, q2, q3, q4, q5, q6, q7, q8, q9, l1, l2, l3⟩ := M.resample sx.out lx (n := 1 + n) (o := o) (f := f) (by omega) (by omega) (by omega)
    rw [Int.natCast_add] at q1 q2
    have ly : ys.length ≤ 24 := by omega
    have Q1 := Lib.hid q1
    have Q2 := Lib.hid q2
    have Q3 := Lib.hid q3
    have Q4 := Lib.hid q4
    have Q5 := Lib.hid q5
    have Q6 := Lib.hid q6
    have Q7 := Lib.hid q7
    have Q8 := Lib.hid q8
    have Q9 := Lib.hid q9
    have QQ := Lib.hid (show decide (ys.length = xs.length) = true from decide_eq_true q3)
    clear q1 q2 q3 q4 q5 q6 q7 q8 q9
    go_wp2_with fail
    refine (impl_CascadeSums _ _ _ _ _ _ w3 rx3 (by omega)).mono ?_
    rintro e w4 ⟨v4, rfl, o4, b4⟩
    rw [show M.CascadeSums xs (1 + (n : Int)) o = (ys, 0) from Q1.out] at o4 ⊢
    obtain ⟨A4, c4, rfl, r4⟩ := o4.shape
    clear o4
    have B4 := bel_trans B3 b4
    have rx4 := rx3.later b4
    go_wp2_with fail
    refine (impl_CombCascade _ _ _ _ _ _ w4 rx4 (by omega)).mono ?_
    rintro e w5 ⟨v5, rfl, o5, b5⟩
    rw [show M.CombCascade xs (1 + (n : Int)) o = (ys, 0) from Q2.out] at o5 ⊢
    obtain ⟨A5, c5, rfl, r5⟩ := o5.shape
    clear o5
    have B5 := bel_trans B4 b5
    have rx5 := rx4.later b5
    have r4 := r4.later b5
    have hly : (ys.length : Int) = xs.length := by rw [Q3.out]
    go_wp2_with fail
    refine (laws_a2Same _ _ _ _ _ _ _ _ w5 r4 r5 (by omega)).mono ?_
    rintro e w6 ⟨rfl, b6⟩
    rw [decide_eq_true rfl]
    have B6 := bel_trans B5 b6
    have rx6 := rx5.later b6
    go_wp2_with fail
    refine (impl_HoldSignal _ _ _ _ _ w6 rx6 (by omega)).mono ?_
    rintro e w7 ⟨v7, rfl, o7, b7⟩
    rw [show M.expandS xs (f : Int) true = (hs, 0) from Q4.out] at o7 ⊢
    obtain ⟨A7, c7, rfl, r7⟩ := o7.shape
    clear o7
    have B7 := bel_trans B6 b7
    have rx7 := rx6.later b7
    go_wp2_with fail
    refine (impl_ExpandSignal _ _ _ _ _ w7 rx7 (by omega)).mono ?_
    rintro e w8 ⟨v8, rfl, o8, b8⟩
    rw [show M.expandS xs (f : Int) false = (es, 0) from Q5.out] at o8 ⊢
    obtain ⟨A8, c8, rfl, r8⟩ := o8.shape
    clear o8
    have B8 := bel_trans B7 b8
    have rx8 := rx7.later b8
    have r7a := r7.later b8
    go_wp2_with fail
    refine (impl_MovingSum _ _ _ _ _ w8 r8 (by omega)).mono ?_
    rintro e w9 ⟨v9, rfl, o9, b9⟩
    rw [show M.MovingSum es (f : Int) = (hs, 0) from Q6.out] at o9 ⊢
    obtain ⟨A9, c9, rfl, r9⟩ := o9.shape
    clear o9
    have B9 := bel_trans B8 b9
    have rx9 := rx8.later b9
    have r7b := r7a.later b9
    go_wp2_with fail
    refine (laws_a2Same _ _ _ _ _ _ _ _ w9 r7b r9 (by omega)).mono ?_
    rintro e w10 ⟨rfl, b10⟩
    rw [decide_eq_true rfl]
    have B10 := bel_trans B9 b10
    have rx10 := rx9.later b10
    have r7c := r7b.later b10
    go_wp2_with fail
    refine (impl_IntegrateSignal _ _ _ _ w10 rx10 (by omega)).mono ?_
    rintro e w11 ⟨v11, rfl, o11, b11⟩
    rw [show M.IntegrateSignal xs = (is, 0) from Q7.out] at o11 ⊢
    obtain ⟨A11, c11, rfl, r11⟩ := o11.shape
    clear o11
    have B11 := bel_trans B10 b11
    have rx11 := rx10.later b11
    have r7d := r7c.later b11
    go_wp2_with fail
    refine (impl_CombSignal _ _ _ _ _ w11 r11 (by omega)).mono ?_
    rintro e w12 ⟨v12, rfl, o12, b12⟩
    rw [show M.CombSignal is 1 = (xs, 0) from Q8.out] at o12 ⊢
    obtain ⟨A12, c12, rfl, r12⟩ := o12.shape
    clear o12
    have B12 := bel_trans B11 b12
    have rx12 := rx11.later b12
    have r7e := r7d.later b12
    go_wp2_with fail
    refine (impl_DecimateSignal _ _ _ _ _ _ w12 r7e (by omega)).mono ?_
    rintro e w13 ⟨v13, rfl, o13, b13⟩
    rw [show M.DecimateSignal hs (f : Int) ((f : Int) - 1) = (xs, 0) from Q9.out] at o13 ⊢
    obtain ⟨A13, c13, rfl, r13⟩ := o13.shape
    clear o13
    have B13 := bel_trans B12 b13
    have rx13 := rx12.later b13
    have r12a := r12.later b13
    go_wp2_with fail
    refine (laws_a2Same _ _ _ _ _ _ _ _ w13 r12a rx13 (by omega)).mono ?_
    rintro e w14 ⟨rfl, b14⟩
    rw [decide_eq_true rfl]
    have B14 := bel_trans B13 b14
    have rx14 := rx13.later b14
    have r13a := r13.later b14
    go_wp2_with fail
    refine (laws_a2Same _ _ _ _ _ _ _ _ w14 r13a rx14 (by omega)).mono ?_
    rintro e w15 ⟨rfl, b15⟩
    rw [decide_eq_true rfl]
    have B15 := bel_trans B14 b15
    go_wp2
    go_ret
    exact ⟨rfl, B15⟩
  · go_enter Try.func11, Try.ntmps11
    go_wp2_with fail
    refine (laws_a2Long _ _ _ _ _ _ _).mono ?_
    rw [hlong]
    rintro e w' ⟨rfl, rfl⟩
    go_wp2
    go_ret
    exact ⟨rfl, Below.refl _ _⟩
end Go.Proofs.Ytafbhangjeddaaa
