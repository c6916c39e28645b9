import Derived.Test.YtckihflfjecpbaaW7A
import Derived.Test.YtckihflfjecpbaaW7B
namespace Go.Proofs.Ytckihflfjecpbaa
open Go.RowKit
set_option maxHeartbeats 4000000
set_option maxRecDepth 100000
theorem retC_zero {e : TypeId} {w w' : World} {r : List (Int × Int) × Int} {en : Ending} {ys : List (Int × Int)} (h : RetC e w r en w') (hr : r = (ys, 0)) (hl : ys.length ≤ 24) :
    ∃ A c, en = .returned (.tuple #[.agg #[.slice A ys.length c], .int .i64 0]) ∧ RA pt 2 w' w'.heap.size A ys.length ys ∧ Below w.heap.size w w' := by
  subst hr
  obtain ⟨v, rfl, own, bel⟩ := h
  obtain ⟨A, c, rfl, ra⟩ := own.shape
  exact ⟨A, c, rfl, ra, bel⟩
theorem core_FnShifted (A0 : Option Addr) (n0 : Nat) (c0 : Nat) (x0 : List UInt8) (A1 : Option Addr) (n1 : Nat) (c1 : Nat) (x1 : List UInt8) (w : World) (h0 : RS tU8 w w.heap.size (.slice A0 n0 c0) x0) (h1 : RS tU8 w w.heap.size (.slice A1 n1 c1) x1) :
    Calls Try.prog 6 #[.slice A0 n0 c0, .slice A1 n1 c1] w fun e w' => e = .returned (.bool true) ∧ Below w.heap.size w w' := by
  cases hlong : (decide (1048576 < n0) || decide (1048576 < n1))
  · have hlong' := Lib.hid hlong
    clear hlong
    go_enter Try.func6, Try.ntmps6
    go_wp2_with fail
    refine (laws_v8Long _ _ _ _ _ _ _).mono ?_
    rw [hlong'.out]
    rintro e w' ⟨rfl, rfl⟩
    go_wp2_with fail
    refine (spec_E8Curve _ _ _ _ _ h0).mono ?_
    rintro e w1 ⟨Ac, cc, xs, rfl, rc, hok, lx, hcc, hcm, b1⟩
    obtain ⟨U1, hU⟩ : ∃ U, U = w1.alloc (.cells #[.slice Ac xs.length cc] 30) := ⟨_, rfl⟩
    have bU1 : Below w1.heap.size w1 U1 := by rw [hU]; exact (Below.refl _ _).alloc (Nat.le_refl _) _
    have k1 : U1.cell? ⟨w1.heap.size, 0, none⟩ = some (.slice Ac xs.length cc) := by rw [hU]; simp [go_sem]
    have l1 : w1.heap.size < U1.heap.size := by rw [hU]; simp
    have HU1 := Lib.hid hU
    clear hU
    have B1 := bel_trans b1 bU1
    have rc1 := rc.later bU1
    go_wp2_with fail
    rw [← HU1.out]
    refine (laws_v8At _ _ _ _ 0 30 U1 (h1.later B1) (by omega) (by omega)).mono ?_
    rintro e w2 ⟨d, rfl, ⟨d0, d1⟩, b2⟩
    have d2 : d ≤ 29 := by omega
    clear d1
    have B2 := bel_trans B1 b2
    have rc2 := rc1.later b2
    have k2 : w2.cell? ⟨w1.heap.size, 0, none⟩ = some (.slice Ac xs.length cc) := by rw [b2.cell l1]; exact k1
    have l2 := Nat.lt_of_lt_of_le l1 b2.size
    obtain ⟨g1, g2, g3⟩ := M.shifted hok.out.1 hok.out.2 (d := d) (by omega)
    have G1 := Lib.hid g1
    have G2 := Lib.hid g2
    have G3 := Lib.hid g3
    have GL := Lib.hid (M.shiftP_len xs d)
    clear g1 g2 g3
    go_wp2_with fail
    refine (impl_ShiftCurve _ _ _ _ d w2 rc2 (by omega)).mono ?_
    intro e w3 hr3
    obtain ⟨Ax, cx, rfl, rx, b3⟩ := retC_zero hr3 G2.out (by rw [GL.out]; exact lx)
    clear hr3
    rw [GL.out] at rx ⊢
    have B3 := bel_trans B2 b3
    have rc3 := rc2.later b3
    have k3 : w3.cell? ⟨w1.heap.size, 0, none⟩ = some (.slice Ac xs.length cc) := by rw [b3.cell l2]; exact k2
    have l3 := Nat.lt_of_lt_of_le l2 b3.size
    obtain ⟨U3, hU⟩ : ∃ U, U = w3.alloc (.cells #[.slice Ax xs.length cx] 30) := ⟨_, rfl⟩
    have bU3 : Below w3.heap.size w3 U3 := by rw [hU]; exact (Below.refl _ _).alloc (Nat.le_refl _) _
    have m3 : U3.cell? ⟨w3.heap.size, 0, none⟩ = some (.slice Ax xs.length cx) := by rw [hU]; simp [go_sem]
    have j3 : w3.heap.size < U3.heap.size := by rw [hU]; simp
    have HU3 := Lib.hid hU
    clear hU
    have B3' := bel_trans B3 bU3
    have rc3' := rc3.later bU3
    have rx3 := rx.later bU3
    have k3' : U3.cell? ⟨w1.heap.size, 0, none⟩ = some (.slice Ac xs.length cc) := by rw [bU3.cell l3]; exact k3
    have l3' := Nat.lt_of_lt_of_le l3 bU3.size
    go_wp2_with fail
    rw [← HU3.out]
    refine (impl_ShiftCurve _ _ _ _ (-d) U3 rx3 (by omega)).mono ?_
    intro e w4 hr4
    obtain ⟨Ab, cb, rfl, rb, b4⟩ := retC_zero hr4 G3.out lx
    clear hr4
    have B4 := bel_trans B3' b4
    have rc4 := rc3'.later b4
    have rx4 := rx3.later b4
    have k4 : w4.cell? ⟨w1.heap.size, 0, none⟩ = some (.slice Ac xs.length cc) := by rw [b4.cell l3']; exact k3'
    have l4 := Nat.lt_of_lt_of_le l3' b4.size
    have m4 : w4.cell? ⟨w3.heap.size, 0, none⟩ = some (.slice Ax xs.length cx) := by rw [b4.cell j3]; exact m3
    have j4 := Nat.lt_of_lt_of_le j3 b4.size
    obtain ⟨U4, hU⟩ : ∃ U, U = w4.alloc (.cells #[.slice Ab xs.length cb] 30) := ⟨_, rfl⟩
    have bU4 : Below w4.heap.size w4 U4 := by rw [hU]; exact (Below.refl _ _).alloc (Nat.le_refl _) _
    have n4 : U4.cell? ⟨w4.heap.size, 0, none⟩ = some (.slice Ab xs.length cb) := by rw [hU]; simp [go_sem]
    have HU4 := Lib.hid hU
    clear hU
    have B4' := bel_trans B4 bU4
    have rc4' := rc4.later bU4
    have rx4' := rx4.later bU4
    have rb4' := rb.later bU4
    have k4' : U4.cell? ⟨w1.heap.size, 0, none⟩ = some (.slice Ac xs.length cc) := by rw [bU4.cell l4]; exact k4
    have l4' := Nat.lt_of_lt_of_le l4 bU4.size
    have m4' : U4.cell? ⟨w3.heap.size, 0, none⟩ = some (.slice Ax xs.length cx) := by rw [bU4.cell j4]; exact m4
    have j4' := Nat.lt_of_lt_of_le j4 bU4.size
    go_wp2_with fail
    rw [← HU4.out]
    refine (spec_SameCurve _ _ _ _ _ _ xs xs U4 rb4' rc4' (by omega) (by omega)).mono ?_
    rw [decide_eq_true rfl]
    rintro e w5 ⟨rfl, b5⟩
    have B5 := bel_trans B4' b5
    have k5 : w5.cell? ⟨w1.heap.size, 0, none⟩ = some (.slice Ac xs.length cc) := by rw [b5.cell l4']; exact k4'
    have l5 := Nat.lt_of_lt_of_le l4' b5.size
    have m5 : w5.cell? ⟨w3.heap.size, 0, none⟩ = some (.slice Ax xs.length cx) := by rw [b5.cell j4']; exact m4'
    have j5 := Nat.lt_of_lt_of_le j4' b5.size
    have rc5 := rc4'.later b5
    have rx5 := rx4'.later b5
    go_wp2_with fail
    refine (spec_E8Signal _ _ _ 20 _ w5 (h1.later B5) (by omega)).mono ?_
    rintro e w6 ⟨As, cs, zs, rfl, rs, ls, sm, b6⟩
    have B6 := bel_trans B5 b6
    have k6 : w6.cell? ⟨w1.heap.size, 0, none⟩ = some (.slice Ac xs.length cc) := by rw [b6.cell l5]; exact k5
    have l6 := Nat.lt_of_lt_of_le l5 b6.size
    have m6 : w6.cell? ⟨w3.heap.size, 0, none⟩ = some (.slice Ax xs.length cx) := by rw [b6.cell j5]; exact m5
    have j6 := Nat.lt_of_lt_of_le j5 b6.size
    have rc6 := rc5.later b6
    have rx6 := rx5.later b6
    have HA := Lib.hid (show M.applyR zs xs = (M.applyL zs xs, 0) by
      have h5 : M.sig zs = true := by
        rw [M.sig, Bool.and_eq_true, decide_eq_true_iff, List.all_eq_true]
        exact ⟨by omega, sm.out⟩
      rw [M.applyR, hok.out.1, h5]; rfl)
    go_wp2_with fail
    refine (impl_ApplyCurve _ _ _ _ _ _ _ _ w6 rs rc6 (by omega) (by omega)).mono ?_
    rintro e w7 ⟨v7, rfl, o7, b7⟩
    rw [HA.out] at o7 ⊢
    have HL := Lib.hid (M.applyL_len zs xs)
    obtain ⟨Ay, cy, rfl, ry⟩ := o7.shape
    clear o7
    rw [show (M.applyL zs xs, (0 : Int)).1 = M.applyL zs xs from rfl] at ry ⊢
    rw [HL.out] at ry ⊢
    have B7 := bel_trans B6 b7
    have k7 : w7.cell? ⟨w1.heap.size, 0, none⟩ = some (.slice Ac xs.length cc) := by rw [b7.cell l6]; exact k6
    have l7 := Nat.lt_of_lt_of_le l6 b7.size
    have m7 : w7.cell? ⟨w3.heap.size, 0, none⟩ = some (.slice Ax xs.length cx) := by rw [b7.cell j6]; exact m6
    have j7 := Nat.lt_of_lt_of_le j6 b7.size
    have rc7 := rc6.later b7
    have rx7 := rx6.later b7
    have rs7 := rs.later b7
    clear k1 k2 k3 k3' k4 k4' k5 k6 l1 l2 l3 l3' l4 l4' l5 l6 m3 m4 m4' m5 m6 j3 j4 j4' j5 j6 n4 rc rc1 rc2 rc3 rc3' rc4 rc4' rc5 rc6 rx rx3 rx4 rx4' rx5 rx6 rb rb4' B1 B2 B3 B3' B4 B4' B5 B6 b1 bU1 b2 b3 bU3 b4 bU4 b5 b6 b7 rs
    go_wp2_with fail
    go_loopw [14] (fun i wr => ∃ k : Nat, i = .int .i64 k ∧ k ≤ zs.length ∧ Below w7.heap.size w7 wr) (fun i _ => zs.length - (intOf i).toNat)
    case atStart => exact ⟨0, rfl, by omega, Below.refl _ _⟩
    case round =>
      obtain ⟨k, rfl, hk, hb⟩ := hrel
      have kr : wr.cell? ⟨w1.heap.size, 0, none⟩ = some (.slice Ac xs.length cc) := by rw [hb.cell l7]; exact k7
      have mr : wr.cell? ⟨w3.heap.size, 0, none⟩ = some (.slice Ax xs.length cx) := by rw [hb.cell j7]; exact m7
      have lr := Nat.lt_of_lt_of_le l7 hb.size
      have jr := Nat.lt_of_lt_of_le j7 hb.size
      by_cases hlt : k < zs.length
      · obtain ⟨ad, z, rfl, hab, X, hc⟩ := (rs7.below hb).at hlt
        have hz := (M.smp_bd (sm.out z (List.mem_of_getElem? X.out)))
        obtain ⟨ad', y, rfl, hab', Y, hc'⟩ := (ry.below hb).at hlt
        have hy : y = wrap32 (z * M.atC xs (k : Int) / 65536) := by
          have := Y.out
          rw [M.applyL_at X.out, Option.some.injEq] at this
          exact this.symm
        have V1 := Lib.hid (show M.valR xs (k : Int) = (M.atC xs k, 0) by rw [M.valR, hok.out.1, M.inn_iff.2 (by omega)]; rfl)
        have V2 := Lib.hid (show M.valR (M.shiftP xs d) ((k : Int) + d) = (M.atC xs k, 0) by rw [M.valR, G1.out, M.inn_iff.2 (by omega), M.atC_shift]; rfl)
        have hbr : ad.block < wr.heap.size := Nat.lt_of_lt_of_le hab hb.size
        have hbr' : ad'.block < wr.heap.size := Nat.lt_of_lt_of_le hab' hb.size
        generalize hu : M.atC xs (k : Int) = u at *
        have HY := Lib.hid hy
        clear hy hu
        have hu1 : (u = 65536 → y = z) ∧ (u = 0 → y = 0) := ⟨fun h => by rw [HY.out, h]; exact M.apply_full hz, fun h => by rw [HY.out, h]; exact M.apply_none z⟩
        have HU9 := Lib.hid hu1
        clear hu1
        have hkz : (k : Int) < (zs.length : Int) := by omega
        have main : ∀ w9, wr.heap.size ≤ w9.heap.size → Below wr.heap.size wr w9 → w9.cell? (ad.add k) = some (.int .i64 z) ∧ w9.cell? (ad'.add k) = some (.int .i64 y) := fun w9 _ h9 => ⟨by rw [h9.cell (by rw [block_of_add]; exact hbr)]; exact hc, by rw [h9.cell (by rw [block_of_add]; exact hbr')]; exact hc'⟩
        have MAIN := Lib.hid main
        clear main hc hc'
        go_wp2_with fail
        refine (impl_ValueAt _ _ _ _ (k : Int) wr (rc7.later hb) (by omega)).mono ?_
        rw [V1.out]
        rintro e w8 ⟨rfl, b8⟩
        have m8 : w8.cell? ⟨w3.heap.size, 0, none⟩ = some (.slice Ax xs.length cx) := by rw [b8.cell jr]; exact mr
        go_wp2_with fail
        refine (impl_ValueAt _ _ _ _ ((k : Int) + d) w8 ((rx7.later hb).later b8) (by omega)).mono ?_
        rw [V2.out]
        rintro e w9 ⟨rfl, b9⟩
        have B9 := bel_trans b8 b9
        obtain ⟨c1', c2'⟩ := MAIN.out w9 B9.size B9
        by_cases e0 : u = 65536
        · obtain rfl := HU9.out.1 e0
          subst e0
          go_wp2_with fail
          go_quiet (fail)
          go_wp2
          go_roundw
          case rel => exact ⟨k + 1, by go_num, by omega, hb.trans ((below_drewN B9 _).mono hb.size)⟩
          case measure => simp [intOf]; omega
        · by_cases e1 : u = 0
          · obtain rfl := HU9.out.2 e1
            subst e1
            go_wp2_with fail
            go_quiet (fail)
            go_wp2
            go_roundw
            case rel => exact ⟨k + 1, by go_num, by omega, hb.trans ((below_drewN B9 _).mono hb.size)⟩
            case measure => simp [intOf]; omega
          · have f0 : (u == 65536) = false := by simpa using e0
            have f1 : (u == 0) = false := by simpa using e1
            go_wp2_with fail
            go_quiet (fail)
            go_wp2
            go_roundw
            case rel => exact ⟨k + 1, by go_num, by omega, hb.trans ((below_drewN B9 _).mono hb.size)⟩
            case measure => simp [intOf]; omega
      · go_wp2
        go_ret
        exact ⟨rfl, bel_trans B7 hb⟩
  · go_enter Try.func6, Try.ntmps6
    go_wp2_with fail
    refine (laws_v8Long _ _ _ _ _ _ _).mono ?_
    rw [hlong]
    rintro e w' ⟨rfl, rfl⟩
    go_wp2
    go_ret
    exact ⟨rfl, Below.refl _ _⟩
end Go.Proofs.Ytckihflfjecpbaa
