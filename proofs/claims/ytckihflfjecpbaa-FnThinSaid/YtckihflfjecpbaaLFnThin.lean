import Derived.Test.YtckihflfjecpbaaW77
import Derived.Test.YtckihflfjecpbaaW7B
import Derived.Test.YtckihflfjecpbaaW34
namespace Go.Proofs.Ytckihflfjecpbaa
open Go.RowKit
set_option maxHeartbeats 4000000
set_option maxRecDepth 100000
theorem retC_nil {e : TypeId} {w w' : World} {r : List (Int × Int) × Int} {en : Ending} {ys : List (Int × Int)} (h : RetC e w r en w') (hr : r = (ys, 0)) :
    ∃ A c, en = .returned (.tuple #[.agg #[.slice A ys.length c], .int .i64 0]) ∧ RA pt 2 w' w'.heap.size A ys.length ys ∧ ys.length ≤ c ∧ c ≤ maxLen ∧ Below w.heap.size w w' := by
  subst hr
  obtain ⟨v, rfl, own, bel⟩ := h
  obtain ⟨A, c, rfl, ra⟩ := own.shape
  exact ⟨A, c, rfl, ra, own.cap.1, own.cap.2, bel⟩
theorem ret2_nil {e : TypeId} {w w' : World} {r : List Int × Int} {en : Ending} {ys : List Int} (h : Ret2 e w r en w') (hr : r = (ys, 0)) :
    ∃ A c, en = .returned (.tuple #[.slice A ys.length c, .int .i64 0]) ∧ RI w' w'.heap.size A ys.length ys ∧ Below w.heap.size w w' := by
  subst hr
  obtain ⟨v, rfl, own, bel⟩ := h
  obtain ⟨A, c, rfl, ra⟩ := own.shape
  exact ⟨A, c, rfl, ra, bel⟩
theorem core_FnThin (A0 : Option Addr) (n0 : Nat) (c0 : Nat) (x0 : List UInt8) (w : World) (h0 : RS tU8 w w.heap.size (.slice A0 n0 c0) x0) :
    Calls Try.prog 8 #[.slice A0 n0 c0] w fun e w' => e = .returned (.bool true) ∧ Below w.heap.size w w' := by
  have hn0 : n0 ≤ 9223372036854775807 := by have h1 := h0.cap.2; unfold maxLen at h1; omega
  by_cases hlong : 1048576 < n0
  · go_enter Try.func8, Try.ntmps8
    go_wp2
    go_ret
    exact ⟨rfl, Below.refl _ _⟩
  · go_enter Try.func8, Try.ntmps8
    go_wp2_with fail
    refine (spec_E8Curve _ _ _ _ _ h0).mono ?_
    rintro e w1 ⟨Ac, cc, xs, rfl, rc, hok, lx, hcc, hcm, b1⟩
    obtain ⟨U1, hU⟩ : ∃ U, U = w1.alloc (.cells #[.slice Ac xs.length cc] 30) := ⟨_, rfl⟩
    have bU1 : Below w1.heap.size w1 U1 := by rw [hU]; exact (Below.refl _ _).alloc (Nat.le_refl _) _
    have k1 : U1.cell? ⟨w1.heap.size, 0, none⟩ = some (.slice Ac xs.length cc) := by rw [hU]; simp [go_sem]
    have l1 : w1.heap.size < U1.heap.size := by rw [hU]; simp
    have HU1 := Lib.hid hU
    clear hU
    have B1 := bel_trans b1 bU1
    have rc1 := rc.later bU1
    obtain ⟨ys, g1, g2, ly, g3, g4, g5, g6⟩ := M.thinned hok.out.1 hok.out.2
    have G1 := Lib.hid g1
    have G2 := Lib.hid g2
    have G3 := Lib.hid g3
    have G4 := Lib.hid g4
    have G5 := Lib.hid g5
    have G6 := Lib.hid g6
    clear g1 g2 g3 g4 g5 g6
    have hrl := Lib.hid (M.rend_len xs 120)
    go_wp2_with fail
    rw [← HU1.out]
    refine (impl_ThinCurve _ _ _ _ U1 rc1 (by omega)).mono ?_
    intro e w2 hr
    obtain ⟨Ax, cx, rfl, rx, hx1, hx2, b2⟩ := retC_nil hr G1.out
    clear hr
    have k2 : w2.cell? ⟨w1.heap.size, 0, none⟩ = some (.slice Ac xs.length cc) := by rw [b2.cell l1]; exact k1
    have l2 := Nat.lt_of_lt_of_le l1 b2.size
    obtain ⟨U2, hU⟩ : ∃ U, U = w2.alloc (.cells #[.slice Ax ys.length cx] 30) := ⟨_, rfl⟩
    have bU2 : Below w2.heap.size w2 U2 := by rw [hU]; exact (Below.refl _ _).alloc (Nat.le_refl _) _
    have j2 : U2.cell? ⟨w2.heap.size, 0, none⟩ = some (.slice Ax ys.length cx) := by rw [hU]; simp [go_sem]
    have i2 : w2.heap.size < U2.heap.size := by rw [hU]; simp
    have HU2 := Lib.hid hU
    clear hU
    have B2 := bel_trans B1 (bel_trans b2 bU2)
    have rc2 := rc1.later (bel_trans b2 bU2)
    have rx2 := rx.later bU2
    have k2' : U2.cell? ⟨w1.heap.size, 0, none⟩ = some (.slice Ac xs.length cc) := by rw [bU2.cell l2]; exact k2
    have l2' := Nat.lt_of_lt_of_le l2 bU2.size
    go_wp2_with fail
    rw [← HU2.out]
    refine (spec_RenderCurve _ _ _ _ 120 U2 rc2 (by omega)).mono ?_
    intro e w3 hr
    obtain ⟨Aa, ca, rfl, ra, b3⟩ := ret2_nil hr G3.out
    clear hr
    rw [hrl.out] at ra ⊢
    have B3 := bel_trans B2 b3
    have k3 : w3.cell? ⟨w1.heap.size, 0, none⟩ = some (.slice Ac xs.length cc) := by rw [b3.cell l2']; exact k2'
    have l3 := Nat.lt_of_lt_of_le l2' b3.size
    have j3 : w3.cell? ⟨w2.heap.size, 0, none⟩ = some (.slice Ax ys.length cx) := by rw [b3.cell i2]; exact j2
    have i3 := Nat.lt_of_lt_of_le i2 b3.size
    have rx3 := rx2.later b3
    go_wp2_with fail
    refine (spec_RenderCurve _ _ _ _ 120 w3 rx3 (by omega)).mono ?_
    intro e w4 hr
    obtain ⟨Ab, cb, rfl, rb, b4⟩ := ret2_nil hr G4.out
    clear hr
    rw [hrl.out] at rb ⊢
    have B4 := bel_trans B3 b4
    have k4 : w4.cell? ⟨w1.heap.size, 0, none⟩ = some (.slice Ac xs.length cc) := by rw [b4.cell l3]; exact k3
    have l4 := Nat.lt_of_lt_of_le l3 b4.size
    have j4 : w4.cell? ⟨w2.heap.size, 0, none⟩ = some (.slice Ax ys.length cx) := by rw [b4.cell i3]; exact j3
    have i4 := Nat.lt_of_lt_of_le i3 b4.size
    have rx4 := rx3.later b4
    have ra4 := ra.later b4
    go_wp2_with fail
    refine (laws_v8Same _ _ _ _ _ _ _ _ w4 ra4 rb (by omega)).mono ?_
    rw [decide_eq_true rfl]
    rintro e w5 ⟨rfl, b5⟩
    have B5 := bel_trans B4 b5
    have k5 : w5.cell? ⟨w1.heap.size, 0, none⟩ = some (.slice Ac xs.length cc) := by rw [b5.cell l4]; exact k4
    have l5 := Nat.lt_of_lt_of_le l4 b5.size
    have j5 : w5.cell? ⟨w2.heap.size, 0, none⟩ = some (.slice Ax ys.length cx) := by rw [b5.cell i4]; exact j4
    have i5 := Nat.lt_of_lt_of_le i4 b5.size
    have rx5 := rx4.later b5
    have rb5 := rb.later b5
    have hxy : ¬ xs.length < ys.length := by omega
    have hxy2 : ¬ (xs.length : Int) < (ys.length : Int) := by omega
    go_wp2_with fail
    refine (impl_ThinCurve _ _ _ _ w5 rx5 (by omega)).mono ?_
    intro e w6 hr
    obtain ⟨Ag, cg, rfl, rg, hg1, hg2, b6⟩ := retC_nil hr G5.out
    clear hr
    have j6 : w6.cell? ⟨w2.heap.size, 0, none⟩ = some (.slice Ax ys.length cx) := by rw [b6.cell i5]; exact j5
    have i6 := Nat.lt_of_lt_of_le i5 b6.size
    obtain ⟨U6, hU⟩ : ∃ U, U = w6.alloc (.cells #[.slice Ag ys.length cg] 30) := ⟨_, rfl⟩
    have bU6 : Below w6.heap.size w6 U6 := by rw [hU]; exact (Below.refl _ _).alloc (Nat.le_refl _) _
    have m6 : U6.cell? ⟨w6.heap.size, 0, none⟩ = some (.slice Ag ys.length cg) := by rw [hU]; simp [go_sem]
    have HU6 := Lib.hid hU
    clear hU
    have B6 := bel_trans B5 (bel_trans b6 bU6)
    have rx6 := rx5.later (bel_trans b6 bU6)
    have rb6 := rb5.later (bel_trans b6 bU6)
    have rg6 := rg.later bU6
    have j6' : U6.cell? ⟨w2.heap.size, 0, none⟩ = some (.slice Ax ys.length cx) := by rw [bU6.cell i6]; exact j6
    have i6' := Nat.lt_of_lt_of_le i6 bU6.size
    go_wp2_with fail
    rw [← HU6.out]
    refine (spec_SameCurve _ _ _ _ _ _ ys ys U6 rg6 rx6 (by omega) (by omega)).mono ?_
    rw [decide_eq_true rfl]
    rintro e w7 ⟨rfl, b7⟩
    have B7 := bel_trans B6 b7
    have j7 : w7.cell? ⟨w2.heap.size, 0, none⟩ = some (.slice Ax ys.length cx) := by rw [b7.cell i6']; exact j6'
    have i7 := Nat.lt_of_lt_of_le i6' b7.size
    have rx7 := rx6.later b7
    have rb7 := rb6.later b7
    clear k1 k2 k2' k3 k4 k5 l1 l2 l2' l3 l4 l5 j2 j3 j4 j5 j6 j6' i2 i3 i4 i5 i6 i6' m6 rc rc1 rc2 rx rx2 rx3 rx4 rx5 rx6 ra ra4 rb rb5 rb6 rg rg6 B1 B2 B3 B4 B5 B6 b1 b2 b3 b4 b5 b6 b7 bU1 bU2 bU6 hxy hxy2
    go_wp2_with fail
    go_loopw [12] (fun i wr => ∃ k : Nat, i = .int .i64 k ∧ k ≤ ys.length ∧ Below w7.heap.size w7 wr) (fun i _ => ys.length - (intOf i).toNat)
    case atStart => exact ⟨0, rfl, by omega, Below.refl _ _⟩
    case round =>
      obtain ⟨k, rfl, hk, hb⟩ := hrel
      have jr : wr.cell? ⟨w2.heap.size, 0, none⟩ = some (.slice Ax ys.length cx) := by rw [hb.cell i7]; exact j7
      have ir := Nat.lt_of_lt_of_le i7 hb.size
      by_cases hlt : k < ys.length
      · by_cases h1 : 1 < ys.length
        · obtain ⟨d1, d2, d3⟩ := G6.out k hlt h1
          have D1 := Lib.hid d1
          have D2 := Lib.hid d2
          have D3 := Lib.hid d3
          have DL := Lib.hid (M.dropP_len ys hlt)
          have hrl2 := Lib.hid (M.rend_len (M.dropP ys k) 120)
          clear d1 d2 d3
          go_wp2_with fail
          refine (impl_DropPoint _ _ _ _ (k : Int) wr (rx7.later hb) (by omega) hx1 hx2).mono ?_
          intro e w8 hr
          obtain ⟨Ad, cd, rfl, rd, -, -, b8⟩ := retC_nil hr D1.out
          clear hr
          obtain ⟨U8, hU⟩ : ∃ U, U = w8.alloc (.cells #[.slice Ad (M.dropP ys k).length cd] 30) := ⟨_, rfl⟩
          have bU8 : Below w8.heap.size w8 U8 := by rw [hU]; exact (Below.refl _ _).alloc (Nat.le_refl _) _
          have m8 : U8.cell? ⟨w8.heap.size, 0, none⟩ = some (.slice Ad (M.dropP ys k).length cd) := by rw [hU]; simp [go_sem]
          have HU8 := Lib.hid hU
          clear hU
          have B8 := bel_trans b8 bU8
          have rd8 := rd.later bU8
          go_wp2_with fail
          rw [← HU8.out]
          refine (spec_RenderCurve _ _ _ _ 120 U8 rd8 (by have := DL.out; omega)).mono ?_
          intro e w9 hr
          obtain ⟨Ae, ce, rfl, re, b9⟩ := ret2_nil hr D2.out
          clear hr
          rw [hrl2.out] at re ⊢
          have B9 := bel_trans B8 b9
          go_wp2_with fail
          refine (laws_v8Same _ _ _ _ _ _ _ _ w9 re ((rb7.later hb).later B9) (by omega)).mono ?_
          rw [decide_eq_false D3.out]
          rintro e w10 ⟨rfl, b10⟩
          go_wp2
          go_roundw
          case rel => exact ⟨k + 1, by go_num, by omega, hb.trans ((bel_trans B9 b10).mono hb.size)⟩
          case measure => simp [intOf]; omega
        · have h2 : ¬ 1 < (ys.length : Int) := by omega
          go_wp2
          go_ret
          exact ⟨rfl, bel_trans B7 hb⟩
      · go_wp2
        go_ret
        exact ⟨rfl, bel_trans B7 hb⟩
end Go.Proofs.Ytckihflfjecpbaa
