import Derived.Test.YtecdendjlgohjaaDoorFnLinesG3
import Derived.Deep.Slices
import Derived.Deep.Fields
import Derived.ChangeSame
import Derived.Lib.SmallJoins
set_option linter.unusedVariables false
set_option linter.unusedSimpArgs false
namespace Go.Proofs.YtecdendjlgohjaaDoor
open Go.RowKit Go.Sort
set_option maxHeartbeats 1000000
set_option maxRecDepth 100000
/-! A curve at its points and between them. -/
theorem M.curve_split {xs : List (Int × Int)} (h : M.curveOk xs = true) {k : Nat} {p : Int × Int} (hp : xs[k]? = some p) :
    xs = xs.take k ++ p :: xs.drop (k + 1) ∧ ∀ q ∈ xs.take k, q.1 < p.1 := by
  obtain ⟨hk, he⟩ := List.getElem?_eq_some_iff.1 hp
  have h1 : xs = xs.take k ++ p :: xs.drop (k + 1) := by
    rw [← he, List.getElem_cons_drop, List.take_append_drop]
  refine ⟨h1, fun q hq => ?_⟩
  obtain ⟨-, hw, -⟩ := (M.curve_iff xs).1 h
  rw [h1, List.pairwise_append] at hw
  exact hw.2.2 q hq p (by simp)
theorem M.atC_from {xs : List (Int × Int)} (h : M.curveOk xs = true) {k : Nat} {p : Int × Int} (hp : xs[k]? = some p) {t : Int} (ht : p.1 ≤ t) : M.atC xs t = M.atGo p (xs.drop (k + 1)) t := by
  obtain ⟨h1, h2⟩ := M.curve_split h hp
  rw [congrArg (fun l => M.atC l t) h1]
  exact M.atC_back _ _ _ _ (fun q hq => by have := h2 q hq; omega) (by omega)
theorem M.atC_point {xs : List (Int × Int)} (h : M.curveOk xs = true) {k : Nat} {p : Int × Int} (hp : xs[k]? = some p) : M.atC xs p.1 = p.2 := by
  rw [M.atC_from h hp (Int.le_refl _)]
  by_cases h2 : k + 1 < xs.length
  · have hq := List.getElem?_eq_getElem h2
    rw [M.atGo_step hq, if_pos (M.curve_lt h (by omega) (by simpa using hp) hq), M.seg_at]
  · rw [M.atGo_end (by omega)]
theorem M.seg_between {p q : Int × Int} {t : Int} (h0 : p.1 ≤ t) (h1 : t < q.1) : min p.2 q.2 ≤ M.seg p q t ∧ M.seg p q t ≤ max p.2 q.2 := by
  unfold M.seg
  obtain ⟨s, hs⟩ : ∃ s, s = t - p.1 := ⟨_, rfl⟩
  obtain ⟨D, hD⟩ : ∃ D, D = q.1 - p.1 := ⟨_, rfl⟩
  obtain ⟨d, hd⟩ : ∃ d, d = q.2 - p.2 := ⟨_, rfl⟩
  rw [← hs, ← hD, ← hd]
  have hD0 : 0 < D := by omega
  have hs0 : 0 ≤ s := by omega
  have hsD : s ≤ D := by omega
  by_cases hd0 : 0 ≤ d
  · have e1 : 0 ≤ d * s / D := Int.ediv_nonneg (Int.mul_nonneg hd0 hs0) (by omega)
    have e2 : d * s / D ≤ d := by
      refine Int.ediv_le_of_le_mul hD0 ?_
      exact Int.mul_le_mul_of_nonneg_left hsD hd0
    omega
  · have e1 : d * s / D ≤ 0 := by
      refine Int.ediv_le_of_le_mul hD0 ?_
      have := Int.mul_nonneg (show 0 ≤ -d by omega) hs0
      rw [Int.neg_mul] at this
      omega
    have e2 : d ≤ d * s / D := by
      refine Int.le_ediv_of_mul_le hD0 ?_
      have := Int.mul_le_mul_of_nonneg_left hsD (show 0 ≤ -d by omega)
      rw [Int.neg_mul, Int.neg_mul] at this
      omega
    omega
theorem M.atC_between {xs : List (Int × Int)} (h : M.curveOk xs = true) {k : Nat} {p q : Int × Int} (hp : xs[k]? = some p) (hq : xs[k + 1]? = some q) {t : Int} (h0 : p.1 ≤ t) (h1 : t < q.1) :
    min p.2 q.2 ≤ M.atC xs t ∧ M.atC xs t ≤ max p.2 q.2 := by
  rw [M.atC_from h hp h0, M.atGo_step hq, if_pos h1]
  exact M.seg_between h0 h1
theorem M.setP_at (xs : List (Int × Int)) (p : Int × Int) : (M.setP xs p)[(xs.filter (fun q => decide (q.1 < p.1))).length]? = some p := by
  rw [M.setP, List.getElem?_append_right (Nat.le_refl _), Nat.sub_self]
  rfl
theorem M.setP_ok {xs : List (Int × Int)} {p : Int × Int} (h : M.curveOk xs = true) (hp : M.ptOk p = true) (hl : (M.setP xs p).length ≤ 24) : M.curveOk (M.setP xs p) = true := by
  obtain ⟨h1, h2, h3⟩ := (M.curve_iff xs).1 h
  refine (M.curve_iff _).2 ⟨fun q hq => ?_, ?_, ?_, hl⟩
  · rw [M.setP, List.mem_append, List.mem_cons] at hq
    rcases hq with hq | rfl | hq
    · exact h1 q (List.mem_filter.1 hq).1
    · exact hp
    · exact h1 q (List.mem_filter.1 hq).1
  · rw [M.setP, List.pairwise_append, List.pairwise_cons]
    refine ⟨h2.filter _, ⟨fun q hq => by simpa using (List.mem_filter.1 hq).2, h2.filter _⟩, fun a ha b hb => ?_⟩
    have ha' : a.1 < p.1 := by simpa using (List.mem_filter.1 ha).2
    rcases List.mem_cons.1 hb with rfl | hb
    · exact ha'
    · have : p.1 < b.1 := by simpa using (List.mem_filter.1 hb).2
      omega
  · rw [M.setP, List.length_append, List.length_cons]; omega
/-- The text of a curve is read back. -/
theorem M.readI_text {xs : List (Int × Int)} (h : M.curveOk xs = true) : M.readI M.curveOk (M.curveText xs) = some xs := by
  rw [M.readI_eq M.curve_nil, M.curveText, if_pos h]
  refine M.readS_text M.curve_nil h fun p hp => ?_
  obtain ⟨k, hk⟩ := List.getElem?_of_mem hp
  have := M.curve_pt h hk
  omega
/-! A drawn point. -/
theorem spec_E8Point (A : Option Addr) (n c : Nat) (code : List UInt8) (w : World) (hr : RS tU8 w w.heap.size (.slice A n c) code) :
    Calls Tryd.prog 23 #[.slice A n c] w fun e w' => ∃ p0 p1 : Int, e = .returned (.agg #[.int .i64 p0, .int .i64 p1]) ∧ (0 ≤ p0 ∧ p0 ≤ 59) ∧ (-200 ≤ p1 ∧ p1 ≤ 199) ∧ Below w.heap.size w w' := by
  obtain ⟨W, hW⟩ : ∃ W, W = w.alloc (.cells #[.int .i64 0, .int .i64 0] 52) := ⟨_, rfl⟩
  have B0 : Below w.heap.size w W := by rw [hW]; exact (Below.refl _ _).alloc (Nat.le_refl _) _
  have z0 : w.heap.size + 1 ≤ W.heap.size := by rw [hW]; simp
  have q0 : W.cell? ⟨w.heap.size, 0, none⟩ = some (.int .i64 0) := by rw [hW]; simp [go_sem]
  have q1 : W.cell? ⟨w.heap.size, 1, none⟩ = some (.int .i64 0) := by rw [hW]; simp [go_sem]
  have f0 : W.frozen? ⟨w.heap.size, 0, none⟩ = false := by rw [hW]; simp [go_sem]
  have f1 : W.frozen? ⟨w.heap.size, 1, none⟩ = false := by rw [hW]; simp [go_sem]
  have HW := Lib.hid hW
  clear hW
  have hr0 := hr.later B0
  go_enter Tryd.func23, Tryd.ntmps23
  go_wp2_with fail
  rw [← HW.out]
  refine (spec_l00From A n c code W hr0).mono ?_
  rintro e w1 ⟨b, rfl, hb, s1, b1, z1⟩
  have hbl : w.heap.size + 1 ≤ b := by omega
  have lt1 : b + 1 ≤ w1.heap.size := by omega
  clear z1 hb
  go_wp2_with fail
  refine (src_pick b _ A n c code 0 60 w1 s1 (by omega) (by omega)).mono ?_
  rintro e w2 ⟨x, rfl, ⟨x0, x1⟩, s2, m2⟩
  go_wp2_with fail
  refine (src_pick b _ A n c code _ 400 w2 s2 (by omega) (by omega)).mono ?_
  rintro e w3 ⟨y, rfl, ⟨y0, y1⟩, s3, m3⟩
  have t2 := m2.size
  have t3 := m3.size
  have c0 : w3.cell? ⟨w.heap.size, 0, none⟩ = some (.int .i64 0) := by rw [World.cell?_of_block (m3.block w.heap.size (by omega) (.inl (by omega))), World.cell?_of_block (m2.block w.heap.size (by omega) (.inl (by omega))), b1.cell (by show w.heap.size < _; omega)]; exact q0
  have c1 : w3.cell? ⟨w.heap.size, 1, none⟩ = some (.int .i64 0) := by rw [World.cell?_of_block (m3.block w.heap.size (by omega) (.inl (by omega))), World.cell?_of_block (m2.block w.heap.size (by omega) (.inl (by omega))), b1.cell (by show w.heap.size < _; omega)]; exact q1
  have g0 : w3.frozen? ⟨w.heap.size, 0, none⟩ = false := by rw [World.frozen?_of_block (m3.block w.heap.size (by omega) (.inl (by omega))), World.frozen?_of_block (m2.block w.heap.size (by omega) (.inl (by omega))), b1.frozen (by show w.heap.size < _; omega)]; exact f0
  have g1 : w3.frozen? ⟨w.heap.size, 1, none⟩ = false := by rw [World.frozen?_of_block (m3.block w.heap.size (by omega) (.inl (by omega))), World.frozen?_of_block (m2.block w.heap.size (by omega) (.inl (by omega))), b1.frozen (by show w.heap.size < _; omega)]; exact f1
  have B3 : Below w.heap.size w w3 := (B0.trans (b1.mono (by omega))).trans ((m2.toBelow (lo := b) (by omega)).trans (m3.toBelow (lo := b) (by omega)) |>.mono (by omega))
  have x2 : x ≤ 59 ∧ y ≤ 399 := by omega
  clear x1 y1
  go_wp2
  refine bodyPost_ret (v := .agg #[.int .i64 x, .int .i64 (y - 200)]) (by simp [results, Tryd.results23, go_sem, c0, c1, g0, g1]) rfl ?_
  exact ⟨x, y - 200, rfl, by omega, by omega, (B3.setCell (Nat.le_refl _) _).setCell (Nat.le_refl _) _⟩
end Go.Proofs.YtecdendjlgohjaaDoor
namespace Go.Proofs.YtecdendjlgohjaaDoor
open Go.RowKit
set_option maxHeartbeats 4000000
set_option maxRecDepth 100000
theorem spec_ValidCurve (A : Option Addr) (n c : Nat) (xs : List (Int × Int)) (w : World) (hx : RA pt 2 w w.heap.size A n xs) (hn : n ≤ 1000000000) :
    Calls Tryd.prog 29 #[.agg #[.slice A n c]] w fun e w' => e = .returned (.bool (M.curveOk xs)) ∧ Below w.heap.size w w' := by
  have B : Below w.heap.size w (w.alloc (.cells #[.slice A n c] 29)) := (Below.refl _ _).alloc (Nat.le_refl _) _
  have h := spec_l25Ok w.heap.size A n c xs (w.alloc (.cells #[.slice A n c] 29)) (by simp [go_sem]) (hx.later B) hn
  go_enter Tryd.func29, Tryd.ntmps29
  go_wp2_with fail
  refine h.mono ?_
  rintro e w' ⟨rfl, b⟩
  go_wp2
  go_ret
  exact ⟨rfl, bel_trans B b⟩
theorem core_FnLines (A0 : Option Addr) (n0 : Nat) (c0 : Nat) (x0 : List UInt8) (A1 : Option Addr) (n1 : Nat) (c1 : Nat) (x1 : List UInt8) (w : World) (hT : LAD w) (h0 : RS tU8 w w.heap.size (.slice A0 n0 c0) x0) (h1 : RS tU8 w w.heap.size (.slice A1 n1 c1) x1) :
    Calls Tryd.prog 6 #[.slice A0 n0 c0, .slice A1 n1 c1] w fun e w' => e = .returned (.bool true) ∧ Below w.heap.size w w' := by
  have HT := Lib.hid hT
  clear hT
  cases hlong : (decide (1048576 < n0) || decide (1048576 < n1))
  · have hlong' := Lib.hid hlong
    clear hlong
    go_enter Tryd.func6, Tryd.ntmps6
    go_wp2_with fail
    refine (laws_v8Long _ _ _ _ _ _ _).mono ?_
    rw [hlong'.out]
    rintro e w' ⟨rfl, rfl⟩
    go_wp2_with fail
    refine (spec_E8Curve _ _ _ _ _ h0).mono ?_
    rintro e w1 ⟨Ac, cc, xs, rfl, rc, hok, lx, hcc, hcm, b1⟩
    obtain ⟨U1, hU⟩ : ∃ U, U = w1.alloc (.cells #[.slice Ac xs.length cc] 29) := ⟨_, rfl⟩
    have bU1 : Below w1.heap.size w1 U1 := by rw [hU]; exact (Below.refl _ _).alloc (Nat.le_refl _) _
    have k1 : U1.cell? ⟨w1.heap.size, 0, none⟩ = some (.slice Ac xs.length cc) := by rw [hU]; simp [go_sem]
    have l1 : w1.heap.size < U1.heap.size := by rw [hU]; simp
    have HU1 := Lib.hid hU
    clear hU
    have B1 := bel_trans b1 bU1
    have rc1 := rc.later bU1
    go_wp2_with fail
    rw [← HU1.out]
    refine (spec_E8Point _ _ _ _ U1 (h1.later B1)).mono ?_
    rintro e w2 ⟨p0, p1, rfl, hp0, hp1, b2⟩
    have B2 := bel_trans B1 b2
    have rc2 := rc1.later b2
    have k2 : w2.cell? ⟨w1.heap.size, 0, none⟩ = some (.slice Ac xs.length cc) := by rw [b2.cell l1]; exact k1
    have l2 := Nat.lt_of_lt_of_le l1 b2.size
    obtain ⟨U2, hU⟩ : ∃ U, U = w2.alloc (.cells #[.int .i64 p0, .int .i64 p1] 52) := ⟨_, rfl⟩
    have bU2 : Below w2.heap.size w2 U2 := by rw [hU]; exact (Below.refl _ _).alloc (Nat.le_refl _) _
    have m2 : U2.cell? ⟨w2.heap.size, 0, none⟩ = some (.int .i64 p0) := by rw [hU]; simp [go_sem]
    have n2 : U2.cell? ⟨w2.heap.size, 1, none⟩ = some (.int .i64 p1) := by rw [hU]; simp [go_sem]
    have j2 : w2.heap.size < U2.heap.size := by rw [hU]; simp
    have HU2 := Lib.hid hU
    clear hU
    have B2' := bel_trans B2 bU2
    have rc2' := rc2.later bU2
    have k2' : U2.cell? ⟨w1.heap.size, 0, none⟩ = some (.slice Ac xs.length cc) := by rw [bU2.cell l2]; exact k2
    have l2' := Nat.lt_of_lt_of_le l2 bU2.size
    have HR := Lib.hid (show M.rendR xs 100 = (M.rend xs 100, 0) by rw [M.rendR, hok.out.1, M.inn_iff.2 (by omega)]; rfl)
    go_wp2_with fail
    rw [← HU2.out]
    refine (impl_RenderCurve _ _ _ _ 100 U2 rc2' (by omega)).mono ?_
    rw [HR.out]
    rintro e w3 ⟨v3, rfl, o3, b3⟩
    have HL := Lib.hid (M.rend_len xs 100)
    obtain ⟨Al, cl, rfl, rl⟩ := o3.shape
    clear o3
    rw [show (M.rend xs 100, (0 : Int)).1 = M.rend xs 100 from rfl] at rl ⊢
    rw [HL.out] at rl ⊢
    have B3 := bel_trans B2' b3
    have rc3 := rc2'.later b3
    have k3 : w3.cell? ⟨w1.heap.size, 0, none⟩ = some (.slice Ac xs.length cc) := by rw [b3.cell l2']; exact k2'
    have l3 := Nat.lt_of_lt_of_le l2' b3.size
    have m3 : w3.cell? ⟨w2.heap.size, 0, none⟩ = some (.int .i64 p0) := by rw [b3.cell j2]; exact m2
    have n3 : w3.cell? ⟨w2.heap.size, 1, none⟩ = some (.int .i64 p1) := by rw [b3.cell j2]; exact n2
    have j3 := Nat.lt_of_lt_of_le j2 b3.size
    go_wp2_with fail
    refine (impl_CurveText _ _ _ _ w3 rc3 (by omega) (HT.out.on B3).1).mono ?_
    rintro e w4 ⟨rfl, b4⟩
    have B4 := bel_trans B3 b4
    have rc4 := rc3.later b4
    have rl4 := rl.later b4
    have k4 : w4.cell? ⟨w1.heap.size, 0, none⟩ = some (.slice Ac xs.length cc) := by rw [b4.cell l3]; exact k3
    have l4 := Nat.lt_of_lt_of_le l3 b4.size
    have m4 : w4.cell? ⟨w2.heap.size, 0, none⟩ = some (.int .i64 p0) := by rw [b4.cell j3]; exact m3
    have n4 : w4.cell? ⟨w2.heap.size, 1, none⟩ = some (.int .i64 p1) := by rw [b4.cell j3]; exact n3
    have j4 := Nat.lt_of_lt_of_le j3 b4.size
    have HX := Lib.hid (show M.readI M.curveOk (⟨(M.curveText xs).toArray⟩ : ByteArray).data.toList = some xs by
      rw [show (⟨(M.curveText xs).toArray⟩ : ByteArray).data.toList = M.curveText xs by simp]
      exact M.readI_text hok.out.1)
    have HZ := Lib.hid (show (⟨(M.curveText xs).toArray⟩ : ByteArray).size ≤ 100000000 by
      rw [M.size_mk, M.curveText, if_pos hok.out.1]
      have := M.cvText_bound hok.out.1
      omega)
    go_wp2_with fail
    refine (impl_ReadCurve _ w4 HZ.out (HT.out.on B4)).mono ?_
    rw [HX.out]
    intro e w5 hr5
    obtain ⟨v5, rfl, o5, b5⟩ := hr5
    obtain ⟨Ab, cb, rfl, rb⟩ := o5.shape
    clear o5
    rw [show (some xs).getD [] = xs from rfl] at rb ⊢
    obtain ⟨U5, hU⟩ : ∃ U, U = w5.alloc (.cells #[.slice Ab xs.length cb] 29) := ⟨_, rfl⟩
    have bU5 : Below w5.heap.size w5 U5 := by rw [hU]; exact (Below.refl _ _).alloc (Nat.le_refl _) _
    have q5 : U5.cell? ⟨w5.heap.size, 0, none⟩ = some (.slice Ab xs.length cb) := by rw [hU]; simp [go_sem]
    have HU5 := Lib.hid hU
    clear hU
    have b5' := bel_trans b5 bU5
    have k5w : w5.cell? ⟨w1.heap.size, 0, none⟩ = some (.slice Ac xs.length cc) := by rw [b5.cell l4]; exact k4
    have l5w := Nat.lt_of_lt_of_le l4 b5.size
    have B5 := bel_trans B4 b5'
    have rc5 := rc4.later b5'
    have rl5 := rl4.later b5'
    have rb5 := rb.later bU5
    have k5 : U5.cell? ⟨w1.heap.size, 0, none⟩ = some (.slice Ac xs.length cc) := by rw [b5'.cell l4]; exact k4
    have l5 := Nat.lt_of_lt_of_le l4 b5'.size
    have m5 : U5.cell? ⟨w2.heap.size, 0, none⟩ = some (.int .i64 p0) := by rw [b5'.cell j4]; exact m4
    have n5 : U5.cell? ⟨w2.heap.size, 1, none⟩ = some (.int .i64 p1) := by rw [b5'.cell j4]; exact n4
    have j5 := Nat.lt_of_lt_of_le j4 b5'.size
    go_wp2_with fail
    rw [← HU5.out]
    refine (spec_SameCurve _ _ _ _ _ _ xs xs U5 rb5 rc5 (by omega) (by omega)).mono ?_
    rw [decide_eq_true rfl]
    rintro e w6 ⟨rfl, b6⟩
    have B6 := bel_trans B5 b6
    have rc6 := rc5.later b6
    have rl6 := rl5.later b6
    have k6 : w6.cell? ⟨w1.heap.size, 0, none⟩ = some (.slice Ac xs.length cc) := by rw [b6.cell l5]; exact k5
    have l6 := Nat.lt_of_lt_of_le l5 b6.size
    have m6 : w6.cell? ⟨w2.heap.size, 0, none⟩ = some (.int .i64 p0) := by rw [b6.cell j5]; exact m5
    have n6 : w6.cell? ⟨w2.heap.size, 1, none⟩ = some (.int .i64 p1) := by rw [b6.cell j5]; exact n5
    have j6 := Nat.lt_of_lt_of_le j5 b6.size
    clear k5w l5w k1 k2 k2' k3 k4 k5 l1 l2 l2' l3 l4 l5 m2 m3 m4 m5 n2 n3 n4 n5 j2 j3 j4 j5 q5 rc rc1 rc2 rc2' rc3 rc4 rc5 rl rl4 rl5 rb rb5 B1 B2 B2' B3 B4 B5 b1 bU1 b2 bU2 b3 b4 b5 bU5 b5' b6
    have hlen := M.curve_len hok.out.1
    obtain ⟨b, o, x00, rfl, hab, -, -⟩ := rc6.at pt_len (by decide) (k := 0) (by omega)
    go_wp2_with fail
    go_loopw [11] (fun i wr => ∃ k : Nat, i = .int .i64 k ∧ k ≤ xs.length ∧ Below w6.heap.size w6 wr) (fun i _ => xs.length - (intOf i).toNat)
    case atStart => exact ⟨0, rfl, by omega, Below.refl _ _⟩
    case round =>
      obtain ⟨k, rfl, hk, hb⟩ := hrel
      have kr : wr.cell? ⟨w1.heap.size, 0, none⟩ = some (.slice (some ⟨b, o, none⟩) xs.length cc) := by rw [hb.cell l6]; exact k6
      have lr := Nat.lt_of_lt_of_le l6 hb.size
      by_cases hlt : k < xs.length
      · obtain ⟨⟨q0, q1⟩, X, hc⟩ := (rc6.below hb).cells pt_len (by decide) hlt
        have hd0 : wr.cell? ⟨b, o + k * 2, none⟩ = some (.int .i64 q0) := hc 0 _ rfl
        have hd1 : wr.cell? ⟨b, o + k * 2 + 1, none⟩ = some (.int .i64 q1) := hc 1 _ rfl
        clear hc
        have hbr : b < wr.heap.size := Nat.lt_of_lt_of_le hab hb.size
        have hpt := M.curve_pt hok.out.1 X.out
        obtain ⟨a, rfl⟩ : ∃ a : Nat, q0 = a := ⟨q0.toNat, by omega⟩
        have V1 := Lib.hid (show M.valR xs (a : Int) = (q1, 0) by rw [M.valR, hok.out.1, M.inn_iff.2 (by omega), M.atC_point hok.out.1 X.out]; rfl)
        have ha4 : a ≤ 4000 := by omega
        clear hpt
        go_wp2_with fail
        refine (impl_ValueAt _ _ _ _ (a : Int) wr (rc6.later hb) (by omega)).mono ?_
        rw [V1.out]
        rintro e w8 ⟨rfl, b8⟩
        have B8 := bel_trans hb b8
        have k8 : w8.cell? ⟨w1.heap.size, 0, none⟩ = some (.slice (some ⟨b, o, none⟩) xs.length cc) := by rw [b8.cell lr]; exact kr
        have e0 : w8.cell? ⟨b, o + k * 2, none⟩ = some (.int .i64 (a : Int)) := by rw [b8.cell hbr]; exact hd0
        have e1 : w8.cell? ⟨b, o + k * 2 + 1, none⟩ = some (.int .i64 q1) := by rw [b8.cell hbr]; exact hd1
        clear hd0 hd1 kr
        by_cases h100 : a < 100
        · obtain ⟨ad, z, rfl, hal, Z, hz⟩ := (rl6.below B8).at h100
          have hzq := Lib.hid (show z = q1 by
            have h1 := Z.out
            rw [M.rend_at h100, Option.some.injEq] at h1
            rw [← h1]
            exact M.atC_point hok.out.1 X.out)
          rw [hzq.out] at hz
          clear hzq Z
          by_cases hk0 : k = 0
          · have tk : ((k : Int) == 0) = true := by simpa using hk0
            clear hk0
            go_wp2_with fail
            go_roundw
            case rel => exact ⟨k + 1, by go_num, by omega, B8⟩
            case measure => simp [intOf]; omega
          · have tk : ((k : Int) == 0) = false := by simpa using hk0
            have hkp : 0 < k := by omega
            obtain ⟨⟨g0, g1⟩, Y, hc⟩ := (rc6.below B8).cells pt_len (by decide) (k := k - 1) (by omega)
            have f0 : w8.cell? ⟨b, o + (k - 1) * 2, none⟩ = some (.int .i64 g0) := hc 0 _ rfl
            have f1 : w8.cell? ⟨b, o + (k - 1) * 2 + 1, none⟩ = some (.int .i64 g1) := hc 1 _ rfl
            have hpp := M.curve_pt hok.out.1 Y.out
            obtain ⟨a0, rfl⟩ : ∃ a0 : Nat, g0 = a0 := ⟨g0.toNat, by omega⟩
            have haa : a0 < a := by have := M.curve_lt hok.out.1 (by omega) Y.out X.out; simp only at this; omega
            have BTW := Lib.hid (fun (j : Nat) (h1 : a0 ≤ j) (h2 : j < a) => M.atC_between hok.out.1 (t := (j : Int)) Y.out (show xs[k - 1 + 1]? = some ((a : Int), q1) by rw [show k - 1 + 1 = k by omega]; exact X.out) (show (a0 : Int) ≤ j by omega) (show (j : Int) < a by omega))
            clear hc hpp
            by_cases hg : q1 < g1
            · clear hk0
              go_wp2_with fail
              obtain ⟨wo, rfl⟩ : ∃ wo : World, wo = wr := ⟨_, rfl⟩
              go_loopw [17] (fun t wt => ∃ j : Nat, t = .int .i64 j ∧ a0 ≤ j ∧ j ≤ a ∧ Below w6.heap.size w6 wt) (fun t _ => a - (intOf t).toNat)
              case atStart => exact ⟨a0, rfl, by omega, by omega, B8⟩
              case round =>
                obtain ⟨j, rfl, hj0, hj1, hbt⟩ := hrel
                by_cases hja : j < a
                · by_cases hj100 : j < 100
                  · obtain ⟨ad2, y, hal2, hab2, Z2, hy⟩ := (rl6.below hbt).at hj100
                    have hyv := Lib.hid (show y = M.atC xs (j : Int) by
                      have h1 := Z2.out
                      rw [M.rend_at hj100, Option.some.injEq] at h1
                      exact h1.symm)
                    have hbt2 := BTW.out j hj0 hja
                    rw [← hyv.out] at hbt2
                    try simp only at hbt2
                    have y0 : ¬ y < q1 := by omega
                    have y1 : ¬ g1 < y := by omega
                    clear hbt2 Z2
                    obtain rfl := Option.some.inj hal2
                    go_wp2_with fail
                    go_roundw
                    case rel => exact ⟨j + 1, by go_num, by omega, by omega, hbt⟩
                    case measure => simp [intOf]; omega
                  · exfalso; omega
                · go_wp2_with fail
                  go_roundw
                  case rel => exact ⟨k + 1, by go_num, by omega, hbt⟩
                  case measure => simp [intOf]; omega
            · clear hk0
              go_wp2_with fail
              obtain ⟨wo, rfl⟩ : ∃ wo : World, wo = wr := ⟨_, rfl⟩
              go_loopw [17] (fun t wt => ∃ j : Nat, t = .int .i64 j ∧ a0 ≤ j ∧ j ≤ a ∧ Below w6.heap.size w6 wt) (fun t _ => a - (intOf t).toNat)
              case atStart => exact ⟨a0, rfl, by omega, by omega, B8⟩
              case round =>
                obtain ⟨j, rfl, hj0, hj1, hbt⟩ := hrel
                by_cases hja : j < a
                · by_cases hj100 : j < 100
                  · obtain ⟨ad2, y, hal2, hab2, Z2, hy⟩ := (rl6.below hbt).at hj100
                    have hyv := Lib.hid (show y = M.atC xs (j : Int) by
                      have h1 := Z2.out
                      rw [M.rend_at hj100, Option.some.injEq] at h1
                      exact h1.symm)
                    have hbt2 := BTW.out j hj0 hja
                    rw [← hyv.out] at hbt2
                    try simp only at hbt2
                    have y0 : ¬ y < g1 := by omega
                    have y1 : ¬ q1 < y := by omega
                    clear hbt2 Z2
                    obtain rfl := Option.some.inj hal2
                    go_wp2_with fail
                    go_roundw
                    case rel => exact ⟨j + 1, by go_num, by omega, by omega, hbt⟩
                    case measure => simp [intOf]; omega
                  · exfalso; omega
                · go_wp2_with fail
                  go_roundw
                  case rel => exact ⟨k + 1, by go_num, by omega, hbt⟩
                  case measure => simp [intOf]; omega
        · by_cases hk0 : k = 0
          · have tk : ((k : Int) == 0) = true := by simpa using hk0
            clear hk0
            go_wp2_with fail
            go_roundw
            case rel => exact ⟨k + 1, by go_num, by omega, B8⟩
            case measure => simp [intOf]; omega
          · have tk : ((k : Int) == 0) = false := by simpa using hk0
            have hkp : 0 < k := by omega
            obtain ⟨⟨g0, g1⟩, Y, hc⟩ := (rc6.below B8).cells pt_len (by decide) (k := k - 1) (by omega)
            have f0 : w8.cell? ⟨b, o + (k - 1) * 2, none⟩ = some (.int .i64 g0) := hc 0 _ rfl
            have f1 : w8.cell? ⟨b, o + (k - 1) * 2 + 1, none⟩ = some (.int .i64 g1) := hc 1 _ rfl
            have hpp := M.curve_pt hok.out.1 Y.out
            obtain ⟨a0, rfl⟩ : ∃ a0 : Nat, g0 = a0 := ⟨g0.toNat, by omega⟩
            have haa : a0 < a := by have := M.curve_lt hok.out.1 (by omega) Y.out X.out; simp only at this; omega
            have BTW := Lib.hid (fun (j : Nat) (h1 : a0 ≤ j) (h2 : j < a) => M.atC_between hok.out.1 (t := (j : Int)) Y.out (show xs[k - 1 + 1]? = some ((a : Int), q1) by rw [show k - 1 + 1 = k by omega]; exact X.out) (show (a0 : Int) ≤ j by omega) (show (j : Int) < a by omega))
            clear hc hpp
            by_cases hg : q1 < g1
            · clear hk0
              go_wp2_with fail
              obtain ⟨wo, rfl⟩ : ∃ wo : World, wo = wr := ⟨_, rfl⟩
              go_loopw [17] (fun t wt => ∃ j : Nat, t = .int .i64 j ∧ a0 ≤ j ∧ j ≤ a ∧ Below w6.heap.size w6 wt) (fun t _ => a - (intOf t).toNat)
              case atStart => exact ⟨a0, rfl, by omega, by omega, B8⟩
              case round =>
                obtain ⟨j, rfl, hj0, hj1, hbt⟩ := hrel
                by_cases hja : j < a
                · by_cases hj100 : j < 100
                  · obtain ⟨ad2, y, hal2, hab2, Z2, hy⟩ := (rl6.below hbt).at hj100
                    have hyv := Lib.hid (show y = M.atC xs (j : Int) by
                      have h1 := Z2.out
                      rw [M.rend_at hj100, Option.some.injEq] at h1
                      exact h1.symm)
                    have hbt2 := BTW.out j hj0 hja
                    rw [← hyv.out] at hbt2
                    try simp only at hbt2
                    have y0 : ¬ y < q1 := by omega
                    have y1 : ¬ g1 < y := by omega
                    clear hbt2 Z2
                    subst hal2
                    go_wp2_with fail
                    go_roundw
                    case rel => exact ⟨j + 1, by go_num, by omega, by omega, hbt⟩
                    case measure => simp [intOf]; omega
                  · go_wp2_with fail
                    go_roundw
                    case rel => exact ⟨k + 1, by go_num, by omega, hbt⟩
                    case measure => simp [intOf]; omega
                · go_wp2_with fail
                  go_roundw
                  case rel => exact ⟨k + 1, by go_num, by omega, hbt⟩
                  case measure => simp [intOf]; omega
            · clear hk0
              go_wp2_with fail
              obtain ⟨wo, rfl⟩ : ∃ wo : World, wo = wr := ⟨_, rfl⟩
              go_loopw [17] (fun t wt => ∃ j : Nat, t = .int .i64 j ∧ a0 ≤ j ∧ j ≤ a ∧ Below w6.heap.size w6 wt) (fun t _ => a - (intOf t).toNat)
              case atStart => exact ⟨a0, rfl, by omega, by omega, B8⟩
              case round =>
                obtain ⟨j, rfl, hj0, hj1, hbt⟩ := hrel
                by_cases hja : j < a
                · by_cases hj100 : j < 100
                  · obtain ⟨ad2, y, hal2, hab2, Z2, hy⟩ := (rl6.below hbt).at hj100
                    have hyv := Lib.hid (show y = M.atC xs (j : Int) by
                      have h1 := Z2.out
                      rw [M.rend_at hj100, Option.some.injEq] at h1
                      exact h1.symm)
                    have hbt2 := BTW.out j hj0 hja
                    rw [← hyv.out] at hbt2
                    try simp only at hbt2
                    have y0 : ¬ y < g1 := by omega
                    have y1 : ¬ q1 < y := by omega
                    clear hbt2 Z2
                    subst hal2
                    go_wp2_with fail
                    go_roundw
                    case rel => exact ⟨j + 1, by go_num, by omega, by omega, hbt⟩
                    case measure => simp [intOf]; omega
                  · go_wp2_with fail
                    go_roundw
                    case rel => exact ⟨k + 1, by go_num, by omega, hbt⟩
                    case measure => simp [intOf]; omega
                · go_wp2_with fail
                  go_roundw
                  case rel => exact ⟨k + 1, by go_num, by omega, hbt⟩
                  case measure => simp [intOf]; omega
      · have hkn : k = xs.length := by omega
        have HV := Lib.hid (show M.setR xs (p0, p1) = if (M.setP xs (p0, p1)).length ≤ 24 then (M.setP xs (p0, p1), 0) else ([], 5) by
          rw [M.setR, hok.out.1, show M.ptOk (p0, p1) = true by rw [M.ptOk, Bool.and_eq_true, M.inn_iff, M.inn_iff]; simp only; omega]; rfl)
        have rcr := rc6.later hb
        have mr : wr.cell? ⟨w2.heap.size, 0, none⟩ = some (.int .i64 p0) := by rw [hb.cell j6]; exact m6
        have nr : wr.cell? ⟨w2.heap.size, 1, none⟩ = some (.int .i64 p1) := by rw [hb.cell j6]; exact n6
        have jr := Nat.lt_of_lt_of_le j6 hb.size
        by_cases h24 : (M.setP xs (p0, p1)).length ≤ 24
        · have HV2 := Lib.hid (show M.setR xs (p0, p1) = (M.setP xs (p0, p1), 0) by rw [HV.out, if_pos h24])
          have HY := Lib.hid (M.setP_ok hok.out.1 (show M.ptOk (p0, p1) = true by rw [M.ptOk, Bool.and_eq_true, M.inn_iff, M.inn_iff]; simp only; omega) h24)
          have HP := Lib.hid (M.atC_point HY.out (M.setP_at xs (p0, p1)))
          obtain ⟨ys, hys⟩ : ∃ ys, ys = M.setP xs (p0, p1) := ⟨_, rfl⟩
          rw [← hys] at HV2 HY HP h24
          have HVY := Lib.hid (show M.valR ys p0 = (p1, 0) by rw [M.valR, HY.out, M.inn_iff.2 (by omega)]; exact congrArg (fun z : Int => (z, (0 : Int))) HP.out)
          clear hys HV HP
          go_wp2_with fail
          refine (impl_SetPoint _ _ _ xs p0 p1 wr rcr (by omega)).mono ?_
          rw [HV2.out]
          intro e u1 hr1
          obtain ⟨v1, rfl, o1, d1⟩ := hr1
          obtain ⟨Ay, cy, rfl, ry⟩ := o1.shape
          clear o1
          rw [show (ys, (0 : Int)).1 = ys from rfl] at ry ⊢
          obtain ⟨V1, hU⟩ : ∃ U, U = u1.alloc (.cells #[.slice Ay ys.length cy] 29) := ⟨_, rfl⟩
          have bV1 : Below u1.heap.size u1 V1 := by rw [hU]; exact (Below.refl _ _).alloc (Nat.le_refl _) _
          have t1 : V1.cell? ⟨u1.heap.size, 0, none⟩ = some (.slice Ay ys.length cy) := by rw [hU]; simp [go_sem]
          have l9 : u1.heap.size < V1.heap.size := by rw [hU]; simp
          have HV1 := Lib.hid hU
          clear hU
          have mu : u1.cell? ⟨w2.heap.size, 0, none⟩ = some (.int .i64 p0) := by rw [d1.cell jr]; exact mr
          have nu : u1.cell? ⟨w2.heap.size, 1, none⟩ = some (.int .i64 p1) := by rw [d1.cell jr]; exact nr
          have ju := Nat.lt_of_lt_of_le jr d1.size
          have D1 := bel_trans hb (bel_trans d1 bV1)
          go_wp2_with fail
          rw [← HV1.out]
          refine (impl_ValueAt _ _ _ ys p0 V1 (ry.later bV1) (by omega)).mono ?_
          rw [HVY.out]
          rintro e u2 ⟨rfl, d2⟩
          have t2 : u2.cell? ⟨u1.heap.size, 0, none⟩ = some (.slice Ay ys.length cy) := by rw [d2.cell l9]; exact t1
          have n2' : u2.cell? ⟨w2.heap.size, 1, none⟩ = some (.int .i64 p1) := by rw [d2.cell (Nat.lt_of_lt_of_le ju bV1.size), bV1.cell ju]; exact nu
          go_wp2_with fail
          refine (spec_ValidCurve _ _ _ ys u2 ((ry.later bV1).later d2) (by omega)).mono ?_
          rw [HY.out]
          rintro e u3 ⟨rfl, d3⟩
          have n3' : u3.cell? ⟨w2.heap.size, 1, none⟩ = some (.int .i64 p1) := by rw [d3.cell (Nat.lt_of_lt_of_le (Nat.lt_of_lt_of_le ju bV1.size) d2.size)]; exact n2'
          go_wp2_with fail
          go_ret
          exact ⟨rfl, bel_trans B6 (bel_trans D1 (bel_trans d2 d3))⟩
        · have HV2 := Lib.hid (show M.setR xs (p0, p1) = ([], 5) by rw [HV.out, if_neg h24])
          clear HV
          go_wp2_with fail
          refine (impl_SetPoint _ _ _ xs p0 p1 wr rcr (by omega)).mono ?_
          rw [HV2.out]
          intro e u1 hr1
          obtain ⟨v1, rfl, o1, d1⟩ := hr1
          obtain ⟨A9, c9, rfl, -⟩ := o1.shape
          clear o1
          rw [show ([] : List (Int × Int)).length = 0 from rfl]
          have ku : u1.cell? ⟨w1.heap.size, 0, none⟩ = some (.slice (some ⟨b, o, none⟩) xs.length cc) := by rw [d1.cell lr]; exact kr
          have lu := Nat.lt_of_lt_of_le lr d1.size
          have mu : u1.cell? ⟨w2.heap.size, 0, none⟩ = some (.int .i64 p0) := by rw [d1.cell jr]; exact mr
          have nu : u1.cell? ⟨w2.heap.size, 1, none⟩ = some (.int .i64 p1) := by rw [d1.cell jr]; exact nr
          have ju := Nat.lt_of_lt_of_le jr d1.size
          have bV1 : Below u1.heap.size u1 (u1.alloc (.cells #[.slice A9 0 c9] 29)) := (Below.refl _ _).alloc (Nat.le_refl _) _
          go_wp2_with fail
          refine (spec_SetPoint _ _ _ xs p0 p1 _ ((rcr.later d1).later bV1) (by omega)).mono ?_
          rw [HV2.out]
          intro e u2 hr2
          obtain ⟨v2, rfl, o2, d2⟩ := hr2
          obtain ⟨A8, c8, rfl, -⟩ := o2.shape
          clear o2
          go_wp2_with fail
          go_ret
          exact ⟨rfl, bel_trans B6 (bel_trans hb (bel_trans d1 (bel_trans bV1 d2 |>.alloc (bel_trans bV1 d2).size _)))⟩
  · go_enter Tryd.func6, Tryd.ntmps6
    go_wp2_with fail
    refine (laws_v8Long _ _ _ _ _ _ _).mono ?_
    rw [hlong]
    rintro e w' ⟨rfl, rfl⟩
    go_wp2
    go_ret
    exact ⟨rfl, Below.refl _ _⟩
end Go.Proofs.YtecdendjlgohjaaDoor
namespace Go.Proofs.YtecdendjlgohjaaDoor
open Go.ChangeShapes Go.WideShapes Go.Deep Go.RowKit
/-- Whatever came in at this type reads as something. -/
def Opens (P : Program) (T : TypeId) {α : Type} (t : Ty α) : Prop :=
  ∀ {H : Type} (enc : TypeId × Value → H) (w : World) (base : Nat) (spare : Nat → Bool) (held : Bool) (fuel : Nat) (cs : List Value) (d : DataW H × List MemPlace), DataW.trod enc P w base spare held fuel T cs = some d → ∃ x, t.R w w.heap.size cs x
section
variable {P : Program} {T : TypeId}
theorem opens_sl {α : Type} {t : Ty α} {e e' : TypeId} (ht : P.underlying T = some (.slice e)) (hC : P.cellsOf e = t.s) (he : Opens P e t) : Opens P T (t.sl e') := by
  intro H enc w base spare held fuel cs d h
  rcases open_slice ht h with ⟨rfl, _⟩ | ⟨a, len, cap, m, n, D, Pl, rfl, hb, hl, hm, hmm, hx, hi⟩
  · exact ⟨[], _, rfl, RS.nil _ _ _⟩
  · have hlm : len ≤ m := by rw [hmm]; split <;> omega
    have key : ∀ i, ∃ p : List Value × α, i < len → t.R w w.heap.size p.1 p.2 ∧ ∀ j u, p.1[j]? = some u → w.cell? (a.add (i * t.s + j)) = some u := by
      intro i
      by_cases hil : i < len
      · obtain ⟨cs', hc, ht'⟩ := hi i (by omega)
        rw [hC] at hc
        obtain ⟨x, hR⟩ := he enc w base spare held n cs' _ ht'
        obtain ⟨_, hcl, hat⟩ := World.cells?_some hc
        refine ⟨(cs', x), fun _ => ⟨hR, fun j u hu => ?_⟩⟩
        have hj : j < t.s := by rw [← hcl]; exact (List.getElem?_eq_some_iff.1 hu).1
        have := hat j hj
        rw [Go.Deep.add_add] at this
        rw [this]
        exact hu
      · exact ⟨([], t.zero), fun hc => absurd hc hil⟩
    obtain ⟨g, hg⟩ : ∃ g : Nat → List Value × α, ∀ i, i < len → t.R w w.heap.size (g i).1 (g i).2 ∧ ∀ j u, (g i).1[j]? = some u → w.cell? (a.add (i * t.s + j)) = some u := ⟨fun i => Classical.choose (key i), fun i => Classical.choose_spec (key i)⟩
    have hs : ∀ c ∈ (List.range len).map (fun i => (g i).1), c.length = t.s := by
      intro c hc
      obtain ⟨i, hi, rfl⟩ := List.mem_map.1 hc
      exact t.rlen (hg i (List.mem_range.1 hi)).1
    refine ⟨(List.range len).map fun i => (g i).2, _, rfl, some a, cap, (List.range len).map fun i => (g i).1, by simp, by simpa using hl, hm, by simp, ?_, ?_⟩
    · refine ⟨by rw [flat2_len hs]; simp, fun hn => ⟨a, rfl, ?_, fun j u hu => ?_⟩⟩
      · have hn' : 0 < len := by simpa using hn
        have h0 := (hg 0 hn')
        have hp := t.pos
        obtain ⟨u, hu⟩ : ∃ u, (g 0).1[0]? = some u := ⟨_, List.getElem?_eq_getElem (by rw [t.rlen h0.1]; exact hp)⟩
        have := World.block_lt_of_cell? _ _ (h0.2 0 u hu)
        rwa [block_of_add] at this
      · have hj : j < len * t.s := by have := (List.getElem?_eq_some_iff.1 hu).1; rw [flat2_len hs] at this; simpa using this
        have hk : j / t.s < len := Nat.div_lt_of_lt_mul (by rw [Nat.mul_comm]; exact hj)
        have hr : j % t.s < t.s := Nat.mod_lt _ t.pos
        have e0 : j / t.s * t.s + j % t.s = j := by rw [Nat.mul_comm]; exact Nat.div_add_mod j t.s
        have hf := flat2_at hs (k := j / t.s) (c := (g (j / t.s)).1) (by simp [hk]) (j % t.s) hr
        rw [e0, hu] at hf
        have := (hg _ hk).2 (j % t.s) u hf.symm
        rwa [e0] at this
    · intro k hk hk'
      simp only [List.length_map, List.length_range] at hk
      simp only [List.getElem_map, List.getElem_range]
      exact (hg k hk).1
end
end Go.Proofs.YtecdendjlgohjaaDoor
namespace Go.Proofs.YtecdendjlgohjaaDoor
open Go.RowKit
theorem opens_u8 {P : Program} {T : TypeId} (h : P.underlying T = some (.int .u8)) : Opens P T tU8 := fun _ _ _ _ _ _ _ _ ht => by
  obtain ⟨n, rfl, _, hw⟩ := DataW.trod_int h ht
  have hb : 0 ≤ n ∧ n ≤ 255 := by
    simp only [Lit.wf, Bool.and_eq_true, decide_eq_true_eq, show IntKind.u8.min = 0 from by decide, show IntKind.u8.max = 255 from by decide] at hw
    exact hw
  refine ⟨UInt8.ofNat n.toNat, ?_⟩
  show [Value.int .u8 n] = [.int .u8 ((UInt8.ofNat n.toNat).toNat : Int)]
  have h2 : (UInt8.ofNat n.toNat).toNat = n.toNat := by rw [UInt8.toNat_ofNat']; omega
  rw [h2, Int.toNat_of_nonneg hb.1]
abbrev tU : Ty (List UInt8) := tU8.sl 5
theorem opens_U : Opens Tryd.prog 48 tU := opens_sl Tryd.underlying48 (by kernel_rfl) (opens_u8 Tryd.underlying5)
end Go.Proofs.YtecdendjlgohjaaDoor
