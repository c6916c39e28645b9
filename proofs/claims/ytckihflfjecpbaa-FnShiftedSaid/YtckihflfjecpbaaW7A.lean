import Derived.Test.YtckihflfjecpbaaW76
namespace Go.Proofs.Ytckihflfjecpbaa
open Go.RowKit
set_option maxHeartbeats 2000000
set_option maxRecDepth 100000
theorem impl_ShiftCurve (A : Option Addr) (n c : Nat) (xs : List (Int × Int)) (d : Int) (w : World) (hx : RA pt 2 w w.heap.size A n xs) (hn : n ≤ 1000000000) :
    Calls Try.prog 35 #[.agg #[.slice A n c], .int .i64 d] w (RetC 34 w (M.shiftR xs d)) := by
  have hl := Lib.hid hx.len
  obtain ⟨W, hW⟩ : ∃ W, W = (w.alloc (.cells #[.slice A n c] 30)).alloc (.cells #[.slice none 0 0] 30) := ⟨_, rfl⟩
  have B0 : Below w.heap.size w W := by rw [hW]; exact ((Below.refl _ _).alloc (Nat.le_refl _) _).alloc (by simp) _
  have z0 : w.heap.size + 1 + 1 ≤ W.heap.size := by rw [hW]; simp
  have p0 : W.cell? ⟨w.heap.size, 0, none⟩ = some (.slice A n c) := by rw [hW]; simp [go_sem]
  have q0 : W.cell? ⟨w.heap.size + 1, 0, none⟩ = some (.slice none 0 0) := by rw [hW]; simp [go_sem]
  have f0 : W.frozen? ⟨w.heap.size + 1, 0, none⟩ = false := by rw [hW]; simp [go_sem]
  have hx1 := hx.later B0
  have HW := Lib.hid hW
  clear hW
  cases hok : M.curveOk xs
  · have hr := Lib.hid (show M.shiftR xs d = ([], 1) by rw [M.shiftR, hok]; rfl)
    have HM := Lib.hid hok
    clear hok
    go_enter Try.func35, Try.ntmps35
    go_wp2_with fail
    rw [← HW.out]
    refine (impl_isCurve _ _ _ _ _ hx1 hn).mono ?_
    rw [HM.out]
    rintro e w2 ⟨rfl, bel2⟩
    have q2 : w2.cell? ⟨w.heap.size + 1, 0, none⟩ = some (.slice none 0 0) := by rw [bel2.cell (by show w.heap.size + 1 < _; omega)]; exact q0
    have f2 : w2.frozen? ⟨w.heap.size + 1, 0, none⟩ = false := by rw [bel2.frozen (by show w.heap.size + 1 < _; omega)]; exact f0
    go_wp2
    refine bodyPost_ret (v := .tuple #[.agg #[.slice none 0 0], .int .i64 1]) (by simp [results, Try.results35, go_sem, q2, f2]) rfl ?_
    rw [hr.out]
    exact ⟨_, rfl, OA.nil _, (bel_trans B0 bel2).setCell (by simp) _⟩
  · have HM := Lib.hid hok
    clear hok
    have hd := M.clampT_bd d
    have HD := Lib.hid (show M.clampT d = max (-8000) (min 8000 d) from rfl)
    have hcl : n ≤ 24 := by have := (M.curve_len HM.out).2; rw [hl.out] at this; exact this
    go_enter Try.func35, Try.ntmps35
    go_wp2_with fail
    rw [← HW.out]
    refine (impl_isCurve _ _ _ _ _ hx1 hn).mono ?_
    rw [HM.out]
    rintro e w2 ⟨rfl, bel2⟩
    have s2 := bel2.size
    have p2 : w2.cell? ⟨w.heap.size, 0, none⟩ = some (.slice A n c) := by rw [bel2.cell (by show w.heap.size < _; omega)]; exact p0
    have q2 : w2.cell? ⟨w.heap.size + 1, 0, none⟩ = some (.slice none 0 0) := by rw [bel2.cell (by show w.heap.size + 1 < _; omega)]; exact q0
    have f2 : w2.frozen? ⟨w.heap.size + 1, 0, none⟩ = false := by rw [bel2.frozen (by show w.heap.size + 1 < _; omega)]; exact f0
    have B2 := bel_trans B0 bel2
    go_wp2_with fail
    refine (slices_Clone_impl_CurvePoint_impl_CurvePoint _ _ _ _ _ (hx.later B2) hn).mono ?_
    rintro e w3 ⟨v3, rfl, own3, bel3⟩
    have s3 := bel3.size
    obtain ⟨A3, c3, rfl, -⟩ := own3.shape
    rw [hl.out] at own3 ⊢
    obtain ⟨U, hU⟩ : ∃ U, U = w3.alloc (.cells #[.slice A3 n c3] 30) := ⟨_, rfl⟩
    have bo : Below w3.heap.size w3 U := by rw [hU]; exact (Below.refl _ _).alloc (Nat.le_refl _) _
    have zU : w3.heap.size < U.heap.size := by rw [hU]; simp
    have cU : U.cell? ⟨w3.heap.size, 0, none⟩ = some (.slice A3 n c3) := by rw [hU]; simp [go_sem]
    have HU := Lib.hid hU
    clear hU
    have B4 := bel_trans (bel_trans B2 bel3) bo
    have bel4 := bel_trans bel3 bo
    have qU : U.cell? ⟨w.heap.size + 1, 0, none⟩ = some (.slice none 0 0) := by rw [bel4.cell (by show w.heap.size + 1 < _; omega)]; exact q2
    have fU : U.frozen? ⟨w.heap.size + 1, 0, none⟩ = false := by rw [bel4.frozen (by show w.heap.size + 1 < _; omega)]; exact f2
    have ownU := own3.below bo (Nat.le_refl _)
    clear own3 p0 q0 f0 p2 q2 f2 hx1 bel3 bel4 bo
    go_wp2_with fail
    rw [← HU.out]
    go_loopw [7, 19] (fun _ i wr => ∃ k : Nat, i = .int .i64 k ∧ k ≤ n ∧ OA pt 34 2 w2.heap.size w3.heap.size wr (.slice A3 n c3) ((M.shiftP xs (M.clampT d)).take k ++ xs.drop k) ∧ Mid w2.heap.size w3.heap.size U wr) (fun _ i _ => n - (intOf i).toNat)
    case atStart => exact ⟨0, rfl, by omega, by simpa using ownU, Mid.refl _ _ _⟩
    case round =>
      obtain ⟨k, rfl, hk, own, hm⟩ := hrel
      have hzr := hm.size
      have cr : wr.cell? ⟨w3.heap.size, 0, none⟩ = some (.slice A3 n c3) := by rw [World.cell?_of_block (hm.block w3.heap.size (by omega) (.inr (Nat.le_refl _)))]; exact cU
      have hzw : w3.heap.size < wr.heap.size := by omega
      by_cases hlt : k < n
      · obtain ⟨g, rfl, hg1, hg2, hg3, -⟩ := own.form (by omega)
        obtain ⟨⟨y0, y1⟩, hy⟩ : ∃ y, xs[k]? = some y := ⟨_, List.getElem?_eq_getElem (by rw [hl.out]; exact hlt)⟩
        have hb := M.curve_pt HM.out hy
        have HY := Lib.hid hy
        have hD := Lib.hid (show ((M.shiftP xs (M.clampT d)).take k ++ xs.drop k)[k]? = some (y0, y1) by rw [M.mid_at (by rw [M.shiftP_len])]; exact hy)
        have e0 := (OA.cell pt_len own hD.out (j := 0) (u := .int .i64 y0) rfl).1
        have g0 := (OA.cell pt_len own hD.out (j := 0) (u := .int .i64 y0) rfl).2
        rw [Nat.add_zero] at e0 g0
        clear hy
        have hw1 : IntKind.i64.wrap (y0 + M.clampT d) = y0 + M.clampT d := IntWalk.i64_in _ (by omega)
        go_wp2
        go_roundw
        case rel =>
          have h2 := OA.set pt_len own hD.out (j := 0) (y := (y0 + M.clampT d, y1)) (u := .int .i64 (y0 + M.clampT d)) (by decide) rfl
          rw [M.set_mid (by rw [M.shiftP_len]) (M.shiftP_at _ HY.out), Nat.add_zero] at h2
          rw [show (if -8000 < (if d < 8000 then d else 8000) then (if d < 8000 then d else 8000) else -8000) = M.clampT d by unfold M.clampT; (repeat' split) <;> omega]
          exact ⟨k + 1, by go_num, by omega, h2.1, hm.trans h2.2⟩
        case measure => simp [intOf]; omega
      · obtain rfl : n = k := by omega
        rw [List.take_of_length_le (by rw [M.shiftP_len, hl.out]; exact Nat.le_refl _), List.drop_eq_nil_of_le (by rw [hl.out]; exact Nat.le_refl _), List.append_nil] at own
        have qr : wr.cell? ⟨w.heap.size + 1, 0, none⟩ = some (.slice none 0 0) := by rw [World.cell?_of_block (hm.block (w.heap.size + 1) (by omega) (.inl (by omega)))]; exact qU
        have fr : wr.frozen? ⟨w.heap.size + 1, 0, none⟩ = false := by rw [World.frozen?_of_block (hm.block (w.heap.size + 1) (by omega) (.inl (by omega)))]; exact fU
        have Br := B4.trans ((hm.toBelow (by omega)).mono (by omega))
        have HLS := Lib.hid (M.shiftP_len xs (M.clampT d))
        have rar : RA pt 2 wr wr.heap.size A3 n (M.shiftP xs (M.clampT d)) := by
          have h9 := own.shape
          obtain ⟨A9, c9, hv, h9⟩ := h9
          rw [HLS.out, hl.out] at hv h9
          simp only [Value.slice.injEq] at hv
          obtain ⟨rfl, -, rfl⟩ := hv
          exact h9
        cases hok2 : M.curveOk (M.shiftP xs (M.clampT d))
        · have hr := Lib.hid (show M.shiftR xs d = ([], 2) by rw [M.shiftR, HM.out, hok2]; rfl)
          have HO := Lib.hid hok2
          clear hok2
          go_wp2_with fail
          refine (impl_isCurve _ _ _ _ _ rar hn).mono ?_
          rw [HO.out]
          rintro e w6 ⟨rfl, bel6⟩
          have q6 : w6.cell? ⟨w.heap.size + 1, 0, none⟩ = some (.slice none 0 0) := by rw [bel6.cell (by show w.heap.size + 1 < _; omega)]; exact qr
          have f6 : w6.frozen? ⟨w.heap.size + 1, 0, none⟩ = false := by rw [bel6.frozen (by show w.heap.size + 1 < _; omega)]; exact fr
          go_wp2
          refine bodyPost_ret (v := .tuple #[.agg #[.slice none 0 0], .int .i64 2]) (by simp [results, Try.results35, go_sem, q6, f6]) rfl ?_
          rw [hr.out]
          exact ⟨_, rfl, OA.nil _, (bel_trans Br bel6).setCell (by simp) _⟩
        · have hr := Lib.hid (show M.shiftR xs d = (M.shiftP xs (M.clampT d), 0) by rw [M.shiftR, HM.out, hok2]; rfl)
          have HO := Lib.hid hok2
          clear hok2
          go_wp2_with fail
          refine (impl_isCurve _ _ _ _ _ rar hn).mono ?_
          rw [HO.out]
          rintro e w6 ⟨rfl, bel6⟩
          have s6 := bel6.size
          have q6 : w6.cell? ⟨w.heap.size + 1, 0, none⟩ = some (.slice none 0 0) := by rw [bel6.cell (by show w.heap.size + 1 < _; omega)]; exact qr
          have f6 : w6.frozen? ⟨w.heap.size + 1, 0, none⟩ = false := by rw [bel6.frozen (by show w.heap.size + 1 < _; omega)]; exact fr
          have c6 : w6.cell? ⟨w3.heap.size, 0, none⟩ = some (.slice A3 n c3) := by rw [bel6.cell (by show w3.heap.size < _; omega)]; exact cr
          go_wp2
          refine bodyPost_ret (v := .tuple #[.agg #[.slice A3 n c3], .int .i64 0]) (by simp [results, Try.results35, go_sem, q6, f6]) rfl ?_
          rw [hr.out]
          exact ⟨_, rfl, ((own.below bel6 (by omega)).mid (Mid.cell w6 (w.heap.size + 1) 0 (.slice A3 n c3)) (.inr (by omega)) (by omega)).wide (by omega) (by simp; omega), (bel_trans Br bel6).setCell (by simp) _⟩
end Go.Proofs.Ytckihflfjecpbaa
