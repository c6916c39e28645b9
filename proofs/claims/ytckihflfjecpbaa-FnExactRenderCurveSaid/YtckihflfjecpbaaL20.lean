import Derived.Test.YtckihflfjecpbaaW29
namespace Go.Proofs.Ytckihflfjecpbaa
open Go.RowKit Go.Sort
set_option maxHeartbeats 1000000
set_option maxRecDepth 100000
theorem OI.ox {e : TypeId} {B : Nat} {w : World} {v : Value} {xs : List Int} (h : OI e B w v xs) : OX e 1 B w.heap.size w v xs.length (xs.map (.int .i64)) := OX.of_own h
theorem OX.oi {e : TypeId} {lo hi : Nat} {w : World} {v : Value} {xs : List Int} (h : OX e 1 lo hi w v xs.length (xs.map (.int .i64))) : OI e lo w v xs := h.1
theorem core_FnExactRenderCurve (A : Option Addr) (n c : Nat) (xs : List (Int × Int)) (t : Int) (zs : List Int) (q : Int) (w : World) (hx : RA pt 2 w w.heap.size A n xs) (hz : zs.length ≤ 100000000)
    (hS : ∀ A n c w, RA pt 2 w w.heap.size A n xs → n ≤ 1000000000 → Calls Try.prog 27 #[.agg #[.slice A n c], .int .i64 t] w (Ret2 2 w (zs, q)))
    (hI : ∀ A n c w, RA pt 2 w w.heap.size A n xs → n ≤ 1000000000 → Calls Try.prog 28 #[.agg #[.slice A n c], .int .i64 t] w (Ret2 2 w (zs, q)))
    (hn9 : n ≤ 9223372036854775807) :
    Calls Try.prog 5 #[.agg #[.slice A n c], .int .i64 t] w fun e w' => e = .returned (.bool true) ∧ Below w.heap.size w w' := by
  have HS := Lib.hid hS
  have HI := Lib.hid hI
  have hl := Lib.hid hx.len
  clear hS hI
  have hself := lay_cell w (.slice A n c) 24
  have hsize : (w.alloc (.cells #[.slice A n c] 24)).heap.size = w.heap.size + 1 := by simp
  have hbw : Below w.heap.size w (w.alloc (.cells #[.slice A n c] 24)) := (Below.refl _ _).alloc (Nat.le_refl _) _
  by_cases hbig : 1048576 < n
  · have hi := Lib.hid (show (if (n : Int) ≤ 1048576 then (1048576 : Int) - n else -1) = -1 by rw [if_neg (by omega)])
    go_enter Try.func5, Try.ntmps5
    go_wp2_with (go_at_call 17; refine (laws_szCurve _ _ _ _ _ (by omega) hn9).mono ?_; rw [hi.out]; rintro e w0 ⟨rfl, b0⟩)
    go_ret
    exact ⟨rfl, hbw.trans (b0.mono hbw.size)⟩
  have hn : n ≤ 100000000 := by omega
  have hxn : xs.length ≤ 100000000 := by rw [hl.out]; exact hn
  have hi := Lib.hid (show (if (n : Int) ≤ 1048576 then (1048576 : Int) - n else -1) = 1048576 - n by rw [if_pos (by omega)])
  have hd : decide ((1048576 : Int) - n < 0) = false := by simp; omega
  go_enter Try.func5, Try.ntmps5
  go_wp2_with fail
  refine (laws_szCurve _ _ _ _ _ (by omega) hn9).mono ?_
  rw [hi.out]
  rintro e w0 ⟨rfl, b0⟩
  have B0 := hbw.trans (b0.mono hbw.size)
  rw [hsize] at b0
  have hv0 : w0.cell? ⟨w.heap.size, 0, none⟩ = some (.slice A n c) := by rw [b0.cell (by simp)]; exact hself
  have s0 : w.heap.size + 1 ≤ w0.heap.size := by rw [← hsize]; exact b0.size
  go_wp2_with fail
  refine (laws_toCurve _ _ _ _ _ (hx.later B0) (by omega)).mono ?_
  rintro e w1 ⟨v, rfl, o1, b1⟩
  obtain ⟨A1, c1, rfl, r1⟩ := o1.shape
  go_wp2_with fail
  refine (HS.out _ _ _ _ r1 (by omega)).mono ?_
  rintro e w2 ⟨v, rfl, o2, b2⟩
  obtain ⟨A2, c2, rfl, r2⟩ := o2.shape
  have g2 := bel_trans b1 b2
  have B2 := bel_trans B0 g2
  have hv2 : w2.cell? ⟨w.heap.size, 0, none⟩ = some (.slice A n c) := by rw [g2.cell (by simp; omega)]; exact hv0
  go_wp2_with fail
  refine (laws_toCurve _ _ _ _ _ (hx.later B2) (by omega)).mono ?_
  rintro e w3 ⟨v, rfl, o3, b3⟩
  obtain ⟨A3, c3, rfl, r3⟩ := o3.shape
  have hbx : Below w3.heap.size w3 (w3.alloc (.cells #[.slice A3 xs.length c3] 30)) := (Below.refl _ _).alloc (Nat.le_refl _) _
  have hselfx := lay_cell w3 (.slice A3 xs.length c3) 30
  go_wp2_with fail
  refine (HI.out _ _ _ _ (r3.later hbx) (by omega)).mono ?_
  rintro e w4 ⟨v, rfl, o4, b4⟩
  obtain ⟨A4, c4, rfl, r4⟩ := o4.shape
  have s3 : w3.heap.size + 1 ≤ w4.heap.size := by have := b4.size; simpa using this
  have B4 := bel_trans B2 (bel_trans (bel_trans b3 hbx) b4)
  have g24 := bel_trans (bel_trans b3 hbx) b4
  go_wp2_with fail
  refine (laws_eqInt64S _ _ _ _ _ _ _ _ _ r4 (r2.later g24) (by omega)).mono ?_
  rintro e w5 ⟨rfl, b5⟩
  rw [decide_eq_true (rfl : zs = zs)]
  have g25 := bel_trans g24 b5
  have B5 := bel_trans B4 b5
  have g05 := bel_trans g2 g25
  have hx5 := hx.later B5
  have g35 := bel_trans b4 b5
  have r35 := (r3.later hbx).later g35
  have hv5 : w5.cell? ⟨w.heap.size, 0, none⟩ = some (.slice A n c) := by rw [g05.cell (by simp; omega)]; exact hv0
  have hx5c : w5.cell? ⟨w3.heap.size, 0, none⟩ = some (.slice A3 xs.length c3) := by rw [g35.cell (by simp)]; exact hselfx
  have hsv5 : w.heap.size < w5.heap.size := by have := g05.size; omega
  have hsx5 : w3.heap.size < w5.heap.size := by have := b5.size; omega
  go_wp2_with fail
  clear hselfx hself hv2 hv0 r4 r2 r1
  go_region_held3 (fun w' => Below w5.heap.size w5 w' ∧ w'.cell? ⟨w.heap.size, 0, none⟩ = some (.slice A n c) ∧ w'.cell? ⟨w3.heap.size, 0, none⟩ = some (.slice A3 xs.length c3))
    (first | exact ⟨below_drewN (Below.refl _ _) _, hv5, hx5c⟩ | exact ⟨kept_all b7 rfl (kept_all b6 rfl (below_drewN (Below.refl _ _) _)), kept b7 rfl (kept_all b6 rfl (below_drewN (Below.refl _ _) _)) hv5 hsv5, kept b7 rfl (kept_all b6 rfl (below_drewN (Below.refl _ _) _)) hx5c hsx5⟩ | exact ⟨kept_all b6 rfl (below_drewN (Below.refl _ _) _), kept b6 rfl (below_drewN (Below.refl _ _) _) hv5 hsv5, kept b6 rfl (below_drewN (Below.refl _ _) _) hx5c hsx5⟩)
    (first | (go_at_call 19; refine (laws_toCurve _ _ _ _ _ (hx5.later (below_drewN (Below.refl _ _) 1)) (by omega)).mono ?_; rintro e w6 ⟨v6, rfl, o6, b6⟩; obtain ⟨A6, c6, rfl, r6⟩ := o6.shape; have r36 := r35.later (kept_all b6 rfl (below_drewN (Below.refl _ _) 1))) | (go_at_call 22; refine (laws_eqCurve _ _ _ _ _ _ _ _ _ r36 r6 (by omega)).mono ?_; rw [decide_eq_true (rfl : xs = xs)]; rintro e w7 ⟨rfl, b7⟩))
  have g56 : Below w5.heap.size w5 w6 := kept_all b6 rfl (below_drewN (Below.refl _ _) 1)
  have g57 : Below w5.heap.size w5 w7 := bel_trans g56 b7
  have hx7c : w7.cell? ⟨w3.heap.size, 0, none⟩ = some (.slice A3 xs.length c3) := by rw [g57.cell (by simpa using hsx5)]; exact hx5c
  have hv7 : w7.cell? ⟨w.heap.size, 0, none⟩ = some (.slice A n c) := by rw [g57.cell (by simpa using hsv5)]; exact hv5
  have g47 := bel_trans b5 g57
  have g37 := bel_trans hbx (bel_trans b4 g47)
  have g27 := bel_trans b3 g37
  have g07 := bel_trans g2 g27
  have o37 := o3.below g37 (Nat.le_refl _)
  have s7 : w3.heap.size ≤ w7.heap.size := g37.size
  have o27 := (OI.ox o2).below g27 (Nat.le_refl _)
  have o47 := (OI.ox o4).below g47 (Nat.le_refl _)
  clear hbx hv5 hx5c r36 r6 r35 r3
  go_wp2_with fail
  refine (laws_markCurve _ _ _ _ _ _ _ o37 s7 rfl (by omega) (by omega)).mono ?_
  rintro e w8 ⟨rfl, o8, m8⟩
  have o28 := o27.mid m8 (.inl (Nat.le_refl _)) g27.size
  have o48 := o47.mid m8 (.inr (by simp)) g47.size
  have z27 := g27.size
  have z02 := g2.size
  have z23 := b3.size
  have G8 : Below w2.heap.size w7 w8 := m8.toBelow z27
  have z8 := m8.size
  have z34 : (w3.alloc (.cells #[.slice A3 xs.length c3] 30)).heap.size = w3.heap.size + 1 := by simp
  have z47 := g47.size
  clear m8 o8 o3 o37 o27 o47
  go_wp2_with fail
  refine (laws_eqInt64S _ _ _ _ _ _ _ _ _ (OX.oi o48).ri (OX.oi o28).ri (by omega)).mono ?_
  rintro e w9 ⟨rfl, b9⟩
  rw [decide_eq_true (rfl : zs = zs)]
  have z9 := b9.size
  have o49 := o48.below b9 (by omega)
  have o29 := o28.below b9 (by omega)
  go_wp2_with fail
  refine (laws_markInt64S _ _ _ _ _ _ (OX.oi o49) rfl (by omega) (by omega)).mono ?_
  rintro e w10 ⟨rfl, o10, m10⟩
  have m10' : Mid (w3.alloc (.cells #[.slice A3 xs.length c3] 30)).heap.size w4.heap.size w9 w10 := Mid.of_grown m10 fun k hk => ⟨(World.ownsRow.lt o49.1 k hk).1, o49.2 k hk⟩
  have z10 := m10'.size
  have o210 := o29.mid m10' (.inl (by omega)) (by omega)
  have G10 : Below w2.heap.size w7 w10 := (G8.trans (b9.mono (by omega))).trans ((m10'.toBelow (by omega)).mono (by omega))
  have hv10 : w10.cell? ⟨w.heap.size, 0, none⟩ = some (.slice A n c) := by rw [G10.cell (by simp; omega)]; exact hv7
  have B10 : Below w.heap.size w w10 := (bel_trans B2 g27).trans (G10.mono B2.size)
  have hr10 : RI w10 w10.heap.size A4 zs.length (M.ramp 1 zs.length) := by
    have h := OI.ri (xs := M.ramp 1 zs.length) (A := A4) (c := c4) (by rw [M.ramp_len]; exact o10)
    rwa [M.ramp_len] at h
  clear m10 m10' o10 o49 o48 o29 o28
  go_wp2_with fail
  refine (laws_heldInt64S _ _ _ _ _ hr10 (by omega) (by omega)).mono ?_
  rintro e w' ⟨rfl, rfl⟩
  go_wp2_with fail
  refine (laws_toCurve _ _ _ _ _ (hx.later B10) (by omega)).mono ?_
  rintro e w11 ⟨v, rfl, o11, b11⟩
  obtain ⟨A11, c11, rfl, r11⟩ := o11.shape
  go_wp2_with fail
  refine (HI.out _ _ _ _ r11 (by omega)).mono ?_
  rintro e w12 ⟨v, rfl, o12, b12⟩
  obtain ⟨A12, c12, rfl, r12⟩ := o12.shape
  have g12 := bel_trans b11 b12
  go_wp2_with fail
  refine (laws_eqInt64S _ _ _ _ _ _ _ _ _ r12 ((OX.oi o210).ri.later g12) (by omega)).mono ?_
  rintro e w13 ⟨rfl, b13⟩
  rw [decide_eq_true (rfl : zs = zs)]
  have g13 := bel_trans g12 b13
  go_wp2_with fail
  refine (laws_heldInt64S _ _ _ _ _ (hr10.later g13) (by omega) (by omega)).mono ?_
  rintro e w' ⟨rfl, rfl⟩
  go_wp2_with fail
  go_ret
  exact ⟨rfl, bel_trans B10 g13⟩
end Go.Proofs.Ytckihflfjecpbaa
