import Derived.Test.YtacgcagpaecncaaFnExactSameSessionG5
import Derived.Lib.QuietBelow
set_option linter.unusedVariables false
set_option linter.unusedSimpArgs false
namespace Go.Proofs.Ytacgcagpaecncaa
open Go.RowKit Go.Sort
set_option maxHeartbeats 4000000
set_option maxRecDepth 100000
set_option synthInstance.maxSize 2000
set_option synthInstance.maxHeartbeats 400000
instance decTracks : DecidableEq (List (List Clip_)) := inferInstance
instance decPatch : DecidableEq Patch := inferInstance
instance decPatches : DecidableEq (List Patch) := inferInstance
instance decStrips : DecidableEq (List Strip) := inferInstance
instance decSess5 : DecidableEq (List Patch × List Strip) := inferInstance
instance decSess4 : DecidableEq (List Int × List Patch × List Strip) := inferInstance
instance decSess3 : DecidableEq (List (List Clip_) × List Int × List Patch × List Strip) := inferInstance
instance decSess : DecidableEq Sess := inferInstance
theorem impl_SameSession (a0 b0 : Int) (A1 : Option Addr) (n1 c1 : Nat) (B1 : Option Addr) (m1 d1 : Nat) (A2 : Option Addr) (n2 c2 : Nat) (B2 : Option Addr) (m2 d2 : Nat) (A3 : Option Addr) (n3 c3 : Nat) (B3 : Option Addr) (m3 d3 : Nat) (A4 : Option Addr) (n4 c4 : Nat) (B4 : Option Addr) (m4 d4 : Nat) (A5 : Option Addr) (n5 c5 : Nat) (B5 : Option Addr) (m5 d5 : Nat) (x1 y1 : List (List Int)) (x2 y2 : List (List Clip_)) (x3 y3 : List Int) (x4 y4 : List Patch) (x5 y5 : List Strip) (w : World) (h1 : tSS.R w w.heap.size [.slice A1 n1 c1] x1) (k1 : tSS.R w w.heap.size [.slice B1 m1 d1] y1) (h2 : tTS.R w w.heap.size [.slice A2 n2 c2] x2) (k2 : tTS.R w w.heap.size [.slice B2 m2 d2] y2) (h3 : tS.R w w.heap.size [.slice A3 n3 c3] x3) (k3 : tS.R w w.heap.size [.slice B3 m3 d3] y3) (h4 : tPS.R w w.heap.size [.slice A4 n4 c4] x4) (k4 : tPS.R w w.heap.size [.slice B4 m4 d4] y4) (h5 : tM.R w w.heap.size [.slice A5 n5 c5] x5) (k5 : tM.R w w.heap.size [.slice B5 m5 d5] y5) (hn : hZ.sz ((a0, x1, x2, x3, x4, x5) : Sess) ≤ 100000000) (hn2 : hZ.sz ((b0, y1, y2, y3, y4, y5) : Sess) ≤ 100000000) :
    Calls Try.prog 7 #[.agg #[.int .i64 a0, .slice A1 n1 c1, .slice A2 n2 c2, .slice A3 n3 c3, .slice A4 n4 c4, .slice A5 n5 c5], .agg #[.int .i64 b0, .slice B1 m1 d1, .slice B2 m2 d2, .slice B3 m3 d3, .slice B4 m4 d4, .slice B5 m5 d5]] w fun e w' => e = .returned (.bool (decide (((a0, x1, x2, x3, x4, x5) : Sess) = (b0, y1, y2, y3, y4, y5)))) ∧ Below w.heap.size w w' := by
  obtain ⟨W, hW⟩ : ∃ W, W = (w.alloc (.cells #[.int .i64 a0, .slice A1 n1 c1, .slice A2 n2 c2, .slice A3 n3 c3, .slice A4 n4 c4, .slice A5 n5 c5] 39)).alloc (.cells #[.int .i64 b0, .slice B1 m1 d1, .slice B2 m2 d2, .slice B3 m3 d3, .slice B4 m4 d4, .slice B5 m5 d5] 39) := ⟨_, rfl⟩
  have B0 : Below w.heap.size w W := by rw [hW]; exact ((Below.refl _ _).alloc (Nat.le_refl _) _).alloc (by simp) _
  have p0 : W.cell? ⟨w.heap.size, 0, none⟩ = some (.int .i64 a0) := by rw [hW]; simp [go_sem]
  have q0 : W.cell? ⟨w.heap.size + 1, 0, none⟩ = some (.int .i64 b0) := by rw [hW]; simp [go_sem]
  have p1 : W.cell? ⟨w.heap.size, 1, none⟩ = some (.slice A1 n1 c1) := by rw [hW]; simp [go_sem]
  have q1 : W.cell? ⟨w.heap.size + 1, 1, none⟩ = some (.slice B1 m1 d1) := by rw [hW]; simp [go_sem]
  have p2 : W.cell? ⟨w.heap.size, 2, none⟩ = some (.slice A2 n2 c2) := by rw [hW]; simp [go_sem]
  have q2 : W.cell? ⟨w.heap.size + 1, 2, none⟩ = some (.slice B2 m2 d2) := by rw [hW]; simp [go_sem]
  have p3 : W.cell? ⟨w.heap.size, 3, none⟩ = some (.slice A3 n3 c3) := by rw [hW]; simp [go_sem]
  have q3 : W.cell? ⟨w.heap.size + 1, 3, none⟩ = some (.slice B3 m3 d3) := by rw [hW]; simp [go_sem]
  have p4 : W.cell? ⟨w.heap.size, 4, none⟩ = some (.slice A4 n4 c4) := by rw [hW]; simp [go_sem]
  have q4 : W.cell? ⟨w.heap.size + 1, 4, none⟩ = some (.slice B4 m4 d4) := by rw [hW]; simp [go_sem]
  have p5 : W.cell? ⟨w.heap.size, 5, none⟩ = some (.slice A5 n5 c5) := by rw [hW]; simp [go_sem]
  have q5 : W.cell? ⟨w.heap.size + 1, 5, none⟩ = some (.slice B5 m5 d5) := by rw [hW]; simp [go_sem]
  have lx : w.heap.size + 1 < W.heap.size := by rw [hW]; simp
  have HW := Lib.hid hW
  have r1 := tSS.later h1 B0
  have s1 := tSS.later k1 B0
  have X1 := Lib.hid (sl_R.1 h1).cap.1
  have Y1 := Lib.hid (sl_R.1 k1).cap.1
  have r2 := tTS.later h2 B0
  have s2 := tTS.later k2 B0
  have X2 := Lib.hid (sl_R.1 h2).cap.1
  have Y2 := Lib.hid (sl_R.1 k2).cap.1
  have r3 := tS.later h3 B0
  have s3 := tS.later k3 B0
  have X3 := Lib.hid (sl_R.1 h3).cap.1
  have Y3 := Lib.hid (sl_R.1 k3).cap.1
  have r4 := tPS.later h4 B0
  have s4 := tPS.later k4 B0
  have X4 := Lib.hid (sl_R.1 h4).cap.1
  have Y4 := Lib.hid (sl_R.1 k4).cap.1
  have r5 := tM.later h5 B0
  have s5 := tM.later k5 B0
  have X5 := Lib.hid (sl_R.1 h5).cap.1
  have Y5 := Lib.hid (sl_R.1 k5).cap.1
  rw [hZ_sz] at hn hn2
  have z1 : hSS.sz x1 ≤ 100000000 := by omega
  have v1 : hSS.sz y1 ≤ 100000000 := by omega
  have bn1 : n1 ≤ 100000000 := by have e : x1.length + hS.szL x1 = hSS.sz x1 := rfl; have := X1.out; omega
  have z2 : hTS.sz x2 ≤ 100000000 := by omega
  have v2 : hTS.sz y2 ≤ 100000000 := by omega
  have bn2 : n2 ≤ 100000000 := by have e : x2.length + hT.szL x2 = hTS.sz x2 := rfl; have := X2.out; omega
  have z3 : hS.sz x3 ≤ 100000000 := by omega
  have v3 : hS.sz y3 ≤ 100000000 := by omega
  have bn3 : n3 ≤ 100000000 := by have e : x3.length + hI.szL x3 = hS.sz x3 := rfl; have := X3.out; omega
  have z4 : hPS.sz x4 ≤ 100000000 := by omega
  have v4 : hPS.sz y4 ≤ 100000000 := by omega
  have bn4 : n4 ≤ 100000000 := by have e : x4.length + hP.szL x4 = hPS.sz x4 := rfl; have := X4.out; omega
  have z5 : hM.sz x5 ≤ 100000000 := by omega
  have v5 : hM.sz y5 ≤ 100000000 := by omega
  have bn5 : n5 ≤ 100000000 := by have e : x5.length + hSt.szL x5 = hM.sz x5 := rfl; have := X5.out; omega
  clear hW hn hn2 h1 k1 h2 k2 h3 k3 h4 k4 h5 k5
  by_cases e0 : ¬ a0 = b0
  · have g0 : (a0 != b0) = true := by simpa using e0
    have R := Lib.hid (show decide (((a0, x1, x2, x3, x4, x5) : Sess) = (b0, y1, y2, y3, y4, y5)) = false by rw [decide_eq_false_iff_not]; intro e; simp only [Prod.mk.injEq] at e; exact e0 e.1)
    go_enter Try.func7, Try.ntmps7
    go_wp2_with fail
    try rw [← HW.out]
    go_ret
    exact ⟨ret_bool (by rw [R.out]), B0⟩
  replace e0 : a0 = b0 := Decidable.not_not.1 e0
  subst e0
  go_enter Try.func7, Try.ntmps7
  go_wp2_with fail
  rw [← HW.out]
  by_cases e1 : ¬ x1 = y1
  · have HD := Lib.hid (decide_eq_false e1)
    have R := Lib.hid (show decide (((a0, x1, x2, x3, x4, x5) : Sess) = (a0, y1, y2, y3, y4, y5)) = false by rw [decide_eq_false_iff_not]; intro e; simp only [Prod.mk.injEq] at e; exact e1 e.2.1)
    refine (impl_sameAll _ _ _ _ _ _ _ _ _ r1 s1 z1).mono ?_
    rw [HD.out]
    rintro e u1 ⟨rfl, bel1⟩
    go_wp2
    go_ret
    exact ⟨ret_bool (by rw [R.out]), bel_trans B0 bel1⟩
  replace e1 : x1 = y1 := Decidable.not_not.1 e1
  have E1 := Lib.hid e1
  have HD1 := Lib.hid (decide_eq_true e1)
  clear e1
  refine (impl_sameAll _ _ _ _ _ _ _ _ _ r1 s1 z1).mono ?_
  rw [HD1.out]
  rintro e w1 ⟨rfl, bel1⟩
  have lx_w1 := Nat.lt_of_lt_of_le lx bel1.size
  have B_w1 := bel_trans B0 bel1
  have p0_w1 : w1.cell? ⟨w.heap.size, 0, none⟩ = some (.int .i64 a0) := by rw [bel1.cell (by show w.heap.size < _; have := lx; omega)]; exact p0
  have q0_w1 : w1.cell? ⟨w.heap.size + 1, 0, none⟩ = some (.int .i64 a0) := by rw [bel1.cell (by show w.heap.size + 1 < _; have := lx; omega)]; exact q0
  have p1_w1 : w1.cell? ⟨w.heap.size, 1, none⟩ = some (.slice A1 n1 c1) := by rw [bel1.cell (by show w.heap.size < _; have := lx; omega)]; exact p1
  have q1_w1 : w1.cell? ⟨w.heap.size + 1, 1, none⟩ = some (.slice B1 m1 d1) := by rw [bel1.cell (by show w.heap.size + 1 < _; have := lx; omega)]; exact q1
  have p2_w1 : w1.cell? ⟨w.heap.size, 2, none⟩ = some (.slice A2 n2 c2) := by rw [bel1.cell (by show w.heap.size < _; have := lx; omega)]; exact p2
  have q2_w1 : w1.cell? ⟨w.heap.size + 1, 2, none⟩ = some (.slice B2 m2 d2) := by rw [bel1.cell (by show w.heap.size + 1 < _; have := lx; omega)]; exact q2
  have p3_w1 : w1.cell? ⟨w.heap.size, 3, none⟩ = some (.slice A3 n3 c3) := by rw [bel1.cell (by show w.heap.size < _; have := lx; omega)]; exact p3
  have q3_w1 : w1.cell? ⟨w.heap.size + 1, 3, none⟩ = some (.slice B3 m3 d3) := by rw [bel1.cell (by show w.heap.size + 1 < _; have := lx; omega)]; exact q3
  have p4_w1 : w1.cell? ⟨w.heap.size, 4, none⟩ = some (.slice A4 n4 c4) := by rw [bel1.cell (by show w.heap.size < _; have := lx; omega)]; exact p4
  have q4_w1 : w1.cell? ⟨w.heap.size + 1, 4, none⟩ = some (.slice B4 m4 d4) := by rw [bel1.cell (by show w.heap.size + 1 < _; have := lx; omega)]; exact q4
  have p5_w1 : w1.cell? ⟨w.heap.size, 5, none⟩ = some (.slice A5 n5 c5) := by rw [bel1.cell (by show w.heap.size < _; have := lx; omega)]; exact p5
  have q5_w1 : w1.cell? ⟨w.heap.size + 1, 5, none⟩ = some (.slice B5 m5 d5) := by rw [bel1.cell (by show w.heap.size + 1 < _; have := lx; omega)]; exact q5
  have r1_w1 := tSS.later r1 bel1
  have s1_w1 := tSS.later s1 bel1
  have r2_w1 := tTS.later r2 bel1
  have s2_w1 := tTS.later s2 bel1
  have r3_w1 := tS.later r3 bel1
  have s3_w1 := tS.later s3 bel1
  have r4_w1 := tPS.later r4 bel1
  have s4_w1 := tPS.later s4 bel1
  have r5_w1 := tM.later r5 bel1
  have s5_w1 := tM.later s5 bel1
  clear p0 q0 p1 q1 p2 q2 p3 q3 p4 q4 p5 q5 r1 s1 r2 s2 r3 s3 r4 s4 r5 s5
  by_cases e2 : ¬ n2 = m2
  · have g2 : ((n2 : Int) != (m2 : Int)) = true := by simp; omega
    have R := Lib.hid (show decide (((a0, x1, x2, x3, x4, x5) : Sess) = (a0, y1, y2, y3, y4, y5)) = false by rw [decide_eq_false_iff_not]; intro e; simp only [Prod.mk.injEq] at e; exact e2 (by rw [← X2.out, ← Y2.out, e.2.2.1]))
    go_wp2_with fail
    go_ret
    exact ⟨ret_bool (by rw [R.out]), B_w1⟩
  replace e2 : n2 = m2 := Decidable.not_not.1 e2
  subst e2
  go_wp2_with fail
  by_cases e3 : ¬ x3 = y3
  · have HD := Lib.hid (decide_eq_false e3)
    have R := Lib.hid (show decide (((a0, x1, x2, x3, x4, x5) : Sess) = (a0, y1, y2, y3, y4, y5)) = false by rw [decide_eq_false_iff_not]; intro e; simp only [Prod.mk.injEq] at e; exact e3 e.2.2.2.1)
    refine (impl_same _ _ _ _ _ _ _ _ _ (tS_R.1 r3_w1).ri (tS_R.1 s3_w1).ri (by omega)).mono ?_
    rw [HD.out]
    rintro e u1 ⟨rfl, bel1⟩
    go_wp2
    go_ret
    exact ⟨ret_bool (by rw [R.out]), bel_trans B_w1 bel1⟩
  replace e3 : x3 = y3 := Decidable.not_not.1 e3
  have E3 := Lib.hid e3
  have HD2 := Lib.hid (decide_eq_true e3)
  clear e3
  refine (impl_same _ _ _ _ _ _ _ _ _ (tS_R.1 r3_w1).ri (tS_R.1 s3_w1).ri (by omega)).mono ?_
  rw [HD2.out]
  rintro e w2 ⟨rfl, bel2⟩
  have lx_w2 := Nat.lt_of_lt_of_le lx_w1 bel2.size
  have B_w2 := bel_trans B_w1 bel2
  have p0_w2 : w2.cell? ⟨w.heap.size, 0, none⟩ = some (.int .i64 a0) := by rw [bel2.cell (by show w.heap.size < _; have := lx_w1; omega)]; exact p0_w1
  have q0_w2 : w2.cell? ⟨w.heap.size + 1, 0, none⟩ = some (.int .i64 a0) := by rw [bel2.cell (by show w.heap.size + 1 < _; have := lx_w1; omega)]; exact q0_w1
  have p1_w2 : w2.cell? ⟨w.heap.size, 1, none⟩ = some (.slice A1 n1 c1) := by rw [bel2.cell (by show w.heap.size < _; have := lx_w1; omega)]; exact p1_w1
  have q1_w2 : w2.cell? ⟨w.heap.size + 1, 1, none⟩ = some (.slice B1 m1 d1) := by rw [bel2.cell (by show w.heap.size + 1 < _; have := lx_w1; omega)]; exact q1_w1
  have p2_w2 : w2.cell? ⟨w.heap.size, 2, none⟩ = some (.slice A2 n2 c2) := by rw [bel2.cell (by show w.heap.size < _; have := lx_w1; omega)]; exact p2_w1
  have q2_w2 : w2.cell? ⟨w.heap.size + 1, 2, none⟩ = some (.slice B2 n2 d2) := by rw [bel2.cell (by show w.heap.size + 1 < _; have := lx_w1; omega)]; exact q2_w1
  have p3_w2 : w2.cell? ⟨w.heap.size, 3, none⟩ = some (.slice A3 n3 c3) := by rw [bel2.cell (by show w.heap.size < _; have := lx_w1; omega)]; exact p3_w1
  have q3_w2 : w2.cell? ⟨w.heap.size + 1, 3, none⟩ = some (.slice B3 m3 d3) := by rw [bel2.cell (by show w.heap.size + 1 < _; have := lx_w1; omega)]; exact q3_w1
  have p4_w2 : w2.cell? ⟨w.heap.size, 4, none⟩ = some (.slice A4 n4 c4) := by rw [bel2.cell (by show w.heap.size < _; have := lx_w1; omega)]; exact p4_w1
  have q4_w2 : w2.cell? ⟨w.heap.size + 1, 4, none⟩ = some (.slice B4 m4 d4) := by rw [bel2.cell (by show w.heap.size + 1 < _; have := lx_w1; omega)]; exact q4_w1
  have p5_w2 : w2.cell? ⟨w.heap.size, 5, none⟩ = some (.slice A5 n5 c5) := by rw [bel2.cell (by show w.heap.size < _; have := lx_w1; omega)]; exact p5_w1
  have q5_w2 : w2.cell? ⟨w.heap.size + 1, 5, none⟩ = some (.slice B5 m5 d5) := by rw [bel2.cell (by show w.heap.size + 1 < _; have := lx_w1; omega)]; exact q5_w1
  have r1_w2 := tSS.later r1_w1 bel2
  have s1_w2 := tSS.later s1_w1 bel2
  have r2_w2 := tTS.later r2_w1 bel2
  have s2_w2 := tTS.later s2_w1 bel2
  have r3_w2 := tS.later r3_w1 bel2
  have s3_w2 := tS.later s3_w1 bel2
  have r4_w2 := tPS.later r4_w1 bel2
  have s4_w2 := tPS.later s4_w1 bel2
  have r5_w2 := tM.later r5_w1 bel2
  have s5_w2 := tM.later s5_w1 bel2
  clear p0_w1 q0_w1 p1_w1 q1_w1 p2_w1 q2_w1 p3_w1 q3_w1 p4_w1 q4_w1 p5_w1 q5_w1 r1_w1 s1_w1 r2_w1 s2_w1 r3_w1 s3_w1 r4_w1 s4_w1 r5_w1 s5_w1
  by_cases e4 : ¬ n4 = m4
  · have g4 : ((n4 : Int) != (m4 : Int)) = true := by simp; omega
    have R := Lib.hid (show decide (((a0, x1, x2, x3, x4, x5) : Sess) = (a0, y1, y2, y3, y4, y5)) = false by rw [decide_eq_false_iff_not]; intro e; simp only [Prod.mk.injEq] at e; exact e4 (by rw [← X4.out, ← Y4.out, e.2.2.2.2.1]))
    go_wp2_with fail
    go_ret
    exact ⟨ret_bool (by rw [R.out]), B_w2⟩
  replace e4 : n4 = m4 := Decidable.not_not.1 e4
  subst e4
  go_wp2_with fail
  by_cases e5 : ¬ x5 = y5
  · have HD := Lib.hid (decide_eq_false e5)
    have R := Lib.hid (show decide (((a0, x1, x2, x3, x4, x5) : Sess) = (a0, y1, y2, y3, y4, y5)) = false by rw [decide_eq_false_iff_not]; intro e; simp only [Prod.mk.injEq] at e; exact e5 e.2.2.2.2.2)
    refine (impl_SameMixer _ _ _ _ _ _ _ _ _ r5_w2 s5_w2 z5 v5).mono ?_
    rw [HD.out]
    rintro e u1 ⟨rfl, bel1⟩
    go_wp2
    go_ret
    exact ⟨ret_bool (by rw [R.out]), bel_trans B_w2 bel1⟩
  replace e5 : x5 = y5 := Decidable.not_not.1 e5
  have E5 := Lib.hid e5
  have HD3 := Lib.hid (decide_eq_true e5)
  clear e5
  refine (impl_SameMixer _ _ _ _ _ _ _ _ _ r5_w2 s5_w2 z5 v5).mono ?_
  rw [HD3.out]
  rintro e w3 ⟨rfl, bel3⟩
  have lx_w3 := Nat.lt_of_lt_of_le lx_w2 bel3.size
  have B_w3 := bel_trans B_w2 bel3
  have p0_w3 : w3.cell? ⟨w.heap.size, 0, none⟩ = some (.int .i64 a0) := by rw [bel3.cell (by show w.heap.size < _; have := lx_w2; omega)]; exact p0_w2
  have q0_w3 : w3.cell? ⟨w.heap.size + 1, 0, none⟩ = some (.int .i64 a0) := by rw [bel3.cell (by show w.heap.size + 1 < _; have := lx_w2; omega)]; exact q0_w2
  have p1_w3 : w3.cell? ⟨w.heap.size, 1, none⟩ = some (.slice A1 n1 c1) := by rw [bel3.cell (by show w.heap.size < _; have := lx_w2; omega)]; exact p1_w2
  have q1_w3 : w3.cell? ⟨w.heap.size + 1, 1, none⟩ = some (.slice B1 m1 d1) := by rw [bel3.cell (by show w.heap.size + 1 < _; have := lx_w2; omega)]; exact q1_w2
  have p2_w3 : w3.cell? ⟨w.heap.size, 2, none⟩ = some (.slice A2 n2 c2) := by rw [bel3.cell (by show w.heap.size < _; have := lx_w2; omega)]; exact p2_w2
  have q2_w3 : w3.cell? ⟨w.heap.size + 1, 2, none⟩ = some (.slice B2 n2 d2) := by rw [bel3.cell (by show w.heap.size + 1 < _; have := lx_w2; omega)]; exact q2_w2
  have p3_w3 : w3.cell? ⟨w.heap.size, 3, none⟩ = some (.slice A3 n3 c3) := by rw [bel3.cell (by show w.heap.size < _; have := lx_w2; omega)]; exact p3_w2
  have q3_w3 : w3.cell? ⟨w.heap.size + 1, 3, none⟩ = some (.slice B3 m3 d3) := by rw [bel3.cell (by show w.heap.size + 1 < _; have := lx_w2; omega)]; exact q3_w2
  have p4_w3 : w3.cell? ⟨w.heap.size, 4, none⟩ = some (.slice A4 n4 c4) := by rw [bel3.cell (by show w.heap.size < _; have := lx_w2; omega)]; exact p4_w2
  have q4_w3 : w3.cell? ⟨w.heap.size + 1, 4, none⟩ = some (.slice B4 n4 d4) := by rw [bel3.cell (by show w.heap.size + 1 < _; have := lx_w2; omega)]; exact q4_w2
  have p5_w3 : w3.cell? ⟨w.heap.size, 5, none⟩ = some (.slice A5 n5 c5) := by rw [bel3.cell (by show w.heap.size < _; have := lx_w2; omega)]; exact p5_w2
  have q5_w3 : w3.cell? ⟨w.heap.size + 1, 5, none⟩ = some (.slice B5 m5 d5) := by rw [bel3.cell (by show w.heap.size + 1 < _; have := lx_w2; omega)]; exact q5_w2
  have r1_w3 := tSS.later r1_w2 bel3
  have s1_w3 := tSS.later s1_w2 bel3
  have r2_w3 := tTS.later r2_w2 bel3
  have s2_w3 := tTS.later s2_w2 bel3
  have r3_w3 := tS.later r3_w2 bel3
  have s3_w3 := tS.later s3_w2 bel3
  have r4_w3 := tPS.later r4_w2 bel3
  have s4_w3 := tPS.later s4_w2 bel3
  have r5_w3 := tM.later r5_w2 bel3
  have s5_w3 := tM.later s5_w2 bel3
  clear p0_w2 q0_w2 p1_w2 q1_w2 p2_w2 q2_w2 p3_w2 q3_w2 p4_w2 q4_w2 p5_w2 q5_w2 r1_w2 s1_w2 r2_w2 s2_w2 r3_w2 s3_w2 r4_w2 s4_w2 r5_w2 s5_w2
  go_wp2
  go_loopw [5, 6, 59] (fun _ _ i wr => ∃ k : Nat, i = .int .i64 k ∧ k ≤ n2 ∧ Hid (x2.take k = y2.take k) ∧ Below w3.heap.size w3 wr) (fun _ _ i _ => n2 - (intOf i).toNat)
  case atStart => exact ⟨0, rfl, by omega, Lib.hid (by simp), Below.refl _ _⟩
  case round =>
    obtain ⟨k, rfl, hk, H, hb0⟩ := hrel
    obtain ⟨wo0, rfl⟩ : ∃ wo : World, wo = wr := ⟨_, rfl⟩
    have lx_wo0 := Nat.lt_of_lt_of_le lx_w3 hb0.size
    have B_wo0 := bel_trans B_w3 hb0
    have p0_wo0 : wo0.cell? ⟨w.heap.size, 0, none⟩ = some (.int .i64 a0) := by rw [hb0.cell (by show w.heap.size < _; have := lx_w3; omega)]; exact p0_w3
    have q0_wo0 : wo0.cell? ⟨w.heap.size + 1, 0, none⟩ = some (.int .i64 a0) := by rw [hb0.cell (by show w.heap.size + 1 < _; have := lx_w3; omega)]; exact q0_w3
    have p1_wo0 : wo0.cell? ⟨w.heap.size, 1, none⟩ = some (.slice A1 n1 c1) := by rw [hb0.cell (by show w.heap.size < _; have := lx_w3; omega)]; exact p1_w3
    have q1_wo0 : wo0.cell? ⟨w.heap.size + 1, 1, none⟩ = some (.slice B1 m1 d1) := by rw [hb0.cell (by show w.heap.size + 1 < _; have := lx_w3; omega)]; exact q1_w3
    have p2_wo0 : wo0.cell? ⟨w.heap.size, 2, none⟩ = some (.slice A2 n2 c2) := by rw [hb0.cell (by show w.heap.size < _; have := lx_w3; omega)]; exact p2_w3
    have q2_wo0 : wo0.cell? ⟨w.heap.size + 1, 2, none⟩ = some (.slice B2 n2 d2) := by rw [hb0.cell (by show w.heap.size + 1 < _; have := lx_w3; omega)]; exact q2_w3
    have p3_wo0 : wo0.cell? ⟨w.heap.size, 3, none⟩ = some (.slice A3 n3 c3) := by rw [hb0.cell (by show w.heap.size < _; have := lx_w3; omega)]; exact p3_w3
    have q3_wo0 : wo0.cell? ⟨w.heap.size + 1, 3, none⟩ = some (.slice B3 m3 d3) := by rw [hb0.cell (by show w.heap.size + 1 < _; have := lx_w3; omega)]; exact q3_w3
    have p4_wo0 : wo0.cell? ⟨w.heap.size, 4, none⟩ = some (.slice A4 n4 c4) := by rw [hb0.cell (by show w.heap.size < _; have := lx_w3; omega)]; exact p4_w3
    have q4_wo0 : wo0.cell? ⟨w.heap.size + 1, 4, none⟩ = some (.slice B4 n4 d4) := by rw [hb0.cell (by show w.heap.size + 1 < _; have := lx_w3; omega)]; exact q4_w3
    have p5_wo0 : wo0.cell? ⟨w.heap.size, 5, none⟩ = some (.slice A5 n5 c5) := by rw [hb0.cell (by show w.heap.size < _; have := lx_w3; omega)]; exact p5_w3
    have q5_wo0 : wo0.cell? ⟨w.heap.size + 1, 5, none⟩ = some (.slice B5 m5 d5) := by rw [hb0.cell (by show w.heap.size + 1 < _; have := lx_w3; omega)]; exact q5_w3
    have r1_wo0 := tSS.later r1_w3 hb0
    have s1_wo0 := tSS.later s1_w3 hb0
    have r2_wo0 := tTS.later r2_w3 hb0
    have s2_wo0 := tTS.later s2_w3 hb0
    have r3_wo0 := tS.later r3_w3 hb0
    have s3_wo0 := tS.later s3_w3 hb0
    have r4_wo0 := tPS.later r4_w3 hb0
    have s4_wo0 := tPS.later s4_w3 hb0
    have r5_wo0 := tM.later r5_w3 hb0
    have s5_wo0 := tM.later s5_w3 hb0
    clear p0_w3 q0_w3 p1_w3 q1_w3 p2_w3 q2_w3 p3_w3 q3_w3 p4_w3 q4_w3 p5_w3 q5_w3 r1_w3 s1_w3 r2_w3 s2_w3 r3_w3 s3_w3 r4_w3 s4_w3 r5_w3 s5_w3
    by_cases hlt : k < n2
    · have hX := Lib.hid (List.getElem?_eq_getElem (l := x2) (i := k) (by rw [X2.out]; exact hlt))
      have hY := Lib.hid (List.getElem?_eq_getElem (l := y2) (i := k) (by rw [Y2.out]; exact hlt))
      obtain ⟨b, o1, cc, cs, hv, hab, -, hE, hcc⟩ := (sl_R.1 r2_wo0).atX hX.out
      obtain ⟨b', o2, cc', cs', hv', hab', -, hE', hdd⟩ := (sl_R.1 s2_wo0).atX hY.out
      simp only [Value.slice.injEq] at hv hv'
      obtain ⟨rfl, -, rfl⟩ := hv
      obtain ⟨rfl, -, rfl⟩ := hv'
      have hU := hT.szL_at hX.out
      have hV := hT.szL_at hY.out
      generalize x2[k]'(by rw [X2.out]; exact hlt) = x at hX hE hU
      generalize y2[k]'(by rw [Y2.out]; exact hlt) = y at hY hE' hV
      have zz : x2.length + hT.szL x2 = hTS.sz x2 := rfl
      have zv : y2.length + hT.szL y2 = hTS.sz y2 := rfl
      have zx : hT.sz x ≤ 100000000 := by omega
      have zy : hT.sz y ≤ 100000000 := by omega
      clear zz zv hU hV
      obtain ⟨Ae, ne, ce, rfl⟩ := open_sl hE
      obtain ⟨Be, me, de, rfl⟩ := open_sl hE'
      have hl1 := (sl_R.1 hE).cap.1
      have hl2 := (sl_R.1 hE').cap.1
      have e0 : wo0.cell? ⟨b, o1 + k * 1, none⟩ = some (.slice Ae ne ce) := hcc 0 _ rfl
      have f0 : wo0.cell? ⟨b', o2 + k * 1, none⟩ = some (.slice Be me de) := hdd 0 _ rfl
      rw [Nat.mul_one] at e0 f0
      clear hcc hdd
      obtain ⟨U, hU⟩ : ∃ U, U = wo0.alloc (.cells #[.slice Ae ne ce] 52) := ⟨_, rfl⟩
      have G0 : Below wo0.heap.size wo0 U := by rw [hU]; exact (Below.refl _ _).alloc (Nat.le_refl _) _
      have sU : wo0.heap.size < U.heap.size := by rw [hU]; simp
      have g0 : U.cell? ⟨wo0.heap.size, 0, none⟩ = some (.slice Ae ne ce) := by rw [hU, cell_of_row _ wo0.heap.size 0 _ 52 (0, 0) (heap_alloc_new wo0 _)]; rfl
      have l0 : U.cell? ⟨b', o2 + k, none⟩ = some (.slice Be me de) := by rw [G0.cell hab']; exact f0
      have qq : U.cell? ⟨w.heap.size + 1, 2, none⟩ = some (.slice (some ⟨b', o2, none⟩) n2 d2) := by rw [G0.cell lx_wo0]; exact q2_wo0
      have HU := Lib.hid hU
      clear hU
      replace hE := tT.later hE G0
      replace hE' := tT.later hE' G0
      have nb : ne ≤ 1000000000 := by rw [hT_sz] at zx; have := (sl_R.1 hE).cap.1; omega
      have nb2 : me ≤ 1000000000 := by rw [hT_sz] at zy; have := (sl_R.1 hE').cap.1; omega
      have rg0 := cell_regrown g0
      have rl0 := cell_regrown l0
      have rqq := cell_regrown qq
      have cP : ∀ d os, Calls Try.prog 26 #[.agg #[.slice Ae ne ce], .agg #[.slice Be me de]] (grow (redrawn U d) os) fun e w'' => e = .returned (.bool (decide (x = y))) ∧ ∃ p : Regrown, w'' = grow (redrawn U p.d) p.os := fun d os => Calls.regrown_of (impl_SameTrack _ _ _ _ _ _ _ _ _ (sl_R.1 (tT.later hE (below_regrown U d os))).flat.1 (sl_R.1 (tT.later hE' (below_regrown U d os))).flat.1 nb nb2)
      clear g0 l0 qq
      by_cases hp : x = y
      · rw [decide_eq_true hp] at cP
        have HP := Lib.hid hp
        clear hp
        go_wp2
        rw [← HU.out]
        clear e0 f0
        (refine wp_region_quiet_below (by kernel_rfl) (by kernel_rfl) ?_; (repeat (go_big_quiet_step (exact cP _ _))); refine wpQuiet_nil ?_; intro _ hw'; obtain ⟨⟨dq, osq⟩, hw''⟩ := hw'; subst hw'')
        go_wp2
        go_roundw
        case rel => exact ⟨k + 1, by go_num, by omega, Lib.hid (by rw [M.take_at hX.out, M.take_at hY.out, H.out, HP.out]), bel_trans hb0 (bel_trans G0 (below_regrown U dq osq))⟩
        case measure => simp [intOf]; omega
      · rw [decide_eq_false hp] at cP
        have hxy : ¬ x2 = y2 := fun e => by have h1 := hX.out; rw [e, hY.out] at h1; injection h1 with h1; exact hp h1.symm
        have R := Lib.hid (show decide (((a0, x1, x2, x3, x4, x5) : Sess) = (a0, y1, y2, y3, y4, y5)) = false by rw [decide_eq_false_iff_not]; intro e; simp only [Prod.mk.injEq] at e; exact hxy e.2.2.1)
        clear hp hxy
        go_wp2
        rw [← HU.out]
        clear e0 f0
        (refine wp_region_quiet_below (by kernel_rfl) (by kernel_rfl) ?_; (repeat (go_big_quiet_step (exact cP _ _))); refine wpQuiet_nil ?_; intro _ hw'; obtain ⟨⟨dq, osq⟩, hw''⟩ := hw'; subst hw'')
        go_wp2
        go_ret
        exact ⟨ret_bool (by rw [R.out]), bel_trans B_wo0 (bel_trans G0 (below_regrown U dq osq))⟩
    have E2 := Lib.hid (show x2 = y2 by have := H.out; rwa [List.take_of_length_le (by rw [X2.out]; omega), List.take_of_length_le (by rw [Y2.out]; omega)] at this)
    clear H
    go_wp2
    clear hlt hk
    go_loopw [7, 8, 76] (fun _ _ i wr => ∃ k : Nat, i = .int .i64 k ∧ k ≤ n4 ∧ Hid (x4.take k = y4.take k) ∧ Below wo0.heap.size wo0 wr) (fun _ _ i _ => n4 - (intOf i).toNat)
    case atStart => exact ⟨0, rfl, by omega, Lib.hid (by simp), Below.refl _ _⟩
    case round =>
      obtain ⟨k, rfl, hk, H, hb1⟩ := hrel
      obtain ⟨wo1, rfl⟩ : ∃ wo : World, wo = wr := ⟨_, rfl⟩
      have lx_wo1 := Nat.lt_of_lt_of_le lx_wo0 hb1.size
      have B_wo1 := bel_trans B_wo0 hb1
      have p0_wo1 : wo1.cell? ⟨w.heap.size, 0, none⟩ = some (.int .i64 a0) := by rw [hb1.cell (by show w.heap.size < _; have := lx_wo0; omega)]; exact p0_wo0
      have q0_wo1 : wo1.cell? ⟨w.heap.size + 1, 0, none⟩ = some (.int .i64 a0) := by rw [hb1.cell (by show w.heap.size + 1 < _; have := lx_wo0; omega)]; exact q0_wo0
      have p1_wo1 : wo1.cell? ⟨w.heap.size, 1, none⟩ = some (.slice A1 n1 c1) := by rw [hb1.cell (by show w.heap.size < _; have := lx_wo0; omega)]; exact p1_wo0
      have q1_wo1 : wo1.cell? ⟨w.heap.size + 1, 1, none⟩ = some (.slice B1 m1 d1) := by rw [hb1.cell (by show w.heap.size + 1 < _; have := lx_wo0; omega)]; exact q1_wo0
      have p2_wo1 : wo1.cell? ⟨w.heap.size, 2, none⟩ = some (.slice A2 n2 c2) := by rw [hb1.cell (by show w.heap.size < _; have := lx_wo0; omega)]; exact p2_wo0
      have q2_wo1 : wo1.cell? ⟨w.heap.size + 1, 2, none⟩ = some (.slice B2 n2 d2) := by rw [hb1.cell (by show w.heap.size + 1 < _; have := lx_wo0; omega)]; exact q2_wo0
      have p3_wo1 : wo1.cell? ⟨w.heap.size, 3, none⟩ = some (.slice A3 n3 c3) := by rw [hb1.cell (by show w.heap.size < _; have := lx_wo0; omega)]; exact p3_wo0
      have q3_wo1 : wo1.cell? ⟨w.heap.size + 1, 3, none⟩ = some (.slice B3 m3 d3) := by rw [hb1.cell (by show w.heap.size + 1 < _; have := lx_wo0; omega)]; exact q3_wo0
      have p4_wo1 : wo1.cell? ⟨w.heap.size, 4, none⟩ = some (.slice A4 n4 c4) := by rw [hb1.cell (by show w.heap.size < _; have := lx_wo0; omega)]; exact p4_wo0
      have q4_wo1 : wo1.cell? ⟨w.heap.size + 1, 4, none⟩ = some (.slice B4 n4 d4) := by rw [hb1.cell (by show w.heap.size + 1 < _; have := lx_wo0; omega)]; exact q4_wo0
      have p5_wo1 : wo1.cell? ⟨w.heap.size, 5, none⟩ = some (.slice A5 n5 c5) := by rw [hb1.cell (by show w.heap.size < _; have := lx_wo0; omega)]; exact p5_wo0
      have q5_wo1 : wo1.cell? ⟨w.heap.size + 1, 5, none⟩ = some (.slice B5 m5 d5) := by rw [hb1.cell (by show w.heap.size + 1 < _; have := lx_wo0; omega)]; exact q5_wo0
      have r1_wo1 := tSS.later r1_wo0 hb1
      have s1_wo1 := tSS.later s1_wo0 hb1
      have r2_wo1 := tTS.later r2_wo0 hb1
      have s2_wo1 := tTS.later s2_wo0 hb1
      have r3_wo1 := tS.later r3_wo0 hb1
      have s3_wo1 := tS.later s3_wo0 hb1
      have r4_wo1 := tPS.later r4_wo0 hb1
      have s4_wo1 := tPS.later s4_wo0 hb1
      have r5_wo1 := tM.later r5_wo0 hb1
      have s5_wo1 := tM.later s5_wo0 hb1
      clear p0_wo0 q0_wo0 p1_wo0 q1_wo0 p2_wo0 q2_wo0 p3_wo0 q3_wo0 p4_wo0 q4_wo0 p5_wo0 q5_wo0 r1_wo0 s1_wo0 r2_wo0 s2_wo0 r3_wo0 s3_wo0 r4_wo0 s4_wo0 r5_wo0 s5_wo0
      by_cases hlt : k < n4
      · have hX := Lib.hid (List.getElem?_eq_getElem (l := x4) (i := k) (by rw [X4.out]; exact hlt))
        have hY := Lib.hid (List.getElem?_eq_getElem (l := y4) (i := k) (by rw [Y4.out]; exact hlt))
        obtain ⟨b, o1, cc, cs, hv, hab, -, hE, hcc⟩ := (sl_R.1 r4_wo1).atX hX.out
        obtain ⟨b', o2, cc', cs', hv', hab', -, hE', hdd⟩ := (sl_R.1 s4_wo1).atX hY.out
        simp only [Value.slice.injEq] at hv hv'
        obtain ⟨rfl, -, rfl⟩ := hv
        obtain ⟨rfl, -, rfl⟩ := hv'
        have hU := hP.szL_at hX.out
        have hV := hP.szL_at hY.out
        generalize x4[k]'(by rw [X4.out]; exact hlt) = x at hX hE hU
        generalize y4[k]'(by rw [Y4.out]; exact hlt) = y at hY hE' hV
        have zz : x4.length + hP.szL x4 = hPS.sz x4 := rfl
        have zv : y4.length + hP.szL y4 = hPS.sz y4 := rfl
        have zx : hP.sz x ≤ 100000000 := by omega
        have zy : hP.sz y ≤ 100000000 := by omega
        clear zz zv hU hV
        obtain ⟨ua0, ua1, ua2, ua3⟩ := x
        obtain ⟨ub0, ub1, ub2, ub3⟩ := y
        obtain ⟨Ae1, ne1, ce1, Ae2, ne2, ce2, Ae3, ne3, ce3, rfl, hE1, hE2, hE3⟩ := tP_R.1 hE
        obtain ⟨Be1, me1, de1, Be2, me2, de2, Be3, me3, de3, rfl, hG1, hG2, hG3⟩ := tP_R.1 hE'
        have e0 : wo1.cell? ⟨b, o1 + k * 4, none⟩ = some (.int .i64 ua0) := hcc 0 _ rfl
        have f0 : wo1.cell? ⟨b', o2 + k * 4, none⟩ = some (.int .i64 ub0) := hdd 0 _ rfl
        have e1 : wo1.cell? ⟨b, o1 + k * 4 + 1, none⟩ = some (.slice Ae1 ne1 ce1) := hcc 1 _ rfl
        have f1 : wo1.cell? ⟨b', o2 + k * 4 + 1, none⟩ = some (.slice Be1 me1 de1) := hdd 1 _ rfl
        have e2 : wo1.cell? ⟨b, o1 + k * 4 + 2, none⟩ = some (.slice Ae2 ne2 ce2) := hcc 2 _ rfl
        have f2 : wo1.cell? ⟨b', o2 + k * 4 + 2, none⟩ = some (.slice Be2 me2 de2) := hdd 2 _ rfl
        have e3 : wo1.cell? ⟨b, o1 + k * 4 + 3, none⟩ = some (.slice Ae3 ne3 ce3) := hcc 3 _ rfl
        have f3 : wo1.cell? ⟨b', o2 + k * 4 + 3, none⟩ = some (.slice Be3 me3 de3) := hdd 3 _ rfl
        clear hcc hdd
        obtain ⟨U, hU⟩ : ∃ U, U = wo1.alloc (.cells #[.int .i64 ua0, .slice Ae1 ne1 ce1, .slice Ae2 ne2 ce2, .slice Ae3 ne3 ce3] 56) := ⟨_, rfl⟩
        have G0 : Below wo1.heap.size wo1 U := by rw [hU]; exact (Below.refl _ _).alloc (Nat.le_refl _) _
        have sU : wo1.heap.size < U.heap.size := by rw [hU]; simp
        have g0 : U.cell? ⟨wo1.heap.size, 0, none⟩ = some (.int .i64 ua0) := by rw [hU, cell_of_row _ wo1.heap.size 0 _ 56 (0, 0) (heap_alloc_new wo1 _)]; rfl
        have l0 : U.cell? ⟨b', o2 + k * 4, none⟩ = some (.int .i64 ub0) := by rw [G0.cell hab']; exact f0
        have g1 : U.cell? ⟨wo1.heap.size, 1, none⟩ = some (.slice Ae1 ne1 ce1) := by rw [hU, cell_of_row _ wo1.heap.size 1 _ 56 (0, 0) (heap_alloc_new wo1 _)]; rfl
        have l1 : U.cell? ⟨b', o2 + k * 4 + 1, none⟩ = some (.slice Be1 me1 de1) := by rw [G0.cell hab']; exact f1
        have g2 : U.cell? ⟨wo1.heap.size, 2, none⟩ = some (.slice Ae2 ne2 ce2) := by rw [hU, cell_of_row _ wo1.heap.size 2 _ 56 (0, 0) (heap_alloc_new wo1 _)]; rfl
        have l2 : U.cell? ⟨b', o2 + k * 4 + 2, none⟩ = some (.slice Be2 me2 de2) := by rw [G0.cell hab']; exact f2
        have g3 : U.cell? ⟨wo1.heap.size, 3, none⟩ = some (.slice Ae3 ne3 ce3) := by rw [hU, cell_of_row _ wo1.heap.size 3 _ 56 (0, 0) (heap_alloc_new wo1 _)]; rfl
        have l3 : U.cell? ⟨b', o2 + k * 4 + 3, none⟩ = some (.slice Be3 me3 de3) := by rw [G0.cell hab']; exact f3
        have qq : U.cell? ⟨w.heap.size + 1, 4, none⟩ = some (.slice (some ⟨b', o2, none⟩) n4 d4) := by rw [G0.cell lx_wo1]; exact q4_wo1
        have HU := Lib.hid hU
        clear hU
        replace hE1 := tSS.later hE1 G0
        replace hG1 := tSS.later hG1 G0
        replace hE2 := tNS.later hE2 G0
        replace hG2 := tNS.later hG2 G0
        replace hE3 := tS.later hE3 G0
        replace hG3 := tS.later hG3 G0
        have rg0 := cell_regrown g0
        have rl0 := cell_regrown l0
        have rg1 := cell_regrown g1
        have rl1 := cell_regrown l1
        have rg2 := cell_regrown g2
        have rl2 := cell_regrown l2
        have rg3 := cell_regrown g3
        have rl3 := cell_regrown l3
        have rqq := cell_regrown qq
        have cP : ∀ d os, Calls Try.prog 27 #[.agg #[.int .i64 ua0, .slice Ae1 ne1 ce1, .slice Ae2 ne2 ce2, .slice Ae3 ne3 ce3], .agg #[.int .i64 ub0, .slice Be1 me1 de1, .slice Be2 me2 de2, .slice Be3 me3 de3]] (grow (redrawn U d) os) fun e w'' => e = .returned (.bool (decide (((ua0, ua1, ua2, ua3) : Patch) = (ub0, ub1, ub2, ub3)))) ∧ ∃ p : Regrown, w'' = grow (redrawn U p.d) p.os := fun d os => Calls.regrown_of (impl_SamePatch _ _ _ _ _ _ _ _ _ _ _ _ _ _ _ _ _ _ _ _ _ _ _ _ _ _ _ (tSS.later hE1 (below_regrown U d os)) (tSS.later hG1 (below_regrown U d os)) (tNS.later hE2 (below_regrown U d os)) (tNS.later hG2 (below_regrown U d os)) (tS.later hE3 (below_regrown U d os)) (tS.later hG3 (below_regrown U d os)) zx zy)
        clear g0 l0 g1 l1 g2 l2 g3 l3 qq
        by_cases hp : ((ua0, ua1, ua2, ua3) : Patch) = (ub0, ub1, ub2, ub3)
        · rw [decide_eq_true hp] at cP
          have HP := Lib.hid hp
          clear hp
          go_wp2
          rw [← HU.out]
          clear e0 f0 e1 f1 e2 f2 e3 f3
          (refine wp_region_quiet_below (by kernel_rfl) (by kernel_rfl) ?_; (repeat (go_big_quiet_step (exact cP _ _))); refine wpQuiet_nil ?_; intro _ hw'; obtain ⟨⟨dq, osq⟩, hw''⟩ := hw'; subst hw'')
          go_wp2
          go_roundw
          case rel => exact ⟨k + 1, by go_num, by omega, Lib.hid (by rw [M.take_at hX.out, M.take_at hY.out, H.out, HP.out]), bel_trans hb1 (bel_trans G0 (below_regrown U dq osq))⟩
          case measure => simp [intOf]; omega
        · rw [decide_eq_false hp] at cP
          have hxy : ¬ x4 = y4 := fun e => by have h1 := hX.out; rw [e, hY.out] at h1; injection h1 with h1; exact hp h1.symm
          have R := Lib.hid (show decide (((a0, x1, x2, x3, x4, x5) : Sess) = (a0, y1, y2, y3, y4, y5)) = false by rw [decide_eq_false_iff_not]; intro e; simp only [Prod.mk.injEq] at e; exact hxy e.2.2.2.2.1)
          clear hp hxy
          go_wp2
          rw [← HU.out]
          clear e0 f0 e1 f1 e2 f2 e3 f3
          (refine wp_region_quiet_below (by kernel_rfl) (by kernel_rfl) ?_; (repeat (go_big_quiet_step (exact cP _ _))); refine wpQuiet_nil ?_; intro _ hw'; obtain ⟨⟨dq, osq⟩, hw''⟩ := hw'; subst hw'')
          go_wp2
          go_ret
          exact ⟨ret_bool (by rw [R.out]), bel_trans B_wo1 (bel_trans G0 (below_regrown U dq osq))⟩
      have E4 := Lib.hid (show x4 = y4 by have := H.out; rwa [List.take_of_length_le (by rw [X4.out]; omega), List.take_of_length_le (by rw [Y4.out]; omega)] at this)
      clear H
      go_wp2
      clear hlt hk
      go_ret
      exact ⟨ret_bool (by rw [E1.out, E2.out, E3.out, E4.out, E5.out]; simp), B_wo1⟩
theorem spec_SameSession (a0 b0 : Int) (A1 : Option Addr) (n1 c1 : Nat) (B1 : Option Addr) (m1 d1 : Nat) (A2 : Option Addr) (n2 c2 : Nat) (B2 : Option Addr) (m2 d2 : Nat) (A3 : Option Addr) (n3 c3 : Nat) (B3 : Option Addr) (m3 d3 : Nat) (A4 : Option Addr) (n4 c4 : Nat) (B4 : Option Addr) (m4 d4 : Nat) (A5 : Option Addr) (n5 c5 : Nat) (B5 : Option Addr) (m5 d5 : Nat) (x1 y1 : List (List Int)) (x2 y2 : List (List Clip_)) (x3 y3 : List Int) (x4 y4 : List Patch) (x5 y5 : List Strip) (w : World) (h1 : tSS.R w w.heap.size [.slice A1 n1 c1] x1) (k1 : tSS.R w w.heap.size [.slice B1 m1 d1] y1) (h2 : tTS.R w w.heap.size [.slice A2 n2 c2] x2) (k2 : tTS.R w w.heap.size [.slice B2 m2 d2] y2) (h3 : tS.R w w.heap.size [.slice A3 n3 c3] x3) (k3 : tS.R w w.heap.size [.slice B3 m3 d3] y3) (h4 : tPS.R w w.heap.size [.slice A4 n4 c4] x4) (k4 : tPS.R w w.heap.size [.slice B4 m4 d4] y4) (h5 : tM.R w w.heap.size [.slice A5 n5 c5] x5) (k5 : tM.R w w.heap.size [.slice B5 m5 d5] y5) (hn : hZ.sz ((a0, x1, x2, x3, x4, x5) : Sess) ≤ 100000000) (hn2 : hZ.sz ((b0, y1, y2, y3, y4, y5) : Sess) ≤ 100000000) :
    Calls Try.prog 5 #[.agg #[.int .i64 a0, .slice A1 n1 c1, .slice A2 n2 c2, .slice A3 n3 c3, .slice A4 n4 c4, .slice A5 n5 c5], .agg #[.int .i64 b0, .slice B1 m1 d1, .slice B2 m2 d2, .slice B3 m3 d3, .slice B4 m4 d4, .slice B5 m5 d5]] w fun e w' => e = .returned (.bool (decide (((a0, x1, x2, x3, x4, x5) : Sess) = (b0, y1, y2, y3, y4, y5)))) ∧ Below w.heap.size w w' := by
  obtain ⟨W, hW⟩ : ∃ W, W = (w.alloc (.cells #[.int .i64 a0, .slice A1 n1 c1, .slice A2 n2 c2, .slice A3 n3 c3, .slice A4 n4 c4, .slice A5 n5 c5] 39)).alloc (.cells #[.int .i64 b0, .slice B1 m1 d1, .slice B2 m2 d2, .slice B3 m3 d3, .slice B4 m4 d4, .slice B5 m5 d5] 39) := ⟨_, rfl⟩
  have B0 : Below w.heap.size w W := by rw [hW]; exact ((Below.refl _ _).alloc (Nat.le_refl _) _).alloc (by simp) _
  have p0 : W.cell? ⟨w.heap.size, 0, none⟩ = some (.int .i64 a0) := by rw [hW]; simp [go_sem]
  have q0 : W.cell? ⟨w.heap.size + 1, 0, none⟩ = some (.int .i64 b0) := by rw [hW]; simp [go_sem]
  have p1 : W.cell? ⟨w.heap.size, 1, none⟩ = some (.slice A1 n1 c1) := by rw [hW]; simp [go_sem]
  have q1 : W.cell? ⟨w.heap.size + 1, 1, none⟩ = some (.slice B1 m1 d1) := by rw [hW]; simp [go_sem]
  have p2 : W.cell? ⟨w.heap.size, 2, none⟩ = some (.slice A2 n2 c2) := by rw [hW]; simp [go_sem]
  have q2 : W.cell? ⟨w.heap.size + 1, 2, none⟩ = some (.slice B2 m2 d2) := by rw [hW]; simp [go_sem]
  have p3 : W.cell? ⟨w.heap.size, 3, none⟩ = some (.slice A3 n3 c3) := by rw [hW]; simp [go_sem]
  have q3 : W.cell? ⟨w.heap.size + 1, 3, none⟩ = some (.slice B3 m3 d3) := by rw [hW]; simp [go_sem]
  have p4 : W.cell? ⟨w.heap.size, 4, none⟩ = some (.slice A4 n4 c4) := by rw [hW]; simp [go_sem]
  have q4 : W.cell? ⟨w.heap.size + 1, 4, none⟩ = some (.slice B4 m4 d4) := by rw [hW]; simp [go_sem]
  have p5 : W.cell? ⟨w.heap.size, 5, none⟩ = some (.slice A5 n5 c5) := by rw [hW]; simp [go_sem]
  have q5 : W.cell? ⟨w.heap.size + 1, 5, none⟩ = some (.slice B5 m5 d5) := by rw [hW]; simp [go_sem]
  have lx : w.heap.size + 1 < W.heap.size := by rw [hW]; simp
  have HW := Lib.hid hW
  have r1 := tSS.later h1 B0
  have s1 := tSS.later k1 B0
  have X1 := Lib.hid (sl_R.1 h1).cap.1
  have Y1 := Lib.hid (sl_R.1 k1).cap.1
  have r2 := tTS.later h2 B0
  have s2 := tTS.later k2 B0
  have X2 := Lib.hid (sl_R.1 h2).cap.1
  have Y2 := Lib.hid (sl_R.1 k2).cap.1
  have r3 := tS.later h3 B0
  have s3 := tS.later k3 B0
  have X3 := Lib.hid (sl_R.1 h3).cap.1
  have Y3 := Lib.hid (sl_R.1 k3).cap.1
  have r4 := tPS.later h4 B0
  have s4 := tPS.later k4 B0
  have X4 := Lib.hid (sl_R.1 h4).cap.1
  have Y4 := Lib.hid (sl_R.1 k4).cap.1
  have r5 := tM.later h5 B0
  have s5 := tM.later k5 B0
  have X5 := Lib.hid (sl_R.1 h5).cap.1
  have Y5 := Lib.hid (sl_R.1 k5).cap.1
  rw [hZ_sz] at hn hn2
  have z1 : hSS.sz x1 ≤ 100000000 := by omega
  have v1 : hSS.sz y1 ≤ 100000000 := by omega
  have bn1 : n1 ≤ 100000000 := by have e : x1.length + hS.szL x1 = hSS.sz x1 := rfl; have := X1.out; omega
  have z2 : hTS.sz x2 ≤ 100000000 := by omega
  have v2 : hTS.sz y2 ≤ 100000000 := by omega
  have bn2 : n2 ≤ 100000000 := by have e : x2.length + hT.szL x2 = hTS.sz x2 := rfl; have := X2.out; omega
  have z3 : hS.sz x3 ≤ 100000000 := by omega
  have v3 : hS.sz y3 ≤ 100000000 := by omega
  have bn3 : n3 ≤ 100000000 := by have e : x3.length + hI.szL x3 = hS.sz x3 := rfl; have := X3.out; omega
  have z4 : hPS.sz x4 ≤ 100000000 := by omega
  have v4 : hPS.sz y4 ≤ 100000000 := by omega
  have bn4 : n4 ≤ 100000000 := by have e : x4.length + hP.szL x4 = hPS.sz x4 := rfl; have := X4.out; omega
  have z5 : hM.sz x5 ≤ 100000000 := by omega
  have v5 : hM.sz y5 ≤ 100000000 := by omega
  have bn5 : n5 ≤ 100000000 := by have e : x5.length + hSt.szL x5 = hM.sz x5 := rfl; have := X5.out; omega
  clear hW hn hn2 h1 k1 h2 k2 h3 k3 h4 k4 h5 k5
  by_cases e0 : ¬ a0 = b0
  · have g0 : (a0 != b0) = true := by simpa using e0
    have R := Lib.hid (show decide (((a0, x1, x2, x3, x4, x5) : Sess) = (b0, y1, y2, y3, y4, y5)) = false by rw [decide_eq_false_iff_not]; intro e; simp only [Prod.mk.injEq] at e; exact e0 e.1)
    go_enter Try.func5, Try.ntmps5
    go_wp2_with fail
    try rw [← HW.out]
    go_ret
    exact ⟨ret_bool (by rw [R.out]), B0⟩
  replace e0 : a0 = b0 := Decidable.not_not.1 e0
  subst e0
  by_cases e1 : ¬ n1 = m1
  · have g1 : ((n1 : Int) != (m1 : Int)) = true := by simp; omega
    have R := Lib.hid (show decide (((a0, x1, x2, x3, x4, x5) : Sess) = (a0, y1, y2, y3, y4, y5)) = false by rw [decide_eq_false_iff_not]; intro e; simp only [Prod.mk.injEq] at e; exact e1 (by rw [← X1.out, ← Y1.out, e.2.1]))
    go_enter Try.func5, Try.ntmps5
    go_wp2_with fail
    try rw [← HW.out]
    go_ret
    exact ⟨ret_bool (by rw [R.out]), B0⟩
  replace e1 : n1 = m1 := Decidable.not_not.1 e1
  subst e1
  by_cases e2 : ¬ n2 = m2
  · have g2 : ((n2 : Int) != (m2 : Int)) = true := by simp; omega
    have R := Lib.hid (show decide (((a0, x1, x2, x3, x4, x5) : Sess) = (a0, y1, y2, y3, y4, y5)) = false by rw [decide_eq_false_iff_not]; intro e; simp only [Prod.mk.injEq] at e; exact e2 (by rw [← X2.out, ← Y2.out, e.2.2.1]))
    go_enter Try.func5, Try.ntmps5
    go_wp2_with fail
    try rw [← HW.out]
    go_ret
    exact ⟨ret_bool (by rw [R.out]), B0⟩
  replace e2 : n2 = m2 := Decidable.not_not.1 e2
  subst e2
  go_enter Try.func5, Try.ntmps5
  go_wp2_with fail
  rw [← HW.out]
  by_cases e3 : ¬ x3 = y3
  · have HD := Lib.hid (decide_eq_false e3)
    have R := Lib.hid (show decide (((a0, x1, x2, x3, x4, x5) : Sess) = (a0, y1, y2, y3, y4, y5)) = false by rw [decide_eq_false_iff_not]; intro e; simp only [Prod.mk.injEq] at e; exact e3 e.2.2.2.1)
    refine (spec_l00Same _ _ _ _ _ _ _ _ _ (tS_R.1 r3).ri (tS_R.1 s3).ri (by omega)).mono ?_
    rw [HD.out]
    rintro e u1 ⟨rfl, bel1⟩
    go_wp2
    go_ret
    exact ⟨ret_bool (by rw [R.out]), bel_trans B0 bel1⟩
  replace e3 : x3 = y3 := Decidable.not_not.1 e3
  have E3 := Lib.hid e3
  have HD1 := Lib.hid (decide_eq_true e3)
  clear e3
  refine (spec_l00Same _ _ _ _ _ _ _ _ _ (tS_R.1 r3).ri (tS_R.1 s3).ri (by omega)).mono ?_
  rw [HD1.out]
  rintro e w1 ⟨rfl, bel1⟩
  have lx_w1 := Nat.lt_of_lt_of_le lx bel1.size
  have B_w1 := bel_trans B0 bel1
  have p0_w1 : w1.cell? ⟨w.heap.size, 0, none⟩ = some (.int .i64 a0) := by rw [bel1.cell (by show w.heap.size < _; have := lx; omega)]; exact p0
  have q0_w1 : w1.cell? ⟨w.heap.size + 1, 0, none⟩ = some (.int .i64 a0) := by rw [bel1.cell (by show w.heap.size + 1 < _; have := lx; omega)]; exact q0
  have p1_w1 : w1.cell? ⟨w.heap.size, 1, none⟩ = some (.slice A1 n1 c1) := by rw [bel1.cell (by show w.heap.size < _; have := lx; omega)]; exact p1
  have q1_w1 : w1.cell? ⟨w.heap.size + 1, 1, none⟩ = some (.slice B1 n1 d1) := by rw [bel1.cell (by show w.heap.size + 1 < _; have := lx; omega)]; exact q1
  have p2_w1 : w1.cell? ⟨w.heap.size, 2, none⟩ = some (.slice A2 n2 c2) := by rw [bel1.cell (by show w.heap.size < _; have := lx; omega)]; exact p2
  have q2_w1 : w1.cell? ⟨w.heap.size + 1, 2, none⟩ = some (.slice B2 n2 d2) := by rw [bel1.cell (by show w.heap.size + 1 < _; have := lx; omega)]; exact q2
  have p3_w1 : w1.cell? ⟨w.heap.size, 3, none⟩ = some (.slice A3 n3 c3) := by rw [bel1.cell (by show w.heap.size < _; have := lx; omega)]; exact p3
  have q3_w1 : w1.cell? ⟨w.heap.size + 1, 3, none⟩ = some (.slice B3 m3 d3) := by rw [bel1.cell (by show w.heap.size + 1 < _; have := lx; omega)]; exact q3
  have p4_w1 : w1.cell? ⟨w.heap.size, 4, none⟩ = some (.slice A4 n4 c4) := by rw [bel1.cell (by show w.heap.size < _; have := lx; omega)]; exact p4
  have q4_w1 : w1.cell? ⟨w.heap.size + 1, 4, none⟩ = some (.slice B4 m4 d4) := by rw [bel1.cell (by show w.heap.size + 1 < _; have := lx; omega)]; exact q4
  have p5_w1 : w1.cell? ⟨w.heap.size, 5, none⟩ = some (.slice A5 n5 c5) := by rw [bel1.cell (by show w.heap.size < _; have := lx; omega)]; exact p5
  have q5_w1 : w1.cell? ⟨w.heap.size + 1, 5, none⟩ = some (.slice B5 m5 d5) := by rw [bel1.cell (by show w.heap.size + 1 < _; have := lx; omega)]; exact q5
  have r1_w1 := tSS.later r1 bel1
  have s1_w1 := tSS.later s1 bel1
  have r2_w1 := tTS.later r2 bel1
  have s2_w1 := tTS.later s2 bel1
  have r3_w1 := tS.later r3 bel1
  have s3_w1 := tS.later s3 bel1
  have r4_w1 := tPS.later r4 bel1
  have s4_w1 := tPS.later s4 bel1
  have r5_w1 := tM.later r5 bel1
  have s5_w1 := tM.later s5 bel1
  clear p0 q0 p1 q1 p2 q2 p3 q3 p4 q4 p5 q5 r1 s1 r2 s2 r3 s3 r4 s4 r5 s5
  by_cases e4 : ¬ n4 = m4
  · have g4 : ((n4 : Int) != (m4 : Int)) = true := by simp; omega
    have R := Lib.hid (show decide (((a0, x1, x2, x3, x4, x5) : Sess) = (a0, y1, y2, y3, y4, y5)) = false by rw [decide_eq_false_iff_not]; intro e; simp only [Prod.mk.injEq] at e; exact e4 (by rw [← X4.out, ← Y4.out, e.2.2.2.2.1]))
    go_wp2_with fail
    go_ret
    exact ⟨ret_bool (by rw [R.out]), B_w1⟩
  replace e4 : n4 = m4 := Decidable.not_not.1 e4
  subst e4
  go_wp2_with fail
  by_cases e5 : ¬ x5 = y5
  · have HD := Lib.hid (decide_eq_false e5)
    have R := Lib.hid (show decide (((a0, x1, x2, x3, x4, x5) : Sess) = (a0, y1, y2, y3, y4, y5)) = false by rw [decide_eq_false_iff_not]; intro e; simp only [Prod.mk.injEq] at e; exact e5 e.2.2.2.2.2)
    refine (spec_SameMixer _ _ _ _ _ _ _ _ _ r5_w1 s5_w1 z5 v5).mono ?_
    rw [HD.out]
    rintro e u1 ⟨rfl, bel1⟩
    go_wp2
    go_ret
    exact ⟨ret_bool (by rw [R.out]), bel_trans B_w1 bel1⟩
  replace e5 : x5 = y5 := Decidable.not_not.1 e5
  have E5 := Lib.hid e5
  have HD2 := Lib.hid (decide_eq_true e5)
  clear e5
  refine (spec_SameMixer _ _ _ _ _ _ _ _ _ r5_w1 s5_w1 z5 v5).mono ?_
  rw [HD2.out]
  rintro e w2 ⟨rfl, bel2⟩
  have lx_w2 := Nat.lt_of_lt_of_le lx_w1 bel2.size
  have B_w2 := bel_trans B_w1 bel2
  have p0_w2 : w2.cell? ⟨w.heap.size, 0, none⟩ = some (.int .i64 a0) := by rw [bel2.cell (by show w.heap.size < _; have := lx_w1; omega)]; exact p0_w1
  have q0_w2 : w2.cell? ⟨w.heap.size + 1, 0, none⟩ = some (.int .i64 a0) := by rw [bel2.cell (by show w.heap.size + 1 < _; have := lx_w1; omega)]; exact q0_w1
  have p1_w2 : w2.cell? ⟨w.heap.size, 1, none⟩ = some (.slice A1 n1 c1) := by rw [bel2.cell (by show w.heap.size < _; have := lx_w1; omega)]; exact p1_w1
  have q1_w2 : w2.cell? ⟨w.heap.size + 1, 1, none⟩ = some (.slice B1 n1 d1) := by rw [bel2.cell (by show w.heap.size + 1 < _; have := lx_w1; omega)]; exact q1_w1
  have p2_w2 : w2.cell? ⟨w.heap.size, 2, none⟩ = some (.slice A2 n2 c2) := by rw [bel2.cell (by show w.heap.size < _; have := lx_w1; omega)]; exact p2_w1
  have q2_w2 : w2.cell? ⟨w.heap.size + 1, 2, none⟩ = some (.slice B2 n2 d2) := by rw [bel2.cell (by show w.heap.size + 1 < _; have := lx_w1; omega)]; exact q2_w1
  have p3_w2 : w2.cell? ⟨w.heap.size, 3, none⟩ = some (.slice A3 n3 c3) := by rw [bel2.cell (by show w.heap.size < _; have := lx_w1; omega)]; exact p3_w1
  have q3_w2 : w2.cell? ⟨w.heap.size + 1, 3, none⟩ = some (.slice B3 m3 d3) := by rw [bel2.cell (by show w.heap.size + 1 < _; have := lx_w1; omega)]; exact q3_w1
  have p4_w2 : w2.cell? ⟨w.heap.size, 4, none⟩ = some (.slice A4 n4 c4) := by rw [bel2.cell (by show w.heap.size < _; have := lx_w1; omega)]; exact p4_w1
  have q4_w2 : w2.cell? ⟨w.heap.size + 1, 4, none⟩ = some (.slice B4 n4 d4) := by rw [bel2.cell (by show w.heap.size + 1 < _; have := lx_w1; omega)]; exact q4_w1
  have p5_w2 : w2.cell? ⟨w.heap.size, 5, none⟩ = some (.slice A5 n5 c5) := by rw [bel2.cell (by show w.heap.size < _; have := lx_w1; omega)]; exact p5_w1
  have q5_w2 : w2.cell? ⟨w.heap.size + 1, 5, none⟩ = some (.slice B5 m5 d5) := by rw [bel2.cell (by show w.heap.size + 1 < _; have := lx_w1; omega)]; exact q5_w1
  have r1_w2 := tSS.later r1_w1 bel2
  have s1_w2 := tSS.later s1_w1 bel2
  have r2_w2 := tTS.later r2_w1 bel2
  have s2_w2 := tTS.later s2_w1 bel2
  have r3_w2 := tS.later r3_w1 bel2
  have s3_w2 := tS.later s3_w1 bel2
  have r4_w2 := tPS.later r4_w1 bel2
  have s4_w2 := tPS.later s4_w1 bel2
  have r5_w2 := tM.later r5_w1 bel2
  have s5_w2 := tM.later s5_w1 bel2
  clear p0_w1 q0_w1 p1_w1 q1_w1 p2_w1 q2_w1 p3_w1 q3_w1 p4_w1 q4_w1 p5_w1 q5_w1 r1_w1 s1_w1 r2_w1 s2_w1 r3_w1 s3_w1 r4_w1 s4_w1 r5_w1 s5_w1
  go_wp2
  go_loopw [5] (fun i wr => ∃ k : Nat, i = .int .i64 k ∧ k ≤ n1 ∧ Hid (x1.take k = y1.take k) ∧ Below w2.heap.size w2 wr) (fun i _ => n1 - (intOf i).toNat)
  case atStart => exact ⟨0, rfl, by omega, Lib.hid (by simp), Below.refl _ _⟩
  case round =>
    obtain ⟨k, rfl, hk, H, hb0⟩ := hrel
    obtain ⟨wo0, rfl⟩ : ∃ wo : World, wo = wr := ⟨_, rfl⟩
    have lx_wo0 := Nat.lt_of_lt_of_le lx_w2 hb0.size
    have B_wo0 := bel_trans B_w2 hb0
    have p0_wo0 : wo0.cell? ⟨w.heap.size, 0, none⟩ = some (.int .i64 a0) := by rw [hb0.cell (by show w.heap.size < _; have := lx_w2; omega)]; exact p0_w2
    have q0_wo0 : wo0.cell? ⟨w.heap.size + 1, 0, none⟩ = some (.int .i64 a0) := by rw [hb0.cell (by show w.heap.size + 1 < _; have := lx_w2; omega)]; exact q0_w2
    have p1_wo0 : wo0.cell? ⟨w.heap.size, 1, none⟩ = some (.slice A1 n1 c1) := by rw [hb0.cell (by show w.heap.size < _; have := lx_w2; omega)]; exact p1_w2
    have q1_wo0 : wo0.cell? ⟨w.heap.size + 1, 1, none⟩ = some (.slice B1 n1 d1) := by rw [hb0.cell (by show w.heap.size + 1 < _; have := lx_w2; omega)]; exact q1_w2
    have p2_wo0 : wo0.cell? ⟨w.heap.size, 2, none⟩ = some (.slice A2 n2 c2) := by rw [hb0.cell (by show w.heap.size < _; have := lx_w2; omega)]; exact p2_w2
    have q2_wo0 : wo0.cell? ⟨w.heap.size + 1, 2, none⟩ = some (.slice B2 n2 d2) := by rw [hb0.cell (by show w.heap.size + 1 < _; have := lx_w2; omega)]; exact q2_w2
    have p3_wo0 : wo0.cell? ⟨w.heap.size, 3, none⟩ = some (.slice A3 n3 c3) := by rw [hb0.cell (by show w.heap.size < _; have := lx_w2; omega)]; exact p3_w2
    have q3_wo0 : wo0.cell? ⟨w.heap.size + 1, 3, none⟩ = some (.slice B3 m3 d3) := by rw [hb0.cell (by show w.heap.size + 1 < _; have := lx_w2; omega)]; exact q3_w2
    have p4_wo0 : wo0.cell? ⟨w.heap.size, 4, none⟩ = some (.slice A4 n4 c4) := by rw [hb0.cell (by show w.heap.size < _; have := lx_w2; omega)]; exact p4_w2
    have q4_wo0 : wo0.cell? ⟨w.heap.size + 1, 4, none⟩ = some (.slice B4 n4 d4) := by rw [hb0.cell (by show w.heap.size + 1 < _; have := lx_w2; omega)]; exact q4_w2
    have p5_wo0 : wo0.cell? ⟨w.heap.size, 5, none⟩ = some (.slice A5 n5 c5) := by rw [hb0.cell (by show w.heap.size < _; have := lx_w2; omega)]; exact p5_w2
    have q5_wo0 : wo0.cell? ⟨w.heap.size + 1, 5, none⟩ = some (.slice B5 m5 d5) := by rw [hb0.cell (by show w.heap.size + 1 < _; have := lx_w2; omega)]; exact q5_w2
    have r1_wo0 := tSS.later r1_w2 hb0
    have s1_wo0 := tSS.later s1_w2 hb0
    have r2_wo0 := tTS.later r2_w2 hb0
    have s2_wo0 := tTS.later s2_w2 hb0
    have r3_wo0 := tS.later r3_w2 hb0
    have s3_wo0 := tS.later s3_w2 hb0
    have r4_wo0 := tPS.later r4_w2 hb0
    have s4_wo0 := tPS.later s4_w2 hb0
    have r5_wo0 := tM.later r5_w2 hb0
    have s5_wo0 := tM.later s5_w2 hb0
    clear p0_w2 q0_w2 p1_w2 q1_w2 p2_w2 q2_w2 p3_w2 q3_w2 p4_w2 q4_w2 p5_w2 q5_w2 r1_w2 s1_w2 r2_w2 s2_w2 r3_w2 s3_w2 r4_w2 s4_w2 r5_w2 s5_w2
    by_cases hlt : k < n1
    · have hX := Lib.hid (List.getElem?_eq_getElem (l := x1) (i := k) (by rw [X1.out]; exact hlt))
      have hY := Lib.hid (List.getElem?_eq_getElem (l := y1) (i := k) (by rw [Y1.out]; exact hlt))
      obtain ⟨b, o1, cc, cs, hv, hab, -, hE, hcc⟩ := (sl_R.1 r1_wo0).atX hX.out
      obtain ⟨b', o2, cc', cs', hv', hab', -, hE', hdd⟩ := (sl_R.1 s1_wo0).atX hY.out
      simp only [Value.slice.injEq] at hv hv'
      obtain ⟨rfl, -, rfl⟩ := hv
      obtain ⟨rfl, -, rfl⟩ := hv'
      have hU := hS.szL_at hX.out
      have hV := hS.szL_at hY.out
      generalize x1[k]'(by rw [X1.out]; exact hlt) = x at hX hE hU
      generalize y1[k]'(by rw [Y1.out]; exact hlt) = y at hY hE' hV
      have zz : x1.length + hS.szL x1 = hSS.sz x1 := rfl
      have zv : y1.length + hS.szL y1 = hSS.sz y1 := rfl
      have zx : hS.sz x ≤ 100000000 := by omega
      have zy : hS.sz y ≤ 100000000 := by omega
      clear zz zv hU hV
      obtain ⟨Ae, ne, ce, rfl⟩ := open_sl hE
      obtain ⟨Be, me, de, rfl⟩ := open_sl hE'
      have hl1 := (sl_R.1 hE).cap.1
      have hl2 := (sl_R.1 hE').cap.1
      have e0 : wo0.cell? ⟨b, o1 + k * 1, none⟩ = some (.slice Ae ne ce) := hcc 0 _ rfl
      have f0 : wo0.cell? ⟨b', o2 + k * 1, none⟩ = some (.slice Be me de) := hdd 0 _ rfl
      rw [Nat.mul_one] at e0 f0
      clear hcc hdd
      have pp := p1_wo0
      have qq := q1_wo0
      have nb : ne ≤ 1000000000 := by have := tS_len hE; rw [hS_sz] at zx; omega
      have re0 := cell_regrown e0
      have rf0 := cell_regrown f0
      have rpp := cell_regrown pp
      have rqq := cell_regrown qq
      have cP : ∀ d os, Calls Try.prog 14 #[.slice Ae ne ce, .slice Be me de] (grow (redrawn wo0 d) os) fun e w'' => e = .returned (.bool (decide (x = y))) ∧ ∃ p : Regrown, w'' = grow (redrawn wo0 p.d) p.os := fun d os => Calls.regrown_of (spec_l00Same _ _ _ _ _ _ _ _ _ (tS_R.1 (tS.later hE (below_regrown wo0 d os))).ri (tS_R.1 (tS.later hE' (below_regrown wo0 d os))).ri nb)
      clear e0 f0 pp qq
      by_cases hp : x = y
      · rw [decide_eq_true hp] at cP
        have HP := Lib.hid hp
        clear hp
        go_wp2
        (refine wp_region_quiet_below (by kernel_rfl) (by kernel_rfl) ?_; (repeat (go_big_quiet_step (exact cP _ _))); refine wpQuiet_nil ?_; intro _ hw'; obtain ⟨⟨dq, osq⟩, hw''⟩ := hw'; subst hw'')
        go_wp2
        go_roundw
        case rel => exact ⟨k + 1, by go_num, by omega, Lib.hid (by rw [M.take_at hX.out, M.take_at hY.out, H.out, HP.out]), bel_trans hb0 (below_regrown wo0 dq osq)⟩
        case measure => simp [intOf]; omega
      · rw [decide_eq_false hp] at cP
        have hxy : ¬ x1 = y1 := fun e => by have h1 := hX.out; rw [e, hY.out] at h1; injection h1 with h1; exact hp h1.symm
        have R := Lib.hid (show decide (((a0, x1, x2, x3, x4, x5) : Sess) = (a0, y1, y2, y3, y4, y5)) = false by rw [decide_eq_false_iff_not]; intro e; simp only [Prod.mk.injEq] at e; exact hxy e.2.1)
        clear hp hxy
        go_wp2
        (refine wp_region_quiet_below (by kernel_rfl) (by kernel_rfl) ?_; (repeat (go_big_quiet_step (exact cP _ _))); refine wpQuiet_nil ?_; intro _ hw'; obtain ⟨⟨dq, osq⟩, hw''⟩ := hw'; subst hw'')
        go_wp2
        go_ret
        exact ⟨ret_bool (by rw [R.out]), bel_trans B_wo0 (below_regrown wo0 dq osq)⟩
    have E1 := Lib.hid (show x1 = y1 by have := H.out; rwa [List.take_of_length_le (by rw [X1.out]; omega), List.take_of_length_le (by rw [Y1.out]; omega)] at this)
    clear H
    go_wp2
    clear hlt hk
    go_loopw [6] (fun i wr => ∃ k : Nat, i = .int .i64 k ∧ k ≤ n2 ∧ Hid (x2.take k = y2.take k) ∧ Below wo0.heap.size wo0 wr) (fun i _ => n2 - (intOf i).toNat)
    case atStart => exact ⟨0, rfl, by omega, Lib.hid (by simp), Below.refl _ _⟩
    case round =>
      obtain ⟨k, rfl, hk, H, hb1⟩ := hrel
      obtain ⟨wo1, rfl⟩ : ∃ wo : World, wo = wr := ⟨_, rfl⟩
      have lx_wo1 := Nat.lt_of_lt_of_le lx_wo0 hb1.size
      have B_wo1 := bel_trans B_wo0 hb1
      have p0_wo1 : wo1.cell? ⟨w.heap.size, 0, none⟩ = some (.int .i64 a0) := by rw [hb1.cell (by show w.heap.size < _; have := lx_wo0; omega)]; exact p0_wo0
      have q0_wo1 : wo1.cell? ⟨w.heap.size + 1, 0, none⟩ = some (.int .i64 a0) := by rw [hb1.cell (by show w.heap.size + 1 < _; have := lx_wo0; omega)]; exact q0_wo0
      have p1_wo1 : wo1.cell? ⟨w.heap.size, 1, none⟩ = some (.slice A1 n1 c1) := by rw [hb1.cell (by show w.heap.size < _; have := lx_wo0; omega)]; exact p1_wo0
      have q1_wo1 : wo1.cell? ⟨w.heap.size + 1, 1, none⟩ = some (.slice B1 n1 d1) := by rw [hb1.cell (by show w.heap.size + 1 < _; have := lx_wo0; omega)]; exact q1_wo0
      have p2_wo1 : wo1.cell? ⟨w.heap.size, 2, none⟩ = some (.slice A2 n2 c2) := by rw [hb1.cell (by show w.heap.size < _; have := lx_wo0; omega)]; exact p2_wo0
      have q2_wo1 : wo1.cell? ⟨w.heap.size + 1, 2, none⟩ = some (.slice B2 n2 d2) := by rw [hb1.cell (by show w.heap.size + 1 < _; have := lx_wo0; omega)]; exact q2_wo0
      have p3_wo1 : wo1.cell? ⟨w.heap.size, 3, none⟩ = some (.slice A3 n3 c3) := by rw [hb1.cell (by show w.heap.size < _; have := lx_wo0; omega)]; exact p3_wo0
      have q3_wo1 : wo1.cell? ⟨w.heap.size + 1, 3, none⟩ = some (.slice B3 m3 d3) := by rw [hb1.cell (by show w.heap.size + 1 < _; have := lx_wo0; omega)]; exact q3_wo0
      have p4_wo1 : wo1.cell? ⟨w.heap.size, 4, none⟩ = some (.slice A4 n4 c4) := by rw [hb1.cell (by show w.heap.size < _; have := lx_wo0; omega)]; exact p4_wo0
      have q4_wo1 : wo1.cell? ⟨w.heap.size + 1, 4, none⟩ = some (.slice B4 n4 d4) := by rw [hb1.cell (by show w.heap.size + 1 < _; have := lx_wo0; omega)]; exact q4_wo0
      have p5_wo1 : wo1.cell? ⟨w.heap.size, 5, none⟩ = some (.slice A5 n5 c5) := by rw [hb1.cell (by show w.heap.size < _; have := lx_wo0; omega)]; exact p5_wo0
      have q5_wo1 : wo1.cell? ⟨w.heap.size + 1, 5, none⟩ = some (.slice B5 m5 d5) := by rw [hb1.cell (by show w.heap.size + 1 < _; have := lx_wo0; omega)]; exact q5_wo0
      have r1_wo1 := tSS.later r1_wo0 hb1
      have s1_wo1 := tSS.later s1_wo0 hb1
      have r2_wo1 := tTS.later r2_wo0 hb1
      have s2_wo1 := tTS.later s2_wo0 hb1
      have r3_wo1 := tS.later r3_wo0 hb1
      have s3_wo1 := tS.later s3_wo0 hb1
      have r4_wo1 := tPS.later r4_wo0 hb1
      have s4_wo1 := tPS.later s4_wo0 hb1
      have r5_wo1 := tM.later r5_wo0 hb1
      have s5_wo1 := tM.later s5_wo0 hb1
      clear p0_wo0 q0_wo0 p1_wo0 q1_wo0 p2_wo0 q2_wo0 p3_wo0 q3_wo0 p4_wo0 q4_wo0 p5_wo0 q5_wo0 r1_wo0 s1_wo0 r2_wo0 s2_wo0 r3_wo0 s3_wo0 r4_wo0 s4_wo0 r5_wo0 s5_wo0
      by_cases hlt : k < n2
      · have hX := Lib.hid (List.getElem?_eq_getElem (l := x2) (i := k) (by rw [X2.out]; exact hlt))
        have hY := Lib.hid (List.getElem?_eq_getElem (l := y2) (i := k) (by rw [Y2.out]; exact hlt))
        obtain ⟨b, o1, cc, cs, hv, hab, -, hE, hcc⟩ := (sl_R.1 r2_wo1).atX hX.out
        obtain ⟨b', o2, cc', cs', hv', hab', -, hE', hdd⟩ := (sl_R.1 s2_wo1).atX hY.out
        simp only [Value.slice.injEq] at hv hv'
        obtain ⟨rfl, -, rfl⟩ := hv
        obtain ⟨rfl, -, rfl⟩ := hv'
        have hU := hT.szL_at hX.out
        have hV := hT.szL_at hY.out
        generalize x2[k]'(by rw [X2.out]; exact hlt) = x at hX hE hU
        generalize y2[k]'(by rw [Y2.out]; exact hlt) = y at hY hE' hV
        have zz : x2.length + hT.szL x2 = hTS.sz x2 := rfl
        have zv : y2.length + hT.szL y2 = hTS.sz y2 := rfl
        have zx : hT.sz x ≤ 100000000 := by omega
        have zy : hT.sz y ≤ 100000000 := by omega
        clear zz zv hU hV
        obtain ⟨Ae, ne, ce, rfl⟩ := open_sl hE
        obtain ⟨Be, me, de, rfl⟩ := open_sl hE'
        have hl1 := (sl_R.1 hE).cap.1
        have hl2 := (sl_R.1 hE').cap.1
        have e0 : wo1.cell? ⟨b, o1 + k * 1, none⟩ = some (.slice Ae ne ce) := hcc 0 _ rfl
        have f0 : wo1.cell? ⟨b', o2 + k * 1, none⟩ = some (.slice Be me de) := hdd 0 _ rfl
        rw [Nat.mul_one] at e0 f0
        clear hcc hdd
        have pp := p2_wo1
        have qq := q2_wo1
        have nb : ne ≤ 1000000000 := by rw [hT_sz] at zx; have := (sl_R.1 hE).cap.1; omega
        have nb2 : me ≤ 1000000000 := by rw [hT_sz] at zy; have := (sl_R.1 hE').cap.1; omega
        have re0 := cell_regrown e0
        have rf0 := cell_regrown f0
        have rpp := cell_regrown pp
        have rqq := cell_regrown qq
        have cP : ∀ d os, Calls Try.prog 16 #[.agg #[.slice Ae ne ce], .agg #[.slice Be me de]] (grow (redrawn wo1 d) os) fun e w'' => e = .returned (.bool (decide (x = y))) ∧ ∃ p : Regrown, w'' = grow (redrawn wo1 p.d) p.os := fun d os => Calls.regrown_of (spec_SameTrack _ _ _ _ _ _ _ _ _ (sl_R.1 (tT.later hE (below_regrown wo1 d os))).flat.1 (sl_R.1 (tT.later hE' (below_regrown wo1 d os))).flat.1 nb nb2)
        clear e0 f0 pp qq
        by_cases hp : x = y
        · rw [decide_eq_true hp] at cP
          have HP := Lib.hid hp
          clear hp
          go_wp2
          (refine wp_region_quiet_below (by kernel_rfl) (by kernel_rfl) ?_; (repeat (go_big_quiet_step (exact cP _ _))); refine wpQuiet_nil ?_; intro _ hw'; obtain ⟨⟨dq, osq⟩, hw''⟩ := hw'; subst hw'')
          go_wp2
          go_roundw
          case rel => exact ⟨k + 1, by go_num, by omega, Lib.hid (by rw [M.take_at hX.out, M.take_at hY.out, H.out, HP.out]), bel_trans hb1 (below_regrown wo1 dq osq)⟩
          case measure => simp [intOf]; omega
        · rw [decide_eq_false hp] at cP
          have hxy : ¬ x2 = y2 := fun e => by have h1 := hX.out; rw [e, hY.out] at h1; injection h1 with h1; exact hp h1.symm
          have R := Lib.hid (show decide (((a0, x1, x2, x3, x4, x5) : Sess) = (a0, y1, y2, y3, y4, y5)) = false by rw [decide_eq_false_iff_not]; intro e; simp only [Prod.mk.injEq] at e; exact hxy e.2.2.1)
          clear hp hxy
          go_wp2
          (refine wp_region_quiet_below (by kernel_rfl) (by kernel_rfl) ?_; (repeat (go_big_quiet_step (exact cP _ _))); refine wpQuiet_nil ?_; intro _ hw'; obtain ⟨⟨dq, osq⟩, hw''⟩ := hw'; subst hw'')
          go_wp2
          go_ret
          exact ⟨ret_bool (by rw [R.out]), bel_trans B_wo1 (below_regrown wo1 dq osq)⟩
      have E2 := Lib.hid (show x2 = y2 by have := H.out; rwa [List.take_of_length_le (by rw [X2.out]; omega), List.take_of_length_le (by rw [Y2.out]; omega)] at this)
      clear H
      go_wp2
      clear hlt hk
      go_loopw [7] (fun i wr => ∃ k : Nat, i = .int .i64 k ∧ k ≤ n4 ∧ Hid (x4.take k = y4.take k) ∧ Below wo1.heap.size wo1 wr) (fun i _ => n4 - (intOf i).toNat)
      case atStart => exact ⟨0, rfl, by omega, Lib.hid (by simp), Below.refl _ _⟩
      case round =>
        obtain ⟨k, rfl, hk, H, hb2⟩ := hrel
        obtain ⟨wo2, rfl⟩ : ∃ wo : World, wo = wr := ⟨_, rfl⟩
        have lx_wo2 := Nat.lt_of_lt_of_le lx_wo1 hb2.size
        have B_wo2 := bel_trans B_wo1 hb2
        have p0_wo2 : wo2.cell? ⟨w.heap.size, 0, none⟩ = some (.int .i64 a0) := by rw [hb2.cell (by show w.heap.size < _; have := lx_wo1; omega)]; exact p0_wo1
        have q0_wo2 : wo2.cell? ⟨w.heap.size + 1, 0, none⟩ = some (.int .i64 a0) := by rw [hb2.cell (by show w.heap.size + 1 < _; have := lx_wo1; omega)]; exact q0_wo1
        have p1_wo2 : wo2.cell? ⟨w.heap.size, 1, none⟩ = some (.slice A1 n1 c1) := by rw [hb2.cell (by show w.heap.size < _; have := lx_wo1; omega)]; exact p1_wo1
        have q1_wo2 : wo2.cell? ⟨w.heap.size + 1, 1, none⟩ = some (.slice B1 n1 d1) := by rw [hb2.cell (by show w.heap.size + 1 < _; have := lx_wo1; omega)]; exact q1_wo1
        have p2_wo2 : wo2.cell? ⟨w.heap.size, 2, none⟩ = some (.slice A2 n2 c2) := by rw [hb2.cell (by show w.heap.size < _; have := lx_wo1; omega)]; exact p2_wo1
        have q2_wo2 : wo2.cell? ⟨w.heap.size + 1, 2, none⟩ = some (.slice B2 n2 d2) := by rw [hb2.cell (by show w.heap.size + 1 < _; have := lx_wo1; omega)]; exact q2_wo1
        have p3_wo2 : wo2.cell? ⟨w.heap.size, 3, none⟩ = some (.slice A3 n3 c3) := by rw [hb2.cell (by show w.heap.size < _; have := lx_wo1; omega)]; exact p3_wo1
        have q3_wo2 : wo2.cell? ⟨w.heap.size + 1, 3, none⟩ = some (.slice B3 m3 d3) := by rw [hb2.cell (by show w.heap.size + 1 < _; have := lx_wo1; omega)]; exact q3_wo1
        have p4_wo2 : wo2.cell? ⟨w.heap.size, 4, none⟩ = some (.slice A4 n4 c4) := by rw [hb2.cell (by show w.heap.size < _; have := lx_wo1; omega)]; exact p4_wo1
        have q4_wo2 : wo2.cell? ⟨w.heap.size + 1, 4, none⟩ = some (.slice B4 n4 d4) := by rw [hb2.cell (by show w.heap.size + 1 < _; have := lx_wo1; omega)]; exact q4_wo1
        have p5_wo2 : wo2.cell? ⟨w.heap.size, 5, none⟩ = some (.slice A5 n5 c5) := by rw [hb2.cell (by show w.heap.size < _; have := lx_wo1; omega)]; exact p5_wo1
        have q5_wo2 : wo2.cell? ⟨w.heap.size + 1, 5, none⟩ = some (.slice B5 m5 d5) := by rw [hb2.cell (by show w.heap.size + 1 < _; have := lx_wo1; omega)]; exact q5_wo1
        have r1_wo2 := tSS.later r1_wo1 hb2
        have s1_wo2 := tSS.later s1_wo1 hb2
        have r2_wo2 := tTS.later r2_wo1 hb2
        have s2_wo2 := tTS.later s2_wo1 hb2
        have r3_wo2 := tS.later r3_wo1 hb2
        have s3_wo2 := tS.later s3_wo1 hb2
        have r4_wo2 := tPS.later r4_wo1 hb2
        have s4_wo2 := tPS.later s4_wo1 hb2
        have r5_wo2 := tM.later r5_wo1 hb2
        have s5_wo2 := tM.later s5_wo1 hb2
        clear p0_wo1 q0_wo1 p1_wo1 q1_wo1 p2_wo1 q2_wo1 p3_wo1 q3_wo1 p4_wo1 q4_wo1 p5_wo1 q5_wo1 r1_wo1 s1_wo1 r2_wo1 s2_wo1 r3_wo1 s3_wo1 r4_wo1 s4_wo1 r5_wo1 s5_wo1
        by_cases hlt : k < n4
        · have hX := Lib.hid (List.getElem?_eq_getElem (l := x4) (i := k) (by rw [X4.out]; exact hlt))
          have hY := Lib.hid (List.getElem?_eq_getElem (l := y4) (i := k) (by rw [Y4.out]; exact hlt))
          obtain ⟨b, o1, cc, cs, hv, hab, -, hE, hcc⟩ := (sl_R.1 r4_wo2).atX hX.out
          obtain ⟨b', o2, cc', cs', hv', hab', -, hE', hdd⟩ := (sl_R.1 s4_wo2).atX hY.out
          simp only [Value.slice.injEq] at hv hv'
          obtain ⟨rfl, -, rfl⟩ := hv
          obtain ⟨rfl, -, rfl⟩ := hv'
          have hU := hP.szL_at hX.out
          have hV := hP.szL_at hY.out
          generalize x4[k]'(by rw [X4.out]; exact hlt) = x at hX hE hU
          generalize y4[k]'(by rw [Y4.out]; exact hlt) = y at hY hE' hV
          have zz : x4.length + hP.szL x4 = hPS.sz x4 := rfl
          have zv : y4.length + hP.szL y4 = hPS.sz y4 := rfl
          have zx : hP.sz x ≤ 100000000 := by omega
          have zy : hP.sz y ≤ 100000000 := by omega
          clear zz zv hU hV
          obtain ⟨ua0, ua1, ua2, ua3⟩ := x
          obtain ⟨ub0, ub1, ub2, ub3⟩ := y
          obtain ⟨Ae1, ne1, ce1, Ae2, ne2, ce2, Ae3, ne3, ce3, rfl, hE1, hE2, hE3⟩ := tP_R.1 hE
          obtain ⟨Be1, me1, de1, Be2, me2, de2, Be3, me3, de3, rfl, hG1, hG2, hG3⟩ := tP_R.1 hE'
          have e0 : wo2.cell? ⟨b, o1 + k * 4, none⟩ = some (.int .i64 ua0) := hcc 0 _ rfl
          have f0 : wo2.cell? ⟨b', o2 + k * 4, none⟩ = some (.int .i64 ub0) := hdd 0 _ rfl
          have e1 : wo2.cell? ⟨b, o1 + k * 4 + 1, none⟩ = some (.slice Ae1 ne1 ce1) := hcc 1 _ rfl
          have f1 : wo2.cell? ⟨b', o2 + k * 4 + 1, none⟩ = some (.slice Be1 me1 de1) := hdd 1 _ rfl
          have e2 : wo2.cell? ⟨b, o1 + k * 4 + 2, none⟩ = some (.slice Ae2 ne2 ce2) := hcc 2 _ rfl
          have f2 : wo2.cell? ⟨b', o2 + k * 4 + 2, none⟩ = some (.slice Be2 me2 de2) := hdd 2 _ rfl
          have e3 : wo2.cell? ⟨b, o1 + k * 4 + 3, none⟩ = some (.slice Ae3 ne3 ce3) := hcc 3 _ rfl
          have f3 : wo2.cell? ⟨b', o2 + k * 4 + 3, none⟩ = some (.slice Be3 me3 de3) := hdd 3 _ rfl
          clear hcc hdd
          have pp := p4_wo2
          have qq := q4_wo2
          have re0 := cell_regrown e0
          have rf0 := cell_regrown f0
          have re1 := cell_regrown e1
          have rf1 := cell_regrown f1
          have re2 := cell_regrown e2
          have rf2 := cell_regrown f2
          have re3 := cell_regrown e3
          have rf3 := cell_regrown f3
          have rpp := cell_regrown pp
          have rqq := cell_regrown qq
          have cP : ∀ d os, Calls Try.prog 17 #[.agg #[.int .i64 ua0, .slice Ae1 ne1 ce1, .slice Ae2 ne2 ce2, .slice Ae3 ne3 ce3], .agg #[.int .i64 ub0, .slice Be1 me1 de1, .slice Be2 me2 de2, .slice Be3 me3 de3]] (grow (redrawn wo2 d) os) fun e w'' => e = .returned (.bool (decide (((ua0, ua1, ua2, ua3) : Patch) = (ub0, ub1, ub2, ub3)))) ∧ ∃ p : Regrown, w'' = grow (redrawn wo2 p.d) p.os := fun d os => Calls.regrown_of (spec_SamePatch _ _ _ _ _ _ _ _ _ _ _ _ _ _ _ _ _ _ _ _ _ _ _ _ _ _ _ (tSS.later hE1 (below_regrown wo2 d os)) (tSS.later hG1 (below_regrown wo2 d os)) (tNS.later hE2 (below_regrown wo2 d os)) (tNS.later hG2 (below_regrown wo2 d os)) (tS.later hE3 (below_regrown wo2 d os)) (tS.later hG3 (below_regrown wo2 d os)) zx zy)
          clear e0 f0 e1 f1 e2 f2 e3 f3 pp qq
          by_cases hp : ((ua0, ua1, ua2, ua3) : Patch) = (ub0, ub1, ub2, ub3)
          · rw [decide_eq_true hp] at cP
            have HP := Lib.hid hp
            clear hp
            go_wp2
            (refine wp_region_quiet_below (by kernel_rfl) (by kernel_rfl) ?_; (repeat (go_big_quiet_step (exact cP _ _))); refine wpQuiet_nil ?_; intro _ hw'; obtain ⟨⟨dq, osq⟩, hw''⟩ := hw'; subst hw'')
            go_wp2
            go_roundw
            case rel => exact ⟨k + 1, by go_num, by omega, Lib.hid (by rw [M.take_at hX.out, M.take_at hY.out, H.out, HP.out]), bel_trans hb2 (below_regrown wo2 dq osq)⟩
            case measure => simp [intOf]; omega
          · rw [decide_eq_false hp] at cP
            have hxy : ¬ x4 = y4 := fun e => by have h1 := hX.out; rw [e, hY.out] at h1; injection h1 with h1; exact hp h1.symm
            have R := Lib.hid (show decide (((a0, x1, x2, x3, x4, x5) : Sess) = (a0, y1, y2, y3, y4, y5)) = false by rw [decide_eq_false_iff_not]; intro e; simp only [Prod.mk.injEq] at e; exact hxy e.2.2.2.2.1)
            clear hp hxy
            go_wp2
            (refine wp_region_quiet_below (by kernel_rfl) (by kernel_rfl) ?_; (repeat (go_big_quiet_step (exact cP _ _))); refine wpQuiet_nil ?_; intro _ hw'; obtain ⟨⟨dq, osq⟩, hw''⟩ := hw'; subst hw'')
            go_wp2
            go_ret
            exact ⟨ret_bool (by rw [R.out]), bel_trans B_wo2 (below_regrown wo2 dq osq)⟩
        have E4 := Lib.hid (show x4 = y4 by have := H.out; rwa [List.take_of_length_le (by rw [X4.out]; omega), List.take_of_length_le (by rw [Y4.out]; omega)] at this)
        clear H
        go_wp2
        clear hlt hk
        go_ret
        exact ⟨ret_bool (by rw [E1.out, E2.out, E3.out, E4.out, E5.out]; simp), B_wo2⟩
end Go.Proofs.Ytacgcagpaecncaa
namespace Go.Proofs.Ytacgcagpaecncaa
open Go.RowKit
set_option maxHeartbeats 4000000
set_option maxRecDepth 100000
theorem nf_sz_Y (p : Int) (A : Option Addr) (n c : Nat) (Ab : Option Addr) (nb cb : Nat) (Ac : Option Addr) (nc cc : Nat) (Ad : Option Addr) (nd cd : Nat) (Ae : Option Addr) (ne ce : Nat) (x : Sess) (l : Int) (w : World) (hx : tZ.R w w.heap.size [.int .i64 p, .slice A n c, .slice Ab nb cb, .slice Ac nc cc, .slice Ad nd cd, .slice Ae ne ce] x) (hl : 0 ≤ l ∧ l ≤ 1000000000) :
    Calls Try.prog 4 #[.agg #[.int .i64 p, .slice A n c, .slice Ab nb cb, .slice Ac nc cc, .slice Ad nd cd, .slice Ae ne ce], .int .i64 l] w fun e w' => e = .returned (.int .i64 (if (hZ.sz x : Int) ≤ l then l - hZ.sz x else -1)) ∧ Below w.heap.size w w' := by
  obtain ⟨a0, x1, x2, x3, x4, x5⟩ := x
  obtain ⟨A1, n1, c1, A2, n2, c2, A3, n3, c3, A4, n4, c4, A5, n5, c5, hcs, h1, h2, h3, h4, h5⟩ := tZ_R.1 hx
  simp only [List.cons.injEq, Value.int.injEq, Value.slice.injEq, true_and, and_true] at hcs
  obtain ⟨rfl, ⟨rfl, rfl, rfl⟩, ⟨rfl, rfl, rfl⟩, ⟨rfl, rfl, rfl⟩, ⟨rfl, rfl, rfl⟩, ⟨rfl, rfl, rfl⟩⟩ := hcs
  exact nf_sz_Z _ _ _ _ _ _ _ _ _ _ _ _ _ _ _ _ _ _ _ _ _ _ _ h1 h2 h3 h4 h5 hl
theorem nf_to_Y (p : Int) (A : Option Addr) (n c : Nat) (Ab : Option Addr) (nb cb : Nat) (Ac : Option Addr) (nc cc : Nat) (Ad : Option Addr) (nd cd : Nat) (Ae : Option Addr) (ne ce : Nat) (x : Sess) (w : World) (hx : tZ.R w w.heap.size [.int .i64 p, .slice A n c, .slice Ab nb cb, .slice Ac nc cc, .slice Ad nd cd, .slice Ae ne ce] x) (hn : hZ.sz x ≤ 100000000) :
    Calls Try.prog 6 #[.agg #[.int .i64 p, .slice A n c, .slice Ab nb cb, .slice Ac nc cc, .slice Ad nd cd, .slice Ae ne ce]] w fun e w' => ∃ p' A' n' c' Ab' nb' cb' Ac' nc' cc' Ad' nd' cd' Ae' ne' ce', e = .returned (.agg #[.int .i64 p', .slice A' n' c', .slice Ab' nb' cb', .slice Ac' nc' cc', .slice Ad' nd' cd', .slice Ae' ne' ce']) ∧ tZ.O w' (Iv w.heap.size w'.heap.size) [.int .i64 p', .slice A' n' c', .slice Ab' nb' cb', .slice Ac' nc' cc', .slice Ad' nd' cd', .slice Ae' ne' ce'] x ∧ Below w.heap.size w w' := by
  obtain ⟨a0, x1, x2, x3, x4, x5⟩ := x
  obtain ⟨A1, n1, c1, A2, n2, c2, A3, n3, c3, A4, n4, c4, A5, n5, c5, hcs, h1, h2, h3, h4, h5⟩ := tZ_R.1 hx
  simp only [List.cons.injEq, Value.int.injEq, Value.slice.injEq, true_and, and_true] at hcs
  obtain ⟨rfl, ⟨rfl, rfl, rfl⟩, ⟨rfl, rfl, rfl⟩, ⟨rfl, rfl, rfl⟩, ⟨rfl, rfl, rfl⟩, ⟨rfl, rfl, rfl⟩⟩ := hcs
  refine (nf_to_Z _ _ _ _ _ _ _ _ _ _ _ _ _ _ _ _ _ _ _ _ _ _ h1 h2 h3 h4 h5 hn).mono ?_
  rintro e w' ⟨B1, m1, d1, B2, m2, d2, B3, m3, d3, B4, m4, d4, B5, m5, d5, rfl, o, bel⟩
  exact ⟨_, _, _, _, _, _, _, _, _, _, _, _, _, _, _, _, rfl, o, bel⟩
theorem nf_eq_Y (p : Int) (A : Option Addr) (n c : Nat) (Ab : Option Addr) (nb cb : Nat) (Ac : Option Addr) (nc cc : Nat) (Ad : Option Addr) (nd cd : Nat) (Ae : Option Addr) (ne ce : Nat) (p' : Int) (A' : Option Addr) (n' c' : Nat) (Ab' : Option Addr) (nb' cb' : Nat) (Ac' : Option Addr) (nc' cc' : Nat) (Ad' : Option Addr) (nd' cd' : Nat) (Ae' : Option Addr) (ne' ce' : Nat) (x : Sess) (w : World) (hx : tZ.R w w.heap.size [.int .i64 p, .slice A n c, .slice Ab nb cb, .slice Ac nc cc, .slice Ad nd cd, .slice Ae ne ce] x) (hy : tZ.R w w.heap.size [.int .i64 p', .slice A' n' c', .slice Ab' nb' cb', .slice Ac' nc' cc', .slice Ad' nd' cd', .slice Ae' ne' ce'] x) (hn : hZ.sz x ≤ 100000000) :
    Calls Try.prog 8 #[.agg #[.int .i64 p, .slice A n c, .slice Ab nb cb, .slice Ac nc cc, .slice Ad nd cd, .slice Ae ne ce], .agg #[.int .i64 p', .slice A' n' c', .slice Ab' nb' cb', .slice Ac' nc' cc', .slice Ad' nd' cd', .slice Ae' ne' ce']] w fun e w' => e = .returned (.bool true) ∧ Below w.heap.size w w' := by
  obtain ⟨a0, x1, x2, x3, x4, x5⟩ := x
  obtain ⟨A1, n1, c1, A2, n2, c2, A3, n3, c3, A4, n4, c4, A5, n5, c5, hcs, h1, h2, h3, h4, h5⟩ := tZ_R.1 hx
  simp only [List.cons.injEq, Value.int.injEq, Value.slice.injEq, true_and, and_true] at hcs
  obtain ⟨rfl, ⟨rfl, rfl, rfl⟩, ⟨rfl, rfl, rfl⟩, ⟨rfl, rfl, rfl⟩, ⟨rfl, rfl, rfl⟩, ⟨rfl, rfl, rfl⟩⟩ := hcs
  obtain ⟨A1', n1', c1', A2', n2', c2', A3', n3', c3', A4', n4', c4', A5', n5', c5', hcs', k1, k2, k3, k4, k5⟩ := tZ_R.1 hy
  simp only [List.cons.injEq, Value.int.injEq, Value.slice.injEq, true_and, and_true] at hcs'
  obtain ⟨rfl, ⟨rfl, rfl, rfl⟩, ⟨rfl, rfl, rfl⟩, ⟨rfl, rfl, rfl⟩, ⟨rfl, rfl, rfl⟩, ⟨rfl, rfl, rfl⟩⟩ := hcs'
  exact nf_eq_Z _ _ _ _ _ _ _ _ _ _ _ _ _ _ _ _ _ _ _ _ _ _ _ _ _ _ _ _ _ _ _ _ _ _ _ _ _  h1 h2 h3 h4 h5 k1 k2 k3 k4 k5 hn
theorem impl_SameSession_Y (p : Int) (A : Option Addr) (n c : Nat) (Ab : Option Addr) (nb cb : Nat) (Ac : Option Addr) (nc cc : Nat) (Ad : Option Addr) (nd cd : Nat) (Ae : Option Addr) (ne ce : Nat) (p' : Int) (A' : Option Addr) (n' c' : Nat) (Ab' : Option Addr) (nb' cb' : Nat) (Ac' : Option Addr) (nc' cc' : Nat) (Ad' : Option Addr) (nd' cd' : Nat) (Ae' : Option Addr) (ne' ce' : Nat) (x y : Sess) (w : World) (hx : tZ.R w w.heap.size [.int .i64 p, .slice A n c, .slice Ab nb cb, .slice Ac nc cc, .slice Ad nd cd, .slice Ae ne ce] x) (hy : tZ.R w w.heap.size [.int .i64 p', .slice A' n' c', .slice Ab' nb' cb', .slice Ac' nc' cc', .slice Ad' nd' cd', .slice Ae' ne' ce'] y) (hn : hZ.sz x ≤ 100000000) (hn2 : hZ.sz y ≤ 100000000) :
    Calls Try.prog 7 #[.agg #[.int .i64 p, .slice A n c, .slice Ab nb cb, .slice Ac nc cc, .slice Ad nd cd, .slice Ae ne ce], .agg #[.int .i64 p', .slice A' n' c', .slice Ab' nb' cb', .slice Ac' nc' cc', .slice Ad' nd' cd', .slice Ae' ne' ce']] w fun e w' => e = .returned (.bool (decide (x = y))) ∧ Below w.heap.size w w' := by
  obtain ⟨a0, x1, x2, x3, x4, x5⟩ := x
  obtain ⟨b0, y1, y2, y3, y4, y5⟩ := y
  obtain ⟨A1, n1, c1, A2, n2, c2, A3, n3, c3, A4, n4, c4, A5, n5, c5, hcs, h1, h2, h3, h4, h5⟩ := tZ_R.1 hx
  simp only [List.cons.injEq, Value.int.injEq, Value.slice.injEq, true_and, and_true] at hcs
  obtain ⟨rfl, ⟨rfl, rfl, rfl⟩, ⟨rfl, rfl, rfl⟩, ⟨rfl, rfl, rfl⟩, ⟨rfl, rfl, rfl⟩, ⟨rfl, rfl, rfl⟩⟩ := hcs
  obtain ⟨A1', n1', c1', A2', n2', c2', A3', n3', c3', A4', n4', c4', A5', n5', c5', hcs', k1, k2, k3, k4, k5⟩ := tZ_R.1 hy
  simp only [List.cons.injEq, Value.int.injEq, Value.slice.injEq, true_and, and_true] at hcs'
  obtain ⟨rfl, ⟨rfl, rfl, rfl⟩, ⟨rfl, rfl, rfl⟩, ⟨rfl, rfl, rfl⟩, ⟨rfl, rfl, rfl⟩, ⟨rfl, rfl, rfl⟩⟩ := hcs'
  exact impl_SameSession _ _ _ _ _ _ _ _ _ _ _ _ _ _ _ _ _ _ _ _ _ _ _ _ _ _ _ _ _ _ _ _ _ _ _ _ _ _ _ _ _ _ _ h1 k1 h2 k2 h3 k3 h4 k4 h5 k5 hn hn2
theorem spec_SameSession_Y (p : Int) (A : Option Addr) (n c : Nat) (Ab : Option Addr) (nb cb : Nat) (Ac : Option Addr) (nc cc : Nat) (Ad : Option Addr) (nd cd : Nat) (Ae : Option Addr) (ne ce : Nat) (p' : Int) (A' : Option Addr) (n' c' : Nat) (Ab' : Option Addr) (nb' cb' : Nat) (Ac' : Option Addr) (nc' cc' : Nat) (Ad' : Option Addr) (nd' cd' : Nat) (Ae' : Option Addr) (ne' ce' : Nat) (x y : Sess) (w : World) (hx : tZ.R w w.heap.size [.int .i64 p, .slice A n c, .slice Ab nb cb, .slice Ac nc cc, .slice Ad nd cd, .slice Ae ne ce] x) (hy : tZ.R w w.heap.size [.int .i64 p', .slice A' n' c', .slice Ab' nb' cb', .slice Ac' nc' cc', .slice Ad' nd' cd', .slice Ae' ne' ce'] y) (hn : hZ.sz x ≤ 100000000) (hn2 : hZ.sz y ≤ 100000000) :
    Calls Try.prog 5 #[.agg #[.int .i64 p, .slice A n c, .slice Ab nb cb, .slice Ac nc cc, .slice Ad nd cd, .slice Ae ne ce], .agg #[.int .i64 p', .slice A' n' c', .slice Ab' nb' cb', .slice Ac' nc' cc', .slice Ad' nd' cd', .slice Ae' ne' ce']] w fun e w' => e = .returned (.bool (decide (x = y))) ∧ Below w.heap.size w w' := by
  obtain ⟨a0, x1, x2, x3, x4, x5⟩ := x
  obtain ⟨b0, y1, y2, y3, y4, y5⟩ := y
  obtain ⟨A1, n1, c1, A2, n2, c2, A3, n3, c3, A4, n4, c4, A5, n5, c5, hcs, h1, h2, h3, h4, h5⟩ := tZ_R.1 hx
  simp only [List.cons.injEq, Value.int.injEq, Value.slice.injEq, true_and, and_true] at hcs
  obtain ⟨rfl, ⟨rfl, rfl, rfl⟩, ⟨rfl, rfl, rfl⟩, ⟨rfl, rfl, rfl⟩, ⟨rfl, rfl, rfl⟩, ⟨rfl, rfl, rfl⟩⟩ := hcs
  obtain ⟨A1', n1', c1', A2', n2', c2', A3', n3', c3', A4', n4', c4', A5', n5', c5', hcs', k1, k2, k3, k4, k5⟩ := tZ_R.1 hy
  simp only [List.cons.injEq, Value.int.injEq, Value.slice.injEq, true_and, and_true] at hcs'
  obtain ⟨rfl, ⟨rfl, rfl, rfl⟩, ⟨rfl, rfl, rfl⟩, ⟨rfl, rfl, rfl⟩, ⟨rfl, rfl, rfl⟩, ⟨rfl, rfl, rfl⟩⟩ := hcs'
  exact spec_SameSession _ _ _ _ _ _ _ _ _ _ _ _ _ _ _ _ _ _ _ _ _ _ _ _ _ _ _ _ _ _ _ _ _ _ _ _ _ _ _ _ _ _ _ h1 k1 h2 k2 h3 k3 h4 k4 h5 k5 hn hn2
end Go.Proofs.Ytacgcagpaecncaa
