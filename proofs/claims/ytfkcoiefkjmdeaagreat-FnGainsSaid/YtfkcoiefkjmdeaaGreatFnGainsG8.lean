import Derived.Test.YtfkcoiefkjmdeaaGreatFnGainsG7
import Derived.Lib.QuietBelow
import Derived.Test.YtfkcoiefkjmdeaaGreatFnGainsG2
import Derived.Test.YtfkcoiefkjmdeaaGreatFnGainsG4
import Derived.Deep.DeepCutAuto
import Derived.Test.YtfkcoiefkjmdeaaGreatFnGainsG5
set_option linter.unusedVariables false
set_option linter.unusedSimpArgs false
namespace Go.Proofs.YtfkcoiefkjmdeaaGreat
open Go.RowKit Go.Sort
set_option maxHeartbeats 4000000
set_option maxRecDepth 100000
set_option synthInstance.maxSize 2000
set_option synthInstance.maxHeartbeats 400000
theorem impl_SamePatch (a0 b0 : Int) (A1 : Option Addr) (n1 c1 : Nat) (B1 : Option Addr) (m1 d1 : Nat) (A2 : Option Addr) (n2 c2 : Nat) (B2 : Option Addr) (m2 d2 : Nat) (A3 : Option Addr) (n3 c3 : Nat) (B3 : Option Addr) (m3 d3 : Nat) (x1 y1 : List (List Int)) (x2 y2 : List Node) (x3 y3 : List Int) (w : World) (h1 : tSS.R w w.heap.size [.slice A1 n1 c1] x1) (k1 : tSS.R w w.heap.size [.slice B1 m1 d1] y1) (h2 : tNS.R w w.heap.size [.slice A2 n2 c2] x2) (k2 : tNS.R w w.heap.size [.slice B2 m2 d2] y2) (h3 : tS.R w w.heap.size [.slice A3 n3 c3] x3) (k3 : tS.R w w.heap.size [.slice B3 m3 d3] y3) (hn : hP.sz ((a0, x1, x2, x3) : Patch) ≤ 100000000) (hn2 : hP.sz ((b0, y1, y2, y3) : Patch) ≤ 100000000) :
    Calls Tryz.prog 113 #[.agg #[.int .i64 a0, .slice A1 n1 c1, .slice A2 n2 c2, .slice A3 n3 c3], .agg #[.int .i64 b0, .slice B1 m1 d1, .slice B2 m2 d2, .slice B3 m3 d3]] w fun e w' => e = .returned (.bool (decide (((a0, x1, x2, x3) : Patch) = (b0, y1, y2, y3)))) ∧ Below w.heap.size w w' := by
  obtain ⟨W, hW⟩ : ∃ W, W = (w.alloc (.cells #[.int .i64 a0, .slice A1 n1 c1, .slice A2 n2 c2, .slice A3 n3 c3] 36)).alloc (.cells #[.int .i64 b0, .slice B1 m1 d1, .slice B2 m2 d2, .slice B3 m3 d3] 36) := ⟨_, rfl⟩
  have B0 : Below w.heap.size w W := by rw [hW]; exact ((Below.refl _ _).alloc (Nat.le_refl _) _).alloc (by simp) _
  have p0 : W.cell? ⟨w.heap.size, 0, none⟩ = some (.int .i64 a0) := by rw [hW]; simp [go_sem]
  have q0 : W.cell? ⟨w.heap.size + 1, 0, none⟩ = some (.int .i64 b0) := by rw [hW]; simp [go_sem]
  have p1 : W.cell? ⟨w.heap.size, 1, none⟩ = some (.slice A1 n1 c1) := by rw [hW]; simp [go_sem]
  have q1 : W.cell? ⟨w.heap.size + 1, 1, none⟩ = some (.slice B1 m1 d1) := by rw [hW]; simp [go_sem]
  have p2 : W.cell? ⟨w.heap.size, 2, none⟩ = some (.slice A2 n2 c2) := by rw [hW]; simp [go_sem]
  have q2 : W.cell? ⟨w.heap.size + 1, 2, none⟩ = some (.slice B2 m2 d2) := by rw [hW]; simp [go_sem]
  have p3 : W.cell? ⟨w.heap.size, 3, none⟩ = some (.slice A3 n3 c3) := by rw [hW]; simp [go_sem]
  have q3 : W.cell? ⟨w.heap.size + 1, 3, none⟩ = some (.slice B3 m3 d3) := by rw [hW]; simp [go_sem]
  have lx : w.heap.size + 1 < W.heap.size := by rw [hW]; simp
  have HW := Lib.hid hW
  have r1 := tSS.later h1 B0
  have s1 := tSS.later k1 B0
  have X1 := Lib.hid (sl_R.1 h1).cap.1
  have Y1 := Lib.hid (sl_R.1 k1).cap.1
  have r2 := tNS.later h2 B0
  have s2 := tNS.later k2 B0
  have X2 := Lib.hid (sl_R.1 h2).cap.1
  have Y2 := Lib.hid (sl_R.1 k2).cap.1
  have r3 := tS.later h3 B0
  have s3 := tS.later k3 B0
  have X3 := Lib.hid (sl_R.1 h3).cap.1
  have Y3 := Lib.hid (sl_R.1 k3).cap.1
  rw [hP_sz] at hn hn2
  have z1 : hSS.sz x1 ≤ 100000000 := by omega
  have v1 : hSS.sz y1 ≤ 100000000 := by omega
  have bn1 : n1 ≤ 100000000 := by have e : x1.length + hS.szL x1 = hSS.sz x1 := rfl; have := X1.out; omega
  have z2 : hNS.sz x2 ≤ 100000000 := by omega
  have v2 : hNS.sz y2 ≤ 100000000 := by omega
  have bn2 : n2 ≤ 100000000 := by have e : x2.length + hN.szL x2 = hNS.sz x2 := rfl; have := X2.out; omega
  have z3 : hS.sz x3 ≤ 100000000 := by omega
  have v3 : hS.sz y3 ≤ 100000000 := by omega
  have bn3 : n3 ≤ 100000000 := by have e : x3.length + hI.szL x3 = hS.sz x3 := rfl; have := X3.out; omega
  clear hW hn hn2 h1 k1 h2 k2 h3 k3
  by_cases e0 : ¬ a0 = b0
  · have g0 : (a0 != b0) = true := by simpa using e0
    have R := Lib.hid (show decide (((a0, x1, x2, x3) : Patch) = (b0, y1, y2, y3)) = false by rw [decide_eq_false_iff_not]; intro e; simp only [Prod.mk.injEq] at e; exact e0 e.1)
    go_enter Tryz.func113, Tryz.ntmps113
    go_wp2_with fail
    try rw [← HW.out]
    go_ret
    exact ⟨ret_bool (by rw [R.out]), B0⟩
  replace e0 : a0 = b0 := Decidable.not_not.1 e0
  subst e0
  go_enter Tryz.func113, Tryz.ntmps113
  go_wp2_with fail
  rw [← HW.out]
  by_cases e1 : ¬ x1 = y1
  · have HD := Lib.hid (decide_eq_false e1)
    have R := Lib.hid (show decide (((a0, x1, x2, x3) : Patch) = (a0, y1, y2, y3)) = false by rw [decide_eq_false_iff_not]; intro e; simp only [Prod.mk.injEq] at e; exact e1 e.2.1)
    refine (impl_sameAll _ _ _ _ _ _ _ _ _ r1 s1 z1).mono ?_
    rw [HD.out]
    rintro e u1 ⟨rfl, bel1⟩
    go_wp2
    go_ret
    exact ⟨ret_bool (by rw [R.out]), bel_trans B0 bel1⟩
  replace e1 : x1 = y1 := Decidable.not_not.1 e1
  have E1 := Lib.hid e1
  have HD1 := Lib.hid (decide_eq_true e1)
  clear e1
  refine (impl_sameAll _ _ _ _ _ _ _ _ _ r1 s1 z1).mono ?_
  rw [HD1.out]
  rintro e w1 ⟨rfl, bel1⟩
  have lx_w1 := Nat.lt_of_lt_of_le lx bel1.size
  have B_w1 := bel_trans B0 bel1
  have p0_w1 : w1.cell? ⟨w.heap.size, 0, none⟩ = some (.int .i64 a0) := by rw [bel1.cell (by show w.heap.size < _; have := lx; omega)]; exact p0
  have q0_w1 : w1.cell? ⟨w.heap.size + 1, 0, none⟩ = some (.int .i64 a0) := by rw [bel1.cell (by show w.heap.size + 1 < _; have := lx; omega)]; exact q0
  have p1_w1 : w1.cell? ⟨w.heap.size, 1, none⟩ = some (.slice A1 n1 c1) := by rw [bel1.cell (by show w.heap.size < _; have := lx; omega)]; exact p1
  have q1_w1 : w1.cell? ⟨w.heap.size + 1, 1, none⟩ = some (.slice B1 m1 d1) := by rw [bel1.cell (by show w.heap.size + 1 < _; have := lx; omega)]; exact q1
  have p2_w1 : w1.cell? ⟨w.heap.size, 2, none⟩ = some (.slice A2 n2 c2) := by rw [bel1.cell (by show w.heap.size < _; have := lx; omega)]; exact p2
  have q2_w1 : w1.cell? ⟨w.heap.size + 1, 2, none⟩ = some (.slice B2 m2 d2) := by rw [bel1.cell (by show w.heap.size + 1 < _; have := lx; omega)]; exact q2
  have p3_w1 : w1.cell? ⟨w.heap.size, 3, none⟩ = some (.slice A3 n3 c3) := by rw [bel1.cell (by show w.heap.size < _; have := lx; omega)]; exact p3
  have q3_w1 : w1.cell? ⟨w.heap.size + 1, 3, none⟩ = some (.slice B3 m3 d3) := by rw [bel1.cell (by show w.heap.size + 1 < _; have := lx; omega)]; exact q3
  have r1_w1 := tSS.later r1 bel1
  have s1_w1 := tSS.later s1 bel1
  have r2_w1 := tNS.later r2 bel1
  have s2_w1 := tNS.later s2 bel1
  have r3_w1 := tS.later r3 bel1
  have s3_w1 := tS.later s3 bel1
  clear p0 q0 p1 q1 p2 q2 p3 q3 r1 s1 r2 s2 r3 s3
  go_wp2_with fail
  by_cases e3 : ¬ x3 = y3
  · have HD := Lib.hid (decide_eq_false e3)
    have R := Lib.hid (show decide (((a0, x1, x2, x3) : Patch) = (a0, y1, y2, y3)) = false by rw [decide_eq_false_iff_not]; intro e; simp only [Prod.mk.injEq] at e; exact e3 e.2.2.2)
    refine (impl_same _ _ _ _ _ _ _ _ _ (tS_R.1 r3_w1).ri (tS_R.1 s3_w1).ri (by omega)).mono ?_
    rw [HD.out]
    rintro e u1 ⟨rfl, bel1⟩
    go_wp2
    go_ret
    exact ⟨ret_bool (by rw [R.out]), bel_trans B_w1 bel1⟩
  replace e3 : x3 = y3 := Decidable.not_not.1 e3
  have E3 := Lib.hid e3
  have HD2 := Lib.hid (decide_eq_true e3)
  clear e3
  refine (impl_same _ _ _ _ _ _ _ _ _ (tS_R.1 r3_w1).ri (tS_R.1 s3_w1).ri (by omega)).mono ?_
  rw [HD2.out]
  rintro e w2 ⟨rfl, bel2⟩
  have lx_w2 := Nat.lt_of_lt_of_le lx_w1 bel2.size
  have B_w2 := bel_trans B_w1 bel2
  have p0_w2 : w2.cell? ⟨w.heap.size, 0, none⟩ = some (.int .i64 a0) := by rw [bel2.cell (by show w.heap.size < _; have := lx_w1; omega)]; exact p0_w1
  have q0_w2 : w2.cell? ⟨w.heap.size + 1, 0, none⟩ = some (.int .i64 a0) := by rw [bel2.cell (by show w.heap.size + 1 < _; have := lx_w1; omega)]; exact q0_w1
  have p1_w2 : w2.cell? ⟨w.heap.size, 1, none⟩ = some (.slice A1 n1 c1) := by rw [bel2.cell (by show w.heap.size < _; have := lx_w1; omega)]; exact p1_w1
  have q1_w2 : w2.cell? ⟨w.heap.size + 1, 1, none⟩ = some (.slice B1 m1 d1) := by rw [bel2.cell (by show w.heap.size + 1 < _; have := lx_w1; omega)]; exact q1_w1
  have p2_w2 : w2.cell? ⟨w.heap.size, 2, none⟩ = some (.slice A2 n2 c2) := by rw [bel2.cell (by show w.heap.size < _; have := lx_w1; omega)]; exact p2_w1
  have q2_w2 : w2.cell? ⟨w.heap.size + 1, 2, none⟩ = some (.slice B2 m2 d2) := by rw [bel2.cell (by show w.heap.size + 1 < _; have := lx_w1; omega)]; exact q2_w1
  have p3_w2 : w2.cell? ⟨w.heap.size, 3, none⟩ = some (.slice A3 n3 c3) := by rw [bel2.cell (by show w.heap.size < _; have := lx_w1; omega)]; exact p3_w1
  have q3_w2 : w2.cell? ⟨w.heap.size + 1, 3, none⟩ = some (.slice B3 m3 d3) := by rw [bel2.cell (by show w.heap.size + 1 < _; have := lx_w1; omega)]; exact q3_w1
  have r1_w2 := tSS.later r1_w1 bel2
  have s1_w2 := tSS.later s1_w1 bel2
  have r2_w2 := tNS.later r2_w1 bel2
  have s2_w2 := tNS.later s2_w1 bel2
  have r3_w2 := tS.later r3_w1 bel2
  have s3_w2 := tS.later s3_w1 bel2
  clear p0_w1 q0_w1 p1_w1 q1_w1 p2_w1 q2_w1 p3_w1 q3_w1 r1_w1 s1_w1 r2_w1 s2_w1 r3_w1 s3_w1
  by_cases e2 : ¬ n2 = m2
  · have g2 : ((n2 : Int) != (m2 : Int)) = true := by simp; omega
    have R := Lib.hid (show decide (((a0, x1, x2, x3) : Patch) = (a0, y1, y2, y3)) = false by rw [decide_eq_false_iff_not]; intro e; simp only [Prod.mk.injEq] at e; exact e2 (by rw [← X2.out, ← Y2.out, e.2.2.1]))
    go_wp2_with fail
    go_ret
    exact ⟨ret_bool (by rw [R.out]), B_w2⟩
  replace e2 : n2 = m2 := Decidable.not_not.1 e2
  subst e2
  go_wp2
  go_loopw [5, 6, 40] (fun _ _ i wr => ∃ k : Nat, i = .int .i64 k ∧ k ≤ n2 ∧ Hid (x2.take k = y2.take k) ∧ Below w2.heap.size w2 wr) (fun _ _ i _ => n2 - (intOf i).toNat)
  case atStart => exact ⟨0, rfl, by omega, Lib.hid (by simp), Below.refl _ _⟩
  case round =>
    obtain ⟨k, rfl, hk, H, hb0⟩ := hrel
    obtain ⟨wo0, rfl⟩ : ∃ wo : World, wo = wr := ⟨_, rfl⟩
    have lx_wo0 := Nat.lt_of_lt_of_le lx_w2 hb0.size
    have B_wo0 := bel_trans B_w2 hb0
    have p0_wo0 : wo0.cell? ⟨w.heap.size, 0, none⟩ = some (.int .i64 a0) := by rw [hb0.cell (by show w.heap.size < _; have := lx_w2; omega)]; exact p0_w2
    have q0_wo0 : wo0.cell? ⟨w.heap.size + 1, 0, none⟩ = some (.int .i64 a0) := by rw [hb0.cell (by show w.heap.size + 1 < _; have := lx_w2; omega)]; exact q0_w2
    have p1_wo0 : wo0.cell? ⟨w.heap.size, 1, none⟩ = some (.slice A1 n1 c1) := by rw [hb0.cell (by show w.heap.size < _; have := lx_w2; omega)]; exact p1_w2
    have q1_wo0 : wo0.cell? ⟨w.heap.size + 1, 1, none⟩ = some (.slice B1 m1 d1) := by rw [hb0.cell (by show w.heap.size + 1 < _; have := lx_w2; omega)]; exact q1_w2
    have p2_wo0 : wo0.cell? ⟨w.heap.size, 2, none⟩ = some (.slice A2 n2 c2) := by rw [hb0.cell (by show w.heap.size < _; have := lx_w2; omega)]; exact p2_w2
    have q2_wo0 : wo0.cell? ⟨w.heap.size + 1, 2, none⟩ = some (.slice B2 n2 d2) := by rw [hb0.cell (by show w.heap.size + 1 < _; have := lx_w2; omega)]; exact q2_w2
    have p3_wo0 : wo0.cell? ⟨w.heap.size, 3, none⟩ = some (.slice A3 n3 c3) := by rw [hb0.cell (by show w.heap.size < _; have := lx_w2; omega)]; exact p3_w2
    have q3_wo0 : wo0.cell? ⟨w.heap.size + 1, 3, none⟩ = some (.slice B3 m3 d3) := by rw [hb0.cell (by show w.heap.size + 1 < _; have := lx_w2; omega)]; exact q3_w2
    have r1_wo0 := tSS.later r1_w2 hb0
    have s1_wo0 := tSS.later s1_w2 hb0
    have r2_wo0 := tNS.later r2_w2 hb0
    have s2_wo0 := tNS.later s2_w2 hb0
    have r3_wo0 := tS.later r3_w2 hb0
    have s3_wo0 := tS.later s3_w2 hb0
    clear p0_w2 q0_w2 p1_w2 q1_w2 p2_w2 q2_w2 p3_w2 q3_w2 r1_w2 s1_w2 r2_w2 s2_w2 r3_w2 s3_w2
    by_cases hlt : k < n2
    · have hX := Lib.hid (List.getElem?_eq_getElem (l := x2) (i := k) (by rw [X2.out]; exact hlt))
      have hY := Lib.hid (List.getElem?_eq_getElem (l := y2) (i := k) (by rw [Y2.out]; exact hlt))
      obtain ⟨b, o1, cc, cs, hv, hab, -, hE, hcc⟩ := (sl_R.1 r2_wo0).atX hX.out
      obtain ⟨b', o2, cc', cs', hv', hab', -, hE', hdd⟩ := (sl_R.1 s2_wo0).atX hY.out
      simp only [Value.slice.injEq] at hv hv'
      obtain ⟨rfl, -, rfl⟩ := hv
      obtain ⟨rfl, -, rfl⟩ := hv'
      have hU := hN.szL_at hX.out
      have hV := hN.szL_at hY.out
      generalize x2[k]'(by rw [X2.out]; exact hlt) = x at hX hE hU
      generalize y2[k]'(by rw [Y2.out]; exact hlt) = y at hY hE' hV
      have zz : x2.length + hN.szL x2 = hNS.sz x2 := rfl
      have zv : y2.length + hN.szL y2 = hNS.sz y2 := rfl
      have zx : hN.sz x ≤ 100000000 := by omega
      have zy : hN.sz y ≤ 100000000 := by omega
      clear zz zv hU hV
      obtain ⟨ua0, ua1, ua2, ua3⟩ := x
      obtain ⟨ub0, ub1, ub2, ub3⟩ := y
      obtain ⟨Ae3, ne3, ce3, rfl, hE3⟩ := tN_R.1 hE
      obtain ⟨Be3, me3, de3, rfl, hG3⟩ := tN_R.1 hE'
      have e0 : wo0.cell? ⟨b, o1 + k * 4, none⟩ = some (.int .i64 ua0) := hcc 0 _ rfl
      have f0 : wo0.cell? ⟨b', o2 + k * 4, none⟩ = some (.int .i64 ub0) := hdd 0 _ rfl
      have e1 : wo0.cell? ⟨b, o1 + k * 4 + 1, none⟩ = some (.int .i64 ua1) := hcc 1 _ rfl
      have f1 : wo0.cell? ⟨b', o2 + k * 4 + 1, none⟩ = some (.int .i64 ub1) := hdd 1 _ rfl
      have e2 : wo0.cell? ⟨b, o1 + k * 4 + 2, none⟩ = some (.int .i64 ua2) := hcc 2 _ rfl
      have f2 : wo0.cell? ⟨b', o2 + k * 4 + 2, none⟩ = some (.int .i64 ub2) := hdd 2 _ rfl
      have e3 : wo0.cell? ⟨b, o1 + k * 4 + 3, none⟩ = some (.slice Ae3 ne3 ce3) := hcc 3 _ rfl
      have f3 : wo0.cell? ⟨b', o2 + k * 4 + 3, none⟩ = some (.slice Be3 me3 de3) := hdd 3 _ rfl
      clear hcc hdd
      obtain ⟨U, hU⟩ : ∃ U, U = wo0.alloc (.cells #[.int .i64 ua0, .int .i64 ua1, .int .i64 ua2, .slice Ae3 ne3 ce3] 122) := ⟨_, rfl⟩
      have G0 : Below wo0.heap.size wo0 U := by rw [hU]; exact (Below.refl _ _).alloc (Nat.le_refl _) _
      have sU : wo0.heap.size < U.heap.size := by rw [hU]; simp
      have g0 : U.cell? ⟨wo0.heap.size, 0, none⟩ = some (.int .i64 ua0) := by rw [hU, cell_of_row _ wo0.heap.size 0 _ 122 (0, 0) (heap_alloc_new wo0 _)]; rfl
      have l0 : U.cell? ⟨b', o2 + k * 4, none⟩ = some (.int .i64 ub0) := by rw [G0.cell hab']; exact f0
      have g1 : U.cell? ⟨wo0.heap.size, 1, none⟩ = some (.int .i64 ua1) := by rw [hU, cell_of_row _ wo0.heap.size 1 _ 122 (0, 0) (heap_alloc_new wo0 _)]; rfl
      have l1 : U.cell? ⟨b', o2 + k * 4 + 1, none⟩ = some (.int .i64 ub1) := by rw [G0.cell hab']; exact f1
      have g2 : U.cell? ⟨wo0.heap.size, 2, none⟩ = some (.int .i64 ua2) := by rw [hU, cell_of_row _ wo0.heap.size 2 _ 122 (0, 0) (heap_alloc_new wo0 _)]; rfl
      have l2 : U.cell? ⟨b', o2 + k * 4 + 2, none⟩ = some (.int .i64 ub2) := by rw [G0.cell hab']; exact f2
      have g3 : U.cell? ⟨wo0.heap.size, 3, none⟩ = some (.slice Ae3 ne3 ce3) := by rw [hU, cell_of_row _ wo0.heap.size 3 _ 122 (0, 0) (heap_alloc_new wo0 _)]; rfl
      have l3 : U.cell? ⟨b', o2 + k * 4 + 3, none⟩ = some (.slice Be3 me3 de3) := by rw [G0.cell hab']; exact f3
      have qq : U.cell? ⟨w.heap.size + 1, 2, none⟩ = some (.slice (some ⟨b', o2, none⟩) n2 d2) := by rw [G0.cell lx_wo0]; exact q2_wo0
      have HU := Lib.hid hU
      clear hU
      replace hE3 := tS.later hE3 G0
      replace hG3 := tS.later hG3 G0
      rw [hN_sz, hS_sz] at zx zy
      have nb : ne3 ≤ 1000000000 := by have := tS_len hE3; omega
      have rg0 := cell_regrown g0
      have rl0 := cell_regrown l0
      have rg1 := cell_regrown g1
      have rl1 := cell_regrown l1
      have rg2 := cell_regrown g2
      have rl2 := cell_regrown l2
      have rg3 := cell_regrown g3
      have rl3 := cell_regrown l3
      have rqq := cell_regrown qq
      have cP : ∀ d os, Calls Tryz.prog 130 #[.agg #[.int .i64 ua0, .int .i64 ua1, .int .i64 ua2, .slice Ae3 ne3 ce3], .agg #[.int .i64 ub0, .int .i64 ub1, .int .i64 ub2, .slice Be3 me3 de3]] (grow (redrawn U d) os) fun e w'' => e = .returned (.bool (decide (((ua0, ua1, ua2, ua3) : Node) = (ub0, ub1, ub2, ub3)))) ∧ ∃ p : Regrown, w'' = grow (redrawn U p.d) p.os := fun d os => Calls.regrown_of (impl_sameNode _ _ _ _ _ _ _ _ _ _ _ _ _ _ _ (tS_R.1 (tS.later hE3 (below_regrown U d os))).ri (tS_R.1 (tS.later hG3 (below_regrown U d os))).ri nb)
      clear g0 l0 g1 l1 g2 l2 g3 l3 qq
      by_cases hp : ((ua0, ua1, ua2, ua3) : Node) = (ub0, ub1, ub2, ub3)
      · rw [decide_eq_true hp] at cP
        have HP := Lib.hid hp
        clear hp
        go_wp2
        rw [← HU.out]
        clear e0 f0 e1 f1 e2 f2 e3 f3
        (refine wp_region_quiet_below (by kernel_rfl) (by kernel_rfl) ?_; (repeat (go_big_quiet_step (exact cP _ _))); refine wpQuiet_nil ?_; intro _ hw'; obtain ⟨⟨dq, osq⟩, hw''⟩ := hw'; subst hw'')
        go_wp2
        go_roundw
        case rel => exact ⟨k + 1, by go_num, by omega, Lib.hid (by rw [M.take_at hX.out, M.take_at hY.out, H.out, HP.out]), bel_trans hb0 (bel_trans G0 (below_regrown U dq osq))⟩
        case measure => simp [intOf]; omega
      · rw [decide_eq_false hp] at cP
        have hxy : ¬ x2 = y2 := fun e => by have h1 := hX.out; rw [e, hY.out] at h1; injection h1 with h1; exact hp h1.symm
        have R := Lib.hid (show decide (((a0, x1, x2, x3) : Patch) = (a0, y1, y2, y3)) = false by rw [decide_eq_false_iff_not]; intro e; simp only [Prod.mk.injEq] at e; exact hxy e.2.2.1)
        clear hp hxy
        go_wp2
        rw [← HU.out]
        clear e0 f0 e1 f1 e2 f2 e3 f3
        (refine wp_region_quiet_below (by kernel_rfl) (by kernel_rfl) ?_; (repeat (go_big_quiet_step (exact cP _ _))); refine wpQuiet_nil ?_; intro _ hw'; obtain ⟨⟨dq, osq⟩, hw''⟩ := hw'; subst hw'')
        go_wp2
        go_ret
        exact ⟨ret_bool (by rw [R.out]), bel_trans B_wo0 (bel_trans G0 (below_regrown U dq osq))⟩
    have E2 := Lib.hid (show x2 = y2 by have := H.out; rwa [List.take_of_length_le (by rw [X2.out]; omega), List.take_of_length_le (by rw [Y2.out]; omega)] at this)
    clear H
    go_wp2
    clear hlt hk
    go_ret
    exact ⟨ret_bool (by rw [E1.out, E2.out, E3.out]; simp), B_wo0⟩
end Go.Proofs.YtfkcoiefkjmdeaaGreat
namespace Go.Proofs.YtfkcoiefkjmdeaaGreat
open Go.RowKit Go.Sort
set_option maxHeartbeats 4000000
set_option maxRecDepth 100000
set_option linter.unusedVariables false
set_option linter.unusedSimpArgs false
theorem node_cell {w : World} {B : Nat} {A : Option Addr} {n c : Nat} {ns : List Node} (hr : RS tN w B (.slice A n c) ns) (hb : hNS.sz ns ≤ 100000000) {k : Nat} (hk : k < n) :
    ∃ (bb o : Nat) (a0 a1 a2 : Int) (A1 : Option Addr) (c1 : Nat) (x3 : List Int), A = some ⟨bb, o, none⟩ ∧ bb < B ∧ Hid (ns[k]? = some (a0, a1, a2, x3)) ∧ w.cell? ⟨bb, o + k * 4, none⟩ = some (.int .i64 a0) ∧ w.cell? ⟨bb, o + k * 4 + 1, none⟩ = some (.int .i64 a1) ∧ w.cell? ⟨bb, o + k * 4 + 2, none⟩ = some (.int .i64 a2) ∧ w.cell? ⟨bb, o + k * 4 + 3, none⟩ = some (.slice A1 x3.length c1) ∧ RI w B A1 x3.length x3 ∧ x3.length ≤ 100000000 := by
  obtain rfl : ns.length = n := hr.cap.1
  have hX := List.getElem?_eq_getElem hk
  obtain ⟨bb, o, c1, cs, hv, hab, -, hE, hc⟩ := hr.atX hX
  simp only [Value.slice.injEq] at hv
  obtain ⟨rfl, -, rfl⟩ := hv
  have hU := hN.szL_at hX
  have hU2 : ns.length + hN.szL ns ≤ 100000000 := hb
  generalize ns[k] = x at hX hE hU
  obtain ⟨a0, a1, a2, x3⟩ := x
  rw [hN_sz, hS_sz] at hU
  obtain ⟨A1, n1, c1, rfl, hS3⟩ := tN_R.1 hE
  obtain rfl : x3.length = n1 := tS_len hS3
  have e0 : w.cell? ⟨bb, o + k * 4, none⟩ = some (.int .i64 a0) := hc 0 _ rfl
  exact ⟨bb, o, a0, a1, a2, A1, c1, x3, rfl, hab, Lib.hid hX, e0, hc 1 _ rfl, hc 2 _ rfl, hc 3 _ rfl, (tS_R.1 hS3).ri, by omega⟩
end Go.Proofs.YtfkcoiefkjmdeaaGreat
namespace Go.Proofs.YtfkcoiefkjmdeaaGreat
open Go.RowKit Go.Sort
set_option maxHeartbeats 4000000
set_option maxRecDepth 100000
set_option linter.unusedVariables false
set_option linter.unusedSimpArgs false
def slLen : Value → Nat
  | .slice _ n _ => n
  | _ => 0
end Go.Proofs.YtfkcoiefkjmdeaaGreat
namespace Go.Proofs.YtfkcoiefkjmdeaaGreat
open Go.RowKit Go.Sort
set_option maxHeartbeats 4000000
set_option maxRecDepth 100000
set_option linter.unusedVariables false
set_option linter.unusedSimpArgs false
set_option synthInstance.maxSize 2000
set_option synthInstance.maxHeartbeats 400000
end Go.Proofs.YtfkcoiefkjmdeaaGreat
namespace Go.Proofs.YtfkcoiefkjmdeaaGreat
open Go.RowKit Go.Sort
set_option maxHeartbeats 4000000
set_option maxRecDepth 100000
set_option linter.unusedVariables false
set_option linter.unusedSimpArgs false
set_option synthInstance.maxSize 2000
set_option synthInstance.maxHeartbeats 400000
theorem impl_areIndices (A : Option Addr) (n c : Nat) (xs : List Int) (m : Int) (w : World) (hx : RI w w.heap.size A n xs) (hn : n ≤ 1000000000000) (hm : 0 ≤ m ∧ m ≤ 1000000000) :
    Calls Tryz.prog 47 #[.slice A n c, .int .i64 m] w fun e w' => e = .returned (.bool (xs.all (M.idx m))) ∧ w = w' := by
  go_enter Tryz.func47, Tryz.ntmps47
  go_wp2
  go_loop [6, 9] (fun _ i => ∃ k : Nat, i = .int .i64 k ∧ k ≤ n ∧ Hid (xs.all (M.idx m) = (xs.drop k).all (M.idx m))) (fun _ i => n - (intOf i).toNat)
  case atStart => exact ⟨0, rfl, by omega, Lib.hid (by simp)⟩
  case round =>
    obtain ⟨k, rfl, hk, H⟩ := hrel
    have hl := Lib.hid hx.len
    by_cases hlt : k < n
    · obtain ⟨ad, x, rfl, hab, X, hc⟩ := hx.at hlt
      have hd := Lib.hid (M.drop_at X.out)
      cases hs : M.inn x 0 (m - 1)
      · have R := Lib.hid (show xs.all (M.idx m) = false by rw [H.out, hd.out, List.all_cons, M.idx, hs]; rfl)
        go_wp2_with (go_at_call 56; refine (impl_within _ _ _ _).mono ?_; rintro e w' ⟨rfl, rfl⟩)
        go_ret
        exact ⟨ret_bool (by rw [R.out]), rfl⟩
      · have R := Lib.hid (show xs.all (M.idx m) = (xs.drop (k + 1)).all (M.idx m) by rw [H.out, hd.out, List.all_cons, M.idx, hs]; rfl)
        go_wp2_with (go_at_call 56; refine (impl_within _ _ _ _).mono ?_; rintro e w' ⟨rfl, rfl⟩)
        go_round
        case rel => exact ⟨k + 1, by go_num, by omega, R⟩
        case measure => simp [intOf]; omega
    · have R := Lib.hid (show xs.all (M.idx m) = true by rw [H.out, List.drop_eq_nil_of_le (by rw [hl.out]; omega)]; rfl)
      go_wp2
      go_ret
      exact ⟨ret_bool (by rw [R.out]), rfl⟩
theorem impl_areTables (A : Option Addr) (n c : Nat) (ts : List (List Int)) (w : World) (hx : RS tS w w.heap.size (.slice A n c) ts) (hb : Hid (∀ x ∈ ts, x.length ≤ 1000000000)) (hn : n ≤ 1000000000) :
    Calls Tryz.prog 135 #[.slice A n c] w fun e w' => e = .returned (.bool (M.tabsOk ts)) ∧ w = w' := by
  have hl := Lib.hid hx.cap.1
  go_enter Tryz.func135, Tryz.ntmps135
  go_wp2
  go_loop [4, 5, 8] (fun _ _ i => ∃ k : Nat, i = .int .i64 k ∧ k ≤ n ∧ Hid (ts.all M.tabOk = (ts.drop k).all M.tabOk)) (fun _ _ i => n - (intOf i).toNat)
  case atStart => exact ⟨0, rfl, by omega, Lib.hid (by simp)⟩
  case round =>
    obtain ⟨k, rfl, hk, H⟩ := hrel
    by_cases hlt : k < n
    · obtain ⟨bb, o, A1, c1, x, rfl, hbb, X, hc, hri, hxl⟩ := src_cell hx hb hlt
      have hd := Lib.hid (M.drop_at X.out)
      cases hs : (decide (x.length = 2) || decide (x.length = 4) || decide (x.length = 8) || decide (x.length = 16))
      · have R := Lib.hid (show M.tabsOk ts = false by rw [M.tabsOk, H.out, hd.out, List.all_cons, M.tabOk, hs]; rfl)
        have h2 : ¬ x.length = 2 := fun e => by simp [e] at hs
        have h4 : ¬ x.length = 4 := fun e => by simp [e] at hs
        have h8 : ¬ x.length = 8 := fun e => by simp [e] at hs
        have h16 : ¬ x.length = 16 := fun e => by simp [e] at hs
        have g2 : ((x.length : Int) != 2) = true := by simp; omega
        have g4 : ((x.length : Int) != 4) = true := by simp; omega
        have g8 : ((x.length : Int) != 8) = true := by simp; omega
        have g16 : ((x.length : Int) != 16) = true := by simp; omega
        clear hs h2 h4 h8 h16
        go_wp2
        go_ret
        exact ⟨ret_bool (by rw [R.out]), rfl⟩
      · have HS := Lib.hid hs
        cases hq : x.all M.smp
        · have R := Lib.hid (show M.tabsOk ts = false by rw [M.tabsOk, H.out, hd.out, List.all_cons, M.tabOk, hq, Bool.and_false]; rfl)
          have hor : x.length = 2 ∨ x.length = 4 ∨ x.length = 8 ∨ x.length = 16 := by simp at hs; omega
          have HQ := Lib.hid hq
          clear hs hq
          rcases hor with e | e | e | e
          all_goals
            rw [e] at hc hri
            go_wp2_with (go_at_call 76; refine (impl_areSamples _ _ _ _ _ hri (by omega)).mono ?_; rw [HQ.out]; rintro e w' ⟨rfl, rfl⟩)
            go_ret
            exact ⟨ret_bool (by rw [R.out]), rfl⟩
        · have R := Lib.hid (show ts.all M.tabOk = (ts.drop (k + 1)).all M.tabOk by rw [H.out, hd.out, List.all_cons, M.tabOk, hs, hq]; rfl)
          have hor : x.length = 2 ∨ x.length = 4 ∨ x.length = 8 ∨ x.length = 16 := by simp at hs; omega
          have HQ := Lib.hid hq
          clear hs hq
          rcases hor with e | e | e | e
          all_goals
            rw [e] at hc hri
            go_wp2_with (go_at_call 76; refine (impl_areSamples _ _ _ _ _ hri (by omega)).mono ?_; rw [HQ.out]; rintro e w' ⟨rfl, rfl⟩)
            go_round
            case rel => exact ⟨k + 1, by go_num, by omega, R⟩
            case measure => simp [intOf]; omega
    · have R := Lib.hid (show M.tabsOk ts = decide (n ≤ 4) by rw [M.tabsOk, H.out, List.drop_eq_nil_of_le (by rw [hl.out]; omega), hl.out]; rfl)
      go_wp2
      go_ret
      exact ⟨ret_bool (by rw [R.out, Bool.eq_iff_iff]; simp; try omega), rfl⟩
def M.kn (j : Nat) : ByteArray := [⟨#[105, 110, 112, 117, 116]⟩, ⟨#[99, 111, 110, 115, 116]⟩, ⟨#[97, 100, 100]⟩, ⟨#[115, 117, 98]⟩, ⟨#[103, 97, 105, 110]⟩, ⟨#[100, 101, 108, 97, 121]⟩, ⟨#[115, 117, 109]⟩, ⟨#[100, 105, 102, 102]⟩, ⟨#[109, 117, 108]⟩, ⟨#[115, 104, 105, 102, 116]⟩, ⟨#[99, 108, 105, 112]⟩, ⟨#[112, 104, 97, 115, 101]⟩, ⟨#[116, 97, 98, 108, 101]⟩, ⟨#[110, 111, 105, 115, 101]⟩, ⟨#[115, 101, 108, 101, 99, 116]⟩, ⟨#[104, 111, 108, 100]⟩, ⟨#[99, 111, 109, 98]⟩].getD j ⟨#[]⟩
/-- The row of the kinds. -/
def M.kcells (w : World) (g : Nat) : Prop := ∀ j, j < 17 → w.cell? ⟨g, j * 6, none⟩ = some (.string (M.kn j)) ∧ w.cell? ⟨g, j * 6 + 1, none⟩ = some (.int .i64 (M.kd j).1) ∧ w.cell? ⟨g, j * 6 + 2, none⟩ = some (.int .i64 (M.kd j).2.1) ∧ w.cell? ⟨g, j * 6 + 3, none⟩ = some (.int .i64 (M.kd j).2.2.1) ∧ w.cell? ⟨g, j * 6 + 4, none⟩ = some (.bool (M.kd j).2.2.2.1) ∧ w.cell? ⟨g, j * 6 + 5, none⟩ = some (.bool (M.kd j).2.2.2.2)
theorem impl_kinds (w : World) :
    Calls Tryz.prog 146 #[] w fun e w' => ∃ g, e = .returned (.slice (some ⟨g, 0, none⟩) 17 17) ∧ w.heap.size ≤ g ∧ g < w'.heap.size ∧ M.kcells w' g ∧ Below w.heap.size w w' := by
  go_enter Tryz.func146, Tryz.ntmps146
  go_wp2
  go_ret
  refine ⟨_, rfl, Nat.le_refl _, by simp, ?_, (Below.refl _ _).alloc (Nat.le_refl _) _⟩
  intro j hj
  obtain rfl | rfl | rfl | rfl | rfl | rfl | rfl | rfl | rfl | rfl | rfl | rfl | rfl | rfl | rfl | rfl | rfl : j = 0 ∨ j = 1 ∨ j = 2 ∨ j = 3 ∨ j = 4 ∨ j = 5 ∨ j = 6 ∨ j = 7 ∨ j = 8 ∨ j = 9 ∨ j = 10 ∨ j = 11 ∨ j = 12 ∨ j = 13 ∨ j = 14 ∨ j = 15 ∨ j = 16 := by omega
  all_goals
    refine ⟨?_, ?_, ?_, ?_, ?_, ?_⟩
    all_goals (rw [cell_of_row _ w.heap.size _ _ 178 (0, 0) (heap_alloc_new w _)]; rfl)
theorem impl_isKind (k : Int) (w : World) : Calls Tryz.prog 145 #[.int .i64 k] w fun e w' => e = .returned (.bool (M.inn k 1 17)) ∧ w = w' := by
  go_enter Tryz.func145, Tryz.ntmps145
  go_wp2_with (go_at_call 56; refine (impl_within _ _ _ _).mono ?_; rintro e w' ⟨rfl, rfl⟩)
  go_ret
  exact ⟨rfl, rfl⟩
theorem impl_kindOf_hasA (s : ByteArray) (i lo hi : Int) (l b : Bool) (w : World) : Calls Tryz.prog 147 #[.agg #[.string s, .int .i64 i, .int .i64 lo, .int .i64 hi, .bool l, .bool b]] w fun e w' => e = .returned (.bool (decide (lo ≤ hi))) ∧ Below w.heap.size w w' := by
  have B0 : Below w.heap.size w (w.alloc (.cells #[.string s, .int .i64 i, .int .i64 lo, .int .i64 hi, .bool l, .bool b] 178)) := (Below.refl _ _).alloc (Nat.le_refl _) _
  go_enter Tryz.func147, Tryz.ntmps147
  go_wp2
  go_ret
  exact ⟨rfl, B0⟩
end Go.Proofs.YtfkcoiefkjmdeaaGreat
namespace Go.Proofs.YtfkcoiefkjmdeaaGreat
open Go.RowKit Go.Sort
set_option maxHeartbeats 4000000
set_option maxRecDepth 100000
set_option linter.unusedVariables false
set_option linter.unusedSimpArgs false
theorem impl_isNode (a0 a1 a2 : Int) (A : Option Addr) (n c : Nat) (xs : List Int) (tb : Int) (w : World) (hx : RI w w.heap.size A n xs) (hn : n ≤ 1000000000) :
    Calls Tryz.prog 136 #[.agg #[.int .i64 a0, .int .i64 a1, .int .i64 a2, .slice A n c], .int .i64 tb] w fun e w' => e = .returned (.bool (M.nodeOk (a0, a1, a2, xs) tb)) ∧ Below w.heap.size w w' := by
  obtain ⟨W, hW⟩ : ∃ W, W = w.alloc (.cells #[.int .i64 a0, .int .i64 a1, .int .i64 a2, .slice A n c] 122) := ⟨_, rfl⟩
  have B0 : Below w.heap.size w W := by rw [hW]; exact (Below.refl _ _).alloc (Nat.le_refl _) _
  have p0 : W.cell? ⟨w.heap.size, 0, none⟩ = some (.int .i64 a0) := by rw [hW]; simp [go_sem]
  have p1 : W.cell? ⟨w.heap.size, 1, none⟩ = some (.int .i64 a1) := by rw [hW]; simp [go_sem]
  have p2 : W.cell? ⟨w.heap.size, 2, none⟩ = some (.int .i64 a2) := by rw [hW]; simp [go_sem]
  have p3 : W.cell? ⟨w.heap.size, 3, none⟩ = some (.slice A n c) := by rw [hW]; simp [go_sem]
  have lx : w.heap.size < W.heap.size := by rw [hW]; simp
  have hx1 := hx.later B0
  have HW := Lib.hid hW
  have hlen := Lib.hid hx.len
  clear hW hx
  cases h : M.inn a0 1 17
  · have R := Lib.hid (show M.nodeOk (a0, a1, a2, xs) tb = false by rw [M.nodeOk, h]; rfl)
    go_enter Tryz.func136, Tryz.ntmps136
    go_wp2_with fail
    rw [← HW.out]
    go_wp2_with (go_at_call 145; refine (impl_isKind _ _).mono ?_; rintro e w' ⟨rfl, rfl⟩)
    go_ret
    exact ⟨ret_bool (by rw [R.out]), B0⟩
  · have hr := M.inn_iff.1 h
    obtain ⟨j, hj⟩ : ∃ j : Nat, j = a0.toNat - 1 := ⟨_, rfl⟩
    have hj17 : j < 17 := by omega
    have hja : IntKind.i64.wrap (a0 - 1) = (j : Int) := by rw [IntWalk.i64_in _ (by omega)]; omega
    have hj0 : (0 : Int) ≤ (j : Int) := by omega
    have hj1 : (j : Int) < 17 := by omega
    obtain ⟨⟨ki, lo, hi, li, hb⟩, hk⟩ : ∃ q, q = M.kd j := ⟨_, rfl⟩
    have HK := Lib.hid hk
    have HI := Lib.hid h
    have HN := Lib.hid (show M.nodeOk (a0, a1, a2, xs) tb = (M.aI (ki, lo, hi, li, hb) a1 && M.bI (ki, lo, hi, li, hb) a2 && xs.all M.from_ && decide ((xs.length : Int) = ki) && (decide (¬ a0 = 13) || decide (a1 < tb))) by rw [M.nodeOk]; simp only [h, Bool.true_and]; rw [← hj, ← hk])
    clear hj hk h hr
    have Da : Below W.heap.size W W.drew := below_drewN (Below.refl _ _) 1
    have Db : Below W.heap.size W (W.alloc (.cells #[.string ⟨#[]⟩, .int .i64 0, .int .i64 0, .int .i64 0, .bool false, .bool false] 178)).drew := below_drewN ((Below.refl _ _).alloc (Nat.le_refl _) _) 1
    have sb : (W.alloc (.cells #[.string ⟨#[]⟩, .int .i64 0, .int .i64 0, .int .i64 0, .bool false, .bool false] 178)).drew.heap.size = W.heap.size + 1 := by simp
    have sa : W.drew.heap.size = W.heap.size := rfl
    go_enter Tryz.func136, Tryz.ntmps136
    go_wp2_with fail
    rw [← HW.out]
    go_wp2_with (go_at_call 145; refine (impl_isKind _ _).mono ?_; rw [HI.out]; rintro e w' ⟨rfl, rfl⟩)
    go_cut [5] (fun q5 wx => ∃ g, q5 = .pointer (some ⟨g, 0, none⟩) ∧ W.heap.size ≤ g ∧ g < wx.heap.size ∧ wx.cell? ⟨g, 0, none⟩ = some (.string (M.kn j)) ∧ wx.cell? ⟨g, 1, none⟩ = some (.int .i64 ki) ∧ wx.cell? ⟨g, 2, none⟩ = some (.int .i64 lo) ∧ wx.cell? ⟨g, 3, none⟩ = some (.int .i64 hi) ∧ wx.cell? ⟨g, 4, none⟩ = some (.bool li) ∧ wx.cell? ⟨g, 5, none⟩ = some (.bool hb) ∧ Below W.heap.size W wx)
    case first =>
      go_region_with (first | (go_at_call 146; refine (impl_kinds _).mono ?_; rintro e w2 ⟨g, rfl, hg0, hg1, KC, bel2⟩; obtain ⟨k0, k1, k2, k3, k4, k5⟩ := KC j hj17; rw [← HK.out] at k1 k2 k3 k4 k5; simp only at k1 k2 k3 k4 k5; have G2 : Below W.heap.size W w2 := bel_trans Db bel2; have q0 : w2.cell? ⟨w.heap.size, 0, none⟩ = some (.int .i64 a0) := (by rw [G2.cell lx]; exact p0); have hs2 := bel2.size; have lw2 : w.heap.size < w2.heap.size := (by have := G2.size; omega); have bz0 : w2.cell? ⟨W.heap.size, 0, none⟩ = some (.string ⟨#[]⟩) := (by rw [bel2.cell (by simp)]; simp [go_sem]); have by0 : w2.frozen? ⟨W.heap.size, 0, none⟩ = false := (by rw [bel2.frozen (by simp)]; simp [go_sem]); have bz1 : w2.cell? ⟨W.heap.size, 1, none⟩ = some (.int .i64 0) := (by rw [bel2.cell (by simp)]; simp [go_sem]); have by1 : w2.frozen? ⟨W.heap.size, 1, none⟩ = false := (by rw [bel2.frozen (by simp)]; simp [go_sem]); have bz2 : w2.cell? ⟨W.heap.size, 2, none⟩ = some (.int .i64 0) := (by rw [bel2.cell (by simp)]; simp [go_sem]); have by2 : w2.frozen? ⟨W.heap.size, 2, none⟩ = false := (by rw [bel2.frozen (by simp)]; simp [go_sem]); have bz3 : w2.cell? ⟨W.heap.size, 3, none⟩ = some (.int .i64 0) := (by rw [bel2.cell (by simp)]; simp [go_sem]); have by3 : w2.frozen? ⟨W.heap.size, 3, none⟩ = false := (by rw [bel2.frozen (by simp)]; simp [go_sem]); have bz4 : w2.cell? ⟨W.heap.size, 4, none⟩ = some (.bool false) := (by rw [bel2.cell (by simp)]; simp [go_sem]); have by4 : w2.frozen? ⟨W.heap.size, 4, none⟩ = false := (by rw [bel2.frozen (by simp)]; simp [go_sem]); have bz5 : w2.cell? ⟨W.heap.size, 5, none⟩ = some (.bool false) := (by rw [bel2.cell (by simp)]; simp [go_sem]); have by5 : w2.frozen? ⟨W.heap.size, 5, none⟩ = false := (by rw [bel2.frozen (by simp)]; simp [go_sem]); have lb2 : W.heap.size < w2.heap.size := (by rw [sb] at hs2; omega); have nb2 : ¬ g = W.heap.size := (by rw [sb] at hg0; omega)) | (go_at_call 146; refine (impl_kinds _).mono ?_; rintro e w2 ⟨g, rfl, hg0, hg1, KC, bel2⟩; obtain ⟨k0, k1, k2, k3, k4, k5⟩ := KC j hj17; rw [← HK.out] at k1 k2 k3 k4 k5; simp only at k1 k2 k3 k4 k5; have G2 : Below W.heap.size W w2 := bel_trans Da bel2; have q0 : w2.cell? ⟨w.heap.size, 0, none⟩ = some (.int .i64 a0) := (by rw [G2.cell lx]; exact p0); have hs2 := bel2.size; have lw2 : w.heap.size < w2.heap.size := (by have := G2.size; omega)))
      all_goals
        go_wp2_with fail
        go_meet
        refine ⟨_, rfl, ?_⟩
        first
          | (have _t := nb2; refine ⟨Nat.le_refl _, by simp; omega, ?_, ?_, ?_, ?_, ?_, ?_, (((((G2.setCell (Nat.le_refl _) _).setCell (Nat.le_refl _) _).setCell (Nat.le_refl _) _).setCell (Nat.le_refl _) _).setCell (Nat.le_refl _) _).setCell (Nat.le_refl _) _⟩ <;> (simp [go_sem, bz0, bz1, bz2, bz3, bz4, bz5]; done))
          | (refine ⟨by have := G2.size; omega, by simp, ?_, ?_, ?_, ?_, ?_, ?_, G2.alloc G2.size _⟩ <;> (simp [go_sem]; done))
    case rest =>
      have hcut_ := hcut
      clear hcut Da Db sa sb
      obtain ⟨U, rfl⟩ : ∃ u_ : World, u_ = wc := ⟨_, rfl⟩
      obtain ⟨g, rfl, hg, lg, e0, e1, e2, e3, e4, e5, G⟩ := hcut_
      clear HW
      have lw : w.heap.size < U.heap.size := by have := G.size; omega
      replace p0 : U.cell? ⟨w.heap.size, 0, none⟩ = some (.int .i64 a0) := by rw [G.cell lx]; exact p0
      replace p1 : U.cell? ⟨w.heap.size, 1, none⟩ = some (.int .i64 a1) := by rw [G.cell lx]; exact p1
      replace p2 : U.cell? ⟨w.heap.size, 2, none⟩ = some (.int .i64 a2) := by rw [G.cell lx]; exact p2
      replace p3 : U.cell? ⟨w.heap.size, 3, none⟩ = some (.slice A n c) := by rw [G.cell lx]; exact p3
      replace hx1 := hx1.later G
      by_cases hle : lo ≤ hi
      · have HL := Lib.hid (decide_eq_true hle)
        cases h1 : M.inn a1 lo hi
        · have HA := Lib.hid (show M.aI (ki, lo, hi, li, hb) a1 = false by rw [M.aI, if_pos hle, h1])
          have R := Lib.hid (show M.nodeOk (a0, a1, a2, xs) tb = false by rw [HN.out, HA.out]; try rfl)
          go_wp2_with (first | (go_at_call 147; refine (impl_kindOf_hasA _ _ _ _ _ _ _).mono ?_; rw [HL.out]; rintro e v5 ⟨rfl, bel5⟩; have s5 := bel5.size; replace e0 : v5.cell? ⟨g, 0, none⟩ = some (.string (M.kn j)) := (by rw [bel5.cell lg]; exact e0); replace e1 : v5.cell? ⟨g, 1, none⟩ = some (.int .i64 ki) := (by rw [bel5.cell lg]; exact e1); replace e2 : v5.cell? ⟨g, 2, none⟩ = some (.int .i64 lo) := (by rw [bel5.cell lg]; exact e2); replace e3 : v5.cell? ⟨g, 3, none⟩ = some (.int .i64 hi) := (by rw [bel5.cell lg]; exact e3); replace e4 : v5.cell? ⟨g, 4, none⟩ = some (.bool li) := (by rw [bel5.cell lg]; exact e4); replace e5 : v5.cell? ⟨g, 5, none⟩ = some (.bool hb) := (by rw [bel5.cell lg]; exact e5); replace p0 : v5.cell? ⟨w.heap.size, 0, none⟩ = some (.int .i64 a0) := (by rw [bel5.cell lw]; exact p0); replace p1 : v5.cell? ⟨w.heap.size, 1, none⟩ = some (.int .i64 a1) := (by rw [bel5.cell lw]; exact p1); replace p2 : v5.cell? ⟨w.heap.size, 2, none⟩ = some (.int .i64 a2) := (by rw [bel5.cell lw]; exact p2); replace p3 : v5.cell? ⟨w.heap.size, 3, none⟩ = some (.slice A n c) := (by rw [bel5.cell lw]; exact p3); replace hx1 := hx1.later bel5; replace lg : g < v5.heap.size := (by omega); replace lw : w.heap.size < v5.heap.size := (by omega); replace G := bel_trans G bel5; clear bel5 s5) | (go_at_call 56; refine (impl_within _ _ _ _).mono ?_; rintro e w' ⟨rfl, rfl⟩))
          go_ret
          exact ⟨ret_bool (by rw [R.out]), bel_trans B0 G⟩
        · have HA := Lib.hid (fun hb => show M.aI (ki, lo, hi, li, hb) a1 = true by rw [M.aI, if_pos hle, h1])
          cases hb
          · by_cases h2 : a2 = 0
            · have HB := Lib.hid (show M.bI (ki, lo, hi, li, false) a2 = true by rw [M.bI, if_neg (by simp)]; simpa using h2)
              have g2 : (a2 != 0) = false := by simp [h2]
              have HM := Lib.hid (show M.nodeOk (a0, a1, a2, xs) tb = (xs.all M.from_ && decide ((xs.length : Int) = ki) && (decide (¬ a0 = 13) || decide (a1 < tb))) by rw [HN.out, (HA.out _), HB.out]; rfl)
              go_wp2_with (first | (go_at_call 147; refine (impl_kindOf_hasA _ _ _ _ _ _ _).mono ?_; rw [HL.out]; rintro e v5 ⟨rfl, bel5⟩; have s5 := bel5.size; replace e0 : v5.cell? ⟨g, 0, none⟩ = some (.string (M.kn j)) := (by rw [bel5.cell lg]; exact e0); replace e1 : v5.cell? ⟨g, 1, none⟩ = some (.int .i64 ki) := (by rw [bel5.cell lg]; exact e1); replace e2 : v5.cell? ⟨g, 2, none⟩ = some (.int .i64 lo) := (by rw [bel5.cell lg]; exact e2); replace e3 : v5.cell? ⟨g, 3, none⟩ = some (.int .i64 hi) := (by rw [bel5.cell lg]; exact e3); replace e4 : v5.cell? ⟨g, 4, none⟩ = some (.bool li) := (by rw [bel5.cell lg]; exact e4); replace e5 : v5.cell? ⟨g, 5, none⟩ = some (.bool false) := (by rw [bel5.cell lg]; exact e5); replace p0 : v5.cell? ⟨w.heap.size, 0, none⟩ = some (.int .i64 a0) := (by rw [bel5.cell lw]; exact p0); replace p1 : v5.cell? ⟨w.heap.size, 1, none⟩ = some (.int .i64 a1) := (by rw [bel5.cell lw]; exact p1); replace p2 : v5.cell? ⟨w.heap.size, 2, none⟩ = some (.int .i64 a2) := (by rw [bel5.cell lw]; exact p2); replace p3 : v5.cell? ⟨w.heap.size, 3, none⟩ = some (.slice A n c) := (by rw [bel5.cell lw]; exact p3); replace hx1 := hx1.later bel5; replace lg : g < v5.heap.size := (by omega); replace lw : w.heap.size < v5.heap.size := (by omega); replace G := bel_trans G bel5; clear bel5 s5) | (go_at_call 56; refine (impl_within _ _ _ _).mono ?_; rintro e w' ⟨rfl, rfl⟩))
              skip
              go_loop [7, 63] (fun _ i => ∃ k : Nat, i = .int .i64 k ∧ k ≤ n ∧ Hid (xs.all M.from_ = (xs.drop k).all M.from_)) (fun _ i => n - (intOf i).toNat)
              case atStart => exact ⟨0, rfl, by omega, Lib.hid (by simp)⟩
              case round =>
                obtain ⟨k, rfl, hk, H⟩ := hrel
                by_cases hlt : k < n
                · obtain ⟨ad, x, rfl, hab, X, hc⟩ := hx1.at hlt
                  have hd := Lib.hid (M.drop_at X.out)
                  cases hs : M.inn x 0 23
                  · have R := Lib.hid (show M.nodeOk (a0, a1, a2, xs) tb = false by rw [HM.out, H.out, hd.out, List.all_cons, M.from_, hs]; rfl)
                    go_wp2_with (go_at_call 56; refine (impl_within _ _ _ _).mono ?_; rintro e w' ⟨rfl, rfl⟩)
                    go_ret
                    exact ⟨ret_bool (by rw [R.out]), bel_trans B0 G⟩
                  · have R := Lib.hid (show xs.all M.from_ = (xs.drop (k + 1)).all M.from_ by rw [H.out, hd.out, List.all_cons, M.from_, hs]; rfl)
                    go_wp2_with (go_at_call 56; refine (impl_within _ _ _ _).mono ?_; rintro e w' ⟨rfl, rfl⟩)
                    go_round
                    case rel => exact ⟨k + 1, by go_num, by omega, R⟩
                    case measure => simp [intOf]; omega
                · have HF := Lib.hid (show xs.all M.from_ = true by rw [H.out, List.drop_eq_nil_of_le (by rw [hlen.out]; omega)]; rfl)
                  clear H
                  by_cases c1 : (n : Int) = ki
                  · by_cases c2 : a0 = 13
                    · have d1 : decide ((n : Int) = ki) = true := by simpa using c1
                      have d2 : (a0 != 13) = false := by simp [c2]
                      by_cases c3 : a1 < tb
                      · have R := Lib.hid (show M.nodeOk (a0, a1, a2, xs) tb = true by rw [HM.out, HF.out, hlen.out, c1, c2]; simpa using c3)
                        skip
                        go_wp2_with fail
                        go_quiet (first | (refine quiet_left (impl_size_int64 _ _ _ _)))
                        go_wp2
                        go_ret
                        exact ⟨ret_bool (by rw [R.out]; try (simp; omega)), bel_trans B0 (below_drewN G _)⟩
                      · have R := Lib.hid (show M.nodeOk (a0, a1, a2, xs) tb = false by rw [HM.out, HF.out, hlen.out, c1, c2]; simpa using c3)
                        skip
                        go_wp2_with fail
                        go_quiet (first | (refine quiet_left (impl_size_int64 _ _ _ _)))
                        go_wp2
                        go_ret
                        exact ⟨ret_bool (by rw [R.out]; try (simp; omega)), bel_trans B0 (below_drewN G _)⟩
                    · have R := Lib.hid (show M.nodeOk (a0, a1, a2, xs) tb = true by rw [HM.out, HF.out, hlen.out, c1]; simp [c2])
                      have d2 : (a0 != 13) = true := by simpa using c2
                      skip
                      go_wp2_with fail
                      go_quiet (first | (refine quiet_left (impl_size_int64 _ _ _ _)))
                      go_wp2
                      go_ret
                      exact ⟨ret_bool (by rw [R.out]; try (simp; omega)), bel_trans B0 (below_drewN G _)⟩
                  · have R := Lib.hid (show M.nodeOk (a0, a1, a2, xs) tb = false by rw [HM.out, HF.out, hlen.out]; simp [c1])
                    have d1 : ((n : Int) == ki) = false := by simpa using c1
                    skip
                    go_wp2_with fail
                    go_quiet (first | (refine quiet_left (impl_size_int64 _ _ _ _)))
                    go_wp2
                    go_ret
                    exact ⟨ret_bool (by rw [R.out]; try (simp; omega)), bel_trans B0 (below_drewN G _)⟩
            · have HB := Lib.hid (show M.bI (ki, lo, hi, li, false) a2 = false by rw [M.bI, if_neg (by simp)]; simpa using h2)
              have g2 : (a2 != 0) = true := by simpa using h2
              have R := Lib.hid (show M.nodeOk (a0, a1, a2, xs) tb = false by rw [HN.out, (HA.out _), HB.out]; try rfl)
              go_wp2_with (first | (go_at_call 147; refine (impl_kindOf_hasA _ _ _ _ _ _ _).mono ?_; rw [HL.out]; rintro e v5 ⟨rfl, bel5⟩; have s5 := bel5.size; replace e0 : v5.cell? ⟨g, 0, none⟩ = some (.string (M.kn j)) := (by rw [bel5.cell lg]; exact e0); replace e1 : v5.cell? ⟨g, 1, none⟩ = some (.int .i64 ki) := (by rw [bel5.cell lg]; exact e1); replace e2 : v5.cell? ⟨g, 2, none⟩ = some (.int .i64 lo) := (by rw [bel5.cell lg]; exact e2); replace e3 : v5.cell? ⟨g, 3, none⟩ = some (.int .i64 hi) := (by rw [bel5.cell lg]; exact e3); replace e4 : v5.cell? ⟨g, 4, none⟩ = some (.bool li) := (by rw [bel5.cell lg]; exact e4); replace e5 : v5.cell? ⟨g, 5, none⟩ = some (.bool false) := (by rw [bel5.cell lg]; exact e5); replace p0 : v5.cell? ⟨w.heap.size, 0, none⟩ = some (.int .i64 a0) := (by rw [bel5.cell lw]; exact p0); replace p1 : v5.cell? ⟨w.heap.size, 1, none⟩ = some (.int .i64 a1) := (by rw [bel5.cell lw]; exact p1); replace p2 : v5.cell? ⟨w.heap.size, 2, none⟩ = some (.int .i64 a2) := (by rw [bel5.cell lw]; exact p2); replace p3 : v5.cell? ⟨w.heap.size, 3, none⟩ = some (.slice A n c) := (by rw [bel5.cell lw]; exact p3); replace hx1 := hx1.later bel5; replace lg : g < v5.heap.size := (by omega); replace lw : w.heap.size < v5.heap.size := (by omega); replace G := bel_trans G bel5; clear bel5 s5) | (go_at_call 56; refine (impl_within _ _ _ _).mono ?_; rintro e w' ⟨rfl, rfl⟩))
              go_ret
              exact ⟨ret_bool (by rw [R.out]), bel_trans B0 G⟩
          · cases h2 : M.inn a2 1 16
            · have HB := Lib.hid (show M.bI (ki, lo, hi, li, true) a2 = false by rw [M.bI, if_pos rfl, h2])
              have R := Lib.hid (show M.nodeOk (a0, a1, a2, xs) tb = false by rw [HN.out, (HA.out _), HB.out]; try rfl)
              go_wp2_with (first | (go_at_call 147; refine (impl_kindOf_hasA _ _ _ _ _ _ _).mono ?_; rw [HL.out]; rintro e v5 ⟨rfl, bel5⟩; have s5 := bel5.size; replace e0 : v5.cell? ⟨g, 0, none⟩ = some (.string (M.kn j)) := (by rw [bel5.cell lg]; exact e0); replace e1 : v5.cell? ⟨g, 1, none⟩ = some (.int .i64 ki) := (by rw [bel5.cell lg]; exact e1); replace e2 : v5.cell? ⟨g, 2, none⟩ = some (.int .i64 lo) := (by rw [bel5.cell lg]; exact e2); replace e3 : v5.cell? ⟨g, 3, none⟩ = some (.int .i64 hi) := (by rw [bel5.cell lg]; exact e3); replace e4 : v5.cell? ⟨g, 4, none⟩ = some (.bool li) := (by rw [bel5.cell lg]; exact e4); replace e5 : v5.cell? ⟨g, 5, none⟩ = some (.bool true) := (by rw [bel5.cell lg]; exact e5); replace p0 : v5.cell? ⟨w.heap.size, 0, none⟩ = some (.int .i64 a0) := (by rw [bel5.cell lw]; exact p0); replace p1 : v5.cell? ⟨w.heap.size, 1, none⟩ = some (.int .i64 a1) := (by rw [bel5.cell lw]; exact p1); replace p2 : v5.cell? ⟨w.heap.size, 2, none⟩ = some (.int .i64 a2) := (by rw [bel5.cell lw]; exact p2); replace p3 : v5.cell? ⟨w.heap.size, 3, none⟩ = some (.slice A n c) := (by rw [bel5.cell lw]; exact p3); replace hx1 := hx1.later bel5; replace lg : g < v5.heap.size := (by omega); replace lw : w.heap.size < v5.heap.size := (by omega); replace G := bel_trans G bel5; clear bel5 s5) | (go_at_call 56; refine (impl_within _ _ _ _).mono ?_; rintro e w' ⟨rfl, rfl⟩))
              go_ret
              exact ⟨ret_bool (by rw [R.out]), bel_trans B0 G⟩
            · have HB := Lib.hid (show M.bI (ki, lo, hi, li, true) a2 = true by rw [M.bI, if_pos rfl, h2])
              have HM := Lib.hid (show M.nodeOk (a0, a1, a2, xs) tb = (xs.all M.from_ && decide ((xs.length : Int) = ki) && (decide (¬ a0 = 13) || decide (a1 < tb))) by rw [HN.out, (HA.out _), HB.out]; rfl)
              go_wp2_with (first | (go_at_call 147; refine (impl_kindOf_hasA _ _ _ _ _ _ _).mono ?_; rw [HL.out]; rintro e v5 ⟨rfl, bel5⟩; have s5 := bel5.size; replace e0 : v5.cell? ⟨g, 0, none⟩ = some (.string (M.kn j)) := (by rw [bel5.cell lg]; exact e0); replace e1 : v5.cell? ⟨g, 1, none⟩ = some (.int .i64 ki) := (by rw [bel5.cell lg]; exact e1); replace e2 : v5.cell? ⟨g, 2, none⟩ = some (.int .i64 lo) := (by rw [bel5.cell lg]; exact e2); replace e3 : v5.cell? ⟨g, 3, none⟩ = some (.int .i64 hi) := (by rw [bel5.cell lg]; exact e3); replace e4 : v5.cell? ⟨g, 4, none⟩ = some (.bool li) := (by rw [bel5.cell lg]; exact e4); replace e5 : v5.cell? ⟨g, 5, none⟩ = some (.bool true) := (by rw [bel5.cell lg]; exact e5); replace p0 : v5.cell? ⟨w.heap.size, 0, none⟩ = some (.int .i64 a0) := (by rw [bel5.cell lw]; exact p0); replace p1 : v5.cell? ⟨w.heap.size, 1, none⟩ = some (.int .i64 a1) := (by rw [bel5.cell lw]; exact p1); replace p2 : v5.cell? ⟨w.heap.size, 2, none⟩ = some (.int .i64 a2) := (by rw [bel5.cell lw]; exact p2); replace p3 : v5.cell? ⟨w.heap.size, 3, none⟩ = some (.slice A n c) := (by rw [bel5.cell lw]; exact p3); replace hx1 := hx1.later bel5; replace lg : g < v5.heap.size := (by omega); replace lw : w.heap.size < v5.heap.size := (by omega); replace G := bel_trans G bel5; clear bel5 s5) | (go_at_call 56; refine (impl_within _ _ _ _).mono ?_; rintro e w' ⟨rfl, rfl⟩))
              skip
              go_loop [7, 63] (fun _ i => ∃ k : Nat, i = .int .i64 k ∧ k ≤ n ∧ Hid (xs.all M.from_ = (xs.drop k).all M.from_)) (fun _ i => n - (intOf i).toNat)
              case atStart => exact ⟨0, rfl, by omega, Lib.hid (by simp)⟩
              case round =>
                obtain ⟨k, rfl, hk, H⟩ := hrel
                by_cases hlt : k < n
                · obtain ⟨ad, x, rfl, hab, X, hc⟩ := hx1.at hlt
                  have hd := Lib.hid (M.drop_at X.out)
                  cases hs : M.inn x 0 23
                  · have R := Lib.hid (show M.nodeOk (a0, a1, a2, xs) tb = false by rw [HM.out, H.out, hd.out, List.all_cons, M.from_, hs]; rfl)
                    go_wp2_with (go_at_call 56; refine (impl_within _ _ _ _).mono ?_; rintro e w' ⟨rfl, rfl⟩)
                    go_ret
                    exact ⟨ret_bool (by rw [R.out]), bel_trans B0 G⟩
                  · have R := Lib.hid (show xs.all M.from_ = (xs.drop (k + 1)).all M.from_ by rw [H.out, hd.out, List.all_cons, M.from_, hs]; rfl)
                    go_wp2_with (go_at_call 56; refine (impl_within _ _ _ _).mono ?_; rintro e w' ⟨rfl, rfl⟩)
                    go_round
                    case rel => exact ⟨k + 1, by go_num, by omega, R⟩
                    case measure => simp [intOf]; omega
                · have HF := Lib.hid (show xs.all M.from_ = true by rw [H.out, List.drop_eq_nil_of_le (by rw [hlen.out]; omega)]; rfl)
                  clear H
                  by_cases c1 : (n : Int) = ki
                  · by_cases c2 : a0 = 13
                    · have d1 : decide ((n : Int) = ki) = true := by simpa using c1
                      have d2 : (a0 != 13) = false := by simp [c2]
                      by_cases c3 : a1 < tb
                      · have R := Lib.hid (show M.nodeOk (a0, a1, a2, xs) tb = true by rw [HM.out, HF.out, hlen.out, c1, c2]; simpa using c3)
                        skip
                        go_wp2_with fail
                        go_quiet (first | (refine quiet_left (impl_size_int64 _ _ _ _)))
                        go_wp2
                        go_ret
                        exact ⟨ret_bool (by rw [R.out]; try (simp; omega)), bel_trans B0 (below_drewN G _)⟩
                      · have R := Lib.hid (show M.nodeOk (a0, a1, a2, xs) tb = false by rw [HM.out, HF.out, hlen.out, c1, c2]; simpa using c3)
                        skip
                        go_wp2_with fail
                        go_quiet (first | (refine quiet_left (impl_size_int64 _ _ _ _)))
                        go_wp2
                        go_ret
                        exact ⟨ret_bool (by rw [R.out]; try (simp; omega)), bel_trans B0 (below_drewN G _)⟩
                    · have R := Lib.hid (show M.nodeOk (a0, a1, a2, xs) tb = true by rw [HM.out, HF.out, hlen.out, c1]; simp [c2])
                      have d2 : (a0 != 13) = true := by simpa using c2
                      skip
                      go_wp2_with fail
                      go_quiet (first | (refine quiet_left (impl_size_int64 _ _ _ _)))
                      go_wp2
                      go_ret
                      exact ⟨ret_bool (by rw [R.out]; try (simp; omega)), bel_trans B0 (below_drewN G _)⟩
                  · have R := Lib.hid (show M.nodeOk (a0, a1, a2, xs) tb = false by rw [HM.out, HF.out, hlen.out]; simp [c1])
                    have d1 : ((n : Int) == ki) = false := by simpa using c1
                    skip
                    go_wp2_with fail
                    go_quiet (first | (refine quiet_left (impl_size_int64 _ _ _ _)))
                    go_wp2
                    go_ret
                    exact ⟨ret_bool (by rw [R.out]; try (simp; omega)), bel_trans B0 (below_drewN G _)⟩
      · have HL := Lib.hid (decide_eq_false hle)
        by_cases h1 : a1 = 0
        · have HA := Lib.hid (fun hb => show M.aI (ki, lo, hi, li, hb) a1 = true by rw [M.aI, if_neg hle]; simpa using h1)
          have g1 : (a1 != 0) = false := by simp [h1]
          cases hb
          · by_cases h2 : a2 = 0
            · have HB := Lib.hid (show M.bI (ki, lo, hi, li, false) a2 = true by rw [M.bI, if_neg (by simp)]; simpa using h2)
              have g2 : (a2 != 0) = false := by simp [h2]
              have HM := Lib.hid (show M.nodeOk (a0, a1, a2, xs) tb = (xs.all M.from_ && decide ((xs.length : Int) = ki) && (decide (¬ a0 = 13) || decide (a1 < tb))) by rw [HN.out, (HA.out _), HB.out]; rfl)
              go_wp2_with (first | (go_at_call 147; refine (impl_kindOf_hasA _ _ _ _ _ _ _).mono ?_; rw [HL.out]; rintro e v5 ⟨rfl, bel5⟩; have s5 := bel5.size; replace e0 : v5.cell? ⟨g, 0, none⟩ = some (.string (M.kn j)) := (by rw [bel5.cell lg]; exact e0); replace e1 : v5.cell? ⟨g, 1, none⟩ = some (.int .i64 ki) := (by rw [bel5.cell lg]; exact e1); replace e2 : v5.cell? ⟨g, 2, none⟩ = some (.int .i64 lo) := (by rw [bel5.cell lg]; exact e2); replace e3 : v5.cell? ⟨g, 3, none⟩ = some (.int .i64 hi) := (by rw [bel5.cell lg]; exact e3); replace e4 : v5.cell? ⟨g, 4, none⟩ = some (.bool li) := (by rw [bel5.cell lg]; exact e4); replace e5 : v5.cell? ⟨g, 5, none⟩ = some (.bool false) := (by rw [bel5.cell lg]; exact e5); replace p0 : v5.cell? ⟨w.heap.size, 0, none⟩ = some (.int .i64 a0) := (by rw [bel5.cell lw]; exact p0); replace p1 : v5.cell? ⟨w.heap.size, 1, none⟩ = some (.int .i64 a1) := (by rw [bel5.cell lw]; exact p1); replace p2 : v5.cell? ⟨w.heap.size, 2, none⟩ = some (.int .i64 a2) := (by rw [bel5.cell lw]; exact p2); replace p3 : v5.cell? ⟨w.heap.size, 3, none⟩ = some (.slice A n c) := (by rw [bel5.cell lw]; exact p3); replace hx1 := hx1.later bel5; replace lg : g < v5.heap.size := (by omega); replace lw : w.heap.size < v5.heap.size := (by omega); replace G := bel_trans G bel5; clear bel5 s5) | (go_at_call 56; refine (impl_within _ _ _ _).mono ?_; rintro e w' ⟨rfl, rfl⟩))
              skip
              go_loop [7, 63] (fun _ i => ∃ k : Nat, i = .int .i64 k ∧ k ≤ n ∧ Hid (xs.all M.from_ = (xs.drop k).all M.from_)) (fun _ i => n - (intOf i).toNat)
              case atStart => exact ⟨0, rfl, by omega, Lib.hid (by simp)⟩
              case round =>
                obtain ⟨k, rfl, hk, H⟩ := hrel
                by_cases hlt : k < n
                · obtain ⟨ad, x, rfl, hab, X, hc⟩ := hx1.at hlt
                  have hd := Lib.hid (M.drop_at X.out)
                  cases hs : M.inn x 0 23
                  · have R := Lib.hid (show M.nodeOk (a0, a1, a2, xs) tb = false by rw [HM.out, H.out, hd.out, List.all_cons, M.from_, hs]; rfl)
                    go_wp2_with (go_at_call 56; refine (impl_within _ _ _ _).mono ?_; rintro e w' ⟨rfl, rfl⟩)
                    go_ret
                    exact ⟨ret_bool (by rw [R.out]), bel_trans B0 G⟩
                  · have R := Lib.hid (show xs.all M.from_ = (xs.drop (k + 1)).all M.from_ by rw [H.out, hd.out, List.all_cons, M.from_, hs]; rfl)
                    go_wp2_with (go_at_call 56; refine (impl_within _ _ _ _).mono ?_; rintro e w' ⟨rfl, rfl⟩)
                    go_round
                    case rel => exact ⟨k + 1, by go_num, by omega, R⟩
                    case measure => simp [intOf]; omega
                · have HF := Lib.hid (show xs.all M.from_ = true by rw [H.out, List.drop_eq_nil_of_le (by rw [hlen.out]; omega)]; rfl)
                  clear H
                  by_cases c1 : (n : Int) = ki
                  · by_cases c2 : a0 = 13
                    · have d1 : decide ((n : Int) = ki) = true := by simpa using c1
                      have d2 : (a0 != 13) = false := by simp [c2]
                      by_cases c3 : a1 < tb
                      · have R := Lib.hid (show M.nodeOk (a0, a1, a2, xs) tb = true by rw [HM.out, HF.out, hlen.out, c1, c2]; simpa using c3)
                        skip
                        go_wp2_with fail
                        go_quiet (first | (refine quiet_left (impl_size_int64 _ _ _ _)))
                        go_wp2
                        go_ret
                        exact ⟨ret_bool (by rw [R.out]; try (simp; omega)), bel_trans B0 (below_drewN G _)⟩
                      · have R := Lib.hid (show M.nodeOk (a0, a1, a2, xs) tb = false by rw [HM.out, HF.out, hlen.out, c1, c2]; simpa using c3)
                        skip
                        go_wp2_with fail
                        go_quiet (first | (refine quiet_left (impl_size_int64 _ _ _ _)))
                        go_wp2
                        go_ret
                        exact ⟨ret_bool (by rw [R.out]; try (simp; omega)), bel_trans B0 (below_drewN G _)⟩
                    · have R := Lib.hid (show M.nodeOk (a0, a1, a2, xs) tb = true by rw [HM.out, HF.out, hlen.out, c1]; simp [c2])
                      have d2 : (a0 != 13) = true := by simpa using c2
                      skip
                      go_wp2_with fail
                      go_quiet (first | (refine quiet_left (impl_size_int64 _ _ _ _)))
                      go_wp2
                      go_ret
                      exact ⟨ret_bool (by rw [R.out]; try (simp; omega)), bel_trans B0 (below_drewN G _)⟩
                  · have R := Lib.hid (show M.nodeOk (a0, a1, a2, xs) tb = false by rw [HM.out, HF.out, hlen.out]; simp [c1])
                    have d1 : ((n : Int) == ki) = false := by simpa using c1
                    skip
                    go_wp2_with fail
                    go_quiet (first | (refine quiet_left (impl_size_int64 _ _ _ _)))
                    go_wp2
                    go_ret
                    exact ⟨ret_bool (by rw [R.out]; try (simp; omega)), bel_trans B0 (below_drewN G _)⟩
            · have HB := Lib.hid (show M.bI (ki, lo, hi, li, false) a2 = false by rw [M.bI, if_neg (by simp)]; simpa using h2)
              have g2 : (a2 != 0) = true := by simpa using h2
              have R := Lib.hid (show M.nodeOk (a0, a1, a2, xs) tb = false by rw [HN.out, (HA.out _), HB.out]; try rfl)
              go_wp2_with (first | (go_at_call 147; refine (impl_kindOf_hasA _ _ _ _ _ _ _).mono ?_; rw [HL.out]; rintro e v5 ⟨rfl, bel5⟩; have s5 := bel5.size; replace e0 : v5.cell? ⟨g, 0, none⟩ = some (.string (M.kn j)) := (by rw [bel5.cell lg]; exact e0); replace e1 : v5.cell? ⟨g, 1, none⟩ = some (.int .i64 ki) := (by rw [bel5.cell lg]; exact e1); replace e2 : v5.cell? ⟨g, 2, none⟩ = some (.int .i64 lo) := (by rw [bel5.cell lg]; exact e2); replace e3 : v5.cell? ⟨g, 3, none⟩ = some (.int .i64 hi) := (by rw [bel5.cell lg]; exact e3); replace e4 : v5.cell? ⟨g, 4, none⟩ = some (.bool li) := (by rw [bel5.cell lg]; exact e4); replace e5 : v5.cell? ⟨g, 5, none⟩ = some (.bool false) := (by rw [bel5.cell lg]; exact e5); replace p0 : v5.cell? ⟨w.heap.size, 0, none⟩ = some (.int .i64 a0) := (by rw [bel5.cell lw]; exact p0); replace p1 : v5.cell? ⟨w.heap.size, 1, none⟩ = some (.int .i64 a1) := (by rw [bel5.cell lw]; exact p1); replace p2 : v5.cell? ⟨w.heap.size, 2, none⟩ = some (.int .i64 a2) := (by rw [bel5.cell lw]; exact p2); replace p3 : v5.cell? ⟨w.heap.size, 3, none⟩ = some (.slice A n c) := (by rw [bel5.cell lw]; exact p3); replace hx1 := hx1.later bel5; replace lg : g < v5.heap.size := (by omega); replace lw : w.heap.size < v5.heap.size := (by omega); replace G := bel_trans G bel5; clear bel5 s5) | (go_at_call 56; refine (impl_within _ _ _ _).mono ?_; rintro e w' ⟨rfl, rfl⟩))
              go_ret
              exact ⟨ret_bool (by rw [R.out]), bel_trans B0 G⟩
          · cases h2 : M.inn a2 1 16
            · have HB := Lib.hid (show M.bI (ki, lo, hi, li, true) a2 = false by rw [M.bI, if_pos rfl, h2])
              have R := Lib.hid (show M.nodeOk (a0, a1, a2, xs) tb = false by rw [HN.out, (HA.out _), HB.out]; try rfl)
              go_wp2_with (first | (go_at_call 147; refine (impl_kindOf_hasA _ _ _ _ _ _ _).mono ?_; rw [HL.out]; rintro e v5 ⟨rfl, bel5⟩; have s5 := bel5.size; replace e0 : v5.cell? ⟨g, 0, none⟩ = some (.string (M.kn j)) := (by rw [bel5.cell lg]; exact e0); replace e1 : v5.cell? ⟨g, 1, none⟩ = some (.int .i64 ki) := (by rw [bel5.cell lg]; exact e1); replace e2 : v5.cell? ⟨g, 2, none⟩ = some (.int .i64 lo) := (by rw [bel5.cell lg]; exact e2); replace e3 : v5.cell? ⟨g, 3, none⟩ = some (.int .i64 hi) := (by rw [bel5.cell lg]; exact e3); replace e4 : v5.cell? ⟨g, 4, none⟩ = some (.bool li) := (by rw [bel5.cell lg]; exact e4); replace e5 : v5.cell? ⟨g, 5, none⟩ = some (.bool true) := (by rw [bel5.cell lg]; exact e5); replace p0 : v5.cell? ⟨w.heap.size, 0, none⟩ = some (.int .i64 a0) := (by rw [bel5.cell lw]; exact p0); replace p1 : v5.cell? ⟨w.heap.size, 1, none⟩ = some (.int .i64 a1) := (by rw [bel5.cell lw]; exact p1); replace p2 : v5.cell? ⟨w.heap.size, 2, none⟩ = some (.int .i64 a2) := (by rw [bel5.cell lw]; exact p2); replace p3 : v5.cell? ⟨w.heap.size, 3, none⟩ = some (.slice A n c) := (by rw [bel5.cell lw]; exact p3); replace hx1 := hx1.later bel5; replace lg : g < v5.heap.size := (by omega); replace lw : w.heap.size < v5.heap.size := (by omega); replace G := bel_trans G bel5; clear bel5 s5) | (go_at_call 56; refine (impl_within _ _ _ _).mono ?_; rintro e w' ⟨rfl, rfl⟩))
              go_ret
              exact ⟨ret_bool (by rw [R.out]), bel_trans B0 G⟩
            · have HB := Lib.hid (show M.bI (ki, lo, hi, li, true) a2 = true by rw [M.bI, if_pos rfl, h2])
              have HM := Lib.hid (show M.nodeOk (a0, a1, a2, xs) tb = (xs.all M.from_ && decide ((xs.length : Int) = ki) && (decide (¬ a0 = 13) || decide (a1 < tb))) by rw [HN.out, (HA.out _), HB.out]; rfl)
              go_wp2_with (first | (go_at_call 147; refine (impl_kindOf_hasA _ _ _ _ _ _ _).mono ?_; rw [HL.out]; rintro e v5 ⟨rfl, bel5⟩; have s5 := bel5.size; replace e0 : v5.cell? ⟨g, 0, none⟩ = some (.string (M.kn j)) := (by rw [bel5.cell lg]; exact e0); replace e1 : v5.cell? ⟨g, 1, none⟩ = some (.int .i64 ki) := (by rw [bel5.cell lg]; exact e1); replace e2 : v5.cell? ⟨g, 2, none⟩ = some (.int .i64 lo) := (by rw [bel5.cell lg]; exact e2); replace e3 : v5.cell? ⟨g, 3, none⟩ = some (.int .i64 hi) := (by rw [bel5.cell lg]; exact e3); replace e4 : v5.cell? ⟨g, 4, none⟩ = some (.bool li) := (by rw [bel5.cell lg]; exact e4); replace e5 : v5.cell? ⟨g, 5, none⟩ = some (.bool true) := (by rw [bel5.cell lg]; exact e5); replace p0 : v5.cell? ⟨w.heap.size, 0, none⟩ = some (.int .i64 a0) := (by rw [bel5.cell lw]; exact p0); replace p1 : v5.cell? ⟨w.heap.size, 1, none⟩ = some (.int .i64 a1) := (by rw [bel5.cell lw]; exact p1); replace p2 : v5.cell? ⟨w.heap.size, 2, none⟩ = some (.int .i64 a2) := (by rw [bel5.cell lw]; exact p2); replace p3 : v5.cell? ⟨w.heap.size, 3, none⟩ = some (.slice A n c) := (by rw [bel5.cell lw]; exact p3); replace hx1 := hx1.later bel5; replace lg : g < v5.heap.size := (by omega); replace lw : w.heap.size < v5.heap.size := (by omega); replace G := bel_trans G bel5; clear bel5 s5) | (go_at_call 56; refine (impl_within _ _ _ _).mono ?_; rintro e w' ⟨rfl, rfl⟩))
              skip
              go_loop [7, 63] (fun _ i => ∃ k : Nat, i = .int .i64 k ∧ k ≤ n ∧ Hid (xs.all M.from_ = (xs.drop k).all M.from_)) (fun _ i => n - (intOf i).toNat)
              case atStart => exact ⟨0, rfl, by omega, Lib.hid (by simp)⟩
              case round =>
                obtain ⟨k, rfl, hk, H⟩ := hrel
                by_cases hlt : k < n
                · obtain ⟨ad, x, rfl, hab, X, hc⟩ := hx1.at hlt
                  have hd := Lib.hid (M.drop_at X.out)
                  cases hs : M.inn x 0 23
                  · have R := Lib.hid (show M.nodeOk (a0, a1, a2, xs) tb = false by rw [HM.out, H.out, hd.out, List.all_cons, M.from_, hs]; rfl)
                    go_wp2_with (go_at_call 56; refine (impl_within _ _ _ _).mono ?_; rintro e w' ⟨rfl, rfl⟩)
                    go_ret
                    exact ⟨ret_bool (by rw [R.out]), bel_trans B0 G⟩
                  · have R := Lib.hid (show xs.all M.from_ = (xs.drop (k + 1)).all M.from_ by rw [H.out, hd.out, List.all_cons, M.from_, hs]; rfl)
                    go_wp2_with (go_at_call 56; refine (impl_within _ _ _ _).mono ?_; rintro e w' ⟨rfl, rfl⟩)
                    go_round
                    case rel => exact ⟨k + 1, by go_num, by omega, R⟩
                    case measure => simp [intOf]; omega
                · have HF := Lib.hid (show xs.all M.from_ = true by rw [H.out, List.drop_eq_nil_of_le (by rw [hlen.out]; omega)]; rfl)
                  clear H
                  by_cases c1 : (n : Int) = ki
                  · by_cases c2 : a0 = 13
                    · have d1 : decide ((n : Int) = ki) = true := by simpa using c1
                      have d2 : (a0 != 13) = false := by simp [c2]
                      by_cases c3 : a1 < tb
                      · have R := Lib.hid (show M.nodeOk (a0, a1, a2, xs) tb = true by rw [HM.out, HF.out, hlen.out, c1, c2]; simpa using c3)
                        skip
                        go_wp2_with fail
                        go_quiet (first | (refine quiet_left (impl_size_int64 _ _ _ _)))
                        go_wp2
                        go_ret
                        exact ⟨ret_bool (by rw [R.out]; try (simp; omega)), bel_trans B0 (below_drewN G _)⟩
                      · have R := Lib.hid (show M.nodeOk (a0, a1, a2, xs) tb = false by rw [HM.out, HF.out, hlen.out, c1, c2]; simpa using c3)
                        skip
                        go_wp2_with fail
                        go_quiet (first | (refine quiet_left (impl_size_int64 _ _ _ _)))
                        go_wp2
                        go_ret
                        exact ⟨ret_bool (by rw [R.out]; try (simp; omega)), bel_trans B0 (below_drewN G _)⟩
                    · have R := Lib.hid (show M.nodeOk (a0, a1, a2, xs) tb = true by rw [HM.out, HF.out, hlen.out, c1]; simp [c2])
                      have d2 : (a0 != 13) = true := by simpa using c2
                      skip
                      go_wp2_with fail
                      go_quiet (first | (refine quiet_left (impl_size_int64 _ _ _ _)))
                      go_wp2
                      go_ret
                      exact ⟨ret_bool (by rw [R.out]; try (simp; omega)), bel_trans B0 (below_drewN G _)⟩
                  · have R := Lib.hid (show M.nodeOk (a0, a1, a2, xs) tb = false by rw [HM.out, HF.out, hlen.out]; simp [c1])
                    have d1 : ((n : Int) == ki) = false := by simpa using c1
                    skip
                    go_wp2_with fail
                    go_quiet (first | (refine quiet_left (impl_size_int64 _ _ _ _)))
                    go_wp2
                    go_ret
                    exact ⟨ret_bool (by rw [R.out]; try (simp; omega)), bel_trans B0 (below_drewN G _)⟩
        · have HA := Lib.hid (show M.aI (ki, lo, hi, li, hb) a1 = false by rw [M.aI, if_neg hle]; simpa using h1)
          have g1 : (a1 != 0) = true := by simpa using h1
          have R := Lib.hid (show M.nodeOk (a0, a1, a2, xs) tb = false by rw [HN.out, HA.out]; try rfl)
          go_wp2_with (first | (go_at_call 147; refine (impl_kindOf_hasA _ _ _ _ _ _ _).mono ?_; rw [HL.out]; rintro e v5 ⟨rfl, bel5⟩; have s5 := bel5.size; replace e0 : v5.cell? ⟨g, 0, none⟩ = some (.string (M.kn j)) := (by rw [bel5.cell lg]; exact e0); replace e1 : v5.cell? ⟨g, 1, none⟩ = some (.int .i64 ki) := (by rw [bel5.cell lg]; exact e1); replace e2 : v5.cell? ⟨g, 2, none⟩ = some (.int .i64 lo) := (by rw [bel5.cell lg]; exact e2); replace e3 : v5.cell? ⟨g, 3, none⟩ = some (.int .i64 hi) := (by rw [bel5.cell lg]; exact e3); replace e4 : v5.cell? ⟨g, 4, none⟩ = some (.bool li) := (by rw [bel5.cell lg]; exact e4); replace e5 : v5.cell? ⟨g, 5, none⟩ = some (.bool hb) := (by rw [bel5.cell lg]; exact e5); replace p0 : v5.cell? ⟨w.heap.size, 0, none⟩ = some (.int .i64 a0) := (by rw [bel5.cell lw]; exact p0); replace p1 : v5.cell? ⟨w.heap.size, 1, none⟩ = some (.int .i64 a1) := (by rw [bel5.cell lw]; exact p1); replace p2 : v5.cell? ⟨w.heap.size, 2, none⟩ = some (.int .i64 a2) := (by rw [bel5.cell lw]; exact p2); replace p3 : v5.cell? ⟨w.heap.size, 3, none⟩ = some (.slice A n c) := (by rw [bel5.cell lw]; exact p3); replace hx1 := hx1.later bel5; replace lg : g < v5.heap.size := (by omega); replace lw : w.heap.size < v5.heap.size := (by omega); replace G := bel_trans G bel5; clear bel5 s5) | (go_at_call 56; refine (impl_within _ _ _ _).mono ?_; rintro e w' ⟨rfl, rfl⟩))
          go_ret
          exact ⟨ret_bool (by rw [R.out]), bel_trans B0 G⟩
end Go.Proofs.YtfkcoiefkjmdeaaGreat
namespace Go.Proofs.YtfkcoiefkjmdeaaGreat
open Go.RowKit Go.Sort
set_option maxHeartbeats 4000000
set_option maxRecDepth 100000
set_option linter.unusedVariables false
set_option linter.unusedSimpArgs false
set_option synthInstance.maxSize 2000
set_option synthInstance.maxHeartbeats 400000
theorem impl_size_impl_Node (A : Option Addr) (n c : Nat) (w : World) : Calls Tryz.prog 131 #[.slice A n c] w fun e w' => e = .returned (.int .i64 n) ∧ w = w' := by
  go_enter Tryz.func131, Tryz.ntmps131
  go_wp2
  go_ret
  exact ⟨rfl, rfl⟩
theorem impl_waitsFor (a0 a1 a2 : Int) (A : Option Addr) (c : Nat) (xs : List Int) (w : World) (hx : RI w w.heap.size A xs.length xs) :
    Calls Tryz.prog 137 #[.agg #[.int .i64 a0, .int .i64 a1, .int .i64 a2, .slice A xs.length c]] w fun e w' => ∃ A' c', e = .returned (.slice A' (M.waits (a0, a1, a2, xs)).length c') ∧ RI w' w'.heap.size A' (M.waits (a0, a1, a2, xs)).length (M.waits (a0, a1, a2, xs)) ∧ Below w.heap.size w w' := by
  obtain ⟨W, hW⟩ : ∃ W, W = w.alloc (.cells #[.int .i64 a0, .int .i64 a1, .int .i64 a2, .slice A xs.length c] 122) := ⟨_, rfl⟩
  have B0 : Below w.heap.size w W := by rw [hW]; exact (Below.refl _ _).alloc (Nat.le_refl _) _
  have p0 : W.cell? ⟨w.heap.size, 0, none⟩ = some (.int .i64 a0) := by rw [hW]; simp [go_sem]
  have p3 : W.cell? ⟨w.heap.size, 3, none⟩ = some (.slice A xs.length c) := by rw [hW]; simp [go_sem]
  have hx1 := hx.later B0
  have HU := Lib.hid hW
  clear hW
  by_cases h : a0 = 6
  · have HW := Lib.hid (show M.waits (a0, a1, a2, xs) = [] by rw [M.waits, if_pos h])
    rw [HW.out]
    subst h
    go_enter Tryz.func137, Tryz.ntmps137
    go_wp2_with fail
    try rw [← HU.out]
    go_ret
    exact ⟨_, _, rfl, RI.nil _ _ _, B0⟩
  · have HW := Lib.hid (show M.waits (a0, a1, a2, xs) = xs by rw [M.waits, if_neg h])
    rw [HW.out]
    have g : (a0 == 6) = false := by simpa using h
    go_enter Tryz.func137, Tryz.ntmps137
    go_wp2_with fail
    try rw [← HU.out]
    go_wp2_with fail
    go_ret
    exact ⟨_, _, rfl, hx1, B0⟩
def ebl (b : Bool) : List Value := [.bool b]
theorem ebl_len (b : Bool) : (ebl b).length = 1 := rfl
theorem ei_bl : EI Tryz.prog 171 4 (.bool false) 1 1 := ⟨Tryz.underlying171, by kernel_rfl, rfl, by decide⟩
/-- The marks of the nodes that an order holds. -/
def M.tk (n : Nat) (O : List Int) : List Bool := (List.range n).map fun (i : Nat) => M.mem O (i : Int)
theorem M.tk_at {n : Nat} {O : List Int} {k : Nat} (h : k < n) : (M.tk n O)[k]? = some (M.mem O (k : Int)) := by simp [M.tk, h]
theorem M.tk_set {n : Nat} {O : List Int} {k : Nat} : (M.tk n O).set k true = M.tk n (O ++ [(k : Int)]) := by
  apply List.ext_getElem (by simp [M.tk])
  intro i h1 h2
  have hi : i < n := by simpa [M.tk] using h2
  by_cases hik : k = i
  · subst hik
    simp [M.tk, M.mem_app]
  · rw [List.getElem_set_ne hik]
    simp only [M.tk, List.getElem_map, List.getElem_range, M.mem_app]
    rw [show decide ((k : Int) = (i : Int)) = false by simp; omega, Bool.or_false]
theorem M.tk_nil (n : Nat) : M.tk n [] = List.replicate n false := by
  apply List.ext_getElem (by simp [M.tk])
  intro i h1 h2
  simp [M.tk, M.mem_nil]
def bN : Value → Nat
  | .bool true => 1
  | _ => 0
theorem impl_order (a0 : Int) (A1 : Option Addr) (n1 c1 : Nat) (A2 : Option Addr) (n2 c2 : Nat) (A3 : Option Addr) (n3 c3 : Nat) (ns : List Node) (w : World) (hx : RS tN w w.heap.size (.slice A2 n2 c2) ns) (hb : hNS.sz ns ≤ 100000000)
    (hid : Hid (∀ x ∈ ns, ∀ f ∈ x.2.2.2, M.idx n2 f = true)) :
    Calls Tryz.prog 119 #[.agg #[.int .i64 a0, .slice A1 n1 c1, .slice A2 n2 c2, .slice A3 n3 c3]] w (Ret1 2 w (M.ord ns)) := by
  have hl := Lib.hid hx.cap.1
  have hnb : n2 ≤ 100000000 := by have e : ns.length + hN.szL ns = hNS.sz ns := rfl; have := hl.out; omega
  obtain ⟨W, hW⟩ : ∃ W, W = w.alloc (.cells #[.int .i64 a0, .slice A1 n1 c1, .slice A2 n2 c2, .slice A3 n3 c3] 36) := ⟨_, rfl⟩
  have B0 : Below w.heap.size w W := by rw [hW]; exact (Below.refl _ _).alloc (Nat.le_refl _) _
  have p2 : W.cell? ⟨w.heap.size, 2, none⟩ = some (.slice A2 n2 c2) := by rw [hW]; simp [go_sem]
  have lW : w.heap.size < W.heap.size := by rw [hW]; simp
  have HW := Lib.hid hW
  clear hW
  go_enter Tryz.func119, Tryz.ntmps119
  go_wp2_with (at_make; rw [← HW.out]; refine wpList_mk ei_bl rfl _ _ rfl n2 _ _ rfl rfl rfl rfl (by omega) (by unfold maxLen; omega) ?_; intro w1 own1 bel1)
  have hs1 : W.heap.size < w1.heap.size := (World.ownsRow.lt own1 _ rfl).2
  have owt : OA ebl 4 1 W.heap.size (W.heap.size + 1) w1 (.slice (some ⟨W.heap.size, 0, none⟩) n2 n2) (M.tk n2 []) := by
    rw [M.tk_nil]
    exact OA.made ebl_len (by decide) rfl own1 (fun k hk => by simp only [Value.ownBlock, Option.some.injEq] at hk; omega)
  have q2 : w1.cell? ⟨w.heap.size, 2, none⟩ = some (.slice A2 n2 c2) := by rw [bel1.cell (by show w.heap.size < W.heap.size; omega)]; exact p2
  have B1 := bel_trans B0 bel1
  have O0 : OI 2 w1.heap.size (w1.alloc (.cells #[] 2)) (.slice (some ⟨w1.heap.size, 0, none⟩) 0 0) [] := OI.made _ w1
  have B2 : Below w.heap.size w (w1.alloc (.cells #[] 2)) := B1.alloc B1.size _
  have M2 : Below w1.heap.size w1 (w1.alloc (.cells #[] 2)) := (Below.refl _ _).alloc (Nat.le_refl _) _
  have owt2 := owt.below M2 (by omega)
  have q22 : (w1.alloc (.cells #[] 2)).cell? ⟨w.heap.size, 2, none⟩ = some (.slice A2 n2 c2) := by rw [M2.cell (by show w.heap.size < w1.heap.size; omega)]; exact q2
  have hz2 : w1.heap.size ≤ (w1.alloc (.cells #[] 2)).heap.size := M2.size
  clear own1 bel1 p2 owt q2 M2
  go_loopw [4, 5] (fun v f wr => ∃ (t : Nat) (O : List Int), t ≤ n2 ∧ Hid (O = M.ordN ns t) ∧ Hid (O.length = t) ∧ OI 2 w1.heap.size wr v O ∧ OA ebl 4 1 W.heap.size (W.heap.size + 1) wr (.slice (some ⟨W.heap.size, 0, none⟩) n2 n2) (M.tk n2 O) ∧ Below w.heap.size w wr ∧ wr.cell? ⟨w.heap.size, 2, none⟩ = some (.slice A2 n2 c2) ∧ w1.heap.size ≤ wr.heap.size ∧ (f = .bool true ∨ (f = .bool false ∧ Hid (M.ord ns = O)))) (fun v f _ => 2 * (n2 - slLen v) + bN f)
  case atStart => exact ⟨0, [], by omega, Lib.hid rfl, Lib.hid rfl, O0, owt2, B2, q22, hz2, .inl rfl⟩
  case round =>
    obtain ⟨t, O, ht, HO, HL, own, owk, Bw, r2, hwz, hor⟩ := hrel
    obtain ⟨A5, c5, rfl, hri⟩ := own.shape
    rw [HL.out] at own hri ⊢
    rcases hor with rfl | ⟨rfl, HR⟩
    · go_wp2_with fail
      obtain ⟨wo, rfl⟩ : ∃ wo : World, wo = wr := ⟨_, rfl⟩
      go_loopw [4, 5, 20] (fun v f i wr => ∃ k : Nat, v = .slice A5 t c5 ∧ f = .bool false ∧ i = .int .i64 k ∧ k ≤ n2 ∧ Hid (∀ j, j < k → M.rdy ns O j = false) ∧ Below wo.heap.size wo wr) (fun _ _ i _ => n2 - (intOf i).toNat)
      case atStart => exact ⟨0, rfl, rfl, rfl, by omega, Lib.hid (by omega), Below.refl _ _⟩
      case round =>
        obtain ⟨k, rfl, rfl, rfl, hk, H, Bo⟩ := hrel
        have BB := bel_trans Bw Bo
        have lo0 : w.heap.size < wo.heap.size := by omega
        by_cases hlt : k < n2
        · obtain ⟨bb, o1, b0, b1, b2, A6, c6, x3, rfl, hbb, X, e0, e1, e2, e3, hr3, h3b⟩ := node_cell (hx.below BB) hb hlt
          have hrdy := Lib.hid (M.rdy_at (out := O) X.out)
          obtain ⟨U, hU⟩ : ∃ U, U = wr.alloc (.cells #[.int .i64 b0, .int .i64 b1, .int .i64 b2, .slice A6 x3.length c6] 122) := ⟨_, rfl⟩
          have GU : Below wr.heap.size wr U := by rw [hU]; exact (Below.refl _ _).alloc (Nat.le_refl _) _
          have u0 : U.cell? ⟨wr.heap.size, 0, none⟩ = some (.int .i64 b0) := by rw [hU, cell_of_row _ wr.heap.size 0 _ 122 (0, 0) (heap_alloc_new wr _)]; rfl
          have u1 : U.cell? ⟨wr.heap.size, 1, none⟩ = some (.int .i64 b1) := by rw [hU, cell_of_row _ wr.heap.size 1 _ 122 (0, 0) (heap_alloc_new wr _)]; rfl
          have u2 : U.cell? ⟨wr.heap.size, 2, none⟩ = some (.int .i64 b2) := by rw [hU, cell_of_row _ wr.heap.size 2 _ 122 (0, 0) (heap_alloc_new wr _)]; rfl
          have u3 : U.cell? ⟨wr.heap.size, 3, none⟩ = some (.slice A6 x3.length c6) := by rw [hU, cell_of_row _ wr.heap.size 3 _ 122 (0, 0) (heap_alloc_new wr _)]; rfl
          have HU := Lib.hid hU
          clear hU
          have BoU := bel_trans Bo GU
          have hrx := (hr3.more BB.size).later GU
          have owU := (owk.below BoU (by omega))
          have tc := (OA.cell ebl_len (owk.below Bo (by omega)) (M.tk_at (O := O) hlt) (j := 0) rfl).1
          rw [Nat.mul_one, Nat.add_zero] at tc
          have lWr : W.heap.size < wr.heap.size := by have := Bo.size; omega
          have HF := Lib.hid (fun f (hf : f ∈ M.waits (b0, b1, b2, x3)) => M.inn_iff.1 (hid.out _ (List.mem_of_getElem? X.out) f (by
            rw [M.waits] at hf
            split at hf
            · cases hf
            · exact hf)))
          have hwl : (M.waits (b0, b1, b2, x3)).length ≤ 1000000000 := by unfold M.waits; split <;> simp <;> omega
          have HK := Lib.hid (show M.node ns k = (b0, b1, b2, x3) by rw [M.node, X.out]; rfl)
          generalize hws : M.waits (b0, b1, b2, x3) = ws at hrdy HF hwl
          have HWS := Lib.hid hws
          clear hws
          have hk0 : (0 : Int) ≤ (k : Int) := by omega
          have hkn : (k : Int) < (n2 : Int) := by omega
          go_wp2_with fail
          rw [← HU.out]
          refine (impl_waitsFor _ _ _ _ _ _ U hrx).mono ?_
          rw [HWS.out]
          rintro e w4 ⟨A7, c7, rfl, hr7, bel4⟩
          have ow4 := owU.below bel4 (by have := BoU.size; omega)
          go_wp2_with fail
          go_loop [8, 33] (fun r i => ∃ (q : Nat) (b : Bool), i = .int .i64 q ∧ q ≤ ws.length ∧ r = .bool b ∧ Hid ((!M.mem O k && ws.all (M.mem O)) = (b && (ws.drop q).all (M.mem O)))) (fun _ i => ws.length - (intOf i).toNat)
          case atStart => exact ⟨0, _, rfl, by omega, rfl, Lib.hid (by simp)⟩
          case round =>
            obtain ⟨q, b, rfl, hq, rfl, HQ⟩ := hrel
            by_cases hlt2 : q < ws.length
            · obtain ⟨ad, f, rfl, hab, Y, hc⟩ := hr7.at hlt2
              have hd := Lib.hid (M.drop_at Y.out)
              have hfb := HF.out f (List.mem_of_getElem? Y.out)
              obtain ⟨m, rfl⟩ : ∃ m : Nat, f = (m : Int) := ⟨f.toNat, by omega⟩
              have hm : m < n2 := by omega
              have tm := (OA.cell ebl_len ow4 (M.tk_at (O := O) hm) (j := 0) rfl).1
              rw [Nat.mul_one, Nat.add_zero] at tm
              have hm0 : (0 : Int) ≤ (m : Int) := by omega
              have hmn : (m : Int) < (n2 : Int) := by omega
              cases b
              · have R := Lib.hid (show (!M.mem O k && ws.all (M.mem O)) = (false && (ws.drop (q + 1)).all (M.mem O)) by rw [HQ.out, Bool.false_and, Bool.false_and])
                go_wp2
                go_round
                case rel => exact ⟨q + 1, false, by go_num, by omega, rfl, R⟩
                case measure => simp [intOf]; omega
              · have R := Lib.hid (show (!M.mem O k && ws.all (M.mem O)) = (M.mem O m && (ws.drop (q + 1)).all (M.mem O)) by rw [HQ.out, hd.out, List.all_cons, Bool.true_and])
                go_wp2
                go_round
                case rel => exact ⟨q + 1, _, by go_num, by omega, rfl, R⟩
                case measure => simp [intOf]; omega
            · have HB := Lib.hid (show M.rdy ns O k = b by rw [hrdy.out, HQ.out, List.drop_eq_nil_of_le (by omega)]; simp)
              have B4 := bel_trans BoU bel4
              have BW4 := bel_trans Bw B4
              cases b
              · go_wp2
                go_roundw
                case rel => exact ⟨k + 1, rfl, rfl, by go_num, by omega, Lib.hid (fun j hj => by rcases Nat.lt_succ_iff_lt_or_eq.1 hj with h | h; exact H.out j h; rw [h]; exact HB.out), B4⟩
                case measure => simp [intOf]; omega
              · have HN := Lib.hid (show O ++ [(k : Int)] = M.ordN ns (t + 1) by
                  have e := M.next_some (ns := ns) (out := O) (i := k) (by rw [hl.out]; exact hlt) HB.out H.out
                  rw [M.ordN_some (i := k) (by rw [← HO.out]; exact e), ← HO.out])
                have HL2 := Lib.hid (show (O ++ [(k : Int)]).length = t + 1 by rw [List.length_append, HL.out]; rfl)
                have htn : t + 1 ≤ n2 := by
                  have := M.ordN_le ns (t + 1)
                  rw [← HN.out, HL2.out, hl.out] at this
                  exact this
                have tkk := (OA.cell ebl_len ow4 (M.tk_at (O := O) hlt) (j := 0) rfl)
                rw [Nat.mul_one, Nat.add_zero] at tkk
                have tk1 := tkk.1
                have tk2 := tkk.2
                obtain ⟨ows, ms⟩ := OA.set ebl_len ow4 (M.tk_at (O := O) hlt) (j := 0) (y := true) (u := .bool true) (by decide) rfl
                rw [show k * 1 + 0 = k by omega, M.tk_set] at ows
                rw [show k * 1 + 0 = k by omega] at ms
                have own4 := own.below B4
                have own5 : OI 2 w1.heap.size (w4.setCell ⟨W.heap.size, k, none⟩ (.bool true)) (.slice A5 t c5) O := by
                  unfold OI at own4 ⊢
                  exact World.ownsRow.kept own4 (grown_setCell _ _ _ _) (by
                    cases hv : (Value.slice A5 t c5).ownBlock with
                    | none => exact .inl rfl
                    | some g =>
                      refine .inr fun e => ?_
                      injection e with e
                      have := (World.ownsRow.lt own4 g hv).1
                      omega)
                have BS : Below w.heap.size w4 (w4.setCell ⟨W.heap.size, k, none⟩ (.bool true)) := (ms.toBelow (by have := B4.size; omega)).mono (by omega)
                have r5 : (w4.setCell ⟨W.heap.size, k, none⟩ (.bool true)).cell? ⟨w.heap.size, 2, none⟩ = some (.slice (some ⟨bb, o1, none⟩) n2 c2) := by
                  rw [(ms.toBelow (by have := B4.size; omega)).cell (p := ⟨w.heap.size, 2, none⟩) (by show w.heap.size < W.heap.size; omega), B4.cell (p := ⟨w.heap.size, 2, none⟩) lo0]
                  exact r2
                have hOl : O.length ≤ t := by rw [HL.out]; omega
                have hOl2 : t ≤ O.length := by rw [HL.out]; omega
                have hz5 : w1.heap.size ≤ (w4.setCell ⟨W.heap.size, k, none⟩ (.bool true)).heap.size := by have := B4.size; simp; omega
                obtain ⟨V, hV⟩ : ∃ V, V = w4.setCell ⟨W.heap.size, k, none⟩ (.bool true) := ⟨_, rfl⟩
                have HV := Lib.hid hV
                have hvz : V.heap.size = w4.heap.size := by rw [hV]; simp
                rw [← hV] at ows own5 BS r5 hz5
                clear hV ms own4
                go_wp2_with (at_builtin; rw [← HV.out]; refine wpList_push1 ei_i64 rfl _ _ rfl own5 rfl (by rw [hvz]; rfl) rfl (by unfold maxLen; omega) (by omega) hz5 ?_; intro v1 w6 own6 gr6 bel6)
                go_roundw
                case rel => exact ⟨t + 1, O ++ [(k : Int)], htn, HN, HL2, OI.push own6, (ows.same (fun b h1 h2 => bel6.block b (by omega))), (BW4.trans BS).trans (bel6.mono (by omega)), by rw [bel6.cell (p := ⟨w.heap.size, 2, none⟩) (by show w.heap.size < w1.heap.size; omega)]; exact r5, by have := bel6.size; omega, .inl rfl⟩
                case measure => obtain ⟨A9, c9, rfl, -⟩ := (OI.push own6).shape; rw [HL2.out]; simp [slLen, bN]; omega
        · have hno := M.next_none (ns := ns) (out := O) (fun j hj => H.out j (by rw [hl.out] at hj; omega))
          have HR := Lib.hid (show M.ord ns = O by rw [HO.out]; exact M.ord_end (by rw [hl.out]; exact ht) (by rw [← HO.out]; exact hno))
          have r3 : wr.cell? ⟨w.heap.size, 2, none⟩ = some (.slice A2 n2 c2) := by rw [Bo.cell (p := ⟨w.heap.size, 2, none⟩) lo0]; exact r2
          have own3 := own.below Bo
          have owk3 := owk.below Bo (by omega)
          have hz3 := Bo.size
          clear hno
          go_wp2
          go_roundw
          case rel => exact ⟨t, O, ht, HO, HL, own3, owk3, BB, r3, by omega, .inr ⟨rfl, HR⟩⟩
          case measure => simp [slLen, bN]
    · go_wp2
      go_ret
      rw [HR.out]
      rw [← HL.out] at own ⊢
      exact ⟨_, rfl, own.base (by omega), Bw⟩
end Go.Proofs.YtfkcoiefkjmdeaaGreat
