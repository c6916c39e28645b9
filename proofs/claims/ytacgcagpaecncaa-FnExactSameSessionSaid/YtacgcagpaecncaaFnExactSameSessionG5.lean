import Derived.Test.YtacgcagpaecncaaFnExactSameSessionG4
import Derived.Lib.QuietBelow
import Derived.Test.YtacgcagpaecncaaFnExactSameSessionG2
import Derived.Lib.Strings
set_option linter.unusedVariables false
set_option linter.unusedSimpArgs false
namespace Go.Proofs.Ytacgcagpaecncaa
open Go.RowKit Go.Sort
set_option maxHeartbeats 4000000
set_option maxRecDepth 100000
set_option synthInstance.maxSize 2000
set_option synthInstance.maxHeartbeats 400000
theorem impl_SamePatch (a0 b0 : Int) (A1 : Option Addr) (n1 c1 : Nat) (B1 : Option Addr) (m1 d1 : Nat) (A2 : Option Addr) (n2 c2 : Nat) (B2 : Option Addr) (m2 d2 : Nat) (A3 : Option Addr) (n3 c3 : Nat) (B3 : Option Addr) (m3 d3 : Nat) (x1 y1 : List (List Int)) (x2 y2 : List Node) (x3 y3 : List Int) (w : World) (h1 : tSS.R w w.heap.size [.slice A1 n1 c1] x1) (k1 : tSS.R w w.heap.size [.slice B1 m1 d1] y1) (h2 : tNS.R w w.heap.size [.slice A2 n2 c2] x2) (k2 : tNS.R w w.heap.size [.slice B2 m2 d2] y2) (h3 : tS.R w w.heap.size [.slice A3 n3 c3] x3) (k3 : tS.R w w.heap.size [.slice B3 m3 d3] y3) (hn : hP.sz ((a0, x1, x2, x3) : Patch) ≤ 100000000) (hn2 : hP.sz ((b0, y1, y2, y3) : Patch) ≤ 100000000) :
    Calls Try.prog 27 #[.agg #[.int .i64 a0, .slice A1 n1 c1, .slice A2 n2 c2, .slice A3 n3 c3], .agg #[.int .i64 b0, .slice B1 m1 d1, .slice B2 m2 d2, .slice B3 m3 d3]] w fun e w' => e = .returned (.bool (decide (((a0, x1, x2, x3) : Patch) = (b0, y1, y2, y3)))) ∧ Below w.heap.size w w' := by
  obtain ⟨W, hW⟩ : ∃ W, W = (w.alloc (.cells #[.int .i64 a0, .slice A1 n1 c1, .slice A2 n2 c2, .slice A3 n3 c3] 56)).alloc (.cells #[.int .i64 b0, .slice B1 m1 d1, .slice B2 m2 d2, .slice B3 m3 d3] 56) := ⟨_, rfl⟩
  have B0 : Below w.heap.size w W := by rw [hW]; exact ((Below.refl _ _).alloc (Nat.le_refl _) _).alloc (by simp) _
  have p0 : W.cell? ⟨w.heap.size, 0, none⟩ = some (.int .i64 a0) := by rw [hW]; simp [go_sem]
  have q0 : W.cell? ⟨w.heap.size + 1, 0, none⟩ = some (.int .i64 b0) := by rw [hW]; simp [go_sem]
  have p1 : W.cell? ⟨w.heap.size, 1, none⟩ = some (.slice A1 n1 c1) := by rw [hW]; simp [go_sem]
  have q1 : W.cell? ⟨w.heap.size + 1, 1, none⟩ = some (.slice B1 m1 d1) := by rw [hW]; simp [go_sem]
  have p2 : W.cell? ⟨w.heap.size, 2, none⟩ = some (.slice A2 n2 c2) := by rw [hW]; simp [go_sem]
  have q2 : W.cell? ⟨w.heap.size + 1, 2, none⟩ = some (.slice B2 m2 d2) := by rw [hW]; simp [go_sem]
  have p3 : W.cell? ⟨w.heap.size, 3, none⟩ = some (.slice A3 n3 c3) := by rw [hW]; simp [go_sem]
  have q3 : W.cell? ⟨w.heap.size + 1, 3, none⟩ = some (.slice B3 m3 d3) := by rw [hW]; simp [go_sem]
  have lx : w.heap.size + 1 < W.heap.size := by rw [hW]; simp
  have HW := Lib.hid hW
  have r1 := tSS.later h1 B0
  have s1 := tSS.later k1 B0
  have X1 := Lib.hid (sl_R.1 h1).cap.1
  have Y1 := Lib.hid (sl_R.1 k1).cap.1
  have r2 := tNS.later h2 B0
  have s2 := tNS.later k2 B0
  have X2 := Lib.hid (sl_R.1 h2).cap.1
  have Y2 := Lib.hid (sl_R.1 k2).cap.1
  have r3 := tS.later h3 B0
  have s3 := tS.later k3 B0
  have X3 := Lib.hid (sl_R.1 h3).cap.1
  have Y3 := Lib.hid (sl_R.1 k3).cap.1
  rw [hP_sz] at hn hn2
  have z1 : hSS.sz x1 ≤ 100000000 := by omega
  have v1 : hSS.sz y1 ≤ 100000000 := by omega
  have bn1 : n1 ≤ 100000000 := by have e : x1.length + hS.szL x1 = hSS.sz x1 := rfl; have := X1.out; omega
  have z2 : hNS.sz x2 ≤ 100000000 := by omega
  have v2 : hNS.sz y2 ≤ 100000000 := by omega
  have bn2 : n2 ≤ 100000000 := by have e : x2.length + hN.szL x2 = hNS.sz x2 := rfl; have := X2.out; omega
  have z3 : hS.sz x3 ≤ 100000000 := by omega
  have v3 : hS.sz y3 ≤ 100000000 := by omega
  have bn3 : n3 ≤ 100000000 := by have e : x3.length + hI.szL x3 = hS.sz x3 := rfl; have := X3.out; omega
  clear hW hn hn2 h1 k1 h2 k2 h3 k3
  by_cases e0 : ¬ a0 = b0
  · have g0 : (a0 != b0) = true := by simpa using e0
    have R := Lib.hid (show decide (((a0, x1, x2, x3) : Patch) = (b0, y1, y2, y3)) = false by rw [decide_eq_false_iff_not]; intro e; simp only [Prod.mk.injEq] at e; exact e0 e.1)
    go_enter Try.func27, Try.ntmps27
    go_wp2_with fail
    try rw [← HW.out]
    go_ret
    exact ⟨ret_bool (by rw [R.out]), B0⟩
  replace e0 : a0 = b0 := Decidable.not_not.1 e0
  subst e0
  go_enter Try.func27, Try.ntmps27
  go_wp2_with fail
  rw [← HW.out]
  by_cases e1 : ¬ x1 = y1
  · have HD := Lib.hid (decide_eq_false e1)
    have R := Lib.hid (show decide (((a0, x1, x2, x3) : Patch) = (a0, y1, y2, y3)) = false by rw [decide_eq_false_iff_not]; intro e; simp only [Prod.mk.injEq] at e; exact e1 e.2.1)
    refine (impl_sameAll _ _ _ _ _ _ _ _ _ r1 s1 z1).mono ?_
    rw [HD.out]
    rintro e u1 ⟨rfl, bel1⟩
    go_wp2
    go_ret
    exact ⟨ret_bool (by rw [R.out]), bel_trans B0 bel1⟩
  replace e1 : x1 = y1 := Decidable.not_not.1 e1
  have E1 := Lib.hid e1
  have HD1 := Lib.hid (decide_eq_true e1)
  clear e1
  refine (impl_sameAll _ _ _ _ _ _ _ _ _ r1 s1 z1).mono ?_
  rw [HD1.out]
  rintro e w1 ⟨rfl, bel1⟩
  have lx_w1 := Nat.lt_of_lt_of_le lx bel1.size
  have B_w1 := bel_trans B0 bel1
  have p0_w1 : w1.cell? ⟨w.heap.size, 0, none⟩ = some (.int .i64 a0) := by rw [bel1.cell (by show w.heap.size < _; have := lx; omega)]; exact p0
  have q0_w1 : w1.cell? ⟨w.heap.size + 1, 0, none⟩ = some (.int .i64 a0) := by rw [bel1.cell (by show w.heap.size + 1 < _; have := lx; omega)]; exact q0
  have p1_w1 : w1.cell? ⟨w.heap.size, 1, none⟩ = some (.slice A1 n1 c1) := by rw [bel1.cell (by show w.heap.size < _; have := lx; omega)]; exact p1
  have q1_w1 : w1.cell? ⟨w.heap.size + 1, 1, none⟩ = some (.slice B1 m1 d1) := by rw [bel1.cell (by show w.heap.size + 1 < _; have := lx; omega)]; exact q1
  have p2_w1 : w1.cell? ⟨w.heap.size, 2, none⟩ = some (.slice A2 n2 c2) := by rw [bel1.cell (by show w.heap.size < _; have := lx; omega)]; exact p2
  have q2_w1 : w1.cell? ⟨w.heap.size + 1, 2, none⟩ = some (.slice B2 m2 d2) := by rw [bel1.cell (by show w.heap.size + 1 < _; have := lx; omega)]; exact q2
  have p3_w1 : w1.cell? ⟨w.heap.size, 3, none⟩ = some (.slice A3 n3 c3) := by rw [bel1.cell (by show w.heap.size < _; have := lx; omega)]; exact p3
  have q3_w1 : w1.cell? ⟨w.heap.size + 1, 3, none⟩ = some (.slice B3 m3 d3) := by rw [bel1.cell (by show w.heap.size + 1 < _; have := lx; omega)]; exact q3
  have r1_w1 := tSS.later r1 bel1
  have s1_w1 := tSS.later s1 bel1
  have r2_w1 := tNS.later r2 bel1
  have s2_w1 := tNS.later s2 bel1
  have r3_w1 := tS.later r3 bel1
  have s3_w1 := tS.later s3 bel1
  clear p0 q0 p1 q1 p2 q2 p3 q3 r1 s1 r2 s2 r3 s3
  go_wp2_with fail
  by_cases e3 : ¬ x3 = y3
  · have HD := Lib.hid (decide_eq_false e3)
    have R := Lib.hid (show decide (((a0, x1, x2, x3) : Patch) = (a0, y1, y2, y3)) = false by rw [decide_eq_false_iff_not]; intro e; simp only [Prod.mk.injEq] at e; exact e3 e.2.2.2)
    refine (impl_same _ _ _ _ _ _ _ _ _ (tS_R.1 r3_w1).ri (tS_R.1 s3_w1).ri (by omega)).mono ?_
    rw [HD.out]
    rintro e u1 ⟨rfl, bel1⟩
    go_wp2
    go_ret
    exact ⟨ret_bool (by rw [R.out]), bel_trans B_w1 bel1⟩
  replace e3 : x3 = y3 := Decidable.not_not.1 e3
  have E3 := Lib.hid e3
  have HD2 := Lib.hid (decide_eq_true e3)
  clear e3
  refine (impl_same _ _ _ _ _ _ _ _ _ (tS_R.1 r3_w1).ri (tS_R.1 s3_w1).ri (by omega)).mono ?_
  rw [HD2.out]
  rintro e w2 ⟨rfl, bel2⟩
  have lx_w2 := Nat.lt_of_lt_of_le lx_w1 bel2.size
  have B_w2 := bel_trans B_w1 bel2
  have p0_w2 : w2.cell? ⟨w.heap.size, 0, none⟩ = some (.int .i64 a0) := by rw [bel2.cell (by show w.heap.size < _; have := lx_w1; omega)]; exact p0_w1
  have q0_w2 : w2.cell? ⟨w.heap.size + 1, 0, none⟩ = some (.int .i64 a0) := by rw [bel2.cell (by show w.heap.size + 1 < _; have := lx_w1; omega)]; exact q0_w1
  have p1_w2 : w2.cell? ⟨w.heap.size, 1, none⟩ = some (.slice A1 n1 c1) := by rw [bel2.cell (by show w.heap.size < _; have := lx_w1; omega)]; exact p1_w1
  have q1_w2 : w2.cell? ⟨w.heap.size + 1, 1, none⟩ = some (.slice B1 m1 d1) := by rw [bel2.cell (by show w.heap.size + 1 < _; have := lx_w1; omega)]; exact q1_w1
  have p2_w2 : w2.cell? ⟨w.heap.size, 2, none⟩ = some (.slice A2 n2 c2) := by rw [bel2.cell (by show w.heap.size < _; have := lx_w1; omega)]; exact p2_w1
  have q2_w2 : w2.cell? ⟨w.heap.size + 1, 2, none⟩ = some (.slice B2 m2 d2) := by rw [bel2.cell (by show w.heap.size + 1 < _; have := lx_w1; omega)]; exact q2_w1
  have p3_w2 : w2.cell? ⟨w.heap.size, 3, none⟩ = some (.slice A3 n3 c3) := by rw [bel2.cell (by show w.heap.size < _; have := lx_w1; omega)]; exact p3_w1
  have q3_w2 : w2.cell? ⟨w.heap.size + 1, 3, none⟩ = some (.slice B3 m3 d3) := by rw [bel2.cell (by show w.heap.size + 1 < _; have := lx_w1; omega)]; exact q3_w1
  have r1_w2 := tSS.later r1_w1 bel2
  have s1_w2 := tSS.later s1_w1 bel2
  have r2_w2 := tNS.later r2_w1 bel2
  have s2_w2 := tNS.later s2_w1 bel2
  have r3_w2 := tS.later r3_w1 bel2
  have s3_w2 := tS.later s3_w1 bel2
  clear p0_w1 q0_w1 p1_w1 q1_w1 p2_w1 q2_w1 p3_w1 q3_w1 r1_w1 s1_w1 r2_w1 s2_w1 r3_w1 s3_w1
  by_cases e2 : ¬ n2 = m2
  · have g2 : ((n2 : Int) != (m2 : Int)) = true := by simp; omega
    have R := Lib.hid (show decide (((a0, x1, x2, x3) : Patch) = (a0, y1, y2, y3)) = false by rw [decide_eq_false_iff_not]; intro e; simp only [Prod.mk.injEq] at e; exact e2 (by rw [← X2.out, ← Y2.out, e.2.2.1]))
    go_wp2_with fail
    go_ret
    exact ⟨ret_bool (by rw [R.out]), B_w2⟩
  replace e2 : n2 = m2 := Decidable.not_not.1 e2
  subst e2
  go_wp2
  go_loopw [5, 6, 40] (fun _ _ i wr => ∃ k : Nat, i = .int .i64 k ∧ k ≤ n2 ∧ Hid (x2.take k = y2.take k) ∧ Below w2.heap.size w2 wr) (fun _ _ i _ => n2 - (intOf i).toNat)
  case atStart => exact ⟨0, rfl, by omega, Lib.hid (by simp), Below.refl _ _⟩
  case round =>
    obtain ⟨k, rfl, hk, H, hb0⟩ := hrel
    obtain ⟨wo0, rfl⟩ : ∃ wo : World, wo = wr := ⟨_, rfl⟩
    have lx_wo0 := Nat.lt_of_lt_of_le lx_w2 hb0.size
    have B_wo0 := bel_trans B_w2 hb0
    have p0_wo0 : wo0.cell? ⟨w.heap.size, 0, none⟩ = some (.int .i64 a0) := by rw [hb0.cell (by show w.heap.size < _; have := lx_w2; omega)]; exact p0_w2
    have q0_wo0 : wo0.cell? ⟨w.heap.size + 1, 0, none⟩ = some (.int .i64 a0) := by rw [hb0.cell (by show w.heap.size + 1 < _; have := lx_w2; omega)]; exact q0_w2
    have p1_wo0 : wo0.cell? ⟨w.heap.size, 1, none⟩ = some (.slice A1 n1 c1) := by rw [hb0.cell (by show w.heap.size < _; have := lx_w2; omega)]; exact p1_w2
    have q1_wo0 : wo0.cell? ⟨w.heap.size + 1, 1, none⟩ = some (.slice B1 m1 d1) := by rw [hb0.cell (by show w.heap.size + 1 < _; have := lx_w2; omega)]; exact q1_w2
    have p2_wo0 : wo0.cell? ⟨w.heap.size, 2, none⟩ = some (.slice A2 n2 c2) := by rw [hb0.cell (by show w.heap.size < _; have := lx_w2; omega)]; exact p2_w2
    have q2_wo0 : wo0.cell? ⟨w.heap.size + 1, 2, none⟩ = some (.slice B2 n2 d2) := by rw [hb0.cell (by show w.heap.size + 1 < _; have := lx_w2; omega)]; exact q2_w2
    have p3_wo0 : wo0.cell? ⟨w.heap.size, 3, none⟩ = some (.slice A3 n3 c3) := by rw [hb0.cell (by show w.heap.size < _; have := lx_w2; omega)]; exact p3_w2
    have q3_wo0 : wo0.cell? ⟨w.heap.size + 1, 3, none⟩ = some (.slice B3 m3 d3) := by rw [hb0.cell (by show w.heap.size + 1 < _; have := lx_w2; omega)]; exact q3_w2
    have r1_wo0 := tSS.later r1_w2 hb0
    have s1_wo0 := tSS.later s1_w2 hb0
    have r2_wo0 := tNS.later r2_w2 hb0
    have s2_wo0 := tNS.later s2_w2 hb0
    have r3_wo0 := tS.later r3_w2 hb0
    have s3_wo0 := tS.later s3_w2 hb0
    clear p0_w2 q0_w2 p1_w2 q1_w2 p2_w2 q2_w2 p3_w2 q3_w2 r1_w2 s1_w2 r2_w2 s2_w2 r3_w2 s3_w2
    by_cases hlt : k < n2
    · have hX := Lib.hid (List.getElem?_eq_getElem (l := x2) (i := k) (by rw [X2.out]; exact hlt))
      have hY := Lib.hid (List.getElem?_eq_getElem (l := y2) (i := k) (by rw [Y2.out]; exact hlt))
      obtain ⟨b, o1, cc, cs, hv, hab, -, hE, hcc⟩ := (sl_R.1 r2_wo0).atX hX.out
      obtain ⟨b', o2, cc', cs', hv', hab', -, hE', hdd⟩ := (sl_R.1 s2_wo0).atX hY.out
      simp only [Value.slice.injEq] at hv hv'
      obtain ⟨rfl, -, rfl⟩ := hv
      obtain ⟨rfl, -, rfl⟩ := hv'
      have hU := hN.szL_at hX.out
      have hV := hN.szL_at hY.out
      generalize x2[k]'(by rw [X2.out]; exact hlt) = x at hX hE hU
      generalize y2[k]'(by rw [Y2.out]; exact hlt) = y at hY hE' hV
      have zz : x2.length + hN.szL x2 = hNS.sz x2 := rfl
      have zv : y2.length + hN.szL y2 = hNS.sz y2 := rfl
      have zx : hN.sz x ≤ 100000000 := by omega
      have zy : hN.sz y ≤ 100000000 := by omega
      clear zz zv hU hV
      obtain ⟨ua0, ua1, ua2, ua3⟩ := x
      obtain ⟨ub0, ub1, ub2, ub3⟩ := y
      obtain ⟨Ae3, ne3, ce3, rfl, hE3⟩ := tN_R.1 hE
      obtain ⟨Be3, me3, de3, rfl, hG3⟩ := tN_R.1 hE'
      have e0 : wo0.cell? ⟨b, o1 + k * 4, none⟩ = some (.int .i64 ua0) := hcc 0 _ rfl
      have f0 : wo0.cell? ⟨b', o2 + k * 4, none⟩ = some (.int .i64 ub0) := hdd 0 _ rfl
      have e1 : wo0.cell? ⟨b, o1 + k * 4 + 1, none⟩ = some (.int .i64 ua1) := hcc 1 _ rfl
      have f1 : wo0.cell? ⟨b', o2 + k * 4 + 1, none⟩ = some (.int .i64 ub1) := hdd 1 _ rfl
      have e2 : wo0.cell? ⟨b, o1 + k * 4 + 2, none⟩ = some (.int .i64 ua2) := hcc 2 _ rfl
      have f2 : wo0.cell? ⟨b', o2 + k * 4 + 2, none⟩ = some (.int .i64 ub2) := hdd 2 _ rfl
      have e3 : wo0.cell? ⟨b, o1 + k * 4 + 3, none⟩ = some (.slice Ae3 ne3 ce3) := hcc 3 _ rfl
      have f3 : wo0.cell? ⟨b', o2 + k * 4 + 3, none⟩ = some (.slice Be3 me3 de3) := hdd 3 _ rfl
      clear hcc hdd
      obtain ⟨U, hU⟩ : ∃ U, U = wo0.alloc (.cells #[.int .i64 ua0, .int .i64 ua1, .int .i64 ua2, .slice Ae3 ne3 ce3] 84) := ⟨_, rfl⟩
      have G0 : Below wo0.heap.size wo0 U := by rw [hU]; exact (Below.refl _ _).alloc (Nat.le_refl _) _
      have sU : wo0.heap.size < U.heap.size := by rw [hU]; simp
      have g0 : U.cell? ⟨wo0.heap.size, 0, none⟩ = some (.int .i64 ua0) := by rw [hU, cell_of_row _ wo0.heap.size 0 _ 84 (0, 0) (heap_alloc_new wo0 _)]; rfl
      have l0 : U.cell? ⟨b', o2 + k * 4, none⟩ = some (.int .i64 ub0) := by rw [G0.cell hab']; exact f0
      have g1 : U.cell? ⟨wo0.heap.size, 1, none⟩ = some (.int .i64 ua1) := by rw [hU, cell_of_row _ wo0.heap.size 1 _ 84 (0, 0) (heap_alloc_new wo0 _)]; rfl
      have l1 : U.cell? ⟨b', o2 + k * 4 + 1, none⟩ = some (.int .i64 ub1) := by rw [G0.cell hab']; exact f1
      have g2 : U.cell? ⟨wo0.heap.size, 2, none⟩ = some (.int .i64 ua2) := by rw [hU, cell_of_row _ wo0.heap.size 2 _ 84 (0, 0) (heap_alloc_new wo0 _)]; rfl
      have l2 : U.cell? ⟨b', o2 + k * 4 + 2, none⟩ = some (.int .i64 ub2) := by rw [G0.cell hab']; exact f2
      have g3 : U.cell? ⟨wo0.heap.size, 3, none⟩ = some (.slice Ae3 ne3 ce3) := by rw [hU, cell_of_row _ wo0.heap.size 3 _ 84 (0, 0) (heap_alloc_new wo0 _)]; rfl
      have l3 : U.cell? ⟨b', o2 + k * 4 + 3, none⟩ = some (.slice Be3 me3 de3) := by rw [G0.cell hab']; exact f3
      have qq : U.cell? ⟨w.heap.size + 1, 2, none⟩ = some (.slice (some ⟨b', o2, none⟩) n2 d2) := by rw [G0.cell lx_wo0]; exact q2_wo0
      have HU := Lib.hid hU
      clear hU
      replace hE3 := tS.later hE3 G0
      replace hG3 := tS.later hG3 G0
      rw [hN_sz, hS_sz] at zx zy
      have nb : ne3 ≤ 1000000000 := by have := tS_len hE3; omega
      have rg0 := cell_regrown g0
      have rl0 := cell_regrown l0
      have rg1 := cell_regrown g1
      have rl1 := cell_regrown l1
      have rg2 := cell_regrown g2
      have rl2 := cell_regrown l2
      have rg3 := cell_regrown g3
      have rl3 := cell_regrown l3
      have rqq := cell_regrown qq
      have cP : ∀ d os, Calls Try.prog 43 #[.agg #[.int .i64 ua0, .int .i64 ua1, .int .i64 ua2, .slice Ae3 ne3 ce3], .agg #[.int .i64 ub0, .int .i64 ub1, .int .i64 ub2, .slice Be3 me3 de3]] (grow (redrawn U d) os) fun e w'' => e = .returned (.bool (decide (((ua0, ua1, ua2, ua3) : Node) = (ub0, ub1, ub2, ub3)))) ∧ ∃ p : Regrown, w'' = grow (redrawn U p.d) p.os := fun d os => Calls.regrown_of (impl_sameNode _ _ _ _ _ _ _ _ _ _ _ _ _ _ _ (tS_R.1 (tS.later hE3 (below_regrown U d os))).ri (tS_R.1 (tS.later hG3 (below_regrown U d os))).ri nb)
      clear g0 l0 g1 l1 g2 l2 g3 l3 qq
      by_cases hp : ((ua0, ua1, ua2, ua3) : Node) = (ub0, ub1, ub2, ub3)
      · rw [decide_eq_true hp] at cP
        have HP := Lib.hid hp
        clear hp
        go_wp2
        rw [← HU.out]
        clear e0 f0 e1 f1 e2 f2 e3 f3
        (refine wp_region_quiet_below (by kernel_rfl) (by kernel_rfl) ?_; (repeat (go_big_quiet_step (exact cP _ _))); refine wpQuiet_nil ?_; intro _ hw'; obtain ⟨⟨dq, osq⟩, hw''⟩ := hw'; subst hw'')
        go_wp2
        go_roundw
        case rel => exact ⟨k + 1, by go_num, by omega, Lib.hid (by rw [M.take_at hX.out, M.take_at hY.out, H.out, HP.out]), bel_trans hb0 (bel_trans G0 (below_regrown U dq osq))⟩
        case measure => simp [intOf]; omega
      · rw [decide_eq_false hp] at cP
        have hxy : ¬ x2 = y2 := fun e => by have h1 := hX.out; rw [e, hY.out] at h1; injection h1 with h1; exact hp h1.symm
        have R := Lib.hid (show decide (((a0, x1, x2, x3) : Patch) = (a0, y1, y2, y3)) = false by rw [decide_eq_false_iff_not]; intro e; simp only [Prod.mk.injEq] at e; exact hxy e.2.2.1)
        clear hp hxy
        go_wp2
        rw [← HU.out]
        clear e0 f0 e1 f1 e2 f2 e3 f3
        (refine wp_region_quiet_below (by kernel_rfl) (by kernel_rfl) ?_; (repeat (go_big_quiet_step (exact cP _ _))); refine wpQuiet_nil ?_; intro _ hw'; obtain ⟨⟨dq, osq⟩, hw''⟩ := hw'; subst hw'')
        go_wp2
        go_ret
        exact ⟨ret_bool (by rw [R.out]), bel_trans B_wo0 (bel_trans G0 (below_regrown U dq osq))⟩
    have E2 := Lib.hid (show x2 = y2 by have := H.out; rwa [List.take_of_length_le (by rw [X2.out]; omega), List.take_of_length_le (by rw [Y2.out]; omega)] at this)
    clear H
    go_wp2
    clear hlt hk
    go_ret
    exact ⟨ret_bool (by rw [E1.out, E2.out, E3.out]; simp), B_wo0⟩
theorem spec_SamePatch (a0 b0 : Int) (A1 : Option Addr) (n1 c1 : Nat) (B1 : Option Addr) (m1 d1 : Nat) (A2 : Option Addr) (n2 c2 : Nat) (B2 : Option Addr) (m2 d2 : Nat) (A3 : Option Addr) (n3 c3 : Nat) (B3 : Option Addr) (m3 d3 : Nat) (x1 y1 : List (List Int)) (x2 y2 : List Node) (x3 y3 : List Int) (w : World) (h1 : tSS.R w w.heap.size [.slice A1 n1 c1] x1) (k1 : tSS.R w w.heap.size [.slice B1 m1 d1] y1) (h2 : tNS.R w w.heap.size [.slice A2 n2 c2] x2) (k2 : tNS.R w w.heap.size [.slice B2 m2 d2] y2) (h3 : tS.R w w.heap.size [.slice A3 n3 c3] x3) (k3 : tS.R w w.heap.size [.slice B3 m3 d3] y3) (hn : hP.sz ((a0, x1, x2, x3) : Patch) ≤ 100000000) (hn2 : hP.sz ((b0, y1, y2, y3) : Patch) ≤ 100000000) :
    Calls Try.prog 17 #[.agg #[.int .i64 a0, .slice A1 n1 c1, .slice A2 n2 c2, .slice A3 n3 c3], .agg #[.int .i64 b0, .slice B1 m1 d1, .slice B2 m2 d2, .slice B3 m3 d3]] w fun e w' => e = .returned (.bool (decide (((a0, x1, x2, x3) : Patch) = (b0, y1, y2, y3)))) ∧ Below w.heap.size w w' := by
  obtain ⟨W, hW⟩ : ∃ W, W = (w.alloc (.cells #[.int .i64 a0, .slice A1 n1 c1, .slice A2 n2 c2, .slice A3 n3 c3] 56)).alloc (.cells #[.int .i64 b0, .slice B1 m1 d1, .slice B2 m2 d2, .slice B3 m3 d3] 56) := ⟨_, rfl⟩
  have B0 : Below w.heap.size w W := by rw [hW]; exact ((Below.refl _ _).alloc (Nat.le_refl _) _).alloc (by simp) _
  have p0 : W.cell? ⟨w.heap.size, 0, none⟩ = some (.int .i64 a0) := by rw [hW]; simp [go_sem]
  have q0 : W.cell? ⟨w.heap.size + 1, 0, none⟩ = some (.int .i64 b0) := by rw [hW]; simp [go_sem]
  have p1 : W.cell? ⟨w.heap.size, 1, none⟩ = some (.slice A1 n1 c1) := by rw [hW]; simp [go_sem]
  have q1 : W.cell? ⟨w.heap.size + 1, 1, none⟩ = some (.slice B1 m1 d1) := by rw [hW]; simp [go_sem]
  have p2 : W.cell? ⟨w.heap.size, 2, none⟩ = some (.slice A2 n2 c2) := by rw [hW]; simp [go_sem]
  have q2 : W.cell? ⟨w.heap.size + 1, 2, none⟩ = some (.slice B2 m2 d2) := by rw [hW]; simp [go_sem]
  have p3 : W.cell? ⟨w.heap.size, 3, none⟩ = some (.slice A3 n3 c3) := by rw [hW]; simp [go_sem]
  have q3 : W.cell? ⟨w.heap.size + 1, 3, none⟩ = some (.slice B3 m3 d3) := by rw [hW]; simp [go_sem]
  have lx : w.heap.size + 1 < W.heap.size := by rw [hW]; simp
  have HW := Lib.hid hW
  have r1 := tSS.later h1 B0
  have s1 := tSS.later k1 B0
  have X1 := Lib.hid (sl_R.1 h1).cap.1
  have Y1 := Lib.hid (sl_R.1 k1).cap.1
  have r2 := tNS.later h2 B0
  have s2 := tNS.later k2 B0
  have X2 := Lib.hid (sl_R.1 h2).cap.1
  have Y2 := Lib.hid (sl_R.1 k2).cap.1
  have r3 := tS.later h3 B0
  have s3 := tS.later k3 B0
  have X3 := Lib.hid (sl_R.1 h3).cap.1
  have Y3 := Lib.hid (sl_R.1 k3).cap.1
  rw [hP_sz] at hn hn2
  have z1 : hSS.sz x1 ≤ 100000000 := by omega
  have v1 : hSS.sz y1 ≤ 100000000 := by omega
  have bn1 : n1 ≤ 100000000 := by have e : x1.length + hS.szL x1 = hSS.sz x1 := rfl; have := X1.out; omega
  have z2 : hNS.sz x2 ≤ 100000000 := by omega
  have v2 : hNS.sz y2 ≤ 100000000 := by omega
  have bn2 : n2 ≤ 100000000 := by have e : x2.length + hN.szL x2 = hNS.sz x2 := rfl; have := X2.out; omega
  have z3 : hS.sz x3 ≤ 100000000 := by omega
  have v3 : hS.sz y3 ≤ 100000000 := by omega
  have bn3 : n3 ≤ 100000000 := by have e : x3.length + hI.szL x3 = hS.sz x3 := rfl; have := X3.out; omega
  clear hW hn hn2 h1 k1 h2 k2 h3 k3
  by_cases e0 : ¬ a0 = b0
  · have g0 : (a0 != b0) = true := by simpa using e0
    have R := Lib.hid (show decide (((a0, x1, x2, x3) : Patch) = (b0, y1, y2, y3)) = false by rw [decide_eq_false_iff_not]; intro e; simp only [Prod.mk.injEq] at e; exact e0 e.1)
    go_enter Try.func17, Try.ntmps17
    go_wp2_with fail
    try rw [← HW.out]
    go_ret
    exact ⟨ret_bool (by rw [R.out]), B0⟩
  replace e0 : a0 = b0 := Decidable.not_not.1 e0
  subst e0
  by_cases e1 : ¬ n1 = m1
  · have g1 : ((n1 : Int) != (m1 : Int)) = true := by simp; omega
    have R := Lib.hid (show decide (((a0, x1, x2, x3) : Patch) = (a0, y1, y2, y3)) = false by rw [decide_eq_false_iff_not]; intro e; simp only [Prod.mk.injEq] at e; exact e1 (by rw [← X1.out, ← Y1.out, e.2.1]))
    go_enter Try.func17, Try.ntmps17
    go_wp2_with fail
    try rw [← HW.out]
    go_ret
    exact ⟨ret_bool (by rw [R.out]), B0⟩
  replace e1 : n1 = m1 := Decidable.not_not.1 e1
  subst e1
  by_cases e2 : ¬ n2 = m2
  · have g2 : ((n2 : Int) != (m2 : Int)) = true := by simp; omega
    have R := Lib.hid (show decide (((a0, x1, x2, x3) : Patch) = (a0, y1, y2, y3)) = false by rw [decide_eq_false_iff_not]; intro e; simp only [Prod.mk.injEq] at e; exact e2 (by rw [← X2.out, ← Y2.out, e.2.2.1]))
    go_enter Try.func17, Try.ntmps17
    go_wp2_with fail
    try rw [← HW.out]
    go_ret
    exact ⟨ret_bool (by rw [R.out]), B0⟩
  replace e2 : n2 = m2 := Decidable.not_not.1 e2
  subst e2
  go_enter Try.func17, Try.ntmps17
  go_wp2_with fail
  rw [← HW.out]
  by_cases e3 : ¬ x3 = y3
  · have HD := Lib.hid (decide_eq_false e3)
    have R := Lib.hid (show decide (((a0, x1, x2, x3) : Patch) = (a0, y1, y2, y3)) = false by rw [decide_eq_false_iff_not]; intro e; simp only [Prod.mk.injEq] at e; exact e3 e.2.2.2)
    refine (spec_l00Same _ _ _ _ _ _ _ _ _ (tS_R.1 r3).ri (tS_R.1 s3).ri (by omega)).mono ?_
    rw [HD.out]
    rintro e u1 ⟨rfl, bel1⟩
    go_wp2
    go_ret
    exact ⟨ret_bool (by rw [R.out]), bel_trans B0 bel1⟩
  replace e3 : x3 = y3 := Decidable.not_not.1 e3
  have E3 := Lib.hid e3
  have HD1 := Lib.hid (decide_eq_true e3)
  clear e3
  refine (spec_l00Same _ _ _ _ _ _ _ _ _ (tS_R.1 r3).ri (tS_R.1 s3).ri (by omega)).mono ?_
  rw [HD1.out]
  rintro e w1 ⟨rfl, bel1⟩
  have lx_w1 := Nat.lt_of_lt_of_le lx bel1.size
  have B_w1 := bel_trans B0 bel1
  have p0_w1 : w1.cell? ⟨w.heap.size, 0, none⟩ = some (.int .i64 a0) := by rw [bel1.cell (by show w.heap.size < _; have := lx; omega)]; exact p0
  have q0_w1 : w1.cell? ⟨w.heap.size + 1, 0, none⟩ = some (.int .i64 a0) := by rw [bel1.cell (by show w.heap.size + 1 < _; have := lx; omega)]; exact q0
  have p1_w1 : w1.cell? ⟨w.heap.size, 1, none⟩ = some (.slice A1 n1 c1) := by rw [bel1.cell (by show w.heap.size < _; have := lx; omega)]; exact p1
  have q1_w1 : w1.cell? ⟨w.heap.size + 1, 1, none⟩ = some (.slice B1 n1 d1) := by rw [bel1.cell (by show w.heap.size + 1 < _; have := lx; omega)]; exact q1
  have p2_w1 : w1.cell? ⟨w.heap.size, 2, none⟩ = some (.slice A2 n2 c2) := by rw [bel1.cell (by show w.heap.size < _; have := lx; omega)]; exact p2
  have q2_w1 : w1.cell? ⟨w.heap.size + 1, 2, none⟩ = some (.slice B2 n2 d2) := by rw [bel1.cell (by show w.heap.size + 1 < _; have := lx; omega)]; exact q2
  have p3_w1 : w1.cell? ⟨w.heap.size, 3, none⟩ = some (.slice A3 n3 c3) := by rw [bel1.cell (by show w.heap.size < _; have := lx; omega)]; exact p3
  have q3_w1 : w1.cell? ⟨w.heap.size + 1, 3, none⟩ = some (.slice B3 m3 d3) := by rw [bel1.cell (by show w.heap.size + 1 < _; have := lx; omega)]; exact q3
  have r1_w1 := tSS.later r1 bel1
  have s1_w1 := tSS.later s1 bel1
  have r2_w1 := tNS.later r2 bel1
  have s2_w1 := tNS.later s2 bel1
  have r3_w1 := tS.later r3 bel1
  have s3_w1 := tS.later s3 bel1
  clear p0 q0 p1 q1 p2 q2 p3 q3 r1 s1 r2 s2 r3 s3
  go_wp2
  go_loopw [5] (fun i wr => ∃ k : Nat, i = .int .i64 k ∧ k ≤ n1 ∧ Hid (x1.take k = y1.take k) ∧ Below w1.heap.size w1 wr) (fun i _ => n1 - (intOf i).toNat)
  case atStart => exact ⟨0, rfl, by omega, Lib.hid (by simp), Below.refl _ _⟩
  case round =>
    obtain ⟨k, rfl, hk, H, hb0⟩ := hrel
    obtain ⟨wo0, rfl⟩ : ∃ wo : World, wo = wr := ⟨_, rfl⟩
    have lx_wo0 := Nat.lt_of_lt_of_le lx_w1 hb0.size
    have B_wo0 := bel_trans B_w1 hb0
    have p0_wo0 : wo0.cell? ⟨w.heap.size, 0, none⟩ = some (.int .i64 a0) := by rw [hb0.cell (by show w.heap.size < _; have := lx_w1; omega)]; exact p0_w1
    have q0_wo0 : wo0.cell? ⟨w.heap.size + 1, 0, none⟩ = some (.int .i64 a0) := by rw [hb0.cell (by show w.heap.size + 1 < _; have := lx_w1; omega)]; exact q0_w1
    have p1_wo0 : wo0.cell? ⟨w.heap.size, 1, none⟩ = some (.slice A1 n1 c1) := by rw [hb0.cell (by show w.heap.size < _; have := lx_w1; omega)]; exact p1_w1
    have q1_wo0 : wo0.cell? ⟨w.heap.size + 1, 1, none⟩ = some (.slice B1 n1 d1) := by rw [hb0.cell (by show w.heap.size + 1 < _; have := lx_w1; omega)]; exact q1_w1
    have p2_wo0 : wo0.cell? ⟨w.heap.size, 2, none⟩ = some (.slice A2 n2 c2) := by rw [hb0.cell (by show w.heap.size < _; have := lx_w1; omega)]; exact p2_w1
    have q2_wo0 : wo0.cell? ⟨w.heap.size + 1, 2, none⟩ = some (.slice B2 n2 d2) := by rw [hb0.cell (by show w.heap.size + 1 < _; have := lx_w1; omega)]; exact q2_w1
    have p3_wo0 : wo0.cell? ⟨w.heap.size, 3, none⟩ = some (.slice A3 n3 c3) := by rw [hb0.cell (by show w.heap.size < _; have := lx_w1; omega)]; exact p3_w1
    have q3_wo0 : wo0.cell? ⟨w.heap.size + 1, 3, none⟩ = some (.slice B3 m3 d3) := by rw [hb0.cell (by show w.heap.size + 1 < _; have := lx_w1; omega)]; exact q3_w1
    have r1_wo0 := tSS.later r1_w1 hb0
    have s1_wo0 := tSS.later s1_w1 hb0
    have r2_wo0 := tNS.later r2_w1 hb0
    have s2_wo0 := tNS.later s2_w1 hb0
    have r3_wo0 := tS.later r3_w1 hb0
    have s3_wo0 := tS.later s3_w1 hb0
    clear p0_w1 q0_w1 p1_w1 q1_w1 p2_w1 q2_w1 p3_w1 q3_w1 r1_w1 s1_w1 r2_w1 s2_w1 r3_w1 s3_w1
    by_cases hlt : k < n1
    · have hX := Lib.hid (List.getElem?_eq_getElem (l := x1) (i := k) (by rw [X1.out]; exact hlt))
      have hY := Lib.hid (List.getElem?_eq_getElem (l := y1) (i := k) (by rw [Y1.out]; exact hlt))
      obtain ⟨b, o1, cc, cs, hv, hab, -, hE, hcc⟩ := (sl_R.1 r1_wo0).atX hX.out
      obtain ⟨b', o2, cc', cs', hv', hab', -, hE', hdd⟩ := (sl_R.1 s1_wo0).atX hY.out
      simp only [Value.slice.injEq] at hv hv'
      obtain ⟨rfl, -, rfl⟩ := hv
      obtain ⟨rfl, -, rfl⟩ := hv'
      have hU := hS.szL_at hX.out
      have hV := hS.szL_at hY.out
      generalize x1[k]'(by rw [X1.out]; exact hlt) = x at hX hE hU
      generalize y1[k]'(by rw [Y1.out]; exact hlt) = y at hY hE' hV
      have zz : x1.length + hS.szL x1 = hSS.sz x1 := rfl
      have zv : y1.length + hS.szL y1 = hSS.sz y1 := rfl
      have zx : hS.sz x ≤ 100000000 := by omega
      have zy : hS.sz y ≤ 100000000 := by omega
      clear zz zv hU hV
      obtain ⟨Ae, ne, ce, rfl⟩ := open_sl hE
      obtain ⟨Be, me, de, rfl⟩ := open_sl hE'
      have hl1 := (sl_R.1 hE).cap.1
      have hl2 := (sl_R.1 hE').cap.1
      have e0 : wo0.cell? ⟨b, o1 + k * 1, none⟩ = some (.slice Ae ne ce) := hcc 0 _ rfl
      have f0 : wo0.cell? ⟨b', o2 + k * 1, none⟩ = some (.slice Be me de) := hdd 0 _ rfl
      rw [Nat.mul_one] at e0 f0
      clear hcc hdd
      have pp := p1_wo0
      have qq := q1_wo0
      have nb : ne ≤ 1000000000 := by have := tS_len hE; rw [hS_sz] at zx; omega
      have re0 := cell_regrown e0
      have rf0 := cell_regrown f0
      have rpp := cell_regrown pp
      have rqq := cell_regrown qq
      have cP : ∀ d os, Calls Try.prog 14 #[.slice Ae ne ce, .slice Be me de] (grow (redrawn wo0 d) os) fun e w'' => e = .returned (.bool (decide (x = y))) ∧ ∃ p : Regrown, w'' = grow (redrawn wo0 p.d) p.os := fun d os => Calls.regrown_of (spec_l00Same _ _ _ _ _ _ _ _ _ (tS_R.1 (tS.later hE (below_regrown wo0 d os))).ri (tS_R.1 (tS.later hE' (below_regrown wo0 d os))).ri nb)
      clear e0 f0 pp qq
      by_cases hp : x = y
      · rw [decide_eq_true hp] at cP
        have HP := Lib.hid hp
        clear hp
        go_wp2
        (refine wp_region_quiet_below (by kernel_rfl) (by kernel_rfl) ?_; (repeat (go_big_quiet_step (exact cP _ _))); refine wpQuiet_nil ?_; intro _ hw'; obtain ⟨⟨dq, osq⟩, hw''⟩ := hw'; subst hw'')
        go_wp2
        go_roundw
        case rel => exact ⟨k + 1, by go_num, by omega, Lib.hid (by rw [M.take_at hX.out, M.take_at hY.out, H.out, HP.out]), bel_trans hb0 (below_regrown wo0 dq osq)⟩
        case measure => simp [intOf]; omega
      · rw [decide_eq_false hp] at cP
        have hxy : ¬ x1 = y1 := fun e => by have h1 := hX.out; rw [e, hY.out] at h1; injection h1 with h1; exact hp h1.symm
        have R := Lib.hid (show decide (((a0, x1, x2, x3) : Patch) = (a0, y1, y2, y3)) = false by rw [decide_eq_false_iff_not]; intro e; simp only [Prod.mk.injEq] at e; exact hxy e.2.1)
        clear hp hxy
        go_wp2
        (refine wp_region_quiet_below (by kernel_rfl) (by kernel_rfl) ?_; (repeat (go_big_quiet_step (exact cP _ _))); refine wpQuiet_nil ?_; intro _ hw'; obtain ⟨⟨dq, osq⟩, hw''⟩ := hw'; subst hw'')
        go_wp2
        go_ret
        exact ⟨ret_bool (by rw [R.out]), bel_trans B_wo0 (below_regrown wo0 dq osq)⟩
    have E1 := Lib.hid (show x1 = y1 by have := H.out; rwa [List.take_of_length_le (by rw [X1.out]; omega), List.take_of_length_le (by rw [Y1.out]; omega)] at this)
    clear H
    go_wp2
    clear hlt hk
    go_loopw [6] (fun i wr => ∃ k : Nat, i = .int .i64 k ∧ k ≤ n2 ∧ Hid (x2.take k = y2.take k) ∧ Below wo0.heap.size wo0 wr) (fun i _ => n2 - (intOf i).toNat)
    case atStart => exact ⟨0, rfl, by omega, Lib.hid (by simp), Below.refl _ _⟩
    case round =>
      obtain ⟨k, rfl, hk, H, hb1⟩ := hrel
      obtain ⟨wo1, rfl⟩ : ∃ wo : World, wo = wr := ⟨_, rfl⟩
      have lx_wo1 := Nat.lt_of_lt_of_le lx_wo0 hb1.size
      have B_wo1 := bel_trans B_wo0 hb1
      have p0_wo1 : wo1.cell? ⟨w.heap.size, 0, none⟩ = some (.int .i64 a0) := by rw [hb1.cell (by show w.heap.size < _; have := lx_wo0; omega)]; exact p0_wo0
      have q0_wo1 : wo1.cell? ⟨w.heap.size + 1, 0, none⟩ = some (.int .i64 a0) := by rw [hb1.cell (by show w.heap.size + 1 < _; have := lx_wo0; omega)]; exact q0_wo0
      have p1_wo1 : wo1.cell? ⟨w.heap.size, 1, none⟩ = some (.slice A1 n1 c1) := by rw [hb1.cell (by show w.heap.size < _; have := lx_wo0; omega)]; exact p1_wo0
      have q1_wo1 : wo1.cell? ⟨w.heap.size + 1, 1, none⟩ = some (.slice B1 n1 d1) := by rw [hb1.cell (by show w.heap.size + 1 < _; have := lx_wo0; omega)]; exact q1_wo0
      have p2_wo1 : wo1.cell? ⟨w.heap.size, 2, none⟩ = some (.slice A2 n2 c2) := by rw [hb1.cell (by show w.heap.size < _; have := lx_wo0; omega)]; exact p2_wo0
      have q2_wo1 : wo1.cell? ⟨w.heap.size + 1, 2, none⟩ = some (.slice B2 n2 d2) := by rw [hb1.cell (by show w.heap.size + 1 < _; have := lx_wo0; omega)]; exact q2_wo0
      have p3_wo1 : wo1.cell? ⟨w.heap.size, 3, none⟩ = some (.slice A3 n3 c3) := by rw [hb1.cell (by show w.heap.size < _; have := lx_wo0; omega)]; exact p3_wo0
      have q3_wo1 : wo1.cell? ⟨w.heap.size + 1, 3, none⟩ = some (.slice B3 m3 d3) := by rw [hb1.cell (by show w.heap.size + 1 < _; have := lx_wo0; omega)]; exact q3_wo0
      have r1_wo1 := tSS.later r1_wo0 hb1
      have s1_wo1 := tSS.later s1_wo0 hb1
      have r2_wo1 := tNS.later r2_wo0 hb1
      have s2_wo1 := tNS.later s2_wo0 hb1
      have r3_wo1 := tS.later r3_wo0 hb1
      have s3_wo1 := tS.later s3_wo0 hb1
      clear p0_wo0 q0_wo0 p1_wo0 q1_wo0 p2_wo0 q2_wo0 p3_wo0 q3_wo0 r1_wo0 s1_wo0 r2_wo0 s2_wo0 r3_wo0 s3_wo0
      by_cases hlt : k < n2
      · have hX := Lib.hid (List.getElem?_eq_getElem (l := x2) (i := k) (by rw [X2.out]; exact hlt))
        have hY := Lib.hid (List.getElem?_eq_getElem (l := y2) (i := k) (by rw [Y2.out]; exact hlt))
        obtain ⟨b, o1, cc, cs, hv, hab, -, hE, hcc⟩ := (sl_R.1 r2_wo1).atX hX.out
        obtain ⟨b', o2, cc', cs', hv', hab', -, hE', hdd⟩ := (sl_R.1 s2_wo1).atX hY.out
        simp only [Value.slice.injEq] at hv hv'
        obtain ⟨rfl, -, rfl⟩ := hv
        obtain ⟨rfl, -, rfl⟩ := hv'
        have hU := hN.szL_at hX.out
        have hV := hN.szL_at hY.out
        generalize x2[k]'(by rw [X2.out]; exact hlt) = x at hX hE hU
        generalize y2[k]'(by rw [Y2.out]; exact hlt) = y at hY hE' hV
        have zz : x2.length + hN.szL x2 = hNS.sz x2 := rfl
        have zv : y2.length + hN.szL y2 = hNS.sz y2 := rfl
        have zx : hN.sz x ≤ 100000000 := by omega
        have zy : hN.sz y ≤ 100000000 := by omega
        clear zz zv hU hV
        obtain ⟨ua0, ua1, ua2, ua3⟩ := x
        obtain ⟨ub0, ub1, ub2, ub3⟩ := y
        obtain ⟨Ae3, ne3, ce3, rfl, hE3⟩ := tN_R.1 hE
        obtain ⟨Be3, me3, de3, rfl, hG3⟩ := tN_R.1 hE'
        have e0 : wo1.cell? ⟨b, o1 + k * 4, none⟩ = some (.int .i64 ua0) := hcc 0 _ rfl
        have f0 : wo1.cell? ⟨b', o2 + k * 4, none⟩ = some (.int .i64 ub0) := hdd 0 _ rfl
        have e1 : wo1.cell? ⟨b, o1 + k * 4 + 1, none⟩ = some (.int .i64 ua1) := hcc 1 _ rfl
        have f1 : wo1.cell? ⟨b', o2 + k * 4 + 1, none⟩ = some (.int .i64 ub1) := hdd 1 _ rfl
        have e2 : wo1.cell? ⟨b, o1 + k * 4 + 2, none⟩ = some (.int .i64 ua2) := hcc 2 _ rfl
        have f2 : wo1.cell? ⟨b', o2 + k * 4 + 2, none⟩ = some (.int .i64 ub2) := hdd 2 _ rfl
        have e3 : wo1.cell? ⟨b, o1 + k * 4 + 3, none⟩ = some (.slice Ae3 ne3 ce3) := hcc 3 _ rfl
        have f3 : wo1.cell? ⟨b', o2 + k * 4 + 3, none⟩ = some (.slice Be3 me3 de3) := hdd 3 _ rfl
        clear hcc hdd
        have pp := p2_wo1
        have qq := q2_wo1
        rw [hN_sz, hS_sz] at zx zy
        have nb : ne3 ≤ 1000000000 := by have := tS_len hE3; omega
        have re0 := cell_regrown e0
        have rf0 := cell_regrown f0
        have re1 := cell_regrown e1
        have rf1 := cell_regrown f1
        have re2 := cell_regrown e2
        have rf2 := cell_regrown f2
        have re3 := cell_regrown e3
        have rf3 := cell_regrown f3
        have rpp := cell_regrown pp
        have rqq := cell_regrown qq
        have cP : ∀ d os, Calls Try.prog 37 #[.pointer (some ⟨b, o1 + k * 4, none⟩), .pointer (some ⟨b', o2 + k * 4, none⟩)] (grow (redrawn wo1 d) os) fun e w'' => e = .returned (.bool (decide (((ua0, ua1, ua2, ua3) : Node) = (ub0, ub1, ub2, ub3)))) ∧ ∃ p : Regrown, w'' = grow (redrawn wo1 p.d) p.os := fun d os => Calls.regrown_of (spec_l07SameNode _ _ _ _ _ _ _ _ _ _ _ _ _ _ _ _ _ _ _ (re0 d os) (rf0 d os) (re1 d os) (rf1 d os) (re2 d os) (rf2 d os) (re3 d os) (rf3 d os) (tS_R.1 (tS.later hE3 (below_regrown wo1 d os))).ri (tS_R.1 (tS.later hG3 (below_regrown wo1 d os))).ri nb)
        clear e0 f0 e1 f1 e2 f2 e3 f3 pp qq
        by_cases hp : ((ua0, ua1, ua2, ua3) : Node) = (ub0, ub1, ub2, ub3)
        · rw [decide_eq_true hp] at cP
          have HP := Lib.hid hp
          clear hp
          go_wp2
          (refine wp_region_quiet_below (by kernel_rfl) (by kernel_rfl) ?_; (repeat (go_big_quiet_step (exact cP _ _))); refine wpQuiet_nil ?_; intro _ hw'; obtain ⟨⟨dq, osq⟩, hw''⟩ := hw'; subst hw'')
          go_wp2
          go_roundw
          case rel => exact ⟨k + 1, by go_num, by omega, Lib.hid (by rw [M.take_at hX.out, M.take_at hY.out, H.out, HP.out]), bel_trans hb1 (below_regrown wo1 dq osq)⟩
          case measure => simp [intOf]; omega
        · rw [decide_eq_false hp] at cP
          have hxy : ¬ x2 = y2 := fun e => by have h1 := hX.out; rw [e, hY.out] at h1; injection h1 with h1; exact hp h1.symm
          have R := Lib.hid (show decide (((a0, x1, x2, x3) : Patch) = (a0, y1, y2, y3)) = false by rw [decide_eq_false_iff_not]; intro e; simp only [Prod.mk.injEq] at e; exact hxy e.2.2.1)
          clear hp hxy
          go_wp2
          (refine wp_region_quiet_below (by kernel_rfl) (by kernel_rfl) ?_; (repeat (go_big_quiet_step (exact cP _ _))); refine wpQuiet_nil ?_; intro _ hw'; obtain ⟨⟨dq, osq⟩, hw''⟩ := hw'; subst hw'')
          go_wp2
          go_ret
          exact ⟨ret_bool (by rw [R.out]), bel_trans B_wo1 (below_regrown wo1 dq osq)⟩
      have E2 := Lib.hid (show x2 = y2 by have := H.out; rwa [List.take_of_length_le (by rw [X2.out]; omega), List.take_of_length_le (by rw [Y2.out]; omega)] at this)
      clear H
      go_wp2
      clear hlt hk
      go_ret
      exact ⟨ret_bool (by rw [E1.out, E2.out, E3.out]; simp), B_wo1⟩
end Go.Proofs.Ytacgcagpaecncaa
namespace Go.Proofs.Ytacgcagpaecncaa
open Go.RowKit
set_option maxHeartbeats 4000000
set_option maxRecDepth 100000
theorem tSdS_ra {w : World} {B : Nat} {A : Option Addr} {n c : Nat} {xs : List (Int × Int)} (h : tSdS.R w B [.slice A n c] xs) : RA sd 2 w B A n xs ∧ n ≤ c ∧ c ≤ maxLen := (sl_R.1 h).flat
theorem str_ne {s t : ByteArray} (h : ¬ s = t) : ¬ s.toList = t.toList := fun e => h (by
  rw [Lib.toList_data, Lib.toList_data] at e
  exact ByteArray.ext (Array.toList_inj.1 e))
theorem same_no {s s' : ByteArray} {l l' : Int} {xs ys : List (Int × Int)} (h : ¬ (s = s' ∧ l = l' ∧ xs = ys)) : decide (((s, l, xs) : Strip) = (s', l', ys)) = false := by
  rw [decide_eq_false_iff_not]
  intro e
  simp only [Prod.mk.injEq] at e
  exact h e
theorem impl_sameStrip (s s' : ByteArray) (l l' : Int) (A A' : Option Addr) (n c n' c' : Nat) (xs ys : List (Int × Int)) (w : World) (hx : tSdS.R w w.heap.size [.slice A n c] xs) (hy : tSdS.R w w.heap.size [.slice A' n' c'] ys) (hn : n ≤ 1000000000) (hn' : n' ≤ 1000000000) :
    Calls Try.prog 41 #[.agg #[.string s, .int .i64 l, .slice A n c], .agg #[.string s', .int .i64 l', .slice A' n' c']] w fun e w' => e = .returned (.bool (decide (((s, l, xs) : Strip) = (s', l', ys)))) ∧ Below w.heap.size w w' := by
  obtain ⟨W, hW⟩ : ∃ W, W = (w.alloc (.cells #[.string s, .int .i64 l, .slice A n c] 78)).alloc (.cells #[.string s', .int .i64 l', .slice A' n' c'] 78) := ⟨_, rfl⟩
  have B0 : Below w.heap.size w W := by rw [hW]; exact ((Below.refl _ _).alloc (Nat.le_refl _) _).alloc (by simp) _
  have hs0 : W.heap.size = w.heap.size + 1 + 1 := by rw [hW]; simp
  have a0 : W.cell? ⟨w.heap.size, 0, none⟩ = some (.string s) := by rw [hW]; simp [go_sem]
  have a1 : W.cell? ⟨w.heap.size, 1, none⟩ = some (.int .i64 l) := by rw [hW]; simp [go_sem]
  have a2 : W.cell? ⟨w.heap.size, 2, none⟩ = some (.slice A n c) := by rw [hW]; simp [go_sem]
  have b0 : W.cell? ⟨w.heap.size + 1, 0, none⟩ = some (.string s') := by rw [hW]; simp [go_sem]
  have b1 : W.cell? ⟨w.heap.size + 1, 1, none⟩ = some (.int .i64 l') := by rw [hW]; simp [go_sem]
  have b2 : W.cell? ⟨w.heap.size + 1, 2, none⟩ = some (.slice A' n' c') := by rw [hW]; simp [go_sem]
  have HW := Lib.hid hW
  clear hW
  have lx : w.heap.size < W.heap.size := by omega
  have ly : w.heap.size + 1 < W.heap.size := by omega
  by_cases hs : ¬ s = s'
  · have hs2 := str_ne hs
    have hs3 : (s.toList == s'.toList) = false := by simpa using hs2
    have R := Lib.hid (same_no (s := s) (s' := s') (l := l) (l' := l') (xs := xs) (ys := ys) (fun e => hs e.1))
    go_enter Try.func41, Try.ntmps41
    go_wp2_with fail
    try rw [← HW.out]
    go_ret
    exact ⟨ret_bool (by rw [R.out]), B0⟩
  replace hs : s = s' := Decidable.not_not.1 hs
  by_cases hl : ¬ l = l'
  · have hl2 : (l == l') = false := by simpa using hl
    have hl3 : (l != l') = true := by simpa using hl
    clear hl2
    have R := Lib.hid (same_no (s := s) (s' := s') (l := l) (l' := l') (xs := xs) (ys := ys) (fun e => hl e.2.1))
    subst hs
    go_enter Try.func41, Try.ntmps41
    go_wp2_with fail
    try rw [← HW.out]
    go_ret
    exact ⟨ret_bool (by rw [R.out]), B0⟩
  replace hl : l = l' := Decidable.not_not.1 hl
  have hlx := (tSdS_ra hx).1.1
  have hly := (tSdS_ra hy).1.1
  by_cases hnn : ¬ n = n'
  · have hne : ((n : Int) != (n' : Int)) = true := by simp; omega
    have R := Lib.hid (same_no (s := s) (s' := s') (l := l) (l' := l') (xs := xs) (ys := ys) (fun e => hnn (by rw [← hlx, ← hly, e.2.2])))
    subst hs hl
    clear hlx hly
    go_enter Try.func41, Try.ntmps41
    go_wp2_with fail
    try rw [← HW.out]
    go_ret
    exact ⟨ret_bool (by rw [R.out]), B0⟩
  replace hnn : n = n' := Decidable.not_not.1 hnn
  subst hs hl hnn
  have HLX := Lib.hid hlx
  have HLY := Lib.hid hly
  have rx := (tSdS_ra hx).1
  have ry := (tSdS_ra hy).1
  clear hlx hly hx hy
  go_enter Try.func41, Try.ntmps41
  go_wp2_with fail
  rw [← HW.out]
  go_loopw [5, 6, 31] (fun _ _ i wr => ∃ k : Nat, i = .int .i64 k ∧ k ≤ n ∧ Hid (xs.take k = ys.take k) ∧ Below W.heap.size W wr) (fun _ _ i _ => n - (intOf i).toNat)
  case atStart => exact ⟨0, rfl, by omega, Lib.hid (by simp), Below.refl _ _⟩
  case round =>
    obtain ⟨k, rfl, hk, H, hb⟩ := hrel
    have Bw : Below w.heap.size w wr := B0.trans (hb.mono B0.size)
    have hsw := hb.size
    have c2 : wr.cell? ⟨w.heap.size, 2, none⟩ = some (.slice A n c) := by rw [hb.cell lx]; exact a2
    have d2 : wr.cell? ⟨w.heap.size + 1, 2, none⟩ = some (.slice A' n c') := by rw [hb.cell ly]; exact b2
    have lx1 : w.heap.size < wr.heap.size := by omega
    have ly1 : w.heap.size + 1 < wr.heap.size := by omega
    by_cases hlt : k < n
    · obtain ⟨b, o1, ⟨p0, p1⟩, rfl, hab, X, hcc⟩ := (rx.below Bw).at sd_len (by decide) hlt
      obtain ⟨b', o2, ⟨r0, r1⟩, rfl, hab', Y, hdd⟩ := (ry.below Bw).at sd_len (by decide) hlt
      have e0 : wr.cell? ⟨b, o1 + k * 2, none⟩ = some (.int .i64 p0) := hcc 0 _ rfl
      have e1 : wr.cell? ⟨b, o1 + k * 2 + 1, none⟩ = some (.int .i64 p1) := hcc 1 _ rfl
      have f0 : wr.cell? ⟨b', o2 + k * 2, none⟩ = some (.int .i64 r0) := hdd 0 _ rfl
      have f1 : wr.cell? ⟨b', o2 + k * 2 + 1, none⟩ = some (.int .i64 r1) := hdd 1 _ rfl
      have hbr : b < wr.heap.size := Nat.lt_of_lt_of_le hab Bw.size
      have hbr' : b' < wr.heap.size := Nat.lt_of_lt_of_le hab' Bw.size
      clear hcc hdd
      by_cases hp : p0 = r0 ∧ p1 = r1
      · obtain ⟨rfl, rfl⟩ := hp
        go_wp2
        go_quiet (fail)
        go_wp2
        go_roundw
        case rel => exact ⟨k + 1, by go_num, by omega, Lib.hid (by rw [M.take_at X.out, M.take_at Y.out, H.out]), below_drewN (hb.alloc hb.size _) _⟩
        case measure => simp [intOf]; omega
      · have R := Lib.hid (same_no (s := s) (s' := s) (l := l) (l' := l) (xs := xs) (ys := ys) (fun e => hp (by
          have h1 := X.out
          rw [e.2.2, Y.out] at h1
          injection h1 with h1
          injection h1 with h2 h3
          exact ⟨h2.symm, h3.symm⟩)))
        by_cases hp0 : p0 = r0
        · have hp1 : ¬ p1 = r1 := fun e => hp ⟨hp0, e⟩
          have hp2 : (p1 == r1) = false := by simpa using hp1
          subst hp0
          clear hp
          go_wp2
          go_quiet (fail)
          go_wp2
          go_ret
          exact ⟨ret_bool (by rw [R.out]), below_drewN (Bw.alloc Bw.size _) _⟩
        · have hp2 : (p0 == r0) = false := by simpa using hp0
          clear hp
          go_wp2
          go_quiet (fail)
          go_wp2
          go_ret
          exact ⟨ret_bool (by rw [R.out]), below_drewN (Bw.alloc Bw.size _) _⟩
    · go_wp2
      go_ret
      have h1 : xs = ys := by have := H.out; rwa [List.take_of_length_le (by rw [HLX.out]; omega), List.take_of_length_le (by rw [HLY.out]; omega)] at this
      exact ⟨ret_bool (by rw [h1]; simp), Bw⟩
theorem spec_l26Same (g o g' o' : Nat) (s s' : ByteArray) (l l' : Int) (A A' : Option Addr) (n c n' c' : Nat) (xs ys : List (Int × Int)) (w : World) (a0 : w.cell? ⟨g, o, none⟩ = some (.string s)) (b0 : w.cell? ⟨g', o', none⟩ = some (.string s')) (a1 : w.cell? ⟨g, o + 1, none⟩ = some (.int .i64 l)) (b1 : w.cell? ⟨g', o' + 1, none⟩ = some (.int .i64 l')) (a2 : w.cell? ⟨g, o + 2, none⟩ = some (.slice A n c)) (b2 : w.cell? ⟨g', o' + 2, none⟩ = some (.slice A' n' c')) (hx : tSdS.R w w.heap.size [.slice A n c] xs) (hy : tSdS.R w w.heap.size [.slice A' n' c'] ys) (hn : n ≤ 1000000000) (hn' : n' ≤ 1000000000) :
    Calls Try.prog 36 #[.pointer (some ⟨g, o, none⟩), .pointer (some ⟨g', o', none⟩)] w fun e w' => e = .returned (.bool (decide (((s, l, xs) : Strip) = (s', l', ys)))) ∧ Below w.heap.size w w' := by
  have B0 : Below w.heap.size w w := Below.refl _ _
  have lx : g < w.heap.size := World.block_lt_of_cell? w _ a0
  have ly : g' < w.heap.size := World.block_lt_of_cell? w _ b0
  by_cases hs : ¬ s = s'
  · have hs2 := str_ne hs
    have hs3 : (s.toList == s'.toList) = false := by simpa using hs2
    have R := Lib.hid (same_no (s := s) (s' := s') (l := l) (l' := l') (xs := xs) (ys := ys) (fun e => hs e.1))
    go_enter Try.func36, Try.ntmps36
    go_wp2_with fail
    go_quiet (fail)
    go_wp2_with fail
    go_ret
    exact ⟨ret_bool (by rw [R.out]), below_drewN (Below.refl _ _) _⟩
  replace hs : s = s' := Decidable.not_not.1 hs
  by_cases hl : ¬ l = l'
  · have hl2 : (l == l') = false := by simpa using hl
    have hl3 : (l != l') = true := by simpa using hl
    clear hl2
    have R := Lib.hid (same_no (s := s) (s' := s') (l := l) (l' := l') (xs := xs) (ys := ys) (fun e => hl e.2.1))
    subst hs
    go_enter Try.func36, Try.ntmps36
    go_wp2_with fail
    go_quiet (fail)
    go_wp2_with fail
    go_ret
    exact ⟨ret_bool (by rw [R.out]), below_drewN (Below.refl _ _) _⟩
  replace hl : l = l' := Decidable.not_not.1 hl
  have hlx := (tSdS_ra hx).1.1
  have hly := (tSdS_ra hy).1.1
  by_cases hnn : ¬ n = n'
  · have hne : ((n : Int) != (n' : Int)) = true := by simp; omega
    have R := Lib.hid (same_no (s := s) (s' := s') (l := l) (l' := l') (xs := xs) (ys := ys) (fun e => hnn (by rw [← hlx, ← hly, e.2.2])))
    subst hs hl
    clear hlx hly
    go_enter Try.func36, Try.ntmps36
    go_wp2_with fail
    go_quiet (fail)
    go_wp2_with fail
    go_ret
    exact ⟨ret_bool (by rw [R.out]), below_drewN (Below.refl _ _) _⟩
  replace hnn : n = n' := Decidable.not_not.1 hnn
  subst hs hl hnn
  have HLX := Lib.hid hlx
  have HLY := Lib.hid hly
  have rx := (tSdS_ra hx).1
  have ry := (tSdS_ra hy).1
  clear hlx hly hx hy
  go_enter Try.func36, Try.ntmps36
  go_wp2_with fail
  go_quiet (fail)
  go_wp2_with fail
  go_loopw [5] (fun i wr => ∃ k : Nat, i = .int .i64 k ∧ k ≤ n ∧ Hid (xs.take k = ys.take k) ∧ Below w.heap.size w wr) (fun i _ => n - (intOf i).toNat)
  case atStart => exact ⟨0, rfl, by omega, Lib.hid (by simp), below_drewN (Below.refl _ _) _⟩
  case round =>
    obtain ⟨k, rfl, hk, H, hb⟩ := hrel
    have Bw : Below w.heap.size w wr := B0.trans (hb.mono B0.size)
    have hsw := hb.size
    have c2 : wr.cell? ⟨g, o + 2, none⟩ = some (.slice A n c) := by rw [hb.cell lx]; exact a2
    have d2 : wr.cell? ⟨g', o' + 2, none⟩ = some (.slice A' n c') := by rw [hb.cell ly]; exact b2
    have lx1 : g < wr.heap.size := by omega
    have ly1 : g' < wr.heap.size := by omega
    by_cases hlt : k < n
    · obtain ⟨b, o1, ⟨p0, p1⟩, rfl, hab, X, hcc⟩ := (rx.below Bw).at sd_len (by decide) hlt
      obtain ⟨b', o2, ⟨r0, r1⟩, rfl, hab', Y, hdd⟩ := (ry.below Bw).at sd_len (by decide) hlt
      have e0 : wr.cell? ⟨b, o1 + k * 2, none⟩ = some (.int .i64 p0) := hcc 0 _ rfl
      have e1 : wr.cell? ⟨b, o1 + k * 2 + 1, none⟩ = some (.int .i64 p1) := hcc 1 _ rfl
      have f0 : wr.cell? ⟨b', o2 + k * 2, none⟩ = some (.int .i64 r0) := hdd 0 _ rfl
      have f1 : wr.cell? ⟨b', o2 + k * 2 + 1, none⟩ = some (.int .i64 r1) := hdd 1 _ rfl
      have hbr : b < wr.heap.size := Nat.lt_of_lt_of_le hab Bw.size
      have hbr' : b' < wr.heap.size := Nat.lt_of_lt_of_le hab' Bw.size
      clear hcc hdd
      by_cases hp : p0 = r0 ∧ p1 = r1
      · obtain ⟨rfl, rfl⟩ := hp
        go_wp2
        go_quiet (fail)
        go_wp2
        go_roundw
        case rel => exact ⟨k + 1, by go_num, by omega, Lib.hid (by rw [M.take_at X.out, M.take_at Y.out, H.out]), below_drewN hb _⟩
        case measure => simp [intOf]; omega
      · have R := Lib.hid (same_no (s := s) (s' := s) (l := l) (l' := l) (xs := xs) (ys := ys) (fun e => hp (by
          have h1 := X.out
          rw [e.2.2, Y.out] at h1
          injection h1 with h1
          injection h1 with h2 h3
          exact ⟨h2.symm, h3.symm⟩)))
        by_cases hp0 : p0 = r0
        · have hp1 : ¬ p1 = r1 := fun e => hp ⟨hp0, e⟩
          have hp2 : (p1 == r1) = false := by simpa using hp1
          subst hp0
          clear hp
          go_wp2
          go_quiet (fail)
          go_wp2
          go_ret
          exact ⟨ret_bool (by rw [R.out]), below_drewN Bw _⟩
        · have hp2 : (p0 == r0) = false := by simpa using hp0
          clear hp
          go_wp2
          go_quiet (fail)
          go_wp2
          go_ret
          exact ⟨ret_bool (by rw [R.out]), below_drewN Bw _⟩
    · go_wp2
      go_ret
      have h1 : xs = ys := by have := H.out; rwa [List.take_of_length_le (by rw [HLX.out]; omega), List.take_of_length_le (by rw [HLY.out]; omega)] at this
      exact ⟨ret_bool (by rw [h1]; simp), Bw⟩
end Go.Proofs.Ytacgcagpaecncaa
namespace Go.Proofs.Ytacgcagpaecncaa
open Go.RowKit
set_option maxHeartbeats 4000000
set_option maxRecDepth 100000
theorem impl_SameMixer (A A' : Option Addr) (n c n' c' : Nat) (xs ys : List Strip) (w : World) (hx : tM.R w w.heap.size [.slice A n c] xs) (hy : tM.R w w.heap.size [.slice A' n' c'] ys) (hn : hM.sz xs ≤ 100000000) (hn' : hM.sz ys ≤ 100000000) :
    Calls Try.prog 25 #[.agg #[.slice A n c], .agg #[.slice A' n' c']] w fun e w' => e = .returned (.bool (decide (xs = ys))) ∧ Below w.heap.size w w' := by
  obtain ⟨W, hW⟩ : ∃ W, W = (w.alloc (.cells #[.slice A n c] 37)).alloc (.cells #[.slice A' n' c'] 37) := ⟨_, rfl⟩
  have B0 : Below w.heap.size w W := by rw [hW]; exact ((Below.refl _ _).alloc (Nat.le_refl _) _).alloc (by simp) _
  have hs0 : W.heap.size = w.heap.size + 1 + 1 := by rw [hW]; simp
  have a0 : W.cell? ⟨w.heap.size, 0, none⟩ = some (.slice A n c) := by rw [hW]; simp [go_sem]
  have b0 : W.cell? ⟨w.heap.size + 1, 0, none⟩ = some (.slice A' n' c') := by rw [hW]; simp [go_sem]
  have HW := Lib.hid hW
  clear hW
  have lx : w.heap.size < W.heap.size := by omega
  have ly : w.heap.size + 1 < W.heap.size := by omega
  have rx := sl_R.1 hx
  have ry := sl_R.1 hy
  have hlx := rx.cap.1
  have hly := ry.cap.1
  have hm1 : xs.length + hSt.szL xs ≤ 100000000 := hn
  have hm2 : ys.length + hSt.szL ys ≤ 100000000 := hn'
  by_cases hnn : ¬ n = n'
  · have R := Lib.hid (show decide (xs = ys) = false by rw [decide_eq_false_iff_not]; intro e; exact hnn (by rw [← hlx, ← hly, e]))
    have hne : ((n : Int) != (n' : Int)) = true := by simp; omega
    clear hlx hly
    go_enter Try.func25, Try.ntmps25
    go_wp2_with fail
    rw [← HW.out]
    go_ret
    exact ⟨ret_bool (by rw [R.out]), B0⟩
  replace hnn : n = n' := Decidable.not_not.1 hnn
  subst hnn
  have HLX := Lib.hid hlx
  have HLY := Lib.hid hly
  have hnb : n ≤ 100000000 := by omega
  have hm1' := Lib.hid hm1
  have hm2' := Lib.hid hm2
  clear hlx hly hx hy hn hn' hm1 hm2
  go_enter Try.func25, Try.ntmps25
  go_wp2_with fail
  rw [← HW.out]
  go_loopw [5, 6, 17] (fun _ _ i wr => ∃ k : Nat, i = .int .i64 k ∧ k ≤ n ∧ Hid (xs.take k = ys.take k) ∧ Below W.heap.size W wr) (fun _ _ i _ => n - (intOf i).toNat)
  case atStart => exact ⟨0, rfl, by omega, Lib.hid (by simp), Below.refl _ _⟩
  case round =>
    obtain ⟨k, rfl, hk, H, hb⟩ := hrel
    have Bw : Below w.heap.size w wr := B0.trans (hb.mono B0.size)
    have hsw := hb.size
    have c0 : wr.cell? ⟨w.heap.size, 0, none⟩ = some (.slice A n c) := by rw [hb.cell lx]; exact a0
    have d0 : wr.cell? ⟨w.heap.size + 1, 0, none⟩ = some (.slice A' n c') := by rw [hb.cell ly]; exact b0
    have lx1 : w.heap.size < wr.heap.size := by omega
    have ly1 : w.heap.size + 1 < wr.heap.size := by omega
    by_cases hlt : k < n
    · have hX := Lib.hid (List.getElem?_eq_getElem (l := xs) (i := k) (by rw [HLX.out]; exact hlt))
      have hY := Lib.hid (List.getElem?_eq_getElem (l := ys) (i := k) (by rw [HLY.out]; exact hlt))
      obtain ⟨b, o1, cc, cs, hv, hab, -, hE, hcc⟩ := (rx.below Bw).atX hX.out
      obtain ⟨b', o2, cc', cs', hv', hab', -, hE', hdd⟩ := (ry.below Bw).atX hY.out
      simp only [Value.slice.injEq] at hv hv'
      obtain ⟨rfl, -, rfl⟩ := hv
      obtain ⟨rfl, -, rfl⟩ := hv'
      have hU := hSt.szL_at hX.out
      have hV := hSt.szL_at hY.out
      generalize xs[k]'(by rw [HLX.out]; exact hlt) = x at hX hE hU
      generalize ys[k]'(by rw [HLY.out]; exact hlt) = y at hY hE' hV
      obtain ⟨s, l, us⟩ := x
      obtain ⟨s', l', vs⟩ := y
      rw [hSt_sz] at hU hV
      obtain ⟨A1, n1, c1, rfl, -, hE⟩ := st_R.1 hE
      obtain ⟨A2, n2, c2, rfl, -, hE'⟩ := st_R.1 hE'
      have n1b : n1 ≤ 1000000000 := by have := (tSdS_ra hE).1.1; have := hm1'.out; omega
      have n2b : n2 ≤ 1000000000 := by have := (tSdS_ra hE').1.1; have := hm2'.out; omega
      have e0 : wr.cell? ⟨b, o1 + k * 3, none⟩ = some (.string s) := hcc 0 _ rfl
      have e1 : wr.cell? ⟨b, o1 + k * 3 + 1, none⟩ = some (.int .i64 l) := hcc 1 _ rfl
      have e2 : wr.cell? ⟨b, o1 + k * 3 + 2, none⟩ = some (.slice A1 n1 c1) := hcc 2 _ rfl
      have f0 : wr.cell? ⟨b', o2 + k * 3, none⟩ = some (.string s') := hdd 0 _ rfl
      have f1 : wr.cell? ⟨b', o2 + k * 3 + 1, none⟩ = some (.int .i64 l') := hdd 1 _ rfl
      have f2 : wr.cell? ⟨b', o2 + k * 3 + 2, none⟩ = some (.slice A2 n2 c2) := hdd 2 _ rfl
      have hbr : b < wr.heap.size := Nat.lt_of_lt_of_le hab Bw.size
      have hbr' : b' < wr.heap.size := Nat.lt_of_lt_of_le hab' Bw.size
      replace hE := tSdS.more Bw.size hE
      replace hE' := tSdS.more Bw.size hE'
      clear hcc hdd hU hV
      obtain ⟨U, hU⟩ : ∃ U, U = wr.alloc (.cells #[.string s, .int .i64 l, .slice A1 n1 c1] 78) := ⟨_, rfl⟩
      have G0 : Below wr.heap.size wr U := by rw [hU]; exact (Below.refl _ _).alloc (Nat.le_refl _) _
      have sU : wr.heap.size < U.heap.size := by rw [hU]; simp
      have g0 : U.cell? ⟨wr.heap.size, 0, none⟩ = some (.string s) := by rw [hU, cell_of_row _ wr.heap.size 0 _ 78 (0, 0) (heap_alloc_new wr _)]; rfl
      have g1 : U.cell? ⟨wr.heap.size, 1, none⟩ = some (.int .i64 l) := by rw [hU, cell_of_row _ wr.heap.size 1 _ 78 (0, 0) (heap_alloc_new wr _)]; rfl
      have g2 : U.cell? ⟨wr.heap.size, 2, none⟩ = some (.slice A1 n1 c1) := by rw [hU, cell_of_row _ wr.heap.size 2 _ 78 (0, 0) (heap_alloc_new wr _)]; rfl
      have h0 : U.cell? ⟨b', o2 + k * 3, none⟩ = some (.string s') := by rw [G0.cell hbr']; exact f0
      have h1 : U.cell? ⟨b', o2 + k * 3 + 1, none⟩ = some (.int .i64 l') := by rw [G0.cell hbr']; exact f1
      have h2 : U.cell? ⟨b', o2 + k * 3 + 2, none⟩ = some (.slice A2 n2 c2) := by rw [G0.cell hbr']; exact f2
      have d1 : U.cell? ⟨w.heap.size + 1, 0, none⟩ = some (.slice (some ⟨b', o2, none⟩) n c') := by rw [G0.cell ly1]; exact d0
      have HU := Lib.hid hU
      clear hU
      have l1 : wr.heap.size < U.heap.size := sU
      have l2 : b' < U.heap.size := by omega
      have l3 : w.heap.size + 1 < U.heap.size := by omega
      have D1 : Below U.heap.size U (U.drewN 1) := below_drewN (Below.refl _ _) 1
      have hF := tSdS.later (tSdS.later hE G0) D1
      have hF' := tSdS.later (tSdS.later hE' G0) D1
      by_cases hp : ((s, l, us) : Strip) = (s', l', vs)
      · have HD := Lib.hid (decide_eq_true hp)
        have HP := Lib.hid hp
        clear hp
        go_wp2
        rw [← HU.out]
        go_region_held3 (fun w' => Below U.heap.size U w' ∧ w'.cell? ⟨w.heap.size + 1, 0, none⟩ = some (.slice (some ⟨b', o2, none⟩) n c') ∧ w'.cell? ⟨wr.heap.size, 0, none⟩ = some (.string s) ∧ w'.cell? ⟨wr.heap.size, 1, none⟩ = some (.int .i64 l) ∧ w'.cell? ⟨wr.heap.size, 2, none⟩ = some (.slice A1 n1 c1) ∧ w'.cell? ⟨b', o2 + k * 3, none⟩ = some (.string s') ∧ w'.cell? ⟨b', o2 + k * 3 + 1, none⟩ = some (.int .i64 l') ∧ w'.cell? ⟨b', o2 + k * 3 + 2, none⟩ = some (.slice A2 n2 c2))
          (first | exact ⟨below_drewN (Below.refl _ _) _, d1, g0, g1, g2, h0, h1, h2⟩ | exact ⟨G2, (by rw [G2.cell l3]; exact d1), (by rw [G2.cell l1]; exact g0), (by rw [G2.cell l1]; exact g1), (by rw [G2.cell l1]; exact g2), (by rw [G2.cell l2]; exact h0), (by rw [G2.cell l2]; exact h1), (by rw [G2.cell l2]; exact h2)⟩)
          (first | (go_at_call 41; refine (impl_sameStrip _ _ _ _ _ _ _ _ _ _ _ _ _ hF hF' n1b n2b).mono ?_; rw [HD.out]; rintro e w2 ⟨rfl, bel2⟩; have G2 := bel_trans D1 bel2))
        go_wp2
        go_roundw
        case rel => exact ⟨k + 1, by go_num, by omega, Lib.hid (by rw [M.take_at hX.out, M.take_at hY.out, H.out, HP.out]), bel_trans' hb hsw (bel_trans G0 G2)⟩
        case measure => simp [intOf]; omega
      · have HD := Lib.hid (decide_eq_false hp)
        have R := Lib.hid (show decide (xs = ys) = false by
          rw [decide_eq_false_iff_not]
          intro e
          have h1 := hX.out
          rw [e, hY.out] at h1
          injection h1 with h1
          exact hp h1.symm)
        clear hp
        go_wp2
        rw [← HU.out]
        go_region_held3 (fun w' => Below U.heap.size U w' ∧ w'.cell? ⟨w.heap.size + 1, 0, none⟩ = some (.slice (some ⟨b', o2, none⟩) n c') ∧ w'.cell? ⟨wr.heap.size, 0, none⟩ = some (.string s) ∧ w'.cell? ⟨wr.heap.size, 1, none⟩ = some (.int .i64 l) ∧ w'.cell? ⟨wr.heap.size, 2, none⟩ = some (.slice A1 n1 c1) ∧ w'.cell? ⟨b', o2 + k * 3, none⟩ = some (.string s') ∧ w'.cell? ⟨b', o2 + k * 3 + 1, none⟩ = some (.int .i64 l') ∧ w'.cell? ⟨b', o2 + k * 3 + 2, none⟩ = some (.slice A2 n2 c2))
          (first | exact ⟨below_drewN (Below.refl _ _) _, d1, g0, g1, g2, h0, h1, h2⟩ | exact ⟨G2, (by rw [G2.cell l3]; exact d1), (by rw [G2.cell l1]; exact g0), (by rw [G2.cell l1]; exact g1), (by rw [G2.cell l1]; exact g2), (by rw [G2.cell l2]; exact h0), (by rw [G2.cell l2]; exact h1), (by rw [G2.cell l2]; exact h2)⟩)
          (first | (go_at_call 41; refine (impl_sameStrip _ _ _ _ _ _ _ _ _ _ _ _ _ hF hF' n1b n2b).mono ?_; rw [HD.out]; rintro e w2 ⟨rfl, bel2⟩; have G2 := bel_trans D1 bel2))
        go_wp2
        go_ret
        exact ⟨ret_bool (by rw [R.out]), bel_trans Bw (bel_trans G0 G2)⟩
    · go_wp2
      go_ret
      have h1 : xs = ys := by have := H.out; rwa [List.take_of_length_le (by rw [HLX.out]; omega), List.take_of_length_le (by rw [HLY.out]; omega)] at this
      exact ⟨ret_bool (by rw [h1]; simp), Bw⟩
theorem spec_SameMixer (A A' : Option Addr) (n c n' c' : Nat) (xs ys : List Strip) (w : World) (hx : tM.R w w.heap.size [.slice A n c] xs) (hy : tM.R w w.heap.size [.slice A' n' c'] ys) (hn : hM.sz xs ≤ 100000000) (hn' : hM.sz ys ≤ 100000000) :
    Calls Try.prog 15 #[.agg #[.slice A n c], .agg #[.slice A' n' c']] w fun e w' => e = .returned (.bool (decide (xs = ys))) ∧ Below w.heap.size w w' := by
  obtain ⟨W, hW⟩ : ∃ W, W = (w.alloc (.cells #[.slice A n c] 37)).alloc (.cells #[.slice A' n' c'] 37) := ⟨_, rfl⟩
  have B0 : Below w.heap.size w W := by rw [hW]; exact ((Below.refl _ _).alloc (Nat.le_refl _) _).alloc (by simp) _
  have hs0 : W.heap.size = w.heap.size + 1 + 1 := by rw [hW]; simp
  have a0 : W.cell? ⟨w.heap.size, 0, none⟩ = some (.slice A n c) := by rw [hW]; simp [go_sem]
  have b0 : W.cell? ⟨w.heap.size + 1, 0, none⟩ = some (.slice A' n' c') := by rw [hW]; simp [go_sem]
  have HW := Lib.hid hW
  clear hW
  have lx : w.heap.size < W.heap.size := by omega
  have ly : w.heap.size + 1 < W.heap.size := by omega
  have rx := sl_R.1 hx
  have ry := sl_R.1 hy
  have hlx := rx.cap.1
  have hly := ry.cap.1
  have hm1 : xs.length + hSt.szL xs ≤ 100000000 := hn
  have hm2 : ys.length + hSt.szL ys ≤ 100000000 := hn'
  by_cases hnn : ¬ n = n'
  · have R := Lib.hid (show decide (xs = ys) = false by rw [decide_eq_false_iff_not]; intro e; exact hnn (by rw [← hlx, ← hly, e]))
    have hne : ((n : Int) != (n' : Int)) = true := by simp; omega
    clear hlx hly
    go_enter Try.func15, Try.ntmps15
    go_wp2_with fail
    rw [← HW.out]
    go_ret
    exact ⟨ret_bool (by rw [R.out]), B0⟩
  replace hnn : n = n' := Decidable.not_not.1 hnn
  subst hnn
  have HLX := Lib.hid hlx
  have HLY := Lib.hid hly
  have hnb : n ≤ 100000000 := by omega
  have hm1' := Lib.hid hm1
  have hm2' := Lib.hid hm2
  clear hlx hly hx hy hn hn' hm1 hm2
  go_enter Try.func15, Try.ntmps15
  go_wp2_with fail
  rw [← HW.out]
  go_loopw [5] (fun i wr => ∃ k : Nat, i = .int .i64 k ∧ k ≤ n ∧ Hid (xs.take k = ys.take k) ∧ Below W.heap.size W wr) (fun i _ => n - (intOf i).toNat)
  case atStart => exact ⟨0, rfl, by omega, Lib.hid (by simp), Below.refl _ _⟩
  case round =>
    obtain ⟨k, rfl, hk, H, hb⟩ := hrel
    have Bw : Below w.heap.size w wr := B0.trans (hb.mono B0.size)
    have hsw := hb.size
    have c0 : wr.cell? ⟨w.heap.size, 0, none⟩ = some (.slice A n c) := by rw [hb.cell lx]; exact a0
    have d0 : wr.cell? ⟨w.heap.size + 1, 0, none⟩ = some (.slice A' n c') := by rw [hb.cell ly]; exact b0
    have lx1 : w.heap.size < wr.heap.size := by omega
    have ly1 : w.heap.size + 1 < wr.heap.size := by omega
    by_cases hlt : k < n
    · have hX := Lib.hid (List.getElem?_eq_getElem (l := xs) (i := k) (by rw [HLX.out]; exact hlt))
      have hY := Lib.hid (List.getElem?_eq_getElem (l := ys) (i := k) (by rw [HLY.out]; exact hlt))
      obtain ⟨b, o1, cc, cs, hv, hab, -, hE, hcc⟩ := (rx.below Bw).atX hX.out
      obtain ⟨b', o2, cc', cs', hv', hab', -, hE', hdd⟩ := (ry.below Bw).atX hY.out
      simp only [Value.slice.injEq] at hv hv'
      obtain ⟨rfl, -, rfl⟩ := hv
      obtain ⟨rfl, -, rfl⟩ := hv'
      have hU := hSt.szL_at hX.out
      have hV := hSt.szL_at hY.out
      generalize xs[k]'(by rw [HLX.out]; exact hlt) = x at hX hE hU
      generalize ys[k]'(by rw [HLY.out]; exact hlt) = y at hY hE' hV
      obtain ⟨s, l, us⟩ := x
      obtain ⟨s', l', vs⟩ := y
      rw [hSt_sz] at hU hV
      obtain ⟨A1, n1, c1, rfl, -, hE⟩ := st_R.1 hE
      obtain ⟨A2, n2, c2, rfl, -, hE'⟩ := st_R.1 hE'
      have n1b : n1 ≤ 1000000000 := by have := (tSdS_ra hE).1.1; have := hm1'.out; omega
      have n2b : n2 ≤ 1000000000 := by have := (tSdS_ra hE').1.1; have := hm2'.out; omega
      have e0 : wr.cell? ⟨b, o1 + k * 3, none⟩ = some (.string s) := hcc 0 _ rfl
      have e1 : wr.cell? ⟨b, o1 + k * 3 + 1, none⟩ = some (.int .i64 l) := hcc 1 _ rfl
      have e2 : wr.cell? ⟨b, o1 + k * 3 + 2, none⟩ = some (.slice A1 n1 c1) := hcc 2 _ rfl
      have f0 : wr.cell? ⟨b', o2 + k * 3, none⟩ = some (.string s') := hdd 0 _ rfl
      have f1 : wr.cell? ⟨b', o2 + k * 3 + 1, none⟩ = some (.int .i64 l') := hdd 1 _ rfl
      have f2 : wr.cell? ⟨b', o2 + k * 3 + 2, none⟩ = some (.slice A2 n2 c2) := hdd 2 _ rfl
      have hbr : b < wr.heap.size := Nat.lt_of_lt_of_le hab Bw.size
      have hbr' : b' < wr.heap.size := Nat.lt_of_lt_of_le hab' Bw.size
      replace hE := tSdS.more Bw.size hE
      replace hE' := tSdS.more Bw.size hE'
      clear hcc hdd hU hV
      have D1 : Below wr.heap.size wr (wr.drewN 1) := below_drewN (Below.refl _ _) 1
      have hF := tSdS.later hE D1
      have hF' := tSdS.later hE' D1
      by_cases hp : ((s, l, us) : Strip) = (s', l', vs)
      · have HD := Lib.hid (decide_eq_true hp)
        have HP := Lib.hid hp
        clear hp
        go_wp2
        go_region_held3 (fun w' => Below wr.heap.size wr w' ∧ w'.cell? ⟨w.heap.size, 0, none⟩ = some (.slice (some ⟨b, o1, none⟩) n c) ∧ w'.cell? ⟨w.heap.size + 1, 0, none⟩ = some (.slice (some ⟨b', o2, none⟩) n c'))
          (first | exact ⟨below_drewN (Below.refl _ _) _, c0, d0⟩ | exact ⟨G2, (by rw [G2.cell lx1]; exact c0), (by rw [G2.cell ly1]; exact d0)⟩)
          (first | (go_at_call 36; refine (spec_l26Same b (o1 + k * 3) b' (o2 + k * 3) s s' l l' A1 A2 n1 c1 n2 c2 us vs (wr.drewN 1) (by rw [D1.cell hbr]; exact e0) (by rw [D1.cell hbr']; exact f0) (by rw [D1.cell hbr]; exact e1) (by rw [D1.cell hbr']; exact f1) (by rw [D1.cell hbr]; exact e2) (by rw [D1.cell hbr']; exact f2) hF hF' n1b n2b).mono ?_; rw [HD.out]; rintro e w2 ⟨rfl, bel2⟩; have G2 := bel_trans D1 bel2))
        go_wp2
        go_roundw
        case rel => exact ⟨k + 1, by go_num, by omega, Lib.hid (by rw [M.take_at hX.out, M.take_at hY.out, H.out, HP.out]), bel_trans' hb hsw G2⟩
        case measure => simp [intOf]; omega
      · have HD := Lib.hid (decide_eq_false hp)
        have R := Lib.hid (show decide (xs = ys) = false by
          rw [decide_eq_false_iff_not]
          intro e
          have h1 := hX.out
          rw [e, hY.out] at h1
          injection h1 with h1
          exact hp h1.symm)
        clear hp
        go_wp2
        go_region_held3 (fun w' => Below wr.heap.size wr w' ∧ w'.cell? ⟨w.heap.size, 0, none⟩ = some (.slice (some ⟨b, o1, none⟩) n c) ∧ w'.cell? ⟨w.heap.size + 1, 0, none⟩ = some (.slice (some ⟨b', o2, none⟩) n c'))
          (first | exact ⟨below_drewN (Below.refl _ _) _, c0, d0⟩ | exact ⟨G2, (by rw [G2.cell lx1]; exact c0), (by rw [G2.cell ly1]; exact d0)⟩)
          (first | (go_at_call 36; refine (spec_l26Same b (o1 + k * 3) b' (o2 + k * 3) s s' l l' A1 A2 n1 c1 n2 c2 us vs (wr.drewN 1) (by rw [D1.cell hbr]; exact e0) (by rw [D1.cell hbr']; exact f0) (by rw [D1.cell hbr]; exact e1) (by rw [D1.cell hbr']; exact f1) (by rw [D1.cell hbr]; exact e2) (by rw [D1.cell hbr']; exact f2) hF hF' n1b n2b).mono ?_; rw [HD.out]; rintro e w2 ⟨rfl, bel2⟩; have G2 := bel_trans D1 bel2))
        go_wp2
        go_ret
        exact ⟨ret_bool (by rw [R.out]), bel_trans Bw G2⟩
    · go_wp2
      go_ret
      have h1 : xs = ys := by have := H.out; rwa [List.take_of_length_le (by rw [HLX.out]; omega), List.take_of_length_le (by rw [HLY.out]; omega)] at this
      exact ⟨ret_bool (by rw [h1]; simp), Bw⟩
end Go.Proofs.Ytacgcagpaecncaa
