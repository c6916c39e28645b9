import Derived.Test.YtffhodocjjkkoaaGreatFnExactStripsOfG8
import Derived.Lib.QuietBelow
import Derived.Test.YtffhodocjjkkoaaGreatFnExactStripsOfG13
import Derived.Test.YtffhodocjjkkoaaGreatFnExactStripsOfG5
import Derived.Test.YtffhodocjjkkoaaGreatFnExactStripsOfG6
import Derived.Test.YtffhodocjjkkoaaGreatFnExactStripsOfG3
import Derived.Test.YtffhodocjjkkoaaGreatFnExactStripsOfG4
set_option linter.unusedVariables false
set_option linter.unusedSimpArgs false
namespace Go.Proofs.YtffhodocjjkkoaaGreat
open Go.RowKit Go.Sort
set_option maxHeartbeats 4000000
set_option maxRecDepth 100000
set_option linter.unusedVariables false
set_option linter.unusedSimpArgs false
set_option synthInstance.maxSize 2000
set_option synthInstance.maxHeartbeats 400000
theorem impl_size_impl_Patch (A : Option Addr) (n c : Nat) (w : World) : Calls Tryz.prog 77 #[.slice A n c] w fun e w' => e = .returned (.int .i64 n) ∧ w = w' := by
  go_enter Tryz.func77, Tryz.ntmps77
  go_wp2
  go_ret
  exact ⟨rfl, rfl⟩
theorem impl_isSession (a0 : Int) (A1 : Option Addr) (n1 c1 : Nat) (A2 : Option Addr) (n2 c2 : Nat) (A3 : Option Addr) (n3 c3 : Nat) (A4 : Option Addr) (n4 c4 : Nat) (A5 : Option Addr) (n5 c5 : Nat) (x1 : List (List Int)) (x2 : List (List Clip_)) (x3 : List Int) (x4 : List Patch) (x5 : List Strip) (w : World) (h1 : tSS.R w w.heap.size [.slice A1 n1 c1] x1) (h2 : tTS.R w w.heap.size [.slice A2 n2 c2] x2) (h3 : tS.R w w.heap.size [.slice A3 n3 c3] x3) (h4 : tPS.R w w.heap.size [.slice A4 n4 c4] x4) (h5 : tM.R w w.heap.size [.slice A5 n5 c5] x5) (hn : hZ.sz ((a0, x1, x2, x3, x4, x5) : Sess) ≤ 100000000) :
    Calls Tryz.prog 40 #[.agg #[.int .i64 a0, .slice A1 n1 c1, .slice A2 n2 c2, .slice A3 n3 c3, .slice A4 n4 c4, .slice A5 n5 c5]] w fun e w' => e = .returned (.bool (M.sessOk (a0, x1, x2, x3, x4, x5))) ∧ Below w.heap.size w w' := by
  obtain ⟨W, hW⟩ : ∃ W, W = w.alloc (.cells #[.int .i64 a0, .slice A1 n1 c1, .slice A2 n2 c2, .slice A3 n3 c3, .slice A4 n4 c4, .slice A5 n5 c5] 40) := ⟨_, rfl⟩
  have B0 : Below w.heap.size w W := by rw [hW]; exact (Below.refl _ _).alloc (Nat.le_refl _) _
  have p0 : W.cell? ⟨w.heap.size, 0, none⟩ = some (.int .i64 a0) := by rw [hW]; simp [go_sem]
  have p1 : W.cell? ⟨w.heap.size, 1, none⟩ = some (.slice A1 n1 c1) := by rw [hW]; simp [go_sem]
  have p2 : W.cell? ⟨w.heap.size, 2, none⟩ = some (.slice A2 n2 c2) := by rw [hW]; simp [go_sem]
  have p3 : W.cell? ⟨w.heap.size, 3, none⟩ = some (.slice A3 n3 c3) := by rw [hW]; simp [go_sem]
  have p4 : W.cell? ⟨w.heap.size, 4, none⟩ = some (.slice A4 n4 c4) := by rw [hW]; simp [go_sem]
  have p5 : W.cell? ⟨w.heap.size, 5, none⟩ = some (.slice A5 n5 c5) := by rw [hW]; simp [go_sem]
  have lx : w.heap.size < W.heap.size := by rw [hW]; simp
  have HW := Lib.hid hW
  clear hW
  have k1 := tSS.later h1 B0
  have k2 := tTS.later h2 B0
  have k3 := tS.later h3 B0
  have k4 := tPS.later h4 B0
  have k5 := tM.later h5 B0
  rw [hZ_sz] at hn
  have r1 := sl_R.1 k1
  have L1 := Lib.hid r1.cap.1
  have r2 := sl_R.1 k2
  have L2 := Lib.hid r2.cap.1
  have r3 := sl_R.1 k3
  have L3 := Lib.hid r3.cap.1
  have r4 := sl_R.1 k4
  have L4 := Lib.hid r4.cap.1
  have r5 := sl_R.1 k5
  have L5 := Lib.hid r5.cap.1
  have z1 : hSS.sz x1 ≤ 100000000 := by omega
  have bn1 : n1 ≤ 100000000 := by have e : x1.length + hS.szL x1 = hSS.sz x1 := rfl; have := L1.out; omega
  have z2 : hTS.sz x2 ≤ 100000000 := by omega
  have bn2 : n2 ≤ 100000000 := by have e : x2.length + hT.szL x2 = hTS.sz x2 := rfl; have := L2.out; omega
  have z3 : hS.sz x3 ≤ 100000000 := by omega
  have bn3 : n3 ≤ 100000000 := by have e : x3.length + hI.szL x3 = hS.sz x3 := rfl; have := L3.out; omega
  have z4 : hPS.sz x4 ≤ 100000000 := by omega
  have bn4 : n4 ≤ 100000000 := by have e : x4.length + hP.szL x4 = hPS.sz x4 := rfl; have := L4.out; omega
  have z5 : hM.sz x5 ≤ 100000000 := by omega
  have bn5 : n5 ≤ 100000000 := by have e : x5.length + hSt.szL x5 = hM.sz x5 := rfl; have := L5.out; omega
  have hb1 : Hid (∀ x ∈ x1, x.length ≤ 1000000000) := Lib.hid (fun x hx => by
    have hq1 : x1.length + hS.szL x1 = hSS.sz x1 := rfl
    obtain ⟨i, hi⟩ := List.getElem?_of_mem hx
    have := hS.szL_at hi
    rw [hS_sz] at this
    omega)
  have hx3 := (tS_R.1 k3).ri
  clear hn
  clear h1 h2 h3 h4 h5
  have HS := Lib.hid (show M.sessOk (a0, x1, x2, x3, x4, x5) = (M.inn a0 0 1000 && M.srcOk x1 && decide (n2 ≤ 6) && M.mixOk x5 && decide (n3 = n2) && x3.all (M.idx n5) && decide (n4 = n5) && x2.all (fun t => M.trackOk t && M.hasS t n1) && x4.all M.effOk) by rw [M.sessOk]; simp only [L1.out, L2.out, L3.out, L4.out, L5.out])
  generalize M.sessOk (a0, x1, x2, x3, x4, x5) = ok at HS ⊢
  cases g0 : M.inn a0 0 1000
  · have R := Lib.hid (show ok = false by rw [HS.out]; simp only [g0, Bool.false_and, Bool.and_false, Bool.true_and])
    have G0 := Lib.hid g0
    clear g0
    go_enter Tryz.func40, Tryz.ntmps40
    go_wp2_with fail
    rw [← HW.out]
    go_wp2_with (first | (go_at_call 72; refine (impl_size_impl_Strip _ _ _ _).mono ?_; rintro e w' ⟨rfl, rfl⟩) | (go_at_call 77; refine (impl_size_impl_Patch _ _ _ _).mono ?_; rintro e w' ⟨rfl, rfl⟩) | (go_at_call 73; refine (impl_within _ _ _ _).mono ?_; rw [G0.out]; rintro e w' ⟨rfl, rfl⟩))
    go_ret
    exact ⟨ret_bool (by rw [R.out]), B0⟩
  have G0 := Lib.hid g0
  clear g0
  cases g1 : M.srcOk x1
  · have R := Lib.hid (show ok = false by rw [HS.out]; simp only [G0.out, g1, Bool.false_and, Bool.and_false, Bool.true_and])
    have G1 := Lib.hid g1
    clear g1
    go_enter Tryz.func40, Tryz.ntmps40
    go_wp2_with fail
    rw [← HW.out]
    go_wp2_with (first | (go_at_call 72; refine (impl_size_impl_Strip _ _ _ _).mono ?_; rintro e w' ⟨rfl, rfl⟩) | (go_at_call 77; refine (impl_size_impl_Patch _ _ _ _).mono ?_; rintro e w' ⟨rfl, rfl⟩) | (go_at_call 73; refine (impl_within _ _ _ _).mono ?_; rw [G0.out]; rintro e w' ⟨rfl, rfl⟩) | (go_at_call 74; refine (impl_areSources _ _ _ _ _ r1 hb1 (by omega)).mono ?_; rw [G1.out]; rintro e w' ⟨rfl, rfl⟩))
    go_ret
    exact ⟨ret_bool (by rw [R.out]), B0⟩
  have G1 := Lib.hid g1
  clear g1
  by_cases g2 : ¬ n2 ≤ 6
  · have R := Lib.hid (show ok = false by rw [HS.out]; simp only [G0.out, G1.out, decide_eq_false g2, Bool.false_and, Bool.and_false, Bool.true_and])
    have gg : decide ((6 : Int) < (n2 : Int)) = true := decide_eq_true (by omega)
    go_enter Tryz.func40, Tryz.ntmps40
    go_wp2_with fail
    rw [← HW.out]
    go_wp2_with (first | (go_at_call 72; refine (impl_size_impl_Strip _ _ _ _).mono ?_; rintro e w' ⟨rfl, rfl⟩) | (go_at_call 77; refine (impl_size_impl_Patch _ _ _ _).mono ?_; rintro e w' ⟨rfl, rfl⟩) | (go_at_call 73; refine (impl_within _ _ _ _).mono ?_; rw [G0.out]; rintro e w' ⟨rfl, rfl⟩) | (go_at_call 74; refine (impl_areSources _ _ _ _ _ r1 hb1 (by omega)).mono ?_; rw [G1.out]; rintro e w' ⟨rfl, rfl⟩))
    go_ret
    exact ⟨ret_bool (by rw [R.out]), B0⟩
  replace g2 : n2 ≤ 6 := Decidable.not_not.1 g2
  have gd2 : decide ((6 : Int) < (n2 : Int)) = false := decide_eq_false (by omega)
  cases g3 : M.mixOk x5
  · have R := Lib.hid (show ok = false by rw [HS.out]; simp only [G0.out, G1.out, decide_eq_true g2, g3, Bool.false_and, Bool.and_false, Bool.true_and])
    have G3 := Lib.hid g3
    clear g3
    go_enter Tryz.func40, Tryz.ntmps40
    go_wp2_with fail
    rw [← HW.out]
    go_wp2_with (first | (go_at_call 72; refine (impl_size_impl_Strip _ _ _ _).mono ?_; rintro e w' ⟨rfl, rfl⟩) | (go_at_call 77; refine (impl_size_impl_Patch _ _ _ _).mono ?_; rintro e w' ⟨rfl, rfl⟩) | (go_at_call 73; refine (impl_within _ _ _ _).mono ?_; rw [G0.out]; rintro e w' ⟨rfl, rfl⟩) | (go_at_call 74; refine (impl_areSources _ _ _ _ _ r1 hb1 (by omega)).mono ?_; rw [G1.out]; rintro e w' ⟨rfl, rfl⟩) | (go_at_call 75; refine (impl_isMixer _ _ _ _ _ k5 z5).mono ?_; rw [G3.out]; rintro e w2 ⟨rfl, bel2⟩; have s0 : w2.cell? ⟨w.heap.size, 0, none⟩ = some (.int .i64 a0) := (by rw [bel2.cell lx]; exact p0); have s1 : w2.cell? ⟨w.heap.size, 1, none⟩ = some (.slice A1 n1 c1) := (by rw [bel2.cell lx]; exact p1); have s2 : w2.cell? ⟨w.heap.size, 2, none⟩ = some (.slice A2 n2 c2) := (by rw [bel2.cell lx]; exact p2); have s3 : w2.cell? ⟨w.heap.size, 3, none⟩ = some (.slice A3 n3 c3) := (by rw [bel2.cell lx]; exact p3); have s4 : w2.cell? ⟨w.heap.size, 4, none⟩ = some (.slice A4 n4 c4) := (by rw [bel2.cell lx]; exact p4); have s5 : w2.cell? ⟨w.heap.size, 5, none⟩ = some (.slice A5 n5 c5) := (by rw [bel2.cell lx]; exact p5); have hy3 := hx3.later bel2))
    go_ret
    exact ⟨ret_bool (by rw [R.out]), bel_trans B0 bel2⟩
  have G3 := Lib.hid g3
  clear g3
  by_cases g4 : ¬ n3 = n2
  · have R := Lib.hid (show ok = false by rw [HS.out]; simp only [G0.out, G1.out, decide_eq_true g2, G3.out, decide_eq_false g4, Bool.false_and, Bool.and_false, Bool.true_and])
    have gg : ((n3 : Int) != (n2 : Int)) = true := by simp; omega
    go_enter Tryz.func40, Tryz.ntmps40
    go_wp2_with fail
    rw [← HW.out]
    go_wp2_with (first | (go_at_call 72; refine (impl_size_impl_Strip _ _ _ _).mono ?_; rintro e w' ⟨rfl, rfl⟩) | (go_at_call 77; refine (impl_size_impl_Patch _ _ _ _).mono ?_; rintro e w' ⟨rfl, rfl⟩) | (go_at_call 73; refine (impl_within _ _ _ _).mono ?_; rw [G0.out]; rintro e w' ⟨rfl, rfl⟩) | (go_at_call 74; refine (impl_areSources _ _ _ _ _ r1 hb1 (by omega)).mono ?_; rw [G1.out]; rintro e w' ⟨rfl, rfl⟩) | (go_at_call 75; refine (impl_isMixer _ _ _ _ _ k5 z5).mono ?_; rw [G3.out]; rintro e w2 ⟨rfl, bel2⟩; have s0 : w2.cell? ⟨w.heap.size, 0, none⟩ = some (.int .i64 a0) := (by rw [bel2.cell lx]; exact p0); have s1 : w2.cell? ⟨w.heap.size, 1, none⟩ = some (.slice A1 n1 c1) := (by rw [bel2.cell lx]; exact p1); have s2 : w2.cell? ⟨w.heap.size, 2, none⟩ = some (.slice A2 n2 c2) := (by rw [bel2.cell lx]; exact p2); have s3 : w2.cell? ⟨w.heap.size, 3, none⟩ = some (.slice A3 n3 c3) := (by rw [bel2.cell lx]; exact p3); have s4 : w2.cell? ⟨w.heap.size, 4, none⟩ = some (.slice A4 n4 c4) := (by rw [bel2.cell lx]; exact p4); have s5 : w2.cell? ⟨w.heap.size, 5, none⟩ = some (.slice A5 n5 c5) := (by rw [bel2.cell lx]; exact p5); have hy3 := hx3.later bel2))
    go_ret
    exact ⟨ret_bool (by rw [R.out]), bel_trans B0 bel2⟩
  replace g4 : n3 = n2 := Decidable.not_not.1 g4
  subst g4
  cases g5 : x3.all (M.idx n5)
  · have R := Lib.hid (show ok = false by rw [HS.out]; simp only [G0.out, G1.out, decide_eq_true g2, G3.out, decide_true, g5, Bool.false_and, Bool.and_false, Bool.true_and])
    have G5 := Lib.hid g5
    clear g5
    go_enter Tryz.func40, Tryz.ntmps40
    go_wp2_with fail
    rw [← HW.out]
    go_wp2_with (first | (go_at_call 72; refine (impl_size_impl_Strip _ _ _ _).mono ?_; rintro e w' ⟨rfl, rfl⟩) | (go_at_call 77; refine (impl_size_impl_Patch _ _ _ _).mono ?_; rintro e w' ⟨rfl, rfl⟩) | (go_at_call 73; refine (impl_within _ _ _ _).mono ?_; rw [G0.out]; rintro e w' ⟨rfl, rfl⟩) | (go_at_call 74; refine (impl_areSources _ _ _ _ _ r1 hb1 (by omega)).mono ?_; rw [G1.out]; rintro e w' ⟨rfl, rfl⟩) | (go_at_call 75; refine (impl_isMixer _ _ _ _ _ k5 z5).mono ?_; rw [G3.out]; rintro e w2 ⟨rfl, bel2⟩; have s0 : w2.cell? ⟨w.heap.size, 0, none⟩ = some (.int .i64 a0) := (by rw [bel2.cell lx]; exact p0); have s1 : w2.cell? ⟨w.heap.size, 1, none⟩ = some (.slice A1 n1 c1) := (by rw [bel2.cell lx]; exact p1); have s2 : w2.cell? ⟨w.heap.size, 2, none⟩ = some (.slice A2 n3 c2) := (by rw [bel2.cell lx]; exact p2); have s3 : w2.cell? ⟨w.heap.size, 3, none⟩ = some (.slice A3 n3 c3) := (by rw [bel2.cell lx]; exact p3); have s4 : w2.cell? ⟨w.heap.size, 4, none⟩ = some (.slice A4 n4 c4) := (by rw [bel2.cell lx]; exact p4); have s5 : w2.cell? ⟨w.heap.size, 5, none⟩ = some (.slice A5 n5 c5) := (by rw [bel2.cell lx]; exact p5); have hy3 := hx3.later bel2) | (go_at_call 76; refine (impl_areIndices _ _ _ _ _ _ hy3 (by omega) (by omega)).mono ?_; rw [G5.out]; rintro e w' ⟨rfl, rfl⟩))
    go_ret
    exact ⟨ret_bool (by rw [R.out]), bel_trans B0 bel2⟩
  have G5 := Lib.hid g5
  clear g5
  by_cases g6 : ¬ n4 = n5
  · have R := Lib.hid (show ok = false by rw [HS.out]; simp only [G0.out, G1.out, decide_eq_true g2, G3.out, decide_true, G5.out, decide_eq_false g6, Bool.false_and, Bool.and_false, Bool.true_and])
    have gg : ((n4 : Int) != (n5 : Int)) = true := by simp; omega
    go_enter Tryz.func40, Tryz.ntmps40
    go_wp2_with fail
    rw [← HW.out]
    go_wp2_with (first | (go_at_call 72; refine (impl_size_impl_Strip _ _ _ _).mono ?_; rintro e w' ⟨rfl, rfl⟩) | (go_at_call 77; refine (impl_size_impl_Patch _ _ _ _).mono ?_; rintro e w' ⟨rfl, rfl⟩) | (go_at_call 73; refine (impl_within _ _ _ _).mono ?_; rw [G0.out]; rintro e w' ⟨rfl, rfl⟩) | (go_at_call 74; refine (impl_areSources _ _ _ _ _ r1 hb1 (by omega)).mono ?_; rw [G1.out]; rintro e w' ⟨rfl, rfl⟩) | (go_at_call 75; refine (impl_isMixer _ _ _ _ _ k5 z5).mono ?_; rw [G3.out]; rintro e w2 ⟨rfl, bel2⟩; have s0 : w2.cell? ⟨w.heap.size, 0, none⟩ = some (.int .i64 a0) := (by rw [bel2.cell lx]; exact p0); have s1 : w2.cell? ⟨w.heap.size, 1, none⟩ = some (.slice A1 n1 c1) := (by rw [bel2.cell lx]; exact p1); have s2 : w2.cell? ⟨w.heap.size, 2, none⟩ = some (.slice A2 n3 c2) := (by rw [bel2.cell lx]; exact p2); have s3 : w2.cell? ⟨w.heap.size, 3, none⟩ = some (.slice A3 n3 c3) := (by rw [bel2.cell lx]; exact p3); have s4 : w2.cell? ⟨w.heap.size, 4, none⟩ = some (.slice A4 n4 c4) := (by rw [bel2.cell lx]; exact p4); have s5 : w2.cell? ⟨w.heap.size, 5, none⟩ = some (.slice A5 n5 c5) := (by rw [bel2.cell lx]; exact p5); have hy3 := hx3.later bel2) | (go_at_call 76; refine (impl_areIndices _ _ _ _ _ _ hy3 (by omega) (by omega)).mono ?_; rw [G5.out]; rintro e w' ⟨rfl, rfl⟩))
    go_ret
    exact ⟨ret_bool (by rw [R.out]), bel_trans B0 bel2⟩
  replace g6 : n4 = n5 := Decidable.not_not.1 g6
  subst g6
  have HS2 := Lib.hid (show ok = (x2.all (fun t => M.trackOk t && M.hasS t n1) && x4.all M.effOk) by rw [HS.out]; simp only [G0.out, G1.out, decide_eq_true g2, G3.out, G5.out, decide_true, Bool.true_and, Bool.and_true])
  clear HS
  go_enter Tryz.func40, Tryz.ntmps40
  go_wp2_with fail
  rw [← HW.out]
  go_wp2_with (first | (go_at_call 72; refine (impl_size_impl_Strip _ _ _ _).mono ?_; rintro e w' ⟨rfl, rfl⟩) | (go_at_call 77; refine (impl_size_impl_Patch _ _ _ _).mono ?_; rintro e w' ⟨rfl, rfl⟩) | (go_at_call 73; refine (impl_within _ _ _ _).mono ?_; rw [G0.out]; rintro e w' ⟨rfl, rfl⟩) | (go_at_call 74; refine (impl_areSources _ _ _ _ _ r1 hb1 (by omega)).mono ?_; rw [G1.out]; rintro e w' ⟨rfl, rfl⟩) | (go_at_call 75; refine (impl_isMixer _ _ _ _ _ k5 z5).mono ?_; rw [G3.out]; rintro e w2 ⟨rfl, bel2⟩; have s0 : w2.cell? ⟨w.heap.size, 0, none⟩ = some (.int .i64 a0) := (by rw [bel2.cell lx]; exact p0); have s1 : w2.cell? ⟨w.heap.size, 1, none⟩ = some (.slice A1 n1 c1) := (by rw [bel2.cell lx]; exact p1); have s2 : w2.cell? ⟨w.heap.size, 2, none⟩ = some (.slice A2 n3 c2) := (by rw [bel2.cell lx]; exact p2); have s3 : w2.cell? ⟨w.heap.size, 3, none⟩ = some (.slice A3 n3 c3) := (by rw [bel2.cell lx]; exact p3); have s4 : w2.cell? ⟨w.heap.size, 4, none⟩ = some (.slice A4 n4 c4) := (by rw [bel2.cell lx]; exact p4); have s5 : w2.cell? ⟨w.heap.size, 5, none⟩ = some (.slice A5 n4 c5) := (by rw [bel2.cell lx]; exact p5); have hy3 := hx3.later bel2) | (go_at_call 76; refine (impl_areIndices _ _ _ _ _ _ hy3 (by omega) (by omega)).mono ?_; rw [G5.out]; rintro e w' ⟨rfl, rfl⟩))
  have B2 := bel_trans B0 bel2
  have lV : w.heap.size < w2.heap.size := by have := bel2.size; omega
  replace r2 := r2.later bel2
  replace r4 := r4.later bel2
  go_loopw [60] (fun i wr => ∃ k : Nat, i = .int .i64 k ∧ k ≤ n3 ∧ Hid (ok = ((x2.drop k).all (fun t => M.trackOk t && M.hasS t n1) && x4.all M.effOk)) ∧ Below w2.heap.size w2 wr) (fun i _ => n3 - (intOf i).toNat)
  case atStart => exact ⟨0, rfl, by omega, Lib.hid HS2.out, Below.refl _ _⟩
  case round =>
    obtain ⟨k, rfl, hk, H, Bw⟩ := hrel
    have BW := bel_trans B2 Bw
    by_cases hlt : k < n3
    · obtain ⟨bt, ot, A7, n7, c7, t, rfl, hbt, Y, e0, hT, hra, h7⟩ := track_cell (r2.below Bw) z2 hlt
      have hd := Lib.hid (M.drop_at Y.out)
      have hk0 : (0 : Int) ≤ (k : Int) := by omega
      have hkn : (k : Int) < (n3 : Int) := by omega
      obtain ⟨U, hU⟩ : ∃ U, U = wr.alloc (.cells #[.slice A7 n7 c7] 89) := ⟨_, rfl⟩
      have GU : Below wr.heap.size wr U := by rw [hU]; exact (Below.refl _ _).alloc (Nat.le_refl _) _
      have u0 : U.cell? ⟨wr.heap.size, 0, none⟩ = some (.slice A7 n7 c7) := by rw [hU, cell_of_row _ wr.heap.size 0 _ 89 (0, 0) (heap_alloc_new wr _)]; rfl
      have BU := bel_trans Bw GU
      have q1 : U.cell? ⟨w.heap.size, 1, none⟩ = some (.slice A1 n1 c1) := by rw [BU.cell lV]; exact s1
      have HU := Lib.hid hU
      clear hU
      have hry := (hra.more Bw.size).later GU
      have uu0 := cell_regrown u0
      have qq1 := cell_regrown q1
      have cS : ∀ d os, Calls Tryz.prog 80 #[.slice A1 n1 c1] (grow (redrawn U d) os) fun e w'' => e = .returned (.int .i64 n1) ∧ ∃ p : Regrown, w'' = grow (redrawn U p.d) p.os := fun d os => Calls.regrown_of (to_bel (impl_size_int64S _ _ _ _))
      have cT : ∀ d os, Calls Tryz.prog 78 #[.agg #[.slice A7 n7 c7]] (grow (redrawn U d) os) fun e w'' => e = .returned (.bool (M.trackOk t)) ∧ ∃ p : Regrown, w'' = grow (redrawn U p.d) p.os := fun d os => Calls.regrown_of (impl_isTrack _ _ _ _ _ (hry.later (below_regrown U d os)) (by omega))
      have cH : ∀ d os, Calls Tryz.prog 79 #[.agg #[.slice A7 n7 c7], .int .i64 n1] (grow (redrawn U d) os) fun e w'' => e = .returned (.bool (M.hasS t n1)) ∧ ∃ p : Regrown, w'' = grow (redrawn U p.d) p.os := fun d os => Calls.regrown_of (impl_hasSources _ _ _ _ _ _ (hry.later (below_regrown U d os)) (by omega))
      clear u0 q1
      cases ht : M.trackOk t
      · have R := Lib.hid (show ok = false by rw [H.out, hd.out, List.all_cons]; simp only [ht, Bool.false_and])
        rw [ht] at cT
        clear ht
        go_wp2_with fail
        rw [← HU.out]
        clear e0
        (refine wp_region_quiet_below (by kernel_rfl) (by kernel_rfl) ?_; (repeat (go_big_quiet_step ((first | exact cS _ _ | exact cT _ _ | exact cH _ _)))); refine wpQuiet_nil ?_; intro _ hw'; obtain ⟨⟨dq, osq⟩, hw''⟩ := hw'; subst hw'')
        go_wp2
        go_ret
        exact ⟨ret_bool (by rw [R.out]), bel_trans BW (bel_trans GU (below_regrown U dq osq))⟩
      · rw [ht] at cT
        cases hh : M.hasS t n1
        · have R := Lib.hid (show ok = false by rw [H.out, hd.out, List.all_cons]; simp only [ht, hh, Bool.false_and, Bool.and_false])
          rw [hh] at cH
          clear ht hh
          go_wp2_with fail
          rw [← HU.out]
          clear e0
          (refine wp_region_quiet_below (by kernel_rfl) (by kernel_rfl) ?_; (repeat (go_big_quiet_step ((first | exact cS _ _ | exact cT _ _ | exact cH _ _)))); refine wpQuiet_nil ?_; intro _ hw'; obtain ⟨⟨dq, osq⟩, hw''⟩ := hw'; subst hw'')
          go_wp2
          go_ret
          exact ⟨ret_bool (by rw [R.out]), bel_trans BW (bel_trans GU (below_regrown U dq osq))⟩
        · have R := Lib.hid (show ok = ((x2.drop (k + 1)).all (fun t => M.trackOk t && M.hasS t n1) && x4.all M.effOk) by rw [H.out, hd.out, List.all_cons]; simp only [ht, hh, Bool.true_and])
          rw [hh] at cH
          clear ht hh
          go_wp2_with fail
          rw [← HU.out]
          clear e0
          (refine wp_region_quiet_below (by kernel_rfl) (by kernel_rfl) ?_; (repeat (go_big_quiet_step ((first | exact cS _ _ | exact cT _ _ | exact cH _ _)))); refine wpQuiet_nil ?_; intro _ hw'; obtain ⟨⟨dq, osq⟩, hw''⟩ := hw'; subst hw'')
          go_wp2
          go_roundw
          case rel => exact ⟨k + 1, by go_num, by omega, R, bel_trans Bw (bel_trans GU (below_regrown U dq osq))⟩
          case measure => simp [intOf]; omega
    · have HS4 := Lib.hid (show ok = x4.all M.effOk by rw [H.out, List.drop_eq_nil_of_le (by rw [L2.out]; omega)]; rfl)
      have q4 : wr.cell? ⟨w.heap.size, 4, none⟩ = some (.slice A4 n4 c4) := by rw [Bw.cell lV]; exact s4
      go_wp2_with fail
      clear H hk hlt
      obtain ⟨wo, rfl⟩ : ∃ wo : World, wo = wr := ⟨_, rfl⟩
      go_loopw [79] (fun i wr => ∃ k : Nat, i = .int .i64 k ∧ k ≤ n4 ∧ Hid (ok = (x4.drop k).all M.effOk) ∧ Below w2.heap.size w2 wr) (fun i _ => n4 - (intOf i).toNat)
      case atStart => exact ⟨0, rfl, by omega, Lib.hid HS4.out, Bw⟩
      case round =>
        obtain ⟨k, rfl, hk, H, Bw2⟩ := hrel
        have BW := bel_trans B2 Bw2
        by_cases hlt2 : k < n4
        · obtain ⟨bp, op, b0, B1, m1, d1, B2, m2, d2, B3, m3, d3, y1, y2, y3, rfl, hbp, Y, e0, e1, e2, e3, t1, t2, t3, hz⟩ := patch_cell (r4.below Bw2) z4 hlt2
          have hd := Lib.hid (M.drop_at Y.out)
          obtain ⟨U, hU⟩ : ∃ U, U = wr.alloc (.cells #[.int .i64 b0, .slice B1 m1 d1, .slice B2 m2 d2, .slice B3 m3 d3] 107) := ⟨_, rfl⟩
          have GU : Below wr.heap.size wr U := by rw [hU]; exact (Below.refl _ _).alloc (Nat.le_refl _) _
          have HU := Lib.hid hU
          clear hU
          have s1 := tSS.later (tSS.more Bw2.size t1) GU
          have s2 := tNS.later (tNS.more Bw2.size t2) GU
          have s3 := tS.later (tS.more Bw2.size t3) GU
          have hk0 : (0 : Int) ≤ (k : Int) := by omega
          have hkn : (k : Int) < (n4 : Int) := by omega
          cases he : M.effOk (b0, y1, y2, y3)
          · have R := Lib.hid (show ok = false by rw [H.out, hd.out, List.all_cons, he]; rfl)
            have HE := Lib.hid he
            clear he
            go_wp2_with fail
            rw [← HU.out]
            refine (impl_isEffect _ _ _ _ _ _ _ _ _ _ _ _ _ U s1 s2 s3 hz).mono ?_
            rw [HE.out]
            rintro e w5 ⟨rfl, bel5⟩
            go_wp2
            go_ret
            exact ⟨ret_bool (by rw [R.out]), bel_trans BW (bel_trans GU bel5)⟩
          · have R := Lib.hid (show ok = (x4.drop (k + 1)).all M.effOk by rw [H.out, hd.out, List.all_cons, he]; rfl)
            have HE := Lib.hid he
            clear he
            go_wp2_with fail
            rw [← HU.out]
            refine (impl_isEffect _ _ _ _ _ _ _ _ _ _ _ _ _ U s1 s2 s3 hz).mono ?_
            rw [HE.out]
            rintro e w5 ⟨rfl, bel5⟩
            go_wp2
            go_roundw
            case rel => exact ⟨k + 1, by go_num, by omega, R, bel_trans Bw2 (bel_trans GU bel5)⟩
            case measure => simp [intOf]; omega
        · have R := Lib.hid (show ok = true by rw [H.out, List.drop_eq_nil_of_le (by rw [L4.out]; omega)]; rfl)
          go_wp2
          go_ret
          exact ⟨ret_bool (by rw [R.out]), BW⟩
end Go.Proofs.YtffhodocjjkkoaaGreat
namespace Go.Proofs.YtffhodocjjkkoaaGreat
open Go.RowKit Go.Sort
set_option maxHeartbeats 4000000
set_option maxRecDepth 100000
set_option linter.unusedVariables false
set_option linter.unusedSimpArgs false
set_option synthInstance.maxSize 2000
set_option synthInstance.maxHeartbeats 400000
section
variable {L : Nat} {src : List (List Int)} {ts : List (List Clip_)} {fs : List Int} {ps : List Patch} {ms : List Strip}
theorem M.outs_len (h : M.SO L src ts fs ps ms) : (M.outs L src ts fs ps ms).length = ms.length := (M.stp_ok h _ (Nat.le_refl _)).2.len
theorem M.outs_cel (h : M.SO L src ts fs ps ms) {k : Nat} (hk : k < ms.length) : (M.cel (M.outs L src ts fs ps ms) k).length = M.nT L ms := ((M.stp_ok h _ (Nat.le_refl _)).2.cel hk).1
theorem M.rdyL_at {k : Nat} (hk : k < ms.length) : (M.rdyL ms)[k]? = some (M.ent ms k + (M.stri ms k).2.1) := by
  rw [M.rdyL, List.getElem?_map, List.getElem?_range hk]
  rfl
theorem M.rdyL_len : (M.rdyL ms).length = ms.length := by rw [M.rdyL, List.length_map, List.length_range]
end
def M.mixR (x : Sess) : List Int × Int := if M.sessOk x then (M.mixS x.1.toNat x.2.1 x.2.2.1 x.2.2.2.1 x.2.2.2.2.1 x.2.2.2.2.2, 0) else ([], 1)
end Go.Proofs.YtffhodocjjkkoaaGreat
namespace Go.Proofs.YtffhodocjjkkoaaGreat
open Go.RowKit Go.Sort
set_option maxHeartbeats 4000000
set_option maxRecDepth 100000
set_option linter.unusedVariables false
set_option linter.unusedSimpArgs false
set_option synthInstance.maxSize 2000
set_option synthInstance.maxHeartbeats 400000
def M.stripsR (x : Sess) : List (List Int) × Int := if M.sessOk x then (M.strS x.1.toNat x.2.1 x.2.2.1 x.2.2.2.1 x.2.2.2.2.1 x.2.2.2.2.2, 0) else ([], 1)
theorem M.stripsR_ok {L : Nat} {src : List (List Int)} {ts : List (List Clip_)} {fs : List Int} {ps : List Patch} {ms : List Strip} (h : M.sessOk ((L : Int), src, ts, fs, ps, ms) = true) : M.stripsR ((L : Int), src, ts, fs, ps, ms) = (M.strS L src ts fs ps ms, 0) := by
  rw [M.stripsR, h]
  rfl
theorem M.stripsR_no {x : Sess} (h : M.sessOk x = false) : M.stripsR x = ([], 1) := by
  rw [M.stripsR, h]
  rfl
section
variable {L : Nat} {src : List (List Int)} {ts : List (List Clip_)} {fs : List Int} {ps : List Patch} {ms : List Strip}
theorem M.strS_len : (M.strS L src ts fs ps ms).length = ms.length := by rw [M.strS, List.length_map, List.length_range]
theorem M.strS_at {k : Nat} (hk : k < ms.length) : (M.strS L src ts fs ps ms)[k]? = some (M.sl (M.cel (M.outs L src ts fs ps ms) k) (M.ent ms k + (M.stri ms k).2.1) L) := by
  rw [M.strS, List.getElem?_map, List.getElem?_range hk]
  rfl
end
theorem set_seam {α : Type} {A B : List α} {k : Nat} {y : α} (hA : A[k]? = some y) (hl : A.length = B.length) : (A.take k ++ B.drop k).set k y = A.take (k + 1) ++ B.drop (k + 1) := by
  have hk : k < A.length := (List.getElem?_eq_some_iff.1 hA).1
  rw [List.set_append_right _ _ (by rw [List.length_take]; omega), List.length_take, Nat.min_eq_left (by omega), Nat.sub_self]
  rw [M.take_at hA, List.append_assoc]
  congr 1
  rw [List.drop_eq_getElem_cons (by omega), List.set_cons_zero]
  rfl
theorem impl_StripsOf (a0 : Int) (A1 : Option Addr) (n1 c1 : Nat) (A2 : Option Addr) (n2 c2 : Nat) (A3 : Option Addr) (n3 c3 : Nat) (A4 : Option Addr) (n4 c4 : Nat) (A5 : Option Addr) (n5 c5 : Nat) (src : List (List Int)) (ts : List (List Clip_)) (fs : List Int) (ps : List Patch) (ms : List Strip) (w : World)
    (h1 : tSS.R w w.heap.size [.slice A1 n1 c1] src) (h2 : tTS.R w w.heap.size [.slice A2 n2 c2] ts) (h3 : tS.R w w.heap.size [.slice A3 n3 c3] fs) (h4 : tPS.R w w.heap.size [.slice A4 n4 c4] ps) (h5 : tM.R w w.heap.size [.slice A5 n5 c5] ms) (hn : hZ.sz ((a0, src, ts, fs, ps, ms) : Sess) ≤ 100000000) :
    Calls Tryz.prog 18 #[.agg #[.int .i64 a0, .slice A1 n1 c1, .slice A2 n2 c2, .slice A3 n3 c3, .slice A4 n4 c4, .slice A5 n5 c5]] w (RetSS w (M.stripsR (a0, src, ts, fs, ps, ms))) := by
  obtain ⟨W, hW, B0, sW, p0, p1, p2, p3, p4, p5, pf⟩ := newbox6 w (.int .i64 a0) (.slice A1 n1 c1) (.slice A2 n2 c2) (.slice A3 n3 c3) (.slice A4 n4 c4) (.slice A5 n5 c5) 40
  have HW := Lib.hid hW
  have lW : w.heap.size < W.heap.size := by omega
  have k1 := tSS.later h1 B0
  have k2 := tTS.later h2 B0
  have k3 := tS.later h3 B0
  have k4 := tPS.later h4 B0
  have k5 := tM.later h5 B0
  clear hW
  cases hok : M.sessOk ((a0, src, ts, fs, ps, ms) : Sess)
  · have R := Lib.hid (M.stripsR_no hok)
    have OK := Lib.hid hok
    clear hok
    go_enter Tryz.func18, Tryz.ntmps18
    go_wp2_with fail
    rw [← HW.out]
    refine (impl_isSession a0 _ _ c1 _ _ c2 _ _ c3 _ _ c4 _ _ c5 src ts fs ps ms W k1 k2 k3 k4 k5 hn).mono ?_
    rw [OK.out]
    rintro e w1 ⟨rfl, bel1⟩
    go_wp2_with fail
    go_ret2
    rw [R.out]
    exact ⟨_, rfl, OS.nil _ _ _ _, bel_trans B0 bel1⟩
  · obtain ⟨L, rfl, hO⟩ := M.SO_of hok
    have R := Lib.hid (M.stripsR_ok hok)
    have OK := Lib.hid hok
    clear hok
    go_enter Tryz.func18, Tryz.ntmps18
    go_wp2_with fail
    rw [← HW.out]
    refine (impl_isSession (L : Int) _ _ c1 _ _ c2 _ _ c3 _ _ c4 _ _ c5 src ts fs ps ms W k1 k2 k3 k4 k5 hn).mono ?_
    rw [OK.out]
    rintro e w1 ⟨rfl, bel1⟩
    have s1 := bel1.size
    have P0 := (bel1.cell (p := ⟨w.heap.size, 0, none⟩) (by show w.heap.size < _; omega)).trans p0
    have P1 := (bel1.cell (p := ⟨w.heap.size, 1, none⟩) (by show w.heap.size < _; omega)).trans p1
    have P2 := (bel1.cell (p := ⟨w.heap.size, 2, none⟩) (by show w.heap.size < _; omega)).trans p2
    have P3 := (bel1.cell (p := ⟨w.heap.size, 3, none⟩) (by show w.heap.size < _; omega)).trans p3
    have P4 := (bel1.cell (p := ⟨w.heap.size, 4, none⟩) (by show w.heap.size < _; omega)).trans p4
    have P5 := (bel1.cell (p := ⟨w.heap.size, 5, none⟩) (by show w.heap.size < _; omega)).trans p5
    have Q5 := Lib.hid (sl_R.1 h5).cap.1
    have hmn := M.mix_n hO.mix
    rw [Q5.out] at hmn
    have hnT := M.nT_le hO
    have hL := hO.l
    obtain ⟨n, hnn⟩ : ∃ n, n = M.nT L ms := ⟨_, rfl⟩
    have HN := Lib.hid hnn
    rw [← hnn] at hnT
    clear hnn
    go_wp2_with fail
    refine (impl_strips L _ _ c1 _ _ c2 _ _ c3 _ _ c4 _ _ c5 src ts fs ps ms w1 (tSS.later k1 bel1) (tTS.later k2 bel1) (tS.later k3 bel1) (tPS.later k4 bel1) (tM.later k5 bel1) hn hO).mono ?_
    rintro e K ⟨vO, vR, G, rfl, oO, oR, hG, bel⟩
    have sK := bel.size
    obtain ⟨AO, cO, eO⟩ := oO.shape
    rw [M.outs_len hO, Q5.out] at eO
    subst eO
    obtain ⟨AR, cR, eR, rR⟩ := oR.shape
    rw [M.rdyL_len, Q5.out] at eR rR
    subst eR
    obtain ⟨gR, rfl, hgR1, hgR2⟩ := oR.form' (by omega)
    obtain ⟨css0, Fs0, hO0, -⟩ := oO.open (k := 0) (by rw [M.outs_len hO, Q5.out]; omega)
    obtain ⟨g, rfl, hGg, -, hgK, -⟩ := hO0.form (by rw [M.outs_len hO, Q5.out]; omega)
    have hgg := hG g hGg
    have hgne : g ≠ gR := fun e => hgg.2.2 (by rw [e]; rfl)
    have hll : (M.strS L src ts fs ps ms).length = (M.outs L src ts fs ps ms).length := by rw [M.strS_len, M.outs_len hO]
    have HLL := Lib.hid hll
    have P0K : K.cell? ⟨w.heap.size, 0, none⟩ = some (.int .i64 L) := by rw [bel.cell (by show w.heap.size < _; omega)]; exact P0
    have BK := bel_trans B0 (bel_trans bel1 bel)
    clear hO0 hll css0 Fs0
    go_wp2_with fail
    go_loopw [18] (fun i wr => ∃ k : Nat, i = .int .i64 k ∧ k ≤ n5 ∧ ∃ G' : Nat → Prop, OS tS 24 wr G' (.slice (some ⟨g, 0, none⟩) n5 cO) ((M.strS L src ts fs ps ms).take k ++ (M.outs L src ts fs ps ms).drop k) ∧ (∀ x, G' x → w1.heap.size ≤ x ∧ x < wr.heap.size) ∧ Chg (fun x => x = g) K wr) (fun i _ => n5 - (intOf i).toNat)
    case atStart => exact ⟨0, rfl, by omega, G, by simpa using oO, fun x hx => ⟨(hG x hx).1, (hG x hx).2.1⟩, Chg.refl _ _⟩
    case round =>
      obtain ⟨k, rfl, hk, G', os, hG', ch⟩ := hrel
      have sch := ch.size
      by_cases hlt : k < n5
      · have hlc : ((M.strS L src ts fs ps ms).take k ++ (M.outs L src ts fs ps ms).drop k).length = n5 := by
          rw [List.length_append, List.length_take, List.length_drop, HLL.out, M.outs_len hO, Q5.out]; omega
        have hcur : ((M.strS L src ts fs ps ms).take k ++ (M.outs L src ts fs ps ms).drop k)[k]? = some (M.cel (M.outs L src ts fs ps ms) k) := by
          have hk2 : k < (M.outs L src ts fs ps ms).length := by rw [M.outs_len hO, Q5.out]; exact hlt
          rw [List.getElem?_append_right (by rw [List.length_take]; omega), List.length_take, HLL.out, Nat.min_eq_left (by omega), Nat.sub_self, List.getElem?_drop, Nat.add_zero, M.cel, List.getElem?_eq_getElem hk2]
          rfl
        have HCUR := Lib.hid hcur
        have RN_ := RSN.of_os (F := fun _ => False) os (fun _ h => h.elim)
        obtain ⟨bO, oO_, cO', AX, cX, x, eO', hbO, -, hx1, hx2, hx3, hx4⟩ := RN_.at (k := k) (by rw [hlc]; exact hlt)
        simp only [Value.slice.injEq, Option.some.injEq, Addr.mk.injEq] at eO'
        obtain ⟨⟨rfl, rfl, -⟩, -, -⟩ := eO'
        have hxc : M.cel (M.outs L src ts fs ps ms) k = x := Option.some.inj (hcur.symm.trans hx1)
        have hxl : x.length = n := by rw [← hxc, HN.out]; exact M.outs_cel hO (by rw [Q5.out]; exact hlt)
        rw [hxl] at hx2 hx3 hx4
        rw [Nat.zero_add] at hx4
        have HXC := Lib.hid hxc
        obtain ⟨fr, hfr⟩ : ∃ fr : Nat, M.ent ms k + (M.stri ms k).2.1 = (fr : Int) := ⟨(M.ent ms k + (M.stri ms k).2.1).toNat, by
          have := M.ent_bd hO.mix k; have := (M.stri_ok hO.mix (i := k) (by rw [Q5.out]; exact hlt)).1; omega⟩
        have hfrb : fr ≤ 100000 := by have := M.ent_bd hO.mix k; have := (M.stri_ok hO.mix (i := k) (by rw [Q5.out]; exact hlt)).1; omega
        have hry := M.rdyL_at (ms := ms) (k := k) (by rw [Q5.out]; exact hlt)
        rw [hfr] at hry
        have oRr := oR.chg ch (fun x hx (e : x = _) => by simp only [Value.ownBlock, Option.some.injEq] at hx; omega)
        obtain ⟨y, hy1, hy2, -, -, -⟩ := oRr.at' (k := k) hlt
        obtain rfl : y = (fr : Int) := Option.some.inj (hy1.symm.trans hry)
        have HFR := Lib.hid hfr
        have q0 : wr.cell? ⟨w.heap.size, 0, none⟩ = some (.int .i64 L) := by rw [ch.cell (by show w.heap.size < _; omega) (fun e => by have e' : w.heap.size = g := e; omega)]; exact P0K
        have y0 := cell_regrown q0
        have yR := cell_regrown hy2
        have D1 : Below wr.heap.size wr wr.drew := below_drewN (Below.refl _ _) 1
        have hd1 : wr.drew.heap.size = wr.heap.size := rfl
        have lg : g < wr.heap.size := by omega
        have lgR : gR < wr.heap.size := by omega
        have kk0 : (0 : Int) ≤ (k : Int) := by omega
        have kk1 : (k : Int) < (n5 : Int) := by omega
        have hx3' := hx3.below D1
        have HLC := Lib.hid hlc
        clear hxc hcur hx1 hy1 hry hfr hlc RN_ hxl
        go_wp2_with fail
        (refine wp_region_fresh2 [0, 1, 2, 3, 4, 5, 7] [6, 8] 2 (.one 9 (.first 10 .rest)) [11] [11] (by kernel_rfl) (by kernel_rfl) ?_; simp only [pickOps]; simp only [List.filterMap, List.getElem?_cons_succ, List.getElem?_cons_zero]; (repeat (go_big_quiet_step (fail))); refine wpQuiet_nil ?_; (repeat (go_big_quiet_step (fail))); refine wpQuiet_nil ?_)
        refine seqT_one2 rfl ?_
        go_wp2_with fail
        refine (impl_slice AX n cX x fr L _ hx3'.1 (by omega) (by omega) (by omega)).mono ?_
        rintro e w2 ⟨v2, rfl, own2, bel2⟩
        obtain ⟨A6, c6, e6, -⟩ := own_shape own2
        rw [M.sl_len] at e6
        subst e6
        have B2 := bel_trans D1 bel2
        have s2 := bel2.size
        go_wp2_with fail
        refine ⟨regrown_of_below B2, ?_⟩
        (refine seqT_first2 rfl ?_; (repeat (go_big_quiet_step (fail))); refine wpQuiet_nil ?_)
        refine seqT_rest2 ?_
        have os2 := os.keep (w' := w2) (fun b hb => B2.block b (hG' b hb).2)
        obtain ⟨css, Fs, oh, cs, hcs, ho⟩ := os2.open (k := k) (by rw [HLC.out]; exact hlt)
        obtain ⟨u0_, rfl⟩ : ∃ u, cs = [u] := List.length_eq_one_iff.1 (tS.rlen (tS.read ho))
        have hcell := oh.cell hcs (j := 0) (u := u0_) rfl
        have hs1 : tS.s = 1 := rfl
        rw [hs1, Nat.mul_one, Nat.add_zero] at hcell
        obtain ⟨hcell1, hcell2⟩ := hcell
        have oset := oh.set hcs 0 (by decide) (.slice A6 L c6)
        rw [hs1, Nat.mul_one, Nat.add_zero] at oset
        have own3 : tS.O (w2.setCell ⟨g, k, none⟩ (.slice A6 L c6)) (Iv wr.heap.size w2.heap.size) [.slice A6 L c6] (M.sl x fr L) := by
          refine tS.okeep (fun b hb => ?_) (tS_O.2 (OI.os own2))
          exact (Chg.set (F := fun x => x = g) w2 g k _ rfl).block b hb.2 (fun e => by have := hb.1; omega)
        rw [show [u0_].set 0 (.slice A6 L c6) = [.slice A6 L c6] from rfl] at oset
        have O3 := oset.1.fill' oset.2 own3 (fun b hb hg => by have := hb.1; have := (hG' b hg).2; omega)
        have HY := Lib.hid (M.strS_at (L := L) (src := src) (ts := ts) (fs := fs) (ps := ps) (ms := ms) (k := k) (by rw [Q5.out]; exact hlt))
        have hse := HY.out
        rw [HXC.out, HFR.out] at hse
        rw [set_seam hse HLL.out] at O3
        have HO3 := Lib.hid O3
        clear O3 oset hse own3
        go_wp2_with fail
        go_roundw
        case rel =>
          refine ⟨k + 1, by go_num, by omega, _, HO3.out, fun x hx => ?_, (ch.trans (grow_chg B2)).trans (Chg.set w2 _ k _ rfl)⟩
          rcases hx with h | h
          · have := hG' x h; simp; omega
          · have h1 := h.1; have h2 := h.2; simp; omega
        case measure => simp [intOf]; omega
      · obtain rfl : n5 = k := by omega
        rw [List.take_of_length_le (by rw [M.strS_len, Q5.out]; exact Nat.le_refl _), List.drop_eq_nil_of_le (by rw [M.outs_len hO, Q5.out]; exact Nat.le_refl _), List.append_nil] at os
        go_wp2_with fail
        go_ret2
        rw [R.out]
        refine ⟨_, rfl, os.wide (fun x hx => ⟨by have := (hG' x hx).1; omega, (hG' x hx).2⟩), BK.trans (ch.toBelow (fun x hx => by omega) (by omega))⟩
theorem spec_StripsOf (a0 : Int) (A1 : Option Addr) (n1 c1 : Nat) (A2 : Option Addr) (n2 c2 : Nat) (A3 : Option Addr) (n3 c3 : Nat) (A4 : Option Addr) (n4 c4 : Nat) (A5 : Option Addr) (n5 c5 : Nat) (src : List (List Int)) (ts : List (List Clip_)) (fs : List Int) (ps : List Patch) (ms : List Strip) (w : World)
    (h1 : tSS.R w w.heap.size [.slice A1 n1 c1] src) (h2 : tTS.R w w.heap.size [.slice A2 n2 c2] ts) (h3 : tS.R w w.heap.size [.slice A3 n3 c3] fs) (h4 : tPS.R w w.heap.size [.slice A4 n4 c4] ps) (h5 : tM.R w w.heap.size [.slice A5 n5 c5] ms) (hn : hZ.sz ((a0, src, ts, fs, ps, ms) : Sess) ≤ 100000000) :
    Calls Tryz.prog 17 #[.agg #[.int .i64 a0, .slice A1 n1 c1, .slice A2 n2 c2, .slice A3 n3 c3, .slice A4 n4 c4, .slice A5 n5 c5]] w (RetSS w (M.stripsR (a0, src, ts, fs, ps, ms))) := by
  obtain ⟨W, hW, B0, sW, p0, p1, p2, p3, p4, p5, pf⟩ := newbox6 w (.int .i64 a0) (.slice A1 n1 c1) (.slice A2 n2 c2) (.slice A3 n3 c3) (.slice A4 n4 c4) (.slice A5 n5 c5) 40
  have HW := Lib.hid hW
  have lW : w.heap.size < W.heap.size := by omega
  have k1 := tSS.later h1 B0
  have k2 := tTS.later h2 B0
  have k3 := tS.later h3 B0
  have k4 := tPS.later h4 B0
  have k5 := tM.later h5 B0
  clear hW
  cases hok : M.sessOk ((a0, src, ts, fs, ps, ms) : Sess)
  · have R := Lib.hid (M.stripsR_no hok)
    have OK := Lib.hid hok
    clear hok
    go_enter Tryz.func17, Tryz.ntmps17
    go_wp2_with fail
    rw [← HW.out]
    refine (spec_l27Ok w.heap.size a0 _ _ c1 _ _ c2 _ _ c3 _ _ c4 _ _ c5 src ts fs ps ms W p0 p1 p2 p3 p4 p5 k1 k2 k3 k4 k5 hn).mono ?_
    rw [OK.out]
    rintro e w1 ⟨rfl, bel1⟩
    go_wp2_with fail
    go_ret2
    rw [R.out]
    exact ⟨_, rfl, OS.nil _ _ _ _, bel_trans B0 bel1⟩
  · obtain ⟨L, rfl, hO⟩ := M.SO_of hok
    have R := Lib.hid (M.stripsR_ok hok)
    have OK := Lib.hid hok
    clear hok
    go_enter Tryz.func17, Tryz.ntmps17
    go_wp2_with fail
    rw [← HW.out]
    refine (spec_l27Ok w.heap.size (L : Int) _ _ c1 _ _ c2 _ _ c3 _ _ c4 _ _ c5 src ts fs ps ms W p0 p1 p2 p3 p4 p5 k1 k2 k3 k4 k5 hn).mono ?_
    rw [OK.out]
    rintro e w1 ⟨rfl, bel1⟩
    have s1 := bel1.size
    have P0 := (bel1.cell (p := ⟨w.heap.size, 0, none⟩) (by show w.heap.size < _; omega)).trans p0
    have P1 := (bel1.cell (p := ⟨w.heap.size, 1, none⟩) (by show w.heap.size < _; omega)).trans p1
    have P2 := (bel1.cell (p := ⟨w.heap.size, 2, none⟩) (by show w.heap.size < _; omega)).trans p2
    have P3 := (bel1.cell (p := ⟨w.heap.size, 3, none⟩) (by show w.heap.size < _; omega)).trans p3
    have P4 := (bel1.cell (p := ⟨w.heap.size, 4, none⟩) (by show w.heap.size < _; omega)).trans p4
    have P5 := (bel1.cell (p := ⟨w.heap.size, 5, none⟩) (by show w.heap.size < _; omega)).trans p5
    have Q5 := Lib.hid (sl_R.1 h5).cap.1
    have hmn := M.mix_n hO.mix
    rw [Q5.out] at hmn
    have hnT := M.nT_le hO
    have hL := hO.l
    have z5 : hM.sz ms ≤ 100000000 := by rw [hZ_sz] at hn; omega
    obtain ⟨n, hnn⟩ : ∃ n, n = M.nT L ms := ⟨_, rfl⟩
    have HN := Lib.hid hnn
    rw [← hnn] at hnT
    clear hnn
    have k1 := tSS.later k1 bel1
    have k2 := tTS.later k2 bel1
    have k3 := tS.later k3 bel1
    have k4 := tPS.later k4 bel1
    have k5 := tM.later k5 bel1
    have lw1 : w.heap.size < w1.heap.size := by omega
    go_wp2_with fail
    refine (spec_l26Entries_at w.heap.size 5 _ _ c5 ms _ P5 k5 hO.mix).mono ?_
    rintro e w2 ⟨vE, rfl, ownE, bel2⟩
    have s2 := bel2.size
    have R0 := (bel2.cell (p := ⟨w.heap.size, 0, none⟩) (by show w.heap.size < _; omega)).trans P0
    have R1 := (bel2.cell (p := ⟨w.heap.size, 1, none⟩) (by show w.heap.size < _; omega)).trans P1
    have R2 := (bel2.cell (p := ⟨w.heap.size, 2, none⟩) (by show w.heap.size < _; omega)).trans P2
    have R3 := (bel2.cell (p := ⟨w.heap.size, 3, none⟩) (by show w.heap.size < _; omega)).trans P3
    have R4 := (bel2.cell (p := ⟨w.heap.size, 4, none⟩) (by show w.heap.size < _; omega)).trans P4
    have R5 := (bel2.cell (p := ⟨w.heap.size, 5, none⟩) (by show w.heap.size < _; omega)).trans P5
    have lw2 : w.heap.size < w2.heap.size := by omega
    go_wp2_with fail
    refine (spec_l27Outputs w.heap.size L _ _ c1 _ _ c2 _ _ c3 _ _ c4 _ _ c5 src ts fs ps ms w2 R0 R1 R2 R3 R4 R5 (tSS.later k1 bel2) (tTS.later k2 bel2) (tS.later k3 bel2) (tPS.later k4 bel2) (tM.later k5 bel2) hn hO).mono ?_
    rintro e K ⟨vO, rfl, RO, bel3⟩
    have s3 := bel3.size
    have B23 := bel_trans bel2 bel3
    have BK := bel_trans B0 (bel_trans bel1 B23)
    have hle : (M.entries ms).length = n5 := by rw [M.entries, M.entN_len]; exact Q5.out
    obtain ⟨AE, cE, eE, -⟩ := ownE.shape
    rw [hle] at eE
    subst eE
    have HLE := Lib.hid hle
    have RE : RI K K.heap.size AE n5 (M.entries ms) := ownE.ri'.later bel3
    obtain ⟨bE, oE, rfl, hbE, hcE⟩ := ri_lit RE (by omega)
    have HCE := Lib.hid hcE
    obtain ⟨AO, cO, eO⟩ := RO.shape
    rw [M.outs_len hO, Q5.out] at eO
    subst eO
    obtain ⟨bO0, oO0, _, _, _, _, eO0, hbO0, -⟩ := RO.at (k := 0) (by rw [M.outs_len hO, Q5.out]; omega)
    simp only [Value.slice.injEq] at eO0
    obtain ⟨rfl, -, -⟩ := eO0
    have K0 : K.cell? ⟨w.heap.size, 0, none⟩ = some (.int .i64 L) := by rw [B23.cell (by show w.heap.size < _; omega)]; exact P0
    have K5 : K.cell? ⟨w.heap.size, 5, none⟩ = some (.slice A5 n5 c5) := by rw [B23.cell (by show w.heap.size < _; omega)]; exact P5
    have k5K := sl_R.1 (tM.later k5 B23)
    have hsl : (M.strS L src ts fs ps ms).length = n5 := by rw [M.strS_len]; exact Q5.out
    have HSL := Lib.hid hsl
    have lK : w.heap.size < K.heap.size := by omega
    clear hcE hle hsl ownE
    go_wp2_with fail
    go_loopw [6, 7] (fun v i wr => ∃ k : Nat, i = .int .i64 k ∧ k ≤ n5 ∧ OS tS 24 wr (Iv K.heap.size wr.heap.size) v ((M.strS L src ts fs ps ms).take k) ∧ Below K.heap.size K wr) (fun _ i _ => n5 - (intOf i).toNat)
    case atStart => exact ⟨0, rfl, by omega, OS.made0 _ _ _, (Below.refl _ _).alloc (Nat.le_refl _) _⟩
    case round =>
      obtain ⟨k, rfl, hk, own, B⟩ := hrel
      have sB := B.size
      by_cases hlt : k < n5
      · obtain ⟨b5, o5, s_, l, A9, n9, c9, us, rfl, hb5, XS, e0, e1, e2, hsz_, hra, hn9⟩ := strip_cell (k5K.below B) z5 hlt
        have hst := Lib.hid (M.stri_at XS.out)
        obtain ⟨ee, hee⟩ : ∃ ee : Nat, M.ent ms k = (ee : Int) := ⟨(M.ent ms k).toNat, by have := (M.ent_bd hO.mix k).1; omega⟩
        have hee2 : ee ≤ 1024 := by have := (M.ent_bd hO.mix k).2; omega
        have so1 := (M.stri_ok hO.mix (i := k) (by rw [Q5.out]; exact hlt)).1
        rw [hst.out] at so1
        simp only at so1
        obtain ⟨ln, rfl⟩ : ∃ ln : Nat, l = (ln : Int) := ⟨l.toNat, by omega⟩
        have hqe : (M.entries ms)[k]? = some (ee : Int) := by
          have : k < (M.entries ms).length := by rw [HLE.out]; exact hlt
          rw [← hee, M.ent, M.i_, List.getElem?_eq_getElem this]; rfl
        have cE4 : wr.cell? ⟨bE, oE + k, none⟩ = some (.int .i64 (ee : Int)) := by rw [B.cell (by show bE < _; omega)]; exact HCE.out k _ hqe
        obtain ⟨bO, oO_, cO', AX, cX, x, eO', hbO, -, hx1, hx2, hx3, hx4⟩ := (RO.below B).at (k := k) (by rw [M.outs_len hO, Q5.out]; exact hlt)
        simp only [Value.slice.injEq, Option.some.injEq, Addr.mk.injEq] at eO'
        obtain ⟨⟨rfl, rfl, -⟩, -, -⟩ := eO'
        have hxc : M.cel (M.outs L src ts fs ps ms) k = x := M.cel_of hx1
        have hxl : x.length = n := by rw [← hxc, HN.out]; exact M.outs_cel hO (by rw [Q5.out]; exact hlt)
        rw [hxl] at hx2 hx3 hx4
        have HXC := Lib.hid hxc
        have HEE := Lib.hid hee
        have q0 : wr.cell? ⟨w.heap.size, 0, none⟩ = some (.int .i64 L) := by rw [B.cell (by show w.heap.size < _; omega)]; exact K0
        have q5 : wr.cell? ⟨w.heap.size, 5, none⟩ = some (.slice (some ⟨b5, o5, none⟩) n5 c5) := by rw [B.cell (by show w.heap.size < _; omega)]; exact K5
        have y0 := cell_regrown q0
        have y5 := cell_regrown q5
        have yE := cell_regrown cE4
        have yl := cell_regrown e1
        have yO := cell_regrown hx4
        have D1 : Below wr.heap.size wr wr.drew := below_drewN (Below.refl _ _) 1
        have hd1 : wr.drew.heap.size = wr.heap.size := rfl
        have hx3' := hx3.below D1
        have kk0 : (0 : Int) ≤ (k : Int) := by omega
        have kk1 : (k : Int) < (n5 : Int) := by omega
        have hwr_ := IntWalk.i64_in ((ee : Int) + (ln : Int)) (by omega)
        have lfr : ee + ln ≤ 100000 := by omega
        have HY := Lib.hid (M.strS_at (L := L) (src := src) (ts := ts) (fs := fs) (ps := ps) (ms := ms) (k := k) (by rw [Q5.out]; exact hlt))
        have hse := HY.out
        rw [HXC.out, hst.out, HEE.out] at hse
        simp only at hse
        have HTK := Lib.hid (M.take_at hse)
        have hpl : ((M.strS L src ts fs ps ms).take k).length ≤ 1000000 := by rw [List.length_take]; omega
        clear hx1 hxc hee hqe hse hxl
        go_wp2_with fail
        (refine wp_region_fresh2 [0, 1, 2, 3, 5, 6, 7, 9, 10, 12, 17] [4, 8, 11, 13, 14, 15, 16, 18] 2 (.one 19 (.one 20 .rest)) [21] [21, 22] (by kernel_rfl) (by kernel_rfl) ?_; simp only [pickOps]; simp only [List.filterMap, List.getElem?_cons_succ, List.getElem?_cons_zero]; (repeat (go_big_quiet_step (fail))); refine wpQuiet_nil ?_; (repeat (go_big_quiet_step (fail))); refine wpQuiet_nil ?_)
        refine seqT_one2 rfl ?_
        go_wp2_with fail
        refine (spec_l03Slice AX n cX x (ee + ln) L _ hx3'.1 (by omega) (by omega) (by omega)).mono ?_
        rintro e w4 ⟨v4, rfl, own4, bel4⟩
        obtain ⟨A6, c6, e6, -⟩ := own_shape own4
        rw [M.sl_len] at e6
        subst e6
        have B4 := bel_trans D1 bel4
        have s4 := bel4.size
        go_wp2_with fail
        refine ⟨regrown_of_below B4, ?_⟩
        refine seqT_one2 rfl ?_
        go_wp2_with fail
        refine ⟨regrown_of_below (bel_trans B4 ((Below.refl _ _).alloc (Nat.le_refl _) _)), ?_⟩
        refine seqT_rest2 ?_
        have ow := own.below B4 (Nat.le_refl _)
        have os2 := tS_O.2 (OI.os own4)
        go_wp2_with (at_builtin; refine wpList_pushS ei_S #[.slice A6 L c6] rfl _ _ rfl ow os2 (Iv.apart (Nat.le_refl _)) rfl rfl (by unfold maxLen; omega) (by omega) ?_; intro v5 w5 own5 ch5)
        refine ⟨⟨k + 1, by go_num, by omega, ?_, (B.trans (B4.mono sB)).trans (ch5.toBelow (fun b hb => hb.1) (by omega))⟩, by simp [intOf]; omega⟩
        rw [HTK.out]
        rw [show (((ee + ln : Nat) : Int)) = (ee : Int) + (ln : Int) by omega] at own5
        exact own5.wide (Iv.grow sB s4 ch5.size)
      · obtain rfl : n5 = k := by omega
        rw [List.take_of_length_le (by rw [HSL.out]; exact Nat.le_refl _)] at own
        go_wp2_with fail
        go_ret2
        rw [R.out]
        exact ⟨_, rfl, own.wide (fun x hx => ⟨by have := hx.1; omega, hx.2⟩), bel_trans BK B⟩
end Go.Proofs.YtffhodocjjkkoaaGreat
namespace Go.Proofs.YtffhodocjjkkoaaGreat
open Go.RowKit Go.Sort
set_option maxHeartbeats 4000000
set_option maxRecDepth 100000
theorem hZ_mark (k : Int) (a0 : Int) (x1 : List (List Int)) (x2 : List (List Clip_)) (x3 : List Int) (x4 : List Patch) (x5 : List Strip) : hZ.mark k (a0, x1, x2, x3, x4, x5) = (a0, hSS.mark k x1, hTS.mark (k + hSS.cnt x1) x2, hS.mark (k + hSS.cnt x1 + hTS.cnt x2) x3, hPS.mark (k + hSS.cnt x1 + hTS.cnt x2 + hS.cnt x3) x4, hM.mark (k + hSS.cnt x1 + hTS.cnt x2 + hS.cnt x3 + hPS.cnt x4) x5) := by
  have e : k + ((0 : Nat) : Int) = k := by simp
  show (a0, hSS.mark (k + ((0 : Nat) : Int)) x1, hTS.mark (k + ((0 : Nat) : Int) + hSS.cnt x1) x2, hS.mark (k + ((0 : Nat) : Int) + hSS.cnt x1 + hTS.cnt x2) x3, hPS.mark (k + ((0 : Nat) : Int) + hSS.cnt x1 + hTS.cnt x2 + hS.cnt x3) x4, hM.mark (k + ((0 : Nat) : Int) + hSS.cnt x1 + hTS.cnt x2 + hS.cnt x3 + hPS.cnt x4) x5) = _
  rw [e]
end Go.Proofs.YtffhodocjjkkoaaGreat
namespace Go.Proofs.YtffhodocjjkkoaaGreat
open Go.RowKit
set_option maxHeartbeats 4000000
set_option maxRecDepth 100000
theorem OH.at {α : Type} {t : Ty α} {e : TypeId} {w U : World} {F : Nat → Prop} {v : Value} {xs : List α} {css : List (List Value)} {Fs : Nat → Nat → Prop} {k : Nat} (h : OH t e w F v xs css Fs k) (hU : U = w) : OH t e U F v xs css Fs k := hU ▸ h
theorem nf_mark_NS (A : Option Addr) (n c : Nat) (k : Int) (xs : List Node) (w : World) (F : Nat → Prop) (hx : tNS.O w F [.slice A n c] xs) (hk : 0 ≤ k ∧ k + (hNS.cnt xs : Int) ≤ 1000000000) :
    Calls Tryz.prog 86 #[.slice A n c, .int .i64 k] w fun e w' => e = .returned (.int .i64 (k + hNS.cnt xs)) ∧ tNS.O w' F [.slice A n c] (hNS.mark k xs) ∧ Chg F w w' := by
  have ow := sl_O.1 hx
  have hcap := ow.read.cap
  obtain rfl : xs.length = n := hcap.1
  have hl : xs.length ≤ 9223372036854775807 := by have h1 := hcap.2; unfold maxLen at h1; omega
  clear hcap
  have hcn : k + (hN.cntL xs : Int) ≤ 1000000000 := hk.2
  clear hx
  go_enter Tryz.func86, Tryz.ntmps86
  go_wp2
  go_loopw [1, 5] (fun q i wr => ∃ j : Nat, i = .int .i64 j ∧ j ≤ xs.length ∧ q = .int .i64 (k + (hN.cntL (xs.take j) : Int)) ∧ OS tN 171 wr F (.slice A xs.length c) ((hN.mkL k xs).take j ++ xs.drop j) ∧ Chg F w wr)
    (fun _ i _ => xs.length - (intOf i).toNat)
  case atStart => exact ⟨0, rfl, by omega, by simp [Hs.cntL], by simpa using ow, Chg.refl _ _⟩
  case round =>
    obtain ⟨j, rfl, hj, rfl, own, hg⟩ := hrel
    by_cases hlt : j < xs.length
    · have hml := Lib.hid (hN.mkL_len k xs)
      have hX := Lib.hid (List.getElem?_eq_getElem hlt)
      have hc1 := hN.cntL_at hX.out
      have hct2 := Lib.hid (hN.cntL_take hX.out)
      have hmk := Lib.hid (hN.mkL_at k hX.out)
      generalize xs[j] = x at hX hc1 hct2 hmk
      obtain ⟨a0, a1, a2, x3⟩ := x
      rw [hN_cnt] at hc1
      generalize hK : k + (hN.cntL (xs.take j) : Int) = K at hmk ⊢
      have HK := Lib.hid hK
      have hK0 : 0 ≤ K ∧ K + ((3 + hS.cnt x3 : Nat) : Int) ≤ 1000000000 := by omega
      clear hK
      have hyj := Lib.hid (show ((hN.mkL k xs).take j ++ xs.drop j)[j]? = some ((a0, a1, a2, x3) : Node) by rw [M.mid_at hml.out]; exact hX.out)
      obtain ⟨css, Fs, hole, cs, hcs, hE⟩ := own.openAt hyj.out
      obtain ⟨A3, n3, c3, F3, rfl, o3_0, t3⟩ := tN_O.1 hE
      obtain ⟨g, rfl, hFg, hFn, hgl, -⟩ := hole.form (List.getElem?_eq_some_iff.1 hyj.out).1
      have q0 : wr.cell? ⟨g, j * 4 + 0, none⟩ = some _ := (hole.cell hcs (j := 0) rfl).1
      have r0 : wr.frozen? ⟨g, j * 4 + 0, none⟩ = false := (hole.cell hcs (j := 0) rfl).2
      have q1 : wr.cell? ⟨g, j * 4 + 1, none⟩ = some _ := (hole.cell hcs (j := 1) rfl).1
      have r1 : wr.frozen? ⟨g, j * 4 + 1, none⟩ = false := (hole.cell hcs (j := 1) rfl).2
      have q2 : wr.cell? ⟨g, j * 4 + 2, none⟩ = some _ := (hole.cell hcs (j := 2) rfl).1
      have r2 : wr.frozen? ⟨g, j * 4 + 2, none⟩ = false := (hole.cell hcs (j := 2) rfl).2
      have q3 : wr.cell? ⟨g, j * 4 + 3, none⟩ = some _ := (hole.cell hcs (j := 3) rfl).1
      rw [Nat.add_zero] at q0 r0
      go_wp2_with fail
      obtain ⟨U1, hU⟩ : ∃ U, U = (((wr.setCell ⟨g, j * 4, none⟩ (.int .i64 (K))).setCell ⟨g, j * 4 + 1, none⟩ (.int .i64 (K + 1))).setCell ⟨g, j * 4 + 2, none⟩ (.int .i64 (K + 1 + 1))) := ⟨_, rfl⟩
      rw [← hU]
      have s0_0 := hole.set hcs 0 (by decide) (.int .i64 (K))
      have s0_1 := s0_0.1.set s0_0.2 1 (by decide) (.int .i64 (K + 1))
      have s0_2 := s0_1.1.set s0_1.2 2 (by decide) (.int .i64 (K + 1 + 1))
      have hole1 := OH.at s0_2.1 hU
      have hcs1 := s0_2.2
      have ch0u : Chg F wr U1 := by rw [hU]; exact ((Chg.set _ g (j * 4) _ hFg).trans (Chg.set _ g (j * 4 + 1) _ hFg)).trans (Chg.set _ g (j * 4 + 2) _ hFg)
      have o3_1 : tS.O U1 F3 [.slice A3 n3 c3] _ := tS.okeep (fun b hb => by rw [hU]; exact (heap_setCell_other _ ⟨g, j * 4 + 2, none⟩ b _ (fun e => hFn (by simp only at e; rw [← e]; exact t3 b hb))).trans ((heap_setCell_other _ ⟨g, j * 4 + 1, none⟩ b _ (fun e => hFn (by simp only at e; rw [← e]; exact t3 b hb))).trans (heap_setCell_other _ ⟨g, j * 4, none⟩ b _ (fun e => hFn (by simp only at e; rw [← e]; exact t3 b hb))))) o3_0
      clear hU
      have q0_u0 : U1.cell? ⟨g, j * 4 + 0, none⟩ = some _ := (hole1.cell hcs1 (j := 0) rfl).1
      have r0_u0 : U1.frozen? ⟨g, j * 4 + 0, none⟩ = false := (hole1.cell hcs1 (j := 0) rfl).2
      have q1_u0 : U1.cell? ⟨g, j * 4 + 1, none⟩ = some _ := (hole1.cell hcs1 (j := 1) rfl).1
      have r1_u0 : U1.frozen? ⟨g, j * 4 + 1, none⟩ = false := (hole1.cell hcs1 (j := 1) rfl).2
      have q2_u0 : U1.cell? ⟨g, j * 4 + 2, none⟩ = some _ := (hole1.cell hcs1 (j := 2) rfl).1
      have r2_u0 : U1.frozen? ⟨g, j * 4 + 2, none⟩ = false := (hole1.cell hcs1 (j := 2) rfl).2
      have q3_u0 : U1.cell? ⟨g, j * 4 + 3, none⟩ = some _ := (hole1.cell hcs1 (j := 3) rfl).1
      rw [Nat.add_zero] at q0_u0 r0_u0
      replace hg := hg.trans ch0u
      refine (nf_mark_S _ _ _ _ _ _ F3 o3_1 (by omega)).mono ?_
      rintro e v1 ⟨rfl, o3_n, ch0⟩
      have ch0w := ch0.wide t3
      have o3_2 := o3_n
      have hole1b := hole1.chg ch0w
      replace hg := hg.trans (ch0w.wide hole1.fits)
      go_wp2
      go_roundw
      case rel =>
        have h3 := hole1b.fill hcs1 (y := ((K, K + 1, K + 1 + 1, hS.mark (K + 1 + 1 + 1) x3) : Node)) (tN_O.2 ⟨A3, n3, c3, F3, rfl, o3_2, t3⟩)
        have hmk2 : (hN.mkL k xs)[j]? = some ((K, K + 1, K + 1 + 1, hS.mark (K + 1 + 1 + 1) x3) : Node) := hmk.out
        rw [M.set_mid hml.out hmk2] at h3
        exact ⟨j + 1, by go_num, by omega, by rw [hct2.out, hN_cnt]; have := HK.out; subst this; go_num, h3, hg⟩
      case measure => simp [intOf]; omega
    · obtain rfl : xs.length = j := by omega
      go_wp2
      go_ret
      rw [List.take_of_length_le (by rw [Hs.mkL_len]; omega), List.drop_eq_nil_of_le (by omega), List.append_nil] at own
      exact ⟨by rw [List.take_of_length_le (Nat.le_refl _)]; rfl, sl_O.2 own, hg⟩
end Go.Proofs.YtffhodocjjkkoaaGreat
namespace Go.Proofs.YtffhodocjjkkoaaGreat
open Go.RowKit
set_option maxHeartbeats 4000000
set_option maxRecDepth 100000
theorem nf_mark_PS (A : Option Addr) (n c : Nat) (k : Int) (xs : List Patch) (w : World) (F : Nat → Prop) (hx : tPS.O w F [.slice A n c] xs) (hk : 0 ≤ k ∧ k + (hPS.cnt xs : Int) ≤ 1000000000) :
    Calls Tryz.prog 46 #[.slice A n c, .int .i64 k] w fun e w' => e = .returned (.int .i64 (k + hPS.cnt xs)) ∧ tPS.O w' F [.slice A n c] (hPS.mark k xs) ∧ Chg F w w' := by
  have ow := sl_O.1 hx
  have hcap := ow.read.cap
  obtain rfl : xs.length = n := hcap.1
  have hl : xs.length ≤ 9223372036854775807 := by have h1 := hcap.2; unfold maxLen at h1; omega
  clear hcap
  have hcn : k + (hP.cntL xs : Int) ≤ 1000000000 := hk.2
  clear hx
  go_enter Tryz.func46, Tryz.ntmps46
  go_wp2
  go_loopw [1, 5] (fun q i wr => ∃ j : Nat, i = .int .i64 j ∧ j ≤ xs.length ∧ q = .int .i64 (k + (hP.cntL (xs.take j) : Int)) ∧ OS tP 107 wr F (.slice A xs.length c) ((hP.mkL k xs).take j ++ xs.drop j) ∧ Chg F w wr)
    (fun _ i _ => xs.length - (intOf i).toNat)
  case atStart => exact ⟨0, rfl, by omega, by simp [Hs.cntL], by simpa using ow, Chg.refl _ _⟩
  case round =>
    obtain ⟨j, rfl, hj, rfl, own, hg⟩ := hrel
    by_cases hlt : j < xs.length
    · have hml := Lib.hid (hP.mkL_len k xs)
      have hX := Lib.hid (List.getElem?_eq_getElem hlt)
      have hc1 := hP.cntL_at hX.out
      have hct2 := Lib.hid (hP.cntL_take hX.out)
      have hmk := Lib.hid (hP.mkL_at k hX.out)
      generalize xs[j] = x at hX hc1 hct2 hmk
      obtain ⟨a0, x1, x2, x3⟩ := x
      rw [hP_cnt] at hc1
      generalize hK : k + (hP.cntL (xs.take j) : Int) = K at hmk ⊢
      have HK := Lib.hid hK
      have hK0 : 0 ≤ K ∧ K + ((1 + hSS.cnt x1 + hNS.cnt x2 + hS.cnt x3 : Nat) : Int) ≤ 1000000000 := by omega
      clear hK
      have hyj := Lib.hid (show ((hP.mkL k xs).take j ++ xs.drop j)[j]? = some ((a0, x1, x2, x3) : Patch) by rw [M.mid_at hml.out]; exact hX.out)
      obtain ⟨css, Fs, hole, cs, hcs, hE⟩ := own.openAt hyj.out
      obtain ⟨A1, n1, c1, A2, n2, c2, A3, n3, c3, F1, F2, F3, rfl, o1_0, o2_0, o3_0, t1, t2, t3, r1_2, r1_3, r2_3⟩ := tP_O.1 hE
      obtain ⟨g, rfl, hFg, hFn, hgl, -⟩ := hole.form (List.getElem?_eq_some_iff.1 hyj.out).1
      have q0 : wr.cell? ⟨g, j * 4 + 0, none⟩ = some _ := (hole.cell hcs (j := 0) rfl).1
      have r0 : wr.frozen? ⟨g, j * 4 + 0, none⟩ = false := (hole.cell hcs (j := 0) rfl).2
      have q1 : wr.cell? ⟨g, j * 4 + 1, none⟩ = some _ := (hole.cell hcs (j := 1) rfl).1
      have q2 : wr.cell? ⟨g, j * 4 + 2, none⟩ = some _ := (hole.cell hcs (j := 2) rfl).1
      have q3 : wr.cell? ⟨g, j * 4 + 3, none⟩ = some _ := (hole.cell hcs (j := 3) rfl).1
      rw [Nat.add_zero] at q0 r0
      go_wp2_with fail
      obtain ⟨U1, hU⟩ : ∃ U, U = (wr.setCell ⟨g, j * 4, none⟩ (.int .i64 (K))) := ⟨_, rfl⟩
      rw [← hU]
      have s0_0 := hole.set hcs 0 (by decide) (.int .i64 (K))
      have hole1 := OH.at s0_0.1 hU
      have hcs1 := s0_0.2
      have ch0u : Chg F wr U1 := by rw [hU]; exact Chg.set _ g (j * 4) _ hFg
      have o1_1 : tSS.O U1 F1 [.slice A1 n1 c1] _ := tSS.okeep (fun b hb => by rw [hU]; exact heap_setCell_other _ ⟨g, j * 4, none⟩ b _ (fun e => hFn (by simp only at e; rw [← e]; exact t1 b hb))) o1_0
      have o2_1 : tNS.O U1 F2 [.slice A2 n2 c2] _ := tNS.okeep (fun b hb => by rw [hU]; exact heap_setCell_other _ ⟨g, j * 4, none⟩ b _ (fun e => hFn (by simp only at e; rw [← e]; exact t2 b hb))) o2_0
      have o3_1 : tS.O U1 F3 [.slice A3 n3 c3] _ := tS.okeep (fun b hb => by rw [hU]; exact heap_setCell_other _ ⟨g, j * 4, none⟩ b _ (fun e => hFn (by simp only at e; rw [← e]; exact t3 b hb))) o3_0
      clear hU
      have q0_u0 : U1.cell? ⟨g, j * 4 + 0, none⟩ = some _ := (hole1.cell hcs1 (j := 0) rfl).1
      have r0_u0 : U1.frozen? ⟨g, j * 4 + 0, none⟩ = false := (hole1.cell hcs1 (j := 0) rfl).2
      have q1_u0 : U1.cell? ⟨g, j * 4 + 1, none⟩ = some _ := (hole1.cell hcs1 (j := 1) rfl).1
      have q2_u0 : U1.cell? ⟨g, j * 4 + 2, none⟩ = some _ := (hole1.cell hcs1 (j := 2) rfl).1
      have q3_u0 : U1.cell? ⟨g, j * 4 + 3, none⟩ = some _ := (hole1.cell hcs1 (j := 3) rfl).1
      rw [Nat.add_zero] at q0_u0 r0_u0
      replace hg := hg.trans ch0u
      refine (nf_mark_SS _ _ _ _ _ _ F1 o1_1 (by omega)).mono ?_
      rintro e v1 ⟨rfl, o1_n, ch0⟩
      have ch0w := ch0.wide t1
      have o2_2 := tNS.ochg o2_1 ch0 (fun b h h2 => r1_2 b h2 h)
      have o3_2 := tS.ochg o3_1 ch0 (fun b h h2 => r1_3 b h2 h)
      have o1_2 := o1_n
      have hole1b := hole1.chg ch0w
      replace hg := hg.trans (ch0w.wide hole1.fits)
      have q0_v0 : v1.cell? ⟨g, j * 4 + 0, none⟩ = some _ := (hole1b.cell hcs1 (j := 0) rfl).1
      have r0_v0 : v1.frozen? ⟨g, j * 4 + 0, none⟩ = false := (hole1b.cell hcs1 (j := 0) rfl).2
      have q1_v0 : v1.cell? ⟨g, j * 4 + 1, none⟩ = some _ := (hole1b.cell hcs1 (j := 1) rfl).1
      have q2_v0 : v1.cell? ⟨g, j * 4 + 2, none⟩ = some _ := (hole1b.cell hcs1 (j := 2) rfl).1
      have q3_v0 : v1.cell? ⟨g, j * 4 + 3, none⟩ = some _ := (hole1b.cell hcs1 (j := 3) rfl).1
      rw [Nat.add_zero] at q0_v0 r0_v0
      go_wp2_with fail
      refine (nf_mark_NS _ _ _ _ _ _ F2 o2_2 (by omega)).mono ?_
      rintro e v2 ⟨rfl, o2_n, ch1⟩
      have ch1w := ch1.wide t2
      have o1_3 := tSS.ochg o1_2 ch1 r1_2
      have o3_3 := tS.ochg o3_2 ch1 (fun b h h2 => r2_3 b h2 h)
      have o2_3 := o2_n
      have hole2b := hole1b.chg ch1w
      replace hg := hg.trans (ch1w.wide hole1b.fits)
      have q0_v1 : v2.cell? ⟨g, j * 4 + 0, none⟩ = some _ := (hole2b.cell hcs1 (j := 0) rfl).1
      have r0_v1 : v2.frozen? ⟨g, j * 4 + 0, none⟩ = false := (hole2b.cell hcs1 (j := 0) rfl).2
      have q1_v1 : v2.cell? ⟨g, j * 4 + 1, none⟩ = some _ := (hole2b.cell hcs1 (j := 1) rfl).1
      have q2_v1 : v2.cell? ⟨g, j * 4 + 2, none⟩ = some _ := (hole2b.cell hcs1 (j := 2) rfl).1
      have q3_v1 : v2.cell? ⟨g, j * 4 + 3, none⟩ = some _ := (hole2b.cell hcs1 (j := 3) rfl).1
      rw [Nat.add_zero] at q0_v1 r0_v1
      go_wp2_with fail
      refine (nf_mark_S _ _ _ _ _ _ F3 o3_3 (by omega)).mono ?_
      rintro e v3 ⟨rfl, o3_n, ch2⟩
      have ch2w := ch2.wide t3
      have o1_4 := tSS.ochg o1_3 ch2 r1_3
      have o2_4 := tNS.ochg o2_3 ch2 r2_3
      have o3_4 := o3_n
      have hole3b := hole2b.chg ch2w
      replace hg := hg.trans (ch2w.wide hole2b.fits)
      go_wp2
      go_roundw
      case rel =>
        have h3 := hole3b.fill hcs1 (y := ((K, hSS.mark (K + 1) x1, hNS.mark (K + 1 + hSS.cnt x1) x2, hS.mark (K + 1 + hSS.cnt x1 + hNS.cnt x2) x3) : Patch)) (tP_O.2 ⟨A1, n1, c1, A2, n2, c2, A3, n3, c3, F1, F2, F3, rfl, o1_4, o2_4, o3_4, t1, t2, t3, r1_2, r1_3, r2_3⟩)
        have hmk2 : (hP.mkL k xs)[j]? = some ((K, hSS.mark (K + 1) x1, hNS.mark (K + 1 + hSS.cnt x1) x2, hS.mark (K + 1 + hSS.cnt x1 + hNS.cnt x2) x3) : Patch) := hmk.out
        rw [M.set_mid hml.out hmk2] at h3
        exact ⟨j + 1, by go_num, by omega, by rw [hct2.out, hP_cnt]; have := HK.out; subst this; go_num, h3, hg⟩
      case measure => simp [intOf]; omega
    · obtain rfl : xs.length = j := by omega
      go_wp2
      go_ret
      rw [List.take_of_length_le (by rw [Hs.mkL_len]; omega), List.drop_eq_nil_of_le (by omega), List.append_nil] at own
      exact ⟨by rw [List.take_of_length_le (Nat.le_refl _)]; rfl, sl_O.2 own, hg⟩
end Go.Proofs.YtffhodocjjkkoaaGreat
namespace Go.Proofs.YtffhodocjjkkoaaGreat
open Go.RowKit
set_option maxHeartbeats 4000000
set_option maxRecDepth 100000
theorem nf_mark_TS (A : Option Addr) (n c : Nat) (k : Int) (xs : List (List Clip_)) (w : World) (F : Nat → Prop) (hx : tTS.O w F [.slice A n c] xs) (hk : 0 ≤ k ∧ k + (hTS.cnt xs : Int) ≤ 1000000000) :
    Calls Tryz.prog 45 #[.slice A n c, .int .i64 k] w fun e w' => e = .returned (.int .i64 (k + hTS.cnt xs)) ∧ tTS.O w' F [.slice A n c] (hTS.mark k xs) ∧ Chg F w w' := by
  have ow := sl_O.1 hx
  have hcap := ow.read.cap
  obtain rfl : xs.length = n := hcap.1
  have hl : xs.length ≤ 9223372036854775807 := by have h1 := hcap.2; unfold maxLen at h1; omega
  clear hcap
  have hcn : k + (hT.cntL xs : Int) ≤ 1000000000 := hk.2
  clear hx
  go_enter Tryz.func45, Tryz.ntmps45
  go_wp2
  go_loopw [1, 5] (fun q i wr => ∃ j : Nat, i = .int .i64 j ∧ j ≤ xs.length ∧ q = .int .i64 (k + (hT.cntL (xs.take j) : Int)) ∧ OS tT 89 wr F (.slice A xs.length c) ((hT.mkL k xs).take j ++ xs.drop j) ∧ Chg F w wr)
    (fun _ i _ => xs.length - (intOf i).toNat)
  case atStart => exact ⟨0, rfl, by omega, by simp [Hs.cntL], by simpa using ow, Chg.refl _ _⟩
  case round =>
    obtain ⟨j, rfl, hj, rfl, own, hg⟩ := hrel
    by_cases hlt : j < xs.length
    · have hml := Lib.hid (hT.mkL_len k xs)
      have hX := Lib.hid (List.getElem?_eq_getElem hlt)
      have hc1 := hT.cntL_at hX.out
      have hct2 := Lib.hid (hT.cntL_take hX.out)
      have hmk := Lib.hid (hT.mkL_at k hX.out)
      generalize xs[j] = x at hX hc1 hct2 hmk
      generalize hK : k + (hT.cntL (xs.take j) : Int) = K at hmk ⊢
      have HK := Lib.hid hK
      have hK0 : 0 ≤ K ∧ K + (hT.cnt x : Int) ≤ 1000000000 := by omega
      clear hK
      have hyj := Lib.hid (show ((hT.mkL k xs).take j ++ xs.drop j)[j]? = some x by rw [M.mid_at hml.out]; exact hX.out)
      obtain ⟨css, Fs, hole, cs, hcs, hE⟩ := own.openAt hyj.out
      obtain ⟨A0, n0, c0, rfl⟩ := open_sl (tT.read hE)
      have o0_0 := hE
      obtain ⟨g, rfl, hFg, hFn, hgl, -⟩ := hole.form (List.getElem?_eq_some_iff.1 hyj.out).1
      have q0 : wr.cell? ⟨g, j * 1 + 0, none⟩ = some _ := (hole.cell hcs (j := 0) rfl).1
      rw [Nat.add_zero, Nat.mul_one] at q0
      go_wp2_with fail
      refine (nf_mark_T_ _ _ _ _ _ _ (Fs j) o0_0 (by omega)).mono ?_
      rintro e v1 ⟨rfl, o0_n, ch0⟩
      have ch0w := ch0
      have hole1b := hole.chg ch0w
      replace hg := hg.trans (ch0w.wide hole.fits)
      go_wp2
      go_roundw
      case rel =>
        have h3 := hole1b.fill hcs o0_n
        have hmk2 : (hT.mkL k xs)[j]? = some (hT.mark K x) := hmk.out
        rw [M.set_mid hml.out hmk2] at h3
        exact ⟨j + 1, by go_num, by omega, by rw [hct2.out]; have := HK.out; subst this; go_num, h3, hg⟩
      case measure => simp [intOf]; omega
    · obtain rfl : xs.length = j := by omega
      go_wp2
      go_ret
      rw [List.take_of_length_le (by rw [Hs.mkL_len]; omega), List.drop_eq_nil_of_le (by omega), List.append_nil] at own
      exact ⟨by rw [List.take_of_length_le (Nat.le_refl _)]; rfl, sl_O.2 own, hg⟩
end Go.Proofs.YtffhodocjjkkoaaGreat
namespace Go.Proofs.YtffhodocjjkkoaaGreat
open Go.RowKit
set_option maxHeartbeats 4000000
set_option maxRecDepth 100000
theorem nf_mark_Z (a0 : Int) (A1 : Option Addr) (n1 c1 : Nat) (A2 : Option Addr) (n2 c2 : Nat) (A3 : Option Addr) (n3 c3 : Nat) (A4 : Option Addr) (n4 c4 : Nat) (A5 : Option Addr) (n5 c5 : Nat) (k : Int) (x1 : List (List Int)) (x2 : List (List Clip_)) (x3 : List Int) (x4 : List Patch) (x5 : List Strip) (w : World) (F : Nat → Prop) (hx : tZ.O w F [.int .i64 a0, .slice A1 n1 c1, .slice A2 n2 c2, .slice A3 n3 c3, .slice A4 n4 c4, .slice A5 n5 c5] (a0, x1, x2, x3, x4, x5)) (hF : ∀ b, F b → b < w.heap.size) (hk : 0 ≤ k ∧ k + (hZ.cnt ((a0, x1, x2, x3, x4, x5) : Sess) : Int) ≤ 1000000000) :
    Calls Tryz.prog 14 #[.agg #[.int .i64 a0, .slice A1 n1 c1, .slice A2 n2 c2, .slice A3 n3 c3, .slice A4 n4 c4, .slice A5 n5 c5], .int .i64 k] w fun e w' => e = .returned (.int .i64 (k + hZ.cnt ((a0, x1, x2, x3, x4, x5) : Sess))) ∧ tZ.O w' F [.int .i64 a0, .slice A1 n1 c1, .slice A2 n2 c2, .slice A3 n3 c3, .slice A4 n4 c4, .slice A5 n5 c5] (hZ.mark k (a0, x1, x2, x3, x4, x5)) ∧ Chg F w w' := by
  obtain ⟨W, hW⟩ : ∃ W, W = w.alloc (.cells #[.int .i64 a0, .slice A1 n1 c1, .slice A2 n2 c2, .slice A3 n3 c3, .slice A4 n4 c4, .slice A5 n5 c5] 40) := ⟨_, rfl⟩
  have B0 : Below w.heap.size w W := by rw [hW]; exact (Below.refl _ _).alloc (Nat.le_refl _) _
  have p1 : W.cell? ⟨w.heap.size, 1, none⟩ = some (.slice A1 n1 c1) := by rw [hW]; simp [go_sem]
  have p2 : W.cell? ⟨w.heap.size, 2, none⟩ = some (.slice A2 n2 c2) := by rw [hW]; simp [go_sem]
  have p3 : W.cell? ⟨w.heap.size, 3, none⟩ = some (.slice A3 n3 c3) := by rw [hW]; simp [go_sem]
  have p4 : W.cell? ⟨w.heap.size, 4, none⟩ = some (.slice A4 n4 c4) := by rw [hW]; simp [go_sem]
  have p5 : W.cell? ⟨w.heap.size, 5, none⟩ = some (.slice A5 n5 c5) := by rw [hW]; simp [go_sem]
  have l0 : w.heap.size < W.heap.size := by rw [hW]; simp
  have hx2 : tZ.O W F [.int .i64 a0, .slice A1 n1 c1, .slice A2 n2 c2, .slice A3 n3 c3, .slice A4 n4 c4, .slice A5 n5 c5] (a0, x1, x2, x3, x4, x5) := tZ.okeep (fun b h => B0.block b (hF b h)) hx
  obtain ⟨A19, n19, c19, A29, n29, c29, A39, n39, c39, A49, n49, c49, A59, n59, c59, F1, F2, F3, F4, F5, he, o1_0, o2_0, o3_0, o4_0, o5_0, t1, t2, t3, t4, t5, r1_2, r1_3, r1_4, r1_5, r2_3, r2_4, r2_5, r3_4, r3_5, r4_5⟩ := tZ_O.1 hx2
  simp only [List.cons.injEq, Value.slice.injEq, and_true, true_and] at he
  obtain ⟨⟨rfl, rfl, rfl⟩, ⟨rfl, rfl, rfl⟩, ⟨rfl, rfl, rfl⟩, ⟨rfl, rfl, rfl⟩, ⟨rfl, rfl, rfl⟩⟩ := he
  have hw0 : ¬ F w.heap.size := fun h => absurd (hF _ h) (Nat.lt_irrefl _)
  have HW := Lib.hid hW
  clear hW hx hx2
  rw [hZ_cnt] at *
  have cz1 : 0 ≤ (hSS.cnt x1 : Int) := Int.natCast_nonneg _
  have cz2 : 0 ≤ (hTS.cnt x2 : Int) := Int.natCast_nonneg _
  have cz3 : 0 ≤ (hS.cnt x3 : Int) := Int.natCast_nonneg _
  have cz4 : 0 ≤ (hPS.cnt x4 : Int) := Int.natCast_nonneg _
  have cz5 : 0 ≤ (hM.cnt x5 : Int) := Int.natCast_nonneg _
  go_enter Tryz.func14, Tryz.ntmps14
  go_wp2_with fail
  rw [← HW.out]
  refine (nf_mark_SS _ _ _ _ _ _ F1 o1_0 (by omega)).mono ?_
  rintro e w1 ⟨rfl, o1_n, ch0⟩
  have o2_1 := tTS.ochg o2_0 ch0 (fun b h h2 => r1_2 b h2 h)
  have o3_1 := tS.ochg o3_0 ch0 (fun b h h2 => r1_3 b h2 h)
  have o4_1 := tPS.ochg o4_0 ch0 (fun b h h2 => r1_4 b h2 h)
  have o5_1 := tM.ochg o5_0 ch0 (fun b h h2 => r1_5 b h2 h)
  have o1_1 := o1_n
  have l1 := Nat.lt_of_lt_of_le l0 ch0.size
  have bl0 := ch0.block w.heap.size l0 (fun h => hw0 (t1 _ h))
  have p2_1 : w1.cell? ⟨w.heap.size, 2, none⟩ = some (.slice A2 n2 c2) := by rw [World.cell?_of_block bl0]; exact p2
  have p3_1 : w1.cell? ⟨w.heap.size, 3, none⟩ = some (.slice A3 n3 c3) := by rw [World.cell?_of_block bl0]; exact p3
  have p4_1 : w1.cell? ⟨w.heap.size, 4, none⟩ = some (.slice A4 n4 c4) := by rw [World.cell?_of_block bl0]; exact p4
  have p5_1 : w1.cell? ⟨w.heap.size, 5, none⟩ = some (.slice A5 n5 c5) := by rw [World.cell?_of_block bl0]; exact p5
  clear bl0
  go_wp2_with fail
  refine (nf_mark_TS _ _ _ _ _ _ F2 o2_1 (by omega)).mono ?_
  rintro e w2 ⟨rfl, o2_n, ch1⟩
  have o1_2 := tSS.ochg o1_1 ch1 r1_2
  have o3_2 := tS.ochg o3_1 ch1 (fun b h h2 => r2_3 b h2 h)
  have o4_2 := tPS.ochg o4_1 ch1 (fun b h h2 => r2_4 b h2 h)
  have o5_2 := tM.ochg o5_1 ch1 (fun b h h2 => r2_5 b h2 h)
  have o2_2 := o2_n
  have l2 := Nat.lt_of_lt_of_le l1 ch1.size
  have bl1 := ch1.block w.heap.size l1 (fun h => hw0 (t2 _ h))
  have p3_2 : w2.cell? ⟨w.heap.size, 3, none⟩ = some (.slice A3 n3 c3) := by rw [World.cell?_of_block bl1]; exact p3_1
  have p4_2 : w2.cell? ⟨w.heap.size, 4, none⟩ = some (.slice A4 n4 c4) := by rw [World.cell?_of_block bl1]; exact p4_1
  have p5_2 : w2.cell? ⟨w.heap.size, 5, none⟩ = some (.slice A5 n5 c5) := by rw [World.cell?_of_block bl1]; exact p5_1
  clear bl1
  go_wp2_with fail
  refine (nf_mark_S _ _ _ _ _ _ F3 o3_2 (by omega)).mono ?_
  rintro e w3 ⟨rfl, o3_n, ch2⟩
  have o1_3 := tSS.ochg o1_2 ch2 r1_3
  have o2_3 := tTS.ochg o2_2 ch2 r2_3
  have o4_3 := tPS.ochg o4_2 ch2 (fun b h h2 => r3_4 b h2 h)
  have o5_3 := tM.ochg o5_2 ch2 (fun b h h2 => r3_5 b h2 h)
  have o3_3 := o3_n
  have l3 := Nat.lt_of_lt_of_le l2 ch2.size
  have bl2 := ch2.block w.heap.size l2 (fun h => hw0 (t3 _ h))
  have p4_3 : w3.cell? ⟨w.heap.size, 4, none⟩ = some (.slice A4 n4 c4) := by rw [World.cell?_of_block bl2]; exact p4_2
  have p5_3 : w3.cell? ⟨w.heap.size, 5, none⟩ = some (.slice A5 n5 c5) := by rw [World.cell?_of_block bl2]; exact p5_2
  clear bl2
  go_wp2_with fail
  refine (nf_mark_PS _ _ _ _ _ _ F4 o4_3 (by omega)).mono ?_
  rintro e w4 ⟨rfl, o4_n, ch3⟩
  have o1_4 := tSS.ochg o1_3 ch3 r1_4
  have o2_4 := tTS.ochg o2_3 ch3 r2_4
  have o3_4 := tS.ochg o3_3 ch3 r3_4
  have o5_4 := tM.ochg o5_3 ch3 (fun b h h2 => r4_5 b h2 h)
  have o4_4 := o4_n
  have l4 := Nat.lt_of_lt_of_le l3 ch3.size
  have bl3 := ch3.block w.heap.size l3 (fun h => hw0 (t4 _ h))
  have p5_4 : w4.cell? ⟨w.heap.size, 5, none⟩ = some (.slice A5 n5 c5) := by rw [World.cell?_of_block bl3]; exact p5_3
  clear bl3
  go_wp2_with fail
  refine (nf_mark_M _ _ _ _ _ _ F5 o5_4 (fun b h => Nat.lt_of_lt_of_le (hF b (t5 b h)) (by omega)) (by omega)).mono ?_
  rintro e w5 ⟨rfl, o5_n, ch4⟩
  have o1_5 := tSS.ochg o1_4 ch4 r1_5
  have o2_5 := tTS.ochg o2_4 ch4 r2_5
  have o3_5 := tS.ochg o3_4 ch4 r3_5
  have o4_5 := tPS.ochg o4_4 ch4 r4_5
  have o5_5 := o5_n
  have l5 := Nat.lt_of_lt_of_le l4 ch4.size
  have bl4 := ch4.block w.heap.size l4 (fun h => hw0 (t5 _ h))
  clear bl4
  go_wp2
  go_ret
  rw [hZ_mark]
  refine ⟨ret_int (by omega), tZ_O.2 ⟨A1, n1, c1, A2, n2, c2, A3, n3, c3, A4, n4, c4, A5, n5, c5, F1, F2, F3, F4, F5, rfl, ?_, ?_, ?_, ?_, ?_, t1, t2, t3, t4, t5, r1_2, r1_3, r1_4, r1_5, r2_3, r2_4, r2_5, r3_4, r3_5, r4_5⟩, (((((Chg.of_below B0 F).trans (ch0.wide t1)).trans (ch1.wide t2)).trans (ch2.wide t3)).trans (ch3.wide t4)).trans (ch4.wide t5)⟩
  · exact o1_5
  · exact o2_5
  · exact o3_5
  · exact o4_5
  · exact o5_5
end Go.Proofs.YtffhodocjjkkoaaGreat
namespace Go.Proofs.YtffhodocjjkkoaaGreat
open Go.RowKit
set_option maxHeartbeats 4000000
set_option maxRecDepth 100000
theorem nf_sz_Y (p : Int) (A : Option Addr) (n c : Nat) (Ab : Option Addr) (nb cb : Nat) (Ac : Option Addr) (nc cc : Nat) (Ad : Option Addr) (nd cd : Nat) (Ae : Option Addr) (ne ce : Nat) (x : Sess) (l : Int) (w : World) (hx : tZ.R w w.heap.size [.int .i64 p, .slice A n c, .slice Ab nb cb, .slice Ac nc cc, .slice Ad nd cd, .slice Ae ne ce] x) (hl : 0 ≤ l ∧ l ≤ 1000000000) :
    Calls Tryz.prog 8 #[.agg #[.int .i64 p, .slice A n c, .slice Ab nb cb, .slice Ac nc cc, .slice Ad nd cd, .slice Ae ne ce], .int .i64 l] w fun e w' => e = .returned (.int .i64 (if (hZ.sz x : Int) ≤ l then l - hZ.sz x else -1)) ∧ Below w.heap.size w w' := by
  obtain ⟨a0, x1, x2, x3, x4, x5⟩ := x
  obtain ⟨A1, n1, c1, A2, n2, c2, A3, n3, c3, A4, n4, c4, A5, n5, c5, hcs, h1, h2, h3, h4, h5⟩ := tZ_R.1 hx
  simp only [List.cons.injEq, Value.int.injEq, Value.slice.injEq, true_and, and_true] at hcs
  obtain ⟨rfl, ⟨rfl, rfl, rfl⟩, ⟨rfl, rfl, rfl⟩, ⟨rfl, rfl, rfl⟩, ⟨rfl, rfl, rfl⟩, ⟨rfl, rfl, rfl⟩⟩ := hcs
  exact nf_sz_Z _ _ _ _ _ _ _ _ _ _ _ _ _ _ _ _ _ _ _ _ _ _ _ h1 h2 h3 h4 h5 hl
theorem nf_to_Y (p : Int) (A : Option Addr) (n c : Nat) (Ab : Option Addr) (nb cb : Nat) (Ac : Option Addr) (nc cc : Nat) (Ad : Option Addr) (nd cd : Nat) (Ae : Option Addr) (ne ce : Nat) (x : Sess) (w : World) (hx : tZ.R w w.heap.size [.int .i64 p, .slice A n c, .slice Ab nb cb, .slice Ac nc cc, .slice Ad nd cd, .slice Ae ne ce] x) (hn : hZ.sz x ≤ 100000000) :
    Calls Tryz.prog 10 #[.agg #[.int .i64 p, .slice A n c, .slice Ab nb cb, .slice Ac nc cc, .slice Ad nd cd, .slice Ae ne ce]] w fun e w' => ∃ p' A' n' c' Ab' nb' cb' Ac' nc' cc' Ad' nd' cd' Ae' ne' ce', e = .returned (.agg #[.int .i64 p', .slice A' n' c', .slice Ab' nb' cb', .slice Ac' nc' cc', .slice Ad' nd' cd', .slice Ae' ne' ce']) ∧ tZ.O w' (Iv w.heap.size w'.heap.size) [.int .i64 p', .slice A' n' c', .slice Ab' nb' cb', .slice Ac' nc' cc', .slice Ad' nd' cd', .slice Ae' ne' ce'] x ∧ Below w.heap.size w w' := by
  obtain ⟨a0, x1, x2, x3, x4, x5⟩ := x
  obtain ⟨A1, n1, c1, A2, n2, c2, A3, n3, c3, A4, n4, c4, A5, n5, c5, hcs, h1, h2, h3, h4, h5⟩ := tZ_R.1 hx
  simp only [List.cons.injEq, Value.int.injEq, Value.slice.injEq, true_and, and_true] at hcs
  obtain ⟨rfl, ⟨rfl, rfl, rfl⟩, ⟨rfl, rfl, rfl⟩, ⟨rfl, rfl, rfl⟩, ⟨rfl, rfl, rfl⟩, ⟨rfl, rfl, rfl⟩⟩ := hcs
  refine (nf_to_Z _ _ _ _ _ _ _ _ _ _ _ _ _ _ _ _ _ _ _ _ _ _ h1 h2 h3 h4 h5 hn).mono ?_
  rintro e w' ⟨B1, m1, d1, B2, m2, d2, B3, m3, d3, B4, m4, d4, B5, m5, d5, rfl, o, bel⟩
  exact ⟨_, _, _, _, _, _, _, _, _, _, _, _, _, _, _, _, rfl, o, bel⟩
theorem nf_eq_Y (p : Int) (A : Option Addr) (n c : Nat) (Ab : Option Addr) (nb cb : Nat) (Ac : Option Addr) (nc cc : Nat) (Ad : Option Addr) (nd cd : Nat) (Ae : Option Addr) (ne ce : Nat) (p' : Int) (A' : Option Addr) (n' c' : Nat) (Ab' : Option Addr) (nb' cb' : Nat) (Ac' : Option Addr) (nc' cc' : Nat) (Ad' : Option Addr) (nd' cd' : Nat) (Ae' : Option Addr) (ne' ce' : Nat) (x : Sess) (w : World) (hx : tZ.R w w.heap.size [.int .i64 p, .slice A n c, .slice Ab nb cb, .slice Ac nc cc, .slice Ad nd cd, .slice Ae ne ce] x) (hy : tZ.R w w.heap.size [.int .i64 p', .slice A' n' c', .slice Ab' nb' cb', .slice Ac' nc' cc', .slice Ad' nd' cd', .slice Ae' ne' ce'] x) (hn : hZ.sz x ≤ 100000000) :
    Calls Tryz.prog 13 #[.agg #[.int .i64 p, .slice A n c, .slice Ab nb cb, .slice Ac nc cc, .slice Ad nd cd, .slice Ae ne ce], .agg #[.int .i64 p', .slice A' n' c', .slice Ab' nb' cb', .slice Ac' nc' cc', .slice Ad' nd' cd', .slice Ae' ne' ce']] w fun e w' => e = .returned (.bool true) ∧ Below w.heap.size w w' := by
  obtain ⟨a0, x1, x2, x3, x4, x5⟩ := x
  obtain ⟨A1, n1, c1, A2, n2, c2, A3, n3, c3, A4, n4, c4, A5, n5, c5, hcs, h1, h2, h3, h4, h5⟩ := tZ_R.1 hx
  simp only [List.cons.injEq, Value.int.injEq, Value.slice.injEq, true_and, and_true] at hcs
  obtain ⟨rfl, ⟨rfl, rfl, rfl⟩, ⟨rfl, rfl, rfl⟩, ⟨rfl, rfl, rfl⟩, ⟨rfl, rfl, rfl⟩, ⟨rfl, rfl, rfl⟩⟩ := hcs
  obtain ⟨A1', n1', c1', A2', n2', c2', A3', n3', c3', A4', n4', c4', A5', n5', c5', hcs', k1, k2, k3, k4, k5⟩ := tZ_R.1 hy
  simp only [List.cons.injEq, Value.int.injEq, Value.slice.injEq, true_and, and_true] at hcs'
  obtain ⟨rfl, ⟨rfl, rfl, rfl⟩, ⟨rfl, rfl, rfl⟩, ⟨rfl, rfl, rfl⟩, ⟨rfl, rfl, rfl⟩, ⟨rfl, rfl, rfl⟩⟩ := hcs'
  exact nf_eq_Z _ _ _ _ _ _ _ _ _ _ _ _ _ _ _ _ _ _ _ _ _ _ _ _ _ _ _ _ _ _ _ _ _ _ _ _ _  h1 h2 h3 h4 h5 k1 k2 k3 k4 k5 hn
end Go.Proofs.YtffhodocjjkkoaaGreat
namespace Go.Proofs.YtffhodocjjkkoaaGreat
open Go.RowKit
set_option maxHeartbeats 4000000
set_option maxRecDepth 100000
theorem nf_mark_Y (p : Int) (A : Option Addr) (n c : Nat) (Ab : Option Addr) (nb cb : Nat) (Ac : Option Addr) (nc cc : Nat) (Ad : Option Addr) (nd cd : Nat) (Ae : Option Addr) (ne ce : Nat) (k : Int) (x : Sess) (w : World) (F : Nat → Prop) (hx : tZ.O w F [.int .i64 p, .slice A n c, .slice Ab nb cb, .slice Ac nc cc, .slice Ad nd cd, .slice Ae ne ce] x) (hF : ∀ b, F b → b < w.heap.size) (hk : 0 ≤ k ∧ k + (hZ.cnt x : Int) ≤ 1000000000) :
    Calls Tryz.prog 14 #[.agg #[.int .i64 p, .slice A n c, .slice Ab nb cb, .slice Ac nc cc, .slice Ad nd cd, .slice Ae ne ce], .int .i64 k] w fun e w' => e = .returned (.int .i64 (k + hZ.cnt x)) ∧ tZ.O w' F [.int .i64 p, .slice A n c, .slice Ab nb cb, .slice Ac nc cc, .slice Ad nd cd, .slice Ae ne ce] (hZ.mark k x) ∧ Chg F w w' := by
  obtain ⟨a0, x1, x2, x3, x4, x5⟩ := x
  obtain ⟨A1, n1, c1, A2, n2, c2, A3, n3, c3, A4, n4, c4, A5, n5, c5, hcs, h1, h2, h3, h4, h5⟩ := tZ_R.1 (tZ.read hx)
  simp only [List.cons.injEq, Value.int.injEq, Value.slice.injEq, true_and, and_true] at hcs
  obtain ⟨rfl, ⟨rfl, rfl, rfl⟩, ⟨rfl, rfl, rfl⟩, ⟨rfl, rfl, rfl⟩, ⟨rfl, rfl, rfl⟩, ⟨rfl, rfl, rfl⟩⟩ := hcs
  exact nf_mark_Z _ _ _ _ _ _ _ _ _ _ _ _ _ _ _ _ _ _ _ _ _ _ _ _ hx hF hk
theorem cl_of {α : Type} {h : Hs α} (hx : ∀ x, h.cnt x ≤ 10 * h.sz x + 10) (xs : List α) : h.cntL xs ≤ 10 * (xs.length + h.szL xs) := by
  induction xs with
  | nil => simp [Hs.cntL]
  | cons y ys ih =>
    rw [Hs.cntL, Hs.szL, List.length_cons]
    have := hx y
    omega
theorem cl_Y (x : Sess) : hZ.cnt x ≤ 10 * hZ.sz x + 10 := by
  obtain ⟨a0, x1, x2, x3, x4, x5⟩ := x
  rw [hZ_cnt, hZ_sz]
  have cS : ∀ x : List Int, hS.cnt x ≤ 10 * hS.sz x + 10 := fun x => by rw [hS_cnt, hS_sz]; omega
  have c1 : hSS.cnt x1 ≤ 10 * hSS.sz x1 := cl_of cS x1
  have cT : ∀ x : List Clip_, hT.cnt x ≤ 10 * hT.sz x + 10 := cl_T
  have c2 : hTS.cnt x2 ≤ 10 * hTS.sz x2 := cl_of cT x2
  have cN : ∀ x : Node, hN.cnt x ≤ 10 * hN.sz x + 10 := fun x => by
    obtain ⟨k, a, b, l⟩ := x
    rw [hN_cnt, hN_sz, hS_cnt, hS_sz]
    omega
  have cNS : ∀ x : List Node, hNS.cnt x ≤ 10 * hNS.sz x := cl_of cN
  have cP : ∀ x : Patch, hP.cnt x ≤ 10 * hP.sz x + 10 := fun x => by
    obtain ⟨k, t, n, u⟩ := x
    rw [hP_cnt, hP_sz]
    have e1 : hSS.cnt t ≤ 10 * hSS.sz t := cl_of cS t
    have e2 := cNS n
    have e3 : hS.cnt u ≤ hS.sz u := by rw [hS_cnt, hS_sz]; omega
    omega
  have c4 : hPS.cnt x4 ≤ 10 * hPS.sz x4 := cl_of cP x4
  have c3 : hS.cnt x3 ≤ hS.sz x3 := by rw [hS_cnt, hS_sz]; omega
  have c5 := cl_M x5
  omega
end Go.Proofs.YtffhodocjjkkoaaGreat
namespace Go.Proofs.YtffhodocjjkkoaaGreat
open Go.RowKit
set_option maxHeartbeats 4000000
set_option maxRecDepth 100000
theorem szL_mul {α : Type} {h : Hs α} {m : Nat} : ∀ (xs : List α), (∀ x ∈ xs, h.sz x ≤ m) → h.szL xs ≤ m * xs.length := by
  intro xs
  induction xs with
  | nil => intro _; exact Nat.zero_le _
  | cons y ys ih =>
    intro hx
    have h1 := hx y (by simp)
    have h2 := ih (fun x hx' => hx x (by simp [hx']))
    rw [Hs.szL, List.length_cons, Nat.mul_add]
    omega
theorem M.stripsR_sz (x : Sess) : hSS.sz (M.stripsR x).1 ≤ 100000 := by
  cases h : M.sessOk x
  · rw [M.stripsR_no h]
    exact Nat.zero_le _
  · obtain ⟨a0, x1, x2, x3, x4, x5⟩ := x
    obtain ⟨L, rfl, hO⟩ := M.SO_of h
    rw [M.stripsR_ok h]
    show hSS.sz (M.strS L x1 x2 x3 x4 x5) ≤ 100000
    have h1 := (M.mix_n hO.mix).2
    have h2 : (M.strS L x1 x2 x3 x4 x5).length ≤ 8 := by rw [M.strS_len]; exact h1
    have h3 : hS.szL (M.strS L x1 x2 x3 x4 x5) ≤ 1000 * (M.strS L x1 x2 x3 x4 x5).length := szL_mul _ (fun y hy => by
      rw [M.strS, List.mem_map] at hy
      obtain ⟨i, _, rfl⟩ := hy
      rw [hS_sz, M.sl_len]
      exact hO.l)
    have e : hSS.sz (M.strS L x1 x2 x3 x4 x5) = (M.strS L x1 x2 x3 x4 x5).length + hS.szL (M.strS L x1 x2 x3 x4 x5) := rfl
    omega
theorem impl_StripsOf_Y (p : Int) (A : Option Addr) (n c : Nat) (Ab : Option Addr) (nb cb : Nat) (Ac : Option Addr) (nc cc : Nat) (Ad : Option Addr) (nd cd : Nat) (Ae : Option Addr) (ne ce : Nat) (x : Sess) (w : World) (hx : tZ.R w w.heap.size [.int .i64 p, .slice A n c, .slice Ab nb cb, .slice Ac nc cc, .slice Ad nd cd, .slice Ae ne ce] x) (hn : hZ.sz x ≤ 100000000) :
    Calls Tryz.prog 18 #[.agg #[.int .i64 p, .slice A n c, .slice Ab nb cb, .slice Ac nc cc, .slice Ad nd cd, .slice Ae ne ce]] w (RetSS w (M.stripsR x)) := by
  obtain ⟨a0, x1, x2, x3, x4, x5⟩ := x
  obtain ⟨A1, n1, c1, A2, n2, c2, A3, n3, c3, A4, n4, c4, A5, n5, c5, hcs, h1, h2, h3, h4, h5⟩ := tZ_R.1 hx
  simp only [List.cons.injEq, Value.int.injEq, Value.slice.injEq, true_and, and_true] at hcs
  obtain ⟨rfl, ⟨rfl, rfl, rfl⟩, ⟨rfl, rfl, rfl⟩, ⟨rfl, rfl, rfl⟩, ⟨rfl, rfl, rfl⟩, ⟨rfl, rfl, rfl⟩⟩ := hcs
  exact impl_StripsOf _ _ _ c _ _ cb _ _ cc _ _ cd _ _ ce _ _ _ _ _ _ h1 h2 h3 h4 h5 hn
theorem spec_StripsOf_Y (p : Int) (A : Option Addr) (n c : Nat) (Ab : Option Addr) (nb cb : Nat) (Ac : Option Addr) (nc cc : Nat) (Ad : Option Addr) (nd cd : Nat) (Ae : Option Addr) (ne ce : Nat) (x : Sess) (w : World) (hx : tZ.R w w.heap.size [.int .i64 p, .slice A n c, .slice Ab nb cb, .slice Ac nc cc, .slice Ad nd cd, .slice Ae ne ce] x) (hn : hZ.sz x ≤ 100000000) :
    Calls Tryz.prog 17 #[.agg #[.int .i64 p, .slice A n c, .slice Ab nb cb, .slice Ac nc cc, .slice Ad nd cd, .slice Ae ne ce]] w (RetSS w (M.stripsR x)) := by
  obtain ⟨a0, x1, x2, x3, x4, x5⟩ := x
  obtain ⟨A1, n1, c1, A2, n2, c2, A3, n3, c3, A4, n4, c4, A5, n5, c5, hcs, h1, h2, h3, h4, h5⟩ := tZ_R.1 hx
  simp only [List.cons.injEq, Value.int.injEq, Value.slice.injEq, true_and, and_true] at hcs
  obtain ⟨rfl, ⟨rfl, rfl, rfl⟩, ⟨rfl, rfl, rfl⟩, ⟨rfl, rfl, rfl⟩, ⟨rfl, rfl, rfl⟩, ⟨rfl, rfl, rfl⟩⟩ := hcs
  exact spec_StripsOf _ _ _ c _ _ cb _ _ cc _ _ cd _ _ ce _ _ _ _ _ _ h1 h2 h3 h4 h5 hn
end Go.Proofs.YtffhodocjjkkoaaGreat
