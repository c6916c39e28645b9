import Derived.Test.YtfkcoiefkjmdeaaGreatFnNullG7
import Derived.Lib.QuietBelow
import Derived.Test.YtfkcoiefkjmdeaaGreatFnNullG13
import Derived.Test.YtfkcoiefkjmdeaaGreatFnNullG6
set_option linter.unusedVariables false
set_option linter.unusedSimpArgs false
set_option maxRecDepth 100000
set_option maxHeartbeats 4000000
namespace Go.Proofs.YtfkcoiefkjmdeaaGreat
section
open Go.RowKit Go.Sort
set_option synthInstance.maxSize 2000
set_option synthInstance.maxHeartbeats 400000
theorem zey (A : Option Addr) (n c : Nat) (w : World) : Calls Tryz.prog 67 #[.slice A n c] w fun e w' => e = .returned (.int .i64 n) ∧ w = w' := by
 go_enter Tryz.func67, Tryz.ntmps67
 go_wp2
 go_ret
 exact ⟨rfl, rfl⟩
theorem zgt (a0 : Int) (A1 : Option Addr) (n1 c1 : Nat) (A2 : Option Addr) (n2 c2 : Nat) (A3 : Option Addr) (n3 c3 : Nat) (A4 : Option Addr) (n4 c4 : Nat) (A5 : Option Addr) (n5 c5 : Nat) (x1 : List (List Int)) (x2 : List (List zah)) (x3 : List Int) (x4 : List zaf) (x5 : List zad) (w : World) (h1 : tSS.R w w.heap.size [.slice A1 n1 c1] x1) (h2 : tTS.R w w.heap.size [.slice A2 n2 c2] x2) (h3 : tS.R w w.heap.size [.slice A3 n3 c3] x3) (h4 : tPS.R w w.heap.size [.slice A4 n4 c4] x4) (h5 : tM.R w w.heap.size [.slice A5 n5 c5] x5) (hn : hZ.sz ((a0, x1, x2, x3, x4, x5) : Sess) ≤ 100000000) :
 Calls Tryz.prog 36 #[.agg #[.int .i64 a0, .slice A1 n1 c1, .slice A2 n2 c2, .slice A3 n3 c3, .slice A4 n4 c4, .slice A5 n5 c5]] w fun e w' => e = .returned (.bool (za9 (a0, x1, x2, x3, x4, x5))) ∧ Below w.heap.size w w' := by
 obtain ⟨W, hW⟩ : ∃ W, W = w.alloc (.cells #[.int .i64 a0, .slice A1 n1 c1, .slice A2 n2 c2, .slice A3 n3 c3, .slice A4 n4 c4, .slice A5 n5 c5] 32) := ⟨_, rfl⟩
 have B0 : Below w.heap.size w W := by rw [hW]; exact (Below.refl _ _).alloc (Nat.le_refl _) _
 have p0 : W.cell? ⟨w.heap.size, 0, none⟩ = some (.int .i64 a0) := by rw [hW]; simp [go_sem]
 have p1 : W.cell? ⟨w.heap.size, 1, none⟩ = some (.slice A1 n1 c1) := by rw [hW]; simp [go_sem]
 have p2 : W.cell? ⟨w.heap.size, 2, none⟩ = some (.slice A2 n2 c2) := by rw [hW]; simp [go_sem]
 have p3 : W.cell? ⟨w.heap.size, 3, none⟩ = some (.slice A3 n3 c3) := by rw [hW]; simp [go_sem]
 have p4 : W.cell? ⟨w.heap.size, 4, none⟩ = some (.slice A4 n4 c4) := by rw [hW]; simp [go_sem]
 have p5 : W.cell? ⟨w.heap.size, 5, none⟩ = some (.slice A5 n5 c5) := by rw [hW]; simp [go_sem]
 have lx : w.heap.size < W.heap.size := by rw [hW]; simp
 have HW := Lib.hid hW
 clear hW
 have k1 := tSS.later h1 B0
 have k2 := tTS.later h2 B0
 have k3 := tS.later h3 B0
 have k4 := tPS.later h4 B0
 have k5 := tM.later h5 B0
 rw [zeg] at hn
 have r1 := sl_R.1 k1
 have L1 := Lib.hid r1.cap.1
 have r2 := sl_R.1 k2
 have L2 := Lib.hid r2.cap.1
 have r3 := sl_R.1 k3
 have L3 := Lib.hid r3.cap.1
 have r4 := sl_R.1 k4
 have L4 := Lib.hid r4.cap.1
 have r5 := sl_R.1 k5
 have L5 := Lib.hid r5.cap.1
 have z1 : hSS.sz x1 ≤ 100000000 := by omega
 have bn1 : n1 ≤ 100000000 := by have e : x1.length + hS.szL x1 = hSS.sz x1 := rfl; have := L1.out; omega
 have z2 : hTS.sz x2 ≤ 100000000 := by omega
 have bn2 : n2 ≤ 100000000 := by have e : x2.length + hT.szL x2 = hTS.sz x2 := rfl; have := L2.out; omega
 have z3 : hS.sz x3 ≤ 100000000 := by omega
 have bn3 : n3 ≤ 100000000 := by have e : x3.length + hI.szL x3 = hS.sz x3 := rfl; have := L3.out; omega
 have z4 : hPS.sz x4 ≤ 100000000 := by omega
 have bn4 : n4 ≤ 100000000 := by have e : x4.length + hP.szL x4 = hPS.sz x4 := rfl; have := L4.out; omega
 have z5 : hM.sz x5 ≤ 100000000 := by omega
 have bn5 : n5 ≤ 100000000 := by have e : x5.length + hSt.szL x5 = hM.sz x5 := rfl; have := L5.out; omega
 have hb1 : Hid (∀ x ∈ x1, x.length ≤ 1000000000) := Lib.hid (fun x hx => by
  have hq1 : x1.length + hS.szL x1 = hSS.sz x1 := rfl
  obtain ⟨i, hi⟩ := List.getElem?_of_mem hx
  have := hS.szL_at hi
  rw [zb8] at this
  omega)
 have hx3 := (tS_R.1 k3).ri
 clear hn
 clear h1 h2 h3 h4 h5
 have HS := Lib.hid (show za9 (a0, x1, x2, x3, x4, x5) = (M.inn a0 0 1000 && zc9 x1 && decide (n2 ≤ 6) && zas x5 && decide (n3 = n2) && x3.all (zax n5) && decide (n4 = n5) && x2.all (fun t => zau t && zbe t n1) && x4.all zaw) by rw [za9]; simp only [L1.out, L2.out, L3.out, L4.out, L5.out])
 generalize za9 (a0, x1, x2, x3, x4, x5) = ok at HS ⊢
 cases g0 : M.inn a0 0 1000
 · have R := Lib.hid (show ok = false by rw [HS.out]; simp only [g0, Bool.false_and, Bool.and_false, Bool.true_and])
   have G0 := Lib.hid g0
   clear g0
   go_enter Tryz.func36, Tryz.ntmps36
   go_wp2_with fail
   rw [← HW.out]
   go_wp2_with (first | (go_at_call 55; refine (zd5 _ _ _ _).mono ?_; rintro e w' ⟨rfl, rfl⟩) | (go_at_call 67; refine (zey _ _ _ _).mono ?_; rintro e w' ⟨rfl, rfl⟩) | (go_at_call 56; refine (zao _ _ _ _).mono ?_; rw [G0.out]; rintro e w' ⟨rfl, rfl⟩))
   go_ret
   exact ⟨zab (by rw [R.out]), B0⟩
 have G0 := Lib.hid g0
 clear g0
 cases g1 : zc9 x1
 · have R := Lib.hid (show ok = false by rw [HS.out]; simp only [G0.out, g1, Bool.false_and, Bool.and_false, Bool.true_and])
   have G1 := Lib.hid g1
   clear g1
   go_enter Tryz.func36, Tryz.ntmps36
   go_wp2_with fail
   rw [← HW.out]
   go_wp2_with (first | (go_at_call 55; refine (zd5 _ _ _ _).mono ?_; rintro e w' ⟨rfl, rfl⟩) | (go_at_call 67; refine (zey _ _ _ _).mono ?_; rintro e w' ⟨rfl, rfl⟩) | (go_at_call 56; refine (zao _ _ _ _).mono ?_; rw [G0.out]; rintro e w' ⟨rfl, rfl⟩) | (go_at_call 66; refine (ze7 _ _ _ _ _ r1 hb1 (by omega)).mono ?_; rw [G1.out]; rintro e w' ⟨rfl, rfl⟩))
   go_ret
   exact ⟨zab (by rw [R.out]), B0⟩
 have G1 := Lib.hid g1
 clear g1
 by_cases g2 : ¬ n2 ≤ 6
 · have R := Lib.hid (show ok = false by rw [HS.out]; simp only [G0.out, G1.out, decide_eq_false g2, Bool.false_and, Bool.and_false, Bool.true_and])
   have gg : decide ((6 : Int) < (n2 : Int)) = true := decide_eq_true (by omega)
   go_enter Tryz.func36, Tryz.ntmps36
   go_wp2_with fail
   rw [← HW.out]
   go_wp2_with (first | (go_at_call 55; refine (zd5 _ _ _ _).mono ?_; rintro e w' ⟨rfl, rfl⟩) | (go_at_call 67; refine (zey _ _ _ _).mono ?_; rintro e w' ⟨rfl, rfl⟩) | (go_at_call 56; refine (zao _ _ _ _).mono ?_; rw [G0.out]; rintro e w' ⟨rfl, rfl⟩) | (go_at_call 66; refine (ze7 _ _ _ _ _ r1 hb1 (by omega)).mono ?_; rw [G1.out]; rintro e w' ⟨rfl, rfl⟩))
   go_ret
   exact ⟨zab (by rw [R.out]), B0⟩
 replace g2 : n2 ≤ 6 := Decidable.not_not.1 g2
 have gd2 : decide ((6 : Int) < (n2 : Int)) = false := decide_eq_false (by omega)
 cases g3 : zas x5
 · have R := Lib.hid (show ok = false by rw [HS.out]; simp only [G0.out, G1.out, decide_eq_true g2, g3, Bool.false_and, Bool.and_false, Bool.true_and])
   have G3 := Lib.hid g3
   clear g3
   go_enter Tryz.func36, Tryz.ntmps36
   go_wp2_with fail
   rw [← HW.out]
   go_wp2_with (first | (go_at_call 55; refine (zd5 _ _ _ _).mono ?_; rintro e w' ⟨rfl, rfl⟩) | (go_at_call 67; refine (zey _ _ _ _).mono ?_; rintro e w' ⟨rfl, rfl⟩) | (go_at_call 56; refine (zao _ _ _ _).mono ?_; rw [G0.out]; rintro e w' ⟨rfl, rfl⟩) | (go_at_call 66; refine (ze7 _ _ _ _ _ r1 hb1 (by omega)).mono ?_; rw [G1.out]; rintro e w' ⟨rfl, rfl⟩) | (go_at_call 54; refine (zga _ _ _ _ _ k5 z5).mono ?_; rw [G3.out]; rintro e w2 ⟨rfl, bel2⟩; have s0 : w2.cell? ⟨w.heap.size, 0, none⟩ = some (.int .i64 a0) := (by rw [bel2.cell lx]; exact p0); have s1 : w2.cell? ⟨w.heap.size, 1, none⟩ = some (.slice A1 n1 c1) := (by rw [bel2.cell lx]; exact p1); have s2 : w2.cell? ⟨w.heap.size, 2, none⟩ = some (.slice A2 n2 c2) := (by rw [bel2.cell lx]; exact p2); have s3 : w2.cell? ⟨w.heap.size, 3, none⟩ = some (.slice A3 n3 c3) := (by rw [bel2.cell lx]; exact p3); have s4 : w2.cell? ⟨w.heap.size, 4, none⟩ = some (.slice A4 n4 c4) := (by rw [bel2.cell lx]; exact p4); have s5 : w2.cell? ⟨w.heap.size, 5, none⟩ = some (.slice A5 n5 c5) := (by rw [bel2.cell lx]; exact p5); have hy3 := hx3.later bel2))
   go_ret
   exact ⟨zab (by rw [R.out]), zaa B0 bel2⟩
 have G3 := Lib.hid g3
 clear g3
 by_cases g4 : ¬ n3 = n2
 · have R := Lib.hid (show ok = false by rw [HS.out]; simp only [G0.out, G1.out, decide_eq_true g2, G3.out, decide_eq_false g4, Bool.false_and, Bool.and_false, Bool.true_and])
   have gg : ((n3 : Int) != (n2 : Int)) = true := by simp; omega
   go_enter Tryz.func36, Tryz.ntmps36
   go_wp2_with fail
   rw [← HW.out]
   go_wp2_with (first | (go_at_call 55; refine (zd5 _ _ _ _).mono ?_; rintro e w' ⟨rfl, rfl⟩) | (go_at_call 67; refine (zey _ _ _ _).mono ?_; rintro e w' ⟨rfl, rfl⟩) | (go_at_call 56; refine (zao _ _ _ _).mono ?_; rw [G0.out]; rintro e w' ⟨rfl, rfl⟩) | (go_at_call 66; refine (ze7 _ _ _ _ _ r1 hb1 (by omega)).mono ?_; rw [G1.out]; rintro e w' ⟨rfl, rfl⟩) | (go_at_call 54; refine (zga _ _ _ _ _ k5 z5).mono ?_; rw [G3.out]; rintro e w2 ⟨rfl, bel2⟩; have s0 : w2.cell? ⟨w.heap.size, 0, none⟩ = some (.int .i64 a0) := (by rw [bel2.cell lx]; exact p0); have s1 : w2.cell? ⟨w.heap.size, 1, none⟩ = some (.slice A1 n1 c1) := (by rw [bel2.cell lx]; exact p1); have s2 : w2.cell? ⟨w.heap.size, 2, none⟩ = some (.slice A2 n2 c2) := (by rw [bel2.cell lx]; exact p2); have s3 : w2.cell? ⟨w.heap.size, 3, none⟩ = some (.slice A3 n3 c3) := (by rw [bel2.cell lx]; exact p3); have s4 : w2.cell? ⟨w.heap.size, 4, none⟩ = some (.slice A4 n4 c4) := (by rw [bel2.cell lx]; exact p4); have s5 : w2.cell? ⟨w.heap.size, 5, none⟩ = some (.slice A5 n5 c5) := (by rw [bel2.cell lx]; exact p5); have hy3 := hx3.later bel2))
   go_ret
   exact ⟨zab (by rw [R.out]), zaa B0 bel2⟩
 replace g4 : n3 = n2 := Decidable.not_not.1 g4
 subst g4
 cases g5 : x3.all (zax n5)
 · have R := Lib.hid (show ok = false by rw [HS.out]; simp only [G0.out, G1.out, decide_eq_true g2, G3.out, decide_true, g5, Bool.false_and, Bool.and_false, Bool.true_and])
   have G5 := Lib.hid g5
   clear g5
   go_enter Tryz.func36, Tryz.ntmps36
   go_wp2_with fail
   rw [← HW.out]
   go_wp2_with (first | (go_at_call 55; refine (zd5 _ _ _ _).mono ?_; rintro e w' ⟨rfl, rfl⟩) | (go_at_call 67; refine (zey _ _ _ _).mono ?_; rintro e w' ⟨rfl, rfl⟩) | (go_at_call 56; refine (zao _ _ _ _).mono ?_; rw [G0.out]; rintro e w' ⟨rfl, rfl⟩) | (go_at_call 66; refine (ze7 _ _ _ _ _ r1 hb1 (by omega)).mono ?_; rw [G1.out]; rintro e w' ⟨rfl, rfl⟩) | (go_at_call 54; refine (zga _ _ _ _ _ k5 z5).mono ?_; rw [G3.out]; rintro e w2 ⟨rfl, bel2⟩; have s0 : w2.cell? ⟨w.heap.size, 0, none⟩ = some (.int .i64 a0) := (by rw [bel2.cell lx]; exact p0); have s1 : w2.cell? ⟨w.heap.size, 1, none⟩ = some (.slice A1 n1 c1) := (by rw [bel2.cell lx]; exact p1); have s2 : w2.cell? ⟨w.heap.size, 2, none⟩ = some (.slice A2 n3 c2) := (by rw [bel2.cell lx]; exact p2); have s3 : w2.cell? ⟨w.heap.size, 3, none⟩ = some (.slice A3 n3 c3) := (by rw [bel2.cell lx]; exact p3); have s4 : w2.cell? ⟨w.heap.size, 4, none⟩ = some (.slice A4 n4 c4) := (by rw [bel2.cell lx]; exact p4); have s5 : w2.cell? ⟨w.heap.size, 5, none⟩ = some (.slice A5 n5 c5) := (by rw [bel2.cell lx]; exact p5); have hy3 := hx3.later bel2) | (go_at_call 47; refine (zet _ _ _ _ _ _ hy3 (by omega) (by omega)).mono ?_; rw [G5.out]; rintro e w' ⟨rfl, rfl⟩))
   go_ret
   exact ⟨zab (by rw [R.out]), zaa B0 bel2⟩
 have G5 := Lib.hid g5
 clear g5
 by_cases g6 : ¬ n4 = n5
 · have R := Lib.hid (show ok = false by rw [HS.out]; simp only [G0.out, G1.out, decide_eq_true g2, G3.out, decide_true, G5.out, decide_eq_false g6, Bool.false_and, Bool.and_false, Bool.true_and])
   have gg : ((n4 : Int) != (n5 : Int)) = true := by simp; omega
   go_enter Tryz.func36, Tryz.ntmps36
   go_wp2_with fail
   rw [← HW.out]
   go_wp2_with (first | (go_at_call 55; refine (zd5 _ _ _ _).mono ?_; rintro e w' ⟨rfl, rfl⟩) | (go_at_call 67; refine (zey _ _ _ _).mono ?_; rintro e w' ⟨rfl, rfl⟩) | (go_at_call 56; refine (zao _ _ _ _).mono ?_; rw [G0.out]; rintro e w' ⟨rfl, rfl⟩) | (go_at_call 66; refine (ze7 _ _ _ _ _ r1 hb1 (by omega)).mono ?_; rw [G1.out]; rintro e w' ⟨rfl, rfl⟩) | (go_at_call 54; refine (zga _ _ _ _ _ k5 z5).mono ?_; rw [G3.out]; rintro e w2 ⟨rfl, bel2⟩; have s0 : w2.cell? ⟨w.heap.size, 0, none⟩ = some (.int .i64 a0) := (by rw [bel2.cell lx]; exact p0); have s1 : w2.cell? ⟨w.heap.size, 1, none⟩ = some (.slice A1 n1 c1) := (by rw [bel2.cell lx]; exact p1); have s2 : w2.cell? ⟨w.heap.size, 2, none⟩ = some (.slice A2 n3 c2) := (by rw [bel2.cell lx]; exact p2); have s3 : w2.cell? ⟨w.heap.size, 3, none⟩ = some (.slice A3 n3 c3) := (by rw [bel2.cell lx]; exact p3); have s4 : w2.cell? ⟨w.heap.size, 4, none⟩ = some (.slice A4 n4 c4) := (by rw [bel2.cell lx]; exact p4); have s5 : w2.cell? ⟨w.heap.size, 5, none⟩ = some (.slice A5 n5 c5) := (by rw [bel2.cell lx]; exact p5); have hy3 := hx3.later bel2) | (go_at_call 47; refine (zet _ _ _ _ _ _ hy3 (by omega) (by omega)).mono ?_; rw [G5.out]; rintro e w' ⟨rfl, rfl⟩))
   go_ret
   exact ⟨zab (by rw [R.out]), zaa B0 bel2⟩
 replace g6 : n4 = n5 := Decidable.not_not.1 g6
 subst g6
 have HS2 := Lib.hid (show ok = (x2.all (fun t => zau t && zbe t n1) && x4.all zaw) by rw [HS.out]; simp only [G0.out, G1.out, decide_eq_true g2, G3.out, G5.out, decide_true, Bool.true_and, Bool.and_true])
 clear HS
 go_enter Tryz.func36, Tryz.ntmps36
 go_wp2_with fail
 rw [← HW.out]
 go_wp2_with (first | (go_at_call 55; refine (zd5 _ _ _ _).mono ?_; rintro e w' ⟨rfl, rfl⟩) | (go_at_call 67; refine (zey _ _ _ _).mono ?_; rintro e w' ⟨rfl, rfl⟩) | (go_at_call 56; refine (zao _ _ _ _).mono ?_; rw [G0.out]; rintro e w' ⟨rfl, rfl⟩) | (go_at_call 66; refine (ze7 _ _ _ _ _ r1 hb1 (by omega)).mono ?_; rw [G1.out]; rintro e w' ⟨rfl, rfl⟩) | (go_at_call 54; refine (zga _ _ _ _ _ k5 z5).mono ?_; rw [G3.out]; rintro e w2 ⟨rfl, bel2⟩; have s0 : w2.cell? ⟨w.heap.size, 0, none⟩ = some (.int .i64 a0) := (by rw [bel2.cell lx]; exact p0); have s1 : w2.cell? ⟨w.heap.size, 1, none⟩ = some (.slice A1 n1 c1) := (by rw [bel2.cell lx]; exact p1); have s2 : w2.cell? ⟨w.heap.size, 2, none⟩ = some (.slice A2 n3 c2) := (by rw [bel2.cell lx]; exact p2); have s3 : w2.cell? ⟨w.heap.size, 3, none⟩ = some (.slice A3 n3 c3) := (by rw [bel2.cell lx]; exact p3); have s4 : w2.cell? ⟨w.heap.size, 4, none⟩ = some (.slice A4 n4 c4) := (by rw [bel2.cell lx]; exact p4); have s5 : w2.cell? ⟨w.heap.size, 5, none⟩ = some (.slice A5 n4 c5) := (by rw [bel2.cell lx]; exact p5); have hy3 := hx3.later bel2) | (go_at_call 47; refine (zet _ _ _ _ _ _ hy3 (by omega) (by omega)).mono ?_; rw [G5.out]; rintro e w' ⟨rfl, rfl⟩))
 have B2 := zaa B0 bel2
 have lV : w.heap.size < w2.heap.size := by have := bel2.size; omega
 replace r2 := r2.later bel2
 replace r4 := r4.later bel2
 go_loopw [60] (fun i wr => ∃ k : Nat, i = .int .i64 k ∧ k ≤ n3 ∧ Hid (ok = ((x2.drop k).all (fun t => zau t && zbe t n1) && x4.all zaw)) ∧ Below w2.heap.size w2 wr) (fun i _ => n3 - (intOf i).toNat)
 case atStart => exact ⟨0, rfl, by omega, Lib.hid HS2.out, Below.refl _ _⟩
 case round =>
  obtain ⟨k, rfl, hk, H, Bw⟩ := hrel
  have BW := zaa B2 Bw
  by_cases hlt : k < n3
  · obtain ⟨bt, ot, A7, n7, c7, t, rfl, hbt, Y, e0, hT, hra, h7⟩ := zhi (r2.below Bw) z2 hlt
    have hd := Lib.hid (M.drop_at Y.out)
    have hk0 : (0 : Int) ≤ (k : Int) := by omega
    have hkn : (k : Int) < (n3 : Int) := by omega
    obtain ⟨U, hU⟩ : ∃ U, U = wr.alloc (.cells #[.slice A7 n7 c7] 42) := ⟨_, rfl⟩
    have GU : Below wr.heap.size wr U := by rw [hU]; exact (Below.refl _ _).alloc (Nat.le_refl _) _
    have u0 : U.cell? ⟨wr.heap.size, 0, none⟩ = some (.slice A7 n7 c7) := by rw [hU, cell_of_row _ wr.heap.size 0 _ 42 (0, 0) (heap_alloc_new wr _)]; rfl
    have BU := zaa Bw GU
    have q1 : U.cell? ⟨w.heap.size, 1, none⟩ = some (.slice A1 n1 c1) := by rw [BU.cell lV]; exact s1
    have HU := Lib.hid hU
    clear hU
    have hry := (hra.more Bw.size).later GU
    have uu0 := cell_regrown u0
    have qq1 := cell_regrown q1
    have cS : ∀ d os, Calls Tryz.prog 70 #[.slice A1 n1 c1] (grow (redrawn U d) os) fun e w'' => e = .returned (.int .i64 n1) ∧ ∃ p : Regrown, w'' = grow (redrawn U p.d) p.os := fun d os => Calls.regrown_of (zfm (zka _ _ _ _))
    have cT : ∀ d os, Calls Tryz.prog 68 #[.agg #[.slice A7 n7 c7]] (grow (redrawn U d) os) fun e w'' => e = .returned (.bool (zau t)) ∧ ∃ p : Regrown, w'' = grow (redrawn U p.d) p.os := fun d os => Calls.regrown_of (znc _ _ _ _ _ (hry.later (below_regrown U d os)) (by omega))
    have cH : ∀ d os, Calls Tryz.prog 69 #[.agg #[.slice A7 n7 c7], .int .i64 n1] (grow (redrawn U d) os) fun e w'' => e = .returned (.bool (zbe t n1)) ∧ ∃ p : Regrown, w'' = grow (redrawn U p.d) p.os := fun d os => Calls.regrown_of (zn7 _ _ _ _ _ _ (hry.later (below_regrown U d os)) (by omega))
    clear u0 q1
    cases ht : zau t
    · have R := Lib.hid (show ok = false by rw [H.out, hd.out, List.all_cons]; simp only [ht, Bool.false_and])
      rw [ht] at cT
      clear ht
      go_wp2_with fail
      rw [← HU.out]
      clear e0
      (refine wp_region_quiet_below (by kernel_rfl) (by kernel_rfl) ?_; (repeat (go_big_quiet_step ((first | exact cS _ _ | exact cT _ _ | exact cH _ _)))); refine wpQuiet_nil ?_; intro _ hw'; obtain ⟨⟨dq, osq⟩, hw''⟩ := hw'; subst hw'')
      go_wp2
      go_ret
      exact ⟨zab (by rw [R.out]), zaa BW (zaa GU (below_regrown U dq osq))⟩
    · rw [ht] at cT
      cases hh : zbe t n1
      · have R := Lib.hid (show ok = false by rw [H.out, hd.out, List.all_cons]; simp only [ht, hh, Bool.false_and, Bool.and_false])
        rw [hh] at cH
        clear ht hh
        go_wp2_with fail
        rw [← HU.out]
        clear e0
        (refine wp_region_quiet_below (by kernel_rfl) (by kernel_rfl) ?_; (repeat (go_big_quiet_step ((first | exact cS _ _ | exact cT _ _ | exact cH _ _)))); refine wpQuiet_nil ?_; intro _ hw'; obtain ⟨⟨dq, osq⟩, hw''⟩ := hw'; subst hw'')
        go_wp2
        go_ret
        exact ⟨zab (by rw [R.out]), zaa BW (zaa GU (below_regrown U dq osq))⟩
      · have R := Lib.hid (show ok = ((x2.drop (k + 1)).all (fun t => zau t && zbe t n1) && x4.all zaw) by rw [H.out, hd.out, List.all_cons]; simp only [ht, hh, Bool.true_and])
        rw [hh] at cH
        clear ht hh
        go_wp2_with fail
        rw [← HU.out]
        clear e0
        (refine wp_region_quiet_below (by kernel_rfl) (by kernel_rfl) ?_; (repeat (go_big_quiet_step ((first | exact cS _ _ | exact cT _ _ | exact cH _ _)))); refine wpQuiet_nil ?_; intro _ hw'; obtain ⟨⟨dq, osq⟩, hw''⟩ := hw'; subst hw'')
        go_wp2
        go_roundw
        case rel => exact ⟨k + 1, by go_num, by omega, R, zaa Bw (zaa GU (below_regrown U dq osq))⟩
        case measure => simp [intOf]; omega
  · have HS4 := Lib.hid (show ok = x4.all zaw by rw [H.out, List.drop_eq_nil_of_le (by rw [L2.out]; omega)]; rfl)
    have q4 : wr.cell? ⟨w.heap.size, 4, none⟩ = some (.slice A4 n4 c4) := by rw [Bw.cell lV]; exact s4
    go_wp2_with fail
    clear H hk hlt
    obtain ⟨wo, rfl⟩ : ∃ wo : World, wo = wr := ⟨_, rfl⟩
    go_loopw [79] (fun i wr => ∃ k : Nat, i = .int .i64 k ∧ k ≤ n4 ∧ Hid (ok = (x4.drop k).all zaw) ∧ Below w2.heap.size w2 wr) (fun i _ => n4 - (intOf i).toNat)
    case atStart => exact ⟨0, rfl, by omega, Lib.hid HS4.out, Bw⟩
    case round =>
     obtain ⟨k, rfl, hk, H, Bw2⟩ := hrel
     have BW := zaa B2 Bw2
     by_cases hlt2 : k < n4
     · obtain ⟨bp, op, b0, B1, m1, d1, B2, m2, d2, B3, m3, d3, y1, y2, y3, rfl, hbp, Y, e0, e1, e2, e3, t1, t2, t3, hz⟩ := zhj (r4.below Bw2) z4 hlt2
       have hd := Lib.hid (M.drop_at Y.out)
       obtain ⟨U, hU⟩ : ∃ U, U = wr.alloc (.cells #[.int .i64 b0, .slice B1 m1 d1, .slice B2 m2 d2, .slice B3 m3 d3] 36) := ⟨_, rfl⟩
       have GU : Below wr.heap.size wr U := by rw [hU]; exact (Below.refl _ _).alloc (Nat.le_refl _) _
       have HU := Lib.hid hU
       clear hU
       have s1 := tSS.later (tSS.more Bw2.size t1) GU
       have s2 := tNS.later (tNS.more Bw2.size t2) GU
       have s3 := tS.later (tS.more Bw2.size t3) GU
       have hk0 : (0 : Int) ≤ (k : Int) := by omega
       have hkn : (k : Int) < (n4 : Int) := by omega
       cases he : zaw (b0, y1, y2, y3)
       · have R := Lib.hid (show ok = false by rw [H.out, hd.out, List.all_cons, he]; rfl)
         have HE := Lib.hid he
         clear he
         go_wp2_with fail
         rw [← HU.out]
         refine (zk6 _ _ _ _ _ _ _ _ _ _ _ _ _ U s1 s2 s3 hz).mono ?_
         rw [HE.out]
         rintro e w5 ⟨rfl, bel5⟩
         go_wp2
         go_ret
         exact ⟨zab (by rw [R.out]), zaa BW (zaa GU bel5)⟩
       · have R := Lib.hid (show ok = (x4.drop (k + 1)).all zaw by rw [H.out, hd.out, List.all_cons, he]; rfl)
         have HE := Lib.hid he
         clear he
         go_wp2_with fail
         rw [← HU.out]
         refine (zk6 _ _ _ _ _ _ _ _ _ _ _ _ _ U s1 s2 s3 hz).mono ?_
         rw [HE.out]
         rintro e w5 ⟨rfl, bel5⟩
         go_wp2
         go_roundw
         case rel => exact ⟨k + 1, by go_num, by omega, R, zaa Bw2 (zaa GU bel5)⟩
         case measure => simp [intOf]; omega
     · have R := Lib.hid (show ok = true by rw [H.out, List.drop_eq_nil_of_le (by rw [L4.out]; omega)]; rfl)
       go_wp2
       go_ret
       exact ⟨zab (by rw [R.out]), BW⟩
end
section
open Go.RowKit Go.Sort
set_option synthInstance.maxSize 2000
set_option synthInstance.maxHeartbeats 400000
section
variable {L : Nat} {src : List (List Int)} {ts : List (List zah)} {fs : List Int} {ps : List zaf} {ms : List zad}
theorem zmi (h : M.SO L src ts fs ps ms) : (zex L src ts fs ps ms).length = ms.length := (zhw h _ (Nat.le_refl _)).2.len
theorem zts (h : M.SO L src ts fs ps ms) {k : Nat} (hk : k < ms.length) : (zag (zex L src ts fs ps ms) k).length = M.nT L ms := ((zhw h _ (Nat.le_refl _)).2.cel hk).1
theorem ztt {k : Nat} (hk : k < ms.length) : (zdj ms)[k]? = some (zbm ms k + (zbh ms k).2.1) := by
 rw [zdj, List.getElem?_map, List.getElem?_range hk]
 rfl
theorem ztu : (zdj ms).length = ms.length := by rw [zdj, List.length_map, List.length_range]
end
theorem zja (L : Nat) (A1 : Option Addr) (n1 c1 : Nat) (A2 : Option Addr) (n2 c2 : Nat) (A3 : Option Addr) (n3 c3 : Nat) (A4 : Option Addr) (n4 c4 : Nat) (A5 : Option Addr) (n5 c5 : Nat) (src : List (List Int)) (ts : List (List zah)) (fs : List Int) (ps : List zaf) (ms : List zad) (w : World)
 (h1 : tSS.R w w.heap.size [.slice A1 n1 c1] src) (h2 : tTS.R w w.heap.size [.slice A2 n2 c2] ts) (h3 : tS.R w w.heap.size [.slice A3 n3 c3] fs) (h4 : tPS.R w w.heap.size [.slice A4 n4 c4] ps) (h5 : tM.R w w.heap.size [.slice A5 n5 c5] ms) (hn : hZ.sz (((L : Int), src, ts, fs, ps, ms) : Sess) ≤ 100000000) (hO : M.SO L src ts fs ps ms) :
 Calls Tryz.prog 32 #[.agg #[.int .i64 L, .slice A1 n1 c1, .slice A2 n2 c2, .slice A3 n3 c3, .slice A4 n4 c4, .slice A5 n5 c5]] w (Ret1 2 w (zb6 L src ts fs ps ms)) := by
 obtain ⟨W, hW, B0, sW, p0, p1, p2, p3, p4, p5, pf⟩ := zb2 w (.int .i64 L) (.slice A1 n1 c1) (.slice A2 n2 c2) (.slice A3 n3 c3) (.slice A4 n4 c4) (.slice A5 n5 c5) 32
 have HW := Lib.hid hW
 have lW : w.heap.size < W.heap.size := by omega
 have Q5 := Lib.hid (sl_R.1 h5).cap.1
 have hmn := zd0 hO.mix
 rw [Q5.out] at hmn
 obtain ⟨m, hm⟩ : ∃ m : Nat, m = n5 - 1 := ⟨_, rfl⟩
 have HM := Lib.hid (show ((n5 : Int) - 1) = (m : Int) by omega)
 have hmw : IntKind.i64.wrap ((n5 : Int) - 1) = (n5 : Int) - 1 := IntWalk.i64_in _ (by omega)
 have hm' : m < n5 := by omega
 have hMM := Lib.hid (show ms.length - 1 = m by rw [Q5.out]; omega)
 have hT := zhu hO.mix
 obtain ⟨T, hTT⟩ : ∃ T : Nat, zdd ms = (T : Int) := ⟨(zdd ms).toNat, by omega⟩
 have hTb : T ≤ 1100 := by omega
 have hL := hO.l
 have HT := Lib.hid hTT
 have hrl : (zdj ms)[m]? = some (T : Int) := by
  rw [ztt (by rw [Q5.out]; exact hm'), ← hTT, zto, hMM.out]
 have HRL := Lib.hid hrl
 have hnT := zma hO
 clear hW sW hTT hm hrl hT
 go_enter Tryz.func32, Tryz.ntmps32
 go_wp2_with fail
 rw [← HW.out]
 refine (ztr L _ _ c1 _ _ c2 _ _ c3 _ _ c4 _ _ c5 src ts fs ps ms W (tSS.later h1 B0) (tTS.later h2 B0) (tS.later h3 B0) (tPS.later h4 B0) (tM.later h5 B0) hn hO).mono ?_
 rintro e K ⟨vO, vR, G, rfl, oO, oR, hG, bel⟩
 have R := RSN.of_os (F := fun _ => False) oO (fun _ h => h.elim)
 obtain ⟨AO, cO, eO⟩ := R.shape
 rw [zmi hO, Q5.out] at eO
 subst eO
 obtain ⟨AR, cR, eR, rR⟩ := oR.shape
 rw [ztu, Q5.out] at eR rR
 subst eR
 obtain ⟨bR, oR_, rfl, hbR, hcR⟩ := zbb rR (by omega)
 have cR_ := hcR m _ HRL.out
 obtain ⟨bO, oO_, cO', AX, cX, x, eO', hbO, -, hx1, hx2, hx3, hx4⟩ := R.at (k := m) (by rw [zmi hO, Q5.out]; exact hm')
 simp only [Value.slice.injEq] at eO'
 obtain ⟨rfl, -, -⟩ := eO'
 have hxc : zag (zex L src ts fs ps ms) m = x := zgs hx1
 have hxl : x.length = M.nT L ms := by rw [← hxc]; exact zts hO (by rw [Q5.out]; exact hm')
 obtain ⟨n, hnn⟩ : ∃ n, n = M.nT L ms := ⟨_, rfl⟩
 rw [← hnn] at hxl hnT
 rw [hxl] at hx2 hx3 hx4
 have HXC := Lib.hid hxc
 have sK := bel.size
 have lK : w.heap.size < K.heap.size := by omega
 have q0 : K.cell? ⟨w.heap.size, 0, none⟩ = some (.int .i64 L) := by rw [bel.cell (by show w.heap.size < _; omega)]; exact p0
 have y0 := cell_regrown q0
 have yR := cell_regrown cR_
 have yO := cell_regrown hx4
 have D1 : Below K.heap.size K K.drew := zac (Below.refl _ _) 1
 have hd1 : K.drew.heap.size = K.heap.size := rfl
 have k0 : (0 : Int) ≤ (m : Int) := by omega
 have k1 : (m : Int) < (n5 : Int) := by omega
 have hx3' := hx3.below D1
 clear hxc hnn hx1 hcR hxl
 go_wp2_with fail
 rw [HM.out]
 (refine zdc [0, 1, 2, 4, 5, 6, 8] [3, 7, 9] 1 (.one 10 .rest) [11] [11] (by kernel_rfl) (by kernel_rfl) ?_; simp only [zaj]; simp only [List.filterMap, List.getElem?_cons_succ, List.getElem?_cons_zero]; (repeat (go_big_quiet_step (fail))); refine wpQuiet_nil ?_; (repeat (go_big_quiet_step (fail))); refine wpQuiet_nil ?_)
 refine zai rfl ?_
 go_wp2_with fail
 refine (zs1 AX n cX x T L _ hx3'.1 (by omega) (by omega) (by omega)).mono ?_
 rintro e w2 ⟨v2, rfl, own2, bel2⟩
 have B2 := zaa D1 bel2
 go_wp2_with fail
 refine ⟨regrown_of_below B2, ?_⟩
 refine zbg ?_
 go_wp2_with fail
 go_ret
 refine ⟨_, rfl, ?_, zaa B0 (zaa bel B2)⟩
 rw [zb6, hMM.out, HXC.out, HT.out]
 exact own2.base (by omega)
def zff (x : Sess) : List Int × Int := if za9 x then (zb6 x.1.toNat x.2.1 x.2.2.1 x.2.2.2.1 x.2.2.2.2.1 x.2.2.2.2.2, 0) else ([], 1)
theorem zmj {L : Nat} {src : List (List Int)} {ts : List (List zah)} {fs : List Int} {ps : List zaf} {ms : List zad} (h : za9 ((L : Int), src, ts, fs, ps, ms) = true) : zff ((L : Int), src, ts, fs, ps, ms) = (zb6 L src ts fs ps ms, 0) := by
 rw [zff, h]
 rfl
theorem zmk {x : Sess} (h : za9 x = false) : zff x = ([], 1) := by
 rw [zff, h]
 rfl
theorem ztv (a0 : Int) (A1 : Option Addr) (n1 c1 : Nat) (A2 : Option Addr) (n2 c2 : Nat) (A3 : Option Addr) (n3 c3 : Nat) (A4 : Option Addr) (n4 c4 : Nat) (A5 : Option Addr) (n5 c5 : Nat) (src : List (List Int)) (ts : List (List zah)) (fs : List Int) (ps : List zaf) (ms : List zad) (w : World)
 (h1 : tSS.R w w.heap.size [.slice A1 n1 c1] src) (h2 : tTS.R w w.heap.size [.slice A2 n2 c2] ts) (h3 : tS.R w w.heap.size [.slice A3 n3 c3] fs) (h4 : tPS.R w w.heap.size [.slice A4 n4 c4] ps) (h5 : tM.R w w.heap.size [.slice A5 n5 c5] ms) (hn : hZ.sz ((a0, src, ts, fs, ps, ms) : Sess) ≤ 100000000) :
 Calls Tryz.prog 15 #[.agg #[.int .i64 a0, .slice A1 n1 c1, .slice A2 n2 c2, .slice A3 n3 c3, .slice A4 n4 c4, .slice A5 n5 c5]] w (Ret2 2 w (zff (a0, src, ts, fs, ps, ms))) := by
 obtain ⟨W, hW, B0, sW, p0, p1, p2, p3, p4, p5, pf⟩ := zb2 w (.int .i64 a0) (.slice A1 n1 c1) (.slice A2 n2 c2) (.slice A3 n3 c3) (.slice A4 n4 c4) (.slice A5 n5 c5) 32
 have HW := Lib.hid hW
 have lW : w.heap.size < W.heap.size := by omega
 have k1 := tSS.later h1 B0
 have k2 := tTS.later h2 B0
 have k3 := tS.later h3 B0
 have k4 := tPS.later h4 B0
 have k5 := tM.later h5 B0
 clear hW
 cases hok : za9 ((a0, src, ts, fs, ps, ms) : Sess)
 · have R := Lib.hid (zmk hok)
   have OK := Lib.hid hok
   clear hok
   go_enter Tryz.func15, Tryz.ntmps15
   go_wp2_with fail
   rw [← HW.out]
   refine (zgt a0 _ _ c1 _ _ c2 _ _ c3 _ _ c4 _ _ c5 src ts fs ps ms W k1 k2 k3 k4 k5 hn).mono ?_
   rw [OK.out]
   rintro e w1 ⟨rfl, bel1⟩
   go_wp2_with fail
   go_ret2
   rw [R.out]
   exact ⟨_, rfl, OI.nil _ _ _, zaa B0 bel1⟩
 · obtain ⟨L, rfl, hO⟩ := zgq hok
   have R := Lib.hid (zmj hok)
   have OK := Lib.hid hok
   clear hok
   go_enter Tryz.func15, Tryz.ntmps15
   go_wp2_with fail
   rw [← HW.out]
   refine (zgt (L : Int) _ _ c1 _ _ c2 _ _ c3 _ _ c4 _ _ c5 src ts fs ps ms W k1 k2 k3 k4 k5 hn).mono ?_
   rw [OK.out]
   rintro e w1 ⟨rfl, bel1⟩
   have s1 := bel1.size
   have P0 := (bel1.cell (p := ⟨w.heap.size, 0, none⟩) (by show w.heap.size < _; omega)).trans p0
   have P1 := (bel1.cell (p := ⟨w.heap.size, 1, none⟩) (by show w.heap.size < _; omega)).trans p1
   have P2 := (bel1.cell (p := ⟨w.heap.size, 2, none⟩) (by show w.heap.size < _; omega)).trans p2
   have P3 := (bel1.cell (p := ⟨w.heap.size, 3, none⟩) (by show w.heap.size < _; omega)).trans p3
   have P4 := (bel1.cell (p := ⟨w.heap.size, 4, none⟩) (by show w.heap.size < _; omega)).trans p4
   have P5 := (bel1.cell (p := ⟨w.heap.size, 5, none⟩) (by show w.heap.size < _; omega)).trans p5
   go_wp2_with fail
   refine (zja L _ _ c1 _ _ c2 _ _ c3 _ _ c4 _ _ c5 src ts fs ps ms w1 (tSS.later k1 bel1) (tTS.later k2 bel1) (tS.later k3 bel1) (tPS.later k4 bel1) (tM.later k5 bel1) hn hO).mono ?_
   rintro e w2 ⟨v, rfl, own2, bel2⟩
   go_wp2_with fail
   go_ret2
   rw [R.out]
   exact ⟨_, rfl, own2.base (by omega), zaa B0 (zaa bel1 bel2)⟩
end
section
open Go.RowKit Go.Sort
theorem box4 {U : World} {g : Nat} {z0 z1 z2 z3 : Value} (c0 : U.cell? ⟨g, 0, none⟩ = some z0) (c1 : U.cell? ⟨g, 1, none⟩ = some z1) (c2 : U.cell? ⟨g, 2, none⟩ = some z2) (c3 : U.cell? ⟨g, 3, none⟩ = some z3) (f0 : U.frozen? ⟨g, 0, none⟩ = false) (f1 : U.frozen? ⟨g, 1, none⟩ = false) (f2 : U.frozen? ⟨g, 2, none⟩ = false) (f3 : U.frozen? ⟨g, 3, none⟩ = false) (v0 v1 v2 v3 : Value) :
 ∃ U', U' = (((U.setCell ⟨g, 0, none⟩ v0).setCell ⟨g, 1, none⟩ v1).setCell ⟨g, 2, none⟩ v2).setCell ⟨g, 3, none⟩ v3 ∧ U'.cell? ⟨g, 0, none⟩ = some v0 ∧ U'.cell? ⟨g, 1, none⟩ = some v1 ∧ U'.cell? ⟨g, 2, none⟩ = some v2 ∧ U'.cell? ⟨g, 3, none⟩ = some v3 ∧ (∀ j, j < 4 → U'.frozen? ⟨g, j, none⟩ = false) ∧ Chg (fun b => b = g) U U' ∧ U'.heap.size = U.heap.size := by
 refine ⟨_, rfl, by simp [go_sem, c0], by simp [go_sem, c1], by simp [go_sem, c2], by simp [go_sem, c3], fun j hj => ?_, (((Chg.set (F := fun b => b = g) _ g 0 v0 rfl).trans (Chg.set _ g 1 v1 rfl)).trans (Chg.set _ g 2 v2 rfl)).trans (Chg.set _ g 3 v3 rfl), by simp⟩
 match j, hj with
 | 0, _ => simp [go_sem, f0]
 | 1, _ => simp [go_sem, f1]
 | 2, _ => simp [go_sem, f2]
 | 3, _ => simp [go_sem, f3]
theorem ztw (a0 : Int) (A1 : Option Addr) (n1 c1 : Nat) (A2 : Option Addr) (n2 c2 : Nat) (A3 : Option Addr) (n3 c3 : Nat) (x1 : List (List Int)) (x2 : List Node) (x3 : List Int) (w : World) (h1 : tSS.R w w.heap.size [.slice A1 n1 c1] x1) (h2 : tNS.R w w.heap.size [.slice A2 n2 c2] x2) (h3 : tS.R w w.heap.size [.slice A3 n3 c3] x3) (hn : hP.sz ((a0, x1, x2, x3) : zaf) ≤ 100000000) :
 Calls Tryz.prog 111 #[.agg #[.int .i64 a0, .slice A1 n1 c1, .slice A2 n2 c2, .slice A3 n3 c3]] w fun e w' => ∃ A1' n1' c1' A2' n2' c2' A3' n3' c3', e = .returned (.agg #[.int .i64 a0, .slice A1' n1' c1', .slice A2' n2' c2', .slice A3' n3' c3']) ∧ tP.O w' (Iv w.heap.size w'.heap.size) [.int .i64 a0, .slice A1' n1' c1', .slice A2' n2' c2', .slice A3' n3' c3'] (a0, x1, x2, x3) ∧ Below w.heap.size w w' := by
 obtain ⟨W, hW⟩ : ∃ W, W = (w.alloc (.cells #[.int .i64 a0, .slice A1 n1 c1, .slice A2 n2 c2, .slice A3 n3 c3] 36)).alloc (.cells #[.int .i64 0, .slice none 0 0, .slice none 0 0, .slice none 0 0] 36) := ⟨_, rfl⟩
 have B0 : Below w.heap.size w W := by rw [hW]; exact ((Below.refl _ _).alloc (Nat.le_refl _) _).alloc (by simp) _
 have lW : w.heap.size + 1 < W.heap.size := by rw [hW]; simp
 have p0 : W.cell? ⟨w.heap.size, 0, none⟩ = some (.int .i64 a0) := by rw [hW]; simp [go_sem]
 have r0 : W.cell? ⟨w.heap.size + 1, 0, none⟩ = some (.int .i64 0) := by rw [hW]; simp [go_sem]
 have rf0 : W.frozen? ⟨w.heap.size + 1, 0, none⟩ = false := by rw [hW]; simp [go_sem]
 have p1 : W.cell? ⟨w.heap.size, 1, none⟩ = some (.slice A1 n1 c1) := by rw [hW]; simp [go_sem]
 have r1 : W.cell? ⟨w.heap.size + 1, 1, none⟩ = some (.slice none 0 0) := by rw [hW]; simp [go_sem]
 have rf1 : W.frozen? ⟨w.heap.size + 1, 1, none⟩ = false := by rw [hW]; simp [go_sem]
 have p2 : W.cell? ⟨w.heap.size, 2, none⟩ = some (.slice A2 n2 c2) := by rw [hW]; simp [go_sem]
 have r2 : W.cell? ⟨w.heap.size + 1, 2, none⟩ = some (.slice none 0 0) := by rw [hW]; simp [go_sem]
 have rf2 : W.frozen? ⟨w.heap.size + 1, 2, none⟩ = false := by rw [hW]; simp [go_sem]
 have p3 : W.cell? ⟨w.heap.size, 3, none⟩ = some (.slice A3 n3 c3) := by rw [hW]; simp [go_sem]
 have r3 : W.cell? ⟨w.heap.size + 1, 3, none⟩ = some (.slice none 0 0) := by rw [hW]; simp [go_sem]
 have rf3 : W.frozen? ⟨w.heap.size + 1, 3, none⟩ = false := by rw [hW]; simp [go_sem]
 have HW := Lib.hid hW
 clear hW
 have k1 := tSS.later h1 B0
 have k2 := tNS.later h2 B0
 have k3 := tS.later h3 B0
 have L1 := Lib.hid (sl_R.1 k1).cap.1
 have L2 := Lib.hid (sl_R.1 k2).cap.1
 have L3 := Lib.hid (zdf k3)
 rw [zef] at hn
 have z1 : hSS.sz x1 ≤ 100000000 := by omega
 have z2 : hNS.sz x2 ≤ 100000000 := by omega
 have z3 : x3.length ≤ 100000000 := by rw [zb8] at hn; omega
 have bn2 : n2 ≤ 100000000 := by have e : x2.length + hN.szL x2 = hNS.sz x2 := rfl; have := L2.out; omega
 have bn3 : n3 ≤ 100000000 := by have := L3.out; omega
 have pp0 := cell_regrown p0
 have pp1 := cell_regrown p1
 have pp3 := cell_regrown p3
 have D1 : Below W.heap.size W W.drew := zac (Below.refl _ _) 1
 have hd0 : W.drew.heap.size = W.heap.size := rfl
 clear h1 h2 h3 hn
 go_enter Tryz.func111, Tryz.ntmps111
 go_wp2_with fail
 rw [← HW.out]
 go_cut [3] (fun q3 wx => ∃ (g : Nat) (A1' : Option Addr) (c1' : Nat) (A3' : Option Addr) (c3' l1 u1 l3 u3 : Nat), q3 = .pointer (some ⟨g, 0, none⟩) ∧ W.heap.size ≤ g ∧ g < wx.heap.size ∧ wx.cell? ⟨g, 0, none⟩ = some (.int .i64 a0) ∧ wx.cell? ⟨g, 1, none⟩ = some (.slice A1' x1.length c1') ∧ wx.cell? ⟨g, 2, none⟩ = some (.slice none 0 0) ∧ wx.cell? ⟨g, 3, none⟩ = some (.slice A3' x3.length c3') ∧ (∀ j, j < 4 → wx.frozen? ⟨g, j, none⟩ = false) ∧ tSS.O wx (Iv l1 u1) [.slice A1' x1.length c1'] x1 ∧ tS.O wx (Iv l3 u3) [.slice A3' x3.length c3'] x3 ∧ Below W.heap.size W wx ∧ W.heap.size ≤ l1 ∧ u1 ≤ l3 ∧ u3 ≤ wx.heap.size ∧ l1 ≤ u1 ∧ l3 ≤ u3 ∧ (g < l1 ∨ (u1 ≤ g ∧ g < l3) ∨ u3 ≤ g))
 case first =>
  clear p0 p1 p2 p3 r0 r1 r2 r3 rf0 rf1 rf2 rf3 k2
  go_wp2_with fail
  (refine zdh [0, 2, 5] [1, 3, 6] 4 (.two 4 (.two 7 (.two 8 (.one 9 .rest) 9 (.one 8 .rest)) 9 (.one 7 (.one 8 .rest))) 9 (.one 4 (.one 7 (.one 8 .rest)))) [10] (by kernel_rfl) (by kernel_rfl) ?_; simp only [zaj]; simp only [List.filterMap, List.getElem?_cons_succ, List.getElem?_cons_zero]; (repeat (go_big_quiet_step (fail))); refine wpQuiet_nil ?_; (repeat (go_big_quiet_step (fail))); refine wpQuiet_nil ?_)
  refine zds rfl rfl ?_ ?_
  · go_wp2_with fail
    refine (zgo _ _ _ _ _ (tSS.later k1 D1) z1).mono ?_
    rintro e w1 ⟨V4, rfl, own2, bel3⟩
    obtain ⟨AA5, cc6, rfl⟩ := own2.shape
    have Bw1 := zaa D1 bel3
    have sw1 := bel3.size
    go_wp2_with fail
    refine ⟨regrown_of_below Bw1, zds rfl rfl ?_ ?_⟩
    · go_wp2_with fail
      refine (zdm _ _ _ _ _ (tS_R.1 (tS.later k3 Bw1)).ri (by omega)).mono ?_
      rintro e w7 ⟨V10, rfl, own8, bel9⟩
      obtain ⟨AA11, cc12, rfl, -⟩ := own8.shape
      have Bw7 := zaa Bw1 bel9
      have sw7 := bel9.size
      go_wp2_with fail
      refine ⟨regrown_of_below Bw7, zds rfl rfl ?_ ?_⟩
      · go_wp2_with fail
        refine ⟨regrown_of_below Bw7, za0 rfl ?_⟩
        obtain ⟨U13, hU13⟩ : ∃ U, U = w7.alloc (.cells #[.int .i64 0, .slice none 0 0, .slice none 0 0, .slice none 0 0] 36) := ⟨_, rfl⟩
        have Bx14 : Below w7.heap.size w7 U13 := by rw [hU13]; exact (Below.refl _ _).alloc (Nat.le_refl _) _
        have sU13 : U13.heap.size = w7.heap.size + 1 := by rw [hU13]; simp
        have xU13_0 : U13.cell? ⟨w7.heap.size, 0, none⟩ = some (.int .i64 0) := by rw [hU13]; simp [go_sem]
        have yU13_0 : U13.frozen? ⟨w7.heap.size, 0, none⟩ = false := by rw [hU13]; simp [go_sem]
        have xU13_1 : U13.cell? ⟨w7.heap.size, 1, none⟩ = some (.slice none 0 0) := by rw [hU13]; simp [go_sem]
        have yU13_1 : U13.frozen? ⟨w7.heap.size, 1, none⟩ = false := by rw [hU13]; simp [go_sem]
        have xU13_2 : U13.cell? ⟨w7.heap.size, 2, none⟩ = some (.slice none 0 0) := by rw [hU13]; simp [go_sem]
        have yU13_2 : U13.frozen? ⟨w7.heap.size, 2, none⟩ = false := by rw [hU13]; simp [go_sem]
        have xU13_3 : U13.cell? ⟨w7.heap.size, 3, none⟩ = some (.slice none 0 0) := by rw [hU13]; simp [go_sem]
        have yU13_3 : U13.frozen? ⟨w7.heap.size, 3, none⟩ = false := by rw [hU13]; simp [go_sem]
        go_wp2_with fail
        rw [← hU13]
        have BU13 := zaa Bw7 Bx14
        clear hU13
        refine ⟨regrown_of_below BU13, ?_⟩
        have hg : w7.heap.size < U13.heap.size := by omega
        have bx0 := xU13_0
        have by0 := yU13_0
        have bx1 := xU13_1
        have by1 := yU13_1
        have bx2 := xU13_2
        have by2 := yU13_2
        have bx3 := xU13_3
        have by3 := yU13_3
        have q1 := own2
        replace q1 := q1.below bel9 (by omega)
        replace q1 := q1.below Bx14 (by omega)
        have q3 := OI.os own8
        replace q3 := q3.below Bx14 (by omega)
        refine zbx ?_
        go_wp2_with fail
        try refine ⟨rfl, ?_⟩
        go_meet
        obtain ⟨U_, hU_, d0, d1, d2, d3, df, dch, dsz⟩ := box4 bx0 bx1 bx2 bx3 by0 by1 by2 by3 (.int .i64 a0) (.slice AA5 x1.length cc6) (.slice none 0 0) (.slice AA11 x3.length cc12)
        rw [← hU_]
        exact ⟨w7.heap.size, AA5, cc6, AA11, cc12, _, _, _, _, rfl, by omega, by omega, d0, d1, d2, d3, df, sl_O.2 (q1.chg dch (fun b hb (e : b = _) => by have := hb.1; have := hb.2; omega)), tS_O.2 (q3.chg dch (fun b hb (e : b = _) => by have := hb.1; have := hb.2; omega)), BU13.trans (dch.toBelow (fun k (hk : k = _) => by omega) (by omega)), by omega, by omega, by omega, by omega, by omega, by omega⟩
      · obtain ⟨U15, hU15⟩ : ∃ U, U = w7.alloc (.cells #[.int .i64 0, .slice none 0 0, .slice none 0 0, .slice none 0 0] 36) := ⟨_, rfl⟩
        have Bx16 : Below w7.heap.size w7 U15 := by rw [hU15]; exact (Below.refl _ _).alloc (Nat.le_refl _) _
        have sU15 : U15.heap.size = w7.heap.size + 1 := by rw [hU15]; simp
        have xU15_0 : U15.cell? ⟨w7.heap.size, 0, none⟩ = some (.int .i64 0) := by rw [hU15]; simp [go_sem]
        have yU15_0 : U15.frozen? ⟨w7.heap.size, 0, none⟩ = false := by rw [hU15]; simp [go_sem]
        have xU15_1 : U15.cell? ⟨w7.heap.size, 1, none⟩ = some (.slice none 0 0) := by rw [hU15]; simp [go_sem]
        have yU15_1 : U15.frozen? ⟨w7.heap.size, 1, none⟩ = false := by rw [hU15]; simp [go_sem]
        have xU15_2 : U15.cell? ⟨w7.heap.size, 2, none⟩ = some (.slice none 0 0) := by rw [hU15]; simp [go_sem]
        have yU15_2 : U15.frozen? ⟨w7.heap.size, 2, none⟩ = false := by rw [hU15]; simp [go_sem]
        have xU15_3 : U15.cell? ⟨w7.heap.size, 3, none⟩ = some (.slice none 0 0) := by rw [hU15]; simp [go_sem]
        have yU15_3 : U15.frozen? ⟨w7.heap.size, 3, none⟩ = false := by rw [hU15]; simp [go_sem]
        go_wp2_with fail
        rw [← hU15]
        have BU15 := zaa Bw7 Bx16
        clear hU15
        refine ⟨regrown_of_below BU15, za0 rfl ?_⟩
        go_wp2_with fail
        refine ⟨regrown_of_below BU15, ?_⟩
        have hg : w7.heap.size < U15.heap.size := by omega
        have bx0 := xU15_0
        have by0 := yU15_0
        have bx1 := xU15_1
        have by1 := yU15_1
        have bx2 := xU15_2
        have by2 := yU15_2
        have bx3 := xU15_3
        have by3 := yU15_3
        have q1 := own2
        replace q1 := q1.below bel9 (by omega)
        replace q1 := q1.below Bx16 (by omega)
        have q3 := OI.os own8
        replace q3 := q3.below Bx16 (by omega)
        refine zbx ?_
        go_wp2_with fail
        try refine ⟨rfl, ?_⟩
        go_meet
        obtain ⟨U_, hU_, d0, d1, d2, d3, df, dch, dsz⟩ := box4 bx0 bx1 bx2 bx3 by0 by1 by2 by3 (.int .i64 a0) (.slice AA5 x1.length cc6) (.slice none 0 0) (.slice AA11 x3.length cc12)
        rw [← hU_]
        exact ⟨w7.heap.size, AA5, cc6, AA11, cc12, _, _, _, _, rfl, by omega, by omega, d0, d1, d2, d3, df, sl_O.2 (q1.chg dch (fun b hb (e : b = _) => by have := hb.1; have := hb.2; omega)), tS_O.2 (q3.chg dch (fun b hb (e : b = _) => by have := hb.1; have := hb.2; omega)), BU15.trans (dch.toBelow (fun k (hk : k = _) => by omega) (by omega)), by omega, by omega, by omega, by omega, by omega, by omega⟩
    · obtain ⟨U17, hU17⟩ : ∃ U, U = w1.alloc (.cells #[.int .i64 0, .slice none 0 0, .slice none 0 0, .slice none 0 0] 36) := ⟨_, rfl⟩
      have Bx18 : Below w1.heap.size w1 U17 := by rw [hU17]; exact (Below.refl _ _).alloc (Nat.le_refl _) _
      have sU17 : U17.heap.size = w1.heap.size + 1 := by rw [hU17]; simp
      have xU17_0 : U17.cell? ⟨w1.heap.size, 0, none⟩ = some (.int .i64 0) := by rw [hU17]; simp [go_sem]
      have yU17_0 : U17.frozen? ⟨w1.heap.size, 0, none⟩ = false := by rw [hU17]; simp [go_sem]
      have xU17_1 : U17.cell? ⟨w1.heap.size, 1, none⟩ = some (.slice none 0 0) := by rw [hU17]; simp [go_sem]
      have yU17_1 : U17.frozen? ⟨w1.heap.size, 1, none⟩ = false := by rw [hU17]; simp [go_sem]
      have xU17_2 : U17.cell? ⟨w1.heap.size, 2, none⟩ = some (.slice none 0 0) := by rw [hU17]; simp [go_sem]
      have yU17_2 : U17.frozen? ⟨w1.heap.size, 2, none⟩ = false := by rw [hU17]; simp [go_sem]
      have xU17_3 : U17.cell? ⟨w1.heap.size, 3, none⟩ = some (.slice none 0 0) := by rw [hU17]; simp [go_sem]
      have yU17_3 : U17.frozen? ⟨w1.heap.size, 3, none⟩ = false := by rw [hU17]; simp [go_sem]
      go_wp2_with fail
      rw [← hU17]
      have BU17 := zaa Bw1 Bx18
      clear hU17
      refine ⟨regrown_of_below BU17, za0 rfl ?_⟩
      go_wp2_with fail
      refine (zdm _ _ _ _ _ (tS_R.1 (tS.later k3 BU17)).ri (by omega)).mono ?_
      rintro e w19 ⟨V22, rfl, own20, bel21⟩
      obtain ⟨AA23, cc24, rfl, -⟩ := own20.shape
      have Bw19 := zaa BU17 bel21
      have sw19 := bel21.size
      go_wp2_with fail
      refine ⟨regrown_of_below Bw19, za0 rfl ?_⟩
      go_wp2_with fail
      refine ⟨regrown_of_below Bw19, ?_⟩
      have hg : w1.heap.size < w19.heap.size := by omega
      have bx0 : w19.cell? ⟨w1.heap.size, 0, none⟩ = some (.int .i64 0) := by rw [bel21.cell (by show w1.heap.size < _; omega)]; exact xU17_0
      have by0 : w19.frozen? ⟨w1.heap.size, 0, none⟩ = false := by rw [bel21.frozen (by show w1.heap.size < _; omega)]; exact yU17_0
      have bx1 : w19.cell? ⟨w1.heap.size, 1, none⟩ = some (.slice none 0 0) := by rw [bel21.cell (by show w1.heap.size < _; omega)]; exact xU17_1
      have by1 : w19.frozen? ⟨w1.heap.size, 1, none⟩ = false := by rw [bel21.frozen (by show w1.heap.size < _; omega)]; exact yU17_1
      have bx2 : w19.cell? ⟨w1.heap.size, 2, none⟩ = some (.slice none 0 0) := by rw [bel21.cell (by show w1.heap.size < _; omega)]; exact xU17_2
      have by2 : w19.frozen? ⟨w1.heap.size, 2, none⟩ = false := by rw [bel21.frozen (by show w1.heap.size < _; omega)]; exact yU17_2
      have bx3 : w19.cell? ⟨w1.heap.size, 3, none⟩ = some (.slice none 0 0) := by rw [bel21.cell (by show w1.heap.size < _; omega)]; exact xU17_3
      have by3 : w19.frozen? ⟨w1.heap.size, 3, none⟩ = false := by rw [bel21.frozen (by show w1.heap.size < _; omega)]; exact yU17_3
      have q1 := own2
      replace q1 := q1.below Bx18 (by omega)
      replace q1 := q1.below bel21 (by omega)
      have q3 := OI.os own20
      refine zbx ?_
      go_wp2_with fail
      try refine ⟨rfl, ?_⟩
      go_meet
      obtain ⟨U_, hU_, d0, d1, d2, d3, df, dch, dsz⟩ := box4 bx0 bx1 bx2 bx3 by0 by1 by2 by3 (.int .i64 a0) (.slice AA5 x1.length cc6) (.slice none 0 0) (.slice AA23 x3.length cc24)
      rw [← hU_]
      exact ⟨w1.heap.size, AA5, cc6, AA23, cc24, _, _, _, _, rfl, by omega, by omega, d0, d1, d2, d3, df, sl_O.2 (q1.chg dch (fun b hb (e : b = _) => by have := hb.1; have := hb.2; omega)), tS_O.2 (q3.chg dch (fun b hb (e : b = _) => by have := hb.1; have := hb.2; omega)), Bw19.trans (dch.toBelow (fun k (hk : k = _) => by omega) (by omega)), by omega, by omega, by omega, by omega, by omega, by omega⟩
  · obtain ⟨U25, hU25⟩ : ∃ U, U = (W.alloc (.cells #[.int .i64 0, .slice none 0 0, .slice none 0 0, .slice none 0 0] 36)).drew := ⟨_, rfl⟩
    have Bx26 : Below W.heap.size W U25 := by rw [hU25]; exact zac ((Below.refl _ _).alloc (Nat.le_refl _) _) 1
    have sU25 : U25.heap.size = W.heap.size + 1 := by rw [hU25]; simp
    have xU25_0 : U25.cell? ⟨W.heap.size, 0, none⟩ = some (.int .i64 0) := by rw [hU25]; simp [go_sem]
    have yU25_0 : U25.frozen? ⟨W.heap.size, 0, none⟩ = false := by rw [hU25]; simp [go_sem]
    have xU25_1 : U25.cell? ⟨W.heap.size, 1, none⟩ = some (.slice none 0 0) := by rw [hU25]; simp [go_sem]
    have yU25_1 : U25.frozen? ⟨W.heap.size, 1, none⟩ = false := by rw [hU25]; simp [go_sem]
    have xU25_2 : U25.cell? ⟨W.heap.size, 2, none⟩ = some (.slice none 0 0) := by rw [hU25]; simp [go_sem]
    have yU25_2 : U25.frozen? ⟨W.heap.size, 2, none⟩ = false := by rw [hU25]; simp [go_sem]
    have xU25_3 : U25.cell? ⟨W.heap.size, 3, none⟩ = some (.slice none 0 0) := by rw [hU25]; simp [go_sem]
    have yU25_3 : U25.frozen? ⟨W.heap.size, 3, none⟩ = false := by rw [hU25]; simp [go_sem]
    go_wp2_with fail
    rw [← hU25]
    have BU25 := Bx26
    clear hU25
    refine ⟨regrown_of_below BU25, za0 rfl ?_⟩
    go_wp2_with fail
    refine (zgo _ _ _ _ _ (tSS.later k1 BU25) z1).mono ?_
    rintro e w27 ⟨V30, rfl, own28, bel29⟩
    obtain ⟨AA31, cc32, rfl⟩ := own28.shape
    have Bw27 := zaa BU25 bel29
    have sw27 := bel29.size
    go_wp2_with fail
    refine ⟨regrown_of_below Bw27, za0 rfl ?_⟩
    go_wp2_with fail
    refine (zdm _ _ _ _ _ (tS_R.1 (tS.later k3 Bw27)).ri (by omega)).mono ?_
    rintro e w33 ⟨V36, rfl, own34, bel35⟩
    obtain ⟨AA37, cc38, rfl, -⟩ := own34.shape
    have Bw33 := zaa Bw27 bel35
    have sw33 := bel35.size
    go_wp2_with fail
    refine ⟨regrown_of_below Bw33, za0 rfl ?_⟩
    go_wp2_with fail
    refine ⟨regrown_of_below Bw33, ?_⟩
    have hg : W.heap.size < w33.heap.size := by omega
    have bx0 : w33.cell? ⟨W.heap.size, 0, none⟩ = some (.int .i64 0) := by rw [bel35.cell (by show W.heap.size < _; omega), bel29.cell (by show W.heap.size < _; omega)]; exact xU25_0
    have by0 : w33.frozen? ⟨W.heap.size, 0, none⟩ = false := by rw [bel35.frozen (by show W.heap.size < _; omega), bel29.frozen (by show W.heap.size < _; omega)]; exact yU25_0
    have bx1 : w33.cell? ⟨W.heap.size, 1, none⟩ = some (.slice none 0 0) := by rw [bel35.cell (by show W.heap.size < _; omega), bel29.cell (by show W.heap.size < _; omega)]; exact xU25_1
    have by1 : w33.frozen? ⟨W.heap.size, 1, none⟩ = false := by rw [bel35.frozen (by show W.heap.size < _; omega), bel29.frozen (by show W.heap.size < _; omega)]; exact yU25_1
    have bx2 : w33.cell? ⟨W.heap.size, 2, none⟩ = some (.slice none 0 0) := by rw [bel35.cell (by show W.heap.size < _; omega), bel29.cell (by show W.heap.size < _; omega)]; exact xU25_2
    have by2 : w33.frozen? ⟨W.heap.size, 2, none⟩ = false := by rw [bel35.frozen (by show W.heap.size < _; omega), bel29.frozen (by show W.heap.size < _; omega)]; exact yU25_2
    have bx3 : w33.cell? ⟨W.heap.size, 3, none⟩ = some (.slice none 0 0) := by rw [bel35.cell (by show W.heap.size < _; omega), bel29.cell (by show W.heap.size < _; omega)]; exact xU25_3
    have by3 : w33.frozen? ⟨W.heap.size, 3, none⟩ = false := by rw [bel35.frozen (by show W.heap.size < _; omega), bel29.frozen (by show W.heap.size < _; omega)]; exact yU25_3
    have q1 := own28
    replace q1 := q1.below bel35 (by omega)
    have q3 := OI.os own34
    refine zbx ?_
    go_wp2_with fail
    try refine ⟨rfl, ?_⟩
    go_meet
    obtain ⟨U_, hU_, d0, d1, d2, d3, df, dch, dsz⟩ := box4 bx0 bx1 bx2 bx3 by0 by1 by2 by3 (.int .i64 a0) (.slice AA31 x1.length cc32) (.slice none 0 0) (.slice AA37 x3.length cc38)
    rw [← hU_]
    exact ⟨W.heap.size, AA31, cc32, AA37, cc38, _, _, _, _, rfl, by omega, by omega, d0, d1, d2, d3, df, sl_O.2 (q1.chg dch (fun b hb (e : b = _) => by have := hb.1; have := hb.2; omega)), tS_O.2 (q3.chg dch (fun b hb (e : b = _) => by have := hb.1; have := hb.2; omega)), Bw33.trans (dch.toBelow (fun k (hk : k = _) => by omega) (by omega)), by omega, by omega, by omega, by omega, by omega, by omega⟩
 case rest =>
  obtain ⟨w0, rfl⟩ : ∃ u_ : World, u_ = wc := ⟨_, rfl⟩
  obtain ⟨g, A1', c1', A3', c3', l1, u1, l3, u3, rfl, hg1, hg2, d0, d1, d2, d3, df, o1, o3, BW, s1, s2, s3, s4_, s5_, sg⟩ := hcut
  have sW := BW.size
  replace r0 : w0.cell? ⟨w.heap.size + 1, 0, none⟩ = some (.int .i64 0) := by rw [BW.cell (by show w.heap.size + 1 < _; omega)]; exact r0
  replace rf0 : w0.frozen? ⟨w.heap.size + 1, 0, none⟩ = false := by rw [BW.frozen (by show w.heap.size + 1 < _; omega)]; exact rf0
  replace r1 : w0.cell? ⟨w.heap.size + 1, 1, none⟩ = some (.slice none 0 0) := by rw [BW.cell (by show w.heap.size + 1 < _; omega)]; exact r1
  replace rf1 : w0.frozen? ⟨w.heap.size + 1, 1, none⟩ = false := by rw [BW.frozen (by show w.heap.size + 1 < _; omega)]; exact rf1
  replace r2 : w0.cell? ⟨w.heap.size + 1, 2, none⟩ = some (.slice none 0 0) := by rw [BW.cell (by show w.heap.size + 1 < _; omega)]; exact r2
  replace rf2 : w0.frozen? ⟨w.heap.size + 1, 2, none⟩ = false := by rw [BW.frozen (by show w.heap.size + 1 < _; omega)]; exact rf2
  replace r3 : w0.cell? ⟨w.heap.size + 1, 3, none⟩ = some (.slice none 0 0) := by rw [BW.cell (by show w.heap.size + 1 < _; omega)]; exact r3
  replace rf3 : w0.frozen? ⟨w.heap.size + 1, 3, none⟩ = false := by rw [BW.frozen (by show w.heap.size + 1 < _; omega)]; exact rf3
  replace p2 : w0.cell? ⟨w.heap.size, 2, none⟩ = some (.slice A2 n2 c2) := by rw [BW.cell (by show w.heap.size < _; omega)]; exact p2
  have k4 := sl_R.1 k2
  have B00 := zaa B0 BW
  have hl2 := Lib.hid (sl_R.1 k2).cap.1
  have df2 := df 2 (by omega)
  clear p0 p1 p3 pp0 pp1 pp3 D1 hd0 k1 k3 HW k2
  go_wp2_with fail
  go_loopw [18] (fun i wr => ∃ (k : Nat) (v : Value), i = .int .i64 k ∧ k ≤ n2 ∧ OS tN 122 wr (Iv w0.heap.size wr.heap.size) v (x2.take k) ∧ Gr g 2 w0 wr v) (fun i _ => n2 - (intOf i).toNat)
  case atStart => exact ⟨0, _, rfl, by omega, OS.nil _ _ _ _, Gr.start d2⟩
  case round =>
   obtain ⟨k, v, rfl, hk, own, G⟩ := hrel
   have sr := G.chg.size
   have Bwr : Below W.heap.size W wr := BW.trans (G.chg.toBelow (fun b (hb : b = g) => by omega) (by omega))
   by_cases hlt : k < n2
   · obtain ⟨bb, o, b0, b1, b2, A5, c5, y3, rfl, hbb, X, e0, e1, e2, e3, hr3, h3b⟩ := zes (k4.below Bwr) z2 hlt
     have hbw : bb < wr.heap.size := by omega
     obtain ⟨V, hV⟩ : ∃ V, V = wr.alloc (.cells #[.int .i64 b0, .int .i64 b1, .int .i64 b2, .slice A5 y3.length c5] 122) := ⟨_, rfl⟩
     have BV : Below wr.heap.size wr V := by rw [hV]; exact (Below.refl _ _).alloc (Nat.le_refl _) _
     have sV : V.heap.size = wr.heap.size + 1 := by rw [hV]; simp
     have n0 : V.cell? ⟨wr.heap.size, 0, none⟩ = some (.int .i64 b0) := by rw [hV]; simp [go_sem]
     have n1 : V.cell? ⟨wr.heap.size, 1, none⟩ = some (.int .i64 b1) := by rw [hV]; simp [go_sem]
     have n2_ : V.cell? ⟨wr.heap.size, 2, none⟩ = some (.int .i64 b2) := by rw [hV]; simp [go_sem]
     have n3_ : V.cell? ⟨wr.heap.size, 3, none⟩ = some (.slice A5 y3.length c5) := by rw [hV]; simp [go_sem]
     have hvg : V.cell? ⟨g, 2, none⟩ = some v := by rw [BV.cell (by show g < _; omega)]; exact G.cel
     have m0 := cell_regrown n0
     have m1 := cell_regrown n1
     have m2 := cell_regrown n2_
     have m3 := cell_regrown n3_
     have mg := cell_regrown hvg
     have HV := Lib.hid hV
     have DV : Below wr.heap.size wr V.drew := zac BV 1
     have DD : Below V.heap.size V V.drew := zac (Below.refl _ _) 1
     have hdv : V.drew.heap.size = V.heap.size := rfl
     have hri := (hr3.more (by omega)).later DV
     have hpt := Lib.hid (M.take_at X.out)
     have hxl : (x2.take k).length ≤ 100000000 := by rw [List.length_take]; omega
     clear hV
     go_wp2_with fail
     rw [← HV.out]
     (refine zdh [0] [1, 2] 2 (.one 3 (.one 4 .rest)) [5, 6, 7] (by kernel_rfl) (by kernel_rfl) ?_; simp only [zaj]; simp only [List.filterMap, List.getElem?_cons_succ, List.getElem?_cons_zero]; (repeat (go_big_quiet_step (fail))); refine wpQuiet_nil ?_; (repeat (go_big_quiet_step (fail))); refine wpQuiet_nil ?_)
     refine za0 rfl ?_
     go_wp2_with fail
     refine (zql _ _ _ _ _ _ _ _ hri (by omega)).mono ?_
     rintro e w2 ⟨A6, n6, c6, rfl, on, bel2⟩
     have s2_ := bel2.size
     have Bw2 := zaa DV bel2
     have own2 := own.below Bw2 (Nat.le_refl _)
     have G2 := G.below Bw2 (by omega)
     have BVw := zaa DD bel2
     go_wp2_with fail
     refine ⟨regrown_of_below BVw, za0 rfl ?_⟩
     go_wp2_with fail
     refine ⟨regrown_of_below (zaa BVw ((Below.refl _ _).alloc (Nat.le_refl _) _)), zbx ?_⟩
     go_wp2_with (at_builtin; refine zaz zgb #[.int .i64 b0, .int .i64 b1, .int .i64 b2, .slice A6 n6 c6] rfl _ _ rfl own2 on (Iv.apart (by omega)) rfl rfl (by unfold maxLen; omega) (by omega) ?_; intro v3 w4 own4 ch4; obtain ⟨A7, c7, e7⟩ := own4.shape; obtain ⟨n7, hn7⟩ : ∃ n7, n7 = (x2.take k ++ [(b0, b1, b2, y3)]).length := ⟨_, rfl⟩; rw [← hn7] at e7; subst e7; have HN7 := Lib.hid hn7; clear hn7; have G4 := G2.row ch4 (by omega) (fun b hb => ⟨hb.1, by have := hb.1; omega⟩); have hc4 := G4.cel; have hf4 : w4.frozen? ⟨g, 2, none⟩ = false := (by rw [G4.fro]; exact df2))
     go_roundw
     case rel =>
      have s4 := ch4.size
      refine ⟨k + 1, _, by go_num, by omega, ?_, G4.set df2 _⟩
      rw [hpt.out]
      refine (own4.chg (Chg.set (F := fun b => b = g) w4 g 2 _ rfl) (fun b hb (e : b = g) => ?_)).wide (fun b hb => ?_)
      · rcases hb with hb | hb | hb
        · have := hb.1; omega
        · have := hb.1; omega
        · omega
      · have e9 : (w4.setCell ⟨g, 2, none⟩ (.slice A7 n7 c7)).heap.size = w4.heap.size := by simp
        rcases hb with hb | hb | hb
        · exact ⟨hb.1, by have := hb.2; omega⟩
        · exact ⟨by have := hb.1; omega, by have := hb.2; omega⟩
        · exact ⟨by omega, by omega⟩
     case measure => simp [intOf]; omega
   · obtain rfl : k = n2 := by omega
     rw [List.take_of_length_le (by rw [hl2.out]; exact Nat.le_refl _)] at own
     have b0 : wr.cell? ⟨g, 0, none⟩ = some (.int .i64 a0) := by rw [G.oth 0 (by decide)]; exact d0
     have b1 : wr.cell? ⟨g, 1, none⟩ = some (.slice A1' x1.length c1') := by rw [G.oth 1 (by decide)]; exact d1
     have b2 := G.cel
     have b3 : wr.cell? ⟨g, 3, none⟩ = some (.slice A3' x3.length c3') := by rw [G.oth 3 (by decide)]; exact d3
     have R0 : wr.cell? ⟨w.heap.size + 1, 0, none⟩ = some (.int .i64 0) := by rw [G.chg.cell (by omega) (by omega)]; exact r0
     have S0 : wr.frozen? ⟨w.heap.size + 1, 0, none⟩ = false := by rw [G.chg.frozen (by omega) (by omega)]; exact rf0
     have R1 : wr.cell? ⟨w.heap.size + 1, 1, none⟩ = some (.slice none 0 0) := by rw [G.chg.cell (by omega) (by omega)]; exact r1
     have S1 : wr.frozen? ⟨w.heap.size + 1, 1, none⟩ = false := by rw [G.chg.frozen (by omega) (by omega)]; exact rf1
     have R2 : wr.cell? ⟨w.heap.size + 1, 2, none⟩ = some (.slice none 0 0) := by rw [G.chg.cell (by omega) (by omega)]; exact r2
     have S2 : wr.frozen? ⟨w.heap.size + 1, 2, none⟩ = false := by rw [G.chg.frozen (by omega) (by omega)]; exact rf2
     have R3 : wr.cell? ⟨w.heap.size + 1, 3, none⟩ = some (.slice none 0 0) := by rw [G.chg.cell (by omega) (by omega)]; exact r3
     have S3 : wr.frozen? ⟨w.heap.size + 1, 3, none⟩ = false := by rw [G.chg.frozen (by omega) (by omega)]; exact rf3
     obtain ⟨A2', c2', rfl⟩ := own.shape
     have oq1 : tSS.O wr (Iv l1 u1) [.slice A1' x1.length c1'] x1 := sl_O.2 ((sl_O.1 o1).chg G.chg (fun b hb (e : b = g) => by have := hb.1; have := hb.2; omega))
     have oq3 : tS.O wr (Iv l3 u3) [.slice A3' x3.length c3'] x3 := tS_O.2 ((tS_O.1 o3).chg G.chg (fun b hb (e : b = g) => by have := hb.1; have := hb.2; omega))
     obtain ⟨U_, hU_, y0, y1, y2, y3, yf, ych, ysz⟩ := box4 R0 R1 R2 R3 S0 S1 S2 S3 (.int .i64 a0) (.slice A1' x1.length c1') (.slice A2' x2.length c2') (.slice A3' x3.length c3')
     have HU := Lib.hid hU_
     clear hU_
     go_wp2
     rw [← HU.out]
     have y5 := yf 0 (by omega)
     have y6 := yf 1 (by omega)
     have y7 := yf 2 (by omega)
     have y8 := yf 3 (by omega)
     refine bodyPost_ret (v := .agg #[.int .i64 a0, .slice A1' x1.length c1', .slice A2' x2.length c2', .slice A3' x3.length c3']) (by simp [results, Tryz.results111, go_sem, y0, y1, y2, y3, y5, y6, y7, y8]) rfl ?_
     have hz : ∀ b, b ≠ w.heap.size + 1 → ¬ (fun b => b = w.heap.size + 1) b := fun b h => h
     refine ⟨A1', x1.length, c1', A2', x2.length, c2', A3', x3.length, c3', rfl, tP_O.2 ⟨_, _, _, _, _, _, _, _, _, Iv l1 u1, Iv w0.heap.size wr.heap.size, Iv l3 u3, rfl, tSS.ochg oq1 ych (fun b hb (e : b = _) => by have := hb.1; omega), tNS.ochg (sl_O.2 own) ych (fun b hb (e : b = _) => by have := hb.1; omega), tS.ochg oq3 ych (fun b hb (e : b = _) => by have := hb.1; omega), Iv.mono (by omega) (by omega), Iv.mono (by omega) (by omega), Iv.mono (by omega) (by omega), fun b hb hb2 => by have := hb.2; have := hb2.1; omega, fun b hb hb2 => by have := hb.2; have := hb2.1; omega, fun b hb hb2 => by have := hb2.2; have := hb.1; omega⟩, ?_⟩
     exact (zaa B0 Bwr).trans (ych.toBelow (fun b (hb : b = _) => by omega) (by omega))
end
section
open Go.RowKit Go.Sort
end
section
open Go.RowKit Go.Sort
theorem ztx (a0 : Int) (A1 : Option Addr) (n1 c1 : Nat) (A2 : Option Addr) (n2 c2 : Nat) (A3 : Option Addr) (n3 c3 : Nat) (A4 : Option Addr) (n4 c4 : Nat) (A5 : Option Addr) (n5 c5 : Nat) (x1 : List (List Int)) (x2 : List (List zah)) (x3 : List Int) (x4 : List zaf) (x5 : List zad) (w : World)  (h1 : tSS.R w w.heap.size [.slice A1 n1 c1] x1) (h2 : tTS.R w w.heap.size [.slice A2 n2 c2] x2) (h3 : tS.R w w.heap.size [.slice A3 n3 c3] x3) (h4 : tPS.R w w.heap.size [.slice A4 n4 c4] x4) (h5 : tM.R w w.heap.size [.slice A5 n5 c5] x5) (hn : hZ.sz ((a0, x1, x2, x3, x4, x5) : Sess) ≤ 100000000) :
 Calls Tryz.prog 84 #[.agg #[.int .i64 a0, .slice A1 n1 c1, .slice A2 n2 c2, .slice A3 n3 c3, .slice A4 n4 c4, .slice A5 n5 c5]] w fun e w' => ∃ A1' n1' c1' A2' n2' c2' A3' n3' c3' A4' n4' c4' A5' n5' c5', e = .returned (.agg #[.int .i64 a0, .slice A1' n1' c1', .slice A2' n2' c2', .slice A3' n3' c3', .slice A4' n4' c4', .slice A5' n5' c5']) ∧ tZ.O w' (Iv w.heap.size w'.heap.size) [.int .i64 a0, .slice A1' n1' c1', .slice A2' n2' c2', .slice A3' n3' c3', .slice A4' n4' c4', .slice A5' n5' c5'] (a0, x1, x2, x3, x4, x5) ∧ Below w.heap.size w w' := by
 obtain ⟨W_, hW_, B0_, sW_, p0, p1, p2, p3, p4, p5, pf⟩ := zb2 w (.int .i64 a0) (.slice A1 n1 c1) (.slice A2 n2 c2) (.slice A3 n3 c3) (.slice A4 n4 c4) (.slice A5 n5 c5) 32
 obtain ⟨W, hW, B1_, sW, r0, r1, r2, r3, r4, r5, rf⟩ := zb2 W_ (.int .i64 0) (.slice none 0 0) (.slice none 0 0) (.slice none 0 0) (.slice none 0 0) (.slice none 0 0) 32
 have B0 := zaa B0_ B1_
 rw [hW_] at hW
 clear hW_
 replace p0 : W.cell? ⟨w.heap.size, 0, none⟩ = some (.int .i64 a0) := by rw [B1_.cell (by show w.heap.size < _; omega)]; exact p0
 replace p1 : W.cell? ⟨w.heap.size, 1, none⟩ = some (.slice A1 n1 c1) := by rw [B1_.cell (by show w.heap.size < _; omega)]; exact p1
 replace p2 : W.cell? ⟨w.heap.size, 2, none⟩ = some (.slice A2 n2 c2) := by rw [B1_.cell (by show w.heap.size < _; omega)]; exact p2
 replace p3 : W.cell? ⟨w.heap.size, 3, none⟩ = some (.slice A3 n3 c3) := by rw [B1_.cell (by show w.heap.size < _; omega)]; exact p3
 replace p4 : W.cell? ⟨w.heap.size, 4, none⟩ = some (.slice A4 n4 c4) := by rw [B1_.cell (by show w.heap.size < _; omega)]; exact p4
 replace p5 : W.cell? ⟨w.heap.size, 5, none⟩ = some (.slice A5 n5 c5) := by rw [B1_.cell (by show w.heap.size < _; omega)]; exact p5
 obtain ⟨rb, hrb⟩ : ∃ rb, rb = W_.heap.size := ⟨_, rfl⟩
 have hrb2 : rb = w.heap.size + 1 := by omega
 rw [← hrb] at r0 r1 r2 r3 r4 r5 rf
 clear hrb
 subst hrb2
 have lW : w.heap.size + 1 < W.heap.size := by omega
 clear sW sW_ B0_ B1_ pf
 have lv : w.heap.size < W.heap.size := by omega
 have HW := Lib.hid hW
 clear hW
 have k1 := tSS.later h1 B0
 have k2 := sl_R.1 (tTS.later h2 B0)
 have k3 := tS.later h3 B0
 have k4 := sl_R.1 (tPS.later h4 B0)
 have k5 := sl_R.1 (tM.later h5 B0)
 have L1 := Lib.hid (sl_R.1 k1).cap.1
 have L2 := Lib.hid k2.cap.1
 have L3 := Lib.hid (zdf k3)
 have L4 := Lib.hid k4.cap.1
 have L5 := Lib.hid k5.cap.1
 rw [zeg] at hn
 have z1 : hSS.sz x1 ≤ 100000000 := by omega
 have z2 : hTS.sz x2 ≤ 100000000 := by omega
 have z3 : x3.length ≤ 100000000 := by rw [zb8] at hn; omega
 have z4 : hPS.sz x4 ≤ 100000000 := by omega
 have z5 : hM.sz x5 ≤ 100000000 := by omega
 have hb1 : Hid (∀ x ∈ x1, x.length ≤ 1000000000) := Lib.hid (fun x hx => by
  obtain ⟨i, hi⟩ := List.getElem?_of_mem hx
  have := hS.szL_at hi
  have e : x1.length + hS.szL x1 = hSS.sz x1 := rfl
  rw [zb8] at this
  omega)
 have bn1 : n1 ≤ 100000000 := by have e : x1.length + hS.szL x1 = hSS.sz x1 := rfl; have := L1.out; omega
 have bn2 : n2 ≤ 100000000 := by have e : x2.length + hT.szL x2 = hTS.sz x2 := rfl; have := L2.out; omega
 have bn3 : n3 ≤ 100000000 := by have := L3.out; omega
 have bn4 : n4 ≤ 100000000 := by have e : x4.length + hP.szL x4 = hPS.sz x4 := rfl; have := L4.out; omega
 have bn5 : n5 ≤ 100000000 := by have e : x5.length + hSt.szL x5 = hM.sz x5 := rfl; have := L5.out; omega
 have pp0 := cell_regrown p0
 have pp1 := cell_regrown p1
 have pp3 := cell_regrown p3
 have D1 : Below W.heap.size W W.drew := zac (Below.refl _ _) 1
 have hd0 : W.drew.heap.size = W.heap.size := rfl
 clear h1 h2 h3 h4 h5 hn
 go_enter Tryz.func84, Tryz.ntmps84
 go_wp2_with fail
 rw [← HW.out]
 go_cut [3] (fun q3 wx => ∃ (g : Nat) (A1' : Option Addr) (c1' : Nat) (A3' : Option Addr) (c3' l1 u1 l3 u3 : Nat), q3 = .pointer (some ⟨g, 0, none⟩) ∧ W.heap.size ≤ g ∧ g < wx.heap.size ∧ wx.cell? ⟨g, 0, none⟩ = some (.int .i64 a0) ∧ wx.cell? ⟨g, 1, none⟩ = some (.slice A1' x1.length c1') ∧ wx.cell? ⟨g, 2, none⟩ = some (.slice none 0 0) ∧ wx.cell? ⟨g, 3, none⟩ = some (.slice A3' x3.length c3') ∧ wx.cell? ⟨g, 4, none⟩ = some (.slice none 0 0) ∧ wx.cell? ⟨g, 5, none⟩ = some (.slice none 0 0) ∧ (∀ j, wx.frozen? ⟨g, j, none⟩ = false) ∧ tSS.O wx (Iv l1 u1) [.slice A1' x1.length c1'] x1 ∧ tS.O wx (Iv l3 u3) [.slice A3' x3.length c3'] x3 ∧ Below W.heap.size W wx ∧ W.heap.size ≤ l1 ∧ l1 ≤ u1 ∧ u1 ≤ l3 ∧ l3 ≤ u3 ∧ u3 ≤ wx.heap.size ∧ (g < l1 ∨ (u1 ≤ g ∧ g < l3) ∨ u3 ≤ g))
 case first =>
  clear p2 p4 p5 r0 r1 r2 r3 r4 r5 rf k2 k4 k5
  go_wp2_with fail
  (refine zdh [0, 2, 5] [1, 3, 6] 4 (.two 4 (.two 7 (.two 8 (.one 9 .rest) 9 (.one 8 .rest)) 9 (.one 7 (.one 8 .rest))) 9 (.one 4 (.one 7 (.one 8 .rest)))) [10] (by kernel_rfl) (by kernel_rfl) ?_; simp only [zaj]; simp only [List.filterMap, List.getElem?_cons_succ, List.getElem?_cons_zero]; (repeat (go_big_quiet_step (fail))); refine wpQuiet_nil ?_; (repeat (go_big_quiet_step (fail))); refine wpQuiet_nil ?_)
  refine zds rfl rfl ?_ ?_
  · go_wp2_with fail
    refine (zgo _ _ _ _ _ (tSS.later k1 D1) z1).mono ?_
    rintro e w_1 ⟨V_4, rfl, own_2, bel_3⟩
    obtain ⟨AA_5, cc_6, rfl⟩ := own_2.shape
    have Bw_1 := zaa D1 bel_3
    have sw_1 := bel_3.size
    go_wp2_with fail
    refine ⟨regrown_of_below Bw_1, zds rfl rfl ?_ ?_⟩
    · go_wp2_with fail
      refine (zdm _ _ _ _ _ (tS_R.1 (tS.later k3 Bw_1)).ri (by omega)).mono ?_
      rintro e w_7 ⟨V_10, rfl, own_8, bel_9⟩
      obtain ⟨AA_11, cc_12, rfl, -⟩ := own_8.shape
      have Bw_7 := zaa Bw_1 bel_9
      have sw_7 := bel_9.size
      go_wp2_with fail
      refine ⟨regrown_of_below Bw_7, zds rfl rfl ?_ ?_⟩
      · go_wp2_with fail
        refine ⟨regrown_of_below Bw_7, za0 rfl ?_⟩
        obtain ⟨U_13, hU_13, Bx_14, sU_13, x0U_13, x1U_13, x2U_13, x3U_13, x4U_13, x5U_13, xfU_13⟩ := zb2 w_7 (.int .i64 0) (.slice none 0 0) (.slice none 0 0) (.slice none 0 0) (.slice none 0 0) (.slice none 0 0) 32
        have BU_13 := zaa Bw_7 Bx_14
        go_wp2_with fail
        rw [← hU_13]
        clear hU_13
        refine ⟨regrown_of_below BU_13, ?_⟩
        have bx0 := x0U_13
        have bx1 := x1U_13
        have bx2 := x2U_13
        have bx3 := x3U_13
        have bx4 := x4U_13
        have bx5 := x5U_13
        have bxf := xfU_13
        have by0 := bxf 0
        have by1 := bxf 1
        have by2 := bxf 2
        have by3 := bxf 3
        have by4 := bxf 4
        have by5 := bxf 5
        have q1 := own_2
        replace q1 := q1.below bel_9 (by omega)
        replace q1 := q1.below Bx_14 (by omega)
        have q3 := OI.os own_8
        replace q3 := q3.below Bx_14 (by omega)
        refine zbx ?_
        go_wp2_with fail
        try refine ⟨rfl, ?_⟩
        go_meet
        obtain ⟨U_, hU_, d0, d1, d2, d3, d4, d5, df, dch, dsz⟩ := box6 bx0 bx1 bx2 bx3 bx4 bx5 bxf (.int .i64 a0) (.slice AA_5 x1.length cc_6) (.slice none 0 0) (.slice AA_11 x3.length cc_12) (.slice none 0 0) (.slice none 0 0)
        rw [← hU_]
        exact ⟨w_7.heap.size, AA_5, cc_6, AA_11, cc_12, _, _, _, _, rfl, by omega, by omega, d0, d1, d2, d3, d4, d5, df, sl_O.2 (q1.chg dch (fun b hb (e : b = _) => by have := hb.1; have := hb.2; omega)), tS_O.2 (q3.chg dch (fun b hb (e : b = _) => by have := hb.1; have := hb.2; omega)), BU_13.trans (dch.toBelow (fun k (hk : k = _) => by omega) (by omega)), by omega, by omega, by omega, by omega, by omega, by omega⟩
      · obtain ⟨U_15, hU_15, Bx_16, sU_15, x0U_15, x1U_15, x2U_15, x3U_15, x4U_15, x5U_15, xfU_15⟩ := zb2 w_7 (.int .i64 0) (.slice none 0 0) (.slice none 0 0) (.slice none 0 0) (.slice none 0 0) (.slice none 0 0) 32
        have BU_15 := zaa Bw_7 Bx_16
        go_wp2_with fail
        rw [← hU_15]
        clear hU_15
        refine ⟨regrown_of_below BU_15, za0 rfl ?_⟩
        go_wp2_with fail
        refine ⟨regrown_of_below BU_15, ?_⟩
        have bx0 := x0U_15
        have bx1 := x1U_15
        have bx2 := x2U_15
        have bx3 := x3U_15
        have bx4 := x4U_15
        have bx5 := x5U_15
        have bxf := xfU_15
        have by0 := bxf 0
        have by1 := bxf 1
        have by2 := bxf 2
        have by3 := bxf 3
        have by4 := bxf 4
        have by5 := bxf 5
        have q1 := own_2
        replace q1 := q1.below bel_9 (by omega)
        replace q1 := q1.below Bx_16 (by omega)
        have q3 := OI.os own_8
        replace q3 := q3.below Bx_16 (by omega)
        refine zbx ?_
        go_wp2_with fail
        try refine ⟨rfl, ?_⟩
        go_meet
        obtain ⟨U_, hU_, d0, d1, d2, d3, d4, d5, df, dch, dsz⟩ := box6 bx0 bx1 bx2 bx3 bx4 bx5 bxf (.int .i64 a0) (.slice AA_5 x1.length cc_6) (.slice none 0 0) (.slice AA_11 x3.length cc_12) (.slice none 0 0) (.slice none 0 0)
        rw [← hU_]
        exact ⟨w_7.heap.size, AA_5, cc_6, AA_11, cc_12, _, _, _, _, rfl, by omega, by omega, d0, d1, d2, d3, d4, d5, df, sl_O.2 (q1.chg dch (fun b hb (e : b = _) => by have := hb.1; have := hb.2; omega)), tS_O.2 (q3.chg dch (fun b hb (e : b = _) => by have := hb.1; have := hb.2; omega)), BU_15.trans (dch.toBelow (fun k (hk : k = _) => by omega) (by omega)), by omega, by omega, by omega, by omega, by omega, by omega⟩
    · obtain ⟨U_17, hU_17, Bx_18, sU_17, x0U_17, x1U_17, x2U_17, x3U_17, x4U_17, x5U_17, xfU_17⟩ := zb2 w_1 (.int .i64 0) (.slice none 0 0) (.slice none 0 0) (.slice none 0 0) (.slice none 0 0) (.slice none 0 0) 32
      have BU_17 := zaa Bw_1 Bx_18
      go_wp2_with fail
      rw [← hU_17]
      clear hU_17
      refine ⟨regrown_of_below BU_17, za0 rfl ?_⟩
      go_wp2_with fail
      refine (zdm _ _ _ _ _ (tS_R.1 (tS.later k3 BU_17)).ri (by omega)).mono ?_
      rintro e w_19 ⟨V_22, rfl, own_20, bel_21⟩
      obtain ⟨AA_23, cc_24, rfl, -⟩ := own_20.shape
      have Bw_19 := zaa BU_17 bel_21
      have sw_19 := bel_21.size
      go_wp2_with fail
      refine ⟨regrown_of_below Bw_19, za0 rfl ?_⟩
      go_wp2_with fail
      refine ⟨regrown_of_below Bw_19, ?_⟩
      have bx0 : w_19.cell? ⟨w_1.heap.size, 0, none⟩ = some (.int .i64 0) := by rw [bel_21.cell (by show w_1.heap.size < _; omega)]; exact x0U_17
      have bx1 : w_19.cell? ⟨w_1.heap.size, 1, none⟩ = some (.slice none 0 0) := by rw [bel_21.cell (by show w_1.heap.size < _; omega)]; exact x1U_17
      have bx2 : w_19.cell? ⟨w_1.heap.size, 2, none⟩ = some (.slice none 0 0) := by rw [bel_21.cell (by show w_1.heap.size < _; omega)]; exact x2U_17
      have bx3 : w_19.cell? ⟨w_1.heap.size, 3, none⟩ = some (.slice none 0 0) := by rw [bel_21.cell (by show w_1.heap.size < _; omega)]; exact x3U_17
      have bx4 : w_19.cell? ⟨w_1.heap.size, 4, none⟩ = some (.slice none 0 0) := by rw [bel_21.cell (by show w_1.heap.size < _; omega)]; exact x4U_17
      have bx5 : w_19.cell? ⟨w_1.heap.size, 5, none⟩ = some (.slice none 0 0) := by rw [bel_21.cell (by show w_1.heap.size < _; omega)]; exact x5U_17
      have bxf : ∀ j, w_19.frozen? ⟨w_1.heap.size, j, none⟩ = false := fun j => by rw [bel_21.frozen (by show w_1.heap.size < _; omega)]; exact xfU_17 j
      have by0 := bxf 0
      have by1 := bxf 1
      have by2 := bxf 2
      have by3 := bxf 3
      have by4 := bxf 4
      have by5 := bxf 5
      have q1 := own_2
      replace q1 := q1.below Bx_18 (by omega)
      replace q1 := q1.below bel_21 (by omega)
      have q3 := OI.os own_20
      refine zbx ?_
      go_wp2_with fail
      try refine ⟨rfl, ?_⟩
      go_meet
      obtain ⟨U_, hU_, d0, d1, d2, d3, d4, d5, df, dch, dsz⟩ := box6 bx0 bx1 bx2 bx3 bx4 bx5 bxf (.int .i64 a0) (.slice AA_5 x1.length cc_6) (.slice none 0 0) (.slice AA_23 x3.length cc_24) (.slice none 0 0) (.slice none 0 0)
      rw [← hU_]
      exact ⟨w_1.heap.size, AA_5, cc_6, AA_23, cc_24, _, _, _, _, rfl, by omega, by omega, d0, d1, d2, d3, d4, d5, df, sl_O.2 (q1.chg dch (fun b hb (e : b = _) => by have := hb.1; have := hb.2; omega)), tS_O.2 (q3.chg dch (fun b hb (e : b = _) => by have := hb.1; have := hb.2; omega)), Bw_19.trans (dch.toBelow (fun k (hk : k = _) => by omega) (by omega)), by omega, by omega, by omega, by omega, by omega, by omega⟩
  · obtain ⟨U_25, hU_25, Bx_26, sU_25, x0U_25, x1U_25, x2U_25, x3U_25, x4U_25, x5U_25, xfU_25⟩ := zb2 W (.int .i64 0) (.slice none 0 0) (.slice none 0 0) (.slice none 0 0) (.slice none 0 0) (.slice none 0 0) 32
    obtain ⟨V_27, hV_27⟩ : ∃ V, V = U_25.drew := ⟨_, rfl⟩
    have BV_27 : Below W.heap.size W V_27 := by rw [hV_27]; exact zac Bx_26 1
    have sV_27 : V_27.heap.size = W.heap.size + 1 := by rw [hV_27]; exact sU_25
    have x0V_27 : V_27.cell? ⟨W.heap.size, 0, none⟩ = some (.int .i64 0) := by rw [hV_27]; exact x0U_25
    have x1V_27 : V_27.cell? ⟨W.heap.size, 1, none⟩ = some (.slice none 0 0) := by rw [hV_27]; exact x1U_25
    have x2V_27 : V_27.cell? ⟨W.heap.size, 2, none⟩ = some (.slice none 0 0) := by rw [hV_27]; exact x2U_25
    have x3V_27 : V_27.cell? ⟨W.heap.size, 3, none⟩ = some (.slice none 0 0) := by rw [hV_27]; exact x3U_25
    have x4V_27 : V_27.cell? ⟨W.heap.size, 4, none⟩ = some (.slice none 0 0) := by rw [hV_27]; exact x4U_25
    have x5V_27 : V_27.cell? ⟨W.heap.size, 5, none⟩ = some (.slice none 0 0) := by rw [hV_27]; exact x5U_25
    have xfV_27 : ∀ j, V_27.frozen? ⟨W.heap.size, j, none⟩ = false := by rw [hV_27]; exact xfU_25
    rw [hU_25] at hV_27
    clear x0U_25 x1U_25 x2U_25 x3U_25 x4U_25 x5U_25 xfU_25
    go_wp2_with fail
    rw [← hV_27]
    clear hV_27 hU_25 Bx_26 sU_25
    refine ⟨regrown_of_below BV_27, za0 rfl ?_⟩
    go_wp2_with fail
    refine (zgo _ _ _ _ _ (tSS.later k1 BV_27) z1).mono ?_
    rintro e w_28 ⟨V_31, rfl, own_29, bel_30⟩
    obtain ⟨AA_32, cc_33, rfl⟩ := own_29.shape
    have Bw_28 := zaa BV_27 bel_30
    have sw_28 := bel_30.size
    go_wp2_with fail
    refine ⟨regrown_of_below Bw_28, za0 rfl ?_⟩
    go_wp2_with fail
    refine (zdm _ _ _ _ _ (tS_R.1 (tS.later k3 Bw_28)).ri (by omega)).mono ?_
    rintro e w_34 ⟨V_37, rfl, own_35, bel_36⟩
    obtain ⟨AA_38, cc_39, rfl, -⟩ := own_35.shape
    have Bw_34 := zaa Bw_28 bel_36
    have sw_34 := bel_36.size
    go_wp2_with fail
    refine ⟨regrown_of_below Bw_34, za0 rfl ?_⟩
    go_wp2_with fail
    refine ⟨regrown_of_below Bw_34, ?_⟩
    have bx0 : w_34.cell? ⟨W.heap.size, 0, none⟩ = some (.int .i64 0) := by rw [bel_36.cell (by show W.heap.size < _; omega), bel_30.cell (by show W.heap.size < _; omega)]; exact x0V_27
    have bx1 : w_34.cell? ⟨W.heap.size, 1, none⟩ = some (.slice none 0 0) := by rw [bel_36.cell (by show W.heap.size < _; omega), bel_30.cell (by show W.heap.size < _; omega)]; exact x1V_27
    have bx2 : w_34.cell? ⟨W.heap.size, 2, none⟩ = some (.slice none 0 0) := by rw [bel_36.cell (by show W.heap.size < _; omega), bel_30.cell (by show W.heap.size < _; omega)]; exact x2V_27
    have bx3 : w_34.cell? ⟨W.heap.size, 3, none⟩ = some (.slice none 0 0) := by rw [bel_36.cell (by show W.heap.size < _; omega), bel_30.cell (by show W.heap.size < _; omega)]; exact x3V_27
    have bx4 : w_34.cell? ⟨W.heap.size, 4, none⟩ = some (.slice none 0 0) := by rw [bel_36.cell (by show W.heap.size < _; omega), bel_30.cell (by show W.heap.size < _; omega)]; exact x4V_27
    have bx5 : w_34.cell? ⟨W.heap.size, 5, none⟩ = some (.slice none 0 0) := by rw [bel_36.cell (by show W.heap.size < _; omega), bel_30.cell (by show W.heap.size < _; omega)]; exact x5V_27
    have bxf : ∀ j, w_34.frozen? ⟨W.heap.size, j, none⟩ = false := fun j => by rw [bel_36.frozen (by show W.heap.size < _; omega), bel_30.frozen (by show W.heap.size < _; omega)]; exact xfV_27 j
    have by0 := bxf 0
    have by1 := bxf 1
    have by2 := bxf 2
    have by3 := bxf 3
    have by4 := bxf 4
    have by5 := bxf 5
    have q1 := own_29
    replace q1 := q1.below bel_36 (by omega)
    have q3 := OI.os own_35
    refine zbx ?_
    go_wp2_with fail
    try refine ⟨rfl, ?_⟩
    go_meet
    obtain ⟨U_, hU_, d0, d1, d2, d3, d4, d5, df, dch, dsz⟩ := box6 bx0 bx1 bx2 bx3 bx4 bx5 bxf (.int .i64 a0) (.slice AA_32 x1.length cc_33) (.slice none 0 0) (.slice AA_38 x3.length cc_39) (.slice none 0 0) (.slice none 0 0)
    rw [← hU_]
    exact ⟨W.heap.size, AA_32, cc_33, AA_38, cc_39, _, _, _, _, rfl, by omega, by omega, d0, d1, d2, d3, d4, d5, df, sl_O.2 (q1.chg dch (fun b hb (e : b = _) => by have := hb.1; have := hb.2; omega)), tS_O.2 (q3.chg dch (fun b hb (e : b = _) => by have := hb.1; have := hb.2; omega)), Bw_34.trans (dch.toBelow (fun k (hk : k = _) => by omega) (by omega)), by omega, by omega, by omega, by omega, by omega, by omega⟩
 case rest =>
  obtain ⟨w0, rfl⟩ : ∃ u_ : World, u_ = wc := ⟨_, rfl⟩
  obtain ⟨g, A1', c1', A3', c3', l1, u1, l3, u3, rfl, hg1, hg2, d0, d1, d2, d3, d4, d5, df, o1, o3, BW, s1, s2, s3, s4_, s5_, sg⟩ := hcut
  have sW0 := BW.size
  replace r0 : w0.cell? ⟨w.heap.size + 1, 0, none⟩ = some (.int .i64 0) := by rw [BW.cell (by show w.heap.size + 1 < _; omega)]; exact r0
  replace r1 : w0.cell? ⟨w.heap.size + 1, 1, none⟩ = some (.slice none 0 0) := by rw [BW.cell (by show w.heap.size + 1 < _; omega)]; exact r1
  replace r2 : w0.cell? ⟨w.heap.size + 1, 2, none⟩ = some (.slice none 0 0) := by rw [BW.cell (by show w.heap.size + 1 < _; omega)]; exact r2
  replace r3 : w0.cell? ⟨w.heap.size + 1, 3, none⟩ = some (.slice none 0 0) := by rw [BW.cell (by show w.heap.size + 1 < _; omega)]; exact r3
  replace r4 : w0.cell? ⟨w.heap.size + 1, 4, none⟩ = some (.slice none 0 0) := by rw [BW.cell (by show w.heap.size + 1 < _; omega)]; exact r4
  replace r5 : w0.cell? ⟨w.heap.size + 1, 5, none⟩ = some (.slice none 0 0) := by rw [BW.cell (by show w.heap.size + 1 < _; omega)]; exact r5
  replace rf : ∀ j, w0.frozen? ⟨w.heap.size + 1, j, none⟩ = false := fun j => by rw [BW.frozen (by show w.heap.size + 1 < _; omega)]; exact rf j
  replace p2 : w0.cell? ⟨w.heap.size, 2, none⟩ = some (.slice A2 n2 c2) := by rw [BW.cell (by show w.heap.size < _; omega)]; exact p2
  replace p4 : w0.cell? ⟨w.heap.size, 4, none⟩ = some (.slice A4 n4 c4) := by rw [BW.cell (by show w.heap.size < _; omega)]; exact p4
  replace p5 : w0.cell? ⟨w.heap.size, 5, none⟩ = some (.slice A5 n5 c5) := by rw [BW.cell (by show w.heap.size < _; omega)]; exact p5
  clear p0 p3 pp0 pp1 pp3 D1 hd0 k3 HW p1 k1
  go_wp2_with fail
  go_loopw [22] (fun i wr => ∃ (k : Nat) (v : Value), i = .int .i64 k ∧ k ≤ n2 ∧ OS tT 42 wr (Iv w0.heap.size wr.heap.size) v (x2.take k) ∧ Gr g 2 w0 wr v) (fun i _ => n2 - (intOf i).toNat)
  case atStart => exact ⟨0, _, rfl, by omega, OS.nil _ _ _ _, Gr.start d2⟩
  case round =>
   obtain ⟨k, v, rfl, hk, own, G⟩ := hrel
   have sr2 := G.chg.size
   have Bwr2 : Below W.heap.size W wr := BW.trans (G.chg.toBelow (fun b (hb : b = g) => by omega) (by omega))
   have q2 : wr.cell? ⟨w.heap.size, 2, none⟩ = some (.slice A2 n2 c2) := by rw [G.chg.cell (by omega) (by omega)]; exact p2
   by_cases hlt : k < n2
   · obtain ⟨bb, o, A7_, n7_, c7_, x, rfl, hbb, X, e0, hT_, hra, h7⟩ := zhi (k2.below Bwr2) z2 hlt
     have hpt := Lib.hid (M.take_at X.out)
     have hxl : (x2.take k).length ≤ 100000000 := by rw [List.length_take]; omega
     have hl := Lib.hid hra.len
     obtain ⟨V, hV, BV, sV, n0, nf⟩ := zfb wr (.slice A7_ n7_ c7_) 42
     have HV := Lib.hid hV
     clear hV
     have hvg : V.cell? ⟨g, 2, none⟩ = some v := by rw [BV.cell (by show g < _; omega)]; exact G.cel
     have m0 := cell_regrown n0
     have mg := cell_regrown hvg
     obtain ⟨U, hU⟩ : ∃ U, U = (V.alloc (.cells #[] 64)).drew := ⟨_, rfl⟩
     have BU : Below V.heap.size V U := by rw [hU]; exact zac ((Below.refl _ _).alloc (Nat.le_refl _) _) 1
     have sU : U.heap.size = V.heap.size + 1 := by rw [hU]; simp
     have h0 : U.ownsRow V.heap.size 64 5 (.slice (some ⟨V.heap.size, 0, none⟩) 0 0) 0 [] := by rw [hU]; exact World.ownsRow_made _ _ _ (Nat.le_refl _) (by simp [maxLen]) rfl
     have BwU : Below wr.heap.size wr U := zaa BV BU
     have rd := ((hra.more (show W.heap.size ≤ wr.heap.size by omega)).later BwU).reads
     have HU := Lib.hid hU
     clear hU
     go_wp2_with fail
     rw [← HV.out]
     (refine zdh [0, 3] [1, 4] 4 (.one 2 (.one 5 (.one 6 (.one 7 .rest)))) [8, 9, 10] (by kernel_rfl) (by kernel_rfl) ?_; simp only [zaj]; simp only [List.filterMap, List.getElem?_cons_succ, List.getElem?_cons_zero]; (repeat (go_big_quiet_step (fail))); refine wpQuiet_nil ?_; (repeat (go_big_quiet_step (fail))); refine wpQuiet_nil ?_)
     refine za0 rfl ?_
     go_wp2_with fail
     rw [← HU.out]
     refine ⟨regrown_of_below BU, za0 rfl ?_⟩
     go_wp2_with (at_builtin; refine zcj zcp rfl _ _ rfl h0 (by first | rfl | (rw [sV]; rfl)) rd rfl (zqm _) (by unfold maxLen; omega) (by omega) (by omega) ?_; intro v1 w2 own1 gr1 bel1; rw [Nat.zero_add, List.nil_append, ← hl.out] at own1; obtain ⟨A6, c6, e6, -⟩ := zbr own1; subst e6)
     have s2_ := bel1.size
     have BU2 := BU.trans bel1
     have Bw2 : Below wr.heap.size wr w2 := zaa BV BU2
     refine ⟨regrown_of_below BU2, za0 rfl ?_⟩
     go_wp2_with fail
     refine ⟨regrown_of_below BU2, za0 rfl ?_⟩
     go_wp2_with fail
     refine ⟨regrown_of_below (zaa BU2 ((Below.refl _ _).alloc (Nat.le_refl _) _)), zbx ?_⟩
     have oT : OS tCl 64 w2 (Iv V.heap.size w2.heap.size) _ x := OS.of_flat (OX.of_own own1)
     have own2 := own.below Bw2 (Nat.le_refl _)
     have G2 := G.below Bw2 (by omega)
     go_wp2_with ((at_builtin; refine zaz zj4 #[.slice A6 x.length c6] rfl _ _ rfl own2 (sl_O.2 oT) (Iv.apart (by omega)) rfl rfl (by unfold maxLen; omega) (by omega) ?_; intro v3 w4 own4 ch4; obtain ⟨A7, c7, e7⟩ := own4.shape; obtain ⟨n7, hn7⟩ : ∃ n7, n7 = (x2.take k ++ [x]).length := ⟨_, rfl⟩; rw [← hn7] at e7; subst e7; have HN7 := Lib.hid hn7; clear hn7; have G4 := G2.row ch4 (by omega) (fun b hb => ⟨hb.1, by have := hb.1; omega⟩); have hc4 := G4.cel; have hf4 : w4.frozen? ⟨g, 2, none⟩ = false := (by rw [G4.fro]; exact df 2)))
     go_roundw
     case rel =>
      have s4 := ch4.size
      refine ⟨k + 1, _, by go_num, by omega, ?_, G4.set (df 2) _⟩
      rw [hpt.out]
      refine (own4.chg (Chg.set (F := fun b => b = g) w4 g 2 _ rfl) (fun b hb (e : b = g) => ?_)).wide (fun b hb => ?_)
      · rcases hb with hb | hb | hb
        · have := hb.1; omega
        · have := hb.1; omega
        · omega
      · have e9 : (w4.setCell ⟨g, 2, none⟩ (.slice A7 n7 c7)).heap.size = w4.heap.size := by simp
        rcases hb with hb | hb | hb
        · exact ⟨hb.1, by have := hb.2; omega⟩
        · exact ⟨by have := hb.1; omega, by have := hb.2; omega⟩
        · exact ⟨by omega, by omega⟩
     case measure => simp [intOf]; omega
   · obtain rfl : k = n2 := by omega
     rw [List.take_of_length_le (by rw [L2.out]; exact Nat.le_refl _)] at own
     obtain ⟨wb, rfl⟩ : ∃ wx : World, wx = wr := ⟨_, rfl⟩
     obtain ⟨A2', c2', rfl⟩ := own.shape
     replace d0 := (G.oth 0 (by decide)).trans d0
     replace d1 := (G.oth 1 (by decide)).trans d1
     replace d2 := G.cel
     replace d3 := (G.oth 3 (by decide)).trans d3
     replace d4 := (G.oth 4 (by decide)).trans d4
     replace d5 := (G.oth 5 (by decide)).trans d5
     replace df : ∀ j, wb.frozen? ⟨g, j, none⟩ = false := fun j => (G.fro j).trans (df j)
     replace r0 : wb.cell? ⟨w.heap.size + 1, 0, none⟩ = some (.int .i64 0) := (G.chg.cell (by omega) (by omega)).trans r0
     replace r1 : wb.cell? ⟨w.heap.size + 1, 1, none⟩ = some (.slice none 0 0) := (G.chg.cell (by omega) (by omega)).trans r1
     replace r2 : wb.cell? ⟨w.heap.size + 1, 2, none⟩ = some (.slice none 0 0) := (G.chg.cell (by omega) (by omega)).trans r2
     replace r3 : wb.cell? ⟨w.heap.size + 1, 3, none⟩ = some (.slice none 0 0) := (G.chg.cell (by omega) (by omega)).trans r3
     replace r4 : wb.cell? ⟨w.heap.size + 1, 4, none⟩ = some (.slice none 0 0) := (G.chg.cell (by omega) (by omega)).trans r4
     replace r5 : wb.cell? ⟨w.heap.size + 1, 5, none⟩ = some (.slice none 0 0) := (G.chg.cell (by omega) (by omega)).trans r5
     replace rf : ∀ j, wb.frozen? ⟨w.heap.size + 1, j, none⟩ = false := fun j => (G.chg.frozen (by omega) (by omega)).trans (rf j)
     replace p4 : wb.cell? ⟨w.heap.size, 4, none⟩ = some (.slice A4 n4 c4) := (G.chg.cell (by omega) (by omega)).trans p4
     replace p5 : wb.cell? ⟨w.heap.size, 5, none⟩ = some (.slice A5 n5 c5) := (G.chg.cell (by omega) (by omega)).trans p5
     replace o3 : tS.O wb (Iv l3 u3) [.slice A3' x3.length c3'] x3 := tS_O.2 ((tS_O.1 o3).chg G.chg (fun b hb (e : b = g) => by have := hb.1; have := hb.2; omega))
     replace o1 : tSS.O wb (Iv l1 u1) [.slice A1' x1.length c1'] x1 := sl_O.2 ((sl_O.1 o1).chg G.chg (fun b hb (e : b = g) => by have := hb.1; have := hb.2; omega))
     have o2 : tTS.O wb (Iv w0.heap.size wb.heap.size) _ x2 := sl_O.2 own
     clear G own
     go_wp2_with fail
     go_loopw [40] (fun i wr => ∃ (k : Nat) (v : Value), i = .int .i64 k ∧ k ≤ n4 ∧ OS tP 36 wr (Iv wb.heap.size wr.heap.size) v (x4.take k) ∧ Gr g 4 wb wr v) (fun i _ => n4 - (intOf i).toNat)
     case atStart => exact ⟨0, _, rfl, by omega, OS.nil _ _ _ _, Gr.start d4⟩
     case round =>
      obtain ⟨k, v, rfl, hk, own, G⟩ := hrel
      have sr4 := G.chg.size
      have Bwr4 : Below W.heap.size W wr := Bwr2.trans (G.chg.toBelow (fun b (hb : b = g) => by omega) (by omega))
      have q4 : wr.cell? ⟨w.heap.size, 4, none⟩ = some (.slice A4 n4 c4) := by rw [G.chg.cell (by omega) (by omega)]; exact p4
      by_cases hlt : k < n4
      · obtain ⟨bb, o, b0, D1_, m1_, d1_, D2_, m2_, d2_, D3_, m3_, d3_, y1, y2, y3, rfl, hbb, X, e0, e1, e2, e3, t1, t2, t3, hz⟩ := zhj (k4.below Bwr4) z4 hlt
        have hpt := Lib.hid (M.take_at X.out)
        have hxl : (x4.take k).length ≤ 100000000 := by rw [List.length_take]; omega
        obtain ⟨V, hV, BV, sV, n0, n1_, n2_, n3_, nf⟩ := zeu wr (.int .i64 b0) (.slice D1_ m1_ d1_) (.slice D2_ m2_ d2_) (.slice D3_ m3_ d3_) 36
        have HV := Lib.hid hV
        clear hV
        have hvg : V.cell? ⟨g, 4, none⟩ = some v := by rw [BV.cell (by show g < _; omega)]; exact G.cel
        have m0 := cell_regrown n0
        have m1 := cell_regrown n1_
        have m2 := cell_regrown n2_
        have m3 := cell_regrown n3_
        have mg := cell_regrown hvg
        have DV : Below wr.heap.size wr V.drew := zac BV 1
        have DD : Below V.heap.size V V.drew := zac (Below.refl _ _) 1
        have hdv : V.drew.heap.size = V.heap.size := rfl
        have t1_ := tSS.later (tSS.more (show W.heap.size ≤ wr.heap.size by omega) t1) DV
        have t2_ := tNS.later (tNS.more (show W.heap.size ≤ wr.heap.size by omega) t2) DV
        have t3_ := tS.later (tS.more (show W.heap.size ≤ wr.heap.size by omega) t3) DV
        go_wp2_with fail
        rw [← HV.out]
        (refine zdh [0] [1, 2] 2 (.one 3 (.one 4 .rest)) [5, 6, 7] (by kernel_rfl) (by kernel_rfl) ?_; simp only [zaj]; simp only [List.filterMap, List.getElem?_cons_succ, List.getElem?_cons_zero]; (repeat (go_big_quiet_step (fail))); refine wpQuiet_nil ?_; (repeat (go_big_quiet_step (fail))); refine wpQuiet_nil ?_)
        refine za0 rfl ?_
        go_wp2_with fail
        refine (ztw _ _ _ _ _ _ _ _ _ _ _ _ _ _ t1_ t2_ t3_ hz).mono ?_
        rintro e w2 ⟨H1, i1, j1, H2, i2, j2, H3, i3, j3, rfl, on, bel2⟩
        have s2_ := bel2.size
        have Bw2 := zaa DV bel2
        have own2 := own.below Bw2 (Nat.le_refl _)
        have G2 := G.below Bw2 (by omega)
        have BVw := zaa DD bel2
        go_wp2_with fail
        refine ⟨regrown_of_below BVw, za0 rfl ?_⟩
        go_wp2_with fail
        refine ⟨regrown_of_below (zaa BVw ((Below.refl _ _).alloc (Nat.le_refl _) _)), zbx ?_⟩
        go_wp2_with ((at_builtin; refine zaz zie #[.int .i64 b0, .slice H1 i1 j1, .slice H2 i2 j2, .slice H3 i3 j3] rfl _ _ rfl own2 on (Iv.apart (by omega)) rfl rfl (by unfold maxLen; omega) (by omega) ?_; intro v3 w4 own4 ch4; obtain ⟨A7, c7, e7⟩ := own4.shape; obtain ⟨n7, hn7⟩ : ∃ n7, n7 = (x4.take k ++ [(b0, y1, y2, y3)]).length := ⟨_, rfl⟩; rw [← hn7] at e7; subst e7; have HN7 := Lib.hid hn7; clear hn7; have G4 := G2.row ch4 (by omega) (fun b hb => ⟨hb.1, by have := hb.1; omega⟩); have hc4 := G4.cel; have hf4 : w4.frozen? ⟨g, 4, none⟩ = false := (by rw [G4.fro]; exact df 4)))
        go_roundw
        case rel =>
         have s4 := ch4.size
         refine ⟨k + 1, _, by go_num, by omega, ?_, G4.set (df 4) _⟩
         rw [hpt.out]
         refine (own4.chg (Chg.set (F := fun b => b = g) w4 g 4 _ rfl) (fun b hb (e : b = g) => ?_)).wide (fun b hb => ?_)
         · rcases hb with hb | hb | hb
           · have := hb.1; omega
           · have := hb.1; omega
           · omega
         · have e9 : (w4.setCell ⟨g, 4, none⟩ (.slice A7 n7 c7)).heap.size = w4.heap.size := by simp
           rcases hb with hb | hb | hb
           · exact ⟨hb.1, by have := hb.2; omega⟩
           · exact ⟨by have := hb.1; omega, by have := hb.2; omega⟩
           · exact ⟨by omega, by omega⟩
        case measure => simp [intOf]; omega
      · obtain rfl : k = n4 := by omega
        rw [List.take_of_length_le (by rw [L4.out]; exact Nat.le_refl _)] at own
        obtain ⟨wd, rfl⟩ : ∃ wx : World, wx = wr := ⟨_, rfl⟩
        obtain ⟨A4', c4', rfl⟩ := own.shape
        replace d0 := (G.oth 0 (by decide)).trans d0
        replace d1 := (G.oth 1 (by decide)).trans d1
        replace d2 := (G.oth 2 (by decide)).trans d2
        replace d3 := (G.oth 3 (by decide)).trans d3
        replace d4 := G.cel
        replace d5 := (G.oth 5 (by decide)).trans d5
        replace df : ∀ j, wd.frozen? ⟨g, j, none⟩ = false := fun j => (G.fro j).trans (df j)
        replace r0 : wd.cell? ⟨w.heap.size + 1, 0, none⟩ = some (.int .i64 0) := (G.chg.cell (by omega) (by omega)).trans r0
        replace r1 : wd.cell? ⟨w.heap.size + 1, 1, none⟩ = some (.slice none 0 0) := (G.chg.cell (by omega) (by omega)).trans r1
        replace r2 : wd.cell? ⟨w.heap.size + 1, 2, none⟩ = some (.slice none 0 0) := (G.chg.cell (by omega) (by omega)).trans r2
        replace r3 : wd.cell? ⟨w.heap.size + 1, 3, none⟩ = some (.slice none 0 0) := (G.chg.cell (by omega) (by omega)).trans r3
        replace r4 : wd.cell? ⟨w.heap.size + 1, 4, none⟩ = some (.slice none 0 0) := (G.chg.cell (by omega) (by omega)).trans r4
        replace r5 : wd.cell? ⟨w.heap.size + 1, 5, none⟩ = some (.slice none 0 0) := (G.chg.cell (by omega) (by omega)).trans r5
        replace rf : ∀ j, wd.frozen? ⟨w.heap.size + 1, j, none⟩ = false := fun j => (G.chg.frozen (by omega) (by omega)).trans (rf j)
        replace p5 : wd.cell? ⟨w.heap.size, 5, none⟩ = some (.slice A5 n5 c5) := (G.chg.cell (by omega) (by omega)).trans p5
        replace o3 : tS.O wd (Iv l3 u3) [.slice A3' x3.length c3'] x3 := tS_O.2 ((tS_O.1 o3).chg G.chg (fun b hb (e : b = g) => by have := hb.1; have := hb.2; omega))
        replace o1 : tSS.O wd (Iv l1 u1) [.slice A1' x1.length c1'] x1 := sl_O.2 ((sl_O.1 o1).chg G.chg (fun b hb (e : b = g) => by have := hb.1; have := hb.2; omega))
        replace o2 : tTS.O wd (Iv w0.heap.size wb.heap.size) [.slice A2' x2.length c2'] x2 := sl_O.2 ((sl_O.1 o2).chg G.chg (fun b hb (e : b = g) => by have := hb.1; have := hb.2; omega))
        have o4 : tPS.O wd (Iv wb.heap.size wd.heap.size) _ x4 := sl_O.2 own
        clear G own
        go_wp2_with fail
        go_loopw [56] (fun i wr => ∃ (k : Nat) (v : Value), i = .int .i64 k ∧ k ≤ n5 ∧ OS tSt 100 wr (Iv wd.heap.size wr.heap.size) v (x5.take k) ∧ Gr g 5 wd wr v) (fun i _ => n5 - (intOf i).toNat)
        case atStart => exact ⟨0, _, rfl, by omega, OS.nil _ _ _ _, Gr.start d5⟩
        case round =>
         obtain ⟨k, v, rfl, hk, own, G⟩ := hrel
         have sr5 := G.chg.size
         have Bwr5 : Below W.heap.size W wr := Bwr4.trans (G.chg.toBelow (fun b (hb : b = g) => by omega) (by omega))
         have q5 : wr.cell? ⟨w.heap.size, 5, none⟩ = some (.slice A5 n5 c5) := by rw [G.chg.cell (by omega) (by omega)]; exact p5
         by_cases hlt : k < n5
         · obtain ⟨bb, o, s, l, A7_, n7_, c7_, us, rfl, hbb, X, e0, e1, e2, hs, hra, h7⟩ := zk8 (k5.below Bwr5) z5 hlt
           have hpt := Lib.hid (M.take_at X.out)
           have hxl : (x5.take k).length ≤ 100000000 := by rw [List.length_take]; omega
           have hl := Lib.hid hra.len
           obtain ⟨V, hV, BV, sV, n0, n1_, n2_, nf⟩ := zk7 wr (.string s) (.int .i64 l) (.slice A7_ n7_ c7_) 100
           have HV := Lib.hid hV
           clear hV
           obtain ⟨U, hU⟩ : ∃ U, U = V.alloc (.cells #[] 68) := ⟨_, rfl⟩
           have BU : Below V.heap.size V U := by rw [hU]; exact (Below.refl _ _).alloc (Nat.le_refl _) _
           have sU : U.heap.size = V.heap.size + 1 := by rw [hU]; simp
           have h0 : U.ownsRow V.heap.size 68 2 (.slice (some ⟨V.heap.size, 0, none⟩) 0 0) 0 [] := by rw [hU]; exact World.ownsRow_made _ _ _ (Nat.le_refl _) (by simp [maxLen]) rfl
           have BwU : Below wr.heap.size wr U := zaa BV BU
           have rd := ((hra.more (show W.heap.size ≤ wr.heap.size by omega)).later BwU).reads
           have HU := Lib.hid hU
           clear hU
           go_wp2_with (first | (at_builtin; rw [← HV.out, ← HU.out]; refine zcj zfi rfl _ _ rfl h0 (by first | rfl | (rw [sV]; rfl)) rd rfl (zqn _) (by unfold maxLen; omega) (by omega) (by omega) ?_; intro v1 w2 own1 gr1 bel1; rw [Nat.zero_add, List.nil_append, ← hl.out] at own1; obtain ⟨A6, c6, e6, -⟩ := zbr own1; subst e6; have s2_ := bel1.size; have Bv := BU.trans bel1; have N0 := (Bv.cell (p := ⟨wr.heap.size, 0, none⟩) (by show wr.heap.size < _; omega)).trans n0; have N1 := (Bv.cell (p := ⟨wr.heap.size, 1, none⟩) (by show wr.heap.size < _; omega)).trans n1_; have N2 := (Bv.cell (p := ⟨wr.heap.size, 2, none⟩) (by show wr.heap.size < _; omega)).trans n2_; have NF := (Bv.frozen (p := ⟨wr.heap.size, 2, none⟩) (by show wr.heap.size < _; omega)).trans (nf 2); have hvw2 := (G.below (zaa BV Bv) (by omega)).cel; have chS := Chg.set (F := fun b => b = wr.heap.size) w2 wr.heap.size 2 (.slice A6 us.length c6) rfl; obtain ⟨w3, hw3⟩ : ∃ w3, w3 = w2.setCell ⟨wr.heap.size, 2, none⟩ (.slice A6 us.length c6) := ⟨_, rfl⟩; rw [← hw3] at chS; have s3_ : w3.heap.size = w2.heap.size := (by rw [hw3]; simp); have Bw3 : Below wr.heap.size wr w3 := (zaa BV Bv).trans (chS.toBelow (fun b (hb : b = _) => by omega) (by omega)); have own2 := own.below Bw3 (Nat.le_refl _); have G2 := G.below Bw3 (by omega); have oT : OS tSd 68 w2 (Iv V.heap.size w2.heap.size) _ us := OS.of_flat (OX.of_own own1); have on2 : tSt.O w3 (Iv V.heap.size w2.heap.size) [.string s, .int .i64 l, .slice A6 us.length c6] (s, l, us) := st_O.2 ⟨A6, us.length, c6, rfl, hs, sl_O.2 (oT.chg chS (fun b hb (e : b = _) => by have := hb.1; omega))⟩; have HW3 := Lib.hid hw3; clear hw3) | (at_builtin; rw [← HW3.out]; refine zaz ze3 #[.string s, .int .i64 l, .slice A6 us.length c6] rfl _ _ rfl own2 on2 (Iv.apart (by omega)) rfl (by rw [s3_]; rfl) (by unfold maxLen; omega) (by omega) ?_; intro v3 w4 own4 ch4; obtain ⟨A7, c7, e7⟩ := own4.shape; obtain ⟨n7, hn7⟩ : ∃ n7, n7 = (x5.take k ++ [(s, l, us)]).length := ⟨_, rfl⟩; rw [← hn7] at e7; subst e7; have HN7 := Lib.hid hn7; clear hn7; have G4 := G2.row ch4 (by omega) (fun b hb => ⟨hb.1, by have := hb.1; omega⟩); have hc4 := G4.cel; have hf4 : w4.frozen? ⟨g, 5, none⟩ = false := (by rw [G4.fro]; exact df 5)))
           go_roundw
           case rel =>
            have s4 := ch4.size
            refine ⟨k + 1, _, by go_num, by omega, ?_, G4.set (df 5) _⟩
            rw [hpt.out]
            refine (own4.chg (Chg.set (F := fun b => b = g) w4 g 5 _ rfl) (fun b hb (e : b = g) => ?_)).wide (fun b hb => ?_)
            · rcases hb with hb | hb | hb
              · have := hb.1; omega
              · have := hb.1; omega
              · omega
            · have e9 : (w4.setCell ⟨g, 5, none⟩ (.slice A7 n7 c7)).heap.size = w4.heap.size := by simp
              rcases hb with hb | hb | hb
              · exact ⟨hb.1, by have := hb.2; omega⟩
              · exact ⟨by have := hb.1; omega, by have := hb.2; omega⟩
              · exact ⟨by omega, by omega⟩
           case measure => simp [intOf]; omega
         · obtain rfl : k = n5 := by omega
           rw [List.take_of_length_le (by rw [L5.out]; exact Nat.le_refl _)] at own
           obtain ⟨we, rfl⟩ : ∃ wx : World, wx = wr := ⟨_, rfl⟩
           obtain ⟨A5', c5', rfl⟩ := own.shape
           replace d0 := (G.oth 0 (by decide)).trans d0
           replace d1 := (G.oth 1 (by decide)).trans d1
           replace d2 := (G.oth 2 (by decide)).trans d2
           replace d3 := (G.oth 3 (by decide)).trans d3
           replace d4 := (G.oth 4 (by decide)).trans d4
           replace d5 := G.cel
           replace df : ∀ j, we.frozen? ⟨g, j, none⟩ = false := fun j => (G.fro j).trans (df j)
           replace r0 : we.cell? ⟨w.heap.size + 1, 0, none⟩ = some (.int .i64 0) := (G.chg.cell (by omega) (by omega)).trans r0
           replace r1 : we.cell? ⟨w.heap.size + 1, 1, none⟩ = some (.slice none 0 0) := (G.chg.cell (by omega) (by omega)).trans r1
           replace r2 : we.cell? ⟨w.heap.size + 1, 2, none⟩ = some (.slice none 0 0) := (G.chg.cell (by omega) (by omega)).trans r2
           replace r3 : we.cell? ⟨w.heap.size + 1, 3, none⟩ = some (.slice none 0 0) := (G.chg.cell (by omega) (by omega)).trans r3
           replace r4 : we.cell? ⟨w.heap.size + 1, 4, none⟩ = some (.slice none 0 0) := (G.chg.cell (by omega) (by omega)).trans r4
           replace r5 : we.cell? ⟨w.heap.size + 1, 5, none⟩ = some (.slice none 0 0) := (G.chg.cell (by omega) (by omega)).trans r5
           replace rf : ∀ j, we.frozen? ⟨w.heap.size + 1, j, none⟩ = false := fun j => (G.chg.frozen (by omega) (by omega)).trans (rf j)
           replace o3 : tS.O we (Iv l3 u3) [.slice A3' x3.length c3'] x3 := tS_O.2 ((tS_O.1 o3).chg G.chg (fun b hb (e : b = g) => by have := hb.1; have := hb.2; omega))
           replace o1 : tSS.O we (Iv l1 u1) [.slice A1' x1.length c1'] x1 := sl_O.2 ((sl_O.1 o1).chg G.chg (fun b hb (e : b = g) => by have := hb.1; have := hb.2; omega))
           replace o2 : tTS.O we (Iv w0.heap.size wb.heap.size) [.slice A2' x2.length c2'] x2 := sl_O.2 ((sl_O.1 o2).chg G.chg (fun b hb (e : b = g) => by have := hb.1; have := hb.2; omega))
           replace o4 : tPS.O we (Iv wb.heap.size wd.heap.size) [.slice A4' x4.length c4'] x4 := sl_O.2 ((sl_O.1 o4).chg G.chg (fun b hb (e : b = g) => by have := hb.1; have := hb.2; omega))
           have o5 : tM.O we (Iv wd.heap.size we.heap.size) _ x5 := sl_O.2 own
           clear G own
           have rf0 := rf 0
           have rf1 := rf 1
           have rf2 := rf 2
           have rf3 := rf 3
           have rf4 := rf 4
           have rf5 := rf 5
           obtain ⟨U_, hU_, y0, y1, y2, y3, y4, y5, yf, ych, ysz⟩ := box6 r0 r1 r2 r3 r4 r5 rf (.int .i64 a0) (.slice A1' x1.length c1') (.slice A2' x2.length c2') (.slice A3' x3.length c3') (.slice A4' x4.length c4') (.slice A5' x5.length c5')
           have HU := Lib.hid hU_
           clear hU_
           go_wp2
           rw [← HU.out]
           have yf0 := yf 0
           have yf1 := yf 1
           have yf2 := yf 2
           have yf3 := yf 3
           have yf4 := yf 4
           have yf5 := yf 5
           refine bodyPost_ret (v := .agg #[.int .i64 a0, .slice A1' x1.length c1', .slice A2' x2.length c2', .slice A3' x3.length c3', .slice A4' x4.length c4', .slice A5' x5.length c5']) (by simp [results, Tryz.results84, go_sem, y0, y1, y2, y3, y4, y5, yf0, yf1, yf2, yf3, yf4, yf5]) rfl ?_
           refine ⟨A1', x1.length, c1', A2', x2.length, c2', A3', x3.length, c3', A4', x4.length, c4', A5', x5.length, c5', rfl, tZ_O.2 ⟨_, _, _, _, _, _, _, _, _, _, _, _, _, _, _, Iv l1 u1, Iv w0.heap.size wb.heap.size, Iv l3 u3, Iv wb.heap.size wd.heap.size, Iv wd.heap.size we.heap.size, rfl, tSS.ochg o1 ych (fun b hb (e : b = _) => by have := hb.1; omega), tTS.ochg o2 ych (fun b hb (e : b = _) => by have := hb.1; omega), tS.ochg o3 ych (fun b hb (e : b = _) => by have := hb.1; omega), tPS.ochg o4 ych (fun b hb (e : b = _) => by have := hb.1; omega), tM.ochg o5 ych (fun b hb (e : b = _) => by have := hb.1; omega), Iv.mono (by omega) (by omega), Iv.mono (by omega) (by omega), Iv.mono (by omega) (by omega), Iv.mono (by omega) (by omega), Iv.mono (by omega) (by omega), fun b hb hb2 => by have h_1 := hb.1; have h_2 := hb.2; have h_3 := hb2.1; have h_4 := hb2.2; omega, fun b hb hb2 => by have h_1 := hb.1; have h_2 := hb.2; have h_3 := hb2.1; have h_4 := hb2.2; omega, fun b hb hb2 => by have h_1 := hb.1; have h_2 := hb.2; have h_3 := hb2.1; have h_4 := hb2.2; omega, fun b hb hb2 => by have h_1 := hb.1; have h_2 := hb.2; have h_3 := hb2.1; have h_4 := hb2.2; omega, fun b hb hb2 => by have h_1 := hb.1; have h_2 := hb.2; have h_3 := hb2.1; have h_4 := hb2.2; omega, fun b hb hb2 => by have h_1 := hb.1; have h_2 := hb.2; have h_3 := hb2.1; have h_4 := hb2.2; omega, fun b hb hb2 => by have h_1 := hb.1; have h_2 := hb.2; have h_3 := hb2.1; have h_4 := hb2.2; omega, fun b hb hb2 => by have h_1 := hb.1; have h_2 := hb.2; have h_3 := hb2.1; have h_4 := hb2.2; omega, fun b hb hb2 => by have h_1 := hb.1; have h_2 := hb.2; have h_3 := hb2.1; have h_4 := hb2.2; omega, fun b hb hb2 => by have h_1 := hb.1; have h_2 := hb.2; have h_3 := hb2.1; have h_4 := hb2.2; omega⟩, ?_⟩
           exact (zaa B0 Bwr5).trans (ych.toBelow (fun b (hb : b = _) => by omega) (by omega))
end
section
open Go.RowKit Go.Sort
end
end Go.Proofs.YtfkcoiefkjmdeaaGreat
