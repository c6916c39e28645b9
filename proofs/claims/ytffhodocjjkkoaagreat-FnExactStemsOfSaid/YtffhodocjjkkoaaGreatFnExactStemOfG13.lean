import Derived.Test.YtffhodocjjkkoaaGreatFnExactStemOfG7
import Derived.Lib.QuietBelow
import Derived.Test.YtffhodocjjkkoaaGreatFnExactStemOfG12
import Derived.Test.YtffhodocjjkkoaaGreatFnExactStemOfG9
import Derived.Test.YtffhodocjjkkoaaGreatFnExactStemOfG6
set_option linter.unusedVariables false
set_option linter.unusedSimpArgs false
set_option maxRecDepth 100000
set_option maxHeartbeats 4000000
namespace Go.Proofs.YtffhodocjjkkoaaGreat
section
open Go.RowKit Go.Sort
set_option synthInstance.maxSize 2000
set_option synthInstance.maxHeartbeats 400000
theorem ze8 (A : Option Addr) (n c : Nat) (w : World) : Calls Tryz.prog 77 #[.slice A n c] w fun e w' => e = .returned (.int .i64 n) ∧ w = w' := by
 go_enter Tryz.func77,Tryz.ntmps77
 go_wp2
 go_ret
 exact ⟨rfl,rfl⟩
theorem zjz (a0 : Int) (A1 : Option Addr) (n1 c1 : Nat) (A2 : Option Addr) (n2 c2 : Nat) (A3 : Option Addr) (n3 c3 : Nat) (A4 : Option Addr) (n4 c4 : Nat) (A5 : Option Addr) (n5 c5 : Nat) (x1 : List (List Int)) (x2 : List (List zag)) (x3 : List Int) (x4 : List zad) (x5 : List zae) (w : World) (h1 : tSS.R w w.heap.size [.slice A1 n1 c1] x1) (h2 : tTS.R w w.heap.size [.slice A2 n2 c2] x2) (h3 : tS.R w w.heap.size [.slice A3 n3 c3] x3) (h4 : tPS.R w w.heap.size [.slice A4 n4 c4] x4) (h5 : tM.R w w.heap.size [.slice A5 n5 c5] x5) (hn : hZ.sz ((a0,x1,x2,x3,x4,x5) : Sess) ≤ 100000000) :
 Calls Tryz.prog 40 #[.agg #[.int .i64 a0,.slice A1 n1 c1,.slice A2 n2 c2,.slice A3 n3 c3,.slice A4 n4 c4,.slice A5 n5 c5]] w fun e w' => e = .returned (.bool (zbo (a0,x1,x2,x3,x4,x5))) ∧ Below w.heap.size w w' := by
 obtain ⟨W,hW⟩ : ∃ W,W = w.alloc (.cells #[.int .i64 a0,.slice A1 n1 c1,.slice A2 n2 c2,.slice A3 n3 c3,.slice A4 n4 c4,.slice A5 n5 c5] 40) := ⟨_,rfl⟩
 have B0 : Below w.heap.size w W := by rw [hW]; exact (Below.refl _ _).alloc (Nat.le_refl _) _
 have p0 : W.cell? ⟨w.heap.size,0,none⟩ = some (.int .i64 a0) := by rw [hW]; simp [go_sem]
 have p1 : W.cell? ⟨w.heap.size,1,none⟩ = some (.slice A1 n1 c1) := by rw [hW]; simp [go_sem]
 have p2 : W.cell? ⟨w.heap.size,2,none⟩ = some (.slice A2 n2 c2) := by rw [hW]; simp [go_sem]
 have p3 : W.cell? ⟨w.heap.size,3,none⟩ = some (.slice A3 n3 c3) := by rw [hW]; simp [go_sem]
 have p4 : W.cell? ⟨w.heap.size,4,none⟩ = some (.slice A4 n4 c4) := by rw [hW]; simp [go_sem]
 have p5 : W.cell? ⟨w.heap.size,5,none⟩ = some (.slice A5 n5 c5) := by rw [hW]; simp [go_sem]
 have lx : w.heap.size < W.heap.size := by rw [hW]; simp
 have HW := Lib.hid hW
 clear hW
 have k1 := tSS.later h1 B0
 have k2 := tTS.later h2 B0
 have k3 := tS.later h3 B0
 have k4 := tPS.later h4 B0
 have k5 := tM.later h5 B0
 rw [zc7] at hn
 have r1 := sl_R.1 k1
 have L1 := Lib.hid r1.cap.1
 have r2 := sl_R.1 k2
 have L2 := Lib.hid r2.cap.1
 have r3 := sl_R.1 k3
 have L3 := Lib.hid r3.cap.1
 have r4 := sl_R.1 k4
 have L4 := Lib.hid r4.cap.1
 have r5 := sl_R.1 k5
 have L5 := Lib.hid r5.cap.1
 have z1 : hSS.sz x1 ≤ 100000000 := by omega
 have bn1 : n1 ≤ 100000000 := by have e : x1.length + hS.szL x1 = hSS.sz x1 := rfl; have := L1.out; omega
 have z2 : hTS.sz x2 ≤ 100000000 := by omega
 have bn2 : n2 ≤ 100000000 := by have e : x2.length + hT.szL x2 = hTS.sz x2 := rfl; have := L2.out; omega
 have z3 : hS.sz x3 ≤ 100000000 := by omega
 have bn3 : n3 ≤ 100000000 := by have e : x3.length + hI.szL x3 = hS.sz x3 := rfl; have := L3.out; omega
 have z4 : hPS.sz x4 ≤ 100000000 := by omega
 have bn4 : n4 ≤ 100000000 := by have e : x4.length + hP.szL x4 = hPS.sz x4 := rfl; have := L4.out; omega
 have z5 : hM.sz x5 ≤ 100000000 := by omega
 have bn5 : n5 ≤ 100000000 := by have e : x5.length + hSt.szL x5 = hM.sz x5 := rfl; have := L5.out; omega
 have hb1 : Hid (∀ x ∈ x1,x.length ≤ 1000000000) := Lib.hid (fun x hx => by
  have hq1 : x1.length + hS.szL x1 = hSS.sz x1 := rfl
  obtain ⟨i,hi⟩ := List.getElem?_of_mem hx
  have := hS.szL_at hi
  rw [zbl] at this
  omega)
 have hx3 := (tS_R.1 k3).ri
 clear hn
 clear h1 h2 h3 h4 h5
 have HS := Lib.hid (show zbo (a0,x1,x2,x3,x4,x5) = (M.inn a0 0 1000 && zcb x1 && decide (n2 ≤ 6) && zay x5 && decide (n3 = n2) && x3.all (zbc n5) && decide (n4 = n5) && x2.all (fun t => za4 t && zbb t n1) && x4.all zbf) by rw [zbo]; simp only [L1.out,L2.out,L3.out,L4.out,L5.out])
 generalize zbo (a0,x1,x2,x3,x4,x5) = ok at HS ⊢
 cases g0 : M.inn a0 0 1000
 · have R := Lib.hid (show ok = false by rw [HS.out]; simp only [g0,Bool.false_and,Bool.and_false,Bool.true_and])
   have G0 := Lib.hid g0
   clear g0
   go_enter Tryz.func40,Tryz.ntmps40
   go_wp2_with fail
   rw [← HW.out]
   go_wp2_with (first | (go_at_call 72; refine (zeh _ _ _ _).mono ?_; rintro e w' ⟨rfl,rfl⟩) | (go_at_call 77; refine (ze8 _ _ _ _).mono ?_; rintro e w' ⟨rfl,rfl⟩) | (go_at_call 73; refine (zat _ _ _ _).mono ?_; rw [G0.out]; rintro e w' ⟨rfl,rfl⟩))
   go_ret
   exact ⟨zab (by rw [R.out]),B0⟩
 have G0 := Lib.hid g0
 clear g0
 cases g1 : zcb x1
 · have R := Lib.hid (show ok = false by rw [HS.out]; simp only [G0.out,g1,Bool.false_and,Bool.and_false,Bool.true_and])
   have G1 := Lib.hid g1
   clear g1
   go_enter Tryz.func40,Tryz.ntmps40
   go_wp2_with fail
   rw [← HW.out]
   go_wp2_with (first | (go_at_call 72; refine (zeh _ _ _ _).mono ?_; rintro e w' ⟨rfl,rfl⟩) | (go_at_call 77; refine (ze8 _ _ _ _).mono ?_; rintro e w' ⟨rfl,rfl⟩) | (go_at_call 73; refine (zat _ _ _ _).mono ?_; rw [G0.out]; rintro e w' ⟨rfl,rfl⟩) | (go_at_call 74; refine (zfh _ _ _ _ _ r1 hb1 (by omega)).mono ?_; rw [G1.out]; rintro e w' ⟨rfl,rfl⟩))
   go_ret
   exact ⟨zab (by rw [R.out]),B0⟩
 have G1 := Lib.hid g1
 clear g1
 by_cases g2 : ¬ n2 ≤ 6
 · have R := Lib.hid (show ok = false by rw [HS.out]; simp only [G0.out,G1.out,decide_eq_false g2,Bool.false_and,Bool.and_false,Bool.true_and])
   have gg : decide ((6 : Int) < (n2 : Int)) = true := decide_eq_true (by omega)
   go_enter Tryz.func40,Tryz.ntmps40
   go_wp2_with fail
   rw [← HW.out]
   go_wp2_with (first | (go_at_call 72; refine (zeh _ _ _ _).mono ?_; rintro e w' ⟨rfl,rfl⟩) | (go_at_call 77; refine (ze8 _ _ _ _).mono ?_; rintro e w' ⟨rfl,rfl⟩) | (go_at_call 73; refine (zat _ _ _ _).mono ?_; rw [G0.out]; rintro e w' ⟨rfl,rfl⟩) | (go_at_call 74; refine (zfh _ _ _ _ _ r1 hb1 (by omega)).mono ?_; rw [G1.out]; rintro e w' ⟨rfl,rfl⟩))
   go_ret
   exact ⟨zab (by rw [R.out]),B0⟩
 replace g2 : n2 ≤ 6 := Decidable.not_not.1 g2
 have gd2 : decide ((6 : Int) < (n2 : Int)) = false := decide_eq_false (by omega)
 cases g3 : zay x5
 · have R := Lib.hid (show ok = false by rw [HS.out]; simp only [G0.out,G1.out,decide_eq_true g2,g3,Bool.false_and,Bool.and_false,Bool.true_and])
   have G3 := Lib.hid g3
   clear g3
   go_enter Tryz.func40,Tryz.ntmps40
   go_wp2_with fail
   rw [← HW.out]
   go_wp2_with (first | (go_at_call 72; refine (zeh _ _ _ _).mono ?_; rintro e w' ⟨rfl,rfl⟩) | (go_at_call 77; refine (ze8 _ _ _ _).mono ?_; rintro e w' ⟨rfl,rfl⟩) | (go_at_call 73; refine (zat _ _ _ _).mono ?_; rw [G0.out]; rintro e w' ⟨rfl,rfl⟩) | (go_at_call 74; refine (zfh _ _ _ _ _ r1 hb1 (by omega)).mono ?_; rw [G1.out]; rintro e w' ⟨rfl,rfl⟩) | (go_at_call 75; refine (zgi _ _ _ _ _ k5 z5).mono ?_; rw [G3.out]; rintro e w2 ⟨rfl,bel2⟩; have s0 : w2.cell? ⟨w.heap.size,0,none⟩ = some (.int .i64 a0) := (by rw [bel2.cell lx]; exact p0); have s1 : w2.cell? ⟨w.heap.size,1,none⟩ = some (.slice A1 n1 c1) := (by rw [bel2.cell lx]; exact p1); have s2 : w2.cell? ⟨w.heap.size,2,none⟩ = some (.slice A2 n2 c2) := (by rw [bel2.cell lx]; exact p2); have s3 : w2.cell? ⟨w.heap.size,3,none⟩ = some (.slice A3 n3 c3) := (by rw [bel2.cell lx]; exact p3); have s4 : w2.cell? ⟨w.heap.size,4,none⟩ = some (.slice A4 n4 c4) := (by rw [bel2.cell lx]; exact p4); have s5 : w2.cell? ⟨w.heap.size,5,none⟩ = some (.slice A5 n5 c5) := (by rw [bel2.cell lx]; exact p5); have hy3 := hx3.later bel2))
   go_ret
   exact ⟨zab (by rw [R.out]),zaa B0 bel2⟩
 have G3 := Lib.hid g3
 clear g3
 by_cases g4 : ¬ n3 = n2
 · have R := Lib.hid (show ok = false by rw [HS.out]; simp only [G0.out,G1.out,decide_eq_true g2,G3.out,decide_eq_false g4,Bool.false_and,Bool.and_false,Bool.true_and])
   have gg : ((n3 : Int) != (n2 : Int)) = true := by simp; omega
   go_enter Tryz.func40,Tryz.ntmps40
   go_wp2_with fail
   rw [← HW.out]
   go_wp2_with (first | (go_at_call 72; refine (zeh _ _ _ _).mono ?_; rintro e w' ⟨rfl,rfl⟩) | (go_at_call 77; refine (ze8 _ _ _ _).mono ?_; rintro e w' ⟨rfl,rfl⟩) | (go_at_call 73; refine (zat _ _ _ _).mono ?_; rw [G0.out]; rintro e w' ⟨rfl,rfl⟩) | (go_at_call 74; refine (zfh _ _ _ _ _ r1 hb1 (by omega)).mono ?_; rw [G1.out]; rintro e w' ⟨rfl,rfl⟩) | (go_at_call 75; refine (zgi _ _ _ _ _ k5 z5).mono ?_; rw [G3.out]; rintro e w2 ⟨rfl,bel2⟩; have s0 : w2.cell? ⟨w.heap.size,0,none⟩ = some (.int .i64 a0) := (by rw [bel2.cell lx]; exact p0); have s1 : w2.cell? ⟨w.heap.size,1,none⟩ = some (.slice A1 n1 c1) := (by rw [bel2.cell lx]; exact p1); have s2 : w2.cell? ⟨w.heap.size,2,none⟩ = some (.slice A2 n2 c2) := (by rw [bel2.cell lx]; exact p2); have s3 : w2.cell? ⟨w.heap.size,3,none⟩ = some (.slice A3 n3 c3) := (by rw [bel2.cell lx]; exact p3); have s4 : w2.cell? ⟨w.heap.size,4,none⟩ = some (.slice A4 n4 c4) := (by rw [bel2.cell lx]; exact p4); have s5 : w2.cell? ⟨w.heap.size,5,none⟩ = some (.slice A5 n5 c5) := (by rw [bel2.cell lx]; exact p5); have hy3 := hx3.later bel2))
   go_ret
   exact ⟨zab (by rw [R.out]),zaa B0 bel2⟩
 replace g4 : n3 = n2 := Decidable.not_not.1 g4
 subst g4
 cases g5 : x3.all (zbc n5)
 · have R := Lib.hid (show ok = false by rw [HS.out]; simp only [G0.out,G1.out,decide_eq_true g2,G3.out,decide_true,g5,Bool.false_and,Bool.and_false,Bool.true_and])
   have G5 := Lib.hid g5
   clear g5
   go_enter Tryz.func40,Tryz.ntmps40
   go_wp2_with fail
   rw [← HW.out]
   go_wp2_with (first | (go_at_call 72; refine (zeh _ _ _ _).mono ?_; rintro e w' ⟨rfl,rfl⟩) | (go_at_call 77; refine (ze8 _ _ _ _).mono ?_; rintro e w' ⟨rfl,rfl⟩) | (go_at_call 73; refine (zat _ _ _ _).mono ?_; rw [G0.out]; rintro e w' ⟨rfl,rfl⟩) | (go_at_call 74; refine (zfh _ _ _ _ _ r1 hb1 (by omega)).mono ?_; rw [G1.out]; rintro e w' ⟨rfl,rfl⟩) | (go_at_call 75; refine (zgi _ _ _ _ _ k5 z5).mono ?_; rw [G3.out]; rintro e w2 ⟨rfl,bel2⟩; have s0 : w2.cell? ⟨w.heap.size,0,none⟩ = some (.int .i64 a0) := (by rw [bel2.cell lx]; exact p0); have s1 : w2.cell? ⟨w.heap.size,1,none⟩ = some (.slice A1 n1 c1) := (by rw [bel2.cell lx]; exact p1); have s2 : w2.cell? ⟨w.heap.size,2,none⟩ = some (.slice A2 n3 c2) := (by rw [bel2.cell lx]; exact p2); have s3 : w2.cell? ⟨w.heap.size,3,none⟩ = some (.slice A3 n3 c3) := (by rw [bel2.cell lx]; exact p3); have s4 : w2.cell? ⟨w.heap.size,4,none⟩ = some (.slice A4 n4 c4) := (by rw [bel2.cell lx]; exact p4); have s5 : w2.cell? ⟨w.heap.size,5,none⟩ = some (.slice A5 n5 c5) := (by rw [bel2.cell lx]; exact p5); have hy3 := hx3.later bel2) | (go_at_call 76; refine (ze4 _ _ _ _ _ _ hy3 (by omega) (by omega)).mono ?_; rw [G5.out]; rintro e w' ⟨rfl,rfl⟩))
   go_ret
   exact ⟨zab (by rw [R.out]),zaa B0 bel2⟩
 have G5 := Lib.hid g5
 clear g5
 by_cases g6 : ¬ n4 = n5
 · have R := Lib.hid (show ok = false by rw [HS.out]; simp only [G0.out,G1.out,decide_eq_true g2,G3.out,decide_true,G5.out,decide_eq_false g6,Bool.false_and,Bool.and_false,Bool.true_and])
   have gg : ((n4 : Int) != (n5 : Int)) = true := by simp; omega
   go_enter Tryz.func40,Tryz.ntmps40
   go_wp2_with fail
   rw [← HW.out]
   go_wp2_with (first | (go_at_call 72; refine (zeh _ _ _ _).mono ?_; rintro e w' ⟨rfl,rfl⟩) | (go_at_call 77; refine (ze8 _ _ _ _).mono ?_; rintro e w' ⟨rfl,rfl⟩) | (go_at_call 73; refine (zat _ _ _ _).mono ?_; rw [G0.out]; rintro e w' ⟨rfl,rfl⟩) | (go_at_call 74; refine (zfh _ _ _ _ _ r1 hb1 (by omega)).mono ?_; rw [G1.out]; rintro e w' ⟨rfl,rfl⟩) | (go_at_call 75; refine (zgi _ _ _ _ _ k5 z5).mono ?_; rw [G3.out]; rintro e w2 ⟨rfl,bel2⟩; have s0 : w2.cell? ⟨w.heap.size,0,none⟩ = some (.int .i64 a0) := (by rw [bel2.cell lx]; exact p0); have s1 : w2.cell? ⟨w.heap.size,1,none⟩ = some (.slice A1 n1 c1) := (by rw [bel2.cell lx]; exact p1); have s2 : w2.cell? ⟨w.heap.size,2,none⟩ = some (.slice A2 n3 c2) := (by rw [bel2.cell lx]; exact p2); have s3 : w2.cell? ⟨w.heap.size,3,none⟩ = some (.slice A3 n3 c3) := (by rw [bel2.cell lx]; exact p3); have s4 : w2.cell? ⟨w.heap.size,4,none⟩ = some (.slice A4 n4 c4) := (by rw [bel2.cell lx]; exact p4); have s5 : w2.cell? ⟨w.heap.size,5,none⟩ = some (.slice A5 n5 c5) := (by rw [bel2.cell lx]; exact p5); have hy3 := hx3.later bel2) | (go_at_call 76; refine (ze4 _ _ _ _ _ _ hy3 (by omega) (by omega)).mono ?_; rw [G5.out]; rintro e w' ⟨rfl,rfl⟩))
   go_ret
   exact ⟨zab (by rw [R.out]),zaa B0 bel2⟩
 replace g6 : n4 = n5 := Decidable.not_not.1 g6
 subst g6
 have HS2 := Lib.hid (show ok = (x2.all (fun t => za4 t && zbb t n1) && x4.all zbf) by rw [HS.out]; simp only [G0.out,G1.out,decide_eq_true g2,G3.out,G5.out,decide_true,Bool.true_and,Bool.and_true])
 clear HS
 go_enter Tryz.func40,Tryz.ntmps40
 go_wp2_with fail
 rw [← HW.out]
 go_wp2_with (first | (go_at_call 72; refine (zeh _ _ _ _).mono ?_; rintro e w' ⟨rfl,rfl⟩) | (go_at_call 77; refine (ze8 _ _ _ _).mono ?_; rintro e w' ⟨rfl,rfl⟩) | (go_at_call 73; refine (zat _ _ _ _).mono ?_; rw [G0.out]; rintro e w' ⟨rfl,rfl⟩) | (go_at_call 74; refine (zfh _ _ _ _ _ r1 hb1 (by omega)).mono ?_; rw [G1.out]; rintro e w' ⟨rfl,rfl⟩) | (go_at_call 75; refine (zgi _ _ _ _ _ k5 z5).mono ?_; rw [G3.out]; rintro e w2 ⟨rfl,bel2⟩; have s0 : w2.cell? ⟨w.heap.size,0,none⟩ = some (.int .i64 a0) := (by rw [bel2.cell lx]; exact p0); have s1 : w2.cell? ⟨w.heap.size,1,none⟩ = some (.slice A1 n1 c1) := (by rw [bel2.cell lx]; exact p1); have s2 : w2.cell? ⟨w.heap.size,2,none⟩ = some (.slice A2 n3 c2) := (by rw [bel2.cell lx]; exact p2); have s3 : w2.cell? ⟨w.heap.size,3,none⟩ = some (.slice A3 n3 c3) := (by rw [bel2.cell lx]; exact p3); have s4 : w2.cell? ⟨w.heap.size,4,none⟩ = some (.slice A4 n4 c4) := (by rw [bel2.cell lx]; exact p4); have s5 : w2.cell? ⟨w.heap.size,5,none⟩ = some (.slice A5 n4 c5) := (by rw [bel2.cell lx]; exact p5); have hy3 := hx3.later bel2) | (go_at_call 76; refine (ze4 _ _ _ _ _ _ hy3 (by omega) (by omega)).mono ?_; rw [G5.out]; rintro e w' ⟨rfl,rfl⟩))
 have B2 := zaa B0 bel2
 have lV : w.heap.size < w2.heap.size := by have := bel2.size; omega
 replace r2 := r2.later bel2
 replace r4 := r4.later bel2
 go_loopw [60] (fun i wr => ∃ k : Nat,i = .int .i64 k ∧ k ≤ n3 ∧ Hid (ok = ((x2.drop k).all (fun t => za4 t && zbb t n1) && x4.all zbf)) ∧ Below w2.heap.size w2 wr) (fun i _ => n3 - (intOf i).toNat)
 case atStart => exact ⟨0,rfl,by omega,Lib.hid HS2.out,Below.refl _ _⟩
 case round =>
  obtain ⟨k,rfl,hk,H,Bw⟩ := hrel
  have BW := zaa B2 Bw
  by_cases hlt : k < n3
  · obtain ⟨bt,ot,A7,n7,c7,t,rfl,hbt,Y,e0,hT,hra,h7⟩ := zf2 (r2.below Bw) z2 hlt
    have hd := Lib.hid (M.drop_at Y.out)
    have hk0 : (0 : Int) ≤ (k : Int) := by omega
    have hkn : (k : Int) < (n3 : Int) := by omega
    obtain ⟨U,hU⟩ : ∃ U,U = wr.alloc (.cells #[.slice A7 n7 c7] 89) := ⟨_,rfl⟩
    have GU : Below wr.heap.size wr U := by rw [hU]; exact (Below.refl _ _).alloc (Nat.le_refl _) _
    have u0 : U.cell? ⟨wr.heap.size,0,none⟩ = some (.slice A7 n7 c7) := by rw [hU,cell_of_row _ wr.heap.size 0 _ 89 (0,0) (heap_alloc_new wr _)]; rfl
    have BU := zaa Bw GU
    have q1 : U.cell? ⟨w.heap.size,1,none⟩ = some (.slice A1 n1 c1) := by rw [BU.cell lV]; exact s1
    have HU := Lib.hid hU
    clear hU
    have hry := (hra.more Bw.size).later GU
    have uu0 := cell_regrown u0
    have qq1 := cell_regrown q1
    have cS : ∀ d os,Calls Tryz.prog 80 #[.slice A1 n1 c1] (grow (redrawn U d) os) fun e w'' => e = .returned (.int .i64 n1) ∧ ∃ p : Regrown,w'' = grow (redrawn U p.d) p.os := fun d os => Calls.regrown_of (zfz (zlu _ _ _ _))
    have cT : ∀ d os,Calls Tryz.prog 78 #[.agg #[.slice A7 n7 c7]] (grow (redrawn U d) os) fun e w'' => e = .returned (.bool (za4 t)) ∧ ∃ p : Regrown,w'' = grow (redrawn U p.d) p.os := fun d os => Calls.regrown_of (zos _ _ _ _ _ (hry.later (below_regrown U d os)) (by omega))
    have cH : ∀ d os,Calls Tryz.prog 79 #[.agg #[.slice A7 n7 c7],.int .i64 n1] (grow (redrawn U d) os) fun e w'' => e = .returned (.bool (zbb t n1)) ∧ ∃ p : Regrown,w'' = grow (redrawn U p.d) p.os := fun d os => Calls.regrown_of (zq5 _ _ _ _ _ _ (hry.later (below_regrown U d os)) (by omega))
    clear u0 q1
    cases ht : za4 t
    · have R := Lib.hid (show ok = false by rw [H.out,hd.out,List.all_cons]; simp only [ht,Bool.false_and])
      rw [ht] at cT
      clear ht
      go_wp2_with fail
      rw [← HU.out]
      clear e0
      (refine wp_region_quiet_below (by kernel_rfl) (by kernel_rfl) ?_; (repeat (go_big_quiet_step ((first | exact cS _ _ | exact cT _ _ | exact cH _ _)))); refine wpQuiet_nil ?_; intro _ hw'; obtain ⟨⟨dq,osq⟩,hw''⟩ := hw'; subst hw'')
      go_wp2
      go_ret
      exact ⟨zab (by rw [R.out]),zaa BW (zaa GU (below_regrown U dq osq))⟩
    · rw [ht] at cT
      cases hh : zbb t n1
      · have R := Lib.hid (show ok = false by rw [H.out,hd.out,List.all_cons]; simp only [ht,hh,Bool.false_and,Bool.and_false])
        rw [hh] at cH
        clear ht hh
        go_wp2_with fail
        rw [← HU.out]
        clear e0
        (refine wp_region_quiet_below (by kernel_rfl) (by kernel_rfl) ?_; (repeat (go_big_quiet_step ((first | exact cS _ _ | exact cT _ _ | exact cH _ _)))); refine wpQuiet_nil ?_; intro _ hw'; obtain ⟨⟨dq,osq⟩,hw''⟩ := hw'; subst hw'')
        go_wp2
        go_ret
        exact ⟨zab (by rw [R.out]),zaa BW (zaa GU (below_regrown U dq osq))⟩
      · have R := Lib.hid (show ok = ((x2.drop (k + 1)).all (fun t => za4 t && zbb t n1) && x4.all zbf) by rw [H.out,hd.out,List.all_cons]; simp only [ht,hh,Bool.true_and])
        rw [hh] at cH
        clear ht hh
        go_wp2_with fail
        rw [← HU.out]
        clear e0
        (refine wp_region_quiet_below (by kernel_rfl) (by kernel_rfl) ?_; (repeat (go_big_quiet_step ((first | exact cS _ _ | exact cT _ _ | exact cH _ _)))); refine wpQuiet_nil ?_; intro _ hw'; obtain ⟨⟨dq,osq⟩,hw''⟩ := hw'; subst hw'')
        go_wp2
        go_roundw
        case rel => exact ⟨k + 1,by go_num,by omega,R,zaa Bw (zaa GU (below_regrown U dq osq))⟩
        case measure => simp [intOf]; omega
  · have HS4 := Lib.hid (show ok = x4.all zbf by rw [H.out,List.drop_eq_nil_of_le (by rw [L2.out]; omega)]; rfl)
    have q4 : wr.cell? ⟨w.heap.size,4,none⟩ = some (.slice A4 n4 c4) := by rw [Bw.cell lV]; exact s4
    go_wp2_with fail
    clear H hk hlt
    obtain ⟨wo,rfl⟩ : ∃ wo : World,wo = wr := ⟨_,rfl⟩
    go_loopw [79] (fun i wr => ∃ k : Nat,i = .int .i64 k ∧ k ≤ n4 ∧ Hid (ok = (x4.drop k).all zbf) ∧ Below w2.heap.size w2 wr) (fun i _ => n4 - (intOf i).toNat)
    case atStart => exact ⟨0,rfl,by omega,Lib.hid HS4.out,Bw⟩
    case round =>
     obtain ⟨k,rfl,hk,H,Bw2⟩ := hrel
     have BW := zaa B2 Bw2
     by_cases hlt2 : k < n4
     · obtain ⟨bp,op,b0,B1,m1,d1,B2,m2,d2,B3,m3,d3,y1,y2,y3,rfl,hbp,Y,e0,e1,e2,e3,t1,t2,t3,hz⟩ := zf3 (r4.below Bw2) z4 hlt2
       have hd := Lib.hid (M.drop_at Y.out)
       obtain ⟨U,hU⟩ : ∃ U,U = wr.alloc (.cells #[.int .i64 b0,.slice B1 m1 d1,.slice B2 m2 d2,.slice B3 m3 d3] 107) := ⟨_,rfl⟩
       have GU : Below wr.heap.size wr U := by rw [hU]; exact (Below.refl _ _).alloc (Nat.le_refl _) _
       have HU := Lib.hid hU
       clear hU
       have s1 := tSS.later (tSS.more Bw2.size t1) GU
       have s2 := tNS.later (tNS.more Bw2.size t2) GU
       have s3 := tS.later (tS.more Bw2.size t3) GU
       have hk0 : (0 : Int) ≤ (k : Int) := by omega
       have hkn : (k : Int) < (n4 : Int) := by omega
       cases he : zbf (b0,y1,y2,y3)
       · have R := Lib.hid (show ok = false by rw [H.out,hd.out,List.all_cons,he]; rfl)
         have HE := Lib.hid he
         clear he
         go_wp2_with fail
         rw [← HU.out]
         refine (zmb _ _ _ _ _ _ _ _ _ _ _ _ _ U s1 s2 s3 hz).mono ?_
         rw [HE.out]
         rintro e w5 ⟨rfl,bel5⟩
         go_wp2
         go_ret
         exact ⟨zab (by rw [R.out]),zaa BW (zaa GU bel5)⟩
       · have R := Lib.hid (show ok = (x4.drop (k + 1)).all zbf by rw [H.out,hd.out,List.all_cons,he]; rfl)
         have HE := Lib.hid he
         clear he
         go_wp2_with fail
         rw [← HU.out]
         refine (zmb _ _ _ _ _ _ _ _ _ _ _ _ _ U s1 s2 s3 hz).mono ?_
         rw [HE.out]
         rintro e w5 ⟨rfl,bel5⟩
         go_wp2
         go_roundw
         case rel => exact ⟨k + 1,by go_num,by omega,R,zaa Bw2 (zaa GU bel5)⟩
         case measure => simp [intOf]; omega
     · have R := Lib.hid (show ok = true by rw [H.out,List.drop_eq_nil_of_le (by rw [L4.out]; omega)]; rfl)
       go_wp2
       go_ret
       exact ⟨zab (by rw [R.out]),BW⟩
end
section
open Go.RowKit Go.Sort
set_option synthInstance.maxSize 2000
set_option synthInstance.maxHeartbeats 400000
section
variable {L : Nat} {src : List (List Int)} {ts : List (List zag)} {fs : List Int} {ps : List zad} {ms : List zae}
theorem zh4 (h : M.SO L src ts fs ps ms) : (zew L src ts fs ps ms).length = ms.length := (zh3 h _ (Nat.le_refl _)).2.len
theorem znl (h : M.SO L src ts fs ps ms) {k : Nat} (hk : k < ms.length) : (zaf (zew L src ts fs ps ms) k).length = M.nT L ms := ((zh3 h _ (Nat.le_refl _)).2.cel hk).1
theorem zus {k : Nat} (hk : k < ms.length) : (zdf ms)[k]? = some (zbj ms k + (zbn ms k).2.1) := by
 rw [zdf,List.getElem?_map,List.getElem?_range hk]
 rfl
theorem zut : (zdf ms).length = ms.length := by rw [zdf,List.length_map,List.length_range]
end
theorem znm (L : Nat) (A1 : Option Addr) (n1 c1 : Nat) (A2 : Option Addr) (n2 c2 : Nat) (A3 : Option Addr) (n3 c3 : Nat) (A4 : Option Addr) (n4 c4 : Nat) (A5 : Option Addr) (n5 c5 : Nat) (src : List (List Int)) (ts : List (List zag)) (fs : List Int) (ps : List zad) (ms : List zae) (w : World)
 (h1 : tSS.R w w.heap.size [.slice A1 n1 c1] src) (h2 : tTS.R w w.heap.size [.slice A2 n2 c2] ts) (h3 : tS.R w w.heap.size [.slice A3 n3 c3] fs) (h4 : tPS.R w w.heap.size [.slice A4 n4 c4] ps) (h5 : tM.R w w.heap.size [.slice A5 n5 c5] ms) (hn : hZ.sz (((L : Int),src,ts,fs,ps,ms) : Sess) ≤ 100000000) (hO : M.SO L src ts fs ps ms) :
 Calls Tryz.prog 41 #[.agg #[.int .i64 L,.slice A1 n1 c1,.slice A2 n2 c2,.slice A3 n3 c3,.slice A4 n4 c4,.slice A5 n5 c5]] w (Ret1 2 w (zex L src ts fs ps ms)) := by
 obtain ⟨W,hW,B0,sW,p0,p1,p2,p3,p4,p5,pf⟩ := zbw w (.int .i64 L) (.slice A1 n1 c1) (.slice A2 n2 c2) (.slice A3 n3 c3) (.slice A4 n4 c4) (.slice A5 n5 c5) 40
 have HW := Lib.hid hW
 have lW : w.heap.size < W.heap.size := by omega
 have Q5 := Lib.hid (sl_R.1 h5).cap.1
 have hmn := zde hO.mix
 rw [Q5.out] at hmn
 obtain ⟨m,hm⟩ : ∃ m : Nat,m = n5 - 1 := ⟨_,rfl⟩
 have HM := Lib.hid (show ((n5 : Int) - 1) = (m : Int) by omega)
 have hmw : IntKind.i64.wrap ((n5 : Int) - 1) = (n5 : Int) - 1 := IntWalk.i64_in _ (by omega)
 have hm' : m < n5 := by omega
 have hMM := Lib.hid (show ms.length - 1 = m by rw [Q5.out]; omega)
 have hT := zf5 hO.mix
 obtain ⟨T,hTT⟩ : ∃ T : Nat,zcs ms = (T : Int) := ⟨(zcs ms).toNat,by omega⟩
 have hTb : T ≤ 1100 := by omega
 have hL := hO.l
 have HT := Lib.hid hTT
 have hrl : (zdf ms)[m]? = some (T : Int) := by
  rw [zus (by rw [Q5.out]; exact hm'),← hTT,zum,hMM.out]
 have HRL := Lib.hid hrl
 have hnT := zh2 hO
 clear hW sW hTT hm hrl hT
 go_enter Tryz.func41,Tryz.ntmps41
 go_wp2_with fail
 rw [← HW.out]
 refine (zup L _ _ c1 _ _ c2 _ _ c3 _ _ c4 _ _ c5 src ts fs ps ms W (tSS.later h1 B0) (tTS.later h2 B0) (tS.later h3 B0) (tPS.later h4 B0) (tM.later h5 B0) hn hO).mono ?_
 rintro e K ⟨vO,vR,G,rfl,oO,oR,hG,bel⟩
 have R := RSN.of_os (F := fun _ => False) oO (fun _ h => h.elim)
 obtain ⟨AO,cO,eO⟩ := R.shape
 rw [zh4 hO,Q5.out] at eO
 subst eO
 obtain ⟨AR,cR,eR,rR⟩ := oR.shape
 rw [zut,Q5.out] at eR rR
 subst eR
 obtain ⟨bR,oR_,rfl,hbR,hcR⟩ := zam rR (by omega)
 have cR_ := hcR m _ HRL.out
 obtain ⟨bO,oO_,cO',AX,cX,x,eO',hbO,-,hx1,hx2,hx3,hx4⟩ := R.at (k := m) (by rw [zh4 hO,Q5.out]; exact hm')
 simp only [Value.slice.injEq] at eO'
 obtain ⟨rfl,-,-⟩ := eO'
 have hxc : zaf (zew L src ts fs ps ms) m = x := zep hx1
 have hxl : x.length = M.nT L ms := by rw [← hxc]; exact znl hO (by rw [Q5.out]; exact hm')
 obtain ⟨n,hnn⟩ : ∃ n,n = M.nT L ms := ⟨_,rfl⟩
 rw [← hnn] at hxl hnT
 rw [hxl] at hx2 hx3 hx4
 have HXC := Lib.hid hxc
 have sK := bel.size
 have lK : w.heap.size < K.heap.size := by omega
 have q0 : K.cell? ⟨w.heap.size,0,none⟩ = some (.int .i64 L) := by rw [bel.cell (by show w.heap.size < _; omega)]; exact p0
 have y0 := cell_regrown q0
 have yR := cell_regrown cR_
 have yO := cell_regrown hx4
 have D1 : Below K.heap.size K K.drew := zac (Below.refl _ _) 1
 have hd1 : K.drew.heap.size = K.heap.size := rfl
 have k0 : (0 : Int) ≤ (m : Int) := by omega
 have k1 : (m : Int) < (n5 : Int) := by omega
 have hx3' := hx3.below D1
 clear hxc hnn hx1 hcR hxl
 go_wp2_with fail
 rw [HM.out]
 (refine zce [0,1,2,4,5,6,8] [3,7,9] 1 (.one 10 .rest) [11] [11] (by kernel_rfl) (by kernel_rfl) ?_; simp only [zaj]; simp only [List.filterMap,List.getElem?_cons_succ,List.getElem?_cons_zero]; (repeat (go_big_quiet_step (fail))); refine wpQuiet_nil ?_; (repeat (go_big_quiet_step (fail))); refine wpQuiet_nil ?_)
 refine zbe rfl ?_
 go_wp2_with fail
 refine (zud AX n cX x T L _ hx3'.1 (by omega) (by omega) (by omega)).mono ?_
 rintro e w2 ⟨v2,rfl,own2,bel2⟩
 have B2 := zaa D1 bel2
 go_wp2_with fail
 refine ⟨regrown_of_below B2,?_⟩
 refine zb7 ?_
 go_wp2_with fail
 go_ret
 refine ⟨_,rfl,?_,zaa B0 (zaa bel B2)⟩
 rw [zex,hMM.out,HXC.out,HT.out]
 exact own2.base (by omega)
theorem znn (vb L : Nat) (A1 : Option Addr) (n1 c1 : Nat) (A2 : Option Addr) (n2 c2 : Nat) (A3 : Option Addr) (n3 c3 : Nat) (A4 : Option Addr) (n4 c4 : Nat) (A5 : Option Addr) (n5 c5 : Nat) (src : List (List Int)) (ts : List (List zag)) (fs : List Int) (ps : List zad) (ms : List zae) (w : World)
 (p0 : w.cell? ⟨vb,0,none⟩ = some (.int .i64 L)) (p1 : w.cell? ⟨vb,1,none⟩ = some (.slice A1 n1 c1)) (p2 : w.cell? ⟨vb,2,none⟩ = some (.slice A2 n2 c2)) (p3 : w.cell? ⟨vb,3,none⟩ = some (.slice A3 n3 c3)) (p4 : w.cell? ⟨vb,4,none⟩ = some (.slice A4 n4 c4)) (p5 : w.cell? ⟨vb,5,none⟩ = some (.slice A5 n5 c5))
 (h1 : tSS.R w w.heap.size [.slice A1 n1 c1] src) (h2 : tTS.R w w.heap.size [.slice A2 n2 c2] ts) (h3 : tS.R w w.heap.size [.slice A3 n3 c3] fs) (h4 : tPS.R w w.heap.size [.slice A4 n4 c4] ps) (h5 : tM.R w w.heap.size [.slice A5 n5 c5] ms) (hn : hZ.sz (((L : Int),src,ts,fs,ps,ms) : Sess) ≤ 100000000) (hO : M.SO L src ts fs ps ms) :
 Calls Tryz.prog 34 #[.pointer (some ⟨vb,0,none⟩)] w (Ret1 2 w (zex L src ts fs ps ms)) := by
 have lW : vb < w.heap.size := World.block_lt_of_cell? w _ p0
 have Q5 := Lib.hid (sl_R.1 h5).cap.1
 have hmn := zde hO.mix
 rw [Q5.out] at hmn
 obtain ⟨m,hm⟩ : ∃ m : Nat,m = n5 - 1 := ⟨_,rfl⟩
 have HM := Lib.hid (show ((n5 : Int) - 1) = (m : Int) by omega)
 have hmw : IntKind.i64.wrap ((n5 : Int) - 1) = (n5 : Int) - 1 := IntWalk.i64_in _ (by omega)
 have hm' : m < n5 := by omega
 have hMM := Lib.hid (show ms.length - 1 = m by rw [Q5.out]; omega)
 have hT := zf5 hO.mix
 obtain ⟨T,hTT⟩ : ∃ T : Nat,zcs ms = (T : Int) := ⟨(zcs ms).toNat,by omega⟩
 have hTb : T ≤ 1100 := by omega
 have hL := hO.l
 have HT := Lib.hid hTT
 have hnT := zh2 hO
 clear hTT hm hT
 go_enter Tryz.func34,Tryz.ntmps34
 go_wp2_with fail
 refine (zur vb L _ _ c1 _ _ c2 _ _ c3 _ _ c4 _ _ c5 src ts fs ps ms w p0 p1 p2 p3 p4 p5 h1 h2 h3 h4 h5 hn hO).mono ?_
 rintro e K ⟨vO,rfl,R,bel⟩
 obtain ⟨AO,cO,eO⟩ := R.shape
 rw [zh4 hO,Q5.out] at eO
 subst eO
 obtain ⟨bO,oO_,cO',AX,cX,x,eO',hbO,-,hx1,hx2,hx3,hx4⟩ := R.at (k := m) (by rw [zh4 hO,Q5.out]; exact hm')
 simp only [Value.slice.injEq] at eO'
 obtain ⟨rfl,-,-⟩ := eO'
 have hxc : zaf (zew L src ts fs ps ms) m = x := zep hx1
 have hxl : x.length = M.nT L ms := by rw [← hxc]; exact znl hO (by rw [Q5.out]; exact hm')
 obtain ⟨n,hnn⟩ : ∃ n,n = M.nT L ms := ⟨_,rfl⟩
 rw [← hnn] at hxl hnT
 rw [hxl] at hx2 hx3 hx4
 have HXC := Lib.hid hxc
 have sK := bel.size
 have lK : vb < K.heap.size := by omega
 have q0 : K.cell? ⟨vb,0,none⟩ = some (.int .i64 L) := by rw [bel.cell (by show vb < _; omega)]; exact p0
 have q5 : K.cell? ⟨vb,5,none⟩ = some (.slice A5 n5 c5) := by rw [bel.cell (by show vb < _; omega)]; exact p5
 have q5d : K.drew.cell? ⟨vb,5,none⟩ = some (.slice A5 n5 c5) := q5
 have y0 := cell_regrown q0
 have yO := cell_regrown hx4
 have D1 : Below K.heap.size K K.drew := zac (Below.refl _ _) 1
 have hd1 : K.drew.heap.size = K.heap.size := rfl
 have k0 : (0 : Int) ≤ (m : Int) := by omega
 have k1 : (m : Int) < (n5 : Int) := by omega
 have hx3' := hx3.below D1
 have BD := zaa bel D1
 have HM' : (n5 : Int) - 1 = (m : Int) := HM.out
 clear hxc hnn hx1 hxl
 go_wp2_with fail
 (refine zce [0,1,6,7,8,10,11,12] [13] 5 (.two 2 (.first 3 (.first 4 (.load 5 (.one 9 .rest)))) 9 (.one 2 (.first 3 (.first 4 (.load 5 .rest))))) [14] [14,15] (by kernel_rfl) (by kernel_rfl) ?_; simp only [zaj]; simp only [List.filterMap,List.getElem?_cons_succ,List.getElem?_cons_zero]; (repeat (go_big_quiet_step (fail))); refine wpQuiet_nil ?_; (repeat (go_big_quiet_step (fail))); refine wpQuiet_nil ?_)
 refine zmv rfl rfl ?_ ?_
 · go_wp2_with fail
   refine ⟨regrown_of_below D1,?_⟩
   (refine zcg rfl ?_; (repeat (go_big_quiet_step (fail))); refine wpQuiet_nil ?_)
   (refine zcg rfl ?_; (repeat (go_big_quiet_step (fail))); refine wpQuiet_nil ?_)
   (refine zmw rfl ?_; (repeat (go_big_quiet_step (fail))); refine wpQuiet_nil ?_)
   refine zbe rfl ?_
   go_wp2_with fail
   refine (zjm vb 5 _ _ c5 ms _ q5d (tM.later h5 BD) hO.mix).mono ?_
   rw [HT.out]
   rintro e w1 ⟨rfl,bel1⟩
   have B1 := zaa D1 bel1
   go_wp2_with fail
   refine ⟨regrown_of_below B1,?_⟩
   refine zb7 ?_
   go_wp2_with fail
   refine (zjr AX n cX x T L _ ((hx3.below B1).1) (by omega) (by omega) (by omega)).mono ?_
   rintro e w2 ⟨v2,rfl,own2,bel2⟩
   go_wp2_with fail
   go_ret
   refine ⟨_,rfl,?_,zaa bel (zaa B1 bel2)⟩
   rw [zex,hMM.out,HXC.out,HT.out]
   exact own2.base (by have := B1.size; omega)
 · go_wp2_with fail
   refine (zjm vb 5 _ _ c5 ms _ q5d (tM.later h5 BD) hO.mix).mono ?_
   rw [HT.out]
   rintro e w1 ⟨rfl,bel1⟩
   have B1 := zaa D1 bel1
   go_wp2_with fail
   refine ⟨regrown_of_below B1,?_⟩
   refine zbe rfl ?_
   go_wp2_with fail
   refine ⟨regrown_of_below B1,?_⟩
   (refine zcg rfl ?_; (repeat (go_big_quiet_step (fail))); refine wpQuiet_nil ?_)
   (refine zcg rfl ?_; (repeat (go_big_quiet_step (fail))); refine wpQuiet_nil ?_)
   (refine zmw rfl ?_; (repeat (go_big_quiet_step (fail))); refine wpQuiet_nil ?_)
   refine zb7 ?_
   go_wp2_with fail
   refine (zjr AX n cX x T L _ ((hx3.below B1).1) (by omega) (by omega) (by omega)).mono ?_
   rintro e w2 ⟨v2,rfl,own2,bel2⟩
   go_wp2_with fail
   go_ret
   refine ⟨_,rfl,?_,zaa bel (zaa B1 bel2)⟩
   rw [zex,hMM.out,HXC.out,HT.out]
   exact own2.base (by have := B1.size; omega)
end
section
open Go.RowKit Go.Sort
theorem box4 {U : World} {g : Nat} {z0 z1 z2 z3 : Value} (c0 : U.cell? ⟨g,0,none⟩ = some z0) (c1 : U.cell? ⟨g,1,none⟩ = some z1) (c2 : U.cell? ⟨g,2,none⟩ = some z2) (c3 : U.cell? ⟨g,3,none⟩ = some z3) (f0 : U.frozen? ⟨g,0,none⟩ = false) (f1 : U.frozen? ⟨g,1,none⟩ = false) (f2 : U.frozen? ⟨g,2,none⟩ = false) (f3 : U.frozen? ⟨g,3,none⟩ = false) (v0 v1 v2 v3 : Value) :
 ∃ U',U' = (((U.setCell ⟨g,0,none⟩ v0).setCell ⟨g,1,none⟩ v1).setCell ⟨g,2,none⟩ v2).setCell ⟨g,3,none⟩ v3 ∧ U'.cell? ⟨g,0,none⟩ = some v0 ∧ U'.cell? ⟨g,1,none⟩ = some v1 ∧ U'.cell? ⟨g,2,none⟩ = some v2 ∧ U'.cell? ⟨g,3,none⟩ = some v3 ∧ (∀ j,j < 4 → U'.frozen? ⟨g,j,none⟩ = false) ∧ Chg (fun b => b = g) U U' ∧ U'.heap.size = U.heap.size := by
 refine ⟨_,rfl,by simp [go_sem,c0],by simp [go_sem,c1],by simp [go_sem,c2],by simp [go_sem,c3],fun j hj => ?_,(((Chg.set (F := fun b => b = g) _ g 0 v0 rfl).trans (Chg.set _ g 1 v1 rfl)).trans (Chg.set _ g 2 v2 rfl)).trans (Chg.set _ g 3 v3 rfl),by simp⟩
 match j,hj with
 | 0,_ => simp [go_sem,f0]
 | 1,_ => simp [go_sem,f1]
 | 2,_ => simp [go_sem,f2]
 | 3,_ => simp [go_sem,f3]
theorem zuu (a0 : Int) (A1 : Option Addr) (n1 c1 : Nat) (A2 : Option Addr) (n2 c2 : Nat) (A3 : Option Addr) (n3 c3 : Nat) (x1 : List (List Int)) (x2 : List Node) (x3 : List Int) (w : World) (h1 : tSS.R w w.heap.size [.slice A1 n1 c1] x1) (h2 : tNS.R w w.heap.size [.slice A2 n2 c2] x2) (h3 : tS.R w w.heap.size [.slice A3 n3 c3] x3) (hn : hP.sz ((a0,x1,x2,x3) : zad) ≤ 100000000) :
 Calls Tryz.prog 181 #[.agg #[.int .i64 a0,.slice A1 n1 c1,.slice A2 n2 c2,.slice A3 n3 c3]] w fun e w' => ∃ A1' n1' c1' A2' n2' c2' A3' n3' c3',e = .returned (.agg #[.int .i64 a0,.slice A1' n1' c1',.slice A2' n2' c2',.slice A3' n3' c3']) ∧ tP.O w' (Iv w.heap.size w'.heap.size) [.int .i64 a0,.slice A1' n1' c1',.slice A2' n2' c2',.slice A3' n3' c3'] (a0,x1,x2,x3) ∧ Below w.heap.size w w' := by
 obtain ⟨W,hW⟩ : ∃ W,W = (w.alloc (.cells #[.int .i64 a0,.slice A1 n1 c1,.slice A2 n2 c2,.slice A3 n3 c3] 107)).alloc (.cells #[.int .i64 0,.slice none 0 0,.slice none 0 0,.slice none 0 0] 107) := ⟨_,rfl⟩
 have B0 : Below w.heap.size w W := by rw [hW]; exact ((Below.refl _ _).alloc (Nat.le_refl _) _).alloc (by simp) _
 have lW : w.heap.size + 1 < W.heap.size := by rw [hW]; simp
 have p0 : W.cell? ⟨w.heap.size,0,none⟩ = some (.int .i64 a0) := by rw [hW]; simp [go_sem]
 have r0 : W.cell? ⟨w.heap.size + 1,0,none⟩ = some (.int .i64 0) := by rw [hW]; simp [go_sem]
 have rf0 : W.frozen? ⟨w.heap.size + 1,0,none⟩ = false := by rw [hW]; simp [go_sem]
 have p1 : W.cell? ⟨w.heap.size,1,none⟩ = some (.slice A1 n1 c1) := by rw [hW]; simp [go_sem]
 have r1 : W.cell? ⟨w.heap.size + 1,1,none⟩ = some (.slice none 0 0) := by rw [hW]; simp [go_sem]
 have rf1 : W.frozen? ⟨w.heap.size + 1,1,none⟩ = false := by rw [hW]; simp [go_sem]
 have p2 : W.cell? ⟨w.heap.size,2,none⟩ = some (.slice A2 n2 c2) := by rw [hW]; simp [go_sem]
 have r2 : W.cell? ⟨w.heap.size + 1,2,none⟩ = some (.slice none 0 0) := by rw [hW]; simp [go_sem]
 have rf2 : W.frozen? ⟨w.heap.size + 1,2,none⟩ = false := by rw [hW]; simp [go_sem]
 have p3 : W.cell? ⟨w.heap.size,3,none⟩ = some (.slice A3 n3 c3) := by rw [hW]; simp [go_sem]
 have r3 : W.cell? ⟨w.heap.size + 1,3,none⟩ = some (.slice none 0 0) := by rw [hW]; simp [go_sem]
 have rf3 : W.frozen? ⟨w.heap.size + 1,3,none⟩ = false := by rw [hW]; simp [go_sem]
 have HW := Lib.hid hW
 clear hW
 have k1 := tSS.later h1 B0
 have k2 := tNS.later h2 B0
 have k3 := tS.later h3 B0
 have L1 := Lib.hid (sl_R.1 k1).cap.1
 have L2 := Lib.hid (sl_R.1 k2).cap.1
 have L3 := Lib.hid (zc0 k3)
 rw [zc6] at hn
 have z1 : hSS.sz x1 ≤ 100000000 := by omega
 have z2 : hNS.sz x2 ≤ 100000000 := by omega
 have z3 : x3.length ≤ 100000000 := by rw [zbl] at hn; omega
 have bn2 : n2 ≤ 100000000 := by have e : x2.length + hN.szL x2 = hNS.sz x2 := rfl; have := L2.out; omega
 have bn3 : n3 ≤ 100000000 := by have := L3.out; omega
 have pp0 := cell_regrown p0
 have pp1 := cell_regrown p1
 have pp3 := cell_regrown p3
 have D1 : Below W.heap.size W W.drew := zac (Below.refl _ _) 1
 have hd0 : W.drew.heap.size = W.heap.size := rfl
 clear h1 h2 h3 hn
 go_enter Tryz.func181,Tryz.ntmps181
 go_wp2_with fail
 rw [← HW.out]
 go_cut [3] (fun q3 wx => ∃ (g : Nat) (A1' : Option Addr) (c1' : Nat) (A3' : Option Addr) (c3' l1 u1 l3 u3 : Nat),q3 = .pointer (some ⟨g,0,none⟩) ∧ W.heap.size ≤ g ∧ g < wx.heap.size ∧ wx.cell? ⟨g,0,none⟩ = some (.int .i64 a0) ∧ wx.cell? ⟨g,1,none⟩ = some (.slice A1' x1.length c1') ∧ wx.cell? ⟨g,2,none⟩ = some (.slice none 0 0) ∧ wx.cell? ⟨g,3,none⟩ = some (.slice A3' x3.length c3') ∧ (∀ j,j < 4 → wx.frozen? ⟨g,j,none⟩ = false) ∧ tSS.O wx (Iv l1 u1) [.slice A1' x1.length c1'] x1 ∧ tS.O wx (Iv l3 u3) [.slice A3' x3.length c3'] x3 ∧ Below W.heap.size W wx ∧ W.heap.size ≤ l1 ∧ u1 ≤ l3 ∧ u3 ≤ wx.heap.size ∧ l1 ≤ u1 ∧ l3 ≤ u3 ∧ (g < l1 ∨ (u1 ≤ g ∧ g < l3) ∨ u3 ≤ g))
 case first =>
  clear p0 p1 p2 p3 r0 r1 r2 r3 rf0 rf1 rf2 rf3 k2
  go_wp2_with fail
  (refine zcq [0,2,5] [1,3,6] 4 (.two 4 (.two 7 (.two 8 (.one 9 .rest) 9 (.one 8 .rest)) 9 (.one 7 (.one 8 .rest))) 9 (.one 4 (.one 7 (.one 8 .rest)))) [10] (by kernel_rfl) (by kernel_rfl) ?_; simp only [zaj]; simp only [List.filterMap,List.getElem?_cons_succ,List.getElem?_cons_zero]; (repeat (go_big_quiet_step (fail))); refine wpQuiet_nil ?_; (repeat (go_big_quiet_step (fail))); refine wpQuiet_nil ?_)
  refine zc9 rfl rfl ?_ ?_
  · go_wp2_with fail
    refine (zgz _ _ _ _ _ (tSS.later k1 D1) z1).mono ?_
    rintro e w1 ⟨V4,rfl,own2,bel3⟩
    obtain ⟨AA5,cc6,rfl⟩ := own2.shape
    have Bw1 := zaa D1 bel3
    have sw1 := bel3.size
    go_wp2_with fail
    refine ⟨regrown_of_below Bw1,zc9 rfl rfl ?_ ?_⟩
    · go_wp2_with fail
      refine (zd1 _ _ _ _ _ (tS_R.1 (tS.later k3 Bw1)).ri (by omega)).mono ?_
      rintro e w7 ⟨V10,rfl,own8,bel9⟩
      obtain ⟨AA11,cc12,rfl,-⟩ := own8.shape
      have Bw7 := zaa Bw1 bel9
      have sw7 := bel9.size
      go_wp2_with fail
      refine ⟨regrown_of_below Bw7,zc9 rfl rfl ?_ ?_⟩
      · go_wp2_with fail
        refine ⟨regrown_of_below Bw7,zao rfl ?_⟩
        obtain ⟨U13,hU13⟩ : ∃ U,U = w7.alloc (.cells #[.int .i64 0,.slice none 0 0,.slice none 0 0,.slice none 0 0] 107) := ⟨_,rfl⟩
        have Bx14 : Below w7.heap.size w7 U13 := by rw [hU13]; exact (Below.refl _ _).alloc (Nat.le_refl _) _
        have sU13 : U13.heap.size = w7.heap.size + 1 := by rw [hU13]; simp
        have xU13_0 : U13.cell? ⟨w7.heap.size,0,none⟩ = some (.int .i64 0) := by rw [hU13]; simp [go_sem]
        have yU13_0 : U13.frozen? ⟨w7.heap.size,0,none⟩ = false := by rw [hU13]; simp [go_sem]
        have xU13_1 : U13.cell? ⟨w7.heap.size,1,none⟩ = some (.slice none 0 0) := by rw [hU13]; simp [go_sem]
        have yU13_1 : U13.frozen? ⟨w7.heap.size,1,none⟩ = false := by rw [hU13]; simp [go_sem]
        have xU13_2 : U13.cell? ⟨w7.heap.size,2,none⟩ = some (.slice none 0 0) := by rw [hU13]; simp [go_sem]
        have yU13_2 : U13.frozen? ⟨w7.heap.size,2,none⟩ = false := by rw [hU13]; simp [go_sem]
        have xU13_3 : U13.cell? ⟨w7.heap.size,3,none⟩ = some (.slice none 0 0) := by rw [hU13]; simp [go_sem]
        have yU13_3 : U13.frozen? ⟨w7.heap.size,3,none⟩ = false := by rw [hU13]; simp [go_sem]
        go_wp2_with fail
        rw [← hU13]
        have BU13 := zaa Bw7 Bx14
        clear hU13
        refine ⟨regrown_of_below BU13,?_⟩
        have hg : w7.heap.size < U13.heap.size := by omega
        have bx0 := xU13_0
        have by0 := yU13_0
        have bx1 := xU13_1
        have by1 := yU13_1
        have bx2 := xU13_2
        have by2 := yU13_2
        have bx3 := xU13_3
        have by3 := yU13_3
        have q1 := own2
        replace q1 := q1.below bel9 (by omega)
        replace q1 := q1.below Bx14 (by omega)
        have q3 := OI.os own8
        replace q3 := q3.below Bx14 (by omega)
        refine zbi ?_
        go_wp2_with fail
        try refine ⟨rfl,?_⟩
        go_meet
        obtain ⟨U_,hU_,d0,d1,d2,d3,df,dch,dsz⟩ := box4 bx0 bx1 bx2 bx3 by0 by1 by2 by3 (.int .i64 a0) (.slice AA5 x1.length cc6) (.slice none 0 0) (.slice AA11 x3.length cc12)
        rw [← hU_]
        exact ⟨w7.heap.size,AA5,cc6,AA11,cc12,_,_,_,_,rfl,by omega,by omega,d0,d1,d2,d3,df,sl_O.2 (q1.chg dch (fun b hb (e : b = _) => by have := hb.1; have := hb.2; omega)),tS_O.2 (q3.chg dch (fun b hb (e : b = _) => by have := hb.1; have := hb.2; omega)),BU13.trans (dch.toBelow (fun k (hk : k = _) => by omega) (by omega)),by omega,by omega,by omega,by omega,by omega,by omega⟩
      · obtain ⟨U15,hU15⟩ : ∃ U,U = w7.alloc (.cells #[.int .i64 0,.slice none 0 0,.slice none 0 0,.slice none 0 0] 107) := ⟨_,rfl⟩
        have Bx16 : Below w7.heap.size w7 U15 := by rw [hU15]; exact (Below.refl _ _).alloc (Nat.le_refl _) _
        have sU15 : U15.heap.size = w7.heap.size + 1 := by rw [hU15]; simp
        have xU15_0 : U15.cell? ⟨w7.heap.size,0,none⟩ = some (.int .i64 0) := by rw [hU15]; simp [go_sem]
        have yU15_0 : U15.frozen? ⟨w7.heap.size,0,none⟩ = false := by rw [hU15]; simp [go_sem]
        have xU15_1 : U15.cell? ⟨w7.heap.size,1,none⟩ = some (.slice none 0 0) := by rw [hU15]; simp [go_sem]
        have yU15_1 : U15.frozen? ⟨w7.heap.size,1,none⟩ = false := by rw [hU15]; simp [go_sem]
        have xU15_2 : U15.cell? ⟨w7.heap.size,2,none⟩ = some (.slice none 0 0) := by rw [hU15]; simp [go_sem]
        have yU15_2 : U15.frozen? ⟨w7.heap.size,2,none⟩ = false := by rw [hU15]; simp [go_sem]
        have xU15_3 : U15.cell? ⟨w7.heap.size,3,none⟩ = some (.slice none 0 0) := by rw [hU15]; simp [go_sem]
        have yU15_3 : U15.frozen? ⟨w7.heap.size,3,none⟩ = false := by rw [hU15]; simp [go_sem]
        go_wp2_with fail
        rw [← hU15]
        have BU15 := zaa Bw7 Bx16
        clear hU15
        refine ⟨regrown_of_below BU15,zao rfl ?_⟩
        go_wp2_with fail
        refine ⟨regrown_of_below BU15,?_⟩
        have hg : w7.heap.size < U15.heap.size := by omega
        have bx0 := xU15_0
        have by0 := yU15_0
        have bx1 := xU15_1
        have by1 := yU15_1
        have bx2 := xU15_2
        have by2 := yU15_2
        have bx3 := xU15_3
        have by3 := yU15_3
        have q1 := own2
        replace q1 := q1.below bel9 (by omega)
        replace q1 := q1.below Bx16 (by omega)
        have q3 := OI.os own8
        replace q3 := q3.below Bx16 (by omega)
        refine zbi ?_
        go_wp2_with fail
        try refine ⟨rfl,?_⟩
        go_meet
        obtain ⟨U_,hU_,d0,d1,d2,d3,df,dch,dsz⟩ := box4 bx0 bx1 bx2 bx3 by0 by1 by2 by3 (.int .i64 a0) (.slice AA5 x1.length cc6) (.slice none 0 0) (.slice AA11 x3.length cc12)
        rw [← hU_]
        exact ⟨w7.heap.size,AA5,cc6,AA11,cc12,_,_,_,_,rfl,by omega,by omega,d0,d1,d2,d3,df,sl_O.2 (q1.chg dch (fun b hb (e : b = _) => by have := hb.1; have := hb.2; omega)),tS_O.2 (q3.chg dch (fun b hb (e : b = _) => by have := hb.1; have := hb.2; omega)),BU15.trans (dch.toBelow (fun k (hk : k = _) => by omega) (by omega)),by omega,by omega,by omega,by omega,by omega,by omega⟩
    · obtain ⟨U17,hU17⟩ : ∃ U,U = w1.alloc (.cells #[.int .i64 0,.slice none 0 0,.slice none 0 0,.slice none 0 0] 107) := ⟨_,rfl⟩
      have Bx18 : Below w1.heap.size w1 U17 := by rw [hU17]; exact (Below.refl _ _).alloc (Nat.le_refl _) _
      have sU17 : U17.heap.size = w1.heap.size + 1 := by rw [hU17]; simp
      have xU17_0 : U17.cell? ⟨w1.heap.size,0,none⟩ = some (.int .i64 0) := by rw [hU17]; simp [go_sem]
      have yU17_0 : U17.frozen? ⟨w1.heap.size,0,none⟩ = false := by rw [hU17]; simp [go_sem]
      have xU17_1 : U17.cell? ⟨w1.heap.size,1,none⟩ = some (.slice none 0 0) := by rw [hU17]; simp [go_sem]
      have yU17_1 : U17.frozen? ⟨w1.heap.size,1,none⟩ = false := by rw [hU17]; simp [go_sem]
      have xU17_2 : U17.cell? ⟨w1.heap.size,2,none⟩ = some (.slice none 0 0) := by rw [hU17]; simp [go_sem]
      have yU17_2 : U17.frozen? ⟨w1.heap.size,2,none⟩ = false := by rw [hU17]; simp [go_sem]
      have xU17_3 : U17.cell? ⟨w1.heap.size,3,none⟩ = some (.slice none 0 0) := by rw [hU17]; simp [go_sem]
      have yU17_3 : U17.frozen? ⟨w1.heap.size,3,none⟩ = false := by rw [hU17]; simp [go_sem]
      go_wp2_with fail
      rw [← hU17]
      have BU17 := zaa Bw1 Bx18
      clear hU17
      refine ⟨regrown_of_below BU17,zao rfl ?_⟩
      go_wp2_with fail
      refine (zd1 _ _ _ _ _ (tS_R.1 (tS.later k3 BU17)).ri (by omega)).mono ?_
      rintro e w19 ⟨V22,rfl,own20,bel21⟩
      obtain ⟨AA23,cc24,rfl,-⟩ := own20.shape
      have Bw19 := zaa BU17 bel21
      have sw19 := bel21.size
      go_wp2_with fail
      refine ⟨regrown_of_below Bw19,zao rfl ?_⟩
      go_wp2_with fail
      refine ⟨regrown_of_below Bw19,?_⟩
      have hg : w1.heap.size < w19.heap.size := by omega
      have bx0 : w19.cell? ⟨w1.heap.size,0,none⟩ = some (.int .i64 0) := by rw [bel21.cell (by show w1.heap.size < _; omega)]; exact xU17_0
      have by0 : w19.frozen? ⟨w1.heap.size,0,none⟩ = false := by rw [bel21.frozen (by show w1.heap.size < _; omega)]; exact yU17_0
      have bx1 : w19.cell? ⟨w1.heap.size,1,none⟩ = some (.slice none 0 0) := by rw [bel21.cell (by show w1.heap.size < _; omega)]; exact xU17_1
      have by1 : w19.frozen? ⟨w1.heap.size,1,none⟩ = false := by rw [bel21.frozen (by show w1.heap.size < _; omega)]; exact yU17_1
      have bx2 : w19.cell? ⟨w1.heap.size,2,none⟩ = some (.slice none 0 0) := by rw [bel21.cell (by show w1.heap.size < _; omega)]; exact xU17_2
      have by2 : w19.frozen? ⟨w1.heap.size,2,none⟩ = false := by rw [bel21.frozen (by show w1.heap.size < _; omega)]; exact yU17_2
      have bx3 : w19.cell? ⟨w1.heap.size,3,none⟩ = some (.slice none 0 0) := by rw [bel21.cell (by show w1.heap.size < _; omega)]; exact xU17_3
      have by3 : w19.frozen? ⟨w1.heap.size,3,none⟩ = false := by rw [bel21.frozen (by show w1.heap.size < _; omega)]; exact yU17_3
      have q1 := own2
      replace q1 := q1.below Bx18 (by omega)
      replace q1 := q1.below bel21 (by omega)
      have q3 := OI.os own20
      refine zbi ?_
      go_wp2_with fail
      try refine ⟨rfl,?_⟩
      go_meet
      obtain ⟨U_,hU_,d0,d1,d2,d3,df,dch,dsz⟩ := box4 bx0 bx1 bx2 bx3 by0 by1 by2 by3 (.int .i64 a0) (.slice AA5 x1.length cc6) (.slice none 0 0) (.slice AA23 x3.length cc24)
      rw [← hU_]
      exact ⟨w1.heap.size,AA5,cc6,AA23,cc24,_,_,_,_,rfl,by omega,by omega,d0,d1,d2,d3,df,sl_O.2 (q1.chg dch (fun b hb (e : b = _) => by have := hb.1; have := hb.2; omega)),tS_O.2 (q3.chg dch (fun b hb (e : b = _) => by have := hb.1; have := hb.2; omega)),Bw19.trans (dch.toBelow (fun k (hk : k = _) => by omega) (by omega)),by omega,by omega,by omega,by omega,by omega,by omega⟩
  · obtain ⟨U25,hU25⟩ : ∃ U,U = (W.alloc (.cells #[.int .i64 0,.slice none 0 0,.slice none 0 0,.slice none 0 0] 107)).drew := ⟨_,rfl⟩
    have Bx26 : Below W.heap.size W U25 := by rw [hU25]; exact zac ((Below.refl _ _).alloc (Nat.le_refl _) _) 1
    have sU25 : U25.heap.size = W.heap.size + 1 := by rw [hU25]; simp
    have xU25_0 : U25.cell? ⟨W.heap.size,0,none⟩ = some (.int .i64 0) := by rw [hU25]; simp [go_sem]
    have yU25_0 : U25.frozen? ⟨W.heap.size,0,none⟩ = false := by rw [hU25]; simp [go_sem]
    have xU25_1 : U25.cell? ⟨W.heap.size,1,none⟩ = some (.slice none 0 0) := by rw [hU25]; simp [go_sem]
    have yU25_1 : U25.frozen? ⟨W.heap.size,1,none⟩ = false := by rw [hU25]; simp [go_sem]
    have xU25_2 : U25.cell? ⟨W.heap.size,2,none⟩ = some (.slice none 0 0) := by rw [hU25]; simp [go_sem]
    have yU25_2 : U25.frozen? ⟨W.heap.size,2,none⟩ = false := by rw [hU25]; simp [go_sem]
    have xU25_3 : U25.cell? ⟨W.heap.size,3,none⟩ = some (.slice none 0 0) := by rw [hU25]; simp [go_sem]
    have yU25_3 : U25.frozen? ⟨W.heap.size,3,none⟩ = false := by rw [hU25]; simp [go_sem]
    go_wp2_with fail
    rw [← hU25]
    have BU25 := Bx26
    clear hU25
    refine ⟨regrown_of_below BU25,zao rfl ?_⟩
    go_wp2_with fail
    refine (zgz _ _ _ _ _ (tSS.later k1 BU25) z1).mono ?_
    rintro e w27 ⟨V30,rfl,own28,bel29⟩
    obtain ⟨AA31,cc32,rfl⟩ := own28.shape
    have Bw27 := zaa BU25 bel29
    have sw27 := bel29.size
    go_wp2_with fail
    refine ⟨regrown_of_below Bw27,zao rfl ?_⟩
    go_wp2_with fail
    refine (zd1 _ _ _ _ _ (tS_R.1 (tS.later k3 Bw27)).ri (by omega)).mono ?_
    rintro e w33 ⟨V36,rfl,own34,bel35⟩
    obtain ⟨AA37,cc38,rfl,-⟩ := own34.shape
    have Bw33 := zaa Bw27 bel35
    have sw33 := bel35.size
    go_wp2_with fail
    refine ⟨regrown_of_below Bw33,zao rfl ?_⟩
    go_wp2_with fail
    refine ⟨regrown_of_below Bw33,?_⟩
    have hg : W.heap.size < w33.heap.size := by omega
    have bx0 : w33.cell? ⟨W.heap.size,0,none⟩ = some (.int .i64 0) := by rw [bel35.cell (by show W.heap.size < _; omega),bel29.cell (by show W.heap.size < _; omega)]; exact xU25_0
    have by0 : w33.frozen? ⟨W.heap.size,0,none⟩ = false := by rw [bel35.frozen (by show W.heap.size < _; omega),bel29.frozen (by show W.heap.size < _; omega)]; exact yU25_0
    have bx1 : w33.cell? ⟨W.heap.size,1,none⟩ = some (.slice none 0 0) := by rw [bel35.cell (by show W.heap.size < _; omega),bel29.cell (by show W.heap.size < _; omega)]; exact xU25_1
    have by1 : w33.frozen? ⟨W.heap.size,1,none⟩ = false := by rw [bel35.frozen (by show W.heap.size < _; omega),bel29.frozen (by show W.heap.size < _; omega)]; exact yU25_1
    have bx2 : w33.cell? ⟨W.heap.size,2,none⟩ = some (.slice none 0 0) := by rw [bel35.cell (by show W.heap.size < _; omega),bel29.cell (by show W.heap.size < _; omega)]; exact xU25_2
    have by2 : w33.frozen? ⟨W.heap.size,2,none⟩ = false := by rw [bel35.frozen (by show W.heap.size < _; omega),bel29.frozen (by show W.heap.size < _; omega)]; exact yU25_2
    have bx3 : w33.cell? ⟨W.heap.size,3,none⟩ = some (.slice none 0 0) := by rw [bel35.cell (by show W.heap.size < _; omega),bel29.cell (by show W.heap.size < _; omega)]; exact xU25_3
    have by3 : w33.frozen? ⟨W.heap.size,3,none⟩ = false := by rw [bel35.frozen (by show W.heap.size < _; omega),bel29.frozen (by show W.heap.size < _; omega)]; exact yU25_3
    have q1 := own28
    replace q1 := q1.below bel35 (by omega)
    have q3 := OI.os own34
    refine zbi ?_
    go_wp2_with fail
    try refine ⟨rfl,?_⟩
    go_meet
    obtain ⟨U_,hU_,d0,d1,d2,d3,df,dch,dsz⟩ := box4 bx0 bx1 bx2 bx3 by0 by1 by2 by3 (.int .i64 a0) (.slice AA31 x1.length cc32) (.slice none 0 0) (.slice AA37 x3.length cc38)
    rw [← hU_]
    exact ⟨W.heap.size,AA31,cc32,AA37,cc38,_,_,_,_,rfl,by omega,by omega,d0,d1,d2,d3,df,sl_O.2 (q1.chg dch (fun b hb (e : b = _) => by have := hb.1; have := hb.2; omega)),tS_O.2 (q3.chg dch (fun b hb (e : b = _) => by have := hb.1; have := hb.2; omega)),Bw33.trans (dch.toBelow (fun k (hk : k = _) => by omega) (by omega)),by omega,by omega,by omega,by omega,by omega,by omega⟩
 case rest =>
  obtain ⟨w0,rfl⟩ : ∃ u_ : World,u_ = wc := ⟨_,rfl⟩
  obtain ⟨g,A1',c1',A3',c3',l1,u1,l3,u3,rfl,hg1,hg2,d0,d1,d2,d3,df,o1,o3,BW,s1,s2,s3,s4_,s5_,sg⟩ := hcut
  have sW := BW.size
  replace r0 : w0.cell? ⟨w.heap.size + 1,0,none⟩ = some (.int .i64 0) := by rw [BW.cell (by show w.heap.size + 1 < _; omega)]; exact r0
  replace rf0 : w0.frozen? ⟨w.heap.size + 1,0,none⟩ = false := by rw [BW.frozen (by show w.heap.size + 1 < _; omega)]; exact rf0
  replace r1 : w0.cell? ⟨w.heap.size + 1,1,none⟩ = some (.slice none 0 0) := by rw [BW.cell (by show w.heap.size + 1 < _; omega)]; exact r1
  replace rf1 : w0.frozen? ⟨w.heap.size + 1,1,none⟩ = false := by rw [BW.frozen (by show w.heap.size + 1 < _; omega)]; exact rf1
  replace r2 : w0.cell? ⟨w.heap.size + 1,2,none⟩ = some (.slice none 0 0) := by rw [BW.cell (by show w.heap.size + 1 < _; omega)]; exact r2
  replace rf2 : w0.frozen? ⟨w.heap.size + 1,2,none⟩ = false := by rw [BW.frozen (by show w.heap.size + 1 < _; omega)]; exact rf2
  replace r3 : w0.cell? ⟨w.heap.size + 1,3,none⟩ = some (.slice none 0 0) := by rw [BW.cell (by show w.heap.size + 1 < _; omega)]; exact r3
  replace rf3 : w0.frozen? ⟨w.heap.size + 1,3,none⟩ = false := by rw [BW.frozen (by show w.heap.size + 1 < _; omega)]; exact rf3
  replace p2 : w0.cell? ⟨w.heap.size,2,none⟩ = some (.slice A2 n2 c2) := by rw [BW.cell (by show w.heap.size < _; omega)]; exact p2
  have k4 := sl_R.1 k2
  have B00 := zaa B0 BW
  have hl2 := Lib.hid (sl_R.1 k2).cap.1
  have df2 := df 2 (by omega)
  clear p0 p1 p3 pp0 pp1 pp3 D1 hd0 k1 k3 HW k2
  go_wp2_with fail
  go_loopw [18] (fun i wr => ∃ (k : Nat) (v : Value),i = .int .i64 k ∧ k ≤ n2 ∧ OS tN 171 wr (Iv w0.heap.size wr.heap.size) v (x2.take k) ∧ Gr g 2 w0 wr v) (fun i _ => n2 - (intOf i).toNat)
  case atStart => exact ⟨0,_,rfl,by omega,OS.nil _ _ _ _,Gr.start d2⟩
  case round =>
   obtain ⟨k,v,rfl,hk,own,G⟩ := hrel
   have sr := G.chg.size
   have Bwr : Below W.heap.size W wr := BW.trans (G.chg.toBelow (fun b (hb : b = g) => by omega) (by omega))
   by_cases hlt : k < n2
   · obtain ⟨bb,o,b0,b1,b2,A5,c5,y3,rfl,hbb,X,e0,e1,e2,e3,hr3,h3b⟩ := zds (k4.below Bwr) z2 hlt
     have hbw : bb < wr.heap.size := by omega
     obtain ⟨V,hV⟩ : ∃ V,V = wr.alloc (.cells #[.int .i64 b0,.int .i64 b1,.int .i64 b2,.slice A5 y3.length c5] 171) := ⟨_,rfl⟩
     have BV : Below wr.heap.size wr V := by rw [hV]; exact (Below.refl _ _).alloc (Nat.le_refl _) _
     have sV : V.heap.size = wr.heap.size + 1 := by rw [hV]; simp
     have n0 : V.cell? ⟨wr.heap.size,0,none⟩ = some (.int .i64 b0) := by rw [hV]; simp [go_sem]
     have n1 : V.cell? ⟨wr.heap.size,1,none⟩ = some (.int .i64 b1) := by rw [hV]; simp [go_sem]
     have n2_ : V.cell? ⟨wr.heap.size,2,none⟩ = some (.int .i64 b2) := by rw [hV]; simp [go_sem]
     have n3_ : V.cell? ⟨wr.heap.size,3,none⟩ = some (.slice A5 y3.length c5) := by rw [hV]; simp [go_sem]
     have hvg : V.cell? ⟨g,2,none⟩ = some v := by rw [BV.cell (by show g < _; omega)]; exact G.cel
     have m0 := cell_regrown n0
     have m1 := cell_regrown n1
     have m2 := cell_regrown n2_
     have m3 := cell_regrown n3_
     have mg := cell_regrown hvg
     have HV := Lib.hid hV
     have DV : Below wr.heap.size wr V.drew := zac BV 1
     have DD : Below V.heap.size V V.drew := zac (Below.refl _ _) 1
     have hdv : V.drew.heap.size = V.heap.size := rfl
     have hri := (hr3.more (by omega)).later DV
     have hpt := Lib.hid (M.take_at X.out)
     have hxl : (x2.take k).length ≤ 100000000 := by rw [List.length_take]; omega
     clear hV
     go_wp2_with fail
     rw [← HV.out]
     (refine zcq [0] [1,2] 2 (.one 3 (.one 4 .rest)) [5,6,7] (by kernel_rfl) (by kernel_rfl) ?_; simp only [zaj]; simp only [List.filterMap,List.getElem?_cons_succ,List.getElem?_cons_zero]; (repeat (go_big_quiet_step (fail))); refine wpQuiet_nil ?_; (repeat (go_big_quiet_step (fail))); refine wpQuiet_nil ?_)
     refine zao rfl ?_
     go_wp2_with fail
     refine (ztd _ _ _ _ _ _ _ _ hri (by omega)).mono ?_
     rintro e w2 ⟨A6,n6,c6,rfl,on,bel2⟩
     have s2_ := bel2.size
     have Bw2 := zaa DV bel2
     have own2 := own.below Bw2 (Nat.le_refl _)
     have G2 := G.below Bw2 (by omega)
     have BVw := zaa DD bel2
     go_wp2_with fail
     refine ⟨regrown_of_below BVw,zao rfl ?_⟩
     go_wp2_with fail
     refine ⟨regrown_of_below (zaa BVw ((Below.refl _ _).alloc (Nat.le_refl _) _)),zbi ?_⟩
     go_wp2_with (at_builtin; refine zca ziv #[.int .i64 b0,.int .i64 b1,.int .i64 b2,.slice A6 n6 c6] rfl _ _ rfl own2 on (Iv.apart (by omega)) rfl rfl (by unfold maxLen; omega) (by omega) ?_; intro v3 w4 own4 ch4; obtain ⟨A7,c7,e7⟩ := own4.shape; obtain ⟨n7,hn7⟩ : ∃ n7,n7 = (x2.take k ++ [(b0,b1,b2,y3)]).length := ⟨_,rfl⟩; rw [← hn7] at e7; subst e7; have HN7 := Lib.hid hn7; clear hn7; have G4 := G2.row ch4 (by omega) (fun b hb => ⟨hb.1,by have := hb.1; omega⟩); have hc4 := G4.cel; have hf4 : w4.frozen? ⟨g,2,none⟩ = false := (by rw [G4.fro]; exact df2))
     go_roundw
     case rel =>
      have s4 := ch4.size
      refine ⟨k + 1,_,by go_num,by omega,?_,G4.set df2 _⟩
      rw [hpt.out]
      refine (own4.chg (Chg.set (F := fun b => b = g) w4 g 2 _ rfl) (fun b hb (e : b = g) => ?_)).wide (fun b hb => ?_)
      · rcases hb with hb | hb | hb
        · have := hb.1; omega
        · have := hb.1; omega
        · omega
      · have e9 : (w4.setCell ⟨g,2,none⟩ (.slice A7 n7 c7)).heap.size = w4.heap.size := by simp
        rcases hb with hb | hb | hb
        · exact ⟨hb.1,by have := hb.2; omega⟩
        · exact ⟨by have := hb.1; omega,by have := hb.2; omega⟩
        · exact ⟨by omega,by omega⟩
     case measure => simp [intOf]; omega
   · obtain rfl : k = n2 := by omega
     rw [List.take_of_length_le (by rw [hl2.out]; exact Nat.le_refl _)] at own
     have b0 : wr.cell? ⟨g,0,none⟩ = some (.int .i64 a0) := by rw [G.oth 0 (by decide)]; exact d0
     have b1 : wr.cell? ⟨g,1,none⟩ = some (.slice A1' x1.length c1') := by rw [G.oth 1 (by decide)]; exact d1
     have b2 := G.cel
     have b3 : wr.cell? ⟨g,3,none⟩ = some (.slice A3' x3.length c3') := by rw [G.oth 3 (by decide)]; exact d3
     have R0 : wr.cell? ⟨w.heap.size + 1,0,none⟩ = some (.int .i64 0) := by rw [G.chg.cell (by omega) (by omega)]; exact r0
     have S0 : wr.frozen? ⟨w.heap.size + 1,0,none⟩ = false := by rw [G.chg.frozen (by omega) (by omega)]; exact rf0
     have R1 : wr.cell? ⟨w.heap.size + 1,1,none⟩ = some (.slice none 0 0) := by rw [G.chg.cell (by omega) (by omega)]; exact r1
     have S1 : wr.frozen? ⟨w.heap.size + 1,1,none⟩ = false := by rw [G.chg.frozen (by omega) (by omega)]; exact rf1
     have R2 : wr.cell? ⟨w.heap.size + 1,2,none⟩ = some (.slice none 0 0) := by rw [G.chg.cell (by omega) (by omega)]; exact r2
     have S2 : wr.frozen? ⟨w.heap.size + 1,2,none⟩ = false := by rw [G.chg.frozen (by omega) (by omega)]; exact rf2
     have R3 : wr.cell? ⟨w.heap.size + 1,3,none⟩ = some (.slice none 0 0) := by rw [G.chg.cell (by omega) (by omega)]; exact r3
     have S3 : wr.frozen? ⟨w.heap.size + 1,3,none⟩ = false := by rw [G.chg.frozen (by omega) (by omega)]; exact rf3
     obtain ⟨A2',c2',rfl⟩ := own.shape
     have oq1 : tSS.O wr (Iv l1 u1) [.slice A1' x1.length c1'] x1 := sl_O.2 ((sl_O.1 o1).chg G.chg (fun b hb (e : b = g) => by have := hb.1; have := hb.2; omega))
     have oq3 : tS.O wr (Iv l3 u3) [.slice A3' x3.length c3'] x3 := tS_O.2 ((tS_O.1 o3).chg G.chg (fun b hb (e : b = g) => by have := hb.1; have := hb.2; omega))
     obtain ⟨U_,hU_,y0,y1,y2,y3,yf,ych,ysz⟩ := box4 R0 R1 R2 R3 S0 S1 S2 S3 (.int .i64 a0) (.slice A1' x1.length c1') (.slice A2' x2.length c2') (.slice A3' x3.length c3')
     have HU := Lib.hid hU_
     clear hU_
     go_wp2
     rw [← HU.out]
     have y5 := yf 0 (by omega)
     have y6 := yf 1 (by omega)
     have y7 := yf 2 (by omega)
     have y8 := yf 3 (by omega)
     refine bodyPost_ret (v := .agg #[.int .i64 a0,.slice A1' x1.length c1',.slice A2' x2.length c2',.slice A3' x3.length c3']) (by simp [results,Tryz.results181,go_sem,y0,y1,y2,y3,y5,y6,y7,y8]) rfl ?_
     have hz : ∀ b,b ≠ w.heap.size + 1 → ¬ (fun b => b = w.heap.size + 1) b := fun b h => h
     refine ⟨A1',x1.length,c1',A2',x2.length,c2',A3',x3.length,c3',rfl,tP_O.2 ⟨_,_,_,_,_,_,_,_,_,Iv l1 u1,Iv w0.heap.size wr.heap.size,Iv l3 u3,rfl,tSS.ochg oq1 ych (fun b hb (e : b = _) => by have := hb.1; omega),tNS.ochg (sl_O.2 own) ych (fun b hb (e : b = _) => by have := hb.1; omega),tS.ochg oq3 ych (fun b hb (e : b = _) => by have := hb.1; omega),Iv.mono (by omega) (by omega),Iv.mono (by omega) (by omega),Iv.mono (by omega) (by omega),fun b hb hb2 => by have := hb.2; have := hb2.1; omega,fun b hb hb2 => by have := hb.2; have := hb2.1; omega,fun b hb hb2 => by have := hb2.2; have := hb.1; omega⟩,?_⟩
     exact (zaa B0 Bwr).trans (ych.toBelow (fun b (hb : b = _) => by omega) (by omega))
end
section
open Go.RowKit Go.Sort
theorem zuv (vb vo : Nat) (a0 : Int) (A1 : Option Addr) (n1 c1 : Nat) (A2 : Option Addr) (n2 c2 : Nat) (A3 : Option Addr) (n3 c3 : Nat) (x1 : List (List Int)) (x2 : List Node) (x3 : List Int) (w : World) (e0 : w.cell? ⟨vb,vo,none⟩ = some (.int .i64 a0)) (e1 : w.cell? ⟨vb,vo + 1,none⟩ = some (.slice A1 n1 c1)) (e2 : w.cell? ⟨vb,vo + 2,none⟩ = some (.slice A2 n2 c2)) (e3 : w.cell? ⟨vb,vo + 3,none⟩ = some (.slice A3 n3 c3)) (h1 : tSS.R w w.heap.size [.slice A1 n1 c1] x1) (h2 : tNS.R w w.heap.size [.slice A2 n2 c2] x2) (h3 : tS.R w w.heap.size [.slice A3 n3 c3] x3) (hn : hP.sz ((a0,x1,x2,x3) : zad) ≤ 100000000) :
 Calls Tryz.prog 179 #[.pointer (some ⟨vb,vo,none⟩)] w fun e w' => ∃ A1' n1' c1' A2' n2' c2' A3' n3' c3',e = .returned (.agg #[.int .i64 a0,.slice A1' n1' c1',.slice A2' n2' c2',.slice A3' n3' c3']) ∧ tP.O w' (Iv w.heap.size w'.heap.size) [.int .i64 a0,.slice A1' n1' c1',.slice A2' n2' c2',.slice A3' n3' c3'] (a0,x1,x2,x3) ∧ Below w.heap.size w w' := by
 have lv : vb < w.heap.size := World.block_lt_of_cell? w _ e0
 obtain ⟨W,hW,B0,sW,r0,r1,r2,r3,rf⟩ := zdm w (.int .i64 0) (.slice none 0 0) (.slice none 0 0) (.slice none 0 0) 107
 have HW := Lib.hid hW
 have lW : w.heap.size < W.heap.size := by omega
 clear hW sW
 have k1 := tSS.later h1 B0
 have k2 := tNS.later h2 B0
 have k3 := tS.later h3 B0
 have L1 := Lib.hid (sl_R.1 k1).cap.1
 have L2 := Lib.hid (sl_R.1 k2).cap.1
 have L3 := Lib.hid (zc0 k3)
 rw [zc6] at hn
 have z1 : hSS.sz x1 ≤ 100000000 := by omega
 have z2 : hNS.sz x2 ≤ 100000000 := by omega
 have z3 : x3.length ≤ 100000000 := by rw [zbl] at hn; omega
 have hb1 : Hid (∀ x ∈ x1,x.length ≤ 1000000000) := Lib.hid (fun x hx => by
  obtain ⟨i,hi⟩ := List.getElem?_of_mem hx
  have := hS.szL_at hi
  have e : x1.length + hS.szL x1 = hSS.sz x1 := rfl
  rw [zbl] at this
  omega)
 have bn1 : n1 ≤ 100000000 := by have e : x1.length + hS.szL x1 = hSS.sz x1 := rfl; have := L1.out; omega
 have bn2 : n2 ≤ 100000000 := by have e : x2.length + hN.szL x2 = hNS.sz x2 := rfl; have := L2.out; omega
 have bn3 : n3 ≤ 100000000 := by have := L3.out; omega
 have f0 : W.cell? ⟨vb,vo,none⟩ = some (.int .i64 a0) := by rw [B0.cell (by show vb < _; omega)]; exact e0
 have f1 : W.cell? ⟨vb,vo + 1,none⟩ = some (.slice A1 n1 c1) := by rw [B0.cell (by show vb < _; omega)]; exact e1
 have f2 : W.cell? ⟨vb,vo + 2,none⟩ = some (.slice A2 n2 c2) := by rw [B0.cell (by show vb < _; omega)]; exact e2
 have f3 : W.cell? ⟨vb,vo + 3,none⟩ = some (.slice A3 n3 c3) := by rw [B0.cell (by show vb < _; omega)]; exact e3
 have lvW : vb < W.heap.size := by omega
 have pp0 := cell_regrown f0
 have pp3 := cell_regrown f3
 have D1 : Below W.heap.size W W.drew := zac (Below.refl _ _) 1
 have hd0 : W.drew.heap.size = W.heap.size := rfl
 clear h1 h2 h3 hn e0 e1 e2 e3
 go_enter Tryz.func179,Tryz.ntmps179
 go_wp2_with fail
 rw [← HW.out]
 go_cut [3] (fun q3 wx => ∃ (g : Nat) (A3' : Option Addr) (c3' l3 u3 : Nat),q3 = .pointer (some ⟨g,0,none⟩) ∧ W.heap.size ≤ g ∧ g < wx.heap.size ∧ wx.cell? ⟨g,0,none⟩ = some (.int .i64 a0) ∧ wx.cell? ⟨g,1,none⟩ = some (.slice none 0 0) ∧ wx.cell? ⟨g,2,none⟩ = some (.slice none 0 0) ∧ wx.cell? ⟨g,3,none⟩ = some (.slice A3' x3.length c3') ∧ (∀ j,j < 4 → wx.frozen? ⟨g,j,none⟩ = false) ∧ tS.O wx (Iv l3 u3) [.slice A3' x3.length c3'] x3 ∧ Below W.heap.size W wx ∧ W.heap.size ≤ l3 ∧ l3 ≤ u3 ∧ u3 ≤ wx.heap.size ∧ (g < l3 ∨ u3 ≤ g))
 case first =>
  clear f1 f2 r0 r1 r2 r3 rf k1 k2
  go_wp2_with fail
  (refine zcq [0,1,2,4,5,6] [3,7] 3 (.two 8 (.two 9 (.one 10 .rest) 10 (.one 9 .rest)) 10 (.one 8 (.one 9 .rest))) [11] (by kernel_rfl) (by kernel_rfl) ?_; simp only [zaj]; simp only [List.filterMap,List.getElem?_cons_succ,List.getElem?_cons_zero]; (repeat (go_big_quiet_step (fail))); refine wpQuiet_nil ?_; (repeat (go_big_quiet_step (fail))); refine wpQuiet_nil ?_)
  refine zc9 rfl rfl ?_ ?_
  · go_wp2_with fail
    refine (zfb _ _ _ _ _ (tS_R.1 (tS.later k3 D1)).ri (by omega)).mono ?_
    rintro e w2 ⟨v4,rfl,own1,bel1⟩
    obtain ⟨A4,c4,rfl,-⟩ := own1.shape
    have s1 := bel1.size
    have B2 := zaa D1 bel1
    go_wp2_with fail
    refine ⟨regrown_of_below B2,zc9 rfl rfl ?_ ?_⟩
    · go_wp2_with fail
      refine ⟨regrown_of_below B2,zao rfl ?_⟩
      obtain ⟨U,hU,BU,sU,x0,x1_,x2_,x3_,xf⟩ := zdm w2 (.int .i64 0) (.slice none 0 0) (.slice none 0 0) (.slice none 0 0) 107
      have B3 := zaa B2 BU
      go_wp2_with fail
      rw [← hU]
      clear hU
      refine ⟨regrown_of_below B3,zbi ?_⟩
      go_wp2_with fail
      try refine ⟨rfl,?_⟩
      go_meet
      obtain ⟨U_,hU_,d0,d1,d2,d3,df,dch,dsz⟩ := box4 x0 x1_ x2_ x3_ (xf 0) (xf 1) (xf 2) (xf 3) (.int .i64 a0) (.slice none 0 0) (.slice none 0 0) (.slice A4 x3.length c4)
      rw [← hU_]
      exact ⟨w2.heap.size,A4,c4,_,_,rfl,by omega,by omega,d0,d1,d2,d3,df,tS_O.2 (((OI.os own1).below BU (by omega)).chg dch (fun b hb (e : b = _) => by have := hb.1; have := hb.2; omega)),B3.trans (dch.toBelow (fun k (hk : k = _) => by omega) (by omega)),by omega,by omega,by omega,by omega⟩
    · obtain ⟨U,hU,BU,sU,x0,x1_,x2_,x3_,xf⟩ := zdm w2 (.int .i64 0) (.slice none 0 0) (.slice none 0 0) (.slice none 0 0) 107
      have B3 := zaa B2 BU
      go_wp2_with fail
      rw [← hU]
      clear hU
      refine ⟨regrown_of_below B3,zao rfl ?_⟩
      go_wp2_with fail
      refine ⟨regrown_of_below B3,zbi ?_⟩
      go_wp2_with fail
      try refine ⟨rfl,?_⟩
      go_meet
      obtain ⟨U_,hU_,d0,d1,d2,d3,df,dch,dsz⟩ := box4 x0 x1_ x2_ x3_ (xf 0) (xf 1) (xf 2) (xf 3) (.int .i64 a0) (.slice none 0 0) (.slice none 0 0) (.slice A4 x3.length c4)
      rw [← hU_]
      exact ⟨w2.heap.size,A4,c4,_,_,rfl,by omega,by omega,d0,d1,d2,d3,df,tS_O.2 (((OI.os own1).below BU (by omega)).chg dch (fun b hb (e : b = _) => by have := hb.1; have := hb.2; omega)),B3.trans (dch.toBelow (fun k (hk : k = _) => by omega) (by omega)),by omega,by omega,by omega,by omega⟩
  · obtain ⟨U,hU,BU,sU,x0,x1_,x2_,x3_,xf⟩ := zdm W (.int .i64 0) (.slice none 0 0) (.slice none 0 0) (.slice none 0 0) 107
    have BD : Below W.heap.size W U.drew := zac BU 1
    replace x0 : U.drew.cell? ⟨W.heap.size,0,none⟩ = _ := x0
    replace x1_ : U.drew.cell? ⟨W.heap.size,1,none⟩ = _ := x1_
    replace x2_ : U.drew.cell? ⟨W.heap.size,2,none⟩ = _ := x2_
    replace x3_ : U.drew.cell? ⟨W.heap.size,3,none⟩ = _ := x3_
    replace xf : ∀ j,U.drew.frozen? ⟨W.heap.size,j,none⟩ = false := xf
    have sD : U.drew.heap.size = W.heap.size + 1 := sU
    obtain ⟨V,hV⟩ : ∃ V,V = U.drew := ⟨_,rfl⟩
    rw [← hV] at x0 x1_ x2_ x3_ xf BD sD
    rw [hU] at hV
    go_wp2_with fail
    rw [← hV]
    clear hV hU BU sU
    refine ⟨regrown_of_below BD,zao rfl ?_⟩
    go_wp2_with fail
    refine (zfb _ _ _ _ _ (tS_R.1 (tS.later k3 BD)).ri (by omega)).mono ?_
    rintro e w2 ⟨v4,rfl,own1,bel1⟩
    obtain ⟨A4,c4,rfl,-⟩ := own1.shape
    have s1 := bel1.size
    have B2 := zaa BD bel1
    go_wp2_with fail
    refine ⟨regrown_of_below B2,zao rfl ?_⟩
    go_wp2_with fail
    refine ⟨regrown_of_below B2,zbi ?_⟩
    have za0 := (bel1.cell (by show W.heap.size < _; omega)).trans x0
    have zb0 := (bel1.frozen (by show W.heap.size < _; omega)).trans (xf 0)
    have za1 := (bel1.cell (by show W.heap.size < _; omega)).trans x1_
    have zb1 := (bel1.frozen (by show W.heap.size < _; omega)).trans (xf 1)
    have za2 := (bel1.cell (by show W.heap.size < _; omega)).trans x2_
    have zb2 := (bel1.frozen (by show W.heap.size < _; omega)).trans (xf 2)
    have za3 := (bel1.cell (by show W.heap.size < _; omega)).trans x3_
    have zb3 := (bel1.frozen (by show W.heap.size < _; omega)).trans (xf 3)
    go_wp2_with fail
    try refine ⟨rfl,?_⟩
    go_meet
    obtain ⟨U_,hU_,d0,d1,d2,d3,df,dch,dsz⟩ := box4 za0 za1 za2 za3 zb0 zb1 zb2 zb3 (.int .i64 a0) (.slice none 0 0) (.slice none 0 0) (.slice A4 x3.length c4)
    rw [← hU_]
    exact ⟨W.heap.size,A4,c4,_,_,rfl,by omega,by omega,d0,d1,d2,d3,df,tS_O.2 ((OI.os own1).chg dch (fun b hb (e : b = _) => by have := hb.1; have := hb.2; omega)),B2.trans (dch.toBelow (fun k (hk : k = _) => by omega) (by omega)),by omega,by omega,by omega,by omega⟩
 case rest =>
  obtain ⟨w0,rfl⟩ : ∃ u_ : World,u_ = wc := ⟨_,rfl⟩
  obtain ⟨g,A3',c3',l3,u3,rfl,hg1,hg2,d0,d1,d2,d3,df,o3,BW,s3,s4_,s5_,sg⟩ := hcut
  have sW0 := BW.size
  replace r0 : w0.cell? ⟨w.heap.size,0,none⟩ = some (.int .i64 0) := by rw [BW.cell (by show w.heap.size < _; omega)]; exact r0
  replace r1 : w0.cell? ⟨w.heap.size,1,none⟩ = some (.slice none 0 0) := by rw [BW.cell (by show w.heap.size < _; omega)]; exact r1
  replace r2 : w0.cell? ⟨w.heap.size,2,none⟩ = some (.slice none 0 0) := by rw [BW.cell (by show w.heap.size < _; omega)]; exact r2
  replace r3 : w0.cell? ⟨w.heap.size,3,none⟩ = some (.slice none 0 0) := by rw [BW.cell (by show w.heap.size < _; omega)]; exact r3
  replace rf : ∀ j,w0.frozen? ⟨w.heap.size,j,none⟩ = false := fun j => by rw [BW.frozen (by show w.heap.size < _; omega)]; exact rf j
  replace f1 : w0.cell? ⟨vb,vo + 1,none⟩ = some (.slice A1 n1 c1) := by rw [BW.cell (by show vb < _; omega)]; exact f1
  replace f2 : w0.cell? ⟨vb,vo + 2,none⟩ = some (.slice A2 n2 c2) := by rw [BW.cell (by show vb < _; omega)]; exact f2
  have k4 := sl_R.1 k1
  have k5 := sl_R.1 k2
  have df1 := df 1 (by omega)
  have df2 := df 2 (by omega)
  clear f0 f3 pp0 pp3 D1 hd0 k1 k2 k3 HW
  go_wp2_with fail
  go_loopw [4] (fun i wr => ∃ (k : Nat) (v : Value),i = .int .i64 k ∧ k ≤ n1 ∧ OS tS 24 wr (Iv w0.heap.size wr.heap.size) v (x1.take k) ∧ Gr g 1 w0 wr v) (fun i _ => n1 - (intOf i).toNat)
  case atStart => exact ⟨0,_,rfl,by omega,OS.nil _ _ _ _,Gr.start d1⟩
  case round =>
   obtain ⟨k,v,rfl,hk,own,G⟩ := hrel
   have sr := G.chg.size
   have Bwr : Below W.heap.size W wr := BW.trans (G.chg.toBelow (fun b (hb : b = g) => by omega) (by omega))
   have q1 : wr.cell? ⟨vb,vo + 1,none⟩ = some (.slice A1 n1 c1) := by rw [G.chg.cell (by omega) (by omega)]; exact f1
   by_cases hlt : k < n1
   · obtain ⟨bb,o,A5,c5,x,rfl,hbb,X,hc,hri,hxl2⟩ := zdr (k4.below Bwr) hb1 hlt
     have m1 := cell_regrown q1
     have m2 := cell_regrown hc
     have m3 := cell_regrown G.cel
     have DV : Below wr.heap.size wr wr.drew := zac (Below.refl _ _) 1
     have hdv : wr.drew.heap.size = wr.heap.size := rfl
     have hri2 := (hri.more (by omega)).later DV
     have hpt := Lib.hid (M.take_at X.out)
     have hx9 := hb1.out x (List.mem_of_getElem? X.out)
     have hxl : (x1.take k).length ≤ 100000000 := by rw [List.length_take]; omega
     go_wp2_with fail
     (refine zcq [0,2,3,4,6] [1,5,7,8] 2 (.one 9 (.one 10 .rest)) [11,12,13] (by kernel_rfl) (by kernel_rfl) ?_; simp only [zaj]; simp only [List.filterMap,List.getElem?_cons_succ,List.getElem?_cons_zero]; (repeat (go_big_quiet_step (fail))); refine wpQuiet_nil ?_; (repeat (go_big_quiet_step (fail))); refine wpQuiet_nil ?_)
     refine zao rfl ?_
     go_wp2_with fail
     refine (zfb _ _ _ _ _ hri2 (by omega)).mono ?_
     rintro e w2 ⟨v1,rfl,on,bel2⟩
     obtain ⟨A6,c6,rfl,-⟩ := on.shape
     have s2_ := bel2.size
     have Bw2 := zaa DV bel2
     have own2 := own.below Bw2 (Nat.le_refl _)
     have G2 := G.below Bw2 (by omega)
     have os2 := tS_O.2 (OI.os on)
     go_wp2_with fail
     refine ⟨regrown_of_below Bw2,zao rfl ?_⟩
     go_wp2_with fail
     refine ⟨regrown_of_below (zaa Bw2 ((Below.refl _ _).alloc (Nat.le_refl _) _)),zbi ?_⟩
     go_wp2_with (at_builtin; refine zca ei_S #[.slice A6 x.length c6] rfl _ _ rfl own2 os2 (Iv.apart (by omega)) rfl rfl (by unfold maxLen; omega) (by omega) ?_; intro v3 w4 own4 ch4; obtain ⟨A7,c7,e7⟩ := own4.shape; obtain ⟨n7,hn7⟩ : ∃ n7,n7 = (x1.take k ++ [x]).length := ⟨_,rfl⟩; rw [← hn7] at e7; subst e7; have HN7 := Lib.hid hn7; clear hn7; have G4 := G2.row ch4 (by omega) (fun b hb => ⟨hb.1,by have := hb.1; omega⟩); have hc4 := G4.cel; have hf4 : w4.frozen? ⟨g,1,none⟩ = false := (by rw [G4.fro]; exact df1))
     go_roundw
     case rel =>
      have s4 := ch4.size
      refine ⟨k + 1,_,by go_num,by omega,?_,G4.set df1 _⟩
      rw [hpt.out]
      refine (own4.chg (Chg.set (F := fun b => b = g) w4 g 1 _ rfl) (fun b hb (e : b = g) => ?_)).wide (fun b hb => ?_)
      · rcases hb with hb | hb | hb
        · have := hb.1; omega
        · have := hb.1; omega
        · omega
      · have e9 : (w4.setCell ⟨g,1,none⟩ (.slice A7 n7 c7)).heap.size = w4.heap.size := by simp
        rcases hb with hb | hb | hb
        · exact ⟨hb.1,by have := hb.2; omega⟩
        · exact ⟨by have := hb.1; omega,by have := hb.2; omega⟩
        · exact ⟨by omega,by omega⟩
     case measure => simp [intOf]; omega
   · obtain rfl : k = n1 := by omega
     rw [List.take_of_length_le (by rw [L1.out]; exact Nat.le_refl _)] at own
     obtain ⟨wa,rfl⟩ : ∃ wa : World,wa = wr := ⟨_,rfl⟩
     obtain ⟨A1',c1',rfl⟩ := own.shape
     have d0a : wa.cell? ⟨g,0,none⟩ = some (.int .i64 a0) := by rw [G.oth 0 (by decide)]; exact d0
     have d1a := G.cel
     have d2a : wa.cell? ⟨g,2,none⟩ = some (.slice none 0 0) := by rw [G.oth 2 (by decide)]; exact d2
     have d3a : wa.cell? ⟨g,3,none⟩ = some (.slice A3' x3.length c3') := by rw [G.oth 3 (by decide)]; exact d3
     have df2a : wa.frozen? ⟨g,2,none⟩ = false := by rw [G.fro]; exact df2
     have q2 : wa.cell? ⟨vb,vo + 2,none⟩ = some (.slice A2 n2 c2) := by rw [G.chg.cell (by omega) (by omega)]; exact f2
     have oq3 : tS.O wa (Iv l3 u3) [.slice A3' x3.length c3'] x3 := tS_O.2 ((tS_O.1 o3).chg G.chg (fun b hb (e : b = g) => by have := hb.1; have := hb.2; omega))
     have R0 : wa.cell? ⟨w.heap.size,0,none⟩ = some (.int .i64 0) := by rw [G.chg.cell (by omega) (by omega)]; exact r0
     have R1 : wa.cell? ⟨w.heap.size,1,none⟩ = some (.slice none 0 0) := by rw [G.chg.cell (by omega) (by omega)]; exact r1
     have R2 : wa.cell? ⟨w.heap.size,2,none⟩ = some (.slice none 0 0) := by rw [G.chg.cell (by omega) (by omega)]; exact r2
     have R3 : wa.cell? ⟨w.heap.size,3,none⟩ = some (.slice none 0 0) := by rw [G.chg.cell (by omega) (by omega)]; exact r3
     have RF : ∀ j,wa.frozen? ⟨w.heap.size,j,none⟩ = false := fun j => by rw [G.chg.frozen (by omega) (by omega)]; exact rf j
     clear G d0 d1 d2 d3 f1 f2 k4 r0 r1 r2 r3 rf
     go_wp2_with fail
     go_loopw [5] (fun i wr => ∃ (k : Nat) (v : Value),i = .int .i64 k ∧ k ≤ n2 ∧ OS tN 171 wr (Iv wa.heap.size wr.heap.size) v (x2.take k) ∧ Gr g 2 wa wr v) (fun i _ => n2 - (intOf i).toNat)
     case atStart => exact ⟨0,_,rfl,by omega,OS.nil _ _ _ _,Gr.start d2a⟩
     case round =>
      obtain ⟨k,v,rfl,hk,ow,G⟩ := hrel
      have sr2 := G.chg.size
      have Bwr2 : Below W.heap.size W wr := Bwr.trans (G.chg.toBelow (fun b (hb : b = g) => by omega) (by omega))
      have q3 : wr.cell? ⟨vb,vo + 2,none⟩ = some (.slice A2 n2 c2) := by rw [G.chg.cell (by omega) (by omega)]; exact q2
      by_cases hlt : k < n2
      · obtain ⟨bb,o,b0,b1,b2,A5,c5,y3,rfl,hbb,X,e0,e1,e2,e3,hr3,h3b⟩ := zds (k5.below Bwr2) z2 hlt
        obtain ⟨V,hV,BV,sV,n0,n1_,n2_,n3_,nf⟩ := zdm wr (.int .i64 b0) (.int .i64 b1) (.int .i64 b2) (.slice A5 y3.length c5) 171
        have HV := Lib.hid hV
        clear hV
        have hri := (hr3.more (by omega)).later BV
        have hpt := Lib.hid (M.take_at X.out)
        have hxl : (x2.take k).length ≤ 100000000 := by rw [List.length_take]; omega
        go_wp2_with fail
        rw [← HV.out]
        refine (zfb _ _ _ _ _ hri (by omega)).mono ?_
        rintro e w2 ⟨v1,rfl,on,bel2⟩
        obtain ⟨A6,c6,rfl,-⟩ := on.shape
        have s2_ := bel2.size
        replace n0 : w2.cell? ⟨wr.heap.size,0,none⟩ = some (.int .i64 b0) := by rw [bel2.cell (by show wr.heap.size < _; omega)]; exact n0
        replace n1_ : w2.cell? ⟨wr.heap.size,1,none⟩ = some (.int .i64 b1) := by rw [bel2.cell (by show wr.heap.size < _; omega)]; exact n1_
        replace n2_ : w2.cell? ⟨wr.heap.size,2,none⟩ = some (.int .i64 b2) := by rw [bel2.cell (by show wr.heap.size < _; omega)]; exact n2_
        replace n3_ : w2.cell? ⟨wr.heap.size,3,none⟩ = some (.slice A5 y3.length c5) := by rw [bel2.cell (by show wr.heap.size < _; omega)]; exact n3_
        replace nf : w2.frozen? ⟨wr.heap.size,3,none⟩ = false := by rw [bel2.frozen (by show wr.heap.size < _; omega)]; exact nf 3
        have chS := Chg.set (F := fun b => b = wr.heap.size) w2 wr.heap.size 3 (.slice A6 y3.length c6) rfl
        obtain ⟨w3,hw3⟩ : ∃ w3,w3 = w2.setCell ⟨wr.heap.size,3,none⟩ (.slice A6 y3.length c6) := ⟨_,rfl⟩
        rw [← hw3] at chS
        have s3_ : w3.heap.size = w2.heap.size := by rw [hw3]; simp
        have t0_ : w3.cell? ⟨wr.heap.size,0,none⟩ = some (.int .i64 b0) := by rw [hw3]; simp [go_sem,n0]
        have t1_ : w3.cell? ⟨wr.heap.size,1,none⟩ = some (.int .i64 b1) := by rw [hw3]; simp [go_sem,n1_]
        have t2_ : w3.cell? ⟨wr.heap.size,2,none⟩ = some (.int .i64 b2) := by rw [hw3]; simp [go_sem,n2_]
        have t3_ : w3.cell? ⟨wr.heap.size,3,none⟩ = some (.slice A6 y3.length c6) := by rw [hw3]; simp [go_sem,n3_]
        have Bw3 : Below wr.heap.size wr w3 := (zaa BV bel2).trans (chS.toBelow (fun b (hb : b = _) => by omega) (by omega))
        have own2 := ow.below Bw3 (Nat.le_refl _)
        have G2 := G.below Bw3 (by omega)
        have hvg := G2.cel
        have hvw2 := (G.below (zaa BV bel2) (by omega)).cel
        have on2 : tN.O w3 (Iv V.heap.size w2.heap.size) [.int .i64 b0,.int .i64 b1,.int .i64 b2,.slice A6 y3.length c6] (b0,b1,b2,y3) := tN_O.2 ⟨A6,y3.length,c6,Iv V.heap.size w2.heap.size,rfl,tS_O.2 ((OI.os on).chg chS (fun b hb (e : b = _) => by have := hb.1; omega)),fun b h => h⟩
        have HW3 := Lib.hid hw3
        clear hw3
        go_wp2_with (first | (at_builtin; have _t := HW3.out; rw [← HW3.out]; refine zca ziv #[.int .i64 b0,.int .i64 b1,.int .i64 b2,.slice A6 y3.length c6] rfl _ _ rfl own2 on2 (Iv.apart (by omega)) rfl (by rw [s3_]; rfl) (by unfold maxLen; omega) (by omega) ?_; intro v3 w4 own4 ch4; obtain ⟨A7,c7,e7⟩ := own4.shape; obtain ⟨n7,hn7⟩ : ∃ n7,n7 = (x2.take k ++ [(b0,b1,b2,y3)]).length := ⟨_,rfl⟩; rw [← hn7] at e7; subst e7; have HN7 := Lib.hid hn7; clear hn7; have G4 := G2.row ch4 (by omega) (fun b hb => ⟨hb.1,by have := hb.1; omega⟩); have hc4 := G4.cel; have hf4 : w4.frozen? ⟨g,2,none⟩ = false := (by rw [G4.fro]; exact df2a)))
        go_roundw
        case rel =>
         have s4 := ch4.size
         refine ⟨k + 1,_,by go_num,by omega,?_,G4.set df2a _⟩
         rw [hpt.out]
         refine (own4.chg (Chg.set (F := fun b => b = g) w4 g 2 _ rfl) (fun b hb (e : b = g) => ?_)).wide (fun b hb => ?_)
         · rcases hb with hb | hb | hb
           · have := hb.1; omega
           · have := hb.1; omega
           · omega
         · have e9 : (w4.setCell ⟨g,2,none⟩ (.slice A7 n7 c7)).heap.size = w4.heap.size := by simp
           rcases hb with hb | hb | hb
           · exact ⟨hb.1,by have := hb.2; omega⟩
           · exact ⟨by have := hb.1; omega,by have := hb.2; omega⟩
           · exact ⟨by omega,by omega⟩
        case measure => simp [intOf]; omega
      · obtain rfl : k = n2 := by omega
        rw [List.take_of_length_le (by rw [L2.out]; exact Nat.le_refl _)] at ow
        have b0 : wr.cell? ⟨g,0,none⟩ = some (.int .i64 a0) := by rw [G.oth 0 (by decide)]; exact d0a
        have b1 : wr.cell? ⟨g,1,none⟩ = some (.slice A1' x1.length c1') := by rw [G.oth 1 (by decide)]; exact d1a
        have b2 := G.cel
        have b3 : wr.cell? ⟨g,3,none⟩ = some (.slice A3' x3.length c3') := by rw [G.oth 3 (by decide)]; exact d3a
        have S0 : wr.cell? ⟨w.heap.size,0,none⟩ = some (.int .i64 0) := by rw [G.chg.cell (by omega) (by omega)]; exact R0
        have T0 : wr.frozen? ⟨w.heap.size,0,none⟩ = false := by rw [G.chg.frozen (by omega) (by omega)]; exact RF 0
        have S1 : wr.cell? ⟨w.heap.size,1,none⟩ = some (.slice none 0 0) := by rw [G.chg.cell (by omega) (by omega)]; exact R1
        have T1 : wr.frozen? ⟨w.heap.size,1,none⟩ = false := by rw [G.chg.frozen (by omega) (by omega)]; exact RF 1
        have S2 : wr.cell? ⟨w.heap.size,2,none⟩ = some (.slice none 0 0) := by rw [G.chg.cell (by omega) (by omega)]; exact R2
        have T2 : wr.frozen? ⟨w.heap.size,2,none⟩ = false := by rw [G.chg.frozen (by omega) (by omega)]; exact RF 2
        have S3 : wr.cell? ⟨w.heap.size,3,none⟩ = some (.slice none 0 0) := by rw [G.chg.cell (by omega) (by omega)]; exact R3
        have T3 : wr.frozen? ⟨w.heap.size,3,none⟩ = false := by rw [G.chg.frozen (by omega) (by omega)]; exact RF 3
        obtain ⟨A2',c2',rfl⟩ := ow.shape
        have o1 : tSS.O wr (Iv w0.heap.size wa.heap.size) [.slice A1' x1.length c1'] x1 := sl_O.2 (own.chg G.chg (fun b hb (e : b = g) => by have := hb.1; omega))
        have o4 : tS.O wr (Iv l3 u3) [.slice A3' x3.length c3'] x3 := tS_O.2 ((tS_O.1 oq3).chg G.chg (fun b hb (e : b = g) => by have := hb.1; have := hb.2; omega))
        obtain ⟨U_,hU_,y0,y1,y2,y3,yf,ych,ysz⟩ := box4 S0 S1 S2 S3 T0 T1 T2 T3 (.int .i64 a0) (.slice A1' x1.length c1') (.slice A2' x2.length c2') (.slice A3' x3.length c3')
        have HU := Lib.hid hU_
        clear hU_
        go_wp2
        rw [← HU.out]
        have y5 := yf 0 (by omega)
        have y6 := yf 1 (by omega)
        have y7 := yf 2 (by omega)
        have y8 := yf 3 (by omega)
        refine bodyPost_ret (v := .agg #[.int .i64 a0,.slice A1' x1.length c1',.slice A2' x2.length c2',.slice A3' x3.length c3']) (by simp [results,Tryz.results179,go_sem,y0,y1,y2,y3,y5,y6,y7,y8]) rfl ?_
        refine ⟨A1',x1.length,c1',A2',x2.length,c2',A3',x3.length,c3',rfl,tP_O.2 ⟨_,_,_,_,_,_,_,_,_,Iv w0.heap.size wa.heap.size,Iv wa.heap.size wr.heap.size,Iv l3 u3,rfl,tSS.ochg o1 ych (fun b hb (e : b = _) => by have := hb.1; omega),tNS.ochg (sl_O.2 ow) ych (fun b hb (e : b = _) => by have := hb.1; omega),tS.ochg o4 ych (fun b hb (e : b = _) => by have := hb.1; omega),Iv.mono (by omega) (by omega),Iv.mono (by omega) (by omega),Iv.mono (by omega) (by omega),fun b hb hb2 => by have := hb.2; have := hb2.1; omega,fun b hb hb2 => by have := hb2.2; have := hb.1; omega,fun b hb hb2 => by have := hb2.2; have := hb.1; omega⟩,?_⟩
        exact (zaa B0 Bwr2).trans (ych.toBelow (fun b (hb : b = _) => by omega) (by omega))
end
end Go.Proofs.YtffhodocjjkkoaaGreat
