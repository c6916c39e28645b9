import Derived.Test.YtebaffdaffcdmaaW83
import Derived.Deep.DeepCutAuto
namespace Go.Proofs.Ytebaffdaffcdmaa
open Go.RowKit
set_option maxRecDepth 100000
set_option maxHeartbeats 4000000 in
theorem core_FnExactSameMixer (A0 : Option Addr) (n0 : Nat) (c0 : Nat) (x0 : List (ByteArray × Int × List (Int × Int))) (A1 : Option Addr) (n1 : Nat) (c1 : Nat) (x1 : List (ByteArray × Int × List (Int × Int))) (z0 : Bool) (w : World)
    (hx0 : tM.R w w.heap.size [.slice A0 n0 c0] x0)
    (hx1 : tM.R w w.heap.size [.slice A1 n1 c1] x1)
    (hSpec : ∀ (A0 : Option Addr) (n0 : Nat) (c0 : Nat) (A1 : Option Addr) (n1 : Nat) (c1 : Nat) (w : World), tM.R w w.heap.size [.slice A0 n0 c0] x0 → tM.R w w.heap.size [.slice A1 n1 c1] x1 → hM.sz x0 ≤ 1048576 → hM.sz x1 ≤ 1048576 → Calls Try.prog 12 #[.agg #[.slice A0 n0 c0], .agg #[.slice A1 n1 c1]] w fun e w' => e = .returned (.bool z0) ∧ Below w.heap.size w w')
    (hImp : ∀ (A0 : Option Addr) (n0 : Nat) (c0 : Nat) (A1 : Option Addr) (n1 : Nat) (c1 : Nat) (w : World), tM.R w w.heap.size [.slice A0 n0 c0] x0 → tM.R w w.heap.size [.slice A1 n1 c1] x1 → hM.sz x0 ≤ 1048576 → hM.sz x1 ≤ 1048576 → Calls Try.prog 14 #[.agg #[.slice A0 n0 c0], .agg #[.slice A1 n1 c1]] w fun e w' => e = .returned (.bool z0) ∧ Below w.heap.size w w') :
    Calls Try.prog 3 #[.agg #[.slice A0 n0 c0], .agg #[.slice A1 n1 c1]] w fun e w' => e = .returned (.bool true) ∧ Below w.heap.size w w' := by
  have HS := Lib.hid hSpec
  have HI := Lib.hid hImp
  clear hSpec hImp
  have B : Below w.heap.size w ((w.alloc (.cells #[.slice A0 n0 c0] 24)).alloc (.cells #[.slice A1 n1 c1] 24)) := (((Below.refl _ _).alloc (by exact Nat.le_refl _) _).alloc (by simp) _)
  have hsize : ((w.alloc (.cells #[.slice A0 n0 c0] 24)).alloc (.cells #[.slice A1 n1 c1] 24)).heap.size = w.heap.size + 1 + 1 := by simp
  have pb0_0 : ((w.alloc (.cells #[.slice A0 n0 c0] 24)).alloc (.cells #[.slice A1 n1 c1] 24)).cell? ⟨w.heap.size, 0, none⟩ = some (.slice A0 n0 c0) := by simp [go_sem]
  have pb1_0 : ((w.alloc (.cells #[.slice A0 n0 c0] 24)).alloc (.cells #[.slice A1 n1 c1] 24)).cell? ⟨w.heap.size + 1, 0, none⟩ = some (.slice A1 n1 c1) := by simp [go_sem]
  have left : ∀ (s : Nat) (l : Int), (s : Int) ≤ l → (if (s : Int) ≤ l then l - (s : Int) else -1) = l - (s : Int) := fun s l h => if_pos h
  have less : ∀ (s : Nat) (l : Int), ¬ (s : Int) ≤ l → (if (s : Int) ≤ l then l - (s : Int) else -1) = -1 := fun s l h => if_neg h
  have LEFT := Lib.hid left
  have LESS := Lib.hid less
  clear left less
  by_cases hb0 : (1048576 : Int) < (hM.sz x0 : Int)
  · go_enter Try.func3, Try.ntmps3
    go_wp2_with fail
    refine (nf_sz_M _ _ _ _ ((1048576 : Int)) _ (tM.later hx0 B) (by omega)).mono ?_
    rw [LESS.out _ _ (by omega)]
    rintro e y0 ⟨rfl, b0⟩
    replace B := bel_trans B b0
    go_wp2_with fail
    go_ret
    exact ⟨rfl, B⟩
  by_cases hb1 : (1048576 : Int) - (hM.sz x0 : Int) < (hM.sz x1 : Int)
  · go_enter Try.func3, Try.ntmps3
    go_wp2_with fail
    refine (nf_sz_M _ _ _ _ ((1048576 : Int)) _ (tM.later hx0 B) (by omega)).mono ?_
    rw [LEFT.out _ _ (by omega)]
    rintro e y0 ⟨rfl, b0⟩
    have zy0 : w.heap.size + 1 + 1 ≤ y0.heap.size := by have := b0.size; simpa using this
    replace pb0_0 : y0.cell? ⟨w.heap.size, 0, none⟩ = some (.slice A0 n0 c0) := by rw [b0.cell (by first | omega | (simp; done) | (simp; omega))]; exact pb0_0
    replace pb1_0 : y0.cell? ⟨w.heap.size + 1, 0, none⟩ = some (.slice A1 n1 c1) := by rw [b0.cell (by first | omega | (simp; done) | (simp; omega))]; exact pb1_0
    replace B := bel_trans B b0
    go_wp2_with fail
    refine (nf_sz_M _ _ _ _ ((1048576 : Int) - (hM.sz x0 : Int)) _ (tM.later hx1 B) (by omega)).mono ?_
    rw [LESS.out _ _ (by omega)]
    rintro e y1 ⟨rfl, b1⟩
    replace B := bel_trans B b1
    go_wp2_with fail
    go_ret
    exact ⟨rfl, B⟩
  have hw0 : hM.sz x0 ≤ 1048576 := by omega
  have hw1 : hM.sz x1 ≤ 1048576 := by omega
  have hd0 : decide ((1048576 : Int) - (hM.sz x0 : Int) < 0) = false := by simp only [decide_eq_false_iff_not]; omega
  have hd1 : decide ((1048576 : Int) - (hM.sz x0 : Int) - (hM.sz x1 : Int) < 0) = false := by simp only [decide_eq_false_iff_not]; omega
  clear hsize
  go_enter Try.func3, Try.ntmps3
  go_wp2_with fail
  refine (nf_sz_M _ _ _ _ ((1048576 : Int)) _ (tM.later hx0 B) (by omega)).mono ?_
  rw [LEFT.out _ _ (by omega)]
  rintro e y0 ⟨rfl, b0⟩
  have zy0 : w.heap.size + 1 + 1 ≤ y0.heap.size := by have := b0.size; simpa using this
  replace pb0_0 : y0.cell? ⟨w.heap.size, 0, none⟩ = some (.slice A0 n0 c0) := by rw [b0.cell (by first | omega | (simp; done) | (simp; omega))]; exact pb0_0
  replace pb1_0 : y0.cell? ⟨w.heap.size + 1, 0, none⟩ = some (.slice A1 n1 c1) := by rw [b0.cell (by first | omega | (simp; done) | (simp; omega))]; exact pb1_0
  replace B := bel_trans B b0
  clear b0
  have lt0 : w.heap.size < y0.heap.size := by omega
  have lt1 : w.heap.size + 1 < y0.heap.size := by omega
  go_wp2_with fail
  refine (nf_sz_M _ _ _ _ ((1048576 : Int) - (hM.sz x0 : Int)) _ (tM.later hx1 B) (by omega)).mono ?_
  rw [LEFT.out _ _ (by omega)]
  rintro e y1 ⟨rfl, b1⟩
  have zy1 : y0.heap.size ≤ y1.heap.size := by have := b1.size; simpa using this
  replace pb0_0 : y1.cell? ⟨w.heap.size, 0, none⟩ = some (.slice A0 n0 c0) := by rw [b1.cell (by first | omega | (simp; done) | (simp; omega))]; exact pb0_0
  replace pb1_0 : y1.cell? ⟨w.heap.size + 1, 0, none⟩ = some (.slice A1 n1 c1) := by rw [b1.cell (by first | omega | (simp; done) | (simp; omega))]; exact pb1_0
  replace B := bel_trans B b1
  clear b1
  replace lt0 : w.heap.size < y1.heap.size := by omega
  replace lt1 : w.heap.size + 1 < y1.heap.size := by omega
  clear LEFT LESS
  go_upto_region 8 with fail
  go_cut [6] (fun q6 wx => q6 = .bool z0 ∧ Below y1.heap.size y1 wx)
  case first =>
    go_region_held3 (fun w' => Below y1.heap.size y1 w' ∧ w'.cell? ⟨w.heap.size, 0, none⟩ = some (.slice A0 n0 c0) ∧ w'.cell? ⟨w.heap.size + 1, 0, none⟩ = some (.slice A1 n1 c1))
      (first | exact ⟨below_drewN (Below.refl _ _) _, pb0_0, pb1_0⟩ | exact ⟨gf, (by rw [gf.cell (by first | omega | (simp; done) | (simp; omega))]; exact pb0_0), (by rw [gf.cell (by first | omega | (simp; done) | (simp; omega))]; exact pb1_0)⟩ | exact ⟨gz, (by rw [gz.cell (by first | omega | (simp; done) | (simp; omega))]; exact pb0_0), (by rw [gz.cell (by first | omega | (simp; done) | (simp; omega))]; exact pb1_0)⟩ | exact ⟨g0, (by rw [g0.cell (by first | omega | (simp; done) | (simp; omega))]; exact pb0_0), (by rw [g0.cell (by first | omega | (simp; done) | (simp; omega))]; exact pb1_0)⟩ | exact ⟨g1, (by rw [g1.cell (by first | omega | (simp; done) | (simp; omega))]; exact pb0_0), (by rw [g1.cell (by first | omega | (simp; done) | (simp; omega))]; exact pb1_0)⟩)
      (first | (go_at_call 12; refine (HS.out _ _ _ _ _ _ _ (tM.read o0) (tM.read o1) hw0 hw1).mono ?_; rintro e vf ⟨rfl, bf⟩; have gf : Below y1.heap.size y1 vf := (bel_trans gz bf)) | (go_at_call 13; refine (nf_to_M _ _ _ _ _ (tM.later hx1 (bel_trans B g0)) (by omega)).mono ?_; rintro e v1 ⟨Ai1, ni1, ci1, rfl, o1, b1⟩; replace o1 : tM.O v1 (Iv v0.heap.size v1.heap.size) [.slice Ai1 ni1 ci1] x1 := tM.oiv o1 (by first | exact Nat.le_refl _ | simp | (skip; first | omega | (simp; omega))) (Nat.le_refl _); have g1 : Below y1.heap.size y1 v1 := (bel_trans g0 b1); replace o0 : tM.O v1 (Iv y1.heap.size v0.heap.size) [.slice Ai0 ni0 ci0] x0 := tM.obelow o0 b1 (by first | exact Nat.le_refl _ | (have := b1.size; omega)); have gz : Below y1.heap.size y1 v1 := g1) | (go_at_call 13; refine (nf_to_M _ _ _ _ _ (tM.later hx0 (bel_trans B (below_drewN (Below.refl _ _) 1))) (by omega)).mono ?_; rintro e v0 ⟨Ai0, ni0, ci0, rfl, o0, b0⟩; replace o0 : tM.O v0 (Iv y1.heap.size v0.heap.size) [.slice Ai0 ni0 ci0] x0 := tM.oiv o0 (by first | exact Nat.le_refl _ | simp | (skip; first | omega | (simp; omega))) (Nat.le_refl _); have g0 : Below y1.heap.size y1 v0 := (bel_trans (below_drewN (Below.refl _ _) 1) b0); have gz : Below y1.heap.size y1 v0 := g0))
    all_goals
      have GF := gf
      have zf := GF.size
      have zg := gz.size
      have zh := bf.size
      have zi0 := b0.size
      have zi1 := b1.size
      go_wp2_with fail
      go_meet
      exact ⟨rfl, GF⟩
  case rest =>
    have hcut_ := hcut
    clear hcut
    obtain ⟨u1, rfl⟩ : ∃ u_ : World, u_ = wc := ⟨_, rfl⟩
    obtain ⟨rfl, G⟩ := hcut_
    have zu1 : y1.heap.size ≤ u1.heap.size := by have := G.size; omega
    replace pb0_0 : u1.cell? ⟨w.heap.size, 0, none⟩ = some (.slice A0 n0 c0) := by rw [G.cell (by first | omega | (simp; done) | (simp; omega))]; exact pb0_0
    replace pb1_0 : u1.cell? ⟨w.heap.size + 1, 0, none⟩ = some (.slice A1 n1 c1) := by rw [G.cell (by first | omega | (simp; done) | (simp; omega))]; exact pb1_0
    replace B := bel_trans B G
    clear G
    replace lt0 : w.heap.size < u1.heap.size := by omega
    replace lt1 : w.heap.size + 1 < u1.heap.size := by omega
    go_wp2_with fail
    refine (nf_to_M _ _ _ _ _ (tM.later hx0 B) (by omega)).mono ?_
    rintro e u2 ⟨Ax0o, nx0o, cx0o, rfl, x0o, bb⟩
    have G := bb
    have zu2 : u1.heap.size ≤ u2.heap.size := by have := bb.size; simpa using this
    replace pb0_0 : u2.cell? ⟨w.heap.size, 0, none⟩ = some (.slice A0 n0 c0) := by rw [G.cell (by first | omega | (simp; done) | (simp; omega))]; exact pb0_0
    replace pb1_0 : u2.cell? ⟨w.heap.size + 1, 0, none⟩ = some (.slice A1 n1 c1) := by rw [G.cell (by first | omega | (simp; done) | (simp; omega))]; exact pb1_0
    replace x0o : tM.O u2 (Iv (u1.heap.size) u2.heap.size) [.slice Ax0o nx0o cx0o] x0 := tM.oiv x0o (by simp) (Nat.le_refl _)
    replace B := bel_trans B G
    clear G bb
    replace lt0 : w.heap.size < u2.heap.size := by omega
    replace lt1 : w.heap.size + 1 < u2.heap.size := by omega
    have G0 : Below u2.heap.size u2 (u2.alloc (.cells #[.slice Ax0o nx0o cx0o] 29)) := (Below.refl _ _).alloc (Nat.le_refl _) _
    go_wp2_with fail
    refine (nf_to_M _ _ _ _ _ (tM.later hx1 (bel_trans B G0)) (by omega)).mono ?_
    rintro e u3 ⟨Ax1o, nx1o, cx1o, rfl, x1o, bb⟩
    have G := bel_trans G0 bb
    have zu3 : u2.heap.size + 1 ≤ u3.heap.size := by have := bb.size; simp at this; omega
    replace pb0_0 : u3.cell? ⟨w.heap.size, 0, none⟩ = some (.slice A0 n0 c0) := by rw [G.cell (by first | omega | (simp; done) | (simp; omega))]; exact pb0_0
    replace pb1_0 : u3.cell? ⟨w.heap.size + 1, 0, none⟩ = some (.slice A1 n1 c1) := by rw [G.cell (by first | omega | (simp; done) | (simp; omega))]; exact pb1_0
    replace x0o := tM.obelow x0o G (by omega)
    have xb0_0 : u3.cell? ⟨u2.heap.size, 0, none⟩ = some (.slice Ax0o nx0o cx0o) := by rw [bb.cell (by simp)]; simp [go_sem]
    replace x1o : tM.O u3 (Iv (u2.heap.size + 1) u3.heap.size) [.slice Ax1o nx1o cx1o] x1 := tM.oiv x1o (by simp) (Nat.le_refl _)
    replace B := bel_trans B G
    clear G bb G0
    replace lt0 : w.heap.size < u3.heap.size := by omega
    replace lt1 : w.heap.size + 1 < u3.heap.size := by omega
    have lt2 : u2.heap.size < u3.heap.size := by omega
    have G0 : Below u3.heap.size u3 (u3.alloc (.cells #[.slice Ax1o nx1o cx1o] 29)) := (Below.refl _ _).alloc (Nat.le_refl _) _
    go_wp2_with fail
    refine (HI.out _ _ _ _ _ _ _ (tM.later (tM.read x0o) G0) (tM.later (tM.read x1o) G0) hw0 hw1).mono ?_
    rintro e u4 ⟨rfl, bb⟩
    have G := bel_trans G0 bb
    have zu4 : u3.heap.size + 1 ≤ u4.heap.size := by have := bb.size; simp at this; omega
    replace pb0_0 : u4.cell? ⟨w.heap.size, 0, none⟩ = some (.slice A0 n0 c0) := by rw [G.cell (by first | omega | (simp; done) | (simp; omega))]; exact pb0_0
    replace pb1_0 : u4.cell? ⟨w.heap.size + 1, 0, none⟩ = some (.slice A1 n1 c1) := by rw [G.cell (by first | omega | (simp; done) | (simp; omega))]; exact pb1_0
    replace xb0_0 : u4.cell? ⟨u2.heap.size, 0, none⟩ = some (.slice Ax0o nx0o cx0o) := by rw [G.cell (by first | omega | (simp; done) | (simp; omega))]; exact xb0_0
    replace x0o := tM.obelow x0o G (by omega)
    replace x1o := tM.obelow x1o G (by omega)
    have xb1_0 : u4.cell? ⟨u3.heap.size, 0, none⟩ = some (.slice Ax1o nx1o cx1o) := by rw [bb.cell (by simp)]; simp [go_sem]
    replace B := bel_trans B G
    clear G bb G0
    replace lt0 : w.heap.size < u4.heap.size := by omega
    replace lt1 : w.heap.size + 1 < u4.heap.size := by omega
    replace lt2 : u2.heap.size < u4.heap.size := by omega
    have lt3 : u3.heap.size < u4.heap.size := by omega
    go_wp2_with fail
    go_region_held3 (fun w' => Below u4.heap.size u4 w' ∧ w'.cell? ⟨w.heap.size, 0, none⟩ = some (.slice A0 n0 c0) ∧ w'.cell? ⟨u2.heap.size, 0, none⟩ = some (.slice Ax0o nx0o cx0o))
      (first | exact ⟨below_drewN (Below.refl _ _) _, pb0_0, xb0_0⟩ | exact ⟨gq, (by rw [gq.cell (by first | omega | (simp; done) | (simp; omega))]; exact pb0_0), (by rw [gq.cell (by first | omega | (simp; done) | (simp; omega))]; exact xb0_0)⟩ | exact ⟨gt, (by rw [gt.cell (by first | omega | (simp; done) | (simp; omega))]; exact pb0_0), (by rw [gt.cell (by first | omega | (simp; done) | (simp; omega))]; exact xb0_0)⟩)
      (first | (go_at_call 13; refine (nf_to_M _ _ _ _ _ (tM.later (tM.later hx0 B) (below_drewN (Below.refl _ _) 1)) (by omega)).mono ?_; rintro e vt ⟨Aq, nq, cq, rfl, ot, bt⟩; have gt : Below u4.heap.size u4 vt := bel_trans (below_drewN (Below.refl _ _) 1) bt) | (go_at_call 15; refine (nf_eq_M _ _ _ _ _ _ _ _ (tM.later (tM.read x0o) gt) (tM.read ot) (by omega)).mono ?_; rintro e u5 ⟨rfl, bq⟩; have gq : Below u4.heap.size u4 u5 := bel_trans gt bq))
    have zu5 : u4.heap.size ≤ u5.heap.size := gq.size
    replace pb0_0 : u5.cell? ⟨w.heap.size, 0, none⟩ = some (.slice A0 n0 c0) := by rw [gq.cell (by first | omega | (simp; done) | (simp; omega))]; exact pb0_0
    replace pb1_0 : u5.cell? ⟨w.heap.size + 1, 0, none⟩ = some (.slice A1 n1 c1) := by rw [gq.cell (by first | omega | (simp; done) | (simp; omega))]; exact pb1_0
    replace xb0_0 : u5.cell? ⟨u2.heap.size, 0, none⟩ = some (.slice Ax0o nx0o cx0o) := by rw [gq.cell (by first | omega | (simp; done) | (simp; omega))]; exact xb0_0
    replace xb1_0 : u5.cell? ⟨u3.heap.size, 0, none⟩ = some (.slice Ax1o nx1o cx1o) := by rw [gq.cell (by first | omega | (simp; done) | (simp; omega))]; exact xb1_0
    replace x0o := tM.obelow x0o gq (by omega)
    replace x1o := tM.obelow x1o gq (by omega)
    replace B := bel_trans B gq
    clear gq gt bq bt ot
    replace lt0 : w.heap.size < u5.heap.size := by omega
    replace lt1 : w.heap.size + 1 < u5.heap.size := by omega
    replace lt2 : u2.heap.size < u5.heap.size := by omega
    replace lt3 : u3.heap.size < u5.heap.size := by omega
    go_wp2_with fail
    go_region_held3 (fun w' => Below u5.heap.size u5 w' ∧ w'.cell? ⟨w.heap.size + 1, 0, none⟩ = some (.slice A1 n1 c1) ∧ w'.cell? ⟨u3.heap.size, 0, none⟩ = some (.slice Ax1o nx1o cx1o))
      (first | exact ⟨below_drewN (Below.refl _ _) _, pb1_0, xb1_0⟩ | exact ⟨gq, (by rw [gq.cell (by first | omega | (simp; done) | (simp; omega))]; exact pb1_0), (by rw [gq.cell (by first | omega | (simp; done) | (simp; omega))]; exact xb1_0)⟩ | exact ⟨gt, (by rw [gt.cell (by first | omega | (simp; done) | (simp; omega))]; exact pb1_0), (by rw [gt.cell (by first | omega | (simp; done) | (simp; omega))]; exact xb1_0)⟩)
      (first | (go_at_call 13; refine (nf_to_M _ _ _ _ _ (tM.later (tM.later hx1 B) (below_drewN (Below.refl _ _) 1)) (by omega)).mono ?_; rintro e vt ⟨Aq, nq, cq, rfl, ot, bt⟩; have gt : Below u5.heap.size u5 vt := bel_trans (below_drewN (Below.refl _ _) 1) bt) | (go_at_call 15; refine (nf_eq_M _ _ _ _ _ _ _ _ (tM.later (tM.read x1o) gt) (tM.read ot) (by omega)).mono ?_; rintro e u6 ⟨rfl, bq⟩; have gq : Below u5.heap.size u5 u6 := bel_trans gt bq))
    have zu6 : u5.heap.size ≤ u6.heap.size := gq.size
    replace pb0_0 : u6.cell? ⟨w.heap.size, 0, none⟩ = some (.slice A0 n0 c0) := by rw [gq.cell (by first | omega | (simp; done) | (simp; omega))]; exact pb0_0
    replace pb1_0 : u6.cell? ⟨w.heap.size + 1, 0, none⟩ = some (.slice A1 n1 c1) := by rw [gq.cell (by first | omega | (simp; done) | (simp; omega))]; exact pb1_0
    replace xb0_0 : u6.cell? ⟨u2.heap.size, 0, none⟩ = some (.slice Ax0o nx0o cx0o) := by rw [gq.cell (by first | omega | (simp; done) | (simp; omega))]; exact xb0_0
    replace xb1_0 : u6.cell? ⟨u3.heap.size, 0, none⟩ = some (.slice Ax1o nx1o cx1o) := by rw [gq.cell (by first | omega | (simp; done) | (simp; omega))]; exact xb1_0
    replace x0o := tM.obelow x0o gq (by omega)
    replace x1o := tM.obelow x1o gq (by omega)
    replace B := bel_trans B gq
    clear gq gt bq bt ot
    replace lt0 : w.heap.size < u6.heap.size := by omega
    replace lt1 : w.heap.size + 1 < u6.heap.size := by omega
    replace lt2 : u2.heap.size < u6.heap.size := by omega
    replace lt3 : u3.heap.size < u6.heap.size := by omega
    have hk0 : hM.cnt x0 ≤ 20000000 := by have := cl_M x0; omega
    have hk1 : hM.cnt x1 ≤ 20000000 := by have := cl_M x1; omega
    go_wp2_with fail
    go_ret
    exact ⟨rfl, B⟩
end Go.Proofs.Ytebaffdaffcdmaa
