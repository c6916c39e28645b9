import Derived.Test.YtebaffdaffcdmaaW83
import Derived.Deep.DeepCutAuto
namespace Go.Proofs.Ytebaffdaffcdmaa
open Go.RowKit
set_option maxRecDepth 100000
set_option maxHeartbeats 4000000 in
theorem core_FnExactDelaysOf (A0 : Option Addr) (n0 : Nat) (c0 : Nat) (x0 : List (ByteArray × Int × List (Int × Int))) (z0 : List (List Int)) (z1 : Int) (w : World)
    (hx0 : tM.R w w.heap.size [.slice A0 n0 c0] x0)
    (hz0 : hSS.sz z0 ≤ 100000000) (hc0 : hSS.cnt z0 ≤ 100000000)
    (hSpec : ∀ (A0 : Option Addr) (n0 : Nat) (c0 : Nat) (w : World), tM.R w w.heap.size [.slice A0 n0 c0] x0 → hM.sz x0 ≤ 1048576 → Calls Try.prog 32 #[.agg #[.slice A0 n0 c0]] w fun e w' => ∃ Ar0 nr0 cr0, e = .returned (.tuple #[.slice Ar0 nr0 cr0, .int .i64 z1]) ∧ tSS.O w' (Iv w.heap.size w'.heap.size) [.slice Ar0 nr0 cr0] z0 ∧ Below w.heap.size w w')
    (hImp : ∀ (A0 : Option Addr) (n0 : Nat) (c0 : Nat) (w : World), tM.R w w.heap.size [.slice A0 n0 c0] x0 → hM.sz x0 ≤ 1048576 → Calls Try.prog 33 #[.agg #[.slice A0 n0 c0]] w fun e w' => ∃ Ar0 nr0 cr0, e = .returned (.tuple #[.slice Ar0 nr0 cr0, .int .i64 z1]) ∧ tSS.O w' (Iv w.heap.size w'.heap.size) [.slice Ar0 nr0 cr0] z0 ∧ Below w.heap.size w w') :
    Calls Try.prog 10 #[.agg #[.slice A0 n0 c0]] w fun e w' => e = .returned (.bool true) ∧ Below w.heap.size w w' := by
  have HS := Lib.hid hSpec
  have HI := Lib.hid hImp
  clear hSpec hImp
  have B : Below w.heap.size w (w.alloc (.cells #[.slice A0 n0 c0] 24)) := ((Below.refl _ _).alloc (by exact Nat.le_refl _) _)
  have hsize : (w.alloc (.cells #[.slice A0 n0 c0] 24)).heap.size = w.heap.size + 1 := by simp
  have pb0_0 : (w.alloc (.cells #[.slice A0 n0 c0] 24)).cell? ⟨w.heap.size, 0, none⟩ = some (.slice A0 n0 c0) := by simp [go_sem]
  have left : ∀ (s : Nat) (l : Int), (s : Int) ≤ l → (if (s : Int) ≤ l then l - (s : Int) else -1) = l - (s : Int) := fun s l h => if_pos h
  have less : ∀ (s : Nat) (l : Int), ¬ (s : Int) ≤ l → (if (s : Int) ≤ l then l - (s : Int) else -1) = -1 := fun s l h => if_neg h
  have LEFT := Lib.hid left
  have LESS := Lib.hid less
  clear left less
  by_cases hb0 : (1048576 : Int) < (hM.sz x0 : Int)
  · go_enter Try.func10, Try.ntmps10
    go_wp2_with fail
    refine (nf_sz_M _ _ _ _ ((1048576 : Int)) _ (tM.later hx0 B) (by omega)).mono ?_
    rw [LESS.out _ _ (by omega)]
    rintro e y0 ⟨rfl, b0⟩
    replace B := bel_trans B b0
    go_wp2_with fail
    go_ret
    exact ⟨rfl, B⟩
  have hw0 : hM.sz x0 ≤ 1048576 := by omega
  have hd0 : decide ((1048576 : Int) - (hM.sz x0 : Int) < 0) = false := by simp only [decide_eq_false_iff_not]; omega
  clear hsize
  go_enter Try.func10, Try.ntmps10
  go_wp2_with fail
  refine (nf_sz_M _ _ _ _ ((1048576 : Int)) _ (tM.later hx0 B) (by omega)).mono ?_
  rw [LEFT.out _ _ (by omega)]
  rintro e y0 ⟨rfl, b0⟩
  have zy0 : w.heap.size + 1 ≤ y0.heap.size := by have := b0.size; simpa using this
  replace pb0_0 : y0.cell? ⟨w.heap.size, 0, none⟩ = some (.slice A0 n0 c0) := by rw [b0.cell (by first | omega | (simp; done) | (simp; omega))]; exact pb0_0
  replace B := bel_trans B b0
  clear b0
  have lt0 : w.heap.size < y0.heap.size := by omega
  clear LEFT LESS
  go_wp2_with fail
  refine (nf_to_M _ _ _ _ _ (tM.later hx0 B) (by omega)).mono ?_
  rintro e u1 ⟨As0, ns0, cs0, rfl, s0, bb⟩
  have G := bb
  have zu1 : y0.heap.size ≤ u1.heap.size := by have := bb.size; simpa using this
  replace pb0_0 : u1.cell? ⟨w.heap.size, 0, none⟩ = some (.slice A0 n0 c0) := by rw [G.cell (by first | omega | (simp; done) | (simp; omega))]; exact pb0_0
  replace s0 : tM.O u1 (Iv (y0.heap.size) u1.heap.size) [.slice As0 ns0 cs0] x0 := tM.oiv s0 (by simp) (Nat.le_refl _)
  replace B := bel_trans B G
  clear G bb
  replace lt0 : w.heap.size < u1.heap.size := by omega
  go_wp2_with fail
  refine (HS.out _ _ _ _ (tM.read s0) hw0).mono ?_
  rintro e u2 ⟨Aw0, nw0, cw0, rfl, w0, bb⟩
  have G := bb
  have zu2 : u1.heap.size ≤ u2.heap.size := by have := bb.size; simpa using this
  replace pb0_0 : u2.cell? ⟨w.heap.size, 0, none⟩ = some (.slice A0 n0 c0) := by rw [G.cell (by first | omega | (simp; done) | (simp; omega))]; exact pb0_0
  replace s0 := tM.obelow s0 G (by omega)
  replace w0 : tSS.O u2 (Iv (u1.heap.size) u2.heap.size) [.slice Aw0 nw0 cw0] z0 := tSS.oiv w0 (by simp) (Nat.le_refl _)
  replace B := bel_trans B G
  clear G bb
  replace lt0 : w.heap.size < u2.heap.size := by omega
  clear s0
  go_wp2_with fail
  refine (nf_to_M _ _ _ _ _ (tM.later hx0 B) (by omega)).mono ?_
  rintro e u3 ⟨Ax0o, nx0o, cx0o, rfl, x0o, bb⟩
  have G := bb
  have zu3 : u2.heap.size ≤ u3.heap.size := by have := bb.size; simpa using this
  replace pb0_0 : u3.cell? ⟨w.heap.size, 0, none⟩ = some (.slice A0 n0 c0) := by rw [G.cell (by first | omega | (simp; done) | (simp; omega))]; exact pb0_0
  replace w0 := tSS.obelow w0 G (by omega)
  replace x0o : tM.O u3 (Iv (u2.heap.size) u3.heap.size) [.slice Ax0o nx0o cx0o] x0 := tM.oiv x0o (by simp) (Nat.le_refl _)
  replace B := bel_trans B G
  clear G bb
  replace lt0 : w.heap.size < u3.heap.size := by omega
  have G0 : Below u3.heap.size u3 (u3.alloc (.cells #[.slice Ax0o nx0o cx0o] 29)) := (Below.refl _ _).alloc (Nat.le_refl _) _
  go_wp2_with fail
  refine (HI.out _ _ _ _ (tM.later (tM.read x0o) G0) hw0).mono ?_
  rintro e u4 ⟨Ag0, ng0, cg0, rfl, g0, bb⟩
  have G := bel_trans G0 bb
  have zu4 : u3.heap.size + 1 ≤ u4.heap.size := by have := bb.size; simp at this; omega
  replace pb0_0 : u4.cell? ⟨w.heap.size, 0, none⟩ = some (.slice A0 n0 c0) := by rw [G.cell (by first | omega | (simp; done) | (simp; omega))]; exact pb0_0
  replace w0 := tSS.obelow w0 G (by omega)
  replace x0o := tM.obelow x0o G (by omega)
  have xb0_0 : u4.cell? ⟨u3.heap.size, 0, none⟩ = some (.slice Ax0o nx0o cx0o) := by rw [bb.cell (by simp)]; simp [go_sem]
  replace g0 : tSS.O u4 (Iv (u3.heap.size + 1) u4.heap.size) [.slice Ag0 ng0 cg0] z0 := tSS.oiv g0 (by simp) (Nat.le_refl _)
  replace B := bel_trans B G
  clear G bb G0
  replace lt0 : w.heap.size < u4.heap.size := by omega
  have lt1 : u3.heap.size < u4.heap.size := by omega
  go_wp2_with fail
  refine (nf_eq_SS _ _ _ _ _ _ _ _ (tSS.read g0) (tSS.read w0) (by omega)).mono ?_
  rintro e u5 ⟨rfl, bb⟩
  have G := bb
  have zu5 : u4.heap.size ≤ u5.heap.size := by have := bb.size; simpa using this
  replace pb0_0 : u5.cell? ⟨w.heap.size, 0, none⟩ = some (.slice A0 n0 c0) := by rw [G.cell (by first | omega | (simp; done) | (simp; omega))]; exact pb0_0
  replace xb0_0 : u5.cell? ⟨u3.heap.size, 0, none⟩ = some (.slice Ax0o nx0o cx0o) := by rw [G.cell (by first | omega | (simp; done) | (simp; omega))]; exact xb0_0
  replace w0 := tSS.obelow w0 G (by omega)
  replace x0o := tM.obelow x0o G (by omega)
  replace g0 := tSS.obelow g0 G (by omega)
  replace B := bel_trans B G
  clear G bb
  replace lt0 : w.heap.size < u5.heap.size := by omega
  replace lt1 : u3.heap.size < u5.heap.size := by omega
  go_wp2_with fail
  go_region_held3 (fun w' => Below u5.heap.size u5 w' ∧ w'.cell? ⟨w.heap.size, 0, none⟩ = some (.slice A0 n0 c0) ∧ w'.cell? ⟨u3.heap.size, 0, none⟩ = some (.slice Ax0o nx0o cx0o))
    (first | exact ⟨below_drewN (Below.refl _ _) _, pb0_0, xb0_0⟩ | exact ⟨gq, (by rw [gq.cell (by first | omega | (simp; done) | (simp; omega))]; exact pb0_0), (by rw [gq.cell (by first | omega | (simp; done) | (simp; omega))]; exact xb0_0)⟩ | exact ⟨gt, (by rw [gt.cell (by first | omega | (simp; done) | (simp; omega))]; exact pb0_0), (by rw [gt.cell (by first | omega | (simp; done) | (simp; omega))]; exact xb0_0)⟩)
    (first | (go_at_call 13; refine (nf_to_M _ _ _ _ _ (tM.later (tM.later hx0 B) (below_drewN (Below.refl _ _) 1)) (by omega)).mono ?_; rintro e vt ⟨Aq, nq, cq, rfl, ot, bt⟩; have gt : Below u5.heap.size u5 vt := bel_trans (below_drewN (Below.refl _ _) 1) bt) | (go_at_call 15; refine (nf_eq_M _ _ _ _ _ _ _ _ (tM.later (tM.read x0o) gt) (tM.read ot) (by omega)).mono ?_; rintro e u6 ⟨rfl, bq⟩; have gq : Below u5.heap.size u5 u6 := bel_trans gt bq))
  have zu6 : u5.heap.size ≤ u6.heap.size := gq.size
  replace pb0_0 : u6.cell? ⟨w.heap.size, 0, none⟩ = some (.slice A0 n0 c0) := by rw [gq.cell (by first | omega | (simp; done) | (simp; omega))]; exact pb0_0
  replace xb0_0 : u6.cell? ⟨u3.heap.size, 0, none⟩ = some (.slice Ax0o nx0o cx0o) := by rw [gq.cell (by first | omega | (simp; done) | (simp; omega))]; exact xb0_0
  replace w0 := tSS.obelow w0 gq (by omega)
  replace x0o := tM.obelow x0o gq (by omega)
  replace g0 := tSS.obelow g0 gq (by omega)
  replace B := bel_trans B gq
  clear gq gt bq bt ot
  replace lt0 : w.heap.size < u6.heap.size := by omega
  replace lt1 : u3.heap.size < u6.heap.size := by omega
  have hk0 : hM.cnt x0 ≤ 20000000 := by have := cl_M x0; omega
  go_wp2_with fail
  refine (nf_mark_M _ _ _ _ _ _ _ x0o (fun b hb => Nat.lt_of_lt_of_le hb.2 (by omega)) (by omega)).mono ?_
  rintro e u7 ⟨rfl, x0o, mm⟩
  have zu7 : u6.heap.size ≤ u7.heap.size := mm.size
  replace pb0_0 : u7.cell? ⟨w.heap.size, 0, none⟩ = some (.slice A0 n0 c0) := by rw [World.cell?_of_block (mm.block _ (by first | omega | (simp; done) | (simp; omega)) (by first | (simp [Iv]; done) | (simp [Iv]; omega)))]; exact pb0_0
  replace xb0_0 : u7.cell? ⟨u3.heap.size, 0, none⟩ = some (.slice Ax0o nx0o cx0o) := by rw [World.cell?_of_block (mm.block _ (by first | omega | (simp; done) | (simp; omega)) (by first | (simp [Iv]; done) | (simp [Iv]; omega)))]; exact xb0_0
  replace w0 := tSS.ochg w0 mm (by simp only [Iv]; omega)
  replace g0 := tSS.ochg g0 mm (by simp only [Iv]; omega)
  replace B : Below w.heap.size w u7 := B.trans (mm.toBelow (by simp only [Iv]; omega) (by omega))
  clear mm
  replace lt0 : w.heap.size < u7.heap.size := by omega
  replace lt1 : u3.heap.size < u7.heap.size := by omega
  clear x0o
  go_wp2_with fail
  refine (nf_eq_SS _ _ _ _ _ _ _ _ (tSS.read g0) (tSS.read w0) (by omega)).mono ?_
  rintro e u8 ⟨rfl, bb⟩
  have G := bb
  have zu8 : u7.heap.size ≤ u8.heap.size := by have := bb.size; simpa using this
  replace pb0_0 : u8.cell? ⟨w.heap.size, 0, none⟩ = some (.slice A0 n0 c0) := by rw [G.cell (by first | omega | (simp; done) | (simp; omega))]; exact pb0_0
  replace xb0_0 : u8.cell? ⟨u3.heap.size, 0, none⟩ = some (.slice Ax0o nx0o cx0o) := by rw [G.cell (by first | omega | (simp; done) | (simp; omega))]; exact xb0_0
  replace w0 := tSS.obelow w0 G (by omega)
  replace g0 := tSS.obelow g0 G (by omega)
  replace B := bel_trans B G
  clear G bb
  replace lt0 : w.heap.size < u8.heap.size := by omega
  replace lt1 : u3.heap.size < u8.heap.size := by omega
  go_wp2_with fail
  refine (nf_mark_SS _ _ _ _ _ _ _ g0 (by omega)).mono ?_
  rintro e u9 ⟨rfl, g0, mm⟩
  have zu9 : u8.heap.size ≤ u9.heap.size := mm.size
  replace pb0_0 : u9.cell? ⟨w.heap.size, 0, none⟩ = some (.slice A0 n0 c0) := by rw [World.cell?_of_block (mm.block _ (by first | omega | (simp; done) | (simp; omega)) (by first | (simp [Iv]; done) | (simp [Iv]; omega)))]; exact pb0_0
  replace xb0_0 : u9.cell? ⟨u3.heap.size, 0, none⟩ = some (.slice Ax0o nx0o cx0o) := by rw [World.cell?_of_block (mm.block _ (by first | omega | (simp; done) | (simp; omega)) (by first | (simp [Iv]; done) | (simp [Iv]; omega)))]; exact xb0_0
  replace w0 := tSS.ochg w0 mm (by simp only [Iv]; omega)
  replace B : Below w.heap.size w u9 := B.trans (mm.toBelow (by simp only [Iv]; omega) (by omega))
  clear mm
  replace lt0 : w.heap.size < u9.heap.size := by omega
  replace lt1 : u3.heap.size < u9.heap.size := by omega
  go_wp2_with fail
  refine (nf_held_SS _ _ _ _ _ _ (tSS.read g0) (by omega)).mono ?_
  rintro e u10 ⟨rfl, bb⟩
  have G := bb
  have zu10 : u9.heap.size ≤ u10.heap.size := by have := bb.size; simpa using this
  replace pb0_0 : u10.cell? ⟨w.heap.size, 0, none⟩ = some (.slice A0 n0 c0) := by rw [G.cell (by first | omega | (simp; done) | (simp; omega))]; exact pb0_0
  replace xb0_0 : u10.cell? ⟨u3.heap.size, 0, none⟩ = some (.slice Ax0o nx0o cx0o) := by rw [G.cell (by first | omega | (simp; done) | (simp; omega))]; exact xb0_0
  replace w0 := tSS.obelow w0 G (by omega)
  replace g0 := tSS.obelow g0 G (by omega)
  replace B := bel_trans B G
  clear G bb
  replace lt0 : w.heap.size < u10.heap.size := by omega
  replace lt1 : u3.heap.size < u10.heap.size := by omega
  go_wp2_with fail
  refine (nf_to_M _ _ _ _ _ (tM.later hx0 B) (by omega)).mono ?_
  rintro e u11 ⟨Ah0o, nh0o, ch0o, rfl, h0o, bb⟩
  have G := bb
  have zu11 : u10.heap.size ≤ u11.heap.size := by have := bb.size; simpa using this
  replace pb0_0 : u11.cell? ⟨w.heap.size, 0, none⟩ = some (.slice A0 n0 c0) := by rw [G.cell (by first | omega | (simp; done) | (simp; omega))]; exact pb0_0
  replace xb0_0 : u11.cell? ⟨u3.heap.size, 0, none⟩ = some (.slice Ax0o nx0o cx0o) := by rw [G.cell (by first | omega | (simp; done) | (simp; omega))]; exact xb0_0
  replace w0 := tSS.obelow w0 G (by omega)
  replace g0 := tSS.obelow g0 G (by omega)
  replace h0o : tM.O u11 (Iv (u10.heap.size) u11.heap.size) [.slice Ah0o nh0o ch0o] x0 := tM.oiv h0o (by simp) (Nat.le_refl _)
  replace B := bel_trans B G
  clear G bb
  replace lt0 : w.heap.size < u11.heap.size := by omega
  replace lt1 : u3.heap.size < u11.heap.size := by omega
  go_wp2_with fail
  refine (HI.out _ _ _ _ (tM.read h0o) hw0).mono ?_
  rintro e u12 ⟨Ah0, nh0, ch0, rfl, h0, bb⟩
  have G := bb
  have zu12 : u11.heap.size ≤ u12.heap.size := by have := bb.size; simpa using this
  replace pb0_0 : u12.cell? ⟨w.heap.size, 0, none⟩ = some (.slice A0 n0 c0) := by rw [G.cell (by first | omega | (simp; done) | (simp; omega))]; exact pb0_0
  replace xb0_0 : u12.cell? ⟨u3.heap.size, 0, none⟩ = some (.slice Ax0o nx0o cx0o) := by rw [G.cell (by first | omega | (simp; done) | (simp; omega))]; exact xb0_0
  replace w0 := tSS.obelow w0 G (by omega)
  replace g0 := tSS.obelow g0 G (by omega)
  replace h0o := tM.obelow h0o G (by omega)
  replace h0 : tSS.O u12 (Iv (u11.heap.size) u12.heap.size) [.slice Ah0 nh0 ch0] z0 := tSS.oiv h0 (by simp) (Nat.le_refl _)
  replace B := bel_trans B G
  clear G bb
  replace lt0 : w.heap.size < u12.heap.size := by omega
  replace lt1 : u3.heap.size < u12.heap.size := by omega
  clear h0o
  go_wp2_with fail
  refine (nf_eq_SS _ _ _ _ _ _ _ _ (tSS.read h0) (tSS.read w0) (by omega)).mono ?_
  rintro e u13 ⟨rfl, bb⟩
  have G := bb
  have zu13 : u12.heap.size ≤ u13.heap.size := by have := bb.size; simpa using this
  replace pb0_0 : u13.cell? ⟨w.heap.size, 0, none⟩ = some (.slice A0 n0 c0) := by rw [G.cell (by first | omega | (simp; done) | (simp; omega))]; exact pb0_0
  replace xb0_0 : u13.cell? ⟨u3.heap.size, 0, none⟩ = some (.slice Ax0o nx0o cx0o) := by rw [G.cell (by first | omega | (simp; done) | (simp; omega))]; exact xb0_0
  replace w0 := tSS.obelow w0 G (by omega)
  replace g0 := tSS.obelow g0 G (by omega)
  replace h0 := tSS.obelow h0 G (by omega)
  replace B := bel_trans B G
  clear G bb
  replace lt0 : w.heap.size < u13.heap.size := by omega
  replace lt1 : u3.heap.size < u13.heap.size := by omega
  go_wp2_with fail
  refine (nf_held_SS _ _ _ _ _ _ (tSS.read g0) (by omega)).mono ?_
  rintro e u14 ⟨rfl, bb⟩
  have G := bb
  have zu14 : u13.heap.size ≤ u14.heap.size := by have := bb.size; simpa using this
  replace pb0_0 : u14.cell? ⟨w.heap.size, 0, none⟩ = some (.slice A0 n0 c0) := by rw [G.cell (by first | omega | (simp; done) | (simp; omega))]; exact pb0_0
  replace xb0_0 : u14.cell? ⟨u3.heap.size, 0, none⟩ = some (.slice Ax0o nx0o cx0o) := by rw [G.cell (by first | omega | (simp; done) | (simp; omega))]; exact xb0_0
  replace w0 := tSS.obelow w0 G (by omega)
  replace g0 := tSS.obelow g0 G (by omega)
  replace h0 := tSS.obelow h0 G (by omega)
  replace B := bel_trans B G
  clear G bb
  replace lt0 : w.heap.size < u14.heap.size := by omega
  replace lt1 : u3.heap.size < u14.heap.size := by omega
  go_wp2_with fail
  go_ret
  exact ⟨rfl, B⟩
end Go.Proofs.Ytebaffdaffcdmaa
