import Derived.Test.YtckihflfjecpbaaW40
import Derived.Deep.DeepCutAuto
namespace Go.Proofs.Ytckihflfjecpbaa
open Go.RowKit
set_option maxRecDepth 100000
set_option maxHeartbeats 4000000 in
theorem core_FnExactApplyCurve (A0 : Option Addr) (n0 : Nat) (c0 : Nat) (x0 : List Int) (A1 : Option Addr) (n1 : Nat) (c1 : Nat) (x1 : List (Int × Int)) (z0 : List Int) (z1 : Int) (w : World)
    (hx0 : tS.R w w.heap.size [.slice A0 n0 c0] x0)
    (hx1 : tC.R w w.heap.size [.slice A1 n1 c1] x1)
    (hz0 : hS.sz z0 ≤ 100000000) (hc0 : hS.cnt z0 ≤ 100000000)
    (hSpec : ∀ (A0 : Option Addr) (n0 : Nat) (c0 : Nat) (A1 : Option Addr) (n1 : Nat) (c1 : Nat) (w : World), tS.R w w.heap.size [.slice A0 n0 c0] x0 → tC.R w w.heap.size [.slice A1 n1 c1] x1 → hS.sz x0 ≤ 1048576 → hC.sz x1 ≤ 1048576 → Calls Try.prog 40 #[.slice A0 n0 c0, .agg #[.slice A1 n1 c1]] w fun e w' => ∃ Ar0 nr0 cr0, e = .returned (.tuple #[.slice Ar0 nr0 cr0, .int .i64 z1]) ∧ tS.O w' (Iv w.heap.size w'.heap.size) [.slice Ar0 nr0 cr0] z0 ∧ Below w.heap.size w w')
    (hImp : ∀ (A0 : Option Addr) (n0 : Nat) (c0 : Nat) (A1 : Option Addr) (n1 : Nat) (c1 : Nat) (w : World), tS.R w w.heap.size [.slice A0 n0 c0] x0 → tC.R w w.heap.size [.slice A1 n1 c1] x1 → hS.sz x0 ≤ 1048576 → hC.sz x1 ≤ 1048576 → Calls Try.prog 38 #[.slice A0 n0 c0, .agg #[.slice A1 n1 c1]] w fun e w' => ∃ Ar0 nr0 cr0, e = .returned (.tuple #[.slice Ar0 nr0 cr0, .int .i64 z1]) ∧ tS.O w' (Iv w.heap.size w'.heap.size) [.slice Ar0 nr0 cr0] z0 ∧ Below w.heap.size w w') :
    Calls Try.prog 7 #[.slice A0 n0 c0, .agg #[.slice A1 n1 c1]] w fun e w' => e = .returned (.bool true) ∧ Below w.heap.size w w' := by
  have HS := Lib.hid hSpec
  have HI := Lib.hid hImp
  clear hSpec hImp
  have B : Below w.heap.size w (w.alloc (.cells #[.slice A1 n1 c1] 24)) := ((Below.refl _ _).alloc (by exact Nat.le_refl _) _)
  have hsize : (w.alloc (.cells #[.slice A1 n1 c1] 24)).heap.size = w.heap.size + 1 := by simp
  have pb1_0 : (w.alloc (.cells #[.slice A1 n1 c1] 24)).cell? ⟨w.heap.size, 0, none⟩ = some (.slice A1 n1 c1) := by simp [go_sem]
  have hn0 := Lib.hid (tS_len hx0)
  by_cases hb0 : 1048576 < n0
  · go_enter Try.func7, Try.ntmps7
    go_wp2_with fail
    go_ret
    exact ⟨rfl, B⟩
  have left : ∀ (s : Nat) (l : Int), (s : Int) ≤ l → (if (s : Int) ≤ l then l - (s : Int) else -1) = l - (s : Int) := fun s l h => if_pos h
  have less : ∀ (s : Nat) (l : Int), ¬ (s : Int) ≤ l → (if (s : Int) ≤ l then l - (s : Int) else -1) = -1 := fun s l h => if_neg h
  have LEFT := Lib.hid left
  have LESS := Lib.hid less
  clear left less
  by_cases hb1 : (1048576 : Int) < (hC.sz x1 : Int)
  · go_enter Try.func7, Try.ntmps7
    go_wp2_with fail
    refine (nf_sz_C _ _ _ _ _ _ (tC.later hx1 B) (by omega)).mono ?_
    rw [LESS.out _ _ (by omega)]
    rintro e y0 ⟨rfl, b0⟩
    replace B := bel_trans B b0
    go_wp2_with fail
    go_ret
    exact ⟨rfl, B⟩
  have hw0 : hS.sz x0 ≤ 1048576 := by rw [hS_sz, hn0.out]; omega
  have hw1 : hC.sz x1 ≤ 1048576 := by omega
  have hd1 : decide ((1048576 : Int) - (hC.sz x1 : Int) < 0) = false := by simp only [decide_eq_false_iff_not]; omega
  clear hsize
  go_enter Try.func7, Try.ntmps7
  go_wp2_with fail
  refine (nf_sz_C _ _ _ _ _ _ (tC.later hx1 B) (by omega)).mono ?_
  rw [LEFT.out _ _ (by omega)]
  rintro e y0 ⟨rfl, b0⟩
  have zy0 : w.heap.size + 1 ≤ y0.heap.size := by have := b0.size; simpa using this
  replace pb1_0 : y0.cell? ⟨w.heap.size, 0, none⟩ = some (.slice A1 n1 c1) := by rw [b0.cell (by first | omega | (simp; done) | (simp; omega))]; exact pb1_0
  replace B := bel_trans B b0
  clear b0
  have lt0 : w.heap.size < y0.heap.size := by omega
  clear LEFT LESS
  go_upto_region 7 with fail
  go_cut [6, 7] (fun q6 q7 wx => ∃ (Aw0 : Option Addr) (nw0 : Nat) (cw0 : Nat) (lo0 hi0 : Nat), q6 = .slice Aw0 nw0 cw0 ∧ (tS.O wx (Iv lo0 hi0) [.slice Aw0 nw0 cw0] z0 ∧ y0.heap.size ≤ lo0 ∧ hi0 ≤ wx.heap.size) ∧ q7 = .int .i64 z1 ∧ Below y0.heap.size y0 wx)
  case first =>
    go_region_held3 (fun w' => Below y0.heap.size y0 w' ∧ w'.cell? ⟨w.heap.size, 0, none⟩ = some (.slice A1 n1 c1))
      (first | exact ⟨below_drewN (Below.refl _ _) _, pb1_0⟩ | exact ⟨gf, (by rw [gf.cell (by first | omega | (simp; done) | (simp; omega))]; exact pb1_0)⟩ | exact ⟨gz, (by rw [gz.cell (by first | omega | (simp; done) | (simp; omega))]; exact pb1_0)⟩ | exact ⟨g0, (by rw [g0.cell (by first | omega | (simp; done) | (simp; omega))]; exact pb1_0)⟩ | exact ⟨g1, (by rw [g1.cell (by first | omega | (simp; done) | (simp; omega))]; exact pb1_0)⟩)
      (first | (go_at_call 40; refine (HS.out _ _ _ _ _ _ _ (tS.read o0) (tC.read o1) hw0 hw1).mono ?_; rintro e vf ⟨Aw0, nw0, cw0, rfl, of0, bf⟩; have gf : Below y0.heap.size y0 vf := bel_trans gz bf) | (go_at_call 41; refine (nf_to_S _ _ _ _ _ (tS.later hx0 (bel_trans B g1)) (by omega)).mono ?_; rintro e v0 ⟨Ai0, ni0, ci0, rfl, o0, b0⟩; have g0 : Below y0.heap.size y0 v0 := bel_trans g1 b0; replace o1 := tC.obelow o1 b0 (Nat.le_refl _); have gz : Below y0.heap.size y0 v0 := g0) | (go_at_call 19; refine (nf_to_C _ _ _ _ _ (tC.later hx1 (bel_trans B g0)) (by omega)).mono ?_; rintro e v1 ⟨Ai1, ni1, ci1, rfl, o1, b1⟩; have g1 : Below y0.heap.size y0 v1 := bel_trans g0 b1; replace o0 := tS.obelow o0 b1 (Nat.le_refl _); have gz : Below y0.heap.size y0 v1 := g1) | (go_at_call 41; refine (nf_to_S _ _ _ _ _ (tS.later hx0 (bel_trans B (below_drewN (Below.refl _ _) 1))) (by omega)).mono ?_; rintro e v0 ⟨Ai0, ni0, ci0, rfl, o0, b0⟩; have g0 : Below y0.heap.size y0 v0 := kept_all b0 rfl (below_drewN (Below.refl _ _) 1)) | (go_at_call 19; refine (nf_to_C _ _ _ _ _ (tC.later hx1 (bel_trans B (below_drewN (Below.refl _ _) 1))) (by omega)).mono ?_; rintro e v1 ⟨Ai1, ni1, ci1, rfl, o1, b1⟩; have g1 : Below y0.heap.size y0 v1 := kept_all b1 rfl (below_drewN (Below.refl _ _) 1)))
    all_goals
      have GF := gf
      have zf := GF.size
      have zg := gz.size
      have zh := bf.size
      go_wp2_with fail
      go_meet
      exact ⟨_, _, _, _, _, rfl, ⟨of0, (by first | omega | (simp; omega)), (Nat.le_refl _)⟩, rfl, GF⟩
  case rest =>
    have hcut_ := hcut
    clear hcut
    obtain ⟨u1, rfl⟩ : ∃ u_ : World, u_ = wc := ⟨_, rfl⟩
    obtain ⟨Aw0, nw0, cw0, low0, hiw0, rfl, ⟨w0, e4w0, e5w0⟩, rfl, G⟩ := hcut_
    have zu1 : y0.heap.size ≤ u1.heap.size := by have := G.size; omega
    replace pb1_0 : u1.cell? ⟨w.heap.size, 0, none⟩ = some (.slice A1 n1 c1) := by rw [G.cell (by first | omega | (simp; done) | (simp; omega))]; exact pb1_0
    replace B := bel_trans B G
    clear G
    replace lt0 : w.heap.size < u1.heap.size := by omega
    go_wp2_with fail
    refine (nf_to_S _ _ _ _ _ (tS.later hx0 B) (by omega)).mono ?_
    rintro e u2 ⟨Ax0o, nx0o, cx0o, rfl, x0o, bb⟩
    have G := bb
    have zu2 : u1.heap.size ≤ u2.heap.size := by have := bb.size; simpa using this
    replace pb1_0 : u2.cell? ⟨w.heap.size, 0, none⟩ = some (.slice A1 n1 c1) := by rw [G.cell (by first | omega | (simp; done) | (simp; omega))]; exact pb1_0
    replace w0 := tS.obelow w0 G (by omega)
    replace x0o : tS.O u2 (Iv (u1.heap.size) u2.heap.size) [.slice Ax0o nx0o cx0o] x0 := tS.oiv x0o (by simp) (Nat.le_refl _)
    replace B := bel_trans B G
    clear G bb
    replace lt0 : w.heap.size < u2.heap.size := by omega
    go_wp2_with fail
    refine (nf_to_C _ _ _ _ _ (tC.later hx1 B) (by omega)).mono ?_
    rintro e u3 ⟨Ax1o, nx1o, cx1o, rfl, x1o, bb⟩
    have G := bb
    have zu3 : u2.heap.size ≤ u3.heap.size := by have := bb.size; simpa using this
    replace pb1_0 : u3.cell? ⟨w.heap.size, 0, none⟩ = some (.slice A1 n1 c1) := by rw [G.cell (by first | omega | (simp; done) | (simp; omega))]; exact pb1_0
    replace w0 := tS.obelow w0 G (by omega)
    replace x0o := tS.obelow x0o G (by omega)
    replace x1o : tC.O u3 (Iv (u2.heap.size) u3.heap.size) [.slice Ax1o nx1o cx1o] x1 := tC.oiv x1o (by simp) (Nat.le_refl _)
    replace B := bel_trans B G
    clear G bb
    replace lt0 : w.heap.size < u3.heap.size := by omega
    have G0 : Below u3.heap.size u3 (u3.alloc (.cells #[.slice Ax1o nx1o cx1o] 30)) := (Below.refl _ _).alloc (Nat.le_refl _) _
    go_wp2_with fail
    refine (HI.out _ _ _ _ _ _ _ (tS.later (tS.read x0o) G0) (tC.later (tC.read x1o) G0) hw0 hw1).mono ?_
    rintro e u4 ⟨Ag0, ng0, cg0, rfl, g0, bb⟩
    have G := bel_trans G0 bb
    have zu4 : u3.heap.size + 1 ≤ u4.heap.size := by have := bb.size; simp at this; omega
    replace pb1_0 : u4.cell? ⟨w.heap.size, 0, none⟩ = some (.slice A1 n1 c1) := by rw [G.cell (by first | omega | (simp; done) | (simp; omega))]; exact pb1_0
    replace w0 := tS.obelow w0 G (by omega)
    replace x0o := tS.obelow x0o G (by omega)
    replace x1o := tC.obelow x1o G (by omega)
    have xb1_0 : u4.cell? ⟨u3.heap.size, 0, none⟩ = some (.slice Ax1o nx1o cx1o) := by rw [bb.cell (by simp)]; simp [go_sem]
    replace g0 : tS.O u4 (Iv (u3.heap.size + 1) u4.heap.size) [.slice Ag0 ng0 cg0] z0 := tS.oiv g0 (by simp) (Nat.le_refl _)
    replace B := bel_trans B G
    clear G bb G0
    replace lt0 : w.heap.size < u4.heap.size := by omega
    have lt1 : u3.heap.size < u4.heap.size := by omega
    go_wp2_with fail
    refine (nf_eq_S _ _ _ _ _ _ _ _ (tS.read g0) (tS.read w0) (by omega)).mono ?_
    rintro e u5 ⟨rfl, bb⟩
    have G := bb
    have zu5 : u4.heap.size ≤ u5.heap.size := by have := bb.size; simpa using this
    replace pb1_0 : u5.cell? ⟨w.heap.size, 0, none⟩ = some (.slice A1 n1 c1) := by rw [G.cell (by first | omega | (simp; done) | (simp; omega))]; exact pb1_0
    replace xb1_0 : u5.cell? ⟨u3.heap.size, 0, none⟩ = some (.slice Ax1o nx1o cx1o) := by rw [G.cell (by first | omega | (simp; done) | (simp; omega))]; exact xb1_0
    replace w0 := tS.obelow w0 G (by omega)
    replace x0o := tS.obelow x0o G (by omega)
    replace x1o := tC.obelow x1o G (by omega)
    replace g0 := tS.obelow g0 G (by omega)
    replace B := bel_trans B G
    clear G bb
    replace lt0 : w.heap.size < u5.heap.size := by omega
    replace lt1 : u3.heap.size < u5.heap.size := by omega
    go_wp2_with fail
    refine (nf_to_S _ _ _ _ _ (tS.later hx0 B) (by omega)).mono ?_
    rintro e u6 ⟨At0, nt0, ct0, rfl, t0, bb⟩
    have G := bb
    have zu6 : u5.heap.size ≤ u6.heap.size := by have := bb.size; simpa using this
    replace pb1_0 : u6.cell? ⟨w.heap.size, 0, none⟩ = some (.slice A1 n1 c1) := by rw [G.cell (by first | omega | (simp; done) | (simp; omega))]; exact pb1_0
    replace xb1_0 : u6.cell? ⟨u3.heap.size, 0, none⟩ = some (.slice Ax1o nx1o cx1o) := by rw [G.cell (by first | omega | (simp; done) | (simp; omega))]; exact xb1_0
    replace w0 := tS.obelow w0 G (by omega)
    replace x0o := tS.obelow x0o G (by omega)
    replace x1o := tC.obelow x1o G (by omega)
    replace g0 := tS.obelow g0 G (by omega)
    replace t0 : tS.O u6 (Iv (u5.heap.size) u6.heap.size) [.slice At0 nt0 ct0] x0 := tS.oiv t0 (by simp) (Nat.le_refl _)
    replace B := bel_trans B G
    clear G bb
    replace lt0 : w.heap.size < u6.heap.size := by omega
    replace lt1 : u3.heap.size < u6.heap.size := by omega
    go_wp2_with fail
    refine (nf_eq_S _ _ _ _ _ _ _ _ (tS.read x0o) (tS.read t0) (by omega)).mono ?_
    rintro e u7 ⟨rfl, bb⟩
    have G := bb
    have zu7 : u6.heap.size ≤ u7.heap.size := by have := bb.size; simpa using this
    replace pb1_0 : u7.cell? ⟨w.heap.size, 0, none⟩ = some (.slice A1 n1 c1) := by rw [G.cell (by first | omega | (simp; done) | (simp; omega))]; exact pb1_0
    replace xb1_0 : u7.cell? ⟨u3.heap.size, 0, none⟩ = some (.slice Ax1o nx1o cx1o) := by rw [G.cell (by first | omega | (simp; done) | (simp; omega))]; exact xb1_0
    replace w0 := tS.obelow w0 G (by omega)
    replace x0o := tS.obelow x0o G (by omega)
    replace x1o := tC.obelow x1o G (by omega)
    replace g0 := tS.obelow g0 G (by omega)
    replace t0 := tS.obelow t0 G (by omega)
    replace B := bel_trans B G
    clear G bb
    replace lt0 : w.heap.size < u7.heap.size := by omega
    replace lt1 : u3.heap.size < u7.heap.size := by omega
    clear t0
    go_wp2_with fail
    go_region_held3 (fun w' => Below u7.heap.size u7 w' ∧ w'.cell? ⟨w.heap.size, 0, none⟩ = some (.slice A1 n1 c1) ∧ w'.cell? ⟨u3.heap.size, 0, none⟩ = some (.slice Ax1o nx1o cx1o))
      (first | exact ⟨below_drewN (Below.refl _ _) _, pb1_0, xb1_0⟩ | exact ⟨gq, (by rw [gq.cell (by first | omega | (simp; done) | (simp; omega))]; exact pb1_0), (by rw [gq.cell (by first | omega | (simp; done) | (simp; omega))]; exact xb1_0)⟩ | exact ⟨gt, (by rw [gt.cell (by first | omega | (simp; done) | (simp; omega))]; exact pb1_0), (by rw [gt.cell (by first | omega | (simp; done) | (simp; omega))]; exact xb1_0)⟩)
      (first | (go_at_call 19; refine (nf_to_C _ _ _ _ _ (tC.later (tC.later hx1 B) (below_drewN (Below.refl _ _) 1)) (by omega)).mono ?_; rintro e vt ⟨Aq, nq, cq, rfl, ot, bt⟩; have gt : Below u7.heap.size u7 vt := kept_all bt rfl (below_drewN (Below.refl _ _) 1)) | (go_at_call 22; refine (nf_eq_C _ _ _ _ _ _ _ _ (tC.later (tC.read x1o) gt) (tC.read ot) (by omega)).mono ?_; rintro e u8 ⟨rfl, bq⟩; have gq : Below u7.heap.size u7 u8 := bel_trans gt bq))
    have zu8 : u7.heap.size ≤ u8.heap.size := gq.size
    replace pb1_0 : u8.cell? ⟨w.heap.size, 0, none⟩ = some (.slice A1 n1 c1) := by rw [gq.cell (by first | omega | (simp; done) | (simp; omega))]; exact pb1_0
    replace xb1_0 : u8.cell? ⟨u3.heap.size, 0, none⟩ = some (.slice Ax1o nx1o cx1o) := by rw [gq.cell (by first | omega | (simp; done) | (simp; omega))]; exact xb1_0
    replace w0 := tS.obelow w0 gq (by omega)
    replace x0o := tS.obelow x0o gq (by omega)
    replace x1o := tC.obelow x1o gq (by omega)
    replace g0 := tS.obelow g0 gq (by omega)
    replace B := bel_trans B gq
    clear gq gt bq bt ot
    replace lt0 : w.heap.size < u8.heap.size := by omega
    replace lt1 : u3.heap.size < u8.heap.size := by omega
    have hk0 : hS.cnt x0 ≤ 20000000 := by have := cl_S x0; omega
    have hk1 : hC.cnt x1 ≤ 20000000 := by have := cl_C x1; omega
    go_wp2_with fail
    refine (nf_mark_S _ _ _ _ _ _ _ x0o (by omega)).mono ?_
    rintro e u9 ⟨rfl, x0o, mm⟩
    have zu9 : u8.heap.size ≤ u9.heap.size := mm.size
    replace pb1_0 : u9.cell? ⟨w.heap.size, 0, none⟩ = some (.slice A1 n1 c1) := by rw [World.cell?_of_block (mm.block _ (by first | omega | (simp; done) | (simp; omega)) (by first | (simp [Iv]; done) | (simp [Iv]; omega)))]; exact pb1_0
    replace xb1_0 : u9.cell? ⟨u3.heap.size, 0, none⟩ = some (.slice Ax1o nx1o cx1o) := by rw [World.cell?_of_block (mm.block _ (by first | omega | (simp; done) | (simp; omega)) (by first | (simp [Iv]; done) | (simp [Iv]; omega)))]; exact xb1_0
    replace w0 := tS.ochg w0 mm (by simp only [Iv]; omega)
    replace x1o := tC.ochg x1o mm (by simp only [Iv]; omega)
    replace g0 := tS.ochg g0 mm (by simp only [Iv]; omega)
    replace B : Below w.heap.size w u9 := B.trans (mm.toBelow (by simp only [Iv]; omega) (by omega))
    clear mm
    replace lt0 : w.heap.size < u9.heap.size := by omega
    replace lt1 : u3.heap.size < u9.heap.size := by omega
    clear x0o
    go_wp2_with fail
    refine (nf_mark_C _ _ _ _ _ _ _ _ x1o (by omega) (by omega)).mono ?_
    rintro e u10 ⟨rfl, x1o, mm⟩
    have zu10 : u9.heap.size ≤ u10.heap.size := mm.size
    replace pb1_0 : u10.cell? ⟨w.heap.size, 0, none⟩ = some (.slice A1 n1 c1) := by rw [World.cell?_of_block (mm.block _ (by first | omega | (simp; done) | (simp; omega)) (by first | (simp [Iv]; done) | (simp [Iv]; omega)))]; exact pb1_0
    replace xb1_0 : u10.cell? ⟨u3.heap.size, 0, none⟩ = some (.slice Ax1o nx1o cx1o) := by rw [World.cell?_of_block (mm.block _ (by first | omega | (simp; done) | (simp; omega)) (by first | (simp [Iv]; done) | (simp [Iv]; omega)))]; exact xb1_0
    replace w0 := tS.ochg w0 mm (by simp only [Iv]; omega)
    replace g0 := tS.ochg g0 mm (by simp only [Iv]; omega)
    replace B : Below w.heap.size w u10 := B.trans (mm.toBelow (by simp only [Iv]; omega) (by omega))
    clear mm
    replace lt0 : w.heap.size < u10.heap.size := by omega
    replace lt1 : u3.heap.size < u10.heap.size := by omega
    clear x1o
    go_wp2_with fail
    refine (nf_eq_S _ _ _ _ _ _ _ _ (tS.read g0) (tS.read w0) (by omega)).mono ?_
    rintro e u11 ⟨rfl, bb⟩
    have G := bb
    have zu11 : u10.heap.size ≤ u11.heap.size := by have := bb.size; simpa using this
    replace pb1_0 : u11.cell? ⟨w.heap.size, 0, none⟩ = some (.slice A1 n1 c1) := by rw [G.cell (by first | omega | (simp; done) | (simp; omega))]; exact pb1_0
    replace xb1_0 : u11.cell? ⟨u3.heap.size, 0, none⟩ = some (.slice Ax1o nx1o cx1o) := by rw [G.cell (by first | omega | (simp; done) | (simp; omega))]; exact xb1_0
    replace w0 := tS.obelow w0 G (by omega)
    replace g0 := tS.obelow g0 G (by omega)
    replace B := bel_trans B G
    clear G bb
    replace lt0 : w.heap.size < u11.heap.size := by omega
    replace lt1 : u3.heap.size < u11.heap.size := by omega
    go_wp2_with fail
    refine (nf_mark_S _ _ _ _ _ _ _ g0 (by omega)).mono ?_
    rintro e u12 ⟨rfl, g0, mm⟩
    have zu12 : u11.heap.size ≤ u12.heap.size := mm.size
    replace pb1_0 : u12.cell? ⟨w.heap.size, 0, none⟩ = some (.slice A1 n1 c1) := by rw [World.cell?_of_block (mm.block _ (by first | omega | (simp; done) | (simp; omega)) (by first | (simp [Iv]; done) | (simp [Iv]; omega)))]; exact pb1_0
    replace xb1_0 : u12.cell? ⟨u3.heap.size, 0, none⟩ = some (.slice Ax1o nx1o cx1o) := by rw [World.cell?_of_block (mm.block _ (by first | omega | (simp; done) | (simp; omega)) (by first | (simp [Iv]; done) | (simp [Iv]; omega)))]; exact xb1_0
    replace w0 := tS.ochg w0 mm (by simp only [Iv]; omega)
    replace B : Below w.heap.size w u12 := B.trans (mm.toBelow (by simp only [Iv]; omega) (by omega))
    clear mm
    replace lt0 : w.heap.size < u12.heap.size := by omega
    replace lt1 : u3.heap.size < u12.heap.size := by omega
    go_wp2_with fail
    refine (nf_held_S _ _ _ _ _ _ (tS.read g0) (by omega)).mono ?_
    rintro e u13 ⟨rfl, bb⟩
    have G := bb
    have zu13 : u12.heap.size ≤ u13.heap.size := by have := bb.size; simpa using this
    replace pb1_0 : u13.cell? ⟨w.heap.size, 0, none⟩ = some (.slice A1 n1 c1) := by rw [G.cell (by first | omega | (simp; done) | (simp; omega))]; exact pb1_0
    replace xb1_0 : u13.cell? ⟨u3.heap.size, 0, none⟩ = some (.slice Ax1o nx1o cx1o) := by rw [G.cell (by first | omega | (simp; done) | (simp; omega))]; exact xb1_0
    replace w0 := tS.obelow w0 G (by omega)
    replace g0 := tS.obelow g0 G (by omega)
    replace B := bel_trans B G
    clear G bb
    replace lt0 : w.heap.size < u13.heap.size := by omega
    replace lt1 : u3.heap.size < u13.heap.size := by omega
    go_upto_region 30 with fail
    go_cut [15, 16] (fun q15 q16 wx => ∃ (Ah0 : Option Addr) (nh0 : Nat) (ch0 : Nat) (lo0 hi0 : Nat), q15 = .slice Ah0 nh0 ch0 ∧ (tS.O wx (Iv lo0 hi0) [.slice Ah0 nh0 ch0] z0 ∧ u13.heap.size ≤ lo0 ∧ hi0 ≤ wx.heap.size) ∧ q16 = .int .i64 z1 ∧ Below u13.heap.size u13 wx)
    case first =>
      go_region_held3 (fun w' => Below u13.heap.size u13 w' ∧ w'.cell? ⟨w.heap.size, 0, none⟩ = some (.slice A1 n1 c1) ∧ w'.cell? ⟨u3.heap.size, 0, none⟩ = some (.slice Ax1o nx1o cx1o))
        (first | exact ⟨below_drewN (Below.refl _ _) _, pb1_0, xb1_0⟩ | exact ⟨gf, (by rw [gf.cell (by first | omega | (simp; done) | (simp; omega))]; exact pb1_0), (by rw [gf.cell (by first | omega | (simp; done) | (simp; omega))]; exact xb1_0)⟩ | exact ⟨gz, (by rw [gz.cell (by first | omega | (simp; done) | (simp; omega))]; exact pb1_0), (by rw [gz.cell (by first | omega | (simp; done) | (simp; omega))]; exact xb1_0)⟩ | exact ⟨g0, (by rw [g0.cell (by first | omega | (simp; done) | (simp; omega))]; exact pb1_0), (by rw [g0.cell (by first | omega | (simp; done) | (simp; omega))]; exact xb1_0)⟩ | exact ⟨g1, (by rw [g1.cell (by first | omega | (simp; done) | (simp; omega))]; exact pb1_0), (by rw [g1.cell (by first | omega | (simp; done) | (simp; omega))]; exact xb1_0)⟩)
        (first | (go_at_call 38; refine (HI.out _ _ _ _ _ _ _ (tS.read o0) (tC.read o1) hw0 hw1).mono ?_; rintro e vf ⟨Ah0, nh0, ch0, rfl, of0, bf⟩; have gf : Below u13.heap.size u13 vf := bel_trans gz bf) | (go_at_call 41; refine (nf_to_S _ _ _ _ _ (tS.later hx0 (bel_trans B g1)) (by omega)).mono ?_; rintro e v0 ⟨Ai0, ni0, ci0, rfl, o0, b0⟩; have g0 : Below u13.heap.size u13 v0 := bel_trans g1 b0; replace o1 := tC.obelow o1 b0 (Nat.le_refl _); have gz : Below u13.heap.size u13 v0 := g0) | (go_at_call 19; refine (nf_to_C _ _ _ _ _ (tC.later hx1 (bel_trans B g0)) (by omega)).mono ?_; rintro e v1 ⟨Ai1, ni1, ci1, rfl, o1, b1⟩; have g1 : Below u13.heap.size u13 v1 := bel_trans g0 b1; replace o0 := tS.obelow o0 b1 (Nat.le_refl _); have gz : Below u13.heap.size u13 v1 := g1) | (go_at_call 41; refine (nf_to_S _ _ _ _ _ (tS.later hx0 (bel_trans B (below_drewN (Below.refl _ _) 1))) (by omega)).mono ?_; rintro e v0 ⟨Ai0, ni0, ci0, rfl, o0, b0⟩; have g0 : Below u13.heap.size u13 v0 := kept_all b0 rfl (below_drewN (Below.refl _ _) 1)) | (go_at_call 19; refine (nf_to_C _ _ _ _ _ (tC.later hx1 (bel_trans B (below_drewN (Below.refl _ _) 1))) (by omega)).mono ?_; rintro e v1 ⟨Ai1, ni1, ci1, rfl, o1, b1⟩; have g1 : Below u13.heap.size u13 v1 := kept_all b1 rfl (below_drewN (Below.refl _ _) 1)))
      all_goals
        have GF := gf
        have zf := GF.size
        have zg := gz.size
        have zh := bf.size
        go_wp2_with fail
        go_meet
        exact ⟨_, _, _, _, _, rfl, ⟨of0, (by first | omega | (simp; omega)), (Nat.le_refl _)⟩, rfl, GF⟩
    case rest =>
      have hcut_ := hcut
      clear hcut
      obtain ⟨u14, rfl⟩ : ∃ u_ : World, u_ = wc := ⟨_, rfl⟩
      obtain ⟨Ah0, nh0, ch0, loh0, hih0, rfl, ⟨h0, e4h0, e5h0⟩, rfl, G⟩ := hcut_
      have zu14 : u13.heap.size ≤ u14.heap.size := by have := G.size; omega
      replace pb1_0 : u14.cell? ⟨w.heap.size, 0, none⟩ = some (.slice A1 n1 c1) := by rw [G.cell (by first | omega | (simp; done) | (simp; omega))]; exact pb1_0
      replace xb1_0 : u14.cell? ⟨u3.heap.size, 0, none⟩ = some (.slice Ax1o nx1o cx1o) := by rw [G.cell (by first | omega | (simp; done) | (simp; omega))]; exact xb1_0
      replace w0 := tS.obelow w0 G (by omega)
      replace g0 := tS.obelow g0 G (by omega)
      replace B := bel_trans B G
      clear G
      replace lt0 : w.heap.size < u14.heap.size := by omega
      replace lt1 : u3.heap.size < u14.heap.size := by omega
      go_wp2_with fail
      refine (nf_eq_S _ _ _ _ _ _ _ _ (tS.read h0) (tS.read w0) (by omega)).mono ?_
      rintro e u15 ⟨rfl, bb⟩
      have G := bb
      have zu15 : u14.heap.size ≤ u15.heap.size := by have := bb.size; simpa using this
      replace pb1_0 : u15.cell? ⟨w.heap.size, 0, none⟩ = some (.slice A1 n1 c1) := by rw [G.cell (by first | omega | (simp; done) | (simp; omega))]; exact pb1_0
      replace xb1_0 : u15.cell? ⟨u3.heap.size, 0, none⟩ = some (.slice Ax1o nx1o cx1o) := by rw [G.cell (by first | omega | (simp; done) | (simp; omega))]; exact xb1_0
      replace w0 := tS.obelow w0 G (by omega)
      replace g0 := tS.obelow g0 G (by omega)
      replace h0 := tS.obelow h0 G (by omega)
      replace B := bel_trans B G
      clear G bb
      replace lt0 : w.heap.size < u15.heap.size := by omega
      replace lt1 : u3.heap.size < u15.heap.size := by omega
      go_wp2_with fail
      refine (nf_held_S _ _ _ _ _ _ (tS.read g0) (by omega)).mono ?_
      rintro e u16 ⟨rfl, bb⟩
      have G := bb
      have zu16 : u15.heap.size ≤ u16.heap.size := by have := bb.size; simpa using this
      replace pb1_0 : u16.cell? ⟨w.heap.size, 0, none⟩ = some (.slice A1 n1 c1) := by rw [G.cell (by first | omega | (simp; done) | (simp; omega))]; exact pb1_0
      replace xb1_0 : u16.cell? ⟨u3.heap.size, 0, none⟩ = some (.slice Ax1o nx1o cx1o) := by rw [G.cell (by first | omega | (simp; done) | (simp; omega))]; exact xb1_0
      replace w0 := tS.obelow w0 G (by omega)
      replace g0 := tS.obelow g0 G (by omega)
      replace h0 := tS.obelow h0 G (by omega)
      replace B := bel_trans B G
      clear G bb
      replace lt0 : w.heap.size < u16.heap.size := by omega
      replace lt1 : u3.heap.size < u16.heap.size := by omega
      go_wp2_with fail
      go_ret
      exact ⟨rfl, B⟩
end Go.Proofs.Ytckihflfjecpbaa
