import Derived.Test.YtafbhangjeddaaaW51
namespace Go.Proofs.Ytafbhangjeddaaa
open Go.RowKit
set_option maxRecDepth 100000
set_option maxHeartbeats 4000000 in
theorem core_FnExactPhasesOf (A0 : Option Addr) (n0 : Nat) (c0 : Nat) (x0 : List Int) (a1 : Int) (z0 : List (List Int)) (z1 : Int) (w : World)
    (hx0 : tS.R w w.heap.size [.slice A0 n0 c0] x0)
    (hz0 : hSS.sz z0 ≤ 100000000) (hc0 : hSS.cnt z0 ≤ 100000000)
    (hSpec : ∀ (A0 : Option Addr) (n0 : Nat) (c0 : Nat) (w : World), tS.R w w.heap.size [.slice A0 n0 c0] x0 → hS.sz x0 ≤ 1048576 → Calls Try.prog 18 #[.slice A0 n0 c0, .int .i64 a1] w fun e w' => ∃ Ar0 nr0 cr0, e = .returned (.tuple #[.slice Ar0 nr0 cr0, .int .i64 z1]) ∧ tSS.O w' (Iv w.heap.size w'.heap.size) [.slice Ar0 nr0 cr0] z0 ∧ Below w.heap.size w w')
    (hImp : ∀ (A0 : Option Addr) (n0 : Nat) (c0 : Nat) (w : World), tS.R w w.heap.size [.slice A0 n0 c0] x0 → hS.sz x0 ≤ 1048576 → Calls Try.prog 19 #[.slice A0 n0 c0, .int .i64 a1] w fun e w' => ∃ Ar0 nr0 cr0, e = .returned (.tuple #[.slice Ar0 nr0 cr0, .int .i64 z1]) ∧ tSS.O w' (Iv w.heap.size w'.heap.size) [.slice Ar0 nr0 cr0] z0 ∧ Below w.heap.size w w') :
    Calls Try.prog 4 #[.slice A0 n0 c0, .int .i64 a1] w fun e w' => e = .returned (.bool true) ∧ Below w.heap.size w w' := by
  have HS := Lib.hid hSpec
  have HI := Lib.hid hImp
  clear hSpec hImp
  have B : Below w.heap.size w w := (Below.refl _ _)
  have hsize : w.heap.size = w.heap.size := by simp
  have hn0 := Lib.hid (tS_len hx0)
  by_cases hb0 : 1048576 < n0
  · go_enter Try.func4, Try.ntmps4
    go_wp2_with fail
    go_ret
    exact ⟨rfl, B⟩
  have hw0 : hS.sz x0 ≤ 1048576 := by rw [hS_sz, hn0.out]; omega
  clear hsize
  go_enter Try.func4, Try.ntmps4
  go_wp2_with fail
  refine (nf_to_S _ _ _ _ _ (tS.later hx0 B) (by omega)).mono ?_
  rintro e u1 ⟨As0, ns0, cs0, rfl, s0, bb⟩
  have G := bb
  have zu1 : w.heap.size ≤ u1.heap.size := by have := bb.size; simpa using this
  replace s0 : tS.O u1 (Iv (w.heap.size) u1.heap.size) [.slice As0 ns0 cs0] x0 := tS.oiv s0 (by simp) (Nat.le_refl _)
  replace B := bel_trans B G
  clear G bb
  go_wp2_with fail
  refine (HS.out _ _ _ _ (tS.read s0) hw0).mono ?_
  rintro e u2 ⟨Aw0, nw0, cw0, rfl, w0, bb⟩
  have G := bb
  have zu2 : u1.heap.size ≤ u2.heap.size := by have := bb.size; simpa using this
  replace s0 := tS.obelow s0 G (by omega)
  replace w0 : tSS.O u2 (Iv (u1.heap.size) u2.heap.size) [.slice Aw0 nw0 cw0] z0 := tSS.oiv w0 (by simp) (Nat.le_refl _)
  replace B := bel_trans B G
  clear G bb
  clear s0
  go_wp2_with fail
  refine (nf_to_S _ _ _ _ _ (tS.later hx0 B) (by omega)).mono ?_
  rintro e u3 ⟨Ax0o, nx0o, cx0o, rfl, x0o, bb⟩
  have G := bb
  have zu3 : u2.heap.size ≤ u3.heap.size := by have := bb.size; simpa using this
  replace w0 := tSS.obelow w0 G (by omega)
  replace x0o : tS.O u3 (Iv (u2.heap.size) u3.heap.size) [.slice Ax0o nx0o cx0o] x0 := tS.oiv x0o (by simp) (Nat.le_refl _)
  replace B := bel_trans B G
  clear G bb
  go_wp2_with fail
  refine (HI.out _ _ _ _ (tS.read x0o) hw0).mono ?_
  rintro e u4 ⟨Ag0, ng0, cg0, rfl, g0, bb⟩
  have G := bb
  have zu4 : u3.heap.size ≤ u4.heap.size := by have := bb.size; simpa using this
  replace w0 := tSS.obelow w0 G (by omega)
  replace x0o := tS.obelow x0o G (by omega)
  replace g0 : tSS.O u4 (Iv (u3.heap.size) u4.heap.size) [.slice Ag0 ng0 cg0] z0 := tSS.oiv g0 (by simp) (Nat.le_refl _)
  replace B := bel_trans B G
  clear G bb
  go_wp2_with fail
  refine (nf_eq_SS _ _ _ _ _ _ _ _ (tSS.read g0) (tSS.read w0) (by omega)).mono ?_
  rintro e u5 ⟨rfl, bb⟩
  have G := bb
  have zu5 : u4.heap.size ≤ u5.heap.size := by have := bb.size; simpa using this
  replace w0 := tSS.obelow w0 G (by omega)
  replace x0o := tS.obelow x0o G (by omega)
  replace g0 := tSS.obelow g0 G (by omega)
  replace B := bel_trans B G
  clear G bb
  go_wp2_with fail
  refine (nf_to_S _ _ _ _ _ (tS.later hx0 B) (by omega)).mono ?_
  rintro e u6 ⟨At0, nt0, ct0, rfl, t0, bb⟩
  have G := bb
  have zu6 : u5.heap.size ≤ u6.heap.size := by have := bb.size; simpa using this
  replace w0 := tSS.obelow w0 G (by omega)
  replace x0o := tS.obelow x0o G (by omega)
  replace g0 := tSS.obelow g0 G (by omega)
  replace t0 : tS.O u6 (Iv (u5.heap.size) u6.heap.size) [.slice At0 nt0 ct0] x0 := tS.oiv t0 (by simp) (Nat.le_refl _)
  replace B := bel_trans B G
  clear G bb
  go_wp2_with fail
  refine (nf_eq_S _ _ _ _ _ _ _ _ (tS.read x0o) (tS.read t0) (by omega)).mono ?_
  rintro e u7 ⟨rfl, bb⟩
  have G := bb
  have zu7 : u6.heap.size ≤ u7.heap.size := by have := bb.size; simpa using this
  replace w0 := tSS.obelow w0 G (by omega)
  replace x0o := tS.obelow x0o G (by omega)
  replace g0 := tSS.obelow g0 G (by omega)
  replace t0 := tS.obelow t0 G (by omega)
  replace B := bel_trans B G
  clear G bb
  clear t0
  have hk0 : hS.cnt x0 ≤ 20000000 := by have := cl_S x0; omega
  go_wp2_with fail
  refine (nf_mark_S _ _ _ _ _ _ _ x0o (by omega)).mono ?_
  rintro e u8 ⟨rfl, x0o, mm⟩
  have zu8 : u7.heap.size ≤ u8.heap.size := mm.size
  replace w0 := tSS.ochg w0 mm (by simp only [Iv]; omega)
  replace g0 := tSS.ochg g0 mm (by simp only [Iv]; omega)
  replace B : Below w.heap.size w u8 := B.trans (mm.toBelow (by simp only [Iv]; omega) (by omega))
  clear mm
  clear x0o
  go_wp2_with fail
  refine (nf_eq_SS _ _ _ _ _ _ _ _ (tSS.read g0) (tSS.read w0) (by omega)).mono ?_
  rintro e u9 ⟨rfl, bb⟩
  have G := bb
  have zu9 : u8.heap.size ≤ u9.heap.size := by have := bb.size; simpa using this
  replace w0 := tSS.obelow w0 G (by omega)
  replace g0 := tSS.obelow g0 G (by omega)
  replace B := bel_trans B G
  clear G bb
  go_wp2_with fail
  refine (nf_mark_SS _ _ _ _ _ _ _ g0 (by omega)).mono ?_
  rintro e u10 ⟨rfl, g0, mm⟩
  have zu10 : u9.heap.size ≤ u10.heap.size := mm.size
  replace w0 := tSS.ochg w0 mm (by simp only [Iv]; omega)
  replace B : Below w.heap.size w u10 := B.trans (mm.toBelow (by simp only [Iv]; omega) (by omega))
  clear mm
  go_wp2_with fail
  refine (nf_held_SS _ _ _ _ _ _ (tSS.read g0) (by omega)).mono ?_
  rintro e u11 ⟨rfl, bb⟩
  have G := bb
  have zu11 : u10.heap.size ≤ u11.heap.size := by have := bb.size; simpa using this
  replace w0 := tSS.obelow w0 G (by omega)
  replace g0 := tSS.obelow g0 G (by omega)
  replace B := bel_trans B G
  clear G bb
  go_wp2_with fail
  refine (nf_to_S _ _ _ _ _ (tS.later hx0 B) (by omega)).mono ?_
  rintro e u12 ⟨Ah0o, nh0o, ch0o, rfl, h0o, bb⟩
  have G := bb
  have zu12 : u11.heap.size ≤ u12.heap.size := by have := bb.size; simpa using this
  replace w0 := tSS.obelow w0 G (by omega)
  replace g0 := tSS.obelow g0 G (by omega)
  replace h0o : tS.O u12 (Iv (u11.heap.size) u12.heap.size) [.slice Ah0o nh0o ch0o] x0 := tS.oiv h0o (by simp) (Nat.le_refl _)
  replace B := bel_trans B G
  clear G bb
  go_wp2_with fail
  refine (HI.out _ _ _ _ (tS.read h0o) hw0).mono ?_
  rintro e u13 ⟨Ah0, nh0, ch0, rfl, h0, bb⟩
  have G := bb
  have zu13 : u12.heap.size ≤ u13.heap.size := by have := bb.size; simpa using this
  replace w0 := tSS.obelow w0 G (by omega)
  replace g0 := tSS.obelow g0 G (by omega)
  replace h0o := tS.obelow h0o G (by omega)
  replace h0 : tSS.O u13 (Iv (u12.heap.size) u13.heap.size) [.slice Ah0 nh0 ch0] z0 := tSS.oiv h0 (by simp) (Nat.le_refl _)
  replace B := bel_trans B G
  clear G bb
  clear h0o
  go_wp2_with fail
  refine (nf_eq_SS _ _ _ _ _ _ _ _ (tSS.read h0) (tSS.read w0) (by omega)).mono ?_
  rintro e u14 ⟨rfl, bb⟩
  have G := bb
  have zu14 : u13.heap.size ≤ u14.heap.size := by have := bb.size; simpa using this
  replace w0 := tSS.obelow w0 G (by omega)
  replace g0 := tSS.obelow g0 G (by omega)
  replace h0 := tSS.obelow h0 G (by omega)
  replace B := bel_trans B G
  clear G bb
  go_wp2_with fail
  refine (nf_held_SS _ _ _ _ _ _ (tSS.read g0) (by omega)).mono ?_
  rintro e u15 ⟨rfl, bb⟩
  have G := bb
  have zu15 : u14.heap.size ≤ u15.heap.size := by have := bb.size; simpa using this
  replace w0 := tSS.obelow w0 G (by omega)
  replace g0 := tSS.obelow g0 G (by omega)
  replace h0 := tSS.obelow h0 G (by omega)
  replace B := bel_trans B G
  clear G bb
  go_wp2_with fail
  go_ret
  exact ⟨rfl, B⟩
end Go.Proofs.Ytafbhangjeddaaa
