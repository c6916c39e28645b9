import Derived.Test.YtacgcagpaecncaaGreatFnExactValidSessionG8
import Derived.Deep.DeepCutAuto
set_option linter.unusedVariables false
set_option linter.unusedSimpArgs false
namespace Go.Proofs.YtacgcagpaecncaaGreat
open Go.RowKit
set_option maxRecDepth 100000
set_option maxHeartbeats 4000000 in
theorem core_FnExactIsLinearSession (p0 : Int) (A0 : Option Addr) (n0 : Nat) (c0 : Nat) (Ab0 : Option Addr) (nb0 : Nat) (cb0 : Nat) (Ac0 : Option Addr) (nc0 : Nat) (cc0 : Nat) (Ad0 : Option Addr) (nd0 : Nat) (cd0 : Nat) (Ae0 : Option Addr) (ne0 : Nat) (ce0 : Nat) (x0 : Sess) (z0 : Bool) (w : World)
    (hx0 : tZ.R w w.heap.size [.int .i64 p0, .slice A0 n0 c0, .slice Ab0 nb0 cb0, .slice Ac0 nc0 cc0, .slice Ad0 nd0 cd0, .slice Ae0 ne0 ce0] x0)
    (hSpec : ∀ (p0 : Int) (A0 : Option Addr) (n0 : Nat) (c0 : Nat) (Ab0 : Option Addr) (nb0 : Nat) (cb0 : Nat) (Ac0 : Option Addr) (nc0 : Nat) (cc0 : Nat) (Ad0 : Option Addr) (nd0 : Nat) (cd0 : Nat) (Ae0 : Option Addr) (ne0 : Nat) (ce0 : Nat) (w : World), tZ.R w w.heap.size [.int .i64 p0, .slice A0 n0 c0, .slice Ab0 nb0 cb0, .slice Ac0 nc0 cc0, .slice Ad0 nd0 cd0, .slice Ae0 ne0 ce0] x0 → hZ.sz x0 ≤ 1048576 → Calls Tryz.prog 11 #[.agg #[.int .i64 p0, .slice A0 n0 c0, .slice Ab0 nb0 cb0, .slice Ac0 nc0 cc0, .slice Ad0 nd0 cd0, .slice Ae0 ne0 ce0]] w fun e w' => e = .returned (.bool z0) ∧ Below w.heap.size w w')
    (hImp : ∀ (p0 : Int) (A0 : Option Addr) (n0 : Nat) (c0 : Nat) (Ab0 : Option Addr) (nb0 : Nat) (cb0 : Nat) (Ac0 : Option Addr) (nc0 : Nat) (cc0 : Nat) (Ad0 : Option Addr) (nd0 : Nat) (cd0 : Nat) (Ae0 : Option Addr) (ne0 : Nat) (ce0 : Nat) (w : World), tZ.R w w.heap.size [.int .i64 p0, .slice A0 n0 c0, .slice Ab0 nb0 cb0, .slice Ac0 nc0 cc0, .slice Ad0 nd0 cd0, .slice Ae0 ne0 ce0] x0 → hZ.sz x0 ≤ 1048576 → Calls Tryz.prog 12 #[.agg #[.int .i64 p0, .slice A0 n0 c0, .slice Ab0 nb0 cb0, .slice Ac0 nc0 cc0, .slice Ad0 nd0 cd0, .slice Ae0 ne0 ce0]] w fun e w' => e = .returned (.bool z0) ∧ Below w.heap.size w w') :
    Calls Tryz.prog 4 #[.agg #[.int .i64 p0, .slice A0 n0 c0, .slice Ab0 nb0 cb0, .slice Ac0 nc0 cc0, .slice Ad0 nd0 cd0, .slice Ae0 ne0 ce0]] w fun e w' => e = .returned (.bool true) ∧ Below w.heap.size w w' := by
  have HS := Lib.hid hSpec
  have HI := Lib.hid hImp
  clear hSpec hImp
  have B : Below w.heap.size w (w.alloc (.cells #[.int .i64 p0, .slice A0 n0 c0, .slice Ab0 nb0 cb0, .slice Ac0 nc0 cc0, .slice Ad0 nd0 cd0, .slice Ae0 ne0 ce0] 30)) := ((Below.refl _ _).alloc (by exact Nat.le_refl _) _)
  have hsize : (w.alloc (.cells #[.int .i64 p0, .slice A0 n0 c0, .slice Ab0 nb0 cb0, .slice Ac0 nc0 cc0, .slice Ad0 nd0 cd0, .slice Ae0 ne0 ce0] 30)).heap.size = w.heap.size + 1 := by simp
  have pb0_0 : (w.alloc (.cells #[.int .i64 p0, .slice A0 n0 c0, .slice Ab0 nb0 cb0, .slice Ac0 nc0 cc0, .slice Ad0 nd0 cd0, .slice Ae0 ne0 ce0] 30)).cell? ⟨w.heap.size, 0, none⟩ = some (.int .i64 p0) := by simp [go_sem]
  have pb0_1 : (w.alloc (.cells #[.int .i64 p0, .slice A0 n0 c0, .slice Ab0 nb0 cb0, .slice Ac0 nc0 cc0, .slice Ad0 nd0 cd0, .slice Ae0 ne0 ce0] 30)).cell? ⟨w.heap.size, 1, none⟩ = some (.slice A0 n0 c0) := by simp [go_sem]
  have pb0_2 : (w.alloc (.cells #[.int .i64 p0, .slice A0 n0 c0, .slice Ab0 nb0 cb0, .slice Ac0 nc0 cc0, .slice Ad0 nd0 cd0, .slice Ae0 ne0 ce0] 30)).cell? ⟨w.heap.size, 2, none⟩ = some (.slice Ab0 nb0 cb0) := by simp [go_sem]
  have pb0_3 : (w.alloc (.cells #[.int .i64 p0, .slice A0 n0 c0, .slice Ab0 nb0 cb0, .slice Ac0 nc0 cc0, .slice Ad0 nd0 cd0, .slice Ae0 ne0 ce0] 30)).cell? ⟨w.heap.size, 3, none⟩ = some (.slice Ac0 nc0 cc0) := by simp [go_sem]
  have pb0_4 : (w.alloc (.cells #[.int .i64 p0, .slice A0 n0 c0, .slice Ab0 nb0 cb0, .slice Ac0 nc0 cc0, .slice Ad0 nd0 cd0, .slice Ae0 ne0 ce0] 30)).cell? ⟨w.heap.size, 4, none⟩ = some (.slice Ad0 nd0 cd0) := by simp [go_sem]
  have pb0_5 : (w.alloc (.cells #[.int .i64 p0, .slice A0 n0 c0, .slice Ab0 nb0 cb0, .slice Ac0 nc0 cc0, .slice Ad0 nd0 cd0, .slice Ae0 ne0 ce0] 30)).cell? ⟨w.heap.size, 5, none⟩ = some (.slice Ae0 ne0 ce0) := by simp [go_sem]
  have left : ∀ (s : Nat) (l : Int), (s : Int) ≤ l → (if (s : Int) ≤ l then l - (s : Int) else -1) = l - (s : Int) := fun s l h => if_pos h
  have less : ∀ (s : Nat) (l : Int), ¬ (s : Int) ≤ l → (if (s : Int) ≤ l then l - (s : Int) else -1) = -1 := fun s l h => if_neg h
  have LEFT := Lib.hid left
  have LESS := Lib.hid less
  clear left less
  by_cases hb0 : (1048576 : Int) < (hZ.sz x0 : Int)
  · go_enter Tryz.func4, Tryz.ntmps4
    go_wp2_with fail
    refine (nf_sz_Y _ _ _ _ _ _ _ _ _ _ _ _ _ _ _ _ _ ((1048576 : Int)) _ (tZ.later hx0 B) (by omega)).mono ?_
    rw [LESS.out _ _ (by omega)]
    rintro e y0 ⟨rfl, b0⟩
    replace B := bel_trans B b0
    go_wp2_with fail
    go_ret
    exact ⟨rfl, B⟩
  have hw0 : hZ.sz x0 ≤ 1048576 := by omega
  have hd0 : decide ((1048576 : Int) - (hZ.sz x0 : Int) < 0) = false := by simp only [decide_eq_false_iff_not]; omega
  clear hsize
  go_enter Tryz.func4, Tryz.ntmps4
  go_wp2_with fail
  refine (nf_sz_Y _ _ _ _ _ _ _ _ _ _ _ _ _ _ _ _ _ ((1048576 : Int)) _ (tZ.later hx0 B) (by omega)).mono ?_
  rw [LEFT.out _ _ (by omega)]
  rintro e y0 ⟨rfl, b0⟩
  have zy0 : w.heap.size + 1 ≤ y0.heap.size := by have := b0.size; simpa using this
  replace pb0_0 : y0.cell? ⟨w.heap.size, 0, none⟩ = some (.int .i64 p0) := by rw [b0.cell (by first | omega | (simp; done) | (simp; omega))]; exact pb0_0
  replace pb0_1 : y0.cell? ⟨w.heap.size, 1, none⟩ = some (.slice A0 n0 c0) := by rw [b0.cell (by first | omega | (simp; done) | (simp; omega))]; exact pb0_1
  replace pb0_2 : y0.cell? ⟨w.heap.size, 2, none⟩ = some (.slice Ab0 nb0 cb0) := by rw [b0.cell (by first | omega | (simp; done) | (simp; omega))]; exact pb0_2
  replace pb0_3 : y0.cell? ⟨w.heap.size, 3, none⟩ = some (.slice Ac0 nc0 cc0) := by rw [b0.cell (by first | omega | (simp; done) | (simp; omega))]; exact pb0_3
  replace pb0_4 : y0.cell? ⟨w.heap.size, 4, none⟩ = some (.slice Ad0 nd0 cd0) := by rw [b0.cell (by first | omega | (simp; done) | (simp; omega))]; exact pb0_4
  replace pb0_5 : y0.cell? ⟨w.heap.size, 5, none⟩ = some (.slice Ae0 ne0 ce0) := by rw [b0.cell (by first | omega | (simp; done) | (simp; omega))]; exact pb0_5
  replace B := bel_trans B b0
  clear b0
  have lt0 : w.heap.size < y0.heap.size := by omega
  clear LEFT LESS
  go_wp2_with fail
  refine (nf_to_Y _ _ _ _ _ _ _ _ _ _ _ _ _ _ _ _ _ _ (tZ.later hx0 B) (by omega)).mono ?_
  rintro e u1 ⟨ps0, As0, ns0, cs0, Abs0, nbs0, cbs0, Acs0, ncs0, ccs0, Ads0, nds0, cds0, Aes0, nes0, ces0, rfl, s0, bb⟩
  have G := bb
  have zu1 : y0.heap.size ≤ u1.heap.size := by have := bb.size; simpa using this
  replace pb0_0 : u1.cell? ⟨w.heap.size, 0, none⟩ = some (.int .i64 p0) := by rw [G.cell (by first | omega | (simp; done) | (simp; omega))]; exact pb0_0
  replace pb0_1 : u1.cell? ⟨w.heap.size, 1, none⟩ = some (.slice A0 n0 c0) := by rw [G.cell (by first | omega | (simp; done) | (simp; omega))]; exact pb0_1
  replace pb0_2 : u1.cell? ⟨w.heap.size, 2, none⟩ = some (.slice Ab0 nb0 cb0) := by rw [G.cell (by first | omega | (simp; done) | (simp; omega))]; exact pb0_2
  replace pb0_3 : u1.cell? ⟨w.heap.size, 3, none⟩ = some (.slice Ac0 nc0 cc0) := by rw [G.cell (by first | omega | (simp; done) | (simp; omega))]; exact pb0_3
  replace pb0_4 : u1.cell? ⟨w.heap.size, 4, none⟩ = some (.slice Ad0 nd0 cd0) := by rw [G.cell (by first | omega | (simp; done) | (simp; omega))]; exact pb0_4
  replace pb0_5 : u1.cell? ⟨w.heap.size, 5, none⟩ = some (.slice Ae0 ne0 ce0) := by rw [G.cell (by first | omega | (simp; done) | (simp; omega))]; exact pb0_5
  replace s0 : tZ.O u1 (Iv (y0.heap.size) u1.heap.size) [.int .i64 ps0, .slice As0 ns0 cs0, .slice Abs0 nbs0 cbs0, .slice Acs0 ncs0 ccs0, .slice Ads0 nds0 cds0, .slice Aes0 nes0 ces0] x0 := tZ.oiv s0 (by simp) (Nat.le_refl _)
  replace B := bel_trans B G
  clear G bb
  replace lt0 : w.heap.size < u1.heap.size := by omega
  go_wp2_with fail
  refine (HS.out _ _ _ _ _ _ _ _ _ _ _ _ _ _ _ _ _ (tZ.read s0) hw0).mono ?_
  rintro e u2 ⟨rfl, bb⟩
  have G := bb
  have zu2 : u1.heap.size ≤ u2.heap.size := by have := bb.size; simpa using this
  replace pb0_0 : u2.cell? ⟨w.heap.size, 0, none⟩ = some (.int .i64 p0) := by rw [G.cell (by first | omega | (simp; done) | (simp; omega))]; exact pb0_0
  replace pb0_1 : u2.cell? ⟨w.heap.size, 1, none⟩ = some (.slice A0 n0 c0) := by rw [G.cell (by first | omega | (simp; done) | (simp; omega))]; exact pb0_1
  replace pb0_2 : u2.cell? ⟨w.heap.size, 2, none⟩ = some (.slice Ab0 nb0 cb0) := by rw [G.cell (by first | omega | (simp; done) | (simp; omega))]; exact pb0_2
  replace pb0_3 : u2.cell? ⟨w.heap.size, 3, none⟩ = some (.slice Ac0 nc0 cc0) := by rw [G.cell (by first | omega | (simp; done) | (simp; omega))]; exact pb0_3
  replace pb0_4 : u2.cell? ⟨w.heap.size, 4, none⟩ = some (.slice Ad0 nd0 cd0) := by rw [G.cell (by first | omega | (simp; done) | (simp; omega))]; exact pb0_4
  replace pb0_5 : u2.cell? ⟨w.heap.size, 5, none⟩ = some (.slice Ae0 ne0 ce0) := by rw [G.cell (by first | omega | (simp; done) | (simp; omega))]; exact pb0_5
  replace s0 := tZ.obelow s0 G (by omega)
  replace B := bel_trans B G
  clear G bb
  replace lt0 : w.heap.size < u2.heap.size := by omega
  clear s0
  go_wp2_with fail
  refine (nf_to_Y _ _ _ _ _ _ _ _ _ _ _ _ _ _ _ _ _ _ (tZ.later hx0 B) (by omega)).mono ?_
  rintro e u3 ⟨px0o, Ax0o, nx0o, cx0o, Abx0o, nbx0o, cbx0o, Acx0o, ncx0o, ccx0o, Adx0o, ndx0o, cdx0o, Aex0o, nex0o, cex0o, rfl, x0o, bb⟩
  have G := bb
  have zu3 : u2.heap.size ≤ u3.heap.size := by have := bb.size; simpa using this
  replace pb0_0 : u3.cell? ⟨w.heap.size, 0, none⟩ = some (.int .i64 p0) := by rw [G.cell (by first | omega | (simp; done) | (simp; omega))]; exact pb0_0
  replace pb0_1 : u3.cell? ⟨w.heap.size, 1, none⟩ = some (.slice A0 n0 c0) := by rw [G.cell (by first | omega | (simp; done) | (simp; omega))]; exact pb0_1
  replace pb0_2 : u3.cell? ⟨w.heap.size, 2, none⟩ = some (.slice Ab0 nb0 cb0) := by rw [G.cell (by first | omega | (simp; done) | (simp; omega))]; exact pb0_2
  replace pb0_3 : u3.cell? ⟨w.heap.size, 3, none⟩ = some (.slice Ac0 nc0 cc0) := by rw [G.cell (by first | omega | (simp; done) | (simp; omega))]; exact pb0_3
  replace pb0_4 : u3.cell? ⟨w.heap.size, 4, none⟩ = some (.slice Ad0 nd0 cd0) := by rw [G.cell (by first | omega | (simp; done) | (simp; omega))]; exact pb0_4
  replace pb0_5 : u3.cell? ⟨w.heap.size, 5, none⟩ = some (.slice Ae0 ne0 ce0) := by rw [G.cell (by first | omega | (simp; done) | (simp; omega))]; exact pb0_5
  replace x0o : tZ.O u3 (Iv (u2.heap.size) u3.heap.size) [.int .i64 px0o, .slice Ax0o nx0o cx0o, .slice Abx0o nbx0o cbx0o, .slice Acx0o ncx0o ccx0o, .slice Adx0o ndx0o cdx0o, .slice Aex0o nex0o cex0o] x0 := tZ.oiv x0o (by simp) (Nat.le_refl _)
  replace B := bel_trans B G
  clear G bb
  replace lt0 : w.heap.size < u3.heap.size := by omega
  have G0 : Below u3.heap.size u3 (u3.alloc (.cells #[.int .i64 px0o, .slice Ax0o nx0o cx0o, .slice Abx0o nbx0o cbx0o, .slice Acx0o ncx0o ccx0o, .slice Adx0o ndx0o cdx0o, .slice Aex0o nex0o cex0o] 39)) := (Below.refl _ _).alloc (Nat.le_refl _) _
  go_wp2_with fail
  refine (HI.out _ _ _ _ _ _ _ _ _ _ _ _ _ _ _ _ _ (tZ.later (tZ.read x0o) G0) hw0).mono ?_
  rintro e u4 ⟨rfl, bb⟩
  have G := bel_trans G0 bb
  have zu4 : u3.heap.size + 1 ≤ u4.heap.size := by have := bb.size; simp at this; omega
  replace pb0_0 : u4.cell? ⟨w.heap.size, 0, none⟩ = some (.int .i64 p0) := by rw [G.cell (by first | omega | (simp; done) | (simp; omega))]; exact pb0_0
  replace pb0_1 : u4.cell? ⟨w.heap.size, 1, none⟩ = some (.slice A0 n0 c0) := by rw [G.cell (by first | omega | (simp; done) | (simp; omega))]; exact pb0_1
  replace pb0_2 : u4.cell? ⟨w.heap.size, 2, none⟩ = some (.slice Ab0 nb0 cb0) := by rw [G.cell (by first | omega | (simp; done) | (simp; omega))]; exact pb0_2
  replace pb0_3 : u4.cell? ⟨w.heap.size, 3, none⟩ = some (.slice Ac0 nc0 cc0) := by rw [G.cell (by first | omega | (simp; done) | (simp; omega))]; exact pb0_3
  replace pb0_4 : u4.cell? ⟨w.heap.size, 4, none⟩ = some (.slice Ad0 nd0 cd0) := by rw [G.cell (by first | omega | (simp; done) | (simp; omega))]; exact pb0_4
  replace pb0_5 : u4.cell? ⟨w.heap.size, 5, none⟩ = some (.slice Ae0 ne0 ce0) := by rw [G.cell (by first | omega | (simp; done) | (simp; omega))]; exact pb0_5
  replace x0o := tZ.obelow x0o G (by omega)
  have xb0_0 : u4.cell? ⟨u3.heap.size, 0, none⟩ = some (.int .i64 px0o) := by rw [bb.cell (by simp)]; simp [go_sem]
  have xb0_1 : u4.cell? ⟨u3.heap.size, 1, none⟩ = some (.slice Ax0o nx0o cx0o) := by rw [bb.cell (by simp)]; simp [go_sem]
  have xb0_2 : u4.cell? ⟨u3.heap.size, 2, none⟩ = some (.slice Abx0o nbx0o cbx0o) := by rw [bb.cell (by simp)]; simp [go_sem]
  have xb0_3 : u4.cell? ⟨u3.heap.size, 3, none⟩ = some (.slice Acx0o ncx0o ccx0o) := by rw [bb.cell (by simp)]; simp [go_sem]
  have xb0_4 : u4.cell? ⟨u3.heap.size, 4, none⟩ = some (.slice Adx0o ndx0o cdx0o) := by rw [bb.cell (by simp)]; simp [go_sem]
  have xb0_5 : u4.cell? ⟨u3.heap.size, 5, none⟩ = some (.slice Aex0o nex0o cex0o) := by rw [bb.cell (by simp)]; simp [go_sem]
  replace B := bel_trans B G
  clear G bb G0
  replace lt0 : w.heap.size < u4.heap.size := by omega
  have lt1 : u3.heap.size < u4.heap.size := by omega
  go_wp2_with fail
  go_region_held3 (fun w' => Below u4.heap.size u4 w' ∧ w'.cell? ⟨w.heap.size, 0, none⟩ = some (.int .i64 p0) ∧ w'.cell? ⟨w.heap.size, 1, none⟩ = some (.slice A0 n0 c0) ∧ w'.cell? ⟨w.heap.size, 2, none⟩ = some (.slice Ab0 nb0 cb0) ∧ w'.cell? ⟨w.heap.size, 3, none⟩ = some (.slice Ac0 nc0 cc0) ∧ w'.cell? ⟨w.heap.size, 4, none⟩ = some (.slice Ad0 nd0 cd0) ∧ w'.cell? ⟨w.heap.size, 5, none⟩ = some (.slice Ae0 ne0 ce0) ∧ w'.cell? ⟨u3.heap.size, 0, none⟩ = some (.int .i64 px0o) ∧ w'.cell? ⟨u3.heap.size, 1, none⟩ = some (.slice Ax0o nx0o cx0o) ∧ w'.cell? ⟨u3.heap.size, 2, none⟩ = some (.slice Abx0o nbx0o cbx0o) ∧ w'.cell? ⟨u3.heap.size, 3, none⟩ = some (.slice Acx0o ncx0o ccx0o) ∧ w'.cell? ⟨u3.heap.size, 4, none⟩ = some (.slice Adx0o ndx0o cdx0o) ∧ w'.cell? ⟨u3.heap.size, 5, none⟩ = some (.slice Aex0o nex0o cex0o))
    (first | exact ⟨below_drewN (Below.refl _ _) _, pb0_0, pb0_1, pb0_2, pb0_3, pb0_4, pb0_5, xb0_0, xb0_1, xb0_2, xb0_3, xb0_4, xb0_5⟩ | exact ⟨gq, (by rw [gq.cell (by first | omega | (simp; done) | (simp; omega))]; exact pb0_0), (by rw [gq.cell (by first | omega | (simp; done) | (simp; omega))]; exact pb0_1), (by rw [gq.cell (by first | omega | (simp; done) | (simp; omega))]; exact pb0_2), (by rw [gq.cell (by first | omega | (simp; done) | (simp; omega))]; exact pb0_3), (by rw [gq.cell (by first | omega | (simp; done) | (simp; omega))]; exact pb0_4), (by rw [gq.cell (by first | omega | (simp; done) | (simp; omega))]; exact pb0_5), (by rw [gq.cell (by first | omega | (simp; done) | (simp; omega))]; exact xb0_0), (by rw [gq.cell (by first | omega | (simp; done) | (simp; omega))]; exact xb0_1), (by rw [gq.cell (by first | omega | (simp; done) | (simp; omega))]; exact xb0_2), (by rw [gq.cell (by first | omega | (simp; done) | (simp; omega))]; exact xb0_3), (by rw [gq.cell (by first | omega | (simp; done) | (simp; omega))]; exact xb0_4), (by rw [gq.cell (by first | omega | (simp; done) | (simp; omega))]; exact xb0_5)⟩ | exact ⟨gt, (by rw [gt.cell (by first | omega | (simp; done) | (simp; omega))]; exact pb0_0), (by rw [gt.cell (by first | omega | (simp; done) | (simp; omega))]; exact pb0_1), (by rw [gt.cell (by first | omega | (simp; done) | (simp; omega))]; exact pb0_2), (by rw [gt.cell (by first | omega | (simp; done) | (simp; omega))]; exact pb0_3), (by rw [gt.cell (by first | omega | (simp; done) | (simp; omega))]; exact pb0_4), (by rw [gt.cell (by first | omega | (simp; done) | (simp; omega))]; exact pb0_5), (by rw [gt.cell (by first | omega | (simp; done) | (simp; omega))]; exact xb0_0), (by rw [gt.cell (by first | omega | (simp; done) | (simp; omega))]; exact xb0_1), (by rw [gt.cell (by first | omega | (simp; done) | (simp; omega))]; exact xb0_2), (by rw [gt.cell (by first | omega | (simp; done) | (simp; omega))]; exact xb0_3), (by rw [gt.cell (by first | omega | (simp; done) | (simp; omega))]; exact xb0_4), (by rw [gt.cell (by first | omega | (simp; done) | (simp; omega))]; exact xb0_5)⟩)
    (first | (go_at_call 8; refine (nf_to_Y _ _ _ _ _ _ _ _ _ _ _ _ _ _ _ _ _ _ (tZ.later (tZ.later hx0 B) (below_drewN (Below.refl _ _) 1)) (by omega)).mono ?_; rintro e vt ⟨pq, Aq, nq, cq, Abq, nbq, cbq, Acq, ncq, ccq, Adq, ndq, cdq, Aeq, neq, ceq, rfl, ot, bt⟩; have gt : Below u4.heap.size u4 vt := bel_trans (below_drewN (Below.refl _ _) 1) bt) | (go_at_call 10; refine (nf_eq_Y _ _ _ _ _ _ _ _ _ _ _ _ _ _ _ _ _ _ _ _ _ _ _ _ _ _ _ _ _ _ _ _ _ _ (tZ.later (tZ.read x0o) gt) (tZ.read ot) (by omega)).mono ?_; rintro e u5 ⟨rfl, bq⟩; have gq : Below u4.heap.size u4 u5 := bel_trans gt bq))
  have zu5 : u4.heap.size ≤ u5.heap.size := gq.size
  replace pb0_0 : u5.cell? ⟨w.heap.size, 0, none⟩ = some (.int .i64 p0) := by rw [gq.cell (by first | omega | (simp; done) | (simp; omega))]; exact pb0_0
  replace pb0_1 : u5.cell? ⟨w.heap.size, 1, none⟩ = some (.slice A0 n0 c0) := by rw [gq.cell (by first | omega | (simp; done) | (simp; omega))]; exact pb0_1
  replace pb0_2 : u5.cell? ⟨w.heap.size, 2, none⟩ = some (.slice Ab0 nb0 cb0) := by rw [gq.cell (by first | omega | (simp; done) | (simp; omega))]; exact pb0_2
  replace pb0_3 : u5.cell? ⟨w.heap.size, 3, none⟩ = some (.slice Ac0 nc0 cc0) := by rw [gq.cell (by first | omega | (simp; done) | (simp; omega))]; exact pb0_3
  replace pb0_4 : u5.cell? ⟨w.heap.size, 4, none⟩ = some (.slice Ad0 nd0 cd0) := by rw [gq.cell (by first | omega | (simp; done) | (simp; omega))]; exact pb0_4
  replace pb0_5 : u5.cell? ⟨w.heap.size, 5, none⟩ = some (.slice Ae0 ne0 ce0) := by rw [gq.cell (by first | omega | (simp; done) | (simp; omega))]; exact pb0_5
  replace xb0_0 : u5.cell? ⟨u3.heap.size, 0, none⟩ = some (.int .i64 px0o) := by rw [gq.cell (by first | omega | (simp; done) | (simp; omega))]; exact xb0_0
  replace xb0_1 : u5.cell? ⟨u3.heap.size, 1, none⟩ = some (.slice Ax0o nx0o cx0o) := by rw [gq.cell (by first | omega | (simp; done) | (simp; omega))]; exact xb0_1
  replace xb0_2 : u5.cell? ⟨u3.heap.size, 2, none⟩ = some (.slice Abx0o nbx0o cbx0o) := by rw [gq.cell (by first | omega | (simp; done) | (simp; omega))]; exact xb0_2
  replace xb0_3 : u5.cell? ⟨u3.heap.size, 3, none⟩ = some (.slice Acx0o ncx0o ccx0o) := by rw [gq.cell (by first | omega | (simp; done) | (simp; omega))]; exact xb0_3
  replace xb0_4 : u5.cell? ⟨u3.heap.size, 4, none⟩ = some (.slice Adx0o ndx0o cdx0o) := by rw [gq.cell (by first | omega | (simp; done) | (simp; omega))]; exact xb0_4
  replace xb0_5 : u5.cell? ⟨u3.heap.size, 5, none⟩ = some (.slice Aex0o nex0o cex0o) := by rw [gq.cell (by first | omega | (simp; done) | (simp; omega))]; exact xb0_5
  replace x0o := tZ.obelow x0o gq (by omega)
  replace B := bel_trans B gq
  clear gq gt bq bt ot
  replace lt0 : w.heap.size < u5.heap.size := by omega
  replace lt1 : u3.heap.size < u5.heap.size := by omega
  have hk0 : hZ.cnt x0 ≤ 20000000 := by have := cl_Y x0; omega
  go_wp2_with fail
  go_ret
  exact ⟨rfl, B⟩
end Go.Proofs.YtacgcagpaecncaaGreat
