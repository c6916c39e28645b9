import Derived.Test.YtffhodocjjkkoaaGreatFnExactStripsOfG14
import Derived.Deep.DeepCutAuto
import Derived.Test.YtffhodocjjkkoaaGreatFnExactStripsOfG1
import Derived.Deep.Slices
import Derived.Deep.Fields
import Derived.ChangeSame
import Derived.Lib.SmallJoins
import Derived.Test.YtffhodocjjkkoaaGreatFnExactStripsOfG2
import Derived.Test.YtffhodocjjkkoaaGreatFnExactStripsOfG6
import Derived.Test.YtffhodocjjkkoaaGreatFnExactStripsOfG3
import Derived.Test.YtffhodocjjkkoaaGreatFnExactStripsOfG5
set_option linter.unusedVariables false
set_option linter.unusedSimpArgs false
namespace Go.Proofs.YtffhodocjjkkoaaGreat
open Go.RowKit
set_option maxRecDepth 100000
set_option maxHeartbeats 4000000 in
theorem core_FnExactStripsOf (p0 : Int) (A0 : Option Addr) (n0 : Nat) (c0 : Nat) (Ab0 : Option Addr) (nb0 : Nat) (cb0 : Nat) (Ac0 : Option Addr) (nc0 : Nat) (cc0 : Nat) (Ad0 : Option Addr) (nd0 : Nat) (cd0 : Nat) (Ae0 : Option Addr) (ne0 : Nat) (ce0 : Nat) (x0 : Sess) (z0 : List (List Int)) (z1 : Int) (w : World)
    (hx0 : tZ.R w w.heap.size [.int .i64 p0, .slice A0 n0 c0, .slice Ab0 nb0 cb0, .slice Ac0 nc0 cc0, .slice Ad0 nd0 cd0, .slice Ae0 ne0 ce0] x0)
    (hz0 : hSS.sz z0 ≤ 100000000) (hc0 : hSS.cnt z0 ≤ 100000000)
    (hSpec : ∀ (p0 : Int) (A0 : Option Addr) (n0 : Nat) (c0 : Nat) (Ab0 : Option Addr) (nb0 : Nat) (cb0 : Nat) (Ac0 : Option Addr) (nc0 : Nat) (cc0 : Nat) (Ad0 : Option Addr) (nd0 : Nat) (cd0 : Nat) (Ae0 : Option Addr) (ne0 : Nat) (ce0 : Nat) (w : World), tZ.R w w.heap.size [.int .i64 p0, .slice A0 n0 c0, .slice Ab0 nb0 cb0, .slice Ac0 nc0 cc0, .slice Ad0 nd0 cd0, .slice Ae0 ne0 ce0] x0 → hZ.sz x0 ≤ 1048576 → Calls Tryz.prog 17 #[.agg #[.int .i64 p0, .slice A0 n0 c0, .slice Ab0 nb0 cb0, .slice Ac0 nc0 cc0, .slice Ad0 nd0 cd0, .slice Ae0 ne0 ce0]] w fun e w' => ∃ Ar0 nr0 cr0, e = .returned (.tuple #[.slice Ar0 nr0 cr0, .int .i64 z1]) ∧ tSS.O w' (Iv w.heap.size w'.heap.size) [.slice Ar0 nr0 cr0] z0 ∧ Below w.heap.size w w')
    (hImp : ∀ (p0 : Int) (A0 : Option Addr) (n0 : Nat) (c0 : Nat) (Ab0 : Option Addr) (nb0 : Nat) (cb0 : Nat) (Ac0 : Option Addr) (nc0 : Nat) (cc0 : Nat) (Ad0 : Option Addr) (nd0 : Nat) (cd0 : Nat) (Ae0 : Option Addr) (ne0 : Nat) (ce0 : Nat) (w : World), tZ.R w w.heap.size [.int .i64 p0, .slice A0 n0 c0, .slice Ab0 nb0 cb0, .slice Ac0 nc0 cc0, .slice Ad0 nd0 cd0, .slice Ae0 ne0 ce0] x0 → hZ.sz x0 ≤ 1048576 → Calls Tryz.prog 18 #[.agg #[.int .i64 p0, .slice A0 n0 c0, .slice Ab0 nb0 cb0, .slice Ac0 nc0 cc0, .slice Ad0 nd0 cd0, .slice Ae0 ne0 ce0]] w fun e w' => ∃ Ar0 nr0 cr0, e = .returned (.tuple #[.slice Ar0 nr0 cr0, .int .i64 z1]) ∧ tSS.O w' (Iv w.heap.size w'.heap.size) [.slice Ar0 nr0 cr0] z0 ∧ Below w.heap.size w w') :
    Calls Tryz.prog 4 #[.agg #[.int .i64 p0, .slice A0 n0 c0, .slice Ab0 nb0 cb0, .slice Ac0 nc0 cc0, .slice Ad0 nd0 cd0, .slice Ae0 ne0 ce0]] w fun e w' => e = .returned (.bool true) ∧ Below w.heap.size w w' := by
  have HS := Lib.hid hSpec
  have HI := Lib.hid hImp
  clear hSpec hImp
  have B : Below w.heap.size w (w.alloc (.cells #[.int .i64 p0, .slice A0 n0 c0, .slice Ab0 nb0 cb0, .slice Ac0 nc0 cc0, .slice Ad0 nd0 cd0, .slice Ae0 ne0 ce0] 30)) := ((Below.refl _ _).alloc (by exact Nat.le_refl _) _)
  have hsize : (w.alloc (.cells #[.int .i64 p0, .slice A0 n0 c0, .slice Ab0 nb0 cb0, .slice Ac0 nc0 cc0, .slice Ad0 nd0 cd0, .slice Ae0 ne0 ce0] 30)).heap.size = w.heap.size + 1 := by simp
  have pb0_0 : (w.alloc (.cells #[.int .i64 p0, .slice A0 n0 c0, .slice Ab0 nb0 cb0, .slice Ac0 nc0 cc0, .slice Ad0 nd0 cd0, .slice Ae0 ne0 ce0] 30)).cell? ⟨w.heap.size, 0, none⟩ = some (.int .i64 p0) := by simp [go_sem]
  have pb0_1 : (w.alloc (.cells #[.int .i64 p0, .slice A0 n0 c0, .slice Ab0 nb0 cb0, .slice Ac0 nc0 cc0, .slice Ad0 nd0 cd0, .slice Ae0 ne0 ce0] 30)).cell? ⟨w.heap.size, 1, none⟩ = some (.slice A0 n0 c0) := by simp [go_sem]
  have pb0_2 : (w.alloc (.cells #[.int .i64 p0, .slice A0 n0 c0, .slice Ab0 nb0 cb0, .slice Ac0 nc0 cc0, .slice Ad0 nd0 cd0, .slice Ae0 ne0 ce0] 30)).cell? ⟨w.heap.size, 2, none⟩ = some (.slice Ab0 nb0 cb0) := by simp [go_sem]
  have pb0_3 : (w.alloc (.cells #[.int .i64 p0, .slice A0 n0 c0, .slice Ab0 nb0 cb0, .slice Ac0 nc0 cc0, .slice Ad0 nd0 cd0, .slice Ae0 ne0 ce0] 30)).cell? ⟨w.heap.size, 3, none⟩ = some (.slice Ac0 nc0 cc0) := by simp [go_sem]
  have pb0_4 : (w.alloc (.cells #[.int .i64 p0, .slice A0 n0 c0, .slice Ab0 nb0 cb0, .slice Ac0 nc0 cc0, .slice Ad0 nd0 cd0, .slice Ae0 ne0 ce0] 30)).cell? ⟨w.heap.size, 4, none⟩ = some (.slice Ad0 nd0 cd0) := by simp [go_sem]
  have pb0_5 : (w.alloc (.cells #[.int .i64 p0, .slice A0 n0 c0, .slice Ab0 nb0 cb0, .slice Ac0 nc0 cc0, .slice Ad0 nd0 cd0, .slice Ae0 ne0 ce0] 30)).cell? ⟨w.heap.size, 5, none⟩ = some (.slice Ae0 ne0 ce0) := by simp [go_sem]
  have left : ∀ (s : Nat) (l : Int), (s : Int) ≤ l → (if (s : Int) ≤ l then l - (s : Int) else -1) = l - (s : Int) := fun s l h => if_pos h
  have less : ∀ (s : Nat) (l : Int), ¬ (s : Int) ≤ l → (if (s : Int) ≤ l then l - (s : Int) else -1) = -1 := fun s l h => if_neg h
  have LEFT := Lib.hid left
  have LESS := Lib.hid less
  clear left less
  by_cases hb0 : (1048576 : Int) < (hZ.sz x0 : Int)
  · go_enter Tryz.func4, Tryz.ntmps4
    go_wp2_with fail
    refine (nf_sz_Y _ _ _ _ _ _ _ _ _ _ _ _ _ _ _ _ _ ((1048576 : Int)) _ (tZ.later hx0 B) (by omega)).mono ?_
    rw [LESS.out _ _ (by omega)]
    rintro e y0 ⟨rfl, b0⟩
    replace B := bel_trans B b0
    go_wp2_with fail
    go_ret
    exact ⟨rfl, B⟩
  have hw0 : hZ.sz x0 ≤ 1048576 := by omega
  have hd0 : decide ((1048576 : Int) - (hZ.sz x0 : Int) < 0) = false := by simp only [decide_eq_false_iff_not]; omega
  clear hsize
  go_enter Tryz.func4, Tryz.ntmps4
  go_wp2_with fail
  refine (nf_sz_Y _ _ _ _ _ _ _ _ _ _ _ _ _ _ _ _ _ ((1048576 : Int)) _ (tZ.later hx0 B) (by omega)).mono ?_
  rw [LEFT.out _ _ (by omega)]
  rintro e y0 ⟨rfl, b0⟩
  have zy0 : w.heap.size + 1 ≤ y0.heap.size := by have := b0.size; simpa using this
  replace pb0_0 : y0.cell? ⟨w.heap.size, 0, none⟩ = some (.int .i64 p0) := by rw [b0.cell (by first | omega | (simp; done) | (simp; omega))]; exact pb0_0
  replace pb0_1 : y0.cell? ⟨w.heap.size, 1, none⟩ = some (.slice A0 n0 c0) := by rw [b0.cell (by first | omega | (simp; done) | (simp; omega))]; exact pb0_1
  replace pb0_2 : y0.cell? ⟨w.heap.size, 2, none⟩ = some (.slice Ab0 nb0 cb0) := by rw [b0.cell (by first | omega | (simp; done) | (simp; omega))]; exact pb0_2
  replace pb0_3 : y0.cell? ⟨w.heap.size, 3, none⟩ = some (.slice Ac0 nc0 cc0) := by rw [b0.cell (by first | omega | (simp; done) | (simp; omega))]; exact pb0_3
  replace pb0_4 : y0.cell? ⟨w.heap.size, 4, none⟩ = some (.slice Ad0 nd0 cd0) := by rw [b0.cell (by first | omega | (simp; done) | (simp; omega))]; exact pb0_4
  replace pb0_5 : y0.cell? ⟨w.heap.size, 5, none⟩ = some (.slice Ae0 ne0 ce0) := by rw [b0.cell (by first | omega | (simp; done) | (simp; omega))]; exact pb0_5
  replace B := bel_trans B b0
  clear b0
  have lt0 : w.heap.size < y0.heap.size := by omega
  clear LEFT LESS
  go_wp2_with fail
  refine (nf_to_Y _ _ _ _ _ _ _ _ _ _ _ _ _ _ _ _ _ _ (tZ.later hx0 B) (by omega)).mono ?_
  rintro e u1 ⟨ps0, As0, ns0, cs0, Abs0, nbs0, cbs0, Acs0, ncs0, ccs0, Ads0, nds0, cds0, Aes0, nes0, ces0, rfl, s0, bb⟩
  have G := bb
  have zu1 : y0.heap.size ≤ u1.heap.size := by have := bb.size; simpa using this
  replace pb0_0 : u1.cell? ⟨w.heap.size, 0, none⟩ = some (.int .i64 p0) := by rw [G.cell (by first | omega | (simp; done) | (simp; omega))]; exact pb0_0
  replace pb0_1 : u1.cell? ⟨w.heap.size, 1, none⟩ = some (.slice A0 n0 c0) := by rw [G.cell (by first | omega | (simp; done) | (simp; omega))]; exact pb0_1
  replace pb0_2 : u1.cell? ⟨w.heap.size, 2, none⟩ = some (.slice Ab0 nb0 cb0) := by rw [G.cell (by first | omega | (simp; done) | (simp; omega))]; exact pb0_2
  replace pb0_3 : u1.cell? ⟨w.heap.size, 3, none⟩ = some (.slice Ac0 nc0 cc0) := by rw [G.cell (by first | omega | (simp; done) | (simp; omega))]; exact pb0_3
  replace pb0_4 : u1.cell? ⟨w.heap.size, 4, none⟩ = some (.slice Ad0 nd0 cd0) := by rw [G.cell (by first | omega | (simp; done) | (simp; omega))]; exact pb0_4
  replace pb0_5 : u1.cell? ⟨w.heap.size, 5, none⟩ = some (.slice Ae0 ne0 ce0) := by rw [G.cell (by first | omega | (simp; done) | (simp; omega))]; exact pb0_5
  replace s0 : tZ.O u1 (Iv (y0.heap.size) u1.heap.size) [.int .i64 ps0, .slice As0 ns0 cs0, .slice Abs0 nbs0 cbs0, .slice Acs0 ncs0 ccs0, .slice Ads0 nds0 cds0, .slice Aes0 nes0 ces0] x0 := tZ.oiv s0 (by simp) (Nat.le_refl _)
  replace B := bel_trans B G
  clear G bb
  replace lt0 : w.heap.size < u1.heap.size := by omega
  go_wp2_with fail
  refine (HS.out _ _ _ _ _ _ _ _ _ _ _ _ _ _ _ _ _ (tZ.read s0) hw0).mono ?_
  rintro e u2 ⟨Aw0, nw0, cw0, rfl, w0, bb⟩
  have G := bb
  have zu2 : u1.heap.size ≤ u2.heap.size := by have := bb.size; simpa using this
  replace pb0_0 : u2.cell? ⟨w.heap.size, 0, none⟩ = some (.int .i64 p0) := by rw [G.cell (by first | omega | (simp; done) | (simp; omega))]; exact pb0_0
  replace pb0_1 : u2.cell? ⟨w.heap.size, 1, none⟩ = some (.slice A0 n0 c0) := by rw [G.cell (by first | omega | (simp; done) | (simp; omega))]; exact pb0_1
  replace pb0_2 : u2.cell? ⟨w.heap.size, 2, none⟩ = some (.slice Ab0 nb0 cb0) := by rw [G.cell (by first | omega | (simp; done) | (simp; omega))]; exact pb0_2
  replace pb0_3 : u2.cell? ⟨w.heap.size, 3, none⟩ = some (.slice Ac0 nc0 cc0) := by rw [G.cell (by first | omega | (simp; done) | (simp; omega))]; exact pb0_3
  replace pb0_4 : u2.cell? ⟨w.heap.size, 4, none⟩ = some (.slice Ad0 nd0 cd0) := by rw [G.cell (by first | omega | (simp; done) | (simp; omega))]; exact pb0_4
  replace pb0_5 : u2.cell? ⟨w.heap.size, 5, none⟩ = some (.slice Ae0 ne0 ce0) := by rw [G.cell (by first | omega | (simp; done) | (simp; omega))]; exact pb0_5
  replace s0 := tZ.obelow s0 G (by omega)
  replace w0 : tSS.O u2 (Iv (u1.heap.size) u2.heap.size) [.slice Aw0 nw0 cw0] z0 := tSS.oiv w0 (by simp) (Nat.le_refl _)
  replace B := bel_trans B G
  clear G bb
  replace lt0 : w.heap.size < u2.heap.size := by omega
  clear s0
  go_wp2_with fail
  refine (nf_to_Y _ _ _ _ _ _ _ _ _ _ _ _ _ _ _ _ _ _ (tZ.later hx0 B) (by omega)).mono ?_
  rintro e u3 ⟨px0o, Ax0o, nx0o, cx0o, Abx0o, nbx0o, cbx0o, Acx0o, ncx0o, ccx0o, Adx0o, ndx0o, cdx0o, Aex0o, nex0o, cex0o, rfl, x0o, bb⟩
  have G := bb
  have zu3 : u2.heap.size ≤ u3.heap.size := by have := bb.size; simpa using this
  replace pb0_0 : u3.cell? ⟨w.heap.size, 0, none⟩ = some (.int .i64 p0) := by rw [G.cell (by first | omega | (simp; done) | (simp; omega))]; exact pb0_0
  replace pb0_1 : u3.cell? ⟨w.heap.size, 1, none⟩ = some (.slice A0 n0 c0) := by rw [G.cell (by first | omega | (simp; done) | (simp; omega))]; exact pb0_1
  replace pb0_2 : u3.cell? ⟨w.heap.size, 2, none⟩ = some (.slice Ab0 nb0 cb0) := by rw [G.cell (by first | omega | (simp; done) | (simp; omega))]; exact pb0_2
  replace pb0_3 : u3.cell? ⟨w.heap.size, 3, none⟩ = some (.slice Ac0 nc0 cc0) := by rw [G.cell (by first | omega | (simp; done) | (simp; omega))]; exact pb0_3
  replace pb0_4 : u3.cell? ⟨w.heap.size, 4, none⟩ = some (.slice Ad0 nd0 cd0) := by rw [G.cell (by first | omega | (simp; done) | (simp; omega))]; exact pb0_4
  replace pb0_5 : u3.cell? ⟨w.heap.size, 5, none⟩ = some (.slice Ae0 ne0 ce0) := by rw [G.cell (by first | omega | (simp; done) | (simp; omega))]; exact pb0_5
  replace w0 := tSS.obelow w0 G (by omega)
  replace x0o : tZ.O u3 (Iv (u2.heap.size) u3.heap.size) [.int .i64 px0o, .slice Ax0o nx0o cx0o, .slice Abx0o nbx0o cbx0o, .slice Acx0o ncx0o ccx0o, .slice Adx0o ndx0o cdx0o, .slice Aex0o nex0o cex0o] x0 := tZ.oiv x0o (by simp) (Nat.le_refl _)
  replace B := bel_trans B G
  clear G bb
  replace lt0 : w.heap.size < u3.heap.size := by omega
  have G0 : Below u3.heap.size u3 (u3.alloc (.cells #[.int .i64 px0o, .slice Ax0o nx0o cx0o, .slice Abx0o nbx0o cbx0o, .slice Acx0o ncx0o ccx0o, .slice Adx0o ndx0o cdx0o, .slice Aex0o nex0o cex0o] 40)) := (Below.refl _ _).alloc (Nat.le_refl _) _
  go_wp2_with fail
  refine (HI.out _ _ _ _ _ _ _ _ _ _ _ _ _ _ _ _ _ (tZ.later (tZ.read x0o) G0) hw0).mono ?_
  rintro e u4 ⟨Ag0, ng0, cg0, rfl, g0, bb⟩
  have G := bel_trans G0 bb
  have zu4 : u3.heap.size + 1 ≤ u4.heap.size := by have := bb.size; simp at this; omega
  replace pb0_0 : u4.cell? ⟨w.heap.size, 0, none⟩ = some (.int .i64 p0) := by rw [G.cell (by first | omega | (simp; done) | (simp; omega))]; exact pb0_0
  replace pb0_1 : u4.cell? ⟨w.heap.size, 1, none⟩ = some (.slice A0 n0 c0) := by rw [G.cell (by first | omega | (simp; done) | (simp; omega))]; exact pb0_1
  replace pb0_2 : u4.cell? ⟨w.heap.size, 2, none⟩ = some (.slice Ab0 nb0 cb0) := by rw [G.cell (by first | omega | (simp; done) | (simp; omega))]; exact pb0_2
  replace pb0_3 : u4.cell? ⟨w.heap.size, 3, none⟩ = some (.slice Ac0 nc0 cc0) := by rw [G.cell (by first | omega | (simp; done) | (simp; omega))]; exact pb0_3
  replace pb0_4 : u4.cell? ⟨w.heap.size, 4, none⟩ = some (.slice Ad0 nd0 cd0) := by rw [G.cell (by first | omega | (simp; done) | (simp; omega))]; exact pb0_4
  replace pb0_5 : u4.cell? ⟨w.heap.size, 5, none⟩ = some (.slice Ae0 ne0 ce0) := by rw [G.cell (by first | omega | (simp; done) | (simp; omega))]; exact pb0_5
  replace w0 := tSS.obelow w0 G (by omega)
  replace x0o := tZ.obelow x0o G (by omega)
  have xb0_0 : u4.cell? ⟨u3.heap.size, 0, none⟩ = some (.int .i64 px0o) := by rw [bb.cell (by simp)]; simp [go_sem]
  have xb0_1 : u4.cell? ⟨u3.heap.size, 1, none⟩ = some (.slice Ax0o nx0o cx0o) := by rw [bb.cell (by simp)]; simp [go_sem]
  have xb0_2 : u4.cell? ⟨u3.heap.size, 2, none⟩ = some (.slice Abx0o nbx0o cbx0o) := by rw [bb.cell (by simp)]; simp [go_sem]
  have xb0_3 : u4.cell? ⟨u3.heap.size, 3, none⟩ = some (.slice Acx0o ncx0o ccx0o) := by rw [bb.cell (by simp)]; simp [go_sem]
  have xb0_4 : u4.cell? ⟨u3.heap.size, 4, none⟩ = some (.slice Adx0o ndx0o cdx0o) := by rw [bb.cell (by simp)]; simp [go_sem]
  have xb0_5 : u4.cell? ⟨u3.heap.size, 5, none⟩ = some (.slice Aex0o nex0o cex0o) := by rw [bb.cell (by simp)]; simp [go_sem]
  replace g0 : tSS.O u4 (Iv (u3.heap.size + 1) u4.heap.size) [.slice Ag0 ng0 cg0] z0 := tSS.oiv g0 (by simp) (Nat.le_refl _)
  replace B := bel_trans B G
  clear G bb G0
  replace lt0 : w.heap.size < u4.heap.size := by omega
  have lt1 : u3.heap.size < u4.heap.size := by omega
  go_wp2_with fail
  refine (nf_eq_SS _ _ _ _ _ _ _ _ (tSS.read g0) (tSS.read w0) (by omega)).mono ?_
  rintro e u5 ⟨rfl, bb⟩
  have G := bb
  have zu5 : u4.heap.size ≤ u5.heap.size := by have := bb.size; simpa using this
  replace pb0_0 : u5.cell? ⟨w.heap.size, 0, none⟩ = some (.int .i64 p0) := by rw [G.cell (by first | omega | (simp; done) | (simp; omega))]; exact pb0_0
  replace pb0_1 : u5.cell? ⟨w.heap.size, 1, none⟩ = some (.slice A0 n0 c0) := by rw [G.cell (by first | omega | (simp; done) | (simp; omega))]; exact pb0_1
  replace pb0_2 : u5.cell? ⟨w.heap.size, 2, none⟩ = some (.slice Ab0 nb0 cb0) := by rw [G.cell (by first | omega | (simp; done) | (simp; omega))]; exact pb0_2
  replace pb0_3 : u5.cell? ⟨w.heap.size, 3, none⟩ = some (.slice Ac0 nc0 cc0) := by rw [G.cell (by first | omega | (simp; done) | (simp; omega))]; exact pb0_3
  replace pb0_4 : u5.cell? ⟨w.heap.size, 4, none⟩ = some (.slice Ad0 nd0 cd0) := by rw [G.cell (by first | omega | (simp; done) | (simp; omega))]; exact pb0_4
  replace pb0_5 : u5.cell? ⟨w.heap.size, 5, none⟩ = some (.slice Ae0 ne0 ce0) := by rw [G.cell (by first | omega | (simp; done) | (simp; omega))]; exact pb0_5
  replace xb0_0 : u5.cell? ⟨u3.heap.size, 0, none⟩ = some (.int .i64 px0o) := by rw [G.cell (by first | omega | (simp; done) | (simp; omega))]; exact xb0_0
  replace xb0_1 : u5.cell? ⟨u3.heap.size, 1, none⟩ = some (.slice Ax0o nx0o cx0o) := by rw [G.cell (by first | omega | (simp; done) | (simp; omega))]; exact xb0_1
  replace xb0_2 : u5.cell? ⟨u3.heap.size, 2, none⟩ = some (.slice Abx0o nbx0o cbx0o) := by rw [G.cell (by first | omega | (simp; done) | (simp; omega))]; exact xb0_2
  replace xb0_3 : u5.cell? ⟨u3.heap.size, 3, none⟩ = some (.slice Acx0o ncx0o ccx0o) := by rw [G.cell (by first | omega | (simp; done) | (simp; omega))]; exact xb0_3
  replace xb0_4 : u5.cell? ⟨u3.heap.size, 4, none⟩ = some (.slice Adx0o ndx0o cdx0o) := by rw [G.cell (by first | omega | (simp; done) | (simp; omega))]; exact xb0_4
  replace xb0_5 : u5.cell? ⟨u3.heap.size, 5, none⟩ = some (.slice Aex0o nex0o cex0o) := by rw [G.cell (by first | omega | (simp; done) | (simp; omega))]; exact xb0_5
  replace w0 := tSS.obelow w0 G (by omega)
  replace x0o := tZ.obelow x0o G (by omega)
  replace g0 := tSS.obelow g0 G (by omega)
  replace B := bel_trans B G
  clear G bb
  replace lt0 : w.heap.size < u5.heap.size := by omega
  replace lt1 : u3.heap.size < u5.heap.size := by omega
  go_wp2_with fail
  go_region_held3 (fun w' => Below u5.heap.size u5 w' ∧ w'.cell? ⟨w.heap.size, 0, none⟩ = some (.int .i64 p0) ∧ w'.cell? ⟨w.heap.size, 1, none⟩ = some (.slice A0 n0 c0) ∧ w'.cell? ⟨w.heap.size, 2, none⟩ = some (.slice Ab0 nb0 cb0) ∧ w'.cell? ⟨w.heap.size, 3, none⟩ = some (.slice Ac0 nc0 cc0) ∧ w'.cell? ⟨w.heap.size, 4, none⟩ = some (.slice Ad0 nd0 cd0) ∧ w'.cell? ⟨w.heap.size, 5, none⟩ = some (.slice Ae0 ne0 ce0) ∧ w'.cell? ⟨u3.heap.size, 0, none⟩ = some (.int .i64 px0o) ∧ w'.cell? ⟨u3.heap.size, 1, none⟩ = some (.slice Ax0o nx0o cx0o) ∧ w'.cell? ⟨u3.heap.size, 2, none⟩ = some (.slice Abx0o nbx0o cbx0o) ∧ w'.cell? ⟨u3.heap.size, 3, none⟩ = some (.slice Acx0o ncx0o ccx0o) ∧ w'.cell? ⟨u3.heap.size, 4, none⟩ = some (.slice Adx0o ndx0o cdx0o) ∧ w'.cell? ⟨u3.heap.size, 5, none⟩ = some (.slice Aex0o nex0o cex0o))
    (first | exact ⟨below_drewN (Below.refl _ _) _, pb0_0, pb0_1, pb0_2, pb0_3, pb0_4, pb0_5, xb0_0, xb0_1, xb0_2, xb0_3, xb0_4, xb0_5⟩ | exact ⟨gq, (by rw [gq.cell (by first | omega | (simp; done) | (simp; omega))]; exact pb0_0), (by rw [gq.cell (by first | omega | (simp; done) | (simp; omega))]; exact pb0_1), (by rw [gq.cell (by first | omega | (simp; done) | (simp; omega))]; exact pb0_2), (by rw [gq.cell (by first | omega | (simp; done) | (simp; omega))]; exact pb0_3), (by rw [gq.cell (by first | omega | (simp; done) | (simp; omega))]; exact pb0_4), (by rw [gq.cell (by first | omega | (simp; done) | (simp; omega))]; exact pb0_5), (by rw [gq.cell (by first | omega | (simp; done) | (simp; omega))]; exact xb0_0), (by rw [gq.cell (by first | omega | (simp; done) | (simp; omega))]; exact xb0_1), (by rw [gq.cell (by first | omega | (simp; done) | (simp; omega))]; exact xb0_2), (by rw [gq.cell (by first | omega | (simp; done) | (simp; omega))]; exact xb0_3), (by rw [gq.cell (by first | omega | (simp; done) | (simp; omega))]; exact xb0_4), (by rw [gq.cell (by first | omega | (simp; done) | (simp; omega))]; exact xb0_5)⟩ | exact ⟨gt, (by rw [gt.cell (by first | omega | (simp; done) | (simp; omega))]; exact pb0_0), (by rw [gt.cell (by first | omega | (simp; done) | (simp; omega))]; exact pb0_1), (by rw [gt.cell (by first | omega | (simp; done) | (simp; omega))]; exact pb0_2), (by rw [gt.cell (by first | omega | (simp; done) | (simp; omega))]; exact pb0_3), (by rw [gt.cell (by first | omega | (simp; done) | (simp; omega))]; exact pb0_4), (by rw [gt.cell (by first | omega | (simp; done) | (simp; omega))]; exact pb0_5), (by rw [gt.cell (by first | omega | (simp; done) | (simp; omega))]; exact xb0_0), (by rw [gt.cell (by first | omega | (simp; done) | (simp; omega))]; exact xb0_1), (by rw [gt.cell (by first | omega | (simp; done) | (simp; omega))]; exact xb0_2), (by rw [gt.cell (by first | omega | (simp; done) | (simp; omega))]; exact xb0_3), (by rw [gt.cell (by first | omega | (simp; done) | (simp; omega))]; exact xb0_4), (by rw [gt.cell (by first | omega | (simp; done) | (simp; omega))]; exact xb0_5)⟩)
    (first | (go_at_call 10; refine (nf_to_Y _ _ _ _ _ _ _ _ _ _ _ _ _ _ _ _ _ _ (tZ.later (tZ.later hx0 B) (below_drewN (Below.refl _ _) 1)) (by omega)).mono ?_; rintro e vt ⟨pq, Aq, nq, cq, Abq, nbq, cbq, Acq, ncq, ccq, Adq, ndq, cdq, Aeq, neq, ceq, rfl, ot, bt⟩; have gt : Below u5.heap.size u5 vt := bel_trans (below_drewN (Below.refl _ _) 1) bt) | (go_at_call 13; refine (nf_eq_Y _ _ _ _ _ _ _ _ _ _ _ _ _ _ _ _ _ _ _ _ _ _ _ _ _ _ _ _ _ _ _ _ _ _ (tZ.later (tZ.read x0o) gt) (tZ.read ot) (by omega)).mono ?_; rintro e u6 ⟨rfl, bq⟩; have gq : Below u5.heap.size u5 u6 := bel_trans gt bq))
  have zu6 : u5.heap.size ≤ u6.heap.size := gq.size
  replace pb0_0 : u6.cell? ⟨w.heap.size, 0, none⟩ = some (.int .i64 p0) := by rw [gq.cell (by first | omega | (simp; done) | (simp; omega))]; exact pb0_0
  replace pb0_1 : u6.cell? ⟨w.heap.size, 1, none⟩ = some (.slice A0 n0 c0) := by rw [gq.cell (by first | omega | (simp; done) | (simp; omega))]; exact pb0_1
  replace pb0_2 : u6.cell? ⟨w.heap.size, 2, none⟩ = some (.slice Ab0 nb0 cb0) := by rw [gq.cell (by first | omega | (simp; done) | (simp; omega))]; exact pb0_2
  replace pb0_3 : u6.cell? ⟨w.heap.size, 3, none⟩ = some (.slice Ac0 nc0 cc0) := by rw [gq.cell (by first | omega | (simp; done) | (simp; omega))]; exact pb0_3
  replace pb0_4 : u6.cell? ⟨w.heap.size, 4, none⟩ = some (.slice Ad0 nd0 cd0) := by rw [gq.cell (by first | omega | (simp; done) | (simp; omega))]; exact pb0_4
  replace pb0_5 : u6.cell? ⟨w.heap.size, 5, none⟩ = some (.slice Ae0 ne0 ce0) := by rw [gq.cell (by first | omega | (simp; done) | (simp; omega))]; exact pb0_5
  replace xb0_0 : u6.cell? ⟨u3.heap.size, 0, none⟩ = some (.int .i64 px0o) := by rw [gq.cell (by first | omega | (simp; done) | (simp; omega))]; exact xb0_0
  replace xb0_1 : u6.cell? ⟨u3.heap.size, 1, none⟩ = some (.slice Ax0o nx0o cx0o) := by rw [gq.cell (by first | omega | (simp; done) | (simp; omega))]; exact xb0_1
  replace xb0_2 : u6.cell? ⟨u3.heap.size, 2, none⟩ = some (.slice Abx0o nbx0o cbx0o) := by rw [gq.cell (by first | omega | (simp; done) | (simp; omega))]; exact xb0_2
  replace xb0_3 : u6.cell? ⟨u3.heap.size, 3, none⟩ = some (.slice Acx0o ncx0o ccx0o) := by rw [gq.cell (by first | omega | (simp; done) | (simp; omega))]; exact xb0_3
  replace xb0_4 : u6.cell? ⟨u3.heap.size, 4, none⟩ = some (.slice Adx0o ndx0o cdx0o) := by rw [gq.cell (by first | omega | (simp; done) | (simp; omega))]; exact xb0_4
  replace xb0_5 : u6.cell? ⟨u3.heap.size, 5, none⟩ = some (.slice Aex0o nex0o cex0o) := by rw [gq.cell (by first | omega | (simp; done) | (simp; omega))]; exact xb0_5
  replace w0 := tSS.obelow w0 gq (by omega)
  replace x0o := tZ.obelow x0o gq (by omega)
  replace g0 := tSS.obelow g0 gq (by omega)
  replace B := bel_trans B gq
  clear gq gt bq bt ot
  replace lt0 : w.heap.size < u6.heap.size := by omega
  replace lt1 : u3.heap.size < u6.heap.size := by omega
  have hk0 : hZ.cnt x0 ≤ 20000000 := by have := cl_Y x0; omega
  go_wp2_with fail
  refine (nf_mark_Y _ _ _ _ _ _ _ _ _ _ _ _ _ _ _ _ _ _ _ _ x0o (fun b hb => Nat.lt_of_lt_of_le hb.2 (by omega)) (by omega)).mono ?_
  rintro e u7 ⟨rfl, x0o, mm⟩
  have zu7 : u6.heap.size ≤ u7.heap.size := mm.size
  replace pb0_0 : u7.cell? ⟨w.heap.size, 0, none⟩ = some (.int .i64 p0) := by rw [World.cell?_of_block (mm.block _ (by first | omega | (simp; done) | (simp; omega)) (by first | (simp [Iv]; done) | (simp [Iv]; omega)))]; exact pb0_0
  replace pb0_1 : u7.cell? ⟨w.heap.size, 1, none⟩ = some (.slice A0 n0 c0) := by rw [World.cell?_of_block (mm.block _ (by first | omega | (simp; done) | (simp; omega)) (by first | (simp [Iv]; done) | (simp [Iv]; omega)))]; exact pb0_1
  replace pb0_2 : u7.cell? ⟨w.heap.size, 2, none⟩ = some (.slice Ab0 nb0 cb0) := by rw [World.cell?_of_block (mm.block _ (by first | omega | (simp; done) | (simp; omega)) (by first | (simp [Iv]; done) | (simp [Iv]; omega)))]; exact pb0_2
  replace pb0_3 : u7.cell? ⟨w.heap.size, 3, none⟩ = some (.slice Ac0 nc0 cc0) := by rw [World.cell?_of_block (mm.block _ (by first | omega | (simp; done) | (simp; omega)) (by first | (simp [Iv]; done) | (simp [Iv]; omega)))]; exact pb0_3
  replace pb0_4 : u7.cell? ⟨w.heap.size, 4, none⟩ = some (.slice Ad0 nd0 cd0) := by rw [World.cell?_of_block (mm.block _ (by first | omega | (simp; done) | (simp; omega)) (by first | (simp [Iv]; done) | (simp [Iv]; omega)))]; exact pb0_4
  replace pb0_5 : u7.cell? ⟨w.heap.size, 5, none⟩ = some (.slice Ae0 ne0 ce0) := by rw [World.cell?_of_block (mm.block _ (by first | omega | (simp; done) | (simp; omega)) (by first | (simp [Iv]; done) | (simp [Iv]; omega)))]; exact pb0_5
  replace xb0_0 : u7.cell? ⟨u3.heap.size, 0, none⟩ = some (.int .i64 px0o) := by rw [World.cell?_of_block (mm.block _ (by first | omega | (simp; done) | (simp; omega)) (by first | (simp [Iv]; done) | (simp [Iv]; omega)))]; exact xb0_0
  replace xb0_1 : u7.cell? ⟨u3.heap.size, 1, none⟩ = some (.slice Ax0o nx0o cx0o) := by rw [World.cell?_of_block (mm.block _ (by first | omega | (simp; done) | (simp; omega)) (by first | (simp [Iv]; done) | (simp [Iv]; omega)))]; exact xb0_1
  replace xb0_2 : u7.cell? ⟨u3.heap.size, 2, none⟩ = some (.slice Abx0o nbx0o cbx0o) := by rw [World.cell?_of_block (mm.block _ (by first | omega | (simp; done) | (simp; omega)) (by first | (simp [Iv]; done) | (simp [Iv]; omega)))]; exact xb0_2
  replace xb0_3 : u7.cell? ⟨u3.heap.size, 3, none⟩ = some (.slice Acx0o ncx0o ccx0o) := by rw [World.cell?_of_block (mm.block _ (by first | omega | (simp; done) | (simp; omega)) (by first | (simp [Iv]; done) | (simp [Iv]; omega)))]; exact xb0_3
  replace xb0_4 : u7.cell? ⟨u3.heap.size, 4, none⟩ = some (.slice Adx0o ndx0o cdx0o) := by rw [World.cell?_of_block (mm.block _ (by first | omega | (simp; done) | (simp; omega)) (by first | (simp [Iv]; done) | (simp [Iv]; omega)))]; exact xb0_4
  replace xb0_5 : u7.cell? ⟨u3.heap.size, 5, none⟩ = some (.slice Aex0o nex0o cex0o) := by rw [World.cell?_of_block (mm.block _ (by first | omega | (simp; done) | (simp; omega)) (by first | (simp [Iv]; done) | (simp [Iv]; omega)))]; exact xb0_5
  replace w0 := tSS.ochg w0 mm (by simp only [Iv]; omega)
  replace g0 := tSS.ochg g0 mm (by simp only [Iv]; omega)
  replace B : Below w.heap.size w u7 := B.trans (mm.toBelow (by simp only [Iv]; omega) (by omega))
  clear mm
  replace lt0 : w.heap.size < u7.heap.size := by omega
  replace lt1 : u3.heap.size < u7.heap.size := by omega
  clear x0o
  go_wp2_with fail
  refine (nf_eq_SS _ _ _ _ _ _ _ _ (tSS.read g0) (tSS.read w0) (by omega)).mono ?_
  rintro e u8 ⟨rfl, bb⟩
  have G := bb
  have zu8 : u7.heap.size ≤ u8.heap.size := by have := bb.size; simpa using this
  replace pb0_0 : u8.cell? ⟨w.heap.size, 0, none⟩ = some (.int .i64 p0) := by rw [G.cell (by first | omega | (simp; done) | (simp; omega))]; exact pb0_0
  replace pb0_1 : u8.cell? ⟨w.heap.size, 1, none⟩ = some (.slice A0 n0 c0) := by rw [G.cell (by first | omega | (simp; done) | (simp; omega))]; exact pb0_1
  replace pb0_2 : u8.cell? ⟨w.heap.size, 2, none⟩ = some (.slice Ab0 nb0 cb0) := by rw [G.cell (by first | omega | (simp; done) | (simp; omega))]; exact pb0_2
  replace pb0_3 : u8.cell? ⟨w.heap.size, 3, none⟩ = some (.slice Ac0 nc0 cc0) := by rw [G.cell (by first | omega | (simp; done) | (simp; omega))]; exact pb0_3
  replace pb0_4 : u8.cell? ⟨w.heap.size, 4, none⟩ = some (.slice Ad0 nd0 cd0) := by rw [G.cell (by first | omega | (simp; done) | (simp; omega))]; exact pb0_4
  replace pb0_5 : u8.cell? ⟨w.heap.size, 5, none⟩ = some (.slice Ae0 ne0 ce0) := by rw [G.cell (by first | omega | (simp; done) | (simp; omega))]; exact pb0_5
  replace xb0_0 : u8.cell? ⟨u3.heap.size, 0, none⟩ = some (.int .i64 px0o) := by rw [G.cell (by first | omega | (simp; done) | (simp; omega))]; exact xb0_0
  replace xb0_1 : u8.cell? ⟨u3.heap.size, 1, none⟩ = some (.slice Ax0o nx0o cx0o) := by rw [G.cell (by first | omega | (simp; done) | (simp; omega))]; exact xb0_1
  replace xb0_2 : u8.cell? ⟨u3.heap.size, 2, none⟩ = some (.slice Abx0o nbx0o cbx0o) := by rw [G.cell (by first | omega | (simp; done) | (simp; omega))]; exact xb0_2
  replace xb0_3 : u8.cell? ⟨u3.heap.size, 3, none⟩ = some (.slice Acx0o ncx0o ccx0o) := by rw [G.cell (by first | omega | (simp; done) | (simp; omega))]; exact xb0_3
  replace xb0_4 : u8.cell? ⟨u3.heap.size, 4, none⟩ = some (.slice Adx0o ndx0o cdx0o) := by rw [G.cell (by first | omega | (simp; done) | (simp; omega))]; exact xb0_4
  replace xb0_5 : u8.cell? ⟨u3.heap.size, 5, none⟩ = some (.slice Aex0o nex0o cex0o) := by rw [G.cell (by first | omega | (simp; done) | (simp; omega))]; exact xb0_5
  replace w0 := tSS.obelow w0 G (by omega)
  replace g0 := tSS.obelow g0 G (by omega)
  replace B := bel_trans B G
  clear G bb
  replace lt0 : w.heap.size < u8.heap.size := by omega
  replace lt1 : u3.heap.size < u8.heap.size := by omega
  go_wp2_with fail
  refine (nf_mark_SS _ _ _ _ _ _ _ g0 (by omega)).mono ?_
  rintro e u9 ⟨rfl, g0, mm⟩
  have zu9 : u8.heap.size ≤ u9.heap.size := mm.size
  replace pb0_0 : u9.cell? ⟨w.heap.size, 0, none⟩ = some (.int .i64 p0) := by rw [World.cell?_of_block (mm.block _ (by first | omega | (simp; done) | (simp; omega)) (by first | (simp [Iv]; done) | (simp [Iv]; omega)))]; exact pb0_0
  replace pb0_1 : u9.cell? ⟨w.heap.size, 1, none⟩ = some (.slice A0 n0 c0) := by rw [World.cell?_of_block (mm.block _ (by first | omega | (simp; done) | (simp; omega)) (by first | (simp [Iv]; done) | (simp [Iv]; omega)))]; exact pb0_1
  replace pb0_2 : u9.cell? ⟨w.heap.size, 2, none⟩ = some (.slice Ab0 nb0 cb0) := by rw [World.cell?_of_block (mm.block _ (by first | omega | (simp; done) | (simp; omega)) (by first | (simp [Iv]; done) | (simp [Iv]; omega)))]; exact pb0_2
  replace pb0_3 : u9.cell? ⟨w.heap.size, 3, none⟩ = some (.slice Ac0 nc0 cc0) := by rw [World.cell?_of_block (mm.block _ (by first | omega | (simp; done) | (simp; omega)) (by first | (simp [Iv]; done) | (simp [Iv]; omega)))]; exact pb0_3
  replace pb0_4 : u9.cell? ⟨w.heap.size, 4, none⟩ = some (.slice Ad0 nd0 cd0) := by rw [World.cell?_of_block (mm.block _ (by first | omega | (simp; done) | (simp; omega)) (by first | (simp [Iv]; done) | (simp [Iv]; omega)))]; exact pb0_4
  replace pb0_5 : u9.cell? ⟨w.heap.size, 5, none⟩ = some (.slice Ae0 ne0 ce0) := by rw [World.cell?_of_block (mm.block _ (by first | omega | (simp; done) | (simp; omega)) (by first | (simp [Iv]; done) | (simp [Iv]; omega)))]; exact pb0_5
  replace xb0_0 : u9.cell? ⟨u3.heap.size, 0, none⟩ = some (.int .i64 px0o) := by rw [World.cell?_of_block (mm.block _ (by first | omega | (simp; done) | (simp; omega)) (by first | (simp [Iv]; done) | (simp [Iv]; omega)))]; exact xb0_0
  replace xb0_1 : u9.cell? ⟨u3.heap.size, 1, none⟩ = some (.slice Ax0o nx0o cx0o) := by rw [World.cell?_of_block (mm.block _ (by first | omega | (simp; done) | (simp; omega)) (by first | (simp [Iv]; done) | (simp [Iv]; omega)))]; exact xb0_1
  replace xb0_2 : u9.cell? ⟨u3.heap.size, 2, none⟩ = some (.slice Abx0o nbx0o cbx0o) := by rw [World.cell?_of_block (mm.block _ (by first | omega | (simp; done) | (simp; omega)) (by first | (simp [Iv]; done) | (simp [Iv]; omega)))]; exact xb0_2
  replace xb0_3 : u9.cell? ⟨u3.heap.size, 3, none⟩ = some (.slice Acx0o ncx0o ccx0o) := by rw [World.cell?_of_block (mm.block _ (by first | omega | (simp; done) | (simp; omega)) (by first | (simp [Iv]; done) | (simp [Iv]; omega)))]; exact xb0_3
  replace xb0_4 : u9.cell? ⟨u3.heap.size, 4, none⟩ = some (.slice Adx0o ndx0o cdx0o) := by rw [World.cell?_of_block (mm.block _ (by first | omega | (simp; done) | (simp; omega)) (by first | (simp [Iv]; done) | (simp [Iv]; omega)))]; exact xb0_4
  replace xb0_5 : u9.cell? ⟨u3.heap.size, 5, none⟩ = some (.slice Aex0o nex0o cex0o) := by rw [World.cell?_of_block (mm.block _ (by first | omega | (simp; done) | (simp; omega)) (by first | (simp [Iv]; done) | (simp [Iv]; omega)))]; exact xb0_5
  replace w0 := tSS.ochg w0 mm (by simp only [Iv]; omega)
  replace B : Below w.heap.size w u9 := B.trans (mm.toBelow (by simp only [Iv]; omega) (by omega))
  clear mm
  replace lt0 : w.heap.size < u9.heap.size := by omega
  replace lt1 : u3.heap.size < u9.heap.size := by omega
  go_wp2_with fail
  refine (nf_held_SS _ _ _ _ _ _ (tSS.read g0) (by omega)).mono ?_
  rintro e u10 ⟨rfl, bb⟩
  have G := bb
  have zu10 : u9.heap.size ≤ u10.heap.size := by have := bb.size; simpa using this
  replace pb0_0 : u10.cell? ⟨w.heap.size, 0, none⟩ = some (.int .i64 p0) := by rw [G.cell (by first | omega | (simp; done) | (simp; omega))]; exact pb0_0
  replace pb0_1 : u10.cell? ⟨w.heap.size, 1, none⟩ = some (.slice A0 n0 c0) := by rw [G.cell (by first | omega | (simp; done) | (simp; omega))]; exact pb0_1
  replace pb0_2 : u10.cell? ⟨w.heap.size, 2, none⟩ = some (.slice Ab0 nb0 cb0) := by rw [G.cell (by first | omega | (simp; done) | (simp; omega))]; exact pb0_2
  replace pb0_3 : u10.cell? ⟨w.heap.size, 3, none⟩ = some (.slice Ac0 nc0 cc0) := by rw [G.cell (by first | omega | (simp; done) | (simp; omega))]; exact pb0_3
  replace pb0_4 : u10.cell? ⟨w.heap.size, 4, none⟩ = some (.slice Ad0 nd0 cd0) := by rw [G.cell (by first | omega | (simp; done) | (simp; omega))]; exact pb0_4
  replace pb0_5 : u10.cell? ⟨w.heap.size, 5, none⟩ = some (.slice Ae0 ne0 ce0) := by rw [G.cell (by first | omega | (simp; done) | (simp; omega))]; exact pb0_5
  replace xb0_0 : u10.cell? ⟨u3.heap.size, 0, none⟩ = some (.int .i64 px0o) := by rw [G.cell (by first | omega | (simp; done) | (simp; omega))]; exact xb0_0
  replace xb0_1 : u10.cell? ⟨u3.heap.size, 1, none⟩ = some (.slice Ax0o nx0o cx0o) := by rw [G.cell (by first | omega | (simp; done) | (simp; omega))]; exact xb0_1
  replace xb0_2 : u10.cell? ⟨u3.heap.size, 2, none⟩ = some (.slice Abx0o nbx0o cbx0o) := by rw [G.cell (by first | omega | (simp; done) | (simp; omega))]; exact xb0_2
  replace xb0_3 : u10.cell? ⟨u3.heap.size, 3, none⟩ = some (.slice Acx0o ncx0o ccx0o) := by rw [G.cell (by first | omega | (simp; done) | (simp; omega))]; exact xb0_3
  replace xb0_4 : u10.cell? ⟨u3.heap.size, 4, none⟩ = some (.slice Adx0o ndx0o cdx0o) := by rw [G.cell (by first | omega | (simp; done) | (simp; omega))]; exact xb0_4
  replace xb0_5 : u10.cell? ⟨u3.heap.size, 5, none⟩ = some (.slice Aex0o nex0o cex0o) := by rw [G.cell (by first | omega | (simp; done) | (simp; omega))]; exact xb0_5
  replace w0 := tSS.obelow w0 G (by omega)
  replace g0 := tSS.obelow g0 G (by omega)
  replace B := bel_trans B G
  clear G bb
  replace lt0 : w.heap.size < u10.heap.size := by omega
  replace lt1 : u3.heap.size < u10.heap.size := by omega
  go_wp2_with fail
  refine (nf_to_Y _ _ _ _ _ _ _ _ _ _ _ _ _ _ _ _ _ _ (tZ.later hx0 B) (by omega)).mono ?_
  rintro e u11 ⟨ph0o, Ah0o, nh0o, ch0o, Abh0o, nbh0o, cbh0o, Ach0o, nch0o, cch0o, Adh0o, ndh0o, cdh0o, Aeh0o, neh0o, ceh0o, rfl, h0o, bb⟩
  have G := bb
  have zu11 : u10.heap.size ≤ u11.heap.size := by have := bb.size; simpa using this
  replace pb0_0 : u11.cell? ⟨w.heap.size, 0, none⟩ = some (.int .i64 p0) := by rw [G.cell (by first | omega | (simp; done) | (simp; omega))]; exact pb0_0
  replace pb0_1 : u11.cell? ⟨w.heap.size, 1, none⟩ = some (.slice A0 n0 c0) := by rw [G.cell (by first | omega | (simp; done) | (simp; omega))]; exact pb0_1
  replace pb0_2 : u11.cell? ⟨w.heap.size, 2, none⟩ = some (.slice Ab0 nb0 cb0) := by rw [G.cell (by first | omega | (simp; done) | (simp; omega))]; exact pb0_2
  replace pb0_3 : u11.cell? ⟨w.heap.size, 3, none⟩ = some (.slice Ac0 nc0 cc0) := by rw [G.cell (by first | omega | (simp; done) | (simp; omega))]; exact pb0_3
  replace pb0_4 : u11.cell? ⟨w.heap.size, 4, none⟩ = some (.slice Ad0 nd0 cd0) := by rw [G.cell (by first | omega | (simp; done) | (simp; omega))]; exact pb0_4
  replace pb0_5 : u11.cell? ⟨w.heap.size, 5, none⟩ = some (.slice Ae0 ne0 ce0) := by rw [G.cell (by first | omega | (simp; done) | (simp; omega))]; exact pb0_5
  replace xb0_0 : u11.cell? ⟨u3.heap.size, 0, none⟩ = some (.int .i64 px0o) := by rw [G.cell (by first | omega | (simp; done) | (simp; omega))]; exact xb0_0
  replace xb0_1 : u11.cell? ⟨u3.heap.size, 1, none⟩ = some (.slice Ax0o nx0o cx0o) := by rw [G.cell (by first | omega | (simp; done) | (simp; omega))]; exact xb0_1
  replace xb0_2 : u11.cell? ⟨u3.heap.size, 2, none⟩ = some (.slice Abx0o nbx0o cbx0o) := by rw [G.cell (by first | omega | (simp; done) | (simp; omega))]; exact xb0_2
  replace xb0_3 : u11.cell? ⟨u3.heap.size, 3, none⟩ = some (.slice Acx0o ncx0o ccx0o) := by rw [G.cell (by first | omega | (simp; done) | (simp; omega))]; exact xb0_3
  replace xb0_4 : u11.cell? ⟨u3.heap.size, 4, none⟩ = some (.slice Adx0o ndx0o cdx0o) := by rw [G.cell (by first | omega | (simp; done) | (simp; omega))]; exact xb0_4
  replace xb0_5 : u11.cell? ⟨u3.heap.size, 5, none⟩ = some (.slice Aex0o nex0o cex0o) := by rw [G.cell (by first | omega | (simp; done) | (simp; omega))]; exact xb0_5
  replace w0 := tSS.obelow w0 G (by omega)
  replace g0 := tSS.obelow g0 G (by omega)
  replace h0o : tZ.O u11 (Iv (u10.heap.size) u11.heap.size) [.int .i64 ph0o, .slice Ah0o nh0o ch0o, .slice Abh0o nbh0o cbh0o, .slice Ach0o nch0o cch0o, .slice Adh0o ndh0o cdh0o, .slice Aeh0o neh0o ceh0o] x0 := tZ.oiv h0o (by simp) (Nat.le_refl _)
  replace B := bel_trans B G
  clear G bb
  replace lt0 : w.heap.size < u11.heap.size := by omega
  replace lt1 : u3.heap.size < u11.heap.size := by omega
  go_wp2_with fail
  refine (HI.out _ _ _ _ _ _ _ _ _ _ _ _ _ _ _ _ _ (tZ.read h0o) hw0).mono ?_
  rintro e u12 ⟨Ah0, nh0, ch0, rfl, h0, bb⟩
  have G := bb
  have zu12 : u11.heap.size ≤ u12.heap.size := by have := bb.size; simpa using this
  replace pb0_0 : u12.cell? ⟨w.heap.size, 0, none⟩ = some (.int .i64 p0) := by rw [G.cell (by first | omega | (simp; done) | (simp; omega))]; exact pb0_0
  replace pb0_1 : u12.cell? ⟨w.heap.size, 1, none⟩ = some (.slice A0 n0 c0) := by rw [G.cell (by first | omega | (simp; done) | (simp; omega))]; exact pb0_1
  replace pb0_2 : u12.cell? ⟨w.heap.size, 2, none⟩ = some (.slice Ab0 nb0 cb0) := by rw [G.cell (by first | omega | (simp; done) | (simp; omega))]; exact pb0_2
  replace pb0_3 : u12.cell? ⟨w.heap.size, 3, none⟩ = some (.slice Ac0 nc0 cc0) := by rw [G.cell (by first | omega | (simp; done) | (simp; omega))]; exact pb0_3
  replace pb0_4 : u12.cell? ⟨w.heap.size, 4, none⟩ = some (.slice Ad0 nd0 cd0) := by rw [G.cell (by first | omega | (simp; done) | (simp; omega))]; exact pb0_4
  replace pb0_5 : u12.cell? ⟨w.heap.size, 5, none⟩ = some (.slice Ae0 ne0 ce0) := by rw [G.cell (by first | omega | (simp; done) | (simp; omega))]; exact pb0_5
  replace xb0_0 : u12.cell? ⟨u3.heap.size, 0, none⟩ = some (.int .i64 px0o) := by rw [G.cell (by first | omega | (simp; done) | (simp; omega))]; exact xb0_0
  replace xb0_1 : u12.cell? ⟨u3.heap.size, 1, none⟩ = some (.slice Ax0o nx0o cx0o) := by rw [G.cell (by first | omega | (simp; done) | (simp; omega))]; exact xb0_1
  replace xb0_2 : u12.cell? ⟨u3.heap.size, 2, none⟩ = some (.slice Abx0o nbx0o cbx0o) := by rw [G.cell (by first | omega | (simp; done) | (simp; omega))]; exact xb0_2
  replace xb0_3 : u12.cell? ⟨u3.heap.size, 3, none⟩ = some (.slice Acx0o ncx0o ccx0o) := by rw [G.cell (by first | omega | (simp; done) | (simp; omega))]; exact xb0_3
  replace xb0_4 : u12.cell? ⟨u3.heap.size, 4, none⟩ = some (.slice Adx0o ndx0o cdx0o) := by rw [G.cell (by first | omega | (simp; done) | (simp; omega))]; exact xb0_4
  replace xb0_5 : u12.cell? ⟨u3.heap.size, 5, none⟩ = some (.slice Aex0o nex0o cex0o) := by rw [G.cell (by first | omega | (simp; done) | (simp; omega))]; exact xb0_5
  replace w0 := tSS.obelow w0 G (by omega)
  replace g0 := tSS.obelow g0 G (by omega)
  replace h0o := tZ.obelow h0o G (by omega)
  replace h0 : tSS.O u12 (Iv (u11.heap.size) u12.heap.size) [.slice Ah0 nh0 ch0] z0 := tSS.oiv h0 (by simp) (Nat.le_refl _)
  replace B := bel_trans B G
  clear G bb
  replace lt0 : w.heap.size < u12.heap.size := by omega
  replace lt1 : u3.heap.size < u12.heap.size := by omega
  clear h0o
  go_wp2_with fail
  refine (nf_eq_SS _ _ _ _ _ _ _ _ (tSS.read h0) (tSS.read w0) (by omega)).mono ?_
  rintro e u13 ⟨rfl, bb⟩
  have G := bb
  have zu13 : u12.heap.size ≤ u13.heap.size := by have := bb.size; simpa using this
  replace pb0_0 : u13.cell? ⟨w.heap.size, 0, none⟩ = some (.int .i64 p0) := by rw [G.cell (by first | omega | (simp; done) | (simp; omega))]; exact pb0_0
  replace pb0_1 : u13.cell? ⟨w.heap.size, 1, none⟩ = some (.slice A0 n0 c0) := by rw [G.cell (by first | omega | (simp; done) | (simp; omega))]; exact pb0_1
  replace pb0_2 : u13.cell? ⟨w.heap.size, 2, none⟩ = some (.slice Ab0 nb0 cb0) := by rw [G.cell (by first | omega | (simp; done) | (simp; omega))]; exact pb0_2
  replace pb0_3 : u13.cell? ⟨w.heap.size, 3, none⟩ = some (.slice Ac0 nc0 cc0) := by rw [G.cell (by first | omega | (simp; done) | (simp; omega))]; exact pb0_3
  replace pb0_4 : u13.cell? ⟨w.heap.size, 4, none⟩ = some (.slice Ad0 nd0 cd0) := by rw [G.cell (by first | omega | (simp; done) | (simp; omega))]; exact pb0_4
  replace pb0_5 : u13.cell? ⟨w.heap.size, 5, none⟩ = some (.slice Ae0 ne0 ce0) := by rw [G.cell (by first | omega | (simp; done) | (simp; omega))]; exact pb0_5
  replace xb0_0 : u13.cell? ⟨u3.heap.size, 0, none⟩ = some (.int .i64 px0o) := by rw [G.cell (by first | omega | (simp; done) | (simp; omega))]; exact xb0_0
  replace xb0_1 : u13.cell? ⟨u3.heap.size, 1, none⟩ = some (.slice Ax0o nx0o cx0o) := by rw [G.cell (by first | omega | (simp; done) | (simp; omega))]; exact xb0_1
  replace xb0_2 : u13.cell? ⟨u3.heap.size, 2, none⟩ = some (.slice Abx0o nbx0o cbx0o) := by rw [G.cell (by first | omega | (simp; done) | (simp; omega))]; exact xb0_2
  replace xb0_3 : u13.cell? ⟨u3.heap.size, 3, none⟩ = some (.slice Acx0o ncx0o ccx0o) := by rw [G.cell (by first | omega | (simp; done) | (simp; omega))]; exact xb0_3
  replace xb0_4 : u13.cell? ⟨u3.heap.size, 4, none⟩ = some (.slice Adx0o ndx0o cdx0o) := by rw [G.cell (by first | omega | (simp; done) | (simp; omega))]; exact xb0_4
  replace xb0_5 : u13.cell? ⟨u3.heap.size, 5, none⟩ = some (.slice Aex0o nex0o cex0o) := by rw [G.cell (by first | omega | (simp; done) | (simp; omega))]; exact xb0_5
  replace w0 := tSS.obelow w0 G (by omega)
  replace g0 := tSS.obelow g0 G (by omega)
  replace h0 := tSS.obelow h0 G (by omega)
  replace B := bel_trans B G
  clear G bb
  replace lt0 : w.heap.size < u13.heap.size := by omega
  replace lt1 : u3.heap.size < u13.heap.size := by omega
  go_wp2_with fail
  refine (nf_held_SS _ _ _ _ _ _ (tSS.read g0) (by omega)).mono ?_
  rintro e u14 ⟨rfl, bb⟩
  have G := bb
  have zu14 : u13.heap.size ≤ u14.heap.size := by have := bb.size; simpa using this
  replace pb0_0 : u14.cell? ⟨w.heap.size, 0, none⟩ = some (.int .i64 p0) := by rw [G.cell (by first | omega | (simp; done) | (simp; omega))]; exact pb0_0
  replace pb0_1 : u14.cell? ⟨w.heap.size, 1, none⟩ = some (.slice A0 n0 c0) := by rw [G.cell (by first | omega | (simp; done) | (simp; omega))]; exact pb0_1
  replace pb0_2 : u14.cell? ⟨w.heap.size, 2, none⟩ = some (.slice Ab0 nb0 cb0) := by rw [G.cell (by first | omega | (simp; done) | (simp; omega))]; exact pb0_2
  replace pb0_3 : u14.cell? ⟨w.heap.size, 3, none⟩ = some (.slice Ac0 nc0 cc0) := by rw [G.cell (by first | omega | (simp; done) | (simp; omega))]; exact pb0_3
  replace pb0_4 : u14.cell? ⟨w.heap.size, 4, none⟩ = some (.slice Ad0 nd0 cd0) := by rw [G.cell (by first | omega | (simp; done) | (simp; omega))]; exact pb0_4
  replace pb0_5 : u14.cell? ⟨w.heap.size, 5, none⟩ = some (.slice Ae0 ne0 ce0) := by rw [G.cell (by first | omega | (simp; done) | (simp; omega))]; exact pb0_5
  replace xb0_0 : u14.cell? ⟨u3.heap.size, 0, none⟩ = some (.int .i64 px0o) := by rw [G.cell (by first | omega | (simp; done) | (simp; omega))]; exact xb0_0
  replace xb0_1 : u14.cell? ⟨u3.heap.size, 1, none⟩ = some (.slice Ax0o nx0o cx0o) := by rw [G.cell (by first | omega | (simp; done) | (simp; omega))]; exact xb0_1
  replace xb0_2 : u14.cell? ⟨u3.heap.size, 2, none⟩ = some (.slice Abx0o nbx0o cbx0o) := by rw [G.cell (by first | omega | (simp; done) | (simp; omega))]; exact xb0_2
  replace xb0_3 : u14.cell? ⟨u3.heap.size, 3, none⟩ = some (.slice Acx0o ncx0o ccx0o) := by rw [G.cell (by first | omega | (simp; done) | (simp; omega))]; exact xb0_3
  replace xb0_4 : u14.cell? ⟨u3.heap.size, 4, none⟩ = some (.slice Adx0o ndx0o cdx0o) := by rw [G.cell (by first | omega | (simp; done) | (simp; omega))]; exact xb0_4
  replace xb0_5 : u14.cell? ⟨u3.heap.size, 5, none⟩ = some (.slice Aex0o nex0o cex0o) := by rw [G.cell (by first | omega | (simp; done) | (simp; omega))]; exact xb0_5
  replace w0 := tSS.obelow w0 G (by omega)
  replace g0 := tSS.obelow g0 G (by omega)
  replace h0 := tSS.obelow h0 G (by omega)
  replace B := bel_trans B G
  clear G bb
  replace lt0 : w.heap.size < u14.heap.size := by omega
  replace lt1 : u3.heap.size < u14.heap.size := by omega
  go_wp2_with fail
  go_ret
  exact ⟨rfl, B⟩
end Go.Proofs.YtffhodocjjkkoaaGreat
namespace Go.Proofs.YtffhodocjjkkoaaGreat
open Go.ChangeShapes Go.WideShapes Go.Deep Go.RowKit
/-- Whatever came in at this type reads as something. -/
def Opens (P : Program) (T : TypeId) {α : Type} (t : Ty α) : Prop :=
  ∀ {H : Type} (enc : TypeId × Value → H) (w : World) (base : Nat) (spare : Nat → Bool) (held : Bool) (fuel : Nat) (cs : List Value) (d : DataW H × List MemPlace), DataW.trod enc P w base spare held fuel T cs = some d → ∃ x, t.R w w.heap.size cs x
section
variable {P : Program} {T : TypeId}
theorem opens_int (h : P.underlying T = some (.int .i64)) : Opens P T tI := fun _ _ _ _ _ _ _ _ ht => by
  obtain ⟨n, hn, _⟩ := DataW.trod_int h ht
  exact ⟨n, hn⟩
theorem opens_sl {α : Type} {t : Ty α} {e e' : TypeId} (ht : P.underlying T = some (.slice e)) (hC : P.cellsOf e = t.s) (he : Opens P e t) : Opens P T (t.sl e') := by
  intro H enc w base spare held fuel cs d h
  rcases open_slice ht h with ⟨rfl, _⟩ | ⟨a, len, cap, m, n, D, Pl, rfl, hb, hl, hm, hmm, hx, hi⟩
  · exact ⟨[], _, rfl, RS.nil _ _ _⟩
  · have hlm : len ≤ m := by rw [hmm]; split <;> omega
    have key : ∀ i, ∃ p : List Value × α, i < len → t.R w w.heap.size p.1 p.2 ∧ ∀ j u, p.1[j]? = some u → w.cell? (a.add (i * t.s + j)) = some u := by
      intro i
      by_cases hil : i < len
      · obtain ⟨cs', hc, ht'⟩ := hi i (by omega)
        rw [hC] at hc
        obtain ⟨x, hR⟩ := he enc w base spare held n cs' _ ht'
        obtain ⟨_, hcl, hat⟩ := World.cells?_some hc
        refine ⟨(cs', x), fun _ => ⟨hR, fun j u hu => ?_⟩⟩
        have hj : j < t.s := by rw [← hcl]; exact (List.getElem?_eq_some_iff.1 hu).1
        have := hat j hj
        rw [Go.Deep.add_add] at this
        rw [this]
        exact hu
      · exact ⟨([], t.zero), fun hc => absurd hc hil⟩
    obtain ⟨g, hg⟩ : ∃ g : Nat → List Value × α, ∀ i, i < len → t.R w w.heap.size (g i).1 (g i).2 ∧ ∀ j u, (g i).1[j]? = some u → w.cell? (a.add (i * t.s + j)) = some u := ⟨fun i => Classical.choose (key i), fun i => Classical.choose_spec (key i)⟩
    have hs : ∀ c ∈ (List.range len).map (fun i => (g i).1), c.length = t.s := by
      intro c hc
      obtain ⟨i, hi, rfl⟩ := List.mem_map.1 hc
      exact t.rlen (hg i (List.mem_range.1 hi)).1
    refine ⟨(List.range len).map fun i => (g i).2, _, rfl, some a, cap, (List.range len).map fun i => (g i).1, by simp, by simpa using hl, hm, by simp, ?_, ?_⟩
    · refine ⟨by rw [flat2_len hs]; simp, fun hn => ⟨a, rfl, ?_, fun j u hu => ?_⟩⟩
      · have hn' : 0 < len := by simpa using hn
        have h0 := (hg 0 hn')
        have hp := t.pos
        obtain ⟨u, hu⟩ : ∃ u, (g 0).1[0]? = some u := ⟨_, List.getElem?_eq_getElem (by rw [t.rlen h0.1]; exact hp)⟩
        have := World.block_lt_of_cell? _ _ (h0.2 0 u hu)
        rwa [block_of_add] at this
      · have hj : j < len * t.s := by have := (List.getElem?_eq_some_iff.1 hu).1; rw [flat2_len hs] at this; simpa using this
        have hk : j / t.s < len := Nat.div_lt_of_lt_mul (by rw [Nat.mul_comm]; exact hj)
        have hr : j % t.s < t.s := Nat.mod_lt _ t.pos
        have e0 : j / t.s * t.s + j % t.s = j := by rw [Nat.mul_comm]; exact Nat.div_add_mod j t.s
        have hf := flat2_at hs (k := j / t.s) (c := (g (j / t.s)).1) (by simp [hk]) (j % t.s) hr
        rw [e0, hu] at hf
        have := (hg _ hk).2 (j % t.s) u hf.symm
        rwa [e0] at this
    · intro k hk hk'
      simp only [List.length_map, List.length_range] at hk
      simp only [List.getElem_map, List.getElem_range]
      exact (hg k hk).1
/-- What the fields from the j-th cell on read as. -/
theorem R_one {α : Type} {t : Ty α} {w : World} {B o n : Nat} {cs : List Value} {x : α} (ho : o = 0) (hn : cs.length = n) (h : t.R w B ((cs.drop o).take n) x) : t.R w B cs x := by
  subst ho hn
  simpa using h
/-- A struct of one field. -/
theorem opens_struct1 {α : Type} {t : Ty α} {f0 : Field} (hs : P.underlying T = some (.struct #[f0])) (o0 : f0.offset = 0) (hC : P.cellsOf T = P.cellsOf f0.type) (h0 : Opens P f0.type t) : Opens P T t := by
  intro H enc w base spare held fuel cs d h
  obtain ⟨y0, n, _, hlen, t0⟩ := trod_struct1 hs h
  obtain ⟨x, hx⟩ := h0 enc w base spare held n _ _ t0
  exact ⟨x, R_one o0 (by rw [hlen, hC]) hx⟩
theorem opens_fields {α : Type} {t : Ty α} {fs : Array Field} (hs : P.underlying T = some (.struct fs))
    (hf : ∀ (w : World) (cs : List Value), cs.length = P.cellsOf T → (∀ {H : Type} (enc : TypeId × Value → H) (base : Nat) (spare : Nat → Bool) (held : Bool) (n : Nat) (ys : List (DataW H × List MemPlace)), ys.length = fs.size → (∀ (i : Nat) (f : Field), fs[i]? = some f → DataW.trod enc P w base spare held n f.type ((cs.drop f.offset).take (P.cellsOf f.type)) = ys[i]?) → ∃ x, t.R w w.heap.size cs x)) : Opens P T t := by
  intro H enc w base spare held fuel cs d h
  obtain ⟨ys, n, _, _, hlen, hyl, hg⟩ := DataW.trod_struct hs h
  exact hf w cs hlen enc base spare held n ys hyl hg
end
/-- One field of a struct. -/
theorem field_at {P : Program} {H : Type} {enc : TypeId × Value → H} {w : World} {base n i o k : Nat} {spare : Nat → Bool} {held : Bool} {fs : Array Field} {cs : List Value} {ys : List (DataW H × List MemPlace)} {α : Type} {t : Ty α} {f : Field} {e : TypeId}
    (hyl : ys.length = fs.size) (hg : ∀ (i : Nat) (f : Field), fs[i]? = some f → DataW.trod enc P w base spare held n f.type ((cs.drop f.offset).take (P.cellsOf f.type)) = ys[i]?)
    (hi : fs[i]? = some f) (he : f.type = e) (ho : f.offset = o) (hk : P.cellsOf e = k) (h : Opens P e t) : ∃ x, t.R w w.heap.size ((cs.drop o).take k) x := by
  have h1 := hg i f hi
  have hlt : i < ys.length := by rw [hyl]; exact (Array.getElem?_eq_some_iff.1 hi).1
  rw [List.getElem?_eq_getElem hlt, he, ho, hk] at h1
  exact h enc w base spare held n _ _ h1
theorem flat2_open {P : Program} {T : TypeId} {f0 f1 : Field} {zero : Int × Int} {enc : Int × Int → List Value} {pos : 0 < 2} {henc : ∀ x, (enc x).length = 2} {h1c : ∀ x, ∀ u ∈ enc x, u.oneCell' = true}
    (hE : ∀ a b, enc (a, b) = [.int .i64 a, .int .i64 b]) (hs : P.underlying T = some (.struct #[f0, f1])) (h0 : P.underlying f0.type = some (.int .i64)) (h1 : P.underlying f1.type = some (.int .i64)) (o0 : f0.offset = 0) (o1 : f1.offset = 1)
    (k0 : P.cellsOf f0.type = 1) (k1 : P.cellsOf f1.type = 1) (hC : P.cellsOf T = 2) : Opens P T (Ty.flat 2 pos zero enc henc h1c) :=
  opens_fields hs fun w cs hl {H} enc' base spare held n ys hyl hg => by
    obtain ⟨a, ha⟩ := field_at (i := 0) hyl hg rfl rfl o0 k0 (opens_int h0)
    obtain ⟨b, hb⟩ := field_at (i := 1) hyl hg rfl rfl o1 k1 (opens_int h1)
    rw [hC] at hl
    match cs, hl with
    | [u, v], _ =>
      refine ⟨(a, b), ?_⟩
      show [u, v] = enc (a, b)
      have ha' : [u] = [Value.int .i64 a] := ha
      have hb' : [v] = [Value.int .i64 b] := hb
      rw [hE]
      injection ha' with e1
      injection hb' with e2
      rw [e1, e2]
end Go.Proofs.YtffhodocjjkkoaaGreat
namespace Go.Proofs.YtffhodocjjkkoaaGreat
open Go.RowKit
set_option maxHeartbeats 400000
set_option maxRecDepth 100000
/-! Curve -/
abbrev tPt : Ty (Int × Int) := Ty.flat 2 (by decide) (0, 0) pt pt_len (by simp [pt, Value.oneCell'])
abbrev hPt : Hs (Int × Int) := hI.prod hI
abbrev hC : Hs (List (Int × Int)) := hPt.sl
end Go.Proofs.YtffhodocjjkkoaaGreat
namespace Go.Proofs.YtffhodocjjkkoaaGreat
open Go.RowKit
theorem opens_S : Opens Tryz.prog 24 tS := opens_sl Tryz.underlying24 (by kernel_rfl) (opens_int Tryz.underlying2)
end Go.Proofs.YtffhodocjjkkoaaGreat
namespace Go.Proofs.YtffhodocjjkkoaaGreat
open Go.RowKit
theorem flat5_open {P : Program} {T : TypeId} {f0 f1 f2 f3 f4 : Field} {zero : Clip} {enc : Clip → List Value} {pos : 0 < 5} {henc : ∀ x, (enc x).length = 5} {h1c : ∀ x, ∀ u ∈ enc x, u.oneCell' = true}
    (hE : ∀ a b c d e, enc (a, b, c, d, e) = [.int .i64 a, .int .i64 b, .int .i64 c, .int .i64 d, .int .i64 e]) (hs : P.underlying T = some (.struct #[f0, f1, f2, f3, f4]))
    (h0 : P.underlying f0.type = some (.int .i64)) (h1 : P.underlying f1.type = some (.int .i64)) (h2 : P.underlying f2.type = some (.int .i64)) (h3 : P.underlying f3.type = some (.int .i64)) (h4 : P.underlying f4.type = some (.int .i64))
    (o0 : f0.offset = 0) (o1 : f1.offset = 1) (o2 : f2.offset = 2) (o3 : f3.offset = 3) (o4 : f4.offset = 4)
    (k0 : P.cellsOf f0.type = 1) (k1 : P.cellsOf f1.type = 1) (k2 : P.cellsOf f2.type = 1) (k3 : P.cellsOf f3.type = 1) (k4 : P.cellsOf f4.type = 1) (hC : P.cellsOf T = 5) : Opens P T (Ty.flat 5 pos zero enc henc h1c) :=
  opens_fields hs fun w cs hl {H} enc' base spare held n ys hyl hg => by
    obtain ⟨a, ha⟩ := field_at (i := 0) hyl hg rfl rfl o0 k0 (opens_int h0)
    obtain ⟨b, hb⟩ := field_at (i := 1) hyl hg rfl rfl o1 k1 (opens_int h1)
    obtain ⟨c, hc⟩ := field_at (i := 2) hyl hg rfl rfl o2 k2 (opens_int h2)
    obtain ⟨d, hd⟩ := field_at (i := 3) hyl hg rfl rfl o3 k3 (opens_int h3)
    obtain ⟨e, he⟩ := field_at (i := 4) hyl hg rfl rfl o4 k4 (opens_int h4)
    rw [hC] at hl
    match cs, hl with
    | [u0, u1, u2, u3, u4], _ =>
      refine ⟨(a, b, c, d, e), ?_⟩
      show [u0, u1, u2, u3, u4] = enc (a, b, c, d, e)
      have ha' : [u0] = [Value.int .i64 a] := ha
      have hb' : [u1] = [Value.int .i64 b] := hb
      have hc' : [u2] = [Value.int .i64 c] := hc
      have hd' : [u3] = [Value.int .i64 d] := hd
      have he' : [u4] = [Value.int .i64 e] := he
      rw [hE]
      injection ha' with e1
      injection hb' with e2
      injection hc' with e3
      injection hd' with e4
      injection he' with e5
      rw [e1, e2, e3, e4, e5]
theorem opens_T : Opens Tryz.prog 94 tT :=
  opens_struct1 Tryz.underlying94 rfl (by kernel_rfl) (opens_sl Tryz.underlying92 (by kernel_rfl) (flat5_open (fun _ _ _ _ _ => rfl) Tryz.underlying194 Tryz.underlying2 Tryz.underlying2 Tryz.underlying2 Tryz.underlying2 Tryz.underlying2 rfl rfl rfl rfl rfl (by kernel_rfl) (by kernel_rfl) (by kernel_rfl) (by kernel_rfl) (by kernel_rfl) (by kernel_rfl)))
end Go.Proofs.YtffhodocjjkkoaaGreat
namespace Go.Proofs.YtffhodocjjkkoaaGreat
open Go.RowKit
theorem opens_str {P : Program} {T : TypeId} (h : P.underlying T = some .string) : Opens P T tStr := fun _ _ _ _ _ _ _ _ ht => by
  obtain ⟨s, rfl, _, hs⟩ := DataW.trod_string h ht
  exact ⟨s, rfl, hs⟩
theorem opens_SdS : Opens Tryz.prog 150 tSdS :=
  opens_sl Tryz.underlying150 (by kernel_rfl) (flat2_open (fun _ _ => rfl) Tryz.underlying218 Tryz.underlying2 Tryz.underlying2 rfl rfl (by kernel_rfl) (by kernel_rfl) (by kernel_rfl))
theorem st_open {P : Program} {T : TypeId} {f0 f1 f2 : Field} (hs : P.underlying T = some (.struct #[f0, f1, f2])) (h0 : P.underlying f0.type = some .string) (h1 : P.underlying f1.type = some (.int .i64)) (h2 : Opens P f2.type tSdS)
    (o0 : f0.offset = 0) (o1 : f1.offset = 1) (o2 : f2.offset = 2) (k0 : P.cellsOf f0.type = 1) (k1 : P.cellsOf f1.type = 1) (k2 : P.cellsOf f2.type = 1) (hC : P.cellsOf T = 3) : Opens P T tSt :=
  opens_fields hs fun w cs hl {H} enc base spare held n ys hyl hg => by
    obtain ⟨s, hs⟩ := field_at (i := 0) hyl hg rfl rfl o0 k0 (opens_str h0)
    obtain ⟨l, h1⟩ := field_at (i := 1) hyl hg rfl rfl o1 k1 (opens_int h1)
    obtain ⟨xs, h2⟩ := field_at (i := 2) hyl hg rfl rfl o2 k2 h2
    rw [hC] at hl
    match cs, hl with
    | [u0, u1, u2], _ =>
      refine ⟨(s, l, xs), st_R.2 ?_⟩
      have h0 : [u0] = [Value.string s] ∧ s.size ≤ maxLen := hs
      have h1' : [u1] = [Value.int .i64 l] := h1
      obtain ⟨A, n, c, e2⟩ := open_Sd h2
      have e2' : [u2] = [Value.slice A n c] := e2
      have h2' : tSdS.R w w.heap.size [u2] xs := h2
      injection h0.1 with e0
      injection h1' with e1
      injection e2' with e3
      subst e0 e1 e3
      exact ⟨A, n, c, rfl, h0.2, h2'⟩
theorem opens_St : Opens Tryz.prog 152 tSt :=
  st_open Tryz.underlying152 Tryz.underlying9 Tryz.underlying2 opens_SdS rfl rfl rfl (by kernel_rfl) (by kernel_rfl) (by kernel_rfl) (by kernel_rfl)
theorem opens_M : Opens Tryz.prog 28 tM :=
  opens_struct1 Tryz.underlying28 rfl (by kernel_rfl) (opens_sl Tryz.underlying26 (by kernel_rfl) opens_St)
end Go.Proofs.YtffhodocjjkkoaaGreat
namespace Go.Proofs.YtffhodocjjkkoaaGreat
open Go.RowKit
set_option maxRecDepth 100000
set_option maxHeartbeats 2000000
theorem opens_SS : Opens Tryz.prog 22 tSS := opens_sl Tryz.underlying22 (by kernel_rfl) opens_S
theorem n_open {P : Program} {T : TypeId} {f0 f1 f2 f3 : Field} (hs : P.underlying T = some (.struct #[f0, f1, f2, f3])) (h0 : P.underlying f0.type = some (.int .i64)) (h1 : P.underlying f1.type = some (.int .i64)) (h2 : P.underlying f2.type = some (.int .i64)) (h3 : Opens P f3.type tS) (o0 : f0.offset = 0) (o1 : f1.offset = 1) (o2 : f2.offset = 2) (o3 : f3.offset = 3) (k0 : P.cellsOf f0.type = 1) (k1 : P.cellsOf f1.type = 1) (k2 : P.cellsOf f2.type = 1) (k3 : P.cellsOf f3.type = 1) (hC : P.cellsOf T = 4) : Opens P T tN :=
  opens_fields hs fun w cs hl {H} enc base spare held n ys hyl hg => by
    obtain ⟨s0, g0⟩ := field_at (i := 0) hyl hg rfl rfl o0 k0 (opens_int h0)
    obtain ⟨s1, g1⟩ := field_at (i := 1) hyl hg rfl rfl o1 k1 (opens_int h1)
    obtain ⟨s2, g2⟩ := field_at (i := 2) hyl hg rfl rfl o2 k2 (opens_int h2)
    obtain ⟨s3, g3⟩ := field_at (i := 3) hyl hg rfl rfl o3 k3 h3
    rw [hC] at hl
    match cs, hl with
    | [u0, u1, u2, u3], _ =>
      refine ⟨(s0, s1, s2, s3), tN_R.2 ?_⟩
      have e0 : [u0] = [Value.int .i64 s0] := g0
      injection e0 with e0
      have e1 : [u1] = [Value.int .i64 s1] := g1
      injection e1 with e1
      have e2 : [u2] = [Value.int .i64 s2] := g2
      injection e2 with e2
      have r3 : tS.R w w.heap.size [u3] s3 := g3
      obtain ⟨A3, n3, c3, e3⟩ := open_sl r3
      injection e3 with e3
      subst e0 e1 e2 e3
      exact ⟨A3, n3, c3, rfl, r3⟩
theorem opens_Nd : Opens Tryz.prog 188 tN :=
  n_open Tryz.underlying188 Tryz.underlying2 Tryz.underlying2 Tryz.underlying2 opens_S rfl rfl rfl rfl (by kernel_rfl) (by kernel_rfl) (by kernel_rfl) (by kernel_rfl) (by kernel_rfl)
theorem opens_NdS : Opens Tryz.prog 96 tNS := opens_sl Tryz.underlying96 (by kernel_rfl) opens_Nd
theorem p_open {P : Program} {T : TypeId} {f0 f1 f2 f3 : Field} (hs : P.underlying T = some (.struct #[f0, f1, f2, f3])) (h0 : P.underlying f0.type = some (.int .i64)) (h1 : Opens P f1.type tSS) (h2 : Opens P f2.type tNS) (h3 : Opens P f3.type tS) (o0 : f0.offset = 0) (o1 : f1.offset = 1) (o2 : f2.offset = 2) (o3 : f3.offset = 3) (k0 : P.cellsOf f0.type = 1) (k1 : P.cellsOf f1.type = 1) (k2 : P.cellsOf f2.type = 1) (k3 : P.cellsOf f3.type = 1) (hC : P.cellsOf T = 4) : Opens P T tP :=
  opens_fields hs fun w cs hl {H} enc base spare held n ys hyl hg => by
    obtain ⟨s0, g0⟩ := field_at (i := 0) hyl hg rfl rfl o0 k0 (opens_int h0)
    obtain ⟨s1, g1⟩ := field_at (i := 1) hyl hg rfl rfl o1 k1 h1
    obtain ⟨s2, g2⟩ := field_at (i := 2) hyl hg rfl rfl o2 k2 h2
    obtain ⟨s3, g3⟩ := field_at (i := 3) hyl hg rfl rfl o3 k3 h3
    rw [hC] at hl
    match cs, hl with
    | [u0, u1, u2, u3], _ =>
      refine ⟨(s0, s1, s2, s3), tP_R.2 ?_⟩
      have e0 : [u0] = [Value.int .i64 s0] := g0
      injection e0 with e0
      have r1 : tSS.R w w.heap.size [u1] s1 := g1
      obtain ⟨A1, n1, c1, e1⟩ := open_sl r1
      injection e1 with e1
      have r2 : tNS.R w w.heap.size [u2] s2 := g2
      obtain ⟨A2, n2, c2, e2⟩ := open_sl r2
      injection e2 with e2
      have r3 : tS.R w w.heap.size [u3] s3 := g3
      obtain ⟨A3, n3, c3, e3⟩ := open_sl r3
      injection e3 with e3
      subst e0 e1 e2 e3
      exact ⟨A1, n1, c1, A2, n2, c2, A3, n3, c3, rfl, r1, r2, r3⟩
theorem opens_Pat : Opens Tryz.prog 98 tP :=
  p_open Tryz.underlying98 Tryz.underlying2 opens_SS opens_NdS opens_S rfl rfl rfl rfl (by kernel_rfl) (by kernel_rfl) (by kernel_rfl) (by kernel_rfl) (by kernel_rfl)
theorem opens_PatS : Opens Tryz.prog 25 tPS := opens_sl Tryz.underlying25 (by kernel_rfl) opens_Pat
theorem opens_TS : Opens Tryz.prog 23 tTS := opens_sl Tryz.underlying23 (by kernel_rfl) opens_T
theorem z_open {P : Program} {T : TypeId} {f0 f1 f2 f3 f4 f5 : Field} (hs : P.underlying T = some (.struct #[f0, f1, f2, f3, f4, f5])) (h0 : P.underlying f0.type = some (.int .i64)) (h1 : Opens P f1.type tSS) (h2 : Opens P f2.type tTS) (h3 : Opens P f3.type tS) (h4 : Opens P f4.type tPS) (h5 : Opens P f5.type tM) (o0 : f0.offset = 0) (o1 : f1.offset = 1) (o2 : f2.offset = 2) (o3 : f3.offset = 3) (o4 : f4.offset = 4) (o5 : f5.offset = 5) (k0 : P.cellsOf f0.type = 1) (k1 : P.cellsOf f1.type = 1) (k2 : P.cellsOf f2.type = 1) (k3 : P.cellsOf f3.type = 1) (k4 : P.cellsOf f4.type = 1) (k5 : P.cellsOf f5.type = 1) (hC : P.cellsOf T = 6) : Opens P T tZ :=
  opens_fields hs fun w cs hl {H} enc base spare held n ys hyl hg => by
    obtain ⟨s0, g0⟩ := field_at (i := 0) hyl hg rfl rfl o0 k0 (opens_int h0)
    obtain ⟨s1, g1⟩ := field_at (i := 1) hyl hg rfl rfl o1 k1 h1
    obtain ⟨s2, g2⟩ := field_at (i := 2) hyl hg rfl rfl o2 k2 h2
    obtain ⟨s3, g3⟩ := field_at (i := 3) hyl hg rfl rfl o3 k3 h3
    obtain ⟨s4, g4⟩ := field_at (i := 4) hyl hg rfl rfl o4 k4 h4
    obtain ⟨s5, g5⟩ := field_at (i := 5) hyl hg rfl rfl o5 k5 h5
    rw [hC] at hl
    match cs, hl with
    | [u0, u1, u2, u3, u4, u5], _ =>
      refine ⟨(s0, s1, s2, s3, s4, s5), tZ_R.2 ?_⟩
      have e0 : [u0] = [Value.int .i64 s0] := g0
      injection e0 with e0
      have r1 : tSS.R w w.heap.size [u1] s1 := g1
      obtain ⟨A1, n1, c1, e1⟩ := open_sl r1
      injection e1 with e1
      have r2 : tTS.R w w.heap.size [u2] s2 := g2
      obtain ⟨A2, n2, c2, e2⟩ := open_sl r2
      injection e2 with e2
      have r3 : tS.R w w.heap.size [u3] s3 := g3
      obtain ⟨A3, n3, c3, e3⟩ := open_sl r3
      injection e3 with e3
      have r4 : tPS.R w w.heap.size [u4] s4 := g4
      obtain ⟨A4, n4, c4, e4⟩ := open_sl r4
      injection e4 with e4
      have r5 : tM.R w w.heap.size [u5] s5 := g5
      obtain ⟨A5, n5, c5, e5⟩ := open_sl r5
      injection e5 with e5
      subst e0 e1 e2 e3 e4 e5
      exact ⟨A1, n1, c1, A2, n2, c2, A3, n3, c3, A4, n4, c4, A5, n5, c5, rfl, r1, r2, r3, r4, r5⟩
theorem opens_Ses : Opens Tryz.prog 30 tZ :=
  z_open Tryz.underlying30 Tryz.underlying2 opens_SS opens_TS opens_S opens_PatS opens_M rfl rfl rfl rfl rfl rfl (by kernel_rfl) (by kernel_rfl) (by kernel_rfl) (by kernel_rfl) (by kernel_rfl) (by kernel_rfl) (by kernel_rfl)
theorem opens_Y : Opens Tryz.prog 30 tZ := opens_Ses
theorem open_Y {w : World} {B : Nat} {cs : List Value} {x : Sess} (h : tZ.R w B cs x) : ∃ p A n c Ab nb cb Ac nc cc Ad nd cd Ae ne ce, cs = [.int .i64 p, .slice A n c, .slice Ab nb cb, .slice Ac nc cc, .slice Ad nd cd, .slice Ae ne ce] := by
  obtain ⟨a0, x1, x2, x3, x4, x5⟩ := x
  obtain ⟨A1, n1, c1, A2, n2, c2, A3, n3, c3, A4, n4, c4, A5, n5, c5, hcs, -⟩ := tZ_R.1 h
  exact ⟨_, _, _, _, _, _, _, _, _, _, _, _, _, _, _, _, hcs⟩
end Go.Proofs.YtffhodocjjkkoaaGreat
