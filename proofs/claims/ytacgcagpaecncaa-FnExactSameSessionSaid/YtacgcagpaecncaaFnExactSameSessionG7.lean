import Derived.Test.YtacgcagpaecncaaFnExactSameSessionG6
import Derived.Deep.DeepCutAuto
import Derived.Test.YtacgcagpaecncaaFnExactSameSessionG1
import Derived.Deep.Slices
import Derived.Deep.Fields
import Derived.ChangeSame
import Derived.Lib.SmallJoins
import Derived.Test.YtacgcagpaecncaaFnExactSameSessionG2
import Derived.Test.YtacgcagpaecncaaFnExactSameSessionG4
set_option linter.unusedVariables false
set_option linter.unusedSimpArgs false
namespace Go.Proofs.Ytacgcagpaecncaa
open Go.RowKit
set_option maxRecDepth 100000
set_option maxHeartbeats 4000000 in
theorem core_FnExactSameSession (p0 : Int) (A0 : Option Addr) (n0 : Nat) (c0 : Nat) (Ab0 : Option Addr) (nb0 : Nat) (cb0 : Nat) (Ac0 : Option Addr) (nc0 : Nat) (cc0 : Nat) (Ad0 : Option Addr) (nd0 : Nat) (cd0 : Nat) (Ae0 : Option Addr) (ne0 : Nat) (ce0 : Nat) (x0 : Sess) (p1 : Int) (A1 : Option Addr) (n1 : Nat) (c1 : Nat) (Ab1 : Option Addr) (nb1 : Nat) (cb1 : Nat) (Ac1 : Option Addr) (nc1 : Nat) (cc1 : Nat) (Ad1 : Option Addr) (nd1 : Nat) (cd1 : Nat) (Ae1 : Option Addr) (ne1 : Nat) (ce1 : Nat) (x1 : Sess) (z0 : Bool) (w : World)
    (hx0 : tZ.R w w.heap.size [.int .i64 p0, .slice A0 n0 c0, .slice Ab0 nb0 cb0, .slice Ac0 nc0 cc0, .slice Ad0 nd0 cd0, .slice Ae0 ne0 ce0] x0)
    (hx1 : tZ.R w w.heap.size [.int .i64 p1, .slice A1 n1 c1, .slice Ab1 nb1 cb1, .slice Ac1 nc1 cc1, .slice Ad1 nd1 cd1, .slice Ae1 ne1 ce1] x1)
    (hSpec : ∀ (p0 : Int) (A0 : Option Addr) (n0 : Nat) (c0 : Nat) (Ab0 : Option Addr) (nb0 : Nat) (cb0 : Nat) (Ac0 : Option Addr) (nc0 : Nat) (cc0 : Nat) (Ad0 : Option Addr) (nd0 : Nat) (cd0 : Nat) (Ae0 : Option Addr) (ne0 : Nat) (ce0 : Nat) (p1 : Int) (A1 : Option Addr) (n1 : Nat) (c1 : Nat) (Ab1 : Option Addr) (nb1 : Nat) (cb1 : Nat) (Ac1 : Option Addr) (nc1 : Nat) (cc1 : Nat) (Ad1 : Option Addr) (nd1 : Nat) (cd1 : Nat) (Ae1 : Option Addr) (ne1 : Nat) (ce1 : Nat) (w : World), tZ.R w w.heap.size [.int .i64 p0, .slice A0 n0 c0, .slice Ab0 nb0 cb0, .slice Ac0 nc0 cc0, .slice Ad0 nd0 cd0, .slice Ae0 ne0 ce0] x0 → tZ.R w w.heap.size [.int .i64 p1, .slice A1 n1 c1, .slice Ab1 nb1 cb1, .slice Ac1 nc1 cc1, .slice Ad1 nd1 cd1, .slice Ae1 ne1 ce1] x1 → hZ.sz x0 ≤ 1048576 → hZ.sz x1 ≤ 1048576 → Calls Try.prog 5 #[.agg #[.int .i64 p0, .slice A0 n0 c0, .slice Ab0 nb0 cb0, .slice Ac0 nc0 cc0, .slice Ad0 nd0 cd0, .slice Ae0 ne0 ce0], .agg #[.int .i64 p1, .slice A1 n1 c1, .slice Ab1 nb1 cb1, .slice Ac1 nc1 cc1, .slice Ad1 nd1 cd1, .slice Ae1 ne1 ce1]] w fun e w' => e = .returned (.bool z0) ∧ Below w.heap.size w w')
    (hImp : ∀ (p0 : Int) (A0 : Option Addr) (n0 : Nat) (c0 : Nat) (Ab0 : Option Addr) (nb0 : Nat) (cb0 : Nat) (Ac0 : Option Addr) (nc0 : Nat) (cc0 : Nat) (Ad0 : Option Addr) (nd0 : Nat) (cd0 : Nat) (Ae0 : Option Addr) (ne0 : Nat) (ce0 : Nat) (p1 : Int) (A1 : Option Addr) (n1 : Nat) (c1 : Nat) (Ab1 : Option Addr) (nb1 : Nat) (cb1 : Nat) (Ac1 : Option Addr) (nc1 : Nat) (cc1 : Nat) (Ad1 : Option Addr) (nd1 : Nat) (cd1 : Nat) (Ae1 : Option Addr) (ne1 : Nat) (ce1 : Nat) (w : World), tZ.R w w.heap.size [.int .i64 p0, .slice A0 n0 c0, .slice Ab0 nb0 cb0, .slice Ac0 nc0 cc0, .slice Ad0 nd0 cd0, .slice Ae0 ne0 ce0] x0 → tZ.R w w.heap.size [.int .i64 p1, .slice A1 n1 c1, .slice Ab1 nb1 cb1, .slice Ac1 nc1 cc1, .slice Ad1 nd1 cd1, .slice Ae1 ne1 ce1] x1 → hZ.sz x0 ≤ 1048576 → hZ.sz x1 ≤ 1048576 → Calls Try.prog 7 #[.agg #[.int .i64 p0, .slice A0 n0 c0, .slice Ab0 nb0 cb0, .slice Ac0 nc0 cc0, .slice Ad0 nd0 cd0, .slice Ae0 ne0 ce0], .agg #[.int .i64 p1, .slice A1 n1 c1, .slice Ab1 nb1 cb1, .slice Ac1 nc1 cc1, .slice Ad1 nd1 cd1, .slice Ae1 ne1 ce1]] w fun e w' => e = .returned (.bool z0) ∧ Below w.heap.size w w') :
    Calls Try.prog 3 #[.agg #[.int .i64 p0, .slice A0 n0 c0, .slice Ab0 nb0 cb0, .slice Ac0 nc0 cc0, .slice Ad0 nd0 cd0, .slice Ae0 ne0 ce0], .agg #[.int .i64 p1, .slice A1 n1 c1, .slice Ab1 nb1 cb1, .slice Ac1 nc1 cc1, .slice Ad1 nd1 cd1, .slice Ae1 ne1 ce1]] w fun e w' => e = .returned (.bool true) ∧ Below w.heap.size w w' := by
  have HS := Lib.hid hSpec
  have HI := Lib.hid hImp
  clear hSpec hImp
  have B : Below w.heap.size w ((w.alloc (.cells #[.int .i64 p0, .slice A0 n0 c0, .slice Ab0 nb0 cb0, .slice Ac0 nc0 cc0, .slice Ad0 nd0 cd0, .slice Ae0 ne0 ce0] 30)).alloc (.cells #[.int .i64 p1, .slice A1 n1 c1, .slice Ab1 nb1 cb1, .slice Ac1 nc1 cc1, .slice Ad1 nd1 cd1, .slice Ae1 ne1 ce1] 30)) := (((Below.refl _ _).alloc (by exact Nat.le_refl _) _).alloc (by simp) _)
  have hsize : ((w.alloc (.cells #[.int .i64 p0, .slice A0 n0 c0, .slice Ab0 nb0 cb0, .slice Ac0 nc0 cc0, .slice Ad0 nd0 cd0, .slice Ae0 ne0 ce0] 30)).alloc (.cells #[.int .i64 p1, .slice A1 n1 c1, .slice Ab1 nb1 cb1, .slice Ac1 nc1 cc1, .slice Ad1 nd1 cd1, .slice Ae1 ne1 ce1] 30)).heap.size = w.heap.size + 1 + 1 := by simp
  have pb0_0 : ((w.alloc (.cells #[.int .i64 p0, .slice A0 n0 c0, .slice Ab0 nb0 cb0, .slice Ac0 nc0 cc0, .slice Ad0 nd0 cd0, .slice Ae0 ne0 ce0] 30)).alloc (.cells #[.int .i64 p1, .slice A1 n1 c1, .slice Ab1 nb1 cb1, .slice Ac1 nc1 cc1, .slice Ad1 nd1 cd1, .slice Ae1 ne1 ce1] 30)).cell? ⟨w.heap.size, 0, none⟩ = some (.int .i64 p0) := by simp [go_sem]
  have pb0_1 : ((w.alloc (.cells #[.int .i64 p0, .slice A0 n0 c0, .slice Ab0 nb0 cb0, .slice Ac0 nc0 cc0, .slice Ad0 nd0 cd0, .slice Ae0 ne0 ce0] 30)).alloc (.cells #[.int .i64 p1, .slice A1 n1 c1, .slice Ab1 nb1 cb1, .slice Ac1 nc1 cc1, .slice Ad1 nd1 cd1, .slice Ae1 ne1 ce1] 30)).cell? ⟨w.heap.size, 1, none⟩ = some (.slice A0 n0 c0) := by simp [go_sem]
  have pb0_2 : ((w.alloc (.cells #[.int .i64 p0, .slice A0 n0 c0, .slice Ab0 nb0 cb0, .slice Ac0 nc0 cc0, .slice Ad0 nd0 cd0, .slice Ae0 ne0 ce0] 30)).alloc (.cells #[.int .i64 p1, .slice A1 n1 c1, .slice Ab1 nb1 cb1, .slice Ac1 nc1 cc1, .slice Ad1 nd1 cd1, .slice Ae1 ne1 ce1] 30)).cell? ⟨w.heap.size, 2, none⟩ = some (.slice Ab0 nb0 cb0) := by simp [go_sem]
  have pb0_3 : ((w.alloc (.cells #[.int .i64 p0, .slice A0 n0 c0, .slice Ab0 nb0 cb0, .slice Ac0 nc0 cc0, .slice Ad0 nd0 cd0, .slice Ae0 ne0 ce0] 30)).alloc (.cells #[.int .i64 p1, .slice A1 n1 c1, .slice Ab1 nb1 cb1, .slice Ac1 nc1 cc1, .slice Ad1 nd1 cd1, .slice Ae1 ne1 ce1] 30)).cell? ⟨w.heap.size, 3, none⟩ = some (.slice Ac0 nc0 cc0) := by simp [go_sem]
  have pb0_4 : ((w.alloc (.cells #[.int .i64 p0, .slice A0 n0 c0, .slice Ab0 nb0 cb0, .slice Ac0 nc0 cc0, .slice Ad0 nd0 cd0, .slice Ae0 ne0 ce0] 30)).alloc (.cells #[.int .i64 p1, .slice A1 n1 c1, .slice Ab1 nb1 cb1, .slice Ac1 nc1 cc1, .slice Ad1 nd1 cd1, .slice Ae1 ne1 ce1] 30)).cell? ⟨w.heap.size, 4, none⟩ = some (.slice Ad0 nd0 cd0) := by simp [go_sem]
  have pb0_5 : ((w.alloc (.cells #[.int .i64 p0, .slice A0 n0 c0, .slice Ab0 nb0 cb0, .slice Ac0 nc0 cc0, .slice Ad0 nd0 cd0, .slice Ae0 ne0 ce0] 30)).alloc (.cells #[.int .i64 p1, .slice A1 n1 c1, .slice Ab1 nb1 cb1, .slice Ac1 nc1 cc1, .slice Ad1 nd1 cd1, .slice Ae1 ne1 ce1] 30)).cell? ⟨w.heap.size, 5, none⟩ = some (.slice Ae0 ne0 ce0) := by simp [go_sem]
  have pb1_0 : ((w.alloc (.cells #[.int .i64 p0, .slice A0 n0 c0, .slice Ab0 nb0 cb0, .slice Ac0 nc0 cc0, .slice Ad0 nd0 cd0, .slice Ae0 ne0 ce0] 30)).alloc (.cells #[.int .i64 p1, .slice A1 n1 c1, .slice Ab1 nb1 cb1, .slice Ac1 nc1 cc1, .slice Ad1 nd1 cd1, .slice Ae1 ne1 ce1] 30)).cell? ⟨w.heap.size + 1, 0, none⟩ = some (.int .i64 p1) := by simp [go_sem]
  have pb1_1 : ((w.alloc (.cells #[.int .i64 p0, .slice A0 n0 c0, .slice Ab0 nb0 cb0, .slice Ac0 nc0 cc0, .slice Ad0 nd0 cd0, .slice Ae0 ne0 ce0] 30)).alloc (.cells #[.int .i64 p1, .slice A1 n1 c1, .slice Ab1 nb1 cb1, .slice Ac1 nc1 cc1, .slice Ad1 nd1 cd1, .slice Ae1 ne1 ce1] 30)).cell? ⟨w.heap.size + 1, 1, none⟩ = some (.slice A1 n1 c1) := by simp [go_sem]
  have pb1_2 : ((w.alloc (.cells #[.int .i64 p0, .slice A0 n0 c0, .slice Ab0 nb0 cb0, .slice Ac0 nc0 cc0, .slice Ad0 nd0 cd0, .slice Ae0 ne0 ce0] 30)).alloc (.cells #[.int .i64 p1, .slice A1 n1 c1, .slice Ab1 nb1 cb1, .slice Ac1 nc1 cc1, .slice Ad1 nd1 cd1, .slice Ae1 ne1 ce1] 30)).cell? ⟨w.heap.size + 1, 2, none⟩ = some (.slice Ab1 nb1 cb1) := by simp [go_sem]
  have pb1_3 : ((w.alloc (.cells #[.int .i64 p0, .slice A0 n0 c0, .slice Ab0 nb0 cb0, .slice Ac0 nc0 cc0, .slice Ad0 nd0 cd0, .slice Ae0 ne0 ce0] 30)).alloc (.cells #[.int .i64 p1, .slice A1 n1 c1, .slice Ab1 nb1 cb1, .slice Ac1 nc1 cc1, .slice Ad1 nd1 cd1, .slice Ae1 ne1 ce1] 30)).cell? ⟨w.heap.size + 1, 3, none⟩ = some (.slice Ac1 nc1 cc1) := by simp [go_sem]
  have pb1_4 : ((w.alloc (.cells #[.int .i64 p0, .slice A0 n0 c0, .slice Ab0 nb0 cb0, .slice Ac0 nc0 cc0, .slice Ad0 nd0 cd0, .slice Ae0 ne0 ce0] 30)).alloc (.cells #[.int .i64 p1, .slice A1 n1 c1, .slice Ab1 nb1 cb1, .slice Ac1 nc1 cc1, .slice Ad1 nd1 cd1, .slice Ae1 ne1 ce1] 30)).cell? ⟨w.heap.size + 1, 4, none⟩ = some (.slice Ad1 nd1 cd1) := by simp [go_sem]
  have pb1_5 : ((w.alloc (.cells #[.int .i64 p0, .slice A0 n0 c0, .slice Ab0 nb0 cb0, .slice Ac0 nc0 cc0, .slice Ad0 nd0 cd0, .slice Ae0 ne0 ce0] 30)).alloc (.cells #[.int .i64 p1, .slice A1 n1 c1, .slice Ab1 nb1 cb1, .slice Ac1 nc1 cc1, .slice Ad1 nd1 cd1, .slice Ae1 ne1 ce1] 30)).cell? ⟨w.heap.size + 1, 5, none⟩ = some (.slice Ae1 ne1 ce1) := by simp [go_sem]
  have left : ∀ (s : Nat) (l : Int), (s : Int) ≤ l → (if (s : Int) ≤ l then l - (s : Int) else -1) = l - (s : Int) := fun s l h => if_pos h
  have less : ∀ (s : Nat) (l : Int), ¬ (s : Int) ≤ l → (if (s : Int) ≤ l then l - (s : Int) else -1) = -1 := fun s l h => if_neg h
  have LEFT := Lib.hid left
  have LESS := Lib.hid less
  clear left less
  by_cases hb0 : (1048576 : Int) < (hZ.sz x0 : Int)
  · go_enter Try.func3, Try.ntmps3
    go_wp2_with fail
    refine (nf_sz_Y _ _ _ _ _ _ _ _ _ _ _ _ _ _ _ _ _ ((1048576 : Int)) _ (tZ.later hx0 B) (by omega)).mono ?_
    rw [LESS.out _ _ (by omega)]
    rintro e y0 ⟨rfl, b0⟩
    replace B := bel_trans B b0
    go_wp2_with fail
    go_ret
    exact ⟨rfl, B⟩
  by_cases hb1 : (1048576 : Int) - (hZ.sz x0 : Int) < (hZ.sz x1 : Int)
  · go_enter Try.func3, Try.ntmps3
    go_wp2_with fail
    refine (nf_sz_Y _ _ _ _ _ _ _ _ _ _ _ _ _ _ _ _ _ ((1048576 : Int)) _ (tZ.later hx0 B) (by omega)).mono ?_
    rw [LEFT.out _ _ (by omega)]
    rintro e y0 ⟨rfl, b0⟩
    have zy0 : w.heap.size + 1 + 1 ≤ y0.heap.size := by have := b0.size; simpa using this
    replace pb0_0 : y0.cell? ⟨w.heap.size, 0, none⟩ = some (.int .i64 p0) := by rw [b0.cell (by first | omega | (simp; done) | (simp; omega))]; exact pb0_0
    replace pb0_1 : y0.cell? ⟨w.heap.size, 1, none⟩ = some (.slice A0 n0 c0) := by rw [b0.cell (by first | omega | (simp; done) | (simp; omega))]; exact pb0_1
    replace pb0_2 : y0.cell? ⟨w.heap.size, 2, none⟩ = some (.slice Ab0 nb0 cb0) := by rw [b0.cell (by first | omega | (simp; done) | (simp; omega))]; exact pb0_2
    replace pb0_3 : y0.cell? ⟨w.heap.size, 3, none⟩ = some (.slice Ac0 nc0 cc0) := by rw [b0.cell (by first | omega | (simp; done) | (simp; omega))]; exact pb0_3
    replace pb0_4 : y0.cell? ⟨w.heap.size, 4, none⟩ = some (.slice Ad0 nd0 cd0) := by rw [b0.cell (by first | omega | (simp; done) | (simp; omega))]; exact pb0_4
    replace pb0_5 : y0.cell? ⟨w.heap.size, 5, none⟩ = some (.slice Ae0 ne0 ce0) := by rw [b0.cell (by first | omega | (simp; done) | (simp; omega))]; exact pb0_5
    replace pb1_0 : y0.cell? ⟨w.heap.size + 1, 0, none⟩ = some (.int .i64 p1) := by rw [b0.cell (by first | omega | (simp; done) | (simp; omega))]; exact pb1_0
    replace pb1_1 : y0.cell? ⟨w.heap.size + 1, 1, none⟩ = some (.slice A1 n1 c1) := by rw [b0.cell (by first | omega | (simp; done) | (simp; omega))]; exact pb1_1
    replace pb1_2 : y0.cell? ⟨w.heap.size + 1, 2, none⟩ = some (.slice Ab1 nb1 cb1) := by rw [b0.cell (by first | omega | (simp; done) | (simp; omega))]; exact pb1_2
    replace pb1_3 : y0.cell? ⟨w.heap.size + 1, 3, none⟩ = some (.slice Ac1 nc1 cc1) := by rw [b0.cell (by first | omega | (simp; done) | (simp; omega))]; exact pb1_3
    replace pb1_4 : y0.cell? ⟨w.heap.size + 1, 4, none⟩ = some (.slice Ad1 nd1 cd1) := by rw [b0.cell (by first | omega | (simp; done) | (simp; omega))]; exact pb1_4
    replace pb1_5 : y0.cell? ⟨w.heap.size + 1, 5, none⟩ = some (.slice Ae1 ne1 ce1) := by rw [b0.cell (by first | omega | (simp; done) | (simp; omega))]; exact pb1_5
    replace B := bel_trans B b0
    go_wp2_with fail
    refine (nf_sz_Y _ _ _ _ _ _ _ _ _ _ _ _ _ _ _ _ _ ((1048576 : Int) - (hZ.sz x0 : Int)) _ (tZ.later hx1 B) (by omega)).mono ?_
    rw [LESS.out _ _ (by omega)]
    rintro e y1 ⟨rfl, b1⟩
    replace B := bel_trans B b1
    go_wp2_with fail
    go_ret
    exact ⟨rfl, B⟩
  have hw0 : hZ.sz x0 ≤ 1048576 := by omega
  have hw1 : hZ.sz x1 ≤ 1048576 := by omega
  have hd0 : decide ((1048576 : Int) - (hZ.sz x0 : Int) < 0) = false := by simp only [decide_eq_false_iff_not]; omega
  have hd1 : decide ((1048576 : Int) - (hZ.sz x0 : Int) - (hZ.sz x1 : Int) < 0) = false := by simp only [decide_eq_false_iff_not]; omega
  clear hsize
  go_enter Try.func3, Try.ntmps3
  go_wp2_with fail
  refine (nf_sz_Y _ _ _ _ _ _ _ _ _ _ _ _ _ _ _ _ _ ((1048576 : Int)) _ (tZ.later hx0 B) (by omega)).mono ?_
  rw [LEFT.out _ _ (by omega)]
  rintro e y0 ⟨rfl, b0⟩
  have zy0 : w.heap.size + 1 + 1 ≤ y0.heap.size := by have := b0.size; simpa using this
  replace pb0_0 : y0.cell? ⟨w.heap.size, 0, none⟩ = some (.int .i64 p0) := by rw [b0.cell (by first | omega | (simp; done) | (simp; omega))]; exact pb0_0
  replace pb0_1 : y0.cell? ⟨w.heap.size, 1, none⟩ = some (.slice A0 n0 c0) := by rw [b0.cell (by first | omega | (simp; done) | (simp; omega))]; exact pb0_1
  replace pb0_2 : y0.cell? ⟨w.heap.size, 2, none⟩ = some (.slice Ab0 nb0 cb0) := by rw [b0.cell (by first | omega | (simp; done) | (simp; omega))]; exact pb0_2
  replace pb0_3 : y0.cell? ⟨w.heap.size, 3, none⟩ = some (.slice Ac0 nc0 cc0) := by rw [b0.cell (by first | omega | (simp; done) | (simp; omega))]; exact pb0_3
  replace pb0_4 : y0.cell? ⟨w.heap.size, 4, none⟩ = some (.slice Ad0 nd0 cd0) := by rw [b0.cell (by first | omega | (simp; done) | (simp; omega))]; exact pb0_4
  replace pb0_5 : y0.cell? ⟨w.heap.size, 5, none⟩ = some (.slice Ae0 ne0 ce0) := by rw [b0.cell (by first | omega | (simp; done) | (simp; omega))]; exact pb0_5
  replace pb1_0 : y0.cell? ⟨w.heap.size + 1, 0, none⟩ = some (.int .i64 p1) := by rw [b0.cell (by first | omega | (simp; done) | (simp; omega))]; exact pb1_0
  replace pb1_1 : y0.cell? ⟨w.heap.size + 1, 1, none⟩ = some (.slice A1 n1 c1) := by rw [b0.cell (by first | omega | (simp; done) | (simp; omega))]; exact pb1_1
  replace pb1_2 : y0.cell? ⟨w.heap.size + 1, 2, none⟩ = some (.slice Ab1 nb1 cb1) := by rw [b0.cell (by first | omega | (simp; done) | (simp; omega))]; exact pb1_2
  replace pb1_3 : y0.cell? ⟨w.heap.size + 1, 3, none⟩ = some (.slice Ac1 nc1 cc1) := by rw [b0.cell (by first | omega | (simp; done) | (simp; omega))]; exact pb1_3
  replace pb1_4 : y0.cell? ⟨w.heap.size + 1, 4, none⟩ = some (.slice Ad1 nd1 cd1) := by rw [b0.cell (by first | omega | (simp; done) | (simp; omega))]; exact pb1_4
  replace pb1_5 : y0.cell? ⟨w.heap.size + 1, 5, none⟩ = some (.slice Ae1 ne1 ce1) := by rw [b0.cell (by first | omega | (simp; done) | (simp; omega))]; exact pb1_5
  replace B := bel_trans B b0
  clear b0
  have lt0 : w.heap.size < y0.heap.size := by omega
  have lt1 : w.heap.size + 1 < y0.heap.size := by omega
  go_wp2_with fail
  refine (nf_sz_Y _ _ _ _ _ _ _ _ _ _ _ _ _ _ _ _ _ ((1048576 : Int) - (hZ.sz x0 : Int)) _ (tZ.later hx1 B) (by omega)).mono ?_
  rw [LEFT.out _ _ (by omega)]
  rintro e y1 ⟨rfl, b1⟩
  have zy1 : y0.heap.size ≤ y1.heap.size := by have := b1.size; simpa using this
  replace pb0_0 : y1.cell? ⟨w.heap.size, 0, none⟩ = some (.int .i64 p0) := by rw [b1.cell (by first | omega | (simp; done) | (simp; omega))]; exact pb0_0
  replace pb0_1 : y1.cell? ⟨w.heap.size, 1, none⟩ = some (.slice A0 n0 c0) := by rw [b1.cell (by first | omega | (simp; done) | (simp; omega))]; exact pb0_1
  replace pb0_2 : y1.cell? ⟨w.heap.size, 2, none⟩ = some (.slice Ab0 nb0 cb0) := by rw [b1.cell (by first | omega | (simp; done) | (simp; omega))]; exact pb0_2
  replace pb0_3 : y1.cell? ⟨w.heap.size, 3, none⟩ = some (.slice Ac0 nc0 cc0) := by rw [b1.cell (by first | omega | (simp; done) | (simp; omega))]; exact pb0_3
  replace pb0_4 : y1.cell? ⟨w.heap.size, 4, none⟩ = some (.slice Ad0 nd0 cd0) := by rw [b1.cell (by first | omega | (simp; done) | (simp; omega))]; exact pb0_4
  replace pb0_5 : y1.cell? ⟨w.heap.size, 5, none⟩ = some (.slice Ae0 ne0 ce0) := by rw [b1.cell (by first | omega | (simp; done) | (simp; omega))]; exact pb0_5
  replace pb1_0 : y1.cell? ⟨w.heap.size + 1, 0, none⟩ = some (.int .i64 p1) := by rw [b1.cell (by first | omega | (simp; done) | (simp; omega))]; exact pb1_0
  replace pb1_1 : y1.cell? ⟨w.heap.size + 1, 1, none⟩ = some (.slice A1 n1 c1) := by rw [b1.cell (by first | omega | (simp; done) | (simp; omega))]; exact pb1_1
  replace pb1_2 : y1.cell? ⟨w.heap.size + 1, 2, none⟩ = some (.slice Ab1 nb1 cb1) := by rw [b1.cell (by first | omega | (simp; done) | (simp; omega))]; exact pb1_2
  replace pb1_3 : y1.cell? ⟨w.heap.size + 1, 3, none⟩ = some (.slice Ac1 nc1 cc1) := by rw [b1.cell (by first | omega | (simp; done) | (simp; omega))]; exact pb1_3
  replace pb1_4 : y1.cell? ⟨w.heap.size + 1, 4, none⟩ = some (.slice Ad1 nd1 cd1) := by rw [b1.cell (by first | omega | (simp; done) | (simp; omega))]; exact pb1_4
  replace pb1_5 : y1.cell? ⟨w.heap.size + 1, 5, none⟩ = some (.slice Ae1 ne1 ce1) := by rw [b1.cell (by first | omega | (simp; done) | (simp; omega))]; exact pb1_5
  replace B := bel_trans B b1
  clear b1
  replace lt0 : w.heap.size < y1.heap.size := by omega
  replace lt1 : w.heap.size + 1 < y1.heap.size := by omega
  clear LEFT LESS
  go_upto_region 8 with fail
  go_cut [6] (fun q6 wx => q6 = .bool z0 ∧ Below y1.heap.size y1 wx)
  case first =>
    go_region_held3 (fun w' => Below y1.heap.size y1 w' ∧ w'.cell? ⟨w.heap.size, 0, none⟩ = some (.int .i64 p0) ∧ w'.cell? ⟨w.heap.size, 1, none⟩ = some (.slice A0 n0 c0) ∧ w'.cell? ⟨w.heap.size, 2, none⟩ = some (.slice Ab0 nb0 cb0) ∧ w'.cell? ⟨w.heap.size, 3, none⟩ = some (.slice Ac0 nc0 cc0) ∧ w'.cell? ⟨w.heap.size, 4, none⟩ = some (.slice Ad0 nd0 cd0) ∧ w'.cell? ⟨w.heap.size, 5, none⟩ = some (.slice Ae0 ne0 ce0) ∧ w'.cell? ⟨w.heap.size + 1, 0, none⟩ = some (.int .i64 p1) ∧ w'.cell? ⟨w.heap.size + 1, 1, none⟩ = some (.slice A1 n1 c1) ∧ w'.cell? ⟨w.heap.size + 1, 2, none⟩ = some (.slice Ab1 nb1 cb1) ∧ w'.cell? ⟨w.heap.size + 1, 3, none⟩ = some (.slice Ac1 nc1 cc1) ∧ w'.cell? ⟨w.heap.size + 1, 4, none⟩ = some (.slice Ad1 nd1 cd1) ∧ w'.cell? ⟨w.heap.size + 1, 5, none⟩ = some (.slice Ae1 ne1 ce1))
      (first | exact ⟨below_drewN (Below.refl _ _) _, pb0_0, pb0_1, pb0_2, pb0_3, pb0_4, pb0_5, pb1_0, pb1_1, pb1_2, pb1_3, pb1_4, pb1_5⟩ | exact ⟨gf, (by rw [gf.cell (by first | omega | (simp; done) | (simp; omega))]; exact pb0_0), (by rw [gf.cell (by first | omega | (simp; done) | (simp; omega))]; exact pb0_1), (by rw [gf.cell (by first | omega | (simp; done) | (simp; omega))]; exact pb0_2), (by rw [gf.cell (by first | omega | (simp; done) | (simp; omega))]; exact pb0_3), (by rw [gf.cell (by first | omega | (simp; done) | (simp; omega))]; exact pb0_4), (by rw [gf.cell (by first | omega | (simp; done) | (simp; omega))]; exact pb0_5), (by rw [gf.cell (by first | omega | (simp; done) | (simp; omega))]; exact pb1_0), (by rw [gf.cell (by first | omega | (simp; done) | (simp; omega))]; exact pb1_1), (by rw [gf.cell (by first | omega | (simp; done) | (simp; omega))]; exact pb1_2), (by rw [gf.cell (by first | omega | (simp; done) | (simp; omega))]; exact pb1_3), (by rw [gf.cell (by first | omega | (simp; done) | (simp; omega))]; exact pb1_4), (by rw [gf.cell (by first | omega | (simp; done) | (simp; omega))]; exact pb1_5)⟩ | exact ⟨gz, (by rw [gz.cell (by first | omega | (simp; done) | (simp; omega))]; exact pb0_0), (by rw [gz.cell (by first | omega | (simp; done) | (simp; omega))]; exact pb0_1), (by rw [gz.cell (by first | omega | (simp; done) | (simp; omega))]; exact pb0_2), (by rw [gz.cell (by first | omega | (simp; done) | (simp; omega))]; exact pb0_3), (by rw [gz.cell (by first | omega | (simp; done) | (simp; omega))]; exact pb0_4), (by rw [gz.cell (by first | omega | (simp; done) | (simp; omega))]; exact pb0_5), (by rw [gz.cell (by first | omega | (simp; done) | (simp; omega))]; exact pb1_0), (by rw [gz.cell (by first | omega | (simp; done) | (simp; omega))]; exact pb1_1), (by rw [gz.cell (by first | omega | (simp; done) | (simp; omega))]; exact pb1_2), (by rw [gz.cell (by first | omega | (simp; done) | (simp; omega))]; exact pb1_3), (by rw [gz.cell (by first | omega | (simp; done) | (simp; omega))]; exact pb1_4), (by rw [gz.cell (by first | omega | (simp; done) | (simp; omega))]; exact pb1_5)⟩ | exact ⟨g0, (by rw [g0.cell (by first | omega | (simp; done) | (simp; omega))]; exact pb0_0), (by rw [g0.cell (by first | omega | (simp; done) | (simp; omega))]; exact pb0_1), (by rw [g0.cell (by first | omega | (simp; done) | (simp; omega))]; exact pb0_2), (by rw [g0.cell (by first | omega | (simp; done) | (simp; omega))]; exact pb0_3), (by rw [g0.cell (by first | omega | (simp; done) | (simp; omega))]; exact pb0_4), (by rw [g0.cell (by first | omega | (simp; done) | (simp; omega))]; exact pb0_5), (by rw [g0.cell (by first | omega | (simp; done) | (simp; omega))]; exact pb1_0), (by rw [g0.cell (by first | omega | (simp; done) | (simp; omega))]; exact pb1_1), (by rw [g0.cell (by first | omega | (simp; done) | (simp; omega))]; exact pb1_2), (by rw [g0.cell (by first | omega | (simp; done) | (simp; omega))]; exact pb1_3), (by rw [g0.cell (by first | omega | (simp; done) | (simp; omega))]; exact pb1_4), (by rw [g0.cell (by first | omega | (simp; done) | (simp; omega))]; exact pb1_5)⟩ | exact ⟨g1, (by rw [g1.cell (by first | omega | (simp; done) | (simp; omega))]; exact pb0_0), (by rw [g1.cell (by first | omega | (simp; done) | (simp; omega))]; exact pb0_1), (by rw [g1.cell (by first | omega | (simp; done) | (simp; omega))]; exact pb0_2), (by rw [g1.cell (by first | omega | (simp; done) | (simp; omega))]; exact pb0_3), (by rw [g1.cell (by first | omega | (simp; done) | (simp; omega))]; exact pb0_4), (by rw [g1.cell (by first | omega | (simp; done) | (simp; omega))]; exact pb0_5), (by rw [g1.cell (by first | omega | (simp; done) | (simp; omega))]; exact pb1_0), (by rw [g1.cell (by first | omega | (simp; done) | (simp; omega))]; exact pb1_1), (by rw [g1.cell (by first | omega | (simp; done) | (simp; omega))]; exact pb1_2), (by rw [g1.cell (by first | omega | (simp; done) | (simp; omega))]; exact pb1_3), (by rw [g1.cell (by first | omega | (simp; done) | (simp; omega))]; exact pb1_4), (by rw [g1.cell (by first | omega | (simp; done) | (simp; omega))]; exact pb1_5)⟩)
      (first | (go_at_call 5; refine (HS.out _ _ _ _ _ _ _ _ _ _ _ _ _ _ _ _ _ _ _ _ _ _ _ _ _ _ _ _ _ _ _ _ _ (tZ.read o0) (tZ.read o1) hw0 hw1).mono ?_; rintro e vf ⟨rfl, bf⟩; have gf : Below y1.heap.size y1 vf := (bel_trans gz bf)) | (go_at_call 6; refine (nf_to_Y _ _ _ _ _ _ _ _ _ _ _ _ _ _ _ _ _ _ (tZ.later hx1 (bel_trans B g0)) (by omega)).mono ?_; rintro e v1 ⟨pi1, Ai1, ni1, ci1, Abi1, nbi1, cbi1, Aci1, nci1, cci1, Adi1, ndi1, cdi1, Aei1, nei1, cei1, rfl, o1, b1⟩; replace o1 : tZ.O v1 (Iv v0.heap.size v1.heap.size) [.int .i64 pi1, .slice Ai1 ni1 ci1, .slice Abi1 nbi1 cbi1, .slice Aci1 nci1 cci1, .slice Adi1 ndi1 cdi1, .slice Aei1 nei1 cei1] x1 := tZ.oiv o1 (by first | exact Nat.le_refl _ | simp | (skip; first | omega | (simp; omega))) (Nat.le_refl _); have g1 : Below y1.heap.size y1 v1 := (bel_trans g0 b1); replace o0 : tZ.O v1 (Iv y1.heap.size v0.heap.size) [.int .i64 pi0, .slice Ai0 ni0 ci0, .slice Abi0 nbi0 cbi0, .slice Aci0 nci0 cci0, .slice Adi0 ndi0 cdi0, .slice Aei0 nei0 cei0] x0 := tZ.obelow o0 b1 (by first | exact Nat.le_refl _ | (have := b1.size; omega)); have gz : Below y1.heap.size y1 v1 := g1) | (go_at_call 6; refine (nf_to_Y _ _ _ _ _ _ _ _ _ _ _ _ _ _ _ _ _ _ (tZ.later hx0 (bel_trans B (below_drewN (Below.refl _ _) 1))) (by omega)).mono ?_; rintro e v0 ⟨pi0, Ai0, ni0, ci0, Abi0, nbi0, cbi0, Aci0, nci0, cci0, Adi0, ndi0, cdi0, Aei0, nei0, cei0, rfl, o0, b0⟩; replace o0 : tZ.O v0 (Iv y1.heap.size v0.heap.size) [.int .i64 pi0, .slice Ai0 ni0 ci0, .slice Abi0 nbi0 cbi0, .slice Aci0 nci0 cci0, .slice Adi0 ndi0 cdi0, .slice Aei0 nei0 cei0] x0 := tZ.oiv o0 (by first | exact Nat.le_refl _ | simp | (skip; first | omega | (simp; omega))) (Nat.le_refl _); have g0 : Below y1.heap.size y1 v0 := (bel_trans (below_drewN (Below.refl _ _) 1) b0); have gz : Below y1.heap.size y1 v0 := g0))
    all_goals
      have GF := gf
      have zf := GF.size
      have zg := gz.size
      have zh := bf.size
      have zi0 := b0.size
      have zi1 := b1.size
      go_wp2_with fail
      go_meet
      exact ⟨rfl, GF⟩
  case rest =>
    have hcut_ := hcut
    clear hcut
    obtain ⟨u1, rfl⟩ : ∃ u_ : World, u_ = wc := ⟨_, rfl⟩
    obtain ⟨rfl, G⟩ := hcut_
    have zu1 : y1.heap.size ≤ u1.heap.size := by have := G.size; omega
    replace pb0_0 : u1.cell? ⟨w.heap.size, 0, none⟩ = some (.int .i64 p0) := by rw [G.cell (by first | omega | (simp; done) | (simp; omega))]; exact pb0_0
    replace pb0_1 : u1.cell? ⟨w.heap.size, 1, none⟩ = some (.slice A0 n0 c0) := by rw [G.cell (by first | omega | (simp; done) | (simp; omega))]; exact pb0_1
    replace pb0_2 : u1.cell? ⟨w.heap.size, 2, none⟩ = some (.slice Ab0 nb0 cb0) := by rw [G.cell (by first | omega | (simp; done) | (simp; omega))]; exact pb0_2
    replace pb0_3 : u1.cell? ⟨w.heap.size, 3, none⟩ = some (.slice Ac0 nc0 cc0) := by rw [G.cell (by first | omega | (simp; done) | (simp; omega))]; exact pb0_3
    replace pb0_4 : u1.cell? ⟨w.heap.size, 4, none⟩ = some (.slice Ad0 nd0 cd0) := by rw [G.cell (by first | omega | (simp; done) | (simp; omega))]; exact pb0_4
    replace pb0_5 : u1.cell? ⟨w.heap.size, 5, none⟩ = some (.slice Ae0 ne0 ce0) := by rw [G.cell (by first | omega | (simp; done) | (simp; omega))]; exact pb0_5
    replace pb1_0 : u1.cell? ⟨w.heap.size + 1, 0, none⟩ = some (.int .i64 p1) := by rw [G.cell (by first | omega | (simp; done) | (simp; omega))]; exact pb1_0
    replace pb1_1 : u1.cell? ⟨w.heap.size + 1, 1, none⟩ = some (.slice A1 n1 c1) := by rw [G.cell (by first | omega | (simp; done) | (simp; omega))]; exact pb1_1
    replace pb1_2 : u1.cell? ⟨w.heap.size + 1, 2, none⟩ = some (.slice Ab1 nb1 cb1) := by rw [G.cell (by first | omega | (simp; done) | (simp; omega))]; exact pb1_2
    replace pb1_3 : u1.cell? ⟨w.heap.size + 1, 3, none⟩ = some (.slice Ac1 nc1 cc1) := by rw [G.cell (by first | omega | (simp; done) | (simp; omega))]; exact pb1_3
    replace pb1_4 : u1.cell? ⟨w.heap.size + 1, 4, none⟩ = some (.slice Ad1 nd1 cd1) := by rw [G.cell (by first | omega | (simp; done) | (simp; omega))]; exact pb1_4
    replace pb1_5 : u1.cell? ⟨w.heap.size + 1, 5, none⟩ = some (.slice Ae1 ne1 ce1) := by rw [G.cell (by first | omega | (simp; done) | (simp; omega))]; exact pb1_5
    replace B := bel_trans B G
    clear G
    replace lt0 : w.heap.size < u1.heap.size := by omega
    replace lt1 : w.heap.size + 1 < u1.heap.size := by omega
    go_wp2_with fail
    refine (nf_to_Y _ _ _ _ _ _ _ _ _ _ _ _ _ _ _ _ _ _ (tZ.later hx0 B) (by omega)).mono ?_
    rintro e u2 ⟨px0o, Ax0o, nx0o, cx0o, Abx0o, nbx0o, cbx0o, Acx0o, ncx0o, ccx0o, Adx0o, ndx0o, cdx0o, Aex0o, nex0o, cex0o, rfl, x0o, bb⟩
    have G := bb
    have zu2 : u1.heap.size ≤ u2.heap.size := by have := bb.size; simpa using this
    replace pb0_0 : u2.cell? ⟨w.heap.size, 0, none⟩ = some (.int .i64 p0) := by rw [G.cell (by first | omega | (simp; done) | (simp; omega))]; exact pb0_0
    replace pb0_1 : u2.cell? ⟨w.heap.size, 1, none⟩ = some (.slice A0 n0 c0) := by rw [G.cell (by first | omega | (simp; done) | (simp; omega))]; exact pb0_1
    replace pb0_2 : u2.cell? ⟨w.heap.size, 2, none⟩ = some (.slice Ab0 nb0 cb0) := by rw [G.cell (by first | omega | (simp; done) | (simp; omega))]; exact pb0_2
    replace pb0_3 : u2.cell? ⟨w.heap.size, 3, none⟩ = some (.slice Ac0 nc0 cc0) := by rw [G.cell (by first | omega | (simp; done) | (simp; omega))]; exact pb0_3
    replace pb0_4 : u2.cell? ⟨w.heap.size, 4, none⟩ = some (.slice Ad0 nd0 cd0) := by rw [G.cell (by first | omega | (simp; done) | (simp; omega))]; exact pb0_4
    replace pb0_5 : u2.cell? ⟨w.heap.size, 5, none⟩ = some (.slice Ae0 ne0 ce0) := by rw [G.cell (by first | omega | (simp; done) | (simp; omega))]; exact pb0_5
    replace pb1_0 : u2.cell? ⟨w.heap.size + 1, 0, none⟩ = some (.int .i64 p1) := by rw [G.cell (by first | omega | (simp; done) | (simp; omega))]; exact pb1_0
    replace pb1_1 : u2.cell? ⟨w.heap.size + 1, 1, none⟩ = some (.slice A1 n1 c1) := by rw [G.cell (by first | omega | (simp; done) | (simp; omega))]; exact pb1_1
    replace pb1_2 : u2.cell? ⟨w.heap.size + 1, 2, none⟩ = some (.slice Ab1 nb1 cb1) := by rw [G.cell (by first | omega | (simp; done) | (simp; omega))]; exact pb1_2
    replace pb1_3 : u2.cell? ⟨w.heap.size + 1, 3, none⟩ = some (.slice Ac1 nc1 cc1) := by rw [G.cell (by first | omega | (simp; done) | (simp; omega))]; exact pb1_3
    replace pb1_4 : u2.cell? ⟨w.heap.size + 1, 4, none⟩ = some (.slice Ad1 nd1 cd1) := by rw [G.cell (by first | omega | (simp; done) | (simp; omega))]; exact pb1_4
    replace pb1_5 : u2.cell? ⟨w.heap.size + 1, 5, none⟩ = some (.slice Ae1 ne1 ce1) := by rw [G.cell (by first | omega | (simp; done) | (simp; omega))]; exact pb1_5
    replace x0o : tZ.O u2 (Iv (u1.heap.size) u2.heap.size) [.int .i64 px0o, .slice Ax0o nx0o cx0o, .slice Abx0o nbx0o cbx0o, .slice Acx0o ncx0o ccx0o, .slice Adx0o ndx0o cdx0o, .slice Aex0o nex0o cex0o] x0 := tZ.oiv x0o (by simp) (Nat.le_refl _)
    replace B := bel_trans B G
    clear G bb
    replace lt0 : w.heap.size < u2.heap.size := by omega
    replace lt1 : w.heap.size + 1 < u2.heap.size := by omega
    have G0 : Below u2.heap.size u2 (u2.alloc (.cells #[.int .i64 px0o, .slice Ax0o nx0o cx0o, .slice Abx0o nbx0o cbx0o, .slice Acx0o ncx0o ccx0o, .slice Adx0o ndx0o cdx0o, .slice Aex0o nex0o cex0o] 39)) := (Below.refl _ _).alloc (Nat.le_refl _) _
    go_wp2_with fail
    refine (nf_to_Y _ _ _ _ _ _ _ _ _ _ _ _ _ _ _ _ _ _ (tZ.later hx1 (bel_trans B G0)) (by omega)).mono ?_
    rintro e u3 ⟨px1o, Ax1o, nx1o, cx1o, Abx1o, nbx1o, cbx1o, Acx1o, ncx1o, ccx1o, Adx1o, ndx1o, cdx1o, Aex1o, nex1o, cex1o, rfl, x1o, bb⟩
    have G := bel_trans G0 bb
    have zu3 : u2.heap.size + 1 ≤ u3.heap.size := by have := bb.size; simp at this; omega
    replace pb0_0 : u3.cell? ⟨w.heap.size, 0, none⟩ = some (.int .i64 p0) := by rw [G.cell (by first | omega | (simp; done) | (simp; omega))]; exact pb0_0
    replace pb0_1 : u3.cell? ⟨w.heap.size, 1, none⟩ = some (.slice A0 n0 c0) := by rw [G.cell (by first | omega | (simp; done) | (simp; omega))]; exact pb0_1
    replace pb0_2 : u3.cell? ⟨w.heap.size, 2, none⟩ = some (.slice Ab0 nb0 cb0) := by rw [G.cell (by first | omega | (simp; done) | (simp; omega))]; exact pb0_2
    replace pb0_3 : u3.cell? ⟨w.heap.size, 3, none⟩ = some (.slice Ac0 nc0 cc0) := by rw [G.cell (by first | omega | (simp; done) | (simp; omega))]; exact pb0_3
    replace pb0_4 : u3.cell? ⟨w.heap.size, 4, none⟩ = some (.slice Ad0 nd0 cd0) := by rw [G.cell (by first | omega | (simp; done) | (simp; omega))]; exact pb0_4
    replace pb0_5 : u3.cell? ⟨w.heap.size, 5, none⟩ = some (.slice Ae0 ne0 ce0) := by rw [G.cell (by first | omega | (simp; done) | (simp; omega))]; exact pb0_5
    replace pb1_0 : u3.cell? ⟨w.heap.size + 1, 0, none⟩ = some (.int .i64 p1) := by rw [G.cell (by first | omega | (simp; done) | (simp; omega))]; exact pb1_0
    replace pb1_1 : u3.cell? ⟨w.heap.size + 1, 1, none⟩ = some (.slice A1 n1 c1) := by rw [G.cell (by first | omega | (simp; done) | (simp; omega))]; exact pb1_1
    replace pb1_2 : u3.cell? ⟨w.heap.size + 1, 2, none⟩ = some (.slice Ab1 nb1 cb1) := by rw [G.cell (by first | omega | (simp; done) | (simp; omega))]; exact pb1_2
    replace pb1_3 : u3.cell? ⟨w.heap.size + 1, 3, none⟩ = some (.slice Ac1 nc1 cc1) := by rw [G.cell (by first | omega | (simp; done) | (simp; omega))]; exact pb1_3
    replace pb1_4 : u3.cell? ⟨w.heap.size + 1, 4, none⟩ = some (.slice Ad1 nd1 cd1) := by rw [G.cell (by first | omega | (simp; done) | (simp; omega))]; exact pb1_4
    replace pb1_5 : u3.cell? ⟨w.heap.size + 1, 5, none⟩ = some (.slice Ae1 ne1 ce1) := by rw [G.cell (by first | omega | (simp; done) | (simp; omega))]; exact pb1_5
    replace x0o := tZ.obelow x0o G (by omega)
    have xb0_0 : u3.cell? ⟨u2.heap.size, 0, none⟩ = some (.int .i64 px0o) := by rw [bb.cell (by simp)]; simp [go_sem]
    have xb0_1 : u3.cell? ⟨u2.heap.size, 1, none⟩ = some (.slice Ax0o nx0o cx0o) := by rw [bb.cell (by simp)]; simp [go_sem]
    have xb0_2 : u3.cell? ⟨u2.heap.size, 2, none⟩ = some (.slice Abx0o nbx0o cbx0o) := by rw [bb.cell (by simp)]; simp [go_sem]
    have xb0_3 : u3.cell? ⟨u2.heap.size, 3, none⟩ = some (.slice Acx0o ncx0o ccx0o) := by rw [bb.cell (by simp)]; simp [go_sem]
    have xb0_4 : u3.cell? ⟨u2.heap.size, 4, none⟩ = some (.slice Adx0o ndx0o cdx0o) := by rw [bb.cell (by simp)]; simp [go_sem]
    have xb0_5 : u3.cell? ⟨u2.heap.size, 5, none⟩ = some (.slice Aex0o nex0o cex0o) := by rw [bb.cell (by simp)]; simp [go_sem]
    replace x1o : tZ.O u3 (Iv (u2.heap.size + 1) u3.heap.size) [.int .i64 px1o, .slice Ax1o nx1o cx1o, .slice Abx1o nbx1o cbx1o, .slice Acx1o ncx1o ccx1o, .slice Adx1o ndx1o cdx1o, .slice Aex1o nex1o cex1o] x1 := tZ.oiv x1o (by simp) (Nat.le_refl _)
    replace B := bel_trans B G
    clear G bb G0
    replace lt0 : w.heap.size < u3.heap.size := by omega
    replace lt1 : w.heap.size + 1 < u3.heap.size := by omega
    have lt2 : u2.heap.size < u3.heap.size := by omega
    have G0 : Below u3.heap.size u3 (u3.alloc (.cells #[.int .i64 px1o, .slice Ax1o nx1o cx1o, .slice Abx1o nbx1o cbx1o, .slice Acx1o ncx1o ccx1o, .slice Adx1o ndx1o cdx1o, .slice Aex1o nex1o cex1o] 39)) := (Below.refl _ _).alloc (Nat.le_refl _) _
    go_wp2_with fail
    refine (HI.out _ _ _ _ _ _ _ _ _ _ _ _ _ _ _ _ _ _ _ _ _ _ _ _ _ _ _ _ _ _ _ _ _ (tZ.later (tZ.read x0o) G0) (tZ.later (tZ.read x1o) G0) hw0 hw1).mono ?_
    rintro e u4 ⟨rfl, bb⟩
    have G := bel_trans G0 bb
    have zu4 : u3.heap.size + 1 ≤ u4.heap.size := by have := bb.size; simp at this; omega
    replace pb0_0 : u4.cell? ⟨w.heap.size, 0, none⟩ = some (.int .i64 p0) := by rw [G.cell (by first | omega | (simp; done) | (simp; omega))]; exact pb0_0
    replace pb0_1 : u4.cell? ⟨w.heap.size, 1, none⟩ = some (.slice A0 n0 c0) := by rw [G.cell (by first | omega | (simp; done) | (simp; omega))]; exact pb0_1
    replace pb0_2 : u4.cell? ⟨w.heap.size, 2, none⟩ = some (.slice Ab0 nb0 cb0) := by rw [G.cell (by first | omega | (simp; done) | (simp; omega))]; exact pb0_2
    replace pb0_3 : u4.cell? ⟨w.heap.size, 3, none⟩ = some (.slice Ac0 nc0 cc0) := by rw [G.cell (by first | omega | (simp; done) | (simp; omega))]; exact pb0_3
    replace pb0_4 : u4.cell? ⟨w.heap.size, 4, none⟩ = some (.slice Ad0 nd0 cd0) := by rw [G.cell (by first | omega | (simp; done) | (simp; omega))]; exact pb0_4
    replace pb0_5 : u4.cell? ⟨w.heap.size, 5, none⟩ = some (.slice Ae0 ne0 ce0) := by rw [G.cell (by first | omega | (simp; done) | (simp; omega))]; exact pb0_5
    replace pb1_0 : u4.cell? ⟨w.heap.size + 1, 0, none⟩ = some (.int .i64 p1) := by rw [G.cell (by first | omega | (simp; done) | (simp; omega))]; exact pb1_0
    replace pb1_1 : u4.cell? ⟨w.heap.size + 1, 1, none⟩ = some (.slice A1 n1 c1) := by rw [G.cell (by first | omega | (simp; done) | (simp; omega))]; exact pb1_1
    replace pb1_2 : u4.cell? ⟨w.heap.size + 1, 2, none⟩ = some (.slice Ab1 nb1 cb1) := by rw [G.cell (by first | omega | (simp; done) | (simp; omega))]; exact pb1_2
    replace pb1_3 : u4.cell? ⟨w.heap.size + 1, 3, none⟩ = some (.slice Ac1 nc1 cc1) := by rw [G.cell (by first | omega | (simp; done) | (simp; omega))]; exact pb1_3
    replace pb1_4 : u4.cell? ⟨w.heap.size + 1, 4, none⟩ = some (.slice Ad1 nd1 cd1) := by rw [G.cell (by first | omega | (simp; done) | (simp; omega))]; exact pb1_4
    replace pb1_5 : u4.cell? ⟨w.heap.size + 1, 5, none⟩ = some (.slice Ae1 ne1 ce1) := by rw [G.cell (by first | omega | (simp; done) | (simp; omega))]; exact pb1_5
    replace xb0_0 : u4.cell? ⟨u2.heap.size, 0, none⟩ = some (.int .i64 px0o) := by rw [G.cell (by first | omega | (simp; done) | (simp; omega))]; exact xb0_0
    replace xb0_1 : u4.cell? ⟨u2.heap.size, 1, none⟩ = some (.slice Ax0o nx0o cx0o) := by rw [G.cell (by first | omega | (simp; done) | (simp; omega))]; exact xb0_1
    replace xb0_2 : u4.cell? ⟨u2.heap.size, 2, none⟩ = some (.slice Abx0o nbx0o cbx0o) := by rw [G.cell (by first | omega | (simp; done) | (simp; omega))]; exact xb0_2
    replace xb0_3 : u4.cell? ⟨u2.heap.size, 3, none⟩ = some (.slice Acx0o ncx0o ccx0o) := by rw [G.cell (by first | omega | (simp; done) | (simp; omega))]; exact xb0_3
    replace xb0_4 : u4.cell? ⟨u2.heap.size, 4, none⟩ = some (.slice Adx0o ndx0o cdx0o) := by rw [G.cell (by first | omega | (simp; done) | (simp; omega))]; exact xb0_4
    replace xb0_5 : u4.cell? ⟨u2.heap.size, 5, none⟩ = some (.slice Aex0o nex0o cex0o) := by rw [G.cell (by first | omega | (simp; done) | (simp; omega))]; exact xb0_5
    replace x0o := tZ.obelow x0o G (by omega)
    replace x1o := tZ.obelow x1o G (by omega)
    have xb1_0 : u4.cell? ⟨u3.heap.size, 0, none⟩ = some (.int .i64 px1o) := by rw [bb.cell (by simp)]; simp [go_sem]
    have xb1_1 : u4.cell? ⟨u3.heap.size, 1, none⟩ = some (.slice Ax1o nx1o cx1o) := by rw [bb.cell (by simp)]; simp [go_sem]
    have xb1_2 : u4.cell? ⟨u3.heap.size, 2, none⟩ = some (.slice Abx1o nbx1o cbx1o) := by rw [bb.cell (by simp)]; simp [go_sem]
    have xb1_3 : u4.cell? ⟨u3.heap.size, 3, none⟩ = some (.slice Acx1o ncx1o ccx1o) := by rw [bb.cell (by simp)]; simp [go_sem]
    have xb1_4 : u4.cell? ⟨u3.heap.size, 4, none⟩ = some (.slice Adx1o ndx1o cdx1o) := by rw [bb.cell (by simp)]; simp [go_sem]
    have xb1_5 : u4.cell? ⟨u3.heap.size, 5, none⟩ = some (.slice Aex1o nex1o cex1o) := by rw [bb.cell (by simp)]; simp [go_sem]
    replace B := bel_trans B G
    clear G bb G0
    replace lt0 : w.heap.size < u4.heap.size := by omega
    replace lt1 : w.heap.size + 1 < u4.heap.size := by omega
    replace lt2 : u2.heap.size < u4.heap.size := by omega
    have lt3 : u3.heap.size < u4.heap.size := by omega
    go_wp2_with fail
    go_region_held3 (fun w' => Below u4.heap.size u4 w' ∧ w'.cell? ⟨w.heap.size, 0, none⟩ = some (.int .i64 p0) ∧ w'.cell? ⟨w.heap.size, 1, none⟩ = some (.slice A0 n0 c0) ∧ w'.cell? ⟨w.heap.size, 2, none⟩ = some (.slice Ab0 nb0 cb0) ∧ w'.cell? ⟨w.heap.size, 3, none⟩ = some (.slice Ac0 nc0 cc0) ∧ w'.cell? ⟨w.heap.size, 4, none⟩ = some (.slice Ad0 nd0 cd0) ∧ w'.cell? ⟨w.heap.size, 5, none⟩ = some (.slice Ae0 ne0 ce0) ∧ w'.cell? ⟨u2.heap.size, 0, none⟩ = some (.int .i64 px0o) ∧ w'.cell? ⟨u2.heap.size, 1, none⟩ = some (.slice Ax0o nx0o cx0o) ∧ w'.cell? ⟨u2.heap.size, 2, none⟩ = some (.slice Abx0o nbx0o cbx0o) ∧ w'.cell? ⟨u2.heap.size, 3, none⟩ = some (.slice Acx0o ncx0o ccx0o) ∧ w'.cell? ⟨u2.heap.size, 4, none⟩ = some (.slice Adx0o ndx0o cdx0o) ∧ w'.cell? ⟨u2.heap.size, 5, none⟩ = some (.slice Aex0o nex0o cex0o))
      (first | exact ⟨below_drewN (Below.refl _ _) _, pb0_0, pb0_1, pb0_2, pb0_3, pb0_4, pb0_5, xb0_0, xb0_1, xb0_2, xb0_3, xb0_4, xb0_5⟩ | exact ⟨gq, (by rw [gq.cell (by first | omega | (simp; done) | (simp; omega))]; exact pb0_0), (by rw [gq.cell (by first | omega | (simp; done) | (simp; omega))]; exact pb0_1), (by rw [gq.cell (by first | omega | (simp; done) | (simp; omega))]; exact pb0_2), (by rw [gq.cell (by first | omega | (simp; done) | (simp; omega))]; exact pb0_3), (by rw [gq.cell (by first | omega | (simp; done) | (simp; omega))]; exact pb0_4), (by rw [gq.cell (by first | omega | (simp; done) | (simp; omega))]; exact pb0_5), (by rw [gq.cell (by first | omega | (simp; done) | (simp; omega))]; exact xb0_0), (by rw [gq.cell (by first | omega | (simp; done) | (simp; omega))]; exact xb0_1), (by rw [gq.cell (by first | omega | (simp; done) | (simp; omega))]; exact xb0_2), (by rw [gq.cell (by first | omega | (simp; done) | (simp; omega))]; exact xb0_3), (by rw [gq.cell (by first | omega | (simp; done) | (simp; omega))]; exact xb0_4), (by rw [gq.cell (by first | omega | (simp; done) | (simp; omega))]; exact xb0_5)⟩ | exact ⟨gt, (by rw [gt.cell (by first | omega | (simp; done) | (simp; omega))]; exact pb0_0), (by rw [gt.cell (by first | omega | (simp; done) | (simp; omega))]; exact pb0_1), (by rw [gt.cell (by first | omega | (simp; done) | (simp; omega))]; exact pb0_2), (by rw [gt.cell (by first | omega | (simp; done) | (simp; omega))]; exact pb0_3), (by rw [gt.cell (by first | omega | (simp; done) | (simp; omega))]; exact pb0_4), (by rw [gt.cell (by first | omega | (simp; done) | (simp; omega))]; exact pb0_5), (by rw [gt.cell (by first | omega | (simp; done) | (simp; omega))]; exact xb0_0), (by rw [gt.cell (by first | omega | (simp; done) | (simp; omega))]; exact xb0_1), (by rw [gt.cell (by first | omega | (simp; done) | (simp; omega))]; exact xb0_2), (by rw [gt.cell (by first | omega | (simp; done) | (simp; omega))]; exact xb0_3), (by rw [gt.cell (by first | omega | (simp; done) | (simp; omega))]; exact xb0_4), (by rw [gt.cell (by first | omega | (simp; done) | (simp; omega))]; exact xb0_5)⟩)
      (first | (go_at_call 6; refine (nf_to_Y _ _ _ _ _ _ _ _ _ _ _ _ _ _ _ _ _ _ (tZ.later (tZ.later hx0 B) (below_drewN (Below.refl _ _) 1)) (by omega)).mono ?_; rintro e vt ⟨pq, Aq, nq, cq, Abq, nbq, cbq, Acq, ncq, ccq, Adq, ndq, cdq, Aeq, neq, ceq, rfl, ot, bt⟩; have gt : Below u4.heap.size u4 vt := bel_trans (below_drewN (Below.refl _ _) 1) bt) | (go_at_call 8; refine (nf_eq_Y _ _ _ _ _ _ _ _ _ _ _ _ _ _ _ _ _ _ _ _ _ _ _ _ _ _ _ _ _ _ _ _ _ _ (tZ.later (tZ.read x0o) gt) (tZ.read ot) (by omega)).mono ?_; rintro e u5 ⟨rfl, bq⟩; have gq : Below u4.heap.size u4 u5 := bel_trans gt bq))
    have zu5 : u4.heap.size ≤ u5.heap.size := gq.size
    replace pb0_0 : u5.cell? ⟨w.heap.size, 0, none⟩ = some (.int .i64 p0) := by rw [gq.cell (by first | omega | (simp; done) | (simp; omega))]; exact pb0_0
    replace pb0_1 : u5.cell? ⟨w.heap.size, 1, none⟩ = some (.slice A0 n0 c0) := by rw [gq.cell (by first | omega | (simp; done) | (simp; omega))]; exact pb0_1
    replace pb0_2 : u5.cell? ⟨w.heap.size, 2, none⟩ = some (.slice Ab0 nb0 cb0) := by rw [gq.cell (by first | omega | (simp; done) | (simp; omega))]; exact pb0_2
    replace pb0_3 : u5.cell? ⟨w.heap.size, 3, none⟩ = some (.slice Ac0 nc0 cc0) := by rw [gq.cell (by first | omega | (simp; done) | (simp; omega))]; exact pb0_3
    replace pb0_4 : u5.cell? ⟨w.heap.size, 4, none⟩ = some (.slice Ad0 nd0 cd0) := by rw [gq.cell (by first | omega | (simp; done) | (simp; omega))]; exact pb0_4
    replace pb0_5 : u5.cell? ⟨w.heap.size, 5, none⟩ = some (.slice Ae0 ne0 ce0) := by rw [gq.cell (by first | omega | (simp; done) | (simp; omega))]; exact pb0_5
    replace pb1_0 : u5.cell? ⟨w.heap.size + 1, 0, none⟩ = some (.int .i64 p1) := by rw [gq.cell (by first | omega | (simp; done) | (simp; omega))]; exact pb1_0
    replace pb1_1 : u5.cell? ⟨w.heap.size + 1, 1, none⟩ = some (.slice A1 n1 c1) := by rw [gq.cell (by first | omega | (simp; done) | (simp; omega))]; exact pb1_1
    replace pb1_2 : u5.cell? ⟨w.heap.size + 1, 2, none⟩ = some (.slice Ab1 nb1 cb1) := by rw [gq.cell (by first | omega | (simp; done) | (simp; omega))]; exact pb1_2
    replace pb1_3 : u5.cell? ⟨w.heap.size + 1, 3, none⟩ = some (.slice Ac1 nc1 cc1) := by rw [gq.cell (by first | omega | (simp; done) | (simp; omega))]; exact pb1_3
    replace pb1_4 : u5.cell? ⟨w.heap.size + 1, 4, none⟩ = some (.slice Ad1 nd1 cd1) := by rw [gq.cell (by first | omega | (simp; done) | (simp; omega))]; exact pb1_4
    replace pb1_5 : u5.cell? ⟨w.heap.size + 1, 5, none⟩ = some (.slice Ae1 ne1 ce1) := by rw [gq.cell (by first | omega | (simp; done) | (simp; omega))]; exact pb1_5
    replace xb0_0 : u5.cell? ⟨u2.heap.size, 0, none⟩ = some (.int .i64 px0o) := by rw [gq.cell (by first | omega | (simp; done) | (simp; omega))]; exact xb0_0
    replace xb0_1 : u5.cell? ⟨u2.heap.size, 1, none⟩ = some (.slice Ax0o nx0o cx0o) := by rw [gq.cell (by first | omega | (simp; done) | (simp; omega))]; exact xb0_1
    replace xb0_2 : u5.cell? ⟨u2.heap.size, 2, none⟩ = some (.slice Abx0o nbx0o cbx0o) := by rw [gq.cell (by first | omega | (simp; done) | (simp; omega))]; exact xb0_2
    replace xb0_3 : u5.cell? ⟨u2.heap.size, 3, none⟩ = some (.slice Acx0o ncx0o ccx0o) := by rw [gq.cell (by first | omega | (simp; done) | (simp; omega))]; exact xb0_3
    replace xb0_4 : u5.cell? ⟨u2.heap.size, 4, none⟩ = some (.slice Adx0o ndx0o cdx0o) := by rw [gq.cell (by first | omega | (simp; done) | (simp; omega))]; exact xb0_4
    replace xb0_5 : u5.cell? ⟨u2.heap.size, 5, none⟩ = some (.slice Aex0o nex0o cex0o) := by rw [gq.cell (by first | omega | (simp; done) | (simp; omega))]; exact xb0_5
    replace xb1_0 : u5.cell? ⟨u3.heap.size, 0, none⟩ = some (.int .i64 px1o) := by rw [gq.cell (by first | omega | (simp; done) | (simp; omega))]; exact xb1_0
    replace xb1_1 : u5.cell? ⟨u3.heap.size, 1, none⟩ = some (.slice Ax1o nx1o cx1o) := by rw [gq.cell (by first | omega | (simp; done) | (simp; omega))]; exact xb1_1
    replace xb1_2 : u5.cell? ⟨u3.heap.size, 2, none⟩ = some (.slice Abx1o nbx1o cbx1o) := by rw [gq.cell (by first | omega | (simp; done) | (simp; omega))]; exact xb1_2
    replace xb1_3 : u5.cell? ⟨u3.heap.size, 3, none⟩ = some (.slice Acx1o ncx1o ccx1o) := by rw [gq.cell (by first | omega | (simp; done) | (simp; omega))]; exact xb1_3
    replace xb1_4 : u5.cell? ⟨u3.heap.size, 4, none⟩ = some (.slice Adx1o ndx1o cdx1o) := by rw [gq.cell (by first | omega | (simp; done) | (simp; omega))]; exact xb1_4
    replace xb1_5 : u5.cell? ⟨u3.heap.size, 5, none⟩ = some (.slice Aex1o nex1o cex1o) := by rw [gq.cell (by first | omega | (simp; done) | (simp; omega))]; exact xb1_5
    replace x0o := tZ.obelow x0o gq (by omega)
    replace x1o := tZ.obelow x1o gq (by omega)
    replace B := bel_trans B gq
    clear gq gt bq bt ot
    replace lt0 : w.heap.size < u5.heap.size := by omega
    replace lt1 : w.heap.size + 1 < u5.heap.size := by omega
    replace lt2 : u2.heap.size < u5.heap.size := by omega
    replace lt3 : u3.heap.size < u5.heap.size := by omega
    go_wp2_with fail
    go_region_held3 (fun w' => Below u5.heap.size u5 w' ∧ w'.cell? ⟨w.heap.size + 1, 0, none⟩ = some (.int .i64 p1) ∧ w'.cell? ⟨w.heap.size + 1, 1, none⟩ = some (.slice A1 n1 c1) ∧ w'.cell? ⟨w.heap.size + 1, 2, none⟩ = some (.slice Ab1 nb1 cb1) ∧ w'.cell? ⟨w.heap.size + 1, 3, none⟩ = some (.slice Ac1 nc1 cc1) ∧ w'.cell? ⟨w.heap.size + 1, 4, none⟩ = some (.slice Ad1 nd1 cd1) ∧ w'.cell? ⟨w.heap.size + 1, 5, none⟩ = some (.slice Ae1 ne1 ce1) ∧ w'.cell? ⟨u3.heap.size, 0, none⟩ = some (.int .i64 px1o) ∧ w'.cell? ⟨u3.heap.size, 1, none⟩ = some (.slice Ax1o nx1o cx1o) ∧ w'.cell? ⟨u3.heap.size, 2, none⟩ = some (.slice Abx1o nbx1o cbx1o) ∧ w'.cell? ⟨u3.heap.size, 3, none⟩ = some (.slice Acx1o ncx1o ccx1o) ∧ w'.cell? ⟨u3.heap.size, 4, none⟩ = some (.slice Adx1o ndx1o cdx1o) ∧ w'.cell? ⟨u3.heap.size, 5, none⟩ = some (.slice Aex1o nex1o cex1o))
      (first | exact ⟨below_drewN (Below.refl _ _) _, pb1_0, pb1_1, pb1_2, pb1_3, pb1_4, pb1_5, xb1_0, xb1_1, xb1_2, xb1_3, xb1_4, xb1_5⟩ | exact ⟨gq, (by rw [gq.cell (by first | omega | (simp; done) | (simp; omega))]; exact pb1_0), (by rw [gq.cell (by first | omega | (simp; done) | (simp; omega))]; exact pb1_1), (by rw [gq.cell (by first | omega | (simp; done) | (simp; omega))]; exact pb1_2), (by rw [gq.cell (by first | omega | (simp; done) | (simp; omega))]; exact pb1_3), (by rw [gq.cell (by first | omega | (simp; done) | (simp; omega))]; exact pb1_4), (by rw [gq.cell (by first | omega | (simp; done) | (simp; omega))]; exact pb1_5), (by rw [gq.cell (by first | omega | (simp; done) | (simp; omega))]; exact xb1_0), (by rw [gq.cell (by first | omega | (simp; done) | (simp; omega))]; exact xb1_1), (by rw [gq.cell (by first | omega | (simp; done) | (simp; omega))]; exact xb1_2), (by rw [gq.cell (by first | omega | (simp; done) | (simp; omega))]; exact xb1_3), (by rw [gq.cell (by first | omega | (simp; done) | (simp; omega))]; exact xb1_4), (by rw [gq.cell (by first | omega | (simp; done) | (simp; omega))]; exact xb1_5)⟩ | exact ⟨gt, (by rw [gt.cell (by first | omega | (simp; done) | (simp; omega))]; exact pb1_0), (by rw [gt.cell (by first | omega | (simp; done) | (simp; omega))]; exact pb1_1), (by rw [gt.cell (by first | omega | (simp; done) | (simp; omega))]; exact pb1_2), (by rw [gt.cell (by first | omega | (simp; done) | (simp; omega))]; exact pb1_3), (by rw [gt.cell (by first | omega | (simp; done) | (simp; omega))]; exact pb1_4), (by rw [gt.cell (by first | omega | (simp; done) | (simp; omega))]; exact pb1_5), (by rw [gt.cell (by first | omega | (simp; done) | (simp; omega))]; exact xb1_0), (by rw [gt.cell (by first | omega | (simp; done) | (simp; omega))]; exact xb1_1), (by rw [gt.cell (by first | omega | (simp; done) | (simp; omega))]; exact xb1_2), (by rw [gt.cell (by first | omega | (simp; done) | (simp; omega))]; exact xb1_3), (by rw [gt.cell (by first | omega | (simp; done) | (simp; omega))]; exact xb1_4), (by rw [gt.cell (by first | omega | (simp; done) | (simp; omega))]; exact xb1_5)⟩)
      (first | (go_at_call 6; refine (nf_to_Y _ _ _ _ _ _ _ _ _ _ _ _ _ _ _ _ _ _ (tZ.later (tZ.later hx1 B) (below_drewN (Below.refl _ _) 1)) (by omega)).mono ?_; rintro e vt ⟨pq, Aq, nq, cq, Abq, nbq, cbq, Acq, ncq, ccq, Adq, ndq, cdq, Aeq, neq, ceq, rfl, ot, bt⟩; have gt : Below u5.heap.size u5 vt := bel_trans (below_drewN (Below.refl _ _) 1) bt) | (go_at_call 8; refine (nf_eq_Y _ _ _ _ _ _ _ _ _ _ _ _ _ _ _ _ _ _ _ _ _ _ _ _ _ _ _ _ _ _ _ _ _ _ (tZ.later (tZ.read x1o) gt) (tZ.read ot) (by omega)).mono ?_; rintro e u6 ⟨rfl, bq⟩; have gq : Below u5.heap.size u5 u6 := bel_trans gt bq))
    have zu6 : u5.heap.size ≤ u6.heap.size := gq.size
    replace pb0_0 : u6.cell? ⟨w.heap.size, 0, none⟩ = some (.int .i64 p0) := by rw [gq.cell (by first | omega | (simp; done) | (simp; omega))]; exact pb0_0
    replace pb0_1 : u6.cell? ⟨w.heap.size, 1, none⟩ = some (.slice A0 n0 c0) := by rw [gq.cell (by first | omega | (simp; done) | (simp; omega))]; exact pb0_1
    replace pb0_2 : u6.cell? ⟨w.heap.size, 2, none⟩ = some (.slice Ab0 nb0 cb0) := by rw [gq.cell (by first | omega | (simp; done) | (simp; omega))]; exact pb0_2
    replace pb0_3 : u6.cell? ⟨w.heap.size, 3, none⟩ = some (.slice Ac0 nc0 cc0) := by rw [gq.cell (by first | omega | (simp; done) | (simp; omega))]; exact pb0_3
    replace pb0_4 : u6.cell? ⟨w.heap.size, 4, none⟩ = some (.slice Ad0 nd0 cd0) := by rw [gq.cell (by first | omega | (simp; done) | (simp; omega))]; exact pb0_4
    replace pb0_5 : u6.cell? ⟨w.heap.size, 5, none⟩ = some (.slice Ae0 ne0 ce0) := by rw [gq.cell (by first | omega | (simp; done) | (simp; omega))]; exact pb0_5
    replace pb1_0 : u6.cell? ⟨w.heap.size + 1, 0, none⟩ = some (.int .i64 p1) := by rw [gq.cell (by first | omega | (simp; done) | (simp; omega))]; exact pb1_0
    replace pb1_1 : u6.cell? ⟨w.heap.size + 1, 1, none⟩ = some (.slice A1 n1 c1) := by rw [gq.cell (by first | omega | (simp; done) | (simp; omega))]; exact pb1_1
    replace pb1_2 : u6.cell? ⟨w.heap.size + 1, 2, none⟩ = some (.slice Ab1 nb1 cb1) := by rw [gq.cell (by first | omega | (simp; done) | (simp; omega))]; exact pb1_2
    replace pb1_3 : u6.cell? ⟨w.heap.size + 1, 3, none⟩ = some (.slice Ac1 nc1 cc1) := by rw [gq.cell (by first | omega | (simp; done) | (simp; omega))]; exact pb1_3
    replace pb1_4 : u6.cell? ⟨w.heap.size + 1, 4, none⟩ = some (.slice Ad1 nd1 cd1) := by rw [gq.cell (by first | omega | (simp; done) | (simp; omega))]; exact pb1_4
    replace pb1_5 : u6.cell? ⟨w.heap.size + 1, 5, none⟩ = some (.slice Ae1 ne1 ce1) := by rw [gq.cell (by first | omega | (simp; done) | (simp; omega))]; exact pb1_5
    replace xb0_0 : u6.cell? ⟨u2.heap.size, 0, none⟩ = some (.int .i64 px0o) := by rw [gq.cell (by first | omega | (simp; done) | (simp; omega))]; exact xb0_0
    replace xb0_1 : u6.cell? ⟨u2.heap.size, 1, none⟩ = some (.slice Ax0o nx0o cx0o) := by rw [gq.cell (by first | omega | (simp; done) | (simp; omega))]; exact xb0_1
    replace xb0_2 : u6.cell? ⟨u2.heap.size, 2, none⟩ = some (.slice Abx0o nbx0o cbx0o) := by rw [gq.cell (by first | omega | (simp; done) | (simp; omega))]; exact xb0_2
    replace xb0_3 : u6.cell? ⟨u2.heap.size, 3, none⟩ = some (.slice Acx0o ncx0o ccx0o) := by rw [gq.cell (by first | omega | (simp; done) | (simp; omega))]; exact xb0_3
    replace xb0_4 : u6.cell? ⟨u2.heap.size, 4, none⟩ = some (.slice Adx0o ndx0o cdx0o) := by rw [gq.cell (by first | omega | (simp; done) | (simp; omega))]; exact xb0_4
    replace xb0_5 : u6.cell? ⟨u2.heap.size, 5, none⟩ = some (.slice Aex0o nex0o cex0o) := by rw [gq.cell (by first | omega | (simp; done) | (simp; omega))]; exact xb0_5
    replace xb1_0 : u6.cell? ⟨u3.heap.size, 0, none⟩ = some (.int .i64 px1o) := by rw [gq.cell (by first | omega | (simp; done) | (simp; omega))]; exact xb1_0
    replace xb1_1 : u6.cell? ⟨u3.heap.size, 1, none⟩ = some (.slice Ax1o nx1o cx1o) := by rw [gq.cell (by first | omega | (simp; done) | (simp; omega))]; exact xb1_1
    replace xb1_2 : u6.cell? ⟨u3.heap.size, 2, none⟩ = some (.slice Abx1o nbx1o cbx1o) := by rw [gq.cell (by first | omega | (simp; done) | (simp; omega))]; exact xb1_2
    replace xb1_3 : u6.cell? ⟨u3.heap.size, 3, none⟩ = some (.slice Acx1o ncx1o ccx1o) := by rw [gq.cell (by first | omega | (simp; done) | (simp; omega))]; exact xb1_3
    replace xb1_4 : u6.cell? ⟨u3.heap.size, 4, none⟩ = some (.slice Adx1o ndx1o cdx1o) := by rw [gq.cell (by first | omega | (simp; done) | (simp; omega))]; exact xb1_4
    replace xb1_5 : u6.cell? ⟨u3.heap.size, 5, none⟩ = some (.slice Aex1o nex1o cex1o) := by rw [gq.cell (by first | omega | (simp; done) | (simp; omega))]; exact xb1_5
    replace x0o := tZ.obelow x0o gq (by omega)
    replace x1o := tZ.obelow x1o gq (by omega)
    replace B := bel_trans B gq
    clear gq gt bq bt ot
    replace lt0 : w.heap.size < u6.heap.size := by omega
    replace lt1 : w.heap.size + 1 < u6.heap.size := by omega
    replace lt2 : u2.heap.size < u6.heap.size := by omega
    replace lt3 : u3.heap.size < u6.heap.size := by omega
    go_wp2_with fail
    go_ret
    exact ⟨rfl, B⟩
end Go.Proofs.Ytacgcagpaecncaa
namespace Go.Proofs.Ytacgcagpaecncaa
open Go.ChangeShapes Go.WideShapes Go.Deep Go.RowKit
/-- Whatever came in at this type reads as something. -/
def Opens (P : Program) (T : TypeId) {α : Type} (t : Ty α) : Prop :=
  ∀ {H : Type} (enc : TypeId × Value → H) (w : World) (base : Nat) (spare : Nat → Bool) (held : Bool) (fuel : Nat) (cs : List Value) (d : DataW H × List MemPlace), DataW.trod enc P w base spare held fuel T cs = some d → ∃ x, t.R w w.heap.size cs x
section
variable {P : Program} {T : TypeId}
theorem opens_int (h : P.underlying T = some (.int .i64)) : Opens P T tI := fun _ _ _ _ _ _ _ _ ht => by
  obtain ⟨n, hn, _⟩ := DataW.trod_int h ht
  exact ⟨n, hn⟩
theorem opens_bool (h : P.underlying T = some .bool) : Opens P T tB := fun _ _ _ _ _ _ _ _ ht => by
  obtain ⟨n, hn, _⟩ := DataW.trod_bool h ht
  exact ⟨n, hn⟩
theorem opens_sl {α : Type} {t : Ty α} {e e' : TypeId} (ht : P.underlying T = some (.slice e)) (hC : P.cellsOf e = t.s) (he : Opens P e t) : Opens P T (t.sl e') := by
  intro H enc w base spare held fuel cs d h
  rcases open_slice ht h with ⟨rfl, _⟩ | ⟨a, len, cap, m, n, D, Pl, rfl, hb, hl, hm, hmm, hx, hi⟩
  · exact ⟨[], _, rfl, RS.nil _ _ _⟩
  · have hlm : len ≤ m := by rw [hmm]; split <;> omega
    have key : ∀ i, ∃ p : List Value × α, i < len → t.R w w.heap.size p.1 p.2 ∧ ∀ j u, p.1[j]? = some u → w.cell? (a.add (i * t.s + j)) = some u := by
      intro i
      by_cases hil : i < len
      · obtain ⟨cs', hc, ht'⟩ := hi i (by omega)
        rw [hC] at hc
        obtain ⟨x, hR⟩ := he enc w base spare held n cs' _ ht'
        obtain ⟨_, hcl, hat⟩ := World.cells?_some hc
        refine ⟨(cs', x), fun _ => ⟨hR, fun j u hu => ?_⟩⟩
        have hj : j < t.s := by rw [← hcl]; exact (List.getElem?_eq_some_iff.1 hu).1
        have := hat j hj
        rw [Go.Deep.add_add] at this
        rw [this]
        exact hu
      · exact ⟨([], t.zero), fun hc => absurd hc hil⟩
    obtain ⟨g, hg⟩ : ∃ g : Nat → List Value × α, ∀ i, i < len → t.R w w.heap.size (g i).1 (g i).2 ∧ ∀ j u, (g i).1[j]? = some u → w.cell? (a.add (i * t.s + j)) = some u := ⟨fun i => Classical.choose (key i), fun i => Classical.choose_spec (key i)⟩
    have hs : ∀ c ∈ (List.range len).map (fun i => (g i).1), c.length = t.s := by
      intro c hc
      obtain ⟨i, hi, rfl⟩ := List.mem_map.1 hc
      exact t.rlen (hg i (List.mem_range.1 hi)).1
    refine ⟨(List.range len).map fun i => (g i).2, _, rfl, some a, cap, (List.range len).map fun i => (g i).1, by simp, by simpa using hl, hm, by simp, ?_, ?_⟩
    · refine ⟨by rw [flat2_len hs]; simp, fun hn => ⟨a, rfl, ?_, fun j u hu => ?_⟩⟩
      · have hn' : 0 < len := by simpa using hn
        have h0 := (hg 0 hn')
        have hp := t.pos
        obtain ⟨u, hu⟩ : ∃ u, (g 0).1[0]? = some u := ⟨_, List.getElem?_eq_getElem (by rw [t.rlen h0.1]; exact hp)⟩
        have := World.block_lt_of_cell? _ _ (h0.2 0 u hu)
        rwa [block_of_add] at this
      · have hj : j < len * t.s := by have := (List.getElem?_eq_some_iff.1 hu).1; rw [flat2_len hs] at this; simpa using this
        have hk : j / t.s < len := Nat.div_lt_of_lt_mul (by rw [Nat.mul_comm]; exact hj)
        have hr : j % t.s < t.s := Nat.mod_lt _ t.pos
        have e0 : j / t.s * t.s + j % t.s = j := by rw [Nat.mul_comm]; exact Nat.div_add_mod j t.s
        have hf := flat2_at hs (k := j / t.s) (c := (g (j / t.s)).1) (by simp [hk]) (j % t.s) hr
        rw [e0, hu] at hf
        have := (hg _ hk).2 (j % t.s) u hf.symm
        rwa [e0] at this
    · intro k hk hk'
      simp only [List.length_map, List.length_range] at hk
      simp only [List.getElem_map, List.getElem_range]
      exact (hg k hk).1
/-- What the fields from the j-th cell on read as. -/
theorem R_one {α : Type} {t : Ty α} {w : World} {B o n : Nat} {cs : List Value} {x : α} (ho : o = 0) (hn : cs.length = n) (h : t.R w B ((cs.drop o).take n) x) : t.R w B cs x := by
  subst ho hn
  simpa using h
theorem R_pair {α β : Type} {a : Ty α} {b : Ty β} {w : World} {B n : Nat} {cs : List Value} {x : α} {y : β} (h1 : a.R w B (cs.take n) x) (h2 : b.R w B (cs.drop n) y) : (a.prod b).R w B cs (x, y) := ⟨cs.take n, cs.drop n, by simp, h1, h2⟩
/-- A struct of one field. -/
theorem opens_struct1 {α : Type} {t : Ty α} {f0 : Field} (hs : P.underlying T = some (.struct #[f0])) (o0 : f0.offset = 0) (hC : P.cellsOf T = P.cellsOf f0.type) (h0 : Opens P f0.type t) : Opens P T t := by
  intro H enc w base spare held fuel cs d h
  obtain ⟨y0, n, _, hlen, t0⟩ := trod_struct1 hs h
  obtain ⟨x, hx⟩ := h0 enc w base spare held n _ _ t0
  exact ⟨x, R_one o0 (by rw [hlen, hC]) hx⟩
theorem opens_fields {α : Type} {t : Ty α} {fs : Array Field} (hs : P.underlying T = some (.struct fs))
    (hf : ∀ (w : World) (cs : List Value), cs.length = P.cellsOf T → (∀ {H : Type} (enc : TypeId × Value → H) (base : Nat) (spare : Nat → Bool) (held : Bool) (n : Nat) (ys : List (DataW H × List MemPlace)), ys.length = fs.size → (∀ (i : Nat) (f : Field), fs[i]? = some f → DataW.trod enc P w base spare held n f.type ((cs.drop f.offset).take (P.cellsOf f.type)) = ys[i]?) → ∃ x, t.R w w.heap.size cs x)) : Opens P T t := by
  intro H enc w base spare held fuel cs d h
  obtain ⟨ys, n, _, _, hlen, hyl, hg⟩ := DataW.trod_struct hs h
  exact hf w cs hlen enc base spare held n ys hyl hg
end
/-- One field of a struct. -/
theorem field_at {P : Program} {H : Type} {enc : TypeId × Value → H} {w : World} {base n i o k : Nat} {spare : Nat → Bool} {held : Bool} {fs : Array Field} {cs : List Value} {ys : List (DataW H × List MemPlace)} {α : Type} {t : Ty α} {f : Field} {e : TypeId}
    (hyl : ys.length = fs.size) (hg : ∀ (i : Nat) (f : Field), fs[i]? = some f → DataW.trod enc P w base spare held n f.type ((cs.drop f.offset).take (P.cellsOf f.type)) = ys[i]?)
    (hi : fs[i]? = some f) (he : f.type = e) (ho : f.offset = o) (hk : P.cellsOf e = k) (h : Opens P e t) : ∃ x, t.R w w.heap.size ((cs.drop o).take k) x := by
  have h1 := hg i f hi
  have hlt : i < ys.length := by rw [hyl]; exact (Array.getElem?_eq_some_iff.1 hi).1
  rw [List.getElem?_eq_getElem hlt, he, ho, hk] at h1
  exact h enc w base spare held n _ _ h1
theorem flat2_open {P : Program} {T : TypeId} {f0 f1 : Field} {zero : Int × Int} {enc : Int × Int → List Value} {pos : 0 < 2} {henc : ∀ x, (enc x).length = 2} {h1c : ∀ x, ∀ u ∈ enc x, u.oneCell' = true}
    (hE : ∀ a b, enc (a, b) = [.int .i64 a, .int .i64 b]) (hs : P.underlying T = some (.struct #[f0, f1])) (h0 : P.underlying f0.type = some (.int .i64)) (h1 : P.underlying f1.type = some (.int .i64)) (o0 : f0.offset = 0) (o1 : f1.offset = 1)
    (k0 : P.cellsOf f0.type = 1) (k1 : P.cellsOf f1.type = 1) (hC : P.cellsOf T = 2) : Opens P T (Ty.flat 2 pos zero enc henc h1c) :=
  opens_fields hs fun w cs hl {H} enc' base spare held n ys hyl hg => by
    obtain ⟨a, ha⟩ := field_at (i := 0) hyl hg rfl rfl o0 k0 (opens_int h0)
    obtain ⟨b, hb⟩ := field_at (i := 1) hyl hg rfl rfl o1 k1 (opens_int h1)
    rw [hC] at hl
    match cs, hl with
    | [u, v], _ =>
      refine ⟨(a, b), ?_⟩
      show [u, v] = enc (a, b)
      have ha' : [u] = [Value.int .i64 a] := ha
      have hb' : [v] = [Value.int .i64 b] := hb
      rw [hE]
      injection ha' with e1
      injection hb' with e2
      rw [e1, e2]
end Go.Proofs.Ytacgcagpaecncaa
namespace Go.Proofs.Ytacgcagpaecncaa
open Go.RowKit
set_option maxHeartbeats 400000
set_option maxRecDepth 100000
/-! Curve -/
abbrev tPt : Ty (Int × Int) := Ty.flat 2 (by decide) (0, 0) pt pt_len (by simp [pt, Value.oneCell'])
abbrev hPt : Hs (Int × Int) := hI.prod hI
abbrev hC : Hs (List (Int × Int)) := hPt.sl
theorem hPt_szL (xs : List (Int × Int)) : hPt.szL xs = 0 := by
  induction xs with
  | nil => rfl
  | cons x xs ih => rw [Hs.szL, ih]; rfl
theorem hPt_cntL (xs : List (Int × Int)) : hPt.cntL xs = 2 * xs.length := by
  induction xs with
  | nil => rfl
  | cons x xs ih =>
    rw [Hs.cntL, ih, List.length_cons]
    show 1 + 1 + _ = _
    omega
theorem hPt_mkL (k : Int) (xs : List (Int × Int)) : hPt.mkL k xs = rampP k xs.length := by
  apply List.ext_getElem?
  intro i
  by_cases hi : i < xs.length
  · rw [hPt.mkL_at k (List.getElem?_eq_getElem hi), hPt_cntL, List.length_take, rampP_at hi]
    show some (_, _) = some (_, _)
    simp only [Hs.prod, hI, Option.some.injEq, Prod.mk.injEq]
    omega
  · rw [List.getElem?_eq_none (by rw [Hs.mkL_len]; omega), List.getElem?_eq_none (by rw [rampP_len]; omega)]
theorem hC_sz (xs : List (Int × Int)) : hC.sz xs = xs.length := by show xs.length + hPt.szL xs = _; rw [hPt_szL]; rfl
theorem hC_cnt (xs : List (Int × Int)) : hC.cnt xs = 2 * xs.length := hPt_cntL xs
theorem hC_mark (k : Int) (xs : List (Int × Int)) : hC.mark k xs = rampP k xs.length := hPt_mkL k xs
theorem cl_C (x : List (Int × Int)) : hC.cnt x ≤ 10 * hC.sz x + 10 := by rw [hC_sz, hC_cnt]; omega
end Go.Proofs.Ytacgcagpaecncaa
namespace Go.Proofs.Ytacgcagpaecncaa
open Go.RowKit
theorem opens_S : Opens Try.prog 24 tS := opens_sl Try.underlying24 (by kernel_rfl) (opens_int Try.underlying2)
theorem ret2_nf {w w' : World} {r : List Int × Int} {en : Ending} (h : Ret2 2 w r en w') :
    ∃ A n c, en = .returned (.tuple #[.slice A n c, .int .i64 r.2]) ∧ tS.O w' (Iv w.heap.size w'.heap.size) [.slice A n c] r.1 ∧ Below w.heap.size w w' := by
  obtain ⟨v, rfl, own, bel⟩ := h
  obtain ⟨A, c, rfl, _⟩ := own.shape
  exact ⟨_, _, _, rfl, tS_O.2 own.os, bel⟩
end Go.Proofs.Ytacgcagpaecncaa
namespace Go.Proofs.Ytacgcagpaecncaa
open Go.RowKit
set_option maxHeartbeats 1000000
set_option maxRecDepth 100000
theorem cls_oneCell (xs : List (Int × Int × Int × Int × Int)) : ∀ u ∈ xs.flatMap cl, u.oneCell' = true := by
  intro u hu
  obtain ⟨p, _, hp⟩ := List.mem_flatMap.1 hu
  simp only [cl, List.mem_cons, List.not_mem_nil, or_false] at hp
  rcases hp with rfl | rfl | rfl | rfl | rfl <;> rfl
end Go.Proofs.Ytacgcagpaecncaa
namespace Go.Proofs.Ytacgcagpaecncaa
open Go.RowKit
set_option maxHeartbeats 1000000
set_option maxRecDepth 100000
def M.askT (xs : List Clip) (k : Int) : Int := if M.trackOk xs then (if M.inn k 0 ((xs.length : Int) - 1) then 0 else 2) else 1
theorem M.askT_zero {xs : List Clip} {k : Int} (h : M.askT xs k = 0) : M.trackOk xs = true ∧ 0 ≤ k ∧ k < xs.length ∧ xs.length ≤ 12 := by
  unfold M.askT at h
  split at h
  · rename_i hok
    split at h
    · rename_i hin
      have := M.inn_iff.1 hin
      have h2 := hok
      rw [M.trackOk, Bool.and_eq_true, decide_eq_true_iff] at h2
      exact ⟨hok, this.1, by omega, h2.2⟩
    · simp at h
  · simp at h
/-- What a function of a track and a code gives back. -/
def RetT (e : TypeId) (w : World) (r : List Clip × Int) (en : Ending) (w' : World) : Prop :=
  ∃ v, en = .returned (.tuple #[.agg #[v], .int .i64 r.2]) ∧ OA cl e 5 w.heap.size w'.heap.size w' v r.1 ∧ Below w.heap.size w w'
def M.removeR (xs : List Clip) (k : Int) : List Clip × Int := if M.askT xs k = 0 then (M.dropP xs k.toNat, 0) else ([], M.askT xs k)
theorem removed_len (xs : List Clip) (k : Int) : (M.removeR xs k).1.length ≤ 12 := by
  unfold M.removeR
  split
  · rename_i h
    obtain ⟨_, h1, h2, h3⟩ := M.askT_zero h
    show (M.dropP xs k.toNat).length ≤ 12
    rw [M.dropP_len xs (by omega)]
    omega
  · simp
end Go.Proofs.Ytacgcagpaecncaa
namespace Go.Proofs.Ytacgcagpaecncaa
open Go.RowKit
theorem flat5_open {P : Program} {T : TypeId} {f0 f1 f2 f3 f4 : Field} {zero : Clip} {enc : Clip → List Value} {pos : 0 < 5} {henc : ∀ x, (enc x).length = 5} {h1c : ∀ x, ∀ u ∈ enc x, u.oneCell' = true}
    (hE : ∀ a b c d e, enc (a, b, c, d, e) = [.int .i64 a, .int .i64 b, .int .i64 c, .int .i64 d, .int .i64 e]) (hs : P.underlying T = some (.struct #[f0, f1, f2, f3, f4]))
    (h0 : P.underlying f0.type = some (.int .i64)) (h1 : P.underlying f1.type = some (.int .i64)) (h2 : P.underlying f2.type = some (.int .i64)) (h3 : P.underlying f3.type = some (.int .i64)) (h4 : P.underlying f4.type = some (.int .i64))
    (o0 : f0.offset = 0) (o1 : f1.offset = 1) (o2 : f2.offset = 2) (o3 : f3.offset = 3) (o4 : f4.offset = 4)
    (k0 : P.cellsOf f0.type = 1) (k1 : P.cellsOf f1.type = 1) (k2 : P.cellsOf f2.type = 1) (k3 : P.cellsOf f3.type = 1) (k4 : P.cellsOf f4.type = 1) (hC : P.cellsOf T = 5) : Opens P T (Ty.flat 5 pos zero enc henc h1c) :=
  opens_fields hs fun w cs hl {H} enc' base spare held n ys hyl hg => by
    obtain ⟨a, ha⟩ := field_at (i := 0) hyl hg rfl rfl o0 k0 (opens_int h0)
    obtain ⟨b, hb⟩ := field_at (i := 1) hyl hg rfl rfl o1 k1 (opens_int h1)
    obtain ⟨c, hc⟩ := field_at (i := 2) hyl hg rfl rfl o2 k2 (opens_int h2)
    obtain ⟨d, hd⟩ := field_at (i := 3) hyl hg rfl rfl o3 k3 (opens_int h3)
    obtain ⟨e, he⟩ := field_at (i := 4) hyl hg rfl rfl o4 k4 (opens_int h4)
    rw [hC] at hl
    match cs, hl with
    | [u0, u1, u2, u3, u4], _ =>
      refine ⟨(a, b, c, d, e), ?_⟩
      show [u0, u1, u2, u3, u4] = enc (a, b, c, d, e)
      have ha' : [u0] = [Value.int .i64 a] := ha
      have hb' : [u1] = [Value.int .i64 b] := hb
      have hc' : [u2] = [Value.int .i64 c] := hc
      have hd' : [u3] = [Value.int .i64 d] := hd
      have he' : [u4] = [Value.int .i64 e] := he
      rw [hE]
      injection ha' with e1
      injection hb' with e2
      injection hc' with e3
      injection hd' with e4
      injection he' with e5
      rw [e1, e2, e3, e4, e5]
theorem opens_T : Opens Try.prog 68 tT :=
  opens_struct1 Try.underlying68 rfl (by kernel_rfl) (opens_sl Try.underlying66 (by kernel_rfl) (flat5_open (fun _ _ _ _ _ => rfl) Try.underlying108 Try.underlying2 Try.underlying2 Try.underlying2 Try.underlying2 Try.underlying2 rfl rfl rfl rfl rfl (by kernel_rfl) (by kernel_rfl) (by kernel_rfl) (by kernel_rfl) (by kernel_rfl) (by kernel_rfl)))
theorem open_T {w : World} {B : Nat} {cs : List Value} {x : List Clip} (h : tT.R w B cs x) : ∃ A n c, cs = [.slice A n c] := by
  obtain ⟨v, rfl, hr⟩ := h
  obtain ⟨A, c, rfl⟩ := hr.shape
  exact ⟨_, _, _, rfl⟩
theorem tT_ra {w : World} {B : Nat} {A : Option Addr} {n c : Nat} {xs : List Clip} (h : tT.R w B [.slice A n c] xs) : RA cl 5 w B A n xs := (sl_R.1 h).flat.1
theorem tT_n {w : World} {B n c : Nat} {A : Option Addr} {xs : List Clip} (h : tT.R w B [.slice A n c] xs) : xs.length = n ∧ n ≤ c ∧ c ≤ maxLen := (sl_R.1 h).cap
theorem retT_nf {w w' : World} {r : List Clip × Int} {en : Ending} (h : RetT 80 w r en w') :
    ∃ A n c, en = .returned (.tuple #[.agg #[.slice A n c], .int .i64 r.2]) ∧ tT.O w' (Iv w.heap.size w'.heap.size) [.slice A n c] r.1 ∧ Below w.heap.size w w' := by
  obtain ⟨v, rfl, own, bel⟩ := h
  obtain ⟨A, c, rfl, _⟩ := own.shape
  exact ⟨_, _, _, rfl, sl_O.2 (OS.of_flat own), bel⟩
end Go.Proofs.Ytacgcagpaecncaa
namespace Go.Proofs.Ytacgcagpaecncaa
open Go.RowKit
theorem opens_str {P : Program} {T : TypeId} (h : P.underlying T = some .string) : Opens P T tStr := fun _ _ _ _ _ _ _ _ ht => by
  obtain ⟨s, rfl, _, hs⟩ := DataW.trod_string h ht
  exact ⟨s, rfl, hs⟩
theorem opens_SdS : Opens Try.prog 95 tSdS :=
  opens_sl Try.underlying95 (by kernel_rfl) (flat2_open (fun _ _ => rfl) Try.underlying114 Try.underlying2 Try.underlying2 rfl rfl (by kernel_rfl) (by kernel_rfl) (by kernel_rfl))
theorem st_open {P : Program} {T : TypeId} {f0 f1 f2 : Field} (hs : P.underlying T = some (.struct #[f0, f1, f2])) (h0 : P.underlying f0.type = some .string) (h1 : P.underlying f1.type = some (.int .i64)) (h2 : Opens P f2.type tSdS)
    (o0 : f0.offset = 0) (o1 : f1.offset = 1) (o2 : f2.offset = 2) (k0 : P.cellsOf f0.type = 1) (k1 : P.cellsOf f1.type = 1) (k2 : P.cellsOf f2.type = 1) (hC : P.cellsOf T = 3) : Opens P T tSt :=
  opens_fields hs fun w cs hl {H} enc base spare held n ys hyl hg => by
    obtain ⟨s, hs⟩ := field_at (i := 0) hyl hg rfl rfl o0 k0 (opens_str h0)
    obtain ⟨l, h1⟩ := field_at (i := 1) hyl hg rfl rfl o1 k1 (opens_int h1)
    obtain ⟨xs, h2⟩ := field_at (i := 2) hyl hg rfl rfl o2 k2 h2
    rw [hC] at hl
    match cs, hl with
    | [u0, u1, u2], _ =>
      refine ⟨(s, l, xs), st_R.2 ?_⟩
      have h0 : [u0] = [Value.string s] ∧ s.size ≤ maxLen := hs
      have h1' : [u1] = [Value.int .i64 l] := h1
      obtain ⟨A, n, c, e2⟩ := open_Sd h2
      have e2' : [u2] = [Value.slice A n c] := e2
      have h2' : tSdS.R w w.heap.size [u2] xs := h2
      injection h0.1 with e0
      injection h1' with e1
      injection e2' with e3
      subst e0 e1 e3
      exact ⟨A, n, c, rfl, h0.2, h2'⟩
theorem opens_St : Opens Try.prog 97 tSt :=
  st_open Try.underlying97 Try.underlying9 Try.underlying2 opens_SdS rfl rfl rfl (by kernel_rfl) (by kernel_rfl) (by kernel_rfl) (by kernel_rfl)
theorem opens_M : Opens Try.prog 28 tM :=
  opens_struct1 Try.underlying28 rfl (by kernel_rfl) (opens_sl Try.underlying26 (by kernel_rfl) opens_St)
theorem open_M {w : World} {B : Nat} {cs : List Value} {x : List Strip} (h : tM.R w B cs x) : ∃ A n c, cs = [.slice A n c] := by
  obtain ⟨v, rfl, hr⟩ := h
  obtain ⟨A, c, rfl⟩ := hr.shape
  exact ⟨_, _, _, rfl⟩
theorem ret2_nf7 {w w' : World} {r : List Int × Int} {en : Ending} (h : Ret2 2 w r en w') :
    ∃ A n c, en = .returned (.tuple #[.slice A n c, .int .i64 r.2]) ∧ tS.O w' (Iv w.heap.size w'.heap.size) [.slice A n c] r.1 ∧ Below w.heap.size w w' := by
  obtain ⟨v, rfl, own, bel⟩ := h
  obtain ⟨A, c, rfl, _⟩ := own.shape
  exact ⟨_, _, _, rfl, tS_O.2 own.os, bel⟩
end Go.Proofs.Ytacgcagpaecncaa
namespace Go.Proofs.Ytacgcagpaecncaa
open Go.RowKit
set_option maxRecDepth 100000
set_option maxHeartbeats 2000000
theorem opens_SS : Opens Try.prog 22 tSS := opens_sl Try.underlying22 (by kernel_rfl) opens_S
theorem n_open {P : Program} {T : TypeId} {f0 f1 f2 f3 : Field} (hs : P.underlying T = some (.struct #[f0, f1, f2, f3])) (h0 : P.underlying f0.type = some (.int .i64)) (h1 : P.underlying f1.type = some (.int .i64)) (h2 : P.underlying f2.type = some (.int .i64)) (h3 : Opens P f3.type tS) (o0 : f0.offset = 0) (o1 : f1.offset = 1) (o2 : f2.offset = 2) (o3 : f3.offset = 3) (k0 : P.cellsOf f0.type = 1) (k1 : P.cellsOf f1.type = 1) (k2 : P.cellsOf f2.type = 1) (k3 : P.cellsOf f3.type = 1) (hC : P.cellsOf T = 4) : Opens P T tN :=
  opens_fields hs fun w cs hl {H} enc base spare held n ys hyl hg => by
    obtain ⟨s0, g0⟩ := field_at (i := 0) hyl hg rfl rfl o0 k0 (opens_int h0)
    obtain ⟨s1, g1⟩ := field_at (i := 1) hyl hg rfl rfl o1 k1 (opens_int h1)
    obtain ⟨s2, g2⟩ := field_at (i := 2) hyl hg rfl rfl o2 k2 (opens_int h2)
    obtain ⟨s3, g3⟩ := field_at (i := 3) hyl hg rfl rfl o3 k3 h3
    rw [hC] at hl
    match cs, hl with
    | [u0, u1, u2, u3], _ =>
      refine ⟨(s0, s1, s2, s3), tN_R.2 ?_⟩
      have e0 : [u0] = [Value.int .i64 s0] := g0
      injection e0 with e0
      have e1 : [u1] = [Value.int .i64 s1] := g1
      injection e1 with e1
      have e2 : [u2] = [Value.int .i64 s2] := g2
      injection e2 with e2
      have r3 : tS.R w w.heap.size [u3] s3 := g3
      obtain ⟨A3, n3, c3, e3⟩ := open_sl r3
      injection e3 with e3
      subst e0 e1 e2 e3
      exact ⟨A3, n3, c3, rfl, r3⟩
theorem opens_Nd : Opens Try.prog 105 tN :=
  n_open Try.underlying105 Try.underlying2 Try.underlying2 Try.underlying2 opens_S rfl rfl rfl rfl (by kernel_rfl) (by kernel_rfl) (by kernel_rfl) (by kernel_rfl) (by kernel_rfl)
theorem opens_NdS : Opens Try.prog 70 tNS := opens_sl Try.underlying70 (by kernel_rfl) opens_Nd
theorem p_open {P : Program} {T : TypeId} {f0 f1 f2 f3 : Field} (hs : P.underlying T = some (.struct #[f0, f1, f2, f3])) (h0 : P.underlying f0.type = some (.int .i64)) (h1 : Opens P f1.type tSS) (h2 : Opens P f2.type tNS) (h3 : Opens P f3.type tS) (o0 : f0.offset = 0) (o1 : f1.offset = 1) (o2 : f2.offset = 2) (o3 : f3.offset = 3) (k0 : P.cellsOf f0.type = 1) (k1 : P.cellsOf f1.type = 1) (k2 : P.cellsOf f2.type = 1) (k3 : P.cellsOf f3.type = 1) (hC : P.cellsOf T = 4) : Opens P T tP :=
  opens_fields hs fun w cs hl {H} enc base spare held n ys hyl hg => by
    obtain ⟨s0, g0⟩ := field_at (i := 0) hyl hg rfl rfl o0 k0 (opens_int h0)
    obtain ⟨s1, g1⟩ := field_at (i := 1) hyl hg rfl rfl o1 k1 h1
    obtain ⟨s2, g2⟩ := field_at (i := 2) hyl hg rfl rfl o2 k2 h2
    obtain ⟨s3, g3⟩ := field_at (i := 3) hyl hg rfl rfl o3 k3 h3
    rw [hC] at hl
    match cs, hl with
    | [u0, u1, u2, u3], _ =>
      refine ⟨(s0, s1, s2, s3), tP_R.2 ?_⟩
      have e0 : [u0] = [Value.int .i64 s0] := g0
      injection e0 with e0
      have r1 : tSS.R w w.heap.size [u1] s1 := g1
      obtain ⟨A1, n1, c1, e1⟩ := open_sl r1
      injection e1 with e1
      have r2 : tNS.R w w.heap.size [u2] s2 := g2
      obtain ⟨A2, n2, c2, e2⟩ := open_sl r2
      injection e2 with e2
      have r3 : tS.R w w.heap.size [u3] s3 := g3
      obtain ⟨A3, n3, c3, e3⟩ := open_sl r3
      injection e3 with e3
      subst e0 e1 e2 e3
      exact ⟨A1, n1, c1, A2, n2, c2, A3, n3, c3, rfl, r1, r2, r3⟩
theorem opens_Pat : Opens Try.prog 72 tP :=
  p_open Try.underlying72 Try.underlying2 opens_SS opens_NdS opens_S rfl rfl rfl rfl (by kernel_rfl) (by kernel_rfl) (by kernel_rfl) (by kernel_rfl) (by kernel_rfl)
theorem opens_PatS : Opens Try.prog 25 tPS := opens_sl Try.underlying25 (by kernel_rfl) opens_Pat
theorem opens_TS : Opens Try.prog 23 tTS := opens_sl Try.underlying23 (by kernel_rfl) opens_T
theorem z_open {P : Program} {T : TypeId} {f0 f1 f2 f3 f4 f5 : Field} (hs : P.underlying T = some (.struct #[f0, f1, f2, f3, f4, f5])) (h0 : P.underlying f0.type = some (.int .i64)) (h1 : Opens P f1.type tSS) (h2 : Opens P f2.type tTS) (h3 : Opens P f3.type tS) (h4 : Opens P f4.type tPS) (h5 : Opens P f5.type tM) (o0 : f0.offset = 0) (o1 : f1.offset = 1) (o2 : f2.offset = 2) (o3 : f3.offset = 3) (o4 : f4.offset = 4) (o5 : f5.offset = 5) (k0 : P.cellsOf f0.type = 1) (k1 : P.cellsOf f1.type = 1) (k2 : P.cellsOf f2.type = 1) (k3 : P.cellsOf f3.type = 1) (k4 : P.cellsOf f4.type = 1) (k5 : P.cellsOf f5.type = 1) (hC : P.cellsOf T = 6) : Opens P T tZ :=
  opens_fields hs fun w cs hl {H} enc base spare held n ys hyl hg => by
    obtain ⟨s0, g0⟩ := field_at (i := 0) hyl hg rfl rfl o0 k0 (opens_int h0)
    obtain ⟨s1, g1⟩ := field_at (i := 1) hyl hg rfl rfl o1 k1 h1
    obtain ⟨s2, g2⟩ := field_at (i := 2) hyl hg rfl rfl o2 k2 h2
    obtain ⟨s3, g3⟩ := field_at (i := 3) hyl hg rfl rfl o3 k3 h3
    obtain ⟨s4, g4⟩ := field_at (i := 4) hyl hg rfl rfl o4 k4 h4
    obtain ⟨s5, g5⟩ := field_at (i := 5) hyl hg rfl rfl o5 k5 h5
    rw [hC] at hl
    match cs, hl with
    | [u0, u1, u2, u3, u4, u5], _ =>
      refine ⟨(s0, s1, s2, s3, s4, s5), tZ_R.2 ?_⟩
      have e0 : [u0] = [Value.int .i64 s0] := g0
      injection e0 with e0
      have r1 : tSS.R w w.heap.size [u1] s1 := g1
      obtain ⟨A1, n1, c1, e1⟩ := open_sl r1
      injection e1 with e1
      have r2 : tTS.R w w.heap.size [u2] s2 := g2
      obtain ⟨A2, n2, c2, e2⟩ := open_sl r2
      injection e2 with e2
      have r3 : tS.R w w.heap.size [u3] s3 := g3
      obtain ⟨A3, n3, c3, e3⟩ := open_sl r3
      injection e3 with e3
      have r4 : tPS.R w w.heap.size [u4] s4 := g4
      obtain ⟨A4, n4, c4, e4⟩ := open_sl r4
      injection e4 with e4
      have r5 : tM.R w w.heap.size [u5] s5 := g5
      obtain ⟨A5, n5, c5, e5⟩ := open_sl r5
      injection e5 with e5
      subst e0 e1 e2 e3 e4 e5
      exact ⟨A1, n1, c1, A2, n2, c2, A3, n3, c3, A4, n4, c4, A5, n5, c5, rfl, r1, r2, r3, r4, r5⟩
theorem opens_Ses : Opens Try.prog 30 tZ :=
  z_open Try.underlying30 Try.underlying2 opens_SS opens_TS opens_S opens_PatS opens_M rfl rfl rfl rfl rfl rfl (by kernel_rfl) (by kernel_rfl) (by kernel_rfl) (by kernel_rfl) (by kernel_rfl) (by kernel_rfl) (by kernel_rfl)
theorem opens_Y : Opens Try.prog 30 tZ := opens_Ses
theorem open_Y {w : World} {B : Nat} {cs : List Value} {x : Sess} (h : tZ.R w B cs x) : ∃ p A n c Ab nb cb Ac nc cc Ad nd cd Ae ne ce, cs = [.int .i64 p, .slice A n c, .slice Ab nb cb, .slice Ac nc cc, .slice Ad nd cd, .slice Ae ne ce] := by
  obtain ⟨a0, x1, x2, x3, x4, x5⟩ := x
  obtain ⟨A1, n1, c1, A2, n2, c2, A3, n3, c3, A4, n4, c4, A5, n5, c5, hcs, -⟩ := tZ_R.1 h
  exact ⟨_, _, _, _, _, _, _, _, _, _, _, _, _, _, _, _, hcs⟩
end Go.Proofs.Ytacgcagpaecncaa
