import Derived.Test.YtckihflfjecpbaaW39
namespace Go.Proofs.Ytckihflfjecpbaa
open Go.RowKit
set_option maxHeartbeats 2000000
set_option maxRecDepth 100000
/-- A curve's value at a sample, and the code. -/
def M.valR (xs : List (Int × Int)) (t : Int) : Int × Int := if M.curveOk xs then (if M.inn t 0 4000 then (M.atC xs t, 0) else (0, 2)) else (0, 1)
theorem impl_ValueAt (A : Option Addr) (n c : Nat) (xs : List (Int × Int)) (t : Int) (w : World) (hx : RA pt 2 w w.heap.size A n xs) (hn : n ≤ 1000000000) :
    Calls Try.prog 39 #[.agg #[.slice A n c], .int .i64 t] w fun e w' => e = .returned (.tuple #[.int .i64 (M.valR xs t).1, .int .i64 (M.valR xs t).2]) ∧ Below w.heap.size w w' := by
  obtain ⟨W, hW⟩ : ∃ W, W = w.alloc (.cells #[.slice A n c] 30) := ⟨_, rfl⟩
  have B0 : Below w.heap.size w W := by rw [hW]; exact (Below.refl _ _).alloc (Nat.le_refl _) _
  have hself : W.cell? ⟨w.heap.size, 0, none⟩ = some (.slice A n c) := by rw [hW]; simp [go_sem]
  have lx : w.heap.size < W.heap.size := by rw [hW]; simp
  have hx2 := hx.later B0
  have HW := Lib.hid hW
  clear hW
  cases hok : M.curveOk xs
  · have R := Lib.hid (show M.valR xs t = (0, 1) by rw [M.valR, hok]; rfl)
    have HM := Lib.hid hok
    clear hok
    go_enter Try.func39, Try.ntmps39
    go_wp2_with fail
    rw [← HW.out]
    go_wp2_with (go_at_call 74; refine (impl_isCurve _ _ _ _ _ hx2 hn).mono ?_; rw [HM.out]; rintro e w2 ⟨rfl, bel2⟩)
    go_ret2
    exact ⟨by rw [R.out]; rfl, bel_trans B0 bel2⟩
  · cases hi : M.inn t 0 4000
    · have R := Lib.hid (show M.valR xs t = (0, 2) by rw [M.valR, hok, hi]; rfl)
      have HM := Lib.hid hok
      have HI := Lib.hid hi
      clear hok hi
      go_enter Try.func39, Try.ntmps39
      go_wp2_with fail
      rw [← HW.out]
      go_wp2_with (first | (go_at_call 74; refine (impl_isCurve _ _ _ _ _ hx2 hn).mono ?_; rw [HM.out]; rintro e w2 ⟨rfl, bel2⟩; have hs2 : w2.cell? ⟨w.heap.size, 0, none⟩ = some (.slice A n c) := (by rw [bel2.cell lx]; exact hself)) | (go_at_call 85; refine (impl_isCount _ _).mono ?_; rw [HI.out]; rintro e w' ⟨rfl, rfl⟩))
      go_ret2
      exact ⟨by rw [R.out]; rfl, bel_trans B0 bel2⟩
    · have R := Lib.hid (show M.valR xs t = (M.atC xs t, 0) by rw [M.valR, hok, hi]; rfl)
      have ht : 0 ≤ t ∧ t ≤ 1000000 := by have := M.inn_iff.1 hi; omega
      have HM := Lib.hid hok
      have HI := Lib.hid hi
      clear hok hi
      go_enter Try.func39, Try.ntmps39
      go_wp2_with fail
      rw [← HW.out]
      go_wp2_with (first | (go_at_call 74; refine (impl_isCurve _ _ _ _ _ hx2 hn).mono ?_; rw [HM.out]; rintro e w2 ⟨rfl, bel2⟩; have hs2 : w2.cell? ⟨w.heap.size, 0, none⟩ = some (.slice A n c) := (by rw [bel2.cell lx]; exact hself)) | (go_at_call 85; refine (impl_isCount _ _).mono ?_; rw [HI.out]; rintro e w' ⟨rfl, rfl⟩) | (go_at_call 96; refine (impl_valueAt _ _ _ _ _ _ (hx2.later bel2) HM.out ht).mono ?_; rintro e w3 ⟨rfl, bel3⟩))
      go_ret2
      exact ⟨by rw [R.out]; rfl, bel_trans (bel_trans B0 bel2) bel3⟩
end Go.Proofs.Ytckihflfjecpbaa
