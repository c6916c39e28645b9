import Derived.Test.YtebaffdaffcdmaaW94
namespace Go.Proofs.Ytebaffdaffcdmaa
open Go.RowKit
set_option maxHeartbeats 4000000
set_option maxRecDepth 100000
theorem impl_EntryTimes (A : Option Addr) (n c : Nat) (xs : List Strip) (w : World) (hx : tM.R w w.heap.size [.slice A n c] xs) (hn : hM.sz xs ≤ 100000000) :
    Calls Try.prog 27 #[.agg #[.slice A n c]] w (Ret2 2 w (M.entryR xs)) := by
  have hb : Below w.heap.size w (w.alloc (.cells #[.slice A n c] 29)) := (Below.refl _ _).alloc (Nat.le_refl _) _
  have hx2 := tM.later hx hb
  have hself : (w.alloc (.cells #[.slice A n c] 29)).cell? ⟨w.heap.size, 0, none⟩ = some (.slice A n c) := by simp [go_sem]
  have hsz : (w.alloc (.cells #[.slice A n c] 29)).heap.size = w.heap.size + 1 := by simp
  have HSZ := Lib.hid hsz
  clear hsz
  cases hM : M.mixOk xs
  · have R := Lib.hid (show M.entryR xs = ([], 1) by rw [M.entryR, hM]; rfl)
    have HM := Lib.hid hM
    clear hM
    go_enter Try.func27, Try.ntmps27
    go_wp2_with (go_at_call 43; refine (impl_isMixer _ _ _ _ _ hx2 hn).mono ?_; rw [HM.out]; rintro e w2 ⟨rfl, bel2⟩; have hv2 : w2.cell? ⟨w.heap.size, 0, none⟩ = some (.slice A n c) := (by rw [bel2.cell (by rw [HSZ.out]; simp)]; exact hself))
    go_ret2
    rw [R.out]
    exact ⟨_, rfl, OI.nil _ _ _, bel_trans hb bel2⟩
  · have R := Lib.hid (show M.entryR xs = (M.entries xs, 0) by rw [M.entryR, hM]; rfl)
    have HM := Lib.hid hM
    clear hM
    go_enter Try.func27, Try.ntmps27
    go_wp2_with (first | (go_at_call 43; refine (impl_isMixer _ _ _ _ _ hx2 hn).mono ?_; rw [HM.out]; rintro e w2 ⟨rfl, bel2⟩; have hv2 : w2.cell? ⟨w.heap.size, 0, none⟩ = some (.slice A n c) := (by rw [bel2.cell (by rw [HSZ.out]; simp)]; exact hself)) | (go_at_call 54; refine (impl_entries _ _ _ _ _ (tM.later hx2 bel2) HM.out).mono ?_; rintro e w3 ⟨v3, rfl, own3, bel3⟩))
    go_ret2
    rw [R.out]
    have B2 := bel_trans hb bel2
    exact ⟨_, rfl, OI.base own3 B2.size, bel_trans B2 bel3⟩
theorem impl_TotalLatency (A : Option Addr) (n c : Nat) (xs : List Strip) (w : World) (hx : tM.R w w.heap.size [.slice A n c] xs) (hn : hM.sz xs ≤ 100000000) :
    Calls Try.prog 21 #[.agg #[.slice A n c]] w fun e w' => e = .returned (.tuple #[.int .i64 (M.totalR xs).1, .int .i64 (M.totalR xs).2]) ∧ Below w.heap.size w w' := by
  have hb : Below w.heap.size w (w.alloc (.cells #[.slice A n c] 29)) := (Below.refl _ _).alloc (Nat.le_refl _) _
  have hx2 := tM.later hx hb
  have hself : (w.alloc (.cells #[.slice A n c] 29)).cell? ⟨w.heap.size, 0, none⟩ = some (.slice A n c) := by simp [go_sem]
  have hsz : (w.alloc (.cells #[.slice A n c] 29)).heap.size = w.heap.size + 1 := by simp
  have HSZ := Lib.hid hsz
  clear hsz
  cases hM : M.mixOk xs
  · have R := Lib.hid (show M.totalR xs = (0, 1) by rw [M.totalR, hM]; rfl)
    have HM := Lib.hid hM
    clear hM
    go_enter Try.func21, Try.ntmps21
    go_wp2_with (go_at_call 43; refine (impl_isMixer _ _ _ _ _ hx2 hn).mono ?_; rw [HM.out]; rintro e w2 ⟨rfl, bel2⟩; have hv2 : w2.cell? ⟨w.heap.size, 0, none⟩ = some (.slice A n c) := (by rw [bel2.cell (by rw [HSZ.out]; simp)]; exact hself))
    go_ret2
    exact ⟨by rw [R.out]; rfl, bel_trans hb bel2⟩
  · have R := Lib.hid (show M.totalR xs = (M.total xs, 0) by rw [M.totalR, hM]; rfl)
    have HM := Lib.hid hM
    clear hM
    go_enter Try.func21, Try.ntmps21
    go_wp2_with (first | (go_at_call 43; refine (impl_isMixer _ _ _ _ _ hx2 hn).mono ?_; rw [HM.out]; rintro e w2 ⟨rfl, bel2⟩; have hv2 : w2.cell? ⟨w.heap.size, 0, none⟩ = some (.slice A n c) := (by rw [bel2.cell (by rw [HSZ.out]; simp)]; exact hself)) | (go_at_call 47; refine (impl_latency _ _ _ _ _ (tM.later hx2 bel2) HM.out).mono ?_; rintro e w3 ⟨rfl, bel3⟩))
    go_ret2
    exact ⟨by rw [R.out]; rfl, bel_trans (bel_trans hb bel2) bel3⟩
theorem spec_EntryTimes (A : Option Addr) (n c : Nat) (xs : List Strip) (w : World) (hx : tM.R w w.heap.size [.slice A n c] xs) (hn : hM.sz xs ≤ 100000000) :
    Calls Try.prog 26 #[.agg #[.slice A n c]] w (Ret2 2 w (M.entryR xs)) := by
  have hb : Below w.heap.size w (w.alloc (.cells #[.slice A n c] 29)) := (Below.refl _ _).alloc (Nat.le_refl _) _
  have hx2 := tM.later hx hb
  have hself : (w.alloc (.cells #[.slice A n c] 29)).cell? ⟨w.heap.size, 0, none⟩ = some (.slice A n c) := by simp [go_sem]
  have hsz : (w.alloc (.cells #[.slice A n c] 29)).heap.size = w.heap.size + 1 := by simp
  have HSZ := Lib.hid hsz
  clear hsz
  cases hM : M.mixOk xs
  · have R := Lib.hid (show M.entryR xs = ([], 1) by rw [M.entryR, hM]; rfl)
    have HM := Lib.hid hM
    clear hM
    go_enter Try.func26, Try.ntmps26
    go_wp2_with (go_at_call 42; refine (spec_l26Ok _ _ _ _ _ _ hself hx2 hn).mono ?_; rw [HM.out]; rintro e w2 ⟨rfl, bel2⟩; have hv2 : w2.cell? ⟨w.heap.size, 0, none⟩ = some (.slice A n c) := (by rw [bel2.cell (by rw [HSZ.out]; simp)]; exact hself))
    go_ret2
    rw [R.out]
    exact ⟨_, rfl, OI.nil _ _ _, bel_trans hb bel2⟩
  · have R := Lib.hid (show M.entryR xs = (M.entries xs, 0) by rw [M.entryR, hM]; rfl)
    have HM := Lib.hid hM
    clear hM
    go_enter Try.func26, Try.ntmps26
    go_wp2_with (first | (go_at_call 42; refine (spec_l26Ok _ _ _ _ _ _ hself hx2 hn).mono ?_; rw [HM.out]; rintro e w2 ⟨rfl, bel2⟩; have hv2 : w2.cell? ⟨w.heap.size, 0, none⟩ = some (.slice A n c) := (by rw [bel2.cell (by rw [HSZ.out]; simp)]; exact hself)) | (go_at_call 53; refine (spec_l26Entries _ _ _ _ _ _ hv2 (tM.later hx2 bel2) HM.out).mono ?_; rintro e w3 ⟨v3, rfl, own3, bel3⟩))
    go_ret2
    rw [R.out]
    have B2 := bel_trans hb bel2
    exact ⟨_, rfl, OI.base own3 B2.size, bel_trans B2 bel3⟩
theorem spec_TotalLatency (A : Option Addr) (n c : Nat) (xs : List Strip) (w : World) (hx : tM.R w w.heap.size [.slice A n c] xs) (hn : hM.sz xs ≤ 100000000) :
    Calls Try.prog 20 #[.agg #[.slice A n c]] w fun e w' => e = .returned (.tuple #[.int .i64 (M.totalR xs).1, .int .i64 (M.totalR xs).2]) ∧ Below w.heap.size w w' := by
  have hb : Below w.heap.size w (w.alloc (.cells #[.slice A n c] 29)) := (Below.refl _ _).alloc (Nat.le_refl _) _
  have hx2 := tM.later hx hb
  have hself : (w.alloc (.cells #[.slice A n c] 29)).cell? ⟨w.heap.size, 0, none⟩ = some (.slice A n c) := by simp [go_sem]
  have hsz : (w.alloc (.cells #[.slice A n c] 29)).heap.size = w.heap.size + 1 := by simp
  have HSZ := Lib.hid hsz
  clear hsz
  cases hM : M.mixOk xs
  · have R := Lib.hid (show M.totalR xs = (0, 1) by rw [M.totalR, hM]; rfl)
    have HM := Lib.hid hM
    clear hM
    go_enter Try.func20, Try.ntmps20
    go_wp2_with (go_at_call 42; refine (spec_l26Ok _ _ _ _ _ _ hself hx2 hn).mono ?_; rw [HM.out]; rintro e w2 ⟨rfl, bel2⟩; have hv2 : w2.cell? ⟨w.heap.size, 0, none⟩ = some (.slice A n c) := (by rw [bel2.cell (by rw [HSZ.out]; simp)]; exact hself))
    go_ret2
    exact ⟨by rw [R.out]; rfl, bel_trans hb bel2⟩
  · have R := Lib.hid (show M.totalR xs = (M.total xs, 0) by rw [M.totalR, hM]; rfl)
    have HM := Lib.hid hM
    clear hM
    go_enter Try.func20, Try.ntmps20
    go_wp2_with (first | (go_at_call 42; refine (spec_l26Ok _ _ _ _ _ _ hself hx2 hn).mono ?_; rw [HM.out]; rintro e w2 ⟨rfl, bel2⟩; have hv2 : w2.cell? ⟨w.heap.size, 0, none⟩ = some (.slice A n c) := (by rw [bel2.cell (by rw [HSZ.out]; simp)]; exact hself)) | (go_at_call 46; refine (spec_l26Total _ _ _ _ _ _ hv2 (tM.later hx2 bel2) HM.out).mono ?_; rintro e w3 ⟨rfl, bel3⟩))
    go_ret2
    exact ⟨by rw [R.out]; rfl, bel_trans (bel_trans hb bel2) bel3⟩
end Go.Proofs.Ytebaffdaffcdmaa
