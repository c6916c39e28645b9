import Derived.Test.YtebaffdaffcdmaaW93
import Derived.Deep.RegionWith
namespace Go.Proofs.Ytebaffdaffcdmaa
open Go.RowKit
set_option maxHeartbeats 4000000
set_option maxRecDepth 100000
def M.total (xs : List Strip) : Int := ((M.entries xs)[xs.length - 1]?).getD 0 + ((xs[xs.length - 1]?).getD M.sz).2.1
def M.totalR (xs : List Strip) : Int × Int := if M.mixOk xs then (M.total xs, 0) else (0, 1)
def M.entryR (xs : List Strip) : List Int × Int := if M.mixOk xs then (M.entries xs, 0) else ([], 1)
theorem M.entries_len (xs : List Strip) : (M.entries xs).length = xs.length := M.entN_len _ _
theorem M.entries_upTo {xs : List Strip} (h : M.mixOk xs = true) : M.upTo 2000 (M.entries xs) := M.upTo_mono (M.entN_upTo h xs.length (Nat.le_refl _)) (by have := M.mix_n h; omega)
theorem M.entryR_len (xs : List Strip) : (M.entryR xs).1.length ≤ 8 := by
  unfold M.entryR
  split
  · rename_i h
    show (M.entries xs).length ≤ 8
    rw [M.entries_len]
    exact (M.mix_n h).2
  · simp
theorem impl_latency (A : Option Addr) (n c : Nat) (xs : List Strip) (w : World) (hx : tM.R w w.heap.size [.slice A n c] xs) (hok : M.mixOk xs = true) :
    Calls Try.prog 47 #[.agg #[.slice A n c]] w fun e w' => e = .returned (.int .i64 (M.total xs)) ∧ Below w.heap.size w w' := by
  have rx := sl_R.1 hx
  have hlx := rx.cap.1
  have hmn := M.mix_n hok
  have hnb : 1 ≤ n ∧ n ≤ 8 := by omega
  have HLX := Lib.hid hlx
  have HOK := Lib.hid hok
  obtain ⟨W, hW⟩ : ∃ W, W = w.alloc (.cells #[.slice A n c] 29) := ⟨_, rfl⟩
  have B0 : Below w.heap.size w W := by rw [hW]; exact (Below.refl _ _).alloc (Nat.le_refl _) _
  have hself : W.cell? ⟨w.heap.size, 0, none⟩ = some (.slice A n c) := by rw [hW]; simp [go_sem]
  have lx : w.heap.size < W.heap.size := by rw [hW]; simp
  have HW := Lib.hid hW
  have hX := Lib.hid (List.getElem?_eq_getElem (l := xs) (i := n - 1) (by omega))
  obtain ⟨b, o1, cc, cs, hv, hab, -, hE, hcc⟩ := (rx.below B0).atX hX.out
  simp only [Value.slice.injEq] at hv
  obtain ⟨rfl, -, rfl⟩ := hv
  generalize xs[n - 1]'(by omega) = x at hX hE
  obtain ⟨s, l, us⟩ := x
  obtain ⟨A2, n2, c2, rfl, -, -⟩ := st_R.1 hE
  have e1 : W.cell? ⟨b, o1 + (n - 1) * 3 + 1, none⟩ = some (.int .i64 l) := hcc 1 _ rfl
  obtain ⟨hlat, -, -⟩ := M.mix_strip HOK.out hX.out
  have hEl := Lib.hid (List.getElem?_eq_getElem (l := M.entries xs) (i := n - 1) (by rw [M.entries_len]; omega))
  generalize (M.entries xs)[n - 1]'(by rw [M.entries_len]; omega) = t at hEl
  have hbt := M.upTo_at (M.entries_upTo HOK.out) hEl.out
  have HT := Lib.hid (show M.total xs = t + l by rw [M.total, HLX.out, hEl.out, hX.out]; rfl)
  have hkk : IntKind.i64.wrap ((n : Int) - 1) = ((n - 1 : Nat) : Int) := by rw [IntWalk.i64_in _ (by omega)]; omega
  have i0 : (0 : Int) ≤ ((n - 1 : Nat) : Int) := by omega
  have i1 : ((n - 1 : Nat) : Int) < (n : Int) := by omega
  have i2 : n - 1 < n := by omega
  have htl : IntKind.i64.wrap (t + l) = t + l := IntWalk.i64_in _ (by omega)
  have D1 : Below W.heap.size W (W.drewN 1) := below_drewN (Below.refl _ _) 1
  have hxd := tM.later hx (bel_trans B0 D1)
  have lb : b < W.heap.size := Nat.lt_of_lt_of_le hab B0.size
  clear hcc hE hlx hmn hok hW
  go_enter Try.func47, Try.ntmps47
  go_wp2
  rw [← HW.out]
  go_region_with
    (first | (go_at_call 54; refine (impl_entries _ _ _ _ _ hxd HOK.out).mono ?_; rintro e w2 ⟨v2, rfl, own2, bel2⟩; obtain ⟨A3, c3, rfl, -⟩ := own2.shape; have hl3 := M.entries_len xs; rw [HLX.out] at hl3; rw [hl3] at own2 ⊢; clear hl3; obtain ⟨g, rfl, -, -⟩ := own2.form' (show 0 < n by omega); obtain ⟨t2, hT2, hct, -, -, -⟩ := own2.at' i2; have e9 := hT2.out; rw [hEl.out] at e9; injection e9 with e9; rw [← e9] at hct; clear e9; have G2 := bel_trans D1 bel2; have hself2 : w2.cell? ⟨w.heap.size, 0, none⟩ = some (.slice (some ⟨b, o1, none⟩) n c) := (by rw [G2.cell lx]; exact hself); have e12 : w2.cell? ⟨b, o1 + (n - 1) * 3 + 1, none⟩ = some (.int .i64 l) := (by rw [G2.cell lb]; exact e1)))
  all_goals
    go_wp2
    go_ret
    exact ⟨ret_int (by rw [HT.out]), bel_trans B0 G2⟩
theorem spec_l26Total (vb : Nat) (A : Option Addr) (n c : Nat) (xs : List Strip) (W : World) (hself : W.cell? ⟨vb, 0, none⟩ = some (.slice A n c)) (hx : tM.R W W.heap.size [.slice A n c] xs) (hok : M.mixOk xs = true) :
    Calls Try.prog 46 #[.pointer (some ⟨vb, 0, none⟩)] W fun e w' => e = .returned (.int .i64 (M.total xs)) ∧ Below W.heap.size W w' := by
  have lx : vb < W.heap.size := World.block_lt_of_cell? W _ hself
  have rx := sl_R.1 hx
  have hlx := rx.cap.1
  have hmn := M.mix_n hok
  have hnb : 1 ≤ n ∧ n ≤ 8 := by omega
  have HLX := Lib.hid hlx
  have HOK := Lib.hid hok
  have hX := Lib.hid (List.getElem?_eq_getElem (l := xs) (i := n - 1) (by omega))
  obtain ⟨b, o1, cc, cs, hv, hab, -, hE, hcc⟩ := rx.atX hX.out
  simp only [Value.slice.injEq] at hv
  obtain ⟨rfl, -, rfl⟩ := hv
  generalize xs[n - 1]'(by omega) = x at hX hE
  obtain ⟨s, l, us⟩ := x
  obtain ⟨A2, n2, c2, rfl, -, -⟩ := st_R.1 hE
  have e1 : W.cell? ⟨b, o1 + (n - 1) * 3 + 1, none⟩ = some (.int .i64 l) := hcc 1 _ rfl
  obtain ⟨hlat, -, -⟩ := M.mix_strip HOK.out hX.out
  have hEl := Lib.hid (List.getElem?_eq_getElem (l := M.entries xs) (i := n - 1) (by rw [M.entries_len]; omega))
  generalize (M.entries xs)[n - 1]'(by rw [M.entries_len]; omega) = t at hEl
  have hbt := M.upTo_at (M.entries_upTo HOK.out) hEl.out
  have HT := Lib.hid (show M.total xs = t + l by rw [M.total, HLX.out, hEl.out, hX.out]; rfl)
  have hkk : IntKind.i64.wrap ((n : Int) - 1) = ((n - 1 : Nat) : Int) := by rw [IntWalk.i64_in _ (by omega)]; omega
  have i0 : (0 : Int) ≤ ((n - 1 : Nat) : Int) := by omega
  have i1 : ((n - 1 : Nat) : Int) < (n : Int) := by omega
  have i2 : n - 1 < n := by omega
  have htl : IntKind.i64.wrap (t + l) = t + l := IntWalk.i64_in _ (by omega)
  have D1 : Below W.heap.size W (W.drewN 1) := below_drewN (Below.refl _ _) 1
  have hxd := tM.later hx D1
  have hsd : (W.drewN 1).cell? ⟨vb, 0, none⟩ = some (.slice (some ⟨b, o1, none⟩) n c) := by rw [D1.cell lx]; exact hself
  clear hcc hE hlx hmn hok
  go_enter Try.func46, Try.ntmps46
  go_wp2
  go_region_with
    (first | (go_at_call 53; refine (spec_l26Entries _ _ _ _ _ _ hsd hxd HOK.out).mono ?_; rintro e w2 ⟨v2, rfl, own2, bel2⟩; obtain ⟨A3, c3, rfl, -⟩ := own2.shape; have hl3 := M.entries_len xs; rw [HLX.out] at hl3; rw [hl3] at own2 ⊢; clear hl3; obtain ⟨g, rfl, -, -⟩ := own2.form' (show 0 < n by omega); obtain ⟨t2, hT2, hct, -, -, -⟩ := own2.at' i2; have e9 := hT2.out; rw [hEl.out] at e9; injection e9 with e9; rw [← e9] at hct; clear e9; have G2 := bel_trans D1 bel2; have hself2 : w2.cell? ⟨vb, 0, none⟩ = some (.slice (some ⟨b, o1, none⟩) n c) := (by rw [G2.cell lx]; exact hself); have e12 : w2.cell? ⟨b, o1 + (n - 1) * 3 + 1, none⟩ = some (.int .i64 l) := (by rw [G2.cell hab]; exact e1)))
  all_goals
    go_wp2
    go_ret
    exact ⟨ret_int (by rw [HT.out]), G2⟩
end Go.Proofs.Ytebaffdaffcdmaa
