import Derived.Test.YtckihflfjecpbaaW74
import Derived.StillTailTactics
namespace Go.Proofs.Ytckihflfjecpbaa
open Go.RowKit
set_option maxHeartbeats 2000000
set_option maxRecDepth 100000
theorem spec_SameCurve (A A' : Option Addr) (n c n' c' : Nat) (xs ys : List (Int × Int)) (w : World) (hx : RA pt 2 w w.heap.size A n xs) (hy : RA pt 2 w w.heap.size A' n' ys) (hn : n ≤ 1000000000) (hn' : n' ≤ 1000000000) :
    Calls Try.prog 36 #[.agg #[.slice A n c], .agg #[.slice A' n' c']] w fun e w' => e = .returned (.bool (decide (xs = ys))) ∧ Below w.heap.size w w' := by
  have hl := hx.len
  have hl' := hy.len
  have HL := Lib.hid hl
  have HL' := Lib.hid hl'
  obtain ⟨W, hW⟩ : ∃ W, W = (w.alloc (.cells #[.slice A n c] 30)).alloc (.cells #[.slice A' n' c'] 30) := ⟨_, rfl⟩
  have B0 : Below w.heap.size w W := by rw [hW]; exact ((Below.refl _ _).alloc (Nat.le_refl _) _).alloc (by simp) _
  have s0 : W.cell? ⟨w.heap.size, 0, none⟩ = some (.slice A n c) := by rw [hW]; simp [go_sem]
  have s1 : W.cell? ⟨w.heap.size + 1, 0, none⟩ = some (.slice A' n' c') := by rw [hW]; simp [go_sem]
  have lx : w.heap.size + 1 < W.heap.size := by rw [hW]; simp
  have HW := Lib.hid hW
  clear hW hl hl'
  by_cases hlen : n = n'
  · subst hlen
    go_enter Try.func36, Try.ntmps36
    go_wp2
    rw [← HW.out]
    go_loopw [5] (fun i wr => ∃ k : Nat, i = .int .i64 k ∧ k ≤ n ∧ xs.take k = ys.take k ∧ Below W.heap.size W wr) (fun i _ => n - (intOf i).toNat)
    case atStart => exact ⟨0, rfl, by omega, rfl, Below.refl _ _⟩
    case round =>
      obtain ⟨k, rfl, hk, hE, Bw⟩ := hrel
      have HE := Lib.hid hE
      have BW := bel_trans B0 Bw
      have t0 : wr.cell? ⟨w.heap.size, 0, none⟩ = some (.slice A n c) := by rw [Bw.cell (show (⟨w.heap.size, 0, none⟩ : Addr).block < _ by show w.heap.size < W.heap.size; omega)]; exact s0
      have t1 : wr.cell? ⟨w.heap.size + 1, 0, none⟩ = some (.slice A' n c') := by rw [Bw.cell (show (⟨w.heap.size + 1, 0, none⟩ : Addr).block < _ from lx)]; exact s1
      clear hE
      by_cases hlt : k < n
      · obtain ⟨b, o, ⟨p0, p1⟩, rfl, hab, X, hc⟩ := (hx.below BW).at pt_len (by decide) hlt
        obtain ⟨b', o', ⟨q0, q1⟩, rfl, hab', Y, hd⟩ := (hy.below BW).at pt_len (by decide) hlt
        have f0 : wr.cell? ⟨b, o + k * 2, none⟩ = some (.int .i64 p0) := hc 0 _ rfl
        have f1 : wr.cell? ⟨b, o + k * 2 + 1, none⟩ = some (.int .i64 p1) := hc 1 _ rfl
        have g0 : wr.cell? ⟨b', o' + k * 2, none⟩ = some (.int .i64 q0) := hd 0 _ rfl
        have g1 : wr.cell? ⟨b', o' + k * 2 + 1, none⟩ = some (.int .i64 q1) := hd 1 _ rfl
        have hkn : (k : Int) < (n : Int) := by omega
        clear hc hd
        by_cases he : p0 = q0 ∧ p1 = q1
        · obtain ⟨rfl, rfl⟩ := he
          go_wp2
          refine wp_region_still_lit (by kernel_rfl) (by kernel_rfl) ?_
          iterate 11 still_step
          refine wpStill_nil ?_
          go_wp2
          go_roundw
          case rel => exact ⟨k + 1, by go_num, by omega, by rw [M.take_at X.out, M.take_at Y.out, HE.out], Bw.drew⟩
          case measure => simp [intOf]; omega
        · have hne := Lib.hid (show decide (xs = ys) = false by
            simp only [decide_eq_false_iff_not]
            intro h
            subst h
            have := X.out.symm.trans Y.out
            simp only [Option.some.injEq, Prod.mk.injEq] at this
            exact he this)
          by_cases h0 : p0 = q0
          · have h1 : ¬ p1 = q1 := fun h => he ⟨h0, h⟩
            clear he
            go_wp2
            refine wp_region_still_lit (by kernel_rfl) (by kernel_rfl) ?_
            iterate 11 still_step
            refine wpStill_nil ?_
            go_wp2
            go_ret
            exact ⟨ret_bool hne.out.symm, bel_trans B0 Bw.drew⟩
          · clear he
            go_wp2
            refine wp_region_still_lit (by kernel_rfl) (by kernel_rfl) ?_
            iterate 11 still_step
            refine wpStill_nil ?_
            go_wp2
            go_ret
            exact ⟨ret_bool hne.out.symm, bel_trans B0 Bw.drew⟩
      · obtain rfl : k = n := by omega
        have heq := Lib.hid (show decide (xs = ys) = true by
          simp only [decide_eq_true_eq]
          have := HE.out
          rwa [List.take_of_length_le (by rw [HL.out]; exact Nat.le_refl _), List.take_of_length_le (by rw [HL'.out]; exact Nat.le_refl _)] at this)
        go_wp2
        go_ret
        exact ⟨ret_bool heq.out.symm, BW⟩
  · have hne := Lib.hid (show decide (xs = ys) = false by
      simp only [decide_eq_false_iff_not]
      intro h
      subst h
      exact hlen (HL.out.symm.trans HL'.out))
    have hnn : ¬ (n : Int) = (n' : Int) := by omega
    go_enter Try.func36, Try.ntmps36
    go_wp2
    go_ret
    exact ⟨ret_bool hne.out.symm, by rw [← HW.out]; exact B0⟩
end Go.Proofs.Ytckihflfjecpbaa
