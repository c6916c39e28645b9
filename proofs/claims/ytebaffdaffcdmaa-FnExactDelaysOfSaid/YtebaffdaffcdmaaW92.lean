import Derived.Test.YtebaffdaffcdmaaW91
import Derived.StillTailTactics
namespace Go.Proofs.Ytebaffdaffcdmaa
open Go.RowKit
set_option maxHeartbeats 4000000
set_option maxRecDepth 100000
theorem impl_entries (A : Option Addr) (n c : Nat) (xs : List Strip) (w : World) (hx : tM.R w w.heap.size [.slice A n c] xs) (hok : M.mixOk xs = true) :
    Calls Try.prog 54 #[.agg #[.slice A n c]] w (Ret1 2 w (M.entries xs)) := by
  have rx := sl_R.1 hx
  have hlx := rx.cap.1
  have hmn := M.mix_n hok
  have hnb : 1 ≤ n ∧ n ≤ 8 := by omega
  have HLX := Lib.hid hlx
  have HOK := Lib.hid hok
  have B0 : Below w.heap.size w (w.alloc (.cells #[.slice A n c] 29)) := (Below.refl _ _).alloc (Nat.le_refl _) _
  have hself : (w.alloc (.cells #[.slice A n c] 29)).cell? ⟨w.heap.size, 0, none⟩ = some (.slice A n c) := by simp [go_sem]
  have hsz : (w.alloc (.cells #[.slice A n c] 29)).heap.size = w.heap.size + 1 := by simp
  have HSZ := Lib.hid hsz
  clear hsz hlx hmn hok
  go_enter Try.func54, Try.ntmps54
  go_wp2_with (first | (go_at_call 63; refine (impl_size_impl_Strip _ _ _ _).mono ?_; rintro e w' ⟨rfl, rfl⟩) | (go_at_call 69; refine (impl_zeros _ _ (by omega) (by omega)).mono ?_; rintro e w1 ⟨v1, rfl, own1, bel1⟩; have hv1 : w1.cell? ⟨w.heap.size, 0, none⟩ = some (.slice A n c) := (by rw [bel1.cell (by rw [HSZ.out]; simp)]; exact hself)))
  rw [Int.toNat_natCast] at own1
  obtain ⟨A1, c1, rfl, -⟩ := own1.shape
  rw [List.length_replicate] at own1 ⊢
  have own1' : OI 2 (w.heap.size + 1) w1 (.slice A1 n c1) (M.entN xs 0) := by
    have h1 := own1
    rw [HSZ.out] at h1
    show OI 2 (w.heap.size + 1) w1 (.slice A1 n c1) (List.replicate xs.length 0)
    rw [HLX.out]
    exact h1
  have B1 := bel_trans B0 bel1
  clear own1 bel1 hself B0 hv1
  go_loopw [4, 5, 15] (fun _ _ i wr => ∃ k : Nat, i = .int .i64 k ∧ k ≤ n ∧ OI 2 (w.heap.size + 1) wr (.slice A1 n c1) (M.entN xs k) ∧ Below w.heap.size w wr) (fun _ _ i _ => n - (intOf i).toNat)
  case atStart => exact ⟨0, rfl, by omega, own1', B1⟩
  case round =>
    obtain ⟨k, rfl, hk, own, Bw⟩ := hrel
    by_cases hlt : k < n
    · have hX := Lib.hid (List.getElem?_eq_getElem (l := xs) (i := k) (by rw [HLX.out]; exact hlt))
      obtain ⟨b, o1, cc, cs, hv, hab, -, hE, hcc⟩ := (rx.below Bw).atX hX.out
      simp only [Value.slice.injEq] at hv
      obtain ⟨rfl, -, rfl⟩ := hv
      generalize xs[k]'(by rw [HLX.out]; exact hlt) = x at hX hE
      obtain ⟨s, l, us⟩ := x
      obtain ⟨A2, n2, c2, rfl, -, hE⟩ := st_R.1 hE
      have e0 : wr.cell? ⟨b, o1 + k * 3, none⟩ = some (.string s) := hcc 0 _ rfl
      have e1 : wr.cell? ⟨b, o1 + k * 3 + 1, none⟩ = some (.int .i64 l) := hcc 1 _ rfl
      have e2 : wr.cell? ⟨b, o1 + k * 3 + 2, none⟩ = some (.slice A2 n2 c2) := hcc 2 _ rfl
      have hbr : b < wr.heap.size := Nat.lt_of_lt_of_le hab Bw.size
      have rs := (tSdS_ra hE).1
      have hn2 := rs.1
      obtain ⟨hlat, hu4, hsb⟩ := M.mix_strip HOK.out hX.out
      have HN2 := Lib.hid hn2
      have HSB := Lib.hid hsb
      have HUP := Lib.hid (fun j => M.entS_upTo HOK.out hX.out j)
      obtain ⟨g, rfl, hg1, hg2⟩ := own.form' (by omega)
      have Bu := Bw.alloc Bw.size (.cells #[.string s, .int .i64 l, .slice A2 n2 c2] 57)
      have ownu := own.below ((Below.refl wr.heap.size wr).alloc (Nat.le_refl _) (.cells #[.string s, .int .i64 l, .slice A2 n2 c2] 57))
      have lb : (wr.alloc (.cells #[.string s, .int .i64 l, .slice A2 n2 c2] 57)).cell? ⟨wr.heap.size, 1, none⟩ = some (.int .i64 l) := by rw [cell_of_row _ wr.heap.size 1 _ 57 (0, 0) (heap_alloc_new wr _)]; rfl
      have hlu : (wr.alloc (.cells #[.string s, .int .i64 l, .slice A2 n2 c2] 57)).heap.size = wr.heap.size + 1 := by simp
      have n2b : n2 ≤ 4 := by omega
      clear hcc hE hn2 hu4 hsb
      go_wp2
      obtain ⟨wo, rfl⟩ : ∃ wo : World, wo = wr := ⟨_, rfl⟩
      go_loopw [7, 23] (fun _ i wr => ∃ j : Nat, i = .int .i64 j ∧ j ≤ n2 ∧ OI 2 (w.heap.size + 1) wr (.slice (some ⟨g, 0, none⟩) n c1) (M.entS xs k l us j) ∧ wr.cell? ⟨wo.heap.size, 1, none⟩ = some (.int .i64 l) ∧ wo.heap.size + 1 ≤ wr.heap.size ∧ Below w.heap.size w wr ∧ Below w.heap.size wo wr) (fun _ i _ => n2 - (intOf i).toNat)
      case atStart => exact ⟨0, rfl, by omega, ownu, lb, by omega, Bu, (Below.refl _ _).alloc Bw.size _⟩
      case round =>
        obtain ⟨j, rfl, hj, ownj, lj, hszj, Bj, Bo⟩ := hrel
        by_cases hlt2 : j < n2
        · obtain ⟨b2, o2, ⟨p0, p1⟩, rfl, hab2, X2, hdd⟩ := (rs.below Bo).at sd_len (by decide) hlt2
          have f0 : wr.cell? ⟨b2, o2 + j * 2, none⟩ = some (.int .i64 p0) := hdd 0 _ rfl
          have f1 : wr.cell? ⟨b2, o2 + j * 2 + 1, none⟩ = some (.int .i64 p1) := hdd 1 _ rfl
          obtain ⟨hp1, hp2, -⟩ := M.sends_at HSB.out X2.out
          obtain ⟨q, rfl⟩ : ∃ q : Nat, p0 = q := ⟨p0.toNat, by omega⟩
          have hqn : q < n := by have := HLX.out; omega
          obtain ⟨x, hxx, cx, fx, -, -⟩ := ownj.at' hqn
          obtain ⟨y, hyy, cy, fy, -, -⟩ := ownj.at' hlt
          have bx := M.upTo_at (HUP.out j) hxx.out
          have by_ := M.upTo_at (HUP.out j) hyy.out
          have hgw : g < wr.heap.size := by omega
          have hng : ¬ g = wo.heap.size := by omega
          have hE2 := Lib.hid (M.entS_next (xs := xs) (k := k) (l := l) X2.out)
          have hE3 := Lib.hid (M.entSend_eq (k := k) (l := l) (g := p1) hxx.out hyy.out)
          have lw : wo.heap.size < wr.heap.size := by omega
          have hb2w : b2 < wr.heap.size := Nat.lt_of_lt_of_le hab2 Bj.size
          clear hdd hp1 hp2
          obtain ⟨U, hU⟩ : ∃ U, U = wr.alloc (.cells #[.int .i64 (q : Int), .int .i64 p1] 71) := ⟨_, rfl⟩
          have G0 : Below wr.heap.size wr U := by rw [hU]; exact (Below.refl _ _).alloc (Nat.le_refl _) _
          have u0 : U.cell? ⟨wr.heap.size, 0, none⟩ = some (.int .i64 (q : Int)) := by rw [hU, cell_of_row _ wr.heap.size 0 _ 71 (0, 0) (heap_alloc_new wr _)]; rfl
          have ux : U.cell? ⟨g, q, none⟩ = some (.int .i64 x) := by rw [G0.cell hgw]; exact cx
          have vx : U.frozen? ⟨g, q, none⟩ = false := by rw [G0.frozen hgw]; exact fx
          have uy : U.cell? ⟨g, k, none⟩ = some (.int .i64 y) := by rw [G0.cell hgw]; exact cy
          have ul : U.cell? ⟨wo.heap.size, 1, none⟩ = some (.int .i64 l) := by rw [G0.cell lw]; exact lj
          have ownU := ownj.below G0
          have HU := Lib.hid hU
          have hqn2 : (q : Int) < (n : Int) := by omega
          have hkn2 : (k : Int) < (n : Int) := by omega
          clear hU
          go_wp2
          rw [← HU.out]
          refine wp_region_still_tail 17 (by kernel_rfl) (by kernel_rfl) ?_
          simp only [List.take_succ_cons, List.take_zero, List.drop_succ_cons, List.drop_zero]
          iterate 17 still_step
          refine wpStill_nil ?_
          change wpList _ _ _ _ _ U.drew
          go_wp2
          go_roundw
          case rel =>
            have h3 := OI.stored' ownU q (if x < y + l then y + l else x)
            have e3 : (M.entS xs k l us j).set q (if x < y + l then y + l else x) = M.entS xs k l us (j + 1) := by
              rw [hE2.out, hE3.out]
              congr 1
              split <;> omega
            rw [e3] at h3
            have z0 : w.heap.size ≤ wr.heap.size := by omega
            have z1 := G0.size
            have z2 : (U.setCell ⟨g, q, none⟩ (.int .i64 (if x < y + l then y + l else x))).heap.size = U.heap.size := by simp
            have z3 : (U.setCell ⟨g, q, none⟩ (.int .i64 (if x < y + l then y + l else x))).cell? ⟨wo.heap.size, 1, none⟩ = some (.int .i64 l) := by
              rw [World.cell?_of_block (heap_setCell_other U ⟨g, q, none⟩ wo.heap.size _ (fun e => hng e.symm))]
              exact ul
            exact ⟨j + 1, by go_num, by omega, h3, z3, by show wo.heap.size + 1 ≤ (U.setCell ⟨g, q, none⟩ (.int .i64 (if x < y + l then y + l else x))).heap.size; omega, ((Bj.trans (G0.mono z0)).setCell (Nat.le_trans (Nat.le_succ _) hg1) _).drew, ((Bo.trans (G0.mono z0)).setCell (Nat.le_trans (Nat.le_succ _) hg1) _).drew⟩
          case measure => simp [intOf]; omega
        · obtain rfl : j = n2 := by omega
          have hend := M.entS_end hX.out
          rw [HN2.out] at hend
          have HE := Lib.hid hend
          clear hend
          go_wp2
          go_roundw
          case rel => exact ⟨k + 1, by go_num, by omega, by rw [← HE.out]; exact ownj, Bj⟩
          case measure => simp [intOf]; omega
    · obtain rfl : k = n := by omega
      go_wp2
      go_ret
      exact ⟨_, rfl, by rw [M.entries, HLX.out]; exact own.base (by omega), Bw⟩
end Go.Proofs.Ytebaffdaffcdmaa
