import Derived.Test.YtebaffdaffcdmaaW92
namespace Go.Proofs.Ytebaffdaffcdmaa
open Go.RowKit
set_option maxHeartbeats 4000000
set_option maxRecDepth 100000
theorem spec_l00Max (a b : Int) (w : World) : Calls Try.prog 71 #[.int .i64 a, .int .i64 b] w fun e w' => e = .returned (.int .i64 (max a b)) ∧ w = w' := by
  by_cases h : b < a
  · have h2 := Lib.hid (show max a b = a by omega)
    go_enter Try.func71, Try.ntmps71
    go_wp2
    go_ret
    exact ⟨ret_int (by rw [h2.out]), rfl⟩
  · have h2 := Lib.hid (show max a b = b by omega)
    go_enter Try.func71, Try.ntmps71
    go_wp2
    go_ret
    exact ⟨ret_int (by rw [h2.out]), rfl⟩
theorem spec_l26Entries (vb : Nat) (A : Option Addr) (n c : Nat) (xs : List Strip) (w : World) (hv0 : w.cell? ⟨vb, 0, none⟩ = some (.slice A n c)) (hx : tM.R w w.heap.size [.slice A n c] xs) (hok : M.mixOk xs = true) :
    Calls Try.prog 53 #[.pointer (some ⟨vb, 0, none⟩)] w (Ret1 2 w (M.entries xs)) := by
  have hvb : vb < w.heap.size := World.block_lt_of_cell? w _ hv0
  have rx := sl_R.1 hx
  have hlx := rx.cap.1
  have hmn := M.mix_n hok
  have hnb : 1 ≤ n ∧ n ≤ 8 := by omega
  have HLX := Lib.hid hlx
  have HOK := Lib.hid hok
  clear hlx hmn hok
  go_enter Try.func53, Try.ntmps53
  go_wp2_with (at_make; refine wpList_mk ei_i64 rfl _ _ rfl n _ _ rfl rfl rfl rfl (by omega) (by unfold maxLen; omega) ?_; intro w1 own1 B1)
  have own1' : OI 2 w.heap.size w1 (.slice (some ⟨w.heap.size, 0, none⟩) n n) (M.entN xs 0) := by
    show OI 2 w.heap.size w1 _ (List.replicate xs.length 0)
    rw [HLX.out]
    unfold OI
    have := toList_madeCells_one (.int .i64 0) n
    simp only [Nat.mul_one, Value.cells] at own1
    rw [this] at own1
    simpa using own1
  clear own1
  go_loopw [4, 5, 6, 7] (fun i _ _ _ wr => ∃ k : Nat, i = .int .i64 k ∧ k ≤ n ∧ OI 2 w.heap.size wr (.slice (some ⟨w.heap.size, 0, none⟩) n n) (M.entN xs k) ∧ Below w.heap.size w wr) (fun i _ _ _ _ => n - (intOf i).toNat)
  case atStart => exact ⟨0, rfl, by omega, own1', B1⟩
  case round =>
    obtain ⟨k, rfl, hk, own, Bw⟩ := hrel
    have c0 : wr.cell? ⟨vb, 0, none⟩ = some (.slice A n c) := by rw [Bw.cell hvb]; exact hv0
    by_cases hlt : k < n
    · have hX := Lib.hid (List.getElem?_eq_getElem (l := xs) (i := k) (by rw [HLX.out]; exact hlt))
      obtain ⟨b, o1, cc, cs, hv, hab, -, hE, hcc⟩ := (rx.below Bw).atX hX.out
      simp only [Value.slice.injEq] at hv
      obtain ⟨rfl, -, rfl⟩ := hv
      generalize xs[k]'(by rw [HLX.out]; exact hlt) = x at hX hE
      obtain ⟨s, l, us⟩ := x
      obtain ⟨A2, n2, c2, rfl, -, hE⟩ := st_R.1 hE
      have e1 : wr.cell? ⟨b, o1 + k * 3 + 1, none⟩ = some (.int .i64 l) := hcc 1 _ rfl
      have e2 : wr.cell? ⟨b, o1 + k * 3 + 2, none⟩ = some (.slice A2 n2 c2) := hcc 2 _ rfl
      have rs := (tSdS_ra hE).1
      have hn2 := rs.1
      obtain ⟨hlat, hu4, hsb⟩ := M.mix_strip HOK.out hX.out
      have HN2 := Lib.hid hn2
      have HSB := Lib.hid hsb
      have HUP := Lib.hid (fun j => M.entS_upTo HOK.out hX.out j)
      have hkn2 : (k : Int) < (n : Int) := by omega
      have n2b : n2 ≤ 4 := by omega
      clear hcc hE hn2 hu4 hsb
      go_wp2
      obtain ⟨wo, rfl⟩ : ∃ wo : World, wo = wr := ⟨_, rfl⟩
      go_loopw [6, 7] (fun i _ wr => ∃ j : Nat, i = .int .i64 j ∧ j ≤ n2 ∧ OI 2 w.heap.size wr (.slice (some ⟨w.heap.size, 0, none⟩) n n) (M.entS xs k l us j) ∧ Below w.heap.size w wr ∧ Below w.heap.size wo wr) (fun i _ _ => n2 - (intOf i).toNat)
      case atStart => exact ⟨0, rfl, by omega, own, Bw, (Below.refl _ _).mono Bw.size⟩
      case round =>
        obtain ⟨j, rfl, hj, ownj, Bj, Bo⟩ := hrel
        have g1 : wr.cell? ⟨b, o1 + k * 3 + 1, none⟩ = some (.int .i64 l) := by rw [Bo.cell hab]; exact e1
        have g2 : wr.cell? ⟨b, o1 + k * 3 + 2, none⟩ = some (.slice A2 n2 c2) := by rw [Bo.cell hab]; exact e2
        by_cases hlt2 : j < n2
        · obtain ⟨b2, o2, ⟨p0, p1⟩, rfl, hab2, X2, hdd⟩ := (rs.below Bo).at sd_len (by decide) hlt2
          have f0 : wr.cell? ⟨b2, o2 + j * 2, none⟩ = some (.int .i64 p0) := hdd 0 _ rfl
          obtain ⟨hp1, hp2, -⟩ := M.sends_at HSB.out X2.out
          obtain ⟨q, rfl⟩ : ∃ q : Nat, p0 = q := ⟨p0.toNat, by omega⟩
          have hqn : q < n := by have := HLX.out; omega
          have hqn2 : (q : Int) < (n : Int) := by omega
          obtain ⟨x, hxx, cx, fx, -, -⟩ := ownj.at' hqn
          obtain ⟨y, hyy, cy, fy, -, -⟩ := ownj.at' hlt
          have bx := M.upTo_at (HUP.out j) hxx.out
          have by_ := M.upTo_at (HUP.out j) hyy.out
          have hE2 := Lib.hid (M.entS_next (xs := xs) (k := k) (l := l) X2.out)
          have hE3 := Lib.hid (M.entSend_eq (k := k) (l := l) (g := p1) hxx.out hyy.out)
          have hwr : w.heap.size < wr.heap.size := by
            obtain ⟨g, hg, h1, h2⟩ := ownj.form' (by omega)
            injection hg with hg
            injection hg with hg
            omega
          clear hdd hp1 hp2
          go_wp2
          refine wp_region_still_tail 17 (by kernel_rfl) (by kernel_rfl) ?_
          simp only [List.take_succ_cons, List.take_zero, List.drop_succ_cons, List.drop_zero]
          iterate 15 still_step
          still_call (still_of (spec_l00Max _ _ _))
          still_step
          refine wpStill_nil ?_
          change wpList _ _ _ _ _ wr.drew
          go_wp2
          go_roundw
          case rel =>
            have h3 := OI.stored' ownj q (max x (y + l))
            have e3 : (M.entS xs k l us j).set q (max x (y + l)) = M.entS xs k l us (j + 1) := by rw [hE2.out, hE3.out]
            rw [e3] at h3
            exact ⟨j + 1, by go_num, by omega, h3, (Bj.setCell (Nat.le_refl _) _).drew, (Bo.setCell (Nat.le_refl _) _).drew⟩
          case measure => simp [intOf]; omega
        · obtain rfl : j = n2 := by omega
          have hend := M.entS_end hX.out
          rw [HN2.out] at hend
          have HE := Lib.hid hend
          clear hend
          go_wp2
          go_roundw
          case rel => exact ⟨k + 1, by go_num, by omega, by rw [← HE.out]; exact ownj, Bj⟩
          case measure => simp [intOf]; omega
    · obtain rfl : k = n := by omega
      go_wp2
      go_ret
      exact ⟨_, rfl, by rw [M.entries, HLX.out]; exact own, Bw⟩
end Go.Proofs.Ytebaffdaffcdmaa
