import Derived.Test.YtfkcoiefkjmdeaaGreatFnGainsG8
import Derived.Lib.QuietBelow
import Derived.Deep.RegionWith
import Derived.Test.YtfkcoiefkjmdeaaGreatFnGainsG2
import Derived.Test.YtfkcoiefkjmdeaaGreatFnGainsG4
import Derived.Test.YtfkcoiefkjmdeaaGreatFnGainsG3
import Derived.Deep.DeepCutAuto
import Derived.Test.YtfkcoiefkjmdeaaGreatFnGainsG5
import Derived.Deep.QuietTactic
set_option linter.unusedVariables false
set_option linter.unusedSimpArgs false
namespace Go.Proofs.YtfkcoiefkjmdeaaGreat
open Go.RowKit Go.Sort
set_option maxHeartbeats 4000000
set_option maxRecDepth 100000
set_option linter.unusedVariables false
set_option linter.unusedSimpArgs false
set_option synthInstance.maxSize 2000
set_option synthInstance.maxHeartbeats 400000
theorem impl_isWellFormed (a0 : Int) (A1 : Option Addr) (n1 c1 : Nat) (A2 : Option Addr) (n2 c2 : Nat) (A3 : Option Addr) (n3 c3 : Nat) (x1 : List (List Int)) (x2 : List Node) (x3 : List Int) (w : World) (h1 : tSS.R w w.heap.size [.slice A1 n1 c1] x1) (h2 : tNS.R w w.heap.size [.slice A2 n2 c2] x2) (h3 : tS.R w w.heap.size [.slice A3 n3 c3] x3) (hn : hP.sz ((a0, x1, x2, x3) : Patch) ≤ 100000000) :
    Calls Tryz.prog 118 #[.agg #[.int .i64 a0, .slice A1 n1 c1, .slice A2 n2 c2, .slice A3 n3 c3]] w fun e w' => e = .returned (.bool (M.formed (a0, x1, x2, x3))) ∧ Below w.heap.size w w' := by
  obtain ⟨W, hW⟩ : ∃ W, W = w.alloc (.cells #[.int .i64 a0, .slice A1 n1 c1, .slice A2 n2 c2, .slice A3 n3 c3] 36) := ⟨_, rfl⟩
  have B0 : Below w.heap.size w W := by rw [hW]; exact (Below.refl _ _).alloc (Nat.le_refl _) _
  have p0 : W.cell? ⟨w.heap.size, 0, none⟩ = some (.int .i64 a0) := by rw [hW]; simp [go_sem]
  have p1 : W.cell? ⟨w.heap.size, 1, none⟩ = some (.slice A1 n1 c1) := by rw [hW]; simp [go_sem]
  have p2 : W.cell? ⟨w.heap.size, 2, none⟩ = some (.slice A2 n2 c2) := by rw [hW]; simp [go_sem]
  have p3 : W.cell? ⟨w.heap.size, 3, none⟩ = some (.slice A3 n3 c3) := by rw [hW]; simp [go_sem]
  have lx : w.heap.size < W.heap.size := by rw [hW]; simp
  have HW := Lib.hid hW
  clear hW
  have k1 := tSS.later h1 B0
  have k2 := tNS.later h2 B0
  have k3 := tS.later h3 B0
  have r1 := sl_R.1 k1
  have r2 := sl_R.1 k2
  have hx3 := (tS_R.1 k3).ri
  have L1 := Lib.hid r1.cap.1
  have L2 := Lib.hid r2.cap.1
  have L3 := Lib.hid (tS_len h3)
  have hnn := hn
  rw [hP_sz, hS_sz] at hnn
  have hb2 : hNS.sz x2 ≤ 100000000 := by omega
  have hq1 : x1.length + hS.szL x1 = hSS.sz x1 := rfl
  have hb1 : Hid (∀ x ∈ x1, x.length ≤ 1000000000) := Lib.hid (fun x hx => by
    obtain ⟨i, hi⟩ := List.getElem?_of_mem hx
    have := hS.szL_at hi
    rw [hS_sz] at this
    omega)
  have bn1 : n1 ≤ 100000000 := by have := L1.out; omega
  have bn2 : n2 ≤ 100000000 := by have e : x2.length + hN.szL x2 = hNS.sz x2 := rfl; have := L2.out; omega
  have bn3 : n3 ≤ 100000000 := by have := L3.out; omega
  clear hnn hq1
  clear hn h1 h2 h3 k1 k2 k3
  cases g0 : M.inn a0 0 4
  · have R := Lib.hid (show M.formed (a0, x1, x2, x3) = false by rw [M.formed]; simp only [L1.out, L2.out, L3.out, g0, Bool.false_and, Bool.and_false, Bool.true_and])
    have G0 := Lib.hid g0
    clear g0
    go_enter Tryz.func118, Tryz.ntmps118
    go_wp2_with fail
    rw [← HW.out]
    go_wp2_with (first | (go_at_call 131; refine (impl_size_impl_Node _ _ _ _).mono ?_; rintro e w' ⟨rfl, rfl⟩) | (go_at_call 62; refine (impl_size_int64 _ _ _ _).mono ?_; rintro e w' ⟨rfl, rfl⟩) | (go_at_call 56; refine (impl_within _ _ _ _).mono ?_; rw [G0.out]; rintro e w' ⟨rfl, rfl⟩))
    go_ret
    exact ⟨ret_bool (by rw [R.out]), B0⟩
  have G0 := Lib.hid g0
  clear g0
  cases g1 : M.tabsOk x1
  · have R := Lib.hid (show M.formed (a0, x1, x2, x3) = false by rw [M.formed]; simp only [L1.out, L2.out, L3.out, G0.out, g1, Bool.false_and, Bool.and_false, Bool.true_and])
    have G1 := Lib.hid g1
    clear g1
    go_enter Tryz.func118, Tryz.ntmps118
    go_wp2_with fail
    rw [← HW.out]
    go_wp2_with (first | (go_at_call 131; refine (impl_size_impl_Node _ _ _ _).mono ?_; rintro e w' ⟨rfl, rfl⟩) | (go_at_call 62; refine (impl_size_int64 _ _ _ _).mono ?_; rintro e w' ⟨rfl, rfl⟩) | (go_at_call 56; refine (impl_within _ _ _ _).mono ?_; rw [G0.out]; rintro e w' ⟨rfl, rfl⟩) | (go_at_call 135; refine (impl_areTables _ _ _ _ _ r1 hb1 (by omega)).mono ?_; rw [G1.out]; rintro e w' ⟨rfl, rfl⟩))
    go_ret
    exact ⟨ret_bool (by rw [R.out]), B0⟩
  have G1 := Lib.hid g1
  clear g1
  by_cases g2 : ¬ n2 ≤ 24
  · have R := Lib.hid (show M.formed (a0, x1, x2, x3) = false by rw [M.formed]; simp only [L1.out, L2.out, L3.out, G0.out, G1.out, decide_eq_false g2, Bool.false_and, Bool.and_false, Bool.true_and])
    go_enter Tryz.func118, Tryz.ntmps118
    go_wp2_with fail
    rw [← HW.out]
    go_wp2_with (first | (go_at_call 131; refine (impl_size_impl_Node _ _ _ _).mono ?_; rintro e w' ⟨rfl, rfl⟩) | (go_at_call 62; refine (impl_size_int64 _ _ _ _).mono ?_; rintro e w' ⟨rfl, rfl⟩) | (go_at_call 56; refine (impl_within _ _ _ _).mono ?_; rw [G0.out]; rintro e w' ⟨rfl, rfl⟩) | (go_at_call 135; refine (impl_areTables _ _ _ _ _ r1 hb1 (by omega)).mono ?_; rw [G1.out]; rintro e w' ⟨rfl, rfl⟩))
    go_ret
    exact ⟨ret_bool (by rw [R.out]), B0⟩
  replace g2 : n2 ≤ 24 := Decidable.not_not.1 g2
  by_cases g3 : ¬ n3 ≤ 4
  · have R := Lib.hid (show M.formed (a0, x1, x2, x3) = false by rw [M.formed]; simp only [L1.out, L2.out, L3.out, G0.out, G1.out, decide_eq_true g2, decide_eq_false g3, Bool.false_and, Bool.and_false, Bool.true_and])
    go_enter Tryz.func118, Tryz.ntmps118
    go_wp2_with fail
    rw [← HW.out]
    go_wp2_with (first | (go_at_call 131; refine (impl_size_impl_Node _ _ _ _).mono ?_; rintro e w' ⟨rfl, rfl⟩) | (go_at_call 62; refine (impl_size_int64 _ _ _ _).mono ?_; rintro e w' ⟨rfl, rfl⟩) | (go_at_call 56; refine (impl_within _ _ _ _).mono ?_; rw [G0.out]; rintro e w' ⟨rfl, rfl⟩) | (go_at_call 135; refine (impl_areTables _ _ _ _ _ r1 hb1 (by omega)).mono ?_; rw [G1.out]; rintro e w' ⟨rfl, rfl⟩))
    go_ret
    exact ⟨ret_bool (by rw [R.out]), B0⟩
  replace g3 : n3 ≤ 4 := Decidable.not_not.1 g3
  cases g4 : x3.all (M.idx n2)
  · have R := Lib.hid (show M.formed (a0, x1, x2, x3) = false by rw [M.formed]; simp only [L1.out, L2.out, L3.out, G0.out, G1.out, decide_eq_true g2, decide_eq_true g3, g4, Bool.false_and, Bool.and_false, Bool.true_and])
    have G4 := Lib.hid g4
    clear g4
    go_enter Tryz.func118, Tryz.ntmps118
    go_wp2_with fail
    rw [← HW.out]
    go_wp2_with (first | (go_at_call 131; refine (impl_size_impl_Node _ _ _ _).mono ?_; rintro e w' ⟨rfl, rfl⟩) | (go_at_call 62; refine (impl_size_int64 _ _ _ _).mono ?_; rintro e w' ⟨rfl, rfl⟩) | (go_at_call 56; refine (impl_within _ _ _ _).mono ?_; rw [G0.out]; rintro e w' ⟨rfl, rfl⟩) | (go_at_call 135; refine (impl_areTables _ _ _ _ _ r1 hb1 (by omega)).mono ?_; rw [G1.out]; rintro e w' ⟨rfl, rfl⟩) | (go_at_call 47; refine (impl_areIndices _ _ _ _ _ _ hx3 (by omega) (by omega)).mono ?_; rw [G4.out]; rintro e w' ⟨rfl, rfl⟩))
    go_ret
    exact ⟨ret_bool (by rw [R.out]), B0⟩
  have G4 := Lib.hid g4
  clear g4
  have HF := Lib.hid (show M.formed (a0, x1, x2, x3) = x2.all (M.nodeF n1 n2 a0) by rw [M.formed]; simp only [L1.out, L2.out, L3.out, G0.out, G1.out, decide_eq_true g2, decide_eq_true g3, G4.out, Bool.true_and])
  go_enter Tryz.func118, Tryz.ntmps118
  go_wp2_with fail
  rw [← HW.out]
  go_wp2_with (first | (go_at_call 131; refine (impl_size_impl_Node _ _ _ _).mono ?_; rintro e w' ⟨rfl, rfl⟩) | (go_at_call 62; refine (impl_size_int64 _ _ _ _).mono ?_; rintro e w' ⟨rfl, rfl⟩) | (go_at_call 56; refine (impl_within _ _ _ _).mono ?_; rw [G0.out]; rintro e w' ⟨rfl, rfl⟩) | (go_at_call 135; refine (impl_areTables _ _ _ _ _ r1 hb1 (by omega)).mono ?_; rw [G1.out]; rintro e w' ⟨rfl, rfl⟩) | (go_at_call 47; refine (impl_areIndices _ _ _ _ _ _ hx3 (by omega) (by omega)).mono ?_; rw [G4.out]; rintro e w' ⟨rfl, rfl⟩))
  go_loopw [39] (fun i wr => ∃ k : Nat, i = .int .i64 k ∧ k ≤ n2 ∧ Hid (x2.all (M.nodeF n1 n2 a0) = (x2.drop k).all (M.nodeF n1 n2 a0)) ∧ Below W.heap.size W wr) (fun i _ => n2 - (intOf i).toNat)
  case atStart => exact ⟨0, rfl, by omega, Lib.hid (by simp), Below.refl _ _⟩
  case round =>
    obtain ⟨k, rfl, hk, H, Bw⟩ := hrel
    have BW := bel_trans B0 Bw
    by_cases hlt : k < n2
    · obtain ⟨bb, o1, b0, b1, b2, A5, c5, y3, rfl, hbb, X, e0, e1, e2, e3, hr3, h3b⟩ := node_cell (r2.below Bw) hb2 hlt
      have hd := Lib.hid (M.drop_at X.out)
      obtain ⟨U, hU⟩ : ∃ U, U = wr.alloc (.cells #[.int .i64 b0, .int .i64 b1, .int .i64 b2, .slice A5 y3.length c5] 122) := ⟨_, rfl⟩
      have GU : Below wr.heap.size wr U := by rw [hU]; exact (Below.refl _ _).alloc (Nat.le_refl _) _
      have u0 : U.cell? ⟨wr.heap.size, 0, none⟩ = some (.int .i64 b0) := by rw [hU, cell_of_row _ wr.heap.size 0 _ 122 (0, 0) (heap_alloc_new wr _)]; rfl
      have u1 : U.cell? ⟨wr.heap.size, 1, none⟩ = some (.int .i64 b1) := by rw [hU, cell_of_row _ wr.heap.size 1 _ 122 (0, 0) (heap_alloc_new wr _)]; rfl
      have u2 : U.cell? ⟨wr.heap.size, 2, none⟩ = some (.int .i64 b2) := by rw [hU, cell_of_row _ wr.heap.size 2 _ 122 (0, 0) (heap_alloc_new wr _)]; rfl
      have u3 : U.cell? ⟨wr.heap.size, 3, none⟩ = some (.slice A5 y3.length c5) := by rw [hU, cell_of_row _ wr.heap.size 3 _ 122 (0, 0) (heap_alloc_new wr _)]; rfl
      have BU := bel_trans Bw GU
      have q0 : U.cell? ⟨w.heap.size, 0, none⟩ = some (.int .i64 a0) := by rw [BU.cell lx]; exact p0
      have q1 : U.cell? ⟨w.heap.size, 1, none⟩ = some (.slice A1 n1 c1) := by rw [BU.cell lx]; exact p1
      have q2 : U.cell? ⟨w.heap.size, 2, none⟩ = some (.slice (some ⟨bb, o1, none⟩) n2 c2) := by rw [BU.cell lx]; exact p2
      have HU := Lib.hid hU
      clear hU
      have hry := (hr3.more Bw.size).later GU
      have hk0 : (0 : Int) ≤ (k : Int) := by omega
      have hkn : (k : Int) < (n2 : Int) := by omega
      have uu0 := cell_regrown u0
      have uu1 := cell_regrown u1
      have uu2 := cell_regrown u2
      have uu3 := cell_regrown u3
      have qq0 := cell_regrown q0
      have qq1 := cell_regrown q1
      have qq2 := cell_regrown q2
      have cS : ∀ d os, Calls Tryz.prog 70 #[.slice A1 n1 c1] (grow (redrawn U d) os) fun e w'' => e = .returned (.int .i64 n1) ∧ ∃ p : Regrown, w'' = grow (redrawn U p.d) p.os := fun d os => Calls.regrown_of (to_bel (impl_size_int64S _ _ _ _))
      have cN : ∀ d os, Calls Tryz.prog 136 #[.agg #[.int .i64 b0, .int .i64 b1, .int .i64 b2, .slice A5 y3.length c5], .int .i64 n1] (grow (redrawn U d) os) fun e w'' => e = .returned (.bool (M.nodeOk (b0, b1, b2, y3) n1)) ∧ ∃ p : Regrown, w'' = grow (redrawn U p.d) p.os := fun d os => Calls.regrown_of (impl_isNode _ _ _ _ _ _ _ _ _ (hry.later (below_regrown U d os)) (by omega))
      have cI : ∀ d os, Calls Tryz.prog 47 #[.slice A5 y3.length c5, .int .i64 n2] (grow (redrawn U d) os) fun e w'' => e = .returned (.bool (y3.all (M.idx n2))) ∧ ∃ p : Regrown, w'' = grow (redrawn U p.d) p.os := fun d os => Calls.regrown_of (to_bel (impl_areIndices _ _ _ _ _ _ (hry.later (below_regrown U d os)) (by omega) (by omega)))
      have fin := fun d os => bel_trans BW (bel_trans GU (below_regrown U d os))
      clear u0 u1 u2 u3 q0 q1 q2
      cases hok : M.nodeOk (b0, b1, b2, y3) n1
      · have R := Lib.hid (show M.formed (a0, x1, x2, x3) = false by rw [HF.out, H.out, hd.out, List.all_cons, M.nodeF]; simp only [hok, Bool.false_and, Bool.and_false, Bool.true_and, Bool.not_true, Bool.not_false, Bool.and_self])
        rw [hok] at cN
        clear hok
        go_wp2_with fail
        rw [← HU.out]
        clear e0 e1 e2 e3
        (refine wp_region_quiet_below (by kernel_rfl) (by kernel_rfl) ?_; (repeat (go_big_quiet_step ((first | exact cS _ _ | exact cN _ _ | exact cI _ _)))); refine wpQuiet_nil ?_; intro _ hw'; obtain ⟨⟨dq, osq⟩, hw''⟩ := hw'; subst hw'')
        go_wp2
        go_ret
        exact ⟨ret_bool (by rw [R.out]), fin dq osq⟩
      · rw [hok] at cN
        have HK := Lib.hid hok
        clear hok
        cases hid : y3.all (M.idx n2)
        · have R := Lib.hid (show M.formed (a0, x1, x2, x3) = false by rw [HF.out, H.out, hd.out, List.all_cons, M.nodeF]; simp only [HK.out, hid, Bool.false_and, Bool.and_false, Bool.true_and, Bool.not_true, Bool.not_false, Bool.and_self])
          rw [hid] at cI
          clear hid
          go_wp2_with fail
          rw [← HU.out]
          clear e0 e1 e2 e3
          (refine wp_region_quiet_below (by kernel_rfl) (by kernel_rfl) ?_; (repeat (go_big_quiet_step ((first | exact cS _ _ | exact cN _ _ | exact cI _ _)))); refine wpQuiet_nil ?_; intro _ hw'; obtain ⟨⟨dq, osq⟩, hw''⟩ := hw'; subst hw'')
          go_wp2
          go_ret
          exact ⟨ret_bool (by rw [R.out]), fin dq osq⟩
        · rw [hid] at cI
          have HI := Lib.hid hid
          clear hid
          by_cases hb0 : b0 = 1
          · by_cases hin : a0 ≤ b1
            · have R := Lib.hid (show M.formed (a0, x1, x2, x3) = false by rw [HF.out, H.out, hd.out, List.all_cons, M.nodeF]; simp only [HK.out, HI.out, decide_eq_true hb0, decide_eq_true hin, Bool.false_and, Bool.and_false, Bool.true_and, Bool.not_true, Bool.not_false, Bool.and_self])
              subst hb0
              go_wp2_with fail
              rw [← HU.out]
              clear e0 e1 e2 e3
              (refine wp_region_quiet_below (by kernel_rfl) (by kernel_rfl) ?_; (repeat (go_big_quiet_step ((first | exact cS _ _ | exact cN _ _ | exact cI _ _)))); refine wpQuiet_nil ?_; intro _ hw'; obtain ⟨⟨dq, osq⟩, hw''⟩ := hw'; subst hw'')
              go_wp2
              go_ret
              exact ⟨ret_bool (by rw [R.out]), fin dq osq⟩
            · have R := Lib.hid (show x2.all (M.nodeF n1 n2 a0) = (x2.drop (k + 1)).all (M.nodeF n1 n2 a0) by rw [H.out, hd.out, List.all_cons, M.nodeF]; simp only [HK.out, HI.out, decide_eq_true hb0, decide_eq_false hin, Bool.and_false, Bool.not_false, Bool.and_self, Bool.true_and])
              have hna : ¬ b1 ≥ a0 := hin
              subst hb0
              go_wp2_with fail
              rw [← HU.out]
              clear e0 e1 e2 e3
              (refine wp_region_quiet_below (by kernel_rfl) (by kernel_rfl) ?_; (repeat (go_big_quiet_step ((first | exact cS _ _ | exact cN _ _ | exact cI _ _)))); refine wpQuiet_nil ?_; intro _ hw'; obtain ⟨⟨dq, osq⟩, hw''⟩ := hw'; subst hw'')
              go_wp2
              go_roundw
              case rel => exact ⟨k + 1, by go_num, by omega, R, bel_trans Bw (bel_trans GU (below_regrown U dq osq))⟩
              case measure => simp [intOf]; omega
          · have R := Lib.hid (show x2.all (M.nodeF n1 n2 a0) = (x2.drop (k + 1)).all (M.nodeF n1 n2 a0) by rw [H.out, hd.out, List.all_cons, M.nodeF]; simp only [HK.out, HI.out, decide_eq_false hb0, Bool.false_and, Bool.not_false, Bool.and_self, Bool.true_and])
            have gb0 : (b0 == 1) = false := by simpa using hb0
            go_wp2_with fail
            rw [← HU.out]
            clear e0 e1 e2 e3
            (refine wp_region_quiet_below (by kernel_rfl) (by kernel_rfl) ?_; (repeat (go_big_quiet_step ((first | exact cS _ _ | exact cN _ _ | exact cI _ _)))); refine wpQuiet_nil ?_; intro _ hw'; obtain ⟨⟨dq, osq⟩, hw''⟩ := hw'; subst hw'')
            go_wp2
            go_roundw
            case rel => exact ⟨k + 1, by go_num, by omega, R, bel_trans Bw (bel_trans GU (below_regrown U dq osq))⟩
            case measure => simp [intOf]; omega
    · have R := Lib.hid (show M.formed (a0, x1, x2, x3) = true by rw [HF.out, H.out, List.drop_eq_nil_of_le (by rw [L2.out]; omega)]; rfl)
      go_wp2
      go_ret
      exact ⟨ret_bool (by rw [R.out]), BW⟩
theorem impl_isPatch (a0 : Int) (A1 : Option Addr) (n1 c1 : Nat) (A2 : Option Addr) (n2 c2 : Nat) (A3 : Option Addr) (n3 c3 : Nat) (x1 : List (List Int)) (x2 : List Node) (x3 : List Int) (w : World) (h1 : tSS.R w w.heap.size [.slice A1 n1 c1] x1) (h2 : tNS.R w w.heap.size [.slice A2 n2 c2] x2) (h3 : tS.R w w.heap.size [.slice A3 n3 c3] x3) (hn : hP.sz ((a0, x1, x2, x3) : Patch) ≤ 100000000) :
    Calls Tryz.prog 101 #[.agg #[.int .i64 a0, .slice A1 n1 c1, .slice A2 n2 c2, .slice A3 n3 c3]] w fun e w' => e = .returned (.bool (M.patchOk (a0, x1, x2, x3))) ∧ Below w.heap.size w w' := by
  obtain ⟨W, hW⟩ : ∃ W, W = w.alloc (.cells #[.int .i64 a0, .slice A1 n1 c1, .slice A2 n2 c2, .slice A3 n3 c3] 36) := ⟨_, rfl⟩
  have B0 : Below w.heap.size w W := by rw [hW]; exact (Below.refl _ _).alloc (Nat.le_refl _) _
  have p0 : W.cell? ⟨w.heap.size, 0, none⟩ = some (.int .i64 a0) := by rw [hW]; simp [go_sem]
  have p1 : W.cell? ⟨w.heap.size, 1, none⟩ = some (.slice A1 n1 c1) := by rw [hW]; simp [go_sem]
  have p2 : W.cell? ⟨w.heap.size, 2, none⟩ = some (.slice A2 n2 c2) := by rw [hW]; simp [go_sem]
  have p3 : W.cell? ⟨w.heap.size, 3, none⟩ = some (.slice A3 n3 c3) := by rw [hW]; simp [go_sem]
  have lx : w.heap.size < W.heap.size := by rw [hW]; simp
  have HW := Lib.hid hW
  clear hW
  have k1 := tSS.later h1 B0
  have k2 := tNS.later h2 B0
  have k3 := tS.later h3 B0
  have r1 := sl_R.1 k1
  have r2 := sl_R.1 k2
  have hx3 := (tS_R.1 k3).ri
  have L1 := Lib.hid r1.cap.1
  have L2 := Lib.hid r2.cap.1
  have L3 := Lib.hid (tS_len h3)
  have hnn := hn
  rw [hP_sz, hS_sz] at hnn
  have hb2 : hNS.sz x2 ≤ 100000000 := by omega
  have hq1 : x1.length + hS.szL x1 = hSS.sz x1 := rfl
  have hb1 : Hid (∀ x ∈ x1, x.length ≤ 1000000000) := Lib.hid (fun x hx => by
    obtain ⟨i, hi⟩ := List.getElem?_of_mem hx
    have := hS.szL_at hi
    rw [hS_sz] at this
    omega)
  have bn1 : n1 ≤ 100000000 := by have := L1.out; omega
  have bn2 : n2 ≤ 100000000 := by have e : x2.length + hN.szL x2 = hNS.sz x2 := rfl; have := L2.out; omega
  have bn3 : n3 ≤ 100000000 := by have := L3.out; omega
  clear hnn hq1
  have D1 : Below W.heap.size W W.drew := below_drewN (Below.refl _ _) 1
  have hsd : W.drew.heap.size = W.heap.size := rfl
  cases g0 : M.formed (a0, x1, x2, x3)
  · have R := Lib.hid (show M.patchOk (a0, x1, x2, x3) = false by rw [M.patchOk, g0]; rfl)
    have cF : ∀ d os, Calls Tryz.prog 118 #[.agg #[.int .i64 a0, .slice A1 n1 c1, .slice A2 n2 c2, .slice A3 n3 c3]] (grow (redrawn W d) os) fun e w'' => e = .returned (.bool false) ∧ ∃ p : Regrown, w'' = grow (redrawn W p.d) p.os := fun d os => Calls.regrown_of (by rw [← g0]; exact impl_isWellFormed _ _ _ _ _ _ _ _ _ _ _ _ _ _ (tSS.later k1 (below_regrown W d os)) (tNS.later k2 (below_regrown W d os)) (tS.later k3 (below_regrown W d os)) hn)
    have qq0 := cell_regrown p0
    have qq1 := cell_regrown p1
    have qq2 := cell_regrown p2
    have qq3 := cell_regrown p3
    clear p0 p1 p2 p3 g0 h1 h2 h3
    go_enter Tryz.func101, Tryz.ntmps101
    go_wp2_with fail
    rw [← HW.out]
    (refine wp_region_quiet_below (by kernel_rfl) (by kernel_rfl) ?_; (repeat (go_big_quiet_step (exact cF _ _))); refine wpQuiet_nil ?_; intro _ hw'; obtain ⟨⟨dq, osq⟩, hw''⟩ := hw'; subst hw'')
    go_wp2
    go_ret
    exact ⟨ret_bool (by rw [R.out]), bel_trans B0 (below_regrown W dq osq)⟩
  · have G0 := Lib.hid g0
    have R := Lib.hid (show M.patchOk (a0, x1, x2, x3) = decide ((M.ord x2).length = n2) by rw [M.patchOk, g0, L2.out]; rfl)
    have HI := Lib.hid (show ∀ x ∈ x2, ∀ f ∈ x.2.2.2, M.idx n2 f = true by
      rw [M.formed] at g0
      simp only [Bool.and_eq_true, L2.out] at g0
      intro x hx f hf
      have h4 := List.all_eq_true.1 g0.2 x hx
      rw [M.nodeF] at h4
      simp only [Bool.and_eq_true] at h4
      exact List.all_eq_true.1 h4.1.2 f hf)
    clear g0 h1 h2 h3
    generalize hO : M.ord x2 = O at R
    have HO := Lib.hid hO
    clear hO
    have Dn : ∀ m, Below W.heap.size W (W.drewN m) := fun m => below_drewN (Below.refl _ _) m
    go_enter Tryz.func101, Tryz.ntmps101
    go_wp2_with fail
    rw [← HW.out]
    go_region_with (first
      | (go_at_call 118; refine (impl_isWellFormed _ _ _ _ _ _ _ _ _ _ _ _ _ _ (tSS.later k1 D1) (tNS.later k2 D1) (tS.later k3 D1) hn).mono ?_; rw [G0.out]; rintro e w2 ⟨rfl, bel2⟩; have G2 := bel_trans D1 bel2; have s0 : w2.cell? ⟨w.heap.size, 0, none⟩ = some (.int .i64 a0) := (by rw [G2.cell lx]; exact p0); have s1 : w2.cell? ⟨w.heap.size, 1, none⟩ = some (.slice A1 n1 c1) := (by rw [G2.cell lx]; exact p1); have s2 : w2.cell? ⟨w.heap.size, 2, none⟩ = some (.slice A2 n2 c2) := (by rw [G2.cell lx]; exact p2); have s3 : w2.cell? ⟨w.heap.size, 3, none⟩ = some (.slice A3 n3 c3) := (by rw [G2.cell lx]; exact p3))
      | (go_at_call 119; refine (impl_order _ _ _ _ _ _ _ _ _ _ _ _ (r2.later G2) hb2 HI).mono ?_; rw [HO.out]; rintro e w3 ⟨v, rfl, own, bel3⟩; obtain ⟨A9, c9, rfl, -⟩ := own.shape; have G3 := bel_trans G2 bel3; have s6 : w3.cell? ⟨w.heap.size, 2, none⟩ = some (.slice A2 n2 c2) := (by rw [G3.cell lx]; exact p2)))
    all_goals
      go_wp2
      go_ret
      exact ⟨ret_bool (by rw [R.out, Bool.eq_iff_iff]; simp; try omega), bel_trans B0 G3⟩
theorem impl_isEmpty (a0 : Int) (A1 : Option Addr) (n1 c1 : Nat) (A2 : Option Addr) (n2 c2 : Nat) (A3 : Option Addr) (n3 c3 : Nat) (x1 : List (List Int)) (x2 : List Node) (x3 : List Int) (w : World) (h1 : tSS.R w w.heap.size [.slice A1 n1 c1] x1) (h2 : tNS.R w w.heap.size [.slice A2 n2 c2] x2) (h3 : tS.R w w.heap.size [.slice A3 n3 c3] x3) (hn : hP.sz ((a0, x1, x2, x3) : Patch) ≤ 100000000) :
    Calls Tryz.prog 93 #[.agg #[.int .i64 a0, .slice A1 n1 c1, .slice A2 n2 c2, .slice A3 n3 c3]] w fun e w' => e = .returned (.bool (decide (((a0, x1, x2, x3) : Patch) = M.p0))) ∧ Below w.heap.size w w' := by
  obtain ⟨W, hW⟩ : ∃ W, W = w.alloc (.cells #[.int .i64 a0, .slice A1 n1 c1, .slice A2 n2 c2, .slice A3 n3 c3] 36) := ⟨_, rfl⟩
  have B0 : Below w.heap.size w W := by rw [hW]; exact (Below.refl _ _).alloc (Nat.le_refl _) _
  have p0 : W.cell? ⟨w.heap.size, 0, none⟩ = some (.int .i64 a0) := by rw [hW]; simp [go_sem]
  have p1 : W.cell? ⟨w.heap.size, 1, none⟩ = some (.slice A1 n1 c1) := by rw [hW]; simp [go_sem]
  have p2 : W.cell? ⟨w.heap.size, 2, none⟩ = some (.slice A2 n2 c2) := by rw [hW]; simp [go_sem]
  have p3 : W.cell? ⟨w.heap.size, 3, none⟩ = some (.slice A3 n3 c3) := by rw [hW]; simp [go_sem]
  have lx : w.heap.size < W.heap.size := by rw [hW]; simp
  have HW := Lib.hid hW
  clear hW
  have k1 := tSS.later h1 B0
  have k2 := tNS.later h2 B0
  have k3 := tS.later h3 B0
  have r1 := sl_R.1 k1
  have r2 := sl_R.1 k2
  have hx3 := (tS_R.1 k3).ri
  have L1 := Lib.hid r1.cap.1
  have L2 := Lib.hid r2.cap.1
  have L3 := Lib.hid (tS_len h3)
  have hnn := hn
  rw [hP_sz, hS_sz] at hnn
  have hb2 : hNS.sz x2 ≤ 100000000 := by omega
  have hq1 : x1.length + hS.szL x1 = hSS.sz x1 := rfl
  have hb1 : Hid (∀ x ∈ x1, x.length ≤ 1000000000) := Lib.hid (fun x hx => by
    obtain ⟨i, hi⟩ := List.getElem?_of_mem hx
    have := hS.szL_at hi
    rw [hS_sz] at this
    omega)
  have bn1 : n1 ≤ 100000000 := by have := L1.out; omega
  have bn2 : n2 ≤ 100000000 := by have e : x2.length + hN.szL x2 = hNS.sz x2 := rfl; have := L2.out; omega
  have bn3 : n3 ≤ 100000000 := by have := L3.out; omega
  clear hnn hq1
  have z1 : tSS.R W W.heap.size [.slice none 0 0] ([] : List (List Int)) := ⟨_, rfl, RS.nil _ _ _⟩
  have z2 : tNS.R W W.heap.size [.slice none 0 0] ([] : List Node) := ⟨_, rfl, RS.nil _ _ _⟩
  have z3 : tS.R W W.heap.size [.slice none 0 0] ([] : List Int) := ⟨_, rfl, RS.nil _ _ _⟩
  have hz : hP.sz ((0, [], [], []) : Patch) ≤ 100000000 := by decide
  go_enter Tryz.func93, Tryz.ntmps93
  go_wp2_with fail
  rw [← HW.out]
  refine (impl_SamePatch _ _ _ _ _ _ _ _ _ _ _ _ _ _ _ _ _ _ _ _ _ _ _ _ _ _ _ k1 z1 k2 z2 k3 z3 hn hz).mono ?_
  rintro e w2 ⟨rfl, bel2⟩
  go_wp2
  go_ret
  exact ⟨ret_bool (by rw [Bool.eq_iff_iff, M.p0]; simp), bel_trans B0 bel2⟩
theorem impl_isEffect (a0 : Int) (A1 : Option Addr) (n1 c1 : Nat) (A2 : Option Addr) (n2 c2 : Nat) (A3 : Option Addr) (n3 c3 : Nat) (x1 : List (List Int)) (x2 : List Node) (x3 : List Int) (w : World) (h1 : tSS.R w w.heap.size [.slice A1 n1 c1] x1) (h2 : tNS.R w w.heap.size [.slice A2 n2 c2] x2) (h3 : tS.R w w.heap.size [.slice A3 n3 c3] x3) (hn : hP.sz ((a0, x1, x2, x3) : Patch) ≤ 100000000) :
    Calls Tryz.prog 71 #[.agg #[.int .i64 a0, .slice A1 n1 c1, .slice A2 n2 c2, .slice A3 n3 c3]] w fun e w' => e = .returned (.bool (M.effOk (a0, x1, x2, x3))) ∧ Below w.heap.size w w' := by
  obtain ⟨W, hW⟩ : ∃ W, W = w.alloc (.cells #[.int .i64 a0, .slice A1 n1 c1, .slice A2 n2 c2, .slice A3 n3 c3] 36) := ⟨_, rfl⟩
  have B0 : Below w.heap.size w W := by rw [hW]; exact (Below.refl _ _).alloc (Nat.le_refl _) _
  have p0 : W.cell? ⟨w.heap.size, 0, none⟩ = some (.int .i64 a0) := by rw [hW]; simp [go_sem]
  have p1 : W.cell? ⟨w.heap.size, 1, none⟩ = some (.slice A1 n1 c1) := by rw [hW]; simp [go_sem]
  have p2 : W.cell? ⟨w.heap.size, 2, none⟩ = some (.slice A2 n2 c2) := by rw [hW]; simp [go_sem]
  have p3 : W.cell? ⟨w.heap.size, 3, none⟩ = some (.slice A3 n3 c3) := by rw [hW]; simp [go_sem]
  have lx : w.heap.size < W.heap.size := by rw [hW]; simp
  have HW := Lib.hid hW
  clear hW
  have k1 := tSS.later h1 B0
  have k2 := tNS.later h2 B0
  have k3 := tS.later h3 B0
  have r1 := sl_R.1 k1
  have r2 := sl_R.1 k2
  have hx3 := (tS_R.1 k3).ri
  have L1 := Lib.hid r1.cap.1
  have L2 := Lib.hid r2.cap.1
  have L3 := Lib.hid (tS_len h3)
  have hnn := hn
  rw [hP_sz, hS_sz] at hnn
  have hb2 : hNS.sz x2 ≤ 100000000 := by omega
  have hq1 : x1.length + hS.szL x1 = hSS.sz x1 := rfl
  have hb1 : Hid (∀ x ∈ x1, x.length ≤ 1000000000) := Lib.hid (fun x hx => by
    obtain ⟨i, hi⟩ := List.getElem?_of_mem hx
    have := hS.szL_at hi
    rw [hS_sz] at this
    omega)
  have bn1 : n1 ≤ 100000000 := by have := L1.out; omega
  have bn2 : n2 ≤ 100000000 := by have e : x2.length + hN.szL x2 = hNS.sz x2 := rfl; have := L2.out; omega
  have bn3 : n3 ≤ 100000000 := by have := L3.out; omega
  clear hnn hq1
  cases g0 : decide (((a0, x1, x2, x3) : Patch) = M.p0)
  · have G0 := Lib.hid g0
    cases g1 : M.patchOk (a0, x1, x2, x3)
    · have G1 := Lib.hid g1
      have R := Lib.hid (show M.effOk (a0, x1, x2, x3) = false by rw [M.effOk, g0, g1]; rfl)
      clear g0 g1
      go_enter Tryz.func71, Tryz.ntmps71
      go_wp2_with fail
      rw [← HW.out]
      go_wp2_with (first
        | (go_at_call 93; refine (impl_isEmpty _ _ _ _ _ _ _ _ _ _ _ _ _ _ k1 k2 k3 hn).mono ?_; rw [G0.out]; rintro e w2 ⟨rfl, bel2⟩; have s0 : w2.cell? ⟨w.heap.size, 0, none⟩ = some (.int .i64 a0) := (by rw [bel2.cell lx]; exact p0); have s1 : w2.cell? ⟨w.heap.size, 1, none⟩ = some (.slice A1 n1 c1) := (by rw [bel2.cell lx]; exact p1); have s2 : w2.cell? ⟨w.heap.size, 2, none⟩ = some (.slice A2 n2 c2) := (by rw [bel2.cell lx]; exact p2); have s3 : w2.cell? ⟨w.heap.size, 3, none⟩ = some (.slice A3 n3 c3) := (by rw [bel2.cell lx]; exact p3))
        | (go_at_call 101; refine (impl_isPatch _ _ _ _ _ _ _ _ _ _ _ _ _ _ (tSS.later k1 bel2) (tNS.later k2 bel2) (tS.later k3 bel2) hn).mono ?_; rw [G1.out]; rintro e w3 ⟨rfl, bel3⟩; have G3 := bel_trans bel2 bel3))
      go_ret
      exact ⟨ret_bool (by rw [R.out]), bel_trans B0 G3⟩
    · have G1 := Lib.hid g1
      have R := Lib.hid (show M.effOk (a0, x1, x2, x3) = (decide (a0 = 1) && decide (n3 = 1)) by rw [M.effOk, g0, g1]; simp only [L3.out, Bool.false_or, Bool.true_and])
      clear g0 g1
      have both : ∀ (a : Int) (m : Nat), Hid (M.effOk (a0, x1, x2, x3) = (decide (a0 = 1) && decide (n3 = 1))) := fun _ _ => R
      by_cases ha : a0 = 1
      · subst ha
        by_cases hm : n3 = 1
        · subst hm
          go_enter Tryz.func71, Tryz.ntmps71
          go_wp2_with fail
          rw [← HW.out]
          go_wp2_with (first
            | (go_at_call 93; refine (impl_isEmpty _ _ _ _ _ _ _ _ _ _ _ _ _ _ k1 k2 k3 hn).mono ?_; rw [G0.out]; rintro e w2 ⟨rfl, bel2⟩; have s0 : w2.cell? ⟨w.heap.size, 0, none⟩ = some (.int .i64 1) := (by rw [bel2.cell lx]; exact p0); have s1 : w2.cell? ⟨w.heap.size, 1, none⟩ = some (.slice A1 n1 c1) := (by rw [bel2.cell lx]; exact p1); have s2 : w2.cell? ⟨w.heap.size, 2, none⟩ = some (.slice A2 n2 c2) := (by rw [bel2.cell lx]; exact p2); have s3 : w2.cell? ⟨w.heap.size, 3, none⟩ = some (.slice A3 1 c3) := (by rw [bel2.cell lx]; exact p3))
            | (go_at_call 101; refine (impl_isPatch _ _ _ _ _ _ _ _ _ _ _ _ _ _ (tSS.later k1 bel2) (tNS.later k2 bel2) (tS.later k3 bel2) hn).mono ?_; rw [G1.out]; rintro e w3 ⟨rfl, bel3⟩; have G3 := bel_trans bel2 bel3; have t0 : w3.cell? ⟨w.heap.size, 0, none⟩ = some (.int .i64 1) := (by rw [G3.cell lx]; exact p0); have t3 : w3.cell? ⟨w.heap.size, 3, none⟩ = some (.slice A3 1 c3) := (by rw [G3.cell lx]; exact p3)))
          go_ret
          exact ⟨ret_bool (by rw [R.out]; rfl), bel_trans B0 G3⟩
        · have gm : ((n3 : Int) == 1) = false := by simp; omega
          go_enter Tryz.func71, Tryz.ntmps71
          go_wp2_with fail
          rw [← HW.out]
          go_wp2_with (first
            | (go_at_call 93; refine (impl_isEmpty _ _ _ _ _ _ _ _ _ _ _ _ _ _ k1 k2 k3 hn).mono ?_; rw [G0.out]; rintro e w2 ⟨rfl, bel2⟩; have s0 : w2.cell? ⟨w.heap.size, 0, none⟩ = some (.int .i64 1) := (by rw [bel2.cell lx]; exact p0); have s1 : w2.cell? ⟨w.heap.size, 1, none⟩ = some (.slice A1 n1 c1) := (by rw [bel2.cell lx]; exact p1); have s2 : w2.cell? ⟨w.heap.size, 2, none⟩ = some (.slice A2 n2 c2) := (by rw [bel2.cell lx]; exact p2); have s3 : w2.cell? ⟨w.heap.size, 3, none⟩ = some (.slice A3 n3 c3) := (by rw [bel2.cell lx]; exact p3))
            | (go_at_call 101; refine (impl_isPatch _ _ _ _ _ _ _ _ _ _ _ _ _ _ (tSS.later k1 bel2) (tNS.later k2 bel2) (tS.later k3 bel2) hn).mono ?_; rw [G1.out]; rintro e w3 ⟨rfl, bel3⟩; have G3 := bel_trans bel2 bel3; have t0 : w3.cell? ⟨w.heap.size, 0, none⟩ = some (.int .i64 1) := (by rw [G3.cell lx]; exact p0); have t3 : w3.cell? ⟨w.heap.size, 3, none⟩ = some (.slice A3 n3 c3) := (by rw [G3.cell lx]; exact p3)))
          go_ret
          exact ⟨ret_bool (by rw [R.out]; simp [hm]), bel_trans B0 G3⟩
      · have ga : (a0 == 1) = false := by simpa using ha
        by_cases hm : n3 = 1
        · subst hm
          go_enter Tryz.func71, Tryz.ntmps71
          go_wp2_with fail
          rw [← HW.out]
          go_wp2_with (first
            | (go_at_call 93; refine (impl_isEmpty _ _ _ _ _ _ _ _ _ _ _ _ _ _ k1 k2 k3 hn).mono ?_; rw [G0.out]; rintro e w2 ⟨rfl, bel2⟩; have s0 : w2.cell? ⟨w.heap.size, 0, none⟩ = some (.int .i64 a0) := (by rw [bel2.cell lx]; exact p0); have s1 : w2.cell? ⟨w.heap.size, 1, none⟩ = some (.slice A1 n1 c1) := (by rw [bel2.cell lx]; exact p1); have s2 : w2.cell? ⟨w.heap.size, 2, none⟩ = some (.slice A2 n2 c2) := (by rw [bel2.cell lx]; exact p2); have s3 : w2.cell? ⟨w.heap.size, 3, none⟩ = some (.slice A3 1 c3) := (by rw [bel2.cell lx]; exact p3))
            | (go_at_call 101; refine (impl_isPatch _ _ _ _ _ _ _ _ _ _ _ _ _ _ (tSS.later k1 bel2) (tNS.later k2 bel2) (tS.later k3 bel2) hn).mono ?_; rw [G1.out]; rintro e w3 ⟨rfl, bel3⟩; have G3 := bel_trans bel2 bel3; have t0 : w3.cell? ⟨w.heap.size, 0, none⟩ = some (.int .i64 a0) := (by rw [G3.cell lx]; exact p0); have t3 : w3.cell? ⟨w.heap.size, 3, none⟩ = some (.slice A3 1 c3) := (by rw [G3.cell lx]; exact p3)))
          go_ret
          exact ⟨ret_bool (by rw [R.out]; simp [ha]), bel_trans B0 G3⟩
        · have gm : ((n3 : Int) == 1) = false := by simp; omega
          go_enter Tryz.func71, Tryz.ntmps71
          go_wp2_with fail
          rw [← HW.out]
          go_wp2_with (first
            | (go_at_call 93; refine (impl_isEmpty _ _ _ _ _ _ _ _ _ _ _ _ _ _ k1 k2 k3 hn).mono ?_; rw [G0.out]; rintro e w2 ⟨rfl, bel2⟩; have s0 : w2.cell? ⟨w.heap.size, 0, none⟩ = some (.int .i64 a0) := (by rw [bel2.cell lx]; exact p0); have s1 : w2.cell? ⟨w.heap.size, 1, none⟩ = some (.slice A1 n1 c1) := (by rw [bel2.cell lx]; exact p1); have s2 : w2.cell? ⟨w.heap.size, 2, none⟩ = some (.slice A2 n2 c2) := (by rw [bel2.cell lx]; exact p2); have s3 : w2.cell? ⟨w.heap.size, 3, none⟩ = some (.slice A3 n3 c3) := (by rw [bel2.cell lx]; exact p3))
            | (go_at_call 101; refine (impl_isPatch _ _ _ _ _ _ _ _ _ _ _ _ _ _ (tSS.later k1 bel2) (tNS.later k2 bel2) (tS.later k3 bel2) hn).mono ?_; rw [G1.out]; rintro e w3 ⟨rfl, bel3⟩; have G3 := bel_trans bel2 bel3; have t0 : w3.cell? ⟨w.heap.size, 0, none⟩ = some (.int .i64 a0) := (by rw [G3.cell lx]; exact p0); have t3 : w3.cell? ⟨w.heap.size, 3, none⟩ = some (.slice A3 n3 c3) := (by rw [G3.cell lx]; exact p3)))
          go_ret
          exact ⟨ret_bool (by rw [R.out]; simp [ha]), bel_trans B0 G3⟩
  · have G0 := Lib.hid g0
    have R := Lib.hid (show M.effOk (a0, x1, x2, x3) = true by rw [M.effOk, g0]; rfl)
    clear g0
    go_enter Tryz.func71, Tryz.ntmps71
    go_wp2_with fail
    rw [← HW.out]
    go_wp2_with (go_at_call 93; refine (impl_isEmpty _ _ _ _ _ _ _ _ _ _ _ _ _ _ k1 k2 k3 hn).mono ?_; rw [G0.out]; rintro e w2 ⟨rfl, bel2⟩)
    go_ret
    exact ⟨ret_bool (by rw [R.out]), bel_trans B0 bel2⟩
end Go.Proofs.YtfkcoiefkjmdeaaGreat
namespace Go.Proofs.YtfkcoiefkjmdeaaGreat
open Go.RowKit
set_option maxHeartbeats 4000000
set_option maxRecDepth 100000
end Go.Proofs.YtfkcoiefkjmdeaaGreat
namespace Go.Proofs.YtfkcoiefkjmdeaaGreat
open Go.RowKit
set_option maxHeartbeats 4000000
set_option maxRecDepth 100000
theorem M.srcOk_at {src : List (List Int)} (h : M.srcOk src = true) {k : Nat} {x : List Int} (hx : src[k]? = some x) : M.sig x = true := by
  rw [M.srcOk, Bool.and_eq_true, List.all_eq_true] at h
  exact h.2 x (List.mem_of_getElem? hx)
theorem M.srcOk_len {src : List (List Int)} (h : M.srcOk src = true) : Hid (∀ x ∈ src, x.length ≤ 1000000000) := Lib.hid (by
  intro x hx
  obtain ⟨k, hk, rfl⟩ := List.getElem_of_mem hx
  have := M.srcOk_at h (List.getElem?_eq_getElem hk)
  rw [M.sig, Bool.and_eq_true, decide_eq_true_iff] at this
  omega)
theorem M.hasS_at {xs : List Clip} {m : Int} (h : M.hasS xs m = true) {k : Nat} {c : Clip} (hx : xs[k]? = some c) : c.1 < m := by
  rw [M.hasS, List.all_eq_true] at h
  simpa using h c (List.mem_of_getElem? hx)
theorem impl_renderTrack (A A' : Option Addr) (n c n' c' t : Nat) (src : List (List Int)) (xs : List Clip) (w : World) (hs : RS tS w w.heap.size (.slice A n c) src) (hx : RA cl 5 w w.heap.size A' n' xs) (hok : M.srcOk src = true) (hk : M.trackOk xs = true) (hh : M.hasS xs src.length = true) (ht : t ≤ 4000) :
    Calls Tryz.prog 91 #[.slice A n c, .agg #[.slice A' n' c'], .int .i64 t] w (Ret1 2 w (M.renT src xs t)) := by
  have hl := Lib.hid hx.len
  have hls := Lib.hid hs.cap.1
  have hn12 : n' ≤ 12 := by have := M.track_len hk; rw [hl.out] at this; exact this
  have OK := Lib.hid hok
  have SL := M.srcOk_len hok
  have HK := Lib.hid hk
  have HH := Lib.hid hh
  clear hok hk hh
  obtain ⟨W, hW⟩ : ∃ W, W = w.alloc (.cells #[.slice A' n' c'] 42) := ⟨_, rfl⟩
  have B0 : Below w.heap.size w W := by rw [hW]; exact (Below.refl _ _).alloc (Nat.le_refl _) _
  have z0 : W.heap.size = w.heap.size + 1 := by rw [hW]; simp
  have pv0 : W.cell? ⟨w.heap.size, 0, none⟩ = some (.slice A' n' c') := by rw [hW]; simp [go_sem]
  have l0 : w.heap.size < W.heap.size := by omega
  have HW := Lib.hid hW
  have Z0 := Lib.hid z0
  clear hW z0
  go_enter Tryz.func91, Tryz.ntmps91
  go_wp2_with fail
  rw [← HW.out]
  refine (impl_zeros _ _ (by omega) (by omega)).mono ?_
  rintro e w1 ⟨v1, rfl, own1, bel1⟩
  rw [Int.toNat_natCast, ← M.renT_nil src] at own1
  obtain ⟨A1, c1, rfl, -⟩ := own1.shape
  rw [M.renT_len] at *
  have pv1 : w1.cell? ⟨w.heap.size, 0, none⟩ = some (.slice A' n' c') := by rw [bel1.cell l0]; exact pv0
  have l1 := Nat.lt_of_lt_of_le l0 bel1.size
  have B1 := bel_trans B0 bel1
  have s1 := bel1.size
  go_wp2_with fail
  go_loopw [9, 10, 16] (fun _ _ i wr => ∃ k : Nat, i = .int .i64 k ∧ k ≤ n' ∧ OI 2 W.heap.size wr (.slice A1 t c1) (M.renT src (xs.take k) t) ∧ Below W.heap.size W wr) (fun _ _ i _ => n' - (intOf i).toNat)
  case atStart => exact ⟨0, rfl, by omega, by simpa using own1, bel1⟩
  case round =>
    obtain ⟨k, rfl, hk, own, hb⟩ := hrel
    obtain ⟨wo, rfl⟩ : ∃ wo : World, wo = wr := ⟨_, rfl⟩
    by_cases hlt : k < n'
    · obtain ⟨b, o, ⟨p0, p1, p2, p3, p4⟩, rfl, hab, X, hc⟩ := (hx.below (bel_trans B0 hb)).at cl_len (by decide) hlt
      have hc0 : wo.cell? ⟨b, o + k * 5, none⟩ = some (.int .i64 p0) := hc 0 _ rfl
      have hc1 : wo.cell? ⟨b, o + k * 5 + 1, none⟩ = some (.int .i64 p1) := hc 1 _ rfl
      have hc2 : wo.cell? ⟨b, o + k * 5 + 2, none⟩ = some (.int .i64 p2) := hc 2 _ rfl
      have hc3 : wo.cell? ⟨b, o + k * 5 + 3, none⟩ = some (.int .i64 p3) := hc 3 _ rfl
      have hc4 : wo.cell? ⟨b, o + k * 5 + 4, none⟩ = some (.int .i64 p4) := hc 4 _ rfl
      clear hc
      obtain ⟨b0, b2, b1, b3, b4⟩ := M.clip_bd (M.track_clip HK.out X.out)
      simp only at b0 b1 b2 b3 b4
      have hsl := M.hasS_at HH.out X.out
      simp only at hsl
      rw [hls.out] at hsl
      obtain ⟨s, rfl⟩ : ∃ s : Nat, p0 = s := ⟨p0.toNat, by omega⟩
      obtain ⟨a, rfl⟩ : ∃ a : Nat, p3 = a := ⟨p3.toNat, by omega⟩
      obtain ⟨f, rfl⟩ : ∃ f : Nat, p1 = f := ⟨p1.toNat, by omega⟩
      have hT := Lib.hid (M.take_at X.out)
      have hE0 := Lib.hid (M.renP_zero src (xs.take k) ((s : Int), (f : Int), p2, (a : Int), p4) t)
      obtain ⟨U, hU⟩ : ∃ U, U = wo.alloc (.cells #[.int .i64 s, .int .i64 f, .int .i64 p2, .int .i64 a, .int .i64 p4] 64) := ⟨_, rfl⟩
      have bU : Below wo.heap.size wo U := by rw [hU]; exact (Below.refl _ _).alloc (Nat.le_refl _) _
      have e0 : U.cell? ⟨wo.heap.size, 0, none⟩ = some (.int .i64 s) := by rw [hU]; simp [go_sem]
      have e1 : U.cell? ⟨wo.heap.size, 1, none⟩ = some (.int .i64 f) := by rw [hU]; simp [go_sem]
      have e2 : U.cell? ⟨wo.heap.size, 2, none⟩ = some (.int .i64 p2) := by rw [hU]; simp [go_sem]
      have e3 : U.cell? ⟨wo.heap.size, 3, none⟩ = some (.int .i64 a) := by rw [hU]; simp [go_sem]
      have e4 : U.cell? ⟨wo.heap.size, 4, none⟩ = some (.int .i64 p4) := by rw [hU]; simp [go_sem]
      have lU : wo.heap.size < U.heap.size := by rw [hU]; simp
      have HU := Lib.hid hU
      clear hU
      have ownU := own.below bU
      have hbU := hb.trans (bU.mono hb.size)
      have so := hb.size
      go_wp2_with fail
      rw [← HU.out]
      clear hc0 hc1 hc2 hc3 hc4
      go_loopw [10] (fun i wr => ∃ m : Nat, i = .int .i64 m ∧ (m : Int) ≤ p2 ∧ OI 2 W.heap.size wr (.slice A1 t c1) (M.renP src (xs.take k) ((s : Int), (f : Int), p2, (a : Int), p4) m t) ∧ Mid W.heap.size wo.heap.size U wr) (fun i _ => p2.toNat - (intOf i).toNat)
      case atStart => exact ⟨0, rfl, by omega, by rw [hE0.out]; exact ownU, Mid.refl _ _ _⟩
      case round =>
        obtain ⟨m, rfl, hm, own2, hm2⟩ := hrel
        have g0 : wr.cell? ⟨wo.heap.size, 0, none⟩ = some (.int .i64 s) := hm2.cellK lU (.inr (Nat.le_refl _)) e0
        have g1 : wr.cell? ⟨wo.heap.size, 1, none⟩ = some (.int .i64 f) := hm2.cellK lU (.inr (Nat.le_refl _)) e1
        have g2 : wr.cell? ⟨wo.heap.size, 2, none⟩ = some (.int .i64 p2) := hm2.cellK lU (.inr (Nat.le_refl _)) e2
        have g3 : wr.cell? ⟨wo.heap.size, 3, none⟩ = some (.int .i64 a) := hm2.cellK lU (.inr (Nat.le_refl _)) e3
        have g4 : wr.cell? ⟨wo.heap.size, 4, none⟩ = some (.int .i64 p4) := hm2.cellK lU (.inr (Nat.le_refl _)) e4
        have BW : Below W.heap.size W wr := hbU.trans (hm2.toBelow hbU.size)
        by_cases hml : (m : Int) < p2
        · by_cases hat : a + m < t
          · obtain ⟨g, rfl, hB, hgl⟩ := own.form' (by omega)
            obtain ⟨p, hp⟩ : ∃ p : Nat, p = a + m := ⟨_, rfl⟩
            obtain ⟨q, hq⟩ : ∃ q : Nat, q = f + m := ⟨_, rfl⟩
            have hpt : p < t := by omega
            have hpt2 : (p : Int) < (t : Int) := by omega
            have HP := Lib.hid (show (p : Int) = (a : Int) + (m : Int) by omega)
            have HQ := Lib.hid (show (q : Int) = (f : Int) + (m : Int) by omega)
            obtain ⟨z, Z, hc2, hf2, _, _⟩ := own2.at' (k := p) hpt
            obtain ⟨bb, oo, A3, c3, y, rfl, hbb, Y, hyc, hri, hyl⟩ := src_cell (hs.below (bel_trans B0 BW)) SL (k := s) (by omega)
            have hri' := hri.more (B' := wr.heap.size) (by have := B0.size; have := BW.size; omega)
            have hz : z = wrap32 (M.trackSum src (xs.take k) (p : Int)) := by
              have := Z.out
              rw [M.renP_at hpt HP.out, Option.some.injEq] at this
              exact this.symm
            have HZ := Lib.hid hz
            have hst := Lib.hid (M.renP_step (src := src) (xs := xs.take k) (c := ((s : Int), (f : Int), p2, (a : Int), p4)) hpt HP.out hml)
            have hy0 := Lib.hid (show (src[((s : Int)).toNat]?).getD [] = y by rw [Int.toNat_natCast, Y.out]; rfl)
            have hab1 : (a : Int) + (m : Int) < t := by omega
            have e5 : IntKind.i64.wrap ((a : Int) + (m : Int)) = (p : Int) := by rw [IntWalk.i64_in _ (by omega)]; exact HP.out.symm
            have e6 : IntKind.i64.wrap ((f : Int) + (m : Int)) = (q : Int) := by rw [IntWalk.i64_in _ (by omega)]; exact HQ.out.symm
            clear hz hp hq
            go_wp2
            clear hab1
            refine wp_region_still_tail 27 (by kernel_rfl) (by kernel_rfl) ?_
            simp only [List.take_succ_cons, List.take_zero, List.drop_succ_cons, List.drop_zero]
            iterate 23 still_step
            still_call (still_of (impl_at _ _ _ _ _ _ hri' hyl (by omega)))
            iterate 2 still_step
            still_call (still_of (impl_Wrap _ _))
            refine wpStill_nil ?_
            change wpList _ _ _ _ _ wr.drew
            go_wp2
            go_roundw
            case rel =>
              have h3 := OI.stored' own2 p (wrap32 (wrap64 (z + wrap64 (p4 * M.at_ y (q : Int)))))
              have he : wrap32 (wrap64 (z + wrap64 (p4 * M.at_ y (q : Int)))) = wrap32 (z + p4 * M.at_ y (q : Int)) := by rw [M.wrap32_64, ← M.wrap32_addr, M.wrap32_64, M.wrap32_addr]
              have hst2 := hst.out
              rw [hy0.out, ← HZ.out, ← HQ.out] at hst2
              rw [he, hst2] at h3
              refine ⟨m + 1, by go_num, by omega, ?_, (hm2.trans (Mid.of_grown (grown_setCell wr g p _) fun k hk => by injection hk with hk; omega)).trans ⟨rfl, rfl, rfl, Nat.le_refl _, fun _ _ _ => rfl⟩⟩
              rw [he]
              exact h3
            case measure => simp [intOf]; omega
          · have hnt : ¬ (a : Int) + (m : Int) < (t : Int) := by omega
            have hfin := Lib.hid (M.renP_end src (xs.take k) ((s : Int), (f : Int), p2, (a : Int), p4) m t (.inr (by simp only; omega)))
            go_wp2
            go_roundw
            case rel => exact ⟨k + 1, by go_num, by omega, by rw [hT.out, ← hfin.out]; exact own2, BW⟩
            case measure => simp [intOf]; omega
        · have hfin := Lib.hid (M.renP_end src (xs.take k) ((s : Int), (f : Int), p2, (a : Int), p4) m t (.inl (by simp only; omega)))
          go_wp2
          go_roundw
          case rel => exact ⟨k + 1, by go_num, by omega, by rw [hT.out, ← hfin.out]; exact own2, BW⟩
          case measure => simp [intOf]; omega
    · obtain rfl : n' = k := by omega
      rw [List.take_of_length_le (by rw [hl.out]; exact Nat.le_refl _)] at own
      go_wp2
      go_ret
      exact ⟨_, rfl, own.base (by rw [Z0.out]; omega), bel_trans B0 hb⟩
end Go.Proofs.YtfkcoiefkjmdeaaGreat
namespace Go.Proofs.YtfkcoiefkjmdeaaGreat
open Go.RowKit Go.Sort
set_option maxHeartbeats 4000000
set_option maxRecDepth 100000
set_option linter.unusedVariables false
set_option linter.unusedSimpArgs false
set_option synthInstance.maxSize 2000
set_option synthInstance.maxHeartbeats 400000
theorem tT_raS {w : World} {B : Nat} {A : Option Addr} {n c : Nat} {xs : List Clip} (h : tT.R w B [.slice A n c] xs) : RA cl 5 w B A n xs := (sl_R.1 h).flat.1
theorem track_cell {w : World} {B : Nat} {A : Option Addr} {n c : Nat} {ts : List (List Clip_)} (hr : RS tT w B (.slice A n c) ts) (hb : hTS.sz ts ≤ 100000000) {k : Nat} (hk : k < n) :
    ∃ (bb o : Nat) (A1 : Option Addr) (n1 c1 : Nat) (x : List Clip_), A = some ⟨bb, o, none⟩ ∧ bb < B ∧ Hid (ts[k]? = some x) ∧ w.cell? ⟨bb, o + k, none⟩ = some (.slice A1 n1 c1) ∧ tT.R w B [.slice A1 n1 c1] x ∧ RA cl 5 w B A1 n1 x ∧ n1 ≤ 100000000 := by
  obtain rfl : ts.length = n := hr.cap.1
  have hX := List.getElem?_eq_getElem hk
  obtain ⟨bb, o, c1, cs, hv, hab, -, hE, hc⟩ := hr.atX hX
  simp only [Value.slice.injEq] at hv
  obtain ⟨rfl, -, rfl⟩ := hv
  have hU := hT.szL_at hX
  have hU2 : ts.length + hT.szL ts ≤ 100000000 := hb
  generalize ts[k] = x at hX hE hU
  obtain ⟨A1, n1, c1, rfl⟩ := open_sl hE
  have e0 : w.cell? ⟨bb, o + k * 1, none⟩ = some (.slice A1 n1 c1) := hc 0 _ rfl
  rw [Nat.mul_one] at e0
  have hra := tT_raS hE
  have hl : x.length = n1 := hra.len
  have hz : x.length ≤ hT.sz x := Nat.le_add_right _ _
  exact ⟨bb, o, A1, n1, c1, x, rfl, hab, Lib.hid hX, e0, hE, hra, by omega⟩
theorem patch_cell {w : World} {B : Nat} {A : Option Addr} {n c : Nat} {ps : List Patch} (hr : RS tP w B (.slice A n c) ps) (hb : hPS.sz ps ≤ 100000000) {k : Nat} (hk : k < n) :
    ∃ (bb o : Nat) (a0 : Int) (A1 : Option Addr) (n1 c1 : Nat) (A2 : Option Addr) (n2 c2 : Nat) (A3 : Option Addr) (n3 c3 : Nat) (x1 : List (List Int)) (x2 : List Node) (x3 : List Int), A = some ⟨bb, o, none⟩ ∧ bb < B ∧ Hid (ps[k]? = some (a0, x1, x2, x3)) ∧
      w.cell? ⟨bb, o + k * 4, none⟩ = some (.int .i64 a0) ∧ w.cell? ⟨bb, o + k * 4 + 1, none⟩ = some (.slice A1 n1 c1) ∧ w.cell? ⟨bb, o + k * 4 + 2, none⟩ = some (.slice A2 n2 c2) ∧ w.cell? ⟨bb, o + k * 4 + 3, none⟩ = some (.slice A3 n3 c3) ∧
      tSS.R w B [.slice A1 n1 c1] x1 ∧ tNS.R w B [.slice A2 n2 c2] x2 ∧ tS.R w B [.slice A3 n3 c3] x3 ∧ hP.sz ((a0, x1, x2, x3) : Patch) ≤ 100000000 := by
  obtain rfl : ps.length = n := hr.cap.1
  have hX := List.getElem?_eq_getElem hk
  obtain ⟨bb, o, c1, cs, hv, hab, -, hE, hc⟩ := hr.atX hX
  simp only [Value.slice.injEq] at hv
  obtain ⟨rfl, -, rfl⟩ := hv
  have hU := hP.szL_at hX
  have hU2 : ps.length + hP.szL ps ≤ 100000000 := hb
  generalize ps[k] = x at hX hE hU
  obtain ⟨a0, x1, x2, x3⟩ := x
  obtain ⟨A1, n1, c1, A2, n2, c2, A3, n3, c3, rfl, h1, h2, h3⟩ := tP_R.1 hE
  have e0 : w.cell? ⟨bb, o + k * 4, none⟩ = some (.int .i64 a0) := hc 0 _ rfl
  exact ⟨bb, o, a0, A1, n1, c1, A2, n2, c2, A3, n3, c3, x1, x2, x3, rfl, hab, Lib.hid hX, e0, hc 1 _ rfl, hc 2 _ rfl, hc 3 _ rfl, h1, h2, h3, by omega⟩
end Go.Proofs.YtfkcoiefkjmdeaaGreat
namespace Go.Proofs.YtfkcoiefkjmdeaaGreat
open Go.RowKit Go.Sort
set_option maxHeartbeats 2000000
set_option maxRecDepth 100000
set_option linter.unusedVariables false
set_option linter.unusedSimpArgs false
theorem impl_clones (A : Option Addr) (n c : Nat) (xs : List (List Int)) (w : World) (hx : tSS.R w w.heap.size [.slice A n c] xs) (hn : hSS.sz xs ≤ 100000000) :
    Calls Tryz.prog 109 #[.slice A n c] w fun e w' => ∃ v, e = .returned v ∧ OS tS 26 w' (Iv w.heap.size w'.heap.size) v xs ∧ Below w.heap.size w w' := by
  have rx := sl_R.1 hx
  have hl := Lib.hid rx.cap.1
  have hq1 : xs.length + hS.szL xs = hSS.sz xs := rfl
  have hb1 : Hid (∀ x ∈ xs, x.length ≤ 1000000000) := Lib.hid (fun x hx => by
    obtain ⟨i, hi⟩ := List.getElem?_of_mem hx
    have := hS.szL_at hi
    rw [hS_sz] at this
    omega)
  have hnb : n ≤ 100000000 := by have := hl.out; omega
  have hxl : xs.length ≤ 100000000 := by omega
  clear hx hn hq1
  go_enter Tryz.func109, Tryz.ntmps109
  go_wp2_with fail
  go_loopw [3, 9] (fun v i wr => ∃ k : Nat, i = .int .i64 k ∧ k ≤ n ∧ OS tS 26 wr (Iv w.heap.size wr.heap.size) v (xs.take k) ∧ Below w.heap.size w wr) (fun _ i _ => n - (intOf i).toNat)
  case atStart => exact ⟨0, rfl, by omega, OS.made0 _ _ _, (Below.refl _ _).alloc (Nat.le_refl _) _⟩
  case round =>
    obtain ⟨k, rfl, hk, own, Bw⟩ := hrel
    by_cases hlt : k < n
    · obtain ⟨bb, o, A1, c1, x, rfl, hbb, X, hc, hri, hxl2⟩ := src_cell (rx.below Bw) hb1 hlt
      have hri2 := hri.more Bw.size
      have hx9 := hb1.out x (List.mem_of_getElem? X.out)
      have hpt := Lib.hid (M.take_at X.out)
      have hpl : (xs.take k).length ≤ 100000000 := by rw [List.length_take]; omega
      have hsb := Bw.size
      go_wp2_with fail
      refine (impl_clone _ _ _ _ _ hri2 (by omega)).mono ?_
      rintro e w1 ⟨v1, rfl, own1, bel1⟩
      obtain ⟨A4, c4, rfl, -⟩ := own1.shape
      have ow := own.below bel1 (Nat.le_refl _)
      have os2 := tS_O.2 (OI.os own1)
      have s2 := bel1.size
      go_wp2_with (at_builtin; refine wpList_pushS ei_S #[.slice A4 x.length c4] rfl _ _ rfl ow os2 (Iv.apart (Nat.le_refl _)) rfl rfl (by unfold maxLen; omega) (by omega) ?_; intro v3 w4 own4 ch4)
      go_roundw
      case rel =>
        refine ⟨k + 1, by go_num, by omega, ?_, (Bw.trans (bel1.mono hsb)).trans (ch4.toBelow (fun b hb => hb.1) (by omega))⟩
        rw [hpt.out]
        exact own4.wide (Iv.grow hsb s2 ch4.size)
      case measure => simp [intOf]; omega
    · obtain rfl : k = n := by omega
      go_wp2
      go_ret
      rw [List.take_of_length_le (by rw [hl.out]; exact Nat.le_refl _)] at own
      exact ⟨_, rfl, own, Bw⟩
theorem impl_copyNode (a0 a1 a2 : Int) (A : Option Addr) (n c : Nat) (xs : List Int) (w : World) (hx : RI w w.heap.size A n xs) (hn : n ≤ 100000000) :
    Calls Tryz.prog 127 #[.agg #[.int .i64 a0, .int .i64 a1, .int .i64 a2, .slice A n c]] w fun e w' => ∃ A' n' c', e = .returned (.agg #[.int .i64 a0, .int .i64 a1, .int .i64 a2, .slice A' n' c']) ∧ tN.O w' (Iv w.heap.size w'.heap.size) [.int .i64 a0, .int .i64 a1, .int .i64 a2, .slice A' n' c'] (a0, a1, a2, xs) ∧ Below w.heap.size w w' := by
  obtain rfl : xs.length = n := hx.len
  obtain ⟨W, hW⟩ : ∃ W, W = (w.alloc (.cells #[.int .i64 a0, .int .i64 a1, .int .i64 a2, .slice A xs.length c] 122)).alloc (.cells #[.int .i64 0, .int .i64 0, .int .i64 0, .slice none 0 0] 122) := ⟨_, rfl⟩
  have B0 : Below w.heap.size w W := by rw [hW]; exact ((Below.refl _ _).alloc (Nat.le_refl _) _).alloc (by simp) _
  have lW : w.heap.size + 1 < W.heap.size := by rw [hW]; simp
  have p0 : W.cell? ⟨w.heap.size, 0, none⟩ = some (.int .i64 a0) := by rw [hW]; simp [go_sem]
  have pf0 : W.frozen? ⟨w.heap.size, 0, none⟩ = false := by rw [hW]; simp [go_sem]
  have r0 : W.cell? ⟨w.heap.size + 1, 0, none⟩ = some (.int .i64 0) := by rw [hW]; simp [go_sem]
  have rf0 : W.frozen? ⟨w.heap.size + 1, 0, none⟩ = false := by rw [hW]; simp [go_sem]
  have p1 : W.cell? ⟨w.heap.size, 1, none⟩ = some (.int .i64 a1) := by rw [hW]; simp [go_sem]
  have pf1 : W.frozen? ⟨w.heap.size, 1, none⟩ = false := by rw [hW]; simp [go_sem]
  have r1 : W.cell? ⟨w.heap.size + 1, 1, none⟩ = some (.int .i64 0) := by rw [hW]; simp [go_sem]
  have rf1 : W.frozen? ⟨w.heap.size + 1, 1, none⟩ = false := by rw [hW]; simp [go_sem]
  have p2 : W.cell? ⟨w.heap.size, 2, none⟩ = some (.int .i64 a2) := by rw [hW]; simp [go_sem]
  have pf2 : W.frozen? ⟨w.heap.size, 2, none⟩ = false := by rw [hW]; simp [go_sem]
  have r2 : W.cell? ⟨w.heap.size + 1, 2, none⟩ = some (.int .i64 0) := by rw [hW]; simp [go_sem]
  have rf2 : W.frozen? ⟨w.heap.size + 1, 2, none⟩ = false := by rw [hW]; simp [go_sem]
  have p3 : W.cell? ⟨w.heap.size, 3, none⟩ = some (.slice A xs.length c) := by rw [hW]; simp [go_sem]
  have pf3 : W.frozen? ⟨w.heap.size, 3, none⟩ = false := by rw [hW]; simp [go_sem]
  have r3 : W.cell? ⟨w.heap.size + 1, 3, none⟩ = some (.slice none 0 0) := by rw [hW]; simp [go_sem]
  have rf3 : W.frozen? ⟨w.heap.size + 1, 3, none⟩ = false := by rw [hW]; simp [go_sem]
  have HW := Lib.hid hW
  have hx1 := hx.later B0
  clear hW
  go_enter Tryz.func127, Tryz.ntmps127
  go_wp2_with fail
  rw [← HW.out]
  refine (impl_clone _ _ _ _ _ hx1 (by omega)).mono ?_
  rintro e w1 ⟨v1, rfl, own1, bel1⟩
  obtain ⟨A4, c4, rfl, -⟩ := own1.shape
  have s1 := bel1.size
  replace p0 : w1.cell? ⟨w.heap.size, 0, none⟩ = some (.int .i64 a0) := by rw [bel1.cell (by show w.heap.size < W.heap.size; omega)]; exact p0
  replace pf0 : w1.frozen? ⟨w.heap.size, 0, none⟩ = false := by rw [bel1.frozen (by show w.heap.size < W.heap.size; omega)]; exact pf0
  replace r0 : w1.cell? ⟨w.heap.size + 1, 0, none⟩ = some (.int .i64 0) := by rw [bel1.cell (by show w.heap.size + 1 < W.heap.size; omega)]; exact r0
  replace rf0 : w1.frozen? ⟨w.heap.size + 1, 0, none⟩ = false := by rw [bel1.frozen (by show w.heap.size + 1 < W.heap.size; omega)]; exact rf0
  replace p1 : w1.cell? ⟨w.heap.size, 1, none⟩ = some (.int .i64 a1) := by rw [bel1.cell (by show w.heap.size < W.heap.size; omega)]; exact p1
  replace pf1 : w1.frozen? ⟨w.heap.size, 1, none⟩ = false := by rw [bel1.frozen (by show w.heap.size < W.heap.size; omega)]; exact pf1
  replace r1 : w1.cell? ⟨w.heap.size + 1, 1, none⟩ = some (.int .i64 0) := by rw [bel1.cell (by show w.heap.size + 1 < W.heap.size; omega)]; exact r1
  replace rf1 : w1.frozen? ⟨w.heap.size + 1, 1, none⟩ = false := by rw [bel1.frozen (by show w.heap.size + 1 < W.heap.size; omega)]; exact rf1
  replace p2 : w1.cell? ⟨w.heap.size, 2, none⟩ = some (.int .i64 a2) := by rw [bel1.cell (by show w.heap.size < W.heap.size; omega)]; exact p2
  replace pf2 : w1.frozen? ⟨w.heap.size, 2, none⟩ = false := by rw [bel1.frozen (by show w.heap.size < W.heap.size; omega)]; exact pf2
  replace r2 : w1.cell? ⟨w.heap.size + 1, 2, none⟩ = some (.int .i64 0) := by rw [bel1.cell (by show w.heap.size + 1 < W.heap.size; omega)]; exact r2
  replace rf2 : w1.frozen? ⟨w.heap.size + 1, 2, none⟩ = false := by rw [bel1.frozen (by show w.heap.size + 1 < W.heap.size; omega)]; exact rf2
  replace p3 : w1.cell? ⟨w.heap.size, 3, none⟩ = some (.slice A xs.length c) := by rw [bel1.cell (by show w.heap.size < W.heap.size; omega)]; exact p3
  replace pf3 : w1.frozen? ⟨w.heap.size, 3, none⟩ = false := by rw [bel1.frozen (by show w.heap.size < W.heap.size; omega)]; exact pf3
  replace r3 : w1.cell? ⟨w.heap.size + 1, 3, none⟩ = some (.slice none 0 0) := by rw [bel1.cell (by show w.heap.size + 1 < W.heap.size; omega)]; exact r3
  replace rf3 : w1.frozen? ⟨w.heap.size + 1, 3, none⟩ = false := by rw [bel1.frozen (by show w.heap.size + 1 < W.heap.size; omega)]; exact rf3
  have B1 := bel_trans B0 bel1
  have lw1 : w.heap.size < w1.heap.size := by omega
  have lw2 : w.heap.size + 1 < w1.heap.size := by omega
  have o1 := tS_O.2 (OI.os own1)
  clear B0 HW
  obtain ⟨U, hU⟩ : ∃ U, U = w1.setCell ⟨w.heap.size, 3, none⟩ (.slice A4 xs.length c4) := ⟨_, rfl⟩
  have m1 : Mid w.heap.size (w.heap.size + 1) w1 U := by rw [hU]; exact Mid.of_grown (grown_setCell w1 w.heap.size 3 _) fun k hk => by injection hk with hk; omega
  have eU : U.heap.size = w1.heap.size := by rw [hU]; simp
  have BU : Below (w.heap.size + 1) w1 U ∨ True := .inr trivial

  have u0 : U.cell? ⟨w.heap.size + 1, 0, none⟩ = some (.int .i64 0) := by rw [hU]; simp [go_sem, r0, lw1]
  have v0 : U.frozen? ⟨w.heap.size + 1, 0, none⟩ = false := by rw [hU]; simp [go_sem, rf0, lw1]
  have u1 : U.cell? ⟨w.heap.size + 1, 1, none⟩ = some (.int .i64 0) := by rw [hU]; simp [go_sem, r1, lw1]
  have v1 : U.frozen? ⟨w.heap.size + 1, 1, none⟩ = false := by rw [hU]; simp [go_sem, rf1, lw1]
  have u2 : U.cell? ⟨w.heap.size + 1, 2, none⟩ = some (.int .i64 0) := by rw [hU]; simp [go_sem, r2, lw1]
  have v2 : U.frozen? ⟨w.heap.size + 1, 2, none⟩ = false := by rw [hU]; simp [go_sem, rf2, lw1]
  have u3 : U.cell? ⟨w.heap.size + 1, 3, none⟩ = some (.slice none 0 0) := by rw [hU]; simp [go_sem, r3, lw1]
  have v3 : U.frozen? ⟨w.heap.size + 1, 3, none⟩ = false := by rw [hU]; simp [go_sem, rf3, lw1]
  have HU := Lib.hid hU
  clear hU BU
  go_wp2
  rw [← HU.out]
  have mm : Mid w.heap.size (w.heap.size + 1 + 1) U ((((U.setCell ⟨w.heap.size + 1, 0, none⟩ (.int .i64 a0)).setCell ⟨w.heap.size + 1, 1, none⟩ (.int .i64 a1)).setCell ⟨w.heap.size + 1, 2, none⟩ (.int .i64 a2)).setCell ⟨w.heap.size + 1, 3, none⟩ (.slice A4 xs.length c4)) := ((((Mid.of_grown (grown_setCell _ _ 0 _) (fun k hk => by injection hk with hk; omega)).trans (Mid.of_grown (grown_setCell _ _ 1 _) (fun k hk => by injection hk with hk; omega))).trans (Mid.of_grown (grown_setCell _ _ 2 _) (fun k hk => by injection hk with hk; omega))).trans (Mid.of_grown (grown_setCell _ _ 3 _) (fun k hk => by injection hk with hk; omega)))
  clear p0 p1 p2 p3 pf0 pf1 pf2 pf3 r0 r1 r2 r3 rf0 rf1 rf2 rf3
  refine bodyPost_ret (v := .agg #[.int .i64 a0, .int .i64 a1, .int .i64 a2, .slice A4 xs.length c4]) (by simp [results, Tryz.results127, go_sem, u0, u1, u2, u3, v0, v1, v2, v3]) rfl ?_
  have hM := (m1.wide (Nat.le_refl _) (Nat.le_succ _)).trans mm
  have eE := mm.size
  refine ⟨A4, xs.length, c4, rfl, tN_O.2 ⟨A4, xs.length, c4, Iv W.heap.size w1.heap.size, rfl, tS.omid o1 hM (.inr (by omega)) (Nat.le_refl _), Iv.mono (by omega) (by have := hM.size; omega)⟩, B1.trans (hM.toBelow (by omega))⟩
end Go.Proofs.YtfkcoiefkjmdeaaGreat
namespace Go.Proofs.YtfkcoiefkjmdeaaGreat
open Go.RowKit Go.Sort
set_option maxHeartbeats 2000000
set_option maxRecDepth 100000
set_option linter.unusedVariables false
set_option linter.unusedSimpArgs false
theorem Chg.up {F G : Nat → Prop} {a b c : World} (h : Chg G a b) (k : Chg F b c) (hf : ∀ x, x < a.heap.size → F x → G x) : Chg G a c :=
  ⟨k.os.trans h.os, k.tape.trans h.tape, k.output.trans h.output, Nat.le_trans h.size k.size, fun i hi hn => (k.block i (Nat.lt_of_lt_of_le hi h.size) (fun hF => hn (hf i hi hF))).trans (h.block i hi hn)⟩
theorem Chg.upB {G : Nat → Prop} {a b c : World} (h : Chg G a b) (k : Below b.heap.size b c) : Chg G a c := h.up (Chg.of_below k (fun _ => False)) (fun _ _ h => h.elim)
theorem Chg.cell {F : Nat → Prop} {a b : World} (h : Chg F a b) {k j : Nat} (hk : k < a.heap.size) (hn : ¬ F k) : b.cell? ⟨k, j, none⟩ = a.cell? ⟨k, j, none⟩ := by
  exact World.cell?_of_block (h.block k hk hn)
theorem Chg.frozen {F : Nat → Prop} {a b : World} (h : Chg F a b) {k j : Nat} (hk : k < a.heap.size) (hn : ¬ F k) : b.frozen? ⟨k, j, none⟩ = a.frozen? ⟨k, j, none⟩ := by
  have hb := h.block k hk hn
  simp only [World.frozen?]
  rw [hb]
/-- A struct's box at g, one of whose fields (number f) grows in a loop that began at w0. -/
structure Gr (g f : Nat) (w0 w : World) (v : Value) : Prop where
  chg : Chg (fun b => b = g) w0 w
  cel : w.cell? ⟨g, f, none⟩ = some v
  oth : ∀ j, j ≠ f → w.cell? ⟨g, j, none⟩ = w0.cell? ⟨g, j, none⟩
  fro : ∀ j, w.frozen? ⟨g, j, none⟩ = w0.frozen? ⟨g, j, none⟩
theorem Gr.start {g f : Nat} {w : World} {v : Value} (h : w.cell? ⟨g, f, none⟩ = some v) : Gr g f w w v := ⟨Chg.refl _ _, h, fun _ _ => rfl, fun _ => rfl⟩
theorem Gr.below {g f : Nat} {w0 w w' : World} {v : Value} (h : Gr g f w0 w v) (hb : Below w.heap.size w w') (hg : g < w.heap.size) : Gr g f w0 w' v :=
  ⟨h.chg.upB hb, by rw [hb.cell (p := ⟨g, f, none⟩) hg]; exact h.cel, fun j hj => by rw [hb.cell (p := ⟨g, j, none⟩) hg]; exact h.oth j hj, fun j => by rw [hb.frozen (p := ⟨g, j, none⟩) hg]; exact h.fro j⟩
theorem Gr.row {g f : Nat} {w0 w w' : World} {v : Value} {F : Nat → Prop} (h : Gr g f w0 w v) (hc : Chg F w w') (hg : g < w.heap.size) (hF : ∀ b, F b → w0.heap.size ≤ b ∧ b ≠ g) : Gr g f w0 w' v :=
  ⟨h.chg.up hc (fun x hx hFx => by have := hF x hFx; omega), by rw [hc.cell hg (fun e => (hF g e).2 rfl)]; exact h.cel, fun j hj => by rw [hc.cell hg (fun e => (hF g e).2 rfl)]; exact h.oth j hj, fun j => by rw [hc.frozen hg (fun e => (hF g e).2 rfl)]; exact h.fro j⟩
theorem Gr.set {g f : Nat} {w0 w : World} {v : Value} (h : Gr g f w0 w v) (hz : w0.frozen? ⟨g, f, none⟩ = false) (u : Value) : Gr g f w0 (w.setCell ⟨g, f, none⟩ u) u := by
  have hfr : w.frozen? ⟨g, f, none⟩ = false := by rw [h.fro]; exact hz
  have hc := h.cel
  refine ⟨h.chg.trans (Chg.set w g f u rfl), by simp [go_sem, hc], fun j hj => ?_, fun j => ?_⟩
  · rw [← h.oth j hj]
    simp [go_sem, Ne.symm hj]
    try omega
  · rw [← h.fro j]
    simp [go_sem]
end Go.Proofs.YtfkcoiefkjmdeaaGreat
namespace Go.Proofs.YtfkcoiefkjmdeaaGreat
open Go.RowKit Go.Sort
set_option maxHeartbeats 2000000
set_option maxRecDepth 100000
set_option linter.unusedVariables false
set_option linter.unusedSimpArgs false
theorem newbox4 (w : World) (z0 z1 z2 z3 : Value) (t : TypeId) : ∃ U, U = w.alloc (.cells #[z0, z1, z2, z3] t) ∧ Below w.heap.size w U ∧ U.heap.size = w.heap.size + 1 ∧ U.cell? ⟨w.heap.size, 0, none⟩ = some z0 ∧ U.cell? ⟨w.heap.size, 1, none⟩ = some z1 ∧ U.cell? ⟨w.heap.size, 2, none⟩ = some z2 ∧ U.cell? ⟨w.heap.size, 3, none⟩ = some z3 ∧ (∀ j, U.frozen? ⟨w.heap.size, j, none⟩ = false) :=
  ⟨_, rfl, (Below.refl _ _).alloc (Nat.le_refl _) _, by simp, by simp [go_sem], by simp [go_sem], by simp [go_sem], by simp [go_sem], fun j => by simp [go_sem]⟩
theorem newbox6 (w : World) (z0 z1 z2 z3 z4 z5 : Value) (t : TypeId) : ∃ U, U = w.alloc (.cells #[z0, z1, z2, z3, z4, z5] t) ∧ Below w.heap.size w U ∧ U.heap.size = w.heap.size + 1 ∧ U.cell? ⟨w.heap.size, 0, none⟩ = some z0 ∧ U.cell? ⟨w.heap.size, 1, none⟩ = some z1 ∧ U.cell? ⟨w.heap.size, 2, none⟩ = some z2 ∧ U.cell? ⟨w.heap.size, 3, none⟩ = some z3 ∧ U.cell? ⟨w.heap.size, 4, none⟩ = some z4 ∧ U.cell? ⟨w.heap.size, 5, none⟩ = some z5 ∧ (∀ j, U.frozen? ⟨w.heap.size, j, none⟩ = false) :=
  ⟨_, rfl, (Below.refl _ _).alloc (Nat.le_refl _) _, by simp, by simp [go_sem], by simp [go_sem], by simp [go_sem], by simp [go_sem], by simp [go_sem], by simp [go_sem], fun j => by simp [go_sem]⟩
theorem newbox1 (w : World) (z0 : Value) (t : TypeId) : ∃ U, U = w.alloc (.cells #[z0] t) ∧ Below w.heap.size w U ∧ U.heap.size = w.heap.size + 1 ∧ U.cell? ⟨w.heap.size, 0, none⟩ = some z0 ∧ (∀ j, U.frozen? ⟨w.heap.size, j, none⟩ = false) :=
  ⟨_, rfl, (Below.refl _ _).alloc (Nat.le_refl _) _, by simp, by simp [go_sem], fun j => by simp [go_sem]⟩
theorem newbox3 (w : World) (z0 z1 z2 : Value) (t : TypeId) : ∃ U, U = w.alloc (.cells #[z0, z1, z2] t) ∧ Below w.heap.size w U ∧ U.heap.size = w.heap.size + 1 ∧ U.cell? ⟨w.heap.size, 0, none⟩ = some z0 ∧ U.cell? ⟨w.heap.size, 1, none⟩ = some z1 ∧ U.cell? ⟨w.heap.size, 2, none⟩ = some z2 ∧ (∀ j, U.frozen? ⟨w.heap.size, j, none⟩ = false) :=
  ⟨_, rfl, (Below.refl _ _).alloc (Nat.le_refl _) _, by simp, by simp [go_sem], by simp [go_sem], by simp [go_sem], fun j => by simp [go_sem]⟩
theorem box6 {U : World} {g : Nat} {z0 z1 z2 z3 z4 z5 : Value} (c0 : U.cell? ⟨g, 0, none⟩ = some z0) (c1 : U.cell? ⟨g, 1, none⟩ = some z1) (c2 : U.cell? ⟨g, 2, none⟩ = some z2) (c3 : U.cell? ⟨g, 3, none⟩ = some z3) (c4 : U.cell? ⟨g, 4, none⟩ = some z4) (c5 : U.cell? ⟨g, 5, none⟩ = some z5) (f : ∀ j, U.frozen? ⟨g, j, none⟩ = false) (v0 v1 v2 v3 v4 v5 : Value) :
    ∃ U', U' = (((((U.setCell ⟨g, 0, none⟩ v0).setCell ⟨g, 1, none⟩ v1).setCell ⟨g, 2, none⟩ v2).setCell ⟨g, 3, none⟩ v3).setCell ⟨g, 4, none⟩ v4).setCell ⟨g, 5, none⟩ v5 ∧ U'.cell? ⟨g, 0, none⟩ = some v0 ∧ U'.cell? ⟨g, 1, none⟩ = some v1 ∧ U'.cell? ⟨g, 2, none⟩ = some v2 ∧ U'.cell? ⟨g, 3, none⟩ = some v3 ∧ U'.cell? ⟨g, 4, none⟩ = some v4 ∧ U'.cell? ⟨g, 5, none⟩ = some v5 ∧ (∀ j, U'.frozen? ⟨g, j, none⟩ = false) ∧ Chg (fun b => b = g) U U' ∧ U'.heap.size = U.heap.size := by
  refine ⟨_, rfl, by simp [go_sem, c0], by simp [go_sem, c1], by simp [go_sem, c2], by simp [go_sem, c3], by simp [go_sem, c4], by simp [go_sem, c5], fun j => by simp [go_sem, f j], (((((Chg.set (F := fun b => b = g) _ g 0 v0 rfl).trans (Chg.set _ g 1 v1 rfl)).trans (Chg.set _ g 2 v2 rfl)).trans (Chg.set _ g 3 v3 rfl)).trans (Chg.set _ g 4 v4 rfl)).trans (Chg.set _ g 5 v5 rfl), by simp⟩
theorem cl_one (xs : List Clip_) : ∀ u ∈ xs.flatMap cl, u.oneCell' = true := by
  intro u hu
  obtain ⟨x, -, hx⟩ := List.mem_flatMap.1 hu
  simp only [cl, List.mem_cons, List.mem_nil_iff, or_false] at hx
  rcases hx with h | h | h | h | h <;> rw [h] <;> rfl
theorem sd_one (xs : List (Int × Int)) : ∀ u ∈ xs.flatMap sd, u.oneCell' = true := by
  intro u hu
  obtain ⟨x, -, hx⟩ := List.mem_flatMap.1 hu
  simp only [sd, List.mem_cons, List.mem_nil_iff, or_false] at hx
  rcases hx with h | h <;> rw [h] <;> rfl
theorem strip_cell {w : World} {B : Nat} {A : Option Addr} {n c : Nat} {ms : List Strip} (hr : RS tSt w B (.slice A n c) ms) (hb : hM.sz ms ≤ 100000000) {k : Nat} (hk : k < n) :
    ∃ (bb o : Nat) (s : ByteArray) (l : Int) (A1 : Option Addr) (n1 c1 : Nat) (us : List (Int × Int)), A = some ⟨bb, o, none⟩ ∧ bb < B ∧ Hid (ms[k]? = some (s, l, us)) ∧ w.cell? ⟨bb, o + k * 3, none⟩ = some (.string s) ∧ w.cell? ⟨bb, o + k * 3 + 1, none⟩ = some (.int .i64 l) ∧ w.cell? ⟨bb, o + k * 3 + 2, none⟩ = some (.slice A1 n1 c1) ∧ s.size ≤ maxLen ∧ RA sd 2 w B A1 n1 us ∧ n1 ≤ 100000000 := by
  obtain rfl : ms.length = n := hr.cap.1
  have hX := List.getElem?_eq_getElem hk
  obtain ⟨bb, o, c1, cs, hv, hab, -, hE, hc⟩ := hr.atX hX
  simp only [Value.slice.injEq] at hv
  obtain ⟨rfl, -, rfl⟩ := hv
  have hU := hSt.szL_at hX
  have hU2 : ms.length + hSt.szL ms ≤ 100000000 := hb
  generalize ms[k] = x at hX hE hU
  obtain ⟨s, l, us⟩ := x
  obtain ⟨A1, n1, c1, rfl, hs, hS⟩ := st_R.1 hE
  have hra : RA sd 2 w B A1 n1 us := (sl_R.1 hS).flat.1
  have hl : us.length = n1 := hra.len
  have hz : us.length ≤ hSt.sz (s, l, us) := by
    have e : hSt.sz (s, l, us) = s.size + (0 + (us.length + hSd.szL us)) := rfl
    omega
  have e0 : w.cell? ⟨bb, o + k * 3, none⟩ = some (.string s) := hc 0 _ rfl
  exact ⟨bb, o, s, l, A1, n1, c1, us, rfl, hab, Lib.hid hX, e0, hc 1 _ rfl, hc 2 _ rfl, hs, hra, by omega⟩
end Go.Proofs.YtfkcoiefkjmdeaaGreat
namespace Go.Proofs.YtfkcoiefkjmdeaaGreat
open Go.RowKit
set_option maxHeartbeats 4000000
set_option maxRecDepth 100000
theorem spec_l03ZerosN (r : Nat) (w : World) (hr : r ≤ 1000000) : Calls Tryz.prog 50 #[.int .i64 r] w (Ret1 2 w (List.replicate r 0)) := by
  go_enter Tryz.func50, Tryz.ntmps50
  go_wp2
  go_loopw [0, 3] (fun i v wr => ∃ k : Nat, i = .int .i64 k ∧ k ≤ r ∧ OI 2 w.heap.size wr v (List.replicate (r - k) 0) ∧ Below w.heap.size w wr) (fun i _ _ => (intOf i).toNat)
  case atStart => exact ⟨r, rfl, Nat.le_refl _, by rw [Nat.sub_self]; exact OI.made _ _, (Below.refl _ _).alloc (Nat.le_refl _) _⟩
  case round =>
    obtain ⟨k, rfl, hk, own, hb⟩ := hrel
    have hl1 : (List.replicate (r - k) (0 : Int)).length ≤ 1000000 := by rw [List.length_replicate]; omega
    by_cases hlt : 0 < k
    · have hR := Lib.hid (show List.replicate (r - k) (0 : Int) ++ [0] = List.replicate (r - (k - 1)) 0 by rw [show r - (k - 1) = r - k + 1 by omega, List.replicate_succ'])
      go_wp2_with (at_builtin; refine wpList_push1 ei_i64 rfl _ _ rfl own rfl rfl rfl (by unfold maxLen; omega) (by omega) hb.size ?_; intro v1 w1 own1 gr1 bel1)
      go_roundw
      case rel => exact ⟨k - 1, by go_num, by omega, by rw [← hR.out]; exact OI.push own1, hb.trans bel1⟩
      case measure => simp [intOf]; omega
    · obtain rfl : k = 0 := by omega
      go_wp2
      go_ret
      exact ⟨_, rfl, own, hb⟩
theorem spec_l23Render (vb : Nat) (A A' : Option Addr) (n c n' c' t : Nat) (src : List (List Int)) (xs : List Clip) (w : World) (hv0 : w.cell? ⟨vb, 0, none⟩ = some (.slice A' n' c')) (hs : RS tS w w.heap.size (.slice A n c) src) (hx : RA cl 5 w w.heap.size A' n' xs) (hok : M.srcOk src = true) (hk : M.trackOk xs = true) (hh : M.hasS xs src.length = true) (ht : t ≤ 4000) :
    Calls Tryz.prog 26 #[.slice A n c, .pointer (some ⟨vb, 0, none⟩), .int .i64 t] w (Ret1 2 w (M.renT src xs t)) := by
  have hl := Lib.hid hx.len
  have hls := Lib.hid hs.cap.1
  have hn12 : n' ≤ 12 := by have := M.track_len hk; rw [hl.out] at this; exact this
  have OK := Lib.hid hok
  have SL := M.srcOk_len hok
  have HK := Lib.hid hk
  have HH := Lib.hid hh
  have hvb : vb < w.heap.size := World.block_lt_of_cell? w _ hv0
  clear hok hk hh
  go_enter Tryz.func26, Tryz.ntmps26
  go_wp2_with fail
  refine (spec_l03ZerosN _ _ (by omega)).mono ?_
  rintro e w1 ⟨v1, rfl, own1, bel1⟩
  rw [← M.renT_nil src] at own1
  obtain ⟨A1, c1, rfl, -⟩ := own1.shape
  rw [M.renT_len] at *
  have s1 := bel1.size
  go_wp2_with fail
  go_loopw [8, 9, 10] (fun i _ _ wr => ∃ k : Nat, i = .int .i64 k ∧ k ≤ n' ∧ OI 2 w.heap.size wr (.slice A1 t c1) (M.renT src (xs.take k) t) ∧ Below w.heap.size w wr) (fun i _ _ _ => n' - (intOf i).toNat)
  case atStart => exact ⟨0, rfl, by omega, by simpa using own1, bel1⟩
  case round =>
    obtain ⟨k, rfl, hk, own, hb⟩ := hrel
    obtain ⟨wo, rfl⟩ : ∃ wo : World, wo = wr := ⟨_, rfl⟩
    have hv : wo.cell? ⟨vb, 0, none⟩ = some (.slice A' n' c') := by rw [hb.cell (by simpa using hvb)]; exact hv0
    by_cases hlt : k < n'
    · obtain ⟨b, o, ⟨p0, p1, p2, p3, p4⟩, rfl, hab, X, hc⟩ := (hx.below hb).at cl_len (by decide) hlt
      have hc0 : wo.cell? ⟨b, o + k * 5, none⟩ = some (.int .i64 p0) := hc 0 _ rfl
      have hc1 : wo.cell? ⟨b, o + k * 5 + 1, none⟩ = some (.int .i64 p1) := hc 1 _ rfl
      have hc2 : wo.cell? ⟨b, o + k * 5 + 2, none⟩ = some (.int .i64 p2) := hc 2 _ rfl
      have hc3 : wo.cell? ⟨b, o + k * 5 + 3, none⟩ = some (.int .i64 p3) := hc 3 _ rfl
      have hc4 : wo.cell? ⟨b, o + k * 5 + 4, none⟩ = some (.int .i64 p4) := hc 4 _ rfl
      clear hc
      obtain ⟨b0, b2, b1, b3, b4⟩ := M.clip_bd (M.track_clip HK.out X.out)
      simp only at b0 b1 b2 b3 b4
      have hsl := M.hasS_at HH.out X.out
      simp only at hsl
      rw [hls.out] at hsl
      obtain ⟨s, rfl⟩ : ∃ s : Nat, p0 = s := ⟨p0.toNat, by omega⟩
      obtain ⟨a, rfl⟩ : ∃ a : Nat, p3 = a := ⟨p3.toNat, by omega⟩
      obtain ⟨f, rfl⟩ : ∃ f : Nat, p1 = f := ⟨p1.toNat, by omega⟩
      have hT := Lib.hid (M.take_at X.out)
      have hE0 := Lib.hid (M.renP_zero src (xs.take k) ((s : Int), (f : Int), p2, (a : Int), p4) t)
      have so := hb.size
      go_wp2_with fail
      go_loopw [10] (fun i wr => ∃ m : Nat, i = .int .i64 m ∧ (m : Int) ≤ p2 ∧ OI 2 w.heap.size wr (.slice A1 t c1) (M.renP src (xs.take k) ((s : Int), (f : Int), p2, (a : Int), p4) m t) ∧ Mid w.heap.size wo.heap.size wo wr) (fun i _ => p2.toNat - (intOf i).toNat)
      case atStart => exact ⟨0, rfl, by omega, by rw [hE0.out]; exact own, Mid.refl _ _ _⟩
      case round =>
        obtain ⟨m, rfl, hm, own2, hm2⟩ := hrel
        have bm := hm2.toBelow so
        have BW : Below w.heap.size w wr := hb.trans bm
        have g0 : wr.cell? ⟨b, o + k * 5, none⟩ = some (.int .i64 s) := by rw [bm.cell (by simpa using hab)]; exact hc0
        have g1 : wr.cell? ⟨b, o + k * 5 + 1, none⟩ = some (.int .i64 f) := by rw [bm.cell (by simpa using hab)]; exact hc1
        have g2 : wr.cell? ⟨b, o + k * 5 + 2, none⟩ = some (.int .i64 p2) := by rw [bm.cell (by simpa using hab)]; exact hc2
        have g3 : wr.cell? ⟨b, o + k * 5 + 3, none⟩ = some (.int .i64 a) := by rw [bm.cell (by simpa using hab)]; exact hc3
        have g4 : wr.cell? ⟨b, o + k * 5 + 4, none⟩ = some (.int .i64 p4) := by rw [bm.cell (by simpa using hab)]; exact hc4
        by_cases hml : (m : Int) < p2
        · by_cases hat : a + m < t
          · obtain ⟨g, rfl, hB, hgl⟩ := own.form' (by omega)
            obtain ⟨p, hp⟩ : ∃ p : Nat, p = a + m := ⟨_, rfl⟩
            obtain ⟨q, hq⟩ : ∃ q : Nat, q = f + m := ⟨_, rfl⟩
            have hpt : p < t := by omega
            have hpt2 : (p : Int) < (t : Int) := by omega
            have HP := Lib.hid (show (p : Int) = (a : Int) + (m : Int) by omega)
            have HQ := Lib.hid (show (q : Int) = (f : Int) + (m : Int) by omega)
            obtain ⟨z, Z, hc2, hf2, _, _⟩ := own2.at' (k := p) hpt
            obtain ⟨bb, oo, A3, c3, y, rfl, hbb, Y, hyc, hri, hyl⟩ := src_cell (hs.below BW) SL (k := s) (by omega)
            have hri' := hri.more (B' := wr.heap.size) BW.size
            have hz : z = wrap32 (M.trackSum src (xs.take k) (p : Int)) := by
              have := Z.out
              rw [M.renP_at hpt HP.out, Option.some.injEq] at this
              exact this.symm
            have HZ := Lib.hid hz
            have hst := Lib.hid (M.renP_step (src := src) (xs := xs.take k) (c := ((s : Int), (f : Int), p2, (a : Int), p4)) hpt HP.out hml)
            have hy0 := Lib.hid (show (src[((s : Int)).toNat]?).getD [] = y by rw [Int.toNat_natCast, Y.out]; rfl)
            have hab1 : (a : Int) + (m : Int) < t := by omega
            have e5 : IntKind.i64.wrap ((a : Int) + (m : Int)) = (p : Int) := by rw [IntWalk.i64_in _ (by omega)]; exact HP.out.symm
            have e6 : IntKind.i64.wrap ((f : Int) + (m : Int)) = (q : Int) := by rw [IntWalk.i64_in _ (by omega)]; exact HQ.out.symm
            clear hz hp hq
            go_wp2
            clear hab1
            refine wp_region_still_tail 36 (by kernel_rfl) (by kernel_rfl) ?_
            simp only [List.take_succ_cons, List.take_zero, List.drop_succ_cons, List.drop_zero]
            iterate 33 still_step
            still_call (still_of (spec_l03At _ _ _ _ _ _ hri' hyl))
            still_call (still_of (spec_l01Mul _ _ _))
            still_call (still_of (spec_l01Add _ _ _))
            refine wpStill_nil ?_
            change wpList _ _ _ _ _ wr.drew
            go_wp2
            go_roundw
            case rel =>
              have h3 := OI.stored' own2 p (wrap32 (z + wrap32 (p4 * M.at_ y (q : Int))))
              have he : wrap32 (z + wrap32 (p4 * M.at_ y (q : Int))) = wrap32 (z + p4 * M.at_ y (q : Int)) := by rw [M.wrap32_addr]
              have hst2 := hst.out
              rw [hy0.out, ← HZ.out, ← HQ.out] at hst2
              rw [he, hst2] at h3
              refine ⟨m + 1, by go_num, by omega, ?_, (hm2.trans (Mid.of_grown (grown_setCell wr g p _) fun k hk => by injection hk with hk; omega)).trans ⟨rfl, rfl, rfl, Nat.le_refl _, fun _ _ _ => rfl⟩⟩
              rw [he]
              exact h3
            case measure => simp [intOf]; omega
          · have hnt : ¬ (a : Int) + (m : Int) < (t : Int) := by omega
            have hfin := Lib.hid (M.renP_end src (xs.take k) ((s : Int), (f : Int), p2, (a : Int), p4) m t (.inr (by simp only; omega)))
            go_wp2
            go_roundw
            case rel => exact ⟨k + 1, by go_num, by omega, by rw [hT.out, ← hfin.out]; exact own2, BW⟩
            case measure => simp [intOf]; omega
        · have hfin := Lib.hid (M.renP_end src (xs.take k) ((s : Int), (f : Int), p2, (a : Int), p4) m t (.inl (by simp only; omega)))
          go_wp2
          go_roundw
          case rel => exact ⟨k + 1, by go_num, by omega, by rw [hT.out, ← hfin.out]; exact own2, BW⟩
          case measure => simp [intOf]; omega
    · obtain rfl : n' = k := by omega
      rw [List.take_of_length_le (by rw [hl.out]; exact Nat.le_refl _)] at own
      go_wp2
      go_ret
      exact ⟨_, rfl, own, hb⟩
end Go.Proofs.YtfkcoiefkjmdeaaGreat
namespace Go.Proofs.YtfkcoiefkjmdeaaGreat
open Go.RowKit Go.Sort
set_option maxHeartbeats 4000000
set_option maxRecDepth 100000
set_option linter.unusedVariables false
set_option linter.unusedSimpArgs false
theorem M.nodeOk_start {x : Node} {tb : Int} (h : M.nodeOk x tb = true) : M.inn x.1 1 17 = true ∧ (x.1 = 6 → 1 ≤ x.2.1 ∧ x.2.1 ≤ 16) ∧ (x.1 = 17 → 1 ≤ x.2.2.1 ∧ x.2.2.1 ≤ 16) := by
  obtain ⟨k, a, b, l⟩ := x
  rw [M.nodeOk] at h
  simp only [Bool.and_eq_true] at h
  refine ⟨h.1, fun e => ?_, fun e => ?_⟩
  · simp only at e
    subst e
    have h2 := h.2.1.1.1.1
    simp [M.aI, M.kd, M.kds, M.inn] at h2
    exact h2
  · simp only at e
    subst e
    have h2 := h.2.1.1.1.2
    simp [M.bI, M.kd, M.kds, M.inn] at h2
    exact h2
theorem OI_lit (w : World) (x : Int) : OI 2 w.heap.size (w.alloc (.cells #[.int .i64 x] 2)) (.slice (some ⟨w.heap.size, 0, none⟩) 1 1) [x] :=
  ⟨rfl, .inr ⟨w.heap.size, 1, #[.int .i64 x], rfl, Nat.le_refl _, heap_alloc_new w _, Nat.le_refl _, by simp [maxLen], rfl, rfl⟩⟩
theorem impl_start (a0 a1 a2 : Int) (A : Option Addr) (n c : Nat) (xs : List Int) (tb : Int) (w : World) (hok : M.nodeOk (a0, a1, a2, xs) tb = true) :
    Calls Tryz.prog 132 #[.agg #[.int .i64 a0, .int .i64 a1, .int .i64 a2, .slice A n c]] w (Ret1 2 w (M.start (a0, a1, a2, xs))) := by
  obtain ⟨hk, h6, h17⟩ := M.nodeOk_start hok
  simp only at hk h6 h17
  obtain ⟨W, hW⟩ : ∃ W, W = w.alloc (.cells #[.int .i64 a0, .int .i64 a1, .int .i64 a2, .slice A n c] 122) := ⟨_, rfl⟩
  have B0 : Below w.heap.size w W := by rw [hW]; exact (Below.refl _ _).alloc (Nat.le_refl _) _
  have p0 : W.cell? ⟨w.heap.size, 0, none⟩ = some (.int .i64 a0) := by rw [hW]; simp [go_sem]
  have p1 : W.cell? ⟨w.heap.size, 1, none⟩ = some (.int .i64 a1) := by rw [hW]; simp [go_sem]
  have p2 : W.cell? ⟨w.heap.size, 2, none⟩ = some (.int .i64 a2) := by rw [hW]; simp [go_sem]
  have lW : w.heap.size < W.heap.size := by rw [hW]; simp
  have HW := Lib.hid hW
  clear hW hok
  rcases M.kind_cases hk with rfl | rfl | rfl | rfl | rfl | rfl | rfl | rfl | rfl | rfl | rfl | rfl | rfl | rfl | rfl | rfl | rfl
  case inr.inr.inr.inr.inr.inl =>
    have h6' := h6 rfl
    go_enter Tryz.func132, Tryz.ntmps132
    go_wp2_with (go_at_call 57; rw [← HW.out]; refine (impl_zeros _ _ (by omega) (by omega)).mono ?_; rintro e w1 ⟨v1, rfl, own1, bel1⟩)
    go_ret
    exact ⟨_, rfl, own1.base (by omega), bel_trans B0 bel1⟩
  case inr.inr.inr.inr.inr.inr.inr.inr.inr.inr.inr.inr.inr.inr.inr.inr =>
    have h17' := h17 rfl
    go_enter Tryz.func132, Tryz.ntmps132
    go_wp2_with (go_at_call 57; rw [← HW.out]; refine (impl_zeros _ _ (by omega) (by omega)).mono ?_; rintro e w1 ⟨v1, rfl, own1, bel1⟩)
    go_ret
    exact ⟨_, rfl, own1.base (by omega), bel_trans B0 bel1⟩
  case inr.inr.inr.inr.inr.inr.inr.inr.inr.inr.inr.inl =>
    have O1 := OI_lit W a1
    have B1 : Below w.heap.size w (W.alloc (.cells #[.int .i64 a1] 2)) := B0.alloc B0.size _
    rw [HW.out] at O1 B1
    have hz : (w.alloc (.cells #[.int .i64 12, .int .i64 a1, .int .i64 a2, .slice A n c] 122)).heap.size = w.heap.size + 1 := by simp
    rw [hz] at O1
    go_enter Tryz.func132, Tryz.ntmps132
    go_wp2
    go_ret
    exact ⟨_, rfl, O1.base (by omega), B1⟩
  case inr.inr.inr.inr.inr.inr.inr.inr.inr.inr.inr.inr.inr.inl =>
    have O1 := OI_lit W a1
    have B1 : Below w.heap.size w (W.alloc (.cells #[.int .i64 a1] 2)) := B0.alloc B0.size _
    rw [HW.out] at O1 B1
    have hz : (w.alloc (.cells #[.int .i64 14, .int .i64 a1, .int .i64 a2, .slice A n c] 122)).heap.size = w.heap.size + 1 := by simp
    rw [hz] at O1
    go_enter Tryz.func132, Tryz.ntmps132
    go_wp2
    go_ret
    exact ⟨_, rfl, O1.base (by omega), B1⟩
  all_goals
    go_enter Tryz.func132, Tryz.ntmps132
    go_wp2_with (go_at_call 57; rw [← HW.out]; refine (impl_zeros _ _ (by omega) (by omega)).mono ?_; rintro e w1 ⟨v1, rfl, own1, bel1⟩)
    go_ret
    exact ⟨_, rfl, own1.base (by omega), bel_trans B0 bel1⟩
/-- A list by indices. -/
def M.mapI (fs vs : List Int) : List Int := fs.map fun f => M.i_ vs f.toNat
theorem M.mapI_len (fs vs : List Int) : (M.mapI fs vs).length = fs.length := by simp [M.mapI]
theorem M.mapI_at {fs vs : List Int} {k : Nat} {f : Int} (h : fs[k]? = some f) : (M.mapI fs vs).take (k + 1) = (M.mapI fs vs).take k ++ [M.i_ vs f.toNat] := by
  rw [M.take_at]
  simp [M.mapI, h]
theorem i_get {vs : List Int} {k : Nat} {v : Int} (h : vs[k]? = some v) : M.i_ vs k = v := by rw [M.i_, h]; rfl
theorem impl_mapped (A A' : Option Addr) (n c n' c' : Nat) (fs vs : List Int) (w : World) (hx : RI w w.heap.size A n fs) (hv : RI w w.heap.size A' n' vs) (hn : n ≤ 1000000000) (hn' : n' ≤ 1000000000) (hr : Hid (∀ f ∈ fs, 0 ≤ f ∧ f < n')) :
    Calls Tryz.prog 144 #[.slice A n c, .slice A' n' c'] w (Ret1 2 w (M.mapI fs vs)) := by
  have hl := Lib.hid hx.len
  go_enter Tryz.func144, Tryz.ntmps144
  go_wp2_with fail
  go_loopw [5, 11] (fun v i wr => ∃ k : Nat, i = .int .i64 k ∧ k ≤ n ∧ OI 2 w.heap.size wr v ((M.mapI fs vs).take k) ∧ Below w.heap.size w wr) (fun _ i _ => n - (intOf i).toNat)
  case atStart => exact ⟨0, rfl, by omega, OI.made _ _, (Below.refl _ _).alloc (Nat.le_refl _) _⟩
  case round =>
    obtain ⟨k, rfl, hk, own, hb⟩ := hrel
    by_cases hlt : k < n
    · obtain ⟨ad, f, rfl, hab, X, hc⟩ := ((hx.below hb).more hb.size).at hlt
      have hfr := hr.out f (List.mem_of_getElem? X.out)
      obtain ⟨m, rfl⟩ : ∃ m : Nat, f = (m : Int) := ⟨f.toNat, by omega⟩
      obtain ⟨ad2, y, rfl, hab2, Y, hc2⟩ := ((hv.below hb).more hb.size).at (k := m) (by omega)
      have HT := Lib.hid (show (M.mapI fs vs).take (k + 1) = (M.mapI fs vs).take k ++ [y] by rw [M.mapI_at X.out, Int.toNat_natCast, i_get Y.out])
      have hk1 : ((M.mapI fs vs).take k).length ≤ 1000000000 := by rw [List.length_take]; omega
      have hm0 : (0 : Int) ≤ (m : Int) := by omega
      have hmn : (m : Int) < (n' : Int) := by omega
      clear hfr
      go_wp2_with (at_builtin; refine wpList_push1 ei_i64 rfl _ _ rfl own rfl rfl rfl (by unfold maxLen; omega) (by omega) hb.size ?_; intro v1 w1 own1 gr1 bel1)
      go_roundw
      case rel => exact ⟨k + 1, by go_num, by omega, by rw [HT.out]; exact OI.push own1, hb.trans bel1⟩
      case measure => simp [intOf]; omega
    · go_wp2
      go_ret
      rw [List.take_of_length_le (by rw [M.mapI_len, hl.out]; omega)] at own
      exact ⟨_, rfl, own, hb⟩
end Go.Proofs.YtfkcoiefkjmdeaaGreat
namespace Go.Proofs.YtfkcoiefkjmdeaaGreat
open Go.RowKit Go.Sort
set_option maxHeartbeats 4000000
set_option maxRecDepth 100000
set_option linter.unusedVariables false
set_option linter.unusedSimpArgs false
theorem ri_lit {w : World} {B : Nat} {A : Option Addr} {n : Nat} {xs : List Int} (h : RI w B A n xs) (hn : 0 < n) : ∃ b o, A = some ⟨b, o, none⟩ ∧ b < B ∧ ∀ k x, xs[k]? = some x → w.cell? ⟨b, o + k, none⟩ = some (.int .i64 x) := by
  obtain ⟨ad, rfl, hb, hc⟩ := h.2 hn
  have hl : 0 < xs.length := by rw [h.len]; exact hn
  have h0 := hc 0 (.int .i64 xs[0]) (by simp [hl])
  have hsp := spot_none h0
  have e : ad = ⟨ad.block, ad.off, none⟩ := by simpa [Addr.add] using hsp
  refine ⟨ad.block, ad.off, by rw [← e], hb, fun k x hx => ?_⟩
  have := hc k (.int .i64 x) (by simp [hx])
  rw [e, Addr.add_lit] at this
  exact this
def M.insLen (k : Int) : Nat := if k = 1 then 1 else (M.ar k.toNat).toNat
theorem len0 {xs : List Int} (h : xs.length = 0) : xs = [] := List.eq_nil_of_length_eq_zero h
theorem len1 {xs : List Int} (h : xs.length = 1) : ∃ a, xs = [a] := by
  match xs, h with
  | [a], _ => exact ⟨a, rfl⟩
theorem len2 {xs : List Int} (h : xs.length = 2) : ∃ a b, xs = [a, b] := by
  match xs, h with
  | [a, b], _ => exact ⟨a, b, rfl⟩
theorem len3 {xs : List Int} (h : xs.length = 3) : ∃ a b c, xs = [a, b, c] := by
  match xs, h with
  | [a, b, c], _ => exact ⟨a, b, c, rfl⟩
theorem and_one (n : Int) : bits .and .i64 n 1 = n % 2 := by
  have h0 : 0 ≤ n % 18446744073709551616 := Int.emod_nonneg _ (by decide)
  have hx : ((BitVec.ofInt 64 n &&& BitVec.ofInt 64 1).toNat : Int) = n % 2 := by
    rw [BitVec.toNat_and, show (BitVec.ofInt 64 1).toNat = 2 ^ 1 - 1 from by decide, Nat.and_two_pow_sub_one_eq_mod, BitVec.toNat_ofInt]
    omega
  show IntKind.i64.wrap ((BitVec.ofInt 64 n &&& BitVec.ofInt 64 1).toNat : Int) = _
  rw [hx, IntKind.wrap_i64]
  omega
theorem impl_unsigned (x : Int) (w : World) : Calls Tryz.prog 151 #[.int .i64 x] w fun e w' => e = .returned (.int .i64 (x % 4294967296)) ∧ w = w' := by
  go_enter Tryz.func151, Tryz.ntmps151
  go_wp2
  go_ret
  exact ⟨rfl, rfl⟩
theorem impl_isOdd (x : Int) (w : World) : Calls Tryz.prog 152 #[.int .i64 x] w fun e w' => e = .returned (.bool (decide (x % 2 = 1))) ∧ w = w' := by
  go_enter Tryz.func152, Tryz.ntmps152
  go_wp2
  go_ret
  exact ⟨ret_bool (by rw [and_one, Bool.eq_iff_iff]; simp), rfl⟩
theorem impl_noise (x : Int) (w : World) : Calls Tryz.prog 149 #[.int .i64 x] w fun e w' => e = .returned (.int .i64 (M.noise x)) ∧ w = w' := by
  obtain ⟨u, hu⟩ : ∃ u : Nat, x % 4294967296 = (u : Int) := ⟨(x % 4294967296).toNat, by omega⟩
  have HU := Lib.hid hu
  have hub : u < 4294967296 := by omega
  by_cases h : x % 2 = 1
  · have HD := Lib.hid (decide_eq_true h)
    have R := Lib.hid (show M.noise x = wrap32 (M.xorN ((u : Int) / 2)) by rw [M.noise, if_pos h, hu])
    clear h hu
    go_enter Tryz.func149, Tryz.ntmps149
    go_wp2_with (first
      | (go_at_call 151; refine (impl_unsigned _ _).mono ?_; rw [HU.out]; rintro e w' ⟨rfl, rfl⟩)
      | (go_at_call 152; refine (impl_isOdd _ _).mono ?_; rw [HD.out]; rintro e w' ⟨rfl, rfl⟩)
      | (go_at_call 58; refine (impl_Wrap _ _).mono ?_; rintro e w' ⟨rfl, rfl⟩))
    go_ret
    exact ⟨ret_int (by rw [R.out, M.xorN]), rfl⟩
  · have HD := Lib.hid (decide_eq_false h)
    have R := Lib.hid (show M.noise x = wrap32 ((u : Int) / 2) by rw [M.noise, if_neg h, hu])
    clear h hu
    go_enter Tryz.func149, Tryz.ntmps149
    go_wp2_with (first
      | (go_at_call 151; refine (impl_unsigned _ _).mono ?_; rw [HU.out]; rintro e w' ⟨rfl, rfl⟩)
      | (go_at_call 152; refine (impl_isOdd _ _).mono ?_; rw [HD.out]; rintro e w' ⟨rfl, rfl⟩)
      | (go_at_call 58; refine (impl_Wrap _ _).mono ?_; rintro e w' ⟨rfl, rfl⟩))
    go_ret
    exact ⟨ret_int (by rw [R.out]), rfl⟩
theorem look_at (t : List Int) (x : Int) (hn : 1 ≤ t.length ∧ t.length ≤ 16) : ∃ (u q : Nat) (y : Int), x % 4294967296 = (u : Int) ∧ u < 4294967296 ∧ ((t.length : Int) * (u : Int)) / 4294967296 = (q : Int) ∧ q < t.length ∧ t[q]? = some y ∧ M.look t x = y := by
  obtain ⟨u, hu⟩ : ∃ u : Nat, x % 4294967296 = (u : Int) := ⟨(x % 4294967296).toNat, by omega⟩
  have hub : u < 4294967296 := by omega
  obtain ⟨q, hq⟩ : ∃ q : Nat, ((t.length : Int) * (u : Int)) / 4294967296 = (q : Int) := ⟨t.length * u / 4294967296, by simp⟩
  have hqt : q < t.length := by
    have h1 : t.length * u < t.length * 4294967296 := Nat.mul_lt_mul_of_pos_left hub (by omega)
    have h2 : ((t.length : Int) * (u : Int)) = ((t.length * u : Nat) : Int) := by simp
    rw [h2] at hq
    omega
  exact ⟨u, q, t[q], hu, hub, hq, hqt, List.getElem?_eq_getElem hqt, by rw [M.look, hu, hq, Int.toNat_natCast, i_get (List.getElem?_eq_getElem hqt)]⟩
theorem impl_out1 (a1 a2 : Int) (A : Option Addr) (n c : Nat) (b o ci : Nat) (i0 : Int) (At : Option Addr) (nt ct : Nat) (w : World) (c0 : w.cell? ⟨b, o, none⟩ = some (.int .i64 i0)) :
    Calls Tryz.prog 150 #[.agg #[.int .i64 1, .int .i64 a1, .int .i64 a2, .slice A n c], .slice At nt ct, .slice (some ⟨b, o, none⟩) 1 ci] w fun e w' => e = .returned (.int .i64 (i0)) ∧ Below w.heap.size w w' := by
  have lb : b < w.heap.size := World.block_lt_of_cell? w _ c0
  go_enter Tryz.func150, Tryz.ntmps150
  go_wp2
  go_ret
  exact ⟨rfl, (Below.refl _ _).alloc (Nat.le_refl _) _⟩
theorem impl_out2 (a1 a2 : Int) (A : Option Addr) (n c : Nat) (Ai : Option Addr) (ci : Nat) (At : Option Addr) (nt ct : Nat) (w : World) :
    Calls Tryz.prog 150 #[.agg #[.int .i64 2, .int .i64 a1, .int .i64 a2, .slice A n c], .slice At nt ct, .slice Ai 0 ci] w fun e w' => e = .returned (.int .i64 (a1)) ∧ Below w.heap.size w w' := by
  skip
  go_enter Tryz.func150, Tryz.ntmps150
  go_wp2
  go_ret
  exact ⟨rfl, (Below.refl _ _).alloc (Nat.le_refl _) _⟩
theorem impl_out3 (a1 a2 : Int) (A : Option Addr) (n c : Nat) (b o ci : Nat) (i0 i1 : Int) (At : Option Addr) (nt ct : Nat) (w : World) (c0 : w.cell? ⟨b, o, none⟩ = some (.int .i64 i0)) (c1 : w.cell? ⟨b, o + 1, none⟩ = some (.int .i64 i1)) (hi : -2147483648 ≤ i0 ∧ i0 ≤ 2147483647 ∧ -2147483648 ≤ i1 ∧ i1 ≤ 2147483647) :
    Calls Tryz.prog 150 #[.agg #[.int .i64 3, .int .i64 a1, .int .i64 a2, .slice A n c], .slice At nt ct, .slice (some ⟨b, o, none⟩) 2 ci] w fun e w' => e = .returned (.int .i64 (wrap32 (i0 + i1))) ∧ Below w.heap.size w w' := by
  have lb : b < w.heap.size := World.block_lt_of_cell? w _ c0
  go_enter Tryz.func150, Tryz.ntmps150
  go_wp2_with fail
  go_quiet (exact quiet_left (impl_Wrap _ _))
  go_wp2
  go_ret
  exact ⟨ret_int (by first | rfl | exact M.wrap32_64 _ | exact (M.wrap32_64 _).symm), below_drewN ((Below.refl _ _).alloc (Nat.le_refl _) _) _⟩
theorem impl_out4 (a1 a2 : Int) (A : Option Addr) (n c : Nat) (b o ci : Nat) (i0 i1 : Int) (At : Option Addr) (nt ct : Nat) (w : World) (c0 : w.cell? ⟨b, o, none⟩ = some (.int .i64 i0)) (c1 : w.cell? ⟨b, o + 1, none⟩ = some (.int .i64 i1)) (hi : -2147483648 ≤ i0 ∧ i0 ≤ 2147483647 ∧ -2147483648 ≤ i1 ∧ i1 ≤ 2147483647) :
    Calls Tryz.prog 150 #[.agg #[.int .i64 4, .int .i64 a1, .int .i64 a2, .slice A n c], .slice At nt ct, .slice (some ⟨b, o, none⟩) 2 ci] w fun e w' => e = .returned (.int .i64 (wrap32 (i0 - i1))) ∧ Below w.heap.size w w' := by
  have lb : b < w.heap.size := World.block_lt_of_cell? w _ c0
  go_enter Tryz.func150, Tryz.ntmps150
  go_wp2_with fail
  go_quiet (exact quiet_left (impl_Wrap _ _))
  go_wp2
  go_ret
  exact ⟨ret_int (by first | rfl | exact M.wrap32_64 _ | exact (M.wrap32_64 _).symm), below_drewN ((Below.refl _ _).alloc (Nat.le_refl _) _) _⟩
theorem impl_out5 (a1 a2 : Int) (A : Option Addr) (n c : Nat) (b o ci : Nat) (i0 : Int) (At : Option Addr) (nt ct : Nat) (w : World) (c0 : w.cell? ⟨b, o, none⟩ = some (.int .i64 i0)) (ha : -2147483648 ≤ a1 ∧ a1 ≤ 2147483647) (hi : -2147483648 ≤ i0 ∧ i0 ≤ 2147483647) :
    Calls Tryz.prog 150 #[.agg #[.int .i64 5, .int .i64 a1, .int .i64 a2, .slice A n c], .slice At nt ct, .slice (some ⟨b, o, none⟩) 1 ci] w fun e w' => e = .returned (.int .i64 (wrap32 (a1 * i0))) ∧ Below w.heap.size w w' := by
  have lb : b < w.heap.size := World.block_lt_of_cell? w _ c0
  go_enter Tryz.func150, Tryz.ntmps150
  go_wp2_with fail
  go_quiet (exact quiet_left (impl_Wrap _ _))
  go_wp2
  go_ret
  exact ⟨ret_int (by first | rfl | exact M.wrap32_64 _ | exact (M.wrap32_64 _).symm), below_drewN ((Below.refl _ _).alloc (Nat.le_refl _) _) _⟩
theorem impl_out9 (a1 a2 : Int) (A : Option Addr) (n c : Nat) (b o ci : Nat) (i0 i1 : Int) (At : Option Addr) (nt ct : Nat) (w : World) (c0 : w.cell? ⟨b, o, none⟩ = some (.int .i64 i0)) (c1 : w.cell? ⟨b, o + 1, none⟩ = some (.int .i64 i1)) (hi : -2147483648 ≤ i0 ∧ i0 ≤ 2147483647 ∧ -2147483648 ≤ i1 ∧ i1 ≤ 2147483647) :
    Calls Tryz.prog 150 #[.agg #[.int .i64 9, .int .i64 a1, .int .i64 a2, .slice A n c], .slice At nt ct, .slice (some ⟨b, o, none⟩) 2 ci] w fun e w' => e = .returned (.int .i64 (wrap32 (i0 * i1))) ∧ Below w.heap.size w w' := by
  have lb : b < w.heap.size := World.block_lt_of_cell? w _ c0
  go_enter Tryz.func150, Tryz.ntmps150
  go_wp2_with fail
  go_quiet (exact quiet_left (impl_Wrap _ _))
  go_wp2
  go_ret
  exact ⟨ret_int (by first | rfl | exact M.wrap32_64 _ | exact (M.wrap32_64 _).symm), below_drewN ((Below.refl _ _).alloc (Nat.le_refl _) _) _⟩
theorem impl_out10 (a1 a2 : Int) (A : Option Addr) (n c : Nat) (b o ci : Nat) (i0 : Int) (At : Option Addr) (nt ct : Nat) (w : World) (c0 : w.cell? ⟨b, o, none⟩ = some (.int .i64 i0)) (ha : 0 ≤ a1 ∧ a1 ≤ 31) (hi : -2147483648 ≤ i0 ∧ i0 ≤ 2147483647) :
    Calls Tryz.prog 150 #[.agg #[.int .i64 10, .int .i64 a1, .int .i64 a2, .slice A n c], .slice At nt ct, .slice (some ⟨b, o, none⟩) 1 ci] w fun e w' => e = .returned (.int .i64 (i0 / 2 ^ a1.toNat)) ∧ Below w.heap.size w w' := by
  have lb : b < w.heap.size := World.block_lt_of_cell? w _ c0
  go_enter Tryz.func150, Tryz.ntmps150
  go_wp2_with fail
  go_quiet (fail)
  go_wp2
  go_ret
  exact ⟨rfl, below_drewN ((Below.refl _ _).alloc (Nat.le_refl _) _) _⟩
theorem impl_out11 (a1 a2 : Int) (A : Option Addr) (n c : Nat) (b o ci : Nat) (i0 : Int) (At : Option Addr) (nt ct : Nat) (w : World) (c0 : w.cell? ⟨b, o, none⟩ = some (.int .i64 i0)) (ha : 0 ≤ a1 ∧ a1 ≤ 2147483647) (hi : -2147483648 ≤ i0 ∧ i0 ≤ 2147483647) :
    Calls Tryz.prog 150 #[.agg #[.int .i64 11, .int .i64 a1, .int .i64 a2, .slice A n c], .slice At nt ct, .slice (some ⟨b, o, none⟩) 1 ci] w fun e w' => e = .returned (.int .i64 (max (-a1) (min a1 i0))) ∧ Below w.heap.size w w' := by
  have lb : b < w.heap.size := World.block_lt_of_cell? w _ c0
  have hneg : wrap64 (-a1) = -a1 := M.wrap64_in _ (by omega)
  rcases (show (i0 < -a1) ∨ (-a1 ≤ i0 ∧ i0 < a1) ∨ (a1 ≤ i0) by omega) with h | h | h
  · have R := Lib.hid (show max (-a1) (min a1 i0) = -a1 by omega)
    have h1 : i0 < a1 := by omega
    have h2 : ¬ -a1 < i0 := by omega
    have h3 : ¬ a1 < i0 := by omega
    go_enter Tryz.func150, Tryz.ntmps150
    go_wp2_with fail
    go_quiet (fail)
    go_wp2
    all_goals
      go_ret
      exact ⟨ret_int (by omega), below_drewN ((Below.refl _ _).alloc (Nat.le_refl _) _) _⟩
  · have R := Lib.hid (show max (-a1) (min a1 i0) = i0 by omega)
    have h1 : i0 < a1 := by omega
    have h2 : ¬ i0 < -a1 := by omega
    have h3 : ¬ a1 < i0 := by omega
    go_enter Tryz.func150, Tryz.ntmps150
    go_wp2_with fail
    go_quiet (fail)
    go_wp2
    all_goals
      go_ret
      exact ⟨ret_int (by omega), below_drewN ((Below.refl _ _).alloc (Nat.le_refl _) _) _⟩
  · have R := Lib.hid (show max (-a1) (min a1 i0) = a1 by omega)
    have h1 : ¬ i0 < a1 := by omega
    have h2 : ¬ a1 < -a1 := by omega
    go_enter Tryz.func150, Tryz.ntmps150
    go_wp2_with fail
    go_quiet (fail)
    go_wp2
    all_goals
      go_ret
      exact ⟨ret_int (by omega), below_drewN ((Below.refl _ _).alloc (Nat.le_refl _) _) _⟩
theorem impl_out13 (a1 a2 : Int) (A : Option Addr) (n c : Nat) (b o ci : Nat) (i0 : Int) (bt ot nt ct : Nat) (A1 : Option Addr) (c1 j n2 : Nat) (t : List Int) (w : World) (c0 : w.cell? ⟨b, o, none⟩ = some (.int .i64 i0)) (ha : a1 = (j : Int) ∧ j < nt ∧ nt ≤ 4) (e0 : w.cell? ⟨bt, ot + j, none⟩ = some (.slice A1 n2 c1)) (ht : RI w w.heap.size A1 n2 t) (hn : 1 ≤ n2 ∧ n2 ≤ 16) :
    Calls Tryz.prog 150 #[.agg #[.int .i64 13, .int .i64 a1, .int .i64 a2, .slice A n c], .slice (some ⟨bt, ot, none⟩) nt ct, .slice (some ⟨b, o, none⟩) 1 ci] w fun e w' => e = .returned (.int .i64 (M.look t i0)) ∧ Below w.heap.size w w' := by
  have lb : b < w.heap.size := World.block_lt_of_cell? w _ c0
  have lbt : bt < w.heap.size := World.block_lt_of_cell? w _ e0
  obtain ⟨W, hW⟩ : ∃ W, W = w.alloc (.cells #[.int .i64 13, .int .i64 a1, .int .i64 a2, .slice A n c] 122) := ⟨_, rfl⟩
  obtain ⟨rfl, hj, hnt⟩ := ha
  have hj0 : (0 : Int) ≤ (j : Int) := by omega
  have hjn : (j : Int) < (nt : Int) := by omega
  have hl2 := ht.len
  obtain ⟨u, q, y, hu, hub, hq, hqn, hy, hM⟩ := look_at t i0 (by omega)
  rw [hl2] at hq hqn
  obtain ⟨b2, o2, rfl, hb2, hc2⟩ := ri_lit ht (by omega)
  have cy := hc2 q y hy
  have h3 : n2 * u < n2 * 4294967296 := Nat.mul_lt_mul_of_pos_left hub (by omega)
  have hw : IntKind.i64.wrap ((n2 : Int) * (u : Int)) = (n2 : Int) * (u : Int) := IntWalk.i64_in _ (by
    have h2 : ((n2 : Int) * (u : Int)) = ((n2 * u : Nat) : Int) := by simp
    rw [h2]
    omega)
  have hw2 : wrap64 ((n2 : Int) * (u : Int)) = (n2 : Int) * (u : Int) := M.wrap64_in _ (by
    have h2 : ((n2 : Int) * (u : Int)) = ((n2 * u : Nat) : Int) := by simp
    rw [h2]
    omega)
  have hq0 : (0 : Int) ≤ (q : Int) := by omega
  have hqm : (q : Int) < (n2 : Int) := by omega
  have R := Lib.hid hM
  have cU : ∀ w, Calls Tryz.prog 151 #[.int .i64 i0] w fun e w' => e = .returned (.int .i64 (u : Int)) ∧ w = w' := fun w => by rw [← hu]; exact impl_unsigned i0 w
  clear hc2 hM h3 ht hu hW W hl2
  go_enter Tryz.func150, Tryz.ntmps150
  go_wp2_with fail
  go_quiet (first | exact quiet_left (cU _) | exact quiet_left (impl_size_int64 _ _ _ _))
  go_wp2
  go_ret
  exact ⟨ret_int (by rw [R.out]), below_drewN ((Below.refl _ _).alloc (Nat.le_refl _) _) _⟩
theorem impl_out15 (a1 a2 : Int) (A : Option Addr) (n c : Nat) (b o ci : Nat) (i0 i1 i2 : Int) (At : Option Addr) (nt ct : Nat) (w : World) (c0 : w.cell? ⟨b, o, none⟩ = some (.int .i64 i0)) (c1 : w.cell? ⟨b, o + 1, none⟩ = some (.int .i64 i1)) (c2 : w.cell? ⟨b, o + 2, none⟩ = some (.int .i64 i2)) (hi : -2147483648 ≤ i0 ∧ i0 ≤ 2147483647 ∧ -2147483648 ≤ i1 ∧ i1 ≤ 2147483647 ∧ -2147483648 ≤ i2 ∧ i2 ≤ 2147483647) :
    Calls Tryz.prog 150 #[.agg #[.int .i64 15, .int .i64 a1, .int .i64 a2, .slice A n c], .slice At nt ct, .slice (some ⟨b, o, none⟩) 3 ci] w fun e w' => e = .returned (.int .i64 ((if 0 ≤ i0 then i1 else i2))) ∧ Below w.heap.size w w' := by
  have lb : b < w.heap.size := World.block_lt_of_cell? w _ c0
  by_cases h : 0 ≤ i0
  · have R := Lib.hid (show (if 0 ≤ i0 then i1 else i2) = i1 from if_pos h)
    go_enter Tryz.func150, Tryz.ntmps150
    go_wp2
    go_ret
    exact ⟨ret_int (by first | rfl | exact R.out | exact R.out.symm), (Below.refl _ _).alloc (Nat.le_refl _) _⟩
  · have R := Lib.hid (show (if 0 ≤ i0 then i1 else i2) = i2 from if_neg h)
    go_enter Tryz.func150, Tryz.ntmps150
    go_wp2
    go_ret
    exact ⟨ret_int (by first | rfl | exact R.out | exact R.out.symm), (Below.refl _ _).alloc (Nat.le_refl _) _⟩
end Go.Proofs.YtfkcoiefkjmdeaaGreat
