import Derived.Test.YtacgcagpaecncaaGreatFnExactMuteTracksG7
import Derived.Lib.QuietBelow
import Derived.Deep.RegionWith
import Derived.Test.YtacgcagpaecncaaGreatFnExactMuteTracksG4
import Derived.Test.YtacgcagpaecncaaGreatFnExactMuteTracksG6
import Derived.Test.YtacgcagpaecncaaGreatFnExactMuteTracksG1
import Derived.Deep.DeepCutAuto
set_option linter.unusedVariables false
set_option linter.unusedSimpArgs false
namespace Go.Proofs.YtacgcagpaecncaaGreat
open Go.RowKit Go.Sort
set_option maxHeartbeats 4000000
set_option maxRecDepth 100000
set_option linter.unusedVariables false
set_option linter.unusedSimpArgs false
set_option synthInstance.maxSize 2000
set_option synthInstance.maxHeartbeats 400000
theorem impl_isWellFormed (a0 : Int) (A1 : Option Addr) (n1 c1 : Nat) (A2 : Option Addr) (n2 c2 : Nat) (A3 : Option Addr) (n3 c3 : Nat) (x1 : List (List Int)) (x2 : List Node) (x3 : List Int) (w : World) (h1 : tSS.R w w.heap.size [.slice A1 n1 c1] x1) (h2 : tNS.R w w.heap.size [.slice A2 n2 c2] x2) (h3 : tS.R w w.heap.size [.slice A3 n3 c3] x3) (hn : hP.sz ((a0, x1, x2, x3) : Patch) ≤ 100000000) :
    Calls Tryz.prog 134 #[.agg #[.int .i64 a0, .slice A1 n1 c1, .slice A2 n2 c2, .slice A3 n3 c3]] w fun e w' => e = .returned (.bool (M.formed (a0, x1, x2, x3))) ∧ Below w.heap.size w w' := by
  obtain ⟨W, hW⟩ : ∃ W, W = w.alloc (.cells #[.int .i64 a0, .slice A1 n1 c1, .slice A2 n2 c2, .slice A3 n3 c3] 68) := ⟨_, rfl⟩
  have B0 : Below w.heap.size w W := by rw [hW]; exact (Below.refl _ _).alloc (Nat.le_refl _) _
  have p0 : W.cell? ⟨w.heap.size, 0, none⟩ = some (.int .i64 a0) := by rw [hW]; simp [go_sem]
  have p1 : W.cell? ⟨w.heap.size, 1, none⟩ = some (.slice A1 n1 c1) := by rw [hW]; simp [go_sem]
  have p2 : W.cell? ⟨w.heap.size, 2, none⟩ = some (.slice A2 n2 c2) := by rw [hW]; simp [go_sem]
  have p3 : W.cell? ⟨w.heap.size, 3, none⟩ = some (.slice A3 n3 c3) := by rw [hW]; simp [go_sem]
  have lx : w.heap.size < W.heap.size := by rw [hW]; simp
  have HW := Lib.hid hW
  clear hW
  have k1 := tSS.later h1 B0
  have k2 := tNS.later h2 B0
  have k3 := tS.later h3 B0
  have r1 := sl_R.1 k1
  have r2 := sl_R.1 k2
  have hx3 := (tS_R.1 k3).ri
  have L1 := Lib.hid r1.cap.1
  have L2 := Lib.hid r2.cap.1
  have L3 := Lib.hid (tS_len h3)
  have hnn := hn
  rw [hP_sz, hS_sz] at hnn
  have hb2 : hNS.sz x2 ≤ 100000000 := by omega
  have hq1 : x1.length + hS.szL x1 = hSS.sz x1 := rfl
  have hb1 : Hid (∀ x ∈ x1, x.length ≤ 1000000000) := Lib.hid (fun x hx => by
    obtain ⟨i, hi⟩ := List.getElem?_of_mem hx
    have := hS.szL_at hi
    rw [hS_sz] at this
    omega)
  have bn1 : n1 ≤ 100000000 := by have := L1.out; omega
  have bn2 : n2 ≤ 100000000 := by have e : x2.length + hN.szL x2 = hNS.sz x2 := rfl; have := L2.out; omega
  have bn3 : n3 ≤ 100000000 := by have := L3.out; omega
  clear hnn hq1
  clear hn h1 h2 h3 k1 k2 k3
  cases g0 : M.inn a0 0 4
  · have R := Lib.hid (show M.formed (a0, x1, x2, x3) = false by rw [M.formed]; simp only [L1.out, L2.out, L3.out, g0, Bool.false_and, Bool.and_false, Bool.true_and])
    have G0 := Lib.hid g0
    clear g0
    go_enter Tryz.func134, Tryz.ntmps134
    go_wp2_with fail
    rw [← HW.out]
    go_wp2_with (first | (go_at_call 151; refine (impl_size_impl_Node _ _ _ _).mono ?_; rintro e w' ⟨rfl, rfl⟩) | (go_at_call 153; refine (impl_size_int64 _ _ _ _).mono ?_; rintro e w' ⟨rfl, rfl⟩) | (go_at_call 62; refine (impl_within _ _ _ _).mono ?_; rw [G0.out]; rintro e w' ⟨rfl, rfl⟩))
    go_ret
    exact ⟨ret_bool (by rw [R.out]), B0⟩
  have G0 := Lib.hid g0
  clear g0
  cases g1 : M.tabsOk x1
  · have R := Lib.hid (show M.formed (a0, x1, x2, x3) = false by rw [M.formed]; simp only [L1.out, L2.out, L3.out, G0.out, g1, Bool.false_and, Bool.and_false, Bool.true_and])
    have G1 := Lib.hid g1
    clear g1
    go_enter Tryz.func134, Tryz.ntmps134
    go_wp2_with fail
    rw [← HW.out]
    go_wp2_with (first | (go_at_call 151; refine (impl_size_impl_Node _ _ _ _).mono ?_; rintro e w' ⟨rfl, rfl⟩) | (go_at_call 153; refine (impl_size_int64 _ _ _ _).mono ?_; rintro e w' ⟨rfl, rfl⟩) | (go_at_call 62; refine (impl_within _ _ _ _).mono ?_; rw [G0.out]; rintro e w' ⟨rfl, rfl⟩) | (go_at_call 152; refine (impl_areTables _ _ _ _ _ r1 hb1 (by omega)).mono ?_; rw [G1.out]; rintro e w' ⟨rfl, rfl⟩))
    go_ret
    exact ⟨ret_bool (by rw [R.out]), B0⟩
  have G1 := Lib.hid g1
  clear g1
  by_cases g2 : ¬ n2 ≤ 24
  · have R := Lib.hid (show M.formed (a0, x1, x2, x3) = false by rw [M.formed]; simp only [L1.out, L2.out, L3.out, G0.out, G1.out, decide_eq_false g2, Bool.false_and, Bool.and_false, Bool.true_and])
    go_enter Tryz.func134, Tryz.ntmps134
    go_wp2_with fail
    rw [← HW.out]
    go_wp2_with (first | (go_at_call 151; refine (impl_size_impl_Node _ _ _ _).mono ?_; rintro e w' ⟨rfl, rfl⟩) | (go_at_call 153; refine (impl_size_int64 _ _ _ _).mono ?_; rintro e w' ⟨rfl, rfl⟩) | (go_at_call 62; refine (impl_within _ _ _ _).mono ?_; rw [G0.out]; rintro e w' ⟨rfl, rfl⟩) | (go_at_call 152; refine (impl_areTables _ _ _ _ _ r1 hb1 (by omega)).mono ?_; rw [G1.out]; rintro e w' ⟨rfl, rfl⟩))
    go_ret
    exact ⟨ret_bool (by rw [R.out]), B0⟩
  replace g2 : n2 ≤ 24 := Decidable.not_not.1 g2
  by_cases g3 : ¬ n3 ≤ 4
  · have R := Lib.hid (show M.formed (a0, x1, x2, x3) = false by rw [M.formed]; simp only [L1.out, L2.out, L3.out, G0.out, G1.out, decide_eq_true g2, decide_eq_false g3, Bool.false_and, Bool.and_false, Bool.true_and])
    go_enter Tryz.func134, Tryz.ntmps134
    go_wp2_with fail
    rw [← HW.out]
    go_wp2_with (first | (go_at_call 151; refine (impl_size_impl_Node _ _ _ _).mono ?_; rintro e w' ⟨rfl, rfl⟩) | (go_at_call 153; refine (impl_size_int64 _ _ _ _).mono ?_; rintro e w' ⟨rfl, rfl⟩) | (go_at_call 62; refine (impl_within _ _ _ _).mono ?_; rw [G0.out]; rintro e w' ⟨rfl, rfl⟩) | (go_at_call 152; refine (impl_areTables _ _ _ _ _ r1 hb1 (by omega)).mono ?_; rw [G1.out]; rintro e w' ⟨rfl, rfl⟩))
    go_ret
    exact ⟨ret_bool (by rw [R.out]), B0⟩
  replace g3 : n3 ≤ 4 := Decidable.not_not.1 g3
  cases g4 : x3.all (M.idx n2)
  · have R := Lib.hid (show M.formed (a0, x1, x2, x3) = false by rw [M.formed]; simp only [L1.out, L2.out, L3.out, G0.out, G1.out, decide_eq_true g2, decide_eq_true g3, g4, Bool.false_and, Bool.and_false, Bool.true_and])
    have G4 := Lib.hid g4
    clear g4
    go_enter Tryz.func134, Tryz.ntmps134
    go_wp2_with fail
    rw [← HW.out]
    go_wp2_with (first | (go_at_call 151; refine (impl_size_impl_Node _ _ _ _).mono ?_; rintro e w' ⟨rfl, rfl⟩) | (go_at_call 153; refine (impl_size_int64 _ _ _ _).mono ?_; rintro e w' ⟨rfl, rfl⟩) | (go_at_call 62; refine (impl_within _ _ _ _).mono ?_; rw [G0.out]; rintro e w' ⟨rfl, rfl⟩) | (go_at_call 152; refine (impl_areTables _ _ _ _ _ r1 hb1 (by omega)).mono ?_; rw [G1.out]; rintro e w' ⟨rfl, rfl⟩) | (go_at_call 65; refine (impl_areIndices _ _ _ _ _ _ hx3 (by omega) (by omega)).mono ?_; rw [G4.out]; rintro e w' ⟨rfl, rfl⟩))
    go_ret
    exact ⟨ret_bool (by rw [R.out]), B0⟩
  have G4 := Lib.hid g4
  clear g4
  have HF := Lib.hid (show M.formed (a0, x1, x2, x3) = x2.all (M.nodeF n1 n2 a0) by rw [M.formed]; simp only [L1.out, L2.out, L3.out, G0.out, G1.out, decide_eq_true g2, decide_eq_true g3, G4.out, Bool.true_and])
  go_enter Tryz.func134, Tryz.ntmps134
  go_wp2_with fail
  rw [← HW.out]
  go_wp2_with (first | (go_at_call 151; refine (impl_size_impl_Node _ _ _ _).mono ?_; rintro e w' ⟨rfl, rfl⟩) | (go_at_call 153; refine (impl_size_int64 _ _ _ _).mono ?_; rintro e w' ⟨rfl, rfl⟩) | (go_at_call 62; refine (impl_within _ _ _ _).mono ?_; rw [G0.out]; rintro e w' ⟨rfl, rfl⟩) | (go_at_call 152; refine (impl_areTables _ _ _ _ _ r1 hb1 (by omega)).mono ?_; rw [G1.out]; rintro e w' ⟨rfl, rfl⟩) | (go_at_call 65; refine (impl_areIndices _ _ _ _ _ _ hx3 (by omega) (by omega)).mono ?_; rw [G4.out]; rintro e w' ⟨rfl, rfl⟩))
  go_loopw [39] (fun i wr => ∃ k : Nat, i = .int .i64 k ∧ k ≤ n2 ∧ Hid (x2.all (M.nodeF n1 n2 a0) = (x2.drop k).all (M.nodeF n1 n2 a0)) ∧ Below W.heap.size W wr) (fun i _ => n2 - (intOf i).toNat)
  case atStart => exact ⟨0, rfl, by omega, Lib.hid (by simp), Below.refl _ _⟩
  case round =>
    obtain ⟨k, rfl, hk, H, Bw⟩ := hrel
    have BW := bel_trans B0 Bw
    by_cases hlt : k < n2
    · obtain ⟨bb, o1, b0, b1, b2, A5, c5, y3, rfl, hbb, X, e0, e1, e2, e3, hr3, h3b⟩ := node_cell (r2.below Bw) hb2 hlt
      have hd := Lib.hid (M.drop_at X.out)
      obtain ⟨U, hU⟩ : ∃ U, U = wr.alloc (.cells #[.int .i64 b0, .int .i64 b1, .int .i64 b2, .slice A5 y3.length c5] 70) := ⟨_, rfl⟩
      have GU : Below wr.heap.size wr U := by rw [hU]; exact (Below.refl _ _).alloc (Nat.le_refl _) _
      have u0 : U.cell? ⟨wr.heap.size, 0, none⟩ = some (.int .i64 b0) := by rw [hU, cell_of_row _ wr.heap.size 0 _ 70 (0, 0) (heap_alloc_new wr _)]; rfl
      have u1 : U.cell? ⟨wr.heap.size, 1, none⟩ = some (.int .i64 b1) := by rw [hU, cell_of_row _ wr.heap.size 1 _ 70 (0, 0) (heap_alloc_new wr _)]; rfl
      have u2 : U.cell? ⟨wr.heap.size, 2, none⟩ = some (.int .i64 b2) := by rw [hU, cell_of_row _ wr.heap.size 2 _ 70 (0, 0) (heap_alloc_new wr _)]; rfl
      have u3 : U.cell? ⟨wr.heap.size, 3, none⟩ = some (.slice A5 y3.length c5) := by rw [hU, cell_of_row _ wr.heap.size 3 _ 70 (0, 0) (heap_alloc_new wr _)]; rfl
      have BU := bel_trans Bw GU
      have q0 : U.cell? ⟨w.heap.size, 0, none⟩ = some (.int .i64 a0) := by rw [BU.cell lx]; exact p0
      have q1 : U.cell? ⟨w.heap.size, 1, none⟩ = some (.slice A1 n1 c1) := by rw [BU.cell lx]; exact p1
      have q2 : U.cell? ⟨w.heap.size, 2, none⟩ = some (.slice (some ⟨bb, o1, none⟩) n2 c2) := by rw [BU.cell lx]; exact p2
      have HU := Lib.hid hU
      clear hU
      have hry := (hr3.more Bw.size).later GU
      have hk0 : (0 : Int) ≤ (k : Int) := by omega
      have hkn : (k : Int) < (n2 : Int) := by omega
      have uu0 := cell_regrown u0
      have uu1 := cell_regrown u1
      have uu2 := cell_regrown u2
      have uu3 := cell_regrown u3
      have qq0 := cell_regrown q0
      have qq1 := cell_regrown q1
      have qq2 := cell_regrown q2
      have cS : ∀ d os, Calls Tryz.prog 69 #[.slice A1 n1 c1] (grow (redrawn U d) os) fun e w'' => e = .returned (.int .i64 n1) ∧ ∃ p : Regrown, w'' = grow (redrawn U p.d) p.os := fun d os => Calls.regrown_of (to_bel (impl_size_int64S _ _ _ _))
      have cN : ∀ d os, Calls Tryz.prog 154 #[.agg #[.int .i64 b0, .int .i64 b1, .int .i64 b2, .slice A5 y3.length c5], .int .i64 n1] (grow (redrawn U d) os) fun e w'' => e = .returned (.bool (M.nodeOk (b0, b1, b2, y3) n1)) ∧ ∃ p : Regrown, w'' = grow (redrawn U p.d) p.os := fun d os => Calls.regrown_of (impl_isNode _ _ _ _ _ _ _ _ _ (hry.later (below_regrown U d os)) (by omega))
      have cI : ∀ d os, Calls Tryz.prog 65 #[.slice A5 y3.length c5, .int .i64 n2] (grow (redrawn U d) os) fun e w'' => e = .returned (.bool (y3.all (M.idx n2))) ∧ ∃ p : Regrown, w'' = grow (redrawn U p.d) p.os := fun d os => Calls.regrown_of (to_bel (impl_areIndices _ _ _ _ _ _ (hry.later (below_regrown U d os)) (by omega) (by omega)))
      have fin := fun d os => bel_trans BW (bel_trans GU (below_regrown U d os))
      clear u0 u1 u2 u3 q0 q1 q2
      cases hok : M.nodeOk (b0, b1, b2, y3) n1
      · have R := Lib.hid (show M.formed (a0, x1, x2, x3) = false by rw [HF.out, H.out, hd.out, List.all_cons, M.nodeF]; simp only [hok, Bool.false_and, Bool.and_false, Bool.true_and, Bool.not_true, Bool.not_false, Bool.and_self])
        rw [hok] at cN
        clear hok
        go_wp2_with fail
        rw [← HU.out]
        clear e0 e1 e2 e3
        (refine wp_region_quiet_below (by kernel_rfl) (by kernel_rfl) ?_; (repeat (go_big_quiet_step ((first | exact cS _ _ | exact cN _ _ | exact cI _ _)))); refine wpQuiet_nil ?_; intro _ hw'; obtain ⟨⟨dq, osq⟩, hw''⟩ := hw'; subst hw'')
        go_wp2
        go_ret
        exact ⟨ret_bool (by rw [R.out]), fin dq osq⟩
      · rw [hok] at cN
        have HK := Lib.hid hok
        clear hok
        cases hid : y3.all (M.idx n2)
        · have R := Lib.hid (show M.formed (a0, x1, x2, x3) = false by rw [HF.out, H.out, hd.out, List.all_cons, M.nodeF]; simp only [HK.out, hid, Bool.false_and, Bool.and_false, Bool.true_and, Bool.not_true, Bool.not_false, Bool.and_self])
          rw [hid] at cI
          clear hid
          go_wp2_with fail
          rw [← HU.out]
          clear e0 e1 e2 e3
          (refine wp_region_quiet_below (by kernel_rfl) (by kernel_rfl) ?_; (repeat (go_big_quiet_step ((first | exact cS _ _ | exact cN _ _ | exact cI _ _)))); refine wpQuiet_nil ?_; intro _ hw'; obtain ⟨⟨dq, osq⟩, hw''⟩ := hw'; subst hw'')
          go_wp2
          go_ret
          exact ⟨ret_bool (by rw [R.out]), fin dq osq⟩
        · rw [hid] at cI
          have HI := Lib.hid hid
          clear hid
          by_cases hb0 : b0 = 1
          · by_cases hin : a0 ≤ b1
            · have R := Lib.hid (show M.formed (a0, x1, x2, x3) = false by rw [HF.out, H.out, hd.out, List.all_cons, M.nodeF]; simp only [HK.out, HI.out, decide_eq_true hb0, decide_eq_true hin, Bool.false_and, Bool.and_false, Bool.true_and, Bool.not_true, Bool.not_false, Bool.and_self])
              subst hb0
              go_wp2_with fail
              rw [← HU.out]
              clear e0 e1 e2 e3
              (refine wp_region_quiet_below (by kernel_rfl) (by kernel_rfl) ?_; (repeat (go_big_quiet_step ((first | exact cS _ _ | exact cN _ _ | exact cI _ _)))); refine wpQuiet_nil ?_; intro _ hw'; obtain ⟨⟨dq, osq⟩, hw''⟩ := hw'; subst hw'')
              go_wp2
              go_ret
              exact ⟨ret_bool (by rw [R.out]), fin dq osq⟩
            · have R := Lib.hid (show x2.all (M.nodeF n1 n2 a0) = (x2.drop (k + 1)).all (M.nodeF n1 n2 a0) by rw [H.out, hd.out, List.all_cons, M.nodeF]; simp only [HK.out, HI.out, decide_eq_true hb0, decide_eq_false hin, Bool.and_false, Bool.not_false, Bool.and_self, Bool.true_and])
              have hna : ¬ b1 ≥ a0 := hin
              subst hb0
              go_wp2_with fail
              rw [← HU.out]
              clear e0 e1 e2 e3
              (refine wp_region_quiet_below (by kernel_rfl) (by kernel_rfl) ?_; (repeat (go_big_quiet_step ((first | exact cS _ _ | exact cN _ _ | exact cI _ _)))); refine wpQuiet_nil ?_; intro _ hw'; obtain ⟨⟨dq, osq⟩, hw''⟩ := hw'; subst hw'')
              go_wp2
              go_roundw
              case rel => exact ⟨k + 1, by go_num, by omega, R, bel_trans Bw (bel_trans GU (below_regrown U dq osq))⟩
              case measure => simp [intOf]; omega
          · have R := Lib.hid (show x2.all (M.nodeF n1 n2 a0) = (x2.drop (k + 1)).all (M.nodeF n1 n2 a0) by rw [H.out, hd.out, List.all_cons, M.nodeF]; simp only [HK.out, HI.out, decide_eq_false hb0, Bool.false_and, Bool.not_false, Bool.and_self, Bool.true_and])
            have gb0 : (b0 == 1) = false := by simpa using hb0
            go_wp2_with fail
            rw [← HU.out]
            clear e0 e1 e2 e3
            (refine wp_region_quiet_below (by kernel_rfl) (by kernel_rfl) ?_; (repeat (go_big_quiet_step ((first | exact cS _ _ | exact cN _ _ | exact cI _ _)))); refine wpQuiet_nil ?_; intro _ hw'; obtain ⟨⟨dq, osq⟩, hw''⟩ := hw'; subst hw'')
            go_wp2
            go_roundw
            case rel => exact ⟨k + 1, by go_num, by omega, R, bel_trans Bw (bel_trans GU (below_regrown U dq osq))⟩
            case measure => simp [intOf]; omega
    · have R := Lib.hid (show M.formed (a0, x1, x2, x3) = true by rw [HF.out, H.out, List.drop_eq_nil_of_le (by rw [L2.out]; omega)]; rfl)
      go_wp2
      go_ret
      exact ⟨ret_bool (by rw [R.out]), BW⟩
theorem impl_isPatch (a0 : Int) (A1 : Option Addr) (n1 c1 : Nat) (A2 : Option Addr) (n2 c2 : Nat) (A3 : Option Addr) (n3 c3 : Nat) (x1 : List (List Int)) (x2 : List Node) (x3 : List Int) (w : World) (h1 : tSS.R w w.heap.size [.slice A1 n1 c1] x1) (h2 : tNS.R w w.heap.size [.slice A2 n2 c2] x2) (h3 : tS.R w w.heap.size [.slice A3 n3 c3] x3) (hn : hP.sz ((a0, x1, x2, x3) : Patch) ≤ 100000000) :
    Calls Tryz.prog 106 #[.agg #[.int .i64 a0, .slice A1 n1 c1, .slice A2 n2 c2, .slice A3 n3 c3]] w fun e w' => e = .returned (.bool (M.patchOk (a0, x1, x2, x3))) ∧ Below w.heap.size w w' := by
  obtain ⟨W, hW⟩ : ∃ W, W = w.alloc (.cells #[.int .i64 a0, .slice A1 n1 c1, .slice A2 n2 c2, .slice A3 n3 c3] 68) := ⟨_, rfl⟩
  have B0 : Below w.heap.size w W := by rw [hW]; exact (Below.refl _ _).alloc (Nat.le_refl _) _
  have p0 : W.cell? ⟨w.heap.size, 0, none⟩ = some (.int .i64 a0) := by rw [hW]; simp [go_sem]
  have p1 : W.cell? ⟨w.heap.size, 1, none⟩ = some (.slice A1 n1 c1) := by rw [hW]; simp [go_sem]
  have p2 : W.cell? ⟨w.heap.size, 2, none⟩ = some (.slice A2 n2 c2) := by rw [hW]; simp [go_sem]
  have p3 : W.cell? ⟨w.heap.size, 3, none⟩ = some (.slice A3 n3 c3) := by rw [hW]; simp [go_sem]
  have lx : w.heap.size < W.heap.size := by rw [hW]; simp
  have HW := Lib.hid hW
  clear hW
  have k1 := tSS.later h1 B0
  have k2 := tNS.later h2 B0
  have k3 := tS.later h3 B0
  have r1 := sl_R.1 k1
  have r2 := sl_R.1 k2
  have hx3 := (tS_R.1 k3).ri
  have L1 := Lib.hid r1.cap.1
  have L2 := Lib.hid r2.cap.1
  have L3 := Lib.hid (tS_len h3)
  have hnn := hn
  rw [hP_sz, hS_sz] at hnn
  have hb2 : hNS.sz x2 ≤ 100000000 := by omega
  have hq1 : x1.length + hS.szL x1 = hSS.sz x1 := rfl
  have hb1 : Hid (∀ x ∈ x1, x.length ≤ 1000000000) := Lib.hid (fun x hx => by
    obtain ⟨i, hi⟩ := List.getElem?_of_mem hx
    have := hS.szL_at hi
    rw [hS_sz] at this
    omega)
  have bn1 : n1 ≤ 100000000 := by have := L1.out; omega
  have bn2 : n2 ≤ 100000000 := by have e : x2.length + hN.szL x2 = hNS.sz x2 := rfl; have := L2.out; omega
  have bn3 : n3 ≤ 100000000 := by have := L3.out; omega
  clear hnn hq1
  have D1 : Below W.heap.size W W.drew := below_drewN (Below.refl _ _) 1
  have hsd : W.drew.heap.size = W.heap.size := rfl
  cases g0 : M.formed (a0, x1, x2, x3)
  · have R := Lib.hid (show M.patchOk (a0, x1, x2, x3) = false by rw [M.patchOk, g0]; rfl)
    have cF : ∀ d os, Calls Tryz.prog 134 #[.agg #[.int .i64 a0, .slice A1 n1 c1, .slice A2 n2 c2, .slice A3 n3 c3]] (grow (redrawn W d) os) fun e w'' => e = .returned (.bool false) ∧ ∃ p : Regrown, w'' = grow (redrawn W p.d) p.os := fun d os => Calls.regrown_of (by rw [← g0]; exact impl_isWellFormed _ _ _ _ _ _ _ _ _ _ _ _ _ _ (tSS.later k1 (below_regrown W d os)) (tNS.later k2 (below_regrown W d os)) (tS.later k3 (below_regrown W d os)) hn)
    have qq0 := cell_regrown p0
    have qq1 := cell_regrown p1
    have qq2 := cell_regrown p2
    have qq3 := cell_regrown p3
    clear p0 p1 p2 p3 g0 h1 h2 h3
    go_enter Tryz.func106, Tryz.ntmps106
    go_wp2_with fail
    rw [← HW.out]
    (refine wp_region_quiet_below (by kernel_rfl) (by kernel_rfl) ?_; (repeat (go_big_quiet_step (exact cF _ _))); refine wpQuiet_nil ?_; intro _ hw'; obtain ⟨⟨dq, osq⟩, hw''⟩ := hw'; subst hw'')
    go_wp2
    go_ret
    exact ⟨ret_bool (by rw [R.out]), bel_trans B0 (below_regrown W dq osq)⟩
  · have G0 := Lib.hid g0
    have R := Lib.hid (show M.patchOk (a0, x1, x2, x3) = decide ((M.ord x2).length = n2) by rw [M.patchOk, g0, L2.out]; rfl)
    have HI := Lib.hid (show ∀ x ∈ x2, ∀ f ∈ x.2.2.2, M.idx n2 f = true by
      rw [M.formed] at g0
      simp only [Bool.and_eq_true, L2.out] at g0
      intro x hx f hf
      have h4 := List.all_eq_true.1 g0.2 x hx
      rw [M.nodeF] at h4
      simp only [Bool.and_eq_true] at h4
      exact List.all_eq_true.1 h4.1.2 f hf)
    clear g0 h1 h2 h3
    generalize hO : M.ord x2 = O at R
    have HO := Lib.hid hO
    clear hO
    have Dn : ∀ m, Below W.heap.size W (W.drewN m) := fun m => below_drewN (Below.refl _ _) m
    go_enter Tryz.func106, Tryz.ntmps106
    go_wp2_with fail
    rw [← HW.out]
    go_region_with (first
      | (go_at_call 134; refine (impl_isWellFormed _ _ _ _ _ _ _ _ _ _ _ _ _ _ (tSS.later k1 D1) (tNS.later k2 D1) (tS.later k3 D1) hn).mono ?_; rw [G0.out]; rintro e w2 ⟨rfl, bel2⟩; have G2 := bel_trans D1 bel2; have s0 : w2.cell? ⟨w.heap.size, 0, none⟩ = some (.int .i64 a0) := (by rw [G2.cell lx]; exact p0); have s1 : w2.cell? ⟨w.heap.size, 1, none⟩ = some (.slice A1 n1 c1) := (by rw [G2.cell lx]; exact p1); have s2 : w2.cell? ⟨w.heap.size, 2, none⟩ = some (.slice A2 n2 c2) := (by rw [G2.cell lx]; exact p2); have s3 : w2.cell? ⟨w.heap.size, 3, none⟩ = some (.slice A3 n3 c3) := (by rw [G2.cell lx]; exact p3))
      | (go_at_call 135; refine (impl_order _ _ _ _ _ _ _ _ _ _ _ _ (r2.later G2) hb2 HI).mono ?_; rw [HO.out]; rintro e w3 ⟨v, rfl, own, bel3⟩; obtain ⟨A9, c9, rfl, -⟩ := own.shape; have G3 := bel_trans G2 bel3; have s6 : w3.cell? ⟨w.heap.size, 2, none⟩ = some (.slice A2 n2 c2) := (by rw [G3.cell lx]; exact p2)))
    all_goals
      go_wp2
      go_ret
      exact ⟨ret_bool (by rw [R.out, Bool.eq_iff_iff]; simp; try omega), bel_trans B0 G3⟩
theorem impl_isEmpty (a0 : Int) (A1 : Option Addr) (n1 c1 : Nat) (A2 : Option Addr) (n2 c2 : Nat) (A3 : Option Addr) (n3 c3 : Nat) (x1 : List (List Int)) (x2 : List Node) (x3 : List Int) (w : World) (h1 : tSS.R w w.heap.size [.slice A1 n1 c1] x1) (h2 : tNS.R w w.heap.size [.slice A2 n2 c2] x2) (h3 : tS.R w w.heap.size [.slice A3 n3 c3] x3) (hn : hP.sz ((a0, x1, x2, x3) : Patch) ≤ 100000000) :
    Calls Tryz.prog 105 #[.agg #[.int .i64 a0, .slice A1 n1 c1, .slice A2 n2 c2, .slice A3 n3 c3]] w fun e w' => e = .returned (.bool (decide (((a0, x1, x2, x3) : Patch) = M.p0))) ∧ Below w.heap.size w w' := by
  obtain ⟨W, hW⟩ : ∃ W, W = w.alloc (.cells #[.int .i64 a0, .slice A1 n1 c1, .slice A2 n2 c2, .slice A3 n3 c3] 68) := ⟨_, rfl⟩
  have B0 : Below w.heap.size w W := by rw [hW]; exact (Below.refl _ _).alloc (Nat.le_refl _) _
  have p0 : W.cell? ⟨w.heap.size, 0, none⟩ = some (.int .i64 a0) := by rw [hW]; simp [go_sem]
  have p1 : W.cell? ⟨w.heap.size, 1, none⟩ = some (.slice A1 n1 c1) := by rw [hW]; simp [go_sem]
  have p2 : W.cell? ⟨w.heap.size, 2, none⟩ = some (.slice A2 n2 c2) := by rw [hW]; simp [go_sem]
  have p3 : W.cell? ⟨w.heap.size, 3, none⟩ = some (.slice A3 n3 c3) := by rw [hW]; simp [go_sem]
  have lx : w.heap.size < W.heap.size := by rw [hW]; simp
  have HW := Lib.hid hW
  clear hW
  have k1 := tSS.later h1 B0
  have k2 := tNS.later h2 B0
  have k3 := tS.later h3 B0
  have r1 := sl_R.1 k1
  have r2 := sl_R.1 k2
  have hx3 := (tS_R.1 k3).ri
  have L1 := Lib.hid r1.cap.1
  have L2 := Lib.hid r2.cap.1
  have L3 := Lib.hid (tS_len h3)
  have hnn := hn
  rw [hP_sz, hS_sz] at hnn
  have hb2 : hNS.sz x2 ≤ 100000000 := by omega
  have hq1 : x1.length + hS.szL x1 = hSS.sz x1 := rfl
  have hb1 : Hid (∀ x ∈ x1, x.length ≤ 1000000000) := Lib.hid (fun x hx => by
    obtain ⟨i, hi⟩ := List.getElem?_of_mem hx
    have := hS.szL_at hi
    rw [hS_sz] at this
    omega)
  have bn1 : n1 ≤ 100000000 := by have := L1.out; omega
  have bn2 : n2 ≤ 100000000 := by have e : x2.length + hN.szL x2 = hNS.sz x2 := rfl; have := L2.out; omega
  have bn3 : n3 ≤ 100000000 := by have := L3.out; omega
  clear hnn hq1
  have z1 : tSS.R W W.heap.size [.slice none 0 0] ([] : List (List Int)) := ⟨_, rfl, RS.nil _ _ _⟩
  have z2 : tNS.R W W.heap.size [.slice none 0 0] ([] : List Node) := ⟨_, rfl, RS.nil _ _ _⟩
  have z3 : tS.R W W.heap.size [.slice none 0 0] ([] : List Int) := ⟨_, rfl, RS.nil _ _ _⟩
  have hz : hP.sz ((0, [], [], []) : Patch) ≤ 100000000 := by decide
  go_enter Tryz.func105, Tryz.ntmps105
  go_wp2_with fail
  rw [← HW.out]
  refine (impl_SamePatch _ _ _ _ _ _ _ _ _ _ _ _ _ _ _ _ _ _ _ _ _ _ _ _ _ _ _ k1 z1 k2 z2 k3 z3 hn hz).mono ?_
  rintro e w2 ⟨rfl, bel2⟩
  go_wp2
  go_ret
  exact ⟨ret_bool (by rw [Bool.eq_iff_iff, M.p0]; simp), bel_trans B0 bel2⟩
theorem impl_isEffect (a0 : Int) (A1 : Option Addr) (n1 c1 : Nat) (A2 : Option Addr) (n2 c2 : Nat) (A3 : Option Addr) (n3 c3 : Nat) (x1 : List (List Int)) (x2 : List Node) (x3 : List Int) (w : World) (h1 : tSS.R w w.heap.size [.slice A1 n1 c1] x1) (h2 : tNS.R w w.heap.size [.slice A2 n2 c2] x2) (h3 : tS.R w w.heap.size [.slice A3 n3 c3] x3) (hn : hP.sz ((a0, x1, x2, x3) : Patch) ≤ 100000000) :
    Calls Tryz.prog 70 #[.agg #[.int .i64 a0, .slice A1 n1 c1, .slice A2 n2 c2, .slice A3 n3 c3]] w fun e w' => e = .returned (.bool (M.effOk (a0, x1, x2, x3))) ∧ Below w.heap.size w w' := by
  obtain ⟨W, hW⟩ : ∃ W, W = w.alloc (.cells #[.int .i64 a0, .slice A1 n1 c1, .slice A2 n2 c2, .slice A3 n3 c3] 68) := ⟨_, rfl⟩
  have B0 : Below w.heap.size w W := by rw [hW]; exact (Below.refl _ _).alloc (Nat.le_refl _) _
  have p0 : W.cell? ⟨w.heap.size, 0, none⟩ = some (.int .i64 a0) := by rw [hW]; simp [go_sem]
  have p1 : W.cell? ⟨w.heap.size, 1, none⟩ = some (.slice A1 n1 c1) := by rw [hW]; simp [go_sem]
  have p2 : W.cell? ⟨w.heap.size, 2, none⟩ = some (.slice A2 n2 c2) := by rw [hW]; simp [go_sem]
  have p3 : W.cell? ⟨w.heap.size, 3, none⟩ = some (.slice A3 n3 c3) := by rw [hW]; simp [go_sem]
  have lx : w.heap.size < W.heap.size := by rw [hW]; simp
  have HW := Lib.hid hW
  clear hW
  have k1 := tSS.later h1 B0
  have k2 := tNS.later h2 B0
  have k3 := tS.later h3 B0
  have r1 := sl_R.1 k1
  have r2 := sl_R.1 k2
  have hx3 := (tS_R.1 k3).ri
  have L1 := Lib.hid r1.cap.1
  have L2 := Lib.hid r2.cap.1
  have L3 := Lib.hid (tS_len h3)
  have hnn := hn
  rw [hP_sz, hS_sz] at hnn
  have hb2 : hNS.sz x2 ≤ 100000000 := by omega
  have hq1 : x1.length + hS.szL x1 = hSS.sz x1 := rfl
  have hb1 : Hid (∀ x ∈ x1, x.length ≤ 1000000000) := Lib.hid (fun x hx => by
    obtain ⟨i, hi⟩ := List.getElem?_of_mem hx
    have := hS.szL_at hi
    rw [hS_sz] at this
    omega)
  have bn1 : n1 ≤ 100000000 := by have := L1.out; omega
  have bn2 : n2 ≤ 100000000 := by have e : x2.length + hN.szL x2 = hNS.sz x2 := rfl; have := L2.out; omega
  have bn3 : n3 ≤ 100000000 := by have := L3.out; omega
  clear hnn hq1
  cases g0 : decide (((a0, x1, x2, x3) : Patch) = M.p0)
  · have G0 := Lib.hid g0
    cases g1 : M.patchOk (a0, x1, x2, x3)
    · have G1 := Lib.hid g1
      have R := Lib.hid (show M.effOk (a0, x1, x2, x3) = false by rw [M.effOk, g0, g1]; rfl)
      clear g0 g1
      go_enter Tryz.func70, Tryz.ntmps70
      go_wp2_with fail
      rw [← HW.out]
      go_wp2_with (first
        | (go_at_call 105; refine (impl_isEmpty _ _ _ _ _ _ _ _ _ _ _ _ _ _ k1 k2 k3 hn).mono ?_; rw [G0.out]; rintro e w2 ⟨rfl, bel2⟩; have s0 : w2.cell? ⟨w.heap.size, 0, none⟩ = some (.int .i64 a0) := (by rw [bel2.cell lx]; exact p0); have s1 : w2.cell? ⟨w.heap.size, 1, none⟩ = some (.slice A1 n1 c1) := (by rw [bel2.cell lx]; exact p1); have s2 : w2.cell? ⟨w.heap.size, 2, none⟩ = some (.slice A2 n2 c2) := (by rw [bel2.cell lx]; exact p2); have s3 : w2.cell? ⟨w.heap.size, 3, none⟩ = some (.slice A3 n3 c3) := (by rw [bel2.cell lx]; exact p3))
        | (go_at_call 106; refine (impl_isPatch _ _ _ _ _ _ _ _ _ _ _ _ _ _ (tSS.later k1 bel2) (tNS.later k2 bel2) (tS.later k3 bel2) hn).mono ?_; rw [G1.out]; rintro e w3 ⟨rfl, bel3⟩; have G3 := bel_trans bel2 bel3))
      go_ret
      exact ⟨ret_bool (by rw [R.out]), bel_trans B0 G3⟩
    · have G1 := Lib.hid g1
      have R := Lib.hid (show M.effOk (a0, x1, x2, x3) = (decide (a0 = 1) && decide (n3 = 1)) by rw [M.effOk, g0, g1]; simp only [L3.out, Bool.false_or, Bool.true_and])
      clear g0 g1
      have both : ∀ (a : Int) (m : Nat), Hid (M.effOk (a0, x1, x2, x3) = (decide (a0 = 1) && decide (n3 = 1))) := fun _ _ => R
      by_cases ha : a0 = 1
      · subst ha
        by_cases hm : n3 = 1
        · subst hm
          go_enter Tryz.func70, Tryz.ntmps70
          go_wp2_with fail
          rw [← HW.out]
          go_wp2_with (first
            | (go_at_call 105; refine (impl_isEmpty _ _ _ _ _ _ _ _ _ _ _ _ _ _ k1 k2 k3 hn).mono ?_; rw [G0.out]; rintro e w2 ⟨rfl, bel2⟩; have s0 : w2.cell? ⟨w.heap.size, 0, none⟩ = some (.int .i64 1) := (by rw [bel2.cell lx]; exact p0); have s1 : w2.cell? ⟨w.heap.size, 1, none⟩ = some (.slice A1 n1 c1) := (by rw [bel2.cell lx]; exact p1); have s2 : w2.cell? ⟨w.heap.size, 2, none⟩ = some (.slice A2 n2 c2) := (by rw [bel2.cell lx]; exact p2); have s3 : w2.cell? ⟨w.heap.size, 3, none⟩ = some (.slice A3 1 c3) := (by rw [bel2.cell lx]; exact p3))
            | (go_at_call 106; refine (impl_isPatch _ _ _ _ _ _ _ _ _ _ _ _ _ _ (tSS.later k1 bel2) (tNS.later k2 bel2) (tS.later k3 bel2) hn).mono ?_; rw [G1.out]; rintro e w3 ⟨rfl, bel3⟩; have G3 := bel_trans bel2 bel3; have t0 : w3.cell? ⟨w.heap.size, 0, none⟩ = some (.int .i64 1) := (by rw [G3.cell lx]; exact p0); have t3 : w3.cell? ⟨w.heap.size, 3, none⟩ = some (.slice A3 1 c3) := (by rw [G3.cell lx]; exact p3)))
          go_ret
          exact ⟨ret_bool (by rw [R.out]; rfl), bel_trans B0 G3⟩
        · have gm : ((n3 : Int) == 1) = false := by simp; omega
          go_enter Tryz.func70, Tryz.ntmps70
          go_wp2_with fail
          rw [← HW.out]
          go_wp2_with (first
            | (go_at_call 105; refine (impl_isEmpty _ _ _ _ _ _ _ _ _ _ _ _ _ _ k1 k2 k3 hn).mono ?_; rw [G0.out]; rintro e w2 ⟨rfl, bel2⟩; have s0 : w2.cell? ⟨w.heap.size, 0, none⟩ = some (.int .i64 1) := (by rw [bel2.cell lx]; exact p0); have s1 : w2.cell? ⟨w.heap.size, 1, none⟩ = some (.slice A1 n1 c1) := (by rw [bel2.cell lx]; exact p1); have s2 : w2.cell? ⟨w.heap.size, 2, none⟩ = some (.slice A2 n2 c2) := (by rw [bel2.cell lx]; exact p2); have s3 : w2.cell? ⟨w.heap.size, 3, none⟩ = some (.slice A3 n3 c3) := (by rw [bel2.cell lx]; exact p3))
            | (go_at_call 106; refine (impl_isPatch _ _ _ _ _ _ _ _ _ _ _ _ _ _ (tSS.later k1 bel2) (tNS.later k2 bel2) (tS.later k3 bel2) hn).mono ?_; rw [G1.out]; rintro e w3 ⟨rfl, bel3⟩; have G3 := bel_trans bel2 bel3; have t0 : w3.cell? ⟨w.heap.size, 0, none⟩ = some (.int .i64 1) := (by rw [G3.cell lx]; exact p0); have t3 : w3.cell? ⟨w.heap.size, 3, none⟩ = some (.slice A3 n3 c3) := (by rw [G3.cell lx]; exact p3)))
          go_ret
          exact ⟨ret_bool (by rw [R.out]; simp [hm]), bel_trans B0 G3⟩
      · have ga : (a0 == 1) = false := by simpa using ha
        by_cases hm : n3 = 1
        · subst hm
          go_enter Tryz.func70, Tryz.ntmps70
          go_wp2_with fail
          rw [← HW.out]
          go_wp2_with (first
            | (go_at_call 105; refine (impl_isEmpty _ _ _ _ _ _ _ _ _ _ _ _ _ _ k1 k2 k3 hn).mono ?_; rw [G0.out]; rintro e w2 ⟨rfl, bel2⟩; have s0 : w2.cell? ⟨w.heap.size, 0, none⟩ = some (.int .i64 a0) := (by rw [bel2.cell lx]; exact p0); have s1 : w2.cell? ⟨w.heap.size, 1, none⟩ = some (.slice A1 n1 c1) := (by rw [bel2.cell lx]; exact p1); have s2 : w2.cell? ⟨w.heap.size, 2, none⟩ = some (.slice A2 n2 c2) := (by rw [bel2.cell lx]; exact p2); have s3 : w2.cell? ⟨w.heap.size, 3, none⟩ = some (.slice A3 1 c3) := (by rw [bel2.cell lx]; exact p3))
            | (go_at_call 106; refine (impl_isPatch _ _ _ _ _ _ _ _ _ _ _ _ _ _ (tSS.later k1 bel2) (tNS.later k2 bel2) (tS.later k3 bel2) hn).mono ?_; rw [G1.out]; rintro e w3 ⟨rfl, bel3⟩; have G3 := bel_trans bel2 bel3; have t0 : w3.cell? ⟨w.heap.size, 0, none⟩ = some (.int .i64 a0) := (by rw [G3.cell lx]; exact p0); have t3 : w3.cell? ⟨w.heap.size, 3, none⟩ = some (.slice A3 1 c3) := (by rw [G3.cell lx]; exact p3)))
          go_ret
          exact ⟨ret_bool (by rw [R.out]; simp [ha]), bel_trans B0 G3⟩
        · have gm : ((n3 : Int) == 1) = false := by simp; omega
          go_enter Tryz.func70, Tryz.ntmps70
          go_wp2_with fail
          rw [← HW.out]
          go_wp2_with (first
            | (go_at_call 105; refine (impl_isEmpty _ _ _ _ _ _ _ _ _ _ _ _ _ _ k1 k2 k3 hn).mono ?_; rw [G0.out]; rintro e w2 ⟨rfl, bel2⟩; have s0 : w2.cell? ⟨w.heap.size, 0, none⟩ = some (.int .i64 a0) := (by rw [bel2.cell lx]; exact p0); have s1 : w2.cell? ⟨w.heap.size, 1, none⟩ = some (.slice A1 n1 c1) := (by rw [bel2.cell lx]; exact p1); have s2 : w2.cell? ⟨w.heap.size, 2, none⟩ = some (.slice A2 n2 c2) := (by rw [bel2.cell lx]; exact p2); have s3 : w2.cell? ⟨w.heap.size, 3, none⟩ = some (.slice A3 n3 c3) := (by rw [bel2.cell lx]; exact p3))
            | (go_at_call 106; refine (impl_isPatch _ _ _ _ _ _ _ _ _ _ _ _ _ _ (tSS.later k1 bel2) (tNS.later k2 bel2) (tS.later k3 bel2) hn).mono ?_; rw [G1.out]; rintro e w3 ⟨rfl, bel3⟩; have G3 := bel_trans bel2 bel3; have t0 : w3.cell? ⟨w.heap.size, 0, none⟩ = some (.int .i64 a0) := (by rw [G3.cell lx]; exact p0); have t3 : w3.cell? ⟨w.heap.size, 3, none⟩ = some (.slice A3 n3 c3) := (by rw [G3.cell lx]; exact p3)))
          go_ret
          exact ⟨ret_bool (by rw [R.out]; simp [ha]), bel_trans B0 G3⟩
  · have G0 := Lib.hid g0
    have R := Lib.hid (show M.effOk (a0, x1, x2, x3) = true by rw [M.effOk, g0]; rfl)
    clear g0
    go_enter Tryz.func70, Tryz.ntmps70
    go_wp2_with fail
    rw [← HW.out]
    go_wp2_with (go_at_call 105; refine (impl_isEmpty _ _ _ _ _ _ _ _ _ _ _ _ _ _ k1 k2 k3 hn).mono ?_; rw [G0.out]; rintro e w2 ⟨rfl, bel2⟩)
    go_ret
    exact ⟨ret_bool (by rw [R.out]), bel_trans B0 bel2⟩
end Go.Proofs.YtacgcagpaecncaaGreat
namespace Go.Proofs.YtacgcagpaecncaaGreat
open Go.RowKit
set_option maxHeartbeats 4000000
set_option maxRecDepth 100000
theorem M.has_no {xs : List Strip} {k : Nat} {s : ByteArray} (h : ∀ j, j < k → ∀ y, xs[j]? = some y → ¬ y.1 = s) : M.has s ((xs.take k).map (·.1)) = false := by
  rw [M.has, List.any_eq_false]
  intro t ht
  obtain ⟨y, hy, rfl⟩ := List.mem_map.1 ht
  obtain ⟨j, hj⟩ := List.getElem?_of_mem hy
  have hj2 : j < k := by
    have := (List.getElem?_eq_some_iff.1 hj).1
    rw [List.length_take] at this
    omega
  rw [List.getElem?_take, if_pos hj2] at hj
  simpa using h j hj2 y hj
theorem M.has_yes {xs : List Strip} {k j : Nat} {y : Strip} (hj : j < k) (h : xs[j]? = some y) : M.has y.1 ((xs.take k).map (·.1)) = true := by
  rw [M.has, List.any_eq_true]
  refine ⟨y.1, List.mem_map.2 ⟨y, List.mem_of_getElem? (i := j) (by rw [List.getElem?_take, if_pos hj]; exact h), rfl⟩, by simp⟩
theorem spec_l26Ok_at (vb vo : Nat) (A : Option Addr) (n c : Nat) (xs : List Strip) (w : World) (hv0 : w.cell? ⟨vb, vo, none⟩ = some (.slice A n c)) (hx : tM.R w w.heap.size [.slice A n c] xs) (hn : hM.sz xs ≤ 100000000) :
    Calls Tryz.prog 53 #[.pointer (some ⟨vb, vo, none⟩)] w fun e w' => e = .returned (.bool (M.mixOk xs)) ∧ Below w.heap.size w w' := by
  have hvb : vb < w.heap.size := World.block_lt_of_cell? w _ hv0
  have rx := sl_R.1 hx
  have hlx := rx.cap.1
  have hm1 : xs.length + hSt.szL xs ≤ 100000000 := hn
  have hnb : n ≤ 100000000 := by omega
  have HLX := Lib.hid hlx
  have HM1 := Lib.hid hm1
  clear hlx hx hn hm1
  cases hI : M.inn n 1 8
  · have R := Lib.hid (show M.mixOk xs = false by rw [M.mixOk, HLX.out, hI]; rfl)
    go_enter Tryz.func53, Tryz.ntmps53
    go_wp2_with (go_at_call 37; refine (spec_l00In _ _ _ _).mono ?_; rintro e w' ⟨rfl, rfl⟩)
    go_ret
    exact ⟨ret_bool (by rw [R.out]), Below.refl _ _⟩
  · have hb8 := M.inn_iffM.1 hI
    have HI := Lib.hid hI
    go_enter Tryz.func53, Tryz.ntmps53
    go_wp2_with (go_at_call 37; refine (spec_l00In _ _ _ _).mono ?_; rintro e w' ⟨rfl, rfl⟩)
    clear hI
    go_loopw [4, 5] (fun i _ wr => ∃ k : Nat, i = .int .i64 k ∧ k ≤ n ∧ Hid (∀ j, j < k → M.stepM xs j = true) ∧ Below w.heap.size w wr) (fun i _ _ => n - (intOf i).toNat)
    case atStart => exact ⟨0, rfl, by omega, Lib.hid (by omega), Below.refl _ _⟩
    case round =>
      obtain ⟨k, rfl, hk, H, Bw⟩ := hrel
      have c0 : wr.cell? ⟨vb, vo, none⟩ = some (.slice A n c) := by rw [Bw.cell hvb]; exact hv0
      by_cases hlt : k < n
      · have hX := Lib.hid (List.getElem?_eq_getElem (l := xs) (i := k) (by rw [HLX.out]; exact hlt))
        obtain ⟨b, o1, cc, cs, hv, hab, -, hE, hcc⟩ := (rx.below Bw).atX hX.out
        simp only [Value.slice.injEq] at hv
        obtain ⟨rfl, -, rfl⟩ := hv
        have hU := hSt.szL_at hX.out
        generalize xs[k]'(by rw [HLX.out]; exact hlt) = x at hX hE hU
        obtain ⟨s, l, us⟩ := x
        rw [hSt_sz] at hU
        obtain ⟨A1, n1, c1, rfl, hs, hE⟩ := st_R.1 hE
        have n1b : n1 ≤ 1000000000 := by have := (tSdS_ra hE).1.1; have := HM1.out; omega
        have e0 : wr.cell? ⟨b, o1 + k * 3, none⟩ = some (.string s) := hcc 0 _ rfl
        have e1 : wr.cell? ⟨b, o1 + k * 3 + 1, none⟩ = some (.int .i64 l) := hcc 1 _ rfl
        have e2 : wr.cell? ⟨b, o1 + k * 3 + 2, none⟩ = some (.slice A1 n1 c1) := hcc 2 _ rfl
        have hra := (tSdS_ra (tSdS.more Bw.size hE)).1
        have hS := Lib.hid (M.stepM_eq hX.out)
        have HNO := Lib.hid (fun h => M.mix_no (xs := xs) (k := k) (by rw [HLX.out]; exact hlt) h)
        have HC := Lib.hid (spec_l26Strip b (o1 + k * 3) s l A1 n1 c1 us k n wr e0 e1 e2 hs hra n1b ⟨by omega, by omega⟩ ⟨by omega, by omega⟩)
        clear hcc hU hE
        cases hST : M.stripOk (s, l, us) k n
        · have R := Lib.hid (show M.mixOk xs = false from HNO.out (by rw [hS.out, HLX.out, hST]; rfl))
          go_wp2_with (go_at_call 91; refine HC.out.mono ?_; rw [hST]; rintro e w' ⟨rfl, rfl⟩)
          go_ret
          exact ⟨ret_bool (by rw [R.out]), Bw⟩
        · have HST := Lib.hid hST
          clear hST
          go_wp2_with (go_at_call 91; refine HC.out.mono ?_; rw [HST.out]; rintro e w' ⟨rfl, rfl⟩)
          obtain ⟨wo, rfl⟩ : ∃ wo : World, wo = wr := ⟨_, rfl⟩
          clear HC e1 e2 hra
          go_loopw [5] (fun i wr => ∃ j : Nat, i = .int .i64 j ∧ j ≤ k ∧ Hid (∀ q, q < j → ∀ y, xs[q]? = some y → ¬ y.1 = s) ∧ Below w.heap.size w wr) (fun i _ => k - (intOf i).toNat)
          case atStart => exact ⟨0, rfl, by omega, Lib.hid (by omega), Bw⟩
          case round =>
            obtain ⟨j, rfl, hj, HJ, Bw2⟩ := hrel
            have d0 : wr.cell? ⟨vb, vo, none⟩ = some (.slice (some ⟨b, o1, none⟩) n c) := by rw [Bw2.cell hvb]; exact hv0
            by_cases hlt2 : j < k
            · have hY := Lib.hid (List.getElem?_eq_getElem (l := xs) (i := j) (by rw [HLX.out]; omega))
              obtain ⟨b', o2, cc', cs', hv', -, -, hE', hdd⟩ := (rx.below Bw2).atX hY.out
              simp only [Value.slice.injEq, Option.some.injEq, Addr.mk.injEq] at hv'
              obtain ⟨⟨rfl, rfl, -⟩, -, rfl⟩ := hv'
              generalize xs[j]'(by rw [HLX.out]; omega) = y at hY hE'
              obtain ⟨s', l', vs⟩ := y
              obtain ⟨A2, n2, c2, rfl, -, -⟩ := st_R.1 hE'
              have f0 : wr.cell? ⟨b, o1 + j * 3, none⟩ = some (.string s') := hdd 0 _ rfl
              have f1 : wr.cell? ⟨b, o1 + k * 3, none⟩ = some (.string s) := by
                obtain ⟨b2, o3, cc2, cs2, hv2, -, -, hE2, hgg⟩ := (rx.below Bw2).atX hX.out
                simp only [Value.slice.injEq, Option.some.injEq, Addr.mk.injEq] at hv2
                obtain ⟨⟨rfl, rfl, -⟩, -, rfl⟩ := hv2
                obtain ⟨A3, n3, c3, rfl, -, -⟩ := st_R.1 hE2
                exact hgg 0 _ rfl
              have hjn : (j : Int) < (n : Int) := by omega
              have hj0 : (0 : Int) ≤ (j : Int) := by omega
              have hkn : (k : Int) < (n : Int) := by omega
              clear hdd hE'
              by_cases hss : s' = s
              · have R := Lib.hid (show M.mixOk xs = false from HNO.out (by
                  have h1 := M.has_yes hlt2 hY.out
                  rw [hss] at h1
                  rw [hS.out, h1, Bool.not_true, Bool.and_false]))
                have h1 : s'.toList = s.toList := by rw [hss]
                subst hss
                go_wp2
                go_quiet (fail)
                go_wp2
                go_ret
                exact ⟨ret_bool (by rw [R.out]), below_drewN Bw2 _⟩
              · have h1 := str_ne hss
                have h2 : (s'.toList == s.toList) = false := by simpa using h1
                have HSS := Lib.hid hss
                clear hss
                go_wp2
                go_quiet (fail)
                go_wp2
                go_roundw
                case rel => exact ⟨j + 1, by go_num, by omega, Lib.hid (fun q hq y hy => by
                    rcases Nat.lt_or_ge q j with h3 | h3
                    · exact HJ.out q h3 y hy
                    · obtain rfl : q = j := by omega
                      rw [hY.out] at hy
                      injection hy with hy
                      subst hy
                      exact HSS.out), below_drewN Bw2 _⟩
                case measure => simp [intOf]; omega
            · obtain rfl : j = k := by omega
              have HGO := Lib.hid (show M.stepM xs j = true by rw [hS.out, HLX.out, HST.out, M.has_no HJ.out]; rfl)
              go_wp2
              go_roundw
              case rel => exact ⟨j + 1, by go_num, by omega, Lib.hid (fun q hq => by
                  rcases Nat.lt_or_ge q j with h3 | h3
                  · exact H.out q h3
                  · obtain rfl : q = j := by omega
                    exact HGO.out), Bw2⟩
              case measure => simp [intOf]; omega
      · have R := Lib.hid (show M.mixOk xs = true by rw [M.mix_end (fun j hj => H.out j (by rw [HLX.out] at hj; omega)), HLX.out, HI.out])
        go_wp2
        go_ret
        exact ⟨ret_bool (by rw [R.out]), Bw⟩
theorem spec_l26Ok (vb : Nat) (A : Option Addr) (n c : Nat) (xs : List Strip) (w : World) (hv0 : w.cell? ⟨vb, 0, none⟩ = some (.slice A n c)) (hx : tM.R w w.heap.size [.slice A n c] xs) (hn : hM.sz xs ≤ 100000000) :
    Calls Tryz.prog 53 #[.pointer (some ⟨vb, 0, none⟩)] w fun e w' => e = .returned (.bool (M.mixOk xs)) ∧ Below w.heap.size w w' :=
  spec_l26Ok_at vb 0 A n c xs w hv0 hx hn
end Go.Proofs.YtacgcagpaecncaaGreat
namespace Go.Proofs.YtacgcagpaecncaaGreat
open Go.RowKit
set_option maxHeartbeats 4000000
set_option maxRecDepth 100000
theorem M.srcOk_at {src : List (List Int)} (h : M.srcOk src = true) {k : Nat} {x : List Int} (hx : src[k]? = some x) : M.sig x = true := by
  rw [M.srcOk, Bool.and_eq_true, List.all_eq_true] at h
  exact h.2 x (List.mem_of_getElem? hx)
theorem M.srcOk_len {src : List (List Int)} (h : M.srcOk src = true) : Hid (∀ x ∈ src, x.length ≤ 1000000000) := Lib.hid (by
  intro x hx
  obtain ⟨k, hk, rfl⟩ := List.getElem_of_mem hx
  have := M.srcOk_at h (List.getElem?_eq_getElem hk)
  rw [M.sig, Bool.and_eq_true, decide_eq_true_iff] at this
  omega)
theorem M.hasS_at {xs : List Clip} {m : Int} (h : M.hasS xs m = true) {k : Nat} {c : Clip} (hx : xs[k]? = some c) : c.1 < m := by
  rw [M.hasS, List.all_eq_true] at h
  simpa using h c (List.mem_of_getElem? hx)
end Go.Proofs.YtacgcagpaecncaaGreat
namespace Go.Proofs.YtacgcagpaecncaaGreat
open Go.RowKit Go.Sort
set_option maxHeartbeats 4000000
set_option maxRecDepth 100000
set_option linter.unusedVariables false
set_option linter.unusedSimpArgs false
set_option synthInstance.maxSize 2000
set_option synthInstance.maxHeartbeats 400000
theorem tT_raS {w : World} {B : Nat} {A : Option Addr} {n c : Nat} {xs : List Clip} (h : tT.R w B [.slice A n c] xs) : RA cl 5 w B A n xs := (sl_R.1 h).flat.1
theorem track_cell {w : World} {B : Nat} {A : Option Addr} {n c : Nat} {ts : List (List Clip_)} (hr : RS tT w B (.slice A n c) ts) (hb : hTS.sz ts ≤ 100000000) {k : Nat} (hk : k < n) :
    ∃ (bb o : Nat) (A1 : Option Addr) (n1 c1 : Nat) (x : List Clip_), A = some ⟨bb, o, none⟩ ∧ bb < B ∧ Hid (ts[k]? = some x) ∧ w.cell? ⟨bb, o + k, none⟩ = some (.slice A1 n1 c1) ∧ tT.R w B [.slice A1 n1 c1] x ∧ RA cl 5 w B A1 n1 x ∧ n1 ≤ 100000000 := by
  obtain rfl : ts.length = n := hr.cap.1
  have hX := List.getElem?_eq_getElem hk
  obtain ⟨bb, o, c1, cs, hv, hab, -, hE, hc⟩ := hr.atX hX
  simp only [Value.slice.injEq] at hv
  obtain ⟨rfl, -, rfl⟩ := hv
  have hU := hT.szL_at hX
  have hU2 : ts.length + hT.szL ts ≤ 100000000 := hb
  generalize ts[k] = x at hX hE hU
  obtain ⟨A1, n1, c1, rfl⟩ := open_sl hE
  have e0 : w.cell? ⟨bb, o + k * 1, none⟩ = some (.slice A1 n1 c1) := hc 0 _ rfl
  rw [Nat.mul_one] at e0
  have hra := tT_raS hE
  have hl : x.length = n1 := hra.len
  have hz : x.length ≤ hT.sz x := Nat.le_add_right _ _
  exact ⟨bb, o, A1, n1, c1, x, rfl, hab, Lib.hid hX, e0, hE, hra, by omega⟩
theorem patch_cell {w : World} {B : Nat} {A : Option Addr} {n c : Nat} {ps : List Patch} (hr : RS tP w B (.slice A n c) ps) (hb : hPS.sz ps ≤ 100000000) {k : Nat} (hk : k < n) :
    ∃ (bb o : Nat) (a0 : Int) (A1 : Option Addr) (n1 c1 : Nat) (A2 : Option Addr) (n2 c2 : Nat) (A3 : Option Addr) (n3 c3 : Nat) (x1 : List (List Int)) (x2 : List Node) (x3 : List Int), A = some ⟨bb, o, none⟩ ∧ bb < B ∧ Hid (ps[k]? = some (a0, x1, x2, x3)) ∧
      w.cell? ⟨bb, o + k * 4, none⟩ = some (.int .i64 a0) ∧ w.cell? ⟨bb, o + k * 4 + 1, none⟩ = some (.slice A1 n1 c1) ∧ w.cell? ⟨bb, o + k * 4 + 2, none⟩ = some (.slice A2 n2 c2) ∧ w.cell? ⟨bb, o + k * 4 + 3, none⟩ = some (.slice A3 n3 c3) ∧
      tSS.R w B [.slice A1 n1 c1] x1 ∧ tNS.R w B [.slice A2 n2 c2] x2 ∧ tS.R w B [.slice A3 n3 c3] x3 ∧ hP.sz ((a0, x1, x2, x3) : Patch) ≤ 100000000 := by
  obtain rfl : ps.length = n := hr.cap.1
  have hX := List.getElem?_eq_getElem hk
  obtain ⟨bb, o, c1, cs, hv, hab, -, hE, hc⟩ := hr.atX hX
  simp only [Value.slice.injEq] at hv
  obtain ⟨rfl, -, rfl⟩ := hv
  have hU := hP.szL_at hX
  have hU2 : ps.length + hP.szL ps ≤ 100000000 := hb
  generalize ps[k] = x at hX hE hU
  obtain ⟨a0, x1, x2, x3⟩ := x
  obtain ⟨A1, n1, c1, A2, n2, c2, A3, n3, c3, rfl, h1, h2, h3⟩ := tP_R.1 hE
  have e0 : w.cell? ⟨bb, o + k * 4, none⟩ = some (.int .i64 a0) := hc 0 _ rfl
  exact ⟨bb, o, a0, A1, n1, c1, A2, n2, c2, A3, n3, c3, x1, x2, x3, rfl, hab, Lib.hid hX, e0, hc 1 _ rfl, hc 2 _ rfl, hc 3 _ rfl, h1, h2, h3, by omega⟩
theorem spec_l27Ok (vb : Nat) (a0 : Int) (A1 : Option Addr) (n1 c1 : Nat) (A2 : Option Addr) (n2 c2 : Nat) (A3 : Option Addr) (n3 c3 : Nat) (A4 : Option Addr) (n4 c4 : Nat) (A5 : Option Addr) (n5 c5 : Nat) (x1 : List (List Int)) (x2 : List (List Clip_)) (x3 : List Int) (x4 : List Patch) (x5 : List Strip) (w : World) (p0 : w.cell? ⟨vb, 0, none⟩ = some (.int .i64 a0)) (p1 : w.cell? ⟨vb, 1, none⟩ = some (.slice A1 n1 c1)) (p2 : w.cell? ⟨vb, 2, none⟩ = some (.slice A2 n2 c2)) (p3 : w.cell? ⟨vb, 3, none⟩ = some (.slice A3 n3 c3)) (p4 : w.cell? ⟨vb, 4, none⟩ = some (.slice A4 n4 c4)) (p5 : w.cell? ⟨vb, 5, none⟩ = some (.slice A5 n5 c5)) (h1 : tSS.R w w.heap.size [.slice A1 n1 c1] x1) (h2 : tTS.R w w.heap.size [.slice A2 n2 c2] x2) (h3 : tS.R w w.heap.size [.slice A3 n3 c3] x3) (h4 : tPS.R w w.heap.size [.slice A4 n4 c4] x4) (h5 : tM.R w w.heap.size [.slice A5 n5 c5] x5) (hn : hZ.sz ((a0, x1, x2, x3, x4, x5) : Sess) ≤ 100000000) :
    Calls Tryz.prog 25 #[.pointer (some ⟨vb, 0, none⟩)] w fun e w' => e = .returned (.bool (M.sessOk (a0, x1, x2, x3, x4, x5))) ∧ Below w.heap.size w w' := by
  have k1 := h1
  have k2 := h2
  have k3 := h3
  have k4 := h4
  have k5 := h5
  have lv : vb < w.heap.size := World.block_lt_of_cell? w _ p0
  rw [hZ_sz] at hn
  have r1 := sl_R.1 k1
  have L1 := Lib.hid r1.cap.1
  have r2 := sl_R.1 k2
  have L2 := Lib.hid r2.cap.1
  have r3 := sl_R.1 k3
  have L3 := Lib.hid r3.cap.1
  have r4 := sl_R.1 k4
  have L4 := Lib.hid r4.cap.1
  have r5 := sl_R.1 k5
  have L5 := Lib.hid r5.cap.1
  have z1 : hSS.sz x1 ≤ 100000000 := by omega
  have bn1 : n1 ≤ 100000000 := by have e : x1.length + hS.szL x1 = hSS.sz x1 := rfl; have := L1.out; omega
  have z2 : hTS.sz x2 ≤ 100000000 := by omega
  have bn2 : n2 ≤ 100000000 := by have e : x2.length + hT.szL x2 = hTS.sz x2 := rfl; have := L2.out; omega
  have z3 : hS.sz x3 ≤ 100000000 := by omega
  have bn3 : n3 ≤ 100000000 := by have e : x3.length + hI.szL x3 = hS.sz x3 := rfl; have := L3.out; omega
  have z4 : hPS.sz x4 ≤ 100000000 := by omega
  have bn4 : n4 ≤ 100000000 := by have e : x4.length + hP.szL x4 = hPS.sz x4 := rfl; have := L4.out; omega
  have z5 : hM.sz x5 ≤ 100000000 := by omega
  have bn5 : n5 ≤ 100000000 := by have e : x5.length + hSt.szL x5 = hM.sz x5 := rfl; have := L5.out; omega
  have hb1 : Hid (∀ x ∈ x1, x.length ≤ 1000000000) := Lib.hid (fun x hx => by
    have hq1 : x1.length + hS.szL x1 = hSS.sz x1 := rfl
    obtain ⟨i, hi⟩ := List.getElem?_of_mem hx
    have := hS.szL_at hi
    rw [hS_sz] at this
    omega)
  have hx3 := (tS_R.1 k3).ri
  clear hn
  have HS := Lib.hid (show M.sessOk (a0, x1, x2, x3, x4, x5) = (M.inn a0 0 1000 && (decide (n1 ≤ 6) && x1.all M.sig) && decide (n2 ≤ 6) && M.mixOk x5 && decide (n3 = n2) && x3.all (M.idx n5) && decide (n4 = n5) && x2.all (fun t => M.trackOk t && M.hasS t n1) && x4.all M.effOk) by rw [M.sessOk, M.srcOk]; simp only [L1.out, L2.out, L3.out, L4.out, L5.out])
  generalize M.sessOk (a0, x1, x2, x3, x4, x5) = ok at HS ⊢
  have cI : ∀ d os, Calls Tryz.prog 37 #[.int .i64 a0, .int .i64 0, .int .i64 1000] (grow (redrawn w d) os) fun e w'' => e = .returned (.bool (M.inn a0 0 1000)) ∧ ∃ p : Regrown, w'' = grow (redrawn w p.d) p.os := fun d os => Calls.regrown_of (to_bel (spec_l00In _ _ _ _))
  have cM : ∀ d os, Calls Tryz.prog 53 #[.pointer (some ⟨vb, 5, none⟩)] (grow (redrawn w d) os) fun e w'' => e = .returned (.bool (M.mixOk x5)) ∧ ∃ p : Regrown, w'' = grow (redrawn w p.d) p.os := fun d os => Calls.regrown_of (spec_l26Ok_at vb 5 A5 n5 c5 x5 _ (cell_regrown p5 d os) (tM.later k5 (below_regrown w d os)) z5)
  have pp0 := cell_regrown p0
  have pp1 := cell_regrown p1
  have pp2 := cell_regrown p2
  have pp3 := cell_regrown p3
  have pp4 := cell_regrown p4
  have pp5 := cell_regrown p5
  clear p0 p1 p2 p3 p4 p5
  cases g0 : M.inn a0 0 1000
  · have R := Lib.hid (show ok = false by rw [HS.out]; simp only [g0, Bool.false_and, Bool.and_false, Bool.true_and])
    rw [g0] at cI
    clear g0
    go_enter Tryz.func25, Tryz.ntmps25
    go_wp2_with fail
    (refine wp_region_quiet_below (by kernel_rfl) (by kernel_rfl) ?_; (repeat (go_big_quiet_step ((first | exact cI _ _ | exact cM _ _)))); refine wpQuiet_nil ?_; intro _ hw'; obtain ⟨⟨dq, osq⟩, hw''⟩ := hw'; subst hw'')
    go_wp2
    go_ret
    exact ⟨ret_bool (by rw [R.out]), below_regrown w dq osq⟩
  rw [g0] at cI
  have G0 := Lib.hid g0
  clear g0
  by_cases g1 : ¬ n1 ≤ 6
  · have R := Lib.hid (show ok = false by rw [HS.out]; simp only [G0.out, decide_eq_false g1, Bool.false_and, Bool.and_false, Bool.true_and])
    have gg : decide ((6 : Int) < (n1 : Int)) = true := decide_eq_true (by omega)
    go_enter Tryz.func25, Tryz.ntmps25
    go_wp2_with fail
    (refine wp_region_quiet_below (by kernel_rfl) (by kernel_rfl) ?_; (repeat (go_big_quiet_step ((first | exact cI _ _ | exact cM _ _)))); refine wpQuiet_nil ?_; intro _ hw'; obtain ⟨⟨dq, osq⟩, hw''⟩ := hw'; subst hw'')
    go_wp2
    go_ret
    exact ⟨ret_bool (by rw [R.out]), below_regrown w dq osq⟩
  replace g1 : n1 ≤ 6 := Decidable.not_not.1 g1
  have gd1 : decide ((6 : Int) < (n1 : Int)) = false := decide_eq_false (by omega)
  by_cases g2 : ¬ n2 ≤ 6
  · have R := Lib.hid (show ok = false by rw [HS.out]; simp only [G0.out, decide_eq_true g1, decide_eq_false g2, Bool.false_and, Bool.and_false, Bool.true_and])
    have gg : decide ((6 : Int) < (n2 : Int)) = true := decide_eq_true (by omega)
    go_enter Tryz.func25, Tryz.ntmps25
    go_wp2_with fail
    (refine wp_region_quiet_below (by kernel_rfl) (by kernel_rfl) ?_; (repeat (go_big_quiet_step ((first | exact cI _ _ | exact cM _ _)))); refine wpQuiet_nil ?_; intro _ hw'; obtain ⟨⟨dq, osq⟩, hw''⟩ := hw'; subst hw'')
    go_wp2
    go_ret
    exact ⟨ret_bool (by rw [R.out]), below_regrown w dq osq⟩
  replace g2 : n2 ≤ 6 := Decidable.not_not.1 g2
  have gd2 : decide ((6 : Int) < (n2 : Int)) = false := decide_eq_false (by omega)
  cases g3 : M.mixOk x5
  · have R := Lib.hid (show ok = false by rw [HS.out]; simp only [G0.out, decide_eq_true g1, decide_eq_true g2, g3, Bool.false_and, Bool.and_false, Bool.true_and])
    rw [g3] at cM
    clear g3
    go_enter Tryz.func25, Tryz.ntmps25
    go_wp2_with fail
    (refine wp_region_quiet_below (by kernel_rfl) (by kernel_rfl) ?_; (repeat (go_big_quiet_step ((first | exact cI _ _ | exact cM _ _)))); refine wpQuiet_nil ?_; intro _ hw'; obtain ⟨⟨dq, osq⟩, hw''⟩ := hw'; subst hw'')
    go_wp2
    go_ret
    exact ⟨ret_bool (by rw [R.out]), below_regrown w dq osq⟩
  rw [g3] at cM
  have G3 := Lib.hid g3
  clear g3
  by_cases g4 : ¬ n3 = n2
  · have R := Lib.hid (show ok = false by rw [HS.out]; simp only [G0.out, decide_eq_true g1, decide_eq_true g2, G3.out, decide_eq_false g4, Bool.false_and, Bool.and_false, Bool.true_and])
    have gg : ((n3 : Int) != (n2 : Int)) = true := by simp; omega
    go_enter Tryz.func25, Tryz.ntmps25
    go_wp2_with fail
    (refine wp_region_quiet_below (by kernel_rfl) (by kernel_rfl) ?_; (repeat (go_big_quiet_step ((first | exact cI _ _ | exact cM _ _)))); refine wpQuiet_nil ?_; intro _ hw'; obtain ⟨⟨dq, osq⟩, hw''⟩ := hw'; subst hw'')
    go_wp2
    go_ret
    exact ⟨ret_bool (by rw [R.out]), below_regrown w dq osq⟩
  replace g4 : n3 = n2 := Decidable.not_not.1 g4
  subst g4
  by_cases g5 : ¬ n4 = n5
  · have R := Lib.hid (show ok = false by rw [HS.out]; simp only [G0.out, decide_eq_true g1, decide_eq_true g2, G3.out, decide_true, decide_eq_false g5, Bool.false_and, Bool.and_false, Bool.true_and])
    have gg : ((n4 : Int) != (n5 : Int)) = true := by simp; omega
    go_enter Tryz.func25, Tryz.ntmps25
    go_wp2_with fail
    (refine wp_region_quiet_below (by kernel_rfl) (by kernel_rfl) ?_; (repeat (go_big_quiet_step ((first | exact cI _ _ | exact cM _ _)))); refine wpQuiet_nil ?_; intro _ hw'; obtain ⟨⟨dq, osq⟩, hw''⟩ := hw'; subst hw'')
    go_wp2
    go_ret
    exact ⟨ret_bool (by rw [R.out]), below_regrown w dq osq⟩
  replace g5 : n4 = n5 := Decidable.not_not.1 g5
  subst g5
  have HS2 := Lib.hid (show ok = (x1.all M.sig && x3.all (M.idx n4) && x2.all (fun t => M.trackOk t && M.hasS t n1) && x4.all M.effOk) by rw [HS.out]; simp only [G0.out, decide_eq_true g1, decide_eq_true g2, G3.out, decide_true, Bool.true_and, Bool.and_true])
  go_enter Tryz.func25, Tryz.ntmps25
  go_wp2_with fail
  (refine wp_region_quiet_below (by kernel_rfl) (by kernel_rfl) ?_; (repeat (go_big_quiet_step ((first | exact cI _ _ | exact cM _ _)))); refine wpQuiet_nil ?_; intro _ hw'; obtain ⟨⟨dq, osq⟩, hw''⟩ := hw'; subst hw'')
  replace pp0 := pp0 dq osq
  replace pp1 := pp1 dq osq
  replace pp2 := pp2 dq osq
  replace pp3 := pp3 dq osq
  replace pp4 := pp4 dq osq
  replace pp5 := pp5 dq osq
  have BV := below_regrown w dq osq
  replace k1 := tSS.later k1 BV
  replace k2 := tTS.later k2 BV
  replace k3 := tS.later k3 BV
  replace k4 := tPS.later k4 BV
  replace k5 := tM.later k5 BV
  clear cI cM HS r1 r2 r3 r4 r5 hx3
  generalize grow (redrawn w dq) osq = V at pp0 pp1 pp2 pp3 pp4 pp5 k1 k2 k3 k4 k5 BV ⊢
  have lV : vb < V.heap.size := World.block_lt_of_cell? V _ pp0
  have r1 := sl_R.1 k1
  have r2 := sl_R.1 k2
  have r4 := sl_R.1 k4
  have hx3 := (tS_R.1 k3).ri
  go_wp2_with fail
  go_loop [3] (fun i => ∃ k : Nat, i = .int .i64 k ∧ k ≤ n1 ∧ Hid (x1.all M.sig = (x1.drop k).all M.sig)) (fun i => n1 - (intOf i).toNat)
  case atStart => exact ⟨0, rfl, by omega, Lib.hid (by simp)⟩
  case round =>
    obtain ⟨k, rfl, hk, H⟩ := hrel
    by_cases hlt : k < n1
    · obtain ⟨bb, o, A7, c7, x, rfl, hbb, Y, hc, hri, hxl⟩ := src_cell r1 hb1 hlt
      have hd := Lib.hid (M.drop_at Y.out)
      have hk0 : (0 : Int) ≤ (k : Int) := by omega
      have hkn : (k : Int) < (n1 : Int) := by omega
      cases hs : M.sig x
      · have R := Lib.hid (show ok = false by rw [HS2.out, H.out, hd.out, List.all_cons, hs]; rfl)
        have HQ := Lib.hid hs
        clear hs
        go_wp2_with fail
        refine (spec_l03Ok _ _ _ _ _ hri hxl).mono ?_
        rw [HQ.out]
        rintro e w' ⟨rfl, rfl⟩
        go_wp2
        go_ret
        exact ⟨ret_bool (by rw [R.out]), BV⟩
      · have R := Lib.hid (show x1.all M.sig = (x1.drop (k + 1)).all M.sig by rw [H.out, hd.out, List.all_cons, hs]; rfl)
        have HQ := Lib.hid hs
        clear hs
        go_wp2_with fail
        refine (spec_l03Ok _ _ _ _ _ hri hxl).mono ?_
        rw [HQ.out]
        rintro e w' ⟨rfl, rfl⟩
        go_wp2
        go_round
        case rel => exact ⟨k + 1, by go_num, by omega, R⟩
        case measure => simp [intOf]; omega
    · have HS3 := Lib.hid (show ok = (x3.all (M.idx n4) && x2.all (fun t => M.trackOk t && M.hasS t n1) && x4.all M.effOk) by rw [HS2.out, H.out, List.drop_eq_nil_of_le (by rw [L1.out]; omega)]; rfl)
      go_wp2_with fail
      clear H hk hlt
      go_loopw [4] (fun i wr => ∃ k : Nat, i = .int .i64 k ∧ k ≤ n3 ∧ Hid (ok = ((x3.drop k).all (M.idx n4) && (x2.drop k).all (fun t => M.trackOk t && M.hasS t n1) && x4.all M.effOk)) ∧ Below V.heap.size V wr) (fun i _ => n3 - (intOf i).toNat)
      case atStart => exact ⟨0, rfl, by omega, Lib.hid HS3.out, Below.refl _ _⟩
      case round =>
        obtain ⟨k, rfl, hk, H, Bw⟩ := hrel
        have BW := bel_trans BV Bw
        by_cases hlt : k < n3
        · obtain ⟨bt, ot, A7, n7, c7, t, rfl, hbt, Y, e0, hT, hra, h7⟩ := track_cell (r2.below Bw) z2 hlt
          obtain ⟨ad, f, rfl, hab, Y3, f0⟩ := (hx3.below Bw).at hlt
          have hd := Lib.hid (M.drop_at Y.out)
          have hd3 := Lib.hid (M.drop_at Y3.out)
          have hk0 : (0 : Int) ≤ (k : Int) := by omega
          have hkn : (k : Int) < (n3 : Int) := by omega
          have hn4 : IntKind.i64.wrap ((n4 : Int) - 1) = (n4 : Int) - 1 := IntWalk.i64_in _ (by omega)
          have ee0 := cell_regrown e0
          have ff0 := cell_regrown f0
          have q0 := cell_regrown (show wr.cell? ⟨vb, 0, none⟩ = some (.int .i64 a0) by rw [Bw.cell lV]; exact pp0)
          have q1 := cell_regrown (show wr.cell? ⟨vb, 1, none⟩ = some (.slice A1 n1 c1) by rw [Bw.cell lV]; exact pp1)
          have q2 := cell_regrown (show wr.cell? ⟨vb, 2, none⟩ = some (.slice (some ⟨bt, ot, none⟩) n3 c2) by rw [Bw.cell lV]; exact pp2)
          have q3 := cell_regrown (show wr.cell? ⟨vb, 3, none⟩ = some (.slice (some ad) n3 c3) by rw [Bw.cell lV]; exact pp3)
          have q5 := cell_regrown (show wr.cell? ⟨vb, 5, none⟩ = some (.slice A5 n4 c5) by rw [Bw.cell lV]; exact pp5)
          have q2w : wr.cell? ⟨vb, 2, none⟩ = some (.slice (some ⟨bt, ot, none⟩) n3 c2) := by rw [Bw.cell lV]; exact pp2
          have hra2 := fun d os => (hra.more Bw.size).later (below_regrown wr d os)
          have cT : ∀ d os, Calls Tryz.prog 55 #[.pointer (some ⟨bt, ot + k, none⟩), .int .i64 n1] (grow (redrawn wr d) os) fun e w'' => e = .returned (.bool (M.trackOk t && M.hasS t n1)) ∧ ∃ p : Regrown, w'' = grow (redrawn wr p.d) p.os := fun d os => Calls.regrown_of (spec_l27Track bt (ot + k) A7 n7 c7 t n1 _ (ee0 d os) (hra2 d os) (by omega) (by omega))
          have cI : ∀ d os, Calls Tryz.prog 37 #[.int .i64 f, .int .i64 0, .int .i64 ((n4 : Int) - 1)] (grow (redrawn wr d) os) fun e w'' => e = .returned (.bool (M.inn f 0 ((n4 : Int) - 1))) ∧ ∃ p : Regrown, w'' = grow (redrawn wr p.d) p.os := fun d os => Calls.regrown_of (to_bel (spec_l00In _ _ _ _))
          clear e0 f0
          cases hs : (M.trackOk t && M.hasS t n1)
          · have R := Lib.hid (show ok = false by rw [H.out, hd.out, hd3.out, List.all_cons, List.all_cons]; simp only [hs, Bool.false_and, Bool.and_false])
            rw [hs] at cT
            clear hs
            go_wp2_with fail
            clear q2w
            (refine wp_region_quiet_below (by kernel_rfl) (by kernel_rfl) ?_; (repeat (go_big_quiet_step ((first | exact cT _ _ | exact cI _ _)))); refine wpQuiet_nil ?_; intro _ hw'; obtain ⟨⟨dq, osq⟩, hw''⟩ := hw'; subst hw'')
            go_wp2
            go_ret
            exact ⟨ret_bool (by rw [R.out]), bel_trans BW (below_regrown wr dq osq)⟩
          · rw [hs] at cT
            cases hf : M.inn f 0 ((n4 : Int) - 1)
            · have R := Lib.hid (show ok = false by rw [H.out, hd.out, hd3.out, List.all_cons, List.all_cons, M.idx]; simp only [hf, Bool.false_and])
              rw [hf] at cI
              clear hs hf
              go_wp2_with fail
              clear q2w
              (refine wp_region_quiet_below (by kernel_rfl) (by kernel_rfl) ?_; (repeat (go_big_quiet_step ((first | exact cT _ _ | exact cI _ _)))); refine wpQuiet_nil ?_; intro _ hw'; obtain ⟨⟨dq, osq⟩, hw''⟩ := hw'; subst hw'')
              go_wp2
              go_ret
              exact ⟨ret_bool (by rw [R.out]), bel_trans BW (below_regrown wr dq osq)⟩
            · have R := Lib.hid (show ok = ((x3.drop (k + 1)).all (M.idx n4) && (x2.drop (k + 1)).all (fun t => M.trackOk t && M.hasS t n1) && x4.all M.effOk) by rw [H.out, hd.out, hd3.out, List.all_cons, List.all_cons, M.idx]; simp only [hf, hs, Bool.true_and])
              rw [hf] at cI
              clear hs hf
              go_wp2_with fail
              clear q2w
              (refine wp_region_quiet_below (by kernel_rfl) (by kernel_rfl) ?_; (repeat (go_big_quiet_step ((first | exact cT _ _ | exact cI _ _)))); refine wpQuiet_nil ?_; intro _ hw'; obtain ⟨⟨dq, osq⟩, hw''⟩ := hw'; subst hw'')
              go_wp2
              go_roundw
              case rel => exact ⟨k + 1, by go_num, by omega, R, bel_trans Bw (below_regrown wr dq osq)⟩
              case measure => simp [intOf]; omega
        · have HS4 := Lib.hid (show ok = x4.all M.effOk by rw [H.out, List.drop_eq_nil_of_le (by rw [L3.out]; omega), List.drop_eq_nil_of_le (by rw [L2.out]; omega)]; rfl)
          have q2 : wr.cell? ⟨vb, 2, none⟩ = some (.slice A2 n3 c2) := by rw [Bw.cell lV]; exact pp2
          go_wp2_with fail
          clear H hk
          obtain ⟨wo, rfl⟩ : ∃ wo : World, wo = wr := ⟨_, rfl⟩
          go_loopw [5] (fun i wr => ∃ k : Nat, i = .int .i64 k ∧ k ≤ n4 ∧ Hid (ok = (x4.drop k).all M.effOk) ∧ Below V.heap.size V wr) (fun i _ => n4 - (intOf i).toNat)
          case atStart => exact ⟨0, rfl, by omega, Lib.hid HS4.out, Bw⟩
          case round =>
            obtain ⟨k, rfl, hk, H, Bw2⟩ := hrel
            have BW := bel_trans BV Bw2
            have q4 : wr.cell? ⟨vb, 4, none⟩ = some (.slice A4 n4 c4) := by rw [Bw2.cell lV]; exact pp4
            by_cases hlt2 : k < n4
            · obtain ⟨bp, op, b0, B1, m1, d1, B2, m2, d2, B3, m3, d3, y1, y2, y3, rfl, hbp, Y, e0, e1, e2, e3, t1, t2, t3, hz⟩ := patch_cell (r4.below Bw2) z4 hlt2
              have hd := Lib.hid (M.drop_at Y.out)
              have s1 := tSS.more Bw2.size t1
              have s2 := tNS.more Bw2.size t2
              have s3 := tS.more Bw2.size t3
              have M1 := Lib.hid (sl_R.1 s1).cap.1
              have M2 := Lib.hid (sl_R.1 s2).cap.1
              have M3 := Lib.hid (tS_len s3)
              have hk0 : (0 : Int) ≤ (k : Int) := by omega
              have hkn : (k : Int) < (n4 : Int) := by omega
              clear t1 t2 t3
              cases hno : decide (((b0, y1, y2, y3) : Patch) = M.p0)
              · have HNO := Lib.hid hno
                by_cases hb0 : b0 = 1
                · subst hb0
                  by_cases hm3 : m3 = 1
                  · subst hm3
                    cases hp : M.patchOk (1, y1, y2, y3)
                    · have R := Lib.hid (show ok = false by rw [H.out, hd.out, List.all_cons, M.effOk]; simp only [hno, hp, Bool.false_or, Bool.false_and])
                      have HP := Lib.hid hp
                      clear hno hp
                      go_wp2_with (first
                        | (go_at_call 56; refine (spec_l27None bp (op + k * 4) 1 B1 m1 d1 B2 m2 d2 B3 1 d3 y1 y2 y3 wr e0 e1 e2 e3 M1 M2 M3).mono ?_; rw [HNO.out]; rintro e w' ⟨rfl, rfl⟩)
                        | (go_at_call 57; refine (spec_l07Ok bp (op + k * 4) 1 B1 m1 d1 B2 m2 d2 B3 1 d3 y1 y2 y3 wr e0 e1 e2 e3 s1 s2 s3 hz).mono ?_; rw [HP.out]; rintro e w5 ⟨rfl, bel5⟩))
                      go_ret
                      exact ⟨ret_bool (by rw [R.out]), bel_trans BW bel5⟩
                    · have R := Lib.hid (show ok = (x4.drop (k + 1)).all M.effOk by rw [H.out, hd.out, List.all_cons, M.effOk]; simp only [hno, hp, M3.out, decide_true, Bool.false_or, Bool.true_and])
                      have HP := Lib.hid hp
                      clear hno hp
                      go_wp2_with (first
                        | (go_at_call 56; refine (spec_l27None bp (op + k * 4) 1 B1 m1 d1 B2 m2 d2 B3 1 d3 y1 y2 y3 wr e0 e1 e2 e3 M1 M2 M3).mono ?_; rw [HNO.out]; rintro e w' ⟨rfl, rfl⟩)
                        | (go_at_call 57; refine (spec_l07Ok bp (op + k * 4) 1 B1 m1 d1 B2 m2 d2 B3 1 d3 y1 y2 y3 wr e0 e1 e2 e3 s1 s2 s3 hz).mono ?_; rw [HP.out]; rintro e w5 ⟨rfl, bel5⟩))
                      go_roundw
                      case rel => exact ⟨k + 1, by go_num, by omega, R, bel_trans Bw2 bel5⟩
                      case measure => simp [intOf]; omega
                  · have R := Lib.hid (show ok = false by rw [H.out, hd.out, List.all_cons, M.effOk]; simp only [hno, M3.out, decide_eq_false hm3, Bool.false_or, Bool.and_false, Bool.false_and])
                    have gm : ((m3 : Int) != 1) = true := by simp; omega
                    clear hno
                    go_wp2_with (go_at_call 56; refine (spec_l27None bp (op + k * 4) 1 B1 m1 d1 B2 m2 d2 B3 m3 d3 y1 y2 y3 wr e0 e1 e2 e3 M1 M2 M3).mono ?_; rw [HNO.out]; rintro e w' ⟨rfl, rfl⟩)
                    go_ret
                    exact ⟨ret_bool (by rw [R.out]), BW⟩
                · have R := Lib.hid (show ok = false by rw [H.out, hd.out, List.all_cons, M.effOk]; simp only [hno, decide_eq_false hb0, Bool.false_or, Bool.and_false, Bool.false_and])
                  have gb : (b0 != 1) = true := by simpa using hb0
                  clear hno
                  go_wp2_with (go_at_call 56; refine (spec_l27None bp (op + k * 4) b0 B1 m1 d1 B2 m2 d2 B3 m3 d3 y1 y2 y3 wr e0 e1 e2 e3 M1 M2 M3).mono ?_; rw [HNO.out]; rintro e w' ⟨rfl, rfl⟩)
                  go_ret
                  exact ⟨ret_bool (by rw [R.out]), BW⟩
              · have R := Lib.hid (show ok = (x4.drop (k + 1)).all M.effOk by rw [H.out, hd.out, List.all_cons, M.effOk]; simp only [hno, Bool.true_or, Bool.true_and])
                have HNO := Lib.hid hno
                clear hno
                go_wp2_with (go_at_call 56; refine (spec_l27None bp (op + k * 4) b0 B1 m1 d1 B2 m2 d2 B3 m3 d3 y1 y2 y3 wr e0 e1 e2 e3 M1 M2 M3).mono ?_; rw [HNO.out]; rintro e w' ⟨rfl, rfl⟩)
                go_roundw
                case rel => exact ⟨k + 1, by go_num, by omega, R, Bw2⟩
                case measure => simp [intOf]; omega
            · have R := Lib.hid (show ok = true by rw [H.out, List.drop_eq_nil_of_le (by rw [L4.out]; omega)]; rfl)
              go_wp2
              go_ret
              exact ⟨ret_bool (by rw [R.out]), BW⟩
end Go.Proofs.YtacgcagpaecncaaGreat
namespace Go.Proofs.YtacgcagpaecncaaGreat
open Go.RowKit Go.Sort
set_option maxHeartbeats 2000000
set_option maxRecDepth 100000
set_option linter.unusedVariables false
set_option linter.unusedSimpArgs false
theorem impl_clones (A : Option Addr) (n c : Nat) (xs : List (List Int)) (w : World) (hx : tSS.R w w.heap.size [.slice A n c] xs) (hn : hSS.sz xs ≤ 100000000) :
    Calls Tryz.prog 112 #[.slice A n c] w fun e w' => ∃ v, e = .returned v ∧ OS tS 24 w' (Iv w.heap.size w'.heap.size) v xs ∧ Below w.heap.size w w' := by
  have rx := sl_R.1 hx
  have hl := Lib.hid rx.cap.1
  have hq1 : xs.length + hS.szL xs = hSS.sz xs := rfl
  have hb1 : Hid (∀ x ∈ xs, x.length ≤ 1000000000) := Lib.hid (fun x hx => by
    obtain ⟨i, hi⟩ := List.getElem?_of_mem hx
    have := hS.szL_at hi
    rw [hS_sz] at this
    omega)
  have hnb : n ≤ 100000000 := by have := hl.out; omega
  have hxl : xs.length ≤ 100000000 := by omega
  clear hx hn hq1
  go_enter Tryz.func112, Tryz.ntmps112
  go_wp2_with fail
  go_loopw [3, 9] (fun v i wr => ∃ k : Nat, i = .int .i64 k ∧ k ≤ n ∧ OS tS 24 wr (Iv w.heap.size wr.heap.size) v (xs.take k) ∧ Below w.heap.size w wr) (fun _ i _ => n - (intOf i).toNat)
  case atStart => exact ⟨0, rfl, by omega, OS.made0 _ _ _, (Below.refl _ _).alloc (Nat.le_refl _) _⟩
  case round =>
    obtain ⟨k, rfl, hk, own, Bw⟩ := hrel
    by_cases hlt : k < n
    · obtain ⟨bb, o, A1, c1, x, rfl, hbb, X, hc, hri, hxl2⟩ := src_cell (rx.below Bw) hb1 hlt
      have hri2 := hri.more Bw.size
      have hx9 := hb1.out x (List.mem_of_getElem? X.out)
      have hpt := Lib.hid (M.take_at X.out)
      have hpl : (xs.take k).length ≤ 100000000 := by rw [List.length_take]; omega
      have hsb := Bw.size
      go_wp2_with fail
      refine (impl_clone _ _ _ _ _ hri2 (by omega)).mono ?_
      rintro e w1 ⟨v1, rfl, own1, bel1⟩
      obtain ⟨A4, c4, rfl, -⟩ := own1.shape
      have ow := own.below bel1 (Nat.le_refl _)
      have os2 := tS_O.2 (OI.os own1)
      have s2 := bel1.size
      go_wp2_with (at_builtin; refine wpList_pushS ei_S #[.slice A4 x.length c4] rfl _ _ rfl ow os2 (Iv.apart (Nat.le_refl _)) rfl rfl (by unfold maxLen; omega) (by omega) ?_; intro v3 w4 own4 ch4)
      go_roundw
      case rel =>
        refine ⟨k + 1, by go_num, by omega, ?_, (Bw.trans (bel1.mono hsb)).trans (ch4.toBelow (fun b hb => hb.1) (by omega))⟩
        rw [hpt.out]
        exact own4.wide (Iv.grow hsb s2 ch4.size)
      case measure => simp [intOf]; omega
    · obtain rfl : k = n := by omega
      go_wp2
      go_ret
      rw [List.take_of_length_le (by rw [hl.out]; exact Nat.le_refl _)] at own
      exact ⟨_, rfl, own, Bw⟩
theorem impl_copyNode (a0 a1 a2 : Int) (A : Option Addr) (n c : Nat) (xs : List Int) (w : World) (hx : RI w w.heap.size A n xs) (hn : n ≤ 100000000) :
    Calls Tryz.prog 139 #[.agg #[.int .i64 a0, .int .i64 a1, .int .i64 a2, .slice A n c]] w fun e w' => ∃ A' n' c', e = .returned (.agg #[.int .i64 a0, .int .i64 a1, .int .i64 a2, .slice A' n' c']) ∧ tN.O w' (Iv w.heap.size w'.heap.size) [.int .i64 a0, .int .i64 a1, .int .i64 a2, .slice A' n' c'] (a0, a1, a2, xs) ∧ Below w.heap.size w w' := by
  obtain rfl : xs.length = n := hx.len
  obtain ⟨W, hW⟩ : ∃ W, W = (w.alloc (.cells #[.int .i64 a0, .int .i64 a1, .int .i64 a2, .slice A xs.length c] 70)).alloc (.cells #[.int .i64 0, .int .i64 0, .int .i64 0, .slice none 0 0] 70) := ⟨_, rfl⟩
  have B0 : Below w.heap.size w W := by rw [hW]; exact ((Below.refl _ _).alloc (Nat.le_refl _) _).alloc (by simp) _
  have lW : w.heap.size + 1 < W.heap.size := by rw [hW]; simp
  have p0 : W.cell? ⟨w.heap.size, 0, none⟩ = some (.int .i64 a0) := by rw [hW]; simp [go_sem]
  have pf0 : W.frozen? ⟨w.heap.size, 0, none⟩ = false := by rw [hW]; simp [go_sem]
  have r0 : W.cell? ⟨w.heap.size + 1, 0, none⟩ = some (.int .i64 0) := by rw [hW]; simp [go_sem]
  have rf0 : W.frozen? ⟨w.heap.size + 1, 0, none⟩ = false := by rw [hW]; simp [go_sem]
  have p1 : W.cell? ⟨w.heap.size, 1, none⟩ = some (.int .i64 a1) := by rw [hW]; simp [go_sem]
  have pf1 : W.frozen? ⟨w.heap.size, 1, none⟩ = false := by rw [hW]; simp [go_sem]
  have r1 : W.cell? ⟨w.heap.size + 1, 1, none⟩ = some (.int .i64 0) := by rw [hW]; simp [go_sem]
  have rf1 : W.frozen? ⟨w.heap.size + 1, 1, none⟩ = false := by rw [hW]; simp [go_sem]
  have p2 : W.cell? ⟨w.heap.size, 2, none⟩ = some (.int .i64 a2) := by rw [hW]; simp [go_sem]
  have pf2 : W.frozen? ⟨w.heap.size, 2, none⟩ = false := by rw [hW]; simp [go_sem]
  have r2 : W.cell? ⟨w.heap.size + 1, 2, none⟩ = some (.int .i64 0) := by rw [hW]; simp [go_sem]
  have rf2 : W.frozen? ⟨w.heap.size + 1, 2, none⟩ = false := by rw [hW]; simp [go_sem]
  have p3 : W.cell? ⟨w.heap.size, 3, none⟩ = some (.slice A xs.length c) := by rw [hW]; simp [go_sem]
  have pf3 : W.frozen? ⟨w.heap.size, 3, none⟩ = false := by rw [hW]; simp [go_sem]
  have r3 : W.cell? ⟨w.heap.size + 1, 3, none⟩ = some (.slice none 0 0) := by rw [hW]; simp [go_sem]
  have rf3 : W.frozen? ⟨w.heap.size + 1, 3, none⟩ = false := by rw [hW]; simp [go_sem]
  have HW := Lib.hid hW
  have hx1 := hx.later B0
  clear hW
  go_enter Tryz.func139, Tryz.ntmps139
  go_wp2_with fail
  rw [← HW.out]
  refine (impl_clone _ _ _ _ _ hx1 (by omega)).mono ?_
  rintro e w1 ⟨v1, rfl, own1, bel1⟩
  obtain ⟨A4, c4, rfl, -⟩ := own1.shape
  have s1 := bel1.size
  replace p0 : w1.cell? ⟨w.heap.size, 0, none⟩ = some (.int .i64 a0) := by rw [bel1.cell (by show w.heap.size < W.heap.size; omega)]; exact p0
  replace pf0 : w1.frozen? ⟨w.heap.size, 0, none⟩ = false := by rw [bel1.frozen (by show w.heap.size < W.heap.size; omega)]; exact pf0
  replace r0 : w1.cell? ⟨w.heap.size + 1, 0, none⟩ = some (.int .i64 0) := by rw [bel1.cell (by show w.heap.size + 1 < W.heap.size; omega)]; exact r0
  replace rf0 : w1.frozen? ⟨w.heap.size + 1, 0, none⟩ = false := by rw [bel1.frozen (by show w.heap.size + 1 < W.heap.size; omega)]; exact rf0
  replace p1 : w1.cell? ⟨w.heap.size, 1, none⟩ = some (.int .i64 a1) := by rw [bel1.cell (by show w.heap.size < W.heap.size; omega)]; exact p1
  replace pf1 : w1.frozen? ⟨w.heap.size, 1, none⟩ = false := by rw [bel1.frozen (by show w.heap.size < W.heap.size; omega)]; exact pf1
  replace r1 : w1.cell? ⟨w.heap.size + 1, 1, none⟩ = some (.int .i64 0) := by rw [bel1.cell (by show w.heap.size + 1 < W.heap.size; omega)]; exact r1
  replace rf1 : w1.frozen? ⟨w.heap.size + 1, 1, none⟩ = false := by rw [bel1.frozen (by show w.heap.size + 1 < W.heap.size; omega)]; exact rf1
  replace p2 : w1.cell? ⟨w.heap.size, 2, none⟩ = some (.int .i64 a2) := by rw [bel1.cell (by show w.heap.size < W.heap.size; omega)]; exact p2
  replace pf2 : w1.frozen? ⟨w.heap.size, 2, none⟩ = false := by rw [bel1.frozen (by show w.heap.size < W.heap.size; omega)]; exact pf2
  replace r2 : w1.cell? ⟨w.heap.size + 1, 2, none⟩ = some (.int .i64 0) := by rw [bel1.cell (by show w.heap.size + 1 < W.heap.size; omega)]; exact r2
  replace rf2 : w1.frozen? ⟨w.heap.size + 1, 2, none⟩ = false := by rw [bel1.frozen (by show w.heap.size + 1 < W.heap.size; omega)]; exact rf2
  replace p3 : w1.cell? ⟨w.heap.size, 3, none⟩ = some (.slice A xs.length c) := by rw [bel1.cell (by show w.heap.size < W.heap.size; omega)]; exact p3
  replace pf3 : w1.frozen? ⟨w.heap.size, 3, none⟩ = false := by rw [bel1.frozen (by show w.heap.size < W.heap.size; omega)]; exact pf3
  replace r3 : w1.cell? ⟨w.heap.size + 1, 3, none⟩ = some (.slice none 0 0) := by rw [bel1.cell (by show w.heap.size + 1 < W.heap.size; omega)]; exact r3
  replace rf3 : w1.frozen? ⟨w.heap.size + 1, 3, none⟩ = false := by rw [bel1.frozen (by show w.heap.size + 1 < W.heap.size; omega)]; exact rf3
  have B1 := bel_trans B0 bel1
  have lw1 : w.heap.size < w1.heap.size := by omega
  have lw2 : w.heap.size + 1 < w1.heap.size := by omega
  have o1 := tS_O.2 (OI.os own1)
  clear B0 HW
  obtain ⟨U, hU⟩ : ∃ U, U = w1.setCell ⟨w.heap.size, 3, none⟩ (.slice A4 xs.length c4) := ⟨_, rfl⟩
  have m1 : Mid w.heap.size (w.heap.size + 1) w1 U := by rw [hU]; exact Mid.of_grown (grown_setCell w1 w.heap.size 3 _) fun k hk => by injection hk with hk; omega
  have eU : U.heap.size = w1.heap.size := by rw [hU]; simp
  have BU : Below (w.heap.size + 1) w1 U ∨ True := .inr trivial

  have u0 : U.cell? ⟨w.heap.size + 1, 0, none⟩ = some (.int .i64 0) := by rw [hU]; simp [go_sem, r0, lw1]
  have v0 : U.frozen? ⟨w.heap.size + 1, 0, none⟩ = false := by rw [hU]; simp [go_sem, rf0, lw1]
  have u1 : U.cell? ⟨w.heap.size + 1, 1, none⟩ = some (.int .i64 0) := by rw [hU]; simp [go_sem, r1, lw1]
  have v1 : U.frozen? ⟨w.heap.size + 1, 1, none⟩ = false := by rw [hU]; simp [go_sem, rf1, lw1]
  have u2 : U.cell? ⟨w.heap.size + 1, 2, none⟩ = some (.int .i64 0) := by rw [hU]; simp [go_sem, r2, lw1]
  have v2 : U.frozen? ⟨w.heap.size + 1, 2, none⟩ = false := by rw [hU]; simp [go_sem, rf2, lw1]
  have u3 : U.cell? ⟨w.heap.size + 1, 3, none⟩ = some (.slice none 0 0) := by rw [hU]; simp [go_sem, r3, lw1]
  have v3 : U.frozen? ⟨w.heap.size + 1, 3, none⟩ = false := by rw [hU]; simp [go_sem, rf3, lw1]
  have HU := Lib.hid hU
  clear hU BU
  go_wp2
  rw [← HU.out]
  have mm : Mid w.heap.size (w.heap.size + 1 + 1) U ((((U.setCell ⟨w.heap.size + 1, 0, none⟩ (.int .i64 a0)).setCell ⟨w.heap.size + 1, 1, none⟩ (.int .i64 a1)).setCell ⟨w.heap.size + 1, 2, none⟩ (.int .i64 a2)).setCell ⟨w.heap.size + 1, 3, none⟩ (.slice A4 xs.length c4)) := ((((Mid.of_grown (grown_setCell _ _ 0 _) (fun k hk => by injection hk with hk; omega)).trans (Mid.of_grown (grown_setCell _ _ 1 _) (fun k hk => by injection hk with hk; omega))).trans (Mid.of_grown (grown_setCell _ _ 2 _) (fun k hk => by injection hk with hk; omega))).trans (Mid.of_grown (grown_setCell _ _ 3 _) (fun k hk => by injection hk with hk; omega)))
  clear p0 p1 p2 p3 pf0 pf1 pf2 pf3 r0 r1 r2 r3 rf0 rf1 rf2 rf3
  refine bodyPost_ret (v := .agg #[.int .i64 a0, .int .i64 a1, .int .i64 a2, .slice A4 xs.length c4]) (by simp [results, Tryz.results139, go_sem, u0, u1, u2, u3, v0, v1, v2, v3]) rfl ?_
  have hM := (m1.wide (Nat.le_refl _) (Nat.le_succ _)).trans mm
  have eE := mm.size
  refine ⟨A4, xs.length, c4, rfl, tN_O.2 ⟨A4, xs.length, c4, Iv W.heap.size w1.heap.size, rfl, tS.omid o1 hM (.inr (by omega)) (Nat.le_refl _), Iv.mono (by omega) (by have := hM.size; omega)⟩, B1.trans (hM.toBelow (by omega))⟩
end Go.Proofs.YtacgcagpaecncaaGreat
namespace Go.Proofs.YtacgcagpaecncaaGreat
open Go.RowKit Go.Sort
set_option maxHeartbeats 2000000
set_option maxRecDepth 100000
set_option linter.unusedVariables false
set_option linter.unusedSimpArgs false
theorem Chg.up {F G : Nat → Prop} {a b c : World} (h : Chg G a b) (k : Chg F b c) (hf : ∀ x, x < a.heap.size → F x → G x) : Chg G a c :=
  ⟨k.os.trans h.os, k.tape.trans h.tape, k.output.trans h.output, Nat.le_trans h.size k.size, fun i hi hn => (k.block i (Nat.lt_of_lt_of_le hi h.size) (fun hF => hn (hf i hi hF))).trans (h.block i hi hn)⟩
theorem Chg.upB {G : Nat → Prop} {a b c : World} (h : Chg G a b) (k : Below b.heap.size b c) : Chg G a c := h.up (Chg.of_below k (fun _ => False)) (fun _ _ h => h.elim)
theorem Chg.cell {F : Nat → Prop} {a b : World} (h : Chg F a b) {k j : Nat} (hk : k < a.heap.size) (hn : ¬ F k) : b.cell? ⟨k, j, none⟩ = a.cell? ⟨k, j, none⟩ := by
  exact World.cell?_of_block (h.block k hk hn)
theorem Chg.frozen {F : Nat → Prop} {a b : World} (h : Chg F a b) {k j : Nat} (hk : k < a.heap.size) (hn : ¬ F k) : b.frozen? ⟨k, j, none⟩ = a.frozen? ⟨k, j, none⟩ := by
  have hb := h.block k hk hn
  simp only [World.frozen?]
  rw [hb]
/-- A struct's box at g, one of whose fields (number f) grows in a loop that began at w0. -/
structure Gr (g f : Nat) (w0 w : World) (v : Value) : Prop where
  chg : Chg (fun b => b = g) w0 w
  cel : w.cell? ⟨g, f, none⟩ = some v
  oth : ∀ j, j ≠ f → w.cell? ⟨g, j, none⟩ = w0.cell? ⟨g, j, none⟩
  fro : ∀ j, w.frozen? ⟨g, j, none⟩ = w0.frozen? ⟨g, j, none⟩
theorem Gr.start {g f : Nat} {w : World} {v : Value} (h : w.cell? ⟨g, f, none⟩ = some v) : Gr g f w w v := ⟨Chg.refl _ _, h, fun _ _ => rfl, fun _ => rfl⟩
theorem Gr.below {g f : Nat} {w0 w w' : World} {v : Value} (h : Gr g f w0 w v) (hb : Below w.heap.size w w') (hg : g < w.heap.size) : Gr g f w0 w' v :=
  ⟨h.chg.upB hb, by rw [hb.cell (p := ⟨g, f, none⟩) hg]; exact h.cel, fun j hj => by rw [hb.cell (p := ⟨g, j, none⟩) hg]; exact h.oth j hj, fun j => by rw [hb.frozen (p := ⟨g, j, none⟩) hg]; exact h.fro j⟩
theorem Gr.row {g f : Nat} {w0 w w' : World} {v : Value} {F : Nat → Prop} (h : Gr g f w0 w v) (hc : Chg F w w') (hg : g < w.heap.size) (hF : ∀ b, F b → w0.heap.size ≤ b ∧ b ≠ g) : Gr g f w0 w' v :=
  ⟨h.chg.up hc (fun x hx hFx => by have := hF x hFx; omega), by rw [hc.cell hg (fun e => (hF g e).2 rfl)]; exact h.cel, fun j hj => by rw [hc.cell hg (fun e => (hF g e).2 rfl)]; exact h.oth j hj, fun j => by rw [hc.frozen hg (fun e => (hF g e).2 rfl)]; exact h.fro j⟩
theorem Gr.set {g f : Nat} {w0 w : World} {v : Value} (h : Gr g f w0 w v) (hz : w0.frozen? ⟨g, f, none⟩ = false) (u : Value) : Gr g f w0 (w.setCell ⟨g, f, none⟩ u) u := by
  have hfr : w.frozen? ⟨g, f, none⟩ = false := by rw [h.fro]; exact hz
  have hc := h.cel
  refine ⟨h.chg.trans (Chg.set w g f u rfl), by simp [go_sem, hc], fun j hj => ?_, fun j => ?_⟩
  · rw [← h.oth j hj]
    simp [go_sem, Ne.symm hj]
    try omega
  · rw [← h.fro j]
    simp [go_sem]
end Go.Proofs.YtacgcagpaecncaaGreat
namespace Go.Proofs.YtacgcagpaecncaaGreat
open Go.RowKit Go.Sort
set_option maxHeartbeats 2000000
set_option maxRecDepth 100000
set_option linter.unusedVariables false
set_option linter.unusedSimpArgs false
theorem box4 {U : World} {g : Nat} {z0 z1 z2 z3 : Value} (c0 : U.cell? ⟨g, 0, none⟩ = some z0) (c1 : U.cell? ⟨g, 1, none⟩ = some z1) (c2 : U.cell? ⟨g, 2, none⟩ = some z2) (c3 : U.cell? ⟨g, 3, none⟩ = some z3) (f0 : U.frozen? ⟨g, 0, none⟩ = false) (f1 : U.frozen? ⟨g, 1, none⟩ = false) (f2 : U.frozen? ⟨g, 2, none⟩ = false) (f3 : U.frozen? ⟨g, 3, none⟩ = false) (v0 v1 v2 v3 : Value) :
    ∃ U', U' = (((U.setCell ⟨g, 0, none⟩ v0).setCell ⟨g, 1, none⟩ v1).setCell ⟨g, 2, none⟩ v2).setCell ⟨g, 3, none⟩ v3 ∧ U'.cell? ⟨g, 0, none⟩ = some v0 ∧ U'.cell? ⟨g, 1, none⟩ = some v1 ∧ U'.cell? ⟨g, 2, none⟩ = some v2 ∧ U'.cell? ⟨g, 3, none⟩ = some v3 ∧ (∀ j, j < 4 → U'.frozen? ⟨g, j, none⟩ = false) ∧ Chg (fun b => b = g) U U' ∧ U'.heap.size = U.heap.size := by
  refine ⟨_, rfl, by simp [go_sem, c0], by simp [go_sem, c1], by simp [go_sem, c2], by simp [go_sem, c3], fun j hj => ?_, (((Chg.set (F := fun b => b = g) _ g 0 v0 rfl).trans (Chg.set _ g 1 v1 rfl)).trans (Chg.set _ g 2 v2 rfl)).trans (Chg.set _ g 3 v3 rfl), by simp⟩
  match j, hj with
  | 0, _ => simp [go_sem, f0]
  | 1, _ => simp [go_sem, f1]
  | 2, _ => simp [go_sem, f2]
  | 3, _ => simp [go_sem, f3]
theorem impl_copyPatch (a0 : Int) (A1 : Option Addr) (n1 c1 : Nat) (A2 : Option Addr) (n2 c2 : Nat) (A3 : Option Addr) (n3 c3 : Nat) (x1 : List (List Int)) (x2 : List Node) (x3 : List Int) (w : World) (h1 : tSS.R w w.heap.size [.slice A1 n1 c1] x1) (h2 : tNS.R w w.heap.size [.slice A2 n2 c2] x2) (h3 : tS.R w w.heap.size [.slice A3 n3 c3] x3) (hn : hP.sz ((a0, x1, x2, x3) : Patch) ≤ 100000000) :
    Calls Tryz.prog 114 #[.agg #[.int .i64 a0, .slice A1 n1 c1, .slice A2 n2 c2, .slice A3 n3 c3]] w fun e w' => ∃ A1' n1' c1' A2' n2' c2' A3' n3' c3', e = .returned (.agg #[.int .i64 a0, .slice A1' n1' c1', .slice A2' n2' c2', .slice A3' n3' c3']) ∧ tP.O w' (Iv w.heap.size w'.heap.size) [.int .i64 a0, .slice A1' n1' c1', .slice A2' n2' c2', .slice A3' n3' c3'] (a0, x1, x2, x3) ∧ Below w.heap.size w w' := by
  obtain ⟨W, hW⟩ : ∃ W, W = (w.alloc (.cells #[.int .i64 a0, .slice A1 n1 c1, .slice A2 n2 c2, .slice A3 n3 c3] 68)).alloc (.cells #[.int .i64 0, .slice none 0 0, .slice none 0 0, .slice none 0 0] 68) := ⟨_, rfl⟩
  have B0 : Below w.heap.size w W := by rw [hW]; exact ((Below.refl _ _).alloc (Nat.le_refl _) _).alloc (by simp) _
  have lW : w.heap.size + 1 < W.heap.size := by rw [hW]; simp
  have p0 : W.cell? ⟨w.heap.size, 0, none⟩ = some (.int .i64 a0) := by rw [hW]; simp [go_sem]
  have r0 : W.cell? ⟨w.heap.size + 1, 0, none⟩ = some (.int .i64 0) := by rw [hW]; simp [go_sem]
  have rf0 : W.frozen? ⟨w.heap.size + 1, 0, none⟩ = false := by rw [hW]; simp [go_sem]
  have p1 : W.cell? ⟨w.heap.size, 1, none⟩ = some (.slice A1 n1 c1) := by rw [hW]; simp [go_sem]
  have r1 : W.cell? ⟨w.heap.size + 1, 1, none⟩ = some (.slice none 0 0) := by rw [hW]; simp [go_sem]
  have rf1 : W.frozen? ⟨w.heap.size + 1, 1, none⟩ = false := by rw [hW]; simp [go_sem]
  have p2 : W.cell? ⟨w.heap.size, 2, none⟩ = some (.slice A2 n2 c2) := by rw [hW]; simp [go_sem]
  have r2 : W.cell? ⟨w.heap.size + 1, 2, none⟩ = some (.slice none 0 0) := by rw [hW]; simp [go_sem]
  have rf2 : W.frozen? ⟨w.heap.size + 1, 2, none⟩ = false := by rw [hW]; simp [go_sem]
  have p3 : W.cell? ⟨w.heap.size, 3, none⟩ = some (.slice A3 n3 c3) := by rw [hW]; simp [go_sem]
  have r3 : W.cell? ⟨w.heap.size + 1, 3, none⟩ = some (.slice none 0 0) := by rw [hW]; simp [go_sem]
  have rf3 : W.frozen? ⟨w.heap.size + 1, 3, none⟩ = false := by rw [hW]; simp [go_sem]
  have HW := Lib.hid hW
  clear hW
  have k1 := tSS.later h1 B0
  have k2 := tNS.later h2 B0
  have k3 := tS.later h3 B0
  have L1 := Lib.hid (sl_R.1 k1).cap.1
  have L2 := Lib.hid (sl_R.1 k2).cap.1
  have L3 := Lib.hid (tS_len k3)
  rw [hP_sz] at hn
  have z1 : hSS.sz x1 ≤ 100000000 := by omega
  have z2 : hNS.sz x2 ≤ 100000000 := by omega
  have z3 : x3.length ≤ 100000000 := by rw [hS_sz] at hn; omega
  have bn2 : n2 ≤ 100000000 := by have e : x2.length + hN.szL x2 = hNS.sz x2 := rfl; have := L2.out; omega
  have bn3 : n3 ≤ 100000000 := by have := L3.out; omega
  have pp0 := cell_regrown p0
  have pp1 := cell_regrown p1
  have pp3 := cell_regrown p3
  have D1 : Below W.heap.size W W.drew := below_drewN (Below.refl _ _) 1
  have hd0 : W.drew.heap.size = W.heap.size := rfl
  clear h1 h2 h3 hn
  go_enter Tryz.func114, Tryz.ntmps114
  go_wp2_with fail
  rw [← HW.out]
  go_cut [3] (fun q3 wx => ∃ (g : Nat) (A1' : Option Addr) (c1' : Nat) (A3' : Option Addr) (c3' l1 u1 l3 u3 : Nat), q3 = .pointer (some ⟨g, 0, none⟩) ∧ W.heap.size ≤ g ∧ g < wx.heap.size ∧ wx.cell? ⟨g, 0, none⟩ = some (.int .i64 a0) ∧ wx.cell? ⟨g, 1, none⟩ = some (.slice A1' x1.length c1') ∧ wx.cell? ⟨g, 2, none⟩ = some (.slice none 0 0) ∧ wx.cell? ⟨g, 3, none⟩ = some (.slice A3' x3.length c3') ∧ (∀ j, j < 4 → wx.frozen? ⟨g, j, none⟩ = false) ∧ tSS.O wx (Iv l1 u1) [.slice A1' x1.length c1'] x1 ∧ tS.O wx (Iv l3 u3) [.slice A3' x3.length c3'] x3 ∧ Below W.heap.size W wx ∧ W.heap.size ≤ l1 ∧ u1 ≤ l3 ∧ u3 ≤ wx.heap.size ∧ l1 ≤ u1 ∧ l3 ≤ u3 ∧ (g < l1 ∨ (u1 ≤ g ∧ g < l3) ∨ u3 ≤ g))
  case first =>
    clear p0 p1 p2 p3 r0 r1 r2 r3 rf0 rf1 rf2 rf3 k2
    go_wp2_with fail
    (refine wp_region_fresh [0, 2, 5] [1, 3, 6] 4 (.two 4 (.two 7 (.two 8 (.one 9 .rest) 9 (.one 8 .rest)) 9 (.one 7 (.one 8 .rest))) 9 (.one 4 (.one 7 (.one 8 .rest)))) [10] (by kernel_rfl) (by kernel_rfl) ?_; simp only [pickOps]; simp only [List.filterMap, List.getElem?_cons_succ, List.getElem?_cons_zero]; (repeat (go_big_quiet_step (fail))); refine wpQuiet_nil ?_; (repeat (go_big_quiet_step (fail))); refine wpQuiet_nil ?_)
    refine seqT_two rfl rfl ?_ ?_
    · go_wp2_with fail
      refine (impl_clones _ _ _ _ _ (tSS.later k1 D1) z1).mono ?_
      rintro e w1 ⟨V4, rfl, own2, bel3⟩
      obtain ⟨AA5, cc6, rfl⟩ := own2.shape
      have Bw1 := bel_trans D1 bel3
      have sw1 := bel3.size
      go_wp2_with fail
      refine ⟨regrown_of_below Bw1, seqT_two rfl rfl ?_ ?_⟩
      · go_wp2_with fail
        refine (impl_clone _ _ _ _ _ (tS_R.1 (tS.later k3 Bw1)).ri (by omega)).mono ?_
        rintro e w7 ⟨V10, rfl, own8, bel9⟩
        obtain ⟨AA11, cc12, rfl, -⟩ := own8.shape
        have Bw7 := bel_trans Bw1 bel9
        have sw7 := bel9.size
        go_wp2_with fail
        refine ⟨regrown_of_below Bw7, seqT_two rfl rfl ?_ ?_⟩
        · go_wp2_with fail
          refine ⟨regrown_of_below Bw7, seqT_one rfl ?_⟩
          obtain ⟨U13, hU13⟩ : ∃ U, U = w7.alloc (.cells #[.int .i64 0, .slice none 0 0, .slice none 0 0, .slice none 0 0] 68) := ⟨_, rfl⟩
          have Bx14 : Below w7.heap.size w7 U13 := by rw [hU13]; exact (Below.refl _ _).alloc (Nat.le_refl _) _
          have sU13 : U13.heap.size = w7.heap.size + 1 := by rw [hU13]; simp
          have xU13_0 : U13.cell? ⟨w7.heap.size, 0, none⟩ = some (.int .i64 0) := by rw [hU13]; simp [go_sem]
          have yU13_0 : U13.frozen? ⟨w7.heap.size, 0, none⟩ = false := by rw [hU13]; simp [go_sem]
          have xU13_1 : U13.cell? ⟨w7.heap.size, 1, none⟩ = some (.slice none 0 0) := by rw [hU13]; simp [go_sem]
          have yU13_1 : U13.frozen? ⟨w7.heap.size, 1, none⟩ = false := by rw [hU13]; simp [go_sem]
          have xU13_2 : U13.cell? ⟨w7.heap.size, 2, none⟩ = some (.slice none 0 0) := by rw [hU13]; simp [go_sem]
          have yU13_2 : U13.frozen? ⟨w7.heap.size, 2, none⟩ = false := by rw [hU13]; simp [go_sem]
          have xU13_3 : U13.cell? ⟨w7.heap.size, 3, none⟩ = some (.slice none 0 0) := by rw [hU13]; simp [go_sem]
          have yU13_3 : U13.frozen? ⟨w7.heap.size, 3, none⟩ = false := by rw [hU13]; simp [go_sem]
          go_wp2_with fail
          rw [← hU13]
          have BU13 := bel_trans Bw7 Bx14
          clear hU13
          refine ⟨regrown_of_below BU13, ?_⟩
          have hg : w7.heap.size < U13.heap.size := by omega
          have bx0 := xU13_0
          have by0 := yU13_0
          have bx1 := xU13_1
          have by1 := yU13_1
          have bx2 := xU13_2
          have by2 := yU13_2
          have bx3 := xU13_3
          have by3 := yU13_3
          have q1 := own2
          replace q1 := q1.below bel9 (by omega)
          replace q1 := q1.below Bx14 (by omega)
          have q3 := OI.os own8
          replace q3 := q3.below Bx14 (by omega)
          refine seqT_rest ?_
          go_wp2_with fail
          try refine ⟨rfl, ?_⟩
          go_meet
          obtain ⟨U_, hU_, d0, d1, d2, d3, df, dch, dsz⟩ := box4 bx0 bx1 bx2 bx3 by0 by1 by2 by3 (.int .i64 a0) (.slice AA5 x1.length cc6) (.slice none 0 0) (.slice AA11 x3.length cc12)
          rw [← hU_]
          exact ⟨w7.heap.size, AA5, cc6, AA11, cc12, _, _, _, _, rfl, by omega, by omega, d0, d1, d2, d3, df, sl_O.2 (q1.chg dch (fun b hb (e : b = _) => by have := hb.1; have := hb.2; omega)), tS_O.2 (q3.chg dch (fun b hb (e : b = _) => by have := hb.1; have := hb.2; omega)), BU13.trans (dch.toBelow (fun k (hk : k = _) => by omega) (by omega)), by omega, by omega, by omega, by omega, by omega, by omega⟩
        · obtain ⟨U15, hU15⟩ : ∃ U, U = w7.alloc (.cells #[.int .i64 0, .slice none 0 0, .slice none 0 0, .slice none 0 0] 68) := ⟨_, rfl⟩
          have Bx16 : Below w7.heap.size w7 U15 := by rw [hU15]; exact (Below.refl _ _).alloc (Nat.le_refl _) _
          have sU15 : U15.heap.size = w7.heap.size + 1 := by rw [hU15]; simp
          have xU15_0 : U15.cell? ⟨w7.heap.size, 0, none⟩ = some (.int .i64 0) := by rw [hU15]; simp [go_sem]
          have yU15_0 : U15.frozen? ⟨w7.heap.size, 0, none⟩ = false := by rw [hU15]; simp [go_sem]
          have xU15_1 : U15.cell? ⟨w7.heap.size, 1, none⟩ = some (.slice none 0 0) := by rw [hU15]; simp [go_sem]
          have yU15_1 : U15.frozen? ⟨w7.heap.size, 1, none⟩ = false := by rw [hU15]; simp [go_sem]
          have xU15_2 : U15.cell? ⟨w7.heap.size, 2, none⟩ = some (.slice none 0 0) := by rw [hU15]; simp [go_sem]
          have yU15_2 : U15.frozen? ⟨w7.heap.size, 2, none⟩ = false := by rw [hU15]; simp [go_sem]
          have xU15_3 : U15.cell? ⟨w7.heap.size, 3, none⟩ = some (.slice none 0 0) := by rw [hU15]; simp [go_sem]
          have yU15_3 : U15.frozen? ⟨w7.heap.size, 3, none⟩ = false := by rw [hU15]; simp [go_sem]
          go_wp2_with fail
          rw [← hU15]
          have BU15 := bel_trans Bw7 Bx16
          clear hU15
          refine ⟨regrown_of_below BU15, seqT_one rfl ?_⟩
          go_wp2_with fail
          refine ⟨regrown_of_below BU15, ?_⟩
          have hg : w7.heap.size < U15.heap.size := by omega
          have bx0 := xU15_0
          have by0 := yU15_0
          have bx1 := xU15_1
          have by1 := yU15_1
          have bx2 := xU15_2
          have by2 := yU15_2
          have bx3 := xU15_3
          have by3 := yU15_3
          have q1 := own2
          replace q1 := q1.below bel9 (by omega)
          replace q1 := q1.below Bx16 (by omega)
          have q3 := OI.os own8
          replace q3 := q3.below Bx16 (by omega)
          refine seqT_rest ?_
          go_wp2_with fail
          try refine ⟨rfl, ?_⟩
          go_meet
          obtain ⟨U_, hU_, d0, d1, d2, d3, df, dch, dsz⟩ := box4 bx0 bx1 bx2 bx3 by0 by1 by2 by3 (.int .i64 a0) (.slice AA5 x1.length cc6) (.slice none 0 0) (.slice AA11 x3.length cc12)
          rw [← hU_]
          exact ⟨w7.heap.size, AA5, cc6, AA11, cc12, _, _, _, _, rfl, by omega, by omega, d0, d1, d2, d3, df, sl_O.2 (q1.chg dch (fun b hb (e : b = _) => by have := hb.1; have := hb.2; omega)), tS_O.2 (q3.chg dch (fun b hb (e : b = _) => by have := hb.1; have := hb.2; omega)), BU15.trans (dch.toBelow (fun k (hk : k = _) => by omega) (by omega)), by omega, by omega, by omega, by omega, by omega, by omega⟩
      · obtain ⟨U17, hU17⟩ : ∃ U, U = w1.alloc (.cells #[.int .i64 0, .slice none 0 0, .slice none 0 0, .slice none 0 0] 68) := ⟨_, rfl⟩
        have Bx18 : Below w1.heap.size w1 U17 := by rw [hU17]; exact (Below.refl _ _).alloc (Nat.le_refl _) _
        have sU17 : U17.heap.size = w1.heap.size + 1 := by rw [hU17]; simp
        have xU17_0 : U17.cell? ⟨w1.heap.size, 0, none⟩ = some (.int .i64 0) := by rw [hU17]; simp [go_sem]
        have yU17_0 : U17.frozen? ⟨w1.heap.size, 0, none⟩ = false := by rw [hU17]; simp [go_sem]
        have xU17_1 : U17.cell? ⟨w1.heap.size, 1, none⟩ = some (.slice none 0 0) := by rw [hU17]; simp [go_sem]
        have yU17_1 : U17.frozen? ⟨w1.heap.size, 1, none⟩ = false := by rw [hU17]; simp [go_sem]
        have xU17_2 : U17.cell? ⟨w1.heap.size, 2, none⟩ = some (.slice none 0 0) := by rw [hU17]; simp [go_sem]
        have yU17_2 : U17.frozen? ⟨w1.heap.size, 2, none⟩ = false := by rw [hU17]; simp [go_sem]
        have xU17_3 : U17.cell? ⟨w1.heap.size, 3, none⟩ = some (.slice none 0 0) := by rw [hU17]; simp [go_sem]
        have yU17_3 : U17.frozen? ⟨w1.heap.size, 3, none⟩ = false := by rw [hU17]; simp [go_sem]
        go_wp2_with fail
        rw [← hU17]
        have BU17 := bel_trans Bw1 Bx18
        clear hU17
        refine ⟨regrown_of_below BU17, seqT_one rfl ?_⟩
        go_wp2_with fail
        refine (impl_clone _ _ _ _ _ (tS_R.1 (tS.later k3 BU17)).ri (by omega)).mono ?_
        rintro e w19 ⟨V22, rfl, own20, bel21⟩
        obtain ⟨AA23, cc24, rfl, -⟩ := own20.shape
        have Bw19 := bel_trans BU17 bel21
        have sw19 := bel21.size
        go_wp2_with fail
        refine ⟨regrown_of_below Bw19, seqT_one rfl ?_⟩
        go_wp2_with fail
        refine ⟨regrown_of_below Bw19, ?_⟩
        have hg : w1.heap.size < w19.heap.size := by omega
        have bx0 : w19.cell? ⟨w1.heap.size, 0, none⟩ = some (.int .i64 0) := by rw [bel21.cell (by show w1.heap.size < _; omega)]; exact xU17_0
        have by0 : w19.frozen? ⟨w1.heap.size, 0, none⟩ = false := by rw [bel21.frozen (by show w1.heap.size < _; omega)]; exact yU17_0
        have bx1 : w19.cell? ⟨w1.heap.size, 1, none⟩ = some (.slice none 0 0) := by rw [bel21.cell (by show w1.heap.size < _; omega)]; exact xU17_1
        have by1 : w19.frozen? ⟨w1.heap.size, 1, none⟩ = false := by rw [bel21.frozen (by show w1.heap.size < _; omega)]; exact yU17_1
        have bx2 : w19.cell? ⟨w1.heap.size, 2, none⟩ = some (.slice none 0 0) := by rw [bel21.cell (by show w1.heap.size < _; omega)]; exact xU17_2
        have by2 : w19.frozen? ⟨w1.heap.size, 2, none⟩ = false := by rw [bel21.frozen (by show w1.heap.size < _; omega)]; exact yU17_2
        have bx3 : w19.cell? ⟨w1.heap.size, 3, none⟩ = some (.slice none 0 0) := by rw [bel21.cell (by show w1.heap.size < _; omega)]; exact xU17_3
        have by3 : w19.frozen? ⟨w1.heap.size, 3, none⟩ = false := by rw [bel21.frozen (by show w1.heap.size < _; omega)]; exact yU17_3
        have q1 := own2
        replace q1 := q1.below Bx18 (by omega)
        replace q1 := q1.below bel21 (by omega)
        have q3 := OI.os own20
        refine seqT_rest ?_
        go_wp2_with fail
        try refine ⟨rfl, ?_⟩
        go_meet
        obtain ⟨U_, hU_, d0, d1, d2, d3, df, dch, dsz⟩ := box4 bx0 bx1 bx2 bx3 by0 by1 by2 by3 (.int .i64 a0) (.slice AA5 x1.length cc6) (.slice none 0 0) (.slice AA23 x3.length cc24)
        rw [← hU_]
        exact ⟨w1.heap.size, AA5, cc6, AA23, cc24, _, _, _, _, rfl, by omega, by omega, d0, d1, d2, d3, df, sl_O.2 (q1.chg dch (fun b hb (e : b = _) => by have := hb.1; have := hb.2; omega)), tS_O.2 (q3.chg dch (fun b hb (e : b = _) => by have := hb.1; have := hb.2; omega)), Bw19.trans (dch.toBelow (fun k (hk : k = _) => by omega) (by omega)), by omega, by omega, by omega, by omega, by omega, by omega⟩
    · obtain ⟨U25, hU25⟩ : ∃ U, U = (W.alloc (.cells #[.int .i64 0, .slice none 0 0, .slice none 0 0, .slice none 0 0] 68)).drew := ⟨_, rfl⟩
      have Bx26 : Below W.heap.size W U25 := by rw [hU25]; exact below_drewN ((Below.refl _ _).alloc (Nat.le_refl _) _) 1
      have sU25 : U25.heap.size = W.heap.size + 1 := by rw [hU25]; simp
      have xU25_0 : U25.cell? ⟨W.heap.size, 0, none⟩ = some (.int .i64 0) := by rw [hU25]; simp [go_sem]
      have yU25_0 : U25.frozen? ⟨W.heap.size, 0, none⟩ = false := by rw [hU25]; simp [go_sem]
      have xU25_1 : U25.cell? ⟨W.heap.size, 1, none⟩ = some (.slice none 0 0) := by rw [hU25]; simp [go_sem]
      have yU25_1 : U25.frozen? ⟨W.heap.size, 1, none⟩ = false := by rw [hU25]; simp [go_sem]
      have xU25_2 : U25.cell? ⟨W.heap.size, 2, none⟩ = some (.slice none 0 0) := by rw [hU25]; simp [go_sem]
      have yU25_2 : U25.frozen? ⟨W.heap.size, 2, none⟩ = false := by rw [hU25]; simp [go_sem]
      have xU25_3 : U25.cell? ⟨W.heap.size, 3, none⟩ = some (.slice none 0 0) := by rw [hU25]; simp [go_sem]
      have yU25_3 : U25.frozen? ⟨W.heap.size, 3, none⟩ = false := by rw [hU25]; simp [go_sem]
      go_wp2_with fail
      rw [← hU25]
      have BU25 := Bx26
      clear hU25
      refine ⟨regrown_of_below BU25, seqT_one rfl ?_⟩
      go_wp2_with fail
      refine (impl_clones _ _ _ _ _ (tSS.later k1 BU25) z1).mono ?_
      rintro e w27 ⟨V30, rfl, own28, bel29⟩
      obtain ⟨AA31, cc32, rfl⟩ := own28.shape
      have Bw27 := bel_trans BU25 bel29
      have sw27 := bel29.size
      go_wp2_with fail
      refine ⟨regrown_of_below Bw27, seqT_one rfl ?_⟩
      go_wp2_with fail
      refine (impl_clone _ _ _ _ _ (tS_R.1 (tS.later k3 Bw27)).ri (by omega)).mono ?_
      rintro e w33 ⟨V36, rfl, own34, bel35⟩
      obtain ⟨AA37, cc38, rfl, -⟩ := own34.shape
      have Bw33 := bel_trans Bw27 bel35
      have sw33 := bel35.size
      go_wp2_with fail
      refine ⟨regrown_of_below Bw33, seqT_one rfl ?_⟩
      go_wp2_with fail
      refine ⟨regrown_of_below Bw33, ?_⟩
      have hg : W.heap.size < w33.heap.size := by omega
      have bx0 : w33.cell? ⟨W.heap.size, 0, none⟩ = some (.int .i64 0) := by rw [bel35.cell (by show W.heap.size < _; omega), bel29.cell (by show W.heap.size < _; omega)]; exact xU25_0
      have by0 : w33.frozen? ⟨W.heap.size, 0, none⟩ = false := by rw [bel35.frozen (by show W.heap.size < _; omega), bel29.frozen (by show W.heap.size < _; omega)]; exact yU25_0
      have bx1 : w33.cell? ⟨W.heap.size, 1, none⟩ = some (.slice none 0 0) := by rw [bel35.cell (by show W.heap.size < _; omega), bel29.cell (by show W.heap.size < _; omega)]; exact xU25_1
      have by1 : w33.frozen? ⟨W.heap.size, 1, none⟩ = false := by rw [bel35.frozen (by show W.heap.size < _; omega), bel29.frozen (by show W.heap.size < _; omega)]; exact yU25_1
      have bx2 : w33.cell? ⟨W.heap.size, 2, none⟩ = some (.slice none 0 0) := by rw [bel35.cell (by show W.heap.size < _; omega), bel29.cell (by show W.heap.size < _; omega)]; exact xU25_2
      have by2 : w33.frozen? ⟨W.heap.size, 2, none⟩ = false := by rw [bel35.frozen (by show W.heap.size < _; omega), bel29.frozen (by show W.heap.size < _; omega)]; exact yU25_2
      have bx3 : w33.cell? ⟨W.heap.size, 3, none⟩ = some (.slice none 0 0) := by rw [bel35.cell (by show W.heap.size < _; omega), bel29.cell (by show W.heap.size < _; omega)]; exact xU25_3
      have by3 : w33.frozen? ⟨W.heap.size, 3, none⟩ = false := by rw [bel35.frozen (by show W.heap.size < _; omega), bel29.frozen (by show W.heap.size < _; omega)]; exact yU25_3
      have q1 := own28
      replace q1 := q1.below bel35 (by omega)
      have q3 := OI.os own34
      refine seqT_rest ?_
      go_wp2_with fail
      try refine ⟨rfl, ?_⟩
      go_meet
      obtain ⟨U_, hU_, d0, d1, d2, d3, df, dch, dsz⟩ := box4 bx0 bx1 bx2 bx3 by0 by1 by2 by3 (.int .i64 a0) (.slice AA31 x1.length cc32) (.slice none 0 0) (.slice AA37 x3.length cc38)
      rw [← hU_]
      exact ⟨W.heap.size, AA31, cc32, AA37, cc38, _, _, _, _, rfl, by omega, by omega, d0, d1, d2, d3, df, sl_O.2 (q1.chg dch (fun b hb (e : b = _) => by have := hb.1; have := hb.2; omega)), tS_O.2 (q3.chg dch (fun b hb (e : b = _) => by have := hb.1; have := hb.2; omega)), Bw33.trans (dch.toBelow (fun k (hk : k = _) => by omega) (by omega)), by omega, by omega, by omega, by omega, by omega, by omega⟩
  case rest =>
    obtain ⟨w0, rfl⟩ : ∃ u_ : World, u_ = wc := ⟨_, rfl⟩
    obtain ⟨g, A1', c1', A3', c3', l1, u1, l3, u3, rfl, hg1, hg2, d0, d1, d2, d3, df, o1, o3, BW, s1, s2, s3, s4_, s5_, sg⟩ := hcut
    have sW := BW.size
    replace r0 : w0.cell? ⟨w.heap.size + 1, 0, none⟩ = some (.int .i64 0) := by rw [BW.cell (by show w.heap.size + 1 < _; omega)]; exact r0
    replace rf0 : w0.frozen? ⟨w.heap.size + 1, 0, none⟩ = false := by rw [BW.frozen (by show w.heap.size + 1 < _; omega)]; exact rf0
    replace r1 : w0.cell? ⟨w.heap.size + 1, 1, none⟩ = some (.slice none 0 0) := by rw [BW.cell (by show w.heap.size + 1 < _; omega)]; exact r1
    replace rf1 : w0.frozen? ⟨w.heap.size + 1, 1, none⟩ = false := by rw [BW.frozen (by show w.heap.size + 1 < _; omega)]; exact rf1
    replace r2 : w0.cell? ⟨w.heap.size + 1, 2, none⟩ = some (.slice none 0 0) := by rw [BW.cell (by show w.heap.size + 1 < _; omega)]; exact r2
    replace rf2 : w0.frozen? ⟨w.heap.size + 1, 2, none⟩ = false := by rw [BW.frozen (by show w.heap.size + 1 < _; omega)]; exact rf2
    replace r3 : w0.cell? ⟨w.heap.size + 1, 3, none⟩ = some (.slice none 0 0) := by rw [BW.cell (by show w.heap.size + 1 < _; omega)]; exact r3
    replace rf3 : w0.frozen? ⟨w.heap.size + 1, 3, none⟩ = false := by rw [BW.frozen (by show w.heap.size + 1 < _; omega)]; exact rf3
    replace p2 : w0.cell? ⟨w.heap.size, 2, none⟩ = some (.slice A2 n2 c2) := by rw [BW.cell (by show w.heap.size < _; omega)]; exact p2
    have k4 := sl_R.1 k2
    have B00 := bel_trans B0 BW
    have hl2 := Lib.hid (sl_R.1 k2).cap.1
    have df2 := df 2 (by omega)
    clear p0 p1 p3 pp0 pp1 pp3 D1 hd0 k1 k3 HW k2
    go_wp2_with fail
    go_loopw [18] (fun i wr => ∃ (k : Nat) (v : Value), i = .int .i64 k ∧ k ≤ n2 ∧ OS tN 70 wr (Iv w0.heap.size wr.heap.size) v (x2.take k) ∧ Gr g 2 w0 wr v) (fun i _ => n2 - (intOf i).toNat)
    case atStart => exact ⟨0, _, rfl, by omega, OS.nil _ _ _ _, Gr.start d2⟩
    case round =>
      obtain ⟨k, v, rfl, hk, own, G⟩ := hrel
      have sr := G.chg.size
      have Bwr : Below W.heap.size W wr := BW.trans (G.chg.toBelow (fun b (hb : b = g) => by omega) (by omega))
      by_cases hlt : k < n2
      · obtain ⟨bb, o, b0, b1, b2, A5, c5, y3, rfl, hbb, X, e0, e1, e2, e3, hr3, h3b⟩ := node_cell (k4.below Bwr) z2 hlt
        have hbw : bb < wr.heap.size := by omega
        obtain ⟨V, hV⟩ : ∃ V, V = wr.alloc (.cells #[.int .i64 b0, .int .i64 b1, .int .i64 b2, .slice A5 y3.length c5] 70) := ⟨_, rfl⟩
        have BV : Below wr.heap.size wr V := by rw [hV]; exact (Below.refl _ _).alloc (Nat.le_refl _) _
        have sV : V.heap.size = wr.heap.size + 1 := by rw [hV]; simp
        have n0 : V.cell? ⟨wr.heap.size, 0, none⟩ = some (.int .i64 b0) := by rw [hV]; simp [go_sem]
        have n1 : V.cell? ⟨wr.heap.size, 1, none⟩ = some (.int .i64 b1) := by rw [hV]; simp [go_sem]
        have n2_ : V.cell? ⟨wr.heap.size, 2, none⟩ = some (.int .i64 b2) := by rw [hV]; simp [go_sem]
        have n3_ : V.cell? ⟨wr.heap.size, 3, none⟩ = some (.slice A5 y3.length c5) := by rw [hV]; simp [go_sem]
        have hvg : V.cell? ⟨g, 2, none⟩ = some v := by rw [BV.cell (by show g < _; omega)]; exact G.cel
        have m0 := cell_regrown n0
        have m1 := cell_regrown n1
        have m2 := cell_regrown n2_
        have m3 := cell_regrown n3_
        have mg := cell_regrown hvg
        have HV := Lib.hid hV
        have DV : Below wr.heap.size wr V.drew := below_drewN BV 1
        have DD : Below V.heap.size V V.drew := below_drewN (Below.refl _ _) 1
        have hdv : V.drew.heap.size = V.heap.size := rfl
        have hri := (hr3.more (by omega)).later DV
        have hpt := Lib.hid (M.take_at X.out)
        have hxl : (x2.take k).length ≤ 100000000 := by rw [List.length_take]; omega
        clear hV
        go_wp2_with fail
        rw [← HV.out]
        (refine wp_region_fresh [0] [1, 2] 2 (.one 3 (.one 4 .rest)) [5, 6, 7] (by kernel_rfl) (by kernel_rfl) ?_; simp only [pickOps]; simp only [List.filterMap, List.getElem?_cons_succ, List.getElem?_cons_zero]; (repeat (go_big_quiet_step (fail))); refine wpQuiet_nil ?_; (repeat (go_big_quiet_step (fail))); refine wpQuiet_nil ?_)
        refine seqT_one rfl ?_
        go_wp2_with fail
        refine (impl_copyNode _ _ _ _ _ _ _ _ hri (by omega)).mono ?_
        rintro e w2 ⟨A6, n6, c6, rfl, on, bel2⟩
        have s2_ := bel2.size
        have Bw2 := bel_trans DV bel2
        have own2 := own.below Bw2 (Nat.le_refl _)
        have G2 := G.below Bw2 (by omega)
        have BVw := bel_trans DD bel2
        go_wp2_with fail
        refine ⟨regrown_of_below BVw, seqT_one rfl ?_⟩
        go_wp2_with fail
        refine ⟨regrown_of_below (bel_trans BVw ((Below.refl _ _).alloc (Nat.le_refl _) _)), seqT_rest ?_⟩
        go_wp2_with (at_builtin; refine wpList_pushS ei_NS #[.int .i64 b0, .int .i64 b1, .int .i64 b2, .slice A6 n6 c6] rfl _ _ rfl own2 on (Iv.apart (by omega)) rfl rfl (by unfold maxLen; omega) (by omega) ?_; intro v3 w4 own4 ch4; obtain ⟨A7, c7, e7⟩ := own4.shape; obtain ⟨n7, hn7⟩ : ∃ n7, n7 = (x2.take k ++ [(b0, b1, b2, y3)]).length := ⟨_, rfl⟩; rw [← hn7] at e7; subst e7; have HN7 := Lib.hid hn7; clear hn7; have G4 := G2.row ch4 (by omega) (fun b hb => ⟨hb.1, by have := hb.1; omega⟩); have hc4 := G4.cel; have hf4 : w4.frozen? ⟨g, 2, none⟩ = false := (by rw [G4.fro]; exact df2))
        go_roundw
        case rel =>
          have s4 := ch4.size
          refine ⟨k + 1, _, by go_num, by omega, ?_, G4.set df2 _⟩
          rw [hpt.out]
          refine (own4.chg (Chg.set (F := fun b => b = g) w4 g 2 _ rfl) (fun b hb (e : b = g) => ?_)).wide (fun b hb => ?_)
          · rcases hb with hb | hb | hb
            · have := hb.1; omega
            · have := hb.1; omega
            · omega
          · have e9 : (w4.setCell ⟨g, 2, none⟩ (.slice A7 n7 c7)).heap.size = w4.heap.size := by simp
            rcases hb with hb | hb | hb
            · exact ⟨hb.1, by have := hb.2; omega⟩
            · exact ⟨by have := hb.1; omega, by have := hb.2; omega⟩
            · exact ⟨by omega, by omega⟩
        case measure => simp [intOf]; omega
      · obtain rfl : k = n2 := by omega
        rw [List.take_of_length_le (by rw [hl2.out]; exact Nat.le_refl _)] at own
        have b0 : wr.cell? ⟨g, 0, none⟩ = some (.int .i64 a0) := by rw [G.oth 0 (by decide)]; exact d0
        have b1 : wr.cell? ⟨g, 1, none⟩ = some (.slice A1' x1.length c1') := by rw [G.oth 1 (by decide)]; exact d1
        have b2 := G.cel
        have b3 : wr.cell? ⟨g, 3, none⟩ = some (.slice A3' x3.length c3') := by rw [G.oth 3 (by decide)]; exact d3

        have R0 : wr.cell? ⟨w.heap.size + 1, 0, none⟩ = some (.int .i64 0) := by rw [G.chg.cell (by omega) (by omega)]; exact r0
        have S0 : wr.frozen? ⟨w.heap.size + 1, 0, none⟩ = false := by rw [G.chg.frozen (by omega) (by omega)]; exact rf0
        have R1 : wr.cell? ⟨w.heap.size + 1, 1, none⟩ = some (.slice none 0 0) := by rw [G.chg.cell (by omega) (by omega)]; exact r1
        have S1 : wr.frozen? ⟨w.heap.size + 1, 1, none⟩ = false := by rw [G.chg.frozen (by omega) (by omega)]; exact rf1
        have R2 : wr.cell? ⟨w.heap.size + 1, 2, none⟩ = some (.slice none 0 0) := by rw [G.chg.cell (by omega) (by omega)]; exact r2
        have S2 : wr.frozen? ⟨w.heap.size + 1, 2, none⟩ = false := by rw [G.chg.frozen (by omega) (by omega)]; exact rf2
        have R3 : wr.cell? ⟨w.heap.size + 1, 3, none⟩ = some (.slice none 0 0) := by rw [G.chg.cell (by omega) (by omega)]; exact r3
        have S3 : wr.frozen? ⟨w.heap.size + 1, 3, none⟩ = false := by rw [G.chg.frozen (by omega) (by omega)]; exact rf3
        obtain ⟨A2', c2', rfl⟩ := own.shape
        have oq1 : tSS.O wr (Iv l1 u1) [.slice A1' x1.length c1'] x1 := sl_O.2 ((sl_O.1 o1).chg G.chg (fun b hb (e : b = g) => by have := hb.1; have := hb.2; omega))
        have oq3 : tS.O wr (Iv l3 u3) [.slice A3' x3.length c3'] x3 := tS_O.2 ((tS_O.1 o3).chg G.chg (fun b hb (e : b = g) => by have := hb.1; have := hb.2; omega))
        obtain ⟨U_, hU_, y0, y1, y2, y3, yf, ych, ysz⟩ := box4 R0 R1 R2 R3 S0 S1 S2 S3 (.int .i64 a0) (.slice A1' x1.length c1') (.slice A2' x2.length c2') (.slice A3' x3.length c3')
        have HU := Lib.hid hU_
        clear hU_
        go_wp2
        rw [← HU.out]
        have y5 := yf 0 (by omega)
        have y6 := yf 1 (by omega)
        have y7 := yf 2 (by omega)
        have y8 := yf 3 (by omega)
        refine bodyPost_ret (v := .agg #[.int .i64 a0, .slice A1' x1.length c1', .slice A2' x2.length c2', .slice A3' x3.length c3']) (by simp [results, Tryz.results114, go_sem, y0, y1, y2, y3, y5, y6, y7, y8]) rfl ?_
        have hz : ∀ b, b ≠ w.heap.size + 1 → ¬ (fun b => b = w.heap.size + 1) b := fun b h => h
        refine ⟨A1', x1.length, c1', A2', x2.length, c2', A3', x3.length, c3', rfl, tP_O.2 ⟨_, _, _, _, _, _, _, _, _, Iv l1 u1, Iv w0.heap.size wr.heap.size, Iv l3 u3, rfl, tSS.ochg oq1 ych (fun b hb (e : b = _) => by have := hb.1; omega), tNS.ochg (sl_O.2 own) ych (fun b hb (e : b = _) => by have := hb.1; omega), tS.ochg oq3 ych (fun b hb (e : b = _) => by have := hb.1; omega), Iv.mono (by omega) (by omega), Iv.mono (by omega) (by omega), Iv.mono (by omega) (by omega), fun b hb hb2 => by have := hb.2; have := hb2.1; omega, fun b hb hb2 => by have := hb.2; have := hb2.1; omega, fun b hb hb2 => by have := hb2.2; have := hb.1; omega⟩, ?_⟩
        exact (bel_trans B0 Bwr).trans (ych.toBelow (fun b (hb : b = _) => by omega) (by omega))
end Go.Proofs.YtacgcagpaecncaaGreat
