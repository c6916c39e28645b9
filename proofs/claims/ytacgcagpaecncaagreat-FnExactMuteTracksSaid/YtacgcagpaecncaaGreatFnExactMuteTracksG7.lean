import Derived.Test.YtacgcagpaecncaaGreatFnExactMuteTracksG6
import Derived.Lib.QuietBelow
import Derived.Test.YtacgcagpaecncaaGreatFnExactMuteTracksG5
import Derived.Deep.DeepCutAuto
set_option linter.unusedVariables false
set_option linter.unusedSimpArgs false
namespace Go.Proofs.YtacgcagpaecncaaGreat
open Go.RowKit Go.Sort
set_option maxHeartbeats 4000000
set_option maxRecDepth 100000
set_option linter.unusedVariables false
set_option linter.unusedSimpArgs false
set_option synthInstance.maxSize 2000
set_option synthInstance.maxHeartbeats 400000
def M.nodeFS (tb n inp : Int) (x : Node) : Bool := M.nodeOk x tb && (!(decide (x.1 = 1) && decide (inp ≤ x.2.1)) && x.2.2.2.all (fun f => decide (f < n)))
theorem M.nodeFS_eq (tb n inp : Int) (x : Node) : M.nodeFS tb n inp x = M.nodeF tb n inp x := by
  rw [M.nodeFS, M.nodeF]
  cases h : M.nodeOk x tb
  · rfl
  · have hf : x.2.2.2.all M.from_ = true := by
      rw [M.nodeOk] at h
      simp only [Bool.and_eq_true] at h
      exact h.2.1.1.2
    have e : x.2.2.2.all (fun f => decide (f < n)) = x.2.2.2.all (M.idx n) := by
      rw [List.all_eq_true] at hf
      rw [Bool.eq_iff_iff, List.all_eq_true, List.all_eq_true]
      constructor
      · intro h2 f hfm
        have h3 := M.inn_iff.1 (hf f hfm)
        have h4 := h2 f hfm
        simp at h4
        exact M.inn_iff.2 (by omega)
      · intro h2 f hfm
        have h4 := M.inn_iff.1 (h2 f hfm)
        simp
        omega
    rw [e, Bool.true_and, Bool.true_and, Bool.and_comm]
theorem M.nodeF_fun (tb n inp : Int) : M.nodeFS tb n inp = M.nodeF tb n inp := funext (M.nodeFS_eq tb n inp)
theorem spec_l07Formed (b o : Nat) (a0 : Int) (A1 : Option Addr) (n1 c1 : Nat) (A2 : Option Addr) (n2 c2 : Nat) (A3 : Option Addr) (n3 c3 : Nat) (x1 : List (List Int)) (x2 : List Node) (x3 : List Int) (w : World) (p0 : w.cell? ⟨b, o, none⟩ = some (.int .i64 a0)) (p1 : w.cell? ⟨b, o + 1, none⟩ = some (.slice A1 n1 c1)) (p2 : w.cell? ⟨b, o + 2, none⟩ = some (.slice A2 n2 c2)) (p3 : w.cell? ⟨b, o + 3, none⟩ = some (.slice A3 n3 c3))
    (h1 : tSS.R w w.heap.size [.slice A1 n1 c1] x1) (h2 : tNS.R w w.heap.size [.slice A2 n2 c2] x2) (h3 : tS.R w w.heap.size [.slice A3 n3 c3] x3) (hn : hP.sz ((a0, x1, x2, x3) : Patch) ≤ 100000000) :
    Calls Tryz.prog 94 #[.pointer (some ⟨b, o, none⟩)] w fun e w' => e = .returned (.bool (M.formed (a0, x1, x2, x3))) ∧ Below w.heap.size w w' := by
  have lx : b < w.heap.size := World.block_lt_of_cell? w _ p0
  rw [hP_sz, hS_sz] at hn
  have r1 := sl_R.1 h1
  have r2 := sl_R.1 h2
  have hx3 := (tS_R.1 h3).ri
  have L1 := Lib.hid r1.cap.1
  have L2 := Lib.hid r2.cap.1
  have L3 := Lib.hid (tS_len h3)
  have hb2 : hNS.sz x2 ≤ 100000000 := by omega
  have hq1 : x1.length + hS.szL x1 = hSS.sz x1 := rfl
  have hb1 : Hid (∀ x ∈ x1, x.length ≤ 1000000000) := Lib.hid (fun x hx => by
    obtain ⟨i, hi⟩ := List.getElem?_of_mem hx
    have := hS.szL_at hi
    rw [hS_sz] at this
    omega)
  have bn1 : n1 ≤ 100000000 := by have := L1.out; omega
  have bn2 : n2 ≤ 100000000 := by have e : x2.length + hN.szL x2 = hNS.sz x2 := rfl; have := L2.out; omega
  have bn3 : n3 ≤ 100000000 := by have := L3.out; omega
  clear hn hq1 h1 h2 h3
  cases g0 : M.inn a0 0 4
  · have R := Lib.hid (show M.formed (a0, x1, x2, x3) = false by rw [M.formed]; simp only [g0]; rfl)
    go_enter Tryz.func94, Tryz.ntmps94
    go_wp2_with (go_at_call 37; refine (spec_l00In _ _ _ _).mono ?_; rintro e w' ⟨rfl, rfl⟩)
    go_ret
    exact ⟨ret_bool (by rw [R.out]), Below.refl _ _⟩
  have G0 := Lib.hid g0
  clear g0
  cases g1 : M.tabsOk x1
  · have R := Lib.hid (show M.formed (a0, x1, x2, x3) = false by rw [M.formed]; simp only [G0.out, g1]; rfl)
    have G1 := Lib.hid g1
    clear g1
    go_enter Tryz.func94, Tryz.ntmps94
    go_wp2_with (first | (go_at_call 37; refine (spec_l00In _ _ _ _).mono ?_; rw [G0.out]; rintro e w' ⟨rfl, rfl⟩) | (go_at_call 122; refine (spec_l06Tables _ _ _ _ _ r1 hb1 (by omega)).mono ?_; rw [G1.out]; rintro e w2 ⟨rfl, bel2⟩))
    go_ret
    exact ⟨ret_bool (by rw [R.out]), bel2⟩
  have G1 := Lib.hid g1
  clear g1
  by_cases g2 : ¬ n2 ≤ 24
  · have R := Lib.hid (show M.formed (a0, x1, x2, x3) = false by rw [M.formed]; simp only [L2.out, decide_eq_false g2, Bool.and_false, Bool.false_and])
    go_enter Tryz.func94, Tryz.ntmps94
    go_wp2_with (first | (go_at_call 37; refine (spec_l00In _ _ _ _).mono ?_; rw [G0.out]; rintro e w' ⟨rfl, rfl⟩) | (go_at_call 122; refine (spec_l06Tables _ _ _ _ _ r1 hb1 (by omega)).mono ?_; rw [G1.out]; rintro e w2 ⟨rfl, bel2⟩))
    go_ret
    exact ⟨ret_bool (by rw [R.out]), bel2⟩
  replace g2 : n2 ≤ 24 := Decidable.not_not.1 g2
  by_cases g3 : ¬ n3 ≤ 4
  · have R := Lib.hid (show M.formed (a0, x1, x2, x3) = false by rw [M.formed]; simp only [L3.out, decide_eq_false g3, Bool.and_false, Bool.false_and])
    go_enter Tryz.func94, Tryz.ntmps94
    go_wp2_with (first | (go_at_call 37; refine (spec_l00In _ _ _ _).mono ?_; rw [G0.out]; rintro e w' ⟨rfl, rfl⟩) | (go_at_call 122; refine (spec_l06Tables _ _ _ _ _ r1 hb1 (by omega)).mono ?_; rw [G1.out]; rintro e w2 ⟨rfl, bel2⟩; have k3 : w2.cell? ⟨b, o + 3, none⟩ = some (.slice A3 n3 c3) := (by rw [bel2.cell lx]; exact p3)))
    go_ret
    exact ⟨ret_bool (by rw [R.out]), bel2⟩
  replace g3 : n3 ≤ 4 := Decidable.not_not.1 g3
  have HF := Lib.hid (show M.formed (a0, x1, x2, x3) = (x3.all (M.idx n2) && x2.all (M.nodeF n1 n2 a0)) by
    rw [M.formed]
    simp only [G0.out, G1.out, L1.out, L2.out, L3.out, decide_eq_true g2, decide_eq_true g3, Bool.true_and])
  go_enter Tryz.func94, Tryz.ntmps94
  go_wp2_with (first | (go_at_call 37; refine (spec_l00In _ _ _ _).mono ?_; rw [G0.out]; rintro e w' ⟨rfl, rfl⟩) | (go_at_call 122; refine (spec_l06Tables _ _ _ _ _ r1 hb1 (by omega)).mono ?_; rw [G1.out]; rintro e w2 ⟨rfl, bel2⟩; have k3 : w2.cell? ⟨b, o + 3, none⟩ = some (.slice A3 n3 c3) := (by rw [bel2.cell lx]; exact p3)))
  go_loopw [4, 5, 6] (fun i _ _ wr => ∃ k : Nat, i = .int .i64 k ∧ k ≤ n2 ∧ Hid (x2.all (M.nodeF n1 n2 a0) = (x2.drop k).all (M.nodeF n1 n2 a0)) ∧ Below w.heap.size w wr) (fun i _ _ _ => n2 - (intOf i).toNat)
  case atStart => exact ⟨0, rfl, by omega, Lib.hid (by simp), bel2⟩
  case round =>
    obtain ⟨k, rfl, hk, H, Bw⟩ := hrel
    clear k3 bel2
    have q0 : wr.cell? ⟨b, o, none⟩ = some (.int .i64 a0) := by rw [Bw.cell lx]; exact p0
    have q1 : wr.cell? ⟨b, o + 1, none⟩ = some (.slice A1 n1 c1) := by rw [Bw.cell lx]; exact p1
    have q2 : wr.cell? ⟨b, o + 2, none⟩ = some (.slice A2 n2 c2) := by rw [Bw.cell lx]; exact p2
    have q3 : wr.cell? ⟨b, o + 3, none⟩ = some (.slice A3 n3 c3) := by rw [Bw.cell lx]; exact p3
    by_cases hlt : k < n2
    · obtain ⟨bb, o1, b0, b1, b2, A5, c5, y3, rfl, hbb, X, e0, e1, e2, e3, hr3, h3b⟩ := node_cell (r2.below Bw) hb2 hlt
      have hd := Lib.hid (M.drop_at X.out)
      have hry := hr3.more Bw.size
      have hk0 : (0 : Int) ≤ (k : Int) := by omega
      have hkn : (k : Int) < (n2 : Int) := by omega
      have hkw : IntKind.i64.wrap ((k : Int) + 1) = (k : Int) + 1 := IntWalk.i64_in _ (by omega)
      have cN : ∀ d os, Calls Tryz.prog 123 #[.pointer (some ⟨bb, o1 + k * 4, none⟩), .int .i64 n1] (grow (redrawn wr d) os) fun e w'' => e = .returned (.bool (M.nodeOk (b0, b1, b2, y3) n1)) ∧ ∃ p : Regrown, w'' = grow (redrawn wr p.d) p.os := fun d os => Calls.regrown_of (spec_l06Ok bb (o1 + k * 4) b0 b1 b2 A5 c5 y3 n1 _ (cell_regrown e0 d os) (cell_regrown e1 d os) (cell_regrown e2 d os) (cell_regrown e3 d os) (hry.later (below_regrown wr d os)) (by omega) (by omega))
      have qq0 := cell_regrown q0
      have qq1 := cell_regrown q1
      have qq2 := cell_regrown q2
      have qq3 := cell_regrown q3
      have ee0 := cell_regrown e0
      have ee1 := cell_regrown e1
      have ee3 := cell_regrown e3
      have hryr := fun d os => hry.later (below_regrown wr d os)
      cases hok : M.nodeOk (b0, b1, b2, y3) n1
      · have R := Lib.hid (show M.formed (a0, x1, x2, x3) = false by rw [HF.out, H.out, hd.out, List.all_cons, ← M.nodeFS_eq, M.nodeFS, hok, Bool.false_and, Bool.false_and, Bool.and_false])
        rw [hok] at cN
        clear hok
        go_wp2_with fail
        clear q0 q1 q2 q3 e0 e1 e2 e3
        (refine wp_region_quiet_below (by kernel_rfl) (by kernel_rfl) ?_; (repeat (go_big_quiet_step (exact cN _ _))); refine wpQuiet_nil ?_; intro _ hw'; obtain ⟨⟨dq, osq⟩, hw''⟩ := hw'; subst hw'')
        go_wp2
        go_ret
        exact ⟨ret_bool (by rw [R.out]), bel_trans Bw (below_regrown wr dq osq)⟩
      · rw [hok] at cN
        have HK := Lib.hid hok
        clear hok
        by_cases hin : b0 = 1 ∧ a0 ≤ b1
        · have R := Lib.hid (show M.formed (a0, x1, x2, x3) = false by rw [HF.out, H.out, hd.out, List.all_cons, ← M.nodeFS_eq, M.nodeFS]; simp only [hin.1, decide_eq_true hin.2]; simp)
          obtain ⟨rfl, hin2⟩ := hin
          go_wp2_with fail
          clear q0 q1 q2 q3 e0 e1 e2 e3
          (refine wp_region_quiet_below (by kernel_rfl) (by kernel_rfl) ?_; (repeat (go_big_quiet_step (exact cN _ _))); refine wpQuiet_nil ?_; intro _ hw'; obtain ⟨⟨dq, osq⟩, hw''⟩ := hw'; subst hw'')
          go_wp2
          go_ret
          exact ⟨ret_bool (by rw [R.out]), bel_trans Bw (below_regrown wr dq osq)⟩
        · have HI := Lib.hid (show (!(decide (b0 = 1) && decide (a0 ≤ b1))) = true by
            rw [Bool.not_eq_true', Bool.and_eq_false_iff]
            rcases Classical.em (b0 = 1) with h | h
            · exact .inr (decide_eq_false fun h2 => hin ⟨h, h2⟩)
            · exact .inl (decide_eq_false h))
          have HF2 := Lib.hid (show x2.all (M.nodeF n1 n2 a0) = (y3.all (fun f => decide (f < n2)) && (x2.drop (k + 1)).all (M.nodeF n1 n2 a0)) by rw [H.out, hd.out, List.all_cons, ← M.nodeFS_eq, M.nodeFS, HK.out]; simp only [HI.out, Bool.true_and])
          by_cases hb0 : b0 = 1
          · have hna : ¬ a0 ≤ b1 := fun h => hin ⟨hb0, h⟩
            clear hin HI
            have HK2 := HK
            clear HK
            subst hb0
            go_wp2_with fail
            clear q0 q1 q2 q3 e0 e1 e2 e3
            (refine wp_region_quiet_below (by kernel_rfl) (by kernel_rfl) ?_; (repeat (go_big_quiet_step (exact cN _ _))); refine wpQuiet_nil ?_; intro _ hw'; obtain ⟨⟨dq, osq⟩, hw''⟩ := hw'; subst hw'')
            replace qq0 := qq0 dq osq
            replace qq1 := qq1 dq osq
            replace qq2 := qq2 dq osq
            replace qq3 := qq3 dq osq
            replace ee0 := ee0 dq osq
            replace ee1 := ee1 dq osq
            replace ee3 := ee3 dq osq
            replace hryr := hryr dq osq
            have BV := below_regrown wr dq osq
            clear cN
            generalize grow (redrawn wr dq) osq = V at qq0 qq1 qq2 qq3 ee0 ee1 ee3 hryr BV ⊢
            have BW := bel_trans Bw BV
            go_wp2_with fail
            go_loop [6] (fun i => ∃ q : Nat, i = .int .i64 q ∧ q ≤ y3.length ∧ Hid (y3.all (fun f => decide (f < n2)) = (y3.drop q).all (fun f => decide (f < n2)))) (fun i => y3.length - (intOf i).toNat)
            case atStart => exact ⟨0, rfl, by omega, Lib.hid (by simp)⟩
            case round =>
              obtain ⟨q, rfl, hq, HQ⟩ := hrel
              by_cases hlt2 : q < y3.length
              · obtain ⟨ad, x, rfl, hab, Y, hc⟩ := hryr.at hlt2
                have hdq := Lib.hid (M.drop_at Y.out)
                by_cases hs : x < n2
                · have R := Lib.hid (show y3.all (fun f => decide (f < n2)) = (y3.drop (q + 1)).all (fun f => decide (f < n2)) by rw [HQ.out, hdq.out, List.all_cons, decide_eq_true hs, Bool.true_and])
                  have hs2 : ¬ (n2 : Int) ≤ x := by omega
                  go_wp2
                  go_round
                  case rel => exact ⟨q + 1, by go_num, by omega, R⟩
                  case measure => simp [intOf]; omega
                · have R := Lib.hid (show M.formed (a0, x1, x2, x3) = false by rw [HF.out, HF2.out, HQ.out, hdq.out, List.all_cons, decide_eq_false hs, Bool.false_and, Bool.false_and, Bool.and_false])
                  have hs2 : (n2 : Int) ≤ x := by omega
                  go_wp2
                  go_ret
                  exact ⟨ret_bool (by rw [R.out]), BW⟩
              · have HY := Lib.hid (show x2.all (M.nodeF n1 n2 a0) = (x2.drop (k + 1)).all (M.nodeF n1 n2 a0) by rw [HF2.out, HQ.out, List.drop_eq_nil_of_le (by omega)]; rfl)
                clear HQ
                go_wp2_with fail
                go_roundw
                case rel => exact ⟨k + 1, by go_num, by omega, HY, BW⟩
                case measure => simp [intOf]; omega
          · have gb0 : (b0 == 1) = false := by simpa using hb0
            clear hin HI HK
            go_wp2_with fail
            clear q0 q1 q2 q3 e0 e1 e2 e3
            (refine wp_region_quiet_below (by kernel_rfl) (by kernel_rfl) ?_; (repeat (go_big_quiet_step (exact cN _ _))); refine wpQuiet_nil ?_; intro _ hw'; obtain ⟨⟨dq, osq⟩, hw''⟩ := hw'; subst hw'')
            replace qq0 := qq0 dq osq
            replace qq1 := qq1 dq osq
            replace qq2 := qq2 dq osq
            replace qq3 := qq3 dq osq
            replace ee0 := ee0 dq osq
            replace ee1 := ee1 dq osq
            replace ee3 := ee3 dq osq
            replace hryr := hryr dq osq
            have BV := below_regrown wr dq osq
            clear cN
            generalize grow (redrawn wr dq) osq = V at qq0 qq1 qq2 qq3 ee0 ee1 ee3 hryr BV ⊢
            have BW := bel_trans Bw BV
            go_wp2_with fail
            go_loop [6] (fun i => ∃ q : Nat, i = .int .i64 q ∧ q ≤ y3.length ∧ Hid (y3.all (fun f => decide (f < n2)) = (y3.drop q).all (fun f => decide (f < n2)))) (fun i => y3.length - (intOf i).toNat)
            case atStart => exact ⟨0, rfl, by omega, Lib.hid (by simp)⟩
            case round =>
              obtain ⟨q, rfl, hq, HQ⟩ := hrel
              by_cases hlt2 : q < y3.length
              · obtain ⟨ad, x, rfl, hab, Y, hc⟩ := hryr.at hlt2
                have hdq := Lib.hid (M.drop_at Y.out)
                by_cases hs : x < n2
                · have R := Lib.hid (show y3.all (fun f => decide (f < n2)) = (y3.drop (q + 1)).all (fun f => decide (f < n2)) by rw [HQ.out, hdq.out, List.all_cons, decide_eq_true hs, Bool.true_and])
                  have hs2 : ¬ (n2 : Int) ≤ x := by omega
                  go_wp2
                  go_round
                  case rel => exact ⟨q + 1, by go_num, by omega, R⟩
                  case measure => simp [intOf]; omega
                · have R := Lib.hid (show M.formed (a0, x1, x2, x3) = false by rw [HF.out, HF2.out, HQ.out, hdq.out, List.all_cons, decide_eq_false hs, Bool.false_and, Bool.false_and, Bool.and_false])
                  have hs2 : (n2 : Int) ≤ x := by omega
                  go_wp2
                  go_ret
                  exact ⟨ret_bool (by rw [R.out]), BW⟩
              · have HY := Lib.hid (show x2.all (M.nodeF n1 n2 a0) = (x2.drop (k + 1)).all (M.nodeF n1 n2 a0) by rw [HF2.out, HQ.out, List.drop_eq_nil_of_le (by omega)]; rfl)
                clear HQ
                go_wp2_with fail
                go_roundw
                case rel => exact ⟨k + 1, by go_num, by omega, HY, BW⟩
                case measure => simp [intOf]; omega
    · have HA := Lib.hid (show x2.all (M.nodeF n1 n2 a0) = true by rw [H.out, List.drop_eq_nil_of_le (by rw [L2.out]; omega)]; rfl)
      have HF3 := Lib.hid (show M.formed (a0, x1, x2, x3) = x3.all (M.idx n2) by rw [HF.out, HA.out, Bool.and_true])
      have hx3r := (hx3.below Bw)
      go_wp2_with fail
      clear H hk hlt
      go_loop [7] (fun i => ∃ k : Nat, i = .int .i64 k ∧ k ≤ n3 ∧ Hid (x3.all (M.idx n2) = (x3.drop k).all (M.idx n2))) (fun i => n3 - (intOf i).toNat)
      case atStart => exact ⟨0, rfl, by omega, Lib.hid (by simp)⟩
      case round =>
        obtain ⟨k, rfl, hk, H⟩ := hrel
        by_cases hlt : k < n3
        · obtain ⟨ad, x, rfl, hab, X, hc⟩ := hx3r.at hlt
          have hd := Lib.hid (M.drop_at X.out)
          cases hs : M.inn x 0 ((n2 : Int) - 1)
          · have R := Lib.hid (show M.formed (a0, x1, x2, x3) = false by rw [HF3.out, H.out, hd.out, List.all_cons, M.idx, hs]; rfl)
            go_wp2_with (go_at_call 37; refine (spec_l00In _ _ _ _).mono ?_; rintro e w' ⟨rfl, rfl⟩)
            go_ret
            exact ⟨ret_bool (by rw [R.out]), Bw⟩
          · have R := Lib.hid (show x3.all (M.idx n2) = (x3.drop (k + 1)).all (M.idx n2) by rw [H.out, hd.out, List.all_cons, M.idx, hs]; rfl)
            go_wp2_with (go_at_call 37; refine (spec_l00In _ _ _ _).mono ?_; rintro e w' ⟨rfl, rfl⟩)
            go_round
            case rel => exact ⟨k + 1, by go_num, by omega, R⟩
            case measure => simp [intOf]; omega
        · have R := Lib.hid (show M.formed (a0, x1, x2, x3) = true by rw [HF3.out, H.out, List.drop_eq_nil_of_le (by rw [L3.out]; omega)]; rfl)
          go_wp2
          go_ret
          exact ⟨ret_bool (by rw [R.out]), Bw⟩
theorem spec_l07Ok (b o : Nat) (a0 : Int) (A1 : Option Addr) (n1 c1 : Nat) (A2 : Option Addr) (n2 c2 : Nat) (A3 : Option Addr) (n3 c3 : Nat) (x1 : List (List Int)) (x2 : List Node) (x3 : List Int) (w : World) (p0 : w.cell? ⟨b, o, none⟩ = some (.int .i64 a0)) (p1 : w.cell? ⟨b, o + 1, none⟩ = some (.slice A1 n1 c1)) (p2 : w.cell? ⟨b, o + 2, none⟩ = some (.slice A2 n2 c2)) (p3 : w.cell? ⟨b, o + 3, none⟩ = some (.slice A3 n3 c3))
    (h1 : tSS.R w w.heap.size [.slice A1 n1 c1] x1) (h2 : tNS.R w w.heap.size [.slice A2 n2 c2] x2) (h3 : tS.R w w.heap.size [.slice A3 n3 c3] x3) (hn : hP.sz ((a0, x1, x2, x3) : Patch) ≤ 100000000) :
    Calls Tryz.prog 57 #[.pointer (some ⟨b, o, none⟩)] w fun e w' => e = .returned (.bool (M.patchOk (a0, x1, x2, x3))) ∧ Below w.heap.size w w' := by
  have lx : b < w.heap.size := World.block_lt_of_cell? w _ p0
  have hb2 : hNS.sz x2 ≤ 100000000 := by rw [hP_sz] at hn; omega
  have r2 := sl_R.1 h2
  cases g0 : M.formed (a0, x1, x2, x3)
  · have R := Lib.hid (show M.patchOk (a0, x1, x2, x3) = false by rw [M.patchOk, g0]; rfl)
    have G0 := Lib.hid g0
    clear g0
    go_enter Tryz.func57, Tryz.ntmps57
    go_wp2_with (go_at_call 94; refine (spec_l07Formed b o a0 A1 n1 c1 A2 n2 c2 A3 n3 c3 x1 x2 x3 _ p0 p1 p2 p3 h1 h2 h3 hn).mono ?_; rw [G0.out]; rintro e w2 ⟨rfl, bel2⟩)
    go_ret
    exact ⟨ret_bool (by rw [R.out]), bel2⟩
  · have G0 := Lib.hid g0
    have R := Lib.hid (show M.patchOk (a0, x1, x2, x3) = decide ((M.ord x2).length = x2.length) by rw [M.patchOk, g0]; rfl)
    clear g0
    go_enter Tryz.func57, Tryz.ntmps57
    go_wp2_with (go_at_call 94; refine (spec_l07Formed b o a0 A1 n1 c1 A2 n2 c2 A3 n3 c3 x1 x2 x3 _ p0 p1 p2 p3 h1 h2 h3 hn).mono ?_; rw [G0.out]; rintro e w2 ⟨rfl, bel2⟩)
    refine (spec_l07Order b o A2 n2 c2 x2 w2 (by rw [bel2.cell lx]; exact p2) (r2.later bel2) hb2).mono ?_
    rintro e w3 ⟨v, rfl, -, bel3⟩
    go_wp2
    go_ret
    exact ⟨ret_bool (by rw [R.out]), bel_trans bel2 bel3⟩
theorem spec_l27None (b o : Nat) (a0 : Int) (A1 : Option Addr) (n1 c1 : Nat) (A2 : Option Addr) (n2 c2 : Nat) (A3 : Option Addr) (n3 c3 : Nat) (x1 : List (List Int)) (x2 : List Node) (x3 : List Int) (w : World) (p0 : w.cell? ⟨b, o, none⟩ = some (.int .i64 a0)) (p1 : w.cell? ⟨b, o + 1, none⟩ = some (.slice A1 n1 c1)) (p2 : w.cell? ⟨b, o + 2, none⟩ = some (.slice A2 n2 c2)) (p3 : w.cell? ⟨b, o + 3, none⟩ = some (.slice A3 n3 c3))
    (L1 : Hid (x1.length = n1)) (L2 : Hid (x2.length = n2)) (L3 : Hid (x3.length = n3)) :
    Calls Tryz.prog 56 #[.pointer (some ⟨b, o, none⟩)] w fun e w' => e = .returned (.bool (decide (((a0, x1, x2, x3) : Patch) = M.p0))) ∧ w = w' := by
  have R0 := Lib.hid (show decide (((a0, x1, x2, x3) : Patch) = M.p0) = (decide (a0 = 0) && decide (n1 = 0) && decide (n2 = 0) && decide (n3 = 0)) by
    rw [Bool.eq_iff_iff, M.p0, ← L1.out, ← L2.out, ← L3.out]
    simp only [decide_eq_true_eq, Prod.mk.injEq, Bool.and_eq_true, List.length_eq_zero_iff, and_assoc])
  rw [R0.out]
  by_cases k0 : a0 = 0
  · subst k0
    by_cases k1 : n1 = 0
    · subst k1
      by_cases k2 : n2 = 0
      · subst k2
        by_cases k3 : n3 = 0
        · subst k3
          go_enter Tryz.func56, Tryz.ntmps56
          go_wp2
          go_ret
          exact ⟨rfl, rfl⟩
        · have g3 : ((n3 : Int) == 0) = false := by simpa using k3
          go_enter Tryz.func56, Tryz.ntmps56
          go_wp2
          go_ret
          exact ⟨ret_bool (by simp [k3]), rfl⟩
      · have g2 : ((n2 : Int) == 0) = false := by simpa using k2
        go_enter Tryz.func56, Tryz.ntmps56
        go_wp2
        go_ret
        exact ⟨ret_bool (by simp [k2]), rfl⟩
    · have g1 : ((n1 : Int) == 0) = false := by simpa using k1
      go_enter Tryz.func56, Tryz.ntmps56
      go_wp2
      go_ret
      exact ⟨ret_bool (by simp [k1]), rfl⟩
  · have g0 : (a0 == 0) = false := by simpa using k0
    go_enter Tryz.func56, Tryz.ntmps56
    go_wp2
    go_ret
    exact ⟨ret_bool (by simp [k0]), rfl⟩
theorem M.track_src (xs : List Clip) (m : Int) (h : xs.all (fun c => M.inn c.1 0 (m - 1)) = true) : M.hasS xs m = true := by
  rw [List.all_eq_true] at h
  rw [M.hasS, List.all_eq_true]
  intro x hx
  have := M.inn_iff.1 (h x hx)
  simp
  omega
theorem M.track_no (xs : List Clip) (m : Int) {k : Nat} {x : Clip} (hx : xs[k]? = some x) (h : M.inn x.1 0 (m - 1) = false) : (M.trackOk xs && M.hasS xs m) = false := by
  rw [Bool.and_eq_false_iff]
  rcases Classical.em (x.1 < m) with h1 | h1
  · left
    cases ht : M.trackOk xs
    · rfl
    · have := (M.clip_bd (M.track_clip ht hx)).1
      rw [M.inn_iff.2 (by omega)] at h
      cases h
  · right
    rw [M.hasS, List.all_eq_false]
    exact ⟨x, List.mem_of_getElem? hx, by simpa using h1⟩
theorem spec_l27Track (b o : Nat) (A : Option Addr) (n c : Nat) (xs : List Clip) (m : Int) (w : World) (p0 : w.cell? ⟨b, o, none⟩ = some (.slice A n c)) (hx : RA cl 5 w w.heap.size A n xs) (hn : n ≤ 1000000000) (hm : 0 ≤ m ∧ m ≤ 1000000000) :
    Calls Tryz.prog 55 #[.pointer (some ⟨b, o, none⟩), .int .i64 m] w fun e w' => e = .returned (.bool (M.trackOk xs && M.hasS xs m)) ∧ Below w.heap.size w w' := by
  have hl := Lib.hid hx.len
  go_enter Tryz.func55, Tryz.ntmps55
  go_wp2
  go_loop [5] (fun i => ∃ k : Nat, i = .int .i64 k ∧ k ≤ n ∧ Hid (xs.all (fun c => M.inn c.1 0 (m - 1)) = (xs.drop k).all (fun c => M.inn c.1 0 (m - 1)))) (fun i => n - (intOf i).toNat)
  case atStart => exact ⟨0, rfl, by omega, Lib.hid (by simp)⟩
  case round =>
    obtain ⟨k, rfl, hk, H⟩ := hrel
    by_cases hlt : k < n
    · obtain ⟨bb, o1, ⟨d0, d1, d2, d3, d4⟩, rfl, hab, X, hc⟩ := hx.at cl_len (by decide) hlt
      have e0 : w.cell? ⟨bb, o1 + k * 5, none⟩ = some (.int .i64 d0) := hc 0 _ rfl
      clear hc
      have hd := Lib.hid (M.drop_at X.out)
      cases hs : M.inn d0 0 (m - 1)
      · have R := Lib.hid (M.track_no xs m X.out hs)
        go_wp2_with (go_at_call 37; refine (spec_l00In _ _ _ _).mono ?_; rintro e w' ⟨rfl, rfl⟩)
        go_ret
        exact ⟨ret_bool (by rw [R.out]), Below.refl _ _⟩
      · have R := Lib.hid (show xs.all (fun c => M.inn c.1 0 (m - 1)) = (xs.drop (k + 1)).all (fun c => M.inn c.1 0 (m - 1)) by rw [H.out, hd.out, List.all_cons]; simp only [hs, Bool.true_and])
        go_wp2_with (go_at_call 37; refine (spec_l00In _ _ _ _).mono ?_; rintro e w' ⟨rfl, rfl⟩)
        go_round
        case rel => exact ⟨k + 1, by go_num, by omega, R⟩
        case measure => simp [intOf]; omega
    · have HS := Lib.hid (M.track_src xs m (by rw [H.out, List.drop_eq_nil_of_le (by rw [hl.out]; omega)]; rfl))
      clear H
      go_wp2_with (go_at_call 93; refine (spec_ValidTrack _ _ _ _ _ hx hn).mono ?_; rintro e w2 ⟨rfl, bel2⟩)
      go_ret
      exact ⟨ret_bool (by rw [HS.out, Bool.and_true]), bel2⟩
end Go.Proofs.YtacgcagpaecncaaGreat
namespace Go.Proofs.YtacgcagpaecncaaGreat
open Go.RowKit Go.Sort
set_option maxHeartbeats 4000000
set_option maxRecDepth 100000
set_option linter.unusedVariables false
set_option linter.unusedSimpArgs false
set_option synthInstance.maxSize 2000
set_option synthInstance.maxHeartbeats 400000
theorem impl_areIndices (A : Option Addr) (n c : Nat) (xs : List Int) (m : Int) (w : World) (hx : RI w w.heap.size A n xs) (hn : n ≤ 1000000000000) (hm : 0 ≤ m ∧ m ≤ 1000000000) :
    Calls Tryz.prog 65 #[.slice A n c, .int .i64 m] w fun e w' => e = .returned (.bool (xs.all (M.idx m))) ∧ w = w' := by
  go_enter Tryz.func65, Tryz.ntmps65
  go_wp2
  go_loop [6, 9] (fun _ i => ∃ k : Nat, i = .int .i64 k ∧ k ≤ n ∧ Hid (xs.all (M.idx m) = (xs.drop k).all (M.idx m))) (fun _ i => n - (intOf i).toNat)
  case atStart => exact ⟨0, rfl, by omega, Lib.hid (by simp)⟩
  case round =>
    obtain ⟨k, rfl, hk, H⟩ := hrel
    have hl := Lib.hid hx.len
    by_cases hlt : k < n
    · obtain ⟨ad, x, rfl, hab, X, hc⟩ := hx.at hlt
      have hd := Lib.hid (M.drop_at X.out)
      cases hs : M.inn x 0 (m - 1)
      · have R := Lib.hid (show xs.all (M.idx m) = false by rw [H.out, hd.out, List.all_cons, M.idx, hs]; rfl)
        go_wp2_with (go_at_call 62; refine (impl_within _ _ _ _).mono ?_; rintro e w' ⟨rfl, rfl⟩)
        go_ret
        exact ⟨ret_bool (by rw [R.out]), rfl⟩
      · have R := Lib.hid (show xs.all (M.idx m) = (xs.drop (k + 1)).all (M.idx m) by rw [H.out, hd.out, List.all_cons, M.idx, hs]; rfl)
        go_wp2_with (go_at_call 62; refine (impl_within _ _ _ _).mono ?_; rintro e w' ⟨rfl, rfl⟩)
        go_round
        case rel => exact ⟨k + 1, by go_num, by omega, R⟩
        case measure => simp [intOf]; omega
    · have R := Lib.hid (show xs.all (M.idx m) = true by rw [H.out, List.drop_eq_nil_of_le (by rw [hl.out]; omega)]; rfl)
      go_wp2
      go_ret
      exact ⟨ret_bool (by rw [R.out]), rfl⟩
theorem impl_areTables (A : Option Addr) (n c : Nat) (ts : List (List Int)) (w : World) (hx : RS tS w w.heap.size (.slice A n c) ts) (hb : Hid (∀ x ∈ ts, x.length ≤ 1000000000)) (hn : n ≤ 1000000000) :
    Calls Tryz.prog 152 #[.slice A n c] w fun e w' => e = .returned (.bool (M.tabsOk ts)) ∧ w = w' := by
  have hl := Lib.hid hx.cap.1
  go_enter Tryz.func152, Tryz.ntmps152
  go_wp2
  go_loop [4, 5, 8] (fun _ _ i => ∃ k : Nat, i = .int .i64 k ∧ k ≤ n ∧ Hid (ts.all M.tabOk = (ts.drop k).all M.tabOk)) (fun _ _ i => n - (intOf i).toNat)
  case atStart => exact ⟨0, rfl, by omega, Lib.hid (by simp)⟩
  case round =>
    obtain ⟨k, rfl, hk, H⟩ := hrel
    by_cases hlt : k < n
    · obtain ⟨bb, o, A1, c1, x, rfl, hbb, X, hc, hri, hxl⟩ := src_cell hx hb hlt
      have hd := Lib.hid (M.drop_at X.out)
      cases hs : (decide (x.length = 2) || decide (x.length = 4) || decide (x.length = 8) || decide (x.length = 16))
      · have R := Lib.hid (show M.tabsOk ts = false by rw [M.tabsOk, H.out, hd.out, List.all_cons, M.tabOk, hs]; rfl)
        have h2 : ¬ x.length = 2 := fun e => by simp [e] at hs
        have h4 : ¬ x.length = 4 := fun e => by simp [e] at hs
        have h8 : ¬ x.length = 8 := fun e => by simp [e] at hs
        have h16 : ¬ x.length = 16 := fun e => by simp [e] at hs
        have g2 : ((x.length : Int) != 2) = true := by simp; omega
        have g4 : ((x.length : Int) != 4) = true := by simp; omega
        have g8 : ((x.length : Int) != 8) = true := by simp; omega
        have g16 : ((x.length : Int) != 16) = true := by simp; omega
        clear hs h2 h4 h8 h16
        go_wp2
        go_ret
        exact ⟨ret_bool (by rw [R.out]), rfl⟩
      · have HS := Lib.hid hs
        cases hq : x.all M.smp
        · have R := Lib.hid (show M.tabsOk ts = false by rw [M.tabsOk, H.out, hd.out, List.all_cons, M.tabOk, hq, Bool.and_false]; rfl)
          have hor : x.length = 2 ∨ x.length = 4 ∨ x.length = 8 ∨ x.length = 16 := by simp at hs; omega
          have HQ := Lib.hid hq
          clear hs hq
          rcases hor with e | e | e | e
          all_goals
            rw [e] at hc hri
            go_wp2_with (go_at_call 147; refine (impl_areSamples _ _ _ _ _ hri (by omega)).mono ?_; rw [HQ.out]; rintro e w' ⟨rfl, rfl⟩)
            go_ret
            exact ⟨ret_bool (by rw [R.out]), rfl⟩
        · have R := Lib.hid (show ts.all M.tabOk = (ts.drop (k + 1)).all M.tabOk by rw [H.out, hd.out, List.all_cons, M.tabOk, hs, hq]; rfl)
          have hor : x.length = 2 ∨ x.length = 4 ∨ x.length = 8 ∨ x.length = 16 := by simp at hs; omega
          have HQ := Lib.hid hq
          clear hs hq
          rcases hor with e | e | e | e
          all_goals
            rw [e] at hc hri
            go_wp2_with (go_at_call 147; refine (impl_areSamples _ _ _ _ _ hri (by omega)).mono ?_; rw [HQ.out]; rintro e w' ⟨rfl, rfl⟩)
            go_round
            case rel => exact ⟨k + 1, by go_num, by omega, R⟩
            case measure => simp [intOf]; omega
    · have R := Lib.hid (show M.tabsOk ts = decide (n ≤ 4) by rw [M.tabsOk, H.out, List.drop_eq_nil_of_le (by rw [hl.out]; omega), hl.out]; rfl)
      go_wp2
      go_ret
      exact ⟨ret_bool (by rw [R.out, Bool.eq_iff_iff]; simp; try omega), rfl⟩
def M.kn (j : Nat) : ByteArray := [⟨#[105, 110, 112, 117, 116]⟩, ⟨#[99, 111, 110, 115, 116]⟩, ⟨#[97, 100, 100]⟩, ⟨#[115, 117, 98]⟩, ⟨#[103, 97, 105, 110]⟩, ⟨#[100, 101, 108, 97, 121]⟩, ⟨#[115, 117, 109]⟩, ⟨#[100, 105, 102, 102]⟩, ⟨#[109, 117, 108]⟩, ⟨#[115, 104, 105, 102, 116]⟩, ⟨#[99, 108, 105, 112]⟩, ⟨#[112, 104, 97, 115, 101]⟩, ⟨#[116, 97, 98, 108, 101]⟩, ⟨#[110, 111, 105, 115, 101]⟩, ⟨#[115, 101, 108, 101, 99, 116]⟩, ⟨#[104, 111, 108, 100]⟩, ⟨#[99, 111, 109, 98]⟩].getD j ⟨#[]⟩
/-- The row of the kinds. -/
def M.kcells (w : World) (g : Nat) : Prop := ∀ j, j < 17 → w.cell? ⟨g, j * 6, none⟩ = some (.string (M.kn j)) ∧ w.cell? ⟨g, j * 6 + 1, none⟩ = some (.int .i64 (M.kd j).1) ∧ w.cell? ⟨g, j * 6 + 2, none⟩ = some (.int .i64 (M.kd j).2.1) ∧ w.cell? ⟨g, j * 6 + 3, none⟩ = some (.int .i64 (M.kd j).2.2.1) ∧ w.cell? ⟨g, j * 6 + 4, none⟩ = some (.bool (M.kd j).2.2.2.1) ∧ w.cell? ⟨g, j * 6 + 5, none⟩ = some (.bool (M.kd j).2.2.2.2)
theorem impl_kinds (w : World) :
    Calls Tryz.prog 76 #[] w fun e w' => ∃ g, e = .returned (.slice (some ⟨g, 0, none⟩) 17 17) ∧ w.heap.size ≤ g ∧ g < w'.heap.size ∧ M.kcells w' g ∧ Below w.heap.size w w' := by
  go_enter Tryz.func76, Tryz.ntmps76
  go_wp2
  go_ret
  refine ⟨_, rfl, Nat.le_refl _, by simp, ?_, (Below.refl _ _).alloc (Nat.le_refl _) _⟩
  intro j hj
  obtain rfl | rfl | rfl | rfl | rfl | rfl | rfl | rfl | rfl | rfl | rfl | rfl | rfl | rfl | rfl | rfl | rfl : j = 0 ∨ j = 1 ∨ j = 2 ∨ j = 3 ∨ j = 4 ∨ j = 5 ∨ j = 6 ∨ j = 7 ∨ j = 8 ∨ j = 9 ∨ j = 10 ∨ j = 11 ∨ j = 12 ∨ j = 13 ∨ j = 14 ∨ j = 15 ∨ j = 16 := by omega
  all_goals
    refine ⟨?_, ?_, ?_, ?_, ?_, ?_⟩
    all_goals (rw [cell_of_row _ w.heap.size _ _ 115 (0, 0) (heap_alloc_new w _)]; rfl)
theorem impl_isKind (k : Int) (w : World) : Calls Tryz.prog 75 #[.int .i64 k] w fun e w' => e = .returned (.bool (M.inn k 1 17)) ∧ w = w' := by
  go_enter Tryz.func75, Tryz.ntmps75
  go_wp2_with (go_at_call 62; refine (impl_within _ _ _ _).mono ?_; rintro e w' ⟨rfl, rfl⟩)
  go_ret
  exact ⟨rfl, rfl⟩
theorem impl_kindOf_hasA (s : ByteArray) (i lo hi : Int) (l b : Bool) (w : World) : Calls Tryz.prog 160 #[.agg #[.string s, .int .i64 i, .int .i64 lo, .int .i64 hi, .bool l, .bool b]] w fun e w' => e = .returned (.bool (decide (lo ≤ hi))) ∧ Below w.heap.size w w' := by
  have B0 : Below w.heap.size w (w.alloc (.cells #[.string s, .int .i64 i, .int .i64 lo, .int .i64 hi, .bool l, .bool b] 115)) := (Below.refl _ _).alloc (Nat.le_refl _) _
  go_enter Tryz.func160, Tryz.ntmps160
  go_wp2
  go_ret
  exact ⟨rfl, B0⟩
end Go.Proofs.YtacgcagpaecncaaGreat
namespace Go.Proofs.YtacgcagpaecncaaGreat
open Go.RowKit Go.Sort
set_option maxHeartbeats 4000000
set_option maxRecDepth 100000
set_option linter.unusedVariables false
set_option linter.unusedSimpArgs false
theorem impl_isNode (a0 a1 a2 : Int) (A : Option Addr) (n c : Nat) (xs : List Int) (tb : Int) (w : World) (hx : RI w w.heap.size A n xs) (hn : n ≤ 1000000000) :
    Calls Tryz.prog 154 #[.agg #[.int .i64 a0, .int .i64 a1, .int .i64 a2, .slice A n c], .int .i64 tb] w fun e w' => e = .returned (.bool (M.nodeOk (a0, a1, a2, xs) tb)) ∧ Below w.heap.size w w' := by
  obtain ⟨W, hW⟩ : ∃ W, W = w.alloc (.cells #[.int .i64 a0, .int .i64 a1, .int .i64 a2, .slice A n c] 70) := ⟨_, rfl⟩
  have B0 : Below w.heap.size w W := by rw [hW]; exact (Below.refl _ _).alloc (Nat.le_refl _) _
  have p0 : W.cell? ⟨w.heap.size, 0, none⟩ = some (.int .i64 a0) := by rw [hW]; simp [go_sem]
  have p1 : W.cell? ⟨w.heap.size, 1, none⟩ = some (.int .i64 a1) := by rw [hW]; simp [go_sem]
  have p2 : W.cell? ⟨w.heap.size, 2, none⟩ = some (.int .i64 a2) := by rw [hW]; simp [go_sem]
  have p3 : W.cell? ⟨w.heap.size, 3, none⟩ = some (.slice A n c) := by rw [hW]; simp [go_sem]
  have lx : w.heap.size < W.heap.size := by rw [hW]; simp
  have hx1 := hx.later B0
  have HW := Lib.hid hW
  have hlen := Lib.hid hx.len
  clear hW hx
  cases h : M.inn a0 1 17
  · have R := Lib.hid (show M.nodeOk (a0, a1, a2, xs) tb = false by rw [M.nodeOk, h]; rfl)
    go_enter Tryz.func154, Tryz.ntmps154
    go_wp2_with fail
    rw [← HW.out]
    go_wp2_with (go_at_call 75; refine (impl_isKind _ _).mono ?_; rintro e w' ⟨rfl, rfl⟩)
    go_ret
    exact ⟨ret_bool (by rw [R.out]), B0⟩
  · have hr := M.inn_iff.1 h
    obtain ⟨j, hj⟩ : ∃ j : Nat, j = a0.toNat - 1 := ⟨_, rfl⟩
    have hj17 : j < 17 := by omega
    have hja : IntKind.i64.wrap (a0 - 1) = (j : Int) := by rw [IntWalk.i64_in _ (by omega)]; omega
    have hj0 : (0 : Int) ≤ (j : Int) := by omega
    have hj1 : (j : Int) < 17 := by omega
    obtain ⟨⟨ki, lo, hi, li, hb⟩, hk⟩ : ∃ q, q = M.kd j := ⟨_, rfl⟩
    have HK := Lib.hid hk
    have HI := Lib.hid h
    have HN := Lib.hid (show M.nodeOk (a0, a1, a2, xs) tb = (M.aI (ki, lo, hi, li, hb) a1 && M.bI (ki, lo, hi, li, hb) a2 && xs.all M.from_ && decide ((xs.length : Int) = ki) && (decide (¬ a0 = 13) || decide (a1 < tb))) by rw [M.nodeOk]; simp only [h, Bool.true_and]; rw [← hj, ← hk])
    clear hj hk h hr
    have Da : Below W.heap.size W W.drew := below_drewN (Below.refl _ _) 1
    have Db : Below W.heap.size W (W.alloc (.cells #[.string ⟨#[]⟩, .int .i64 0, .int .i64 0, .int .i64 0, .bool false, .bool false] 115)).drew := below_drewN ((Below.refl _ _).alloc (Nat.le_refl _) _) 1
    have sb : (W.alloc (.cells #[.string ⟨#[]⟩, .int .i64 0, .int .i64 0, .int .i64 0, .bool false, .bool false] 115)).drew.heap.size = W.heap.size + 1 := by simp
    have sa : W.drew.heap.size = W.heap.size := rfl
    go_enter Tryz.func154, Tryz.ntmps154
    go_wp2_with fail
    rw [← HW.out]
    go_wp2_with (go_at_call 75; refine (impl_isKind _ _).mono ?_; rw [HI.out]; rintro e w' ⟨rfl, rfl⟩)
    go_cut [5] (fun q5 wx => ∃ g, q5 = .pointer (some ⟨g, 0, none⟩) ∧ W.heap.size ≤ g ∧ g < wx.heap.size ∧ wx.cell? ⟨g, 0, none⟩ = some (.string (M.kn j)) ∧ wx.cell? ⟨g, 1, none⟩ = some (.int .i64 ki) ∧ wx.cell? ⟨g, 2, none⟩ = some (.int .i64 lo) ∧ wx.cell? ⟨g, 3, none⟩ = some (.int .i64 hi) ∧ wx.cell? ⟨g, 4, none⟩ = some (.bool li) ∧ wx.cell? ⟨g, 5, none⟩ = some (.bool hb) ∧ Below W.heap.size W wx)
    case first =>
      go_region_with (first | (go_at_call 76; refine (impl_kinds _).mono ?_; rintro e w2 ⟨g, rfl, hg0, hg1, KC, bel2⟩; obtain ⟨k0, k1, k2, k3, k4, k5⟩ := KC j hj17; rw [← HK.out] at k1 k2 k3 k4 k5; simp only at k1 k2 k3 k4 k5; have G2 : Below W.heap.size W w2 := bel_trans Db bel2; have q0 : w2.cell? ⟨w.heap.size, 0, none⟩ = some (.int .i64 a0) := (by rw [G2.cell lx]; exact p0); have hs2 := bel2.size; have lw2 : w.heap.size < w2.heap.size := (by have := G2.size; omega); have bz0 : w2.cell? ⟨W.heap.size, 0, none⟩ = some (.string ⟨#[]⟩) := (by rw [bel2.cell (by simp)]; simp [go_sem]); have by0 : w2.frozen? ⟨W.heap.size, 0, none⟩ = false := (by rw [bel2.frozen (by simp)]; simp [go_sem]); have bz1 : w2.cell? ⟨W.heap.size, 1, none⟩ = some (.int .i64 0) := (by rw [bel2.cell (by simp)]; simp [go_sem]); have by1 : w2.frozen? ⟨W.heap.size, 1, none⟩ = false := (by rw [bel2.frozen (by simp)]; simp [go_sem]); have bz2 : w2.cell? ⟨W.heap.size, 2, none⟩ = some (.int .i64 0) := (by rw [bel2.cell (by simp)]; simp [go_sem]); have by2 : w2.frozen? ⟨W.heap.size, 2, none⟩ = false := (by rw [bel2.frozen (by simp)]; simp [go_sem]); have bz3 : w2.cell? ⟨W.heap.size, 3, none⟩ = some (.int .i64 0) := (by rw [bel2.cell (by simp)]; simp [go_sem]); have by3 : w2.frozen? ⟨W.heap.size, 3, none⟩ = false := (by rw [bel2.frozen (by simp)]; simp [go_sem]); have bz4 : w2.cell? ⟨W.heap.size, 4, none⟩ = some (.bool false) := (by rw [bel2.cell (by simp)]; simp [go_sem]); have by4 : w2.frozen? ⟨W.heap.size, 4, none⟩ = false := (by rw [bel2.frozen (by simp)]; simp [go_sem]); have bz5 : w2.cell? ⟨W.heap.size, 5, none⟩ = some (.bool false) := (by rw [bel2.cell (by simp)]; simp [go_sem]); have by5 : w2.frozen? ⟨W.heap.size, 5, none⟩ = false := (by rw [bel2.frozen (by simp)]; simp [go_sem]); have lb2 : W.heap.size < w2.heap.size := (by rw [sb] at hs2; omega); have nb2 : ¬ g = W.heap.size := (by rw [sb] at hg0; omega)) | (go_at_call 76; refine (impl_kinds _).mono ?_; rintro e w2 ⟨g, rfl, hg0, hg1, KC, bel2⟩; obtain ⟨k0, k1, k2, k3, k4, k5⟩ := KC j hj17; rw [← HK.out] at k1 k2 k3 k4 k5; simp only at k1 k2 k3 k4 k5; have G2 : Below W.heap.size W w2 := bel_trans Da bel2; have q0 : w2.cell? ⟨w.heap.size, 0, none⟩ = some (.int .i64 a0) := (by rw [G2.cell lx]; exact p0); have hs2 := bel2.size; have lw2 : w.heap.size < w2.heap.size := (by have := G2.size; omega)))
      all_goals
        go_wp2_with fail
        go_meet
        refine ⟨_, rfl, ?_⟩
        first
          | (have _t := nb2; refine ⟨Nat.le_refl _, by simp; omega, ?_, ?_, ?_, ?_, ?_, ?_, (((((G2.setCell (Nat.le_refl _) _).setCell (Nat.le_refl _) _).setCell (Nat.le_refl _) _).setCell (Nat.le_refl _) _).setCell (Nat.le_refl _) _).setCell (Nat.le_refl _) _⟩ <;> (simp [go_sem, bz0, bz1, bz2, bz3, bz4, bz5]; done))
          | (refine ⟨by have := G2.size; omega, by simp, ?_, ?_, ?_, ?_, ?_, ?_, G2.alloc G2.size _⟩ <;> (simp [go_sem]; done))
    case rest =>
      have hcut_ := hcut
      clear hcut Da Db sa sb
      obtain ⟨U, rfl⟩ : ∃ u_ : World, u_ = wc := ⟨_, rfl⟩
      obtain ⟨g, rfl, hg, lg, e0, e1, e2, e3, e4, e5, G⟩ := hcut_
      clear HW
      have lw : w.heap.size < U.heap.size := by have := G.size; omega
      replace p0 : U.cell? ⟨w.heap.size, 0, none⟩ = some (.int .i64 a0) := by rw [G.cell lx]; exact p0
      replace p1 : U.cell? ⟨w.heap.size, 1, none⟩ = some (.int .i64 a1) := by rw [G.cell lx]; exact p1
      replace p2 : U.cell? ⟨w.heap.size, 2, none⟩ = some (.int .i64 a2) := by rw [G.cell lx]; exact p2
      replace p3 : U.cell? ⟨w.heap.size, 3, none⟩ = some (.slice A n c) := by rw [G.cell lx]; exact p3
      replace hx1 := hx1.later G
      by_cases hle : lo ≤ hi
      · have HL := Lib.hid (decide_eq_true hle)
        cases h1 : M.inn a1 lo hi
        · have HA := Lib.hid (show M.aI (ki, lo, hi, li, hb) a1 = false by rw [M.aI, if_pos hle, h1])
          have R := Lib.hid (show M.nodeOk (a0, a1, a2, xs) tb = false by rw [HN.out, HA.out]; try rfl)
          go_wp2_with (first | (go_at_call 160; refine (impl_kindOf_hasA _ _ _ _ _ _ _).mono ?_; rw [HL.out]; rintro e v5 ⟨rfl, bel5⟩; have s5 := bel5.size; replace e0 : v5.cell? ⟨g, 0, none⟩ = some (.string (M.kn j)) := (by rw [bel5.cell lg]; exact e0); replace e1 : v5.cell? ⟨g, 1, none⟩ = some (.int .i64 ki) := (by rw [bel5.cell lg]; exact e1); replace e2 : v5.cell? ⟨g, 2, none⟩ = some (.int .i64 lo) := (by rw [bel5.cell lg]; exact e2); replace e3 : v5.cell? ⟨g, 3, none⟩ = some (.int .i64 hi) := (by rw [bel5.cell lg]; exact e3); replace e4 : v5.cell? ⟨g, 4, none⟩ = some (.bool li) := (by rw [bel5.cell lg]; exact e4); replace e5 : v5.cell? ⟨g, 5, none⟩ = some (.bool hb) := (by rw [bel5.cell lg]; exact e5); replace p0 : v5.cell? ⟨w.heap.size, 0, none⟩ = some (.int .i64 a0) := (by rw [bel5.cell lw]; exact p0); replace p1 : v5.cell? ⟨w.heap.size, 1, none⟩ = some (.int .i64 a1) := (by rw [bel5.cell lw]; exact p1); replace p2 : v5.cell? ⟨w.heap.size, 2, none⟩ = some (.int .i64 a2) := (by rw [bel5.cell lw]; exact p2); replace p3 : v5.cell? ⟨w.heap.size, 3, none⟩ = some (.slice A n c) := (by rw [bel5.cell lw]; exact p3); replace hx1 := hx1.later bel5; replace lg : g < v5.heap.size := (by omega); replace lw : w.heap.size < v5.heap.size := (by omega); replace G := bel_trans G bel5; clear bel5 s5) | (go_at_call 62; refine (impl_within _ _ _ _).mono ?_; rintro e w' ⟨rfl, rfl⟩))
          go_ret
          exact ⟨ret_bool (by rw [R.out]), bel_trans B0 G⟩
        · have HA := Lib.hid (fun hb => show M.aI (ki, lo, hi, li, hb) a1 = true by rw [M.aI, if_pos hle, h1])
          cases hb
          · by_cases h2 : a2 = 0
            · have HB := Lib.hid (show M.bI (ki, lo, hi, li, false) a2 = true by rw [M.bI, if_neg (by simp)]; simpa using h2)
              have g2 : (a2 != 0) = false := by simp [h2]
              have HM := Lib.hid (show M.nodeOk (a0, a1, a2, xs) tb = (xs.all M.from_ && decide ((xs.length : Int) = ki) && (decide (¬ a0 = 13) || decide (a1 < tb))) by rw [HN.out, (HA.out _), HB.out]; rfl)
              go_wp2_with (first | (go_at_call 160; refine (impl_kindOf_hasA _ _ _ _ _ _ _).mono ?_; rw [HL.out]; rintro e v5 ⟨rfl, bel5⟩; have s5 := bel5.size; replace e0 : v5.cell? ⟨g, 0, none⟩ = some (.string (M.kn j)) := (by rw [bel5.cell lg]; exact e0); replace e1 : v5.cell? ⟨g, 1, none⟩ = some (.int .i64 ki) := (by rw [bel5.cell lg]; exact e1); replace e2 : v5.cell? ⟨g, 2, none⟩ = some (.int .i64 lo) := (by rw [bel5.cell lg]; exact e2); replace e3 : v5.cell? ⟨g, 3, none⟩ = some (.int .i64 hi) := (by rw [bel5.cell lg]; exact e3); replace e4 : v5.cell? ⟨g, 4, none⟩ = some (.bool li) := (by rw [bel5.cell lg]; exact e4); replace e5 : v5.cell? ⟨g, 5, none⟩ = some (.bool false) := (by rw [bel5.cell lg]; exact e5); replace p0 : v5.cell? ⟨w.heap.size, 0, none⟩ = some (.int .i64 a0) := (by rw [bel5.cell lw]; exact p0); replace p1 : v5.cell? ⟨w.heap.size, 1, none⟩ = some (.int .i64 a1) := (by rw [bel5.cell lw]; exact p1); replace p2 : v5.cell? ⟨w.heap.size, 2, none⟩ = some (.int .i64 a2) := (by rw [bel5.cell lw]; exact p2); replace p3 : v5.cell? ⟨w.heap.size, 3, none⟩ = some (.slice A n c) := (by rw [bel5.cell lw]; exact p3); replace hx1 := hx1.later bel5; replace lg : g < v5.heap.size := (by omega); replace lw : w.heap.size < v5.heap.size := (by omega); replace G := bel_trans G bel5; clear bel5 s5) | (go_at_call 62; refine (impl_within _ _ _ _).mono ?_; rintro e w' ⟨rfl, rfl⟩))
              skip
              go_loop [7, 63] (fun _ i => ∃ k : Nat, i = .int .i64 k ∧ k ≤ n ∧ Hid (xs.all M.from_ = (xs.drop k).all M.from_)) (fun _ i => n - (intOf i).toNat)
              case atStart => exact ⟨0, rfl, by omega, Lib.hid (by simp)⟩
              case round =>
                obtain ⟨k, rfl, hk, H⟩ := hrel
                by_cases hlt : k < n
                · obtain ⟨ad, x, rfl, hab, X, hc⟩ := hx1.at hlt
                  have hd := Lib.hid (M.drop_at X.out)
                  cases hs : M.inn x 0 23
                  · have R := Lib.hid (show M.nodeOk (a0, a1, a2, xs) tb = false by rw [HM.out, H.out, hd.out, List.all_cons, M.from_, hs]; rfl)
                    go_wp2_with (go_at_call 62; refine (impl_within _ _ _ _).mono ?_; rintro e w' ⟨rfl, rfl⟩)
                    go_ret
                    exact ⟨ret_bool (by rw [R.out]), bel_trans B0 G⟩
                  · have R := Lib.hid (show xs.all M.from_ = (xs.drop (k + 1)).all M.from_ by rw [H.out, hd.out, List.all_cons, M.from_, hs]; rfl)
                    go_wp2_with (go_at_call 62; refine (impl_within _ _ _ _).mono ?_; rintro e w' ⟨rfl, rfl⟩)
                    go_round
                    case rel => exact ⟨k + 1, by go_num, by omega, R⟩
                    case measure => simp [intOf]; omega
                · have HF := Lib.hid (show xs.all M.from_ = true by rw [H.out, List.drop_eq_nil_of_le (by rw [hlen.out]; omega)]; rfl)
                  clear H
                  by_cases c1 : (n : Int) = ki
                  · by_cases c2 : a0 = 13
                    · have d1 : decide ((n : Int) = ki) = true := by simpa using c1
                      have d2 : (a0 != 13) = false := by simp [c2]
                      by_cases c3 : a1 < tb
                      · have R := Lib.hid (show M.nodeOk (a0, a1, a2, xs) tb = true by rw [HM.out, HF.out, hlen.out, c1, c2]; simpa using c3)
                        skip
                        go_wp2_with fail
                        go_quiet (first | (refine quiet_left (impl_size_int64 _ _ _ _)))
                        go_wp2
                        go_ret
                        exact ⟨ret_bool (by rw [R.out]; try (simp; omega)), bel_trans B0 (below_drewN G _)⟩
                      · have R := Lib.hid (show M.nodeOk (a0, a1, a2, xs) tb = false by rw [HM.out, HF.out, hlen.out, c1, c2]; simpa using c3)
                        skip
                        go_wp2_with fail
                        go_quiet (first | (refine quiet_left (impl_size_int64 _ _ _ _)))
                        go_wp2
                        go_ret
                        exact ⟨ret_bool (by rw [R.out]; try (simp; omega)), bel_trans B0 (below_drewN G _)⟩
                    · have R := Lib.hid (show M.nodeOk (a0, a1, a2, xs) tb = true by rw [HM.out, HF.out, hlen.out, c1]; simp [c2])
                      have d2 : (a0 != 13) = true := by simpa using c2
                      skip
                      go_wp2_with fail
                      go_quiet (first | (refine quiet_left (impl_size_int64 _ _ _ _)))
                      go_wp2
                      go_ret
                      exact ⟨ret_bool (by rw [R.out]; try (simp; omega)), bel_trans B0 (below_drewN G _)⟩
                  · have R := Lib.hid (show M.nodeOk (a0, a1, a2, xs) tb = false by rw [HM.out, HF.out, hlen.out]; simp [c1])
                    have d1 : ((n : Int) == ki) = false := by simpa using c1
                    skip
                    go_wp2_with fail
                    go_quiet (first | (refine quiet_left (impl_size_int64 _ _ _ _)))
                    go_wp2
                    go_ret
                    exact ⟨ret_bool (by rw [R.out]; try (simp; omega)), bel_trans B0 (below_drewN G _)⟩
            · have HB := Lib.hid (show M.bI (ki, lo, hi, li, false) a2 = false by rw [M.bI, if_neg (by simp)]; simpa using h2)
              have g2 : (a2 != 0) = true := by simpa using h2
              have R := Lib.hid (show M.nodeOk (a0, a1, a2, xs) tb = false by rw [HN.out, (HA.out _), HB.out]; try rfl)
              go_wp2_with (first | (go_at_call 160; refine (impl_kindOf_hasA _ _ _ _ _ _ _).mono ?_; rw [HL.out]; rintro e v5 ⟨rfl, bel5⟩; have s5 := bel5.size; replace e0 : v5.cell? ⟨g, 0, none⟩ = some (.string (M.kn j)) := (by rw [bel5.cell lg]; exact e0); replace e1 : v5.cell? ⟨g, 1, none⟩ = some (.int .i64 ki) := (by rw [bel5.cell lg]; exact e1); replace e2 : v5.cell? ⟨g, 2, none⟩ = some (.int .i64 lo) := (by rw [bel5.cell lg]; exact e2); replace e3 : v5.cell? ⟨g, 3, none⟩ = some (.int .i64 hi) := (by rw [bel5.cell lg]; exact e3); replace e4 : v5.cell? ⟨g, 4, none⟩ = some (.bool li) := (by rw [bel5.cell lg]; exact e4); replace e5 : v5.cell? ⟨g, 5, none⟩ = some (.bool false) := (by rw [bel5.cell lg]; exact e5); replace p0 : v5.cell? ⟨w.heap.size, 0, none⟩ = some (.int .i64 a0) := (by rw [bel5.cell lw]; exact p0); replace p1 : v5.cell? ⟨w.heap.size, 1, none⟩ = some (.int .i64 a1) := (by rw [bel5.cell lw]; exact p1); replace p2 : v5.cell? ⟨w.heap.size, 2, none⟩ = some (.int .i64 a2) := (by rw [bel5.cell lw]; exact p2); replace p3 : v5.cell? ⟨w.heap.size, 3, none⟩ = some (.slice A n c) := (by rw [bel5.cell lw]; exact p3); replace hx1 := hx1.later bel5; replace lg : g < v5.heap.size := (by omega); replace lw : w.heap.size < v5.heap.size := (by omega); replace G := bel_trans G bel5; clear bel5 s5) | (go_at_call 62; refine (impl_within _ _ _ _).mono ?_; rintro e w' ⟨rfl, rfl⟩))
              go_ret
              exact ⟨ret_bool (by rw [R.out]), bel_trans B0 G⟩
          · cases h2 : M.inn a2 1 16
            · have HB := Lib.hid (show M.bI (ki, lo, hi, li, true) a2 = false by rw [M.bI, if_pos rfl, h2])
              have R := Lib.hid (show M.nodeOk (a0, a1, a2, xs) tb = false by rw [HN.out, (HA.out _), HB.out]; try rfl)
              go_wp2_with (first | (go_at_call 160; refine (impl_kindOf_hasA _ _ _ _ _ _ _).mono ?_; rw [HL.out]; rintro e v5 ⟨rfl, bel5⟩; have s5 := bel5.size; replace e0 : v5.cell? ⟨g, 0, none⟩ = some (.string (M.kn j)) := (by rw [bel5.cell lg]; exact e0); replace e1 : v5.cell? ⟨g, 1, none⟩ = some (.int .i64 ki) := (by rw [bel5.cell lg]; exact e1); replace e2 : v5.cell? ⟨g, 2, none⟩ = some (.int .i64 lo) := (by rw [bel5.cell lg]; exact e2); replace e3 : v5.cell? ⟨g, 3, none⟩ = some (.int .i64 hi) := (by rw [bel5.cell lg]; exact e3); replace e4 : v5.cell? ⟨g, 4, none⟩ = some (.bool li) := (by rw [bel5.cell lg]; exact e4); replace e5 : v5.cell? ⟨g, 5, none⟩ = some (.bool true) := (by rw [bel5.cell lg]; exact e5); replace p0 : v5.cell? ⟨w.heap.size, 0, none⟩ = some (.int .i64 a0) := (by rw [bel5.cell lw]; exact p0); replace p1 : v5.cell? ⟨w.heap.size, 1, none⟩ = some (.int .i64 a1) := (by rw [bel5.cell lw]; exact p1); replace p2 : v5.cell? ⟨w.heap.size, 2, none⟩ = some (.int .i64 a2) := (by rw [bel5.cell lw]; exact p2); replace p3 : v5.cell? ⟨w.heap.size, 3, none⟩ = some (.slice A n c) := (by rw [bel5.cell lw]; exact p3); replace hx1 := hx1.later bel5; replace lg : g < v5.heap.size := (by omega); replace lw : w.heap.size < v5.heap.size := (by omega); replace G := bel_trans G bel5; clear bel5 s5) | (go_at_call 62; refine (impl_within _ _ _ _).mono ?_; rintro e w' ⟨rfl, rfl⟩))
              go_ret
              exact ⟨ret_bool (by rw [R.out]), bel_trans B0 G⟩
            · have HB := Lib.hid (show M.bI (ki, lo, hi, li, true) a2 = true by rw [M.bI, if_pos rfl, h2])
              have HM := Lib.hid (show M.nodeOk (a0, a1, a2, xs) tb = (xs.all M.from_ && decide ((xs.length : Int) = ki) && (decide (¬ a0 = 13) || decide (a1 < tb))) by rw [HN.out, (HA.out _), HB.out]; rfl)
              go_wp2_with (first | (go_at_call 160; refine (impl_kindOf_hasA _ _ _ _ _ _ _).mono ?_; rw [HL.out]; rintro e v5 ⟨rfl, bel5⟩; have s5 := bel5.size; replace e0 : v5.cell? ⟨g, 0, none⟩ = some (.string (M.kn j)) := (by rw [bel5.cell lg]; exact e0); replace e1 : v5.cell? ⟨g, 1, none⟩ = some (.int .i64 ki) := (by rw [bel5.cell lg]; exact e1); replace e2 : v5.cell? ⟨g, 2, none⟩ = some (.int .i64 lo) := (by rw [bel5.cell lg]; exact e2); replace e3 : v5.cell? ⟨g, 3, none⟩ = some (.int .i64 hi) := (by rw [bel5.cell lg]; exact e3); replace e4 : v5.cell? ⟨g, 4, none⟩ = some (.bool li) := (by rw [bel5.cell lg]; exact e4); replace e5 : v5.cell? ⟨g, 5, none⟩ = some (.bool true) := (by rw [bel5.cell lg]; exact e5); replace p0 : v5.cell? ⟨w.heap.size, 0, none⟩ = some (.int .i64 a0) := (by rw [bel5.cell lw]; exact p0); replace p1 : v5.cell? ⟨w.heap.size, 1, none⟩ = some (.int .i64 a1) := (by rw [bel5.cell lw]; exact p1); replace p2 : v5.cell? ⟨w.heap.size, 2, none⟩ = some (.int .i64 a2) := (by rw [bel5.cell lw]; exact p2); replace p3 : v5.cell? ⟨w.heap.size, 3, none⟩ = some (.slice A n c) := (by rw [bel5.cell lw]; exact p3); replace hx1 := hx1.later bel5; replace lg : g < v5.heap.size := (by omega); replace lw : w.heap.size < v5.heap.size := (by omega); replace G := bel_trans G bel5; clear bel5 s5) | (go_at_call 62; refine (impl_within _ _ _ _).mono ?_; rintro e w' ⟨rfl, rfl⟩))
              skip
              go_loop [7, 63] (fun _ i => ∃ k : Nat, i = .int .i64 k ∧ k ≤ n ∧ Hid (xs.all M.from_ = (xs.drop k).all M.from_)) (fun _ i => n - (intOf i).toNat)
              case atStart => exact ⟨0, rfl, by omega, Lib.hid (by simp)⟩
              case round =>
                obtain ⟨k, rfl, hk, H⟩ := hrel
                by_cases hlt : k < n
                · obtain ⟨ad, x, rfl, hab, X, hc⟩ := hx1.at hlt
                  have hd := Lib.hid (M.drop_at X.out)
                  cases hs : M.inn x 0 23
                  · have R := Lib.hid (show M.nodeOk (a0, a1, a2, xs) tb = false by rw [HM.out, H.out, hd.out, List.all_cons, M.from_, hs]; rfl)
                    go_wp2_with (go_at_call 62; refine (impl_within _ _ _ _).mono ?_; rintro e w' ⟨rfl, rfl⟩)
                    go_ret
                    exact ⟨ret_bool (by rw [R.out]), bel_trans B0 G⟩
                  · have R := Lib.hid (show xs.all M.from_ = (xs.drop (k + 1)).all M.from_ by rw [H.out, hd.out, List.all_cons, M.from_, hs]; rfl)
                    go_wp2_with (go_at_call 62; refine (impl_within _ _ _ _).mono ?_; rintro e w' ⟨rfl, rfl⟩)
                    go_round
                    case rel => exact ⟨k + 1, by go_num, by omega, R⟩
                    case measure => simp [intOf]; omega
                · have HF := Lib.hid (show xs.all M.from_ = true by rw [H.out, List.drop_eq_nil_of_le (by rw [hlen.out]; omega)]; rfl)
                  clear H
                  by_cases c1 : (n : Int) = ki
                  · by_cases c2 : a0 = 13
                    · have d1 : decide ((n : Int) = ki) = true := by simpa using c1
                      have d2 : (a0 != 13) = false := by simp [c2]
                      by_cases c3 : a1 < tb
                      · have R := Lib.hid (show M.nodeOk (a0, a1, a2, xs) tb = true by rw [HM.out, HF.out, hlen.out, c1, c2]; simpa using c3)
                        skip
                        go_wp2_with fail
                        go_quiet (first | (refine quiet_left (impl_size_int64 _ _ _ _)))
                        go_wp2
                        go_ret
                        exact ⟨ret_bool (by rw [R.out]; try (simp; omega)), bel_trans B0 (below_drewN G _)⟩
                      · have R := Lib.hid (show M.nodeOk (a0, a1, a2, xs) tb = false by rw [HM.out, HF.out, hlen.out, c1, c2]; simpa using c3)
                        skip
                        go_wp2_with fail
                        go_quiet (first | (refine quiet_left (impl_size_int64 _ _ _ _)))
                        go_wp2
                        go_ret
                        exact ⟨ret_bool (by rw [R.out]; try (simp; omega)), bel_trans B0 (below_drewN G _)⟩
                    · have R := Lib.hid (show M.nodeOk (a0, a1, a2, xs) tb = true by rw [HM.out, HF.out, hlen.out, c1]; simp [c2])
                      have d2 : (a0 != 13) = true := by simpa using c2
                      skip
                      go_wp2_with fail
                      go_quiet (first | (refine quiet_left (impl_size_int64 _ _ _ _)))
                      go_wp2
                      go_ret
                      exact ⟨ret_bool (by rw [R.out]; try (simp; omega)), bel_trans B0 (below_drewN G _)⟩
                  · have R := Lib.hid (show M.nodeOk (a0, a1, a2, xs) tb = false by rw [HM.out, HF.out, hlen.out]; simp [c1])
                    have d1 : ((n : Int) == ki) = false := by simpa using c1
                    skip
                    go_wp2_with fail
                    go_quiet (first | (refine quiet_left (impl_size_int64 _ _ _ _)))
                    go_wp2
                    go_ret
                    exact ⟨ret_bool (by rw [R.out]; try (simp; omega)), bel_trans B0 (below_drewN G _)⟩
      · have HL := Lib.hid (decide_eq_false hle)
        by_cases h1 : a1 = 0
        · have HA := Lib.hid (fun hb => show M.aI (ki, lo, hi, li, hb) a1 = true by rw [M.aI, if_neg hle]; simpa using h1)
          have g1 : (a1 != 0) = false := by simp [h1]
          cases hb
          · by_cases h2 : a2 = 0
            · have HB := Lib.hid (show M.bI (ki, lo, hi, li, false) a2 = true by rw [M.bI, if_neg (by simp)]; simpa using h2)
              have g2 : (a2 != 0) = false := by simp [h2]
              have HM := Lib.hid (show M.nodeOk (a0, a1, a2, xs) tb = (xs.all M.from_ && decide ((xs.length : Int) = ki) && (decide (¬ a0 = 13) || decide (a1 < tb))) by rw [HN.out, (HA.out _), HB.out]; rfl)
              go_wp2_with (first | (go_at_call 160; refine (impl_kindOf_hasA _ _ _ _ _ _ _).mono ?_; rw [HL.out]; rintro e v5 ⟨rfl, bel5⟩; have s5 := bel5.size; replace e0 : v5.cell? ⟨g, 0, none⟩ = some (.string (M.kn j)) := (by rw [bel5.cell lg]; exact e0); replace e1 : v5.cell? ⟨g, 1, none⟩ = some (.int .i64 ki) := (by rw [bel5.cell lg]; exact e1); replace e2 : v5.cell? ⟨g, 2, none⟩ = some (.int .i64 lo) := (by rw [bel5.cell lg]; exact e2); replace e3 : v5.cell? ⟨g, 3, none⟩ = some (.int .i64 hi) := (by rw [bel5.cell lg]; exact e3); replace e4 : v5.cell? ⟨g, 4, none⟩ = some (.bool li) := (by rw [bel5.cell lg]; exact e4); replace e5 : v5.cell? ⟨g, 5, none⟩ = some (.bool false) := (by rw [bel5.cell lg]; exact e5); replace p0 : v5.cell? ⟨w.heap.size, 0, none⟩ = some (.int .i64 a0) := (by rw [bel5.cell lw]; exact p0); replace p1 : v5.cell? ⟨w.heap.size, 1, none⟩ = some (.int .i64 a1) := (by rw [bel5.cell lw]; exact p1); replace p2 : v5.cell? ⟨w.heap.size, 2, none⟩ = some (.int .i64 a2) := (by rw [bel5.cell lw]; exact p2); replace p3 : v5.cell? ⟨w.heap.size, 3, none⟩ = some (.slice A n c) := (by rw [bel5.cell lw]; exact p3); replace hx1 := hx1.later bel5; replace lg : g < v5.heap.size := (by omega); replace lw : w.heap.size < v5.heap.size := (by omega); replace G := bel_trans G bel5; clear bel5 s5) | (go_at_call 62; refine (impl_within _ _ _ _).mono ?_; rintro e w' ⟨rfl, rfl⟩))
              skip
              go_loop [7, 63] (fun _ i => ∃ k : Nat, i = .int .i64 k ∧ k ≤ n ∧ Hid (xs.all M.from_ = (xs.drop k).all M.from_)) (fun _ i => n - (intOf i).toNat)
              case atStart => exact ⟨0, rfl, by omega, Lib.hid (by simp)⟩
              case round =>
                obtain ⟨k, rfl, hk, H⟩ := hrel
                by_cases hlt : k < n
                · obtain ⟨ad, x, rfl, hab, X, hc⟩ := hx1.at hlt
                  have hd := Lib.hid (M.drop_at X.out)
                  cases hs : M.inn x 0 23
                  · have R := Lib.hid (show M.nodeOk (a0, a1, a2, xs) tb = false by rw [HM.out, H.out, hd.out, List.all_cons, M.from_, hs]; rfl)
                    go_wp2_with (go_at_call 62; refine (impl_within _ _ _ _).mono ?_; rintro e w' ⟨rfl, rfl⟩)
                    go_ret
                    exact ⟨ret_bool (by rw [R.out]), bel_trans B0 G⟩
                  · have R := Lib.hid (show xs.all M.from_ = (xs.drop (k + 1)).all M.from_ by rw [H.out, hd.out, List.all_cons, M.from_, hs]; rfl)
                    go_wp2_with (go_at_call 62; refine (impl_within _ _ _ _).mono ?_; rintro e w' ⟨rfl, rfl⟩)
                    go_round
                    case rel => exact ⟨k + 1, by go_num, by omega, R⟩
                    case measure => simp [intOf]; omega
                · have HF := Lib.hid (show xs.all M.from_ = true by rw [H.out, List.drop_eq_nil_of_le (by rw [hlen.out]; omega)]; rfl)
                  clear H
                  by_cases c1 : (n : Int) = ki
                  · by_cases c2 : a0 = 13
                    · have d1 : decide ((n : Int) = ki) = true := by simpa using c1
                      have d2 : (a0 != 13) = false := by simp [c2]
                      by_cases c3 : a1 < tb
                      · have R := Lib.hid (show M.nodeOk (a0, a1, a2, xs) tb = true by rw [HM.out, HF.out, hlen.out, c1, c2]; simpa using c3)
                        skip
                        go_wp2_with fail
                        go_quiet (first | (refine quiet_left (impl_size_int64 _ _ _ _)))
                        go_wp2
                        go_ret
                        exact ⟨ret_bool (by rw [R.out]; try (simp; omega)), bel_trans B0 (below_drewN G _)⟩
                      · have R := Lib.hid (show M.nodeOk (a0, a1, a2, xs) tb = false by rw [HM.out, HF.out, hlen.out, c1, c2]; simpa using c3)
                        skip
                        go_wp2_with fail
                        go_quiet (first | (refine quiet_left (impl_size_int64 _ _ _ _)))
                        go_wp2
                        go_ret
                        exact ⟨ret_bool (by rw [R.out]; try (simp; omega)), bel_trans B0 (below_drewN G _)⟩
                    · have R := Lib.hid (show M.nodeOk (a0, a1, a2, xs) tb = true by rw [HM.out, HF.out, hlen.out, c1]; simp [c2])
                      have d2 : (a0 != 13) = true := by simpa using c2
                      skip
                      go_wp2_with fail
                      go_quiet (first | (refine quiet_left (impl_size_int64 _ _ _ _)))
                      go_wp2
                      go_ret
                      exact ⟨ret_bool (by rw [R.out]; try (simp; omega)), bel_trans B0 (below_drewN G _)⟩
                  · have R := Lib.hid (show M.nodeOk (a0, a1, a2, xs) tb = false by rw [HM.out, HF.out, hlen.out]; simp [c1])
                    have d1 : ((n : Int) == ki) = false := by simpa using c1
                    skip
                    go_wp2_with fail
                    go_quiet (first | (refine quiet_left (impl_size_int64 _ _ _ _)))
                    go_wp2
                    go_ret
                    exact ⟨ret_bool (by rw [R.out]; try (simp; omega)), bel_trans B0 (below_drewN G _)⟩
            · have HB := Lib.hid (show M.bI (ki, lo, hi, li, false) a2 = false by rw [M.bI, if_neg (by simp)]; simpa using h2)
              have g2 : (a2 != 0) = true := by simpa using h2
              have R := Lib.hid (show M.nodeOk (a0, a1, a2, xs) tb = false by rw [HN.out, (HA.out _), HB.out]; try rfl)
              go_wp2_with (first | (go_at_call 160; refine (impl_kindOf_hasA _ _ _ _ _ _ _).mono ?_; rw [HL.out]; rintro e v5 ⟨rfl, bel5⟩; have s5 := bel5.size; replace e0 : v5.cell? ⟨g, 0, none⟩ = some (.string (M.kn j)) := (by rw [bel5.cell lg]; exact e0); replace e1 : v5.cell? ⟨g, 1, none⟩ = some (.int .i64 ki) := (by rw [bel5.cell lg]; exact e1); replace e2 : v5.cell? ⟨g, 2, none⟩ = some (.int .i64 lo) := (by rw [bel5.cell lg]; exact e2); replace e3 : v5.cell? ⟨g, 3, none⟩ = some (.int .i64 hi) := (by rw [bel5.cell lg]; exact e3); replace e4 : v5.cell? ⟨g, 4, none⟩ = some (.bool li) := (by rw [bel5.cell lg]; exact e4); replace e5 : v5.cell? ⟨g, 5, none⟩ = some (.bool false) := (by rw [bel5.cell lg]; exact e5); replace p0 : v5.cell? ⟨w.heap.size, 0, none⟩ = some (.int .i64 a0) := (by rw [bel5.cell lw]; exact p0); replace p1 : v5.cell? ⟨w.heap.size, 1, none⟩ = some (.int .i64 a1) := (by rw [bel5.cell lw]; exact p1); replace p2 : v5.cell? ⟨w.heap.size, 2, none⟩ = some (.int .i64 a2) := (by rw [bel5.cell lw]; exact p2); replace p3 : v5.cell? ⟨w.heap.size, 3, none⟩ = some (.slice A n c) := (by rw [bel5.cell lw]; exact p3); replace hx1 := hx1.later bel5; replace lg : g < v5.heap.size := (by omega); replace lw : w.heap.size < v5.heap.size := (by omega); replace G := bel_trans G bel5; clear bel5 s5) | (go_at_call 62; refine (impl_within _ _ _ _).mono ?_; rintro e w' ⟨rfl, rfl⟩))
              go_ret
              exact ⟨ret_bool (by rw [R.out]), bel_trans B0 G⟩
          · cases h2 : M.inn a2 1 16
            · have HB := Lib.hid (show M.bI (ki, lo, hi, li, true) a2 = false by rw [M.bI, if_pos rfl, h2])
              have R := Lib.hid (show M.nodeOk (a0, a1, a2, xs) tb = false by rw [HN.out, (HA.out _), HB.out]; try rfl)
              go_wp2_with (first | (go_at_call 160; refine (impl_kindOf_hasA _ _ _ _ _ _ _).mono ?_; rw [HL.out]; rintro e v5 ⟨rfl, bel5⟩; have s5 := bel5.size; replace e0 : v5.cell? ⟨g, 0, none⟩ = some (.string (M.kn j)) := (by rw [bel5.cell lg]; exact e0); replace e1 : v5.cell? ⟨g, 1, none⟩ = some (.int .i64 ki) := (by rw [bel5.cell lg]; exact e1); replace e2 : v5.cell? ⟨g, 2, none⟩ = some (.int .i64 lo) := (by rw [bel5.cell lg]; exact e2); replace e3 : v5.cell? ⟨g, 3, none⟩ = some (.int .i64 hi) := (by rw [bel5.cell lg]; exact e3); replace e4 : v5.cell? ⟨g, 4, none⟩ = some (.bool li) := (by rw [bel5.cell lg]; exact e4); replace e5 : v5.cell? ⟨g, 5, none⟩ = some (.bool true) := (by rw [bel5.cell lg]; exact e5); replace p0 : v5.cell? ⟨w.heap.size, 0, none⟩ = some (.int .i64 a0) := (by rw [bel5.cell lw]; exact p0); replace p1 : v5.cell? ⟨w.heap.size, 1, none⟩ = some (.int .i64 a1) := (by rw [bel5.cell lw]; exact p1); replace p2 : v5.cell? ⟨w.heap.size, 2, none⟩ = some (.int .i64 a2) := (by rw [bel5.cell lw]; exact p2); replace p3 : v5.cell? ⟨w.heap.size, 3, none⟩ = some (.slice A n c) := (by rw [bel5.cell lw]; exact p3); replace hx1 := hx1.later bel5; replace lg : g < v5.heap.size := (by omega); replace lw : w.heap.size < v5.heap.size := (by omega); replace G := bel_trans G bel5; clear bel5 s5) | (go_at_call 62; refine (impl_within _ _ _ _).mono ?_; rintro e w' ⟨rfl, rfl⟩))
              go_ret
              exact ⟨ret_bool (by rw [R.out]), bel_trans B0 G⟩
            · have HB := Lib.hid (show M.bI (ki, lo, hi, li, true) a2 = true by rw [M.bI, if_pos rfl, h2])
              have HM := Lib.hid (show M.nodeOk (a0, a1, a2, xs) tb = (xs.all M.from_ && decide ((xs.length : Int) = ki) && (decide (¬ a0 = 13) || decide (a1 < tb))) by rw [HN.out, (HA.out _), HB.out]; rfl)
              go_wp2_with (first | (go_at_call 160; refine (impl_kindOf_hasA _ _ _ _ _ _ _).mono ?_; rw [HL.out]; rintro e v5 ⟨rfl, bel5⟩; have s5 := bel5.size; replace e0 : v5.cell? ⟨g, 0, none⟩ = some (.string (M.kn j)) := (by rw [bel5.cell lg]; exact e0); replace e1 : v5.cell? ⟨g, 1, none⟩ = some (.int .i64 ki) := (by rw [bel5.cell lg]; exact e1); replace e2 : v5.cell? ⟨g, 2, none⟩ = some (.int .i64 lo) := (by rw [bel5.cell lg]; exact e2); replace e3 : v5.cell? ⟨g, 3, none⟩ = some (.int .i64 hi) := (by rw [bel5.cell lg]; exact e3); replace e4 : v5.cell? ⟨g, 4, none⟩ = some (.bool li) := (by rw [bel5.cell lg]; exact e4); replace e5 : v5.cell? ⟨g, 5, none⟩ = some (.bool true) := (by rw [bel5.cell lg]; exact e5); replace p0 : v5.cell? ⟨w.heap.size, 0, none⟩ = some (.int .i64 a0) := (by rw [bel5.cell lw]; exact p0); replace p1 : v5.cell? ⟨w.heap.size, 1, none⟩ = some (.int .i64 a1) := (by rw [bel5.cell lw]; exact p1); replace p2 : v5.cell? ⟨w.heap.size, 2, none⟩ = some (.int .i64 a2) := (by rw [bel5.cell lw]; exact p2); replace p3 : v5.cell? ⟨w.heap.size, 3, none⟩ = some (.slice A n c) := (by rw [bel5.cell lw]; exact p3); replace hx1 := hx1.later bel5; replace lg : g < v5.heap.size := (by omega); replace lw : w.heap.size < v5.heap.size := (by omega); replace G := bel_trans G bel5; clear bel5 s5) | (go_at_call 62; refine (impl_within _ _ _ _).mono ?_; rintro e w' ⟨rfl, rfl⟩))
              skip
              go_loop [7, 63] (fun _ i => ∃ k : Nat, i = .int .i64 k ∧ k ≤ n ∧ Hid (xs.all M.from_ = (xs.drop k).all M.from_)) (fun _ i => n - (intOf i).toNat)
              case atStart => exact ⟨0, rfl, by omega, Lib.hid (by simp)⟩
              case round =>
                obtain ⟨k, rfl, hk, H⟩ := hrel
                by_cases hlt : k < n
                · obtain ⟨ad, x, rfl, hab, X, hc⟩ := hx1.at hlt
                  have hd := Lib.hid (M.drop_at X.out)
                  cases hs : M.inn x 0 23
                  · have R := Lib.hid (show M.nodeOk (a0, a1, a2, xs) tb = false by rw [HM.out, H.out, hd.out, List.all_cons, M.from_, hs]; rfl)
                    go_wp2_with (go_at_call 62; refine (impl_within _ _ _ _).mono ?_; rintro e w' ⟨rfl, rfl⟩)
                    go_ret
                    exact ⟨ret_bool (by rw [R.out]), bel_trans B0 G⟩
                  · have R := Lib.hid (show xs.all M.from_ = (xs.drop (k + 1)).all M.from_ by rw [H.out, hd.out, List.all_cons, M.from_, hs]; rfl)
                    go_wp2_with (go_at_call 62; refine (impl_within _ _ _ _).mono ?_; rintro e w' ⟨rfl, rfl⟩)
                    go_round
                    case rel => exact ⟨k + 1, by go_num, by omega, R⟩
                    case measure => simp [intOf]; omega
                · have HF := Lib.hid (show xs.all M.from_ = true by rw [H.out, List.drop_eq_nil_of_le (by rw [hlen.out]; omega)]; rfl)
                  clear H
                  by_cases c1 : (n : Int) = ki
                  · by_cases c2 : a0 = 13
                    · have d1 : decide ((n : Int) = ki) = true := by simpa using c1
                      have d2 : (a0 != 13) = false := by simp [c2]
                      by_cases c3 : a1 < tb
                      · have R := Lib.hid (show M.nodeOk (a0, a1, a2, xs) tb = true by rw [HM.out, HF.out, hlen.out, c1, c2]; simpa using c3)
                        skip
                        go_wp2_with fail
                        go_quiet (first | (refine quiet_left (impl_size_int64 _ _ _ _)))
                        go_wp2
                        go_ret
                        exact ⟨ret_bool (by rw [R.out]; try (simp; omega)), bel_trans B0 (below_drewN G _)⟩
                      · have R := Lib.hid (show M.nodeOk (a0, a1, a2, xs) tb = false by rw [HM.out, HF.out, hlen.out, c1, c2]; simpa using c3)
                        skip
                        go_wp2_with fail
                        go_quiet (first | (refine quiet_left (impl_size_int64 _ _ _ _)))
                        go_wp2
                        go_ret
                        exact ⟨ret_bool (by rw [R.out]; try (simp; omega)), bel_trans B0 (below_drewN G _)⟩
                    · have R := Lib.hid (show M.nodeOk (a0, a1, a2, xs) tb = true by rw [HM.out, HF.out, hlen.out, c1]; simp [c2])
                      have d2 : (a0 != 13) = true := by simpa using c2
                      skip
                      go_wp2_with fail
                      go_quiet (first | (refine quiet_left (impl_size_int64 _ _ _ _)))
                      go_wp2
                      go_ret
                      exact ⟨ret_bool (by rw [R.out]; try (simp; omega)), bel_trans B0 (below_drewN G _)⟩
                  · have R := Lib.hid (show M.nodeOk (a0, a1, a2, xs) tb = false by rw [HM.out, HF.out, hlen.out]; simp [c1])
                    have d1 : ((n : Int) == ki) = false := by simpa using c1
                    skip
                    go_wp2_with fail
                    go_quiet (first | (refine quiet_left (impl_size_int64 _ _ _ _)))
                    go_wp2
                    go_ret
                    exact ⟨ret_bool (by rw [R.out]; try (simp; omega)), bel_trans B0 (below_drewN G _)⟩
        · have HA := Lib.hid (show M.aI (ki, lo, hi, li, hb) a1 = false by rw [M.aI, if_neg hle]; simpa using h1)
          have g1 : (a1 != 0) = true := by simpa using h1
          have R := Lib.hid (show M.nodeOk (a0, a1, a2, xs) tb = false by rw [HN.out, HA.out]; try rfl)
          go_wp2_with (first | (go_at_call 160; refine (impl_kindOf_hasA _ _ _ _ _ _ _).mono ?_; rw [HL.out]; rintro e v5 ⟨rfl, bel5⟩; have s5 := bel5.size; replace e0 : v5.cell? ⟨g, 0, none⟩ = some (.string (M.kn j)) := (by rw [bel5.cell lg]; exact e0); replace e1 : v5.cell? ⟨g, 1, none⟩ = some (.int .i64 ki) := (by rw [bel5.cell lg]; exact e1); replace e2 : v5.cell? ⟨g, 2, none⟩ = some (.int .i64 lo) := (by rw [bel5.cell lg]; exact e2); replace e3 : v5.cell? ⟨g, 3, none⟩ = some (.int .i64 hi) := (by rw [bel5.cell lg]; exact e3); replace e4 : v5.cell? ⟨g, 4, none⟩ = some (.bool li) := (by rw [bel5.cell lg]; exact e4); replace e5 : v5.cell? ⟨g, 5, none⟩ = some (.bool hb) := (by rw [bel5.cell lg]; exact e5); replace p0 : v5.cell? ⟨w.heap.size, 0, none⟩ = some (.int .i64 a0) := (by rw [bel5.cell lw]; exact p0); replace p1 : v5.cell? ⟨w.heap.size, 1, none⟩ = some (.int .i64 a1) := (by rw [bel5.cell lw]; exact p1); replace p2 : v5.cell? ⟨w.heap.size, 2, none⟩ = some (.int .i64 a2) := (by rw [bel5.cell lw]; exact p2); replace p3 : v5.cell? ⟨w.heap.size, 3, none⟩ = some (.slice A n c) := (by rw [bel5.cell lw]; exact p3); replace hx1 := hx1.later bel5; replace lg : g < v5.heap.size := (by omega); replace lw : w.heap.size < v5.heap.size := (by omega); replace G := bel_trans G bel5; clear bel5 s5) | (go_at_call 62; refine (impl_within _ _ _ _).mono ?_; rintro e w' ⟨rfl, rfl⟩))
          go_ret
          exact ⟨ret_bool (by rw [R.out]), bel_trans B0 G⟩
end Go.Proofs.YtacgcagpaecncaaGreat
namespace Go.Proofs.YtacgcagpaecncaaGreat
open Go.RowKit Go.Sort
set_option maxHeartbeats 4000000
set_option linter.unusedVariables false
set_option linter.unusedSimpArgs false
/-- Elements of lists, with a default. -/
def M.i_ (l : List Int) (j : Nat) : Int := (l[j]?).getD 0
def M.node (ns : List Node) (i : Nat) : Node := (ns[i]?).getD (0, 0, 0, [])
def M.cel (cs : List (List Int)) (i : Nat) : List Int := (cs[i]?).getD []
def M.look (t : List Int) (x : Int) : Int := M.i_ t (((t.length : Int) * (x % 4294967296)) / 4294967296).toNat
def M.xorN (x : Int) : Int := _root_.Go.bits .xor .i64 x 2734686208
def M.noise (s : Int) : Int := if s % 2 = 1 then wrap32 (M.xorN (s % 4294967296 / 2)) else wrap32 (s % 4294967296 / 2)
/-- The output of a node. -/
def M.nOut (x : Node) (tb : List (List Int)) (ins s : List Int) : Int :=
  if x.1 = 1 then M.i_ ins 0 else if x.1 = 2 then x.2.1 else if x.1 = 3 then wrap32 (M.i_ ins 0 + M.i_ ins 1) else if x.1 = 4 then wrap32 (M.i_ ins 0 - M.i_ ins 1) else
  if x.1 = 5 then wrap32 (x.2.1 * M.i_ ins 0) else if x.1 = 6 then M.i_ s 0 else if x.1 = 7 then wrap32 (M.i_ s 0 + M.i_ ins 0) else if x.1 = 8 then wrap32 (M.i_ ins 0 - M.i_ s 0) else
  if x.1 = 9 then wrap32 (M.i_ ins 0 * M.i_ ins 1) else if x.1 = 10 then M.i_ ins 0 / 2 ^ x.2.1.toNat else if x.1 = 11 then max (-x.2.1) (min x.2.1 (M.i_ ins 0)) else if x.1 = 12 then M.i_ s 0 else
  if x.1 = 13 then M.look (M.cel tb x.2.1.toNat) (M.i_ ins 0) else if x.1 = 14 then M.i_ s 0 else if x.1 = 15 then (if 0 ≤ M.i_ ins 0 then M.i_ ins 1 else M.i_ ins 2) else
  if x.1 = 16 then (if 0 < M.i_ ins 1 then M.i_ ins 0 else M.i_ s 0) else wrap32 (M.i_ ins 0 + x.2.1 * M.i_ s 0)
/-- The next state of a node. -/
def M.nNext (x : Node) (ins s : List Int) (out : Int) : List Int :=
  if x.1 = 6 then s.drop 1 ++ [M.i_ ins 0] else if x.1 = 17 then s.drop 1 ++ [out] else if x.1 = 7 then [out] else if x.1 = 16 then [out] else if x.1 = 8 then [M.i_ ins 0] else
  if x.1 = 12 then [wrap32 (M.i_ s 0 + M.i_ ins 0)] else if x.1 = 14 then [M.noise (M.i_ s 0)] else []
def M.stLen (x : Node) : Nat := if x.1 = 6 then x.2.1.toNat else if x.1 = 17 then x.2.2.1.toNat else if x.1 = 7 then 1 else if x.1 = 8 then 1 else if x.1 = 16 then 1 else if x.1 = 12 then 1 else if x.1 = 14 then 1 else 0
def M.start (x : Node) : List Int := if x.1 = 12 then [x.2.1] else if x.1 = 14 then [x.2.1] else List.replicate (M.stLen x) 0
/-- What a node gets in a frame. -/
def M.insN (x : Node) (fr vs : List Int) : List Int := if x.1 = 1 then [M.i_ fr x.2.1.toNat] else x.2.2.2.map fun f => M.i_ vs f.toNat
section
variable (ns : List Node) (tb : List (List Int)) (fr O : List Int)
def M.ordI (t : Nat) : Nat := (M.i_ O t).toNat
/-- The values after t nodes, as the reference computes them. -/
def M.valN (cs : List (List Int)) (v0 : List Int) : Nat → List Int
  | 0 => v0
  | t + 1 => (M.valN cs v0 t).set (M.ordI O t) (M.nOut (M.node ns (M.ordI O t)) tb (M.insN (M.node ns (M.ordI O t)) fr (M.valN cs v0 t)) (M.cel cs (M.ordI O t)))
/-- Values and cells after t nodes, as the player has them. -/
def M.runN (v0 : List Int) (c0 : List (List Int)) : Nat → List Int × List (List Int)
  | 0 => (v0, c0)
  | t + 1 =>
    if (M.node ns (M.ordI O t)).1 = 6 then ((M.runN v0 c0 t).1.set (M.ordI O t) (M.i_ (M.cel (M.runN v0 c0 t).2 (M.ordI O t)) 0), (M.runN v0 c0 t).2)
    else ((M.runN v0 c0 t).1.set (M.ordI O t) (M.nOut (M.node ns (M.ordI O t)) tb (M.insN (M.node ns (M.ordI O t)) fr (M.runN v0 c0 t).1) (M.cel (M.runN v0 c0 t).2 (M.ordI O t))),
      (M.runN v0 c0 t).2.set (M.ordI O t) (M.nNext (M.node ns (M.ordI O t)) (M.insN (M.node ns (M.ordI O t)) fr (M.runN v0 c0 t).1) (M.cel (M.runN v0 c0 t).2 (M.ordI O t))
        (M.nOut (M.node ns (M.ordI O t)) tb (M.insN (M.node ns (M.ordI O t)) fr (M.runN v0 c0 t).1) (M.cel (M.runN v0 c0 t).2 (M.ordI O t)))))
/-- The delays' second step. -/
def M.delN (vs : List Int) (c1 : List (List Int)) : Nat → List (List Int)
  | 0 => c1
  | t + 1 => if (M.node ns t).1 = 6 then (M.delN vs c1 t).set t (M.nNext (M.node ns t) (M.insN (M.node ns t) fr vs) (M.cel (M.delN vs c1 t) t) 0) else M.delN vs c1 t
/-- The values of a frame and the next cells. -/
def M.vals (cs : List (List Int)) : List Int := M.valN ns tb fr O cs (List.replicate ns.length 0) O.length
def M.next_ (cs : List (List Int)) : List (List Int) := (List.range ns.length).map fun i => M.nNext (M.node ns i) (M.insN (M.node ns i) fr (M.vals ns tb fr O cs)) (M.cel cs i) (M.i_ (M.vals ns tb fr O cs) i)
end
/-- An order of all nodes, each behind what it waits for. -/
structure M.Topo (ns : List Node) (O : List Int) : Prop where
  len : O.length = ns.length
  rng : ∀ t, t < O.length → 0 ≤ M.i_ O t ∧ M.i_ O t < ns.length
  new : ∀ s t, s < t → t < O.length → M.ordI O s ≠ M.ordI O t
  aft : ∀ t, t < O.length → ∀ f ∈ M.waits (M.node ns (M.ordI O t)), ∃ s, s < t ∧ f = M.i_ O s
theorem M.i_set_eq {l : List Int} {k : Nat} (h : k < l.length) (x : Int) : M.i_ (l.set k x) k = x := by simp [M.i_, h]
theorem M.i_set_ne {l : List Int} {k j : Nat} (h : k ≠ j) (x : Int) : M.i_ (l.set k x) j = M.i_ l j := by simp [M.i_, List.getElem?_set_ne h]
theorem M.cel_set_eq {l : List (List Int)} {k : Nat} (h : k < l.length) (x : List Int) : M.cel (l.set k x) k = x := by simp [M.cel, h]
theorem M.cel_set_ne {l : List (List Int)} {k j : Nat} (h : k ≠ j) (x : List Int) : M.cel (l.set k x) j = M.cel l j := by simp [M.cel, List.getElem?_set_ne h]
theorem M.i_ext {a b : List Int} (hl : a.length = b.length) (h : ∀ j, j < a.length → M.i_ a j = M.i_ b j) : a = b := by
  apply List.ext_getElem hl
  intro i h1 h2
  have := h i h1
  simpa [M.i_, h1, h2] using this
theorem M.cel_ext {a b : List (List Int)} (hl : a.length = b.length) (h : ∀ j, j < a.length → M.cel a j = M.cel b j) : a = b := by
  apply List.ext_getElem hl
  intro i h1 h2
  have := h i h1
  simpa [M.cel, h1, h2] using this
/-- A nodup list of numbers below n has no more than n elements. -/
theorem M.nodup_le : ∀ (n : Nat) (l : List Nat), l.Nodup → (∀ x ∈ l, x < n) → l.length ≤ n := by
  intro n
  induction n with
  | zero =>
    intro l _ h
    cases l with
    | nil => simp
    | cons x xs => exact absurd (h x (List.mem_cons_self ..)) (by omega)
  | succ n ih =>
    intro l hd h
    by_cases hm : n ∈ l
    · have h1 := List.length_erase_of_mem hm
      have h2 := ih (l.erase n) (hd.erase n) (fun x hx => by
        rw [List.Nodup.mem_erase_iff hd] at hx
        have := h x hx.2
        omega)
      have h3 : 0 < l.length := List.length_pos_of_mem hm
      omega
    · have h2 := ih l hd (fun x hx => by
        have := h x hx
        rcases Nat.lt_succ_iff_lt_or_eq.1 this with h3 | h3
        · exact h3
        · subst h3; exact absurd hx hm)
      omega
section
variable {ns : List Node} {tb : List (List Int)} {fr O : List Int}
theorem M.Topo.all (h : M.Topo ns O) {j : Nat} (hj : j < ns.length) : ∃ t, t < O.length ∧ M.ordI O t = j := by
  rcases Classical.em (∃ t, t < O.length ∧ M.ordI O t = j) with h1 | h1
  · exact h1
  · exfalso
    have hnd : (j :: (List.range O.length).map (M.ordI O)).Nodup := by
      rw [List.nodup_cons]
      refine ⟨fun hm => ?_, ?_⟩
      · obtain ⟨t, ht, e⟩ := List.mem_map.1 hm
        exact h1 ⟨t, List.mem_range.1 ht, e⟩
      · rw [List.nodup_iff_pairwise_ne, List.pairwise_map]
        refine List.Pairwise.imp_of_mem ?_ (List.pairwise_lt_range (n := O.length))
        intro a b _ hb hab
        exact h.new a b hab (List.mem_range.1 hb)
    have := M.nodup_le ns.length _ hnd (fun x hx => by
      rcases List.mem_cons.1 hx with rfl | hx
      · exact hj
      · obtain ⟨t, ht, rfl⟩ := List.mem_map.1 hx
        have := h.rng t (List.mem_range.1 ht)
        show (M.i_ O t).toNat < _
        omega)
    simp [h.len] at this
    omega
theorem M.valN_len (cs : List (List Int)) (v0 : List Int) (t : Nat) : (M.valN ns tb fr O cs v0 t).length = v0.length := by
  induction t with
  | zero => rfl
  | succ t ih => rw [M.valN, List.length_set, ih]
theorem M.valN_at (h : M.Topo ns O) (cs : List (List Int)) (v0 : List Int) {s t t' : Nat} (hs : s < t) (ht : t ≤ t') (ht' : t' ≤ O.length) :
    M.i_ (M.valN ns tb fr O cs v0 t') (M.ordI O s) = M.i_ (M.valN ns tb fr O cs v0 t) (M.ordI O s) := by
  induction t' with
  | zero => obtain rfl : t = 0 := by omega
            rfl
  | succ q ih =>
    rcases Nat.lt_or_ge q t with h1 | h1
    · obtain rfl : t = q + 1 := by omega
      rfl
    · rw [M.valN, M.i_set_ne (fun e => h.new s q (by omega) (by omega) e.symm)]
      exact ih h1 (by omega)
theorem M.insN_congr {x : Node} {a b : List Int} (h : x.1 ≠ 1 → ∀ f ∈ x.2.2.2, M.i_ a f.toNat = M.i_ b f.toNat) : M.insN x fr a = M.insN x fr b := by
  rw [M.insN, M.insN]
  split
  · rfl
  · rename_i h1
    exact List.map_congr_left (h h1)
theorem M.waits_from {x : Node} (h : x.1 ≠ 6) : M.waits x = x.2.2.2 := by rw [M.waits, if_neg h]
theorem M.nOut_delay {x : Node} (h : x.1 = 6) (tb : List (List Int)) (a s : List Int) : M.nOut x tb a s = M.i_ s 0 := by simp [M.nOut, h]
theorem M.nNext_delay {x : Node} (h : x.1 = 6) (a s : List Int) (o o' : Int) : M.nNext x a s o = M.nNext x a s o' := by simp [M.nNext, h]
/-- Each value is the node's output of the frame's own values. -/
theorem M.vals_at (h : M.Topo ns O) (cs : List (List Int)) {t : Nat} (ht : t < O.length) :
    M.i_ (M.vals ns tb fr O cs) (M.ordI O t) = M.nOut (M.node ns (M.ordI O t)) tb (M.insN (M.node ns (M.ordI O t)) fr (M.vals ns tb fr O cs)) (M.cel cs (M.ordI O t)) := by
  have hr := h.rng t ht
  rw [M.vals, M.valN_at h cs _ (s := t) (t := t + 1) (by omega) (by omega) (Nat.le_refl _)]
  show M.i_ ((M.valN ns tb fr O cs _ t).set _ _) _ = _
  rw [M.i_set_eq (by rw [M.valN_len, List.length_replicate]; show (M.i_ O t).toNat < _; omega)]
  by_cases h6 : (M.node ns (M.ordI O t)).1 = 6
  · rw [M.nOut_delay h6, M.nOut_delay h6]
  · rw [M.insN_congr]
    intro _ f hf
    obtain ⟨s, hs, rfl⟩ := h.aft t ht f (by rw [M.waits_from h6]; exact hf)
    exact (M.valN_at h cs _ (s := s) (t := t) (t' := O.length) hs (by omega) (Nat.le_refl _)).symm
theorem M.runN_len (v0 : List Int) (c0 : List (List Int)) (t : Nat) : (M.runN ns tb fr O v0 c0 t).1.length = v0.length ∧ (M.runN ns tb fr O v0 c0 t).2.length = c0.length := by
  induction t with
  | zero => exact ⟨rfl, rfl⟩
  | succ t ih =>
    rw [M.runN]
    split
    · exact ⟨by rw [List.length_set]; exact ih.1, ih.2⟩
    · exact ⟨by rw [List.length_set]; exact ih.1, by rw [List.length_set]; exact ih.2⟩
/-- The player's values and cells are the reference's, as far as they are computed. -/
theorem M.runN_inv (h : M.Topo ns O) (v0 : List Int) (cs : List (List Int)) (hv : v0.length = ns.length) (hc : cs.length = ns.length) : ∀ t, t ≤ O.length →
    (∀ s, s < t → M.i_ (M.runN ns tb fr O v0 cs t).1 (M.ordI O s) = M.i_ (M.vals ns tb fr O cs) (M.ordI O s)) ∧
    (∀ s, s < t → (M.node ns (M.ordI O s)).1 ≠ 6 → M.cel (M.runN ns tb fr O v0 cs t).2 (M.ordI O s) = M.nNext (M.node ns (M.ordI O s)) (M.insN (M.node ns (M.ordI O s)) fr (M.vals ns tb fr O cs)) (M.cel cs (M.ordI O s)) (M.i_ (M.vals ns tb fr O cs) (M.ordI O s))) ∧
    (∀ j, ((∀ s, s < t → M.ordI O s ≠ j) ∨ (M.node ns j).1 = 6) → M.cel (M.runN ns tb fr O v0 cs t).2 j = M.cel cs j) := by
  intro t
  induction t with
  | zero => exact fun _ => ⟨fun s hs => absurd hs (by omega), fun s hs => absurd hs (by omega), fun _ _ => rfl⟩
  | succ t ih =>
    intro ht
    obtain ⟨i1, i2, i3⟩ := ih (by omega)
    obtain ⟨l1, l2⟩ := M.runN_len (ns := ns) (tb := tb) (fr := fr) (O := O) v0 cs t
    have hr := h.rng t (by omega)
    have hi : M.ordI O t < ns.length := by show (M.i_ O t).toNat < _; omega
    have hcel := i3 (M.ordI O t) (.inl fun s hs => h.new s t hs (by omega))
    have hva := M.vals_at (tb := tb) (fr := fr) h cs (t := t) (by omega)
    rw [M.runN]
    by_cases h6 : (M.node ns (M.ordI O t)).1 = 6
    · rw [if_pos h6]
      refine ⟨fun s hs => ?_, fun s hs hn => ?_, fun j hj => ?_⟩
      · rcases Nat.lt_succ_iff_lt_or_eq.1 hs with h1 | rfl
        · show M.i_ (List.set _ _ _) _ = _
          rw [M.i_set_ne (fun e => h.new s t h1 (by omega) e.symm)]
          exact i1 s h1
        · show M.i_ (List.set _ _ _) _ = _
          rw [M.i_set_eq (by omega), hcel, hva, M.nOut_delay h6]
      · rcases Nat.lt_succ_iff_lt_or_eq.1 hs with h1 | rfl
        · exact i2 s h1 hn
        · exact absurd h6 hn
      · exact i3 j (hj.imp (fun h1 s hs => h1 s (by omega)) id)
    · rw [if_neg h6]
      have hins : M.insN (M.node ns (M.ordI O t)) fr (M.runN ns tb fr O v0 cs t).1 = M.insN (M.node ns (M.ordI O t)) fr (M.vals ns tb fr O cs) := by
        refine M.insN_congr fun _ f hf => ?_
        obtain ⟨s, hs, rfl⟩ := h.aft t (by omega) f (by rw [M.waits_from h6]; exact hf)
        exact i1 s hs
      refine ⟨fun s hs => ?_, fun s hs hn => ?_, fun j hj => ?_⟩
      · rcases Nat.lt_succ_iff_lt_or_eq.1 hs with h1 | rfl
        · show M.i_ (List.set _ _ _) _ = _
          rw [M.i_set_ne (fun e => h.new s t h1 (by omega) e.symm)]
          exact i1 s h1
        · show M.i_ (List.set _ _ _) _ = _
          rw [M.i_set_eq (by omega), hcel, hins, hva]
      · rcases Nat.lt_succ_iff_lt_or_eq.1 hs with h1 | rfl
        · show M.cel (List.set _ _ _) _ = _
          rw [M.cel_set_ne (fun e => h.new s t h1 (by omega) e.symm)]
          exact i2 s h1 hn
        · show M.cel (List.set _ _ _) _ = _
          rw [M.cel_set_eq (by omega), hcel, hins, hva]
      · show M.cel (List.set _ _ _) _ = _
        rcases hj with h1 | h1
        · rw [M.cel_set_ne (h1 t (by omega))]
          exact i3 j (.inl fun s hs => h1 s (by omega))
        · rw [M.cel_set_ne (fun e => h6 (by rw [e]; exact h1))]
          exact i3 j (.inr h1)
theorem M.delN_len (vs : List Int) (c1 : List (List Int)) (t : Nat) : (M.delN ns fr vs c1 t).length = c1.length := by
  induction t with
  | zero => rfl
  | succ t ih =>
    rw [M.delN]
    split
    · rw [List.length_set, ih]
    · exact ih
theorem M.delN_at (vs : List Int) (c1 : List (List Int)) : ∀ t, t ≤ c1.length → ∀ j, M.cel (M.delN ns fr vs c1 t) j = if j < t ∧ (M.node ns j).1 = 6 then M.nNext (M.node ns j) (M.insN (M.node ns j) fr vs) (M.cel c1 j) 0 else M.cel c1 j := by
  intro t
  induction t with
  | zero => intro _ j; rw [if_neg (by omega)]; rfl
  | succ t ih =>
    intro ht j
    have hl := M.delN_len (ns := ns) (fr := fr) vs c1 t
    rw [M.delN]
    split
    · rename_i h6
      by_cases hj : t = j
      · subst hj
        rw [M.cel_set_eq (by omega), if_pos ⟨by omega, h6⟩, ih (by omega), if_neg (by omega)]
      · rw [M.cel_set_ne hj, ih (by omega)]
        by_cases hq : j < t ∧ (M.node ns j).1 = 6
        · rw [if_pos hq, if_pos ⟨by omega, hq.2⟩]
        · rw [if_neg hq, if_neg (fun e => hq ⟨by omega, e.2⟩)]
    · rename_i h6
      rw [ih (by omega)]
      by_cases hq : j < t ∧ (M.node ns j).1 = 6
      · rw [if_pos hq, if_pos ⟨by omega, hq.2⟩]
      · rw [if_neg hq, if_neg (fun e => by
          by_cases hj : j = t
          · subst hj; exact h6 e.2
          · exact hq ⟨by omega, e.2⟩)]
/-- The player's frame is the reference's. -/
theorem M.frame_eq (h : M.Topo ns O) (v0 : List Int) (cs : List (List Int)) (hv : v0.length = ns.length) (hc : cs.length = ns.length) :
    (M.runN ns tb fr O v0 cs O.length).1 = M.vals ns tb fr O cs ∧ M.delN ns fr (M.vals ns tb fr O cs) (M.runN ns tb fr O v0 cs O.length).2 ns.length = M.next_ ns tb fr O cs := by
  obtain ⟨i1, i2, i3⟩ := M.runN_inv (tb := tb) (fr := fr) h v0 cs hv hc O.length (Nat.le_refl _)
  obtain ⟨l1, l2⟩ := M.runN_len (ns := ns) (tb := tb) (fr := fr) (O := O) v0 cs O.length
  refine ⟨M.i_ext (by rw [l1, M.vals, M.valN_len, List.length_replicate, hv]) fun j hj => ?_, M.cel_ext (by rw [M.delN_len, l2, M.next_, List.length_map, List.length_range, hc]) fun j hj => ?_⟩
  · obtain ⟨t, ht, rfl⟩ := h.all (j := j) (by omega)
    exact i1 t ht
  · rw [M.delN_len, l2, hc] at hj
    have hn : M.cel (M.next_ ns tb fr O cs) j = M.nNext (M.node ns j) (M.insN (M.node ns j) fr (M.vals ns tb fr O cs)) (M.cel cs j) (M.i_ (M.vals ns tb fr O cs) j) := by simp [M.next_, M.cel, hj]
    rw [hn, M.delN_at _ _ _ (by omega)]
    obtain ⟨t, ht, rfl⟩ := h.all hj
    by_cases h6 : (M.node ns (M.ordI O t)).1 = 6
    · rw [if_pos ⟨hj, h6⟩, i3 _ (.inr h6)]
      exact M.nNext_delay h6 _ _ _ _
    · rw [if_neg (fun e => h6 e.2)]
      exact i2 t ht h6
end
/-- The order of a patch's nodes is one. -/
theorem M.next_rdy {ns : List Node} {out : List Int} {i : Nat} (h : M.next ns out = some i) : i < ns.length ∧ M.rdy ns out i = true := by
  rw [M.next, List.find?_range_eq_some] at h
  exact ⟨List.mem_range.1 h.2.1, h.1⟩
theorem M.mem_iff {xs : List Int} {m : Int} : M.mem xs m = true ↔ m ∈ xs := by
  rw [M.mem, List.any_eq_true]
  constructor
  · rintro ⟨x, hx, e⟩
    rw [decide_eq_true_eq] at e
    exact e ▸ hx
  · exact fun h => ⟨m, h, by simp⟩
/-- As far as it goes. -/
theorem M.ordN_inv (ns : List Node) : ∀ t, (M.ordN ns t).length ≤ t ∧ (∀ s, s < (M.ordN ns t).length → 0 ≤ M.i_ (M.ordN ns t) s ∧ M.i_ (M.ordN ns t) s < ns.length) ∧
    (∀ s u, s < u → u < (M.ordN ns t).length → M.ordI (M.ordN ns t) s ≠ M.ordI (M.ordN ns t) u) ∧
    (∀ u, u < (M.ordN ns t).length → ∀ f ∈ M.waits (M.node ns (M.ordI (M.ordN ns t) u)), ∃ s, s < u ∧ f = M.i_ (M.ordN ns t) s) := by
  intro t
  induction t with
  | zero => exact ⟨by simp [M.ordN], fun s hs => by simp [M.ordN] at hs, fun s u _ hu => by simp [M.ordN] at hu, fun u hu => by simp [M.ordN] at hu⟩
  | succ t ih =>
    obtain ⟨j1, j2, j3, j4⟩ := ih
    rw [M.ordN]
    cases hn : M.next ns (M.ordN ns t) with
    | none => exact ⟨Nat.le_succ_of_le j1, j2, j3, j4⟩
    | some i =>
      obtain ⟨hi, hr⟩ := M.next_rdy hn
      simp only
      generalize hO : M.ordN ns t = O at *
      have ea : ∀ s, s < O.length → M.i_ (O ++ [(i : Int)]) s = M.i_ O s := fun s hs => by simp [M.i_, List.getElem?_append_left hs]
      have eb : M.i_ (O ++ [(i : Int)]) O.length = i := by simp [M.i_]
      have hl : (O ++ [(i : Int)]).length = O.length + 1 := by simp
      rw [M.rdy, Bool.and_eq_true, Bool.not_eq_true'] at hr
      have hni : ∀ s, s < O.length → M.ordI O s ≠ i := by
        intro s hs e
        have h2 := j2 s hs
        have e2 : M.i_ O s = (i : Int) := by have : (M.i_ O s).toNat = i := e; omega
        have h3 : M.mem O i = true := M.mem_iff.2 (by
          rw [← e2]
          simp only [M.i_, List.getElem?_eq_getElem hs, Option.getD_some]
          exact List.getElem_mem hs)
        rw [hr.1] at h3
        cases h3
      refine ⟨by rw [hl]; omega, fun s hs => ?_, fun s u hsu hu => ?_, fun u hu f hf => ?_⟩
      · rw [hl] at hs
        rcases Nat.lt_succ_iff_lt_or_eq.1 hs with h1 | rfl
        · rw [ea s h1]; exact j2 s h1
        · rw [eb]; omega
      · rw [hl] at hu
        rcases Nat.lt_succ_iff_lt_or_eq.1 hu with h1 | rfl
        · show (M.i_ _ s).toNat ≠ (M.i_ _ u).toNat
          rw [ea s (by omega), ea u h1]
          exact j3 s u hsu h1
        · show (M.i_ _ s).toNat ≠ (M.i_ _ _).toNat
          rw [ea s hsu, eb]
          have := hni s hsu
          exact this
      · rw [hl] at hu
        rcases Nat.lt_succ_iff_lt_or_eq.1 hu with h1 | rfl
        · rw [show M.ordI (O ++ [(i : Int)]) u = M.ordI O u by show (M.i_ _ u).toNat = (M.i_ _ u).toNat; rw [ea u h1]] at hf
          obtain ⟨s, hs, rfl⟩ := j4 u h1 f hf
          exact ⟨s, hs, (ea s (by omega)).symm⟩
        · rw [show M.ordI (O ++ [(i : Int)]) O.length = i by show (M.i_ _ _).toNat = i; rw [eb]; omega] at hf
          have h4 := List.all_eq_true.1 hr.2 f hf
          obtain ⟨s, hs⟩ := List.getElem?_of_mem (M.mem_iff.1 h4)
          have hs2 := (List.getElem?_eq_some_iff.1 hs).1
          refine ⟨s, hs2, ?_⟩
          rw [ea s hs2, M.i_, hs]
          rfl
theorem M.ordN_le (ns : List Node) (t : Nat) : (M.ordN ns t).length ≤ ns.length := by
  obtain ⟨_, j2, j3, _⟩ := M.ordN_inv ns t
  have h := M.nodup_le ns.length ((List.range (M.ordN ns t).length).map (M.ordI (M.ordN ns t))) (by
    rw [List.nodup_iff_pairwise_ne, List.pairwise_map]
    refine List.Pairwise.imp_of_mem ?_ (List.pairwise_lt_range (n := (M.ordN ns t).length))
    intro a b _ hb hab
    exact j3 a b hab (List.mem_range.1 hb)) (fun x hx => by
      obtain ⟨u, hu, rfl⟩ := List.mem_map.1 hx
      have := j2 u (List.mem_range.1 hu)
      show (M.i_ _ u).toNat < _
      omega)
  simpa using h
theorem M.topo {ns : List Node} (h : (M.ord ns).length = ns.length) : M.Topo ns (M.ord ns) := by
  obtain ⟨_, j2, j3, j4⟩ := M.ordN_inv ns ns.length
  exact ⟨h, j2, j3, j4⟩
end Go.Proofs.YtacgcagpaecncaaGreat
namespace Go.Proofs.YtacgcagpaecncaaGreat
open Go.RowKit Go.Sort
set_option maxHeartbeats 4000000
set_option maxRecDepth 100000
set_option linter.unusedVariables false
set_option linter.unusedSimpArgs false
set_option synthInstance.maxSize 2000
set_option synthInstance.maxHeartbeats 400000
theorem impl_size_impl_Node (A : Option Addr) (n c : Nat) (w : World) : Calls Tryz.prog 151 #[.slice A n c] w fun e w' => e = .returned (.int .i64 n) ∧ w = w' := by
  go_enter Tryz.func151, Tryz.ntmps151
  go_wp2
  go_ret
  exact ⟨rfl, rfl⟩
theorem impl_waitsFor (a0 a1 a2 : Int) (A : Option Addr) (c : Nat) (xs : List Int) (w : World) (hx : RI w w.heap.size A xs.length xs) :
    Calls Tryz.prog 155 #[.agg #[.int .i64 a0, .int .i64 a1, .int .i64 a2, .slice A xs.length c]] w fun e w' => ∃ A' c', e = .returned (.slice A' (M.waits (a0, a1, a2, xs)).length c') ∧ RI w' w'.heap.size A' (M.waits (a0, a1, a2, xs)).length (M.waits (a0, a1, a2, xs)) ∧ Below w.heap.size w w' := by
  obtain ⟨W, hW⟩ : ∃ W, W = w.alloc (.cells #[.int .i64 a0, .int .i64 a1, .int .i64 a2, .slice A xs.length c] 70) := ⟨_, rfl⟩
  have B0 : Below w.heap.size w W := by rw [hW]; exact (Below.refl _ _).alloc (Nat.le_refl _) _
  have p0 : W.cell? ⟨w.heap.size, 0, none⟩ = some (.int .i64 a0) := by rw [hW]; simp [go_sem]
  have p3 : W.cell? ⟨w.heap.size, 3, none⟩ = some (.slice A xs.length c) := by rw [hW]; simp [go_sem]
  have hx1 := hx.later B0
  have HU := Lib.hid hW
  clear hW
  by_cases h : a0 = 6
  · have HW := Lib.hid (show M.waits (a0, a1, a2, xs) = [] by rw [M.waits, if_pos h])
    rw [HW.out]
    subst h
    go_enter Tryz.func155, Tryz.ntmps155
    go_wp2_with fail
    try rw [← HU.out]
    go_ret
    exact ⟨_, _, rfl, RI.nil _ _ _, B0⟩
  · have HW := Lib.hid (show M.waits (a0, a1, a2, xs) = xs by rw [M.waits, if_neg h])
    rw [HW.out]
    have g : (a0 == 6) = false := by simpa using h
    go_enter Tryz.func155, Tryz.ntmps155
    go_wp2_with fail
    try rw [← HU.out]
    go_wp2_with fail
    go_ret
    exact ⟨_, _, rfl, hx1, B0⟩
def ebl (b : Bool) : List Value := [.bool b]
theorem ebl_len (b : Bool) : (ebl b).length = 1 := rfl
theorem ei_bl : EI Tryz.prog 181 4 (.bool false) 1 1 := ⟨Tryz.underlying181, by kernel_rfl, rfl, by decide⟩
/-- The marks of the nodes that an order holds. -/
def M.tk (n : Nat) (O : List Int) : List Bool := (List.range n).map fun (i : Nat) => M.mem O (i : Int)
theorem M.tk_len (n : Nat) (O : List Int) : (M.tk n O).length = n := by simp [M.tk]
theorem M.tk_at {n : Nat} {O : List Int} {k : Nat} (h : k < n) : (M.tk n O)[k]? = some (M.mem O (k : Int)) := by simp [M.tk, h]
theorem M.tk_set {n : Nat} {O : List Int} {k : Nat} : (M.tk n O).set k true = M.tk n (O ++ [(k : Int)]) := by
  apply List.ext_getElem (by simp [M.tk])
  intro i h1 h2
  have hi : i < n := by simpa [M.tk] using h2
  by_cases hik : k = i
  · subst hik
    simp [M.tk, M.mem_app]
  · rw [List.getElem_set_ne hik]
    simp only [M.tk, List.getElem_map, List.getElem_range, M.mem_app]
    rw [show decide ((k : Int) = (i : Int)) = false by simp; omega, Bool.or_false]
theorem M.tk_nil (n : Nat) : M.tk n [] = List.replicate n false := by
  apply List.ext_getElem (by simp [M.tk])
  intro i h1 h2
  simp [M.tk, M.mem_nil]
def bN : Value → Nat
  | .bool true => 1
  | _ => 0
theorem impl_order (a0 : Int) (A1 : Option Addr) (n1 c1 : Nat) (A2 : Option Addr) (n2 c2 : Nat) (A3 : Option Addr) (n3 c3 : Nat) (ns : List Node) (w : World) (hx : RS tN w w.heap.size (.slice A2 n2 c2) ns) (hb : hNS.sz ns ≤ 100000000)
    (hid : Hid (∀ x ∈ ns, ∀ f ∈ x.2.2.2, M.idx n2 f = true)) :
    Calls Tryz.prog 135 #[.agg #[.int .i64 a0, .slice A1 n1 c1, .slice A2 n2 c2, .slice A3 n3 c3]] w (Ret1 2 w (M.ord ns)) := by
  have hl := Lib.hid hx.cap.1
  have hnb : n2 ≤ 100000000 := by have e : ns.length + hN.szL ns = hNS.sz ns := rfl; have := hl.out; omega
  obtain ⟨W, hW⟩ : ∃ W, W = w.alloc (.cells #[.int .i64 a0, .slice A1 n1 c1, .slice A2 n2 c2, .slice A3 n3 c3] 68) := ⟨_, rfl⟩
  have B0 : Below w.heap.size w W := by rw [hW]; exact (Below.refl _ _).alloc (Nat.le_refl _) _
  have p2 : W.cell? ⟨w.heap.size, 2, none⟩ = some (.slice A2 n2 c2) := by rw [hW]; simp [go_sem]
  have lW : w.heap.size < W.heap.size := by rw [hW]; simp
  have HW := Lib.hid hW
  clear hW
  go_enter Tryz.func135, Tryz.ntmps135
  go_wp2_with (at_make; rw [← HW.out]; refine wpList_mk ei_bl rfl _ _ rfl n2 _ _ rfl rfl rfl rfl (by omega) (by unfold maxLen; omega) ?_; intro w1 own1 bel1)
  have hs1 : W.heap.size < w1.heap.size := (World.ownsRow.lt own1 _ rfl).2
  have owt : OA ebl 4 1 W.heap.size (W.heap.size + 1) w1 (.slice (some ⟨W.heap.size, 0, none⟩) n2 n2) (M.tk n2 []) := by
    rw [M.tk_nil]
    exact OA.made ebl_len (by decide) rfl own1 (fun k hk => by simp only [Value.ownBlock, Option.some.injEq] at hk; omega)
  have q2 : w1.cell? ⟨w.heap.size, 2, none⟩ = some (.slice A2 n2 c2) := by rw [bel1.cell (by show w.heap.size < W.heap.size; omega)]; exact p2
  have B1 := bel_trans B0 bel1
  have O0 : OI 2 w1.heap.size (w1.alloc (.cells #[] 2)) (.slice (some ⟨w1.heap.size, 0, none⟩) 0 0) [] := OI.made _ w1
  have B2 : Below w.heap.size w (w1.alloc (.cells #[] 2)) := B1.alloc B1.size _
  have M2 : Below w1.heap.size w1 (w1.alloc (.cells #[] 2)) := (Below.refl _ _).alloc (Nat.le_refl _) _
  have owt2 := owt.below M2 (by omega)
  have q22 : (w1.alloc (.cells #[] 2)).cell? ⟨w.heap.size, 2, none⟩ = some (.slice A2 n2 c2) := by rw [M2.cell (by show w.heap.size < w1.heap.size; omega)]; exact q2
  have hz2 : w1.heap.size ≤ (w1.alloc (.cells #[] 2)).heap.size := M2.size
  clear own1 bel1 p2 owt q2 M2
  go_loopw [4, 5] (fun v f wr => ∃ (t : Nat) (O : List Int), t ≤ n2 ∧ Hid (O = M.ordN ns t) ∧ Hid (O.length = t) ∧ OI 2 w1.heap.size wr v O ∧ OA ebl 4 1 W.heap.size (W.heap.size + 1) wr (.slice (some ⟨W.heap.size, 0, none⟩) n2 n2) (M.tk n2 O) ∧ Below w.heap.size w wr ∧ wr.cell? ⟨w.heap.size, 2, none⟩ = some (.slice A2 n2 c2) ∧ w1.heap.size ≤ wr.heap.size ∧ (f = .bool true ∨ (f = .bool false ∧ Hid (M.ord ns = O)))) (fun v f _ => 2 * (n2 - slLen v) + bN f)
  case atStart => exact ⟨0, [], by omega, Lib.hid rfl, Lib.hid rfl, O0, owt2, B2, q22, hz2, .inl rfl⟩
  case round =>
    obtain ⟨t, O, ht, HO, HL, own, owk, Bw, r2, hwz, hor⟩ := hrel
    obtain ⟨A5, c5, rfl, hri⟩ := own.shape
    rw [HL.out] at own hri ⊢
    rcases hor with rfl | ⟨rfl, HR⟩
    · go_wp2_with fail
      obtain ⟨wo, rfl⟩ : ∃ wo : World, wo = wr := ⟨_, rfl⟩
      go_loopw [4, 5, 20] (fun v f i wr => ∃ k : Nat, v = .slice A5 t c5 ∧ f = .bool false ∧ i = .int .i64 k ∧ k ≤ n2 ∧ Hid (∀ j, j < k → M.rdy ns O j = false) ∧ Below wo.heap.size wo wr) (fun _ _ i _ => n2 - (intOf i).toNat)
      case atStart => exact ⟨0, rfl, rfl, rfl, by omega, Lib.hid (by omega), Below.refl _ _⟩
      case round =>
        obtain ⟨k, rfl, rfl, rfl, hk, H, Bo⟩ := hrel
        have BB := bel_trans Bw Bo
        have lo0 : w.heap.size < wo.heap.size := by omega
        by_cases hlt : k < n2
        · obtain ⟨bb, o1, b0, b1, b2, A6, c6, x3, rfl, hbb, X, e0, e1, e2, e3, hr3, h3b⟩ := node_cell (hx.below BB) hb hlt
          have hrdy := Lib.hid (M.rdy_at (out := O) X.out)
          obtain ⟨U, hU⟩ : ∃ U, U = wr.alloc (.cells #[.int .i64 b0, .int .i64 b1, .int .i64 b2, .slice A6 x3.length c6] 70) := ⟨_, rfl⟩
          have GU : Below wr.heap.size wr U := by rw [hU]; exact (Below.refl _ _).alloc (Nat.le_refl _) _
          have u0 : U.cell? ⟨wr.heap.size, 0, none⟩ = some (.int .i64 b0) := by rw [hU, cell_of_row _ wr.heap.size 0 _ 70 (0, 0) (heap_alloc_new wr _)]; rfl
          have u1 : U.cell? ⟨wr.heap.size, 1, none⟩ = some (.int .i64 b1) := by rw [hU, cell_of_row _ wr.heap.size 1 _ 70 (0, 0) (heap_alloc_new wr _)]; rfl
          have u2 : U.cell? ⟨wr.heap.size, 2, none⟩ = some (.int .i64 b2) := by rw [hU, cell_of_row _ wr.heap.size 2 _ 70 (0, 0) (heap_alloc_new wr _)]; rfl
          have u3 : U.cell? ⟨wr.heap.size, 3, none⟩ = some (.slice A6 x3.length c6) := by rw [hU, cell_of_row _ wr.heap.size 3 _ 70 (0, 0) (heap_alloc_new wr _)]; rfl
          have HU := Lib.hid hU
          clear hU
          have BoU := bel_trans Bo GU
          have hrx := (hr3.more BB.size).later GU
          have owU := (owk.below BoU (by omega))
          have tc := (OA.cell ebl_len (owk.below Bo (by omega)) (M.tk_at (O := O) hlt) (j := 0) rfl).1
          rw [Nat.mul_one, Nat.add_zero] at tc
          have lWr : W.heap.size < wr.heap.size := by have := Bo.size; omega
          have HF := Lib.hid (fun f (hf : f ∈ M.waits (b0, b1, b2, x3)) => M.inn_iff.1 (hid.out _ (List.mem_of_getElem? X.out) f (by
            rw [M.waits] at hf
            split at hf
            · cases hf
            · exact hf)))
          have hwl : (M.waits (b0, b1, b2, x3)).length ≤ 1000000000 := by unfold M.waits; split <;> simp <;> omega
          have HK := Lib.hid (show M.node ns k = (b0, b1, b2, x3) by rw [M.node, X.out]; rfl)
          generalize hws : M.waits (b0, b1, b2, x3) = ws at hrdy HF hwl
          have HWS := Lib.hid hws
          clear hws
          have hk0 : (0 : Int) ≤ (k : Int) := by omega
          have hkn : (k : Int) < (n2 : Int) := by omega
          go_wp2_with fail
          rw [← HU.out]
          refine (impl_waitsFor _ _ _ _ _ _ U hrx).mono ?_
          rw [HWS.out]
          rintro e w4 ⟨A7, c7, rfl, hr7, bel4⟩
          have ow4 := owU.below bel4 (by have := BoU.size; omega)
          go_wp2_with fail
          go_loop [8, 33] (fun r i => ∃ (q : Nat) (b : Bool), i = .int .i64 q ∧ q ≤ ws.length ∧ r = .bool b ∧ Hid ((!M.mem O k && ws.all (M.mem O)) = (b && (ws.drop q).all (M.mem O)))) (fun _ i => ws.length - (intOf i).toNat)
          case atStart => exact ⟨0, _, rfl, by omega, rfl, Lib.hid (by simp)⟩
          case round =>
            obtain ⟨q, b, rfl, hq, rfl, HQ⟩ := hrel
            by_cases hlt2 : q < ws.length
            · obtain ⟨ad, f, rfl, hab, Y, hc⟩ := hr7.at hlt2
              have hd := Lib.hid (M.drop_at Y.out)
              have hfb := HF.out f (List.mem_of_getElem? Y.out)
              obtain ⟨m, rfl⟩ : ∃ m : Nat, f = (m : Int) := ⟨f.toNat, by omega⟩
              have hm : m < n2 := by omega
              have tm := (OA.cell ebl_len ow4 (M.tk_at (O := O) hm) (j := 0) rfl).1
              rw [Nat.mul_one, Nat.add_zero] at tm
              have hm0 : (0 : Int) ≤ (m : Int) := by omega
              have hmn : (m : Int) < (n2 : Int) := by omega
              cases b
              · have R := Lib.hid (show (!M.mem O k && ws.all (M.mem O)) = (false && (ws.drop (q + 1)).all (M.mem O)) by rw [HQ.out, Bool.false_and, Bool.false_and])
                go_wp2
                go_round
                case rel => exact ⟨q + 1, false, by go_num, by omega, rfl, R⟩
                case measure => simp [intOf]; omega
              · have R := Lib.hid (show (!M.mem O k && ws.all (M.mem O)) = (M.mem O m && (ws.drop (q + 1)).all (M.mem O)) by rw [HQ.out, hd.out, List.all_cons, Bool.true_and])
                go_wp2
                go_round
                case rel => exact ⟨q + 1, _, by go_num, by omega, rfl, R⟩
                case measure => simp [intOf]; omega
            · have HB := Lib.hid (show M.rdy ns O k = b by rw [hrdy.out, HQ.out, List.drop_eq_nil_of_le (by omega)]; simp)
              have B4 := bel_trans BoU bel4
              have BW4 := bel_trans Bw B4
              cases b
              · go_wp2
                go_roundw
                case rel => exact ⟨k + 1, rfl, rfl, by go_num, by omega, Lib.hid (fun j hj => by rcases Nat.lt_succ_iff_lt_or_eq.1 hj with h | h; exact H.out j h; rw [h]; exact HB.out), B4⟩
                case measure => simp [intOf]; omega
              · have HN := Lib.hid (show O ++ [(k : Int)] = M.ordN ns (t + 1) by
                  have e := M.next_some (ns := ns) (out := O) (i := k) (by rw [hl.out]; exact hlt) HB.out H.out
                  rw [M.ordN_some (i := k) (by rw [← HO.out]; exact e), ← HO.out])
                have HL2 := Lib.hid (show (O ++ [(k : Int)]).length = t + 1 by rw [List.length_append, HL.out]; rfl)
                have htn : t + 1 ≤ n2 := by
                  have := M.ordN_le ns (t + 1)
                  rw [← HN.out, HL2.out, hl.out] at this
                  exact this
                have tkk := (OA.cell ebl_len ow4 (M.tk_at (O := O) hlt) (j := 0) rfl)
                rw [Nat.mul_one, Nat.add_zero] at tkk
                have tk1 := tkk.1
                have tk2 := tkk.2
                obtain ⟨ows, ms⟩ := OA.set ebl_len ow4 (M.tk_at (O := O) hlt) (j := 0) (y := true) (u := .bool true) (by decide) rfl
                rw [show k * 1 + 0 = k by omega, M.tk_set] at ows
                rw [show k * 1 + 0 = k by omega] at ms
                have own4 := own.below B4
                have own5 : OI 2 w1.heap.size (w4.setCell ⟨W.heap.size, k, none⟩ (.bool true)) (.slice A5 t c5) O := by
                  unfold OI at own4 ⊢
                  exact World.ownsRow.kept own4 (grown_setCell _ _ _ _) (by
                    cases hv : (Value.slice A5 t c5).ownBlock with
                    | none => exact .inl rfl
                    | some g =>
                      refine .inr fun e => ?_
                      injection e with e
                      have := (World.ownsRow.lt own4 g hv).1
                      omega)
                have BS : Below w.heap.size w4 (w4.setCell ⟨W.heap.size, k, none⟩ (.bool true)) := (ms.toBelow (by have := B4.size; omega)).mono (by omega)
                have r5 : (w4.setCell ⟨W.heap.size, k, none⟩ (.bool true)).cell? ⟨w.heap.size, 2, none⟩ = some (.slice (some ⟨bb, o1, none⟩) n2 c2) := by
                  rw [(ms.toBelow (by have := B4.size; omega)).cell (p := ⟨w.heap.size, 2, none⟩) (by show w.heap.size < W.heap.size; omega), B4.cell (p := ⟨w.heap.size, 2, none⟩) lo0]
                  exact r2
                have hOl : O.length ≤ t := by rw [HL.out]; omega
                have hOl2 : t ≤ O.length := by rw [HL.out]; omega
                have hz5 : w1.heap.size ≤ (w4.setCell ⟨W.heap.size, k, none⟩ (.bool true)).heap.size := by have := B4.size; simp; omega
                obtain ⟨V, hV⟩ : ∃ V, V = w4.setCell ⟨W.heap.size, k, none⟩ (.bool true) := ⟨_, rfl⟩
                have HV := Lib.hid hV
                have hvz : V.heap.size = w4.heap.size := by rw [hV]; simp
                rw [← hV] at ows own5 BS r5 hz5
                clear hV ms own4
                go_wp2_with (at_builtin; rw [← HV.out]; refine wpList_push1 ei_i64 rfl _ _ rfl own5 rfl (by rw [hvz]; rfl) rfl (by unfold maxLen; omega) (by omega) hz5 ?_; intro v1 w6 own6 gr6 bel6)
                go_roundw
                case rel => exact ⟨t + 1, O ++ [(k : Int)], htn, HN, HL2, OI.push own6, (ows.same (fun b h1 h2 => bel6.block b (by omega))), (BW4.trans BS).trans (bel6.mono (by omega)), by rw [bel6.cell (p := ⟨w.heap.size, 2, none⟩) (by show w.heap.size < w1.heap.size; omega)]; exact r5, by have := bel6.size; omega, .inl rfl⟩
                case measure => obtain ⟨A9, c9, rfl, -⟩ := (OI.push own6).shape; rw [HL2.out]; simp [slLen, bN]; omega
        · have hno := M.next_none (ns := ns) (out := O) (fun j hj => H.out j (by rw [hl.out] at hj; omega))
          have HR := Lib.hid (show M.ord ns = O by rw [HO.out]; exact M.ord_end (by rw [hl.out]; exact ht) (by rw [← HO.out]; exact hno))
          have r3 : wr.cell? ⟨w.heap.size, 2, none⟩ = some (.slice A2 n2 c2) := by rw [Bo.cell (p := ⟨w.heap.size, 2, none⟩) lo0]; exact r2
          have own3 := own.below Bo
          have owk3 := owk.below Bo (by omega)
          have hz3 := Bo.size
          clear hno
          go_wp2
          go_roundw
          case rel => exact ⟨t, O, ht, HO, HL, own3, owk3, BB, r3, by omega, .inr ⟨rfl, HR⟩⟩
          case measure => simp [slLen, bN]
    · go_wp2
      go_ret
      rw [HR.out]
      rw [← HL.out] at own ⊢
      exact ⟨_, rfl, own.base (by omega), Bw⟩
end Go.Proofs.YtacgcagpaecncaaGreat
