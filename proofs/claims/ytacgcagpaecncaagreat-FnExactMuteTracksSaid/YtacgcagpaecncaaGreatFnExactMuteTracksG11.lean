import Derived.Test.YtacgcagpaecncaaGreatFnExactMuteTracksG10
import Derived.Lib.QuietBelow
import Derived.Test.YtacgcagpaecncaaGreatFnExactMuteTracksG5
import Derived.Test.YtacgcagpaecncaaGreatFnExactMuteTracksG6
import Derived.Test.YtacgcagpaecncaaGreatFnExactMuteTracksG3
import Derived.Test.YtacgcagpaecncaaGreatFnExactMuteTracksG4
set_option linter.unusedVariables false
set_option linter.unusedSimpArgs false
namespace Go.Proofs.YtacgcagpaecncaaGreat
open Go.RowKit Go.Sort
set_option maxHeartbeats 4000000
set_option maxRecDepth 100000
set_option linter.unusedVariables false
set_option linter.unusedSimpArgs false
set_option synthInstance.maxSize 2000
set_option synthInstance.maxHeartbeats 400000
theorem impl_LinearKind (k : Int) (w : World) : Calls Tryz.prog 36 #[.int .i64 k] w fun e w' => e = .returned (.bool (M.lin k)) ∧ Below w.heap.size w w' := by
  cases h : M.inn k 1 17
  · have R := Lib.hid (show M.lin k = false by rw [M.lin, h]; rfl)
    have HI := Lib.hid h
    clear h
    go_enter Tryz.func36, Tryz.ntmps36
    go_wp2_with (go_at_call 75; refine (impl_isKind _ _).mono ?_; rw [HI.out]; rintro e w' ⟨rfl, rfl⟩)
    go_ret
    exact ⟨ret_bool (by rw [R.out]), Below.refl _ _⟩
  · have hr := M.inn_iff.1 h
    obtain ⟨j, hj⟩ : ∃ j : Nat, j = k.toNat - 1 := ⟨_, rfl⟩
    have hj17 : j < 17 := by omega
    have hja : IntKind.i64.wrap (k - 1) = (j : Int) := by rw [IntWalk.i64_in _ (by omega)]; omega
    have hj0 : (0 : Int) ≤ (j : Int) := by omega
    have hj1 : (j : Int) < 17 := by omega
    have R := Lib.hid (show M.lin k = (M.kd j).2.2.2.1 by rw [M.lin, h, ← hj]; rfl)
    have HI := Lib.hid h
    clear hj h
    go_enter Tryz.func36, Tryz.ntmps36
    go_wp2_with (first
      | (go_at_call 75; refine (impl_isKind _ _).mono ?_; rw [HI.out]; rintro e w' ⟨rfl, rfl⟩)
      | (go_at_call 76; refine (impl_kinds _).mono ?_; rintro e w2 ⟨g, rfl, hg0, hg1, KC, bel2⟩; obtain ⟨k0, k1, k2, k3, k4, k5⟩ := KC j hj17; clear k0 k1 k2 k3 k5 KC))
    go_ret
    exact ⟨ret_bool (by rw [R.out]), bel2⟩
theorem spec_l27Linear (b o : Nat) (A2 : Option Addr) (n2 c2 : Nat) (x2 : List Node) (w : World) (p2 : w.cell? ⟨b, o + 2, none⟩ = some (.slice A2 n2 c2)) (h2 : tNS.R w w.heap.size [.slice A2 n2 c2] x2) (hb2 : hNS.sz x2 ≤ 100000000) :
    Calls Tryz.prog 35 #[.pointer (some ⟨b, o, none⟩)] w fun e w' => e = .returned (.bool (x2.all fun x => M.lin x.1)) ∧ Below w.heap.size w w' := by
  have lx : b < w.heap.size := World.block_lt_of_cell? w _ p2
  have r2 := sl_R.1 h2
  have L2 := Lib.hid r2.cap.1
  have bn2 : n2 ≤ 100000000 := by have e : x2.length + hN.szL x2 = hNS.sz x2 := rfl; have := L2.out; omega
  obtain ⟨ok, hok⟩ : ∃ ok, ok = x2.all fun x => M.lin x.1 := ⟨_, rfl⟩
  have HS := Lib.hid hok
  rw [← hok]
  clear hok
  go_enter Tryz.func35, Tryz.ntmps35
  go_wp2_with fail
  go_loopw [3] (fun i wr => ∃ k : Nat, i = .int .i64 k ∧ k ≤ n2 ∧ Hid (ok = (x2.drop k).all fun x => M.lin x.1) ∧ Below w.heap.size w wr) (fun i _ => n2 - (intOf i).toNat)
  case atStart => exact ⟨0, rfl, by omega, Lib.hid HS.out, Below.refl _ _⟩
  case round =>
    obtain ⟨k, rfl, hk, H, Bw⟩ := hrel
    have q2 : wr.cell? ⟨b, o + 2, none⟩ = some (.slice A2 n2 c2) := by rw [Bw.cell lx]; exact p2
    by_cases hlt : k < n2
    · obtain ⟨bb, o1, b0, b1, b2, A5, c5, y3, rfl, hbb, X, e0, e1, e2, e3, hr3, h3b⟩ := node_cell (r2.below Bw) hb2 hlt
      have hd := Lib.hid (M.drop_at X.out)
      have hk0 : (0 : Int) ≤ (k : Int) := by omega
      have hkn : (k : Int) < (n2 : Int) := by omega
      cases hl : M.lin b0
      · have R := Lib.hid (show ok = false by rw [H.out, hd.out, List.all_cons, hl]; rfl)
        have HL := Lib.hid (show M.linS b0 = false by rw [M.lin_eq, hl])
        clear hl
        go_wp2_with (go_at_call 74; refine (spec_l06Linear _ _).mono ?_; rw [HL.out]; rintro e w2 ⟨rfl, bel2⟩)
        go_ret
        exact ⟨ret_bool (by rw [R.out]), bel_trans Bw bel2⟩
      · have R := Lib.hid (show ok = (x2.drop (k + 1)).all fun x => M.lin x.1 by rw [H.out, hd.out, List.all_cons, hl]; rfl)
        have HL := Lib.hid (show M.linS b0 = true by rw [M.lin_eq, hl])
        clear hl
        go_wp2_with (go_at_call 74; refine (spec_l06Linear _ _).mono ?_; rw [HL.out]; rintro e w2 ⟨rfl, bel2⟩)
        go_roundw
        case rel => exact ⟨k + 1, by go_num, by omega, R, bel_trans Bw bel2⟩
        case measure => simp [intOf]; omega
    · have R := Lib.hid (show ok = true by rw [H.out, List.drop_eq_nil_of_le (by rw [L2.out]; omega)]; rfl)
      go_wp2
      go_ret
      exact ⟨ret_bool (by rw [R.out]), Bw⟩
theorem impl_ValidSession (a0 : Int) (A1 : Option Addr) (n1 c1 : Nat) (A2 : Option Addr) (n2 c2 : Nat) (A3 : Option Addr) (n3 c3 : Nat) (A4 : Option Addr) (n4 c4 : Nat) (A5 : Option Addr) (n5 c5 : Nat) (x1 : List (List Int)) (x2 : List (List Clip_)) (x3 : List Int) (x4 : List Patch) (x5 : List Strip) (w : World) (h1 : tSS.R w w.heap.size [.slice A1 n1 c1] x1) (h2 : tTS.R w w.heap.size [.slice A2 n2 c2] x2) (h3 : tS.R w w.heap.size [.slice A3 n3 c3] x3) (h4 : tPS.R w w.heap.size [.slice A4 n4 c4] x4) (h5 : tM.R w w.heap.size [.slice A5 n5 c5] x5) (hn : hZ.sz ((a0, x1, x2, x3, x4, x5) : Sess) ≤ 100000000) :
    Calls Tryz.prog 9 #[.agg #[.int .i64 a0, .slice A1 n1 c1, .slice A2 n2 c2, .slice A3 n3 c3, .slice A4 n4 c4, .slice A5 n5 c5]] w fun e w' => e = .returned (.bool (M.sessOk (a0, x1, x2, x3, x4, x5))) ∧ Below w.heap.size w w' := by
  obtain ⟨W, hW⟩ : ∃ W, W = w.alloc (.cells #[.int .i64 a0, .slice A1 n1 c1, .slice A2 n2 c2, .slice A3 n3 c3, .slice A4 n4 c4, .slice A5 n5 c5] 39) := ⟨_, rfl⟩
  have B0 : Below w.heap.size w W := by rw [hW]; exact (Below.refl _ _).alloc (Nat.le_refl _) _
  have p0 : W.cell? ⟨w.heap.size, 0, none⟩ = some (.int .i64 a0) := by rw [hW]; simp [go_sem]
  have p1 : W.cell? ⟨w.heap.size, 1, none⟩ = some (.slice A1 n1 c1) := by rw [hW]; simp [go_sem]
  have p2 : W.cell? ⟨w.heap.size, 2, none⟩ = some (.slice A2 n2 c2) := by rw [hW]; simp [go_sem]
  have p3 : W.cell? ⟨w.heap.size, 3, none⟩ = some (.slice A3 n3 c3) := by rw [hW]; simp [go_sem]
  have p4 : W.cell? ⟨w.heap.size, 4, none⟩ = some (.slice A4 n4 c4) := by rw [hW]; simp [go_sem]
  have p5 : W.cell? ⟨w.heap.size, 5, none⟩ = some (.slice A5 n5 c5) := by rw [hW]; simp [go_sem]
  have lx : w.heap.size < W.heap.size := by rw [hW]; simp
  have HW := Lib.hid hW
  clear hW
  have k1 := tSS.later h1 B0
  have k2 := tTS.later h2 B0
  have k3 := tS.later h3 B0
  have k4 := tPS.later h4 B0
  have k5 := tM.later h5 B0
  go_enter Tryz.func9, Tryz.ntmps9
  go_wp2_with fail
  rw [← HW.out]
  refine (impl_isSession _ _ _ _ _ _ _ _ _ _ _ _ _ _ _ _ _ _ _ _ _ W k1 k2 k3 k4 k5 hn).mono ?_
  rintro e w2 ⟨rfl, bel2⟩
  go_wp2
  go_ret
  exact ⟨rfl, bel_trans B0 bel2⟩
theorem spec_ValidSession (a0 : Int) (A1 : Option Addr) (n1 c1 : Nat) (A2 : Option Addr) (n2 c2 : Nat) (A3 : Option Addr) (n3 c3 : Nat) (A4 : Option Addr) (n4 c4 : Nat) (A5 : Option Addr) (n5 c5 : Nat) (x1 : List (List Int)) (x2 : List (List Clip_)) (x3 : List Int) (x4 : List Patch) (x5 : List Strip) (w : World) (h1 : tSS.R w w.heap.size [.slice A1 n1 c1] x1) (h2 : tTS.R w w.heap.size [.slice A2 n2 c2] x2) (h3 : tS.R w w.heap.size [.slice A3 n3 c3] x3) (h4 : tPS.R w w.heap.size [.slice A4 n4 c4] x4) (h5 : tM.R w w.heap.size [.slice A5 n5 c5] x5) (hn : hZ.sz ((a0, x1, x2, x3, x4, x5) : Sess) ≤ 100000000) :
    Calls Tryz.prog 7 #[.agg #[.int .i64 a0, .slice A1 n1 c1, .slice A2 n2 c2, .slice A3 n3 c3, .slice A4 n4 c4, .slice A5 n5 c5]] w fun e w' => e = .returned (.bool (M.sessOk (a0, x1, x2, x3, x4, x5))) ∧ Below w.heap.size w w' := by
  obtain ⟨W, hW⟩ : ∃ W, W = w.alloc (.cells #[.int .i64 a0, .slice A1 n1 c1, .slice A2 n2 c2, .slice A3 n3 c3, .slice A4 n4 c4, .slice A5 n5 c5] 39) := ⟨_, rfl⟩
  have B0 : Below w.heap.size w W := by rw [hW]; exact (Below.refl _ _).alloc (Nat.le_refl _) _
  have p0 : W.cell? ⟨w.heap.size, 0, none⟩ = some (.int .i64 a0) := by rw [hW]; simp [go_sem]
  have p1 : W.cell? ⟨w.heap.size, 1, none⟩ = some (.slice A1 n1 c1) := by rw [hW]; simp [go_sem]
  have p2 : W.cell? ⟨w.heap.size, 2, none⟩ = some (.slice A2 n2 c2) := by rw [hW]; simp [go_sem]
  have p3 : W.cell? ⟨w.heap.size, 3, none⟩ = some (.slice A3 n3 c3) := by rw [hW]; simp [go_sem]
  have p4 : W.cell? ⟨w.heap.size, 4, none⟩ = some (.slice A4 n4 c4) := by rw [hW]; simp [go_sem]
  have p5 : W.cell? ⟨w.heap.size, 5, none⟩ = some (.slice A5 n5 c5) := by rw [hW]; simp [go_sem]
  have lx : w.heap.size < W.heap.size := by rw [hW]; simp
  have HW := Lib.hid hW
  clear hW
  have k1 := tSS.later h1 B0
  have k2 := tTS.later h2 B0
  have k3 := tS.later h3 B0
  have k4 := tPS.later h4 B0
  have k5 := tM.later h5 B0
  go_enter Tryz.func7, Tryz.ntmps7
  go_wp2_with fail
  rw [← HW.out]
  refine (spec_l27Ok _ _ _ _ _ _ _ _ _ _ _ _ _ _ _ _ _ _ _ _ _ _ W p0 p1 p2 p3 p4 p5 k1 k2 k3 k4 k5 hn).mono ?_
  rintro e w2 ⟨rfl, bel2⟩
  go_wp2
  go_ret
  exact ⟨rfl, bel_trans B0 bel2⟩
theorem impl_IsLinearSession (a0 : Int) (A1 : Option Addr) (n1 c1 : Nat) (A2 : Option Addr) (n2 c2 : Nat) (A3 : Option Addr) (n3 c3 : Nat) (A4 : Option Addr) (n4 c4 : Nat) (A5 : Option Addr) (n5 c5 : Nat) (x1 : List (List Int)) (x2 : List (List Clip_)) (x3 : List Int) (x4 : List Patch) (x5 : List Strip) (w : World) (h1 : tSS.R w w.heap.size [.slice A1 n1 c1] x1) (h2 : tTS.R w w.heap.size [.slice A2 n2 c2] x2) (h3 : tS.R w w.heap.size [.slice A3 n3 c3] x3) (h4 : tPS.R w w.heap.size [.slice A4 n4 c4] x4) (h5 : tM.R w w.heap.size [.slice A5 n5 c5] x5) (hn : hZ.sz ((a0, x1, x2, x3, x4, x5) : Sess) ≤ 100000000) :
    Calls Tryz.prog 12 #[.agg #[.int .i64 a0, .slice A1 n1 c1, .slice A2 n2 c2, .slice A3 n3 c3, .slice A4 n4 c4, .slice A5 n5 c5]] w fun e w' => e = .returned (.bool (M.linSess (a0, x1, x2, x3, x4, x5))) ∧ Below w.heap.size w w' := by
  obtain ⟨W, hW⟩ : ∃ W, W = w.alloc (.cells #[.int .i64 a0, .slice A1 n1 c1, .slice A2 n2 c2, .slice A3 n3 c3, .slice A4 n4 c4, .slice A5 n5 c5] 39) := ⟨_, rfl⟩
  have B0 : Below w.heap.size w W := by rw [hW]; exact (Below.refl _ _).alloc (Nat.le_refl _) _
  have p0 : W.cell? ⟨w.heap.size, 0, none⟩ = some (.int .i64 a0) := by rw [hW]; simp [go_sem]
  have p1 : W.cell? ⟨w.heap.size, 1, none⟩ = some (.slice A1 n1 c1) := by rw [hW]; simp [go_sem]
  have p2 : W.cell? ⟨w.heap.size, 2, none⟩ = some (.slice A2 n2 c2) := by rw [hW]; simp [go_sem]
  have p3 : W.cell? ⟨w.heap.size, 3, none⟩ = some (.slice A3 n3 c3) := by rw [hW]; simp [go_sem]
  have p4 : W.cell? ⟨w.heap.size, 4, none⟩ = some (.slice A4 n4 c4) := by rw [hW]; simp [go_sem]
  have p5 : W.cell? ⟨w.heap.size, 5, none⟩ = some (.slice A5 n5 c5) := by rw [hW]; simp [go_sem]
  have lx : w.heap.size < W.heap.size := by rw [hW]; simp
  have HW := Lib.hid hW
  clear hW
  have k1 := tSS.later h1 B0
  have k2 := tTS.later h2 B0
  have k3 := tS.later h3 B0
  have k4 := tPS.later h4 B0
  have k5 := tM.later h5 B0
  have r4 := sl_R.1 k4
  have L4 := Lib.hid r4.cap.1
  have z4 : hPS.sz x4 ≤ 100000000 := by rw [hZ_sz] at hn; omega
  have bn4 : n4 ≤ 100000000 := by have e : x4.length + hP.szL x4 = hPS.sz x4 := rfl; have := L4.out; omega
  have HS := Lib.hid (show M.linSess (a0, x1, x2, x3, x4, x5) = (M.sessOk (a0, x1, x2, x3, x4, x5) && x4.all fun p => p.2.2.1.all fun x => M.lin x.1) by rw [M.linSess])
  obtain ⟨ok, hok⟩ : ∃ ok, ok = M.linSess (a0, x1, x2, x3, x4, x5) := ⟨_, rfl⟩
  rw [← hok] at HS ⊢
  clear hok
  cases hs : M.sessOk (a0, x1, x2, x3, x4, x5)
  · have R := Lib.hid (show ok = false by rw [HS.out, hs]; rfl)
    have HK := Lib.hid hs
    clear hs
    go_enter Tryz.func12, Tryz.ntmps12
    go_wp2_with fail
    rw [← HW.out]
    refine (impl_isSession _ _ _ _ _ _ _ _ _ _ _ _ _ _ _ _ _ _ _ _ _ W k1 k2 k3 k4 k5 hn).mono ?_
    rw [HK.out]
    rintro e w2 ⟨rfl, bel2⟩
    go_wp2
    go_ret
    exact ⟨ret_bool (by rw [R.out]), bel_trans B0 bel2⟩
  have HS2 := Lib.hid (show ok = (x4.all fun p => p.2.2.1.all fun x => M.lin x.1) by rw [HS.out, hs]; rfl)
  have HK := Lib.hid hs
  clear hs HS
  go_enter Tryz.func12, Tryz.ntmps12
  go_wp2_with fail
  rw [← HW.out]
  refine (impl_isSession _ _ _ _ _ _ _ _ _ _ _ _ _ _ _ _ _ _ _ _ _ W k1 k2 k3 k4 k5 hn).mono ?_
  rw [HK.out]
  rintro e w2 ⟨rfl, bel2⟩
  have q4 : w2.cell? ⟨w.heap.size, 4, none⟩ = some (.slice A4 n4 c4) := by rw [bel2.cell lx]; exact p4
  have B2 := bel_trans B0 bel2
  have lV : w.heap.size < w2.heap.size := by have := bel2.size; omega
  replace r4 := r4.later bel2
  clear p0 p1 p2 p3 p4 p5 k1 k2 k3 k4 k5
  go_wp2_with fail
  go_loopw [13] (fun i wr => ∃ k : Nat, i = .int .i64 k ∧ k ≤ n4 ∧ Hid (ok = ((x4.drop k).all fun p => p.2.2.1.all fun x => M.lin x.1)) ∧ Below w2.heap.size w2 wr) (fun i _ => n4 - (intOf i).toNat)
  case atStart => exact ⟨0, rfl, by omega, Lib.hid HS2.out, Below.refl _ _⟩
  case round =>
    obtain ⟨k, rfl, hk, H, Bw⟩ := hrel
    have BW := bel_trans B2 Bw
    by_cases hlt : k < n4
    · obtain ⟨bp, op, b0, B1, m1, d1, B2', m2, d2, B3, m3, d3, y1, y2, y3, rfl, hbp, Y, e0, e1, e2, e3, t1, t2, t3, hz⟩ := patch_cell (r4.below Bw) z4 hlt
      have hd := Lib.hid (M.drop_at Y.out)
      have u2 : (wr.alloc (.cells #[.int .i64 b0, .slice B1 m1 d1, .slice B2' m2 d2, .slice B3 m3 d3] 68)).cell? ⟨wr.heap.size, 2, none⟩ = some (.slice B2' m2 d2) := by rw [cell_of_row _ wr.heap.size 2 _ 68 (0, 0) (heap_alloc_new wr _)]; rfl
      have GU : Below wr.heap.size wr (wr.alloc (.cells #[.int .i64 b0, .slice B1 m1 d1, .slice B2' m2 d2, .slice B3 m3 d3] 68)) := (Below.refl _ _).alloc (Nat.le_refl _) _
      have r2 := sl_R.1 (tNS.later (tNS.more Bw.size t2) GU)
      have L2 := Lib.hid r2.cap.1
      have hb2 : hNS.sz y2 ≤ 100000000 := by rw [hP_sz] at hz; omega
      have bn2 : m2 ≤ 100000000 := by have e : y2.length + hN.szL y2 = hNS.sz y2 := rfl; have := L2.out; omega
      have hk0 : (0 : Int) ≤ (k : Int) := by omega
      have hkn : (k : Int) < (n4 : Int) := by omega
      have H0 := Lib.hid (show ok = ((y2.all fun x => M.lin x.1) && (x4.drop (k + 1)).all fun p => p.2.2.1.all fun x => M.lin x.1) by rw [H.out, hd.out, List.all_cons])
      go_wp2_with fail
      obtain ⟨wo, rfl⟩ : ∃ wo : World, wo = wr := ⟨_, rfl⟩
      generalize wo.alloc (.cells #[.int .i64 b0, .slice B1 m1 d1, .slice B2' m2 d2, .slice B3 m3 d3] 68) = U at u2 GU r2 ⊢
      go_loopw [20] (fun i wr => ∃ q : Nat, i = .int .i64 q ∧ q ≤ m2 ∧ Hid (ok = (((y2.drop q).all fun x => M.lin x.1) && (x4.drop (k + 1)).all fun p => p.2.2.1.all fun x => M.lin x.1)) ∧ Below U.heap.size U wr) (fun i _ => m2 - (intOf i).toNat)
      case atStart => exact ⟨0, rfl, by omega, Lib.hid H0.out, Below.refl _ _⟩
      case round =>
        obtain ⟨q, rfl, hq, HQ, Bu⟩ := hrel
        have BB := bel_trans GU Bu
        by_cases hlt2 : q < m2
        · obtain ⟨bb, o1, a0', a1', a2', A5', c5', y5, rfl, hbb, Z, f0, f1, f2, f3, hr3, h3b⟩ := node_cell (r2.below Bu) hb2 hlt2
          have hdq := Lib.hid (M.drop_at Z.out)
          have hq0 : (0 : Int) ≤ (q : Int) := by omega
          have hqn : (q : Int) < (m2 : Int) := by omega
          obtain ⟨V, hV⟩ : ∃ V, V = wr.alloc (.cells #[.int .i64 a0', .int .i64 a1', .int .i64 a2', .slice A5' y5.length c5'] 70) := ⟨_, rfl⟩
          have GV : Below wr.heap.size wr V := by rw [hV]; exact (Below.refl _ _).alloc (Nat.le_refl _) _
          have HV := Lib.hid hV
          clear hV
          cases hl : M.lin a0'
          · have R := Lib.hid (show ok = false by rw [HQ.out, hdq.out, List.all_cons, hl]; rfl)
            have HL := Lib.hid hl
            clear hl
            go_wp2_with (go_at_call 36; rw [← HV.out]; refine (impl_LinearKind _ _).mono ?_; rw [HL.out]; rintro e w5 ⟨rfl, bel5⟩)
            go_ret
            exact ⟨ret_bool (by rw [R.out]), bel_trans BW (bel_trans BB (bel_trans GV bel5))⟩
          · have R := Lib.hid (show ok = (((y2.drop (q + 1)).all fun x => M.lin x.1) && (x4.drop (k + 1)).all fun p => p.2.2.1.all fun x => M.lin x.1) by rw [HQ.out, hdq.out, List.all_cons, hl]; rfl)
            have HL := Lib.hid hl
            clear hl
            go_wp2_with (go_at_call 36; rw [← HV.out]; refine (impl_LinearKind _ _).mono ?_; rw [HL.out]; rintro e w5 ⟨rfl, bel5⟩)
            go_roundw
            case rel => exact ⟨q + 1, by go_num, by omega, R, bel_trans Bu (bel_trans GV bel5)⟩
            case measure => simp [intOf]; omega
        · have R := Lib.hid (show ok = ((x4.drop (k + 1)).all fun p => p.2.2.1.all fun x => M.lin x.1) by rw [HQ.out, List.drop_eq_nil_of_le (by rw [L2.out]; omega)]; rfl)
          go_wp2
          go_roundw
          case rel => exact ⟨k + 1, by go_num, by omega, R, bel_trans Bw BB⟩
          case measure => simp [intOf]; omega
    · have R := Lib.hid (show ok = true by rw [H.out, List.drop_eq_nil_of_le (by rw [L4.out]; omega)]; rfl)
      go_wp2
      go_ret
      exact ⟨ret_bool (by rw [R.out]), BW⟩
theorem spec_IsLinearSession (a0 : Int) (A1 : Option Addr) (n1 c1 : Nat) (A2 : Option Addr) (n2 c2 : Nat) (A3 : Option Addr) (n3 c3 : Nat) (A4 : Option Addr) (n4 c4 : Nat) (A5 : Option Addr) (n5 c5 : Nat) (x1 : List (List Int)) (x2 : List (List Clip_)) (x3 : List Int) (x4 : List Patch) (x5 : List Strip) (w : World) (h1 : tSS.R w w.heap.size [.slice A1 n1 c1] x1) (h2 : tTS.R w w.heap.size [.slice A2 n2 c2] x2) (h3 : tS.R w w.heap.size [.slice A3 n3 c3] x3) (h4 : tPS.R w w.heap.size [.slice A4 n4 c4] x4) (h5 : tM.R w w.heap.size [.slice A5 n5 c5] x5) (hn : hZ.sz ((a0, x1, x2, x3, x4, x5) : Sess) ≤ 100000000) :
    Calls Tryz.prog 11 #[.agg #[.int .i64 a0, .slice A1 n1 c1, .slice A2 n2 c2, .slice A3 n3 c3, .slice A4 n4 c4, .slice A5 n5 c5]] w fun e w' => e = .returned (.bool (M.linSess (a0, x1, x2, x3, x4, x5))) ∧ Below w.heap.size w w' := by
  obtain ⟨W, hW⟩ : ∃ W, W = w.alloc (.cells #[.int .i64 a0, .slice A1 n1 c1, .slice A2 n2 c2, .slice A3 n3 c3, .slice A4 n4 c4, .slice A5 n5 c5] 39) := ⟨_, rfl⟩
  have B0 : Below w.heap.size w W := by rw [hW]; exact (Below.refl _ _).alloc (Nat.le_refl _) _
  have p0 : W.cell? ⟨w.heap.size, 0, none⟩ = some (.int .i64 a0) := by rw [hW]; simp [go_sem]
  have p1 : W.cell? ⟨w.heap.size, 1, none⟩ = some (.slice A1 n1 c1) := by rw [hW]; simp [go_sem]
  have p2 : W.cell? ⟨w.heap.size, 2, none⟩ = some (.slice A2 n2 c2) := by rw [hW]; simp [go_sem]
  have p3 : W.cell? ⟨w.heap.size, 3, none⟩ = some (.slice A3 n3 c3) := by rw [hW]; simp [go_sem]
  have p4 : W.cell? ⟨w.heap.size, 4, none⟩ = some (.slice A4 n4 c4) := by rw [hW]; simp [go_sem]
  have p5 : W.cell? ⟨w.heap.size, 5, none⟩ = some (.slice A5 n5 c5) := by rw [hW]; simp [go_sem]
  have lx : w.heap.size < W.heap.size := by rw [hW]; simp
  have HW := Lib.hid hW
  clear hW
  have k1 := tSS.later h1 B0
  have k2 := tTS.later h2 B0
  have k3 := tS.later h3 B0
  have k4 := tPS.later h4 B0
  have k5 := tM.later h5 B0
  have r4 := sl_R.1 k4
  have L4 := Lib.hid r4.cap.1
  have z4 : hPS.sz x4 ≤ 100000000 := by rw [hZ_sz] at hn; omega
  have bn4 : n4 ≤ 100000000 := by have e : x4.length + hP.szL x4 = hPS.sz x4 := rfl; have := L4.out; omega
  have HS := Lib.hid (show M.linSess (a0, x1, x2, x3, x4, x5) = (M.sessOk (a0, x1, x2, x3, x4, x5) && x4.all fun p => p.2.2.1.all fun x => M.lin x.1) by rw [M.linSess])
  obtain ⟨ok, hok⟩ : ∃ ok, ok = M.linSess (a0, x1, x2, x3, x4, x5) := ⟨_, rfl⟩
  rw [← hok] at HS ⊢
  clear hok
  cases hs : M.sessOk (a0, x1, x2, x3, x4, x5)
  · have R := Lib.hid (show ok = false by rw [HS.out, hs]; rfl)
    have HK := Lib.hid hs
    clear hs
    go_enter Tryz.func11, Tryz.ntmps11
    go_wp2_with fail
    rw [← HW.out]
    refine (spec_l27Ok _ _ _ _ _ _ _ _ _ _ _ _ _ _ _ _ _ _ _ _ _ _ W p0 p1 p2 p3 p4 p5 k1 k2 k3 k4 k5 hn).mono ?_
    rw [HK.out]
    rintro e w2 ⟨rfl, bel2⟩
    go_wp2
    go_ret
    exact ⟨ret_bool (by rw [R.out]), bel_trans B0 bel2⟩
  have HS2 := Lib.hid (show ok = (x4.all fun p => p.2.2.1.all fun x => M.lin x.1) by rw [HS.out, hs]; rfl)
  have HK := Lib.hid hs
  clear hs HS
  go_enter Tryz.func11, Tryz.ntmps11
  go_wp2_with fail
  rw [← HW.out]
  refine (spec_l27Ok _ _ _ _ _ _ _ _ _ _ _ _ _ _ _ _ _ _ _ _ _ _ W p0 p1 p2 p3 p4 p5 k1 k2 k3 k4 k5 hn).mono ?_
  rw [HK.out]
  rintro e w2 ⟨rfl, bel2⟩
  have q4 : w2.cell? ⟨w.heap.size, 4, none⟩ = some (.slice A4 n4 c4) := by rw [bel2.cell lx]; exact p4
  have B2 := bel_trans B0 bel2
  have lV : w.heap.size < w2.heap.size := by have := bel2.size; omega
  replace r4 := r4.later bel2
  clear p0 p1 p2 p3 p4 p5 k1 k2 k3 k4 k5
  go_wp2_with fail
  go_loopw [3] (fun i wr => ∃ k : Nat, i = .int .i64 k ∧ k ≤ n4 ∧ Hid (ok = ((x4.drop k).all fun p => p.2.2.1.all fun x => M.lin x.1)) ∧ Below w2.heap.size w2 wr) (fun i _ => n4 - (intOf i).toNat)
  case atStart => exact ⟨0, rfl, by omega, Lib.hid HS2.out, Below.refl _ _⟩
  case round =>
    obtain ⟨k, rfl, hk, H, Bw⟩ := hrel
    have BW := bel_trans B2 Bw
    have s4 : wr.cell? ⟨w.heap.size, 4, none⟩ = some (.slice A4 n4 c4) := by rw [Bw.cell lV]; exact q4
    by_cases hlt : k < n4
    · obtain ⟨bp, op, b0, B1, m1, d1, B2', m2, d2, B3, m3, d3, y1, y2, y3, rfl, hbp, Y, e0, e1, e2, e3, t1, t2, t3, hz⟩ := patch_cell (r4.below Bw) z4 hlt
      have hd := Lib.hid (M.drop_at Y.out)
      have hb2 : hNS.sz y2 ≤ 100000000 := by rw [hP_sz] at hz; omega
      have s2 := tNS.more Bw.size t2
      have hk0 : (0 : Int) ≤ (k : Int) := by omega
      have hkn : (k : Int) < (n4 : Int) := by omega
      cases hl : (y2.all fun x => M.lin x.1)
      · have R := Lib.hid (show ok = false by rw [H.out, hd.out, List.all_cons]; simp only [hl, Bool.false_and])
        have HL := Lib.hid hl
        clear hl
        go_wp2_with (go_at_call 35; refine (spec_l27Linear bp (op + k * 4) B2' m2 d2 y2 wr e2 s2 hb2).mono ?_; rw [HL.out]; rintro e w5 ⟨rfl, bel5⟩)
        go_ret
        exact ⟨ret_bool (by rw [R.out]), bel_trans BW bel5⟩
      · have R := Lib.hid (show ok = ((x4.drop (k + 1)).all fun p => p.2.2.1.all fun x => M.lin x.1) by rw [H.out, hd.out, List.all_cons]; simp only [hl, Bool.true_and])
        have HL := Lib.hid hl
        clear hl
        go_wp2_with (go_at_call 35; refine (spec_l27Linear bp (op + k * 4) B2' m2 d2 y2 wr e2 s2 hb2).mono ?_; rw [HL.out]; rintro e w5 ⟨rfl, bel5⟩)
        go_roundw
        case rel => exact ⟨k + 1, by go_num, by omega, R, bel_trans Bw bel5⟩
        case measure => simp [intOf]; omega
    · have R := Lib.hid (show ok = true by rw [H.out, List.drop_eq_nil_of_le (by rw [L4.out]; omega)]; rfl)
      go_wp2
      go_ret
      exact ⟨ret_bool (by rw [R.out]), BW⟩
theorem impl_ValidSession_Y (p : Int) (A : Option Addr) (n c : Nat) (Ab : Option Addr) (nb cb : Nat) (Ac : Option Addr) (nc cc : Nat) (Ad : Option Addr) (nd cd : Nat) (Ae : Option Addr) (ne ce : Nat) (x : Sess) (w : World) (hx : tZ.R w w.heap.size [.int .i64 p, .slice A n c, .slice Ab nb cb, .slice Ac nc cc, .slice Ad nd cd, .slice Ae ne ce] x) (hn : hZ.sz x ≤ 100000000) :
    Calls Tryz.prog 9 #[.agg #[.int .i64 p, .slice A n c, .slice Ab nb cb, .slice Ac nc cc, .slice Ad nd cd, .slice Ae ne ce]] w fun e w' => e = .returned (.bool (M.sessOk x)) ∧ Below w.heap.size w w' := by
  obtain ⟨a0, x1, x2, x3, x4, x5⟩ := x
  obtain ⟨A1, n1, c1, A2, n2, c2, A3, n3, c3, A4, n4, c4, A5, n5, c5, hcs, h1, h2, h3, h4, h5⟩ := tZ_R.1 hx
  simp only [List.cons.injEq, Value.int.injEq, Value.slice.injEq, true_and, and_true] at hcs
  obtain ⟨rfl, ⟨rfl, rfl, rfl⟩, ⟨rfl, rfl, rfl⟩, ⟨rfl, rfl, rfl⟩, ⟨rfl, rfl, rfl⟩, ⟨rfl, rfl, rfl⟩⟩ := hcs
  exact impl_ValidSession _ _ _ _ _ _ _ _ _ _ _ _ _ _ _ _ _ _ _ _ _ _  h1 h2 h3 h4 h5 hn
theorem spec_ValidSession_Y (p : Int) (A : Option Addr) (n c : Nat) (Ab : Option Addr) (nb cb : Nat) (Ac : Option Addr) (nc cc : Nat) (Ad : Option Addr) (nd cd : Nat) (Ae : Option Addr) (ne ce : Nat) (x : Sess) (w : World) (hx : tZ.R w w.heap.size [.int .i64 p, .slice A n c, .slice Ab nb cb, .slice Ac nc cc, .slice Ad nd cd, .slice Ae ne ce] x) (hn : hZ.sz x ≤ 100000000) :
    Calls Tryz.prog 7 #[.agg #[.int .i64 p, .slice A n c, .slice Ab nb cb, .slice Ac nc cc, .slice Ad nd cd, .slice Ae ne ce]] w fun e w' => e = .returned (.bool (M.sessOk x)) ∧ Below w.heap.size w w' := by
  obtain ⟨a0, x1, x2, x3, x4, x5⟩ := x
  obtain ⟨A1, n1, c1, A2, n2, c2, A3, n3, c3, A4, n4, c4, A5, n5, c5, hcs, h1, h2, h3, h4, h5⟩ := tZ_R.1 hx
  simp only [List.cons.injEq, Value.int.injEq, Value.slice.injEq, true_and, and_true] at hcs
  obtain ⟨rfl, ⟨rfl, rfl, rfl⟩, ⟨rfl, rfl, rfl⟩, ⟨rfl, rfl, rfl⟩, ⟨rfl, rfl, rfl⟩, ⟨rfl, rfl, rfl⟩⟩ := hcs
  exact spec_ValidSession _ _ _ _ _ _ _ _ _ _ _ _ _ _ _ _ _ _ _ _ _ _  h1 h2 h3 h4 h5 hn
theorem impl_IsLinearSession_Y (p : Int) (A : Option Addr) (n c : Nat) (Ab : Option Addr) (nb cb : Nat) (Ac : Option Addr) (nc cc : Nat) (Ad : Option Addr) (nd cd : Nat) (Ae : Option Addr) (ne ce : Nat) (x : Sess) (w : World) (hx : tZ.R w w.heap.size [.int .i64 p, .slice A n c, .slice Ab nb cb, .slice Ac nc cc, .slice Ad nd cd, .slice Ae ne ce] x) (hn : hZ.sz x ≤ 100000000) :
    Calls Tryz.prog 12 #[.agg #[.int .i64 p, .slice A n c, .slice Ab nb cb, .slice Ac nc cc, .slice Ad nd cd, .slice Ae ne ce]] w fun e w' => e = .returned (.bool (M.linSess x)) ∧ Below w.heap.size w w' := by
  obtain ⟨a0, x1, x2, x3, x4, x5⟩ := x
  obtain ⟨A1, n1, c1, A2, n2, c2, A3, n3, c3, A4, n4, c4, A5, n5, c5, hcs, h1, h2, h3, h4, h5⟩ := tZ_R.1 hx
  simp only [List.cons.injEq, Value.int.injEq, Value.slice.injEq, true_and, and_true] at hcs
  obtain ⟨rfl, ⟨rfl, rfl, rfl⟩, ⟨rfl, rfl, rfl⟩, ⟨rfl, rfl, rfl⟩, ⟨rfl, rfl, rfl⟩, ⟨rfl, rfl, rfl⟩⟩ := hcs
  exact impl_IsLinearSession _ _ _ _ _ _ _ _ _ _ _ _ _ _ _ _ _ _ _ _ _ _  h1 h2 h3 h4 h5 hn
theorem spec_IsLinearSession_Y (p : Int) (A : Option Addr) (n c : Nat) (Ab : Option Addr) (nb cb : Nat) (Ac : Option Addr) (nc cc : Nat) (Ad : Option Addr) (nd cd : Nat) (Ae : Option Addr) (ne ce : Nat) (x : Sess) (w : World) (hx : tZ.R w w.heap.size [.int .i64 p, .slice A n c, .slice Ab nb cb, .slice Ac nc cc, .slice Ad nd cd, .slice Ae ne ce] x) (hn : hZ.sz x ≤ 100000000) :
    Calls Tryz.prog 11 #[.agg #[.int .i64 p, .slice A n c, .slice Ab nb cb, .slice Ac nc cc, .slice Ad nd cd, .slice Ae ne ce]] w fun e w' => e = .returned (.bool (M.linSess x)) ∧ Below w.heap.size w w' := by
  obtain ⟨a0, x1, x2, x3, x4, x5⟩ := x
  obtain ⟨A1, n1, c1, A2, n2, c2, A3, n3, c3, A4, n4, c4, A5, n5, c5, hcs, h1, h2, h3, h4, h5⟩ := tZ_R.1 hx
  simp only [List.cons.injEq, Value.int.injEq, Value.slice.injEq, true_and, and_true] at hcs
  obtain ⟨rfl, ⟨rfl, rfl, rfl⟩, ⟨rfl, rfl, rfl⟩, ⟨rfl, rfl, rfl⟩, ⟨rfl, rfl, rfl⟩, ⟨rfl, rfl, rfl⟩⟩ := hcs
  exact spec_IsLinearSession _ _ _ _ _ _ _ _ _ _ _ _ _ _ _ _ _ _ _ _ _ _  h1 h2 h3 h4 h5 hn
theorem cl_of {α : Type} {h : Hs α} (hx : ∀ x, h.cnt x ≤ 10 * h.sz x + 10) (xs : List α) : h.cntL xs ≤ 10 * (xs.length + h.szL xs) := by
  induction xs with
  | nil => simp [Hs.cntL]
  | cons y ys ih =>
    rw [Hs.cntL, Hs.szL, List.length_cons]
    have := hx y
    omega
theorem cl_Y (x : Sess) : hZ.cnt x ≤ 10 * hZ.sz x + 10 := by
  obtain ⟨a0, x1, x2, x3, x4, x5⟩ := x
  rw [hZ_cnt, hZ_sz]
  have cS : ∀ x : List Int, hS.cnt x ≤ 10 * hS.sz x + 10 := fun x => by rw [hS_cnt, hS_sz]; omega
  have c1 : hSS.cnt x1 ≤ 10 * hSS.sz x1 := cl_of cS x1
  have cT : ∀ x : List Clip_, hT.cnt x ≤ 10 * hT.sz x + 10 := cl_T
  have c2 : hTS.cnt x2 ≤ 10 * hTS.sz x2 := cl_of cT x2
  have cN : ∀ x : Node, hN.cnt x ≤ 10 * hN.sz x + 10 := fun x => by
    obtain ⟨k, a, b, l⟩ := x
    rw [hN_cnt, hN_sz, hS_cnt, hS_sz]
    omega
  have cNS : ∀ x : List Node, hNS.cnt x ≤ 10 * hNS.sz x := cl_of cN
  have cP : ∀ x : Patch, hP.cnt x ≤ 10 * hP.sz x + 10 := fun x => by
    obtain ⟨k, t, n, u⟩ := x
    rw [hP_cnt, hP_sz]
    have e1 : hSS.cnt t ≤ 10 * hSS.sz t := cl_of cS t
    have e2 := cNS n
    have e3 : hS.cnt u ≤ hS.sz u := by rw [hS_cnt, hS_sz]; omega
    omega
  have c4 : hPS.cnt x4 ≤ 10 * hPS.sz x4 := cl_of cP x4
  have c3 : hS.cnt x3 ≤ hS.sz x3 := by rw [hS_cnt, hS_sz]; omega
  have c5 := cl_M x5
  omega
end Go.Proofs.YtacgcagpaecncaaGreat
namespace Go.Proofs.YtacgcagpaecncaaGreat
open Go.RowKit Go.Sort
set_option maxHeartbeats 4000000
set_option maxRecDepth 100000
set_option linter.unusedVariables false
set_option linter.unusedSimpArgs false
theorem impl_size_impl_Track (A : Option Addr) (n c : Nat) (w : World) : Calls Tryz.prog 79 #[.slice A n c] w fun e w' => e = .returned (.int .i64 n) ∧ w = w' := by
  go_enter Tryz.func79, Tryz.ntmps79
  go_wp2
  go_ret
  exact ⟨rfl, rfl⟩
def M.trkCode (x : Sess) (keep : List Int) : Int := if M.sessOk x then (if keep.all (M.idx (x.2.2.1.length : Int)) then 0 else 2) else 1
def M.muteS (x : Sess) (keep : List Int) : Sess := (x.1, x.2.1, M.muteK keep x.2.2.1.length x.2.2.1, x.2.2.2)
def M.zeroS : Sess := (0, [], [], [], [], [])
def M.muteR (x : Sess) (keep : List Int) : Sess × Int := (if M.trkCode x keep = 0 then M.muteS x keep else M.zeroS, M.trkCode x keep)
theorem zeroS_O (w : World) (F : Nat → Prop) : tZ.O w F [.int .i64 0, .slice none 0 0, .slice none 0 0, .slice none 0 0, .slice none 0 0, .slice none 0 0] M.zeroS :=
  tZ_O.2 ⟨none, 0, 0, none, 0, 0, none, 0, 0, none, 0, 0, none, 0, 0, fun _ => False, fun _ => False, fun _ => False, fun _ => False, fun _ => False, rfl, sl_O.2 (OS.nil _ _ _ _), sl_O.2 (OS.nil _ _ _ _), sl_O.2 (OS.nil _ _ _ _), sl_O.2 (OS.nil _ _ _ _), sl_O.2 (OS.nil _ _ _ _), fun _ h => h.elim, fun _ h => h.elim, fun _ h => h.elim, fun _ h => h.elim, fun _ h => h.elim, fun _ h => h.elim, fun _ h => h.elim, fun _ h => h.elim, fun _ h => h.elim, fun _ h => h.elim, fun _ h => h.elim, fun _ h => h.elim, fun _ h => h.elim, fun _ h => h.elim, fun _ h => h.elim⟩
theorem hT_szL_mapIdx (xs : List (List Clip_)) : ∀ f : Nat → List Clip_ → List Clip_, (∀ i x, hT.sz (f i x) ≤ hT.sz x) → hT.szL (xs.mapIdx f) ≤ hT.szL xs := by
  induction xs with
  | nil => intro f _; simp
  | cons x xs ih =>
    intro f hf
    rw [List.mapIdx_cons, Hs.szL, Hs.szL]
    have := hf 0 x
    have := ih (fun i => f (i + 1)) (fun i x => hf (i + 1) x)
    omega
theorem muteS_sz (x : Sess) (keep : List Int) : hZ.sz (M.muteS x keep) ≤ hZ.sz x := by
  obtain ⟨a0, x1, x2, x3, x4, x5⟩ := x
  have e : M.muteS (a0, x1, x2, x3, x4, x5) keep = (a0, x1, M.muteK keep x2.length x2, x3, x4, x5) := rfl
  rw [e, hZ_sz, hZ_sz]
  have h1 : hTS.sz (M.muteK keep x2.length x2) = (M.muteK keep x2.length x2).length + hT.szL (M.muteK keep x2.length x2) := rfl
  have h2 : hTS.sz x2 = x2.length + hT.szL x2 := rfl
  have h3 : hT.szL (M.muteK keep x2.length x2) ≤ hT.szL x2 := hT_szL_mapIdx x2 _ (fun i x => by
    split
    · show 0 + 0 ≤ _; omega
    · exact Nat.le_refl _)
  rw [M.muteK_len] at h1
  omega
theorem muteR_sz (x : Sess) (keep : List Int) : hZ.sz (M.muteR x keep).1 ≤ hZ.sz x := by
  unfold M.muteR
  split
  · exact muteS_sz x keep
  · show 0 + (0 + 0 + (0 + 0 + (0 + 0 + (0 + 0 + (0 + 0))))) ≤ _; omega
theorem impl_tracksCode (a0 : Int) (A1 : Option Addr) (n1 c1 : Nat) (A2 : Option Addr) (n2 c2 : Nat) (A3 : Option Addr) (n3 c3 : Nat) (A4 : Option Addr) (n4 c4 : Nat) (A5 : Option Addr) (n5 c5 : Nat) (x1 : List (List Int)) (x2 : List (List Clip_)) (x3 : List Int) (x4 : List Patch) (x5 : List Strip) (KA : Option Addr) (kn kc : Nat) (keep : List Int) (w : World) (h1 : tSS.R w w.heap.size [.slice A1 n1 c1] x1) (h2 : tTS.R w w.heap.size [.slice A2 n2 c2] x2) (h3 : tS.R w w.heap.size [.slice A3 n3 c3] x3) (h4 : tPS.R w w.heap.size [.slice A4 n4 c4] x4) (h5 : tM.R w w.heap.size [.slice A5 n5 c5] x5) (hk_ : RI w w.heap.size KA kn keep) (hkn : kn ≤ 1000000000) (hn : hZ.sz ((a0, x1, x2, x3, x4, x5) : Sess) ≤ 100000000) :
    Calls Tryz.prog 39 #[.agg #[.int .i64 a0, .slice A1 n1 c1, .slice A2 n2 c2, .slice A3 n3 c3, .slice A4 n4 c4, .slice A5 n5 c5], .slice KA kn kc] w fun e w' => e = .returned (.int .i64 (M.trkCode (a0, x1, x2, x3, x4, x5) keep)) ∧ Below w.heap.size w w' := by
  obtain ⟨W, hW, B0, sW, p0, p1, p2, p3, p4, p5, pf⟩ := newbox6 w (.int .i64 a0) (.slice A1 n1 c1) (.slice A2 n2 c2) (.slice A3 n3 c3) (.slice A4 n4 c4) (.slice A5 n5 c5) 39
  have HW := Lib.hid hW
  have lW : w.heap.size < W.heap.size := by omega
  clear hW sW
  have k1 := tSS.later h1 B0
  have k2 := tTS.later h2 B0
  have k3 := tS.later h3 B0
  have k4 := tPS.later h4 B0
  have k5 := tM.later h5 B0
  have kk := hk_.later B0
  have ln2 := Lib.hid (sl_R.1 k2).cap.1
  have z2 : x2.length ≤ 100000000 := by rw [hZ_sz] at hn; have e : x2.length + hT.szL x2 = hTS.sz x2 := rfl; omega
  have bn2 : n2 ≤ 100000000 := by have := ln2.out; omega
  have HS := Lib.hid (show M.trkCode (a0, x1, x2, x3, x4, x5) keep = if M.sessOk (a0, x1, x2, x3, x4, x5) then (if keep.all (M.idx (n2 : Int)) then 0 else 2) else 1 by rw [M.trkCode, ← ln2.out])
  obtain ⟨tc, htc⟩ : ∃ tc, tc = M.trkCode (a0, x1, x2, x3, x4, x5) keep := ⟨_, rfl⟩
  rw [← htc] at HS ⊢
  clear htc
  cases ho : M.sessOk (a0, x1, x2, x3, x4, x5)
  · have R := Lib.hid (show tc = 1 by rw [HS.out, ho]; rfl)
    have HO := Lib.hid ho
    clear ho
    go_enter Tryz.func39, Tryz.ntmps39
    go_wp2_with fail
    rw [← HW.out]
    refine (impl_isSession a0 A1 n1 c1 A2 n2 c2 A3 n3 c3 A4 n4 c4 A5 n5 c5 x1 x2 x3 x4 x5 W k1 k2 k3 k4 k5 hn).mono ?_
    rw [HO.out]
    rintro e w1 ⟨rfl, bel1⟩
    go_wp2
    go_ret
    exact ⟨ret_int (by rw [R.out]), bel_trans B0 bel1⟩
  · have HO := Lib.hid ho
    cases hi : keep.all (M.idx (n2 : Int))
    · have R := Lib.hid (show tc = 2 by rw [HS.out, ho, hi]; rfl)
      have HJ := Lib.hid hi
      clear ho hi
      go_enter Tryz.func39, Tryz.ntmps39
      go_wp2_with fail
      rw [← HW.out]
      refine (impl_isSession a0 A1 n1 c1 A2 n2 c2 A3 n3 c3 A4 n4 c4 A5 n5 c5 x1 x2 x3 x4 x5 W k1 k2 k3 k4 k5 hn).mono ?_
      rw [HO.out]
      rintro e w1 ⟨rfl, bel1⟩
      have q2 : w1.cell? ⟨w.heap.size, 2, none⟩ = some (.slice A2 n2 c2) := (bel1.cell (by show w.heap.size < _; omega)).trans p2
      have kw := kk.later bel1
      go_wp2_with (first | (go_at_call 79; refine (impl_size_impl_Track _ _ _ _).mono ?_; rintro e w2 ⟨rfl, rfl⟩) | (go_at_call 65; refine (impl_areIndices _ _ _ _ _ _ kw (by omega) (by omega)).mono ?_; rw [HJ.out]; rintro e w2 ⟨rfl, rfl⟩))
      go_ret
      exact ⟨ret_int (by rw [R.out]), bel_trans B0 bel1⟩
    · have R := Lib.hid (show tc = 0 by rw [HS.out, ho, hi]; rfl)
      have HJ := Lib.hid hi
      clear ho hi
      go_enter Tryz.func39, Tryz.ntmps39
      go_wp2_with fail
      rw [← HW.out]
      refine (impl_isSession a0 A1 n1 c1 A2 n2 c2 A3 n3 c3 A4 n4 c4 A5 n5 c5 x1 x2 x3 x4 x5 W k1 k2 k3 k4 k5 hn).mono ?_
      rw [HO.out]
      rintro e w1 ⟨rfl, bel1⟩
      have q2 : w1.cell? ⟨w.heap.size, 2, none⟩ = some (.slice A2 n2 c2) := (bel1.cell (by show w.heap.size < _; omega)).trans p2
      have kw := kk.later bel1
      go_wp2_with (first | (go_at_call 79; refine (impl_size_impl_Track _ _ _ _).mono ?_; rintro e w2 ⟨rfl, rfl⟩) | (go_at_call 65; refine (impl_areIndices _ _ _ _ _ _ kw (by omega) (by omega)).mono ?_; rw [HJ.out]; rintro e w2 ⟨rfl, rfl⟩))
      go_ret
      exact ⟨ret_int (by rw [R.out]), bel_trans B0 bel1⟩
theorem impl_MuteTracks (a0 : Int) (A1 : Option Addr) (n1 c1 : Nat) (A2 : Option Addr) (n2 c2 : Nat) (A3 : Option Addr) (n3 c3 : Nat) (A4 : Option Addr) (n4 c4 : Nat) (A5 : Option Addr) (n5 c5 : Nat) (x1 : List (List Int)) (x2 : List (List Clip_)) (x3 : List Int) (x4 : List Patch) (x5 : List Strip) (KA : Option Addr) (kn kc : Nat) (keep : List Int) (w : World) (h1 : tSS.R w w.heap.size [.slice A1 n1 c1] x1) (h2 : tTS.R w w.heap.size [.slice A2 n2 c2] x2) (h3 : tS.R w w.heap.size [.slice A3 n3 c3] x3) (h4 : tPS.R w w.heap.size [.slice A4 n4 c4] x4) (h5 : tM.R w w.heap.size [.slice A5 n5 c5] x5) (hk_ : RI w w.heap.size KA kn keep) (hkn : kn ≤ 1000000000) (hn : hZ.sz ((a0, x1, x2, x3, x4, x5) : Sess) ≤ 100000000) :
    Calls Tryz.prog 15 #[.agg #[.int .i64 a0, .slice A1 n1 c1, .slice A2 n2 c2, .slice A3 n3 c3, .slice A4 n4 c4, .slice A5 n5 c5], .slice KA kn kc] w fun e w' => ∃ q0 A1' n1' c1' A2' n2' c2' A3' n3' c3' A4' n4' c4' A5' n5' c5', e = .returned (.tuple #[.agg #[.int .i64 q0, .slice A1' n1' c1', .slice A2' n2' c2', .slice A3' n3' c3', .slice A4' n4' c4', .slice A5' n5' c5'], .int .i64 (M.muteR (a0, x1, x2, x3, x4, x5) keep).2]) ∧ tZ.O w' (Iv w.heap.size w'.heap.size) [.int .i64 q0, .slice A1' n1' c1', .slice A2' n2' c2', .slice A3' n3' c3', .slice A4' n4' c4', .slice A5' n5' c5'] (M.muteR (a0, x1, x2, x3, x4, x5) keep).1 ∧ Below w.heap.size w w' := by
  obtain ⟨W_, hW_, B0_, sW_, p0, p1, p2, p3, p4, p5, pf⟩ := newbox6 w (.int .i64 a0) (.slice A1 n1 c1) (.slice A2 n2 c2) (.slice A3 n3 c3) (.slice A4 n4 c4) (.slice A5 n5 c5) 39
  obtain ⟨W, hW, B1_, sW, r0, r1, r2, r3, r4, r5, rf⟩ := newbox6 W_ (.int .i64 0) (.slice none 0 0) (.slice none 0 0) (.slice none 0 0) (.slice none 0 0) (.slice none 0 0) 39
  have B0 := bel_trans B0_ B1_
  rw [hW_] at hW
  clear hW_
  replace p0 : W.cell? ⟨w.heap.size, 0, none⟩ = some (.int .i64 a0) := by rw [B1_.cell (by show w.heap.size < _; omega)]; exact p0
  replace p1 : W.cell? ⟨w.heap.size, 1, none⟩ = some (.slice A1 n1 c1) := by rw [B1_.cell (by show w.heap.size < _; omega)]; exact p1
  replace p2 : W.cell? ⟨w.heap.size, 2, none⟩ = some (.slice A2 n2 c2) := by rw [B1_.cell (by show w.heap.size < _; omega)]; exact p2
  replace p3 : W.cell? ⟨w.heap.size, 3, none⟩ = some (.slice A3 n3 c3) := by rw [B1_.cell (by show w.heap.size < _; omega)]; exact p3
  replace p4 : W.cell? ⟨w.heap.size, 4, none⟩ = some (.slice A4 n4 c4) := by rw [B1_.cell (by show w.heap.size < _; omega)]; exact p4
  replace p5 : W.cell? ⟨w.heap.size, 5, none⟩ = some (.slice A5 n5 c5) := by rw [B1_.cell (by show w.heap.size < _; omega)]; exact p5
  obtain ⟨rb, hrb⟩ : ∃ rb, rb = W_.heap.size := ⟨_, rfl⟩
  have hrb2 : rb = w.heap.size + 1 := by omega
  rw [← hrb] at r0 r1 r2 r3 r4 r5 rf
  clear hrb
  subst hrb2
  have lW : w.heap.size + 1 < W.heap.size := by omega
  clear sW sW_ B0_ B1_ pf
  have HW := Lib.hid hW
  clear hW
  have k1 := tSS.later h1 B0
  have k2 := tTS.later h2 B0
  have k3 := tS.later h3 B0
  have k4 := tPS.later h4 B0
  have k5 := tM.later h5 B0
  have kk := hk_.later B0
  have ln2 := Lib.hid (sl_R.1 k2).cap.1
  have z2 : x2.length ≤ 100000000 := by rw [hZ_sz] at hn; have e : x2.length + hT.szL x2 = hTS.sz x2 := rfl; omega
  have bn2 : n2 ≤ 100000000 := by have := ln2.out; omega
  clear h1 h2 h3 h4 h5
  obtain ⟨RR, hRR⟩ : ∃ RR, RR = M.muteR (a0, x1, x2, x3, x4, x5) keep := ⟨_, rfl⟩
  have HR := Lib.hid hRR
  rw [← hRR]
  clear hRR
  obtain ⟨tc, htc⟩ : ∃ tc, tc = M.trkCode (a0, x1, x2, x3, x4, x5) keep := ⟨_, rfl⟩
  have HT := Lib.hid htc
  by_cases h0 : tc = 0
  · have E1 := Lib.hid (show RR = (M.muteS (a0, x1, x2, x3, x4, x5) keep, 0) by rw [HR.out, M.muteR, ← htc, h0]; rfl)
    subst h0
    clear htc
    go_enter Tryz.func15, Tryz.ntmps15
    go_wp2_with fail
    rw [← HW.out]
    refine (impl_tracksCode a0 A1 n1 c1 A2 n2 c2 A3 n3 c3 A4 n4 c4 A5 n5 c5 x1 x2 x3 x4 x5 KA kn kc keep W k1 k2 k3 k4 k5 kk hkn hn).mono ?_
    rw [← HT.out]
    rintro e w1 ⟨rfl, bel1⟩
    have s1 := bel1.size
    have P0 := (bel1.cell (p := ⟨w.heap.size, 0, none⟩) (by show w.heap.size < _; omega)).trans p0
    have P1 := (bel1.cell (p := ⟨w.heap.size, 1, none⟩) (by show w.heap.size < _; omega)).trans p1
    have P2 := (bel1.cell (p := ⟨w.heap.size, 2, none⟩) (by show w.heap.size < _; omega)).trans p2
    have P3 := (bel1.cell (p := ⟨w.heap.size, 3, none⟩) (by show w.heap.size < _; omega)).trans p3
    have P4 := (bel1.cell (p := ⟨w.heap.size, 4, none⟩) (by show w.heap.size < _; omega)).trans p4
    have P5 := (bel1.cell (p := ⟨w.heap.size, 5, none⟩) (by show w.heap.size < _; omega)).trans p5
    go_wp2_with fail
    refine (impl_mute a0 A1 n1 c1 A2 n2 c2 A3 n3 c3 A4 n4 c4 A5 n5 c5 x1 x2 x3 x4 x5 KA kn kc keep w1 (tSS.later k1 bel1) (tTS.later k2 bel1) (tS.later k3 bel1) (tPS.later k4 bel1) (tM.later k5 bel1) (kk.later bel1) hkn hn).mono ?_
    rintro e w2 ⟨A1', n1', c1', A2', n2', c2', A3', n3', c3', A4', n4', c4', A5', n5', c5', rfl, oz, bel2⟩
    have s2 := bel2.size
    have Bw2 := bel_trans bel1 bel2
    have Q0 := (Bw2.cell (p := ⟨w.heap.size + 1, 0, none⟩) (by show w.heap.size + 1 < _; omega)).trans r0
    have Q1 := (Bw2.cell (p := ⟨w.heap.size + 1, 1, none⟩) (by show w.heap.size + 1 < _; omega)).trans r1
    have Q2 := (Bw2.cell (p := ⟨w.heap.size + 1, 2, none⟩) (by show w.heap.size + 1 < _; omega)).trans r2
    have Q3 := (Bw2.cell (p := ⟨w.heap.size + 1, 3, none⟩) (by show w.heap.size + 1 < _; omega)).trans r3
    have Q4 := (Bw2.cell (p := ⟨w.heap.size + 1, 4, none⟩) (by show w.heap.size + 1 < _; omega)).trans r4
    have Q5 := (Bw2.cell (p := ⟨w.heap.size + 1, 5, none⟩) (by show w.heap.size + 1 < _; omega)).trans r5
    have QF : ∀ j, w2.frozen? ⟨w.heap.size + 1, j, none⟩ = false := fun j => (Bw2.frozen (by show w.heap.size + 1 < _; omega)).trans (rf j)
    have QF0 := QF 0
    have QF1 := QF 1
    have QF2 := QF 2
    have QF3 := QF 3
    have QF4 := QF 4
    have QF5 := QF 5
    obtain ⟨U_, hU_, y0, y1, y2, y3, y4, y5, yf, ych, ysz⟩ := box6 Q0 Q1 Q2 Q3 Q4 Q5 QF (.int .i64 a0) (.slice A1' n1' c1') (.slice A2' n2' c2') (.slice A3' n3' c3') (.slice A4' n4' c4') (.slice A5' n5' c5')
    have HU_ := Lib.hid hU_
    clear hU_
    go_wp2
    rw [← HU_.out]
    have yf0 := yf 0
    have yf1 := yf 1
    have yf2 := yf 2
    have yf3 := yf 3
    have yf4 := yf 4
    have yf5 := yf 5
    refine bodyPost_ret (v := .tuple #[.agg #[.int .i64 a0, .slice A1' n1' c1', .slice A2' n2' c2', .slice A3' n3' c3', .slice A4' n4' c4', .slice A5' n5' c5'], .int .i64 0]) (by simp [results, Tryz.results15, go_sem, y0, y1, y2, y3, y4, y5, yf0, yf1, yf2, yf3, yf4, yf5]) rfl ?_
    rw [E1.out]
    refine ⟨a0, A1', n1', c1', A2', n2', c2', A3', n3', c3', A4', n4', c4', A5', n5', c5', rfl, ?_, (bel_trans B0 Bw2).trans (ych.toBelow (fun b (hb : b = _) => by omega) (by omega))⟩
    exact tZ.owide (fun b hb => Iv.mono (by omega) (by omega) b hb) (tZ.ochg oz ych (fun b hb (e : b = _) => by have := hb.1; omega))
  · have E1 := Lib.hid (show RR = (M.zeroS, tc) by rw [HR.out, M.muteR, ← htc, if_neg h0])
    have g0 : (tc != 0) = true := by simpa using h0
    clear htc
    go_enter Tryz.func15, Tryz.ntmps15
    go_wp2_with fail
    rw [← HW.out]
    refine (impl_tracksCode a0 A1 n1 c1 A2 n2 c2 A3 n3 c3 A4 n4 c4 A5 n5 c5 x1 x2 x3 x4 x5 KA kn kc keep W k1 k2 k3 k4 k5 kk hkn hn).mono ?_
    rw [← HT.out]
    rintro e w1 ⟨rfl, bel1⟩
    have s1 := bel1.size
    have Q0 := (bel1.cell (p := ⟨w.heap.size + 1, 0, none⟩) (by show w.heap.size + 1 < _; omega)).trans r0
    have Q1 := (bel1.cell (p := ⟨w.heap.size + 1, 1, none⟩) (by show w.heap.size + 1 < _; omega)).trans r1
    have Q2 := (bel1.cell (p := ⟨w.heap.size + 1, 2, none⟩) (by show w.heap.size + 1 < _; omega)).trans r2
    have Q3 := (bel1.cell (p := ⟨w.heap.size + 1, 3, none⟩) (by show w.heap.size + 1 < _; omega)).trans r3
    have Q4 := (bel1.cell (p := ⟨w.heap.size + 1, 4, none⟩) (by show w.heap.size + 1 < _; omega)).trans r4
    have Q5 := (bel1.cell (p := ⟨w.heap.size + 1, 5, none⟩) (by show w.heap.size + 1 < _; omega)).trans r5
    have QF : ∀ j, w1.frozen? ⟨w.heap.size + 1, j, none⟩ = false := fun j => (bel1.frozen (by show w.heap.size + 1 < _; omega)).trans (rf j)
    have QF0 := QF 0
    have QF1 := QF 1
    have QF2 := QF 2
    have QF3 := QF 3
    have QF4 := QF 4
    have QF5 := QF 5
    obtain ⟨U_, hU_, y0, y1, y2, y3, y4, y5, yf, ych, ysz⟩ := box6 Q0 Q1 Q2 Q3 Q4 Q5 QF (.int .i64 0) (.slice none 0 0) (.slice none 0 0) (.slice none 0 0) (.slice none 0 0) (.slice none 0 0)
    have HU_ := Lib.hid hU_
    clear hU_
    go_wp2
    rw [← HU_.out]
    have yf0 := yf 0
    have yf1 := yf 1
    have yf2 := yf 2
    have yf3 := yf 3
    have yf4 := yf 4
    have yf5 := yf 5
    refine bodyPost_ret (v := .tuple #[.agg #[.int .i64 0, .slice none 0 0, .slice none 0 0, .slice none 0 0, .slice none 0 0, .slice none 0 0], .int .i64 tc]) (by simp [results, Tryz.results15, go_sem, y0, y1, y2, y3, y4, y5, yf0, yf1, yf2, yf3, yf4, yf5]) rfl ?_
    rw [E1.out]
    exact ⟨0, none, 0, 0, none, 0, 0, none, 0, 0, none, 0, 0, none, 0, 0, rfl, zeroS_O _ _, (bel_trans B0 bel1).trans (ych.toBelow (fun b (hb : b = _) => by omega) (by omega))⟩
theorem spec_MuteTracks (a0 : Int) (A1 : Option Addr) (n1 c1 : Nat) (A2 : Option Addr) (n2 c2 : Nat) (A3 : Option Addr) (n3 c3 : Nat) (A4 : Option Addr) (n4 c4 : Nat) (A5 : Option Addr) (n5 c5 : Nat) (x1 : List (List Int)) (x2 : List (List Clip_)) (x3 : List Int) (x4 : List Patch) (x5 : List Strip) (KA : Option Addr) (kn kc : Nat) (keep : List Int) (w : World) (h1 : tSS.R w w.heap.size [.slice A1 n1 c1] x1) (h2 : tTS.R w w.heap.size [.slice A2 n2 c2] x2) (h3 : tS.R w w.heap.size [.slice A3 n3 c3] x3) (h4 : tPS.R w w.heap.size [.slice A4 n4 c4] x4) (h5 : tM.R w w.heap.size [.slice A5 n5 c5] x5) (hk_ : RI w w.heap.size KA kn keep) (hkn : kn ≤ 1000000000) (hn : hZ.sz ((a0, x1, x2, x3, x4, x5) : Sess) ≤ 100000000) :
    Calls Tryz.prog 13 #[.agg #[.int .i64 a0, .slice A1 n1 c1, .slice A2 n2 c2, .slice A3 n3 c3, .slice A4 n4 c4, .slice A5 n5 c5], .slice KA kn kc] w fun e w' => ∃ q0 A1' n1' c1' A2' n2' c2' A3' n3' c3' A4' n4' c4' A5' n5' c5', e = .returned (.tuple #[.agg #[.int .i64 q0, .slice A1' n1' c1', .slice A2' n2' c2', .slice A3' n3' c3', .slice A4' n4' c4', .slice A5' n5' c5'], .int .i64 (M.muteR (a0, x1, x2, x3, x4, x5) keep).2]) ∧ tZ.O w' (Iv w.heap.size w'.heap.size) [.int .i64 q0, .slice A1' n1' c1', .slice A2' n2' c2', .slice A3' n3' c3', .slice A4' n4' c4', .slice A5' n5' c5'] (M.muteR (a0, x1, x2, x3, x4, x5) keep).1 ∧ Below w.heap.size w w' := by
  obtain ⟨W_, hW_, B0_, sW_, p0, p1, p2, p3, p4, p5, pf⟩ := newbox6 w (.int .i64 a0) (.slice A1 n1 c1) (.slice A2 n2 c2) (.slice A3 n3 c3) (.slice A4 n4 c4) (.slice A5 n5 c5) 39
  obtain ⟨W, hW, B1_, sW, r0, r1, r2, r3, r4, r5, rf⟩ := newbox6 W_ (.int .i64 0) (.slice none 0 0) (.slice none 0 0) (.slice none 0 0) (.slice none 0 0) (.slice none 0 0) 39
  have B0 := bel_trans B0_ B1_
  rw [hW_] at hW
  clear hW_
  replace p0 : W.cell? ⟨w.heap.size, 0, none⟩ = some (.int .i64 a0) := by rw [B1_.cell (by show w.heap.size < _; omega)]; exact p0
  replace p1 : W.cell? ⟨w.heap.size, 1, none⟩ = some (.slice A1 n1 c1) := by rw [B1_.cell (by show w.heap.size < _; omega)]; exact p1
  replace p2 : W.cell? ⟨w.heap.size, 2, none⟩ = some (.slice A2 n2 c2) := by rw [B1_.cell (by show w.heap.size < _; omega)]; exact p2
  replace p3 : W.cell? ⟨w.heap.size, 3, none⟩ = some (.slice A3 n3 c3) := by rw [B1_.cell (by show w.heap.size < _; omega)]; exact p3
  replace p4 : W.cell? ⟨w.heap.size, 4, none⟩ = some (.slice A4 n4 c4) := by rw [B1_.cell (by show w.heap.size < _; omega)]; exact p4
  replace p5 : W.cell? ⟨w.heap.size, 5, none⟩ = some (.slice A5 n5 c5) := by rw [B1_.cell (by show w.heap.size < _; omega)]; exact p5
  obtain ⟨rb, hrb⟩ : ∃ rb, rb = W_.heap.size := ⟨_, rfl⟩
  have hrb2 : rb = w.heap.size + 1 := by omega
  rw [← hrb] at r0 r1 r2 r3 r4 r5 rf
  clear hrb
  subst hrb2
  have lW : w.heap.size + 1 < W.heap.size := by omega
  clear sW sW_ B0_ B1_ pf
  have HW := Lib.hid hW
  clear hW
  have k1 := tSS.later h1 B0
  have k2 := tTS.later h2 B0
  have k3 := tS.later h3 B0
  have k4 := tPS.later h4 B0
  have k5 := tM.later h5 B0
  have kk := hk_.later B0
  have ln2 := Lib.hid (sl_R.1 k2).cap.1
  have z2 : x2.length ≤ 100000000 := by rw [hZ_sz] at hn; have e : x2.length + hT.szL x2 = hTS.sz x2 := rfl; omega
  have bn2 : n2 ≤ 100000000 := by have := ln2.out; omega
  clear h1 h2 h3 h4 h5
  obtain ⟨RR, hRR⟩ : ∃ RR, RR = M.muteR (a0, x1, x2, x3, x4, x5) keep := ⟨_, rfl⟩
  have HR := Lib.hid hRR
  rw [← hRR]
  clear hRR
  cases ho : M.sessOk (a0, x1, x2, x3, x4, x5)
  · have E1 := Lib.hid (show RR = (M.zeroS, 1) by rw [HR.out, M.muteR, M.trkCode, ho]; rfl)
    have HO := Lib.hid ho
    clear ho
    go_enter Tryz.func13, Tryz.ntmps13
    go_wp2_with fail
    rw [← HW.out]
    refine (spec_l27Ok w.heap.size a0 A1 n1 c1 A2 n2 c2 A3 n3 c3 A4 n4 c4 A5 n5 c5 x1 x2 x3 x4 x5 W p0 p1 p2 p3 p4 p5 k1 k2 k3 k4 k5 hn).mono ?_
    rw [HO.out]
    rintro e w1 ⟨rfl, bel1⟩
    have s1 := bel1.size
    have Q0 := (bel1.cell (p := ⟨w.heap.size + 1, 0, none⟩) (by show w.heap.size + 1 < _; omega)).trans r0
    have Q1 := (bel1.cell (p := ⟨w.heap.size + 1, 1, none⟩) (by show w.heap.size + 1 < _; omega)).trans r1
    have Q2 := (bel1.cell (p := ⟨w.heap.size + 1, 2, none⟩) (by show w.heap.size + 1 < _; omega)).trans r2
    have Q3 := (bel1.cell (p := ⟨w.heap.size + 1, 3, none⟩) (by show w.heap.size + 1 < _; omega)).trans r3
    have Q4 := (bel1.cell (p := ⟨w.heap.size + 1, 4, none⟩) (by show w.heap.size + 1 < _; omega)).trans r4
    have Q5 := (bel1.cell (p := ⟨w.heap.size + 1, 5, none⟩) (by show w.heap.size + 1 < _; omega)).trans r5
    have QF : ∀ j, w1.frozen? ⟨w.heap.size + 1, j, none⟩ = false := fun j => (bel1.frozen (by show w.heap.size + 1 < _; omega)).trans (rf j)
    have QF0 := QF 0
    have QF1 := QF 1
    have QF2 := QF 2
    have QF3 := QF 3
    have QF4 := QF 4
    have QF5 := QF 5
    obtain ⟨U_, hU_, y0, y1, y2, y3, y4, y5, yf, ych, ysz⟩ := box6 Q0 Q1 Q2 Q3 Q4 Q5 QF (.int .i64 0) (.slice none 0 0) (.slice none 0 0) (.slice none 0 0) (.slice none 0 0) (.slice none 0 0)
    have HU_ := Lib.hid hU_
    clear hU_
    go_wp2
    rw [← HU_.out]
    have yf0 := yf 0
    have yf1 := yf 1
    have yf2 := yf 2
    have yf3 := yf 3
    have yf4 := yf 4
    have yf5 := yf 5
    refine bodyPost_ret (v := .tuple #[.agg #[.int .i64 0, .slice none 0 0, .slice none 0 0, .slice none 0 0, .slice none 0 0, .slice none 0 0], .int .i64 1]) (by simp [results, Tryz.results13, go_sem, y0, y1, y2, y3, y4, y5, yf0, yf1, yf2, yf3, yf4, yf5]) rfl ?_
    rw [E1.out]
    exact ⟨0, none, 0, 0, none, 0, 0, none, 0, 0, none, 0, 0, none, 0, 0, rfl, zeroS_O _ _, (bel_trans B0 bel1).trans (ych.toBelow (fun b (hb : b = _) => by omega) (by omega))⟩
  · have HO := Lib.hid ho
    obtain ⟨ok, hok⟩ : ∃ ok, ok = keep.all (M.idx (n2 : Int)) := ⟨_, rfl⟩
    have HK := Lib.hid hok
    have E1 := Lib.hid (show RR = if ok then (M.muteS (a0, x1, x2, x3, x4, x5) keep, 0) else (M.zeroS, 2) by
      rw [HR.out, M.muteR, M.trkCode, ho, hok, ← ln2.out]
      show (if (if keep.all (M.idx (x2.length : Int)) then (0 : Int) else 2) = 0 then M.muteS (a0, x1, x2, x3, x4, x5) keep else M.zeroS, if keep.all (M.idx (x2.length : Int)) then (0 : Int) else 2) = _
      cases keep.all (M.idx (x2.length : Int)) <;> rfl)
    have hl := Lib.hid hk_.len
    clear ho hok
    go_enter Tryz.func13, Tryz.ntmps13
    go_wp2_with fail
    rw [← HW.out]
    refine (spec_l27Ok w.heap.size a0 A1 n1 c1 A2 n2 c2 A3 n3 c3 A4 n4 c4 A5 n5 c5 x1 x2 x3 x4 x5 W p0 p1 p2 p3 p4 p5 k1 k2 k3 k4 k5 hn).mono ?_
    rw [HO.out]
    rintro e w1 ⟨rfl, bel1⟩
    have s1 := bel1.size
    go_wp2_with fail
    go_loopw [6] (fun i wr => ∃ k : Nat, i = .int .i64 k ∧ k ≤ kn ∧ Hid (ok = (keep.drop k).all (M.idx (n2 : Int))) ∧ Below W.heap.size W wr) (fun i _ => kn - (intOf i).toNat)
    case atStart => exact ⟨0, rfl, by omega, Lib.hid HK.out, bel1⟩
    case round =>
      obtain ⟨k, rfl, hk, H, Bw⟩ := hrel
      have sr := Bw.size
      have P2 := (Bw.cell (p := ⟨w.heap.size, 2, none⟩) (by show w.heap.size < _; omega)).trans p2
      by_cases hlt : k < kn
      · obtain ⟨ad, v, rfl, hab, Xv, hc⟩ := (kk.later Bw).at hlt
        have hd := Lib.hid (M.drop_at Xv.out)
        have rc := cell_regrown hc
        have rp := cell_regrown P2
        have hk0 : (0 : Int) ≤ (k : Int) := by omega
        have hkn_ : (k : Int) < (kn : Int) := by omega
        cases hs : M.inn v 0 ((n2 : Int) - 1)
        · have R := Lib.hid (show ok = false by rw [H.out, hd.out, List.all_cons, M.idx, hs]; rfl)
          have cT : ∀ d os, Calls Tryz.prog 37 #[.int .i64 v, .int .i64 0, .int .i64 ((n2 : Int) - 1)] (grow (redrawn wr d) os) fun e w'' => e = .returned (.bool false) ∧ ∃ p : Regrown, w'' = grow (redrawn wr p.d) p.os := fun d os => Calls.regrown_of (by rw [← hs]; exact to_bel (spec_l00In _ _ _ _))
          go_wp2_with fail
          (refine wp_region_quiet_below (by kernel_rfl) (by kernel_rfl) ?_; (repeat (go_big_quiet_step (exact cT _ _))); refine wpQuiet_nil ?_; intro _ hw'; obtain ⟨⟨dq, osq⟩, hw''⟩ := hw'; subst hw'')
          have G0 := below_regrown wr dq osq
          generalize hVV : grow (redrawn wr dq) osq = V at G0 ⊢
          clear hVV
          have BV := bel_trans Bw G0
          have sV := BV.size
          have Q0 := (BV.cell (p := ⟨w.heap.size + 1, 0, none⟩) (by show w.heap.size + 1 < _; omega)).trans r0
          have Q1 := (BV.cell (p := ⟨w.heap.size + 1, 1, none⟩) (by show w.heap.size + 1 < _; omega)).trans r1
          have Q2 := (BV.cell (p := ⟨w.heap.size + 1, 2, none⟩) (by show w.heap.size + 1 < _; omega)).trans r2
          have Q3 := (BV.cell (p := ⟨w.heap.size + 1, 3, none⟩) (by show w.heap.size + 1 < _; omega)).trans r3
          have Q4 := (BV.cell (p := ⟨w.heap.size + 1, 4, none⟩) (by show w.heap.size + 1 < _; omega)).trans r4
          have Q5 := (BV.cell (p := ⟨w.heap.size + 1, 5, none⟩) (by show w.heap.size + 1 < _; omega)).trans r5
          have QF : ∀ j, V.frozen? ⟨w.heap.size + 1, j, none⟩ = false := fun j => (BV.frozen (by show w.heap.size + 1 < _; omega)).trans (rf j)
          have QF0 := QF 0
          have QF1 := QF 1
          have QF2 := QF 2
          have QF3 := QF 3
          have QF4 := QF 4
          have QF5 := QF 5
          obtain ⟨U_, hU_, y0, y1, y2, y3, y4, y5, yf, ych, ysz⟩ := box6 Q0 Q1 Q2 Q3 Q4 Q5 QF (.int .i64 0) (.slice none 0 0) (.slice none 0 0) (.slice none 0 0) (.slice none 0 0) (.slice none 0 0)
          have HU_ := Lib.hid hU_
          clear hU_
          go_wp2
          rw [← HU_.out]
          have yf0 := yf 0
          have yf1 := yf 1
          have yf2 := yf 2
          have yf3 := yf 3
          have yf4 := yf 4
          have yf5 := yf 5
          refine bodyPost_ret (v := .tuple #[.agg #[.int .i64 0, .slice none 0 0, .slice none 0 0, .slice none 0 0, .slice none 0 0, .slice none 0 0], .int .i64 2]) (by simp [results, Tryz.results13, go_sem, y0, y1, y2, y3, y4, y5, yf0, yf1, yf2, yf3, yf4, yf5]) rfl ?_
          rw [E1.out, R.out]
          exact ⟨0, none, 0, 0, none, 0, 0, none, 0, 0, none, 0, 0, none, 0, 0, rfl, zeroS_O _ _, (bel_trans B0 BV).trans (ych.toBelow (fun b (hb : b = _) => by omega) (by omega))⟩
        · have R := Lib.hid (show ok = (keep.drop (k + 1)).all (M.idx (n2 : Int)) by rw [H.out, hd.out, List.all_cons, M.idx, hs]; rfl)
          have cT : ∀ d os, Calls Tryz.prog 37 #[.int .i64 v, .int .i64 0, .int .i64 ((n2 : Int) - 1)] (grow (redrawn wr d) os) fun e w'' => e = .returned (.bool true) ∧ ∃ p : Regrown, w'' = grow (redrawn wr p.d) p.os := fun d os => Calls.regrown_of (by rw [← hs]; exact to_bel (spec_l00In _ _ _ _))
          go_wp2_with fail
          (refine wp_region_quiet_below (by kernel_rfl) (by kernel_rfl) ?_; (repeat (go_big_quiet_step (exact cT _ _))); refine wpQuiet_nil ?_; intro _ hw'; obtain ⟨⟨dq, osq⟩, hw''⟩ := hw'; subst hw'')
          go_wp2
          go_roundw
          case rel => exact ⟨k + 1, by go_num, by omega, R, bel_trans Bw (below_regrown wr dq osq)⟩
          case measure => simp [intOf]; omega
      · obtain rfl : k = kn := by omega
        have R := Lib.hid (show ok = true by rw [H.out, List.drop_eq_nil_of_le (by rw [hl.out]; omega)]; rfl)
        replace E1 := Lib.hid (show RR = (M.muteS (a0, x1, x2, x3, x4, x5) keep, 0) by rw [E1.out, R.out]; rfl)
        have P0 := (Bw.cell (p := ⟨w.heap.size, 0, none⟩) (by show w.heap.size < _; omega)).trans p0
        have P1 := (Bw.cell (p := ⟨w.heap.size, 1, none⟩) (by show w.heap.size < _; omega)).trans p1
        have P2 := (Bw.cell (p := ⟨w.heap.size, 2, none⟩) (by show w.heap.size < _; omega)).trans p2
        have P3 := (Bw.cell (p := ⟨w.heap.size, 3, none⟩) (by show w.heap.size < _; omega)).trans p3
        have P4 := (Bw.cell (p := ⟨w.heap.size, 4, none⟩) (by show w.heap.size < _; omega)).trans p4
        have P5 := (Bw.cell (p := ⟨w.heap.size, 5, none⟩) (by show w.heap.size < _; omega)).trans p5
        go_wp2_with fail
        refine (spec_l27Mute w.heap.size a0 A1 n1 c1 A2 n2 c2 A3 n3 c3 A4 n4 c4 A5 n5 c5 x1 x2 x3 x4 x5 KA k kc keep wr P0 P1 P2 P3 P4 P5 (tSS.later k1 Bw) (tTS.later k2 Bw) (tS.later k3 Bw) (tPS.later k4 Bw) (tM.later k5 Bw) (kk.later Bw) hkn hn).mono ?_
        rintro e w2 ⟨A1', n1', c1', A2', n2', c2', A3', n3', c3', A4', n4', c4', A5', n5', c5', rfl, oz, bel2⟩
        have s2 := bel2.size
        have Bw2 := bel_trans Bw bel2
        have Q0 := (Bw2.cell (p := ⟨w.heap.size + 1, 0, none⟩) (by show w.heap.size + 1 < _; omega)).trans r0
        have Q1 := (Bw2.cell (p := ⟨w.heap.size + 1, 1, none⟩) (by show w.heap.size + 1 < _; omega)).trans r1
        have Q2 := (Bw2.cell (p := ⟨w.heap.size + 1, 2, none⟩) (by show w.heap.size + 1 < _; omega)).trans r2
        have Q3 := (Bw2.cell (p := ⟨w.heap.size + 1, 3, none⟩) (by show w.heap.size + 1 < _; omega)).trans r3
        have Q4 := (Bw2.cell (p := ⟨w.heap.size + 1, 4, none⟩) (by show w.heap.size + 1 < _; omega)).trans r4
        have Q5 := (Bw2.cell (p := ⟨w.heap.size + 1, 5, none⟩) (by show w.heap.size + 1 < _; omega)).trans r5
        have QF : ∀ j, w2.frozen? ⟨w.heap.size + 1, j, none⟩ = false := fun j => (Bw2.frozen (by show w.heap.size + 1 < _; omega)).trans (rf j)
        have QF0 := QF 0
        have QF1 := QF 1
        have QF2 := QF 2
        have QF3 := QF 3
        have QF4 := QF 4
        have QF5 := QF 5
        obtain ⟨U_, hU_, y0, y1, y2, y3, y4, y5, yf, ych, ysz⟩ := box6 Q0 Q1 Q2 Q3 Q4 Q5 QF (.int .i64 a0) (.slice A1' n1' c1') (.slice A2' n2' c2') (.slice A3' n3' c3') (.slice A4' n4' c4') (.slice A5' n5' c5')
        have HU_ := Lib.hid hU_
        clear hU_
        go_wp2
        rw [← HU_.out]
        have yf0 := yf 0
        have yf1 := yf 1
        have yf2 := yf 2
        have yf3 := yf 3
        have yf4 := yf 4
        have yf5 := yf 5
        refine bodyPost_ret (v := .tuple #[.agg #[.int .i64 a0, .slice A1' n1' c1', .slice A2' n2' c2', .slice A3' n3' c3', .slice A4' n4' c4', .slice A5' n5' c5'], .int .i64 0]) (by simp [results, Tryz.results13, go_sem, y0, y1, y2, y3, y4, y5, yf0, yf1, yf2, yf3, yf4, yf5]) rfl ?_
        rw [E1.out]
        refine ⟨a0, A1', n1', c1', A2', n2', c2', A3', n3', c3', A4', n4', c4', A5', n5', c5', rfl, ?_, (bel_trans B0 Bw2).trans (ych.toBelow (fun b (hb : b = _) => by omega) (by omega))⟩
        exact tZ.owide (fun b hb => Iv.mono (by omega) (by omega) b hb) (tZ.ochg oz ych (fun b hb (e : b = _) => by have := hb.1; omega))
end Go.Proofs.YtacgcagpaecncaaGreat
namespace Go.Proofs.YtacgcagpaecncaaGreat
open Go.RowKit Go.Sort
set_option maxHeartbeats 4000000
set_option maxRecDepth 100000
theorem nf_held_M_ (A : Option Addr) (n c : Nat) (k : Int) (xs : List Strip) (w : World) (hx : tM.R w w.heap.size [.slice A n c] (hM.mark k xs)) (hk : 0 ≤ k ∧ k + (hM.cnt xs : Int) ≤ 1000000000) :
    Calls Tryz.prog 87 #[.slice A n c, .int .i64 k] w fun e w' => e = .returned (.int .i64 (k + hM.cnt xs)) ∧ Below w.heap.size w w' := by
  have hr : RS tSt w w.heap.size (.slice A n c) (hSt.mkL k xs) := sl_R.1 hx
  obtain rfl : xs.length = n := by rw [← hr.cap.1, Hs.mkL_len]
  have hl : xs.length ≤ 9223372036854775807 := by have h1 := hr.cap.2; unfold maxLen at h1; omega
  have hcn : k + (hSt.cntL xs : Int) ≤ 1000000000 := hk.2
  have hml := Lib.hid (hSt.mkL_len k xs)
  clear hx
  go_enter Tryz.func87, Tryz.ntmps87
  go_wp2
  go_loopw [1, 5] (fun q i wr => ∃ j : Nat, i = .int .i64 j ∧ j ≤ xs.length ∧ q = .int .i64 (k + (hSt.cntL (xs.take j) : Int)) ∧ Below w.heap.size w wr) (fun _ i _ => xs.length - (intOf i).toNat)
  case atStart => exact ⟨0, rfl, by omega, by simp [Hs.cntL], Below.refl _ _⟩
  case round =>
    obtain ⟨j, rfl, hj, rfl, hb⟩ := hrel
    by_cases hlt : j < xs.length
    · have hX := Lib.hid (List.getElem?_eq_getElem hlt)
      have hmk := hSt.mkL_at k hX.out
      obtain ⟨b, o, c1, cs, hv, hab, -, hE, hc⟩ := (hr.below hb).atX hmk
      simp only [Value.slice.injEq] at hv
      obtain ⟨rfl, -, -⟩ := hv
      have hc1 := hSt.cntL_at hX.out
      have hct2 := Lib.hid (hSt.cntL_take hX.out)
      clear hmk
      generalize xs[j] = x at hX hE hc1 hct2
      obtain ⟨s, l0, ys⟩ := x
      rw [hSt_cnt] at hc1
      have hz := hSdS_cnt ys
      generalize hK : k + (hSt.cntL (xs.take j) : Int) = K at hE ⊢
      have HK := Lib.hid hK
      have hK0 : 0 ≤ K ∧ K + 2 + 2 * (ys.length : Int) ≤ 1000000000 := by omega
      clear hK
      obtain ⟨q, rfl⟩ : ∃ q : Nat, K = q := ⟨K.toNat, by omega⟩
      have hE2 : tSt.R wr w.heap.size cs (M.markT (q : Int), (q : Int) + 1, hSdS.mark ((q : Int) + 1 + 1) ys) := hE
      obtain ⟨A0, n0, c0, rfl, hs, y0⟩ := st_R.1 hE2
      have ec0 : wr.cell? ⟨b, o + j * 3, none⟩ = some (.string (M.markT (q : Int))) := hc 0 _ rfl
      have ec1 : wr.cell? ⟨b, o + j * 3 + 1, none⟩ = some (.int .i64 ((q : Int) + 1)) := hc 1 _ rfl
      have ec2 : wr.cell? ⟨b, o + j * 3 + 2, none⟩ = some (.slice A0 n0 c0) := hc 2 _ rfl
      have y1 := tSdS.more hb.size y0
      have hbr : b < wr.heap.size := Nat.lt_of_lt_of_le hab hb.size
      have rc0 := cell_regrown ec0
      have cT : ∀ d os, Calls Tryz.prog 115 #[.int .i64 (q : Int)] (grow (redrawn wr d) os) fun e w'' => e = .returned (.string (M.markT (q : Int))) ∧ ∃ p : Regrown, w'' = grow (redrawn wr p.d) p.os := fun d os => Calls.regrown_of (laws_markText q _ (by omega))
      generalize M.markT (q : Int) = T at ec0 rc0 cT
      clear hc hE hE2
      go_wp2_with fail
      (refine wp_region_quiet_below (by kernel_rfl) (by kernel_rfl) ?_; (repeat (go_big_quiet_step (exact cT _ _))); refine wpQuiet_nil ?_; intro _ hw'; obtain ⟨⟨dq, osq⟩, hw''⟩ := hw'; subst hw'')
      have G0 := below_regrown wr dq osq
      generalize hVV : grow (redrawn wr dq) osq = V at G0 ⊢
      clear hVV
      replace ec1 : V.cell? ⟨b, o + j * 3 + 1, none⟩ = some (.int .i64 ((q : Int) + 1)) := by rw [G0.cell (by show b < _; omega)]; exact ec1
      replace ec2 : V.cell? ⟨b, o + j * 3 + 2, none⟩ = some (.slice A0 n0 c0) := by rw [G0.cell (by show b < _; omega)]; exact ec2
      have y2 := tSdS.later y1 G0
      go_wp2_with fail
      refine (nf_held_SdS_ _ _ _ _ _ _ y2 (by omega)).mono ?_
      rintro e v1 ⟨rfl, b1⟩
      replace hb := bel_trans hb (bel_trans G0 b1)
      go_wp2
      go_roundw
      case rel => exact ⟨j + 1, by go_num, by omega, by rw [hct2.out, hSt_cnt]; have := HK.out; go_num, hb⟩
      case measure => simp [intOf]; omega
    · obtain rfl : xs.length = j := by omega
      go_wp2
      go_ret
      exact ⟨by rw [List.take_of_length_le (Nat.le_refl _)]; rfl, hb⟩
theorem nf_held_M (A : Option Addr) (n c : Nat) (k : Int) (xs : List Strip) (w : World) (hx : tM.R w w.heap.size [.slice A n c] (hM.mark k xs)) (hk : 0 ≤ k ∧ k + (hM.cnt xs : Int) ≤ 1000000000) :
    Calls Tryz.prog 49 #[.agg #[.slice A n c], .int .i64 k] w fun e w' => e = .returned (.int .i64 (k + hM.cnt xs)) ∧ Below w.heap.size w w' := by
  have hb : Below w.heap.size w (w.alloc (.cells #[.slice A n c] 37)) := (Below.refl _ _).alloc (Nat.le_refl _) _
  have hx2 := tM.later hx hb
  go_enter Tryz.func49, Tryz.ntmps49
  go_wp2_with (go_at_call 87; refine (nf_held_M_ _ _ _ _ _ _ hx2 hk).mono ?_; rintro e w2 ⟨rfl, bel2⟩)
  go_ret
  exact ⟨rfl, hb.trans (bel2.mono hb.size)⟩
theorem hZ_mark (k : Int) (a0 : Int) (x1 : List (List Int)) (x2 : List (List Clip_)) (x3 : List Int) (x4 : List Patch) (x5 : List Strip) : hZ.mark k (a0, x1, x2, x3, x4, x5) = (a0, hSS.mark k x1, hTS.mark (k + hSS.cnt x1) x2, hS.mark (k + hSS.cnt x1 + hTS.cnt x2) x3, hPS.mark (k + hSS.cnt x1 + hTS.cnt x2 + hS.cnt x3) x4, hM.mark (k + hSS.cnt x1 + hTS.cnt x2 + hS.cnt x3 + hPS.cnt x4) x5) := by
  have e : k + ((0 : Nat) : Int) = k := by simp
  show (a0, hSS.mark (k + ((0 : Nat) : Int)) x1, hTS.mark (k + ((0 : Nat) : Int) + hSS.cnt x1) x2, hS.mark (k + ((0 : Nat) : Int) + hSS.cnt x1 + hTS.cnt x2) x3, hPS.mark (k + ((0 : Nat) : Int) + hSS.cnt x1 + hTS.cnt x2 + hS.cnt x3) x4, hM.mark (k + ((0 : Nat) : Int) + hSS.cnt x1 + hTS.cnt x2 + hS.cnt x3 + hPS.cnt x4) x5) = _
  rw [e]
end Go.Proofs.YtacgcagpaecncaaGreat
namespace Go.Proofs.YtacgcagpaecncaaGreat
open Go.RowKit
set_option maxHeartbeats 4000000
set_option maxRecDepth 100000
theorem OH.at {α : Type} {t : Ty α} {e : TypeId} {w U : World} {F : Nat → Prop} {v : Value} {xs : List α} {css : List (List Value)} {Fs : Nat → Nat → Prop} {k : Nat} (h : OH t e w F v xs css Fs k) (hU : U = w) : OH t e U F v xs css Fs k := hU ▸ h
theorem nf_mark_NS (A : Option Addr) (n c : Nat) (k : Int) (xs : List Node) (w : World) (F : Nat → Prop) (hx : tNS.O w F [.slice A n c] xs) (hk : 0 ≤ k ∧ k + (hNS.cnt xs : Int) ≤ 1000000000) :
    Calls Tryz.prog 83 #[.slice A n c, .int .i64 k] w fun e w' => e = .returned (.int .i64 (k + hNS.cnt xs)) ∧ tNS.O w' F [.slice A n c] (hNS.mark k xs) ∧ Chg F w w' := by
  have ow := sl_O.1 hx
  have hcap := ow.read.cap
  obtain rfl : xs.length = n := hcap.1
  have hl : xs.length ≤ 9223372036854775807 := by have h1 := hcap.2; unfold maxLen at h1; omega
  clear hcap
  have hcn : k + (hN.cntL xs : Int) ≤ 1000000000 := hk.2
  clear hx
  go_enter Tryz.func83, Tryz.ntmps83
  go_wp2
  go_loopw [1, 5] (fun q i wr => ∃ j : Nat, i = .int .i64 j ∧ j ≤ xs.length ∧ q = .int .i64 (k + (hN.cntL (xs.take j) : Int)) ∧ OS tN 70 wr F (.slice A xs.length c) ((hN.mkL k xs).take j ++ xs.drop j) ∧ Chg F w wr)
    (fun _ i _ => xs.length - (intOf i).toNat)
  case atStart => exact ⟨0, rfl, by omega, by simp [Hs.cntL], by simpa using ow, Chg.refl _ _⟩
  case round =>
    obtain ⟨j, rfl, hj, rfl, own, hg⟩ := hrel
    by_cases hlt : j < xs.length
    · have hml := Lib.hid (hN.mkL_len k xs)
      have hX := Lib.hid (List.getElem?_eq_getElem hlt)
      have hc1 := hN.cntL_at hX.out
      have hct2 := Lib.hid (hN.cntL_take hX.out)
      have hmk := Lib.hid (hN.mkL_at k hX.out)
      generalize xs[j] = x at hX hc1 hct2 hmk
      obtain ⟨a0, a1, a2, x3⟩ := x
      rw [hN_cnt] at hc1
      generalize hK : k + (hN.cntL (xs.take j) : Int) = K at hmk ⊢
      have HK := Lib.hid hK
      have hK0 : 0 ≤ K ∧ K + ((3 + hS.cnt x3 : Nat) : Int) ≤ 1000000000 := by omega
      clear hK
      have hyj := Lib.hid (show ((hN.mkL k xs).take j ++ xs.drop j)[j]? = some ((a0, a1, a2, x3) : Node) by rw [M.mid_at hml.out]; exact hX.out)
      obtain ⟨css, Fs, hole, cs, hcs, hE⟩ := own.openAt hyj.out
      obtain ⟨A3, n3, c3, F3, rfl, o3_0, t3⟩ := tN_O.1 hE
      obtain ⟨g, rfl, hFg, hFn, hgl, -⟩ := hole.form (List.getElem?_eq_some_iff.1 hyj.out).1
      have q0 : wr.cell? ⟨g, j * 4 + 0, none⟩ = some _ := (hole.cell hcs (j := 0) rfl).1
      have r0 : wr.frozen? ⟨g, j * 4 + 0, none⟩ = false := (hole.cell hcs (j := 0) rfl).2
      have q1 : wr.cell? ⟨g, j * 4 + 1, none⟩ = some _ := (hole.cell hcs (j := 1) rfl).1
      have r1 : wr.frozen? ⟨g, j * 4 + 1, none⟩ = false := (hole.cell hcs (j := 1) rfl).2
      have q2 : wr.cell? ⟨g, j * 4 + 2, none⟩ = some _ := (hole.cell hcs (j := 2) rfl).1
      have r2 : wr.frozen? ⟨g, j * 4 + 2, none⟩ = false := (hole.cell hcs (j := 2) rfl).2
      have q3 : wr.cell? ⟨g, j * 4 + 3, none⟩ = some _ := (hole.cell hcs (j := 3) rfl).1
      rw [Nat.add_zero] at q0 r0
      go_wp2_with fail
      obtain ⟨U1, hU⟩ : ∃ U, U = (((wr.setCell ⟨g, j * 4, none⟩ (.int .i64 (K))).setCell ⟨g, j * 4 + 1, none⟩ (.int .i64 (K + 1))).setCell ⟨g, j * 4 + 2, none⟩ (.int .i64 (K + 1 + 1))) := ⟨_, rfl⟩
      rw [← hU]
      have s0_0 := hole.set hcs 0 (by decide) (.int .i64 (K))
      have s0_1 := s0_0.1.set s0_0.2 1 (by decide) (.int .i64 (K + 1))
      have s0_2 := s0_1.1.set s0_1.2 2 (by decide) (.int .i64 (K + 1 + 1))
      have hole1 := OH.at s0_2.1 hU
      have hcs1 := s0_2.2
      have ch0u : Chg F wr U1 := by rw [hU]; exact ((Chg.set _ g (j * 4) _ hFg).trans (Chg.set _ g (j * 4 + 1) _ hFg)).trans (Chg.set _ g (j * 4 + 2) _ hFg)
      have o3_1 : tS.O U1 F3 [.slice A3 n3 c3] _ := tS.okeep (fun b hb => by rw [hU]; exact (heap_setCell_other _ ⟨g, j * 4 + 2, none⟩ b _ (fun e => hFn (by simp only at e; rw [← e]; exact t3 b hb))).trans ((heap_setCell_other _ ⟨g, j * 4 + 1, none⟩ b _ (fun e => hFn (by simp only at e; rw [← e]; exact t3 b hb))).trans (heap_setCell_other _ ⟨g, j * 4, none⟩ b _ (fun e => hFn (by simp only at e; rw [← e]; exact t3 b hb))))) o3_0
      clear hU
      have q0_u0 : U1.cell? ⟨g, j * 4 + 0, none⟩ = some _ := (hole1.cell hcs1 (j := 0) rfl).1
      have r0_u0 : U1.frozen? ⟨g, j * 4 + 0, none⟩ = false := (hole1.cell hcs1 (j := 0) rfl).2
      have q1_u0 : U1.cell? ⟨g, j * 4 + 1, none⟩ = some _ := (hole1.cell hcs1 (j := 1) rfl).1
      have r1_u0 : U1.frozen? ⟨g, j * 4 + 1, none⟩ = false := (hole1.cell hcs1 (j := 1) rfl).2
      have q2_u0 : U1.cell? ⟨g, j * 4 + 2, none⟩ = some _ := (hole1.cell hcs1 (j := 2) rfl).1
      have r2_u0 : U1.frozen? ⟨g, j * 4 + 2, none⟩ = false := (hole1.cell hcs1 (j := 2) rfl).2
      have q3_u0 : U1.cell? ⟨g, j * 4 + 3, none⟩ = some _ := (hole1.cell hcs1 (j := 3) rfl).1
      rw [Nat.add_zero] at q0_u0 r0_u0
      replace hg := hg.trans ch0u
      refine (nf_mark_S _ _ _ _ _ _ F3 o3_1 (by omega)).mono ?_
      rintro e v1 ⟨rfl, o3_n, ch0⟩
      have ch0w := ch0.wide t3
      have o3_2 := o3_n
      have hole1b := hole1.chg ch0w
      replace hg := hg.trans (ch0w.wide hole1.fits)
      go_wp2
      go_roundw
      case rel =>
        have h3 := hole1b.fill hcs1 (y := ((K, K + 1, K + 1 + 1, hS.mark (K + 1 + 1 + 1) x3) : Node)) (tN_O.2 ⟨A3, n3, c3, F3, rfl, o3_2, t3⟩)
        have hmk2 : (hN.mkL k xs)[j]? = some ((K, K + 1, K + 1 + 1, hS.mark (K + 1 + 1 + 1) x3) : Node) := hmk.out
        rw [M.set_mid hml.out hmk2] at h3
        exact ⟨j + 1, by go_num, by omega, by rw [hct2.out, hN_cnt]; have := HK.out; subst this; go_num, h3, hg⟩
      case measure => simp [intOf]; omega
    · obtain rfl : xs.length = j := by omega
      go_wp2
      go_ret
      rw [List.take_of_length_le (by rw [Hs.mkL_len]; omega), List.drop_eq_nil_of_le (by omega), List.append_nil] at own
      exact ⟨by rw [List.take_of_length_le (Nat.le_refl _)]; rfl, sl_O.2 own, hg⟩
theorem nf_held_NS (A : Option Addr) (n c : Nat) (k : Int) (xs : List Node) (w : World) (hx : tNS.R w w.heap.size [.slice A n c] (hNS.mark k xs)) (hk : 0 ≤ k ∧ k + (hNS.cnt xs : Int) ≤ 1000000000) :
    Calls Tryz.prog 86 #[.slice A n c, .int .i64 k] w fun e w' => e = .returned (.int .i64 (k + hNS.cnt xs)) ∧ Below w.heap.size w w' := by
  have hr : RS tN w w.heap.size (.slice A n c) (hN.mkL k xs) := sl_R.1 hx
  obtain rfl : xs.length = n := by rw [← hr.cap.1, Hs.mkL_len]
  have hl : xs.length ≤ 9223372036854775807 := by have h1 := hr.cap.2; unfold maxLen at h1; omega
  have hcn : k + (hN.cntL xs : Int) ≤ 1000000000 := hk.2
  have hml := Lib.hid (hN.mkL_len k xs)
  clear hx
  go_enter Tryz.func86, Tryz.ntmps86
  go_wp2
  go_loopw [1, 5] (fun q i wr => ∃ j : Nat, i = .int .i64 j ∧ j ≤ xs.length ∧ q = .int .i64 (k + (hN.cntL (xs.take j) : Int)) ∧ Below w.heap.size w wr) (fun _ i _ => xs.length - (intOf i).toNat)
  case atStart => exact ⟨0, rfl, by omega, by simp [Hs.cntL], Below.refl _ _⟩
  case round =>
    obtain ⟨j, rfl, hj, rfl, hb⟩ := hrel
    by_cases hlt : j < xs.length
    · have hX := Lib.hid (List.getElem?_eq_getElem hlt)
      have hmk := hN.mkL_at k hX.out
      obtain ⟨b, o, c1, cs, hv, hab, -, hE, hc⟩ := (hr.below hb).atX hmk
      simp only [Value.slice.injEq] at hv
      obtain ⟨rfl, -, -⟩ := hv
      have hc1 := hN.cntL_at hX.out
      have hct2 := Lib.hid (hN.cntL_take hX.out)
      clear hmk
      generalize xs[j] = x at hX hE hc1 hct2
      obtain ⟨a0, a1, a2, x3⟩ := x
      rw [hN_cnt] at hc1
      generalize hK : k + (hN.cntL (xs.take j) : Int) = K at hE ⊢
      have HK := Lib.hid hK
      have hK0 : 0 ≤ K ∧ K + ((3 + hS.cnt x3 : Nat) : Int) ≤ 1000000000 := by omega
      clear hK
      replace hE : tN.R wr w.heap.size cs (K, K + 1, K + 1 + 1, hS.mark (K + 1 + 1 + 1) x3) := hE
      obtain ⟨A3, n3, c3, rfl, e3⟩ := tN_R.1 hE
      have ec0 : wr.cell? ⟨b, o + j * 4, none⟩ = some (.int .i64 (K)) := hc 0 _ rfl
      have ec1 : wr.cell? ⟨b, o + j * 4 + 1, none⟩ = some (.int .i64 (K + 1)) := hc 1 _ rfl
      have ec2 : wr.cell? ⟨b, o + j * 4 + 2, none⟩ = some (.int .i64 (K + 1 + 1)) := hc 2 _ rfl
      have ec3 : wr.cell? ⟨b, o + j * 4 + 3, none⟩ = some (.slice A3 n3 c3) := hc 3 _ rfl
      have y3_0 := tS.more hb.size e3
      have hbr : b < wr.heap.size := Nat.lt_of_lt_of_le hab hb.size
      clear hc hE
      go_wp2_with fail
      refine (nf_held_S _ _ _ _ _ _ y3_0 (by omega)).mono ?_
      rintro e v1 ⟨rfl, b1⟩
      obtain ⟨hc1, -⟩ := bcell b1
      have hbr1 := Nat.lt_of_lt_of_le hbr b1.size
      replace hb := hb.trans (b1.mono hb.size)
      go_wp2
      go_roundw
      case rel => exact ⟨j + 1, by go_num, by omega, by rw [hct2.out, hN_cnt]; have := HK.out; subst this; go_num, hb⟩
      case measure => simp [intOf]; omega
    · obtain rfl : xs.length = j := by omega
      go_wp2
      go_ret
      exact ⟨by rw [List.take_of_length_le (Nat.le_refl _)]; rfl, hb⟩
end Go.Proofs.YtacgcagpaecncaaGreat
namespace Go.Proofs.YtacgcagpaecncaaGreat
open Go.RowKit
set_option maxHeartbeats 4000000
set_option maxRecDepth 100000
theorem nf_mark_PS (A : Option Addr) (n c : Nat) (k : Int) (xs : List Patch) (w : World) (F : Nat → Prop) (hx : tPS.O w F [.slice A n c] xs) (hk : 0 ≤ k ∧ k + (hPS.cnt xs : Int) ≤ 1000000000) :
    Calls Tryz.prog 43 #[.slice A n c, .int .i64 k] w fun e w' => e = .returned (.int .i64 (k + hPS.cnt xs)) ∧ tPS.O w' F [.slice A n c] (hPS.mark k xs) ∧ Chg F w w' := by
  have ow := sl_O.1 hx
  have hcap := ow.read.cap
  obtain rfl : xs.length = n := hcap.1
  have hl : xs.length ≤ 9223372036854775807 := by have h1 := hcap.2; unfold maxLen at h1; omega
  clear hcap
  have hcn : k + (hP.cntL xs : Int) ≤ 1000000000 := hk.2
  clear hx
  go_enter Tryz.func43, Tryz.ntmps43
  go_wp2
  go_loopw [1, 5] (fun q i wr => ∃ j : Nat, i = .int .i64 j ∧ j ≤ xs.length ∧ q = .int .i64 (k + (hP.cntL (xs.take j) : Int)) ∧ OS tP 68 wr F (.slice A xs.length c) ((hP.mkL k xs).take j ++ xs.drop j) ∧ Chg F w wr)
    (fun _ i _ => xs.length - (intOf i).toNat)
  case atStart => exact ⟨0, rfl, by omega, by simp [Hs.cntL], by simpa using ow, Chg.refl _ _⟩
  case round =>
    obtain ⟨j, rfl, hj, rfl, own, hg⟩ := hrel
    by_cases hlt : j < xs.length
    · have hml := Lib.hid (hP.mkL_len k xs)
      have hX := Lib.hid (List.getElem?_eq_getElem hlt)
      have hc1 := hP.cntL_at hX.out
      have hct2 := Lib.hid (hP.cntL_take hX.out)
      have hmk := Lib.hid (hP.mkL_at k hX.out)
      generalize xs[j] = x at hX hc1 hct2 hmk
      obtain ⟨a0, x1, x2, x3⟩ := x
      rw [hP_cnt] at hc1
      generalize hK : k + (hP.cntL (xs.take j) : Int) = K at hmk ⊢
      have HK := Lib.hid hK
      have hK0 : 0 ≤ K ∧ K + ((1 + hSS.cnt x1 + hNS.cnt x2 + hS.cnt x3 : Nat) : Int) ≤ 1000000000 := by omega
      clear hK
      have hyj := Lib.hid (show ((hP.mkL k xs).take j ++ xs.drop j)[j]? = some ((a0, x1, x2, x3) : Patch) by rw [M.mid_at hml.out]; exact hX.out)
      obtain ⟨css, Fs, hole, cs, hcs, hE⟩ := own.openAt hyj.out
      obtain ⟨A1, n1, c1, A2, n2, c2, A3, n3, c3, F1, F2, F3, rfl, o1_0, o2_0, o3_0, t1, t2, t3, r1_2, r1_3, r2_3⟩ := tP_O.1 hE
      obtain ⟨g, rfl, hFg, hFn, hgl, -⟩ := hole.form (List.getElem?_eq_some_iff.1 hyj.out).1
      have q0 : wr.cell? ⟨g, j * 4 + 0, none⟩ = some _ := (hole.cell hcs (j := 0) rfl).1
      have r0 : wr.frozen? ⟨g, j * 4 + 0, none⟩ = false := (hole.cell hcs (j := 0) rfl).2
      have q1 : wr.cell? ⟨g, j * 4 + 1, none⟩ = some _ := (hole.cell hcs (j := 1) rfl).1
      have q2 : wr.cell? ⟨g, j * 4 + 2, none⟩ = some _ := (hole.cell hcs (j := 2) rfl).1
      have q3 : wr.cell? ⟨g, j * 4 + 3, none⟩ = some _ := (hole.cell hcs (j := 3) rfl).1
      rw [Nat.add_zero] at q0 r0
      go_wp2_with fail
      obtain ⟨U1, hU⟩ : ∃ U, U = (wr.setCell ⟨g, j * 4, none⟩ (.int .i64 (K))) := ⟨_, rfl⟩
      rw [← hU]
      have s0_0 := hole.set hcs 0 (by decide) (.int .i64 (K))
      have hole1 := OH.at s0_0.1 hU
      have hcs1 := s0_0.2
      have ch0u : Chg F wr U1 := by rw [hU]; exact Chg.set _ g (j * 4) _ hFg
      have o1_1 : tSS.O U1 F1 [.slice A1 n1 c1] _ := tSS.okeep (fun b hb => by rw [hU]; exact heap_setCell_other _ ⟨g, j * 4, none⟩ b _ (fun e => hFn (by simp only at e; rw [← e]; exact t1 b hb))) o1_0
      have o2_1 : tNS.O U1 F2 [.slice A2 n2 c2] _ := tNS.okeep (fun b hb => by rw [hU]; exact heap_setCell_other _ ⟨g, j * 4, none⟩ b _ (fun e => hFn (by simp only at e; rw [← e]; exact t2 b hb))) o2_0
      have o3_1 : tS.O U1 F3 [.slice A3 n3 c3] _ := tS.okeep (fun b hb => by rw [hU]; exact heap_setCell_other _ ⟨g, j * 4, none⟩ b _ (fun e => hFn (by simp only at e; rw [← e]; exact t3 b hb))) o3_0
      clear hU
      have q0_u0 : U1.cell? ⟨g, j * 4 + 0, none⟩ = some _ := (hole1.cell hcs1 (j := 0) rfl).1
      have r0_u0 : U1.frozen? ⟨g, j * 4 + 0, none⟩ = false := (hole1.cell hcs1 (j := 0) rfl).2
      have q1_u0 : U1.cell? ⟨g, j * 4 + 1, none⟩ = some _ := (hole1.cell hcs1 (j := 1) rfl).1
      have q2_u0 : U1.cell? ⟨g, j * 4 + 2, none⟩ = some _ := (hole1.cell hcs1 (j := 2) rfl).1
      have q3_u0 : U1.cell? ⟨g, j * 4 + 3, none⟩ = some _ := (hole1.cell hcs1 (j := 3) rfl).1
      rw [Nat.add_zero] at q0_u0 r0_u0
      replace hg := hg.trans ch0u
      refine (nf_mark_SS _ _ _ _ _ _ F1 o1_1 (by omega)).mono ?_
      rintro e v1 ⟨rfl, o1_n, ch0⟩
      have ch0w := ch0.wide t1
      have o2_2 := tNS.ochg o2_1 ch0 (fun b h h2 => r1_2 b h2 h)
      have o3_2 := tS.ochg o3_1 ch0 (fun b h h2 => r1_3 b h2 h)
      have o1_2 := o1_n
      have hole1b := hole1.chg ch0w
      replace hg := hg.trans (ch0w.wide hole1.fits)
      have q0_v0 : v1.cell? ⟨g, j * 4 + 0, none⟩ = some _ := (hole1b.cell hcs1 (j := 0) rfl).1
      have r0_v0 : v1.frozen? ⟨g, j * 4 + 0, none⟩ = false := (hole1b.cell hcs1 (j := 0) rfl).2
      have q1_v0 : v1.cell? ⟨g, j * 4 + 1, none⟩ = some _ := (hole1b.cell hcs1 (j := 1) rfl).1
      have q2_v0 : v1.cell? ⟨g, j * 4 + 2, none⟩ = some _ := (hole1b.cell hcs1 (j := 2) rfl).1
      have q3_v0 : v1.cell? ⟨g, j * 4 + 3, none⟩ = some _ := (hole1b.cell hcs1 (j := 3) rfl).1
      rw [Nat.add_zero] at q0_v0 r0_v0
      go_wp2_with fail
      refine (nf_mark_NS _ _ _ _ _ _ F2 o2_2 (by omega)).mono ?_
      rintro e v2 ⟨rfl, o2_n, ch1⟩
      have ch1w := ch1.wide t2
      have o1_3 := tSS.ochg o1_2 ch1 r1_2
      have o3_3 := tS.ochg o3_2 ch1 (fun b h h2 => r2_3 b h2 h)
      have o2_3 := o2_n
      have hole2b := hole1b.chg ch1w
      replace hg := hg.trans (ch1w.wide hole1b.fits)
      have q0_v1 : v2.cell? ⟨g, j * 4 + 0, none⟩ = some _ := (hole2b.cell hcs1 (j := 0) rfl).1
      have r0_v1 : v2.frozen? ⟨g, j * 4 + 0, none⟩ = false := (hole2b.cell hcs1 (j := 0) rfl).2
      have q1_v1 : v2.cell? ⟨g, j * 4 + 1, none⟩ = some _ := (hole2b.cell hcs1 (j := 1) rfl).1
      have q2_v1 : v2.cell? ⟨g, j * 4 + 2, none⟩ = some _ := (hole2b.cell hcs1 (j := 2) rfl).1
      have q3_v1 : v2.cell? ⟨g, j * 4 + 3, none⟩ = some _ := (hole2b.cell hcs1 (j := 3) rfl).1
      rw [Nat.add_zero] at q0_v1 r0_v1
      go_wp2_with fail
      refine (nf_mark_S _ _ _ _ _ _ F3 o3_3 (by omega)).mono ?_
      rintro e v3 ⟨rfl, o3_n, ch2⟩
      have ch2w := ch2.wide t3
      have o1_4 := tSS.ochg o1_3 ch2 r1_3
      have o2_4 := tNS.ochg o2_3 ch2 r2_3
      have o3_4 := o3_n
      have hole3b := hole2b.chg ch2w
      replace hg := hg.trans (ch2w.wide hole2b.fits)
      go_wp2
      go_roundw
      case rel =>
        have h3 := hole3b.fill hcs1 (y := ((K, hSS.mark (K + 1) x1, hNS.mark (K + 1 + hSS.cnt x1) x2, hS.mark (K + 1 + hSS.cnt x1 + hNS.cnt x2) x3) : Patch)) (tP_O.2 ⟨A1, n1, c1, A2, n2, c2, A3, n3, c3, F1, F2, F3, rfl, o1_4, o2_4, o3_4, t1, t2, t3, r1_2, r1_3, r2_3⟩)
        have hmk2 : (hP.mkL k xs)[j]? = some ((K, hSS.mark (K + 1) x1, hNS.mark (K + 1 + hSS.cnt x1) x2, hS.mark (K + 1 + hSS.cnt x1 + hNS.cnt x2) x3) : Patch) := hmk.out
        rw [M.set_mid hml.out hmk2] at h3
        exact ⟨j + 1, by go_num, by omega, by rw [hct2.out, hP_cnt]; have := HK.out; subst this; go_num, h3, hg⟩
      case measure => simp [intOf]; omega
    · obtain rfl : xs.length = j := by omega
      go_wp2
      go_ret
      rw [List.take_of_length_le (by rw [Hs.mkL_len]; omega), List.drop_eq_nil_of_le (by omega), List.append_nil] at own
      exact ⟨by rw [List.take_of_length_le (Nat.le_refl _)]; rfl, sl_O.2 own, hg⟩
theorem nf_held_PS (A : Option Addr) (n c : Nat) (k : Int) (xs : List Patch) (w : World) (hx : tPS.R w w.heap.size [.slice A n c] (hPS.mark k xs)) (hk : 0 ≤ k ∧ k + (hPS.cnt xs : Int) ≤ 1000000000) :
    Calls Tryz.prog 48 #[.slice A n c, .int .i64 k] w fun e w' => e = .returned (.int .i64 (k + hPS.cnt xs)) ∧ Below w.heap.size w w' := by
  have hr : RS tP w w.heap.size (.slice A n c) (hP.mkL k xs) := sl_R.1 hx
  obtain rfl : xs.length = n := by rw [← hr.cap.1, Hs.mkL_len]
  have hl : xs.length ≤ 9223372036854775807 := by have h1 := hr.cap.2; unfold maxLen at h1; omega
  have hcn : k + (hP.cntL xs : Int) ≤ 1000000000 := hk.2
  have hml := Lib.hid (hP.mkL_len k xs)
  clear hx
  go_enter Tryz.func48, Tryz.ntmps48
  go_wp2
  go_loopw [1, 5] (fun q i wr => ∃ j : Nat, i = .int .i64 j ∧ j ≤ xs.length ∧ q = .int .i64 (k + (hP.cntL (xs.take j) : Int)) ∧ Below w.heap.size w wr) (fun _ i _ => xs.length - (intOf i).toNat)
  case atStart => exact ⟨0, rfl, by omega, by simp [Hs.cntL], Below.refl _ _⟩
  case round =>
    obtain ⟨j, rfl, hj, rfl, hb⟩ := hrel
    by_cases hlt : j < xs.length
    · have hX := Lib.hid (List.getElem?_eq_getElem hlt)
      have hmk := hP.mkL_at k hX.out
      obtain ⟨b, o, c1, cs, hv, hab, -, hE, hc⟩ := (hr.below hb).atX hmk
      simp only [Value.slice.injEq] at hv
      obtain ⟨rfl, -, -⟩ := hv
      have hc1 := hP.cntL_at hX.out
      have hct2 := Lib.hid (hP.cntL_take hX.out)
      clear hmk
      generalize xs[j] = x at hX hE hc1 hct2
      obtain ⟨a0, x1, x2, x3⟩ := x
      rw [hP_cnt] at hc1
      generalize hK : k + (hP.cntL (xs.take j) : Int) = K at hE ⊢
      have HK := Lib.hid hK
      have hK0 : 0 ≤ K ∧ K + ((1 + hSS.cnt x1 + hNS.cnt x2 + hS.cnt x3 : Nat) : Int) ≤ 1000000000 := by omega
      clear hK
      replace hE : tP.R wr w.heap.size cs (K, hSS.mark (K + 1) x1, hNS.mark (K + 1 + hSS.cnt x1) x2, hS.mark (K + 1 + hSS.cnt x1 + hNS.cnt x2) x3) := hE
      obtain ⟨A1, n1, c1, A2, n2, c2, A3, n3, c3, rfl, e1, e2, e3⟩ := tP_R.1 hE
      have ec0 : wr.cell? ⟨b, o + j * 4, none⟩ = some (.int .i64 (K)) := hc 0 _ rfl
      have ec1 : wr.cell? ⟨b, o + j * 4 + 1, none⟩ = some (.slice A1 n1 c1) := hc 1 _ rfl
      have ec2 : wr.cell? ⟨b, o + j * 4 + 2, none⟩ = some (.slice A2 n2 c2) := hc 2 _ rfl
      have ec3 : wr.cell? ⟨b, o + j * 4 + 3, none⟩ = some (.slice A3 n3 c3) := hc 3 _ rfl
      have y1_0 := tSS.more hb.size e1
      have y2_0 := tNS.more hb.size e2
      have y3_0 := tS.more hb.size e3
      have hbr : b < wr.heap.size := Nat.lt_of_lt_of_le hab hb.size
      clear hc hE
      go_wp2_with fail
      refine (nf_held_SS _ _ _ _ _ _ y1_0 (by omega)).mono ?_
      rintro e v1 ⟨rfl, b1⟩
      obtain ⟨hc1, -⟩ := bcell b1
      have hbr1 := Nat.lt_of_lt_of_le hbr b1.size
      replace hb := hb.trans (b1.mono hb.size)
      have y2_1 := tNS.later y2_0 b1
      have y3_1 := tS.later y3_0 b1
      go_wp2_with fail
      refine (nf_held_NS _ _ _ _ _ _ y2_1 (by omega)).mono ?_
      rintro e v2 ⟨rfl, b2⟩
      obtain ⟨hc2, -⟩ := bcell b2
      have hbr2 := Nat.lt_of_lt_of_le hbr1 b2.size
      replace hb := hb.trans (b2.mono hb.size)
      have y3_2 := tS.later y3_1 b2
      go_wp2_with fail
      refine (nf_held_S _ _ _ _ _ _ y3_2 (by omega)).mono ?_
      rintro e v3 ⟨rfl, b3⟩
      obtain ⟨hc3, -⟩ := bcell b3
      have hbr3 := Nat.lt_of_lt_of_le hbr2 b3.size
      replace hb := hb.trans (b3.mono hb.size)
      go_wp2
      go_roundw
      case rel => exact ⟨j + 1, by go_num, by omega, by rw [hct2.out, hP_cnt]; have := HK.out; subst this; go_num, hb⟩
      case measure => simp [intOf]; omega
    · obtain rfl : xs.length = j := by omega
      go_wp2
      go_ret
      exact ⟨by rw [List.take_of_length_le (Nat.le_refl _)]; rfl, hb⟩
end Go.Proofs.YtacgcagpaecncaaGreat
namespace Go.Proofs.YtacgcagpaecncaaGreat
open Go.RowKit
set_option maxHeartbeats 4000000
set_option maxRecDepth 100000
theorem nf_mark_TS (A : Option Addr) (n c : Nat) (k : Int) (xs : List (List Clip_)) (w : World) (F : Nat → Prop) (hx : tTS.O w F [.slice A n c] xs) (hk : 0 ≤ k ∧ k + (hTS.cnt xs : Int) ≤ 1000000000) :
    Calls Tryz.prog 42 #[.slice A n c, .int .i64 k] w fun e w' => e = .returned (.int .i64 (k + hTS.cnt xs)) ∧ tTS.O w' F [.slice A n c] (hTS.mark k xs) ∧ Chg F w w' := by
  have ow := sl_O.1 hx
  have hcap := ow.read.cap
  obtain rfl : xs.length = n := hcap.1
  have hl : xs.length ≤ 9223372036854775807 := by have h1 := hcap.2; unfold maxLen at h1; omega
  clear hcap
  have hcn : k + (hT.cntL xs : Int) ≤ 1000000000 := hk.2
  clear hx
  go_enter Tryz.func42, Tryz.ntmps42
  go_wp2
  go_loopw [1, 5] (fun q i wr => ∃ j : Nat, i = .int .i64 j ∧ j ≤ xs.length ∧ q = .int .i64 (k + (hT.cntL (xs.take j) : Int)) ∧ OS tT 95 wr F (.slice A xs.length c) ((hT.mkL k xs).take j ++ xs.drop j) ∧ Chg F w wr)
    (fun _ i _ => xs.length - (intOf i).toNat)
  case atStart => exact ⟨0, rfl, by omega, by simp [Hs.cntL], by simpa using ow, Chg.refl _ _⟩
  case round =>
    obtain ⟨j, rfl, hj, rfl, own, hg⟩ := hrel
    by_cases hlt : j < xs.length
    · have hml := Lib.hid (hT.mkL_len k xs)
      have hX := Lib.hid (List.getElem?_eq_getElem hlt)
      have hc1 := hT.cntL_at hX.out
      have hct2 := Lib.hid (hT.cntL_take hX.out)
      have hmk := Lib.hid (hT.mkL_at k hX.out)
      generalize xs[j] = x at hX hc1 hct2 hmk
      generalize hK : k + (hT.cntL (xs.take j) : Int) = K at hmk ⊢
      have HK := Lib.hid hK
      have hK0 : 0 ≤ K ∧ K + (hT.cnt x : Int) ≤ 1000000000 := by omega
      clear hK
      have hyj := Lib.hid (show ((hT.mkL k xs).take j ++ xs.drop j)[j]? = some x by rw [M.mid_at hml.out]; exact hX.out)
      obtain ⟨css, Fs, hole, cs, hcs, hE⟩ := own.openAt hyj.out
      obtain ⟨A0, n0, c0, rfl⟩ := open_sl (tT.read hE)
      have o0_0 := hE
      obtain ⟨g, rfl, hFg, hFn, hgl, -⟩ := hole.form (List.getElem?_eq_some_iff.1 hyj.out).1
      have q0 : wr.cell? ⟨g, j * 1 + 0, none⟩ = some _ := (hole.cell hcs (j := 0) rfl).1
      rw [Nat.add_zero, Nat.mul_one] at q0
      go_wp2_with fail
      refine (nf_mark_T_ _ _ _ _ _ _ (Fs j) o0_0 (by omega)).mono ?_
      rintro e v1 ⟨rfl, o0_n, ch0⟩
      have ch0w := ch0
      have hole1b := hole.chg ch0w
      replace hg := hg.trans (ch0w.wide hole.fits)
      go_wp2
      go_roundw
      case rel =>
        have h3 := hole1b.fill hcs o0_n
        have hmk2 : (hT.mkL k xs)[j]? = some (hT.mark K x) := hmk.out
        rw [M.set_mid hml.out hmk2] at h3
        exact ⟨j + 1, by go_num, by omega, by rw [hct2.out]; have := HK.out; subst this; go_num, h3, hg⟩
      case measure => simp [intOf]; omega
    · obtain rfl : xs.length = j := by omega
      go_wp2
      go_ret
      rw [List.take_of_length_le (by rw [Hs.mkL_len]; omega), List.drop_eq_nil_of_le (by omega), List.append_nil] at own
      exact ⟨by rw [List.take_of_length_le (Nat.le_refl _)]; rfl, sl_O.2 own, hg⟩
theorem nf_held_TS (A : Option Addr) (n c : Nat) (k : Int) (xs : List (List Clip_)) (w : World) (hx : tTS.R w w.heap.size [.slice A n c] (hTS.mark k xs)) (hk : 0 ≤ k ∧ k + (hTS.cnt xs : Int) ≤ 1000000000) :
    Calls Tryz.prog 46 #[.slice A n c, .int .i64 k] w fun e w' => e = .returned (.int .i64 (k + hTS.cnt xs)) ∧ Below w.heap.size w w' := by
  have hr : RS tT w w.heap.size (.slice A n c) (hT.mkL k xs) := sl_R.1 hx
  obtain rfl : xs.length = n := by rw [← hr.cap.1, Hs.mkL_len]
  have hl : xs.length ≤ 9223372036854775807 := by have h1 := hr.cap.2; unfold maxLen at h1; omega
  have hcn : k + (hT.cntL xs : Int) ≤ 1000000000 := hk.2
  have hml := Lib.hid (hT.mkL_len k xs)
  clear hx
  go_enter Tryz.func46, Tryz.ntmps46
  go_wp2
  go_loopw [1, 5] (fun q i wr => ∃ j : Nat, i = .int .i64 j ∧ j ≤ xs.length ∧ q = .int .i64 (k + (hT.cntL (xs.take j) : Int)) ∧ Below w.heap.size w wr) (fun _ i _ => xs.length - (intOf i).toNat)
  case atStart => exact ⟨0, rfl, by omega, by simp [Hs.cntL], Below.refl _ _⟩
  case round =>
    obtain ⟨j, rfl, hj, rfl, hb⟩ := hrel
    by_cases hlt : j < xs.length
    · have hX := Lib.hid (List.getElem?_eq_getElem hlt)
      have hmk := hT.mkL_at k hX.out
      obtain ⟨b, o, c1, cs, hv, hab, -, hE, hc⟩ := (hr.below hb).atX hmk
      simp only [Value.slice.injEq] at hv
      obtain ⟨rfl, -, -⟩ := hv
      have hc1 := hT.cntL_at hX.out
      have hct2 := Lib.hid (hT.cntL_take hX.out)
      clear hmk
      generalize xs[j] = x at hX hE hc1 hct2
      generalize hK : k + (hT.cntL (xs.take j) : Int) = K at hE ⊢
      have HK := Lib.hid hK
      have hK0 : 0 ≤ K ∧ K + (hT.cnt x : Int) ≤ 1000000000 := by omega
      clear hK
      obtain ⟨A0, n0, c0, rfl⟩ := open_sl hE
      have ec0 : wr.cell? ⟨b, o + j * 1, none⟩ = some (.slice A0 n0 c0) := hc 0 _ rfl
      rw [Nat.mul_one] at ec0
      have y0_0 := tT.more hb.size hE
      have hbr : b < wr.heap.size := Nat.lt_of_lt_of_le hab hb.size
      clear hc hE
      go_wp2_with fail
      refine (nf_held_T_ _ _ _ _ _ _ y0_0 (by omega)).mono ?_
      rintro e v1 ⟨rfl, b1⟩
      obtain ⟨hc1, -⟩ := bcell b1
      have hbr1 := Nat.lt_of_lt_of_le hbr b1.size
      replace hb := hb.trans (b1.mono hb.size)
      go_wp2
      go_roundw
      case rel => exact ⟨j + 1, by go_num, by omega, by rw [hct2.out]; have := HK.out; subst this; go_num, hb⟩
      case measure => simp [intOf]; omega
    · obtain rfl : xs.length = j := by omega
      go_wp2
      go_ret
      exact ⟨by rw [List.take_of_length_le (Nat.le_refl _)]; rfl, hb⟩
end Go.Proofs.YtacgcagpaecncaaGreat
namespace Go.Proofs.YtacgcagpaecncaaGreat
open Go.RowKit
set_option maxHeartbeats 4000000
set_option maxRecDepth 100000
theorem nf_mark_Z (a0 : Int) (A1 : Option Addr) (n1 c1 : Nat) (A2 : Option Addr) (n2 c2 : Nat) (A3 : Option Addr) (n3 c3 : Nat) (A4 : Option Addr) (n4 c4 : Nat) (A5 : Option Addr) (n5 c5 : Nat) (k : Int) (x1 : List (List Int)) (x2 : List (List Clip_)) (x3 : List Int) (x4 : List Patch) (x5 : List Strip) (w : World) (F : Nat → Prop) (hx : tZ.O w F [.int .i64 a0, .slice A1 n1 c1, .slice A2 n2 c2, .slice A3 n3 c3, .slice A4 n4 c4, .slice A5 n5 c5] (a0, x1, x2, x3, x4, x5)) (hF : ∀ b, F b → b < w.heap.size) (hk : 0 ≤ k ∧ k + (hZ.cnt ((a0, x1, x2, x3, x4, x5) : Sess) : Int) ≤ 1000000000) :
    Calls Tryz.prog 17 #[.agg #[.int .i64 a0, .slice A1 n1 c1, .slice A2 n2 c2, .slice A3 n3 c3, .slice A4 n4 c4, .slice A5 n5 c5], .int .i64 k] w fun e w' => e = .returned (.int .i64 (k + hZ.cnt ((a0, x1, x2, x3, x4, x5) : Sess))) ∧ tZ.O w' F [.int .i64 a0, .slice A1 n1 c1, .slice A2 n2 c2, .slice A3 n3 c3, .slice A4 n4 c4, .slice A5 n5 c5] (hZ.mark k (a0, x1, x2, x3, x4, x5)) ∧ Chg F w w' := by
  obtain ⟨W, hW⟩ : ∃ W, W = w.alloc (.cells #[.int .i64 a0, .slice A1 n1 c1, .slice A2 n2 c2, .slice A3 n3 c3, .slice A4 n4 c4, .slice A5 n5 c5] 39) := ⟨_, rfl⟩
  have B0 : Below w.heap.size w W := by rw [hW]; exact (Below.refl _ _).alloc (Nat.le_refl _) _
  have p1 : W.cell? ⟨w.heap.size, 1, none⟩ = some (.slice A1 n1 c1) := by rw [hW]; simp [go_sem]
  have p2 : W.cell? ⟨w.heap.size, 2, none⟩ = some (.slice A2 n2 c2) := by rw [hW]; simp [go_sem]
  have p3 : W.cell? ⟨w.heap.size, 3, none⟩ = some (.slice A3 n3 c3) := by rw [hW]; simp [go_sem]
  have p4 : W.cell? ⟨w.heap.size, 4, none⟩ = some (.slice A4 n4 c4) := by rw [hW]; simp [go_sem]
  have p5 : W.cell? ⟨w.heap.size, 5, none⟩ = some (.slice A5 n5 c5) := by rw [hW]; simp [go_sem]
  have l0 : w.heap.size < W.heap.size := by rw [hW]; simp
  have hx2 : tZ.O W F [.int .i64 a0, .slice A1 n1 c1, .slice A2 n2 c2, .slice A3 n3 c3, .slice A4 n4 c4, .slice A5 n5 c5] (a0, x1, x2, x3, x4, x5) := tZ.okeep (fun b h => B0.block b (hF b h)) hx
  obtain ⟨A19, n19, c19, A29, n29, c29, A39, n39, c39, A49, n49, c49, A59, n59, c59, F1, F2, F3, F4, F5, he, o1_0, o2_0, o3_0, o4_0, o5_0, t1, t2, t3, t4, t5, r1_2, r1_3, r1_4, r1_5, r2_3, r2_4, r2_5, r3_4, r3_5, r4_5⟩ := tZ_O.1 hx2
  simp only [List.cons.injEq, Value.slice.injEq, and_true, true_and] at he
  obtain ⟨⟨rfl, rfl, rfl⟩, ⟨rfl, rfl, rfl⟩, ⟨rfl, rfl, rfl⟩, ⟨rfl, rfl, rfl⟩, ⟨rfl, rfl, rfl⟩⟩ := he
  have hw0 : ¬ F w.heap.size := fun h => absurd (hF _ h) (Nat.lt_irrefl _)
  have HW := Lib.hid hW
  clear hW hx hx2
  rw [hZ_cnt] at *
  have cz1 : 0 ≤ (hSS.cnt x1 : Int) := Int.natCast_nonneg _
  have cz2 : 0 ≤ (hTS.cnt x2 : Int) := Int.natCast_nonneg _
  have cz3 : 0 ≤ (hS.cnt x3 : Int) := Int.natCast_nonneg _
  have cz4 : 0 ≤ (hPS.cnt x4 : Int) := Int.natCast_nonneg _
  have cz5 : 0 ≤ (hM.cnt x5 : Int) := Int.natCast_nonneg _
  go_enter Tryz.func17, Tryz.ntmps17
  go_wp2_with fail
  rw [← HW.out]
  refine (nf_mark_SS _ _ _ _ _ _ F1 o1_0 (by omega)).mono ?_
  rintro e w1 ⟨rfl, o1_n, ch0⟩
  have o2_1 := tTS.ochg o2_0 ch0 (fun b h h2 => r1_2 b h2 h)
  have o3_1 := tS.ochg o3_0 ch0 (fun b h h2 => r1_3 b h2 h)
  have o4_1 := tPS.ochg o4_0 ch0 (fun b h h2 => r1_4 b h2 h)
  have o5_1 := tM.ochg o5_0 ch0 (fun b h h2 => r1_5 b h2 h)
  have o1_1 := o1_n
  have l1 := Nat.lt_of_lt_of_le l0 ch0.size
  have bl0 := ch0.block w.heap.size l0 (fun h => hw0 (t1 _ h))
  have p2_1 : w1.cell? ⟨w.heap.size, 2, none⟩ = some (.slice A2 n2 c2) := by rw [World.cell?_of_block bl0]; exact p2
  have p3_1 : w1.cell? ⟨w.heap.size, 3, none⟩ = some (.slice A3 n3 c3) := by rw [World.cell?_of_block bl0]; exact p3
  have p4_1 : w1.cell? ⟨w.heap.size, 4, none⟩ = some (.slice A4 n4 c4) := by rw [World.cell?_of_block bl0]; exact p4
  have p5_1 : w1.cell? ⟨w.heap.size, 5, none⟩ = some (.slice A5 n5 c5) := by rw [World.cell?_of_block bl0]; exact p5
  clear bl0
  go_wp2_with fail
  refine (nf_mark_TS _ _ _ _ _ _ F2 o2_1 (by omega)).mono ?_
  rintro e w2 ⟨rfl, o2_n, ch1⟩
  have o1_2 := tSS.ochg o1_1 ch1 r1_2
  have o3_2 := tS.ochg o3_1 ch1 (fun b h h2 => r2_3 b h2 h)
  have o4_2 := tPS.ochg o4_1 ch1 (fun b h h2 => r2_4 b h2 h)
  have o5_2 := tM.ochg o5_1 ch1 (fun b h h2 => r2_5 b h2 h)
  have o2_2 := o2_n
  have l2 := Nat.lt_of_lt_of_le l1 ch1.size
  have bl1 := ch1.block w.heap.size l1 (fun h => hw0 (t2 _ h))
  have p3_2 : w2.cell? ⟨w.heap.size, 3, none⟩ = some (.slice A3 n3 c3) := by rw [World.cell?_of_block bl1]; exact p3_1
  have p4_2 : w2.cell? ⟨w.heap.size, 4, none⟩ = some (.slice A4 n4 c4) := by rw [World.cell?_of_block bl1]; exact p4_1
  have p5_2 : w2.cell? ⟨w.heap.size, 5, none⟩ = some (.slice A5 n5 c5) := by rw [World.cell?_of_block bl1]; exact p5_1
  clear bl1
  go_wp2_with fail
  refine (nf_mark_S _ _ _ _ _ _ F3 o3_2 (by omega)).mono ?_
  rintro e w3 ⟨rfl, o3_n, ch2⟩
  have o1_3 := tSS.ochg o1_2 ch2 r1_3
  have o2_3 := tTS.ochg o2_2 ch2 r2_3
  have o4_3 := tPS.ochg o4_2 ch2 (fun b h h2 => r3_4 b h2 h)
  have o5_3 := tM.ochg o5_2 ch2 (fun b h h2 => r3_5 b h2 h)
  have o3_3 := o3_n
  have l3 := Nat.lt_of_lt_of_le l2 ch2.size
  have bl2 := ch2.block w.heap.size l2 (fun h => hw0 (t3 _ h))
  have p4_3 : w3.cell? ⟨w.heap.size, 4, none⟩ = some (.slice A4 n4 c4) := by rw [World.cell?_of_block bl2]; exact p4_2
  have p5_3 : w3.cell? ⟨w.heap.size, 5, none⟩ = some (.slice A5 n5 c5) := by rw [World.cell?_of_block bl2]; exact p5_2
  clear bl2
  go_wp2_with fail
  refine (nf_mark_PS _ _ _ _ _ _ F4 o4_3 (by omega)).mono ?_
  rintro e w4 ⟨rfl, o4_n, ch3⟩
  have o1_4 := tSS.ochg o1_3 ch3 r1_4
  have o2_4 := tTS.ochg o2_3 ch3 r2_4
  have o3_4 := tS.ochg o3_3 ch3 r3_4
  have o5_4 := tM.ochg o5_3 ch3 (fun b h h2 => r4_5 b h2 h)
  have o4_4 := o4_n
  have l4 := Nat.lt_of_lt_of_le l3 ch3.size
  have bl3 := ch3.block w.heap.size l3 (fun h => hw0 (t4 _ h))
  have p5_4 : w4.cell? ⟨w.heap.size, 5, none⟩ = some (.slice A5 n5 c5) := by rw [World.cell?_of_block bl3]; exact p5_3
  clear bl3
  go_wp2_with fail
  refine (nf_mark_M _ _ _ _ _ _ F5 o5_4 (fun b h => Nat.lt_of_lt_of_le (hF b (t5 b h)) (by omega)) (by omega)).mono ?_
  rintro e w5 ⟨rfl, o5_n, ch4⟩
  have o1_5 := tSS.ochg o1_4 ch4 r1_5
  have o2_5 := tTS.ochg o2_4 ch4 r2_5
  have o3_5 := tS.ochg o3_4 ch4 r3_5
  have o4_5 := tPS.ochg o4_4 ch4 r4_5
  have o5_5 := o5_n
  have l5 := Nat.lt_of_lt_of_le l4 ch4.size
  have bl4 := ch4.block w.heap.size l4 (fun h => hw0 (t5 _ h))
  clear bl4
  go_wp2
  go_ret
  rw [hZ_mark]
  refine ⟨ret_int (by omega), tZ_O.2 ⟨A1, n1, c1, A2, n2, c2, A3, n3, c3, A4, n4, c4, A5, n5, c5, F1, F2, F3, F4, F5, rfl, ?_, ?_, ?_, ?_, ?_, t1, t2, t3, t4, t5, r1_2, r1_3, r1_4, r1_5, r2_3, r2_4, r2_5, r3_4, r3_5, r4_5⟩, (((((Chg.of_below B0 F).trans (ch0.wide t1)).trans (ch1.wide t2)).trans (ch2.wide t3)).trans (ch3.wide t4)).trans (ch4.wide t5)⟩
  · exact o1_5
  · exact o2_5
  · exact o3_5
  · exact o4_5
  · exact o5_5
theorem nf_held_Z (a0 : Int) (A1 : Option Addr) (n1 c1 : Nat) (A2 : Option Addr) (n2 c2 : Nat) (A3 : Option Addr) (n3 c3 : Nat) (A4 : Option Addr) (n4 c4 : Nat) (A5 : Option Addr) (n5 c5 : Nat) (k : Int) (x1 : List (List Int)) (x2 : List (List Clip_)) (x3 : List Int) (x4 : List Patch) (x5 : List Strip) (w : World) (hx : tZ.R w w.heap.size [.int .i64 a0, .slice A1 n1 c1, .slice A2 n2 c2, .slice A3 n3 c3, .slice A4 n4 c4, .slice A5 n5 c5] (hZ.mark k (a0, x1, x2, x3, x4, x5))) (hk : 0 ≤ k ∧ k + (hZ.cnt ((a0, x1, x2, x3, x4, x5) : Sess) : Int) ≤ 1000000000) :
    Calls Tryz.prog 19 #[.agg #[.int .i64 a0, .slice A1 n1 c1, .slice A2 n2 c2, .slice A3 n3 c3, .slice A4 n4 c4, .slice A5 n5 c5], .int .i64 k] w fun e w' => e = .returned (.int .i64 (k + hZ.cnt ((a0, x1, x2, x3, x4, x5) : Sess))) ∧ Below w.heap.size w w' := by
  obtain ⟨W, hW⟩ : ∃ W, W = w.alloc (.cells #[.int .i64 a0, .slice A1 n1 c1, .slice A2 n2 c2, .slice A3 n3 c3, .slice A4 n4 c4, .slice A5 n5 c5] 39) := ⟨_, rfl⟩
  have B0 : Below w.heap.size w W := by rw [hW]; exact (Below.refl _ _).alloc (Nat.le_refl _) _
  have p1 : W.cell? ⟨w.heap.size, 1, none⟩ = some (.slice A1 n1 c1) := by rw [hW]; simp [go_sem]
  have p2 : W.cell? ⟨w.heap.size, 2, none⟩ = some (.slice A2 n2 c2) := by rw [hW]; simp [go_sem]
  have p3 : W.cell? ⟨w.heap.size, 3, none⟩ = some (.slice A3 n3 c3) := by rw [hW]; simp [go_sem]
  have p4 : W.cell? ⟨w.heap.size, 4, none⟩ = some (.slice A4 n4 c4) := by rw [hW]; simp [go_sem]
  have p5 : W.cell? ⟨w.heap.size, 5, none⟩ = some (.slice A5 n5 c5) := by rw [hW]; simp [go_sem]
  have l0 : w.heap.size < W.heap.size := by rw [hW]; simp
  obtain ⟨A19, n19, c19, A29, n29, c29, A39, n39, c39, A49, n49, c49, A59, n59, c59, he, e1, e2, e3, e4, e5⟩ := tZ_R.1 hx
  simp only [List.cons.injEq, Value.slice.injEq, and_true] at he
  obtain ⟨-, ⟨rfl, rfl, rfl⟩, ⟨rfl, rfl, rfl⟩, ⟨rfl, rfl, rfl⟩, ⟨rfl, rfl, rfl⟩, ⟨rfl, rfl, rfl⟩⟩ := he
  have y1_0 : tSS.R W W.heap.size [.slice A1 n1 c1] (hSS.mark (k) x1) := tSS.later (cast (by simp [hU]) e1) B0
  have y2_0 : tTS.R W W.heap.size [.slice A2 n2 c2] (hTS.mark (k + hSS.cnt x1) x2) := tTS.later (cast (by simp [hU]) e2) B0
  have y3_0 : tS.R W W.heap.size [.slice A3 n3 c3] (hS.mark (k + hSS.cnt x1 + hTS.cnt x2) x3) := tS.later (cast (by simp [hU]) e3) B0
  have y4_0 : tPS.R W W.heap.size [.slice A4 n4 c4] (hPS.mark (k + hSS.cnt x1 + hTS.cnt x2 + hS.cnt x3) x4) := tPS.later (cast (by simp [hU]) e4) B0
  have y5_0 : tM.R W W.heap.size [.slice A5 n5 c5] (hM.mark (k + hSS.cnt x1 + hTS.cnt x2 + hS.cnt x3 + hPS.cnt x4) x5) := tM.later (cast (by simp [hU]) e5) B0
  have HW := Lib.hid hW
  clear hW hx
  rw [hZ_cnt] at *
  have c1 : 0 ≤ (hSS.cnt x1 : Int) := Int.natCast_nonneg _
  have c2 : 0 ≤ (hTS.cnt x2 : Int) := Int.natCast_nonneg _
  have c3 : 0 ≤ (hS.cnt x3 : Int) := Int.natCast_nonneg _
  have c4 : 0 ≤ (hPS.cnt x4 : Int) := Int.natCast_nonneg _
  have c5 : 0 ≤ (hM.cnt x5 : Int) := Int.natCast_nonneg _
  go_enter Tryz.func19, Tryz.ntmps19
  go_wp2_with fail
  rw [← HW.out]
  refine (nf_held_SS _ _ _ _ _ _ y1_0 (by omega)).mono ?_
  rintro e w1 ⟨rfl, b1⟩
  obtain ⟨hc1, -⟩ := bcell b1
  have l1 := Nat.lt_of_lt_of_le l0 b1.size
  have B1 := bel_trans B0 b1
  have y2_1 := tTS.later y2_0 b1
  have y3_1 := tS.later y3_0 b1
  have y4_1 := tPS.later y4_0 b1
  have y5_1 := tM.later y5_0 b1
  go_wp2_with fail
  refine (nf_held_TS _ _ _ _ _ _ y2_1 (by omega)).mono ?_
  rintro e w2 ⟨rfl, b2⟩
  obtain ⟨hc2, -⟩ := bcell b2
  have l2 := Nat.lt_of_lt_of_le l1 b2.size
  have B2 := bel_trans B1 b2
  have y3_2 := tS.later y3_1 b2
  have y4_2 := tPS.later y4_1 b2
  have y5_2 := tM.later y5_1 b2
  go_wp2_with fail
  refine (nf_held_S _ _ _ _ _ _ y3_2 (by omega)).mono ?_
  rintro e w3 ⟨rfl, b3⟩
  obtain ⟨hc3, -⟩ := bcell b3
  have l3 := Nat.lt_of_lt_of_le l2 b3.size
  have B3 := bel_trans B2 b3
  have y4_3 := tPS.later y4_2 b3
  have y5_3 := tM.later y5_2 b3
  go_wp2_with fail
  refine (nf_held_PS _ _ _ _ _ _ y4_3 (by omega)).mono ?_
  rintro e w4 ⟨rfl, b4⟩
  obtain ⟨hc4, -⟩ := bcell b4
  have l4 := Nat.lt_of_lt_of_le l3 b4.size
  have B4 := bel_trans B3 b4
  have y5_4 := tM.later y5_3 b4
  go_wp2_with fail
  refine (nf_held_M _ _ _ _ _ _ y5_4 (by omega)).mono ?_
  rintro e w5 ⟨rfl, b5⟩
  obtain ⟨hc5, -⟩ := bcell b5
  have l5 := Nat.lt_of_lt_of_le l4 b5.size
  have B5 := bel_trans B4 b5
  go_wp2
  go_ret
  exact ⟨ret_int (by omega), B5⟩
end Go.Proofs.YtacgcagpaecncaaGreat
namespace Go.Proofs.YtacgcagpaecncaaGreat
open Go.RowKit
set_option maxHeartbeats 4000000
set_option maxRecDepth 100000
theorem nf_mark_Y (p : Int) (A : Option Addr) (n c : Nat) (Ab : Option Addr) (nb cb : Nat) (Ac : Option Addr) (nc cc : Nat) (Ad : Option Addr) (nd cd : Nat) (Ae : Option Addr) (ne ce : Nat) (k : Int) (x : Sess) (w : World) (F : Nat → Prop) (hx : tZ.O w F [.int .i64 p, .slice A n c, .slice Ab nb cb, .slice Ac nc cc, .slice Ad nd cd, .slice Ae ne ce] x) (hF : ∀ b, F b → b < w.heap.size) (hk : 0 ≤ k ∧ k + (hZ.cnt x : Int) ≤ 1000000000) :
    Calls Tryz.prog 17 #[.agg #[.int .i64 p, .slice A n c, .slice Ab nb cb, .slice Ac nc cc, .slice Ad nd cd, .slice Ae ne ce], .int .i64 k] w fun e w' => e = .returned (.int .i64 (k + hZ.cnt x)) ∧ tZ.O w' F [.int .i64 p, .slice A n c, .slice Ab nb cb, .slice Ac nc cc, .slice Ad nd cd, .slice Ae ne ce] (hZ.mark k x) ∧ Chg F w w' := by
  obtain ⟨a0, x1, x2, x3, x4, x5⟩ := x
  obtain ⟨A1, n1, c1, A2, n2, c2, A3, n3, c3, A4, n4, c4, A5, n5, c5, hcs, h1, h2, h3, h4, h5⟩ := tZ_R.1 (tZ.read hx)
  simp only [List.cons.injEq, Value.int.injEq, Value.slice.injEq, true_and, and_true] at hcs
  obtain ⟨rfl, ⟨rfl, rfl, rfl⟩, ⟨rfl, rfl, rfl⟩, ⟨rfl, rfl, rfl⟩, ⟨rfl, rfl, rfl⟩, ⟨rfl, rfl, rfl⟩⟩ := hcs
  exact nf_mark_Z _ _ _ _ _ _ _ _ _ _ _ _ _ _ _ _ _ _ _ _ _ _ _ _ hx hF hk
theorem nf_held_Y (p : Int) (A : Option Addr) (n c : Nat) (Ab : Option Addr) (nb cb : Nat) (Ac : Option Addr) (nc cc : Nat) (Ad : Option Addr) (nd cd : Nat) (Ae : Option Addr) (ne ce : Nat) (k : Int) (x : Sess) (w : World) (hx : tZ.R w w.heap.size [.int .i64 p, .slice A n c, .slice Ab nb cb, .slice Ac nc cc, .slice Ad nd cd, .slice Ae ne ce] (hZ.mark k x)) (hk : 0 ≤ k ∧ k + (hZ.cnt x : Int) ≤ 1000000000) :
    Calls Tryz.prog 19 #[.agg #[.int .i64 p, .slice A n c, .slice Ab nb cb, .slice Ac nc cc, .slice Ad nd cd, .slice Ae ne ce], .int .i64 k] w fun e w' => e = .returned (.int .i64 (k + hZ.cnt x)) ∧ Below w.heap.size w w' := by
  obtain ⟨a0, x1, x2, x3, x4, x5⟩ := x
  have hx2 := hx
  rw [hZ_mark] at hx2
  obtain ⟨A1, n1, c1, A2, n2, c2, A3, n3, c3, A4, n4, c4, A5, n5, c5, hcs, h1, h2, h3, h4, h5⟩ := tZ_R.1 hx2
  simp only [List.cons.injEq, Value.int.injEq, Value.slice.injEq, true_and, and_true] at hcs
  obtain ⟨rfl, ⟨rfl, rfl, rfl⟩, ⟨rfl, rfl, rfl⟩, ⟨rfl, rfl, rfl⟩, ⟨rfl, rfl, rfl⟩, ⟨rfl, rfl, rfl⟩⟩ := hcs
  exact nf_held_Z _ _ _ _ _ _ _ _ _ _ _ _ _ _ _ _ _ _ _ _ _ _ _ hx hk
theorem impl_MuteTracks_Y (p : Int) (A : Option Addr) (n c : Nat) (Ab : Option Addr) (nb cb : Nat) (Ac : Option Addr) (nc cc : Nat) (Ad : Option Addr) (nd cd : Nat) (Ae : Option Addr) (ne ce : Nat) (KA : Option Addr) (kn kc : Nat) (x : Sess) (keep : List Int) (w : World) (hx : tZ.R w w.heap.size [.int .i64 p, .slice A n c, .slice Ab nb cb, .slice Ac nc cc, .slice Ad nd cd, .slice Ae ne ce] x) (hy : tS.R w w.heap.size [.slice KA kn kc] keep) (hkn : kn ≤ 1000000000) (hn : hZ.sz x ≤ 100000000) :
    Calls Tryz.prog 15 #[.agg #[.int .i64 p, .slice A n c, .slice Ab nb cb, .slice Ac nc cc, .slice Ad nd cd, .slice Ae ne ce], .slice KA kn kc] w fun e w' => ∃ p' A' n' c' Ab' nb' cb' Ac' nc' cc' Ad' nd' cd' Ae' ne' ce', e = .returned (.tuple #[.agg #[.int .i64 p', .slice A' n' c', .slice Ab' nb' cb', .slice Ac' nc' cc', .slice Ad' nd' cd', .slice Ae' ne' ce'], .int .i64 (M.muteR x keep).2]) ∧ tZ.O w' (Iv w.heap.size w'.heap.size) [.int .i64 p', .slice A' n' c', .slice Ab' nb' cb', .slice Ac' nc' cc', .slice Ad' nd' cd', .slice Ae' ne' ce'] (M.muteR x keep).1 ∧ Below w.heap.size w w' := by
  obtain ⟨a0, x1, x2, x3, x4, x5⟩ := x
  obtain ⟨A1, n1, c1, A2, n2, c2, A3, n3, c3, A4, n4, c4, A5, n5, c5, hcs, h1, h2, h3, h4, h5⟩ := tZ_R.1 (hx)
  simp only [List.cons.injEq, Value.int.injEq, Value.slice.injEq, true_and, and_true] at hcs
  obtain ⟨rfl, ⟨rfl, rfl, rfl⟩, ⟨rfl, rfl, rfl⟩, ⟨rfl, rfl, rfl⟩, ⟨rfl, rfl, rfl⟩, ⟨rfl, rfl, rfl⟩⟩ := hcs
  exact impl_MuteTracks _ _ _ _ _ _ _ _ _ _ _ _ _ _ _ _ _ _ _ _ _ _ _ _ _ _ h1 h2 h3 h4 h5 (tS_R.1 hy).ri hkn hn
theorem spec_MuteTracks_Y (p : Int) (A : Option Addr) (n c : Nat) (Ab : Option Addr) (nb cb : Nat) (Ac : Option Addr) (nc cc : Nat) (Ad : Option Addr) (nd cd : Nat) (Ae : Option Addr) (ne ce : Nat) (KA : Option Addr) (kn kc : Nat) (x : Sess) (keep : List Int) (w : World) (hx : tZ.R w w.heap.size [.int .i64 p, .slice A n c, .slice Ab nb cb, .slice Ac nc cc, .slice Ad nd cd, .slice Ae ne ce] x) (hy : tS.R w w.heap.size [.slice KA kn kc] keep) (hkn : kn ≤ 1000000000) (hn : hZ.sz x ≤ 100000000) :
    Calls Tryz.prog 13 #[.agg #[.int .i64 p, .slice A n c, .slice Ab nb cb, .slice Ac nc cc, .slice Ad nd cd, .slice Ae ne ce], .slice KA kn kc] w fun e w' => ∃ p' A' n' c' Ab' nb' cb' Ac' nc' cc' Ad' nd' cd' Ae' ne' ce', e = .returned (.tuple #[.agg #[.int .i64 p', .slice A' n' c', .slice Ab' nb' cb', .slice Ac' nc' cc', .slice Ad' nd' cd', .slice Ae' ne' ce'], .int .i64 (M.muteR x keep).2]) ∧ tZ.O w' (Iv w.heap.size w'.heap.size) [.int .i64 p', .slice A' n' c', .slice Ab' nb' cb', .slice Ac' nc' cc', .slice Ad' nd' cd', .slice Ae' ne' ce'] (M.muteR x keep).1 ∧ Below w.heap.size w w' := by
  obtain ⟨a0, x1, x2, x3, x4, x5⟩ := x
  obtain ⟨A1, n1, c1, A2, n2, c2, A3, n3, c3, A4, n4, c4, A5, n5, c5, hcs, h1, h2, h3, h4, h5⟩ := tZ_R.1 (hx)
  simp only [List.cons.injEq, Value.int.injEq, Value.slice.injEq, true_and, and_true] at hcs
  obtain ⟨rfl, ⟨rfl, rfl, rfl⟩, ⟨rfl, rfl, rfl⟩, ⟨rfl, rfl, rfl⟩, ⟨rfl, rfl, rfl⟩, ⟨rfl, rfl, rfl⟩⟩ := hcs
  exact spec_MuteTracks _ _ _ _ _ _ _ _ _ _ _ _ _ _ _ _ _ _ _ _ _ _ _ _ _ _ h1 h2 h3 h4 h5 (tS_R.1 hy).ri hkn hn
end Go.Proofs.YtacgcagpaecncaaGreat
