import Derived.Test.YtckihflfjecpbaaW23
import Derived.Lib.QuietBelow
import Derived.BigQuiet
namespace Go.Proofs.Ytckihflfjecpbaa
open Go.RowKit Go.Sort
set_option maxHeartbeats 400000
set_option maxRecDepth 100000
theorem M.all_upto {n : Nat} {f : Nat → Bool} (h : ∀ j, j < n → f j = true) : (List.range n).all f = true := by
  rw [List.all_eq_true]
  intro j hj
  exact h j (List.mem_range.1 hj)
theorem M.all_not {n k : Nat} {f : Nat → Bool} (hk : k < n) (h : f k = false) : (List.range n).all f = false := by
  rw [List.all_eq_false]
  exact ⟨k, List.mem_range.2 hk, by simp [h]⟩
theorem impl_isCurve (A : Option Addr) (n c : Nat) (xs : List (Int × Int)) (w : World) (hx : RA pt 2 w w.heap.size A n xs) (hn : n ≤ 1000000000) :
    Calls Try.prog 74 #[.agg #[.slice A n c]] w fun e w' => e = .returned (.bool (M.curveOk xs)) ∧ Below w.heap.size w w' := by
  have hl := Lib.hid hx.len
  have hbw : Below w.heap.size w (w.alloc (.cells #[.slice A n c] 30)) := (Below.refl _ _).alloc (Nat.le_refl _) _
  have hself := lay_cell w (.slice A n c) 30
  have hsize : (w.alloc (.cells #[.slice A n c] 30)).heap.size = w.heap.size + 1 := by simp
  go_enter Try.func74, Try.ntmps74
  go_wp2
  go_loopw [3, 4, 8] (fun _ _ i wr => ∃ k : Nat, i = .int .i64 k ∧ k ≤ n ∧ Hid (∀ j, j < k → M.stepOk xs j = true) ∧ Below (w.heap.size + 1) (w.alloc (.cells #[.slice A n c] 30)) wr) (fun _ _ i _ => n - (intOf i).toNat)
  case atStart => exact ⟨0, rfl, by omega, Lib.hid (by omega), Below.refl _ _⟩
  case round =>
    obtain ⟨k, rfl, hk, H, hb⟩ := hrel
    have hbb : Below w.heap.size w wr := hbw.trans (hb.mono (by omega))
    have hsz : w.heap.size + 1 ≤ wr.heap.size := by rw [← hsize]; exact hb.size
    have hv : wr.cell? ⟨w.heap.size, 0, none⟩ = some (.slice A n c) := by rw [hb.cell (by simp)]; exact hself
    by_cases hlt : k < n
    · obtain ⟨b, o, ⟨p0, p1⟩, rfl, hab, X, hc⟩ := (hx.below hbb).at pt_len (by decide) hlt
      have hc0 : wr.cell? ⟨b, o + k * 2, none⟩ = some (.int .i64 p0) := hc 0 _ rfl
      have hc1 : wr.cell? ⟨b, o + k * 2 + 1, none⟩ = some (.int .i64 p1) := hc 1 _ rfl
      clear hc
      obtain ⟨⟨r0, r1⟩, Z, hr⟩ := (hx.below hbb).cells pt_len (by decide) (k := k - 1) (by omega)
      have hr0 : wr.cell? ⟨b, o + (k - 1) * 2, none⟩ = some (.int .i64 r0) := hr 0 _ rfl
      clear hr
      have hs4 : (wr.alloc (.cells #[.int .i64 p0, .int .i64 p1] 34)).heap.size = wr.heap.size + 1 := by simp
      have hbr : b < (wr.alloc (.cells #[.int .i64 p0, .int .i64 p1] 34)).heap.size := by omega
      have hbv : w.heap.size < (wr.alloc (.cells #[.int .i64 p0, .int .i64 p1] 34)).heap.size := by omega
      have hbn : wr.heap.size < (wr.alloc (.cells #[.int .i64 p0, .int .i64 p1] 34)).heap.size := by omega
      have q0 : (wr.alloc (.cells #[.int .i64 p0, .int .i64 p1] 34)).cell? ⟨wr.heap.size, 0, none⟩ = some (.int .i64 p0) := by rw [cell_of_row _ wr.heap.size 0 _ 34 (0, 0) (heap_alloc_new wr _)]; rfl
      have q1 : (wr.alloc (.cells #[.int .i64 p0, .int .i64 p1] 34)).cell? ⟨wr.heap.size, 1, none⟩ = some (.int .i64 p1) := by rw [cell_of_row _ wr.heap.size 1 _ 34 (0, 0) (heap_alloc_new wr _)]; rfl
      have q2 : (wr.alloc (.cells #[.int .i64 p0, .int .i64 p1] 34)).cell? ⟨w.heap.size, 0, none⟩ = some (.slice (some ⟨b, o, none⟩) n c) := by rw [World.cell?_alloc_lt _ _ _ (by simp; omega)]; exact hv
      have q3 : (wr.alloc (.cells #[.int .i64 p0, .int .i64 p1] 34)).cell? ⟨b, o + (k - 1) * 2, none⟩ = some (.int .i64 r0) := by rw [World.cell?_alloc_lt _ _ _ (by simp; omega)]; exact hr0
      have hb4 : Below (w.heap.size + 1) (w.alloc (.cells #[.slice (some ⟨b, o, none⟩) n c] 30)) (wr.alloc (.cells #[.int .i64 p0, .int .i64 p1] 34)) := hb.alloc (by omega) _
      have hp0 := Lib.hid (show (xs[k]?).getD (0, 0) = (p0, p1) by rw [X.out]; rfl)
      have hz0 := Lib.hid (show (xs[k - 1]?).getD (0, 0) = (r0, r1) by rw [Z.out]; rfl)
      cases hp : M.ptOk (p0, p1)
      · have hno := Lib.hid (show M.curveOk xs = false by rw [M.curveOk, M.all_not (k := k) (by rw [hl.out]; exact hlt) (by rw [M.stepOk, hp0.out, hp, Bool.false_and]), Bool.false_and])
        go_wp2
        generalize hw4 : wr.alloc (.cells #[.int .i64 p0, .int .i64 p1] 34) = w4 at q0 q1 q2 q3 hbr hbv hbn hb4 ⊢
        clear hw4 hs4
        have cP : ∀ d os, Calls Try.prog 75 #[.agg #[.int .i64 p0, .int .i64 p1]] (grow (redrawn w4 d) os) fun e w'' => e = .returned (.bool false) ∧ ∃ p : Regrown, w'' = grow (redrawn w4 p.d) p.os := fun d os => Calls.regrown_of (by have h := impl_isPoint p0 p1 (grow (redrawn w4 d) os); rw [hp] at h; exact h)
        have k0' := cell_regrown q0
        have k1' := cell_regrown q1
        have k2' := cell_regrown q2
        have k3' := cell_regrown q3
        clear q0 q1 q2 q3
        (refine wp_region_quiet_below (by kernel_rfl) (by kernel_rfl) ?_; (repeat (go_big_quiet_step (exact cP _ _))); refine wpQuiet_nil ?_; intro _ hw'; obtain ⟨⟨dq, osq⟩, hw''⟩ := hw'; subst hw'')
        go_wp2
        go_ret
        exact ⟨ret_bool (by rw [hno.out]), hbw.trans ((hb4.trans ((below_regrown w4 dq osq).mono (by rw [← hsize]; exact hb4.size))).mono (by omega))⟩
      · by_cases hk0 : k = 0
        · have hyes := Lib.hid (show M.stepOk xs k = true by rw [M.stepOk, hp0.out, hp, M.after, hk0]; rfl)
          have hd : decide (0 < k) = false := by rw [hk0]; rfl
          have hd2 : ¬ 0 < k := by omega
          clear hk0
          go_wp2
          generalize hw4 : wr.alloc (.cells #[.int .i64 p0, .int .i64 p1] 34) = w4 at q0 q1 q2 q3 hbr hbv hbn hb4 ⊢
          clear hw4 hs4
          have cP : ∀ d os, Calls Try.prog 75 #[.agg #[.int .i64 p0, .int .i64 p1]] (grow (redrawn w4 d) os) fun e w'' => e = .returned (.bool true) ∧ ∃ p : Regrown, w'' = grow (redrawn w4 p.d) p.os := fun d os => Calls.regrown_of (by have h := impl_isPoint p0 p1 (grow (redrawn w4 d) os); rw [hp] at h; exact h)
          have k0' := cell_regrown q0
          have k1' := cell_regrown q1
          have k2' := cell_regrown q2
          have k3' := cell_regrown q3
          clear q0 q1 q2 q3
          (refine wp_region_quiet_below (by kernel_rfl) (by kernel_rfl) ?_; (repeat (go_big_quiet_step (exact cP _ _))); refine wpQuiet_nil ?_; intro _ hw'; obtain ⟨⟨dq, osq⟩, hw''⟩ := hw'; subst hw'')
          go_wp2
          go_roundw
          case rel => exact ⟨k + 1, by go_num, by omega, Lib.hid (fun j hj => by rcases Nat.lt_succ_iff_lt_or_eq.1 hj with h | h; exact H.out j h; rw [h]; exact hyes.out), hb4.trans ((below_regrown w4 dq osq).mono (by rw [← hsize]; exact hb4.size))⟩
          case measure => simp [intOf]; omega
        · have hkk : IntKind.i64.wrap ((k : Int) - 1) = ((k - 1 : Nat) : Int) := by rw [IntWalk.i64_in _ (by omega)]; omega
          have hk1n : ((k - 1 : Nat) : Int) < (n : Int) := by omega
          have hd : decide (0 < k) = true := decide_eq_true (by omega)
          by_cases hge : p0 ≤ r0
          · have hno := Lib.hid (show M.curveOk xs = false by rw [M.curveOk, M.all_not (k := k) (by rw [hl.out]; exact hlt) (by rw [M.stepOk, hp0.out, hp, M.after, hp0.out, hz0.out]; simp [hk0, hge]), Bool.false_and])
            go_wp2
            generalize hw4 : wr.alloc (.cells #[.int .i64 p0, .int .i64 p1] 34) = w4 at q0 q1 q2 q3 hbr hbv hbn hb4 ⊢
            clear hw4 hs4
            have cP : ∀ d os, Calls Try.prog 75 #[.agg #[.int .i64 p0, .int .i64 p1]] (grow (redrawn w4 d) os) fun e w'' => e = .returned (.bool true) ∧ ∃ p : Regrown, w'' = grow (redrawn w4 p.d) p.os := fun d os => Calls.regrown_of (by have h := impl_isPoint p0 p1 (grow (redrawn w4 d) os); rw [hp] at h; exact h)
            have k0' := cell_regrown q0
            have k1' := cell_regrown q1
            have k2' := cell_regrown q2
            have k3' := cell_regrown q3
            clear q0 q1 q2 q3
            (refine wp_region_quiet_below (by kernel_rfl) (by kernel_rfl) ?_; (repeat (go_big_quiet_step (exact cP _ _))); refine wpQuiet_nil ?_; intro _ hw'; obtain ⟨⟨dq, osq⟩, hw''⟩ := hw'; subst hw'')
            go_wp2
            go_ret
            exact ⟨ret_bool (by rw [hno.out]), hbw.trans ((hb4.trans ((below_regrown w4 dq osq).mono (by rw [← hsize]; exact hb4.size))).mono (by omega))⟩
          · have hyes := Lib.hid (show M.stepOk xs k = true by rw [M.stepOk, hp0.out, hp, M.after, hp0.out, hz0.out]; simp; omega)
            go_wp2
            generalize hw4 : wr.alloc (.cells #[.int .i64 p0, .int .i64 p1] 34) = w4 at q0 q1 q2 q3 hbr hbv hbn hb4 ⊢
            clear hw4 hs4
            have cP : ∀ d os, Calls Try.prog 75 #[.agg #[.int .i64 p0, .int .i64 p1]] (grow (redrawn w4 d) os) fun e w'' => e = .returned (.bool true) ∧ ∃ p : Regrown, w'' = grow (redrawn w4 p.d) p.os := fun d os => Calls.regrown_of (by have h := impl_isPoint p0 p1 (grow (redrawn w4 d) os); rw [hp] at h; exact h)
            have k0' := cell_regrown q0
            have k1' := cell_regrown q1
            have k2' := cell_regrown q2
            have k3' := cell_regrown q3
            clear q0 q1 q2 q3
            (refine wp_region_quiet_below (by kernel_rfl) (by kernel_rfl) ?_; (repeat (go_big_quiet_step (exact cP _ _))); refine wpQuiet_nil ?_; intro _ hw'; obtain ⟨⟨dq, osq⟩, hw''⟩ := hw'; subst hw'')
            go_wp2
            go_roundw
            case rel => exact ⟨k + 1, by go_num, by omega, Lib.hid (fun j hj => by rcases Nat.lt_succ_iff_lt_or_eq.1 hj with h | h; exact H.out j h; rw [h]; exact hyes.out), hb4.trans ((below_regrown w4 dq osq).mono (by rw [← hsize]; exact hb4.size))⟩
            case measure => simp [intOf]; omega
    · have hyes := Lib.hid (M.all_upto (n := xs.length) (f := M.stepOk xs) (fun j hj => H.out j (by rw [hl.out] at hj; omega)))
      have hres := Lib.hid (show M.inn (n : Int) 1 24 = M.curveOk xs by rw [M.curveOk, hyes.out, hl.out, Bool.true_and])
      go_wp2_with (first | (go_at_call 82; refine (impl_size_impl_CurvePoint _ _ _ _).mono ?_; rintro e w' ⟨rfl, rfl⟩) | (go_at_call 81; refine (impl_within _ _ _ _).mono ?_; rintro e w' ⟨rfl, rfl⟩))
      go_ret
      exact ⟨ret_bool hres.out, hbb⟩
end Go.Proofs.Ytckihflfjecpbaa
