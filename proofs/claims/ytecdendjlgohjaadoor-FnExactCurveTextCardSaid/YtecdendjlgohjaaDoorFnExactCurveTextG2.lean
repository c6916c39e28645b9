import Derived.Test.YtecdendjlgohjaaDoorFnExactCurveTextG1
import Derived.Lib.QuietBelow
import Derived.BigQuiet
import Derived.Deep.RegionLaw
import Derived.Lib.SliceRun
import Derived.Shelf.LaysM
import Derived.Shelf.Strconv.Itoa4
import Derived.Shelf.Strings.OnBuilder
import Derived.Test.YtecdendjlgohjaaDoorProg
import Derived.StillTail
import Derived.Deep.Quiet
set_option linter.unusedVariables false
set_option linter.unusedSimpArgs false
namespace Go.Proofs.YtecdendjlgohjaaDoor
open Go.RowKit Go.Sort
set_option maxHeartbeats 400000
set_option maxRecDepth 100000
theorem M.all_upto {n : Nat} {f : Nat → Bool} (h : ∀ j, j < n → f j = true) : (List.range n).all f = true := by
  rw [List.all_eq_true]
  intro j hj
  exact h j (List.mem_range.1 hj)
theorem M.all_not {n k : Nat} {f : Nat → Bool} (hk : k < n) (h : f k = false) : (List.range n).all f = false := by
  rw [List.all_eq_false]
  exact ⟨k, List.mem_range.2 hk, by simp [h]⟩
theorem impl_isCurve (A : Option Addr) (n c : Nat) (xs : List (Int × Int)) (w : World) (hx : RA pt 2 w w.heap.size A n xs) (hn : n ≤ 1000000000) :
    Calls Tryd.prog 34 #[.agg #[.slice A n c]] w fun e w' => e = .returned (.bool (M.curveOk xs)) ∧ Below w.heap.size w w' := by
  have hl := Lib.hid hx.len
  have hbw : Below w.heap.size w (w.alloc (.cells #[.slice A n c] 29)) := (Below.refl _ _).alloc (Nat.le_refl _) _
  have hself := lay_cell w (.slice A n c) 29
  have hsize : (w.alloc (.cells #[.slice A n c] 29)).heap.size = w.heap.size + 1 := by simp
  go_enter Tryd.func34, Tryd.ntmps34
  go_wp2
  go_loopw [3, 4, 8] (fun _ _ i wr => ∃ k : Nat, i = .int .i64 k ∧ k ≤ n ∧ Hid (∀ j, j < k → M.stepOk xs j = true) ∧ Below (w.heap.size + 1) (w.alloc (.cells #[.slice A n c] 29)) wr) (fun _ _ i _ => n - (intOf i).toNat)
  case atStart => exact ⟨0, rfl, by omega, Lib.hid (by omega), Below.refl _ _⟩
  case round =>
    obtain ⟨k, rfl, hk, H, hb⟩ := hrel
    have hbb : Below w.heap.size w wr := hbw.trans (hb.mono (by omega))
    have hsz : w.heap.size + 1 ≤ wr.heap.size := by rw [← hsize]; exact hb.size
    have hv : wr.cell? ⟨w.heap.size, 0, none⟩ = some (.slice A n c) := by rw [hb.cell (by simp)]; exact hself
    by_cases hlt : k < n
    · obtain ⟨b, o, ⟨p0, p1⟩, rfl, hab, X, hc⟩ := (hx.below hbb).at pt_len (by decide) hlt
      have hc0 : wr.cell? ⟨b, o + k * 2, none⟩ = some (.int .i64 p0) := hc 0 _ rfl
      have hc1 : wr.cell? ⟨b, o + k * 2 + 1, none⟩ = some (.int .i64 p1) := hc 1 _ rfl
      clear hc
      obtain ⟨⟨r0, r1⟩, Z, hr⟩ := (hx.below hbb).cells pt_len (by decide) (k := k - 1) (by omega)
      have hr0 : wr.cell? ⟨b, o + (k - 1) * 2, none⟩ = some (.int .i64 r0) := hr 0 _ rfl
      clear hr
      have hs4 : (wr.alloc (.cells #[.int .i64 p0, .int .i64 p1] 52)).heap.size = wr.heap.size + 1 := by simp
      have hbr : b < (wr.alloc (.cells #[.int .i64 p0, .int .i64 p1] 52)).heap.size := by omega
      have hbv : w.heap.size < (wr.alloc (.cells #[.int .i64 p0, .int .i64 p1] 52)).heap.size := by omega
      have hbn : wr.heap.size < (wr.alloc (.cells #[.int .i64 p0, .int .i64 p1] 52)).heap.size := by omega
      have q0 : (wr.alloc (.cells #[.int .i64 p0, .int .i64 p1] 52)).cell? ⟨wr.heap.size, 0, none⟩ = some (.int .i64 p0) := by rw [cell_of_row _ wr.heap.size 0 _ 52 (0, 0) (heap_alloc_new wr _)]; rfl
      have q1 : (wr.alloc (.cells #[.int .i64 p0, .int .i64 p1] 52)).cell? ⟨wr.heap.size, 1, none⟩ = some (.int .i64 p1) := by rw [cell_of_row _ wr.heap.size 1 _ 52 (0, 0) (heap_alloc_new wr _)]; rfl
      have q2 : (wr.alloc (.cells #[.int .i64 p0, .int .i64 p1] 52)).cell? ⟨w.heap.size, 0, none⟩ = some (.slice (some ⟨b, o, none⟩) n c) := by rw [World.cell?_alloc_lt _ _ _ (by simp; omega)]; exact hv
      have q3 : (wr.alloc (.cells #[.int .i64 p0, .int .i64 p1] 52)).cell? ⟨b, o + (k - 1) * 2, none⟩ = some (.int .i64 r0) := by rw [World.cell?_alloc_lt _ _ _ (by simp; omega)]; exact hr0
      have hb4 : Below (w.heap.size + 1) (w.alloc (.cells #[.slice (some ⟨b, o, none⟩) n c] 29)) (wr.alloc (.cells #[.int .i64 p0, .int .i64 p1] 52)) := hb.alloc (by omega) _
      have hp0 := Lib.hid (show (xs[k]?).getD (0, 0) = (p0, p1) by rw [X.out]; rfl)
      have hz0 := Lib.hid (show (xs[k - 1]?).getD (0, 0) = (r0, r1) by rw [Z.out]; rfl)
      cases hp : M.ptOk (p0, p1)
      · have hno := Lib.hid (show M.curveOk xs = false by rw [M.curveOk, M.all_not (k := k) (by rw [hl.out]; exact hlt) (by rw [M.stepOk, hp0.out, hp, Bool.false_and]), Bool.false_and])
        go_wp2
        generalize hw4 : wr.alloc (.cells #[.int .i64 p0, .int .i64 p1] 52) = w4 at q0 q1 q2 q3 hbr hbv hbn hb4 ⊢
        clear hw4 hs4
        have cP : ∀ d os, Calls Tryd.prog 57 #[.agg #[.int .i64 p0, .int .i64 p1]] (grow (redrawn w4 d) os) fun e w'' => e = .returned (.bool false) ∧ ∃ p : Regrown, w'' = grow (redrawn w4 p.d) p.os := fun d os => Calls.regrown_of (by have h := impl_isPoint p0 p1 (grow (redrawn w4 d) os); rw [hp] at h; exact h)
        have k0' := cell_regrown q0
        have k1' := cell_regrown q1
        have k2' := cell_regrown q2
        have k3' := cell_regrown q3
        clear q0 q1 q2 q3
        (refine wp_region_quiet_below (by kernel_rfl) (by kernel_rfl) ?_; (repeat (go_big_quiet_step (exact cP _ _))); refine wpQuiet_nil ?_; intro _ hw'; obtain ⟨⟨dq, osq⟩, hw''⟩ := hw'; subst hw'')
        go_wp2
        go_ret
        exact ⟨ret_bool (by rw [hno.out]), hbw.trans ((hb4.trans ((below_regrown w4 dq osq).mono (by rw [← hsize]; exact hb4.size))).mono (by omega))⟩
      · by_cases hk0 : k = 0
        · have hyes := Lib.hid (show M.stepOk xs k = true by rw [M.stepOk, hp0.out, hp, M.after, hk0]; rfl)
          have hd : decide (0 < k) = false := by rw [hk0]; rfl
          have hd2 : ¬ 0 < k := by omega
          clear hk0
          go_wp2
          generalize hw4 : wr.alloc (.cells #[.int .i64 p0, .int .i64 p1] 52) = w4 at q0 q1 q2 q3 hbr hbv hbn hb4 ⊢
          clear hw4 hs4
          have cP : ∀ d os, Calls Tryd.prog 57 #[.agg #[.int .i64 p0, .int .i64 p1]] (grow (redrawn w4 d) os) fun e w'' => e = .returned (.bool true) ∧ ∃ p : Regrown, w'' = grow (redrawn w4 p.d) p.os := fun d os => Calls.regrown_of (by have h := impl_isPoint p0 p1 (grow (redrawn w4 d) os); rw [hp] at h; exact h)
          have k0' := cell_regrown q0
          have k1' := cell_regrown q1
          have k2' := cell_regrown q2
          have k3' := cell_regrown q3
          clear q0 q1 q2 q3
          (refine wp_region_quiet_below (by kernel_rfl) (by kernel_rfl) ?_; (repeat (go_big_quiet_step (exact cP _ _))); refine wpQuiet_nil ?_; intro _ hw'; obtain ⟨⟨dq, osq⟩, hw''⟩ := hw'; subst hw'')
          go_wp2
          go_roundw
          case rel => exact ⟨k + 1, by go_num, by omega, Lib.hid (fun j hj => by rcases Nat.lt_succ_iff_lt_or_eq.1 hj with h | h; exact H.out j h; rw [h]; exact hyes.out), hb4.trans ((below_regrown w4 dq osq).mono (by rw [← hsize]; exact hb4.size))⟩
          case measure => simp [intOf]; omega
        · have hkk : IntKind.i64.wrap ((k : Int) - 1) = ((k - 1 : Nat) : Int) := by rw [IntWalk.i64_in _ (by omega)]; omega
          have hk1n : ((k - 1 : Nat) : Int) < (n : Int) := by omega
          have hd : decide (0 < k) = true := decide_eq_true (by omega)
          by_cases hge : p0 ≤ r0
          · have hno := Lib.hid (show M.curveOk xs = false by rw [M.curveOk, M.all_not (k := k) (by rw [hl.out]; exact hlt) (by rw [M.stepOk, hp0.out, hp, M.after, hp0.out, hz0.out]; simp [hk0, hge]), Bool.false_and])
            go_wp2
            generalize hw4 : wr.alloc (.cells #[.int .i64 p0, .int .i64 p1] 52) = w4 at q0 q1 q2 q3 hbr hbv hbn hb4 ⊢
            clear hw4 hs4
            have cP : ∀ d os, Calls Tryd.prog 57 #[.agg #[.int .i64 p0, .int .i64 p1]] (grow (redrawn w4 d) os) fun e w'' => e = .returned (.bool true) ∧ ∃ p : Regrown, w'' = grow (redrawn w4 p.d) p.os := fun d os => Calls.regrown_of (by have h := impl_isPoint p0 p1 (grow (redrawn w4 d) os); rw [hp] at h; exact h)
            have k0' := cell_regrown q0
            have k1' := cell_regrown q1
            have k2' := cell_regrown q2
            have k3' := cell_regrown q3
            clear q0 q1 q2 q3
            (refine wp_region_quiet_below (by kernel_rfl) (by kernel_rfl) ?_; (repeat (go_big_quiet_step (exact cP _ _))); refine wpQuiet_nil ?_; intro _ hw'; obtain ⟨⟨dq, osq⟩, hw''⟩ := hw'; subst hw'')
            go_wp2
            go_ret
            exact ⟨ret_bool (by rw [hno.out]), hbw.trans ((hb4.trans ((below_regrown w4 dq osq).mono (by rw [← hsize]; exact hb4.size))).mono (by omega))⟩
          · have hyes := Lib.hid (show M.stepOk xs k = true by rw [M.stepOk, hp0.out, hp, M.after, hp0.out, hz0.out]; simp; omega)
            go_wp2
            generalize hw4 : wr.alloc (.cells #[.int .i64 p0, .int .i64 p1] 52) = w4 at q0 q1 q2 q3 hbr hbv hbn hb4 ⊢
            clear hw4 hs4
            have cP : ∀ d os, Calls Tryd.prog 57 #[.agg #[.int .i64 p0, .int .i64 p1]] (grow (redrawn w4 d) os) fun e w'' => e = .returned (.bool true) ∧ ∃ p : Regrown, w'' = grow (redrawn w4 p.d) p.os := fun d os => Calls.regrown_of (by have h := impl_isPoint p0 p1 (grow (redrawn w4 d) os); rw [hp] at h; exact h)
            have k0' := cell_regrown q0
            have k1' := cell_regrown q1
            have k2' := cell_regrown q2
            have k3' := cell_regrown q3
            clear q0 q1 q2 q3
            (refine wp_region_quiet_below (by kernel_rfl) (by kernel_rfl) ?_; (repeat (go_big_quiet_step (exact cP _ _))); refine wpQuiet_nil ?_; intro _ hw'; obtain ⟨⟨dq, osq⟩, hw''⟩ := hw'; subst hw'')
            go_wp2
            go_roundw
            case rel => exact ⟨k + 1, by go_num, by omega, Lib.hid (fun j hj => by rcases Nat.lt_succ_iff_lt_or_eq.1 hj with h | h; exact H.out j h; rw [h]; exact hyes.out), hb4.trans ((below_regrown w4 dq osq).mono (by rw [← hsize]; exact hb4.size))⟩
            case measure => simp [intOf]; omega
    · have hyes := Lib.hid (M.all_upto (n := xs.length) (f := M.stepOk xs) (fun j hj => H.out j (by rw [hl.out] at hj; omega)))
      have hres := Lib.hid (show M.inn (n : Int) 1 24 = M.curveOk xs by rw [M.curveOk, hyes.out, hl.out, Bool.true_and])
      go_wp2_with (first | (go_at_call 63; refine (impl_size_impl_CurvePoint _ _ _ _).mono ?_; rintro e w' ⟨rfl, rfl⟩) | (go_at_call 62; refine (impl_within _ _ _ _).mono ?_; rintro e w' ⟨rfl, rfl⟩))
      go_ret
      exact ⟨ret_bool hres.out, hbb⟩
end Go.Proofs.YtecdendjlgohjaaDoor
namespace Go.Proofs.YtecdendjlgohjaaDoor
open Go.RowKit Go.Sort
set_option maxHeartbeats 400000
set_option maxRecDepth 100000
theorem spec_l25Ok (vb : Nat) (A : Option Addr) (n c : Nat) (xs : List (Int × Int)) (w : World) (hv0 : w.cell? ⟨vb, 0, none⟩ = some (.slice A n c)) (hx : RA pt 2 w w.heap.size A n xs) (hn : n ≤ 1000000000) :
    Calls Tryd.prog 31 #[.pointer (some ⟨vb, 0, none⟩)] w fun e w' => e = .returned (.bool (M.curveOk xs)) ∧ Below w.heap.size w w' := by
  have hl := Lib.hid hx.len
  have hvb : vb < w.heap.size := World.block_lt_of_cell? w _ hv0
  go_enter Tryd.func31, Tryd.ntmps31
  go_wp2
  go_loopw [3] (fun i wr => ∃ k : Nat, i = .int .i64 k ∧ k ≤ n ∧ Hid (∀ j, j < k → M.stepOk xs j = true) ∧ Below w.heap.size w wr) (fun i _ => n - (intOf i).toNat)
  case atStart => exact ⟨0, rfl, by omega, Lib.hid (by omega), Below.refl _ _⟩
  case round =>
    obtain ⟨k, rfl, hk, H, hb⟩ := hrel
    have hv : wr.cell? ⟨vb, 0, none⟩ = some (.slice A n c) := by rw [hb.cell (by simpa using hvb)]; exact hv0
    by_cases hlt : k < n
    · obtain ⟨b, o, ⟨p0, p1⟩, rfl, hab, X, hc⟩ := (hx.below hb).at pt_len (by decide) hlt
      have hc0 : wr.cell? ⟨b, o + k * 2, none⟩ = some (.int .i64 p0) := hc 0 _ rfl
      have hc1 : wr.cell? ⟨b, o + k * 2 + 1, none⟩ = some (.int .i64 p1) := hc 1 _ rfl
      clear hc
      obtain ⟨⟨r0, r1⟩, Z, hr⟩ := (hx.below hb).cells pt_len (by decide) (k := k - 1) (by omega)
      have hr0 : wr.cell? ⟨b, o + (k - 1) * 2, none⟩ = some (.int .i64 r0) := hr 0 _ rfl
      clear hr
      have hp0 := Lib.hid (show (xs[k]?).getD (0, 0) = (p0, p1) by rw [X.out]; rfl)
      have hz0 := Lib.hid (show (xs[k - 1]?).getD (0, 0) = (r0, r1) by rw [Z.out]; rfl)
      cases hp : M.ptOk (p0, p1)
      · have hno := Lib.hid (show M.curveOk xs = false by rw [M.curveOk, M.all_not (k := k) (by rw [hl.out]; exact hlt) (by rw [M.stepOk, hp0.out, hp, Bool.false_and]), Bool.false_and])
        have cP : ∀ m, Calls Tryd.prog 58 #[.pointer (some ⟨b, o + k * 2, none⟩)] (wr.drewN m) fun e w'' => e = .returned (.bool false) ∧ ∃ m', w'' = wr.drewN m' := fun m => quiet_left (by have h := spec_l25Point b (o + k * 2) (p0, p1) (wr.drewN m) hc0 hc1; rw [hp] at h; exact h)
        go_wp2
        go_quiet (exact cP _)
        go_wp2
        go_ret
        exact ⟨ret_bool (by rw [hno.out]), hb.trans (below_drewN (Below.refl _ _) _)⟩
      · by_cases hk0 : k = 0
        · have hyes := Lib.hid (show M.stepOk xs k = true by rw [M.stepOk, hp0.out, hp, M.after, hk0]; rfl)
          have hd : decide (0 < k) = false := by rw [hk0]; rfl
          have hd2 : ¬ 0 < k := by omega
          clear hk0
          have cP : ∀ m, Calls Tryd.prog 58 #[.pointer (some ⟨b, o + k * 2, none⟩)] (wr.drewN m) fun e w'' => e = .returned (.bool true) ∧ ∃ m', w'' = wr.drewN m' := fun m => quiet_left (by have h := spec_l25Point b (o + k * 2) (p0, p1) (wr.drewN m) hc0 hc1; rw [hp] at h; exact h)
          go_wp2
          go_quiet (exact cP _)
          go_wp2
          go_roundw
          case rel => exact ⟨k + 1, by go_num, by omega, Lib.hid (fun j hj => by rcases Nat.lt_succ_iff_lt_or_eq.1 hj with h | h; exact H.out j h; rw [h]; exact hyes.out), hb.trans (below_drewN (Below.refl _ _) _)⟩
          case measure => simp [intOf]; omega
        · have hkk : IntKind.i64.wrap ((k : Int) - 1) = ((k - 1 : Nat) : Int) := by rw [IntWalk.i64_in _ (by omega)]; omega
          have hk1n : ((k - 1 : Nat) : Int) < (n : Int) := by omega
          have hd : decide (0 < k) = true := decide_eq_true (by omega)
          by_cases hge : p0 ≤ r0
          · have hno := Lib.hid (show M.curveOk xs = false by rw [M.curveOk, M.all_not (k := k) (by rw [hl.out]; exact hlt) (by rw [M.stepOk, hp0.out, hp, M.after, hp0.out, hz0.out]; simp [hk0, hge]), Bool.false_and])
            have cP : ∀ m, Calls Tryd.prog 58 #[.pointer (some ⟨b, o + k * 2, none⟩)] (wr.drewN m) fun e w'' => e = .returned (.bool true) ∧ ∃ m', w'' = wr.drewN m' := fun m => quiet_left (by have h := spec_l25Point b (o + k * 2) (p0, p1) (wr.drewN m) hc0 hc1; rw [hp] at h; exact h)
            go_wp2
            go_quiet (exact cP _)
            go_wp2
            go_ret
            exact ⟨ret_bool (by rw [hno.out]), hb.trans (below_drewN (Below.refl _ _) _)⟩
          · have hyes := Lib.hid (show M.stepOk xs k = true by rw [M.stepOk, hp0.out, hp, M.after, hp0.out, hz0.out]; simp; omega)
            have cP : ∀ m, Calls Tryd.prog 58 #[.pointer (some ⟨b, o + k * 2, none⟩)] (wr.drewN m) fun e w'' => e = .returned (.bool true) ∧ ∃ m', w'' = wr.drewN m' := fun m => quiet_left (by have h := spec_l25Point b (o + k * 2) (p0, p1) (wr.drewN m) hc0 hc1; rw [hp] at h; exact h)
            go_wp2
            go_quiet (exact cP _)
            go_wp2
            go_roundw
            case rel => exact ⟨k + 1, by go_num, by omega, Lib.hid (fun j hj => by rcases Nat.lt_succ_iff_lt_or_eq.1 hj with h | h; exact H.out j h; rw [h]; exact hyes.out), hb.trans (below_drewN (Below.refl _ _) _)⟩
            case measure => simp [intOf]; omega
    · have hyes := Lib.hid (M.all_upto (n := xs.length) (f := M.stepOk xs) (fun j hj => H.out j (by rw [hl.out] at hj; omega)))
      have hres := Lib.hid (show M.inn (n : Int) 1 24 = M.curveOk xs by rw [M.curveOk, hyes.out, hl.out, Bool.true_and])
      go_wp2_with (go_at_call 59; refine (spec_l00In _ _ _ _).mono ?_; rintro e w' ⟨rfl, rfl⟩)
      go_ret
      exact ⟨ret_bool hres.out, hb⟩
end Go.Proofs.YtecdendjlgohjaaDoor
namespace Go.Proofs.YtecdendjlgohjaaDoor
open Go.RowKit Go.Sort
set_option maxHeartbeats 400000
set_option maxRecDepth 100000
theorem M.inn_iff {n a b : Int} : M.inn n a b = true ↔ a ≤ n ∧ n ≤ b := by simp [M.inn]
theorem M.curve_len {xs : List (Int × Int)} (h : M.curveOk xs = true) : 1 ≤ xs.length ∧ xs.length ≤ 24 := by
  rw [M.curveOk, Bool.and_eq_true, M.inn_iff] at h
  omega
theorem M.curve_step {xs : List (Int × Int)} (h : M.curveOk xs = true) {k : Nat} (hk : k < xs.length) : M.stepOk xs k = true := by
  rw [M.curveOk, Bool.and_eq_true, List.all_eq_true] at h
  exact h.1 k (List.mem_range.2 hk)
theorem M.curve_pt {xs : List (Int × Int)} (h : M.curveOk xs = true) {k : Nat} {p : Int × Int} (hk : xs[k]? = some p) : (0 ≤ p.1 ∧ p.1 ≤ 4000) ∧ -65536 ≤ p.2 ∧ p.2 ≤ 65536 := by
  have h1 := M.curve_step h (List.getElem?_eq_some_iff.1 hk).1
  rw [M.stepOk, Bool.and_eq_true, hk] at h1
  have h2 := h1.1
  rw [Option.getD_some, M.ptOk, Bool.and_eq_true, M.inn_iff, M.inn_iff] at h2
  exact h2
end Go.Proofs.YtecdendjlgohjaaDoor
namespace Go.Proofs.YtecdendjlgohjaaDoor
open Go.RowKit Go.Sort
set_option maxHeartbeats 400000
set_option maxRecDepth 100000
end Go.Proofs.YtecdendjlgohjaaDoor
namespace Go.Proofs.YtecdendjlgohjaaDoor
open Go.RowKit Go.Sort
set_option maxHeartbeats 400000
set_option maxRecDepth 100000
end Go.Proofs.YtecdendjlgohjaaDoor
namespace Go.Proofs.YtecdendjlgohjaaDoor
open Go.RowKit Go.Sort
set_option maxHeartbeats 400000
set_option maxRecDepth 100000
end Go.Proofs.YtecdendjlgohjaaDoor
namespace Go.Proofs.YtecdendjlgohjaaDoor
open Go.RowKit Go.Sort
set_option maxHeartbeats 400000
set_option maxRecDepth 100000
end Go.Proofs.YtecdendjlgohjaaDoor
namespace Go.Proofs.YtecdendjlgohjaaDoor
open Go.RowKit Go.Sort
set_option maxHeartbeats 400000
set_option maxRecDepth 100000
end Go.Proofs.YtecdendjlgohjaaDoor
namespace Go.Proofs.YtecdendjlgohjaaDoor
open Go.RowKit
set_option maxHeartbeats 400000
set_option maxRecDepth 100000
section
variable {base s n cap g : Nat} {e : TypeId} {cs : List Value} {w : World}
end
section
variable {α : Type} {enc : α → List Value} {s : Nat}
theorem flat_take (henc : ∀ x, (enc x).length = s) (xs : List α) (k : Nat) : (xs.flatMap enc).take (k * s) = (xs.take k).flatMap enc := by
  induction xs generalizing k with
  | nil => simp
  | cons y ys ih =>
    cases k with
    | zero => simp
    | succ k => rw [List.take_succ_cons, List.flatMap_cons, List.flatMap_cons, ← ih, Nat.succ_mul, Nat.add_comm, List.take_append, henc, List.take_of_length_le (by rw [henc]; omega)]; congr 2; omega
theorem flat_drop (henc : ∀ x, (enc x).length = s) (xs : List α) (k : Nat) : (xs.flatMap enc).drop (k * s) = (xs.drop k).flatMap enc := by
  induction xs generalizing k with
  | nil => simp
  | cons y ys ih =>
    cases k with
    | zero => simp
    | succ k => rw [List.drop_succ_cons, List.flatMap_cons, ← ih, Nat.succ_mul, Nat.add_comm, List.drop_append, henc, List.drop_of_length_le (by rw [henc]; omega), List.nil_append]; congr 1; omega
end
end Go.Proofs.YtecdendjlgohjaaDoor
namespace Go.Proofs.YtecdendjlgohjaaDoor
open Go.RowKit
set_option maxHeartbeats 400000
set_option maxRecDepth 100000
theorem RA.cut {α : Type} {enc : α → List Value} {s B n c k : Nat} {w : World} {A : Option Addr} {xs : List α} (henc : ∀ x, (enc x).length = s) (h : RA enc s w B A n xs) (hk : k ≤ n) (hc : n ≤ c) :
    RA enc s w B (if c = k then A else A.map (·.add (k * s))) (n - k) (xs.drop k) := by
  refine ⟨by rw [List.length_drop, h.1], ?_⟩
  rw [← flat_drop henc]
  exact Reads.cut h.2 hk hc
theorem RA.head {α : Type} {enc : α → List Value} {s B n k : Nat} {w : World} {A : Option Addr} {xs : List α} (henc : ∀ x, (enc x).length = s) (h : RA enc s w B A n xs) (hk : k ≤ n) : RA enc s w B A k (xs.take k) := by
  refine ⟨by rw [List.length_take, h.1]; omega, by rw [flat_len henc, List.length_take, h.1, Nat.min_eq_left hk], fun h0 => ?_⟩
  obtain ⟨ad, e, hb, hc⟩ := h.2.2 (by omega)
  refine ⟨ad, e, hb, fun j u hu => hc j u ?_⟩
  rw [← flat_take henc, List.getElem?_take] at hu
  split at hu
  · exact hu
  · simp at hu
end Go.Proofs.YtecdendjlgohjaaDoor
namespace Go.Proofs.YtecdendjlgohjaaDoor
open Go.RowKit
set_option maxHeartbeats 400000
set_option maxRecDepth 100000
end Go.Proofs.YtecdendjlgohjaaDoor
namespace Go.Proofs.YtecdendjlgohjaaDoor
open Go.RowKit
theorem opens_C : Opens Tryd.prog 24 tC :=
  opens_struct1 Tryd.underlying24 rfl (by kernel_rfl) (opens_sl Tryd.underlying22 (by kernel_rfl) (flat2_open (fun _ _ => rfl) Tryd.underlying102 Tryd.underlying2 Tryd.underlying2 rfl rfl (by kernel_rfl) (by kernel_rfl) (by kernel_rfl)))
theorem open_C {w : World} {B : Nat} {cs : List Value} {x : List (Int × Int)} (h : tC.R w B cs x) : ∃ A n c, cs = [.slice A n c] := by
  obtain ⟨v, rfl, hr⟩ := h
  obtain ⟨A, c, rfl⟩ := hr.shape
  exact ⟨_, _, _, rfl⟩
theorem tC_n {w : World} {B n c : Nat} {A : Option Addr} {xs : List (Int × Int)} (h : tC.R w B [.slice A n c] xs) : xs.length = n ∧ n ≤ c ∧ c ≤ maxLen := (tC_R.1 h).cap
end Go.Proofs.YtecdendjlgohjaaDoor
namespace Go.Proofs
open Go.Shelf
set_option maxRecDepth 100000
def Tryd.lays156_ren : Go.Shelf.Ren := ⟨fun | 156 => 36 | 165 => 65 | 166 => 66 | 169 => 67 | 240 => 87 | 241 => 88 | 276 => 105 | 277 => 106 | n => n, fun | 31 => 67 | 9 => 9 | 3 => 3 | 4 => 4 | 0 => 0 | 20 => 20 | 72 => 107 | 76 => 111 | 70 => 105 | 37 => 48 | 75 => 110 | 127 => 138 | 164 => 153 | 5 => 5 | 80 => 113 | n => n, fun | n => n⟩
theorem Tryd.lays156 : Go.Proofs.Lays.n156 Tryd.prog Tryd.lays156_ren := {
  mixed := by kernel_rfl
  f156 := Tryd.func36.trans (congrArg some (by kernel_rfl))
  f165 := Tryd.func65.trans (congrArg some (by kernel_rfl))
  f166 := Tryd.func66.trans (congrArg some (by kernel_rfl))
  f169 := Tryd.func67.trans (congrArg some (by kernel_rfl))
  f240 := Tryd.func87.trans (congrArg some (by kernel_rfl))
  f241 := Tryd.func88.trans (congrArg some (by kernel_rfl))
  f276 := Tryd.func105.trans (congrArg some (by kernel_rfl))
  f277 := Tryd.func106.trans (congrArg some (by kernel_rfl))
  t0 := Tryd.underlying0
  a0 := Tryd.isAgg0
  z0 := Tryd.sizeOf0
  v0 := Tryd.zeroValue0
  t3 := Tryd.underlying3
  a3 := Tryd.isAgg3
  z3 := Tryd.sizeOf3
  v3 := Tryd.zeroValue3
  t4 := Tryd.underlying4
  a4 := Tryd.isAgg4
  z4 := Tryd.sizeOf4
  v4 := Tryd.zeroValue4
  t9 := Tryd.underlying9
  a9 := Tryd.isAgg9
  z9 := Tryd.sizeOf9
  v9 := Tryd.zeroValue9
  t20 := Tryd.underlying20
  a20 := Tryd.isAgg20
  z20 := Tryd.sizeOf20
  v20 := Tryd.zeroValue20
  t31 := Tryd.underlying67
  a31 := Tryd.isAgg67
  z31 := Tryd.sizeOf67
  v31 := Tryd.zeroValue67
  t37 := Tryd.underlying48
  a37 := Tryd.isAgg48
  z37 := Tryd.sizeOf48
  v37 := Tryd.zeroValue48
  t70 := Tryd.underlying105
  a70 := Tryd.isAgg105
  z70 := Tryd.sizeOf105
  v70 := Tryd.zeroValue105
  t72 := Tryd.underlying107
  a72 := Tryd.isAgg107
  z72 := Tryd.sizeOf107
  v72 := Tryd.zeroValue107
  t75 := Tryd.underlying110
  a75 := Tryd.isAgg110
  z75 := Tryd.sizeOf110
  v75 := Tryd.zeroValue110
  t76 := Tryd.underlying111
  a76 := Tryd.isAgg111
  z76 := Tryd.sizeOf111
  v76 := Tryd.zeroValue111
  t127 := Tryd.underlying138
  a127 := Tryd.isAgg138
  z127 := Tryd.sizeOf138
  v127 := Tryd.zeroValue138
  t164 := Tryd.underlying153
  a164 := Tryd.isAgg153
  z164 := Tryd.sizeOf153
  v164 := Tryd.zeroValue153 }
theorem Tryd.Builder_Extra_156 : Builder.Extra Tryd.prog Tryd.lays156_ren := {
  sizeBuilder := by kernel_rfl
  liesBuilder := by kernel_rfl
  t5 := Tryd.underlying5
  a5 := Tryd.isAgg5
  z5 := Tryd.sizeOf5
  v5 := Tryd.zeroValue5
  infoByte := by kernel_rfl
  cellsByte := by kernel_rfl
  sizeByte := by kernel_rfl
  neB5 := by decide }
open Go.RowKit in
open Go.RowKit in
theorem Tryd.strings_Join (bk o c : Nat) (xs : List ByteArray) (sep : ByteArray) (w : World) (hcells : ∀ (j : Nat) x, xs[j]? = some x → w.cell? ⟨bk, o + j, none⟩ = some (.string x)) (hbk : bk < w.heap.size) (hN : xs.length ≤ 140737488355328) (hcap : xs.length ≤ c) (hlen : (Lib.join (xs.map (·.data.toList)) sep.data.toList).length ≤ 140737488355328) :
    Calls Tryd.prog 36 #[.slice (some ⟨bk, o, none⟩) xs.length c, .string sep] w fun e w' => e = .returned (.string ⟨(Lib.join (xs.map (·.data.toList)) sep.data.toList).toArray⟩) ∧ Below w.heap.size w w' := Any.strings_Join Tryd.lays156 Tryd.Builder_Extra_156 bk o c xs sep w hcells hbk hN hcap hlen
def Tryd.laysM173_ren : Go.Shelf.Ren := ⟨fun | 173 => 64 | 246 => 86 | 283 => 101 | 284 => 102 | 285 => 103 | 286 => 104 | 129 => 124 | 317 => 123 | 318 => 125 | 319 => 126 | 320 => 127 | 337 => 138 | 338 => 139 | n => n, fun | 2 => 2 | 3 => 3 | 9 => 9 | 4 => 4 | 171 => 148 | 0 => 0 | 53 => 131 | 37 => 48 | 5 => 5 | 173 => 151 | 212 => 170 | 51 => 171 | 20 => 20 | 213 => 172 | 46 => 146 | 232 => 189 | 233 => 190 | n => n, fun | 17 => 1 | 18 => 4 | 19 => 5 | n => n⟩
theorem Tryd.laysM173 : Go.Proofs.LaysM.n173 Tryd.prog Tryd.laysM173_ren := {
  mixed := by kernel_rfl
  f129 := Tryd.func124.trans (congrArg some (by kernel_rfl))
  f173 := Tryd.func64.trans (congrArg some (by kernel_rfl))
  f246 := Tryd.func86.trans (congrArg some (by kernel_rfl))
  f283 := Tryd.func101.trans (congrArg some (by kernel_rfl))
  f284 := Tryd.func102.trans (congrArg some (by kernel_rfl))
  f285 := Tryd.func103.trans (congrArg some (by kernel_rfl))
  f286 := Tryd.func104.trans (congrArg some (by kernel_rfl))
  f317 := Tryd.func123.trans (congrArg some (by kernel_rfl))
  f318 := Tryd.func125.trans (congrArg some (by kernel_rfl))
  f319 := Tryd.func126.trans (congrArg some (by kernel_rfl))
  f320 := Tryd.func127.trans (congrArg some (by kernel_rfl))
  f337 := Tryd.func138.trans (congrArg some (by kernel_rfl))
  f338 := Tryd.func139.trans (congrArg some (by kernel_rfl))
  t0 := Tryd.underlying0
  a0 := Tryd.isAgg0
  z0 := Tryd.sizeOf0
  v0 := Tryd.zeroValue0
  t2 := Tryd.underlying2
  a2 := Tryd.isAgg2
  z2 := Tryd.sizeOf2
  v2 := Tryd.zeroValue2
  t3 := Tryd.underlying3
  a3 := Tryd.isAgg3
  z3 := Tryd.sizeOf3
  v3 := Tryd.zeroValue3
  t4 := Tryd.underlying4
  a4 := Tryd.isAgg4
  z4 := Tryd.sizeOf4
  v4 := Tryd.zeroValue4
  t5 := Tryd.underlying5
  a5 := Tryd.isAgg5
  z5 := Tryd.sizeOf5
  v5 := Tryd.zeroValue5
  t9 := Tryd.underlying9
  a9 := Tryd.isAgg9
  z9 := Tryd.sizeOf9
  v9 := Tryd.zeroValue9
  t20 := Tryd.underlying20
  a20 := Tryd.isAgg20
  z20 := Tryd.sizeOf20
  v20 := Tryd.zeroValue20
  t37 := Tryd.underlying48
  a37 := Tryd.isAgg48
  z37 := Tryd.sizeOf48
  v37 := Tryd.zeroValue48
  t46 := Tryd.underlying146
  a46 := Tryd.isAgg146
  z46 := Tryd.sizeOf146
  v46 := Tryd.zeroValue146
  t51 := Tryd.underlying171
  a51 := Tryd.isAgg171
  z51 := Tryd.sizeOf171
  v51 := Tryd.zeroValue171
  t53 := Tryd.underlying131
  a53 := Tryd.isAgg131
  z53 := Tryd.sizeOf131
  v53 := Tryd.zeroValue131
  t171 := Tryd.underlying148
  a171 := Tryd.isAgg148
  z171 := Tryd.sizeOf148
  v171 := Tryd.zeroValue148
  t173 := Tryd.underlying151
  a173 := Tryd.isAgg151
  z173 := Tryd.sizeOf151
  v173 := Tryd.zeroValue151
  t212 := Tryd.underlying170
  a212 := Tryd.isAgg170
  z212 := Tryd.sizeOf170
  v212 := Tryd.zeroValue170
  t213 := Tryd.underlying172
  a213 := Tryd.isAgg172
  z213 := Tryd.sizeOf172
  t232 := Tryd.underlying189
  a232 := Tryd.isAgg189
  z232 := Tryd.sizeOf189
  v232 := Tryd.zeroValue189
  t233 := Tryd.underlying190
  a233 := Tryd.isAgg190
  z233 := Tryd.sizeOf190
  v233 := Tryd.zeroValue190
  g17 := by kernel_rfl
  g18 := by kernel_rfl
  g19 := by kernel_rfl
  i0 := by kernel_rfl
  i2 := by kernel_rfl
  i3 := by kernel_rfl
  i4 := by kernel_rfl
  i5 := by kernel_rfl
  i9 := by kernel_rfl
  i20 := by kernel_rfl
  i37 := by kernel_rfl
  i46 := by kernel_rfl
  i51 := by kernel_rfl
  i53 := by kernel_rfl
  i171 := by kernel_rfl
  i173 := by kernel_rfl
  i212 := by kernel_rfl
  i232 := by kernel_rfl
  i233 := by kernel_rfl
  m17 := by kernel_rfl
  m18 := by kernel_rfl
  m19 := by kernel_rfl }
open Go.RowKit Go.Sort Go.Lib in
theorem Tryd.strconv_FormatInt_10 (n : Int) (h0 : -9223372036854775808 ≤ n) (h1 : n ≤ 9223372036854775807) (w : World) (htab : Lib.TabIs Tryd.prog w "internal/strconv.uint64pow10" .u64 Lib.pow10Tab) :
    Calls Tryd.prog 64 #[.int .i64 n, .int .i64 10] w fun e w' => e = .returned (.string ⟨(Lib.itoa n).toArray⟩) ∧ ∃ k os, w' = grow (w.drewN k) os := Any.strconv_FormatInt_10 Tryd.laysM173 n h0 h1 w htab
end Go.Proofs
/-
  A region that draws its order, holds calls (or allocations) that come in one forced order, and loads and moves beside them: one walk serves every order. The loads are read first (they read old blocks, which nothing in the window writes), then the rest runs in its forced order.
-/
namespace Go.Proofs.YtecdendjlgohjaaDoor
open Go
section
variable {P : Program} {ops : Array Oper} {md : Region.Mode} {D : World → Prop}
/-- No exit. -/
def noX : Exit → Act → World → Prop := fun _ _ _ => False
/-- Operations that never enter a function and write nothing. -/
def plainB (o : Oper) : Bool :=
  match o.op with
  | .move _ | .assign _ | .load .. | .fieldAddr .. | .indexAddr .. | .nilCheck _ | .binOp .. | .unOp .. | .pick .. | .slice .. | .convert .. | .extract .. => true
  | _ => false
def NE (s : Sem Next) : Prop := ∀ (P : Program) (w : World) (n : Next) (w' : World), s.run P w = .ok n w' → ∃ v, n = .value v
theorem NE.bind {α : Type} {s : Sem α} {k : α → Sem Next} (h : ∀ x, NE (k x)) : NE (s >>= k) := by
  intro P w n w' e
  rw [Sem.run_bind] at e
  cases hs : s.run P w with
  | ok x w2 => rw [hs] at e; exact h x P w2 n w' e
  | halt x w2 => rw [hs] at e; simp [Result.andThen] at e
theorem NE.value (v : Value) : NE (pure (.value v)) := by
  intro P w n w' e
  rw [Sem.run_pure] at e
  injection e with e
  exact ⟨v, e.symm⟩
theorem NE.v (s : Sem Value) : NE (do pure (Next.value (← s))) := NE.bind fun _ => NE.value _
theorem plain_enter {o : Oper} (h : plainB o = true) (ρ : Operand → Value) : NE (execOp ρ o) := by
  obtain ⟨dst, op, type, pos, after, guard⟩ := o
  cases op <;> simp only [plainB, Bool.false_eq_true] at h <;> simp only [execOp]
  case nilCheck x =>
    split
    · intro P w n w' e; simp [runtimePanic, Sem.run] at e
    · intro P w n w' e; simp [runtimePanic, Sem.run] at e
    · intro P w n w' e; simp [runtimePanic, Sem.run] at e
    · split
      · intro P w n w' e; simp [runtimePanic, Sem.run] at e
      · refine NE.bind fun p => NE.bind fun y => ?_
        split
        · exact NE.bind fun _ => NE.value _
        · exact NE.value _
      · exact NE.value _
    · exact NE.value _
  case pick c x y => exact NE.bind fun _ => NE.value _
  all_goals first | exact NE.v _ | exact NE.value _
/-- The value that a plain operation leaves, in every world of the class. -/
def YieldsD (P : Program) (ops : Array Oper) (D : World → Prop) (o : Oper) (v : Value) (a : Act) : Prop :=
  (Region.wanted o (yielded ops a.tmps) = true ∧ ∀ w, D w → (execOp a.eval o).run P w = .ok (.value v) w) ∨
  (Region.wanted o (yielded ops a.tmps) = false ∧ v = undef)
theorem YieldsD.of_same {o : Oper} {v : Value} {a a' : Act} (hy : YieldsD P ops D o v a) (he : execOp a'.eval o = execOp a.eval o)
    (hw : Region.wanted o (yielded ops a'.tmps) = Region.wanted o (yielded ops a.tmps)) : YieldsD P ops D o v a' := by
  unfold YieldsD at *
  rw [he, hw]
  exact hy
theorem YieldsD.of_quiet {o : Oper} {a : Act} {v : Value} (hp : plainB o = true) (h : ∀ w, D w → o.quietAt P a D w v) (w : World) (hw : D w) : (execOp a.eval o).run P w = .ok (.value v) w := by
  have h1 := h w hw
  have h2 := plain_enter hp a.eval P w
  unfold Oper.quietAt at h1
  generalize (execOp a.eval o).run P w = r at h1 h2
  cases r with
  | ok n w' =>
    obtain ⟨u, rfl⟩ := h2 n w' rfl
    simp only [Oper.quietUpon] at h1
    obtain ⟨e1, e2⟩ := h1
    rw [e1, e2]
  | halt x w' => simp only [Oper.quietUpon] at h1
theorem YieldsD.wpOp {i : Nat} {o : Oper} {v : Value} {a : Act} (hi : ops[i]? = some o) (hy : YieldsD P ops D o v a) {K : Act → World → Prop} {w : World} {Q : Exit → Act → World → Prop} (hD : D w) (h : K (a.put o.dst v) w) : wpOp P ops Q i K a w := by
  unfold Go.wpOp
  simp only [hi]
  rcases hy with ⟨hw, hv⟩ | ⟨hw, rfl⟩
  · simp only [hw, if_true, Oper.wp]
    rw [hv w hD]
    exact .inl h
  · simp only [hw, Bool.false_eq_true, if_false]; exact h
theorem wpOp_putD {j : Nat} {oi oj : Oper} {v : Value} (hj : ops[j]? = some oj) (hap : oi.apart ops oj = true)
    (hsi : ∀ cs b, oi.op ≠ .select cs b) (hsj : ∀ cs b, oj.op ≠ .select cs b) {K : Act → World → Prop} {a : Act} {w : World}
    (hy : YieldsD P ops D oi v a) (h : wpOp P ops noX j K (a.put oi.dst v) w) :
    wpOp P ops noX j (fun a' w' => YieldsD P ops D oi v a' ∧ K (a'.put oi.dst v) w') a w := by
  obtain ⟨h1, h2, h3⟩ := Oper.apart_spec hap
  have keep : ∀ (a : Act), YieldsD P ops D oi v a → ∀ u, YieldsD P ops D oi v (a.put oj.dst u) := fun a hy u =>
    hy.of_same (execOp_put oi hsi a oj.dst u h3) (wanted_put oi a oj.dst u h3)
  have keepD : ∀ d, YieldsD P ops D oi v { a with defers := d :: a.defers } := fun d => hy.of_same rfl rfl
  unfold wpOp at *
  simp only [hj] at *
  rw [wanted_put oj a oi.dst v h1] at h
  split
  · rename_i hw
    simp only [hw, if_true] at h
    rcases h with h | ⟨hasks, hlets⟩
    case inr => exact .inr ⟨by unfold Oper.asks at *; rw [execOp_put oj hsj a oi.dst v h1] at hasks; exact hasks, hlets⟩
    refine .inl ?_
    unfold Oper.wp at *
    rw [execOp_put oj hsj a oi.dst v h1] at h
    generalize (execOp a.eval oj).run P w = r at *
    cases r with
    | ok n w' =>
      cases n <;> simp only [Oper.upon] at h ⊢
      case value u => exact ⟨keep a hy u, by rw [← Act.put_comm a v u h2]; exact h⟩
      case skip => exact ⟨keep a hy _, by rw [← Act.put_comm a v undef h2]; exact h⟩
      case defer d =>
        refine ⟨keep _ (keepD d) _, ?_⟩
        rw [← Act.put_comm _ v undef h2, ← Act.put_defers]
        exact h
      case enter f args =>
        refine Calls.mono h fun e w'' he => ?_
        cases e with
        | returned u => exact ⟨keep a hy u, by rw [← Act.put_comm a v u h2]; exact he⟩
        | panicked c => exact he
        | outgrown => exact he
      case row row args => exact Rows.mono h fun u w'' he => ⟨keep a hy u, by rw [← Act.put_comm a v u h2]; exact he⟩
    | halt x w' =>
      cases x <;> simp only [Oper.upon] at h ⊢
      case panic u => exact h
  · rename_i hw
    simp only [hw] at h
    exact ⟨keep a hy _, by rw [← Act.put_comm a v undef h2]; exact h⟩
theorem wpOp_exit {i : Nat} {K : Act → World → Prop} {a : Act} {w : World} {Q : Exit → Act → World → Prop} (h : wpOp P ops noX i K a w) : wpOp P ops Q i K a w := by
  unfold wpOp at *
  split
  · rename_i ho; simp only [ho] at h; exact h
  · rename_i o ho
    simp only [ho] at h
    split
    · rename_i hw
      simp only [hw, if_true] at h
      rcases h with h | ⟨_, a2, w2, hl⟩
      · refine .inl ?_
        unfold Oper.wp at *
        generalize (execOp a.eval o).run P w = r at *
        cases r with
        | ok n w' =>
          cases n <;> simp only [Oper.upon] at h ⊢
          case value u => exact h
          case skip => exact h
          case defer d => exact h
          case enter f args =>
            refine Calls.mono h fun e w'' he => ?_
            cases e with
            | returned u => exact he
            | panicked c => exact he.elim
            | outgrown => obtain ⟨a3, w3, hl⟩ := he; exact hl.elim
          case row row args => exact h
        | halt x w' =>
          cases x <;> simp only [Oper.upon] at h ⊢
          case panic u => exact h.elim
      · exact hl.elim
    · rename_i hw
      simp only [hw] at h
      exact h
/-- t waits for i, at once or by others. -/
def reachB (md : Region.Mode) (ops : Array Oper) : Nat → Nat → Nat → Bool
  | 0, _, _ => false
  | f + 1, t, i => match ops[t]? with
    | some ot => ot.after.any fun e => Region.binds md e && (e.on == i || reachB md ops f e.on i)
    | none => false
def Closed (md : Region.Mode) (ops : Array Oper) (listed : Array Bool) : Prop :=
  ∀ j oj, ops[j]? = some oj → listed.getD j false = true → ∀ e ∈ oj.after, Region.binds md e = true → listed.getD e.on false = true
theorem Closed.set {listed : Array Bool} (h : Closed md ops listed) {i : Nat} (hi : i ∈ Region.ready md ops listed) : Closed md ops (listed.setIfInBounds i true) := by
  obtain ⟨_, oi, hoi, hall⟩ := mem_ready.1 hi
  intro j oj hj hl e he hb
  by_cases hij : i = j
  · subst hij
    have : oj = oi := Option.some.inj (hj.symm.trans hoi)
    subst this
    exact getD_set_true (hall e he hb)
  · rw [getD_set_ne false hij] at hl
    exact getD_set_true (h j oj hj hl e he hb)
theorem reach_listed {listed : Array Bool} (hc : Closed md ops listed) : ∀ (f t i : Nat) (ot : Oper), ops[t]? = some ot → (∀ e ∈ ot.after, Region.binds md e = true → listed.getD e.on false = true) → reachB md ops f t i = true → listed.getD i false = true := by
  intro f
  induction f with
  | zero => intro t i ot _ _ h; simp [reachB] at h
  | succ f ih =>
    intro t i ot ho hall h
    simp only [reachB, ho] at h
    obtain ⟨e, he, hb⟩ := Array.any_eq_true'.1 h
    simp only [Bool.and_eq_true, Bool.or_eq_true, beq_iff_eq] at hb
    obtain ⟨hb1, hb2⟩ := hb
    have hl := hall e he hb1
    rcases hb2 with h2 | h2
    · rw [← h2]; exact hl
    · cases ho2 : ops[e.on]? with
      | none =>
        cases f with
        | zero => simp [reachB] at h2
        | succ f => simp [reachB, ho2] at h2
      | some o2 => exact ih e.on i o2 ho2 (fun e2 he2 hb2 => hc e.on o2 ho2 hl e2 he2 hb2) h2
/-- A forced order. -/
def forcedB (md : Region.Mode) (ops : Array Oper) : List Nat → Array Bool → Bool
  | [], listed => (Region.ready md ops listed).isEmpty
  | b :: bs, listed => decide (Region.ready md ops listed = [b]) && forcedB md ops bs (listed.setIfInBounds b true)
theorem any_of_forced {Q : Exit → Act → World → Prop} : ∀ (B : List Nat) (l : List Oper) (listed : Array Bool) (a : Act) (w : World), l.map some = B.map (ops[·]?) →
    forcedB md ops B listed = true → wpList P ops Q l a w → wpAny P md ops Q B.length listed a w := by
  intro B
  induction B with
  | nil =>
    intro l listed a w hl hB h
    obtain rfl : l = [] := by cases l with | nil => rfl | cons x xs => simp at hl
    exact ⟨by simpa [forcedB] using hB, h⟩
  | cons b bs ih =>
    intro l listed a w hl hB h
    cases l with
    | nil => simp at hl
    | cons o l =>
      simp only [List.map_cons, List.cons.injEq] at hl
      simp only [forcedB, Bool.and_eq_true, decide_eq_true_eq] at hB
      refine ⟨fun h1 => (by rw [hB.1] at h1; cases h1), fun i hi => ?_⟩
      rw [hB.1] at hi
      obtain rfl : i = b := by simpa using hi
      have hw : wpOp P ops Q i (wpList P ops Q l) a w := by unfold wpOp; simp only [← hl.1]; exact h
      exact wpOp_mono (fun a' w' h' => ih l _ a' w' hl.2 hB.2 h') hw
/-- The window's calls and allocations: one at a time, or two that may come either way round. -/
inductive Tr where
  | rest
  | one (b : Nat) (t : Tr)
  | two (b : Nat) (t : Tr) (b' : Nat) (t' : Tr)
theorem opX_of_list {o : Oper} {i : Nat} (hi : ops[i]? = some o) {K : Act → World → Prop} {a : Act} {w : World} (h : wpList P ops (fun x a' w' => x = .normal ∧ K a' w') [o] a w) : wpOp P ops noX i K a w := by
  unfold wpOp
  simp only [hi]
  unfold wpList at h
  split
  · rename_i hw
    simp only [hw, if_true] at h
    rcases h with h | ⟨_, a2, w2, hl, _⟩
    · refine .inl ?_
      unfold Oper.wp at *
      generalize (execOp a.eval o).run P w = r at *
      cases r with
      | ok n w' =>
        cases n <;> simp only [Oper.upon] at h ⊢
        case value u => exact h.2
        case skip => exact h.2
        case defer d => exact h.2
        case enter f args =>
          refine Calls.mono h fun e w'' he => ?_
          cases e with
          | returned u => exact he.2
          | panicked c => exact absurd he.1 (by simp)
          | outgrown => obtain ⟨a3, w3, hl, _⟩ := he; exact absurd hl (by simp)
        case row row args => exact Rows.mono h fun u w'' he => he.2
      | halt x w' =>
        cases x <;> simp only [Oper.upon] at h ⊢
        case panic u => exact absurd h.1 (by simp)
    · exact absurd hl (by simp)
  · rename_i hw
    simp only [hw] at h
    exact h.2
theorem step_of {l : List Oper} {b : Nat} {K : Act → World → Prop} {a : Act} {w : World} (h : match l[b]? with
    | some o => wpList P l.toArray (fun x a' w' => x = .normal ∧ K a' w') [o] a w
    | none => False) : wpOp P l.toArray noX b K a w := by
  cases ho : l[b]? with
  | none => rw [ho] at h; exact h.elim
  | some o => rw [ho] at h; exact opX_of_list (ops := l.toArray) (by simpa using ho) h
theorem wpOp_monoQ {i : Nat} {K K' : Act → World → Prop} {a : Act} {w : World} {Q Q' : Exit → Act → World → Prop} (hK : ∀ a w, K a w → K' a w) (hQ : ∀ x a w, Q x a w → Q' x a w) (h : wpOp P ops Q i K a w) : wpOp P ops Q' i K' a w := by
  unfold wpOp at *
  split
  · rename_i ho; simp only [ho] at h; exact hK _ _ h
  · rename_i o ho
    simp only [ho] at h
    split
    · rename_i hw
      simp only [hw, if_true] at h
      rcases h with h | ⟨h1, a2, w2, hl⟩
      · refine .inl ?_
        unfold Oper.wp at *
        generalize (execOp a.eval o).run P w = r at *
        cases r with
        | ok n w' =>
          cases n <;> simp only [Oper.upon] at h ⊢
          case value u => exact hK _ _ h
          case skip => exact hK _ _ h
          case defer d => exact hK _ _ h
          case enter f args =>
            refine Calls.mono h fun e w'' he => ?_
            cases e with
            | returned u => exact hK _ _ he
            | panicked c => exact hQ _ _ _ he
            | outgrown => obtain ⟨a3, w3, hl⟩ := he; exact ⟨a3, w3, hQ _ _ _ hl⟩
          case row row args => exact Rows.mono h fun u w'' he => hK _ _ he
        | halt x w' =>
          cases x <;> simp only [Oper.upon] at h ⊢
          case panic u => exact hQ _ _ _ h
      · exact .inr ⟨h1, a2, w2, hQ _ _ _ hl⟩
    · rename_i hw
      simp only [hw] at h
      exact hK _ _ h
theorem wpAny_monoQ {Q Q' : Exit → Act → World → Prop} (hQ : ∀ x a w, Q x a w → Q' x a w) : ∀ (f : Nat) (listed : Array Bool) (a : Act) (w : World), wpAny P md ops Q f listed a w → wpAny P md ops Q' f listed a w := by
  intro f
  induction f with
  | zero => intro listed a w h; exact ⟨h.1, hQ _ _ _ h.2⟩
  | succ f ih => intro listed a w h; exact ⟨fun h0 => hQ _ _ _ (h.1 h0), fun i hi => wpOp_monoQ (fun a w h => ih _ a w h) hQ (h.2 i hi)⟩
/-- The operations of a list of indices. -/
def pickOps (l : List Oper) (is : List Nat) : List Oper := is.filterMap (l[·]?)
theorem pick_spec {l : List Oper} : ∀ {is : List Nat}, is.all (fun i => decide (i < l.length)) = true → (pickOps l is).map some = is.map (l.toArray[·]?) := by
  intro is
  induction is with
  | nil => intro _; rfl
  | cons i is ih =>
    intro h
    simp only [List.all_cons, Bool.and_eq_true, decide_eq_true_eq] at h
    have e : l[i]? = some l[i] := List.getElem?_eq_getElem h.1
    have e2 : pickOps l (i :: is) = l[i] :: pickOps l is := by simp [pickOps, e]
    rw [e2, List.map_cons, List.map_cons, ih h.2]
    congr 1
    simp [e]
variable {l : List Oper} {Q : Exit → Act → World → Prop} {lr : List Oper} {t t' : Tr} {b b' : Nat} {o o' : Oper} {a : Act} {w : World}
end
end Go.Proofs.YtecdendjlgohjaaDoor
/-
  A region that draws its order, more freely than in X50: loads and calls as there (each but the operations of T keeps the class of worlds D, and those of T wait for all loads), and behind the calls plain operations that may come in whatever order with what is left.
-/
namespace Go.Proofs.YtecdendjlgohjaaDoor
open Go
section
variable {P : Program} {ops : Array Oper} {md : Region.Mode} {D : World → Prop}
inductive Tw where
  | rest
  | one (b : Nat) (t : Tw)
  | two (b : Nat) (t : Tw) (b' : Nat) (t' : Tw)
  | first (i : Nat) (t : Tw)
  | load (i : Nat) (t : Tw)
/-- All that is listed before an operation of T keeps D. -/
def anyD (P : Program) (md : Region.Mode) (ops : Array Oper) (D : World → Prop) (T : List Nat) (Q : Exit → Act → World → Prop) : Nat → Array Bool → Act → World → Prop
  | 0, listed, a, w => D w ∧ Region.ready md ops listed = [] ∧ Q .normal a w
  | f + 1, listed, a, w => D w ∧ Region.ready md ops listed ≠ [] ∧ ∀ i ∈ Region.ready md ops listed,
      (T.contains i = true → wpOp P ops Q i (wpAny P md ops Q f (listed.setIfInBounds i true)) a w) ∧ (T.contains i = false → wpOp P ops noX i (anyD P md ops D T Q f (listed.setIfInBounds i true)) a w)
theorem anyD_D {T : List Nat} {Q : Exit → Act → World → Prop} : ∀ {f : Nat} {listed : Array Bool} {a : Act} {w : World}, anyD P md ops D T Q f listed a w → D w
  | 0, _, _, _, h => h.1
  | _ + 1, _, _, _, h => h.1
theorem any_of_anyD {T : List Nat} {Q : Exit → Act → World → Prop} : ∀ (f : Nat) (listed : Array Bool) (a : Act) (w : World), anyD P md ops D T Q f listed a w → wpAny P md ops Q f listed a w := by
  intro f
  induction f with
  | zero => intro listed a w h; exact ⟨h.2.1, h.2.2⟩
  | succ f ih =>
    intro listed a w h
    refine ⟨fun h0 => absurd h0 h.2.1, fun i hi => ?_⟩
    cases hT : T.contains i with
    | true => exact (h.2.2 i hi).1 hT
    | false => exact wpOp_exit (wpOp_mono (fun a' w' h' => ih _ a' w' h') ((h.2.2 i hi).2 hT))
/-- A load may be taken first. -/
theorem anyD_load {T : List Nat} {Q : Exit → Act → World → Prop} {i : Nat} {oi : Oper} {v : Value} (hi : ops[i]? = some oi) (hsel : Region.noSelect ops = true)
    (hwait : ∀ t, T.contains t = true → reachB md ops ops.size t i = true) (hTi : T.contains i = false) :
    ∀ (f : Nat) (listed : Array Bool) (a : Act) (w : World), Closed md ops listed →
      (∀ j oj, ops[j]? = some oj → j ≠ i → listed.getD j true = false → (∀ e ∈ oj.after, Region.binds md e = true → e.on ≠ i) → oi.apart ops oj = true) →
      i ∈ Region.ready md ops listed → YieldsD P ops D oi v a → D w →
      anyD P md ops D T Q f (listed.setIfInBounds i true) (a.put oi.dst v) w → anyD P md ops D T Q (f + 1) listed a w := by
  have late : ∀ (listed : Array Bool), Closed md ops listed → listed.getD i true = false → ∀ j ∈ Region.ready md ops listed, T.contains j = false := by
    intro listed hcl hun j hj
    cases hT : T.contains j with
    | false => rfl
    | true =>
      obtain ⟨_, oj, hoj, hall⟩ := mem_ready.1 hj
      have := reach_listed hcl ops.size j i oj hoj hall (hwait j hT)
      rw [getD_both hun] at this
      cases this
  intro f
  induction f with
  | zero =>
    intro listed a w hcl _ hr hy hD H
    refine ⟨hD, fun h => (by rw [h] at hr; cases hr), fun j hj => ?_⟩
    have hTj := late listed hcl (mem_ready.1 hr).1 j hj
    refine ⟨fun h => (by rw [hTj] at h; cases h), fun _ => ?_⟩
    by_cases hji : j = i
    · subst hji
      exact hy.wpOp hi hD H
    · have := ready_mono hj hji
      rw [H.2.1] at this
      cases this
  | succ f ih =>
    intro listed a w hcl hfree hr hy hD H
    refine ⟨hD, fun h => (by rw [h] at hr; cases hr), fun j hj => ?_⟩
    have hTj := late listed hcl (mem_ready.1 hr).1 j hj
    refine ⟨fun h => (by rw [hTj] at h; cases h), fun _ => ?_⟩
    by_cases hji : j = i
    · subst hji
      exact hy.wpOp hi hD H
    obtain ⟨hjun, oj, hoj, hall⟩ := mem_ready.1 hj
    have hnot : ∀ e ∈ oj.after, Region.binds md e = true → e.on ≠ i := fun e he hb heq => by
      have h1 := hall e he hb
      rw [heq, getD_both (mem_ready.1 hr).1] at h1
      cases h1
    have h2 := wpOp_putD hoj (hfree j oj hoj hji hjun hnot) (fun cs b => Region.noSelect_spec hsel i oi cs b hi) (fun cs b => Region.noSelect_spec hsel j oj cs b hoj) hy ((H.2.2 j (ready_mono hj hji)).2 hTj)
    refine wpOp_mono (fun a' w' h3 => ?_) h2
    obtain ⟨h3, h4⟩ := h3
    refine ih (listed.setIfInBounds j true) a' w' (hcl.set hj) (fun k ok hk hki hun hno => hfree k ok hk hki ?_ hno) (ready_mono hr (Ne.symm hji)) h3 (anyD_D h4) ?_
    · by_cases hjk : j = k
      · subst hjk
        exact hjun
      · rwa [getD_set_ne true hjk] at hun
    · rw [Array.setIfInBounds_comm _ _ hji]
      exact h4
/-- An operation that needs no memory may be taken first. -/
theorem anyD_plain {T : List Nat} {Q : Exit → Act → World → Prop} (hQ : ∀ c a w, Q (.panic c) a w → False) {i : Nat} {oi : Oper} {v : Value} (hi : ops[i]? = some oi) (hsel : Region.noSelect ops = true) (hTi : T.contains i = false) :
    ∀ (f : Nat) (listed : Array Bool) (a : Act) (w : World),
      (∀ j oj, ops[j]? = some oj → j ≠ i → listed.getD j true = false → (∀ e ∈ oj.after, Region.binds md e = true → e.on ≠ i) → oi.apart ops oj = true) →
      i ∈ Region.ready md ops listed → Yields P ops oi v a →
      anyD P md ops D T Q f (listed.setIfInBounds i true) (a.put oi.dst v) w → anyD P md ops D T Q (f + 1) listed a w := by
  intro f
  induction f with
  | zero =>
    intro listed a w _ hr hy H
    refine ⟨H.1, fun h => (by rw [h] at hr; cases hr), fun j hj => ?_⟩
    by_cases hji : j = i
    · subst hji
      exact ⟨fun h => (by rw [hTi] at h; cases h), fun _ => hy.wpOp hi H⟩
    · have := ready_mono hj hji
      rw [H.2.1] at this
      cases this
  | succ f ih =>
    intro listed a w hfree hr hy H
    refine ⟨H.1, fun h => (by rw [h] at hr; cases hr), fun j hj => ?_⟩
    by_cases hji : j = i
    · subst hji
      exact ⟨fun h => (by rw [hTi] at h; cases h), fun _ => hy.wpOp hi H⟩
    obtain ⟨hjun, oj, hoj, hall⟩ := mem_ready.1 hj
    have hnot : ∀ e ∈ oj.after, Region.binds md e = true → e.on ≠ i := fun e he hb heq => by
      have h1 := hall e he hb
      rw [heq, getD_both (mem_ready.1 hr).1] at h1
      cases h1
    have hap := hfree j oj hoj hji hjun hnot
    have hfree2 : ∀ k ok, ops[k]? = some ok → k ≠ i → (listed.setIfInBounds j true).getD k true = false → (∀ e ∈ ok.after, Region.binds md e = true → e.on ≠ i) → oi.apart ops ok = true := fun k ok hk hki hun hno => hfree k ok hk hki (by
      by_cases hjk : j = k
      · subst hjk
        exact hjun
      · rwa [getD_set_ne true hjk] at hun) hno
    have si := fun cs b => Region.noSelect_spec hsel i oi cs b hi
    have sj := fun cs b => Region.noSelect_spec hsel j oj cs b hoj
    refine ⟨fun hTj => ?_, fun hTj => ?_⟩
    · have h2 := wpOp_put hoj hap si sj (fun c a w h => (hQ c _ w h).elim) hy ((H.2.2 j (ready_mono hj hji)).1 hTj)
      refine wpOp_mono (fun a' w' h3 => ?_) h2
      refine wpAny_first hi (Region.noSelect_spec hsel) (fun c a w h => (hQ c _ w h).elim) _ _ a' w' hfree2 (ready_mono hr (Ne.symm hji)) h3.1 ?_
      rw [Array.setIfInBounds_comm _ _ hji]
      exact h3.2
    · have h2 := wpOp_put (Q := noX) hoj hap si sj (fun c a w h => h.elim) hy ((H.2.2 j (ready_mono hj hji)).2 hTj)
      refine wpOp_mono (fun a' w' h3 => ?_) h2
      refine ih (listed.setIfInBounds j true) a' w' hfree2 (ready_mono hr (Ne.symm hji)) h3.1 ?_
      rw [Array.setIfInBounds_comm _ _ hji]
      exact h3.2
def headB (T R : List Nat) : Bool := match R with
  | [] => true
  | r :: _ => T.contains r
def treeW (md : Region.Mode) (ops : Array Oper) (T R : List Nat) : Nat → Tw → Array Bool → Bool
  | 0, .rest, listed => forcedB md ops R listed && headB T R
  | m + 1, .one b t, listed => decide (Region.ready md ops listed = [b]) && !T.contains b && treeW md ops T R m t (listed.setIfInBounds b true)
  | m + 1, .two b t b' t', listed => decide (Region.ready md ops listed = [b, b']) && !T.contains b && !T.contains b' && treeW md ops T R m t (listed.setIfInBounds b true) && treeW md ops T R m t' (listed.setIfInBounds b' true)
  | m + 1, .first i t, listed => (Region.ready md ops listed).contains i && Region.free md ops listed i && !T.contains i && ((ops[i]?).map plainB).getD false && treeW md ops T R m t (listed.setIfInBounds i true)
  | m + 1, .load i t, listed => (Region.ready md ops listed).contains i && Region.free md ops listed i && !T.contains i && T.all (fun t => reachB md ops ops.size t i) && ((ops[i]?).map plainB).getD false && treeW md ops T R m t (listed.setIfInBounds i true)
  | _, _, _ => false
/-- D is shown behind each; then the rest. -/
def seqW (P : Program) (l : List Oper) (D : World → Prop) (Q : Exit → Act → World → Prop) (lr : List Oper) : Tw → Act → World → Prop
  | .rest, a, w => wpList P l.toArray Q lr a w
  | .one b t, a, w => match l[b]? with
    | some o => wpList P l.toArray (fun x a' w' => x = .normal ∧ D w' ∧ seqW P l D Q lr t a' w') [o] a w
    | none => False
  | .two b t b' t', a, w => (match l[b]? with
    | some o => wpList P l.toArray (fun x a' w' => x = .normal ∧ D w' ∧ seqW P l D Q lr t a' w') [o] a w
    | none => False) ∧ (match l[b']? with
    | some o => wpList P l.toArray (fun x a' w' => x = .normal ∧ D w' ∧ seqW P l D Q lr t' a' w') [o] a w
    | none => False)
  | .first i t, a, w => match l[i]? with
    | some o => wpQuiet P l.toArray (fun _ => True) (fun a' => seqW P l D Q lr t a' w) [o] a
    | none => False
  | .load i t, a, w => match l[i]? with
    | some o => wpQuiet P l.toArray D (fun a' => seqW P l D Q lr t a' w) [o] a
    | none => False
theorem yields_of_quiet {l : List Oper} {i : Nat} {o : Oper} {a : Act} {K : Act → Prop} (hi : l[i]? = some o) (hp : plainB o = true) (h : wpQuiet P l.toArray (fun _ => True) K [o] a) : ∃ v, Yields P l.toArray o v a ∧ K (a.put o.dst v) := by
  have hi' : l.toArray[i]? = some o := by simpa using hi
  have hq : qOp P l.toArray (fun _ => True) i (wpQuiet P l.toArray (fun _ => True) K []) a := by unfold qOp; simp only [hi']; exact h
  obtain ⟨v, hy, hK⟩ := yieldsIn_of_qOp hi' hq
  refine ⟨v, ?_, hK⟩
  rcases hy with ⟨hw, h1⟩ | ⟨hw, rfl⟩
  · exact .inl ⟨hw, fun w => YieldsD.of_quiet hp h1 w trivial⟩
  · exact .inr ⟨hw, rfl⟩
theorem anyD_tree {l : List Oper} {T R : List Nat} {lr : List Oper} {Q : Exit → Act → World → Prop} (hsel : Region.noSelect l.toArray = true) (hQ : ∀ c a w, Q (.panic c) a w → False) (hlr : lr.map some = R.map (l.toArray[·]?)) :
    ∀ (m : Nat) (t : Tw) (listed : Array Bool) (a : Act) (w : World), Closed md l.toArray listed → treeW md l.toArray T R m t listed = true → D w → seqW P l D Q lr t a w → anyD P md l.toArray D T Q (m + R.length) listed a w := by
  intro m
  induction m with
  | zero =>
    intro t listed a w hc hB hD h
    cases t with
    | rest =>
      simp only [treeW, Bool.and_eq_true] at hB
      have h2 := any_of_forced R lr listed a w hlr hB.1 h
      rw [Nat.zero_add]
      cases R with
      | nil => exact ⟨hD, h2.1, h2.2⟩
      | cons r rs =>
        have hr := hB.1
        simp only [forcedB, Bool.and_eq_true, decide_eq_true_eq] at hr
        refine ⟨hD, by rw [hr.1]; simp, fun i hi => ⟨fun _ => h2.2 i hi, fun hT => ?_⟩⟩
        rw [hr.1] at hi
        obtain rfl : i = r := by simpa using hi
        have := hB.2
        simp only [headB] at this
        rw [this] at hT
        cases hT
    | one b t => simp [treeW] at hB
    | two b t b' t' => simp [treeW] at hB
    | first i t => simp [treeW] at hB
    | load i t => simp [treeW] at hB
  | succ m ih =>
    intro t listed a w hc hB hD h
    rw [show m + 1 + R.length = (m + R.length) + 1 by omega]
    cases t with
    | rest => simp [treeW] at hB
    | one b t =>
      simp only [treeW, Bool.and_eq_true, decide_eq_true_eq, Bool.not_eq_true'] at hB
      refine ⟨hD, by rw [hB.1.1]; simp, fun i hi => ?_⟩
      have hi0 := hi
      rw [hB.1.1] at hi
      obtain rfl : i = b := by simpa using hi
      exact ⟨fun hT => (by rw [hB.1.2] at hT; cases hT), fun _ => wpOp_mono (fun a' w' h' => ih t _ a' w' (hc.set hi0) hB.2 h'.1 h'.2) (step_of (K := fun a' w' => D w' ∧ seqW P l D Q lr t a' w') h)⟩
    | two b t b' t' =>
      simp only [treeW, Bool.and_eq_true, decide_eq_true_eq, Bool.not_eq_true'] at hB
      obtain ⟨⟨⟨⟨g1, g2⟩, g3⟩, g4⟩, g5⟩ := hB
      refine ⟨hD, by rw [g1]; simp, fun i hi => ?_⟩
      have hi0 := hi
      rw [g1] at hi
      have hi' : i = b ∨ i = b' := by simpa using hi
      rcases hi' with rfl | rfl
      · exact ⟨fun hT => (by rw [g2] at hT; cases hT), fun _ => wpOp_mono (fun a' w' h' => ih t _ a' w' (hc.set hi0) g4 h'.1 h'.2) (step_of (K := fun a' w' => D w' ∧ seqW P l D Q lr t a' w') h.1)⟩
      · exact ⟨fun hT => (by rw [g3] at hT; cases hT), fun _ => wpOp_mono (fun a' w' h' => ih t' _ a' w' (hc.set hi0) g5 h'.1 h'.2) (step_of (K := fun a' w' => D w' ∧ seqW P l D Q lr t' a' w') h.2)⟩
    | first i t =>
      simp only [treeW, Bool.and_eq_true, Bool.not_eq_true'] at hB
      obtain ⟨⟨⟨⟨g1, g2⟩, g3⟩, g4⟩, g5⟩ := hB
      cases ho : l[i]? with
      | none => simp [ho] at g4
      | some o =>
        have ho' : l.toArray[i]? = some o := by simpa using ho
        simp only [ho', Option.map_some, Option.getD_some] at g4
        simp only [seqW, ho] at h
        obtain ⟨v, hy, hK⟩ := yields_of_quiet ho g4 h
        exact anyD_plain hQ ho' hsel g3 _ listed a w (Region.free_spec ho' g2) (by simpa using g1) hy (ih t _ _ w (hc.set (by simpa using g1)) g5 hD hK)
    | load i t =>
      simp only [treeW, Bool.and_eq_true, Bool.not_eq_true'] at hB
      obtain ⟨⟨⟨⟨⟨g1, g2⟩, g3⟩, g6⟩, g4⟩, g5⟩ := hB
      cases ho : l[i]? with
      | none => simp [ho] at g4
      | some o =>
        have ho' : l.toArray[i]? = some o := by simpa using ho
        simp only [ho', Option.map_some, Option.getD_some] at g4
        simp only [seqW, ho] at h
        have hq : qOp P l.toArray D i (wpQuiet P l.toArray D (fun a' => seqW P l D Q lr t a' w) []) a := by unfold qOp; simp only [ho']; exact h
        obtain ⟨v, hy, hK⟩ := yieldsIn_of_qOp ho' hq
        have hy2 : YieldsD P l.toArray D o v a := by
          rcases hy with ⟨hw, h1⟩ | ⟨hw, rfl⟩
          · exact .inl ⟨hw, YieldsD.of_quiet g4 h1⟩
          · exact .inr ⟨hw, rfl⟩
        have g1' : i ∈ Region.ready md l.toArray listed := by simpa using g1
        exact anyD_load ho' hsel (fun t ht => List.all_eq_true.1 g6 t (by simpa using ht)) g3 _ listed a w hc (Region.free_spec ho' g2) g1' hy2 hD (ih t _ _ w (hc.set g1') g5 hD hK)
def loadsW (md : Region.Mode) (ops : Array Oper) (T R : List Nat) (m : Nat) (t : Tw) : List Nat → Array Bool → Bool
  | [], listed => treeW md ops T R m t listed
  | i :: is, listed => (Region.ready md ops listed).contains i && Region.free md ops listed i && loadsW md ops T R m t is (listed.setIfInBounds i true)
theorem anyD_loads {l : List Oper} {T R : List Nat} {lr : List Oper} {m : Nat} {t : Tw} {Q : Exit → Act → World → Prop} (hsel : Region.noSelect l.toArray = true) (hQ : ∀ c a w, Q (.panic c) a w → False) (hlr : lr.map some = R.map (l.toArray[·]?)) :
    ∀ (F : List Nat) (k : List Oper) (listed : Array Bool) (a : Act) (w : World), k.map some = F.map (l.toArray[·]?) → k.all plainB = true → Closed md l.toArray listed → loadsW md l.toArray T R m t F listed = true →
    (∀ i ∈ F, T.contains i = false ∧ ∀ t, T.contains t = true → reachB md l.toArray l.toArray.size t i = true) → D w → wpQuiet P l.toArray D (fun a' => seqW P l D Q lr t a' w) k a →
    anyD P md l.toArray D T Q (F.length + (m + R.length)) listed a w := by
  intro F
  induction F with
  | nil =>
    intro k listed a w hk _ hc hB _ hD h
    obtain rfl : k = [] := by cases k with | nil => rfl | cons x xs => simp at hk
    simp only [List.length_nil, Nat.zero_add]
    exact anyD_tree hsel hQ hlr m t listed a w hc hB hD h
  | cons i is ih =>
    intro k listed a w hk hp hc hB hW hD h
    cases k with
    | nil => simp at hk
    | cons o k =>
      simp only [List.map_cons, List.cons.injEq] at hk
      simp only [List.all_cons, Bool.and_eq_true] at hp
      simp only [loadsW, Bool.and_eq_true] at hB
      obtain ⟨⟨hr, hf⟩, hB2⟩ := hB
      have hr' : i ∈ Region.ready md l.toArray listed := by simpa using hr
      have hq : qOp P l.toArray D i (wpQuiet P l.toArray D (fun a' => seqW P l D Q lr t a' w) k) a := by unfold qOp; simp only [← hk.1]; exact h
      obtain ⟨v, hy, hK⟩ := yieldsIn_of_qOp hk.1.symm hq
      have hy2 : YieldsD P l.toArray D o v a := by
        rcases hy with ⟨hw, h1⟩ | ⟨hw, rfl⟩
        · exact .inl ⟨hw, YieldsD.of_quiet hp.1 h1⟩
        · exact .inr ⟨hw, rfl⟩
      obtain ⟨hTi, hwait⟩ := hW i (by simp)
      rw [List.length_cons, show is.length + 1 + (m + R.length) = (is.length + (m + R.length)) + 1 by omega]
      exact anyD_load hk.1.symm hsel hwait hTi _ listed a w hc (Region.free_spec hk.1.symm hf) hr' hy2 hD (ih k _ _ w hk.2 hp.2 (hc.set hr') hB2 (fun j hj => hW j (by simp [hj])) hD hK)
def planGoW (md : Region.Mode) (ops : Array Oper) (F : List Nat) (m : Nat) (t : Tw) (T R : List Nat) : List Nat → Array Bool → Bool
  | [], listed => loadsW md ops T R m t F listed
  | i :: is, listed => (Region.ready md ops listed).contains i && Region.free md ops listed i && !T.contains i && planGoW md ops F m t T R is (listed.setIfInBounds i true)
def planW (md : Region.Mode) (ops : Array Oper) (A F : List Nat) (m : Nat) (t : Tw) (T R : List Nat) : Bool :=
  Region.noSelect ops && decide (A.length + (F.length + (m + R.length)) = ops.size) && T.all (fun t => F.all fun i => reachB md ops ops.size t i) && F.all (fun i => !T.contains i) &&
    planGoW md ops F m t T R A (Array.replicate ops.size false)
theorem anyD_plan {l : List Oper} {T R : List Nat} {lr : List Oper} {m : Nat} {t : Tw} {Q : Exit → Act → World → Prop} (hsel : Region.noSelect l.toArray = true) (hQ : ∀ c a w, Q (.panic c) a w → False) (hlr : lr.map some = R.map (l.toArray[·]?)) {F : List Nat} {lf : List Oper} (hlf : lf.map some = F.map (l.toArray[·]?)) (hpf : lf.all plainB = true)
    (hW : ∀ i ∈ F, T.contains i = false ∧ ∀ t, T.contains t = true → reachB md l.toArray l.toArray.size t i = true) :
    ∀ (A : List Nat) (la : List Oper) (listed : Array Bool) (a : Act) (w : World), la.map some = A.map (l.toArray[·]?) → la.all plainB = true → Closed md l.toArray listed → planGoW md l.toArray F m t T R A listed = true →
    D w → wpQuiet P l.toArray (fun _ => True) (fun a' => wpQuiet P l.toArray D (fun a' => seqW P l D Q lr t a' w) lf a') la a → anyD P md l.toArray D T Q (A.length + (F.length + (m + R.length))) listed a w := by
  intro A
  induction A with
  | nil =>
    intro la listed a w hla _ hc hB hD h
    obtain rfl : la = [] := by cases la with | nil => rfl | cons x xs => simp at hla
    rw [List.length_nil, Nat.zero_add]
    exact anyD_loads hsel hQ hlr F lf listed a w hlf hpf hc hB hW hD h
  | cons i is ih =>
    intro la listed a w hla hp hc hB hD h
    cases la with
    | nil => simp at hla
    | cons o la =>
      simp only [List.map_cons, List.cons.injEq] at hla
      simp only [List.all_cons, Bool.and_eq_true] at hp
      simp only [planGoW, Bool.and_eq_true, Bool.not_eq_true'] at hB
      obtain ⟨⟨⟨hr, hf⟩, hTi⟩, hB2⟩ := hB
      have hr' : i ∈ Region.ready md l.toArray listed := by simpa using hr
      have hq : qOp P l.toArray (fun _ => True) i (wpQuiet P l.toArray (fun _ => True) (fun a' => wpQuiet P l.toArray D (fun a' => seqW P l D Q lr t a' w) lf a') la) a := by unfold qOp; simp only [← hla.1]; exact h
      obtain ⟨v, hy, hK⟩ := yieldsIn_of_qOp hla.1.symm hq
      rw [List.length_cons, show is.length + 1 + (F.length + (m + R.length)) = (is.length + (F.length + (m + R.length))) + 1 by omega]
      have hy2 : Yields P l.toArray o v a := by
        rcases hy with ⟨hw, h1⟩ | ⟨hw, rfl⟩
        · exact .inl ⟨hw, fun w => YieldsD.of_quiet hp.1 h1 w trivial⟩
        · exact .inr ⟨hw, rfl⟩
      exact anyD_plain hQ hla.1.symm hsel hTi _ listed a w (Region.free_spec hla.1.symm hf) hr' hy2 (ih la _ _ w hla.2 hp.2 (hc.set hr') hB2 hD hK)
/-- THE REGION: A are plain operations that need no memory; F plain ones, loads too, that all of T (what writes) wait for; t what the rest does first (D is shown behind each call or allocation), m steps; R what is left, in its one order. -/
theorem wp_region_planW {id : Nat} {Q : Exit → Act → World → Prop} {a : Act} {w : World} {l : List Oper} (A F : List Nat) (m : Nat) (t : Tw) (T R : List Nat) (hm : P.follows .mixedOrders = true)
    (hB : (planW .any l.toArray A F m t T R && (A ++ F ++ R).all (fun i => decide (i < l.length)) && (pickOps l A).all plainB && (pickOps l F).all plainB) = true) (hD : D { w with drawn := w.drawn + 1 })
    (h : wpQuiet P l.toArray (fun _ => True) (fun a' => wpQuiet P l.toArray D (fun a' => seqW P l D (fun x a w => x = .normal ∧ Q .normal a w) (pickOps l R) t a' { w with drawn := w.drawn + 1 }) (pickOps l F) a') (pickOps l A) a) :
    (Code.region id l.toArray true).wp P Q a w := by
  simp only [Bool.and_eq_true, List.all_append] at hB
  obtain ⟨⟨⟨hP, ⟨hA, hF⟩, hBB⟩, hpA⟩, hpF⟩ := hB
  simp only [planW, Bool.and_eq_true, decide_eq_true_eq] at hP
  obtain ⟨⟨⟨⟨hsel, hsz⟩, hre⟩, hFn⟩, hgo⟩ := hP
  refine wp_region_any hm ?_
  have hc : Closed .any l.toArray (Array.replicate l.toArray.size false) := fun j oj _ hl => (by rw [getD_replicate_false] at hl; cases hl)
  have h2 := anyD_plan (P := P) (md := .any) (D := D) (T := T) (Q := fun x a w => x = .normal ∧ Q .normal a w) hsel (fun c a w h => by cases h.1) (R := R) (m := m) (F := F) (pick_spec hBB) (pick_spec hF) hpF
    (fun i hi => ⟨by have := List.all_eq_true.1 hFn i hi; rw [Bool.not_eq_true'] at this; exact this, fun t ht => List.all_eq_true.1 (List.all_eq_true.1 hre t (by simpa using ht)) i hi⟩)
    A (pickOps l A) _ a _ (pick_spec hA) hpA hc hgo hD h
  rw [hsz] at h2
  exact wpAny_monoQ (fun x a w hx => by obtain ⟨rfl, h⟩ := hx; exact h) _ _ _ _ (any_of_anyD _ _ _ _ h2)
/-- .. at the class 'w, drawn, with blocks laid behind it'. -/
theorem wp_region_fresh2 {id : Nat} {Q : Exit → Act → World → Prop} {a : Act} {w : World} {l : List Oper} (A F : List Nat) (m : Nat) (t : Tw) (T R : List Nat) (hm : P.follows .mixedOrders = true)
    (hB : (planW .any l.toArray A F m t T R && (A ++ F ++ R).all (fun i => decide (i < l.length)) && (pickOps l A).all plainB && (pickOps l F).all plainB) = true)
    (h : wpQuiet P l.toArray (fun _ => True) (fun a' => wpQuiet P l.toArray (fun w' => ∃ p : Regrown, w' = Go.Sort.grow (redrawn w p.d) p.os) (fun a' => seqW P l (fun w' => ∃ p : Regrown, w' = Go.Sort.grow (redrawn w p.d) p.os) (fun x a w => x = .normal ∧ Q .normal a w) (pickOps l R) t a' w.drew) (pickOps l F) a') (pickOps l A) a) :
    (Code.region id l.toArray true).wp P Q a w :=
  wp_region_planW (D := fun w' => ∃ p : Regrown, w' = Go.Sort.grow (redrawn w p.d) p.os) A F m t T R hm hB ⟨⟨w.drawn + 1, #[]⟩, by rw [Go.Sort.grow_empty]; rfl⟩ h
variable {l : List Oper} {Q : Exit → Act → World → Prop} {lr : List Oper} {t t' : Tw} {b b' : Nat} {o o' : Oper} {a : Act} {w : World}
theorem seqT_one2 (h : l[b]? = some o) (k : wpList P l.toArray (fun x a' w' => x = .normal ∧ D w' ∧ seqW P l D Q lr t a' w') [o] a w) : seqW P l D Q lr (.one b t) a w := by
  unfold seqW
  rw [h]
  exact k
theorem seqT_first2 (h : l[b]? = some o) (k : wpQuiet P l.toArray (fun _ => True) (fun a' => seqW P l D Q lr t a' w) [o] a) : seqW P l D Q lr (.first b t) a w := by
  unfold seqW
  rw [h]
  exact k
theorem seqT_rest2 (k : wpList P l.toArray Q lr a w) : seqW P l D Q lr .rest a w := k
end
end Go.Proofs.YtecdendjlgohjaaDoor
namespace Go.Proofs.YtecdendjlgohjaaDoor
open Go.RowKit Go.Sort
set_option maxHeartbeats 1000000
set_option maxRecDepth 100000
theorem below_grow (w : World) (k : Nat) (os : Array Obj) : Below w.heap.size w (grow (w.drewN k) os) :=
  ⟨rfl, rfl, rfl, by simp [grow], fun j hj => by simp [grow, World.drewN, Array.getElem?_append_left hj]⟩
theorem impl_Decimal (n : Int) (h0 : -9223372036854775808 ≤ n) (h1 : n ≤ 9223372036854775807) (w : World) (hT : TAB w) :
    Calls Tryd.prog 35 #[.int .i64 n] w fun e w' => e = .returned (.string ⟨(Lib.itoa n).toArray⟩) ∧ Below w.heap.size w w' := by
  go_enter Tryd.func35, Tryd.ntmps35
  go_wp2_with (go_at_call 64; refine (Tryd.strconv_FormatInt_10 n h0 h1 _ hT.here).mono ?_; rintro e w1 ⟨rfl, kk, os, rfl⟩)
  go_ret
  exact ⟨rfl, below_grow _ _ _⟩
/-- The text of a curve; none if it is no curve. -/
def M.curveText (xs : List (Int × Int)) : List UInt8 := if M.curveOk xs = true then M.cvText xs else []
def M.strs (ls : List (List UInt8)) : List Value := ls.map fun l => .string ⟨l.toArray⟩
theorem ei_str : EI Tryd.prog 67 9 (.string ByteArray.empty) 1 16 := ⟨Tryd.underlying67, by kernel_rfl, rfl, by decide⟩
theorem M.pt_bounds {xs : List (Int × Int)} (h : M.curveOk xs = true) {k : Nat} {p : Int × Int} (hk : xs[k]? = some p) : (-9223372036854775808 ≤ p.1 ∧ p.1 ≤ 9223372036854775807) ∧ -9223372036854775808 ≤ p.2 ∧ p.2 ≤ 9223372036854775807 := by
  have := M.curve_pt h hk
  omega
theorem M.str_app (a b : List UInt8) : (⟨a.toArray⟩ : ByteArray) ++ ⟨b.toArray⟩ = ⟨(a ++ b).toArray⟩ := by
  apply ByteArray.ext
  simp
theorem M.strs_next {ls : List (List UInt8)} {k : Nat} {x : List UInt8} (h : ls[k]? = some x) : M.strs (ls.take k) ++ [.string ⟨x.toArray⟩] = M.strs (ls.take (k + 1)) := by
  obtain ⟨hk, rfl⟩ := List.getElem?_eq_some_iff.1 h
  rw [← List.take_append_getElem hk]
  simp only [M.strs, List.map_append, List.map_cons, List.map_nil]
theorem M.unstr (ls : List (List UInt8)) : (ls.map fun l => (⟨l.toArray⟩ : ByteArray)).map (fun s => s.data.toList) = ls := by
  rw [List.map_map]
  exact List.map_id'' (fun l => by simp) ls
theorem M.cvText_bound {xs : List (Int × Int)} (h : M.curveOk xs = true) : (M.cvText xs).length ≤ 1056 := by
  have h1 := M.curve_len h
  have := M.cvText_le xs fun p hp => by
    obtain ⟨k, hk, rfl⟩ := List.mem_iff_getElem.1 hp
    exact M.pt_bounds h (List.getElem?_eq_getElem hk)
  omega
/-- strings.Join at the call's own row of texts. -/
theorem join_own {B : Nat} {v : Value} {ls : List (List UInt8)} {w : World} (own : w.ownsRow B 9 1 v ls.length (M.strs ls)) (sep : List UInt8) (hpos : 0 < ls.length) (hN : ls.length ≤ 100000000000) (hlen : (Lib.join ls sep).length ≤ 140737488355328) :
    ∃ g cap, v = .slice (some ⟨g, 0, none⟩) ls.length cap ∧ Calls Tryd.prog 36 #[.slice (some ⟨g, 0, none⟩) ls.length cap, .string ⟨sep.toArray⟩] w fun e w' => e = .returned (.string ⟨(Lib.join ls sep).toArray⟩) ∧ Below w.heap.size w w' := by
  obtain ⟨g, cap, rfl, hB, hg⟩ := World.ownsRow.form own hpos
  obtain ⟨A, c, hv, hc1, -, -⟩ := own_shape own
  simp only [Value.slice.injEq] at hv
  obtain ⟨-, -, rfl⟩ := hv
  refine ⟨g, cap, rfl, ?_⟩
  have h := Tryd.strings_Join g 0 cap (ls.map fun l => (⟨l.toArray⟩ : ByteArray)) ⟨sep.toArray⟩ w (fun j x hx => ?_) hg (by simp; omega) (by simpa using hc1) (by rw [M.unstr]; simpa using hlen)
  · rw [M.unstr, List.length_map] at h
    simpa using h
  · rw [Nat.zero_add]
    have hadd : (⟨g, 0, none⟩ : Addr).add j = ⟨g, j, none⟩ := by unfold Addr.add; split <;> simp_all
    rw [← hadd]
    refine World.ownsRow.cells own (g := g) rfl j _ ?_
    rw [List.getElem?_map] at hx
    obtain ⟨l, hl, rfl⟩ := Option.map_eq_some_iff.1 hx
    simp [M.strs, hl]
theorem impl_CurveText (A : Option Addr) (n c : Nat) (xs : List (Int × Int)) (w : World) (hx : RA pt 2 w w.heap.size A n xs) (hn : n ≤ 1000000000) (hT : TAB w) :
    Calls Tryd.prog 10 #[.agg #[.slice A n c]] w fun e w' => e = .returned (.string ⟨(M.curveText xs).toArray⟩) ∧ Below w.heap.size w w' := by
  have hl := Lib.hid hx.len
  have hb0 : Below w.heap.size w (w.alloc (.cells #[.slice A n c] 29)) := (Below.refl _ _).alloc (Nat.le_refl _) _
  have HT := Lib.hid hT
  cases hok : M.curveOk xs
  · have HK := Lib.hid hok
    go_enter Tryd.func10, Tryd.ntmps10
    go_wp2_with (go_at_call 34; refine (impl_isCurve A n c xs _ (hx.later hb0) hn).mono ?_; rw [hok]; rintro e w1 ⟨rfl, b1⟩)
    go_ret
    exact ⟨by rw [M.curveText, HK.out]; rfl, bel_trans hb0 b1⟩
  · have HK := Lib.hid hok
    have hq : (w.alloc (.cells #[.slice A n c] 29)).cell? ⟨w.heap.size, 0, none⟩ = some (.slice A n c) := by simp [go_sem]
    go_enter Tryd.func10, Tryd.ntmps10
    go_wp2_with (go_at_call 34; refine (impl_isCurve A n c xs _ (hx.later hb0) hn).mono ?_; rw [hok]; rintro e w1 ⟨rfl, b1⟩; have q1 : w1.cell? ⟨w.heap.size, 0, none⟩ = some (.slice A n c) := (by rw [b1.cell (by simp)]; exact hq); have s1 : w.heap.size + 1 ≤ w1.heap.size := (by have := b1.size; simpa using this); have q2 : (w1.alloc (.cells #[] 9)).cell? ⟨w.heap.size, 0, none⟩ = some (.slice A n c) := (by rw [World.cell?_alloc_lt _ _ _ (by simp; omega)]; exact q1))
    have B1 := bel_trans hb0 b1
    have HX := Lib.hid hx
    clear hx hT hok b1 hq
    go_loopw [3, 13] (fun v i wr => ∃ k : Nat, i = .int .i64 k ∧ k ≤ n ∧ wr.ownsRow w.heap.size 9 1 v k (M.strs ((xs.map M.ptText).take k)) ∧ Below w.heap.size w wr) (fun _ i _ => n - (intOf i).toNat)
    case atStart => exact ⟨0, rfl, by omega, own_base (World.ownsRow_made _ _ _ (Nat.le_refl _) (by simp [maxLen]) rfl) (by omega), B1.alloc (by omega) _⟩
    case round =>
      obtain ⟨k, rfl, hk, own, hb⟩ := hrel
      have hn24 := M.curve_len HK.out
      rw [hl.out] at hn24
      by_cases hlt : k < n
      · obtain ⟨b, o, ⟨p0, p1⟩, rfl, hab, X, hc⟩ := ((HX.out).below hb).at pt_len (by decide) hlt
        have hc0 : wr.cell? ⟨b, o + k * 2, none⟩ = some (.int .i64 p0) := hc 0 _ rfl
        have hc1 : wr.cell? ⟨b, o + k * 2 + 1, none⟩ = some (.int .i64 p1) := hc 1 _ rfl
        have hpb := M.pt_bounds HK.out X.out
        obtain ⟨⟨l0, l1⟩, l2, l3⟩ := hpb
        have z0 := M.itoa_le p0 l0 l1
        have z1 := M.itoa_le p1 l2 l3
        have g0 : ¬ 9223372036854775807 < (Lib.itoa p0).length + 1 := by omega
        have g1 : ¬ 9223372036854775807 < (Lib.itoa p0).length + 1 + (Lib.itoa p1).length := by omega
        clear z0 z1
        have hb2 := bel_trans hb ((Below.refl _ wr).alloc (Nat.le_refl _) (.cells #[.int .i64 p0, .int .i64 p1] 52))
        have own2 := World.ownsRow.alloc own (.cells #[.int .i64 p0, .int .i64 p1] 52)
        have q0 : (wr.alloc (.cells #[.int .i64 p0, .int .i64 p1] 52)).cell? ⟨wr.heap.size, 0, none⟩ = some (.int .i64 p0) := by rw [cell_of_row _ wr.heap.size 0 _ 52 (0, 0) (heap_alloc_new wr _)]; rfl
        have q1 : (wr.alloc (.cells #[.int .i64 p0, .int .i64 p1] 52)).cell? ⟨wr.heap.size, 1, none⟩ = some (.int .i64 p1) := by rw [cell_of_row _ wr.heap.size 1 _ 52 (0, 0) (heap_alloc_new wr _)]; rfl
        have sz : wr.heap.size < (wr.alloc (.cells #[.int .i64 p0, .int .i64 p1] 52)).heap.size := by simp
        go_wp2_with fail
        generalize hw4 : wr.alloc (.cells #[.int .i64 p0, .int .i64 p1] 52) = w4 at q0 q1 sz own2 hb2 ⊢
        have k0' := cell_regrown q0
        have k1' := cell_regrown q1
        clear hw4 hc hc0 hc1
        (refine wp_region_fresh2 [0, 1, 5] [2, 6] 5 (.one 3 (.first 4 (.one 7 (.first 8 (.one 9 .rest))))) [10] [10, 11] (by kernel_rfl) (by kernel_rfl) ?_; simp only [pickOps]; simp only [List.filterMap, List.getElem?_cons_succ, List.getElem?_cons_zero]; (repeat (go_big_quiet_step (fail))); refine wpQuiet_nil ?_; (repeat (go_big_quiet_step (fail))); refine wpQuiet_nil ?_)
        refine seqT_one2 rfl ?_
        have D1 : Below w4.heap.size w4 w4.drew := below_drewN (Below.refl _ _) 1
        go_wp2_with fail
        refine (impl_Decimal p0 l0 l1 _ (HT.out.on (bel_trans hb2 D1))).mono ?_
        rintro e u1 ⟨rfl, e1⟩
        have B3 := bel_trans D1 e1
        go_wp2_with fail
        refine ⟨regrown_of_below B3, ?_⟩
        (refine seqT_first2 rfl ?_; (repeat (go_big_quiet_step (fail))); refine wpQuiet_nil ?_)
        refine seqT_one2 rfl ?_
        go_wp2_with fail
        refine (impl_Decimal p1 l2 l3 _ (HT.out.on (bel_trans hb2 B3))).mono ?_
        rintro e u2 ⟨rfl, e2⟩
        have B4 := bel_trans B3 e2
        have own4 := own_below own2 B4
        have s4 := (bel_trans hb2 B4).size
        go_wp2_with fail
        refine ⟨regrown_of_below B4, ?_⟩
        (refine seqT_first2 rfl ?_; (repeat (go_big_quiet_step (fail))); refine wpQuiet_nil ?_)
        refine seqT_one2 rfl ?_
        go_wp2_with fail
        refine ⟨regrown_of_below (B4.alloc (by have := B4.size; omega) _), ?_⟩
        refine seqT_rest2 ?_
        go_wp2_with (at_builtin; refine wpList_push1 ei_str rfl _ _ rfl own4 rfl rfl rfl (by unfold maxLen; omega) (by omega) s4 ?_; intro v1 u3 own5 gr5 bel5)
        go_roundw
        case rel =>
          refine ⟨k + 1, by go_num, by omega, ?_, (bel_trans hb2 B4).trans bel5⟩
          have hX : (xs.map M.ptText)[k]? = some (M.ptText (p0, p1)) := by rw [List.getElem?_map, X.out]; rfl
          rw [← M.strs_next hX]
          have e : (⟨(Lib.itoa p0).toArray⟩ : ByteArray) ++ ⟨#[61]⟩ ++ ⟨(Lib.itoa p1).toArray⟩ = ⟨(M.ptText (p0, p1)).toArray⟩ := by
            rw [show (⟨#[61]⟩ : ByteArray) = ⟨([61] : List UInt8).toArray⟩ from rfl, M.str_app, M.str_app]
            simp [M.ptText]
          rw [e] at own5
          exact own5
        case measure => simp [intOf]; omega
      · obtain rfl : k = n := by omega
        have hlen : (xs.map M.ptText).length = k := by rw [List.length_map, hl.out]
        rw [List.take_of_length_le (by omega)] at own
        rw [← hlen] at own
        have hcb := M.cvText_bound HK.out
        obtain ⟨g, cap, rfl, hJ⟩ := join_own own [32] (by omega) (by omega) (by show (M.cvText xs).length ≤ _; omega)
        rw [hlen] at hJ ⊢
        go_wp2_with (go_at_call 36; refine hJ.mono ?_; rintro e u1 ⟨rfl, e1⟩)
        go_ret
        exact ⟨by rw [M.curveText, if_pos HK.out]; rfl, bel_trans hb e1⟩
end Go.Proofs.YtecdendjlgohjaaDoor
namespace Go.Proofs.YtecdendjlgohjaaDoor
open Go.RowKit Go.Sort
set_option maxHeartbeats 1000000
set_option maxRecDepth 100000
theorem spec_l01Dec_rg (n : Int) (h0 : -9223372036854775808 ≤ n) (h1 : n ≤ 9223372036854775807) (w : World) (d : Nat) (os : Array Obj) :
    Calls Tryd.prog 60 #[.int .i64 n] (grow (redrawn w d) os) fun e w'' => e = .returned (.string ⟨(Lib.itoa n).toArray⟩) ∧ ∃ p : Regrown, w'' = grow (redrawn w p.d) p.os :=
  Calls.regrown_of (spec_l01Dec n h0 h1 _)
theorem M.txt_app (x a b : List UInt8) : (⟨x.toArray⟩ : ByteArray) ++ (⟨a.toArray⟩ ++ ⟨#[61]⟩ ++ ⟨b.toArray⟩) = ⟨(x ++ (a ++ 61 :: b)).toArray⟩ := by
  rw [show (⟨#[61]⟩ : ByteArray) = ⟨([61] : List UInt8).toArray⟩ from rfl, M.str_app, M.str_app, M.str_app]
  simp
theorem spec_l25Text (vb : Nat) (A : Option Addr) (n c : Nat) (xs : List (Int × Int)) (w : World) (hv0 : w.cell? ⟨vb, 0, none⟩ = some (.slice A n c)) (hx : RA pt 2 w w.heap.size A n xs) (hok : M.curveOk xs = true) :
    Calls Tryd.prog 32 #[.pointer (some ⟨vb, 0, none⟩)] w fun e w' => e = .returned (.string ⟨(M.cvText xs).toArray⟩) ∧ Below w.heap.size w w' := by
  have hl := Lib.hid hx.len
  have HK := Lib.hid hok
  have hvb : vb < w.heap.size := World.block_lt_of_cell? w _ hv0
  have hn24 := M.curve_len hok
  rw [hl.out] at hn24
  clear hok
  go_enter Tryd.func32, Tryd.ntmps32
  go_wp2
  go_loopw [3, 4] (fun v i wr => ∃ k : Nat, i = .int .i64 k ∧ k ≤ n ∧ v = .string ⟨(M.cvText (xs.take k)).toArray⟩ ∧ Below w.heap.size w wr) (fun _ i _ => n - (intOf i).toNat)
  case atStart => exact ⟨0, rfl, by omega, rfl, Below.refl _ _⟩
  case round =>
    obtain ⟨k, rfl, hk, rfl, hb⟩ := hrel
    have hv : wr.cell? ⟨vb, 0, none⟩ = some (.slice A n c) := by rw [hb.cell (by simpa using hvb)]; exact hv0
    by_cases hlt : k < n
    · obtain ⟨b, o, ⟨p0, p1⟩, rfl, hab, X, hc⟩ := (hx.below hb).at pt_len (by decide) hlt
      have hc0 : wr.cell? ⟨b, o + k * 2, none⟩ = some (.int .i64 p0) := hc 0 _ rfl
      have hc1 : wr.cell? ⟨b, o + k * 2 + 1, none⟩ = some (.int .i64 p1) := hc 1 _ rfl
      obtain ⟨⟨l0, l1⟩, l2, l3⟩ := M.pt_bounds HK.out X.out
      have z0 := M.itoa_le p0 l0 l1
      have z1 := M.itoa_le p1 l2 l3
      have z2 : (M.cvText (xs.take k)).length ≤ 44 * k := M.cvText_take_le xs (fun p hp => by
        obtain ⟨j, hj, rfl⟩ := List.mem_iff_getElem.1 hp
        exact M.pt_bounds HK.out (List.getElem?_eq_getElem hj)) k (by rw [hl.out]; omega)
      have g0 : ¬ 9223372036854775807 < (Lib.itoa p0).length + 1 := by omega
      have g1 : ¬ 9223372036854775807 < (Lib.itoa p0).length + 1 + (Lib.itoa p1).length := by omega
      have g2 : ¬ 9223372036854775807 < (M.cvText (xs.take k)).length + 1 := by omega
      have g3 : ¬ 9223372036854775807 < (M.cvText (xs.take k)).length + ((Lib.itoa p0).length + 1 + (Lib.itoa p1).length) := by omega
      have g4 : ¬ 9223372036854775807 < (M.cvText (xs.take k)).length + 1 + ((Lib.itoa p0).length + 1 + (Lib.itoa p1).length) := by omega
      have cD0 := spec_l01Dec_rg p0 l0 l1 wr
      have cD1 := spec_l01Dec_rg p1 l2 l3 wr
      have kv := cell_regrown hv
      have hN := M.cvText_next (ps := xs) (k := k) (by rw [hl.out]; exact hlt)
      have hp : xs[k]'(by rw [hl.out]; exact hlt) = (p0, p1) := by have := X.out; rw [List.getElem?_eq_getElem (by rw [hl.out]; exact hlt)] at this; exact Option.some.inj this
      rw [hp] at hN
      have HN := Lib.hid hN
      clear hN hp hc z0 z1 z2
      rcases Nat.eq_zero_or_pos k with hz | hz
      · subst hz
        rw [show o + 0 * 2 = o by omega] at hc0
        rw [show o + 0 * 2 + 1 = o + 1 by omega] at hc1
        rw [List.take_zero] at g3
        have k0 := cell_regrown hc0
        have k1 := cell_regrown hc1
        clear hc0 hc1 g4 g2
        go_wp2_with fail
        (refine wp_region_quiet_below (by kernel_rfl) (by kernel_rfl) ?_; (repeat (go_big_quiet_step (first | with_reducible exact cD0 _ _ | with_reducible exact cD1 _ _))); refine wpQuiet_nil ?_; intro _ hw'; obtain ⟨⟨dq, osq⟩, hw''⟩ := hw'; subst hw'')
        go_wp2
        go_roundw
        case rel =>
          refine ⟨1, by go_num, by omega, ?_, bel_trans hb (below_regrown _ _ _)⟩
          have h2 : M.cvText (xs.take 1) = M.ptText (p0, p1) := by simpa using HN.out
          refine congrArg Value.string ?_
          rw [M.txt_app]
          exact congrArg (fun l : List UInt8 => ByteArray.mk l.toArray) ((List.nil_append _).trans h2.symm)
        case measure => simp [intOf]; omega
      · have k0 := cell_regrown hc0
        have k1 := cell_regrown hc1
        clear hc0 hc1 g3
        go_wp2_with fail
        (refine wp_region_quiet_below (by kernel_rfl) (by kernel_rfl) ?_; (repeat (go_big_quiet_step (first | with_reducible exact cD0 _ _ | with_reducible exact cD1 _ _))); refine wpQuiet_nil ?_; intro _ hw'; obtain ⟨⟨dq, osq⟩, hw''⟩ := hw'; subst hw'')
        go_wp2
        go_roundw
        case rel =>
          refine ⟨k + 1, by go_num, by omega, ?_, bel_trans hb (below_regrown _ _ _)⟩
          have h := HN.out
          rw [if_neg (by omega)] at h
          rw [h, show (⟨#[32]⟩ : ByteArray) = ⟨([32] : List UInt8).toArray⟩ from rfl, M.str_app (M.cvText (xs.take k)) [32], M.txt_app]
          rfl
        case measure => simp [intOf]; omega
    · obtain rfl : k = n := by omega
      rw [List.take_of_length_le (by rw [hl.out]; omega)]
      go_wp2
      go_ret
      exact ⟨rfl, hb⟩
theorem spec_CurveText (A : Option Addr) (n c : Nat) (xs : List (Int × Int)) (w : World) (hx : RA pt 2 w w.heap.size A n xs) (hn : n ≤ 1000000000) :
    Calls Tryd.prog 8 #[.agg #[.slice A n c]] w fun e w' => e = .returned (.string ⟨(M.curveText xs).toArray⟩) ∧ Below w.heap.size w w' := by
  have hb0 : Below w.heap.size w (w.alloc (.cells #[.slice A n c] 29)) := (Below.refl _ _).alloc (Nat.le_refl _) _
  have hq : (w.alloc (.cells #[.slice A n c] 29)).cell? ⟨w.heap.size, 0, none⟩ = some (.slice A n c) := by simp [go_sem]
  cases hok : M.curveOk xs
  · have HK := Lib.hid hok
    go_enter Tryd.func8, Tryd.ntmps8
    go_wp2_with (go_at_call 31; refine (spec_l25Ok _ A n c xs _ hq (hx.later hb0) hn).mono ?_; rw [hok]; rintro e w1 ⟨rfl, b1⟩)
    go_ret
    exact ⟨by rw [M.curveText, HK.out]; rfl, bel_trans hb0 b1⟩
  · have HK := Lib.hid hok
    go_enter Tryd.func8, Tryd.ntmps8
    go_wp2_with (first | (go_at_call 31; refine (spec_l25Ok _ A n c xs _ hq (hx.later hb0) hn).mono ?_; rw [hok]; rintro e w1 ⟨rfl, b1⟩; have q1 : w1.cell? ⟨w.heap.size, 0, none⟩ = some (.slice A n c) := (by rw [b1.cell (by simp)]; exact hq)) | (go_at_call 32; refine (spec_l25Text _ A n c xs _ q1 ((hx.later hb0).later b1) HK.out).mono ?_; rintro e w2 ⟨rfl, b2⟩))
    go_ret
    exact ⟨by rw [M.curveText, if_pos HK.out]; rfl, bel_trans (bel_trans hb0 b1) b2⟩
end Go.Proofs.YtecdendjlgohjaaDoor
