import Derived.Test.YtecdendjlgohjaaDoorFnLinesG1
import Derived.Lib.QuietBelow
import Derived.BigQuiet
import Derived.Shelf.LaysM
import Derived.Shelf.LaysC
import Derived.Shelf.Strconv.ErrVarParseInt
import Derived.Shelf.Strings.Prefix
import Derived.Shelf.Strings.SplitShaped
import Derived.Shelf.Strings.Cut
import Derived.Test.YtecdendjlgohjaaDoorProg
import Derived.Test.YtecdendjlgohjaaDoorRows
import Derived.WalkKit
import Derived.ProofKit
import Derived.LaidMore
import Derived.Lay
import Derived.Lib.LaidTab
import Derived.Stop.LaidErr
import Derived.Stop.Joined
import Derived.Stop.ErrReads
import Derived.Stop.Texts
import Derived.Shelf.Vars
import Derived.Maps.AppendAt
set_option linter.unusedVariables false
set_option linter.unusedSimpArgs false
namespace Go.Proofs.YtecdendjlgohjaaDoor
open Go.RowKit Go.Sort
set_option maxHeartbeats 400000
set_option maxRecDepth 100000
theorem M.all_upto {n : Nat} {f : Nat → Bool} (h : ∀ j, j < n → f j = true) : (List.range n).all f = true := by
  rw [List.all_eq_true]
  intro j hj
  exact h j (List.mem_range.1 hj)
theorem M.all_not {n k : Nat} {f : Nat → Bool} (hk : k < n) (h : f k = false) : (List.range n).all f = false := by
  rw [List.all_eq_false]
  exact ⟨k, List.mem_range.2 hk, by simp [h]⟩
theorem impl_isCurve (A : Option Addr) (n c : Nat) (xs : List (Int × Int)) (w : World) (hx : RA pt 2 w w.heap.size A n xs) (hn : n ≤ 1000000000) :
    Calls Tryd.prog 34 #[.agg #[.slice A n c]] w fun e w' => e = .returned (.bool (M.curveOk xs)) ∧ Below w.heap.size w w' := by
  have hl := Lib.hid hx.len
  have hbw : Below w.heap.size w (w.alloc (.cells #[.slice A n c] 29)) := (Below.refl _ _).alloc (Nat.le_refl _) _
  have hself := lay_cell w (.slice A n c) 29
  have hsize : (w.alloc (.cells #[.slice A n c] 29)).heap.size = w.heap.size + 1 := by simp
  go_enter Tryd.func34, Tryd.ntmps34
  go_wp2
  go_loopw [3, 4, 8] (fun _ _ i wr => ∃ k : Nat, i = .int .i64 k ∧ k ≤ n ∧ Hid (∀ j, j < k → M.stepOk xs j = true) ∧ Below (w.heap.size + 1) (w.alloc (.cells #[.slice A n c] 29)) wr) (fun _ _ i _ => n - (intOf i).toNat)
  case atStart => exact ⟨0, rfl, by omega, Lib.hid (by omega), Below.refl _ _⟩
  case round =>
    obtain ⟨k, rfl, hk, H, hb⟩ := hrel
    have hbb : Below w.heap.size w wr := hbw.trans (hb.mono (by omega))
    have hsz : w.heap.size + 1 ≤ wr.heap.size := by rw [← hsize]; exact hb.size
    have hv : wr.cell? ⟨w.heap.size, 0, none⟩ = some (.slice A n c) := by rw [hb.cell (by simp)]; exact hself
    by_cases hlt : k < n
    · obtain ⟨b, o, ⟨p0, p1⟩, rfl, hab, X, hc⟩ := (hx.below hbb).at pt_len (by decide) hlt
      have hc0 : wr.cell? ⟨b, o + k * 2, none⟩ = some (.int .i64 p0) := hc 0 _ rfl
      have hc1 : wr.cell? ⟨b, o + k * 2 + 1, none⟩ = some (.int .i64 p1) := hc 1 _ rfl
      clear hc
      obtain ⟨⟨r0, r1⟩, Z, hr⟩ := (hx.below hbb).cells pt_len (by decide) (k := k - 1) (by omega)
      have hr0 : wr.cell? ⟨b, o + (k - 1) * 2, none⟩ = some (.int .i64 r0) := hr 0 _ rfl
      clear hr
      have hs4 : (wr.alloc (.cells #[.int .i64 p0, .int .i64 p1] 52)).heap.size = wr.heap.size + 1 := by simp
      have hbr : b < (wr.alloc (.cells #[.int .i64 p0, .int .i64 p1] 52)).heap.size := by omega
      have hbv : w.heap.size < (wr.alloc (.cells #[.int .i64 p0, .int .i64 p1] 52)).heap.size := by omega
      have hbn : wr.heap.size < (wr.alloc (.cells #[.int .i64 p0, .int .i64 p1] 52)).heap.size := by omega
      have q0 : (wr.alloc (.cells #[.int .i64 p0, .int .i64 p1] 52)).cell? ⟨wr.heap.size, 0, none⟩ = some (.int .i64 p0) := by rw [cell_of_row _ wr.heap.size 0 _ 52 (0, 0) (heap_alloc_new wr _)]; rfl
      have q1 : (wr.alloc (.cells #[.int .i64 p0, .int .i64 p1] 52)).cell? ⟨wr.heap.size, 1, none⟩ = some (.int .i64 p1) := by rw [cell_of_row _ wr.heap.size 1 _ 52 (0, 0) (heap_alloc_new wr _)]; rfl
      have q2 : (wr.alloc (.cells #[.int .i64 p0, .int .i64 p1] 52)).cell? ⟨w.heap.size, 0, none⟩ = some (.slice (some ⟨b, o, none⟩) n c) := by rw [World.cell?_alloc_lt _ _ _ (by simp; omega)]; exact hv
      have q3 : (wr.alloc (.cells #[.int .i64 p0, .int .i64 p1] 52)).cell? ⟨b, o + (k - 1) * 2, none⟩ = some (.int .i64 r0) := by rw [World.cell?_alloc_lt _ _ _ (by simp; omega)]; exact hr0
      have hb4 : Below (w.heap.size + 1) (w.alloc (.cells #[.slice (some ⟨b, o, none⟩) n c] 29)) (wr.alloc (.cells #[.int .i64 p0, .int .i64 p1] 52)) := hb.alloc (by omega) _
      have hp0 := Lib.hid (show (xs[k]?).getD (0, 0) = (p0, p1) by rw [X.out]; rfl)
      have hz0 := Lib.hid (show (xs[k - 1]?).getD (0, 0) = (r0, r1) by rw [Z.out]; rfl)
      cases hp : M.ptOk (p0, p1)
      · have hno := Lib.hid (show M.curveOk xs = false by rw [M.curveOk, M.all_not (k := k) (by rw [hl.out]; exact hlt) (by rw [M.stepOk, hp0.out, hp, Bool.false_and]), Bool.false_and])
        go_wp2
        generalize hw4 : wr.alloc (.cells #[.int .i64 p0, .int .i64 p1] 52) = w4 at q0 q1 q2 q3 hbr hbv hbn hb4 ⊢
        clear hw4 hs4
        have cP : ∀ d os, Calls Tryd.prog 57 #[.agg #[.int .i64 p0, .int .i64 p1]] (grow (redrawn w4 d) os) fun e w'' => e = .returned (.bool false) ∧ ∃ p : Regrown, w'' = grow (redrawn w4 p.d) p.os := fun d os => Calls.regrown_of (by have h := impl_isPoint p0 p1 (grow (redrawn w4 d) os); rw [hp] at h; exact h)
        have k0' := cell_regrown q0
        have k1' := cell_regrown q1
        have k2' := cell_regrown q2
        have k3' := cell_regrown q3
        clear q0 q1 q2 q3
        (refine wp_region_quiet_below (by kernel_rfl) (by kernel_rfl) ?_; (repeat (go_big_quiet_step (exact cP _ _))); refine wpQuiet_nil ?_; intro _ hw'; obtain ⟨⟨dq, osq⟩, hw''⟩ := hw'; subst hw'')
        go_wp2
        go_ret
        exact ⟨ret_bool (by rw [hno.out]), hbw.trans ((hb4.trans ((below_regrown w4 dq osq).mono (by rw [← hsize]; exact hb4.size))).mono (by omega))⟩
      · by_cases hk0 : k = 0
        · have hyes := Lib.hid (show M.stepOk xs k = true by rw [M.stepOk, hp0.out, hp, M.after, hk0]; rfl)
          have hd : decide (0 < k) = false := by rw [hk0]; rfl
          have hd2 : ¬ 0 < k := by omega
          clear hk0
          go_wp2
          generalize hw4 : wr.alloc (.cells #[.int .i64 p0, .int .i64 p1] 52) = w4 at q0 q1 q2 q3 hbr hbv hbn hb4 ⊢
          clear hw4 hs4
          have cP : ∀ d os, Calls Tryd.prog 57 #[.agg #[.int .i64 p0, .int .i64 p1]] (grow (redrawn w4 d) os) fun e w'' => e = .returned (.bool true) ∧ ∃ p : Regrown, w'' = grow (redrawn w4 p.d) p.os := fun d os => Calls.regrown_of (by have h := impl_isPoint p0 p1 (grow (redrawn w4 d) os); rw [hp] at h; exact h)
          have k0' := cell_regrown q0
          have k1' := cell_regrown q1
          have k2' := cell_regrown q2
          have k3' := cell_regrown q3
          clear q0 q1 q2 q3
          (refine wp_region_quiet_below (by kernel_rfl) (by kernel_rfl) ?_; (repeat (go_big_quiet_step (exact cP _ _))); refine wpQuiet_nil ?_; intro _ hw'; obtain ⟨⟨dq, osq⟩, hw''⟩ := hw'; subst hw'')
          go_wp2
          go_roundw
          case rel => exact ⟨k + 1, by go_num, by omega, Lib.hid (fun j hj => by rcases Nat.lt_succ_iff_lt_or_eq.1 hj with h | h; exact H.out j h; rw [h]; exact hyes.out), hb4.trans ((below_regrown w4 dq osq).mono (by rw [← hsize]; exact hb4.size))⟩
          case measure => simp [intOf]; omega
        · have hkk : IntKind.i64.wrap ((k : Int) - 1) = ((k - 1 : Nat) : Int) := by rw [IntWalk.i64_in _ (by omega)]; omega
          have hk1n : ((k - 1 : Nat) : Int) < (n : Int) := by omega
          have hd : decide (0 < k) = true := decide_eq_true (by omega)
          by_cases hge : p0 ≤ r0
          · have hno := Lib.hid (show M.curveOk xs = false by rw [M.curveOk, M.all_not (k := k) (by rw [hl.out]; exact hlt) (by rw [M.stepOk, hp0.out, hp, M.after, hp0.out, hz0.out]; simp [hk0, hge]), Bool.false_and])
            go_wp2
            generalize hw4 : wr.alloc (.cells #[.int .i64 p0, .int .i64 p1] 52) = w4 at q0 q1 q2 q3 hbr hbv hbn hb4 ⊢
            clear hw4 hs4
            have cP : ∀ d os, Calls Tryd.prog 57 #[.agg #[.int .i64 p0, .int .i64 p1]] (grow (redrawn w4 d) os) fun e w'' => e = .returned (.bool true) ∧ ∃ p : Regrown, w'' = grow (redrawn w4 p.d) p.os := fun d os => Calls.regrown_of (by have h := impl_isPoint p0 p1 (grow (redrawn w4 d) os); rw [hp] at h; exact h)
            have k0' := cell_regrown q0
            have k1' := cell_regrown q1
            have k2' := cell_regrown q2
            have k3' := cell_regrown q3
            clear q0 q1 q2 q3
            (refine wp_region_quiet_below (by kernel_rfl) (by kernel_rfl) ?_; (repeat (go_big_quiet_step (exact cP _ _))); refine wpQuiet_nil ?_; intro _ hw'; obtain ⟨⟨dq, osq⟩, hw''⟩ := hw'; subst hw'')
            go_wp2
            go_ret
            exact ⟨ret_bool (by rw [hno.out]), hbw.trans ((hb4.trans ((below_regrown w4 dq osq).mono (by rw [← hsize]; exact hb4.size))).mono (by omega))⟩
          · have hyes := Lib.hid (show M.stepOk xs k = true by rw [M.stepOk, hp0.out, hp, M.after, hp0.out, hz0.out]; simp; omega)
            go_wp2
            generalize hw4 : wr.alloc (.cells #[.int .i64 p0, .int .i64 p1] 52) = w4 at q0 q1 q2 q3 hbr hbv hbn hb4 ⊢
            clear hw4 hs4
            have cP : ∀ d os, Calls Tryd.prog 57 #[.agg #[.int .i64 p0, .int .i64 p1]] (grow (redrawn w4 d) os) fun e w'' => e = .returned (.bool true) ∧ ∃ p : Regrown, w'' = grow (redrawn w4 p.d) p.os := fun d os => Calls.regrown_of (by have h := impl_isPoint p0 p1 (grow (redrawn w4 d) os); rw [hp] at h; exact h)
            have k0' := cell_regrown q0
            have k1' := cell_regrown q1
            have k2' := cell_regrown q2
            have k3' := cell_regrown q3
            clear q0 q1 q2 q3
            (refine wp_region_quiet_below (by kernel_rfl) (by kernel_rfl) ?_; (repeat (go_big_quiet_step (exact cP _ _))); refine wpQuiet_nil ?_; intro _ hw'; obtain ⟨⟨dq, osq⟩, hw''⟩ := hw'; subst hw'')
            go_wp2
            go_roundw
            case rel => exact ⟨k + 1, by go_num, by omega, Lib.hid (fun j hj => by rcases Nat.lt_succ_iff_lt_or_eq.1 hj with h | h; exact H.out j h; rw [h]; exact hyes.out), hb4.trans ((below_regrown w4 dq osq).mono (by rw [← hsize]; exact hb4.size))⟩
            case measure => simp [intOf]; omega
    · have hyes := Lib.hid (M.all_upto (n := xs.length) (f := M.stepOk xs) (fun j hj => H.out j (by rw [hl.out] at hj; omega)))
      have hres := Lib.hid (show M.inn (n : Int) 1 24 = M.curveOk xs by rw [M.curveOk, hyes.out, hl.out, Bool.true_and])
      go_wp2_with (first | (go_at_call 63; refine (impl_size_impl_CurvePoint _ _ _ _).mono ?_; rintro e w' ⟨rfl, rfl⟩) | (go_at_call 62; refine (impl_within _ _ _ _).mono ?_; rintro e w' ⟨rfl, rfl⟩))
      go_ret
      exact ⟨ret_bool hres.out, hbb⟩
end Go.Proofs.YtecdendjlgohjaaDoor
namespace Go.Proofs.YtecdendjlgohjaaDoor
open Go.RowKit Go.Sort
set_option maxHeartbeats 400000
set_option maxRecDepth 100000
theorem spec_l25Ok (vb : Nat) (A : Option Addr) (n c : Nat) (xs : List (Int × Int)) (w : World) (hv0 : w.cell? ⟨vb, 0, none⟩ = some (.slice A n c)) (hx : RA pt 2 w w.heap.size A n xs) (hn : n ≤ 1000000000) :
    Calls Tryd.prog 31 #[.pointer (some ⟨vb, 0, none⟩)] w fun e w' => e = .returned (.bool (M.curveOk xs)) ∧ Below w.heap.size w w' := by
  have hl := Lib.hid hx.len
  have hvb : vb < w.heap.size := World.block_lt_of_cell? w _ hv0
  go_enter Tryd.func31, Tryd.ntmps31
  go_wp2
  go_loopw [3] (fun i wr => ∃ k : Nat, i = .int .i64 k ∧ k ≤ n ∧ Hid (∀ j, j < k → M.stepOk xs j = true) ∧ Below w.heap.size w wr) (fun i _ => n - (intOf i).toNat)
  case atStart => exact ⟨0, rfl, by omega, Lib.hid (by omega), Below.refl _ _⟩
  case round =>
    obtain ⟨k, rfl, hk, H, hb⟩ := hrel
    have hv : wr.cell? ⟨vb, 0, none⟩ = some (.slice A n c) := by rw [hb.cell (by simpa using hvb)]; exact hv0
    by_cases hlt : k < n
    · obtain ⟨b, o, ⟨p0, p1⟩, rfl, hab, X, hc⟩ := (hx.below hb).at pt_len (by decide) hlt
      have hc0 : wr.cell? ⟨b, o + k * 2, none⟩ = some (.int .i64 p0) := hc 0 _ rfl
      have hc1 : wr.cell? ⟨b, o + k * 2 + 1, none⟩ = some (.int .i64 p1) := hc 1 _ rfl
      clear hc
      obtain ⟨⟨r0, r1⟩, Z, hr⟩ := (hx.below hb).cells pt_len (by decide) (k := k - 1) (by omega)
      have hr0 : wr.cell? ⟨b, o + (k - 1) * 2, none⟩ = some (.int .i64 r0) := hr 0 _ rfl
      clear hr
      have hp0 := Lib.hid (show (xs[k]?).getD (0, 0) = (p0, p1) by rw [X.out]; rfl)
      have hz0 := Lib.hid (show (xs[k - 1]?).getD (0, 0) = (r0, r1) by rw [Z.out]; rfl)
      cases hp : M.ptOk (p0, p1)
      · have hno := Lib.hid (show M.curveOk xs = false by rw [M.curveOk, M.all_not (k := k) (by rw [hl.out]; exact hlt) (by rw [M.stepOk, hp0.out, hp, Bool.false_and]), Bool.false_and])
        have cP : ∀ m, Calls Tryd.prog 58 #[.pointer (some ⟨b, o + k * 2, none⟩)] (wr.drewN m) fun e w'' => e = .returned (.bool false) ∧ ∃ m', w'' = wr.drewN m' := fun m => quiet_left (by have h := spec_l25Point b (o + k * 2) (p0, p1) (wr.drewN m) hc0 hc1; rw [hp] at h; exact h)
        go_wp2
        go_quiet (exact cP _)
        go_wp2
        go_ret
        exact ⟨ret_bool (by rw [hno.out]), hb.trans (below_drewN (Below.refl _ _) _)⟩
      · by_cases hk0 : k = 0
        · have hyes := Lib.hid (show M.stepOk xs k = true by rw [M.stepOk, hp0.out, hp, M.after, hk0]; rfl)
          have hd : decide (0 < k) = false := by rw [hk0]; rfl
          have hd2 : ¬ 0 < k := by omega
          clear hk0
          have cP : ∀ m, Calls Tryd.prog 58 #[.pointer (some ⟨b, o + k * 2, none⟩)] (wr.drewN m) fun e w'' => e = .returned (.bool true) ∧ ∃ m', w'' = wr.drewN m' := fun m => quiet_left (by have h := spec_l25Point b (o + k * 2) (p0, p1) (wr.drewN m) hc0 hc1; rw [hp] at h; exact h)
          go_wp2
          go_quiet (exact cP _)
          go_wp2
          go_roundw
          case rel => exact ⟨k + 1, by go_num, by omega, Lib.hid (fun j hj => by rcases Nat.lt_succ_iff_lt_or_eq.1 hj with h | h; exact H.out j h; rw [h]; exact hyes.out), hb.trans (below_drewN (Below.refl _ _) _)⟩
          case measure => simp [intOf]; omega
        · have hkk : IntKind.i64.wrap ((k : Int) - 1) = ((k - 1 : Nat) : Int) := by rw [IntWalk.i64_in _ (by omega)]; omega
          have hk1n : ((k - 1 : Nat) : Int) < (n : Int) := by omega
          have hd : decide (0 < k) = true := decide_eq_true (by omega)
          by_cases hge : p0 ≤ r0
          · have hno := Lib.hid (show M.curveOk xs = false by rw [M.curveOk, M.all_not (k := k) (by rw [hl.out]; exact hlt) (by rw [M.stepOk, hp0.out, hp, M.after, hp0.out, hz0.out]; simp [hk0, hge]), Bool.false_and])
            have cP : ∀ m, Calls Tryd.prog 58 #[.pointer (some ⟨b, o + k * 2, none⟩)] (wr.drewN m) fun e w'' => e = .returned (.bool true) ∧ ∃ m', w'' = wr.drewN m' := fun m => quiet_left (by have h := spec_l25Point b (o + k * 2) (p0, p1) (wr.drewN m) hc0 hc1; rw [hp] at h; exact h)
            go_wp2
            go_quiet (exact cP _)
            go_wp2
            go_ret
            exact ⟨ret_bool (by rw [hno.out]), hb.trans (below_drewN (Below.refl _ _) _)⟩
          · have hyes := Lib.hid (show M.stepOk xs k = true by rw [M.stepOk, hp0.out, hp, M.after, hp0.out, hz0.out]; simp; omega)
            have cP : ∀ m, Calls Tryd.prog 58 #[.pointer (some ⟨b, o + k * 2, none⟩)] (wr.drewN m) fun e w'' => e = .returned (.bool true) ∧ ∃ m', w'' = wr.drewN m' := fun m => quiet_left (by have h := spec_l25Point b (o + k * 2) (p0, p1) (wr.drewN m) hc0 hc1; rw [hp] at h; exact h)
            go_wp2
            go_quiet (exact cP _)
            go_wp2
            go_roundw
            case rel => exact ⟨k + 1, by go_num, by omega, Lib.hid (fun j hj => by rcases Nat.lt_succ_iff_lt_or_eq.1 hj with h | h; exact H.out j h; rw [h]; exact hyes.out), hb.trans (below_drewN (Below.refl _ _) _)⟩
            case measure => simp [intOf]; omega
    · have hyes := Lib.hid (M.all_upto (n := xs.length) (f := M.stepOk xs) (fun j hj => H.out j (by rw [hl.out] at hj; omega)))
      have hres := Lib.hid (show M.inn (n : Int) 1 24 = M.curveOk xs by rw [M.curveOk, hyes.out, hl.out, Bool.true_and])
      go_wp2_with (go_at_call 59; refine (spec_l00In _ _ _ _).mono ?_; rintro e w' ⟨rfl, rfl⟩)
      go_ret
      exact ⟨ret_bool hres.out, hb⟩
end Go.Proofs.YtecdendjlgohjaaDoor
namespace Go.Proofs.YtecdendjlgohjaaDoor
open Go.RowKit Go.Sort
set_option maxHeartbeats 400000
set_option maxRecDepth 100000
def M.seg (p q : Int × Int) (t : Int) : Int := p.2 + (q.2 - p.2) * (t - p.1) / (q.1 - p.1)
def M.atGo : (Int × Int) → List (Int × Int) → Int → Int
  | p, [], _ => p.2
  | p, q :: qs, t => if t < q.1 then M.seg p q t else M.atGo q qs t
def M.atC : List (Int × Int) → Int → Int
  | [], _ => 0
  | p :: qs, t => if t < p.1 then p.2 else M.atGo p qs t
theorem M.inn_iff {n a b : Int} : M.inn n a b = true ↔ a ≤ n ∧ n ≤ b := by simp [M.inn]
theorem M.curve_len {xs : List (Int × Int)} (h : M.curveOk xs = true) : 1 ≤ xs.length ∧ xs.length ≤ 24 := by
  rw [M.curveOk, Bool.and_eq_true, M.inn_iff] at h
  omega
theorem M.curve_step {xs : List (Int × Int)} (h : M.curveOk xs = true) {k : Nat} (hk : k < xs.length) : M.stepOk xs k = true := by
  rw [M.curveOk, Bool.and_eq_true, List.all_eq_true] at h
  exact h.1 k (List.mem_range.2 hk)
theorem M.curve_pt {xs : List (Int × Int)} (h : M.curveOk xs = true) {k : Nat} {p : Int × Int} (hk : xs[k]? = some p) : (0 ≤ p.1 ∧ p.1 ≤ 4000) ∧ -65536 ≤ p.2 ∧ p.2 ≤ 65536 := by
  have h1 := M.curve_step h (List.getElem?_eq_some_iff.1 hk).1
  rw [M.stepOk, Bool.and_eq_true, hk] at h1
  have h2 := h1.1
  rw [Option.getD_some, M.ptOk, Bool.and_eq_true, M.inn_iff, M.inn_iff] at h2
  exact h2
theorem M.curve_lt {xs : List (Int × Int)} (h : M.curveOk xs = true) {k : Nat} {p q : Int × Int} (h0 : 0 < k) (hp : xs[k - 1]? = some p) (hq : xs[k]? = some q) : p.1 < q.1 := by
  have h1 := M.curve_step h (List.getElem?_eq_some_iff.1 hq).1
  rw [M.stepOk, Bool.and_eq_true, M.after, hp, hq] at h1
  have h2 := h1.2
  simp at h2
  rcases h2 with h2 | h2
  · omega
  · exact h2
theorem M.atGo_step {xs : List (Int × Int)} {k : Nat} {p q : Int × Int} {t : Int} (hq : xs[k]? = some q) : M.atGo p (xs.drop k) t = if t < q.1 then M.seg p q t else M.atGo q (xs.drop (k + 1)) t := by
  obtain ⟨hl, he⟩ := List.getElem?_eq_some_iff.1 hq
  rw [List.drop_eq_getElem_cons hl, he, M.atGo]
theorem M.atGo_end {xs : List (Int × Int)} {k : Nat} {p : Int × Int} {t : Int} (hk : xs.length ≤ k) : M.atGo p (xs.drop k) t = p.2 := by
  rw [List.drop_eq_nil_of_le hk, M.atGo]
theorem M.atC_go {xs : List (Int × Int)} {p : Int × Int} {t : Int} (hp : xs[0]? = some p) (ht : ¬ t < p.1) : M.atC xs t = M.atGo p (xs.drop 1) t := by
  cases xs with
  | nil => simp at hp
  | cons x ys =>
    simp only [List.getElem?_cons_zero, Option.some.injEq] at hp
    subst hp
    rw [M.atC, if_neg ht]
    rfl
theorem M.atC_low {xs : List (Int × Int)} {p : Int × Int} {t : Int} (hp : xs[0]? = some p) (ht : t < p.1) : M.atC xs t = p.2 := by
  cases xs with
  | nil => simp at hp
  | cons x ys =>
    simp only [List.getElem?_cons_zero, Option.some.injEq] at hp
    subst hp
    rw [M.atC, if_pos ht]
theorem M.seg_at (p q : Int × Int) : M.seg p q p.1 = p.2 := by simp [M.seg]
theorem M.mul_bound {a b x y : Int} (ha : -x ≤ a ∧ a ≤ x) (hb : -y ≤ b ∧ b ≤ y) (hx : 0 ≤ x) : -(x * y) ≤ a * b ∧ a * b ≤ x * y := by
  have h1 : a.natAbs * b.natAbs ≤ x.natAbs * y.natAbs := Nat.mul_le_mul (by omega) (by omega)
  have h2 : (a * b).natAbs ≤ (x * y).natAbs := by rw [Int.natAbs_mul, Int.natAbs_mul]; exact h1
  have h3 : 0 ≤ x * y := Int.mul_nonneg hx (by omega)
  omega
theorem M.div_small {a b c : Int} (ha : -c ≤ a ∧ a ≤ c) (hb : 0 < b) (hc : 0 ≤ c) : -c ≤ a / b ∧ a / b ≤ c := by
  have h0 : c * 1 ≤ c * b := Int.mul_le_mul_of_nonneg_left (by omega) hc
  constructor
  · refine Int.le_ediv_of_mul_le hb ?_
    rw [Int.neg_mul]
    omega
  · refine Int.ediv_le_of_le_mul hb ?_
    omega
end Go.Proofs.YtecdendjlgohjaaDoor
namespace Go.Proofs.YtecdendjlgohjaaDoor
open Go.RowKit Go.Sort
set_option maxHeartbeats 1000000
set_option maxRecDepth 100000
theorem below_grow (w : World) (k : Nat) (os : Array Obj) : Below w.heap.size w (grow (w.drewN k) os) :=
  ⟨rfl, rfl, rfl, by simp [grow], fun j hj => by simp [grow, World.drewN, Array.getElem?_append_left hj]⟩
theorem impl_Decimal (n : Int) (h0 : -9223372036854775808 ≤ n) (h1 : n ≤ 9223372036854775807) (w : World) (hT : TAB w) :
    Calls Tryd.prog 35 #[.int .i64 n] w fun e w' => e = .returned (.string ⟨(Lib.itoa n).toArray⟩) ∧ Below w.heap.size w w' := by
  go_enter Tryd.func35, Tryd.ntmps35
  go_wp2_with (go_at_call 64; refine (Tryd.strconv_FormatInt_10 n h0 h1 _ hT.here).mono ?_; rintro e w1 ⟨rfl, kk, os, rfl⟩)
  go_ret
  exact ⟨rfl, below_grow _ _ _⟩
/-- The text of a curve; none if it is no curve. -/
def M.curveText (xs : List (Int × Int)) : List UInt8 := if M.curveOk xs = true then M.cvText xs else []
def M.strs (ls : List (List UInt8)) : List Value := ls.map fun l => .string ⟨l.toArray⟩
theorem ei_str : EI Tryd.prog 67 9 (.string ByteArray.empty) 1 16 := ⟨Tryd.underlying67, by kernel_rfl, rfl, by decide⟩
theorem M.pt_bounds {xs : List (Int × Int)} (h : M.curveOk xs = true) {k : Nat} {p : Int × Int} (hk : xs[k]? = some p) : (-9223372036854775808 ≤ p.1 ∧ p.1 ≤ 9223372036854775807) ∧ -9223372036854775808 ≤ p.2 ∧ p.2 ≤ 9223372036854775807 := by
  have := M.curve_pt h hk
  omega
theorem M.str_app (a b : List UInt8) : (⟨a.toArray⟩ : ByteArray) ++ ⟨b.toArray⟩ = ⟨(a ++ b).toArray⟩ := by
  apply ByteArray.ext
  simp
theorem M.strs_len (ls : List (List UInt8)) : (M.strs ls).length = ls.length := by simp [M.strs]
theorem M.strs_next {ls : List (List UInt8)} {k : Nat} {x : List UInt8} (h : ls[k]? = some x) : M.strs (ls.take k) ++ [.string ⟨x.toArray⟩] = M.strs (ls.take (k + 1)) := by
  obtain ⟨hk, rfl⟩ := List.getElem?_eq_some_iff.1 h
  rw [← List.take_append_getElem hk]
  simp only [M.strs, List.map_append, List.map_cons, List.map_nil]
theorem M.unstr (ls : List (List UInt8)) : (ls.map fun l => (⟨l.toArray⟩ : ByteArray)).map (fun s => s.data.toList) = ls := by
  rw [List.map_map]
  exact List.map_id'' (fun l => by simp) ls
theorem M.cvText_bound {xs : List (Int × Int)} (h : M.curveOk xs = true) : (M.cvText xs).length ≤ 1056 := by
  have h1 := M.curve_len h
  have := M.cvText_le xs fun p hp => by
    obtain ⟨k, hk, rfl⟩ := List.mem_iff_getElem.1 hp
    exact M.pt_bounds h (List.getElem?_eq_getElem hk)
  omega
/-- strings.Join at the call's own row of texts. -/
theorem join_own {B : Nat} {v : Value} {ls : List (List UInt8)} {w : World} (own : w.ownsRow B 9 1 v ls.length (M.strs ls)) (sep : List UInt8) (hpos : 0 < ls.length) (hN : ls.length ≤ 100000000000) (hlen : (Lib.join ls sep).length ≤ 140737488355328) :
    ∃ g cap, v = .slice (some ⟨g, 0, none⟩) ls.length cap ∧ Calls Tryd.prog 36 #[.slice (some ⟨g, 0, none⟩) ls.length cap, .string ⟨sep.toArray⟩] w fun e w' => e = .returned (.string ⟨(Lib.join ls sep).toArray⟩) ∧ Below w.heap.size w w' := by
  obtain ⟨g, cap, rfl, hB, hg⟩ := World.ownsRow.form own hpos
  obtain ⟨A, c, hv, hc1, -, -⟩ := own_shape own
  simp only [Value.slice.injEq] at hv
  obtain ⟨-, -, rfl⟩ := hv
  refine ⟨g, cap, rfl, ?_⟩
  have h := Tryd.strings_Join g 0 cap (ls.map fun l => (⟨l.toArray⟩ : ByteArray)) ⟨sep.toArray⟩ w (fun j x hx => ?_) hg (by simp; omega) (by simpa using hc1) (by rw [M.unstr]; simpa using hlen)
  · rw [M.unstr, List.length_map] at h
    simpa using h
  · rw [Nat.zero_add]
    have hadd : (⟨g, 0, none⟩ : Addr).add j = ⟨g, j, none⟩ := by unfold Addr.add; split <;> simp_all
    rw [← hadd]
    refine World.ownsRow.cells own (g := g) rfl j _ ?_
    rw [List.getElem?_map] at hx
    obtain ⟨l, hl, rfl⟩ := Option.map_eq_some_iff.1 hx
    simp [M.strs, hl]
theorem impl_CurveText (A : Option Addr) (n c : Nat) (xs : List (Int × Int)) (w : World) (hx : RA pt 2 w w.heap.size A n xs) (hn : n ≤ 1000000000) (hT : TAB w) :
    Calls Tryd.prog 10 #[.agg #[.slice A n c]] w fun e w' => e = .returned (.string ⟨(M.curveText xs).toArray⟩) ∧ Below w.heap.size w w' := by
  have hl := Lib.hid hx.len
  have hb0 : Below w.heap.size w (w.alloc (.cells #[.slice A n c] 29)) := (Below.refl _ _).alloc (Nat.le_refl _) _
  have HT := Lib.hid hT
  cases hok : M.curveOk xs
  · have HK := Lib.hid hok
    go_enter Tryd.func10, Tryd.ntmps10
    go_wp2_with (go_at_call 34; refine (impl_isCurve A n c xs _ (hx.later hb0) hn).mono ?_; rw [hok]; rintro e w1 ⟨rfl, b1⟩)
    go_ret
    exact ⟨by rw [M.curveText, HK.out]; rfl, bel_trans hb0 b1⟩
  · have HK := Lib.hid hok
    have hq : (w.alloc (.cells #[.slice A n c] 29)).cell? ⟨w.heap.size, 0, none⟩ = some (.slice A n c) := by simp [go_sem]
    go_enter Tryd.func10, Tryd.ntmps10
    go_wp2_with (go_at_call 34; refine (impl_isCurve A n c xs _ (hx.later hb0) hn).mono ?_; rw [hok]; rintro e w1 ⟨rfl, b1⟩; have q1 : w1.cell? ⟨w.heap.size, 0, none⟩ = some (.slice A n c) := (by rw [b1.cell (by simp)]; exact hq); have s1 : w.heap.size + 1 ≤ w1.heap.size := (by have := b1.size; simpa using this); have q2 : (w1.alloc (.cells #[] 9)).cell? ⟨w.heap.size, 0, none⟩ = some (.slice A n c) := (by rw [World.cell?_alloc_lt _ _ _ (by simp; omega)]; exact q1))
    have B1 := bel_trans hb0 b1
    have HX := Lib.hid hx
    clear hx hT hok b1 hq
    go_loopw [3, 13] (fun v i wr => ∃ k : Nat, i = .int .i64 k ∧ k ≤ n ∧ wr.ownsRow w.heap.size 9 1 v k (M.strs ((xs.map M.ptText).take k)) ∧ Below w.heap.size w wr) (fun _ i _ => n - (intOf i).toNat)
    case atStart => exact ⟨0, rfl, by omega, own_base (World.ownsRow_made _ _ _ (Nat.le_refl _) (by simp [maxLen]) rfl) (by omega), B1.alloc (by omega) _⟩
    case round =>
      obtain ⟨k, rfl, hk, own, hb⟩ := hrel
      have hn24 := M.curve_len HK.out
      rw [hl.out] at hn24
      by_cases hlt : k < n
      · obtain ⟨b, o, ⟨p0, p1⟩, rfl, hab, X, hc⟩ := ((HX.out).below hb).at pt_len (by decide) hlt
        have hc0 : wr.cell? ⟨b, o + k * 2, none⟩ = some (.int .i64 p0) := hc 0 _ rfl
        have hc1 : wr.cell? ⟨b, o + k * 2 + 1, none⟩ = some (.int .i64 p1) := hc 1 _ rfl
        have hpb := M.pt_bounds HK.out X.out
        obtain ⟨⟨l0, l1⟩, l2, l3⟩ := hpb
        have z0 := M.itoa_le p0 l0 l1
        have z1 := M.itoa_le p1 l2 l3
        have g0 : ¬ 9223372036854775807 < (Lib.itoa p0).length + 1 := by omega
        have g1 : ¬ 9223372036854775807 < (Lib.itoa p0).length + 1 + (Lib.itoa p1).length := by omega
        clear z0 z1
        have hb2 := bel_trans hb ((Below.refl _ wr).alloc (Nat.le_refl _) (.cells #[.int .i64 p0, .int .i64 p1] 52))
        have own2 := World.ownsRow.alloc own (.cells #[.int .i64 p0, .int .i64 p1] 52)
        have q0 : (wr.alloc (.cells #[.int .i64 p0, .int .i64 p1] 52)).cell? ⟨wr.heap.size, 0, none⟩ = some (.int .i64 p0) := by rw [cell_of_row _ wr.heap.size 0 _ 52 (0, 0) (heap_alloc_new wr _)]; rfl
        have q1 : (wr.alloc (.cells #[.int .i64 p0, .int .i64 p1] 52)).cell? ⟨wr.heap.size, 1, none⟩ = some (.int .i64 p1) := by rw [cell_of_row _ wr.heap.size 1 _ 52 (0, 0) (heap_alloc_new wr _)]; rfl
        have sz : wr.heap.size < (wr.alloc (.cells #[.int .i64 p0, .int .i64 p1] 52)).heap.size := by simp
        go_wp2_with fail
        generalize hw4 : wr.alloc (.cells #[.int .i64 p0, .int .i64 p1] 52) = w4 at q0 q1 sz own2 hb2 ⊢
        have k0' := cell_regrown q0
        have k1' := cell_regrown q1
        clear hw4 hc hc0 hc1
        (refine wp_region_fresh2 [0, 1, 5] [2, 6] 5 (.one 3 (.first 4 (.one 7 (.first 8 (.one 9 .rest))))) [10] [10, 11] (by kernel_rfl) (by kernel_rfl) ?_; simp only [pickOps]; simp only [List.filterMap, List.getElem?_cons_succ, List.getElem?_cons_zero]; (repeat (go_big_quiet_step (fail))); refine wpQuiet_nil ?_; (repeat (go_big_quiet_step (fail))); refine wpQuiet_nil ?_)
        refine seqT_one2 rfl ?_
        have D1 : Below w4.heap.size w4 w4.drew := below_drewN (Below.refl _ _) 1
        go_wp2_with fail
        refine (impl_Decimal p0 l0 l1 _ (HT.out.on (bel_trans hb2 D1))).mono ?_
        rintro e u1 ⟨rfl, e1⟩
        have B3 := bel_trans D1 e1
        go_wp2_with fail
        refine ⟨regrown_of_below B3, ?_⟩
        (refine seqT_first2 rfl ?_; (repeat (go_big_quiet_step (fail))); refine wpQuiet_nil ?_)
        refine seqT_one2 rfl ?_
        go_wp2_with fail
        refine (impl_Decimal p1 l2 l3 _ (HT.out.on (bel_trans hb2 B3))).mono ?_
        rintro e u2 ⟨rfl, e2⟩
        have B4 := bel_trans B3 e2
        have own4 := own_below own2 B4
        have s4 := (bel_trans hb2 B4).size
        go_wp2_with fail
        refine ⟨regrown_of_below B4, ?_⟩
        (refine seqT_first2 rfl ?_; (repeat (go_big_quiet_step (fail))); refine wpQuiet_nil ?_)
        refine seqT_one2 rfl ?_
        go_wp2_with fail
        refine ⟨regrown_of_below (B4.alloc (by have := B4.size; omega) _), ?_⟩
        refine seqT_rest2 ?_
        go_wp2_with (at_builtin; refine wpList_push1 ei_str rfl _ _ rfl own4 rfl rfl rfl (by unfold maxLen; omega) (by omega) s4 ?_; intro v1 u3 own5 gr5 bel5)
        go_roundw
        case rel =>
          refine ⟨k + 1, by go_num, by omega, ?_, (bel_trans hb2 B4).trans bel5⟩
          have hX : (xs.map M.ptText)[k]? = some (M.ptText (p0, p1)) := by rw [List.getElem?_map, X.out]; rfl
          rw [← M.strs_next hX]
          have e : (⟨(Lib.itoa p0).toArray⟩ : ByteArray) ++ ⟨#[61]⟩ ++ ⟨(Lib.itoa p1).toArray⟩ = ⟨(M.ptText (p0, p1)).toArray⟩ := by
            rw [show (⟨#[61]⟩ : ByteArray) = ⟨([61] : List UInt8).toArray⟩ from rfl, M.str_app, M.str_app]
            simp [M.ptText]
          rw [e] at own5
          exact own5
        case measure => simp [intOf]; omega
      · obtain rfl : k = n := by omega
        have hlen : (xs.map M.ptText).length = k := by rw [List.length_map, hl.out]
        rw [List.take_of_length_le (by omega)] at own
        rw [← hlen] at own
        have hcb := M.cvText_bound HK.out
        obtain ⟨g, cap, rfl, hJ⟩ := join_own own [32] (by omega) (by omega) (by show (M.cvText xs).length ≤ _; omega)
        rw [hlen] at hJ ⊢
        go_wp2_with (go_at_call 36; refine hJ.mono ?_; rintro e u1 ⟨rfl, e1⟩)
        go_ret
        exact ⟨by rw [M.curveText, if_pos HK.out]; rfl, bel_trans hb e1⟩
end Go.Proofs.YtecdendjlgohjaaDoor
namespace Go.Proofs
open Go.Shelf
set_option maxRecDepth 100000
def Tryd.laysC174_ren : Go.Shelf.Ren := ⟨fun | 174 => 79 | 247 => 98 | 245 => 99 | 287 => 117 | 279 => 118 | 280 => 119 | 281 => 120 | 282 => 121 | 321 => 133 | 322 => 134 | 316 => 135 | 171 => 137 | 205 => 136 | 243 => 141 | 246 => 86 | 283 => 101 | 284 => 102 | 285 => 103 | 286 => 104 | 129 => 124 | 317 => 123 | 318 => 125 | 319 => 126 | 320 => 127 | 337 => 138 | 338 => 139 | n => n, fun | 9 => 9 | 3 => 3 | 2 => 2 | 75 => 110 | 85 => 128 | 4 => 4 | 167 => 162 | 5 => 5 | 53 => 131 | 175 => 163 | 46 => 146 | 168 => 165 | 37 => 48 | 0 => 0 | 210 => 183 | 21 => 21 | 127 => 138 | 145 => 188 | 143 => 186 | 171 => 148 | 173 => 151 | 212 => 170 | 51 => 171 | 20 => 20 | 213 => 172 | 232 => 189 | 233 => 190 | 80 => 113 | n => n, fun | 15 => 2 | 16 => 3 | 17 => 1 | 18 => 4 | 19 => 5 | n => n⟩
theorem Tryd.laysC174 : Go.Proofs.LaysC.n174 Tryd.prog Tryd.laysC174_ren := {
  mixed := by kernel_rfl
  f129 := Tryd.func124.trans (congrArg some (by kernel_rfl))
  f171 := Tryd.func137.trans (congrArg some (by kernel_rfl))
  f174 := Tryd.func79.trans (congrArg some (by kernel_rfl))
  f205 := Tryd.func136.trans (congrArg some (by kernel_rfl))
  f243 := Tryd.func141.trans (congrArg some (by kernel_rfl))
  f245 := Tryd.func99.trans (congrArg some (by kernel_rfl))
  f246 := Tryd.func86.trans (congrArg some (by kernel_rfl))
  f247 := Tryd.func98.trans (congrArg some (by kernel_rfl))
  f279 := Tryd.func118.trans (congrArg some (by kernel_rfl))
  f280 := Tryd.func119.trans (congrArg some (by kernel_rfl))
  f281 := Tryd.func120.trans (congrArg some (by kernel_rfl))
  f282 := Tryd.func121.trans (congrArg some (by kernel_rfl))
  f283 := Tryd.func101.trans (congrArg some (by kernel_rfl))
  f284 := Tryd.func102.trans (congrArg some (by kernel_rfl))
  f285 := Tryd.func103.trans (congrArg some (by kernel_rfl))
  f286 := Tryd.func104.trans (congrArg some (by kernel_rfl))
  f287 := Tryd.func117.trans (congrArg some (by kernel_rfl))
  f316 := Tryd.func135.trans (congrArg some (by kernel_rfl))
  f317 := Tryd.func123.trans (congrArg some (by kernel_rfl))
  f318 := Tryd.func125.trans (congrArg some (by kernel_rfl))
  f319 := Tryd.func126.trans (congrArg some (by kernel_rfl))
  f320 := Tryd.func127.trans (congrArg some (by kernel_rfl))
  f321 := Tryd.func133.trans (congrArg some (by kernel_rfl))
  f322 := Tryd.func134.trans (congrArg some (by kernel_rfl))
  f337 := Tryd.func138.trans (congrArg some (by kernel_rfl))
  f338 := Tryd.func139.trans (congrArg some (by kernel_rfl))
  t0 := Tryd.underlying0
  a0 := Tryd.isAgg0
  z0 := Tryd.sizeOf0
  v0 := Tryd.zeroValue0
  t2 := Tryd.underlying2
  a2 := Tryd.isAgg2
  z2 := Tryd.sizeOf2
  v2 := Tryd.zeroValue2
  t3 := Tryd.underlying3
  a3 := Tryd.isAgg3
  z3 := Tryd.sizeOf3
  v3 := Tryd.zeroValue3
  t4 := Tryd.underlying4
  a4 := Tryd.isAgg4
  z4 := Tryd.sizeOf4
  v4 := Tryd.zeroValue4
  t5 := Tryd.underlying5
  a5 := Tryd.isAgg5
  z5 := Tryd.sizeOf5
  v5 := Tryd.zeroValue5
  t9 := Tryd.underlying9
  a9 := Tryd.isAgg9
  z9 := Tryd.sizeOf9
  v9 := Tryd.zeroValue9
  t20 := Tryd.underlying20
  a20 := Tryd.isAgg20
  z20 := Tryd.sizeOf20
  v20 := Tryd.zeroValue20
  t21 := Tryd.underlying21
  a21 := Tryd.isAgg21
  z21 := Tryd.sizeOf21
  v21 := Tryd.zeroValue21
  t37 := Tryd.underlying48
  a37 := Tryd.isAgg48
  z37 := Tryd.sizeOf48
  v37 := Tryd.zeroValue48
  t46 := Tryd.underlying146
  a46 := Tryd.isAgg146
  z46 := Tryd.sizeOf146
  v46 := Tryd.zeroValue146
  t51 := Tryd.underlying171
  a51 := Tryd.isAgg171
  z51 := Tryd.sizeOf171
  v51 := Tryd.zeroValue171
  t53 := Tryd.underlying131
  a53 := Tryd.isAgg131
  z53 := Tryd.sizeOf131
  v53 := Tryd.zeroValue131
  t75 := Tryd.underlying110
  a75 := Tryd.isAgg110
  z75 := Tryd.sizeOf110
  v75 := Tryd.zeroValue110
  t85 := Tryd.underlying128
  a85 := Tryd.isAgg128
  z85 := Tryd.sizeOf128
  v85 := Tryd.zeroValue128
  t127 := Tryd.underlying138
  a127 := Tryd.isAgg138
  z127 := Tryd.sizeOf138
  v127 := Tryd.zeroValue138
  t143 := Tryd.underlying186
  a143 := Tryd.isAgg186
  z143 := Tryd.sizeOf186
  v143 := Tryd.zeroValue186
  t145 := Tryd.underlying188
  a145 := Tryd.isAgg188
  z145 := Tryd.sizeOf188
  v145 := Tryd.zeroValue188
  t167 := Tryd.underlying162
  a167 := Tryd.isAgg162
  z167 := Tryd.sizeOf162
  v167 := Tryd.zeroValue162
  t168 := Tryd.underlying165
  a168 := Tryd.isAgg165
  z168 := Tryd.sizeOf165
  v168 := Tryd.zeroValue165
  t171 := Tryd.underlying148
  a171 := Tryd.isAgg148
  z171 := Tryd.sizeOf148
  v171 := Tryd.zeroValue148
  t173 := Tryd.underlying151
  a173 := Tryd.isAgg151
  z173 := Tryd.sizeOf151
  v173 := Tryd.zeroValue151
  t175 := Tryd.underlying163
  a175 := Tryd.isAgg163
  z175 := Tryd.sizeOf163
  v175 := Tryd.zeroValue163
  t210 := Tryd.underlying183
  a210 := Tryd.isAgg183
  z210 := Tryd.sizeOf183
  v210 := Tryd.zeroValue183
  t212 := Tryd.underlying170
  a212 := Tryd.isAgg170
  z212 := Tryd.sizeOf170
  v212 := Tryd.zeroValue170
  t213 := Tryd.underlying172
  a213 := Tryd.isAgg172
  z213 := Tryd.sizeOf172
  t232 := Tryd.underlying189
  a232 := Tryd.isAgg189
  z232 := Tryd.sizeOf189
  v232 := Tryd.zeroValue189
  t233 := Tryd.underlying190
  a233 := Tryd.isAgg190
  z233 := Tryd.sizeOf190
  v233 := Tryd.zeroValue190
  g15 := by kernel_rfl
  g16 := by kernel_rfl
  g17 := by kernel_rfl
  g18 := by kernel_rfl
  g19 := by kernel_rfl
  t80 := Tryd.underlying113
  a80 := Tryd.isAgg113
  z80 := Tryd.sizeOf113
  v80 := Tryd.zeroValue113
  i0 := by kernel_rfl
  i2 := by kernel_rfl
  i3 := by kernel_rfl
  i4 := by kernel_rfl
  i5 := by kernel_rfl
  i9 := by kernel_rfl
  i20 := by kernel_rfl
  i21 := by kernel_rfl
  i37 := by kernel_rfl
  i46 := by kernel_rfl
  i51 := by kernel_rfl
  i53 := by kernel_rfl
  i75 := by kernel_rfl
  i80 := by kernel_rfl
  i85 := by kernel_rfl
  i127 := by kernel_rfl
  i143 := by kernel_rfl
  i145 := by kernel_rfl
  i167 := by kernel_rfl
  i168 := by kernel_rfl
  i171 := by kernel_rfl
  i173 := by kernel_rfl
  i175 := by kernel_rfl
  i210 := by kernel_rfl
  i212 := by kernel_rfl
  i232 := by kernel_rfl
  i233 := by kernel_rfl
  m15 := by kernel_rfl
  m16 := by kernel_rfl
  m17 := by kernel_rfl
  m18 := by kernel_rfl
  m19 := by kernel_rfl
  c0 := by kernel_rfl
  c2 := by kernel_rfl
  c3 := by kernel_rfl
  c4 := by kernel_rfl
  c5 := by kernel_rfl
  c9 := by kernel_rfl
  c20 := by kernel_rfl
  c21 := by kernel_rfl
  c37 := by kernel_rfl
  c46 := by kernel_rfl
  c51 := by kernel_rfl
  c53 := by kernel_rfl
  c75 := by kernel_rfl
  c80 := by kernel_rfl
  c85 := by kernel_rfl
  c127 := by kernel_rfl
  c143 := by kernel_rfl
  c145 := by kernel_rfl
  c167 := by kernel_rfl
  c168 := by kernel_rfl
  c171 := by kernel_rfl
  c173 := by kernel_rfl
  c175 := by kernel_rfl
  c210 := by kernel_rfl
  c212 := by kernel_rfl
  c213 := by kernel_rfl
  c232 := by kernel_rfl
  c233 := by kernel_rfl }
open Go.RowKit in
theorem Tryd.strconv_ParseInt_10_at64_ok (s : ByteArray) (hmax : s.size ≤ 9223372036854775806) (v : Int) (h : Lib.parseIntB 64 s.data.toList = .ok v) (w : World) :
    Calls Tryd.prog 79 #[.string s, .int .i64 10, .int .i64 64] w fun e w' => e = .returned (.tuple #[.int .i64 v, .nilIface]) ∧ (w' = w ∨ ∃ t, w' = Lib.bytesWorld w 5 t) := Any.strconv_ParseInt_10_at64_ok Tryd.laysC174 s hmax v h w
open Go.RowKit in
theorem Tryd.strconv_ParseInt_10_at64_syntax (s : ByteArray) (hlim : s.size ≤ 281474976710656) (h : Lib.parseIntB 64 s.data.toList = Lib.parseIntB 64 []) (ev : Value) (w : World) (hv : w.cell? ⟨2, 0, none⟩ = some ev) (hev : ev = .nilIface ∨ ∃ te pe, ev = .iface te pe) :
    Calls Tryd.prog 79 #[.string s, .int .i64 10, .int .i64 64] w fun e w' => ∃ N, e = .returned (.tuple #[.int .i64 (0), .iface 165 (.pointer (some ⟨N, 0, none⟩))]) ∧ w.heap.size ≤ N ∧ w'.heap[N]? = some (.cells #[.string ⟨#[80, 97, 114, 115, 101, 73, 110, 116]⟩, .string s, ev] 183 (0, 0)) ∧ Below w.heap.size w w' := Any.strconv_ParseInt_10_at64_syntax Tryd.laysC174 s hlim (h.trans rfl) ev w hv hev
open Go.RowKit in
theorem Tryd.strconv_ParseInt_10_at64_range (s : ByteArray) (hlim : s.size ≤ 281474976710656) (h : Lib.parseIntB 64 s.data.toList = .range) (ev : Value) (w : World) (hv : w.cell? ⟨3, 0, none⟩ = some ev) (hev : ev = .nilIface ∨ ∃ te pe, ev = .iface te pe) :
    Calls Tryd.prog 79 #[.string s, .int .i64 10, .int .i64 64] w fun e w' => ∃ N, e = .returned (.tuple #[.int .i64 (Lib.intSat 64 s.data.toList), .iface 165 (.pointer (some ⟨N, 0, none⟩))]) ∧ w.heap.size ≤ N ∧ w'.heap[N]? = some (.cells #[.string ⟨#[80, 97, 114, 115, 101, 73, 110, 116]⟩, .string s, ev] 183 (0, 0)) ∧ Below w.heap.size w w' := Any.strconv_ParseInt_10_at64_range Tryd.laysC174 s hlim h ev w hv hev
def Tryd.lays145_ren : Go.Shelf.Ren := ⟨fun | 145 => 47 | 220 => 78 | 219 => 97 | 217 => 113 | 225 => 114 | 224 => 115 | 267 => 116 | 266 => 131 | 314 => 132 | n => n, fun | 9 => 9 | 4 => 4 | 59 => 87 | 3 => 3 | 5 => 5 | 46 => 146 | 146 => 178 | 51 => 171 | n => n, fun | 1 => 0 | n => n⟩
theorem Tryd.lays145 : Go.Proofs.Lays.n145 Tryd.prog Tryd.lays145_ren := {
  mixed := by kernel_rfl
  f145 := Tryd.func47.trans (congrArg some (by kernel_rfl))
  f217 := Tryd.func113.trans (congrArg some (by kernel_rfl))
  f219 := Tryd.func97.trans (congrArg some (by kernel_rfl))
  f220 := Tryd.func78.trans (congrArg some (by kernel_rfl))
  f224 := Tryd.func115.trans (congrArg some (by kernel_rfl))
  f225 := Tryd.func114.trans (congrArg some (by kernel_rfl))
  f266 := Tryd.func131.trans (congrArg some (by kernel_rfl))
  f267 := Tryd.func116.trans (congrArg some (by kernel_rfl))
  f314 := Tryd.func132.trans (congrArg some (by kernel_rfl))
  t3 := Tryd.underlying3
  a3 := Tryd.isAgg3
  z3 := Tryd.sizeOf3
  v3 := Tryd.zeroValue3
  t4 := Tryd.underlying4
  a4 := Tryd.isAgg4
  z4 := Tryd.sizeOf4
  v4 := Tryd.zeroValue4
  t5 := Tryd.underlying5
  a5 := Tryd.isAgg5
  z5 := Tryd.sizeOf5
  v5 := Tryd.zeroValue5
  t9 := Tryd.underlying9
  a9 := Tryd.isAgg9
  z9 := Tryd.sizeOf9
  v9 := Tryd.zeroValue9
  t46 := Tryd.underlying146
  a46 := Tryd.isAgg146
  z46 := Tryd.sizeOf146
  v46 := Tryd.zeroValue146
  t51 := Tryd.underlying171
  a51 := Tryd.isAgg171
  z51 := Tryd.sizeOf171
  v51 := Tryd.zeroValue171
  t59 := Tryd.underlying87
  a59 := Tryd.isAgg87
  z59 := Tryd.sizeOf87
  v59 := Tryd.zeroValue87
  t146 := Tryd.underlying178
  a146 := Tryd.isAgg178
  z146 := Tryd.sizeOf178
  v146 := Tryd.zeroValue178
  g1 := by kernel_rfl }
open Go.RowKit Go.Lib in
theorem Tryd.strings_Cut (s sep : ByteArray) (m : Int) (w : World) (hs : s.size < 4294967281) (hm : w.cell? ⟨0, 0, none⟩ = some (.int .i64 m)) :
    Calls Tryd.prog 47 #[.string s, .string sep] w fun e w' => e = .returned (.tuple #[.string ⟨(Lib.cut s.data.toList sep.data.toList).1.toArray⟩, .string ⟨(Lib.cut s.data.toList sep.data.toList).2.1.toArray⟩, .bool (Lib.cut s.data.toList sep.data.toList).2.2]) ∧ ∃ n, w' = w.drewN n := Any.strings_Cut Tryd.lays145 s sep m w hs hm
def Tryd.lays101_ren : Go.Shelf.Ren := ⟨fun | 101 => 80 | 208 => 100 | 206 => 122 | n => n, fun | 9 => 9 | 4 => 4 | 3 => 3 | n => n, fun | n => n⟩
theorem Tryd.lays101 : Go.Proofs.Lays.n101 Tryd.prog Tryd.lays101_ren := {
  mixed := by kernel_rfl
  f101 := Tryd.func80.trans (congrArg some (by kernel_rfl))
  f206 := Tryd.func122.trans (congrArg some (by kernel_rfl))
  f208 := Tryd.func100.trans (congrArg some (by kernel_rfl))
  t3 := Tryd.underlying3
  a3 := Tryd.isAgg3
  z3 := Tryd.sizeOf3
  v3 := Tryd.zeroValue3
  t4 := Tryd.underlying4
  a4 := Tryd.isAgg4
  z4 := Tryd.sizeOf4
  v4 := Tryd.zeroValue4
  t9 := Tryd.underlying9
  a9 := Tryd.isAgg9
  z9 := Tryd.sizeOf9
  v9 := Tryd.zeroValue9 }
open Go.RowKit Go.Lib in
theorem Tryd.strings_TrimPrefix (s p : ByteArray) (w : World) :
    Calls Tryd.prog 80 #[.string s, .string p] w fun e w' => e = .returned (.string ⟨(Lib.trimPrefix s.data.toList p.data.toList).toArray⟩) ∧ w' = w := Any.strings_TrimPrefix Tryd.lays101 s p w
def Tryd.lays146_ren : Go.Shelf.Ren := ⟨fun | 146 => 77 | 221 => 96 | 268 => 110 | 138 => 111 | 143 => 112 | 195 => 128 | 197 => 129 | 218 => 130 | 219 => 97 | 260 => 140 | 217 => 113 | 225 => 114 | 224 => 115 | 267 => 116 | 266 => 131 | 314 => 132 | n => n, fun | 9 => 9 | 31 => 67 | 3 => 3 | 4 => 4 | 0 => 0 | 105 => 176 | 21 => 21 | 5 => 5 | 46 => 146 | 119 => 191 | 139 => 194 | 138 => 193 | 146 => 178 | 51 => 171 | n => n, fun | 1 => 0 | 3 => 6 | 4 => 7 | n => n⟩
theorem Tryd.lays146 : Go.Proofs.Lays.n146 Tryd.prog Tryd.lays146_ren := {
  mixed := by kernel_rfl
  f138 := Tryd.func111.trans (congrArg some (by kernel_rfl))
  f143 := Tryd.func112.trans (congrArg some (by kernel_rfl))
  f146 := Tryd.func77.trans (congrArg some (by kernel_rfl))
  f195 := Tryd.func128.trans (congrArg some (by kernel_rfl))
  f197 := Tryd.func129.trans (congrArg some (by kernel_rfl))
  f217 := Tryd.func113.trans (congrArg some (by kernel_rfl))
  f218 := Tryd.func130.trans (congrArg some (by kernel_rfl))
  f219 := Tryd.func97.trans (congrArg some (by kernel_rfl))
  f221 := Tryd.func96.trans (congrArg some (by kernel_rfl))
  f224 := Tryd.func115.trans (congrArg some (by kernel_rfl))
  f225 := Tryd.func114.trans (congrArg some (by kernel_rfl))
  f260 := Tryd.func140.trans (congrArg some (by kernel_rfl))
  f266 := Tryd.func131.trans (congrArg some (by kernel_rfl))
  f267 := Tryd.func116.trans (congrArg some (by kernel_rfl))
  f268 := Tryd.func110.trans (congrArg some (by kernel_rfl))
  f314 := Tryd.func132.trans (congrArg some (by kernel_rfl))
  t0 := Tryd.underlying0
  a0 := Tryd.isAgg0
  z0 := Tryd.sizeOf0
  v0 := Tryd.zeroValue0
  t3 := Tryd.underlying3
  a3 := Tryd.isAgg3
  z3 := Tryd.sizeOf3
  v3 := Tryd.zeroValue3
  t4 := Tryd.underlying4
  a4 := Tryd.isAgg4
  z4 := Tryd.sizeOf4
  v4 := Tryd.zeroValue4
  t5 := Tryd.underlying5
  a5 := Tryd.isAgg5
  z5 := Tryd.sizeOf5
  v5 := Tryd.zeroValue5
  t9 := Tryd.underlying9
  a9 := Tryd.isAgg9
  z9 := Tryd.sizeOf9
  v9 := Tryd.zeroValue9
  t21 := Tryd.underlying21
  a21 := Tryd.isAgg21
  z21 := Tryd.sizeOf21
  v21 := Tryd.zeroValue21
  t31 := Tryd.underlying67
  a31 := Tryd.isAgg67
  z31 := Tryd.sizeOf67
  v31 := Tryd.zeroValue67
  t46 := Tryd.underlying146
  a46 := Tryd.isAgg146
  z46 := Tryd.sizeOf146
  v46 := Tryd.zeroValue146
  t51 := Tryd.underlying171
  a51 := Tryd.isAgg171
  z51 := Tryd.sizeOf171
  v51 := Tryd.zeroValue171
  t105 := Tryd.underlying176
  a105 := Tryd.isAgg176
  z105 := Tryd.sizeOf176
  v105 := Tryd.zeroValue176
  t119 := Tryd.underlying191
  a119 := Tryd.isAgg191
  z119 := Tryd.sizeOf191
  t138 := Tryd.underlying193
  a138 := Tryd.isAgg193
  z138 := Tryd.sizeOf193
  v138 := Tryd.zeroValue193
  t139 := Tryd.underlying194
  a139 := Tryd.isAgg194
  z139 := Tryd.sizeOf194
  v139 := Tryd.zeroValue194
  t146 := Tryd.underlying178
  a146 := Tryd.isAgg178
  z146 := Tryd.sizeOf178
  v146 := Tryd.zeroValue178
  g1 := by kernel_rfl
  g3 := by kernel_rfl
  g4 := by kernel_rfl }
open Go.RowKit Go.Lib in
theorem Tryd.strings_Split (s sep : ByteArray) (m : Int) (w : World) (hs : s.size < 4294967281) (hm : w.cell? ⟨0, 0, none⟩ = some (.int .i64 m)) (h1 : 1 ≤ sep.size) :
    Calls Tryd.prog 77 #[.string s, .string sep] w fun e w' =>
      e = .returned (.slice (some ⟨w.heap.size, 0, none⟩) (Lib.countB s sep + 1) (Lib.countB s sep + 1)) ∧ w' = w.alloc (.cells ((Lib.splitB sep 0 (Lib.countB s sep) s).map Value.string).toArray 9) := Any.strings_Split Tryd.lays146 (by kernel_rfl) s sep m w hs hm h1
end Go.Proofs
namespace Go.Proofs.YtecdendjlgohjaaDoor
open Go.RowKit Go.Sort
set_option maxHeartbeats 1000000
set_option maxRecDepth 100000
/-- What the reading functions ask of the world: the table of powers of ten; some bound of the byte searches; the two errors of strconv. -/
def LAD (w : World) : Prop := TAB w ∧ (∃ m, w.cell? ⟨0, 0, none⟩ = some (.int .i64 m)) ∧ (∃ te pe, w.cell? ⟨2, 0, none⟩ = some (.iface te pe)) ∧ ∃ te pe, w.cell? ⟨3, 0, none⟩ = some (.iface te pe)
theorem LAD.on {w u : World} (h : LAD w) (b : Below w.heap.size w u) : LAD u := by
  obtain ⟨hT, ⟨m, hm⟩, ⟨te, pe, hs⟩, te', pe', hr⟩ := h
  refine ⟨hT.on b, ⟨m, ?_⟩, ⟨te, pe, ?_⟩, te', pe', ?_⟩
  · rw [b.cell (World.block_lt_of_cell? _ _ hm)]; exact hm
  · rw [b.cell (World.block_lt_of_cell? _ _ hs)]; exact hs
  · rw [b.cell (World.block_lt_of_cell? _ _ hr)]; exact hr
theorem M.bs_mk' (s : ByteArray) : (⟨s.data.toList.toArray⟩ : ByteArray) = s := by
  apply ByteArray.ext
  simp
/-- The number that a text spells. -/
def M.numB (s : ByteArray) : Option Int := M.num s.data.toList
theorem impl_ReadDecimal (s : ByteArray) (hs : s.size ≤ 1000000000) (w : World) (hL : LAD w) :
    Calls Tryd.prog 48 #[.string s] w fun e w' => e = .returned (.tuple #[.int .i64 ((M.numB s).getD 0), .bool (M.numB s).isSome]) ∧ Below w.heap.size w w' := by
  have hL' := hL
  obtain ⟨hT, -, ⟨te, pe, hsy⟩, te', pe', hrg⟩ := hL'
  have HL := Lib.hid hL
  have hnum := M.numI_eq s.data.toList
  unfold M.numI at hnum
  cases hp : Lib.parseIntB 64 s.data.toList
  case range =>
    rw [hp] at hnum
    have HN := Lib.hid (show M.numB s = none from hnum.symm)
    clear hnum hL hT hsy
    go_enter Tryd.func48, Tryd.ntmps48
    go_wp2_with (go_at_call 79; refine (Tryd.strconv_ParseInt_10_at64_range s (by omega) hp _ w hrg (Or.inr ⟨_, _, rfl⟩)).mono ?_; rintro e w1 ⟨N, rfl, -, -, b1⟩)
    go_ret2
    exact ⟨by rw [HN.out]; rfl, b1⟩
  case ok v =>
    rw [hp] at hnum
    have hb := Lib.parseIntB_bounds hp
    have v0 : -9223372036854775808 ≤ v := by have := hb.1; simp at this; omega
    have v1 : v ≤ 9223372036854775807 := by have := hb.2; simp at this; exact Int.lt_add_one_iff.1 this
    have HNM := Lib.hid (show M.numB s = if Lib.itoa v = s.data.toList ∧ (Lib.trimPrefix s.data.toList [45]).length ≤ 18 then some v else none from hnum.symm)
    clear hnum hL hsy hrg hb
    by_cases he : Lib.itoa v = s.data.toList
    · have HE := Lib.hid he
      have e1 : (Lib.itoa v == s.toList) = true := by rw [ByteArray.toList_eq, HE.out]; exact beq_self_eq_true _
      clear he
      by_cases ht : (Lib.trimPrefix s.data.toList [45]).length ≤ 18
      · have HT := Lib.hid ht
        have e2 : ¬ (18 : Int) < ((Lib.trimPrefix s.data.toList [45]).length : Int) := by omega
        go_enter Tryd.func48, Tryd.ntmps48
        go_wp2_with (first | (go_at_call 79; refine (Tryd.strconv_ParseInt_10_at64_ok s (by omega) v hp w).mono ?_; rintro e w1 ⟨rfl, hw⟩; have b1 : Below w.heap.size w w1 := (by rcases hw with rfl | ⟨t, rfl⟩; exact Below.refl _ _; exact Lib.bytesWorld_below _ _ _)) | (go_at_call 35; refine (impl_Decimal v v0 v1 _ (hT.on b1)).mono ?_; rintro e w2 ⟨rfl, b2⟩) | (go_at_call 80; refine (Tryd.strings_TrimPrefix s ⟨#[45]⟩ _).mono ?_; rintro e w3 ⟨rfl, rfl⟩))
        go_ret2
        exact ⟨by rw [HNM.out, if_pos ⟨HE.out, HT.out⟩]; rfl, bel_trans b1 b2⟩
      · have HT := Lib.hid ht
        have e2 : (18 : Int) < ((Lib.trimPrefix s.data.toList [45]).length : Int) := by omega
        go_enter Tryd.func48, Tryd.ntmps48
        go_wp2_with (first | (go_at_call 79; refine (Tryd.strconv_ParseInt_10_at64_ok s (by omega) v hp w).mono ?_; rintro e w1 ⟨rfl, hw⟩; have b1 : Below w.heap.size w w1 := (by rcases hw with rfl | ⟨t, rfl⟩; exact Below.refl _ _; exact Lib.bytesWorld_below _ _ _)) | (go_at_call 35; refine (impl_Decimal v v0 v1 _ (hT.on b1)).mono ?_; rintro e w2 ⟨rfl, b2⟩) | (go_at_call 80; refine (Tryd.strings_TrimPrefix s ⟨#[45]⟩ _).mono ?_; rintro e w3 ⟨rfl, rfl⟩))
        go_ret2
        exact ⟨by rw [HNM.out, if_neg (fun h => HT.out h.2)]; rfl, bel_trans b1 b2⟩
    · have HE := Lib.hid he
      have e1 : (Lib.itoa v == s.toList) = false := by rw [ByteArray.toList_eq, beq_eq_false_iff_ne]; exact HE.out
      clear he
      go_enter Tryd.func48, Tryd.ntmps48
      go_wp2_with (first | (go_at_call 79; refine (Tryd.strconv_ParseInt_10_at64_ok s (by omega) v hp w).mono ?_; rintro e w1 ⟨rfl, hw⟩; have b1 : Below w.heap.size w w1 := (by rcases hw with rfl | ⟨t, rfl⟩; exact Below.refl _ _; exact Lib.bytesWorld_below _ _ _)) | (go_at_call 35; refine (impl_Decimal v v0 v1 _ (hT.on b1)).mono ?_; rintro e w2 ⟨rfl, b2⟩) | (go_at_call 80; refine (Tryd.strings_TrimPrefix s ⟨#[45]⟩ _).mono ?_; rintro e w3 ⟨rfl, rfl⟩))
      go_ret2
      exact ⟨by rw [HNM.out, if_neg (fun h => HE.out h.1)]; rfl, bel_trans b1 b2⟩
  rw [hp] at hnum
  have HN := Lib.hid (show M.numB s = none from hnum.symm)
  clear hnum hL hT hrg
  go_enter Tryd.func48, Tryd.ntmps48
  go_wp2_with (go_at_call 79; refine (Tryd.strconv_ParseInt_10_at64_syntax s (by omega) (hp.trans rfl) _ w hsy (Or.inr ⟨_, _, rfl⟩)).mono ?_; rintro e w1 ⟨N, rfl, -, -, b1⟩)
  go_ret2
  exact ⟨by rw [HN.out]; rfl, b1⟩
end Go.Proofs.YtecdendjlgohjaaDoor
namespace Go.Proofs.YtecdendjlgohjaaDoor
open Go.ChangeShapes Go.WideShapes Go.ChangeAt Go.RowKit
open Go.Extern.Stop Go.Stop Go.Extern
set_option maxRecDepth 100000
/-- The wrap for a law over laid variables that asks for the world's shape too. -/
theorem handed_both {H : Type} {enc : TypeId × Value → H} {a : Assume} {C : Checked} {os : Os} {f : FuncId} {fn : Func} {s : ChangeSpec} {conds : List PathCond} {apart fresh handsOn again : Bool} {X : World → Array Value → Prop}
    (hX : ∀ (w w' : World) (args : Array Value), w.heap = w'.heap → X w args → X w' args)
    (own : ownKnob C.prog.godebug = none) (started : os.Started) (noInit : C.prog.inits.idxOf? f = none) (hfn : C.prog.funcs[f]? = some fn)
    (witness : ∃ (w : World) (tape : Tape) (i : Input), w.os = os ∧ (w.forCall tape i).Shaped C.prog ∧ i.vars = [] ∧ Input.okWide C.prog (w.forCall tape i) .any w.heap.size f i ∧
      ((s.pre enc C.prog fn conds apart (w.forCall tape i).memory i.args ∧ X (w.forCall tape i).memory i.args) ∧ sizedMet enc C.prog fn (OpenSpec.ofChange s) apart (w.forCall tape i).memory i.args) ∧ a.holds C.prog (lone (Frame.enter C.prog f i.args .normal) [] (w.forCall tape i)))
    (contract : ∀ (W : World) (base : Nat) (args : Array Value) (ds gs : List (DataW H)) (before : List MemPlace),
      (∀ (j : Nat) t v, fn.params[j]? = some t → args[j]? = some v → Value.okWide C.prog W .any base t v) →
      DataW.Whole enc C.prog fn.params.toList s.vars apart W args.toList ds gs before →
      conds.all (PathCond.test C.prog ⟨fn.params.toList, ds, s.plain.varTypes C.prog, gs⟩) = true →
      (DataW.weightsEach C.prog (fn.params.toList ++ s.plain.varTypes C.prog) (ds ++ gs)).all (· ≤ reachBytes) = true → W.ShapedOpen C.prog → X W args →
      a.holds C.prog (lone (Frame.enter C.prog f args .normal) [] W) →
      Calls C.prog f args W fun e W' => ∃ v, e = .returned v ∧ s.post enc C.prog fn apart fresh handsOn again W args v W') :
    ReturnsInHanded a C os f .any (fun w args => (s.pre enc C.prog fn conds apart w args ∧ X w args) ∧ sizedMet enc C.prog fn (OpenSpec.ofChange s) apart w args) (s.post enc C.prog fn apart fresh handsOn again) := by
  refine returnsInHanded_of_calls own started noInit witness ?_
  intro w tape i _ hsh _ hok hpre hholds
  obtain ⟨_, _, _, fn', hfn', _, _, _, _, hval⟩ := hok
  have e : fn' = fn := Option.some.inj (hfn'.symm.trans hfn)
  subst e
  obtain ⟨⟨⟨ds, gs, before, hw, hc⟩, hx⟩, hz⟩ := hpre
  have hw' := DataW.Whole.of_heap (w' := w.forCall tape i) (by rfl) hw
  refine (contract (w.forCall tape i) w.heap.size i.args ds gs before hval hw' hc (hz.weights hw) hsh (hX _ _ _ (by rfl) hx) hholds).mono fun e W' ⟨v, he, hp⟩ => ?_
  subst he
  exact ChangeSpec.post_blind hp
theorem gTab7 : Tryd.prog.globalNamed "internal/strconv.uint64pow10" = some 1 := by kernel_rfl
theorem gRange : Tryd.prog.globalNamed "strconv.ErrRange" = some 3 := by kernel_rfl
theorem gSyntax : Tryd.prog.globalNamed "strconv.ErrSyntax" = some 2 := by kernel_rfl
theorem tRange : (Tryd.prog.globals[3]?).map (·.type) = some 110 := by kernel_rfl
theorem tSyntax : (Tryd.prog.globals[2]?).map (·.type) = some 110 := by kernel_rfl
theorem errStar : "*" ++ "errors.errorString" = "*errors.errorString" := by decide
theorem errRow (u : TypeId) (h : Tryd.prog.typeName? 3 u = some "*errors.errorString") : u = 186 :=
  typeName_ptr_named (nm := "errors.errorString") (by rw [errStar]; kernel_rfl) (by kernel_rfl) (by decide) u (by rw [errStar]; exact h)
def L7 : List (String × DataW Unit) := [("math/bits.deBruijn32tab", Rows.laid_math_bits_deBruijn32tab), ("math/bits.deBruijn64tab", Rows.laid_math_bits_deBruijn64tab), ("internal/strconv.uint64pow10", Rows.laid_internal_strconv_uint64pow10), ("unicode/utf8.acceptRanges", Rows.laid_unicode_utf8_acceptRanges), ("strconv.ErrRange", Rows.laid_strconv_ErrRange), ("strconv.ErrSyntax", Rows.laid_strconv_ErrSyntax), ("unicode/utf8.first", Rows.laid_unicode_utf8_first)]
theorem met7_plain : laidMetH Tryd.prog L7 = laidMet Tryd.prog L7 := by
  funext W
  exact propext (by rw [MakeChecks.laidMetH_plain _ _ _ (by kernel_rfl)])
theorem err_cell {W : World} {n : String} {text : List UInt8} {r : List (String × DataW Unit)} {g : Nat} (h : laidMet Tryd.prog ((n, .iface "*errors.errorString" (.ptr (.agg [.lit (.string text)]))) :: r) W)
    (hg : Tryd.prog.globalNamed n = some g) (ht : (Tryd.prog.globals[g]?).map (·.type) = some 110) : ∃ te pe, W.cell? ⟨g, 0, none⟩ = some (.iface te pe) := by
  obtain ⟨a, s, hv, -⟩ := laid_sentinel h hg ht Tryd.underlying110 errRow Tryd.underlying186 Tryd.underlying188 rfl rfl Tryd.underlying9 (by kernel_rfl) (by kernel_rfl)
  exact ⟨_, _, World.var?_cell hg hv 0⟩
/-- What the readers ask, out of the row's condition and the world's shape. -/
theorem lad_of {W : World} (h : laidMetH Tryd.prog L7 W) (hsh : W.ShapedOpen Tryd.prog) : LAD W := by
  rw [met7_plain] at h
  have h3 : laidMet Tryd.prog (("internal/strconv.uint64pow10", Lib.tabData .u64 Lib.pow10Tab) :: _) W := h.tail.tail
  have h5 : laidMet Tryd.prog (("strconv.ErrRange", .iface "*errors.errorString" (.ptr (.agg [.lit (.string _)]))) :: _) W := h3.tail.tail
  have h6 : laidMet Tryd.prog (("strconv.ErrSyntax", .iface "*errors.errorString" (.ptr (.agg [.lit (.string _)]))) :: _) W := h5.tail
  refine ⟨Lib.tabBelow_of_tabIs (Lib.tabIs_of_head (g := 1) (t := 170) (e := 131) (n := 20) gTab7 (by kernel_rfl) (by kernel_rfl) (by kernel_rfl) (by kernel_rfl) (by kernel_rfl) h3), ?_, err_cell h6 gSyntax tSyntax, err_cell h5 gRange tRange⟩
  exact cell_of_shapedOpen_int (zero := #[.int .i64 0]) hsh (of_decide_eq_true (by kernel_rfl)) (by kernel_rfl) rfl (by kernel_rfl) (by kernel_rfl) Tryd.underlying3
/-- The witness's own heap meets the condition. -/
theorem met7 (os : Os) (args : Array Value) : laidMetH Tryd.prog L7 ((World.laidAll Tryd.prog os L7).forCall (fun _ _ => 0) ⟨#[], args, []⟩).memory := by
  rw [met7_plain]
  exact laidMet_laidAll _ (by kernel_rfl) (by kernel_rfl)
theorem shaped7 (os : Os) (args : Array Value) : ((World.laidAll Tryd.prog os L7).forCall (fun _ _ => 0) ⟨#[], args, []⟩).Shaped Tryd.prog :=
  World.shaped_of_ZipB (by kernel_rfl) (by kernel_rfl)
end Go.Proofs.YtecdendjlgohjaaDoor
namespace Go.Proofs.YtecdendjlgohjaaDoor
open Go.RowKit Go.Sort
set_option maxHeartbeats 2000000
set_option maxRecDepth 100000
theorem M.strs_push (ls : List (List UInt8)) (x : List UInt8) : M.strs ls ++ [.string ⟨x.toArray⟩] = M.strs (ls ++ [x]) := by simp [M.strs]
end Go.Proofs.YtecdendjlgohjaaDoor
namespace Go.Proofs.YtecdendjlgohjaaDoor
open Go.RowKit Go.Sort
set_option maxHeartbeats 2000000
set_option maxRecDepth 100000
end Go.Proofs.YtecdendjlgohjaaDoor
namespace Go.Proofs.YtecdendjlgohjaaDoor
open Go.RowKit Go.Sort
set_option maxHeartbeats 2000000
set_option maxRecDepth 100000
set_option linter.unusedVariables false
set_option linter.unusedSimpArgs false
section
variable {P : Program} {t e : TypeId} {z : Value} {bytes : Nat}
/-- 'out = append(out, x)', and where the row lies then. -/
theorem wpList_push1c (hE : EI P t e z 1 bytes) {w : World} {ops : Array Oper} {rest : List Oper} {o : Oper} {a : Act} {Q : Exit → Act → World → Prop} {u : Value}
    (hgd : o.guard = none) (s x : Operand)
    (ho : o.op = .call { callee := .builtin .append, args := #[s, x], argTypes := #[t, t] })
    {B : Nat} {v : Value} {n : Nat} {xs : List Value} (hown : w.ownsRow B e 1 v n xs) (hs : a.eval s = v)
    (hx : a.eval x = .slice (some ⟨w.heap.size, 0, none⟩) 1 1) (h1 : u.oneCell' = true)
    (hn : n + 1 ≤ maxLen) (hbytes : (n + 1) * bytes ≤ 140737488355328) (hbase : B ≤ w.heap.size)
    (K : ∀ v' w', w'.ownsRow B e 1 v' (n + 1) (xs ++ [u]) → w.grownBy w' v.ownBlock → Below B w w' → (v'.ownBlock = v.ownBlock ∨ ∀ k, v'.ownBlock = some k → w.heap.size ≤ k) → wpList P ops Q rest (a.put o.dst v') w') :
    wpList P ops Q (o :: rest) a (w.alloc (.cells #[u] e)) := by
  obtain ⟨ht, hinfo, hzs, hsz⟩ := hE
  obtain ⟨i0, hi, hz0, hz1, hz2⟩ := info_parts hinfo
  refine wpList_append_own_at _ hgd s x t ho B e i0 z 1 bytes ht hi hz0 hz1 hz2 hzs hsz v n xs hs (hown.alloc _) ⟨w.heap.size, 0, none⟩ 1 1 [u] hx rfl ?_ (by simpa using h1) hn hbytes (by simp; omega) ?_
  · intro j u2 hj
    have hadd : (⟨w.heap.size, 0, none⟩ : Addr).add j = ⟨w.heap.size, j, none⟩ := by unfold Addr.add; split <;> simp_all
    rw [hadd, cell_of_row _ w.heap.size j #[u] e (0, 0) (heap_alloc_new w _)]
    simpa using hj
  · intro v' w' h2 h3 _ g4
    have h4 : w.grownBy w' v.ownBlock := by
      have := World.grownBy_alloc w (.cells #[u] e) none
      exact ⟨h3.os.trans this.os, h3.tape.trans this.tape, h3.output.trans this.output, Nat.le_trans this.size h3.size, fun k hk hne => by
        rw [h3.block k (by simp; omega) hne]; exact this.block k hk (by simp)⟩
    refine K v' w' h2 h4 ((Below.refl _ _).grown h4 hbase fun k hk => (hown.lt k hk).1) ?_
    rcases g4 with h | h
    · exact .inl h
    · refine .inr fun k hk => ?_
      rw [h] at hk
      have hsz' : (w.alloc (.cells #[u] e)).heap.size = w.heap.size + 1 := by simp
      rw [hsz', Option.some.injEq] at hk
      omega
end
theorem M.pieces (c : UInt8) (s : ByteArray) : (Lib.splitB ⟨#[c]⟩ 0 (Lib.countB s ⟨#[c]⟩) s).map (fun x => x.data.toList) = M.splitBy c s.data.toList := by
  have h := Lib.splitB_data ⟨#[c]⟩ 0 (Lib.countB s ⟨#[c]⟩) s
  rw [show (fun x : ByteArray => x.data.toList) = (·.data.toList) from rfl, h]
  exact M.splitK_eq c _ _ (Lib.count_one c s.data.toList).symm
theorem M.strs_of (ps : List ByteArray) : ps.map Value.string = M.strs (ps.map fun x => x.data.toList) := by
  rw [M.strs, List.map_map]
  refine List.map_congr_left fun x _ => ?_
  show Value.string x = Value.string ⟨x.data.toList.toArray⟩
  rw [M.bs_mk']
theorem impl_Split (s : ByteArray) (c : UInt8) (w : World) (hs : s.size ≤ 1000000000) (hL : LAD w) :
    Calls Tryd.prog 77 #[.string s, .string ⟨#[c]⟩] w fun e w' => e = .returned (.slice (some ⟨w.heap.size, 0, none⟩) (M.splitBy c s.data.toList).length (M.splitBy c s.data.toList).length) ∧
      w'.ownsRow w.heap.size 9 1 (.slice (some ⟨w.heap.size, 0, none⟩) (M.splitBy c s.data.toList).length (M.splitBy c s.data.toList).length) (M.splitBy c s.data.toList).length (M.strs (M.splitBy c s.data.toList)) ∧ Below w.heap.size w w' ∧ w.heap.size < w'.heap.size := by
  obtain ⟨m, hm⟩ := hL.2.1
  have hlen : (M.splitBy c s.data.toList).length = Lib.countB s ⟨#[c]⟩ + 1 := by
    rw [← M.pieces, List.length_map]
    exact Lib.splitB_all ⟨#[c]⟩ (Nat.le_refl 1) 0 _ s rfl
  have hc : Lib.countB s ⟨#[c]⟩ ≤ s.size := Lib.countB_le ⟨#[c]⟩ (Nat.le_refl 1) s.size s (Nat.le_refl _)
  refine (Tryd.strings_Split s ⟨#[c]⟩ m w (by omega) hm (Nat.le_refl 1)).mono fun e w' h => ?_
  obtain ⟨rfl, rfl⟩ := h
  rw [hlen]
  refine ⟨rfl, ?_, (Below.refl _ _).alloc (Nat.le_refl _) _, by simp⟩
  rw [M.strs_of, M.pieces]
  refine ⟨by rw [M.strs_len, hlen, Nat.mul_one], .inr ⟨w.heap.size, Lib.countB s ⟨#[c]⟩ + 1, (M.strs (M.splitBy c s.data.toList)).toArray, rfl, Nat.le_refl _, heap_alloc_new w _, Nat.le_refl _, by unfold maxLen; omega, by simp [M.strs_len, hlen], ?_⟩⟩
  simp only [Nat.mul_one]
  exact (List.take_of_length_le (by rw [M.strs_len, hlen]; exact Nat.le_refl _))
theorem M.words_take {ps : List (List UInt8)} {k : Nat} {x : List UInt8} (h : ps[k]? = some x) : (ps.take (k + 1)).filter (fun w => !w.isEmpty) = (ps.take k).filter (fun w => !w.isEmpty) ++ (if x = [] then [] else [x]) := by
  rw [M.take_at h, List.filter_append]
  cases x <;> simp
theorem impl_SplitWords (s : ByteArray) (w : World) (hs : s.size ≤ 1000000000) (hL : LAD w) :
    Calls Tryd.prog 46 #[.string s] w fun e w' => ∃ v, e = .returned v ∧ w'.ownsRow w.heap.size 9 1 v (M.wordsOf s.data.toList).length (M.strs (M.wordsOf s.data.toList)) ∧ Below w.heap.size w w' := by
  have B0 : Below w.heap.size w (w.alloc (.cells #[] 9)) := (Below.refl _ _).alloc (Nat.le_refl _) _
  have sz0 : (w.alloc (.cells #[] 9)).heap.size = w.heap.size + 1 := by simp
  have hS := impl_Split s 32 _ hs (hL.on B0)
  have own0 : (w.alloc (.cells #[] 9)).ownsRow w.heap.size 9 1 (.slice (some ⟨w.heap.size, 0, none⟩) 0 0) 0 [] := World.ownsRow_made _ _ _ (Nat.le_refl _) (by simp [maxLen]) rfl
  obtain ⟨ps, hps⟩ : ∃ ps, ps = M.splitBy 32 s.data.toList := ⟨_, rfl⟩
  have hpl : ps.length ≤ s.size + 1 := by
    have h1 : ps.length = Lib.countB s ⟨#[32]⟩ + 1 := by
      rw [hps, ← M.pieces, List.length_map]
      exact Lib.splitB_all ⟨#[32]⟩ (Nat.le_refl 1) 0 _ s rfl
    have := Lib.countB_le ⟨#[32]⟩ (Nat.le_refl 1) s.size s (Nat.le_refl _)
    omega
  rw [← hps] at hS
  have HPS := Lib.hid hps
  have HS := Lib.hid hS
  have SZ0 := Lib.hid sz0
  clear hps hS sz0 hL
  go_enter Tryd.func46, Tryd.ntmps46
  go_wp2_with (go_at_call 77; refine HS.out.mono ?_; rintro e w2 ⟨rfl, ownp, b2, hlt2⟩)
  rw [SZ0.out] at ownp hlt2
  have own2 := own_below own0 b2
  have B2 := bel_trans B0 b2
  clear own0 b2 B0
  go_loopw [3, 10] (fun v i wr => ∃ k : Nat, i = .int .i64 k ∧ k ≤ ps.length ∧ wr.ownsRow w.heap.size 9 1 v ((ps.take k).filter (fun w => !w.isEmpty)).length (M.strs ((ps.take k).filter (fun w => !w.isEmpty))) ∧ Hid (v.ownBlock ≠ some (w.heap.size + 1)) ∧
      wr.ownsRow (w.heap.size + 1) 9 1 (.slice (some ⟨w.heap.size + 1, 0, none⟩) ps.length ps.length) ps.length (M.strs ps) ∧ w.heap.size + 1 < wr.heap.size ∧ Below w.heap.size w wr) (fun _ i _ => ps.length - (intOf i).toNat)
  case atStart => exact ⟨0, rfl, by omega, own2, Lib.hid (by simp [Value.ownBlock]), ownp, hlt2, B2⟩
  case round =>
    clear own2 ownp hlt2 B2
    obtain ⟨k, rfl, hk, own, HO, ownp, hsz, hb⟩ := hrel
    by_cases hlt : k < ps.length
    · have X := Lib.hid (List.getElem?_eq_getElem (l := ps) (i := k) hlt)
      generalize ps[k] = x at X
      have hcell : wr.cell? ⟨w.heap.size + 1, k, none⟩ = some (.string ⟨x.toArray⟩) := by
        have hadd : (⟨w.heap.size + 1, 0, none⟩ : Addr).add k = ⟨w.heap.size + 1, k, none⟩ := by unfold Addr.add; split <;> simp_all
        rw [← hadd]
        exact World.ownsRow.cells ownp (g := w.heap.size + 1) rfl k _ (by simp [M.strs, X.out])
      have HW := Lib.hid (M.words_take X.out)
      have hfl : ((ps.take k).filter (fun w => !w.isEmpty)).length ≤ k := by
        have := List.length_filter_le (fun w : List UInt8 => !w.isEmpty) (ps.take k)
        rw [List.length_take] at this
        omega
      by_cases hx : x = []
      · subst hx
        go_wp2
        go_roundw
        case rel =>
          refine ⟨k + 1, by go_num, by omega, ?_, HO, ownp, hsz, hb⟩
          rw [HW.out, if_pos rfl, List.append_nil]
          exact own
        case measure => simp [intOf]; omega
      · have e1 : (x == []) = false := by simpa using hx
        have HX := Lib.hid hx
        go_wp2_with (at_builtin; refine wpList_push1c ei_str rfl _ _ rfl own rfl rfl rfl (by unfold maxLen; omega) (by omega) hb.size ?_; intro v1 w1 own1 gr1 bel1 pl1)
        go_roundw
        case rel =>
          refine ⟨k + 1, by go_num, by omega, ?_, ?_, ?_, ?_, hb.trans bel1⟩
          · rw [HW.out, if_neg HX.out, List.length_append]
            rw [M.strs_push] at own1
            exact own1
          · refine Lib.hid fun e => ?_
            rcases pl1 with h | h
            · exact HO.out (h ▸ e)
            · have := h _ e; omega
          · exact World.ownsRow.kept ownp gr1 (Or.inr (fun e => HO.out (by rw [← e]; rfl)))
          · have := bel1.size; omega
        case measure => simp [intOf]; omega
    · obtain rfl : k = ps.length := by omega
      go_wp2
      go_ret
      rw [List.take_of_length_le (Nat.le_refl _)] at own
      refine ⟨_, rfl, ?_, hb⟩
      have e : M.wordsOf s.data.toList = ps.filter (fun w => !w.isEmpty) := by rw [M.wordsOf, ← HPS.out]
      rw [e]
      exact own
end Go.Proofs.YtecdendjlgohjaaDoor
namespace Go.Proofs.YtecdendjlgohjaaDoor
open Go.RowKit Go.Sort
set_option maxHeartbeats 400000
set_option maxRecDepth 100000
/-- All that a step of the reckoning of a value wants to know of two neighbours. -/
theorem M.seg_facts {p0 p1 q0 q1 t : Int} (hp : (0 ≤ p0 ∧ p0 ≤ 4000) ∧ -65536 ≤ p1 ∧ p1 ≤ 65536) (hq : (0 ≤ q0 ∧ q0 ≤ 4000) ∧ -65536 ≤ q1 ∧ q1 ≤ 65536) (hlt : p0 < q0) (ht : 0 ≤ t ∧ t ≤ 1000000) :
    IntKind.i64.wrap (q1 - p1) = q1 - p1 ∧ IntKind.i64.wrap (t - p0) = t - p0 ∧ IntKind.i64.wrap ((q1 - p1) * (t - p0)) = (q1 - p1) * (t - p0) ∧ IntKind.i64.wrap (q0 - p0) = q0 - p0 ∧
      IntKind.i64.wrap (p1 + (q1 - p1) * (t - p0) / (q0 - p0)) = M.seg (p0, p1) (q0, q1) t ∧ (-9000000000000000000 ≤ (q1 - p1) * (t - p0) ∧ (q1 - p1) * (t - p0) ≤ 9000000000000000000) ∧ 0 < q0 - p0 ∧ q0 - p0 ≤ 9000000000000000000 := by
  have h1 := M.mul_bound (a := q1 - p1) (b := t - p0) (x := 131072) (y := 1000000) (by omega) (by omega) (by omega)
  have h2 := M.div_small (a := (q1 - p1) * (t - p0)) (b := q0 - p0) (c := 131072000000) (by omega) (by omega) (by omega)
  refine ⟨IntWalk.i64_in _ (by omega), IntWalk.i64_in _ (by omega), IntWalk.i64_in _ (by omega), IntWalk.i64_in _ (by omega), ?_, by omega, by omega, by omega⟩
  rw [IntWalk.i64_in _ (by omega)]
  rfl
end Go.Proofs.YtecdendjlgohjaaDoor
namespace Go.Proofs.YtecdendjlgohjaaDoor
open Go.RowKit Go.Sort
set_option maxHeartbeats 400000
set_option maxRecDepth 100000
theorem impl_valueAt (A : Option Addr) (n c : Nat) (xs : List (Int × Int)) (t : Int) (w : World) (hx : RA pt 2 w w.heap.size A n xs) (hok : M.curveOk xs = true) (ht : 0 ≤ t ∧ t ≤ 1000000) :
    Calls Tryd.prog 56 #[.agg #[.slice A n c], .int .i64 t] w fun e w' => e = .returned (.int .i64 (M.atC xs t)) ∧ Below w.heap.size w w' := by
  have hl := Lib.hid hx.len
  have hn : 1 ≤ n ∧ n ≤ 24 := by have := M.curve_len hok; rw [hl.out] at this; exact this
  have hok' := Lib.hid hok
  clear hok
  obtain ⟨b, o, ⟨x0, x1⟩, rfl, hab, X0, hc⟩ := hx.at pt_len (by decide) (k := 0) (by omega)
  have hc0 : w.cell? ⟨b, o, none⟩ = some (.int .i64 x0) := by have := hc 0 _ rfl; simpa using this
  have hc1 : w.cell? ⟨b, o + 1, none⟩ = some (.int .i64 x1) := by have := hc 1 _ rfl; simpa using this
  clear hc
  have hself := lay_cell w (.slice (some ⟨b, o, none⟩) n c) 29
  have hsize : (w.alloc (.cells #[.slice (some ⟨b, o, none⟩) n c] 29)).heap.size = w.heap.size + 1 := by simp
  have hbw : Below w.heap.size w (w.alloc (.cells #[.slice (some ⟨b, o, none⟩) n c] 29)) := (Below.refl _ _).alloc (Nat.le_refl _) _
  go_enter Tryd.func56, Tryd.ntmps56
  go_wp2
  go_loopw [7, 15] (fun _ i wr => ∃ k : Nat, i = .int .i64 k ∧ k ≤ n ∧ (∃ p0 p1, Hid ((k = 0 → p0 = x0 ∧ p1 = x1) ∧ (0 < k → xs[k - 1]? = some (p0, p1) ∧ p0 ≤ t ∧ M.atGo (p0, p1) (xs.drop k) t = M.atC xs t)) ∧
      (wr.cell? ⟨w.heap.size + 1, 0, none⟩ = some (.int .i64 p0) ∧ wr.cell? ⟨w.heap.size + 1, 1, none⟩ = some (.int .i64 p1) ∧ wr.frozen? ⟨w.heap.size + 1, 0, none⟩ = false ∧ wr.frozen? ⟨w.heap.size + 1, 1, none⟩ = false)) ∧
      w.heap.size + 1 + 1 ≤ wr.heap.size ∧ Below (w.heap.size + 1) (w.alloc (.cells #[.slice (some ⟨b, o, none⟩) n c] 29)) wr) (fun _ i _ => n - (intOf i).toNat)
  case atStart =>
    refine ⟨0, rfl, by omega, ⟨x0, x1, Lib.hid ⟨fun _ => ⟨rfl, rfl⟩, fun h => by omega⟩, ?_, ?_, ?_, ?_⟩, by simp, (Below.refl _ _).alloc (by simp) _⟩
    · simp [go_sem]
    · simp [go_sem]
    · simp [go_sem]
    · simp [go_sem]
  case round =>
    obtain ⟨k, rfl, hk, ⟨p0, p1, H, cp0, cp1, fp0, fp1⟩, hsz, hb⟩ := hrel
    have hbb : Below w.heap.size w wr := hbw.trans (hb.mono (by omega))
    have hv : wr.cell? ⟨w.heap.size, 0, none⟩ = some (.slice (some ⟨b, o, none⟩) n c) := by rw [hb.cell (by simp)]; exact hself
    have hbr : b < wr.heap.size := Nat.lt_of_lt_of_le hab hbb.size
    have hBr : w.heap.size + 1 < wr.heap.size := by omega
    by_cases hlt : k < n
    · obtain ⟨⟨q0, q1⟩, X, hc⟩ := (hx.below hbb).cells pt_len (by decide) hlt
      have hd0 : wr.cell? ⟨b, o + k * 2, none⟩ = some (.int .i64 q0) := hc 0 _ rfl
      have hd1 : wr.cell? ⟨b, o + k * 2 + 1, none⟩ = some (.int .i64 q1) := hc 1 _ rfl
      clear hc
      by_cases htq : t < q0
      · by_cases htp : t < p0
        · have hval := Lib.hid (show p1 = M.atC xs t by
            rcases Nat.eq_zero_or_pos k with h0 | h0
            · obtain ⟨rfl, rfl⟩ := H.out.1 h0
              exact (M.atC_low X0.out htp).symm
            · have := (H.out.2 h0).2.1
              omega)
          go_wp2
          go_ret
          exact ⟨ret_int hval.out, hbb.alloc hbb.size _⟩
        · have hk0 : 0 < k := by
            rcases Nat.eq_zero_or_pos k with h0 | h0
            · obtain ⟨rfl, rfl⟩ := H.out.1 h0
              have h1 := X.out
              rw [h0, X0.out] at h1
              simp only [Option.some.injEq, Prod.mk.injEq] at h1
              omega
            · exact h0
          have hval := Lib.hid (show M.seg (p0, p1) (q0, q1) t = M.atC xs t by have := (H.out.2 hk0).2.2; rw [M.atGo_step X.out, if_pos htq] at this; exact this)
          obtain ⟨e1, e2, e3, e4, e5, hA, hB, hC⟩ := M.seg_facts (M.curve_pt hok'.out (H.out.2 hk0).1) (M.curve_pt hok'.out X.out) (M.curve_lt hok'.out hk0 (H.out.2 hk0).1 X.out) ht
          go_wp2
          go_quiet ((go_at_call 85; exact quiet_left (impl_floorDiv _ _ _ hA hB hC)))
          go_wp2
          go_ret
          exact ⟨ret_int hval.out, (hbb.alloc hbb.size _).trans (below_drewN (Below.refl _ _) _)⟩
      · have hval := Lib.hid (show M.atGo (q0, q1) (xs.drop (k + 1)) t = M.atC xs t by
          rcases Nat.eq_zero_or_pos k with h0 | h0
          · subst h0
            exact (M.atC_go X.out htq).symm
          · have := (H.out.2 h0).2.2
            rw [M.atGo_step X.out, if_neg htq] at this
            exact this)
        go_wp2
        go_roundw
        case rel =>
          refine ⟨k + 1, by go_num, by omega, ⟨q0, q1, Lib.hid ⟨fun h => by omega, fun _ => ⟨X.out, by omega, hval.out⟩⟩, ?_, ?_, ?_, ?_⟩, by simp; omega, ((hb.setCell (Nat.le_refl _) _).setCell (Nat.le_refl _) _).alloc (by simp; omega) _⟩
          · simp [go_sem, *]
          · simp [go_sem, *]
          · simp [go_sem, *]
          · simp [go_sem, *]
        case measure => simp [intOf]; omega
    · have hval := Lib.hid (show p1 = M.atC xs t by have := (H.out.2 (by omega)).2.2; rw [M.atGo_end (by rw [hl.out]; omega)] at this; exact this)
      obtain rfl : k = n := by omega
      go_wp2
      go_ret
      exact ⟨ret_int hval.out, hbb⟩
end Go.Proofs.YtecdendjlgohjaaDoor
namespace Go.Proofs.YtecdendjlgohjaaDoor
open Go.RowKit Go.Sort
set_option maxHeartbeats 400000
set_option maxRecDepth 100000
def M.rend (xs : List (Int × Int)) (m : Nat) : List Int := (List.range m).map fun (i : Nat) => M.atC xs (i : Int)
theorem M.rend_len (xs : List (Int × Int)) (m : Nat) : (M.rend xs m).length = m := by simp [M.rend]
theorem M.rend_at {xs : List (Int × Int)} {m k : Nat} (h : k < m) : (M.rend xs m)[k]? = some (M.atC xs (k : Int)) := by simp [M.rend, h]
def M.rendR (xs : List (Int × Int)) (t : Int) : List Int × Int := if M.curveOk xs then (if M.inn t 0 4000 then (M.rend xs t.toNat, 0) else ([], 2)) else ([], 1)
theorem impl_renderCurve (A : Option Addr) (n c m : Nat) (xs : List (Int × Int)) (w : World) (hx : RA pt 2 w w.heap.size A n xs) (hok : M.curveOk xs = true) (hm : m ≤ 1000000) :
    Calls Tryd.prog 55 #[.agg #[.slice A n c], .int .i64 m] w (Ret1 2 w (M.rend xs m)) := by
  have hok' := Lib.hid hok
  clear hok
  have hself := lay_cell w (.slice A n c) 29
  have hsize : (w.alloc (.cells #[.slice A n c] 29)).heap.size = w.heap.size + 1 := by simp
  have hbw : Below w.heap.size w (w.alloc (.cells #[.slice A n c] 29)) := (Below.refl _ _).alloc (Nat.le_refl _) _
  go_enter Tryd.func55, Tryd.ntmps55
  go_wp2_with (go_at_call 84; refine (impl_zeros _ _ (by omega) (by omega)).mono ?_; rintro e w1 ⟨v1, rfl, own1, bel1⟩; rw [Int.toNat_natCast] at own1; obtain ⟨A1, c1, rfl, _⟩ := own1.shape; rw [List.length_replicate] at *)
  rw [hsize] at own1 bel1
  go_loopw [6, 11] (fun _ i wr => ∃ k : Nat, i = .int .i64 k ∧ k ≤ m ∧ OI 2 (w.heap.size + 1) wr (.slice A1 m c1) ((M.rend xs m).take k ++ (List.replicate m 0).drop k) ∧ Below (w.heap.size + 1) (w.alloc (.cells #[.slice A n c] 29)) wr)
    (fun _ i _ => m - (intOf i).toNat)
  case atStart => exact ⟨0, rfl, by omega, by simpa using own1, bel1⟩
  case round =>
    obtain ⟨k, rfl, hk, own, hb⟩ := hrel
    have hbb : Below w.heap.size w wr := hbw.trans (hb.mono (by omega))
    have hv : wr.cell? ⟨w.heap.size, 0, none⟩ = some (.slice A n c) := by rw [hb.cell (by simp)]; exact hself
    by_cases hlt : k < m
    · obtain ⟨g, rfl, hB, hgl⟩ := own.form' (by omega)
      have hxr := hx.later hbb
      go_wp2_with (go_at_call 56; refine (impl_valueAt _ _ _ _ _ _ hxr hok'.out (by omega)).mono ?_; rintro e w2 ⟨rfl, bel2⟩; have own2 := own.below bel2; obtain ⟨z, Z, hc2, hf2, _, _⟩ := own2.at' hlt)
      go_roundw
      case rel =>
        refine ⟨k + 1, by go_num, by omega, ?_, (hb.trans (bel2.mono (by rw [← hsize]; exact hb.size))).setCell hB _⟩
        have h3 := own2.stored' k (M.atC xs (k : Int))
        rw [M.set_mid (by rw [M.rend_len, List.length_replicate]) (M.rend_at hlt)] at h3
        exact h3
      case measure => simp [intOf]; omega
    · go_wp2
      go_ret
      rw [List.take_of_length_le (by rw [M.rend_len]; omega), List.drop_eq_nil_of_le (by simp; omega), List.append_nil] at own
      exact ⟨_, rfl, own.base (by omega), hbb⟩
theorem impl_RenderCurve (A : Option Addr) (n c : Nat) (xs : List (Int × Int)) (t : Int) (w : World) (hx : RA pt 2 w w.heap.size A n xs) (hn : n ≤ 1000000000) :
    Calls Tryd.prog 24 #[.agg #[.slice A n c], .int .i64 t] w (Ret2 2 w (M.rendR xs t)) := by
  have hbw : Below w.heap.size w (w.alloc (.cells #[.slice A n c] 29)) := (Below.refl _ _).alloc (Nat.le_refl _) _
  have hself := lay_cell w (.slice A n c) 29
  have hx1 := hx.later hbw
  cases hok : M.curveOk xs
  · have hr := Lib.hid (show M.rendR xs t = ([], 1) by rw [M.rendR, hok]; rfl)
    go_enter Tryd.func24, Tryd.ntmps24
    go_wp2_with (go_at_call 34; refine (impl_isCurve _ _ _ _ _ hx1 hn).mono ?_; rw [hok]; rintro e w2 ⟨rfl, bel2⟩)
    go_ret2
    rw [hr.out]; exact ⟨_, rfl, OI.nil _ _ _, hbw.trans (bel2.mono hbw.size)⟩
  · cases hin : M.inn t 0 4000
    · have hr := Lib.hid (show M.rendR xs t = ([], 2) by rw [M.rendR, hok, hin]; rfl)
      go_enter Tryd.func24, Tryd.ntmps24
      go_wp2_with (first | (go_at_call 54; refine (impl_isCount _ _).mono ?_; rintro e w' ⟨rfl, rfl⟩) | (go_at_call 34; refine (impl_isCurve _ _ _ _ _ hx1 hn).mono ?_; rw [hok]; rintro e w2 ⟨rfl, bel2⟩))
      go_ret2
      rw [hr.out]; exact ⟨_, rfl, OI.nil _ _ _, hbw.trans (bel2.mono hbw.size)⟩
    · obtain ⟨m, rfl⟩ : ∃ m : Nat, t = m := ⟨t.toNat, by have := M.inn_iff.1 hin; omega⟩
      have hm := Lib.hid (M.inn_iff.1 hin)
      have hm4 : m ≤ 1000000 := by have := hm.out; omega
      have hr := Lib.hid (show M.rendR xs m = (M.rend xs m, 0) by rw [M.rendR, hok, hin]; rfl)
      go_enter Tryd.func24, Tryd.ntmps24
      go_wp2_with (first | (go_at_call 54; refine (impl_isCount _ _).mono ?_; rintro e w' ⟨rfl, rfl⟩) | (go_at_call 34; refine (impl_isCurve _ _ _ _ _ hx1 hn).mono ?_; rw [hok]; rintro e w2 ⟨rfl, bel2⟩; have hv : w2.cell? ⟨w.heap.size, 0, none⟩ = some (.slice A n c) := (by rw [bel2.cell (by simp)]; exact hself)) | (go_at_call 55; refine (impl_renderCurve _ _ _ _ _ _ (hx1.later bel2) hok hm4).mono ?_; rintro e w3 ⟨v3, rfl, own3, bel3⟩))
      go_ret2
      have hb2 := hbw.trans (bel2.mono hbw.size)
      rw [hr.out]; exact ⟨_, rfl, own3.base hb2.size, hb2.trans (bel3.mono hb2.size)⟩
end Go.Proofs.YtecdendjlgohjaaDoor
namespace Go.Proofs.YtecdendjlgohjaaDoor
open Go.RowKit Go.Sort
set_option maxHeartbeats 400000
set_option maxRecDepth 100000
/-- As wpList_push, the new block's number in the walk's spelling. -/
theorem wpList_pushH {P : Program} {t e : TypeId} {z : Value} {size bytes : Nat} (hE : EI P t e z size bytes) {w : World} {ops : Array Oper} {rest : List Oper} {o : Oper} {a : Act} {Q : Exit → Act → World → Prop} (us : Array Value)
    (hgd : o.guard = none) (s x : Operand) (ho : o.op = .call { callee := .builtin .append, args := #[s, x], argTypes := #[t, t] })
    {B : Nat} {v : Value} {n : Nat} {xs : List Value} (hown : w.ownsRow B e size v n xs) (hs : a.eval s = v) (H : Nat) (hH : w.heap.size = H)
    (hx : a.eval x = .slice (some ⟨H, 0, none⟩) 1 1) (hus : us.size = size) (h1 : ∀ u ∈ us.toList, u.oneCell' = true)
    (hn : n + 1 ≤ maxLen) (hbytes : (n + 1) * bytes ≤ 140737488355328) (hbase : B ≤ w.heap.size)
    (K : ∀ v' w', w'.ownsRow B e size v' (n + 1) (xs ++ us.toList) → w.grownBy w' v.ownBlock → Below B w w' → wpList P ops Q rest (a.put o.dst v') w') :
    wpList P ops Q (o :: rest) a (w.alloc (.cells us e)) := by
  subst hH
  exact wpList_push hE us hgd s x ho hown hs hx hus h1 hn hbytes hbase K
/-- What a function of a curve and a code gives back. -/
def RetC (e : TypeId) (w : World) (r : List (Int × Int) × Int) (en : Ending) (w' : World) : Prop :=
  ∃ v, en = .returned (.tuple #[.agg #[v], .int .i64 r.2]) ∧ OA pt e 2 w.heap.size w'.heap.size w' v r.1 ∧ Below w.heap.size w w'
def M.setP (xs : List (Int × Int)) (p : Int × Int) : List (Int × Int) := xs.filter (fun q => decide (q.1 < p.1)) ++ p :: xs.filter (fun q => decide (p.1 < q.1))
def M.setR (xs : List (Int × Int)) (p : Int × Int) : List (Int × Int) × Int :=
  if M.curveOk xs then (if M.ptOk p then (if (M.setP xs p).length ≤ 24 then (M.setP xs p, 0) else ([], 5)) else ([], 2)) else ([], 1)
theorem M.filter_at {xs : List (Int × Int)} {k : Nat} {x : Int × Int} (f : Int × Int → Bool) (hx : xs[k]? = some x) : (xs.take (k + 1)).filter f = (xs.take k).filter f ++ (if f x then [x] else []) := by
  rw [M.take_at hx, List.filter_append]
  congr 1
  cases h : f x <;> simp [h]
theorem impl_SetPoint (A : Option Addr) (n c : Nat) (xs : List (Int × Int)) (p0 p1 : Int) (w : World) (hx : RA pt 2 w w.heap.size A n xs) (hn : n ≤ 1000000000) :
    Calls Tryd.prog 27 #[.agg #[.slice A n c], .agg #[.int .i64 p0, .int .i64 p1]] w (RetC 52 w (M.setR xs (p0, p1))) := by
  have hl := Lib.hid hx.len
  have hb3 : Below w.heap.size w (((w.alloc (.cells #[.slice A n c] 29)).alloc (.cells #[.int .i64 p0, .int .i64 p1] 52)).alloc (.cells #[.slice none 0 0] 29)) := (((Below.refl _ _).alloc (Nat.le_refl _) _).alloc (by simp) _).alloc (by simp; omega) _
  have hx1 := hx.later hb3
  cases hok : M.curveOk xs
  · have hr := Lib.hid (show M.setR xs (p0, p1) = ([], 1) by rw [M.setR, hok]; rfl)
    go_enter Tryd.func27, Tryd.ntmps27
    go_wp2_with (go_at_call 34; refine (impl_isCurve _ _ _ _ _ hx1 hn).mono ?_; rw [hok]; rintro e w2 ⟨rfl, bel2⟩; have hq : w2.cell? ⟨w.heap.size + 1 + 1, 0, none⟩ = some (.slice none 0 0) := (by rw [bel2.cell (by simp)]; simp [go_sem]); have hf : w2.frozen? ⟨w.heap.size + 1 + 1, 0, none⟩ = false := (by rw [bel2.frozen (by simp)]; simp [go_sem]))
    refine bodyPost_ret (v := .tuple #[.agg #[.slice none 0 0], .int .i64 1]) (by simp [results, Tryd.results27, go_sem, hq, hf]) rfl ?_
    rw [hr.out]
    exact ⟨_, rfl, OA.nil _, (hb3.trans (bel2.mono hb3.size)).setCell (by simp; omega) _⟩
  · cases hp : M.ptOk (p0, p1)
    · have hr := Lib.hid (show M.setR xs (p0, p1) = ([], 2) by rw [M.setR, hok, hp]; rfl)
      go_enter Tryd.func27, Tryd.ntmps27
      go_wp2_with (first | (go_at_call 34; refine (impl_isCurve _ _ _ _ _ hx1 hn).mono ?_; rw [hok]; rintro e w2 ⟨rfl, bel2⟩; have hq : w2.cell? ⟨w.heap.size + 1 + 1, 0, none⟩ = some (.slice none 0 0) := (by rw [bel2.cell (by simp)]; simp [go_sem]); have hf : w2.frozen? ⟨w.heap.size + 1 + 1, 0, none⟩ = false := (by rw [bel2.frozen (by simp)]; simp [go_sem]); have h0 : w2.cell? ⟨w.heap.size + 1, 0, none⟩ = some (.int .i64 p0) := (by rw [bel2.cell (by simp)]; simp [go_sem]); have h1 : w2.cell? ⟨w.heap.size + 1, 1, none⟩ = some (.int .i64 p1) := (by rw [bel2.cell (by simp)]; simp [go_sem]); have hs2 : w.heap.size + 1 + 1 + 1 ≤ w2.heap.size := (by have := bel2.size; simpa using this)) | (go_at_call 57; refine (impl_isPoint _ _ _).mono ?_; rw [hp]; rintro e w3 ⟨rfl, bel3⟩; have hq3 : w3.cell? ⟨w.heap.size + 1 + 1, 0, none⟩ = some (.slice none 0 0) := (by rw [bel3.cell (by simp; omega)]; exact hq); have hf3 : w3.frozen? ⟨w.heap.size + 1 + 1, 0, none⟩ = false := (by rw [bel3.frozen (by simp; omega)]; exact hf)))
      refine bodyPost_ret (v := .tuple #[.agg #[.slice none 0 0], .int .i64 2]) (by simp [results, Tryd.results27, go_sem, hq3, hf3]) rfl ?_
      rw [hr.out]
      exact ⟨_, rfl, OA.nil _, (bel_trans (hb3.trans (bel2.mono hb3.size)) bel3).setCell (by simp; omega) _⟩
    · go_enter Tryd.func27, Tryd.ntmps27
      go_wp2_with (first | (go_at_call 34; refine (impl_isCurve _ _ _ _ _ hx1 hn).mono ?_; rw [hok]; rintro e w2 ⟨rfl, bel2⟩; have hq : w2.cell? ⟨w.heap.size + 1 + 1, 0, none⟩ = some (.slice none 0 0) := (by rw [bel2.cell (by simp)]; simp [go_sem]); have hf : w2.frozen? ⟨w.heap.size + 1 + 1, 0, none⟩ = false := (by rw [bel2.frozen (by simp)]; simp [go_sem]); have h0 : w2.cell? ⟨w.heap.size + 1, 0, none⟩ = some (.int .i64 p0) := (by rw [bel2.cell (by simp)]; simp [go_sem]); have h1 : w2.cell? ⟨w.heap.size + 1, 1, none⟩ = some (.int .i64 p1) := (by rw [bel2.cell (by simp)]; simp [go_sem]); have hs2 : w.heap.size + 1 + 1 + 1 ≤ w2.heap.size := (by have := bel2.size; simpa using this)) | (go_at_call 57; refine (impl_isPoint _ _ _).mono ?_; rw [hp]; rintro e w3 ⟨rfl, bel3⟩; have hq3 : w3.cell? ⟨w.heap.size + 1 + 1, 0, none⟩ = some (.slice none 0 0) := (by rw [bel3.cell (by simp; omega)]; exact hq); have hf3 : w3.frozen? ⟨w.heap.size + 1 + 1, 0, none⟩ = false := (by rw [bel3.frozen (by simp; omega)]; exact hf); have h03 : w3.cell? ⟨w.heap.size + 1, 0, none⟩ = some (.int .i64 p0) := (by rw [bel3.cell (by simp; omega)]; exact h0); have h13 : w3.cell? ⟨w.heap.size + 1, 1, none⟩ = some (.int .i64 p1) := (by rw [bel3.cell (by simp; omega)]; exact h1); have hv3 : w3.cell? ⟨w.heap.size, 0, none⟩ = some (.slice A n c) := (by rw [bel3.cell (by simp; omega), bel2.cell (by simp; omega)]; simp [go_sem]); have z0 : w.heap.size < w3.heap.size := (by have := bel3.size; omega); have z1 : w.heap.size + 1 < w3.heap.size := (by have := bel3.size; omega); have z2 : w.heap.size + 1 + 1 < w3.heap.size := (by have := bel3.size; omega)))
      have B3 := bel_trans (hb3.trans (bel2.mono hb3.size)) bel3
      clear hq hf h0 h1 bel2 hb3 hx1
      go_loopw [23] (fun i wr => ∃ k : Nat, i = .int .i64 k ∧ k ≤ n ∧ (∃ v, wr.cell? ⟨w3.heap.size, 0, none⟩ = some v ∧ OA pt 52 2 (w3.heap.size + 1) wr.heap.size wr v ((xs.take k).filter (fun q => decide (q.1 < p0)))) ∧ wr.frozen? ⟨w3.heap.size, 0, none⟩ = false ∧ w3.heap.size + 1 ≤ wr.heap.size ∧ Below w3.heap.size w3 wr) (fun i _ => n - (intOf i).toNat)
      case atStart => exact ⟨0, rfl, by omega, ⟨_, by simp [go_sem], OA.nil _⟩, by simp [go_sem], by simp, (Below.refl _ _).alloc (Nat.le_refl _) _⟩
      case round =>
        obtain ⟨k, rfl, hk, ⟨v, hv, own⟩, hfv, hsz, hb⟩ := hrel
        obtain ⟨A4, c4, rfl, -⟩ := own.shape
        have hbb := B3.trans (hb.mono (by omega))
        have y0 : w.heap.size < wr.heap.size := by omega
        have y1 : w.heap.size + 1 < wr.heap.size := by omega
        have y2 : w.heap.size + 1 + 1 < wr.heap.size := by omega
        have y3 : w3.heap.size < wr.heap.size := by omega
        have g0 : wr.cell? ⟨w.heap.size + 1, 0, none⟩ = some (.int .i64 p0) := by rw [hb.cell (by simpa using z1)]; exact h03
        have g1 : wr.cell? ⟨w.heap.size + 1, 1, none⟩ = some (.int .i64 p1) := by rw [hb.cell (by simpa using z1)]; exact h13
        have gv : wr.cell? ⟨w.heap.size, 0, none⟩ = some (.slice A n c) := by rw [hb.cell (by simpa using z0)]; exact hv3
        have gq : wr.cell? ⟨w.heap.size + 1 + 1, 0, none⟩ = some (.slice none 0 0) := by rw [hb.cell (by simpa using z2)]; exact hq3
        have gf : wr.frozen? ⟨w.heap.size + 1 + 1, 0, none⟩ = false := by rw [hb.frozen (by simpa using z2)]; exact hf3
        by_cases hlt : k < n
        · obtain ⟨b, o, ⟨q0, q1⟩, rfl, hab, X, hc⟩ := (hx.below hbb).at pt_len (by decide) hlt
          have hc0 : wr.cell? ⟨b, o + k * 2, none⟩ = some (.int .i64 q0) := hc 0 _ rfl
          have hc1 : wr.cell? ⟨b, o + k * 2 + 1, none⟩ = some (.int .i64 q1) := hc 1 _ rfl
          clear hc
          have hF := Lib.hid (M.filter_at (fun q => decide (q.1 < p0)) X.out)
          by_cases hq : q0 < p0
          · have hcl : ((xs.take k).filter (fun q => decide (q.1 < p0))).length ≤ 1000000000 := Nat.le_trans (List.length_filter_le _ _) (by rw [List.length_take]; omega)
            have ownA := own.1.alloc (.cells #[.int .i64 q0, .int .i64 q1] 52)
            go_wp2_with (at_builtin; (refine wpList_pushH ei_pt _ rfl _ _ rfl ownA rfl (wr.heap.size + 1) (by simp) rfl rfl (by simp [Value.oneCell']) (by unfold maxLen; omega) (by omega) (by simp; omega) ?_; intro v1 w1 own1 gr1 bel1; obtain ⟨A5, c5, rfl, -⟩ := own_shape own1; have e0 : w1.cell? ⟨w3.heap.size, 0, none⟩ = some (.slice A4 ((xs.take k).filter (fun q => decide (q.1 < p0))).length c4) := (by rw [bel1.cell (by simp)]; simp [go_sem, *]); have e1 : w1.frozen? ⟨w3.heap.size, 0, none⟩ = false := (by rw [bel1.frozen (by simp)]; simp [go_sem, *])))
            go_roundw
            case rel =>
              have o5 := (OA.push (enc := pt) (x := (q0, q1)) own1).mid (Mid.cell w1 w3.heap.size 0 (.slice A5 (((xs.take k).filter (fun q => decide (q.1 < p0))).length + 1) c5)) (.inr (Nat.le_refl _)) (Nat.le_refl _)
              refine ⟨k + 1, by go_num, by omega, ⟨.slice A5 (((xs.take k).filter (fun q => decide (q.1 < p0))).length + 1) c5, by simp [go_sem, *], ?_⟩, by simp [go_sem, *], by have := bel1.size; simp at this ⊢; omega, ((hb.alloc (by omega) _).trans (bel1.mono (by omega))).setCell (Nat.le_refl _) _⟩
              rw [hF.out, if_pos (by simpa using hq)]
              exact o5.wide (Nat.le_refl _) (by simp)
            case measure => simp [intOf]; omega
          · go_wp2
            go_roundw
            case rel =>
              refine ⟨k + 1, by go_num, by omega, ⟨.slice A4 ((xs.take k).filter (fun q => decide (q.1 < p0))).length c4, by simp [go_sem, *], ?_⟩, by simp [go_sem, *], by simp; omega, hb.alloc (by omega) _⟩
              rw [hF.out, if_neg (by simpa using hq), List.append_nil]
              exact (own.below ((Below.refl _ _).alloc (Nat.le_refl _) _) (Nat.le_refl _)).wide (Nat.le_refl _) (by simp)
            case measure => simp [intOf]; omega
        · obtain rfl : n = k := by omega
          rw [List.take_of_length_le (by rw [hl.out]; omega)] at hv own
          have hcl : (xs.filter (fun q => decide (q.1 < p0))).length ≤ 1000000000 := Nat.le_trans (List.length_filter_le _ _) (by rw [hl.out]; omega)
          go_wp2_with (at_builtin; refine wpList_push ei_pt _ rfl _ _ rfl own.1 rfl rfl rfl (by simp [Value.oneCell']) (by unfold maxLen; omega) (by omega) (by omega) ?_; intro v1 w1 own1 gr1 bel1; obtain ⟨A5, c5, rfl, -⟩ := own_shape own1; have e0 : w1.cell? ⟨w3.heap.size, 0, none⟩ = some (.slice A4 (xs.filter (fun q => decide (q.1 < p0))).length c4) := (by rw [bel1.cell (by simp)]; exact hv); have e1 : w1.frozen? ⟨w3.heap.size, 0, none⟩ = false := (by rw [bel1.frozen (by simp)]; exact hfv); have e2 : w1.cell? ⟨w.heap.size, 0, none⟩ = some (.slice A n c) := (by rw [bel1.cell (by simp; omega)]; exact gv))
          have o5 := ((OA.push (enc := pt) (x := (p0, p1)) own1).mid (Mid.cell w1 w3.heap.size 0 (.slice A5 ((xs.filter (fun q => decide (q.1 < p0))).length + 1) c5)) (.inr (Nat.le_refl _)) (Nat.le_refl _)).wide (Nat.le_refl _) (show w1.heap.size ≤ (w1.setCell ⟨w3.heap.size, 0, none⟩ (.slice A5 ((xs.filter (fun q => decide (q.1 < p0))).length + 1) c5)).heap.size by simp)
          have hb5 : Below w3.heap.size w3 (w1.setCell ⟨w3.heap.size, 0, none⟩ (.slice A5 ((xs.filter (fun q => decide (q.1 < p0))).length + 1) c5)) := (hb.trans (bel1.mono (by omega))).setCell (Nat.le_refl _) _
          have s5 : w3.heap.size < w1.heap.size := by have := bel1.size; omega
          clear own own1 hv hfv g0 g1 gv gq gf y0 y1 y2 y3
          go_loopw [48] (fun i wr => ∃ k : Nat, i = .int .i64 k ∧ k ≤ n ∧ (∃ v, wr.cell? ⟨w3.heap.size, 0, none⟩ = some v ∧ OA pt 52 2 (w3.heap.size + 1) wr.heap.size wr v (xs.filter (fun q => decide (q.1 < p0)) ++ [(p0, p1)] ++ (xs.take k).filter (fun q => decide (p0 < q.1)))) ∧ wr.frozen? ⟨w3.heap.size, 0, none⟩ = false ∧ w3.heap.size + 1 ≤ wr.heap.size ∧ Below w3.heap.size w3 wr) (fun i _ => n - (intOf i).toNat)
          case atStart => exact ⟨0, rfl, by omega, ⟨.slice A5 ((xs.filter (fun q => decide (q.1 < p0))).length + 1) c5, by simp [go_sem, *], by simpa using o5⟩, by simp [go_sem, *], by simp; omega, hb5⟩
          case round =>
            clear hb hsz e0 e1 e2 gr1 bel1 o5 hb5 s5
            clear w1
            obtain ⟨k, rfl, hk, ⟨v, hv, own⟩, hfv, hsz, hb⟩ := hrel
            obtain ⟨A4, c4, rfl, -⟩ := own.shape
            have hbb := B3.trans (hb.mono (by omega))
            have y0 : w.heap.size < wr.heap.size := by omega
            have y1 : w.heap.size + 1 < wr.heap.size := by omega
            have y2 : w.heap.size + 1 + 1 < wr.heap.size := by omega
            have y3 : w3.heap.size < wr.heap.size := by omega
            have g0 : wr.cell? ⟨w.heap.size + 1, 0, none⟩ = some (.int .i64 p0) := by rw [hb.cell (by simpa using z1)]; exact h03
            have gq : wr.cell? ⟨w.heap.size + 1 + 1, 0, none⟩ = some (.slice none 0 0) := by rw [hb.cell (by simpa using z2)]; exact hq3
            have gf : wr.frozen? ⟨w.heap.size + 1 + 1, 0, none⟩ = false := by rw [hb.frozen (by simpa using z2)]; exact hf3
            by_cases hlt : k < n
            · obtain ⟨b, o, ⟨q0, q1⟩, rfl, hab, X, hc⟩ := (hx.below hbb).at pt_len (by decide) hlt
              have hc0 : wr.cell? ⟨b, o + k * 2, none⟩ = some (.int .i64 q0) := hc 0 _ rfl
              have hc1 : wr.cell? ⟨b, o + k * 2 + 1, none⟩ = some (.int .i64 q1) := hc 1 _ rfl
              clear hc
              have hF := Lib.hid (M.filter_at (fun q => decide (p0 < q.1)) X.out)
              by_cases hq : p0 < q0
              · have hcl : (xs.filter (fun q => decide (q.1 < p0)) ++ [(p0, p1)] ++ (xs.take k).filter (fun q => decide (p0 < q.1))).length ≤ 3000000000 := by
                  have := List.length_filter_le (fun q : Int × Int => decide (q.1 < p0)) xs
                  have := List.length_filter_le (fun q : Int × Int => decide (p0 < q.1)) (xs.take k)
                  have := hl.out
                  rw [List.length_take] at *
                  simp only [List.length_append, List.length_singleton]
                  omega
                have ownA := own.1.alloc (.cells #[.int .i64 q0, .int .i64 q1] 52)
                generalize hys : xs.filter (fun q => decide (q.1 < p0)) ++ [(p0, p1)] ++ (xs.take k).filter (fun q => decide (p0 < q.1)) = ys at *
                have hys' := Lib.hid hys
                clear hys
                go_wp2_with (at_builtin; refine wpList_pushH ei_pt _ rfl _ _ rfl ownA rfl (wr.heap.size + 1) (by simp) rfl rfl (by simp [Value.oneCell']) (by unfold maxLen; omega) (by omega) (by simp; omega) ?_; intro v1 w1 own1 gr1 bel1; obtain ⟨A5, c5, rfl, -⟩ := own_shape own1; have e0 : w1.cell? ⟨w3.heap.size, 0, none⟩ = some (.slice A4 ys.length c4) := (by rw [bel1.cell (by simp)]; simp [go_sem, *]); have e1 : w1.frozen? ⟨w3.heap.size, 0, none⟩ = false := (by rw [bel1.frozen (by simp)]; simp [go_sem, *]))
                go_roundw
                case rel =>
                  have o5 := (OA.push (enc := pt) (x := (q0, q1)) own1).mid (Mid.cell w1 w3.heap.size 0 (.slice A5 (ys.length + 1) c5)) (.inr (Nat.le_refl _)) (Nat.le_refl _)
                  refine ⟨k + 1, by go_num, by omega, ⟨.slice A5 (ys.length + 1) c5, by simp [go_sem, *], ?_⟩, by simp [go_sem, *], by have := bel1.size; simp at this ⊢; omega, ((hb.alloc (by omega) _).trans (bel1.mono (by omega))).setCell (Nat.le_refl _) _⟩
                  rw [hF.out, if_pos (by simpa using hq), ← List.append_assoc, hys'.out]
                  exact o5.wide (Nat.le_refl _) (by simp)
                case measure => simp [intOf]; omega
              · have hv' := Lib.hid (show (wr.alloc (.cells #[.int .i64 q0, .int .i64 q1] 52)).cell? ⟨w3.heap.size, 0, none⟩ = some _ by rw [World.cell?_alloc_lt _ _ _ (by simpa using y3)]; exact hv)
                go_wp2
                go_roundw
                case rel =>
                  refine ⟨k + 1, by go_num, by omega, ⟨_, hv'.out, ?_⟩, by simp [go_sem, *], by simp; omega, hb.alloc (by omega) _⟩
                  rw [hF.out, if_neg (by simpa using hq), List.append_nil]
                  exact (own.below ((Below.refl _ _).alloc (Nat.le_refl _) _) (Nat.le_refl _)).wide (Nat.le_refl _) (by simp)
                case measure => simp [intOf]; omega
            · obtain rfl : n = k := by omega
              rw [List.take_of_length_le (by rw [hl.out]; omega)] at hv own
              have hP := Lib.hid (show M.setR xs (p0, p1) = if (xs.filter (fun q => decide (q.1 < p0)) ++ [(p0, p1)] ++ xs.filter (fun q => decide (p0 < q.1))).length ≤ 24 then (xs.filter (fun q => decide (q.1 < p0)) ++ [(p0, p1)] ++ xs.filter (fun q => decide (p0 < q.1)), 0) else ([], 5) by
                rw [M.setR, hok, hp, M.setP]
                simp)
              generalize xs.filter (fun q => decide (q.1 < p0)) ++ [(p0, p1)] ++ xs.filter (fun q => decide (p0 < q.1)) = ys at *
              by_cases hlen : 24 < ys.length
              · go_wp2
                refine bodyPost_ret (v := .tuple #[.agg #[.slice none 0 0], .int .i64 5]) (by simp [results, Tryd.results27, go_sem, gq, gf]) rfl ?_
                rw [hP.out, if_neg (by omega)]
                exact ⟨_, rfl, OA.nil _, hbb.setCell (by simp; omega) _⟩
              · go_wp2
                refine bodyPost_ret (v := .tuple #[.agg #[.slice A4 ys.length c4], .int .i64 0]) (by simp [results, Tryd.results27, go_sem, gq, gf]) rfl ?_
                rw [hP.out, if_pos (by omega)]
                exact ⟨_, rfl, (own.mid (Mid.cell wr (w.heap.size + 1 + 1) 0 (.slice A4 ys.length c4)) (.inr (by omega)) (Nat.le_refl _)).wide (by omega) (by simp), hbb.setCell (by simp; omega) _⟩
end Go.Proofs.YtecdendjlgohjaaDoor
