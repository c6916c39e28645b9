import Derived.Test.YtecdendjlgohjaaDoorFnExactReadCurveG1
import Derived.Lib.QuietBelow
import Derived.BigQuiet
import Derived.Shelf.LaysM
import Derived.Shelf.LaysC
import Derived.Shelf.Strconv.ErrVarParseInt
import Derived.Shelf.Strings.Prefix
import Derived.Shelf.Strings.SplitShaped
import Derived.Shelf.Strings.Cut
import Derived.Test.YtecdendjlgohjaaDoorProg
import Derived.Test.YtecdendjlgohjaaDoorRows
import Derived.WalkKit
import Derived.ProofKit
import Derived.LaidMore
import Derived.Lay
import Derived.Lib.LaidTab
import Derived.Stop.LaidErr
import Derived.Stop.Joined
import Derived.Stop.ErrReads
import Derived.Stop.Texts
import Derived.Shelf.Vars
import Derived.Maps.AppendAt
import Derived.Deep.DeepCutAuto
set_option linter.unusedVariables false
set_option linter.unusedSimpArgs false
namespace Go.Proofs.YtecdendjlgohjaaDoor
open Go.RowKit
set_option maxHeartbeats 400000
set_option maxRecDepth 100000
theorem laws_markCurvePointS (v : Value) (lo hi n : Nat) (k : Int) (xs : List (Int × Int)) (w : World) (hx : OA pt 52 2 lo hi w v xs) (hn : xs.length = n) (hl : n ≤ 1000000000) (hk : 0 ≤ k ∧ k ≤ 1000000000) :
    Calls Tryd.prog 49 #[v, .int .i64 k] w fun e w' => e = .returned (.int .i64 (k + 2 * n)) ∧ OA pt 52 2 lo hi w' v (rampP k n) ∧ Mid lo hi w w' := by
  have hl' := Lib.hid hn
  obtain ⟨A, c, rfl, hrr⟩ := hx.shape
  rw [hn]
  rw [hn] at hx
  clear hrr hn
  go_enter Tryd.func49, Tryd.ntmps49
  go_wp2
  go_loopw [1, 5] (fun q i wr => ∃ j : Nat, i = .int .i64 j ∧ j ≤ n ∧ q = .int .i64 (k + 2 * j) ∧ OA pt 52 2 lo hi wr (.slice A n c) ((rampP k n).take j ++ xs.drop j) ∧ Mid lo hi w wr)
    (fun _ i _ => n - (intOf i).toNat)
  case atStart => exact ⟨0, rfl, by omega, by go_num, by simpa using hx, Mid.refl _ _ _⟩
  case round =>
    obtain ⟨j, rfl, hj, rfl, own, hg⟩ := hrel
    by_cases hlt : j < n
    · obtain ⟨g, rfl, hB, hgl, hgs, -⟩ := own.form (by omega)
      have hjx : j < xs.length := by rw [hl'.out]; exact hlt
      obtain ⟨⟨y0, y1⟩, hy⟩ : ∃ y, xs[j]? = some y := ⟨_, List.getElem?_eq_getElem hjx⟩
      have hD := Lib.hid (show ((rampP k n).take j ++ xs.drop j)[j]? = some (y0, y1) by rw [M.mid_at (by rw [rampP_len, hl'.out])]; exact hy)
      have q0 := (OA.cell pt_len own hD.out (j := 0) (u := .int .i64 y0) rfl).1
      have r0 := (OA.cell pt_len own hD.out (j := 0) (u := .int .i64 y0) rfl).2
      have q1 := (OA.cell pt_len own hD.out (j := 1) (u := .int .i64 y1) rfl).1
      have r1 := (OA.cell pt_len own hD.out (j := 1) (u := .int .i64 y1) rfl).2
      rw [Nat.add_zero] at q0 r0
      clear hy
      go_wp2
      go_roundw
      case rel =>
        have h2 := OA.set pt_len own hD.out (j := 0) (y := (k + 2 * (j : Int), y1)) (u := .int .i64 (k + 2 * (j : Int))) (by decide) rfl
        have h3 := OA.set pt_len h2.1 (k := j) (x := (k + 2 * (j : Int), y1)) (j := 1) (y := (k + 2 * (j : Int), k + 2 * (j : Int) + 1)) (u := .int .i64 (k + 2 * (j : Int) + 1)) (by rw [List.getElem?_set_self]; exact (List.getElem?_eq_some_iff.1 hD.out).1) (by decide) rfl
        rw [List.set_set, M.set_mid (by rw [rampP_len, hl'.out]) (rampP_at hlt)] at h3
        exact ⟨j + 1, by go_num, by omega, by go_num, h3.1, (hg.trans h2.2).trans h3.2⟩
      case measure => simp [intOf]; omega
    · obtain rfl : j = n := by omega
      go_wp2
      go_ret
      refine ⟨rfl, ?_, hg⟩
      rw [List.take_of_length_le (by rw [rampP_len]; omega), List.drop_eq_nil_of_le (by rw [hl'.out]; omega), List.append_nil] at own
      exact own
theorem laws_heldCurvePointS (A : Option Addr) (n c : Nat) (k : Int) (w : World) (hx : RA pt 2 w w.heap.size A n (rampP k n)) (hn : n ≤ 1000000000) (hk : 0 ≤ k ∧ k ≤ 1000000000) :
    Calls Tryd.prog 50 #[.slice A n c, .int .i64 k] w fun e w' => e = .returned (.int .i64 (k + 2 * n)) ∧ w = w' := by
  go_enter Tryd.func50, Tryd.ntmps50
  go_wp2
  go_loop [1, 5] (fun q i => ∃ j : Nat, i = .int .i64 j ∧ j ≤ n ∧ q = .int .i64 (k + 2 * j)) (fun _ i => n - (intOf i).toNat)
  case atStart => exact ⟨0, rfl, by omega, by go_num⟩
  case round =>
    obtain ⟨j, rfl, hj, rfl⟩ := hrel
    by_cases hlt : j < n
    · obtain ⟨b, o, x, rfl, hab, X, hc⟩ := hx.at pt_len (by decide) hlt
      have hxj : x = (k + 2 * (j : Int), k + 2 * (j : Int) + 1) := by have := X.out; rw [rampP_at hlt] at this; injection this with this; exact this.symm
      subst hxj
      have hc0 : w.cell? ⟨b, o + j * 2, none⟩ = some (.int .i64 (k + 2 * (j : Int))) := hc 0 _ rfl
      have hc1 : w.cell? ⟨b, o + j * 2 + 1, none⟩ = some (.int .i64 (k + 2 * (j : Int) + 1)) := hc 1 _ rfl
      clear hc
      go_wp2
      go_round
      case rel => exact ⟨j + 1, by go_num, by omega, by go_num⟩
      case measure => simp [intOf]; omega
    · obtain rfl : j = n := by omega
      go_wp2
      go_ret
      exact ⟨rfl, rfl⟩
theorem laws_markCurve (v : Value) (lo hi n : Nat) (k : Int) (xs : List (Int × Int)) (w : World) (hx : OA pt 52 2 lo hi w v xs) (hh : hi ≤ w.heap.size) (hn : xs.length = n) (hl : n ≤ 1000000000) (hk : 0 ≤ k ∧ k ≤ 1000000000) :
    Calls Tryd.prog 19 #[.agg #[v], .int .i64 k] w fun e w' => e = .returned (.int .i64 (k + 2 * n)) ∧ OA pt 52 2 lo hi w' v (rampP k n) ∧ Mid lo hi w w' := by
  have hl' := Lib.hid hn
  obtain ⟨A, c, rfl, hrr⟩ := hx.shape
  rw [hn]
  rw [hn] at hx
  clear hrr hn
  have hb : Below w.heap.size w (w.alloc (.cells #[.slice A n c] 29)) := (Below.refl _ _).alloc (Nat.le_refl _) _
  have hx2 := hx.below hb hh
  go_enter Tryd.func19, Tryd.ntmps19
  go_wp2_with (go_at_call 49; refine (laws_markCurvePointS _ _ _ _ _ _ _ hx2 hl'.out hl hk).mono ?_; rintro e w2 ⟨rfl, own2, m2⟩)
  go_ret
  exact ⟨rfl, own2, (Mid.of_below hb _ _).trans m2⟩
theorem laws_heldCurve (A : Option Addr) (n c : Nat) (k : Int) (w : World) (hx : RA pt 2 w w.heap.size A n (rampP k n)) (hn : n ≤ 1000000000) (hk : 0 ≤ k ∧ k ≤ 1000000000) :
    Calls Tryd.prog 20 #[.agg #[.slice A n c], .int .i64 k] w fun e w' => e = .returned (.int .i64 (k + 2 * n)) ∧ Below w.heap.size w w' := by
  have hb : Below w.heap.size w (w.alloc (.cells #[.slice A n c] 29)) := (Below.refl _ _).alloc (Nat.le_refl _) _
  have hx2 := hx.later hb
  go_enter Tryd.func20, Tryd.ntmps20
  go_wp2_with (go_at_call 50; refine (laws_heldCurvePointS _ _ _ _ _ hx2 hn hk).mono ?_; rintro e w2 ⟨rfl, rfl⟩)
  go_ret
  exact ⟨rfl, hb⟩
end Go.Proofs.YtecdendjlgohjaaDoor
namespace Go.Proofs.YtecdendjlgohjaaDoor
open Go.RowKit
set_option maxHeartbeats 400000
set_option maxRecDepth 100000
def M.ptOk (p : Int × Int) : Bool := M.inn p.1 0 4000 && M.inn p.2 (-65536) 65536
/-- The point before the k-th lies before it. -/
def M.after (xs : List (Int × Int)) (k : Nat) : Bool := k == 0 || decide (((xs[k - 1]?).getD (0, 0)).1 < ((xs[k]?).getD (0, 0)).1)
def M.stepOk (xs : List (Int × Int)) (k : Nat) : Bool := M.ptOk ((xs[k]?).getD (0, 0)) && M.after xs k
def M.curveOk (xs : List (Int × Int)) : Bool := (List.range xs.length).all (M.stepOk xs) && M.inn (xs.length : Int) 1 24
theorem impl_isCount (n : Int) (w : World) : Calls Tryd.prog 54 #[.int .i64 n] w fun e w' => e = .returned (.bool (M.inn n 0 4000)) ∧ w = w' := by
  go_enter Tryd.func54, Tryd.ntmps54
  go_wp2_with (go_at_call 62; refine (impl_within _ _ _ _).mono ?_; rintro e w' ⟨rfl, rfl⟩)
  go_ret
  exact ⟨rfl, rfl⟩
theorem impl_isPoint (a b : Int) (w : World) : Calls Tryd.prog 57 #[.agg #[.int .i64 a, .int .i64 b]] w fun e w' => e = .returned (.bool (M.ptOk (a, b))) ∧ Below w.heap.size w w' := by
  cases h1 : M.inn a 0 4000 <;> cases h2 : M.inn b (-65536) 65536
  all_goals
    go_enter Tryd.func57, Tryd.ntmps57
    go_wp2_with (first | (go_at_call 54; refine (impl_isCount _ _).mono ?_; rintro e w' ⟨rfl, rfl⟩) | (go_at_call 62; refine (impl_within _ _ _ _).mono ?_; rintro e w' ⟨rfl, rfl⟩))
    go_ret
    exact ⟨ret_bool (by simp [M.ptOk, h1, h2]), (Below.refl _ _).alloc (Nat.le_refl _) _⟩
theorem spec_l25Point (b o : Nat) (p : Int × Int) (w : World) (h0 : w.cell? ⟨b, o, none⟩ = some (.int .i64 p.1)) (h1 : w.cell? ⟨b, o + 1, none⟩ = some (.int .i64 p.2)) :
    Calls Tryd.prog 58 #[.pointer (some ⟨b, o, none⟩)] w fun e w' => e = .returned (.bool (M.ptOk p)) ∧ w = w' := by
  obtain ⟨p0, p1⟩ := p
  cases h1 : M.inn p0 0 4000 <;> cases h2 : M.inn p1 (-65536) 65536
  all_goals
    go_enter Tryd.func58, Tryd.ntmps58
    go_wp2_with (go_at_call 59; refine (spec_l00In _ _ _ _).mono ?_; rintro e w' ⟨rfl, rfl⟩)
    go_ret
    exact ⟨ret_bool (by simp [M.ptOk, h1, h2]), rfl⟩
theorem impl_size_impl_CurvePoint (A : Option Addr) (n c : Nat) (w : World) : Calls Tryd.prog 63 #[.slice A n c] w fun e w' => e = .returned (.int .i64 n) ∧ w = w' := by
  go_enter Tryd.func63, Tryd.ntmps63
  go_wp2
  go_ret
  exact ⟨rfl, rfl⟩
end Go.Proofs.YtecdendjlgohjaaDoor
namespace Go.Proofs.YtecdendjlgohjaaDoor
open Go.RowKit Go.Sort
set_option maxHeartbeats 400000
set_option maxRecDepth 100000
theorem M.all_upto {n : Nat} {f : Nat → Bool} (h : ∀ j, j < n → f j = true) : (List.range n).all f = true := by
  rw [List.all_eq_true]
  intro j hj
  exact h j (List.mem_range.1 hj)
theorem M.all_not {n k : Nat} {f : Nat → Bool} (hk : k < n) (h : f k = false) : (List.range n).all f = false := by
  rw [List.all_eq_false]
  exact ⟨k, List.mem_range.2 hk, by simp [h]⟩
theorem impl_isCurve (A : Option Addr) (n c : Nat) (xs : List (Int × Int)) (w : World) (hx : RA pt 2 w w.heap.size A n xs) (hn : n ≤ 1000000000) :
    Calls Tryd.prog 34 #[.agg #[.slice A n c]] w fun e w' => e = .returned (.bool (M.curveOk xs)) ∧ Below w.heap.size w w' := by
  have hl := Lib.hid hx.len
  have hbw : Below w.heap.size w (w.alloc (.cells #[.slice A n c] 29)) := (Below.refl _ _).alloc (Nat.le_refl _) _
  have hself := lay_cell w (.slice A n c) 29
  have hsize : (w.alloc (.cells #[.slice A n c] 29)).heap.size = w.heap.size + 1 := by simp
  go_enter Tryd.func34, Tryd.ntmps34
  go_wp2
  go_loopw [3, 4, 8] (fun _ _ i wr => ∃ k : Nat, i = .int .i64 k ∧ k ≤ n ∧ Hid (∀ j, j < k → M.stepOk xs j = true) ∧ Below (w.heap.size + 1) (w.alloc (.cells #[.slice A n c] 29)) wr) (fun _ _ i _ => n - (intOf i).toNat)
  case atStart => exact ⟨0, rfl, by omega, Lib.hid (by omega), Below.refl _ _⟩
  case round =>
    obtain ⟨k, rfl, hk, H, hb⟩ := hrel
    have hbb : Below w.heap.size w wr := hbw.trans (hb.mono (by omega))
    have hsz : w.heap.size + 1 ≤ wr.heap.size := by rw [← hsize]; exact hb.size
    have hv : wr.cell? ⟨w.heap.size, 0, none⟩ = some (.slice A n c) := by rw [hb.cell (by simp)]; exact hself
    by_cases hlt : k < n
    · obtain ⟨b, o, ⟨p0, p1⟩, rfl, hab, X, hc⟩ := (hx.below hbb).at pt_len (by decide) hlt
      have hc0 : wr.cell? ⟨b, o + k * 2, none⟩ = some (.int .i64 p0) := hc 0 _ rfl
      have hc1 : wr.cell? ⟨b, o + k * 2 + 1, none⟩ = some (.int .i64 p1) := hc 1 _ rfl
      clear hc
      obtain ⟨⟨r0, r1⟩, Z, hr⟩ := (hx.below hbb).cells pt_len (by decide) (k := k - 1) (by omega)
      have hr0 : wr.cell? ⟨b, o + (k - 1) * 2, none⟩ = some (.int .i64 r0) := hr 0 _ rfl
      clear hr
      have hs4 : (wr.alloc (.cells #[.int .i64 p0, .int .i64 p1] 52)).heap.size = wr.heap.size + 1 := by simp
      have hbr : b < (wr.alloc (.cells #[.int .i64 p0, .int .i64 p1] 52)).heap.size := by omega
      have hbv : w.heap.size < (wr.alloc (.cells #[.int .i64 p0, .int .i64 p1] 52)).heap.size := by omega
      have hbn : wr.heap.size < (wr.alloc (.cells #[.int .i64 p0, .int .i64 p1] 52)).heap.size := by omega
      have q0 : (wr.alloc (.cells #[.int .i64 p0, .int .i64 p1] 52)).cell? ⟨wr.heap.size, 0, none⟩ = some (.int .i64 p0) := by rw [cell_of_row _ wr.heap.size 0 _ 52 (0, 0) (heap_alloc_new wr _)]; rfl
      have q1 : (wr.alloc (.cells #[.int .i64 p0, .int .i64 p1] 52)).cell? ⟨wr.heap.size, 1, none⟩ = some (.int .i64 p1) := by rw [cell_of_row _ wr.heap.size 1 _ 52 (0, 0) (heap_alloc_new wr _)]; rfl
      have q2 : (wr.alloc (.cells #[.int .i64 p0, .int .i64 p1] 52)).cell? ⟨w.heap.size, 0, none⟩ = some (.slice (some ⟨b, o, none⟩) n c) := by rw [World.cell?_alloc_lt _ _ _ (by simp; omega)]; exact hv
      have q3 : (wr.alloc (.cells #[.int .i64 p0, .int .i64 p1] 52)).cell? ⟨b, o + (k - 1) * 2, none⟩ = some (.int .i64 r0) := by rw [World.cell?_alloc_lt _ _ _ (by simp; omega)]; exact hr0
      have hb4 : Below (w.heap.size + 1) (w.alloc (.cells #[.slice (some ⟨b, o, none⟩) n c] 29)) (wr.alloc (.cells #[.int .i64 p0, .int .i64 p1] 52)) := hb.alloc (by omega) _
      have hp0 := Lib.hid (show (xs[k]?).getD (0, 0) = (p0, p1) by rw [X.out]; rfl)
      have hz0 := Lib.hid (show (xs[k - 1]?).getD (0, 0) = (r0, r1) by rw [Z.out]; rfl)
      cases hp : M.ptOk (p0, p1)
      · have hno := Lib.hid (show M.curveOk xs = false by rw [M.curveOk, M.all_not (k := k) (by rw [hl.out]; exact hlt) (by rw [M.stepOk, hp0.out, hp, Bool.false_and]), Bool.false_and])
        go_wp2
        generalize hw4 : wr.alloc (.cells #[.int .i64 p0, .int .i64 p1] 52) = w4 at q0 q1 q2 q3 hbr hbv hbn hb4 ⊢
        clear hw4 hs4
        have cP : ∀ d os, Calls Tryd.prog 57 #[.agg #[.int .i64 p0, .int .i64 p1]] (grow (redrawn w4 d) os) fun e w'' => e = .returned (.bool false) ∧ ∃ p : Regrown, w'' = grow (redrawn w4 p.d) p.os := fun d os => Calls.regrown_of (by have h := impl_isPoint p0 p1 (grow (redrawn w4 d) os); rw [hp] at h; exact h)
        have k0' := cell_regrown q0
        have k1' := cell_regrown q1
        have k2' := cell_regrown q2
        have k3' := cell_regrown q3
        clear q0 q1 q2 q3
        (refine wp_region_quiet_below (by kernel_rfl) (by kernel_rfl) ?_; (repeat (go_big_quiet_step (exact cP _ _))); refine wpQuiet_nil ?_; intro _ hw'; obtain ⟨⟨dq, osq⟩, hw''⟩ := hw'; subst hw'')
        go_wp2
        go_ret
        exact ⟨ret_bool (by rw [hno.out]), hbw.trans ((hb4.trans ((below_regrown w4 dq osq).mono (by rw [← hsize]; exact hb4.size))).mono (by omega))⟩
      · by_cases hk0 : k = 0
        · have hyes := Lib.hid (show M.stepOk xs k = true by rw [M.stepOk, hp0.out, hp, M.after, hk0]; rfl)
          have hd : decide (0 < k) = false := by rw [hk0]; rfl
          have hd2 : ¬ 0 < k := by omega
          clear hk0
          go_wp2
          generalize hw4 : wr.alloc (.cells #[.int .i64 p0, .int .i64 p1] 52) = w4 at q0 q1 q2 q3 hbr hbv hbn hb4 ⊢
          clear hw4 hs4
          have cP : ∀ d os, Calls Tryd.prog 57 #[.agg #[.int .i64 p0, .int .i64 p1]] (grow (redrawn w4 d) os) fun e w'' => e = .returned (.bool true) ∧ ∃ p : Regrown, w'' = grow (redrawn w4 p.d) p.os := fun d os => Calls.regrown_of (by have h := impl_isPoint p0 p1 (grow (redrawn w4 d) os); rw [hp] at h; exact h)
          have k0' := cell_regrown q0
          have k1' := cell_regrown q1
          have k2' := cell_regrown q2
          have k3' := cell_regrown q3
          clear q0 q1 q2 q3
          (refine wp_region_quiet_below (by kernel_rfl) (by kernel_rfl) ?_; (repeat (go_big_quiet_step (exact cP _ _))); refine wpQuiet_nil ?_; intro _ hw'; obtain ⟨⟨dq, osq⟩, hw''⟩ := hw'; subst hw'')
          go_wp2
          go_roundw
          case rel => exact ⟨k + 1, by go_num, by omega, Lib.hid (fun j hj => by rcases Nat.lt_succ_iff_lt_or_eq.1 hj with h | h; exact H.out j h; rw [h]; exact hyes.out), hb4.trans ((below_regrown w4 dq osq).mono (by rw [← hsize]; exact hb4.size))⟩
          case measure => simp [intOf]; omega
        · have hkk : IntKind.i64.wrap ((k : Int) - 1) = ((k - 1 : Nat) : Int) := by rw [IntWalk.i64_in _ (by omega)]; omega
          have hk1n : ((k - 1 : Nat) : Int) < (n : Int) := by omega
          have hd : decide (0 < k) = true := decide_eq_true (by omega)
          by_cases hge : p0 ≤ r0
          · have hno := Lib.hid (show M.curveOk xs = false by rw [M.curveOk, M.all_not (k := k) (by rw [hl.out]; exact hlt) (by rw [M.stepOk, hp0.out, hp, M.after, hp0.out, hz0.out]; simp [hk0, hge]), Bool.false_and])
            go_wp2
            generalize hw4 : wr.alloc (.cells #[.int .i64 p0, .int .i64 p1] 52) = w4 at q0 q1 q2 q3 hbr hbv hbn hb4 ⊢
            clear hw4 hs4
            have cP : ∀ d os, Calls Tryd.prog 57 #[.agg #[.int .i64 p0, .int .i64 p1]] (grow (redrawn w4 d) os) fun e w'' => e = .returned (.bool true) ∧ ∃ p : Regrown, w'' = grow (redrawn w4 p.d) p.os := fun d os => Calls.regrown_of (by have h := impl_isPoint p0 p1 (grow (redrawn w4 d) os); rw [hp] at h; exact h)
            have k0' := cell_regrown q0
            have k1' := cell_regrown q1
            have k2' := cell_regrown q2
            have k3' := cell_regrown q3
            clear q0 q1 q2 q3
            (refine wp_region_quiet_below (by kernel_rfl) (by kernel_rfl) ?_; (repeat (go_big_quiet_step (exact cP _ _))); refine wpQuiet_nil ?_; intro _ hw'; obtain ⟨⟨dq, osq⟩, hw''⟩ := hw'; subst hw'')
            go_wp2
            go_ret
            exact ⟨ret_bool (by rw [hno.out]), hbw.trans ((hb4.trans ((below_regrown w4 dq osq).mono (by rw [← hsize]; exact hb4.size))).mono (by omega))⟩
          · have hyes := Lib.hid (show M.stepOk xs k = true by rw [M.stepOk, hp0.out, hp, M.after, hp0.out, hz0.out]; simp; omega)
            go_wp2
            generalize hw4 : wr.alloc (.cells #[.int .i64 p0, .int .i64 p1] 52) = w4 at q0 q1 q2 q3 hbr hbv hbn hb4 ⊢
            clear hw4 hs4
            have cP : ∀ d os, Calls Tryd.prog 57 #[.agg #[.int .i64 p0, .int .i64 p1]] (grow (redrawn w4 d) os) fun e w'' => e = .returned (.bool true) ∧ ∃ p : Regrown, w'' = grow (redrawn w4 p.d) p.os := fun d os => Calls.regrown_of (by have h := impl_isPoint p0 p1 (grow (redrawn w4 d) os); rw [hp] at h; exact h)
            have k0' := cell_regrown q0
            have k1' := cell_regrown q1
            have k2' := cell_regrown q2
            have k3' := cell_regrown q3
            clear q0 q1 q2 q3
            (refine wp_region_quiet_below (by kernel_rfl) (by kernel_rfl) ?_; (repeat (go_big_quiet_step (exact cP _ _))); refine wpQuiet_nil ?_; intro _ hw'; obtain ⟨⟨dq, osq⟩, hw''⟩ := hw'; subst hw'')
            go_wp2
            go_roundw
            case rel => exact ⟨k + 1, by go_num, by omega, Lib.hid (fun j hj => by rcases Nat.lt_succ_iff_lt_or_eq.1 hj with h | h; exact H.out j h; rw [h]; exact hyes.out), hb4.trans ((below_regrown w4 dq osq).mono (by rw [← hsize]; exact hb4.size))⟩
            case measure => simp [intOf]; omega
    · have hyes := Lib.hid (M.all_upto (n := xs.length) (f := M.stepOk xs) (fun j hj => H.out j (by rw [hl.out] at hj; omega)))
      have hres := Lib.hid (show M.inn (n : Int) 1 24 = M.curveOk xs by rw [M.curveOk, hyes.out, hl.out, Bool.true_and])
      go_wp2_with (first | (go_at_call 63; refine (impl_size_impl_CurvePoint _ _ _ _).mono ?_; rintro e w' ⟨rfl, rfl⟩) | (go_at_call 62; refine (impl_within _ _ _ _).mono ?_; rintro e w' ⟨rfl, rfl⟩))
      go_ret
      exact ⟨ret_bool hres.out, hbb⟩
end Go.Proofs.YtecdendjlgohjaaDoor
namespace Go.Proofs.YtecdendjlgohjaaDoor
open Go.RowKit Go.Sort
set_option maxHeartbeats 400000
set_option maxRecDepth 100000
theorem spec_l25Ok (vb : Nat) (A : Option Addr) (n c : Nat) (xs : List (Int × Int)) (w : World) (hv0 : w.cell? ⟨vb, 0, none⟩ = some (.slice A n c)) (hx : RA pt 2 w w.heap.size A n xs) (hn : n ≤ 1000000000) :
    Calls Tryd.prog 31 #[.pointer (some ⟨vb, 0, none⟩)] w fun e w' => e = .returned (.bool (M.curveOk xs)) ∧ Below w.heap.size w w' := by
  have hl := Lib.hid hx.len
  have hvb : vb < w.heap.size := World.block_lt_of_cell? w _ hv0
  go_enter Tryd.func31, Tryd.ntmps31
  go_wp2
  go_loopw [3] (fun i wr => ∃ k : Nat, i = .int .i64 k ∧ k ≤ n ∧ Hid (∀ j, j < k → M.stepOk xs j = true) ∧ Below w.heap.size w wr) (fun i _ => n - (intOf i).toNat)
  case atStart => exact ⟨0, rfl, by omega, Lib.hid (by omega), Below.refl _ _⟩
  case round =>
    obtain ⟨k, rfl, hk, H, hb⟩ := hrel
    have hv : wr.cell? ⟨vb, 0, none⟩ = some (.slice A n c) := by rw [hb.cell (by simpa using hvb)]; exact hv0
    by_cases hlt : k < n
    · obtain ⟨b, o, ⟨p0, p1⟩, rfl, hab, X, hc⟩ := (hx.below hb).at pt_len (by decide) hlt
      have hc0 : wr.cell? ⟨b, o + k * 2, none⟩ = some (.int .i64 p0) := hc 0 _ rfl
      have hc1 : wr.cell? ⟨b, o + k * 2 + 1, none⟩ = some (.int .i64 p1) := hc 1 _ rfl
      clear hc
      obtain ⟨⟨r0, r1⟩, Z, hr⟩ := (hx.below hb).cells pt_len (by decide) (k := k - 1) (by omega)
      have hr0 : wr.cell? ⟨b, o + (k - 1) * 2, none⟩ = some (.int .i64 r0) := hr 0 _ rfl
      clear hr
      have hp0 := Lib.hid (show (xs[k]?).getD (0, 0) = (p0, p1) by rw [X.out]; rfl)
      have hz0 := Lib.hid (show (xs[k - 1]?).getD (0, 0) = (r0, r1) by rw [Z.out]; rfl)
      cases hp : M.ptOk (p0, p1)
      · have hno := Lib.hid (show M.curveOk xs = false by rw [M.curveOk, M.all_not (k := k) (by rw [hl.out]; exact hlt) (by rw [M.stepOk, hp0.out, hp, Bool.false_and]), Bool.false_and])
        have cP : ∀ m, Calls Tryd.prog 58 #[.pointer (some ⟨b, o + k * 2, none⟩)] (wr.drewN m) fun e w'' => e = .returned (.bool false) ∧ ∃ m', w'' = wr.drewN m' := fun m => quiet_left (by have h := spec_l25Point b (o + k * 2) (p0, p1) (wr.drewN m) hc0 hc1; rw [hp] at h; exact h)
        go_wp2
        go_quiet (exact cP _)
        go_wp2
        go_ret
        exact ⟨ret_bool (by rw [hno.out]), hb.trans (below_drewN (Below.refl _ _) _)⟩
      · by_cases hk0 : k = 0
        · have hyes := Lib.hid (show M.stepOk xs k = true by rw [M.stepOk, hp0.out, hp, M.after, hk0]; rfl)
          have hd : decide (0 < k) = false := by rw [hk0]; rfl
          have hd2 : ¬ 0 < k := by omega
          clear hk0
          have cP : ∀ m, Calls Tryd.prog 58 #[.pointer (some ⟨b, o + k * 2, none⟩)] (wr.drewN m) fun e w'' => e = .returned (.bool true) ∧ ∃ m', w'' = wr.drewN m' := fun m => quiet_left (by have h := spec_l25Point b (o + k * 2) (p0, p1) (wr.drewN m) hc0 hc1; rw [hp] at h; exact h)
          go_wp2
          go_quiet (exact cP _)
          go_wp2
          go_roundw
          case rel => exact ⟨k + 1, by go_num, by omega, Lib.hid (fun j hj => by rcases Nat.lt_succ_iff_lt_or_eq.1 hj with h | h; exact H.out j h; rw [h]; exact hyes.out), hb.trans (below_drewN (Below.refl _ _) _)⟩
          case measure => simp [intOf]; omega
        · have hkk : IntKind.i64.wrap ((k : Int) - 1) = ((k - 1 : Nat) : Int) := by rw [IntWalk.i64_in _ (by omega)]; omega
          have hk1n : ((k - 1 : Nat) : Int) < (n : Int) := by omega
          have hd : decide (0 < k) = true := decide_eq_true (by omega)
          by_cases hge : p0 ≤ r0
          · have hno := Lib.hid (show M.curveOk xs = false by rw [M.curveOk, M.all_not (k := k) (by rw [hl.out]; exact hlt) (by rw [M.stepOk, hp0.out, hp, M.after, hp0.out, hz0.out]; simp [hk0, hge]), Bool.false_and])
            have cP : ∀ m, Calls Tryd.prog 58 #[.pointer (some ⟨b, o + k * 2, none⟩)] (wr.drewN m) fun e w'' => e = .returned (.bool true) ∧ ∃ m', w'' = wr.drewN m' := fun m => quiet_left (by have h := spec_l25Point b (o + k * 2) (p0, p1) (wr.drewN m) hc0 hc1; rw [hp] at h; exact h)
            go_wp2
            go_quiet (exact cP _)
            go_wp2
            go_ret
            exact ⟨ret_bool (by rw [hno.out]), hb.trans (below_drewN (Below.refl _ _) _)⟩
          · have hyes := Lib.hid (show M.stepOk xs k = true by rw [M.stepOk, hp0.out, hp, M.after, hp0.out, hz0.out]; simp; omega)
            have cP : ∀ m, Calls Tryd.prog 58 #[.pointer (some ⟨b, o + k * 2, none⟩)] (wr.drewN m) fun e w'' => e = .returned (.bool true) ∧ ∃ m', w'' = wr.drewN m' := fun m => quiet_left (by have h := spec_l25Point b (o + k * 2) (p0, p1) (wr.drewN m) hc0 hc1; rw [hp] at h; exact h)
            go_wp2
            go_quiet (exact cP _)
            go_wp2
            go_roundw
            case rel => exact ⟨k + 1, by go_num, by omega, Lib.hid (fun j hj => by rcases Nat.lt_succ_iff_lt_or_eq.1 hj with h | h; exact H.out j h; rw [h]; exact hyes.out), hb.trans (below_drewN (Below.refl _ _) _)⟩
            case measure => simp [intOf]; omega
    · have hyes := Lib.hid (M.all_upto (n := xs.length) (f := M.stepOk xs) (fun j hj => H.out j (by rw [hl.out] at hj; omega)))
      have hres := Lib.hid (show M.inn (n : Int) 1 24 = M.curveOk xs by rw [M.curveOk, hyes.out, hl.out, Bool.true_and])
      go_wp2_with (go_at_call 59; refine (spec_l00In _ _ _ _).mono ?_; rintro e w' ⟨rfl, rfl⟩)
      go_ret
      exact ⟨ret_bool hres.out, hb⟩
end Go.Proofs.YtecdendjlgohjaaDoor
namespace Go.Proofs.YtecdendjlgohjaaDoor
open Go.RowKit Go.Sort
set_option maxHeartbeats 400000
set_option maxRecDepth 100000
theorem M.inn_iff {n a b : Int} : M.inn n a b = true ↔ a ≤ n ∧ n ≤ b := by simp [M.inn]
theorem M.curve_len {xs : List (Int × Int)} (h : M.curveOk xs = true) : 1 ≤ xs.length ∧ xs.length ≤ 24 := by
  rw [M.curveOk, Bool.and_eq_true, M.inn_iff] at h
  omega
theorem M.curve_step {xs : List (Int × Int)} (h : M.curveOk xs = true) {k : Nat} (hk : k < xs.length) : M.stepOk xs k = true := by
  rw [M.curveOk, Bool.and_eq_true, List.all_eq_true] at h
  exact h.1 k (List.mem_range.2 hk)
theorem M.curve_pt {xs : List (Int × Int)} (h : M.curveOk xs = true) {k : Nat} {p : Int × Int} (hk : xs[k]? = some p) : (0 ≤ p.1 ∧ p.1 ≤ 4000) ∧ -65536 ≤ p.2 ∧ p.2 ≤ 65536 := by
  have h1 := M.curve_step h (List.getElem?_eq_some_iff.1 hk).1
  rw [M.stepOk, Bool.and_eq_true, hk] at h1
  have h2 := h1.1
  rw [Option.getD_some, M.ptOk, Bool.and_eq_true, M.inn_iff, M.inn_iff] at h2
  exact h2
end Go.Proofs.YtecdendjlgohjaaDoor
namespace Go.Proofs.YtecdendjlgohjaaDoor
open Go.RowKit Go.Sort
set_option maxHeartbeats 1000000
set_option maxRecDepth 100000
theorem below_grow (w : World) (k : Nat) (os : Array Obj) : Below w.heap.size w (grow (w.drewN k) os) :=
  ⟨rfl, rfl, rfl, by simp [grow], fun j hj => by simp [grow, World.drewN, Array.getElem?_append_left hj]⟩
theorem impl_Decimal (n : Int) (h0 : -9223372036854775808 ≤ n) (h1 : n ≤ 9223372036854775807) (w : World) (hT : TAB w) :
    Calls Tryd.prog 35 #[.int .i64 n] w fun e w' => e = .returned (.string ⟨(Lib.itoa n).toArray⟩) ∧ Below w.heap.size w w' := by
  go_enter Tryd.func35, Tryd.ntmps35
  go_wp2_with (go_at_call 64; refine (Tryd.strconv_FormatInt_10 n h0 h1 _ hT.here).mono ?_; rintro e w1 ⟨rfl, kk, os, rfl⟩)
  go_ret
  exact ⟨rfl, below_grow _ _ _⟩
/-- The text of a curve; none if it is no curve. -/
def M.curveText (xs : List (Int × Int)) : List UInt8 := if M.curveOk xs = true then M.cvText xs else []
def M.strs (ls : List (List UInt8)) : List Value := ls.map fun l => .string ⟨l.toArray⟩
theorem ei_str : EI Tryd.prog 67 9 (.string ByteArray.empty) 1 16 := ⟨Tryd.underlying67, by kernel_rfl, rfl, by decide⟩
theorem M.pt_bounds {xs : List (Int × Int)} (h : M.curveOk xs = true) {k : Nat} {p : Int × Int} (hk : xs[k]? = some p) : (-9223372036854775808 ≤ p.1 ∧ p.1 ≤ 9223372036854775807) ∧ -9223372036854775808 ≤ p.2 ∧ p.2 ≤ 9223372036854775807 := by
  have := M.curve_pt h hk
  omega
theorem M.str_app (a b : List UInt8) : (⟨a.toArray⟩ : ByteArray) ++ ⟨b.toArray⟩ = ⟨(a ++ b).toArray⟩ := by
  apply ByteArray.ext
  simp
theorem M.strs_len (ls : List (List UInt8)) : (M.strs ls).length = ls.length := by simp [M.strs]
theorem M.strs_next {ls : List (List UInt8)} {k : Nat} {x : List UInt8} (h : ls[k]? = some x) : M.strs (ls.take k) ++ [.string ⟨x.toArray⟩] = M.strs (ls.take (k + 1)) := by
  obtain ⟨hk, rfl⟩ := List.getElem?_eq_some_iff.1 h
  rw [← List.take_append_getElem hk]
  simp only [M.strs, List.map_append, List.map_cons, List.map_nil]
theorem M.unstr (ls : List (List UInt8)) : (ls.map fun l => (⟨l.toArray⟩ : ByteArray)).map (fun s => s.data.toList) = ls := by
  rw [List.map_map]
  exact List.map_id'' (fun l => by simp) ls
theorem M.cvText_bound {xs : List (Int × Int)} (h : M.curveOk xs = true) : (M.cvText xs).length ≤ 1056 := by
  have h1 := M.curve_len h
  have := M.cvText_le xs fun p hp => by
    obtain ⟨k, hk, rfl⟩ := List.mem_iff_getElem.1 hp
    exact M.pt_bounds h (List.getElem?_eq_getElem hk)
  omega
/-- strings.Join at the call's own row of texts. -/
theorem join_own {B : Nat} {v : Value} {ls : List (List UInt8)} {w : World} (own : w.ownsRow B 9 1 v ls.length (M.strs ls)) (sep : List UInt8) (hpos : 0 < ls.length) (hN : ls.length ≤ 100000000000) (hlen : (Lib.join ls sep).length ≤ 140737488355328) :
    ∃ g cap, v = .slice (some ⟨g, 0, none⟩) ls.length cap ∧ Calls Tryd.prog 36 #[.slice (some ⟨g, 0, none⟩) ls.length cap, .string ⟨sep.toArray⟩] w fun e w' => e = .returned (.string ⟨(Lib.join ls sep).toArray⟩) ∧ Below w.heap.size w w' := by
  obtain ⟨g, cap, rfl, hB, hg⟩ := World.ownsRow.form own hpos
  obtain ⟨A, c, hv, hc1, -, -⟩ := own_shape own
  simp only [Value.slice.injEq] at hv
  obtain ⟨-, -, rfl⟩ := hv
  refine ⟨g, cap, rfl, ?_⟩
  have h := Tryd.strings_Join g 0 cap (ls.map fun l => (⟨l.toArray⟩ : ByteArray)) ⟨sep.toArray⟩ w (fun j x hx => ?_) hg (by simp; omega) (by simpa using hc1) (by rw [M.unstr]; simpa using hlen)
  · rw [M.unstr, List.length_map] at h
    simpa using h
  · rw [Nat.zero_add]
    have hadd : (⟨g, 0, none⟩ : Addr).add j = ⟨g, j, none⟩ := by unfold Addr.add; split <;> simp_all
    rw [← hadd]
    refine World.ownsRow.cells own (g := g) rfl j _ ?_
    rw [List.getElem?_map] at hx
    obtain ⟨l, hl, rfl⟩ := Option.map_eq_some_iff.1 hx
    simp [M.strs, hl]
theorem impl_CurveText (A : Option Addr) (n c : Nat) (xs : List (Int × Int)) (w : World) (hx : RA pt 2 w w.heap.size A n xs) (hn : n ≤ 1000000000) (hT : TAB w) :
    Calls Tryd.prog 10 #[.agg #[.slice A n c]] w fun e w' => e = .returned (.string ⟨(M.curveText xs).toArray⟩) ∧ Below w.heap.size w w' := by
  have hl := Lib.hid hx.len
  have hb0 : Below w.heap.size w (w.alloc (.cells #[.slice A n c] 29)) := (Below.refl _ _).alloc (Nat.le_refl _) _
  have HT := Lib.hid hT
  cases hok : M.curveOk xs
  · have HK := Lib.hid hok
    go_enter Tryd.func10, Tryd.ntmps10
    go_wp2_with (go_at_call 34; refine (impl_isCurve A n c xs _ (hx.later hb0) hn).mono ?_; rw [hok]; rintro e w1 ⟨rfl, b1⟩)
    go_ret
    exact ⟨by rw [M.curveText, HK.out]; rfl, bel_trans hb0 b1⟩
  · have HK := Lib.hid hok
    have hq : (w.alloc (.cells #[.slice A n c] 29)).cell? ⟨w.heap.size, 0, none⟩ = some (.slice A n c) := by simp [go_sem]
    go_enter Tryd.func10, Tryd.ntmps10
    go_wp2_with (go_at_call 34; refine (impl_isCurve A n c xs _ (hx.later hb0) hn).mono ?_; rw [hok]; rintro e w1 ⟨rfl, b1⟩; have q1 : w1.cell? ⟨w.heap.size, 0, none⟩ = some (.slice A n c) := (by rw [b1.cell (by simp)]; exact hq); have s1 : w.heap.size + 1 ≤ w1.heap.size := (by have := b1.size; simpa using this); have q2 : (w1.alloc (.cells #[] 9)).cell? ⟨w.heap.size, 0, none⟩ = some (.slice A n c) := (by rw [World.cell?_alloc_lt _ _ _ (by simp; omega)]; exact q1))
    have B1 := bel_trans hb0 b1
    have HX := Lib.hid hx
    clear hx hT hok b1 hq
    go_loopw [3, 13] (fun v i wr => ∃ k : Nat, i = .int .i64 k ∧ k ≤ n ∧ wr.ownsRow w.heap.size 9 1 v k (M.strs ((xs.map M.ptText).take k)) ∧ Below w.heap.size w wr) (fun _ i _ => n - (intOf i).toNat)
    case atStart => exact ⟨0, rfl, by omega, own_base (World.ownsRow_made _ _ _ (Nat.le_refl _) (by simp [maxLen]) rfl) (by omega), B1.alloc (by omega) _⟩
    case round =>
      obtain ⟨k, rfl, hk, own, hb⟩ := hrel
      have hn24 := M.curve_len HK.out
      rw [hl.out] at hn24
      by_cases hlt : k < n
      · obtain ⟨b, o, ⟨p0, p1⟩, rfl, hab, X, hc⟩ := ((HX.out).below hb).at pt_len (by decide) hlt
        have hc0 : wr.cell? ⟨b, o + k * 2, none⟩ = some (.int .i64 p0) := hc 0 _ rfl
        have hc1 : wr.cell? ⟨b, o + k * 2 + 1, none⟩ = some (.int .i64 p1) := hc 1 _ rfl
        have hpb := M.pt_bounds HK.out X.out
        obtain ⟨⟨l0, l1⟩, l2, l3⟩ := hpb
        have z0 := M.itoa_le p0 l0 l1
        have z1 := M.itoa_le p1 l2 l3
        have g0 : ¬ 9223372036854775807 < (Lib.itoa p0).length + 1 := by omega
        have g1 : ¬ 9223372036854775807 < (Lib.itoa p0).length + 1 + (Lib.itoa p1).length := by omega
        clear z0 z1
        have hb2 := bel_trans hb ((Below.refl _ wr).alloc (Nat.le_refl _) (.cells #[.int .i64 p0, .int .i64 p1] 52))
        have own2 := World.ownsRow.alloc own (.cells #[.int .i64 p0, .int .i64 p1] 52)
        have q0 : (wr.alloc (.cells #[.int .i64 p0, .int .i64 p1] 52)).cell? ⟨wr.heap.size, 0, none⟩ = some (.int .i64 p0) := by rw [cell_of_row _ wr.heap.size 0 _ 52 (0, 0) (heap_alloc_new wr _)]; rfl
        have q1 : (wr.alloc (.cells #[.int .i64 p0, .int .i64 p1] 52)).cell? ⟨wr.heap.size, 1, none⟩ = some (.int .i64 p1) := by rw [cell_of_row _ wr.heap.size 1 _ 52 (0, 0) (heap_alloc_new wr _)]; rfl
        have sz : wr.heap.size < (wr.alloc (.cells #[.int .i64 p0, .int .i64 p1] 52)).heap.size := by simp
        go_wp2_with fail
        generalize hw4 : wr.alloc (.cells #[.int .i64 p0, .int .i64 p1] 52) = w4 at q0 q1 sz own2 hb2 ⊢
        have k0' := cell_regrown q0
        have k1' := cell_regrown q1
        clear hw4 hc hc0 hc1
        (refine wp_region_fresh2 [0, 1, 5] [2, 6] 5 (.one 3 (.first 4 (.one 7 (.first 8 (.one 9 .rest))))) [10] [10, 11] (by kernel_rfl) (by kernel_rfl) ?_; simp only [pickOps]; simp only [List.filterMap, List.getElem?_cons_succ, List.getElem?_cons_zero]; (repeat (go_big_quiet_step (fail))); refine wpQuiet_nil ?_; (repeat (go_big_quiet_step (fail))); refine wpQuiet_nil ?_)
        refine seqT_one2 rfl ?_
        have D1 : Below w4.heap.size w4 w4.drew := below_drewN (Below.refl _ _) 1
        go_wp2_with fail
        refine (impl_Decimal p0 l0 l1 _ (HT.out.on (bel_trans hb2 D1))).mono ?_
        rintro e u1 ⟨rfl, e1⟩
        have B3 := bel_trans D1 e1
        go_wp2_with fail
        refine ⟨regrown_of_below B3, ?_⟩
        (refine seqT_first2 rfl ?_; (repeat (go_big_quiet_step (fail))); refine wpQuiet_nil ?_)
        refine seqT_one2 rfl ?_
        go_wp2_with fail
        refine (impl_Decimal p1 l2 l3 _ (HT.out.on (bel_trans hb2 B3))).mono ?_
        rintro e u2 ⟨rfl, e2⟩
        have B4 := bel_trans B3 e2
        have own4 := own_below own2 B4
        have s4 := (bel_trans hb2 B4).size
        go_wp2_with fail
        refine ⟨regrown_of_below B4, ?_⟩
        (refine seqT_first2 rfl ?_; (repeat (go_big_quiet_step (fail))); refine wpQuiet_nil ?_)
        refine seqT_one2 rfl ?_
        go_wp2_with fail
        refine ⟨regrown_of_below (B4.alloc (by have := B4.size; omega) _), ?_⟩
        refine seqT_rest2 ?_
        go_wp2_with (at_builtin; refine wpList_push1 ei_str rfl _ _ rfl own4 rfl rfl rfl (by unfold maxLen; omega) (by omega) s4 ?_; intro v1 u3 own5 gr5 bel5)
        go_roundw
        case rel =>
          refine ⟨k + 1, by go_num, by omega, ?_, (bel_trans hb2 B4).trans bel5⟩
          have hX : (xs.map M.ptText)[k]? = some (M.ptText (p0, p1)) := by rw [List.getElem?_map, X.out]; rfl
          rw [← M.strs_next hX]
          have e : (⟨(Lib.itoa p0).toArray⟩ : ByteArray) ++ ⟨#[61]⟩ ++ ⟨(Lib.itoa p1).toArray⟩ = ⟨(M.ptText (p0, p1)).toArray⟩ := by
            rw [show (⟨#[61]⟩ : ByteArray) = ⟨([61] : List UInt8).toArray⟩ from rfl, M.str_app, M.str_app]
            simp [M.ptText]
          rw [e] at own5
          exact own5
        case measure => simp [intOf]; omega
      · obtain rfl : k = n := by omega
        have hlen : (xs.map M.ptText).length = k := by rw [List.length_map, hl.out]
        rw [List.take_of_length_le (by omega)] at own
        rw [← hlen] at own
        have hcb := M.cvText_bound HK.out
        obtain ⟨g, cap, rfl, hJ⟩ := join_own own [32] (by omega) (by omega) (by show (M.cvText xs).length ≤ _; omega)
        rw [hlen] at hJ ⊢
        go_wp2_with (go_at_call 36; refine hJ.mono ?_; rintro e u1 ⟨rfl, e1⟩)
        go_ret
        exact ⟨by rw [M.curveText, if_pos HK.out]; rfl, bel_trans hb e1⟩
end Go.Proofs.YtecdendjlgohjaaDoor
namespace Go.Proofs
open Go.Shelf
set_option maxRecDepth 100000
def Tryd.laysC174_ren : Go.Shelf.Ren := ⟨fun | 174 => 79 | 247 => 98 | 245 => 99 | 287 => 117 | 279 => 118 | 280 => 119 | 281 => 120 | 282 => 121 | 321 => 133 | 322 => 134 | 316 => 135 | 171 => 137 | 205 => 136 | 243 => 141 | 246 => 86 | 283 => 101 | 284 => 102 | 285 => 103 | 286 => 104 | 129 => 124 | 317 => 123 | 318 => 125 | 319 => 126 | 320 => 127 | 337 => 138 | 338 => 139 | n => n, fun | 9 => 9 | 3 => 3 | 2 => 2 | 75 => 110 | 85 => 128 | 4 => 4 | 167 => 162 | 5 => 5 | 53 => 131 | 175 => 163 | 46 => 146 | 168 => 165 | 37 => 48 | 0 => 0 | 210 => 183 | 21 => 21 | 127 => 138 | 145 => 188 | 143 => 186 | 171 => 148 | 173 => 151 | 212 => 170 | 51 => 171 | 20 => 20 | 213 => 172 | 232 => 189 | 233 => 190 | 80 => 113 | n => n, fun | 15 => 2 | 16 => 3 | 17 => 1 | 18 => 4 | 19 => 5 | n => n⟩
theorem Tryd.laysC174 : Go.Proofs.LaysC.n174 Tryd.prog Tryd.laysC174_ren := {
  mixed := by kernel_rfl
  f129 := Tryd.func124.trans (congrArg some (by kernel_rfl))
  f171 := Tryd.func137.trans (congrArg some (by kernel_rfl))
  f174 := Tryd.func79.trans (congrArg some (by kernel_rfl))
  f205 := Tryd.func136.trans (congrArg some (by kernel_rfl))
  f243 := Tryd.func141.trans (congrArg some (by kernel_rfl))
  f245 := Tryd.func99.trans (congrArg some (by kernel_rfl))
  f246 := Tryd.func86.trans (congrArg some (by kernel_rfl))
  f247 := Tryd.func98.trans (congrArg some (by kernel_rfl))
  f279 := Tryd.func118.trans (congrArg some (by kernel_rfl))
  f280 := Tryd.func119.trans (congrArg some (by kernel_rfl))
  f281 := Tryd.func120.trans (congrArg some (by kernel_rfl))
  f282 := Tryd.func121.trans (congrArg some (by kernel_rfl))
  f283 := Tryd.func101.trans (congrArg some (by kernel_rfl))
  f284 := Tryd.func102.trans (congrArg some (by kernel_rfl))
  f285 := Tryd.func103.trans (congrArg some (by kernel_rfl))
  f286 := Tryd.func104.trans (congrArg some (by kernel_rfl))
  f287 := Tryd.func117.trans (congrArg some (by kernel_rfl))
  f316 := Tryd.func135.trans (congrArg some (by kernel_rfl))
  f317 := Tryd.func123.trans (congrArg some (by kernel_rfl))
  f318 := Tryd.func125.trans (congrArg some (by kernel_rfl))
  f319 := Tryd.func126.trans (congrArg some (by kernel_rfl))
  f320 := Tryd.func127.trans (congrArg some (by kernel_rfl))
  f321 := Tryd.func133.trans (congrArg some (by kernel_rfl))
  f322 := Tryd.func134.trans (congrArg some (by kernel_rfl))
  f337 := Tryd.func138.trans (congrArg some (by kernel_rfl))
  f338 := Tryd.func139.trans (congrArg some (by kernel_rfl))
  t0 := Tryd.underlying0
  a0 := Tryd.isAgg0
  z0 := Tryd.sizeOf0
  v0 := Tryd.zeroValue0
  t2 := Tryd.underlying2
  a2 := Tryd.isAgg2
  z2 := Tryd.sizeOf2
  v2 := Tryd.zeroValue2
  t3 := Tryd.underlying3
  a3 := Tryd.isAgg3
  z3 := Tryd.sizeOf3
  v3 := Tryd.zeroValue3
  t4 := Tryd.underlying4
  a4 := Tryd.isAgg4
  z4 := Tryd.sizeOf4
  v4 := Tryd.zeroValue4
  t5 := Tryd.underlying5
  a5 := Tryd.isAgg5
  z5 := Tryd.sizeOf5
  v5 := Tryd.zeroValue5
  t9 := Tryd.underlying9
  a9 := Tryd.isAgg9
  z9 := Tryd.sizeOf9
  v9 := Tryd.zeroValue9
  t20 := Tryd.underlying20
  a20 := Tryd.isAgg20
  z20 := Tryd.sizeOf20
  v20 := Tryd.zeroValue20
  t21 := Tryd.underlying21
  a21 := Tryd.isAgg21
  z21 := Tryd.sizeOf21
  v21 := Tryd.zeroValue21
  t37 := Tryd.underlying48
  a37 := Tryd.isAgg48
  z37 := Tryd.sizeOf48
  v37 := Tryd.zeroValue48
  t46 := Tryd.underlying146
  a46 := Tryd.isAgg146
  z46 := Tryd.sizeOf146
  v46 := Tryd.zeroValue146
  t51 := Tryd.underlying171
  a51 := Tryd.isAgg171
  z51 := Tryd.sizeOf171
  v51 := Tryd.zeroValue171
  t53 := Tryd.underlying131
  a53 := Tryd.isAgg131
  z53 := Tryd.sizeOf131
  v53 := Tryd.zeroValue131
  t75 := Tryd.underlying110
  a75 := Tryd.isAgg110
  z75 := Tryd.sizeOf110
  v75 := Tryd.zeroValue110
  t85 := Tryd.underlying128
  a85 := Tryd.isAgg128
  z85 := Tryd.sizeOf128
  v85 := Tryd.zeroValue128
  t127 := Tryd.underlying138
  a127 := Tryd.isAgg138
  z127 := Tryd.sizeOf138
  v127 := Tryd.zeroValue138
  t143 := Tryd.underlying186
  a143 := Tryd.isAgg186
  z143 := Tryd.sizeOf186
  v143 := Tryd.zeroValue186
  t145 := Tryd.underlying188
  a145 := Tryd.isAgg188
  z145 := Tryd.sizeOf188
  v145 := Tryd.zeroValue188
  t167 := Tryd.underlying162
  a167 := Tryd.isAgg162
  z167 := Tryd.sizeOf162
  v167 := Tryd.zeroValue162
  t168 := Tryd.underlying165
  a168 := Tryd.isAgg165
  z168 := Tryd.sizeOf165
  v168 := Tryd.zeroValue165
  t171 := Tryd.underlying148
  a171 := Tryd.isAgg148
  z171 := Tryd.sizeOf148
  v171 := Tryd.zeroValue148
  t173 := Tryd.underlying151
  a173 := Tryd.isAgg151
  z173 := Tryd.sizeOf151
  v173 := Tryd.zeroValue151
  t175 := Tryd.underlying163
  a175 := Tryd.isAgg163
  z175 := Tryd.sizeOf163
  v175 := Tryd.zeroValue163
  t210 := Tryd.underlying183
  a210 := Tryd.isAgg183
  z210 := Tryd.sizeOf183
  v210 := Tryd.zeroValue183
  t212 := Tryd.underlying170
  a212 := Tryd.isAgg170
  z212 := Tryd.sizeOf170
  v212 := Tryd.zeroValue170
  t213 := Tryd.underlying172
  a213 := Tryd.isAgg172
  z213 := Tryd.sizeOf172
  t232 := Tryd.underlying189
  a232 := Tryd.isAgg189
  z232 := Tryd.sizeOf189
  v232 := Tryd.zeroValue189
  t233 := Tryd.underlying190
  a233 := Tryd.isAgg190
  z233 := Tryd.sizeOf190
  v233 := Tryd.zeroValue190
  g15 := by kernel_rfl
  g16 := by kernel_rfl
  g17 := by kernel_rfl
  g18 := by kernel_rfl
  g19 := by kernel_rfl
  t80 := Tryd.underlying113
  a80 := Tryd.isAgg113
  z80 := Tryd.sizeOf113
  v80 := Tryd.zeroValue113
  i0 := by kernel_rfl
  i2 := by kernel_rfl
  i3 := by kernel_rfl
  i4 := by kernel_rfl
  i5 := by kernel_rfl
  i9 := by kernel_rfl
  i20 := by kernel_rfl
  i21 := by kernel_rfl
  i37 := by kernel_rfl
  i46 := by kernel_rfl
  i51 := by kernel_rfl
  i53 := by kernel_rfl
  i75 := by kernel_rfl
  i80 := by kernel_rfl
  i85 := by kernel_rfl
  i127 := by kernel_rfl
  i143 := by kernel_rfl
  i145 := by kernel_rfl
  i167 := by kernel_rfl
  i168 := by kernel_rfl
  i171 := by kernel_rfl
  i173 := by kernel_rfl
  i175 := by kernel_rfl
  i210 := by kernel_rfl
  i212 := by kernel_rfl
  i232 := by kernel_rfl
  i233 := by kernel_rfl
  m15 := by kernel_rfl
  m16 := by kernel_rfl
  m17 := by kernel_rfl
  m18 := by kernel_rfl
  m19 := by kernel_rfl
  c0 := by kernel_rfl
  c2 := by kernel_rfl
  c3 := by kernel_rfl
  c4 := by kernel_rfl
  c5 := by kernel_rfl
  c9 := by kernel_rfl
  c20 := by kernel_rfl
  c21 := by kernel_rfl
  c37 := by kernel_rfl
  c46 := by kernel_rfl
  c51 := by kernel_rfl
  c53 := by kernel_rfl
  c75 := by kernel_rfl
  c80 := by kernel_rfl
  c85 := by kernel_rfl
  c127 := by kernel_rfl
  c143 := by kernel_rfl
  c145 := by kernel_rfl
  c167 := by kernel_rfl
  c168 := by kernel_rfl
  c171 := by kernel_rfl
  c173 := by kernel_rfl
  c175 := by kernel_rfl
  c210 := by kernel_rfl
  c212 := by kernel_rfl
  c213 := by kernel_rfl
  c232 := by kernel_rfl
  c233 := by kernel_rfl }
open Go.RowKit in
theorem Tryd.strconv_ParseInt_10_at64_ok (s : ByteArray) (hmax : s.size ≤ 9223372036854775806) (v : Int) (h : Lib.parseIntB 64 s.data.toList = .ok v) (w : World) :
    Calls Tryd.prog 79 #[.string s, .int .i64 10, .int .i64 64] w fun e w' => e = .returned (.tuple #[.int .i64 v, .nilIface]) ∧ (w' = w ∨ ∃ t, w' = Lib.bytesWorld w 5 t) := Any.strconv_ParseInt_10_at64_ok Tryd.laysC174 s hmax v h w
open Go.RowKit in
theorem Tryd.strconv_ParseInt_10_at64_syntax (s : ByteArray) (hlim : s.size ≤ 281474976710656) (h : Lib.parseIntB 64 s.data.toList = Lib.parseIntB 64 []) (ev : Value) (w : World) (hv : w.cell? ⟨2, 0, none⟩ = some ev) (hev : ev = .nilIface ∨ ∃ te pe, ev = .iface te pe) :
    Calls Tryd.prog 79 #[.string s, .int .i64 10, .int .i64 64] w fun e w' => ∃ N, e = .returned (.tuple #[.int .i64 (0), .iface 165 (.pointer (some ⟨N, 0, none⟩))]) ∧ w.heap.size ≤ N ∧ w'.heap[N]? = some (.cells #[.string ⟨#[80, 97, 114, 115, 101, 73, 110, 116]⟩, .string s, ev] 183 (0, 0)) ∧ Below w.heap.size w w' := Any.strconv_ParseInt_10_at64_syntax Tryd.laysC174 s hlim (h.trans rfl) ev w hv hev
open Go.RowKit in
theorem Tryd.strconv_ParseInt_10_at64_range (s : ByteArray) (hlim : s.size ≤ 281474976710656) (h : Lib.parseIntB 64 s.data.toList = .range) (ev : Value) (w : World) (hv : w.cell? ⟨3, 0, none⟩ = some ev) (hev : ev = .nilIface ∨ ∃ te pe, ev = .iface te pe) :
    Calls Tryd.prog 79 #[.string s, .int .i64 10, .int .i64 64] w fun e w' => ∃ N, e = .returned (.tuple #[.int .i64 (Lib.intSat 64 s.data.toList), .iface 165 (.pointer (some ⟨N, 0, none⟩))]) ∧ w.heap.size ≤ N ∧ w'.heap[N]? = some (.cells #[.string ⟨#[80, 97, 114, 115, 101, 73, 110, 116]⟩, .string s, ev] 183 (0, 0)) ∧ Below w.heap.size w w' := Any.strconv_ParseInt_10_at64_range Tryd.laysC174 s hlim h ev w hv hev
def Tryd.lays145_ren : Go.Shelf.Ren := ⟨fun | 145 => 47 | 220 => 78 | 219 => 97 | 217 => 113 | 225 => 114 | 224 => 115 | 267 => 116 | 266 => 131 | 314 => 132 | n => n, fun | 9 => 9 | 4 => 4 | 59 => 87 | 3 => 3 | 5 => 5 | 46 => 146 | 146 => 178 | 51 => 171 | n => n, fun | 1 => 0 | n => n⟩
theorem Tryd.lays145 : Go.Proofs.Lays.n145 Tryd.prog Tryd.lays145_ren := {
  mixed := by kernel_rfl
  f145 := Tryd.func47.trans (congrArg some (by kernel_rfl))
  f217 := Tryd.func113.trans (congrArg some (by kernel_rfl))
  f219 := Tryd.func97.trans (congrArg some (by kernel_rfl))
  f220 := Tryd.func78.trans (congrArg some (by kernel_rfl))
  f224 := Tryd.func115.trans (congrArg some (by kernel_rfl))
  f225 := Tryd.func114.trans (congrArg some (by kernel_rfl))
  f266 := Tryd.func131.trans (congrArg some (by kernel_rfl))
  f267 := Tryd.func116.trans (congrArg some (by kernel_rfl))
  f314 := Tryd.func132.trans (congrArg some (by kernel_rfl))
  t3 := Tryd.underlying3
  a3 := Tryd.isAgg3
  z3 := Tryd.sizeOf3
  v3 := Tryd.zeroValue3
  t4 := Tryd.underlying4
  a4 := Tryd.isAgg4
  z4 := Tryd.sizeOf4
  v4 := Tryd.zeroValue4
  t5 := Tryd.underlying5
  a5 := Tryd.isAgg5
  z5 := Tryd.sizeOf5
  v5 := Tryd.zeroValue5
  t9 := Tryd.underlying9
  a9 := Tryd.isAgg9
  z9 := Tryd.sizeOf9
  v9 := Tryd.zeroValue9
  t46 := Tryd.underlying146
  a46 := Tryd.isAgg146
  z46 := Tryd.sizeOf146
  v46 := Tryd.zeroValue146
  t51 := Tryd.underlying171
  a51 := Tryd.isAgg171
  z51 := Tryd.sizeOf171
  v51 := Tryd.zeroValue171
  t59 := Tryd.underlying87
  a59 := Tryd.isAgg87
  z59 := Tryd.sizeOf87
  v59 := Tryd.zeroValue87
  t146 := Tryd.underlying178
  a146 := Tryd.isAgg178
  z146 := Tryd.sizeOf178
  v146 := Tryd.zeroValue178
  g1 := by kernel_rfl }
open Go.RowKit Go.Lib in
theorem Tryd.strings_Cut (s sep : ByteArray) (m : Int) (w : World) (hs : s.size < 4294967281) (hm : w.cell? ⟨0, 0, none⟩ = some (.int .i64 m)) :
    Calls Tryd.prog 47 #[.string s, .string sep] w fun e w' => e = .returned (.tuple #[.string ⟨(Lib.cut s.data.toList sep.data.toList).1.toArray⟩, .string ⟨(Lib.cut s.data.toList sep.data.toList).2.1.toArray⟩, .bool (Lib.cut s.data.toList sep.data.toList).2.2]) ∧ ∃ n, w' = w.drewN n := Any.strings_Cut Tryd.lays145 s sep m w hs hm
def Tryd.lays101_ren : Go.Shelf.Ren := ⟨fun | 101 => 80 | 208 => 100 | 206 => 122 | n => n, fun | 9 => 9 | 4 => 4 | 3 => 3 | n => n, fun | n => n⟩
theorem Tryd.lays101 : Go.Proofs.Lays.n101 Tryd.prog Tryd.lays101_ren := {
  mixed := by kernel_rfl
  f101 := Tryd.func80.trans (congrArg some (by kernel_rfl))
  f206 := Tryd.func122.trans (congrArg some (by kernel_rfl))
  f208 := Tryd.func100.trans (congrArg some (by kernel_rfl))
  t3 := Tryd.underlying3
  a3 := Tryd.isAgg3
  z3 := Tryd.sizeOf3
  v3 := Tryd.zeroValue3
  t4 := Tryd.underlying4
  a4 := Tryd.isAgg4
  z4 := Tryd.sizeOf4
  v4 := Tryd.zeroValue4
  t9 := Tryd.underlying9
  a9 := Tryd.isAgg9
  z9 := Tryd.sizeOf9
  v9 := Tryd.zeroValue9 }
open Go.RowKit Go.Lib in
theorem Tryd.strings_TrimPrefix (s p : ByteArray) (w : World) :
    Calls Tryd.prog 80 #[.string s, .string p] w fun e w' => e = .returned (.string ⟨(Lib.trimPrefix s.data.toList p.data.toList).toArray⟩) ∧ w' = w := Any.strings_TrimPrefix Tryd.lays101 s p w
def Tryd.lays146_ren : Go.Shelf.Ren := ⟨fun | 146 => 77 | 221 => 96 | 268 => 110 | 138 => 111 | 143 => 112 | 195 => 128 | 197 => 129 | 218 => 130 | 219 => 97 | 260 => 140 | 217 => 113 | 225 => 114 | 224 => 115 | 267 => 116 | 266 => 131 | 314 => 132 | n => n, fun | 9 => 9 | 31 => 67 | 3 => 3 | 4 => 4 | 0 => 0 | 105 => 176 | 21 => 21 | 5 => 5 | 46 => 146 | 119 => 191 | 139 => 194 | 138 => 193 | 146 => 178 | 51 => 171 | n => n, fun | 1 => 0 | 3 => 6 | 4 => 7 | n => n⟩
theorem Tryd.lays146 : Go.Proofs.Lays.n146 Tryd.prog Tryd.lays146_ren := {
  mixed := by kernel_rfl
  f138 := Tryd.func111.trans (congrArg some (by kernel_rfl))
  f143 := Tryd.func112.trans (congrArg some (by kernel_rfl))
  f146 := Tryd.func77.trans (congrArg some (by kernel_rfl))
  f195 := Tryd.func128.trans (congrArg some (by kernel_rfl))
  f197 := Tryd.func129.trans (congrArg some (by kernel_rfl))
  f217 := Tryd.func113.trans (congrArg some (by kernel_rfl))
  f218 := Tryd.func130.trans (congrArg some (by kernel_rfl))
  f219 := Tryd.func97.trans (congrArg some (by kernel_rfl))
  f221 := Tryd.func96.trans (congrArg some (by kernel_rfl))
  f224 := Tryd.func115.trans (congrArg some (by kernel_rfl))
  f225 := Tryd.func114.trans (congrArg some (by kernel_rfl))
  f260 := Tryd.func140.trans (congrArg some (by kernel_rfl))
  f266 := Tryd.func131.trans (congrArg some (by kernel_rfl))
  f267 := Tryd.func116.trans (congrArg some (by kernel_rfl))
  f268 := Tryd.func110.trans (congrArg some (by kernel_rfl))
  f314 := Tryd.func132.trans (congrArg some (by kernel_rfl))
  t0 := Tryd.underlying0
  a0 := Tryd.isAgg0
  z0 := Tryd.sizeOf0
  v0 := Tryd.zeroValue0
  t3 := Tryd.underlying3
  a3 := Tryd.isAgg3
  z3 := Tryd.sizeOf3
  v3 := Tryd.zeroValue3
  t4 := Tryd.underlying4
  a4 := Tryd.isAgg4
  z4 := Tryd.sizeOf4
  v4 := Tryd.zeroValue4
  t5 := Tryd.underlying5
  a5 := Tryd.isAgg5
  z5 := Tryd.sizeOf5
  v5 := Tryd.zeroValue5
  t9 := Tryd.underlying9
  a9 := Tryd.isAgg9
  z9 := Tryd.sizeOf9
  v9 := Tryd.zeroValue9
  t21 := Tryd.underlying21
  a21 := Tryd.isAgg21
  z21 := Tryd.sizeOf21
  v21 := Tryd.zeroValue21
  t31 := Tryd.underlying67
  a31 := Tryd.isAgg67
  z31 := Tryd.sizeOf67
  v31 := Tryd.zeroValue67
  t46 := Tryd.underlying146
  a46 := Tryd.isAgg146
  z46 := Tryd.sizeOf146
  v46 := Tryd.zeroValue146
  t51 := Tryd.underlying171
  a51 := Tryd.isAgg171
  z51 := Tryd.sizeOf171
  v51 := Tryd.zeroValue171
  t105 := Tryd.underlying176
  a105 := Tryd.isAgg176
  z105 := Tryd.sizeOf176
  v105 := Tryd.zeroValue176
  t119 := Tryd.underlying191
  a119 := Tryd.isAgg191
  z119 := Tryd.sizeOf191
  t138 := Tryd.underlying193
  a138 := Tryd.isAgg193
  z138 := Tryd.sizeOf193
  v138 := Tryd.zeroValue193
  t139 := Tryd.underlying194
  a139 := Tryd.isAgg194
  z139 := Tryd.sizeOf194
  v139 := Tryd.zeroValue194
  t146 := Tryd.underlying178
  a146 := Tryd.isAgg178
  z146 := Tryd.sizeOf178
  v146 := Tryd.zeroValue178
  g1 := by kernel_rfl
  g3 := by kernel_rfl
  g4 := by kernel_rfl }
open Go.RowKit Go.Lib in
theorem Tryd.strings_Split (s sep : ByteArray) (m : Int) (w : World) (hs : s.size < 4294967281) (hm : w.cell? ⟨0, 0, none⟩ = some (.int .i64 m)) (h1 : 1 ≤ sep.size) :
    Calls Tryd.prog 77 #[.string s, .string sep] w fun e w' =>
      e = .returned (.slice (some ⟨w.heap.size, 0, none⟩) (Lib.countB s sep + 1) (Lib.countB s sep + 1)) ∧ w' = w.alloc (.cells ((Lib.splitB sep 0 (Lib.countB s sep) s).map Value.string).toArray 9) := Any.strings_Split Tryd.lays146 (by kernel_rfl) s sep m w hs hm h1
end Go.Proofs
namespace Go.Proofs.YtecdendjlgohjaaDoor
open Go.RowKit Go.Sort
set_option maxHeartbeats 1000000
set_option maxRecDepth 100000
/-- What the reading functions ask of the world: the table of powers of ten; some bound of the byte searches; the two errors of strconv. -/
def LAD (w : World) : Prop := TAB w ∧ (∃ m, w.cell? ⟨0, 0, none⟩ = some (.int .i64 m)) ∧ (∃ te pe, w.cell? ⟨2, 0, none⟩ = some (.iface te pe)) ∧ ∃ te pe, w.cell? ⟨3, 0, none⟩ = some (.iface te pe)
theorem LAD.on {w u : World} (h : LAD w) (b : Below w.heap.size w u) : LAD u := by
  obtain ⟨hT, ⟨m, hm⟩, ⟨te, pe, hs⟩, te', pe', hr⟩ := h
  refine ⟨hT.on b, ⟨m, ?_⟩, ⟨te, pe, ?_⟩, te', pe', ?_⟩
  · rw [b.cell (World.block_lt_of_cell? _ _ hm)]; exact hm
  · rw [b.cell (World.block_lt_of_cell? _ _ hs)]; exact hs
  · rw [b.cell (World.block_lt_of_cell? _ _ hr)]; exact hr
theorem M.bs_mk' (s : ByteArray) : (⟨s.data.toList.toArray⟩ : ByteArray) = s := by
  apply ByteArray.ext
  simp
/-- The number that a text spells. -/
def M.numB (s : ByteArray) : Option Int := M.num s.data.toList
theorem impl_ReadDecimal (s : ByteArray) (hs : s.size ≤ 1000000000) (w : World) (hL : LAD w) :
    Calls Tryd.prog 48 #[.string s] w fun e w' => e = .returned (.tuple #[.int .i64 ((M.numB s).getD 0), .bool (M.numB s).isSome]) ∧ Below w.heap.size w w' := by
  have hL' := hL
  obtain ⟨hT, -, ⟨te, pe, hsy⟩, te', pe', hrg⟩ := hL'
  have HL := Lib.hid hL
  have hnum := M.numI_eq s.data.toList
  unfold M.numI at hnum
  cases hp : Lib.parseIntB 64 s.data.toList
  case range =>
    rw [hp] at hnum
    have HN := Lib.hid (show M.numB s = none from hnum.symm)
    clear hnum hL hT hsy
    go_enter Tryd.func48, Tryd.ntmps48
    go_wp2_with (go_at_call 79; refine (Tryd.strconv_ParseInt_10_at64_range s (by omega) hp _ w hrg (Or.inr ⟨_, _, rfl⟩)).mono ?_; rintro e w1 ⟨N, rfl, -, -, b1⟩)
    go_ret2
    exact ⟨by rw [HN.out]; rfl, b1⟩
  case ok v =>
    rw [hp] at hnum
    have hb := Lib.parseIntB_bounds hp
    have v0 : -9223372036854775808 ≤ v := by have := hb.1; simp at this; omega
    have v1 : v ≤ 9223372036854775807 := by have := hb.2; simp at this; exact Int.lt_add_one_iff.1 this
    have HNM := Lib.hid (show M.numB s = if Lib.itoa v = s.data.toList ∧ (Lib.trimPrefix s.data.toList [45]).length ≤ 18 then some v else none from hnum.symm)
    clear hnum hL hsy hrg hb
    by_cases he : Lib.itoa v = s.data.toList
    · have HE := Lib.hid he
      have e1 : (Lib.itoa v == s.toList) = true := by rw [ByteArray.toList_eq, HE.out]; exact beq_self_eq_true _
      clear he
      by_cases ht : (Lib.trimPrefix s.data.toList [45]).length ≤ 18
      · have HT := Lib.hid ht
        have e2 : ¬ (18 : Int) < ((Lib.trimPrefix s.data.toList [45]).length : Int) := by omega
        go_enter Tryd.func48, Tryd.ntmps48
        go_wp2_with (first | (go_at_call 79; refine (Tryd.strconv_ParseInt_10_at64_ok s (by omega) v hp w).mono ?_; rintro e w1 ⟨rfl, hw⟩; have b1 : Below w.heap.size w w1 := (by rcases hw with rfl | ⟨t, rfl⟩; exact Below.refl _ _; exact Lib.bytesWorld_below _ _ _)) | (go_at_call 35; refine (impl_Decimal v v0 v1 _ (hT.on b1)).mono ?_; rintro e w2 ⟨rfl, b2⟩) | (go_at_call 80; refine (Tryd.strings_TrimPrefix s ⟨#[45]⟩ _).mono ?_; rintro e w3 ⟨rfl, rfl⟩))
        go_ret2
        exact ⟨by rw [HNM.out, if_pos ⟨HE.out, HT.out⟩]; rfl, bel_trans b1 b2⟩
      · have HT := Lib.hid ht
        have e2 : (18 : Int) < ((Lib.trimPrefix s.data.toList [45]).length : Int) := by omega
        go_enter Tryd.func48, Tryd.ntmps48
        go_wp2_with (first | (go_at_call 79; refine (Tryd.strconv_ParseInt_10_at64_ok s (by omega) v hp w).mono ?_; rintro e w1 ⟨rfl, hw⟩; have b1 : Below w.heap.size w w1 := (by rcases hw with rfl | ⟨t, rfl⟩; exact Below.refl _ _; exact Lib.bytesWorld_below _ _ _)) | (go_at_call 35; refine (impl_Decimal v v0 v1 _ (hT.on b1)).mono ?_; rintro e w2 ⟨rfl, b2⟩) | (go_at_call 80; refine (Tryd.strings_TrimPrefix s ⟨#[45]⟩ _).mono ?_; rintro e w3 ⟨rfl, rfl⟩))
        go_ret2
        exact ⟨by rw [HNM.out, if_neg (fun h => HT.out h.2)]; rfl, bel_trans b1 b2⟩
    · have HE := Lib.hid he
      have e1 : (Lib.itoa v == s.toList) = false := by rw [ByteArray.toList_eq, beq_eq_false_iff_ne]; exact HE.out
      clear he
      go_enter Tryd.func48, Tryd.ntmps48
      go_wp2_with (first | (go_at_call 79; refine (Tryd.strconv_ParseInt_10_at64_ok s (by omega) v hp w).mono ?_; rintro e w1 ⟨rfl, hw⟩; have b1 : Below w.heap.size w w1 := (by rcases hw with rfl | ⟨t, rfl⟩; exact Below.refl _ _; exact Lib.bytesWorld_below _ _ _)) | (go_at_call 35; refine (impl_Decimal v v0 v1 _ (hT.on b1)).mono ?_; rintro e w2 ⟨rfl, b2⟩) | (go_at_call 80; refine (Tryd.strings_TrimPrefix s ⟨#[45]⟩ _).mono ?_; rintro e w3 ⟨rfl, rfl⟩))
      go_ret2
      exact ⟨by rw [HNM.out, if_neg (fun h => HE.out h.1)]; rfl, bel_trans b1 b2⟩
  rw [hp] at hnum
  have HN := Lib.hid (show M.numB s = none from hnum.symm)
  clear hnum hL hT hrg
  go_enter Tryd.func48, Tryd.ntmps48
  go_wp2_with (go_at_call 79; refine (Tryd.strconv_ParseInt_10_at64_syntax s (by omega) (hp.trans rfl) _ w hsy (Or.inr ⟨_, _, rfl⟩)).mono ?_; rintro e w1 ⟨N, rfl, -, -, b1⟩)
  go_ret2
  exact ⟨by rw [HN.out]; rfl, b1⟩
end Go.Proofs.YtecdendjlgohjaaDoor
namespace Go.Proofs.YtecdendjlgohjaaDoor
open Go.ChangeShapes Go.WideShapes Go.ChangeAt Go.RowKit
open Go.Extern.Stop Go.Stop Go.Extern
set_option maxRecDepth 100000
/-- The wrap for a law over laid variables that asks for the world's shape too. -/
theorem handed_both {H : Type} {enc : TypeId × Value → H} {a : Assume} {C : Checked} {os : Os} {f : FuncId} {fn : Func} {s : ChangeSpec} {conds : List PathCond} {apart fresh handsOn again : Bool} {X : World → Array Value → Prop}
    (hX : ∀ (w w' : World) (args : Array Value), w.heap = w'.heap → X w args → X w' args)
    (own : ownKnob C.prog.godebug = none) (started : os.Started) (noInit : C.prog.inits.idxOf? f = none) (hfn : C.prog.funcs[f]? = some fn)
    (witness : ∃ (w : World) (tape : Tape) (i : Input), w.os = os ∧ (w.forCall tape i).Shaped C.prog ∧ i.vars = [] ∧ Input.okWide C.prog (w.forCall tape i) .any w.heap.size f i ∧
      ((s.pre enc C.prog fn conds apart (w.forCall tape i).memory i.args ∧ X (w.forCall tape i).memory i.args) ∧ sizedMet enc C.prog fn (OpenSpec.ofChange s) apart (w.forCall tape i).memory i.args) ∧ a.holds C.prog (lone (Frame.enter C.prog f i.args .normal) [] (w.forCall tape i)))
    (contract : ∀ (W : World) (base : Nat) (args : Array Value) (ds gs : List (DataW H)) (before : List MemPlace),
      (∀ (j : Nat) t v, fn.params[j]? = some t → args[j]? = some v → Value.okWide C.prog W .any base t v) →
      DataW.Whole enc C.prog fn.params.toList s.vars apart W args.toList ds gs before →
      conds.all (PathCond.test C.prog ⟨fn.params.toList, ds, s.plain.varTypes C.prog, gs⟩) = true →
      (DataW.weightsEach C.prog (fn.params.toList ++ s.plain.varTypes C.prog) (ds ++ gs)).all (· ≤ reachBytes) = true → W.ShapedOpen C.prog → X W args →
      a.holds C.prog (lone (Frame.enter C.prog f args .normal) [] W) →
      Calls C.prog f args W fun e W' => ∃ v, e = .returned v ∧ s.post enc C.prog fn apart fresh handsOn again W args v W') :
    ReturnsInHanded a C os f .any (fun w args => (s.pre enc C.prog fn conds apart w args ∧ X w args) ∧ sizedMet enc C.prog fn (OpenSpec.ofChange s) apart w args) (s.post enc C.prog fn apart fresh handsOn again) := by
  refine returnsInHanded_of_calls own started noInit witness ?_
  intro w tape i _ hsh _ hok hpre hholds
  obtain ⟨_, _, _, fn', hfn', _, _, _, _, hval⟩ := hok
  have e : fn' = fn := Option.some.inj (hfn'.symm.trans hfn)
  subst e
  obtain ⟨⟨⟨ds, gs, before, hw, hc⟩, hx⟩, hz⟩ := hpre
  have hw' := DataW.Whole.of_heap (w' := w.forCall tape i) (by rfl) hw
  refine (contract (w.forCall tape i) w.heap.size i.args ds gs before hval hw' hc (hz.weights hw) hsh (hX _ _ _ (by rfl) hx) hholds).mono fun e W' ⟨v, he, hp⟩ => ?_
  subst he
  exact ChangeSpec.post_blind hp
theorem gTab7 : Tryd.prog.globalNamed "internal/strconv.uint64pow10" = some 1 := by kernel_rfl
theorem gRange : Tryd.prog.globalNamed "strconv.ErrRange" = some 3 := by kernel_rfl
theorem gSyntax : Tryd.prog.globalNamed "strconv.ErrSyntax" = some 2 := by kernel_rfl
theorem tRange : (Tryd.prog.globals[3]?).map (·.type) = some 110 := by kernel_rfl
theorem tSyntax : (Tryd.prog.globals[2]?).map (·.type) = some 110 := by kernel_rfl
theorem errStar : "*" ++ "errors.errorString" = "*errors.errorString" := by decide
theorem errRow (u : TypeId) (h : Tryd.prog.typeName? 3 u = some "*errors.errorString") : u = 186 :=
  typeName_ptr_named (nm := "errors.errorString") (by rw [errStar]; kernel_rfl) (by kernel_rfl) (by decide) u (by rw [errStar]; exact h)
def L7 : List (String × DataW Unit) := [("math/bits.deBruijn32tab", Rows.laid_math_bits_deBruijn32tab), ("math/bits.deBruijn64tab", Rows.laid_math_bits_deBruijn64tab), ("internal/strconv.uint64pow10", Rows.laid_internal_strconv_uint64pow10), ("unicode/utf8.acceptRanges", Rows.laid_unicode_utf8_acceptRanges), ("strconv.ErrRange", Rows.laid_strconv_ErrRange), ("strconv.ErrSyntax", Rows.laid_strconv_ErrSyntax), ("unicode/utf8.first", Rows.laid_unicode_utf8_first)]
theorem met7_plain : laidMetH Tryd.prog L7 = laidMet Tryd.prog L7 := by
  funext W
  exact propext (by rw [MakeChecks.laidMetH_plain _ _ _ (by kernel_rfl)])
theorem err_cell {W : World} {n : String} {text : List UInt8} {r : List (String × DataW Unit)} {g : Nat} (h : laidMet Tryd.prog ((n, .iface "*errors.errorString" (.ptr (.agg [.lit (.string text)]))) :: r) W)
    (hg : Tryd.prog.globalNamed n = some g) (ht : (Tryd.prog.globals[g]?).map (·.type) = some 110) : ∃ te pe, W.cell? ⟨g, 0, none⟩ = some (.iface te pe) := by
  obtain ⟨a, s, hv, -⟩ := laid_sentinel h hg ht Tryd.underlying110 errRow Tryd.underlying186 Tryd.underlying188 rfl rfl Tryd.underlying9 (by kernel_rfl) (by kernel_rfl)
  exact ⟨_, _, World.var?_cell hg hv 0⟩
/-- What the readers ask, out of the row's condition and the world's shape. -/
theorem lad_of {W : World} (h : laidMetH Tryd.prog L7 W) (hsh : W.ShapedOpen Tryd.prog) : LAD W := by
  rw [met7_plain] at h
  have h3 : laidMet Tryd.prog (("internal/strconv.uint64pow10", Lib.tabData .u64 Lib.pow10Tab) :: _) W := h.tail.tail
  have h5 : laidMet Tryd.prog (("strconv.ErrRange", .iface "*errors.errorString" (.ptr (.agg [.lit (.string _)]))) :: _) W := h3.tail.tail
  have h6 : laidMet Tryd.prog (("strconv.ErrSyntax", .iface "*errors.errorString" (.ptr (.agg [.lit (.string _)]))) :: _) W := h5.tail
  refine ⟨Lib.tabBelow_of_tabIs (Lib.tabIs_of_head (g := 1) (t := 170) (e := 131) (n := 20) gTab7 (by kernel_rfl) (by kernel_rfl) (by kernel_rfl) (by kernel_rfl) (by kernel_rfl) h3), ?_, err_cell h6 gSyntax tSyntax, err_cell h5 gRange tRange⟩
  exact cell_of_shapedOpen_int (zero := #[.int .i64 0]) hsh (of_decide_eq_true (by kernel_rfl)) (by kernel_rfl) rfl (by kernel_rfl) (by kernel_rfl) Tryd.underlying3
/-- The witness's own heap meets the condition. -/
theorem met7 (os : Os) (args : Array Value) : laidMetH Tryd.prog L7 ((World.laidAll Tryd.prog os L7).forCall (fun _ _ => 0) ⟨#[], args, []⟩).memory := by
  rw [met7_plain]
  exact laidMet_laidAll _ (by kernel_rfl) (by kernel_rfl)
theorem shaped7 (os : Os) (args : Array Value) : ((World.laidAll Tryd.prog os L7).forCall (fun _ _ => 0) ⟨#[], args, []⟩).Shaped Tryd.prog :=
  World.shaped_of_ZipB (by kernel_rfl) (by kernel_rfl)
end Go.Proofs.YtecdendjlgohjaaDoor
namespace Go.Proofs.YtecdendjlgohjaaDoor
open Go.RowKit

/-- Only blocks of F, and new ones, have turned. -/
structure Chg (F : Nat → Prop) (w w' : World) : Prop where
  os : w'.os = w.os
  tape : w'.tape = w.tape
  output : w'.output = w.output
  size : w.heap.size ≤ w'.heap.size
  block : ∀ k, k < w.heap.size → ¬ F k → w'.heap[k]? = w.heap[k]?
section
variable {F F' : Nat → Prop} {a b c w w' : World} {lo hi B : Nat}
theorem Chg.refl (F : Nat → Prop) (w : World) : Chg F w w := ⟨rfl, rfl, rfl, Nat.le_refl _, fun _ _ _ => rfl⟩
theorem Chg.trans (h : Chg F a b) (k : Chg F b c) : Chg F a c :=
  ⟨k.os.trans h.os, k.tape.trans h.tape, k.output.trans h.output, Nat.le_trans h.size k.size, fun i hi hm => (k.block i (Nat.lt_of_lt_of_le hi h.size) hm).trans (h.block i hi hm)⟩
theorem Chg.wide (h : Chg F a b) (hf : ∀ k, F k → F' k) : Chg F' a b := ⟨h.os, h.tape, h.output, h.size, fun k hk hn => h.block k hk fun hF => hn (hf k hF)⟩
theorem Chg.of_below (h : Below a.heap.size a b) (F : Nat → Prop) : Chg F a b := ⟨h.os, h.tape, h.output, h.size, fun k hk _ => h.block k hk⟩
theorem Chg.of_mid (h : Mid lo hi a b) : Chg (fun k => lo ≤ k ∧ k < hi) a b := ⟨h.os, h.tape, h.output, h.size, fun k hk hn => h.block k hk (by omega)⟩
theorem Chg.of_grown {row : Option Nat} (h : a.grownBy b row) (hr : ∀ k, row = some k → F k) : Chg F a b :=
  ⟨h.os, h.tape, h.output, h.size, fun k hk hn => h.block k hk fun e => hn (hr k e.symm)⟩
theorem Chg.toBelow (h : Chg F a b) (hF : ∀ k, F k → B ≤ k) (hB : B ≤ a.heap.size) : Below B a b := ⟨h.os, h.tape, h.output, h.size, fun k hk => h.block k (by omega) fun hk' => by have := hF k hk'; omega⟩
theorem Chg.set (w : World) (g o : Nat) (u : Value) (hF : F g) : Chg F w (w.setCell ⟨g, o, none⟩ u) := Chg.of_grown (grown_setCell w g o u) fun k hk => by injection hk with hk; rw [← hk]; exact hF
end

/-- Rows of cells, s each. -/
theorem flat2_at {s : Nat} {css : List (List Value)} (hs : ∀ c ∈ css, c.length = s) {k : Nat} {c : List Value} (hk : css[k]? = some c) (j : Nat) (hj : j < s) : css.flatten[k * s + j]? = c[j]? := by
  induction css generalizing k with
  | nil => simp at hk
  | cons y ys ih =>
    have hy := hs y (by simp)
    cases k with
    | zero =>
      simp only [List.getElem?_cons_zero, Option.some.injEq] at hk
      subst hk
      rw [List.flatten_cons, Nat.zero_mul, Nat.zero_add, List.getElem?_append_left (by omega)]
    | succ k =>
      simp only [List.getElem?_cons_succ] at hk
      rw [List.flatten_cons, List.getElem?_append_right (by rw [hy, Nat.succ_mul]; omega), hy, ← ih (fun c hc => hs c (by simp [hc])) hk]
      congr 1
      rw [Nat.succ_mul]
      omega
theorem flat2_len {s : Nat} {css : List (List Value)} (hs : ∀ c ∈ css, c.length = s) : css.flatten.length = css.length * s := by
  induction css with
  | nil => simp
  | cons y ys ih => rw [List.flatten_cons, List.length_append, hs y (by simp), ih (fun c hc => hs c (by simp [hc])), List.length_cons, Nat.succ_mul, Nat.add_comm]
theorem flat2_set {s : Nat} {css : List (List Value)} (hs : ∀ c ∈ css, c.length = s) {k j : Nat} {c : List Value} {u : Value} (hk : css[k]? = some c) (hj : j < s) : css.flatten.set (k * s + j) u = (css.set k (c.set j u)).flatten := by
  induction css generalizing k with
  | nil => simp at hk
  | cons y ys ih =>
    have hy := hs y (by simp)
    cases k with
    | zero =>
      simp only [List.getElem?_cons_zero, Option.some.injEq] at hk
      subst hk
      rw [List.flatten_cons, Nat.zero_mul, Nat.zero_add, List.set_append_left _ _ (by omega), List.set_cons_zero, List.flatten_cons]
    | succ k =>
      simp only [List.getElem?_cons_succ] at hk
      rw [List.flatten_cons, List.set_append_right _ _ (by rw [hy, Nat.succ_mul]; omega), hy, List.set_cons_succ, List.flatten_cons, ← ih (fun c hc => hs c (by simp [hc])) hk]
      congr 2
      rw [Nat.succ_mul]
      omega

/-- How a plain type lies in cells: what reads as x (R), and what the call owns, in blocks of F (O). -/
structure Ty (α : Type) where
  s : Nat
  pos : 0 < s
  zero : α
  R : World → Nat → List Value → α → Prop
  O : World → (Nat → Prop) → List Value → α → Prop
  rlen : ∀ {w B cs x}, R w B cs x → cs.length = s
  keep : ∀ {w w' B cs x}, (∀ p : Addr, p.block < B → w'.cell? p = w.cell? p) → R w B cs x → R w' B cs x
  more : ∀ {w B B' cs x}, B ≤ B' → R w B cs x → R w B' cs x
  read : ∀ {w F cs x}, O w F cs x → R w w.heap.size cs x
  okeep : ∀ {w w' F cs x}, (∀ b, F b → w'.heap[b]? = w.heap[b]?) → O w F cs x → O w' F cs x
  owide : ∀ {w F F' cs x}, (∀ b, F b → F' b) → O w F cs x → O w F' cs x
  ocells : ∀ {w F cs x}, O w F cs x → ∀ u ∈ cs, u.oneCell' = true
  oreal : ∀ {w F cs x}, O w F cs x → O w (fun b => F b ∧ b < w.heap.size) cs x

/-- A type whose cells are the value itself. -/
def Ty.flat {α : Type} (s : Nat) (pos : 0 < s) (zero : α) (enc : α → List Value) (henc : ∀ x, (enc x).length = s) (h1 : ∀ x, ∀ u ∈ enc x, u.oneCell' = true) : Ty α where
  s := s
  pos := pos
  zero := zero
  R _ _ cs x := cs = enc x
  O _ _ cs x := cs = enc x
  rlen h := by rw [h]; exact henc _
  keep _ h := h
  more _ h := h
  read h := h
  okeep _ h := h
  owide _ h := h
  ocells h := by rw [h]; exact h1 _
  oreal h := h
def tI : Ty Int := Ty.flat 1 (by decide) 0 (fun x => [.int .i64 x]) (fun _ => rfl) (by simp [Value.oneCell'])
/-- Two types side by side: a struct. -/
def Ty.prod {α β : Type} (a : Ty α) (b : Ty β) : Ty (α × β) where
  s := a.s + b.s
  pos := Nat.add_pos_left a.pos _
  zero := (a.zero, b.zero)
  R w B cs x := ∃ c1 c2, cs = c1 ++ c2 ∧ a.R w B c1 x.1 ∧ b.R w B c2 x.2
  O w F cs x := ∃ c1 c2 F1 F2, cs = c1 ++ c2 ∧ a.O w F1 c1 x.1 ∧ b.O w F2 c2 x.2 ∧ (∀ k, F1 k → F k) ∧ (∀ k, F2 k → F k) ∧ (∀ k, F1 k → ¬ F2 k)
  rlen := by rintro w B cs x ⟨c1, c2, rfl, h1, h2⟩; rw [List.length_append, a.rlen h1, b.rlen h2]
  keep := by rintro w w' B cs x hk ⟨c1, c2, rfl, h1, h2⟩; exact ⟨c1, c2, rfl, a.keep hk h1, b.keep hk h2⟩
  more := by rintro w B B' cs x hk ⟨c1, c2, rfl, h1, h2⟩; exact ⟨c1, c2, rfl, a.more hk h1, b.more hk h2⟩
  read := by rintro w F cs x ⟨c1, c2, F1, F2, rfl, h1, h2, _⟩; exact ⟨c1, c2, rfl, a.read h1, b.read h2⟩
  okeep := by rintro w w' F cs x hk ⟨c1, c2, F1, F2, rfl, h1, h2, f1, f2, f3⟩; exact ⟨c1, c2, F1, F2, rfl, a.okeep (fun b hb => hk b (f1 b hb)) h1, b.okeep (fun b hb => hk b (f2 b hb)) h2, f1, f2, f3⟩
  owide := by rintro w F F' cs x hk ⟨c1, c2, F1, F2, rfl, h1, h2, f1, f2, f3⟩; exact ⟨c1, c2, F1, F2, rfl, h1, h2, fun k h => hk k (f1 k h), fun k h => hk k (f2 k h), f3⟩
  ocells := by
    rintro w F cs x ⟨c1, c2, F1, F2, rfl, h1, h2, _⟩ u hu
    rcases List.mem_append.1 hu with h | h
    · exact a.ocells h1 u h
    · exact b.ocells h2 u h
  oreal := by
    rintro w F cs x ⟨c1, c2, F1, F2, rfl, h1, h2, f1, f2, f3⟩
    exact ⟨c1, c2, _, _, rfl, a.oreal h1, b.oreal h2, fun k h => ⟨f1 k h.1, h.2⟩, fun k h => ⟨f2 k h.1, h.2⟩, fun k h h' => f3 k h.1 h'.1⟩

section
variable {α : Type} (t : Ty α)
/-- A slice that reads as a list. -/
def RS (w : World) (B : Nat) (v : Value) (xs : List α) : Prop :=
  ∃ (A : Option Addr) (c : Nat) (css : List (List Value)), v = .slice A xs.length c ∧ xs.length ≤ c ∧ c ≤ maxLen ∧ css.length = xs.length ∧ Reads w B t.s A xs.length css.flatten ∧ ∀ k (h : k < xs.length) (h' : k < css.length), t.R w B css[k] xs[k]
/-- The call's own slice: a row of its own, each element in blocks of its own. -/
def OS (e : TypeId) (w : World) (F : Nat → Prop) (v : Value) (xs : List α) : Prop :=
  ∃ (css : List (List Value)) (Fs : Nat → Nat → Prop), w.ownsRow 0 e t.s v xs.length css.flatten ∧ css.length = xs.length ∧ (∀ g, v.ownBlock = some g → F g) ∧ (∀ k b, Fs k b → F b ∧ v.ownBlock ≠ some b) ∧
    (∀ j k b, j ≠ k → Fs j b → ¬ Fs k b) ∧ ∀ k (h : k < xs.length) (h' : k < css.length), t.O w (Fs k) css[k] xs[k]
end
section
variable {α : Type} {t : Ty α} {e : TypeId} {w w' : World} {F F' : Nat → Prop} {B B' : Nat} {v : Value} {xs : List α}
theorem RS.keep (hk : ∀ p : Addr, p.block < B → w'.cell? p = w.cell? p) (h : RS t w B v xs) : RS t w' B v xs := by
  obtain ⟨A, c, css, hv, h1, h2, h3, h4, h5⟩ := h
  exact ⟨A, c, css, hv, h1, h2, h3, h4.keep hk, fun k h h' => t.keep hk (h5 k h h')⟩
theorem RS.more (hB : B ≤ B') (h : RS t w B v xs) : RS t w B' v xs := by
  obtain ⟨A, c, css, hv, h1, h2, h3, h4, h5⟩ := h
  exact ⟨A, c, css, hv, h1, h2, h3, h4.more hB, fun k h h' => t.more hB (h5 k h h')⟩
theorem OS.read (h : OS t e w F v xs) : RS t w w.heap.size v xs := by
  obtain ⟨css, Fs, h1, h2, _, _, _, h6⟩ := h
  obtain ⟨A, c, rfl, hc, hm, hr⟩ := own_shape h1
  exact ⟨A, c, css, rfl, hc, hm, h2, hr, fun k h h' => t.read (h6 k h h')⟩
theorem OS.keep (hk : ∀ b, F b → w'.heap[b]? = w.heap[b]?) (h : OS t e w F v xs) : OS t e w' F v xs := by
  obtain ⟨css, Fs, h1, h2, h3, h4, h5, h6⟩ := h
  refine ⟨css, Fs, ⟨h1.1, ?_⟩, h2, h3, h4, h5, fun k h h' => t.okeep (fun b hb => hk b (h4 k b hb).1) (h6 k h h')⟩
  rcases h1.2 with hn | ⟨g, cap, cur, rfl, hb, hg, rest⟩
  · exact .inl hn
  · exact .inr ⟨g, cap, cur, rfl, hb, by rw [hk g (h3 g rfl)]; exact hg, rest⟩
theorem OS.wide (hF : ∀ b, F b → F' b) (h : OS t e w F v xs) : OS t e w F' v xs := by
  obtain ⟨css, Fs, h1, h2, h3, h4, h5, h6⟩ := h
  exact ⟨css, Fs, h1, h2, fun g hg => hF g (h3 g hg), fun k b hb => ⟨hF b (h4 k b hb).1, (h4 k b hb).2⟩, h5, h6⟩
theorem RS.cap {A : Option Addr} {n c : Nat} (h : RS t w B (.slice A n c) xs) : xs.length = n ∧ n ≤ c ∧ c ≤ maxLen := by
  obtain ⟨A', c', css, hv, h1, h2, _⟩ := h
  simp only [Value.slice.injEq] at hv
  obtain ⟨rfl, rfl, rfl⟩ := hv
  exact ⟨rfl, h1, h2⟩
theorem RS.shape (h : RS t w B v xs) : ∃ A c, v = .slice A xs.length c := by
  obtain ⟨A, c, css, hv, _⟩ := h
  exact ⟨A, c, hv⟩
theorem OS.shape (h : OS t e w F v xs) : ∃ A c, v = .slice A xs.length c := RS.shape h.read
/-- The k-th element's cells. -/
theorem RS.at (h : RS t w B v xs) {k : Nat} (hk : k < xs.length) : ∃ b o c cs, v = .slice (some ⟨b, o, none⟩) xs.length c ∧ b < B ∧ cs.length = t.s ∧ t.R w B cs xs[k] ∧ ∀ j u, cs[j]? = some u → w.cell? ⟨b, o + k * t.s + j, none⟩ = some u := by
  obtain ⟨A, c, css, rfl, h1, h2, h3, h4, h5⟩ := h
  obtain ⟨ad, rfl, hb, hc⟩ := h4.2 (by omega)
  have hs : ∀ c ∈ css, c.length = t.s := fun c hc => by
    obtain ⟨i, hi, rfl⟩ := List.getElem_of_mem hc
    exact t.rlen (h5 i (by omega) hi)
  have h0 : 0 < css.flatten.length := by
    rw [flat2_len hs]
    exact Nat.mul_pos (by omega) t.pos
  have hsp := spot_none (hc 0 _ (List.getElem?_eq_getElem h0))
  have hsp' : ad = ⟨ad.block, ad.off, none⟩ := by simpa [Addr.add] using hsp
  have hr := h5 k hk (by omega)
  refine ⟨ad.block, ad.off, c, css[k]'(by omega), by rw [← hsp'], hb, t.rlen hr, hr, fun j u hu => ?_⟩
  have hj : j < t.s := by rw [← t.rlen hr]; exact (List.getElem?_eq_some_iff.1 hu).1
  have := hc (k * t.s + j) u (by rw [flat2_at hs (List.getElem?_eq_getElem (by omega)) j hj]; exact hu)
  rw [hsp', Addr.add_lit, ← Nat.add_assoc] at this
  exact this
end

/-- A slice as a type of one cell. -/
def Ty.sl {α : Type} (t : Ty α) (e : TypeId) : Ty (List α) where
  s := 1
  pos := Nat.one_pos
  zero := []
  R w B cs x := ∃ v, cs = [v] ∧ RS t w B v x
  O w F cs x := ∃ v, cs = [v] ∧ OS t e w F v x
  rlen := by rintro w B cs x ⟨v, rfl, _⟩; rfl
  keep := by rintro w w' B cs x hk ⟨v, rfl, h⟩; exact ⟨v, rfl, h.keep hk⟩
  more := by rintro w B B' cs x hk ⟨v, rfl, h⟩; exact ⟨v, rfl, h.more hk⟩
  read := by rintro w F cs x ⟨v, rfl, h⟩; exact ⟨v, rfl, h.read⟩
  okeep := by rintro w w' F cs x hk ⟨v, rfl, h⟩; exact ⟨v, rfl, h.keep hk⟩
  owide := by rintro w F F' cs x hk ⟨v, rfl, h⟩; exact ⟨v, rfl, h.wide hk⟩
  ocells := by
    rintro w F cs x ⟨v, rfl, h⟩ u hu
    obtain ⟨A, c, hv⟩ := h.shape
    simp only [List.mem_singleton] at hu
    subst hu hv
    rfl
  oreal := by
    rintro w F cs x ⟨v, rfl, css, Fs, h1, h2, h3, h4, h5, h6⟩
    exact ⟨v, rfl, css, _, h1, h2, fun g hg => ⟨h3 g hg, (h1.lt g hg).2⟩, fun k b hb => ⟨⟨(h4 k b hb.1).1, hb.2⟩, (h4 k b hb.1).2⟩, fun j k b hne h h' => h5 j k b hne h.1 h'.1, fun k h h' => t.oreal (h6 k h h')⟩

section
variable {α : Type} {t : Ty α} {e : TypeId} {w w' : World} {F F' : Nat → Prop} {B B' lo hi : Nat} {v : Value} {xs : List α}
/-- Blocks from lo on and below hi. -/
def Iv (lo hi : Nat) : Nat → Prop := fun k => lo ≤ k ∧ k < hi
theorem Iv.mono {lo hi lo' hi' : Nat} (h1 : lo' ≤ lo) (h2 : hi ≤ hi') : ∀ b, Iv lo hi b → Iv lo' hi' b := fun b ⟨h, h'⟩ => ⟨Nat.le_trans h1 h, Nat.lt_of_lt_of_le h' h2⟩
theorem RS.later (h : RS t w w.heap.size v xs) (hb : Below w.heap.size w w') : RS t w' w'.heap.size v xs := (h.keep fun _ hp => hb.cell hp).more hb.size
theorem RS.below (h : RS t w B v xs) (hb : Below B w w') : RS t w' B v xs := h.keep fun _ hp => hb.cell hp
theorem OS.below (h : OS t e w (Iv lo hi) v xs) (hb : Below B w w') (hB : hi ≤ B) : OS t e w' (Iv lo hi) v xs := h.keep fun b hF => hb.block b (Nat.lt_of_lt_of_le hF.2 hB)
theorem OS.nil (t : Ty α) (e : TypeId) (w : World) (F : Nat → Prop) : OS t e w F (.slice none 0 0) [] :=
  ⟨[], fun _ _ => False, World.ownsRow_nil _ _ _ _, rfl, by simp [Value.ownBlock], fun _ _ h => h.elim, fun _ _ _ _ h => h.elim, fun k h => by simp at h⟩
theorem RS.nil (t : Ty α) (w : World) (B : Nat) : RS t w B (.slice none 0 0) [] := ⟨none, 0, [], rfl, Nat.le_refl _, by simp [maxLen], rfl, Reads.none_, fun k h => by simp at h⟩
/-- All of an own slice but its k-th element. -/
def OH (t : Ty α) (e : TypeId) (w : World) (F : Nat → Prop) (v : Value) (xs : List α) (css : List (List Value)) (Fs : Nat → Nat → Prop) (k : Nat) : Prop :=
  w.ownsRow 0 e t.s v xs.length css.flatten ∧ css.length = xs.length ∧ (∀ c ∈ css, c.length = t.s) ∧ (∀ g, v.ownBlock = some g → F g) ∧ (∀ k b, Fs k b → F b ∧ v.ownBlock ≠ some b) ∧
    (∀ j k b, j ≠ k → Fs j b → ¬ Fs k b) ∧ ∀ i (h : i < xs.length) (h' : i < css.length), i ≠ k → t.O w (Fs i) css[i] xs[i]
variable {css : List (List Value)} {Fs : Nat → Nat → Prop} {k : Nat}
theorem OH.form {A : Option Addr} {m c : Nat} (h : OH t e w F (.slice A m c) xs css Fs k) (hk : k < xs.length) : ∃ g, A = some ⟨g, 0, none⟩ ∧ F g ∧ ¬ Fs k g ∧ g < w.heap.size ∧ m = xs.length := by
  obtain ⟨h1, h2, h3, h4, h5, h6, h7⟩ := h
  rcases h1.2 with ⟨h0, _⟩ | ⟨g, cap, cur, h0, hg1, hg2, _⟩
  · simp only [Value.slice.injEq] at h0
    omega
  · simp only [Value.slice.injEq] at h0
    obtain ⟨rfl, rfl, rfl⟩ := h0
    exact ⟨g, rfl, h4 g rfl, fun hf => (h5 k g hf).2 rfl, (Array.getElem?_eq_some_iff.1 hg2).1, rfl⟩
theorem OH.cell {g m c : Nat} (h : OH t e w F (.slice (some ⟨g, 0, none⟩) m c) xs css Fs k) {cs : List Value} (hcs : css[k]? = some cs) {j : Nat} {u : Value} (hj : cs[j]? = some u) :
    w.cell? ⟨g, k * t.s + j, none⟩ = some u ∧ w.frozen? ⟨g, k * t.s + j, none⟩ = false := by
  obtain ⟨h1, h2, h3, _⟩ := h
  have hk : k < css.length := (List.getElem?_eq_some_iff.1 hcs).1
  have hm : m = xs.length := by
    rcases h1.2 with ⟨h0, _⟩ | ⟨g', cap, cur, h0, _⟩
    · simp at h0
    · simp only [Value.slice.injEq] at h0
      exact h0.2.1
  subst hm
  have hl : cs.length = t.s := h3 cs (List.mem_of_getElem? hcs)
  have hjs : j < t.s := by rw [← hl]; exact (List.getElem?_eq_some_iff.1 hj).1
  have hf := flat2_at h3 hcs j hjs
  rw [hj] at hf
  have hlt := (List.getElem?_eq_some_iff.1 hf).1
  exact ⟨by rw [World.ownsRow.cellAt h1 _ (by rw [← h1.1]; exact hlt)]; exact hf, World.ownsRow.frozenAt h1 _⟩
/-- A cell of the k-th element is written. -/
theorem OH.set {g m c : Nat} (h : OH t e w F (.slice (some ⟨g, 0, none⟩) m c) xs css Fs k) {cs : List Value} (hcs : css[k]? = some cs) (j : Nat) (hj : j < t.s) (u : Value) :
    OH t e (w.setCell ⟨g, k * t.s + j, none⟩ u) F (.slice (some ⟨g, 0, none⟩) m c) xs (css.set k (cs.set j u)) Fs k ∧ (css.set k (cs.set j u))[k]? = some (cs.set j u) := by
  obtain ⟨h1, h2, h3, h4, h5, h6, h7⟩ := h
  have hk : k < css.length := (List.getElem?_eq_some_iff.1 hcs).1
  have hm : m = xs.length := by
    rcases h1.2 with ⟨h0, _⟩ | ⟨g', cap, cur, h0, _⟩
    · simp at h0
    · simp only [Value.slice.injEq] at h0
      exact h0.2.1
  subst hm
  have hl : cs.length = t.s := h3 cs (List.mem_of_getElem? hcs)
  have hst := (World.ownsRow.stored h1 (k * t.s + j) u).1
  rw [flat2_set h3 hcs hj] at hst
  refine ⟨⟨hst, by rw [List.length_set]; exact h2, fun c hc => ?_, h4, h5, h6, fun i hi hi' hne => ?_⟩, by simp [hk]⟩
  · rcases List.mem_or_eq_of_mem_set hc with hc | rfl
    · exact h3 c hc
    · rw [List.length_set]; exact hl
  · rw [List.getElem_set_ne (fun e => hne e.symm)]
    refine t.okeep (fun b hb => ?_) (h7 i hi (by rw [List.length_set] at hi'; exact hi') hne)
    exact heap_setCell_other w ⟨g, k * t.s + j, none⟩ b u (fun e => (h5 i b hb).2 (by rw [e]; rfl))
theorem OH.keep (h : OH t e w F v xs css Fs k) (hk : ∀ b, F b → w'.heap[b]? = w.heap[b]?) : OH t e w' F v xs css Fs k := by
  obtain ⟨h1, h2, h3, h4, h5, h6, h7⟩ := h
  refine ⟨⟨h1.1, ?_⟩, h2, h3, h4, h5, h6, fun i hi hi' hne => t.okeep (fun b hb => hk b (h5 i b hb).1) (h7 i hi hi' hne)⟩
  rcases h1.2 with hn | ⟨g, cap, cur, rfl, hb, hg, rest⟩
  · exact .inl hn
  · exact .inr ⟨g, cap, cur, rfl, hb, by rw [hk g (h4 g rfl)]; exact hg, rest⟩
theorem OS.lt (h : OS t e w F v xs) : ∀ g, v.ownBlock = some g → F g ∧ g < w.heap.size := by
  obtain ⟨css, Fs, h1, _, h3, _⟩ := h
  exact fun g hg => ⟨h3 g hg, (h1.lt g hg).2⟩
end
section
variable {α : Type} {t : Ty α} {P : Program} {T e : TypeId} {z : Value} {bytes : Nat}
end
end Go.Proofs.YtecdendjlgohjaaDoor
namespace Go.Proofs.YtecdendjlgohjaaDoor
open Go.RowKit
section
variable {α : Type} (t : Ty α) {w w' : World} {B lo hi lo' hi' l r : Nat} {cs : List Value} {x : α} {F F' : Nat → Prop}
theorem Ty.below (h : t.R w B cs x) (hb : Below B w w') : t.R w' B cs x := t.keep (fun _ hp => hb.cell hp) h
theorem Ty.later (h : t.R w w.heap.size cs x) (hb : Below w.heap.size w w') : t.R w' w'.heap.size cs x := t.more hb.size (t.below h hb)
theorem Ty.obelow (h : t.O w (Iv lo hi) cs x) (hb : Below B w w') (hB : hi ≤ B) : t.O w' (Iv lo hi) cs x := t.okeep (fun b hF => hb.block b (Nat.lt_of_lt_of_le hF.2 hB)) h
theorem Ty.oiv (h : t.O w (Iv lo hi) cs x) (h1 : lo' ≤ lo) (h2 : hi ≤ hi') : t.O w (Iv lo' hi') cs x := t.owide (Iv.mono h1 h2) h
theorem Ty.ochg (h : t.O w F cs x) (hc : Chg F' w w') (hd : ∀ b, F b → ¬ F' b) : t.O w' F cs x := t.owide (fun b hb => hb.1) (t.okeep (fun b hb => hc.block b hb.2 (hd b hb.1)) (t.oreal h))
end
section
variable {w w' : World} {B lo hi n c : Nat} {A : Option Addr} {v : Value} {e : TypeId}
/-- Flat elements. -/
theorem RS.flat {α : Type} {s : Nat} {pos : 0 < s} {zero : α} {enc : α → List Value} {henc : ∀ x, (enc x).length = s} {h1 : ∀ x, ∀ u ∈ enc x, u.oneCell' = true} {xs : List α}
    (h : RS (Ty.flat s pos zero enc henc h1) w B (.slice A n c) xs) : RA enc s w B A n xs ∧ n ≤ c ∧ c ≤ maxLen := by
  obtain ⟨A', c', css, hv, h1', h2, h3, h4, h5⟩ := h
  simp only [Value.slice.injEq] at hv
  obtain ⟨rfl, rfl, rfl⟩ := hv
  refine ⟨⟨rfl, ?_⟩, h1', h2⟩
  have e0 : css = xs.map enc := by
    apply List.ext_getElem (by simp [h3])
    intro i hi hi'
    rw [List.getElem_map]
    exact h5 i (by omega) hi
  rw [List.flatMap_def, ← e0]
  exact h4
theorem RS.of_flat {α : Type} {s : Nat} {pos : 0 < s} {zero : α} {enc : α → List Value} {henc : ∀ x, (enc x).length = s} {h1 : ∀ x, ∀ u ∈ enc x, u.oneCell' = true} {xs : List α}
    (h : RA enc s w B A n xs) (hc : n ≤ c) (hm : c ≤ maxLen) : RS (Ty.flat s pos zero enc henc h1) w B (.slice A n c) xs := by
  obtain ⟨rfl, h2⟩ := h
  rw [List.flatMap_def] at h2
  exact ⟨A, c, xs.map enc, rfl, hc, hm, by simp, h2, fun k hk hk' => by
    show (xs.map enc)[k] = enc xs[k]
    rw [List.getElem_map]⟩
theorem OS.flat {α : Type} {s : Nat} {pos : 0 < s} {zero : α} {enc : α → List Value} {henc : ∀ x, (enc x).length = s} {h1 : ∀ x, ∀ u ∈ enc x, u.oneCell' = true} {xs : List α}
    (h : OS (Ty.flat s pos zero enc henc h1) e w (Iv lo hi) v xs) : OA enc e s lo hi w v xs := by
  obtain ⟨css, Fs, g1, g2, g3, _, _, g6⟩ := h
  have e0 : css = xs.map enc := by
    apply List.ext_getElem (by simp [g2])
    intro i hi hi'
    rw [List.getElem_map]
    exact g6 i (by omega) hi
  subst e0
  refine ⟨⟨by rw [List.flatMap_def]; exact g1.1, ?_⟩, fun k hk => (g3 k hk).2⟩
  rcases g1.2 with hn | ⟨g, cap, cur, rfl, hb, rest⟩
  · exact .inl hn
  · rw [List.flatMap_def]
    exact .inr ⟨g, cap, cur, rfl, (g3 g rfl).1, rest⟩
theorem OS.of_flat {α : Type} {s : Nat} {pos : 0 < s} {zero : α} {enc : α → List Value} {henc : ∀ x, (enc x).length = s} {h1 : ∀ x, ∀ u ∈ enc x, u.oneCell' = true} {xs : List α}
    (h : OA enc e s lo hi w v xs) : OS (Ty.flat s pos zero enc henc h1) e w (Iv lo hi) v xs := by
  refine ⟨xs.map enc, fun _ _ => False, ?_, by simp, fun g hg => ⟨(h.1.lt g hg).1, h.2 g hg⟩, fun _ _ h => h.elim, fun _ _ _ _ h => h.elim, fun k hk hk' => ?_⟩
  · rw [← List.flatMap_def]
    exact own_base h.1 (Nat.zero_le _)
  · show (xs.map enc)[k] = enc xs[k]
    rw [List.getElem_map]
theorem flat_ints (xs : List Int) : xs.flatMap (fun x : Int => [Value.int .i64 x]) = xs.map (.int .i64) := by
  induction xs with
  | nil => rfl
  | cons y ys ih => rw [List.flatMap_cons, ih]; rfl
theorem OS.of_oi {xs : List Int} (h : OI e lo w v xs) (hh : ∀ k, v.ownBlock = some k → k < hi) : OS tI e w (Iv lo hi) v xs :=
  OS.of_flat ⟨by rw [flat_ints]; exact h, hh⟩
theorem OI.os {xs : List Int} (h : OI e lo w v xs) : OS tI e w (Iv lo w.heap.size) v xs := OS.of_oi h fun k hk => (World.ownsRow.lt h k hk).2
end
/-- All ints of a list bounded .. what a harness counts: its measure of size, its marks. -/
structure Hs (α : Type) where
  sz : α → Nat
  mark : Int → α → α
  cnt : α → Nat
def hI : Hs Int := ⟨fun _ => 0, fun k _ => k, fun _ => 1⟩
section
variable {α β : Type}
def Hs.mkL (h : Hs α) : Int → List α → List α
  | _, [] => []
  | k, x :: xs => h.mark k x :: h.mkL (k + h.cnt x) xs
def Hs.cntL (h : Hs α) : List α → Nat
  | [] => 0
  | x :: xs => h.cnt x + h.cntL xs
def Hs.szL (h : Hs α) : List α → Nat
  | [] => 0
  | x :: xs => h.sz x + h.szL xs
def Hs.sl (h : Hs α) : Hs (List α) := ⟨fun xs => xs.length + h.szL xs, h.mkL, h.cntL⟩
def Hs.prod (a : Hs α) (b : Hs β) : Hs (α × β) := ⟨fun x => a.sz x.1 + b.sz x.2, fun k x => (a.mark k x.1, b.mark (k + a.cnt x.1) x.2), fun x => a.cnt x.1 + b.cnt x.2⟩
theorem Hs.mkL_len (h : Hs α) (k : Int) (xs : List α) : (h.mkL k xs).length = xs.length := by
  induction xs generalizing k with
  | nil => rfl
  | cons x xs ih => simp [Hs.mkL, ih]
theorem Hs.mkL_at (h : Hs α) {xs : List α} {i : Nat} {x : α} (k : Int) (hx : xs[i]? = some x) : (h.mkL k xs)[i]? = some (h.mark (k + h.cntL (xs.take i)) x) := by
  induction xs generalizing i k with
  | nil => simp at hx
  | cons y ys ih =>
    cases i with
    | zero => simp at hx; subst hx; simp [Hs.mkL, Hs.cntL]
    | succ i =>
      simp only [List.getElem?_cons_succ] at hx
      rw [Hs.mkL, List.getElem?_cons_succ, ih _ hx, List.take_succ_cons, Hs.cntL]
      congr 2
      omega
end
end Go.Proofs.YtecdendjlgohjaaDoor
namespace Go.Proofs.YtecdendjlgohjaaDoor
open Go.RowKit
set_option maxHeartbeats 400000
set_option maxRecDepth 100000
/-! []int64 -/
abbrev hS : Hs (List Int) := hI.sl
end Go.Proofs.YtecdendjlgohjaaDoor
namespace Go.Proofs.YtecdendjlgohjaaDoor
open Go.RowKit
set_option maxHeartbeats 400000
set_option maxRecDepth 100000
/-! Curve -/
abbrev tPt : Ty (Int × Int) := Ty.flat 2 (by decide) (0, 0) pt pt_len (by simp [pt, Value.oneCell'])
abbrev hPt : Hs (Int × Int) := hI.prod hI
abbrev tC : Ty (List (Int × Int)) := tPt.sl 52
abbrev hC : Hs (List (Int × Int)) := hPt.sl
theorem hPt_szL (xs : List (Int × Int)) : hPt.szL xs = 0 := by
  induction xs with
  | nil => rfl
  | cons x xs ih => rw [Hs.szL, ih]; rfl
theorem hPt_cntL (xs : List (Int × Int)) : hPt.cntL xs = 2 * xs.length := by
  induction xs with
  | nil => rfl
  | cons x xs ih =>
    rw [Hs.cntL, ih, List.length_cons]
    show 1 + 1 + _ = _
    omega
theorem hPt_mkL (k : Int) (xs : List (Int × Int)) : hPt.mkL k xs = rampP k xs.length := by
  apply List.ext_getElem?
  intro i
  by_cases hi : i < xs.length
  · rw [hPt.mkL_at k (List.getElem?_eq_getElem hi), hPt_cntL, List.length_take, rampP_at hi]
    show some (_, _) = some (_, _)
    simp only [Hs.prod, hI, Option.some.injEq, Prod.mk.injEq]
    omega
  · rw [List.getElem?_eq_none (by rw [Hs.mkL_len]; omega), List.getElem?_eq_none (by rw [rampP_len]; omega)]
theorem hC_sz (xs : List (Int × Int)) : hC.sz xs = xs.length := by show xs.length + hPt.szL xs = _; rw [hPt_szL]; rfl
theorem hC_cnt (xs : List (Int × Int)) : hC.cnt xs = 2 * xs.length := hPt_cntL xs
theorem hC_mark (k : Int) (xs : List (Int × Int)) : hC.mark k xs = rampP k xs.length := hPt_mkL k xs
theorem tC_R {w : World} {B : Nat} {A : Option Addr} {n c : Nat} {xs : List (Int × Int)} : tC.R w B [.slice A n c] xs ↔ RS tPt w B (.slice A n c) xs :=
  ⟨fun ⟨v, h, h'⟩ => by injection h with h; rw [h]; exact h', fun h => ⟨_, rfl, h⟩⟩
theorem tC_O {w : World} {F : Nat → Prop} {v : Value} {xs : List (Int × Int)} : tC.O w F [v] xs ↔ OS tPt 52 w F v xs :=
  ⟨fun ⟨v, h, h'⟩ => by injection h with h; rw [h]; exact h', fun h => ⟨_, rfl, h⟩⟩
theorem tC_ra {w : World} {B : Nat} {A : Option Addr} {n c : Nat} {xs : List (Int × Int)} (h : tC.R w B [.slice A n c] xs) : RA pt 2 w B A n xs := (tC_R.1 h).flat.1
theorem nf_eq_C (A A' : Option Addr) (n c n' c' : Nat) (xs : List (Int × Int)) (w : World) (hx : tC.R w w.heap.size [.slice A n c] xs) (hy : tC.R w w.heap.size [.slice A' n' c'] xs) (hn : hC.sz xs ≤ 100000000) :
    Calls Tryd.prog 11 #[.agg #[.slice A n c], .agg #[.slice A' n' c']] w fun e w' => e = .returned (.bool true) ∧ Below w.heap.size w w' := by
  have hl := (tC_R.1 hx).cap.1
  rw [hC_sz] at hn
  have := laws_eqCurve A A' n c n' c' xs xs w (tC_ra hx) (tC_ra hy) (by omega)
  rw [decide_eq_true (rfl : xs = xs)] at this
  exact this
theorem nf_mark_C (A : Option Addr) (n c : Nat) (k : Int) (xs : List (Int × Int)) (w : World) (lo hi : Nat) (hx : tC.O w (Iv lo hi) [.slice A n c] xs) (hh : hi ≤ w.heap.size) (hk : 0 ≤ k ∧ k + (hC.cnt xs : Int) ≤ 1000000000) :
    Calls Tryd.prog 19 #[.agg #[.slice A n c], .int .i64 k] w fun e w' => e = .returned (.int .i64 (k + hC.cnt xs)) ∧ tC.O w' (Iv lo hi) [.slice A n c] (hC.mark k xs) ∧ Chg (Iv lo hi) w w' := by
  have h1 := (tC_O.1 hx).flat
  rw [hC_cnt] at *
  rw [hC_mark]
  refine (laws_markCurve _ lo hi xs.length k xs w h1 hh rfl (by omega) (by omega)).mono ?_
  rintro e w' ⟨rfl, own, hg⟩
  exact ⟨by rw [Int.natCast_mul]; rfl, tC_O.2 (OS.of_flat own), Chg.of_mid hg⟩
theorem nf_held_C (A : Option Addr) (n c : Nat) (k : Int) (xs : List (Int × Int)) (w : World) (hx : tC.R w w.heap.size [.slice A n c] (hC.mark k xs)) (hk : 0 ≤ k ∧ k + (hC.cnt xs : Int) ≤ 1000000000) :
    Calls Tryd.prog 20 #[.agg #[.slice A n c], .int .i64 k] w fun e w' => e = .returned (.int .i64 (k + hC.cnt xs)) ∧ Below w.heap.size w w' := by
  have hl := (tC_R.1 hx).cap.1
  have h := tC_ra hx
  rw [hC_mark] at h hl
  rw [rampP_len] at hl
  rw [hC_cnt] at *
  subst hl
  refine (laws_heldCurve A _ c k w h (by omega) (by omega)).mono ?_
  rintro e w' ⟨rfl, bel⟩
  exact ⟨by rw [Int.natCast_mul]; rfl, bel⟩
end Go.Proofs.YtecdendjlgohjaaDoor
namespace Go.Proofs.YtecdendjlgohjaaDoor
open Go.RowKit
set_option maxRecDepth 100000
set_option maxHeartbeats 4000000 in
theorem core_FnExactReadCurve (a0 : ByteArray) (z0 : List (Int × Int)) (z1 : Bool) (w : World)
    (hT : LAD w)
    (hz0 : hC.sz z0 ≤ 100000000) (hc0 : hC.cnt z0 ≤ 100000000)
    (hs0 : a0.size ≤ maxLen)
    (hSpec : ∀ (w : World), a0.size ≤ 1048576 → LAD w → Calls Tryd.prog 17 #[.string a0] w fun e w' => ∃ Ar0 nr0 cr0, e = .returned (.tuple #[.agg #[.slice Ar0 nr0 cr0], .bool z1]) ∧ tC.O w' (Iv w.heap.size w'.heap.size) [.slice Ar0 nr0 cr0] z0 ∧ Below w.heap.size w w')
    (hImp : ∀ (w : World), a0.size ≤ 1048576 → LAD w → Calls Tryd.prog 18 #[.string a0] w fun e w' => ∃ Ar0 nr0 cr0, e = .returned (.tuple #[.agg #[.slice Ar0 nr0 cr0], .bool z1]) ∧ tC.O w' (Iv w.heap.size w'.heap.size) [.slice Ar0 nr0 cr0] z0 ∧ Below w.heap.size w w') :
    Calls Tryd.prog 5 #[.string a0] w fun e w' => e = .returned (.bool true) ∧ Below w.heap.size w w' := by
  have HT := Lib.hid hT
  have HS := Lib.hid hSpec
  have HI := Lib.hid hImp
  clear hSpec hImp hT
  have B : Below w.heap.size w w := (Below.refl _ _)
  have hsize : w.heap.size = w.heap.size := by simp
  have hn0 : a0.size ≤ 9223372036854775807 := by unfold maxLen at hs0; omega
  by_cases hb0 : 1048576 < a0.size
  · go_enter Tryd.func5, Tryd.ntmps5
    go_wp2_with fail
    go_ret
    exact ⟨rfl, B⟩
  clear hsize
  go_enter Tryd.func5, Tryd.ntmps5
  go_wp2_with fail
  refine (HS.out  _  (by omega) (HT.out.on B)).mono ?_
  rintro e u1 ⟨Aw0, nw0, cw0, rfl, w0, bb⟩
  have G := bb
  have zu1 : w.heap.size ≤ u1.heap.size := by have := bb.size; simpa using this
  replace w0 : tC.O u1 (Iv (w.heap.size) u1.heap.size) [.slice Aw0 nw0 cw0] z0 := tC.oiv w0 (by simp) (Nat.le_refl _)
  replace B := bel_trans B G
  clear G bb
  have G0 : Below u1.heap.size u1 (u1.alloc (.cells #[.slice Aw0 nw0 cw0] 29)) := (Below.refl _ _).alloc (Nat.le_refl _) _
  go_wp2_with fail
  refine (HI.out  _  (by omega) (HT.out.on (bel_trans B G0))).mono ?_
  rintro e u2 ⟨Ag0, ng0, cg0, rfl, g0, bb⟩
  have G := bel_trans G0 bb
  have zu2 : u1.heap.size + 1 ≤ u2.heap.size := by have := bb.size; simp at this; omega
  replace w0 := tC.obelow w0 G (by omega)
  have wb0_0 : u2.cell? ⟨u1.heap.size, 0, none⟩ = some (.slice Aw0 nw0 cw0) := by rw [bb.cell (by simp)]; simp [go_sem]
  replace g0 : tC.O u2 (Iv (u1.heap.size + 1) u2.heap.size) [.slice Ag0 ng0 cg0] z0 := tC.oiv g0 (by simp) (Nat.le_refl _)
  replace B := bel_trans B G
  clear G bb G0
  have lt0 : u1.heap.size < u2.heap.size := by omega
  have G0 : Below u2.heap.size u2 (u2.alloc (.cells #[.slice Ag0 ng0 cg0] 29)) := (Below.refl _ _).alloc (Nat.le_refl _) _
  go_wp2_with fail
  refine (nf_eq_C _ _ _ _ _ _ _ _ (tC.later (tC.read g0) G0) (tC.later (tC.read w0) G0) (by omega)).mono ?_
  rintro e u3 ⟨rfl, bb⟩
  have G := bel_trans G0 bb
  have zu3 : u2.heap.size + 1 ≤ u3.heap.size := by have := bb.size; simp at this; omega
  replace wb0_0 : u3.cell? ⟨u1.heap.size, 0, none⟩ = some (.slice Aw0 nw0 cw0) := by rw [G.cell (by first | omega | (simp; done) | (simp; omega))]; exact wb0_0
  replace w0 := tC.obelow w0 G (by omega)
  replace g0 := tC.obelow g0 G (by omega)
  have gb0_0 : u3.cell? ⟨u2.heap.size, 0, none⟩ = some (.slice Ag0 ng0 cg0) := by rw [bb.cell (by simp)]; simp [go_sem]
  replace B := bel_trans B G
  clear G bb G0
  replace lt0 : u1.heap.size < u3.heap.size := by omega
  have lt1 : u2.heap.size < u3.heap.size := by omega
  go_wp2_with fail
  refine (nf_mark_C _ _ _ _ _ _ _ _ g0 (by omega) (by omega)).mono ?_
  rintro e u4 ⟨rfl, g0, mm⟩
  have zu4 : u3.heap.size ≤ u4.heap.size := mm.size
  replace wb0_0 : u4.cell? ⟨u1.heap.size, 0, none⟩ = some (.slice Aw0 nw0 cw0) := by rw [World.cell?_of_block (mm.block _ (by first | omega | (simp; done) | (simp; omega)) (by first | (simp [Iv]; done) | (simp [Iv]; omega)))]; exact wb0_0
  replace gb0_0 : u4.cell? ⟨u2.heap.size, 0, none⟩ = some (.slice Ag0 ng0 cg0) := by rw [World.cell?_of_block (mm.block _ (by first | omega | (simp; done) | (simp; omega)) (by first | (simp [Iv]; done) | (simp [Iv]; omega)))]; exact gb0_0
  replace w0 := tC.ochg w0 mm (by simp only [Iv]; omega)
  replace B : Below w.heap.size w u4 := B.trans (mm.toBelow (by simp only [Iv]; omega) (by omega))
  clear mm
  replace lt0 : u1.heap.size < u4.heap.size := by omega
  replace lt1 : u2.heap.size < u4.heap.size := by omega
  go_wp2_with fail
  refine (nf_held_C _ _ _ _ _ _ (tC.read g0) (by omega)).mono ?_
  rintro e u5 ⟨rfl, bb⟩
  have G := bb
  have zu5 : u4.heap.size ≤ u5.heap.size := by have := bb.size; simpa using this
  replace wb0_0 : u5.cell? ⟨u1.heap.size, 0, none⟩ = some (.slice Aw0 nw0 cw0) := by rw [G.cell (by first | omega | (simp; done) | (simp; omega))]; exact wb0_0
  replace gb0_0 : u5.cell? ⟨u2.heap.size, 0, none⟩ = some (.slice Ag0 ng0 cg0) := by rw [G.cell (by first | omega | (simp; done) | (simp; omega))]; exact gb0_0
  replace w0 := tC.obelow w0 G (by omega)
  replace g0 := tC.obelow g0 G (by omega)
  replace B := bel_trans B G
  clear G bb
  replace lt0 : u1.heap.size < u5.heap.size := by omega
  replace lt1 : u2.heap.size < u5.heap.size := by omega
  go_wp2_with fail
  refine (HI.out  _  (by omega) (HT.out.on B)).mono ?_
  rintro e u6 ⟨Ah0, nh0, ch0, rfl, h0, bb⟩
  have G := bb
  have zu6 : u5.heap.size ≤ u6.heap.size := by have := bb.size; simpa using this
  replace wb0_0 : u6.cell? ⟨u1.heap.size, 0, none⟩ = some (.slice Aw0 nw0 cw0) := by rw [G.cell (by first | omega | (simp; done) | (simp; omega))]; exact wb0_0
  replace gb0_0 : u6.cell? ⟨u2.heap.size, 0, none⟩ = some (.slice Ag0 ng0 cg0) := by rw [G.cell (by first | omega | (simp; done) | (simp; omega))]; exact gb0_0
  replace w0 := tC.obelow w0 G (by omega)
  replace g0 := tC.obelow g0 G (by omega)
  replace h0 : tC.O u6 (Iv (u5.heap.size) u6.heap.size) [.slice Ah0 nh0 ch0] z0 := tC.oiv h0 (by simp) (Nat.le_refl _)
  replace B := bel_trans B G
  clear G bb
  replace lt0 : u1.heap.size < u6.heap.size := by omega
  replace lt1 : u2.heap.size < u6.heap.size := by omega
  have G0 : Below u6.heap.size u6 (u6.alloc (.cells #[.slice Ah0 nh0 ch0] 29)) := (Below.refl _ _).alloc (Nat.le_refl _) _
  go_wp2_with fail
  refine (nf_eq_C _ _ _ _ _ _ _ _ (tC.later (tC.read h0) G0) (tC.later (tC.read w0) G0) (by omega)).mono ?_
  rintro e u7 ⟨rfl, bb⟩
  have G := bel_trans G0 bb
  have zu7 : u6.heap.size + 1 ≤ u7.heap.size := by have := bb.size; simp at this; omega
  replace wb0_0 : u7.cell? ⟨u1.heap.size, 0, none⟩ = some (.slice Aw0 nw0 cw0) := by rw [G.cell (by first | omega | (simp; done) | (simp; omega))]; exact wb0_0
  replace gb0_0 : u7.cell? ⟨u2.heap.size, 0, none⟩ = some (.slice Ag0 ng0 cg0) := by rw [G.cell (by first | omega | (simp; done) | (simp; omega))]; exact gb0_0
  replace w0 := tC.obelow w0 G (by omega)
  replace g0 := tC.obelow g0 G (by omega)
  replace h0 := tC.obelow h0 G (by omega)
  have hb0_0 : u7.cell? ⟨u6.heap.size, 0, none⟩ = some (.slice Ah0 nh0 ch0) := by rw [bb.cell (by simp)]; simp [go_sem]
  replace B := bel_trans B G
  clear G bb G0
  replace lt0 : u1.heap.size < u7.heap.size := by omega
  replace lt1 : u2.heap.size < u7.heap.size := by omega
  have lt2 : u6.heap.size < u7.heap.size := by omega
  go_wp2_with fail
  refine (nf_held_C _ _ _ _ _ _ (tC.read g0) (by omega)).mono ?_
  rintro e u8 ⟨rfl, bb⟩
  have G := bb
  have zu8 : u7.heap.size ≤ u8.heap.size := by have := bb.size; simpa using this
  replace wb0_0 : u8.cell? ⟨u1.heap.size, 0, none⟩ = some (.slice Aw0 nw0 cw0) := by rw [G.cell (by first | omega | (simp; done) | (simp; omega))]; exact wb0_0
  replace gb0_0 : u8.cell? ⟨u2.heap.size, 0, none⟩ = some (.slice Ag0 ng0 cg0) := by rw [G.cell (by first | omega | (simp; done) | (simp; omega))]; exact gb0_0
  replace hb0_0 : u8.cell? ⟨u6.heap.size, 0, none⟩ = some (.slice Ah0 nh0 ch0) := by rw [G.cell (by first | omega | (simp; done) | (simp; omega))]; exact hb0_0
  replace w0 := tC.obelow w0 G (by omega)
  replace g0 := tC.obelow g0 G (by omega)
  replace h0 := tC.obelow h0 G (by omega)
  replace B := bel_trans B G
  clear G bb
  replace lt0 : u1.heap.size < u8.heap.size := by omega
  replace lt1 : u2.heap.size < u8.heap.size := by omega
  replace lt2 : u6.heap.size < u8.heap.size := by omega
  go_wp2_with fail
  go_ret
  exact ⟨rfl, B⟩
end Go.Proofs.YtecdendjlgohjaaDoor
namespace Go.Proofs.YtecdendjlgohjaaDoor
open Go.RowKit Go.Sort
set_option maxHeartbeats 2000000
set_option maxRecDepth 100000
theorem M.extract_list (s : ByteArray) (a b : Nat) : s.extract a b = ⟨((s.data.toList.drop a).take (b - a)).toArray⟩ := by
  have h := Lib.extract_toList s a b
  rw [ByteArray.toList_eq] at h
  rw [← h]
/-- What spec.l01Split's rounds keep: a piece ends at place k. -/
theorem M.split_step {c : UInt8} {L : List UInt8} {fr k : Nat} {ls : List (List UInt8)} (H : M.splitBy c L = ls ++ M.splitBy c (L.drop fr)) (hfk : fr ≤ k) (hno : ∀ j, fr ≤ j → j < k → L[j]? ≠ some c) (hk : L[k]? = some c) :
    M.splitBy c L = (ls ++ [(L.drop fr).take (k - fr)]) ++ M.splitBy c (L.drop (k + 1)) := by
  have hlt := (List.getElem?_eq_some_iff.1 hk).1
  have e : L.drop fr = (L.drop fr).take (k - fr) ++ c :: L.drop (k + 1) := by
    have h1 : (L.drop fr).drop (k - fr) = c :: L.drop (k + 1) := by
      rw [List.drop_drop, show fr + (k - fr) = k by omega, ← List.getElem_cons_drop (h := hlt), (List.getElem?_eq_some_iff.1 hk).2]
    rw [← h1, List.take_append_drop]
  have hn : c ∉ (L.drop fr).take (k - fr) := by
    intro hm
    obtain ⟨j, hj, hjc⟩ := List.mem_iff_getElem.1 hm
    rw [List.length_take, List.length_drop] at hj
    rw [List.getElem_take, List.getElem_drop] at hjc
    exact hno (fr + j) (by omega) (by omega) (by rw [List.getElem?_eq_getElem (by omega), hjc])
  have h2 : M.splitBy c (L.drop fr) = (L.drop fr).take (k - fr) :: M.splitBy c (L.drop (k + 1)) := (congrArg (M.splitBy c) e).trans (M.splitBy_at hn)
  rw [H, h2]
  simp
theorem M.split_last {c : UInt8} {L : List UInt8} {fr : Nat} {ls : List (List UInt8)} (H : M.splitBy c L = ls ++ M.splitBy c (L.drop fr)) (hno : ∀ j, fr ≤ j → j < L.length → L[j]? ≠ some c) :
    M.splitBy c L = ls ++ [L.drop fr] := by
  have hn : c ∉ L.drop fr := by
    intro hm
    obtain ⟨j, hj, hjc⟩ := List.mem_iff_getElem.1 hm
    rw [List.length_drop] at hj
    rw [List.getElem_drop] at hjc
    exact hno (fr + j) (by omega) (by omega) (by rw [List.getElem?_eq_getElem (by omega), hjc])
  rw [H, M.splitBy_none hn]
theorem M.strs_push (ls : List (List UInt8)) (x : List UInt8) : M.strs ls ++ [.string ⟨x.toArray⟩] = M.strs (ls ++ [x]) := by simp [M.strs]
theorem M.data_at {s : ByteArray} {k : Nat} (hk : k < s.size) : s.data.toList[k]? = some s[k] := by
  rw [List.getElem?_eq_getElem (by simpa using hk)]
  rfl
theorem spec_l01Split (s : ByteArray) (c : UInt8) (w : World) (hs : s.size ≤ 1000000000) :
    Calls Tryd.prog 44 #[.string s, .int .u8 c.toNat] w fun e w' => ∃ v, e = .returned v ∧ w'.ownsRow w.heap.size 9 1 v (M.splitBy c s.data.toList).length (M.strs (M.splitBy c s.data.toList)) ∧ Below w.heap.size w w' := by
  obtain ⟨L, hL⟩ : ∃ L, L = s.data.toList := ⟨_, rfl⟩
  have hLl : L.length = s.size := by rw [hL, ← Lib.size_eq]
  have HL := Lib.hid hL
  have HLL := Lib.hid hLl
  rw [← hL]
  clear hL hLl
  go_enter Tryd.func44, Tryd.ntmps44
  go_wp2
  go_loopw [5, 6, 7] (fun v f i wr => ∃ (k fr : Nat) (ls : List (List UInt8)), i = .int .i64 k ∧ f = .int .i64 fr ∧ k ≤ s.size ∧ fr ≤ k ∧ wr.ownsRow w.heap.size 9 1 v ls.length (M.strs ls) ∧ ls.length ≤ k ∧ Hid (M.splitBy c L = ls ++ M.splitBy c (L.drop fr)) ∧ Hid (∀ j, fr ≤ j → j < k → L[j]? ≠ some c) ∧ Below w.heap.size w wr)
    (fun _ _ i _ => s.size - (intOf i).toNat)
  case atStart => exact ⟨0, 0, [], rfl, rfl, by omega, by omega, World.ownsRow_made _ _ _ (Nat.le_refl _) (by simp [maxLen]) rfl, by simp, Lib.hid (by simp), Lib.hid (by omega), (Below.refl _ _).alloc (Nat.le_refl _) _⟩
  case round =>
    obtain ⟨k, fr, ls, rfl, rfl, hk, hfr, own, hll, H, HN, hb⟩ := hrel
    by_cases hlt : k < s.size
    · have hat := Lib.hid (show L[k]? = some s[k] by rw [HL.out]; exact M.data_at hlt)
      by_cases hc : s[k] = c
      · have e1 : ((s[k].toNat : Int) == (c.toNat : Int)) = true := by rw [hc]; exact beq_self_eq_true _
        have HC := Lib.hid hc
        clear hc
        go_wp2_with (at_builtin; refine wpList_push1 ei_str rfl _ _ rfl own rfl rfl rfl (by unfold maxLen; omega) (by omega) hb.size ?_; intro v1 w1 own1 gr1 bel1)
        go_roundw
        case rel =>
          refine ⟨k + 1, k + 1, ls ++ [(L.drop fr).take (k - fr)], by go_num, by go_num, by omega, by omega, ?_, by simp; omega, Lib.hid (M.split_step H.out hfr HN.out (by rw [hat.out, HC.out])), Lib.hid (by omega), hb.trans bel1⟩
          rw [M.extract_list, ← HL.out, M.strs_push] at own1
          rw [List.length_append]
          exact own1
        case measure => simp [intOf]; omega
      · have e1 : ((s[k].toNat : Int) == (c.toNat : Int)) = false := by
          rw [beq_eq_false_iff_ne]
          intro e
          exact hc (UInt8.toNat_inj.1 (by omega))
        have HC := Lib.hid hc
        clear hc
        go_wp2
        go_roundw
        case rel =>
          refine ⟨k + 1, fr, ls, by go_num, rfl, by omega, by omega, own, by omega, H, Lib.hid (fun j h1 h2 => ?_), hb⟩
          rcases Nat.lt_or_ge j k with h3 | h3
          · exact HN.out j h1 h3
          · obtain rfl : j = k := by omega
            rw [hat.out]
            intro e
            exact HC.out (Option.some.inj e)
        case measure => simp [intOf]; omega
    · obtain rfl : k = s.size := by omega
      go_wp2_with (at_builtin; refine wpList_push1 ei_str rfl _ _ rfl own rfl rfl rfl (by unfold maxLen; omega) (by omega) hb.size ?_; intro v1 w1 own1 gr1 bel1)
      go_ret
      have hF := M.split_last H.out (by rw [HLL.out]; exact HN.out)
      refine ⟨_, rfl, ?_, hb.trans bel1⟩
      rw [hF, List.length_append]
      rw [M.extract_list, ← HL.out, M.strs_push, ← HLL.out, List.take_of_length_le (by rw [List.length_drop]; exact Nat.le_refl _)] at own1
      exact own1
end Go.Proofs.YtecdendjlgohjaaDoor
