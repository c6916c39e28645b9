import Derived.Test.YtfkcoiefkjmdeaaGreatFnGainsG1
import Derived.Deep.RegionLaw
import Derived.Lib.SliceRun
import Derived.Laws.IdiomStrings
import Derived.Lib.Strings
import Derived.Maps.OwnOps
import Derived.Maps.OwnSet
import Derived.StringKeys
import Derived.Lib.QuietBelow
set_option linter.unusedVariables false
set_option linter.unusedSimpArgs false
namespace Go.Proofs.YtfkcoiefkjmdeaaGreat
open Go.RowKit Go.Sort
set_option maxHeartbeats 1000000
set_option maxRecDepth 100000
abbrev Clip := Int × Int × Int × Int × Int
def M.clipOk (p : Clip) : Bool := M.inn p.1 0 5 && M.inn p.2.2.1 1 4000 && M.inn p.2.1 0 (4000 - p.2.2.1) && M.inn p.2.2.2.1 0 (4000 - p.2.2.1) && M.smp p.2.2.2.2
def M.cz : Clip := (0, 0, 0, 0, 0)
def M.afterT (xs : List Clip) (k : Nat) : Bool := k == 0 || decide (((xs[k - 1]?).getD M.cz).2.2.2.1 ≤ ((xs[k]?).getD M.cz).2.2.2.1)
def M.stepT (xs : List Clip) (k : Nat) : Bool := M.clipOk ((xs[k]?).getD M.cz) && M.afterT xs k
def M.trackOk (xs : List Clip) : Bool := (List.range xs.length).all (M.stepT xs) && decide (xs.length ≤ 12)
theorem M.len_wrap {l : Int} (h : M.inn l 1 4000 = true) : IntKind.i64.wrap (4000 - l) = 4000 - l ∧ 1 ≤ l ∧ l ≤ 4000 := by
  have := M.inn_iff.1 h
  exact ⟨IntWalk.i64_in _ (by omega), this⟩
theorem impl_isClip (a b c d e : Int) (w : World) : Calls Tryz.prog 98 #[.agg #[.int .i64 a, .int .i64 b, .int .i64 c, .int .i64 d, .int .i64 e]] w fun en w' => en = .returned (.bool (M.clipOk (a, b, c, d, e))) ∧ Below w.heap.size w w' := by
  cases h1 : M.inn a 0 5
  · go_enter Tryz.func98, Tryz.ntmps98
    go_wp2_with (first | (go_at_call 56; refine (impl_within _ _ _ _).mono ?_; rintro e w' ⟨rfl, rfl⟩) | (go_at_call 106; refine (impl_isSample _ _).mono ?_; rintro e w' ⟨rfl, rfl⟩))
    go_ret
    exact ⟨ret_bool (by simp [M.clipOk, h1]), (Below.refl _ _).alloc (Nat.le_refl _) _⟩
  · cases h2 : M.inn c 1 4000
    · go_enter Tryz.func98, Tryz.ntmps98
      go_wp2_with (first | (go_at_call 56; refine (impl_within _ _ _ _).mono ?_; rintro e w' ⟨rfl, rfl⟩) | (go_at_call 106; refine (impl_isSample _ _).mono ?_; rintro e w' ⟨rfl, rfl⟩))
      go_ret
      exact ⟨ret_bool (by simp [M.clipOk, h1, h2]), (Below.refl _ _).alloc (Nat.le_refl _) _⟩
    · obtain ⟨hw, hl1, hl2⟩ := M.len_wrap h2
      clear hw
      cases h3 : M.inn b 0 (4000 - c)
      · go_enter Tryz.func98, Tryz.ntmps98
        go_wp2_with (first | (go_at_call 56; refine (impl_within _ _ _ _).mono ?_; rintro e w' ⟨rfl, rfl⟩) | (go_at_call 106; refine (impl_isSample _ _).mono ?_; rintro e w' ⟨rfl, rfl⟩))
        go_ret
        exact ⟨ret_bool (by simp [M.clipOk, h1, h2, h3]), (Below.refl _ _).alloc (Nat.le_refl _) _⟩
      · cases h4 : M.inn d 0 (4000 - c)
        · go_enter Tryz.func98, Tryz.ntmps98
          go_wp2_with (first | (go_at_call 56; refine (impl_within _ _ _ _).mono ?_; rintro e w' ⟨rfl, rfl⟩) | (go_at_call 106; refine (impl_isSample _ _).mono ?_; rintro e w' ⟨rfl, rfl⟩))
          go_ret
          exact ⟨ret_bool (by simp [M.clipOk, h1, h2, h3, h4]), (Below.refl _ _).alloc (Nat.le_refl _) _⟩
        · cases h5 : M.smp e
          all_goals
            go_enter Tryz.func98, Tryz.ntmps98
            go_wp2_with (first | (go_at_call 56; refine (impl_within _ _ _ _).mono ?_; rintro e w' ⟨rfl, rfl⟩) | (go_at_call 106; refine (impl_isSample _ _).mono ?_; rintro e w' ⟨rfl, rfl⟩))
            go_ret
            exact ⟨ret_bool (by simp [M.clipOk, h1, h2, h3, h4, h5]), (Below.refl _ _).alloc (Nat.le_refl _) _⟩
theorem spec_l23Clip (b o : Nat) (p : Clip) (w : World) (g0 : w.cell? ⟨b, o, none⟩ = some (.int .i64 p.1)) (g1 : w.cell? ⟨b, o + 1, none⟩ = some (.int .i64 p.2.1)) (g2 : w.cell? ⟨b, o + 2, none⟩ = some (.int .i64 p.2.2.1)) (g3 : w.cell? ⟨b, o + 3, none⟩ = some (.int .i64 p.2.2.2.1)) (g4 : w.cell? ⟨b, o + 4, none⟩ = some (.int .i64 p.2.2.2.2)) :
    Calls Tryz.prog 49 #[.pointer (some ⟨b, o, none⟩)] w fun en w' => en = .returned (.bool (M.clipOk p)) ∧ ∃ m, w' = w.drewN m := by
  obtain ⟨a, f, l, t, q⟩ := p
  simp only at g0 g1 g2 g3 g4
  cases h1 : M.inn a 0 5
  · go_enter Tryz.func49, Tryz.ntmps49
    go_wp2_with (first | (go_at_call 25; refine (spec_l00In _ _ _ _).mono ?_; rintro e w' ⟨rfl, rfl⟩) | (go_at_call 30; refine (spec_l01Sample _ _).mono ?_; rintro e w' ⟨rfl, rfl⟩))
    go_ret
    exact ⟨ret_bool (by simp [M.clipOk, h1]), 0, rfl⟩
  · cases h2 : M.inn l 1 4000
    · go_enter Tryz.func49, Tryz.ntmps49
      go_wp2_with (first | (go_at_call 25; refine (spec_l00In _ _ _ _).mono ?_; rintro e w' ⟨rfl, rfl⟩) | (go_at_call 30; refine (spec_l01Sample _ _).mono ?_; rintro e w' ⟨rfl, rfl⟩))
      go_ret
      exact ⟨ret_bool (by simp [M.clipOk, h1, h2]), 0, rfl⟩
    · cases h5 : M.smp q
      · go_enter Tryz.func49, Tryz.ntmps49
        go_wp2_with (first | (go_at_call 25; refine (spec_l00In _ _ _ _).mono ?_; rintro e w' ⟨rfl, rfl⟩) | (go_at_call 30; refine (spec_l01Sample _ _).mono ?_; rintro e w' ⟨rfl, rfl⟩))
        go_ret
        exact ⟨ret_bool (by simp [M.clipOk, h1, h2, h5]), 0, rfl⟩
      · obtain ⟨hw, hl1, hl2⟩ := M.len_wrap h2
        have hw0 : (0 : Int) ≤ 4000 - l := by omega
        cases h3 : M.inn f 0 (4000 - l)
        · have c1 : ∀ m, Calls Tryz.prog 25 #[.int .i64 f, .int .i64 0, .int .i64 (4000 - l)] (w.drewN m) fun e w'' => e = .returned (.bool false) ∧ ∃ m', w'' = w.drewN m' := fun m => quiet_left (by have h := spec_l00In f 0 (4000 - l) (w.drewN m); rw [h3] at h; exact h)
          go_enter Tryz.func49, Tryz.ntmps49
          go_wp2_with (first | (go_at_call 25; refine (spec_l00In _ _ _ _).mono ?_; rintro e w' ⟨rfl, rfl⟩) | (go_at_call 30; refine (spec_l01Sample _ _).mono ?_; rintro e w' ⟨rfl, rfl⟩))
          go_quiet (first | (go_at_call_of 25 (Value.int .i64 f); exact c1 _))
          go_wp2
          go_ret
          exact ⟨ret_bool (by simp [M.clipOk, h1, h2, h3, h5]), _, rfl⟩
        · cases h4 : M.inn t 0 (4000 - l)
          · have c1 : ∀ m, Calls Tryz.prog 25 #[.int .i64 f, .int .i64 0, .int .i64 (4000 - l)] (w.drewN m) fun e w'' => e = .returned (.bool true) ∧ ∃ m', w'' = w.drewN m' := fun m => quiet_left (by have h := spec_l00In f 0 (4000 - l) (w.drewN m); rw [h3] at h; exact h)
            have c2 : ∀ m, Calls Tryz.prog 25 #[.int .i64 t, .int .i64 0, .int .i64 (4000 - l)] (w.drewN m) fun e w'' => e = .returned (.bool false) ∧ ∃ m', w'' = w.drewN m' := fun m => quiet_left (by have h := spec_l00In t 0 (4000 - l) (w.drewN m); rw [h4] at h; exact h)
            go_enter Tryz.func49, Tryz.ntmps49
            go_wp2_with (first | (go_at_call 25; refine (spec_l00In _ _ _ _).mono ?_; rintro e w' ⟨rfl, rfl⟩) | (go_at_call 30; refine (spec_l01Sample _ _).mono ?_; rintro e w' ⟨rfl, rfl⟩))
            go_quiet (first | (go_at_call_of 25 (Value.int .i64 f); exact c1 _) | (go_at_call_of 25 (Value.int .i64 t); exact c2 _))
            go_wp2
            go_ret
            exact ⟨ret_bool (by simp [M.clipOk, h1, h2, h3, h4, h5]), _, rfl⟩
          · have c1 : ∀ m, Calls Tryz.prog 25 #[.int .i64 f, .int .i64 0, .int .i64 (4000 - l)] (w.drewN m) fun e w'' => e = .returned (.bool true) ∧ ∃ m', w'' = w.drewN m' := fun m => quiet_left (by have h := spec_l00In f 0 (4000 - l) (w.drewN m); rw [h3] at h; exact h)
            have c2 : ∀ m, Calls Tryz.prog 25 #[.int .i64 t, .int .i64 0, .int .i64 (4000 - l)] (w.drewN m) fun e w'' => e = .returned (.bool true) ∧ ∃ m', w'' = w.drewN m' := fun m => quiet_left (by have h := spec_l00In t 0 (4000 - l) (w.drewN m); rw [h4] at h; exact h)
            go_enter Tryz.func49, Tryz.ntmps49
            go_wp2_with (first | (go_at_call 25; refine (spec_l00In _ _ _ _).mono ?_; rintro e w' ⟨rfl, rfl⟩) | (go_at_call 30; refine (spec_l01Sample _ _).mono ?_; rintro e w' ⟨rfl, rfl⟩))
            go_quiet (first | (go_at_call_of 25 (Value.int .i64 f); exact c1 _) | (go_at_call_of 25 (Value.int .i64 t); exact c2 _))
            go_wp2
            go_ret
            exact ⟨ret_bool (by simp [M.clipOk, h1, h2, h3, h4, h5]), _, rfl⟩
theorem impl_isTrack (A : Option Addr) (n c : Nat) (xs : List Clip) (w : World) (hx : RA cl 5 w w.heap.size A n xs) (hn : n ≤ 1000000000) :
    Calls Tryz.prog 68 #[.agg #[.slice A n c]] w fun e w' => e = .returned (.bool (M.trackOk xs)) ∧ Below w.heap.size w w' := by
  have hl := Lib.hid hx.len
  have hbw : Below w.heap.size w (w.alloc (.cells #[.slice A n c] 42)) := (Below.refl _ _).alloc (Nat.le_refl _) _
  have hself := lay_cell w (.slice A n c) 42
  have hsize : (w.alloc (.cells #[.slice A n c] 42)).heap.size = w.heap.size + 1 := by simp
  go_enter Tryz.func68, Tryz.ntmps68
  go_wp2
  go_loopw [3, 4, 8] (fun _ _ i wr => ∃ k : Nat, i = .int .i64 k ∧ k ≤ n ∧ Hid (∀ j, j < k → M.stepT xs j = true) ∧ Below (w.heap.size + 1) (w.alloc (.cells #[.slice A n c] 42)) wr) (fun _ _ i _ => n - (intOf i).toNat)
  case atStart => exact ⟨0, rfl, by omega, Lib.hid (by omega), Below.refl _ _⟩
  case round =>
    obtain ⟨k, rfl, hk, H, hb⟩ := hrel
    have hbb : Below w.heap.size w wr := hbw.trans (hb.mono (by omega))
    have hsz : w.heap.size + 1 ≤ wr.heap.size := by rw [← hsize]; exact hb.size
    have hv : wr.cell? ⟨w.heap.size, 0, none⟩ = some (.slice A n c) := by rw [hb.cell (by simp)]; exact hself
    by_cases hlt : k < n
    · obtain ⟨b, o, ⟨p0, p1, p2, p3, p4⟩, rfl, hab, X, hc⟩ := (hx.below hbb).at cl_len (by decide) hlt
      have hc0 : wr.cell? ⟨b, o + k * 5, none⟩ = some (.int .i64 p0) := hc 0 _ rfl
      have hc1 : wr.cell? ⟨b, o + k * 5 + 1, none⟩ = some (.int .i64 p1) := hc 1 _ rfl
      have hc2 : wr.cell? ⟨b, o + k * 5 + 2, none⟩ = some (.int .i64 p2) := hc 2 _ rfl
      have hc3 : wr.cell? ⟨b, o + k * 5 + 3, none⟩ = some (.int .i64 p3) := hc 3 _ rfl
      have hc4 : wr.cell? ⟨b, o + k * 5 + 4, none⟩ = some (.int .i64 p4) := hc 4 _ rfl
      clear hc
      obtain ⟨⟨r0, r1, r2, r3, r4⟩, Z, hr⟩ := (hx.below hbb).cells cl_len (by decide) (k := k - 1) (by omega)
      have hr0 : wr.cell? ⟨b, o + (k - 1) * 5 + 3, none⟩ = some (.int .i64 r3) := hr 3 _ rfl
      clear hr
      have hs4 : (wr.alloc (.cells #[.int .i64 p0, .int .i64 p1, .int .i64 p2, .int .i64 p3, .int .i64 p4] 64)).heap.size = wr.heap.size + 1 := by simp
      have hbr : b < (wr.alloc (.cells #[.int .i64 p0, .int .i64 p1, .int .i64 p2, .int .i64 p3, .int .i64 p4] 64)).heap.size := by omega
      have hbv : w.heap.size < (wr.alloc (.cells #[.int .i64 p0, .int .i64 p1, .int .i64 p2, .int .i64 p3, .int .i64 p4] 64)).heap.size := by omega
      have hbn : wr.heap.size < (wr.alloc (.cells #[.int .i64 p0, .int .i64 p1, .int .i64 p2, .int .i64 p3, .int .i64 p4] 64)).heap.size := by omega
      have qa0 : (wr.alloc (.cells #[.int .i64 p0, .int .i64 p1, .int .i64 p2, .int .i64 p3, .int .i64 p4] 64)).cell? ⟨wr.heap.size, 0, none⟩ = some (.int .i64 p0) := by rw [cell_of_row _ wr.heap.size 0 _ 64 (0, 0) (heap_alloc_new wr _)]; rfl
      have qa1 : (wr.alloc (.cells #[.int .i64 p0, .int .i64 p1, .int .i64 p2, .int .i64 p3, .int .i64 p4] 64)).cell? ⟨wr.heap.size, 1, none⟩ = some (.int .i64 p1) := by rw [cell_of_row _ wr.heap.size 1 _ 64 (0, 0) (heap_alloc_new wr _)]; rfl
      have qa2 : (wr.alloc (.cells #[.int .i64 p0, .int .i64 p1, .int .i64 p2, .int .i64 p3, .int .i64 p4] 64)).cell? ⟨wr.heap.size, 2, none⟩ = some (.int .i64 p2) := by rw [cell_of_row _ wr.heap.size 2 _ 64 (0, 0) (heap_alloc_new wr _)]; rfl
      have qa3 : (wr.alloc (.cells #[.int .i64 p0, .int .i64 p1, .int .i64 p2, .int .i64 p3, .int .i64 p4] 64)).cell? ⟨wr.heap.size, 3, none⟩ = some (.int .i64 p3) := by rw [cell_of_row _ wr.heap.size 3 _ 64 (0, 0) (heap_alloc_new wr _)]; rfl
      have qa4 : (wr.alloc (.cells #[.int .i64 p0, .int .i64 p1, .int .i64 p2, .int .i64 p3, .int .i64 p4] 64)).cell? ⟨wr.heap.size, 4, none⟩ = some (.int .i64 p4) := by rw [cell_of_row _ wr.heap.size 4 _ 64 (0, 0) (heap_alloc_new wr _)]; rfl
      have q2 : (wr.alloc (.cells #[.int .i64 p0, .int .i64 p1, .int .i64 p2, .int .i64 p3, .int .i64 p4] 64)).cell? ⟨w.heap.size, 0, none⟩ = some (.slice (some ⟨b, o, none⟩) n c) := by rw [World.cell?_alloc_lt _ _ _ (by simp; omega)]; exact hv
      have q3 : (wr.alloc (.cells #[.int .i64 p0, .int .i64 p1, .int .i64 p2, .int .i64 p3, .int .i64 p4] 64)).cell? ⟨b, o + (k - 1) * 5 + 3, none⟩ = some (.int .i64 r3) := by rw [World.cell?_alloc_lt _ _ _ (by simp; omega)]; exact hr0
      have hb4 : Below (w.heap.size + 1) (w.alloc (.cells #[.slice (some ⟨b, o, none⟩) n c] 42)) (wr.alloc (.cells #[.int .i64 p0, .int .i64 p1, .int .i64 p2, .int .i64 p3, .int .i64 p4] 64)) := hb.alloc (by omega) _
      have hp0 := Lib.hid (show (xs[k]?).getD M.cz = (p0, p1, p2, p3, p4) by rw [X.out]; rfl)
      have hz0 := Lib.hid (show (xs[k - 1]?).getD M.cz = (r0, r1, r2, r3, r4) by rw [Z.out]; rfl)
      cases hp : M.clipOk (p0, p1, p2, p3, p4)
      · have hno := Lib.hid (show M.trackOk xs = false by rw [M.trackOk, M.all_not (k := k) (by rw [hl.out]; exact hlt) (by rw [M.stepT, hp0.out, hp, Bool.false_and]), Bool.false_and])
        go_wp2
        generalize hw4 : wr.alloc (.cells #[.int .i64 p0, .int .i64 p1, .int .i64 p2, .int .i64 p3, .int .i64 p4] 64) = w4 at qa0 qa1 qa2 qa3 qa4 q2 q3 hbr hbv hbn hb4 ⊢
        clear hw4 hs4
        have cP : ∀ d os, Calls Tryz.prog 98 #[.agg #[.int .i64 p0, .int .i64 p1, .int .i64 p2, .int .i64 p3, .int .i64 p4]] (grow (redrawn w4 d) os) fun e w'' => e = .returned (.bool false) ∧ ∃ p : Regrown, w'' = grow (redrawn w4 p.d) p.os := fun d os => Calls.regrown_of (by have h := impl_isClip p0 p1 p2 p3 p4 (grow (redrawn w4 d) os); rw [hp] at h; exact h)
        have ka0 := cell_regrown qa0
        have ka1 := cell_regrown qa1
        have ka2 := cell_regrown qa2
        have ka3 := cell_regrown qa3
        have ka4 := cell_regrown qa4
        have k2' := cell_regrown q2
        have k3' := cell_regrown q3
        clear qa0 qa1 qa2 qa3 qa4 q2 q3
        (refine wp_region_quiet_below (by kernel_rfl) (by kernel_rfl) ?_; (repeat (go_big_quiet_step (exact cP _ _))); refine wpQuiet_nil ?_; intro _ hw'; obtain ⟨⟨dq, osq⟩, hw''⟩ := hw'; subst hw'')
        go_wp2
        go_ret
        exact ⟨ret_bool (by rw [hno.out]), hbw.trans ((hb4.trans ((below_regrown w4 dq osq).mono (by rw [← hsize]; exact hb4.size))).mono (by omega))⟩
      · by_cases hk0 : k = 0
        · have hyes := Lib.hid (show M.stepT xs k = true by rw [M.stepT, hp0.out, hp, M.afterT, hk0]; rfl)
          have hd : decide (0 < k) = false := by rw [hk0]; rfl
          have hd2 : ¬ 0 < k := by omega
          clear hk0
          go_wp2
          generalize hw4 : wr.alloc (.cells #[.int .i64 p0, .int .i64 p1, .int .i64 p2, .int .i64 p3, .int .i64 p4] 64) = w4 at qa0 qa1 qa2 qa3 qa4 q2 q3 hbr hbv hbn hb4 ⊢
          clear hw4 hs4
          have cP : ∀ d os, Calls Tryz.prog 98 #[.agg #[.int .i64 p0, .int .i64 p1, .int .i64 p2, .int .i64 p3, .int .i64 p4]] (grow (redrawn w4 d) os) fun e w'' => e = .returned (.bool true) ∧ ∃ p : Regrown, w'' = grow (redrawn w4 p.d) p.os := fun d os => Calls.regrown_of (by have h := impl_isClip p0 p1 p2 p3 p4 (grow (redrawn w4 d) os); rw [hp] at h; exact h)
          have ka0 := cell_regrown qa0
          have ka1 := cell_regrown qa1
          have ka2 := cell_regrown qa2
          have ka3 := cell_regrown qa3
          have ka4 := cell_regrown qa4
          have k2' := cell_regrown q2
          have k3' := cell_regrown q3
          clear qa0 qa1 qa2 qa3 qa4 q2 q3
          (refine wp_region_quiet_below (by kernel_rfl) (by kernel_rfl) ?_; (repeat (go_big_quiet_step (exact cP _ _))); refine wpQuiet_nil ?_; intro _ hw'; obtain ⟨⟨dq, osq⟩, hw''⟩ := hw'; subst hw'')
          go_wp2
          go_roundw
          case rel => exact ⟨k + 1, by go_num, by omega, Lib.hid (fun j hj => by rcases Nat.lt_succ_iff_lt_or_eq.1 hj with h | h; exact H.out j h; rw [h]; exact hyes.out), hb4.trans ((below_regrown w4 dq osq).mono (by rw [← hsize]; exact hb4.size))⟩
          case measure => simp [intOf]; omega
        · have hkk : IntKind.i64.wrap ((k : Int) - 1) = ((k - 1 : Nat) : Int) := by rw [IntWalk.i64_in _ (by omega)]; omega
          have hk1n : ((k - 1 : Nat) : Int) < (n : Int) := by omega
          have hd : decide (0 < k) = true := decide_eq_true (by omega)
          by_cases hge : p3 < r3
          · have hno := Lib.hid (show M.trackOk xs = false by rw [M.trackOk, M.all_not (k := k) (by rw [hl.out]; exact hlt) (by rw [M.stepT, hp0.out, hp, M.afterT, hp0.out, hz0.out]; simp [hk0]; omega), Bool.false_and])
            go_wp2
            generalize hw4 : wr.alloc (.cells #[.int .i64 p0, .int .i64 p1, .int .i64 p2, .int .i64 p3, .int .i64 p4] 64) = w4 at qa0 qa1 qa2 qa3 qa4 q2 q3 hbr hbv hbn hb4 ⊢
            clear hw4 hs4
            have cP : ∀ d os, Calls Tryz.prog 98 #[.agg #[.int .i64 p0, .int .i64 p1, .int .i64 p2, .int .i64 p3, .int .i64 p4]] (grow (redrawn w4 d) os) fun e w'' => e = .returned (.bool true) ∧ ∃ p : Regrown, w'' = grow (redrawn w4 p.d) p.os := fun d os => Calls.regrown_of (by have h := impl_isClip p0 p1 p2 p3 p4 (grow (redrawn w4 d) os); rw [hp] at h; exact h)
            have ka0 := cell_regrown qa0
            have ka1 := cell_regrown qa1
            have ka2 := cell_regrown qa2
            have ka3 := cell_regrown qa3
            have ka4 := cell_regrown qa4
            have k2' := cell_regrown q2
            have k3' := cell_regrown q3
            clear qa0 qa1 qa2 qa3 qa4 q2 q3
            (refine wp_region_quiet_below (by kernel_rfl) (by kernel_rfl) ?_; (repeat (go_big_quiet_step (exact cP _ _))); refine wpQuiet_nil ?_; intro _ hw'; obtain ⟨⟨dq, osq⟩, hw''⟩ := hw'; subst hw'')
            go_wp2
            go_ret
            exact ⟨ret_bool (by rw [hno.out]), hbw.trans ((hb4.trans ((below_regrown w4 dq osq).mono (by rw [← hsize]; exact hb4.size))).mono (by omega))⟩
          · have hyes := Lib.hid (show M.stepT xs k = true by rw [M.stepT, hp0.out, hp, M.afterT, hp0.out, hz0.out]; simp; omega)
            go_wp2
            generalize hw4 : wr.alloc (.cells #[.int .i64 p0, .int .i64 p1, .int .i64 p2, .int .i64 p3, .int .i64 p4] 64) = w4 at qa0 qa1 qa2 qa3 qa4 q2 q3 hbr hbv hbn hb4 ⊢
            clear hw4 hs4
            have cP : ∀ d os, Calls Tryz.prog 98 #[.agg #[.int .i64 p0, .int .i64 p1, .int .i64 p2, .int .i64 p3, .int .i64 p4]] (grow (redrawn w4 d) os) fun e w'' => e = .returned (.bool true) ∧ ∃ p : Regrown, w'' = grow (redrawn w4 p.d) p.os := fun d os => Calls.regrown_of (by have h := impl_isClip p0 p1 p2 p3 p4 (grow (redrawn w4 d) os); rw [hp] at h; exact h)
            have ka0 := cell_regrown qa0
            have ka1 := cell_regrown qa1
            have ka2 := cell_regrown qa2
            have ka3 := cell_regrown qa3
            have ka4 := cell_regrown qa4
            have k2' := cell_regrown q2
            have k3' := cell_regrown q3
            clear qa0 qa1 qa2 qa3 qa4 q2 q3
            (refine wp_region_quiet_below (by kernel_rfl) (by kernel_rfl) ?_; (repeat (go_big_quiet_step (exact cP _ _))); refine wpQuiet_nil ?_; intro _ hw'; obtain ⟨⟨dq, osq⟩, hw''⟩ := hw'; subst hw'')
            go_wp2
            go_roundw
            case rel => exact ⟨k + 1, by go_num, by omega, Lib.hid (fun j hj => by rcases Nat.lt_succ_iff_lt_or_eq.1 hj with h | h; exact H.out j h; rw [h]; exact hyes.out), hb4.trans ((below_regrown w4 dq osq).mono (by rw [← hsize]; exact hb4.size))⟩
            case measure => simp [intOf]; omega
    · have hyes := Lib.hid (M.all_upto (n := xs.length) (f := M.stepT xs) (fun j hj => H.out j (by rw [hl.out] at hj; omega)))
      have hres := Lib.hid (show decide (n ≤ 12) = M.trackOk xs by rw [M.trackOk, hyes.out, hl.out, Bool.true_and])
      go_wp2
      go_ret
      exact ⟨ret_bool (by rw [← hres.out]; exact decide_eq_decide.2 (by omega)), hbb⟩
theorem spec_l23Ok (vb : Nat) (A : Option Addr) (n c : Nat) (xs : List Clip) (w : World) (hv0 : w.cell? ⟨vb, 0, none⟩ = some (.slice A n c)) (hx : RA cl 5 w w.heap.size A n xs) (hn : n ≤ 1000000000) :
    Calls Tryz.prog 24 #[.pointer (some ⟨vb, 0, none⟩)] w fun e w' => e = .returned (.bool (M.trackOk xs)) ∧ Below w.heap.size w w' := by
  have hl := Lib.hid hx.len
  have hvb : vb < w.heap.size := World.block_lt_of_cell? w _ hv0
  go_enter Tryz.func24, Tryz.ntmps24
  go_wp2
  go_loopw [3] (fun i wr => ∃ k : Nat, i = .int .i64 k ∧ k ≤ n ∧ Hid (∀ j, j < k → M.stepT xs j = true) ∧ Below w.heap.size w wr) (fun i _ => n - (intOf i).toNat)
  case atStart => exact ⟨0, rfl, by omega, Lib.hid (by omega), Below.refl _ _⟩
  case round =>
    obtain ⟨k, rfl, hk, H, hb⟩ := hrel
    have hv : wr.cell? ⟨vb, 0, none⟩ = some (.slice A n c) := by rw [hb.cell (by simpa using hvb)]; exact hv0
    by_cases hlt : k < n
    · obtain ⟨b, o, ⟨p0, p1, p2, p3, p4⟩, rfl, hab, X, hc⟩ := (hx.below hb).at cl_len (by decide) hlt
      have hc0 : wr.cell? ⟨b, o + k * 5, none⟩ = some (.int .i64 p0) := hc 0 _ rfl
      have hc1 : wr.cell? ⟨b, o + k * 5 + 1, none⟩ = some (.int .i64 p1) := hc 1 _ rfl
      have hc2 : wr.cell? ⟨b, o + k * 5 + 2, none⟩ = some (.int .i64 p2) := hc 2 _ rfl
      have hc3 : wr.cell? ⟨b, o + k * 5 + 3, none⟩ = some (.int .i64 p3) := hc 3 _ rfl
      have hc4 : wr.cell? ⟨b, o + k * 5 + 4, none⟩ = some (.int .i64 p4) := hc 4 _ rfl
      clear hc
      obtain ⟨⟨r0, r1, r2, r3, r4⟩, Z, hr⟩ := (hx.below hb).cells cl_len (by decide) (k := k - 1) (by omega)
      have hr0 : wr.cell? ⟨b, o + (k - 1) * 5 + 3, none⟩ = some (.int .i64 r3) := hr 3 _ rfl
      clear hr
      have hp0 := Lib.hid (show (xs[k]?).getD M.cz = (p0, p1, p2, p3, p4) by rw [X.out]; rfl)
      have hz0 := Lib.hid (show (xs[k - 1]?).getD M.cz = (r0, r1, r2, r3, r4) by rw [Z.out]; rfl)
      cases hp : M.clipOk (p0, p1, p2, p3, p4)
      · have hno := Lib.hid (show M.trackOk xs = false by rw [M.trackOk, M.all_not (k := k) (by rw [hl.out]; exact hlt) (by rw [M.stepT, hp0.out, hp, Bool.false_and]), Bool.false_and])
        have cP : ∀ m, Calls Tryz.prog 49 #[.pointer (some ⟨b, o + k * 5, none⟩)] (wr.drewN m) fun e w'' => e = .returned (.bool false) ∧ ∃ m', w'' = wr.drewN m' := fun m => by have h := spec_l23Clip b (o + k * 5) (p0, p1, p2, p3, p4) (wr.drewN m) hc0 hc1 hc2 hc3 hc4; rw [hp] at h; exact h.mono fun _ _ ⟨he, q, hq⟩ => ⟨he, m + q, by rw [hq, World.drewN_drewN]⟩
        go_wp2
        go_quiet (exact cP _)
        go_wp2
        go_ret
        exact ⟨ret_bool (by rw [hno.out]), hb.trans (below_drewN (Below.refl _ _) _)⟩
      · by_cases hk0 : k = 0
        · have hyes := Lib.hid (show M.stepT xs k = true by rw [M.stepT, hp0.out, hp, M.afterT, hk0]; rfl)
          have hd : decide (0 < k) = false := by rw [hk0]; rfl
          have hd2 : ¬ 0 < k := by omega
          clear hk0
          have cP : ∀ m, Calls Tryz.prog 49 #[.pointer (some ⟨b, o + k * 5, none⟩)] (wr.drewN m) fun e w'' => e = .returned (.bool true) ∧ ∃ m', w'' = wr.drewN m' := fun m => by have h := spec_l23Clip b (o + k * 5) (p0, p1, p2, p3, p4) (wr.drewN m) hc0 hc1 hc2 hc3 hc4; rw [hp] at h; exact h.mono fun _ _ ⟨he, q, hq⟩ => ⟨he, m + q, by rw [hq, World.drewN_drewN]⟩
          go_wp2
          go_quiet (exact cP _)
          go_wp2
          go_roundw
          case rel => exact ⟨k + 1, by go_num, by omega, Lib.hid (fun j hj => by rcases Nat.lt_succ_iff_lt_or_eq.1 hj with h | h; exact H.out j h; rw [h]; exact hyes.out), hb.trans (below_drewN (Below.refl _ _) _)⟩
          case measure => simp [intOf]; omega
        · have hkk : IntKind.i64.wrap ((k : Int) - 1) = ((k - 1 : Nat) : Int) := by rw [IntWalk.i64_in _ (by omega)]; omega
          have hk1n : ((k - 1 : Nat) : Int) < (n : Int) := by omega
          have hd : decide (0 < k) = true := decide_eq_true (by omega)
          by_cases hge : p3 < r3
          · have hno := Lib.hid (show M.trackOk xs = false by rw [M.trackOk, M.all_not (k := k) (by rw [hl.out]; exact hlt) (by rw [M.stepT, hp0.out, hp, M.afterT, hp0.out, hz0.out]; simp [hk0]; omega), Bool.false_and])
            have cP : ∀ m, Calls Tryz.prog 49 #[.pointer (some ⟨b, o + k * 5, none⟩)] (wr.drewN m) fun e w'' => e = .returned (.bool true) ∧ ∃ m', w'' = wr.drewN m' := fun m => by have h := spec_l23Clip b (o + k * 5) (p0, p1, p2, p3, p4) (wr.drewN m) hc0 hc1 hc2 hc3 hc4; rw [hp] at h; exact h.mono fun _ _ ⟨he, q, hq⟩ => ⟨he, m + q, by rw [hq, World.drewN_drewN]⟩
            go_wp2
            go_quiet (exact cP _)
            go_wp2
            go_ret
            exact ⟨ret_bool (by rw [hno.out]), hb.trans (below_drewN (Below.refl _ _) _)⟩
          · have hyes := Lib.hid (show M.stepT xs k = true by rw [M.stepT, hp0.out, hp, M.afterT, hp0.out, hz0.out]; simp; omega)
            have cP : ∀ m, Calls Tryz.prog 49 #[.pointer (some ⟨b, o + k * 5, none⟩)] (wr.drewN m) fun e w'' => e = .returned (.bool true) ∧ ∃ m', w'' = wr.drewN m' := fun m => by have h := spec_l23Clip b (o + k * 5) (p0, p1, p2, p3, p4) (wr.drewN m) hc0 hc1 hc2 hc3 hc4; rw [hp] at h; exact h.mono fun _ _ ⟨he, q, hq⟩ => ⟨he, m + q, by rw [hq, World.drewN_drewN]⟩
            go_wp2
            go_quiet (exact cP _)
            go_wp2
            go_roundw
            case rel => exact ⟨k + 1, by go_num, by omega, Lib.hid (fun j hj => by rcases Nat.lt_succ_iff_lt_or_eq.1 hj with h | h; exact H.out j h; rw [h]; exact hyes.out), hb.trans (below_drewN (Below.refl _ _) _)⟩
            case measure => simp [intOf]; omega
    · have hyes := Lib.hid (M.all_upto (n := xs.length) (f := M.stepT xs) (fun j hj => H.out j (by rw [hl.out] at hj; omega)))
      have hres := Lib.hid (show decide (n ≤ 12) = M.trackOk xs by rw [M.trackOk, hyes.out, hl.out, Bool.true_and])
      go_wp2
      go_ret
      exact ⟨ret_bool (by rw [← hres.out]; exact decide_eq_decide.2 (by omega)), hb⟩
end Go.Proofs.YtfkcoiefkjmdeaaGreat
namespace Go.Proofs.YtfkcoiefkjmdeaaGreat
open Go.RowKit Go.Sort
set_option maxHeartbeats 400000
set_option maxRecDepth 100000
end Go.Proofs.YtfkcoiefkjmdeaaGreat
namespace Go.Proofs.YtfkcoiefkjmdeaaGreat
open Go.RowKit Go.Sort
set_option maxHeartbeats 400000
set_option maxRecDepth 100000
end Go.Proofs.YtfkcoiefkjmdeaaGreat
namespace Go.Proofs.YtfkcoiefkjmdeaaGreat
open Go.RowKit Go.Sort
set_option maxHeartbeats 400000
set_option maxRecDepth 100000
end Go.Proofs.YtfkcoiefkjmdeaaGreat
namespace Go.Proofs.YtfkcoiefkjmdeaaGreat
open Go.RowKit Go.Sort
set_option maxHeartbeats 400000
set_option maxRecDepth 100000
end Go.Proofs.YtfkcoiefkjmdeaaGreat
namespace Go.Proofs.YtfkcoiefkjmdeaaGreat
open Go.RowKit Go.Sort
set_option maxHeartbeats 400000
set_option maxRecDepth 100000
theorem OA.made0 {α : Type} {enc : α → List Value} {e : TypeId} {s : Nat} (w : World) : OA enc e s w.heap.size (w.alloc (.cells #[] e)).heap.size (w.alloc (.cells #[] e)) (.slice (some ⟨w.heap.size, 0, none⟩) 0 0) [] :=
  OX.of_own (World.ownsRow_made _ _ _ (Nat.le_refl _) (by simp [maxLen]) (by simp))
end Go.Proofs.YtfkcoiefkjmdeaaGreat
namespace Go.Proofs.YtfkcoiefkjmdeaaGreat
open Go.RowKit
set_option maxHeartbeats 400000
set_option maxRecDepth 100000
section
variable {base s n cap g : Nat} {e : TypeId} {cs : List Value} {w : World}
end
section
variable {α : Type} {enc : α → List Value} {s : Nat}
theorem flat_take (henc : ∀ x, (enc x).length = s) (xs : List α) (k : Nat) : (xs.flatMap enc).take (k * s) = (xs.take k).flatMap enc := by
  induction xs generalizing k with
  | nil => simp
  | cons y ys ih =>
    cases k with
    | zero => simp
    | succ k => rw [List.take_succ_cons, List.flatMap_cons, List.flatMap_cons, ← ih, Nat.succ_mul, Nat.add_comm, List.take_append, henc, List.take_of_length_le (by rw [henc]; omega)]; congr 2; omega
theorem flat_drop (henc : ∀ x, (enc x).length = s) (xs : List α) (k : Nat) : (xs.flatMap enc).drop (k * s) = (xs.drop k).flatMap enc := by
  induction xs generalizing k with
  | nil => simp
  | cons y ys ih =>
    cases k with
    | zero => simp
    | succ k => rw [List.drop_succ_cons, List.flatMap_cons, ← ih, Nat.succ_mul, Nat.add_comm, List.drop_append, henc, List.drop_of_length_le (by rw [henc]; omega), List.nil_append]; congr 1; omega
end
theorem RA.reads {α : Type} {enc : α → List Value} {s : Nat} {w : World} {B n : Nat} {A : Option Addr} {xs : List α} (h : RA enc s w B A n xs) : Reads w B s A n (xs.flatMap enc) := h.2
end Go.Proofs.YtfkcoiefkjmdeaaGreat
namespace Go.Proofs.YtfkcoiefkjmdeaaGreat
open Go.RowKit
set_option maxHeartbeats 400000
set_option maxRecDepth 100000
theorem RA.cut {α : Type} {enc : α → List Value} {s B n c k : Nat} {w : World} {A : Option Addr} {xs : List α} (henc : ∀ x, (enc x).length = s) (h : RA enc s w B A n xs) (hk : k ≤ n) (hc : n ≤ c) :
    RA enc s w B (if c = k then A else A.map (·.add (k * s))) (n - k) (xs.drop k) := by
  refine ⟨by rw [List.length_drop, h.1], ?_⟩
  rw [← flat_drop henc]
  exact Reads.cut h.2 hk hc
theorem RA.head {α : Type} {enc : α → List Value} {s B n k : Nat} {w : World} {A : Option Addr} {xs : List α} (henc : ∀ x, (enc x).length = s) (h : RA enc s w B A n xs) (hk : k ≤ n) : RA enc s w B A k (xs.take k) := by
  refine ⟨by rw [List.length_take, h.1]; omega, by rw [flat_len henc, List.length_take, h.1, Nat.min_eq_left hk], fun h0 => ?_⟩
  obtain ⟨ad, e, hb, hc⟩ := h.2.2 (by omega)
  refine ⟨ad, e, hb, fun j u hu => hc j u ?_⟩
  rw [← flat_take henc, List.getElem?_take] at hu
  split at hu
  · exact hu
  · simp at hu
end Go.Proofs.YtfkcoiefkjmdeaaGreat
namespace Go.Proofs.YtfkcoiefkjmdeaaGreat
open Go.RowKit
set_option maxHeartbeats 1000000
set_option maxRecDepth 100000
theorem cls_oneCell (xs : List (Int × Int × Int × Int × Int)) : ∀ u ∈ xs.flatMap cl, u.oneCell' = true := by
  intro u hu
  obtain ⟨p, _, hp⟩ := List.mem_flatMap.1 hu
  simp only [cl, List.mem_cons, List.not_mem_nil, or_false] at hp
  rcases hp with rfl | rfl | rfl | rfl | rfl <;> rfl
end Go.Proofs.YtfkcoiefkjmdeaaGreat
namespace Go.Proofs.YtfkcoiefkjmdeaaGreat
open Go.RowKit
set_option maxHeartbeats 1000000
set_option maxRecDepth 100000
end Go.Proofs.YtfkcoiefkjmdeaaGreat
namespace Go.Proofs.YtfkcoiefkjmdeaaGreat
open Go.RowKit
set_option maxHeartbeats 1000000
set_option maxRecDepth 100000
theorem M.find_some {α : Type} {p : α → Bool} {xs : List α} {k : Nat} {x : α} (hx : xs[k]? = some x) (hp : p x = true) (h : ∀ j, j < k → ∀ y, xs[j]? = some y → p y = false) : xs.findIdx? p = some k := by
  obtain ⟨hk, rfl⟩ := List.getElem?_eq_some_iff.1 hx
  rw [List.findIdx?_eq_some_iff_getElem]
  exact ⟨hk, hp, fun j hj => by rw [h j hj _ (List.getElem?_eq_getElem (by omega))]; exact Bool.false_ne_true⟩
theorem M.find_none {α : Type} {p : α → Bool} {xs : List α} (h : ∀ j, j < xs.length → ∀ y, xs[j]? = some y → p y = false) : xs.findIdx? p = none := by
  rw [List.findIdx?_eq_none_iff]
  intro x hx
  obtain ⟨i, hi, rfl⟩ := List.getElem_of_mem hx
  exact h i hi _ (List.getElem?_eq_getElem hi)
def M.grow (c : Clip) (l : Int) : Clip := (c.1, c.2.1, c.2.2.1 + l, c.2.2.2.1, c.2.2.2.2)
theorem M.track_len {xs : List Clip} (h : M.trackOk xs = true) : xs.length ≤ 12 := by
  rw [M.trackOk, Bool.and_eq_true, decide_eq_true_iff] at h
  exact h.2
theorem M.track_clip {xs : List Clip} (h : M.trackOk xs = true) {k : Nat} {p : Clip} (hk : xs[k]? = some p) : M.clipOk p = true := by
  rw [M.trackOk, Bool.and_eq_true, List.all_eq_true] at h
  have := h.1 k (List.mem_range.2 (List.getElem?_eq_some_iff.1 hk).1)
  rw [M.stepT, Bool.and_eq_true, hk] at this
  exact this.1
theorem M.clip_bd {p : Clip} (h : M.clipOk p = true) : (0 ≤ p.1 ∧ p.1 ≤ 5) ∧ (1 ≤ p.2.2.1 ∧ p.2.2.1 ≤ 4000) ∧ (0 ≤ p.2.1 ∧ p.2.1 ≤ 4000 - p.2.2.1) ∧ (0 ≤ p.2.2.2.1 ∧ p.2.2.2.1 ≤ 4000 - p.2.2.1) ∧ (-2147483648 ≤ p.2.2.2.2 ∧ p.2.2.2.2 ≤ 2147483647) := by
  simp only [M.clipOk, Bool.and_eq_true, M.inn_iff] at h
  exact ⟨h.1.1.1.1, h.1.1.1.2, h.1.1.2, h.1.2, M.smp_bd h.2⟩
def idxInt : Option Nat → Int
  | some i => i
  | none => -1
end Go.Proofs.YtfkcoiefkjmdeaaGreat
namespace Go.Proofs.YtfkcoiefkjmdeaaGreat
open Go.RowKit
/-- What a clip gives to a sample. -/
def M.clipAt (src : List (List Int)) (c : Clip) (i : Int) : Int :=
  if c.2.2.2.1 ≤ i ∧ i < c.2.2.2.1 + c.2.2.1 then c.2.2.2.2 * M.at_ ((src[c.1.toNat]?).getD []) (c.2.1 + (i - c.2.2.2.1)) else 0
def M.trackSum (src : List (List Int)) : List Clip → Int → Int
  | [], _ => 0
  | c :: cs, i => M.clipAt src c i + M.trackSum src cs i
def M.renT (src : List (List Int)) (xs : List Clip) (n : Nat) : List Int := (List.range n).map fun (i : Nat) => wrap32 (M.trackSum src xs (i : Int))
/-- The same, with the first m samples of one more clip. -/
def M.renP (src : List (List Int)) (xs : List Clip) (c : Clip) (m : Nat) (n : Nat) : List Int := (List.range n).map fun (i : Nat) => wrap32 (M.trackSum src xs (i : Int) + if (i : Int) < c.2.2.2.1 + m then M.clipAt src c (i : Int) else 0)
theorem M.renT_len (src : List (List Int)) (xs : List Clip) (n : Nat) : (M.renT src xs n).length = n := by simp [M.renT]
theorem M.renP_len (src : List (List Int)) (xs : List Clip) (c : Clip) (m n : Nat) : (M.renP src xs c m n).length = n := by simp [M.renP]
theorem M.renT_at {src : List (List Int)} {xs : List Clip} {n i : Nat} (h : i < n) : (M.renT src xs n)[i]? = some (wrap32 (M.trackSum src xs (i : Int))) := by simp [M.renT, h]
theorem M.trackSum_app (src : List (List Int)) (xs ys : List Clip) (i : Int) : M.trackSum src (xs ++ ys) i = M.trackSum src xs i + M.trackSum src ys i := by
  induction xs with
  | nil => simp [M.trackSum]
  | cons x xs ih => rw [List.cons_append, M.trackSum, M.trackSum, ih]; omega
theorem M.trackSum_one (src : List (List Int)) (c : Clip) (i : Int) : M.trackSum src [c] i = M.clipAt src c i := by simp [M.trackSum]
theorem M.renT_nil (src : List (List Int)) (n : Nat) : M.renT src [] n = List.replicate n 0 := by
  apply List.ext_getElem?
  intro i
  by_cases h : i < n
  · rw [M.renT_at h, M.trackSum]
    simp [h]
    unfold wrap32
    omega
  · rw [List.getElem?_eq_none (by rw [M.renT_len]; omega), List.getElem?_eq_none (by simp; omega)]
theorem M.renP_zero (src : List (List Int)) (xs : List Clip) (c : Clip) (n : Nat) : M.renP src xs c 0 n = M.renT src xs n := by
  refine List.map_congr_left fun i _ => ?_
  congr 1
  unfold M.clipAt
  split
  · rw [if_neg (by omega)]; omega
  · omega
theorem M.renP_end (src : List (List Int)) (xs : List Clip) (c : Clip) (m n : Nat) (h : c.2.2.1 ≤ m ∨ (n : Int) ≤ c.2.2.2.1 + m) : M.renP src xs c m n = M.renT src (xs ++ [c]) n := by
  refine List.map_congr_left fun i hi => ?_
  have hi := List.mem_range.1 hi
  rw [M.trackSum_app, M.trackSum_one]
  congr 1
  split
  · rfl
  · unfold M.clipAt
    rw [if_neg (by omega)]
theorem M.renP_at {src : List (List Int)} {xs : List Clip} {c : Clip} {m n p : Nat} (hp : p < n) (e : (p : Int) = c.2.2.2.1 + m) : (M.renP src xs c m n)[p]? = some (wrap32 (M.trackSum src xs (p : Int))) := by
  simp only [M.renP, List.getElem?_map, List.getElem?_range hp, Option.map_some]
  rw [if_neg (by omega), Int.add_zero]
theorem M.renP_step {src : List (List Int)} {xs : List Clip} {c : Clip} {m n p : Nat} (hp : p < n) (e : (p : Int) = c.2.2.2.1 + m) (hm : (m : Int) < c.2.2.1) :
    (M.renP src xs c m n).set p (wrap32 (wrap32 (M.trackSum src xs (p : Int)) + c.2.2.2.2 * M.at_ ((src[c.1.toNat]?).getD []) (c.2.1 + m))) = M.renP src xs c (m + 1) n := by
  apply List.ext_getElem?
  intro i
  rw [List.getElem?_set]
  by_cases hi : p = i
  · subst hi
    rw [if_pos rfl, if_pos (by rw [M.renP_len]; exact hp)]
    simp only [M.renP, List.getElem?_map, List.getElem?_range hp, Option.map_some]
    rw [if_pos (by omega), M.clipAt, if_pos (by omega), M.wrap32_addl, show (p : Int) - c.2.2.2.1 = m by omega]
  · rw [if_neg hi]
    by_cases hn : i < n
    · simp only [M.renP, List.getElem?_map, List.getElem?_range hn, Option.map_some]
      congr 3
      by_cases h1 : (i : Int) < c.2.2.2.1 + m
      · rw [if_pos h1, if_pos (by omega)]
      · rw [if_neg h1, if_neg (by omega)]
    · rw [List.getElem?_eq_none (by rw [M.renP_len]; omega), List.getElem?_eq_none (by rw [M.renP_len]; omega)]
def M.srcOk (src : List (List Int)) : Bool := decide (src.length ≤ 6) && src.all M.sig
def M.hasS (xs : List Clip) (m : Int) : Bool := xs.all fun c => decide (c.1 < m)
def M.renderR (src : List (List Int)) (xs : List Clip) (t : Int) : List Int × Int :=
  if M.srcOk src && M.trackOk xs then (if M.inn t 0 4000 then (if M.hasS xs src.length then (M.renT src xs t.toNat, 0) else ([], 3)) else ([], 2)) else ([], 1)
end Go.Proofs.YtfkcoiefkjmdeaaGreat
namespace Go.Proofs.YtfkcoiefkjmdeaaGreat
open Go.RowKit
set_option maxHeartbeats 1000000
set_option maxRecDepth 100000
theorem ei_sd : EI Tryz.prog 98 68 (.agg #[.int .i64 0, .int .i64 0]) 2 16 := ⟨Tryz.underlying98, by kernel_rfl, rfl, by decide⟩
def sd (p : (Int × Int)) : List Value := [.int .i64 p.1, .int .i64 p.2]
theorem sd_len (p : (Int × Int)) : (sd p).length = 2 := rfl
abbrev tSd : Ty (Int × Int) := Ty.flat 2 (by decide) (0, 0) sd sd_len (by simp [sd, Value.oneCell'])
abbrev hSd : Hs (Int × Int) := hI.prod hI
abbrev tSdS : Ty (List (Int × Int)) := tSd.sl 68
abbrev hSdS : Hs (List (Int × Int)) := hSd.sl
theorem hSd_szL (xs : List (Int × Int)) : hSd.szL xs = 0 := by
  induction xs with
  | nil => rfl
  | cons x xs ih => rw [Hs.szL, ih]; rfl
theorem hSdS_sz (xs : List (Int × Int)) : hSdS.sz xs = xs.length := by show xs.length + hSd.szL xs = _; rw [hSd_szL]; rfl
end Go.Proofs.YtfkcoiefkjmdeaaGreat
namespace Go.Proofs.YtfkcoiefkjmdeaaGreat
open Go.RowKit
set_option maxHeartbeats 2000000
set_option maxRecDepth 100000
/-- A text. -/
def tStr : Ty ByteArray where
  s := 1
  pos := Nat.one_pos
  zero := ⟨#[]⟩
  R _ _ cs x := cs = [.string x] ∧ x.size ≤ maxLen
  O _ _ cs x := cs = [.string x] ∧ x.size ≤ maxLen
  rlen := by rintro w B cs x ⟨rfl, _⟩; rfl
  keep := fun _ h => h
  more := fun _ h => h
  read := fun h => h
  okeep := fun _ h => h
  owide := fun _ h => h
  ocells := by rintro w F cs x ⟨rfl, _⟩ u hu; simp only [List.mem_singleton] at hu; subst hu; rfl
  oreal := fun h => h
def M.digs (k : Nat) : List UInt8 := if k = 0 then [] else M.digs (k / 10) ++ [UInt8.ofNat (48 + k % 10)]
/-- The text that a mark writes. -/
def M.markT (k : Int) : ByteArray := if k ≤ 0 then ⟨#[109, 48]⟩ else ⟨(109 :: M.digs k.toNat).toArray⟩
def hStr : Hs ByteArray := ⟨fun s => s.size, fun k _ => M.markT k, fun _ => 1⟩
abbrev Strip := ByteArray × Int × List (Int × Int)
abbrev tSt : Ty Strip := tStr.prod (tI.prod tSdS)
abbrev hSt : Hs Strip := hStr.prod (hI.prod hSdS)
abbrev tM : Ty (List Strip) := tSt.sl 100
abbrev hM : Hs (List Strip) := hSt.sl
section
variable {w : World} {B : Nat} {F : Nat → Prop} {cs : List Value} {s : ByteArray} {l : Int} {xs : List (Int × Int)}
theorem open_Sd {cs : List Value} (h : tSdS.R w B cs xs) : ∃ A n c, cs = [.slice A n c] := by
  obtain ⟨v, rfl, hr⟩ := h
  obtain ⟨A, c, rfl⟩ := hr.shape
  exact ⟨_, _, _, rfl⟩
theorem st_R : tSt.R w B cs (s, l, xs) ↔ ∃ A n c, cs = [.string s, .int .i64 l, .slice A n c] ∧ s.size ≤ maxLen ∧ tSdS.R w B [.slice A n c] xs := by
  constructor
  · rintro ⟨c1, c2, rfl, ⟨rfl, h1⟩, c3, c4, rfl, h2, h3⟩
    obtain rfl : c3 = [.int .i64 l] := h2
    obtain ⟨A, n, c, rfl⟩ := open_Sd h3
    exact ⟨A, n, c, rfl, h1, h3⟩
  · rintro ⟨A, n, c, rfl, h1, h3⟩
    exact ⟨[.string s], _, rfl, ⟨rfl, h1⟩, [.int .i64 l], _, rfl, rfl, h3⟩
theorem st_O : tSt.O w F cs (s, l, xs) ↔ ∃ A n c, cs = [.string s, .int .i64 l, .slice A n c] ∧ s.size ≤ maxLen ∧ tSdS.O w F [.slice A n c] xs := by
  constructor
  · rintro ⟨c1, c2, F1, F2, rfl, ⟨rfl, h1⟩, ⟨c3, c4, F3, F4, rfl, h2, h3, f3, f4, _⟩, f1, f2, _⟩
    obtain rfl : c3 = [.int .i64 l] := h2
    obtain ⟨A, n, c, rfl⟩ := open_Sd (tSdS.read h3)
    exact ⟨A, n, c, rfl, h1, tSdS.owide (fun b hb => f2 b (f4 b hb)) h3⟩
  · rintro ⟨A, n, c, rfl, h1, h3⟩
    exact ⟨[.string s], _, fun _ => False, F, rfl, ⟨rfl, h1⟩, ⟨[.int .i64 l], _, fun _ => False, F, rfl, rfl, h3, fun _ h => h.elim, fun _ h => h, fun _ h => h.elim⟩, fun _ h => h.elim, fun _ h => h, fun _ h => h.elim⟩
theorem hSt_sz (s : ByteArray) (l : Int) (xs : List (Int × Int)) : hSt.sz (s, l, xs) = s.size + xs.length := by
  show s.size + (0 + hSdS.sz xs) = _
  rw [hSdS_sz, Nat.zero_add]
end
end Go.Proofs.YtfkcoiefkjmdeaaGreat
namespace Go.Proofs.YtfkcoiefkjmdeaaGreat
open Go.RowKit
end Go.Proofs.YtfkcoiefkjmdeaaGreat
namespace Go.Proofs.YtfkcoiefkjmdeaaGreat
open Go.RowKit
set_option maxHeartbeats 2000000
set_option maxRecDepth 100000
theorem ei_st : EI Tryz.prog 28 100 (.agg #[.string ⟨#[]⟩, .int .i64 0, .slice none 0 0]) 3 48 := ⟨Tryz.underlying28, by kernel_rfl, rfl, by decide⟩
end Go.Proofs.YtfkcoiefkjmdeaaGreat
namespace Go.Proofs.YtfkcoiefkjmdeaaGreat
open Go.RowKit
set_option maxHeartbeats 2000000
set_option maxRecDepth 100000
end Go.Proofs.YtfkcoiefkjmdeaaGreat
namespace Go.Proofs.YtfkcoiefkjmdeaaGreat
open Go.RowKit
set_option maxHeartbeats 4000000
set_option maxRecDepth 100000
theorem tSdS_ra {w : World} {B : Nat} {A : Option Addr} {n c : Nat} {xs : List (Int × Int)} (h : tSdS.R w B [.slice A n c] xs) : RA sd 2 w B A n xs ∧ n ≤ c ∧ c ≤ maxLen := (sl_R.1 h).flat
end Go.Proofs.YtfkcoiefkjmdeaaGreat
namespace Go.Proofs.YtfkcoiefkjmdeaaGreat
open Go.RowKit
set_option maxHeartbeats 4000000
set_option maxRecDepth 100000
end Go.Proofs.YtfkcoiefkjmdeaaGreat
namespace Go.Proofs.YtfkcoiefkjmdeaaGreat
open Go.RowKit
set_option maxHeartbeats 2000000
set_option maxRecDepth 100000
def M.small (c : UInt8) : Bool := decide (97 ≤ c.toNat) && decide (c.toNat ≤ 122)
def M.digit (c : UInt8) : Bool := decide (48 ≤ c.toNat) && decide (c.toNat ≤ 57)
def M.nameAt (s : ByteArray) (i : Nat) : Bool := match s.data.toList[i]? with
  | some c => M.small c || (M.digit c && decide (i ≠ 0))
  | none => true
/-- A name. -/
def M.name (s : ByteArray) : Bool := decide (1 ≤ s.size) && decide (s.size ≤ 10) && (List.range s.size).all (M.nameAt s)
theorem M.nameAt_eq {s : ByteArray} {k : Nat} (hk : k < s.size) : M.nameAt s k = (M.small s[k] || (M.digit s[k] && decide (k ≠ 0))) := by
  have h1 : s.data.toList[k]? = some s[k] := by
    rw [List.getElem?_eq_getElem (by simpa using hk)]
    rfl
  rw [M.nameAt, h1]
theorem M.name_no {s : ByteArray} {k : Nat} (hk : k < s.size) (h : M.nameAt s k = false) : M.name s = false := by
  rw [M.name]
  cases hall : (List.range s.size).all (M.nameAt s)
  · simp
  · rw [List.all_eq_true] at hall
    have := hall k (List.mem_range.2 hk)
    rw [h] at this
    cases this
theorem M.name_yes {s : ByteArray} (h1 : 1 ≤ s.size) (h2 : s.size ≤ 10) (h : ∀ j, j < s.size → M.nameAt s j = true) : M.name s = true := by
  rw [M.name, decide_eq_true h1, decide_eq_true h2, Bool.true_and, Bool.true_and, List.all_eq_true]
  exact fun j hj => h j (List.mem_range.1 hj)
theorem M.name_len {s : ByteArray} (h : ¬ (1 ≤ s.size ∧ s.size ≤ 10)) : M.name s = false := by
  rw [M.name]
  by_cases h1 : 1 ≤ s.size
  · have h2 : ¬ s.size ≤ 10 := fun e => h ⟨h1, e⟩
    simp [h2]
  · simp [h1]
theorem impl_IsName (s : ByteArray) (w : World) (hs : s.size ≤ maxLen) :
    Calls Tryz.prog 86 #[.string s] w fun e w' => e = .returned (.bool (M.name s)) ∧ w = w' := by
  unfold maxLen at hs
  by_cases hlen : 1 ≤ s.size ∧ s.size ≤ 10
  · obtain ⟨hl1, hl2⟩ := hlen
    go_enter Tryz.func86, Tryz.ntmps86
    go_wp2
    go_loop [3, 4, 5] (fun i _ _ => ∃ k : Nat, i = .int .i64 k ∧ k ≤ s.size ∧ Hid (∀ j, j < k → M.nameAt s j = true)) (fun i _ _ => s.size - (intOf i).toNat)
    case atStart => exact ⟨0, rfl, by omega, Lib.hid (by omega)⟩
    case round =>
      obtain ⟨k, rfl, hk, H⟩ := hrel
      by_cases hlt : k < s.size
      · have hA := Lib.hid (M.nameAt_eq hlt)
        have hgo : M.nameAt s k = true → ∀ j, j < k + 1 → M.nameAt s j = true := fun h j hj => by
          rcases Nat.lt_or_ge j k with h1 | h1
          · exact H.out j h1
          · obtain rfl : j = k := by omega
            exact h
        have HG := Lib.hid hgo
        have HN := Lib.hid (fun h => M.name_no (s := s) (k := k) hlt h)
        clear hgo
        by_cases h97 : 97 ≤ s[k].toNat
        · by_cases h122 : s[k].toNat ≤ 122
          · have h2 := Lib.hid (show M.nameAt s k = true by rw [hA.out]; simp [M.small, M.digit]; omega)
            have g1 : (97 : Int) ≤ (s[k].toNat : Int) := by omega
            have g2 : (s[k].toNat : Int) ≤ 122 := by omega
            clear h97 h122
            go_wp2
            go_round
            case rel => exact ⟨k + 1, by go_num, by omega, Lib.hid (HG.out h2.out)⟩
            case measure => simp [intOf]; omega
          · have h2 := Lib.hid (HN.out (show M.nameAt s k = false by rw [hA.out]; simp [M.small, M.digit]; omega))
            have g1 : (97 : Int) ≤ (s[k].toNat : Int) := by omega
            have g2 : ¬ (s[k].toNat : Int) ≤ 122 := by omega
            have g3 : (48 : Int) ≤ (s[k].toNat : Int) := by omega
            have g4 : ¬ (s[k].toNat : Int) ≤ 57 := by omega
            clear h97 h122
            go_wp2
            go_ret
            exact ⟨ret_bool (by rw [h2.out]), rfl⟩
        · by_cases h48 : 48 ≤ s[k].toNat
          · by_cases h57 : s[k].toNat ≤ 57
            · by_cases hk0 : k = 0
              · have h2 := Lib.hid (HN.out (show M.nameAt s k = false by rw [hA.out]; simp [M.small, M.digit]; omega))
                have g1 : ¬ (97 : Int) ≤ (s[k].toNat : Int) := by omega
                have g3 : (48 : Int) ≤ (s[k].toNat : Int) := by omega
                have g4 : (s[k].toNat : Int) ≤ 57 := by omega
                clear h97 h48 h57
                subst hk0
                go_wp2
                go_ret
                exact ⟨ret_bool (by rw [h2.out]), rfl⟩
              · have h2 := Lib.hid (show M.nameAt s k = true by rw [hA.out]; simp [M.small, M.digit]; omega)
                have g1 : ¬ (97 : Int) ≤ (s[k].toNat : Int) := by omega
                have g3 : (48 : Int) ≤ (s[k].toNat : Int) := by omega
                have g4 : (s[k].toNat : Int) ≤ 57 := by omega
                clear h97 h48 h57
                go_wp2
                go_round
                case rel => exact ⟨k + 1, by go_num, by omega, Lib.hid (HG.out h2.out)⟩
                case measure => simp [intOf]; omega
            · have h2 := Lib.hid (HN.out (show M.nameAt s k = false by rw [hA.out]; simp [M.small, M.digit]; omega))
              have g1 : ¬ (97 : Int) ≤ (s[k].toNat : Int) := by omega
              have g3 : (48 : Int) ≤ (s[k].toNat : Int) := by omega
              have g4 : ¬ (s[k].toNat : Int) ≤ 57 := by omega
              clear h97 h48 h57
              go_wp2
              go_ret
              exact ⟨ret_bool (by rw [h2.out]), rfl⟩
          · have h2 := Lib.hid (HN.out (show M.nameAt s k = false by rw [hA.out]; simp [M.small, M.digit]; omega))
            have g1 : ¬ (97 : Int) ≤ (s[k].toNat : Int) := by omega
            have g3 : ¬ (48 : Int) ≤ (s[k].toNat : Int) := by omega
            clear h97 h48
            go_wp2
            go_ret
            exact ⟨ret_bool (by rw [h2.out]), rfl⟩
      · have hY := Lib.hid (M.name_yes hl1 hl2 (fun j hj => H.out j (by omega)))
        go_wp2
        go_ret
        exact ⟨ret_bool (by rw [hY.out]), rfl⟩
  · have hN := Lib.hid (M.name_len hlen)
    by_cases h1 : s.size < 1
    · go_enter Tryz.func86, Tryz.ntmps86
      go_wp2
      go_ret
      exact ⟨ret_bool (by rw [hN.out]), rfl⟩
    · have h2 : 10 < s.size := by omega
      go_enter Tryz.func86, Tryz.ntmps86
      go_wp2
      go_ret
      exact ⟨ret_bool (by rw [hN.out]), rfl⟩
end Go.Proofs.YtfkcoiefkjmdeaaGreat
namespace Go.Proofs.YtfkcoiefkjmdeaaGreat
open Go.RowKit
set_option maxHeartbeats 4000000
set_option maxRecDepth 100000
theorem M.inn_iffM {n lo hi : Int} : M.inn n lo hi = true ↔ lo ≤ n ∧ n ≤ hi := by simp [M.inn]
def M.sendsB (m : Int) : Int → List (Int × Int) → Bool
  | _, [] => true
  | last, x :: xs => M.inn x.1 (last + 1) (m - 1) && M.smp x.2 && M.sendsB m x.1 xs
def M.areSends (xs : List (Int × Int)) (k m : Int) : Bool := M.sendsB m k xs && (if k = m - 1 then decide (xs.length = 0) else M.inn xs.length 1 4)
def M.stripOk (x : Strip) (k m : Int) : Bool := M.name x.1 && M.inn x.2.1 0 32 && M.areSends x.2.2 k m
theorem M.sendsB_at {m last : Int} {xs : List (Int × Int)} {j : Nat} {p0 p1 : Int} (h : xs[j]? = some (p0, p1)) : M.sendsB m last (xs.drop j) = (M.inn p0 (last + 1) (m - 1) && M.smp p1 && M.sendsB m p0 (xs.drop (j + 1))) := by
  rw [M.drop_at h, M.sendsB]
theorem impl_size_impl_Send (A : Option Addr) (n c : Nat) (w : World) : Calls Tryz.prog 112 #[.slice A n c] w fun e w' => e = .returned (.int .i64 n) ∧ w = w' := by
  go_enter Tryz.func112, Tryz.ntmps112
  go_wp2
  go_ret
  exact ⟨rfl, rfl⟩
theorem impl_size_impl_Strip (A : Option Addr) (n c : Nat) (w : World) : Calls Tryz.prog 55 #[.slice A n c] w fun e w' => e = .returned (.int .i64 n) ∧ w = w' := by
  go_enter Tryz.func55, Tryz.ntmps55
  go_wp2
  go_ret
  exact ⟨rfl, rfl⟩
theorem impl_areSends (A : Option Addr) (n c : Nat) (xs : List (Int × Int)) (k m : Int) (w : World) (hx : RA sd 2 w w.heap.size A n xs) (hn : n ≤ 1000000000) (hk : 0 ≤ k ∧ k ≤ 1000000000) (hm : 0 ≤ m ∧ m ≤ 1000000000) :
    Calls Tryz.prog 87 #[.slice A n c, .int .i64 k, .int .i64 m] w fun e w' => e = .returned (.bool (M.areSends xs k m)) ∧ Below w.heap.size w w' := by
  have hl := Lib.hid hx.1
  go_enter Tryz.func87, Tryz.ntmps87
  go_wp2
  go_loopw [7, 9, 13] (fun v _ i wr => ∃ (j : Nat) (last : Int), i = .int .i64 j ∧ j ≤ n ∧ v = .int .i64 last ∧ 0 ≤ last ∧ last ≤ 1000000000 ∧ Hid (M.sendsB m k xs = M.sendsB m last (xs.drop j)) ∧ Below w.heap.size w wr) (fun _ _ i _ => n - (intOf i).toNat)
  case atStart => exact ⟨0, k, rfl, by omega, rfl, by omega, by omega, Lib.hid rfl, Below.refl _ _⟩
  case round =>
    obtain ⟨j, last, rfl, hj, rfl, hl0, hl1, H, hb⟩ := hrel
    by_cases hlt : j < n
    · obtain ⟨b, o, ⟨p0, p1⟩, rfl, hab, X, hcc⟩ := (hx.below hb).at sd_len (by decide) hlt
      have e0 : wr.cell? ⟨b, o + j * 2, none⟩ = some (.int .i64 p0) := hcc 0 _ rfl
      have e1 : wr.cell? ⟨b, o + j * 2 + 1, none⟩ = some (.int .i64 p1) := hcc 1 _ rfl
      have hS := Lib.hid (M.sendsB_at (m := m) (last := last) X.out)
      clear hcc
      cases h1 : M.inn p0 (last + 1) (m - 1)
      · have R := Lib.hid (show M.areSends xs k m = false by rw [M.areSends, H.out, hS.out, h1]; rfl)
        go_wp2_with (go_at_call 56; refine (impl_within _ _ _ _).mono ?_; rintro e w' ⟨rfl, rfl⟩)
        go_ret
        exact ⟨ret_bool (by rw [R.out]), hb.alloc hb.size _⟩
      · cases h2 : M.smp p1
        · have R := Lib.hid (show M.areSends xs k m = false by rw [M.areSends, H.out, hS.out, h1, h2]; rfl)
          go_wp2_with (first | (go_at_call 56; refine (impl_within _ _ _ _).mono ?_; rintro e w' ⟨rfl, rfl⟩) | (go_at_call 106; refine (impl_isSample _ _).mono ?_; rintro e w' ⟨rfl, rfl⟩))
          go_ret
          exact ⟨ret_bool (by rw [R.out]), hb.alloc hb.size _⟩
        · have hp := M.inn_iffM.1 h1
          have H2 := Lib.hid (show M.sendsB m k xs = M.sendsB m p0 (xs.drop (j + 1)) by rw [H.out, hS.out, h1, h2]; rfl)
          go_wp2_with (first | (go_at_call 56; refine (impl_within _ _ _ _).mono ?_; rintro e w' ⟨rfl, rfl⟩) | (go_at_call 106; refine (impl_isSample _ _).mono ?_; rintro e w' ⟨rfl, rfl⟩))
          go_roundw
          case rel => exact ⟨j + 1, p0, by go_num, by omega, rfl, by omega, by omega, H2, hb.alloc hb.size _⟩
          case measure => simp [intOf]; omega
    · have H2 := Lib.hid (show M.sendsB m k xs = true by rw [H.out, List.drop_eq_nil_of_le (by rw [hl.out]; omega)]; rfl)
      by_cases hkm : k = m - 1
      · have R := Lib.hid (show M.areSends xs k m = decide (n = 0) by rw [M.areSends, H2.out, if_pos hkm, hl.out]; rfl)
        have hkm2 : (k == m - 1) = true := by simpa using hkm
        clear hkm
        by_cases hz : n = 0
        · subst hz
          go_wp2
          go_ret
          exact ⟨ret_bool (by rw [R.out]; rfl), hb⟩
        · have hz2 : ((n : Int) == 0) = false := by simpa using hz
          have R2 := Lib.hid (show M.areSends xs k m = false by rw [R.out]; simpa using hz)
          clear hz
          go_wp2
          go_ret
          exact ⟨ret_bool (by first | (rw [R2.out]; done) | (rw [R2.out]; exact hz2)), hb⟩
      · have hkm2 : (k == m - 1) = false := by simpa using hkm
        have R := Lib.hid (show M.areSends xs k m = M.inn n 1 4 by rw [M.areSends, H2.out, if_neg hkm, hl.out]; rfl)
        go_wp2_with (first | (go_at_call 56; refine (impl_within _ _ _ _).mono ?_; rintro e w' ⟨rfl, rfl⟩) | (go_at_call 112; refine (impl_size_impl_Send _ _ _ _).mono ?_; rintro e w' ⟨rfl, rfl⟩))
        go_ret
        exact ⟨ret_bool (by rw [R.out]), hb⟩
end Go.Proofs.YtfkcoiefkjmdeaaGreat
namespace Go.Proofs.YtfkcoiefkjmdeaaGreat
open Go.RowKit
open Go.Maps (Keyed)
set_option maxHeartbeats 4000000
set_option maxRecDepth 100000
theorem lookup_bool {P : Program} {k t e : TypeId} {w : World} {b n : Nat} {D : DataW Unit} (h : w.ownsMap P k (plainElem P e) b n D) (K : Keyed P k) (ht : P.underlying t = some (.map k e)) (he : P.underlying e = some .bool) (hz : (zeroValue e).run P w = .ok (.bool false) w)
    {key : Value} {kl : Lit} (hkey : keyOf P k key = some kl) : ∃ c, (Instr.lookup t (.map (some b)) key false).run P w = .ok (.bool c) w ∧ D.atKey kl (.lit (.bool false)) = .lit (.bool c) := by
  obtain ⟨v, ps, hrun, hv⟩ := h.lookup K ht hz (plainElem_bool he false) hkey
  unfold plainElem at hv
  rw [he] at hv
  cases v <;> simp at hv
  rename_i c
  exact ⟨c, hrun, hv.1.symm⟩
def M.has (s : ByteArray) (l : List ByteArray) : Bool := l.any fun t => decide (t = s)
/-- The map of the names so far. -/
def NamesOf (D : DataW Unit) (l : List ByteArray) : Prop := Go.Maps.IsMap D ∧ ∀ s : ByteArray, D.atKey (.string s.data.toList) (.lit (.bool false)) = .lit (.bool (M.has s l))
theorem bytes_eq {s t : ByteArray} (h : s.data.toList = t.data.toList) : s = t := ByteArray.ext (Array.toList_inj.1 h)
theorem names_nil : NamesOf (.map []) [] := ⟨⟨[], rfl⟩, fun s => rfl⟩
theorem names_put {D : DataW Unit} {l : List ByteArray} (h : NamesOf D l) (s : ByteArray) : NamesOf (D.put (.string s.data.toList) (.lit (.bool true))) (l ++ [s]) := by
  refine ⟨?_, fun t => ?_⟩
  · obtain ⟨es, rfl⟩ := h.1
    exact ⟨_, rfl⟩
  · by_cases e : t = s
    · subst e
      rw [Go.Maps.atKey_put_same (k := .string t.data.toList) h.1 (by simp [WideAt.IsKeyLit])]
      simp [M.has]
    · rw [Go.Maps.atKey_put_other (fun e2 => e (by injection e2 with e2; exact bytes_eq e2)), h.2 t]
      have e2 : ¬ s = t := fun h => e h.symm
      simp [M.has, e2]
theorem keyed_str : Keyed Tryz.prog 9 := Keyed.of_law (Go.WideMaps.string_law Tryz.underlying9)
theorem zero_bool (w : World) : (zeroValue 4).run Tryz.prog w = .ok (.bool false) w := by kernel_rfl
def M.sz : Strip := (⟨#[]⟩, 0, [])
def M.stepM (xs : List Strip) (k : Nat) : Bool := M.stripOk ((xs[k]?).getD M.sz) k xs.length && !M.has ((xs[k]?).getD M.sz).1 ((xs.take k).map (·.1))
/-- A mixer is valid. -/
def M.mixOk (xs : List Strip) : Bool := M.inn xs.length 1 8 && (List.range xs.length).all (M.stepM xs)
theorem M.mix_no {xs : List Strip} {k : Nat} (hk : k < xs.length) (h : M.stepM xs k = false) : M.mixOk xs = false := by
  rw [M.mixOk]
  cases hall : (List.range xs.length).all (M.stepM xs)
  · simp
  · rw [List.all_eq_true] at hall
    have := hall k (List.mem_range.2 hk)
    rw [h] at this
    cases this
theorem M.mix_end {xs : List Strip} (h : ∀ j, j < xs.length → M.stepM xs j = true) : M.mixOk xs = M.inn xs.length 1 8 := by
  rw [M.mixOk, show (List.range xs.length).all (M.stepM xs) = true from List.all_eq_true.2 fun j hj => h j (List.mem_range.1 hj), Bool.and_true]
theorem M.stepM_eq {xs : List Strip} {k : Nat} {x : Strip} (h : xs[k]? = some x) : M.stepM xs k = (M.stripOk x k xs.length && !M.has x.1 ((xs.take k).map (·.1))) := by
  rw [M.stepM, h]; rfl
theorem grown_of_bel {w w' : World} (h : Below w.heap.size w w') (row : Option Nat) : w.grownBy w' row := ⟨h.os, h.tape, h.output, h.size, fun k hk _ => h.block k hk⟩
theorem impl_isMixer (A : Option Addr) (n c : Nat) (xs : List Strip) (w : World) (hx : tM.R w w.heap.size [.slice A n c] xs) (hn : hM.sz xs ≤ 100000000) :
    Calls Tryz.prog 54 #[.agg #[.slice A n c]] w fun e w' => e = .returned (.bool (M.mixOk xs)) ∧ Below w.heap.size w w' := by
  have rx := sl_R.1 hx
  have hlx := rx.cap.1
  have hm1 : xs.length + hSt.szL xs ≤ 100000000 := hn
  have hnb : n ≤ 100000000 := by omega
  have HLX := Lib.hid hlx
  have HM1 := Lib.hid hm1
  clear hlx hx hn hm1
  have hmm := @run_makeMap Tryz.prog
  go_enter Tryz.func54, Tryz.ntmps54
  go_wp2_with (go_at_call 55; refine (impl_size_impl_Strip _ _ _ _).mono ?_; rintro e w' ⟨rfl, rfl⟩)
  go_loopw [5, 6, 14] (fun _ _ i wr => ∃ (k : Nat) (D : DataW Unit), i = .int .i64 k ∧ k ≤ n ∧ Hid (∀ j, j < k → M.stepM xs j = true) ∧ Hid (NamesOf D ((xs.take k).map (·.1))) ∧ wr.ownsMap Tryz.prog 9 (plainElem Tryz.prog 4) (w.heap.size + 1) k D ∧ w.heap.size + 1 + 1 ≤ wr.heap.size ∧ Below w.heap.size w wr) (fun _ _ i _ => n - (intOf i).toNat)
  case atStart => exact ⟨0, .map [], rfl, by omega, Lib.hid (by omega), Lib.hid (by simpa using names_nil), by have := World.ownsMap_made (w.alloc (.cells #[.slice A n c] 30)) Tryz.prog 9 (plainElem (H := Unit) Tryz.prog 4); simpa using this, by simp, ((Below.refl _ _).alloc (Nat.le_refl _) _).alloc (by simp) _⟩
  case round =>
    obtain ⟨k, D, rfl, hk, H, HD, hown, hsz, Bw⟩ := hrel
    clear hmm
    by_cases hlt : k < n
    · have hX := Lib.hid (List.getElem?_eq_getElem (l := xs) (i := k) (by rw [HLX.out]; exact hlt))
      obtain ⟨b, o1, cc, cs, hv, hab, -, hE, hcc⟩ := (rx.below Bw).atX hX.out
      simp only [Value.slice.injEq] at hv
      obtain ⟨rfl, -, rfl⟩ := hv
      have hU := hSt.szL_at hX.out
      generalize xs[k]'(by rw [HLX.out]; exact hlt) = x at hX hE hU
      obtain ⟨s, l, us⟩ := x
      rw [hSt_sz] at hU
      obtain ⟨A1, n1, c1, rfl, hs, hE⟩ := st_R.1 hE
      have n1b : n1 ≤ 1000000000 := by have := (tSdS_ra hE).1.1; have := HM1.out; omega
      have e0 : wr.cell? ⟨b, o1 + k * 3, none⟩ = some (.string s) := hcc 0 _ rfl
      have e1 : wr.cell? ⟨b, o1 + k * 3 + 1, none⟩ = some (.int .i64 l) := hcc 1 _ rfl
      have e2 : wr.cell? ⟨b, o1 + k * 3 + 2, none⟩ = some (.slice A1 n1 c1) := hcc 2 _ rfl
      have hbr : b < wr.heap.size := Nat.lt_of_lt_of_le hab Bw.size
      have hE2 := tSdS.later (tSdS.more Bw.size hE) ((Below.refl wr.heap.size wr).alloc (Nat.le_refl _) (.cells #[.string s, .int .i64 l, .slice A1 n1 c1] 100))
      have hra := (tSdS_ra hE2).1
      have hS := Lib.hid (M.stepM_eq hX.out)
      have HNO := Lib.hid (fun h => M.mix_no (xs := xs) (k := k) (by rw [HLX.out]; exact hlt) h)
      have hownU := hown.alloc (.cells #[.string s, .int .i64 l, .slice A1 n1 c1] 100)
      have hkey : keyOf Tryz.prog 9 (.string s) = some (.string s.data.toList) := Go.WideMaps.keyOf_string_mk Tryz.underlying9 hs
      obtain ⟨q, hrun, hat⟩ := lookup_bool hownU keyed_str Tryz.underlying125 Tryz.underlying4 (zero_bool _) hkey
      have hq : q = M.has s ((xs.take k).map (·.1)) := by
        rw [HD.out.2 s] at hat
        injection hat with hat
        injection hat with hat
        exact hat.symm
      have HQ := Lib.hid hq
      have Bu := Bw.alloc Bw.size (.cells #[.string s, .int .i64 l, .slice A1 n1 c1] 100)
      clear hcc hU hE hE2 hat hq
      cases hN : M.name s
      · have R := Lib.hid (show M.mixOk xs = false from HNO.out (by rw [hS.out, M.stripOk, hN]; rfl))
        go_wp2_with (first | (go_at_call 86; refine (impl_IsName _ _ hs).mono ?_; rw [hN]; rintro e w' ⟨rfl, rfl⟩))
        go_ret
        exact ⟨ret_bool (by rw [R.out]), Bu⟩
      by_cases hq1 : q = true
      · subst hq1
        have R := Lib.hid (show M.mixOk xs = false from HNO.out (by rw [hS.out, ← HQ.out, Bool.not_true, Bool.and_false]))
        go_wp2_with (first | (go_at_call 86; refine (impl_IsName _ _ hs).mono ?_; rw [hN]; rintro e w' ⟨rfl, rfl⟩))
        go_ret
        exact ⟨ret_bool (by rw [R.out]), Bu⟩
      have hq0 : q = false := by simpa using hq1
      subst hq0
      clear hq1
      cases hL : M.inn l 0 32
      · have R := Lib.hid (show M.mixOk xs = false from HNO.out (by rw [hS.out, M.stripOk, hN, hL]; rfl))
        go_wp2_with (first | (go_at_call 86; refine (impl_IsName _ _ hs).mono ?_; rw [hN]; rintro e w' ⟨rfl, rfl⟩) | (go_at_call 56; refine (impl_within _ _ _ _).mono ?_; rintro e w' ⟨rfl, rfl⟩))
        go_ret
        exact ⟨ret_bool (by rw [R.out]), Bu⟩
      have hAS := impl_areSends A1 n1 c1 us k n _ hra n1b ⟨by omega, by omega⟩ ⟨by omega, by omega⟩
      cases hA : M.areSends us k n
      · have R := Lib.hid (show M.mixOk xs = false from HNO.out (by rw [hS.out, M.stripOk, hN, hL, HLX.out, hA]; rfl))
        go_wp2_with (first | (go_at_call 86; refine (impl_IsName _ _ hs).mono ?_; rw [hN]; rintro e w' ⟨rfl, rfl⟩) | (go_at_call 56; refine (impl_within _ _ _ _).mono ?_; rintro e w' ⟨rfl, rfl⟩) | (go_at_call 87; refine hAS.mono ?_; rw [hA]; clear hAS; rintro e w2 ⟨rfl, bel2⟩))
        go_ret
        exact ⟨ret_bool (by rw [R.out]), bel_trans' Bu (by simp; omega) bel2⟩
      · have HST := Lib.hid (show M.stepM xs k = true by rw [hS.out, M.stripOk, hN, hL, HLX.out, hA, ← HQ.out]; rfl)
        have HT := Lib.hid (show (xs.take (k + 1)).map (·.1) = (xs.take k).map (·.1) ++ [s] by rw [M.take_at hX.out, List.map_append]; rfl)
        go_wp2_with (first | (go_at_call 86; refine (impl_IsName _ _ hs).mono ?_; rw [hN]; rintro e w' ⟨rfl, rfl⟩) | (go_at_call 56; refine (impl_within _ _ _ _).mono ?_; rintro e w' ⟨rfl, rfl⟩) | (go_at_call 87; refine hAS.mono ?_; rw [hA]; clear hAS; rintro e w2 ⟨rfl, bel2⟩; have hown2 := hownU.kept (grown_of_bel bel2 none) (by simp); have z2 : wr.heap.size + 1 ≤ w2.heap.size := (by have := bel2.size; simpa using this); have g0 : w2.cell? ⟨wr.heap.size, 0, none⟩ = some (.string s) := (by rw [bel2.cell (by simp), cell_of_row _ wr.heap.size 0 _ 100 (0, 0) (heap_alloc_new wr _)]; rfl)) | (at_mapUpdate; refine wpList_mapUpdate_own _ rfl _ _ _ 125 rfl 9 4 keyed_str Tryz.underlying125 _ (w.heap.size + 1) k _ rfl hown2 (by unfold maxLen; omega) _ _ _ rfl rfl hkey _ [] (plainElem_bool Tryz.underlying4 true) ?_; intro w3 hown3 hgrow3))
        go_roundw
        case rel => exact ⟨k + 1, _, by go_num, by omega, Lib.hid (fun j hj => by
            rcases Nat.lt_or_ge j k with h1 | h1
            · exact H.out j h1
            · obtain rfl : j = k := by omega
              exact HST.out), Lib.hid (by rw [HT.out]; exact names_put HD.out s), hown3, by have := hgrow3.size; omega, (bel_trans' Bu (by simp; omega) bel2).grown hgrow3 (by omega) (fun j hj => by injection hj with hj; omega)⟩
        case measure => simp [intOf]; omega
    · have R := Lib.hid (show M.mixOk xs = M.inn n 1 8 by rw [M.mix_end (fun j hj => H.out j (by rw [HLX.out] at hj; omega)), HLX.out])
      go_wp2_with (go_at_call 56; refine (impl_within _ _ _ _).mono ?_; rintro e w' ⟨rfl, rfl⟩)
      go_ret
      exact ⟨ret_bool (by rw [R.out]), Bw⟩
end Go.Proofs.YtfkcoiefkjmdeaaGreat
namespace Go.Proofs.YtfkcoiefkjmdeaaGreat
open Go.RowKit
set_option maxHeartbeats 4000000
set_option maxRecDepth 100000
/-- A number that a harness does not mark. -/
def hU : Hs Int := ⟨fun _ => 0, fun _ x => x, fun _ => 0⟩
theorem open_sl {α : Type} {t : Ty α} {e : TypeId} {w : World} {B : Nat} {cs : List Value} {x : List α} (h : (t.sl e).R w B cs x) : ∃ A n c, cs = [.slice A n c] := by
  obtain ⟨v, rfl, hr⟩ := h
  obtain ⟨A, c, rfl⟩ := hr.shape
  exact ⟨_, _, _, rfl⟩
abbrev Clip_ := Int × Int × Int × Int × Int
end Go.Proofs.YtfkcoiefkjmdeaaGreat
namespace Go.Proofs.YtfkcoiefkjmdeaaGreat
open Go.RowKit
set_option maxHeartbeats 4000000
set_option maxRecDepth 100000
abbrev Node := Int × Int × Int × (List Int)
abbrev tN : Ty Node := tI.prod (tI.prod (tI.prod tS))
abbrev hN : Hs Node := hI.prod (hI.prod (hI.prod hS))
theorem tN_R {w : World} {B : Nat} {cs : List Value} {a0 : Int} {a1 : Int} {a2 : Int} {x3 : List Int} : tN.R w B cs (a0, a1, a2, x3) ↔ ∃ A3 n3 c3, cs = [.int .i64 a0, .int .i64 a1, .int .i64 a2, .slice A3 n3 c3] ∧ tS.R w B [.slice A3 n3 c3] x3 := by
  constructor
  · rintro ⟨u0, d0, rfl, g0, ⟨u1, d1, rfl, g1, ⟨u2, d2, rfl, g2, g3⟩⟩⟩
    obtain rfl : u0 = [.int .i64 a0] := g0
    obtain rfl : u1 = [.int .i64 a1] := g1
    obtain rfl : u2 = [.int .i64 a2] := g2
    obtain ⟨A3, n3, c3, rfl⟩ := open_sl g3
    exact ⟨A3, n3, c3, rfl, g3⟩
  · rintro ⟨A3, n3, c3, rfl, g3⟩
    exact ⟨[.int .i64 a0], _, rfl, rfl, ⟨[.int .i64 a1], _, rfl, rfl, ⟨[.int .i64 a2], _, rfl, rfl, g3⟩⟩⟩
theorem tN_O {w : World} {F : Nat → Prop} {cs : List Value} {a0 : Int} {a1 : Int} {a2 : Int} {x3 : List Int} : tN.O w F cs (a0, a1, a2, x3) ↔ ∃ A3 n3 c3, ∃ F3 : Nat → Prop, cs = [.int .i64 a0, .int .i64 a1, .int .i64 a2, .slice A3 n3 c3] ∧ tS.O w F3 [.slice A3 n3 c3] x3 ∧ (∀ b, F3 b → F b) := by
  constructor
  · rintro ⟨u0, d0, F0, G0, rfl, g0, ⟨u1, d1, F1, G1, rfl, g1, ⟨u2, d2, F2, G2, rfl, g2, g3, p2, q2, r2⟩, p1, q1, r1⟩, p0, q0, r0⟩
    obtain rfl : u0 = [.int .i64 a0] := g0
    obtain rfl : u1 = [.int .i64 a1] := g1
    obtain rfl : u2 = [.int .i64 a2] := g2
    obtain ⟨A3, n3, c3, rfl⟩ := open_sl (tS.read g3)
    exact ⟨A3, n3, c3, G2, rfl, g3, fun b h => q0 _ (q1 _ (q2 _ (h)))⟩
  · rintro ⟨A3, n3, c3, F3, rfl, g3, p3⟩
    exact ⟨[.int .i64 a0], _, (fun _ => False), F3, rfl, rfl, ⟨[.int .i64 a1], _, (fun _ => False), F3, rfl, rfl, ⟨[.int .i64 a2], _, (fun _ => False), F3, rfl, rfl, g3, fun _ h => h.elim, fun b h => by first | exact h | exact Or.inr h | (rcases h with h <;> simp only [*, true_or, or_true]), fun _ h => h.elim⟩, fun _ h => h.elim, fun b h => by first | exact h | exact Or.inr h | (rcases h with h <;> simp only [*, true_or, or_true]), fun _ h => h.elim⟩, fun _ h => h.elim, p3, fun _ h => h.elim⟩
theorem hN_sz (a0 : Int) (a1 : Int) (a2 : Int) (x3 : List Int) : hN.sz (a0, a1, a2, x3) = hS.sz x3 := by
  show 0 + (0 + (0 + (hS.sz x3))) = _
  omega
end Go.Proofs.YtfkcoiefkjmdeaaGreat
namespace Go.Proofs.YtfkcoiefkjmdeaaGreat
open Go.RowKit
set_option maxHeartbeats 4000000
set_option maxRecDepth 100000
abbrev tNS : Ty (List Node) := tN.sl 122
abbrev hNS : Hs (List Node) := hN.sl
theorem ei_NS : EI Tryz.prog 34 122 (.agg #[.int .i64 0, .int .i64 0, .int .i64 0, .slice none 0 0]) 4 48 := ⟨Tryz.underlying34, by kernel_rfl, rfl, by decide⟩
end Go.Proofs.YtfkcoiefkjmdeaaGreat
namespace Go.Proofs.YtfkcoiefkjmdeaaGreat
open Go.RowKit
set_option maxHeartbeats 4000000
set_option maxRecDepth 100000
theorem ei_SS : EI Tryz.prog 24 26 (.slice none 0 0) 1 24 := ⟨Tryz.underlying24, by kernel_rfl, rfl, by decide⟩
end Go.Proofs.YtfkcoiefkjmdeaaGreat
namespace Go.Proofs.YtfkcoiefkjmdeaaGreat
open Go.RowKit
set_option maxHeartbeats 4000000
set_option maxRecDepth 100000
abbrev Patch := Int × (List (List Int)) × (List Node) × (List Int)
abbrev tP : Ty Patch := tI.prod (tSS.prod (tNS.prod tS))
abbrev hP : Hs Patch := hI.prod (hSS.prod (hNS.prod hS))
theorem tP_R {w : World} {B : Nat} {cs : List Value} {a0 : Int} {x1 : List (List Int)} {x2 : List Node} {x3 : List Int} : tP.R w B cs (a0, x1, x2, x3) ↔ ∃ A1 n1 c1 A2 n2 c2 A3 n3 c3, cs = [.int .i64 a0, .slice A1 n1 c1, .slice A2 n2 c2, .slice A3 n3 c3] ∧ tSS.R w B [.slice A1 n1 c1] x1 ∧ tNS.R w B [.slice A2 n2 c2] x2 ∧ tS.R w B [.slice A3 n3 c3] x3 := by
  constructor
  · rintro ⟨u0, d0, rfl, g0, ⟨u1, d1, rfl, g1, ⟨u2, d2, rfl, g2, g3⟩⟩⟩
    obtain rfl : u0 = [.int .i64 a0] := g0
    obtain ⟨A1, n1, c1, rfl⟩ := open_sl g1
    obtain ⟨A2, n2, c2, rfl⟩ := open_sl g2
    obtain ⟨A3, n3, c3, rfl⟩ := open_sl g3
    exact ⟨A1, n1, c1, A2, n2, c2, A3, n3, c3, rfl, g1, g2, g3⟩
  · rintro ⟨A1, n1, c1, A2, n2, c2, A3, n3, c3, rfl, g1, g2, g3⟩
    exact ⟨[.int .i64 a0], _, rfl, rfl, ⟨[.slice A1 n1 c1], _, rfl, g1, ⟨[.slice A2 n2 c2], _, rfl, g2, g3⟩⟩⟩
theorem tP_O {w : World} {F : Nat → Prop} {cs : List Value} {a0 : Int} {x1 : List (List Int)} {x2 : List Node} {x3 : List Int} : tP.O w F cs (a0, x1, x2, x3) ↔ ∃ A1 n1 c1 A2 n2 c2 A3 n3 c3, ∃ F1 F2 F3 : Nat → Prop, cs = [.int .i64 a0, .slice A1 n1 c1, .slice A2 n2 c2, .slice A3 n3 c3] ∧ tSS.O w F1 [.slice A1 n1 c1] x1 ∧ tNS.O w F2 [.slice A2 n2 c2] x2 ∧ tS.O w F3 [.slice A3 n3 c3] x3 ∧ (∀ b, F1 b → F b) ∧ (∀ b, F2 b → F b) ∧ (∀ b, F3 b → F b) ∧ (∀ b, F1 b → ¬ F2 b) ∧ (∀ b, F1 b → ¬ F3 b) ∧ (∀ b, F2 b → ¬ F3 b) := by
  constructor
  · rintro ⟨u0, d0, F0, G0, rfl, g0, ⟨u1, d1, F1, G1, rfl, g1, ⟨u2, d2, F2, G2, rfl, g2, g3, p2, q2, r2⟩, p1, q1, r1⟩, p0, q0, r0⟩
    obtain rfl : u0 = [.int .i64 a0] := g0
    obtain ⟨A1, n1, c1, rfl⟩ := open_sl (tSS.read g1)
    obtain ⟨A2, n2, c2, rfl⟩ := open_sl (tNS.read g2)
    obtain ⟨A3, n3, c3, rfl⟩ := open_sl (tS.read g3)
    exact ⟨A1, n1, c1, A2, n2, c2, A3, n3, c3, F1, F2, G2, rfl, g1, g2, g3, fun b h => q0 _ (p1 _ h), fun b h => q0 _ (q1 _ (p2 _ h)), fun b h => q0 _ (q1 _ (q2 _ (h))), fun b h h2 => r1 b h (p2 _ h2), fun b h h2 => r1 b h (q2 _ (h2)), fun b h h2 => r2 b h (h2)⟩
  · rintro ⟨A1, n1, c1, A2, n2, c2, A3, n3, c3, F1, F2, F3, rfl, g1, g2, g3, p1, p2, p3, r1_2, r1_3, r2_3⟩
    exact ⟨[.int .i64 a0], _, (fun _ => False), (fun b => F1 b ∨ F2 b ∨ F3 b), rfl, rfl, ⟨[.slice A1 n1 c1], _, F1, (fun b => F2 b ∨ F3 b), rfl, g1, ⟨[.slice A2 n2 c2], _, F2, F3, rfl, g2, g3, fun b h => by first | exact h | (simp only [*, true_or, or_true]), fun b h => by first | exact h | exact Or.inr h | (rcases h with h <;> simp only [*, true_or, or_true]), r2_3⟩, fun b h => by first | exact h | (simp only [*, true_or, or_true]), fun b h => by first | exact h | exact Or.inr h | (rcases h with h | h <;> simp only [*, true_or, or_true]), fun b h h2 => by rcases h2 with h2 | h2 <;> first | exact r1_2 b h h2 | exact r1_3 b h h2⟩, fun _ h => h.elim, fun b h => by rcases h with h | h | h <;> first | exact p1 b h | exact p2 b h | exact p3 b h, fun _ h => h.elim⟩
theorem hP_sz (a0 : Int) (x1 : List (List Int)) (x2 : List Node) (x3 : List Int) : hP.sz (a0, x1, x2, x3) = hSS.sz x1 + hNS.sz x2 + hS.sz x3 := by
  show 0 + (hSS.sz x1 + (hNS.sz x2 + (hS.sz x3))) = _
  omega
end Go.Proofs.YtfkcoiefkjmdeaaGreat
namespace Go.Proofs.YtfkcoiefkjmdeaaGreat
open Go.RowKit
set_option maxHeartbeats 4000000
set_option maxRecDepth 100000
abbrev tPS : Ty (List Patch) := tP.sl 36
abbrev hPS : Hs (List Patch) := hP.sl
theorem ei_PS : EI Tryz.prog 27 36 (.agg #[.int .i64 0, .slice none 0 0, .slice none 0 0, .slice none 0 0]) 4 80 := ⟨Tryz.underlying27, by kernel_rfl, rfl, by decide⟩
end Go.Proofs.YtfkcoiefkjmdeaaGreat
namespace Go.Proofs.YtfkcoiefkjmdeaaGreat
open Go.RowKit
set_option maxHeartbeats 4000000
set_option maxRecDepth 100000
abbrev tTS : Ty (List (List Clip_)) := tT.sl 42
abbrev hTS : Hs (List (List Clip_)) := hT.sl
theorem ei_TS : EI Tryz.prog 25 42 (.agg #[.slice none 0 0]) 1 24 := ⟨Tryz.underlying25, by kernel_rfl, rfl, by decide⟩
end Go.Proofs.YtfkcoiefkjmdeaaGreat
namespace Go.Proofs.YtfkcoiefkjmdeaaGreat
open Go.RowKit
set_option maxHeartbeats 4000000
set_option maxRecDepth 100000
abbrev Sess := Int × (List (List Int)) × (List (List Clip_)) × (List Int) × (List Patch) × (List Strip)
abbrev tZ : Ty Sess := tI.prod (tSS.prod (tTS.prod (tS.prod (tPS.prod tM))))
abbrev hZ : Hs Sess := hU.prod (hSS.prod (hTS.prod (hS.prod (hPS.prod hM))))
theorem tZ_R {w : World} {B : Nat} {cs : List Value} {a0 : Int} {x1 : List (List Int)} {x2 : List (List Clip_)} {x3 : List Int} {x4 : List Patch} {x5 : List Strip} : tZ.R w B cs (a0, x1, x2, x3, x4, x5) ↔ ∃ A1 n1 c1 A2 n2 c2 A3 n3 c3 A4 n4 c4 A5 n5 c5, cs = [.int .i64 a0, .slice A1 n1 c1, .slice A2 n2 c2, .slice A3 n3 c3, .slice A4 n4 c4, .slice A5 n5 c5] ∧ tSS.R w B [.slice A1 n1 c1] x1 ∧ tTS.R w B [.slice A2 n2 c2] x2 ∧ tS.R w B [.slice A3 n3 c3] x3 ∧ tPS.R w B [.slice A4 n4 c4] x4 ∧ tM.R w B [.slice A5 n5 c5] x5 := by
  constructor
  · rintro ⟨u0, d0, rfl, g0, ⟨u1, d1, rfl, g1, ⟨u2, d2, rfl, g2, ⟨u3, d3, rfl, g3, ⟨u4, d4, rfl, g4, g5⟩⟩⟩⟩⟩
    obtain rfl : u0 = [.int .i64 a0] := g0
    obtain ⟨A1, n1, c1, rfl⟩ := open_sl g1
    obtain ⟨A2, n2, c2, rfl⟩ := open_sl g2
    obtain ⟨A3, n3, c3, rfl⟩ := open_sl g3
    obtain ⟨A4, n4, c4, rfl⟩ := open_sl g4
    obtain ⟨A5, n5, c5, rfl⟩ := open_sl g5
    exact ⟨A1, n1, c1, A2, n2, c2, A3, n3, c3, A4, n4, c4, A5, n5, c5, rfl, g1, g2, g3, g4, g5⟩
  · rintro ⟨A1, n1, c1, A2, n2, c2, A3, n3, c3, A4, n4, c4, A5, n5, c5, rfl, g1, g2, g3, g4, g5⟩
    exact ⟨[.int .i64 a0], _, rfl, rfl, ⟨[.slice A1 n1 c1], _, rfl, g1, ⟨[.slice A2 n2 c2], _, rfl, g2, ⟨[.slice A3 n3 c3], _, rfl, g3, ⟨[.slice A4 n4 c4], _, rfl, g4, g5⟩⟩⟩⟩⟩
theorem tZ_O {w : World} {F : Nat → Prop} {cs : List Value} {a0 : Int} {x1 : List (List Int)} {x2 : List (List Clip_)} {x3 : List Int} {x4 : List Patch} {x5 : List Strip} : tZ.O w F cs (a0, x1, x2, x3, x4, x5) ↔ ∃ A1 n1 c1 A2 n2 c2 A3 n3 c3 A4 n4 c4 A5 n5 c5, ∃ F1 F2 F3 F4 F5 : Nat → Prop, cs = [.int .i64 a0, .slice A1 n1 c1, .slice A2 n2 c2, .slice A3 n3 c3, .slice A4 n4 c4, .slice A5 n5 c5] ∧ tSS.O w F1 [.slice A1 n1 c1] x1 ∧ tTS.O w F2 [.slice A2 n2 c2] x2 ∧ tS.O w F3 [.slice A3 n3 c3] x3 ∧ tPS.O w F4 [.slice A4 n4 c4] x4 ∧ tM.O w F5 [.slice A5 n5 c5] x5 ∧ (∀ b, F1 b → F b) ∧ (∀ b, F2 b → F b) ∧ (∀ b, F3 b → F b) ∧ (∀ b, F4 b → F b) ∧ (∀ b, F5 b → F b) ∧ (∀ b, F1 b → ¬ F2 b) ∧ (∀ b, F1 b → ¬ F3 b) ∧ (∀ b, F1 b → ¬ F4 b) ∧ (∀ b, F1 b → ¬ F5 b) ∧ (∀ b, F2 b → ¬ F3 b) ∧ (∀ b, F2 b → ¬ F4 b) ∧ (∀ b, F2 b → ¬ F5 b) ∧ (∀ b, F3 b → ¬ F4 b) ∧ (∀ b, F3 b → ¬ F5 b) ∧ (∀ b, F4 b → ¬ F5 b) := by
  constructor
  · rintro ⟨u0, d0, F0, G0, rfl, g0, ⟨u1, d1, F1, G1, rfl, g1, ⟨u2, d2, F2, G2, rfl, g2, ⟨u3, d3, F3, G3, rfl, g3, ⟨u4, d4, F4, G4, rfl, g4, g5, p4, q4, r4⟩, p3, q3, r3⟩, p2, q2, r2⟩, p1, q1, r1⟩, p0, q0, r0⟩
    obtain rfl : u0 = [.int .i64 a0] := g0
    obtain ⟨A1, n1, c1, rfl⟩ := open_sl (tSS.read g1)
    obtain ⟨A2, n2, c2, rfl⟩ := open_sl (tTS.read g2)
    obtain ⟨A3, n3, c3, rfl⟩ := open_sl (tS.read g3)
    obtain ⟨A4, n4, c4, rfl⟩ := open_sl (tPS.read g4)
    obtain ⟨A5, n5, c5, rfl⟩ := open_sl (tM.read g5)
    exact ⟨A1, n1, c1, A2, n2, c2, A3, n3, c3, A4, n4, c4, A5, n5, c5, F1, F2, F3, F4, G4, rfl, g1, g2, g3, g4, g5, fun b h => q0 _ (p1 _ h), fun b h => q0 _ (q1 _ (p2 _ h)), fun b h => q0 _ (q1 _ (q2 _ (p3 _ h))), fun b h => q0 _ (q1 _ (q2 _ (q3 _ (p4 _ h)))), fun b h => q0 _ (q1 _ (q2 _ (q3 _ (q4 _ (h))))), fun b h h2 => r1 b h (p2 _ h2), fun b h h2 => r1 b h (q2 _ (p3 _ h2)), fun b h h2 => r1 b h (q2 _ (q3 _ (p4 _ h2))), fun b h h2 => r1 b h (q2 _ (q3 _ (q4 _ (h2)))), fun b h h2 => r2 b h (p3 _ h2), fun b h h2 => r2 b h (q3 _ (p4 _ h2)), fun b h h2 => r2 b h (q3 _ (q4 _ (h2))), fun b h h2 => r3 b h (p4 _ h2), fun b h h2 => r3 b h (q4 _ (h2)), fun b h h2 => r4 b h (h2)⟩
  · rintro ⟨A1, n1, c1, A2, n2, c2, A3, n3, c3, A4, n4, c4, A5, n5, c5, F1, F2, F3, F4, F5, rfl, g1, g2, g3, g4, g5, p1, p2, p3, p4, p5, r1_2, r1_3, r1_4, r1_5, r2_3, r2_4, r2_5, r3_4, r3_5, r4_5⟩
    exact ⟨[.int .i64 a0], _, (fun _ => False), (fun b => F1 b ∨ F2 b ∨ F3 b ∨ F4 b ∨ F5 b), rfl, rfl, ⟨[.slice A1 n1 c1], _, F1, (fun b => F2 b ∨ F3 b ∨ F4 b ∨ F5 b), rfl, g1, ⟨[.slice A2 n2 c2], _, F2, (fun b => F3 b ∨ F4 b ∨ F5 b), rfl, g2, ⟨[.slice A3 n3 c3], _, F3, (fun b => F4 b ∨ F5 b), rfl, g3, ⟨[.slice A4 n4 c4], _, F4, F5, rfl, g4, g5, fun b h => by first | exact h | (simp only [*, true_or, or_true]), fun b h => by first | exact h | exact Or.inr h | (rcases h with h <;> simp only [*, true_or, or_true]), r4_5⟩, fun b h => by first | exact h | (simp only [*, true_or, or_true]), fun b h => by first | exact h | exact Or.inr h | (rcases h with h | h <;> simp only [*, true_or, or_true]), fun b h h2 => by rcases h2 with h2 | h2 <;> first | exact r3_4 b h h2 | exact r3_5 b h h2⟩, fun b h => by first | exact h | (simp only [*, true_or, or_true]), fun b h => by first | exact h | exact Or.inr h | (rcases h with h | h | h <;> simp only [*, true_or, or_true]), fun b h h2 => by rcases h2 with h2 | h2 | h2 <;> first | exact r2_3 b h h2 | exact r2_4 b h h2 | exact r2_5 b h h2⟩, fun b h => by first | exact h | (simp only [*, true_or, or_true]), fun b h => by first | exact h | exact Or.inr h | (rcases h with h | h | h | h <;> simp only [*, true_or, or_true]), fun b h h2 => by rcases h2 with h2 | h2 | h2 | h2 <;> first | exact r1_2 b h h2 | exact r1_3 b h h2 | exact r1_4 b h h2 | exact r1_5 b h h2⟩, fun _ h => h.elim, fun b h => by rcases h with h | h | h | h | h <;> first | exact p1 b h | exact p2 b h | exact p3 b h | exact p4 b h | exact p5 b h, fun _ h => h.elim⟩
theorem hZ_sz (a0 : Int) (x1 : List (List Int)) (x2 : List (List Clip_)) (x3 : List Int) (x4 : List Patch) (x5 : List Strip) : hZ.sz (a0, x1, x2, x3, x4, x5) = hSS.sz x1 + hTS.sz x2 + hS.sz x3 + hPS.sz x4 + hM.sz x5 := by
  show 0 + (hSS.sz x1 + (hTS.sz x2 + (hS.sz x3 + (hPS.sz x4 + (hM.sz x5))))) = _
  omega
end Go.Proofs.YtfkcoiefkjmdeaaGreat
namespace Go.Proofs.YtfkcoiefkjmdeaaGreat
open Go.RowKit Go.Sort
set_option maxHeartbeats 4000000
set_option maxRecDepth 100000
set_option linter.unusedVariables false
set_option linter.unusedSimpArgs false
set_option synthInstance.maxSize 2000
set_option synthInstance.maxHeartbeats 400000
/-- What is known of a kind: inputs, low, high, linear, hasB. -/
abbrev KD := Int × Int × Int × Bool × Bool
def M.kds : List KD := [(0, 0, 3, true, false), (0, -2147483648, 2147483647, false, false), (2, 1, 0, true, false), (2, 1, 0, true, false), (1, -2147483648, 2147483647, true, false), (1, 1, 16, true, false), (1, 1, 0, true, false), (1, 1, 0, true, false), (2, 1, 0, false, false), (1, 0, 31, false, false), (1, 0, 2147483647, false, false), (1, -2147483648, 2147483647, false, false), (1, 0, 3, false, false), (0, -2147483648, 2147483647, false, false), (3, 1, 0, false, false), (2, 1, 0, false, false), (1, -2147483648, 2147483647, true, true)]
def M.kd (j : Nat) : KD := M.kds.getD j (0, 0, 0, false, false)
def M.aI (k : KD) (a : Int) : Bool := if k.2.1 ≤ k.2.2.1 then M.inn a k.2.1 k.2.2.1 else decide (a = 0)
def M.bI (k : KD) (b : Int) : Bool := if k.2.2.2.2 then M.inn b 1 16 else decide (b = 0)
def M.from_ (f : Int) : Bool := M.inn f 0 23
/-- A node is valid for a number of tables. -/
def M.nodeOk (x : Node) (tb : Int) : Bool :=
  M.inn x.1 1 17 && (M.aI (M.kd (x.1.toNat - 1)) x.2.1 && M.bI (M.kd (x.1.toNat - 1)) x.2.2.1 && x.2.2.2.all M.from_ && decide ((x.2.2.2.length : Int) = (M.kd (x.1.toNat - 1)).1) && (decide (¬ x.1 = 13) || decide (x.2.1 < tb)))
/-- A of a node, as the reference has it. -/
def M.hasA (k : Int) : Bool := decide (k = 1) || decide (k = 2) || decide (k = 5) || decide (k = 6) || decide (k = 10) || decide (k = 11) || decide (k = 12) || decide (k = 13) || decide (k = 14) || decide (k = 17)
def M.aS (k a tb : Int) : Bool :=
  if k = 1 then M.inn a 0 3 else if k = 6 then M.inn a 1 16 else if k = 10 then M.inn a 0 31 else if k = 11 then M.inn a 0 2147483647 else if k = 13 then M.inn a 0 (min (max tb 0) 4 - 1) else if M.hasA k then M.smp a else decide (a = 0)
def M.ars : List Int := [-1, 0, 0, 2, 2, 1, 1, 1, 1, 2, 1, 1, 1, 1, 0, 3, 2, 1]
def M.ar (k : Nat) : Int := M.ars.getD k 0
def M.nodeS (x : Node) (tb : Int) : Bool :=
  M.inn x.1 1 17 && (M.aS x.1 x.2.1 tb && decide ((x.2.2.2.length : Int) = M.ar x.1.toNat) && x.2.2.2.all M.from_ && (if x.1 = 17 then M.inn x.2.2.1 1 16 else decide (x.2.2.1 = 0)))
def M.lin (k : Int) : Bool := M.inn k 1 17 && (M.kd (k.toNat - 1)).2.2.2.1
theorem M.kind_cases {k : Int} (h : M.inn k 1 17 = true) : k = 1 ∨ k = 2 ∨ k = 3 ∨ k = 4 ∨ k = 5 ∨ k = 6 ∨ k = 7 ∨ k = 8 ∨ k = 9 ∨ k = 10 ∨ k = 11 ∨ k = 12 ∨ k = 13 ∨ k = 14 ∨ k = 15 ∨ k = 16 ∨ k = 17 := by
  have := M.inn_iff.1 h
  omega
theorem M.node_eq (x : Node) (tb : Int) : M.nodeS x tb = M.nodeOk x tb := by
  obtain ⟨k, a, b, l⟩ := x
  cases h : M.inn k 1 17
  · rw [M.nodeS, M.nodeOk, h, Bool.false_and, Bool.false_and]
  · rw [M.nodeS, M.nodeOk]
    simp only [h, Bool.true_and]
    have key : ∀ A B C D E F : Bool, A = (F && E) → (A && C && B && D) = (F && D && B && C && E) := by decide
    rcases M.kind_cases h with rfl | rfl | rfl | rfl | rfl | rfl | rfl | rfl | rfl | rfl | rfl | rfl | rfl | rfl | rfl | rfl | rfl
    all_goals
      refine key _ _ _ _ _ _ ?_
      rw [Bool.eq_iff_iff]
      simp [M.aS, M.aI, M.kd, M.kds, M.hasA, M.smp, M.inn, List.getD]
      try omega
/-- Tables. -/
def M.tabOk (t : List Int) : Bool := (decide (t.length = 2) || decide (t.length = 4) || decide (t.length = 8) || decide (t.length = 16)) && t.all M.smp
def M.tabsOk (ts : List (List Int)) : Bool := ts.all M.tabOk && decide (ts.length ≤ 4)
def M.idx (n : Int) (f : Int) : Bool := M.inn f 0 (n - 1)
/-- A node of a patch is well formed. -/
def M.nodeF (tb n inp : Int) (x : Node) : Bool := M.nodeOk x tb && x.2.2.2.all (M.idx n) && !(decide (x.1 = 1) && decide (inp ≤ x.2.1))
def M.formed (p : Patch) : Bool :=
  M.inn p.1 0 4 && M.tabsOk p.2.1 && decide (p.2.2.1.length ≤ 24) && decide (p.2.2.2.length ≤ 4) && p.2.2.2.all (M.idx p.2.2.1.length) && p.2.2.1.all (M.nodeF p.2.1.length p.2.2.1.length p.1)
def M.waits (x : Node) : List Int := if x.1 = 6 then [] else x.2.2.2
def M.mem (xs : List Int) (m : Int) : Bool := xs.any fun x => decide (x = m)
theorem M.mem_cons (x m : Int) (xs : List Int) : M.mem (x :: xs) m = (decide (x = m) || M.mem xs m) := rfl
theorem M.mem_nil (m : Int) : M.mem [] m = false := rfl
theorem M.mem_app (xs : List Int) (x m : Int) : M.mem (xs ++ [x]) m = (M.mem xs m || decide (x = m)) := by
  rw [M.mem, List.any_append]
  simp [M.mem]
def M.rdy (ns : List Node) (out : List Int) (i : Nat) : Bool := !M.mem out i && (M.waits ((ns[i]?).getD (0, 0, 0, []))).all (M.mem out)
def M.next (ns : List Node) (out : List Int) : Option Nat := (List.range ns.length).find? (M.rdy ns out)
def M.ordN (ns : List Node) : Nat → List Int
  | 0 => []
  | t + 1 => match M.next ns (M.ordN ns t) with
    | none => M.ordN ns t
    | some i => M.ordN ns t ++ [(i : Int)]
def M.ord (ns : List Node) : List Int := M.ordN ns ns.length
def M.patchOk (p : Patch) : Bool := M.formed p && decide ((M.ord p.2.2.1).length = p.2.2.1.length)
theorem M.next_some {ns : List Node} {out : List Int} {i : Nat} (hi : i < ns.length) (h : M.rdy ns out i = true) (hb : ∀ j, j < i → M.rdy ns out j = false) : M.next ns out = some i := by
  rw [M.next, List.find?_range_eq_some]
  exact ⟨h, List.mem_range.2 hi, fun j hj => by rw [hb j hj]; rfl⟩
theorem M.next_none {ns : List Node} {out : List Int} (hb : ∀ j, j < ns.length → M.rdy ns out j = false) : M.next ns out = none := by
  rw [M.next, List.find?_eq_none]
  intro j hj
  rw [hb j (List.mem_range.1 hj)]
  simp
theorem M.ordN_some {ns : List Node} {t i : Nat} (h : M.next ns (M.ordN ns t) = some i) : M.ordN ns (t + 1) = M.ordN ns t ++ [(i : Int)] := by rw [M.ordN, h]
theorem M.ordN_stay {ns : List Node} {t : Nat} (h : M.next ns (M.ordN ns t) = none) (d : Nat) : M.ordN ns (t + d) = M.ordN ns t := by
  induction d with
  | zero => rfl
  | succ d ih => rw [show t + (d + 1) = (t + d) + 1 from rfl, M.ordN, ih, h]
theorem M.ord_end {ns : List Node} {t : Nat} (ht : t ≤ ns.length) (h : M.next ns (M.ordN ns t) = none) : M.ord ns = M.ordN ns t := by
  rw [M.ord, show ns.length = t + (ns.length - t) by omega, M.ordN_stay h]
theorem M.rdy_at {ns : List Node} {out : List Int} {i : Nat} {x : Node} (h : ns[i]? = some x) : M.rdy ns out i = (!M.mem out i && (M.waits x).all (M.mem out)) := by
  rw [M.rdy, h]; rfl
/-- The zero Patch. -/
def M.p0 : Patch := (0, [], [], [])
def M.effOk (p : Patch) : Bool := decide (p = M.p0) || (M.patchOk p && decide (p.1 = 1) && decide (p.2.2.2.length = 1))
/-- A session is valid. -/
def M.sessOk (s : Sess) : Bool :=
  M.inn s.1 0 1000 && M.srcOk s.2.1 && decide (s.2.2.1.length ≤ 6) && M.mixOk s.2.2.2.2.2 && decide (s.2.2.2.1.length = s.2.2.1.length) && s.2.2.2.1.all (M.idx s.2.2.2.2.2.length) && decide (s.2.2.2.2.1.length = s.2.2.2.2.2.length) && s.2.2.1.all (fun t => M.trackOk t && M.hasS t s.2.1.length) && s.2.2.2.2.1.all M.effOk
end Go.Proofs.YtfkcoiefkjmdeaaGreat
namespace Go.Proofs.YtfkcoiefkjmdeaaGreat
open Go.RowKit
set_option maxHeartbeats 2000000
set_option maxRecDepth 100000
theorem src_cell {w : World} {B : Nat} {A : Option Addr} {n c : Nat} {src : List (List Int)} (hr : RS tS w B (.slice A n c) src) (hb : Hid (∀ x ∈ src, x.length ≤ 1000000000)) {k : Nat} (hk : k < n) :
    ∃ (bb o : Nat) (A1 : Option Addr) (c1 : Nat) (x : List Int), A = some ⟨bb, o, none⟩ ∧ bb < B ∧ Hid (src[k]? = some x) ∧ w.cell? ⟨bb, o + k, none⟩ = some (.slice A1 x.length c1) ∧ RI w B A1 x.length x ∧ x.length ≤ 1000000000000 := by
  obtain rfl : src.length = n := hr.cap.1
  have hX := List.getElem?_eq_getElem hk
  obtain ⟨bb, o, c1, cs, hv, hab, -, hE, hc⟩ := hr.atX hX
  simp only [Value.slice.injEq] at hv
  obtain ⟨rfl, -, rfl⟩ := hv
  obtain ⟨A1, n1, c2, rfl⟩ := open_S hE
  have hR := tS_R.1 hE
  have hcap := hR.cap
  obtain rfl : (src[k]).length = n1 := hcap.1
  have h0 : w.cell? ⟨bb, o + k * 1, none⟩ = some (.slice A1 (src[k]).length c2) := hc 0 _ rfl
  rw [Nat.mul_one] at h0
  exact ⟨bb, o, A1, c2, src[k], rfl, hab, Lib.hid hX, h0, hR.ri, by have := hb.out _ (List.getElem_mem hk); omega⟩
theorem impl_areSignals (A : Option Addr) (n c : Nat) (src : List (List Int)) (w : World) (hx : RS tS w w.heap.size (.slice A n c) src) (hb : Hid (∀ x ∈ src, x.length ≤ 1000000000)) (hn : n ≤ 1000000000) :
    Calls Tryz.prog 97 #[.slice A n c] w fun e w' => e = .returned (.bool (src.all M.sig)) ∧ w = w' := by
  have hl := Lib.hid hx.cap.1
  go_enter Tryz.func97, Tryz.ntmps97
  go_wp2
  go_loop [4, 7] (fun _ i => ∃ k : Nat, i = .int .i64 k ∧ k ≤ n ∧ Hid (src.all M.sig = (src.drop k).all M.sig)) (fun _ i => n - (intOf i).toNat)
  case atStart => exact ⟨0, rfl, by omega, Lib.hid (by simp)⟩
  case round =>
    obtain ⟨k, rfl, hk, H⟩ := hrel
    by_cases hlt : k < n
    · obtain ⟨bb, o, A1, c1, x, rfl, hbb, X, hc, hri, hxl⟩ := src_cell hx hb hlt
      have hd := Lib.hid (M.drop_at X.out)
      cases hs : M.sig x
      · have HS := Lib.hid hs
        clear hs
        go_wp2_with fail
        refine (impl_isSignal _ _ _ _ _ hri hxl).mono ?_
        rw [HS.out]
        rintro e w' ⟨rfl, rfl⟩
        go_wp2
        go_ret
        exact ⟨by rw [H.out, hd.out, List.all_cons, HS.out]; rfl, rfl⟩
      · have HS := Lib.hid hs
        clear hs
        go_wp2_with fail
        refine (impl_isSignal _ _ _ _ _ hri hxl).mono ?_
        rw [HS.out]
        rintro e w' ⟨rfl, rfl⟩
        go_wp2
        go_round
        case rel => exact ⟨k + 1, by go_num, by omega, Lib.hid (by rw [H.out, hd.out, List.all_cons, HS.out, Bool.true_and])⟩
        case measure => simp [intOf]; omega
    · have h9 := Lib.hid (show src.all M.sig = true by rw [H.out, List.drop_eq_nil_of_le (by rw [hl.out]; omega)]; rfl)
      go_wp2
      go_ret
      exact ⟨ret_bool h9.out.symm, rfl⟩
theorem impl_areSources (A : Option Addr) (n c : Nat) (src : List (List Int)) (w : World) (hx : RS tS w w.heap.size (.slice A n c) src) (hb : Hid (∀ x ∈ src, x.length ≤ 1000000000)) (hn : n ≤ 1000000000) :
    Calls Tryz.prog 66 #[.slice A n c] w fun e w' => e = .returned (.bool (M.srcOk src)) ∧ w = w' := by
  have hl := Lib.hid hx.cap.1
  by_cases h : n ≤ 6
  · go_enter Tryz.func66, Tryz.ntmps66
    go_wp2_with fail
    refine (impl_areSignals _ _ _ _ _ hx hb hn).mono ?_
    rintro e w' ⟨rfl, rfl⟩
    go_wp2
    go_ret
    exact ⟨ret_bool (by simp [M.srcOk, hl.out, h]), rfl⟩
  · go_enter Tryz.func66, Tryz.ntmps66
    go_wp2
    go_ret
    exact ⟨ret_bool (by simp [M.srcOk, hl.out, h]), rfl⟩
theorem spec_l23Sources (A : Option Addr) (n c : Nat) (src : List (List Int)) (w : World) (hx : RS tS w w.heap.size (.slice A n c) src) (hb : Hid (∀ x ∈ src, x.length ≤ 1000000000)) (hn : n ≤ 1000000000) :
    Calls Tryz.prog 23 #[.slice A n c] w fun e w' => e = .returned (.bool (M.srcOk src)) ∧ w = w' := by
  have hl := Lib.hid hx.cap.1
  go_enter Tryz.func23, Tryz.ntmps23
  go_wp2
  go_loop [3] (fun i => ∃ k : Nat, i = .int .i64 k ∧ k ≤ n ∧ Hid (src.all M.sig = (src.drop k).all M.sig)) (fun i => n - (intOf i).toNat)
  case atStart => exact ⟨0, rfl, by omega, Lib.hid (by simp)⟩
  case round =>
    obtain ⟨k, rfl, hk, H⟩ := hrel
    by_cases hlt : k < n
    · obtain ⟨bb, o, A1, c1, x, rfl, hbb, X, hc, hri, hxl⟩ := src_cell hx hb hlt
      have hd := Lib.hid (M.drop_at X.out)
      cases hs : M.sig x
      · have HS := Lib.hid hs
        clear hs
        go_wp2_with fail
        refine (spec_l03Ok _ _ _ _ _ hri hxl).mono ?_
        rw [HS.out]
        rintro e w' ⟨rfl, rfl⟩
        go_wp2
        go_ret
        exact ⟨ret_bool (by rw [M.srcOk, H.out, hd.out, List.all_cons, HS.out, Bool.false_and, Bool.and_false]), rfl⟩
      · have HS := Lib.hid hs
        clear hs
        go_wp2_with fail
        refine (spec_l03Ok _ _ _ _ _ hri hxl).mono ?_
        rw [HS.out]
        rintro e w' ⟨rfl, rfl⟩
        go_wp2
        go_round
        case rel => exact ⟨k + 1, by go_num, by omega, Lib.hid (by rw [H.out, hd.out, List.all_cons, HS.out, Bool.true_and])⟩
        case measure => simp [intOf]; omega
    · have h9 := Lib.hid (show M.srcOk src = decide (n ≤ 6) by rw [M.srcOk, H.out, List.drop_eq_nil_of_le (by rw [hl.out]; omega), hl.out]; simp)
      go_wp2
      go_ret
      exact ⟨ret_bool (by rw [h9.out, Bool.eq_iff_iff]; simp; try omega), rfl⟩
theorem impl_size_int64S (A : Option Addr) (n c : Nat) (w : World) : Calls Tryz.prog 70 #[.slice A n c] w fun e w' => e = .returned (.int .i64 n) ∧ w = w' := by
  go_enter Tryz.func70, Tryz.ntmps70
  go_wp2
  go_ret
  exact ⟨rfl, rfl⟩
theorem impl_hasSources_1 (b : Nat) (m d0 d1 d2 d3 d4 : Int) (w : World) (g0 : w.cell? ⟨b, 0, none⟩ = some (.int .i64 m)) :
    Calls Tryz.prog 100 #[.agg #[.int .i64 d0, .int .i64 d1, .int .i64 d2, .int .i64 d3, .int .i64 d4], .pointer (some ⟨b, 0, none⟩)] w fun e w' => e = .returned (.bool (decide (m ≤ d0))) ∧ Below w.heap.size w w' := by
  have hb : b < w.heap.size := World.block_lt_of_cell? w _ g0
  have fin : Below w.heap.size w (w.alloc (.cells #[.int .i64 d0, .int .i64 d1, .int .i64 d2, .int .i64 d3, .int .i64 d4] 64)) := (Below.refl _ _).alloc (Nat.le_refl _) _
  go_enter Tryz.func100, Tryz.ntmps100
  go_wp2
  go_ret
  exact ⟨rfl, fin⟩
theorem IndexFunc_has (bb : Nat) (m : Int) (A : Option Addr) (n cap : Nat) (xs : List Clip) (w : World) (hx : RA cl 5 w w.heap.size A n xs) (hn : n ≤ 1000000000) (hg : w.cell? ⟨bb, 0, none⟩ = some (.int .i64 m)) :
    Calls Tryz.prog 117 #[.slice A n cap, .func (.func 100) #[] #[.pointer (some ⟨bb, 0, none⟩)]] w fun e w' => e = .returned (.int .i64 (idxInt (xs.findIdx? fun c => decide (m ≤ c.1)))) ∧ Below w.heap.size w w' := by
  have hl := Lib.hid hx.len
  have hbb : bb < w.heap.size := World.block_lt_of_cell? w _ hg
  go_enter Tryz.func117, Tryz.ntmps117
  go_wp2
  go_loopw [5, 8] (fun _ i wr => ∃ k : Nat, i = .int .i64 k ∧ k ≤ n ∧ Hid (∀ j, j < k → ∀ y : Clip, xs[j]? = some y → decide (m ≤ y.1) = false) ∧ Below w.heap.size w wr) (fun _ i _ => n - (intOf i).toNat)
  case atStart => exact ⟨0, rfl, by omega, Lib.hid (by omega), Below.refl _ _⟩
  case round =>
    obtain ⟨k, rfl, hk, H, hb⟩ := hrel
    by_cases hlt : k < n
    · obtain ⟨b, o, ⟨p0, p1, p2, p3, p4⟩, rfl, hab, X, hc⟩ := (hx.below hb).at cl_len (by decide) hlt
      have hc0 : wr.cell? ⟨b, o + k * 5, none⟩ = some (.int .i64 p0) := hc 0 _ rfl
      have hc1 : wr.cell? ⟨b, o + k * 5 + 1, none⟩ = some (.int .i64 p1) := hc 1 _ rfl
      have hc2 : wr.cell? ⟨b, o + k * 5 + 2, none⟩ = some (.int .i64 p2) := hc 2 _ rfl
      have hc3 : wr.cell? ⟨b, o + k * 5 + 3, none⟩ = some (.int .i64 p3) := hc 3 _ rfl
      have hc4 : wr.cell? ⟨b, o + k * 5 + 4, none⟩ = some (.int .i64 p4) := hc 4 _ rfl
      clear hc
      have hgr : wr.cell? ⟨bb, 0, none⟩ = some (.int .i64 m) := by rw [hb.cell (by simpa using hbb)]; exact hg
      have cP := Lib.hid (impl_hasSources_1 bb m p0 p1 p2 p3 p4 wr hgr)
      cases hj : decide (m ≤ p0)
      · have hj' := Lib.hid hj
        clear hj
        go_wp2_with (go_at_call 100; refine (cP.out).mono ?_; rw [hj'.out]; rintro e w2 ⟨rfl, bel2⟩)
        go_roundw
        case rel => exact ⟨k + 1, by go_num, by omega, Lib.hid (fun j hj y hy => by rcases Nat.lt_succ_iff_lt_or_eq.1 hj with h | h; exact H.out j h y hy; subst h; rw [X.out] at hy; injection hy with hy; rw [← hy]; exact hj'.out), hb.trans (bel2.mono hb.size)⟩
        case measure => simp [intOf]; omega
      · have hf := Lib.hid (M.find_some (p := fun c : Clip => decide (m ≤ c.1)) X.out hj H.out)
        have hj' := Lib.hid hj
        clear hj
        go_wp2_with (go_at_call 100; refine (cP.out).mono ?_; rw [hj'.out]; rintro e w2 ⟨rfl, bel2⟩)
        go_ret
        exact ⟨by rw [hf.out]; rfl, hb.trans (bel2.mono hb.size)⟩
    · have hf := Lib.hid (M.find_none (xs := xs) (p := fun c : Clip => decide (m ≤ c.1)) (fun j hj y hy => H.out j (by rw [hl.out] at hj; omega) y hy))
      go_wp2
      go_ret
      exact ⟨by rw [hf.out]; rfl, hb⟩
theorem M.hasS_find (xs : List Clip) (m : Int) : (idxInt (xs.findIdx? fun c => decide (m ≤ c.1)) ≥ 0 ↔ M.hasS xs m = false) := by
  unfold M.hasS
  cases h : xs.findIdx? fun c => decide (m ≤ c.1) with
  | none =>
    rw [List.findIdx?_eq_none_iff] at h
    simp only [idxInt]
    constructor
    · intro h2; omega
    · intro h2
      rw [List.all_eq_false] at h2
      obtain ⟨x, hx, h3⟩ := h2
      have := h x hx
      simp at this h3
      omega
  | some i =>
    rw [List.findIdx?_eq_some_iff_getElem] at h
    obtain ⟨hi, h2, _⟩ := h
    simp only [idxInt]
    constructor
    · intro _
      rw [List.all_eq_false]
      exact ⟨_, List.getElem_mem hi, by simp at h2 ⊢; omega⟩
    · intro _; omega
theorem ContainsFunc_has (bb : Nat) (m : Int) (A : Option Addr) (n cap : Nat) (xs : List Clip) (w : World) (hx : RA cl 5 w w.heap.size A n xs) (hn : n ≤ 1000000000) (hg : w.cell? ⟨bb, 0, none⟩ = some (.int .i64 m)) :
    Calls Tryz.prog 99 #[.slice A n cap, .func (.func 100) #[] #[.pointer (some ⟨bb, 0, none⟩)]] w fun e w' => e = .returned (.bool (!M.hasS xs m)) ∧ Below w.heap.size w w' := by
  have hF := Lib.hid (M.hasS_find xs m)
  have hI := Lib.hid (IndexFunc_has bb m A n cap xs w hx hn hg)
  generalize idxInt (xs.findIdx? fun c => decide (m ≤ c.1)) = q at hF hI
  by_cases h : 0 ≤ q
  · have R := Lib.hid (hF.out.1 h)
    go_enter Tryz.func99, Tryz.ntmps99
    go_wp2_with fail
    refine hI.out.mono ?_
    rintro e w2 ⟨rfl, bel2⟩
    go_wp2
    go_ret
    exact ⟨ret_bool (by rw [R.out]; simp), bel2⟩
  · have R := Lib.hid (show M.hasS xs m = true by
      cases h2 : M.hasS xs m
      · exact absurd (hF.out.2 h2) h
      · rfl)
    go_enter Tryz.func99, Tryz.ntmps99
    go_wp2_with fail
    refine hI.out.mono ?_
    rintro e w2 ⟨rfl, bel2⟩
    go_wp2
    go_ret
    exact ⟨ret_bool (by rw [R.out]; simpa using h), bel2⟩
theorem impl_hasSources (A : Option Addr) (n c : Nat) (xs : List Clip) (m : Int) (w : World) (hx : RA cl 5 w w.heap.size A n xs) (hn : n ≤ 1000000000) :
    Calls Tryz.prog 69 #[.agg #[.slice A n c], .int .i64 m] w fun e w' => e = .returned (.bool (M.hasS xs m)) ∧ Below w.heap.size w w' := by
  obtain ⟨W, hW⟩ : ∃ W, W = (w.alloc (.cells #[.slice A n c] 42)).alloc (.cells #[.int .i64 m] 2) := ⟨_, rfl⟩
  have B0 : Below w.heap.size w W := by rw [hW]; exact ((Below.refl _ _).alloc (Nat.le_refl _) _).alloc (by simp) _
  have g0 : W.cell? ⟨w.heap.size + 1, 0, none⟩ = some (.int .i64 m) := by rw [hW]; simp [go_sem]
  have HW := Lib.hid hW
  clear hW
  have hx1 := hx.later B0
  go_enter Tryz.func69, Tryz.ntmps69
  go_wp2_with fail
  rw [← HW.out]
  refine (ContainsFunc_has (w.heap.size + 1) m _ _ _ _ _ hx1 hn g0).mono ?_
  rintro e w2 ⟨rfl, bel2⟩
  go_wp2
  go_ret
  exact ⟨ret_bool (by simp), bel_trans B0 bel2⟩
end Go.Proofs.YtfkcoiefkjmdeaaGreat
namespace Go.Proofs.YtfkcoiefkjmdeaaGreat
open Go.RowKit Go.Sort
set_option maxHeartbeats 4000000
set_option maxRecDepth 100000
set_option linter.unusedVariables false
set_option linter.unusedSimpArgs false
theorem RI_lit (w : World) (e : TypeId) (xs : List Int) (cur : Array Value) (h : cur.toList = xs.map (.int .i64)) : RI (w.alloc (.cells cur e)) (w.heap.size + 1) (some ⟨w.heap.size, 0, none⟩) xs.length xs :=
  ⟨by simp, fun _ => ⟨_, rfl, by simp, fun j u hu => by
    rw [show (⟨w.heap.size, 0, none⟩ : Addr).add j = ⟨w.heap.size, j, none⟩ by simp [Addr.add]; omega, cell_of_row _ w.heap.size j cur e (0, 0) (heap_alloc_new w _), ← hu, ← h, Array.getElem?_toList]⟩⟩
theorem to_bel {P : Program} {f : FuncId} {args : Array Value} {w : World} {v : Ending} (h : Calls P f args w fun e w' => e = v ∧ w = w') : Calls P f args w fun e w' => e = v ∧ Below w.heap.size w w' :=
  h.mono fun _ _ ⟨he, hw⟩ => ⟨he, hw ▸ Below.refl _ _⟩
theorem spec_l00Has (A : Option Addr) (n c : Nat) (xs : List Int) (m : Int) (w : World) (hx : RI w w.heap.size A n xs) (hn : n ≤ 1000000000000) :
    Calls Tryz.prog 123 #[.slice A n c, .int .i64 m] w fun e w' => e = .returned (.bool (M.mem xs m)) ∧ w = w' := by
  go_enter Tryz.func123, Tryz.ntmps123
  go_wp2
  go_loop [5] (fun i => ∃ k : Nat, i = .int .i64 k ∧ k ≤ n ∧ Hid (M.mem xs m = M.mem (xs.drop k) m)) (fun i => n - (intOf i).toNat)
  case atStart => exact ⟨0, rfl, by omega, Lib.hid (by simp)⟩
  case round =>
    obtain ⟨k, rfl, hk, H⟩ := hrel
    have hl := Lib.hid hx.len
    by_cases hlt : k < n
    · obtain ⟨ad, x, rfl, hab, X, hc⟩ := hx.at hlt
      have hd := Lib.hid (M.drop_at X.out)
      by_cases hs : x = m
      · have R := Lib.hid (show M.mem xs m = true by rw [H.out, hd.out, M.mem_cons]; simp [hs])
        have g : (x == m) = true := by simpa using hs
        subst hs
        go_wp2
        go_ret
        exact ⟨ret_bool (by rw [R.out]), rfl⟩
      · have R := Lib.hid (show M.mem xs m = M.mem (xs.drop (k + 1)) m by rw [H.out, hd.out, M.mem_cons, decide_eq_false hs, Bool.false_or])
        have g : (x == m) = false := by simpa using hs
        clear hs
        go_wp2
        go_round
        case rel => exact ⟨k + 1, by go_num, by omega, R⟩
        case measure => simp [intOf]; omega
    · have R := Lib.hid (show M.mem xs m = false by rw [H.out, List.drop_eq_nil_of_le (by rw [hl.out]; omega)]; rfl)
      go_wp2
      go_ret
      exact ⟨ret_bool (by rw [R.out]), rfl⟩
theorem M.hasA_eq (k : Int) : M.mem [1, 2, 5, 6, 10, 11, 12, 13, 14, 17] k = M.hasA k := by
  rw [Bool.eq_iff_iff]
  simp only [M.mem, M.hasA, List.any_cons, List.any_nil, Bool.or_eq_true, decide_eq_true_eq, Bool.false_eq_true, or_false]
  omega
theorem spec_l06HasA (k : Int) (w : World) : Calls Tryz.prog 126 #[.int .i64 k] w fun e w' => e = .returned (.bool (M.hasA k)) ∧ Below w.heap.size w w' := by
  obtain ⟨W, hW⟩ : ∃ W, W = w.alloc (.cells #[.int .i64 1, .int .i64 2, .int .i64 5, .int .i64 6, .int .i64 10, .int .i64 11, .int .i64 12, .int .i64 13, .int .i64 14, .int .i64 17] 2) := ⟨_, rfl⟩
  have B0 : Below w.heap.size w W := by rw [hW]; exact (Below.refl _ _).alloc (Nat.le_refl _) _
  have hr : RI W W.heap.size (some ⟨w.heap.size, 0, none⟩) 10 [1, 2, 5, 6, 10, 11, 12, 13, 14, 17] := by rw [hW]; exact (RI_lit w 2 [1, 2, 5, 6, 10, 11, 12, 13, 14, 17] _ rfl).more (by simp)
  have HW := Lib.hid hW
  clear hW
  go_enter Tryz.func126, Tryz.ntmps126
  go_wp2_with fail
  rw [← HW.out]
  refine (spec_l00Has _ _ _ _ _ _ hr (by omega)).mono ?_
  rintro e w2 ⟨rfl, rfl⟩
  go_wp2
  go_ret
  exact ⟨ret_bool (M.hasA_eq k), B0⟩
theorem spec_l06Arity (k : Int) (w : World) (h : 0 ≤ k ∧ k ≤ 17) : Calls Tryz.prog 82 #[.int .i64 k] w fun e w' => e = .returned (.int .i64 (M.ar k.toNat)) ∧ Below w.heap.size w w' := by
  obtain ⟨j, rfl⟩ : ∃ j : Nat, k = j := ⟨k.toNat, by omega⟩
  obtain ⟨W, hW⟩ : ∃ W, W = w.alloc (.cells #[.int .i64 (-1), .int .i64 0, .int .i64 0, .int .i64 2, .int .i64 2, .int .i64 1, .int .i64 1, .int .i64 1, .int .i64 1, .int .i64 2, .int .i64 1, .int .i64 1, .int .i64 1, .int .i64 1, .int .i64 0, .int .i64 3, .int .i64 2, .int .i64 1] 2) := ⟨_, rfl⟩
  have B0 : Below w.heap.size w W := by rw [hW]; exact (Below.refl _ _).alloc (Nat.le_refl _) _
  have hr : RI W W.heap.size (some ⟨w.heap.size, 0, none⟩) 18 M.ars := by rw [hW]; exact (RI_lit w 2 M.ars _ rfl).more (by simp)
  obtain ⟨ad, x, e, -, X, hc⟩ := hr.at (k := j) (by omega)
  injection e with e
  subst e
  have hR := Lib.hid (show M.ar j = x by rw [M.ar, List.getD_eq_getElem?_getD, X.out]; rfl)
  have hc2 : W.cell? ⟨w.heap.size, j, none⟩ = some (.int .i64 x) := by rw [← hc, show (⟨w.heap.size, 0, none⟩ : Addr).add j = ⟨w.heap.size, j, none⟩ by simp [Addr.add]; omega]
  rw [hW] at hc2
  have hj : j < 18 := by omega
  have hj2 : (j : Int) < 18 := by omega
  clear hc hr X
  go_enter Tryz.func82, Tryz.ntmps82
  go_wp2
  go_ret
  exact ⟨ret_int (by rw [Int.toNat_natCast, hR.out]), by rw [← hW]; exact B0⟩
end Go.Proofs.YtfkcoiefkjmdeaaGreat
