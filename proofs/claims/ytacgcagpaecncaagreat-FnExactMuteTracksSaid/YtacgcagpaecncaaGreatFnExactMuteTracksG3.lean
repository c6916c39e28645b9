import Derived.Test.YtacgcagpaecncaaGreatFnExactMuteTracksG2
import Derived.Deep.RegionLaw
import Derived.Lib.SliceRun
import Derived.Laws.IdiomStrings
import Derived.Lib.Strings
set_option linter.unusedVariables false
set_option linter.unusedSimpArgs false
namespace Go.Proofs.YtacgcagpaecncaaGreat
open Go.RowKit Go.Sort
set_option maxHeartbeats 1000000
set_option maxRecDepth 100000
abbrev Clip := Int × Int × Int × Int × Int
def M.clipOk (p : Clip) : Bool := M.inn p.1 0 5 && M.inn p.2.2.1 1 4000 && M.inn p.2.1 0 (4000 - p.2.2.1) && M.inn p.2.2.2.1 0 (4000 - p.2.2.1) && M.smp p.2.2.2.2
def M.cz : Clip := (0, 0, 0, 0, 0)
def M.afterT (xs : List Clip) (k : Nat) : Bool := k == 0 || decide (((xs[k - 1]?).getD M.cz).2.2.2.1 ≤ ((xs[k]?).getD M.cz).2.2.2.1)
def M.stepT (xs : List Clip) (k : Nat) : Bool := M.clipOk ((xs[k]?).getD M.cz) && M.afterT xs k
def M.trackOk (xs : List Clip) : Bool := (List.range xs.length).all (M.stepT xs) && decide (xs.length ≤ 12)
theorem M.len_wrap {l : Int} (h : M.inn l 1 4000 = true) : IntKind.i64.wrap (4000 - l) = 4000 - l ∧ 1 ≤ l ∧ l ≤ 4000 := by
  have := M.inn_iff.1 h
  exact ⟨IntWalk.i64_in _ (by omega), this⟩
theorem impl_isClip (a b c d e : Int) (w : World) : Calls Tryz.prog 102 #[.agg #[.int .i64 a, .int .i64 b, .int .i64 c, .int .i64 d, .int .i64 e]] w fun en w' => en = .returned (.bool (M.clipOk (a, b, c, d, e))) ∧ Below w.heap.size w w' := by
  cases h1 : M.inn a 0 5
  · go_enter Tryz.func102, Tryz.ntmps102
    go_wp2_with (first | (go_at_call 62; refine (impl_within _ _ _ _).mono ?_; rintro e w' ⟨rfl, rfl⟩) | (go_at_call 130; refine (impl_isSample _ _).mono ?_; rintro e w' ⟨rfl, rfl⟩))
    go_ret
    exact ⟨ret_bool (by simp [M.clipOk, h1]), (Below.refl _ _).alloc (Nat.le_refl _) _⟩
  · cases h2 : M.inn c 1 4000
    · go_enter Tryz.func102, Tryz.ntmps102
      go_wp2_with (first | (go_at_call 62; refine (impl_within _ _ _ _).mono ?_; rintro e w' ⟨rfl, rfl⟩) | (go_at_call 130; refine (impl_isSample _ _).mono ?_; rintro e w' ⟨rfl, rfl⟩))
      go_ret
      exact ⟨ret_bool (by simp [M.clipOk, h1, h2]), (Below.refl _ _).alloc (Nat.le_refl _) _⟩
    · obtain ⟨hw, hl1, hl2⟩ := M.len_wrap h2
      clear hw
      cases h3 : M.inn b 0 (4000 - c)
      · go_enter Tryz.func102, Tryz.ntmps102
        go_wp2_with (first | (go_at_call 62; refine (impl_within _ _ _ _).mono ?_; rintro e w' ⟨rfl, rfl⟩) | (go_at_call 130; refine (impl_isSample _ _).mono ?_; rintro e w' ⟨rfl, rfl⟩))
        go_ret
        exact ⟨ret_bool (by simp [M.clipOk, h1, h2, h3]), (Below.refl _ _).alloc (Nat.le_refl _) _⟩
      · cases h4 : M.inn d 0 (4000 - c)
        · go_enter Tryz.func102, Tryz.ntmps102
          go_wp2_with (first | (go_at_call 62; refine (impl_within _ _ _ _).mono ?_; rintro e w' ⟨rfl, rfl⟩) | (go_at_call 130; refine (impl_isSample _ _).mono ?_; rintro e w' ⟨rfl, rfl⟩))
          go_ret
          exact ⟨ret_bool (by simp [M.clipOk, h1, h2, h3, h4]), (Below.refl _ _).alloc (Nat.le_refl _) _⟩
        · cases h5 : M.smp e
          all_goals
            go_enter Tryz.func102, Tryz.ntmps102
            go_wp2_with (first | (go_at_call 62; refine (impl_within _ _ _ _).mono ?_; rintro e w' ⟨rfl, rfl⟩) | (go_at_call 130; refine (impl_isSample _ _).mono ?_; rintro e w' ⟨rfl, rfl⟩))
            go_ret
            exact ⟨ret_bool (by simp [M.clipOk, h1, h2, h3, h4, h5]), (Below.refl _ _).alloc (Nat.le_refl _) _⟩
theorem spec_l23Clip (b o : Nat) (p : Clip) (w : World) (g0 : w.cell? ⟨b, o, none⟩ = some (.int .i64 p.1)) (g1 : w.cell? ⟨b, o + 1, none⟩ = some (.int .i64 p.2.1)) (g2 : w.cell? ⟨b, o + 2, none⟩ = some (.int .i64 p.2.2.1)) (g3 : w.cell? ⟨b, o + 3, none⟩ = some (.int .i64 p.2.2.2.1)) (g4 : w.cell? ⟨b, o + 4, none⟩ = some (.int .i64 p.2.2.2.2)) :
    Calls Tryz.prog 142 #[.pointer (some ⟨b, o, none⟩)] w fun en w' => en = .returned (.bool (M.clipOk p)) ∧ ∃ m, w' = w.drewN m := by
  obtain ⟨a, f, l, t, q⟩ := p
  simp only at g0 g1 g2 g3 g4
  cases h1 : M.inn a 0 5
  · go_enter Tryz.func142, Tryz.ntmps142
    go_wp2_with (first | (go_at_call 37; refine (spec_l00In _ _ _ _).mono ?_; rintro e w' ⟨rfl, rfl⟩) | (go_at_call 92; refine (spec_l01Sample _ _).mono ?_; rintro e w' ⟨rfl, rfl⟩))
    go_ret
    exact ⟨ret_bool (by simp [M.clipOk, h1]), 0, rfl⟩
  · cases h2 : M.inn l 1 4000
    · go_enter Tryz.func142, Tryz.ntmps142
      go_wp2_with (first | (go_at_call 37; refine (spec_l00In _ _ _ _).mono ?_; rintro e w' ⟨rfl, rfl⟩) | (go_at_call 92; refine (spec_l01Sample _ _).mono ?_; rintro e w' ⟨rfl, rfl⟩))
      go_ret
      exact ⟨ret_bool (by simp [M.clipOk, h1, h2]), 0, rfl⟩
    · cases h5 : M.smp q
      · go_enter Tryz.func142, Tryz.ntmps142
        go_wp2_with (first | (go_at_call 37; refine (spec_l00In _ _ _ _).mono ?_; rintro e w' ⟨rfl, rfl⟩) | (go_at_call 92; refine (spec_l01Sample _ _).mono ?_; rintro e w' ⟨rfl, rfl⟩))
        go_ret
        exact ⟨ret_bool (by simp [M.clipOk, h1, h2, h5]), 0, rfl⟩
      · obtain ⟨hw, hl1, hl2⟩ := M.len_wrap h2
        have hw0 : (0 : Int) ≤ 4000 - l := by omega
        cases h3 : M.inn f 0 (4000 - l)
        · have c1 : ∀ m, Calls Tryz.prog 37 #[.int .i64 f, .int .i64 0, .int .i64 (4000 - l)] (w.drewN m) fun e w'' => e = .returned (.bool false) ∧ ∃ m', w'' = w.drewN m' := fun m => quiet_left (by have h := spec_l00In f 0 (4000 - l) (w.drewN m); rw [h3] at h; exact h)
          go_enter Tryz.func142, Tryz.ntmps142
          go_wp2_with (first | (go_at_call 37; refine (spec_l00In _ _ _ _).mono ?_; rintro e w' ⟨rfl, rfl⟩) | (go_at_call 92; refine (spec_l01Sample _ _).mono ?_; rintro e w' ⟨rfl, rfl⟩))
          go_quiet (first | (go_at_call_of 37 (Value.int .i64 f); exact c1 _))
          go_wp2
          go_ret
          exact ⟨ret_bool (by simp [M.clipOk, h1, h2, h3, h5]), _, rfl⟩
        · cases h4 : M.inn t 0 (4000 - l)
          · have c1 : ∀ m, Calls Tryz.prog 37 #[.int .i64 f, .int .i64 0, .int .i64 (4000 - l)] (w.drewN m) fun e w'' => e = .returned (.bool true) ∧ ∃ m', w'' = w.drewN m' := fun m => quiet_left (by have h := spec_l00In f 0 (4000 - l) (w.drewN m); rw [h3] at h; exact h)
            have c2 : ∀ m, Calls Tryz.prog 37 #[.int .i64 t, .int .i64 0, .int .i64 (4000 - l)] (w.drewN m) fun e w'' => e = .returned (.bool false) ∧ ∃ m', w'' = w.drewN m' := fun m => quiet_left (by have h := spec_l00In t 0 (4000 - l) (w.drewN m); rw [h4] at h; exact h)
            go_enter Tryz.func142, Tryz.ntmps142
            go_wp2_with (first | (go_at_call 37; refine (spec_l00In _ _ _ _).mono ?_; rintro e w' ⟨rfl, rfl⟩) | (go_at_call 92; refine (spec_l01Sample _ _).mono ?_; rintro e w' ⟨rfl, rfl⟩))
            go_quiet (first | (go_at_call_of 37 (Value.int .i64 f); exact c1 _) | (go_at_call_of 37 (Value.int .i64 t); exact c2 _))
            go_wp2
            go_ret
            exact ⟨ret_bool (by simp [M.clipOk, h1, h2, h3, h4, h5]), _, rfl⟩
          · have c1 : ∀ m, Calls Tryz.prog 37 #[.int .i64 f, .int .i64 0, .int .i64 (4000 - l)] (w.drewN m) fun e w'' => e = .returned (.bool true) ∧ ∃ m', w'' = w.drewN m' := fun m => quiet_left (by have h := spec_l00In f 0 (4000 - l) (w.drewN m); rw [h3] at h; exact h)
            have c2 : ∀ m, Calls Tryz.prog 37 #[.int .i64 t, .int .i64 0, .int .i64 (4000 - l)] (w.drewN m) fun e w'' => e = .returned (.bool true) ∧ ∃ m', w'' = w.drewN m' := fun m => quiet_left (by have h := spec_l00In t 0 (4000 - l) (w.drewN m); rw [h4] at h; exact h)
            go_enter Tryz.func142, Tryz.ntmps142
            go_wp2_with (first | (go_at_call 37; refine (spec_l00In _ _ _ _).mono ?_; rintro e w' ⟨rfl, rfl⟩) | (go_at_call 92; refine (spec_l01Sample _ _).mono ?_; rintro e w' ⟨rfl, rfl⟩))
            go_quiet (first | (go_at_call_of 37 (Value.int .i64 f); exact c1 _) | (go_at_call_of 37 (Value.int .i64 t); exact c2 _))
            go_wp2
            go_ret
            exact ⟨ret_bool (by simp [M.clipOk, h1, h2, h3, h4, h5]), _, rfl⟩
theorem impl_isTrack (A : Option Addr) (n c : Nat) (xs : List Clip) (w : World) (hx : RA cl 5 w w.heap.size A n xs) (hn : n ≤ 1000000000) :
    Calls Tryz.prog 67 #[.agg #[.slice A n c]] w fun e w' => e = .returned (.bool (M.trackOk xs)) ∧ Below w.heap.size w w' := by
  have hl := Lib.hid hx.len
  have hbw : Below w.heap.size w (w.alloc (.cells #[.slice A n c] 95)) := (Below.refl _ _).alloc (Nat.le_refl _) _
  have hself := lay_cell w (.slice A n c) 95
  have hsize : (w.alloc (.cells #[.slice A n c] 95)).heap.size = w.heap.size + 1 := by simp
  go_enter Tryz.func67, Tryz.ntmps67
  go_wp2
  go_loopw [3, 4, 8] (fun _ _ i wr => ∃ k : Nat, i = .int .i64 k ∧ k ≤ n ∧ Hid (∀ j, j < k → M.stepT xs j = true) ∧ Below (w.heap.size + 1) (w.alloc (.cells #[.slice A n c] 95)) wr) (fun _ _ i _ => n - (intOf i).toNat)
  case atStart => exact ⟨0, rfl, by omega, Lib.hid (by omega), Below.refl _ _⟩
  case round =>
    obtain ⟨k, rfl, hk, H, hb⟩ := hrel
    have hbb : Below w.heap.size w wr := hbw.trans (hb.mono (by omega))
    have hsz : w.heap.size + 1 ≤ wr.heap.size := by rw [← hsize]; exact hb.size
    have hv : wr.cell? ⟨w.heap.size, 0, none⟩ = some (.slice A n c) := by rw [hb.cell (by simp)]; exact hself
    by_cases hlt : k < n
    · obtain ⟨b, o, ⟨p0, p1, p2, p3, p4⟩, rfl, hab, X, hc⟩ := (hx.below hbb).at cl_len (by decide) hlt
      have hc0 : wr.cell? ⟨b, o + k * 5, none⟩ = some (.int .i64 p0) := hc 0 _ rfl
      have hc1 : wr.cell? ⟨b, o + k * 5 + 1, none⟩ = some (.int .i64 p1) := hc 1 _ rfl
      have hc2 : wr.cell? ⟨b, o + k * 5 + 2, none⟩ = some (.int .i64 p2) := hc 2 _ rfl
      have hc3 : wr.cell? ⟨b, o + k * 5 + 3, none⟩ = some (.int .i64 p3) := hc 3 _ rfl
      have hc4 : wr.cell? ⟨b, o + k * 5 + 4, none⟩ = some (.int .i64 p4) := hc 4 _ rfl
      clear hc
      obtain ⟨⟨r0, r1, r2, r3, r4⟩, Z, hr⟩ := (hx.below hbb).cells cl_len (by decide) (k := k - 1) (by omega)
      have hr0 : wr.cell? ⟨b, o + (k - 1) * 5 + 3, none⟩ = some (.int .i64 r3) := hr 3 _ rfl
      clear hr
      have hs4 : (wr.alloc (.cells #[.int .i64 p0, .int .i64 p1, .int .i64 p2, .int .i64 p3, .int .i64 p4] 133)).heap.size = wr.heap.size + 1 := by simp
      have hbr : b < (wr.alloc (.cells #[.int .i64 p0, .int .i64 p1, .int .i64 p2, .int .i64 p3, .int .i64 p4] 133)).heap.size := by omega
      have hbv : w.heap.size < (wr.alloc (.cells #[.int .i64 p0, .int .i64 p1, .int .i64 p2, .int .i64 p3, .int .i64 p4] 133)).heap.size := by omega
      have hbn : wr.heap.size < (wr.alloc (.cells #[.int .i64 p0, .int .i64 p1, .int .i64 p2, .int .i64 p3, .int .i64 p4] 133)).heap.size := by omega
      have qa0 : (wr.alloc (.cells #[.int .i64 p0, .int .i64 p1, .int .i64 p2, .int .i64 p3, .int .i64 p4] 133)).cell? ⟨wr.heap.size, 0, none⟩ = some (.int .i64 p0) := by rw [cell_of_row _ wr.heap.size 0 _ 133 (0, 0) (heap_alloc_new wr _)]; rfl
      have qa1 : (wr.alloc (.cells #[.int .i64 p0, .int .i64 p1, .int .i64 p2, .int .i64 p3, .int .i64 p4] 133)).cell? ⟨wr.heap.size, 1, none⟩ = some (.int .i64 p1) := by rw [cell_of_row _ wr.heap.size 1 _ 133 (0, 0) (heap_alloc_new wr _)]; rfl
      have qa2 : (wr.alloc (.cells #[.int .i64 p0, .int .i64 p1, .int .i64 p2, .int .i64 p3, .int .i64 p4] 133)).cell? ⟨wr.heap.size, 2, none⟩ = some (.int .i64 p2) := by rw [cell_of_row _ wr.heap.size 2 _ 133 (0, 0) (heap_alloc_new wr _)]; rfl
      have qa3 : (wr.alloc (.cells #[.int .i64 p0, .int .i64 p1, .int .i64 p2, .int .i64 p3, .int .i64 p4] 133)).cell? ⟨wr.heap.size, 3, none⟩ = some (.int .i64 p3) := by rw [cell_of_row _ wr.heap.size 3 _ 133 (0, 0) (heap_alloc_new wr _)]; rfl
      have qa4 : (wr.alloc (.cells #[.int .i64 p0, .int .i64 p1, .int .i64 p2, .int .i64 p3, .int .i64 p4] 133)).cell? ⟨wr.heap.size, 4, none⟩ = some (.int .i64 p4) := by rw [cell_of_row _ wr.heap.size 4 _ 133 (0, 0) (heap_alloc_new wr _)]; rfl
      have q2 : (wr.alloc (.cells #[.int .i64 p0, .int .i64 p1, .int .i64 p2, .int .i64 p3, .int .i64 p4] 133)).cell? ⟨w.heap.size, 0, none⟩ = some (.slice (some ⟨b, o, none⟩) n c) := by rw [World.cell?_alloc_lt _ _ _ (by simp; omega)]; exact hv
      have q3 : (wr.alloc (.cells #[.int .i64 p0, .int .i64 p1, .int .i64 p2, .int .i64 p3, .int .i64 p4] 133)).cell? ⟨b, o + (k - 1) * 5 + 3, none⟩ = some (.int .i64 r3) := by rw [World.cell?_alloc_lt _ _ _ (by simp; omega)]; exact hr0
      have hb4 : Below (w.heap.size + 1) (w.alloc (.cells #[.slice (some ⟨b, o, none⟩) n c] 95)) (wr.alloc (.cells #[.int .i64 p0, .int .i64 p1, .int .i64 p2, .int .i64 p3, .int .i64 p4] 133)) := hb.alloc (by omega) _
      have hp0 := Lib.hid (show (xs[k]?).getD M.cz = (p0, p1, p2, p3, p4) by rw [X.out]; rfl)
      have hz0 := Lib.hid (show (xs[k - 1]?).getD M.cz = (r0, r1, r2, r3, r4) by rw [Z.out]; rfl)
      cases hp : M.clipOk (p0, p1, p2, p3, p4)
      · have hno := Lib.hid (show M.trackOk xs = false by rw [M.trackOk, M.all_not (k := k) (by rw [hl.out]; exact hlt) (by rw [M.stepT, hp0.out, hp, Bool.false_and]), Bool.false_and])
        go_wp2
        generalize hw4 : wr.alloc (.cells #[.int .i64 p0, .int .i64 p1, .int .i64 p2, .int .i64 p3, .int .i64 p4] 133) = w4 at qa0 qa1 qa2 qa3 qa4 q2 q3 hbr hbv hbn hb4 ⊢
        clear hw4 hs4
        have cP : ∀ d os, Calls Tryz.prog 102 #[.agg #[.int .i64 p0, .int .i64 p1, .int .i64 p2, .int .i64 p3, .int .i64 p4]] (grow (redrawn w4 d) os) fun e w'' => e = .returned (.bool false) ∧ ∃ p : Regrown, w'' = grow (redrawn w4 p.d) p.os := fun d os => Calls.regrown_of (by have h := impl_isClip p0 p1 p2 p3 p4 (grow (redrawn w4 d) os); rw [hp] at h; exact h)
        have ka0 := cell_regrown qa0
        have ka1 := cell_regrown qa1
        have ka2 := cell_regrown qa2
        have ka3 := cell_regrown qa3
        have ka4 := cell_regrown qa4
        have k2' := cell_regrown q2
        have k3' := cell_regrown q3
        clear qa0 qa1 qa2 qa3 qa4 q2 q3
        (refine wp_region_quiet_below (by kernel_rfl) (by kernel_rfl) ?_; (repeat (go_big_quiet_step (exact cP _ _))); refine wpQuiet_nil ?_; intro _ hw'; obtain ⟨⟨dq, osq⟩, hw''⟩ := hw'; subst hw'')
        go_wp2
        go_ret
        exact ⟨ret_bool (by rw [hno.out]), hbw.trans ((hb4.trans ((below_regrown w4 dq osq).mono (by rw [← hsize]; exact hb4.size))).mono (by omega))⟩
      · by_cases hk0 : k = 0
        · have hyes := Lib.hid (show M.stepT xs k = true by rw [M.stepT, hp0.out, hp, M.afterT, hk0]; rfl)
          have hd : decide (0 < k) = false := by rw [hk0]; rfl
          have hd2 : ¬ 0 < k := by omega
          clear hk0
          go_wp2
          generalize hw4 : wr.alloc (.cells #[.int .i64 p0, .int .i64 p1, .int .i64 p2, .int .i64 p3, .int .i64 p4] 133) = w4 at qa0 qa1 qa2 qa3 qa4 q2 q3 hbr hbv hbn hb4 ⊢
          clear hw4 hs4
          have cP : ∀ d os, Calls Tryz.prog 102 #[.agg #[.int .i64 p0, .int .i64 p1, .int .i64 p2, .int .i64 p3, .int .i64 p4]] (grow (redrawn w4 d) os) fun e w'' => e = .returned (.bool true) ∧ ∃ p : Regrown, w'' = grow (redrawn w4 p.d) p.os := fun d os => Calls.regrown_of (by have h := impl_isClip p0 p1 p2 p3 p4 (grow (redrawn w4 d) os); rw [hp] at h; exact h)
          have ka0 := cell_regrown qa0
          have ka1 := cell_regrown qa1
          have ka2 := cell_regrown qa2
          have ka3 := cell_regrown qa3
          have ka4 := cell_regrown qa4
          have k2' := cell_regrown q2
          have k3' := cell_regrown q3
          clear qa0 qa1 qa2 qa3 qa4 q2 q3
          (refine wp_region_quiet_below (by kernel_rfl) (by kernel_rfl) ?_; (repeat (go_big_quiet_step (exact cP _ _))); refine wpQuiet_nil ?_; intro _ hw'; obtain ⟨⟨dq, osq⟩, hw''⟩ := hw'; subst hw'')
          go_wp2
          go_roundw
          case rel => exact ⟨k + 1, by go_num, by omega, Lib.hid (fun j hj => by rcases Nat.lt_succ_iff_lt_or_eq.1 hj with h | h; exact H.out j h; rw [h]; exact hyes.out), hb4.trans ((below_regrown w4 dq osq).mono (by rw [← hsize]; exact hb4.size))⟩
          case measure => simp [intOf]; omega
        · have hkk : IntKind.i64.wrap ((k : Int) - 1) = ((k - 1 : Nat) : Int) := by rw [IntWalk.i64_in _ (by omega)]; omega
          have hk1n : ((k - 1 : Nat) : Int) < (n : Int) := by omega
          have hd : decide (0 < k) = true := decide_eq_true (by omega)
          by_cases hge : p3 < r3
          · have hno := Lib.hid (show M.trackOk xs = false by rw [M.trackOk, M.all_not (k := k) (by rw [hl.out]; exact hlt) (by rw [M.stepT, hp0.out, hp, M.afterT, hp0.out, hz0.out]; simp [hk0]; omega), Bool.false_and])
            go_wp2
            generalize hw4 : wr.alloc (.cells #[.int .i64 p0, .int .i64 p1, .int .i64 p2, .int .i64 p3, .int .i64 p4] 133) = w4 at qa0 qa1 qa2 qa3 qa4 q2 q3 hbr hbv hbn hb4 ⊢
            clear hw4 hs4
            have cP : ∀ d os, Calls Tryz.prog 102 #[.agg #[.int .i64 p0, .int .i64 p1, .int .i64 p2, .int .i64 p3, .int .i64 p4]] (grow (redrawn w4 d) os) fun e w'' => e = .returned (.bool true) ∧ ∃ p : Regrown, w'' = grow (redrawn w4 p.d) p.os := fun d os => Calls.regrown_of (by have h := impl_isClip p0 p1 p2 p3 p4 (grow (redrawn w4 d) os); rw [hp] at h; exact h)
            have ka0 := cell_regrown qa0
            have ka1 := cell_regrown qa1
            have ka2 := cell_regrown qa2
            have ka3 := cell_regrown qa3
            have ka4 := cell_regrown qa4
            have k2' := cell_regrown q2
            have k3' := cell_regrown q3
            clear qa0 qa1 qa2 qa3 qa4 q2 q3
            (refine wp_region_quiet_below (by kernel_rfl) (by kernel_rfl) ?_; (repeat (go_big_quiet_step (exact cP _ _))); refine wpQuiet_nil ?_; intro _ hw'; obtain ⟨⟨dq, osq⟩, hw''⟩ := hw'; subst hw'')
            go_wp2
            go_ret
            exact ⟨ret_bool (by rw [hno.out]), hbw.trans ((hb4.trans ((below_regrown w4 dq osq).mono (by rw [← hsize]; exact hb4.size))).mono (by omega))⟩
          · have hyes := Lib.hid (show M.stepT xs k = true by rw [M.stepT, hp0.out, hp, M.afterT, hp0.out, hz0.out]; simp; omega)
            go_wp2
            generalize hw4 : wr.alloc (.cells #[.int .i64 p0, .int .i64 p1, .int .i64 p2, .int .i64 p3, .int .i64 p4] 133) = w4 at qa0 qa1 qa2 qa3 qa4 q2 q3 hbr hbv hbn hb4 ⊢
            clear hw4 hs4
            have cP : ∀ d os, Calls Tryz.prog 102 #[.agg #[.int .i64 p0, .int .i64 p1, .int .i64 p2, .int .i64 p3, .int .i64 p4]] (grow (redrawn w4 d) os) fun e w'' => e = .returned (.bool true) ∧ ∃ p : Regrown, w'' = grow (redrawn w4 p.d) p.os := fun d os => Calls.regrown_of (by have h := impl_isClip p0 p1 p2 p3 p4 (grow (redrawn w4 d) os); rw [hp] at h; exact h)
            have ka0 := cell_regrown qa0
            have ka1 := cell_regrown qa1
            have ka2 := cell_regrown qa2
            have ka3 := cell_regrown qa3
            have ka4 := cell_regrown qa4
            have k2' := cell_regrown q2
            have k3' := cell_regrown q3
            clear qa0 qa1 qa2 qa3 qa4 q2 q3
            (refine wp_region_quiet_below (by kernel_rfl) (by kernel_rfl) ?_; (repeat (go_big_quiet_step (exact cP _ _))); refine wpQuiet_nil ?_; intro _ hw'; obtain ⟨⟨dq, osq⟩, hw''⟩ := hw'; subst hw'')
            go_wp2
            go_roundw
            case rel => exact ⟨k + 1, by go_num, by omega, Lib.hid (fun j hj => by rcases Nat.lt_succ_iff_lt_or_eq.1 hj with h | h; exact H.out j h; rw [h]; exact hyes.out), hb4.trans ((below_regrown w4 dq osq).mono (by rw [← hsize]; exact hb4.size))⟩
            case measure => simp [intOf]; omega
    · have hyes := Lib.hid (M.all_upto (n := xs.length) (f := M.stepT xs) (fun j hj => H.out j (by rw [hl.out] at hj; omega)))
      have hres := Lib.hid (show decide (n ≤ 12) = M.trackOk xs by rw [M.trackOk, hyes.out, hl.out, Bool.true_and])
      go_wp2
      go_ret
      exact ⟨ret_bool (by rw [← hres.out]; exact decide_eq_decide.2 (by omega)), hbb⟩
theorem spec_l23Ok (vb : Nat) (A : Option Addr) (n c : Nat) (xs : List Clip) (w : World) (hv0 : w.cell? ⟨vb, 0, none⟩ = some (.slice A n c)) (hx : RA cl 5 w w.heap.size A n xs) (hn : n ≤ 1000000000) :
    Calls Tryz.prog 121 #[.pointer (some ⟨vb, 0, none⟩)] w fun e w' => e = .returned (.bool (M.trackOk xs)) ∧ Below w.heap.size w w' := by
  have hl := Lib.hid hx.len
  have hvb : vb < w.heap.size := World.block_lt_of_cell? w _ hv0
  go_enter Tryz.func121, Tryz.ntmps121
  go_wp2
  go_loopw [3] (fun i wr => ∃ k : Nat, i = .int .i64 k ∧ k ≤ n ∧ Hid (∀ j, j < k → M.stepT xs j = true) ∧ Below w.heap.size w wr) (fun i _ => n - (intOf i).toNat)
  case atStart => exact ⟨0, rfl, by omega, Lib.hid (by omega), Below.refl _ _⟩
  case round =>
    obtain ⟨k, rfl, hk, H, hb⟩ := hrel
    have hv : wr.cell? ⟨vb, 0, none⟩ = some (.slice A n c) := by rw [hb.cell (by simpa using hvb)]; exact hv0
    by_cases hlt : k < n
    · obtain ⟨b, o, ⟨p0, p1, p2, p3, p4⟩, rfl, hab, X, hc⟩ := (hx.below hb).at cl_len (by decide) hlt
      have hc0 : wr.cell? ⟨b, o + k * 5, none⟩ = some (.int .i64 p0) := hc 0 _ rfl
      have hc1 : wr.cell? ⟨b, o + k * 5 + 1, none⟩ = some (.int .i64 p1) := hc 1 _ rfl
      have hc2 : wr.cell? ⟨b, o + k * 5 + 2, none⟩ = some (.int .i64 p2) := hc 2 _ rfl
      have hc3 : wr.cell? ⟨b, o + k * 5 + 3, none⟩ = some (.int .i64 p3) := hc 3 _ rfl
      have hc4 : wr.cell? ⟨b, o + k * 5 + 4, none⟩ = some (.int .i64 p4) := hc 4 _ rfl
      clear hc
      obtain ⟨⟨r0, r1, r2, r3, r4⟩, Z, hr⟩ := (hx.below hb).cells cl_len (by decide) (k := k - 1) (by omega)
      have hr0 : wr.cell? ⟨b, o + (k - 1) * 5 + 3, none⟩ = some (.int .i64 r3) := hr 3 _ rfl
      clear hr
      have hp0 := Lib.hid (show (xs[k]?).getD M.cz = (p0, p1, p2, p3, p4) by rw [X.out]; rfl)
      have hz0 := Lib.hid (show (xs[k - 1]?).getD M.cz = (r0, r1, r2, r3, r4) by rw [Z.out]; rfl)
      cases hp : M.clipOk (p0, p1, p2, p3, p4)
      · have hno := Lib.hid (show M.trackOk xs = false by rw [M.trackOk, M.all_not (k := k) (by rw [hl.out]; exact hlt) (by rw [M.stepT, hp0.out, hp, Bool.false_and]), Bool.false_and])
        have cP : ∀ m, Calls Tryz.prog 142 #[.pointer (some ⟨b, o + k * 5, none⟩)] (wr.drewN m) fun e w'' => e = .returned (.bool false) ∧ ∃ m', w'' = wr.drewN m' := fun m => by have h := spec_l23Clip b (o + k * 5) (p0, p1, p2, p3, p4) (wr.drewN m) hc0 hc1 hc2 hc3 hc4; rw [hp] at h; exact h.mono fun _ _ ⟨he, q, hq⟩ => ⟨he, m + q, by rw [hq, World.drewN_drewN]⟩
        go_wp2
        go_quiet (exact cP _)
        go_wp2
        go_ret
        exact ⟨ret_bool (by rw [hno.out]), hb.trans (below_drewN (Below.refl _ _) _)⟩
      · by_cases hk0 : k = 0
        · have hyes := Lib.hid (show M.stepT xs k = true by rw [M.stepT, hp0.out, hp, M.afterT, hk0]; rfl)
          have hd : decide (0 < k) = false := by rw [hk0]; rfl
          have hd2 : ¬ 0 < k := by omega
          clear hk0
          have cP : ∀ m, Calls Tryz.prog 142 #[.pointer (some ⟨b, o + k * 5, none⟩)] (wr.drewN m) fun e w'' => e = .returned (.bool true) ∧ ∃ m', w'' = wr.drewN m' := fun m => by have h := spec_l23Clip b (o + k * 5) (p0, p1, p2, p3, p4) (wr.drewN m) hc0 hc1 hc2 hc3 hc4; rw [hp] at h; exact h.mono fun _ _ ⟨he, q, hq⟩ => ⟨he, m + q, by rw [hq, World.drewN_drewN]⟩
          go_wp2
          go_quiet (exact cP _)
          go_wp2
          go_roundw
          case rel => exact ⟨k + 1, by go_num, by omega, Lib.hid (fun j hj => by rcases Nat.lt_succ_iff_lt_or_eq.1 hj with h | h; exact H.out j h; rw [h]; exact hyes.out), hb.trans (below_drewN (Below.refl _ _) _)⟩
          case measure => simp [intOf]; omega
        · have hkk : IntKind.i64.wrap ((k : Int) - 1) = ((k - 1 : Nat) : Int) := by rw [IntWalk.i64_in _ (by omega)]; omega
          have hk1n : ((k - 1 : Nat) : Int) < (n : Int) := by omega
          have hd : decide (0 < k) = true := decide_eq_true (by omega)
          by_cases hge : p3 < r3
          · have hno := Lib.hid (show M.trackOk xs = false by rw [M.trackOk, M.all_not (k := k) (by rw [hl.out]; exact hlt) (by rw [M.stepT, hp0.out, hp, M.afterT, hp0.out, hz0.out]; simp [hk0]; omega), Bool.false_and])
            have cP : ∀ m, Calls Tryz.prog 142 #[.pointer (some ⟨b, o + k * 5, none⟩)] (wr.drewN m) fun e w'' => e = .returned (.bool true) ∧ ∃ m', w'' = wr.drewN m' := fun m => by have h := spec_l23Clip b (o + k * 5) (p0, p1, p2, p3, p4) (wr.drewN m) hc0 hc1 hc2 hc3 hc4; rw [hp] at h; exact h.mono fun _ _ ⟨he, q, hq⟩ => ⟨he, m + q, by rw [hq, World.drewN_drewN]⟩
            go_wp2
            go_quiet (exact cP _)
            go_wp2
            go_ret
            exact ⟨ret_bool (by rw [hno.out]), hb.trans (below_drewN (Below.refl _ _) _)⟩
          · have hyes := Lib.hid (show M.stepT xs k = true by rw [M.stepT, hp0.out, hp, M.afterT, hp0.out, hz0.out]; simp; omega)
            have cP : ∀ m, Calls Tryz.prog 142 #[.pointer (some ⟨b, o + k * 5, none⟩)] (wr.drewN m) fun e w'' => e = .returned (.bool true) ∧ ∃ m', w'' = wr.drewN m' := fun m => by have h := spec_l23Clip b (o + k * 5) (p0, p1, p2, p3, p4) (wr.drewN m) hc0 hc1 hc2 hc3 hc4; rw [hp] at h; exact h.mono fun _ _ ⟨he, q, hq⟩ => ⟨he, m + q, by rw [hq, World.drewN_drewN]⟩
            go_wp2
            go_quiet (exact cP _)
            go_wp2
            go_roundw
            case rel => exact ⟨k + 1, by go_num, by omega, Lib.hid (fun j hj => by rcases Nat.lt_succ_iff_lt_or_eq.1 hj with h | h; exact H.out j h; rw [h]; exact hyes.out), hb.trans (below_drewN (Below.refl _ _) _)⟩
            case measure => simp [intOf]; omega
    · have hyes := Lib.hid (M.all_upto (n := xs.length) (f := M.stepT xs) (fun j hj => H.out j (by rw [hl.out] at hj; omega)))
      have hres := Lib.hid (show decide (n ≤ 12) = M.trackOk xs by rw [M.trackOk, hyes.out, hl.out, Bool.true_and])
      go_wp2
      go_ret
      exact ⟨ret_bool (by rw [← hres.out]; exact decide_eq_decide.2 (by omega)), hb⟩
end Go.Proofs.YtacgcagpaecncaaGreat
namespace Go.Proofs.YtacgcagpaecncaaGreat
open Go.RowKit Go.Sort
set_option maxHeartbeats 400000
set_option maxRecDepth 100000
/-- All that a step of the reckoning of a value wants to know of two neighbours. -/
theorem M.seg_facts {p0 p1 q0 q1 t : Int} (hp : (0 ≤ p0 ∧ p0 ≤ 4000) ∧ -65536 ≤ p1 ∧ p1 ≤ 65536) (hq : (0 ≤ q0 ∧ q0 ≤ 4000) ∧ -65536 ≤ q1 ∧ q1 ≤ 65536) (hlt : p0 < q0) (ht : 0 ≤ t ∧ t ≤ 1000000) :
    IntKind.i64.wrap (q1 - p1) = q1 - p1 ∧ IntKind.i64.wrap (t - p0) = t - p0 ∧ IntKind.i64.wrap ((q1 - p1) * (t - p0)) = (q1 - p1) * (t - p0) ∧ IntKind.i64.wrap (q0 - p0) = q0 - p0 ∧
      IntKind.i64.wrap (p1 + (q1 - p1) * (t - p0) / (q0 - p0)) = M.seg (p0, p1) (q0, q1) t ∧ (-9000000000000000000 ≤ (q1 - p1) * (t - p0) ∧ (q1 - p1) * (t - p0) ≤ 9000000000000000000) ∧ 0 < q0 - p0 ∧ q0 - p0 ≤ 9000000000000000000 := by
  have h1 := M.mul_bound (a := q1 - p1) (b := t - p0) (x := 131072) (y := 1000000) (by omega) (by omega) (by omega)
  have h2 := M.div_small (a := (q1 - p1) * (t - p0)) (b := q0 - p0) (c := 131072000000) (by omega) (by omega) (by omega)
  refine ⟨IntWalk.i64_in _ (by omega), IntWalk.i64_in _ (by omega), IntWalk.i64_in _ (by omega), IntWalk.i64_in _ (by omega), ?_, by omega, by omega, by omega⟩
  rw [IntWalk.i64_in _ (by omega)]
  rfl
end Go.Proofs.YtacgcagpaecncaaGreat
namespace Go.Proofs.YtacgcagpaecncaaGreat
open Go.RowKit Go.Sort
set_option maxHeartbeats 400000
set_option maxRecDepth 100000
end Go.Proofs.YtacgcagpaecncaaGreat
namespace Go.Proofs.YtacgcagpaecncaaGreat
open Go.RowKit Go.Sort
set_option maxHeartbeats 400000
set_option maxRecDepth 100000
def M.rend (xs : List (Int × Int)) (m : Nat) : List Int := (List.range m).map fun (i : Nat) => M.atC xs (i : Int)
theorem M.rend_len (xs : List (Int × Int)) (m : Nat) : (M.rend xs m).length = m := by simp [M.rend]
theorem M.rend_at {xs : List (Int × Int)} {m k : Nat} (h : k < m) : (M.rend xs m)[k]? = some (M.atC xs (k : Int)) := by simp [M.rend, h]
def M.rendR (xs : List (Int × Int)) (t : Int) : List Int × Int := if M.curveOk xs then (if M.inn t 0 4000 then (M.rend xs t.toNat, 0) else ([], 2)) else ([], 1)
end Go.Proofs.YtacgcagpaecncaaGreat
namespace Go.Proofs.YtacgcagpaecncaaGreat
open Go.RowKit Go.Sort
set_option maxHeartbeats 400000
set_option maxRecDepth 100000
/-- As wpList_push, the new block's number in the walk's spelling. -/
theorem wpList_pushH {P : Program} {t e : TypeId} {z : Value} {size bytes : Nat} (hE : EI P t e z size bytes) {w : World} {ops : Array Oper} {rest : List Oper} {o : Oper} {a : Act} {Q : Exit → Act → World → Prop} (us : Array Value)
    (hgd : o.guard = none) (s x : Operand) (ho : o.op = .call { callee := .builtin .append, args := #[s, x], argTypes := #[t, t] })
    {B : Nat} {v : Value} {n : Nat} {xs : List Value} (hown : w.ownsRow B e size v n xs) (hs : a.eval s = v) (H : Nat) (hH : w.heap.size = H)
    (hx : a.eval x = .slice (some ⟨H, 0, none⟩) 1 1) (hus : us.size = size) (h1 : ∀ u ∈ us.toList, u.oneCell' = true)
    (hn : n + 1 ≤ maxLen) (hbytes : (n + 1) * bytes ≤ 140737488355328) (hbase : B ≤ w.heap.size)
    (K : ∀ v' w', w'.ownsRow B e size v' (n + 1) (xs ++ us.toList) → w.grownBy w' v.ownBlock → Below B w w' → wpList P ops Q rest (a.put o.dst v') w') :
    wpList P ops Q (o :: rest) a (w.alloc (.cells us e)) := by
  subst hH
  exact wpList_push hE us hgd s x ho hown hs hx hus h1 hn hbytes hbase K
/-- What a function of a curve and a code gives back. -/
def RetC (e : TypeId) (w : World) (r : List (Int × Int) × Int) (en : Ending) (w' : World) : Prop :=
  ∃ v, en = .returned (.tuple #[.agg #[v], .int .i64 r.2]) ∧ OA pt e 2 w.heap.size w'.heap.size w' v r.1 ∧ Below w.heap.size w w'
def M.setP (xs : List (Int × Int)) (p : Int × Int) : List (Int × Int) := xs.filter (fun q => decide (q.1 < p.1)) ++ p :: xs.filter (fun q => decide (p.1 < q.1))
def M.setR (xs : List (Int × Int)) (p : Int × Int) : List (Int × Int) × Int :=
  if M.curveOk xs then (if M.ptOk p then (if (M.setP xs p).length ≤ 24 then (M.setP xs p, 0) else ([], 5)) else ([], 2)) else ([], 1)
theorem M.filter_at {xs : List (Int × Int)} {k : Nat} {x : Int × Int} (f : Int × Int → Bool) (hx : xs[k]? = some x) : (xs.take (k + 1)).filter f = (xs.take k).filter f ++ (if f x then [x] else []) := by
  rw [M.take_at hx, List.filter_append]
  congr 1
  cases h : f x <;> simp [h]
end Go.Proofs.YtacgcagpaecncaaGreat
namespace Go.Proofs.YtacgcagpaecncaaGreat
open Go.RowKit Go.Sort
set_option maxHeartbeats 400000
set_option maxRecDepth 100000
/-- What the reference has collected after k points. -/
def M.setTo (xs : List (Int × Int)) (p : Int × Int) (k : Nat) (dn : Bool) : List (Int × Int) :=
  if dn then (xs.take k).filter (fun q => decide (q.1 < p.1)) ++ [p] ++ (xs.take k).filter (fun q => decide (p.1 < q.1)) else (xs.take k).filter (fun q => decide (q.1 < p.1))
def M.setInv (xs : List (Int × Int)) (p : Int × Int) (k : Nat) (dn : Bool) : Prop :=
  (dn = true → 0 < k ∧ ∃ q, xs[k - 1]? = some q ∧ p.1 ≤ q.1) ∧ (dn = false → (xs.take k).filter (fun q => decide (p.1 < q.1)) = [])
theorem M.setTo_len (xs : List (Int × Int)) (p : Int × Int) (k : Nat) (dn : Bool) : (M.setTo xs p k dn).length ≤ 2 * xs.length + 1 := by
  unfold M.setTo
  have h1 := List.length_filter_le (fun q : Int × Int => decide (q.1 < p.1)) (xs.take k)
  have h2 := List.length_filter_le (fun q : Int × Int => decide (p.1 < q.1)) (xs.take k)
  have h3 : (xs.take k).length ≤ xs.length := by rw [List.length_take]; omega
  split
  · simp only [List.length_append, List.length_singleton]
    omega
  · omega
theorem M.setInv_zero (xs : List (Int × Int)) (p : Int × Int) : M.setInv xs p 0 false := ⟨by simp, by simp⟩
/-- A point before p. -/
theorem M.setP_low {xs : List (Int × Int)} {p q : Int × Int} {k : Nat} (hq : xs[k]? = some q) (h : q.1 < p.1) (hi : M.setInv xs p k false) : M.setInv xs p (k + 1) false ∧ M.setTo xs p (k + 1) false = M.setTo xs p k false ++ [q] := by
  refine ⟨⟨by simp, fun _ => ?_⟩, ?_⟩
  · rw [M.filter_at _ hq, hi.2 rfl, if_neg (by simp; omega)]
    rfl
  · simp only [M.setTo, Bool.false_eq_true, if_false]
    rw [M.filter_at _ hq, if_pos (by simpa using h)]
/-- The point at p's time. -/
theorem M.setP_same {xs : List (Int × Int)} {p q : Int × Int} {k : Nat} (hq : xs[k]? = some q) (h : q.1 = p.1) (hi : M.setInv xs p k false) : M.setInv xs p (k + 1) true ∧ M.setTo xs p (k + 1) true = M.setTo xs p k false ++ [p] := by
  refine ⟨⟨fun _ => ⟨by omega, q, by simpa using hq, by omega⟩, by simp⟩, ?_⟩
  simp only [M.setTo, Bool.false_eq_true, if_false, if_true]
  rw [M.filter_at _ hq, M.filter_at _ hq, hi.2 rfl, if_neg (by simp; omega), if_neg (by simp; omega)]
  simp
/-- The first point behind p. -/
theorem M.setP_high {xs : List (Int × Int)} {p q : Int × Int} {k : Nat} (hq : xs[k]? = some q) (h : p.1 < q.1) (hi : M.setInv xs p k false) : M.setInv xs p (k + 1) true ∧ M.setTo xs p (k + 1) true = M.setTo xs p k false ++ [p] ++ [q] := by
  refine ⟨⟨fun _ => ⟨by omega, q, by simpa using hq, by omega⟩, by simp⟩, ?_⟩
  simp only [M.setTo, Bool.false_eq_true, if_false, if_true]
  rw [M.filter_at _ hq, M.filter_at _ hq, hi.2 rfl, if_neg (by simp; omega), if_pos (by simpa using h)]
  simp
/-- A point further behind. -/
theorem M.setP_more {xs : List (Int × Int)} {p q : Int × Int} {k : Nat} (hok : M.curveOk xs = true) (hq : xs[k]? = some q) (hi : M.setInv xs p k true) : p.1 < q.1 ∧ M.setInv xs p (k + 1) true ∧ M.setTo xs p (k + 1) true = M.setTo xs p k true ++ [q] := by
  obtain ⟨hk, r, hr, hpr⟩ := hi.1 rfl
  have hlt : p.1 < q.1 := by have := M.curve_lt hok hk hr hq; omega
  refine ⟨hlt, ⟨fun _ => ⟨by omega, q, by simpa using hq, by omega⟩, by simp⟩, ?_⟩
  simp only [M.setTo, if_true]
  rw [M.filter_at _ hq, M.filter_at _ hq, if_neg (by simp; omega), if_pos (by simpa using hlt)]
  simp
theorem M.setP_end {xs : List (Int × Int)} {p : Int × Int} {dn : Bool} {n : Nat} (hn : xs.length = n) (hi : M.setInv xs p n dn) : (if dn then M.setTo xs p n dn else M.setTo xs p n dn ++ [p]) = M.setP xs p := by
  have ht : xs.take n = xs := List.take_of_length_le (by omega)
  cases dn
  · have := hi.2 rfl
    simp only [M.setTo, M.setP, ht, Bool.false_eq_true, if_false] at *
    rw [this]
  · simp only [M.setTo, M.setP, ht, if_true]
    simp
theorem OA.made0 {α : Type} {enc : α → List Value} {e : TypeId} {s : Nat} (w : World) : OA enc e s w.heap.size (w.alloc (.cells #[] e)).heap.size (w.alloc (.cells #[] e)) (.slice (some ⟨w.heap.size, 0, none⟩) 0 0) [] :=
  OX.of_own (World.ownsRow_made _ _ _ (Nat.le_refl _) (by simp [maxLen]) (by simp))
end Go.Proofs.YtacgcagpaecncaaGreat
namespace Go.Proofs.YtacgcagpaecncaaGreat
open Go.RowKit
set_option maxHeartbeats 400000
set_option maxRecDepth 100000
/-- A list, some of whose elements are set. -/
def setAll {α : Type} : List α → Nat → List α → List α
  | cs, _, [] => cs
  | cs, o, u :: us => setAll (cs.set o u) (o + 1) us
theorem setAll_len {α : Type} (us : List α) : ∀ (cs : List α) (o : Nat), (setAll cs o us).length = cs.length := by
  induction us with
  | nil => intro cs o; rfl
  | cons u us ih => intro cs o; rw [setAll, ih, List.length_set]
theorem setAll_at {α : Type} (us : List α) : ∀ (cs : List α) (o k : Nat), o + us.length ≤ cs.length → (setAll cs o us)[k]? = if o ≤ k ∧ k < o + us.length then us[k - o]? else cs[k]? := by
  induction us with
  | nil => intro cs o k _; rw [setAll, if_neg (by simp)]
  | cons u us ih =>
    intro cs o k h
    rw [List.length_cons] at h
    rw [setAll, ih _ _ _ (by rw [List.length_set]; omega), List.length_cons]
    by_cases h1 : o + 1 ≤ k ∧ k < o + 1 + us.length
    · rw [if_pos h1, if_pos (by omega), show k - o = (k - (o + 1)) + 1 by omega, List.getElem?_cons_succ]
    · rw [if_neg h1]
      by_cases h2 : k = o
      · subst h2
        rw [if_pos (by omega), Nat.sub_self, List.getElem?_set_self (by omega)]
        rfl
      · rw [if_neg (by omega), List.getElem?_set_ne (fun e => h2 e.symm)]
theorem setAll_eq {α : Type} (us cs : List α) (o : Nat) (h : o + us.length ≤ cs.length) : setAll cs o us = cs.take o ++ us ++ cs.drop (o + us.length) := by
  apply List.ext_getElem?
  intro k
  rw [setAll_at us cs o k h]
  by_cases h1 : k < o
  · rw [if_neg (by omega), List.getElem?_append_left (by simp; omega), List.getElem?_append_left (by simp; omega), List.getElem?_take, if_pos h1]
  · by_cases h2 : k < o + us.length
    · rw [if_pos (by omega), List.getElem?_append_left (by simp; omega), List.getElem?_append_right (by simp; omega), List.length_take, Nat.min_eq_left (by omega)]
    · rw [if_neg (by omega), List.getElem?_append_right (by simp; omega), List.getElem?_drop]
      congr 1
      simp
      omega
section
variable {base s n cap g : Nat} {e : TypeId} {cs : List Value} {w : World}
theorem own_setCells (us : List Value) : ∀ (w : World) (cs : List Value) (o : Nat), w.ownsRow base e s (.slice (some ⟨g, 0, none⟩) n cap) n cs →
    (w.setCells g o us).ownsRow base e s (.slice (some ⟨g, 0, none⟩) n cap) n (setAll cs o us) ∧ w.grownBy (w.setCells g o us) (some g) := by
  induction us with
  | nil => intro w cs o h; exact ⟨h, World.grownBy.refl w _⟩
  | cons u us ih =>
    intro w cs o h
    have h1 := World.ownsRow.stored h o u
    obtain ⟨h2, h3⟩ := ih _ _ (o + 1) h1.1
    exact ⟨h2, grown_trans h1.2 h3⟩
theorem own_cut (h : w.ownsRow base e s (.slice (some ⟨g, 0, none⟩) n cap) n cs) {k : Nat} (hk : k ≤ n) : w.ownsRow base e s (.slice (some ⟨g, 0, none⟩) k cap) k (cs.take (k * s)) := by
  rcases h.2 with ⟨h', _⟩ | ⟨g', cap', cur, h', hb, hg, hnc, hcm, hcs, htake⟩
  · simp at h'
  · simp only [Value.slice.injEq, Option.some.injEq, Addr.mk.injEq, and_true, true_and] at h'
    obtain ⟨rfl, rfl⟩ := h'
    have hks : k * s ≤ n * s := Nat.mul_le_mul_right _ hk
    refine ⟨by rw [List.length_take, h.1]; omega, .inr ⟨g, cap, cur, rfl, hb, hg, by omega, hcm, hcs, ?_⟩⟩
    rw [← htake, List.take_take, Nat.min_eq_left hks]
theorem own_cells (h : w.ownsRow base e s (.slice (some ⟨g, 0, none⟩) n cap) n cs) {j : Nat} (hj : j < n * s) : (w.cell? ⟨g, j, none⟩).isSome = true ∧ w.frozen? ⟨g, j, none⟩ = false := by
  refine ⟨?_, World.ownsRow.frozenAt h j⟩
  rw [World.ownsRow.cellAt h j hj, List.getElem?_eq_getElem (by rw [h.1]; exact hj)]
  rfl
end
/-- 'clear(s)' of elements of some cells. -/
theorem run_clear_wide {P : Program} (w : World) (t e : TypeId) (z : Value) (s : Nat) (ht : P.underlying t = some (.slice e)) (hv : ∀ w, (zeroValue e).run P w = .ok z w) (hz : z.cells.size = s) (h1 : ∀ u ∈ z.cells.toList, u.oneCell' = true) (b o n c : Nat) (hn : 0 < n)
    (hc : ∀ j, j < n * s → (w.cell? ⟨b, o + j, none⟩).isSome = true ∧ w.frozen? ⟨b, o + j, none⟩ = false) :
    ∃ zs : List Value, zs.length = n * s ∧ ∀ ty, (Builtin.clear_ #[t] ty #[.slice (some ⟨b, o, none⟩) n c]).run P w = .ok (.tuple #[]) (w.setCells b o zs) := by
  have hl : (Builtin.zeroCells z.cells n).toList.length = n * s := by simp [Builtin.zeroCells, hz]
  refine ⟨(Builtin.zeroCells z.cells n).toList, hl, fun ty => ?_⟩
  have hst := run_storeCells_cells (P := P) b o (Builtin.zeroCells z.cells n).toList 0 w (by intro j hj; rw [hl] at hj; simpa using (hc j hj).1) (by intro j hj; rw [hl] at hj; simpa using (hc j hj).2) (by
    intro u hu
    simp only [Builtin.zeroCells, Array.toList_map, List.mem_map] at hu
    obtain ⟨i, hi, rfl⟩ := hu
    have hpos : 0 < z.cells.size := by
      rcases Nat.eq_zero_or_pos z.cells.size with h0 | h0
      · rw [h0, Nat.mul_zero] at hi
        simp at hi
      · exact h0
    rw [getElem!_pos z.cells (i % z.cells.size) (Nat.mod_lt _ hpos)]
    exact h1 _ (by simp))
  simp only [Nat.add_zero] at hst
  obtain ⟨m, rfl⟩ : ∃ m, n = m + 1 := ⟨n - 1, by omega⟩
  simp [Builtin.clear_, run_underlying ht, hv, hst]
section
variable {α : Type} {enc : α → List Value} {s : Nat}
theorem flat_take (henc : ∀ x, (enc x).length = s) (xs : List α) (k : Nat) : (xs.flatMap enc).take (k * s) = (xs.take k).flatMap enc := by
  induction xs generalizing k with
  | nil => simp
  | cons y ys ih =>
    cases k with
    | zero => simp
    | succ k => rw [List.take_succ_cons, List.flatMap_cons, List.flatMap_cons, ← ih, Nat.succ_mul, Nat.add_comm, List.take_append, henc, List.take_of_length_le (by rw [henc]; omega)]; congr 2; omega
theorem flat_drop (henc : ∀ x, (enc x).length = s) (xs : List α) (k : Nat) : (xs.flatMap enc).drop (k * s) = (xs.drop k).flatMap enc := by
  induction xs generalizing k with
  | nil => simp
  | cons y ys ih =>
    cases k with
    | zero => simp
    | succ k => rw [List.drop_succ_cons, List.flatMap_cons, ← ih, Nat.succ_mul, Nat.add_comm, List.drop_append, henc, List.drop_of_length_le (by rw [henc]; omega), List.nil_append]; congr 1; omega
end
theorem RA.reads {α : Type} {enc : α → List Value} {s : Nat} {w : World} {B n : Nat} {A : Option Addr} {xs : List α} (h : RA enc s w B A n xs) : Reads w B s A n (xs.flatMap enc) := h.2
theorem pts_oneCell (xs : List (Int × Int)) : ∀ u ∈ xs.flatMap pt, u.oneCell' = true := by
  intro u hu
  obtain ⟨p, _, hp⟩ := List.mem_flatMap.1 hu
  simp only [pt, List.mem_cons, List.not_mem_nil, or_false] at hp
  rcases hp with rfl | rfl <;> rfl
end Go.Proofs.YtacgcagpaecncaaGreat
namespace Go.Proofs.YtacgcagpaecncaaGreat
open Go.RowKit
set_option maxHeartbeats 400000
set_option maxRecDepth 100000
def M.dropP {α : Type} (xs : List α) (k : Nat) : List α := xs.take k ++ xs.drop (k + 1)
theorem M.dropP_len {α : Type} (xs : List α) {k : Nat} (hk : k < xs.length) : (M.dropP xs k).length = xs.length - 1 := by
  rw [M.dropP, List.length_append, List.length_take, List.length_drop]
  omega
def M.dropR (xs : List (Int × Int)) (k : Int) : List (Int × Int) × Int :=
  if M.curveOk xs then (if M.inn k 0 ((xs.length : Int) - 1) then (if xs.length = 1 then ([], 6) else (M.dropP xs k.toNat, 0)) else ([], 2)) else ([], 1)
theorem RA.cut {α : Type} {enc : α → List Value} {s B n c k : Nat} {w : World} {A : Option Addr} {xs : List α} (henc : ∀ x, (enc x).length = s) (h : RA enc s w B A n xs) (hk : k ≤ n) (hc : n ≤ c) :
    RA enc s w B (if c = k then A else A.map (·.add (k * s))) (n - k) (xs.drop k) := by
  refine ⟨by rw [List.length_drop, h.1], ?_⟩
  rw [← flat_drop henc]
  exact Reads.cut h.2 hk hc
theorem RA.head {α : Type} {enc : α → List Value} {s B n k : Nat} {w : World} {A : Option Addr} {xs : List α} (henc : ∀ x, (enc x).length = s) (h : RA enc s w B A n xs) (hk : k ≤ n) : RA enc s w B A k (xs.take k) := by
  refine ⟨by rw [List.length_take, h.1]; omega, by rw [flat_len henc, List.length_take, h.1, Nat.min_eq_left hk], fun h0 => ?_⟩
  obtain ⟨ad, e, hb, hc⟩ := h.2.2 (by omega)
  refine ⟨ad, e, hb, fun j u hu => hc j u ?_⟩
  rw [← flat_take henc, List.getElem?_take] at hu
  split at hu
  · exact hu
  · simp at hu
end Go.Proofs.YtacgcagpaecncaaGreat
namespace Go.Proofs.YtacgcagpaecncaaGreat
open Go.RowKit
set_option maxHeartbeats 1000000
set_option maxRecDepth 100000
theorem cls_oneCell (xs : List (Int × Int × Int × Int × Int)) : ∀ u ∈ xs.flatMap cl, u.oneCell' = true := by
  intro u hu
  obtain ⟨p, _, hp⟩ := List.mem_flatMap.1 hu
  simp only [cl, List.mem_cons, List.not_mem_nil, or_false] at hp
  rcases hp with rfl | rfl | rfl | rfl | rfl <;> rfl
end Go.Proofs.YtacgcagpaecncaaGreat
namespace Go.Proofs.YtacgcagpaecncaaGreat
open Go.RowKit
set_option maxHeartbeats 1000000
set_option maxRecDepth 100000
def M.askT (xs : List Clip) (k : Int) : Int := if M.trackOk xs then (if M.inn k 0 ((xs.length : Int) - 1) then 0 else 2) else 1
theorem M.askT_zero {xs : List Clip} {k : Int} (h : M.askT xs k = 0) : M.trackOk xs = true ∧ 0 ≤ k ∧ k < xs.length ∧ xs.length ≤ 12 := by
  unfold M.askT at h
  split at h
  · rename_i hok
    split at h
    · rename_i hin
      have := M.inn_iff.1 hin
      have h2 := hok
      rw [M.trackOk, Bool.and_eq_true, decide_eq_true_iff] at h2
      exact ⟨hok, this.1, by omega, h2.2⟩
    · simp at h
  · simp at h
/-- What a function of a track and a code gives back. -/
def RetT (e : TypeId) (w : World) (r : List Clip × Int) (en : Ending) (w' : World) : Prop :=
  ∃ v, en = .returned (.tuple #[.agg #[v], .int .i64 r.2]) ∧ OA cl e 5 w.heap.size w'.heap.size w' v r.1 ∧ Below w.heap.size w w'
def M.removeR (xs : List Clip) (k : Int) : List Clip × Int := if M.askT xs k = 0 then (M.dropP xs k.toNat, 0) else ([], M.askT xs k)
theorem removed_len (xs : List Clip) (k : Int) : (M.removeR xs k).1.length ≤ 12 := by
  unfold M.removeR
  split
  · rename_i h
    obtain ⟨_, h1, h2, h3⟩ := M.askT_zero h
    show (M.dropP xs k.toNat).length ≤ 12
    rw [M.dropP_len xs (by omega)]
    omega
  · simp
end Go.Proofs.YtacgcagpaecncaaGreat
namespace Go.Proofs.YtacgcagpaecncaaGreat
open Go.RowKit
set_option maxHeartbeats 1000000
set_option maxRecDepth 100000
def M.joins (c d : Clip) : Bool := d.1 == c.1 && d.2.2.2.2 == c.2.2.2.2 && d.2.1 == c.2.1 + c.2.2.1 && d.2.2.2.1 == c.2.2.2.1 + c.2.2.1
theorem M.find_some {α : Type} {p : α → Bool} {xs : List α} {k : Nat} {x : α} (hx : xs[k]? = some x) (hp : p x = true) (h : ∀ j, j < k → ∀ y, xs[j]? = some y → p y = false) : xs.findIdx? p = some k := by
  obtain ⟨hk, rfl⟩ := List.getElem?_eq_some_iff.1 hx
  rw [List.findIdx?_eq_some_iff_getElem]
  exact ⟨hk, hp, fun j hj => by rw [h j hj _ (List.getElem?_eq_getElem (by omega))]; exact Bool.false_ne_true⟩
theorem M.find_none {α : Type} {p : α → Bool} {xs : List α} (h : ∀ j, j < xs.length → ∀ y, xs[j]? = some y → p y = false) : xs.findIdx? p = none := by
  rw [List.findIdx?_eq_none_iff]
  intro x hx
  obtain ⟨i, hi, rfl⟩ := List.getElem_of_mem hx
  exact h i hi _ (List.getElem?_eq_getElem hi)
def M.grow (c : Clip) (l : Int) : Clip := (c.1, c.2.1, c.2.2.1 + l, c.2.2.2.1, c.2.2.2.2)
def M.mergeAt (xs : List Clip) (k i : Nat) : List Clip := M.dropP (xs.set k (M.grow ((xs[k]?).getD M.cz) ((xs[i]?).getD M.cz).2.2.1)) i
def M.mergeR (xs : List Clip) (k : Int) : List Clip × Int :=
  if M.askT xs k = 0 then (match xs.findIdx? (M.joins ((xs[k.toNat]?).getD M.cz)) with
    | some i => (M.mergeAt xs k.toNat i, 0)
    | none => ([], 3)) else ([], M.askT xs k)
theorem M.track_len {xs : List Clip} (h : M.trackOk xs = true) : xs.length ≤ 12 := by
  rw [M.trackOk, Bool.and_eq_true, decide_eq_true_iff] at h
  exact h.2
theorem M.track_clip {xs : List Clip} (h : M.trackOk xs = true) {k : Nat} {p : Clip} (hk : xs[k]? = some p) : M.clipOk p = true := by
  rw [M.trackOk, Bool.and_eq_true, List.all_eq_true] at h
  have := h.1 k (List.mem_range.2 (List.getElem?_eq_some_iff.1 hk).1)
  rw [M.stepT, Bool.and_eq_true, hk] at this
  exact this.1
theorem M.clip_bd {p : Clip} (h : M.clipOk p = true) : (0 ≤ p.1 ∧ p.1 ≤ 5) ∧ (1 ≤ p.2.2.1 ∧ p.2.2.1 ≤ 4000) ∧ (0 ≤ p.2.1 ∧ p.2.1 ≤ 4000 - p.2.2.1) ∧ (0 ≤ p.2.2.2.1 ∧ p.2.2.2.1 ≤ 4000 - p.2.2.1) ∧ (-2147483648 ≤ p.2.2.2.2 ∧ p.2.2.2.2 ≤ 2147483647) := by
  simp only [M.clipOk, Bool.and_eq_true, M.inn_iff] at h
  exact ⟨h.1.1.1.1, h.1.1.1.2, h.1.1.2, h.1.2, M.smp_bd h.2⟩
def idxInt : Option Nat → Int
  | some i => i
  | none => -1
end Go.Proofs.YtacgcagpaecncaaGreat
namespace Go.Proofs.YtacgcagpaecncaaGreat
open Go.RowKit
/-- What a clip gives to a sample. -/
def M.clipAt (src : List (List Int)) (c : Clip) (i : Int) : Int :=
  if c.2.2.2.1 ≤ i ∧ i < c.2.2.2.1 + c.2.2.1 then c.2.2.2.2 * M.at_ ((src[c.1.toNat]?).getD []) (c.2.1 + (i - c.2.2.2.1)) else 0
def M.trackSum (src : List (List Int)) : List Clip → Int → Int
  | [], _ => 0
  | c :: cs, i => M.clipAt src c i + M.trackSum src cs i
def M.renT (src : List (List Int)) (xs : List Clip) (n : Nat) : List Int := (List.range n).map fun (i : Nat) => wrap32 (M.trackSum src xs (i : Int))
/-- The same, with the first m samples of one more clip. -/
def M.renP (src : List (List Int)) (xs : List Clip) (c : Clip) (m : Nat) (n : Nat) : List Int := (List.range n).map fun (i : Nat) => wrap32 (M.trackSum src xs (i : Int) + if (i : Int) < c.2.2.2.1 + m then M.clipAt src c (i : Int) else 0)
theorem M.renT_len (src : List (List Int)) (xs : List Clip) (n : Nat) : (M.renT src xs n).length = n := by simp [M.renT]
theorem M.renP_len (src : List (List Int)) (xs : List Clip) (c : Clip) (m n : Nat) : (M.renP src xs c m n).length = n := by simp [M.renP]
theorem M.renT_at {src : List (List Int)} {xs : List Clip} {n i : Nat} (h : i < n) : (M.renT src xs n)[i]? = some (wrap32 (M.trackSum src xs (i : Int))) := by simp [M.renT, h]
theorem M.trackSum_app (src : List (List Int)) (xs ys : List Clip) (i : Int) : M.trackSum src (xs ++ ys) i = M.trackSum src xs i + M.trackSum src ys i := by
  induction xs with
  | nil => simp [M.trackSum]
  | cons x xs ih => rw [List.cons_append, M.trackSum, M.trackSum, ih]; omega
theorem M.trackSum_one (src : List (List Int)) (c : Clip) (i : Int) : M.trackSum src [c] i = M.clipAt src c i := by simp [M.trackSum]
theorem M.renT_nil (src : List (List Int)) (n : Nat) : M.renT src [] n = List.replicate n 0 := by
  apply List.ext_getElem?
  intro i
  by_cases h : i < n
  · rw [M.renT_at h, M.trackSum]
    simp [h]
    unfold wrap32
    omega
  · rw [List.getElem?_eq_none (by rw [M.renT_len]; omega), List.getElem?_eq_none (by simp; omega)]
theorem M.renP_zero (src : List (List Int)) (xs : List Clip) (c : Clip) (n : Nat) : M.renP src xs c 0 n = M.renT src xs n := by
  refine List.map_congr_left fun i _ => ?_
  congr 1
  unfold M.clipAt
  split
  · rw [if_neg (by omega)]; omega
  · omega
theorem M.renP_end (src : List (List Int)) (xs : List Clip) (c : Clip) (m n : Nat) (h : c.2.2.1 ≤ m ∨ (n : Int) ≤ c.2.2.2.1 + m) : M.renP src xs c m n = M.renT src (xs ++ [c]) n := by
  refine List.map_congr_left fun i hi => ?_
  have hi := List.mem_range.1 hi
  rw [M.trackSum_app, M.trackSum_one]
  congr 1
  split
  · rfl
  · unfold M.clipAt
    rw [if_neg (by omega)]
theorem M.renP_at {src : List (List Int)} {xs : List Clip} {c : Clip} {m n p : Nat} (hp : p < n) (e : (p : Int) = c.2.2.2.1 + m) : (M.renP src xs c m n)[p]? = some (wrap32 (M.trackSum src xs (p : Int))) := by
  simp only [M.renP, List.getElem?_map, List.getElem?_range hp, Option.map_some]
  rw [if_neg (by omega), Int.add_zero]
theorem M.renP_step {src : List (List Int)} {xs : List Clip} {c : Clip} {m n p : Nat} (hp : p < n) (e : (p : Int) = c.2.2.2.1 + m) (hm : (m : Int) < c.2.2.1) :
    (M.renP src xs c m n).set p (wrap32 (wrap32 (M.trackSum src xs (p : Int)) + c.2.2.2.2 * M.at_ ((src[c.1.toNat]?).getD []) (c.2.1 + m))) = M.renP src xs c (m + 1) n := by
  apply List.ext_getElem?
  intro i
  rw [List.getElem?_set]
  by_cases hi : p = i
  · subst hi
    rw [if_pos rfl, if_pos (by rw [M.renP_len]; exact hp)]
    simp only [M.renP, List.getElem?_map, List.getElem?_range hp, Option.map_some]
    rw [if_pos (by omega), M.clipAt, if_pos (by omega), M.wrap32_addl, show (p : Int) - c.2.2.2.1 = m by omega]
  · rw [if_neg hi]
    by_cases hn : i < n
    · simp only [M.renP, List.getElem?_map, List.getElem?_range hn, Option.map_some]
      congr 3
      by_cases h1 : (i : Int) < c.2.2.2.1 + m
      · rw [if_pos h1, if_pos (by omega)]
      · rw [if_neg h1, if_neg (by omega)]
    · rw [List.getElem?_eq_none (by rw [M.renP_len]; omega), List.getElem?_eq_none (by rw [M.renP_len]; omega)]
def M.srcOk (src : List (List Int)) : Bool := decide (src.length ≤ 6) && src.all M.sig
def M.hasS (xs : List Clip) (m : Int) : Bool := xs.all fun c => decide (c.1 < m)
def M.renderR (src : List (List Int)) (xs : List Clip) (t : Int) : List Int × Int :=
  if M.srcOk src && M.trackOk xs then (if M.inn t 0 4000 then (if M.hasS xs src.length then (M.renT src xs t.toNat, 0) else ([], 3)) else ([], 2)) else ([], 1)
theorem M.at_bd {xs : List Int} (h : M.sig xs = true) (i : Int) : -2147483648 ≤ M.at_ xs i ∧ M.at_ xs i ≤ 2147483647 := by
  unfold M.at_
  have hs : ∀ x ∈ xs, M.smp x = true := by
    rw [M.sig, Bool.and_eq_true, List.all_eq_true] at h
    exact h.2
  split
  · have hlt : i.toNat < xs.length ∨ ¬ i.toNat < xs.length := by omega
    rcases hlt with hlt | hlt
    · have := M.smp_bd (hs _ (List.getElem_mem hlt))
      simp_all
    · simp_all
  · omega
end Go.Proofs.YtacgcagpaecncaaGreat
namespace Go.Proofs.YtacgcagpaecncaaGreat
open Go.RowKit
set_option maxHeartbeats 1000000
set_option maxRecDepth 100000
theorem ei_sd : EI Tryz.prog 100 155 (.agg #[.int .i64 0, .int .i64 0]) 2 16 := ⟨Tryz.underlying100, by kernel_rfl, rfl, by decide⟩
def sd (p : (Int × Int)) : List Value := [.int .i64 p.1, .int .i64 p.2]
theorem sd_len (p : (Int × Int)) : (sd p).length = 2 := rfl
abbrev tSd : Ty (Int × Int) := Ty.flat 2 (by decide) (0, 0) sd sd_len (by simp [sd, Value.oneCell'])
abbrev hSd : Hs (Int × Int) := hI.prod hI
abbrev tSdS : Ty (List (Int × Int)) := tSd.sl 155
abbrev hSdS : Hs (List (Int × Int)) := hSd.sl
theorem hSd_szL (xs : List (Int × Int)) : hSd.szL xs = 0 := by
  induction xs with
  | nil => rfl
  | cons x xs ih => rw [Hs.szL, ih]; rfl
theorem hSd_cntL (xs : List (Int × Int)) : hSd.cntL xs = 2 * xs.length := by
  induction xs with
  | nil => rfl
  | cons x xs ih =>
    rw [Hs.cntL, ih, List.length_cons]
    show (1 + 1) + _ = _
    omega
theorem hSdS_sz (xs : List (Int × Int)) : hSdS.sz xs = xs.length := by show xs.length + hSd.szL xs = _; rw [hSd_szL]; rfl
theorem hSdS_cnt (xs : List (Int × Int)) : hSdS.cnt xs = 2 * xs.length := hSd_cntL xs
theorem cl_SdS (x : List (Int × Int)) : hSdS.cnt x ≤ 10 * hSdS.sz x + 10 := by rw [hSdS_sz, hSdS_cnt]; omega
theorem mark_sd (k : Int) (x : (Int × Int)) : hSd.mark k x = (k, k + 1) := by
  simp [Hs.prod, hI]
  try omega
theorem laws_toSend (p0 p1 : Int) (w : World) :
    Calls Tryz.prog 146 #[.agg #[.int .i64 p0, .int .i64 p1]] w fun e w' => e = .returned (.agg #[.int .i64 p0, .int .i64 p1]) ∧ Below w.heap.size w w' := by
  go_enter Tryz.func146, Tryz.ntmps146
  go_wp2
  exact bodyPost_ret (v := .agg #[.int .i64 p0, .int .i64 p1]) (by simp [results, Tryz.results146, go_sem]) rfl ⟨rfl, (((Below.refl _ _).alloc (Nat.le_refl _) _).alloc (by simp) _).alloc (by simp; omega) _⟩
theorem nf_eq_Send (p0 p1 : Int) (w : World) :
    Calls Tryz.prog 156 #[.agg #[.int .i64 p0, .int .i64 p1], .agg #[.int .i64 p0, .int .i64 p1]] w fun e w' => e = .returned (.bool true) ∧ Below w.heap.size w w' := by
  go_enter Tryz.func156, Tryz.ntmps156
  go_wp2
  go_ret
  exact ⟨rfl, ((Below.refl _ _).alloc (Nat.le_refl _) _).alloc (by simp) _⟩
theorem nf_to_SdS_ (A : Option Addr) (n c : Nat) (xs : List (Int × Int)) (w : World) (hx : tSdS.R w w.heap.size [.slice A n c] xs) (hn : hSdS.sz xs ≤ 100000000) :
    Calls Tryz.prog 128 #[.slice A n c] w fun e w' => ∃ A' n' c', e = .returned (.slice A' n' c') ∧ tSdS.O w' (Iv w.heap.size w'.heap.size) [.slice A' n' c'] xs ∧ Below w.heap.size w w' := by
  have hr := sl_R.1 hx
  obtain rfl : xs.length = n := hr.cap.1
  rw [hSdS_sz] at hn
  clear hx
  go_enter Tryz.func128, Tryz.ntmps128
  go_wp2_with (at_make; refine wpList_mk ei_sd rfl _ _ rfl xs.length _ _ rfl rfl rfl rfl (by omega) (by unfold maxLen; omega) ?_; intro w1 own1 bel1)
  have hs1 : w.heap.size + 1 ≤ w1.heap.size := (World.ownsRow.lt own1 _ rfl).2
  have own2 : OS tSd 155 w1 (Iv w.heap.size (w.heap.size + 1)) (.slice (some ⟨w.heap.size, 0, none⟩) xs.length xs.length) (List.replicate xs.length (0, 0)) :=
    OS.made (zc := [.int .i64 0, .int .i64 0]) (fun _ _ => rfl) rfl ⟨Nat.le_refl _, by omega⟩ own1
  clear own1
  go_loopw [4] (fun i wr => ∃ k : Nat, i = .int .i64 k ∧ k ≤ xs.length ∧ OS tSd 155 wr (Iv w.heap.size (w.heap.size + 1)) (.slice (some ⟨w.heap.size, 0, none⟩) xs.length xs.length) (xs.take k ++ (List.replicate xs.length (0, 0)).drop k) ∧ w.heap.size + 1 ≤ wr.heap.size ∧ Below w.heap.size w wr)
    (fun i _ => xs.length - (intOf i).toNat)
  case atStart => exact ⟨0, rfl, by omega, by simpa using own2, hs1, bel1⟩
  case round =>
    obtain ⟨k, rfl, hk, own, hsz, hb⟩ := hrel
    by_cases hlt : k < xs.length
    · have hX := Lib.hid (List.getElem?_eq_getElem hlt)
      obtain ⟨b, o, c1, cs, hv, hab, -, hE, hc⟩ := (hr.below hb).atX hX.out
      simp only [Value.slice.injEq] at hv
      obtain ⟨rfl, -, rfl⟩ := hv
      generalize xs[k] = x at hX hE
      obtain ⟨p0, p1⟩ := x
      obtain rfl : cs = [.int .i64 p0, .int .i64 p1] := hE
      have hc0 : wr.cell? ⟨b, o + k * 2, none⟩ = some (.int .i64 p0) := hc 0 _ rfl
      have hc1 : wr.cell? ⟨b, o + k * 2 + 1, none⟩ = some (.int .i64 p1) := hc 1 _ rfl
      have hD := Lib.hid (show (xs.take k ++ (List.replicate xs.length ((0, 0) : (Int × Int))).drop k)[k]? = some (0, 0) by rw [M.mid_at (by rw [List.length_replicate])]; simp [hlt])
      clear hc
      go_wp2_with (go_at_call 146; refine (laws_toSend _ _ _).mono ?_; rintro e w2 ⟨rfl, bel2⟩; have own' := own.below bel2 hsz; obtain ⟨css, Fs, hole, cs, hcs, hE⟩ := own'.openAt hD.out; obtain rfl : cs = [.int .i64 0, .int .i64 0] := hE; have q0 : w2.cell? ⟨w.heap.size, k * 2, none⟩ = some (.int .i64 0) := (hole.cell hcs (j := 0) rfl).1; have r0 : w2.frozen? ⟨w.heap.size, k * 2, none⟩ = false := (hole.cell hcs (j := 0) rfl).2; have q1 : w2.cell? ⟨w.heap.size, k * 2 + 1, none⟩ = some (.int .i64 0) := (hole.cell hcs (j := 1) rfl).1; have r1 : w2.frozen? ⟨w.heap.size, k * 2 + 1, none⟩ = false := (hole.cell hcs (j := 1) rfl).2)
      go_roundw
      case rel =>
        have s0 := hole.set hcs 0 (by decide) (.int .i64 p0)
        have s1 := s0.1.set s0.2 1 (by decide) (.int .i64 p1)
        have h3 := s1.1.fill s1.2 (y := (p0, p1)) rfl
        rw [M.set_mid (by rw [List.length_replicate]) hX.out] at h3
        have hb2 := hb.trans (bel2.mono hb.size)
        exact ⟨k + 1, by go_num, by omega, h3, by simpa using Nat.le_trans hsz bel2.size, (hb2.setCell (Nat.le_refl _) _).setCell (Nat.le_refl _) _⟩
      case measure => simp [intOf]; omega
    · go_wp2
      go_ret
      rw [List.take_of_length_le (by omega), List.drop_eq_nil_of_le (by simp; omega), List.append_nil] at own
      exact ⟨_, _, _, rfl, sl_O.2 (own.iv (Nat.le_refl _) hsz), hb⟩
theorem nf_eq_SdS_ (A A' : Option Addr) (n c n' c' : Nat) (xs : List (Int × Int)) (w : World) (hx : tSdS.R w w.heap.size [.slice A n c] xs) (hy : tSdS.R w w.heap.size [.slice A' n' c'] xs) (hn : hSdS.sz xs ≤ 100000000) :
    Calls Tryz.prog 138 #[.slice A n c, .slice A' n' c'] w fun e w' => e = .returned (.bool true) ∧ Below w.heap.size w w' := by
  have hr := sl_R.1 hx
  have hr' := sl_R.1 hy
  obtain rfl : xs.length = n := hr.cap.1
  obtain rfl : xs.length = n' := hr'.cap.1
  rw [hSdS_sz] at hn
  clear hx hy
  go_enter Tryz.func138, Tryz.ntmps138
  go_wp2
  go_loopw [5] (fun i wr => ∃ k : Nat, i = .int .i64 k ∧ k ≤ xs.length ∧ Below w.heap.size w wr) (fun i _ => xs.length - (intOf i).toNat)
  case atStart => exact ⟨0, rfl, by omega, Below.refl _ _⟩
  case round =>
    obtain ⟨k, rfl, hk, hb⟩ := hrel
    by_cases hlt : k < xs.length
    · have hX := Lib.hid (List.getElem?_eq_getElem hlt)
      obtain ⟨b, o, c1, cs, hv, hab, -, hE, hc⟩ := (hr.below hb).atX hX.out
      obtain ⟨b', o', c1', cs', hv', hab', -, hE', hc'⟩ := (hr'.below hb).atX hX.out
      simp only [Value.slice.injEq] at hv hv'
      obtain ⟨rfl, -, rfl⟩ := hv
      obtain ⟨rfl, -, rfl⟩ := hv'
      generalize xs[k] = x at hX hE hE'
      obtain ⟨p0, p1⟩ := x
      obtain rfl : cs = [.int .i64 p0, .int .i64 p1] := hE
      obtain rfl : cs' = [.int .i64 p0, .int .i64 p1] := hE'
      have hc0 : wr.cell? ⟨b, o + k * 2, none⟩ = some (.int .i64 p0) := hc 0 _ rfl
      have hc1 : wr.cell? ⟨b, o + k * 2 + 1, none⟩ = some (.int .i64 p1) := hc 1 _ rfl
      have hd0 : wr.cell? ⟨b', o' + k * 2, none⟩ = some (.int .i64 p0) := hc' 0 _ rfl
      have hd1 : wr.cell? ⟨b', o' + k * 2 + 1, none⟩ = some (.int .i64 p1) := hc' 1 _ rfl
      have hbr : b < wr.heap.size := Nat.lt_of_lt_of_le hab hb.size
      have hbr' : b' < wr.heap.size := Nat.lt_of_lt_of_le hab' hb.size
      clear hc hc'
      go_wp2
      go_region_held3 (fun w' => Below wr.heap.size wr w' ∧ w'.cell? ⟨b, o + k * 2, none⟩ = some (.int .i64 p0) ∧ w'.cell? ⟨b, o + k * 2 + 1, none⟩ = some (.int .i64 p1) ∧ w'.cell? ⟨b', o' + k * 2, none⟩ = some (.int .i64 p0) ∧ w'.cell? ⟨b', o' + k * 2 + 1, none⟩ = some (.int .i64 p1))
        (first
          | exact ⟨below_drewN (Below.refl _ _) _, hc0, hc1, hd0, hd1⟩
          | exact ⟨keptB_all bel2 rfl (And.left (by assumption)), keptB bel2 rfl (And.left (by assumption)) hc0 hbr, keptB bel2 rfl (And.left (by assumption)) hc1 hbr, keptB bel2 rfl (And.left (by assumption)) hd0 hbr', keptB bel2 rfl (And.left (by assumption)) hd1 hbr'⟩)
        (first | (go_at_call 156; refine (nf_eq_Send _ _ _).mono ?_; rintro e w2 ⟨rfl, bel2⟩))
      go_wp2
      go_roundw
      case rel => exact ⟨k + 1, by go_num, by omega, hb.trans ((keptB_all bel2 rfl (below_drewN (Below.refl _ _) _)).mono hb.size)⟩
      case measure => simp [intOf]; omega
    · go_wp2
      go_ret
      exact ⟨rfl, hb⟩
theorem nf_mark_SdS_ (A : Option Addr) (n c : Nat) (k : Int) (xs : List (Int × Int)) (w : World) (F : Nat → Prop) (hx : tSdS.O w F [.slice A n c] xs) (hk : 0 ≤ k ∧ k + (hSdS.cnt xs : Int) ≤ 1000000000) :
    Calls Tryz.prog 116 #[.slice A n c, .int .i64 k] w fun e w' => e = .returned (.int .i64 (k + hSdS.cnt xs)) ∧ tSdS.O w' F [.slice A n c] (hSdS.mark k xs) ∧ Chg F w w' := by
  have ow := sl_O.1 hx
  obtain rfl : xs.length = n := ow.read.cap.1
  rw [hSdS_cnt] at *
  clear hx
  go_enter Tryz.func116, Tryz.ntmps116
  go_wp2
  go_loopw [1, 5] (fun q i wr => ∃ j : Nat, i = .int .i64 j ∧ j ≤ xs.length ∧ q = .int .i64 (k + 2 * (j : Int)) ∧ OS tSd 155 wr F (.slice A xs.length c) ((hSd.mkL k xs).take j ++ xs.drop j) ∧ Chg F w wr)
    (fun _ i _ => xs.length - (intOf i).toNat)
  case atStart => exact ⟨0, rfl, by omega, by go_num, by simpa using ow, Chg.refl _ _⟩
  case round =>
    obtain ⟨j, rfl, hj, rfl, own, hg⟩ := hrel
    by_cases hlt : j < xs.length
    · have hml := Lib.hid (hSd.mkL_len k xs)
      have hX := Lib.hid (List.getElem?_eq_getElem hlt)
      generalize xs[j] = x at hX
      obtain ⟨p0, p1⟩ := x
      have hyj := Lib.hid (show ((hSd.mkL k xs).take j ++ xs.drop j)[j]? = some (p0, p1) by rw [M.mid_at hml.out]; exact hX.out)
      obtain ⟨css, Fs, hole, cs, hcs, hE⟩ := own.openAt hyj.out
      obtain rfl : cs = [.int .i64 p0, .int .i64 p1] := hE
      obtain ⟨g, rfl, hFg, hFn, hgl, -⟩ := hole.form (List.getElem?_eq_some_iff.1 hyj.out).1
      have hmk := Lib.hid (show (hSd.mkL k xs)[j]? = some (k + 2 * (j : Int), k + 2 * (j : Int) + 1) by rw [hSd.mkL_at k hX.out, mark_sd, hSd_cntL, List.length_take, Nat.min_eq_left hj]; simp only [Option.some.injEq, Prod.mk.injEq]; omega)
      have q0 : wr.cell? ⟨g, j * 2, none⟩ = some (.int .i64 p0) := (hole.cell hcs (j := 0) rfl).1
      have r0 : wr.frozen? ⟨g, j * 2, none⟩ = false := (hole.cell hcs (j := 0) rfl).2
      have q1 : wr.cell? ⟨g, j * 2 + 1, none⟩ = some (.int .i64 p1) := (hole.cell hcs (j := 1) rfl).1
      have r1 : wr.frozen? ⟨g, j * 2 + 1, none⟩ = false := (hole.cell hcs (j := 1) rfl).2
      go_wp2
      go_roundw
      case rel =>
        have s0 := hole.set hcs 0 (by decide) (.int .i64 (k + 2 * (j : Int)))
        have c0 := hg.trans (Chg.set wr g (j * 2 + 0) (.int .i64 (k + 2 * (j : Int))) hFg)
        have s1 := s0.1.set s0.2 1 (by decide) (.int .i64 (k + 2 * (j : Int) + 1))
        have c1 := c0.trans (Chg.set _ g (j * 2 + 1) (.int .i64 (k + 2 * (j : Int) + 1)) hFg)
        have h3 := s1.1.fill s1.2 (y := (k + 2 * (j : Int), k + 2 * (j : Int) + 1)) rfl
        rw [M.set_mid hml.out hmk.out] at h3
        exact ⟨j + 1, by go_num, by omega, by go_num, h3, c1⟩
      case measure => simp [intOf]; omega
    · obtain rfl : xs.length = j := by omega
      go_wp2
      go_ret
      rw [List.take_of_length_le (by rw [Hs.mkL_len]; omega), List.drop_eq_nil_of_le (by omega), List.append_nil] at own
      exact ⟨by go_num, sl_O.2 own, hg⟩
theorem nf_held_SdS_ (A : Option Addr) (n c : Nat) (k : Int) (xs : List (Int × Int)) (w : World) (hx : tSdS.R w w.heap.size [.slice A n c] (hSdS.mark k xs)) (hk : 0 ≤ k ∧ k + (hSdS.cnt xs : Int) ≤ 1000000000) :
    Calls Tryz.prog 117 #[.slice A n c, .int .i64 k] w fun e w' => e = .returned (.int .i64 (k + hSdS.cnt xs)) ∧ Below w.heap.size w w' := by
  have hr : RS tSd w w.heap.size (.slice A n c) (hSd.mkL k xs) := sl_R.1 hx
  obtain rfl : xs.length = n := by rw [← hr.cap.1, Hs.mkL_len]
  have hml := Lib.hid (hSd.mkL_len k xs)
  rw [hSdS_cnt] at *
  clear hx
  go_enter Tryz.func117, Tryz.ntmps117
  go_wp2
  go_loop [1, 5] (fun q i => ∃ j : Nat, i = .int .i64 j ∧ j ≤ xs.length ∧ q = .int .i64 (k + 2 * (j : Int))) (fun _ i => xs.length - (intOf i).toNat)
  case atStart => exact ⟨0, rfl, by omega, by go_num⟩
  case round =>
    obtain ⟨j, rfl, hj, rfl⟩ := hrel
    by_cases hlt : j < xs.length
    · have hX := Lib.hid (List.getElem?_eq_getElem hlt)
      generalize xs[j] = x at hX
      have hmk := Lib.hid (show (hSd.mkL k xs)[j]? = some (k + 2 * (j : Int), k + 2 * (j : Int) + 1) by rw [hSd.mkL_at k hX.out, mark_sd, hSd_cntL, List.length_take, Nat.min_eq_left hj]; simp only [Option.some.injEq, Prod.mk.injEq]; omega)
      obtain ⟨b, o, c1, cs, hv, hab, -, hE, hc⟩ := hr.atX hmk.out
      simp only [Value.slice.injEq] at hv
      obtain ⟨rfl, -, rfl⟩ := hv
      obtain rfl : cs = [.int .i64 (k + 2 * (j : Int)), .int .i64 (k + 2 * (j : Int) + 1)] := hE
      have hc0 : w.cell? ⟨b, o + j * 2, none⟩ = some (.int .i64 (k + 2 * (j : Int))) := hc 0 _ rfl
      have hc1 : w.cell? ⟨b, o + j * 2 + 1, none⟩ = some (.int .i64 (k + 2 * (j : Int) + 1)) := hc 1 _ rfl
      clear hc
      go_wp2
      go_round
      case rel => exact ⟨j + 1, by go_num, by omega, by go_num⟩
      case measure => simp [intOf]; omega
    · obtain rfl : xs.length = j := by omega
      go_wp2
      go_ret
      exact ⟨by go_num, Below.refl _ _⟩
theorem nf_sz_SdS_ (A : Option Addr) (n c : Nat) (xs : List (Int × Int)) (l : Int) (w : World) (hx : tSdS.R w w.heap.size [.slice A n c] xs) (hl : 0 ≤ l ∧ l ≤ 1000000000) :
    Calls Tryz.prog 119 #[.slice A n c, .int .i64 l] w fun e w' => e = .returned (.int .i64 (if (hSdS.sz xs : Int) ≤ l then l - hSdS.sz xs else -1)) ∧ Below w.heap.size w w' := by
  obtain ⟨h1, h2, h3⟩ := (sl_R.1 hx).cap
  have hn : n ≤ 9223372036854775807 := by unfold maxLen at h3; omega
  rw [hSdS_sz, h1]
  clear h1 h2 h3 hx
  by_cases h : (n : Int) ≤ l
  all_goals
    go_enter Tryz.func119, Tryz.ntmps119
    go_wp2
    go_ret
    exact ⟨rfl, Below.refl _ _⟩
end Go.Proofs.YtacgcagpaecncaaGreat
namespace Go.Proofs.YtacgcagpaecncaaGreat
open Go.RowKit
set_option maxHeartbeats 2000000
set_option maxRecDepth 100000
/-- A text. -/
def tStr : Ty ByteArray where
  s := 1
  pos := Nat.one_pos
  zero := ⟨#[]⟩
  R _ _ cs x := cs = [.string x] ∧ x.size ≤ maxLen
  O _ _ cs x := cs = [.string x] ∧ x.size ≤ maxLen
  rlen := by rintro w B cs x ⟨rfl, _⟩; rfl
  keep := fun _ h => h
  more := fun _ h => h
  read := fun h => h
  okeep := fun _ h => h
  owide := fun _ h => h
  ocells := by rintro w F cs x ⟨rfl, _⟩ u hu; simp only [List.mem_singleton] at hu; subst hu; rfl
  oreal := fun h => h
def M.digs (k : Nat) : List UInt8 := if k = 0 then [] else M.digs (k / 10) ++ [UInt8.ofNat (48 + k % 10)]
theorem M.digs_len (k : Nat) : (M.digs k).length ≤ k := by
  induction k using Nat.strongRecOn with
  | _ k ih =>
    rw [M.digs]
    split
    · simp
    · have := ih (k / 10) (by omega)
      simp only [List.length_append, List.length_singleton]
      omega
/-- The text that a mark writes. -/
def M.markT (k : Int) : ByteArray := if k ≤ 0 then ⟨#[109, 48]⟩ else ⟨(109 :: M.digs k.toNat).toArray⟩
theorem M.markT_size (k : Int) : (M.markT k).size ≤ k.toNat + 2 := by
  unfold M.markT
  split
  · show 2 ≤ _; omega
  · have := M.digs_len k.toNat
    show ((109 :: M.digs k.toNat).toArray).size ≤ _
    simp only [List.size_toArray, List.length_cons]
    omega
def hStr : Hs ByteArray := ⟨fun s => s.size, fun k _ => M.markT k, fun _ => 1⟩
abbrev Strip := ByteArray × Int × List (Int × Int)
abbrev tSt : Ty Strip := tStr.prod (tI.prod tSdS)
abbrev hSt : Hs Strip := hStr.prod (hI.prod hSdS)
abbrev tM : Ty (List Strip) := tSt.sl 102
abbrev hM : Hs (List Strip) := hSt.sl
section
variable {w : World} {B : Nat} {F : Nat → Prop} {cs : List Value} {s : ByteArray} {l : Int} {xs : List (Int × Int)}
theorem open_Sd {cs : List Value} (h : tSdS.R w B cs xs) : ∃ A n c, cs = [.slice A n c] := by
  obtain ⟨v, rfl, hr⟩ := h
  obtain ⟨A, c, rfl⟩ := hr.shape
  exact ⟨_, _, _, rfl⟩
theorem st_R : tSt.R w B cs (s, l, xs) ↔ ∃ A n c, cs = [.string s, .int .i64 l, .slice A n c] ∧ s.size ≤ maxLen ∧ tSdS.R w B [.slice A n c] xs := by
  constructor
  · rintro ⟨c1, c2, rfl, ⟨rfl, h1⟩, c3, c4, rfl, h2, h3⟩
    obtain rfl : c3 = [.int .i64 l] := h2
    obtain ⟨A, n, c, rfl⟩ := open_Sd h3
    exact ⟨A, n, c, rfl, h1, h3⟩
  · rintro ⟨A, n, c, rfl, h1, h3⟩
    exact ⟨[.string s], _, rfl, ⟨rfl, h1⟩, [.int .i64 l], _, rfl, rfl, h3⟩
theorem st_O : tSt.O w F cs (s, l, xs) ↔ ∃ A n c, cs = [.string s, .int .i64 l, .slice A n c] ∧ s.size ≤ maxLen ∧ tSdS.O w F [.slice A n c] xs := by
  constructor
  · rintro ⟨c1, c2, F1, F2, rfl, ⟨rfl, h1⟩, ⟨c3, c4, F3, F4, rfl, h2, h3, f3, f4, _⟩, f1, f2, _⟩
    obtain rfl : c3 = [.int .i64 l] := h2
    obtain ⟨A, n, c, rfl⟩ := open_Sd (tSdS.read h3)
    exact ⟨A, n, c, rfl, h1, tSdS.owide (fun b hb => f2 b (f4 b hb)) h3⟩
  · rintro ⟨A, n, c, rfl, h1, h3⟩
    exact ⟨[.string s], _, fun _ => False, F, rfl, ⟨rfl, h1⟩, ⟨[.int .i64 l], _, fun _ => False, F, rfl, rfl, h3, fun _ h => h.elim, fun _ h => h, fun _ h => h.elim⟩, fun _ h => h.elim, fun _ h => h, fun _ h => h.elim⟩
theorem hSt_sz (s : ByteArray) (l : Int) (xs : List (Int × Int)) : hSt.sz (s, l, xs) = s.size + xs.length := by
  show s.size + (0 + hSdS.sz xs) = _
  rw [hSdS_sz, Nat.zero_add]
theorem hSt_cnt (s : ByteArray) (l : Int) (xs : List (Int × Int)) : hSt.cnt (s, l, xs) = 2 + 2 * xs.length := by
  show 1 + (1 + hSdS.cnt xs) = _
  rw [hSdS_cnt]
  omega
end
theorem nf_sz_St (s : ByteArray) (l0 : Int) (A : Option Addr) (n c : Nat) (xs : List (Int × Int)) (l : Int) (w : World) (hs : s.size ≤ maxLen) (hx : tSdS.R w w.heap.size [.slice A n c] xs) (hl : 0 ≤ l ∧ l ≤ 1000000000) :
    Calls Tryz.prog 90 #[.agg #[.string s, .int .i64 l0, .slice A n c], .int .i64 l] w fun e w' => e = .returned (.int .i64 (if (hSt.sz (s, l0, xs) : Int) ≤ l then l - hSt.sz (s, l0, xs) else -1)) ∧ Below w.heap.size w w' := by
  have hb : Below w.heap.size w (w.alloc (.cells #[.string s, .int .i64 l0, .slice A n c] 129)) := (Below.refl _ _).alloc (Nat.le_refl _) _
  have hx2 := tSdS.later hx hb
  unfold maxLen at hs
  rw [hSt_sz]
  have hz := hSdS_sz xs
  by_cases h1 : (s.size : Int) ≤ l
  · by_cases h2 : (xs.length : Int) ≤ l - s.size
    · have hi := Lib.hid (show (if (hSdS.sz xs : Int) ≤ l - s.size then l - s.size - hSdS.sz xs else -1) = l - s.size - xs.length by rw [hz, if_pos h2])
      have hj := Lib.hid (show (if ((s.size + xs.length : Nat) : Int) ≤ l then l - ((s.size + xs.length : Nat) : Int) else -1) = l - s.size - xs.length by rw [if_pos (by omega)]; omega)
      rw [hj.out]
      clear hz
      go_enter Tryz.func90, Tryz.ntmps90
      go_wp2_with (go_at_call 119; refine (nf_sz_SdS_ _ _ _ _ _ _ hx2 (by omega)).mono ?_; rw [hi.out]; rintro e w2 ⟨rfl, bel2⟩)
      go_ret
      exact ⟨rfl, hb.trans (bel2.mono hb.size)⟩
    · have hi := Lib.hid (show (if (hSdS.sz xs : Int) ≤ l - s.size then l - s.size - hSdS.sz xs else -1) = -1 by rw [hz, if_neg h2])
      have hj := Lib.hid (show (if ((s.size + xs.length : Nat) : Int) ≤ l then l - ((s.size + xs.length : Nat) : Int) else -1) = -1 by rw [if_neg (by omega)])
      rw [hj.out]
      clear hz
      go_enter Tryz.func90, Tryz.ntmps90
      go_wp2_with (go_at_call 119; refine (nf_sz_SdS_ _ _ _ _ _ _ hx2 (by omega)).mono ?_; rw [hi.out]; rintro e w2 ⟨rfl, bel2⟩)
      go_ret
      exact ⟨rfl, hb.trans (bel2.mono hb.size)⟩
  · have hj := Lib.hid (show (if ((s.size + xs.length : Nat) : Int) ≤ l then l - ((s.size + xs.length : Nat) : Int) else -1) = -1 by rw [if_neg (by omega)])
    rw [hj.out]
    clear hz
    go_enter Tryz.func90, Tryz.ntmps90
    go_wp2
    go_ret
    exact ⟨rfl, hb⟩
theorem nf_sz_M_ (A : Option Addr) (n c : Nat) (xs : List Strip) (l : Int) (w : World) (hx : tM.R w w.heap.size [.slice A n c] xs) (hl : 0 ≤ l ∧ l ≤ 1000000000) :
    Calls Tryz.prog 52 #[.slice A n c, .int .i64 l] w fun e w' => e = .returned (.int .i64 (if (hM.sz xs : Int) ≤ l then l - hM.sz xs else -1)) ∧ Below w.heap.size w w' := by
  have hr := sl_R.1 hx
  obtain ⟨h1, h2, h3⟩ := hr.cap
  have hn : n ≤ 9223372036854775807 := by unfold maxLen at h3; omega
  obtain rfl : xs.length = n := h1
  have hzz : hM.sz xs = xs.length + hSt.szL xs := rfl
  have HZ := Lib.hid hzz
  clear h2 h3 hx hzz
  generalize hR : (if (hM.sz xs : Int) ≤ l then l - (hM.sz xs : Int) else -1) = R
  have HR := Lib.hid hR
  clear hR
  by_cases h : (xs.length : Int) ≤ l
  · go_enter Tryz.func52, Tryz.ntmps52
    go_wp2
    go_loopw [1, 5] (fun q i wr => ∃ k : Nat, i = .int .i64 k ∧ k ≤ xs.length ∧ (hSt.szL (xs.take k) : Int) ≤ l - xs.length ∧ q = .int .i64 (l - xs.length - hSt.szL (xs.take k)) ∧ Below w.heap.size w wr) (fun _ i _ => xs.length - (intOf i).toNat)
    case atStart => exact ⟨0, rfl, by omega, by simp [Hs.szL]; omega, by simp [Hs.szL], Below.refl _ _⟩
    case round =>
      obtain ⟨k, rfl, hk, hz, rfl, hb⟩ := hrel
      by_cases hlt : k < xs.length
      · have hX := Lib.hid (List.getElem?_eq_getElem hlt)
        obtain ⟨b, o, c1, cs, hv, hab, -, hE, hc⟩ := (hr.below hb).atX hX.out
        simp only [Value.slice.injEq] at hv
        obtain ⟨rfl, -, rfl⟩ := hv
        have hT := Lib.hid (hSt.szL_take hX.out)
        have hU := hSt.szL_at hX.out
        generalize xs[k] = x at hX hE hT hU
        obtain ⟨s, l0, ys⟩ := x
        obtain ⟨A1, n1, c1, rfl, hs, hE⟩ := st_R.1 hE
        have hc0 : wr.cell? ⟨b, o + k * 3, none⟩ = some (.string s) := hc 0 _ rfl
        have hc1 : wr.cell? ⟨b, o + k * 3 + 1, none⟩ = some (.int .i64 l0) := hc 1 _ rfl
        have hc2 : wr.cell? ⟨b, o + k * 3 + 2, none⟩ = some (.slice A1 n1 c1) := hc 2 _ rfl
        have hF := tSdS.more hb.size hE
        clear hc
        by_cases hle : (hSt.sz (s, l0, ys) : Int) ≤ l - xs.length - hSt.szL (xs.take k)
        · have hi := Lib.hid (show (if (hSt.sz (s, l0, ys) : Int) ≤ l - xs.length - hSt.szL (xs.take k) then l - xs.length - hSt.szL (xs.take k) - hSt.sz (s, l0, ys) else -1) = l - xs.length - hSt.szL (xs.take k) - hSt.sz (s, l0, ys) by rw [if_pos hle])
          go_wp2_with (go_at_call 90; refine (nf_sz_St _ _ _ _ _ _ _ _ hs hF (by omega)).mono ?_; rw [hi.out]; rintro e w2 ⟨rfl, bel2⟩)
          go_roundw
          case rel => exact ⟨k + 1, by go_num, by omega, by rw [hT.out]; omega, by rw [hT.out]; go_num, hb.trans (bel2.mono hb.size)⟩
          case measure => simp [intOf]; omega
        · have hi := Lib.hid (show (if (hSt.sz (s, l0, ys) : Int) ≤ l - xs.length - hSt.szL (xs.take k) then l - xs.length - hSt.szL (xs.take k) - hSt.sz (s, l0, ys) else -1) = -1 by rw [if_neg hle])
          have hj := Lib.hid (show (if (hM.sz xs : Int) ≤ l then l - hM.sz xs else -1) = -1 by rw [HZ.out, if_neg (by omega)])
          go_wp2_with (go_at_call 90; refine (nf_sz_St _ _ _ _ _ _ _ _ hs hF (by omega)).mono ?_; rw [hi.out]; rintro e w2 ⟨rfl, bel2⟩)
          go_ret
          exact ⟨ret_int (hj.out.symm.trans HR.out), hb.trans (bel2.mono hb.size)⟩
      · obtain rfl : xs.length = k := by omega
        rw [List.take_of_length_le (Nat.le_refl _)] at hz ⊢
        have hj := Lib.hid (show (if (hM.sz xs : Int) ≤ l then l - hM.sz xs else -1) = l - xs.length - hSt.szL xs by rw [HZ.out, if_pos (by omega)]; omega)
        go_wp2
        go_ret
        exact ⟨ret_int (hj.out.symm.trans HR.out), hb⟩
  · have hj := Lib.hid (show (if (hM.sz xs : Int) ≤ l then l - hM.sz xs else -1) = -1 by rw [HZ.out, if_neg (by omega)])
    go_enter Tryz.func52, Tryz.ntmps52
    go_wp2
    go_ret
    exact ⟨ret_int (hj.out.symm.trans HR.out), Below.refl _ _⟩
end Go.Proofs.YtacgcagpaecncaaGreat
namespace Go.Proofs.YtacgcagpaecncaaGreat
open Go.RowKit
theorem Ty.oset {α : Type} (t : Ty α) {w : World} {lo hi g o : Nat} {cs : List Value} {x : α} {u : Value} (h : t.O w (Iv lo hi) cs x) (hg : g < lo ∨ hi ≤ g) : t.O (w.setCell ⟨g, o, none⟩ u) (Iv lo hi) cs x :=
  t.okeep (fun b ⟨h1, h2⟩ => heap_setCell_other w ⟨g, o, none⟩ b u (fun e => by simp only at e; omega)) h
end Go.Proofs.YtacgcagpaecncaaGreat
namespace Go.Proofs.YtacgcagpaecncaaGreat
open Go.RowKit
set_option maxHeartbeats 2000000
set_option maxRecDepth 100000
theorem ei_st : EI Tryz.prog 35 102 (.agg #[.string ⟨#[]⟩, .int .i64 0, .slice none 0 0]) 3 48 := ⟨Tryz.underlying35, by kernel_rfl, rfl, by decide⟩
theorem st_zero (w : World) (F : Nat → Prop) : tSt.O w F [.string ⟨#[]⟩, .int .i64 0, .slice none 0 0] (⟨#[]⟩, 0, []) := st_O.2 ⟨none, 0, 0, rfl, Nat.zero_le _, _, rfl, OS.nil _ _ _ _⟩
theorem nf_to_St (s : ByteArray) (l0 : Int) (A : Option Addr) (n c : Nat) (xs : List (Int × Int)) (w : World) (hx : tSdS.R w w.heap.size [.slice A n c] xs) (hn : hSdS.sz xs ≤ 100000000) :
    Calls Tryz.prog 98 #[.agg #[.string s, .int .i64 l0, .slice A n c]] w fun e w' => ∃ A' n' c', e = .returned (.agg #[.string s, .int .i64 l0, .slice A' n' c']) ∧ tSdS.O w' (Iv w.heap.size w'.heap.size) [.slice A' n' c'] xs ∧ Below w.heap.size w w' := by
  have hb : Below w.heap.size w (((w.alloc (.cells #[.string s, .int .i64 l0, .slice A n c] 129)).alloc (.cells #[.string ⟨#[]⟩, .int .i64 0, .slice none 0 0] 102)).alloc (.cells #[.string s, .int .i64 l0, .slice none 0 0] 102)) := (((Below.refl _ _).alloc (Nat.le_refl _) _).alloc (by simp) _).alloc (by simp; omega) _
  have hx2 := tSdS.later hx hb
  go_enter Tryz.func98, Tryz.ntmps98
  go_wp2_with (go_at_call 128; refine (nf_to_SdS_ _ _ _ _ _ hx2 hn).mono ?_; rintro e w2 ⟨A2, n2, c2, rfl, own2, bel2⟩; have q10 : w2.cell? ⟨w.heap.size + 1, 0, none⟩ = some (.string ⟨#[]⟩) := (by rw [bel2.cell (by first | omega | (simp; done) | (simp; omega))]; simp [go_sem]); have r10 : w2.frozen? ⟨w.heap.size + 1, 0, none⟩ = false := (by rw [bel2.frozen (by first | omega | (simp; done) | (simp; omega))]; simp [go_sem]); have q20 : w2.cell? ⟨w.heap.size + 1 + 1, 0, none⟩ = some (.string s) := (by rw [bel2.cell (by first | omega | (simp; done) | (simp; omega))]; simp [go_sem]); have r20 : w2.frozen? ⟨w.heap.size + 1 + 1, 0, none⟩ = false := (by rw [bel2.frozen (by first | omega | (simp; done) | (simp; omega))]; simp [go_sem]); have q11 : w2.cell? ⟨w.heap.size + 1, 1, none⟩ = some (.int .i64 0) := (by rw [bel2.cell (by first | omega | (simp; done) | (simp; omega))]; simp [go_sem]); have r11 : w2.frozen? ⟨w.heap.size + 1, 1, none⟩ = false := (by rw [bel2.frozen (by first | omega | (simp; done) | (simp; omega))]; simp [go_sem]); have q21 : w2.cell? ⟨w.heap.size + 1 + 1, 1, none⟩ = some (.int .i64 l0) := (by rw [bel2.cell (by first | omega | (simp; done) | (simp; omega))]; simp [go_sem]); have r21 : w2.frozen? ⟨w.heap.size + 1 + 1, 1, none⟩ = false := (by rw [bel2.frozen (by first | omega | (simp; done) | (simp; omega))]; simp [go_sem]); have q12 : w2.cell? ⟨w.heap.size + 1, 2, none⟩ = some (.slice none 0 0) := (by rw [bel2.cell (by first | omega | (simp; done) | (simp; omega))]; simp [go_sem]); have r12 : w2.frozen? ⟨w.heap.size + 1, 2, none⟩ = false := (by rw [bel2.frozen (by first | omega | (simp; done) | (simp; omega))]; simp [go_sem]); have q22 : w2.cell? ⟨w.heap.size + 1 + 1, 2, none⟩ = some (.slice none 0 0) := (by rw [bel2.cell (by first | omega | (simp; done) | (simp; omega))]; simp [go_sem]); have r22 : w2.frozen? ⟨w.heap.size + 1 + 1, 2, none⟩ = false := (by rw [bel2.frozen (by first | omega | (simp; done) | (simp; omega))]; simp [go_sem]); have hs2 : w.heap.size + 1 + 1 + 1 ≤ w2.heap.size := (by have := bel2.size; simpa using this))
  have m1 : Mid (w.heap.size + 1) (w.heap.size + 1 + 1 + 1) w2 ((((w2.setCell ⟨w.heap.size + 1 + 1, 2, none⟩ (Value.slice A2 n2 c2)).setCell ⟨w.heap.size + 1, 0, none⟩ (.string s)).setCell ⟨w.heap.size + 1, 1, none⟩ (.int .i64 l0)).setCell ⟨w.heap.size + 1, 2, none⟩ (Value.slice A2 n2 c2)) :=
    (((Mid.of_grown (grown_setCell w2 (w.heap.size + 1 + 1) 2 _) fun k hk => by injection hk with hk; omega).trans (Mid.of_grown (grown_setCell _ (w.heap.size + 1) 0 _) fun k hk => by injection hk with hk; omega)).trans (Mid.of_grown (grown_setCell _ (w.heap.size + 1) 1 _) fun k hk => by injection hk with hk; omega)).trans (Mid.of_grown (grown_setCell _ (w.heap.size + 1) 2 _) fun k hk => by injection hk with hk; omega)
  refine bodyPost_ret (v := .agg #[.string s, .int .i64 l0, .slice A2 n2 c2]) (by simp [results, Tryz.results98, go_sem, q10, r10, q20, r20, q11, r11, q21, r21, q12, r12, q22, r22]) rfl ?_
  refine ⟨_, _, _, rfl, ?_, ?_⟩
  · exact tSdS.oiv (tSdS.omid own2 m1 (.inr (by simp)) (Nat.le_refl _)) (by simp; omega) m1.size
  · exact (hb.trans (bel2.mono hb.size)).trans ((m1.toBelow (by omega)).mono (by omega))
theorem nf_to_M_ (A : Option Addr) (n c : Nat) (xs : List Strip) (w : World) (hx : tM.R w w.heap.size [.slice A n c] xs) (hn : hM.sz xs ≤ 100000000) :
    Calls Tryz.prog 60 #[.slice A n c] w fun e w' => ∃ A' n' c', e = .returned (.slice A' n' c') ∧ tM.O w' (Iv w.heap.size w'.heap.size) [.slice A' n' c'] xs ∧ Below w.heap.size w w' := by
  have hr := sl_R.1 hx
  obtain rfl : xs.length = n := hr.cap.1
  have hn1 : xs.length + hSt.szL xs ≤ 100000000 := hn
  clear hx hn
  go_enter Tryz.func60, Tryz.ntmps60
  go_wp2_with (at_make; refine wpList_mk ei_st rfl _ _ rfl xs.length _ _ rfl rfl rfl rfl (by omega) (by unfold maxLen; omega) ?_; intro w1 own1 bel1)
  have hs1 : w.heap.size + 1 ≤ w1.heap.size := (World.ownsRow.lt own1 _ rfl).2
  have own2 : OS tSt 102 w1 (Iv w.heap.size w1.heap.size) (.slice (some ⟨w.heap.size, 0, none⟩) xs.length xs.length) (List.replicate xs.length (⟨#[]⟩, 0, [])) :=
    OS.made (t := tSt) (zc := [.string ⟨#[]⟩, .int .i64 0, .slice none 0 0]) st_zero rfl ⟨Nat.le_refl _, by omega⟩ own1
  clear own1
  go_loopw [4] (fun i wr => ∃ k : Nat, i = .int .i64 k ∧ k ≤ xs.length ∧ OS tSt 102 wr (Iv w.heap.size wr.heap.size) (.slice (some ⟨w.heap.size, 0, none⟩) xs.length xs.length) (xs.take k ++ (List.replicate xs.length (⟨#[]⟩, 0, [])).drop k) ∧ w.heap.size + 1 ≤ wr.heap.size ∧ Below w.heap.size w wr)
    (fun i _ => xs.length - (intOf i).toNat)
  case atStart => exact ⟨0, rfl, by omega, by simpa using own2, hs1, bel1⟩
  case round =>
    obtain ⟨k, rfl, hk, own, hsz, hb⟩ := hrel
    by_cases hlt : k < xs.length
    · have hX := Lib.hid (List.getElem?_eq_getElem hlt)
      obtain ⟨b, o, c1, cs, hv, hab, -, hE, hc⟩ := (hr.below hb).atX hX.out
      simp only [Value.slice.injEq] at hv
      obtain ⟨rfl, -, rfl⟩ := hv
      have hU := hSt.szL_at hX.out
      generalize xs[k] = x at hX hE hU
      obtain ⟨s, l0, ys⟩ := x
      rw [hSt_sz] at hU
      obtain ⟨A1, n1, c1, rfl, hs, hE⟩ := st_R.1 hE
      have hc0 : wr.cell? ⟨b, o + k * 3, none⟩ = some (.string s) := hc 0 _ rfl
      have hc1 : wr.cell? ⟨b, o + k * 3 + 1, none⟩ = some (.int .i64 l0) := hc 1 _ rfl
      have hc2 : wr.cell? ⟨b, o + k * 3 + 2, none⟩ = some (.slice A1 n1 c1) := hc 2 _ rfl
      have hF := tSdS.more hb.size hE
      have hz := hSdS_sz ys
      have hz2 : hSdS.sz ys ≤ 100000000 := by omega
      clear hc hz
      have hD := Lib.hid (show (xs.take k ++ (List.replicate xs.length ((⟨#[]⟩, 0, []) : Strip)).drop k)[k]? = some (⟨#[]⟩, 0, []) by rw [M.mid_at (by rw [List.length_replicate])]; simp [hlt])
      go_wp2_with (go_at_call 98; refine (nf_to_St _ _ _ _ _ _ _ hF hz2).mono ?_; rintro e w2 ⟨A2, n2, c2, rfl, o2, bel2⟩; have own' := own.below bel2 (Nat.le_refl _); obtain ⟨css, Fs, hole, cs, hcs, hE⟩ := own'.openAt hD.out; obtain ⟨A0, n0, c0, rfl, -, -⟩ := st_O.1 hE; have q0 := (hole.cell hcs (j := 0) rfl).1; have r0 := (hole.cell hcs (j := 0) rfl).2; have q1 := (hole.cell hcs (j := 1) rfl).1; have r1 := (hole.cell hcs (j := 1) rfl).2; have q2 := (hole.cell hcs (j := 2) rfl).1; have r2 := (hole.cell hcs (j := 2) rfl).2; have z2 := bel2.size; change w2.cell? ⟨w.heap.size, k * 3 + 0, none⟩ = _ at q0; change w2.frozen? ⟨w.heap.size, k * 3 + 0, none⟩ = _ at r0; change w2.cell? ⟨w.heap.size, k * 3 + 1, none⟩ = _ at q1; change w2.frozen? ⟨w.heap.size, k * 3 + 1, none⟩ = _ at r1; change w2.cell? ⟨w.heap.size, k * 3 + 2, none⟩ = _ at q2; change w2.frozen? ⟨w.heap.size, k * 3 + 2, none⟩ = _ at r2; rw [Nat.add_zero] at q0 r0)
      go_roundw
      case rel =>
        have s0 := hole.set hcs 0 (by decide) (.string s)
        have s1 := s0.1.set s0.2 1 (by decide) (.int .i64 l0)
        have s2 := s1.1.set s1.2 2 (by decide) (.slice A2 n2 c2)
        have o3 := tSdS.oset (g := w.heap.size) (o := k * 3 + 2) (u := .slice A2 n2 c2) (tSdS.oset (g := w.heap.size) (o := k * 3 + 1) (u := .int .i64 l0) (tSdS.oset (g := w.heap.size) (o := k * 3 + 0) (u := .string s) o2 (.inl (by omega))) (.inl (by omega))) (.inl (by omega))
        have h3 := s2.1.fill' s2.2 (y := (s, l0, ys)) (Fe := Iv wr.heap.size w2.heap.size) (st_O.2 ⟨A2, n2, c2, rfl, hs, o3⟩) (fun b h1 h2 => by have := h1.1; have := h2.2; omega)
        rw [M.set_mid (by rw [List.length_replicate]) hX.out] at h3
        have hb2 := hb.trans (bel2.mono hb.size)
        exact ⟨k + 1, by go_num, by omega, h3.wide (fun b hb => ⟨by unfold Iv at hb; omega, by simp; unfold Iv at hb; omega⟩), by simp; omega, ((hb2.setCell (Nat.le_refl _) _).setCell (Nat.le_refl _) _).setCell (Nat.le_refl _) _⟩
      case measure => simp [intOf]; omega
    · go_wp2
      go_ret
      rw [List.take_of_length_le (by omega), List.drop_eq_nil_of_le (by simp; omega), List.append_nil] at own
      exact ⟨_, _, _, rfl, sl_O.2 own, hb⟩
theorem nf_eq_St (s : ByteArray) (l0 : Int) (A A' : Option Addr) (n c n' c' : Nat) (xs : List (Int × Int)) (w : World) (hx : tSdS.R w w.heap.size [.slice A n c] xs) (hy : tSdS.R w w.heap.size [.slice A' n' c'] xs) (hn : hSdS.sz xs ≤ 100000000) :
    Calls Tryz.prog 109 #[.agg #[.string s, .int .i64 l0, .slice A n c], .agg #[.string s, .int .i64 l0, .slice A' n' c']] w fun e w' => e = .returned (.bool true) ∧ Below w.heap.size w w' := by
  have hb : Below w.heap.size w ((w.alloc (.cells #[.string s, .int .i64 l0, .slice A n c] 102)).alloc (.cells #[.string s, .int .i64 l0, .slice A' n' c'] 102)) := ((Below.refl _ _).alloc (Nat.le_refl _) _).alloc (by simp) _
  have hx2 := tSdS.later hx hb
  have hy2 := tSdS.later hy hb
  go_enter Tryz.func109, Tryz.ntmps109
  go_wp2_with (go_at_call 138; refine (nf_eq_SdS_ _ _ _ _ _ _ _ _ hx2 hy2 hn).mono ?_; rintro e w2 ⟨rfl, bel2⟩)
  go_ret
  exact ⟨rfl, hb.trans (bel2.mono hb.size)⟩
theorem nf_eq_M_ (A A' : Option Addr) (n c n' c' : Nat) (xs : List Strip) (w : World) (hx : tM.R w w.heap.size [.slice A n c] xs) (hy : tM.R w w.heap.size [.slice A' n' c'] xs) (hn : hM.sz xs ≤ 100000000) :
    Calls Tryz.prog 73 #[.slice A n c, .slice A' n' c'] w fun e w' => e = .returned (.bool true) ∧ Below w.heap.size w w' := by
  have hr := sl_R.1 hx
  have hr' := sl_R.1 hy
  obtain rfl : xs.length = n := hr.cap.1
  obtain rfl : xs.length = n' := hr'.cap.1
  have hn1 : xs.length + hSt.szL xs ≤ 100000000 := hn
  clear hx hy hn
  go_enter Tryz.func73, Tryz.ntmps73
  go_wp2
  go_loopw [5] (fun i wr => ∃ k : Nat, i = .int .i64 k ∧ k ≤ xs.length ∧ Below w.heap.size w wr) (fun i _ => xs.length - (intOf i).toNat)
  case atStart => exact ⟨0, rfl, by omega, Below.refl _ _⟩
  case round =>
    obtain ⟨k, rfl, hk, hb⟩ := hrel
    by_cases hlt : k < xs.length
    · have hX := Lib.hid (List.getElem?_eq_getElem hlt)
      obtain ⟨b, o, c1, cs, hv, hab, -, hE, hc⟩ := (hr.below hb).atX hX.out
      obtain ⟨b', o', c1', cs', hv', hab', -, hE', hc'⟩ := (hr'.below hb).atX hX.out
      simp only [Value.slice.injEq] at hv hv'
      obtain ⟨rfl, -, rfl⟩ := hv
      obtain ⟨rfl, -, rfl⟩ := hv'
      have hU := hSt.szL_at hX.out
      generalize xs[k] = x at hX hE hE' hU
      obtain ⟨s, l0, ys⟩ := x
      rw [hSt_sz] at hU
      obtain ⟨A1, n1, c1, rfl, hs, hE⟩ := st_R.1 hE
      obtain ⟨A2, n2, c2, rfl, -, hE'⟩ := st_R.1 hE'
      have hc0 : wr.cell? ⟨b, o + k * 3, none⟩ = some (.string s) := hc 0 _ rfl
      have hc1 : wr.cell? ⟨b, o + k * 3 + 1, none⟩ = some (.int .i64 l0) := hc 1 _ rfl
      have hc2 : wr.cell? ⟨b, o + k * 3 + 2, none⟩ = some (.slice A1 n1 c1) := hc 2 _ rfl
      have hd0 : wr.cell? ⟨b', o' + k * 3, none⟩ = some (.string s) := hc' 0 _ rfl
      have hd1 : wr.cell? ⟨b', o' + k * 3 + 1, none⟩ = some (.int .i64 l0) := hc' 1 _ rfl
      have hd2 : wr.cell? ⟨b', o' + k * 3 + 2, none⟩ = some (.slice A2 n2 c2) := hc' 2 _ rfl
      have hbr : b < wr.heap.size := Nat.lt_of_lt_of_le hab hb.size
      have hbr' : b' < wr.heap.size := Nat.lt_of_lt_of_le hab' hb.size
      have hz := hSdS_sz ys
      have hz2 : hSdS.sz ys ≤ 100000000 := by omega
      have hF := tSdS.later (tSdS.more hb.size hE) (below_drewN (Below.refl _ _) 1)
      have hF' := tSdS.later (tSdS.more hb.size hE') (below_drewN (Below.refl _ _) 1)
      clear hc hc' hE hE' hz
      go_wp2
      go_region_held3 (fun w' => Below wr.heap.size wr w' ∧ w'.cell? ⟨b, o + k * 3, none⟩ = some (.string s) ∧ w'.cell? ⟨b, o + k * 3 + 1, none⟩ = some (.int .i64 l0) ∧ w'.cell? ⟨b, o + k * 3 + 2, none⟩ = some (.slice A1 n1 c1) ∧ w'.cell? ⟨b', o' + k * 3, none⟩ = some (.string s) ∧ w'.cell? ⟨b', o' + k * 3 + 1, none⟩ = some (.int .i64 l0) ∧ w'.cell? ⟨b', o' + k * 3 + 2, none⟩ = some (.slice A2 n2 c2))
        (first
          | exact ⟨below_drewN (Below.refl _ _) _, hc0, hc1, hc2, hd0, hd1, hd2⟩
          | exact ⟨keptB_all bel2 rfl (And.left (by assumption)), keptB bel2 rfl (And.left (by assumption)) hc0 hbr, keptB bel2 rfl (And.left (by assumption)) hc1 hbr, keptB bel2 rfl (And.left (by assumption)) hc2 hbr, keptB bel2 rfl (And.left (by assumption)) hd0 hbr', keptB bel2 rfl (And.left (by assumption)) hd1 hbr', keptB bel2 rfl (And.left (by assumption)) hd2 hbr'⟩)
        (first | (go_at_call 109; refine (nf_eq_St _ _ _ _ _ _ _ _ _ _ hF hF' hz2).mono ?_; rintro e w2 ⟨rfl, bel2⟩))
      go_wp2
      go_roundw
      case rel => exact ⟨k + 1, by go_num, by omega, hb.trans ((keptB_all bel2 rfl (below_drewN (Below.refl _ _) _)).mono hb.size)⟩
      case measure => simp [intOf]; omega
    · go_wp2
      go_ret
      exact ⟨rfl, hb⟩
end Go.Proofs.YtacgcagpaecncaaGreat
namespace Go.Proofs.YtacgcagpaecncaaGreat
open Go.RowKit
set_option maxHeartbeats 2000000
set_option maxRecDepth 100000
theorem nf_sz_M (A : Option Addr) (n c : Nat) (xs : List Strip) (l : Int) (w : World) (hx : tM.R w w.heap.size [.slice A n c] xs) (hl : 0 ≤ l ∧ l ≤ 1000000000) :
    Calls Tryz.prog 24 #[.agg #[.slice A n c], .int .i64 l] w fun e w' => e = .returned (.int .i64 (if (hM.sz xs : Int) ≤ l then l - hM.sz xs else -1)) ∧ Below w.heap.size w w' := by
  have hb : Below w.heap.size w (w.alloc (.cells #[.slice A n c] 28)) := (Below.refl _ _).alloc (Nat.le_refl _) _
  have hx2 := tM.later hx hb
  by_cases h : (hM.sz xs : Int) ≤ l
  · have hi := Lib.hid (show (if (hM.sz xs : Int) ≤ l then l - hM.sz xs else -1) = l - hM.sz xs by rw [if_pos h])
    go_enter Tryz.func24, Tryz.ntmps24
    go_wp2_with (go_at_call 52; refine (nf_sz_M_ _ _ _ _ _ _ hx2 hl).mono ?_; rw [hi.out]; rintro e w2 ⟨rfl, bel2⟩)
    go_ret
    exact ⟨hi.out ▸ rfl, hb.trans (bel2.mono hb.size)⟩
  · have hi := Lib.hid (show (if (hM.sz xs : Int) ≤ l then l - hM.sz xs else -1) = -1 by rw [if_neg h])
    go_enter Tryz.func24, Tryz.ntmps24
    go_wp2_with (go_at_call 52; refine (nf_sz_M_ _ _ _ _ _ _ hx2 hl).mono ?_; rw [hi.out]; rintro e w2 ⟨rfl, bel2⟩)
    go_ret
    exact ⟨hi.out ▸ rfl, hb.trans (bel2.mono hb.size)⟩
theorem nf_to_M (A : Option Addr) (n c : Nat) (xs : List Strip) (w : World) (hx : tM.R w w.heap.size [.slice A n c] xs) (hn : hM.sz xs ≤ 100000000) :
    Calls Tryz.prog 29 #[.agg #[.slice A n c]] w fun e w' => ∃ A' n' c', e = .returned (.agg #[.slice A' n' c']) ∧ tM.O w' (Iv w.heap.size w'.heap.size) [.slice A' n' c'] xs ∧ Below w.heap.size w w' := by
  have hb : Below w.heap.size w (((w.alloc (.cells #[.slice A n c] 28)).alloc (.cells #[.slice none 0 0] 37)).alloc (.cells #[.slice none 0 0] 37)) := (((Below.refl _ _).alloc (Nat.le_refl _) _).alloc (by simp) _).alloc (by simp; omega) _
  have hx2 := tM.later hx hb
  go_enter Tryz.func29, Tryz.ntmps29
  go_wp2_with (go_at_call 60; refine (nf_to_M_ _ _ _ _ _ hx2 hn).mono ?_; rintro e w2 ⟨A2, n2, c2, rfl, own2, bel2⟩; have q1 : w2.cell? ⟨w.heap.size + 1, 0, none⟩ = some (.slice none 0 0) := (by rw [bel2.cell (by first | omega | (simp; done) | (simp; omega))]; simp [go_sem]); have r1 : w2.frozen? ⟨w.heap.size + 1, 0, none⟩ = false := (by rw [bel2.frozen (by first | omega | (simp; done) | (simp; omega))]; simp [go_sem]); have q2 : w2.cell? ⟨w.heap.size + 1 + 1, 0, none⟩ = some (.slice none 0 0) := (by rw [bel2.cell (by simp)]; simp [go_sem]); have r2 : w2.frozen? ⟨w.heap.size + 1 + 1, 0, none⟩ = false := (by rw [bel2.frozen (by simp)]; simp [go_sem]); have hs : w.heap.size + 1 + 1 + 1 ≤ w2.heap.size := (by have := bel2.size; simpa using this))
  have m1 : Mid (w.heap.size + 1) (w.heap.size + 1 + 1 + 1) w2 ((w2.setCell ⟨w.heap.size + 1 + 1, 0, none⟩ (Value.slice A2 n2 c2)).setCell ⟨w.heap.size + 1, 0, none⟩ (Value.slice A2 n2 c2)) :=
    (Mid.of_grown (grown_setCell w2 (w.heap.size + 1 + 1) 0 _) fun k hk => by injection hk with hk; omega).trans (Mid.of_grown (grown_setCell _ (w.heap.size + 1) 0 _) fun k hk => by injection hk with hk; omega)
  refine bodyPost_ret (v := .agg #[.slice A2 n2 c2]) (by simp [results, Tryz.results29, go_sem, q1, r1, q2, r2]) rfl ?_
  refine ⟨_, _, _, rfl, ?_, ?_⟩
  · exact tM.oiv (tM.omid own2 m1 (.inr (by simp)) (Nat.le_refl _)) (by simp; omega) m1.size
  · exact (hb.trans (bel2.mono hb.size)).trans ((m1.toBelow (by omega)).mono (by omega))
theorem nf_eq_M (A A' : Option Addr) (n c n' c' : Nat) (xs : List Strip) (w : World) (hx : tM.R w w.heap.size [.slice A n c] xs) (hy : tM.R w w.heap.size [.slice A' n' c'] xs) (hn : hM.sz xs ≤ 100000000) :
    Calls Tryz.prog 34 #[.agg #[.slice A n c], .agg #[.slice A' n' c']] w fun e w' => e = .returned (.bool true) ∧ Below w.heap.size w w' := by
  have hb : Below w.heap.size w ((w.alloc (.cells #[.slice A n c] 37)).alloc (.cells #[.slice A' n' c'] 37)) := ((Below.refl _ _).alloc (Nat.le_refl _) _).alloc (by simp) _
  have hx2 := tM.later hx hb
  have hy2 := tM.later hy hb
  go_enter Tryz.func34, Tryz.ntmps34
  go_wp2_with (go_at_call 73; refine (nf_eq_M_ _ _ _ _ _ _ _ _ hx2 hy2 hn).mono ?_; rintro e w2 ⟨rfl, bel2⟩)
  go_ret
  exact ⟨rfl, hb.trans (bel2.mono hb.size)⟩
theorem cl_M (x : List Strip) : hM.cnt x ≤ 10 * hM.sz x + 10 := by
  have key : hSt.cntL x ≤ 2 * (x.length + hSt.szL x) := by
    induction x with
    | nil => simp [Hs.cntL]
    | cons y ys ih =>
      obtain ⟨s, l, zs⟩ := y
      rw [Hs.cntL, Hs.szL, hSt_cnt, hSt_sz, List.length_cons]
      omega
  show hSt.cntL x ≤ 10 * (x.length + hSt.szL x) + 10
  omega
theorem M.digs_step {j : Nat} (h : 0 < j) : M.digs j = M.digs (j / 10) ++ [UInt8.ofNat (48 + j % 10)] := by rw [M.digs, if_neg (by omega)]
theorem conv_one (j : Nat) (wr : World) : (convert 171 9 (.slice (some ⟨wr.heap.size, 0, none⟩) 1 1)).run Tryz.prog (wr.alloc (.cells #[.int .u8 (48 + (j : Int) % 10)] 5)) = .ok (.string ⟨[UInt8.ofNat (48 + j % 10)].toArray⟩) (wr.alloc (.cells #[.int .u8 (48 + (j : Int) % 10)] 5)) := by
  refine run_convert_bytes_back _ _ _ 5 ⟨wr.heap.size, 0, none⟩ 1 [UInt8.ofNat (48 + j % 10)] Tryz.underlying171 Tryz.underlying5 Tryz.underlying9 ?_
  intro i hi
  obtain rfl : i = 0 := by simpa using hi
  have e0 : (⟨wr.heap.size, 0, none⟩ : Addr).add 0 = ⟨wr.heap.size, 0, none⟩ := rfl
  rw [e0, cell_of_row _ wr.heap.size 0 _ 5 (0, 0) (heap_alloc_new wr _)]
  simp
  omega
theorem bytes_app (a b : ByteArray) : (a ++ b).data.toList = a.data.toList ++ b.data.toList := by simp
theorem M.digs_next {j : Nat} {s : ByteArray} {D : List UInt8} (h : 0 < j) (H : M.digs j ++ s.data.toList = D) : M.digs (j / 10) ++ ((⟨#[48 + UInt8.ofNat (j % 10)]⟩ : ByteArray) ++ s).data.toList = D := by
  rw [M.digs_step h, List.append_assoc] at H
  rw [bytes_app, ← H, UInt8.ofNat_add]
  rfl
theorem M.mark_end {k : Nat} {s : ByteArray} (H : M.digs 0 ++ s.data.toList = M.digs k) : (⟨#[109]⟩ ++ s : ByteArray) = ⟨(109 :: M.digs k).toArray⟩ := by
  rw [← H]
  apply ByteArray.ext
  apply Array.toList_inj.1
  rw [bytes_app, show M.digs 0 = [] by rw [M.digs]; rfl]
  rfl
theorem laws_markText (k : Nat) (w : World) (hk : k ≤ 1000000000) :
    Calls Tryz.prog 115 #[.int .i64 k] w fun e w' => e = .returned (.string (M.markT k)) ∧ Below w.heap.size w w' := by
  by_cases h0 : k = 0
  · subst h0
    go_enter Tryz.func115, Tryz.ntmps115
    go_wp2
    go_ret
    exact ⟨rfl, Below.refl _ _⟩
  have hR := Lib.hid (show M.markT (k : Int) = ⟨(109 :: M.digs k).toArray⟩ by rw [M.markT, if_neg (by omega), Int.toNat_natCast])
  have hL := M.digs_len k
  have HL := Lib.hid (show (M.digs k).length ≤ 1000000000 by omega)
  clear hL
  go_enter Tryz.func115, Tryz.ntmps115
  go_wp2
  go_loopw [0, 3] (fun i v wr => ∃ (j : Nat) (s : ByteArray), i = .int .i64 j ∧ j ≤ k ∧ v = .string s ∧ Hid (M.digs j ++ s.data.toList = M.digs k) ∧ s.size ≤ 1000000000 ∧ Below w.heap.size w wr) (fun i _ _ => (intOf i).toNat)
  case atStart => exact ⟨k, ⟨#[]⟩, rfl, by omega, rfl, Lib.hid (by simp), Nat.zero_le _, Below.refl _ _⟩
  case round =>
    obtain ⟨j, s, rfl, hj, rfl, H, hs, hb⟩ := hrel
    by_cases hlt : 0 < j
    · have hconv := conv_one j wr
      go_wp2
      go_roundw
      case rel =>
        have h2 := M.digs_next hlt H.out
        have h3 := congrArg List.length h2
        have h4 := HL.out
        rw [List.length_append] at h3
        exact ⟨j / 10, _, by go_num, by omega, rfl, Lib.hid h2, by show ((⟨#[48 + UInt8.ofNat (j % 10)]⟩ : ByteArray) ++ s).data.size ≤ _; rw [← Array.length_toList]; omega, hb.alloc hb.size _⟩
      case measure => simp [intOf]; omega
    · obtain rfl : j = 0 := by omega
      go_wp2
      go_ret
      exact ⟨by rw [hR.out, ← M.mark_end H.out]; rfl, hb⟩
theorem nf_mark_M_ (A : Option Addr) (n c : Nat) (k : Int) (xs : List Strip) (w : World) (F : Nat → Prop) (hx : tM.O w F [.slice A n c] xs) (hk : 0 ≤ k ∧ k + (hM.cnt xs : Int) ≤ 1000000000) :
    Calls Tryz.prog 84 #[.slice A n c, .int .i64 k] w fun e w' => e = .returned (.int .i64 (k + hM.cnt xs)) ∧ tM.O w' F [.slice A n c] (hM.mark k xs) ∧ Chg F w w' := by
  have ow := sl_O.1 hx
  have hcap := ow.read.cap
  obtain rfl : xs.length = n := hcap.1
  have hl : xs.length ≤ 9223372036854775807 := by have h1 := hcap.2; unfold maxLen at h1; omega
  clear hcap
  have hcn : k + (hSt.cntL xs : Int) ≤ 1000000000 := hk.2
  obtain ⟨k, rfl⟩ : ∃ q : Nat, k = q := ⟨k.toNat, by omega⟩
  clear hx
  go_enter Tryz.func84, Tryz.ntmps84
  go_wp2
  go_loopw [1, 5] (fun q i wr => ∃ j : Nat, i = .int .i64 j ∧ j ≤ xs.length ∧ q = .int .i64 ((k : Int) + (hSt.cntL (xs.take j) : Int)) ∧ OS tSt 102 wr F (.slice A xs.length c) ((hSt.mkL k xs).take j ++ xs.drop j) ∧ Chg F w wr)
    (fun _ i _ => xs.length - (intOf i).toNat)
  case atStart => exact ⟨0, rfl, by omega, by simp [Hs.cntL], by simpa using ow, Chg.refl _ _⟩
  case round =>
    obtain ⟨j, rfl, hj, rfl, own, hg⟩ := hrel
    by_cases hlt : j < xs.length
    · have hml := Lib.hid (hSt.mkL_len k xs)
      have hX := Lib.hid (List.getElem?_eq_getElem hlt)
      have hc1 := hSt.cntL_at hX.out
      have hct2 := Lib.hid (hSt.cntL_take hX.out)
      have hmk := Lib.hid (hSt.mkL_at k hX.out)
      generalize xs[j] = x at hX hc1 hct2 hmk
      obtain ⟨s, l0, ys⟩ := x
      rw [hSt_cnt] at hc1
      have hyj := Lib.hid (show ((hSt.mkL k xs).take j ++ xs.drop j)[j]? = some (s, l0, ys) by rw [M.mid_at hml.out]; exact hX.out)
      have hz := hSdS_cnt ys
      have hmt := laws_markText (k + hSt.cntL (xs.take j)) wr (by omega)
      rw [Int.natCast_add] at hmt
      have hms := Lib.hid (M.markT_size ((k : Int) + (hSt.cntL (xs.take j) : Int)))
      go_wp2_with (first | (go_at_call 115; refine hmt.mono ?_; clear hmt; rintro e w2 ⟨rfl, bel2⟩; have own2 := (own.real.keep (fun b hb => bel2.block b hb.2)).wide (F' := F) (fun b hb => hb.1); obtain ⟨css, Fs, hole, cs, hcs, hE⟩ := own2.openAt hyj.out; obtain ⟨A0, n0, c0, rfl, -, hE⟩ := st_O.1 hE; obtain ⟨g, rfl, hFg, hFn, hgl, -⟩ := hole.form (List.getElem?_eq_some_iff.1 hyj.out).1; have q0 := (hole.cell hcs (j := 0) rfl).1; have r0 := (hole.cell hcs (j := 0) rfl).2; have q1 := (hole.cell hcs (j := 1) rfl).1; have r1 := (hole.cell hcs (j := 1) rfl).2; have q2 := (hole.cell hcs (j := 2) rfl).1; change w2.cell? ⟨g, j * 3 + 0, none⟩ = _ at q0; change w2.frozen? ⟨g, j * 3 + 0, none⟩ = _ at r0; change w2.cell? ⟨g, j * 3 + 1, none⟩ = _ at q1; change w2.frozen? ⟨g, j * 3 + 1, none⟩ = _ at r1; change w2.cell? ⟨g, j * 3 + 2, none⟩ = _ at q2; rw [Nat.add_zero] at q0 r0) | (go_at_call 116; refine (nf_mark_SdS_ _ _ _ _ _ _ (Fs j) (tSdS.okeep (fun b hb => (heap_setCell_other _ ⟨g, j * 3 + 1, none⟩ b _ (fun e => hFn (by simp only at e; rw [← e]; exact hb))).trans (heap_setCell_other w2 ⟨g, j * 3, none⟩ b _ (fun e => hFn (by simp only at e; rw [← e]; exact hb)))) hE) (by omega)).mono ?_; rintro e w3 ⟨rfl, o3, ch3⟩))
      go_roundw
      case rel =>
        have s0 := hole.set hcs 0 (by decide) (.string (M.markT ((k : Int) + (hSt.cntL (xs.take j) : Int))))
        have s1 := s0.1.set s0.2 1 (by decide) (.int .i64 ((k : Int) + (hSt.cntL (xs.take j) : Int) + 1))
        have h3 := (s1.1.chg ch3).fill s1.2 (y := (M.markT ((k : Int) + (hSt.cntL (xs.take j) : Int)), (k : Int) + (hSt.cntL (xs.take j) : Int) + 1, hSdS.mark ((k : Int) + (hSt.cntL (xs.take j) : Int) + 1 + 1) ys)) (st_O.2 ⟨A0, n0, c0, rfl, by have := hms.out; unfold maxLen; omega, o3⟩)
        have hmk2 : (hSt.mkL k xs)[j]? = some (M.markT ((k : Int) + (hSt.cntL (xs.take j) : Int)), (k : Int) + (hSt.cntL (xs.take j) : Int) + 1, hSdS.mark ((k : Int) + (hSt.cntL (xs.take j) : Int) + 1 + 1) ys) := hmk.out
        rw [M.set_mid hml.out hmk2] at h3
        exact ⟨j + 1, by go_num, by omega, by rw [hct2.out, hSt_cnt]; go_num, h3, ((hg.trans (Chg.of_below bel2 F)).trans ((Chg.set w2 g (j * 3) _ hFg).trans (Chg.set _ g (j * 3 + 1) _ hFg))).trans (ch3.wide hole.fits)⟩
      case measure => simp [intOf]; omega
    · obtain rfl : xs.length = j := by omega
      go_wp2
      go_ret
      rw [List.take_of_length_le (by rw [Hs.mkL_len]; omega), List.drop_eq_nil_of_le (by omega), List.append_nil] at own
      exact ⟨by rw [List.take_of_length_le (Nat.le_refl _)]; rfl, sl_O.2 own, hg⟩
theorem nf_mark_M (A : Option Addr) (n c : Nat) (k : Int) (xs : List Strip) (w : World) (F : Nat → Prop) (hx : tM.O w F [.slice A n c] xs) (hF : ∀ b, F b → b < w.heap.size) (hk : 0 ≤ k ∧ k + (hM.cnt xs : Int) ≤ 1000000000) :
    Calls Tryz.prog 44 #[.agg #[.slice A n c], .int .i64 k] w fun e w' => e = .returned (.int .i64 (k + hM.cnt xs)) ∧ tM.O w' F [.slice A n c] (hM.mark k xs) ∧ Chg F w w' := by
  have hb : Below w.heap.size w (w.alloc (.cells #[.slice A n c] 37)) := (Below.refl _ _).alloc (Nat.le_refl _) _
  have hx2 : tM.O (w.alloc (.cells #[.slice A n c] 37)) F [.slice A n c] xs := tM.okeep (fun b h => hb.block b (hF b h)) hx
  go_enter Tryz.func44, Tryz.ntmps44
  go_wp2_with (go_at_call 84; refine (nf_mark_M_ _ _ _ _ _ _ _ hx2 hk).mono ?_; rintro e w2 ⟨rfl, own2, m2⟩)
  go_ret
  exact ⟨rfl, own2, (Chg.of_below hb _).trans m2⟩
end Go.Proofs.YtacgcagpaecncaaGreat
namespace Go.Proofs.YtacgcagpaecncaaGreat
open Go.RowKit
set_option maxHeartbeats 4000000
set_option maxRecDepth 100000
theorem tSdS_ra {w : World} {B : Nat} {A : Option Addr} {n c : Nat} {xs : List (Int × Int)} (h : tSdS.R w B [.slice A n c] xs) : RA sd 2 w B A n xs ∧ n ≤ c ∧ c ≤ maxLen := (sl_R.1 h).flat
theorem str_ne {s t : ByteArray} (h : ¬ s = t) : ¬ s.toList = t.toList := fun e => h (by
  rw [Lib.toList_data, Lib.toList_data] at e
  exact ByteArray.ext (Array.toList_inj.1 e))
theorem same_no {s s' : ByteArray} {l l' : Int} {xs ys : List (Int × Int)} (h : ¬ (s = s' ∧ l = l' ∧ xs = ys)) : decide (((s, l, xs) : Strip) = (s', l', ys)) = false := by
  rw [decide_eq_false_iff_not]
  intro e
  simp only [Prod.mk.injEq] at e
  exact h e
end Go.Proofs.YtacgcagpaecncaaGreat
namespace Go.Proofs.YtacgcagpaecncaaGreat
open Go.RowKit
set_option maxHeartbeats 4000000
set_option maxRecDepth 100000
end Go.Proofs.YtacgcagpaecncaaGreat
