import Derived.Test.YtckihflfjecpbaaFnSplitG2
import Derived.Deep.RegionLaw
import Derived.Lib.SliceRun
set_option linter.unusedVariables false
set_option linter.unusedSimpArgs false
namespace Go.Proofs.Ytckihflfjecpbaa
open Go.RowKit Go.Sort
set_option maxHeartbeats 1000000
set_option maxRecDepth 100000
abbrev Clip := Int × Int × Int × Int × Int
def M.clipOk (p : Clip) : Bool := M.inn p.1 0 5 && M.inn p.2.2.1 1 4000 && M.inn p.2.1 0 (4000 - p.2.2.1) && M.inn p.2.2.2.1 0 (4000 - p.2.2.1) && M.smp p.2.2.2.2
def M.cz : Clip := (0, 0, 0, 0, 0)
def M.afterT (xs : List Clip) (k : Nat) : Bool := k == 0 || decide (((xs[k - 1]?).getD M.cz).2.2.2.1 ≤ ((xs[k]?).getD M.cz).2.2.2.1)
def M.stepT (xs : List Clip) (k : Nat) : Bool := M.clipOk ((xs[k]?).getD M.cz) && M.afterT xs k
def M.trackOk (xs : List Clip) : Bool := (List.range xs.length).all (M.stepT xs) && decide (xs.length ≤ 12)
theorem M.len_wrap {l : Int} (h : M.inn l 1 4000 = true) : IntKind.i64.wrap (4000 - l) = 4000 - l ∧ 1 ≤ l ∧ l ≤ 4000 := by
  have := M.inn_iff.1 h
  exact ⟨IntWalk.i64_in _ (by omega), this⟩
theorem impl_isClip (a b c d e : Int) (w : World) : Calls Try.prog 115 #[.agg #[.int .i64 a, .int .i64 b, .int .i64 c, .int .i64 d, .int .i64 e]] w fun en w' => en = .returned (.bool (M.clipOk (a, b, c, d, e))) ∧ Below w.heap.size w w' := by
  cases h1 : M.inn a 0 5
  · go_enter Try.func115, Try.ntmps115
    go_wp2_with (first | (go_at_call 81; refine (impl_within _ _ _ _).mono ?_; rintro e w' ⟨rfl, rfl⟩) | (go_at_call 144; refine (impl_isSample _ _).mono ?_; rintro e w' ⟨rfl, rfl⟩))
    go_ret
    exact ⟨ret_bool (by simp [M.clipOk, h1]), (Below.refl _ _).alloc (Nat.le_refl _) _⟩
  · cases h2 : M.inn c 1 4000
    · go_enter Try.func115, Try.ntmps115
      go_wp2_with (first | (go_at_call 81; refine (impl_within _ _ _ _).mono ?_; rintro e w' ⟨rfl, rfl⟩) | (go_at_call 144; refine (impl_isSample _ _).mono ?_; rintro e w' ⟨rfl, rfl⟩))
      go_ret
      exact ⟨ret_bool (by simp [M.clipOk, h1, h2]), (Below.refl _ _).alloc (Nat.le_refl _) _⟩
    · obtain ⟨hw, hl1, hl2⟩ := M.len_wrap h2
      clear hw
      cases h3 : M.inn b 0 (4000 - c)
      · go_enter Try.func115, Try.ntmps115
        go_wp2_with (first | (go_at_call 81; refine (impl_within _ _ _ _).mono ?_; rintro e w' ⟨rfl, rfl⟩) | (go_at_call 144; refine (impl_isSample _ _).mono ?_; rintro e w' ⟨rfl, rfl⟩))
        go_ret
        exact ⟨ret_bool (by simp [M.clipOk, h1, h2, h3]), (Below.refl _ _).alloc (Nat.le_refl _) _⟩
      · cases h4 : M.inn d 0 (4000 - c)
        · go_enter Try.func115, Try.ntmps115
          go_wp2_with (first | (go_at_call 81; refine (impl_within _ _ _ _).mono ?_; rintro e w' ⟨rfl, rfl⟩) | (go_at_call 144; refine (impl_isSample _ _).mono ?_; rintro e w' ⟨rfl, rfl⟩))
          go_ret
          exact ⟨ret_bool (by simp [M.clipOk, h1, h2, h3, h4]), (Below.refl _ _).alloc (Nat.le_refl _) _⟩
        · cases h5 : M.smp e
          all_goals
            go_enter Try.func115, Try.ntmps115
            go_wp2_with (first | (go_at_call 81; refine (impl_within _ _ _ _).mono ?_; rintro e w' ⟨rfl, rfl⟩) | (go_at_call 144; refine (impl_isSample _ _).mono ?_; rintro e w' ⟨rfl, rfl⟩))
            go_ret
            exact ⟨ret_bool (by simp [M.clipOk, h1, h2, h3, h4, h5]), (Below.refl _ _).alloc (Nat.le_refl _) _⟩
theorem spec_l23Clip (b o : Nat) (p : Clip) (w : World) (g0 : w.cell? ⟨b, o, none⟩ = some (.int .i64 p.1)) (g1 : w.cell? ⟨b, o + 1, none⟩ = some (.int .i64 p.2.1)) (g2 : w.cell? ⟨b, o + 2, none⟩ = some (.int .i64 p.2.2.1)) (g3 : w.cell? ⟨b, o + 3, none⟩ = some (.int .i64 p.2.2.2.1)) (g4 : w.cell? ⟨b, o + 4, none⟩ = some (.int .i64 p.2.2.2.2)) :
    Calls Try.prog 142 #[.pointer (some ⟨b, o, none⟩)] w fun en w' => en = .returned (.bool (M.clipOk p)) ∧ ∃ m, w' = w.drewN m := by
  obtain ⟨a, f, l, t, q⟩ := p
  simp only at g0 g1 g2 g3 g4
  cases h1 : M.inn a 0 5
  · go_enter Try.func142, Try.ntmps142
    go_wp2_with (first | (go_at_call 79; refine (spec_l00In _ _ _ _).mono ?_; rintro e w' ⟨rfl, rfl⟩) | (go_at_call 137; refine (spec_l01Sample _ _).mono ?_; rintro e w' ⟨rfl, rfl⟩))
    go_ret
    exact ⟨ret_bool (by simp [M.clipOk, h1]), 0, rfl⟩
  · cases h2 : M.inn l 1 4000
    · go_enter Try.func142, Try.ntmps142
      go_wp2_with (first | (go_at_call 79; refine (spec_l00In _ _ _ _).mono ?_; rintro e w' ⟨rfl, rfl⟩) | (go_at_call 137; refine (spec_l01Sample _ _).mono ?_; rintro e w' ⟨rfl, rfl⟩))
      go_ret
      exact ⟨ret_bool (by simp [M.clipOk, h1, h2]), 0, rfl⟩
    · cases h5 : M.smp q
      · go_enter Try.func142, Try.ntmps142
        go_wp2_with (first | (go_at_call 79; refine (spec_l00In _ _ _ _).mono ?_; rintro e w' ⟨rfl, rfl⟩) | (go_at_call 137; refine (spec_l01Sample _ _).mono ?_; rintro e w' ⟨rfl, rfl⟩))
        go_ret
        exact ⟨ret_bool (by simp [M.clipOk, h1, h2, h5]), 0, rfl⟩
      · obtain ⟨hw, hl1, hl2⟩ := M.len_wrap h2
        have hw0 : (0 : Int) ≤ 4000 - l := by omega
        cases h3 : M.inn f 0 (4000 - l)
        · have c1 : ∀ m, Calls Try.prog 79 #[.int .i64 f, .int .i64 0, .int .i64 (4000 - l)] (w.drewN m) fun e w'' => e = .returned (.bool false) ∧ ∃ m', w'' = w.drewN m' := fun m => quiet_left (by have h := spec_l00In f 0 (4000 - l) (w.drewN m); rw [h3] at h; exact h)
          go_enter Try.func142, Try.ntmps142
          go_wp2_with (first | (go_at_call 79; refine (spec_l00In _ _ _ _).mono ?_; rintro e w' ⟨rfl, rfl⟩) | (go_at_call 137; refine (spec_l01Sample _ _).mono ?_; rintro e w' ⟨rfl, rfl⟩))
          go_quiet (first | (go_at_call_of 79 (Value.int .i64 f); exact c1 _))
          go_wp2
          go_ret
          exact ⟨ret_bool (by simp [M.clipOk, h1, h2, h3, h5]), _, rfl⟩
        · cases h4 : M.inn t 0 (4000 - l)
          · have c1 : ∀ m, Calls Try.prog 79 #[.int .i64 f, .int .i64 0, .int .i64 (4000 - l)] (w.drewN m) fun e w'' => e = .returned (.bool true) ∧ ∃ m', w'' = w.drewN m' := fun m => quiet_left (by have h := spec_l00In f 0 (4000 - l) (w.drewN m); rw [h3] at h; exact h)
            have c2 : ∀ m, Calls Try.prog 79 #[.int .i64 t, .int .i64 0, .int .i64 (4000 - l)] (w.drewN m) fun e w'' => e = .returned (.bool false) ∧ ∃ m', w'' = w.drewN m' := fun m => quiet_left (by have h := spec_l00In t 0 (4000 - l) (w.drewN m); rw [h4] at h; exact h)
            go_enter Try.func142, Try.ntmps142
            go_wp2_with (first | (go_at_call 79; refine (spec_l00In _ _ _ _).mono ?_; rintro e w' ⟨rfl, rfl⟩) | (go_at_call 137; refine (spec_l01Sample _ _).mono ?_; rintro e w' ⟨rfl, rfl⟩))
            go_quiet (first | (go_at_call_of 79 (Value.int .i64 f); exact c1 _) | (go_at_call_of 79 (Value.int .i64 t); exact c2 _))
            go_wp2
            go_ret
            exact ⟨ret_bool (by simp [M.clipOk, h1, h2, h3, h4, h5]), _, rfl⟩
          · have c1 : ∀ m, Calls Try.prog 79 #[.int .i64 f, .int .i64 0, .int .i64 (4000 - l)] (w.drewN m) fun e w'' => e = .returned (.bool true) ∧ ∃ m', w'' = w.drewN m' := fun m => quiet_left (by have h := spec_l00In f 0 (4000 - l) (w.drewN m); rw [h3] at h; exact h)
            have c2 : ∀ m, Calls Try.prog 79 #[.int .i64 t, .int .i64 0, .int .i64 (4000 - l)] (w.drewN m) fun e w'' => e = .returned (.bool true) ∧ ∃ m', w'' = w.drewN m' := fun m => quiet_left (by have h := spec_l00In t 0 (4000 - l) (w.drewN m); rw [h4] at h; exact h)
            go_enter Try.func142, Try.ntmps142
            go_wp2_with (first | (go_at_call 79; refine (spec_l00In _ _ _ _).mono ?_; rintro e w' ⟨rfl, rfl⟩) | (go_at_call 137; refine (spec_l01Sample _ _).mono ?_; rintro e w' ⟨rfl, rfl⟩))
            go_quiet (first | (go_at_call_of 79 (Value.int .i64 f); exact c1 _) | (go_at_call_of 79 (Value.int .i64 t); exact c2 _))
            go_wp2
            go_ret
            exact ⟨ret_bool (by simp [M.clipOk, h1, h2, h3, h4, h5]), _, rfl⟩
theorem impl_isTrack (A : Option Addr) (n c : Nat) (xs : List Clip) (w : World) (hx : RA cl 5 w w.heap.size A n xs) (hn : n ≤ 1000000000) :
    Calls Try.prog 123 #[.agg #[.slice A n c]] w fun e w' => e = .returned (.bool (M.trackOk xs)) ∧ Below w.heap.size w w' := by
  have hl := Lib.hid hx.len
  have hbw : Below w.heap.size w (w.alloc (.cells #[.slice A n c] 65)) := (Below.refl _ _).alloc (Nat.le_refl _) _
  have hself := lay_cell w (.slice A n c) 65
  have hsize : (w.alloc (.cells #[.slice A n c] 65)).heap.size = w.heap.size + 1 := by simp
  go_enter Try.func123, Try.ntmps123
  go_wp2
  go_loopw [3, 4, 8] (fun _ _ i wr => ∃ k : Nat, i = .int .i64 k ∧ k ≤ n ∧ Hid (∀ j, j < k → M.stepT xs j = true) ∧ Below (w.heap.size + 1) (w.alloc (.cells #[.slice A n c] 65)) wr) (fun _ _ i _ => n - (intOf i).toNat)
  case atStart => exact ⟨0, rfl, by omega, Lib.hid (by omega), Below.refl _ _⟩
  case round =>
    obtain ⟨k, rfl, hk, H, hb⟩ := hrel
    have hbb : Below w.heap.size w wr := hbw.trans (hb.mono (by omega))
    have hsz : w.heap.size + 1 ≤ wr.heap.size := by rw [← hsize]; exact hb.size
    have hv : wr.cell? ⟨w.heap.size, 0, none⟩ = some (.slice A n c) := by rw [hb.cell (by simp)]; exact hself
    by_cases hlt : k < n
    · obtain ⟨b, o, ⟨p0, p1, p2, p3, p4⟩, rfl, hab, X, hc⟩ := (hx.below hbb).at cl_len (by decide) hlt
      have hc0 : wr.cell? ⟨b, o + k * 5, none⟩ = some (.int .i64 p0) := hc 0 _ rfl
      have hc1 : wr.cell? ⟨b, o + k * 5 + 1, none⟩ = some (.int .i64 p1) := hc 1 _ rfl
      have hc2 : wr.cell? ⟨b, o + k * 5 + 2, none⟩ = some (.int .i64 p2) := hc 2 _ rfl
      have hc3 : wr.cell? ⟨b, o + k * 5 + 3, none⟩ = some (.int .i64 p3) := hc 3 _ rfl
      have hc4 : wr.cell? ⟨b, o + k * 5 + 4, none⟩ = some (.int .i64 p4) := hc 4 _ rfl
      clear hc
      obtain ⟨⟨r0, r1, r2, r3, r4⟩, Z, hr⟩ := (hx.below hbb).cells cl_len (by decide) (k := k - 1) (by omega)
      have hr0 : wr.cell? ⟨b, o + (k - 1) * 5 + 3, none⟩ = some (.int .i64 r3) := hr 3 _ rfl
      clear hr
      have hs4 : (wr.alloc (.cells #[.int .i64 p0, .int .i64 p1, .int .i64 p2, .int .i64 p3, .int .i64 p4] 78)).heap.size = wr.heap.size + 1 := by simp
      have hbr : b < (wr.alloc (.cells #[.int .i64 p0, .int .i64 p1, .int .i64 p2, .int .i64 p3, .int .i64 p4] 78)).heap.size := by omega
      have hbv : w.heap.size < (wr.alloc (.cells #[.int .i64 p0, .int .i64 p1, .int .i64 p2, .int .i64 p3, .int .i64 p4] 78)).heap.size := by omega
      have hbn : wr.heap.size < (wr.alloc (.cells #[.int .i64 p0, .int .i64 p1, .int .i64 p2, .int .i64 p3, .int .i64 p4] 78)).heap.size := by omega
      have qa0 : (wr.alloc (.cells #[.int .i64 p0, .int .i64 p1, .int .i64 p2, .int .i64 p3, .int .i64 p4] 78)).cell? ⟨wr.heap.size, 0, none⟩ = some (.int .i64 p0) := by rw [cell_of_row _ wr.heap.size 0 _ 78 (0, 0) (heap_alloc_new wr _)]; rfl
      have qa1 : (wr.alloc (.cells #[.int .i64 p0, .int .i64 p1, .int .i64 p2, .int .i64 p3, .int .i64 p4] 78)).cell? ⟨wr.heap.size, 1, none⟩ = some (.int .i64 p1) := by rw [cell_of_row _ wr.heap.size 1 _ 78 (0, 0) (heap_alloc_new wr _)]; rfl
      have qa2 : (wr.alloc (.cells #[.int .i64 p0, .int .i64 p1, .int .i64 p2, .int .i64 p3, .int .i64 p4] 78)).cell? ⟨wr.heap.size, 2, none⟩ = some (.int .i64 p2) := by rw [cell_of_row _ wr.heap.size 2 _ 78 (0, 0) (heap_alloc_new wr _)]; rfl
      have qa3 : (wr.alloc (.cells #[.int .i64 p0, .int .i64 p1, .int .i64 p2, .int .i64 p3, .int .i64 p4] 78)).cell? ⟨wr.heap.size, 3, none⟩ = some (.int .i64 p3) := by rw [cell_of_row _ wr.heap.size 3 _ 78 (0, 0) (heap_alloc_new wr _)]; rfl
      have qa4 : (wr.alloc (.cells #[.int .i64 p0, .int .i64 p1, .int .i64 p2, .int .i64 p3, .int .i64 p4] 78)).cell? ⟨wr.heap.size, 4, none⟩ = some (.int .i64 p4) := by rw [cell_of_row _ wr.heap.size 4 _ 78 (0, 0) (heap_alloc_new wr _)]; rfl
      have q2 : (wr.alloc (.cells #[.int .i64 p0, .int .i64 p1, .int .i64 p2, .int .i64 p3, .int .i64 p4] 78)).cell? ⟨w.heap.size, 0, none⟩ = some (.slice (some ⟨b, o, none⟩) n c) := by rw [World.cell?_alloc_lt _ _ _ (by simp; omega)]; exact hv
      have q3 : (wr.alloc (.cells #[.int .i64 p0, .int .i64 p1, .int .i64 p2, .int .i64 p3, .int .i64 p4] 78)).cell? ⟨b, o + (k - 1) * 5 + 3, none⟩ = some (.int .i64 r3) := by rw [World.cell?_alloc_lt _ _ _ (by simp; omega)]; exact hr0
      have hb4 : Below (w.heap.size + 1) (w.alloc (.cells #[.slice (some ⟨b, o, none⟩) n c] 65)) (wr.alloc (.cells #[.int .i64 p0, .int .i64 p1, .int .i64 p2, .int .i64 p3, .int .i64 p4] 78)) := hb.alloc (by omega) _
      have hp0 := Lib.hid (show (xs[k]?).getD M.cz = (p0, p1, p2, p3, p4) by rw [X.out]; rfl)
      have hz0 := Lib.hid (show (xs[k - 1]?).getD M.cz = (r0, r1, r2, r3, r4) by rw [Z.out]; rfl)
      cases hp : M.clipOk (p0, p1, p2, p3, p4)
      · have hno := Lib.hid (show M.trackOk xs = false by rw [M.trackOk, M.all_not (k := k) (by rw [hl.out]; exact hlt) (by rw [M.stepT, hp0.out, hp, Bool.false_and]), Bool.false_and])
        go_wp2
        generalize hw4 : wr.alloc (.cells #[.int .i64 p0, .int .i64 p1, .int .i64 p2, .int .i64 p3, .int .i64 p4] 78) = w4 at qa0 qa1 qa2 qa3 qa4 q2 q3 hbr hbv hbn hb4 ⊢
        clear hw4 hs4
        have cP : ∀ d os, Calls Try.prog 115 #[.agg #[.int .i64 p0, .int .i64 p1, .int .i64 p2, .int .i64 p3, .int .i64 p4]] (grow (redrawn w4 d) os) fun e w'' => e = .returned (.bool false) ∧ ∃ p : Regrown, w'' = grow (redrawn w4 p.d) p.os := fun d os => Calls.regrown_of (by have h := impl_isClip p0 p1 p2 p3 p4 (grow (redrawn w4 d) os); rw [hp] at h; exact h)
        have ka0 := cell_regrown qa0
        have ka1 := cell_regrown qa1
        have ka2 := cell_regrown qa2
        have ka3 := cell_regrown qa3
        have ka4 := cell_regrown qa4
        have k2' := cell_regrown q2
        have k3' := cell_regrown q3
        clear qa0 qa1 qa2 qa3 qa4 q2 q3
        (refine wp_region_quiet_below (by kernel_rfl) (by kernel_rfl) ?_; (repeat (go_big_quiet_step (exact cP _ _))); refine wpQuiet_nil ?_; intro _ hw'; obtain ⟨⟨dq, osq⟩, hw''⟩ := hw'; subst hw'')
        go_wp2
        go_ret
        exact ⟨ret_bool (by rw [hno.out]), hbw.trans ((hb4.trans ((below_regrown w4 dq osq).mono (by rw [← hsize]; exact hb4.size))).mono (by omega))⟩
      · by_cases hk0 : k = 0
        · have hyes := Lib.hid (show M.stepT xs k = true by rw [M.stepT, hp0.out, hp, M.afterT, hk0]; rfl)
          have hd : decide (0 < k) = false := by rw [hk0]; rfl
          have hd2 : ¬ 0 < k := by omega
          clear hk0
          go_wp2
          generalize hw4 : wr.alloc (.cells #[.int .i64 p0, .int .i64 p1, .int .i64 p2, .int .i64 p3, .int .i64 p4] 78) = w4 at qa0 qa1 qa2 qa3 qa4 q2 q3 hbr hbv hbn hb4 ⊢
          clear hw4 hs4
          have cP : ∀ d os, Calls Try.prog 115 #[.agg #[.int .i64 p0, .int .i64 p1, .int .i64 p2, .int .i64 p3, .int .i64 p4]] (grow (redrawn w4 d) os) fun e w'' => e = .returned (.bool true) ∧ ∃ p : Regrown, w'' = grow (redrawn w4 p.d) p.os := fun d os => Calls.regrown_of (by have h := impl_isClip p0 p1 p2 p3 p4 (grow (redrawn w4 d) os); rw [hp] at h; exact h)
          have ka0 := cell_regrown qa0
          have ka1 := cell_regrown qa1
          have ka2 := cell_regrown qa2
          have ka3 := cell_regrown qa3
          have ka4 := cell_regrown qa4
          have k2' := cell_regrown q2
          have k3' := cell_regrown q3
          clear qa0 qa1 qa2 qa3 qa4 q2 q3
          (refine wp_region_quiet_below (by kernel_rfl) (by kernel_rfl) ?_; (repeat (go_big_quiet_step (exact cP _ _))); refine wpQuiet_nil ?_; intro _ hw'; obtain ⟨⟨dq, osq⟩, hw''⟩ := hw'; subst hw'')
          go_wp2
          go_roundw
          case rel => exact ⟨k + 1, by go_num, by omega, Lib.hid (fun j hj => by rcases Nat.lt_succ_iff_lt_or_eq.1 hj with h | h; exact H.out j h; rw [h]; exact hyes.out), hb4.trans ((below_regrown w4 dq osq).mono (by rw [← hsize]; exact hb4.size))⟩
          case measure => simp [intOf]; omega
        · have hkk : IntKind.i64.wrap ((k : Int) - 1) = ((k - 1 : Nat) : Int) := by rw [IntWalk.i64_in _ (by omega)]; omega
          have hk1n : ((k - 1 : Nat) : Int) < (n : Int) := by omega
          have hd : decide (0 < k) = true := decide_eq_true (by omega)
          by_cases hge : p3 < r3
          · have hno := Lib.hid (show M.trackOk xs = false by rw [M.trackOk, M.all_not (k := k) (by rw [hl.out]; exact hlt) (by rw [M.stepT, hp0.out, hp, M.afterT, hp0.out, hz0.out]; simp [hk0]; omega), Bool.false_and])
            go_wp2
            generalize hw4 : wr.alloc (.cells #[.int .i64 p0, .int .i64 p1, .int .i64 p2, .int .i64 p3, .int .i64 p4] 78) = w4 at qa0 qa1 qa2 qa3 qa4 q2 q3 hbr hbv hbn hb4 ⊢
            clear hw4 hs4
            have cP : ∀ d os, Calls Try.prog 115 #[.agg #[.int .i64 p0, .int .i64 p1, .int .i64 p2, .int .i64 p3, .int .i64 p4]] (grow (redrawn w4 d) os) fun e w'' => e = .returned (.bool true) ∧ ∃ p : Regrown, w'' = grow (redrawn w4 p.d) p.os := fun d os => Calls.regrown_of (by have h := impl_isClip p0 p1 p2 p3 p4 (grow (redrawn w4 d) os); rw [hp] at h; exact h)
            have ka0 := cell_regrown qa0
            have ka1 := cell_regrown qa1
            have ka2 := cell_regrown qa2
            have ka3 := cell_regrown qa3
            have ka4 := cell_regrown qa4
            have k2' := cell_regrown q2
            have k3' := cell_regrown q3
            clear qa0 qa1 qa2 qa3 qa4 q2 q3
            (refine wp_region_quiet_below (by kernel_rfl) (by kernel_rfl) ?_; (repeat (go_big_quiet_step (exact cP _ _))); refine wpQuiet_nil ?_; intro _ hw'; obtain ⟨⟨dq, osq⟩, hw''⟩ := hw'; subst hw'')
            go_wp2
            go_ret
            exact ⟨ret_bool (by rw [hno.out]), hbw.trans ((hb4.trans ((below_regrown w4 dq osq).mono (by rw [← hsize]; exact hb4.size))).mono (by omega))⟩
          · have hyes := Lib.hid (show M.stepT xs k = true by rw [M.stepT, hp0.out, hp, M.afterT, hp0.out, hz0.out]; simp; omega)
            go_wp2
            generalize hw4 : wr.alloc (.cells #[.int .i64 p0, .int .i64 p1, .int .i64 p2, .int .i64 p3, .int .i64 p4] 78) = w4 at qa0 qa1 qa2 qa3 qa4 q2 q3 hbr hbv hbn hb4 ⊢
            clear hw4 hs4
            have cP : ∀ d os, Calls Try.prog 115 #[.agg #[.int .i64 p0, .int .i64 p1, .int .i64 p2, .int .i64 p3, .int .i64 p4]] (grow (redrawn w4 d) os) fun e w'' => e = .returned (.bool true) ∧ ∃ p : Regrown, w'' = grow (redrawn w4 p.d) p.os := fun d os => Calls.regrown_of (by have h := impl_isClip p0 p1 p2 p3 p4 (grow (redrawn w4 d) os); rw [hp] at h; exact h)
            have ka0 := cell_regrown qa0
            have ka1 := cell_regrown qa1
            have ka2 := cell_regrown qa2
            have ka3 := cell_regrown qa3
            have ka4 := cell_regrown qa4
            have k2' := cell_regrown q2
            have k3' := cell_regrown q3
            clear qa0 qa1 qa2 qa3 qa4 q2 q3
            (refine wp_region_quiet_below (by kernel_rfl) (by kernel_rfl) ?_; (repeat (go_big_quiet_step (exact cP _ _))); refine wpQuiet_nil ?_; intro _ hw'; obtain ⟨⟨dq, osq⟩, hw''⟩ := hw'; subst hw'')
            go_wp2
            go_roundw
            case rel => exact ⟨k + 1, by go_num, by omega, Lib.hid (fun j hj => by rcases Nat.lt_succ_iff_lt_or_eq.1 hj with h | h; exact H.out j h; rw [h]; exact hyes.out), hb4.trans ((below_regrown w4 dq osq).mono (by rw [← hsize]; exact hb4.size))⟩
            case measure => simp [intOf]; omega
    · have hyes := Lib.hid (M.all_upto (n := xs.length) (f := M.stepT xs) (fun j hj => H.out j (by rw [hl.out] at hj; omega)))
      have hres := Lib.hid (show decide (n ≤ 12) = M.trackOk xs by rw [M.trackOk, hyes.out, hl.out, Bool.true_and])
      go_wp2
      go_ret
      exact ⟨ret_bool (by rw [← hres.out]; exact decide_eq_decide.2 (by omega)), hbb⟩
theorem spec_l23Ok (vb : Nat) (A : Option Addr) (n c : Nat) (xs : List Clip) (w : World) (hv0 : w.cell? ⟨vb, 0, none⟩ = some (.slice A n c)) (hx : RA cl 5 w w.heap.size A n xs) (hn : n ≤ 1000000000) :
    Calls Try.prog 119 #[.pointer (some ⟨vb, 0, none⟩)] w fun e w' => e = .returned (.bool (M.trackOk xs)) ∧ Below w.heap.size w w' := by
  have hl := Lib.hid hx.len
  have hvb : vb < w.heap.size := World.block_lt_of_cell? w _ hv0
  go_enter Try.func119, Try.ntmps119
  go_wp2
  go_loopw [3] (fun i wr => ∃ k : Nat, i = .int .i64 k ∧ k ≤ n ∧ Hid (∀ j, j < k → M.stepT xs j = true) ∧ Below w.heap.size w wr) (fun i _ => n - (intOf i).toNat)
  case atStart => exact ⟨0, rfl, by omega, Lib.hid (by omega), Below.refl _ _⟩
  case round =>
    obtain ⟨k, rfl, hk, H, hb⟩ := hrel
    have hv : wr.cell? ⟨vb, 0, none⟩ = some (.slice A n c) := by rw [hb.cell (by simpa using hvb)]; exact hv0
    by_cases hlt : k < n
    · obtain ⟨b, o, ⟨p0, p1, p2, p3, p4⟩, rfl, hab, X, hc⟩ := (hx.below hb).at cl_len (by decide) hlt
      have hc0 : wr.cell? ⟨b, o + k * 5, none⟩ = some (.int .i64 p0) := hc 0 _ rfl
      have hc1 : wr.cell? ⟨b, o + k * 5 + 1, none⟩ = some (.int .i64 p1) := hc 1 _ rfl
      have hc2 : wr.cell? ⟨b, o + k * 5 + 2, none⟩ = some (.int .i64 p2) := hc 2 _ rfl
      have hc3 : wr.cell? ⟨b, o + k * 5 + 3, none⟩ = some (.int .i64 p3) := hc 3 _ rfl
      have hc4 : wr.cell? ⟨b, o + k * 5 + 4, none⟩ = some (.int .i64 p4) := hc 4 _ rfl
      clear hc
      obtain ⟨⟨r0, r1, r2, r3, r4⟩, Z, hr⟩ := (hx.below hb).cells cl_len (by decide) (k := k - 1) (by omega)
      have hr0 : wr.cell? ⟨b, o + (k - 1) * 5 + 3, none⟩ = some (.int .i64 r3) := hr 3 _ rfl
      clear hr
      have hp0 := Lib.hid (show (xs[k]?).getD M.cz = (p0, p1, p2, p3, p4) by rw [X.out]; rfl)
      have hz0 := Lib.hid (show (xs[k - 1]?).getD M.cz = (r0, r1, r2, r3, r4) by rw [Z.out]; rfl)
      cases hp : M.clipOk (p0, p1, p2, p3, p4)
      · have hno := Lib.hid (show M.trackOk xs = false by rw [M.trackOk, M.all_not (k := k) (by rw [hl.out]; exact hlt) (by rw [M.stepT, hp0.out, hp, Bool.false_and]), Bool.false_and])
        have cP : ∀ m, Calls Try.prog 142 #[.pointer (some ⟨b, o + k * 5, none⟩)] (wr.drewN m) fun e w'' => e = .returned (.bool false) ∧ ∃ m', w'' = wr.drewN m' := fun m => by have h := spec_l23Clip b (o + k * 5) (p0, p1, p2, p3, p4) (wr.drewN m) hc0 hc1 hc2 hc3 hc4; rw [hp] at h; exact h.mono fun _ _ ⟨he, q, hq⟩ => ⟨he, m + q, by rw [hq, World.drewN_drewN]⟩
        go_wp2
        go_quiet (exact cP _)
        go_wp2
        go_ret
        exact ⟨ret_bool (by rw [hno.out]), hb.trans (below_drewN (Below.refl _ _) _)⟩
      · by_cases hk0 : k = 0
        · have hyes := Lib.hid (show M.stepT xs k = true by rw [M.stepT, hp0.out, hp, M.afterT, hk0]; rfl)
          have hd : decide (0 < k) = false := by rw [hk0]; rfl
          have hd2 : ¬ 0 < k := by omega
          clear hk0
          have cP : ∀ m, Calls Try.prog 142 #[.pointer (some ⟨b, o + k * 5, none⟩)] (wr.drewN m) fun e w'' => e = .returned (.bool true) ∧ ∃ m', w'' = wr.drewN m' := fun m => by have h := spec_l23Clip b (o + k * 5) (p0, p1, p2, p3, p4) (wr.drewN m) hc0 hc1 hc2 hc3 hc4; rw [hp] at h; exact h.mono fun _ _ ⟨he, q, hq⟩ => ⟨he, m + q, by rw [hq, World.drewN_drewN]⟩
          go_wp2
          go_quiet (exact cP _)
          go_wp2
          go_roundw
          case rel => exact ⟨k + 1, by go_num, by omega, Lib.hid (fun j hj => by rcases Nat.lt_succ_iff_lt_or_eq.1 hj with h | h; exact H.out j h; rw [h]; exact hyes.out), hb.trans (below_drewN (Below.refl _ _) _)⟩
          case measure => simp [intOf]; omega
        · have hkk : IntKind.i64.wrap ((k : Int) - 1) = ((k - 1 : Nat) : Int) := by rw [IntWalk.i64_in _ (by omega)]; omega
          have hk1n : ((k - 1 : Nat) : Int) < (n : Int) := by omega
          have hd : decide (0 < k) = true := decide_eq_true (by omega)
          by_cases hge : p3 < r3
          · have hno := Lib.hid (show M.trackOk xs = false by rw [M.trackOk, M.all_not (k := k) (by rw [hl.out]; exact hlt) (by rw [M.stepT, hp0.out, hp, M.afterT, hp0.out, hz0.out]; simp [hk0]; omega), Bool.false_and])
            have cP : ∀ m, Calls Try.prog 142 #[.pointer (some ⟨b, o + k * 5, none⟩)] (wr.drewN m) fun e w'' => e = .returned (.bool true) ∧ ∃ m', w'' = wr.drewN m' := fun m => by have h := spec_l23Clip b (o + k * 5) (p0, p1, p2, p3, p4) (wr.drewN m) hc0 hc1 hc2 hc3 hc4; rw [hp] at h; exact h.mono fun _ _ ⟨he, q, hq⟩ => ⟨he, m + q, by rw [hq, World.drewN_drewN]⟩
            go_wp2
            go_quiet (exact cP _)
            go_wp2
            go_ret
            exact ⟨ret_bool (by rw [hno.out]), hb.trans (below_drewN (Below.refl _ _) _)⟩
          · have hyes := Lib.hid (show M.stepT xs k = true by rw [M.stepT, hp0.out, hp, M.afterT, hp0.out, hz0.out]; simp; omega)
            have cP : ∀ m, Calls Try.prog 142 #[.pointer (some ⟨b, o + k * 5, none⟩)] (wr.drewN m) fun e w'' => e = .returned (.bool true) ∧ ∃ m', w'' = wr.drewN m' := fun m => by have h := spec_l23Clip b (o + k * 5) (p0, p1, p2, p3, p4) (wr.drewN m) hc0 hc1 hc2 hc3 hc4; rw [hp] at h; exact h.mono fun _ _ ⟨he, q, hq⟩ => ⟨he, m + q, by rw [hq, World.drewN_drewN]⟩
            go_wp2
            go_quiet (exact cP _)
            go_wp2
            go_roundw
            case rel => exact ⟨k + 1, by go_num, by omega, Lib.hid (fun j hj => by rcases Nat.lt_succ_iff_lt_or_eq.1 hj with h | h; exact H.out j h; rw [h]; exact hyes.out), hb.trans (below_drewN (Below.refl _ _) _)⟩
            case measure => simp [intOf]; omega
    · have hyes := Lib.hid (M.all_upto (n := xs.length) (f := M.stepT xs) (fun j hj => H.out j (by rw [hl.out] at hj; omega)))
      have hres := Lib.hid (show decide (n ≤ 12) = M.trackOk xs by rw [M.trackOk, hyes.out, hl.out, Bool.true_and])
      go_wp2
      go_ret
      exact ⟨ret_bool (by rw [← hres.out]; exact decide_eq_decide.2 (by omega)), hb⟩
end Go.Proofs.Ytckihflfjecpbaa
namespace Go.Proofs.Ytckihflfjecpbaa
open Go.RowKit Go.Sort
set_option maxHeartbeats 400000
set_option maxRecDepth 100000
/-- All that a step of the reckoning of a value wants to know of two neighbours. -/
theorem M.seg_facts {p0 p1 q0 q1 t : Int} (hp : (0 ≤ p0 ∧ p0 ≤ 4000) ∧ -65536 ≤ p1 ∧ p1 ≤ 65536) (hq : (0 ≤ q0 ∧ q0 ≤ 4000) ∧ -65536 ≤ q1 ∧ q1 ≤ 65536) (hlt : p0 < q0) (ht : 0 ≤ t ∧ t ≤ 1000000) :
    IntKind.i64.wrap (q1 - p1) = q1 - p1 ∧ IntKind.i64.wrap (t - p0) = t - p0 ∧ IntKind.i64.wrap ((q1 - p1) * (t - p0)) = (q1 - p1) * (t - p0) ∧ IntKind.i64.wrap (q0 - p0) = q0 - p0 ∧
      IntKind.i64.wrap (p1 + (q1 - p1) * (t - p0) / (q0 - p0)) = M.seg (p0, p1) (q0, q1) t ∧ (-9000000000000000000 ≤ (q1 - p1) * (t - p0) ∧ (q1 - p1) * (t - p0) ≤ 9000000000000000000) ∧ 0 < q0 - p0 ∧ q0 - p0 ≤ 9000000000000000000 := by
  have h1 := M.mul_bound (a := q1 - p1) (b := t - p0) (x := 131072) (y := 1000000) (by omega) (by omega) (by omega)
  have h2 := M.div_small (a := (q1 - p1) * (t - p0)) (b := q0 - p0) (c := 131072000000) (by omega) (by omega) (by omega)
  refine ⟨IntWalk.i64_in _ (by omega), IntWalk.i64_in _ (by omega), IntWalk.i64_in _ (by omega), IntWalk.i64_in _ (by omega), ?_, by omega, by omega, by omega⟩
  rw [IntWalk.i64_in _ (by omega)]
  rfl
theorem spec_l25At (A : Option Addr) (n c : Nat) (xs : List (Int × Int)) (t : Int) (w : World) (hx : RA pt 2 w w.heap.size A n xs) (hok : M.curveOk xs = true) (ht : 0 ≤ t ∧ t ≤ 1000000) :
    Calls Try.prog 84 #[.slice A n c, .int .i64 t] w fun e w' => e = .returned (.int .i64 (M.atC xs t)) ∧ Below w.heap.size w w' := by
  have hl := Lib.hid hx.len
  have hn : 1 ≤ n ∧ n ≤ 24 := by have := M.curve_len hok; rw [hl.out] at this; exact this
  have hok' := Lib.hid hok
  clear hok
  obtain ⟨b, o, ⟨x0, x1⟩, rfl, hab, X0, hc⟩ := hx.at pt_len (by decide) (k := 0) (by omega)
  have hc0 : w.cell? ⟨b, o, none⟩ = some (.int .i64 x0) := by have := hc 0 _ rfl; simpa using this
  have hc1 : w.cell? ⟨b, o + 1, none⟩ = some (.int .i64 x1) := by have := hc 1 _ rfl; simpa using this
  clear hc
  by_cases hle : t ≤ x0
  · have hv := Lib.hid (M.atC_first hok'.out X0.out hle)
    go_enter Try.func84, Try.ntmps84
    go_wp2
    go_ret
    exact ⟨ret_int hv.out.symm, Below.refl _ _⟩
  · have hv := Lib.hid (M.atC_go X0.out (t := t) (by simp; omega))
    go_enter Try.func84, Try.ntmps84
    go_wp2
    go_loopw [6, 7, 8] (fun i _ _ wr => ∃ k : Nat, i = .int .i64 k ∧ 1 ≤ k ∧ k ≤ n ∧ (∃ p, Hid (xs[k - 1]? = some p ∧ M.atGo p (xs.drop k) t = M.atC xs t)) ∧ Below w.heap.size w wr) (fun i _ _ _ => n - (intOf i).toNat)
    case atStart => exact ⟨1, rfl, by omega, by omega, ⟨_, Lib.hid ⟨X0.out, hv.out.symm⟩⟩, Below.refl _ _⟩
    case round =>
      obtain ⟨k, rfl, hk1, hk, ⟨⟨p0, p1⟩, H⟩, hb⟩ := hrel
      have hkk : IntKind.i64.wrap ((k : Int) - 1) = ((k - 1 : Nat) : Int) := by rw [IntWalk.i64_in _ (by omega)]; omega
      obtain ⟨⟨r0, r1⟩, Z, hr⟩ := (hx.below hb).cells pt_len (by decide) (k := k - 1) (by omega)
      have hbr : b < wr.heap.size := Nat.lt_of_lt_of_le hab hb.size
      have hpr := H.out.1
      rw [Z.out] at hpr
      simp only [Option.some.injEq, Prod.mk.injEq] at hpr
      obtain ⟨rfl, rfl⟩ := hpr
      have hr0 : wr.cell? ⟨b, o + (k - 1) * 2, none⟩ = some (.int .i64 r0) := hr 0 _ rfl
      have hr1 : wr.cell? ⟨b, o + (k - 1) * 2 + 1, none⟩ = some (.int .i64 r1) := hr 1 _ rfl
      clear hr
      by_cases hlt : k < n
      · obtain ⟨⟨p0, p1⟩, X, hc⟩ := (hx.below hb).cells pt_len (by decide) hlt
        have hd0 : wr.cell? ⟨b, o + k * 2, none⟩ = some (.int .i64 p0) := hc 0 _ rfl
        have hd1 : wr.cell? ⟨b, o + k * 2 + 1, none⟩ = some (.int .i64 p1) := hc 1 _ rfl
        clear hc
        by_cases htp : t < p0
        · have hval := Lib.hid (show M.seg (r0, r1) (p0, p1) t = M.atC xs t by have := H.out.2; rw [M.atGo_step X.out, if_pos htp] at this; exact this)
          obtain ⟨e1, e2, e3, e4, e5, hA, hB, hC⟩ := M.seg_facts (M.curve_pt hok'.out Z.out) (M.curve_pt hok'.out X.out) (M.curve_lt hok'.out (by omega) Z.out X.out) ht
          go_wp2
          go_quiet ((go_at_call 99; exact quiet_left (spec_l25Div _ _ _ hA hB hC)))
          go_wp2
          go_ret
          exact ⟨ret_int hval.out, (((hb.alloc hb.size _).alloc (by simpa using Nat.le_succ_of_le hb.size) _)).trans (below_drewN (Below.refl _ _) _)⟩
        · have hval := Lib.hid (show M.atGo (p0, p1) (xs.drop (k + 1)) t = M.atC xs t by have := H.out.2; rw [M.atGo_step X.out, if_neg htp] at this; exact this)
          go_wp2
          go_roundw
          case rel => exact ⟨k + 1, by go_num, by omega, by omega, ⟨_, Lib.hid ⟨X.out, hval.out⟩⟩, ((hb.alloc hb.size _).alloc (by simpa using Nat.le_succ_of_le hb.size) _)⟩
          case measure => simp [intOf]; omega
      · have hval := Lib.hid (show r1 = M.atC xs t by have := H.out.2; rw [M.atGo_end (by rw [hl.out]; omega)] at this; exact this)
        obtain rfl : k = n := by omega
        go_wp2
        go_ret
        exact ⟨ret_int hval.out, hb⟩
end Go.Proofs.Ytckihflfjecpbaa
namespace Go.Proofs.Ytckihflfjecpbaa
open Go.RowKit Go.Sort
set_option maxHeartbeats 400000
set_option maxRecDepth 100000
theorem impl_valueAt (A : Option Addr) (n c : Nat) (xs : List (Int × Int)) (t : Int) (w : World) (hx : RA pt 2 w w.heap.size A n xs) (hok : M.curveOk xs = true) (ht : 0 ≤ t ∧ t ≤ 1000000) :
    Calls Try.prog 96 #[.agg #[.slice A n c], .int .i64 t] w fun e w' => e = .returned (.int .i64 (M.atC xs t)) ∧ Below w.heap.size w w' := by
  have hl := Lib.hid hx.len
  have hn : 1 ≤ n ∧ n ≤ 24 := by have := M.curve_len hok; rw [hl.out] at this; exact this
  have hok' := Lib.hid hok
  clear hok
  obtain ⟨b, o, ⟨x0, x1⟩, rfl, hab, X0, hc⟩ := hx.at pt_len (by decide) (k := 0) (by omega)
  have hc0 : w.cell? ⟨b, o, none⟩ = some (.int .i64 x0) := by have := hc 0 _ rfl; simpa using this
  have hc1 : w.cell? ⟨b, o + 1, none⟩ = some (.int .i64 x1) := by have := hc 1 _ rfl; simpa using this
  clear hc
  have hself := lay_cell w (.slice (some ⟨b, o, none⟩) n c) 30
  have hsize : (w.alloc (.cells #[.slice (some ⟨b, o, none⟩) n c] 30)).heap.size = w.heap.size + 1 := by simp
  have hbw : Below w.heap.size w (w.alloc (.cells #[.slice (some ⟨b, o, none⟩) n c] 30)) := (Below.refl _ _).alloc (Nat.le_refl _) _
  go_enter Try.func96, Try.ntmps96
  go_wp2
  go_loopw [7, 15] (fun _ i wr => ∃ k : Nat, i = .int .i64 k ∧ k ≤ n ∧ (∃ p0 p1, Hid ((k = 0 → p0 = x0 ∧ p1 = x1) ∧ (0 < k → xs[k - 1]? = some (p0, p1) ∧ p0 ≤ t ∧ M.atGo (p0, p1) (xs.drop k) t = M.atC xs t)) ∧
      (wr.cell? ⟨w.heap.size + 1, 0, none⟩ = some (.int .i64 p0) ∧ wr.cell? ⟨w.heap.size + 1, 1, none⟩ = some (.int .i64 p1) ∧ wr.frozen? ⟨w.heap.size + 1, 0, none⟩ = false ∧ wr.frozen? ⟨w.heap.size + 1, 1, none⟩ = false)) ∧
      w.heap.size + 1 + 1 ≤ wr.heap.size ∧ Below (w.heap.size + 1) (w.alloc (.cells #[.slice (some ⟨b, o, none⟩) n c] 30)) wr) (fun _ i _ => n - (intOf i).toNat)
  case atStart =>
    refine ⟨0, rfl, by omega, ⟨x0, x1, Lib.hid ⟨fun _ => ⟨rfl, rfl⟩, fun h => by omega⟩, ?_, ?_, ?_, ?_⟩, by simp, (Below.refl _ _).alloc (by simp) _⟩
    · simp [go_sem]
    · simp [go_sem]
    · simp [go_sem]
    · simp [go_sem]
  case round =>
    obtain ⟨k, rfl, hk, ⟨p0, p1, H, cp0, cp1, fp0, fp1⟩, hsz, hb⟩ := hrel
    have hbb : Below w.heap.size w wr := hbw.trans (hb.mono (by omega))
    have hv : wr.cell? ⟨w.heap.size, 0, none⟩ = some (.slice (some ⟨b, o, none⟩) n c) := by rw [hb.cell (by simp)]; exact hself
    have hbr : b < wr.heap.size := Nat.lt_of_lt_of_le hab hbb.size
    have hBr : w.heap.size + 1 < wr.heap.size := by omega
    by_cases hlt : k < n
    · obtain ⟨⟨q0, q1⟩, X, hc⟩ := (hx.below hbb).cells pt_len (by decide) hlt
      have hd0 : wr.cell? ⟨b, o + k * 2, none⟩ = some (.int .i64 q0) := hc 0 _ rfl
      have hd1 : wr.cell? ⟨b, o + k * 2 + 1, none⟩ = some (.int .i64 q1) := hc 1 _ rfl
      clear hc
      by_cases htq : t < q0
      · by_cases htp : t < p0
        · have hval := Lib.hid (show p1 = M.atC xs t by
            rcases Nat.eq_zero_or_pos k with h0 | h0
            · obtain ⟨rfl, rfl⟩ := H.out.1 h0
              exact (M.atC_low X0.out htp).symm
            · have := (H.out.2 h0).2.1
              omega)
          go_wp2
          go_ret
          exact ⟨ret_int hval.out, hbb.alloc hbb.size _⟩
        · have hk0 : 0 < k := by
            rcases Nat.eq_zero_or_pos k with h0 | h0
            · obtain ⟨rfl, rfl⟩ := H.out.1 h0
              have h1 := X.out
              rw [h0, X0.out] at h1
              simp only [Option.some.injEq, Prod.mk.injEq] at h1
              omega
            · exact h0
          have hval := Lib.hid (show M.seg (p0, p1) (q0, q1) t = M.atC xs t by have := (H.out.2 hk0).2.2; rw [M.atGo_step X.out, if_pos htq] at this; exact this)
          obtain ⟨e1, e2, e3, e4, e5, hA, hB, hC⟩ := M.seg_facts (M.curve_pt hok'.out (H.out.2 hk0).1) (M.curve_pt hok'.out X.out) (M.curve_lt hok'.out hk0 (H.out.2 hk0).1 X.out) ht
          go_wp2
          go_quiet ((go_at_call 95; exact quiet_left (impl_floorDiv _ _ _ hA hB hC)))
          go_wp2
          go_ret
          exact ⟨ret_int hval.out, (hbb.alloc hbb.size _).trans (below_drewN (Below.refl _ _) _)⟩
      · have hval := Lib.hid (show M.atGo (q0, q1) (xs.drop (k + 1)) t = M.atC xs t by
          rcases Nat.eq_zero_or_pos k with h0 | h0
          · subst h0
            exact (M.atC_go X.out htq).symm
          · have := (H.out.2 h0).2.2
            rw [M.atGo_step X.out, if_neg htq] at this
            exact this)
        go_wp2
        go_roundw
        case rel =>
          refine ⟨k + 1, by go_num, by omega, ⟨q0, q1, Lib.hid ⟨fun h => by omega, fun _ => ⟨X.out, by omega, hval.out⟩⟩, ?_, ?_, ?_, ?_⟩, by simp; omega, ((hb.setCell (Nat.le_refl _) _).setCell (Nat.le_refl _) _).alloc (by simp; omega) _⟩
          · simp [go_sem, *]
          · simp [go_sem, *]
          · simp [go_sem, *]
          · simp [go_sem, *]
        case measure => simp [intOf]; omega
    · have hval := Lib.hid (show p1 = M.atC xs t by have := (H.out.2 (by omega)).2.2; rw [M.atGo_end (by rw [hl.out]; omega)] at this; exact this)
      obtain rfl : k = n := by omega
      go_wp2
      go_ret
      exact ⟨ret_int hval.out, hbb⟩
end Go.Proofs.Ytckihflfjecpbaa
namespace Go.Proofs.Ytckihflfjecpbaa
open Go.RowKit Go.Sort
set_option maxHeartbeats 400000
set_option maxRecDepth 100000
def M.rend (xs : List (Int × Int)) (m : Nat) : List Int := (List.range m).map fun (i : Nat) => M.atC xs (i : Int)
theorem M.rend_len (xs : List (Int × Int)) (m : Nat) : (M.rend xs m).length = m := by simp [M.rend]
theorem M.rend_at {xs : List (Int × Int)} {m k : Nat} (h : k < m) : (M.rend xs m)[k]? = some (M.atC xs (k : Int)) := by simp [M.rend, h]
def M.rendR (xs : List (Int × Int)) (t : Int) : List Int × Int := if M.curveOk xs then (if M.inn t 0 4000 then (M.rend xs t.toNat, 0) else ([], 2)) else ([], 1)
theorem impl_renderCurve (A : Option Addr) (n c m : Nat) (xs : List (Int × Int)) (w : World) (hx : RA pt 2 w w.heap.size A n xs) (hok : M.curveOk xs = true) (hm : m ≤ 1000000) :
    Calls Try.prog 86 #[.agg #[.slice A n c], .int .i64 m] w (Ret1 2 w (M.rend xs m)) := by
  have hok' := Lib.hid hok
  clear hok
  have hself := lay_cell w (.slice A n c) 30
  have hsize : (w.alloc (.cells #[.slice A n c] 30)).heap.size = w.heap.size + 1 := by simp
  have hbw : Below w.heap.size w (w.alloc (.cells #[.slice A n c] 30)) := (Below.refl _ _).alloc (Nat.le_refl _) _
  go_enter Try.func86, Try.ntmps86
  go_wp2_with (go_at_call 92; refine (impl_zeros _ _ (by omega) (by omega)).mono ?_; rintro e w1 ⟨v1, rfl, own1, bel1⟩; rw [Int.toNat_natCast] at own1; obtain ⟨A1, c1, rfl, _⟩ := own1.shape; rw [List.length_replicate] at *)
  rw [hsize] at own1 bel1
  go_loopw [6, 11] (fun _ i wr => ∃ k : Nat, i = .int .i64 k ∧ k ≤ m ∧ OI 2 (w.heap.size + 1) wr (.slice A1 m c1) ((M.rend xs m).take k ++ (List.replicate m 0).drop k) ∧ Below (w.heap.size + 1) (w.alloc (.cells #[.slice A n c] 30)) wr)
    (fun _ i _ => m - (intOf i).toNat)
  case atStart => exact ⟨0, rfl, by omega, by simpa using own1, bel1⟩
  case round =>
    obtain ⟨k, rfl, hk, own, hb⟩ := hrel
    have hbb : Below w.heap.size w wr := hbw.trans (hb.mono (by omega))
    have hv : wr.cell? ⟨w.heap.size, 0, none⟩ = some (.slice A n c) := by rw [hb.cell (by simp)]; exact hself
    by_cases hlt : k < m
    · obtain ⟨g, rfl, hB, hgl⟩ := own.form' (by omega)
      have hxr := hx.later hbb
      go_wp2_with (go_at_call 96; refine (impl_valueAt _ _ _ _ _ _ hxr hok'.out (by omega)).mono ?_; rintro e w2 ⟨rfl, bel2⟩; have own2 := own.below bel2; obtain ⟨z, Z, hc2, hf2, _, _⟩ := own2.at' hlt)
      go_roundw
      case rel =>
        refine ⟨k + 1, by go_num, by omega, ?_, (hb.trans (bel2.mono (by rw [← hsize]; exact hb.size))).setCell hB _⟩
        have h3 := own2.stored' k (M.atC xs (k : Int))
        rw [M.set_mid (by rw [M.rend_len, List.length_replicate]) (M.rend_at hlt)] at h3
        exact h3
      case measure => simp [intOf]; omega
    · go_wp2
      go_ret
      rw [List.take_of_length_le (by rw [M.rend_len]; omega), List.drop_eq_nil_of_le (by simp; omega), List.append_nil] at own
      exact ⟨_, rfl, own.base (by omega), hbb⟩
theorem impl_RenderCurve (A : Option Addr) (n c : Nat) (xs : List (Int × Int)) (t : Int) (w : World) (hx : RA pt 2 w w.heap.size A n xs) (hn : n ≤ 1000000000) :
    Calls Try.prog 28 #[.agg #[.slice A n c], .int .i64 t] w (Ret2 2 w (M.rendR xs t)) := by
  have hbw : Below w.heap.size w (w.alloc (.cells #[.slice A n c] 30)) := (Below.refl _ _).alloc (Nat.le_refl _) _
  have hself := lay_cell w (.slice A n c) 30
  have hx1 := hx.later hbw
  cases hok : M.curveOk xs
  · have hr := Lib.hid (show M.rendR xs t = ([], 1) by rw [M.rendR, hok]; rfl)
    go_enter Try.func28, Try.ntmps28
    go_wp2_with (go_at_call 74; refine (impl_isCurve _ _ _ _ _ hx1 hn).mono ?_; rw [hok]; rintro e w2 ⟨rfl, bel2⟩)
    go_ret2
    rw [hr.out]; exact ⟨_, rfl, OI.nil _ _ _, hbw.trans (bel2.mono hbw.size)⟩
  · cases hin : M.inn t 0 4000
    · have hr := Lib.hid (show M.rendR xs t = ([], 2) by rw [M.rendR, hok, hin]; rfl)
      go_enter Try.func28, Try.ntmps28
      go_wp2_with (first | (go_at_call 85; refine (impl_isCount _ _).mono ?_; rintro e w' ⟨rfl, rfl⟩) | (go_at_call 74; refine (impl_isCurve _ _ _ _ _ hx1 hn).mono ?_; rw [hok]; rintro e w2 ⟨rfl, bel2⟩))
      go_ret2
      rw [hr.out]; exact ⟨_, rfl, OI.nil _ _ _, hbw.trans (bel2.mono hbw.size)⟩
    · obtain ⟨m, rfl⟩ : ∃ m : Nat, t = m := ⟨t.toNat, by have := M.inn_iff.1 hin; omega⟩
      have hm := Lib.hid (M.inn_iff.1 hin)
      have hm4 : m ≤ 1000000 := by have := hm.out; omega
      have hr := Lib.hid (show M.rendR xs m = (M.rend xs m, 0) by rw [M.rendR, hok, hin]; rfl)
      go_enter Try.func28, Try.ntmps28
      go_wp2_with (first | (go_at_call 85; refine (impl_isCount _ _).mono ?_; rintro e w' ⟨rfl, rfl⟩) | (go_at_call 74; refine (impl_isCurve _ _ _ _ _ hx1 hn).mono ?_; rw [hok]; rintro e w2 ⟨rfl, bel2⟩; have hv : w2.cell? ⟨w.heap.size, 0, none⟩ = some (.slice A n c) := (by rw [bel2.cell (by simp)]; exact hself)) | (go_at_call 86; refine (impl_renderCurve _ _ _ _ _ _ (hx1.later bel2) hok hm4).mono ?_; rintro e w3 ⟨v3, rfl, own3, bel3⟩))
      go_ret2
      have hb2 := hbw.trans (bel2.mono hbw.size)
      rw [hr.out]; exact ⟨_, rfl, own3.base hb2.size, hb2.trans (bel3.mono hb2.size)⟩
theorem spec_RenderCurve (A : Option Addr) (n c : Nat) (xs : List (Int × Int)) (t : Int) (w : World) (hx : RA pt 2 w w.heap.size A n xs) (hn : n ≤ 1000000000) :
    Calls Try.prog 27 #[.agg #[.slice A n c], .int .i64 t] w (Ret2 2 w (M.rendR xs t)) := by
  have hbw : Below w.heap.size w (w.alloc (.cells #[.slice A n c] 30)) := (Below.refl _ _).alloc (Nat.le_refl _) _
  have hself := lay_cell w (.slice A n c) 30
  have hsize : (w.alloc (.cells #[.slice A n c] 30)).heap.size = w.heap.size + 1 := by simp
  have hx1 := hx.later hbw
  cases hok : M.curveOk xs
  · have hr := Lib.hid (show M.rendR xs t = ([], 1) by rw [M.rendR, hok]; rfl)
    go_enter Try.func27, Try.ntmps27
    go_wp2_with (go_at_call 71; refine (spec_l25Ok _ _ _ _ _ _ hself hx1 hn).mono ?_; rw [hok]; rintro e w2 ⟨rfl, bel2⟩)
    go_ret2
    rw [hr.out]; exact ⟨_, rfl, OI.nil _ _ _, hbw.trans (bel2.mono hbw.size)⟩
  · cases hin : M.inn t 0 4000
    · have hr := Lib.hid (show M.rendR xs t = ([], 2) by rw [M.rendR, hok, hin]; rfl)
      go_enter Try.func27, Try.ntmps27
      go_wp2_with (first | (go_at_call 79; refine (spec_l00In _ _ _ _).mono ?_; rintro e w' ⟨rfl, rfl⟩) | (go_at_call 71; refine (spec_l25Ok _ _ _ _ _ _ hself hx1 hn).mono ?_; rw [hok]; rintro e w2 ⟨rfl, bel2⟩))
      go_ret2
      rw [hr.out]; exact ⟨_, rfl, OI.nil _ _ _, hbw.trans (bel2.mono hbw.size)⟩
    · obtain ⟨m, rfl⟩ : ∃ m : Nat, t = m := ⟨t.toNat, by have := M.inn_iff.1 hin; omega⟩
      have hm := Lib.hid (M.inn_iff.1 hin)
      have hm4 : m ≤ 4000 := by have := hm.out; omega
      have hr := Lib.hid (show M.rendR xs m = (M.rend xs m, 0) by rw [M.rendR, hok, hin]; rfl)
      have hok' := Lib.hid hok
      go_enter Try.func27, Try.ntmps27
      go_wp2_with (first | (go_at_call 79; refine (spec_l00In _ _ _ _).mono ?_; rintro e w' ⟨rfl, rfl⟩) | (go_at_call 71; refine (spec_l25Ok _ _ _ _ _ _ hself hx1 hn).mono ?_; rw [hok]; rintro e w2 ⟨rfl, bel2⟩))
      rw [hsize] at bel2
      have hs2 : w.heap.size + 1 ≤ w2.heap.size := by rw [← hsize]; exact bel2.size
      clear hok hin
      go_loopw [6, 7] (fun v i wr => ∃ k : Nat, i = .int .i64 k ∧ k ≤ m ∧ OI 2 (w.heap.size + 1) wr v ((M.rend xs m).take k) ∧ Below (w.heap.size + 1) (w.alloc (.cells #[.slice A n c] 30)) wr) (fun _ i _ => m - (intOf i).toNat)
      case atStart => exact ⟨0, rfl, by omega, (OI.made _ _).base hs2, bel2.alloc hs2 _⟩
      case round =>
        obtain ⟨k, rfl, hk, own, hb⟩ := hrel
        have hbb : Below w.heap.size w wr := hbw.trans (hb.mono (by omega))
        have hv : wr.cell? ⟨w.heap.size, 0, none⟩ = some (.slice A n c) := by rw [hb.cell (by simp)]; exact hself
        have hsz : w.heap.size + 1 ≤ wr.heap.size := by rw [← hsize]; exact hb.size
        by_cases hlt : k < m
        · have hxr := hx.later hbb
          have hk1 : ((M.rend xs m).take k).length ≤ 1000000000 := by rw [List.length_take]; omega
          go_wp2_with (first | (go_at_call 84; refine (spec_l25At _ _ _ _ _ _ hxr hok'.out (by omega)).mono ?_; rintro e w3 ⟨rfl, bel3⟩; have own3 := own.below bel3; have hs3 := Nat.le_trans hsz bel3.size) | (at_builtin; refine wpList_push1 ei_i64 rfl _ _ rfl own3 rfl rfl rfl (by unfold maxLen; omega) (by omega) hs3 ?_; intro v1 w1 own1 gr1 bel1))
          go_roundw
          case rel => exact ⟨k + 1, by go_num, by omega, by rw [M.take_at (M.rend_at hlt)]; exact OI.push own1, (hb.trans (bel3.mono hsz)).trans bel1⟩
          case measure => simp [intOf]; omega
        · go_wp2
          go_ret2
          rw [List.take_of_length_le (by rw [M.rend_len]; omega)] at own
          rw [hr.out]; exact ⟨_, rfl, own.base (by omega), hbb⟩
end Go.Proofs.Ytckihflfjecpbaa
namespace Go.Proofs.Ytckihflfjecpbaa
open Go.RowKit Go.Sort
set_option maxHeartbeats 400000
set_option maxRecDepth 100000
/-- As wpList_push, the new block's number in the walk's spelling. -/
theorem wpList_pushH {P : Program} {t e : TypeId} {z : Value} {size bytes : Nat} (hE : EI P t e z size bytes) {w : World} {ops : Array Oper} {rest : List Oper} {o : Oper} {a : Act} {Q : Exit → Act → World → Prop} (us : Array Value)
    (hgd : o.guard = none) (s x : Operand) (ho : o.op = .call { callee := .builtin .append, args := #[s, x], argTypes := #[t, t] })
    {B : Nat} {v : Value} {n : Nat} {xs : List Value} (hown : w.ownsRow B e size v n xs) (hs : a.eval s = v) (H : Nat) (hH : w.heap.size = H)
    (hx : a.eval x = .slice (some ⟨H, 0, none⟩) 1 1) (hus : us.size = size) (h1 : ∀ u ∈ us.toList, u.oneCell' = true)
    (hn : n + 1 ≤ maxLen) (hbytes : (n + 1) * bytes ≤ 140737488355328) (hbase : B ≤ w.heap.size)
    (K : ∀ v' w', w'.ownsRow B e size v' (n + 1) (xs ++ us.toList) → w.grownBy w' v.ownBlock → Below B w w' → wpList P ops Q rest (a.put o.dst v') w') :
    wpList P ops Q (o :: rest) a (w.alloc (.cells us e)) := by
  subst hH
  exact wpList_push hE us hgd s x ho hown hs hx hus h1 hn hbytes hbase K
/-- What a function of a curve and a code gives back. -/
def RetC (e : TypeId) (w : World) (r : List (Int × Int) × Int) (en : Ending) (w' : World) : Prop :=
  ∃ v, en = .returned (.tuple #[.agg #[v], .int .i64 r.2]) ∧ OA pt e 2 w.heap.size w'.heap.size w' v r.1 ∧ Below w.heap.size w w'
def M.setP (xs : List (Int × Int)) (p : Int × Int) : List (Int × Int) := xs.filter (fun q => decide (q.1 < p.1)) ++ p :: xs.filter (fun q => decide (p.1 < q.1))
def M.setR (xs : List (Int × Int)) (p : Int × Int) : List (Int × Int) × Int :=
  if M.curveOk xs then (if M.ptOk p then (if (M.setP xs p).length ≤ 24 then (M.setP xs p, 0) else ([], 5)) else ([], 2)) else ([], 1)
theorem M.filter_at {xs : List (Int × Int)} {k : Nat} {x : Int × Int} (f : Int × Int → Bool) (hx : xs[k]? = some x) : (xs.take (k + 1)).filter f = (xs.take k).filter f ++ (if f x then [x] else []) := by
  rw [M.take_at hx, List.filter_append]
  congr 1
  cases h : f x <;> simp [h]
theorem impl_SetPoint (A : Option Addr) (n c : Nat) (xs : List (Int × Int)) (p0 p1 : Int) (w : World) (hx : RA pt 2 w w.heap.size A n xs) (hn : n ≤ 1000000000) :
    Calls Try.prog 21 #[.agg #[.slice A n c], .agg #[.int .i64 p0, .int .i64 p1]] w (RetC 34 w (M.setR xs (p0, p1))) := by
  have hl := Lib.hid hx.len
  have hb3 : Below w.heap.size w (((w.alloc (.cells #[.slice A n c] 30)).alloc (.cells #[.int .i64 p0, .int .i64 p1] 34)).alloc (.cells #[.slice none 0 0] 30)) := (((Below.refl _ _).alloc (Nat.le_refl _) _).alloc (by simp) _).alloc (by simp; omega) _
  have hx1 := hx.later hb3
  cases hok : M.curveOk xs
  · have hr := Lib.hid (show M.setR xs (p0, p1) = ([], 1) by rw [M.setR, hok]; rfl)
    go_enter Try.func21, Try.ntmps21
    go_wp2_with (go_at_call 74; refine (impl_isCurve _ _ _ _ _ hx1 hn).mono ?_; rw [hok]; rintro e w2 ⟨rfl, bel2⟩; have hq : w2.cell? ⟨w.heap.size + 1 + 1, 0, none⟩ = some (.slice none 0 0) := (by rw [bel2.cell (by simp)]; simp [go_sem]); have hf : w2.frozen? ⟨w.heap.size + 1 + 1, 0, none⟩ = false := (by rw [bel2.frozen (by simp)]; simp [go_sem]))
    refine bodyPost_ret (v := .tuple #[.agg #[.slice none 0 0], .int .i64 1]) (by simp [results, Try.results21, go_sem, hq, hf]) rfl ?_
    rw [hr.out]
    exact ⟨_, rfl, OA.nil _, (hb3.trans (bel2.mono hb3.size)).setCell (by simp; omega) _⟩
  · cases hp : M.ptOk (p0, p1)
    · have hr := Lib.hid (show M.setR xs (p0, p1) = ([], 2) by rw [M.setR, hok, hp]; rfl)
      go_enter Try.func21, Try.ntmps21
      go_wp2_with (first | (go_at_call 74; refine (impl_isCurve _ _ _ _ _ hx1 hn).mono ?_; rw [hok]; rintro e w2 ⟨rfl, bel2⟩; have hq : w2.cell? ⟨w.heap.size + 1 + 1, 0, none⟩ = some (.slice none 0 0) := (by rw [bel2.cell (by simp)]; simp [go_sem]); have hf : w2.frozen? ⟨w.heap.size + 1 + 1, 0, none⟩ = false := (by rw [bel2.frozen (by simp)]; simp [go_sem]); have h0 : w2.cell? ⟨w.heap.size + 1, 0, none⟩ = some (.int .i64 p0) := (by rw [bel2.cell (by simp)]; simp [go_sem]); have h1 : w2.cell? ⟨w.heap.size + 1, 1, none⟩ = some (.int .i64 p1) := (by rw [bel2.cell (by simp)]; simp [go_sem]); have hs2 : w.heap.size + 1 + 1 + 1 ≤ w2.heap.size := (by have := bel2.size; simpa using this)) | (go_at_call 75; refine (impl_isPoint _ _ _).mono ?_; rw [hp]; rintro e w3 ⟨rfl, bel3⟩; have hq3 : w3.cell? ⟨w.heap.size + 1 + 1, 0, none⟩ = some (.slice none 0 0) := (by rw [bel3.cell (by simp; omega)]; exact hq); have hf3 : w3.frozen? ⟨w.heap.size + 1 + 1, 0, none⟩ = false := (by rw [bel3.frozen (by simp; omega)]; exact hf)))
      refine bodyPost_ret (v := .tuple #[.agg #[.slice none 0 0], .int .i64 2]) (by simp [results, Try.results21, go_sem, hq3, hf3]) rfl ?_
      rw [hr.out]
      exact ⟨_, rfl, OA.nil _, (bel_trans (hb3.trans (bel2.mono hb3.size)) bel3).setCell (by simp; omega) _⟩
    · go_enter Try.func21, Try.ntmps21
      go_wp2_with (first | (go_at_call 74; refine (impl_isCurve _ _ _ _ _ hx1 hn).mono ?_; rw [hok]; rintro e w2 ⟨rfl, bel2⟩; have hq : w2.cell? ⟨w.heap.size + 1 + 1, 0, none⟩ = some (.slice none 0 0) := (by rw [bel2.cell (by simp)]; simp [go_sem]); have hf : w2.frozen? ⟨w.heap.size + 1 + 1, 0, none⟩ = false := (by rw [bel2.frozen (by simp)]; simp [go_sem]); have h0 : w2.cell? ⟨w.heap.size + 1, 0, none⟩ = some (.int .i64 p0) := (by rw [bel2.cell (by simp)]; simp [go_sem]); have h1 : w2.cell? ⟨w.heap.size + 1, 1, none⟩ = some (.int .i64 p1) := (by rw [bel2.cell (by simp)]; simp [go_sem]); have hs2 : w.heap.size + 1 + 1 + 1 ≤ w2.heap.size := (by have := bel2.size; simpa using this)) | (go_at_call 75; refine (impl_isPoint _ _ _).mono ?_; rw [hp]; rintro e w3 ⟨rfl, bel3⟩; have hq3 : w3.cell? ⟨w.heap.size + 1 + 1, 0, none⟩ = some (.slice none 0 0) := (by rw [bel3.cell (by simp; omega)]; exact hq); have hf3 : w3.frozen? ⟨w.heap.size + 1 + 1, 0, none⟩ = false := (by rw [bel3.frozen (by simp; omega)]; exact hf); have h03 : w3.cell? ⟨w.heap.size + 1, 0, none⟩ = some (.int .i64 p0) := (by rw [bel3.cell (by simp; omega)]; exact h0); have h13 : w3.cell? ⟨w.heap.size + 1, 1, none⟩ = some (.int .i64 p1) := (by rw [bel3.cell (by simp; omega)]; exact h1); have hv3 : w3.cell? ⟨w.heap.size, 0, none⟩ = some (.slice A n c) := (by rw [bel3.cell (by simp; omega), bel2.cell (by simp; omega)]; simp [go_sem]); have z0 : w.heap.size < w3.heap.size := (by have := bel3.size; omega); have z1 : w.heap.size + 1 < w3.heap.size := (by have := bel3.size; omega); have z2 : w.heap.size + 1 + 1 < w3.heap.size := (by have := bel3.size; omega)))
      have B3 := bel_trans (hb3.trans (bel2.mono hb3.size)) bel3
      clear hq hf h0 h1 bel2 hb3 hx1
      go_loopw [23] (fun i wr => ∃ k : Nat, i = .int .i64 k ∧ k ≤ n ∧ (∃ v, wr.cell? ⟨w3.heap.size, 0, none⟩ = some v ∧ OA pt 34 2 (w3.heap.size + 1) wr.heap.size wr v ((xs.take k).filter (fun q => decide (q.1 < p0)))) ∧ wr.frozen? ⟨w3.heap.size, 0, none⟩ = false ∧ w3.heap.size + 1 ≤ wr.heap.size ∧ Below w3.heap.size w3 wr) (fun i _ => n - (intOf i).toNat)
      case atStart => exact ⟨0, rfl, by omega, ⟨_, by simp [go_sem], OA.nil _⟩, by simp [go_sem], by simp, (Below.refl _ _).alloc (Nat.le_refl _) _⟩
      case round =>
        obtain ⟨k, rfl, hk, ⟨v, hv, own⟩, hfv, hsz, hb⟩ := hrel
        obtain ⟨A4, c4, rfl, -⟩ := own.shape
        have hbb := B3.trans (hb.mono (by omega))
        have y0 : w.heap.size < wr.heap.size := by omega
        have y1 : w.heap.size + 1 < wr.heap.size := by omega
        have y2 : w.heap.size + 1 + 1 < wr.heap.size := by omega
        have y3 : w3.heap.size < wr.heap.size := by omega
        have g0 : wr.cell? ⟨w.heap.size + 1, 0, none⟩ = some (.int .i64 p0) := by rw [hb.cell (by simpa using z1)]; exact h03
        have g1 : wr.cell? ⟨w.heap.size + 1, 1, none⟩ = some (.int .i64 p1) := by rw [hb.cell (by simpa using z1)]; exact h13
        have gv : wr.cell? ⟨w.heap.size, 0, none⟩ = some (.slice A n c) := by rw [hb.cell (by simpa using z0)]; exact hv3
        have gq : wr.cell? ⟨w.heap.size + 1 + 1, 0, none⟩ = some (.slice none 0 0) := by rw [hb.cell (by simpa using z2)]; exact hq3
        have gf : wr.frozen? ⟨w.heap.size + 1 + 1, 0, none⟩ = false := by rw [hb.frozen (by simpa using z2)]; exact hf3
        by_cases hlt : k < n
        · obtain ⟨b, o, ⟨q0, q1⟩, rfl, hab, X, hc⟩ := (hx.below hbb).at pt_len (by decide) hlt
          have hc0 : wr.cell? ⟨b, o + k * 2, none⟩ = some (.int .i64 q0) := hc 0 _ rfl
          have hc1 : wr.cell? ⟨b, o + k * 2 + 1, none⟩ = some (.int .i64 q1) := hc 1 _ rfl
          clear hc
          have hF := Lib.hid (M.filter_at (fun q => decide (q.1 < p0)) X.out)
          by_cases hq : q0 < p0
          · have hcl : ((xs.take k).filter (fun q => decide (q.1 < p0))).length ≤ 1000000000 := Nat.le_trans (List.length_filter_le _ _) (by rw [List.length_take]; omega)
            have ownA := own.1.alloc (.cells #[.int .i64 q0, .int .i64 q1] 34)
            go_wp2_with (at_builtin; (refine wpList_pushH ei_pt _ rfl _ _ rfl ownA rfl (wr.heap.size + 1) (by simp) rfl rfl (by simp [Value.oneCell']) (by unfold maxLen; omega) (by omega) (by simp; omega) ?_; intro v1 w1 own1 gr1 bel1; obtain ⟨A5, c5, rfl, -⟩ := own_shape own1; have e0 : w1.cell? ⟨w3.heap.size, 0, none⟩ = some (.slice A4 ((xs.take k).filter (fun q => decide (q.1 < p0))).length c4) := (by rw [bel1.cell (by simp)]; simp [go_sem, *]); have e1 : w1.frozen? ⟨w3.heap.size, 0, none⟩ = false := (by rw [bel1.frozen (by simp)]; simp [go_sem, *])))
            go_roundw
            case rel =>
              have o5 := (OA.push (enc := pt) (x := (q0, q1)) own1).mid (Mid.cell w1 w3.heap.size 0 (.slice A5 (((xs.take k).filter (fun q => decide (q.1 < p0))).length + 1) c5)) (.inr (Nat.le_refl _)) (Nat.le_refl _)
              refine ⟨k + 1, by go_num, by omega, ⟨.slice A5 (((xs.take k).filter (fun q => decide (q.1 < p0))).length + 1) c5, by simp [go_sem, *], ?_⟩, by simp [go_sem, *], by have := bel1.size; simp at this ⊢; omega, ((hb.alloc (by omega) _).trans (bel1.mono (by omega))).setCell (Nat.le_refl _) _⟩
              rw [hF.out, if_pos (by simpa using hq)]
              exact o5.wide (Nat.le_refl _) (by simp)
            case measure => simp [intOf]; omega
          · go_wp2
            go_roundw
            case rel =>
              refine ⟨k + 1, by go_num, by omega, ⟨.slice A4 ((xs.take k).filter (fun q => decide (q.1 < p0))).length c4, by simp [go_sem, *], ?_⟩, by simp [go_sem, *], by simp; omega, hb.alloc (by omega) _⟩
              rw [hF.out, if_neg (by simpa using hq), List.append_nil]
              exact (own.below ((Below.refl _ _).alloc (Nat.le_refl _) _) (Nat.le_refl _)).wide (Nat.le_refl _) (by simp)
            case measure => simp [intOf]; omega
        · obtain rfl : n = k := by omega
          rw [List.take_of_length_le (by rw [hl.out]; omega)] at hv own
          have hcl : (xs.filter (fun q => decide (q.1 < p0))).length ≤ 1000000000 := Nat.le_trans (List.length_filter_le _ _) (by rw [hl.out]; omega)
          go_wp2_with (at_builtin; refine wpList_push ei_pt _ rfl _ _ rfl own.1 rfl rfl rfl (by simp [Value.oneCell']) (by unfold maxLen; omega) (by omega) (by omega) ?_; intro v1 w1 own1 gr1 bel1; obtain ⟨A5, c5, rfl, -⟩ := own_shape own1; have e0 : w1.cell? ⟨w3.heap.size, 0, none⟩ = some (.slice A4 (xs.filter (fun q => decide (q.1 < p0))).length c4) := (by rw [bel1.cell (by simp)]; exact hv); have e1 : w1.frozen? ⟨w3.heap.size, 0, none⟩ = false := (by rw [bel1.frozen (by simp)]; exact hfv); have e2 : w1.cell? ⟨w.heap.size, 0, none⟩ = some (.slice A n c) := (by rw [bel1.cell (by simp; omega)]; exact gv))
          have o5 := ((OA.push (enc := pt) (x := (p0, p1)) own1).mid (Mid.cell w1 w3.heap.size 0 (.slice A5 ((xs.filter (fun q => decide (q.1 < p0))).length + 1) c5)) (.inr (Nat.le_refl _)) (Nat.le_refl _)).wide (Nat.le_refl _) (show w1.heap.size ≤ (w1.setCell ⟨w3.heap.size, 0, none⟩ (.slice A5 ((xs.filter (fun q => decide (q.1 < p0))).length + 1) c5)).heap.size by simp)
          have hb5 : Below w3.heap.size w3 (w1.setCell ⟨w3.heap.size, 0, none⟩ (.slice A5 ((xs.filter (fun q => decide (q.1 < p0))).length + 1) c5)) := (hb.trans (bel1.mono (by omega))).setCell (Nat.le_refl _) _
          have s5 : w3.heap.size < w1.heap.size := by have := bel1.size; omega
          clear own own1 hv hfv g0 g1 gv gq gf y0 y1 y2 y3
          go_loopw [48] (fun i wr => ∃ k : Nat, i = .int .i64 k ∧ k ≤ n ∧ (∃ v, wr.cell? ⟨w3.heap.size, 0, none⟩ = some v ∧ OA pt 34 2 (w3.heap.size + 1) wr.heap.size wr v (xs.filter (fun q => decide (q.1 < p0)) ++ [(p0, p1)] ++ (xs.take k).filter (fun q => decide (p0 < q.1)))) ∧ wr.frozen? ⟨w3.heap.size, 0, none⟩ = false ∧ w3.heap.size + 1 ≤ wr.heap.size ∧ Below w3.heap.size w3 wr) (fun i _ => n - (intOf i).toNat)
          case atStart => exact ⟨0, rfl, by omega, ⟨.slice A5 ((xs.filter (fun q => decide (q.1 < p0))).length + 1) c5, by simp [go_sem, *], by simpa using o5⟩, by simp [go_sem, *], by simp; omega, hb5⟩
          case round =>
            clear hb hsz e0 e1 e2 gr1 bel1 o5 hb5 s5
            clear w1
            obtain ⟨k, rfl, hk, ⟨v, hv, own⟩, hfv, hsz, hb⟩ := hrel
            obtain ⟨A4, c4, rfl, -⟩ := own.shape
            have hbb := B3.trans (hb.mono (by omega))
            have y0 : w.heap.size < wr.heap.size := by omega
            have y1 : w.heap.size + 1 < wr.heap.size := by omega
            have y2 : w.heap.size + 1 + 1 < wr.heap.size := by omega
            have y3 : w3.heap.size < wr.heap.size := by omega
            have g0 : wr.cell? ⟨w.heap.size + 1, 0, none⟩ = some (.int .i64 p0) := by rw [hb.cell (by simpa using z1)]; exact h03
            have gq : wr.cell? ⟨w.heap.size + 1 + 1, 0, none⟩ = some (.slice none 0 0) := by rw [hb.cell (by simpa using z2)]; exact hq3
            have gf : wr.frozen? ⟨w.heap.size + 1 + 1, 0, none⟩ = false := by rw [hb.frozen (by simpa using z2)]; exact hf3
            by_cases hlt : k < n
            · obtain ⟨b, o, ⟨q0, q1⟩, rfl, hab, X, hc⟩ := (hx.below hbb).at pt_len (by decide) hlt
              have hc0 : wr.cell? ⟨b, o + k * 2, none⟩ = some (.int .i64 q0) := hc 0 _ rfl
              have hc1 : wr.cell? ⟨b, o + k * 2 + 1, none⟩ = some (.int .i64 q1) := hc 1 _ rfl
              clear hc
              have hF := Lib.hid (M.filter_at (fun q => decide (p0 < q.1)) X.out)
              by_cases hq : p0 < q0
              · have hcl : (xs.filter (fun q => decide (q.1 < p0)) ++ [(p0, p1)] ++ (xs.take k).filter (fun q => decide (p0 < q.1))).length ≤ 3000000000 := by
                  have := List.length_filter_le (fun q : Int × Int => decide (q.1 < p0)) xs
                  have := List.length_filter_le (fun q : Int × Int => decide (p0 < q.1)) (xs.take k)
                  have := hl.out
                  rw [List.length_take] at *
                  simp only [List.length_append, List.length_singleton]
                  omega
                have ownA := own.1.alloc (.cells #[.int .i64 q0, .int .i64 q1] 34)
                generalize hys : xs.filter (fun q => decide (q.1 < p0)) ++ [(p0, p1)] ++ (xs.take k).filter (fun q => decide (p0 < q.1)) = ys at *
                have hys' := Lib.hid hys
                clear hys
                go_wp2_with (at_builtin; refine wpList_pushH ei_pt _ rfl _ _ rfl ownA rfl (wr.heap.size + 1) (by simp) rfl rfl (by simp [Value.oneCell']) (by unfold maxLen; omega) (by omega) (by simp; omega) ?_; intro v1 w1 own1 gr1 bel1; obtain ⟨A5, c5, rfl, -⟩ := own_shape own1; have e0 : w1.cell? ⟨w3.heap.size, 0, none⟩ = some (.slice A4 ys.length c4) := (by rw [bel1.cell (by simp)]; simp [go_sem, *]); have e1 : w1.frozen? ⟨w3.heap.size, 0, none⟩ = false := (by rw [bel1.frozen (by simp)]; simp [go_sem, *]))
                go_roundw
                case rel =>
                  have o5 := (OA.push (enc := pt) (x := (q0, q1)) own1).mid (Mid.cell w1 w3.heap.size 0 (.slice A5 (ys.length + 1) c5)) (.inr (Nat.le_refl _)) (Nat.le_refl _)
                  refine ⟨k + 1, by go_num, by omega, ⟨.slice A5 (ys.length + 1) c5, by simp [go_sem, *], ?_⟩, by simp [go_sem, *], by have := bel1.size; simp at this ⊢; omega, ((hb.alloc (by omega) _).trans (bel1.mono (by omega))).setCell (Nat.le_refl _) _⟩
                  rw [hF.out, if_pos (by simpa using hq), ← List.append_assoc, hys'.out]
                  exact o5.wide (Nat.le_refl _) (by simp)
                case measure => simp [intOf]; omega
              · have hv' := Lib.hid (show (wr.alloc (.cells #[.int .i64 q0, .int .i64 q1] 34)).cell? ⟨w3.heap.size, 0, none⟩ = some _ by rw [World.cell?_alloc_lt _ _ _ (by simpa using y3)]; exact hv)
                go_wp2
                go_roundw
                case rel =>
                  refine ⟨k + 1, by go_num, by omega, ⟨_, hv'.out, ?_⟩, by simp [go_sem, *], by simp; omega, hb.alloc (by omega) _⟩
                  rw [hF.out, if_neg (by simpa using hq), List.append_nil]
                  exact (own.below ((Below.refl _ _).alloc (Nat.le_refl _) _) (Nat.le_refl _)).wide (Nat.le_refl _) (by simp)
                case measure => simp [intOf]; omega
            · obtain rfl : n = k := by omega
              rw [List.take_of_length_le (by rw [hl.out]; omega)] at hv own
              have hP := Lib.hid (show M.setR xs (p0, p1) = if (xs.filter (fun q => decide (q.1 < p0)) ++ [(p0, p1)] ++ xs.filter (fun q => decide (p0 < q.1))).length ≤ 24 then (xs.filter (fun q => decide (q.1 < p0)) ++ [(p0, p1)] ++ xs.filter (fun q => decide (p0 < q.1)), 0) else ([], 5) by
                rw [M.setR, hok, hp, M.setP]
                simp)
              generalize xs.filter (fun q => decide (q.1 < p0)) ++ [(p0, p1)] ++ xs.filter (fun q => decide (p0 < q.1)) = ys at *
              by_cases hlen : 24 < ys.length
              · go_wp2
                refine bodyPost_ret (v := .tuple #[.agg #[.slice none 0 0], .int .i64 5]) (by simp [results, Try.results21, go_sem, gq, gf]) rfl ?_
                rw [hP.out, if_neg (by omega)]
                exact ⟨_, rfl, OA.nil _, hbb.setCell (by simp; omega) _⟩
              · go_wp2
                refine bodyPost_ret (v := .tuple #[.agg #[.slice A4 ys.length c4], .int .i64 0]) (by simp [results, Try.results21, go_sem, gq, gf]) rfl ?_
                rw [hP.out, if_pos (by omega)]
                exact ⟨_, rfl, (own.mid (Mid.cell wr (w.heap.size + 1 + 1) 0 (.slice A4 ys.length c4)) (.inr (by omega)) (Nat.le_refl _)).wide (by omega) (by simp), hbb.setCell (by simp; omega) _⟩
end Go.Proofs.Ytckihflfjecpbaa
namespace Go.Proofs.Ytckihflfjecpbaa
open Go.RowKit Go.Sort
set_option maxHeartbeats 400000
set_option maxRecDepth 100000
/-- What the reference has collected after k points. -/
def M.setTo (xs : List (Int × Int)) (p : Int × Int) (k : Nat) (dn : Bool) : List (Int × Int) :=
  if dn then (xs.take k).filter (fun q => decide (q.1 < p.1)) ++ [p] ++ (xs.take k).filter (fun q => decide (p.1 < q.1)) else (xs.take k).filter (fun q => decide (q.1 < p.1))
def M.setInv (xs : List (Int × Int)) (p : Int × Int) (k : Nat) (dn : Bool) : Prop :=
  (dn = true → 0 < k ∧ ∃ q, xs[k - 1]? = some q ∧ p.1 ≤ q.1) ∧ (dn = false → (xs.take k).filter (fun q => decide (p.1 < q.1)) = [])
theorem M.setTo_len (xs : List (Int × Int)) (p : Int × Int) (k : Nat) (dn : Bool) : (M.setTo xs p k dn).length ≤ 2 * xs.length + 1 := by
  unfold M.setTo
  have h1 := List.length_filter_le (fun q : Int × Int => decide (q.1 < p.1)) (xs.take k)
  have h2 := List.length_filter_le (fun q : Int × Int => decide (p.1 < q.1)) (xs.take k)
  have h3 : (xs.take k).length ≤ xs.length := by rw [List.length_take]; omega
  split
  · simp only [List.length_append, List.length_singleton]
    omega
  · omega
theorem M.setInv_zero (xs : List (Int × Int)) (p : Int × Int) : M.setInv xs p 0 false := ⟨by simp, by simp⟩
/-- A point before p. -/
theorem M.setP_low {xs : List (Int × Int)} {p q : Int × Int} {k : Nat} (hq : xs[k]? = some q) (h : q.1 < p.1) (hi : M.setInv xs p k false) : M.setInv xs p (k + 1) false ∧ M.setTo xs p (k + 1) false = M.setTo xs p k false ++ [q] := by
  refine ⟨⟨by simp, fun _ => ?_⟩, ?_⟩
  · rw [M.filter_at _ hq, hi.2 rfl, if_neg (by simp; omega)]
    rfl
  · simp only [M.setTo, Bool.false_eq_true, if_false]
    rw [M.filter_at _ hq, if_pos (by simpa using h)]
/-- The point at p's time. -/
theorem M.setP_same {xs : List (Int × Int)} {p q : Int × Int} {k : Nat} (hq : xs[k]? = some q) (h : q.1 = p.1) (hi : M.setInv xs p k false) : M.setInv xs p (k + 1) true ∧ M.setTo xs p (k + 1) true = M.setTo xs p k false ++ [p] := by
  refine ⟨⟨fun _ => ⟨by omega, q, by simpa using hq, by omega⟩, by simp⟩, ?_⟩
  simp only [M.setTo, Bool.false_eq_true, if_false, if_true]
  rw [M.filter_at _ hq, M.filter_at _ hq, hi.2 rfl, if_neg (by simp; omega), if_neg (by simp; omega)]
  simp
/-- The first point behind p. -/
theorem M.setP_high {xs : List (Int × Int)} {p q : Int × Int} {k : Nat} (hq : xs[k]? = some q) (h : p.1 < q.1) (hi : M.setInv xs p k false) : M.setInv xs p (k + 1) true ∧ M.setTo xs p (k + 1) true = M.setTo xs p k false ++ [p] ++ [q] := by
  refine ⟨⟨fun _ => ⟨by omega, q, by simpa using hq, by omega⟩, by simp⟩, ?_⟩
  simp only [M.setTo, Bool.false_eq_true, if_false, if_true]
  rw [M.filter_at _ hq, M.filter_at _ hq, hi.2 rfl, if_neg (by simp; omega), if_pos (by simpa using h)]
  simp
/-- A point further behind. -/
theorem M.setP_more {xs : List (Int × Int)} {p q : Int × Int} {k : Nat} (hok : M.curveOk xs = true) (hq : xs[k]? = some q) (hi : M.setInv xs p k true) : p.1 < q.1 ∧ M.setInv xs p (k + 1) true ∧ M.setTo xs p (k + 1) true = M.setTo xs p k true ++ [q] := by
  obtain ⟨hk, r, hr, hpr⟩ := hi.1 rfl
  have hlt : p.1 < q.1 := by have := M.curve_lt hok hk hr hq; omega
  refine ⟨hlt, ⟨fun _ => ⟨by omega, q, by simpa using hq, by omega⟩, by simp⟩, ?_⟩
  simp only [M.setTo, if_true]
  rw [M.filter_at _ hq, M.filter_at _ hq, if_neg (by simp; omega), if_pos (by simpa using hlt)]
  simp
theorem M.setP_end {xs : List (Int × Int)} {p : Int × Int} {dn : Bool} {n : Nat} (hn : xs.length = n) (hi : M.setInv xs p n dn) : (if dn then M.setTo xs p n dn else M.setTo xs p n dn ++ [p]) = M.setP xs p := by
  have ht : xs.take n = xs := List.take_of_length_le (by omega)
  cases dn
  · have := hi.2 rfl
    simp only [M.setTo, M.setP, ht, Bool.false_eq_true, if_false] at *
    rw [this]
  · simp only [M.setTo, M.setP, ht, if_true]
    simp
theorem OA.made0 {α : Type} {enc : α → List Value} {e : TypeId} {s : Nat} (w : World) : OA enc e s w.heap.size (w.alloc (.cells #[] e)).heap.size (w.alloc (.cells #[] e)) (.slice (some ⟨w.heap.size, 0, none⟩) 0 0) [] :=
  OX.of_own (World.ownsRow_made _ _ _ (Nat.le_refl _) (by simp [maxLen]) (by simp))
theorem spec_SetPoint (A : Option Addr) (n c : Nat) (xs : List (Int × Int)) (p0 p1 : Int) (w : World) (hx : RA pt 2 w w.heap.size A n xs) (hn : n ≤ 1000000000) :
    Calls Try.prog 18 #[.agg #[.slice A n c], .agg #[.int .i64 p0, .int .i64 p1]] w (RetC 34 w (M.setR xs (p0, p1))) := by
  have hl := Lib.hid hx.len
  have hb3 : Below w.heap.size w (((w.alloc (.cells #[.slice A n c] 30)).alloc (.cells #[.int .i64 p0, .int .i64 p1] 34)).alloc (.cells #[.slice none 0 0] 30)) := (((Below.refl _ _).alloc (Nat.le_refl _) _).alloc (by simp) _).alloc (by simp; omega) _
  have hx1 := hx.later hb3
  have hself : (((w.alloc (.cells #[.slice A n c] 30)).alloc (.cells #[.int .i64 p0, .int .i64 p1] 34)).alloc (.cells #[.slice none 0 0] 30)).cell? ⟨w.heap.size, 0, none⟩ = some (.slice A n c) := by simp [go_sem]
  cases hok : M.curveOk xs
  · have hr := Lib.hid (show M.setR xs (p0, p1) = ([], 1) by rw [M.setR, hok]; rfl)
    go_enter Try.func18, Try.ntmps18
    go_wp2_with (go_at_call 71; refine (spec_l25Ok _ _ _ _ _ _ hself hx1 hn).mono ?_; rw [hok]; rintro e w2 ⟨rfl, bel2⟩; have hq : w2.cell? ⟨w.heap.size + 1 + 1, 0, none⟩ = some (.slice none 0 0) := (by rw [bel2.cell (by simp)]; simp [go_sem]); have hf : w2.frozen? ⟨w.heap.size + 1 + 1, 0, none⟩ = false := (by rw [bel2.frozen (by simp)]; simp [go_sem]))
    refine bodyPost_ret (v := .tuple #[.agg #[.slice none 0 0], .int .i64 1]) (by simp [results, Try.results18, go_sem, hq, hf]) rfl ?_
    rw [hr.out]
    exact ⟨_, rfl, OA.nil _, (hb3.trans (bel2.mono hb3.size)).setCell (by simp; omega) _⟩
  · cases hp : M.ptOk (p0, p1)
    · have hr := Lib.hid (show M.setR xs (p0, p1) = ([], 2) by rw [M.setR, hok, hp]; rfl)
      go_enter Try.func18, Try.ntmps18
      go_wp2_with (first | (go_at_call 71; refine (spec_l25Ok _ _ _ _ _ _ hself hx1 hn).mono ?_; rw [hok]; rintro e w2 ⟨rfl, bel2⟩; have hq : w2.cell? ⟨w.heap.size + 1 + 1, 0, none⟩ = some (.slice none 0 0) := (by rw [bel2.cell (by simp)]; simp [go_sem]); have hf : w2.frozen? ⟨w.heap.size + 1 + 1, 0, none⟩ = false := (by rw [bel2.frozen (by simp)]; simp [go_sem]); have h0 : w2.cell? ⟨w.heap.size + 1, 0, none⟩ = some (.int .i64 p0) := (by rw [bel2.cell (by simp)]; simp [go_sem]); have h1 : w2.cell? ⟨w.heap.size + 1, 1, none⟩ = some (.int .i64 p1) := (by rw [bel2.cell (by simp)]; simp [go_sem])) | (go_at_call 72; refine (spec_l25Point _ _ (p0, p1) _ h0 h1).mono ?_; rw [hp]; rintro e w' ⟨rfl, rfl⟩))
      refine bodyPost_ret (v := .tuple #[.agg #[.slice none 0 0], .int .i64 2]) (by simp [results, Try.results18, go_sem, hq, hf]) rfl ?_
      rw [hr.out]
      exact ⟨_, rfl, OA.nil _, (hb3.trans (bel2.mono hb3.size)).setCell (by simp; omega) _⟩
    · have hok' := Lib.hid hok
      go_enter Try.func18, Try.ntmps18
      go_wp2_with (first | (go_at_call 71; refine (spec_l25Ok _ _ _ _ _ _ hself hx1 hn).mono ?_; rw [hok]; rintro e w2 ⟨rfl, bel2⟩; have hq : w2.cell? ⟨w.heap.size + 1 + 1, 0, none⟩ = some (.slice none 0 0) := (by rw [bel2.cell (by simp)]; simp [go_sem]); have hf : w2.frozen? ⟨w.heap.size + 1 + 1, 0, none⟩ = false := (by rw [bel2.frozen (by simp)]; simp [go_sem]); have h0 : w2.cell? ⟨w.heap.size + 1, 0, none⟩ = some (.int .i64 p0) := (by rw [bel2.cell (by simp)]; simp [go_sem]); have h1 : w2.cell? ⟨w.heap.size + 1, 1, none⟩ = some (.int .i64 p1) := (by rw [bel2.cell (by simp)]; simp [go_sem]); have h2 : w2.cell? ⟨w.heap.size, 0, none⟩ = some (.slice A n c) := (by rw [bel2.cell (by simp; omega)]; exact hself); have z2 : w.heap.size + 1 + 1 < w2.heap.size := (by have := bel2.size; simp at this; omega)) | (go_at_call 72; refine (spec_l25Point _ _ (p0, p1) _ h0 h1).mono ?_; rw [hp]; rintro e w' ⟨rfl, rfl⟩))
      have B2 := hb3.trans (bel2.mono hb3.size)
      clear bel2 hb3 hx1 hself hok
      go_loopw [6, 7, 8] (fun v d i wr => ∃ k : Nat, i = .int .i64 k ∧ k ≤ n ∧ (∃ dn, d = .bool dn ∧ Hid (M.setInv xs (p0, p1) k dn) ∧ OA pt 34 2 w2.heap.size wr.heap.size wr v (M.setTo xs (p0, p1) k dn)) ∧ Below w2.heap.size w2 wr) (fun _ _ i _ => n - (intOf i).toNat)
      case atStart => exact ⟨0, rfl, by omega, ⟨false, rfl, M.setInv_zero _ _, OA.made0 _⟩, (Below.refl _ _).alloc (Nat.le_refl _) _⟩
      case round =>
        obtain ⟨k, rfl, hk, ⟨dn, rfl, H, own⟩, hb⟩ := hrel
        obtain ⟨A4, c4, rfl, -⟩ := own.shape
        have hbb := B2.trans (hb.mono (by omega))
        have hsz := hb.size
        have y0 : w.heap.size < wr.heap.size := by omega
        have y1 : w.heap.size + 1 < wr.heap.size := by omega
        have y2 : w.heap.size + 1 + 1 < wr.heap.size := by omega
        have g0 : wr.cell? ⟨w.heap.size + 1, 0, none⟩ = some (.int .i64 p0) := by rw [hb.cell (by simp; omega)]; exact h0
        have g1 : wr.cell? ⟨w.heap.size + 1, 1, none⟩ = some (.int .i64 p1) := by rw [hb.cell (by simp; omega)]; exact h1
        have g2 : wr.cell? ⟨w.heap.size, 0, none⟩ = some (.slice A n c) := by rw [hb.cell (by simp; omega)]; exact h2
        have gq : wr.cell? ⟨w.heap.size + 1 + 1, 0, none⟩ = some (.slice none 0 0) := by rw [hb.cell (by simpa using z2)]; exact hq
        have gf : wr.frozen? ⟨w.heap.size + 1 + 1, 0, none⟩ = false := by rw [hb.frozen (by simpa using z2)]; exact hf
        by_cases hlt : k < n
        · obtain ⟨b, o, ⟨q0, q1⟩, rfl, hab, X, hc⟩ := (hx.below hbb).at pt_len (by decide) hlt
          have hc0 : wr.cell? ⟨b, o + k * 2, none⟩ = some (.int .i64 q0) := hc 0 _ rfl
          have hc1 : wr.cell? ⟨b, o + k * 2 + 1, none⟩ = some (.int .i64 q1) := hc 1 _ rfl
          clear hc
          have hcl : (M.setTo xs (p0, p1) k dn).length ≤ 3000000000 := by have := M.setTo_len xs (p0, p1) k dn; have := hl.out; omega
          have ownA := own.1.alloc (.cells #[.int .i64 q0, .int .i64 q1] 34)
          have hbA := hb.alloc hsz (.cells #[.int .i64 q0, .int .i64 q1] 34)
          have hneB := Lib.hid (show some wr.heap.size ≠ (Value.slice A4 (M.setTo xs (p0, p1) k dn).length c4).ownBlock from fun e => by have := (World.ownsRow.lt own.1 _ e.symm).2; omega)
          have hzA : (wr.alloc (.cells #[.int .i64 q0, .int .i64 q1] 34)).heap.size = wr.heap.size + 1 := by simp
          generalize hys : M.setTo xs (p0, p1) k dn = ys at *
          have hys' := Lib.hid hys
          clear hys own
          cases dn
          · rcases Int.lt_trichotomy q0 p0 with hq | hq | hq
            · have hne : (q0 != p0) = true := by simp; omega
              go_wp2_with (at_builtin; refine wpList_pushH ei_pt _ rfl _ _ rfl ownA rfl (wr.heap.size + 1) (by simp) rfl rfl (by simp [Value.oneCell']) (by unfold maxLen; omega) (by omega) (by simp; omega) ?_; intro v1 w1 own1 gr1 bel1; obtain ⟨A5, c5, rfl, -⟩ := own_shape own1)
              go_roundw
              case rel =>
                obtain ⟨i1, i2⟩ := M.setP_low X.out (p := (p0, p1)) hq H.out
                refine ⟨k + 1, by go_num, by omega, ⟨false, rfl, Lib.hid i1, ?_⟩, hbA.trans (bel1.mono (Nat.le_refl _))⟩
                rw [i2, hys'.out]
                exact OA.push (enc := pt) (x := (q0, q1)) own1
              case measure => simp [intOf]; omega
            · subst hq
              have hne : (q0 != q0) = false := by simp
              go_wp2_with (at_builtin; refine wpList_pushH ei_pt _ rfl _ _ rfl ownA rfl (wr.heap.size + 1) (by simp) rfl rfl (by simp [Value.oneCell']) (by unfold maxLen; omega) (by omega) (by simp; omega) ?_; intro v1 w1 own1 gr1 bel1; obtain ⟨A5, c5, rfl, -⟩ := own_shape own1; have e0 : w1.cell? ⟨w.heap.size + 1, 0, none⟩ = some (.int .i64 q0) := (by rw [bel1.cell (by simp; omega)]; simp [go_sem, *]); have e1 : w1.cell? ⟨wr.heap.size, 0, none⟩ = some (.int .i64 q0) := (gr1.cell (a := ⟨wr.heap.size, 0, none⟩) (by simp [go_sem]) hneB.out); have e2 : w1.cell? ⟨wr.heap.size, 1, none⟩ = some (.int .i64 q1) := (gr1.cell (a := ⟨wr.heap.size, 1, none⟩) (by simp [go_sem]) hneB.out))
              go_roundw
              case rel =>
                obtain ⟨i1, i2⟩ := M.setP_same X.out (p := (q0, p1)) rfl H.out
                refine ⟨k + 1, by go_num, by omega, ⟨true, rfl, Lib.hid i1, ?_⟩, hbA.trans (bel1.mono (Nat.le_refl _))⟩
                rw [i2, hys'.out]
                exact OA.push (enc := pt) (x := (q0, p1)) own1
              case measure => simp [intOf]; omega
            · have hne : (q0 != p0) = true := by simp; omega
              have tok1 : True := trivial
              go_wp2_with (first | (at_builtin; have _t := tok1; refine wpList_pushH ei_pt _ rfl _ _ rfl ownA rfl (wr.heap.size + 1) (by simp) rfl rfl (by simp [Value.oneCell']) (by unfold maxLen; omega) (by omega) (by simp; omega) ?_; intro v1 w1 own1 gr1 bel1; obtain ⟨A5, c5, rfl, -⟩ := own_shape own1; have e0 : w1.cell? ⟨w.heap.size + 1, 0, none⟩ = some (.int .i64 p0) := (by rw [bel1.cell (by simp; omega)]; simp [go_sem, *]); have e1 : w1.cell? ⟨wr.heap.size, 0, none⟩ = some (.int .i64 q0) := (gr1.cell (a := ⟨wr.heap.size, 0, none⟩) (by simp [go_sem]) hneB.out); have e2 : w1.cell? ⟨wr.heap.size, 1, none⟩ = some (.int .i64 q1) := (gr1.cell (a := ⟨wr.heap.size, 1, none⟩) (by simp [go_sem]) hneB.out); have own5 := OA.push (enc := pt) (x := (p0, p1)) own1; have hl5 : (ys ++ [(p0, p1)]).length ≤ 3000000001 := (by simp; omega); have s5 : w2.heap.size ≤ w1.heap.size := Nat.le_trans hbA.size bel1.size; clear tok1 _t) | (at_builtin; refine wpList_push ei_pt _ rfl _ _ rfl own5.1 rfl rfl rfl (by simp [Value.oneCell']) (by unfold maxLen; omega) (by omega) (by omega) ?_; intro v2 w2' own2 gr1 bel2; obtain ⟨A6, c6, rfl, -⟩ := own_shape own2))
              go_roundw
              case rel =>
                obtain ⟨i1, i2⟩ := M.setP_high X.out (p := (p0, p1)) hq H.out
                refine ⟨k + 1, by go_num, by omega, ⟨true, rfl, Lib.hid i1, ?_⟩, (hbA.trans (bel1.mono (Nat.le_refl _))).trans (bel2.mono (Nat.le_refl _))⟩
                rw [i2, hys'.out]
                have h9 := OA.push (enc := pt) (x := (q0, q1)) own2
                rw [List.length_append] at h9
                exact h9
              case measure => simp [intOf]; omega
          · have hq := (M.setP_more hok'.out X.out (p := (p0, p1)) H.out).1
            have hne : (q0 != p0) = true := by simp; simp at hq; omega
            have hq2 : p0 < q0 := hq
            clear hq
            go_wp2_with (at_builtin; refine wpList_pushH ei_pt _ rfl _ _ rfl ownA rfl (wr.heap.size + 1) (by simp) rfl rfl (by simp [Value.oneCell']) (by unfold maxLen; omega) (by omega) (by simp; omega) ?_; intro v1 w1 own1 gr1 bel1; obtain ⟨A5, c5, rfl, -⟩ := own_shape own1)
            go_roundw
            case rel =>
              obtain ⟨-, i1, i2⟩ := M.setP_more hok'.out X.out (p := (p0, p1)) H.out
              refine ⟨k + 1, by go_num, by omega, ⟨true, rfl, Lib.hid i1, ?_⟩, hbA.trans (bel1.mono (Nat.le_refl _))⟩
              rw [i2, hys'.out]
              exact OA.push (enc := pt) (x := (q0, q1)) own1
            case measure => simp [intOf]; omega
        · obtain rfl : n = k := by omega
          have hE := Lib.hid (M.setP_end hl.out H.out)
          have hcl : (M.setTo xs (p0, p1) n dn).length ≤ 3000000000 := by have := M.setTo_len xs (p0, p1) n dn; have := hl.out; omega
          generalize hys : M.setTo xs (p0, p1) n dn = ys at *
          clear hys
          have hP := Lib.hid (show M.setR xs (p0, p1) = if (M.setP xs (p0, p1)).length ≤ 24 then (M.setP xs (p0, p1), 0) else ([], 5) by
            rw [M.setR, hok'.out, hp]
            simp)
          cases dn
          · have hE2 := Lib.hid (show ys ++ [(p0, p1)] = M.setP xs (p0, p1) from hE.out)
            by_cases hlen : 24 < ys.length + 1
            · go_wp2_with (at_builtin; refine wpList_push ei_pt _ rfl _ _ rfl own.1 rfl rfl rfl (by simp [Value.oneCell']) (by unfold maxLen; omega) (by omega) (by omega) ?_; intro v1 w1 own1 gr1 bel1; obtain ⟨A5, c5, rfl, -⟩ := own_shape own1; have kq : w1.cell? ⟨w.heap.size + 1 + 1, 0, none⟩ = some (.slice none 0 0) := (by rw [bel1.cell (by simpa using z2)]; exact gq); have kf : w1.frozen? ⟨w.heap.size + 1 + 1, 0, none⟩ = false := (by rw [bel1.frozen (by simpa using z2)]; exact gf))
              refine bodyPost_ret (v := .tuple #[.agg #[.slice none 0 0], .int .i64 5]) (by simp [results, Try.results18, go_sem, kq, kf]) rfl ?_
              rw [hP.out, if_neg (by rw [← hE2.out]; simp; omega)]
              exact ⟨_, rfl, OA.nil _, (hbb.trans (bel1.mono (by omega))).setCell (by simp; omega) _⟩
            · go_wp2_with (at_builtin; refine wpList_push ei_pt _ rfl _ _ rfl own.1 rfl rfl rfl (by simp [Value.oneCell']) (by unfold maxLen; omega) (by omega) (by omega) ?_; intro v1 w1 own1 gr1 bel1; obtain ⟨A5, c5, rfl, -⟩ := own_shape own1; have kq : w1.cell? ⟨w.heap.size + 1 + 1, 0, none⟩ = some (.slice none 0 0) := (by rw [bel1.cell (by simpa using z2)]; exact gq); have kf : w1.frozen? ⟨w.heap.size + 1 + 1, 0, none⟩ = false := (by rw [bel1.frozen (by simpa using z2)]; exact gf))
              refine bodyPost_ret (v := .tuple #[.agg #[.slice A5 (ys.length + 1) c5], .int .i64 0]) (by simp [results, Try.results18, go_sem, kq, kf]) rfl ?_
              rw [hP.out, if_pos (by rw [← hE2.out]; simp; omega), ← hE2.out]
              have o5 := OA.push (enc := pt) (x := (p0, p1)) own1
              exact ⟨_, rfl, (o5.mid (Mid.cell w1 (w.heap.size + 1 + 1) 0 (.slice A5 (ys.length + 1) c5)) (.inr (by omega)) (Nat.le_refl _)).wide (by omega) (by simp), (hbb.trans (bel1.mono (by omega))).setCell (by simp; omega) _⟩
          · have hE2 := Lib.hid (show ys = M.setP xs (p0, p1) from hE.out)
            by_cases hlen : 24 < ys.length
            · go_wp2
              refine bodyPost_ret (v := .tuple #[.agg #[.slice none 0 0], .int .i64 5]) (by simp [results, Try.results18, go_sem, gq, gf]) rfl ?_
              rw [hP.out, if_neg (by rw [← hE2.out]; omega)]
              exact ⟨_, rfl, OA.nil _, hbb.setCell (by simp; omega) _⟩
            · go_wp2
              refine bodyPost_ret (v := .tuple #[.agg #[.slice A4 ys.length c4], .int .i64 0]) (by simp [results, Try.results18, go_sem, gq, gf]) rfl ?_
              rw [hP.out, if_pos (by rw [← hE2.out]; omega), ← hE2.out]
              exact ⟨_, rfl, (own.mid (Mid.cell wr (w.heap.size + 1 + 1) 0 (.slice A4 ys.length c4)) (.inr (by omega)) (Nat.le_refl _)).wide (by omega) (by simp), hbb.setCell (by simp; omega) _⟩
end Go.Proofs.Ytckihflfjecpbaa
namespace Go.Proofs.Ytckihflfjecpbaa
open Go.RowKit
set_option maxHeartbeats 400000
set_option maxRecDepth 100000
/-- A list, some of whose elements are set. -/
def setAll {α : Type} : List α → Nat → List α → List α
  | cs, _, [] => cs
  | cs, o, u :: us => setAll (cs.set o u) (o + 1) us
theorem setAll_len {α : Type} (us : List α) : ∀ (cs : List α) (o : Nat), (setAll cs o us).length = cs.length := by
  induction us with
  | nil => intro cs o; rfl
  | cons u us ih => intro cs o; rw [setAll, ih, List.length_set]
theorem setAll_at {α : Type} (us : List α) : ∀ (cs : List α) (o k : Nat), o + us.length ≤ cs.length → (setAll cs o us)[k]? = if o ≤ k ∧ k < o + us.length then us[k - o]? else cs[k]? := by
  induction us with
  | nil => intro cs o k _; rw [setAll, if_neg (by simp)]
  | cons u us ih =>
    intro cs o k h
    rw [List.length_cons] at h
    rw [setAll, ih _ _ _ (by rw [List.length_set]; omega), List.length_cons]
    by_cases h1 : o + 1 ≤ k ∧ k < o + 1 + us.length
    · rw [if_pos h1, if_pos (by omega), show k - o = (k - (o + 1)) + 1 by omega, List.getElem?_cons_succ]
    · rw [if_neg h1]
      by_cases h2 : k = o
      · subst h2
        rw [if_pos (by omega), Nat.sub_self, List.getElem?_set_self (by omega)]
        rfl
      · rw [if_neg (by omega), List.getElem?_set_ne (fun e => h2 e.symm)]
theorem setAll_eq {α : Type} (us cs : List α) (o : Nat) (h : o + us.length ≤ cs.length) : setAll cs o us = cs.take o ++ us ++ cs.drop (o + us.length) := by
  apply List.ext_getElem?
  intro k
  rw [setAll_at us cs o k h]
  by_cases h1 : k < o
  · rw [if_neg (by omega), List.getElem?_append_left (by simp; omega), List.getElem?_append_left (by simp; omega), List.getElem?_take, if_pos h1]
  · by_cases h2 : k < o + us.length
    · rw [if_pos (by omega), List.getElem?_append_left (by simp; omega), List.getElem?_append_right (by simp; omega), List.length_take, Nat.min_eq_left (by omega)]
    · rw [if_neg (by omega), List.getElem?_append_right (by simp; omega), List.getElem?_drop]
      congr 1
      simp
      omega
section
variable {base s n cap g : Nat} {e : TypeId} {cs : List Value} {w : World}
theorem own_setCells (us : List Value) : ∀ (w : World) (cs : List Value) (o : Nat), w.ownsRow base e s (.slice (some ⟨g, 0, none⟩) n cap) n cs →
    (w.setCells g o us).ownsRow base e s (.slice (some ⟨g, 0, none⟩) n cap) n (setAll cs o us) ∧ w.grownBy (w.setCells g o us) (some g) := by
  induction us with
  | nil => intro w cs o h; exact ⟨h, World.grownBy.refl w _⟩
  | cons u us ih =>
    intro w cs o h
    have h1 := World.ownsRow.stored h o u
    obtain ⟨h2, h3⟩ := ih _ _ (o + 1) h1.1
    exact ⟨h2, grown_trans h1.2 h3⟩
theorem own_cut (h : w.ownsRow base e s (.slice (some ⟨g, 0, none⟩) n cap) n cs) {k : Nat} (hk : k ≤ n) : w.ownsRow base e s (.slice (some ⟨g, 0, none⟩) k cap) k (cs.take (k * s)) := by
  rcases h.2 with ⟨h', _⟩ | ⟨g', cap', cur, h', hb, hg, hnc, hcm, hcs, htake⟩
  · simp at h'
  · simp only [Value.slice.injEq, Option.some.injEq, Addr.mk.injEq, and_true, true_and] at h'
    obtain ⟨rfl, rfl⟩ := h'
    have hks : k * s ≤ n * s := Nat.mul_le_mul_right _ hk
    refine ⟨by rw [List.length_take, h.1]; omega, .inr ⟨g, cap, cur, rfl, hb, hg, by omega, hcm, hcs, ?_⟩⟩
    rw [← htake, List.take_take, Nat.min_eq_left hks]
theorem own_cells (h : w.ownsRow base e s (.slice (some ⟨g, 0, none⟩) n cap) n cs) {j : Nat} (hj : j < n * s) : (w.cell? ⟨g, j, none⟩).isSome = true ∧ w.frozen? ⟨g, j, none⟩ = false := by
  refine ⟨?_, World.ownsRow.frozenAt h j⟩
  rw [World.ownsRow.cellAt h j hj, List.getElem?_eq_getElem (by rw [h.1]; exact hj)]
  rfl
end
/-- 'clear(s)' of elements of some cells. -/
theorem run_clear_wide {P : Program} (w : World) (t e : TypeId) (z : Value) (s : Nat) (ht : P.underlying t = some (.slice e)) (hv : ∀ w, (zeroValue e).run P w = .ok z w) (hz : z.cells.size = s) (h1 : ∀ u ∈ z.cells.toList, u.oneCell' = true) (b o n c : Nat) (hn : 0 < n)
    (hc : ∀ j, j < n * s → (w.cell? ⟨b, o + j, none⟩).isSome = true ∧ w.frozen? ⟨b, o + j, none⟩ = false) :
    ∃ zs : List Value, zs.length = n * s ∧ ∀ ty, (Builtin.clear_ #[t] ty #[.slice (some ⟨b, o, none⟩) n c]).run P w = .ok (.tuple #[]) (w.setCells b o zs) := by
  have hl : (Builtin.zeroCells z.cells n).toList.length = n * s := by simp [Builtin.zeroCells, hz]
  refine ⟨(Builtin.zeroCells z.cells n).toList, hl, fun ty => ?_⟩
  have hst := run_storeCells_cells (P := P) b o (Builtin.zeroCells z.cells n).toList 0 w (by intro j hj; rw [hl] at hj; simpa using (hc j hj).1) (by intro j hj; rw [hl] at hj; simpa using (hc j hj).2) (by
    intro u hu
    simp only [Builtin.zeroCells, Array.toList_map, List.mem_map] at hu
    obtain ⟨i, hi, rfl⟩ := hu
    have hpos : 0 < z.cells.size := by
      rcases Nat.eq_zero_or_pos z.cells.size with h0 | h0
      · rw [h0, Nat.mul_zero] at hi
        simp at hi
      · exact h0
    rw [getElem!_pos z.cells (i % z.cells.size) (Nat.mod_lt _ hpos)]
    exact h1 _ (by simp))
  simp only [Nat.add_zero] at hst
  obtain ⟨m, rfl⟩ : ∃ m, n = m + 1 := ⟨n - 1, by omega⟩
  simp [Builtin.clear_, run_underlying ht, hv, hst]
section
variable {α : Type} {enc : α → List Value} {s : Nat}
theorem flat_take (henc : ∀ x, (enc x).length = s) (xs : List α) (k : Nat) : (xs.flatMap enc).take (k * s) = (xs.take k).flatMap enc := by
  induction xs generalizing k with
  | nil => simp
  | cons y ys ih =>
    cases k with
    | zero => simp
    | succ k => rw [List.take_succ_cons, List.flatMap_cons, List.flatMap_cons, ← ih, Nat.succ_mul, Nat.add_comm, List.take_append, henc, List.take_of_length_le (by rw [henc]; omega)]; congr 2; omega
theorem flat_drop (henc : ∀ x, (enc x).length = s) (xs : List α) (k : Nat) : (xs.flatMap enc).drop (k * s) = (xs.drop k).flatMap enc := by
  induction xs generalizing k with
  | nil => simp
  | cons y ys ih =>
    cases k with
    | zero => simp
    | succ k => rw [List.drop_succ_cons, List.flatMap_cons, ← ih, Nat.succ_mul, Nat.add_comm, List.drop_append, henc, List.drop_of_length_le (by rw [henc]; omega), List.nil_append]; congr 1; omega
end
theorem RA.reads {α : Type} {enc : α → List Value} {s : Nat} {w : World} {B n : Nat} {A : Option Addr} {xs : List α} (h : RA enc s w B A n xs) : Reads w B s A n (xs.flatMap enc) := h.2
theorem pts_oneCell (xs : List (Int × Int)) : ∀ u ∈ xs.flatMap pt, u.oneCell' = true := by
  intro u hu
  obtain ⟨p, _, hp⟩ := List.mem_flatMap.1 hu
  simp only [pt, List.mem_cons, List.not_mem_nil, or_false] at hp
  rcases hp with rfl | rfl <;> rfl
theorem slices_Clone_impl_CurvePoint_impl_CurvePoint (A : Option Addr) (n c : Nat) (xs : List (Int × Int)) (w : World) (hx : RA pt 2 w w.heap.size A n xs) (hn : n ≤ 1000000000) :
    Calls Try.prog 89 #[.slice A n c] w fun e w' => ∃ v, e = .returned v ∧ OA pt 34 2 w.heap.size w'.heap.size w' v xs ∧ Below w.heap.size w w' := by
  have hl := Lib.hid hx.len
  rcases A with _ | ad
  · have hx0 : xs = [] := by
      rcases Nat.eq_zero_or_pos n with h0 | h0
      · exact List.eq_nil_of_length_eq_zero (by rw [hl.out]; exact h0)
      · obtain ⟨ad, h, _⟩ := hx.2.2 h0
        cases h
    have hx0' := Lib.hid hx0
    clear hx0
    have heq := Lib.run_eql_slice_nil (P := Try.prog) w 28 34 none n c 0 0 Try.underlying28
    go_enter Try.func89, Try.ntmps89
    go_wp2
    go_ret
    rw [hx0'.out]
    exact ⟨_, rfl, OA.nil _, Below.refl _ _⟩
  · have heq := Lib.run_eql_slice_nil (P := Try.prog) w 28 34 (some ad) n c 0 0 Try.underlying28
    have h0 : (w.alloc (.cells #[] 34)).ownsRow w.heap.size 34 2 (.slice (some ⟨w.heap.size, 0, none⟩) 0 0) 0 [] := World.ownsRow_made _ _ _ (Nat.le_refl _) (by simp [maxLen]) rfl
    have hb0 : Below w.heap.size w (w.alloc (.cells #[] 34)) := (Below.refl _ _).alloc (Nat.le_refl _) _
    go_enter Try.func89, Try.ntmps89
    go_wp2_with (at_builtin; refine wpList_cat ei_pt rfl _ _ rfl h0 rfl (Reads.below hx.reads hb0) rfl (pts_oneCell _) (by unfold maxLen; omega) (by omega) hb0.size ?_; intro v1 w1 own1 gr1 bel1)
    go_ret
    rw [Nat.zero_add, List.nil_append, ← hl.out] at own1
    exact ⟨_, rfl, OX.of_own own1, hb0.trans bel1⟩
theorem slices_Delete_impl_CurvePoint_impl_CurvePoint (g n c k lo hi : Nat) (xs : List (Int × Int)) (w : World) (own : OA pt 34 2 lo hi w (.slice (some ⟨g, 0, none⟩) n c) xs) (hk : k < n) (hn : n ≤ 1000000000) (hnc : n ≤ c) (hcm : c ≤ maxLen) :
    Calls Try.prog 130 #[.slice (some ⟨g, 0, none⟩) n c, .int .i64 k, .int .i64 ((k : Int) + 1)] w fun e w' => e = .returned (.slice (some ⟨g, 0, none⟩) (n - 1) c) ∧ OA pt 34 2 lo hi w' (.slice (some ⟨g, 0, none⟩) (n - 1) c) (xs.take k ++ xs.drop (k + 1)) ∧ Mid lo hi w w' := by
  have hm := OX.m_eq own
  unfold OA at own
  rw [← hm] at own
  have hm' := Lib.hid hm
  unfold maxLen at hcm
  obtain ⟨news, hnews⟩ : ∃ news, news = (xs.drop (k + 1)).flatMap pt := ⟨_, rfl⟩
  have hlen : news.length = (n - (k + 1)) * 2 := by rw [hnews, flat_len pt_len, List.length_drop, hm'.out]
  have hone : Hid (∀ u ∈ news, u.oneCell' = true) := by rw [hnews]; exact pts_oneCell _
  have hnews' := Lib.hid hnews
  have hlen' := Lib.hid hlen
  have ownd : w.drew.ownsRow lo 34 2 (.slice (some ⟨g, 0, none⟩) n c) n (xs.flatMap pt) := ⟨own.1.1, own.1.2⟩
  have hsp : Hid (∀ t, t < news.length → (w.drew.cell? ⟨g, 0 + k * 2 + t, none⟩).isSome = true ∧ w.drew.frozen? ⟨g, 0 + k * 2 + t, none⟩ = false) := by
    intro t ht
    have := own_cells ownd (j := 0 + k * 2 + t) (by omega)
    exact this
  have hsrc : Hid (∀ t u, news[t]? = some u → w.drew.cell? ((⟨g, (k + 1) * 2, none⟩ : Addr).add t) = some u) := by
    intro t u ht
    have htl := (List.getElem?_eq_some_iff.1 ht).1
    rw [Addr.add_lit, World.ownsRow.cellAt ownd _ (by omega), ← ht, hnews, ← flat_drop pt_len, List.getElem?_drop]
  obtain ⟨o1, g1⟩ := own_setCells news _ _ (0 + k * 2) ownd
  obtain ⟨zs, hzl, hcl⟩ := run_clear_wide (P := Try.prog) (w.drew.setCells g (0 + k * 2) news) 28 34 (.agg #[.int .i64 0, .int .i64 0]) 2 Try.underlying28 (fun _ => by kernel_rfl) rfl (by simp [Value.cells, Value.oneCell']) g ((k + (n - (k + 1))) * 2) (n - (k + (n - (k + 1)))) (c - (k + (n - (k + 1)))) (by omega)
    (fun j hj => own_cells o1 (by omega))
  obtain ⟨o2, g2⟩ := own_setCells zs _ _ ((k + (n - (k + 1))) * 2) o1
  obtain ⟨W1, hW1⟩ : ∃ W1, W1 = w.drew.setCells g (0 + k * 2) news := ⟨_, rfl⟩
  rw [← hW1] at hcl o1 o2 g1 g2
  have hW := Lib.hid hW1
  have HCL := Lib.hid hcl
  have hfin : Hid (OA pt 34 2 lo hi (W1.setCells g ((k + (n - (k + 1))) * 2) zs) (.slice (some ⟨g, 0, none⟩) (k + (n - (k + 1))) c) (xs.take k ++ xs.drop (k + 1)) ∧ Mid lo hi w (W1.setCells g ((k + (n - (k + 1))) * 2) zs)) := by
    have o3 := own_cut o2 (k := k + (n - (k + 1))) (by omega)
    have hlx : (xs.flatMap pt).length = n * 2 := own.1.1
    rw [setAll_eq zs _ _ (by rw [setAll_len, hlx, hzl]; omega), setAll_eq news _ _ (by rw [hlx, hlen]; omega), Nat.zero_add] at o3
    have e1 : (((xs.flatMap pt).take (k * 2) ++ news ++ (xs.flatMap pt).drop (k * 2 + news.length)).take ((k + (n - (k + 1))) * 2) ++ zs ++ ((xs.flatMap pt).take (k * 2) ++ news ++ (xs.flatMap pt).drop (k * 2 + news.length)).drop ((k + (n - (k + 1))) * 2 + zs.length)).take ((k + (n - (k + 1))) * 2) = (xs.take k ++ xs.drop (k + 1)).flatMap pt := by
      rw [List.append_assoc, List.take_left' (by simp [hlx, hlen, hzl]; omega), List.take_left' (by simp [hlx, hlen]; omega), flat_take pt_len, List.flatMap_append, hnews'.out]
    rw [e1] at o3
    have hle : (xs.take k ++ xs.drop (k + 1)).length = k + (n - (k + 1)) := by rw [List.length_append, List.length_take, List.length_drop, hm'.out]; omega
    have hgl : lo ≤ g ∧ g < hi := ⟨(World.ownsRow.lt own.1 g rfl).1, own.2 g rfl⟩
    refine ⟨⟨by rw [hle]; exact o3, fun q hq => by injection hq with hq; subst hq; exact hgl.2⟩, ?_⟩
    have hd : Mid lo hi w w.drew := ⟨rfl, rfl, rfl, Nat.le_refl _, fun _ _ _ => rfl⟩
    exact (hd.trans (Mid.of_grown g1 fun q hq => by injection hq with hq; subst hq; exact hgl)).trans (Mid.of_grown g2 fun q hq => by injection hq with hq; subst hq; exact hgl)
  obtain ⟨i0, hi0, hz0, hz1, hz2⟩ := info_parts (ei_pt).2.1
  have hkc : k ≤ c := by omega
  have hkc1 : k + 1 ≤ c := by omega
  have hb1 : (0 : Int) ≤ (k : Int) + 1 := by omega
  have hb2 : (k : Int) + 1 ≤ (n : Int) := by omega
  clear hW1 hcl o1 o2 g1 g2 own ownd hnews hlen hm
  by_cases hck : c = k + 1
  · subst hck
    obtain rfl : n = k + 1 := by omega
    have hnil := Lib.hid (show news.length = 0 * 2 by have := hlen'.out; omega)
    have hb3 : (k : Int) ≤ (k : Int) + 1 := by omega
    have hsrc0 : Hid (∀ t u, news[t]? = some u → w.drew.cell? ((⟨g, 0, none⟩ : Addr).add t) = some u) := by
      intro t u ht
      have := (List.getElem?_eq_some_iff.1 ht).1
      have := hnil.out
      omega
    simp only [Nat.sub_self, Nat.add_zero, Nat.add_sub_cancel_left] at HCL hfin hzl
    clear hlen' hsrc hb2
    have hb2 : (k : Int) + 1 ≤ ((k + 1 : Nat) : Int) := by omega
    go_enter Try.func130, Try.ntmps130
    go_wp2_with fail
    go_region_law (refine step_append_room rfl (.tmp 22) (.tmp 25) 28 rfl 34 i0 2 Try.underlying28 hi0 hz1 g 0 k (k + 1) (by simp [Act.eval, Act.put]) ⟨g, 0, none⟩ 0 0 news (by simp [Act.eval, Act.put]) hnil.out hsrc0.out hone.out (by omega) hsp.out ?_; rw [← hW.out])
    have hcl := HCL.out
    go_wp2
    go_ret
    exact ⟨rfl, hfin.out⟩
  · go_enter Try.func130, Try.ntmps130
    go_wp2_with fail
    go_region_law (refine step_append_room rfl (.tmp 22) (.tmp 25) 28 rfl 34 i0 2 Try.underlying28 hi0 hz1 g 0 k c (by simp [Act.eval, Act.put]) ⟨g, (k + 1) * 2, none⟩ (n - (k + 1)) (c - (k + 1)) news (by simp [Act.eval, Act.put]) hlen'.out hsrc.out hone.out (by omega) hsp.out ?_; rw [← hW.out])
    have hcl := HCL.out
    have hne : ¬ c = k + (n - (k + 1)) := by omega
    have hle1 : k + (n - (k + 1)) ≤ n := by omega
    go_wp2
    go_ret
    rw [show n - 1 = k + (n - (k + 1)) by omega]
    exact ⟨rfl, hfin.out⟩
end Go.Proofs.Ytckihflfjecpbaa
namespace Go.Proofs.Ytckihflfjecpbaa
open Go.RowKit
set_option maxHeartbeats 400000
set_option maxRecDepth 100000
def M.dropP {α : Type} (xs : List α) (k : Nat) : List α := xs.take k ++ xs.drop (k + 1)
theorem M.dropP_len {α : Type} (xs : List α) {k : Nat} (hk : k < xs.length) : (M.dropP xs k).length = xs.length - 1 := by
  rw [M.dropP, List.length_append, List.length_take, List.length_drop]
  omega
def M.dropR (xs : List (Int × Int)) (k : Int) : List (Int × Int) × Int :=
  if M.curveOk xs then (if M.inn k 0 ((xs.length : Int) - 1) then (if xs.length = 1 then ([], 6) else (M.dropP xs k.toNat, 0)) else ([], 2)) else ([], 1)
theorem impl_Curve_without (A : Option Addr) (n c k : Nat) (xs : List (Int × Int)) (w : World) (hx : RA pt 2 w w.heap.size A n xs) (hn : n ≤ 1000000000) (hk : k < n) :
    Calls Try.prog 83 #[.agg #[.slice A n c], .int .i64 k] w fun e w' => ∃ v, e = .returned (.agg #[v]) ∧ OA pt 34 2 w.heap.size w'.heap.size w' v (M.dropP xs k) ∧ Below w.heap.size w w' := by
  have hl := Lib.hid hx.len
  have hb2 : Below w.heap.size w ((w.alloc (.cells #[.slice A n c] 30)).alloc (.cells #[.slice none 0 0] 30)) := ((Below.refl _ _).alloc (Nat.le_refl _) _).alloc (by simp) _
  have hx1 := hx.later hb2
  go_enter Try.func83, Try.ntmps83
  go_wp2_with fail
  refine (slices_Clone_impl_CurvePoint_impl_CurvePoint _ _ _ _ _ hx1 hn).mono ?_
  rintro e w2 ⟨v, rfl, own2, bel2⟩
  obtain ⟨A2, c2, rfl, hc2, hm2, -⟩ := own_shape own2.1
  obtain ⟨g, rfl, hg1, hg2, hg3, -⟩ := own2.form (by rw [hl.out]; omega)
  have hq : w2.cell? ⟨w.heap.size + 1, 0, none⟩ = some (.slice none 0 0) := by rw [bel2.cell (by simp)]; simp [go_sem]
  have hf : w2.frozen? ⟨w.heap.size + 1, 0, none⟩ = false := by rw [bel2.frozen (by simp)]; simp [go_sem]
  have hs2 : w.heap.size + 1 + 1 ≤ w2.heap.size := by have := bel2.size; simpa using this
  have e0 : ((w.alloc (.cells #[.slice A n c] 30)).alloc (.cells #[.slice none 0 0] 30)).heap.size = w.heap.size + 1 + 1 := by simp
  rw [e0] at own2
  clear e0
  go_wp2_with fail
  refine (slices_Delete_impl_CurvePoint_impl_CurvePoint g xs.length c2 k _ _ xs w2 own2 (by rw [hl.out]; exact hk) (by rw [hl.out]; exact hn) hc2 hm2).mono ?_
  rintro e w3 ⟨rfl, own3, m3⟩
  have B3 : Below (w.heap.size + 1 + 1) w2 w3 := m3.toBelow hs2
  have hq3 : w3.cell? ⟨w.heap.size + 1, 0, none⟩ = some (.slice none 0 0) := by rw [B3.cell (by simp)]; exact hq
  have hf3 : w3.frozen? ⟨w.heap.size + 1, 0, none⟩ = false := by rw [B3.frozen (by simp)]; exact hf
  go_wp2
  refine bodyPost_ret (v := .agg #[.slice (some ⟨g, 0, none⟩) (xs.length - 1) c2]) (by simp [results, Try.results83, go_sem, hq3, hf3]) rfl ?_
  exact ⟨_, rfl, (own3.mid (Mid.cell w3 (w.heap.size + 1) 0 (.slice (some ⟨g, 0, none⟩) (xs.length - 1) c2)) (.inr (Nat.le_refl _)) m3.size).wide (by omega) (by simpa using m3.size), ((hb2.trans (bel2.mono hb2.size)).trans (B3.mono (by omega))).setCell (by simp) _⟩
theorem RA.cut {α : Type} {enc : α → List Value} {s B n c k : Nat} {w : World} {A : Option Addr} {xs : List α} (henc : ∀ x, (enc x).length = s) (h : RA enc s w B A n xs) (hk : k ≤ n) (hc : n ≤ c) :
    RA enc s w B (if c = k then A else A.map (·.add (k * s))) (n - k) (xs.drop k) := by
  refine ⟨by rw [List.length_drop, h.1], ?_⟩
  rw [← flat_drop henc]
  exact Reads.cut h.2 hk hc
theorem RA.head {α : Type} {enc : α → List Value} {s B n k : Nat} {w : World} {A : Option Addr} {xs : List α} (henc : ∀ x, (enc x).length = s) (h : RA enc s w B A n xs) (hk : k ≤ n) : RA enc s w B A k (xs.take k) := by
  refine ⟨by rw [List.length_take, h.1]; omega, by rw [flat_len henc, List.length_take, h.1, Nat.min_eq_left hk], fun h0 => ?_⟩
  obtain ⟨ad, e, hb, hc⟩ := h.2.2 (by omega)
  refine ⟨ad, e, hb, fun j u hu => hc j u ?_⟩
  rw [← flat_take henc, List.getElem?_take] at hu
  split at hu
  · exact hu
  · simp at hu
theorem spec_l25Drop (A : Option Addr) (n c k : Nat) (xs : List (Int × Int)) (w : World) (hx : RA pt 2 w w.heap.size A n xs) (hn : n ≤ 1000000000) (hk : k < n) (hc : n ≤ c) (hm : c ≤ maxLen) :
    Calls Try.prog 80 #[.slice A n c, .int .i64 k] w fun e w' => ∃ v, e = .returned v ∧ OA pt 34 2 w.heap.size w'.heap.size w' v (M.dropP xs k) ∧ Below w.heap.size w w' := by
  have hl := Lib.hid hx.len
  unfold maxLen at hm
  obtain ⟨b, o, x0, rfl, hab, X0, hc0⟩ := hx.at pt_len (by decide) (k := 0) (by omega)
  clear hc0 X0 x0
  have h0 : (w.alloc (.cells #[] 34)).ownsRow w.heap.size 34 2 (.slice (some ⟨w.heap.size, 0, none⟩) 0 0) 0 [] := World.ownsRow_made _ _ _ (Nat.le_refl _) (by simp [maxLen]) rfl
  have hb0 : Below w.heap.size w (w.alloc (.cells #[] 34)) := (Below.refl _ _).alloc (Nat.le_refl _) _
  have r1 := (hx.head pt_len (Nat.le_of_lt hk)).reads.below hb0
  have r2 := (hx.cut pt_len (k := k + 1) hk hc).reads
  have fin : ∀ v (w1 w2 : World), w2.ownsRow w.heap.size 34 2 v (k + (n - (k + 1))) ((xs.take k).flatMap pt ++ (xs.drop (k + 1)).flatMap pt) → OA pt 34 2 w.heap.size w2.heap.size w2 v (M.dropP xs k) := by
    intro v w1 w2 h
    unfold OA M.dropP
    rw [← List.flatMap_append] at h
    rw [List.length_append, List.length_take, List.length_drop, hl.out, Nat.min_eq_left (Nat.le_of_lt hk)]
    exact OX.of_own h
  have FIN := Lib.hid fin
  clear fin
  by_cases hck : c = k + 1
  · rw [if_pos hck] at r2
    subst hck
    obtain rfl : n = k + 1 := by omega
    rw [Nat.sub_self] at r2 FIN
    have tok1 : True := trivial
    go_enter Try.func80, Try.ntmps80
    go_wp2_with (first | (at_builtin; have _t := tok1; refine wpList_cat ei_pt rfl _ _ rfl h0 rfl r1 rfl (pts_oneCell _) (by unfold maxLen; omega) (by omega) hb0.size ?_; intro v1 w1 own1 gr1 bel1; rw [Nat.zero_add, List.nil_append] at own1; obtain ⟨A1, c1, rfl, -⟩ := own_shape own1; have hb1 := hb0.trans bel1; clear tok1 _t) | (at_builtin; refine wpList_cat ei_pt rfl _ _ rfl own1 rfl (r2.below hb1) rfl (pts_oneCell _) (by unfold maxLen; omega) (by omega) hb1.size ?_; intro v2 w2 own2 gr2 bel2))
    go_ret
    exact ⟨_, rfl, FIN.out _ w1 _ own2, hb1.trans bel2⟩
  · rw [if_neg hck, Option.map_some, Addr.add_lit] at r2
    have tok1 : True := trivial
    go_enter Try.func80, Try.ntmps80
    go_wp2_with (first | (at_builtin; have _t := tok1; refine wpList_cat ei_pt rfl _ _ rfl h0 rfl r1 rfl (pts_oneCell _) (by unfold maxLen; omega) (by omega) hb0.size ?_; intro v1 w1 own1 gr1 bel1; rw [Nat.zero_add, List.nil_append] at own1; obtain ⟨A1, c1, rfl, -⟩ := own_shape own1; have hb1 := hb0.trans bel1; clear tok1 _t) | (at_builtin; refine wpList_cat ei_pt rfl _ _ rfl own1 rfl (r2.below hb1) rfl (pts_oneCell _) (by unfold maxLen; omega) (by omega) hb1.size ?_; intro v2 w2 own2 gr2 bel2))
    go_ret
    exact ⟨_, rfl, FIN.out _ w1 _ own2, hb1.trans bel2⟩
end Go.Proofs.Ytckihflfjecpbaa
