import Derived.Test.YtckihflfjecpbaaW60
import Derived.Test.YtckihflfjecpbaaW26
namespace Go.Proofs.Ytckihflfjecpbaa
open Go.RowKit Go.Sort
set_option maxHeartbeats 1000000
set_option maxRecDepth 100000
abbrev Clip := Int × Int × Int × Int × Int
def M.clipOk (p : Clip) : Bool := M.inn p.1 0 5 && M.inn p.2.2.1 1 4000 && M.inn p.2.1 0 (4000 - p.2.2.1) && M.inn p.2.2.2.1 0 (4000 - p.2.2.1) && M.smp p.2.2.2.2
def M.cz : Clip := (0, 0, 0, 0, 0)
def M.afterT (xs : List Clip) (k : Nat) : Bool := k == 0 || decide (((xs[k - 1]?).getD M.cz).2.2.2.1 ≤ ((xs[k]?).getD M.cz).2.2.2.1)
def M.stepT (xs : List Clip) (k : Nat) : Bool := M.clipOk ((xs[k]?).getD M.cz) && M.afterT xs k
def M.trackOk (xs : List Clip) : Bool := (List.range xs.length).all (M.stepT xs) && decide (xs.length ≤ 12)
theorem M.len_wrap {l : Int} (h : M.inn l 1 4000 = true) : IntKind.i64.wrap (4000 - l) = 4000 - l ∧ 1 ≤ l ∧ l ≤ 4000 := by
  have := M.inn_iff.1 h
  exact ⟨IntWalk.i64_in _ (by omega), this⟩
theorem impl_isClip (a b c d e : Int) (w : World) : Calls Try.prog 115 #[.agg #[.int .i64 a, .int .i64 b, .int .i64 c, .int .i64 d, .int .i64 e]] w fun en w' => en = .returned (.bool (M.clipOk (a, b, c, d, e))) ∧ Below w.heap.size w w' := by
  cases h1 : M.inn a 0 5
  · go_enter Try.func115, Try.ntmps115
    go_wp2_with (first | (go_at_call 81; refine (impl_within _ _ _ _).mono ?_; rintro e w' ⟨rfl, rfl⟩) | (go_at_call 144; refine (impl_isSample _ _).mono ?_; rintro e w' ⟨rfl, rfl⟩))
    go_ret
    exact ⟨ret_bool (by simp [M.clipOk, h1]), (Below.refl _ _).alloc (Nat.le_refl _) _⟩
  · cases h2 : M.inn c 1 4000
    · go_enter Try.func115, Try.ntmps115
      go_wp2_with (first | (go_at_call 81; refine (impl_within _ _ _ _).mono ?_; rintro e w' ⟨rfl, rfl⟩) | (go_at_call 144; refine (impl_isSample _ _).mono ?_; rintro e w' ⟨rfl, rfl⟩))
      go_ret
      exact ⟨ret_bool (by simp [M.clipOk, h1, h2]), (Below.refl _ _).alloc (Nat.le_refl _) _⟩
    · obtain ⟨hw, hl1, hl2⟩ := M.len_wrap h2
      clear hw
      cases h3 : M.inn b 0 (4000 - c)
      · go_enter Try.func115, Try.ntmps115
        go_wp2_with (first | (go_at_call 81; refine (impl_within _ _ _ _).mono ?_; rintro e w' ⟨rfl, rfl⟩) | (go_at_call 144; refine (impl_isSample _ _).mono ?_; rintro e w' ⟨rfl, rfl⟩))
        go_ret
        exact ⟨ret_bool (by simp [M.clipOk, h1, h2, h3]), (Below.refl _ _).alloc (Nat.le_refl _) _⟩
      · cases h4 : M.inn d 0 (4000 - c)
        · go_enter Try.func115, Try.ntmps115
          go_wp2_with (first | (go_at_call 81; refine (impl_within _ _ _ _).mono ?_; rintro e w' ⟨rfl, rfl⟩) | (go_at_call 144; refine (impl_isSample _ _).mono ?_; rintro e w' ⟨rfl, rfl⟩))
          go_ret
          exact ⟨ret_bool (by simp [M.clipOk, h1, h2, h3, h4]), (Below.refl _ _).alloc (Nat.le_refl _) _⟩
        · cases h5 : M.smp e
          all_goals
            go_enter Try.func115, Try.ntmps115
            go_wp2_with (first | (go_at_call 81; refine (impl_within _ _ _ _).mono ?_; rintro e w' ⟨rfl, rfl⟩) | (go_at_call 144; refine (impl_isSample _ _).mono ?_; rintro e w' ⟨rfl, rfl⟩))
            go_ret
            exact ⟨ret_bool (by simp [M.clipOk, h1, h2, h3, h4, h5]), (Below.refl _ _).alloc (Nat.le_refl _) _⟩
theorem spec_l23Clip (b o : Nat) (p : Clip) (w : World) (g0 : w.cell? ⟨b, o, none⟩ = some (.int .i64 p.1)) (g1 : w.cell? ⟨b, o + 1, none⟩ = some (.int .i64 p.2.1)) (g2 : w.cell? ⟨b, o + 2, none⟩ = some (.int .i64 p.2.2.1)) (g3 : w.cell? ⟨b, o + 3, none⟩ = some (.int .i64 p.2.2.2.1)) (g4 : w.cell? ⟨b, o + 4, none⟩ = some (.int .i64 p.2.2.2.2)) :
    Calls Try.prog 142 #[.pointer (some ⟨b, o, none⟩)] w fun en w' => en = .returned (.bool (M.clipOk p)) ∧ ∃ m, w' = w.drewN m := by
  obtain ⟨a, f, l, t, q⟩ := p
  simp only at g0 g1 g2 g3 g4
  cases h1 : M.inn a 0 5
  · go_enter Try.func142, Try.ntmps142
    go_wp2_with (first | (go_at_call 79; refine (spec_l00In _ _ _ _).mono ?_; rintro e w' ⟨rfl, rfl⟩) | (go_at_call 137; refine (spec_l01Sample _ _).mono ?_; rintro e w' ⟨rfl, rfl⟩))
    go_ret
    exact ⟨ret_bool (by simp [M.clipOk, h1]), 0, rfl⟩
  · cases h2 : M.inn l 1 4000
    · go_enter Try.func142, Try.ntmps142
      go_wp2_with (first | (go_at_call 79; refine (spec_l00In _ _ _ _).mono ?_; rintro e w' ⟨rfl, rfl⟩) | (go_at_call 137; refine (spec_l01Sample _ _).mono ?_; rintro e w' ⟨rfl, rfl⟩))
      go_ret
      exact ⟨ret_bool (by simp [M.clipOk, h1, h2]), 0, rfl⟩
    · cases h5 : M.smp q
      · go_enter Try.func142, Try.ntmps142
        go_wp2_with (first | (go_at_call 79; refine (spec_l00In _ _ _ _).mono ?_; rintro e w' ⟨rfl, rfl⟩) | (go_at_call 137; refine (spec_l01Sample _ _).mono ?_; rintro e w' ⟨rfl, rfl⟩))
        go_ret
        exact ⟨ret_bool (by simp [M.clipOk, h1, h2, h5]), 0, rfl⟩
      · obtain ⟨hw, hl1, hl2⟩ := M.len_wrap h2
        have hw0 : (0 : Int) ≤ 4000 - l := by omega
        cases h3 : M.inn f 0 (4000 - l)
        · have c1 : ∀ m, Calls Try.prog 79 #[.int .i64 f, .int .i64 0, .int .i64 (4000 - l)] (w.drewN m) fun e w'' => e = .returned (.bool false) ∧ ∃ m', w'' = w.drewN m' := fun m => quiet_left (by have h := spec_l00In f 0 (4000 - l) (w.drewN m); rw [h3] at h; exact h)
          go_enter Try.func142, Try.ntmps142
          go_wp2_with (first | (go_at_call 79; refine (spec_l00In _ _ _ _).mono ?_; rintro e w' ⟨rfl, rfl⟩) | (go_at_call 137; refine (spec_l01Sample _ _).mono ?_; rintro e w' ⟨rfl, rfl⟩))
          go_quiet (first | (go_at_call_of 79 (Value.int .i64 f); exact c1 _))
          go_wp2
          go_ret
          exact ⟨ret_bool (by simp [M.clipOk, h1, h2, h3, h5]), _, rfl⟩
        · cases h4 : M.inn t 0 (4000 - l)
          · have c1 : ∀ m, Calls Try.prog 79 #[.int .i64 f, .int .i64 0, .int .i64 (4000 - l)] (w.drewN m) fun e w'' => e = .returned (.bool true) ∧ ∃ m', w'' = w.drewN m' := fun m => quiet_left (by have h := spec_l00In f 0 (4000 - l) (w.drewN m); rw [h3] at h; exact h)
            have c2 : ∀ m, Calls Try.prog 79 #[.int .i64 t, .int .i64 0, .int .i64 (4000 - l)] (w.drewN m) fun e w'' => e = .returned (.bool false) ∧ ∃ m', w'' = w.drewN m' := fun m => quiet_left (by have h := spec_l00In t 0 (4000 - l) (w.drewN m); rw [h4] at h; exact h)
            go_enter Try.func142, Try.ntmps142
            go_wp2_with (first | (go_at_call 79; refine (spec_l00In _ _ _ _).mono ?_; rintro e w' ⟨rfl, rfl⟩) | (go_at_call 137; refine (spec_l01Sample _ _).mono ?_; rintro e w' ⟨rfl, rfl⟩))
            go_quiet (first | (go_at_call_of 79 (Value.int .i64 f); exact c1 _) | (go_at_call_of 79 (Value.int .i64 t); exact c2 _))
            go_wp2
            go_ret
            exact ⟨ret_bool (by simp [M.clipOk, h1, h2, h3, h4, h5]), _, rfl⟩
          · have c1 : ∀ m, Calls Try.prog 79 #[.int .i64 f, .int .i64 0, .int .i64 (4000 - l)] (w.drewN m) fun e w'' => e = .returned (.bool true) ∧ ∃ m', w'' = w.drewN m' := fun m => quiet_left (by have h := spec_l00In f 0 (4000 - l) (w.drewN m); rw [h3] at h; exact h)
            have c2 : ∀ m, Calls Try.prog 79 #[.int .i64 t, .int .i64 0, .int .i64 (4000 - l)] (w.drewN m) fun e w'' => e = .returned (.bool true) ∧ ∃ m', w'' = w.drewN m' := fun m => quiet_left (by have h := spec_l00In t 0 (4000 - l) (w.drewN m); rw [h4] at h; exact h)
            go_enter Try.func142, Try.ntmps142
            go_wp2_with (first | (go_at_call 79; refine (spec_l00In _ _ _ _).mono ?_; rintro e w' ⟨rfl, rfl⟩) | (go_at_call 137; refine (spec_l01Sample _ _).mono ?_; rintro e w' ⟨rfl, rfl⟩))
            go_quiet (first | (go_at_call_of 79 (Value.int .i64 f); exact c1 _) | (go_at_call_of 79 (Value.int .i64 t); exact c2 _))
            go_wp2
            go_ret
            exact ⟨ret_bool (by simp [M.clipOk, h1, h2, h3, h4, h5]), _, rfl⟩
theorem impl_isTrack (A : Option Addr) (n c : Nat) (xs : List Clip) (w : World) (hx : RA cl 5 w w.heap.size A n xs) (hn : n ≤ 1000000000) :
    Calls Try.prog 123 #[.agg #[.slice A n c]] w fun e w' => e = .returned (.bool (M.trackOk xs)) ∧ Below w.heap.size w w' := by
  have hl := Lib.hid hx.len
  have hbw : Below w.heap.size w (w.alloc (.cells #[.slice A n c] 65)) := (Below.refl _ _).alloc (Nat.le_refl _) _
  have hself := lay_cell w (.slice A n c) 65
  have hsize : (w.alloc (.cells #[.slice A n c] 65)).heap.size = w.heap.size + 1 := by simp
  go_enter Try.func123, Try.ntmps123
  go_wp2
  go_loopw [3, 4, 8] (fun _ _ i wr => ∃ k : Nat, i = .int .i64 k ∧ k ≤ n ∧ Hid (∀ j, j < k → M.stepT xs j = true) ∧ Below (w.heap.size + 1) (w.alloc (.cells #[.slice A n c] 65)) wr) (fun _ _ i _ => n - (intOf i).toNat)
  case atStart => exact ⟨0, rfl, by omega, Lib.hid (by omega), Below.refl _ _⟩
  case round =>
    obtain ⟨k, rfl, hk, H, hb⟩ := hrel
    have hbb : Below w.heap.size w wr := hbw.trans (hb.mono (by omega))
    have hsz : w.heap.size + 1 ≤ wr.heap.size := by rw [← hsize]; exact hb.size
    have hv : wr.cell? ⟨w.heap.size, 0, none⟩ = some (.slice A n c) := by rw [hb.cell (by simp)]; exact hself
    by_cases hlt : k < n
    · obtain ⟨b, o, ⟨p0, p1, p2, p3, p4⟩, rfl, hab, X, hc⟩ := (hx.below hbb).at cl_len (by decide) hlt
      have hc0 : wr.cell? ⟨b, o + k * 5, none⟩ = some (.int .i64 p0) := hc 0 _ rfl
      have hc1 : wr.cell? ⟨b, o + k * 5 + 1, none⟩ = some (.int .i64 p1) := hc 1 _ rfl
      have hc2 : wr.cell? ⟨b, o + k * 5 + 2, none⟩ = some (.int .i64 p2) := hc 2 _ rfl
      have hc3 : wr.cell? ⟨b, o + k * 5 + 3, none⟩ = some (.int .i64 p3) := hc 3 _ rfl
      have hc4 : wr.cell? ⟨b, o + k * 5 + 4, none⟩ = some (.int .i64 p4) := hc 4 _ rfl
      clear hc
      obtain ⟨⟨r0, r1, r2, r3, r4⟩, Z, hr⟩ := (hx.below hbb).cells cl_len (by decide) (k := k - 1) (by omega)
      have hr0 : wr.cell? ⟨b, o + (k - 1) * 5 + 3, none⟩ = some (.int .i64 r3) := hr 3 _ rfl
      clear hr
      have hs4 : (wr.alloc (.cells #[.int .i64 p0, .int .i64 p1, .int .i64 p2, .int .i64 p3, .int .i64 p4] 78)).heap.size = wr.heap.size + 1 := by simp
      have hbr : b < (wr.alloc (.cells #[.int .i64 p0, .int .i64 p1, .int .i64 p2, .int .i64 p3, .int .i64 p4] 78)).heap.size := by omega
      have hbv : w.heap.size < (wr.alloc (.cells #[.int .i64 p0, .int .i64 p1, .int .i64 p2, .int .i64 p3, .int .i64 p4] 78)).heap.size := by omega
      have hbn : wr.heap.size < (wr.alloc (.cells #[.int .i64 p0, .int .i64 p1, .int .i64 p2, .int .i64 p3, .int .i64 p4] 78)).heap.size := by omega
      have qa0 : (wr.alloc (.cells #[.int .i64 p0, .int .i64 p1, .int .i64 p2, .int .i64 p3, .int .i64 p4] 78)).cell? ⟨wr.heap.size, 0, none⟩ = some (.int .i64 p0) := by rw [cell_of_row _ wr.heap.size 0 _ 78 (0, 0) (heap_alloc_new wr _)]; rfl
      have qa1 : (wr.alloc (.cells #[.int .i64 p0, .int .i64 p1, .int .i64 p2, .int .i64 p3, .int .i64 p4] 78)).cell? ⟨wr.heap.size, 1, none⟩ = some (.int .i64 p1) := by rw [cell_of_row _ wr.heap.size 1 _ 78 (0, 0) (heap_alloc_new wr _)]; rfl
      have qa2 : (wr.alloc (.cells #[.int .i64 p0, .int .i64 p1, .int .i64 p2, .int .i64 p3, .int .i64 p4] 78)).cell? ⟨wr.heap.size, 2, none⟩ = some (.int .i64 p2) := by rw [cell_of_row _ wr.heap.size 2 _ 78 (0, 0) (heap_alloc_new wr _)]; rfl
      have qa3 : (wr.alloc (.cells #[.int .i64 p0, .int .i64 p1, .int .i64 p2, .int .i64 p3, .int .i64 p4] 78)).cell? ⟨wr.heap.size, 3, none⟩ = some (.int .i64 p3) := by rw [cell_of_row _ wr.heap.size 3 _ 78 (0, 0) (heap_alloc_new wr _)]; rfl
      have qa4 : (wr.alloc (.cells #[.int .i64 p0, .int .i64 p1, .int .i64 p2, .int .i64 p3, .int .i64 p4] 78)).cell? ⟨wr.heap.size, 4, none⟩ = some (.int .i64 p4) := by rw [cell_of_row _ wr.heap.size 4 _ 78 (0, 0) (heap_alloc_new wr _)]; rfl
      have q2 : (wr.alloc (.cells #[.int .i64 p0, .int .i64 p1, .int .i64 p2, .int .i64 p3, .int .i64 p4] 78)).cell? ⟨w.heap.size, 0, none⟩ = some (.slice (some ⟨b, o, none⟩) n c) := by rw [World.cell?_alloc_lt _ _ _ (by simp; omega)]; exact hv
      have q3 : (wr.alloc (.cells #[.int .i64 p0, .int .i64 p1, .int .i64 p2, .int .i64 p3, .int .i64 p4] 78)).cell? ⟨b, o + (k - 1) * 5 + 3, none⟩ = some (.int .i64 r3) := by rw [World.cell?_alloc_lt _ _ _ (by simp; omega)]; exact hr0
      have hb4 : Below (w.heap.size + 1) (w.alloc (.cells #[.slice (some ⟨b, o, none⟩) n c] 65)) (wr.alloc (.cells #[.int .i64 p0, .int .i64 p1, .int .i64 p2, .int .i64 p3, .int .i64 p4] 78)) := hb.alloc (by omega) _
      have hp0 := Lib.hid (show (xs[k]?).getD M.cz = (p0, p1, p2, p3, p4) by rw [X.out]; rfl)
      have hz0 := Lib.hid (show (xs[k - 1]?).getD M.cz = (r0, r1, r2, r3, r4) by rw [Z.out]; rfl)
      cases hp : M.clipOk (p0, p1, p2, p3, p4)
      · have hno := Lib.hid (show M.trackOk xs = false by rw [M.trackOk, M.all_not (k := k) (by rw [hl.out]; exact hlt) (by rw [M.stepT, hp0.out, hp, Bool.false_and]), Bool.false_and])
        go_wp2
        generalize hw4 : wr.alloc (.cells #[.int .i64 p0, .int .i64 p1, .int .i64 p2, .int .i64 p3, .int .i64 p4] 78) = w4 at qa0 qa1 qa2 qa3 qa4 q2 q3 hbr hbv hbn hb4 ⊢
        clear hw4 hs4
        have cP : ∀ d os, Calls Try.prog 115 #[.agg #[.int .i64 p0, .int .i64 p1, .int .i64 p2, .int .i64 p3, .int .i64 p4]] (grow (redrawn w4 d) os) fun e w'' => e = .returned (.bool false) ∧ ∃ p : Regrown, w'' = grow (redrawn w4 p.d) p.os := fun d os => Calls.regrown_of (by have h := impl_isClip p0 p1 p2 p3 p4 (grow (redrawn w4 d) os); rw [hp] at h; exact h)
        have ka0 := cell_regrown qa0
        have ka1 := cell_regrown qa1
        have ka2 := cell_regrown qa2
        have ka3 := cell_regrown qa3
        have ka4 := cell_regrown qa4
        have k2' := cell_regrown q2
        have k3' := cell_regrown q3
        clear qa0 qa1 qa2 qa3 qa4 q2 q3
        (refine wp_region_quiet_below (by kernel_rfl) (by kernel_rfl) ?_; (repeat (go_big_quiet_step (exact cP _ _))); refine wpQuiet_nil ?_; intro _ hw'; obtain ⟨⟨dq, osq⟩, hw''⟩ := hw'; subst hw'')
        go_wp2
        go_ret
        exact ⟨ret_bool (by rw [hno.out]), hbw.trans ((hb4.trans ((below_regrown w4 dq osq).mono (by rw [← hsize]; exact hb4.size))).mono (by omega))⟩
      · by_cases hk0 : k = 0
        · have hyes := Lib.hid (show M.stepT xs k = true by rw [M.stepT, hp0.out, hp, M.afterT, hk0]; rfl)
          have hd : decide (0 < k) = false := by rw [hk0]; rfl
          have hd2 : ¬ 0 < k := by omega
          clear hk0
          go_wp2
          generalize hw4 : wr.alloc (.cells #[.int .i64 p0, .int .i64 p1, .int .i64 p2, .int .i64 p3, .int .i64 p4] 78) = w4 at qa0 qa1 qa2 qa3 qa4 q2 q3 hbr hbv hbn hb4 ⊢
          clear hw4 hs4
          have cP : ∀ d os, Calls Try.prog 115 #[.agg #[.int .i64 p0, .int .i64 p1, .int .i64 p2, .int .i64 p3, .int .i64 p4]] (grow (redrawn w4 d) os) fun e w'' => e = .returned (.bool true) ∧ ∃ p : Regrown, w'' = grow (redrawn w4 p.d) p.os := fun d os => Calls.regrown_of (by have h := impl_isClip p0 p1 p2 p3 p4 (grow (redrawn w4 d) os); rw [hp] at h; exact h)
          have ka0 := cell_regrown qa0
          have ka1 := cell_regrown qa1
          have ka2 := cell_regrown qa2
          have ka3 := cell_regrown qa3
          have ka4 := cell_regrown qa4
          have k2' := cell_regrown q2
          have k3' := cell_regrown q3
          clear qa0 qa1 qa2 qa3 qa4 q2 q3
          (refine wp_region_quiet_below (by kernel_rfl) (by kernel_rfl) ?_; (repeat (go_big_quiet_step (exact cP _ _))); refine wpQuiet_nil ?_; intro _ hw'; obtain ⟨⟨dq, osq⟩, hw''⟩ := hw'; subst hw'')
          go_wp2
          go_roundw
          case rel => exact ⟨k + 1, by go_num, by omega, Lib.hid (fun j hj => by rcases Nat.lt_succ_iff_lt_or_eq.1 hj with h | h; exact H.out j h; rw [h]; exact hyes.out), hb4.trans ((below_regrown w4 dq osq).mono (by rw [← hsize]; exact hb4.size))⟩
          case measure => simp [intOf]; omega
        · have hkk : IntKind.i64.wrap ((k : Int) - 1) = ((k - 1 : Nat) : Int) := by rw [IntWalk.i64_in _ (by omega)]; omega
          have hk1n : ((k - 1 : Nat) : Int) < (n : Int) := by omega
          have hd : decide (0 < k) = true := decide_eq_true (by omega)
          by_cases hge : p3 < r3
          · have hno := Lib.hid (show M.trackOk xs = false by rw [M.trackOk, M.all_not (k := k) (by rw [hl.out]; exact hlt) (by rw [M.stepT, hp0.out, hp, M.afterT, hp0.out, hz0.out]; simp [hk0]; omega), Bool.false_and])
            go_wp2
            generalize hw4 : wr.alloc (.cells #[.int .i64 p0, .int .i64 p1, .int .i64 p2, .int .i64 p3, .int .i64 p4] 78) = w4 at qa0 qa1 qa2 qa3 qa4 q2 q3 hbr hbv hbn hb4 ⊢
            clear hw4 hs4
            have cP : ∀ d os, Calls Try.prog 115 #[.agg #[.int .i64 p0, .int .i64 p1, .int .i64 p2, .int .i64 p3, .int .i64 p4]] (grow (redrawn w4 d) os) fun e w'' => e = .returned (.bool true) ∧ ∃ p : Regrown, w'' = grow (redrawn w4 p.d) p.os := fun d os => Calls.regrown_of (by have h := impl_isClip p0 p1 p2 p3 p4 (grow (redrawn w4 d) os); rw [hp] at h; exact h)
            have ka0 := cell_regrown qa0
            have ka1 := cell_regrown qa1
            have ka2 := cell_regrown qa2
            have ka3 := cell_regrown qa3
            have ka4 := cell_regrown qa4
            have k2' := cell_regrown q2
            have k3' := cell_regrown q3
            clear qa0 qa1 qa2 qa3 qa4 q2 q3
            (refine wp_region_quiet_below (by kernel_rfl) (by kernel_rfl) ?_; (repeat (go_big_quiet_step (exact cP _ _))); refine wpQuiet_nil ?_; intro _ hw'; obtain ⟨⟨dq, osq⟩, hw''⟩ := hw'; subst hw'')
            go_wp2
            go_ret
            exact ⟨ret_bool (by rw [hno.out]), hbw.trans ((hb4.trans ((below_regrown w4 dq osq).mono (by rw [← hsize]; exact hb4.size))).mono (by omega))⟩
          · have hyes := Lib.hid (show M.stepT xs k = true by rw [M.stepT, hp0.out, hp, M.afterT, hp0.out, hz0.out]; simp; omega)
            go_wp2
            generalize hw4 : wr.alloc (.cells #[.int .i64 p0, .int .i64 p1, .int .i64 p2, .int .i64 p3, .int .i64 p4] 78) = w4 at qa0 qa1 qa2 qa3 qa4 q2 q3 hbr hbv hbn hb4 ⊢
            clear hw4 hs4
            have cP : ∀ d os, Calls Try.prog 115 #[.agg #[.int .i64 p0, .int .i64 p1, .int .i64 p2, .int .i64 p3, .int .i64 p4]] (grow (redrawn w4 d) os) fun e w'' => e = .returned (.bool true) ∧ ∃ p : Regrown, w'' = grow (redrawn w4 p.d) p.os := fun d os => Calls.regrown_of (by have h := impl_isClip p0 p1 p2 p3 p4 (grow (redrawn w4 d) os); rw [hp] at h; exact h)
            have ka0 := cell_regrown qa0
            have ka1 := cell_regrown qa1
            have ka2 := cell_regrown qa2
            have ka3 := cell_regrown qa3
            have ka4 := cell_regrown qa4
            have k2' := cell_regrown q2
            have k3' := cell_regrown q3
            clear qa0 qa1 qa2 qa3 qa4 q2 q3
            (refine wp_region_quiet_below (by kernel_rfl) (by kernel_rfl) ?_; (repeat (go_big_quiet_step (exact cP _ _))); refine wpQuiet_nil ?_; intro _ hw'; obtain ⟨⟨dq, osq⟩, hw''⟩ := hw'; subst hw'')
            go_wp2
            go_roundw
            case rel => exact ⟨k + 1, by go_num, by omega, Lib.hid (fun j hj => by rcases Nat.lt_succ_iff_lt_or_eq.1 hj with h | h; exact H.out j h; rw [h]; exact hyes.out), hb4.trans ((below_regrown w4 dq osq).mono (by rw [← hsize]; exact hb4.size))⟩
            case measure => simp [intOf]; omega
    · have hyes := Lib.hid (M.all_upto (n := xs.length) (f := M.stepT xs) (fun j hj => H.out j (by rw [hl.out] at hj; omega)))
      have hres := Lib.hid (show decide (n ≤ 12) = M.trackOk xs by rw [M.trackOk, hyes.out, hl.out, Bool.true_and])
      go_wp2
      go_ret
      exact ⟨ret_bool (by rw [← hres.out]; exact decide_eq_decide.2 (by omega)), hbb⟩
theorem spec_l23Ok (vb : Nat) (A : Option Addr) (n c : Nat) (xs : List Clip) (w : World) (hv0 : w.cell? ⟨vb, 0, none⟩ = some (.slice A n c)) (hx : RA cl 5 w w.heap.size A n xs) (hn : n ≤ 1000000000) :
    Calls Try.prog 119 #[.pointer (some ⟨vb, 0, none⟩)] w fun e w' => e = .returned (.bool (M.trackOk xs)) ∧ Below w.heap.size w w' := by
  have hl := Lib.hid hx.len
  have hvb : vb < w.heap.size := World.block_lt_of_cell? w _ hv0
  go_enter Try.func119, Try.ntmps119
  go_wp2
  go_loopw [3] (fun i wr => ∃ k : Nat, i = .int .i64 k ∧ k ≤ n ∧ Hid (∀ j, j < k → M.stepT xs j = true) ∧ Below w.heap.size w wr) (fun i _ => n - (intOf i).toNat)
  case atStart => exact ⟨0, rfl, by omega, Lib.hid (by omega), Below.refl _ _⟩
  case round =>
    obtain ⟨k, rfl, hk, H, hb⟩ := hrel
    have hv : wr.cell? ⟨vb, 0, none⟩ = some (.slice A n c) := by rw [hb.cell (by simpa using hvb)]; exact hv0
    by_cases hlt : k < n
    · obtain ⟨b, o, ⟨p0, p1, p2, p3, p4⟩, rfl, hab, X, hc⟩ := (hx.below hb).at cl_len (by decide) hlt
      have hc0 : wr.cell? ⟨b, o + k * 5, none⟩ = some (.int .i64 p0) := hc 0 _ rfl
      have hc1 : wr.cell? ⟨b, o + k * 5 + 1, none⟩ = some (.int .i64 p1) := hc 1 _ rfl
      have hc2 : wr.cell? ⟨b, o + k * 5 + 2, none⟩ = some (.int .i64 p2) := hc 2 _ rfl
      have hc3 : wr.cell? ⟨b, o + k * 5 + 3, none⟩ = some (.int .i64 p3) := hc 3 _ rfl
      have hc4 : wr.cell? ⟨b, o + k * 5 + 4, none⟩ = some (.int .i64 p4) := hc 4 _ rfl
      clear hc
      obtain ⟨⟨r0, r1, r2, r3, r4⟩, Z, hr⟩ := (hx.below hb).cells cl_len (by decide) (k := k - 1) (by omega)
      have hr0 : wr.cell? ⟨b, o + (k - 1) * 5 + 3, none⟩ = some (.int .i64 r3) := hr 3 _ rfl
      clear hr
      have hp0 := Lib.hid (show (xs[k]?).getD M.cz = (p0, p1, p2, p3, p4) by rw [X.out]; rfl)
      have hz0 := Lib.hid (show (xs[k - 1]?).getD M.cz = (r0, r1, r2, r3, r4) by rw [Z.out]; rfl)
      cases hp : M.clipOk (p0, p1, p2, p3, p4)
      · have hno := Lib.hid (show M.trackOk xs = false by rw [M.trackOk, M.all_not (k := k) (by rw [hl.out]; exact hlt) (by rw [M.stepT, hp0.out, hp, Bool.false_and]), Bool.false_and])
        have cP : ∀ m, Calls Try.prog 142 #[.pointer (some ⟨b, o + k * 5, none⟩)] (wr.drewN m) fun e w'' => e = .returned (.bool false) ∧ ∃ m', w'' = wr.drewN m' := fun m => by have h := spec_l23Clip b (o + k * 5) (p0, p1, p2, p3, p4) (wr.drewN m) hc0 hc1 hc2 hc3 hc4; rw [hp] at h; exact h.mono fun _ _ ⟨he, q, hq⟩ => ⟨he, m + q, by rw [hq, World.drewN_drewN]⟩
        go_wp2
        go_quiet (exact cP _)
        go_wp2
        go_ret
        exact ⟨ret_bool (by rw [hno.out]), hb.trans (below_drewN (Below.refl _ _) _)⟩
      · by_cases hk0 : k = 0
        · have hyes := Lib.hid (show M.stepT xs k = true by rw [M.stepT, hp0.out, hp, M.afterT, hk0]; rfl)
          have hd : decide (0 < k) = false := by rw [hk0]; rfl
          have hd2 : ¬ 0 < k := by omega
          clear hk0
          have cP : ∀ m, Calls Try.prog 142 #[.pointer (some ⟨b, o + k * 5, none⟩)] (wr.drewN m) fun e w'' => e = .returned (.bool true) ∧ ∃ m', w'' = wr.drewN m' := fun m => by have h := spec_l23Clip b (o + k * 5) (p0, p1, p2, p3, p4) (wr.drewN m) hc0 hc1 hc2 hc3 hc4; rw [hp] at h; exact h.mono fun _ _ ⟨he, q, hq⟩ => ⟨he, m + q, by rw [hq, World.drewN_drewN]⟩
          go_wp2
          go_quiet (exact cP _)
          go_wp2
          go_roundw
          case rel => exact ⟨k + 1, by go_num, by omega, Lib.hid (fun j hj => by rcases Nat.lt_succ_iff_lt_or_eq.1 hj with h | h; exact H.out j h; rw [h]; exact hyes.out), hb.trans (below_drewN (Below.refl _ _) _)⟩
          case measure => simp [intOf]; omega
        · have hkk : IntKind.i64.wrap ((k : Int) - 1) = ((k - 1 : Nat) : Int) := by rw [IntWalk.i64_in _ (by omega)]; omega
          have hk1n : ((k - 1 : Nat) : Int) < (n : Int) := by omega
          have hd : decide (0 < k) = true := decide_eq_true (by omega)
          by_cases hge : p3 < r3
          · have hno := Lib.hid (show M.trackOk xs = false by rw [M.trackOk, M.all_not (k := k) (by rw [hl.out]; exact hlt) (by rw [M.stepT, hp0.out, hp, M.afterT, hp0.out, hz0.out]; simp [hk0]; omega), Bool.false_and])
            have cP : ∀ m, Calls Try.prog 142 #[.pointer (some ⟨b, o + k * 5, none⟩)] (wr.drewN m) fun e w'' => e = .returned (.bool true) ∧ ∃ m', w'' = wr.drewN m' := fun m => by have h := spec_l23Clip b (o + k * 5) (p0, p1, p2, p3, p4) (wr.drewN m) hc0 hc1 hc2 hc3 hc4; rw [hp] at h; exact h.mono fun _ _ ⟨he, q, hq⟩ => ⟨he, m + q, by rw [hq, World.drewN_drewN]⟩
            go_wp2
            go_quiet (exact cP _)
            go_wp2
            go_ret
            exact ⟨ret_bool (by rw [hno.out]), hb.trans (below_drewN (Below.refl _ _) _)⟩
          · have hyes := Lib.hid (show M.stepT xs k = true by rw [M.stepT, hp0.out, hp, M.afterT, hp0.out, hz0.out]; simp; omega)
            have cP : ∀ m, Calls Try.prog 142 #[.pointer (some ⟨b, o + k * 5, none⟩)] (wr.drewN m) fun e w'' => e = .returned (.bool true) ∧ ∃ m', w'' = wr.drewN m' := fun m => by have h := spec_l23Clip b (o + k * 5) (p0, p1, p2, p3, p4) (wr.drewN m) hc0 hc1 hc2 hc3 hc4; rw [hp] at h; exact h.mono fun _ _ ⟨he, q, hq⟩ => ⟨he, m + q, by rw [hq, World.drewN_drewN]⟩
            go_wp2
            go_quiet (exact cP _)
            go_wp2
            go_roundw
            case rel => exact ⟨k + 1, by go_num, by omega, Lib.hid (fun j hj => by rcases Nat.lt_succ_iff_lt_or_eq.1 hj with h | h; exact H.out j h; rw [h]; exact hyes.out), hb.trans (below_drewN (Below.refl _ _) _)⟩
            case measure => simp [intOf]; omega
    · have hyes := Lib.hid (M.all_upto (n := xs.length) (f := M.stepT xs) (fun j hj => H.out j (by rw [hl.out] at hj; omega)))
      have hres := Lib.hid (show decide (n ≤ 12) = M.trackOk xs by rw [M.trackOk, hyes.out, hl.out, Bool.true_and])
      go_wp2
      go_ret
      exact ⟨ret_bool (by rw [← hres.out]; exact decide_eq_decide.2 (by omega)), hb⟩
end Go.Proofs.Ytckihflfjecpbaa
