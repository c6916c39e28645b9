import Derived.Test.YtfkcoiefkjmdeaaGreatFnNullG1
import Derived.Deep.RegionLaw
import Derived.Lib.SliceRun
import Derived.Laws.IdiomStrings
import Derived.Lib.Strings
import Derived.Maps.OwnOps
import Derived.Maps.OwnSet
import Derived.StringKeys
import Derived.Lib.QuietBelow
set_option linter.unusedVariables false
set_option linter.unusedSimpArgs false
set_option maxRecDepth 100000
set_option maxHeartbeats 4000000
namespace Go.Proofs.YtfkcoiefkjmdeaaGreat
section
open Go.RowKit Go.Sort
abbrev Clip := Int × Int × Int × Int × Int
def zbs (p : Clip) : Bool := M.inn p.1 0 5 && M.inn p.2.2.1 1 4000 && M.inn p.2.1 0 (4000 - p.2.2.1) && M.inn p.2.2.2.1 0 (4000 - p.2.2.1) && M.smp p.2.2.2.2
def M.cz : Clip := (0, 0, 0, 0, 0)
def zee (xs : List Clip) (k : Nat) : Bool := k == 0 || decide (((xs[k - 1]?).getD M.cz).2.2.2.1 ≤ ((xs[k]?).getD M.cz).2.2.2.1)
def zb9 (xs : List Clip) (k : Nat) : Bool := zbs ((xs[k]?).getD M.cz) && zee xs k
def zau (xs : List Clip) : Bool := (List.range xs.length).all (zb9 xs) && decide (xs.length ≤ 12)
theorem zjo {l : Int} (h : M.inn l 1 4000 = true) : IntKind.i64.wrap (4000 - l) = 4000 - l ∧ 1 ≤ l ∧ l ≤ 4000 := by
 have := za2.1 h
 exact ⟨IntWalk.i64_in _ (by omega), this⟩
theorem zg3 (a b c d e : Int) (w : World) : Calls Tryz.prog 98 #[.agg #[.int .i64 a, .int .i64 b, .int .i64 c, .int .i64 d, .int .i64 e]] w fun en w' => en = .returned (.bool (zbs (a, b, c, d, e))) ∧ Below w.heap.size w w' := by
 cases h1 : M.inn a 0 5
 · go_enter Tryz.func98, Tryz.ntmps98
   go_wp2_with (first | (go_at_call 56; refine (zao _ _ _ _).mono ?_; rintro e w' ⟨rfl, rfl⟩) | (go_at_call 106; refine (zed _ _).mono ?_; rintro e w' ⟨rfl, rfl⟩))
   go_ret
   exact ⟨zab (by simp [zbs, h1]), (Below.refl _ _).alloc (Nat.le_refl _) _⟩
 · cases h2 : M.inn c 1 4000
   · go_enter Tryz.func98, Tryz.ntmps98
     go_wp2_with (first | (go_at_call 56; refine (zao _ _ _ _).mono ?_; rintro e w' ⟨rfl, rfl⟩) | (go_at_call 106; refine (zed _ _).mono ?_; rintro e w' ⟨rfl, rfl⟩))
     go_ret
     exact ⟨zab (by simp [zbs, h1, h2]), (Below.refl _ _).alloc (Nat.le_refl _) _⟩
   · obtain ⟨hw, hl1, hl2⟩ := zjo h2
     clear hw
     cases h3 : M.inn b 0 (4000 - c)
     · go_enter Tryz.func98, Tryz.ntmps98
       go_wp2_with (first | (go_at_call 56; refine (zao _ _ _ _).mono ?_; rintro e w' ⟨rfl, rfl⟩) | (go_at_call 106; refine (zed _ _).mono ?_; rintro e w' ⟨rfl, rfl⟩))
       go_ret
       exact ⟨zab (by simp [zbs, h1, h2, h3]), (Below.refl _ _).alloc (Nat.le_refl _) _⟩
     · cases h4 : M.inn d 0 (4000 - c)
       · go_enter Tryz.func98, Tryz.ntmps98
         go_wp2_with (first | (go_at_call 56; refine (zao _ _ _ _).mono ?_; rintro e w' ⟨rfl, rfl⟩) | (go_at_call 106; refine (zed _ _).mono ?_; rintro e w' ⟨rfl, rfl⟩))
         go_ret
         exact ⟨zab (by simp [zbs, h1, h2, h3, h4]), (Below.refl _ _).alloc (Nat.le_refl _) _⟩
       · cases h5 : M.smp e
         all_goals
          go_enter Tryz.func98, Tryz.ntmps98
          go_wp2_with (first | (go_at_call 56; refine (zao _ _ _ _).mono ?_; rintro e w' ⟨rfl, rfl⟩) | (go_at_call 106; refine (zed _ _).mono ?_; rintro e w' ⟨rfl, rfl⟩))
          go_ret
          exact ⟨zab (by simp [zbs, h1, h2, h3, h4, h5]), (Below.refl _ _).alloc (Nat.le_refl _) _⟩
theorem zf3 (b o : Nat) (p : Clip) (w : World) (g0 : w.cell? ⟨b, o, none⟩ = some (.int .i64 p.1)) (g1 : w.cell? ⟨b, o + 1, none⟩ = some (.int .i64 p.2.1)) (g2 : w.cell? ⟨b, o + 2, none⟩ = some (.int .i64 p.2.2.1)) (g3 : w.cell? ⟨b, o + 3, none⟩ = some (.int .i64 p.2.2.2.1)) (g4 : w.cell? ⟨b, o + 4, none⟩ = some (.int .i64 p.2.2.2.2)) :
 Calls Tryz.prog 49 #[.pointer (some ⟨b, o, none⟩)] w fun en w' => en = .returned (.bool (zbs p)) ∧ ∃ m, w' = w.drewN m := by
 obtain ⟨a, f, l, t, q⟩ := p
 simp only at g0 g1 g2 g3 g4
 cases h1 : M.inn a 0 5
 · go_enter Tryz.func49, Tryz.ntmps49
   go_wp2_with (first | (go_at_call 25; refine (zat _ _ _ _).mono ?_; rintro e w' ⟨rfl, rfl⟩) | (go_at_call 30; refine (zdl _ _).mono ?_; rintro e w' ⟨rfl, rfl⟩))
   go_ret
   exact ⟨zab (by simp [zbs, h1]), 0, rfl⟩
 · cases h2 : M.inn l 1 4000
   · go_enter Tryz.func49, Tryz.ntmps49
     go_wp2_with (first | (go_at_call 25; refine (zat _ _ _ _).mono ?_; rintro e w' ⟨rfl, rfl⟩) | (go_at_call 30; refine (zdl _ _).mono ?_; rintro e w' ⟨rfl, rfl⟩))
     go_ret
     exact ⟨zab (by simp [zbs, h1, h2]), 0, rfl⟩
   · cases h5 : M.smp q
     · go_enter Tryz.func49, Tryz.ntmps49
       go_wp2_with (first | (go_at_call 25; refine (zat _ _ _ _).mono ?_; rintro e w' ⟨rfl, rfl⟩) | (go_at_call 30; refine (zdl _ _).mono ?_; rintro e w' ⟨rfl, rfl⟩))
       go_ret
       exact ⟨zab (by simp [zbs, h1, h2, h5]), 0, rfl⟩
     · obtain ⟨hw, hl1, hl2⟩ := zjo h2
       have hw0 : (0 : Int) ≤ 4000 - l := by omega
       cases h3 : M.inn f 0 (4000 - l)
       · have c1 : ∀ m, Calls Tryz.prog 25 #[.int .i64 f, .int .i64 0, .int .i64 (4000 - l)] (w.drewN m) fun e w'' => e = .returned (.bool false) ∧ ∃ m', w'' = w.drewN m' := fun m => zbd (by have h := zat f 0 (4000 - l) (w.drewN m); rw [h3] at h; exact h)
         go_enter Tryz.func49, Tryz.ntmps49
         go_wp2_with (first | (go_at_call 25; refine (zat _ _ _ _).mono ?_; rintro e w' ⟨rfl, rfl⟩) | (go_at_call 30; refine (zdl _ _).mono ?_; rintro e w' ⟨rfl, rfl⟩))
         go_quiet (first | (go_at_call_of 25 (Value.int .i64 f); exact c1 _))
         go_wp2
         go_ret
         exact ⟨zab (by simp [zbs, h1, h2, h3, h5]), _, rfl⟩
       · cases h4 : M.inn t 0 (4000 - l)
         · have c1 : ∀ m, Calls Tryz.prog 25 #[.int .i64 f, .int .i64 0, .int .i64 (4000 - l)] (w.drewN m) fun e w'' => e = .returned (.bool true) ∧ ∃ m', w'' = w.drewN m' := fun m => zbd (by have h := zat f 0 (4000 - l) (w.drewN m); rw [h3] at h; exact h)
           have c2 : ∀ m, Calls Tryz.prog 25 #[.int .i64 t, .int .i64 0, .int .i64 (4000 - l)] (w.drewN m) fun e w'' => e = .returned (.bool false) ∧ ∃ m', w'' = w.drewN m' := fun m => zbd (by have h := zat t 0 (4000 - l) (w.drewN m); rw [h4] at h; exact h)
           go_enter Tryz.func49, Tryz.ntmps49
           go_wp2_with (first | (go_at_call 25; refine (zat _ _ _ _).mono ?_; rintro e w' ⟨rfl, rfl⟩) | (go_at_call 30; refine (zdl _ _).mono ?_; rintro e w' ⟨rfl, rfl⟩))
           go_quiet (first | (go_at_call_of 25 (Value.int .i64 f); exact c1 _) | (go_at_call_of 25 (Value.int .i64 t); exact c2 _))
           go_wp2
           go_ret
           exact ⟨zab (by simp [zbs, h1, h2, h3, h4, h5]), _, rfl⟩
         · have c1 : ∀ m, Calls Tryz.prog 25 #[.int .i64 f, .int .i64 0, .int .i64 (4000 - l)] (w.drewN m) fun e w'' => e = .returned (.bool true) ∧ ∃ m', w'' = w.drewN m' := fun m => zbd (by have h := zat f 0 (4000 - l) (w.drewN m); rw [h3] at h; exact h)
           have c2 : ∀ m, Calls Tryz.prog 25 #[.int .i64 t, .int .i64 0, .int .i64 (4000 - l)] (w.drewN m) fun e w'' => e = .returned (.bool true) ∧ ∃ m', w'' = w.drewN m' := fun m => zbd (by have h := zat t 0 (4000 - l) (w.drewN m); rw [h4] at h; exact h)
           go_enter Tryz.func49, Tryz.ntmps49
           go_wp2_with (first | (go_at_call 25; refine (zat _ _ _ _).mono ?_; rintro e w' ⟨rfl, rfl⟩) | (go_at_call 30; refine (zdl _ _).mono ?_; rintro e w' ⟨rfl, rfl⟩))
           go_quiet (first | (go_at_call_of 25 (Value.int .i64 f); exact c1 _) | (go_at_call_of 25 (Value.int .i64 t); exact c2 _))
           go_wp2
           go_ret
           exact ⟨zab (by simp [zbs, h1, h2, h3, h4, h5]), _, rfl⟩
theorem znc (A : Option Addr) (n c : Nat) (xs : List Clip) (w : World) (hx : RA cl 5 w w.heap.size A n xs) (hn : n ≤ 1000000000) :
 Calls Tryz.prog 68 #[.agg #[.slice A n c]] w fun e w' => e = .returned (.bool (zau xs)) ∧ Below w.heap.size w w' := by
 have hl := Lib.hid hx.len
 have hbw : Below w.heap.size w (w.alloc (.cells #[.slice A n c] 42)) := (Below.refl _ _).alloc (Nat.le_refl _) _
 have hself := zjm w (.slice A n c) 42
 have hsize : (w.alloc (.cells #[.slice A n c] 42)).heap.size = w.heap.size + 1 := by simp
 go_enter Tryz.func68, Tryz.ntmps68
 go_wp2
 go_loopw [3, 4, 8] (fun _ _ i wr => ∃ k : Nat, i = .int .i64 k ∧ k ≤ n ∧ Hid (∀ j, j < k → zb9 xs j = true) ∧ Below (w.heap.size + 1) (w.alloc (.cells #[.slice A n c] 42)) wr) (fun _ _ i _ => n - (intOf i).toNat)
 case atStart => exact ⟨0, rfl, by omega, Lib.hid (by omega), Below.refl _ _⟩
 case round =>
  obtain ⟨k, rfl, hk, H, hb⟩ := hrel
  have hbb : Below w.heap.size w wr := hbw.trans (hb.mono (by omega))
  have hsz : w.heap.size + 1 ≤ wr.heap.size := by rw [← hsize]; exact hb.size
  have hv : wr.cell? ⟨w.heap.size, 0, none⟩ = some (.slice A n c) := by rw [hb.cell (by simp)]; exact hself
  by_cases hlt : k < n
  · obtain ⟨b, o, ⟨p0, p1, p2, p3, p4⟩, rfl, hab, X, hc⟩ := (hx.below hbb).at zc8 (by decide) hlt
    have hc0 : wr.cell? ⟨b, o + k * 5, none⟩ = some (.int .i64 p0) := hc 0 _ rfl
    have hc1 : wr.cell? ⟨b, o + k * 5 + 1, none⟩ = some (.int .i64 p1) := hc 1 _ rfl
    have hc2 : wr.cell? ⟨b, o + k * 5 + 2, none⟩ = some (.int .i64 p2) := hc 2 _ rfl
    have hc3 : wr.cell? ⟨b, o + k * 5 + 3, none⟩ = some (.int .i64 p3) := hc 3 _ rfl
    have hc4 : wr.cell? ⟨b, o + k * 5 + 4, none⟩ = some (.int .i64 p4) := hc 4 _ rfl
    clear hc
    obtain ⟨⟨r0, r1, r2, r3, r4⟩, Z, hr⟩ := (hx.below hbb).cells zc8 (by decide) (k := k - 1) (by omega)
    have hr0 : wr.cell? ⟨b, o + (k - 1) * 5 + 3, none⟩ = some (.int .i64 r3) := hr 3 _ rfl
    clear hr
    have hs4 : (wr.alloc (.cells #[.int .i64 p0, .int .i64 p1, .int .i64 p2, .int .i64 p3, .int .i64 p4] 64)).heap.size = wr.heap.size + 1 := by simp
    have hbr : b < (wr.alloc (.cells #[.int .i64 p0, .int .i64 p1, .int .i64 p2, .int .i64 p3, .int .i64 p4] 64)).heap.size := by omega
    have hbv : w.heap.size < (wr.alloc (.cells #[.int .i64 p0, .int .i64 p1, .int .i64 p2, .int .i64 p3, .int .i64 p4] 64)).heap.size := by omega
    have hbn : wr.heap.size < (wr.alloc (.cells #[.int .i64 p0, .int .i64 p1, .int .i64 p2, .int .i64 p3, .int .i64 p4] 64)).heap.size := by omega
    have qa0 : (wr.alloc (.cells #[.int .i64 p0, .int .i64 p1, .int .i64 p2, .int .i64 p3, .int .i64 p4] 64)).cell? ⟨wr.heap.size, 0, none⟩ = some (.int .i64 p0) := by rw [cell_of_row _ wr.heap.size 0 _ 64 (0, 0) (heap_alloc_new wr _)]; rfl
    have qa1 : (wr.alloc (.cells #[.int .i64 p0, .int .i64 p1, .int .i64 p2, .int .i64 p3, .int .i64 p4] 64)).cell? ⟨wr.heap.size, 1, none⟩ = some (.int .i64 p1) := by rw [cell_of_row _ wr.heap.size 1 _ 64 (0, 0) (heap_alloc_new wr _)]; rfl
    have qa2 : (wr.alloc (.cells #[.int .i64 p0, .int .i64 p1, .int .i64 p2, .int .i64 p3, .int .i64 p4] 64)).cell? ⟨wr.heap.size, 2, none⟩ = some (.int .i64 p2) := by rw [cell_of_row _ wr.heap.size 2 _ 64 (0, 0) (heap_alloc_new wr _)]; rfl
    have qa3 : (wr.alloc (.cells #[.int .i64 p0, .int .i64 p1, .int .i64 p2, .int .i64 p3, .int .i64 p4] 64)).cell? ⟨wr.heap.size, 3, none⟩ = some (.int .i64 p3) := by rw [cell_of_row _ wr.heap.size 3 _ 64 (0, 0) (heap_alloc_new wr _)]; rfl
    have qa4 : (wr.alloc (.cells #[.int .i64 p0, .int .i64 p1, .int .i64 p2, .int .i64 p3, .int .i64 p4] 64)).cell? ⟨wr.heap.size, 4, none⟩ = some (.int .i64 p4) := by rw [cell_of_row _ wr.heap.size 4 _ 64 (0, 0) (heap_alloc_new wr _)]; rfl
    have q2 : (wr.alloc (.cells #[.int .i64 p0, .int .i64 p1, .int .i64 p2, .int .i64 p3, .int .i64 p4] 64)).cell? ⟨w.heap.size, 0, none⟩ = some (.slice (some ⟨b, o, none⟩) n c) := by rw [World.cell?_alloc_lt _ _ _ (by simp; omega)]; exact hv
    have q3 : (wr.alloc (.cells #[.int .i64 p0, .int .i64 p1, .int .i64 p2, .int .i64 p3, .int .i64 p4] 64)).cell? ⟨b, o + (k - 1) * 5 + 3, none⟩ = some (.int .i64 r3) := by rw [World.cell?_alloc_lt _ _ _ (by simp; omega)]; exact hr0
    have hb4 : Below (w.heap.size + 1) (w.alloc (.cells #[.slice (some ⟨b, o, none⟩) n c] 42)) (wr.alloc (.cells #[.int .i64 p0, .int .i64 p1, .int .i64 p2, .int .i64 p3, .int .i64 p4] 64)) := hb.alloc (by omega) _
    have hp0 := Lib.hid (show (xs[k]?).getD M.cz = (p0, p1, p2, p3, p4) by rw [X.out]; rfl)
    have hz0 := Lib.hid (show (xs[k - 1]?).getD M.cz = (r0, r1, r2, r3, r4) by rw [Z.out]; rfl)
    cases hp : zbs (p0, p1, p2, p3, p4)
    · have hno := Lib.hid (show zau xs = false by rw [zau, zg2 (k := k) (by rw [hl.out]; exact hlt) (by rw [zb9, hp0.out, hp, Bool.false_and]), Bool.false_and])
      go_wp2
      generalize hw4 : wr.alloc (.cells #[.int .i64 p0, .int .i64 p1, .int .i64 p2, .int .i64 p3, .int .i64 p4] 64) = w4 at qa0 qa1 qa2 qa3 qa4 q2 q3 hbr hbv hbn hb4 ⊢
      clear hw4 hs4
      have cP : ∀ d os, Calls Tryz.prog 98 #[.agg #[.int .i64 p0, .int .i64 p1, .int .i64 p2, .int .i64 p3, .int .i64 p4]] (grow (redrawn w4 d) os) fun e w'' => e = .returned (.bool false) ∧ ∃ p : Regrown, w'' = grow (redrawn w4 p.d) p.os := fun d os => Calls.regrown_of (by have h := zg3 p0 p1 p2 p3 p4 (grow (redrawn w4 d) os); rw [hp] at h; exact h)
      have ka0 := cell_regrown qa0
      have ka1 := cell_regrown qa1
      have ka2 := cell_regrown qa2
      have ka3 := cell_regrown qa3
      have ka4 := cell_regrown qa4
      have k2' := cell_regrown q2
      have k3' := cell_regrown q3
      clear qa0 qa1 qa2 qa3 qa4 q2 q3
      (refine wp_region_quiet_below (by kernel_rfl) (by kernel_rfl) ?_; (repeat (go_big_quiet_step (exact cP _ _))); refine wpQuiet_nil ?_; intro _ hw'; obtain ⟨⟨dq, osq⟩, hw''⟩ := hw'; subst hw'')
      go_wp2
      go_ret
      exact ⟨zab (by rw [hno.out]), hbw.trans ((hb4.trans ((below_regrown w4 dq osq).mono (by rw [← hsize]; exact hb4.size))).mono (by omega))⟩
    · by_cases hk0 : k = 0
      · have hyes := Lib.hid (show zb9 xs k = true by rw [zb9, hp0.out, hp, zee, hk0]; rfl)
        have hd : decide (0 < k) = false := by rw [hk0]; rfl
        have hd2 : ¬ 0 < k := by omega
        clear hk0
        go_wp2
        generalize hw4 : wr.alloc (.cells #[.int .i64 p0, .int .i64 p1, .int .i64 p2, .int .i64 p3, .int .i64 p4] 64) = w4 at qa0 qa1 qa2 qa3 qa4 q2 q3 hbr hbv hbn hb4 ⊢
        clear hw4 hs4
        have cP : ∀ d os, Calls Tryz.prog 98 #[.agg #[.int .i64 p0, .int .i64 p1, .int .i64 p2, .int .i64 p3, .int .i64 p4]] (grow (redrawn w4 d) os) fun e w'' => e = .returned (.bool true) ∧ ∃ p : Regrown, w'' = grow (redrawn w4 p.d) p.os := fun d os => Calls.regrown_of (by have h := zg3 p0 p1 p2 p3 p4 (grow (redrawn w4 d) os); rw [hp] at h; exact h)
        have ka0 := cell_regrown qa0
        have ka1 := cell_regrown qa1
        have ka2 := cell_regrown qa2
        have ka3 := cell_regrown qa3
        have ka4 := cell_regrown qa4
        have k2' := cell_regrown q2
        have k3' := cell_regrown q3
        clear qa0 qa1 qa2 qa3 qa4 q2 q3
        (refine wp_region_quiet_below (by kernel_rfl) (by kernel_rfl) ?_; (repeat (go_big_quiet_step (exact cP _ _))); refine wpQuiet_nil ?_; intro _ hw'; obtain ⟨⟨dq, osq⟩, hw''⟩ := hw'; subst hw'')
        go_wp2
        go_roundw
        case rel => exact ⟨k + 1, by go_num, by omega, Lib.hid (fun j hj => by rcases Nat.lt_succ_iff_lt_or_eq.1 hj with h | h; exact H.out j h; rw [h]; exact hyes.out), hb4.trans ((below_regrown w4 dq osq).mono (by rw [← hsize]; exact hb4.size))⟩
        case measure => simp [intOf]; omega
      · have hkk : IntKind.i64.wrap ((k : Int) - 1) = ((k - 1 : Nat) : Int) := by rw [IntWalk.i64_in _ (by omega)]; omega
        have hk1n : ((k - 1 : Nat) : Int) < (n : Int) := by omega
        have hd : decide (0 < k) = true := decide_eq_true (by omega)
        by_cases hge : p3 < r3
        · have hno := Lib.hid (show zau xs = false by rw [zau, zg2 (k := k) (by rw [hl.out]; exact hlt) (by rw [zb9, hp0.out, hp, zee, hp0.out, hz0.out]; simp [hk0]; omega), Bool.false_and])
          go_wp2
          generalize hw4 : wr.alloc (.cells #[.int .i64 p0, .int .i64 p1, .int .i64 p2, .int .i64 p3, .int .i64 p4] 64) = w4 at qa0 qa1 qa2 qa3 qa4 q2 q3 hbr hbv hbn hb4 ⊢
          clear hw4 hs4
          have cP : ∀ d os, Calls Tryz.prog 98 #[.agg #[.int .i64 p0, .int .i64 p1, .int .i64 p2, .int .i64 p3, .int .i64 p4]] (grow (redrawn w4 d) os) fun e w'' => e = .returned (.bool true) ∧ ∃ p : Regrown, w'' = grow (redrawn w4 p.d) p.os := fun d os => Calls.regrown_of (by have h := zg3 p0 p1 p2 p3 p4 (grow (redrawn w4 d) os); rw [hp] at h; exact h)
          have ka0 := cell_regrown qa0
          have ka1 := cell_regrown qa1
          have ka2 := cell_regrown qa2
          have ka3 := cell_regrown qa3
          have ka4 := cell_regrown qa4
          have k2' := cell_regrown q2
          have k3' := cell_regrown q3
          clear qa0 qa1 qa2 qa3 qa4 q2 q3
          (refine wp_region_quiet_below (by kernel_rfl) (by kernel_rfl) ?_; (repeat (go_big_quiet_step (exact cP _ _))); refine wpQuiet_nil ?_; intro _ hw'; obtain ⟨⟨dq, osq⟩, hw''⟩ := hw'; subst hw'')
          go_wp2
          go_ret
          exact ⟨zab (by rw [hno.out]), hbw.trans ((hb4.trans ((below_regrown w4 dq osq).mono (by rw [← hsize]; exact hb4.size))).mono (by omega))⟩
        · have hyes := Lib.hid (show zb9 xs k = true by rw [zb9, hp0.out, hp, zee, hp0.out, hz0.out]; simp; omega)
          go_wp2
          generalize hw4 : wr.alloc (.cells #[.int .i64 p0, .int .i64 p1, .int .i64 p2, .int .i64 p3, .int .i64 p4] 64) = w4 at qa0 qa1 qa2 qa3 qa4 q2 q3 hbr hbv hbn hb4 ⊢
          clear hw4 hs4
          have cP : ∀ d os, Calls Tryz.prog 98 #[.agg #[.int .i64 p0, .int .i64 p1, .int .i64 p2, .int .i64 p3, .int .i64 p4]] (grow (redrawn w4 d) os) fun e w'' => e = .returned (.bool true) ∧ ∃ p : Regrown, w'' = grow (redrawn w4 p.d) p.os := fun d os => Calls.regrown_of (by have h := zg3 p0 p1 p2 p3 p4 (grow (redrawn w4 d) os); rw [hp] at h; exact h)
          have ka0 := cell_regrown qa0
          have ka1 := cell_regrown qa1
          have ka2 := cell_regrown qa2
          have ka3 := cell_regrown qa3
          have ka4 := cell_regrown qa4
          have k2' := cell_regrown q2
          have k3' := cell_regrown q3
          clear qa0 qa1 qa2 qa3 qa4 q2 q3
          (refine wp_region_quiet_below (by kernel_rfl) (by kernel_rfl) ?_; (repeat (go_big_quiet_step (exact cP _ _))); refine wpQuiet_nil ?_; intro _ hw'; obtain ⟨⟨dq, osq⟩, hw''⟩ := hw'; subst hw'')
          go_wp2
          go_roundw
          case rel => exact ⟨k + 1, by go_num, by omega, Lib.hid (fun j hj => by rcases Nat.lt_succ_iff_lt_or_eq.1 hj with h | h; exact H.out j h; rw [h]; exact hyes.out), hb4.trans ((below_regrown w4 dq osq).mono (by rw [← hsize]; exact hb4.size))⟩
          case measure => simp [intOf]; omega
  · have hyes := Lib.hid (zjn (n := xs.length) (f := zb9 xs) (fun j hj => H.out j (by rw [hl.out] at hj; omega)))
    have hres := Lib.hid (show decide (n ≤ 12) = zau xs by rw [zau, hyes.out, hl.out, Bool.true_and])
    go_wp2
    go_ret
    exact ⟨zab (by rw [← hres.out]; exact decide_eq_decide.2 (by omega)), hbb⟩
theorem zjp (vb : Nat) (A : Option Addr) (n c : Nat) (xs : List Clip) (w : World) (hv0 : w.cell? ⟨vb, 0, none⟩ = some (.slice A n c)) (hx : RA cl 5 w w.heap.size A n xs) (hn : n ≤ 1000000000) :
 Calls Tryz.prog 24 #[.pointer (some ⟨vb, 0, none⟩)] w fun e w' => e = .returned (.bool (zau xs)) ∧ Below w.heap.size w w' := by
 have hl := Lib.hid hx.len
 have hvb : vb < w.heap.size := World.block_lt_of_cell? w _ hv0
 go_enter Tryz.func24, Tryz.ntmps24
 go_wp2
 go_loopw [3] (fun i wr => ∃ k : Nat, i = .int .i64 k ∧ k ≤ n ∧ Hid (∀ j, j < k → zb9 xs j = true) ∧ Below w.heap.size w wr) (fun i _ => n - (intOf i).toNat)
 case atStart => exact ⟨0, rfl, by omega, Lib.hid (by omega), Below.refl _ _⟩
 case round =>
  obtain ⟨k, rfl, hk, H, hb⟩ := hrel
  have hv : wr.cell? ⟨vb, 0, none⟩ = some (.slice A n c) := by rw [hb.cell (by simpa using hvb)]; exact hv0
  by_cases hlt : k < n
  · obtain ⟨b, o, ⟨p0, p1, p2, p3, p4⟩, rfl, hab, X, hc⟩ := (hx.below hb).at zc8 (by decide) hlt
    have hc0 : wr.cell? ⟨b, o + k * 5, none⟩ = some (.int .i64 p0) := hc 0 _ rfl
    have hc1 : wr.cell? ⟨b, o + k * 5 + 1, none⟩ = some (.int .i64 p1) := hc 1 _ rfl
    have hc2 : wr.cell? ⟨b, o + k * 5 + 2, none⟩ = some (.int .i64 p2) := hc 2 _ rfl
    have hc3 : wr.cell? ⟨b, o + k * 5 + 3, none⟩ = some (.int .i64 p3) := hc 3 _ rfl
    have hc4 : wr.cell? ⟨b, o + k * 5 + 4, none⟩ = some (.int .i64 p4) := hc 4 _ rfl
    clear hc
    obtain ⟨⟨r0, r1, r2, r3, r4⟩, Z, hr⟩ := (hx.below hb).cells zc8 (by decide) (k := k - 1) (by omega)
    have hr0 : wr.cell? ⟨b, o + (k - 1) * 5 + 3, none⟩ = some (.int .i64 r3) := hr 3 _ rfl
    clear hr
    have hp0 := Lib.hid (show (xs[k]?).getD M.cz = (p0, p1, p2, p3, p4) by rw [X.out]; rfl)
    have hz0 := Lib.hid (show (xs[k - 1]?).getD M.cz = (r0, r1, r2, r3, r4) by rw [Z.out]; rfl)
    cases hp : zbs (p0, p1, p2, p3, p4)
    · have hno := Lib.hid (show zau xs = false by rw [zau, zg2 (k := k) (by rw [hl.out]; exact hlt) (by rw [zb9, hp0.out, hp, Bool.false_and]), Bool.false_and])
      have cP : ∀ m, Calls Tryz.prog 49 #[.pointer (some ⟨b, o + k * 5, none⟩)] (wr.drewN m) fun e w'' => e = .returned (.bool false) ∧ ∃ m', w'' = wr.drewN m' := fun m => by have h := zf3 b (o + k * 5) (p0, p1, p2, p3, p4) (wr.drewN m) hc0 hc1 hc2 hc3 hc4; rw [hp] at h; exact h.mono fun _ _ ⟨he, q, hq⟩ => ⟨he, m + q, by rw [hq, World.drewN_drewN]⟩
      go_wp2
      go_quiet (exact cP _)
      go_wp2
      go_ret
      exact ⟨zab (by rw [hno.out]), hb.trans (zac (Below.refl _ _) _)⟩
    · by_cases hk0 : k = 0
      · have hyes := Lib.hid (show zb9 xs k = true by rw [zb9, hp0.out, hp, zee, hk0]; rfl)
        have hd : decide (0 < k) = false := by rw [hk0]; rfl
        have hd2 : ¬ 0 < k := by omega
        clear hk0
        have cP : ∀ m, Calls Tryz.prog 49 #[.pointer (some ⟨b, o + k * 5, none⟩)] (wr.drewN m) fun e w'' => e = .returned (.bool true) ∧ ∃ m', w'' = wr.drewN m' := fun m => by have h := zf3 b (o + k * 5) (p0, p1, p2, p3, p4) (wr.drewN m) hc0 hc1 hc2 hc3 hc4; rw [hp] at h; exact h.mono fun _ _ ⟨he, q, hq⟩ => ⟨he, m + q, by rw [hq, World.drewN_drewN]⟩
        go_wp2
        go_quiet (exact cP _)
        go_wp2
        go_roundw
        case rel => exact ⟨k + 1, by go_num, by omega, Lib.hid (fun j hj => by rcases Nat.lt_succ_iff_lt_or_eq.1 hj with h | h; exact H.out j h; rw [h]; exact hyes.out), hb.trans (zac (Below.refl _ _) _)⟩
        case measure => simp [intOf]; omega
      · have hkk : IntKind.i64.wrap ((k : Int) - 1) = ((k - 1 : Nat) : Int) := by rw [IntWalk.i64_in _ (by omega)]; omega
        have hk1n : ((k - 1 : Nat) : Int) < (n : Int) := by omega
        have hd : decide (0 < k) = true := decide_eq_true (by omega)
        by_cases hge : p3 < r3
        · have hno := Lib.hid (show zau xs = false by rw [zau, zg2 (k := k) (by rw [hl.out]; exact hlt) (by rw [zb9, hp0.out, hp, zee, hp0.out, hz0.out]; simp [hk0]; omega), Bool.false_and])
          have cP : ∀ m, Calls Tryz.prog 49 #[.pointer (some ⟨b, o + k * 5, none⟩)] (wr.drewN m) fun e w'' => e = .returned (.bool true) ∧ ∃ m', w'' = wr.drewN m' := fun m => by have h := zf3 b (o + k * 5) (p0, p1, p2, p3, p4) (wr.drewN m) hc0 hc1 hc2 hc3 hc4; rw [hp] at h; exact h.mono fun _ _ ⟨he, q, hq⟩ => ⟨he, m + q, by rw [hq, World.drewN_drewN]⟩
          go_wp2
          go_quiet (exact cP _)
          go_wp2
          go_ret
          exact ⟨zab (by rw [hno.out]), hb.trans (zac (Below.refl _ _) _)⟩
        · have hyes := Lib.hid (show zb9 xs k = true by rw [zb9, hp0.out, hp, zee, hp0.out, hz0.out]; simp; omega)
          have cP : ∀ m, Calls Tryz.prog 49 #[.pointer (some ⟨b, o + k * 5, none⟩)] (wr.drewN m) fun e w'' => e = .returned (.bool true) ∧ ∃ m', w'' = wr.drewN m' := fun m => by have h := zf3 b (o + k * 5) (p0, p1, p2, p3, p4) (wr.drewN m) hc0 hc1 hc2 hc3 hc4; rw [hp] at h; exact h.mono fun _ _ ⟨he, q, hq⟩ => ⟨he, m + q, by rw [hq, World.drewN_drewN]⟩
          go_wp2
          go_quiet (exact cP _)
          go_wp2
          go_roundw
          case rel => exact ⟨k + 1, by go_num, by omega, Lib.hid (fun j hj => by rcases Nat.lt_succ_iff_lt_or_eq.1 hj with h | h; exact H.out j h; rw [h]; exact hyes.out), hb.trans (zac (Below.refl _ _) _)⟩
          case measure => simp [intOf]; omega
  · have hyes := Lib.hid (zjn (n := xs.length) (f := zb9 xs) (fun j hj => H.out j (by rw [hl.out] at hj; omega)))
    have hres := Lib.hid (show decide (n ≤ 12) = zau xs by rw [zau, hyes.out, hl.out, Bool.true_and])
    go_wp2
    go_ret
    exact ⟨zab (by rw [← hres.out]; exact decide_eq_decide.2 (by omega)), hb⟩
end
section
open Go.RowKit Go.Sort
end
section
open Go.RowKit Go.Sort
end
section
open Go.RowKit Go.Sort
end
section
open Go.RowKit Go.Sort
end
section
open Go.RowKit Go.Sort
theorem OA.made0 {α : Type} {enc : α → List Value} {e : TypeId} {s : Nat} (w : World) : OA enc e s w.heap.size (w.alloc (.cells #[] e)).heap.size (w.alloc (.cells #[] e)) (.slice (some ⟨w.heap.size, 0, none⟩) 0 0) [] :=
 OX.of_own (World.ownsRow_made _ _ _ (Nat.le_refl _) (by simp [maxLen]) (by simp))
end
section
open Go.RowKit
section
variable {base s n cap g : Nat} {e : TypeId} {cs : List Value} {w : World}
end
section
variable {α : Type} {enc : α → List Value} {s : Nat}
theorem znd (henc : ∀ x, (enc x).length = s) (xs : List α) (k : Nat) : (xs.flatMap enc).take (k * s) = (xs.take k).flatMap enc := by
 induction xs generalizing k with
 | nil => simp
 | cons y ys ih =>
  cases k with
  | zero => simp
  | succ k => rw [List.take_succ_cons, List.flatMap_cons, List.flatMap_cons, ← ih, Nat.succ_mul, Nat.add_comm, List.take_append, henc, List.take_of_length_le (by rw [henc]; omega)]; congr 2; omega
theorem zne (henc : ∀ x, (enc x).length = s) (xs : List α) (k : Nat) : (xs.flatMap enc).drop (k * s) = (xs.drop k).flatMap enc := by
 induction xs generalizing k with
 | nil => simp
 | cons y ys ih =>
  cases k with
  | zero => simp
  | succ k => rw [List.drop_succ_cons, List.flatMap_cons, ← ih, Nat.succ_mul, Nat.add_comm, List.drop_append, henc, List.drop_of_length_le (by rw [henc]; omega), List.nil_append]; congr 1; omega
end
theorem RA.reads {α : Type} {enc : α → List Value} {s : Nat} {w : World} {B n : Nat} {A : Option Addr} {xs : List α} (h : RA enc s w B A n xs) : Reads w B s A n (xs.flatMap enc) := h.2
end
section
open Go.RowKit
theorem RA.cut {α : Type} {enc : α → List Value} {s B n c k : Nat} {w : World} {A : Option Addr} {xs : List α} (henc : ∀ x, (enc x).length = s) (h : RA enc s w B A n xs) (hk : k ≤ n) (hc : n ≤ c) :
 RA enc s w B (if c = k then A else A.map (·.add (k * s))) (n - k) (xs.drop k) := by
 refine ⟨by rw [List.length_drop, h.1], ?_⟩
 rw [← zne henc]
 exact Reads.cut h.2 hk hc
theorem RA.head {α : Type} {enc : α → List Value} {s B n k : Nat} {w : World} {A : Option Addr} {xs : List α} (henc : ∀ x, (enc x).length = s) (h : RA enc s w B A n xs) (hk : k ≤ n) : RA enc s w B A k (xs.take k) := by
 refine ⟨by rw [List.length_take, h.1]; omega, by rw [zh5 henc, List.length_take, h.1, Nat.min_eq_left hk], fun h0 => ?_⟩
 obtain ⟨ad, e, hb, hc⟩ := h.2.2 (by omega)
 refine ⟨ad, e, hb, fun j u hu => hc j u ?_⟩
 rw [← znd henc, List.getElem?_take] at hu
 split at hu
 · exact hu
 · simp at hu
end
section
open Go.RowKit
theorem zd4 (xs : List (Int × Int × Int × Int × Int)) : ∀ u ∈ xs.flatMap cl, u.oneCell' = true := by
 intro u hu
 obtain ⟨p, _, hp⟩ := List.mem_flatMap.1 hu
 simp only [cl, List.mem_cons, List.not_mem_nil, or_false] at hp
 rcases hp with rfl | rfl | rfl | rfl | rfl <;> rfl
end
section
open Go.RowKit
end
section
open Go.RowKit
theorem zjq {α : Type} {p : α → Bool} {xs : List α} {k : Nat} {x : α} (hx : xs[k]? = some x) (hp : p x = true) (h : ∀ j, j < k → ∀ y, xs[j]? = some y → p y = false) : xs.findIdx? p = some k := by
 obtain ⟨hk, rfl⟩ := List.getElem?_eq_some_iff.1 hx
 rw [List.findIdx?_eq_some_iff_getElem]
 exact ⟨hk, hp, fun j hj => by rw [h j hj _ (List.getElem?_eq_getElem (by omega))]; exact Bool.false_ne_true⟩
theorem zjr {α : Type} {p : α → Bool} {xs : List α} (h : ∀ j, j < xs.length → ∀ y, xs[j]? = some y → p y = false) : xs.findIdx? p = none := by
 rw [List.findIdx?_eq_none_iff]
 intro x hx
 obtain ⟨i, hi, rfl⟩ := List.getElem_of_mem hx
 exact h i hi _ (List.getElem?_eq_getElem hi)
def zu8 (c : Clip) (l : Int) : Clip := (c.1, c.2.1, c.2.2.1 + l, c.2.2.2.1, c.2.2.2.2)
theorem zjs {xs : List Clip} (h : zau xs = true) : xs.length ≤ 12 := by
 rw [zau, Bool.and_eq_true, decide_eq_true_iff] at h
 exact h.2
theorem zh7 {xs : List Clip} (h : zau xs = true) {k : Nat} {p : Clip} (hk : xs[k]? = some p) : zbs p = true := by
 rw [zau, Bool.and_eq_true, List.all_eq_true] at h
 have := h.1 k (List.mem_range.2 (List.getElem?_eq_some_iff.1 hk).1)
 rw [zb9, Bool.and_eq_true, hk] at this
 exact this.1
theorem zjt {p : Clip} (h : zbs p = true) : (0 ≤ p.1 ∧ p.1 ≤ 5) ∧ (1 ≤ p.2.2.1 ∧ p.2.2.1 ≤ 4000) ∧ (0 ≤ p.2.1 ∧ p.2.1 ≤ 4000 - p.2.2.1) ∧ (0 ≤ p.2.2.2.1 ∧ p.2.2.2.1 ≤ 4000 - p.2.2.1) ∧ (-2147483648 ≤ p.2.2.2.2 ∧ p.2.2.2.2 ≤ 2147483647) := by
 simp only [zbs, Bool.and_eq_true, za2] at h
 exact ⟨h.1.1.1.1, h.1.1.1.2, h.1.1.2, h.1.2, M.smp_bd h.2⟩
def zf4 : Option Nat → Int
 | some i => i
 | none => -1
end
section
open Go.RowKit
def zfh (src : List (List Int)) (c : Clip) (i : Int) : Int :=
 if c.2.2.2.1 ≤ i ∧ i < c.2.2.2.1 + c.2.2.1 then c.2.2.2.2 * M.at_ ((src[c.1.toNat]?).getD []) (c.2.1 + (i - c.2.2.2.1)) else 0
def zcq (src : List (List Int)) : List Clip → Int → Int
 | [], _ => 0
 | c :: cs, i => zfh src c i + zcq src cs i
def zb0 (src : List (List Int)) (xs : List Clip) (n : Nat) : List Int := (List.range n).map fun (i : Nat) => wrap32 (zcq src xs (i : Int))
def zdn (src : List (List Int)) (xs : List Clip) (c : Clip) (m : Nat) (n : Nat) : List Int := (List.range n).map fun (i : Nat) => wrap32 (zcq src xs (i : Int) + if (i : Int) < c.2.2.2.1 + m then zfh src c (i : Int) else 0)
theorem zf5 (src : List (List Int)) (xs : List Clip) (n : Nat) : (zb0 src xs n).length = n := by simp [zb0]
theorem zh8 (src : List (List Int)) (xs : List Clip) (c : Clip) (m n : Nat) : (zdn src xs c m n).length = n := by simp [zdn]
theorem znf {src : List (List Int)} {xs : List Clip} {n i : Nat} (h : i < n) : (zb0 src xs n)[i]? = some (wrap32 (zcq src xs (i : Int))) := by simp [zb0, h]
theorem zng (src : List (List Int)) (xs ys : List Clip) (i : Int) : zcq src (xs ++ ys) i = zcq src xs i + zcq src ys i := by
 induction xs with
 | nil => simp [zcq]
 | cons x xs ih => rw [List.cons_append, zcq, zcq, ih]; omega
theorem znh (src : List (List Int)) (c : Clip) (i : Int) : zcq src [c] i = zfh src c i := by simp [zcq]
theorem zf6 (src : List (List Int)) (n : Nat) : zb0 src [] n = List.replicate n 0 := by
 apply List.ext_getElem?
 intro i
 by_cases h : i < n
 · rw [znf h, zcq]
   simp [h]
   unfold wrap32
   omega
 · rw [List.getElem?_eq_none (by rw [zf5]; omega), List.getElem?_eq_none (by simp; omega)]
theorem zni (src : List (List Int)) (xs : List Clip) (c : Clip) (n : Nat) : zdn src xs c 0 n = zb0 src xs n := by
 refine List.map_congr_left fun i _ => ?_
 congr 1
 unfold zfh
 split
 · rw [if_neg (by omega)]; omega
 · omega
theorem zju (src : List (List Int)) (xs : List Clip) (c : Clip) (m n : Nat) (h : c.2.2.1 ≤ m ∨ (n : Int) ≤ c.2.2.2.1 + m) : zdn src xs c m n = zb0 src (xs ++ [c]) n := by
 refine List.map_congr_left fun i hi => ?_
 have hi := List.mem_range.1 hi
 rw [zng, znh]
 congr 1
 split
 · rfl
 · unfold zfh
   rw [if_neg (by omega)]
theorem znj {src : List (List Int)} {xs : List Clip} {c : Clip} {m n p : Nat} (hp : p < n) (e : (p : Int) = c.2.2.2.1 + m) : (zdn src xs c m n)[p]? = some (wrap32 (zcq src xs (p : Int))) := by
 simp only [zdn, List.getElem?_map, List.getElem?_range hp, Option.map_some]
 rw [if_neg (by omega), Int.add_zero]
theorem znk {src : List (List Int)} {xs : List Clip} {c : Clip} {m n p : Nat} (hp : p < n) (e : (p : Int) = c.2.2.2.1 + m) (hm : (m : Int) < c.2.2.1) :
 (zdn src xs c m n).set p (wrap32 (wrap32 (zcq src xs (p : Int)) + c.2.2.2.2 * M.at_ ((src[c.1.toNat]?).getD []) (c.2.1 + m))) = zdn src xs c (m + 1) n := by
 apply List.ext_getElem?
 intro i
 rw [List.getElem?_set]
 by_cases hi : p = i
 · subst hi
   rw [if_pos rfl, if_pos (by rw [zh8]; exact hp)]
   simp only [zdn, List.getElem?_map, List.getElem?_range hp, Option.map_some]
   rw [if_pos (by omega), zfh, if_pos (by omega), M.wrap32_addl, show (p : Int) - c.2.2.2.1 = m by omega]
 · rw [if_neg hi]
   by_cases hn : i < n
   · simp only [zdn, List.getElem?_map, List.getElem?_range hn, Option.map_some]
     congr 3
     by_cases h1 : (i : Int) < c.2.2.2.1 + m
     · rw [if_pos h1, if_pos (by omega)]
     · rw [if_neg h1, if_neg (by omega)]
   · rw [List.getElem?_eq_none (by rw [zh8]; omega), List.getElem?_eq_none (by rw [zh8]; omega)]
def zc9 (src : List (List Int)) : Bool := decide (src.length ≤ 6) && src.all M.sig
def zbe (xs : List Clip) (m : Int) : Bool := xs.all fun c => decide (c.1 < m)
end
section
open Go.RowKit
theorem zfi : EI Tryz.prog 98 68 (.agg #[.int .i64 0, .int .i64 0]) 2 16 := ⟨Tryz.underlying98, by kernel_rfl, rfl, by decide⟩
def sd (p : (Int × Int)) : List Value := [.int .i64 p.1, .int .i64 p.2]
theorem zfj (p : (Int × Int)) : (sd p).length = 2 := rfl
abbrev tSd : Ty (Int × Int) := Ty.flat 2 (by decide) (0, 0) sd zfj (by simp [sd, Value.oneCell'])
abbrev hSd : Hs (Int × Int) := hI.prod hI
abbrev tSdS : Ty (List (Int × Int)) := tSd.sl 68
abbrev hSdS : Hs (List (Int × Int)) := hSd.sl
theorem znl (xs : List (Int × Int)) : hSd.szL xs = 0 := by
 induction xs with
 | nil => rfl
 | cons x xs ih => rw [Hs.szL, ih]; rfl
theorem znm (xs : List (Int × Int)) : hSdS.sz xs = xs.length := by show xs.length + hSd.szL xs = _; rw [znl]; rfl
end
section
open Go.RowKit
def tStr : Ty ByteArray where
 s := 1
 pos := Nat.one_pos
 zero := ⟨#[]⟩
 R _ _ cs x := cs = [.string x] ∧ x.size ≤ maxLen
 O _ _ cs x := cs = [.string x] ∧ x.size ≤ maxLen
 rlen := by rintro w B cs x ⟨rfl, _⟩; rfl
 keep := fun _ h => h
 more := fun _ h => h
 read := fun h => h
 okeep := fun _ h => h
 owide := fun _ h => h
 ocells := by rintro w F cs x ⟨rfl, _⟩ u hu; simp only [List.mem_singleton] at hu; subst hu; rfl
 oreal := fun h => h
def zjv (k : Nat) : List UInt8 := if k = 0 then [] else zjv (k / 10) ++ [UInt8.ofNat (48 + k % 10)]
def znn (k : Int) : ByteArray := if k ≤ 0 then ⟨#[109, 48]⟩ else ⟨(109 :: zjv k.toNat).toArray⟩
def hStr : Hs ByteArray := ⟨fun s => s.size, fun k _ => znn k, fun _ => 1⟩
abbrev zad := ByteArray × Int × List (Int × Int)
abbrev tSt : Ty zad := tStr.prod (tI.prod tSdS)
abbrev hSt : Hs zad := hStr.prod (hI.prod hSdS)
abbrev tM : Ty (List zad) := tSt.sl 100
abbrev hM : Hs (List zad) := hSt.sl
section
variable {w : World} {B : Nat} {F : Nat → Prop} {cs : List Value} {s : ByteArray} {l : Int} {xs : List (Int × Int)}
theorem zjw {cs : List Value} (h : tSdS.R w B cs xs) : ∃ A n c, cs = [.slice A n c] := by
 obtain ⟨v, rfl, hr⟩ := h
 obtain ⟨A, c, rfl⟩ := hr.shape
 exact ⟨_, _, _, rfl⟩
theorem st_R : tSt.R w B cs (s, l, xs) ↔ ∃ A n c, cs = [.string s, .int .i64 l, .slice A n c] ∧ s.size ≤ maxLen ∧ tSdS.R w B [.slice A n c] xs := by
 constructor
 · rintro ⟨c1, c2, rfl, ⟨rfl, h1⟩, c3, c4, rfl, h2, h3⟩
   obtain rfl : c3 = [.int .i64 l] := h2
   obtain ⟨A, n, c, rfl⟩ := zjw h3
   exact ⟨A, n, c, rfl, h1, h3⟩
 · rintro ⟨A, n, c, rfl, h1, h3⟩
   exact ⟨[.string s], _, rfl, ⟨rfl, h1⟩, [.int .i64 l], _, rfl, rfl, h3⟩
theorem st_O : tSt.O w F cs (s, l, xs) ↔ ∃ A n c, cs = [.string s, .int .i64 l, .slice A n c] ∧ s.size ≤ maxLen ∧ tSdS.O w F [.slice A n c] xs := by
 constructor
 · rintro ⟨c1, c2, F1, F2, rfl, ⟨rfl, h1⟩, ⟨c3, c4, F3, F4, rfl, h2, h3, f3, f4, _⟩, f1, f2, _⟩
   obtain rfl : c3 = [.int .i64 l] := h2
   obtain ⟨A, n, c, rfl⟩ := zjw (tSdS.read h3)
   exact ⟨A, n, c, rfl, h1, tSdS.owide (fun b hb => f2 b (f4 b hb)) h3⟩
 · rintro ⟨A, n, c, rfl, h1, h3⟩
   exact ⟨[.string s], _, fun _ => False, F, rfl, ⟨rfl, h1⟩, ⟨[.int .i64 l], _, fun _ => False, F, rfl, rfl, h3, fun _ h => h.elim, fun _ h => h, fun _ h => h.elim⟩, fun _ h => h.elim, fun _ h => h, fun _ h => h.elim⟩
theorem zh9 (s : ByteArray) (l : Int) (xs : List (Int × Int)) : hSt.sz (s, l, xs) = s.size + xs.length := by
 show s.size + (0 + hSdS.sz xs) = _
 rw [znm, Nat.zero_add]
end
end
section
open Go.RowKit
end
section
open Go.RowKit
theorem ze3 : EI Tryz.prog 28 100 (.agg #[.string ⟨#[]⟩, .int .i64 0, .slice none 0 0]) 3 48 := ⟨Tryz.underlying28, by kernel_rfl, rfl, by decide⟩
end
section
open Go.RowKit
end
section
open Go.RowKit
theorem zfk {w : World} {B : Nat} {A : Option Addr} {n c : Nat} {xs : List (Int × Int)} (h : tSdS.R w B [.slice A n c] xs) : RA sd 2 w B A n xs ∧ n ≤ c ∧ c ≤ maxLen := (sl_R.1 h).flat
theorem zno {s t : ByteArray} (h : ¬ s = t) : ¬ s.toList = t.toList := fun e => h (by
 rw [Lib.toList_data, Lib.toList_data] at e
 exact ByteArray.ext (Array.toList_inj.1 e))
end
section
open Go.RowKit
end
section
open Go.RowKit
def zda (c : UInt8) : Bool := decide (97 ≤ c.toNat) && decide (c.toNat ≤ 122)
def zdo (c : UInt8) : Bool := decide (48 ≤ c.toNat) && decide (c.toNat ≤ 57)
def zce (s : ByteArray) (i : Nat) : Bool := match s.data.toList[i]? with
 | some c => zda c || (zdo c && decide (i ≠ 0))
 | none => true
def zc0 (s : ByteArray) : Bool := decide (1 ≤ s.size) && decide (s.size ≤ 10) && (List.range s.size).all (zce s)
theorem zia {s : ByteArray} {k : Nat} (hk : k < s.size) : zce s k = (zda s[k] || (zdo s[k] && decide (k ≠ 0))) := by
 have h1 : s.data.toList[k]? = some s[k] := by
  rw [List.getElem?_eq_getElem (by simpa using hk)]
  rfl
 rw [zce, h1]
theorem zib {s : ByteArray} {k : Nat} (hk : k < s.size) (h : zce s k = false) : zc0 s = false := by
 rw [zc0]
 cases hall : (List.range s.size).all (zce s)
 · simp
 · rw [List.all_eq_true] at hall
   have := hall k (List.mem_range.2 hk)
   rw [h] at this
   cases this
theorem zjx {s : ByteArray} (h1 : 1 ≤ s.size) (h2 : s.size ≤ 10) (h : ∀ j, j < s.size → zce s j = true) : zc0 s = true := by
 rw [zc0, decide_eq_true h1, decide_eq_true h2, Bool.true_and, Bool.true_and, List.all_eq_true]
 exact fun j hj => h j (List.mem_range.1 hj)
theorem zic {s : ByteArray} (h : ¬ (1 ≤ s.size ∧ s.size ≤ 10)) : zc0 s = false := by
 rw [zc0]
 by_cases h1 : 1 ≤ s.size
 · have h2 : ¬ s.size ≤ 10 := fun e => h ⟨h1, e⟩
   simp [h2]
 · simp [h1]
theorem zf7 (s : ByteArray) (w : World) (hs : s.size ≤ maxLen) :
 Calls Tryz.prog 86 #[.string s] w fun e w' => e = .returned (.bool (zc0 s)) ∧ w = w' := by
 unfold maxLen at hs
 by_cases hlen : 1 ≤ s.size ∧ s.size ≤ 10
 · obtain ⟨hl1, hl2⟩ := hlen
   go_enter Tryz.func86, Tryz.ntmps86
   go_wp2
   go_loop [3, 4, 5] (fun i _ _ => ∃ k : Nat, i = .int .i64 k ∧ k ≤ s.size ∧ Hid (∀ j, j < k → zce s j = true)) (fun i _ _ => s.size - (intOf i).toNat)
   case atStart => exact ⟨0, rfl, by omega, Lib.hid (by omega)⟩
   case round =>
    obtain ⟨k, rfl, hk, H⟩ := hrel
    by_cases hlt : k < s.size
    · have hA := Lib.hid (zia hlt)
      have hgo : zce s k = true → ∀ j, j < k + 1 → zce s j = true := fun h j hj => by
       rcases Nat.lt_or_ge j k with h1 | h1
       · exact H.out j h1
       · obtain rfl : j = k := by omega
         exact h
      have HG := Lib.hid hgo
      have HN := Lib.hid (fun h => zib (s := s) (k := k) hlt h)
      clear hgo
      by_cases h97 : 97 ≤ s[k].toNat
      · by_cases h122 : s[k].toNat ≤ 122
        · have h2 := Lib.hid (show zce s k = true by rw [hA.out]; simp [zda, zdo]; omega)
          have g1 : (97 : Int) ≤ (s[k].toNat : Int) := by omega
          have g2 : (s[k].toNat : Int) ≤ 122 := by omega
          clear h97 h122
          go_wp2
          go_round
          case rel => exact ⟨k + 1, by go_num, by omega, Lib.hid (HG.out h2.out)⟩
          case measure => simp [intOf]; omega
        · have h2 := Lib.hid (HN.out (show zce s k = false by rw [hA.out]; simp [zda, zdo]; omega))
          have g1 : (97 : Int) ≤ (s[k].toNat : Int) := by omega
          have g2 : ¬ (s[k].toNat : Int) ≤ 122 := by omega
          have g3 : (48 : Int) ≤ (s[k].toNat : Int) := by omega
          have g4 : ¬ (s[k].toNat : Int) ≤ 57 := by omega
          clear h97 h122
          go_wp2
          go_ret
          exact ⟨zab (by rw [h2.out]), rfl⟩
      · by_cases h48 : 48 ≤ s[k].toNat
        · by_cases h57 : s[k].toNat ≤ 57
          · by_cases hk0 : k = 0
            · have h2 := Lib.hid (HN.out (show zce s k = false by rw [hA.out]; simp [zda, zdo]; omega))
              have g1 : ¬ (97 : Int) ≤ (s[k].toNat : Int) := by omega
              have g3 : (48 : Int) ≤ (s[k].toNat : Int) := by omega
              have g4 : (s[k].toNat : Int) ≤ 57 := by omega
              clear h97 h48 h57
              subst hk0
              go_wp2
              go_ret
              exact ⟨zab (by rw [h2.out]), rfl⟩
            · have h2 := Lib.hid (show zce s k = true by rw [hA.out]; simp [zda, zdo]; omega)
              have g1 : ¬ (97 : Int) ≤ (s[k].toNat : Int) := by omega
              have g3 : (48 : Int) ≤ (s[k].toNat : Int) := by omega
              have g4 : (s[k].toNat : Int) ≤ 57 := by omega
              clear h97 h48 h57
              go_wp2
              go_round
              case rel => exact ⟨k + 1, by go_num, by omega, Lib.hid (HG.out h2.out)⟩
              case measure => simp [intOf]; omega
          · have h2 := Lib.hid (HN.out (show zce s k = false by rw [hA.out]; simp [zda, zdo]; omega))
            have g1 : ¬ (97 : Int) ≤ (s[k].toNat : Int) := by omega
            have g3 : (48 : Int) ≤ (s[k].toNat : Int) := by omega
            have g4 : ¬ (s[k].toNat : Int) ≤ 57 := by omega
            clear h97 h48 h57
            go_wp2
            go_ret
            exact ⟨zab (by rw [h2.out]), rfl⟩
        · have h2 := Lib.hid (HN.out (show zce s k = false by rw [hA.out]; simp [zda, zdo]; omega))
          have g1 : ¬ (97 : Int) ≤ (s[k].toNat : Int) := by omega
          have g3 : ¬ (48 : Int) ≤ (s[k].toNat : Int) := by omega
          clear h97 h48
          go_wp2
          go_ret
          exact ⟨zab (by rw [h2.out]), rfl⟩
    · have hY := Lib.hid (zjx hl1 hl2 (fun j hj => H.out j (by omega)))
      go_wp2
      go_ret
      exact ⟨zab (by rw [hY.out]), rfl⟩
 · have hN := Lib.hid (zic hlen)
   by_cases h1 : s.size < 1
   · go_enter Tryz.func86, Tryz.ntmps86
     go_wp2
     go_ret
     exact ⟨zab (by rw [hN.out]), rfl⟩
   · have h2 : 10 < s.size := by omega
     go_enter Tryz.func86, Tryz.ntmps86
     go_wp2
     go_ret
     exact ⟨zab (by rw [hN.out]), rfl⟩
theorem zf8 (c : UInt8) (w : World) : Calls Tryz.prog 138 #[.int .u8 (c.toNat : Int)] w fun e w' => e = .returned (.bool (zda c)) ∧ w = w' := by
 go_enter Tryz.func138, Tryz.ntmps138
 go_wp2
 all_goals
  go_ret
  exact ⟨zab (by rw [zda, Bool.eq_iff_iff]; simp; omega), rfl⟩
theorem zjy (c : UInt8) (w : World) : Calls Tryz.prog 139 #[.int .u8 (c.toNat : Int)] w fun e w' => e = .returned (.bool (zdo c)) ∧ w = w' := by
 go_enter Tryz.func139, Tryz.ntmps139
 go_wp2
 all_goals
  go_ret
  exact ⟨zab (by rw [zdo, Bool.eq_iff_iff]; simp; omega), rfl⟩
theorem ze4 (s : ByteArray) (w : World) (hs : s.size ≤ maxLen) :
 Calls Tryz.prog 120 #[.string s] w fun e w' => e = .returned (.bool (zc0 s)) ∧ w = w' := by
 unfold maxLen at hs
 by_cases h0 : s.size = 0
 · have hN := Lib.hid (zic (s := s) (by omega))
   have he : s.toList = [] := by rw [Lib.toList_data]; exact List.eq_nil_of_length_eq_zero (by simpa using h0)
   have he2 : s.toList.isEmpty = true := by rw [he]; rfl
   clear h0
   go_enter Tryz.func120, Tryz.ntmps120
   go_wp2
   go_ret
   exact ⟨zab (by rw [hN.out]), rfl⟩
 · have he : ¬ s.toList = [] := by
    rw [Lib.toList_data]
    intro e
    exact h0 (by have := congrArg List.length e; simpa using this)
   have he2 : s.toList.isEmpty = false := by simpa using he
   have hp : 0 < s.size := by omega
   by_cases h10 : 10 < s.size
   · have hN := Lib.hid (zic (s := s) (by omega))
     go_enter Tryz.func120, Tryz.ntmps120
     go_wp2
     go_ret
     exact ⟨zab (by rw [hN.out]), rfl⟩
   · cases hsm : zda s[0]
     · have hN := Lib.hid (zib (s := s) (k := 0) hp (by rw [zia hp, hsm]; simp))
       go_enter Tryz.func120, Tryz.ntmps120
       go_wp2_with (go_at_call 138; refine (zf8 _ _).mono ?_; rw [hsm]; rintro e w' ⟨rfl, rfl⟩)
       go_ret
       exact ⟨zab (by rw [hN.out]), rfl⟩
     · have hl2 : s.size ≤ 10 := by omega
       have HSM := Lib.hid hsm
       clear hsm
       go_enter Tryz.func120, Tryz.ntmps120
       go_wp2_with (go_at_call 138; refine (zf8 _ _).mono ?_; rw [HSM.out]; rintro e w' ⟨rfl, rfl⟩)
       go_loop [3] (fun i => ∃ k : Nat, i = .int .i64 k ∧ k ≤ s.size ∧ Hid (∀ j, j < k → zce s j = true)) (fun i => s.size - (intOf i).toNat)
       case atStart => exact ⟨0, rfl, by omega, Lib.hid (by omega)⟩
       case round =>
        obtain ⟨k, rfl, hk, H⟩ := hrel
        by_cases hlt : k < s.size
        · have hA := Lib.hid (zia hlt)
          have HG := Lib.hid (show zce s k = true → ∀ j, j < k + 1 → zce s j = true from fun h j hj => by
           rcases Nat.lt_or_ge j k with h1 | h1
           · exact H.out j h1
           · obtain rfl : j = k := by omega
             exact h)
          have HN := Lib.hid (fun h => zib (s := s) (k := k) hlt h)
          have HK := Lib.hid (show k = 0 → zda s[k] = true from fun e => by subst e; exact HSM.out)
          cases h1 : zda s[k]
          · cases h2 : zdo s[k]
            · have h3 := Lib.hid (HN.out (by rw [hA.out, h1, h2]; rfl))
              go_wp2_with (first | (go_at_call 138; refine (zf8 _ _).mono ?_; rw [h1]; rintro e w' ⟨rfl, rfl⟩) | (go_at_call 139; refine (zjy _ _).mono ?_; rw [h2]; rintro e w' ⟨rfl, rfl⟩))
              go_ret
              exact ⟨zab (by rw [h3.out]), rfl⟩
            · have hk0 : ¬ k = 0 := fun e => by have := HK.out e; rw [h1] at this; cases this
              have h3 := Lib.hid (HG.out (by rw [hA.out, h1, h2]; simpa using hk0))
              clear hk0
              go_wp2_with (first | (go_at_call 138; refine (zf8 _ _).mono ?_; rw [h1]; rintro e w' ⟨rfl, rfl⟩) | (go_at_call 139; refine (zjy _ _).mono ?_; rw [h2]; rintro e w' ⟨rfl, rfl⟩))
              go_round
              case rel => exact ⟨k + 1, by go_num, by omega, h3⟩
              case measure => simp [intOf]; omega
          · have h3 := Lib.hid (HG.out (by rw [hA.out, h1]; rfl))
            go_wp2_with (go_at_call 138; refine (zf8 _ _).mono ?_; rw [h1]; rintro e w' ⟨rfl, rfl⟩)
            go_round
            case rel => exact ⟨k + 1, by go_num, by omega, h3⟩
            case measure => simp [intOf]; omega
        · have hY := Lib.hid (zjx (s := s) hp hl2 (fun j hj => H.out j (by omega)))
          go_wp2
          go_ret
          exact ⟨zab (by rw [hY.out]), rfl⟩
end
section
open Go.RowKit
theorem zc1 {n lo hi : Int} : M.inn n lo hi = true ↔ lo ≤ n ∧ n ≤ hi := by simp [M.inn]
def zbo (m : Int) : Int → List (Int × Int) → Bool
 | _, [] => true
 | last, x :: xs => M.inn x.1 (last + 1) (m - 1) && M.smp x.2 && zbo m x.1 xs
def zbp (xs : List (Int × Int)) (k m : Int) : Bool := zbo m k xs && (if k = m - 1 then decide (xs.length = 0) else M.inn xs.length 1 4)
def zbi (x : zad) (k m : Int) : Bool := zc0 x.1 && M.inn x.2.1 0 32 && zbp x.2.2 k m
theorem zjz {m last : Int} {xs : List (Int × Int)} {j : Nat} {p0 p1 : Int} (h : xs[j]? = some (p0, p1)) : zbo m last (xs.drop j) = (M.inn p0 (last + 1) (m - 1) && M.smp p1 && zbo m p0 (xs.drop (j + 1))) := by
 rw [M.drop_at h, zbo]
theorem znp (A : Option Addr) (n c : Nat) (w : World) : Calls Tryz.prog 112 #[.slice A n c] w fun e w' => e = .returned (.int .i64 n) ∧ w = w' := by
 go_enter Tryz.func112, Tryz.ntmps112
 go_wp2
 go_ret
 exact ⟨rfl, rfl⟩
theorem zd5 (A : Option Addr) (n c : Nat) (w : World) : Calls Tryz.prog 55 #[.slice A n c] w fun e w' => e = .returned (.int .i64 n) ∧ w = w' := by
 go_enter Tryz.func55, Tryz.ntmps55
 go_wp2
 go_ret
 exact ⟨rfl, rfl⟩
theorem znq (A : Option Addr) (n c : Nat) (xs : List (Int × Int)) (k m : Int) (w : World) (hx : RA sd 2 w w.heap.size A n xs) (hn : n ≤ 1000000000) (hk : 0 ≤ k ∧ k ≤ 1000000000) (hm : 0 ≤ m ∧ m ≤ 1000000000) :
 Calls Tryz.prog 87 #[.slice A n c, .int .i64 k, .int .i64 m] w fun e w' => e = .returned (.bool (zbp xs k m)) ∧ Below w.heap.size w w' := by
 have hl := Lib.hid hx.1
 go_enter Tryz.func87, Tryz.ntmps87
 go_wp2
 go_loopw [7, 9, 13] (fun v _ i wr => ∃ (j : Nat) (last : Int), i = .int .i64 j ∧ j ≤ n ∧ v = .int .i64 last ∧ 0 ≤ last ∧ last ≤ 1000000000 ∧ Hid (zbo m k xs = zbo m last (xs.drop j)) ∧ Below w.heap.size w wr) (fun _ _ i _ => n - (intOf i).toNat)
 case atStart => exact ⟨0, k, rfl, by omega, rfl, by omega, by omega, Lib.hid rfl, Below.refl _ _⟩
 case round =>
  obtain ⟨j, last, rfl, hj, rfl, hl0, hl1, H, hb⟩ := hrel
  by_cases hlt : j < n
  · obtain ⟨b, o, ⟨p0, p1⟩, rfl, hab, X, hcc⟩ := (hx.below hb).at zfj (by decide) hlt
    have e0 : wr.cell? ⟨b, o + j * 2, none⟩ = some (.int .i64 p0) := hcc 0 _ rfl
    have e1 : wr.cell? ⟨b, o + j * 2 + 1, none⟩ = some (.int .i64 p1) := hcc 1 _ rfl
    have hS := Lib.hid (zjz (m := m) (last := last) X.out)
    clear hcc
    cases h1 : M.inn p0 (last + 1) (m - 1)
    · have R := Lib.hid (show zbp xs k m = false by rw [zbp, H.out, hS.out, h1]; rfl)
      go_wp2_with (go_at_call 56; refine (zao _ _ _ _).mono ?_; rintro e w' ⟨rfl, rfl⟩)
      go_ret
      exact ⟨zab (by rw [R.out]), hb.alloc hb.size _⟩
    · cases h2 : M.smp p1
      · have R := Lib.hid (show zbp xs k m = false by rw [zbp, H.out, hS.out, h1, h2]; rfl)
        go_wp2_with (first | (go_at_call 56; refine (zao _ _ _ _).mono ?_; rintro e w' ⟨rfl, rfl⟩) | (go_at_call 106; refine (zed _ _).mono ?_; rintro e w' ⟨rfl, rfl⟩))
        go_ret
        exact ⟨zab (by rw [R.out]), hb.alloc hb.size _⟩
      · have hp := zc1.1 h1
        have H2 := Lib.hid (show zbo m k xs = zbo m p0 (xs.drop (j + 1)) by rw [H.out, hS.out, h1, h2]; rfl)
        go_wp2_with (first | (go_at_call 56; refine (zao _ _ _ _).mono ?_; rintro e w' ⟨rfl, rfl⟩) | (go_at_call 106; refine (zed _ _).mono ?_; rintro e w' ⟨rfl, rfl⟩))
        go_roundw
        case rel => exact ⟨j + 1, p0, by go_num, by omega, rfl, by omega, by omega, H2, hb.alloc hb.size _⟩
        case measure => simp [intOf]; omega
  · have H2 := Lib.hid (show zbo m k xs = true by rw [H.out, List.drop_eq_nil_of_le (by rw [hl.out]; omega)]; rfl)
    by_cases hkm : k = m - 1
    · have R := Lib.hid (show zbp xs k m = decide (n = 0) by rw [zbp, H2.out, if_pos hkm, hl.out]; rfl)
      have hkm2 : (k == m - 1) = true := by simpa using hkm
      clear hkm
      by_cases hz : n = 0
      · subst hz
        go_wp2
        go_ret
        exact ⟨zab (by rw [R.out]; rfl), hb⟩
      · have hz2 : ((n : Int) == 0) = false := by simpa using hz
        have R2 := Lib.hid (show zbp xs k m = false by rw [R.out]; simpa using hz)
        clear hz
        go_wp2
        go_ret
        exact ⟨zab (by first | (rw [R2.out]; done) | (rw [R2.out]; exact hz2)), hb⟩
    · have hkm2 : (k == m - 1) = false := by simpa using hkm
      have R := Lib.hid (show zbp xs k m = M.inn n 1 4 by rw [zbp, H2.out, if_neg hkm, hl.out]; rfl)
      go_wp2_with (first | (go_at_call 56; refine (zao _ _ _ _).mono ?_; rintro e w' ⟨rfl, rfl⟩) | (go_at_call 112; refine (znp _ _ _ _).mono ?_; rintro e w' ⟨rfl, rfl⟩))
      go_ret
      exact ⟨zab (by rw [R.out]), hb⟩
theorem znr (g o : Nat) (s : ByteArray) (l : Int) (A : Option Addr) (n c : Nat) (xs : List (Int × Int)) (k m : Int) (w : World) (a0 : w.cell? ⟨g, o, none⟩ = some (.string s)) (a1 : w.cell? ⟨g, o + 1, none⟩ = some (.int .i64 l)) (a2 : w.cell? ⟨g, o + 2, none⟩ = some (.slice A n c))
 (hs : s.size ≤ maxLen) (hx : RA sd 2 w w.heap.size A n xs) (hn : n ≤ 1000000000) (hk : 0 ≤ k ∧ k ≤ 1000000000) (hm : 0 ≤ m ∧ m ≤ 1000000000) :
 Calls Tryz.prog 102 #[.pointer (some ⟨g, o, none⟩), .int .i64 k, .int .i64 m] w fun e w' => e = .returned (.bool (zbi (s, l, xs) k m)) ∧ w = w' := by
 have hl := Lib.hid hx.1
 cases hN : zc0 s
 · have R := Lib.hid (show zbi (s, l, xs) k m = false by rw [zbi, hN]; rfl)
   go_enter Tryz.func102, Tryz.ntmps102
   go_wp2_with (first | (go_at_call 120; refine (ze4 _ _ hs).mono ?_; rw [hN]; rintro e w' ⟨rfl, rfl⟩) | (go_at_call 25; refine (zat _ _ _ _).mono ?_; rintro e w' ⟨rfl, rfl⟩))
   go_ret
   exact ⟨zab (by rw [R.out]), rfl⟩
 cases hL : M.inn l 0 32
 · have R := Lib.hid (show zbi (s, l, xs) k m = false by rw [zbi, hN, hL]; rfl)
   go_enter Tryz.func102, Tryz.ntmps102
   go_wp2_with (first | (go_at_call 120; refine (ze4 _ _ hs).mono ?_; rw [hN]; rintro e w' ⟨rfl, rfl⟩) | (go_at_call 25; refine (zat _ _ _ _).mono ?_; rintro e w' ⟨rfl, rfl⟩))
   go_ret
   exact ⟨zab (by rw [R.out]), rfl⟩
 by_cases h4 : 4 < n
 · have h4' : (4 : Int) < (n : Int) := by omega
   have R := Lib.hid (show zbi (s, l, xs) k m = false by
    rw [zbi, hN, hL]
    show zbp xs k m = false
    rw [zbp, hl.out]
    split
    · rw [decide_eq_false (by omega), Bool.and_false]
    · rw [show M.inn (n : Int) 1 4 = false by simp [M.inn]; omega, Bool.and_false])
   go_enter Tryz.func102, Tryz.ntmps102
   go_wp2_with (first | (go_at_call 120; refine (ze4 _ _ hs).mono ?_; rw [hN]; rintro e w' ⟨rfl, rfl⟩) | (go_at_call 25; refine (zat _ _ _ _).mono ?_; rintro e w' ⟨rfl, rfl⟩))
   go_ret
   exact ⟨zab (by rw [R.out]), rfl⟩
 by_cases hz : n = 0
 · by_cases hkm : k = m - 1
   · have R := Lib.hid (show zbi (s, l, xs) k m = true by
      have hnil : xs = [] := List.eq_nil_of_length_eq_zero (by rw [hl.out, hz])
      rw [zbi, hN, hL, zbp, if_pos hkm, hnil]; rfl)
     have hkm2 : (k == m - 1) = true := by simpa using hkm
     subst hz
     clear hkm
     go_enter Tryz.func102, Tryz.ntmps102
     go_wp2_with (first | (go_at_call 120; refine (ze4 _ _ hs).mono ?_; rw [hN]; rintro e w' ⟨rfl, rfl⟩) | (go_at_call 25; refine (zat _ _ _ _).mono ?_; rintro e w' ⟨rfl, rfl⟩))
     go_loop [7, 8] (fun _ i => i = .int .i64 0) (fun _ _ => 0)
     case atStart => exact rfl
     case round =>
      obtain rfl := hrel
      go_wp2
      go_ret
      exact ⟨zab (by rw [R.out]), rfl⟩
   · have R := Lib.hid (show zbi (s, l, xs) k m = false by
      rw [zbi, hN, hL]
      show zbp xs k m = false
      rw [zbp, hl.out, if_neg hkm, hz, show M.inn ((0 : Nat) : Int) 1 4 = false by decide, Bool.and_false])
     have hkm2 : (k == m - 1) = false := by simpa using hkm
     subst hz
     go_enter Tryz.func102, Tryz.ntmps102
     go_wp2_with (first | (go_at_call 120; refine (ze4 _ _ hs).mono ?_; rw [hN]; rintro e w' ⟨rfl, rfl⟩) | (go_at_call 25; refine (zat _ _ _ _).mono ?_; rintro e w' ⟨rfl, rfl⟩))
     go_ret
     exact ⟨zab (by rw [R.out]), rfl⟩
 · have hz2 : ((n : Int) == 0) = false := by simpa using hz
   by_cases hkm : k = m - 1
   · have R := Lib.hid (show zbi (s, l, xs) k m = false by
      rw [zbi, hN, hL]
      show zbp xs k m = false
      rw [zbp, hl.out, if_pos hkm, decide_eq_false hz, Bool.and_false])
     have hkm2 : (k == m - 1) = true := by simpa using hkm
     clear hkm hz
     go_enter Tryz.func102, Tryz.ntmps102
     go_wp2_with (first | (go_at_call 120; refine (ze4 _ _ hs).mono ?_; rw [hN]; rintro e w' ⟨rfl, rfl⟩) | (go_at_call 25; refine (zat _ _ _ _).mono ?_; rintro e w' ⟨rfl, rfl⟩))
     go_ret
     exact ⟨zab (by rw [R.out]), rfl⟩
   · have R := Lib.hid (show zbi (s, l, xs) k m = zbo m k xs by
      rw [zbi, hN, hL]
      show zbp xs k m = _
      rw [zbp, hl.out, if_neg hkm, show M.inn (n : Int) 1 4 = true from zc1.2 ⟨by omega, by omega⟩, Bool.and_true])
     have hkm2 : (k == m - 1) = false := by simpa using hkm
     have hN' := Lib.hid hN
     have hL' := Lib.hid hL
     clear hkm hz hN hL
     go_enter Tryz.func102, Tryz.ntmps102
     go_wp2_with (first | (go_at_call 120; refine (ze4 _ _ hs).mono ?_; rw [hN'.out]; rintro e w' ⟨rfl, rfl⟩) | (go_at_call 25; refine (zat _ _ _ _).mono ?_; rw [hL'.out]; rintro e w' ⟨rfl, rfl⟩))
     go_loop [7, 8] (fun v i => ∃ (j : Nat) (last : Int), i = .int .i64 j ∧ j ≤ n ∧ v = .int .i64 last ∧ 0 ≤ last ∧ last ≤ 1000000000 ∧ Hid (zbo m k xs = zbo m last (xs.drop j))) (fun _ i => n - (intOf i).toNat)
     case atStart => exact ⟨0, k, rfl, by omega, rfl, by omega, by omega, Lib.hid rfl⟩
     case round =>
      obtain ⟨j, last, rfl, hj, rfl, hl0, hl1, H⟩ := hrel
      by_cases hlt : j < n
      · obtain ⟨b, o1, ⟨p0, p1⟩, rfl, hab, X, hcc⟩ := hx.at zfj (by decide) hlt
        have e0 : w.cell? ⟨b, o1 + j * 2, none⟩ = some (.int .i64 p0) := hcc 0 _ rfl
        have e1 : w.cell? ⟨b, o1 + j * 2 + 1, none⟩ = some (.int .i64 p1) := hcc 1 _ rfl
        have hS := Lib.hid (zjz (m := m) (last := last) X.out)
        clear hcc
        cases h1 : M.inn p0 (last + 1) (m - 1)
        · have R2 := Lib.hid (show zbi (s, l, xs) k m = false by rw [R.out, H.out, hS.out, h1]; rfl)
          go_wp2_with (go_at_call 25; refine (zat _ _ _ _).mono ?_; rintro e w' ⟨rfl, rfl⟩)
          go_ret
          exact ⟨zab (by rw [R2.out]), rfl⟩
        · cases h2 : M.smp p1
          · have R2 := Lib.hid (show zbi (s, l, xs) k m = false by rw [R.out, H.out, hS.out, h1, h2]; rfl)
            go_wp2_with (first | (go_at_call 25; refine (zat _ _ _ _).mono ?_; rintro e w' ⟨rfl, rfl⟩) | (go_at_call 30; refine (zdl _ _).mono ?_; rintro e w' ⟨rfl, rfl⟩))
            go_ret
            exact ⟨zab (by rw [R2.out]), rfl⟩
          · have hp := zc1.1 h1
            have H2 := Lib.hid (show zbo m k xs = zbo m p0 (xs.drop (j + 1)) by rw [H.out, hS.out, h1, h2]; rfl)
            go_wp2_with (first | (go_at_call 25; refine (zat _ _ _ _).mono ?_; rintro e w' ⟨rfl, rfl⟩) | (go_at_call 30; refine (zdl _ _).mono ?_; rintro e w' ⟨rfl, rfl⟩))
            go_round
            case rel => exact ⟨j + 1, p0, by go_num, by omega, rfl, by omega, by omega, H2⟩
            case measure => simp [intOf]; omega
      · have R2 := Lib.hid (show zbi (s, l, xs) k m = true by rw [R.out, H.out, List.drop_eq_nil_of_le (by rw [hl.out]; omega)]; rfl)
        go_wp2
        go_ret
        exact ⟨zab (by rw [R2.out]), rfl⟩
end
section
open Go.RowKit
open Go.Maps (Keyed)
theorem zns {P : Program} {k t e : TypeId} {w : World} {b n : Nat} {D : DataW Unit} (h : w.ownsMap P k (plainElem P e) b n D) (K : Keyed P k) (ht : P.underlying t = some (.map k e)) (he : P.underlying e = some .bool) (hz : (zeroValue e).run P w = .ok (.bool false) w)
 {key : Value} {kl : Lit} (hkey : keyOf P k key = some kl) : ∃ c, (Instr.lookup t (.map (some b)) key false).run P w = .ok (.bool c) w ∧ D.atKey kl (.lit (.bool false)) = .lit (.bool c) := by
 obtain ⟨v, ps, hrun, hv⟩ := h.lookup K ht hz (plainElem_bool he false) hkey
 unfold plainElem at hv
 rw [he] at hv
 cases v <;> simp at hv
 rename_i c
 exact ⟨c, hrun, hv.1.symm⟩
def zdg (s : ByteArray) (l : List ByteArray) : Bool := l.any fun t => decide (t = s)
def zg4 (D : DataW Unit) (l : List ByteArray) : Prop := Go.Maps.IsMap D ∧ ∀ s : ByteArray, D.atKey (.string s.data.toList) (.lit (.bool false)) = .lit (.bool (zdg s l))
theorem znt {s t : ByteArray} (h : s.data.toList = t.data.toList) : s = t := ByteArray.ext (Array.toList_inj.1 h)
theorem znu : zg4 (.map []) [] := ⟨⟨[], rfl⟩, fun s => rfl⟩
theorem znv {D : DataW Unit} {l : List ByteArray} (h : zg4 D l) (s : ByteArray) : zg4 (D.put (.string s.data.toList) (.lit (.bool true))) (l ++ [s]) := by
 refine ⟨?_, fun t => ?_⟩
 · obtain ⟨es, rfl⟩ := h.1
   exact ⟨_, rfl⟩
 · by_cases e : t = s
   · subst e
     rw [Go.Maps.atKey_put_same (k := .string t.data.toList) h.1 (by simp [WideAt.IsKeyLit])]
     simp [zdg]
   · rw [Go.Maps.atKey_put_other (fun e2 => e (by injection e2 with e2; exact znt e2)), h.2 t]
     have e2 : ¬ s = t := fun h => e h.symm
     simp [zdg, e2]
theorem zj0 : Keyed Tryz.prog 9 := Keyed.of_law (Go.WideMaps.string_law Tryz.underlying9)
theorem znw (w : World) : (zeroValue 4).run Tryz.prog w = .ok (.bool false) w := by kernel_rfl
def M.sz : zad := (⟨#[]⟩, 0, [])
def zdp (xs : List zad) (k : Nat) : Bool := zbi ((xs[k]?).getD M.sz) k xs.length && !zdg ((xs[k]?).getD M.sz).1 ((xs.take k).map (·.1))
def zas (xs : List zad) : Bool := M.inn xs.length 1 8 && (List.range xs.length).all (zdp xs)
theorem zj1 {xs : List zad} {k : Nat} (hk : k < xs.length) (h : zdp xs k = false) : zas xs = false := by
 rw [zas]
 cases hall : (List.range xs.length).all (zdp xs)
 · simp
 · rw [List.all_eq_true] at hall
   have := hall k (List.mem_range.2 hk)
   rw [h] at this
   cases this
theorem zj2 {xs : List zad} (h : ∀ j, j < xs.length → zdp xs j = true) : zas xs = M.inn xs.length 1 8 := by
 rw [zas, show (List.range xs.length).all (zdp xs) = true from List.all_eq_true.2 fun j hj => h j (List.mem_range.1 hj), Bool.and_true]
theorem zf9 {xs : List zad} {k : Nat} {x : zad} (h : xs[k]? = some x) : zdp xs k = (zbi x k xs.length && !zdg x.1 ((xs.take k).map (·.1))) := by
 rw [zdp, h]; rfl
theorem znx {w w' : World} (h : Below w.heap.size w w') (row : Option Nat) : w.grownBy w' row := ⟨h.os, h.tape, h.output, h.size, fun k hk _ => h.block k hk⟩
theorem zga (A : Option Addr) (n c : Nat) (xs : List zad) (w : World) (hx : tM.R w w.heap.size [.slice A n c] xs) (hn : hM.sz xs ≤ 100000000) :
 Calls Tryz.prog 54 #[.agg #[.slice A n c]] w fun e w' => e = .returned (.bool (zas xs)) ∧ Below w.heap.size w w' := by
 have rx := sl_R.1 hx
 have hlx := rx.cap.1
 have hm1 : xs.length + hSt.szL xs ≤ 100000000 := hn
 have hnb : n ≤ 100000000 := by omega
 have HLX := Lib.hid hlx
 have HM1 := Lib.hid hm1
 clear hlx hx hn hm1
 have hmm := @run_makeMap Tryz.prog
 go_enter Tryz.func54, Tryz.ntmps54
 go_wp2_with (go_at_call 55; refine (zd5 _ _ _ _).mono ?_; rintro e w' ⟨rfl, rfl⟩)
 go_loopw [5, 6, 14] (fun _ _ i wr => ∃ (k : Nat) (D : DataW Unit), i = .int .i64 k ∧ k ≤ n ∧ Hid (∀ j, j < k → zdp xs j = true) ∧ Hid (zg4 D ((xs.take k).map (·.1))) ∧ wr.ownsMap Tryz.prog 9 (plainElem Tryz.prog 4) (w.heap.size + 1) k D ∧ w.heap.size + 1 + 1 ≤ wr.heap.size ∧ Below w.heap.size w wr) (fun _ _ i _ => n - (intOf i).toNat)
 case atStart => exact ⟨0, .map [], rfl, by omega, Lib.hid (by omega), Lib.hid (by simpa using znu), by have := World.ownsMap_made (w.alloc (.cells #[.slice A n c] 30)) Tryz.prog 9 (plainElem (H := Unit) Tryz.prog 4); simpa using this, by simp, ((Below.refl _ _).alloc (Nat.le_refl _) _).alloc (by simp) _⟩
 case round =>
  obtain ⟨k, D, rfl, hk, H, HD, hown, hsz, Bw⟩ := hrel
  clear hmm
  by_cases hlt : k < n
  · have hX := Lib.hid (List.getElem?_eq_getElem (l := xs) (i := k) (by rw [HLX.out]; exact hlt))
    obtain ⟨b, o1, cc, cs, hv, hab, -, hE, hcc⟩ := (rx.below Bw).atX hX.out
    simp only [Value.slice.injEq] at hv
    obtain ⟨rfl, -, rfl⟩ := hv
    have hU := hSt.szL_at hX.out
    generalize xs[k]'(by rw [HLX.out]; exact hlt) = x at hX hE hU
    obtain ⟨s, l, us⟩ := x
    rw [zh9] at hU
    obtain ⟨A1, n1, c1, rfl, hs, hE⟩ := st_R.1 hE
    have n1b : n1 ≤ 1000000000 := by have := (zfk hE).1.1; have := HM1.out; omega
    have e0 : wr.cell? ⟨b, o1 + k * 3, none⟩ = some (.string s) := hcc 0 _ rfl
    have e1 : wr.cell? ⟨b, o1 + k * 3 + 1, none⟩ = some (.int .i64 l) := hcc 1 _ rfl
    have e2 : wr.cell? ⟨b, o1 + k * 3 + 2, none⟩ = some (.slice A1 n1 c1) := hcc 2 _ rfl
    have hbr : b < wr.heap.size := Nat.lt_of_lt_of_le hab Bw.size
    have hE2 := tSdS.later (tSdS.more Bw.size hE) ((Below.refl wr.heap.size wr).alloc (Nat.le_refl _) (.cells #[.string s, .int .i64 l, .slice A1 n1 c1] 100))
    have hra := (zfk hE2).1
    have hS := Lib.hid (zf9 hX.out)
    have HNO := Lib.hid (fun h => zj1 (xs := xs) (k := k) (by rw [HLX.out]; exact hlt) h)
    have hownU := hown.alloc (.cells #[.string s, .int .i64 l, .slice A1 n1 c1] 100)
    have hkey : keyOf Tryz.prog 9 (.string s) = some (.string s.data.toList) := Go.WideMaps.keyOf_string_mk Tryz.underlying9 hs
    obtain ⟨q, hrun, hat⟩ := zns hownU zj0 Tryz.underlying125 Tryz.underlying4 (znw _) hkey
    have hq : q = zdg s ((xs.take k).map (·.1)) := by
     rw [HD.out.2 s] at hat
     injection hat with hat
     injection hat with hat
     exact hat.symm
    have HQ := Lib.hid hq
    have Bu := Bw.alloc Bw.size (.cells #[.string s, .int .i64 l, .slice A1 n1 c1] 100)
    clear hcc hU hE hE2 hat hq
    cases hN : zc0 s
    · have R := Lib.hid (show zas xs = false from HNO.out (by rw [hS.out, zbi, hN]; rfl))
      go_wp2_with (first | (go_at_call 86; refine (zf7 _ _ hs).mono ?_; rw [hN]; rintro e w' ⟨rfl, rfl⟩))
      go_ret
      exact ⟨zab (by rw [R.out]), Bu⟩
    by_cases hq1 : q = true
    · subst hq1
      have R := Lib.hid (show zas xs = false from HNO.out (by rw [hS.out, ← HQ.out, Bool.not_true, Bool.and_false]))
      go_wp2_with (first | (go_at_call 86; refine (zf7 _ _ hs).mono ?_; rw [hN]; rintro e w' ⟨rfl, rfl⟩))
      go_ret
      exact ⟨zab (by rw [R.out]), Bu⟩
    have hq0 : q = false := by simpa using hq1
    subst hq0
    clear hq1
    cases hL : M.inn l 0 32
    · have R := Lib.hid (show zas xs = false from HNO.out (by rw [hS.out, zbi, hN, hL]; rfl))
      go_wp2_with (first | (go_at_call 86; refine (zf7 _ _ hs).mono ?_; rw [hN]; rintro e w' ⟨rfl, rfl⟩) | (go_at_call 56; refine (zao _ _ _ _).mono ?_; rintro e w' ⟨rfl, rfl⟩))
      go_ret
      exact ⟨zab (by rw [R.out]), Bu⟩
    have hAS := znq A1 n1 c1 us k n _ hra n1b ⟨by omega, by omega⟩ ⟨by omega, by omega⟩
    cases hA : zbp us k n
    · have R := Lib.hid (show zas xs = false from HNO.out (by rw [hS.out, zbi, hN, hL, HLX.out, hA]; rfl))
      go_wp2_with (first | (go_at_call 86; refine (zf7 _ _ hs).mono ?_; rw [hN]; rintro e w' ⟨rfl, rfl⟩) | (go_at_call 56; refine (zao _ _ _ _).mono ?_; rintro e w' ⟨rfl, rfl⟩) | (go_at_call 87; refine hAS.mono ?_; rw [hA]; clear hAS; rintro e w2 ⟨rfl, bel2⟩))
      go_ret
      exact ⟨zab (by rw [R.out]), zji Bu (by simp; omega) bel2⟩
    · have HST := Lib.hid (show zdp xs k = true by rw [hS.out, zbi, hN, hL, HLX.out, hA, ← HQ.out]; rfl)
      have HT := Lib.hid (show (xs.take (k + 1)).map (·.1) = (xs.take k).map (·.1) ++ [s] by rw [M.take_at hX.out, List.map_append]; rfl)
      go_wp2_with (first | (go_at_call 86; refine (zf7 _ _ hs).mono ?_; rw [hN]; rintro e w' ⟨rfl, rfl⟩) | (go_at_call 56; refine (zao _ _ _ _).mono ?_; rintro e w' ⟨rfl, rfl⟩) | (go_at_call 87; refine hAS.mono ?_; rw [hA]; clear hAS; rintro e w2 ⟨rfl, bel2⟩; have hown2 := hownU.kept (znx bel2 none) (by simp); have z2 : wr.heap.size + 1 ≤ w2.heap.size := (by have := bel2.size; simpa using this); have g0 : w2.cell? ⟨wr.heap.size, 0, none⟩ = some (.string s) := (by rw [bel2.cell (by simp), cell_of_row _ wr.heap.size 0 _ 100 (0, 0) (heap_alloc_new wr _)]; rfl)) | (at_mapUpdate; refine wpList_mapUpdate_own _ rfl _ _ _ 125 rfl 9 4 zj0 Tryz.underlying125 _ (w.heap.size + 1) k _ rfl hown2 (by unfold maxLen; omega) _ _ _ rfl rfl hkey _ [] (plainElem_bool Tryz.underlying4 true) ?_; intro w3 hown3 hgrow3))
      go_roundw
      case rel => exact ⟨k + 1, _, by go_num, by omega, Lib.hid (fun j hj => by
       rcases Nat.lt_or_ge j k with h1 | h1
       · exact H.out j h1
       · obtain rfl : j = k := by omega
         exact HST.out), Lib.hid (by rw [HT.out]; exact znv HD.out s), hown3, by have := hgrow3.size; omega, (zji Bu (by simp; omega) bel2).grown hgrow3 (by omega) (fun j hj => by injection hj with hj; omega)⟩
      case measure => simp [intOf]; omega
  · have R := Lib.hid (show zas xs = M.inn n 1 8 by rw [zj2 (fun j hj => H.out j (by rw [HLX.out] at hj; omega)), HLX.out])
    go_wp2_with (go_at_call 56; refine (zao _ _ _ _).mono ?_; rintro e w' ⟨rfl, rfl⟩)
    go_ret
    exact ⟨zab (by rw [R.out]), Bw⟩
end
section
open Go.RowKit
def hU : Hs Int := ⟨fun _ => 0, fun _ x => x, fun _ => 0⟩
theorem zbw {α : Type} {t : Ty α} {e : TypeId} {w : World} {B : Nat} {cs : List Value} {x : List α} (h : (t.sl e).R w B cs x) : ∃ A n c, cs = [.slice A n c] := by
 obtain ⟨v, rfl, hr⟩ := h
 obtain ⟨A, c, rfl⟩ := hr.shape
 exact ⟨_, _, _, rfl⟩
abbrev zah := Int × Int × Int × Int × Int
end
section
open Go.RowKit
abbrev Node := Int × Int × Int × (List Int)
abbrev tN : Ty Node := tI.prod (tI.prod (tI.prod tS))
abbrev hN : Hs Node := hI.prod (hI.prod (hI.prod hS))
theorem tN_R {w : World} {B : Nat} {cs : List Value} {a0 : Int} {a1 : Int} {a2 : Int} {x3 : List Int} : tN.R w B cs (a0, a1, a2, x3) ↔ ∃ A3 n3 c3, cs = [.int .i64 a0, .int .i64 a1, .int .i64 a2, .slice A3 n3 c3] ∧ tS.R w B [.slice A3 n3 c3] x3 := by
 constructor
 · rintro ⟨u0, d0, rfl, g0, ⟨u1, d1, rfl, g1, ⟨u2, d2, rfl, g2, g3⟩⟩⟩
   obtain rfl : u0 = [.int .i64 a0] := g0
   obtain rfl : u1 = [.int .i64 a1] := g1
   obtain rfl : u2 = [.int .i64 a2] := g2
   obtain ⟨A3, n3, c3, rfl⟩ := zbw g3
   exact ⟨A3, n3, c3, rfl, g3⟩
 · rintro ⟨A3, n3, c3, rfl, g3⟩
   exact ⟨[.int .i64 a0], _, rfl, rfl, ⟨[.int .i64 a1], _, rfl, rfl, ⟨[.int .i64 a2], _, rfl, rfl, g3⟩⟩⟩
theorem tN_O {w : World} {F : Nat → Prop} {cs : List Value} {a0 : Int} {a1 : Int} {a2 : Int} {x3 : List Int} : tN.O w F cs (a0, a1, a2, x3) ↔ ∃ A3 n3 c3, ∃ F3 : Nat → Prop, cs = [.int .i64 a0, .int .i64 a1, .int .i64 a2, .slice A3 n3 c3] ∧ tS.O w F3 [.slice A3 n3 c3] x3 ∧ (∀ b, F3 b → F b) := by
 constructor
 · rintro ⟨u0, d0, F0, G0, rfl, g0, ⟨u1, d1, F1, G1, rfl, g1, ⟨u2, d2, F2, G2, rfl, g2, g3, p2, q2, r2⟩, p1, q1, r1⟩, p0, q0, r0⟩
   obtain rfl : u0 = [.int .i64 a0] := g0
   obtain rfl : u1 = [.int .i64 a1] := g1
   obtain rfl : u2 = [.int .i64 a2] := g2
   obtain ⟨A3, n3, c3, rfl⟩ := zbw (tS.read g3)
   exact ⟨A3, n3, c3, G2, rfl, g3, fun b h => q0 _ (q1 _ (q2 _ (h)))⟩
 · rintro ⟨A3, n3, c3, F3, rfl, g3, p3⟩
   exact ⟨[.int .i64 a0], _, (fun _ => False), F3, rfl, rfl, ⟨[.int .i64 a1], _, (fun _ => False), F3, rfl, rfl, ⟨[.int .i64 a2], _, (fun _ => False), F3, rfl, rfl, g3, fun _ h => h.elim, fun b h => by first | exact h | exact Or.inr h | (rcases h with h <;> simp only [*, true_or, or_true]), fun _ h => h.elim⟩, fun _ h => h.elim, fun b h => by first | exact h | exact Or.inr h | (rcases h with h <;> simp only [*, true_or, or_true]), fun _ h => h.elim⟩, fun _ h => h.elim, p3, fun _ h => h.elim⟩
theorem zj3 (a0 : Int) (a1 : Int) (a2 : Int) (x3 : List Int) : hN.sz (a0, a1, a2, x3) = hS.sz x3 := by
 show 0 + (0 + (0 + (hS.sz x3))) = _
 omega
end
section
open Go.RowKit
abbrev tNS : Ty (List Node) := tN.sl 122
abbrev hNS : Hs (List Node) := hN.sl
theorem zgb : EI Tryz.prog 34 122 (.agg #[.int .i64 0, .int .i64 0, .int .i64 0, .slice none 0 0]) 4 48 := ⟨Tryz.underlying34, by kernel_rfl, rfl, by decide⟩
end
section
open Go.RowKit
theorem zid : EI Tryz.prog 24 26 (.slice none 0 0) 1 24 := ⟨Tryz.underlying24, by kernel_rfl, rfl, by decide⟩
end
section
open Go.RowKit
abbrev zaf := Int × (List (List Int)) × (List Node) × (List Int)
abbrev tP : Ty zaf := tI.prod (tSS.prod (tNS.prod tS))
abbrev hP : Hs zaf := hI.prod (hSS.prod (hNS.prod hS))
theorem tP_R {w : World} {B : Nat} {cs : List Value} {a0 : Int} {x1 : List (List Int)} {x2 : List Node} {x3 : List Int} : tP.R w B cs (a0, x1, x2, x3) ↔ ∃ A1 n1 c1 A2 n2 c2 A3 n3 c3, cs = [.int .i64 a0, .slice A1 n1 c1, .slice A2 n2 c2, .slice A3 n3 c3] ∧ tSS.R w B [.slice A1 n1 c1] x1 ∧ tNS.R w B [.slice A2 n2 c2] x2 ∧ tS.R w B [.slice A3 n3 c3] x3 := by
 constructor
 · rintro ⟨u0, d0, rfl, g0, ⟨u1, d1, rfl, g1, ⟨u2, d2, rfl, g2, g3⟩⟩⟩
   obtain rfl : u0 = [.int .i64 a0] := g0
   obtain ⟨A1, n1, c1, rfl⟩ := zbw g1
   obtain ⟨A2, n2, c2, rfl⟩ := zbw g2
   obtain ⟨A3, n3, c3, rfl⟩ := zbw g3
   exact ⟨A1, n1, c1, A2, n2, c2, A3, n3, c3, rfl, g1, g2, g3⟩
 · rintro ⟨A1, n1, c1, A2, n2, c2, A3, n3, c3, rfl, g1, g2, g3⟩
   exact ⟨[.int .i64 a0], _, rfl, rfl, ⟨[.slice A1 n1 c1], _, rfl, g1, ⟨[.slice A2 n2 c2], _, rfl, g2, g3⟩⟩⟩
theorem tP_O {w : World} {F : Nat → Prop} {cs : List Value} {a0 : Int} {x1 : List (List Int)} {x2 : List Node} {x3 : List Int} : tP.O w F cs (a0, x1, x2, x3) ↔ ∃ A1 n1 c1 A2 n2 c2 A3 n3 c3, ∃ F1 F2 F3 : Nat → Prop, cs = [.int .i64 a0, .slice A1 n1 c1, .slice A2 n2 c2, .slice A3 n3 c3] ∧ tSS.O w F1 [.slice A1 n1 c1] x1 ∧ tNS.O w F2 [.slice A2 n2 c2] x2 ∧ tS.O w F3 [.slice A3 n3 c3] x3 ∧ (∀ b, F1 b → F b) ∧ (∀ b, F2 b → F b) ∧ (∀ b, F3 b → F b) ∧ (∀ b, F1 b → ¬ F2 b) ∧ (∀ b, F1 b → ¬ F3 b) ∧ (∀ b, F2 b → ¬ F3 b) := by
 constructor
 · rintro ⟨u0, d0, F0, G0, rfl, g0, ⟨u1, d1, F1, G1, rfl, g1, ⟨u2, d2, F2, G2, rfl, g2, g3, p2, q2, r2⟩, p1, q1, r1⟩, p0, q0, r0⟩
   obtain rfl : u0 = [.int .i64 a0] := g0
   obtain ⟨A1, n1, c1, rfl⟩ := zbw (tSS.read g1)
   obtain ⟨A2, n2, c2, rfl⟩ := zbw (tNS.read g2)
   obtain ⟨A3, n3, c3, rfl⟩ := zbw (tS.read g3)
   exact ⟨A1, n1, c1, A2, n2, c2, A3, n3, c3, F1, F2, G2, rfl, g1, g2, g3, fun b h => q0 _ (p1 _ h), fun b h => q0 _ (q1 _ (p2 _ h)), fun b h => q0 _ (q1 _ (q2 _ (h))), fun b h h2 => r1 b h (p2 _ h2), fun b h h2 => r1 b h (q2 _ (h2)), fun b h h2 => r2 b h (h2)⟩
 · rintro ⟨A1, n1, c1, A2, n2, c2, A3, n3, c3, F1, F2, F3, rfl, g1, g2, g3, p1, p2, p3, r1_2, r1_3, r2_3⟩
   exact ⟨[.int .i64 a0], _, (fun _ => False), (fun b => F1 b ∨ F2 b ∨ F3 b), rfl, rfl, ⟨[.slice A1 n1 c1], _, F1, (fun b => F2 b ∨ F3 b), rfl, g1, ⟨[.slice A2 n2 c2], _, F2, F3, rfl, g2, g3, fun b h => by first | exact h | (simp only [*, true_or, or_true]), fun b h => by first | exact h | exact Or.inr h | (rcases h with h <;> simp only [*, true_or, or_true]), r2_3⟩, fun b h => by first | exact h | (simp only [*, true_or, or_true]), fun b h => by first | exact h | exact Or.inr h | (rcases h with h | h <;> simp only [*, true_or, or_true]), fun b h h2 => by rcases h2 with h2 | h2 <;> first | exact r1_2 b h h2 | exact r1_3 b h h2⟩, fun _ h => h.elim, fun b h => by rcases h with h | h | h <;> first | exact p1 b h | exact p2 b h | exact p3 b h, fun _ h => h.elim⟩
theorem zef (a0 : Int) (x1 : List (List Int)) (x2 : List Node) (x3 : List Int) : hP.sz (a0, x1, x2, x3) = hSS.sz x1 + hNS.sz x2 + hS.sz x3 := by
 show 0 + (hSS.sz x1 + (hNS.sz x2 + (hS.sz x3))) = _
 omega
end
section
open Go.RowKit
abbrev tPS : Ty (List zaf) := tP.sl 36
abbrev hPS : Hs (List zaf) := hP.sl
theorem zie : EI Tryz.prog 27 36 (.agg #[.int .i64 0, .slice none 0 0, .slice none 0 0, .slice none 0 0]) 4 80 := ⟨Tryz.underlying27, by kernel_rfl, rfl, by decide⟩
end
section
open Go.RowKit
abbrev tTS : Ty (List (List zah)) := tT.sl 42
abbrev hTS : Hs (List (List zah)) := hT.sl
theorem zj4 : EI Tryz.prog 25 42 (.agg #[.slice none 0 0]) 1 24 := ⟨Tryz.underlying25, by kernel_rfl, rfl, by decide⟩
end
section
open Go.RowKit
abbrev Sess := Int × (List (List Int)) × (List (List zah)) × (List Int) × (List zaf) × (List zad)
abbrev tZ : Ty Sess := tI.prod (tSS.prod (tTS.prod (tS.prod (tPS.prod tM))))
abbrev hZ : Hs Sess := hU.prod (hSS.prod (hTS.prod (hS.prod (hPS.prod hM))))
theorem tZ_R {w : World} {B : Nat} {cs : List Value} {a0 : Int} {x1 : List (List Int)} {x2 : List (List zah)} {x3 : List Int} {x4 : List zaf} {x5 : List zad} : tZ.R w B cs (a0, x1, x2, x3, x4, x5) ↔ ∃ A1 n1 c1 A2 n2 c2 A3 n3 c3 A4 n4 c4 A5 n5 c5, cs = [.int .i64 a0, .slice A1 n1 c1, .slice A2 n2 c2, .slice A3 n3 c3, .slice A4 n4 c4, .slice A5 n5 c5] ∧ tSS.R w B [.slice A1 n1 c1] x1 ∧ tTS.R w B [.slice A2 n2 c2] x2 ∧ tS.R w B [.slice A3 n3 c3] x3 ∧ tPS.R w B [.slice A4 n4 c4] x4 ∧ tM.R w B [.slice A5 n5 c5] x5 := by
 constructor
 · rintro ⟨u0, d0, rfl, g0, ⟨u1, d1, rfl, g1, ⟨u2, d2, rfl, g2, ⟨u3, d3, rfl, g3, ⟨u4, d4, rfl, g4, g5⟩⟩⟩⟩⟩
   obtain rfl : u0 = [.int .i64 a0] := g0
   obtain ⟨A1, n1, c1, rfl⟩ := zbw g1
   obtain ⟨A2, n2, c2, rfl⟩ := zbw g2
   obtain ⟨A3, n3, c3, rfl⟩ := zbw g3
   obtain ⟨A4, n4, c4, rfl⟩ := zbw g4
   obtain ⟨A5, n5, c5, rfl⟩ := zbw g5
   exact ⟨A1, n1, c1, A2, n2, c2, A3, n3, c3, A4, n4, c4, A5, n5, c5, rfl, g1, g2, g3, g4, g5⟩
 · rintro ⟨A1, n1, c1, A2, n2, c2, A3, n3, c3, A4, n4, c4, A5, n5, c5, rfl, g1, g2, g3, g4, g5⟩
   exact ⟨[.int .i64 a0], _, rfl, rfl, ⟨[.slice A1 n1 c1], _, rfl, g1, ⟨[.slice A2 n2 c2], _, rfl, g2, ⟨[.slice A3 n3 c3], _, rfl, g3, ⟨[.slice A4 n4 c4], _, rfl, g4, g5⟩⟩⟩⟩⟩
theorem tZ_O {w : World} {F : Nat → Prop} {cs : List Value} {a0 : Int} {x1 : List (List Int)} {x2 : List (List zah)} {x3 : List Int} {x4 : List zaf} {x5 : List zad} : tZ.O w F cs (a0, x1, x2, x3, x4, x5) ↔ ∃ A1 n1 c1 A2 n2 c2 A3 n3 c3 A4 n4 c4 A5 n5 c5, ∃ F1 F2 F3 F4 F5 : Nat → Prop, cs = [.int .i64 a0, .slice A1 n1 c1, .slice A2 n2 c2, .slice A3 n3 c3, .slice A4 n4 c4, .slice A5 n5 c5] ∧ tSS.O w F1 [.slice A1 n1 c1] x1 ∧ tTS.O w F2 [.slice A2 n2 c2] x2 ∧ tS.O w F3 [.slice A3 n3 c3] x3 ∧ tPS.O w F4 [.slice A4 n4 c4] x4 ∧ tM.O w F5 [.slice A5 n5 c5] x5 ∧ (∀ b, F1 b → F b) ∧ (∀ b, F2 b → F b) ∧ (∀ b, F3 b → F b) ∧ (∀ b, F4 b → F b) ∧ (∀ b, F5 b → F b) ∧ (∀ b, F1 b → ¬ F2 b) ∧ (∀ b, F1 b → ¬ F3 b) ∧ (∀ b, F1 b → ¬ F4 b) ∧ (∀ b, F1 b → ¬ F5 b) ∧ (∀ b, F2 b → ¬ F3 b) ∧ (∀ b, F2 b → ¬ F4 b) ∧ (∀ b, F2 b → ¬ F5 b) ∧ (∀ b, F3 b → ¬ F4 b) ∧ (∀ b, F3 b → ¬ F5 b) ∧ (∀ b, F4 b → ¬ F5 b) := by
 constructor
 · rintro ⟨u0, d0, F0, G0, rfl, g0, ⟨u1, d1, F1, G1, rfl, g1, ⟨u2, d2, F2, G2, rfl, g2, ⟨u3, d3, F3, G3, rfl, g3, ⟨u4, d4, F4, G4, rfl, g4, g5, p4, q4, r4⟩, p3, q3, r3⟩, p2, q2, r2⟩, p1, q1, r1⟩, p0, q0, r0⟩
   obtain rfl : u0 = [.int .i64 a0] := g0
   obtain ⟨A1, n1, c1, rfl⟩ := zbw (tSS.read g1)
   obtain ⟨A2, n2, c2, rfl⟩ := zbw (tTS.read g2)
   obtain ⟨A3, n3, c3, rfl⟩ := zbw (tS.read g3)
   obtain ⟨A4, n4, c4, rfl⟩ := zbw (tPS.read g4)
   obtain ⟨A5, n5, c5, rfl⟩ := zbw (tM.read g5)
   exact ⟨A1, n1, c1, A2, n2, c2, A3, n3, c3, A4, n4, c4, A5, n5, c5, F1, F2, F3, F4, G4, rfl, g1, g2, g3, g4, g5, fun b h => q0 _ (p1 _ h), fun b h => q0 _ (q1 _ (p2 _ h)), fun b h => q0 _ (q1 _ (q2 _ (p3 _ h))), fun b h => q0 _ (q1 _ (q2 _ (q3 _ (p4 _ h)))), fun b h => q0 _ (q1 _ (q2 _ (q3 _ (q4 _ (h))))), fun b h h2 => r1 b h (p2 _ h2), fun b h h2 => r1 b h (q2 _ (p3 _ h2)), fun b h h2 => r1 b h (q2 _ (q3 _ (p4 _ h2))), fun b h h2 => r1 b h (q2 _ (q3 _ (q4 _ (h2)))), fun b h h2 => r2 b h (p3 _ h2), fun b h h2 => r2 b h (q3 _ (p4 _ h2)), fun b h h2 => r2 b h (q3 _ (q4 _ (h2))), fun b h h2 => r3 b h (p4 _ h2), fun b h h2 => r3 b h (q4 _ (h2)), fun b h h2 => r4 b h (h2)⟩
 · rintro ⟨A1, n1, c1, A2, n2, c2, A3, n3, c3, A4, n4, c4, A5, n5, c5, F1, F2, F3, F4, F5, rfl, g1, g2, g3, g4, g5, p1, p2, p3, p4, p5, r1_2, r1_3, r1_4, r1_5, r2_3, r2_4, r2_5, r3_4, r3_5, r4_5⟩
   exact ⟨[.int .i64 a0], _, (fun _ => False), (fun b => F1 b ∨ F2 b ∨ F3 b ∨ F4 b ∨ F5 b), rfl, rfl, ⟨[.slice A1 n1 c1], _, F1, (fun b => F2 b ∨ F3 b ∨ F4 b ∨ F5 b), rfl, g1, ⟨[.slice A2 n2 c2], _, F2, (fun b => F3 b ∨ F4 b ∨ F5 b), rfl, g2, ⟨[.slice A3 n3 c3], _, F3, (fun b => F4 b ∨ F5 b), rfl, g3, ⟨[.slice A4 n4 c4], _, F4, F5, rfl, g4, g5, fun b h => by first | exact h | (simp only [*, true_or, or_true]), fun b h => by first | exact h | exact Or.inr h | (rcases h with h <;> simp only [*, true_or, or_true]), r4_5⟩, fun b h => by first | exact h | (simp only [*, true_or, or_true]), fun b h => by first | exact h | exact Or.inr h | (rcases h with h | h <;> simp only [*, true_or, or_true]), fun b h h2 => by rcases h2 with h2 | h2 <;> first | exact r3_4 b h h2 | exact r3_5 b h h2⟩, fun b h => by first | exact h | (simp only [*, true_or, or_true]), fun b h => by first | exact h | exact Or.inr h | (rcases h with h | h | h <;> simp only [*, true_or, or_true]), fun b h h2 => by rcases h2 with h2 | h2 | h2 <;> first | exact r2_3 b h h2 | exact r2_4 b h h2 | exact r2_5 b h h2⟩, fun b h => by first | exact h | (simp only [*, true_or, or_true]), fun b h => by first | exact h | exact Or.inr h | (rcases h with h | h | h | h <;> simp only [*, true_or, or_true]), fun b h h2 => by rcases h2 with h2 | h2 | h2 | h2 <;> first | exact r1_2 b h h2 | exact r1_3 b h h2 | exact r1_4 b h h2 | exact r1_5 b h h2⟩, fun _ h => h.elim, fun b h => by rcases h with h | h | h | h | h <;> first | exact p1 b h | exact p2 b h | exact p3 b h | exact p4 b h | exact p5 b h, fun _ h => h.elim⟩
theorem zeg (a0 : Int) (x1 : List (List Int)) (x2 : List (List zah)) (x3 : List Int) (x4 : List zaf) (x5 : List zad) : hZ.sz (a0, x1, x2, x3, x4, x5) = hSS.sz x1 + hTS.sz x2 + hS.sz x3 + hPS.sz x4 + hM.sz x5 := by
 show 0 + (hSS.sz x1 + (hTS.sz x2 + (hS.sz x3 + (hPS.sz x4 + (hM.sz x5))))) = _
 omega
end
section
open Go.RowKit Go.Sort
set_option synthInstance.maxSize 2000
set_option synthInstance.maxHeartbeats 400000
abbrev KD := Int × Int × Int × Bool × Bool
def zfl : List KD := [(0, 0, 3, true, false), (0, -2147483648, 2147483647, false, false), (2, 1, 0, true, false), (2, 1, 0, true, false), (1, -2147483648, 2147483647, true, false), (1, 1, 16, true, false), (1, 1, 0, true, false), (1, 1, 0, true, false), (2, 1, 0, false, false), (1, 0, 31, false, false), (1, 0, 2147483647, false, false), (1, -2147483648, 2147483647, false, false), (1, 0, 3, false, false), (0, -2147483648, 2147483647, false, false), (3, 1, 0, false, false), (2, 1, 0, false, false), (1, -2147483648, 2147483647, true, true)]
def M.kd (j : Nat) : KD := zfl.getD j (0, 0, 0, false, false)
def M.aI (k : KD) (a : Int) : Bool := if k.2.1 ≤ k.2.2.1 then M.inn a k.2.1 k.2.2.1 else decide (a = 0)
def M.bI (k : KD) (b : Int) : Bool := if k.2.2.2.2 then M.inn b 1 16 else decide (b = 0)
def zav (f : Int) : Bool := M.inn f 0 23
def zak (x : Node) (tb : Int) : Bool :=
 M.inn x.1 1 17 && (M.aI (M.kd (x.1.toNat - 1)) x.2.1 && M.bI (M.kd (x.1.toNat - 1)) x.2.2.1 && x.2.2.2.all zav && decide ((x.2.2.2.length : Int) = (M.kd (x.1.toNat - 1)).1) && (decide (¬ x.1 = 13) || decide (x.2.1 < tb)))
def zd6 (k : Int) : Bool := decide (k = 1) || decide (k = 2) || decide (k = 5) || decide (k = 6) || decide (k = 10) || decide (k = 11) || decide (k = 12) || decide (k = 13) || decide (k = 14) || decide (k = 17)
def M.aS (k a tb : Int) : Bool :=
 if k = 1 then M.inn a 0 3 else if k = 6 then M.inn a 1 16 else if k = 10 then M.inn a 0 31 else if k = 11 then M.inn a 0 2147483647 else if k = 13 then M.inn a 0 (min (max tb 0) 4 - 1) else if zd6 k then M.smp a else decide (a = 0)
def zg5 : List Int := [-1, 0, 0, 2, 2, 1, 1, 1, 1, 2, 1, 1, 1, 1, 0, 3, 2, 1]
def M.ar (k : Nat) : Int := zg5.getD k 0
def zc2 (x : Node) (tb : Int) : Bool :=
 M.inn x.1 1 17 && (M.aS x.1 x.2.1 tb && decide ((x.2.2.2.length : Int) = M.ar x.1.toNat) && x.2.2.2.all zav && (if x.1 = 17 then M.inn x.2.2.1 1 16 else decide (x.2.2.1 = 0)))
def zdb (k : Int) : Bool := M.inn k 1 17 && (M.kd (k.toNat - 1)).2.2.2.1
def zif (k : Int) : Bool := decide (k = 1) || decide (k = 3) || decide (k = 4) || decide (k = 5) || decide (k = 6) || decide (k = 7) || decide (k = 8) || decide (k = 17)
theorem ze5 {k : Int} (h : M.inn k 1 17 = true) : k = 1 ∨ k = 2 ∨ k = 3 ∨ k = 4 ∨ k = 5 ∨ k = 6 ∨ k = 7 ∨ k = 8 ∨ k = 9 ∨ k = 10 ∨ k = 11 ∨ k = 12 ∨ k = 13 ∨ k = 14 ∨ k = 15 ∨ k = 16 ∨ k = 17 := by
 have := za2.1 h
 omega
theorem zny (k : Int) : zif k = zdb k := by
 cases h : M.inn k 1 17
 · have h1 : ¬ (1 ≤ k ∧ k ≤ 17) := fun e => by rw [za2.2 e] at h; cases h
   rw [zdb, h, Bool.false_and, zif]
   simp
   omega
 · rcases ze5 h with rfl | rfl | rfl | rfl | rfl | rfl | rfl | rfl | rfl | rfl | rfl | rfl | rfl | rfl | rfl | rfl | rfl <;> rfl
theorem zj5 (x : Node) (tb : Int) : zc2 x tb = zak x tb := by
 obtain ⟨k, a, b, l⟩ := x
 cases h : M.inn k 1 17
 · rw [zc2, zak, h, Bool.false_and, Bool.false_and]
 · rw [zc2, zak]
   simp only [h, Bool.true_and]
   have key : ∀ A B C D E F : Bool, A = (F && E) → (A && C && B && D) = (F && D && B && C && E) := by decide
   rcases ze5 h with rfl | rfl | rfl | rfl | rfl | rfl | rfl | rfl | rfl | rfl | rfl | rfl | rfl | rfl | rfl | rfl | rfl
   all_goals
    refine key _ _ _ _ _ _ ?_
    rw [Bool.eq_iff_iff]
    simp [M.aS, M.aI, M.kd, zfl, zd6, M.smp, M.inn, List.getD]
    try omega
def zcg (t : List Int) : Bool := (decide (t.length = 2) || decide (t.length = 4) || decide (t.length = 8) || decide (t.length = 16)) && t.all M.smp
def zbj (ts : List (List Int)) : Bool := ts.all zcg && decide (ts.length ≤ 4)
theorem znz (t : List Int) : (decide (t.length = 2) || decide (t.length = 4) || decide (t.length = 8) || decide (t.length = 16)) = true → M.sig t = t.all M.smp := by
 intro h
 rw [M.sig, show decide (t.length ≤ 4000) = true by simp at h ⊢; omega, Bool.true_and]
def zax (n : Int) (f : Int) : Bool := M.inn f 0 (n - 1)
def za7 (tb n inp : Int) (x : Node) : Bool := zak x tb && x.2.2.2.all (zax n) && !(decide (x.1 = 1) && decide (inp ≤ x.2.1))
def zay (p : zaf) : Bool :=
 M.inn p.1 0 4 && zbj p.2.1 && decide (p.2.2.1.length ≤ 24) && decide (p.2.2.2.length ≤ 4) && p.2.2.2.all (zax p.2.2.1.length) && p.2.2.1.all (za7 p.2.1.length p.2.2.1.length p.1)
def za5 (x : Node) : List Int := if x.1 = 6 then [] else x.2.2.2
def zal (xs : List Int) (m : Int) : Bool := xs.any fun x => decide (x = m)
theorem zg6 (x m : Int) (xs : List Int) : zal (x :: xs) m = (decide (x = m) || zal xs m) := rfl
theorem zn0 (m : Int) : zal [] m = false := rfl
theorem zj6 (xs : List Int) (x m : Int) : zal (xs ++ [x]) m = (zal xs m || decide (x = m)) := by
 rw [zal, List.any_append]
 simp [zal]
def zc3 (ns : List Node) (out : List Int) (i : Nat) : Bool := !zal out i && (za5 ((ns[i]?).getD (0, 0, 0, []))).all (zal out)
def zcw (ns : List Node) (out : List Int) : Option Nat := (List.range ns.length).find? (zc3 ns out)
def zap (ns : List Node) : Nat → List Int
 | 0 => []
 | t + 1 => match zcw ns (zap ns t) with
  | none => zap ns t
  | some i => zap ns t ++ [(i : Int)]
def za8 (ns : List Node) : List Int := zap ns ns.length
def zcb (p : zaf) : Bool := zay p && decide ((za8 p.2.2.1).length = p.2.2.1.length)
theorem zj7 {ns : List Node} {out : List Int} {i : Nat} (hi : i < ns.length) (h : zc3 ns out i = true) (hb : ∀ j, j < i → zc3 ns out j = false) : zcw ns out = some i := by
 rw [zcw, List.find?_range_eq_some]
 exact ⟨h, List.mem_range.2 hi, fun j hj => by rw [hb j hj]; rfl⟩
theorem zj8 {ns : List Node} {out : List Int} (hb : ∀ j, j < ns.length → zc3 ns out j = false) : zcw ns out = none := by
 rw [zcw, List.find?_eq_none]
 intro j hj
 rw [hb j (List.mem_range.1 hj)]
 simp
theorem zig {ns : List Node} {t i : Nat} (h : zcw ns (zap ns t) = some i) : zap ns (t + 1) = zap ns t ++ [(i : Int)] := by rw [zap, h]
theorem zn1 {ns : List Node} {t : Nat} (h : zcw ns (zap ns t) = none) (d : Nat) : zap ns (t + d) = zap ns t := by
 induction d with
 | zero => rfl
 | succ d ih => rw [show t + (d + 1) = (t + d) + 1 from rfl, zap, ih, h]
theorem zj9 {ns : List Node} {t : Nat} (ht : t ≤ ns.length) (h : zcw ns (zap ns t) = none) : za8 ns = zap ns t := by
 rw [za8, show ns.length = t + (ns.length - t) by omega, zn1 h]
theorem zih {ns : List Node} {out : List Int} {i : Nat} {x : Node} (h : ns[i]? = some x) : zc3 ns out i = (!zal out i && (za5 x).all (zal out)) := by
 rw [zc3, h]; rfl
def M.p0 : zaf := (0, [], [], [])
def zaw (p : zaf) : Bool := decide (p = M.p0) || (zcb p && decide (p.1 = 1) && decide (p.2.2.2.length = 1))
def za9 (s : Sess) : Bool :=
 M.inn s.1 0 1000 && zc9 s.2.1 && decide (s.2.2.1.length ≤ 6) && zas s.2.2.2.2.2 && decide (s.2.2.2.1.length = s.2.2.1.length) && s.2.2.2.1.all (zax s.2.2.2.2.2.length) && decide (s.2.2.2.2.1.length = s.2.2.2.2.2.length) && s.2.2.1.all (fun t => zau t && zbe t s.2.1.length) && s.2.2.2.2.1.all zaw
end
section
open Go.RowKit
theorem ze6 {w : World} {B : Nat} {A : Option Addr} {n c : Nat} {src : List (List Int)} (hr : RS tS w B (.slice A n c) src) (hb : Hid (∀ x ∈ src, x.length ≤ 1000000000)) {k : Nat} (hk : k < n) :
 ∃ (bb o : Nat) (A1 : Option Addr) (c1 : Nat) (x : List Int), A = some ⟨bb, o, none⟩ ∧ bb < B ∧ Hid (src[k]? = some x) ∧ w.cell? ⟨bb, o + k, none⟩ = some (.slice A1 x.length c1) ∧ RI w B A1 x.length x ∧ x.length ≤ 1000000000000 := by
 obtain rfl : src.length = n := hr.cap.1
 have hX := List.getElem?_eq_getElem hk
 obtain ⟨bb, o, c1, cs, hv, hab, -, hE, hc⟩ := hr.atX hX
 simp only [Value.slice.injEq] at hv
 obtain ⟨rfl, -, rfl⟩ := hv
 obtain ⟨A1, n1, c2, rfl⟩ := znb hE
 have hR := tS_R.1 hE
 have hcap := hR.cap
 obtain rfl : (src[k]).length = n1 := hcap.1
 have h0 : w.cell? ⟨bb, o + k * 1, none⟩ = some (.slice A1 (src[k]).length c2) := hc 0 _ rfl
 rw [Nat.mul_one] at h0
 exact ⟨bb, o, A1, c2, src[k], rfl, hab, Lib.hid hX, h0, hR.ri, by have := hb.out _ (List.getElem_mem hk); omega⟩
theorem zn2 (A : Option Addr) (n c : Nat) (src : List (List Int)) (w : World) (hx : RS tS w w.heap.size (.slice A n c) src) (hb : Hid (∀ x ∈ src, x.length ≤ 1000000000)) (hn : n ≤ 1000000000) :
 Calls Tryz.prog 97 #[.slice A n c] w fun e w' => e = .returned (.bool (src.all M.sig)) ∧ w = w' := by
 have hl := Lib.hid hx.cap.1
 go_enter Tryz.func97, Tryz.ntmps97
 go_wp2
 go_loop [4, 7] (fun _ i => ∃ k : Nat, i = .int .i64 k ∧ k ≤ n ∧ Hid (src.all M.sig = (src.drop k).all M.sig)) (fun _ i => n - (intOf i).toNat)
 case atStart => exact ⟨0, rfl, by omega, Lib.hid (by simp)⟩
 case round =>
  obtain ⟨k, rfl, hk, H⟩ := hrel
  by_cases hlt : k < n
  · obtain ⟨bb, o, A1, c1, x, rfl, hbb, X, hc, hri, hxl⟩ := ze6 hx hb hlt
    have hd := Lib.hid (M.drop_at X.out)
    cases hs : M.sig x
    · have HS := Lib.hid hs
      clear hs
      go_wp2_with fail
      refine (zgx _ _ _ _ _ hri hxl).mono ?_
      rw [HS.out]
      rintro e w' ⟨rfl, rfl⟩
      go_wp2
      go_ret
      exact ⟨by rw [H.out, hd.out, List.all_cons, HS.out]; rfl, rfl⟩
    · have HS := Lib.hid hs
      clear hs
      go_wp2_with fail
      refine (zgx _ _ _ _ _ hri hxl).mono ?_
      rw [HS.out]
      rintro e w' ⟨rfl, rfl⟩
      go_wp2
      go_round
      case rel => exact ⟨k + 1, by go_num, by omega, Lib.hid (by rw [H.out, hd.out, List.all_cons, HS.out, Bool.true_and])⟩
      case measure => simp [intOf]; omega
  · have h9 := Lib.hid (show src.all M.sig = true by rw [H.out, List.drop_eq_nil_of_le (by rw [hl.out]; omega)]; rfl)
    go_wp2
    go_ret
    exact ⟨zab h9.out.symm, rfl⟩
theorem ze7 (A : Option Addr) (n c : Nat) (src : List (List Int)) (w : World) (hx : RS tS w w.heap.size (.slice A n c) src) (hb : Hid (∀ x ∈ src, x.length ≤ 1000000000)) (hn : n ≤ 1000000000) :
 Calls Tryz.prog 66 #[.slice A n c] w fun e w' => e = .returned (.bool (zc9 src)) ∧ w = w' := by
 have hl := Lib.hid hx.cap.1
 by_cases h : n ≤ 6
 · go_enter Tryz.func66, Tryz.ntmps66
   go_wp2_with fail
   refine (zn2 _ _ _ _ _ hx hb hn).mono ?_
   rintro e w' ⟨rfl, rfl⟩
   go_wp2
   go_ret
   exact ⟨zab (by simp [zc9, hl.out, h]), rfl⟩
 · go_enter Tryz.func66, Tryz.ntmps66
   go_wp2
   go_ret
   exact ⟨zab (by simp [zc9, hl.out, h]), rfl⟩
theorem zka (A : Option Addr) (n c : Nat) (w : World) : Calls Tryz.prog 70 #[.slice A n c] w fun e w' => e = .returned (.int .i64 n) ∧ w = w' := by
 go_enter Tryz.func70, Tryz.ntmps70
 go_wp2
 go_ret
 exact ⟨rfl, rfl⟩
theorem zn3 (b : Nat) (m d0 d1 d2 d3 d4 : Int) (w : World) (g0 : w.cell? ⟨b, 0, none⟩ = some (.int .i64 m)) :
 Calls Tryz.prog 100 #[.agg #[.int .i64 d0, .int .i64 d1, .int .i64 d2, .int .i64 d3, .int .i64 d4], .pointer (some ⟨b, 0, none⟩)] w fun e w' => e = .returned (.bool (decide (m ≤ d0))) ∧ Below w.heap.size w w' := by
 have hb : b < w.heap.size := World.block_lt_of_cell? w _ g0
 have fin : Below w.heap.size w (w.alloc (.cells #[.int .i64 d0, .int .i64 d1, .int .i64 d2, .int .i64 d3, .int .i64 d4] 64)) := (Below.refl _ _).alloc (Nat.le_refl _) _
 go_enter Tryz.func100, Tryz.ntmps100
 go_wp2
 go_ret
 exact ⟨rfl, fin⟩
theorem zn4 (bb : Nat) (m : Int) (A : Option Addr) (n cap : Nat) (xs : List Clip) (w : World) (hx : RA cl 5 w w.heap.size A n xs) (hn : n ≤ 1000000000) (hg : w.cell? ⟨bb, 0, none⟩ = some (.int .i64 m)) :
 Calls Tryz.prog 117 #[.slice A n cap, .func (.func 100) #[] #[.pointer (some ⟨bb, 0, none⟩)]] w fun e w' => e = .returned (.int .i64 (zf4 (xs.findIdx? fun c => decide (m ≤ c.1)))) ∧ Below w.heap.size w w' := by
 have hl := Lib.hid hx.len
 have hbb : bb < w.heap.size := World.block_lt_of_cell? w _ hg
 go_enter Tryz.func117, Tryz.ntmps117
 go_wp2
 go_loopw [5, 8] (fun _ i wr => ∃ k : Nat, i = .int .i64 k ∧ k ≤ n ∧ Hid (∀ j, j < k → ∀ y : Clip, xs[j]? = some y → decide (m ≤ y.1) = false) ∧ Below w.heap.size w wr) (fun _ i _ => n - (intOf i).toNat)
 case atStart => exact ⟨0, rfl, by omega, Lib.hid (by omega), Below.refl _ _⟩
 case round =>
  obtain ⟨k, rfl, hk, H, hb⟩ := hrel
  by_cases hlt : k < n
  · obtain ⟨b, o, ⟨p0, p1, p2, p3, p4⟩, rfl, hab, X, hc⟩ := (hx.below hb).at zc8 (by decide) hlt
    have hc0 : wr.cell? ⟨b, o + k * 5, none⟩ = some (.int .i64 p0) := hc 0 _ rfl
    have hc1 : wr.cell? ⟨b, o + k * 5 + 1, none⟩ = some (.int .i64 p1) := hc 1 _ rfl
    have hc2 : wr.cell? ⟨b, o + k * 5 + 2, none⟩ = some (.int .i64 p2) := hc 2 _ rfl
    have hc3 : wr.cell? ⟨b, o + k * 5 + 3, none⟩ = some (.int .i64 p3) := hc 3 _ rfl
    have hc4 : wr.cell? ⟨b, o + k * 5 + 4, none⟩ = some (.int .i64 p4) := hc 4 _ rfl
    clear hc
    have hgr : wr.cell? ⟨bb, 0, none⟩ = some (.int .i64 m) := by rw [hb.cell (by simpa using hbb)]; exact hg
    have cP := Lib.hid (zn3 bb m p0 p1 p2 p3 p4 wr hgr)
    cases hj : decide (m ≤ p0)
    · have hj' := Lib.hid hj
      clear hj
      go_wp2_with (go_at_call 100; refine (cP.out).mono ?_; rw [hj'.out]; rintro e w2 ⟨rfl, bel2⟩)
      go_roundw
      case rel => exact ⟨k + 1, by go_num, by omega, Lib.hid (fun j hj y hy => by rcases Nat.lt_succ_iff_lt_or_eq.1 hj with h | h; exact H.out j h y hy; subst h; rw [X.out] at hy; injection hy with hy; rw [← hy]; exact hj'.out), hb.trans (bel2.mono hb.size)⟩
      case measure => simp [intOf]; omega
    · have hf := Lib.hid (zjq (p := fun c : Clip => decide (m ≤ c.1)) X.out hj H.out)
      have hj' := Lib.hid hj
      clear hj
      go_wp2_with (go_at_call 100; refine (cP.out).mono ?_; rw [hj'.out]; rintro e w2 ⟨rfl, bel2⟩)
      go_ret
      exact ⟨by rw [hf.out]; rfl, hb.trans (bel2.mono hb.size)⟩
  · have hf := Lib.hid (zjr (xs := xs) (p := fun c : Clip => decide (m ≤ c.1)) (fun j hj y hy => H.out j (by rw [hl.out] at hj; omega) y hy))
    go_wp2
    go_ret
    exact ⟨by rw [hf.out]; rfl, hb⟩
theorem zn5 (xs : List Clip) (m : Int) : (zf4 (xs.findIdx? fun c => decide (m ≤ c.1)) ≥ 0 ↔ zbe xs m = false) := by
 unfold zbe
 cases h : xs.findIdx? fun c => decide (m ≤ c.1) with
 | none =>
  rw [List.findIdx?_eq_none_iff] at h
  simp only [zf4]
  constructor
  · intro h2; omega
  · intro h2
    rw [List.all_eq_false] at h2
    obtain ⟨x, hx, h3⟩ := h2
    have := h x hx
    simp at this h3
    omega
 | some i =>
  rw [List.findIdx?_eq_some_iff_getElem] at h
  obtain ⟨hi, h2, _⟩ := h
  simp only [zf4]
  constructor
  · intro _
    rw [List.all_eq_false]
    exact ⟨_, List.getElem_mem hi, by simp at h2 ⊢; omega⟩
  · intro _; omega
theorem zn6 (bb : Nat) (m : Int) (A : Option Addr) (n cap : Nat) (xs : List Clip) (w : World) (hx : RA cl 5 w w.heap.size A n xs) (hn : n ≤ 1000000000) (hg : w.cell? ⟨bb, 0, none⟩ = some (.int .i64 m)) :
 Calls Tryz.prog 99 #[.slice A n cap, .func (.func 100) #[] #[.pointer (some ⟨bb, 0, none⟩)]] w fun e w' => e = .returned (.bool (!zbe xs m)) ∧ Below w.heap.size w w' := by
 have hF := Lib.hid (zn5 xs m)
 have hI := Lib.hid (zn4 bb m A n cap xs w hx hn hg)
 generalize zf4 (xs.findIdx? fun c => decide (m ≤ c.1)) = q at hF hI
 by_cases h : 0 ≤ q
 · have R := Lib.hid (hF.out.1 h)
   go_enter Tryz.func99, Tryz.ntmps99
   go_wp2_with fail
   refine hI.out.mono ?_
   rintro e w2 ⟨rfl, bel2⟩
   go_wp2
   go_ret
   exact ⟨zab (by rw [R.out]; simp), bel2⟩
 · have R := Lib.hid (show zbe xs m = true by
    cases h2 : zbe xs m
    · exact absurd (hF.out.2 h2) h
    · rfl)
   go_enter Tryz.func99, Tryz.ntmps99
   go_wp2_with fail
   refine hI.out.mono ?_
   rintro e w2 ⟨rfl, bel2⟩
   go_wp2
   go_ret
   exact ⟨zab (by rw [R.out]; simpa using h), bel2⟩
theorem zn7 (A : Option Addr) (n c : Nat) (xs : List Clip) (m : Int) (w : World) (hx : RA cl 5 w w.heap.size A n xs) (hn : n ≤ 1000000000) :
 Calls Tryz.prog 69 #[.agg #[.slice A n c], .int .i64 m] w fun e w' => e = .returned (.bool (zbe xs m)) ∧ Below w.heap.size w w' := by
 obtain ⟨W, hW⟩ : ∃ W, W = (w.alloc (.cells #[.slice A n c] 42)).alloc (.cells #[.int .i64 m] 2) := ⟨_, rfl⟩
 have B0 : Below w.heap.size w W := by rw [hW]; exact ((Below.refl _ _).alloc (Nat.le_refl _) _).alloc (by simp) _
 have g0 : W.cell? ⟨w.heap.size + 1, 0, none⟩ = some (.int .i64 m) := by rw [hW]; simp [go_sem]
 have HW := Lib.hid hW
 clear hW
 have hx1 := hx.later B0
 go_enter Tryz.func69, Tryz.ntmps69
 go_wp2_with fail
 rw [← HW.out]
 refine (zn6 (w.heap.size + 1) m _ _ _ _ _ hx1 hn g0).mono ?_
 rintro e w2 ⟨rfl, bel2⟩
 go_wp2
 go_ret
 exact ⟨zab (by simp), zaa B0 bel2⟩
end
end Go.Proofs.YtfkcoiefkjmdeaaGreat
