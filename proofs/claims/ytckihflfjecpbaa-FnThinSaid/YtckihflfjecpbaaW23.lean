import Derived.Test.YtckihflfjecpbaaW22
namespace Go.Proofs.Ytckihflfjecpbaa
open Go.RowKit
set_option maxHeartbeats 400000
set_option maxRecDepth 100000
def M.ptOk (p : Int × Int) : Bool := M.inn p.1 0 4000 && M.inn p.2 (-65536) 65536
/-- The point before the k-th lies before it. -/
def M.after (xs : List (Int × Int)) (k : Nat) : Bool := k == 0 || decide (((xs[k - 1]?).getD (0, 0)).1 < ((xs[k]?).getD (0, 0)).1)
def M.stepOk (xs : List (Int × Int)) (k : Nat) : Bool := M.ptOk ((xs[k]?).getD (0, 0)) && M.after xs k
def M.curveOk (xs : List (Int × Int)) : Bool := (List.range xs.length).all (M.stepOk xs) && M.inn (xs.length : Int) 1 24
theorem impl_isCount (n : Int) (w : World) : Calls Try.prog 85 #[.int .i64 n] w fun e w' => e = .returned (.bool (M.inn n 0 4000)) ∧ w = w' := by
  go_enter Try.func85, Try.ntmps85
  go_wp2_with (go_at_call 81; refine (impl_within _ _ _ _).mono ?_; rintro e w' ⟨rfl, rfl⟩)
  go_ret
  exact ⟨rfl, rfl⟩
theorem impl_isPoint (a b : Int) (w : World) : Calls Try.prog 75 #[.agg #[.int .i64 a, .int .i64 b]] w fun e w' => e = .returned (.bool (M.ptOk (a, b))) ∧ Below w.heap.size w w' := by
  cases h1 : M.inn a 0 4000 <;> cases h2 : M.inn b (-65536) 65536
  all_goals
    go_enter Try.func75, Try.ntmps75
    go_wp2_with (first | (go_at_call 85; refine (impl_isCount _ _).mono ?_; rintro e w' ⟨rfl, rfl⟩) | (go_at_call 81; refine (impl_within _ _ _ _).mono ?_; rintro e w' ⟨rfl, rfl⟩))
    go_ret
    exact ⟨ret_bool (by simp [M.ptOk, h1, h2]), (Below.refl _ _).alloc (Nat.le_refl _) _⟩
theorem spec_l25Point (b o : Nat) (p : Int × Int) (w : World) (h0 : w.cell? ⟨b, o, none⟩ = some (.int .i64 p.1)) (h1 : w.cell? ⟨b, o + 1, none⟩ = some (.int .i64 p.2)) :
    Calls Try.prog 72 #[.pointer (some ⟨b, o, none⟩)] w fun e w' => e = .returned (.bool (M.ptOk p)) ∧ w = w' := by
  obtain ⟨p0, p1⟩ := p
  cases h1 : M.inn p0 0 4000 <;> cases h2 : M.inn p1 (-65536) 65536
  all_goals
    go_enter Try.func72, Try.ntmps72
    go_wp2_with (go_at_call 79; refine (spec_l00In _ _ _ _).mono ?_; rintro e w' ⟨rfl, rfl⟩)
    go_ret
    exact ⟨ret_bool (by simp [M.ptOk, h1, h2]), rfl⟩
theorem impl_size_impl_CurvePoint (A : Option Addr) (n c : Nat) (w : World) : Calls Try.prog 82 #[.slice A n c] w fun e w' => e = .returned (.int .i64 n) ∧ w = w' := by
  go_enter Try.func82, Try.ntmps82
  go_wp2
  go_ret
  exact ⟨rfl, rfl⟩
theorem M.div_low {a b : Int} (hb : 0 < b) (hm : a.tmod b < 0) : a.tdiv b - 1 = a / b := by
  have h1 := Int.tmod_add_mul_tdiv a b
  have h2 : -b < a.tmod b := by
    have := Int.lt_tmod_of_pos a hb
    omega
  have h3 : a = (a.tmod b + b) + b * (a.tdiv b - 1) := by rw [Int.mul_sub, Int.mul_one]; omega
  rw [h3, Int.add_mul_ediv_left _ _ (by omega), Int.ediv_eq_zero_of_lt (by omega) (by omega), ← h3]
  omega
theorem M.div_high {a b : Int} (hb : 0 < b) (hm : ¬ a.tmod b < 0) : a.tdiv b = a / b := by
  have h1 := Int.tmod_add_mul_tdiv a b
  have h2 : a.tmod b < b := Int.tmod_lt_of_pos a hb
  have h3 : a = a.tmod b + b * a.tdiv b := by omega
  generalize hq : a.tdiv b = q at h3 ⊢
  rw [h3, Int.add_mul_ediv_left _ _ (by omega)]
  generalize a.tmod b = r at *
  rw [Int.ediv_eq_zero_of_lt (by omega) (by omega)]
  omega
theorem M.div_wrap {a b : Int} (ha : -9000000000000000000 ≤ a ∧ a ≤ 9000000000000000000) (hb : 0 < b) : wrap64 (a / b) = a / b := by
  have h1 : a / b ≤ 9000000000000000000 := by
    refine Int.ediv_le_of_le_mul hb ?_
    have : (9000000000000000000 : Int) * 1 ≤ 9000000000000000000 * b := Int.mul_le_mul_of_nonneg_left (by omega) (by omega)
    omega
  have h2 : -9000000000000000000 ≤ a / b := by
    refine Int.le_ediv_of_mul_le hb ?_
    have : (9000000000000000000 : Int) * 1 ≤ 9000000000000000000 * b := Int.mul_le_mul_of_nonneg_left (by omega) (by omega)
    omega
  unfold wrap64
  omega
theorem impl_floorDiv (a b : Int) (w : World) (ha : -9000000000000000000 ≤ a ∧ a ≤ 9000000000000000000) (hb : 0 < b) (hb2 : b ≤ 9000000000000000000) : Calls Try.prog 95 #[.int .i64 a, .int .i64 b] w fun e w' => e = .returned (.int .i64 (a / b)) ∧ w = w' := by
  have hb0 := Lib.hid (show ¬ b = 0 by omega)
  have hb1 := Lib.hid (show ¬ b = -1 by omega)
  by_cases hm : a.tmod b < 0
  · have hq := Lib.hid (M.div_low hb hm)
    go_enter Try.func95, Try.ntmps95
    go_wp2
    go_ret
    exact ⟨ret_int (by rw [hq.out]; exact M.div_wrap ha hb), rfl⟩
  · have hq := Lib.hid (M.div_high hb hm)
    go_enter Try.func95, Try.ntmps95
    go_wp2
    go_ret
    exact ⟨ret_int hq.out, rfl⟩
theorem spec_l25Div (a b : Int) (w : World) (ha : -9000000000000000000 ≤ a ∧ a ≤ 9000000000000000000) (hb : 0 < b) (hb2 : b ≤ 9000000000000000000) : Calls Try.prog 99 #[.int .i64 a, .int .i64 b] w fun e w' => e = .returned (.int .i64 (a / b)) ∧ w = w' := by
  have hb0 := Lib.hid (show ¬ b = 0 by omega)
  have hb1 := Lib.hid (show ¬ b = -1 by omega)
  by_cases hm : a.tmod b < 0
  · have hq := Lib.hid (M.div_low hb hm)
    go_enter Try.func99, Try.ntmps99
    go_wp2
    go_ret
    exact ⟨ret_int (by rw [hq.out]; exact M.div_wrap ha hb), rfl⟩
  · have hq := Lib.hid (M.div_high hb hm)
    go_enter Try.func99, Try.ntmps99
    go_wp2
    go_ret
    exact ⟨ret_int hq.out, rfl⟩
end Go.Proofs.Ytckihflfjecpbaa
