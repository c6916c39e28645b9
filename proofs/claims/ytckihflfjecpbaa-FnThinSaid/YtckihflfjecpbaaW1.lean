import Derived.Test.YtckihflfjecpbaaProg
import Derived.Test.YtckihflfjecpbaaK1
import Derived.Test.YtckihflfjecpbaaM1
namespace Go.Proofs.Ytckihflfjecpbaa
open Go.RowKit
set_option maxHeartbeats 400000
theorem ret_int {k : IntKind} {a b : Int} (h : a = b) : Ending.returned (.int k a) = .returned (.int k b) := by rw [h]
theorem ret_bool {a b : Bool} (h : a = b) : Ending.returned (.bool a) = .returned (.bool b) := by rw [h]
theorem ei_i64 : EI Try.prog 41 2 (.int .i64 0) 1 8 := ⟨Try.underlying41, by kernel_rfl, rfl, by decide⟩
theorem impl_within (n lo hi : Int) (w : World) :
    Calls Try.prog 81 #[.int .i64 n, .int .i64 lo, .int .i64 hi] w fun e w' => e = .returned (.bool (M.inn n lo hi)) ∧ w = w' := by
  go_enter Try.func81, Try.ntmps81
  go_wp2
  all_goals go_ret
  all_goals exact ⟨by simp [M.inn] <;> omega, rfl⟩
theorem spec_l00In (n lo hi : Int) (w : World) :
    Calls Try.prog 79 #[.int .i64 n, .int .i64 lo, .int .i64 hi] w fun e w' => e = .returned (.bool (M.inn n lo hi)) ∧ w = w' := by
  go_enter Try.func79, Try.ntmps79
  go_wp2
  all_goals go_ret
  all_goals exact ⟨by simp [M.inn] <;> omega, rfl⟩
theorem impl_isSample (n : Int) (w : World) :
    Calls Try.prog 144 #[.int .i64 n] w fun e w' => e = .returned (.bool (M.smp n)) ∧ w = w' := by
  go_enter Try.func144, Try.ntmps144
  go_wp2_with (go_at_call 81; refine (impl_within _ _ _ _).mono ?_; rintro e w' ⟨rfl, rfl⟩)
  go_ret
  exact ⟨rfl, rfl⟩
theorem spec_l01Sample (n : Int) (w : World) :
    Calls Try.prog 137 #[.int .i64 n] w fun e w' => e = .returned (.bool (M.smp n)) ∧ w = w' := by
  go_enter Try.func137, Try.ntmps137
  go_wp2_with (go_at_call 79; refine (spec_l00In _ _ _ _).mono ?_; rintro e w' ⟨rfl, rfl⟩)
  go_ret
  exact ⟨rfl, rfl⟩
theorem impl_Wrap (n : Int) (w : World) : Calls Try.prog 94 #[.int .i64 n] w fun e w' => e = .returned (.int .i64 (wrap32 n)) ∧ w = w' := by
  go_enter Try.func94, Try.ntmps94
  go_wp2
  go_ret
  exact ⟨ret_int (M.wrap64_32 _), rfl⟩
theorem spec_l01Wrap (n : Int) (w : World) : Calls Try.prog 98 #[.int .i64 n] w fun e w' => e = .returned (.int .i64 (wrap32 n)) ∧ w = w' := by
  have h := Lib.hid (M.and_low n)
  by_cases hm : 2147483647 < bits BinOp.and IntKind.i64 n 4294967295
  all_goals
    go_enter Try.func98, Try.ntmps98
    go_wp2
    go_ret
    exact ⟨ret_int (by have := h.out; unfold wrap32; (try unfold wrap64); omega), rfl⟩
end Go.Proofs.Ytckihflfjecpbaa
