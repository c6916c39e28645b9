import Derived.Test.YtckihflfjecpbaaW5
namespace Go.Proofs.Ytckihflfjecpbaa
open Go.RowKit
set_option maxHeartbeats 400000
set_option maxRecDepth 100000
theorem spec_l01Add (a b : Int) (w : World) : Calls Try.prog 135 #[.int .i64 a, .int .i64 b] w fun e w' => e = .returned (.int .i64 (wrap32 (a + b))) ∧ w = w' := by
  have h1 := M.wrap32_bd a
  have h2 := M.wrap32_bd b
  go_enter Try.func135, Try.ntmps135
  go_wp2_with (go_at_call 98; refine (spec_l01Wrap _ _).mono ?_; rintro e w' ⟨rfl, rfl⟩)
  go_ret
  exact ⟨ret_int (M.wrap32_add _ _), rfl⟩
theorem spec_l01Mul (a b : Int) (w : World) : Calls Try.prog 147 #[.int .i64 a, .int .i64 b] w fun e w' => e = .returned (.int .i64 (wrap32 (a * b))) ∧ w = w' := by
  have h1 := M.wrap32_bd a
  have h2 := M.wrap32_bd b
  have h3 := M.wrap64_mul_bd _ _ h1 h2
  go_enter Try.func147, Try.ntmps147
  go_wp2_with (go_at_call 98; refine (spec_l01Wrap _ _).mono ?_; rintro e w' ⟨rfl, rfl⟩)
  go_ret
  exact ⟨ret_int (M.wrap32_mul _ _), rfl⟩
end Go.Proofs.Ytckihflfjecpbaa
