import Derived.Test.YtebaffdaffcdmaaW1
namespace Go.Proofs.Ytebaffdaffcdmaa
open Go.RowKit
set_option maxHeartbeats 400000
theorem impl_zeros (i : Int) (w : World) (h0 : 0 ≤ i) (hi : i ≤ 1000000000) :
    Calls Try.prog 69 #[.int .i64 i] w fun e w' => ∃ v, e = .returned v ∧ OI 2 w.heap.size w' v (List.replicate i.toNat 0) ∧ Below w.heap.size w w' := by
  obtain ⟨n, rfl⟩ := Int.eq_ofNat_of_zero_le h0
  go_enter Try.func69, Try.ntmps69
  go_wp2_with (at_make; refine wpList_mk ei_i64 rfl _ _ rfl n _ _ rfl rfl rfl rfl (by omega) (by unfold maxLen; omega) ?_; intro w1 own1 bel1)
  go_ret
  refine ⟨_, rfl, ?_, bel1⟩
  unfold OI
  have := toList_madeCells_one (.int .i64 0) n
  simp only [Nat.mul_one, Value.cells] at own1
  rw [this] at own1
  simpa using own1
end Go.Proofs.Ytebaffdaffcdmaa
