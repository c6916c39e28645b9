import Derived.Test.YtafbhangjeddaaaW72
import Derived.Test.YtafbhangjeddaaaM3
namespace Go.Proofs.Ytafbhangjeddaaa
open Go.RowKit
set_option maxHeartbeats 1000000
set_option maxRecDepth 100000
theorem spec_WrapAdd (a b : Int) (w : World) : Calls Try.prog 39 #[.int .i64 a, .int .i64 b] w fun e w' => e = .returned (.int .i64 (wrap32 (a + b))) ∧ w = w' := by
  go_enter Try.func39, Try.ntmps39
  go_wp2_with (go_at_call 76; refine (spec_l01Add _ _ _).mono ?_; rintro e w' ⟨rfl, rfl⟩)
  go_ret
  exact ⟨rfl, rfl⟩
theorem spec_l03Zeros (r : Nat) (w : World) (hr : r ≤ 1000000) : Calls Try.prog 72 #[.int .i64 r] w (Ret1 2 w (List.replicate r 0)) := by
  go_enter Try.func72, Try.ntmps72
  go_wp2
  go_loopw [0, 3] (fun i v wr => ∃ k : Nat, i = .int .i64 k ∧ k ≤ r ∧ OI 2 w.heap.size wr v (List.replicate (r - k) 0) ∧ Below w.heap.size w wr)
    (fun i _ _ => (intOf i).toNat)
  case atStart => exact ⟨r, rfl, Nat.le_refl _, by rw [Nat.sub_self]; exact OI.made _ _, (Below.refl _ _).alloc (Nat.le_refl _) _⟩
  case round =>
    obtain ⟨k, rfl, hk, own, hb⟩ := hrel
    by_cases hlt : 0 < k
    · have hk1 : (List.replicate (r - k) (0 : Int)).length ≤ 1000000000 := by rw [List.length_replicate]; omega
      go_wp2_with (at_builtin; refine wpList_push1 ei_i64 rfl _ _ rfl own rfl rfl rfl (by unfold maxLen; omega) (by omega) hb.size ?_; intro v1 w1 own1 gr1 bel1)
      go_roundw
      case rel =>
        refine ⟨k - 1, by go_num, by omega, ?_, hb.trans bel1⟩
        have h2 := OI.push own1
        have e0 : List.replicate (r - k) (0 : Int) ++ [0] = List.replicate (r - (k - 1)) 0 := by
          rw [show r - (k - 1) = r - k + 1 by omega, List.replicate_succ']
        rw [e0] at h2
        exact h2
      case measure => simp [intOf]; omega
    · obtain rfl : k = 0 := by omega
      go_wp2
      go_ret
      exact ⟨_, rfl, own, hb⟩
theorem spec_DelaySignal (A : Option Addr) (n c : Nat) (xs : List Int) (r : Nat) (w : World) (hx : RI w w.heap.size A n xs) (hs : M.sig xs = true) (hl : xs.length ≤ 24) (hr : r ≤ 10) :
    Calls Try.prog 36 #[.slice A n c, .int .i64 r] w (Ret2 2 w (M.late xs r, 0)) := by
  have hxl := hx.len
  have hnb : n ≤ 24 := by omega
  have HL := Lib.hid hxl
  have h2 : M.inn (r : Int) 0 4000 = true := by simp [M.inn]; omega
  clear hxl
  go_enter Try.func36, Try.ntmps36
  go_wp2_with (first | (go_at_call 64; refine (spec_l03Ok _ _ _ _ _ hx (by omega)).mono ?_; rw [hs]; rintro e w' ⟨rfl, rfl⟩) | (go_at_call 60; refine (spec_l00In _ _ _ _).mono ?_; rw [h2]; rintro e w' ⟨rfl, rfl⟩) | (go_at_call 72; refine (spec_l03Zeros _ _ (by omega)).mono ?_; rintro e w1 ⟨v1, rfl, own1, bel1⟩; have hl1 : (List.replicate r (0 : Int)).length ≤ 10 := (by rw [List.length_replicate]; exact hr); have hx1 := Reads.below hx bel1) | (at_builtin; refine wpList_cat ei_i64 rfl _ _ rfl own1 rfl hx1 rfl (ints_oneCell _ _) (by unfold maxLen; omega) (by omega) bel1.size ?_; intro v2 w2 own2 gr2 bel2))
  go_ret2
  refine ⟨_, rfl, ?_, bel1.trans bel2⟩
  have e0 : (List.replicate r (0 : Int)).length + n = (M.late xs r).length := by rw [M.late_len, List.length_replicate, HL.out]
  unfold OI
  rw [e0, ← List.map_append] at own2
  exact own2
end Go.Proofs.Ytafbhangjeddaaa
