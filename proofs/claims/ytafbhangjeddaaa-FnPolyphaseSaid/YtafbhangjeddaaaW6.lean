import Derived.Test.YtafbhangjeddaaaW5
namespace Go.Proofs.Ytafbhangjeddaaa
open Go.RowKit
set_option maxHeartbeats 400000
set_option maxRecDepth 100000
theorem spec_l01Add (a b : Int) (w : World) : Calls Try.prog 76 #[.int .i64 a, .int .i64 b] w fun e w' => e = .returned (.int .i64 (wrap32 (a + b))) ∧ w = w' := by
  have h1 := M.wrap32_bd a
  have h2 := M.wrap32_bd b
  go_enter Try.func76, Try.ntmps76
  go_wp2_with (go_at_call 86; refine (spec_l01Wrap _ _).mono ?_; rintro e w' ⟨rfl, rfl⟩)
  go_ret
  exact ⟨ret_int (M.wrap32_add _ _), rfl⟩
theorem spec_l01Sub (a b : Int) (w : World) : Calls Try.prog 78 #[.int .i64 a, .int .i64 b] w fun e w' => e = .returned (.int .i64 (wrap32 (a - b))) ∧ w = w' := by
  have h1 := M.wrap32_bd a
  have h2 := M.wrap32_bd b
  go_enter Try.func78, Try.ntmps78
  go_wp2_with (go_at_call 86; refine (spec_l01Wrap _ _).mono ?_; rintro e w' ⟨rfl, rfl⟩)
  go_ret
  exact ⟨ret_int (M.wrap32_sub _ _), rfl⟩
theorem spec_l01Mul (a b : Int) (w : World) : Calls Try.prog 83 #[.int .i64 a, .int .i64 b] w fun e w' => e = .returned (.int .i64 (wrap32 (a * b))) ∧ w = w' := by
  have h1 := M.wrap32_bd a
  have h2 := M.wrap32_bd b
  have h3 := M.wrap64_mul_bd _ _ h1 h2
  go_enter Try.func83, Try.ntmps83
  go_wp2_with (go_at_call 86; refine (spec_l01Wrap _ _).mono ?_; rintro e w' ⟨rfl, rfl⟩)
  go_ret
  exact ⟨ret_int (M.wrap32_mul _ _), rfl⟩
theorem impl_comb (A : Option Addr) (n c : Nat) (xs : List Int) (m : Int) (w : World) (hx : RI w w.heap.size A n xs) (hs : ∀ x ∈ xs, M.smp x = true) (hn : n ≤ 1000000000) (hm : 1 ≤ m ∧ m ≤ 4000) :
    Calls Try.prog 58 #[.slice A n c, .int .i64 m] w (Ret1 2 w (M.combL xs m)) := by
  obtain ⟨m, rfl⟩ := Int.eq_ofNat_of_zero_le (show 0 ≤ m by omega)
  have hl := Lib.hid hx.len
  have HS := Lib.hid hs
  clear hs
  go_enter Try.func58, Try.ntmps58
  go_wp2_with (go_at_call 63; refine (impl_clone _ _ _ _ _ hx hn).mono ?_; rintro e w1 ⟨v1, rfl, own1, bel1⟩)
  obtain ⟨A1, c1, rfl, _⟩ := own1.shape
  rw [hl.out] at own1 ⊢
  go_loopw [6] (fun i wr => ∃ k : Nat, i = .int .i64 k ∧ m ≤ k ∧ k ≤ n + m ∧ OI 2 w.heap.size wr (.slice A1 n c1) ((M.combL xs m).take k ++ xs.drop k) ∧ Below w.heap.size w wr)
    (fun i _ => n - (intOf i).toNat)
  case atStart => exact ⟨m, rfl, by omega, by omega, by rw [M.combL_start HS.out]; exact own1, bel1⟩
  case round =>
    obtain ⟨k, rfl, hk1, hk, own, hb⟩ := hrel
    by_cases hlt : k < n
    · obtain ⟨ad, x, rfl, hab, X, hc⟩ := (hx.below hb).at hlt
      obtain ⟨y, Y, hc'⟩ := (hx.below hb).cell (k := k - m) (by omega)
      obtain ⟨g, rfl, hB, hgl⟩ := own.form' (by omega)
      obtain ⟨z, Z, hc2, hf2, _, _⟩ := own.at' hlt
      go_wp2_with (go_at_call 75; refine (impl_size_int64 _ _ _ _).mono ?_; rintro e w' ⟨rfl, rfl⟩)
      have e1 : IntKind.i64.wrap ((k : Int) - m) = (k : Int) - m := IntWalk.i64_in _ (by omega)
      have e4 : (k : Int) - m < n := by omega
      refine wp_region_still_tail 15 (by kernel_rfl) (by kernel_rfl) ?_
      simp only [List.take_succ_cons, List.take_zero, List.drop_succ_cons, List.drop_zero]
      iterate 13 still_step
      still_call (still_of (impl_Wrap _ _))
      still_step
      refine wpStill_nil ?_
      change wpList _ _ _ _ _ wr.drew
      clear e1 e4
      go_wp2
      go_roundw
      case rel =>
        refine ⟨k + 1, by go_num, by omega, by omega, ?_, (hb.drew).setCell hB _⟩
        have h3 := OI.stored' own k (wrap32 (wrap64 (x - y)))
        have hy : M.at_ xs ((k : Int) - m) = y := by
          have := M.at_nat Y.out
          rwa [show ((k - m : Nat) : Int) = (k : Int) - m by omega] at this
        rw [M.set_mid (by rw [M.combL_len]) (by rw [M.combL_at (by rw [hl.out]; exact hlt), M.at_nat X.out, hy, M.wrap32_64])] at h3
        exact h3
      case measure => simp [intOf]; omega
    · go_wp2_with (go_at_call 75; refine (impl_size_int64 _ _ _ _).mono ?_; rintro e w' ⟨rfl, rfl⟩)
      go_ret
      rw [List.take_of_length_le (by rw [M.combL_len, hl.out]; omega), List.drop_eq_nil_of_le (by rw [hl.out]; omega), List.append_nil] at own
      exact ⟨_, rfl, own, hb⟩
theorem spec_l28Comb (A : Option Addr) (n c : Nat) (xs : List Int) (m : Int) (w : World) (hx : RI w w.heap.size A n xs) (hn : n ≤ 1000000000) (hm : 1 ≤ m ∧ m ≤ 4000) :
    Calls Try.prog 67 #[.slice A n c, .int .i64 m] w (Ret1 2 w (M.combL xs m)) := by
  have hl := Lib.hid hx.len
  go_enter Try.func67, Try.ntmps67
  go_wp2
  go_loopw [5, 6] (fun v i wr => ∃ k : Nat, i = .int .i64 k ∧ k ≤ n ∧ OI 2 w.heap.size wr v ((M.combL xs m).take k) ∧ Below w.heap.size w wr)
    (fun _ i _ => n - (intOf i).toNat)
  case atStart => exact ⟨0, rfl, by omega, OI.made _ _, (Below.refl _ _).alloc (Nat.le_refl _) _⟩
  case round =>
    obtain ⟨k, rfl, hk, own, hb⟩ := hrel
    by_cases hlt : k < n
    · have hxr : RI wr.drew wr.drew.heap.size A n xs := (hx.below hb).more hb.size
      obtain ⟨ad, x, rfl, hab, X, hc⟩ := (hx.below hb).at hlt
      have hC := Lib.hid (show (M.combL xs m)[k]? = some (wrap32 (x - M.at_ xs ((k : Int) - m))) by rw [M.combL_at (by rw [hl.out]; exact hlt), M.at_nat X.out])
      have hk1 : ((M.combL xs m).take k).length ≤ 1000000000 := by rw [List.length_take]; omega
      have own0 : wr.ownsRow w.heap.size 2 1 u5 ((M.combL xs m).take k).length (((M.combL xs m).take k).map (.int .i64)) := own
      have c1 : ((M.combL xs m).take k).length + 1 ≤ maxLen := by unfold maxLen; omega
      have c2 : (((M.combL xs m).take k).length + 1) * 8 ≤ 140737488355328 := by omega
      have c3 : w.heap.size ≤ wr.heap.size := hb.size
      go_wp2
      have e1 : IntKind.i64.wrap ((k : Int) - m) = (k : Int) - m := IntWalk.i64_in _ (by omega)
      go_region_held3 (fun w' => w'.cell? (ad.add k) = some (.int .i64 x)) (first | go_keep | (rw [bel1.cell (by rw [block_of_add]; exact hab)]; go_keep))
        (first
          | (go_at_call 79; refine (spec_l03At _ _ _ xs _ _ hxr (by omega)).mono ?_; rintro e w' ⟨rfl, rfl⟩)
          | (go_at_call 78; refine (spec_l01Sub _ _ _).mono ?_; rintro e w' ⟨rfl, rfl⟩)
          | (refine step_push1 (o := ⟨some 26, _, _, _, _, _⟩) ei_i64 rfl (.tmp 14) (.tmp 25) rfl (World.ownsRow.drew (World.ownsRow.alloc own0 _)) rfl rfl (cell_alloc1 _ _ _) rfl c1 c2 (base_alloc c3) ?_; intro v1 w1 own1 gr1 bel1))
      clear e1 hxr
      go_wp2
      go_roundw
      case rel => exact ⟨k + 1, by go_num, by omega, by rw [M.take_at hC.out]; exact OI.push own1, ((hb.alloc c3 _).drew).trans bel1⟩
      case measure => simp [intOf]; omega
    · go_wp2
      go_ret
      rw [List.take_of_length_le (by rw [M.combL_len, hl.out]; omega)] at own
      exact ⟨_, rfl, own, hb⟩
end Go.Proofs.Ytafbhangjeddaaa
