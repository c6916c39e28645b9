import Derived.Test.YtafbhangjeddaaaW9
namespace Go.Proofs.Ytafbhangjeddaaa
open Go.RowKit
set_option maxHeartbeats 1000000
set_option maxRecDepth 100000
theorem impl_convolve (A A' : Option Addr) (p c n c' : Nat) (ps xs : List Int) (w : World) (hp : RI w w.heap.size A p ps) (hx : RI w w.heap.size A' n xs) (hpl : p ≤ 64) (hn : n ≤ 4000)
    (hsp : ∀ x ∈ ps, M.smp x = true) :
    Calls Try.prog 74 #[.slice A p c, .slice A' n c', .int .i64 n] w (Ret1 2 w (M.tapL ps xs)) := by
  have hlp := Lib.hid hp.len
  have hl := Lib.hid hx.len
  go_enter Try.func74, Try.ntmps74
  go_wp2_with (go_at_call 81; refine (impl_zeros _ _ (by omega) (by omega)).mono ?_; rintro e w1 ⟨v1, rfl, own1, bel1⟩; rw [Int.toNat_natCast] at own1; obtain ⟨A1, c1, rfl, _⟩ := own1.shape; rw [List.length_replicate])
  go_loopw [8, 9, 14] (fun _ _ i wr => ∃ (k : Nat), i = .int .i64 k ∧ k ≤ n ∧ OI 2 w.heap.size wr (.slice A1 n c1) ((M.tapL ps xs).take k ++ (List.replicate n 0).drop k) ∧ Below w.heap.size w wr)
    (fun _ _ i _ => n - (intOf i).toNat)
  case atStart => exact ⟨0, rfl, by omega, by simpa using own1, bel1⟩
  case round =>
    obtain ⟨k, rfl, hk, own, hb⟩ := hrel
    obtain ⟨wo, rfl⟩ : ∃ wo : World, wo = wr := ⟨_, rfl⟩
    by_cases hlt : k < n
    · have hD := Lib.hid (show ((M.tapL ps xs).take k ++ (List.replicate n 0).drop k)[k]? = some 0 by rw [M.mid_at (by rw [M.tapL_len, hl.out, List.length_replicate])]; simp [hlt])
      go_wp2
      go_loopw [9] (fun j w2 => ∃ (q : Nat) (s : Int), j = .int .i64 q ∧ q ≤ p ∧ q ≤ k + 1 ∧ Hid (s = wrap32 (M.tapSum ps xs k q)) ∧
          OI 2 w.heap.size w2 (.slice A1 n c1) (((M.tapL ps xs).take k ++ (List.replicate n 0).drop k).set k s) ∧ Below w.heap.size w w2)
        (fun j _ => p - (intOf j).toNat)
      case atStart => exact ⟨0, 0, rfl, by omega, by omega, Lib.hid (by simp [M.tapSum, wrap32]), by
        rw [M.set_same hD.out]
        exact own, hb⟩
      case round =>
        obtain ⟨q, s, rfl, hq, hqk, T, own2, hb2⟩ := hrel
        by_cases hlq : q < p
        · by_cases hqi : q ≤ k
          · obtain ⟨ad, y, rfl, hab, Y, hc⟩ := (hp.below hb2).at hlq
            have hyb := M.smp_bd (hsp y (List.mem_of_getElem? Y.out))
            have hxr : RI wr.drew wr.drew.heap.size A' n xs := (hx.below hb2).more hb2.size
            obtain ⟨g, rfl, hB, hgl⟩ := own2.form' (by omega)
            obtain ⟨z, Z, hc2, hf2, _, _⟩ := own2.at' hlt
            obtain rfl : z = s := by
              have := Z.out
              rw [List.getElem?_set_self (by rw [List.length_append, List.length_take, List.length_drop, M.tapL_len, hl.out, List.length_replicate]; omega)] at this
              injection this with this
              exact this.symm
            go_wp2
            have e1 : IntKind.i64.wrap ((k : Int) - q) = (k : Int) - q := IntWalk.i64_in _ (by omega)
            have e2 : (0 : Int) ≤ (k : Int) - q := by omega
            refine wp_region_still_tail 19 (by kernel_rfl) (by kernel_rfl) ?_
            simp only [List.take_succ_cons, List.take_zero, List.drop_succ_cons, List.drop_zero]
            iterate 14 still_step
            still_call (still_of (impl_at _ _ _ xs _ wr.drew hxr (by omega) e2))
            iterate 2 still_step
            still_call (still_of (impl_Wrap _ _))
            still_step
            refine wpStill_nil ?_
            change wpList _ _ _ _ _ wr.drew
            clear e1 e2 hxr
            go_wp2
            go_roundw
            case rel =>
              refine ⟨q + 1, wrap32 (z + y * M.at_ xs ((k : Int) - q)), by go_num, by omega, by omega, Lib.hid (by rw [M.tapSum, Y.out, T.out, M.wrap32_addl]; rfl), ?_, (hb2.drew).setCell hB _⟩
              have h3 := own2.stored' k (wrap32 (z + y * M.at_ xs ((k : Int) - q)))
              rw [List.set_set] at h3
              have he : wrap32 (wrap64 (z + wrap64 (y * M.at_ xs ((k : Int) - q)))) = wrap32 (z + y * M.at_ xs ((k : Int) - q)) := by
                rw [M.wrap32_64, ← M.wrap32_addr, M.wrap32_64, M.wrap32_addr]
              rw [← he] at h3 ⊢
              exact h3
            case measure => simp [intOf]; omega
          · obtain rfl : q = k + 1 := by omega
            go_wp2
            go_roundw
            case rel =>
              refine ⟨k + 1, by go_num, by omega, ?_, hb2⟩
              have e := M.tapSum_end (p := ps) (x := xs) (i := (k : Int)) (k := k + 1) (by omega) (p - (k + 1))
              rw [show k + 1 + (p - (k + 1)) = ps.length by rw [hlp.out]; omega] at e
              rw [T.out, ← e, M.set_mid (by rw [M.tapL_len, hl.out, List.length_replicate]) (M.tapL_at (by rw [hl.out]; exact hlt))] at own2
              exact own2
            case measure => simp [intOf]; omega
        · obtain rfl : q = p := by omega
          go_wp2
          go_roundw
          case rel =>
            refine ⟨k + 1, by go_num, by omega, ?_, hb2⟩
            rw [T.out, ← hlp.out, M.set_mid (by rw [M.tapL_len, hl.out, List.length_replicate]) (M.tapL_at (by rw [hl.out]; exact hlt))] at own2
            exact own2
          case measure => simp [intOf]; omega
    · go_wp2
      go_ret
      rw [List.take_of_length_le (by rw [M.tapL_len, hl.out]; omega), List.drop_eq_nil_of_le (by simp; omega), List.append_nil] at own
      exact ⟨_, rfl, own, hb⟩
theorem spec_l28Tap (A A' : Option Addr) (p c n c' : Nat) (ps xs : List Int) (w : World) (hx : RI w w.heap.size A' n xs) (hp : RI w w.heap.size A p ps) (hpl : p ≤ 64) (hn : n ≤ 4000) :
    Calls Try.prog 65 #[.slice A' n c', .slice A p c] w (Ret1 2 w (M.tapL ps xs)) := by
  have hlp := Lib.hid hp.len
  have hl := Lib.hid hx.len
  go_enter Try.func65, Try.ntmps65
  go_wp2
  go_loopw [5, 6, 7, 8] (fun v i _ _ wr => ∃ (k : Nat), i = .int .i64 k ∧ k ≤ n ∧ OI 2 w.heap.size wr v ((M.tapL ps xs).take k) ∧ Below w.heap.size w wr)
    (fun _ i _ _ _ => n - (intOf i).toNat)
  case atStart => exact ⟨0, rfl, by omega, OI.made _ _, (Below.refl _ _).alloc (Nat.le_refl _) _⟩
  case round =>
    obtain ⟨k, rfl, hk, own, hb⟩ := hrel
    obtain ⟨wo, rfl⟩ : ∃ wo : World, wo = wr := ⟨_, rfl⟩
    by_cases hlt : k < n
    · have T2 := Lib.hid (M.tapL_at (p := ps) (x := xs) (i := k) (by rw [hl.out]; exact hlt))
      have hk1 : ((M.tapL ps xs).take k).length ≤ 1000000000 := by rw [List.length_take]; omega
      go_wp2
      go_loopw [7, 8] (fun r j w2 => ∃ (q : Nat) (s : Int), j = .int .i64 q ∧ q ≤ p ∧ r = .int .i64 s ∧ Hid (s = wrap32 (M.tapSum ps xs k q)) ∧
          OI 2 w.heap.size w2 u5 ((M.tapL ps xs).take k) ∧ Below w.heap.size w w2)
        (fun _ j _ => p - (intOf j).toNat)
      case atStart => exact ⟨0, 0, rfl, by omega, rfl, Lib.hid (by simp [M.tapSum, wrap32]), own, hb⟩
      case round =>
        obtain ⟨q, s, rfl, hq, rfl, T, own2, hb2⟩ := hrel
        by_cases hlq : q < p
        · obtain ⟨ad, y, rfl, hab, Y, hc⟩ := (hp.below hb2).at hlq
          have hxr : RI wr wr.heap.size A' n xs := (hx.below hb2).more hb2.size
          go_wp2
          have e1 : IntKind.i64.wrap ((k : Int) - q) = (k : Int) - q := IntWalk.i64_in _ (by omega)
          go_quiet ((first | (go_at_call 79; exact quiet_left (spec_l03At _ _ _ xs _ _ (show RI (wr.drewN _) _ _ _ _ from hxr) (by omega))) | (go_at_call 83; exact quiet_left (spec_l01Mul _ _ _)) | (go_at_call 76; exact quiet_left (spec_l01Add _ _ _))))
          clear e1 hxr
          go_wp2
          go_roundw
          case rel => exact ⟨q + 1, wrap32 (s + wrap32 (y * M.at_ xs ((k : Int) - q))), by go_num, by omega, rfl, Lib.hid (by rw [M.tapSum, Y.out, T.out, M.wrap32_addl, M.wrap32_addr]; rfl), own2, hb2.trans (below_drewN (Below.refl _ _) _)⟩
          case measure => simp [intOf]; omega
        · obtain rfl : q = p := by omega
          have hse := Lib.hid (show s = wrap32 (M.tapSum ps xs k ps.length) by rw [T.out, hlp.out])
          go_wp2_with (first
            | (at_builtin; refine wpList_push1 ei_i64 rfl _ _ rfl own2 rfl rfl rfl (by unfold maxLen; omega) (by omega) hb2.size ?_; intro v1 w1 own1 gr1 bel1))
          go_roundw
          case rel => exact ⟨k + 1, by go_num, by omega, by rw [M.take_at T2.out, ← hse.out]; exact OI.push own1, hb2.trans bel1⟩
          case measure => simp [intOf]; omega
    · go_wp2
      go_ret
      rw [List.take_of_length_le (by rw [M.tapL_len, hl.out]; omega)] at own
      exact ⟨_, rfl, own, hb⟩
end Go.Proofs.Ytafbhangjeddaaa
