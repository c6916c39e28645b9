import Derived.Test.YtckihflfjecpbaaW24
namespace Go.Proofs.Ytckihflfjecpbaa
open Go.RowKit Go.Sort
set_option maxHeartbeats 400000
set_option maxRecDepth 100000
theorem spec_l25Ok (vb : Nat) (A : Option Addr) (n c : Nat) (xs : List (Int × Int)) (w : World) (hv0 : w.cell? ⟨vb, 0, none⟩ = some (.slice A n c)) (hx : RA pt 2 w w.heap.size A n xs) (hn : n ≤ 1000000000) :
    Calls Try.prog 71 #[.pointer (some ⟨vb, 0, none⟩)] w fun e w' => e = .returned (.bool (M.curveOk xs)) ∧ Below w.heap.size w w' := by
  have hl := Lib.hid hx.len
  have hvb : vb < w.heap.size := World.block_lt_of_cell? w _ hv0
  go_enter Try.func71, Try.ntmps71
  go_wp2
  go_loopw [3] (fun i wr => ∃ k : Nat, i = .int .i64 k ∧ k ≤ n ∧ Hid (∀ j, j < k → M.stepOk xs j = true) ∧ Below w.heap.size w wr) (fun i _ => n - (intOf i).toNat)
  case atStart => exact ⟨0, rfl, by omega, Lib.hid (by omega), Below.refl _ _⟩
  case round =>
    obtain ⟨k, rfl, hk, H, hb⟩ := hrel
    have hv : wr.cell? ⟨vb, 0, none⟩ = some (.slice A n c) := by rw [hb.cell (by simpa using hvb)]; exact hv0
    by_cases hlt : k < n
    · obtain ⟨b, o, ⟨p0, p1⟩, rfl, hab, X, hc⟩ := (hx.below hb).at pt_len (by decide) hlt
      have hc0 : wr.cell? ⟨b, o + k * 2, none⟩ = some (.int .i64 p0) := hc 0 _ rfl
      have hc1 : wr.cell? ⟨b, o + k * 2 + 1, none⟩ = some (.int .i64 p1) := hc 1 _ rfl
      clear hc
      obtain ⟨⟨r0, r1⟩, Z, hr⟩ := (hx.below hb).cells pt_len (by decide) (k := k - 1) (by omega)
      have hr0 : wr.cell? ⟨b, o + (k - 1) * 2, none⟩ = some (.int .i64 r0) := hr 0 _ rfl
      clear hr
      have hp0 := Lib.hid (show (xs[k]?).getD (0, 0) = (p0, p1) by rw [X.out]; rfl)
      have hz0 := Lib.hid (show (xs[k - 1]?).getD (0, 0) = (r0, r1) by rw [Z.out]; rfl)
      cases hp : M.ptOk (p0, p1)
      · have hno := Lib.hid (show M.curveOk xs = false by rw [M.curveOk, M.all_not (k := k) (by rw [hl.out]; exact hlt) (by rw [M.stepOk, hp0.out, hp, Bool.false_and]), Bool.false_and])
        have cP : ∀ m, Calls Try.prog 72 #[.pointer (some ⟨b, o + k * 2, none⟩)] (wr.drewN m) fun e w'' => e = .returned (.bool false) ∧ ∃ m', w'' = wr.drewN m' := fun m => quiet_left (by have h := spec_l25Point b (o + k * 2) (p0, p1) (wr.drewN m) hc0 hc1; rw [hp] at h; exact h)
        go_wp2
        go_quiet (exact cP _)
        go_wp2
        go_ret
        exact ⟨ret_bool (by rw [hno.out]), hb.trans (below_drewN (Below.refl _ _) _)⟩
      · by_cases hk0 : k = 0
        · have hyes := Lib.hid (show M.stepOk xs k = true by rw [M.stepOk, hp0.out, hp, M.after, hk0]; rfl)
          have hd : decide (0 < k) = false := by rw [hk0]; rfl
          have hd2 : ¬ 0 < k := by omega
          clear hk0
          have cP : ∀ m, Calls Try.prog 72 #[.pointer (some ⟨b, o + k * 2, none⟩)] (wr.drewN m) fun e w'' => e = .returned (.bool true) ∧ ∃ m', w'' = wr.drewN m' := fun m => quiet_left (by have h := spec_l25Point b (o + k * 2) (p0, p1) (wr.drewN m) hc0 hc1; rw [hp] at h; exact h)
          go_wp2
          go_quiet (exact cP _)
          go_wp2
          go_roundw
          case rel => exact ⟨k + 1, by go_num, by omega, Lib.hid (fun j hj => by rcases Nat.lt_succ_iff_lt_or_eq.1 hj with h | h; exact H.out j h; rw [h]; exact hyes.out), hb.trans (below_drewN (Below.refl _ _) _)⟩
          case measure => simp [intOf]; omega
        · have hkk : IntKind.i64.wrap ((k : Int) - 1) = ((k - 1 : Nat) : Int) := by rw [IntWalk.i64_in _ (by omega)]; omega
          have hk1n : ((k - 1 : Nat) : Int) < (n : Int) := by omega
          have hd : decide (0 < k) = true := decide_eq_true (by omega)
          by_cases hge : p0 ≤ r0
          · have hno := Lib.hid (show M.curveOk xs = false by rw [M.curveOk, M.all_not (k := k) (by rw [hl.out]; exact hlt) (by rw [M.stepOk, hp0.out, hp, M.after, hp0.out, hz0.out]; simp [hk0, hge]), Bool.false_and])
            have cP : ∀ m, Calls Try.prog 72 #[.pointer (some ⟨b, o + k * 2, none⟩)] (wr.drewN m) fun e w'' => e = .returned (.bool true) ∧ ∃ m', w'' = wr.drewN m' := fun m => quiet_left (by have h := spec_l25Point b (o + k * 2) (p0, p1) (wr.drewN m) hc0 hc1; rw [hp] at h; exact h)
            go_wp2
            go_quiet (exact cP _)
            go_wp2
            go_ret
            exact ⟨ret_bool (by rw [hno.out]), hb.trans (below_drewN (Below.refl _ _) _)⟩
          · have hyes := Lib.hid (show M.stepOk xs k = true by rw [M.stepOk, hp0.out, hp, M.after, hp0.out, hz0.out]; simp; omega)
            have cP : ∀ m, Calls Try.prog 72 #[.pointer (some ⟨b, o + k * 2, none⟩)] (wr.drewN m) fun e w'' => e = .returned (.bool true) ∧ ∃ m', w'' = wr.drewN m' := fun m => quiet_left (by have h := spec_l25Point b (o + k * 2) (p0, p1) (wr.drewN m) hc0 hc1; rw [hp] at h; exact h)
            go_wp2
            go_quiet (exact cP _)
            go_wp2
            go_roundw
            case rel => exact ⟨k + 1, by go_num, by omega, Lib.hid (fun j hj => by rcases Nat.lt_succ_iff_lt_or_eq.1 hj with h | h; exact H.out j h; rw [h]; exact hyes.out), hb.trans (below_drewN (Below.refl _ _) _)⟩
            case measure => simp [intOf]; omega
    · have hyes := Lib.hid (M.all_upto (n := xs.length) (f := M.stepOk xs) (fun j hj => H.out j (by rw [hl.out] at hj; omega)))
      have hres := Lib.hid (show M.inn (n : Int) 1 24 = M.curveOk xs by rw [M.curveOk, hyes.out, hl.out, Bool.true_and])
      go_wp2_with (go_at_call 79; refine (spec_l00In _ _ _ _).mono ?_; rintro e w' ⟨rfl, rfl⟩)
      go_ret
      exact ⟨ret_bool hres.out, hb⟩
end Go.Proofs.Ytckihflfjecpbaa
