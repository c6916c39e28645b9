import Derived.Test.YtckihflfjecpbaaW26
namespace Go.Proofs.Ytckihflfjecpbaa
open Go.RowKit Go.Sort
set_option maxHeartbeats 400000
set_option maxRecDepth 100000
/-- All that a step of the reckoning of a value wants to know of two neighbours. -/
theorem M.seg_facts {p0 p1 q0 q1 t : Int} (hp : (0 ≤ p0 ∧ p0 ≤ 4000) ∧ -65536 ≤ p1 ∧ p1 ≤ 65536) (hq : (0 ≤ q0 ∧ q0 ≤ 4000) ∧ -65536 ≤ q1 ∧ q1 ≤ 65536) (hlt : p0 < q0) (ht : 0 ≤ t ∧ t ≤ 1000000) :
    IntKind.i64.wrap (q1 - p1) = q1 - p1 ∧ IntKind.i64.wrap (t - p0) = t - p0 ∧ IntKind.i64.wrap ((q1 - p1) * (t - p0)) = (q1 - p1) * (t - p0) ∧ IntKind.i64.wrap (q0 - p0) = q0 - p0 ∧
      IntKind.i64.wrap (p1 + (q1 - p1) * (t - p0) / (q0 - p0)) = M.seg (p0, p1) (q0, q1) t ∧ (-9000000000000000000 ≤ (q1 - p1) * (t - p0) ∧ (q1 - p1) * (t - p0) ≤ 9000000000000000000) ∧ 0 < q0 - p0 ∧ q0 - p0 ≤ 9000000000000000000 := by
  have h1 := M.mul_bound (a := q1 - p1) (b := t - p0) (x := 131072) (y := 1000000) (by omega) (by omega) (by omega)
  have h2 := M.div_small (a := (q1 - p1) * (t - p0)) (b := q0 - p0) (c := 131072000000) (by omega) (by omega) (by omega)
  refine ⟨IntWalk.i64_in _ (by omega), IntWalk.i64_in _ (by omega), IntWalk.i64_in _ (by omega), IntWalk.i64_in _ (by omega), ?_, by omega, by omega, by omega⟩
  rw [IntWalk.i64_in _ (by omega)]
  rfl
theorem spec_l25At (A : Option Addr) (n c : Nat) (xs : List (Int × Int)) (t : Int) (w : World) (hx : RA pt 2 w w.heap.size A n xs) (hok : M.curveOk xs = true) (ht : 0 ≤ t ∧ t ≤ 1000000) :
    Calls Try.prog 84 #[.slice A n c, .int .i64 t] w fun e w' => e = .returned (.int .i64 (M.atC xs t)) ∧ Below w.heap.size w w' := by
  have hl := Lib.hid hx.len
  have hn : 1 ≤ n ∧ n ≤ 24 := by have := M.curve_len hok; rw [hl.out] at this; exact this
  have hok' := Lib.hid hok
  clear hok
  obtain ⟨b, o, ⟨x0, x1⟩, rfl, hab, X0, hc⟩ := hx.at pt_len (by decide) (k := 0) (by omega)
  have hc0 : w.cell? ⟨b, o, none⟩ = some (.int .i64 x0) := by have := hc 0 _ rfl; simpa using this
  have hc1 : w.cell? ⟨b, o + 1, none⟩ = some (.int .i64 x1) := by have := hc 1 _ rfl; simpa using this
  clear hc
  by_cases hle : t ≤ x0
  · have hv := Lib.hid (M.atC_first hok'.out X0.out hle)
    go_enter Try.func84, Try.ntmps84
    go_wp2
    go_ret
    exact ⟨ret_int hv.out.symm, Below.refl _ _⟩
  · have hv := Lib.hid (M.atC_go X0.out (t := t) (by simp; omega))
    go_enter Try.func84, Try.ntmps84
    go_wp2
    go_loopw [6, 7, 8] (fun i _ _ wr => ∃ k : Nat, i = .int .i64 k ∧ 1 ≤ k ∧ k ≤ n ∧ (∃ p, Hid (xs[k - 1]? = some p ∧ M.atGo p (xs.drop k) t = M.atC xs t)) ∧ Below w.heap.size w wr) (fun i _ _ _ => n - (intOf i).toNat)
    case atStart => exact ⟨1, rfl, by omega, by omega, ⟨_, Lib.hid ⟨X0.out, hv.out.symm⟩⟩, Below.refl _ _⟩
    case round =>
      obtain ⟨k, rfl, hk1, hk, ⟨⟨p0, p1⟩, H⟩, hb⟩ := hrel
      have hkk : IntKind.i64.wrap ((k : Int) - 1) = ((k - 1 : Nat) : Int) := by rw [IntWalk.i64_in _ (by omega)]; omega
      obtain ⟨⟨r0, r1⟩, Z, hr⟩ := (hx.below hb).cells pt_len (by decide) (k := k - 1) (by omega)
      have hbr : b < wr.heap.size := Nat.lt_of_lt_of_le hab hb.size
      have hpr := H.out.1
      rw [Z.out] at hpr
      simp only [Option.some.injEq, Prod.mk.injEq] at hpr
      obtain ⟨rfl, rfl⟩ := hpr
      have hr0 : wr.cell? ⟨b, o + (k - 1) * 2, none⟩ = some (.int .i64 r0) := hr 0 _ rfl
      have hr1 : wr.cell? ⟨b, o + (k - 1) * 2 + 1, none⟩ = some (.int .i64 r1) := hr 1 _ rfl
      clear hr
      by_cases hlt : k < n
      · obtain ⟨⟨p0, p1⟩, X, hc⟩ := (hx.below hb).cells pt_len (by decide) hlt
        have hd0 : wr.cell? ⟨b, o + k * 2, none⟩ = some (.int .i64 p0) := hc 0 _ rfl
        have hd1 : wr.cell? ⟨b, o + k * 2 + 1, none⟩ = some (.int .i64 p1) := hc 1 _ rfl
        clear hc
        by_cases htp : t < p0
        · have hval := Lib.hid (show M.seg (r0, r1) (p0, p1) t = M.atC xs t by have := H.out.2; rw [M.atGo_step X.out, if_pos htp] at this; exact this)
          obtain ⟨e1, e2, e3, e4, e5, hA, hB, hC⟩ := M.seg_facts (M.curve_pt hok'.out Z.out) (M.curve_pt hok'.out X.out) (M.curve_lt hok'.out (by omega) Z.out X.out) ht
          go_wp2
          go_quiet ((go_at_call 99; exact quiet_left (spec_l25Div _ _ _ hA hB hC)))
          go_wp2
          go_ret
          exact ⟨ret_int hval.out, (((hb.alloc hb.size _).alloc (by simpa using Nat.le_succ_of_le hb.size) _)).trans (below_drewN (Below.refl _ _) _)⟩
        · have hval := Lib.hid (show M.atGo (p0, p1) (xs.drop (k + 1)) t = M.atC xs t by have := H.out.2; rw [M.atGo_step X.out, if_neg htp] at this; exact this)
          go_wp2
          go_roundw
          case rel => exact ⟨k + 1, by go_num, by omega, by omega, ⟨_, Lib.hid ⟨X.out, hval.out⟩⟩, ((hb.alloc hb.size _).alloc (by simpa using Nat.le_succ_of_le hb.size) _)⟩
          case measure => simp [intOf]; omega
      · have hval := Lib.hid (show r1 = M.atC xs t by have := H.out.2; rw [M.atGo_end (by rw [hl.out]; omega)] at this; exact this)
        obtain rfl : k = n := by omega
        go_wp2
        go_ret
        exact ⟨ret_int hval.out, hb⟩
end Go.Proofs.Ytckihflfjecpbaa
