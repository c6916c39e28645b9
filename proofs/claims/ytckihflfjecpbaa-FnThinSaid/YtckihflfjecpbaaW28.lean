import Derived.Test.YtckihflfjecpbaaW27
namespace Go.Proofs.Ytckihflfjecpbaa
open Go.RowKit Go.Sort
set_option maxHeartbeats 400000
set_option maxRecDepth 100000
theorem impl_valueAt (A : Option Addr) (n c : Nat) (xs : List (Int × Int)) (t : Int) (w : World) (hx : RA pt 2 w w.heap.size A n xs) (hok : M.curveOk xs = true) (ht : 0 ≤ t ∧ t ≤ 1000000) :
    Calls Try.prog 96 #[.agg #[.slice A n c], .int .i64 t] w fun e w' => e = .returned (.int .i64 (M.atC xs t)) ∧ Below w.heap.size w w' := by
  have hl := Lib.hid hx.len
  have hn : 1 ≤ n ∧ n ≤ 24 := by have := M.curve_len hok; rw [hl.out] at this; exact this
  have hok' := Lib.hid hok
  clear hok
  obtain ⟨b, o, ⟨x0, x1⟩, rfl, hab, X0, hc⟩ := hx.at pt_len (by decide) (k := 0) (by omega)
  have hc0 : w.cell? ⟨b, o, none⟩ = some (.int .i64 x0) := by have := hc 0 _ rfl; simpa using this
  have hc1 : w.cell? ⟨b, o + 1, none⟩ = some (.int .i64 x1) := by have := hc 1 _ rfl; simpa using this
  clear hc
  have hself := lay_cell w (.slice (some ⟨b, o, none⟩) n c) 30
  have hsize : (w.alloc (.cells #[.slice (some ⟨b, o, none⟩) n c] 30)).heap.size = w.heap.size + 1 := by simp
  have hbw : Below w.heap.size w (w.alloc (.cells #[.slice (some ⟨b, o, none⟩) n c] 30)) := (Below.refl _ _).alloc (Nat.le_refl _) _
  go_enter Try.func96, Try.ntmps96
  go_wp2
  go_loopw [7, 15] (fun _ i wr => ∃ k : Nat, i = .int .i64 k ∧ k ≤ n ∧ (∃ p0 p1, Hid ((k = 0 → p0 = x0 ∧ p1 = x1) ∧ (0 < k → xs[k - 1]? = some (p0, p1) ∧ p0 ≤ t ∧ M.atGo (p0, p1) (xs.drop k) t = M.atC xs t)) ∧
      (wr.cell? ⟨w.heap.size + 1, 0, none⟩ = some (.int .i64 p0) ∧ wr.cell? ⟨w.heap.size + 1, 1, none⟩ = some (.int .i64 p1) ∧ wr.frozen? ⟨w.heap.size + 1, 0, none⟩ = false ∧ wr.frozen? ⟨w.heap.size + 1, 1, none⟩ = false)) ∧
      w.heap.size + 1 + 1 ≤ wr.heap.size ∧ Below (w.heap.size + 1) (w.alloc (.cells #[.slice (some ⟨b, o, none⟩) n c] 30)) wr) (fun _ i _ => n - (intOf i).toNat)
  case atStart =>
    refine ⟨0, rfl, by omega, ⟨x0, x1, Lib.hid ⟨fun _ => ⟨rfl, rfl⟩, fun h => by omega⟩, ?_, ?_, ?_, ?_⟩, by simp, (Below.refl _ _).alloc (by simp) _⟩
    · simp [go_sem]
    · simp [go_sem]
    · simp [go_sem]
    · simp [go_sem]
  case round =>
    obtain ⟨k, rfl, hk, ⟨p0, p1, H, cp0, cp1, fp0, fp1⟩, hsz, hb⟩ := hrel
    have hbb : Below w.heap.size w wr := hbw.trans (hb.mono (by omega))
    have hv : wr.cell? ⟨w.heap.size, 0, none⟩ = some (.slice (some ⟨b, o, none⟩) n c) := by rw [hb.cell (by simp)]; exact hself
    have hbr : b < wr.heap.size := Nat.lt_of_lt_of_le hab hbb.size
    have hBr : w.heap.size + 1 < wr.heap.size := by omega
    by_cases hlt : k < n
    · obtain ⟨⟨q0, q1⟩, X, hc⟩ := (hx.below hbb).cells pt_len (by decide) hlt
      have hd0 : wr.cell? ⟨b, o + k * 2, none⟩ = some (.int .i64 q0) := hc 0 _ rfl
      have hd1 : wr.cell? ⟨b, o + k * 2 + 1, none⟩ = some (.int .i64 q1) := hc 1 _ rfl
      clear hc
      by_cases htq : t < q0
      · by_cases htp : t < p0
        · have hval := Lib.hid (show p1 = M.atC xs t by
            rcases Nat.eq_zero_or_pos k with h0 | h0
            · obtain ⟨rfl, rfl⟩ := H.out.1 h0
              exact (M.atC_low X0.out htp).symm
            · have := (H.out.2 h0).2.1
              omega)
          go_wp2
          go_ret
          exact ⟨ret_int hval.out, hbb.alloc hbb.size _⟩
        · have hk0 : 0 < k := by
            rcases Nat.eq_zero_or_pos k with h0 | h0
            · obtain ⟨rfl, rfl⟩ := H.out.1 h0
              have h1 := X.out
              rw [h0, X0.out] at h1
              simp only [Option.some.injEq, Prod.mk.injEq] at h1
              omega
            · exact h0
          have hval := Lib.hid (show M.seg (p0, p1) (q0, q1) t = M.atC xs t by have := (H.out.2 hk0).2.2; rw [M.atGo_step X.out, if_pos htq] at this; exact this)
          obtain ⟨e1, e2, e3, e4, e5, hA, hB, hC⟩ := M.seg_facts (M.curve_pt hok'.out (H.out.2 hk0).1) (M.curve_pt hok'.out X.out) (M.curve_lt hok'.out hk0 (H.out.2 hk0).1 X.out) ht
          go_wp2
          go_quiet ((go_at_call 95; exact quiet_left (impl_floorDiv _ _ _ hA hB hC)))
          go_wp2
          go_ret
          exact ⟨ret_int hval.out, (hbb.alloc hbb.size _).trans (below_drewN (Below.refl _ _) _)⟩
      · have hval := Lib.hid (show M.atGo (q0, q1) (xs.drop (k + 1)) t = M.atC xs t by
          rcases Nat.eq_zero_or_pos k with h0 | h0
          · subst h0
            exact (M.atC_go X.out htq).symm
          · have := (H.out.2 h0).2.2
            rw [M.atGo_step X.out, if_neg htq] at this
            exact this)
        go_wp2
        go_roundw
        case rel =>
          refine ⟨k + 1, by go_num, by omega, ⟨q0, q1, Lib.hid ⟨fun h => by omega, fun _ => ⟨X.out, by omega, hval.out⟩⟩, ?_, ?_, ?_, ?_⟩, by simp; omega, ((hb.setCell (Nat.le_refl _) _).setCell (Nat.le_refl _) _).alloc (by simp; omega) _⟩
          · simp [go_sem, *]
          · simp [go_sem, *]
          · simp [go_sem, *]
          · simp [go_sem, *]
        case measure => simp [intOf]; omega
    · have hval := Lib.hid (show p1 = M.atC xs t by have := (H.out.2 (by omega)).2.2; rw [M.atGo_end (by rw [hl.out]; omega)] at this; exact this)
      obtain rfl : k = n := by omega
      go_wp2
      go_ret
      exact ⟨ret_int hval.out, hbb⟩
end Go.Proofs.Ytckihflfjecpbaa
