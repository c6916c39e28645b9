import Derived.Test.YtckihflfjecpbaaW21
namespace Go.Proofs.Ytckihflfjecpbaa
open Go.RowKit
set_option maxHeartbeats 400000
set_option maxRecDepth 100000
theorem laws_markCurvePointS (v : Value) (lo hi n : Nat) (k : Int) (xs : List (Int × Int)) (w : World) (hx : OA pt 34 2 lo hi w v xs) (hn : xs.length = n) (hl : n ≤ 1000000000) (hk : 0 ≤ k ∧ k ≤ 1000000000) :
    Calls Try.prog 77 #[v, .int .i64 k] w fun e w' => e = .returned (.int .i64 (k + 2 * n)) ∧ OA pt 34 2 lo hi w' v (rampP k n) ∧ Mid lo hi w w' := by
  have hl' := Lib.hid hn
  obtain ⟨A, c, rfl, hrr⟩ := hx.shape
  rw [hn]
  rw [hn] at hx
  clear hrr hn
  go_enter Try.func77, Try.ntmps77
  go_wp2
  go_loopw [1, 5] (fun q i wr => ∃ j : Nat, i = .int .i64 j ∧ j ≤ n ∧ q = .int .i64 (k + 2 * j) ∧ OA pt 34 2 lo hi wr (.slice A n c) ((rampP k n).take j ++ xs.drop j) ∧ Mid lo hi w wr)
    (fun _ i _ => n - (intOf i).toNat)
  case atStart => exact ⟨0, rfl, by omega, by go_num, by simpa using hx, Mid.refl _ _ _⟩
  case round =>
    obtain ⟨j, rfl, hj, rfl, own, hg⟩ := hrel
    by_cases hlt : j < n
    · obtain ⟨g, rfl, hB, hgl, hgs, -⟩ := own.form (by omega)
      have hjx : j < xs.length := by rw [hl'.out]; exact hlt
      obtain ⟨⟨y0, y1⟩, hy⟩ : ∃ y, xs[j]? = some y := ⟨_, List.getElem?_eq_getElem hjx⟩
      have hD := Lib.hid (show ((rampP k n).take j ++ xs.drop j)[j]? = some (y0, y1) by rw [M.mid_at (by rw [rampP_len, hl'.out])]; exact hy)
      have q0 := (OA.cell pt_len own hD.out (j := 0) (u := .int .i64 y0) rfl).1
      have r0 := (OA.cell pt_len own hD.out (j := 0) (u := .int .i64 y0) rfl).2
      have q1 := (OA.cell pt_len own hD.out (j := 1) (u := .int .i64 y1) rfl).1
      have r1 := (OA.cell pt_len own hD.out (j := 1) (u := .int .i64 y1) rfl).2
      rw [Nat.add_zero] at q0 r0
      clear hy
      go_wp2
      go_roundw
      case rel =>
        have h2 := OA.set pt_len own hD.out (j := 0) (y := (k + 2 * (j : Int), y1)) (u := .int .i64 (k + 2 * (j : Int))) (by decide) rfl
        have h3 := OA.set pt_len h2.1 (k := j) (x := (k + 2 * (j : Int), y1)) (j := 1) (y := (k + 2 * (j : Int), k + 2 * (j : Int) + 1)) (u := .int .i64 (k + 2 * (j : Int) + 1)) (by rw [List.getElem?_set_self]; exact (List.getElem?_eq_some_iff.1 hD.out).1) (by decide) rfl
        rw [List.set_set, M.set_mid (by rw [rampP_len, hl'.out]) (rampP_at hlt)] at h3
        exact ⟨j + 1, by go_num, by omega, by go_num, h3.1, (hg.trans h2.2).trans h3.2⟩
      case measure => simp [intOf]; omega
    · obtain rfl : j = n := by omega
      go_wp2
      go_ret
      refine ⟨rfl, ?_, hg⟩
      rw [List.take_of_length_le (by rw [rampP_len]; omega), List.drop_eq_nil_of_le (by rw [hl'.out]; omega), List.append_nil] at own
      exact own
theorem laws_heldCurvePointS (A : Option Addr) (n c : Nat) (k : Int) (w : World) (hx : RA pt 2 w w.heap.size A n (rampP k n)) (hn : n ≤ 1000000000) (hk : 0 ≤ k ∧ k ≤ 1000000000) :
    Calls Try.prog 78 #[.slice A n c, .int .i64 k] w fun e w' => e = .returned (.int .i64 (k + 2 * n)) ∧ w = w' := by
  go_enter Try.func78, Try.ntmps78
  go_wp2
  go_loop [1, 5] (fun q i => ∃ j : Nat, i = .int .i64 j ∧ j ≤ n ∧ q = .int .i64 (k + 2 * j)) (fun _ i => n - (intOf i).toNat)
  case atStart => exact ⟨0, rfl, by omega, by go_num⟩
  case round =>
    obtain ⟨j, rfl, hj, rfl⟩ := hrel
    by_cases hlt : j < n
    · obtain ⟨b, o, x, rfl, hab, X, hc⟩ := hx.at pt_len (by decide) hlt
      have hxj : x = (k + 2 * (j : Int), k + 2 * (j : Int) + 1) := by have := X.out; rw [rampP_at hlt] at this; injection this with this; exact this.symm
      subst hxj
      have hc0 : w.cell? ⟨b, o + j * 2, none⟩ = some (.int .i64 (k + 2 * (j : Int))) := hc 0 _ rfl
      have hc1 : w.cell? ⟨b, o + j * 2 + 1, none⟩ = some (.int .i64 (k + 2 * (j : Int) + 1)) := hc 1 _ rfl
      clear hc
      go_wp2
      go_round
      case rel => exact ⟨j + 1, by go_num, by omega, by go_num⟩
      case measure => simp [intOf]; omega
    · obtain rfl : j = n := by omega
      go_wp2
      go_ret
      exact ⟨rfl, rfl⟩
theorem laws_markCurve (v : Value) (lo hi n : Nat) (k : Int) (xs : List (Int × Int)) (w : World) (hx : OA pt 34 2 lo hi w v xs) (hh : hi ≤ w.heap.size) (hn : xs.length = n) (hl : n ≤ 1000000000) (hk : 0 ≤ k ∧ k ≤ 1000000000) :
    Calls Try.prog 23 #[.agg #[v], .int .i64 k] w fun e w' => e = .returned (.int .i64 (k + 2 * n)) ∧ OA pt 34 2 lo hi w' v (rampP k n) ∧ Mid lo hi w w' := by
  have hl' := Lib.hid hn
  obtain ⟨A, c, rfl, hrr⟩ := hx.shape
  rw [hn]
  rw [hn] at hx
  clear hrr hn
  have hb : Below w.heap.size w (w.alloc (.cells #[.slice A n c] 30)) := (Below.refl _ _).alloc (Nat.le_refl _) _
  have hx2 := hx.below hb hh
  go_enter Try.func23, Try.ntmps23
  go_wp2_with (go_at_call 77; refine (laws_markCurvePointS _ _ _ _ _ _ _ hx2 hl'.out hl hk).mono ?_; rintro e w2 ⟨rfl, own2, m2⟩)
  go_ret
  exact ⟨rfl, own2, (Mid.of_below hb _ _).trans m2⟩
theorem laws_heldCurve (A : Option Addr) (n c : Nat) (k : Int) (w : World) (hx : RA pt 2 w w.heap.size A n (rampP k n)) (hn : n ≤ 1000000000) (hk : 0 ≤ k ∧ k ≤ 1000000000) :
    Calls Try.prog 24 #[.agg #[.slice A n c], .int .i64 k] w fun e w' => e = .returned (.int .i64 (k + 2 * n)) ∧ Below w.heap.size w w' := by
  have hb : Below w.heap.size w (w.alloc (.cells #[.slice A n c] 30)) := (Below.refl _ _).alloc (Nat.le_refl _) _
  have hx2 := hx.later hb
  go_enter Try.func24, Try.ntmps24
  go_wp2_with (go_at_call 78; refine (laws_heldCurvePointS _ _ _ _ _ hx2 hn hk).mono ?_; rintro e w2 ⟨rfl, rfl⟩)
  go_ret
  exact ⟨rfl, hb⟩
end Go.Proofs.Ytckihflfjecpbaa
