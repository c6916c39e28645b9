import Derived.Test.YtckihflfjecpbaaW20
namespace Go.Proofs.Ytckihflfjecpbaa
open Go.RowKit
set_option maxHeartbeats 400000
set_option maxRecDepth 100000
theorem kept_all {B : Nat} {w w1 w2 : World} (h1 : Below B w1 w2) (hB : B = w1.heap.size) (h0 : Below w.heap.size w w1) : Below w.heap.size w w2 := by
  subst hB
  exact h0.trans (h1.mono h0.size)
theorem kept {B : Nat} {w w1 w2 : World} {b o : Nat} {u : Value} (h1 : Below B w1 w2) (hB : B = w1.heap.size) (h0 : Below w.heap.size w w1) (h : w.cell? ⟨b, o, none⟩ = some u) (hb : b < w.heap.size) : w2.cell? ⟨b, o, none⟩ = some u := by
  subst hB
  rw [h1.cell (by simpa using Nat.lt_of_lt_of_le hb h0.size), h0.cell (by simpa using hb)]
  exact h
def peq (x y : Int × Int) : Bool := decide (x = y)
theorem laws_eqCurvePoint (a b c d : Int) (w : World) :
    Calls Try.prog 129 #[.agg #[.int .i64 a, .int .i64 b], .agg #[.int .i64 c, .int .i64 d]] w fun e w' => e = .returned (.bool (peq (a, b) (c, d))) ∧ Below w.heap.size w w' := by
  have hb : Below w.heap.size w ((w.alloc (.cells #[.int .i64 a, .int .i64 b] 34)).alloc (.cells #[.int .i64 c, .int .i64 d] 34)) := ((Below.refl _ _).alloc (Nat.le_refl _) _).alloc (by simp) _
  by_cases h1 : a = c
  · by_cases h2 : b = d
    · subst h1 h2
      go_enter Try.func129, Try.ntmps129
      go_wp2
      go_ret
      exact ⟨ret_bool (by simp [peq]), hb⟩
    · have h2' : (b == d) = false := by simpa using h2
      subst h1
      go_enter Try.func129, Try.ntmps129
      go_wp2
      go_ret
      exact ⟨ret_bool (by simp [peq, h2]), hb⟩
  · have h1' : (a == c) = false := by simpa using h1
    go_enter Try.func129, Try.ntmps129
    go_wp2
    go_ret
    exact ⟨ret_bool (by simp [peq, h1]), hb⟩
theorem laws_eqCurvePointS (A A' : Option Addr) (n c n' c' : Nat) (xs ys : List (Int × Int)) (w : World) (hx : RA pt 2 w w.heap.size A n xs) (hy : RA pt 2 w w.heap.size A' n' ys) (hn : n ≤ 1000000000) :
    Calls Try.prog 76 #[.slice A n c, .slice A' n' c'] w fun e w' => e = .returned (.bool (decide (xs = ys))) ∧ Below w.heap.size w w' := by
  have hl := Lib.hid hx.len
  have hl' := Lib.hid hy.len
  by_cases hnn : n = n'
  · subst hnn
    go_enter Try.func76, Try.ntmps76
    go_wp2
    go_loopw [5] (fun i wr => ∃ k : Nat, i = .int .i64 k ∧ k ≤ n ∧ Hid (xs.take k = ys.take k) ∧ Below w.heap.size w wr) (fun i _ => n - (intOf i).toNat)
    case atStart => exact ⟨0, rfl, by omega, Lib.hid (by simp), Below.refl _ _⟩
    case round =>
      obtain ⟨k, rfl, hk, H, hb⟩ := hrel
      by_cases hlt : k < n
      · obtain ⟨b, o, ⟨p0, p1⟩, rfl, hab, X, hc⟩ := (hx.below hb).at pt_len (by decide) hlt
        obtain ⟨b', o', ⟨q0, q1⟩, rfl, hab', Y, hc'⟩ := (hy.below hb).at pt_len (by decide) hlt
        have hc0 : wr.cell? ⟨b, o + k * 2, none⟩ = some (.int .i64 p0) := hc 0 _ rfl
        have hc1 : wr.cell? ⟨b, o + k * 2 + 1, none⟩ = some (.int .i64 p1) := hc 1 _ rfl
        have hd0 : wr.cell? ⟨b', o' + k * 2, none⟩ = some (.int .i64 q0) := hc' 0 _ rfl
        have hd1 : wr.cell? ⟨b', o' + k * 2 + 1, none⟩ = some (.int .i64 q1) := hc' 1 _ rfl
        have hbr : b < wr.heap.size := Nat.lt_of_lt_of_le hab hb.size
        have hbr' : b' < wr.heap.size := Nat.lt_of_lt_of_le hab' hb.size
        clear hc hc'
        cases hq : peq (p0, p1) (q0, q1)
        · have hne := Lib.hid (show ¬ xs = ys from fun e => by have h1 := X.out; have h2 := Y.out; rw [e, h2] at h1; injection h1 with h1; rw [h1] at hq; simp [peq] at hq)
          go_wp2
          go_region_held3 (fun w' => Below wr.heap.size wr w' ∧ w'.cell? ⟨b, o + k * 2, none⟩ = some (.int .i64 p0) ∧ w'.cell? ⟨b, o + k * 2 + 1, none⟩ = some (.int .i64 p1) ∧ w'.cell? ⟨b', o' + k * 2, none⟩ = some (.int .i64 q0) ∧ w'.cell? ⟨b', o' + k * 2 + 1, none⟩ = some (.int .i64 q1))
            (first
              | exact ⟨below_drewN (Below.refl _ _) _, hc0, hc1, hd0, hd1⟩
              | exact ⟨kept_all bel2 rfl (And.left (by assumption)), kept bel2 rfl (And.left (by assumption)) hc0 hbr, kept bel2 rfl (And.left (by assumption)) hc1 hbr, kept bel2 rfl (And.left (by assumption)) hd0 hbr', kept bel2 rfl (And.left (by assumption)) hd1 hbr'⟩)
            (first | (go_at_call 129; refine (laws_eqCurvePoint _ _ _ _ _).mono ?_; rintro e w2 ⟨rfl, bel2⟩))
          go_wp2
          go_ret
          exact ⟨ret_bool (by simp [hne.out]), hb.trans ((kept_all bel2 rfl (below_drewN (Below.refl _ _) _)).mono hb.size)⟩
        · have he := Lib.hid (show (p0, p1) = (q0, q1) by simpa [peq] using hq)
          go_wp2
          go_region_held3 (fun w' => Below wr.heap.size wr w' ∧ w'.cell? ⟨b, o + k * 2, none⟩ = some (.int .i64 p0) ∧ w'.cell? ⟨b, o + k * 2 + 1, none⟩ = some (.int .i64 p1) ∧ w'.cell? ⟨b', o' + k * 2, none⟩ = some (.int .i64 q0) ∧ w'.cell? ⟨b', o' + k * 2 + 1, none⟩ = some (.int .i64 q1))
            (first
              | exact ⟨below_drewN (Below.refl _ _) _, hc0, hc1, hd0, hd1⟩
              | exact ⟨kept_all bel2 rfl (And.left (by assumption)), kept bel2 rfl (And.left (by assumption)) hc0 hbr, kept bel2 rfl (And.left (by assumption)) hc1 hbr, kept bel2 rfl (And.left (by assumption)) hd0 hbr', kept bel2 rfl (And.left (by assumption)) hd1 hbr'⟩)
            (first | (go_at_call 129; refine (laws_eqCurvePoint _ _ _ _ _).mono ?_; rintro e w2 ⟨rfl, bel2⟩))
          go_wp2
          go_roundw
          case rel => exact ⟨k + 1, by go_num, by omega, Lib.hid (by rw [M.take_at X.out, M.take_at Y.out, H.out, he.out]), hb.trans ((kept_all bel2 rfl (below_drewN (Below.refl _ _) _)).mono hb.size)⟩
          case measure => simp [intOf]; omega
      · go_wp2
        go_ret
        have h1 : xs = ys := by have := H.out; rwa [List.take_of_length_le (by rw [hl.out]; omega), List.take_of_length_le (by rw [hl'.out]; omega)] at this
        exact ⟨ret_bool (by simp [h1]), hb⟩
  · have hne := Lib.hid (show ¬ xs = ys from fun e => hnn (by rw [← hl.out, ← hl'.out, e]))
    go_enter Try.func76, Try.ntmps76
    go_wp2
    go_ret
    exact ⟨ret_bool (by simp [hne.out]), Below.refl _ _⟩
theorem laws_eqCurve (A A' : Option Addr) (n c n' c' : Nat) (xs ys : List (Int × Int)) (w : World) (hx : RA pt 2 w w.heap.size A n xs) (hy : RA pt 2 w w.heap.size A' n' ys) (hn : n ≤ 1000000000) :
    Calls Try.prog 22 #[.agg #[.slice A n c], .agg #[.slice A' n' c']] w fun e w' => e = .returned (.bool (decide (xs = ys))) ∧ Below w.heap.size w w' := by
  have hb2 : Below w.heap.size w ((w.alloc (.cells #[.slice A n c] 30)).alloc (.cells #[.slice A' n' c'] 30)) := ((Below.refl _ _).alloc (Nat.le_refl _) _).alloc (by simp) _
  have hx2 := hx.later hb2
  have hy2 := hy.later hb2
  cases hq : decide (xs = ys)
  all_goals
    have hi := Lib.hid hq
    clear hq
    go_enter Try.func22, Try.ntmps22
    go_wp2_with (go_at_call 76; refine (laws_eqCurvePointS _ _ _ _ _ _ _ _ _ hx2 hy2 hn).mono ?_; rw [hi.out]; rintro e w2 ⟨rfl, bel2⟩)
    go_ret
    exact ⟨rfl, hb2.trans (bel2.mono hb2.size)⟩
end Go.Proofs.Ytckihflfjecpbaa
