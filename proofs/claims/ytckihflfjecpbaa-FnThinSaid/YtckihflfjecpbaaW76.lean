import Derived.Test.YtckihflfjecpbaaW75
namespace Go.Proofs.Ytckihflfjecpbaa
open Go.RowKit
set_option maxHeartbeats 2000000
set_option maxRecDepth 100000
def M.clampT (d : Int) : Int := max (-8000) (min 8000 d)
theorem M.clampT_bd (d : Int) : -8000 ≤ M.clampT d ∧ M.clampT d ≤ 8000 := by unfold M.clampT; omega
def M.shiftP (xs : List (Int × Int)) (d : Int) : List (Int × Int) := xs.map fun p => (p.1 + d, p.2)
def M.shiftR (xs : List (Int × Int)) (d : Int) : List (Int × Int) × Int := if M.curveOk xs then (if M.curveOk (M.shiftP xs (M.clampT d)) then (M.shiftP xs (M.clampT d), 0) else ([], 2)) else ([], 1)
theorem M.shiftP_len (xs : List (Int × Int)) (d : Int) : (M.shiftP xs d).length = xs.length := by simp [M.shiftP]
theorem M.shiftP_at {xs : List (Int × Int)} {k : Nat} {p : Int × Int} (d : Int) (h : xs[k]? = some p) : (M.shiftP xs d)[k]? = some (p.1 + d, p.2) := by simp [M.shiftP, h]
theorem M.seg_shift (p q : Int × Int) (t d : Int) : M.seg (p.1 + d, p.2) (q.1 + d, q.2) (t + d) = M.seg p q t := by
  unfold M.seg
  simp only
  rw [show t + d - (p.1 + d) = t - p.1 by omega, show q.1 + d - (p.1 + d) = q.1 - p.1 by omega]
theorem M.atGo_shift (qs : List (Int × Int)) (t d : Int) : ∀ p : Int × Int, M.atGo (p.1 + d, p.2) (M.shiftP qs d) (t + d) = M.atGo p qs t := by
  induction qs with
  | nil => intro p; rfl
  | cons q qs ih =>
    intro p
    show M.atGo (p.1 + d, p.2) ((q.1 + d, q.2) :: M.shiftP qs d) (t + d) = _
    rw [M.atGo, M.atGo, M.seg_shift, ih q]
    simp only
    by_cases h : t < q.1
    · rw [if_pos h, if_pos (by omega)]
    · rw [if_neg h, if_neg (by omega)]
theorem M.atC_shift (xs : List (Int × Int)) (t d : Int) : M.atC (M.shiftP xs d) (t + d) = M.atC xs t := by
  cases xs with
  | nil => rfl
  | cons p qs =>
    show M.atC ((p.1 + d, p.2) :: M.shiftP qs d) (t + d) = _
    rw [M.atC, M.atC, M.atGo_shift]
    simp only
    by_cases h : t < p.1
    · rw [if_pos h, if_pos (by omega)]
    · rw [if_neg h, if_neg (by omega)]
theorem M.shift_ok {xs : List (Int × Int)} {d : Int} (h : M.curveOk xs = true) (hb : ∀ p ∈ xs, 0 ≤ p.1 + d ∧ p.1 + d ≤ 4000) : M.curveOk (M.shiftP xs d) = true := by
  rw [M.curve_iff] at h ⊢
  obtain ⟨h1, h2, h3⟩ := h
  refine ⟨fun p hp => ?_, ?_, by rw [M.shiftP_len]; exact h3⟩
  · obtain ⟨q, hq, rfl⟩ := List.mem_map.1 hp
    have g1 := h1 q hq
    have g2 := hb q hq
    rw [M.ptOk, Bool.and_eq_true, M.inn_iff, M.inn_iff] at g1 ⊢
    exact ⟨g2, g1.2⟩
  · rw [M.shiftP, List.pairwise_map]
    exact h2.imp fun {a b} hab => by simp only; omega
theorem M.shift_back (xs : List (Int × Int)) (d : Int) : M.shiftP (M.shiftP xs d) (-d) = xs := by
  rw [M.shiftP, M.shiftP, List.map_map]
  conv => rhs; rw [← List.map_id xs]
  refine List.map_congr_left fun p _ => ?_
  simp only [Function.comp, id]
  rw [Int.add_neg_cancel_right]
/-- What FnShifted asks. -/
theorem M.shifted {xs : List (Int × Int)} {d : Int} (h : M.curveOk xs = true) (hb : ∀ p ∈ xs, p.1 ≤ 100) (hd : 0 ≤ d ∧ d ≤ 100) :
    M.curveOk (M.shiftP xs d) = true ∧ M.shiftR xs d = (M.shiftP xs d, 0) ∧ M.shiftR (M.shiftP xs d) (-d) = (xs, 0) := by
  have hp : ∀ p ∈ xs, 0 ≤ p.1 + d ∧ p.1 + d ≤ 4000 := fun p hp => by
    have h1 := ((M.curve_iff xs).1 h).1 p hp
    have h2 := hb p hp
    rw [M.ptOk, Bool.and_eq_true, M.inn_iff, M.inn_iff] at h1
    omega
  have h1 := M.shift_ok h hp
  have c1 : M.clampT d = d := by unfold M.clampT; omega
  have c2 : M.clampT (-d) = -d := by unfold M.clampT; omega
  refine ⟨h1, ?_, ?_⟩
  · rw [M.shiftR, h, c1, h1]; rfl
  · rw [M.shiftR, h1, c2, M.shift_back, h]; rfl
theorem M.apply_full {x : Int} (h : -2147483648 ≤ x ∧ x ≤ 2147483647) : wrap32 (x * 65536 / 65536) = x := by
  rw [Int.mul_ediv_cancel _ (by decide)]
  unfold wrap32
  omega
theorem M.apply_none (x : Int) : wrap32 (x * 0 / 65536) = 0 := by
  rw [Int.mul_zero, Int.zero_ediv]
  unfold wrap32
  omega
end Go.Proofs.Ytckihflfjecpbaa
