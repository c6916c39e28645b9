import Derived.Test.YtckihflfjecpbaaW25
namespace Go.Proofs.Ytckihflfjecpbaa
open Go.RowKit Go.Sort
set_option maxHeartbeats 400000
set_option maxRecDepth 100000
def M.seg (p q : Int × Int) (t : Int) : Int := p.2 + (q.2 - p.2) * (t - p.1) / (q.1 - p.1)
def M.atGo : (Int × Int) → List (Int × Int) → Int → Int
  | p, [], _ => p.2
  | p, q :: qs, t => if t < q.1 then M.seg p q t else M.atGo q qs t
def M.atC : List (Int × Int) → Int → Int
  | [], _ => 0
  | p :: qs, t => if t < p.1 then p.2 else M.atGo p qs t
theorem M.inn_iff {n a b : Int} : M.inn n a b = true ↔ a ≤ n ∧ n ≤ b := by simp [M.inn]
theorem M.curve_len {xs : List (Int × Int)} (h : M.curveOk xs = true) : 1 ≤ xs.length ∧ xs.length ≤ 24 := by
  rw [M.curveOk, Bool.and_eq_true, M.inn_iff] at h
  omega
theorem M.curve_step {xs : List (Int × Int)} (h : M.curveOk xs = true) {k : Nat} (hk : k < xs.length) : M.stepOk xs k = true := by
  rw [M.curveOk, Bool.and_eq_true, List.all_eq_true] at h
  exact h.1 k (List.mem_range.2 hk)
theorem M.curve_pt {xs : List (Int × Int)} (h : M.curveOk xs = true) {k : Nat} {p : Int × Int} (hk : xs[k]? = some p) : (0 ≤ p.1 ∧ p.1 ≤ 4000) ∧ -65536 ≤ p.2 ∧ p.2 ≤ 65536 := by
  have h1 := M.curve_step h (List.getElem?_eq_some_iff.1 hk).1
  rw [M.stepOk, Bool.and_eq_true, hk] at h1
  have h2 := h1.1
  rw [Option.getD_some, M.ptOk, Bool.and_eq_true, M.inn_iff, M.inn_iff] at h2
  exact h2
theorem M.curve_lt {xs : List (Int × Int)} (h : M.curveOk xs = true) {k : Nat} {p q : Int × Int} (h0 : 0 < k) (hp : xs[k - 1]? = some p) (hq : xs[k]? = some q) : p.1 < q.1 := by
  have h1 := M.curve_step h (List.getElem?_eq_some_iff.1 hq).1
  rw [M.stepOk, Bool.and_eq_true, M.after, hp, hq] at h1
  have h2 := h1.2
  simp at h2
  rcases h2 with h2 | h2
  · omega
  · exact h2
theorem M.atGo_step {xs : List (Int × Int)} {k : Nat} {p q : Int × Int} {t : Int} (hq : xs[k]? = some q) : M.atGo p (xs.drop k) t = if t < q.1 then M.seg p q t else M.atGo q (xs.drop (k + 1)) t := by
  obtain ⟨hl, he⟩ := List.getElem?_eq_some_iff.1 hq
  rw [List.drop_eq_getElem_cons hl, he, M.atGo]
theorem M.atGo_end {xs : List (Int × Int)} {k : Nat} {p : Int × Int} {t : Int} (hk : xs.length ≤ k) : M.atGo p (xs.drop k) t = p.2 := by
  rw [List.drop_eq_nil_of_le hk, M.atGo]
theorem M.atC_go {xs : List (Int × Int)} {p : Int × Int} {t : Int} (hp : xs[0]? = some p) (ht : ¬ t < p.1) : M.atC xs t = M.atGo p (xs.drop 1) t := by
  cases xs with
  | nil => simp at hp
  | cons x ys =>
    simp only [List.getElem?_cons_zero, Option.some.injEq] at hp
    subst hp
    rw [M.atC, if_neg ht]
    rfl
theorem M.atC_low {xs : List (Int × Int)} {p : Int × Int} {t : Int} (hp : xs[0]? = some p) (ht : t < p.1) : M.atC xs t = p.2 := by
  cases xs with
  | nil => simp at hp
  | cons x ys =>
    simp only [List.getElem?_cons_zero, Option.some.injEq] at hp
    subst hp
    rw [M.atC, if_pos ht]
theorem M.seg_at (p q : Int × Int) : M.seg p q p.1 = p.2 := by simp [M.seg]
theorem M.atC_first {xs : List (Int × Int)} (h : M.curveOk xs = true) {p : Int × Int} {t : Int} (hp : xs[0]? = some p) (ht : t ≤ p.1) : M.atC xs t = p.2 := by
  by_cases h1 : t < p.1
  · exact M.atC_low hp h1
  · obtain rfl : t = p.1 := by omega
    rw [M.atC_go hp h1]
    by_cases h2 : 1 < xs.length
    · have hq := List.getElem?_eq_getElem h2
      rw [M.atGo_step hq, if_pos (M.curve_lt h (by omega) hp hq), M.seg_at]
    · rw [M.atGo_end (by omega)]
theorem M.mul_bound {a b x y : Int} (ha : -x ≤ a ∧ a ≤ x) (hb : -y ≤ b ∧ b ≤ y) (hx : 0 ≤ x) : -(x * y) ≤ a * b ∧ a * b ≤ x * y := by
  have h1 : a.natAbs * b.natAbs ≤ x.natAbs * y.natAbs := Nat.mul_le_mul (by omega) (by omega)
  have h2 : (a * b).natAbs ≤ (x * y).natAbs := by rw [Int.natAbs_mul, Int.natAbs_mul]; exact h1
  have h3 : 0 ≤ x * y := Int.mul_nonneg hx (by omega)
  omega
theorem M.div_small {a b c : Int} (ha : -c ≤ a ∧ a ≤ c) (hb : 0 < b) (hc : 0 ≤ c) : -c ≤ a / b ∧ a / b ≤ c := by
  have h0 : c * 1 ≤ c * b := Int.mul_le_mul_of_nonneg_left (by omega) hc
  constructor
  · refine Int.le_ediv_of_mul_le hb ?_
    rw [Int.neg_mul]
    omega
  · refine Int.ediv_le_of_le_mul hb ?_
    omega
end Go.Proofs.Ytckihflfjecpbaa
