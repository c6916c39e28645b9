import Derived.Test.YtckihflfjecpbaaW34
namespace Go.Proofs.Ytckihflfjecpbaa
open Go.RowKit
set_option maxHeartbeats 400000
theorem M.curve_iff (xs : List (Int × Int)) : M.curveOk xs = true ↔ (∀ p ∈ xs, M.ptOk p = true) ∧ xs.Pairwise (fun p q => p.1 < q.1) ∧ 1 ≤ xs.length ∧ xs.length ≤ 24 := by
  constructor
  · intro h
    have hl := M.curve_len h
    refine ⟨fun p hp => ?_, ?_, hl⟩
    · obtain ⟨i, hi, rfl⟩ := List.getElem_of_mem hp
      have h1 := M.curve_step h hi
      rw [M.stepOk, Bool.and_eq_true, List.getElem?_eq_getElem hi] at h1
      exact h1.1
    · rw [List.pairwise_iff_getElem]
      have key : ∀ d i (hi : i < xs.length) (hj : i + d + 1 < xs.length), (xs[i]).1 < (xs[i + d + 1]).1 := by
        intro d
        induction d with
        | zero => intro i hi hj; exact M.curve_lt h (k := i + 1) (by omega) (by simp [hi]) (List.getElem?_eq_getElem hj)
        | succ d ih =>
          intro i hi hj
          have h1 := ih i hi (by omega)
          have h2 := M.curve_lt h (k := i + d + 1 + 1) (by omega) (by rw [Nat.add_sub_cancel]; exact List.getElem?_eq_getElem (by omega)) (List.getElem?_eq_getElem (i := i + d + 1 + 1) (by omega))
          have e : i + (d + 1) + 1 = i + d + 1 + 1 := by omega
          simp only [e]
          omega
      intro i j hi hj hij
      have := key (j - i - 1) i hi (by omega)
      have e : i + (j - i - 1) + 1 = j := by omega
      simpa only [e] using this
  · rintro ⟨h1, h2, h3, h4⟩
    rw [M.curveOk, Bool.and_eq_true, M.inn_iff, List.all_eq_true]
    refine ⟨fun k hk => ?_, by omega⟩
    have hk := List.mem_range.1 hk
    rw [M.stepOk, Bool.and_eq_true, List.getElem?_eq_getElem hk]
    refine ⟨h1 _ (List.getElem_mem hk), ?_⟩
    rw [M.after, Bool.or_eq_true]
    by_cases h0 : k = 0
    · left; simp [h0]
    · right
      rw [List.getElem?_eq_getElem hk, List.getElem?_eq_getElem (by omega)]
      have := List.pairwise_iff_getElem.1 h2 (k - 1) k (by omega) hk (by omega)
      simpa using this
theorem M.dropP_split {α : Type} {xs : List α} {k : Nat} (hk : k < xs.length) : xs = xs.take k ++ xs[k] :: xs.drop (k + 1) := by
  rw [← List.drop_eq_getElem_cons hk, List.take_append_drop]
theorem M.dropP_sub {α : Type} (xs : List α) (k : Nat) : (M.dropP xs k).Sublist xs := by
  by_cases hk : k < xs.length
  · conv => rhs; rw [M.dropP_split hk]
    exact List.Sublist.append (List.Sublist.refl _) (List.sublist_cons_self _ _)
  · rw [M.dropP, List.drop_eq_nil_of_le (by omega), List.append_nil, List.take_of_length_le (by omega)]
    exact List.Sublist.refl _
theorem M.dropP_ok {xs : List (Int × Int)} {k : Nat} (h : M.curveOk xs = true) (hk : k < xs.length) (h1 : 1 < xs.length) : M.curveOk (M.dropP xs k) = true := by
  rw [M.curve_iff] at h ⊢
  have hs := M.dropP_sub xs k
  rw [M.dropP_len xs hk]
  exact ⟨fun p hp => h.1 p (hs.subset hp), List.Pairwise.sublist hs h.2.1, by omega, by omega⟩
/-- Before the last point of 'a' nothing behind it counts. -/
theorem M.atGo_front (a : List (Int × Int)) (bs cs : List (Int × Int)) (t : Int) (h : ∃ q ∈ a, t < q.1) : ∀ p, M.atGo p (a ++ bs) t = M.atGo p (a ++ cs) t := by
  induction a with
  | nil => obtain ⟨q, hq, _⟩ := h; simp at hq
  | cons x a ih =>
    intro p
    simp only [List.cons_append, M.atGo]
    by_cases hx : t < x.1
    · rw [if_pos hx, if_pos hx]
    · rw [if_neg hx, if_neg hx]
      refine ih ?_ x
      obtain ⟨q, hq, hlt⟩ := h
      rcases List.mem_cons.1 hq with rfl | hq
      · exact absurd hlt hx
      · exact ⟨q, hq, hlt⟩
theorem M.atC_front (a : List (Int × Int)) (bs cs : List (Int × Int)) (t : Int) (h : ∃ q ∈ a, t < q.1) : M.atC (a ++ bs) t = M.atC (a ++ cs) t := by
  cases a with
  | nil => obtain ⟨q, hq, _⟩ := h; simp at hq
  | cons x a =>
    simp only [List.cons_append, M.atC]
    by_cases hx : t < x.1
    · rw [if_pos hx, if_pos hx]
    · rw [if_neg hx, if_neg hx]
      refine M.atGo_front a bs cs t ?_ x
      obtain ⟨q, hq, hlt⟩ := h
      rcases List.mem_cons.1 hq with rfl | hq
      · exact absurd hlt hx
      · exact ⟨q, hq, hlt⟩
/-- From b on nothing before it counts. -/
theorem M.atGo_back (a : List (Int × Int)) (b : Int × Int) (bs : List (Int × Int)) (t : Int) (ha : ∀ q ∈ a, ¬ t < q.1) (hb : ¬ t < b.1) : ∀ p, M.atGo p (a ++ b :: bs) t = M.atGo b bs t := by
  induction a with
  | nil => intro p; rw [List.nil_append, M.atGo, if_neg hb]
  | cons x a ih =>
    intro p
    rw [List.cons_append, M.atGo, if_neg (ha x (by simp))]
    exact ih (fun q hq => ha q (by simp [hq])) x
theorem M.atC_back (a : List (Int × Int)) (b : Int × Int) (bs : List (Int × Int)) (t : Int) (ha : ∀ q ∈ a, ¬ t < q.1) (hb : ¬ t < b.1) : M.atC (a ++ b :: bs) t = M.atGo b bs t := by
  cases a with
  | nil => rw [List.nil_append, M.atC, if_neg hb]
  | cons x a =>
    rw [List.cons_append, M.atC, if_neg (ha x (by simp))]
    exact M.atGo_back a b bs t (fun q hq => ha q (by simp [hq])) hb x
def M.from (xs : List (Int × Int)) (k : Nat) : Int := if 0 < k then ((xs[k - 1]?).getD (0, 0)).1 else 0
def M.to (xs : List (Int × Int)) (k : Nat) : Int := if k + 1 < xs.length then ((xs[k + 1]?).getD (0, 0)).1 else 4000
theorem M.from_bd {xs : List (Int × Int)} {k : Nat} (h : M.curveOk xs = true) (hk : k < xs.length) : 0 ≤ M.from xs k ∧ M.from xs k ≤ 4000 := by
  unfold M.from
  split
  · rw [List.getElem?_eq_getElem (by omega)]
    have := (M.curve_pt h (List.getElem?_eq_getElem (l := xs) (i := k - 1) (by omega))).1
    exact this
  · omega
theorem M.to_bd {xs : List (Int × Int)} {k : Nat} (h : M.curveOk xs = true) : 0 ≤ M.to xs k ∧ M.to xs k ≤ 4000 := by
  unfold M.to
  split
  · rename_i hk
    rw [List.getElem?_eq_getElem hk]
    exact (M.curve_pt h (List.getElem?_eq_getElem hk)).1
  · omega
/-- Outside of the neighbours nothing changes. -/
theorem M.drop_out {xs : List (Int × Int)} {k : Nat} (h : M.curveOk xs = true) (hk : k < xs.length) {t : Int} (h0 : 0 ≤ t) (h4 : t ≤ 4000) (ht : t < M.from xs k ∨ M.to xs k < t) : M.atC xs t = M.atC (M.dropP xs k) t := by
  have hs := M.dropP_split hk
  have hp := ((M.curve_iff xs).1 h).2.1
  rcases ht with ht | ht
  · unfold M.from at ht
    split at ht
    · rename_i hk0
      rw [List.getElem?_eq_getElem (by omega)] at ht
      conv => lhs; rw [hs]
      exact M.atC_front _ _ _ t ⟨xs[k - 1]'(by omega), by rw [List.mem_take_iff_getElem]; exact ⟨k - 1, by omega, rfl⟩, ht⟩
    · omega
  · unfold M.to at ht
    split at ht
    · rename_i hk1
      rw [List.getElem?_eq_getElem hk1] at ht
      have hd : xs.drop (k + 1) = xs[k + 1] :: xs.drop (k + 1 + 1) := List.drop_eq_getElem_cons hk1
      have hb : ¬ t < (xs[k + 1]).1 := by simp at ht; omega
      have hle : ∀ q ∈ xs.take (k + 1), ¬ t < q.1 := by
        intro q hq
        obtain ⟨i, hi, rfl⟩ := List.mem_take_iff_getElem.1 hq
        have := List.pairwise_iff_getElem.1 hp i (k + 1) (by omega) hk1 (by omega)
        omega
      have e1 : M.atC xs t = M.atGo xs[k + 1] (xs.drop (k + 1 + 1)) t := by
        conv => lhs; rw [show xs = xs.take (k + 1) ++ xs[k + 1] :: xs.drop (k + 1 + 1) from M.dropP_split hk1]
        exact M.atC_back _ _ _ t hle hb
      rw [e1, M.dropP, hd, M.atC_back _ _ _ t (fun q hq => hle q ((List.take_subset_take_left xs (by omega)) hq)) hb]
    · omega
def M.idle (xs : List (Int × Int)) (k : Nat) : Bool := decide (1 < xs.length) && decide (M.rend (M.dropP xs k) 4001 = M.rend xs 4001)
theorem M.rend_eq {xs ys : List (Int × Int)} {m : Nat} : M.rend xs m = M.rend ys m ↔ ∀ i : Nat, i < m → M.atC xs (i : Int) = M.atC ys (i : Int) := by
  constructor
  · intro h i hi
    have h1 := M.rend_at (xs := xs) hi
    rw [h, M.rend_at hi] at h1
    injection h1 with h1
    exact h1.symm
  · intro h
    apply List.ext_getElem?
    intro i
    by_cases hi : i < m
    · rw [M.rend_at hi, M.rend_at hi, h i hi]
    · rw [List.getElem?_eq_none (by rw [M.rend_len]; omega), List.getElem?_eq_none (by rw [M.rend_len]; omega)]
theorem M.idle_iff {xs : List (Int × Int)} {k : Nat} (h : M.curveOk xs = true) (hk : k < xs.length) (h1 : 1 < xs.length) : M.idle xs k = true ↔ ∀ t : Int, M.from xs k ≤ t → t ≤ M.to xs k → M.atC xs t = M.atC (M.dropP xs k) t := by
  have hf := M.from_bd h hk
  have ht := M.to_bd (k := k) h
  rw [M.idle, decide_eq_true h1, Bool.true_and, decide_eq_true_iff, M.rend_eq]
  constructor
  · intro g t h2 h3
    have := g t.toNat (by omega)
    rw [Int.toNat_of_nonneg (by omega)] at this
    exact this.symm
  · intro g i hi
    by_cases h2 : (i : Int) < M.from xs k ∨ M.to xs k < i
    · exact (M.drop_out h hk (by omega) (by omega) h2).symm
    · exact (g i (by omega) (by omega)).symm
end Go.Proofs.Ytckihflfjecpbaa
