import Derived.Test.YtckihflfjecpbaaW76
import Derived.Test.YtckihflfjecpbaaW38
namespace Go.Proofs.Ytckihflfjecpbaa
open Go.RowKit
set_option maxHeartbeats 2000000
set_option maxRecDepth 100000
/-- What thinning leaves: no point of it is idle. -/
theorem M.thin_none : ∀ (xs : List (Int × Int)) (k : Nat), (∀ j, j < k → M.idle xs j = false) → ∀ j, j < (M.thinGo xs k).length → M.idle (M.thinGo xs k) j = false := by
  intro xs k
  induction xs, k using M.thinGo.induct with
  | case1 xs k hk hi ih =>
    intro _
    rw [M.thin_yes hk hi]
    exact ih (by omega)
  | case2 xs k hk hi ih =>
    intro h
    rw [M.thin_no hk (by simpa using hi)]
    refine ih fun j hj => ?_
    by_cases e : j = k
    · subst e; simpa using hi
    · exact h j (by omega)
  | case3 xs k hk =>
    intro h
    rw [M.thin_end hk]
    exact fun j hj => h j (by omega)
theorem M.thin_fix {xs : List (Int × Int)} (h : ∀ j, j < xs.length → M.idle xs j = false) : ∀ d k, k + d = xs.length → M.thinGo xs k = xs := by
  intro d
  induction d with
  | zero => intro k hk; exact M.thin_end (by omega)
  | succ d ih => intro k hk; rw [M.thin_no (by omega) (h k (by omega))]; exact ih (k + 1) (by omega)
theorem M.thin_sub : ∀ (xs : List (Int × Int)) (k : Nat), (M.thinGo xs k).Sublist xs := by
  intro xs k
  induction xs, k using M.thinGo.induct with
  | case1 xs k hk hi ih => rw [M.thin_yes hk hi]; exact ih.trans (M.dropP_sub xs k)
  | case2 xs k hk hi ih => rw [M.thin_no hk (by simpa using hi)]; exact ih
  | case3 xs k hk => rw [M.thin_end hk]; exact List.Sublist.refl _
theorem M.thin_ok : ∀ (xs : List (Int × Int)) (k : Nat), M.curveOk xs = true → M.curveOk (M.thinGo xs k) = true ∧ M.rend (M.thinGo xs k) 4001 = M.rend xs 4001 := by
  intro xs k
  induction xs, k using M.thinGo.induct with
  | case1 xs k hk hi ih =>
    intro h
    rw [M.thin_yes hk hi]
    have := ih (M.dropP_ok h hk (M.idle_len hi))
    exact ⟨this.1, this.2.trans (M.idle_rend hi)⟩
  | case2 xs k hk hi ih => intro h; rw [M.thin_no hk (by simpa using hi)]; exact ih h
  | case3 xs k hk => intro h; rw [M.thin_end hk]; exact ⟨h, rfl⟩
/-- Behind the last point a curve is constant. -/
theorem M.atGo_far (qs : List (Int × Int)) (t u : Int) : ∀ p : Int × Int, (∀ q ∈ qs, q.1 ≤ t ∧ q.1 ≤ u) → M.atGo p qs t = M.atGo p qs u := by
  induction qs with
  | nil => intro p _; rfl
  | cons q qs ih =>
    intro p h
    have hq := h q (by simp)
    rw [M.atGo, M.atGo, if_neg (by omega), if_neg (by omega)]
    exact ih q fun r hr => h r (by simp [hr])
theorem M.atC_far {xs : List (Int × Int)} {t u : Int} (h : ∀ q ∈ xs, q.1 ≤ t ∧ q.1 ≤ u) : M.atC xs t = M.atC xs u := by
  cases xs with
  | nil => rfl
  | cons p qs =>
    have hp := h p (by simp)
    rw [M.atC, M.atC, if_neg (by omega), if_neg (by omega)]
    exact M.atGo_far qs t u p fun r hr => h r (by simp [hr])
theorem M.rend_short {xs ys : List (Int × Int)} (hx : ∀ q ∈ xs, q.1 ≤ 100) (hy : ∀ q ∈ ys, q.1 ≤ 100) (h : M.rend xs 120 = M.rend ys 120) : M.rend xs 4001 = M.rend ys 4001 := by
  rw [M.rend_eq] at h ⊢
  intro i hi
  by_cases h1 : i < 120
  · exact h i h1
  · rw [M.atC_far (xs := xs) (t := (i : Int)) (u := ((110 : Nat) : Int)) fun q hq => by have := hx q hq; omega, M.atC_far (xs := ys) (t := (i : Int)) (u := ((110 : Nat) : Int)) fun q hq => by have := hy q hq; omega]
    exact h 110 (by omega)
theorem M.rend_take {xs ys : List (Int × Int)} (h : M.rend xs 4001 = M.rend ys 4001) : M.rend xs 120 = M.rend ys 120 := by
  rw [M.rend_eq] at h ⊢
  exact fun i hi => h i (by omega)
/-- What FnThin asks. -/
theorem M.thinned {xs : List (Int × Int)} (h : M.curveOk xs = true) (hb : ∀ p ∈ xs, p.1 ≤ 100) : ∃ ys, M.thinR xs = (ys, 0) ∧ M.curveOk ys = true ∧ ys.length ≤ xs.length ∧ M.rendR xs 120 = (M.rend xs 120, 0) ∧ M.rendR ys 120 = (M.rend xs 120, 0) ∧ M.thinR ys = (ys, 0) ∧
    ∀ k : Nat, k < ys.length → 1 < ys.length → M.dropR ys k = (M.dropP ys k, 0) ∧ M.rendR (M.dropP ys k) 120 = (M.rend (M.dropP ys k) 120, 0) ∧ M.rend (M.dropP ys k) 120 ≠ M.rend xs 120 := by
  obtain ⟨h1, h2⟩ := M.thin_ok xs 0 h
  have h3 := M.thin_none xs 0 (by omega)
  have h4 := M.thin_fix h3 _ 0 (Nat.zero_add _)
  have hsub := M.thin_sub xs 0
  have hl := hsub.length_le
  have hR : M.thinR xs = (M.thinGo xs 0, 0) := by rw [M.thinR, h]; rfl
  generalize M.thinGo xs 0 = ys at *
  have e0 : ∀ zs, M.curveOk zs = true → M.rendR zs 120 = (M.rend zs 120, 0) := fun zs hz => by rw [M.rendR, hz]; rfl
  refine ⟨ys, hR, h1, hl, e0 xs h, ?_, ?_, fun k hk h5 => ⟨?_, ?_, ?_⟩⟩
  · rw [e0 ys h1, M.rend_take h2]
  · rw [M.thinR, h1, h4]; rfl
  · rw [M.dropR, h1]
    have : M.inn (k : Int) 0 ((ys.length : Int) - 1) = true := M.inn_iff.2 (by omega)
    rw [this]
    simp
    omega
  · exact e0 _ (M.dropP_ok h1 hk h5)
  · intro e
    have hy : ∀ q ∈ ys, q.1 ≤ 100 := fun q hq => hb q (hsub.subset hq)
    have := h3 k hk
    rw [M.idle, decide_eq_true h5, Bool.true_and, decide_eq_false_iff_not] at this
    exact this (M.rend_short (fun q hq => hy q ((M.dropP_sub ys k).subset hq)) hy (e.trans (M.rend_take h2).symm))
end Go.Proofs.Ytckihflfjecpbaa
