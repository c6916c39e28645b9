import Derived.Test.YtckihflfjecpbaaW69
namespace Go.Proofs.Ytckihflfjecpbaa
open Go.RowKit
set_option maxHeartbeats 1000000
set_option maxRecDepth 100000
theorem M.track_next {xs : List Clip} (h : M.trackOk xs = true) {k : Nat} {y z : Clip} (hy : xs[k]? = some y) (hz : xs[k + 1]? = some z) : y.2.2.2.1 ≤ z.2.2.2.1 := by
  rw [M.trackOk, Bool.and_eq_true, List.all_eq_true] at h
  have h1 := h.1 (k + 1) (List.mem_range.2 (List.getElem?_eq_some_iff.1 hz).1)
  rw [M.stepT, Bool.and_eq_true] at h1
  have h2 := h1.2
  rw [M.afterT, hz, Nat.add_sub_cancel, hy] at h2
  simpa using h2
theorem M.track_sort {xs : List Clip} (h : M.trackOk xs = true) : M.sortT xs := by
  intro i j
  induction j with
  | zero =>
    intro y z hij hy hz
    obtain rfl : i = 0 := by omega
    rw [hy] at hz
    injection hz with hz
    subst hz
    exact Int.le_refl _
  | succ j ih =>
    intro y z hij hy hz
    rcases Nat.lt_or_ge i (j + 1) with hlt | hge
    · have hj : j < xs.length := by have := (List.getElem?_eq_some_iff.1 hz).1; omega
      exact Int.le_trans (ih y _ (by omega) hy (List.getElem?_eq_getElem hj)) (M.track_next h (List.getElem?_eq_getElem hj) hz)
    · obtain rfl : i = j + 1 := by omega
      rw [hy] at hz
      injection hz with hz
      subst hz
      exact Int.le_refl _
theorem M.dropP_at (xs : List Clip) (k j : Nat) (hk : k < xs.length) : (M.dropP xs k)[j]? = xs[if j < k then j else j + 1]? := by
  unfold M.dropP
  have hl : (xs.take k).length = k := by rw [List.length_take]; omega
  by_cases hj : j < k
  · rw [if_pos hj, List.getElem?_append_left (by omega), List.getElem?_take, if_pos hj]
  · rw [if_neg hj, List.getElem?_append_right (by omega), List.getElem?_drop, hl]
    congr 1
    omega
theorem M.drop_sort {xs : List Clip} (h : M.sortT xs) {k : Nat} (hk : k < xs.length) : M.sortT (M.dropP xs k) := by
  intro i j y z hij hy hz
  rw [M.dropP_at _ _ _ hk] at hy hz
  refine h _ _ y z ?_ hy hz
  split <;> split <;> omega
/-- Clip k is replaced by another. -/
def M.chgR (xs : List Clip) (k : Nat) (c : Clip) : List Clip × Int := if M.clipOk c then (M.putP (M.dropP xs k) c, 0) else ([], 2)
def M.atC_ (c : Clip) (t : Int) : Clip := (c.1, c.2.1, c.2.2.1, t, c.2.2.2.2)
def M.moveR (xs : List Clip) (k t : Int) : List Clip × Int := if M.askT xs k = 0 then M.chgR xs k.toNat (M.atC_ ((xs[k.toNat]?).getD M.cz) t) else ([], M.askT xs k)
def M.trimOk (n l r : Int) : Bool := decide (0 ≤ l) && decide (0 ≤ r) && decide (l + r < n)
def M.trimC (c : Clip) (l r : Int) : Clip := (c.1, c.2.1 + l, c.2.2.1 - l - r, c.2.2.2.1 + l, c.2.2.2.2)
def M.trimR (xs : List Clip) (k l r : Int) : List Clip × Int :=
  if M.askT xs k = 0 then (if M.trimOk ((xs[k.toNat]?).getD M.cz).2.2.1 l r then M.chgR xs k.toNat (M.trimC ((xs[k.toNat]?).getD M.cz) l r) else ([], 2)) else ([], M.askT xs k)
theorem M.clip_bd5 {a b c d e : Int} (h : M.clipOk (a, b, c, d, e) = true) : (0 ≤ a ∧ a ≤ 5) ∧ (1 ≤ c ∧ c ≤ 4000) ∧ (0 ≤ b ∧ b ≤ 4000 - c) ∧ (0 ≤ d ∧ d ≤ 4000 - c) ∧ M.smp e = true := by
  simp only [M.clipOk, Bool.and_eq_true, M.inn_iff] at h
  obtain ⟨⟨⟨⟨h1, h2⟩, h3⟩, h4⟩, h5⟩ := h
  exact ⟨h1, h2, h3, h4, h5⟩
theorem M.clip_mk {a b c d e : Int} (h : (0 ≤ a ∧ a ≤ 5) ∧ (1 ≤ c ∧ c ≤ 4000) ∧ (0 ≤ b ∧ b ≤ 4000 - c) ∧ (0 ≤ d ∧ d ≤ 4000 - c) ∧ M.smp e = true) : M.clipOk (a, b, c, d, e) = true := by
  simp only [M.clipOk, Bool.and_eq_true, M.inn_iff]
  exact ⟨⟨⟨⟨h.1, h.2.1⟩, h.2.2.1⟩, h.2.2.2.1⟩, h.2.2.2.2⟩
theorem M.trim_clip {a b c d e l r : Int} (h : M.clipOk (a, b, c, d, e) = true) (h0 : 0 ≤ l) (h1 : 0 ≤ r) (h2 : l + r < c) : M.clipOk (a, b + l, c - l - r, d + l, e) = true := by
  have := M.clip_bd5 h
  exact M.clip_mk ⟨this.1, by omega, by omega, by omega, this.2.2.2.2⟩
end Go.Proofs.Ytckihflfjecpbaa
