import Derived.Test.YtebaffdaffcdmaaW90
namespace Go.Proofs.Ytebaffdaffcdmaa
open Go.RowKit
set_option maxHeartbeats 1000000
/-- One send: the strip that it leads to is entered no earlier than this one ends. -/
def M.entSend (k : Nat) (l : Int) (acc : List Int) (p : Int × Int) : List Int := acc.set p.1.toNat (max ((acc[p.1.toNat]?).getD 0) ((acc[k]?).getD 0 + l))
/-- The entry times after the first k strips, and j sends of the next. -/
def M.entN (xs : List Strip) : Nat → List Int
  | 0 => List.replicate xs.length 0
  | k + 1 => ((xs[k]?).getD M.sz).2.2.foldl (M.entSend k ((xs[k]?).getD M.sz).2.1) (M.entN xs k)
def M.entS (xs : List Strip) (k : Nat) (l : Int) (us : List (Int × Int)) (j : Nat) : List Int := (us.take j).foldl (M.entSend k l) (M.entN xs k)
def M.entries (xs : List Strip) : List Int := M.entN xs xs.length
theorem M.entSend_len (k : Nat) (l : Int) (acc : List Int) (p : Int × Int) : (M.entSend k l acc p).length = acc.length := by simp [M.entSend]
theorem M.fold_len (k : Nat) (l : Int) (us : List (Int × Int)) : ∀ acc, (us.foldl (M.entSend k l) acc).length = acc.length := by
  induction us with
  | nil => intro acc; rfl
  | cons u us ih => intro acc; rw [List.foldl_cons, ih, M.entSend_len]
theorem M.entN_len (xs : List Strip) : ∀ k, (M.entN xs k).length = xs.length := by
  intro k
  induction k with
  | zero => simp [M.entN]
  | succ k ih => rw [M.entN, M.fold_len, ih]
theorem M.entS_len (xs : List Strip) (k : Nat) (l : Int) (us : List (Int × Int)) (j : Nat) : (M.entS xs k l us j).length = xs.length := by rw [M.entS, M.fold_len, M.entN_len]
theorem M.entS_next {xs : List Strip} {k : Nat} {l : Int} {us : List (Int × Int)} {j : Nat} {p : Int × Int} (h : us[j]? = some p) : M.entS xs k l us (j + 1) = M.entSend k l (M.entS xs k l us j) p := by
  rw [M.entS, M.take_at h, List.foldl_append]; rfl
theorem M.entS_end {xs : List Strip} {k : Nat} {s : ByteArray} {l : Int} {us : List (Int × Int)} (h : xs[k]? = some (s, l, us)) : M.entS xs k l us us.length = M.entN xs (k + 1) := by
  rw [M.entS, M.entN, h, List.take_of_length_le (Nat.le_refl _)]; rfl
theorem M.entS_start (xs : List Strip) (k : Nat) (l : Int) (us : List (Int × Int)) : M.entS xs k l us 0 = M.entN xs k := rfl
/-- All values lie from 0 to b. -/
def M.upTo (b : Int) (acc : List Int) : Prop := ∀ v ∈ acc, 0 ≤ v ∧ v ≤ b
theorem M.upTo_at {b : Int} {acc : List Int} {i : Nat} {v : Int} (h : M.upTo b acc) (hv : acc[i]? = some v) : 0 ≤ v ∧ v ≤ b := h v (List.mem_of_getElem? hv)
theorem M.upTo_get {b : Int} {acc : List Int} (hb : 0 ≤ b) (h : M.upTo b acc) (i : Nat) : 0 ≤ (acc[i]?).getD 0 ∧ (acc[i]?).getD 0 ≤ b := by
  cases hv : acc[i]? with
  | none => simp; exact hb
  | some v => exact M.upTo_at h hv
theorem M.upTo_mono {b b' : Int} {acc : List Int} (h : M.upTo b acc) (hb : b ≤ b') : M.upTo b' acc := fun v hv => ⟨(h v hv).1, Int.le_trans (h v hv).2 hb⟩
theorem M.upTo_send {b : Int} {acc : List Int} {k : Nat} {l : Int} {p : Int × Int} (hb : 0 ≤ b) (h : M.upTo b acc) (hl : 0 ≤ l ∧ l ≤ 32) : M.upTo (b + 32) (M.entSend k l acc p) := by
  intro v hv
  rcases List.mem_or_eq_of_mem_set hv with h1 | rfl
  · have := h v h1; omega
  · have h1 := M.upTo_get hb h p.1.toNat
    have h2 := M.upTo_get hb h k
    omega
theorem M.upTo_fold {k : Nat} {l : Int} (hl : 0 ≤ l ∧ l ≤ 32) (us : List (Int × Int)) : ∀ {b : Int} {acc : List Int}, 0 ≤ b → M.upTo b acc → M.upTo (b + 32 * us.length) (us.foldl (M.entSend k l) acc) := by
  induction us with
  | nil => intro b acc _ h; simpa using h
  | cons u us ih =>
    intro b acc hb h
    have := ih (b := b + 32) (acc := M.entSend k l acc u) (by omega) (M.upTo_send hb h hl)
    refine M.upTo_mono this ?_
    simp only [List.length_cons]
    omega
theorem M.mix_n {xs : List Strip} (h : M.mixOk xs = true) : 1 ≤ xs.length ∧ xs.length ≤ 8 := by
  rw [M.mixOk, Bool.and_eq_true] at h
  have := M.inn_iff.1 h.1
  omega
theorem M.mix_strip {xs : List Strip} (h : M.mixOk xs = true) {k : Nat} {s : ByteArray} {l : Int} {us : List (Int × Int)} (hk : xs[k]? = some (s, l, us)) : (0 ≤ l ∧ l ≤ 32) ∧ us.length ≤ 4 ∧ M.sendsB xs.length k us = true := by
  rw [M.mixOk, Bool.and_eq_true, List.all_eq_true] at h
  have h1 := h.2 k (List.mem_range.2 (List.getElem?_eq_some_iff.1 hk).1)
  rw [M.stepM_eq hk, Bool.and_eq_true] at h1
  have h2 := h1.1
  rw [M.stripOk, Bool.and_eq_true, Bool.and_eq_true, M.areSends, Bool.and_eq_true] at h2
  refine ⟨M.inn_iff.1 h2.1.2, ?_, h2.2.1⟩
  have h3 := h2.2.2
  split at h3
  · have : us.length = 0 := by simpa using h3
    omega
  · have := M.inn_iff.1 h3
    simp only at this
    omega
theorem M.sends_at {m : Int} {us : List (Int × Int)} : ∀ {last : Int} {j : Nat} {p0 p1 : Int}, M.sendsB m last us = true → us[j]? = some (p0, p1) → last < p0 ∧ p0 ≤ m - 1 ∧ M.smp p1 = true := by
  induction us with
  | nil => intro last j p0 p1 _ h; simp at h
  | cons u us ih =>
    intro last j p0 p1 h hj
    rw [M.sendsB, Bool.and_eq_true, Bool.and_eq_true] at h
    have h1 := M.inn_iff.1 h.1.1
    cases j with
    | zero =>
      simp only [List.getElem?_cons_zero, Option.some.injEq] at hj
      subst hj
      exact ⟨by simp only at h1; omega, h1.2, h.1.2⟩
    | succ j =>
      simp only [List.getElem?_cons_succ] at hj
      have := ih h.2 hj
      exact ⟨by omega, this.2⟩
theorem M.entN_upTo {xs : List Strip} (h : M.mixOk xs = true) : ∀ k, k ≤ xs.length → M.upTo (128 * k) (M.entN xs k) := by
  intro k
  induction k with
  | zero => intro _ v hv; rw [M.entN] at hv; have := (List.mem_replicate.1 hv).2; omega
  | succ k ih =>
    intro hk
    have hx : xs[k]? = some xs[k] := List.getElem?_eq_getElem (by omega)
    generalize xs[k] = x at hx
    obtain ⟨s, l, us⟩ := x
    obtain ⟨h1, h2, _⟩ := M.mix_strip h hx
    rw [M.entN, hx]
    refine M.upTo_mono (M.upTo_fold h1 us (by omega) (ih (by omega))) ?_
    omega
theorem M.entS_upTo {xs : List Strip} (h : M.mixOk xs = true) {k : Nat} {s : ByteArray} {l : Int} {us : List (Int × Int)} (hx : xs[k]? = some (s, l, us)) (j : Nat) : M.upTo 2000 (M.entS xs k l us j) := by
  obtain ⟨h1, h2, _⟩ := M.mix_strip h hx
  have h3 := M.entN_upTo h k (by have := (List.getElem?_eq_some_iff.1 hx).1; omega)
  have h4 := M.mix_n h
  have h5 := (List.getElem?_eq_some_iff.1 hx).1
  refine M.upTo_mono (M.upTo_fold (k := k) h1 (us.take j) (by omega) h3) ?_
  have : (us.take j).length ≤ 4 := by rw [List.length_take]; omega
  omega
theorem M.entSend_eq {acc : List Int} {k q : Nat} {l g a b : Int} (ha : acc[q]? = some a) (hb : acc[k]? = some b) : M.entSend k l acc ((q : Int), g) = acc.set q (max a (b + l)) := by
  rw [M.entSend]
  simp only [Int.toNat_natCast]
  rw [ha, hb]; rfl
end Go.Proofs.Ytebaffdaffcdmaa
