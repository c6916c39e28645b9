import Derived.Test.YtebaffdaffcdmaaW94
namespace Go.Proofs.Ytebaffdaffcdmaa
open Go.RowKit
set_option maxHeartbeats 1000000
/-- One send adds to the sum of strip i. -/
def M.sumSend (f : Int × Int → Int) (i : Nat) (acc : List Int) (p : Int × Int) : List Int := acc.set i (wrap32 ((acc[i]?).getD 0 + f p * (acc[p.1.toNat]?).getD 0))
/-- The sums after t strips, from the last but one down. -/
def M.sumN (xs : List Strip) (f : Int × Int → Int) : Nat → List Int
  | 0 => (List.replicate xs.length 0).set (xs.length - 1) 1
  | t + 1 => ((xs[xs.length - 2 - t]?).getD M.sz).2.2.foldl (M.sumSend f (xs.length - 2 - t)) (M.sumN xs f t)
def M.sumS (xs : List Strip) (f : Int × Int → Int) (t : Nat) (us : List (Int × Int)) (j : Nat) : List Int := (us.take j).foldl (M.sumSend f (xs.length - 2 - t)) (M.sumN xs f t)
def M.sums (xs : List Strip) (f : Int × Int → Int) : List Int := M.sumN xs f (xs.length - 1)
def M.oneF : Int × Int → Int := fun _ => 1
def M.gainF : Int × Int → Int := fun p => p.2
theorem M.sumFold_len (f : Int × Int → Int) (i : Nat) (us : List (Int × Int)) : ∀ acc, (us.foldl (M.sumSend f i) acc).length = acc.length := by
  induction us with
  | nil => intro acc; rfl
  | cons u us ih => intro acc; rw [List.foldl_cons, ih]; simp [M.sumSend]
theorem M.sumN_len (xs : List Strip) (f : Int × Int → Int) : ∀ t, (M.sumN xs f t).length = xs.length := by
  intro t
  induction t with
  | zero => simp [M.sumN]
  | succ t ih => rw [M.sumN, M.sumFold_len, ih]
theorem M.sumS_len (xs : List Strip) (f : Int × Int → Int) (t : Nat) (us : List (Int × Int)) (j : Nat) : (M.sumS xs f t us j).length = xs.length := by rw [M.sumS, M.sumFold_len, M.sumN_len]
theorem M.sumS_next {xs : List Strip} {f : Int × Int → Int} {t : Nat} {us : List (Int × Int)} {j : Nat} {p : Int × Int} (h : us[j]? = some p) : M.sumS xs f t us (j + 1) = M.sumSend f (xs.length - 2 - t) (M.sumS xs f t us j) p := by
  rw [M.sumS, M.take_at h, List.foldl_append]; rfl
theorem M.sumS_end {xs : List Strip} {f : Int × Int → Int} {t : Nat} {s : ByteArray} {l : Int} {us : List (Int × Int)} (h : xs[xs.length - 2 - t]? = some (s, l, us)) : M.sumS xs f t us us.length = M.sumN xs f (t + 1) := by
  rw [M.sumS, M.sumN, h, List.take_of_length_le (Nat.le_refl _)]; rfl
theorem M.sumSend_eq {f : Int × Int → Int} {acc : List Int} {i q : Nat} {g a b : Int} (ha : acc[i]? = some a) (hb : acc[q]? = some b) : M.sumSend f i acc ((q : Int), g) = acc.set i (wrap32 (a + f ((q : Int), g) * b)) := by
  rw [M.sumSend]
  simp only [Int.toNat_natCast]
  rw [ha, hb]; rfl
def M.allSmp (acc : List Int) : Prop := ∀ v ∈ acc, M.smp v = true
theorem M.allSmp_at {acc : List Int} {i : Nat} {v : Int} (h : M.allSmp acc) (hv : acc[i]? = some v) : -2147483648 ≤ v ∧ v ≤ 2147483647 := M.smp_bd (h v (List.mem_of_getElem? hv))
theorem M.allSmp_send {f : Int × Int → Int} {i : Nat} {acc : List Int} {p : Int × Int} (h : M.allSmp acc) : M.allSmp (M.sumSend f i acc p) := by
  intro v hv
  rcases List.mem_or_eq_of_mem_set hv with h1 | rfl
  · exact h v h1
  · exact M.smp_wrap _
theorem M.allSmp_fold {f : Int × Int → Int} {i : Nat} (us : List (Int × Int)) : ∀ {acc : List Int}, M.allSmp acc → M.allSmp (us.foldl (M.sumSend f i) acc) := by
  induction us with
  | nil => intro acc h; exact h
  | cons u us ih => intro acc h; exact ih (M.allSmp_send h)
theorem M.sumN_smp (xs : List Strip) (f : Int × Int → Int) : ∀ t, M.allSmp (M.sumN xs f t) := by
  intro t
  induction t with
  | zero =>
    intro v hv
    rcases List.mem_or_eq_of_mem_set hv with h1 | rfl
    · rw [(List.mem_replicate.1 h1).2]; rfl
    · rfl
  | succ t ih => exact M.allSmp_fold _ ih
theorem M.sumS_smp (xs : List Strip) (f : Int × Int → Int) (t : Nat) (us : List (Int × Int)) (j : Nat) : M.allSmp (M.sumS xs f t us j) := M.allSmp_fold _ (M.sumN_smp xs f t)
/-- Where each path counts as one: no more than twice as many with each send. -/
theorem M.one_send {i : Nat} {acc : List Int} {p : Int × Int} {b : Int} (hb : 0 ≤ b ∧ b ≤ 1000000000) (h : M.upTo b acc) : M.upTo (2 * b) (M.sumSend M.oneF i acc p) := by
  intro v hv
  rcases List.mem_or_eq_of_mem_set hv with h1 | rfl
  · have := h v h1; omega
  · have h1 := M.upTo_get hb.1 h i
    have h2 := M.upTo_get hb.1 h p.1.toNat
    rw [show M.oneF p = 1 from rfl, Int.one_mul, M.wrap32_of _ (by simp [M.smp, M.inn]; omega)]
    omega
theorem M.pow_le {a b : Nat} (h : a ≤ b) : (2 : Int) ^ a ≤ 2 ^ b := by
  have := Nat.pow_le_pow_right (n := 2) (by decide) h
  exact_mod_cast this
theorem M.one_fold {i : Nat} (us : List (Int × Int)) : ∀ {acc : List Int} {s : Nat}, s + us.length ≤ 28 → M.upTo ((2 : Int) ^ s) acc → M.upTo ((2 : Int) ^ (s + us.length)) (us.foldl (M.sumSend M.oneF i) acc) := by
  induction us with
  | nil => intro acc s _ h; simpa using h
  | cons u us ih =>
    intro acc s hs h
    simp only [List.length_cons] at hs
    have hp : (2 : Int) ^ s ≤ 2 ^ 28 := M.pow_le (by omega)
    have h0 : (0 : Int) ≤ 2 ^ s := Int.pow_nonneg (by decide)
    have h1 := M.one_send (i := i) (p := u) ⟨h0, by omega⟩ h
    have h2 := ih (acc := M.sumSend M.oneF i acc u) (s := s + 1) (by omega) (by rw [Int.pow_succ, Int.mul_comm]; exact h1)
    rw [List.length_cons, show s + (us.length + 1) = s + 1 + us.length by omega]
    exact h2
theorem M.one_N {xs : List Strip} (h : M.mixOk xs = true) : ∀ t, t ≤ xs.length - 1 → ∃ s, s ≤ 4 * t ∧ M.upTo ((2 : Int) ^ s) (M.sumN xs M.oneF t) := by
  intro t
  induction t with
  | zero =>
    intro _
    refine ⟨0, by omega, fun v hv => ?_⟩
    rcases List.mem_or_eq_of_mem_set hv with h1 | rfl
    · rw [(List.mem_replicate.1 h1).2]; decide
    · decide
  | succ t ih =>
    intro ht
    obtain ⟨s, hs, hu⟩ := ih (by omega)
    have hmn := M.mix_n h
    have hx : xs[xs.length - 2 - t]? = some xs[xs.length - 2 - t] := List.getElem?_eq_getElem (by omega)
    generalize xs[xs.length - 2 - t] = x at hx
    obtain ⟨s', l, us⟩ := x
    obtain ⟨_, h2, _⟩ := M.mix_strip h hx
    refine ⟨s + us.length, by omega, ?_⟩
    rw [M.sumN, hx]
    exact M.one_fold us (by omega) hu
theorem M.one_S {xs : List Strip} (h : M.mixOk xs = true) {t : Nat} (ht : t + 1 ≤ xs.length - 1) {s' : ByteArray} {l : Int} {us : List (Int × Int)} (hx : xs[xs.length - 2 - t]? = some (s', l, us)) (j : Nat) : M.upTo 268435456 (M.sumS xs M.oneF t us j) := by
  obtain ⟨s, hs, hu⟩ := M.one_N h t (by omega)
  have hmn := M.mix_n h
  obtain ⟨_, h2, _⟩ := M.mix_strip h hx
  have h3 : (us.take j).length ≤ 4 := by rw [List.length_take]; omega
  refine M.upTo_mono (M.one_fold (i := xs.length - 2 - t) (us.take j) (by omega) hu) ?_
  have : (2 : Int) ^ (s + (us.take j).length) ≤ 2 ^ 28 := M.pow_le (by omega)
  exact Int.le_trans this (by decide)
def M.sumR (xs : List Strip) (f : Int × Int → Int) (k : Int) : Int × Int := if M.mixOk xs then (if M.inn k 0 ((xs.length : Int) - 1) then (((M.sums xs f)[k.toNat]?).getD 0, 0) else (0, 2)) else (0, 1)
end Go.Proofs.Ytebaffdaffcdmaa
