import Derived.Test.YtafbhangjeddaaaM1
namespace Go.Proofs.Ytafbhangjeddaaa
open Go.RowKit
namespace M
theorem comb_sum {xs : List Int} {n : Nat} (hn : 1 ≤ n) : ∀ k, k ≤ xs.length → wrap32 ((combL xs n).take k).sum = wrap32 ((xs.take k).sum - (xs.take (k - n)).sum) := by
  intro k
  induction k with
  | zero => intro _; simp
  | succ k ih =>
    intro hk
    have h1 : xs[k]? = some xs[k] := List.getElem?_eq_getElem (by omega)
    have h2 := combL_at (xs := xs) (n := (n : Int)) (k := k) (by omega)
    rw [at_nat h1] at h2
    rw [take_sum h2, ← sum_step hn h1, ← wrap32_addl, ih (by omega), wrap32_addr, wrap32_addl, wrap32_addl, wrap32_subl]
    congr 1
    omega
/-- Integrating and combing go in any order. -/
theorem integ_comb (xs : List Int) {n : Nat} (hn : 1 ≤ n) : integ 0 (combL xs n) = combL (integ 0 xs) n := by
  apply List.ext_getElem?
  intro k
  by_cases hk : k < xs.length
  · rw [integ_at (by rw [combL_len]; exact hk), Int.zero_add, comb_sum hn _ hk]
    exact (sumL_at hn hk).symm
  · rw [List.getElem?_eq_none (by rw [integ_len, combL_len]; omega), List.getElem?_eq_none (by rw [combL_len, integ_len]; omega)]
theorem iter_comm {f g : List Int → List Int} (h : ∀ l, f (g l) = g (f l)) (k : Nat) : ∀ l, iter f k (g l) = g (iter f k l) := by
  induction k with
  | zero => intro l; rfl
  | succ k ih => intro l; rw [iter, iter, h, ih]
theorem iter_both {f g : List Int → List Int} (h : ∀ l, f (g l) = g (f l)) (k : Nat) : ∀ l, iter (fun l => g (f l)) k l = iter g k (iter f k l) := by
  induction k with
  | zero => intro l; rfl
  | succ k ih => intro l; rw [iter, iter, iter, ih, iter_comm h]
theorem cascade (xs : List Int) {n : Nat} (hn : 1 ≤ n) (o : Nat) : iter (fun l => sumL l n) o xs = iter (fun l => combL l n) o (iter (integ 0) o xs) :=
  iter_both (f := integ 0) (g := fun l => combL l n) (fun l => integ_comb l hn) o xs
theorem comb_integ {xs : List Int} (hs : ∀ x ∈ xs, smp x = true) : combL (integ 0 xs) (1 : Nat) = xs := by
  apply List.ext_getElem?
  intro k
  by_cases hk : k < xs.length
  · have h1 : xs[k]? = some xs[k] := List.getElem?_eq_getElem hk
    have := sumL_at (xs := xs) (n := 1) (by omega) hk
    rw [sumL] at this
    rw [this, h1, take_sum h1, Nat.add_sub_cancel]
    congr 1
    rw [show (xs.take k).sum + xs[k] - (xs.take k).sum = xs[k] by omega]
    exact wrap32_of _ (hs _ (List.getElem_mem hk))
  · rw [List.getElem?_eq_none (by rw [combL_len, integ_len]; omega), List.getElem?_eq_none (by omega)]
theorem integ_zeros (s : Int) (m : Nat) : integ (wrap32 s) (List.replicate m 0) = List.replicate m (wrap32 s) := by
  induction m with
  | zero => rfl
  | succ m ih => rw [List.replicate_succ, integ, Int.add_zero, wrap32_idem, ih, List.replicate_succ]
theorem integ_app (xs ys : List Int) : ∀ s, integ s (xs ++ ys) = integ s xs ++ integ (xs.foldl (fun s x => wrap32 (s + x)) s) ys := by
  induction xs with
  | nil => intro s; rfl
  | cons x xs ih => intro s; rw [List.cons_append, integ, ih, integ, List.cons_append, List.foldl_cons]
theorem fold_zeros (s : Int) (m : Nat) : (List.replicate m (0 : Int)).foldl (fun s x => wrap32 (s + x)) (wrap32 s) = wrap32 s := by
  induction m with
  | zero => rfl
  | succ m ih => rw [List.replicate_succ, List.foldl_cons, Int.add_zero, wrap32_idem, ih]
theorem integ_expand {f : Nat} (hf : 1 ≤ f) (xs : List Int) : ∀ s, integ s (expandL xs f false) = expandL (integ s xs) f true := by
  induction xs with
  | nil => intro s; rfl
  | cons x xs ih =>
    intro s
    show integ s ((x :: List.replicate (f - 1) 0) ++ expandL xs f false) = (wrap32 (s + x) :: List.replicate (f - 1) (wrap32 (s + x))) ++ expandL (integ (wrap32 (s + x)) xs) f true
    rw [integ_app, ← ih, integ, integ_zeros, List.foldl_cons, fold_zeros]
theorem hold_at {f : Nat} (hf : 1 ≤ f) (ys : List Int) : ∀ i, (expandL ys f true)[i]? = ys[i / f]? := by
  induction ys with
  | nil => intro i; simp [expandL]
  | cons y ys ih =>
    intro i
    show (rep f true y ++ expandL ys f true)[i]? = _
    by_cases hi : i < f
    · rw [List.getElem?_append_left (by rw [rep_len hf]; exact hi), rep_true hi, Nat.div_eq_of_lt hi]; rfl
    · rw [List.getElem?_append_right (by rw [rep_len hf]; omega), rep_len hf, ih, Nat.div_eq_sub_div (by omega) (by omega : f ≤ i)]; rfl
theorem hold_at_ {f : Nat} (hf : 1 ≤ f) (ys : List Int) (i : Nat) : at_ (expandL ys f true) i = at_ ys ((i / f : Nat) : Int) := by
  by_cases hi : i < f * ys.length
  · have h2 : i / f < ys.length := Nat.div_lt_of_lt_mul hi
    rw [at_nat (k := i / f) (List.getElem?_eq_getElem h2), at_nat (k := i)]
    rw [hold_at hf, List.getElem?_eq_getElem h2]
  · rw [at_big (by rw [expandL_len _ hf]; omega), at_big]
    have := (Nat.le_div_iff_mul_le (show 0 < f by omega)).2 (show ys.length * f ≤ i by rw [Nat.mul_comm]; omega)
    omega
theorem hold_comb {f : Nat} (hf : 1 ≤ f) (ys : List Int) : combL (expandL ys f true) f = expandL (combL ys (1 : Nat)) f true := by
  apply List.ext_getElem?
  intro k
  rw [hold_at hf]
  by_cases hk : k < f * ys.length
  · have h2 : k / f < ys.length := Nat.div_lt_of_lt_mul hk
    rw [combL_at (by rw [expandL_len _ hf]; exact hk), combL_at h2, hold_at_ hf]
    congr 3
    by_cases hkf : f ≤ k
    · rw [show (k : Int) - (f : Int) = ((k - f : Nat) : Int) by omega, hold_at_ hf]
      have := Nat.div_eq_sub_div (show 0 < f by omega) hkf
      rw [show ((k / f : Nat) : Int) - ((1 : Nat) : Int) = (((k - f) / f : Nat) : Int) by omega]
    · rw [at_neg (by omega), Nat.div_eq_of_lt (by omega), at_neg (by simp)]
  · have : ys.length ≤ k / f := (Nat.le_div_iff_mul_le (show 0 < f by omega)).2 (by rw [Nat.mul_comm]; omega)
    rw [List.getElem?_eq_none (by rw [combL_len, expandL_len _ hf]; omega), List.getElem?_eq_none (by rw [combL_len]; exact this)]
/-- Holding is expanding and a moving sum. -/
theorem hold_sum {f : Nat} (hf : 1 ≤ f) {xs : List Int} (hs : ∀ x ∈ xs, smp x = true) : sumL (expandL xs f false) f = expandL xs f true := by
  rw [sumL, integ_expand hf, hold_comb hf, comb_integ hs]
theorem dec_hold {f : Nat} (hf : 1 ≤ f) (xs : List Int) : ∀ m q, xs.length - q = m → decL (expandL xs f true) f (q * f + (f - 1)) = xs.drop q := by
  intro m
  induction m with
  | zero =>
    intro q hq
    rw [List.drop_eq_nil_of_le (by omega), decL_end]
    rw [expandL_len _ hf]
    have := Nat.mul_le_mul_left f (show xs.length ≤ q by omega)
    rw [Nat.mul_comm q f]
    omega
  | succ m ih =>
    intro q hq
    have hx : xs[q]? = some xs[q] := List.getElem?_eq_getElem (by omega)
    have h1 : (expandL xs f true)[q * f + (f - 1)]? = some xs[q] := by
      rw [hold_at hf, Nat.mul_comm q f, Nat.mul_add_div (by omega), Nat.div_eq_of_lt (by omega), Nat.add_zero, hx]
    rw [decL_at (by omega) h1, drop_at hx, show q * f + (f - 1) + f = (q + 1) * f + (f - 1) by rw [Nat.succ_mul]; omega, ih _ (by omega)]
theorem dec_hold0 {f : Nat} (hf : 1 ≤ f) (xs : List Int) : decL (expandL xs f true) f (f - 1) = xs := by
  have := dec_hold hf xs _ 0 rfl
  simpa using this
theorem resample {xs : List Int} (hs : ∀ x ∈ xs, smp x = true) (hl : xs.length ≤ 24) {n o f : Nat} (hn : 1 ≤ n ∧ n ≤ 9) (ho : o ≤ 6) (hf : 1 ≤ f ∧ f ≤ 5) :
    ∃ ys hs es is, CascadeSums xs n o = (ys, 0) ∧ CombCascade xs n o = (ys, 0) ∧ ys.length = xs.length ∧ expandS xs f true = (hs, 0) ∧ expandS xs f false = (es, 0) ∧ MovingSum es f = (hs, 0) ∧
      IntegrateSignal xs = (is, 0) ∧ CombSignal is 1 = (xs, 0) ∧ DecimateSignal hs f ((f : Int) - 1) = (xs, 0) ∧ hs.length ≤ 4000 ∧ es.length ≤ 4000 ∧ is.length ≤ 4000 := by
  have h1 : sig xs = true := by simp only [sig, Bool.and_eq_true, decide_eq_true_eq, List.all_eq_true]; exact ⟨by omega, hs⟩
  have h2 : spn (n : Int) = true := by simp [spn, inn]; omega
  have h3 : inn (o : Int) 0 6 = true := by simp [inn]; omega
  have h4 : fac (f : Int) = true := by simp [fac, inn]; omega
  have h5 : f * xs.length ≤ 120 := Nat.le_trans (Nat.mul_le_mul hf.2 hl) (by omega)
  have h6 : (f : Int) * (xs.length : Int) ≤ 4000 := by
    have h0 : ((f * xs.length : Nat) : Int) ≤ 120 := by omega
    rw [Int.natCast_mul] at h0
    omega
  have hsig : ∀ b, sig (expandL xs f b) = true := fun b => by
    simp only [sig, Bool.and_eq_true, decide_eq_true_eq, List.all_eq_true]
    exact ⟨by rw [expandL_len _ hf.1]; omega, expandL_smp hs⟩
  have h7 : sig (integ 0 xs) = true := by
    simp only [sig, Bool.and_eq_true, decide_eq_true_eq, List.all_eq_true]
    exact ⟨by rw [integ_len]; omega, integ_smp xs 0⟩
  have h8 : spn (f : Int) = true := by simp [spn, inn]; omega
  have h9 : spn (1 : Int) = true := by decide
  have h10 : inn ((f : Int) - 1) 0 ((f : Int) - 1) = true := by simp [inn]; omega
  refine ⟨iter (fun l => sumL l n) o xs, expandL xs f true, expandL xs f false, integ 0 xs, ?_, ?_, ?_, ?_, ?_, ?_, ?_, ?_, ?_, ?_, ?_, ?_⟩
  · rw [CascadeSums, h1, h2, h3]; rfl
  · rw [CombCascade, h1, h2, h3, cascade xs hn.1]; rfl
  · exact iter_len (f := fun l => sumL l n) (fun l => sumL_len l n) _ _
  · rw [expandS, h1, h4, if_pos rfl, if_pos rfl, if_pos h6]; rfl
  · rw [expandS, h1, h4, if_pos rfl, if_pos rfl, if_pos h6]; rfl
  · rw [MovingSum, hsig, h8, hold_sum hf.1 hs]; rfl
  · rw [IntegrateSignal, h1]; rfl
  · rw [CombSignal, h7, h9]
    have := comb_integ hs
    simp only [if_true]
    rw [show (1 : Int) = ((1 : Nat) : Int) from rfl, this]
  · rw [DecimateSignal, hsig, h4, h10]
    simp only [if_true, Bool.and_self]
    rw [Int.toNat_natCast, show ((f : Int) - 1).toNat = f - 1 by omega, dec_hold0 hf.1]
  · rw [expandL_len _ hf.1]; omega
  · rw [expandL_len _ hf.1]; omega
  · rw [integ_len]; omega
end M
end Go.Proofs.Ytafbhangjeddaaa
