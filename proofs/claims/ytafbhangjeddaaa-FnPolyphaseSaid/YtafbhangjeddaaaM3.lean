import Derived.Test.YtafbhangjeddaaaM2
namespace Go.Proofs.Ytafbhangjeddaaa
open Go.RowKit
namespace M
def sumTo (g : Nat → Int) : Nat → Int
  | 0 => 0
  | n + 1 => sumTo g n + g n
theorem sum_congr {g h : Nat → Int} {n : Nat} (e : ∀ k, k < n → g k = h k) : sumTo g n = sumTo h n := by
  induction n with
  | zero => rfl
  | succ n ih => rw [sumTo, sumTo, ih fun k hk => e k (by omega), e n (by omega)]
theorem sum_zero {g : Nat → Int} {n : Nat} (e : ∀ k, k < n → g k = 0) : sumTo g n = 0 := by
  induction n with
  | zero => rfl
  | succ n ih => rw [sumTo, ih fun k hk => e k (by omega), e n (by omega)]; rfl
theorem sum_add (g : Nat → Int) (a b : Nat) : sumTo g (a + b) = sumTo g a + sumTo (fun r => g (a + r)) b := by
  induction b with
  | zero => simp [sumTo]
  | succ b ih => rw [← Nat.add_assoc, sumTo, ih, sumTo, Int.add_assoc]
theorem sum_more {g : Nat → Int} {a b : Nat} (h : a ≤ b) (e : ∀ k, a ≤ k → k < b → g k = 0) : sumTo g b = sumTo g a := by
  obtain ⟨d, rfl⟩ := Nat.le.dest h
  rw [sum_add, sum_zero (g := fun r => g (a + r)) fun k hk => e _ (by omega) (by omega), Int.add_zero]
theorem sum_block (g : Nat → Int) (f m : Nat) : sumTo g (m * f) = sumTo (fun j => sumTo (fun r => g (j * f + r)) f) m := by
  induction m with
  | zero => simp [sumTo]
  | succ m ih => rw [Nat.succ_mul, sum_add, ih, sumTo]
theorem sum_plus (g h : Nat → Int) (n : Nat) : sumTo (fun k => g k + h k) n = sumTo g n + sumTo h n := by
  induction n with
  | zero => rfl
  | succ n ih => rw [sumTo, sumTo, sumTo, ih]; omega
theorem sum_swap (h : Nat → Nat → Int) (m f : Nat) : sumTo (fun j => sumTo (fun r => h j r) f) m = sumTo (fun r => sumTo (fun j => h j r) m) f := by
  induction m with
  | zero => rw [sumTo]; exact (sum_zero fun _ _ => rfl).symm
  | succ m ih => rw [sumTo, ih, ← sum_plus]; rfl
theorem sum_single {g : Nat → Int} {n r : Nat} (hr : r < n) (e : ∀ k, k < n → k ≠ r → g k = 0) : sumTo g n = g r := by
  rw [sum_more (a := r + 1) (by omega) fun k h1 h2 => e k h2 (by omega), sumTo, sum_zero fun k hk => e k (by omega) (by omega), Int.zero_add]
theorem tap_sum (p x : List Int) (i : Int) (n : Nat) : tapSum p x i n = sumTo (fun k => p[k]?.getD 0 * at_ x (i - k)) n := by
  induction n with
  | zero => rfl
  | succ n ih => rw [tapSum, sumTo, ih]
theorem tap_more (p x : List Int) (i : Int) {n : Nat} (h : p.length ≤ n) : tapSum p x i p.length = sumTo (fun k => p[k]?.getD 0 * at_ x (i - k)) n := by
  rw [tap_sum]
  exact (sum_more h fun k h1 _ => by rw [List.getElem?_eq_none h1]; simp).symm
theorem dec_at {f : Nat} (hf : 1 ≤ f) (xs : List Int) : ∀ j r, (decL xs f r)[j]? = xs[r + j * f]? := by
  intro j
  induction j with
  | zero =>
    intro r
    by_cases h : r < xs.length
    · rw [decL_at (by omega) (List.getElem?_eq_getElem h), Nat.zero_mul, Nat.add_zero, List.getElem?_eq_getElem h]; rfl
    · rw [decL_end (by omega), Nat.zero_mul, Nat.add_zero, List.getElem?_eq_none (l := xs) (i := r) (by omega)]; rfl
  | succ j ih =>
    intro r
    by_cases h : r < xs.length
    · rw [decL_at (by omega) (List.getElem?_eq_getElem h), List.getElem?_cons_succ, ih, Nat.succ_mul]
      congr 1
      omega
    · rw [decL_end (by omega), List.getElem?_eq_none (by simp), List.getElem?_eq_none (by omega)]
theorem len_of {l : List Int} {n : Nat} (h1 : ∀ j, j < n → l[j]? ≠ none) (h2 : l[n]? = none) : l.length = n := by
  rw [List.getElem?_eq_none_iff] at h2
  rcases Nat.lt_or_ge l.length n with h | h
  · exact absurd (List.getElem?_eq_none (Nat.le_refl _)) (h1 _ h)
  · omega
theorem exp_at {f : Nat} (hf : 1 ≤ f) (ys : List Int) : ∀ i, (expandL ys f false)[i]? = if i % f = 0 then ys[i / f]? else (ys[i / f]?).map fun _ => 0 := by
  induction ys with
  | nil => intro i; simp [expandL]
  | cons y ys ih =>
    intro i
    show (rep f false y ++ expandL ys f false)[i]? = _
    by_cases hi : i < f
    · rw [List.getElem?_append_left (by rw [rep_len hf]; exact hi), Nat.div_eq_of_lt hi, Nat.mod_eq_of_lt hi]
      by_cases h0 : i = 0
      · subst h0; rfl
      · rw [if_neg h0, rep_false (by omega) hi]; rfl
    · rw [List.getElem?_append_right (by rw [rep_len hf]; omega), rep_len hf, ih, Nat.div_eq_sub_div (show 0 < f by omega) (by omega : f ≤ i), ← Nat.mod_eq_sub_mod (by omega : f ≤ i)]; rfl
theorem exp_at_ {f : Nat} (hf : 1 ≤ f) (ys : List Int) (q : Int) {s : Nat} (hs : s < f) : at_ (expandL ys f false) (q * f + s) = if s = 0 then at_ ys q else 0 := by
  rcases Int.lt_or_le q 0 with hq | hq
  · have h1 : q * (f : Int) ≤ -1 * (f : Int) := Int.mul_le_mul_of_nonneg_right (by omega) (by omega)
    rw [at_neg (by omega), at_neg hq]
    simp
  · obtain ⟨q, rfl⟩ := Int.eq_ofNat_of_zero_le hq
    have e0 : ((q : Int) * (f : Int) + (s : Int)) = ((q * f + s : Nat) : Int) := by rw [Int.natCast_add, Int.natCast_mul]
    rw [e0]
    have hx := exp_at hf ys (q * f + s)
    have h1 : (q * f + s) / f = q := by rw [Nat.mul_comm, Nat.mul_add_div (by omega), Nat.div_eq_of_lt hs, Nat.add_zero]
    have h2 : (q * f + s) % f = s := by rw [Nat.mul_comm, Nat.mul_add_mod, Nat.mod_eq_of_lt hs]
    rw [h1, h2] at hx
    by_cases hl : q < ys.length
    · rw [List.getElem?_eq_getElem hl] at hx
      by_cases h0 : s = 0
      · rw [if_pos h0] at hx ⊢
        rw [at_nat hx, at_nat (List.getElem?_eq_getElem hl)]
      · rw [if_neg h0] at hx ⊢
        rw [at_nat hx]
    · rw [at_big (xs := ys) (by omega), at_big]
      · simp
      · rw [expandL_len _ hf]
        have := Nat.mul_le_mul_left f (show ys.length ≤ q by omega)
        rw [Nat.mul_comm f q] at this
        omega
theorem dec_len_up {f r : Nat} (hr : r < f) {l : List Int} {n : Nat} (hl : l.length = f * n) : (decL l f r).length = n := by
  refine len_of (fun j hj => ?_) ?_
  · rw [dec_at (by omega)]
    have h1 : (j + 1) * f ≤ n * f := Nat.mul_le_mul_right _ hj
    rw [Nat.succ_mul, Nat.mul_comm n f] at h1
    rw [List.getElem?_eq_getElem (by omega)]
    simp
  · rw [dec_at (by omega), List.getElem?_eq_none (by rw [hl, Nat.mul_comm]; omega)]
theorem dec_short (ts : List Int) (f r : Nat) : (decL ts f r).length ≤ ts.length := Nat.le_trans (decL_len ts f r) (Nat.sub_le _ _)
/-- Each phase of an expanded and filtered signal is the signal, filtered by a phase of the taps. -/
theorem poly_up {f r : Nat} (hr : r < f) (ts xs : List Int) : decL (tapL ts (expandL xs f false)) f r = tapL (decL ts f r) xs := by
  have hf : 1 ≤ f := by omega
  have hlen : (decL (tapL ts (expandL xs f false)) f r).length = xs.length := dec_len_up hr (by rw [tapL_len, expandL_len _ hf])
  apply List.ext_getElem?
  intro j
  by_cases hj : j < xs.length
  · have hb : r + j * f < (expandL xs f false).length := by
      rw [expandL_len _ hf]
      have h1 : (j + 1) * f ≤ xs.length * f := Nat.mul_le_mul_right _ hj
      rw [Nat.succ_mul, Nat.mul_comm xs.length f] at h1
      omega
    rw [dec_at hf, tapL_at hb, tapL_at hj]
    congr 2
    have hK : ts.length ≤ ts.length * f := Nat.le_mul_of_pos_right _ (by omega)
    rw [tap_more _ _ _ hK, tap_more _ _ _ (dec_short ts f r), sum_block]
    refine sum_congr fun k hk => ?_
    rw [sum_single hr]
    · have e0 : ((r + j * f : Nat) : Int) - ((k * f + r : Nat) : Int) = ((j : Int) - (k : Int)) * (f : Int) + ((0 : Nat) : Int) := by
        simp only [Int.natCast_add, Int.natCast_mul, Int.sub_mul]
        omega
      rw [e0, exp_at_ hf _ _ (by omega), if_pos rfl, dec_at hf, Nat.add_comm r]
    · intro s hs hne
      have hz : at_ (expandL xs f false) (((r + j * f : Nat) : Int) - ((k * f + s : Nat) : Int)) = 0 := by
        rcases Nat.lt_or_ge s r with h | h
        · have e0 : ((r + j * f : Nat) : Int) - ((k * f + s : Nat) : Int) = ((j : Int) - (k : Int)) * (f : Int) + ((r - s : Nat) : Int) := by
            simp only [Int.natCast_add, Int.natCast_mul, Int.sub_mul]
            omega
          rw [e0, exp_at_ hf _ _ (by omega), if_neg (by omega)]
        · have e0 : ((r + j * f : Nat) : Int) - ((k * f + s : Nat) : Int) = ((j : Int) - (k : Int) - 1) * (f : Int) + ((f + r - s : Nat) : Int) := by
            simp only [Int.natCast_add, Int.natCast_mul, Int.sub_mul]
            omega
          rw [e0, exp_at_ hf _ _ (by omega), if_neg (by omega)]
      rw [hz, Int.mul_zero]
  · rw [List.getElem?_eq_none (by omega), List.getElem?_eq_none (by rw [tapL_len]; omega)]
/-- A signal, delayed. -/
def late (xs : List Int) (r : Nat) : List Int := List.replicate r 0 ++ xs
theorem late_len (xs : List Int) (r : Nat) : (late xs r).length = r + xs.length := by simp [late]
theorem late_at (xs : List Int) (r : Nat) {i : Int} (hi : 0 ≤ i) : at_ (late xs r) i = at_ xs (i - r) := by
  obtain ⟨i, rfl⟩ := Int.eq_ofNat_of_zero_le hi
  by_cases h : i < r
  · rw [at_neg (i := (i : Int) - r) (by omega), at_nat (x := 0)]
    rw [late, List.getElem?_append_left (by simpa using h), List.getElem?_replicate, if_pos h]
  · by_cases h2 : i - r < xs.length
    · rw [show (i : Int) - (r : Int) = ((i - r : Nat) : Int) by omega, at_nat (List.getElem?_eq_getElem h2), at_nat]
      rw [late, List.getElem?_append_right (by simp; omega), List.length_replicate, List.getElem?_eq_getElem h2]
    · rw [at_big (by rw [late_len]; omega), at_big (by omega)]
theorem dec_at_ {f : Nat} (hf : 1 ≤ f) (xs : List Int) {i : Int} (hi : 0 ≤ i) : at_ (decL xs f 0) i = at_ xs (i * f) := by
  obtain ⟨i, rfl⟩ := Int.eq_ofNat_of_zero_le hi
  have h1 := dec_at hf xs i 0
  rw [Nat.zero_add] at h1
  rw [show (i : Int) * (f : Int) = ((i * f : Nat) : Int) by rw [Int.natCast_mul]]
  by_cases h : i * f < xs.length
  · rw [List.getElem?_eq_getElem h] at h1
    rw [at_nat h1, at_nat (List.getElem?_eq_getElem h)]
  · rw [List.getElem?_eq_none (l := xs) (i := i * f) (by omega), List.getElem?_eq_none_iff] at h1
    rw [at_big (by omega), at_big (by omega)]
/-- The r-th delayed phase, filtered by that of the taps, before it is wrapped. -/
def part (xs ts : List Int) (f r i : Nat) : Int := tapSum (decL ts f r) (decL (late xs r) f 0) i (decL ts f r).length
theorem part_eq {f : Nat} (hf : 1 ≤ f) (xs ts : List Int) (r i : Nat) : part xs ts f r i = sumTo (fun k => ts[k * f + r]?.getD 0 * at_ xs (((i : Int) - k) * f - r)) ts.length := by
  rw [part, tap_more _ _ _ (dec_short ts f r)]
  refine sum_congr fun k _ => ?_
  rw [dec_at hf, Nat.add_comm r]
  congr 1
  rcases Int.lt_or_le ((i : Int) - k) 0 with h | h
  · have h1 : ((i : Int) - k) * (f : Int) ≤ -1 * (f : Int) := Int.mul_le_mul_of_nonneg_right (by omega) (by omega)
    rw [at_neg h, at_neg (by omega)]
  · rw [dec_at_ hf _ h, late_at _ _ (Int.mul_nonneg h (by omega))]
theorem poly_down {f : Nat} (hf : 1 ≤ f) (xs ts : List Int) (i : Nat) : tapSum ts xs ((i * f : Nat) : Int) ts.length = sumTo (fun r => part xs ts f r i) f := by
  have hK : ts.length ≤ ts.length * f := Nat.le_mul_of_pos_right _ (by omega)
  rw [tap_more _ _ _ hK, sum_block, sum_swap]
  refine sum_congr fun r _ => ?_
  rw [part_eq hf]
  refine sum_congr fun k _ => ?_
  congr 2
  simp only [Int.natCast_add, Int.natCast_mul, Int.sub_mul]
  omega
/-- The sums of the first r parts. -/
def accS (xs ts : List Int) (f d r : Nat) : List Int := (List.range d).map fun (i : Nat) => wrap32 (sumTo (fun q => part xs ts f q i) r)
theorem accS_len (xs ts : List Int) (f d r : Nat) : (accS xs ts f d r).length = d := by simp [accS]
theorem accS_at (xs ts : List Int) (f : Nat) {d r i : Nat} (h : i < d) : (accS xs ts f d r)[i]? = some (wrap32 (sumTo (fun q => part xs ts f q i) r)) := by simp [accS, h]
theorem accS_zero (xs ts : List Int) (f d : Nat) : accS xs ts f d 0 = List.replicate d 0 := by
  apply List.ext_getElem?
  intro i
  by_cases h : i < d
  · rw [accS_at _ _ _ h, List.getElem?_replicate, if_pos h, sumTo, wrap32_of 0 (by decide)]
  · rw [List.getElem?_eq_none (by rw [accS_len]; omega), List.getElem?_eq_none (by simp; omega)]
theorem dec_len_le {f : Nat} (hf : 1 ≤ f) {a b : List Int} (h : a.length ≤ b.length) : (decL a f 0).length ≤ (decL b f 0).length := by
  rcases Nat.lt_or_ge (decL b f 0).length (decL a f 0).length with hlt | hge
  · have h1 := dec_at hf b (decL b f 0).length 0
    rw [List.getElem?_eq_none (Nat.le_refl _)] at h1
    have h2 := List.getElem?_eq_none_iff.1 h1.symm
    have h3 := dec_at hf a (decL b f 0).length 0
    rw [List.getElem?_eq_none (l := a) (by omega)] at h3
    have := List.getElem?_eq_none_iff.1 h3
    omega
  · exact hge
theorem accS_end {f : Nat} (hf : 1 ≤ f) (xs ts : List Int) : accS xs ts f (decL (tapL ts xs) f 0).length f = decL (tapL ts xs) f 0 := by
  apply List.ext_getElem?
  intro i
  by_cases h : i < (decL (tapL ts xs) f 0).length
  · rw [accS_at _ _ _ h]
    have h1 := dec_at hf (tapL ts xs) i 0
    rw [Nat.zero_add] at h1
    have h2 : i * f < xs.length := by
      rcases Nat.lt_or_ge (i * f) xs.length with h3 | h3
      · exact h3
      · rw [List.getElem?_eq_none (l := tapL ts xs) (by rw [tapL_len]; omega)] at h1
        have := List.getElem?_eq_none_iff.1 h1
        omega
    rw [h1, tapL_at h2, poly_down hf]
  · rw [List.getElem?_eq_none (by rw [accS_len]; omega), List.getElem?_eq_none (by omega)]
/-- One more part. -/
theorem accS_step {xs ts : List Int} {f d r i : Nat} {x y : Int} (hi : i < d) (hz : i < (decL (late xs r) f 0).length) (hx : (accS xs ts f d r)[i]? = some x) (hy : (tapL (decL ts f r) (decL (late xs r) f 0))[i]? = some y) :
    (accS xs ts f d (r + 1))[i]? = some (wrap32 (x + y)) := by
  rw [accS_at _ _ _ hi] at hx
  rw [tapL_at hz] at hy
  injection hx with hx
  injection hy with hy
  rw [accS_at _ _ _ hi, ← hx, ← hy, wrap32_add]
  rfl
theorem accS_none {xs ts : List Int} {f d r : Nat} (h : decL ts f r = []) : accS xs ts f d (r + 1) = accS xs ts f d r := by
  unfold accS
  apply List.map_congr_left
  intro i _
  show wrap32 (sumTo _ r + part xs ts f r i) = _
  rw [part, h]
  simp [tapSum]
theorem tap_none (xs : List Int) : tapL [] xs = List.replicate xs.length 0 := by
  apply List.ext_getElem?
  intro i
  by_cases h : i < xs.length
  · rw [tapL_at h, List.getElem?_replicate, if_pos h, show tapSum [] xs (i : Int) [].length = 0 from rfl, wrap32_of 0 (by decide)]
  · rw [List.getElem?_eq_none (by rw [tapL_len]; omega), List.getElem?_eq_none (by simp; omega)]
theorem sig_of {xs : List Int} (h : ∀ x ∈ xs, smp x = true) (hl : xs.length ≤ 4000) : sig xs = true := by
  simp only [sig, Bool.and_eq_true, decide_eq_true_eq, List.all_eq_true]
  exact ⟨hl, h⟩
theorem taps_of {ts : List Int} (h : ∀ x ∈ ts, smp x = true) (h1 : 1 ≤ ts.length) (h2 : ts.length ≤ 64) : taps ts = true := by
  simp only [taps, inn, Bool.and_eq_true, decide_eq_true_eq, List.all_eq_true]
  exact ⟨⟨by omega, by omega⟩, h⟩
theorem dec_smp {xs : List Int} {f r : Nat} (hf : 1 ≤ f) (h : ∀ x ∈ xs, smp x = true) : ∀ x ∈ decL xs f r, smp x = true := by
  intro x hx
  obtain ⟨j, hj⟩ := List.getElem?_of_mem hx
  rw [dec_at hf] at hj
  exact h x (List.mem_of_getElem? hj)
theorem late_smp {xs : List Int} {r : Nat} (h : ∀ x ∈ xs, smp x = true) : ∀ x ∈ late xs r, smp x = true := by
  intro x hx
  rcases List.mem_append.1 hx with h1 | h1
  · rw [(List.mem_replicate.1 h1).2]; rfl
  · exact h x h1
/-- What the calls of the law give. -/
theorem poly_calls {xs ts : List Int} (hs : ∀ x ∈ xs, smp x = true) (hl : xs.length ≤ 24) (ht : ∀ x ∈ ts, smp x = true) (h1 : 1 ≤ ts.length) (h2 : ts.length ≤ 10) {f : Nat} (hf : 1 ≤ f ∧ f ≤ 5) :
    FilterExpand xs ts f = (tapL ts (expandL xs f false), 0) ∧ FilterDecimate xs ts f = (decL (tapL ts xs) f 0, 0) ∧
      ∀ r, r < f → DecimateSignal (tapL ts (expandL xs f false)) f r = (tapL (decL ts f r) xs, 0) ∧ DecimateSignal (late xs r) f 0 = (decL (late xs r) f 0, 0) ∧
        (0 < (decL ts f r).length → TapSignal xs (decL ts f r) = (tapL (decL ts f r) xs, 0) ∧ TapSignal (decL (late xs r) f 0) (decL ts f r) = (tapL (decL ts f r) (decL (late xs r) f 0), 0)) := by
  have g1 : sig xs = true := sig_of hs (by omega)
  have g2 : taps ts = true := taps_of ht h1 (by omega)
  have g3 : fac (f : Int) = true := by simp [fac, inn]; omega
  have g4 : f * xs.length ≤ 120 := Nat.le_trans (Nat.mul_le_mul hf.2 hl) (by omega)
  have g5 : (f : Int) * (xs.length : Int) ≤ 4000 := by
    have h0 : ((f * xs.length : Nat) : Int) ≤ 120 := by omega
    rw [Int.natCast_mul] at h0
    omega
  have gU : sig (tapL ts (expandL xs f false)) = true := sig_of (tapL_smp _ _) (by rw [tapL_len, expandL_len _ hf.1]; omega)
  refine ⟨?_, ?_, fun r hr => ⟨?_, ?_, fun hp => ⟨?_, ?_⟩⟩⟩
  · rw [FilterExpand, g1, g2, g3, if_pos rfl, if_pos rfl, if_pos rfl, if_pos g5]; rfl
  · rw [FilterDecimate, g1, g2, g3]; rfl
  · have g6 : inn (r : Int) 0 ((f : Int) - 1) = true := by simp [inn]; omega
    rw [DecimateSignal, gU, g3, g6]
    simp only [if_true, Bool.and_self]
    rw [Int.toNat_natCast, Int.toNat_natCast, poly_up hr]
  · have g6 : inn 0 0 ((f : Int) - 1) = true := by simp [inn]; omega
    rw [DecimateSignal, sig_of (late_smp hs) (by rw [late_len]; omega), g3, g6]
    rfl
  · rw [TapSignal, g1, taps_of (dec_smp hf.1 ht) hp (by have := dec_short ts f r; omega)]; rfl
  · rw [TapSignal, sig_of (dec_smp hf.1 (late_smp hs)) (by have := dec_short (late xs r) f 0; rw [late_len] at this; omega), taps_of (dec_smp hf.1 ht) hp (by have := dec_short ts f r; omega)]; rfl
end M
end Go.Proofs.Ytafbhangjeddaaa
