import Derived.RowKit
import Derived.WalkKit
namespace Go.Proofs.Ytckihflfjecpbaa
open Go.RowKit
namespace M
def inn (n lo hi : Int) : Bool := decide (lo ≤ n) && decide (n ≤ hi)
def smp (n : Int) : Bool := inn n (-2147483648) 2147483647
def sig (xs : List Int) : Bool := decide (xs.length ≤ 4000) && xs.all smp
def taps (xs : List Int) : Bool := inn xs.length 1 64 && xs.all smp
def fac (f : Int) : Bool := inn f 1 16
def spn (n : Int) : Bool := inn n 1 4000
def rate (xs : List Int) (b : Bool) : Int := if sig xs then (if b then 0 else 2) else 1
def at_ (xs : List Int) (i : Int) : Int := if 0 ≤ i ∧ i < xs.length then xs[i.toNat]?.getD 0 else 0
theorem at_nat {xs : List Int} {k : Nat} {x : Int} (h : xs[k]? = some x) : at_ xs k = x := by
  obtain ⟨hk, _⟩ := List.getElem?_eq_some_iff.1 h
  rw [at_, if_pos ⟨by omega, by omega⟩, Int.toNat_natCast, h]
  rfl
theorem wrap32_64 (a : Int) : wrap32 (wrap64 a) = wrap32 a := by unfold wrap32 wrap64; omega
theorem wrap64_32 (a : Int) : wrap64 (wrap32 a) = wrap32 a := by unfold wrap32 wrap64; omega
theorem wrap32_idem (a : Int) : wrap32 (wrap32 a) = wrap32 a := by unfold wrap32; omega
theorem wrap32_add (a b : Int) : wrap32 (wrap32 a + wrap32 b) = wrap32 (a + b) := by unfold wrap32; omega
theorem wrap32_addl (a b : Int) : wrap32 (wrap32 a + b) = wrap32 (a + b) := by unfold wrap32; omega
theorem wrap32_addr (a b : Int) : wrap32 (a + wrap32 b) = wrap32 (a + b) := by unfold wrap32; omega
theorem wrap32_sub (a b : Int) : wrap32 (wrap32 a - wrap32 b) = wrap32 (a - b) := by unfold wrap32; omega
theorem wrap32_subl (a b : Int) : wrap32 (wrap32 a - b) = wrap32 (a - b) := by unfold wrap32; omega
theorem wrap32_subr (a b : Int) : wrap32 (a - wrap32 b) = wrap32 (a - b) := by unfold wrap32; omega
theorem wrap32_add64 (a b : Int) : wrap32 (wrap64 (a + b)) = wrap32 (a + b) := wrap32_64 _
theorem wrap32_of (a : Int) (h : smp a = true) : wrap32 a = a := by simp [smp, inn] at h; unfold wrap32; omega
theorem smp_wrap (a : Int) : smp (wrap32 a) = true := by simp [smp, inn]; unfold wrap32; omega
theorem wrap32_bd (a : Int) : -2147483648 ≤ wrap32 a ∧ wrap32 a ≤ 2147483647 := by unfold wrap32; omega
theorem wrap32_eq (a : Int) : ∃ k, wrap32 a = a + 4294967296 * k := ⟨-((a + 2147483648) / 4294967296), by unfold wrap32; omega⟩
theorem wrap32_cong {a b : Int} (k : Int) (h : a = b + 4294967296 * k) : wrap32 a = wrap32 b := by subst h; unfold wrap32; omega
theorem wrap32_mul (a b : Int) : wrap32 (wrap32 a * wrap32 b) = wrap32 (a * b) := by
  obtain ⟨i, hi⟩ := wrap32_eq a
  obtain ⟨j, hj⟩ := wrap32_eq b
  rw [hi, hj]
  refine wrap32_cong (a * j + i * b + i * 4294967296 * j) ?_
  simp only [Int.add_mul, Int.mul_add]
  rw [show a * (4294967296 * j) = 4294967296 * (a * j) from Int.mul_left_comm _ _ _, Int.mul_assoc 4294967296 i b, show 4294967296 * i * (4294967296 * j) = 4294967296 * (i * 4294967296 * j) from by simp only [Int.mul_assoc]]
  omega
theorem wrap64_mul_bd (a b : Int) (ha : -2147483648 ≤ a ∧ a ≤ 2147483647) (hb : -2147483648 ≤ b ∧ b ≤ 2147483647) : -4611686018427387904 ≤ a * b ∧ a * b ≤ 4611686018427387904 := by
  have h1 : a.natAbs ≤ 2147483648 := by omega
  have h2 : b.natAbs ≤ 2147483648 := by omega
  have h3 : (a * b).natAbs ≤ 2147483648 * 2147483648 := by rw [Int.natAbs_mul]; exact Nat.mul_le_mul h1 h2
  omega
theorem wrap64_in (a : Int) (h : -9223372036854775808 ≤ a ∧ a ≤ 9223372036854775807) : wrap64 a = a := by unfold wrap64; omega
/-- The 32 low bits, taken as a number that is no less than 0. -/
theorem and_low (n : Int) : bits .and .i64 n 4294967295 = n % 4294967296 := by
  have h0 : 0 ≤ n % 18446744073709551616 := Int.emod_nonneg _ (by decide)
  have hx : ((BitVec.ofInt 64 n &&& BitVec.ofInt 64 4294967295).toNat : Int) = n % 4294967296 := by
    rw [BitVec.toNat_and, show (BitVec.ofInt 64 4294967295).toNat = 2 ^ 32 - 1 from by decide, Nat.and_two_pow_sub_one_eq_mod, BitVec.toNat_ofInt]
    omega
  show IntKind.i64.wrap ((BitVec.ofInt 64 n &&& BitVec.ofInt 64 4294967295).toNat : Int) = _
  rw [hx, IntKind.wrap_i64]
  omega
theorem drop_at {α : Type} {xs : List α} {k : Nat} {x : α} (h : xs[k]? = some x) : xs.drop k = x :: xs.drop (k + 1) := by
  obtain ⟨hk, rfl⟩ := List.getElem?_eq_some_iff.1 h
  exact List.drop_eq_getElem_cons hk
theorem take_at {α : Type} {xs : List α} {k : Nat} {x : α} (h : xs[k]? = some x) : xs.take (k + 1) = xs.take k ++ [x] := by
  rw [List.take_add_one, h]; rfl
theorem set_mid {α : Type} {c xs : List α} {k : Nat} {y : α} (hl : c.length = xs.length) (h : c[k]? = some y) : (c.take k ++ xs.drop k).set k y = c.take (k + 1) ++ xs.drop (k + 1) := by
  obtain ⟨hk, rfl⟩ := List.getElem?_eq_some_iff.1 h
  have h2 : k < xs.length := by omega
  have h3 : (c.take k).length = k := by rw [List.length_take]; omega
  rw [List.set_append, if_neg (by omega), h3, Nat.sub_self, List.take_add_one, h, List.drop_eq_getElem_cons h2]
  simp only [List.set_cons_zero, Option.toList_some, List.append_assoc, List.singleton_append]
def ramp (k : Int) (n : Nat) : List Int := (List.range n).map fun (i : Nat) => k + (i : Int)
theorem ramp_len (k : Int) (n : Nat) : (ramp k n).length = n := by simp [ramp]
theorem ramp_at {k : Int} {n j : Nat} (h : j < n) : (ramp k n)[j]? = some (k + (j : Int)) := by simp [ramp, h]
def decL (xs : List Int) (f : Nat) (i : Nat) : List Int := if _h : 0 < f ∧ i < xs.length then xs[i]?.getD 0 :: decL xs f (i + f) else []
termination_by xs.length - i
theorem decL_at {xs : List Int} {f i : Nat} {x : Int} (hf : 0 < f) (h : xs[i]? = some x) : decL xs f i = x :: decL xs f (i + f) := by
  obtain ⟨hk, _⟩ := List.getElem?_eq_some_iff.1 h
  rw [decL, dif_pos ⟨hf, hk⟩, h]
  rfl
theorem decL_end {xs : List Int} {f i : Nat} (h : xs.length ≤ i) : decL xs f i = [] := by rw [decL, dif_neg (by omega)]
def DecimateSignal (xs : List Int) (f p : Int) : List Int × Int := if sig xs then (if fac f && inn p 0 (f - 1) then (decL xs f.toNat p.toNat, 0) else ([], 2)) else ([], 1)
theorem fac_bd {f : Int} (h : fac f = true) : 1 ≤ f ∧ f ≤ 16 := by simpa [fac, inn] using h
theorem inn_bd {n lo hi : Int} (h : inn n lo hi = true) : lo ≤ n ∧ n ≤ hi := by simpa [inn] using h
theorem spn_bd {n : Int} (h : spn n = true) : 1 ≤ n ∧ n ≤ 4000 := by simpa [spn, inn] using h
theorem sig_len {xs : List Int} (h : sig xs = true) : xs.length ≤ 4000 := by simp [sig] at h; exact h.1
theorem sig_smp {xs : List Int} (h : sig xs = true) : ∀ x ∈ xs, smp x = true := by simp [sig] at h; exact h.2
theorem decL_len (xs : List Int) (f : Nat) : ∀ i, (decL xs f i).length ≤ xs.length - i := by
  intro i
  induction h : xs.length - i using Nat.strongRecOn generalizing i with
  | _ n ih =>
    rw [decL]
    split
    · rename_i hc
      have := ih (xs.length - (i + f)) (by omega) (i + f) rfl
      simp only [List.length_cons]
      omega
    · simp
theorem DecimateSignal_len (xs : List Int) (f p : Int) : (DecimateSignal xs f p).1.length ≤ 100000000 := by
  unfold DecimateSignal
  split
  · rename_i h
    have := sig_len h
    have := decL_len xs f.toNat p.toNat
    split <;> simp <;> omega
  · simp
def fold (x : Int) : Int := if x < 0 then -2 * x - 1 else 2 * x
def unfold_ (n : Int) : Int := if n.tmod 2 = 1 then wrap64 ((wrap64 (-wrap64 (n + 1))).tdiv 2) else wrap64 (n.tdiv 2)
def UnfoldSample (n : Int) : Int × Bool := if inn n 0 4294967295 then (unfold_ n, true) else (0, false)
def FoldSample (n : Int) : Int × Bool := if smp n then (fold n, true) else (0, false)
theorem smp_bd {x : Int} (h : smp x = true) : -2147483648 ≤ x ∧ x ≤ 2147483647 := by simpa [smp, inn] using h
theorem fold_bd {x : Int} (h : -2147483648 ≤ x ∧ x ≤ 2147483647) : 0 ≤ fold x ∧ fold x ≤ 4294967295 := by unfold fold; omega
theorem div_bd {y : Int} (k : Nat) (h : 0 ≤ y ∧ y ≤ 4294967295) : 0 ≤ y / 2 ^ k ∧ y / 2 ^ k ≤ 4294967295 := by
  have hp : (0 : Int) < 2 ^ k := Int.pow_pos (by decide)
  refine ⟨Int.ediv_nonneg h.1 (by omega), ?_⟩
  have := Int.ediv_le_self (2 ^ k) h.1
  omega
def bits (x k : Int) : Int := if fold x / 2 ^ k.toNat < 20 then fold x / 2 ^ k.toNat + 1 + k else 52
theorem bits_bd {x k : Int} (h : -2147483648 ≤ x ∧ x ≤ 2147483647) (hk : 0 ≤ k ∧ k ≤ 30) : 0 ≤ bits x k ∧ bits x k ≤ 52 := by
  have := div_bd k.toNat (fold_bd h)
  unfold bits
  split <;> omega
def riceFrom (k : Int) : Int → List Int → Int
  | s, [] => s
  | s, x :: xs => riceFrom k (s + bits x k) xs
def riceLen (xs : List Int) (k : Int) : Int := riceFrom k 0 xs
def isRice (k : Int) : Bool := inn k 0 30
def RiceLength (xs : List Int) (k : Int) : Int × Int := if sig xs then (if isRice k then (riceLen xs k, 0) else (0, 2)) else (0, 1)
def bestGo (xs : List Int) : Nat → Int → Int → Int → Int × Int
  | 0, _, b, l => (b, l)
  | n + 1, k, b, l => if riceLen xs k < l then bestGo xs n (k + 1) k (riceLen xs k) else bestGo xs n (k + 1) b l
def best (xs : List Int) : Int × Int := bestGo xs 30 1 0 (riceLen xs 0)
def BestRice (xs : List Int) : Int × Int × Int := if sig xs then ((best xs).1, (best xs).2, 0) else (0, 0, 1)
def combL (xs : List Int) (n : Int) : List Int := (List.range xs.length).map fun (i : Nat) => wrap32 (at_ xs i - at_ xs ((i : Int) - n))
theorem combL_len (xs : List Int) (n : Int) : (combL xs n).length = xs.length := by simp [combL]
theorem combL_at {xs : List Int} {n : Int} {k : Nat} (h : k < xs.length) : (combL xs n)[k]? = some (wrap32 (at_ xs k - at_ xs ((k : Int) - n))) := by simp [combL, h]
theorem at_neg {xs : List Int} {i : Int} (h : i < 0) : at_ xs i = 0 := by rw [at_, if_neg (by omega)]
theorem at_big {xs : List Int} {i : Int} (h : (xs.length : Int) ≤ i) : at_ xs i = 0 := by rw [at_, if_neg (by omega)]
theorem at_get {xs : List Int} {k : Nat} (h : k < xs.length) : at_ xs k = xs[k] := at_nat (List.getElem?_eq_getElem h)
theorem combL_start {xs : List Int} {n : Nat} (hs : ∀ x ∈ xs, smp x = true) : (combL xs n).take n ++ xs.drop n = xs := by
  have h : (combL xs n).take n = xs.take n := by
    apply List.ext_getElem?
    intro j
    rw [List.getElem?_take, List.getElem?_take]
    split
    · by_cases hj : j < xs.length
      · rw [combL_at hj, at_neg (i := (j : Int) - (n : Int)) (by omega), Int.sub_zero, at_get hj, wrap32_of _ (hs _ (List.getElem_mem hj)), List.getElem?_eq_getElem hj]
      · rw [List.getElem?_eq_none (by rw [combL_len]; omega), List.getElem?_eq_none (by omega)]
    · rfl
  rw [h, List.take_append_drop]
theorem combL_smp (xs : List Int) (n : Int) : ∀ x ∈ combL xs n, smp x = true := by
  intro x hx
  obtain ⟨i, _, rfl⟩ := List.mem_map.1 hx
  exact smp_wrap _
def integ : Int → List Int → List Int
  | _, [] => []
  | s, x :: xs => wrap32 (s + x) :: integ (wrap32 (s + x)) xs
theorem integ_len (xs : List Int) : ∀ s, (integ s xs).length = xs.length := by
  induction xs with
  | nil => intro s; rfl
  | cons x xs ih => intro s; simp [integ, ih]
theorem integ_smp (xs : List Int) : ∀ s, ∀ x ∈ integ s xs, smp x = true := by
  induction xs with
  | nil => intro s x hx; cases hx
  | cons y xs ih =>
    intro s x hx
    simp only [integ, List.mem_cons] at hx
    rcases hx with rfl | hx
    · exact smp_wrap _
    · exact ih _ _ hx
theorem integ_step {c xs : List Int} {s x : Int} {k : Nat} (h : c.drop k = integ s (xs.drop k)) (hx : xs[k]? = some x) : c[k]? = some (wrap32 (s + x)) ∧ c.drop (k + 1) = integ (wrap32 (s + x)) (xs.drop (k + 1)) := by
  rw [drop_at hx] at h
  simp only [integ] at h
  have h1 : c[k]? = some (wrap32 (s + x)) := by
    have := congrArg (fun l => l[0]?) h
    simpa [List.getElem?_drop] using this
  refine ⟨h1, ?_⟩
  rw [drop_at h1] at h
  injection h
/-- Sums, and what stands n places before is taken away. -/
def sumL (xs : List Int) (n : Int) : List Int := combL (integ 0 xs) n
def iter (f : List Int → List Int) : Nat → List Int → List Int
  | 0, xs => xs
  | k + 1, xs => iter f k (f xs)
def IntegrateSignal (xs : List Int) : List Int × Int := if sig xs then (integ 0 xs, 0) else ([], 1)
def CombSignal (xs : List Int) (n : Int) : List Int × Int := if sig xs then (if spn n then (combL xs n, 0) else ([], 2)) else ([], 1)
def MovingSum (xs : List Int) (n : Int) : List Int × Int := if sig xs then (if spn n then (sumL xs n, 0) else ([], 2)) else ([], 1)
def isOrder (n : Int) : Bool := inn n 0 3
def RestoreSignal (xs : List Int) (n : Int) : List Int × Int := if sig xs then (if isOrder n then (iter (integ 0) n.toNat xs, 0) else ([], 2)) else ([], 1)
theorem iter_len {f : List Int → List Int} (hf : ∀ l, (f l).length = l.length) (k : Nat) : ∀ xs, (iter f k xs).length = xs.length := by
  induction k with
  | zero => intro xs; rfl
  | succ k ih => intro xs; rw [iter, ih, hf]
theorem iter_smp {f : List Int → List Int} (hf : ∀ l, (∀ x ∈ l, smp x = true) → ∀ x ∈ f l, smp x = true) (k : Nat) : ∀ xs, (∀ x ∈ xs, smp x = true) → ∀ x ∈ iter f k xs, smp x = true := by
  induction k with
  | zero => intro xs h; exact h
  | succ k ih => intro xs h; exact ih _ (hf _ h)
theorem integ_at {xs : List Int} {k : Nat} (h : k < xs.length) : ∀ s, (integ s xs)[k]? = some (wrap32 (s + (xs.take (k + 1)).sum)) := by
  induction xs generalizing k with
  | nil => simp at h
  | cons x xs ih =>
    intro s
    cases k with
    | zero => simp [integ]
    | succ k =>
      have := ih (k := k) (by simpa using h) (wrap32 (s + x))
      simp only [integ, List.getElem?_cons_succ, this, List.take_succ_cons, List.sum_cons]
      rw [wrap32_addl, Int.add_assoc]
theorem take_sum {xs : List Int} {k : Nat} {x : Int} (h : xs[k]? = some x) : (xs.take (k + 1)).sum = (xs.take k).sum + x := by
  rw [take_at h, List.sum_append]
  simp
theorem sumL_len (xs : List Int) (n : Int) : (sumL xs n).length = xs.length := by rw [sumL, combL_len, integ_len]
theorem sumL_at {xs : List Int} {n k : Nat} (hn : 1 ≤ n) (h : k < xs.length) : (sumL xs n)[k]? = some (wrap32 ((xs.take (k + 1)).sum - (xs.take (k + 1 - n)).sum)) := by
  rw [sumL, combL_at (by rw [integ_len]; exact h), at_nat (integ_at h 0), Int.zero_add]
  by_cases hk : n ≤ k
  · have hkn : k - n < xs.length := by omega
    have := at_nat (integ_at hkn 0)
    rw [Int.zero_add, show ((k - n : Nat) : Int) = (k : Int) - n by omega] at this
    rw [this, wrap32_sub, show k + 1 - n = k - n + 1 by omega]
  · rw [at_neg (i := (k : Int) - n) (by omega), Int.sub_zero, wrap32_idem, show k + 1 - n = 0 by omega]
    simp
theorem sum_step {xs : List Int} {n k : Nat} {x : Int} (hn : 1 ≤ n) (h : xs[k]? = some x) :
    wrap32 (wrap32 (wrap32 ((xs.take k).sum - (xs.take (k - n)).sum) + x) - at_ xs ((k : Int) - n)) = wrap32 ((xs.take (k + 1)).sum - (xs.take (k + 1 - n)).sum) := by
  rw [wrap32_addl, wrap32_subl, take_sum h]
  by_cases hk : n ≤ k
  · obtain ⟨hkl, _⟩ := List.getElem?_eq_some_iff.1 h
    have hy : xs[k - n]? = some xs[k - n] := List.getElem?_eq_getElem (by omega)
    have ha := at_nat hy
    rw [show ((k - n : Nat) : Int) = (k : Int) - n by omega] at ha
    rw [ha, show k + 1 - n = k - n + 1 by omega, take_sum hy]
    congr 1
    omega
  · rw [at_neg (i := (k : Int) - n) (by omega), show k + 1 - n = 0 by omega, show k - n = 0 by omega]
    simp
theorem sumL_smp (xs : List Int) (n : Int) : ∀ x ∈ sumL xs n, smp x = true := combL_smp _ _
theorem mid_at {α : Type} {c xs : List α} {k : Nat} (hl : c.length = xs.length) : (c.take k ++ xs.drop k)[k]? = xs[k]? := by
  by_cases hk : k < c.length
  · rw [List.getElem?_append_right (by rw [List.length_take]; omega), List.length_take, Nat.min_eq_left (by omega), Nat.sub_self, List.getElem?_drop]
    simp
  · rw [List.getElem?_eq_none (by simp; omega), List.getElem?_eq_none (by omega)]
theorem isOrder_bd {n : Int} (h : isOrder n = true) : 0 ≤ n ∧ n ≤ 3 := inn_bd h
def rep (f : Nat) (b : Bool) (x : Int) : List Int := x :: List.replicate (f - 1) (if b then x else 0)
theorem rep_len {f : Nat} (hf : 1 ≤ f) (b : Bool) (x : Int) : (rep f b x).length = f := by simp [rep]; omega
theorem rep_zero {f : Nat} (b : Bool) (x : Int) : (rep f b x)[0]? = some x := rfl
theorem rep_true {f k : Nat} (hk : k < f) (x : Int) : (rep f true x)[k]? = some x := by
  cases k with
  | zero => rfl
  | succ k =>
    show (List.replicate (f - 1) x)[k]? = some x
    rw [List.getElem?_replicate, if_pos (by omega)]
theorem rep_false {f k : Nat} (h0 : 1 ≤ k) (hk : k < f) (x : Int) : (rep f false x)[k]? = some 0 := by
  cases k with
  | zero => omega
  | succ k =>
    show (List.replicate (f - 1) (0 : Int))[k]? = some 0
    rw [List.getElem?_replicate, if_pos (by omega)]
def expandL (xs : List Int) (f : Nat) (b : Bool) : List Int := xs.flatMap (rep f b)
theorem expandL_at {xs : List Int} {f k : Nat} {b : Bool} {x : Int} (h : xs[k]? = some x) : expandL (xs.drop k) f b = rep f b x ++ expandL (xs.drop (k + 1)) f b := by
  rw [drop_at h]
  simp [expandL]
theorem expandL_len (xs : List Int) {f : Nat} (hf : 1 ≤ f) (b : Bool) : (expandL xs f b).length = f * xs.length := by
  induction xs with
  | nil => simp [expandL]
  | cons x xs ih =>
    simp only [expandL, List.flatMap_cons, List.length_append, rep_len hf, List.length_cons] at ih ⊢
    rw [ih, Nat.mul_add, Nat.mul_one]
    omega
theorem expandL_smp {xs : List Int} {f : Nat} {b : Bool} (hs : ∀ x ∈ xs, smp x = true) : ∀ x ∈ expandL xs f b, smp x = true := by
  intro x hx
  obtain ⟨y, hy, hxy⟩ := List.mem_flatMap.1 hx
  simp only [rep, List.mem_cons, List.mem_replicate] at hxy
  rcases hxy with rfl | ⟨_, rfl⟩
  · exact hs _ hy
  · split
    · exact hs _ hy
    · rfl
def expandS (xs : List Int) (f : Int) (b : Bool) : List Int × Int :=
  if sig xs then (if fac f then (if f * xs.length ≤ 4000 then (expandL xs f.toNat b, 0) else ([], 5)) else ([], 2)) else ([], 1)
def longer (xs : List Int) (f : Int) : Int := if sig xs then (if fac f then (if f * xs.length ≤ 4000 then 0 else 5) else 2) else 1
def CascadeSums (xs : List Int) (n o : Int) : List Int × Int :=
  if sig xs then (if spn n && inn o 0 6 then (iter (fun l => sumL l n) o.toNat xs, 0) else ([], 2)) else ([], 1)
def CombCascade (xs : List Int) (n o : Int) : List Int × Int :=
  if sig xs then (if spn n && inn o 0 6 then (iter (fun l => combL l n) o.toNat (iter (integ 0) o.toNat xs), 0) else ([], 2)) else ([], 1)
/-- The first k products at the place i. -/
def tapSum (p x : List Int) (i : Int) : Nat → Int
  | 0 => 0
  | k + 1 => tapSum p x i k + p[k]?.getD 0 * at_ x (i - k)
def tapL (p x : List Int) : List Int := (List.range x.length).map fun (i : Nat) => wrap32 (tapSum p x i p.length)
theorem tapL_len (p x : List Int) : (tapL p x).length = x.length := by simp [tapL]
theorem tapL_at {p x : List Int} {i : Nat} (h : i < x.length) : (tapL p x)[i]? = some (wrap32 (tapSum p x i p.length)) := by simp [tapL, h]
theorem tapL_smp (p x : List Int) : ∀ y ∈ tapL p x, smp y = true := by
  intro y hy
  obtain ⟨i, _, rfl⟩ := List.mem_map.1 hy
  exact smp_wrap _
theorem tapSum_end {p x : List Int} {i : Int} {k : Nat} (h : i < k) : ∀ m, tapSum p x i (k + m) = tapSum p x i k := by
  intro m
  induction m with
  | zero => rfl
  | succ m ih =>
    rw [← Nat.add_assoc, tapSum, ih, at_neg (by omega)]
    omega
def TapSignal (xs ts : List Int) : List Int × Int := if sig xs && taps ts then (tapL ts xs, 0) else ([], 1)
def FilterDecimate (xs ts : List Int) (f : Int) : List Int × Int := if sig xs && taps ts then (if fac f then (decL (tapL ts xs) f.toNat 0, 0) else ([], 2)) else ([], 1)
def FilterExpand (xs ts : List Int) (f : Int) : List Int × Int := if taps ts then (if sig xs then (if fac f then (if f * xs.length ≤ 4000 then (tapL ts (expandL xs f.toNat false), 0) else ([], 5)) else ([], 2)) else ([], 1)) else ([], 1)
theorem mul_bd {f n : Int} (hf : 1 ≤ f ∧ f ≤ 16) (hn : 0 ≤ n ∧ n ≤ 4000) : 0 ≤ f * n ∧ f * n ≤ 64000 := by
  refine ⟨Int.mul_nonneg (by omega) hn.1, ?_⟩
  have h1 := Int.mul_le_mul_of_nonneg_right hf.2 hn.1
  omega
theorem taps_bd {ts : List Int} (h : taps ts = true) : 1 ≤ ts.length ∧ ts.length ≤ 64 ∧ ∀ x ∈ ts, smp x = true := by
  simp only [taps, inn, Bool.and_eq_true, decide_eq_true_eq, List.all_eq_true] at h
  exact ⟨by omega, by omega, h.2⟩
theorem set_same {α : Type} {xs : List α} {k : Nat} {x : α} (h : xs[k]? = some x) : xs.set k x = xs := by
  apply List.ext_getElem?
  intro j
  rw [List.getElem?_set]
  split
  · rename_i e
    subst e
    split
    · exact h.symm
    · rename_i hk
      rw [List.getElem?_eq_none (by omega)]
  · rfl
theorem IntegrateSignal_len (xs : List Int) : (IntegrateSignal xs).1.length ≤ 100000000 := by
  unfold IntegrateSignal
  split
  · rename_i h
    have := sig_len h
    simp only [integ_len]
    omega
  · simp
theorem CombSignal_len (xs : List Int) (n : Int) : (CombSignal xs n).1.length ≤ 100000000 := by
  unfold CombSignal
  split
  · rename_i h
    have := sig_len h
    split <;> simp [combL_len] <;> omega
  · simp
theorem MovingSum_len (xs : List Int) (n : Int) : (MovingSum xs n).1.length ≤ 100000000 := by
  unfold MovingSum
  split
  · rename_i h
    have := sig_len h
    split <;> simp [sumL_len] <;> omega
  · simp
theorem RestoreSignal_len (xs : List Int) (n : Int) : (RestoreSignal xs n).1.length ≤ 100000000 := by
  unfold RestoreSignal
  split
  · rename_i h
    have := sig_len h
    split <;> simp [iter_len (integ_len · 0)] <;> omega
  · simp
theorem expandS_len (xs : List Int) (f : Int) (b : Bool) : (expandS xs f b).1.length ≤ 100000000 := by
  unfold expandS
  split
  · split
    · rename_i hf
      split
      · rename_i h
        have hb := fac_bd hf
        obtain ⟨k, rfl⟩ := Int.eq_ofNat_of_zero_le (show 0 ≤ f by omega)
        rw [Int.toNat_natCast, expandL_len _ (by omega)]
        have : ((k * xs.length : Nat) : Int) ≤ 4000 := by rw [Int.natCast_mul]; exact h
        omega
      · simp
    · simp
  · simp
theorem CascadeSums_len (xs : List Int) (n o : Int) : (CascadeSums xs n o).1.length ≤ 100000000 := by
  unfold CascadeSums
  split
  · rename_i h
    have := sig_len h
    split <;> simp [iter_len (f := fun l => sumL l n) (fun l => sumL_len l n)] <;> omega
  · simp
theorem CombCascade_len (xs : List Int) (n o : Int) : (CombCascade xs n o).1.length ≤ 100000000 := by
  unfold CombCascade
  split
  · rename_i h
    have := sig_len h
    split <;> simp [iter_len (f := fun l => combL l n) (fun l => combL_len l n), iter_len (integ_len · 0)] <;> omega
  · simp
theorem TapSignal_len (xs ts : List Int) : (TapSignal xs ts).1.length ≤ 100000000 := by
  unfold TapSignal
  split
  · rename_i h
    simp only [Bool.and_eq_true] at h
    have := sig_len h.1
    simp only [tapL_len]
    omega
  · simp
theorem FilterDecimate_len (xs ts : List Int) (f : Int) : (FilterDecimate xs ts f).1.length ≤ 100000000 := by
  unfold FilterDecimate
  split
  · rename_i h
    simp only [Bool.and_eq_true] at h
    have := sig_len h.1
    have h2 := decL_len (tapL ts xs) f.toNat 0
    rw [tapL_len] at h2
    split <;> simp <;> omega
  · simp
theorem FilterExpand_len (xs ts : List Int) (f : Int) : (FilterExpand xs ts f).1.length ≤ 100000000 := by
  unfold FilterExpand
  split
  · split
    · split
      · rename_i hf
        split
        · rename_i h
          have hb := fac_bd hf
          obtain ⟨k, rfl⟩ := Int.eq_ofNat_of_zero_le (show 0 ≤ f by omega)
          rw [Int.toNat_natCast, tapL_len, expandL_len _ (by omega)]
          have : ((k * xs.length : Nat) : Int) ≤ 4000 := by rw [Int.natCast_mul]; exact h
          omega
        · simp
      · simp
    · simp
  · simp
end M
end Go.Proofs.Ytckihflfjecpbaa
