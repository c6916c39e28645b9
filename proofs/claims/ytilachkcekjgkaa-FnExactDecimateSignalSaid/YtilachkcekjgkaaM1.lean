import Derived.RowKit
import Derived.WalkKit
namespace Go.Proofs.Ytilachkcekjgkaa
open Go.RowKit
namespace M
def inn (n lo hi : Int) : Bool := decide (lo ≤ n) && decide (n ≤ hi)
def smp (n : Int) : Bool := inn n (-2147483648) 2147483647
def sig (xs : List Int) : Bool := decide (xs.length ≤ 4000) && xs.all smp
def taps (xs : List Int) : Bool := inn xs.length 1 64 && xs.all smp
def fac (f : Int) : Bool := inn f 1 16
def spn (n : Int) : Bool := inn n 1 4000
def rate (xs : List Int) (b : Bool) : Int := if sig xs then (if b then 0 else 2) else 1
def at_ (xs : List Int) (i : Int) : Int := if 0 ≤ i ∧ i < xs.length then xs[i.toNat]?.getD 0 else 0
theorem at_nat {xs : List Int} {k : Nat} {x : Int} (h : xs[k]? = some x) : at_ xs k = x := by
  obtain ⟨hk, _⟩ := List.getElem?_eq_some_iff.1 h
  rw [at_, if_pos ⟨by omega, by omega⟩, Int.toNat_natCast, h]
  rfl
theorem wrap32_64 (a : Int) : wrap32 (wrap64 a) = wrap32 a := by unfold wrap32 wrap64; omega
theorem wrap64_32 (a : Int) : wrap64 (wrap32 a) = wrap32 a := by unfold wrap32 wrap64; omega
theorem wrap32_idem (a : Int) : wrap32 (wrap32 a) = wrap32 a := by unfold wrap32; omega
theorem wrap32_add (a b : Int) : wrap32 (wrap32 a + wrap32 b) = wrap32 (a + b) := by unfold wrap32; omega
theorem wrap32_addl (a b : Int) : wrap32 (wrap32 a + b) = wrap32 (a + b) := by unfold wrap32; omega
theorem wrap32_addr (a b : Int) : wrap32 (a + wrap32 b) = wrap32 (a + b) := by unfold wrap32; omega
theorem wrap32_sub (a b : Int) : wrap32 (wrap32 a - wrap32 b) = wrap32 (a - b) := by unfold wrap32; omega
theorem wrap32_subl (a b : Int) : wrap32 (wrap32 a - b) = wrap32 (a - b) := by unfold wrap32; omega
theorem wrap32_subr (a b : Int) : wrap32 (a - wrap32 b) = wrap32 (a - b) := by unfold wrap32; omega
theorem wrap32_add64 (a b : Int) : wrap32 (wrap64 (a + b)) = wrap32 (a + b) := wrap32_64 _
theorem wrap32_of (a : Int) (h : smp a = true) : wrap32 a = a := by simp [smp, inn] at h; unfold wrap32; omega
theorem smp_wrap (a : Int) : smp (wrap32 a) = true := by simp [smp, inn]; unfold wrap32; omega
theorem wrap32_bd (a : Int) : -2147483648 ≤ wrap32 a ∧ wrap32 a ≤ 2147483647 := by unfold wrap32; omega
theorem wrap32_eq (a : Int) : ∃ k, wrap32 a = a + 4294967296 * k := ⟨-((a + 2147483648) / 4294967296), by unfold wrap32; omega⟩
theorem wrap32_cong {a b : Int} (k : Int) (h : a = b + 4294967296 * k) : wrap32 a = wrap32 b := by subst h; unfold wrap32; omega
theorem wrap32_mul (a b : Int) : wrap32 (wrap32 a * wrap32 b) = wrap32 (a * b) := by
  obtain ⟨i, hi⟩ := wrap32_eq a
  obtain ⟨j, hj⟩ := wrap32_eq b
  rw [hi, hj]
  refine wrap32_cong (a * j + i * b + i * 4294967296 * j) ?_
  simp only [Int.add_mul, Int.mul_add]
  rw [show a * (4294967296 * j) = 4294967296 * (a * j) from Int.mul_left_comm _ _ _, Int.mul_assoc 4294967296 i b, show 4294967296 * i * (4294967296 * j) = 4294967296 * (i * 4294967296 * j) from by simp only [Int.mul_assoc]]
  omega
theorem wrap64_mul_bd (a b : Int) (ha : -2147483648 ≤ a ∧ a ≤ 2147483647) (hb : -2147483648 ≤ b ∧ b ≤ 2147483647) : -4611686018427387904 ≤ a * b ∧ a * b ≤ 4611686018427387904 := by
  have h1 : a.natAbs ≤ 2147483648 := by omega
  have h2 : b.natAbs ≤ 2147483648 := by omega
  have h3 : (a * b).natAbs ≤ 2147483648 * 2147483648 := by rw [Int.natAbs_mul]; exact Nat.mul_le_mul h1 h2
  omega
theorem wrap64_in (a : Int) (h : -9223372036854775808 ≤ a ∧ a ≤ 9223372036854775807) : wrap64 a = a := by unfold wrap64; omega
/-- The 32 low bits, taken as a number that is no less than 0. -/
theorem and_low (n : Int) : bits .and .i64 n 4294967295 = n % 4294967296 := by
  have h0 : 0 ≤ n % 18446744073709551616 := Int.emod_nonneg _ (by decide)
  have hx : ((BitVec.ofInt 64 n &&& BitVec.ofInt 64 4294967295).toNat : Int) = n % 4294967296 := by
    rw [BitVec.toNat_and, show (BitVec.ofInt 64 4294967295).toNat = 2 ^ 32 - 1 from by decide, Nat.and_two_pow_sub_one_eq_mod, BitVec.toNat_ofInt]
    omega
  show IntKind.i64.wrap ((BitVec.ofInt 64 n &&& BitVec.ofInt 64 4294967295).toNat : Int) = _
  rw [hx, IntKind.wrap_i64]
  omega
theorem drop_at {α : Type} {xs : List α} {k : Nat} {x : α} (h : xs[k]? = some x) : xs.drop k = x :: xs.drop (k + 1) := by
  obtain ⟨hk, rfl⟩ := List.getElem?_eq_some_iff.1 h
  exact List.drop_eq_getElem_cons hk
theorem take_at {α : Type} {xs : List α} {k : Nat} {x : α} (h : xs[k]? = some x) : xs.take (k + 1) = xs.take k ++ [x] := by
  rw [List.take_add_one, h]; rfl
theorem set_mid {α : Type} {c xs : List α} {k : Nat} {y : α} (hl : c.length = xs.length) (h : c[k]? = some y) : (c.take k ++ xs.drop k).set k y = c.take (k + 1) ++ xs.drop (k + 1) := by
  obtain ⟨hk, rfl⟩ := List.getElem?_eq_some_iff.1 h
  have h2 : k < xs.length := by omega
  have h3 : (c.take k).length = k := by rw [List.length_take]; omega
  rw [List.set_append, if_neg (by omega), h3, Nat.sub_self, List.take_add_one, h, List.drop_eq_getElem_cons h2]
  simp only [List.set_cons_zero, Option.toList_some, List.append_assoc, List.singleton_append]
def ramp (k : Int) (n : Nat) : List Int := (List.range n).map fun (i : Nat) => k + (i : Int)
theorem ramp_len (k : Int) (n : Nat) : (ramp k n).length = n := by simp [ramp]
theorem ramp_at {k : Int} {n j : Nat} (h : j < n) : (ramp k n)[j]? = some (k + (j : Int)) := by simp [ramp, h]
def decL (xs : List Int) (f : Nat) (i : Nat) : List Int := if _h : 0 < f ∧ i < xs.length then xs[i]?.getD 0 :: decL xs f (i + f) else []
termination_by xs.length - i
theorem decL_at {xs : List Int} {f i : Nat} {x : Int} (hf : 0 < f) (h : xs[i]? = some x) : decL xs f i = x :: decL xs f (i + f) := by
  obtain ⟨hk, _⟩ := List.getElem?_eq_some_iff.1 h
  rw [decL, dif_pos ⟨hf, hk⟩, h]
  rfl
theorem decL_end {xs : List Int} {f i : Nat} (h : xs.length ≤ i) : decL xs f i = [] := by rw [decL, dif_neg (by omega)]
def DecimateSignal (xs : List Int) (f p : Int) : List Int × Int := if sig xs then (if fac f && inn p 0 (f - 1) then (decL xs f.toNat p.toNat, 0) else ([], 2)) else ([], 1)
theorem fac_bd {f : Int} (h : fac f = true) : 1 ≤ f ∧ f ≤ 16 := by simpa [fac, inn] using h
theorem inn_bd {n lo hi : Int} (h : inn n lo hi = true) : lo ≤ n ∧ n ≤ hi := by simpa [inn] using h
theorem spn_bd {n : Int} (h : spn n = true) : 1 ≤ n ∧ n ≤ 4000 := by simpa [spn, inn] using h
theorem sig_len {xs : List Int} (h : sig xs = true) : xs.length ≤ 4000 := by simp [sig] at h; exact h.1
theorem sig_smp {xs : List Int} (h : sig xs = true) : ∀ x ∈ xs, smp x = true := by simp [sig] at h; exact h.2
theorem decL_len (xs : List Int) (f : Nat) : ∀ i, (decL xs f i).length ≤ xs.length - i := by
  intro i
  induction h : xs.length - i using Nat.strongRecOn generalizing i with
  | _ n ih =>
    rw [decL]
    split
    · rename_i hc
      have := ih (xs.length - (i + f)) (by omega) (i + f) rfl
      simp only [List.length_cons]
      omega
    · simp
theorem DecimateSignal_len (xs : List Int) (f p : Int) : (DecimateSignal xs f p).1.length ≤ 100000000 := by
  unfold DecimateSignal
  split
  · rename_i h
    have := sig_len h
    have := decL_len xs f.toNat p.toNat
    split <;> simp <;> omega
  · simp
end M
end Go.Proofs.Ytilachkcekjgkaa
