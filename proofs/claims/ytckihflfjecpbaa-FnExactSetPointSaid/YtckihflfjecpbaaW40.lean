import Derived.Test.YtckihflfjecpbaaW22
import Derived.Test.YtckihflfjecpbaaW41
namespace Go.Proofs.Ytckihflfjecpbaa
open Go.RowKit
set_option maxHeartbeats 400000
set_option maxRecDepth 100000
/-! Curve -/
abbrev tPt : Ty (Int × Int) := Ty.flat 2 (by decide) (0, 0) pt pt_len (by simp [pt, Value.oneCell'])
abbrev hPt : Hs (Int × Int) := hI.prod hI
abbrev tC : Ty (List (Int × Int)) := tPt.sl 34
abbrev hC : Hs (List (Int × Int)) := hPt.sl
theorem hPt_szL (xs : List (Int × Int)) : hPt.szL xs = 0 := by
  induction xs with
  | nil => rfl
  | cons x xs ih => rw [Hs.szL, ih]; rfl
theorem hPt_cntL (xs : List (Int × Int)) : hPt.cntL xs = 2 * xs.length := by
  induction xs with
  | nil => rfl
  | cons x xs ih =>
    rw [Hs.cntL, ih, List.length_cons]
    show 1 + 1 + _ = _
    omega
theorem hPt_mkL (k : Int) (xs : List (Int × Int)) : hPt.mkL k xs = rampP k xs.length := by
  apply List.ext_getElem?
  intro i
  by_cases hi : i < xs.length
  · rw [hPt.mkL_at k (List.getElem?_eq_getElem hi), hPt_cntL, List.length_take, rampP_at hi]
    show some (_, _) = some (_, _)
    simp only [Hs.prod, hI, Option.some.injEq, Prod.mk.injEq]
    omega
  · rw [List.getElem?_eq_none (by rw [Hs.mkL_len]; omega), List.getElem?_eq_none (by rw [rampP_len]; omega)]
theorem hC_sz (xs : List (Int × Int)) : hC.sz xs = xs.length := by show xs.length + hPt.szL xs = _; rw [hPt_szL]; rfl
theorem hC_cnt (xs : List (Int × Int)) : hC.cnt xs = 2 * xs.length := hPt_cntL xs
theorem hC_mark (k : Int) (xs : List (Int × Int)) : hC.mark k xs = rampP k xs.length := hPt_mkL k xs
theorem tC_R {w : World} {B : Nat} {A : Option Addr} {n c : Nat} {xs : List (Int × Int)} : tC.R w B [.slice A n c] xs ↔ RS tPt w B (.slice A n c) xs :=
  ⟨fun ⟨v, h, h'⟩ => by injection h with h; rw [h]; exact h', fun h => ⟨_, rfl, h⟩⟩
theorem tC_O {w : World} {F : Nat → Prop} {v : Value} {xs : List (Int × Int)} : tC.O w F [v] xs ↔ OS tPt 34 w F v xs :=
  ⟨fun ⟨v, h, h'⟩ => by injection h with h; rw [h]; exact h', fun h => ⟨_, rfl, h⟩⟩
theorem tC_ra {w : World} {B : Nat} {A : Option Addr} {n c : Nat} {xs : List (Int × Int)} (h : tC.R w B [.slice A n c] xs) : RA pt 2 w B A n xs := (tC_R.1 h).flat.1
theorem nf_sz_C (A : Option Addr) (n c : Nat) (xs : List (Int × Int)) (l : Int) (w : World) (hx : tC.R w w.heap.size [.slice A n c] xs) (hl : 0 ≤ l ∧ l ≤ 1000000000) :
    Calls Try.prog 17 #[.agg #[.slice A n c], .int .i64 l] w fun e w' => e = .returned (.int .i64 (if (hC.sz xs : Int) ≤ l then l - hC.sz xs else -1)) ∧ Below w.heap.size w w' := by
  obtain ⟨h1, h2, h3⟩ := (tC_R.1 hx).cap
  rw [hC_sz, h1]
  exact laws_szCurve A n c l w hl (by unfold maxLen at h3; omega)
theorem nf_to_C (A : Option Addr) (n c : Nat) (xs : List (Int × Int)) (w : World) (hx : tC.R w w.heap.size [.slice A n c] xs) (hn : hC.sz xs ≤ 100000000) :
    Calls Try.prog 19 #[.agg #[.slice A n c]] w fun e w' => ∃ A' n' c', e = .returned (.agg #[.slice A' n' c']) ∧ tC.O w' (Iv w.heap.size w'.heap.size) [.slice A' n' c'] xs ∧ Below w.heap.size w w' := by
  have hl := (tC_R.1 hx).cap.1
  rw [hC_sz] at hn
  refine (laws_toCurve A n c xs w (tC_ra hx) (by omega)).mono ?_
  rintro e w' ⟨v, rfl, own, bel⟩
  obtain ⟨A', c', rfl, _⟩ := own.shape
  exact ⟨_, _, _, rfl, tC_O.2 (OS.of_flat own), bel⟩
theorem nf_eq_C (A A' : Option Addr) (n c n' c' : Nat) (xs : List (Int × Int)) (w : World) (hx : tC.R w w.heap.size [.slice A n c] xs) (hy : tC.R w w.heap.size [.slice A' n' c'] xs) (hn : hC.sz xs ≤ 100000000) :
    Calls Try.prog 22 #[.agg #[.slice A n c], .agg #[.slice A' n' c']] w fun e w' => e = .returned (.bool true) ∧ Below w.heap.size w w' := by
  have hl := (tC_R.1 hx).cap.1
  rw [hC_sz] at hn
  have := laws_eqCurve A A' n c n' c' xs xs w (tC_ra hx) (tC_ra hy) (by omega)
  rw [decide_eq_true (rfl : xs = xs)] at this
  exact this
theorem nf_mark_C (A : Option Addr) (n c : Nat) (k : Int) (xs : List (Int × Int)) (w : World) (lo hi : Nat) (hx : tC.O w (Iv lo hi) [.slice A n c] xs) (hh : hi ≤ w.heap.size) (hk : 0 ≤ k ∧ k + (hC.cnt xs : Int) ≤ 1000000000) :
    Calls Try.prog 23 #[.agg #[.slice A n c], .int .i64 k] w fun e w' => e = .returned (.int .i64 (k + hC.cnt xs)) ∧ tC.O w' (Iv lo hi) [.slice A n c] (hC.mark k xs) ∧ Chg (Iv lo hi) w w' := by
  have h1 := (tC_O.1 hx).flat
  rw [hC_cnt] at *
  rw [hC_mark]
  refine (laws_markCurve _ lo hi xs.length k xs w h1 hh rfl (by omega) (by omega)).mono ?_
  rintro e w' ⟨rfl, own, hg⟩
  exact ⟨by rw [Int.natCast_mul]; rfl, tC_O.2 (OS.of_flat own), Chg.of_mid hg⟩
theorem nf_held_C (A : Option Addr) (n c : Nat) (k : Int) (xs : List (Int × Int)) (w : World) (hx : tC.R w w.heap.size [.slice A n c] (hC.mark k xs)) (hk : 0 ≤ k ∧ k + (hC.cnt xs : Int) ≤ 1000000000) :
    Calls Try.prog 24 #[.agg #[.slice A n c], .int .i64 k] w fun e w' => e = .returned (.int .i64 (k + hC.cnt xs)) ∧ Below w.heap.size w w' := by
  have hl := (tC_R.1 hx).cap.1
  have h := tC_ra hx
  rw [hC_mark] at h hl
  rw [rampP_len] at hl
  rw [hC_cnt] at *
  subst hl
  refine (laws_heldCurve A _ c k w h (by omega) (by omega)).mono ?_
  rintro e w' ⟨rfl, bel⟩
  exact ⟨by rw [Int.natCast_mul]; rfl, bel⟩
theorem cl_C (x : List (Int × Int)) : hC.cnt x ≤ 10 * hC.sz x + 10 := by rw [hC_sz, hC_cnt]; omega
end Go.Proofs.Ytckihflfjecpbaa
