import Derived.Test.YtckihflfjecpbaaW3
import Derived.Test.YtckihflfjecpbaaK5
namespace Go.Proofs.Ytckihflfjecpbaa
open Go.RowKit
set_option maxHeartbeats 400000
set_option maxRecDepth 100000
theorem OS.oi0 {e : TypeId} {w : World} {F : Nat → Prop} {v : Value} {xs : List Int} (h : OS tI e w F v xs) : OI e 0 w v xs ∧ ∀ g, v.ownBlock = some g → F g := by
  obtain ⟨css, Fs, g1, g2, g3, _, _, g6⟩ := h
  have e0 : css = xs.map fun x : Int => [Value.int .i64 x] := by
    apply List.ext_getElem (by simp [g2])
    intro i hi hi'
    rw [List.getElem_map]
    exact g6 i (by omega) hi
  subst e0
  rw [← List.flatMap_def, flat_ints] at g1
  exact ⟨g1, g3⟩
theorem OS.of_oi0 {e : TypeId} {w : World} {F : Nat → Prop} {v : Value} {xs : List Int} (h : OI e 0 w v xs) (hF : ∀ g, v.ownBlock = some g → F g) : OS tI e w F v xs := by
  refine ⟨xs.map fun x : Int => [Value.int .i64 x], fun _ _ => False, ?_, by simp, hF, fun _ _ h => h.elim, fun _ _ _ _ h => h.elim, fun k hk hk' => ?_⟩
  · rw [← List.flatMap_def, flat_ints]
    exact h
  · show (xs.map _)[k] = _
    rw [List.getElem_map]
/-! []int64 -/
abbrev tS : Ty (List Int) := tI.sl 2
abbrev hS : Hs (List Int) := hI.sl
theorem hS_sz (xs : List Int) : hS.sz xs = xs.length := by show xs.length + hI.szL xs = _; rw [hI_szL]; rfl
theorem hS_cnt (xs : List Int) : hS.cnt xs = xs.length := hI_cntL xs
theorem hS_mark (k : Int) (xs : List Int) : hS.mark k xs = M.ramp k xs.length := hI_mkL k xs
theorem tS_R {w : World} {B : Nat} {A : Option Addr} {n c : Nat} {xs : List Int} : tS.R w B [.slice A n c] xs ↔ RS tI w B (.slice A n c) xs :=
  ⟨fun ⟨v, h, h'⟩ => by injection h with h; rw [h]; exact h', fun h => ⟨_, rfl, h⟩⟩
theorem tS_O {w : World} {F : Nat → Prop} {v : Value} {xs : List Int} : tS.O w F [v] xs ↔ OS tI 2 w F v xs :=
  ⟨fun ⟨v, h, h'⟩ => by injection h with h; rw [h]; exact h', fun h => ⟨_, rfl, h⟩⟩
theorem nf_to_S (A : Option Addr) (n c : Nat) (xs : List Int) (w : World) (hx : tS.R w w.heap.size [.slice A n c] xs) (hn : hS.sz xs ≤ 100000000) :
    Calls Try.prog 41 #[.slice A n c] w fun e w' => ∃ A' n' c', e = .returned (.slice A' n' c') ∧ tS.O w' (Iv w.heap.size w'.heap.size) [.slice A' n' c'] xs ∧ Below w.heap.size w w' := by
  have h := tS_R.1 hx
  have hl := h.cap.1
  rw [hS_sz] at hn
  refine (laws_toInt64S A n c xs w h.ri (by omega)).mono ?_
  rintro e w' ⟨v, rfl, own, bel⟩
  obtain ⟨A', c', rfl, _⟩ := own.shape
  exact ⟨_, _, _, rfl, tS_O.2 own.os, bel⟩
theorem nf_eq_S (A A' : Option Addr) (n c n' c' : Nat) (xs : List Int) (w : World) (hx : tS.R w w.heap.size [.slice A n c] xs) (hy : tS.R w w.heap.size [.slice A' n' c'] xs) (hn : hS.sz xs ≤ 100000000) :
    Calls Try.prog 29 #[.slice A n c, .slice A' n' c'] w fun e w' => e = .returned (.bool true) ∧ Below w.heap.size w w' := by
  have h := tS_R.1 hx
  have hl := h.cap.1
  rw [hS_sz] at hn
  have := laws_eqInt64S A A' n c n' c' xs xs w h.ri (tS_R.1 hy).ri (by omega)
  rw [decide_eq_true (rfl : xs = xs)] at this
  exact this
theorem nf_mark_S (A : Option Addr) (n c : Nat) (k : Int) (xs : List Int) (w : World) (F : Nat → Prop) (hx : tS.O w F [.slice A n c] xs) (hk : 0 ≤ k ∧ k + (hS.cnt xs : Int) ≤ 1000000000) :
    Calls Try.prog 30 #[.slice A n c, .int .i64 k] w fun e w' => e = .returned (.int .i64 (k + hS.cnt xs)) ∧ tS.O w' F [.slice A n c] (hS.mark k xs) ∧ Chg F w w' := by
  obtain ⟨h1, h2⟩ := (tS_O.1 hx).oi0
  rw [hS_cnt] at *
  rw [hS_mark]
  refine (laws_markInt64S _ 0 xs.length k xs w h1 rfl (by omega) (by omega)).mono ?_
  rintro e w' ⟨rfl, own, hg⟩
  exact ⟨rfl, tS_O.2 (OS.of_oi0 own h2), Chg.of_grown hg h2⟩
theorem nf_held_S (A : Option Addr) (n c : Nat) (k : Int) (xs : List Int) (w : World) (hx : tS.R w w.heap.size [.slice A n c] (hS.mark k xs)) (hk : 0 ≤ k ∧ k + (hS.cnt xs : Int) ≤ 1000000000) :
    Calls Try.prog 31 #[.slice A n c, .int .i64 k] w fun e w' => e = .returned (.int .i64 (k + hS.cnt xs)) ∧ Below w.heap.size w w' := by
  have h := tS_R.1 hx
  have hl := h.cap.1
  rw [hS_mark] at h hl
  rw [M.ramp_len] at hl
  rw [hS_cnt] at *
  subst hl
  refine (laws_heldInt64S A _ c k w h.ri (by omega) (by omega)).mono ?_
  rintro e w' ⟨rfl, rfl⟩
  exact ⟨rfl, Below.refl _ _⟩
theorem cl_S (x : List Int) : hS.cnt x ≤ 10 * hS.sz x + 10 := by rw [hS_sz, hS_cnt]; omega
theorem tS_len {w : World} {B : Nat} {A : Option Addr} {n c : Nat} {xs : List Int} (h : tS.R w B [.slice A n c] xs) : xs.length = n := (tS_R.1 h).cap.1
end Go.Proofs.Ytckihflfjecpbaa
