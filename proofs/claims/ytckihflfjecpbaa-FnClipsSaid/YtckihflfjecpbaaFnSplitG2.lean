import Derived.Test.YtckihflfjecpbaaFnSplitG1
import Derived.Test.YtckihflfjecpbaaProg
import Derived.Lib.QuietBelow
import Derived.BigQuiet
set_option linter.unusedVariables false
set_option linter.unusedSimpArgs false
namespace Go.Proofs.Ytckihflfjecpbaa
open Go.RowKit
section
variable {α : Type} (t : Ty α) {w w' : World} {B lo hi lo' hi' l r : Nat} {cs : List Value} {x : α} {F F' : Nat → Prop}
theorem Ty.below (h : t.R w B cs x) (hb : Below B w w') : t.R w' B cs x := t.keep (fun _ hp => hb.cell hp) h
theorem Ty.later (h : t.R w w.heap.size cs x) (hb : Below w.heap.size w w') : t.R w' w'.heap.size cs x := t.more hb.size (t.below h hb)
theorem Ty.obelow (h : t.O w (Iv lo hi) cs x) (hb : Below B w w') (hB : hi ≤ B) : t.O w' (Iv lo hi) cs x := t.okeep (fun b hF => hb.block b (Nat.lt_of_lt_of_le hF.2 hB)) h
theorem Ty.omid (h : t.O w (Iv lo hi) cs x) (hm : Mid l r w w') (hd : hi ≤ l ∨ r ≤ lo) (hs : hi ≤ w.heap.size) : t.O w' (Iv lo hi) cs x :=
  t.okeep (fun b ⟨h1, h2⟩ => hm.block b (by omega) (by omega)) h
theorem Ty.oiv (h : t.O w (Iv lo hi) cs x) (h1 : lo' ≤ lo) (h2 : hi ≤ hi') : t.O w (Iv lo' hi') cs x := t.owide (Iv.mono h1 h2) h
theorem Ty.ochg (h : t.O w F cs x) (hc : Chg F' w w') (hd : ∀ b, F b → ¬ F' b) : t.O w' F cs x := t.owide (fun b hb => hb.1) (t.okeep (fun b hb => hc.block b hb.2 (hd b hb.1)) (t.oreal h))
end
section
variable {w w' : World} {B lo hi n c : Nat} {A : Option Addr} {v : Value} {e : TypeId}
/-- Flat elements. -/
theorem RS.flat {α : Type} {s : Nat} {pos : 0 < s} {zero : α} {enc : α → List Value} {henc : ∀ x, (enc x).length = s} {h1 : ∀ x, ∀ u ∈ enc x, u.oneCell' = true} {xs : List α}
    (h : RS (Ty.flat s pos zero enc henc h1) w B (.slice A n c) xs) : RA enc s w B A n xs ∧ n ≤ c ∧ c ≤ maxLen := by
  obtain ⟨A', c', css, hv, h1', h2, h3, h4, h5⟩ := h
  simp only [Value.slice.injEq] at hv
  obtain ⟨rfl, rfl, rfl⟩ := hv
  refine ⟨⟨rfl, ?_⟩, h1', h2⟩
  have e0 : css = xs.map enc := by
    apply List.ext_getElem (by simp [h3])
    intro i hi hi'
    rw [List.getElem_map]
    exact h5 i (by omega) hi
  rw [List.flatMap_def, ← e0]
  exact h4
theorem RS.of_flat {α : Type} {s : Nat} {pos : 0 < s} {zero : α} {enc : α → List Value} {henc : ∀ x, (enc x).length = s} {h1 : ∀ x, ∀ u ∈ enc x, u.oneCell' = true} {xs : List α}
    (h : RA enc s w B A n xs) (hc : n ≤ c) (hm : c ≤ maxLen) : RS (Ty.flat s pos zero enc henc h1) w B (.slice A n c) xs := by
  obtain ⟨rfl, h2⟩ := h
  rw [List.flatMap_def] at h2
  exact ⟨A, c, xs.map enc, rfl, hc, hm, by simp, h2, fun k hk hk' => by
    show (xs.map enc)[k] = enc xs[k]
    rw [List.getElem_map]⟩
theorem OS.flat {α : Type} {s : Nat} {pos : 0 < s} {zero : α} {enc : α → List Value} {henc : ∀ x, (enc x).length = s} {h1 : ∀ x, ∀ u ∈ enc x, u.oneCell' = true} {xs : List α}
    (h : OS (Ty.flat s pos zero enc henc h1) e w (Iv lo hi) v xs) : OA enc e s lo hi w v xs := by
  obtain ⟨css, Fs, g1, g2, g3, _, _, g6⟩ := h
  have e0 : css = xs.map enc := by
    apply List.ext_getElem (by simp [g2])
    intro i hi hi'
    rw [List.getElem_map]
    exact g6 i (by omega) hi
  subst e0
  refine ⟨⟨by rw [List.flatMap_def]; exact g1.1, ?_⟩, fun k hk => (g3 k hk).2⟩
  rcases g1.2 with hn | ⟨g, cap, cur, rfl, hb, rest⟩
  · exact .inl hn
  · rw [List.flatMap_def]
    exact .inr ⟨g, cap, cur, rfl, (g3 g rfl).1, rest⟩
theorem OS.of_flat {α : Type} {s : Nat} {pos : 0 < s} {zero : α} {enc : α → List Value} {henc : ∀ x, (enc x).length = s} {h1 : ∀ x, ∀ u ∈ enc x, u.oneCell' = true} {xs : List α}
    (h : OA enc e s lo hi w v xs) : OS (Ty.flat s pos zero enc henc h1) e w (Iv lo hi) v xs := by
  refine ⟨xs.map enc, fun _ _ => False, ?_, by simp, fun g hg => ⟨(h.1.lt g hg).1, h.2 g hg⟩, fun _ _ h => h.elim, fun _ _ _ _ h => h.elim, fun k hk hk' => ?_⟩
  · rw [← List.flatMap_def]
    exact own_base h.1 (Nat.zero_le _)
  · show (xs.map enc)[k] = enc xs[k]
    rw [List.getElem_map]
theorem flat_ints (xs : List Int) : xs.flatMap (fun x : Int => [Value.int .i64 x]) = xs.map (.int .i64) := by
  induction xs with
  | nil => rfl
  | cons y ys ih => rw [List.flatMap_cons, ih]; rfl
theorem RS.ri {xs : List Int} (h : RS tI w B (.slice A n c) xs) : RI w B A n xs := by
  have := h.flat.1.2
  rw [flat_ints] at this
  exact this
theorem RS.of_ri {xs : List Int} (h : RI w B A n xs) (hc : n ≤ c) (hm : c ≤ maxLen) : RS tI w B (.slice A n c) xs :=
  RS.of_flat ⟨h.len, by rw [flat_ints]; exact h⟩ hc hm
theorem OS.oi {xs : List Int} (h : OS tI e w (Iv lo hi) v xs) : OI e lo w v xs := by
  have := h.flat.1
  rw [flat_ints] at this
  exact this
theorem OS.of_oi {xs : List Int} (h : OI e lo w v xs) (hh : ∀ k, v.ownBlock = some k → k < hi) : OS tI e w (Iv lo hi) v xs :=
  OS.of_flat ⟨by rw [flat_ints]; exact h, hh⟩
theorem OI.os {xs : List Int} (h : OI e lo w v xs) : OS tI e w (Iv lo w.heap.size) v xs := OS.of_oi h fun k hk => (World.ownsRow.lt h k hk).2
end
/-- All ints of a list bounded .. what a harness counts: its measure of size, its marks. -/
structure Hs (α : Type) where
  sz : α → Nat
  mark : Int → α → α
  cnt : α → Nat
def hI : Hs Int := ⟨fun _ => 0, fun k _ => k, fun _ => 1⟩
section
variable {α β : Type}
def Hs.mkL (h : Hs α) : Int → List α → List α
  | _, [] => []
  | k, x :: xs => h.mark k x :: h.mkL (k + h.cnt x) xs
def Hs.cntL (h : Hs α) : List α → Nat
  | [] => 0
  | x :: xs => h.cnt x + h.cntL xs
def Hs.szL (h : Hs α) : List α → Nat
  | [] => 0
  | x :: xs => h.sz x + h.szL xs
def Hs.sl (h : Hs α) : Hs (List α) := ⟨fun xs => xs.length + h.szL xs, h.mkL, h.cntL⟩
def Hs.prod (a : Hs α) (b : Hs β) : Hs (α × β) := ⟨fun x => a.sz x.1 + b.sz x.2, fun k x => (a.mark k x.1, b.mark (k + a.cnt x.1) x.2), fun x => a.cnt x.1 + b.cnt x.2⟩
theorem Hs.mkL_len (h : Hs α) (k : Int) (xs : List α) : (h.mkL k xs).length = xs.length := by
  induction xs generalizing k with
  | nil => rfl
  | cons x xs ih => simp [Hs.mkL, ih]
theorem Hs.cntL_take (h : Hs α) {xs : List α} {i : Nat} {x : α} (hx : xs[i]? = some x) : h.cntL (xs.take (i + 1)) = h.cntL (xs.take i) + h.cnt x := by
  induction xs generalizing i with
  | nil => simp at hx
  | cons y ys ih =>
    cases i with
    | zero => simp at hx; subst hx; simp [Hs.cntL]
    | succ i =>
      simp only [List.getElem?_cons_succ] at hx
      rw [List.take_succ_cons, List.take_succ_cons, Hs.cntL, Hs.cntL, ih hx]
      omega
theorem Hs.szL_take (h : Hs α) {xs : List α} {i : Nat} {x : α} (hx : xs[i]? = some x) : h.szL (xs.take (i + 1)) = h.szL (xs.take i) + h.sz x := by
  induction xs generalizing i with
  | nil => simp at hx
  | cons y ys ih =>
    cases i with
    | zero => simp at hx; subst hx; simp [Hs.szL]
    | succ i =>
      simp only [List.getElem?_cons_succ] at hx
      rw [List.take_succ_cons, List.take_succ_cons, Hs.szL, Hs.szL, ih hx]
      omega
theorem Hs.mkL_at (h : Hs α) {xs : List α} {i : Nat} {x : α} (k : Int) (hx : xs[i]? = some x) : (h.mkL k xs)[i]? = some (h.mark (k + h.cntL (xs.take i)) x) := by
  induction xs generalizing i k with
  | nil => simp at hx
  | cons y ys ih =>
    cases i with
    | zero => simp at hx; subst hx; simp [Hs.mkL, Hs.cntL]
    | succ i =>
      simp only [List.getElem?_cons_succ] at hx
      rw [Hs.mkL, List.getElem?_cons_succ, ih _ hx, List.take_succ_cons, Hs.cntL]
      congr 2
      omega
theorem Hs.cntL_mono (h : Hs α) (xs : List α) (i : Nat) : h.cntL (xs.take i) ≤ h.cntL xs := by
  induction xs generalizing i with
  | nil => simp
  | cons y ys ih =>
    cases i with
    | zero => simp [Hs.cntL]
    | succ i => rw [List.take_succ_cons, Hs.cntL, Hs.cntL]; have := ih i; omega
theorem Hs.szL_mono (h : Hs α) (xs : List α) (i : Nat) : h.szL (xs.take i) ≤ h.szL xs := by
  induction xs generalizing i with
  | nil => simp
  | cons y ys ih =>
    cases i with
    | zero => simp [Hs.szL]
    | succ i => rw [List.take_succ_cons, Hs.szL, Hs.szL]; have := ih i; omega
theorem Hs.szL_at (h : Hs α) {xs : List α} {i : Nat} {x : α} (hx : xs[i]? = some x) : h.szL (xs.take i) + h.sz x ≤ h.szL xs := by
  rw [← h.szL_take hx]
  exact h.szL_mono _ _
theorem Hs.cntL_at (h : Hs α) {xs : List α} {i : Nat} {x : α} (hx : xs[i]? = some x) : h.cntL (xs.take i) + h.cnt x ≤ h.cntL xs := by
  rw [← h.cntL_take hx]
  exact h.cntL_mono _ _
end
theorem hI_cntL (xs : List Int) : hI.cntL xs = xs.length := by
  induction xs with
  | nil => rfl
  | cons x xs ih => rw [Hs.cntL, ih, List.length_cons, Nat.add_comm]; rfl
theorem hI_szL (xs : List Int) : hI.szL xs = 0 := by
  induction xs with
  | nil => rfl
  | cons x xs ih => rw [Hs.szL, ih]; rfl
theorem hI_mkL (k : Int) (xs : List Int) : hI.mkL k xs = M.ramp k xs.length := by
  induction xs generalizing k with
  | nil => simp [Hs.mkL, M.ramp]
  | cons x xs ih =>
    rw [Hs.mkL, ih]
    apply List.ext_getElem?
    intro i
    cases i with
    | zero => simp [M.ramp, hI]
    | succ i =>
      rw [List.getElem?_cons_succ]
      simp only [M.ramp, List.getElem?_map, List.length_cons]
      by_cases hi : i < xs.length
      · rw [List.getElem?_range hi, List.getElem?_range (by omega)]
        simp [hI]
        omega
      · rw [List.getElem?_eq_none (by simp; omega), List.getElem?_eq_none (by simp; omega)]
        rfl
end Go.Proofs.Ytckihflfjecpbaa
namespace Go.Proofs.Ytckihflfjecpbaa
open Go.RowKit
set_option maxHeartbeats 400000
set_option maxRecDepth 100000
theorem OS.oi0 {e : TypeId} {w : World} {F : Nat → Prop} {v : Value} {xs : List Int} (h : OS tI e w F v xs) : OI e 0 w v xs ∧ ∀ g, v.ownBlock = some g → F g := by
  obtain ⟨css, Fs, g1, g2, g3, _, _, g6⟩ := h
  have e0 : css = xs.map fun x : Int => [Value.int .i64 x] := by
    apply List.ext_getElem (by simp [g2])
    intro i hi hi'
    rw [List.getElem_map]
    exact g6 i (by omega) hi
  subst e0
  rw [← List.flatMap_def, flat_ints] at g1
  exact ⟨g1, g3⟩
theorem OS.of_oi0 {e : TypeId} {w : World} {F : Nat → Prop} {v : Value} {xs : List Int} (h : OI e 0 w v xs) (hF : ∀ g, v.ownBlock = some g → F g) : OS tI e w F v xs := by
  refine ⟨xs.map fun x : Int => [Value.int .i64 x], fun _ _ => False, ?_, by simp, hF, fun _ _ h => h.elim, fun _ _ _ _ h => h.elim, fun k hk hk' => ?_⟩
  · rw [← List.flatMap_def, flat_ints]
    exact h
  · show (xs.map _)[k] = _
    rw [List.getElem_map]
/-! []int64 -/
abbrev tS : Ty (List Int) := tI.sl 2
abbrev hS : Hs (List Int) := hI.sl
theorem hS_sz (xs : List Int) : hS.sz xs = xs.length := by show xs.length + hI.szL xs = _; rw [hI_szL]; rfl
theorem hS_cnt (xs : List Int) : hS.cnt xs = xs.length := hI_cntL xs
theorem hS_mark (k : Int) (xs : List Int) : hS.mark k xs = M.ramp k xs.length := hI_mkL k xs
theorem tS_R {w : World} {B : Nat} {A : Option Addr} {n c : Nat} {xs : List Int} : tS.R w B [.slice A n c] xs ↔ RS tI w B (.slice A n c) xs :=
  ⟨fun ⟨v, h, h'⟩ => by injection h with h; rw [h]; exact h', fun h => ⟨_, rfl, h⟩⟩
theorem tS_O {w : World} {F : Nat → Prop} {v : Value} {xs : List Int} : tS.O w F [v] xs ↔ OS tI 2 w F v xs :=
  ⟨fun ⟨v, h, h'⟩ => by injection h with h; rw [h]; exact h', fun h => ⟨_, rfl, h⟩⟩
theorem nf_to_S (A : Option Addr) (n c : Nat) (xs : List Int) (w : World) (hx : tS.R w w.heap.size [.slice A n c] xs) (hn : hS.sz xs ≤ 100000000) :
    Calls Try.prog 41 #[.slice A n c] w fun e w' => ∃ A' n' c', e = .returned (.slice A' n' c') ∧ tS.O w' (Iv w.heap.size w'.heap.size) [.slice A' n' c'] xs ∧ Below w.heap.size w w' := by
  have h := tS_R.1 hx
  have hl := h.cap.1
  rw [hS_sz] at hn
  refine (laws_toInt64S A n c xs w h.ri (by omega)).mono ?_
  rintro e w' ⟨v, rfl, own, bel⟩
  obtain ⟨A', c', rfl, _⟩ := own.shape
  exact ⟨_, _, _, rfl, tS_O.2 own.os, bel⟩
theorem nf_eq_S (A A' : Option Addr) (n c n' c' : Nat) (xs : List Int) (w : World) (hx : tS.R w w.heap.size [.slice A n c] xs) (hy : tS.R w w.heap.size [.slice A' n' c'] xs) (hn : hS.sz xs ≤ 100000000) :
    Calls Try.prog 29 #[.slice A n c, .slice A' n' c'] w fun e w' => e = .returned (.bool true) ∧ Below w.heap.size w w' := by
  have h := tS_R.1 hx
  have hl := h.cap.1
  rw [hS_sz] at hn
  have := laws_eqInt64S A A' n c n' c' xs xs w h.ri (tS_R.1 hy).ri (by omega)
  rw [decide_eq_true (rfl : xs = xs)] at this
  exact this
theorem nf_mark_S (A : Option Addr) (n c : Nat) (k : Int) (xs : List Int) (w : World) (F : Nat → Prop) (hx : tS.O w F [.slice A n c] xs) (hk : 0 ≤ k ∧ k + (hS.cnt xs : Int) ≤ 1000000000) :
    Calls Try.prog 30 #[.slice A n c, .int .i64 k] w fun e w' => e = .returned (.int .i64 (k + hS.cnt xs)) ∧ tS.O w' F [.slice A n c] (hS.mark k xs) ∧ Chg F w w' := by
  obtain ⟨h1, h2⟩ := (tS_O.1 hx).oi0
  rw [hS_cnt] at *
  rw [hS_mark]
  refine (laws_markInt64S _ 0 xs.length k xs w h1 rfl (by omega) (by omega)).mono ?_
  rintro e w' ⟨rfl, own, hg⟩
  exact ⟨rfl, tS_O.2 (OS.of_oi0 own h2), Chg.of_grown hg h2⟩
theorem nf_held_S (A : Option Addr) (n c : Nat) (k : Int) (xs : List Int) (w : World) (hx : tS.R w w.heap.size [.slice A n c] (hS.mark k xs)) (hk : 0 ≤ k ∧ k + (hS.cnt xs : Int) ≤ 1000000000) :
    Calls Try.prog 31 #[.slice A n c, .int .i64 k] w fun e w' => e = .returned (.int .i64 (k + hS.cnt xs)) ∧ Below w.heap.size w w' := by
  have h := tS_R.1 hx
  have hl := h.cap.1
  rw [hS_mark] at h hl
  rw [M.ramp_len] at hl
  rw [hS_cnt] at *
  subst hl
  refine (laws_heldInt64S A _ c k w h.ri (by omega) (by omega)).mono ?_
  rintro e w' ⟨rfl, rfl⟩
  exact ⟨rfl, Below.refl _ _⟩
theorem cl_S (x : List Int) : hS.cnt x ≤ 10 * hS.sz x + 10 := by rw [hS_sz, hS_cnt]; omega
theorem tS_len {w : World} {B : Nat} {A : Option Addr} {n c : Nat} {xs : List Int} (h : tS.R w B [.slice A n c] xs) : xs.length = n := (tS_R.1 h).cap.1
end Go.Proofs.Ytckihflfjecpbaa
namespace Go.Proofs.Ytckihflfjecpbaa
open Go.RowKit
set_option maxHeartbeats 1000000
set_option maxRecDepth 100000
section
variable {α : Type} {t : Ty α} {e : TypeId} {w : World} {B : Nat} {F : Nat → Prop} {v : Value} {xs : List α}
theorem sl_R : (t.sl e).R w B [v] xs ↔ RS t w B v xs := ⟨fun ⟨v, h, h'⟩ => by injection h with h; rw [h]; exact h', fun h => ⟨_, rfl, h⟩⟩
theorem sl_O : (t.sl e).O w F [v] xs ↔ OS t e w F v xs := ⟨fun ⟨v, h, h'⟩ => by injection h with h; rw [h]; exact h', fun h => ⟨_, rfl, h⟩⟩
end
theorem open_S {w : World} {B : Nat} {cs : List Value} {x : List Int} (h : tS.R w B cs x) : ∃ A n c, cs = [.slice A n c] := by
  obtain ⟨v, rfl, hr⟩ := h
  obtain ⟨A, c, rfl⟩ := hr.shape
  exact ⟨_, _, _, rfl⟩
theorem keptB_all {B : Nat} {w w1 w2 : World} (h1 : Below B w1 w2) (hB : B = w1.heap.size) (h0 : Below w.heap.size w w1) : Below w.heap.size w w2 := by
  subst hB
  exact h0.trans (h1.mono h0.size)
theorem keptB {B : Nat} {w w1 w2 : World} {b o : Nat} {u : Value} (h1 : Below B w1 w2) (hB : B = w1.heap.size) (h0 : Below w.heap.size w w1) (h : w.cell? ⟨b, o, none⟩ = some u) (hb : b < w.heap.size) : w2.cell? ⟨b, o, none⟩ = some u := by
  subst hB
  rw [h1.cell (by simpa using Nat.lt_of_lt_of_le hb h0.size), h0.cell (by simpa using hb)]
  exact h
theorem OS.openAt {α : Type} {t : Ty α} {e : TypeId} {w : World} {F : Nat → Prop} {v : Value} {xs : List α} (h : OS t e w F v xs) {k : Nat} {x : α} (hx : xs[k]? = some x) : ∃ css Fs, OH t e w F v xs css Fs k ∧ ∃ cs, css[k]? = some cs ∧ t.O w (Fs k) cs x := by
  obtain ⟨hk, rfl⟩ := List.getElem?_eq_some_iff.1 hx
  exact h.open hk
theorem RS.atX {α : Type} {t : Ty α} {w : World} {B : Nat} {v : Value} {xs : List α} (h : RS t w B v xs) {k : Nat} {x : α} (hx : xs[k]? = some x) : ∃ b o c cs, v = .slice (some ⟨b, o, none⟩) xs.length c ∧ b < B ∧ cs.length = t.s ∧ t.R w B cs x ∧ ∀ j u, cs[j]? = some u → w.cell? ⟨b, o + k * t.s + j, none⟩ = some u := by
  obtain ⟨hk, rfl⟩ := List.getElem?_eq_some_iff.1 hx
  exact h.at hk
theorem nat_le_cast {a b : Nat} (h : a ≤ b) : (a : Int) ≤ (b : Int) := by omega
abbrev tSS : Ty (List (List Int)) := tS.sl 41
abbrev hSS : Hs (List (List Int)) := hS.sl
end Go.Proofs.Ytckihflfjecpbaa
namespace Go.Proofs.Ytckihflfjecpbaa
open Go.RowKit
set_option maxHeartbeats 1000000
set_option maxRecDepth 100000
theorem ei_cl : EI Try.prog 63 78 (.agg #[.int .i64 0, .int .i64 0, .int .i64 0, .int .i64 0, .int .i64 0]) 5 40 := ⟨Try.underlying63, by kernel_rfl, rfl, by decide⟩
def cl (p : (Int × Int × Int × Int × Int)) : List Value := [.int .i64 p.1, .int .i64 p.2.1, .int .i64 p.2.2.1, .int .i64 p.2.2.2.1, .int .i64 p.2.2.2.2]
theorem cl_len (p : (Int × Int × Int × Int × Int)) : (cl p).length = 5 := rfl
abbrev tCl : Ty (Int × Int × Int × Int × Int) := Ty.flat 5 (by decide) (0, 0, 0, 0, 0) cl cl_len (by simp [cl, Value.oneCell'])
abbrev hCl : Hs (Int × Int × Int × Int × Int) := hI.prod (hI.prod (hI.prod (hI.prod hI)))
abbrev tT : Ty (List (Int × Int × Int × Int × Int)) := tCl.sl 78
abbrev hT : Hs (List (Int × Int × Int × Int × Int)) := hCl.sl
theorem hCl_szL (xs : List (Int × Int × Int × Int × Int)) : hCl.szL xs = 0 := by
  induction xs with
  | nil => rfl
  | cons x xs ih => rw [Hs.szL, ih]; rfl
theorem hCl_cntL (xs : List (Int × Int × Int × Int × Int)) : hCl.cntL xs = 5 * xs.length := by
  induction xs with
  | nil => rfl
  | cons x xs ih =>
    rw [Hs.cntL, ih, List.length_cons]
    show (1 + (1 + (1 + (1 + 1)))) + _ = _
    omega
theorem hT_sz (xs : List (Int × Int × Int × Int × Int)) : hT.sz xs = xs.length := by show xs.length + hCl.szL xs = _; rw [hCl_szL]; rfl
theorem hT_cnt (xs : List (Int × Int × Int × Int × Int)) : hT.cnt xs = 5 * xs.length := hCl_cntL xs
theorem cl_T (x : List (Int × Int × Int × Int × Int)) : hT.cnt x ≤ 10 * hT.sz x + 10 := by rw [hT_sz, hT_cnt]; omega
theorem mark_cl (k : Int) (x : (Int × Int × Int × Int × Int)) : hCl.mark k x = (k, k + 1, k + 2, k + 3, k + 4) := by
  simp [Hs.prod, hI]
  try omega
theorem laws_toClip (p0 p1 p2 p3 p4 : Int) (w : World) :
    Calls Try.prog 138 #[.agg #[.int .i64 p0, .int .i64 p1, .int .i64 p2, .int .i64 p3, .int .i64 p4]] w fun e w' => e = .returned (.agg #[.int .i64 p0, .int .i64 p1, .int .i64 p2, .int .i64 p3, .int .i64 p4]) ∧ Below w.heap.size w w' := by
  go_enter Try.func138, Try.ntmps138
  go_wp2
  exact bodyPost_ret (v := .agg #[.int .i64 p0, .int .i64 p1, .int .i64 p2, .int .i64 p3, .int .i64 p4]) (by simp [results, Try.results138, go_sem]) rfl ⟨rfl, (((Below.refl _ _).alloc (Nat.le_refl _) _).alloc (by simp) _).alloc (by simp; omega) _⟩
theorem nf_eq_Clip (p0 p1 p2 p3 p4 : Int) (w : World) :
    Calls Try.prog 141 #[.agg #[.int .i64 p0, .int .i64 p1, .int .i64 p2, .int .i64 p3, .int .i64 p4], .agg #[.int .i64 p0, .int .i64 p1, .int .i64 p2, .int .i64 p3, .int .i64 p4]] w fun e w' => e = .returned (.bool true) ∧ Below w.heap.size w w' := by
  go_enter Try.func141, Try.ntmps141
  go_wp2
  go_ret
  exact ⟨rfl, ((Below.refl _ _).alloc (Nat.le_refl _) _).alloc (by simp) _⟩
theorem nf_to_T_ (A : Option Addr) (n c : Nat) (xs : List (Int × Int × Int × Int × Int)) (w : World) (hx : tT.R w w.heap.size [.slice A n c] xs) (hn : hT.sz xs ≤ 100000000) :
    Calls Try.prog 105 #[.slice A n c] w fun e w' => ∃ A' n' c', e = .returned (.slice A' n' c') ∧ tT.O w' (Iv w.heap.size w'.heap.size) [.slice A' n' c'] xs ∧ Below w.heap.size w w' := by
  have hr := sl_R.1 hx
  obtain rfl : xs.length = n := hr.cap.1
  rw [hT_sz] at hn
  clear hx
  go_enter Try.func105, Try.ntmps105
  go_wp2_with (at_make; refine wpList_mk ei_cl rfl _ _ rfl xs.length _ _ rfl rfl rfl rfl (by omega) (by unfold maxLen; omega) ?_; intro w1 own1 bel1)
  have hs1 : w.heap.size + 1 ≤ w1.heap.size := (World.ownsRow.lt own1 _ rfl).2
  have own2 : OS tCl 78 w1 (Iv w.heap.size (w.heap.size + 1)) (.slice (some ⟨w.heap.size, 0, none⟩) xs.length xs.length) (List.replicate xs.length (0, 0, 0, 0, 0)) :=
    OS.made (zc := [.int .i64 0, .int .i64 0, .int .i64 0, .int .i64 0, .int .i64 0]) (fun _ _ => rfl) rfl ⟨Nat.le_refl _, by omega⟩ own1
  clear own1
  go_loopw [4] (fun i wr => ∃ k : Nat, i = .int .i64 k ∧ k ≤ xs.length ∧ OS tCl 78 wr (Iv w.heap.size (w.heap.size + 1)) (.slice (some ⟨w.heap.size, 0, none⟩) xs.length xs.length) (xs.take k ++ (List.replicate xs.length (0, 0, 0, 0, 0)).drop k) ∧ w.heap.size + 1 ≤ wr.heap.size ∧ Below w.heap.size w wr)
    (fun i _ => xs.length - (intOf i).toNat)
  case atStart => exact ⟨0, rfl, by omega, by simpa using own2, hs1, bel1⟩
  case round =>
    obtain ⟨k, rfl, hk, own, hsz, hb⟩ := hrel
    by_cases hlt : k < xs.length
    · have hX := Lib.hid (List.getElem?_eq_getElem hlt)
      obtain ⟨b, o, c1, cs, hv, hab, -, hE, hc⟩ := (hr.below hb).atX hX.out
      simp only [Value.slice.injEq] at hv
      obtain ⟨rfl, -, rfl⟩ := hv
      generalize xs[k] = x at hX hE
      obtain ⟨p0, p1, p2, p3, p4⟩ := x
      obtain rfl : cs = [.int .i64 p0, .int .i64 p1, .int .i64 p2, .int .i64 p3, .int .i64 p4] := hE
      have hc0 : wr.cell? ⟨b, o + k * 5, none⟩ = some (.int .i64 p0) := hc 0 _ rfl
      have hc1 : wr.cell? ⟨b, o + k * 5 + 1, none⟩ = some (.int .i64 p1) := hc 1 _ rfl
      have hc2 : wr.cell? ⟨b, o + k * 5 + 2, none⟩ = some (.int .i64 p2) := hc 2 _ rfl
      have hc3 : wr.cell? ⟨b, o + k * 5 + 3, none⟩ = some (.int .i64 p3) := hc 3 _ rfl
      have hc4 : wr.cell? ⟨b, o + k * 5 + 4, none⟩ = some (.int .i64 p4) := hc 4 _ rfl
      have hD := Lib.hid (show (xs.take k ++ (List.replicate xs.length ((0, 0, 0, 0, 0) : (Int × Int × Int × Int × Int))).drop k)[k]? = some (0, 0, 0, 0, 0) by rw [M.mid_at (by rw [List.length_replicate])]; simp [hlt])
      clear hc
      go_wp2_with (go_at_call 138; refine (laws_toClip _ _ _ _ _ _).mono ?_; rintro e w2 ⟨rfl, bel2⟩; have own' := own.below bel2 hsz; obtain ⟨css, Fs, hole, cs, hcs, hE⟩ := own'.openAt hD.out; obtain rfl : cs = [.int .i64 0, .int .i64 0, .int .i64 0, .int .i64 0, .int .i64 0] := hE; have q0 : w2.cell? ⟨w.heap.size, k * 5, none⟩ = some (.int .i64 0) := (hole.cell hcs (j := 0) rfl).1; have r0 : w2.frozen? ⟨w.heap.size, k * 5, none⟩ = false := (hole.cell hcs (j := 0) rfl).2; have q1 : w2.cell? ⟨w.heap.size, k * 5 + 1, none⟩ = some (.int .i64 0) := (hole.cell hcs (j := 1) rfl).1; have r1 : w2.frozen? ⟨w.heap.size, k * 5 + 1, none⟩ = false := (hole.cell hcs (j := 1) rfl).2; have q2 : w2.cell? ⟨w.heap.size, k * 5 + 2, none⟩ = some (.int .i64 0) := (hole.cell hcs (j := 2) rfl).1; have r2 : w2.frozen? ⟨w.heap.size, k * 5 + 2, none⟩ = false := (hole.cell hcs (j := 2) rfl).2; have q3 : w2.cell? ⟨w.heap.size, k * 5 + 3, none⟩ = some (.int .i64 0) := (hole.cell hcs (j := 3) rfl).1; have r3 : w2.frozen? ⟨w.heap.size, k * 5 + 3, none⟩ = false := (hole.cell hcs (j := 3) rfl).2; have q4 : w2.cell? ⟨w.heap.size, k * 5 + 4, none⟩ = some (.int .i64 0) := (hole.cell hcs (j := 4) rfl).1; have r4 : w2.frozen? ⟨w.heap.size, k * 5 + 4, none⟩ = false := (hole.cell hcs (j := 4) rfl).2)
      go_roundw
      case rel =>
        have s0 := hole.set hcs 0 (by decide) (.int .i64 p0)
        have s1 := s0.1.set s0.2 1 (by decide) (.int .i64 p1)
        have s2 := s1.1.set s1.2 2 (by decide) (.int .i64 p2)
        have s3 := s2.1.set s2.2 3 (by decide) (.int .i64 p3)
        have s4 := s3.1.set s3.2 4 (by decide) (.int .i64 p4)
        have h3 := s4.1.fill s4.2 (y := (p0, p1, p2, p3, p4)) rfl
        rw [M.set_mid (by rw [List.length_replicate]) hX.out] at h3
        have hb2 := hb.trans (bel2.mono hb.size)
        exact ⟨k + 1, by go_num, by omega, h3, by simpa using Nat.le_trans hsz bel2.size, ((((hb2.setCell (Nat.le_refl _) _).setCell (Nat.le_refl _) _).setCell (Nat.le_refl _) _).setCell (Nat.le_refl _) _).setCell (Nat.le_refl _) _⟩
      case measure => simp [intOf]; omega
    · go_wp2
      go_ret
      rw [List.take_of_length_le (by omega), List.drop_eq_nil_of_le (by simp; omega), List.append_nil] at own
      exact ⟨_, _, _, rfl, sl_O.2 (own.iv (Nat.le_refl _) hsz), hb⟩
theorem nf_eq_T_ (A A' : Option Addr) (n c n' c' : Nat) (xs : List (Int × Int × Int × Int × Int)) (w : World) (hx : tT.R w w.heap.size [.slice A n c] xs) (hy : tT.R w w.heap.size [.slice A' n' c'] xs) (hn : hT.sz xs ≤ 100000000) :
    Calls Try.prog 108 #[.slice A n c, .slice A' n' c'] w fun e w' => e = .returned (.bool true) ∧ Below w.heap.size w w' := by
  have hr := sl_R.1 hx
  have hr' := sl_R.1 hy
  obtain rfl : xs.length = n := hr.cap.1
  obtain rfl : xs.length = n' := hr'.cap.1
  rw [hT_sz] at hn
  clear hx hy
  go_enter Try.func108, Try.ntmps108
  go_wp2
  go_loopw [5] (fun i wr => ∃ k : Nat, i = .int .i64 k ∧ k ≤ xs.length ∧ Below w.heap.size w wr) (fun i _ => xs.length - (intOf i).toNat)
  case atStart => exact ⟨0, rfl, by omega, Below.refl _ _⟩
  case round =>
    obtain ⟨k, rfl, hk, hb⟩ := hrel
    by_cases hlt : k < xs.length
    · have hX := Lib.hid (List.getElem?_eq_getElem hlt)
      obtain ⟨b, o, c1, cs, hv, hab, -, hE, hc⟩ := (hr.below hb).atX hX.out
      obtain ⟨b', o', c1', cs', hv', hab', -, hE', hc'⟩ := (hr'.below hb).atX hX.out
      simp only [Value.slice.injEq] at hv hv'
      obtain ⟨rfl, -, rfl⟩ := hv
      obtain ⟨rfl, -, rfl⟩ := hv'
      generalize xs[k] = x at hX hE hE'
      obtain ⟨p0, p1, p2, p3, p4⟩ := x
      obtain rfl : cs = [.int .i64 p0, .int .i64 p1, .int .i64 p2, .int .i64 p3, .int .i64 p4] := hE
      obtain rfl : cs' = [.int .i64 p0, .int .i64 p1, .int .i64 p2, .int .i64 p3, .int .i64 p4] := hE'
      have hc0 : wr.cell? ⟨b, o + k * 5, none⟩ = some (.int .i64 p0) := hc 0 _ rfl
      have hc1 : wr.cell? ⟨b, o + k * 5 + 1, none⟩ = some (.int .i64 p1) := hc 1 _ rfl
      have hc2 : wr.cell? ⟨b, o + k * 5 + 2, none⟩ = some (.int .i64 p2) := hc 2 _ rfl
      have hc3 : wr.cell? ⟨b, o + k * 5 + 3, none⟩ = some (.int .i64 p3) := hc 3 _ rfl
      have hc4 : wr.cell? ⟨b, o + k * 5 + 4, none⟩ = some (.int .i64 p4) := hc 4 _ rfl
      have hd0 : wr.cell? ⟨b', o' + k * 5, none⟩ = some (.int .i64 p0) := hc' 0 _ rfl
      have hd1 : wr.cell? ⟨b', o' + k * 5 + 1, none⟩ = some (.int .i64 p1) := hc' 1 _ rfl
      have hd2 : wr.cell? ⟨b', o' + k * 5 + 2, none⟩ = some (.int .i64 p2) := hc' 2 _ rfl
      have hd3 : wr.cell? ⟨b', o' + k * 5 + 3, none⟩ = some (.int .i64 p3) := hc' 3 _ rfl
      have hd4 : wr.cell? ⟨b', o' + k * 5 + 4, none⟩ = some (.int .i64 p4) := hc' 4 _ rfl
      have hbr : b < wr.heap.size := Nat.lt_of_lt_of_le hab hb.size
      have hbr' : b' < wr.heap.size := Nat.lt_of_lt_of_le hab' hb.size
      clear hc hc'
      go_wp2
      go_region_held3 (fun w' => Below wr.heap.size wr w' ∧ w'.cell? ⟨b, o + k * 5, none⟩ = some (.int .i64 p0) ∧ w'.cell? ⟨b, o + k * 5 + 1, none⟩ = some (.int .i64 p1) ∧ w'.cell? ⟨b, o + k * 5 + 2, none⟩ = some (.int .i64 p2) ∧ w'.cell? ⟨b, o + k * 5 + 3, none⟩ = some (.int .i64 p3) ∧ w'.cell? ⟨b, o + k * 5 + 4, none⟩ = some (.int .i64 p4) ∧ w'.cell? ⟨b', o' + k * 5, none⟩ = some (.int .i64 p0) ∧ w'.cell? ⟨b', o' + k * 5 + 1, none⟩ = some (.int .i64 p1) ∧ w'.cell? ⟨b', o' + k * 5 + 2, none⟩ = some (.int .i64 p2) ∧ w'.cell? ⟨b', o' + k * 5 + 3, none⟩ = some (.int .i64 p3) ∧ w'.cell? ⟨b', o' + k * 5 + 4, none⟩ = some (.int .i64 p4))
        (first
          | exact ⟨below_drewN (Below.refl _ _) _, hc0, hc1, hc2, hc3, hc4, hd0, hd1, hd2, hd3, hd4⟩
          | exact ⟨keptB_all bel2 rfl (And.left (by assumption)), keptB bel2 rfl (And.left (by assumption)) hc0 hbr, keptB bel2 rfl (And.left (by assumption)) hc1 hbr, keptB bel2 rfl (And.left (by assumption)) hc2 hbr, keptB bel2 rfl (And.left (by assumption)) hc3 hbr, keptB bel2 rfl (And.left (by assumption)) hc4 hbr, keptB bel2 rfl (And.left (by assumption)) hd0 hbr', keptB bel2 rfl (And.left (by assumption)) hd1 hbr', keptB bel2 rfl (And.left (by assumption)) hd2 hbr', keptB bel2 rfl (And.left (by assumption)) hd3 hbr', keptB bel2 rfl (And.left (by assumption)) hd4 hbr'⟩)
        (first | (go_at_call 141; refine (nf_eq_Clip _ _ _ _ _ _).mono ?_; rintro e w2 ⟨rfl, bel2⟩))
      go_wp2
      go_roundw
      case rel => exact ⟨k + 1, by go_num, by omega, hb.trans ((keptB_all bel2 rfl (below_drewN (Below.refl _ _) _)).mono hb.size)⟩
      case measure => simp [intOf]; omega
    · go_wp2
      go_ret
      exact ⟨rfl, hb⟩
theorem nf_mark_T_ (A : Option Addr) (n c : Nat) (k : Int) (xs : List (Int × Int × Int × Int × Int)) (w : World) (F : Nat → Prop) (hx : tT.O w F [.slice A n c] xs) (hk : 0 ≤ k ∧ k + (hT.cnt xs : Int) ≤ 1000000000) :
    Calls Try.prog 109 #[.slice A n c, .int .i64 k] w fun e w' => e = .returned (.int .i64 (k + hT.cnt xs)) ∧ tT.O w' F [.slice A n c] (hT.mark k xs) ∧ Chg F w w' := by
  have ow := sl_O.1 hx
  obtain rfl : xs.length = n := ow.read.cap.1
  rw [hT_cnt] at *
  clear hx
  go_enter Try.func109, Try.ntmps109
  go_wp2
  go_loopw [1, 5] (fun q i wr => ∃ j : Nat, i = .int .i64 j ∧ j ≤ xs.length ∧ q = .int .i64 (k + 5 * (j : Int)) ∧ OS tCl 78 wr F (.slice A xs.length c) ((hCl.mkL k xs).take j ++ xs.drop j) ∧ Chg F w wr)
    (fun _ i _ => xs.length - (intOf i).toNat)
  case atStart => exact ⟨0, rfl, by omega, by go_num, by simpa using ow, Chg.refl _ _⟩
  case round =>
    obtain ⟨j, rfl, hj, rfl, own, hg⟩ := hrel
    by_cases hlt : j < xs.length
    · have hml := Lib.hid (hCl.mkL_len k xs)
      have hX := Lib.hid (List.getElem?_eq_getElem hlt)
      generalize xs[j] = x at hX
      obtain ⟨p0, p1, p2, p3, p4⟩ := x
      have hyj := Lib.hid (show ((hCl.mkL k xs).take j ++ xs.drop j)[j]? = some (p0, p1, p2, p3, p4) by rw [M.mid_at hml.out]; exact hX.out)
      obtain ⟨css, Fs, hole, cs, hcs, hE⟩ := own.openAt hyj.out
      obtain rfl : cs = [.int .i64 p0, .int .i64 p1, .int .i64 p2, .int .i64 p3, .int .i64 p4] := hE
      obtain ⟨g, rfl, hFg, hFn, hgl, -⟩ := hole.form (List.getElem?_eq_some_iff.1 hyj.out).1
      have hmk := Lib.hid (show (hCl.mkL k xs)[j]? = some (k + 5 * (j : Int), k + 5 * (j : Int) + 1, k + 5 * (j : Int) + 1 + 1, k + 5 * (j : Int) + 1 + 1 + 1, k + 5 * (j : Int) + 1 + 1 + 1 + 1) by rw [hCl.mkL_at k hX.out, mark_cl, hCl_cntL, List.length_take, Nat.min_eq_left hj]; simp only [Option.some.injEq, Prod.mk.injEq]; omega)
      have q0 : wr.cell? ⟨g, j * 5, none⟩ = some (.int .i64 p0) := (hole.cell hcs (j := 0) rfl).1
      have r0 : wr.frozen? ⟨g, j * 5, none⟩ = false := (hole.cell hcs (j := 0) rfl).2
      have q1 : wr.cell? ⟨g, j * 5 + 1, none⟩ = some (.int .i64 p1) := (hole.cell hcs (j := 1) rfl).1
      have r1 : wr.frozen? ⟨g, j * 5 + 1, none⟩ = false := (hole.cell hcs (j := 1) rfl).2
      have q2 : wr.cell? ⟨g, j * 5 + 2, none⟩ = some (.int .i64 p2) := (hole.cell hcs (j := 2) rfl).1
      have r2 : wr.frozen? ⟨g, j * 5 + 2, none⟩ = false := (hole.cell hcs (j := 2) rfl).2
      have q3 : wr.cell? ⟨g, j * 5 + 3, none⟩ = some (.int .i64 p3) := (hole.cell hcs (j := 3) rfl).1
      have r3 : wr.frozen? ⟨g, j * 5 + 3, none⟩ = false := (hole.cell hcs (j := 3) rfl).2
      have q4 : wr.cell? ⟨g, j * 5 + 4, none⟩ = some (.int .i64 p4) := (hole.cell hcs (j := 4) rfl).1
      have r4 : wr.frozen? ⟨g, j * 5 + 4, none⟩ = false := (hole.cell hcs (j := 4) rfl).2
      go_wp2
      go_roundw
      case rel =>
        have s0 := hole.set hcs 0 (by decide) (.int .i64 (k + 5 * (j : Int)))
        have c0 := hg.trans (Chg.set wr g (j * 5 + 0) (.int .i64 (k + 5 * (j : Int))) hFg)
        have s1 := s0.1.set s0.2 1 (by decide) (.int .i64 (k + 5 * (j : Int) + 1))
        have c1 := c0.trans (Chg.set _ g (j * 5 + 1) (.int .i64 (k + 5 * (j : Int) + 1)) hFg)
        have s2 := s1.1.set s1.2 2 (by decide) (.int .i64 (k + 5 * (j : Int) + 1 + 1))
        have c2 := c1.trans (Chg.set _ g (j * 5 + 2) (.int .i64 (k + 5 * (j : Int) + 1 + 1)) hFg)
        have s3 := s2.1.set s2.2 3 (by decide) (.int .i64 (k + 5 * (j : Int) + 1 + 1 + 1))
        have c3 := c2.trans (Chg.set _ g (j * 5 + 3) (.int .i64 (k + 5 * (j : Int) + 1 + 1 + 1)) hFg)
        have s4 := s3.1.set s3.2 4 (by decide) (.int .i64 (k + 5 * (j : Int) + 1 + 1 + 1 + 1))
        have c4 := c3.trans (Chg.set _ g (j * 5 + 4) (.int .i64 (k + 5 * (j : Int) + 1 + 1 + 1 + 1)) hFg)
        have h3 := s4.1.fill s4.2 (y := (k + 5 * (j : Int), k + 5 * (j : Int) + 1, k + 5 * (j : Int) + 1 + 1, k + 5 * (j : Int) + 1 + 1 + 1, k + 5 * (j : Int) + 1 + 1 + 1 + 1)) rfl
        rw [M.set_mid hml.out hmk.out] at h3
        exact ⟨j + 1, by go_num, by omega, by go_num, h3, c4⟩
      case measure => simp [intOf]; omega
    · obtain rfl : xs.length = j := by omega
      go_wp2
      go_ret
      rw [List.take_of_length_le (by rw [Hs.mkL_len]; omega), List.drop_eq_nil_of_le (by omega), List.append_nil] at own
      exact ⟨by go_num, sl_O.2 own, hg⟩
theorem nf_held_T_ (A : Option Addr) (n c : Nat) (k : Int) (xs : List (Int × Int × Int × Int × Int)) (w : World) (hx : tT.R w w.heap.size [.slice A n c] (hT.mark k xs)) (hk : 0 ≤ k ∧ k + (hT.cnt xs : Int) ≤ 1000000000) :
    Calls Try.prog 110 #[.slice A n c, .int .i64 k] w fun e w' => e = .returned (.int .i64 (k + hT.cnt xs)) ∧ Below w.heap.size w w' := by
  have hr : RS tCl w w.heap.size (.slice A n c) (hCl.mkL k xs) := sl_R.1 hx
  obtain rfl : xs.length = n := by rw [← hr.cap.1, Hs.mkL_len]
  have hml := Lib.hid (hCl.mkL_len k xs)
  rw [hT_cnt] at *
  clear hx
  go_enter Try.func110, Try.ntmps110
  go_wp2
  go_loop [1, 5] (fun q i => ∃ j : Nat, i = .int .i64 j ∧ j ≤ xs.length ∧ q = .int .i64 (k + 5 * (j : Int))) (fun _ i => xs.length - (intOf i).toNat)
  case atStart => exact ⟨0, rfl, by omega, by go_num⟩
  case round =>
    obtain ⟨j, rfl, hj, rfl⟩ := hrel
    by_cases hlt : j < xs.length
    · have hX := Lib.hid (List.getElem?_eq_getElem hlt)
      generalize xs[j] = x at hX
      have hmk := Lib.hid (show (hCl.mkL k xs)[j]? = some (k + 5 * (j : Int), k + 5 * (j : Int) + 1, k + 5 * (j : Int) + 1 + 1, k + 5 * (j : Int) + 1 + 1 + 1, k + 5 * (j : Int) + 1 + 1 + 1 + 1) by rw [hCl.mkL_at k hX.out, mark_cl, hCl_cntL, List.length_take, Nat.min_eq_left hj]; simp only [Option.some.injEq, Prod.mk.injEq]; omega)
      obtain ⟨b, o, c1, cs, hv, hab, -, hE, hc⟩ := hr.atX hmk.out
      simp only [Value.slice.injEq] at hv
      obtain ⟨rfl, -, rfl⟩ := hv
      obtain rfl : cs = [.int .i64 (k + 5 * (j : Int)), .int .i64 (k + 5 * (j : Int) + 1), .int .i64 (k + 5 * (j : Int) + 1 + 1), .int .i64 (k + 5 * (j : Int) + 1 + 1 + 1), .int .i64 (k + 5 * (j : Int) + 1 + 1 + 1 + 1)] := hE
      have hc0 : w.cell? ⟨b, o + j * 5, none⟩ = some (.int .i64 (k + 5 * (j : Int))) := hc 0 _ rfl
      have hc1 : w.cell? ⟨b, o + j * 5 + 1, none⟩ = some (.int .i64 (k + 5 * (j : Int) + 1)) := hc 1 _ rfl
      have hc2 : w.cell? ⟨b, o + j * 5 + 2, none⟩ = some (.int .i64 (k + 5 * (j : Int) + 1 + 1)) := hc 2 _ rfl
      have hc3 : w.cell? ⟨b, o + j * 5 + 3, none⟩ = some (.int .i64 (k + 5 * (j : Int) + 1 + 1 + 1)) := hc 3 _ rfl
      have hc4 : w.cell? ⟨b, o + j * 5 + 4, none⟩ = some (.int .i64 (k + 5 * (j : Int) + 1 + 1 + 1 + 1)) := hc 4 _ rfl
      clear hc
      go_wp2
      go_round
      case rel => exact ⟨j + 1, by go_num, by omega, by go_num⟩
      case measure => simp [intOf]; omega
    · obtain rfl : xs.length = j := by omega
      go_wp2
      go_ret
      exact ⟨by go_num, Below.refl _ _⟩
theorem nf_sz_T_ (A : Option Addr) (n c : Nat) (xs : List (Int × Int × Int × Int × Int)) (l : Int) (w : World) (hx : tT.R w w.heap.size [.slice A n c] xs) (hl : 0 ≤ l ∧ l ≤ 1000000000) :
    Calls Try.prog 102 #[.slice A n c, .int .i64 l] w fun e w' => e = .returned (.int .i64 (if (hT.sz xs : Int) ≤ l then l - hT.sz xs else -1)) ∧ Below w.heap.size w w' := by
  obtain ⟨h1, h2, h3⟩ := (sl_R.1 hx).cap
  have hn : n ≤ 9223372036854775807 := by unfold maxLen at h3; omega
  rw [hT_sz, h1]
  clear h1 h2 h3 hx
  by_cases h : (n : Int) ≤ l
  all_goals
    go_enter Try.func102, Try.ntmps102
    go_wp2
    go_ret
    exact ⟨rfl, Below.refl _ _⟩
theorem nf_sz_T (A : Option Addr) (n c : Nat) (xs : List (Int × Int × Int × Int × Int)) (l : Int) (w : World) (hx : tT.R w w.heap.size [.slice A n c] xs) (hl : 0 ≤ l ∧ l ≤ 1000000000) :
    Calls Try.prog 45 #[.agg #[.slice A n c], .int .i64 l] w fun e w' => e = .returned (.int .i64 (if (hT.sz xs : Int) ≤ l then l - hT.sz xs else -1)) ∧ Below w.heap.size w w' := by
  have hb : Below w.heap.size w (w.alloc (.cells #[.slice A n c] 61)) := (Below.refl _ _).alloc (Nat.le_refl _) _
  have hx2 := tT.later hx hb
  by_cases h : (hT.sz xs : Int) ≤ l
  · have hi := Lib.hid (show (if (hT.sz xs : Int) ≤ l then l - hT.sz xs else -1) = l - hT.sz xs by rw [if_pos h])
    go_enter Try.func45, Try.ntmps45
    go_wp2_with (go_at_call 102; refine (nf_sz_T_ _ _ _ _ _ _ hx2 hl).mono ?_; rw [hi.out]; rintro e w2 ⟨rfl, bel2⟩)
    go_ret
    exact ⟨hi.out ▸ rfl, hb.trans (bel2.mono hb.size)⟩
  · have hi := Lib.hid (show (if (hT.sz xs : Int) ≤ l then l - hT.sz xs else -1) = -1 by rw [if_neg h])
    go_enter Try.func45, Try.ntmps45
    go_wp2_with (go_at_call 102; refine (nf_sz_T_ _ _ _ _ _ _ hx2 hl).mono ?_; rw [hi.out]; rintro e w2 ⟨rfl, bel2⟩)
    go_ret
    exact ⟨hi.out ▸ rfl, hb.trans (bel2.mono hb.size)⟩
theorem nf_to_T (A : Option Addr) (n c : Nat) (xs : List (Int × Int × Int × Int × Int)) (w : World) (hx : tT.R w w.heap.size [.slice A n c] xs) (hn : hT.sz xs ≤ 100000000) :
    Calls Try.prog 47 #[.agg #[.slice A n c]] w fun e w' => ∃ A' n' c', e = .returned (.agg #[.slice A' n' c']) ∧ tT.O w' (Iv w.heap.size w'.heap.size) [.slice A' n' c'] xs ∧ Below w.heap.size w w' := by
  have hb : Below w.heap.size w (((w.alloc (.cells #[.slice A n c] 61)).alloc (.cells #[.slice none 0 0] 65)).alloc (.cells #[.slice none 0 0] 65)) := (((Below.refl _ _).alloc (Nat.le_refl _) _).alloc (by simp) _).alloc (by simp; omega) _
  have hx2 := tT.later hx hb
  go_enter Try.func47, Try.ntmps47
  go_wp2_with (go_at_call 105; refine (nf_to_T_ _ _ _ _ _ hx2 hn).mono ?_; rintro e w2 ⟨A2, n2, c2, rfl, own2, bel2⟩; have q1 : w2.cell? ⟨w.heap.size + 1, 0, none⟩ = some (.slice none 0 0) := (by rw [bel2.cell (by first | omega | (simp; done) | (simp; omega))]; simp [go_sem]); have r1 : w2.frozen? ⟨w.heap.size + 1, 0, none⟩ = false := (by rw [bel2.frozen (by first | omega | (simp; done) | (simp; omega))]; simp [go_sem]); have q2 : w2.cell? ⟨w.heap.size + 1 + 1, 0, none⟩ = some (.slice none 0 0) := (by rw [bel2.cell (by simp)]; simp [go_sem]); have r2 : w2.frozen? ⟨w.heap.size + 1 + 1, 0, none⟩ = false := (by rw [bel2.frozen (by simp)]; simp [go_sem]); have hs : w.heap.size + 1 + 1 + 1 ≤ w2.heap.size := (by have := bel2.size; simpa using this))
  have m1 : Mid (w.heap.size + 1) (w.heap.size + 1 + 1 + 1) w2 ((w2.setCell ⟨w.heap.size + 1 + 1, 0, none⟩ (Value.slice A2 n2 c2)).setCell ⟨w.heap.size + 1, 0, none⟩ (Value.slice A2 n2 c2)) :=
    (Mid.of_grown (grown_setCell w2 (w.heap.size + 1 + 1) 0 _) fun k hk => by injection hk with hk; omega).trans (Mid.of_grown (grown_setCell _ (w.heap.size + 1) 0 _) fun k hk => by injection hk with hk; omega)
  refine bodyPost_ret (v := .agg #[.slice A2 n2 c2]) (by simp [results, Try.results47, go_sem, q1, r1, q2, r2]) rfl ?_
  refine ⟨_, _, _, rfl, ?_, ?_⟩
  · exact tT.oiv (tT.omid own2 m1 (.inr (by simp)) (Nat.le_refl _)) (by simp; omega) m1.size
  · exact (hb.trans (bel2.mono hb.size)).trans ((m1.toBelow (by omega)).mono (by omega))
theorem nf_eq_T (A A' : Option Addr) (n c n' c' : Nat) (xs : List (Int × Int × Int × Int × Int)) (w : World) (hx : tT.R w w.heap.size [.slice A n c] xs) (hy : tT.R w w.heap.size [.slice A' n' c'] xs) (hn : hT.sz xs ≤ 100000000) :
    Calls Try.prog 49 #[.agg #[.slice A n c], .agg #[.slice A' n' c']] w fun e w' => e = .returned (.bool true) ∧ Below w.heap.size w w' := by
  have hb : Below w.heap.size w ((w.alloc (.cells #[.slice A n c] 65)).alloc (.cells #[.slice A' n' c'] 65)) := ((Below.refl _ _).alloc (Nat.le_refl _) _).alloc (by simp) _
  have hx2 := tT.later hx hb
  have hy2 := tT.later hy hb
  go_enter Try.func49, Try.ntmps49
  go_wp2_with (go_at_call 108; refine (nf_eq_T_ _ _ _ _ _ _ _ _ hx2 hy2 hn).mono ?_; rintro e w2 ⟨rfl, bel2⟩)
  go_ret
  exact ⟨rfl, hb.trans (bel2.mono hb.size)⟩
theorem nf_mark_T (A : Option Addr) (n c : Nat) (k : Int) (xs : List (Int × Int × Int × Int × Int)) (w : World) (F : Nat → Prop) (hx : tT.O w F [.slice A n c] xs) (hF : ∀ b, F b → b < w.heap.size) (hk : 0 ≤ k ∧ k + (hT.cnt xs : Int) ≤ 1000000000) :
    Calls Try.prog 50 #[.agg #[.slice A n c], .int .i64 k] w fun e w' => e = .returned (.int .i64 (k + hT.cnt xs)) ∧ tT.O w' F [.slice A n c] (hT.mark k xs) ∧ Chg F w w' := by
  have hb : Below w.heap.size w (w.alloc (.cells #[.slice A n c] 65)) := (Below.refl _ _).alloc (Nat.le_refl _) _
  have hx2 : tT.O (w.alloc (.cells #[.slice A n c] 65)) F [.slice A n c] xs := tT.okeep (fun b h => hb.block b (hF b h)) hx
  go_enter Try.func50, Try.ntmps50
  go_wp2_with (go_at_call 109; refine (nf_mark_T_ _ _ _ _ _ _ _ hx2 hk).mono ?_; rintro e w2 ⟨rfl, own2, m2⟩)
  go_ret
  exact ⟨rfl, own2, (Chg.of_below hb _).trans m2⟩
theorem nf_held_T (A : Option Addr) (n c : Nat) (k : Int) (xs : List (Int × Int × Int × Int × Int)) (w : World) (hx : tT.R w w.heap.size [.slice A n c] (hT.mark k xs)) (hk : 0 ≤ k ∧ k + (hT.cnt xs : Int) ≤ 1000000000) :
    Calls Try.prog 51 #[.agg #[.slice A n c], .int .i64 k] w fun e w' => e = .returned (.int .i64 (k + hT.cnt xs)) ∧ Below w.heap.size w w' := by
  have hb : Below w.heap.size w (w.alloc (.cells #[.slice A n c] 65)) := (Below.refl _ _).alloc (Nat.le_refl _) _
  have hx2 := tT.later hx hb
  go_enter Try.func51, Try.ntmps51
  go_wp2_with (go_at_call 110; refine (nf_held_T_ _ _ _ _ _ _ hx2 hk).mono ?_; rintro e w2 ⟨rfl, bel2⟩)
  go_ret
  exact ⟨rfl, hb.trans (bel2.mono hb.size)⟩
end Go.Proofs.Ytckihflfjecpbaa
namespace Go.Proofs.Ytckihflfjecpbaa
open Go.RowKit
set_option maxHeartbeats 400000
set_option maxRecDepth 100000
theorem ei_pt : EI Try.prog 28 34 (.agg #[.int .i64 0, .int .i64 0]) 2 16 := ⟨Try.underlying28, by kernel_rfl, rfl, by decide⟩
def pt (p : Int × Int) : List Value := [.int .i64 p.1, .int .i64 p.2]
theorem pt_len (p : Int × Int) : (pt p).length = 2 := rfl
def rampP (k : Int) (n : Nat) : List (Int × Int) := (List.range n).map fun (i : Nat) => (k + 2 * (i : Int), k + 2 * (i : Int) + 1)
theorem rampP_len (k : Int) (n : Nat) : (rampP k n).length = n := by simp [rampP]
theorem rampP_at {k : Int} {n j : Nat} (h : j < n) : (rampP k n)[j]? = some (k + 2 * (j : Int), k + 2 * (j : Int) + 1) := by simp [rampP, h]
theorem ret_agg2 {a b a' b' : Int} (h : a = a') (h' : b = b') : Ending.returned (.agg #[.int .i64 a, .int .i64 b]) = .returned (.agg #[.int .i64 a', .int .i64 b']) := by rw [h, h']
theorem laws_toCurvePoint (a b : Int) (w : World) :
    Calls Try.prog 20 #[.agg #[.int .i64 a, .int .i64 b]] w fun e w' => e = .returned (.agg #[.int .i64 a, .int .i64 b]) ∧ Below w.heap.size w w' := by
  go_enter Try.func20, Try.ntmps20
  go_wp2
  exact bodyPost_ret (v := .agg #[.int .i64 a, .int .i64 b]) (by simp [results, Try.results20, go_sem]) rfl ⟨rfl, (((Below.refl _ _).alloc (Nat.le_refl _) _).alloc (by simp) _).alloc (by simp; omega) _⟩
theorem laws_szCurvePointS (A : Option Addr) (n c : Nat) (l : Int) (w : World) (hl : 0 ≤ l ∧ l ≤ 1000000000) (hn : n ≤ 9223372036854775807) :
    Calls Try.prog 70 #[.slice A n c, .int .i64 l] w fun e w' => e = .returned (.int .i64 (if (n : Int) ≤ l then l - n else -1)) ∧ w = w' := by
  by_cases h : (n : Int) ≤ l
  all_goals
    go_enter Try.func70, Try.ntmps70
    go_wp2
    go_ret
    exact ⟨rfl, rfl⟩
theorem laws_szCurve (A : Option Addr) (n c : Nat) (l : Int) (w : World) (hl : 0 ≤ l ∧ l ≤ 1000000000) (hn : n ≤ 9223372036854775807) :
    Calls Try.prog 17 #[.agg #[.slice A n c], .int .i64 l] w fun e w' => e = .returned (.int .i64 (if (n : Int) ≤ l then l - n else -1)) ∧ Below w.heap.size w w' := by
  by_cases h : (n : Int) ≤ l
  · have hi := Lib.hid (show (if (n : Int) ≤ l then l - n else -1) = l - n by rw [if_pos h])
    go_enter Try.func17, Try.ntmps17
    go_wp2_with (go_at_call 70; refine (laws_szCurvePointS _ _ _ _ _ hl hn).mono ?_; rw [hi.out]; rintro e w' ⟨rfl, rfl⟩)
    go_ret
    exact ⟨rfl, (Below.refl _ _).alloc (Nat.le_refl _) _⟩
  · have hi := Lib.hid (show (if (n : Int) ≤ l then l - n else -1) = -1 by rw [if_neg h])
    go_enter Try.func17, Try.ntmps17
    go_wp2_with (go_at_call 70; refine (laws_szCurvePointS _ _ _ _ _ hl hn).mono ?_; rw [hi.out]; rintro e w' ⟨rfl, rfl⟩)
    go_ret
    exact ⟨rfl, (Below.refl _ _).alloc (Nat.le_refl _) _⟩
theorem laws_toCurvePointS (A : Option Addr) (n c : Nat) (xs : List (Int × Int)) (w : World) (hx : RA pt 2 w w.heap.size A n xs) (hn : n ≤ 1000000000) :
    Calls Try.prog 73 #[.slice A n c] w fun e w' => ∃ v, e = .returned v ∧ OA pt 34 2 w.heap.size w'.heap.size w' v xs ∧ Below w.heap.size w w' := by
  have hl := Lib.hid hx.len
  go_enter Try.func73, Try.ntmps73
  go_wp2_with (at_make; refine wpList_mk ei_pt rfl _ _ rfl n _ _ rfl rfl rfl rfl (by omega) (by unfold maxLen; omega) ?_; intro w1 own1 bel1)
  have hs1 : w.heap.size + 1 ≤ w1.heap.size := (World.ownsRow.lt own1 _ rfl).2
  have own2 : OA pt 34 2 w.heap.size (w.heap.size + 1) w1 (.slice (some ⟨w.heap.size, 0, none⟩) n n) (List.replicate n ((0 : Int), (0 : Int))) :=
    OA.made pt_len (by decide) rfl own1 (fun k hk => by simp [Value.ownBlock] at hk; omega)
  clear own1
  go_loopw [4] (fun i wr => ∃ k : Nat, i = .int .i64 k ∧ k ≤ n ∧ OA pt 34 2 w.heap.size (w.heap.size + 1) wr (.slice (some ⟨w.heap.size, 0, none⟩) n n) (xs.take k ++ (List.replicate n ((0 : Int), (0 : Int))).drop k) ∧ w.heap.size + 1 ≤ wr.heap.size ∧ Below w.heap.size w wr)
    (fun i _ => n - (intOf i).toNat)
  case atStart => exact ⟨0, rfl, by omega, by simpa using own2, hs1, bel1⟩
  case round =>
    obtain ⟨k, rfl, hk, own, hsz, hb⟩ := hrel
    by_cases hlt : k < n
    · obtain ⟨b, o, ⟨p0, p1⟩, rfl, hab, X, hc⟩ := (hx.below hb).at pt_len (by decide) hlt
      have hc0 : wr.cell? ⟨b, o + k * 2, none⟩ = some (.int .i64 p0) := hc 0 _ rfl
      have hc1 : wr.cell? ⟨b, o + k * 2 + 1, none⟩ = some (.int .i64 p1) := hc 1 _ rfl
      clear hc
      have hD := Lib.hid (show (xs.take k ++ (List.replicate n ((0 : Int), (0 : Int))).drop k)[k]? = some (0, 0) by rw [M.mid_at (by rw [hl.out, List.length_replicate])]; simp [hlt])
      go_wp2_with (go_at_call 20; refine (laws_toCurvePoint _ _ _).mono ?_; rintro e w2 ⟨rfl, bel2⟩; have own' := own.below bel2 hsz; have q0 : w2.cell? ⟨w.heap.size, k * 2, none⟩ = some (.int .i64 0) := (OA.cell pt_len own' hD.out (j := 0) rfl).1; have r0 : w2.frozen? ⟨w.heap.size, k * 2, none⟩ = false := (OA.cell pt_len own' hD.out (j := 0) rfl).2; have q1 : w2.cell? ⟨w.heap.size, k * 2 + 1, none⟩ = some (.int .i64 0) := (OA.cell pt_len own' hD.out (j := 1) rfl).1; have r1 : w2.frozen? ⟨w.heap.size, k * 2 + 1, none⟩ = false := (OA.cell pt_len own' hD.out (j := 1) rfl).2)
      go_roundw
      case rel =>
        have h2 := OA.set pt_len own' hD.out (j := 0) (y := (p0, 0)) (u := .int .i64 p0) (by decide) rfl
        have h3 := OA.set pt_len h2.1 (k := k) (x := (p0, 0)) (j := 1) (y := (p0, p1)) (u := .int .i64 p1) (by rw [List.getElem?_set_self]; exact (List.getElem?_eq_some_iff.1 hD.out).1) (by decide) rfl
        rw [List.set_set, M.set_mid (by rw [hl.out, List.length_replicate]) X.out] at h3
        have hb2 := hb.trans (bel2.mono hb.size)
        exact ⟨k + 1, by go_num, by omega, h3.1, by simpa using Nat.le_trans hsz bel2.size, (hb2.setCell (Nat.le_refl _) _).setCell (Nat.le_refl _) _⟩
      case measure => simp [intOf]; omega
    · go_wp2
      go_ret
      rw [List.take_of_length_le (by rw [hl.out]; omega), List.drop_eq_nil_of_le (by simp; omega), List.append_nil] at own
      exact ⟨_, rfl, own.wide (Nat.le_refl _) hsz, hb⟩
theorem lay_cell (w : World) (u : Value) (e : TypeId) : (w.alloc (.cells #[u] e)).cell? ⟨w.heap.size, 0, none⟩ = some u := by
  rw [cell_of_row _ w.heap.size 0 #[u] e (0, 0) (heap_alloc_new w _)]
  rfl
theorem lay_frozen (w : World) (u : Value) (e : TypeId) : (w.alloc (.cells #[u] e)).frozen? ⟨w.heap.size, 0, none⟩ = false := World.frozen?_alloc_new w _ e 0
theorem Mid.cell (w : World) (b o : Nat) (u : Value) : Mid b (b + 1) w (w.setCell ⟨b, o, none⟩ u) :=
  Mid.of_grown (grown_setCell w b o u) fun k hk => by
    injection hk with hk
    omega
/-- Of three fresh cells the middle and the last one, after a call. -/
theorem three_cells {w w2 : World} {u1 u2 u3 : Value} {e1 e2 e3 : TypeId} (hb : Below (((w.alloc (.cells #[u1] e1)).alloc (.cells #[u2] e2)).alloc (.cells #[u3] e3)).heap.size (((w.alloc (.cells #[u1] e1)).alloc (.cells #[u2] e2)).alloc (.cells #[u3] e3)) w2) :
    (w2.cell? ⟨w.heap.size + 1, 0, none⟩ = some u2 ∧ w2.frozen? ⟨w.heap.size + 1, 0, none⟩ = false) ∧ (w2.cell? ⟨w.heap.size + 1 + 1, 0, none⟩ = some u3 ∧ w2.frozen? ⟨w.heap.size + 1 + 1, 0, none⟩ = false) ∧ w.heap.size + 1 + 1 + 1 ≤ w2.heap.size := by
  have s1 : (w.alloc (.cells #[u1] e1)).heap.size = w.heap.size + 1 := by simp
  have s2 : ((w.alloc (.cells #[u1] e1)).alloc (.cells #[u2] e2)).heap.size = w.heap.size + 1 + 1 := by simp
  have s3 : (((w.alloc (.cells #[u1] e1)).alloc (.cells #[u2] e2)).alloc (.cells #[u3] e3)).heap.size = w.heap.size + 1 + 1 + 1 := by simp
  have c3 := lay_cell ((w.alloc (.cells #[u1] e1)).alloc (.cells #[u2] e2)) u3 e3
  have f3 := lay_frozen ((w.alloc (.cells #[u1] e1)).alloc (.cells #[u2] e2)) u3 e3
  have c2 := lay_cell (w.alloc (.cells #[u1] e1)) u2 e2
  have f2 := lay_frozen (w.alloc (.cells #[u1] e1)) u2 e2
  rw [s2] at c3 f3
  rw [s1] at c2 f2
  refine ⟨⟨?_, ?_⟩, ⟨?_, ?_⟩, by rw [← s3]; exact hb.size⟩
  · rw [hb.cell (by rw [s3]; simp), World.cell?_alloc_lt _ _ _ (by rw [s2]; simp)]; exact c2
  · rw [hb.frozen (by rw [s3]; simp), World.frozen?_alloc_old _ _ _ (by rw [s2]; simp)]; exact f2
  · rw [hb.cell (by rw [s3]; simp)]; exact c3
  · rw [hb.frozen (by rw [s3]; simp)]; exact f3
theorem laws_toCurve (A : Option Addr) (n c : Nat) (xs : List (Int × Int)) (w : World) (hx : RA pt 2 w w.heap.size A n xs) (hn : n ≤ 1000000000) :
    Calls Try.prog 19 #[.agg #[.slice A n c]] w fun e w' => ∃ v, e = .returned (.agg #[v]) ∧ OA pt 34 2 w.heap.size w'.heap.size w' v xs ∧ Below w.heap.size w w' := by
  have hx2 : RA pt 2 (((w.alloc (.cells #[.slice A n c] 24)).alloc (.cells #[.slice none 0 0] 30)).alloc (.cells #[.slice none 0 0] 30)) (((w.alloc (.cells #[.slice A n c] 24)).alloc (.cells #[.slice none 0 0] 30)).alloc (.cells #[.slice none 0 0] 30)).heap.size A n xs :=
    hx.later ((((Below.refl _ _).alloc (Nat.le_refl _) _).alloc (by simp) _).alloc (by simp; omega) _)
  go_enter Try.func19, Try.ntmps19
  go_wp2_with (go_at_call 73; refine (laws_toCurvePointS _ _ _ _ _ hx2 hn).mono ?_; rintro e w2 ⟨v, rfl, own2, bel2⟩; obtain ⟨A2, c2, rfl, _⟩ := own2.shape; obtain ⟨⟨q1, r1⟩, ⟨q2, r2⟩, hs⟩ := three_cells bel2)
  have m1 : Mid (w.heap.size + 1) (w.heap.size + 1 + 1 + 1) w2 ((w2.setCell ⟨w.heap.size + 1 + 1, 0, none⟩ (Value.slice A2 xs.length c2)).setCell ⟨w.heap.size + 1, 0, none⟩ (Value.slice A2 xs.length c2)) :=
    ((Mid.cell w2 (w.heap.size + 1 + 1) 0 _).wide (by omega) (by omega)).trans ((Mid.cell _ (w.heap.size + 1) 0 _).wide (by omega) (by omega))
  refine bodyPost_ret (v := .agg #[.slice A2 xs.length c2]) (by simp [results, Try.results19, go_sem, q1, r1, q2, r2]) rfl ⟨_, rfl, ?_, ?_⟩
  · exact (own2.mid m1 (.inr (by simp)) (Nat.le_refl _)).wide (by simp; omega) m1.size
  · exact (((((Below.refl _ _).alloc (Nat.le_refl _) _).alloc (by simp) _).alloc (by simp; omega) _).trans (bel2.mono (by simp; omega))).trans ((m1.toBelow (by omega)).mono (by omega))
end Go.Proofs.Ytckihflfjecpbaa
namespace Go.Proofs.Ytckihflfjecpbaa
open Go.RowKit
set_option maxHeartbeats 400000
set_option maxRecDepth 100000
theorem kept_all {B : Nat} {w w1 w2 : World} (h1 : Below B w1 w2) (hB : B = w1.heap.size) (h0 : Below w.heap.size w w1) : Below w.heap.size w w2 := by
  subst hB
  exact h0.trans (h1.mono h0.size)
theorem kept {B : Nat} {w w1 w2 : World} {b o : Nat} {u : Value} (h1 : Below B w1 w2) (hB : B = w1.heap.size) (h0 : Below w.heap.size w w1) (h : w.cell? ⟨b, o, none⟩ = some u) (hb : b < w.heap.size) : w2.cell? ⟨b, o, none⟩ = some u := by
  subst hB
  rw [h1.cell (by simpa using Nat.lt_of_lt_of_le hb h0.size), h0.cell (by simpa using hb)]
  exact h
def peq (x y : Int × Int) : Bool := decide (x = y)
theorem laws_eqCurvePoint (a b c d : Int) (w : World) :
    Calls Try.prog 129 #[.agg #[.int .i64 a, .int .i64 b], .agg #[.int .i64 c, .int .i64 d]] w fun e w' => e = .returned (.bool (peq (a, b) (c, d))) ∧ Below w.heap.size w w' := by
  have hb : Below w.heap.size w ((w.alloc (.cells #[.int .i64 a, .int .i64 b] 34)).alloc (.cells #[.int .i64 c, .int .i64 d] 34)) := ((Below.refl _ _).alloc (Nat.le_refl _) _).alloc (by simp) _
  by_cases h1 : a = c
  · by_cases h2 : b = d
    · subst h1 h2
      go_enter Try.func129, Try.ntmps129
      go_wp2
      go_ret
      exact ⟨ret_bool (by simp [peq]), hb⟩
    · have h2' : (b == d) = false := by simpa using h2
      subst h1
      go_enter Try.func129, Try.ntmps129
      go_wp2
      go_ret
      exact ⟨ret_bool (by simp [peq, h2]), hb⟩
  · have h1' : (a == c) = false := by simpa using h1
    go_enter Try.func129, Try.ntmps129
    go_wp2
    go_ret
    exact ⟨ret_bool (by simp [peq, h1]), hb⟩
theorem laws_eqCurvePointS (A A' : Option Addr) (n c n' c' : Nat) (xs ys : List (Int × Int)) (w : World) (hx : RA pt 2 w w.heap.size A n xs) (hy : RA pt 2 w w.heap.size A' n' ys) (hn : n ≤ 1000000000) :
    Calls Try.prog 76 #[.slice A n c, .slice A' n' c'] w fun e w' => e = .returned (.bool (decide (xs = ys))) ∧ Below w.heap.size w w' := by
  have hl := Lib.hid hx.len
  have hl' := Lib.hid hy.len
  by_cases hnn : n = n'
  · subst hnn
    go_enter Try.func76, Try.ntmps76
    go_wp2
    go_loopw [5] (fun i wr => ∃ k : Nat, i = .int .i64 k ∧ k ≤ n ∧ Hid (xs.take k = ys.take k) ∧ Below w.heap.size w wr) (fun i _ => n - (intOf i).toNat)
    case atStart => exact ⟨0, rfl, by omega, Lib.hid (by simp), Below.refl _ _⟩
    case round =>
      obtain ⟨k, rfl, hk, H, hb⟩ := hrel
      by_cases hlt : k < n
      · obtain ⟨b, o, ⟨p0, p1⟩, rfl, hab, X, hc⟩ := (hx.below hb).at pt_len (by decide) hlt
        obtain ⟨b', o', ⟨q0, q1⟩, rfl, hab', Y, hc'⟩ := (hy.below hb).at pt_len (by decide) hlt
        have hc0 : wr.cell? ⟨b, o + k * 2, none⟩ = some (.int .i64 p0) := hc 0 _ rfl
        have hc1 : wr.cell? ⟨b, o + k * 2 + 1, none⟩ = some (.int .i64 p1) := hc 1 _ rfl
        have hd0 : wr.cell? ⟨b', o' + k * 2, none⟩ = some (.int .i64 q0) := hc' 0 _ rfl
        have hd1 : wr.cell? ⟨b', o' + k * 2 + 1, none⟩ = some (.int .i64 q1) := hc' 1 _ rfl
        have hbr : b < wr.heap.size := Nat.lt_of_lt_of_le hab hb.size
        have hbr' : b' < wr.heap.size := Nat.lt_of_lt_of_le hab' hb.size
        clear hc hc'
        cases hq : peq (p0, p1) (q0, q1)
        · have hne := Lib.hid (show ¬ xs = ys from fun e => by have h1 := X.out; have h2 := Y.out; rw [e, h2] at h1; injection h1 with h1; rw [h1] at hq; simp [peq] at hq)
          go_wp2
          go_region_held3 (fun w' => Below wr.heap.size wr w' ∧ w'.cell? ⟨b, o + k * 2, none⟩ = some (.int .i64 p0) ∧ w'.cell? ⟨b, o + k * 2 + 1, none⟩ = some (.int .i64 p1) ∧ w'.cell? ⟨b', o' + k * 2, none⟩ = some (.int .i64 q0) ∧ w'.cell? ⟨b', o' + k * 2 + 1, none⟩ = some (.int .i64 q1))
            (first
              | exact ⟨below_drewN (Below.refl _ _) _, hc0, hc1, hd0, hd1⟩
              | exact ⟨kept_all bel2 rfl (And.left (by assumption)), kept bel2 rfl (And.left (by assumption)) hc0 hbr, kept bel2 rfl (And.left (by assumption)) hc1 hbr, kept bel2 rfl (And.left (by assumption)) hd0 hbr', kept bel2 rfl (And.left (by assumption)) hd1 hbr'⟩)
            (first | (go_at_call 129; refine (laws_eqCurvePoint _ _ _ _ _).mono ?_; rintro e w2 ⟨rfl, bel2⟩))
          go_wp2
          go_ret
          exact ⟨ret_bool (by simp [hne.out]), hb.trans ((kept_all bel2 rfl (below_drewN (Below.refl _ _) _)).mono hb.size)⟩
        · have he := Lib.hid (show (p0, p1) = (q0, q1) by simpa [peq] using hq)
          go_wp2
          go_region_held3 (fun w' => Below wr.heap.size wr w' ∧ w'.cell? ⟨b, o + k * 2, none⟩ = some (.int .i64 p0) ∧ w'.cell? ⟨b, o + k * 2 + 1, none⟩ = some (.int .i64 p1) ∧ w'.cell? ⟨b', o' + k * 2, none⟩ = some (.int .i64 q0) ∧ w'.cell? ⟨b', o' + k * 2 + 1, none⟩ = some (.int .i64 q1))
            (first
              | exact ⟨below_drewN (Below.refl _ _) _, hc0, hc1, hd0, hd1⟩
              | exact ⟨kept_all bel2 rfl (And.left (by assumption)), kept bel2 rfl (And.left (by assumption)) hc0 hbr, kept bel2 rfl (And.left (by assumption)) hc1 hbr, kept bel2 rfl (And.left (by assumption)) hd0 hbr', kept bel2 rfl (And.left (by assumption)) hd1 hbr'⟩)
            (first | (go_at_call 129; refine (laws_eqCurvePoint _ _ _ _ _).mono ?_; rintro e w2 ⟨rfl, bel2⟩))
          go_wp2
          go_roundw
          case rel => exact ⟨k + 1, by go_num, by omega, Lib.hid (by rw [M.take_at X.out, M.take_at Y.out, H.out, he.out]), hb.trans ((kept_all bel2 rfl (below_drewN (Below.refl _ _) _)).mono hb.size)⟩
          case measure => simp [intOf]; omega
      · go_wp2
        go_ret
        have h1 : xs = ys := by have := H.out; rwa [List.take_of_length_le (by rw [hl.out]; omega), List.take_of_length_le (by rw [hl'.out]; omega)] at this
        exact ⟨ret_bool (by simp [h1]), hb⟩
  · have hne := Lib.hid (show ¬ xs = ys from fun e => hnn (by rw [← hl.out, ← hl'.out, e]))
    go_enter Try.func76, Try.ntmps76
    go_wp2
    go_ret
    exact ⟨ret_bool (by simp [hne.out]), Below.refl _ _⟩
theorem laws_eqCurve (A A' : Option Addr) (n c n' c' : Nat) (xs ys : List (Int × Int)) (w : World) (hx : RA pt 2 w w.heap.size A n xs) (hy : RA pt 2 w w.heap.size A' n' ys) (hn : n ≤ 1000000000) :
    Calls Try.prog 22 #[.agg #[.slice A n c], .agg #[.slice A' n' c']] w fun e w' => e = .returned (.bool (decide (xs = ys))) ∧ Below w.heap.size w w' := by
  have hb2 : Below w.heap.size w ((w.alloc (.cells #[.slice A n c] 30)).alloc (.cells #[.slice A' n' c'] 30)) := ((Below.refl _ _).alloc (Nat.le_refl _) _).alloc (by simp) _
  have hx2 := hx.later hb2
  have hy2 := hy.later hb2
  cases hq : decide (xs = ys)
  all_goals
    have hi := Lib.hid hq
    clear hq
    go_enter Try.func22, Try.ntmps22
    go_wp2_with (go_at_call 76; refine (laws_eqCurvePointS _ _ _ _ _ _ _ _ _ hx2 hy2 hn).mono ?_; rw [hi.out]; rintro e w2 ⟨rfl, bel2⟩)
    go_ret
    exact ⟨rfl, hb2.trans (bel2.mono hb2.size)⟩
end Go.Proofs.Ytckihflfjecpbaa
namespace Go.Proofs.Ytckihflfjecpbaa
open Go.RowKit
set_option maxHeartbeats 400000
set_option maxRecDepth 100000
theorem laws_markCurvePointS (v : Value) (lo hi n : Nat) (k : Int) (xs : List (Int × Int)) (w : World) (hx : OA pt 34 2 lo hi w v xs) (hn : xs.length = n) (hl : n ≤ 1000000000) (hk : 0 ≤ k ∧ k ≤ 1000000000) :
    Calls Try.prog 77 #[v, .int .i64 k] w fun e w' => e = .returned (.int .i64 (k + 2 * n)) ∧ OA pt 34 2 lo hi w' v (rampP k n) ∧ Mid lo hi w w' := by
  have hl' := Lib.hid hn
  obtain ⟨A, c, rfl, hrr⟩ := hx.shape
  rw [hn]
  rw [hn] at hx
  clear hrr hn
  go_enter Try.func77, Try.ntmps77
  go_wp2
  go_loopw [1, 5] (fun q i wr => ∃ j : Nat, i = .int .i64 j ∧ j ≤ n ∧ q = .int .i64 (k + 2 * j) ∧ OA pt 34 2 lo hi wr (.slice A n c) ((rampP k n).take j ++ xs.drop j) ∧ Mid lo hi w wr)
    (fun _ i _ => n - (intOf i).toNat)
  case atStart => exact ⟨0, rfl, by omega, by go_num, by simpa using hx, Mid.refl _ _ _⟩
  case round =>
    obtain ⟨j, rfl, hj, rfl, own, hg⟩ := hrel
    by_cases hlt : j < n
    · obtain ⟨g, rfl, hB, hgl, hgs, -⟩ := own.form (by omega)
      have hjx : j < xs.length := by rw [hl'.out]; exact hlt
      obtain ⟨⟨y0, y1⟩, hy⟩ : ∃ y, xs[j]? = some y := ⟨_, List.getElem?_eq_getElem hjx⟩
      have hD := Lib.hid (show ((rampP k n).take j ++ xs.drop j)[j]? = some (y0, y1) by rw [M.mid_at (by rw [rampP_len, hl'.out])]; exact hy)
      have q0 := (OA.cell pt_len own hD.out (j := 0) (u := .int .i64 y0) rfl).1
      have r0 := (OA.cell pt_len own hD.out (j := 0) (u := .int .i64 y0) rfl).2
      have q1 := (OA.cell pt_len own hD.out (j := 1) (u := .int .i64 y1) rfl).1
      have r1 := (OA.cell pt_len own hD.out (j := 1) (u := .int .i64 y1) rfl).2
      rw [Nat.add_zero] at q0 r0
      clear hy
      go_wp2
      go_roundw
      case rel =>
        have h2 := OA.set pt_len own hD.out (j := 0) (y := (k + 2 * (j : Int), y1)) (u := .int .i64 (k + 2 * (j : Int))) (by decide) rfl
        have h3 := OA.set pt_len h2.1 (k := j) (x := (k + 2 * (j : Int), y1)) (j := 1) (y := (k + 2 * (j : Int), k + 2 * (j : Int) + 1)) (u := .int .i64 (k + 2 * (j : Int) + 1)) (by rw [List.getElem?_set_self]; exact (List.getElem?_eq_some_iff.1 hD.out).1) (by decide) rfl
        rw [List.set_set, M.set_mid (by rw [rampP_len, hl'.out]) (rampP_at hlt)] at h3
        exact ⟨j + 1, by go_num, by omega, by go_num, h3.1, (hg.trans h2.2).trans h3.2⟩
      case measure => simp [intOf]; omega
    · obtain rfl : j = n := by omega
      go_wp2
      go_ret
      refine ⟨rfl, ?_, hg⟩
      rw [List.take_of_length_le (by rw [rampP_len]; omega), List.drop_eq_nil_of_le (by rw [hl'.out]; omega), List.append_nil] at own
      exact own
theorem laws_heldCurvePointS (A : Option Addr) (n c : Nat) (k : Int) (w : World) (hx : RA pt 2 w w.heap.size A n (rampP k n)) (hn : n ≤ 1000000000) (hk : 0 ≤ k ∧ k ≤ 1000000000) :
    Calls Try.prog 78 #[.slice A n c, .int .i64 k] w fun e w' => e = .returned (.int .i64 (k + 2 * n)) ∧ w = w' := by
  go_enter Try.func78, Try.ntmps78
  go_wp2
  go_loop [1, 5] (fun q i => ∃ j : Nat, i = .int .i64 j ∧ j ≤ n ∧ q = .int .i64 (k + 2 * j)) (fun _ i => n - (intOf i).toNat)
  case atStart => exact ⟨0, rfl, by omega, by go_num⟩
  case round =>
    obtain ⟨j, rfl, hj, rfl⟩ := hrel
    by_cases hlt : j < n
    · obtain ⟨b, o, x, rfl, hab, X, hc⟩ := hx.at pt_len (by decide) hlt
      have hxj : x = (k + 2 * (j : Int), k + 2 * (j : Int) + 1) := by have := X.out; rw [rampP_at hlt] at this; injection this with this; exact this.symm
      subst hxj
      have hc0 : w.cell? ⟨b, o + j * 2, none⟩ = some (.int .i64 (k + 2 * (j : Int))) := hc 0 _ rfl
      have hc1 : w.cell? ⟨b, o + j * 2 + 1, none⟩ = some (.int .i64 (k + 2 * (j : Int) + 1)) := hc 1 _ rfl
      clear hc
      go_wp2
      go_round
      case rel => exact ⟨j + 1, by go_num, by omega, by go_num⟩
      case measure => simp [intOf]; omega
    · obtain rfl : j = n := by omega
      go_wp2
      go_ret
      exact ⟨rfl, rfl⟩
theorem laws_markCurve (v : Value) (lo hi n : Nat) (k : Int) (xs : List (Int × Int)) (w : World) (hx : OA pt 34 2 lo hi w v xs) (hh : hi ≤ w.heap.size) (hn : xs.length = n) (hl : n ≤ 1000000000) (hk : 0 ≤ k ∧ k ≤ 1000000000) :
    Calls Try.prog 23 #[.agg #[v], .int .i64 k] w fun e w' => e = .returned (.int .i64 (k + 2 * n)) ∧ OA pt 34 2 lo hi w' v (rampP k n) ∧ Mid lo hi w w' := by
  have hl' := Lib.hid hn
  obtain ⟨A, c, rfl, hrr⟩ := hx.shape
  rw [hn]
  rw [hn] at hx
  clear hrr hn
  have hb : Below w.heap.size w (w.alloc (.cells #[.slice A n c] 30)) := (Below.refl _ _).alloc (Nat.le_refl _) _
  have hx2 := hx.below hb hh
  go_enter Try.func23, Try.ntmps23
  go_wp2_with (go_at_call 77; refine (laws_markCurvePointS _ _ _ _ _ _ _ hx2 hl'.out hl hk).mono ?_; rintro e w2 ⟨rfl, own2, m2⟩)
  go_ret
  exact ⟨rfl, own2, (Mid.of_below hb _ _).trans m2⟩
theorem laws_heldCurve (A : Option Addr) (n c : Nat) (k : Int) (w : World) (hx : RA pt 2 w w.heap.size A n (rampP k n)) (hn : n ≤ 1000000000) (hk : 0 ≤ k ∧ k ≤ 1000000000) :
    Calls Try.prog 24 #[.agg #[.slice A n c], .int .i64 k] w fun e w' => e = .returned (.int .i64 (k + 2 * n)) ∧ Below w.heap.size w w' := by
  have hb : Below w.heap.size w (w.alloc (.cells #[.slice A n c] 30)) := (Below.refl _ _).alloc (Nat.le_refl _) _
  have hx2 := hx.later hb
  go_enter Try.func24, Try.ntmps24
  go_wp2_with (go_at_call 78; refine (laws_heldCurvePointS _ _ _ _ _ hx2 hn hk).mono ?_; rintro e w2 ⟨rfl, rfl⟩)
  go_ret
  exact ⟨rfl, hb⟩
end Go.Proofs.Ytckihflfjecpbaa
namespace Go.Proofs.Ytckihflfjecpbaa
open Go.RowKit
set_option maxHeartbeats 400000
set_option maxRecDepth 100000
def M.ptOk (p : Int × Int) : Bool := M.inn p.1 0 4000 && M.inn p.2 (-65536) 65536
/-- The point before the k-th lies before it. -/
def M.after (xs : List (Int × Int)) (k : Nat) : Bool := k == 0 || decide (((xs[k - 1]?).getD (0, 0)).1 < ((xs[k]?).getD (0, 0)).1)
def M.stepOk (xs : List (Int × Int)) (k : Nat) : Bool := M.ptOk ((xs[k]?).getD (0, 0)) && M.after xs k
def M.curveOk (xs : List (Int × Int)) : Bool := (List.range xs.length).all (M.stepOk xs) && M.inn (xs.length : Int) 1 24
theorem impl_isCount (n : Int) (w : World) : Calls Try.prog 85 #[.int .i64 n] w fun e w' => e = .returned (.bool (M.inn n 0 4000)) ∧ w = w' := by
  go_enter Try.func85, Try.ntmps85
  go_wp2_with (go_at_call 81; refine (impl_within _ _ _ _).mono ?_; rintro e w' ⟨rfl, rfl⟩)
  go_ret
  exact ⟨rfl, rfl⟩
theorem impl_isPoint (a b : Int) (w : World) : Calls Try.prog 75 #[.agg #[.int .i64 a, .int .i64 b]] w fun e w' => e = .returned (.bool (M.ptOk (a, b))) ∧ Below w.heap.size w w' := by
  cases h1 : M.inn a 0 4000 <;> cases h2 : M.inn b (-65536) 65536
  all_goals
    go_enter Try.func75, Try.ntmps75
    go_wp2_with (first | (go_at_call 85; refine (impl_isCount _ _).mono ?_; rintro e w' ⟨rfl, rfl⟩) | (go_at_call 81; refine (impl_within _ _ _ _).mono ?_; rintro e w' ⟨rfl, rfl⟩))
    go_ret
    exact ⟨ret_bool (by simp [M.ptOk, h1, h2]), (Below.refl _ _).alloc (Nat.le_refl _) _⟩
theorem spec_l25Point (b o : Nat) (p : Int × Int) (w : World) (h0 : w.cell? ⟨b, o, none⟩ = some (.int .i64 p.1)) (h1 : w.cell? ⟨b, o + 1, none⟩ = some (.int .i64 p.2)) :
    Calls Try.prog 72 #[.pointer (some ⟨b, o, none⟩)] w fun e w' => e = .returned (.bool (M.ptOk p)) ∧ w = w' := by
  obtain ⟨p0, p1⟩ := p
  cases h1 : M.inn p0 0 4000 <;> cases h2 : M.inn p1 (-65536) 65536
  all_goals
    go_enter Try.func72, Try.ntmps72
    go_wp2_with (go_at_call 79; refine (spec_l00In _ _ _ _).mono ?_; rintro e w' ⟨rfl, rfl⟩)
    go_ret
    exact ⟨ret_bool (by simp [M.ptOk, h1, h2]), rfl⟩
theorem impl_size_impl_CurvePoint (A : Option Addr) (n c : Nat) (w : World) : Calls Try.prog 82 #[.slice A n c] w fun e w' => e = .returned (.int .i64 n) ∧ w = w' := by
  go_enter Try.func82, Try.ntmps82
  go_wp2
  go_ret
  exact ⟨rfl, rfl⟩
theorem M.div_low {a b : Int} (hb : 0 < b) (hm : a.tmod b < 0) : a.tdiv b - 1 = a / b := by
  have h1 := Int.tmod_add_mul_tdiv a b
  have h2 : -b < a.tmod b := by
    have := Int.lt_tmod_of_pos a hb
    omega
  have h3 : a = (a.tmod b + b) + b * (a.tdiv b - 1) := by rw [Int.mul_sub, Int.mul_one]; omega
  rw [h3, Int.add_mul_ediv_left _ _ (by omega), Int.ediv_eq_zero_of_lt (by omega) (by omega), ← h3]
  omega
theorem M.div_high {a b : Int} (hb : 0 < b) (hm : ¬ a.tmod b < 0) : a.tdiv b = a / b := by
  have h1 := Int.tmod_add_mul_tdiv a b
  have h2 : a.tmod b < b := Int.tmod_lt_of_pos a hb
  have h3 : a = a.tmod b + b * a.tdiv b := by omega
  generalize hq : a.tdiv b = q at h3 ⊢
  rw [h3, Int.add_mul_ediv_left _ _ (by omega)]
  generalize a.tmod b = r at *
  rw [Int.ediv_eq_zero_of_lt (by omega) (by omega)]
  omega
theorem M.div_wrap {a b : Int} (ha : -9000000000000000000 ≤ a ∧ a ≤ 9000000000000000000) (hb : 0 < b) : wrap64 (a / b) = a / b := by
  have h1 : a / b ≤ 9000000000000000000 := by
    refine Int.ediv_le_of_le_mul hb ?_
    have : (9000000000000000000 : Int) * 1 ≤ 9000000000000000000 * b := Int.mul_le_mul_of_nonneg_left (by omega) (by omega)
    omega
  have h2 : -9000000000000000000 ≤ a / b := by
    refine Int.le_ediv_of_mul_le hb ?_
    have : (9000000000000000000 : Int) * 1 ≤ 9000000000000000000 * b := Int.mul_le_mul_of_nonneg_left (by omega) (by omega)
    omega
  unfold wrap64
  omega
theorem impl_floorDiv (a b : Int) (w : World) (ha : -9000000000000000000 ≤ a ∧ a ≤ 9000000000000000000) (hb : 0 < b) (hb2 : b ≤ 9000000000000000000) : Calls Try.prog 95 #[.int .i64 a, .int .i64 b] w fun e w' => e = .returned (.int .i64 (a / b)) ∧ w = w' := by
  have hb0 := Lib.hid (show ¬ b = 0 by omega)
  have hb1 := Lib.hid (show ¬ b = -1 by omega)
  by_cases hm : a.tmod b < 0
  · have hq := Lib.hid (M.div_low hb hm)
    go_enter Try.func95, Try.ntmps95
    go_wp2
    go_ret
    exact ⟨ret_int (by rw [hq.out]; exact M.div_wrap ha hb), rfl⟩
  · have hq := Lib.hid (M.div_high hb hm)
    go_enter Try.func95, Try.ntmps95
    go_wp2
    go_ret
    exact ⟨ret_int hq.out, rfl⟩
theorem spec_l25Div (a b : Int) (w : World) (ha : -9000000000000000000 ≤ a ∧ a ≤ 9000000000000000000) (hb : 0 < b) (hb2 : b ≤ 9000000000000000000) : Calls Try.prog 99 #[.int .i64 a, .int .i64 b] w fun e w' => e = .returned (.int .i64 (a / b)) ∧ w = w' := by
  have hb0 := Lib.hid (show ¬ b = 0 by omega)
  have hb1 := Lib.hid (show ¬ b = -1 by omega)
  by_cases hm : a.tmod b < 0
  · have hq := Lib.hid (M.div_low hb hm)
    go_enter Try.func99, Try.ntmps99
    go_wp2
    go_ret
    exact ⟨ret_int (by rw [hq.out]; exact M.div_wrap ha hb), rfl⟩
  · have hq := Lib.hid (M.div_high hb hm)
    go_enter Try.func99, Try.ntmps99
    go_wp2
    go_ret
    exact ⟨ret_int hq.out, rfl⟩
end Go.Proofs.Ytckihflfjecpbaa
namespace Go.Proofs.Ytckihflfjecpbaa
open Go.RowKit Go.Sort
set_option maxHeartbeats 400000
set_option maxRecDepth 100000
theorem M.all_upto {n : Nat} {f : Nat → Bool} (h : ∀ j, j < n → f j = true) : (List.range n).all f = true := by
  rw [List.all_eq_true]
  intro j hj
  exact h j (List.mem_range.1 hj)
theorem M.all_not {n k : Nat} {f : Nat → Bool} (hk : k < n) (h : f k = false) : (List.range n).all f = false := by
  rw [List.all_eq_false]
  exact ⟨k, List.mem_range.2 hk, by simp [h]⟩
theorem impl_isCurve (A : Option Addr) (n c : Nat) (xs : List (Int × Int)) (w : World) (hx : RA pt 2 w w.heap.size A n xs) (hn : n ≤ 1000000000) :
    Calls Try.prog 74 #[.agg #[.slice A n c]] w fun e w' => e = .returned (.bool (M.curveOk xs)) ∧ Below w.heap.size w w' := by
  have hl := Lib.hid hx.len
  have hbw : Below w.heap.size w (w.alloc (.cells #[.slice A n c] 30)) := (Below.refl _ _).alloc (Nat.le_refl _) _
  have hself := lay_cell w (.slice A n c) 30
  have hsize : (w.alloc (.cells #[.slice A n c] 30)).heap.size = w.heap.size + 1 := by simp
  go_enter Try.func74, Try.ntmps74
  go_wp2
  go_loopw [3, 4, 8] (fun _ _ i wr => ∃ k : Nat, i = .int .i64 k ∧ k ≤ n ∧ Hid (∀ j, j < k → M.stepOk xs j = true) ∧ Below (w.heap.size + 1) (w.alloc (.cells #[.slice A n c] 30)) wr) (fun _ _ i _ => n - (intOf i).toNat)
  case atStart => exact ⟨0, rfl, by omega, Lib.hid (by omega), Below.refl _ _⟩
  case round =>
    obtain ⟨k, rfl, hk, H, hb⟩ := hrel
    have hbb : Below w.heap.size w wr := hbw.trans (hb.mono (by omega))
    have hsz : w.heap.size + 1 ≤ wr.heap.size := by rw [← hsize]; exact hb.size
    have hv : wr.cell? ⟨w.heap.size, 0, none⟩ = some (.slice A n c) := by rw [hb.cell (by simp)]; exact hself
    by_cases hlt : k < n
    · obtain ⟨b, o, ⟨p0, p1⟩, rfl, hab, X, hc⟩ := (hx.below hbb).at pt_len (by decide) hlt
      have hc0 : wr.cell? ⟨b, o + k * 2, none⟩ = some (.int .i64 p0) := hc 0 _ rfl
      have hc1 : wr.cell? ⟨b, o + k * 2 + 1, none⟩ = some (.int .i64 p1) := hc 1 _ rfl
      clear hc
      obtain ⟨⟨r0, r1⟩, Z, hr⟩ := (hx.below hbb).cells pt_len (by decide) (k := k - 1) (by omega)
      have hr0 : wr.cell? ⟨b, o + (k - 1) * 2, none⟩ = some (.int .i64 r0) := hr 0 _ rfl
      clear hr
      have hs4 : (wr.alloc (.cells #[.int .i64 p0, .int .i64 p1] 34)).heap.size = wr.heap.size + 1 := by simp
      have hbr : b < (wr.alloc (.cells #[.int .i64 p0, .int .i64 p1] 34)).heap.size := by omega
      have hbv : w.heap.size < (wr.alloc (.cells #[.int .i64 p0, .int .i64 p1] 34)).heap.size := by omega
      have hbn : wr.heap.size < (wr.alloc (.cells #[.int .i64 p0, .int .i64 p1] 34)).heap.size := by omega
      have q0 : (wr.alloc (.cells #[.int .i64 p0, .int .i64 p1] 34)).cell? ⟨wr.heap.size, 0, none⟩ = some (.int .i64 p0) := by rw [cell_of_row _ wr.heap.size 0 _ 34 (0, 0) (heap_alloc_new wr _)]; rfl
      have q1 : (wr.alloc (.cells #[.int .i64 p0, .int .i64 p1] 34)).cell? ⟨wr.heap.size, 1, none⟩ = some (.int .i64 p1) := by rw [cell_of_row _ wr.heap.size 1 _ 34 (0, 0) (heap_alloc_new wr _)]; rfl
      have q2 : (wr.alloc (.cells #[.int .i64 p0, .int .i64 p1] 34)).cell? ⟨w.heap.size, 0, none⟩ = some (.slice (some ⟨b, o, none⟩) n c) := by rw [World.cell?_alloc_lt _ _ _ (by simp; omega)]; exact hv
      have q3 : (wr.alloc (.cells #[.int .i64 p0, .int .i64 p1] 34)).cell? ⟨b, o + (k - 1) * 2, none⟩ = some (.int .i64 r0) := by rw [World.cell?_alloc_lt _ _ _ (by simp; omega)]; exact hr0
      have hb4 : Below (w.heap.size + 1) (w.alloc (.cells #[.slice (some ⟨b, o, none⟩) n c] 30)) (wr.alloc (.cells #[.int .i64 p0, .int .i64 p1] 34)) := hb.alloc (by omega) _
      have hp0 := Lib.hid (show (xs[k]?).getD (0, 0) = (p0, p1) by rw [X.out]; rfl)
      have hz0 := Lib.hid (show (xs[k - 1]?).getD (0, 0) = (r0, r1) by rw [Z.out]; rfl)
      cases hp : M.ptOk (p0, p1)
      · have hno := Lib.hid (show M.curveOk xs = false by rw [M.curveOk, M.all_not (k := k) (by rw [hl.out]; exact hlt) (by rw [M.stepOk, hp0.out, hp, Bool.false_and]), Bool.false_and])
        go_wp2
        generalize hw4 : wr.alloc (.cells #[.int .i64 p0, .int .i64 p1] 34) = w4 at q0 q1 q2 q3 hbr hbv hbn hb4 ⊢
        clear hw4 hs4
        have cP : ∀ d os, Calls Try.prog 75 #[.agg #[.int .i64 p0, .int .i64 p1]] (grow (redrawn w4 d) os) fun e w'' => e = .returned (.bool false) ∧ ∃ p : Regrown, w'' = grow (redrawn w4 p.d) p.os := fun d os => Calls.regrown_of (by have h := impl_isPoint p0 p1 (grow (redrawn w4 d) os); rw [hp] at h; exact h)
        have k0' := cell_regrown q0
        have k1' := cell_regrown q1
        have k2' := cell_regrown q2
        have k3' := cell_regrown q3
        clear q0 q1 q2 q3
        (refine wp_region_quiet_below (by kernel_rfl) (by kernel_rfl) ?_; (repeat (go_big_quiet_step (exact cP _ _))); refine wpQuiet_nil ?_; intro _ hw'; obtain ⟨⟨dq, osq⟩, hw''⟩ := hw'; subst hw'')
        go_wp2
        go_ret
        exact ⟨ret_bool (by rw [hno.out]), hbw.trans ((hb4.trans ((below_regrown w4 dq osq).mono (by rw [← hsize]; exact hb4.size))).mono (by omega))⟩
      · by_cases hk0 : k = 0
        · have hyes := Lib.hid (show M.stepOk xs k = true by rw [M.stepOk, hp0.out, hp, M.after, hk0]; rfl)
          have hd : decide (0 < k) = false := by rw [hk0]; rfl
          have hd2 : ¬ 0 < k := by omega
          clear hk0
          go_wp2
          generalize hw4 : wr.alloc (.cells #[.int .i64 p0, .int .i64 p1] 34) = w4 at q0 q1 q2 q3 hbr hbv hbn hb4 ⊢
          clear hw4 hs4
          have cP : ∀ d os, Calls Try.prog 75 #[.agg #[.int .i64 p0, .int .i64 p1]] (grow (redrawn w4 d) os) fun e w'' => e = .returned (.bool true) ∧ ∃ p : Regrown, w'' = grow (redrawn w4 p.d) p.os := fun d os => Calls.regrown_of (by have h := impl_isPoint p0 p1 (grow (redrawn w4 d) os); rw [hp] at h; exact h)
          have k0' := cell_regrown q0
          have k1' := cell_regrown q1
          have k2' := cell_regrown q2
          have k3' := cell_regrown q3
          clear q0 q1 q2 q3
          (refine wp_region_quiet_below (by kernel_rfl) (by kernel_rfl) ?_; (repeat (go_big_quiet_step (exact cP _ _))); refine wpQuiet_nil ?_; intro _ hw'; obtain ⟨⟨dq, osq⟩, hw''⟩ := hw'; subst hw'')
          go_wp2
          go_roundw
          case rel => exact ⟨k + 1, by go_num, by omega, Lib.hid (fun j hj => by rcases Nat.lt_succ_iff_lt_or_eq.1 hj with h | h; exact H.out j h; rw [h]; exact hyes.out), hb4.trans ((below_regrown w4 dq osq).mono (by rw [← hsize]; exact hb4.size))⟩
          case measure => simp [intOf]; omega
        · have hkk : IntKind.i64.wrap ((k : Int) - 1) = ((k - 1 : Nat) : Int) := by rw [IntWalk.i64_in _ (by omega)]; omega
          have hk1n : ((k - 1 : Nat) : Int) < (n : Int) := by omega
          have hd : decide (0 < k) = true := decide_eq_true (by omega)
          by_cases hge : p0 ≤ r0
          · have hno := Lib.hid (show M.curveOk xs = false by rw [M.curveOk, M.all_not (k := k) (by rw [hl.out]; exact hlt) (by rw [M.stepOk, hp0.out, hp, M.after, hp0.out, hz0.out]; simp [hk0, hge]), Bool.false_and])
            go_wp2
            generalize hw4 : wr.alloc (.cells #[.int .i64 p0, .int .i64 p1] 34) = w4 at q0 q1 q2 q3 hbr hbv hbn hb4 ⊢
            clear hw4 hs4
            have cP : ∀ d os, Calls Try.prog 75 #[.agg #[.int .i64 p0, .int .i64 p1]] (grow (redrawn w4 d) os) fun e w'' => e = .returned (.bool true) ∧ ∃ p : Regrown, w'' = grow (redrawn w4 p.d) p.os := fun d os => Calls.regrown_of (by have h := impl_isPoint p0 p1 (grow (redrawn w4 d) os); rw [hp] at h; exact h)
            have k0' := cell_regrown q0
            have k1' := cell_regrown q1
            have k2' := cell_regrown q2
            have k3' := cell_regrown q3
            clear q0 q1 q2 q3
            (refine wp_region_quiet_below (by kernel_rfl) (by kernel_rfl) ?_; (repeat (go_big_quiet_step (exact cP _ _))); refine wpQuiet_nil ?_; intro _ hw'; obtain ⟨⟨dq, osq⟩, hw''⟩ := hw'; subst hw'')
            go_wp2
            go_ret
            exact ⟨ret_bool (by rw [hno.out]), hbw.trans ((hb4.trans ((below_regrown w4 dq osq).mono (by rw [← hsize]; exact hb4.size))).mono (by omega))⟩
          · have hyes := Lib.hid (show M.stepOk xs k = true by rw [M.stepOk, hp0.out, hp, M.after, hp0.out, hz0.out]; simp; omega)
            go_wp2
            generalize hw4 : wr.alloc (.cells #[.int .i64 p0, .int .i64 p1] 34) = w4 at q0 q1 q2 q3 hbr hbv hbn hb4 ⊢
            clear hw4 hs4
            have cP : ∀ d os, Calls Try.prog 75 #[.agg #[.int .i64 p0, .int .i64 p1]] (grow (redrawn w4 d) os) fun e w'' => e = .returned (.bool true) ∧ ∃ p : Regrown, w'' = grow (redrawn w4 p.d) p.os := fun d os => Calls.regrown_of (by have h := impl_isPoint p0 p1 (grow (redrawn w4 d) os); rw [hp] at h; exact h)
            have k0' := cell_regrown q0
            have k1' := cell_regrown q1
            have k2' := cell_regrown q2
            have k3' := cell_regrown q3
            clear q0 q1 q2 q3
            (refine wp_region_quiet_below (by kernel_rfl) (by kernel_rfl) ?_; (repeat (go_big_quiet_step (exact cP _ _))); refine wpQuiet_nil ?_; intro _ hw'; obtain ⟨⟨dq, osq⟩, hw''⟩ := hw'; subst hw'')
            go_wp2
            go_roundw
            case rel => exact ⟨k + 1, by go_num, by omega, Lib.hid (fun j hj => by rcases Nat.lt_succ_iff_lt_or_eq.1 hj with h | h; exact H.out j h; rw [h]; exact hyes.out), hb4.trans ((below_regrown w4 dq osq).mono (by rw [← hsize]; exact hb4.size))⟩
            case measure => simp [intOf]; omega
    · have hyes := Lib.hid (M.all_upto (n := xs.length) (f := M.stepOk xs) (fun j hj => H.out j (by rw [hl.out] at hj; omega)))
      have hres := Lib.hid (show M.inn (n : Int) 1 24 = M.curveOk xs by rw [M.curveOk, hyes.out, hl.out, Bool.true_and])
      go_wp2_with (first | (go_at_call 82; refine (impl_size_impl_CurvePoint _ _ _ _).mono ?_; rintro e w' ⟨rfl, rfl⟩) | (go_at_call 81; refine (impl_within _ _ _ _).mono ?_; rintro e w' ⟨rfl, rfl⟩))
      go_ret
      exact ⟨ret_bool hres.out, hbb⟩
end Go.Proofs.Ytckihflfjecpbaa
namespace Go.Proofs.Ytckihflfjecpbaa
open Go.RowKit Go.Sort
set_option maxHeartbeats 400000
set_option maxRecDepth 100000
theorem spec_l25Ok (vb : Nat) (A : Option Addr) (n c : Nat) (xs : List (Int × Int)) (w : World) (hv0 : w.cell? ⟨vb, 0, none⟩ = some (.slice A n c)) (hx : RA pt 2 w w.heap.size A n xs) (hn : n ≤ 1000000000) :
    Calls Try.prog 71 #[.pointer (some ⟨vb, 0, none⟩)] w fun e w' => e = .returned (.bool (M.curveOk xs)) ∧ Below w.heap.size w w' := by
  have hl := Lib.hid hx.len
  have hvb : vb < w.heap.size := World.block_lt_of_cell? w _ hv0
  go_enter Try.func71, Try.ntmps71
  go_wp2
  go_loopw [3] (fun i wr => ∃ k : Nat, i = .int .i64 k ∧ k ≤ n ∧ Hid (∀ j, j < k → M.stepOk xs j = true) ∧ Below w.heap.size w wr) (fun i _ => n - (intOf i).toNat)
  case atStart => exact ⟨0, rfl, by omega, Lib.hid (by omega), Below.refl _ _⟩
  case round =>
    obtain ⟨k, rfl, hk, H, hb⟩ := hrel
    have hv : wr.cell? ⟨vb, 0, none⟩ = some (.slice A n c) := by rw [hb.cell (by simpa using hvb)]; exact hv0
    by_cases hlt : k < n
    · obtain ⟨b, o, ⟨p0, p1⟩, rfl, hab, X, hc⟩ := (hx.below hb).at pt_len (by decide) hlt
      have hc0 : wr.cell? ⟨b, o + k * 2, none⟩ = some (.int .i64 p0) := hc 0 _ rfl
      have hc1 : wr.cell? ⟨b, o + k * 2 + 1, none⟩ = some (.int .i64 p1) := hc 1 _ rfl
      clear hc
      obtain ⟨⟨r0, r1⟩, Z, hr⟩ := (hx.below hb).cells pt_len (by decide) (k := k - 1) (by omega)
      have hr0 : wr.cell? ⟨b, o + (k - 1) * 2, none⟩ = some (.int .i64 r0) := hr 0 _ rfl
      clear hr
      have hp0 := Lib.hid (show (xs[k]?).getD (0, 0) = (p0, p1) by rw [X.out]; rfl)
      have hz0 := Lib.hid (show (xs[k - 1]?).getD (0, 0) = (r0, r1) by rw [Z.out]; rfl)
      cases hp : M.ptOk (p0, p1)
      · have hno := Lib.hid (show M.curveOk xs = false by rw [M.curveOk, M.all_not (k := k) (by rw [hl.out]; exact hlt) (by rw [M.stepOk, hp0.out, hp, Bool.false_and]), Bool.false_and])
        have cP : ∀ m, Calls Try.prog 72 #[.pointer (some ⟨b, o + k * 2, none⟩)] (wr.drewN m) fun e w'' => e = .returned (.bool false) ∧ ∃ m', w'' = wr.drewN m' := fun m => quiet_left (by have h := spec_l25Point b (o + k * 2) (p0, p1) (wr.drewN m) hc0 hc1; rw [hp] at h; exact h)
        go_wp2
        go_quiet (exact cP _)
        go_wp2
        go_ret
        exact ⟨ret_bool (by rw [hno.out]), hb.trans (below_drewN (Below.refl _ _) _)⟩
      · by_cases hk0 : k = 0
        · have hyes := Lib.hid (show M.stepOk xs k = true by rw [M.stepOk, hp0.out, hp, M.after, hk0]; rfl)
          have hd : decide (0 < k) = false := by rw [hk0]; rfl
          have hd2 : ¬ 0 < k := by omega
          clear hk0
          have cP : ∀ m, Calls Try.prog 72 #[.pointer (some ⟨b, o + k * 2, none⟩)] (wr.drewN m) fun e w'' => e = .returned (.bool true) ∧ ∃ m', w'' = wr.drewN m' := fun m => quiet_left (by have h := spec_l25Point b (o + k * 2) (p0, p1) (wr.drewN m) hc0 hc1; rw [hp] at h; exact h)
          go_wp2
          go_quiet (exact cP _)
          go_wp2
          go_roundw
          case rel => exact ⟨k + 1, by go_num, by omega, Lib.hid (fun j hj => by rcases Nat.lt_succ_iff_lt_or_eq.1 hj with h | h; exact H.out j h; rw [h]; exact hyes.out), hb.trans (below_drewN (Below.refl _ _) _)⟩
          case measure => simp [intOf]; omega
        · have hkk : IntKind.i64.wrap ((k : Int) - 1) = ((k - 1 : Nat) : Int) := by rw [IntWalk.i64_in _ (by omega)]; omega
          have hk1n : ((k - 1 : Nat) : Int) < (n : Int) := by omega
          have hd : decide (0 < k) = true := decide_eq_true (by omega)
          by_cases hge : p0 ≤ r0
          · have hno := Lib.hid (show M.curveOk xs = false by rw [M.curveOk, M.all_not (k := k) (by rw [hl.out]; exact hlt) (by rw [M.stepOk, hp0.out, hp, M.after, hp0.out, hz0.out]; simp [hk0, hge]), Bool.false_and])
            have cP : ∀ m, Calls Try.prog 72 #[.pointer (some ⟨b, o + k * 2, none⟩)] (wr.drewN m) fun e w'' => e = .returned (.bool true) ∧ ∃ m', w'' = wr.drewN m' := fun m => quiet_left (by have h := spec_l25Point b (o + k * 2) (p0, p1) (wr.drewN m) hc0 hc1; rw [hp] at h; exact h)
            go_wp2
            go_quiet (exact cP _)
            go_wp2
            go_ret
            exact ⟨ret_bool (by rw [hno.out]), hb.trans (below_drewN (Below.refl _ _) _)⟩
          · have hyes := Lib.hid (show M.stepOk xs k = true by rw [M.stepOk, hp0.out, hp, M.after, hp0.out, hz0.out]; simp; omega)
            have cP : ∀ m, Calls Try.prog 72 #[.pointer (some ⟨b, o + k * 2, none⟩)] (wr.drewN m) fun e w'' => e = .returned (.bool true) ∧ ∃ m', w'' = wr.drewN m' := fun m => quiet_left (by have h := spec_l25Point b (o + k * 2) (p0, p1) (wr.drewN m) hc0 hc1; rw [hp] at h; exact h)
            go_wp2
            go_quiet (exact cP _)
            go_wp2
            go_roundw
            case rel => exact ⟨k + 1, by go_num, by omega, Lib.hid (fun j hj => by rcases Nat.lt_succ_iff_lt_or_eq.1 hj with h | h; exact H.out j h; rw [h]; exact hyes.out), hb.trans (below_drewN (Below.refl _ _) _)⟩
            case measure => simp [intOf]; omega
    · have hyes := Lib.hid (M.all_upto (n := xs.length) (f := M.stepOk xs) (fun j hj => H.out j (by rw [hl.out] at hj; omega)))
      have hres := Lib.hid (show M.inn (n : Int) 1 24 = M.curveOk xs by rw [M.curveOk, hyes.out, hl.out, Bool.true_and])
      go_wp2_with (go_at_call 79; refine (spec_l00In _ _ _ _).mono ?_; rintro e w' ⟨rfl, rfl⟩)
      go_ret
      exact ⟨ret_bool hres.out, hb⟩
end Go.Proofs.Ytckihflfjecpbaa
namespace Go.Proofs.Ytckihflfjecpbaa
open Go.RowKit Go.Sort
set_option maxHeartbeats 400000
set_option maxRecDepth 100000
def M.seg (p q : Int × Int) (t : Int) : Int := p.2 + (q.2 - p.2) * (t - p.1) / (q.1 - p.1)
def M.atGo : (Int × Int) → List (Int × Int) → Int → Int
  | p, [], _ => p.2
  | p, q :: qs, t => if t < q.1 then M.seg p q t else M.atGo q qs t
def M.atC : List (Int × Int) → Int → Int
  | [], _ => 0
  | p :: qs, t => if t < p.1 then p.2 else M.atGo p qs t
theorem M.inn_iff {n a b : Int} : M.inn n a b = true ↔ a ≤ n ∧ n ≤ b := by simp [M.inn]
theorem M.curve_len {xs : List (Int × Int)} (h : M.curveOk xs = true) : 1 ≤ xs.length ∧ xs.length ≤ 24 := by
  rw [M.curveOk, Bool.and_eq_true, M.inn_iff] at h
  omega
theorem M.curve_step {xs : List (Int × Int)} (h : M.curveOk xs = true) {k : Nat} (hk : k < xs.length) : M.stepOk xs k = true := by
  rw [M.curveOk, Bool.and_eq_true, List.all_eq_true] at h
  exact h.1 k (List.mem_range.2 hk)
theorem M.curve_pt {xs : List (Int × Int)} (h : M.curveOk xs = true) {k : Nat} {p : Int × Int} (hk : xs[k]? = some p) : (0 ≤ p.1 ∧ p.1 ≤ 4000) ∧ -65536 ≤ p.2 ∧ p.2 ≤ 65536 := by
  have h1 := M.curve_step h (List.getElem?_eq_some_iff.1 hk).1
  rw [M.stepOk, Bool.and_eq_true, hk] at h1
  have h2 := h1.1
  rw [Option.getD_some, M.ptOk, Bool.and_eq_true, M.inn_iff, M.inn_iff] at h2
  exact h2
theorem M.curve_lt {xs : List (Int × Int)} (h : M.curveOk xs = true) {k : Nat} {p q : Int × Int} (h0 : 0 < k) (hp : xs[k - 1]? = some p) (hq : xs[k]? = some q) : p.1 < q.1 := by
  have h1 := M.curve_step h (List.getElem?_eq_some_iff.1 hq).1
  rw [M.stepOk, Bool.and_eq_true, M.after, hp, hq] at h1
  have h2 := h1.2
  simp at h2
  rcases h2 with h2 | h2
  · omega
  · exact h2
theorem M.atGo_step {xs : List (Int × Int)} {k : Nat} {p q : Int × Int} {t : Int} (hq : xs[k]? = some q) : M.atGo p (xs.drop k) t = if t < q.1 then M.seg p q t else M.atGo q (xs.drop (k + 1)) t := by
  obtain ⟨hl, he⟩ := List.getElem?_eq_some_iff.1 hq
  rw [List.drop_eq_getElem_cons hl, he, M.atGo]
theorem M.atGo_end {xs : List (Int × Int)} {k : Nat} {p : Int × Int} {t : Int} (hk : xs.length ≤ k) : M.atGo p (xs.drop k) t = p.2 := by
  rw [List.drop_eq_nil_of_le hk, M.atGo]
theorem M.atC_go {xs : List (Int × Int)} {p : Int × Int} {t : Int} (hp : xs[0]? = some p) (ht : ¬ t < p.1) : M.atC xs t = M.atGo p (xs.drop 1) t := by
  cases xs with
  | nil => simp at hp
  | cons x ys =>
    simp only [List.getElem?_cons_zero, Option.some.injEq] at hp
    subst hp
    rw [M.atC, if_neg ht]
    rfl
theorem M.atC_low {xs : List (Int × Int)} {p : Int × Int} {t : Int} (hp : xs[0]? = some p) (ht : t < p.1) : M.atC xs t = p.2 := by
  cases xs with
  | nil => simp at hp
  | cons x ys =>
    simp only [List.getElem?_cons_zero, Option.some.injEq] at hp
    subst hp
    rw [M.atC, if_pos ht]
theorem M.seg_at (p q : Int × Int) : M.seg p q p.1 = p.2 := by simp [M.seg]
theorem M.atC_first {xs : List (Int × Int)} (h : M.curveOk xs = true) {p : Int × Int} {t : Int} (hp : xs[0]? = some p) (ht : t ≤ p.1) : M.atC xs t = p.2 := by
  by_cases h1 : t < p.1
  · exact M.atC_low hp h1
  · obtain rfl : t = p.1 := by omega
    rw [M.atC_go hp h1]
    by_cases h2 : 1 < xs.length
    · have hq := List.getElem?_eq_getElem h2
      rw [M.atGo_step hq, if_pos (M.curve_lt h (by omega) hp hq), M.seg_at]
    · rw [M.atGo_end (by omega)]
theorem M.mul_bound {a b x y : Int} (ha : -x ≤ a ∧ a ≤ x) (hb : -y ≤ b ∧ b ≤ y) (hx : 0 ≤ x) : -(x * y) ≤ a * b ∧ a * b ≤ x * y := by
  have h1 : a.natAbs * b.natAbs ≤ x.natAbs * y.natAbs := Nat.mul_le_mul (by omega) (by omega)
  have h2 : (a * b).natAbs ≤ (x * y).natAbs := by rw [Int.natAbs_mul, Int.natAbs_mul]; exact h1
  have h3 : 0 ≤ x * y := Int.mul_nonneg hx (by omega)
  omega
theorem M.div_small {a b c : Int} (ha : -c ≤ a ∧ a ≤ c) (hb : 0 < b) (hc : 0 ≤ c) : -c ≤ a / b ∧ a / b ≤ c := by
  have h0 : c * 1 ≤ c * b := Int.mul_le_mul_of_nonneg_left (by omega) hc
  constructor
  · refine Int.le_ediv_of_mul_le hb ?_
    rw [Int.neg_mul]
    omega
  · refine Int.ediv_le_of_le_mul hb ?_
    omega
end Go.Proofs.Ytckihflfjecpbaa
