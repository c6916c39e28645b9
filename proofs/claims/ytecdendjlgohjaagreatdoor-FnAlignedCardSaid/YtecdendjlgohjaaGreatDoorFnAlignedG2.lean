import Derived.Test.YtecdendjlgohjaaGreatDoorFnAlignedG1
import Derived.Maps.AppendAt
import Derived.Laws.IdiomStrings
import Derived.Lib.Strings
import Derived.Maps.OwnOps
import Derived.Maps.OwnSet
import Derived.StringKeys
import Derived.Deep.DeepCutAuto
set_option linter.unusedVariables false
set_option linter.unusedSimpArgs false
namespace Go.Proofs.YtecdendjlgohjaaGreatDoor
open Go.RowKit

/-- Only blocks of F, and new ones, have turned. -/
structure Chg (F : Nat → Prop) (w w' : World) : Prop where
  os : w'.os = w.os
  tape : w'.tape = w.tape
  output : w'.output = w.output
  size : w.heap.size ≤ w'.heap.size
  block : ∀ k, k < w.heap.size → ¬ F k → w'.heap[k]? = w.heap[k]?
section
variable {F F' : Nat → Prop} {a b c w w' : World} {lo hi B : Nat}
theorem Chg.refl (F : Nat → Prop) (w : World) : Chg F w w := ⟨rfl, rfl, rfl, Nat.le_refl _, fun _ _ _ => rfl⟩
theorem Chg.trans (h : Chg F a b) (k : Chg F b c) : Chg F a c :=
  ⟨k.os.trans h.os, k.tape.trans h.tape, k.output.trans h.output, Nat.le_trans h.size k.size, fun i hi hm => (k.block i (Nat.lt_of_lt_of_le hi h.size) hm).trans (h.block i hi hm)⟩
theorem Chg.wide (h : Chg F a b) (hf : ∀ k, F k → F' k) : Chg F' a b := ⟨h.os, h.tape, h.output, h.size, fun k hk hn => h.block k hk fun hF => hn (hf k hF)⟩
theorem Chg.of_below (h : Below a.heap.size a b) (F : Nat → Prop) : Chg F a b := ⟨h.os, h.tape, h.output, h.size, fun k hk _ => h.block k hk⟩
theorem Chg.of_grown {row : Option Nat} (h : a.grownBy b row) (hr : ∀ k, row = some k → F k) : Chg F a b :=
  ⟨h.os, h.tape, h.output, h.size, fun k hk hn => h.block k hk fun e => hn (hr k e.symm)⟩
theorem Chg.toBelow (h : Chg F a b) (hF : ∀ k, F k → B ≤ k) (hB : B ≤ a.heap.size) : Below B a b := ⟨h.os, h.tape, h.output, h.size, fun k hk => h.block k (by omega) fun hk' => by have := hF k hk'; omega⟩
theorem Chg.set (w : World) (g o : Nat) (u : Value) (hF : F g) : Chg F w (w.setCell ⟨g, o, none⟩ u) := Chg.of_grown (grown_setCell w g o u) fun k hk => by injection hk with hk; rw [← hk]; exact hF
end

/-- Rows of cells, s each. -/
theorem flat2_at {s : Nat} {css : List (List Value)} (hs : ∀ c ∈ css, c.length = s) {k : Nat} {c : List Value} (hk : css[k]? = some c) (j : Nat) (hj : j < s) : css.flatten[k * s + j]? = c[j]? := by
  induction css generalizing k with
  | nil => simp at hk
  | cons y ys ih =>
    have hy := hs y (by simp)
    cases k with
    | zero =>
      simp only [List.getElem?_cons_zero, Option.some.injEq] at hk
      subst hk
      rw [List.flatten_cons, Nat.zero_mul, Nat.zero_add, List.getElem?_append_left (by omega)]
    | succ k =>
      simp only [List.getElem?_cons_succ] at hk
      rw [List.flatten_cons, List.getElem?_append_right (by rw [hy, Nat.succ_mul]; omega), hy, ← ih (fun c hc => hs c (by simp [hc])) hk]
      congr 1
      rw [Nat.succ_mul]
      omega
theorem flat2_len {s : Nat} {css : List (List Value)} (hs : ∀ c ∈ css, c.length = s) : css.flatten.length = css.length * s := by
  induction css with
  | nil => simp
  | cons y ys ih => rw [List.flatten_cons, List.length_append, hs y (by simp), ih (fun c hc => hs c (by simp [hc])), List.length_cons, Nat.succ_mul, Nat.add_comm]
theorem flat2_set {s : Nat} {css : List (List Value)} (hs : ∀ c ∈ css, c.length = s) {k j : Nat} {c : List Value} {u : Value} (hk : css[k]? = some c) (hj : j < s) : css.flatten.set (k * s + j) u = (css.set k (c.set j u)).flatten := by
  induction css generalizing k with
  | nil => simp at hk
  | cons y ys ih =>
    have hy := hs y (by simp)
    cases k with
    | zero =>
      simp only [List.getElem?_cons_zero, Option.some.injEq] at hk
      subst hk
      rw [List.flatten_cons, Nat.zero_mul, Nat.zero_add, List.set_append_left _ _ (by omega), List.set_cons_zero, List.flatten_cons]
    | succ k =>
      simp only [List.getElem?_cons_succ] at hk
      rw [List.flatten_cons, List.set_append_right _ _ (by rw [hy, Nat.succ_mul]; omega), hy, List.set_cons_succ, List.flatten_cons, ← ih (fun c hc => hs c (by simp [hc])) hk]
      congr 2
      rw [Nat.succ_mul]
      omega

/-- How a plain type lies in cells: what reads as x (R), and what the call owns, in blocks of F (O). -/
structure Ty (α : Type) where
  s : Nat
  pos : 0 < s
  zero : α
  R : World → Nat → List Value → α → Prop
  O : World → (Nat → Prop) → List Value → α → Prop
  rlen : ∀ {w B cs x}, R w B cs x → cs.length = s
  keep : ∀ {w w' B cs x}, (∀ p : Addr, p.block < B → w'.cell? p = w.cell? p) → R w B cs x → R w' B cs x
  more : ∀ {w B B' cs x}, B ≤ B' → R w B cs x → R w B' cs x
  read : ∀ {w F cs x}, O w F cs x → R w w.heap.size cs x
  okeep : ∀ {w w' F cs x}, (∀ b, F b → w'.heap[b]? = w.heap[b]?) → O w F cs x → O w' F cs x
  owide : ∀ {w F F' cs x}, (∀ b, F b → F' b) → O w F cs x → O w F' cs x
  ocells : ∀ {w F cs x}, O w F cs x → ∀ u ∈ cs, u.oneCell' = true
  oreal : ∀ {w F cs x}, O w F cs x → O w (fun b => F b ∧ b < w.heap.size) cs x

/-- A type whose cells are the value itself. -/
def Ty.flat {α : Type} (s : Nat) (pos : 0 < s) (zero : α) (enc : α → List Value) (henc : ∀ x, (enc x).length = s) (h1 : ∀ x, ∀ u ∈ enc x, u.oneCell' = true) : Ty α where
  s := s
  pos := pos
  zero := zero
  R _ _ cs x := cs = enc x
  O _ _ cs x := cs = enc x
  rlen h := by rw [h]; exact henc _
  keep _ h := h
  more _ h := h
  read h := h
  okeep _ h := h
  owide _ h := h
  ocells h := by rw [h]; exact h1 _
  oreal h := h
def tI : Ty Int := Ty.flat 1 (by decide) 0 (fun x => [.int .i64 x]) (fun _ => rfl) (by simp [Value.oneCell'])
/-- Two types side by side: a struct. -/
def Ty.prod {α β : Type} (a : Ty α) (b : Ty β) : Ty (α × β) where
  s := a.s + b.s
  pos := Nat.add_pos_left a.pos _
  zero := (a.zero, b.zero)
  R w B cs x := ∃ c1 c2, cs = c1 ++ c2 ∧ a.R w B c1 x.1 ∧ b.R w B c2 x.2
  O w F cs x := ∃ c1 c2 F1 F2, cs = c1 ++ c2 ∧ a.O w F1 c1 x.1 ∧ b.O w F2 c2 x.2 ∧ (∀ k, F1 k → F k) ∧ (∀ k, F2 k → F k) ∧ (∀ k, F1 k → ¬ F2 k)
  rlen := by rintro w B cs x ⟨c1, c2, rfl, h1, h2⟩; rw [List.length_append, a.rlen h1, b.rlen h2]
  keep := by rintro w w' B cs x hk ⟨c1, c2, rfl, h1, h2⟩; exact ⟨c1, c2, rfl, a.keep hk h1, b.keep hk h2⟩
  more := by rintro w B B' cs x hk ⟨c1, c2, rfl, h1, h2⟩; exact ⟨c1, c2, rfl, a.more hk h1, b.more hk h2⟩
  read := by rintro w F cs x ⟨c1, c2, F1, F2, rfl, h1, h2, _⟩; exact ⟨c1, c2, rfl, a.read h1, b.read h2⟩
  okeep := by rintro w w' F cs x hk ⟨c1, c2, F1, F2, rfl, h1, h2, f1, f2, f3⟩; exact ⟨c1, c2, F1, F2, rfl, a.okeep (fun b hb => hk b (f1 b hb)) h1, b.okeep (fun b hb => hk b (f2 b hb)) h2, f1, f2, f3⟩
  owide := by rintro w F F' cs x hk ⟨c1, c2, F1, F2, rfl, h1, h2, f1, f2, f3⟩; exact ⟨c1, c2, F1, F2, rfl, h1, h2, fun k h => hk k (f1 k h), fun k h => hk k (f2 k h), f3⟩
  ocells := by
    rintro w F cs x ⟨c1, c2, F1, F2, rfl, h1, h2, _⟩ u hu
    rcases List.mem_append.1 hu with h | h
    · exact a.ocells h1 u h
    · exact b.ocells h2 u h
  oreal := by
    rintro w F cs x ⟨c1, c2, F1, F2, rfl, h1, h2, f1, f2, f3⟩
    exact ⟨c1, c2, _, _, rfl, a.oreal h1, b.oreal h2, fun k h => ⟨f1 k h.1, h.2⟩, fun k h => ⟨f2 k h.1, h.2⟩, fun k h h' => f3 k h.1 h'.1⟩

section
variable {α : Type} (t : Ty α)
/-- A slice that reads as a list. -/
def RS (w : World) (B : Nat) (v : Value) (xs : List α) : Prop :=
  ∃ (A : Option Addr) (c : Nat) (css : List (List Value)), v = .slice A xs.length c ∧ xs.length ≤ c ∧ c ≤ maxLen ∧ css.length = xs.length ∧ Reads w B t.s A xs.length css.flatten ∧ ∀ k (h : k < xs.length) (h' : k < css.length), t.R w B css[k] xs[k]
/-- The call's own slice: a row of its own, each element in blocks of its own. -/
def OS (e : TypeId) (w : World) (F : Nat → Prop) (v : Value) (xs : List α) : Prop :=
  ∃ (css : List (List Value)) (Fs : Nat → Nat → Prop), w.ownsRow 0 e t.s v xs.length css.flatten ∧ css.length = xs.length ∧ (∀ g, v.ownBlock = some g → F g) ∧ (∀ k b, Fs k b → F b ∧ v.ownBlock ≠ some b) ∧
    (∀ j k b, j ≠ k → Fs j b → ¬ Fs k b) ∧ ∀ k (h : k < xs.length) (h' : k < css.length), t.O w (Fs k) css[k] xs[k]
end
section
variable {α : Type} {t : Ty α} {e : TypeId} {w w' : World} {F F' : Nat → Prop} {B B' : Nat} {v : Value} {xs : List α}
theorem RS.keep (hk : ∀ p : Addr, p.block < B → w'.cell? p = w.cell? p) (h : RS t w B v xs) : RS t w' B v xs := by
  obtain ⟨A, c, css, hv, h1, h2, h3, h4, h5⟩ := h
  exact ⟨A, c, css, hv, h1, h2, h3, h4.keep hk, fun k h h' => t.keep hk (h5 k h h')⟩
theorem RS.more (hB : B ≤ B') (h : RS t w B v xs) : RS t w B' v xs := by
  obtain ⟨A, c, css, hv, h1, h2, h3, h4, h5⟩ := h
  exact ⟨A, c, css, hv, h1, h2, h3, h4.more hB, fun k h h' => t.more hB (h5 k h h')⟩
theorem OS.read (h : OS t e w F v xs) : RS t w w.heap.size v xs := by
  obtain ⟨css, Fs, h1, h2, _, _, _, h6⟩ := h
  obtain ⟨A, c, rfl, hc, hm, hr⟩ := own_shape h1
  exact ⟨A, c, css, rfl, hc, hm, h2, hr, fun k h h' => t.read (h6 k h h')⟩
theorem OS.keep (hk : ∀ b, F b → w'.heap[b]? = w.heap[b]?) (h : OS t e w F v xs) : OS t e w' F v xs := by
  obtain ⟨css, Fs, h1, h2, h3, h4, h5, h6⟩ := h
  refine ⟨css, Fs, ⟨h1.1, ?_⟩, h2, h3, h4, h5, fun k h h' => t.okeep (fun b hb => hk b (h4 k b hb).1) (h6 k h h')⟩
  rcases h1.2 with hn | ⟨g, cap, cur, rfl, hb, hg, rest⟩
  · exact .inl hn
  · exact .inr ⟨g, cap, cur, rfl, hb, by rw [hk g (h3 g rfl)]; exact hg, rest⟩
theorem OS.wide (hF : ∀ b, F b → F' b) (h : OS t e w F v xs) : OS t e w F' v xs := by
  obtain ⟨css, Fs, h1, h2, h3, h4, h5, h6⟩ := h
  exact ⟨css, Fs, h1, h2, fun g hg => hF g (h3 g hg), fun k b hb => ⟨hF b (h4 k b hb).1, (h4 k b hb).2⟩, h5, h6⟩
theorem RS.cap {A : Option Addr} {n c : Nat} (h : RS t w B (.slice A n c) xs) : xs.length = n ∧ n ≤ c ∧ c ≤ maxLen := by
  obtain ⟨A', c', css, hv, h1, h2, _⟩ := h
  simp only [Value.slice.injEq] at hv
  obtain ⟨rfl, rfl, rfl⟩ := hv
  exact ⟨rfl, h1, h2⟩
theorem RS.shape (h : RS t w B v xs) : ∃ A c, v = .slice A xs.length c := by
  obtain ⟨A, c, css, hv, _⟩ := h
  exact ⟨A, c, hv⟩
theorem OS.shape (h : OS t e w F v xs) : ∃ A c, v = .slice A xs.length c := RS.shape h.read
/-- The k-th element's cells. -/
theorem RS.at (h : RS t w B v xs) {k : Nat} (hk : k < xs.length) : ∃ b o c cs, v = .slice (some ⟨b, o, none⟩) xs.length c ∧ b < B ∧ cs.length = t.s ∧ t.R w B cs xs[k] ∧ ∀ j u, cs[j]? = some u → w.cell? ⟨b, o + k * t.s + j, none⟩ = some u := by
  obtain ⟨A, c, css, rfl, h1, h2, h3, h4, h5⟩ := h
  obtain ⟨ad, rfl, hb, hc⟩ := h4.2 (by omega)
  have hs : ∀ c ∈ css, c.length = t.s := fun c hc => by
    obtain ⟨i, hi, rfl⟩ := List.getElem_of_mem hc
    exact t.rlen (h5 i (by omega) hi)
  have h0 : 0 < css.flatten.length := by
    rw [flat2_len hs]
    exact Nat.mul_pos (by omega) t.pos
  have hsp := spot_none (hc 0 _ (List.getElem?_eq_getElem h0))
  have hsp' : ad = ⟨ad.block, ad.off, none⟩ := by simpa [Addr.add] using hsp
  have hr := h5 k hk (by omega)
  refine ⟨ad.block, ad.off, c, css[k]'(by omega), by rw [← hsp'], hb, t.rlen hr, hr, fun j u hu => ?_⟩
  have hj : j < t.s := by rw [← t.rlen hr]; exact (List.getElem?_eq_some_iff.1 hu).1
  have := hc (k * t.s + j) u (by rw [flat2_at hs (List.getElem?_eq_getElem (by omega)) j hj]; exact hu)
  rw [hsp', Addr.add_lit, ← Nat.add_assoc] at this
  exact this
end

/-- A slice as a type of one cell. -/
def Ty.sl {α : Type} (t : Ty α) (e : TypeId) : Ty (List α) where
  s := 1
  pos := Nat.one_pos
  zero := []
  R w B cs x := ∃ v, cs = [v] ∧ RS t w B v x
  O w F cs x := ∃ v, cs = [v] ∧ OS t e w F v x
  rlen := by rintro w B cs x ⟨v, rfl, _⟩; rfl
  keep := by rintro w w' B cs x hk ⟨v, rfl, h⟩; exact ⟨v, rfl, h.keep hk⟩
  more := by rintro w B B' cs x hk ⟨v, rfl, h⟩; exact ⟨v, rfl, h.more hk⟩
  read := by rintro w F cs x ⟨v, rfl, h⟩; exact ⟨v, rfl, h.read⟩
  okeep := by rintro w w' F cs x hk ⟨v, rfl, h⟩; exact ⟨v, rfl, h.keep hk⟩
  owide := by rintro w F F' cs x hk ⟨v, rfl, h⟩; exact ⟨v, rfl, h.wide hk⟩
  ocells := by
    rintro w F cs x ⟨v, rfl, h⟩ u hu
    obtain ⟨A, c, hv⟩ := h.shape
    simp only [List.mem_singleton] at hu
    subst hu hv
    rfl
  oreal := by
    rintro w F cs x ⟨v, rfl, css, Fs, h1, h2, h3, h4, h5, h6⟩
    exact ⟨v, rfl, css, _, h1, h2, fun g hg => ⟨h3 g hg, (h1.lt g hg).2⟩, fun k b hb => ⟨⟨(h4 k b hb.1).1, hb.2⟩, (h4 k b hb.1).2⟩, fun j k b hne h h' => h5 j k b hne h.1 h'.1, fun k h h' => t.oreal (h6 k h h')⟩

section
variable {α : Type} {t : Ty α} {e : TypeId} {w w' : World} {F F' : Nat → Prop} {B B' lo hi : Nat} {v : Value} {xs : List α}
/-- Blocks from lo on and below hi. -/
def Iv (lo hi : Nat) : Nat → Prop := fun k => lo ≤ k ∧ k < hi
theorem Iv.mono {lo hi lo' hi' : Nat} (h1 : lo' ≤ lo) (h2 : hi ≤ hi') : ∀ b, Iv lo hi b → Iv lo' hi' b := fun b ⟨h, h'⟩ => ⟨Nat.le_trans h1 h, Nat.lt_of_lt_of_le h' h2⟩
theorem RS.later (h : RS t w w.heap.size v xs) (hb : Below w.heap.size w w') : RS t w' w'.heap.size v xs := (h.keep fun _ hp => hb.cell hp).more hb.size
theorem RS.below (h : RS t w B v xs) (hb : Below B w w') : RS t w' B v xs := h.keep fun _ hp => hb.cell hp
theorem OS.below (h : OS t e w (Iv lo hi) v xs) (hb : Below B w w') (hB : hi ≤ B) : OS t e w' (Iv lo hi) v xs := h.keep fun b hF => hb.block b (Nat.lt_of_lt_of_le hF.2 hB)
theorem OS.mid {l r : Nat} (h : OS t e w (Iv lo hi) v xs) (hm : Mid l r w w') (hd : hi ≤ l ∨ r ≤ lo) (hs : hi ≤ w.heap.size) : OS t e w' (Iv lo hi) v xs :=
  h.keep fun b ⟨h1, h2⟩ => hm.block b (by omega) (by omega)
theorem OS.iv {lo' hi' : Nat} (h : OS t e w (Iv lo hi) v xs) (h1 : lo' ≤ lo) (h2 : hi ≤ hi') : OS t e w (Iv lo' hi') v xs := h.wide (Iv.mono h1 h2)
theorem OS.nil (t : Ty α) (e : TypeId) (w : World) (F : Nat → Prop) : OS t e w F (.slice none 0 0) [] :=
  ⟨[], fun _ _ => False, World.ownsRow_nil _ _ _ _, rfl, by simp [Value.ownBlock], fun _ _ h => h.elim, fun _ _ _ _ h => h.elim, fun k h => by simp at h⟩
theorem RS.nil (t : Ty α) (w : World) (B : Nat) : RS t w B (.slice none 0 0) [] := ⟨none, 0, [], rfl, Nat.le_refl _, by simp [maxLen], rfl, Reads.none_, fun k h => by simp at h⟩
/-- All of an own slice but its k-th element. -/
def OH (t : Ty α) (e : TypeId) (w : World) (F : Nat → Prop) (v : Value) (xs : List α) (css : List (List Value)) (Fs : Nat → Nat → Prop) (k : Nat) : Prop :=
  w.ownsRow 0 e t.s v xs.length css.flatten ∧ css.length = xs.length ∧ (∀ c ∈ css, c.length = t.s) ∧ (∀ g, v.ownBlock = some g → F g) ∧ (∀ k b, Fs k b → F b ∧ v.ownBlock ≠ some b) ∧
    (∀ j k b, j ≠ k → Fs j b → ¬ Fs k b) ∧ ∀ i (h : i < xs.length) (h' : i < css.length), i ≠ k → t.O w (Fs i) css[i] xs[i]
theorem OS.open (h : OS t e w F v xs) {k : Nat} (hk : k < xs.length) : ∃ css Fs, OH t e w F v xs css Fs k ∧ ∃ cs, css[k]? = some cs ∧ t.O w (Fs k) cs xs[k] := by
  obtain ⟨css, Fs, h1, h2, h3, h4, h5, h6⟩ := h
  exact ⟨css, Fs, ⟨h1, h2, fun c hc => by
    obtain ⟨i, hi, rfl⟩ := List.getElem_of_mem hc
    exact t.rlen (t.read (h6 i (by omega) hi)), h3, h4, h5, fun i h h' _ => h6 i h h'⟩, css[k]'(by omega), List.getElem?_eq_getElem (by omega), h6 k hk (by omega)⟩
variable {css : List (List Value)} {Fs : Nat → Nat → Prop} {k : Nat}
theorem OH.fits (h : OH t e w F v xs css Fs k) : ∀ b, Fs k b → F b := fun b hb => (h.2.2.2.2.1 k b hb).1
theorem OH.form {A : Option Addr} {m c : Nat} (h : OH t e w F (.slice A m c) xs css Fs k) (hk : k < xs.length) : ∃ g, A = some ⟨g, 0, none⟩ ∧ F g ∧ ¬ Fs k g ∧ g < w.heap.size ∧ m = xs.length := by
  obtain ⟨h1, h2, h3, h4, h5, h6, h7⟩ := h
  rcases h1.2 with ⟨h0, _⟩ | ⟨g, cap, cur, h0, hg1, hg2, _⟩
  · simp only [Value.slice.injEq] at h0
    omega
  · simp only [Value.slice.injEq] at h0
    obtain ⟨rfl, rfl, rfl⟩ := h0
    exact ⟨g, rfl, h4 g rfl, fun hf => (h5 k g hf).2 rfl, (Array.getElem?_eq_some_iff.1 hg2).1, rfl⟩
theorem OH.cell {g m c : Nat} (h : OH t e w F (.slice (some ⟨g, 0, none⟩) m c) xs css Fs k) {cs : List Value} (hcs : css[k]? = some cs) {j : Nat} {u : Value} (hj : cs[j]? = some u) :
    w.cell? ⟨g, k * t.s + j, none⟩ = some u ∧ w.frozen? ⟨g, k * t.s + j, none⟩ = false := by
  obtain ⟨h1, h2, h3, _⟩ := h
  have hk : k < css.length := (List.getElem?_eq_some_iff.1 hcs).1
  have hm : m = xs.length := by
    rcases h1.2 with ⟨h0, _⟩ | ⟨g', cap, cur, h0, _⟩
    · simp at h0
    · simp only [Value.slice.injEq] at h0
      exact h0.2.1
  subst hm
  have hl : cs.length = t.s := h3 cs (List.mem_of_getElem? hcs)
  have hjs : j < t.s := by rw [← hl]; exact (List.getElem?_eq_some_iff.1 hj).1
  have hf := flat2_at h3 hcs j hjs
  rw [hj] at hf
  have hlt := (List.getElem?_eq_some_iff.1 hf).1
  exact ⟨by rw [World.ownsRow.cellAt h1 _ (by rw [← h1.1]; exact hlt)]; exact hf, World.ownsRow.frozenAt h1 _⟩
/-- A cell of the k-th element is written. -/
theorem OH.set {g m c : Nat} (h : OH t e w F (.slice (some ⟨g, 0, none⟩) m c) xs css Fs k) {cs : List Value} (hcs : css[k]? = some cs) (j : Nat) (hj : j < t.s) (u : Value) :
    OH t e (w.setCell ⟨g, k * t.s + j, none⟩ u) F (.slice (some ⟨g, 0, none⟩) m c) xs (css.set k (cs.set j u)) Fs k ∧ (css.set k (cs.set j u))[k]? = some (cs.set j u) := by
  obtain ⟨h1, h2, h3, h4, h5, h6, h7⟩ := h
  have hk : k < css.length := (List.getElem?_eq_some_iff.1 hcs).1
  have hm : m = xs.length := by
    rcases h1.2 with ⟨h0, _⟩ | ⟨g', cap, cur, h0, _⟩
    · simp at h0
    · simp only [Value.slice.injEq] at h0
      exact h0.2.1
  subst hm
  have hl : cs.length = t.s := h3 cs (List.mem_of_getElem? hcs)
  have hst := (World.ownsRow.stored h1 (k * t.s + j) u).1
  rw [flat2_set h3 hcs hj] at hst
  refine ⟨⟨hst, by rw [List.length_set]; exact h2, fun c hc => ?_, h4, h5, h6, fun i hi hi' hne => ?_⟩, by simp [hk]⟩
  · rcases List.mem_or_eq_of_mem_set hc with hc | rfl
    · exact h3 c hc
    · rw [List.length_set]; exact hl
  · rw [List.getElem_set_ne (fun e => hne e.symm)]
    refine t.okeep (fun b hb => ?_) (h7 i hi (by rw [List.length_set] at hi'; exact hi') hne)
    exact heap_setCell_other w ⟨g, k * t.s + j, none⟩ b u (fun e => (h5 i b hb).2 (by rw [e]; rfl))
/-- Blocks of the k-th element are written. -/
theorem OH.chg (h : OH t e w F v xs css Fs k) (hc : Chg (Fs k) w w') : OH t e w' F v xs css Fs k := by
  obtain ⟨h1, h2, h3, h4, h5, h6, h7⟩ := h
  refine ⟨⟨h1.1, ?_⟩, h2, h3, h4, h5, h6, fun i hi hi' hne => ?_⟩
  · rcases h1.2 with hn | ⟨g, cap, cur, rfl, hb, hg, rest⟩
    · exact .inl hn
    · exact .inr ⟨g, cap, cur, rfl, hb, by rw [hc.block g (Array.getElem?_eq_some_iff.1 hg).1 (fun hf => (h5 k g hf).2 rfl)]; exact hg, rest⟩
  · have ho := h7 i hi hi' hne
    exact t.owide (fun b hb => hb.1) (t.okeep (fun b hb => hc.block b hb.2 (fun hk => h6 k i b (fun e => hne e.symm) hk hb.1)) (t.oreal ho))
theorem OH.keep (h : OH t e w F v xs css Fs k) (hk : ∀ b, F b → w'.heap[b]? = w.heap[b]?) : OH t e w' F v xs css Fs k := by
  obtain ⟨h1, h2, h3, h4, h5, h6, h7⟩ := h
  refine ⟨⟨h1.1, ?_⟩, h2, h3, h4, h5, h6, fun i hi hi' hne => t.okeep (fun b hb => hk b (h5 i b hb).1) (h7 i hi hi' hne)⟩
  rcases h1.2 with hn | ⟨g, cap, cur, rfl, hb, hg, rest⟩
  · exact .inl hn
  · exact .inr ⟨g, cap, cur, rfl, hb, by rw [hk g (h4 g rfl)]; exact hg, rest⟩
/-- The k-th element is there again, in its own blocks or in others. -/
theorem OH.fill (h : OH t e w F v xs css Fs k) {cs : List Value} (hcs : css[k]? = some cs) {y : α} (hy : t.O w (Fs k) cs y) : OS t e w F v (xs.set k y) := by
  obtain ⟨h1, h2, h3, h4, h5, h6, h7⟩ := h
  refine ⟨css, Fs, by rw [List.length_set]; exact h1, by rw [List.length_set]; exact h2, h4, h5, h6, fun i hi hi' => ?_⟩
  by_cases hik : i = k
  · subst hik
    rw [List.getElem_set_self]
    rw [List.getElem?_eq_getElem hi', Option.some.injEq] at hcs
    rw [hcs]
    exact hy
  · rw [List.getElem_set_ne (fun e => hik e.symm)]
    exact h7 i (by rw [List.length_set] at hi; exact hi) hi' hik
/-- A fresh row of zeros. -/
theorem OS.made {zc : List Value} {n : Nat} {z : Value} {c : Nat} (hz : ∀ w F, t.O w F zc t.zero) (hzl : z.cells.toList = zc) (hF : F w.heap.size) (h : w'.ownsRow w.heap.size e t.s (.slice (some ⟨w.heap.size, 0, none⟩) n c) n (madeCells z.cells (n * t.s)).toList) :
    OS t e w' F (.slice (some ⟨w.heap.size, 0, none⟩) n c) (List.replicate n t.zero) := by
  have hl : zc.length = t.s := t.rlen (t.read (hz w F))
  have hm := made_flat (enc := fun _ : Unit => zc) (s := t.s) z.cells n () hzl.symm (fun _ => hl) t.pos
  refine ⟨List.replicate n zc, fun _ _ => False, ?_, by simp, fun g hg => ?_, fun _ _ h => h.elim, fun _ _ _ _ h => h.elim, fun k hk hk' => by simpa using hz w' _⟩
  · rw [List.length_replicate]
    rw [hm] at h
    have e0 : (List.replicate n ()).flatMap (fun _ => zc) = (List.replicate n zc).flatten := by
      rw [List.flatMap_def, List.map_replicate]
    rw [e0] at h
    exact own_base h (Nat.zero_le _)
  · simp only [Value.ownBlock, Option.some.injEq] at hg
    rw [← hg]
    exact hF
theorem OS.lt (h : OS t e w F v xs) : ∀ g, v.ownBlock = some g → F g ∧ g < w.heap.size := by
  obtain ⟨css, Fs, h1, _, h3, _⟩ := h
  exact fun g hg => ⟨h3 g hg, (h1.lt g hg).2⟩
theorem OS.real (h : OS t e w F v xs) : OS t e w (fun b => F b ∧ b < w.heap.size) v xs := by
  obtain ⟨css, Fs, h1, h2, h3, h4, h5, h6⟩ := h
  exact ⟨css, _, h1, h2, fun g hg => ⟨h3 g hg, (h1.lt g hg).2⟩, fun k b hb => ⟨⟨(h4 k b hb.1).1, hb.2⟩, (h4 k b hb.1).2⟩, fun j k b hne h h' => h5 j k b hne h.1 h'.1, fun k h h' => t.oreal (h6 k h h')⟩
theorem OS.chg (h : OS t e w F v xs) (hc : Chg F' w w') (hd : ∀ b, F b → ¬ F' b) : OS t e w' F v xs :=
  (h.real.keep fun b hb => hc.block b hb.2 (hd b hb.1)).wide fun _ hb => hb.1
end
section
variable {α : Type} {t : Ty α} {P : Program} {T e : TypeId} {z : Value} {bytes : Nat}
/-- 'out = append(out, x)' onto an own slice: x's cells lie in a new block. -/
theorem wpList_pushS (hE : EI P T e z t.s bytes) {w : World} {ops : Array Oper} {rest : List Oper} {o : Oper} {a : Act} {Q : Exit → Act → World → Prop} (us : Array Value)
    (hgd : o.guard = none) (s x : Operand) (ho : o.op = .call { callee := .builtin .append, args := #[s, x], argTypes := #[T, T] })
    {F Fe : Nat → Prop} {v : Value} {xs : List α} {y : α} (hown : OS t e w F v xs) (hy : t.O w Fe us.toList y) (hd : ∀ b, F b → ¬ Fe b) (hs : a.eval s = v)
    (hx : a.eval x = .slice (some ⟨w.heap.size, 0, none⟩) 1 1)
    (hn : xs.length + 1 ≤ maxLen) (hbytes : (xs.length + 1) * bytes ≤ 140737488355328)
    (K : ∀ v' w', OS t e w' (fun b => F b ∨ Fe b ∨ w.heap.size < b ∧ b < w'.heap.size) v' (xs ++ [y]) → Chg F w w' → wpList P ops Q rest (a.put o.dst v') w') :
    wpList P ops Q (o :: rest) a (w.alloc (.cells us e)) := by
  obtain ⟨ht, hinfo, hzs, hsz⟩ := hE
  obtain ⟨i0, hi, hz0, hz1, hz2⟩ := info_parts hinfo
  have hown' := hown.real
  have hy' := t.oreal hy
  obtain ⟨css, Fs, h1, h2, h3, h4, h5, h6⟩ := hown'
  have hus : us.toList.length = t.s := t.rlen (t.read hy)
  refine wpList_append_own_at _ hgd s x T ho 0 e i0 z t.s bytes ht hi hz0 hz1 hz2 hzs hsz v xs.length css.flatten hs (h1.alloc _) ⟨w.heap.size, 0, none⟩ 1 1 us.toList hx (by rw [hus, Nat.one_mul]) ?_ (t.ocells hy) hn hbytes (Nat.zero_le _) ?_
  · intro j u hj
    have hadd : (⟨w.heap.size, 0, none⟩ : Addr).add j = ⟨w.heap.size, j, none⟩ := by unfold Addr.add; split <;> simp_all
    rw [hadd, cell_of_row _ w.heap.size j us e (0, 0) (heap_alloc_new w _)]
    simpa using hj
  · intro v' w' g1 g2 _ g4
    have hsz' : (w.alloc (.cells us e)).heap.size = w.heap.size + 1 := by simp
    have hg : w.grownBy w' v.ownBlock := by
      have := World.grownBy_alloc w (.cells us e) none
      exact ⟨g2.os.trans this.os, g2.tape.trans this.tape, g2.output.trans this.output, Nat.le_trans this.size g2.size, fun k hk hne => by
        rw [g2.block k (by simp; omega) hne]; exact this.block k hk (by simp)⟩
    have hc : Chg F w w' := Chg.of_grown hg fun k hk => (h3 k hk).1
    refine K v' w' ⟨css ++ [us.toList], fun i b => if i = xs.length then Fe b ∧ b < w.heap.size else Fs i b, ?_, by simp [h2], fun g hgb => ?_, fun i b hb => ?_, fun i j b hne hbi hbj => ?_, fun i hi1 hi2 => ?_⟩ hc
    · rw [List.flatten_append, List.length_append]
      simpa using g1
    · rcases g4 with h | h
      · rw [h] at hgb
        exact .inl (h3 g hgb).1
      · rw [h, hsz', Option.some.injEq] at hgb
        exact .inr (.inr ⟨by omega, (g1.lt g (by rw [h, hsz']; simp; omega)).2⟩)
    · change (if i = xs.length then Fe b ∧ b < w.heap.size else Fs i b) at hb
      have hlt : b < w.heap.size := by
        by_cases hil : i = xs.length
        · rw [if_pos hil] at hb; exact hb.2
        · rw [if_neg hil] at hb; exact (h4 i b hb).1.2
      refine ⟨?_, ?_⟩
      · by_cases hil : i = xs.length
        · rw [if_pos hil] at hb
          exact .inr (.inl hb.1)
        · rw [if_neg hil] at hb
          exact .inl (h4 i b hb).1.1
      · rcases g4 with h | h
        · rw [h]
          by_cases hil : i = xs.length
          · rw [if_pos hil] at hb
            exact fun e => hd b (h3 b e).1 hb.1
          · rw [if_neg hil] at hb
            exact (h4 i b hb).2
        · rw [h, hsz']
          intro e
          injection e with e
          omega
    · change (if i = xs.length then Fe b ∧ b < w.heap.size else Fs i b) at hbi
      change (if j = xs.length then Fe b ∧ b < w.heap.size else Fs j b) at hbj
      by_cases hil : i = xs.length
      · rw [if_pos hil] at hbi
        rw [if_neg (fun e => hne (hil.trans e.symm))] at hbj
        exact hd b (h4 j b hbj).1.1 hbi.1
      · rw [if_neg hil] at hbi
        by_cases hjl : j = xs.length
        · rw [if_pos hjl] at hbj
          exact hd b (h4 i b hbi).1.1 hbj.1
        · rw [if_neg hjl] at hbj
          exact h5 i j b hne hbi hbj
    · by_cases hil : i = xs.length
      · subst hil
        rw [List.getElem_append_right (by omega), List.getElem_append_right (by omega)]
        simp only [h2, Nat.sub_self, List.getElem_singleton, if_true]
        exact t.okeep (fun b hb => hg.block b hb.2 (fun e => hd b (h3 b e.symm).1 hb.1)) hy'
      · have hi' : i < xs.length := by rw [List.length_append] at hi1; simp at hi1; omega
        rw [List.getElem_append_left (by omega), List.getElem_append_left hi']
        simp only [if_neg hil]
        exact t.okeep (fun b hb => hg.block b (h4 i b hb).1.2 (fun e => (h4 i b hb).2 e.symm)) (h6 i hi' (by omega))
end
end Go.Proofs.YtecdendjlgohjaaGreatDoor
namespace Go.Proofs.YtecdendjlgohjaaGreatDoor
open Go.RowKit
section
variable {α : Type} (t : Ty α) {w w' : World} {B lo hi lo' hi' l r : Nat} {cs : List Value} {x : α} {F F' : Nat → Prop}
theorem Ty.below (h : t.R w B cs x) (hb : Below B w w') : t.R w' B cs x := t.keep (fun _ hp => hb.cell hp) h
theorem Ty.later (h : t.R w w.heap.size cs x) (hb : Below w.heap.size w w') : t.R w' w'.heap.size cs x := t.more hb.size (t.below h hb)
theorem Ty.ochg (h : t.O w F cs x) (hc : Chg F' w w') (hd : ∀ b, F b → ¬ F' b) : t.O w' F cs x := t.owide (fun b hb => hb.1) (t.okeep (fun b hb => hc.block b hb.2 (hd b hb.1)) (t.oreal h))
end
section
variable {w w' : World} {B lo hi n c : Nat} {A : Option Addr} {v : Value} {e : TypeId}
/-- Flat elements. -/
theorem RS.flat {α : Type} {s : Nat} {pos : 0 < s} {zero : α} {enc : α → List Value} {henc : ∀ x, (enc x).length = s} {h1 : ∀ x, ∀ u ∈ enc x, u.oneCell' = true} {xs : List α}
    (h : RS (Ty.flat s pos zero enc henc h1) w B (.slice A n c) xs) : RA enc s w B A n xs ∧ n ≤ c ∧ c ≤ maxLen := by
  obtain ⟨A', c', css, hv, h1', h2, h3, h4, h5⟩ := h
  simp only [Value.slice.injEq] at hv
  obtain ⟨rfl, rfl, rfl⟩ := hv
  refine ⟨⟨rfl, ?_⟩, h1', h2⟩
  have e0 : css = xs.map enc := by
    apply List.ext_getElem (by simp [h3])
    intro i hi hi'
    rw [List.getElem_map]
    exact h5 i (by omega) hi
  rw [List.flatMap_def, ← e0]
  exact h4
theorem RS.of_flat {α : Type} {s : Nat} {pos : 0 < s} {zero : α} {enc : α → List Value} {henc : ∀ x, (enc x).length = s} {h1 : ∀ x, ∀ u ∈ enc x, u.oneCell' = true} {xs : List α}
    (h : RA enc s w B A n xs) (hc : n ≤ c) (hm : c ≤ maxLen) : RS (Ty.flat s pos zero enc henc h1) w B (.slice A n c) xs := by
  obtain ⟨rfl, h2⟩ := h
  rw [List.flatMap_def] at h2
  exact ⟨A, c, xs.map enc, rfl, hc, hm, by simp, h2, fun k hk hk' => by
    show (xs.map enc)[k] = enc xs[k]
    rw [List.getElem_map]⟩
theorem OS.flat {α : Type} {s : Nat} {pos : 0 < s} {zero : α} {enc : α → List Value} {henc : ∀ x, (enc x).length = s} {h1 : ∀ x, ∀ u ∈ enc x, u.oneCell' = true} {xs : List α}
    (h : OS (Ty.flat s pos zero enc henc h1) e w (Iv lo hi) v xs) : OA enc e s lo hi w v xs := by
  obtain ⟨css, Fs, g1, g2, g3, _, _, g6⟩ := h
  have e0 : css = xs.map enc := by
    apply List.ext_getElem (by simp [g2])
    intro i hi hi'
    rw [List.getElem_map]
    exact g6 i (by omega) hi
  subst e0
  refine ⟨⟨by rw [List.flatMap_def]; exact g1.1, ?_⟩, fun k hk => (g3 k hk).2⟩
  rcases g1.2 with hn | ⟨g, cap, cur, rfl, hb, rest⟩
  · exact .inl hn
  · rw [List.flatMap_def]
    exact .inr ⟨g, cap, cur, rfl, (g3 g rfl).1, rest⟩
theorem OS.of_flat {α : Type} {s : Nat} {pos : 0 < s} {zero : α} {enc : α → List Value} {henc : ∀ x, (enc x).length = s} {h1 : ∀ x, ∀ u ∈ enc x, u.oneCell' = true} {xs : List α}
    (h : OA enc e s lo hi w v xs) : OS (Ty.flat s pos zero enc henc h1) e w (Iv lo hi) v xs := by
  refine ⟨xs.map enc, fun _ _ => False, ?_, by simp, fun g hg => ⟨(h.1.lt g hg).1, h.2 g hg⟩, fun _ _ h => h.elim, fun _ _ _ _ h => h.elim, fun k hk hk' => ?_⟩
  · rw [← List.flatMap_def]
    exact own_base h.1 (Nat.zero_le _)
  · show (xs.map enc)[k] = enc xs[k]
    rw [List.getElem_map]
theorem flat_ints (xs : List Int) : xs.flatMap (fun x : Int => [Value.int .i64 x]) = xs.map (.int .i64) := by
  induction xs with
  | nil => rfl
  | cons y ys ih => rw [List.flatMap_cons, ih]; rfl
theorem RS.ri {xs : List Int} (h : RS tI w B (.slice A n c) xs) : RI w B A n xs := by
  have := h.flat.1.2
  rw [flat_ints] at this
  exact this
theorem OS.of_oi {xs : List Int} (h : OI e lo w v xs) (hh : ∀ k, v.ownBlock = some k → k < hi) : OS tI e w (Iv lo hi) v xs :=
  OS.of_flat ⟨by rw [flat_ints]; exact h, hh⟩
theorem OI.os {xs : List Int} (h : OI e lo w v xs) : OS tI e w (Iv lo w.heap.size) v xs := OS.of_oi h fun k hk => (World.ownsRow.lt h k hk).2
end
/-- All ints of a list bounded .. what a harness counts: its measure of size, its marks. -/
structure Hs (α : Type) where
  sz : α → Nat
  mark : Int → α → α
  cnt : α → Nat
def hI : Hs Int := ⟨fun _ => 0, fun k _ => k, fun _ => 1⟩
section
variable {α β : Type}
def Hs.mkL (h : Hs α) : Int → List α → List α
  | _, [] => []
  | k, x :: xs => h.mark k x :: h.mkL (k + h.cnt x) xs
def Hs.cntL (h : Hs α) : List α → Nat
  | [] => 0
  | x :: xs => h.cnt x + h.cntL xs
def Hs.szL (h : Hs α) : List α → Nat
  | [] => 0
  | x :: xs => h.sz x + h.szL xs
def Hs.sl (h : Hs α) : Hs (List α) := ⟨fun xs => xs.length + h.szL xs, h.mkL, h.cntL⟩
def Hs.prod (a : Hs α) (b : Hs β) : Hs (α × β) := ⟨fun x => a.sz x.1 + b.sz x.2, fun k x => (a.mark k x.1, b.mark (k + a.cnt x.1) x.2), fun x => a.cnt x.1 + b.cnt x.2⟩
theorem Hs.szL_take (h : Hs α) {xs : List α} {i : Nat} {x : α} (hx : xs[i]? = some x) : h.szL (xs.take (i + 1)) = h.szL (xs.take i) + h.sz x := by
  induction xs generalizing i with
  | nil => simp at hx
  | cons y ys ih =>
    cases i with
    | zero => simp at hx; subst hx; simp [Hs.szL]
    | succ i =>
      simp only [List.getElem?_cons_succ] at hx
      rw [List.take_succ_cons, List.take_succ_cons, Hs.szL, Hs.szL, ih hx]
      omega
theorem Hs.szL_mono (h : Hs α) (xs : List α) (i : Nat) : h.szL (xs.take i) ≤ h.szL xs := by
  induction xs generalizing i with
  | nil => simp
  | cons y ys ih =>
    cases i with
    | zero => simp [Hs.szL]
    | succ i => rw [List.take_succ_cons, Hs.szL, Hs.szL]; have := ih i; omega
theorem Hs.szL_at (h : Hs α) {xs : List α} {i : Nat} {x : α} (hx : xs[i]? = some x) : h.szL (xs.take i) + h.sz x ≤ h.szL xs := by
  rw [← h.szL_take hx]
  exact h.szL_mono _ _
end
end Go.Proofs.YtecdendjlgohjaaGreatDoor
namespace Go.Proofs.YtecdendjlgohjaaGreatDoor
open Go.RowKit
set_option maxHeartbeats 400000
set_option maxRecDepth 100000
/-! []int64 -/
abbrev tS : Ty (List Int) := tI.sl 2
abbrev hS : Hs (List Int) := hI.sl
theorem tS_O {w : World} {F : Nat → Prop} {v : Value} {xs : List Int} : tS.O w F [v] xs ↔ OS tI 2 w F v xs :=
  ⟨fun ⟨v, h, h'⟩ => by injection h with h; rw [h]; exact h', fun h => ⟨_, rfl, h⟩⟩
end Go.Proofs.YtecdendjlgohjaaGreatDoor
namespace Go.Proofs.YtecdendjlgohjaaGreatDoor
open Go.RowKit
set_option maxHeartbeats 1000000
set_option maxRecDepth 100000
section
variable {α : Type} {t : Ty α} {e : TypeId} {w : World} {B : Nat} {F : Nat → Prop} {v : Value} {xs : List α}
theorem sl_R : (t.sl e).R w B [v] xs ↔ RS t w B v xs := ⟨fun ⟨v, h, h'⟩ => by injection h with h; rw [h]; exact h', fun h => ⟨_, rfl, h⟩⟩
theorem sl_O : (t.sl e).O w F [v] xs ↔ OS t e w F v xs := ⟨fun ⟨v, h, h'⟩ => by injection h with h; rw [h]; exact h', fun h => ⟨_, rfl, h⟩⟩
end
theorem OS.openAt {α : Type} {t : Ty α} {e : TypeId} {w : World} {F : Nat → Prop} {v : Value} {xs : List α} (h : OS t e w F v xs) {k : Nat} {x : α} (hx : xs[k]? = some x) : ∃ css Fs, OH t e w F v xs css Fs k ∧ ∃ cs, css[k]? = some cs ∧ t.O w (Fs k) cs x := by
  obtain ⟨hk, rfl⟩ := List.getElem?_eq_some_iff.1 hx
  exact h.open hk
theorem RS.atX {α : Type} {t : Ty α} {w : World} {B : Nat} {v : Value} {xs : List α} (h : RS t w B v xs) {k : Nat} {x : α} (hx : xs[k]? = some x) : ∃ b o c cs, v = .slice (some ⟨b, o, none⟩) xs.length c ∧ b < B ∧ cs.length = t.s ∧ t.R w B cs x ∧ ∀ j u, cs[j]? = some u → w.cell? ⟨b, o + k * t.s + j, none⟩ = some u := by
  obtain ⟨hk, rfl⟩ := List.getElem?_eq_some_iff.1 hx
  exact h.at hk
end Go.Proofs.YtecdendjlgohjaaGreatDoor
namespace Go.Proofs.YtecdendjlgohjaaGreatDoor
open Go.RowKit
end Go.Proofs.YtecdendjlgohjaaGreatDoor
namespace Go.Proofs.YtecdendjlgohjaaGreatDoor
open Go.RowKit
set_option maxHeartbeats 1000000
set_option maxRecDepth 100000
/-- A byte. -/
def tU8 : Ty UInt8 := Ty.flat 1 (by decide) 0 (fun x => [.int .u8 (x.toNat : Int)]) (fun _ => rfl) (by simp [Value.oneCell'])
/-- An object that draws numbers out of code bytes: it lies in block b, the bytes in blocks below lo; at most K of them are drawn. -/
structure SrcP (w : World) (b lo : Nat) (A : Option Addr) (n c : Nat) (code : List UInt8) (K : Nat) (a z : Int) : Prop where
  c0 : w.cell? ⟨b, 0, none⟩ = some (.slice A n c)
  c1 : w.cell? ⟨b, 1, none⟩ = some (.int .i64 a)
  c2 : w.cell? ⟨b, 2, none⟩ = some (.int .u64 z)
  f1 : w.frozen? ⟨b, 1, none⟩ = false
  f2 : w.frozen? ⟨b, 2, none⟩ = false
  rd : RS tU8 w lo (.slice A n c) code
  ha : 0 ≤ a
  hK : a ≤ K
  hb : lo ≤ b
def Src (w : World) (b lo : Nat) (A : Option Addr) (n c : Nat) (code : List UInt8) (K : Nat) : Prop := ∃ a z, SrcP w b lo A n c code K a z
/-- What a drawing gives back: a number, and the object in its new state. -/
def Drew (b lo : Nat) (A : Option Addr) (n c : Nat) (code : List UInt8) (K : Nat) (P : Int → Prop) (w : World) (e : Ending) (w' : World) : Prop :=
  ∃ v, e = .returned (.int .i64 v) ∧ P v ∧ Src w' b lo A n c code K ∧ Mid b (b + 1) w w'
section
variable {w w' : World} {b lo n c K K' : Nat} {A : Option Addr} {code : List UInt8}
theorem Src.lt (h : Src w b lo A n c code K) : b < w.heap.size := by
  obtain ⟨a, z, h⟩ := h
  exact World.block_lt_of_cell? w _ h.c0
theorem Src.keep (h : Src w b lo A n c code K) (hk : ∀ k, k < b + 1 → w'.heap[k]? = w.heap[k]?) : Src w' b lo A n c code K := by
  obtain ⟨a, z, h⟩ := h
  have hb := hk b (by omega)
  refine ⟨a, z, ?_, ?_, ?_, ?_, ?_, h.rd.keep fun p hp => World.cell?_of_block (hk p.block (by have := h.hb; omega)), h.ha, h.hK, h.hb⟩
  · rw [World.cell?_of_block hb]; exact h.c0
  · rw [World.cell?_of_block hb]; exact h.c1
  · rw [World.cell?_of_block hb]; exact h.c2
  · rw [World.frozen?_of_block hb]; exact h.f1
  · rw [World.frozen?_of_block hb]; exact h.f2
theorem Src.below {B : Nat} (h : Src w b lo A n c code K) (hb : Below B w w') (hB : b < B) : Src w' b lo A n c code K := h.keep fun k hk => hb.block k (by omega)
theorem Src.mid {l r : Nat} (h : Src w b lo A n c code K) (hm : Mid l r w w') (hd : b < l) : Src w' b lo A n c code K := by
  have hlt := h.lt
  exact h.keep fun k hk => hm.block k (by omega) (.inl (by omega))
theorem Src.more (h : Src w b lo A n c code K) (hK : K ≤ K') : Src w b lo A n c code K' := by
  obtain ⟨a, z, h⟩ := h
  exact ⟨a, z, h.c0, h.c1, h.c2, h.f1, h.f2, h.rd, h.ha, by have := h.hK; omega, h.hb⟩
end
theorem SrcP.step {w : World} {b lo n c K K' : Nat} {A : Option Addr} {code : List UInt8} {a z : Int} (h : SrcP w b lo A n c code K a z) (m m' : Nat) (a' z' : Int) (ha : 0 ≤ a') (hK : a' ≤ K') :
    SrcP ((((w.drewN m).setCell ⟨b, 1, none⟩ (.int .i64 a')).setCell ⟨b, 2, none⟩ (.int .u64 z')).drewN m') b lo A n c code K' a' z' ∧ Mid b (b + 1) w ((((w.drewN m).setCell ⟨b, 1, none⟩ (.int .i64 a')).setCell ⟨b, 2, none⟩ (.int .u64 z')).drewN m') := by
  obtain ⟨h0, h1, h2, g1, g2, hr, _, _, hb⟩ := h
  have m0 : Mid b (b + 1) w (w.drewN m) := ⟨rfl, rfl, rfl, Nat.le_refl _, fun _ _ _ => rfl⟩
  have m1 : Mid b (b + 1) (w.drewN m) ((w.drewN m).setCell ⟨b, 1, none⟩ (.int .i64 a')) := Mid.of_grown (grown_setCell _ b 1 _) fun k hk => by injection hk with hk; omega
  have m2 : Mid b (b + 1) ((w.drewN m).setCell ⟨b, 1, none⟩ (.int .i64 a')) (((w.drewN m).setCell ⟨b, 1, none⟩ (.int .i64 a')).setCell ⟨b, 2, none⟩ (.int .u64 z')) := Mid.of_grown (grown_setCell _ b 2 _) fun k hk => by injection hk with hk; omega
  have m3 : Mid b (b + 1) (((w.drewN m).setCell ⟨b, 1, none⟩ (.int .i64 a')).setCell ⟨b, 2, none⟩ (.int .u64 z')) ((((w.drewN m).setCell ⟨b, 1, none⟩ (.int .i64 a')).setCell ⟨b, 2, none⟩ (.int .u64 z')).drewN m') := ⟨rfl, rfl, rfl, Nat.le_refl _, fun _ _ _ => rfl⟩
  have M := ((m0.trans m1).trans m2).trans m3
  refine ⟨⟨?_, ?_, ?_, ?_, ?_, hr.keep fun p hp => World.cell?_of_block (M.block p.block ?_ (.inl (by omega))), ha, hK, hb⟩, M⟩
  · simp [go_sem, *]
  · simp [go_sem, *]
  · simp [go_sem, *]
  · simp [go_sem, *]
  · simp [go_sem, *]
  · have := World.block_lt_of_cell? w _ h0
    simp only at this
    omega
theorem byte_low (n : Int) : 0 ≤ wrap64 (bits BinOp.and IntKind.u64 n 255) ∧ wrap64 (bits BinOp.and IntKind.u64 n 255) ≤ 255 := by
  have hx : ((BitVec.ofInt 64 n &&& BitVec.ofInt 64 255).toNat : Int) ≤ 255 := by
    rw [BitVec.toNat_and, show (BitVec.ofInt 64 255).toNat = 2 ^ 8 - 1 from by decide, Nat.and_two_pow_sub_one_eq_mod]
    omega
  have h2 : bits BinOp.and IntKind.u64 n 255 = ((BitVec.ofInt 64 n &&& BitVec.ofInt 64 255).toNat : Int) := by
    show IntKind.u64.wrap ((BitVec.ofInt 64 n &&& BitVec.ofInt 64 255).toNat : Int) = _
    rw [IntKind.wrap_u64]
    omega
  rw [h2]
  unfold wrap64
  omega
theorem src_next (b lo : Nat) (A : Option Addr) (n c : Nat) (code : List UInt8) (K : Nat) (w : World) (h : Src w b lo A n c code K) (hK : K ≤ 1000000000000) :
    Calls Tryz.prog 74 #[.pointer (some ⟨b, 0, none⟩)] w (Drew b lo A n c code (K + 1) (fun v => 0 ≤ v ∧ v ≤ 255) w) := by
  obtain ⟨a, z, hP⟩ := h
  obtain ⟨hc0, hc1, hc2, hf1, hf2, hr, ha, haK, hlo⟩ := hP
  have HP := Lib.hid (SrcP.mk hc0 hc1 hc2 hf1 hf2 hr ha haK hlo)
  obtain rfl : code.length = n := hr.cap.1
  have hl : code.length ≤ 9223372036854775807 := by have h1 := hr.cap.2; unfold maxLen at h1; omega
  have hbw : b < w.heap.size := World.block_lt_of_cell? w _ hc0
  by_cases hlt : a < code.length
  · obtain ⟨k, rfl⟩ : ∃ k : Nat, a = k := ⟨a.toNat, by omega⟩
    obtain ⟨bb, o, c1, cs, hv, hab, -, hE, hc⟩ := hr.at (k := k) (by omega)
    simp only [Value.slice.injEq] at hv
    obtain ⟨rfl, -, rfl⟩ := hv
    generalize code[k]'(by omega) = x at hE
    obtain rfl : cs = [.int .u8 (x.toNat : Int)] := hE
    have hx : w.cell? ⟨bb, o + k * 1, none⟩ = some (.int .u8 (x.toNat : Int)) := hc 0 _ rfl
    have hx2 : (0 : Int) ≤ (x.toNat : Int) := by omega
    have hx3 : (x.toNat : Int) ≤ 255 := by have := x.toNat_lt; omega
    rw [Nat.mul_one] at hx
    clear hc
    have hlt' : (k : Int) < (code.length : Int) := hlt
    go_enter Tryz.func74, Tryz.ntmps74
    go_wp2
    go_quiet (fail)
    go_wp2
    go_quiet (fail)
    go_wp2
    go_quiet (fail)
    go_wp2
    go_ret
    exact ⟨_, rfl, ⟨by omega, by omega⟩, ⟨_, _, (HP.out.step _ _ ((k : Int) + 1) _ (by omega) (by omega)).1⟩, (HP.out.step _ _ ((k : Int) + 1) _ (by omega) (K' := K + 1) (by omega)).2⟩
  · have hgt : (code.length : Int) ≤ a := by omega
    have hdl : decide (a < (code.length : Int)) = false := by simp; omega
    have hd2 : decide (a + 1 ≤ (code.length : Int)) = false := by simp; omega
    go_enter Tryz.func74, Tryz.ntmps74
    go_wp2
    go_quiet (fail)
    go_wp2
    go_quiet (fail)
    go_wp2
    go_ret
    exact ⟨_, rfl, byte_low _, ⟨_, _, (HP.out.step _ _ (a + 1) _ (by omega) (by omega)).1⟩, (HP.out.step _ _ (a + 1) _ (by omega) (K' := K + 1) (by omega)).2⟩
theorem src_pick (b lo : Nat) (A : Option Addr) (n c : Nat) (code : List UInt8) (K : Nat) (m : Int) (w : World) (h : Src w b lo A n c code K) (hK : K ≤ 100000000000) (hm : m ≤ 65536) :
    Calls Tryz.prog 55 #[.pointer (some ⟨b, 0, none⟩), .int .i64 m] w (Drew b lo A n c code (K + 2) (fun v => 0 ≤ v ∧ (v < m ∨ v = 0)) w) := by
  by_cases h1 : m ≤ 1
  · go_enter Tryz.func55, Tryz.ntmps55
    go_wp2
    go_ret
    exact ⟨0, rfl, ⟨by omega, .inr rfl⟩, h.more (by omega), Mid.refl _ _ _⟩
  · by_cases h2 : 200 < m
    · go_enter Tryz.func55, Tryz.ntmps55
      go_wp2_with fail
      refine (src_next b lo A n c code K w h (by omega)).mono ?_
      rintro e w1 ⟨x, rfl, ⟨x0, x1⟩, s1, m1⟩
      go_wp2_with fail
      refine (src_next b lo A n c code (K + 1) w1 s1 (by omega)).mono ?_
      rintro e w2 ⟨y, rfl, ⟨y0, y1⟩, s2, m2⟩
      go_wp2
      go_ret
      exact ⟨_, rfl, ⟨Int.emod_nonneg _ (by omega), .inl (Int.emod_lt_of_pos _ (by omega))⟩, s2, m1.trans m2⟩
    · go_enter Tryz.func55, Tryz.ntmps55
      go_wp2_with fail
      refine (src_next b lo A n c code K w h (by omega)).mono ?_
      rintro e w1 ⟨x, rfl, ⟨x0, x1⟩, s1, m1⟩
      go_wp2
      go_ret
      exact ⟨_, rfl, ⟨Int.emod_nonneg _ (by omega), .inl (Int.emod_lt_of_pos _ (by omega))⟩, s1.more (by omega), m1⟩
theorem spec_l00From (A : Option Addr) (n c : Nat) (code : List UInt8) (w : World) (hr : RS tU8 w w.heap.size (.slice A n c) code) :
    Calls Tryz.prog 28 #[.slice A n c] w fun e w' => ∃ b, e = .returned (.pointer (some ⟨b, 0, none⟩)) ∧ b = w.heap.size ∧ Src w' b w.heap.size A n c code 0 ∧ Below w.heap.size w w' ∧ w'.heap.size = w.heap.size + 1 := by
  have hs : (w.alloc (.cells #[.slice A n c, .int .i64 0, .int .u64 0] 87)).heap.size = w.heap.size + 1 := by simp
  have hs' := Lib.hid hs
  have hb : Below w.heap.size w (w.alloc (.cells #[.slice A n c, .int .i64 0, .int .u64 0] 87)) := (Below.refl _ _).alloc (Nat.le_refl _) _
  clear hs
  go_enter Tryz.func28, Tryz.ntmps28
  go_wp2
  go_ret
  exact ⟨_, rfl, rfl, ⟨0, 0, by simp [go_sem], by simp [go_sem], by simp [go_sem], by simp [go_sem], by simp [go_sem], hr.keep fun p hp => hb.cell hp, by omega, by omega, Nat.le_refl _⟩, hb, hs'.out⟩
end Go.Proofs.YtecdendjlgohjaaGreatDoor
namespace Go.Proofs.YtecdendjlgohjaaGreatDoor
open Go.RowKit
set_option maxHeartbeats 1000000
set_option maxRecDepth 100000
theorem src_among (b lo : Nat) (A : Option Addr) (n c : Nat) (code : List UInt8) (K : Nat) (g m d : Nat) (xs : List Int) (w : World) (h : Src w b lo A n c code K) (hK : K ≤ 100000000000) (hl : xs.length = m) (hm : 0 < m ∧ m ≤ 60000) (hg : g ≠ b) (hgw : g < w.heap.size)
    (hc : ∀ j x, xs[j]? = some x → w.cell? ⟨g, j, none⟩ = some (.int .i64 x)) :
    Calls Tryz.prog 57 #[.pointer (some ⟨b, 0, none⟩), .slice (some ⟨g, 0, none⟩) m d] w (Drew b lo A n c code (K + 2) (fun v => v ∈ xs) w) := by
  have HC := Lib.hid hc
  have HL := Lib.hid hl
  clear hc hl
  go_enter Tryz.func57, Tryz.ntmps57
  go_wp2_with fail
  refine (src_pick b lo A n c code K m w h hK (by omega)).mono ?_
  rintro e w1 ⟨v, rfl, ⟨v0, v1⟩, s1, m1⟩
  obtain ⟨k, rfl⟩ : ∃ k : Nat, v = k := ⟨v.toNat, by omega⟩
  have hk : k < m := by omega
  have hk2 : (k : Int) < (m : Int) := by omega
  have hX := Lib.hid (List.getElem?_eq_getElem (l := xs) (i := k) (by rw [HL.out]; exact hk))
  generalize xs[k]'(by rw [HL.out]; exact hk) = x at hX
  have hx : w1.cell? ⟨g, k, none⟩ = some (.int .i64 x) := by
    rw [World.cell?_of_block (m1.block g hgw (by omega))]
    exact HC.out k x hX.out
  go_wp2
  go_ret
  exact ⟨x, rfl, List.mem_of_getElem? hX.out, s1, m1⟩
theorem spec_l01Draw (b lo : Nat) (A : Option Addr) (n c : Nat) (code : List UInt8) (K : Nat) (w : World) (h : Src w b lo A n c code K) (hK : K ≤ 10000000000) :
    Calls Tryz.prog 73 #[.pointer (some ⟨b, 0, none⟩)] w (Drew b lo A n c code (K + 6) (fun v => -2147483648 ≤ v ∧ v ≤ 2147483647) w) := by
  have hbw := h.lt
  go_enter Tryz.func73, Tryz.ntmps73
  go_wp2_with fail
  refine (src_pick b lo A n c code K 8 w h (by omega) (by omega)).mono ?_
  rintro e w1 ⟨v, rfl, ⟨v0, v1⟩, s1, m1⟩
  have hb1 := s1.lt
  by_cases e0 : v = 0
  · subst e0
    have s2 := s1.below ((Below.refl w1.heap.size w1).alloc (Nat.le_refl _) (.cells #[.int .i64 (-2147483648), .int .i64 2147483647, .int .i64 (-2147483647), .int .i64 65536, .int .i64 (-65536), .int .i64 1073741824] 2)) hb1
    go_wp2_with fail
    refine (src_among b lo A n c code (K + 2) w1.heap.size 6 6 [-2147483648, 2147483647, -2147483647, 65536, -65536, 1073741824] _ s2 (by omega) rfl (by omega) (by omega) (by simp) ?_).mono ?_
    · intro j x hx
      rw [cell_of_row _ w1.heap.size j _ 2 (0, 0) (heap_alloc_new w1 _)]
      match j, hx with
      | 0, hx => simp at hx; subst hx; rfl
      | 1, hx => simp at hx; subst hx; rfl
      | 2, hx => simp at hx; subst hx; rfl
      | 3, hx => simp at hx; subst hx; rfl
      | 4, hx => simp at hx; subst hx; rfl
      | 5, hx => simp at hx; subst hx; rfl
      | j + 6, hx => simp at hx
    · rintro e w2 ⟨x, rfl, hx, s3, m3⟩
      go_wp2
      go_ret
      refine ⟨x, rfl, ?_, s3.more (by omega), m1.trans ((Mid.of_below ((Below.refl _ _).alloc (Nat.le_refl _) _) _ _).trans m3)⟩
      simp at hx
      omega
  · have f0 : (v == 0) = false := by simpa using e0
    by_cases e1 : v = 1
    · subst e1
      go_wp2_with fail
      refine (src_next b lo A n c code (K + 2) w1 s1 (by omega)).mono ?_
      rintro e w2 ⟨x, rfl, ⟨x0, x1⟩, s2, m2⟩
      go_wp2_with fail
      go_loopw [3, 4] (fun q i wr => ∃ (j : Nat) (y : Int), i = .int .i64 j ∧ j ≤ 3 ∧ q = .int .i64 y ∧ 0 ≤ y ∧ y < 256 ^ (j + 1) ∧ Src wr b lo A n c code (K + 3 + j) ∧ Mid b (b + 1) w wr) (fun _ i _ => 3 - (intOf i).toNat)
      case atStart => exact ⟨0, x, rfl, by omega, rfl, by omega, by omega, s2, m1.trans m2⟩
      case round =>
        obtain ⟨j, y, rfl, hj, rfl, y0, y1, s3, m3⟩ := hrel
        by_cases hlt : j < 3
        · have hy2 : y ≤ 16777215 ∧ 256 * y + 255 < 256 ^ (j + 1 + 1) := by
            rcases (show j = 0 ∨ j = 1 ∨ j = 2 by omega) with rfl | rfl | rfl <;> omega
          obtain ⟨hy2, hy3⟩ := hy2
          have hy3' := Lib.hid hy3
          clear y1 hy3
          go_wp2_with fail
          refine (src_next b lo A n c code (K + 3 + j) wr s3 (by omega)).mono ?_
          rintro e w4 ⟨u, rfl, ⟨u0, u1⟩, s4, m4⟩
          go_wp2
          go_roundw
          case rel => exact ⟨j + 1, 256 * y + u, by go_num, by omega, rfl, by omega, by have := hy3'.out; omega, s4.more (by omega), m3.trans m4⟩
          case measure => simp [intOf]; omega
        · clear y1
          go_wp2_with (go_at_call 87; refine (spec_l01Wrap _ _).mono ?_; rintro e w' ⟨rfl, rfl⟩)
          go_ret
          have hw : -2147483648 ≤ wrap32 y ∧ wrap32 y ≤ 2147483647 := by unfold wrap32; omega
          exact ⟨_, rfl, hw, s3.more (by omega), m3⟩
    · have f1 : (v == 1) = false := by simpa using e1
      by_cases e2 : v = 2
      · subst e2
        go_wp2_with fail
        go_ret
        exact ⟨0, rfl, by omega, s1.more (by omega), m1⟩
      · have f2 : (v == 2) = false := by simpa using e2
        go_wp2_with fail
        refine (src_pick b lo A n c code (K + 2) 41 w1 s1 (by omega) (by omega)).mono ?_
        rintro e w2 ⟨x, rfl, ⟨x0, x1⟩, s2, m2⟩
        go_wp2
        go_ret
        exact ⟨_, rfl, by omega, s2.more (by omega), m1.trans m2⟩
end Go.Proofs.YtecdendjlgohjaaGreatDoor
namespace Go.Proofs.YtecdendjlgohjaaGreatDoor
open Go.RowKit
section
variable {lo hi g o : Nat} {w w' : World}
theorem Mid.cellK {u : Option Value} (h : Mid lo hi w w') (hg : g < w.heap.size) (hd : g < lo ∨ hi ≤ g) (hc : w.cell? ⟨g, o, none⟩ = u) : w'.cell? ⟨g, o, none⟩ = u := by rw [World.cell?_of_block (h.block g hg hd)]; exact hc
theorem Mid.thenB' {a b c : World} {B : Nat} (h : Mid lo hi a b) (k : Below B b c) (hB : a.heap.size ≤ B) : Mid lo hi a c :=
  ⟨k.os.trans h.os, k.tape.trans h.tape, k.output.trans h.output, Nat.le_trans h.size k.size, fun i hi' hm => (k.block i (by omega)).trans (h.block i hi' hm)⟩
theorem Mid.frozK {u : Bool} (h : Mid lo hi w w') (hg : g < w.heap.size) (hd : g < lo ∨ hi ≤ g) (hc : w.frozen? ⟨g, o, none⟩ = u) : w'.frozen? ⟨g, o, none⟩ = u := by rw [World.frozen?_of_block (h.block g hg hd)]; exact hc
end
end Go.Proofs.YtecdendjlgohjaaGreatDoor
namespace Go.Proofs.YtecdendjlgohjaaGreatDoor
open Go.RowKit
set_option maxHeartbeats 1000000
set_option maxRecDepth 100000
theorem ei_sd : EI Tryz.prog 42 47 (.agg #[.int .i64 0, .int .i64 0]) 2 16 := ⟨Tryz.underlying42, by kernel_rfl, rfl, by decide⟩
def sd (p : (Int × Int)) : List Value := [.int .i64 p.1, .int .i64 p.2]
theorem sd_len (p : (Int × Int)) : (sd p).length = 2 := rfl
abbrev tSd : Ty (Int × Int) := Ty.flat 2 (by decide) (0, 0) sd sd_len (by simp [sd, Value.oneCell'])
abbrev hSd : Hs (Int × Int) := hI.prod hI
abbrev tSdS : Ty (List (Int × Int)) := tSd.sl 47
abbrev hSdS : Hs (List (Int × Int)) := hSd.sl
theorem hSd_szL (xs : List (Int × Int)) : hSd.szL xs = 0 := by
  induction xs with
  | nil => rfl
  | cons x xs ih => rw [Hs.szL, ih]; rfl
theorem hSdS_sz (xs : List (Int × Int)) : hSdS.sz xs = xs.length := by show xs.length + hSd.szL xs = _; rw [hSd_szL]; rfl
end Go.Proofs.YtecdendjlgohjaaGreatDoor
namespace Go.Proofs.YtecdendjlgohjaaGreatDoor
open Go.RowKit
set_option maxHeartbeats 2000000
set_option maxRecDepth 100000
/-- A text. -/
def tStr : Ty ByteArray where
  s := 1
  pos := Nat.one_pos
  zero := ⟨#[]⟩
  R _ _ cs x := cs = [.string x] ∧ x.size ≤ maxLen
  O _ _ cs x := cs = [.string x] ∧ x.size ≤ maxLen
  rlen := by rintro w B cs x ⟨rfl, _⟩; rfl
  keep := fun _ h => h
  more := fun _ h => h
  read := fun h => h
  okeep := fun _ h => h
  owide := fun _ h => h
  ocells := by rintro w F cs x ⟨rfl, _⟩ u hu; simp only [List.mem_singleton] at hu; subst hu; rfl
  oreal := fun h => h
def M.digs (k : Nat) : List UInt8 := if k = 0 then [] else M.digs (k / 10) ++ [UInt8.ofNat (48 + k % 10)]
/-- The text that a mark writes. -/
def M.markT (k : Int) : ByteArray := if k ≤ 0 then ⟨#[109, 48]⟩ else ⟨(109 :: M.digs k.toNat).toArray⟩
def hStr : Hs ByteArray := ⟨fun s => s.size, fun k _ => M.markT k, fun _ => 1⟩
abbrev Strip := ByteArray × Int × List (Int × Int)
abbrev tSt : Ty Strip := tStr.prod (tI.prod tSdS)
abbrev hSt : Hs Strip := hStr.prod (hI.prod hSdS)
abbrev tM : Ty (List Strip) := tSt.sl 44
abbrev hM : Hs (List Strip) := hSt.sl
section
variable {w : World} {B : Nat} {F : Nat → Prop} {cs : List Value} {s : ByteArray} {l : Int} {xs : List (Int × Int)}
theorem open_Sd {cs : List Value} (h : tSdS.R w B cs xs) : ∃ A n c, cs = [.slice A n c] := by
  obtain ⟨v, rfl, hr⟩ := h
  obtain ⟨A, c, rfl⟩ := hr.shape
  exact ⟨_, _, _, rfl⟩
theorem st_R : tSt.R w B cs (s, l, xs) ↔ ∃ A n c, cs = [.string s, .int .i64 l, .slice A n c] ∧ s.size ≤ maxLen ∧ tSdS.R w B [.slice A n c] xs := by
  constructor
  · rintro ⟨c1, c2, rfl, ⟨rfl, h1⟩, c3, c4, rfl, h2, h3⟩
    obtain rfl : c3 = [.int .i64 l] := h2
    obtain ⟨A, n, c, rfl⟩ := open_Sd h3
    exact ⟨A, n, c, rfl, h1, h3⟩
  · rintro ⟨A, n, c, rfl, h1, h3⟩
    exact ⟨[.string s], _, rfl, ⟨rfl, h1⟩, [.int .i64 l], _, rfl, rfl, h3⟩
theorem st_O : tSt.O w F cs (s, l, xs) ↔ ∃ A n c, cs = [.string s, .int .i64 l, .slice A n c] ∧ s.size ≤ maxLen ∧ tSdS.O w F [.slice A n c] xs := by
  constructor
  · rintro ⟨c1, c2, F1, F2, rfl, ⟨rfl, h1⟩, ⟨c3, c4, F3, F4, rfl, h2, h3, f3, f4, _⟩, f1, f2, _⟩
    obtain rfl : c3 = [.int .i64 l] := h2
    obtain ⟨A, n, c, rfl⟩ := open_Sd (tSdS.read h3)
    exact ⟨A, n, c, rfl, h1, tSdS.owide (fun b hb => f2 b (f4 b hb)) h3⟩
  · rintro ⟨A, n, c, rfl, h1, h3⟩
    exact ⟨[.string s], _, fun _ => False, F, rfl, ⟨rfl, h1⟩, ⟨[.int .i64 l], _, fun _ => False, F, rfl, rfl, h3, fun _ h => h.elim, fun _ h => h, fun _ h => h.elim⟩, fun _ h => h.elim, fun _ h => h, fun _ h => h.elim⟩
theorem hSt_sz (s : ByteArray) (l : Int) (xs : List (Int × Int)) : hSt.sz (s, l, xs) = s.size + xs.length := by
  show s.size + (0 + hSdS.sz xs) = _
  rw [hSdS_sz, Nat.zero_add]
end
end Go.Proofs.YtecdendjlgohjaaGreatDoor
namespace Go.Proofs.YtecdendjlgohjaaGreatDoor
open Go.RowKit
set_option maxHeartbeats 2000000
set_option maxRecDepth 100000
theorem ei_st : EI Tryz.prog 22 44 (.agg #[.string ⟨#[]⟩, .int .i64 0, .slice none 0 0]) 3 48 := ⟨Tryz.underlying22, by kernel_rfl, rfl, by decide⟩
end Go.Proofs.YtecdendjlgohjaaGreatDoor
namespace Go.Proofs.YtecdendjlgohjaaGreatDoor
open Go.RowKit
set_option maxHeartbeats 2000000
set_option maxRecDepth 100000
end Go.Proofs.YtecdendjlgohjaaGreatDoor
namespace Go.Proofs.YtecdendjlgohjaaGreatDoor
open Go.RowKit
set_option maxHeartbeats 4000000
set_option maxRecDepth 100000
theorem tSdS_ra {w : World} {B : Nat} {A : Option Addr} {n c : Nat} {xs : List (Int × Int)} (h : tSdS.R w B [.slice A n c] xs) : RA sd 2 w B A n xs ∧ n ≤ c ∧ c ≤ maxLen := (sl_R.1 h).flat
theorem str_ne {s t : ByteArray} (h : ¬ s = t) : ¬ s.toList = t.toList := fun e => h (by
  rw [Lib.toList_data, Lib.toList_data] at e
  exact ByteArray.ext (Array.toList_inj.1 e))
theorem same_no {s s' : ByteArray} {l l' : Int} {xs ys : List (Int × Int)} (h : ¬ (s = s' ∧ l = l' ∧ xs = ys)) : decide (((s, l, xs) : Strip) = (s', l', ys)) = false := by
  rw [decide_eq_false_iff_not]
  intro e
  simp only [Prod.mk.injEq] at e
  exact h e
theorem spec_l26Same (g o g' o' : Nat) (s s' : ByteArray) (l l' : Int) (A A' : Option Addr) (n c n' c' : Nat) (xs ys : List (Int × Int)) (w : World) (a0 : w.cell? ⟨g, o, none⟩ = some (.string s)) (b0 : w.cell? ⟨g', o', none⟩ = some (.string s')) (a1 : w.cell? ⟨g, o + 1, none⟩ = some (.int .i64 l)) (b1 : w.cell? ⟨g', o' + 1, none⟩ = some (.int .i64 l')) (a2 : w.cell? ⟨g, o + 2, none⟩ = some (.slice A n c)) (b2 : w.cell? ⟨g', o' + 2, none⟩ = some (.slice A' n' c')) (hx : tSdS.R w w.heap.size [.slice A n c] xs) (hy : tSdS.R w w.heap.size [.slice A' n' c'] ys) (hn : n ≤ 1000000000) (hn' : n' ≤ 1000000000) :
    Calls Tryz.prog 35 #[.pointer (some ⟨g, o, none⟩), .pointer (some ⟨g', o', none⟩)] w fun e w' => e = .returned (.bool (decide (((s, l, xs) : Strip) = (s', l', ys)))) ∧ Below w.heap.size w w' := by
  have B0 : Below w.heap.size w w := Below.refl _ _
  have lx : g < w.heap.size := World.block_lt_of_cell? w _ a0
  have ly : g' < w.heap.size := World.block_lt_of_cell? w _ b0
  by_cases hs : ¬ s = s'
  · have hs2 := str_ne hs
    have hs3 : (s.toList == s'.toList) = false := by simpa using hs2
    have R := Lib.hid (same_no (s := s) (s' := s') (l := l) (l' := l') (xs := xs) (ys := ys) (fun e => hs e.1))
    go_enter Tryz.func35, Tryz.ntmps35
    go_wp2_with fail
    go_quiet (fail)
    go_wp2_with fail
    go_ret
    exact ⟨ret_bool (by rw [R.out]), below_drewN (Below.refl _ _) _⟩
  replace hs : s = s' := Decidable.not_not.1 hs
  by_cases hl : ¬ l = l'
  · have hl2 : (l == l') = false := by simpa using hl
    have hl3 : (l != l') = true := by simpa using hl
    clear hl2
    have R := Lib.hid (same_no (s := s) (s' := s') (l := l) (l' := l') (xs := xs) (ys := ys) (fun e => hl e.2.1))
    subst hs
    go_enter Tryz.func35, Tryz.ntmps35
    go_wp2_with fail
    go_quiet (fail)
    go_wp2_with fail
    go_ret
    exact ⟨ret_bool (by rw [R.out]), below_drewN (Below.refl _ _) _⟩
  replace hl : l = l' := Decidable.not_not.1 hl
  have hlx := (tSdS_ra hx).1.1
  have hly := (tSdS_ra hy).1.1
  by_cases hnn : ¬ n = n'
  · have hne : ((n : Int) != (n' : Int)) = true := by simp; omega
    have R := Lib.hid (same_no (s := s) (s' := s') (l := l) (l' := l') (xs := xs) (ys := ys) (fun e => hnn (by rw [← hlx, ← hly, e.2.2])))
    subst hs hl
    clear hlx hly
    go_enter Tryz.func35, Tryz.ntmps35
    go_wp2_with fail
    go_quiet (fail)
    go_wp2_with fail
    go_ret
    exact ⟨ret_bool (by rw [R.out]), below_drewN (Below.refl _ _) _⟩
  replace hnn : n = n' := Decidable.not_not.1 hnn
  subst hs hl hnn
  have HLX := Lib.hid hlx
  have HLY := Lib.hid hly
  have rx := (tSdS_ra hx).1
  have ry := (tSdS_ra hy).1
  clear hlx hly hx hy
  go_enter Tryz.func35, Tryz.ntmps35
  go_wp2_with fail
  go_quiet (fail)
  go_wp2_with fail
  go_loopw [5] (fun i wr => ∃ k : Nat, i = .int .i64 k ∧ k ≤ n ∧ Hid (xs.take k = ys.take k) ∧ Below w.heap.size w wr) (fun i _ => n - (intOf i).toNat)
  case atStart => exact ⟨0, rfl, by omega, Lib.hid (by simp), below_drewN (Below.refl _ _) _⟩
  case round =>
    obtain ⟨k, rfl, hk, H, hb⟩ := hrel
    have Bw : Below w.heap.size w wr := B0.trans (hb.mono B0.size)
    have hsw := hb.size
    have c2 : wr.cell? ⟨g, o + 2, none⟩ = some (.slice A n c) := by rw [hb.cell lx]; exact a2
    have d2 : wr.cell? ⟨g', o' + 2, none⟩ = some (.slice A' n c') := by rw [hb.cell ly]; exact b2
    have lx1 : g < wr.heap.size := by omega
    have ly1 : g' < wr.heap.size := by omega
    by_cases hlt : k < n
    · obtain ⟨b, o1, ⟨p0, p1⟩, rfl, hab, X, hcc⟩ := (rx.below Bw).at sd_len (by decide) hlt
      obtain ⟨b', o2, ⟨r0, r1⟩, rfl, hab', Y, hdd⟩ := (ry.below Bw).at sd_len (by decide) hlt
      have e0 : wr.cell? ⟨b, o1 + k * 2, none⟩ = some (.int .i64 p0) := hcc 0 _ rfl
      have e1 : wr.cell? ⟨b, o1 + k * 2 + 1, none⟩ = some (.int .i64 p1) := hcc 1 _ rfl
      have f0 : wr.cell? ⟨b', o2 + k * 2, none⟩ = some (.int .i64 r0) := hdd 0 _ rfl
      have f1 : wr.cell? ⟨b', o2 + k * 2 + 1, none⟩ = some (.int .i64 r1) := hdd 1 _ rfl
      have hbr : b < wr.heap.size := Nat.lt_of_lt_of_le hab Bw.size
      have hbr' : b' < wr.heap.size := Nat.lt_of_lt_of_le hab' Bw.size
      clear hcc hdd
      by_cases hp : p0 = r0 ∧ p1 = r1
      · obtain ⟨rfl, rfl⟩ := hp
        go_wp2
        go_quiet (fail)
        go_wp2
        go_roundw
        case rel => exact ⟨k + 1, by go_num, by omega, Lib.hid (by rw [M.take_at X.out, M.take_at Y.out, H.out]), below_drewN hb _⟩
        case measure => simp [intOf]; omega
      · have R := Lib.hid (same_no (s := s) (s' := s) (l := l) (l' := l) (xs := xs) (ys := ys) (fun e => hp (by
          have h1 := X.out
          rw [e.2.2, Y.out] at h1
          injection h1 with h1
          injection h1 with h2 h3
          exact ⟨h2.symm, h3.symm⟩)))
        by_cases hp0 : p0 = r0
        · have hp1 : ¬ p1 = r1 := fun e => hp ⟨hp0, e⟩
          have hp2 : (p1 == r1) = false := by simpa using hp1
          subst hp0
          clear hp
          go_wp2
          go_quiet (fail)
          go_wp2
          go_ret
          exact ⟨ret_bool (by rw [R.out]), below_drewN Bw _⟩
        · have hp2 : (p0 == r0) = false := by simpa using hp0
          clear hp
          go_wp2
          go_quiet (fail)
          go_wp2
          go_ret
          exact ⟨ret_bool (by rw [R.out]), below_drewN Bw _⟩
    · go_wp2
      go_ret
      have h1 : xs = ys := by have := H.out; rwa [List.take_of_length_le (by rw [HLX.out]; omega), List.take_of_length_le (by rw [HLY.out]; omega)] at this
      exact ⟨ret_bool (by rw [h1]; simp), Bw⟩
end Go.Proofs.YtecdendjlgohjaaGreatDoor
namespace Go.Proofs.YtecdendjlgohjaaGreatDoor
open Go.RowKit
set_option maxHeartbeats 4000000
set_option maxRecDepth 100000
theorem spec_SameMixer (A A' : Option Addr) (n c n' c' : Nat) (xs ys : List Strip) (w : World) (hx : tM.R w w.heap.size [.slice A n c] xs) (hy : tM.R w w.heap.size [.slice A' n' c'] ys) (hn : hM.sz xs ≤ 100000000) (hn' : hM.sz ys ≤ 100000000) :
    Calls Tryz.prog 17 #[.agg #[.slice A n c], .agg #[.slice A' n' c']] w fun e w' => e = .returned (.bool (decide (xs = ys))) ∧ Below w.heap.size w w' := by
  obtain ⟨W, hW⟩ : ∃ W, W = (w.alloc (.cells #[.slice A n c] 24)).alloc (.cells #[.slice A' n' c'] 24) := ⟨_, rfl⟩
  have B0 : Below w.heap.size w W := by rw [hW]; exact ((Below.refl _ _).alloc (Nat.le_refl _) _).alloc (by simp) _
  have hs0 : W.heap.size = w.heap.size + 1 + 1 := by rw [hW]; simp
  have a0 : W.cell? ⟨w.heap.size, 0, none⟩ = some (.slice A n c) := by rw [hW]; simp [go_sem]
  have b0 : W.cell? ⟨w.heap.size + 1, 0, none⟩ = some (.slice A' n' c') := by rw [hW]; simp [go_sem]
  have HW := Lib.hid hW
  clear hW
  have lx : w.heap.size < W.heap.size := by omega
  have ly : w.heap.size + 1 < W.heap.size := by omega
  have rx := sl_R.1 hx
  have ry := sl_R.1 hy
  have hlx := rx.cap.1
  have hly := ry.cap.1
  have hm1 : xs.length + hSt.szL xs ≤ 100000000 := hn
  have hm2 : ys.length + hSt.szL ys ≤ 100000000 := hn'
  by_cases hnn : ¬ n = n'
  · have R := Lib.hid (show decide (xs = ys) = false by rw [decide_eq_false_iff_not]; intro e; exact hnn (by rw [← hlx, ← hly, e]))
    have hne : ((n : Int) != (n' : Int)) = true := by simp; omega
    clear hlx hly
    go_enter Tryz.func17, Tryz.ntmps17
    go_wp2_with fail
    rw [← HW.out]
    go_ret
    exact ⟨ret_bool (by rw [R.out]), B0⟩
  replace hnn : n = n' := Decidable.not_not.1 hnn
  subst hnn
  have HLX := Lib.hid hlx
  have HLY := Lib.hid hly
  have hnb : n ≤ 100000000 := by omega
  have hm1' := Lib.hid hm1
  have hm2' := Lib.hid hm2
  clear hlx hly hx hy hn hn' hm1 hm2
  go_enter Tryz.func17, Tryz.ntmps17
  go_wp2_with fail
  rw [← HW.out]
  go_loopw [5] (fun i wr => ∃ k : Nat, i = .int .i64 k ∧ k ≤ n ∧ Hid (xs.take k = ys.take k) ∧ Below W.heap.size W wr) (fun i _ => n - (intOf i).toNat)
  case atStart => exact ⟨0, rfl, by omega, Lib.hid (by simp), Below.refl _ _⟩
  case round =>
    obtain ⟨k, rfl, hk, H, hb⟩ := hrel
    have Bw : Below w.heap.size w wr := B0.trans (hb.mono B0.size)
    have hsw := hb.size
    have c0 : wr.cell? ⟨w.heap.size, 0, none⟩ = some (.slice A n c) := by rw [hb.cell lx]; exact a0
    have d0 : wr.cell? ⟨w.heap.size + 1, 0, none⟩ = some (.slice A' n c') := by rw [hb.cell ly]; exact b0
    have lx1 : w.heap.size < wr.heap.size := by omega
    have ly1 : w.heap.size + 1 < wr.heap.size := by omega
    by_cases hlt : k < n
    · have hX := Lib.hid (List.getElem?_eq_getElem (l := xs) (i := k) (by rw [HLX.out]; exact hlt))
      have hY := Lib.hid (List.getElem?_eq_getElem (l := ys) (i := k) (by rw [HLY.out]; exact hlt))
      obtain ⟨b, o1, cc, cs, hv, hab, -, hE, hcc⟩ := (rx.below Bw).atX hX.out
      obtain ⟨b', o2, cc', cs', hv', hab', -, hE', hdd⟩ := (ry.below Bw).atX hY.out
      simp only [Value.slice.injEq] at hv hv'
      obtain ⟨rfl, -, rfl⟩ := hv
      obtain ⟨rfl, -, rfl⟩ := hv'
      have hU := hSt.szL_at hX.out
      have hV := hSt.szL_at hY.out
      generalize xs[k]'(by rw [HLX.out]; exact hlt) = x at hX hE hU
      generalize ys[k]'(by rw [HLY.out]; exact hlt) = y at hY hE' hV
      obtain ⟨s, l, us⟩ := x
      obtain ⟨s', l', vs⟩ := y
      rw [hSt_sz] at hU hV
      obtain ⟨A1, n1, c1, rfl, -, hE⟩ := st_R.1 hE
      obtain ⟨A2, n2, c2, rfl, -, hE'⟩ := st_R.1 hE'
      have n1b : n1 ≤ 1000000000 := by have := (tSdS_ra hE).1.1; have := hm1'.out; omega
      have n2b : n2 ≤ 1000000000 := by have := (tSdS_ra hE').1.1; have := hm2'.out; omega
      have e0 : wr.cell? ⟨b, o1 + k * 3, none⟩ = some (.string s) := hcc 0 _ rfl
      have e1 : wr.cell? ⟨b, o1 + k * 3 + 1, none⟩ = some (.int .i64 l) := hcc 1 _ rfl
      have e2 : wr.cell? ⟨b, o1 + k * 3 + 2, none⟩ = some (.slice A1 n1 c1) := hcc 2 _ rfl
      have f0 : wr.cell? ⟨b', o2 + k * 3, none⟩ = some (.string s') := hdd 0 _ rfl
      have f1 : wr.cell? ⟨b', o2 + k * 3 + 1, none⟩ = some (.int .i64 l') := hdd 1 _ rfl
      have f2 : wr.cell? ⟨b', o2 + k * 3 + 2, none⟩ = some (.slice A2 n2 c2) := hdd 2 _ rfl
      have hbr : b < wr.heap.size := Nat.lt_of_lt_of_le hab Bw.size
      have hbr' : b' < wr.heap.size := Nat.lt_of_lt_of_le hab' Bw.size
      replace hE := tSdS.more Bw.size hE
      replace hE' := tSdS.more Bw.size hE'
      clear hcc hdd hU hV
      have D1 : Below wr.heap.size wr (wr.drewN 1) := below_drewN (Below.refl _ _) 1
      have hF := tSdS.later hE D1
      have hF' := tSdS.later hE' D1
      by_cases hp : ((s, l, us) : Strip) = (s', l', vs)
      · have HD := Lib.hid (decide_eq_true hp)
        have HP := Lib.hid hp
        clear hp
        go_wp2
        go_region_held3 (fun w' => Below wr.heap.size wr w' ∧ w'.cell? ⟨w.heap.size, 0, none⟩ = some (.slice (some ⟨b, o1, none⟩) n c) ∧ w'.cell? ⟨w.heap.size + 1, 0, none⟩ = some (.slice (some ⟨b', o2, none⟩) n c'))
          (first | exact ⟨below_drewN (Below.refl _ _) _, c0, d0⟩ | exact ⟨G2, (by rw [G2.cell lx1]; exact c0), (by rw [G2.cell ly1]; exact d0)⟩)
          (first | (go_at_call 35; refine (spec_l26Same b (o1 + k * 3) b' (o2 + k * 3) s s' l l' A1 A2 n1 c1 n2 c2 us vs (wr.drewN 1) (by rw [D1.cell hbr]; exact e0) (by rw [D1.cell hbr']; exact f0) (by rw [D1.cell hbr]; exact e1) (by rw [D1.cell hbr']; exact f1) (by rw [D1.cell hbr]; exact e2) (by rw [D1.cell hbr']; exact f2) hF hF' n1b n2b).mono ?_; rw [HD.out]; rintro e w2 ⟨rfl, bel2⟩; have G2 := bel_trans D1 bel2))
        go_wp2
        go_roundw
        case rel => exact ⟨k + 1, by go_num, by omega, Lib.hid (by rw [M.take_at hX.out, M.take_at hY.out, H.out, HP.out]), bel_trans' hb hsw G2⟩
        case measure => simp [intOf]; omega
      · have HD := Lib.hid (decide_eq_false hp)
        have R := Lib.hid (show decide (xs = ys) = false by
          rw [decide_eq_false_iff_not]
          intro e
          have h1 := hX.out
          rw [e, hY.out] at h1
          injection h1 with h1
          exact hp h1.symm)
        clear hp
        go_wp2
        go_region_held3 (fun w' => Below wr.heap.size wr w' ∧ w'.cell? ⟨w.heap.size, 0, none⟩ = some (.slice (some ⟨b, o1, none⟩) n c) ∧ w'.cell? ⟨w.heap.size + 1, 0, none⟩ = some (.slice (some ⟨b', o2, none⟩) n c'))
          (first | exact ⟨below_drewN (Below.refl _ _) _, c0, d0⟩ | exact ⟨G2, (by rw [G2.cell lx1]; exact c0), (by rw [G2.cell ly1]; exact d0)⟩)
          (first | (go_at_call 35; refine (spec_l26Same b (o1 + k * 3) b' (o2 + k * 3) s s' l l' A1 A2 n1 c1 n2 c2 us vs (wr.drewN 1) (by rw [D1.cell hbr]; exact e0) (by rw [D1.cell hbr']; exact f0) (by rw [D1.cell hbr]; exact e1) (by rw [D1.cell hbr']; exact f1) (by rw [D1.cell hbr]; exact e2) (by rw [D1.cell hbr']; exact f2) hF hF' n1b n2b).mono ?_; rw [HD.out]; rintro e w2 ⟨rfl, bel2⟩; have G2 := bel_trans D1 bel2))
        go_wp2
        go_ret
        exact ⟨ret_bool (by rw [R.out]), bel_trans Bw G2⟩
    · go_wp2
      go_ret
      have h1 : xs = ys := by have := H.out; rwa [List.take_of_length_le (by rw [HLX.out]; omega), List.take_of_length_le (by rw [HLY.out]; omega)] at this
      exact ⟨ret_bool (by rw [h1]; simp), Bw⟩
end Go.Proofs.YtecdendjlgohjaaGreatDoor
namespace Go.Proofs.YtecdendjlgohjaaGreatDoor
open Go.RowKit Go.Sort
set_option maxHeartbeats 1000000
set_option maxRecDepth 100000
/-! Memory words: only some blocks were written; drawn regions in such worlds. -/
theorem Chg.cell1 {F : Nat → Prop} {a b : World} (h : Chg F a b) {p : Addr} (hk : p.block < a.heap.size) (hn : ¬ F p.block) : b.cell? p = a.cell? p :=
  World.cell?_of_block (h.block p.block hk hn)
theorem Chg.frozen1 {F : Nat → Prop} {a b : World} (h : Chg F a b) {p : Addr} (hk : p.block < a.heap.size) (hn : ¬ F p.block) : b.frozen? p = a.frozen? p :=
  World.frozen?_of_block (h.block p.block hk hn)
/-- A world in which blocks of F alone were written. -/
structure ChgTo (F : Nat → Prop) (u : World) where
  w : World
  h : Chg F u w
instance (F : Nat → Prop) (u : World) : Nonempty (ChgTo F u) := ⟨⟨u, Chg.refl _ _⟩⟩
theorem ChgTo.cell {F : Nat → Prop} {u : World} {a : Addr} {v : Value} (h : u.cell? a = some v) (hn : ¬ F a.block) (p : ChgTo F u) : p.w.cell? a = some v := by
  rw [p.h.cell1 (World.block_lt_of_cell? _ _ h) hn]; exact h
/-- A drawn region (X57's law) at the class 'only blocks of F were written'. -/
theorem wp_region_chg {P : Program} {id : Nat} {Q : Exit → Act → World → Prop} {a : Act} {w : World} {l : List Oper} (G : Nat → Prop) (A F : List Nat) (m : Nat) (t : Tw) (T R : List Nat) (hm : P.follows .mixedOrders = true)
    (hB : (planW .any l.toArray A F m t T R && (A ++ F ++ R).all (fun i => decide (i < l.length)) && (pickOps l A).all plainB && (pickOps l F).all plainB) = true)
    (h : wpQuiet P l.toArray (fun _ => True) (fun a' => wpQuiet P l.toArray (fun w' => ∃ p : ChgTo G w, w' = p.w) (fun a' => seqW P l (fun w' => ∃ p : ChgTo G w, w' = p.w) (fun x a w => x = .normal ∧ Q .normal a w) (pickOps l R) t a' w.drew) (pickOps l F) a') (pickOps l A) a) :
    (Code.region id l.toArray true).wp P Q a w :=
  wp_region_planW (D := fun w' => ∃ p : ChgTo G w, w' = p.w) A F m t T R hm hB ⟨⟨w.drew, Chg.of_below (below_drewN (Below.refl _ _) 1) _⟩, rfl⟩ h
/-- The k-th element is there again, in its own blocks and in new ones. -/
theorem OH.fill2 {α : Type} {t : Ty α} {e : TypeId} {w : World} {F : Nat → Prop} {v : Value} {xs : List α} {css : List (List Value)} {Fs : Nat → Nat → Prop} {k : Nat} (h : OH t e w F v xs css Fs k) {cs : List Value} (hcs : css[k]? = some cs) {y : α} {Fe : Nat → Prop} (hy : t.O w Fe cs y) (hd : ∀ b, Fe b → Fs k b ∨ ¬ F b) :
    OS t e w (fun b => F b ∨ Fe b) v (xs.set k y) := by
  obtain ⟨h1, h2, h3, h4, h5, h6, h7⟩ := h
  refine ⟨css, fun i => if i = k then Fe else Fs i, by rw [List.length_set]; exact h1, by rw [List.length_set]; exact h2, fun g hg => .inl (h4 g hg), fun i b hb => ?_, fun i j b hne hi hj => ?_, fun i hi hi' => ?_⟩
  · change (if i = k then Fe else Fs i) b at hb
    by_cases hik : i = k
    · rw [if_pos hik] at hb
      refine ⟨.inr hb, fun hg => ?_⟩
      rcases hd b hb with h8 | h8
      · exact (h5 k b h8).2 hg
      · exact h8 (h4 b hg)
    · rw [if_neg hik] at hb
      exact ⟨.inl (h5 i b hb).1, (h5 i b hb).2⟩
  · change (if i = k then Fe else Fs i) b at hi
    change (if j = k then Fe else Fs j) b at hj
    by_cases hik : i = k
    · rw [if_pos hik] at hi
      rw [if_neg (fun e => hne (hik.trans e.symm))] at hj
      rcases hd b hi with h8 | h8
      · exact h6 k j b (fun e => hne (hik.trans e)) h8 hj
      · exact h8 (h5 j b hj).1
    · rw [if_neg hik] at hi
      by_cases hjk : j = k
      · rw [if_pos hjk] at hj
        rcases hd b hj with h8 | h8
        · exact h6 k i b (fun e => hik e.symm) h8 hi
        · exact h8 (h5 i b hi).1
      · rw [if_neg hjk] at hj
        exact h6 i j b hne hi hj
  · by_cases hik : i = k
    · subst hik
      rw [List.getElem_set_self]
      rw [List.getElem?_eq_getElem hi', Option.some.injEq] at hcs
      rw [hcs]
      simpa using hy
    · rw [List.getElem_set_ne (fun e => hik e.symm)]
      simpa [hik] using h7 i (by rw [List.length_set] at hi; exact hi) hi' hik
/-- Strips no greater than their lines. -/
def M.fits (Ls : List (List UInt8)) (X : List Strip) : Prop := X.length = Ls.length ∧ ∀ (i : Nat) (x : Strip) (L : List UInt8), X[i]? = some x → Ls[i]? = some L → x.1.size ≤ L.length ∧ x.2.2.length ≤ L.length
theorem M.fits_sz : ∀ {Ls : List (List UInt8)} {X : List Strip}, M.fits Ls X → hM.sz X ≤ Ls.length + 2 * (Ls.map List.length).sum := by
  have key : ∀ (Ls : List (List UInt8)) (X : List Strip), M.fits Ls X → hSt.szL X ≤ 2 * (Ls.map List.length).sum := by
    intro Ls
    induction Ls with
    | nil =>
      intro X h
      have : X = [] := List.eq_nil_of_length_eq_zero (by rw [h.1]; rfl)
      rw [this]; simp [Hs.szL]
    | cons L Ls ih =>
      intro X h
      cases X with
      | nil => have := h.1; simp at this
      | cons x X =>
        have h0 := h.2 0 x L rfl rfl
        have hr := ih X ⟨by have := h.1; simpa using this, fun i y M hy hM => h.2 (i + 1) y M (by simpa using hy) (by simpa using hM)⟩
        obtain ⟨s, l, us⟩ := x
        rw [Hs.szL, hSt_sz]
        simp only [List.map_cons, List.sum_cons]
        simp only at h0
        omega
  intro Ls X h
  show X.length + hSt.szL X ≤ _
  have := key Ls X h
  have := h.1
  omega
end Go.Proofs.YtecdendjlgohjaaGreatDoor
namespace Go.Proofs.YtecdendjlgohjaaGreatDoor
open Go.RowKit
set_option maxHeartbeats 2000000
set_option maxRecDepth 100000
def M.small (c : UInt8) : Bool := decide (97 ≤ c.toNat) && decide (c.toNat ≤ 122)
def M.digit (c : UInt8) : Bool := decide (48 ≤ c.toNat) && decide (c.toNat ≤ 57)
def M.nameAt (s : ByteArray) (i : Nat) : Bool := match s.data.toList[i]? with
  | some c => M.small c || (M.digit c && decide (i ≠ 0))
  | none => true
/-- A name. -/
def M.name (s : ByteArray) : Bool := decide (1 ≤ s.size) && decide (s.size ≤ 10) && (List.range s.size).all (M.nameAt s)
theorem M.nameAt_eq {s : ByteArray} {k : Nat} (hk : k < s.size) : M.nameAt s k = (M.small s[k] || (M.digit s[k] && decide (k ≠ 0))) := by
  have h1 : s.data.toList[k]? = some s[k] := by
    rw [List.getElem?_eq_getElem (by simpa using hk)]
    rfl
  rw [M.nameAt, h1]
theorem M.name_no {s : ByteArray} {k : Nat} (hk : k < s.size) (h : M.nameAt s k = false) : M.name s = false := by
  rw [M.name]
  cases hall : (List.range s.size).all (M.nameAt s)
  · simp
  · rw [List.all_eq_true] at hall
    have := hall k (List.mem_range.2 hk)
    rw [h] at this
    cases this
theorem M.name_yes {s : ByteArray} (h1 : 1 ≤ s.size) (h2 : s.size ≤ 10) (h : ∀ j, j < s.size → M.nameAt s j = true) : M.name s = true := by
  rw [M.name, decide_eq_true h1, decide_eq_true h2, Bool.true_and, Bool.true_and, List.all_eq_true]
  exact fun j hj => h j (List.mem_range.1 hj)
theorem M.name_len {s : ByteArray} (h : ¬ (1 ≤ s.size ∧ s.size ≤ 10)) : M.name s = false := by
  rw [M.name]
  by_cases h1 : 1 ≤ s.size
  · have h2 : ¬ s.size ≤ 10 := fun e => h ⟨h1, e⟩
    simp [h2]
  · simp [h1]
theorem impl_IsName (s : ByteArray) (w : World) (hs : s.size ≤ maxLen) :
    Calls Tryz.prog 47 #[.string s] w fun e w' => e = .returned (.bool (M.name s)) ∧ w = w' := by
  unfold maxLen at hs
  by_cases hlen : 1 ≤ s.size ∧ s.size ≤ 10
  · obtain ⟨hl1, hl2⟩ := hlen
    go_enter Tryz.func47, Tryz.ntmps47
    go_wp2
    go_loop [3, 4, 5] (fun i _ _ => ∃ k : Nat, i = .int .i64 k ∧ k ≤ s.size ∧ Hid (∀ j, j < k → M.nameAt s j = true)) (fun i _ _ => s.size - (intOf i).toNat)
    case atStart => exact ⟨0, rfl, by omega, Lib.hid (by omega)⟩
    case round =>
      obtain ⟨k, rfl, hk, H⟩ := hrel
      by_cases hlt : k < s.size
      · have hA := Lib.hid (M.nameAt_eq hlt)
        have hgo : M.nameAt s k = true → ∀ j, j < k + 1 → M.nameAt s j = true := fun h j hj => by
          rcases Nat.lt_or_ge j k with h1 | h1
          · exact H.out j h1
          · obtain rfl : j = k := by omega
            exact h
        have HG := Lib.hid hgo
        have HN := Lib.hid (fun h => M.name_no (s := s) (k := k) hlt h)
        clear hgo
        by_cases h97 : 97 ≤ s[k].toNat
        · by_cases h122 : s[k].toNat ≤ 122
          · have h2 := Lib.hid (show M.nameAt s k = true by rw [hA.out]; simp [M.small, M.digit]; omega)
            have g1 : (97 : Int) ≤ (s[k].toNat : Int) := by omega
            have g2 : (s[k].toNat : Int) ≤ 122 := by omega
            clear h97 h122
            go_wp2
            go_round
            case rel => exact ⟨k + 1, by go_num, by omega, Lib.hid (HG.out h2.out)⟩
            case measure => simp [intOf]; omega
          · have h2 := Lib.hid (HN.out (show M.nameAt s k = false by rw [hA.out]; simp [M.small, M.digit]; omega))
            have g1 : (97 : Int) ≤ (s[k].toNat : Int) := by omega
            have g2 : ¬ (s[k].toNat : Int) ≤ 122 := by omega
            have g3 : (48 : Int) ≤ (s[k].toNat : Int) := by omega
            have g4 : ¬ (s[k].toNat : Int) ≤ 57 := by omega
            clear h97 h122
            go_wp2
            go_ret
            exact ⟨ret_bool (by rw [h2.out]), rfl⟩
        · by_cases h48 : 48 ≤ s[k].toNat
          · by_cases h57 : s[k].toNat ≤ 57
            · by_cases hk0 : k = 0
              · have h2 := Lib.hid (HN.out (show M.nameAt s k = false by rw [hA.out]; simp [M.small, M.digit]; omega))
                have g1 : ¬ (97 : Int) ≤ (s[k].toNat : Int) := by omega
                have g3 : (48 : Int) ≤ (s[k].toNat : Int) := by omega
                have g4 : (s[k].toNat : Int) ≤ 57 := by omega
                clear h97 h48 h57
                subst hk0
                go_wp2
                go_ret
                exact ⟨ret_bool (by rw [h2.out]), rfl⟩
              · have h2 := Lib.hid (show M.nameAt s k = true by rw [hA.out]; simp [M.small, M.digit]; omega)
                have g1 : ¬ (97 : Int) ≤ (s[k].toNat : Int) := by omega
                have g3 : (48 : Int) ≤ (s[k].toNat : Int) := by omega
                have g4 : (s[k].toNat : Int) ≤ 57 := by omega
                clear h97 h48 h57
                go_wp2
                go_round
                case rel => exact ⟨k + 1, by go_num, by omega, Lib.hid (HG.out h2.out)⟩
                case measure => simp [intOf]; omega
            · have h2 := Lib.hid (HN.out (show M.nameAt s k = false by rw [hA.out]; simp [M.small, M.digit]; omega))
              have g1 : ¬ (97 : Int) ≤ (s[k].toNat : Int) := by omega
              have g3 : (48 : Int) ≤ (s[k].toNat : Int) := by omega
              have g4 : ¬ (s[k].toNat : Int) ≤ 57 := by omega
              clear h97 h48 h57
              go_wp2
              go_ret
              exact ⟨ret_bool (by rw [h2.out]), rfl⟩
          · have h2 := Lib.hid (HN.out (show M.nameAt s k = false by rw [hA.out]; simp [M.small, M.digit]; omega))
            have g1 : ¬ (97 : Int) ≤ (s[k].toNat : Int) := by omega
            have g3 : ¬ (48 : Int) ≤ (s[k].toNat : Int) := by omega
            clear h97 h48
            go_wp2
            go_ret
            exact ⟨ret_bool (by rw [h2.out]), rfl⟩
      · have hY := Lib.hid (M.name_yes hl1 hl2 (fun j hj => H.out j (by omega)))
        go_wp2
        go_ret
        exact ⟨ret_bool (by rw [hY.out]), rfl⟩
  · have hN := Lib.hid (M.name_len hlen)
    by_cases h1 : s.size < 1
    · go_enter Tryz.func47, Tryz.ntmps47
      go_wp2
      go_ret
      exact ⟨ret_bool (by rw [hN.out]), rfl⟩
    · have h2 : 10 < s.size := by omega
      go_enter Tryz.func47, Tryz.ntmps47
      go_wp2
      go_ret
      exact ⟨ret_bool (by rw [hN.out]), rfl⟩
theorem spec_l01Small (c : UInt8) (w : World) : Calls Tryz.prog 78 #[.int .u8 (c.toNat : Int)] w fun e w' => e = .returned (.bool (M.small c)) ∧ w = w' := by
  go_enter Tryz.func78, Tryz.ntmps78
  go_wp2
  all_goals
    go_ret
    exact ⟨ret_bool (by rw [M.small, Bool.eq_iff_iff]; simp; omega), rfl⟩
theorem spec_l01Digit (c : UInt8) (w : World) : Calls Tryz.prog 36 #[.int .u8 (c.toNat : Int)] w fun e w' => e = .returned (.bool (M.digit c)) ∧ w = w' := by
  go_enter Tryz.func36, Tryz.ntmps36
  go_wp2
  all_goals
    go_ret
    exact ⟨ret_bool (by rw [M.digit, Bool.eq_iff_iff]; simp; omega), rfl⟩
theorem spec_IsName (s : ByteArray) (w : World) (hs : s.size ≤ maxLen) :
    Calls Tryz.prog 63 #[.string s] w fun e w' => e = .returned (.bool (M.name s)) ∧ w = w' := by
  unfold maxLen at hs
  by_cases h0 : s.size = 0
  · have hN := Lib.hid (M.name_len (s := s) (by omega))
    have he : s.toList = [] := by rw [Lib.toList_data]; exact List.eq_nil_of_length_eq_zero (by simpa using h0)
    have he2 : s.toList.isEmpty = true := by rw [he]; rfl
    clear h0
    go_enter Tryz.func63, Tryz.ntmps63
    go_wp2
    go_ret
    exact ⟨ret_bool (by rw [hN.out]), rfl⟩
  · have he : ¬ s.toList = [] := by
      rw [Lib.toList_data]
      intro e
      exact h0 (by have := congrArg List.length e; simpa using this)
    have he2 : s.toList.isEmpty = false := by simpa using he
    have hp : 0 < s.size := by omega
    by_cases h10 : 10 < s.size
    · have hN := Lib.hid (M.name_len (s := s) (by omega))
      go_enter Tryz.func63, Tryz.ntmps63
      go_wp2
      go_ret
      exact ⟨ret_bool (by rw [hN.out]), rfl⟩
    · cases hsm : M.small s[0]
      · have hN := Lib.hid (M.name_no (s := s) (k := 0) hp (by rw [M.nameAt_eq hp, hsm]; simp))
        go_enter Tryz.func63, Tryz.ntmps63
        go_wp2_with (go_at_call 78; refine (spec_l01Small _ _).mono ?_; rw [hsm]; rintro e w' ⟨rfl, rfl⟩)
        go_ret
        exact ⟨ret_bool (by rw [hN.out]), rfl⟩
      · have hl2 : s.size ≤ 10 := by omega
        have HSM := Lib.hid hsm
        clear hsm
        go_enter Tryz.func63, Tryz.ntmps63
        go_wp2_with (go_at_call 78; refine (spec_l01Small _ _).mono ?_; rw [HSM.out]; rintro e w' ⟨rfl, rfl⟩)
        go_loop [3] (fun i => ∃ k : Nat, i = .int .i64 k ∧ k ≤ s.size ∧ Hid (∀ j, j < k → M.nameAt s j = true)) (fun i => s.size - (intOf i).toNat)
        case atStart => exact ⟨0, rfl, by omega, Lib.hid (by omega)⟩
        case round =>
          obtain ⟨k, rfl, hk, H⟩ := hrel
          by_cases hlt : k < s.size
          · have hA := Lib.hid (M.nameAt_eq hlt)
            have HG := Lib.hid (show M.nameAt s k = true → ∀ j, j < k + 1 → M.nameAt s j = true from fun h j hj => by
              rcases Nat.lt_or_ge j k with h1 | h1
              · exact H.out j h1
              · obtain rfl : j = k := by omega
                exact h)
            have HN := Lib.hid (fun h => M.name_no (s := s) (k := k) hlt h)
            have HK := Lib.hid (show k = 0 → M.small s[k] = true from fun e => by subst e; exact HSM.out)
            cases h1 : M.small s[k]
            · cases h2 : M.digit s[k]
              · have h3 := Lib.hid (HN.out (by rw [hA.out, h1, h2]; rfl))
                go_wp2_with (first | (go_at_call 78; refine (spec_l01Small _ _).mono ?_; rw [h1]; rintro e w' ⟨rfl, rfl⟩) | (go_at_call 36; refine (spec_l01Digit _ _).mono ?_; rw [h2]; rintro e w' ⟨rfl, rfl⟩))
                go_ret
                exact ⟨ret_bool (by rw [h3.out]), rfl⟩
              · have hk0 : ¬ k = 0 := fun e => by have := HK.out e; rw [h1] at this; cases this
                have h3 := Lib.hid (HG.out (by rw [hA.out, h1, h2]; simpa using hk0))
                clear hk0
                go_wp2_with (first | (go_at_call 78; refine (spec_l01Small _ _).mono ?_; rw [h1]; rintro e w' ⟨rfl, rfl⟩) | (go_at_call 36; refine (spec_l01Digit _ _).mono ?_; rw [h2]; rintro e w' ⟨rfl, rfl⟩))
                go_round
                case rel => exact ⟨k + 1, by go_num, by omega, h3⟩
                case measure => simp [intOf]; omega
            · have h3 := Lib.hid (HG.out (by rw [hA.out, h1]; rfl))
              go_wp2_with (go_at_call 78; refine (spec_l01Small _ _).mono ?_; rw [h1]; rintro e w' ⟨rfl, rfl⟩)
              go_round
              case rel => exact ⟨k + 1, by go_num, by omega, h3⟩
              case measure => simp [intOf]; omega
          · have hY := Lib.hid (M.name_yes (s := s) hp hl2 (fun j hj => H.out j (by omega)))
            go_wp2
            go_ret
            exact ⟨ret_bool (by rw [hY.out]), rfl⟩
end Go.Proofs.YtecdendjlgohjaaGreatDoor
namespace Go.Proofs.YtecdendjlgohjaaGreatDoor
open Go.RowKit
set_option maxHeartbeats 4000000
set_option maxRecDepth 100000
theorem M.inn_iffM {n lo hi : Int} : M.inn n lo hi = true ↔ lo ≤ n ∧ n ≤ hi := by simp [M.inn]
def M.sendsB (m : Int) : Int → List (Int × Int) → Bool
  | _, [] => true
  | last, x :: xs => M.inn x.1 (last + 1) (m - 1) && M.smp x.2 && M.sendsB m x.1 xs
def M.areSends (xs : List (Int × Int)) (k m : Int) : Bool := M.sendsB m k xs && (if k = m - 1 then decide (xs.length = 0) else M.inn xs.length 1 4)
def M.stripOk (x : Strip) (k m : Int) : Bool := M.name x.1 && M.inn x.2.1 0 32 && M.areSends x.2.2 k m
theorem M.sendsB_at {m last : Int} {xs : List (Int × Int)} {j : Nat} {p0 p1 : Int} (h : xs[j]? = some (p0, p1)) : M.sendsB m last (xs.drop j) = (M.inn p0 (last + 1) (m - 1) && M.smp p1 && M.sendsB m p0 (xs.drop (j + 1))) := by
  rw [M.drop_at h, M.sendsB]
theorem impl_size_impl_Send (A : Option Addr) (n c : Nat) (w : World) : Calls Tryz.prog 70 #[.slice A n c] w fun e w' => e = .returned (.int .i64 n) ∧ w = w' := by
  go_enter Tryz.func70, Tryz.ntmps70
  go_wp2
  go_ret
  exact ⟨rfl, rfl⟩
theorem impl_size_impl_Strip (A : Option Addr) (n c : Nat) (w : World) : Calls Tryz.prog 46 #[.slice A n c] w fun e w' => e = .returned (.int .i64 n) ∧ w = w' := by
  go_enter Tryz.func46, Tryz.ntmps46
  go_wp2
  go_ret
  exact ⟨rfl, rfl⟩
theorem impl_areSends (A : Option Addr) (n c : Nat) (xs : List (Int × Int)) (k m : Int) (w : World) (hx : RA sd 2 w w.heap.size A n xs) (hn : n ≤ 1000000000) (hk : 0 ≤ k ∧ k ≤ 1000000000) (hm : 0 ≤ m ∧ m ≤ 1000000000) :
    Calls Tryz.prog 49 #[.slice A n c, .int .i64 k, .int .i64 m] w fun e w' => e = .returned (.bool (M.areSends xs k m)) ∧ Below w.heap.size w w' := by
  have hl := Lib.hid hx.1
  go_enter Tryz.func49, Tryz.ntmps49
  go_wp2
  go_loopw [7, 9, 13] (fun v _ i wr => ∃ (j : Nat) (last : Int), i = .int .i64 j ∧ j ≤ n ∧ v = .int .i64 last ∧ 0 ≤ last ∧ last ≤ 1000000000 ∧ Hid (M.sendsB m k xs = M.sendsB m last (xs.drop j)) ∧ Below w.heap.size w wr) (fun _ _ i _ => n - (intOf i).toNat)
  case atStart => exact ⟨0, k, rfl, by omega, rfl, by omega, by omega, Lib.hid rfl, Below.refl _ _⟩
  case round =>
    obtain ⟨j, last, rfl, hj, rfl, hl0, hl1, H, hb⟩ := hrel
    by_cases hlt : j < n
    · obtain ⟨b, o, ⟨p0, p1⟩, rfl, hab, X, hcc⟩ := (hx.below hb).at sd_len (by decide) hlt
      have e0 : wr.cell? ⟨b, o + j * 2, none⟩ = some (.int .i64 p0) := hcc 0 _ rfl
      have e1 : wr.cell? ⟨b, o + j * 2 + 1, none⟩ = some (.int .i64 p1) := hcc 1 _ rfl
      have hS := Lib.hid (M.sendsB_at (m := m) (last := last) X.out)
      clear hcc
      cases h1 : M.inn p0 (last + 1) (m - 1)
      · have R := Lib.hid (show M.areSends xs k m = false by rw [M.areSends, H.out, hS.out, h1]; rfl)
        go_wp2_with (go_at_call 48; refine (impl_within _ _ _ _).mono ?_; rintro e w' ⟨rfl, rfl⟩)
        go_ret
        exact ⟨ret_bool (by rw [R.out]), hb.alloc hb.size _⟩
      · cases h2 : M.smp p1
        · have R := Lib.hid (show M.areSends xs k m = false by rw [M.areSends, H.out, hS.out, h1, h2]; rfl)
          go_wp2_with (first | (go_at_call 48; refine (impl_within _ _ _ _).mono ?_; rintro e w' ⟨rfl, rfl⟩) | (go_at_call 69; refine (impl_isSample _ _).mono ?_; rintro e w' ⟨rfl, rfl⟩))
          go_ret
          exact ⟨ret_bool (by rw [R.out]), hb.alloc hb.size _⟩
        · have hp := M.inn_iffM.1 h1
          have H2 := Lib.hid (show M.sendsB m k xs = M.sendsB m p0 (xs.drop (j + 1)) by rw [H.out, hS.out, h1, h2]; rfl)
          go_wp2_with (first | (go_at_call 48; refine (impl_within _ _ _ _).mono ?_; rintro e w' ⟨rfl, rfl⟩) | (go_at_call 69; refine (impl_isSample _ _).mono ?_; rintro e w' ⟨rfl, rfl⟩))
          go_roundw
          case rel => exact ⟨j + 1, p0, by go_num, by omega, rfl, by omega, by omega, H2, hb.alloc hb.size _⟩
          case measure => simp [intOf]; omega
    · have H2 := Lib.hid (show M.sendsB m k xs = true by rw [H.out, List.drop_eq_nil_of_le (by rw [hl.out]; omega)]; rfl)
      by_cases hkm : k = m - 1
      · have R := Lib.hid (show M.areSends xs k m = decide (n = 0) by rw [M.areSends, H2.out, if_pos hkm, hl.out]; rfl)
        have hkm2 : (k == m - 1) = true := by simpa using hkm
        clear hkm
        by_cases hz : n = 0
        · subst hz
          go_wp2
          go_ret
          exact ⟨ret_bool (by rw [R.out]; rfl), hb⟩
        · have hz2 : ((n : Int) == 0) = false := by simpa using hz
          have R2 := Lib.hid (show M.areSends xs k m = false by rw [R.out]; simpa using hz)
          clear hz
          go_wp2
          go_ret
          exact ⟨ret_bool (by first | (rw [R2.out]; done) | (rw [R2.out]; exact hz2)), hb⟩
      · have hkm2 : (k == m - 1) = false := by simpa using hkm
        have R := Lib.hid (show M.areSends xs k m = M.inn n 1 4 by rw [M.areSends, H2.out, if_neg hkm, hl.out]; rfl)
        go_wp2_with (first | (go_at_call 48; refine (impl_within _ _ _ _).mono ?_; rintro e w' ⟨rfl, rfl⟩) | (go_at_call 70; refine (impl_size_impl_Send _ _ _ _).mono ?_; rintro e w' ⟨rfl, rfl⟩))
        go_ret
        exact ⟨ret_bool (by rw [R.out]), hb⟩
theorem spec_l26Strip (g o : Nat) (s : ByteArray) (l : Int) (A : Option Addr) (n c : Nat) (xs : List (Int × Int)) (k m : Int) (w : World) (a0 : w.cell? ⟨g, o, none⟩ = some (.string s)) (a1 : w.cell? ⟨g, o + 1, none⟩ = some (.int .i64 l)) (a2 : w.cell? ⟨g, o + 2, none⟩ = some (.slice A n c))
    (hs : s.size ≤ maxLen) (hx : RA sd 2 w w.heap.size A n xs) (hn : n ≤ 1000000000) (hk : 0 ≤ k ∧ k ≤ 1000000000) (hm : 0 ≤ m ∧ m ≤ 1000000000) :
    Calls Tryz.prog 40 #[.pointer (some ⟨g, o, none⟩), .int .i64 k, .int .i64 m] w fun e w' => e = .returned (.bool (M.stripOk (s, l, xs) k m)) ∧ w = w' := by
  have hl := Lib.hid hx.1
  cases hN : M.name s
  · have R := Lib.hid (show M.stripOk (s, l, xs) k m = false by rw [M.stripOk, hN]; rfl)
    go_enter Tryz.func40, Tryz.ntmps40
    go_wp2_with (first | (go_at_call 63; refine (spec_IsName _ _ hs).mono ?_; rw [hN]; rintro e w' ⟨rfl, rfl⟩) | (go_at_call 39; refine (spec_l00In _ _ _ _).mono ?_; rintro e w' ⟨rfl, rfl⟩))
    go_ret
    exact ⟨ret_bool (by rw [R.out]), rfl⟩
  cases hL : M.inn l 0 32
  · have R := Lib.hid (show M.stripOk (s, l, xs) k m = false by rw [M.stripOk, hN, hL]; rfl)
    go_enter Tryz.func40, Tryz.ntmps40
    go_wp2_with (first | (go_at_call 63; refine (spec_IsName _ _ hs).mono ?_; rw [hN]; rintro e w' ⟨rfl, rfl⟩) | (go_at_call 39; refine (spec_l00In _ _ _ _).mono ?_; rintro e w' ⟨rfl, rfl⟩))
    go_ret
    exact ⟨ret_bool (by rw [R.out]), rfl⟩
  by_cases h4 : 4 < n
  · have h4' : (4 : Int) < (n : Int) := by omega
    have R := Lib.hid (show M.stripOk (s, l, xs) k m = false by
      rw [M.stripOk, hN, hL]
      show M.areSends xs k m = false
      rw [M.areSends, hl.out]
      split
      · rw [decide_eq_false (by omega), Bool.and_false]
      · rw [show M.inn (n : Int) 1 4 = false by simp [M.inn]; omega, Bool.and_false])
    go_enter Tryz.func40, Tryz.ntmps40
    go_wp2_with (first | (go_at_call 63; refine (spec_IsName _ _ hs).mono ?_; rw [hN]; rintro e w' ⟨rfl, rfl⟩) | (go_at_call 39; refine (spec_l00In _ _ _ _).mono ?_; rintro e w' ⟨rfl, rfl⟩))
    go_ret
    exact ⟨ret_bool (by rw [R.out]), rfl⟩
  by_cases hz : n = 0
  · by_cases hkm : k = m - 1
    · have R := Lib.hid (show M.stripOk (s, l, xs) k m = true by
        have hnil : xs = [] := List.eq_nil_of_length_eq_zero (by rw [hl.out, hz])
        rw [M.stripOk, hN, hL, M.areSends, if_pos hkm, hnil]; rfl)
      have hkm2 : (k == m - 1) = true := by simpa using hkm
      subst hz
      clear hkm
      go_enter Tryz.func40, Tryz.ntmps40
      go_wp2_with (first | (go_at_call 63; refine (spec_IsName _ _ hs).mono ?_; rw [hN]; rintro e w' ⟨rfl, rfl⟩) | (go_at_call 39; refine (spec_l00In _ _ _ _).mono ?_; rintro e w' ⟨rfl, rfl⟩))
      go_loop [7, 8] (fun _ i => i = .int .i64 0) (fun _ _ => 0)
      case atStart => exact rfl
      case round =>
        obtain rfl := hrel
        go_wp2
        go_ret
        exact ⟨ret_bool (by rw [R.out]), rfl⟩
    · have R := Lib.hid (show M.stripOk (s, l, xs) k m = false by
        rw [M.stripOk, hN, hL]
        show M.areSends xs k m = false
        rw [M.areSends, hl.out, if_neg hkm, hz, show M.inn ((0 : Nat) : Int) 1 4 = false by decide, Bool.and_false])
      have hkm2 : (k == m - 1) = false := by simpa using hkm
      subst hz
      go_enter Tryz.func40, Tryz.ntmps40
      go_wp2_with (first | (go_at_call 63; refine (spec_IsName _ _ hs).mono ?_; rw [hN]; rintro e w' ⟨rfl, rfl⟩) | (go_at_call 39; refine (spec_l00In _ _ _ _).mono ?_; rintro e w' ⟨rfl, rfl⟩))
      go_ret
      exact ⟨ret_bool (by rw [R.out]), rfl⟩
  · have hz2 : ((n : Int) == 0) = false := by simpa using hz
    by_cases hkm : k = m - 1
    · have R := Lib.hid (show M.stripOk (s, l, xs) k m = false by
        rw [M.stripOk, hN, hL]
        show M.areSends xs k m = false
        rw [M.areSends, hl.out, if_pos hkm, decide_eq_false hz, Bool.and_false])
      have hkm2 : (k == m - 1) = true := by simpa using hkm
      clear hkm hz
      go_enter Tryz.func40, Tryz.ntmps40
      go_wp2_with (first | (go_at_call 63; refine (spec_IsName _ _ hs).mono ?_; rw [hN]; rintro e w' ⟨rfl, rfl⟩) | (go_at_call 39; refine (spec_l00In _ _ _ _).mono ?_; rintro e w' ⟨rfl, rfl⟩))
      go_ret
      exact ⟨ret_bool (by rw [R.out]), rfl⟩
    · have R := Lib.hid (show M.stripOk (s, l, xs) k m = M.sendsB m k xs by
        rw [M.stripOk, hN, hL]
        show M.areSends xs k m = _
        rw [M.areSends, hl.out, if_neg hkm, show M.inn (n : Int) 1 4 = true from M.inn_iffM.2 ⟨by omega, by omega⟩, Bool.and_true])
      have hkm2 : (k == m - 1) = false := by simpa using hkm
      have hN' := Lib.hid hN
      have hL' := Lib.hid hL
      clear hkm hz hN hL
      go_enter Tryz.func40, Tryz.ntmps40
      go_wp2_with (first | (go_at_call 63; refine (spec_IsName _ _ hs).mono ?_; rw [hN'.out]; rintro e w' ⟨rfl, rfl⟩) | (go_at_call 39; refine (spec_l00In _ _ _ _).mono ?_; rw [hL'.out]; rintro e w' ⟨rfl, rfl⟩))
      go_loop [7, 8] (fun v i => ∃ (j : Nat) (last : Int), i = .int .i64 j ∧ j ≤ n ∧ v = .int .i64 last ∧ 0 ≤ last ∧ last ≤ 1000000000 ∧ Hid (M.sendsB m k xs = M.sendsB m last (xs.drop j))) (fun _ i => n - (intOf i).toNat)
      case atStart => exact ⟨0, k, rfl, by omega, rfl, by omega, by omega, Lib.hid rfl⟩
      case round =>
        obtain ⟨j, last, rfl, hj, rfl, hl0, hl1, H⟩ := hrel
        by_cases hlt : j < n
        · obtain ⟨b, o1, ⟨p0, p1⟩, rfl, hab, X, hcc⟩ := hx.at sd_len (by decide) hlt
          have e0 : w.cell? ⟨b, o1 + j * 2, none⟩ = some (.int .i64 p0) := hcc 0 _ rfl
          have e1 : w.cell? ⟨b, o1 + j * 2 + 1, none⟩ = some (.int .i64 p1) := hcc 1 _ rfl
          have hS := Lib.hid (M.sendsB_at (m := m) (last := last) X.out)
          clear hcc
          cases h1 : M.inn p0 (last + 1) (m - 1)
          · have R2 := Lib.hid (show M.stripOk (s, l, xs) k m = false by rw [R.out, H.out, hS.out, h1]; rfl)
            go_wp2_with (go_at_call 39; refine (spec_l00In _ _ _ _).mono ?_; rintro e w' ⟨rfl, rfl⟩)
            go_ret
            exact ⟨ret_bool (by rw [R2.out]), rfl⟩
          · cases h2 : M.smp p1
            · have R2 := Lib.hid (show M.stripOk (s, l, xs) k m = false by rw [R.out, H.out, hS.out, h1, h2]; rfl)
              go_wp2_with (first | (go_at_call 39; refine (spec_l00In _ _ _ _).mono ?_; rintro e w' ⟨rfl, rfl⟩) | (go_at_call 64; refine (spec_l01Sample _ _).mono ?_; rintro e w' ⟨rfl, rfl⟩))
              go_ret
              exact ⟨ret_bool (by rw [R2.out]), rfl⟩
            · have hp := M.inn_iffM.1 h1
              have H2 := Lib.hid (show M.sendsB m k xs = M.sendsB m p0 (xs.drop (j + 1)) by rw [H.out, hS.out, h1, h2]; rfl)
              go_wp2_with (first | (go_at_call 39; refine (spec_l00In _ _ _ _).mono ?_; rintro e w' ⟨rfl, rfl⟩) | (go_at_call 64; refine (spec_l01Sample _ _).mono ?_; rintro e w' ⟨rfl, rfl⟩))
              go_round
              case rel => exact ⟨j + 1, p0, by go_num, by omega, rfl, by omega, by omega, H2⟩
              case measure => simp [intOf]; omega
        · have R2 := Lib.hid (show M.stripOk (s, l, xs) k m = true by rw [R.out, H.out, List.drop_eq_nil_of_le (by rw [hl.out]; omega)]; rfl)
          go_wp2
          go_ret
          exact ⟨ret_bool (by rw [R2.out]), rfl⟩
end Go.Proofs.YtecdendjlgohjaaGreatDoor
namespace Go.Proofs.YtecdendjlgohjaaGreatDoor
open Go.RowKit
open Go.Maps (Keyed)
set_option maxHeartbeats 4000000
set_option maxRecDepth 100000
theorem lookup_bool {P : Program} {k t e : TypeId} {w : World} {b n : Nat} {D : DataW Unit} (h : w.ownsMap P k (plainElem P e) b n D) (K : Keyed P k) (ht : P.underlying t = some (.map k e)) (he : P.underlying e = some .bool) (hz : (zeroValue e).run P w = .ok (.bool false) w)
    {key : Value} {kl : Lit} (hkey : keyOf P k key = some kl) : ∃ c, (Instr.lookup t (.map (some b)) key false).run P w = .ok (.bool c) w ∧ D.atKey kl (.lit (.bool false)) = .lit (.bool c) := by
  obtain ⟨v, ps, hrun, hv⟩ := h.lookup K ht hz (plainElem_bool he false) hkey
  unfold plainElem at hv
  rw [he] at hv
  cases v <;> simp at hv
  rename_i c
  exact ⟨c, hrun, hv.1.symm⟩
def M.has (s : ByteArray) (l : List ByteArray) : Bool := l.any fun t => decide (t = s)
/-- The map of the names so far. -/
def NamesOf (D : DataW Unit) (l : List ByteArray) : Prop := Go.Maps.IsMap D ∧ ∀ s : ByteArray, D.atKey (.string s.data.toList) (.lit (.bool false)) = .lit (.bool (M.has s l))
theorem bytes_eq {s t : ByteArray} (h : s.data.toList = t.data.toList) : s = t := ByteArray.ext (Array.toList_inj.1 h)
theorem names_nil : NamesOf (.map []) [] := ⟨⟨[], rfl⟩, fun s => rfl⟩
theorem names_put {D : DataW Unit} {l : List ByteArray} (h : NamesOf D l) (s : ByteArray) : NamesOf (D.put (.string s.data.toList) (.lit (.bool true))) (l ++ [s]) := by
  refine ⟨?_, fun t => ?_⟩
  · obtain ⟨es, rfl⟩ := h.1
    exact ⟨_, rfl⟩
  · by_cases e : t = s
    · subst e
      rw [Go.Maps.atKey_put_same (k := .string t.data.toList) h.1 (by simp [WideAt.IsKeyLit])]
      simp [M.has]
    · rw [Go.Maps.atKey_put_other (fun e2 => e (by injection e2 with e2; exact bytes_eq e2)), h.2 t]
      have e2 : ¬ s = t := fun h => e h.symm
      simp [M.has, e2]
theorem keyed_str : Keyed Tryz.prog 9 := Keyed.of_law (Go.WideMaps.string_law Tryz.underlying9)
theorem zero_bool (w : World) : (zeroValue 4).run Tryz.prog w = .ok (.bool false) w := by kernel_rfl
def M.sz : Strip := (⟨#[]⟩, 0, [])
def M.stepM (xs : List Strip) (k : Nat) : Bool := M.stripOk ((xs[k]?).getD M.sz) k xs.length && !M.has ((xs[k]?).getD M.sz).1 ((xs.take k).map (·.1))
/-- A mixer is valid. -/
def M.mixOk (xs : List Strip) : Bool := M.inn xs.length 1 8 && (List.range xs.length).all (M.stepM xs)
theorem M.mix_no {xs : List Strip} {k : Nat} (hk : k < xs.length) (h : M.stepM xs k = false) : M.mixOk xs = false := by
  rw [M.mixOk]
  cases hall : (List.range xs.length).all (M.stepM xs)
  · simp
  · rw [List.all_eq_true] at hall
    have := hall k (List.mem_range.2 hk)
    rw [h] at this
    cases this
theorem M.mix_end {xs : List Strip} (h : ∀ j, j < xs.length → M.stepM xs j = true) : M.mixOk xs = M.inn xs.length 1 8 := by
  rw [M.mixOk, show (List.range xs.length).all (M.stepM xs) = true from List.all_eq_true.2 fun j hj => h j (List.mem_range.1 hj), Bool.and_true]
theorem M.stepM_eq {xs : List Strip} {k : Nat} {x : Strip} (h : xs[k]? = some x) : M.stepM xs k = (M.stripOk x k xs.length && !M.has x.1 ((xs.take k).map (·.1))) := by
  rw [M.stepM, h]; rfl
theorem grown_of_bel {w w' : World} (h : Below w.heap.size w w') (row : Option Nat) : w.grownBy w' row := ⟨h.os, h.tape, h.output, h.size, fun k hk _ => h.block k hk⟩
theorem impl_isMixer (A : Option Addr) (n c : Nat) (xs : List Strip) (w : World) (hx : tM.R w w.heap.size [.slice A n c] xs) (hn : hM.sz xs ≤ 100000000) :
    Calls Tryz.prog 24 #[.agg #[.slice A n c]] w fun e w' => e = .returned (.bool (M.mixOk xs)) ∧ Below w.heap.size w w' := by
  have rx := sl_R.1 hx
  have hlx := rx.cap.1
  have hm1 : xs.length + hSt.szL xs ≤ 100000000 := hn
  have hnb : n ≤ 100000000 := by omega
  have HLX := Lib.hid hlx
  have HM1 := Lib.hid hm1
  clear hlx hx hn hm1
  have hmm := @run_makeMap Tryz.prog
  go_enter Tryz.func24, Tryz.ntmps24
  go_wp2_with (go_at_call 46; refine (impl_size_impl_Strip _ _ _ _).mono ?_; rintro e w' ⟨rfl, rfl⟩)
  go_loopw [5, 6, 14] (fun _ _ i wr => ∃ (k : Nat) (D : DataW Unit), i = .int .i64 k ∧ k ≤ n ∧ Hid (∀ j, j < k → M.stepM xs j = true) ∧ Hid (NamesOf D ((xs.take k).map (·.1))) ∧ wr.ownsMap Tryz.prog 9 (plainElem Tryz.prog 4) (w.heap.size + 1) k D ∧ w.heap.size + 1 + 1 ≤ wr.heap.size ∧ Below w.heap.size w wr) (fun _ _ i _ => n - (intOf i).toNat)
  case atStart => exact ⟨0, .map [], rfl, by omega, Lib.hid (by omega), Lib.hid (by simpa using names_nil), by have := World.ownsMap_made (w.alloc (.cells #[.slice A n c] 24)) Tryz.prog 9 (plainElem (H := Unit) Tryz.prog 4); simpa using this, by simp, ((Below.refl _ _).alloc (Nat.le_refl _) _).alloc (by simp) _⟩
  case round =>
    obtain ⟨k, D, rfl, hk, H, HD, hown, hsz, Bw⟩ := hrel
    clear hmm
    by_cases hlt : k < n
    · have hX := Lib.hid (List.getElem?_eq_getElem (l := xs) (i := k) (by rw [HLX.out]; exact hlt))
      obtain ⟨b, o1, cc, cs, hv, hab, -, hE, hcc⟩ := (rx.below Bw).atX hX.out
      simp only [Value.slice.injEq] at hv
      obtain ⟨rfl, -, rfl⟩ := hv
      have hU := hSt.szL_at hX.out
      generalize xs[k]'(by rw [HLX.out]; exact hlt) = x at hX hE hU
      obtain ⟨s, l, us⟩ := x
      rw [hSt_sz] at hU
      obtain ⟨A1, n1, c1, rfl, hs, hE⟩ := st_R.1 hE
      have n1b : n1 ≤ 1000000000 := by have := (tSdS_ra hE).1.1; have := HM1.out; omega
      have e0 : wr.cell? ⟨b, o1 + k * 3, none⟩ = some (.string s) := hcc 0 _ rfl
      have e1 : wr.cell? ⟨b, o1 + k * 3 + 1, none⟩ = some (.int .i64 l) := hcc 1 _ rfl
      have e2 : wr.cell? ⟨b, o1 + k * 3 + 2, none⟩ = some (.slice A1 n1 c1) := hcc 2 _ rfl
      have hbr : b < wr.heap.size := Nat.lt_of_lt_of_le hab Bw.size
      have hE2 := tSdS.later (tSdS.more Bw.size hE) ((Below.refl wr.heap.size wr).alloc (Nat.le_refl _) (.cells #[.string s, .int .i64 l, .slice A1 n1 c1] 44))
      have hra := (tSdS_ra hE2).1
      have hS := Lib.hid (M.stepM_eq hX.out)
      have HNO := Lib.hid (fun h => M.mix_no (xs := xs) (k := k) (by rw [HLX.out]; exact hlt) h)
      have hownU := hown.alloc (.cells #[.string s, .int .i64 l, .slice A1 n1 c1] 44)
      have hkey : keyOf Tryz.prog 9 (.string s) = some (.string s.data.toList) := Go.WideMaps.keyOf_string_mk Tryz.underlying9 hs
      obtain ⟨q, hrun, hat⟩ := lookup_bool hownU keyed_str Tryz.underlying80 Tryz.underlying4 (zero_bool _) hkey
      have hq : q = M.has s ((xs.take k).map (·.1)) := by
        rw [HD.out.2 s] at hat
        injection hat with hat
        injection hat with hat
        exact hat.symm
      have HQ := Lib.hid hq
      have Bu := Bw.alloc Bw.size (.cells #[.string s, .int .i64 l, .slice A1 n1 c1] 44)
      clear hcc hU hE hE2 hat hq
      cases hN : M.name s
      · have R := Lib.hid (show M.mixOk xs = false from HNO.out (by rw [hS.out, M.stripOk, hN]; rfl))
        go_wp2_with (first | (go_at_call 47; refine (impl_IsName _ _ hs).mono ?_; rw [hN]; rintro e w' ⟨rfl, rfl⟩))
        go_ret
        exact ⟨ret_bool (by rw [R.out]), Bu⟩
      by_cases hq1 : q = true
      · subst hq1
        have R := Lib.hid (show M.mixOk xs = false from HNO.out (by rw [hS.out, ← HQ.out, Bool.not_true, Bool.and_false]))
        go_wp2_with (first | (go_at_call 47; refine (impl_IsName _ _ hs).mono ?_; rw [hN]; rintro e w' ⟨rfl, rfl⟩))
        go_ret
        exact ⟨ret_bool (by rw [R.out]), Bu⟩
      have hq0 : q = false := by simpa using hq1
      subst hq0
      clear hq1
      cases hL : M.inn l 0 32
      · have R := Lib.hid (show M.mixOk xs = false from HNO.out (by rw [hS.out, M.stripOk, hN, hL]; rfl))
        go_wp2_with (first | (go_at_call 47; refine (impl_IsName _ _ hs).mono ?_; rw [hN]; rintro e w' ⟨rfl, rfl⟩) | (go_at_call 48; refine (impl_within _ _ _ _).mono ?_; rintro e w' ⟨rfl, rfl⟩))
        go_ret
        exact ⟨ret_bool (by rw [R.out]), Bu⟩
      have hAS := impl_areSends A1 n1 c1 us k n _ hra n1b ⟨by omega, by omega⟩ ⟨by omega, by omega⟩
      cases hA : M.areSends us k n
      · have R := Lib.hid (show M.mixOk xs = false from HNO.out (by rw [hS.out, M.stripOk, hN, hL, HLX.out, hA]; rfl))
        go_wp2_with (first | (go_at_call 47; refine (impl_IsName _ _ hs).mono ?_; rw [hN]; rintro e w' ⟨rfl, rfl⟩) | (go_at_call 48; refine (impl_within _ _ _ _).mono ?_; rintro e w' ⟨rfl, rfl⟩) | (go_at_call 49; refine hAS.mono ?_; rw [hA]; clear hAS; rintro e w2 ⟨rfl, bel2⟩))
        go_ret
        exact ⟨ret_bool (by rw [R.out]), bel_trans' Bu (by simp; omega) bel2⟩
      · have HST := Lib.hid (show M.stepM xs k = true by rw [hS.out, M.stripOk, hN, hL, HLX.out, hA, ← HQ.out]; rfl)
        have HT := Lib.hid (show (xs.take (k + 1)).map (·.1) = (xs.take k).map (·.1) ++ [s] by rw [M.take_at hX.out, List.map_append]; rfl)
        go_wp2_with (first | (go_at_call 47; refine (impl_IsName _ _ hs).mono ?_; rw [hN]; rintro e w' ⟨rfl, rfl⟩) | (go_at_call 48; refine (impl_within _ _ _ _).mono ?_; rintro e w' ⟨rfl, rfl⟩) | (go_at_call 49; refine hAS.mono ?_; rw [hA]; clear hAS; rintro e w2 ⟨rfl, bel2⟩; have hown2 := hownU.kept (grown_of_bel bel2 none) (by simp); have z2 : wr.heap.size + 1 ≤ w2.heap.size := (by have := bel2.size; simpa using this); have g0 : w2.cell? ⟨wr.heap.size, 0, none⟩ = some (.string s) := (by rw [bel2.cell (by simp), cell_of_row _ wr.heap.size 0 _ 44 (0, 0) (heap_alloc_new wr _)]; rfl)) | (at_mapUpdate; refine wpList_mapUpdate_own _ rfl _ _ _ 80 rfl 9 4 keyed_str Tryz.underlying80 _ (w.heap.size + 1) k _ rfl hown2 (by unfold maxLen; omega) _ _ _ rfl rfl hkey _ [] (plainElem_bool Tryz.underlying4 true) ?_; intro w3 hown3 hgrow3))
        go_roundw
        case rel => exact ⟨k + 1, _, by go_num, by omega, Lib.hid (fun j hj => by
            rcases Nat.lt_or_ge j k with h1 | h1
            · exact H.out j h1
            · obtain rfl : j = k := by omega
              exact HST.out), Lib.hid (by rw [HT.out]; exact names_put HD.out s), hown3, by have := hgrow3.size; omega, (bel_trans' Bu (by simp; omega) bel2).grown hgrow3 (by omega) (fun j hj => by injection hj with hj; omega)⟩
        case measure => simp [intOf]; omega
    · have R := Lib.hid (show M.mixOk xs = M.inn n 1 8 by rw [M.mix_end (fun j hj => H.out j (by rw [HLX.out] at hj; omega)), HLX.out])
      go_wp2_with (go_at_call 48; refine (impl_within _ _ _ _).mono ?_; rintro e w' ⟨rfl, rfl⟩)
      go_ret
      exact ⟨ret_bool (by rw [R.out]), Bw⟩
end Go.Proofs.YtecdendjlgohjaaGreatDoor
namespace Go.Proofs.YtecdendjlgohjaaGreatDoor
open Go.RowKit
set_option maxHeartbeats 1000000
set_option maxRecDepth 100000
theorem src_one (b lo : Nat) (A : Option Addr) (n c : Nat) (code : List UInt8) (K : Nat) (m : Int) (w : World) (h : Src w b lo A n c code K) (hK : K ≤ 100000000000) (hm : m ≤ 65536) :
    Calls Tryz.prog 72 #[.pointer (some ⟨b, 0, none⟩), .int .i64 m] w fun e w' => ∃ r, e = .returned (.bool r) ∧ Src w' b lo A n c code (K + 2) ∧ Mid b (b + 1) w w' := by
  go_enter Tryz.func72, Tryz.ntmps72
  go_wp2_with fail
  refine (src_pick b lo A n c code K m w h hK hm).mono ?_
  rintro e w1 ⟨v, rfl, -, s1, m1⟩
  go_wp2
  go_ret
  exact ⟨_, rfl, s1, m1⟩
theorem src_text (b lo : Nat) (A : Option Addr) (n c : Nat) (code : List UInt8) (K : Nat) (g m d : Nat) (w : World) (h : Src w b lo A n c code K) (hK : K ≤ 100000000000) (hm : 0 < m ∧ m ≤ 60000) (hg : g ≠ b) (hgw : g < w.heap.size)
    (hc : ∀ j, j < m → ∃ s : ByteArray, s.size ≤ 6 ∧ w.cell? ⟨g, j, none⟩ = some (.string s)) :
    Calls Tryz.prog 56 #[.pointer (some ⟨b, 0, none⟩), .slice (some ⟨g, 0, none⟩) m d] w fun e w' => ∃ s : ByteArray, e = .returned (.string s) ∧ s.size ≤ 6 ∧ Src w' b lo A n c code (K + 2) ∧ Mid b (b + 1) w w' := by
  have HC := Lib.hid hc
  clear hc
  go_enter Tryz.func56, Tryz.ntmps56
  go_wp2_with fail
  refine (src_pick b lo A n c code K m w h hK (by omega)).mono ?_
  rintro e w1 ⟨v, rfl, ⟨v0, v1⟩, s1, m1⟩
  obtain ⟨k, rfl⟩ : ∃ k : Nat, v = k := ⟨v.toNat, by omega⟩
  have hk : k < m := by omega
  have hk2 : (k : Int) < (m : Int) := by omega
  obtain ⟨s, hs, hx0⟩ := HC.out k hk
  have hx : w1.cell? ⟨g, k, none⟩ = some (.string s) := by
    rw [World.cell?_of_block (m1.block g hgw (by omega))]
    exact hx0
  clear hx0
  go_wp2
  go_ret
  exact ⟨s, rfl, hs, s1, m1⟩
/-- Small strips. -/
def M.tiny (m : Nat) (xs : List Strip) : Prop := ∀ x ∈ xs, x.1.size ≤ 6 ∧ x.2.2.length ≤ m
theorem M.tiny_sz {m : Nat} {xs : List Strip} (h : M.tiny m xs) (hl : xs.length ≤ 8) (hm : m ≤ 10) : hM.sz xs ≤ 100000000 := by
  have hf : M.fits (List.replicate xs.length (List.replicate 10 0)) xs := ⟨by simp, fun i x L hx hL => by
    have h1 := h x (List.mem_of_getElem? hx)
    have h2 : L = List.replicate 10 0 := by
      have := List.mem_of_getElem? hL
      exact (List.mem_replicate.1 this).2
    rw [h2, List.length_replicate]; omega⟩
  have := M.fits_sz hf
  have e : ((List.replicate xs.length (List.replicate 10 (0 : UInt8))).map List.length).sum = xs.length * 10 := by simp
  rw [e, List.length_replicate] at this
  omega
theorem M.tiny_app {m : Nat} {xs : List Strip} {y : Strip} (h : M.tiny m xs) (hy : y.1.size ≤ 6 ∧ y.2.2.length ≤ m) : M.tiny m (xs ++ [y]) := fun x hx => by
  rcases List.mem_append.1 hx with hx | hx
  · exact h x hx
  · rw [List.mem_singleton.1 hx]; exact hy
theorem M.tiny_set {m : Nat} {xs : List Strip} {k : Nat} {y : Strip} (h : M.tiny m xs) (hy : y.1.size ≤ 6 ∧ y.2.2.length ≤ m) : M.tiny m (xs.set k y) := fun x hx => by
  rcases List.mem_or_eq_of_mem_set hx with hx | hx
  · exact h x hx
  · rw [hx]; exact hy
end Go.Proofs.YtecdendjlgohjaaGreatDoor
