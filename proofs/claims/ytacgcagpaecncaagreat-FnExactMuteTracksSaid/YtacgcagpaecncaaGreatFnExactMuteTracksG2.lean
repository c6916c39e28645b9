import Derived.Test.YtacgcagpaecncaaGreatFnExactMuteTracksG1
import Derived.Maps.AppendAt
import Derived.Test.YtacgcagpaecncaaGreatProg
import Derived.Lib.QuietBelow
import Derived.BigQuiet
set_option linter.unusedVariables false
set_option linter.unusedSimpArgs false
namespace Go.Proofs.YtacgcagpaecncaaGreat
open Go.RowKit

/-- Only blocks of F, and new ones, have turned. -/
structure Chg (F : Nat → Prop) (w w' : World) : Prop where
  os : w'.os = w.os
  tape : w'.tape = w.tape
  output : w'.output = w.output
  size : w.heap.size ≤ w'.heap.size
  block : ∀ k, k < w.heap.size → ¬ F k → w'.heap[k]? = w.heap[k]?
section
variable {F F' : Nat → Prop} {a b c w w' : World} {lo hi B : Nat}
theorem Chg.refl (F : Nat → Prop) (w : World) : Chg F w w := ⟨rfl, rfl, rfl, Nat.le_refl _, fun _ _ _ => rfl⟩
theorem Chg.trans (h : Chg F a b) (k : Chg F b c) : Chg F a c :=
  ⟨k.os.trans h.os, k.tape.trans h.tape, k.output.trans h.output, Nat.le_trans h.size k.size, fun i hi hm => (k.block i (Nat.lt_of_lt_of_le hi h.size) hm).trans (h.block i hi hm)⟩
theorem Chg.wide (h : Chg F a b) (hf : ∀ k, F k → F' k) : Chg F' a b := ⟨h.os, h.tape, h.output, h.size, fun k hk hn => h.block k hk fun hF => hn (hf k hF)⟩
theorem Chg.of_below (h : Below a.heap.size a b) (F : Nat → Prop) : Chg F a b := ⟨h.os, h.tape, h.output, h.size, fun k hk _ => h.block k hk⟩
theorem Chg.of_mid (h : Mid lo hi a b) : Chg (fun k => lo ≤ k ∧ k < hi) a b := ⟨h.os, h.tape, h.output, h.size, fun k hk hn => h.block k hk (by omega)⟩
theorem Chg.to_mid (h : Chg (fun k => lo ≤ k ∧ k < hi) a b) : Mid lo hi a b := ⟨h.os, h.tape, h.output, h.size, fun k hk hn => h.block k hk (by omega)⟩
theorem Chg.of_grown {row : Option Nat} (h : a.grownBy b row) (hr : ∀ k, row = some k → F k) : Chg F a b :=
  ⟨h.os, h.tape, h.output, h.size, fun k hk hn => h.block k hk fun e => hn (hr k e.symm)⟩
theorem Chg.toBelow (h : Chg F a b) (hF : ∀ k, F k → B ≤ k) (hB : B ≤ a.heap.size) : Below B a b := ⟨h.os, h.tape, h.output, h.size, fun k hk => h.block k (by omega) fun hk' => by have := hF k hk'; omega⟩
theorem Chg.set (w : World) (g o : Nat) (u : Value) (hF : F g) : Chg F w (w.setCell ⟨g, o, none⟩ u) := Chg.of_grown (grown_setCell w g o u) fun k hk => by injection hk with hk; rw [← hk]; exact hF
end

/-- Rows of cells, s each. -/
theorem flat2_at {s : Nat} {css : List (List Value)} (hs : ∀ c ∈ css, c.length = s) {k : Nat} {c : List Value} (hk : css[k]? = some c) (j : Nat) (hj : j < s) : css.flatten[k * s + j]? = c[j]? := by
  induction css generalizing k with
  | nil => simp at hk
  | cons y ys ih =>
    have hy := hs y (by simp)
    cases k with
    | zero =>
      simp only [List.getElem?_cons_zero, Option.some.injEq] at hk
      subst hk
      rw [List.flatten_cons, Nat.zero_mul, Nat.zero_add, List.getElem?_append_left (by omega)]
    | succ k =>
      simp only [List.getElem?_cons_succ] at hk
      rw [List.flatten_cons, List.getElem?_append_right (by rw [hy, Nat.succ_mul]; omega), hy, ← ih (fun c hc => hs c (by simp [hc])) hk]
      congr 1
      rw [Nat.succ_mul]
      omega
theorem flat2_len {s : Nat} {css : List (List Value)} (hs : ∀ c ∈ css, c.length = s) : css.flatten.length = css.length * s := by
  induction css with
  | nil => simp
  | cons y ys ih => rw [List.flatten_cons, List.length_append, hs y (by simp), ih (fun c hc => hs c (by simp [hc])), List.length_cons, Nat.succ_mul, Nat.add_comm]
theorem flat2_set {s : Nat} {css : List (List Value)} (hs : ∀ c ∈ css, c.length = s) {k j : Nat} {c : List Value} {u : Value} (hk : css[k]? = some c) (hj : j < s) : css.flatten.set (k * s + j) u = (css.set k (c.set j u)).flatten := by
  induction css generalizing k with
  | nil => simp at hk
  | cons y ys ih =>
    have hy := hs y (by simp)
    cases k with
    | zero =>
      simp only [List.getElem?_cons_zero, Option.some.injEq] at hk
      subst hk
      rw [List.flatten_cons, Nat.zero_mul, Nat.zero_add, List.set_append_left _ _ (by omega), List.set_cons_zero, List.flatten_cons]
    | succ k =>
      simp only [List.getElem?_cons_succ] at hk
      rw [List.flatten_cons, List.set_append_right _ _ (by rw [hy, Nat.succ_mul]; omega), hy, List.set_cons_succ, List.flatten_cons, ← ih (fun c hc => hs c (by simp [hc])) hk]
      congr 2
      rw [Nat.succ_mul]
      omega

/-- How a plain type lies in cells: what reads as x (R), and what the call owns, in blocks of F (O). -/
structure Ty (α : Type) where
  s : Nat
  pos : 0 < s
  zero : α
  R : World → Nat → List Value → α → Prop
  O : World → (Nat → Prop) → List Value → α → Prop
  rlen : ∀ {w B cs x}, R w B cs x → cs.length = s
  keep : ∀ {w w' B cs x}, (∀ p : Addr, p.block < B → w'.cell? p = w.cell? p) → R w B cs x → R w' B cs x
  more : ∀ {w B B' cs x}, B ≤ B' → R w B cs x → R w B' cs x
  read : ∀ {w F cs x}, O w F cs x → R w w.heap.size cs x
  okeep : ∀ {w w' F cs x}, (∀ b, F b → w'.heap[b]? = w.heap[b]?) → O w F cs x → O w' F cs x
  owide : ∀ {w F F' cs x}, (∀ b, F b → F' b) → O w F cs x → O w F' cs x
  ocells : ∀ {w F cs x}, O w F cs x → ∀ u ∈ cs, u.oneCell' = true
  oreal : ∀ {w F cs x}, O w F cs x → O w (fun b => F b ∧ b < w.heap.size) cs x

/-- A type whose cells are the value itself. -/
def Ty.flat {α : Type} (s : Nat) (pos : 0 < s) (zero : α) (enc : α → List Value) (henc : ∀ x, (enc x).length = s) (h1 : ∀ x, ∀ u ∈ enc x, u.oneCell' = true) : Ty α where
  s := s
  pos := pos
  zero := zero
  R _ _ cs x := cs = enc x
  O _ _ cs x := cs = enc x
  rlen h := by rw [h]; exact henc _
  keep _ h := h
  more _ h := h
  read h := h
  okeep _ h := h
  owide _ h := h
  ocells h := by rw [h]; exact h1 _
  oreal h := h
def tI : Ty Int := Ty.flat 1 (by decide) 0 (fun x => [.int .i64 x]) (fun _ => rfl) (by simp [Value.oneCell'])
def tB : Ty Bool := Ty.flat 1 (by decide) false (fun x => [.bool x]) (fun _ => rfl) (by simp [Value.oneCell'])
/-- Two types side by side: a struct. -/
def Ty.prod {α β : Type} (a : Ty α) (b : Ty β) : Ty (α × β) where
  s := a.s + b.s
  pos := Nat.add_pos_left a.pos _
  zero := (a.zero, b.zero)
  R w B cs x := ∃ c1 c2, cs = c1 ++ c2 ∧ a.R w B c1 x.1 ∧ b.R w B c2 x.2
  O w F cs x := ∃ c1 c2 F1 F2, cs = c1 ++ c2 ∧ a.O w F1 c1 x.1 ∧ b.O w F2 c2 x.2 ∧ (∀ k, F1 k → F k) ∧ (∀ k, F2 k → F k) ∧ (∀ k, F1 k → ¬ F2 k)
  rlen := by rintro w B cs x ⟨c1, c2, rfl, h1, h2⟩; rw [List.length_append, a.rlen h1, b.rlen h2]
  keep := by rintro w w' B cs x hk ⟨c1, c2, rfl, h1, h2⟩; exact ⟨c1, c2, rfl, a.keep hk h1, b.keep hk h2⟩
  more := by rintro w B B' cs x hk ⟨c1, c2, rfl, h1, h2⟩; exact ⟨c1, c2, rfl, a.more hk h1, b.more hk h2⟩
  read := by rintro w F cs x ⟨c1, c2, F1, F2, rfl, h1, h2, _⟩; exact ⟨c1, c2, rfl, a.read h1, b.read h2⟩
  okeep := by rintro w w' F cs x hk ⟨c1, c2, F1, F2, rfl, h1, h2, f1, f2, f3⟩; exact ⟨c1, c2, F1, F2, rfl, a.okeep (fun b hb => hk b (f1 b hb)) h1, b.okeep (fun b hb => hk b (f2 b hb)) h2, f1, f2, f3⟩
  owide := by rintro w F F' cs x hk ⟨c1, c2, F1, F2, rfl, h1, h2, f1, f2, f3⟩; exact ⟨c1, c2, F1, F2, rfl, h1, h2, fun k h => hk k (f1 k h), fun k h => hk k (f2 k h), f3⟩
  ocells := by
    rintro w F cs x ⟨c1, c2, F1, F2, rfl, h1, h2, _⟩ u hu
    rcases List.mem_append.1 hu with h | h
    · exact a.ocells h1 u h
    · exact b.ocells h2 u h
  oreal := by
    rintro w F cs x ⟨c1, c2, F1, F2, rfl, h1, h2, f1, f2, f3⟩
    exact ⟨c1, c2, _, _, rfl, a.oreal h1, b.oreal h2, fun k h => ⟨f1 k h.1, h.2⟩, fun k h => ⟨f2 k h.1, h.2⟩, fun k h h' => f3 k h.1 h'.1⟩

section
variable {α : Type} (t : Ty α)
/-- A slice that reads as a list. -/
def RS (w : World) (B : Nat) (v : Value) (xs : List α) : Prop :=
  ∃ (A : Option Addr) (c : Nat) (css : List (List Value)), v = .slice A xs.length c ∧ xs.length ≤ c ∧ c ≤ maxLen ∧ css.length = xs.length ∧ Reads w B t.s A xs.length css.flatten ∧ ∀ k (h : k < xs.length) (h' : k < css.length), t.R w B css[k] xs[k]
/-- The call's own slice: a row of its own, each element in blocks of its own. -/
def OS (e : TypeId) (w : World) (F : Nat → Prop) (v : Value) (xs : List α) : Prop :=
  ∃ (css : List (List Value)) (Fs : Nat → Nat → Prop), w.ownsRow 0 e t.s v xs.length css.flatten ∧ css.length = xs.length ∧ (∀ g, v.ownBlock = some g → F g) ∧ (∀ k b, Fs k b → F b ∧ v.ownBlock ≠ some b) ∧
    (∀ j k b, j ≠ k → Fs j b → ¬ Fs k b) ∧ ∀ k (h : k < xs.length) (h' : k < css.length), t.O w (Fs k) css[k] xs[k]
end
section
variable {α : Type} {t : Ty α} {e : TypeId} {w w' : World} {F F' : Nat → Prop} {B B' : Nat} {v : Value} {xs : List α}
theorem RS.keep (hk : ∀ p : Addr, p.block < B → w'.cell? p = w.cell? p) (h : RS t w B v xs) : RS t w' B v xs := by
  obtain ⟨A, c, css, hv, h1, h2, h3, h4, h5⟩ := h
  exact ⟨A, c, css, hv, h1, h2, h3, h4.keep hk, fun k h h' => t.keep hk (h5 k h h')⟩
theorem RS.more (hB : B ≤ B') (h : RS t w B v xs) : RS t w B' v xs := by
  obtain ⟨A, c, css, hv, h1, h2, h3, h4, h5⟩ := h
  exact ⟨A, c, css, hv, h1, h2, h3, h4.more hB, fun k h h' => t.more hB (h5 k h h')⟩
theorem OS.read (h : OS t e w F v xs) : RS t w w.heap.size v xs := by
  obtain ⟨css, Fs, h1, h2, _, _, _, h6⟩ := h
  obtain ⟨A, c, rfl, hc, hm, hr⟩ := own_shape h1
  exact ⟨A, c, css, rfl, hc, hm, h2, hr, fun k h h' => t.read (h6 k h h')⟩
theorem OS.keep (hk : ∀ b, F b → w'.heap[b]? = w.heap[b]?) (h : OS t e w F v xs) : OS t e w' F v xs := by
  obtain ⟨css, Fs, h1, h2, h3, h4, h5, h6⟩ := h
  refine ⟨css, Fs, ⟨h1.1, ?_⟩, h2, h3, h4, h5, fun k h h' => t.okeep (fun b hb => hk b (h4 k b hb).1) (h6 k h h')⟩
  rcases h1.2 with hn | ⟨g, cap, cur, rfl, hb, hg, rest⟩
  · exact .inl hn
  · exact .inr ⟨g, cap, cur, rfl, hb, by rw [hk g (h3 g rfl)]; exact hg, rest⟩
theorem OS.wide (hF : ∀ b, F b → F' b) (h : OS t e w F v xs) : OS t e w F' v xs := by
  obtain ⟨css, Fs, h1, h2, h3, h4, h5, h6⟩ := h
  exact ⟨css, Fs, h1, h2, fun g hg => hF g (h3 g hg), fun k b hb => ⟨hF b (h4 k b hb).1, (h4 k b hb).2⟩, h5, h6⟩
theorem RS.cap {A : Option Addr} {n c : Nat} (h : RS t w B (.slice A n c) xs) : xs.length = n ∧ n ≤ c ∧ c ≤ maxLen := by
  obtain ⟨A', c', css, hv, h1, h2, _⟩ := h
  simp only [Value.slice.injEq] at hv
  obtain ⟨rfl, rfl, rfl⟩ := hv
  exact ⟨rfl, h1, h2⟩
theorem RS.shape (h : RS t w B v xs) : ∃ A c, v = .slice A xs.length c := by
  obtain ⟨A, c, css, hv, _⟩ := h
  exact ⟨A, c, hv⟩
theorem OS.shape (h : OS t e w F v xs) : ∃ A c, v = .slice A xs.length c := RS.shape h.read
/-- The k-th element's cells. -/
theorem RS.at (h : RS t w B v xs) {k : Nat} (hk : k < xs.length) : ∃ b o c cs, v = .slice (some ⟨b, o, none⟩) xs.length c ∧ b < B ∧ cs.length = t.s ∧ t.R w B cs xs[k] ∧ ∀ j u, cs[j]? = some u → w.cell? ⟨b, o + k * t.s + j, none⟩ = some u := by
  obtain ⟨A, c, css, rfl, h1, h2, h3, h4, h5⟩ := h
  obtain ⟨ad, rfl, hb, hc⟩ := h4.2 (by omega)
  have hs : ∀ c ∈ css, c.length = t.s := fun c hc => by
    obtain ⟨i, hi, rfl⟩ := List.getElem_of_mem hc
    exact t.rlen (h5 i (by omega) hi)
  have h0 : 0 < css.flatten.length := by
    rw [flat2_len hs]
    exact Nat.mul_pos (by omega) t.pos
  have hsp := spot_none (hc 0 _ (List.getElem?_eq_getElem h0))
  have hsp' : ad = ⟨ad.block, ad.off, none⟩ := by simpa [Addr.add] using hsp
  have hr := h5 k hk (by omega)
  refine ⟨ad.block, ad.off, c, css[k]'(by omega), by rw [← hsp'], hb, t.rlen hr, hr, fun j u hu => ?_⟩
  have hj : j < t.s := by rw [← t.rlen hr]; exact (List.getElem?_eq_some_iff.1 hu).1
  have := hc (k * t.s + j) u (by rw [flat2_at hs (List.getElem?_eq_getElem (by omega)) j hj]; exact hu)
  rw [hsp', Addr.add_lit, ← Nat.add_assoc] at this
  exact this
end

/-- A slice as a type of one cell. -/
def Ty.sl {α : Type} (t : Ty α) (e : TypeId) : Ty (List α) where
  s := 1
  pos := Nat.one_pos
  zero := []
  R w B cs x := ∃ v, cs = [v] ∧ RS t w B v x
  O w F cs x := ∃ v, cs = [v] ∧ OS t e w F v x
  rlen := by rintro w B cs x ⟨v, rfl, _⟩; rfl
  keep := by rintro w w' B cs x hk ⟨v, rfl, h⟩; exact ⟨v, rfl, h.keep hk⟩
  more := by rintro w B B' cs x hk ⟨v, rfl, h⟩; exact ⟨v, rfl, h.more hk⟩
  read := by rintro w F cs x ⟨v, rfl, h⟩; exact ⟨v, rfl, h.read⟩
  okeep := by rintro w w' F cs x hk ⟨v, rfl, h⟩; exact ⟨v, rfl, h.keep hk⟩
  owide := by rintro w F F' cs x hk ⟨v, rfl, h⟩; exact ⟨v, rfl, h.wide hk⟩
  ocells := by
    rintro w F cs x ⟨v, rfl, h⟩ u hu
    obtain ⟨A, c, hv⟩ := h.shape
    simp only [List.mem_singleton] at hu
    subst hu hv
    rfl
  oreal := by
    rintro w F cs x ⟨v, rfl, css, Fs, h1, h2, h3, h4, h5, h6⟩
    exact ⟨v, rfl, css, _, h1, h2, fun g hg => ⟨h3 g hg, (h1.lt g hg).2⟩, fun k b hb => ⟨⟨(h4 k b hb.1).1, hb.2⟩, (h4 k b hb.1).2⟩, fun j k b hne h h' => h5 j k b hne h.1 h'.1, fun k h h' => t.oreal (h6 k h h')⟩

section
variable {α : Type} {t : Ty α} {e : TypeId} {w w' : World} {F F' : Nat → Prop} {B B' lo hi : Nat} {v : Value} {xs : List α}
/-- Blocks from lo on and below hi. -/
def Iv (lo hi : Nat) : Nat → Prop := fun k => lo ≤ k ∧ k < hi
theorem Iv.mono {lo hi lo' hi' : Nat} (h1 : lo' ≤ lo) (h2 : hi ≤ hi') : ∀ b, Iv lo hi b → Iv lo' hi' b := fun b ⟨h, h'⟩ => ⟨Nat.le_trans h1 h, Nat.lt_of_lt_of_le h' h2⟩
theorem RS.later (h : RS t w w.heap.size v xs) (hb : Below w.heap.size w w') : RS t w' w'.heap.size v xs := (h.keep fun _ hp => hb.cell hp).more hb.size
theorem RS.below (h : RS t w B v xs) (hb : Below B w w') : RS t w' B v xs := h.keep fun _ hp => hb.cell hp
theorem OS.below (h : OS t e w (Iv lo hi) v xs) (hb : Below B w w') (hB : hi ≤ B) : OS t e w' (Iv lo hi) v xs := h.keep fun b hF => hb.block b (Nat.lt_of_lt_of_le hF.2 hB)
theorem OS.mid {l r : Nat} (h : OS t e w (Iv lo hi) v xs) (hm : Mid l r w w') (hd : hi ≤ l ∨ r ≤ lo) (hs : hi ≤ w.heap.size) : OS t e w' (Iv lo hi) v xs :=
  h.keep fun b ⟨h1, h2⟩ => hm.block b (by omega) (by omega)
theorem OS.iv {lo' hi' : Nat} (h : OS t e w (Iv lo hi) v xs) (h1 : lo' ≤ lo) (h2 : hi ≤ hi') : OS t e w (Iv lo' hi') v xs := h.wide (Iv.mono h1 h2)
theorem OS.nil (t : Ty α) (e : TypeId) (w : World) (F : Nat → Prop) : OS t e w F (.slice none 0 0) [] :=
  ⟨[], fun _ _ => False, World.ownsRow_nil _ _ _ _, rfl, by simp [Value.ownBlock], fun _ _ h => h.elim, fun _ _ _ _ h => h.elim, fun k h => by simp at h⟩
theorem RS.nil (t : Ty α) (w : World) (B : Nat) : RS t w B (.slice none 0 0) [] := ⟨none, 0, [], rfl, Nat.le_refl _, by simp [maxLen], rfl, Reads.none_, fun k h => by simp at h⟩
/-- All of an own slice but its k-th element. -/
def OH (t : Ty α) (e : TypeId) (w : World) (F : Nat → Prop) (v : Value) (xs : List α) (css : List (List Value)) (Fs : Nat → Nat → Prop) (k : Nat) : Prop :=
  w.ownsRow 0 e t.s v xs.length css.flatten ∧ css.length = xs.length ∧ (∀ c ∈ css, c.length = t.s) ∧ (∀ g, v.ownBlock = some g → F g) ∧ (∀ k b, Fs k b → F b ∧ v.ownBlock ≠ some b) ∧
    (∀ j k b, j ≠ k → Fs j b → ¬ Fs k b) ∧ ∀ i (h : i < xs.length) (h' : i < css.length), i ≠ k → t.O w (Fs i) css[i] xs[i]
theorem OS.open (h : OS t e w F v xs) {k : Nat} (hk : k < xs.length) : ∃ css Fs, OH t e w F v xs css Fs k ∧ ∃ cs, css[k]? = some cs ∧ t.O w (Fs k) cs xs[k] := by
  obtain ⟨css, Fs, h1, h2, h3, h4, h5, h6⟩ := h
  exact ⟨css, Fs, ⟨h1, h2, fun c hc => by
    obtain ⟨i, hi, rfl⟩ := List.getElem_of_mem hc
    exact t.rlen (t.read (h6 i (by omega) hi)), h3, h4, h5, fun i h h' _ => h6 i h h'⟩, css[k]'(by omega), List.getElem?_eq_getElem (by omega), h6 k hk (by omega)⟩
variable {css : List (List Value)} {Fs : Nat → Nat → Prop} {k : Nat}
theorem OH.fits (h : OH t e w F v xs css Fs k) : ∀ b, Fs k b → F b := fun b hb => (h.2.2.2.2.1 k b hb).1
theorem OH.form {A : Option Addr} {m c : Nat} (h : OH t e w F (.slice A m c) xs css Fs k) (hk : k < xs.length) : ∃ g, A = some ⟨g, 0, none⟩ ∧ F g ∧ ¬ Fs k g ∧ g < w.heap.size ∧ m = xs.length := by
  obtain ⟨h1, h2, h3, h4, h5, h6, h7⟩ := h
  rcases h1.2 with ⟨h0, _⟩ | ⟨g, cap, cur, h0, hg1, hg2, _⟩
  · simp only [Value.slice.injEq] at h0
    omega
  · simp only [Value.slice.injEq] at h0
    obtain ⟨rfl, rfl, rfl⟩ := h0
    exact ⟨g, rfl, h4 g rfl, fun hf => (h5 k g hf).2 rfl, (Array.getElem?_eq_some_iff.1 hg2).1, rfl⟩
theorem OH.cell {g m c : Nat} (h : OH t e w F (.slice (some ⟨g, 0, none⟩) m c) xs css Fs k) {cs : List Value} (hcs : css[k]? = some cs) {j : Nat} {u : Value} (hj : cs[j]? = some u) :
    w.cell? ⟨g, k * t.s + j, none⟩ = some u ∧ w.frozen? ⟨g, k * t.s + j, none⟩ = false := by
  obtain ⟨h1, h2, h3, _⟩ := h
  have hk : k < css.length := (List.getElem?_eq_some_iff.1 hcs).1
  have hm : m = xs.length := by
    rcases h1.2 with ⟨h0, _⟩ | ⟨g', cap, cur, h0, _⟩
    · simp at h0
    · simp only [Value.slice.injEq] at h0
      exact h0.2.1
  subst hm
  have hl : cs.length = t.s := h3 cs (List.mem_of_getElem? hcs)
  have hjs : j < t.s := by rw [← hl]; exact (List.getElem?_eq_some_iff.1 hj).1
  have hf := flat2_at h3 hcs j hjs
  rw [hj] at hf
  have hlt := (List.getElem?_eq_some_iff.1 hf).1
  exact ⟨by rw [World.ownsRow.cellAt h1 _ (by rw [← h1.1]; exact hlt)]; exact hf, World.ownsRow.frozenAt h1 _⟩
/-- A cell of the k-th element is written. -/
theorem OH.set {g m c : Nat} (h : OH t e w F (.slice (some ⟨g, 0, none⟩) m c) xs css Fs k) {cs : List Value} (hcs : css[k]? = some cs) (j : Nat) (hj : j < t.s) (u : Value) :
    OH t e (w.setCell ⟨g, k * t.s + j, none⟩ u) F (.slice (some ⟨g, 0, none⟩) m c) xs (css.set k (cs.set j u)) Fs k ∧ (css.set k (cs.set j u))[k]? = some (cs.set j u) := by
  obtain ⟨h1, h2, h3, h4, h5, h6, h7⟩ := h
  have hk : k < css.length := (List.getElem?_eq_some_iff.1 hcs).1
  have hm : m = xs.length := by
    rcases h1.2 with ⟨h0, _⟩ | ⟨g', cap, cur, h0, _⟩
    · simp at h0
    · simp only [Value.slice.injEq] at h0
      exact h0.2.1
  subst hm
  have hl : cs.length = t.s := h3 cs (List.mem_of_getElem? hcs)
  have hst := (World.ownsRow.stored h1 (k * t.s + j) u).1
  rw [flat2_set h3 hcs hj] at hst
  refine ⟨⟨hst, by rw [List.length_set]; exact h2, fun c hc => ?_, h4, h5, h6, fun i hi hi' hne => ?_⟩, by simp [hk]⟩
  · rcases List.mem_or_eq_of_mem_set hc with hc | rfl
    · exact h3 c hc
    · rw [List.length_set]; exact hl
  · rw [List.getElem_set_ne (fun e => hne e.symm)]
    refine t.okeep (fun b hb => ?_) (h7 i hi (by rw [List.length_set] at hi'; exact hi') hne)
    exact heap_setCell_other w ⟨g, k * t.s + j, none⟩ b u (fun e => (h5 i b hb).2 (by rw [e]; rfl))
/-- Blocks of the k-th element are written. -/
theorem OH.chg (h : OH t e w F v xs css Fs k) (hc : Chg (Fs k) w w') : OH t e w' F v xs css Fs k := by
  obtain ⟨h1, h2, h3, h4, h5, h6, h7⟩ := h
  refine ⟨⟨h1.1, ?_⟩, h2, h3, h4, h5, h6, fun i hi hi' hne => ?_⟩
  · rcases h1.2 with hn | ⟨g, cap, cur, rfl, hb, hg, rest⟩
    · exact .inl hn
    · exact .inr ⟨g, cap, cur, rfl, hb, by rw [hc.block g (Array.getElem?_eq_some_iff.1 hg).1 (fun hf => (h5 k g hf).2 rfl)]; exact hg, rest⟩
  · have ho := h7 i hi hi' hne
    exact t.owide (fun b hb => hb.1) (t.okeep (fun b hb => hc.block b hb.2 (fun hk => h6 k i b (fun e => hne e.symm) hk hb.1)) (t.oreal ho))
theorem OH.keep (h : OH t e w F v xs css Fs k) (hk : ∀ b, F b → w'.heap[b]? = w.heap[b]?) : OH t e w' F v xs css Fs k := by
  obtain ⟨h1, h2, h3, h4, h5, h6, h7⟩ := h
  refine ⟨⟨h1.1, ?_⟩, h2, h3, h4, h5, h6, fun i hi hi' hne => t.okeep (fun b hb => hk b (h5 i b hb).1) (h7 i hi hi' hne)⟩
  rcases h1.2 with hn | ⟨g, cap, cur, rfl, hb, hg, rest⟩
  · exact .inl hn
  · exact .inr ⟨g, cap, cur, rfl, hb, by rw [hk g (h4 g rfl)]; exact hg, rest⟩
/-- The k-th element is there again, in its own blocks or in others. -/
theorem OH.fill (h : OH t e w F v xs css Fs k) {cs : List Value} (hcs : css[k]? = some cs) {y : α} (hy : t.O w (Fs k) cs y) : OS t e w F v (xs.set k y) := by
  obtain ⟨h1, h2, h3, h4, h5, h6, h7⟩ := h
  refine ⟨css, Fs, by rw [List.length_set]; exact h1, by rw [List.length_set]; exact h2, h4, h5, h6, fun i hi hi' => ?_⟩
  by_cases hik : i = k
  · subst hik
    rw [List.getElem_set_self]
    rw [List.getElem?_eq_getElem hi', Option.some.injEq] at hcs
    rw [hcs]
    exact hy
  · rw [List.getElem_set_ne (fun e => hik e.symm)]
    exact h7 i (by rw [List.length_set] at hi; exact hi) hi' hik
theorem OH.fill' (h : OH t e w F v xs css Fs k) {cs : List Value} (hcs : css[k]? = some cs) {y : α} {Fe : Nat → Prop} (hy : t.O w Fe cs y) (hd : ∀ b, Fe b → ¬ F b) : OS t e w (fun b => F b ∨ Fe b) v (xs.set k y) := by
  obtain ⟨h1, h2, h3, h4, h5, h6, h7⟩ := h
  refine ⟨css, fun i => if i = k then Fe else Fs i, by rw [List.length_set]; exact h1, by rw [List.length_set]; exact h2, fun g hg => .inl (h4 g hg), fun i b hb => ?_, fun i j b hne hi hj => ?_, fun i hi hi' => ?_⟩
  · change (if i = k then Fe else Fs i) b at hb
    by_cases hik : i = k
    · rw [if_pos hik] at hb
      exact ⟨.inr hb, fun hg => hd b hb (h4 b hg)⟩
    · rw [if_neg hik] at hb
      exact ⟨.inl (h5 i b hb).1, (h5 i b hb).2⟩
  · change (if i = k then Fe else Fs i) b at hi
    change (if j = k then Fe else Fs j) b at hj
    by_cases hik : i = k
    · rw [if_pos hik] at hi
      rw [if_neg (fun e => hne (hik.trans e.symm))] at hj
      exact hd b hi (h5 j b hj).1
    · rw [if_neg hik] at hi
      by_cases hjk : j = k
      · rw [if_pos hjk] at hj
        exact hd b hj (h5 i b hi).1
      · rw [if_neg hjk] at hj
        exact h6 i j b hne hi hj
  · by_cases hik : i = k
    · subst hik
      rw [List.getElem_set_self]
      rw [List.getElem?_eq_getElem hi', Option.some.injEq] at hcs
      rw [hcs]
      simpa using hy
    · rw [List.getElem_set_ne (fun e => hik e.symm)]
      simpa [hik] using h7 i (by rw [List.length_set] at hi; exact hi) hi' hik
/-- A fresh row of zeros. -/
theorem OS.made {zc : List Value} {n : Nat} {z : Value} {c : Nat} (hz : ∀ w F, t.O w F zc t.zero) (hzl : z.cells.toList = zc) (hF : F w.heap.size) (h : w'.ownsRow w.heap.size e t.s (.slice (some ⟨w.heap.size, 0, none⟩) n c) n (madeCells z.cells (n * t.s)).toList) :
    OS t e w' F (.slice (some ⟨w.heap.size, 0, none⟩) n c) (List.replicate n t.zero) := by
  have hl : zc.length = t.s := t.rlen (t.read (hz w F))
  have hm := made_flat (enc := fun _ : Unit => zc) (s := t.s) z.cells n () hzl.symm (fun _ => hl) t.pos
  refine ⟨List.replicate n zc, fun _ _ => False, ?_, by simp, fun g hg => ?_, fun _ _ h => h.elim, fun _ _ _ _ h => h.elim, fun k hk hk' => by simpa using hz w' _⟩
  · rw [List.length_replicate]
    rw [hm] at h
    have e0 : (List.replicate n ()).flatMap (fun _ => zc) = (List.replicate n zc).flatten := by
      rw [List.flatMap_def, List.map_replicate]
    rw [e0] at h
    exact own_base h (Nat.zero_le _)
  · simp only [Value.ownBlock, Option.some.injEq] at hg
    rw [← hg]
    exact hF
theorem OS.lt (h : OS t e w F v xs) : ∀ g, v.ownBlock = some g → F g ∧ g < w.heap.size := by
  obtain ⟨css, Fs, h1, _, h3, _⟩ := h
  exact fun g hg => ⟨h3 g hg, (h1.lt g hg).2⟩
theorem OS.real (h : OS t e w F v xs) : OS t e w (fun b => F b ∧ b < w.heap.size) v xs := by
  obtain ⟨css, Fs, h1, h2, h3, h4, h5, h6⟩ := h
  exact ⟨css, _, h1, h2, fun g hg => ⟨h3 g hg, (h1.lt g hg).2⟩, fun k b hb => ⟨⟨(h4 k b hb.1).1, hb.2⟩, (h4 k b hb.1).2⟩, fun j k b hne h h' => h5 j k b hne h.1 h'.1, fun k h h' => t.oreal (h6 k h h')⟩
theorem OS.chg (h : OS t e w F v xs) (hc : Chg F' w w') (hd : ∀ b, F b → ¬ F' b) : OS t e w' F v xs :=
  (h.real.keep fun b hb => hc.block b hb.2 (hd b hb.1)).wide fun _ hb => hb.1
end
section
variable {α : Type} {t : Ty α} {P : Program} {T e : TypeId} {z : Value} {bytes : Nat}
/-- 'out = append(out, x)' onto an own slice: x's cells lie in a new block. -/
theorem wpList_pushS (hE : EI P T e z t.s bytes) {w : World} {ops : Array Oper} {rest : List Oper} {o : Oper} {a : Act} {Q : Exit → Act → World → Prop} (us : Array Value)
    (hgd : o.guard = none) (s x : Operand) (ho : o.op = .call { callee := .builtin .append, args := #[s, x], argTypes := #[T, T] })
    {F Fe : Nat → Prop} {v : Value} {xs : List α} {y : α} (hown : OS t e w F v xs) (hy : t.O w Fe us.toList y) (hd : ∀ b, F b → ¬ Fe b) (hs : a.eval s = v)
    (hx : a.eval x = .slice (some ⟨w.heap.size, 0, none⟩) 1 1)
    (hn : xs.length + 1 ≤ maxLen) (hbytes : (xs.length + 1) * bytes ≤ 140737488355328)
    (K : ∀ v' w', OS t e w' (fun b => F b ∨ Fe b ∨ w.heap.size < b ∧ b < w'.heap.size) v' (xs ++ [y]) → Chg F w w' → wpList P ops Q rest (a.put o.dst v') w') :
    wpList P ops Q (o :: rest) a (w.alloc (.cells us e)) := by
  obtain ⟨ht, hinfo, hzs, hsz⟩ := hE
  obtain ⟨i0, hi, hz0, hz1, hz2⟩ := info_parts hinfo
  have hown' := hown.real
  have hy' := t.oreal hy
  obtain ⟨css, Fs, h1, h2, h3, h4, h5, h6⟩ := hown'
  have hus : us.toList.length = t.s := t.rlen (t.read hy)
  refine wpList_append_own_at _ hgd s x T ho 0 e i0 z t.s bytes ht hi hz0 hz1 hz2 hzs hsz v xs.length css.flatten hs (h1.alloc _) ⟨w.heap.size, 0, none⟩ 1 1 us.toList hx (by rw [hus, Nat.one_mul]) ?_ (t.ocells hy) hn hbytes (Nat.zero_le _) ?_
  · intro j u hj
    have hadd : (⟨w.heap.size, 0, none⟩ : Addr).add j = ⟨w.heap.size, j, none⟩ := by unfold Addr.add; split <;> simp_all
    rw [hadd, cell_of_row _ w.heap.size j us e (0, 0) (heap_alloc_new w _)]
    simpa using hj
  · intro v' w' g1 g2 _ g4
    have hsz' : (w.alloc (.cells us e)).heap.size = w.heap.size + 1 := by simp
    have hg : w.grownBy w' v.ownBlock := by
      have := World.grownBy_alloc w (.cells us e) none
      exact ⟨g2.os.trans this.os, g2.tape.trans this.tape, g2.output.trans this.output, Nat.le_trans this.size g2.size, fun k hk hne => by
        rw [g2.block k (by simp; omega) hne]; exact this.block k hk (by simp)⟩
    have hc : Chg F w w' := Chg.of_grown hg fun k hk => (h3 k hk).1
    refine K v' w' ⟨css ++ [us.toList], fun i b => if i = xs.length then Fe b ∧ b < w.heap.size else Fs i b, ?_, by simp [h2], fun g hgb => ?_, fun i b hb => ?_, fun i j b hne hbi hbj => ?_, fun i hi1 hi2 => ?_⟩ hc
    · rw [List.flatten_append, List.length_append]
      simpa using g1
    · rcases g4 with h | h
      · rw [h] at hgb
        exact .inl (h3 g hgb).1
      · rw [h, hsz', Option.some.injEq] at hgb
        exact .inr (.inr ⟨by omega, (g1.lt g (by rw [h, hsz']; simp; omega)).2⟩)
    · change (if i = xs.length then Fe b ∧ b < w.heap.size else Fs i b) at hb
      have hlt : b < w.heap.size := by
        by_cases hil : i = xs.length
        · rw [if_pos hil] at hb; exact hb.2
        · rw [if_neg hil] at hb; exact (h4 i b hb).1.2
      refine ⟨?_, ?_⟩
      · by_cases hil : i = xs.length
        · rw [if_pos hil] at hb
          exact .inr (.inl hb.1)
        · rw [if_neg hil] at hb
          exact .inl (h4 i b hb).1.1
      · rcases g4 with h | h
        · rw [h]
          by_cases hil : i = xs.length
          · rw [if_pos hil] at hb
            exact fun e => hd b (h3 b e).1 hb.1
          · rw [if_neg hil] at hb
            exact (h4 i b hb).2
        · rw [h, hsz']
          intro e
          injection e with e
          omega
    · change (if i = xs.length then Fe b ∧ b < w.heap.size else Fs i b) at hbi
      change (if j = xs.length then Fe b ∧ b < w.heap.size else Fs j b) at hbj
      by_cases hil : i = xs.length
      · rw [if_pos hil] at hbi
        rw [if_neg (fun e => hne (hil.trans e.symm))] at hbj
        exact hd b (h4 j b hbj).1.1 hbi.1
      · rw [if_neg hil] at hbi
        by_cases hjl : j = xs.length
        · rw [if_pos hjl] at hbj
          exact hd b (h4 i b hbi).1.1 hbj.1
        · rw [if_neg hjl] at hbj
          exact h5 i j b hne hbi hbj
    · by_cases hil : i = xs.length
      · subst hil
        rw [List.getElem_append_right (by omega), List.getElem_append_right (by omega)]
        simp only [h2, Nat.sub_self, List.getElem_singleton, if_true]
        exact t.okeep (fun b hb => hg.block b hb.2 (fun e => hd b (h3 b e.symm).1 hb.1)) hy'
      · have hi' : i < xs.length := by rw [List.length_append] at hi1; simp at hi1; omega
        rw [List.getElem_append_left (by omega), List.getElem_append_left hi']
        simp only [if_neg hil]
        exact t.okeep (fun b hb => hg.block b (h4 i b hb).1.2 (fun e => (h4 i b hb).2 e.symm)) (h6 i hi' (by omega))
end
end Go.Proofs.YtacgcagpaecncaaGreat
namespace Go.Proofs.YtacgcagpaecncaaGreat
open Go.RowKit
section
variable {α : Type} (t : Ty α) {w w' : World} {B lo hi lo' hi' l r : Nat} {cs : List Value} {x : α} {F F' : Nat → Prop}
theorem Ty.below (h : t.R w B cs x) (hb : Below B w w') : t.R w' B cs x := t.keep (fun _ hp => hb.cell hp) h
theorem Ty.later (h : t.R w w.heap.size cs x) (hb : Below w.heap.size w w') : t.R w' w'.heap.size cs x := t.more hb.size (t.below h hb)
theorem Ty.obelow (h : t.O w (Iv lo hi) cs x) (hb : Below B w w') (hB : hi ≤ B) : t.O w' (Iv lo hi) cs x := t.okeep (fun b hF => hb.block b (Nat.lt_of_lt_of_le hF.2 hB)) h
theorem Ty.omid (h : t.O w (Iv lo hi) cs x) (hm : Mid l r w w') (hd : hi ≤ l ∨ r ≤ lo) (hs : hi ≤ w.heap.size) : t.O w' (Iv lo hi) cs x :=
  t.okeep (fun b ⟨h1, h2⟩ => hm.block b (by omega) (by omega)) h
theorem Ty.oiv (h : t.O w (Iv lo hi) cs x) (h1 : lo' ≤ lo) (h2 : hi ≤ hi') : t.O w (Iv lo' hi') cs x := t.owide (Iv.mono h1 h2) h
theorem Ty.ochg (h : t.O w F cs x) (hc : Chg F' w w') (hd : ∀ b, F b → ¬ F' b) : t.O w' F cs x := t.owide (fun b hb => hb.1) (t.okeep (fun b hb => hc.block b hb.2 (hd b hb.1)) (t.oreal h))
end
section
variable {w w' : World} {B lo hi n c : Nat} {A : Option Addr} {v : Value} {e : TypeId}
/-- Flat elements. -/
theorem RS.flat {α : Type} {s : Nat} {pos : 0 < s} {zero : α} {enc : α → List Value} {henc : ∀ x, (enc x).length = s} {h1 : ∀ x, ∀ u ∈ enc x, u.oneCell' = true} {xs : List α}
    (h : RS (Ty.flat s pos zero enc henc h1) w B (.slice A n c) xs) : RA enc s w B A n xs ∧ n ≤ c ∧ c ≤ maxLen := by
  obtain ⟨A', c', css, hv, h1', h2, h3, h4, h5⟩ := h
  simp only [Value.slice.injEq] at hv
  obtain ⟨rfl, rfl, rfl⟩ := hv
  refine ⟨⟨rfl, ?_⟩, h1', h2⟩
  have e0 : css = xs.map enc := by
    apply List.ext_getElem (by simp [h3])
    intro i hi hi'
    rw [List.getElem_map]
    exact h5 i (by omega) hi
  rw [List.flatMap_def, ← e0]
  exact h4
theorem RS.of_flat {α : Type} {s : Nat} {pos : 0 < s} {zero : α} {enc : α → List Value} {henc : ∀ x, (enc x).length = s} {h1 : ∀ x, ∀ u ∈ enc x, u.oneCell' = true} {xs : List α}
    (h : RA enc s w B A n xs) (hc : n ≤ c) (hm : c ≤ maxLen) : RS (Ty.flat s pos zero enc henc h1) w B (.slice A n c) xs := by
  obtain ⟨rfl, h2⟩ := h
  rw [List.flatMap_def] at h2
  exact ⟨A, c, xs.map enc, rfl, hc, hm, by simp, h2, fun k hk hk' => by
    show (xs.map enc)[k] = enc xs[k]
    rw [List.getElem_map]⟩
theorem OS.flat {α : Type} {s : Nat} {pos : 0 < s} {zero : α} {enc : α → List Value} {henc : ∀ x, (enc x).length = s} {h1 : ∀ x, ∀ u ∈ enc x, u.oneCell' = true} {xs : List α}
    (h : OS (Ty.flat s pos zero enc henc h1) e w (Iv lo hi) v xs) : OA enc e s lo hi w v xs := by
  obtain ⟨css, Fs, g1, g2, g3, _, _, g6⟩ := h
  have e0 : css = xs.map enc := by
    apply List.ext_getElem (by simp [g2])
    intro i hi hi'
    rw [List.getElem_map]
    exact g6 i (by omega) hi
  subst e0
  refine ⟨⟨by rw [List.flatMap_def]; exact g1.1, ?_⟩, fun k hk => (g3 k hk).2⟩
  rcases g1.2 with hn | ⟨g, cap, cur, rfl, hb, rest⟩
  · exact .inl hn
  · rw [List.flatMap_def]
    exact .inr ⟨g, cap, cur, rfl, (g3 g rfl).1, rest⟩
theorem OS.of_flat {α : Type} {s : Nat} {pos : 0 < s} {zero : α} {enc : α → List Value} {henc : ∀ x, (enc x).length = s} {h1 : ∀ x, ∀ u ∈ enc x, u.oneCell' = true} {xs : List α}
    (h : OA enc e s lo hi w v xs) : OS (Ty.flat s pos zero enc henc h1) e w (Iv lo hi) v xs := by
  refine ⟨xs.map enc, fun _ _ => False, ?_, by simp, fun g hg => ⟨(h.1.lt g hg).1, h.2 g hg⟩, fun _ _ h => h.elim, fun _ _ _ _ h => h.elim, fun k hk hk' => ?_⟩
  · rw [← List.flatMap_def]
    exact own_base h.1 (Nat.zero_le _)
  · show (xs.map enc)[k] = enc xs[k]
    rw [List.getElem_map]
theorem flat_ints (xs : List Int) : xs.flatMap (fun x : Int => [Value.int .i64 x]) = xs.map (.int .i64) := by
  induction xs with
  | nil => rfl
  | cons y ys ih => rw [List.flatMap_cons, ih]; rfl
theorem RS.ri {xs : List Int} (h : RS tI w B (.slice A n c) xs) : RI w B A n xs := by
  have := h.flat.1.2
  rw [flat_ints] at this
  exact this
theorem RS.of_ri {xs : List Int} (h : RI w B A n xs) (hc : n ≤ c) (hm : c ≤ maxLen) : RS tI w B (.slice A n c) xs :=
  RS.of_flat ⟨h.len, by rw [flat_ints]; exact h⟩ hc hm
theorem OS.oi {xs : List Int} (h : OS tI e w (Iv lo hi) v xs) : OI e lo w v xs := by
  have := h.flat.1
  rw [flat_ints] at this
  exact this
theorem OS.of_oi {xs : List Int} (h : OI e lo w v xs) (hh : ∀ k, v.ownBlock = some k → k < hi) : OS tI e w (Iv lo hi) v xs :=
  OS.of_flat ⟨by rw [flat_ints]; exact h, hh⟩
theorem OI.os {xs : List Int} (h : OI e lo w v xs) : OS tI e w (Iv lo w.heap.size) v xs := OS.of_oi h fun k hk => (World.ownsRow.lt h k hk).2
end
/-- All ints of a list bounded .. what a harness counts: its measure of size, its marks. -/
structure Hs (α : Type) where
  sz : α → Nat
  mark : Int → α → α
  cnt : α → Nat
def hI : Hs Int := ⟨fun _ => 0, fun k _ => k, fun _ => 1⟩
section
variable {α β : Type}
def Hs.mkL (h : Hs α) : Int → List α → List α
  | _, [] => []
  | k, x :: xs => h.mark k x :: h.mkL (k + h.cnt x) xs
def Hs.cntL (h : Hs α) : List α → Nat
  | [] => 0
  | x :: xs => h.cnt x + h.cntL xs
def Hs.szL (h : Hs α) : List α → Nat
  | [] => 0
  | x :: xs => h.sz x + h.szL xs
def Hs.sl (h : Hs α) : Hs (List α) := ⟨fun xs => xs.length + h.szL xs, h.mkL, h.cntL⟩
def Hs.prod (a : Hs α) (b : Hs β) : Hs (α × β) := ⟨fun x => a.sz x.1 + b.sz x.2, fun k x => (a.mark k x.1, b.mark (k + a.cnt x.1) x.2), fun x => a.cnt x.1 + b.cnt x.2⟩
theorem Hs.mkL_len (h : Hs α) (k : Int) (xs : List α) : (h.mkL k xs).length = xs.length := by
  induction xs generalizing k with
  | nil => rfl
  | cons x xs ih => simp [Hs.mkL, ih]
theorem Hs.cntL_take (h : Hs α) {xs : List α} {i : Nat} {x : α} (hx : xs[i]? = some x) : h.cntL (xs.take (i + 1)) = h.cntL (xs.take i) + h.cnt x := by
  induction xs generalizing i with
  | nil => simp at hx
  | cons y ys ih =>
    cases i with
    | zero => simp at hx; subst hx; simp [Hs.cntL]
    | succ i =>
      simp only [List.getElem?_cons_succ] at hx
      rw [List.take_succ_cons, List.take_succ_cons, Hs.cntL, Hs.cntL, ih hx]
      omega
theorem Hs.szL_take (h : Hs α) {xs : List α} {i : Nat} {x : α} (hx : xs[i]? = some x) : h.szL (xs.take (i + 1)) = h.szL (xs.take i) + h.sz x := by
  induction xs generalizing i with
  | nil => simp at hx
  | cons y ys ih =>
    cases i with
    | zero => simp at hx; subst hx; simp [Hs.szL]
    | succ i =>
      simp only [List.getElem?_cons_succ] at hx
      rw [List.take_succ_cons, List.take_succ_cons, Hs.szL, Hs.szL, ih hx]
      omega
theorem Hs.mkL_at (h : Hs α) {xs : List α} {i : Nat} {x : α} (k : Int) (hx : xs[i]? = some x) : (h.mkL k xs)[i]? = some (h.mark (k + h.cntL (xs.take i)) x) := by
  induction xs generalizing i k with
  | nil => simp at hx
  | cons y ys ih =>
    cases i with
    | zero => simp at hx; subst hx; simp [Hs.mkL, Hs.cntL]
    | succ i =>
      simp only [List.getElem?_cons_succ] at hx
      rw [Hs.mkL, List.getElem?_cons_succ, ih _ hx, List.take_succ_cons, Hs.cntL]
      congr 2
      omega
theorem Hs.cntL_mono (h : Hs α) (xs : List α) (i : Nat) : h.cntL (xs.take i) ≤ h.cntL xs := by
  induction xs generalizing i with
  | nil => simp
  | cons y ys ih =>
    cases i with
    | zero => simp [Hs.cntL]
    | succ i => rw [List.take_succ_cons, Hs.cntL, Hs.cntL]; have := ih i; omega
theorem Hs.szL_mono (h : Hs α) (xs : List α) (i : Nat) : h.szL (xs.take i) ≤ h.szL xs := by
  induction xs generalizing i with
  | nil => simp
  | cons y ys ih =>
    cases i with
    | zero => simp [Hs.szL]
    | succ i => rw [List.take_succ_cons, Hs.szL, Hs.szL]; have := ih i; omega
theorem Hs.szL_at (h : Hs α) {xs : List α} {i : Nat} {x : α} (hx : xs[i]? = some x) : h.szL (xs.take i) + h.sz x ≤ h.szL xs := by
  rw [← h.szL_take hx]
  exact h.szL_mono _ _
theorem Hs.cntL_at (h : Hs α) {xs : List α} {i : Nat} {x : α} (hx : xs[i]? = some x) : h.cntL (xs.take i) + h.cnt x ≤ h.cntL xs := by
  rw [← h.cntL_take hx]
  exact h.cntL_mono _ _
end
theorem hI_cntL (xs : List Int) : hI.cntL xs = xs.length := by
  induction xs with
  | nil => rfl
  | cons x xs ih => rw [Hs.cntL, ih, List.length_cons, Nat.add_comm]; rfl
theorem hI_szL (xs : List Int) : hI.szL xs = 0 := by
  induction xs with
  | nil => rfl
  | cons x xs ih => rw [Hs.szL, ih]; rfl
theorem hI_mkL (k : Int) (xs : List Int) : hI.mkL k xs = M.ramp k xs.length := by
  induction xs generalizing k with
  | nil => simp [Hs.mkL, M.ramp]
  | cons x xs ih =>
    rw [Hs.mkL, ih]
    apply List.ext_getElem?
    intro i
    cases i with
    | zero => simp [M.ramp, hI]
    | succ i =>
      rw [List.getElem?_cons_succ]
      simp only [M.ramp, List.getElem?_map, List.length_cons]
      by_cases hi : i < xs.length
      · rw [List.getElem?_range hi, List.getElem?_range (by omega)]
        simp [hI]
        omega
      · rw [List.getElem?_eq_none (by simp; omega), List.getElem?_eq_none (by simp; omega)]
        rfl
end Go.Proofs.YtacgcagpaecncaaGreat
namespace Go.Proofs.YtacgcagpaecncaaGreat
open Go.RowKit
set_option maxHeartbeats 400000
set_option maxRecDepth 100000
theorem OS.oi0 {e : TypeId} {w : World} {F : Nat → Prop} {v : Value} {xs : List Int} (h : OS tI e w F v xs) : OI e 0 w v xs ∧ ∀ g, v.ownBlock = some g → F g := by
  obtain ⟨css, Fs, g1, g2, g3, _, _, g6⟩ := h
  have e0 : css = xs.map fun x : Int => [Value.int .i64 x] := by
    apply List.ext_getElem (by simp [g2])
    intro i hi hi'
    rw [List.getElem_map]
    exact g6 i (by omega) hi
  subst e0
  rw [← List.flatMap_def, flat_ints] at g1
  exact ⟨g1, g3⟩
theorem OS.of_oi0 {e : TypeId} {w : World} {F : Nat → Prop} {v : Value} {xs : List Int} (h : OI e 0 w v xs) (hF : ∀ g, v.ownBlock = some g → F g) : OS tI e w F v xs := by
  refine ⟨xs.map fun x : Int => [Value.int .i64 x], fun _ _ => False, ?_, by simp, hF, fun _ _ h => h.elim, fun _ _ _ _ h => h.elim, fun k hk hk' => ?_⟩
  · rw [← List.flatMap_def, flat_ints]
    exact h
  · show (xs.map _)[k] = _
    rw [List.getElem_map]
/-! []int64 -/
abbrev tS : Ty (List Int) := tI.sl 2
abbrev hS : Hs (List Int) := hI.sl
theorem hS_sz (xs : List Int) : hS.sz xs = xs.length := by show xs.length + hI.szL xs = _; rw [hI_szL]; rfl
theorem hS_cnt (xs : List Int) : hS.cnt xs = xs.length := hI_cntL xs
theorem hS_mark (k : Int) (xs : List Int) : hS.mark k xs = M.ramp k xs.length := hI_mkL k xs
theorem tS_R {w : World} {B : Nat} {A : Option Addr} {n c : Nat} {xs : List Int} : tS.R w B [.slice A n c] xs ↔ RS tI w B (.slice A n c) xs :=
  ⟨fun ⟨v, h, h'⟩ => by injection h with h; rw [h]; exact h', fun h => ⟨_, rfl, h⟩⟩
theorem tS_O {w : World} {F : Nat → Prop} {v : Value} {xs : List Int} : tS.O w F [v] xs ↔ OS tI 2 w F v xs :=
  ⟨fun ⟨v, h, h'⟩ => by injection h with h; rw [h]; exact h', fun h => ⟨_, rfl, h⟩⟩
theorem nf_to_S (A : Option Addr) (n c : Nat) (xs : List Int) (w : World) (hx : tS.R w w.heap.size [.slice A n c] xs) (hn : hS.sz xs ≤ 100000000) :
    Calls Tryz.prog 14 #[.slice A n c] w fun e w' => ∃ A' n' c', e = .returned (.slice A' n' c') ∧ tS.O w' (Iv w.heap.size w'.heap.size) [.slice A' n' c'] xs ∧ Below w.heap.size w w' := by
  have h := tS_R.1 hx
  have hl := h.cap.1
  rw [hS_sz] at hn
  refine (laws_toInt64S A n c xs w h.ri (by omega)).mono ?_
  rintro e w' ⟨v, rfl, own, bel⟩
  obtain ⟨A', c', rfl, _⟩ := own.shape
  exact ⟨_, _, _, rfl, tS_O.2 own.os, bel⟩
theorem nf_eq_S (A A' : Option Addr) (n c n' c' : Nat) (xs : List Int) (w : World) (hx : tS.R w w.heap.size [.slice A n c] xs) (hy : tS.R w w.heap.size [.slice A' n' c'] xs) (hn : hS.sz xs ≤ 100000000) :
    Calls Tryz.prog 16 #[.slice A n c, .slice A' n' c'] w fun e w' => e = .returned (.bool true) ∧ Below w.heap.size w w' := by
  have h := tS_R.1 hx
  have hl := h.cap.1
  rw [hS_sz] at hn
  have := laws_eqInt64S A A' n c n' c' xs xs w h.ri (tS_R.1 hy).ri (by omega)
  rw [decide_eq_true (rfl : xs = xs)] at this
  exact this
theorem nf_mark_S (A : Option Addr) (n c : Nat) (k : Int) (xs : List Int) (w : World) (F : Nat → Prop) (hx : tS.O w F [.slice A n c] xs) (hk : 0 ≤ k ∧ k + (hS.cnt xs : Int) ≤ 1000000000) :
    Calls Tryz.prog 18 #[.slice A n c, .int .i64 k] w fun e w' => e = .returned (.int .i64 (k + hS.cnt xs)) ∧ tS.O w' F [.slice A n c] (hS.mark k xs) ∧ Chg F w w' := by
  obtain ⟨h1, h2⟩ := (tS_O.1 hx).oi0
  rw [hS_cnt] at *
  rw [hS_mark]
  refine (laws_markInt64S _ 0 xs.length k xs w h1 rfl (by omega) (by omega)).mono ?_
  rintro e w' ⟨rfl, own, hg⟩
  exact ⟨rfl, tS_O.2 (OS.of_oi0 own h2), Chg.of_grown hg h2⟩
theorem nf_held_S (A : Option Addr) (n c : Nat) (k : Int) (xs : List Int) (w : World) (hx : tS.R w w.heap.size [.slice A n c] (hS.mark k xs)) (hk : 0 ≤ k ∧ k + (hS.cnt xs : Int) ≤ 1000000000) :
    Calls Tryz.prog 47 #[.slice A n c, .int .i64 k] w fun e w' => e = .returned (.int .i64 (k + hS.cnt xs)) ∧ Below w.heap.size w w' := by
  have h := tS_R.1 hx
  have hl := h.cap.1
  rw [hS_mark] at h hl
  rw [M.ramp_len] at hl
  rw [hS_cnt] at *
  subst hl
  refine (laws_heldInt64S A _ c k w h.ri (by omega) (by omega)).mono ?_
  rintro e w' ⟨rfl, rfl⟩
  exact ⟨rfl, Below.refl _ _⟩
theorem cl_S (x : List Int) : hS.cnt x ≤ 10 * hS.sz x + 10 := by rw [hS_sz, hS_cnt]; omega
theorem tS_len {w : World} {B : Nat} {A : Option Addr} {n c : Nat} {xs : List Int} (h : tS.R w B [.slice A n c] xs) : xs.length = n := (tS_R.1 h).cap.1
end Go.Proofs.YtacgcagpaecncaaGreat
namespace Go.Proofs.YtacgcagpaecncaaGreat
open Go.RowKit
set_option maxHeartbeats 1000000
set_option maxRecDepth 100000
section
variable {α : Type} {t : Ty α} {e : TypeId} {w : World} {B : Nat} {F : Nat → Prop} {v : Value} {xs : List α}
theorem sl_R : (t.sl e).R w B [v] xs ↔ RS t w B v xs := ⟨fun ⟨v, h, h'⟩ => by injection h with h; rw [h]; exact h', fun h => ⟨_, rfl, h⟩⟩
theorem sl_O : (t.sl e).O w F [v] xs ↔ OS t e w F v xs := ⟨fun ⟨v, h, h'⟩ => by injection h with h; rw [h]; exact h', fun h => ⟨_, rfl, h⟩⟩
end
theorem open_S {w : World} {B : Nat} {cs : List Value} {x : List Int} (h : tS.R w B cs x) : ∃ A n c, cs = [.slice A n c] := by
  obtain ⟨v, rfl, hr⟩ := h
  obtain ⟨A, c, rfl⟩ := hr.shape
  exact ⟨_, _, _, rfl⟩
theorem keptB_all {B : Nat} {w w1 w2 : World} (h1 : Below B w1 w2) (hB : B = w1.heap.size) (h0 : Below w.heap.size w w1) : Below w.heap.size w w2 := by
  subst hB
  exact h0.trans (h1.mono h0.size)
theorem keptB {B : Nat} {w w1 w2 : World} {b o : Nat} {u : Value} (h1 : Below B w1 w2) (hB : B = w1.heap.size) (h0 : Below w.heap.size w w1) (h : w.cell? ⟨b, o, none⟩ = some u) (hb : b < w.heap.size) : w2.cell? ⟨b, o, none⟩ = some u := by
  subst hB
  rw [h1.cell (by simpa using Nat.lt_of_lt_of_le hb h0.size), h0.cell (by simpa using hb)]
  exact h
theorem OS.openAt {α : Type} {t : Ty α} {e : TypeId} {w : World} {F : Nat → Prop} {v : Value} {xs : List α} (h : OS t e w F v xs) {k : Nat} {x : α} (hx : xs[k]? = some x) : ∃ css Fs, OH t e w F v xs css Fs k ∧ ∃ cs, css[k]? = some cs ∧ t.O w (Fs k) cs x := by
  obtain ⟨hk, rfl⟩ := List.getElem?_eq_some_iff.1 hx
  exact h.open hk
theorem RS.atX {α : Type} {t : Ty α} {w : World} {B : Nat} {v : Value} {xs : List α} (h : RS t w B v xs) {k : Nat} {x : α} (hx : xs[k]? = some x) : ∃ b o c cs, v = .slice (some ⟨b, o, none⟩) xs.length c ∧ b < B ∧ cs.length = t.s ∧ t.R w B cs x ∧ ∀ j u, cs[j]? = some u → w.cell? ⟨b, o + k * t.s + j, none⟩ = some u := by
  obtain ⟨hk, rfl⟩ := List.getElem?_eq_some_iff.1 hx
  exact h.at hk
theorem nat_le_cast {a b : Nat} (h : a ≤ b) : (a : Int) ≤ (b : Int) := by omega
abbrev tSS : Ty (List (List Int)) := tS.sl 24
abbrev hSS : Hs (List (List Int)) := hS.sl
theorem nf_eq_SS (A A' : Option Addr) (n c n' c' : Nat) (xs : List (List Int)) (w : World) (hx : tSS.R w w.heap.size [.slice A n c] xs) (hy : tSS.R w w.heap.size [.slice A' n' c'] xs) (hn : hSS.sz xs ≤ 100000000) :
    Calls Tryz.prog 31 #[.slice A n c, .slice A' n' c'] w fun e w' => e = .returned (.bool true) ∧ Below w.heap.size w w' := by
  have hr := sl_R.1 hx
  have hr' := sl_R.1 hy
  obtain rfl : xs.length = n := hr.cap.1
  obtain rfl : xs.length = n' := hr'.cap.1
  have hsz : xs.length + hS.szL xs ≤ 100000000 := hn
  clear hx hy hn
  go_enter Tryz.func31, Tryz.ntmps31
  go_wp2
  go_loopw [5] (fun i wr => ∃ k : Nat, i = .int .i64 k ∧ k ≤ xs.length ∧ Below w.heap.size w wr) (fun i _ => xs.length - (intOf i).toNat)
  case atStart => exact ⟨0, rfl, by omega, Below.refl _ _⟩
  case round =>
    obtain ⟨k, rfl, hk, hb⟩ := hrel
    by_cases hlt : k < xs.length
    · obtain ⟨b, o, c1, cs, hv, hab, -, hE, hc⟩ := (hr.below hb).at hlt
      obtain ⟨b', o', c1', cs', hv', hab', -, hE', hc'⟩ := (hr'.below hb).at hlt
      simp only [Value.slice.injEq] at hv hv'
      obtain ⟨rfl, -, rfl⟩ := hv
      obtain ⟨rfl, -, rfl⟩ := hv'
      obtain ⟨A1, n1, c1, rfl⟩ := open_S hE
      obtain ⟨A2, n2, c2, rfl⟩ := open_S hE'
      have hc0 : wr.cell? ⟨b, o + k * 1, none⟩ = some (.slice A1 n1 c1) := hc 0 _ rfl
      have hd0 : wr.cell? ⟨b', o' + k * 1, none⟩ = some (.slice A2 n2 c2) := hc' 0 _ rfl
      have hbr : b < wr.heap.size := Nat.lt_of_lt_of_le hab hb.size
      have hbr' : b' < wr.heap.size := Nat.lt_of_lt_of_le hab' hb.size
      have hs1 : hS.sz xs[k] ≤ 100000000 := by have := hS.szL_at (List.getElem?_eq_getElem hlt); omega
      have hF := tS.later (tS.more hb.size hE) (below_drewN (Below.refl _ _) 1)
      have hF' := tS.later (tS.more hb.size hE') (below_drewN (Below.refl _ _) 1)
      clear hc hc' hE hE'
      rw [Nat.mul_one] at hc0 hd0
      go_wp2
      go_region_held3 (fun w' => Below wr.heap.size wr w' ∧ w'.cell? ⟨b, o + k, none⟩ = some (.slice A1 n1 c1) ∧ w'.cell? ⟨b', o' + k, none⟩ = some (.slice A2 n2 c2))
        (first
          | exact ⟨below_drewN (Below.refl _ _) _, hc0, hd0⟩
          | exact ⟨keptB_all bel2 rfl (And.left (by assumption)), keptB bel2 rfl (And.left (by assumption)) hc0 hbr, keptB bel2 rfl (And.left (by assumption)) hd0 hbr'⟩)
        (first | (go_at_call 16; refine (nf_eq_S _ _ _ _ _ _ _ _ hF hF' hs1).mono ?_; rintro e w2 ⟨rfl, bel2⟩))
      go_wp2
      go_roundw
      case rel => exact ⟨k + 1, by go_num, by omega, hb.trans ((keptB_all bel2 rfl (below_drewN (Below.refl _ _) _)).mono hb.size)⟩
      case measure => simp [intOf]; omega
    · go_wp2
      go_ret
      exact ⟨rfl, hb⟩
theorem nf_mark_SS (A : Option Addr) (n c : Nat) (k : Int) (xs : List (List Int)) (w : World) (F : Nat → Prop) (hx : tSS.O w F [.slice A n c] xs) (hk : 0 ≤ k ∧ k + (hSS.cnt xs : Int) ≤ 1000000000) :
    Calls Tryz.prog 41 #[.slice A n c, .int .i64 k] w fun e w' => e = .returned (.int .i64 (k + hSS.cnt xs)) ∧ tSS.O w' F [.slice A n c] (hSS.mark k xs) ∧ Chg F w w' := by
  have ow := sl_O.1 hx
  have hcap := ow.read.cap
  obtain rfl : xs.length = n := hcap.1
  have hl : xs.length ≤ 9223372036854775807 := by have h1 := hcap.2; unfold maxLen at h1; omega
  clear hcap
  have hcn : k + (hS.cntL xs : Int) ≤ 1000000000 := hk.2
  clear hx
  go_enter Tryz.func41, Tryz.ntmps41
  go_wp2
  go_loopw [1, 5] (fun q i wr => ∃ j : Nat, i = .int .i64 j ∧ j ≤ xs.length ∧ q = .int .i64 (k + (hS.cntL (xs.take j) : Int)) ∧ OS tS 24 wr F (.slice A xs.length c) ((hS.mkL k xs).take j ++ xs.drop j) ∧ Chg F w wr)
    (fun _ i _ => xs.length - (intOf i).toNat)
  case atStart => exact ⟨0, rfl, by omega, by simp [Hs.cntL], by simpa using ow, Chg.refl _ _⟩
  case round =>
    obtain ⟨j, rfl, hj, rfl, own, hg⟩ := hrel
    have hct := hS.cntL_mono xs j
    by_cases hlt : j < xs.length
    · have hml := hS.mkL_len k xs
      have hyj := Lib.hid (show ((hS.mkL k xs).take j ++ xs.drop j)[j]? = some xs[j] by rw [M.mid_at hml]; exact List.getElem?_eq_getElem hlt)
      obtain ⟨css, Fs, hole, cs, hcs, hE⟩ := own.openAt hyj.out
      obtain ⟨A1, n1, c1, rfl⟩ := open_S (tS.read hE)
      obtain ⟨g, rfl, hFg, hFn, hgl, -⟩ := hole.form (List.getElem?_eq_some_iff.1 hyj.out).1
      have hc0 : wr.cell? ⟨g, j * 1 + 0, none⟩ = some (.slice A1 n1 c1) := (hole.cell hcs (j := 0) rfl).1
      rw [Nat.mul_one, Nat.add_zero] at hc0
      have hc1 := hS.cntL_at (List.getElem?_eq_getElem hlt)
      have hmk := Lib.hid (hS.mkL_at k (List.getElem?_eq_getElem hlt))
      have hct2 := Lib.hid (hS.cntL_take (List.getElem?_eq_getElem hlt))
      have hml' := Lib.hid hml
      clear hml
      go_wp2_with (go_at_call 18; refine (nf_mark_S _ _ _ _ _ _ _ hE (by omega)).mono ?_; rintro e w2 ⟨rfl, o2, ch⟩)
      go_roundw
      case rel =>
        have h3 := (hole.chg ch).fill hcs o2
        rw [M.set_mid hml'.out hmk.out] at h3
        exact ⟨j + 1, by go_num, by omega, by rw [hct2.out]; go_num, h3, hg.trans (ch.wide hole.fits)⟩
      case measure => simp [intOf]; omega
    · obtain rfl : xs.length = j := by omega
      go_wp2
      go_ret
      rw [List.take_of_length_le (by rw [Hs.mkL_len]; omega), List.drop_eq_nil_of_le (by omega), List.append_nil] at own
      exact ⟨by rw [List.take_of_length_le (Nat.le_refl _)]; rfl, sl_O.2 own, hg⟩
theorem nf_held_SS (A : Option Addr) (n c : Nat) (k : Int) (xs : List (List Int)) (w : World) (hx : tSS.R w w.heap.size [.slice A n c] (hSS.mark k xs)) (hk : 0 ≤ k ∧ k + (hSS.cnt xs : Int) ≤ 1000000000) :
    Calls Tryz.prog 45 #[.slice A n c, .int .i64 k] w fun e w' => e = .returned (.int .i64 (k + hSS.cnt xs)) ∧ Below w.heap.size w w' := by
  have hr : RS tS w w.heap.size (.slice A n c) (hS.mkL k xs) := sl_R.1 hx
  obtain rfl : xs.length = n := by rw [← hr.cap.1, Hs.mkL_len]
  have hl : xs.length ≤ 9223372036854775807 := by have h1 := hr.cap.2; unfold maxLen at h1; omega
  have hcn : k + (hS.cntL xs : Int) ≤ 1000000000 := hk.2
  have hml := Lib.hid (hS.mkL_len k xs)
  clear hx
  go_enter Tryz.func45, Tryz.ntmps45
  go_wp2
  go_loopw [1, 5] (fun q i wr => ∃ j : Nat, i = .int .i64 j ∧ j ≤ xs.length ∧ q = .int .i64 (k + (hS.cntL (xs.take j) : Int)) ∧ Below w.heap.size w wr) (fun _ i _ => xs.length - (intOf i).toNat)
  case atStart => exact ⟨0, rfl, by omega, by simp [Hs.cntL], Below.refl _ _⟩
  case round =>
    obtain ⟨j, rfl, hj, rfl, hb⟩ := hrel
    have hct := hS.cntL_mono xs j
    by_cases hlt : j < xs.length
    · obtain ⟨b, o, c1, cs, hv, hab, -, hE, hc⟩ := (hr.below hb).at (k := j) (by rw [hml.out]; exact hlt)
      simp only [Value.slice.injEq] at hv
      obtain ⟨rfl, -, rfl⟩ := hv
      obtain ⟨A1, n1, c1, rfl⟩ := open_S hE
      have hc0 : wr.cell? ⟨b, o + j * 1, none⟩ = some (.slice A1 n1 c1) := hc 0 _ rfl
      rw [Nat.mul_one] at hc0
      have hmk := hS.mkL_at k (List.getElem?_eq_getElem hlt)
      rw [List.getElem?_eq_getElem (by rw [hml.out]; exact hlt), Option.some.injEq] at hmk
      rw [hmk] at hE
      have hF := tS.more hb.size hE
      have hc1 := hS.cntL_at (List.getElem?_eq_getElem hlt)
      have hct2 := Lib.hid (hS.cntL_take (List.getElem?_eq_getElem hlt))
      clear hc hE hmk
      go_wp2_with (go_at_call 47; refine (nf_held_S _ _ _ _ _ _ hF (by omega)).mono ?_; rintro e w2 ⟨rfl, bel2⟩)
      go_roundw
      case rel => exact ⟨j + 1, by go_num, by omega, by rw [hct2.out]; go_num, hb.trans (bel2.mono hb.size)⟩
      case measure => simp [intOf]; omega
    · obtain rfl : xs.length = j := by omega
      go_wp2
      go_ret
      exact ⟨by rw [List.take_of_length_le (Nat.le_refl _)]; rfl, hb⟩
end Go.Proofs.YtacgcagpaecncaaGreat
namespace Go.Proofs.YtacgcagpaecncaaGreat
open Go.RowKit
set_option maxHeartbeats 1000000
set_option maxRecDepth 100000
theorem ei_cl : EI Tryz.prog 93 133 (.agg #[.int .i64 0, .int .i64 0, .int .i64 0, .int .i64 0, .int .i64 0]) 5 40 := ⟨Tryz.underlying93, by kernel_rfl, rfl, by decide⟩
def cl (p : (Int × Int × Int × Int × Int)) : List Value := [.int .i64 p.1, .int .i64 p.2.1, .int .i64 p.2.2.1, .int .i64 p.2.2.2.1, .int .i64 p.2.2.2.2]
theorem cl_len (p : (Int × Int × Int × Int × Int)) : (cl p).length = 5 := rfl
abbrev tCl : Ty (Int × Int × Int × Int × Int) := Ty.flat 5 (by decide) (0, 0, 0, 0, 0) cl cl_len (by simp [cl, Value.oneCell'])
abbrev hCl : Hs (Int × Int × Int × Int × Int) := hI.prod (hI.prod (hI.prod (hI.prod hI)))
abbrev tT : Ty (List (Int × Int × Int × Int × Int)) := tCl.sl 133
abbrev hT : Hs (List (Int × Int × Int × Int × Int)) := hCl.sl
theorem hCl_szL (xs : List (Int × Int × Int × Int × Int)) : hCl.szL xs = 0 := by
  induction xs with
  | nil => rfl
  | cons x xs ih => rw [Hs.szL, ih]; rfl
theorem hCl_cntL (xs : List (Int × Int × Int × Int × Int)) : hCl.cntL xs = 5 * xs.length := by
  induction xs with
  | nil => rfl
  | cons x xs ih =>
    rw [Hs.cntL, ih, List.length_cons]
    show (1 + (1 + (1 + (1 + 1)))) + _ = _
    omega
theorem hT_sz (xs : List (Int × Int × Int × Int × Int)) : hT.sz xs = xs.length := by show xs.length + hCl.szL xs = _; rw [hCl_szL]; rfl
theorem hT_cnt (xs : List (Int × Int × Int × Int × Int)) : hT.cnt xs = 5 * xs.length := hCl_cntL xs
theorem cl_T (x : List (Int × Int × Int × Int × Int)) : hT.cnt x ≤ 10 * hT.sz x + 10 := by rw [hT_sz, hT_cnt]; omega
theorem mark_cl (k : Int) (x : (Int × Int × Int × Int × Int)) : hCl.mark k x = (k, k + 1, k + 2, k + 3, k + 4) := by
  simp [Hs.prod, hI]
  try omega
theorem laws_toClip (p0 p1 p2 p3 p4 : Int) (w : World) :
    Calls Tryz.prog 126 #[.agg #[.int .i64 p0, .int .i64 p1, .int .i64 p2, .int .i64 p3, .int .i64 p4]] w fun e w' => e = .returned (.agg #[.int .i64 p0, .int .i64 p1, .int .i64 p2, .int .i64 p3, .int .i64 p4]) ∧ Below w.heap.size w w' := by
  go_enter Tryz.func126, Tryz.ntmps126
  go_wp2
  exact bodyPost_ret (v := .agg #[.int .i64 p0, .int .i64 p1, .int .i64 p2, .int .i64 p3, .int .i64 p4]) (by simp [results, Tryz.results126, go_sem]) rfl ⟨rfl, (((Below.refl _ _).alloc (Nat.le_refl _) _).alloc (by simp) _).alloc (by simp; omega) _⟩
theorem nf_eq_Clip (p0 p1 p2 p3 p4 : Int) (w : World) :
    Calls Tryz.prog 136 #[.agg #[.int .i64 p0, .int .i64 p1, .int .i64 p2, .int .i64 p3, .int .i64 p4], .agg #[.int .i64 p0, .int .i64 p1, .int .i64 p2, .int .i64 p3, .int .i64 p4]] w fun e w' => e = .returned (.bool true) ∧ Below w.heap.size w w' := by
  go_enter Tryz.func136, Tryz.ntmps136
  go_wp2
  go_ret
  exact ⟨rfl, ((Below.refl _ _).alloc (Nat.le_refl _) _).alloc (by simp) _⟩
theorem nf_to_T_ (A : Option Addr) (n c : Nat) (xs : List (Int × Int × Int × Int × Int)) (w : World) (hx : tT.R w w.heap.size [.slice A n c] xs) (hn : hT.sz xs ≤ 100000000) :
    Calls Tryz.prog 96 #[.slice A n c] w fun e w' => ∃ A' n' c', e = .returned (.slice A' n' c') ∧ tT.O w' (Iv w.heap.size w'.heap.size) [.slice A' n' c'] xs ∧ Below w.heap.size w w' := by
  have hr := sl_R.1 hx
  obtain rfl : xs.length = n := hr.cap.1
  rw [hT_sz] at hn
  clear hx
  go_enter Tryz.func96, Tryz.ntmps96
  go_wp2_with (at_make; refine wpList_mk ei_cl rfl _ _ rfl xs.length _ _ rfl rfl rfl rfl (by omega) (by unfold maxLen; omega) ?_; intro w1 own1 bel1)
  have hs1 : w.heap.size + 1 ≤ w1.heap.size := (World.ownsRow.lt own1 _ rfl).2
  have own2 : OS tCl 133 w1 (Iv w.heap.size (w.heap.size + 1)) (.slice (some ⟨w.heap.size, 0, none⟩) xs.length xs.length) (List.replicate xs.length (0, 0, 0, 0, 0)) :=
    OS.made (zc := [.int .i64 0, .int .i64 0, .int .i64 0, .int .i64 0, .int .i64 0]) (fun _ _ => rfl) rfl ⟨Nat.le_refl _, by omega⟩ own1
  clear own1
  go_loopw [4] (fun i wr => ∃ k : Nat, i = .int .i64 k ∧ k ≤ xs.length ∧ OS tCl 133 wr (Iv w.heap.size (w.heap.size + 1)) (.slice (some ⟨w.heap.size, 0, none⟩) xs.length xs.length) (xs.take k ++ (List.replicate xs.length (0, 0, 0, 0, 0)).drop k) ∧ w.heap.size + 1 ≤ wr.heap.size ∧ Below w.heap.size w wr)
    (fun i _ => xs.length - (intOf i).toNat)
  case atStart => exact ⟨0, rfl, by omega, by simpa using own2, hs1, bel1⟩
  case round =>
    obtain ⟨k, rfl, hk, own, hsz, hb⟩ := hrel
    by_cases hlt : k < xs.length
    · have hX := Lib.hid (List.getElem?_eq_getElem hlt)
      obtain ⟨b, o, c1, cs, hv, hab, -, hE, hc⟩ := (hr.below hb).atX hX.out
      simp only [Value.slice.injEq] at hv
      obtain ⟨rfl, -, rfl⟩ := hv
      generalize xs[k] = x at hX hE
      obtain ⟨p0, p1, p2, p3, p4⟩ := x
      obtain rfl : cs = [.int .i64 p0, .int .i64 p1, .int .i64 p2, .int .i64 p3, .int .i64 p4] := hE
      have hc0 : wr.cell? ⟨b, o + k * 5, none⟩ = some (.int .i64 p0) := hc 0 _ rfl
      have hc1 : wr.cell? ⟨b, o + k * 5 + 1, none⟩ = some (.int .i64 p1) := hc 1 _ rfl
      have hc2 : wr.cell? ⟨b, o + k * 5 + 2, none⟩ = some (.int .i64 p2) := hc 2 _ rfl
      have hc3 : wr.cell? ⟨b, o + k * 5 + 3, none⟩ = some (.int .i64 p3) := hc 3 _ rfl
      have hc4 : wr.cell? ⟨b, o + k * 5 + 4, none⟩ = some (.int .i64 p4) := hc 4 _ rfl
      have hD := Lib.hid (show (xs.take k ++ (List.replicate xs.length ((0, 0, 0, 0, 0) : (Int × Int × Int × Int × Int))).drop k)[k]? = some (0, 0, 0, 0, 0) by rw [M.mid_at (by rw [List.length_replicate])]; simp [hlt])
      clear hc
      go_wp2_with (go_at_call 126; refine (laws_toClip _ _ _ _ _ _).mono ?_; rintro e w2 ⟨rfl, bel2⟩; have own' := own.below bel2 hsz; obtain ⟨css, Fs, hole, cs, hcs, hE⟩ := own'.openAt hD.out; obtain rfl : cs = [.int .i64 0, .int .i64 0, .int .i64 0, .int .i64 0, .int .i64 0] := hE; have q0 : w2.cell? ⟨w.heap.size, k * 5, none⟩ = some (.int .i64 0) := (hole.cell hcs (j := 0) rfl).1; have r0 : w2.frozen? ⟨w.heap.size, k * 5, none⟩ = false := (hole.cell hcs (j := 0) rfl).2; have q1 : w2.cell? ⟨w.heap.size, k * 5 + 1, none⟩ = some (.int .i64 0) := (hole.cell hcs (j := 1) rfl).1; have r1 : w2.frozen? ⟨w.heap.size, k * 5 + 1, none⟩ = false := (hole.cell hcs (j := 1) rfl).2; have q2 : w2.cell? ⟨w.heap.size, k * 5 + 2, none⟩ = some (.int .i64 0) := (hole.cell hcs (j := 2) rfl).1; have r2 : w2.frozen? ⟨w.heap.size, k * 5 + 2, none⟩ = false := (hole.cell hcs (j := 2) rfl).2; have q3 : w2.cell? ⟨w.heap.size, k * 5 + 3, none⟩ = some (.int .i64 0) := (hole.cell hcs (j := 3) rfl).1; have r3 : w2.frozen? ⟨w.heap.size, k * 5 + 3, none⟩ = false := (hole.cell hcs (j := 3) rfl).2; have q4 : w2.cell? ⟨w.heap.size, k * 5 + 4, none⟩ = some (.int .i64 0) := (hole.cell hcs (j := 4) rfl).1; have r4 : w2.frozen? ⟨w.heap.size, k * 5 + 4, none⟩ = false := (hole.cell hcs (j := 4) rfl).2)
      go_roundw
      case rel =>
        have s0 := hole.set hcs 0 (by decide) (.int .i64 p0)
        have s1 := s0.1.set s0.2 1 (by decide) (.int .i64 p1)
        have s2 := s1.1.set s1.2 2 (by decide) (.int .i64 p2)
        have s3 := s2.1.set s2.2 3 (by decide) (.int .i64 p3)
        have s4 := s3.1.set s3.2 4 (by decide) (.int .i64 p4)
        have h3 := s4.1.fill s4.2 (y := (p0, p1, p2, p3, p4)) rfl
        rw [M.set_mid (by rw [List.length_replicate]) hX.out] at h3
        have hb2 := hb.trans (bel2.mono hb.size)
        exact ⟨k + 1, by go_num, by omega, h3, by simpa using Nat.le_trans hsz bel2.size, ((((hb2.setCell (Nat.le_refl _) _).setCell (Nat.le_refl _) _).setCell (Nat.le_refl _) _).setCell (Nat.le_refl _) _).setCell (Nat.le_refl _) _⟩
      case measure => simp [intOf]; omega
    · go_wp2
      go_ret
      rw [List.take_of_length_le (by omega), List.drop_eq_nil_of_le (by simp; omega), List.append_nil] at own
      exact ⟨_, _, _, rfl, sl_O.2 (own.iv (Nat.le_refl _) hsz), hb⟩
theorem nf_eq_T_ (A A' : Option Addr) (n c n' c' : Nat) (xs : List (Int × Int × Int × Int × Int)) (w : World) (hx : tT.R w w.heap.size [.slice A n c] xs) (hy : tT.R w w.heap.size [.slice A' n' c'] xs) (hn : hT.sz xs ≤ 100000000) :
    Calls Tryz.prog 107 #[.slice A n c, .slice A' n' c'] w fun e w' => e = .returned (.bool true) ∧ Below w.heap.size w w' := by
  have hr := sl_R.1 hx
  have hr' := sl_R.1 hy
  obtain rfl : xs.length = n := hr.cap.1
  obtain rfl : xs.length = n' := hr'.cap.1
  rw [hT_sz] at hn
  clear hx hy
  go_enter Tryz.func107, Tryz.ntmps107
  go_wp2
  go_loopw [5] (fun i wr => ∃ k : Nat, i = .int .i64 k ∧ k ≤ xs.length ∧ Below w.heap.size w wr) (fun i _ => xs.length - (intOf i).toNat)
  case atStart => exact ⟨0, rfl, by omega, Below.refl _ _⟩
  case round =>
    obtain ⟨k, rfl, hk, hb⟩ := hrel
    by_cases hlt : k < xs.length
    · have hX := Lib.hid (List.getElem?_eq_getElem hlt)
      obtain ⟨b, o, c1, cs, hv, hab, -, hE, hc⟩ := (hr.below hb).atX hX.out
      obtain ⟨b', o', c1', cs', hv', hab', -, hE', hc'⟩ := (hr'.below hb).atX hX.out
      simp only [Value.slice.injEq] at hv hv'
      obtain ⟨rfl, -, rfl⟩ := hv
      obtain ⟨rfl, -, rfl⟩ := hv'
      generalize xs[k] = x at hX hE hE'
      obtain ⟨p0, p1, p2, p3, p4⟩ := x
      obtain rfl : cs = [.int .i64 p0, .int .i64 p1, .int .i64 p2, .int .i64 p3, .int .i64 p4] := hE
      obtain rfl : cs' = [.int .i64 p0, .int .i64 p1, .int .i64 p2, .int .i64 p3, .int .i64 p4] := hE'
      have hc0 : wr.cell? ⟨b, o + k * 5, none⟩ = some (.int .i64 p0) := hc 0 _ rfl
      have hc1 : wr.cell? ⟨b, o + k * 5 + 1, none⟩ = some (.int .i64 p1) := hc 1 _ rfl
      have hc2 : wr.cell? ⟨b, o + k * 5 + 2, none⟩ = some (.int .i64 p2) := hc 2 _ rfl
      have hc3 : wr.cell? ⟨b, o + k * 5 + 3, none⟩ = some (.int .i64 p3) := hc 3 _ rfl
      have hc4 : wr.cell? ⟨b, o + k * 5 + 4, none⟩ = some (.int .i64 p4) := hc 4 _ rfl
      have hd0 : wr.cell? ⟨b', o' + k * 5, none⟩ = some (.int .i64 p0) := hc' 0 _ rfl
      have hd1 : wr.cell? ⟨b', o' + k * 5 + 1, none⟩ = some (.int .i64 p1) := hc' 1 _ rfl
      have hd2 : wr.cell? ⟨b', o' + k * 5 + 2, none⟩ = some (.int .i64 p2) := hc' 2 _ rfl
      have hd3 : wr.cell? ⟨b', o' + k * 5 + 3, none⟩ = some (.int .i64 p3) := hc' 3 _ rfl
      have hd4 : wr.cell? ⟨b', o' + k * 5 + 4, none⟩ = some (.int .i64 p4) := hc' 4 _ rfl
      have hbr : b < wr.heap.size := Nat.lt_of_lt_of_le hab hb.size
      have hbr' : b' < wr.heap.size := Nat.lt_of_lt_of_le hab' hb.size
      clear hc hc'
      go_wp2
      go_region_held3 (fun w' => Below wr.heap.size wr w' ∧ w'.cell? ⟨b, o + k * 5, none⟩ = some (.int .i64 p0) ∧ w'.cell? ⟨b, o + k * 5 + 1, none⟩ = some (.int .i64 p1) ∧ w'.cell? ⟨b, o + k * 5 + 2, none⟩ = some (.int .i64 p2) ∧ w'.cell? ⟨b, o + k * 5 + 3, none⟩ = some (.int .i64 p3) ∧ w'.cell? ⟨b, o + k * 5 + 4, none⟩ = some (.int .i64 p4) ∧ w'.cell? ⟨b', o' + k * 5, none⟩ = some (.int .i64 p0) ∧ w'.cell? ⟨b', o' + k * 5 + 1, none⟩ = some (.int .i64 p1) ∧ w'.cell? ⟨b', o' + k * 5 + 2, none⟩ = some (.int .i64 p2) ∧ w'.cell? ⟨b', o' + k * 5 + 3, none⟩ = some (.int .i64 p3) ∧ w'.cell? ⟨b', o' + k * 5 + 4, none⟩ = some (.int .i64 p4))
        (first
          | exact ⟨below_drewN (Below.refl _ _) _, hc0, hc1, hc2, hc3, hc4, hd0, hd1, hd2, hd3, hd4⟩
          | exact ⟨keptB_all bel2 rfl (And.left (by assumption)), keptB bel2 rfl (And.left (by assumption)) hc0 hbr, keptB bel2 rfl (And.left (by assumption)) hc1 hbr, keptB bel2 rfl (And.left (by assumption)) hc2 hbr, keptB bel2 rfl (And.left (by assumption)) hc3 hbr, keptB bel2 rfl (And.left (by assumption)) hc4 hbr, keptB bel2 rfl (And.left (by assumption)) hd0 hbr', keptB bel2 rfl (And.left (by assumption)) hd1 hbr', keptB bel2 rfl (And.left (by assumption)) hd2 hbr', keptB bel2 rfl (And.left (by assumption)) hd3 hbr', keptB bel2 rfl (And.left (by assumption)) hd4 hbr'⟩)
        (first | (go_at_call 136; refine (nf_eq_Clip _ _ _ _ _ _).mono ?_; rintro e w2 ⟨rfl, bel2⟩))
      go_wp2
      go_roundw
      case rel => exact ⟨k + 1, by go_num, by omega, hb.trans ((keptB_all bel2 rfl (below_drewN (Below.refl _ _) _)).mono hb.size)⟩
      case measure => simp [intOf]; omega
    · go_wp2
      go_ret
      exact ⟨rfl, hb⟩
theorem nf_mark_T_ (A : Option Addr) (n c : Nat) (k : Int) (xs : List (Int × Int × Int × Int × Int)) (w : World) (F : Nat → Prop) (hx : tT.O w F [.slice A n c] xs) (hk : 0 ≤ k ∧ k + (hT.cnt xs : Int) ≤ 1000000000) :
    Calls Tryz.prog 82 #[.slice A n c, .int .i64 k] w fun e w' => e = .returned (.int .i64 (k + hT.cnt xs)) ∧ tT.O w' F [.slice A n c] (hT.mark k xs) ∧ Chg F w w' := by
  have ow := sl_O.1 hx
  obtain rfl : xs.length = n := ow.read.cap.1
  rw [hT_cnt] at *
  clear hx
  go_enter Tryz.func82, Tryz.ntmps82
  go_wp2
  go_loopw [1, 5] (fun q i wr => ∃ j : Nat, i = .int .i64 j ∧ j ≤ xs.length ∧ q = .int .i64 (k + 5 * (j : Int)) ∧ OS tCl 133 wr F (.slice A xs.length c) ((hCl.mkL k xs).take j ++ xs.drop j) ∧ Chg F w wr)
    (fun _ i _ => xs.length - (intOf i).toNat)
  case atStart => exact ⟨0, rfl, by omega, by go_num, by simpa using ow, Chg.refl _ _⟩
  case round =>
    obtain ⟨j, rfl, hj, rfl, own, hg⟩ := hrel
    by_cases hlt : j < xs.length
    · have hml := Lib.hid (hCl.mkL_len k xs)
      have hX := Lib.hid (List.getElem?_eq_getElem hlt)
      generalize xs[j] = x at hX
      obtain ⟨p0, p1, p2, p3, p4⟩ := x
      have hyj := Lib.hid (show ((hCl.mkL k xs).take j ++ xs.drop j)[j]? = some (p0, p1, p2, p3, p4) by rw [M.mid_at hml.out]; exact hX.out)
      obtain ⟨css, Fs, hole, cs, hcs, hE⟩ := own.openAt hyj.out
      obtain rfl : cs = [.int .i64 p0, .int .i64 p1, .int .i64 p2, .int .i64 p3, .int .i64 p4] := hE
      obtain ⟨g, rfl, hFg, hFn, hgl, -⟩ := hole.form (List.getElem?_eq_some_iff.1 hyj.out).1
      have hmk := Lib.hid (show (hCl.mkL k xs)[j]? = some (k + 5 * (j : Int), k + 5 * (j : Int) + 1, k + 5 * (j : Int) + 1 + 1, k + 5 * (j : Int) + 1 + 1 + 1, k + 5 * (j : Int) + 1 + 1 + 1 + 1) by rw [hCl.mkL_at k hX.out, mark_cl, hCl_cntL, List.length_take, Nat.min_eq_left hj]; simp only [Option.some.injEq, Prod.mk.injEq]; omega)
      have q0 : wr.cell? ⟨g, j * 5, none⟩ = some (.int .i64 p0) := (hole.cell hcs (j := 0) rfl).1
      have r0 : wr.frozen? ⟨g, j * 5, none⟩ = false := (hole.cell hcs (j := 0) rfl).2
      have q1 : wr.cell? ⟨g, j * 5 + 1, none⟩ = some (.int .i64 p1) := (hole.cell hcs (j := 1) rfl).1
      have r1 : wr.frozen? ⟨g, j * 5 + 1, none⟩ = false := (hole.cell hcs (j := 1) rfl).2
      have q2 : wr.cell? ⟨g, j * 5 + 2, none⟩ = some (.int .i64 p2) := (hole.cell hcs (j := 2) rfl).1
      have r2 : wr.frozen? ⟨g, j * 5 + 2, none⟩ = false := (hole.cell hcs (j := 2) rfl).2
      have q3 : wr.cell? ⟨g, j * 5 + 3, none⟩ = some (.int .i64 p3) := (hole.cell hcs (j := 3) rfl).1
      have r3 : wr.frozen? ⟨g, j * 5 + 3, none⟩ = false := (hole.cell hcs (j := 3) rfl).2
      have q4 : wr.cell? ⟨g, j * 5 + 4, none⟩ = some (.int .i64 p4) := (hole.cell hcs (j := 4) rfl).1
      have r4 : wr.frozen? ⟨g, j * 5 + 4, none⟩ = false := (hole.cell hcs (j := 4) rfl).2
      go_wp2
      go_roundw
      case rel =>
        have s0 := hole.set hcs 0 (by decide) (.int .i64 (k + 5 * (j : Int)))
        have c0 := hg.trans (Chg.set wr g (j * 5 + 0) (.int .i64 (k + 5 * (j : Int))) hFg)
        have s1 := s0.1.set s0.2 1 (by decide) (.int .i64 (k + 5 * (j : Int) + 1))
        have c1 := c0.trans (Chg.set _ g (j * 5 + 1) (.int .i64 (k + 5 * (j : Int) + 1)) hFg)
        have s2 := s1.1.set s1.2 2 (by decide) (.int .i64 (k + 5 * (j : Int) + 1 + 1))
        have c2 := c1.trans (Chg.set _ g (j * 5 + 2) (.int .i64 (k + 5 * (j : Int) + 1 + 1)) hFg)
        have s3 := s2.1.set s2.2 3 (by decide) (.int .i64 (k + 5 * (j : Int) + 1 + 1 + 1))
        have c3 := c2.trans (Chg.set _ g (j * 5 + 3) (.int .i64 (k + 5 * (j : Int) + 1 + 1 + 1)) hFg)
        have s4 := s3.1.set s3.2 4 (by decide) (.int .i64 (k + 5 * (j : Int) + 1 + 1 + 1 + 1))
        have c4 := c3.trans (Chg.set _ g (j * 5 + 4) (.int .i64 (k + 5 * (j : Int) + 1 + 1 + 1 + 1)) hFg)
        have h3 := s4.1.fill s4.2 (y := (k + 5 * (j : Int), k + 5 * (j : Int) + 1, k + 5 * (j : Int) + 1 + 1, k + 5 * (j : Int) + 1 + 1 + 1, k + 5 * (j : Int) + 1 + 1 + 1 + 1)) rfl
        rw [M.set_mid hml.out hmk.out] at h3
        exact ⟨j + 1, by go_num, by omega, by go_num, h3, c4⟩
      case measure => simp [intOf]; omega
    · obtain rfl : xs.length = j := by omega
      go_wp2
      go_ret
      rw [List.take_of_length_le (by rw [Hs.mkL_len]; omega), List.drop_eq_nil_of_le (by omega), List.append_nil] at own
      exact ⟨by go_num, sl_O.2 own, hg⟩
theorem nf_held_T_ (A : Option Addr) (n c : Nat) (k : Int) (xs : List (Int × Int × Int × Int × Int)) (w : World) (hx : tT.R w w.heap.size [.slice A n c] (hT.mark k xs)) (hk : 0 ≤ k ∧ k + (hT.cnt xs : Int) ≤ 1000000000) :
    Calls Tryz.prog 85 #[.slice A n c, .int .i64 k] w fun e w' => e = .returned (.int .i64 (k + hT.cnt xs)) ∧ Below w.heap.size w w' := by
  have hr : RS tCl w w.heap.size (.slice A n c) (hCl.mkL k xs) := sl_R.1 hx
  obtain rfl : xs.length = n := by rw [← hr.cap.1, Hs.mkL_len]
  have hml := Lib.hid (hCl.mkL_len k xs)
  rw [hT_cnt] at *
  clear hx
  go_enter Tryz.func85, Tryz.ntmps85
  go_wp2
  go_loop [1, 5] (fun q i => ∃ j : Nat, i = .int .i64 j ∧ j ≤ xs.length ∧ q = .int .i64 (k + 5 * (j : Int))) (fun _ i => xs.length - (intOf i).toNat)
  case atStart => exact ⟨0, rfl, by omega, by go_num⟩
  case round =>
    obtain ⟨j, rfl, hj, rfl⟩ := hrel
    by_cases hlt : j < xs.length
    · have hX := Lib.hid (List.getElem?_eq_getElem hlt)
      generalize xs[j] = x at hX
      have hmk := Lib.hid (show (hCl.mkL k xs)[j]? = some (k + 5 * (j : Int), k + 5 * (j : Int) + 1, k + 5 * (j : Int) + 1 + 1, k + 5 * (j : Int) + 1 + 1 + 1, k + 5 * (j : Int) + 1 + 1 + 1 + 1) by rw [hCl.mkL_at k hX.out, mark_cl, hCl_cntL, List.length_take, Nat.min_eq_left hj]; simp only [Option.some.injEq, Prod.mk.injEq]; omega)
      obtain ⟨b, o, c1, cs, hv, hab, -, hE, hc⟩ := hr.atX hmk.out
      simp only [Value.slice.injEq] at hv
      obtain ⟨rfl, -, rfl⟩ := hv
      obtain rfl : cs = [.int .i64 (k + 5 * (j : Int)), .int .i64 (k + 5 * (j : Int) + 1), .int .i64 (k + 5 * (j : Int) + 1 + 1), .int .i64 (k + 5 * (j : Int) + 1 + 1 + 1), .int .i64 (k + 5 * (j : Int) + 1 + 1 + 1 + 1)] := hE
      have hc0 : w.cell? ⟨b, o + j * 5, none⟩ = some (.int .i64 (k + 5 * (j : Int))) := hc 0 _ rfl
      have hc1 : w.cell? ⟨b, o + j * 5 + 1, none⟩ = some (.int .i64 (k + 5 * (j : Int) + 1)) := hc 1 _ rfl
      have hc2 : w.cell? ⟨b, o + j * 5 + 2, none⟩ = some (.int .i64 (k + 5 * (j : Int) + 1 + 1)) := hc 2 _ rfl
      have hc3 : w.cell? ⟨b, o + j * 5 + 3, none⟩ = some (.int .i64 (k + 5 * (j : Int) + 1 + 1 + 1)) := hc 3 _ rfl
      have hc4 : w.cell? ⟨b, o + j * 5 + 4, none⟩ = some (.int .i64 (k + 5 * (j : Int) + 1 + 1 + 1 + 1)) := hc 4 _ rfl
      clear hc
      go_wp2
      go_round
      case rel => exact ⟨j + 1, by go_num, by omega, by go_num⟩
      case measure => simp [intOf]; omega
    · obtain rfl : xs.length = j := by omega
      go_wp2
      go_ret
      exact ⟨by go_num, Below.refl _ _⟩
theorem nf_sz_T_ (A : Option Addr) (n c : Nat) (xs : List (Int × Int × Int × Int × Int)) (l : Int) (w : World) (hx : tT.R w w.heap.size [.slice A n c] xs) (hl : 0 ≤ l ∧ l ≤ 1000000000) :
    Calls Tryz.prog 88 #[.slice A n c, .int .i64 l] w fun e w' => e = .returned (.int .i64 (if (hT.sz xs : Int) ≤ l then l - hT.sz xs else -1)) ∧ Below w.heap.size w w' := by
  obtain ⟨h1, h2, h3⟩ := (sl_R.1 hx).cap
  have hn : n ≤ 9223372036854775807 := by unfold maxLen at h3; omega
  rw [hT_sz, h1]
  clear h1 h2 h3 hx
  by_cases h : (n : Int) ≤ l
  all_goals
    go_enter Tryz.func88, Tryz.ntmps88
    go_wp2
    go_ret
    exact ⟨rfl, Below.refl _ _⟩
theorem nf_sz_T (A : Option Addr) (n c : Nat) (xs : List (Int × Int × Int × Int × Int)) (l : Int) (w : World) (hx : tT.R w w.heap.size [.slice A n c] xs) (hl : 0 ≤ l ∧ l ≤ 1000000000) :
    Calls Tryz.prog 50 #[.agg #[.slice A n c], .int .i64 l] w fun e w' => e = .returned (.int .i64 (if (hT.sz xs : Int) ≤ l then l - hT.sz xs else -1)) ∧ Below w.heap.size w w' := by
  have hb : Below w.heap.size w (w.alloc (.cells #[.slice A n c] 82)) := (Below.refl _ _).alloc (Nat.le_refl _) _
  have hx2 := tT.later hx hb
  by_cases h : (hT.sz xs : Int) ≤ l
  · have hi := Lib.hid (show (if (hT.sz xs : Int) ≤ l then l - hT.sz xs else -1) = l - hT.sz xs by rw [if_pos h])
    go_enter Tryz.func50, Tryz.ntmps50
    go_wp2_with (go_at_call 88; refine (nf_sz_T_ _ _ _ _ _ _ hx2 hl).mono ?_; rw [hi.out]; rintro e w2 ⟨rfl, bel2⟩)
    go_ret
    exact ⟨hi.out ▸ rfl, hb.trans (bel2.mono hb.size)⟩
  · have hi := Lib.hid (show (if (hT.sz xs : Int) ≤ l then l - hT.sz xs else -1) = -1 by rw [if_neg h])
    go_enter Tryz.func50, Tryz.ntmps50
    go_wp2_with (go_at_call 88; refine (nf_sz_T_ _ _ _ _ _ _ hx2 hl).mono ?_; rw [hi.out]; rintro e w2 ⟨rfl, bel2⟩)
    go_ret
    exact ⟨hi.out ▸ rfl, hb.trans (bel2.mono hb.size)⟩
theorem nf_to_T (A : Option Addr) (n c : Nat) (xs : List (Int × Int × Int × Int × Int)) (w : World) (hx : tT.R w w.heap.size [.slice A n c] xs) (hn : hT.sz xs ≤ 100000000) :
    Calls Tryz.prog 58 #[.agg #[.slice A n c]] w fun e w' => ∃ A' n' c', e = .returned (.agg #[.slice A' n' c']) ∧ tT.O w' (Iv w.heap.size w'.heap.size) [.slice A' n' c'] xs ∧ Below w.heap.size w w' := by
  have hb : Below w.heap.size w (((w.alloc (.cells #[.slice A n c] 82)).alloc (.cells #[.slice none 0 0] 95)).alloc (.cells #[.slice none 0 0] 95)) := (((Below.refl _ _).alloc (Nat.le_refl _) _).alloc (by simp) _).alloc (by simp; omega) _
  have hx2 := tT.later hx hb
  go_enter Tryz.func58, Tryz.ntmps58
  go_wp2_with (go_at_call 96; refine (nf_to_T_ _ _ _ _ _ hx2 hn).mono ?_; rintro e w2 ⟨A2, n2, c2, rfl, own2, bel2⟩; have q1 : w2.cell? ⟨w.heap.size + 1, 0, none⟩ = some (.slice none 0 0) := (by rw [bel2.cell (by first | omega | (simp; done) | (simp; omega))]; simp [go_sem]); have r1 : w2.frozen? ⟨w.heap.size + 1, 0, none⟩ = false := (by rw [bel2.frozen (by first | omega | (simp; done) | (simp; omega))]; simp [go_sem]); have q2 : w2.cell? ⟨w.heap.size + 1 + 1, 0, none⟩ = some (.slice none 0 0) := (by rw [bel2.cell (by simp)]; simp [go_sem]); have r2 : w2.frozen? ⟨w.heap.size + 1 + 1, 0, none⟩ = false := (by rw [bel2.frozen (by simp)]; simp [go_sem]); have hs : w.heap.size + 1 + 1 + 1 ≤ w2.heap.size := (by have := bel2.size; simpa using this))
  have m1 : Mid (w.heap.size + 1) (w.heap.size + 1 + 1 + 1) w2 ((w2.setCell ⟨w.heap.size + 1 + 1, 0, none⟩ (Value.slice A2 n2 c2)).setCell ⟨w.heap.size + 1, 0, none⟩ (Value.slice A2 n2 c2)) :=
    (Mid.of_grown (grown_setCell w2 (w.heap.size + 1 + 1) 0 _) fun k hk => by injection hk with hk; omega).trans (Mid.of_grown (grown_setCell _ (w.heap.size + 1) 0 _) fun k hk => by injection hk with hk; omega)
  refine bodyPost_ret (v := .agg #[.slice A2 n2 c2]) (by simp [results, Tryz.results58, go_sem, q1, r1, q2, r2]) rfl ?_
  refine ⟨_, _, _, rfl, ?_, ?_⟩
  · exact tT.oiv (tT.omid own2 m1 (.inr (by simp)) (Nat.le_refl _)) (by simp; omega) m1.size
  · exact (hb.trans (bel2.mono hb.size)).trans ((m1.toBelow (by omega)).mono (by omega))
theorem nf_eq_T (A A' : Option Addr) (n c n' c' : Nat) (xs : List (Int × Int × Int × Int × Int)) (w : World) (hx : tT.R w w.heap.size [.slice A n c] xs) (hy : tT.R w w.heap.size [.slice A' n' c'] xs) (hn : hT.sz xs ≤ 100000000) :
    Calls Tryz.prog 71 #[.agg #[.slice A n c], .agg #[.slice A' n' c']] w fun e w' => e = .returned (.bool true) ∧ Below w.heap.size w w' := by
  have hb : Below w.heap.size w ((w.alloc (.cells #[.slice A n c] 95)).alloc (.cells #[.slice A' n' c'] 95)) := ((Below.refl _ _).alloc (Nat.le_refl _) _).alloc (by simp) _
  have hx2 := tT.later hx hb
  have hy2 := tT.later hy hb
  go_enter Tryz.func71, Tryz.ntmps71
  go_wp2_with (go_at_call 107; refine (nf_eq_T_ _ _ _ _ _ _ _ _ hx2 hy2 hn).mono ?_; rintro e w2 ⟨rfl, bel2⟩)
  go_ret
  exact ⟨rfl, hb.trans (bel2.mono hb.size)⟩
end Go.Proofs.YtacgcagpaecncaaGreat
namespace Go.Proofs.YtacgcagpaecncaaGreat
open Go.RowKit
set_option maxHeartbeats 400000
set_option maxRecDepth 100000
def pt (p : Int × Int) : List Value := [.int .i64 p.1, .int .i64 p.2]
theorem pt_len (p : Int × Int) : (pt p).length = 2 := rfl
def rampP (k : Int) (n : Nat) : List (Int × Int) := (List.range n).map fun (i : Nat) => (k + 2 * (i : Int), k + 2 * (i : Int) + 1)
theorem rampP_len (k : Int) (n : Nat) : (rampP k n).length = n := by simp [rampP]
theorem rampP_at {k : Int} {n j : Nat} (h : j < n) : (rampP k n)[j]? = some (k + 2 * (j : Int), k + 2 * (j : Int) + 1) := by simp [rampP, h]
theorem ret_agg2 {a b a' b' : Int} (h : a = a') (h' : b = b') : Ending.returned (.agg #[.int .i64 a, .int .i64 b]) = .returned (.agg #[.int .i64 a', .int .i64 b']) := by rw [h, h']
theorem lay_cell (w : World) (u : Value) (e : TypeId) : (w.alloc (.cells #[u] e)).cell? ⟨w.heap.size, 0, none⟩ = some u := by
  rw [cell_of_row _ w.heap.size 0 #[u] e (0, 0) (heap_alloc_new w _)]
  rfl
theorem lay_frozen (w : World) (u : Value) (e : TypeId) : (w.alloc (.cells #[u] e)).frozen? ⟨w.heap.size, 0, none⟩ = false := World.frozen?_alloc_new w _ e 0
theorem Mid.cell (w : World) (b o : Nat) (u : Value) : Mid b (b + 1) w (w.setCell ⟨b, o, none⟩ u) :=
  Mid.of_grown (grown_setCell w b o u) fun k hk => by
    injection hk with hk
    omega
/-- Of three fresh cells the middle and the last one, after a call. -/
theorem three_cells {w w2 : World} {u1 u2 u3 : Value} {e1 e2 e3 : TypeId} (hb : Below (((w.alloc (.cells #[u1] e1)).alloc (.cells #[u2] e2)).alloc (.cells #[u3] e3)).heap.size (((w.alloc (.cells #[u1] e1)).alloc (.cells #[u2] e2)).alloc (.cells #[u3] e3)) w2) :
    (w2.cell? ⟨w.heap.size + 1, 0, none⟩ = some u2 ∧ w2.frozen? ⟨w.heap.size + 1, 0, none⟩ = false) ∧ (w2.cell? ⟨w.heap.size + 1 + 1, 0, none⟩ = some u3 ∧ w2.frozen? ⟨w.heap.size + 1 + 1, 0, none⟩ = false) ∧ w.heap.size + 1 + 1 + 1 ≤ w2.heap.size := by
  have s1 : (w.alloc (.cells #[u1] e1)).heap.size = w.heap.size + 1 := by simp
  have s2 : ((w.alloc (.cells #[u1] e1)).alloc (.cells #[u2] e2)).heap.size = w.heap.size + 1 + 1 := by simp
  have s3 : (((w.alloc (.cells #[u1] e1)).alloc (.cells #[u2] e2)).alloc (.cells #[u3] e3)).heap.size = w.heap.size + 1 + 1 + 1 := by simp
  have c3 := lay_cell ((w.alloc (.cells #[u1] e1)).alloc (.cells #[u2] e2)) u3 e3
  have f3 := lay_frozen ((w.alloc (.cells #[u1] e1)).alloc (.cells #[u2] e2)) u3 e3
  have c2 := lay_cell (w.alloc (.cells #[u1] e1)) u2 e2
  have f2 := lay_frozen (w.alloc (.cells #[u1] e1)) u2 e2
  rw [s2] at c3 f3
  rw [s1] at c2 f2
  refine ⟨⟨?_, ?_⟩, ⟨?_, ?_⟩, by rw [← s3]; exact hb.size⟩
  · rw [hb.cell (by rw [s3]; simp), World.cell?_alloc_lt _ _ _ (by rw [s2]; simp)]; exact c2
  · rw [hb.frozen (by rw [s3]; simp), World.frozen?_alloc_old _ _ _ (by rw [s2]; simp)]; exact f2
  · rw [hb.cell (by rw [s3]; simp)]; exact c3
  · rw [hb.frozen (by rw [s3]; simp)]; exact f3
end Go.Proofs.YtacgcagpaecncaaGreat
namespace Go.Proofs.YtacgcagpaecncaaGreat
open Go.RowKit
set_option maxHeartbeats 400000
set_option maxRecDepth 100000
theorem kept_all {B : Nat} {w w1 w2 : World} (h1 : Below B w1 w2) (hB : B = w1.heap.size) (h0 : Below w.heap.size w w1) : Below w.heap.size w w2 := by
  subst hB
  exact h0.trans (h1.mono h0.size)
theorem kept {B : Nat} {w w1 w2 : World} {b o : Nat} {u : Value} (h1 : Below B w1 w2) (hB : B = w1.heap.size) (h0 : Below w.heap.size w w1) (h : w.cell? ⟨b, o, none⟩ = some u) (hb : b < w.heap.size) : w2.cell? ⟨b, o, none⟩ = some u := by
  subst hB
  rw [h1.cell (by simpa using Nat.lt_of_lt_of_le hb h0.size), h0.cell (by simpa using hb)]
  exact h
def peq (x y : Int × Int) : Bool := decide (x = y)
end Go.Proofs.YtacgcagpaecncaaGreat
namespace Go.Proofs.YtacgcagpaecncaaGreat
open Go.RowKit
set_option maxHeartbeats 400000
set_option maxRecDepth 100000
end Go.Proofs.YtacgcagpaecncaaGreat
namespace Go.Proofs.YtacgcagpaecncaaGreat
open Go.RowKit
set_option maxHeartbeats 400000
set_option maxRecDepth 100000
def M.ptOk (p : Int × Int) : Bool := M.inn p.1 0 4000 && M.inn p.2 (-65536) 65536
/-- The point before the k-th lies before it. -/
def M.after (xs : List (Int × Int)) (k : Nat) : Bool := k == 0 || decide (((xs[k - 1]?).getD (0, 0)).1 < ((xs[k]?).getD (0, 0)).1)
def M.stepOk (xs : List (Int × Int)) (k : Nat) : Bool := M.ptOk ((xs[k]?).getD (0, 0)) && M.after xs k
def M.curveOk (xs : List (Int × Int)) : Bool := (List.range xs.length).all (M.stepOk xs) && M.inn (xs.length : Int) 1 24
theorem M.div_low {a b : Int} (hb : 0 < b) (hm : a.tmod b < 0) : a.tdiv b - 1 = a / b := by
  have h1 := Int.tmod_add_mul_tdiv a b
  have h2 : -b < a.tmod b := by
    have := Int.lt_tmod_of_pos a hb
    omega
  have h3 : a = (a.tmod b + b) + b * (a.tdiv b - 1) := by rw [Int.mul_sub, Int.mul_one]; omega
  rw [h3, Int.add_mul_ediv_left _ _ (by omega), Int.ediv_eq_zero_of_lt (by omega) (by omega), ← h3]
  omega
theorem M.div_high {a b : Int} (hb : 0 < b) (hm : ¬ a.tmod b < 0) : a.tdiv b = a / b := by
  have h1 := Int.tmod_add_mul_tdiv a b
  have h2 : a.tmod b < b := Int.tmod_lt_of_pos a hb
  have h3 : a = a.tmod b + b * a.tdiv b := by omega
  generalize hq : a.tdiv b = q at h3 ⊢
  rw [h3, Int.add_mul_ediv_left _ _ (by omega)]
  generalize a.tmod b = r at *
  rw [Int.ediv_eq_zero_of_lt (by omega) (by omega)]
  omega
theorem M.div_wrap {a b : Int} (ha : -9000000000000000000 ≤ a ∧ a ≤ 9000000000000000000) (hb : 0 < b) : wrap64 (a / b) = a / b := by
  have h1 : a / b ≤ 9000000000000000000 := by
    refine Int.ediv_le_of_le_mul hb ?_
    have : (9000000000000000000 : Int) * 1 ≤ 9000000000000000000 * b := Int.mul_le_mul_of_nonneg_left (by omega) (by omega)
    omega
  have h2 : -9000000000000000000 ≤ a / b := by
    refine Int.le_ediv_of_mul_le hb ?_
    have : (9000000000000000000 : Int) * 1 ≤ 9000000000000000000 * b := Int.mul_le_mul_of_nonneg_left (by omega) (by omega)
    omega
  unfold wrap64
  omega
end Go.Proofs.YtacgcagpaecncaaGreat
namespace Go.Proofs.YtacgcagpaecncaaGreat
open Go.RowKit Go.Sort
set_option maxHeartbeats 400000
set_option maxRecDepth 100000
theorem M.all_upto {n : Nat} {f : Nat → Bool} (h : ∀ j, j < n → f j = true) : (List.range n).all f = true := by
  rw [List.all_eq_true]
  intro j hj
  exact h j (List.mem_range.1 hj)
theorem M.all_not {n k : Nat} {f : Nat → Bool} (hk : k < n) (h : f k = false) : (List.range n).all f = false := by
  rw [List.all_eq_false]
  exact ⟨k, List.mem_range.2 hk, by simp [h]⟩
end Go.Proofs.YtacgcagpaecncaaGreat
namespace Go.Proofs.YtacgcagpaecncaaGreat
open Go.RowKit Go.Sort
set_option maxHeartbeats 400000
set_option maxRecDepth 100000
end Go.Proofs.YtacgcagpaecncaaGreat
namespace Go.Proofs.YtacgcagpaecncaaGreat
open Go.RowKit Go.Sort
set_option maxHeartbeats 400000
set_option maxRecDepth 100000
def M.seg (p q : Int × Int) (t : Int) : Int := p.2 + (q.2 - p.2) * (t - p.1) / (q.1 - p.1)
def M.atGo : (Int × Int) → List (Int × Int) → Int → Int
  | p, [], _ => p.2
  | p, q :: qs, t => if t < q.1 then M.seg p q t else M.atGo q qs t
def M.atC : List (Int × Int) → Int → Int
  | [], _ => 0
  | p :: qs, t => if t < p.1 then p.2 else M.atGo p qs t
theorem M.inn_iff {n a b : Int} : M.inn n a b = true ↔ a ≤ n ∧ n ≤ b := by simp [M.inn]
theorem M.curve_len {xs : List (Int × Int)} (h : M.curveOk xs = true) : 1 ≤ xs.length ∧ xs.length ≤ 24 := by
  rw [M.curveOk, Bool.and_eq_true, M.inn_iff] at h
  omega
theorem M.curve_step {xs : List (Int × Int)} (h : M.curveOk xs = true) {k : Nat} (hk : k < xs.length) : M.stepOk xs k = true := by
  rw [M.curveOk, Bool.and_eq_true, List.all_eq_true] at h
  exact h.1 k (List.mem_range.2 hk)
theorem M.curve_pt {xs : List (Int × Int)} (h : M.curveOk xs = true) {k : Nat} {p : Int × Int} (hk : xs[k]? = some p) : (0 ≤ p.1 ∧ p.1 ≤ 4000) ∧ -65536 ≤ p.2 ∧ p.2 ≤ 65536 := by
  have h1 := M.curve_step h (List.getElem?_eq_some_iff.1 hk).1
  rw [M.stepOk, Bool.and_eq_true, hk] at h1
  have h2 := h1.1
  rw [Option.getD_some, M.ptOk, Bool.and_eq_true, M.inn_iff, M.inn_iff] at h2
  exact h2
theorem M.curve_lt {xs : List (Int × Int)} (h : M.curveOk xs = true) {k : Nat} {p q : Int × Int} (h0 : 0 < k) (hp : xs[k - 1]? = some p) (hq : xs[k]? = some q) : p.1 < q.1 := by
  have h1 := M.curve_step h (List.getElem?_eq_some_iff.1 hq).1
  rw [M.stepOk, Bool.and_eq_true, M.after, hp, hq] at h1
  have h2 := h1.2
  simp at h2
  rcases h2 with h2 | h2
  · omega
  · exact h2
theorem M.atGo_step {xs : List (Int × Int)} {k : Nat} {p q : Int × Int} {t : Int} (hq : xs[k]? = some q) : M.atGo p (xs.drop k) t = if t < q.1 then M.seg p q t else M.atGo q (xs.drop (k + 1)) t := by
  obtain ⟨hl, he⟩ := List.getElem?_eq_some_iff.1 hq
  rw [List.drop_eq_getElem_cons hl, he, M.atGo]
theorem M.atGo_end {xs : List (Int × Int)} {k : Nat} {p : Int × Int} {t : Int} (hk : xs.length ≤ k) : M.atGo p (xs.drop k) t = p.2 := by
  rw [List.drop_eq_nil_of_le hk, M.atGo]
theorem M.atC_go {xs : List (Int × Int)} {p : Int × Int} {t : Int} (hp : xs[0]? = some p) (ht : ¬ t < p.1) : M.atC xs t = M.atGo p (xs.drop 1) t := by
  cases xs with
  | nil => simp at hp
  | cons x ys =>
    simp only [List.getElem?_cons_zero, Option.some.injEq] at hp
    subst hp
    rw [M.atC, if_neg ht]
    rfl
theorem M.atC_low {xs : List (Int × Int)} {p : Int × Int} {t : Int} (hp : xs[0]? = some p) (ht : t < p.1) : M.atC xs t = p.2 := by
  cases xs with
  | nil => simp at hp
  | cons x ys =>
    simp only [List.getElem?_cons_zero, Option.some.injEq] at hp
    subst hp
    rw [M.atC, if_pos ht]
theorem M.seg_at (p q : Int × Int) : M.seg p q p.1 = p.2 := by simp [M.seg]
theorem M.atC_first {xs : List (Int × Int)} (h : M.curveOk xs = true) {p : Int × Int} {t : Int} (hp : xs[0]? = some p) (ht : t ≤ p.1) : M.atC xs t = p.2 := by
  by_cases h1 : t < p.1
  · exact M.atC_low hp h1
  · obtain rfl : t = p.1 := by omega
    rw [M.atC_go hp h1]
    by_cases h2 : 1 < xs.length
    · have hq := List.getElem?_eq_getElem h2
      rw [M.atGo_step hq, if_pos (M.curve_lt h (by omega) hp hq), M.seg_at]
    · rw [M.atGo_end (by omega)]
theorem M.mul_bound {a b x y : Int} (ha : -x ≤ a ∧ a ≤ x) (hb : -y ≤ b ∧ b ≤ y) (hx : 0 ≤ x) : -(x * y) ≤ a * b ∧ a * b ≤ x * y := by
  have h1 : a.natAbs * b.natAbs ≤ x.natAbs * y.natAbs := Nat.mul_le_mul (by omega) (by omega)
  have h2 : (a * b).natAbs ≤ (x * y).natAbs := by rw [Int.natAbs_mul, Int.natAbs_mul]; exact h1
  have h3 : 0 ≤ x * y := Int.mul_nonneg hx (by omega)
  omega
theorem M.div_small {a b c : Int} (ha : -c ≤ a ∧ a ≤ c) (hb : 0 < b) (hc : 0 ≤ c) : -c ≤ a / b ∧ a / b ≤ c := by
  have h0 : c * 1 ≤ c * b := Int.mul_le_mul_of_nonneg_left (by omega) hc
  constructor
  · refine Int.le_ediv_of_mul_le hb ?_
    rw [Int.neg_mul]
    omega
  · refine Int.ediv_le_of_le_mul hb ?_
    omega
end Go.Proofs.YtacgcagpaecncaaGreat
