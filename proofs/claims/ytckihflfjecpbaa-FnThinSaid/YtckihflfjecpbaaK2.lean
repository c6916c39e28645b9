import Derived.Test.YtckihflfjecpbaaK1
import Derived.Test.YtckihflfjecpbaaM1
namespace Go.Proofs.Ytckihflfjecpbaa
open Go.RowKit

/-- Only blocks from lo to hi may have turned; what is new lies behind. -/
structure Mid (lo hi : Nat) (w w' : World) : Prop where
  os : w'.os = w.os
  tape : w'.tape = w.tape
  output : w'.output = w.output
  size : w.heap.size ≤ w'.heap.size
  block : ∀ k, k < w.heap.size → (k < lo ∨ hi ≤ k) → w'.heap[k]? = w.heap[k]?
section
variable {lo hi lo' hi' B : Nat} {a b c w w' : World}
theorem Mid.refl (lo hi : Nat) (w : World) : Mid lo hi w w := ⟨rfl, rfl, rfl, Nat.le_refl _, fun _ _ _ => rfl⟩
theorem Mid.trans (h : Mid lo hi a b) (k : Mid lo hi b c) : Mid lo hi a c :=
  ⟨k.os.trans h.os, k.tape.trans h.tape, k.output.trans h.output, Nat.le_trans h.size k.size, fun i hi' hm => (k.block i (Nat.lt_of_lt_of_le hi' h.size) hm).trans (h.block i hi' hm)⟩
theorem Mid.toBelow (h : Mid lo hi a b) (hl : lo ≤ a.heap.size) : Below lo a b := ⟨h.os, h.tape, h.output, h.size, fun k hk => h.block k (by omega) (.inl hk)⟩
theorem Mid.of_below (h : Below a.heap.size a b) (lo hi : Nat) : Mid lo hi a b := ⟨h.os, h.tape, h.output, h.size, fun k hk _ => h.block k hk⟩
theorem Mid.of_grown {row : Option Nat} (h : a.grownBy b row) (hr : ∀ k, row = some k → lo ≤ k ∧ k < hi) : Mid lo hi a b :=
  ⟨h.os, h.tape, h.output, h.size, fun k hk hm => h.block k hk (fun e => by have := hr k e.symm; omega)⟩
theorem Mid.wide (h : Mid lo hi a b) (h1 : lo' ≤ lo) (h2 : hi ≤ hi') : Mid lo' hi' a b := ⟨h.os, h.tape, h.output, h.size, fun k hk hm => h.block k hk (by omega)⟩
end

/-- The call's own row whose block lies from lo to hi. -/
def OX (e : TypeId) (s lo hi : Nat) (w : World) (v : Value) (n : Nat) (cs : List Value) : Prop := w.ownsRow lo e s v n cs ∧ ∀ k, v.ownBlock = some k → k < hi
section
variable {e : TypeId} {s lo hi lo' hi' n : Nat} {w w' : World} {v : Value} {cs : List Value}
theorem OX.of_own (h : w.ownsRow lo e s v n cs) : OX e s lo w.heap.size w v n cs := ⟨h, fun k hk => (h.lt k hk).2⟩
theorem OX.same (h : OX e s lo hi w v n cs) (hk : ∀ k, lo ≤ k → k < hi → w'.heap[k]? = w.heap[k]?) : OX e s lo hi w' v n cs := by
  refine ⟨⟨h.1.1, ?_⟩, h.2⟩
  rcases h.1.2 with h2 | ⟨g, cap, cur, rfl, hg, hh, r⟩
  · exact .inl h2
  · exact .inr ⟨g, cap, cur, rfl, hg, by rw [hk g hg (h.2 g rfl)]; exact hh, r⟩
theorem OX.below {B : Nat} (h : OX e s lo hi w v n cs) (hb : Below B w w') (hB : hi ≤ B) : OX e s lo hi w' v n cs := h.same fun k _ hk => hb.block k (by omega)
theorem OX.mid {l r : Nat} (h : OX e s lo hi w v n cs) (hm : Mid l r w w') (hd : hi ≤ l ∨ r ≤ lo) (hs : hi ≤ w.heap.size) : OX e s lo hi w' v n cs := h.same fun k h1 h2 => hm.block k (by omega) (by omega)
theorem OX.wide (h : OX e s lo hi w v n cs) (h1 : lo' ≤ lo) (h2 : hi ≤ hi') : OX e s lo' hi' w v n cs := ⟨own_base h.1 h1, fun k hk => Nat.lt_of_lt_of_le (h.2 k hk) h2⟩
theorem OX.nil (e : TypeId) (s lo hi : Nat) (w : World) : OX e s lo hi w (.slice none 0 0) 0 [] := ⟨World.ownsRow_nil _ _ _ _, by simp [Value.ownBlock]⟩
theorem OX.reads {A : Option Addr} {c : Nat} (h : OX e s lo hi w (.slice A n c) n cs) : Reads w w.heap.size s A n cs := Reads.of_own h.1
theorem OX.shape (h : OX e s lo hi w v n cs) : ∃ A c, v = .slice A n c ∧ n ≤ c ∧ Reads w w.heap.size s A n cs := by
  obtain ⟨A, c, hv, h1, _, hr⟩ := own_shape h.1
  exact ⟨A, c, hv, h1, hr⟩
theorem OX.form {A : Option Addr} {c m : Nat} (h : OX e s lo hi w (.slice A m c) n cs) (hn : 0 < m) : ∃ g, A = some ⟨g, 0, none⟩ ∧ lo ≤ g ∧ g < hi ∧ g < w.heap.size ∧ m = n := by
  rcases h.1.2 with ⟨h0, _⟩ | ⟨g, cap, cur, h0, h1, h2, _⟩
  · simp only [Value.slice.injEq] at h0
    omega
  · simp only [Value.slice.injEq] at h0
    obtain ⟨rfl, rfl, rfl⟩ := h0
    exact ⟨g, rfl, h1, h.2 g rfl, (Array.getElem?_eq_some_iff.1 h2).1, rfl⟩
theorem OX.cell {g c : Nat} (h : OX e s lo hi w (.slice (some ⟨g, 0, none⟩) n c) n cs) {j : Nat} {u : Value} (hj : cs[j]? = some u) : w.cell? ⟨g, j, none⟩ = some u ∧ w.frozen? ⟨g, j, none⟩ = false := by
  obtain ⟨hl, _⟩ := List.getElem?_eq_some_iff.1 hj
  exact ⟨by rw [World.ownsRow.cellAt h.1 j (by rw [← h.1.1]; exact hl)]; exact hj, World.ownsRow.frozenAt h.1 j⟩
theorem OX.set {g c : Nat} (h : OX e s lo hi w (.slice (some ⟨g, 0, none⟩) n c) n cs) (j : Nat) (u : Value) :
    OX e s lo hi (w.setCell ⟨g, j, none⟩ u) (.slice (some ⟨g, 0, none⟩) n c) n (cs.set j u) ∧ Mid lo hi w (w.setCell ⟨g, j, none⟩ u) := by
  have h1 := World.ownsRow.stored h.1 j u
  refine ⟨⟨h1.1, h.2⟩, Mid.of_grown h1.2 fun k hk => ?_⟩
  injection hk with hk
  subst hk
  exact ⟨(World.ownsRow.lt h.1 g rfl).1, h.2 g rfl⟩
end

/-- A slice of structs that reads as a list: x's cells are 'enc x', s of them. -/
def RA {α : Type} (enc : α → List Value) (s : Nat) (w : World) (B : Nat) (A : Option Addr) (n : Nat) (xs : List α) : Prop := xs.length = n ∧ Reads w B s A n (xs.flatMap enc)
section
variable {α : Type} {enc : α → List Value} {s : Nat} {w w' : World} {B B' n : Nat} {A : Option Addr} {xs : List α}
theorem flat_at (henc : ∀ x, (enc x).length = s) {xs : List α} {k : Nat} {x : α} (hk : xs[k]? = some x) (j : Nat) (hj : j < s) : (xs.flatMap enc)[k * s + j]? = (enc x)[j]? := by
  induction xs generalizing k with
  | nil => simp at hk
  | cons y ys ih =>
    cases k with
    | zero =>
      simp only [List.getElem?_cons_zero, Option.some.injEq] at hk
      subst hk
      rw [List.flatMap_cons, Nat.zero_mul, Nat.zero_add, List.getElem?_append_left (by rw [henc]; exact hj)]
    | succ k =>
      simp only [List.getElem?_cons_succ] at hk
      rw [List.flatMap_cons, List.getElem?_append_right (by rw [henc, Nat.succ_mul]; omega), henc, ← ih hk]
      congr 1
      rw [Nat.succ_mul]
      omega
theorem flat_len (henc : ∀ x, (enc x).length = s) (xs : List α) : (xs.flatMap enc).length = xs.length * s := by
  induction xs with
  | nil => simp
  | cons y ys ih => rw [List.flatMap_cons, List.length_append, henc, ih, List.length_cons, Nat.succ_mul, Nat.add_comm]
theorem flat_set (henc : ∀ x, (enc x).length = s) {xs : List α} {k : Nat} {x y : α} {j : Nat} {u : Value} (hk : xs[k]? = some x) (hj : j < s) (hy : enc y = (enc x).set j u) : (xs.flatMap enc).set (k * s + j) u = (xs.set k y).flatMap enc := by
  induction xs generalizing k with
  | nil => simp at hk
  | cons z zs ih =>
    cases k with
    | zero =>
      simp only [List.getElem?_cons_zero, Option.some.injEq] at hk
      subst hk
      rw [List.flatMap_cons, Nat.zero_mul, Nat.zero_add, List.set_append_left _ _ (by rw [henc]; exact hj), List.set_cons_zero, List.flatMap_cons, hy]
    | succ k =>
      simp only [List.getElem?_cons_succ] at hk
      rw [List.flatMap_cons, List.set_append_right _ _ (by rw [henc, Nat.succ_mul]; omega), henc, List.set_cons_succ, List.flatMap_cons, ← ih hk]
      congr 2
      rw [Nat.succ_mul]
      omega
theorem RA.len (h : RA enc s w B A n xs) : xs.length = n := h.1
theorem RA.below (h : RA enc s w B A n xs) (hb : Below B w w') : RA enc s w' B A n xs := ⟨h.1, h.2.below hb⟩
theorem RA.later (h : RA enc s w w.heap.size A n xs) (hb : Below w.heap.size w w') : RA enc s w' w'.heap.size A n xs := ⟨h.1, h.2.later hb⟩
theorem RA.more (h : RA enc s w B A n xs) (hB : B ≤ B') : RA enc s w B' A n xs := ⟨h.1, h.2.more hB⟩
theorem RA.nil (w : World) (B : Nat) (A : Option Addr) : RA enc s w B A 0 [] := ⟨rfl, Reads.none_⟩
theorem spot_none {ad : Addr} {u : Value} (h : w.cell? ad = some u) : ad = ⟨ad.block, ad.off, none⟩ := by
  cases ad with
  | mk b o sp =>
    cases sp with
    | none => rfl
    | some x =>
      exfalso
      simp only [World.cell?] at h
      split at h <;> simp at h
theorem RA.at (henc : ∀ x, (enc x).length = s) (hs : 0 < s) (h : RA enc s w B A n xs) {k : Nat} (hk : k < n) :
    ∃ b o x, A = some ⟨b, o, none⟩ ∧ b < B ∧ Hid (xs[k]? = some x) ∧ ∀ j u, (enc x)[j]? = some u → w.cell? ⟨b, o + k * s + j, none⟩ = some u := by
  obtain ⟨ad, e, hb, hc⟩ := h.2.2 (by omega)
  have hl : k < xs.length := by rw [h.1]; exact hk
  have h0 : 0 < (xs.flatMap enc).length := by
    rw [flat_len henc]
    exact Nat.mul_pos (by omega) hs
  have hsp := spot_none (hc 0 _ (List.getElem?_eq_getElem h0))
  have hsp' : ad = ⟨ad.block, ad.off, none⟩ := by simpa [Addr.add] using hsp
  refine ⟨ad.block, ad.off, xs[k], by rw [e, ← hsp'], hb, List.getElem?_eq_getElem hl, fun j u hu => ?_⟩
  have := hc (k * s + j) u (by
    rw [flat_at henc (List.getElem?_eq_getElem hl) j (by rw [← henc xs[k]]; exact (List.getElem?_eq_some_iff.1 hu).1)]
    exact hu)
  rw [hsp', Addr.add_lit, ← Nat.add_assoc] at this
  exact this
theorem RA.cells {b o : Nat} (henc : ∀ x, (enc x).length = s) (hs : 0 < s) (h : RA enc s w B (some ⟨b, o, none⟩) n xs) {k : Nat} (hk : k < n) :
    ∃ x, Hid (xs[k]? = some x) ∧ ∀ j u, (enc x)[j]? = some u → w.cell? ⟨b, o + k * s + j, none⟩ = some u := by
  obtain ⟨b', o', x, e, _, h1, h2⟩ := h.at henc hs hk
  injection e with e
  injection e with e1 e2
  subst e1 e2
  exact ⟨x, h1, h2⟩
end

/-- The call's own slice of structs. -/
def OA {α : Type} (enc : α → List Value) (e : TypeId) (s lo hi : Nat) (w : World) (v : Value) (xs : List α) : Prop := OX e s lo hi w v xs.length (xs.flatMap enc)
section
variable {α : Type} {enc : α → List Value} {e : TypeId} {s lo hi lo' hi' : Nat} {w w' : World} {v : Value} {xs : List α}
theorem OA.below {B : Nat} (h : OA enc e s lo hi w v xs) (hb : Below B w w') (hB : hi ≤ B) : OA enc e s lo hi w' v xs := OX.below h hb hB
theorem OA.mid {l r : Nat} (h : OA enc e s lo hi w v xs) (hm : Mid l r w w') (hd : hi ≤ l ∨ r ≤ lo) (hs : hi ≤ w.heap.size) : OA enc e s lo hi w' v xs := OX.mid h hm hd hs
theorem OA.wide (h : OA enc e s lo hi w v xs) (h1 : lo' ≤ lo) (h2 : hi ≤ hi') : OA enc e s lo' hi' w v xs := OX.wide h h1 h2
theorem OA.nil (w : World) : OA enc e s lo hi w (.slice none 0 0) [] := OX.nil _ _ _ _ _
theorem OA.shape (h : OA enc e s lo hi w v xs) : ∃ A c, v = .slice A xs.length c ∧ RA enc s w w.heap.size A xs.length xs := by
  obtain ⟨A, c, hv, _, hr⟩ := OX.shape h
  exact ⟨A, c, hv, rfl, hr⟩
theorem OA.ra {A : Option Addr} {c : Nat} (h : OA enc e s lo hi w (.slice A xs.length c) xs) : RA enc s w w.heap.size A xs.length xs := ⟨rfl, OX.reads h⟩
theorem OX.m_eq {g c m n : Nat} {cs : List Value} (h : OX e s lo hi w (.slice (some ⟨g, 0, none⟩) m c) n cs) : m = n := by
  rcases h.1.2 with ⟨h0, _⟩ | ⟨g', cap, cur, h0, _⟩
  · simp at h0
  · simp only [Value.slice.injEq] at h0
    exact h0.2.1
/-- A field of the k-th struct is written. -/
theorem OA.set {g c m : Nat} (henc : ∀ x, (enc x).length = s) (h : OA enc e s lo hi w (.slice (some ⟨g, 0, none⟩) m c) xs) {k j : Nat} {x y : α} {u : Value} (hk : xs[k]? = some x) (hj : j < s) (hy : enc y = (enc x).set j u) :
    OA enc e s lo hi (w.setCell ⟨g, k * s + j, none⟩ u) (.slice (some ⟨g, 0, none⟩) m c) (xs.set k y) ∧ Mid lo hi w (w.setCell ⟨g, k * s + j, none⟩ u) := by
  have hm := OX.m_eq h
  subst hm
  have h1 := OX.set h (k * s + j) u
  rw [flat_set henc hk hj hy] at h1
  refine ⟨?_, h1.2⟩
  unfold OA
  rw [List.length_set]
  exact h1.1
theorem OA.cell {g c m : Nat} (henc : ∀ x, (enc x).length = s) (h : OA enc e s lo hi w (.slice (some ⟨g, 0, none⟩) m c) xs) {k : Nat} {x : α} (hk : xs[k]? = some x) {j : Nat} {u : Value} (hj : (enc x)[j]? = some u) :
    w.cell? ⟨g, k * s + j, none⟩ = some u ∧ w.frozen? ⟨g, k * s + j, none⟩ = false := by
  have hm := OX.m_eq h
  subst hm
  exact OX.cell h (by rw [flat_at henc hk j (by rw [← henc x]; exact (List.getElem?_eq_some_iff.1 hj).1)]; exact hj)
theorem made_flat (zs : Array Value) (n : Nat) (x : α) (hz : enc x = zs.toList) (henc : ∀ x, (enc x).length = s) (hs : 0 < s) : (madeCells zs (n * s)).toList = (List.replicate n x).flatMap enc := by
  have hzs : zs.size = s := by have := henc x; rw [hz] at this; simpa using this
  apply List.ext_getElem?
  intro i
  by_cases hi : i < n * s
  · have hk : i / s < n := Nat.div_lt_of_lt_mul (by rw [Nat.mul_comm]; exact hi)
    have hj : i % s < s := Nat.mod_lt _ hs
    have e0 : i / s * s + i % s = i := by rw [Nat.mul_comm]; exact Nat.div_add_mod i s
    have h1 := flat_at henc (xs := List.replicate n x) (k := i / s) (x := x) (by simp [hk]) (i % s) hj
    rw [e0] at h1
    rw [h1, hz]
    simp [madeCells, hi, hzs, hj]
  · rw [List.getElem?_eq_none (by simp [madeCells]; omega), List.getElem?_eq_none (by rw [flat_len henc, List.length_replicate]; omega)]
theorem OA.made {z : Value} {n : Nat} {x : α} (henc : ∀ x, (enc x).length = s) (hs : 0 < s) (hz : enc x = z.cells.toList) (h : w.ownsRow lo e s v n (madeCells z.cells (n * s)).toList) (hv : ∀ k, v.ownBlock = some k → k < hi) :
    OA enc e s lo hi w v (List.replicate n x) := by
  unfold OA
  rw [List.length_replicate, ← made_flat z.cells n x hz henc hs]
  exact ⟨h, hv⟩
theorem OA.form {A : Option Addr} {c m : Nat} (h : OA enc e s lo hi w (.slice A m c) xs) (hn : 0 < m) : ∃ g, A = some ⟨g, 0, none⟩ ∧ lo ≤ g ∧ g < hi ∧ g < w.heap.size ∧ m = xs.length := OX.form h hn
theorem OA.push {x : α} (h : w.ownsRow lo e s v (xs.length + 1) (xs.flatMap enc ++ enc x)) : OA enc e s lo w.heap.size w v (xs ++ [x]) := by
  unfold OA
  have := OX.of_own h
  simpa [List.flatMap_append] using this
end
end Go.Proofs.Ytckihflfjecpbaa
