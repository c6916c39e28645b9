import Derived.Test.YtckihflfjecpbaaW41
namespace Go.Proofs.Ytckihflfjecpbaa
open Go.RowKit
set_option maxHeartbeats 1000000
set_option maxRecDepth 100000
section
variable {α : Type} {t : Ty α} {e : TypeId} {w : World} {B : Nat} {F : Nat → Prop} {v : Value} {xs : List α}
theorem sl_R : (t.sl e).R w B [v] xs ↔ RS t w B v xs := ⟨fun ⟨v, h, h'⟩ => by injection h with h; rw [h]; exact h', fun h => ⟨_, rfl, h⟩⟩
theorem sl_O : (t.sl e).O w F [v] xs ↔ OS t e w F v xs := ⟨fun ⟨v, h, h'⟩ => by injection h with h; rw [h]; exact h', fun h => ⟨_, rfl, h⟩⟩
end
theorem open_S {w : World} {B : Nat} {cs : List Value} {x : List Int} (h : tS.R w B cs x) : ∃ A n c, cs = [.slice A n c] := by
  obtain ⟨v, rfl, hr⟩ := h
  obtain ⟨A, c, rfl⟩ := hr.shape
  exact ⟨_, _, _, rfl⟩
theorem keptB_all {B : Nat} {w w1 w2 : World} (h1 : Below B w1 w2) (hB : B = w1.heap.size) (h0 : Below w.heap.size w w1) : Below w.heap.size w w2 := by
  subst hB
  exact h0.trans (h1.mono h0.size)
theorem keptB {B : Nat} {w w1 w2 : World} {b o : Nat} {u : Value} (h1 : Below B w1 w2) (hB : B = w1.heap.size) (h0 : Below w.heap.size w w1) (h : w.cell? ⟨b, o, none⟩ = some u) (hb : b < w.heap.size) : w2.cell? ⟨b, o, none⟩ = some u := by
  subst hB
  rw [h1.cell (by simpa using Nat.lt_of_lt_of_le hb h0.size), h0.cell (by simpa using hb)]
  exact h
theorem OS.openAt {α : Type} {t : Ty α} {e : TypeId} {w : World} {F : Nat → Prop} {v : Value} {xs : List α} (h : OS t e w F v xs) {k : Nat} {x : α} (hx : xs[k]? = some x) : ∃ css Fs, OH t e w F v xs css Fs k ∧ ∃ cs, css[k]? = some cs ∧ t.O w (Fs k) cs x := by
  obtain ⟨hk, rfl⟩ := List.getElem?_eq_some_iff.1 hx
  exact h.open hk
theorem RS.atX {α : Type} {t : Ty α} {w : World} {B : Nat} {v : Value} {xs : List α} (h : RS t w B v xs) {k : Nat} {x : α} (hx : xs[k]? = some x) : ∃ b o c cs, v = .slice (some ⟨b, o, none⟩) xs.length c ∧ b < B ∧ cs.length = t.s ∧ t.R w B cs x ∧ ∀ j u, cs[j]? = some u → w.cell? ⟨b, o + k * t.s + j, none⟩ = some u := by
  obtain ⟨hk, rfl⟩ := List.getElem?_eq_some_iff.1 hx
  exact h.at hk
theorem nat_le_cast {a b : Nat} (h : a ≤ b) : (a : Int) ≤ (b : Int) := by omega
abbrev tSS : Ty (List (List Int)) := tS.sl 41
abbrev hSS : Hs (List (List Int)) := hS.sl
end Go.Proofs.Ytckihflfjecpbaa
