import Derived.Test.YtckihflfjecpbaaW50
import Derived.Test.YtckihflfjecpbaaW4
namespace Go.Proofs.Ytckihflfjecpbaa
open Go.RowKit
set_option maxHeartbeats 1000000
set_option maxRecDepth 100000
theorem OS.made0 {α : Type} (t : Ty α) (e : TypeId) (w : World) : OS t e (w.alloc (.cells #[] e)) (Iv w.heap.size (w.alloc (.cells #[] e)).heap.size) (.slice (some ⟨w.heap.size, 0, none⟩) 0 0) [] :=
  ⟨[], fun _ _ => False, World.ownsRow_made _ _ _ (Nat.zero_le _) (by simp [maxLen]) (by simp), rfl, fun g hg => by simp only [Value.ownBlock, Option.some.injEq] at hg; subst hg; exact ⟨Nat.le_refl _, by simp⟩, fun _ _ h => h.elim, fun _ _ _ _ h => h.elim, fun k h => by simp at h⟩
theorem ei_S : EI Try.prog 79 41 (.slice none 0 0) 1 24 := ⟨Try.underlying79, by kernel_rfl, rfl, by decide⟩
theorem cl_SS (x : List (List Int)) : hSS.cnt x ≤ hSS.sz x := by
  show hS.cntL x ≤ x.length + hS.szL x
  have : hS.cntL x ≤ hS.szL x := by
    induction x with
    | nil => exact Nat.le_refl _
    | cons y ys ih =>
      rw [Hs.cntL, Hs.szL, hS_cnt, hS_sz]
      omega
  omega
def M.phases (xs : List Int) (f : Nat) : List (List Int) := (List.range f).map fun r => M.decL xs f r
theorem M.phases_len (xs : List Int) (f : Nat) : (M.phases xs f).length = f := by simp [M.phases]
theorem M.phases_at {xs : List Int} {f r : Nat} (h : r < f) : (M.phases xs f)[r]? = some (M.decL xs f r) := by simp [M.phases, h]
def M.phasesR (xs : List Int) (f : Int) : List (List Int) × Int := if M.taps xs then (if M.fac f then (M.phases xs f.toNat, 0) else ([], 2)) else ([], 1)
/-- What a function of signals and a code gives back. -/
def RetSS (w : World) (r : List (List Int) × Int) (en : Ending) (w' : World) : Prop :=
  ∃ v, en = .returned (.tuple #[v, .int .i64 r.2]) ∧ OS tS 41 w' (Iv w.heap.size w'.heap.size) v r.1 ∧ Below w.heap.size w w'
theorem retSS_nf {w w' : World} {r : List (List Int) × Int} {en : Ending} (h : RetSS w r en w') :
    ∃ A n c, en = .returned (.tuple #[.slice A n c, .int .i64 r.2]) ∧ tSS.O w' (Iv w.heap.size w'.heap.size) [.slice A n c] r.1 ∧ Below w.heap.size w w' := by
  obtain ⟨v, rfl, own, bel⟩ := h
  obtain ⟨A, c, rfl⟩ := own.shape
  exact ⟨_, _, _, rfl, sl_O.2 own, bel⟩
theorem Iv.apart {a b c d : Nat} (h : b ≤ c) : ∀ k, Iv a b k → ¬ Iv c d k := fun k h1 h2 => by have := h1.2; have := h2.1; omega
theorem Iv.grow {a b c d : Nat} (h1 : a ≤ b) (h2 : b ≤ c) (h3 : c ≤ d) : ∀ k, (Iv a b k ∨ Iv b c k ∨ c < k ∧ k < d) → Iv a d k := by
  intro k h
  unfold Iv at *
  omega
end Go.Proofs.Ytckihflfjecpbaa
