import Derived.Test.YtckihflfjecpbaaK5
namespace Go.Proofs.Ytckihflfjecpbaa
open Go.RowKit
theorem Ty.oset {α : Type} (t : Ty α) {w : World} {lo hi g o : Nat} {cs : List Value} {x : α} {u : Value} (h : t.O w (Iv lo hi) cs x) (hg : g < lo ∨ hi ≤ g) : t.O (w.setCell ⟨g, o, none⟩ u) (Iv lo hi) cs x :=
  t.okeep (fun b ⟨h1, h2⟩ => heap_setCell_other w ⟨g, o, none⟩ b u (fun e => by simp only at e; omega)) h
end Go.Proofs.Ytckihflfjecpbaa
