import Derived.Test.YtckihflfjecpbaaJ2
import Derived.Test.YtckihflfjecpbaaW40
import Derived.Test.YtckihflfjecpbaaW34
namespace Go.Proofs.Ytckihflfjecpbaa
open Go.RowKit
theorem opens_S : Opens Try.prog 41 tS := opens_sl Try.underlying41 (by kernel_rfl) (opens_int Try.underlying2)
theorem opens_C : Opens Try.prog 24 tC :=
  opens_struct1 Try.underlying24 rfl (by kernel_rfl) (opens_sl Try.underlying22 (by kernel_rfl) (flat2_open (fun _ _ => rfl) Try.underlying26 Try.underlying2 Try.underlying2 rfl rfl (by kernel_rfl) (by kernel_rfl) (by kernel_rfl)))
theorem open_C {w : World} {B : Nat} {cs : List Value} {x : List (Int × Int)} (h : tC.R w B cs x) : ∃ A n c, cs = [.slice A n c] := by
  obtain ⟨v, rfl, hr⟩ := h
  obtain ⟨A, c, rfl⟩ := hr.shape
  exact ⟨_, _, _, rfl⟩
theorem opens_P : Opens Try.prog 26 tPt := flat2_open (fun _ _ => rfl) Try.underlying26 Try.underlying2 Try.underlying2 rfl rfl (by kernel_rfl) (by kernel_rfl) (by kernel_rfl)
theorem retC_nf {w w' : World} {r : List (Int × Int) × Int} {en : Ending} (h : RetC 34 w r en w') :
    ∃ A n c, en = .returned (.tuple #[.agg #[.slice A n c], .int .i64 r.2]) ∧ tC.O w' (Iv w.heap.size w'.heap.size) [.slice A n c] r.1 ∧ Below w.heap.size w w' := by
  obtain ⟨v, rfl, own, bel⟩ := h
  obtain ⟨A, c, rfl, _⟩ := own.shape
  exact ⟨_, _, _, rfl, tC_O.2 (OS.of_flat own), bel⟩
theorem ret2_nf {w w' : World} {r : List Int × Int} {en : Ending} (h : Ret2 2 w r en w') :
    ∃ A n c, en = .returned (.tuple #[.slice A n c, .int .i64 r.2]) ∧ tS.O w' (Iv w.heap.size w'.heap.size) [.slice A n c] r.1 ∧ Below w.heap.size w w' := by
  obtain ⟨v, rfl, own, bel⟩ := h
  obtain ⟨A, c, rfl, _⟩ := own.shape
  exact ⟨_, _, _, rfl, tS_O.2 own.os, bel⟩
theorem tC_n {w : World} {B n c : Nat} {A : Option Addr} {xs : List (Int × Int)} (h : tC.R w B [.slice A n c] xs) : xs.length = n ∧ n ≤ c ∧ c ≤ maxLen := (tC_R.1 h).cap
end Go.Proofs.Ytckihflfjecpbaa
