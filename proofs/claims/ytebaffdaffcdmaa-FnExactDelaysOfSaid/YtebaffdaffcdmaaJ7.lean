import Derived.Test.YtebaffdaffcdmaaJ2
import Derived.Test.YtebaffdaffcdmaaW81
import Derived.Test.YtebaffdaffcdmaaW83
namespace Go.Proofs.Ytebaffdaffcdmaa
open Go.RowKit
theorem opens_str {P : Program} {T : TypeId} (h : P.underlying T = some .string) : Opens P T tStr := fun _ _ _ _ _ _ _ _ ht => by
  obtain ⟨s, rfl, _, hs⟩ := DataW.trod_string h ht
  exact ⟨s, rfl, hs⟩
theorem opens_SdS : Opens Try.prog 79 tSdS :=
  opens_sl Try.underlying79 (by kernel_rfl) (flat2_open (fun _ _ => rfl) Try.underlying101 Try.underlying2 Try.underlying2 rfl rfl (by kernel_rfl) (by kernel_rfl) (by kernel_rfl))
theorem st_open {P : Program} {T : TypeId} {f0 f1 f2 : Field} (hs : P.underlying T = some (.struct #[f0, f1, f2])) (h0 : P.underlying f0.type = some .string) (h1 : P.underlying f1.type = some (.int .i64)) (h2 : Opens P f2.type tSdS)
    (o0 : f0.offset = 0) (o1 : f1.offset = 1) (o2 : f2.offset = 2) (k0 : P.cellsOf f0.type = 1) (k1 : P.cellsOf f1.type = 1) (k2 : P.cellsOf f2.type = 1) (hC : P.cellsOf T = 3) : Opens P T tSt :=
  opens_fields hs fun w cs hl {H} enc base spare held n ys hyl hg => by
    obtain ⟨s, hs⟩ := field_at (i := 0) hyl hg rfl rfl o0 k0 (opens_str h0)
    obtain ⟨l, h1⟩ := field_at (i := 1) hyl hg rfl rfl o1 k1 (opens_int h1)
    obtain ⟨xs, h2⟩ := field_at (i := 2) hyl hg rfl rfl o2 k2 h2
    rw [hC] at hl
    match cs, hl with
    | [u0, u1, u2], _ =>
      refine ⟨(s, l, xs), st_R.2 ?_⟩
      have h0 : [u0] = [Value.string s] ∧ s.size ≤ maxLen := hs
      have h1' : [u1] = [Value.int .i64 l] := h1
      obtain ⟨A, n, c, e2⟩ := open_Sd h2
      have e2' : [u2] = [Value.slice A n c] := e2
      have h2' : tSdS.R w w.heap.size [u2] xs := h2
      injection h0.1 with e0
      injection h1' with e1
      injection e2' with e3
      subst e0 e1 e3
      exact ⟨A, n, c, rfl, h0.2, h2'⟩
theorem opens_St : Opens Try.prog 81 tSt :=
  st_open Try.underlying81 Try.underlying9 Try.underlying2 opens_SdS rfl rfl rfl (by kernel_rfl) (by kernel_rfl) (by kernel_rfl) (by kernel_rfl)
theorem opens_M : Opens Try.prog 24 tM :=
  opens_struct1 Try.underlying24 rfl (by kernel_rfl) (opens_sl Try.underlying22 (by kernel_rfl) opens_St)
theorem open_M {w : World} {B : Nat} {cs : List Value} {x : List Strip} (h : tM.R w B cs x) : ∃ A n c, cs = [.slice A n c] := by
  obtain ⟨v, rfl, hr⟩ := h
  obtain ⟨A, c, rfl⟩ := hr.shape
  exact ⟨_, _, _, rfl⟩
theorem ret2_nf {w w' : World} {r : List Int × Int} {en : Ending} (h : Ret2 2 w r en w') :
    ∃ A n c, en = .returned (.tuple #[.slice A n c, .int .i64 r.2]) ∧ tS.O w' (Iv w.heap.size w'.heap.size) [.slice A n c] r.1 ∧ Below w.heap.size w w' := by
  obtain ⟨v, rfl, own, bel⟩ := h
  obtain ⟨A, c, rfl, _⟩ := own.shape
  exact ⟨_, _, _, rfl, tS_O.2 own.os, bel⟩
end Go.Proofs.Ytebaffdaffcdmaa
