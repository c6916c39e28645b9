import Derived.Test.YtckihflfjecpbaaJ3
import Derived.Test.YtckihflfjecpbaaW63
namespace Go.Proofs.Ytckihflfjecpbaa
open Go.RowKit
theorem flat5_open {P : Program} {T : TypeId} {f0 f1 f2 f3 f4 : Field} {zero : Clip} {enc : Clip → List Value} {pos : 0 < 5} {henc : ∀ x, (enc x).length = 5} {h1c : ∀ x, ∀ u ∈ enc x, u.oneCell' = true}
    (hE : ∀ a b c d e, enc (a, b, c, d, e) = [.int .i64 a, .int .i64 b, .int .i64 c, .int .i64 d, .int .i64 e]) (hs : P.underlying T = some (.struct #[f0, f1, f2, f3, f4]))
    (h0 : P.underlying f0.type = some (.int .i64)) (h1 : P.underlying f1.type = some (.int .i64)) (h2 : P.underlying f2.type = some (.int .i64)) (h3 : P.underlying f3.type = some (.int .i64)) (h4 : P.underlying f4.type = some (.int .i64))
    (o0 : f0.offset = 0) (o1 : f1.offset = 1) (o2 : f2.offset = 2) (o3 : f3.offset = 3) (o4 : f4.offset = 4)
    (k0 : P.cellsOf f0.type = 1) (k1 : P.cellsOf f1.type = 1) (k2 : P.cellsOf f2.type = 1) (k3 : P.cellsOf f3.type = 1) (k4 : P.cellsOf f4.type = 1) (hC : P.cellsOf T = 5) : Opens P T (Ty.flat 5 pos zero enc henc h1c) :=
  opens_fields hs fun w cs hl {H} enc' base spare held n ys hyl hg => by
    obtain ⟨a, ha⟩ := field_at (i := 0) hyl hg rfl rfl o0 k0 (opens_int h0)
    obtain ⟨b, hb⟩ := field_at (i := 1) hyl hg rfl rfl o1 k1 (opens_int h1)
    obtain ⟨c, hc⟩ := field_at (i := 2) hyl hg rfl rfl o2 k2 (opens_int h2)
    obtain ⟨d, hd⟩ := field_at (i := 3) hyl hg rfl rfl o3 k3 (opens_int h3)
    obtain ⟨e, he⟩ := field_at (i := 4) hyl hg rfl rfl o4 k4 (opens_int h4)
    rw [hC] at hl
    match cs, hl with
    | [u0, u1, u2, u3, u4], _ =>
      refine ⟨(a, b, c, d, e), ?_⟩
      show [u0, u1, u2, u3, u4] = enc (a, b, c, d, e)
      have ha' : [u0] = [Value.int .i64 a] := ha
      have hb' : [u1] = [Value.int .i64 b] := hb
      have hc' : [u2] = [Value.int .i64 c] := hc
      have hd' : [u3] = [Value.int .i64 d] := hd
      have he' : [u4] = [Value.int .i64 e] := he
      rw [hE]
      injection ha' with e1
      injection hb' with e2
      injection hc' with e3
      injection hd' with e4
      injection he' with e5
      rw [e1, e2, e3, e4, e5]
theorem opens_T : Opens Try.prog 61 tT :=
  opens_struct1 Try.underlying61 rfl (by kernel_rfl) (opens_sl Try.underlying59 (by kernel_rfl) (flat5_open (fun _ _ _ _ _ => rfl) Try.underlying148 Try.underlying2 Try.underlying2 Try.underlying2 Try.underlying2 Try.underlying2 rfl rfl rfl rfl rfl (by kernel_rfl) (by kernel_rfl) (by kernel_rfl) (by kernel_rfl) (by kernel_rfl) (by kernel_rfl)))
theorem open_T {w : World} {B : Nat} {cs : List Value} {x : List Clip} (h : tT.R w B cs x) : ∃ A n c, cs = [.slice A n c] := by
  obtain ⟨v, rfl, hr⟩ := h
  obtain ⟨A, c, rfl⟩ := hr.shape
  exact ⟨_, _, _, rfl⟩
theorem tT_ra {w : World} {B : Nat} {A : Option Addr} {n c : Nat} {xs : List Clip} (h : tT.R w B [.slice A n c] xs) : RA cl 5 w B A n xs := (sl_R.1 h).flat.1
theorem tT_n {w : World} {B n c : Nat} {A : Option Addr} {xs : List Clip} (h : tT.R w B [.slice A n c] xs) : xs.length = n ∧ n ≤ c ∧ c ≤ maxLen := (sl_R.1 h).cap
theorem retT_nf {w w' : World} {r : List Clip × Int} {en : Ending} (h : RetT 78 w r en w') :
    ∃ A n c, en = .returned (.tuple #[.agg #[.slice A n c], .int .i64 r.2]) ∧ tT.O w' (Iv w.heap.size w'.heap.size) [.slice A n c] r.1 ∧ Below w.heap.size w w' := by
  obtain ⟨v, rfl, own, bel⟩ := h
  obtain ⟨A, c, rfl, _⟩ := own.shape
  exact ⟨_, _, _, rfl, sl_O.2 (OS.of_flat own), bel⟩
end Go.Proofs.Ytckihflfjecpbaa
