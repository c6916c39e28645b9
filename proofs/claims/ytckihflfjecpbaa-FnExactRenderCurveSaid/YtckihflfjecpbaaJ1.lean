import Derived.Test.YtckihflfjecpbaaW22
import Derived.Deep.Slices
import Derived.Deep.Fields
import Derived.ChangeSame
import Derived.Lib.SmallJoins
namespace Go.Proofs.Ytckihflfjecpbaa
open Go.ChangeShapes Go.WideShapes Go.Deep Go.RowKit
section
variable {H : Type} {enc : TypeId × Value → H} {P : Program} {w : World} {base : Nat} {spare : Nat → Bool} {held : Bool}
/-- A slice of points that came in reads as a list of pairs. -/
theorem open_pts {t e : TypeId} {f0 f1 : Field} {fuel : Nat} {v : Value} {x : DataW H × List MemPlace} (ht : P.underlying t = some (.slice e)) (he : P.underlying e = some (.struct #[f0, f1]))
    (h0 : P.underlying f0.type = some (.int .i64)) (h1 : P.underlying f1.type = some (.int .i64)) (o0 : f0.offset = 0) (o1 : f1.offset = 1) (k0 : P.cellsOf f0.type = 1) (k1 : P.cellsOf f1.type = 1) (hC : P.cellsOf e = 2)
    (h : DataW.trod enc P w base spare held fuel t [v] = some x) : ∃ A n c xs, v = .slice A n c ∧ n ≤ maxLen ∧ RA pt 2 w w.heap.size A n xs := by
  rcases open_slice ht h with ⟨hcs, _⟩ | ⟨a, len, cap, m, n, D, Pl, hcs, hb, hl, hm, hmm, hx, hi⟩
  · simp only [List.cons.injEq, and_true] at hcs
    exact ⟨none, 0, 0, [], hcs, by simp, RA.nil _ _ _⟩
  · simp only [List.cons.injEq, and_true] at hcs
    have hlm : len ≤ m := by rw [hmm]; split <;> omega
    have key : ∀ i, ∃ p : Int × Int, i < len → w.cell? (a.add (i * 2)) = some (.int .i64 p.1) ∧ w.cell? (a.add (i * 2 + 1)) = some (.int .i64 p.2) := by
      intro i
      by_cases hil : i < len
      · obtain ⟨cs', hc, ht'⟩ := hi i (by omega)
        rw [hC] at hc
        obtain ⟨y0, y1, n', hy, hlen, t0, t1⟩ := trod_struct2 he ht'
        rw [hC] at hlen
        rw [o0, k0] at t0
        rw [o1, k1] at t1
        obtain ⟨_, hcl, hat⟩ := World.cells?_some hc
        match cs', hlen with
        | [u0, u1], _ =>
          obtain ⟨p, hp, _⟩ := DataW.trod_int h0 t0
          obtain ⟨q, hq, _⟩ := DataW.trod_int h1 t1
          simp at hp hq
          have c0 := hat 0 (by omega)
          have c1 := hat 1 (by omega)
          rw [Go.Deep.add_add] at c0 c1
          refine ⟨(p, q), fun _ => ⟨?_, ?_⟩⟩
          · simpa [hp] using c0
          · simpa [hq] using c1
      · exact ⟨(0, 0), fun hc => absurd hc hil⟩
    obtain ⟨g, hsp⟩ : ∃ g : Nat → Int × Int, ∀ i, i < len → w.cell? (a.add (i * 2)) = some (.int .i64 (g i).1) ∧ w.cell? (a.add (i * 2 + 1)) = some (.int .i64 (g i).2) := ⟨fun i => Classical.choose (key i), fun i => Classical.choose_spec (key i)⟩
    refine ⟨some a, len, cap, (List.range len).map g, hcs, by omega, by simp, ?_⟩
    refine ⟨by rw [flat_len pt_len]; simp, fun hn => ⟨a, rfl, ?_, fun j u hu => ?_⟩⟩
    · have := World.block_lt_of_cell? _ _ (hsp 0 hn).1
      rwa [block_of_add] at this
    · have hj : j < len * 2 := by have := (List.getElem?_eq_some_iff.1 hu).1; rw [flat_len pt_len] at this; simpa using this
      have hk : j / 2 < len := by omega
      have e0 : j / 2 * 2 + j % 2 = j := by omega
      have hf := flat_at pt_len (xs := (List.range len).map g) (k := j / 2) (x := g (j / 2)) (by simp [hk]) (j % 2) (by omega)
      rw [e0, hu] at hf
      have hs := hsp _ hk
      rcases (show j % 2 = 0 ∨ j % 2 = 1 by omega) with hr | hr
      · rw [hr] at hf e0
        simp only [pt, List.getElem?_cons_zero, Option.some.injEq] at hf
        have h9 := hs.1
        rw [show j / 2 * 2 = j by omega] at h9
        rw [hf]
        exact h9
      · rw [hr] at hf e0
        simp only [pt, List.getElem?_cons_succ, List.getElem?_cons_zero, Option.some.injEq] at hf
        have h9 := hs.2
        rw [show j / 2 * 2 + 1 = j by omega] at h9
        rw [hf]
        exact h9
end
end Go.Proofs.Ytckihflfjecpbaa
