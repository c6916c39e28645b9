import Derived.Test.YtckihflfjecpbaaK5
import Derived.Deep.Slices
import Derived.Deep.Fields
import Derived.ChangeSame
import Derived.Lib.SmallJoins
namespace Go.Proofs.Ytckihflfjecpbaa
open Go.ChangeShapes Go.WideShapes Go.Deep Go.RowKit
/-- Whatever came in at this type reads as something. -/
def Opens (P : Program) (T : TypeId) {α : Type} (t : Ty α) : Prop :=
  ∀ {H : Type} (enc : TypeId × Value → H) (w : World) (base : Nat) (spare : Nat → Bool) (held : Bool) (fuel : Nat) (cs : List Value) (d : DataW H × List MemPlace), DataW.trod enc P w base spare held fuel T cs = some d → ∃ x, t.R w w.heap.size cs x
section
variable {P : Program} {T : TypeId}
theorem opens_int (h : P.underlying T = some (.int .i64)) : Opens P T tI := fun _ _ _ _ _ _ _ _ ht => by
  obtain ⟨n, hn, _⟩ := DataW.trod_int h ht
  exact ⟨n, hn⟩
theorem opens_bool (h : P.underlying T = some .bool) : Opens P T tB := fun _ _ _ _ _ _ _ _ ht => by
  obtain ⟨n, hn, _⟩ := DataW.trod_bool h ht
  exact ⟨n, hn⟩
theorem opens_sl {α : Type} {t : Ty α} {e e' : TypeId} (ht : P.underlying T = some (.slice e)) (hC : P.cellsOf e = t.s) (he : Opens P e t) : Opens P T (t.sl e') := by
  intro H enc w base spare held fuel cs d h
  rcases open_slice ht h with ⟨rfl, _⟩ | ⟨a, len, cap, m, n, D, Pl, rfl, hb, hl, hm, hmm, hx, hi⟩
  · exact ⟨[], _, rfl, RS.nil _ _ _⟩
  · have hlm : len ≤ m := by rw [hmm]; split <;> omega
    have key : ∀ i, ∃ p : List Value × α, i < len → t.R w w.heap.size p.1 p.2 ∧ ∀ j u, p.1[j]? = some u → w.cell? (a.add (i * t.s + j)) = some u := by
      intro i
      by_cases hil : i < len
      · obtain ⟨cs', hc, ht'⟩ := hi i (by omega)
        rw [hC] at hc
        obtain ⟨x, hR⟩ := he enc w base spare held n cs' _ ht'
        obtain ⟨_, hcl, hat⟩ := World.cells?_some hc
        refine ⟨(cs', x), fun _ => ⟨hR, fun j u hu => ?_⟩⟩
        have hj : j < t.s := by rw [← hcl]; exact (List.getElem?_eq_some_iff.1 hu).1
        have := hat j hj
        rw [Go.Deep.add_add] at this
        rw [this]
        exact hu
      · exact ⟨([], t.zero), fun hc => absurd hc hil⟩
    obtain ⟨g, hg⟩ : ∃ g : Nat → List Value × α, ∀ i, i < len → t.R w w.heap.size (g i).1 (g i).2 ∧ ∀ j u, (g i).1[j]? = some u → w.cell? (a.add (i * t.s + j)) = some u := ⟨fun i => Classical.choose (key i), fun i => Classical.choose_spec (key i)⟩
    have hs : ∀ c ∈ (List.range len).map (fun i => (g i).1), c.length = t.s := by
      intro c hc
      obtain ⟨i, hi, rfl⟩ := List.mem_map.1 hc
      exact t.rlen (hg i (List.mem_range.1 hi)).1
    refine ⟨(List.range len).map fun i => (g i).2, _, rfl, some a, cap, (List.range len).map fun i => (g i).1, by simp, by simpa using hl, hm, by simp, ?_, ?_⟩
    · refine ⟨by rw [flat2_len hs]; simp, fun hn => ⟨a, rfl, ?_, fun j u hu => ?_⟩⟩
      · have hn' : 0 < len := by simpa using hn
        have h0 := (hg 0 hn')
        have hp := t.pos
        obtain ⟨u, hu⟩ : ∃ u, (g 0).1[0]? = some u := ⟨_, List.getElem?_eq_getElem (by rw [t.rlen h0.1]; exact hp)⟩
        have := World.block_lt_of_cell? _ _ (h0.2 0 u hu)
        rwa [block_of_add] at this
      · have hj : j < len * t.s := by have := (List.getElem?_eq_some_iff.1 hu).1; rw [flat2_len hs] at this; simpa using this
        have hk : j / t.s < len := Nat.div_lt_of_lt_mul (by rw [Nat.mul_comm]; exact hj)
        have hr : j % t.s < t.s := Nat.mod_lt _ t.pos
        have e0 : j / t.s * t.s + j % t.s = j := by rw [Nat.mul_comm]; exact Nat.div_add_mod j t.s
        have hf := flat2_at hs (k := j / t.s) (c := (g (j / t.s)).1) (by simp [hk]) (j % t.s) hr
        rw [e0, hu] at hf
        have := (hg _ hk).2 (j % t.s) u hf.symm
        rwa [e0] at this
    · intro k hk hk'
      simp only [List.length_map, List.length_range] at hk
      simp only [List.getElem_map, List.getElem_range]
      exact (hg k hk).1
/-- What the fields from the j-th cell on read as. -/
theorem R_one {α : Type} {t : Ty α} {w : World} {B o n : Nat} {cs : List Value} {x : α} (ho : o = 0) (hn : cs.length = n) (h : t.R w B ((cs.drop o).take n) x) : t.R w B cs x := by
  subst ho hn
  simpa using h
theorem R_pair {α β : Type} {a : Ty α} {b : Ty β} {w : World} {B n : Nat} {cs : List Value} {x : α} {y : β} (h1 : a.R w B (cs.take n) x) (h2 : b.R w B (cs.drop n) y) : (a.prod b).R w B cs (x, y) := ⟨cs.take n, cs.drop n, by simp, h1, h2⟩
/-- A struct of one field. -/
theorem opens_struct1 {α : Type} {t : Ty α} {f0 : Field} (hs : P.underlying T = some (.struct #[f0])) (o0 : f0.offset = 0) (hC : P.cellsOf T = P.cellsOf f0.type) (h0 : Opens P f0.type t) : Opens P T t := by
  intro H enc w base spare held fuel cs d h
  obtain ⟨y0, n, _, hlen, t0⟩ := trod_struct1 hs h
  obtain ⟨x, hx⟩ := h0 enc w base spare held n _ _ t0
  exact ⟨x, R_one o0 (by rw [hlen, hC]) hx⟩
theorem opens_fields {α : Type} {t : Ty α} {fs : Array Field} (hs : P.underlying T = some (.struct fs))
    (hf : ∀ (w : World) (cs : List Value), cs.length = P.cellsOf T → (∀ {H : Type} (enc : TypeId × Value → H) (base : Nat) (spare : Nat → Bool) (held : Bool) (n : Nat) (ys : List (DataW H × List MemPlace)), ys.length = fs.size → (∀ (i : Nat) (f : Field), fs[i]? = some f → DataW.trod enc P w base spare held n f.type ((cs.drop f.offset).take (P.cellsOf f.type)) = ys[i]?) → ∃ x, t.R w w.heap.size cs x)) : Opens P T t := by
  intro H enc w base spare held fuel cs d h
  obtain ⟨ys, n, _, _, hlen, hyl, hg⟩ := DataW.trod_struct hs h
  exact hf w cs hlen enc base spare held n ys hyl hg
end
/-- One field of a struct. -/
theorem field_at {P : Program} {H : Type} {enc : TypeId × Value → H} {w : World} {base n i o k : Nat} {spare : Nat → Bool} {held : Bool} {fs : Array Field} {cs : List Value} {ys : List (DataW H × List MemPlace)} {α : Type} {t : Ty α} {f : Field} {e : TypeId}
    (hyl : ys.length = fs.size) (hg : ∀ (i : Nat) (f : Field), fs[i]? = some f → DataW.trod enc P w base spare held n f.type ((cs.drop f.offset).take (P.cellsOf f.type)) = ys[i]?)
    (hi : fs[i]? = some f) (he : f.type = e) (ho : f.offset = o) (hk : P.cellsOf e = k) (h : Opens P e t) : ∃ x, t.R w w.heap.size ((cs.drop o).take k) x := by
  have h1 := hg i f hi
  have hlt : i < ys.length := by rw [hyl]; exact (Array.getElem?_eq_some_iff.1 hi).1
  rw [List.getElem?_eq_getElem hlt, he, ho, hk] at h1
  exact h enc w base spare held n _ _ h1
theorem flat2_open {P : Program} {T : TypeId} {f0 f1 : Field} {zero : Int × Int} {enc : Int × Int → List Value} {pos : 0 < 2} {henc : ∀ x, (enc x).length = 2} {h1c : ∀ x, ∀ u ∈ enc x, u.oneCell' = true}
    (hE : ∀ a b, enc (a, b) = [.int .i64 a, .int .i64 b]) (hs : P.underlying T = some (.struct #[f0, f1])) (h0 : P.underlying f0.type = some (.int .i64)) (h1 : P.underlying f1.type = some (.int .i64)) (o0 : f0.offset = 0) (o1 : f1.offset = 1)
    (k0 : P.cellsOf f0.type = 1) (k1 : P.cellsOf f1.type = 1) (hC : P.cellsOf T = 2) : Opens P T (Ty.flat 2 pos zero enc henc h1c) :=
  opens_fields hs fun w cs hl {H} enc' base spare held n ys hyl hg => by
    obtain ⟨a, ha⟩ := field_at (i := 0) hyl hg rfl rfl o0 k0 (opens_int h0)
    obtain ⟨b, hb⟩ := field_at (i := 1) hyl hg rfl rfl o1 k1 (opens_int h1)
    rw [hC] at hl
    match cs, hl with
    | [u, v], _ =>
      refine ⟨(a, b), ?_⟩
      show [u, v] = enc (a, b)
      have ha' : [u] = [Value.int .i64 a] := ha
      have hb' : [v] = [Value.int .i64 b] := hb
      rw [hE]
      injection ha' with e1
      injection hb' with e2
      rw [e1, e2]
end Go.Proofs.Ytckihflfjecpbaa
