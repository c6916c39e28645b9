import Derived.Test.YtfkcoiefkjmdeaaGreatFnGainsG4
import Derived.Test.YtfkcoiefkjmdeaaGreatFnGainsG3
import Derived.Test.YtfkcoiefkjmdeaaGreatFnGainsG2
set_option linter.unusedVariables false
set_option linter.unusedSimpArgs false
namespace Go.Proofs.YtfkcoiefkjmdeaaGreat
open Go.RowKit Go.Sort
set_option maxHeartbeats 4000000
set_option maxRecDepth 100000
set_option linter.unusedVariables false
/-- Footprints of the parts of a session. -/
structure FZ (w0 g : Nat) (F1 F2 F3 F4 F5 : Nat → Prop) : Prop where
  o1 : ∀ z, F1 z → w0 < z ∧ z ≠ g
  o2 : ∀ z, F2 z → w0 < z ∧ z ≠ g
  o3 : ∀ z, F3 z → w0 < z ∧ z ≠ g
  o4 : ∀ z, F4 z → w0 < z ∧ z ≠ g
  o5 : ∀ z, F5 z → w0 < z ∧ z ≠ g
  a12 : ∀ z, F1 z → ¬ F2 z
  a13 : ∀ z, F1 z → ¬ F3 z
  a14 : ∀ z, F1 z → ¬ F4 z
  a15 : ∀ z, F1 z → ¬ F5 z
  a23 : ∀ z, F2 z → ¬ F3 z
  a24 : ∀ z, F2 z → ¬ F4 z
  a25 : ∀ z, F2 z → ¬ F5 z
  a34 : ∀ z, F3 z → ¬ F4 z
  a35 : ∀ z, F3 z → ¬ F5 z
  a45 : ∀ z, F4 z → ¬ F5 z
/-- How the drawing of a session stands: the result's box, the session's box at g, what it owns. -/
structure DZ (w : World) (b lo : Nat) (A : Option Addr) (n c : Nat) (code : List UInt8) (g K : Nat) (i : Int) (v1 v2 v3 v4 v5 : Value) (x1 : List (List Int)) (x2 : List (List Clip_)) (x3 : List Int) (x4 : List Patch) (x5 : List Strip) (F1 F2 F3 F4 F5 : Nat → Prop) (wr : World) : Prop where
  e : ∀ j, j < 6 → wr.cell? ⟨w.heap.size, j, none⟩ = some (if j = 0 then .int .i64 0 else .slice none 0 0) ∧ wr.frozen? ⟨w.heap.size, j, none⟩ = false
  p0 : wr.cell? ⟨g, 0, none⟩ = some (.int .i64 i)
  p1 : wr.cell? ⟨g, 1, none⟩ = some v1
  p2 : wr.cell? ⟨g, 2, none⟩ = some v2
  p3 : wr.cell? ⟨g, 3, none⟩ = some v3
  p4 : wr.cell? ⟨g, 4, none⟩ = some v4
  p5 : wr.cell? ⟨g, 5, none⟩ = some v5
  q : ∀ j, j < 6 → wr.frozen? ⟨g, j, none⟩ = false
  r1 : OS tS 26 wr F1 v1 x1
  r2 : OS tT 42 wr F2 v2 x2
  r3 : OS tI 2 wr F3 v3 x3
  r4 : OS tP 36 wr F4 v4 x4
  r5 : OS tSt 100 wr F5 v5 x5
  fd : FZ w.heap.size g F1 F2 F3 F4 F5
  src : Src wr b lo A n c code K
  mid : Mid b (b + 1) w wr
  sz : g < wr.heap.size
  lo : w.heap.size < g
section
variable {w wr w' w4 : World} {b lo : Nat} {A : Option Addr} {n c : Nat} {code : List UInt8} {g K K' : Nat} {i : Int} {v1 v2 v3 v4 v5 v' : Value} {x1 : List (List Int)} {x2 : List (List Clip_)} {x3 : List Int} {x4 : List Patch} {x5 : List Strip} {F1 F2 F3 F4 F5 F' : Nat → Prop}
theorem DZ.step (h : DZ w b lo A n c code g K i v1 v2 v3 v4 v5 x1 x2 x3 x4 x5 F1 F2 F3 F4 F5 wr) (hb : b < w.heap.size) (hs : Src w' b lo A n c code K') (hm : Mid b (b + 1) wr w') : DZ w b lo A n c code g K' i v1 v2 v3 v4 v5 x1 x2 x3 x4 x5 F1 F2 F3 F4 F5 w' := by
  have hz := h.sz
  have hl := h.lo
  have h1 : w.heap.size < wr.heap.size := by omega
  have h2 : b < g := by omega
  have cG : ∀ {o u}, wr.cell? ⟨g, o, none⟩ = u → w'.cell? ⟨g, o, none⟩ = u := fun h3 => hm.cellK hz (.inr h2) h3
  exact ⟨fun j hj => ⟨hm.cellK h1 (.inr hb) (h.e j hj).1, hm.frozK h1 (.inr hb) (h.e j hj).2⟩, cG h.p0, cG h.p1, cG h.p2, cG h.p3, cG h.p4, cG h.p5, fun j hj => hm.frozK hz (.inr h2) (h.q j hj),
    h.r1.chg (Chg.of_mid hm) (fun z h1 h2 => by have := (h.fd.o1 z h1).1; omega), h.r2.chg (Chg.of_mid hm) (fun z h1 h2 => by have := (h.fd.o2 z h1).1; omega), h.r3.chg (Chg.of_mid hm) (fun z h1 h2 => by have := (h.fd.o3 z h1).1; omega), h.r4.chg (Chg.of_mid hm) (fun z h1 h2 => by have := (h.fd.o4 z h1).1; omega), h.r5.chg (Chg.of_mid hm) (fun z h1 h2 => by have := (h.fd.o5 z h1).1; omega),
    h.fd, hs, h.mid.trans hm, Nat.lt_of_lt_of_le hz hm.size, hl⟩
theorem DZ.more (h : DZ w b lo A n c code g K i v1 v2 v3 v4 v5 x1 x2 x3 x4 x5 F1 F2 F3 F4 F5 wr) (hK : K ≤ K') : DZ w b lo A n c code g K' i v1 v2 v3 v4 v5 x1 x2 x3 x4 x5 F1 F2 F3 F4 F5 wr :=
  ⟨h.e, h.p0, h.p1, h.p2, h.p3, h.p4, h.p5, h.q, h.r1, h.r2, h.r3, h.r4, h.r5, h.fd, h.src.more hK, h.mid, h.sz, h.lo⟩
/-- Blocks of one part turned. -/
theorem DZ.turn (h : DZ w b lo A n c code g K i v1 v2 v3 v4 v5 x1 x2 x3 x4 x5 F1 F2 F3 F4 F5 wr) (hb : b < w.heap.size) {F : Nat → Prop} (hF : ∀ z, F z → w.heap.size < z ∧ z ≠ g) (hc : Chg F wr w4) :
    (∀ j, j < 6 → w4.cell? ⟨w.heap.size, j, none⟩ = some (if j = 0 then .int .i64 0 else .slice none 0 0) ∧ w4.frozen? ⟨w.heap.size, j, none⟩ = false) ∧ (∀ o u, wr.cell? ⟨g, o, none⟩ = u → w4.cell? ⟨g, o, none⟩ = u) ∧ (∀ j, j < 6 → w4.frozen? ⟨g, j, none⟩ = false) ∧ Src w4 b lo A n c code K ∧ Mid b (b + 1) w w4 ∧ g < w4.heap.size := by
  have hz := h.sz
  have hl := h.lo
  have hs4 : wr.heap.size ≤ w4.heap.size := hc.size
  have MB : Below w.heap.size wr w4 := hc.toBelow (fun z h => by have := hF z h; omega) (by omega)
  refine ⟨fun j hj => ⟨?_, ?_⟩, fun o u hu => ?_, fun j hj => ?_, h.src.below MB hb, h.mid.thenB' MB (Nat.le_refl _), by omega⟩
  · rw [hc.cell1 (show w.heap.size < _ by omega) (fun h => absurd (show w.heap.size < w.heap.size from (hF _ h).1) (by omega))]; exact (h.e j hj).1
  · rw [hc.frozen1 (show w.heap.size < _ by omega) (fun h => absurd (show w.heap.size < w.heap.size from (hF _ h).1) (by omega))]; exact (h.e j hj).2
  · rw [hc.cell1 hz (fun h => (hF _ h).2 rfl)]; exact hu
  · rw [hc.frozen1 hz (fun h => (hF _ h).2 rfl)]; exact h.q j hj
/-- Part 1 is written anew. -/
theorem DZ.push1 (h : DZ w b lo A n c code g K i v1 v2 v3 v4 v5 x1 x2 x3 x4 x5 F1 F2 F3 F4 F5 wr) (hb : b < w.heap.size) (hc : Chg F1 wr w4) {x' : List (List Int)} (r' : OS tS 26 w4 F' v' x') (fd : FZ w.heap.size g F' F2 F3 F4 F5) : DZ w b lo A n c code g K i v' v2 v3 v4 v5 x' x2 x3 x4 x5 F' F2 F3 F4 F5 (w4.setCell ⟨g, 1, none⟩ v') := by
  obtain ⟨h1, h2, h3, h4, h5, h6⟩ := h.turn hb h.fd.o1 hc
  have hl := h.lo
  have CB : Chg (fun z => z = g) w4 (w4.setCell ⟨g, 1, none⟩ v') := Chg.set w4 g 1 _ rfl
  have MB : Below w.heap.size w4 (w4.setCell ⟨g, 1, none⟩ v') := CB.toBelow (fun z h => by omega) (by omega)
  refine ⟨fun j hj => ⟨?_, (World.frozen?_setCell _ _ _ _).trans (h1 j hj).2⟩, (cell_off w4 g _ (by decide)).trans (h2 _ _ h.p0), World.cell?_setCell_same _ _ _ (h2 _ _ h.p1), (cell_off w4 g _ (by decide)).trans (h2 _ _ h.p2), (cell_off w4 g _ (by decide)).trans (h2 _ _ h.p3), (cell_off w4 g _ (by decide)).trans (h2 _ _ h.p4), (cell_off w4 g _ (by decide)).trans (h2 _ _ h.p5), fun j hj => (World.frozen?_setCell _ _ _ _).trans (h3 j hj),
    r'.chg CB (fun z a b => (fd.o1 z a).2 b), (h.r2.chg hc (fun z a b => h.fd.a12 z b a)).chg CB (fun z a b => (h.fd.o2 z a).2 b), (h.r3.chg hc (fun z a b => h.fd.a13 z b a)).chg CB (fun z a b => (h.fd.o3 z a).2 b), (h.r4.chg hc (fun z a b => h.fd.a14 z b a)).chg CB (fun z a b => (h.fd.o4 z a).2 b), (h.r5.chg hc (fun z a b => h.fd.a15 z b a)).chg CB (fun z a b => (h.fd.o5 z a).2 b), fd, h4.below MB hb, h5.thenB' MB (by have := h.mid.size; omega), by simpa using h6, hl⟩
  rw [World.cell?_of_block (heap_setCell_other w4 ⟨g, 1, none⟩ w.heap.size _ (by show w.heap.size ≠ g; omega))]; exact (h1 j hj).1
/-- Part 2 is written anew. -/
theorem DZ.push2 (h : DZ w b lo A n c code g K i v1 v2 v3 v4 v5 x1 x2 x3 x4 x5 F1 F2 F3 F4 F5 wr) (hb : b < w.heap.size) (hc : Chg F2 wr w4) {x' : List (List Clip_)} (r' : OS tT 42 w4 F' v' x') (fd : FZ w.heap.size g F1 F' F3 F4 F5) : DZ w b lo A n c code g K i v1 v' v3 v4 v5 x1 x' x3 x4 x5 F1 F' F3 F4 F5 (w4.setCell ⟨g, 2, none⟩ v') := by
  obtain ⟨h1, h2, h3, h4, h5, h6⟩ := h.turn hb h.fd.o2 hc
  have hl := h.lo
  have CB : Chg (fun z => z = g) w4 (w4.setCell ⟨g, 2, none⟩ v') := Chg.set w4 g 2 _ rfl
  have MB : Below w.heap.size w4 (w4.setCell ⟨g, 2, none⟩ v') := CB.toBelow (fun z h => by omega) (by omega)
  refine ⟨fun j hj => ⟨?_, (World.frozen?_setCell _ _ _ _).trans (h1 j hj).2⟩, (cell_off w4 g _ (by decide)).trans (h2 _ _ h.p0), (cell_off w4 g _ (by decide)).trans (h2 _ _ h.p1), World.cell?_setCell_same _ _ _ (h2 _ _ h.p2), (cell_off w4 g _ (by decide)).trans (h2 _ _ h.p3), (cell_off w4 g _ (by decide)).trans (h2 _ _ h.p4), (cell_off w4 g _ (by decide)).trans (h2 _ _ h.p5), fun j hj => (World.frozen?_setCell _ _ _ _).trans (h3 j hj),
    (h.r1.chg hc (fun z a b => h.fd.a12 z a b)).chg CB (fun z a b => (h.fd.o1 z a).2 b), r'.chg CB (fun z a b => (fd.o2 z a).2 b), (h.r3.chg hc (fun z a b => h.fd.a23 z b a)).chg CB (fun z a b => (h.fd.o3 z a).2 b), (h.r4.chg hc (fun z a b => h.fd.a24 z b a)).chg CB (fun z a b => (h.fd.o4 z a).2 b), (h.r5.chg hc (fun z a b => h.fd.a25 z b a)).chg CB (fun z a b => (h.fd.o5 z a).2 b), fd, h4.below MB hb, h5.thenB' MB (by have := h.mid.size; omega), by simpa using h6, hl⟩
  rw [World.cell?_of_block (heap_setCell_other w4 ⟨g, 2, none⟩ w.heap.size _ (by show w.heap.size ≠ g; omega))]; exact (h1 j hj).1
/-- Part 3 is written anew. -/
theorem DZ.push3 (h : DZ w b lo A n c code g K i v1 v2 v3 v4 v5 x1 x2 x3 x4 x5 F1 F2 F3 F4 F5 wr) (hb : b < w.heap.size) (hc : Chg F3 wr w4) {x' : List Int} (r' : OS tI 2 w4 F' v' x') (fd : FZ w.heap.size g F1 F2 F' F4 F5) : DZ w b lo A n c code g K i v1 v2 v' v4 v5 x1 x2 x' x4 x5 F1 F2 F' F4 F5 (w4.setCell ⟨g, 3, none⟩ v') := by
  obtain ⟨h1, h2, h3, h4, h5, h6⟩ := h.turn hb h.fd.o3 hc
  have hl := h.lo
  have CB : Chg (fun z => z = g) w4 (w4.setCell ⟨g, 3, none⟩ v') := Chg.set w4 g 3 _ rfl
  have MB : Below w.heap.size w4 (w4.setCell ⟨g, 3, none⟩ v') := CB.toBelow (fun z h => by omega) (by omega)
  refine ⟨fun j hj => ⟨?_, (World.frozen?_setCell _ _ _ _).trans (h1 j hj).2⟩, (cell_off w4 g _ (by decide)).trans (h2 _ _ h.p0), (cell_off w4 g _ (by decide)).trans (h2 _ _ h.p1), (cell_off w4 g _ (by decide)).trans (h2 _ _ h.p2), World.cell?_setCell_same _ _ _ (h2 _ _ h.p3), (cell_off w4 g _ (by decide)).trans (h2 _ _ h.p4), (cell_off w4 g _ (by decide)).trans (h2 _ _ h.p5), fun j hj => (World.frozen?_setCell _ _ _ _).trans (h3 j hj),
    (h.r1.chg hc (fun z a b => h.fd.a13 z a b)).chg CB (fun z a b => (h.fd.o1 z a).2 b), (h.r2.chg hc (fun z a b => h.fd.a23 z a b)).chg CB (fun z a b => (h.fd.o2 z a).2 b), r'.chg CB (fun z a b => (fd.o3 z a).2 b), (h.r4.chg hc (fun z a b => h.fd.a34 z b a)).chg CB (fun z a b => (h.fd.o4 z a).2 b), (h.r5.chg hc (fun z a b => h.fd.a35 z b a)).chg CB (fun z a b => (h.fd.o5 z a).2 b), fd, h4.below MB hb, h5.thenB' MB (by have := h.mid.size; omega), by simpa using h6, hl⟩
  rw [World.cell?_of_block (heap_setCell_other w4 ⟨g, 3, none⟩ w.heap.size _ (by show w.heap.size ≠ g; omega))]; exact (h1 j hj).1
/-- Part 4 is written anew. -/
theorem DZ.push4 (h : DZ w b lo A n c code g K i v1 v2 v3 v4 v5 x1 x2 x3 x4 x5 F1 F2 F3 F4 F5 wr) (hb : b < w.heap.size) (hc : Chg F4 wr w4) {x' : List Patch} (r' : OS tP 36 w4 F' v' x') (fd : FZ w.heap.size g F1 F2 F3 F' F5) : DZ w b lo A n c code g K i v1 v2 v3 v' v5 x1 x2 x3 x' x5 F1 F2 F3 F' F5 (w4.setCell ⟨g, 4, none⟩ v') := by
  obtain ⟨h1, h2, h3, h4, h5, h6⟩ := h.turn hb h.fd.o4 hc
  have hl := h.lo
  have CB : Chg (fun z => z = g) w4 (w4.setCell ⟨g, 4, none⟩ v') := Chg.set w4 g 4 _ rfl
  have MB : Below w.heap.size w4 (w4.setCell ⟨g, 4, none⟩ v') := CB.toBelow (fun z h => by omega) (by omega)
  refine ⟨fun j hj => ⟨?_, (World.frozen?_setCell _ _ _ _).trans (h1 j hj).2⟩, (cell_off w4 g _ (by decide)).trans (h2 _ _ h.p0), (cell_off w4 g _ (by decide)).trans (h2 _ _ h.p1), (cell_off w4 g _ (by decide)).trans (h2 _ _ h.p2), (cell_off w4 g _ (by decide)).trans (h2 _ _ h.p3), World.cell?_setCell_same _ _ _ (h2 _ _ h.p4), (cell_off w4 g _ (by decide)).trans (h2 _ _ h.p5), fun j hj => (World.frozen?_setCell _ _ _ _).trans (h3 j hj),
    (h.r1.chg hc (fun z a b => h.fd.a14 z a b)).chg CB (fun z a b => (h.fd.o1 z a).2 b), (h.r2.chg hc (fun z a b => h.fd.a24 z a b)).chg CB (fun z a b => (h.fd.o2 z a).2 b), (h.r3.chg hc (fun z a b => h.fd.a34 z a b)).chg CB (fun z a b => (h.fd.o3 z a).2 b), r'.chg CB (fun z a b => (fd.o4 z a).2 b), (h.r5.chg hc (fun z a b => h.fd.a45 z b a)).chg CB (fun z a b => (h.fd.o5 z a).2 b), fd, h4.below MB hb, h5.thenB' MB (by have := h.mid.size; omega), by simpa using h6, hl⟩
  rw [World.cell?_of_block (heap_setCell_other w4 ⟨g, 4, none⟩ w.heap.size _ (by show w.heap.size ≠ g; omega))]; exact (h1 j hj).1
/-- Part 5 is written anew. -/
theorem DZ.push5 (h : DZ w b lo A n c code g K i v1 v2 v3 v4 v5 x1 x2 x3 x4 x5 F1 F2 F3 F4 F5 wr) (hb : b < w.heap.size) (hc : Chg F5 wr w4) {x' : List Strip} (r' : OS tSt 100 w4 F' v' x') (fd : FZ w.heap.size g F1 F2 F3 F4 F') : DZ w b lo A n c code g K i v1 v2 v3 v4 v' x1 x2 x3 x4 x' F1 F2 F3 F4 F' (w4.setCell ⟨g, 5, none⟩ v') := by
  obtain ⟨h1, h2, h3, h4, h5, h6⟩ := h.turn hb h.fd.o5 hc
  have hl := h.lo
  have CB : Chg (fun z => z = g) w4 (w4.setCell ⟨g, 5, none⟩ v') := Chg.set w4 g 5 _ rfl
  have MB : Below w.heap.size w4 (w4.setCell ⟨g, 5, none⟩ v') := CB.toBelow (fun z h => by omega) (by omega)
  refine ⟨fun j hj => ⟨?_, (World.frozen?_setCell _ _ _ _).trans (h1 j hj).2⟩, (cell_off w4 g _ (by decide)).trans (h2 _ _ h.p0), (cell_off w4 g _ (by decide)).trans (h2 _ _ h.p1), (cell_off w4 g _ (by decide)).trans (h2 _ _ h.p2), (cell_off w4 g _ (by decide)).trans (h2 _ _ h.p3), (cell_off w4 g _ (by decide)).trans (h2 _ _ h.p4), World.cell?_setCell_same _ _ _ (h2 _ _ h.p5), fun j hj => (World.frozen?_setCell _ _ _ _).trans (h3 j hj),
    (h.r1.chg hc (fun z a b => h.fd.a15 z a b)).chg CB (fun z a b => (h.fd.o1 z a).2 b), (h.r2.chg hc (fun z a b => h.fd.a25 z a b)).chg CB (fun z a b => (h.fd.o2 z a).2 b), (h.r3.chg hc (fun z a b => h.fd.a35 z a b)).chg CB (fun z a b => (h.fd.o3 z a).2 b), (h.r4.chg hc (fun z a b => h.fd.a45 z a b)).chg CB (fun z a b => (h.fd.o4 z a).2 b), r'.chg CB (fun z a b => (fd.o5 z a).2 b), fd, h4.below MB hb, h5.thenB' MB (by have := h.mid.size; omega), by simpa using h6, hl⟩
  rw [World.cell?_of_block (heap_setCell_other w4 ⟨g, 5, none⟩ w.heap.size _ (by show w.heap.size ≠ g; omega))]; exact (h1 j hj).1
end
/-- What the drawing of a session gives back. -/
def DrewZ (b lo : Nat) (A : Option Addr) (n c : Nat) (code : List UInt8) (K : Nat) (P : Sess → Prop) (w : World) (e : Ending) (w' : World) : Prop :=
  ∃ i A1 n1 c1 A2 n2 c2 A3 n3 c3 A4 n4 c4 A5 n5 c5 x, e = .returned (.agg #[.int .i64 i, .slice A1 n1 c1, .slice A2 n2 c2, .slice A3 n3 c3, .slice A4 n4 c4, .slice A5 n5 c5]) ∧ tZ.O w' (Iv w.heap.size w'.heap.size) [.int .i64 i, .slice A1 n1 c1, .slice A2 n2 c2, .slice A3 n3 c3, .slice A4 n4 c4, .slice A5 n5 c5] x ∧ Hid (P x) ∧ Src w' b lo A n c code K ∧ Mid b (b + 1) w w'
theorem DZ.fin {w wr : World} {b lo : Nat} {A : Option Addr} {n c : Nat} {code : List UInt8} {g K : Nat} {i : Int} {A1 : Option Addr} {n1 c1 : Nat} {A2 : Option Addr} {n2 c2 : Nat} {A3 : Option Addr} {n3 c3 : Nat} {A4 : Option Addr} {n4 c4 : Nat} {A5 : Option Addr} {n5 c5 : Nat} {x1 : List (List Int)} {x2 : List (List Clip_)} {x3 : List Int} {x4 : List Patch} {x5 : List Strip} {F1 F2 F3 F4 F5 : Nat → Prop}
    (h : DZ w b lo A n c code g K i (.slice A1 n1 c1) (.slice A2 n2 c2) (.slice A3 n3 c3) (.slice A4 n4 c4) (.slice A5 n5 c5) x1 x2 x3 x4 x5 F1 F2 F3 F4 F5 wr) (hb : b < w.heap.size) {P : Sess → Prop} (hP : P (i, x1, x2, x3, x4, x5)) :
    DrewZ b lo A n c code K P w (.returned (.agg #[.int .i64 i, .slice A1 n1 c1, .slice A2 n2 c2, .slice A3 n3 c3, .slice A4 n4 c4, .slice A5 n5 c5])) ((((((wr.setCell ⟨w.heap.size, 0, none⟩ (.int .i64 i)).setCell ⟨w.heap.size, 1, none⟩ (.slice A1 n1 c1)).setCell ⟨w.heap.size, 2, none⟩ (.slice A2 n2 c2)).setCell ⟨w.heap.size, 3, none⟩ (.slice A3 n3 c3)).setCell ⟨w.heap.size, 4, none⟩ (.slice A4 n4 c4)).setCell ⟨w.heap.size, 5, none⟩ (.slice A5 n5 c5)) := by
  have hz := h.sz
  have hl := h.lo
  have st : ∀ (u : World) (o : Nat) (x : Value), Chg (fun z => z = w.heap.size) u (u.setCell ⟨w.heap.size, o, none⟩ x) := fun u o x => Chg.set u w.heap.size o _ rfl
  have CH := ((((((st wr 0 (.int .i64 i)).trans (st _ 1 (.slice A1 n1 c1))).trans (st _ 2 (.slice A2 n2 c2))).trans (st _ 3 (.slice A3 n3 c3))).trans (st _ 4 (.slice A4 n4 c4))).trans (st _ 5 (.slice A5 n5 c5)))
  have MB := CH.toBelow (B := w.heap.size) (fun z h => by omega) (by omega)
  have hs := CH.size
  refine ⟨i, A1, n1, c1, A2, n2, c2, A3, n3, c3, A4, n4, c4, A5, n5, c5, (i, x1, x2, x3, x4, x5), rfl, ?_, Lib.hid hP, h.src.below MB hb, h.mid.thenB' MB (Nat.le_refl _)⟩
  have wd : ∀ {F : Nat → Prop}, (∀ z, F z → w.heap.size < z ∧ z ≠ g) → ∀ z, (F z ∧ z < wr.heap.size) → w.heap.size ≤ z ∧ z < _ := fun hF z h1 => ⟨Nat.le_of_lt (hF z h1.1).1, Nat.lt_of_lt_of_le h1.2 hs⟩
  exact tZ_O.2 ⟨A1, n1, c1, A2, n2, c2, A3, n3, c3, A4, n4, c4, A5, n5, c5, _, _, _, _, _, rfl, sl_O.2 (h.r1.real.chg CH (fun z h1 h2 => by have := (h.fd.o1 z h1.1).1; omega)), sl_O.2 (h.r2.real.chg CH (fun z h1 h2 => by have := (h.fd.o2 z h1.1).1; omega)), sl_O.2 (h.r3.real.chg CH (fun z h1 h2 => by have := (h.fd.o3 z h1.1).1; omega)), sl_O.2 (h.r4.real.chg CH (fun z h1 h2 => by have := (h.fd.o4 z h1.1).1; omega)), sl_O.2 (h.r5.real.chg CH (fun z h1 h2 => by have := (h.fd.o5 z h1.1).1; omega)),
    wd h.fd.o1, wd h.fd.o2, wd h.fd.o3, wd h.fd.o4, wd h.fd.o5, fun z a b => h.fd.a12 z a.1 b.1, fun z a b => h.fd.a13 z a.1 b.1, fun z a b => h.fd.a14 z a.1 b.1, fun z a b => h.fd.a15 z a.1 b.1, fun z a b => h.fd.a23 z a.1 b.1, fun z a b => h.fd.a24 z a.1 b.1, fun z a b => h.fd.a25 z a.1 b.1, fun z a b => h.fd.a34 z a.1 b.1, fun z a b => h.fd.a35 z a.1 b.1, fun z a b => h.fd.a45 z a.1 b.1⟩
/-- .. whatever the parts own, all of it laid by now. -/
def DS (w : World) (b lo : Nat) (A : Option Addr) (n c : Nat) (code : List UInt8) (g K M : Nat) (i : Int) (v1 v2 v3 v4 v5 : Value) (x1 : List (List Int)) (x2 : List (List Clip_)) (x3 : List Int) (x4 : List Patch) (x5 : List Strip) (wr : World) : Prop := ∃ F1 F2 F3 F4 F5 : Nat → Prop, DZ w b lo A n c code g K i v1 v2 v3 v4 v5 x1 x2 x3 x4 x5 F1 F2 F3 F4 F5 wr ∧ (∀ z, F1 z ∨ F2 z ∨ F3 z ∨ F4 z ∨ F5 z → z < M) ∧ M ≤ wr.heap.size ∧ g < M
section
variable {w wr w' : World} {b lo : Nat} {A : Option Addr} {n c : Nat} {code : List UInt8} {g K K' M : Nat} {i : Int} {v1 v2 v3 v4 v5 : Value} {x1 : List (List Int)} {x2 : List (List Clip_)} {x3 : List Int} {x4 : List Patch} {x5 : List Strip}
theorem DS.step (h : DS w b lo A n c code g K M i v1 v2 v3 v4 v5 x1 x2 x3 x4 x5 wr) (hb : b < w.heap.size) (hs : Src w' b lo A n c code K') (hm : Mid b (b + 1) wr w') : DS w b lo A n c code g K' M i v1 v2 v3 v4 v5 x1 x2 x3 x4 x5 w' := by
  obtain ⟨F1, F2, F3, F4, F5, h, hB, hM, hg⟩ := h
  exact ⟨F1, F2, F3, F4, F5, h.step hb hs hm, hB, Nat.le_trans hM hm.size, hg⟩
theorem DS.more (h : DS w b lo A n c code g K M i v1 v2 v3 v4 v5 x1 x2 x3 x4 x5 wr) (hK : K ≤ K') : DS w b lo A n c code g K' M i v1 v2 v3 v4 v5 x1 x2 x3 x4 x5 wr := by
  obtain ⟨F1, F2, F3, F4, F5, h, hB, hM, hg⟩ := h
  exact ⟨F1, F2, F3, F4, F5, h.more hK, hB, hM, hg⟩
theorem DS.up (h : DS w b lo A n c code g K M i v1 v2 v3 v4 v5 x1 x2 x3 x4 x5 wr) : DS w b lo A n c code g K wr.heap.size i v1 v2 v3 v4 v5 x1 x2 x3 x4 x5 wr := by
  obtain ⟨F1, F2, F3, F4, F5, h, hB, hM, hg⟩ := h
  exact ⟨F1, F2, F3, F4, F5, h, fun z hz => Nat.lt_of_lt_of_le (hB z hz) hM, Nat.le_refl _, h.sz⟩
theorem DS.src (h : DS w b lo A n c code g K M i v1 v2 v3 v4 v5 x1 x2 x3 x4 x5 wr) : Src wr b lo A n c code K := by obtain ⟨F1, F2, F3, F4, F5, h, hB, hM, hg⟩ := h; exact h.src
theorem DS.sz (h : DS w b lo A n c code g K M i v1 v2 v3 v4 v5 x1 x2 x3 x4 x5 wr) : g < wr.heap.size ∧ w.heap.size < g := by obtain ⟨F1, F2, F3, F4, F5, h, hB, hM, hg⟩ := h; exact ⟨h.sz, h.lo⟩
theorem DS.mid (h : DS w b lo A n c code g K M i v1 v2 v3 v4 v5 x1 x2 x3 x4 x5 wr) : Mid b (b + 1) w wr := by obtain ⟨F1, F2, F3, F4, F5, h, hB, hM, hg⟩ := h; exact h.mid
theorem DS.p0 (h : DS w b lo A n c code g K M i v1 v2 v3 v4 v5 x1 x2 x3 x4 x5 wr) : wr.cell? ⟨g, 0, none⟩ = some (.int .i64 i) := by obtain ⟨F1, F2, F3, F4, F5, h, hB, hM, hg⟩ := h; exact h.p0
theorem DS.p1 (h : DS w b lo A n c code g K M i v1 v2 v3 v4 v5 x1 x2 x3 x4 x5 wr) : wr.cell? ⟨g, 1, none⟩ = some v1 := by obtain ⟨F1, F2, F3, F4, F5, h, hB, hM, hg⟩ := h; exact h.p1
theorem DS.p2 (h : DS w b lo A n c code g K M i v1 v2 v3 v4 v5 x1 x2 x3 x4 x5 wr) : wr.cell? ⟨g, 2, none⟩ = some v2 := by obtain ⟨F1, F2, F3, F4, F5, h, hB, hM, hg⟩ := h; exact h.p2
theorem DS.p3 (h : DS w b lo A n c code g K M i v1 v2 v3 v4 v5 x1 x2 x3 x4 x5 wr) : wr.cell? ⟨g, 3, none⟩ = some v3 := by obtain ⟨F1, F2, F3, F4, F5, h, hB, hM, hg⟩ := h; exact h.p3
theorem DS.p4 (h : DS w b lo A n c code g K M i v1 v2 v3 v4 v5 x1 x2 x3 x4 x5 wr) : wr.cell? ⟨g, 4, none⟩ = some v4 := by obtain ⟨F1, F2, F3, F4, F5, h, hB, hM, hg⟩ := h; exact h.p4
theorem DS.p5 (h : DS w b lo A n c code g K M i v1 v2 v3 v4 v5 x1 x2 x3 x4 x5 wr) : wr.cell? ⟨g, 5, none⟩ = some v5 := by obtain ⟨F1, F2, F3, F4, F5, h, hB, hM, hg⟩ := h; exact h.p5
theorem DS.q (h : DS w b lo A n c code g K M i v1 v2 v3 v4 v5 x1 x2 x3 x4 x5 wr) : ∀ j, j < 6 → wr.frozen? ⟨g, j, none⟩ = false := by obtain ⟨F1, F2, F3, F4, F5, h, hB, hM, hg⟩ := h; exact h.q
theorem DS.e (h : DS w b lo A n c code g K M i v1 v2 v3 v4 v5 x1 x2 x3 x4 x5 wr) : ∀ j, j < 6 → wr.cell? ⟨w.heap.size, j, none⟩ = some (if j = 0 then .int .i64 0 else .slice none 0 0) ∧ wr.frozen? ⟨w.heap.size, j, none⟩ = false := by obtain ⟨F1, F2, F3, F4, F5, h, hB, hM, hg⟩ := h; exact h.e
/-- Part 1, to be turned and written anew. -/
theorem DS.open1 (h : DS w b lo A n c code g K M i v1 v2 v3 v4 v5 x1 x2 x3 x4 x5 wr) (hb : b < w.heap.size) : ∃ F : Nat → Prop, OS tS 26 wr F v1 x1 ∧ (∀ z, F z → w.heap.size < z ∧ z ≠ g ∧ z < M) ∧ ∀ (w4 : World) (F' : Nat → Prop) (v' : Value) (x' : List (List Int)), Chg F wr w4 → OS tS 26 w4 F' v' x' → (∀ z, F' z → F z ∨ M ≤ z) → DS w b lo A n c code g K w4.heap.size i v' v2 v3 v4 v5 x' x2 x3 x4 x5  (w4.setCell ⟨g, 1, none⟩ v') := by
  obtain ⟨F1, F2, F3, F4, F5, h, hB, hM, hg⟩ := h
  refine ⟨F1, h.r1, fun z hz => ⟨(h.fd.o1 z hz).1, (h.fd.o1 z hz).2, hB z (by simp [hz])⟩, fun w4 F' v' x' hc r' hF => ?_⟩
  have hl := h.lo
  have hz := h.sz
  have hs := hc.size
  have fd : FZ w.heap.size g (fun z => F' z ∧ z < w4.heap.size) F2 F3 F4 F5 := ⟨fun z a => by rcases hF z a.1 with a | a; exact h.fd.o1 z a; omega, h.fd.o2, h.fd.o3, h.fd.o4, h.fd.o5, fun z a b => by rcases hF z a.1 with a | a; exact h.fd.a12 z a b; have := hB z (by simp [b]); omega, fun z a b => by rcases hF z a.1 with a | a; exact h.fd.a13 z a b; have := hB z (by simp [b]); omega, fun z a b => by rcases hF z a.1 with a | a; exact h.fd.a14 z a b; have := hB z (by simp [b]); omega, fun z a b => by rcases hF z a.1 with a | a; exact h.fd.a15 z a b; have := hB z (by simp [b]); omega, h.fd.a23, h.fd.a24, h.fd.a25, h.fd.a34, h.fd.a35, h.fd.a45⟩
  refine ⟨_, F2, F3, F4, F5, h.push1 hb hc r'.real fd, fun z hz => ?_, by simp, by omega⟩
  rcases hz with hz | hz | hz | hz | hz
  · exact hz.2
  · have := hB z (by simp [hz]); omega
  · have := hB z (by simp [hz]); omega
  · have := hB z (by simp [hz]); omega
  · have := hB z (by simp [hz]); omega
/-- Part 2, to be turned and written anew. -/
theorem DS.open2 (h : DS w b lo A n c code g K M i v1 v2 v3 v4 v5 x1 x2 x3 x4 x5 wr) (hb : b < w.heap.size) : ∃ F : Nat → Prop, OS tT 42 wr F v2 x2 ∧ (∀ z, F z → w.heap.size < z ∧ z ≠ g ∧ z < M) ∧ ∀ (w4 : World) (F' : Nat → Prop) (v' : Value) (x' : List (List Clip_)), Chg F wr w4 → OS tT 42 w4 F' v' x' → (∀ z, F' z → F z ∨ M ≤ z) → DS w b lo A n c code g K w4.heap.size i v1 v' v3 v4 v5 x1 x' x3 x4 x5  (w4.setCell ⟨g, 2, none⟩ v') := by
  obtain ⟨F1, F2, F3, F4, F5, h, hB, hM, hg⟩ := h
  refine ⟨F2, h.r2, fun z hz => ⟨(h.fd.o2 z hz).1, (h.fd.o2 z hz).2, hB z (by simp [hz])⟩, fun w4 F' v' x' hc r' hF => ?_⟩
  have hl := h.lo
  have hz := h.sz
  have hs := hc.size
  have fd : FZ w.heap.size g F1 (fun z => F' z ∧ z < w4.heap.size) F3 F4 F5 := ⟨h.fd.o1, fun z a => by rcases hF z a.1 with a | a; exact h.fd.o2 z a; omega, h.fd.o3, h.fd.o4, h.fd.o5, fun z a b => by rcases hF z b.1 with b | b; exact h.fd.a12 z a b; have := hB z (by simp [a]); omega, h.fd.a13, h.fd.a14, h.fd.a15, fun z a b => by rcases hF z a.1 with a | a; exact h.fd.a23 z a b; have := hB z (by simp [b]); omega, fun z a b => by rcases hF z a.1 with a | a; exact h.fd.a24 z a b; have := hB z (by simp [b]); omega, fun z a b => by rcases hF z a.1 with a | a; exact h.fd.a25 z a b; have := hB z (by simp [b]); omega, h.fd.a34, h.fd.a35, h.fd.a45⟩
  refine ⟨F1, _, F3, F4, F5, h.push2 hb hc r'.real fd, fun z hz => ?_, by simp, by omega⟩
  rcases hz with hz | hz | hz | hz | hz
  · have := hB z (by simp [hz]); omega
  · exact hz.2
  · have := hB z (by simp [hz]); omega
  · have := hB z (by simp [hz]); omega
  · have := hB z (by simp [hz]); omega
/-- Part 3, to be turned and written anew. -/
theorem DS.open3 (h : DS w b lo A n c code g K M i v1 v2 v3 v4 v5 x1 x2 x3 x4 x5 wr) (hb : b < w.heap.size) : ∃ F : Nat → Prop, OS tI 2 wr F v3 x3 ∧ (∀ z, F z → w.heap.size < z ∧ z ≠ g ∧ z < M) ∧ ∀ (w4 : World) (F' : Nat → Prop) (v' : Value) (x' : List Int), Chg F wr w4 → OS tI 2 w4 F' v' x' → (∀ z, F' z → F z ∨ M ≤ z) → DS w b lo A n c code g K w4.heap.size i v1 v2 v' v4 v5 x1 x2 x' x4 x5  (w4.setCell ⟨g, 3, none⟩ v') := by
  obtain ⟨F1, F2, F3, F4, F5, h, hB, hM, hg⟩ := h
  refine ⟨F3, h.r3, fun z hz => ⟨(h.fd.o3 z hz).1, (h.fd.o3 z hz).2, hB z (by simp [hz])⟩, fun w4 F' v' x' hc r' hF => ?_⟩
  have hl := h.lo
  have hz := h.sz
  have hs := hc.size
  have fd : FZ w.heap.size g F1 F2 (fun z => F' z ∧ z < w4.heap.size) F4 F5 := ⟨h.fd.o1, h.fd.o2, fun z a => by rcases hF z a.1 with a | a; exact h.fd.o3 z a; omega, h.fd.o4, h.fd.o5, h.fd.a12, fun z a b => by rcases hF z b.1 with b | b; exact h.fd.a13 z a b; have := hB z (by simp [a]); omega, h.fd.a14, h.fd.a15, fun z a b => by rcases hF z b.1 with b | b; exact h.fd.a23 z a b; have := hB z (by simp [a]); omega, h.fd.a24, h.fd.a25, fun z a b => by rcases hF z a.1 with a | a; exact h.fd.a34 z a b; have := hB z (by simp [b]); omega, fun z a b => by rcases hF z a.1 with a | a; exact h.fd.a35 z a b; have := hB z (by simp [b]); omega, h.fd.a45⟩
  refine ⟨F1, F2, _, F4, F5, h.push3 hb hc r'.real fd, fun z hz => ?_, by simp, by omega⟩
  rcases hz with hz | hz | hz | hz | hz
  · have := hB z (by simp [hz]); omega
  · have := hB z (by simp [hz]); omega
  · exact hz.2
  · have := hB z (by simp [hz]); omega
  · have := hB z (by simp [hz]); omega
/-- Part 4, to be turned and written anew. -/
theorem DS.open4 (h : DS w b lo A n c code g K M i v1 v2 v3 v4 v5 x1 x2 x3 x4 x5 wr) (hb : b < w.heap.size) : ∃ F : Nat → Prop, OS tP 36 wr F v4 x4 ∧ (∀ z, F z → w.heap.size < z ∧ z ≠ g ∧ z < M) ∧ ∀ (w4 : World) (F' : Nat → Prop) (v' : Value) (x' : List Patch), Chg F wr w4 → OS tP 36 w4 F' v' x' → (∀ z, F' z → F z ∨ M ≤ z) → DS w b lo A n c code g K w4.heap.size i v1 v2 v3 v' v5 x1 x2 x3 x' x5  (w4.setCell ⟨g, 4, none⟩ v') := by
  obtain ⟨F1, F2, F3, F4, F5, h, hB, hM, hg⟩ := h
  refine ⟨F4, h.r4, fun z hz => ⟨(h.fd.o4 z hz).1, (h.fd.o4 z hz).2, hB z (by simp [hz])⟩, fun w4 F' v' x' hc r' hF => ?_⟩
  have hl := h.lo
  have hz := h.sz
  have hs := hc.size
  have fd : FZ w.heap.size g F1 F2 F3 (fun z => F' z ∧ z < w4.heap.size) F5 := ⟨h.fd.o1, h.fd.o2, h.fd.o3, fun z a => by rcases hF z a.1 with a | a; exact h.fd.o4 z a; omega, h.fd.o5, h.fd.a12, h.fd.a13, fun z a b => by rcases hF z b.1 with b | b; exact h.fd.a14 z a b; have := hB z (by simp [a]); omega, h.fd.a15, h.fd.a23, fun z a b => by rcases hF z b.1 with b | b; exact h.fd.a24 z a b; have := hB z (by simp [a]); omega, h.fd.a25, fun z a b => by rcases hF z b.1 with b | b; exact h.fd.a34 z a b; have := hB z (by simp [a]); omega, h.fd.a35, fun z a b => by rcases hF z a.1 with a | a; exact h.fd.a45 z a b; have := hB z (by simp [b]); omega⟩
  refine ⟨F1, F2, F3, _, F5, h.push4 hb hc r'.real fd, fun z hz => ?_, by simp, by omega⟩
  rcases hz with hz | hz | hz | hz | hz
  · have := hB z (by simp [hz]); omega
  · have := hB z (by simp [hz]); omega
  · have := hB z (by simp [hz]); omega
  · exact hz.2
  · have := hB z (by simp [hz]); omega
/-- Part 5, to be turned and written anew. -/
theorem DS.open5 (h : DS w b lo A n c code g K M i v1 v2 v3 v4 v5 x1 x2 x3 x4 x5 wr) (hb : b < w.heap.size) : ∃ F : Nat → Prop, OS tSt 100 wr F v5 x5 ∧ (∀ z, F z → w.heap.size < z ∧ z ≠ g ∧ z < M) ∧ ∀ (w4 : World) (F' : Nat → Prop) (v' : Value) (x' : List Strip), Chg F wr w4 → OS tSt 100 w4 F' v' x' → (∀ z, F' z → F z ∨ M ≤ z) → DS w b lo A n c code g K w4.heap.size i v1 v2 v3 v4 v' x1 x2 x3 x4 x'  (w4.setCell ⟨g, 5, none⟩ v') := by
  obtain ⟨F1, F2, F3, F4, F5, h, hB, hM, hg⟩ := h
  refine ⟨F5, h.r5, fun z hz => ⟨(h.fd.o5 z hz).1, (h.fd.o5 z hz).2, hB z (by simp [hz])⟩, fun w4 F' v' x' hc r' hF => ?_⟩
  have hl := h.lo
  have hz := h.sz
  have hs := hc.size
  have fd : FZ w.heap.size g F1 F2 F3 F4 (fun z => F' z ∧ z < w4.heap.size) := ⟨h.fd.o1, h.fd.o2, h.fd.o3, h.fd.o4, fun z a => by rcases hF z a.1 with a | a; exact h.fd.o5 z a; omega, h.fd.a12, h.fd.a13, h.fd.a14, fun z a b => by rcases hF z b.1 with b | b; exact h.fd.a15 z a b; have := hB z (by simp [a]); omega, h.fd.a23, h.fd.a24, fun z a b => by rcases hF z b.1 with b | b; exact h.fd.a25 z a b; have := hB z (by simp [a]); omega, h.fd.a34, fun z a b => by rcases hF z b.1 with b | b; exact h.fd.a35 z a b; have := hB z (by simp [a]); omega, fun z a b => by rcases hF z b.1 with b | b; exact h.fd.a45 z a b; have := hB z (by simp [a]); omega⟩
  refine ⟨F1, F2, F3, F4, _, h.push5 hb hc r'.real fd, fun z hz => ?_, by simp, by omega⟩
  rcases hz with hz | hz | hz | hz | hz
  · have := hB z (by simp [hz]); omega
  · have := hB z (by simp [hz]); omega
  · have := hB z (by simp [hz]); omega
  · have := hB z (by simp [hz]); omega
  · exact hz.2
end
theorem DS.fin {w wr : World} {b lo : Nat} {A : Option Addr} {n c : Nat} {code : List UInt8} {g K M : Nat} {i : Int} {A1 : Option Addr} {n1 c1 : Nat} {A2 : Option Addr} {n2 c2 : Nat} {A3 : Option Addr} {n3 c3 : Nat} {A4 : Option Addr} {n4 c4 : Nat} {A5 : Option Addr} {n5 c5 : Nat} {x1 : List (List Int)} {x2 : List (List Clip_)} {x3 : List Int} {x4 : List Patch} {x5 : List Strip}
    (h : DS w b lo A n c code g K M i (.slice A1 n1 c1) (.slice A2 n2 c2) (.slice A3 n3 c3) (.slice A4 n4 c4) (.slice A5 n5 c5) x1 x2 x3 x4 x5 wr) (hb : b < w.heap.size) {P : Sess → Prop} (hP : P (i, x1, x2, x3, x4, x5)) :
    DrewZ b lo A n c code K P w (.returned (.agg #[.int .i64 i, .slice A1 n1 c1, .slice A2 n2 c2, .slice A3 n3 c3, .slice A4 n4 c4, .slice A5 n5 c5])) ((((((wr.setCell ⟨w.heap.size, 0, none⟩ (.int .i64 i)).setCell ⟨w.heap.size, 1, none⟩ (.slice A1 n1 c1)).setCell ⟨w.heap.size, 2, none⟩ (.slice A2 n2 c2)).setCell ⟨w.heap.size, 3, none⟩ (.slice A3 n3 c3)).setCell ⟨w.heap.size, 4, none⟩ (.slice A4 n4 c4)).setCell ⟨w.heap.size, 5, none⟩ (.slice A5 n5 c5)) := by
  obtain ⟨F1, F2, F3, F4, F5, h, hB, hM, hg⟩ := h
  exact h.fin hb hP
theorem DS.shape1 {w wr : World} {b lo : Nat} {A : Option Addr} {n c : Nat} {code : List UInt8} {g K M : Nat} {i : Int} {v1 v2 v3 v4 v5 : Value} {x1 : List (List Int)} {x2 : List (List Clip_)} {x3 : List Int} {x4 : List Patch} {x5 : List Strip} (h : DS w b lo A n c code g K M i v1 v2 v3 v4 v5 x1 x2 x3 x4 x5 wr) : ∃ A' c', v1 = .slice A' x1.length c' := by
  obtain ⟨F1, F2, F3, F4, F5, h, hB, hM, hg⟩ := h
  exact h.r1.shape
theorem DS.shape2 {w wr : World} {b lo : Nat} {A : Option Addr} {n c : Nat} {code : List UInt8} {g K M : Nat} {i : Int} {v1 v2 v3 v4 v5 : Value} {x1 : List (List Int)} {x2 : List (List Clip_)} {x3 : List Int} {x4 : List Patch} {x5 : List Strip} (h : DS w b lo A n c code g K M i v1 v2 v3 v4 v5 x1 x2 x3 x4 x5 wr) : ∃ A' c', v2 = .slice A' x2.length c' := by
  obtain ⟨F1, F2, F3, F4, F5, h, hB, hM, hg⟩ := h
  exact h.r2.shape
theorem DS.shape3 {w wr : World} {b lo : Nat} {A : Option Addr} {n c : Nat} {code : List UInt8} {g K M : Nat} {i : Int} {v1 v2 v3 v4 v5 : Value} {x1 : List (List Int)} {x2 : List (List Clip_)} {x3 : List Int} {x4 : List Patch} {x5 : List Strip} (h : DS w b lo A n c code g K M i v1 v2 v3 v4 v5 x1 x2 x3 x4 x5 wr) : ∃ A' c', v3 = .slice A' x3.length c' := by
  obtain ⟨F1, F2, F3, F4, F5, h, hB, hM, hg⟩ := h
  exact h.r3.shape
theorem DS.shape4 {w wr : World} {b lo : Nat} {A : Option Addr} {n c : Nat} {code : List UInt8} {g K M : Nat} {i : Int} {v1 v2 v3 v4 v5 : Value} {x1 : List (List Int)} {x2 : List (List Clip_)} {x3 : List Int} {x4 : List Patch} {x5 : List Strip} (h : DS w b lo A n c code g K M i v1 v2 v3 v4 v5 x1 x2 x3 x4 x5 wr) : ∃ A' c', v4 = .slice A' x4.length c' := by
  obtain ⟨F1, F2, F3, F4, F5, h, hB, hM, hg⟩ := h
  exact h.r4.shape
end Go.Proofs.YtfkcoiefkjmdeaaGreat
namespace Go.Proofs.YtfkcoiefkjmdeaaGreat
open Go.RowKit Go.Sort
set_option maxHeartbeats 4000000
set_option linter.unusedVariables false
set_option linter.unusedSimpArgs false
/-- Elements of lists, with a default. -/
def M.i_ (l : List Int) (j : Nat) : Int := (l[j]?).getD 0
def M.node (ns : List Node) (i : Nat) : Node := (ns[i]?).getD (0, 0, 0, [])
def M.cel (cs : List (List Int)) (i : Nat) : List Int := (cs[i]?).getD []
def M.look (t : List Int) (x : Int) : Int := M.i_ t (((t.length : Int) * (x % 4294967296)) / 4294967296).toNat
def M.xorN (x : Int) : Int := _root_.Go.bits .xor .i64 x 2734686208
def M.noise (s : Int) : Int := if s % 2 = 1 then wrap32 (M.xorN (s % 4294967296 / 2)) else wrap32 (s % 4294967296 / 2)
/-- The output of a node. -/
def M.nOut (x : Node) (tb : List (List Int)) (ins s : List Int) : Int :=
  if x.1 = 1 then M.i_ ins 0 else if x.1 = 2 then x.2.1 else if x.1 = 3 then wrap32 (M.i_ ins 0 + M.i_ ins 1) else if x.1 = 4 then wrap32 (M.i_ ins 0 - M.i_ ins 1) else
  if x.1 = 5 then wrap32 (x.2.1 * M.i_ ins 0) else if x.1 = 6 then M.i_ s 0 else if x.1 = 7 then wrap32 (M.i_ s 0 + M.i_ ins 0) else if x.1 = 8 then wrap32 (M.i_ ins 0 - M.i_ s 0) else
  if x.1 = 9 then wrap32 (M.i_ ins 0 * M.i_ ins 1) else if x.1 = 10 then M.i_ ins 0 / 2 ^ x.2.1.toNat else if x.1 = 11 then max (-x.2.1) (min x.2.1 (M.i_ ins 0)) else if x.1 = 12 then M.i_ s 0 else
  if x.1 = 13 then M.look (M.cel tb x.2.1.toNat) (M.i_ ins 0) else if x.1 = 14 then M.i_ s 0 else if x.1 = 15 then (if 0 ≤ M.i_ ins 0 then M.i_ ins 1 else M.i_ ins 2) else
  if x.1 = 16 then (if 0 < M.i_ ins 1 then M.i_ ins 0 else M.i_ s 0) else wrap32 (M.i_ ins 0 + x.2.1 * M.i_ s 0)
/-- The next state of a node. -/
def M.nNext (x : Node) (ins s : List Int) (out : Int) : List Int :=
  if x.1 = 6 then s.drop 1 ++ [M.i_ ins 0] else if x.1 = 17 then s.drop 1 ++ [out] else if x.1 = 7 then [out] else if x.1 = 16 then [out] else if x.1 = 8 then [M.i_ ins 0] else
  if x.1 = 12 then [wrap32 (M.i_ s 0 + M.i_ ins 0)] else if x.1 = 14 then [M.noise (M.i_ s 0)] else []
def M.stLen (x : Node) : Nat := if x.1 = 6 then x.2.1.toNat else if x.1 = 17 then x.2.2.1.toNat else if x.1 = 7 then 1 else if x.1 = 8 then 1 else if x.1 = 16 then 1 else if x.1 = 12 then 1 else if x.1 = 14 then 1 else 0
def M.start (x : Node) : List Int := if x.1 = 12 then [x.2.1] else if x.1 = 14 then [x.2.1] else List.replicate (M.stLen x) 0
/-- What a node gets in a frame. -/
def M.insN (x : Node) (fr vs : List Int) : List Int := if x.1 = 1 then [M.i_ fr x.2.1.toNat] else x.2.2.2.map fun f => M.i_ vs f.toNat
section
variable (ns : List Node) (tb : List (List Int)) (fr O : List Int)
def M.ordI (t : Nat) : Nat := (M.i_ O t).toNat
/-- The values after t nodes, as the reference computes them. -/
def M.valN (cs : List (List Int)) (v0 : List Int) : Nat → List Int
  | 0 => v0
  | t + 1 => (M.valN cs v0 t).set (M.ordI O t) (M.nOut (M.node ns (M.ordI O t)) tb (M.insN (M.node ns (M.ordI O t)) fr (M.valN cs v0 t)) (M.cel cs (M.ordI O t)))
/-- Values and cells after t nodes, as the player has them. -/
def M.runN (v0 : List Int) (c0 : List (List Int)) : Nat → List Int × List (List Int)
  | 0 => (v0, c0)
  | t + 1 =>
    if (M.node ns (M.ordI O t)).1 = 6 then ((M.runN v0 c0 t).1.set (M.ordI O t) (M.i_ (M.cel (M.runN v0 c0 t).2 (M.ordI O t)) 0), (M.runN v0 c0 t).2)
    else ((M.runN v0 c0 t).1.set (M.ordI O t) (M.nOut (M.node ns (M.ordI O t)) tb (M.insN (M.node ns (M.ordI O t)) fr (M.runN v0 c0 t).1) (M.cel (M.runN v0 c0 t).2 (M.ordI O t))),
      (M.runN v0 c0 t).2.set (M.ordI O t) (M.nNext (M.node ns (M.ordI O t)) (M.insN (M.node ns (M.ordI O t)) fr (M.runN v0 c0 t).1) (M.cel (M.runN v0 c0 t).2 (M.ordI O t))
        (M.nOut (M.node ns (M.ordI O t)) tb (M.insN (M.node ns (M.ordI O t)) fr (M.runN v0 c0 t).1) (M.cel (M.runN v0 c0 t).2 (M.ordI O t)))))
/-- The delays' second step. -/
def M.delN (vs : List Int) (c1 : List (List Int)) : Nat → List (List Int)
  | 0 => c1
  | t + 1 => if (M.node ns t).1 = 6 then (M.delN vs c1 t).set t (M.nNext (M.node ns t) (M.insN (M.node ns t) fr vs) (M.cel (M.delN vs c1 t) t) 0) else M.delN vs c1 t
/-- The values of a frame and the next cells. -/
def M.vals (cs : List (List Int)) : List Int := M.valN ns tb fr O cs (List.replicate ns.length 0) O.length
def M.next_ (cs : List (List Int)) : List (List Int) := (List.range ns.length).map fun i => M.nNext (M.node ns i) (M.insN (M.node ns i) fr (M.vals ns tb fr O cs)) (M.cel cs i) (M.i_ (M.vals ns tb fr O cs) i)
end
/-- An order of all nodes, each behind what it waits for. -/
structure M.Topo (ns : List Node) (O : List Int) : Prop where
  len : O.length = ns.length
  rng : ∀ t, t < O.length → 0 ≤ M.i_ O t ∧ M.i_ O t < ns.length
  new : ∀ s t, s < t → t < O.length → M.ordI O s ≠ M.ordI O t
  aft : ∀ t, t < O.length → ∀ f ∈ M.waits (M.node ns (M.ordI O t)), ∃ s, s < t ∧ f = M.i_ O s
theorem M.i_set_eq {l : List Int} {k : Nat} (h : k < l.length) (x : Int) : M.i_ (l.set k x) k = x := by simp [M.i_, h]
theorem M.i_set_ne {l : List Int} {k j : Nat} (h : k ≠ j) (x : Int) : M.i_ (l.set k x) j = M.i_ l j := by simp [M.i_, List.getElem?_set_ne h]
theorem M.cel_set_eq {l : List (List Int)} {k : Nat} (h : k < l.length) (x : List Int) : M.cel (l.set k x) k = x := by simp [M.cel, h]
theorem M.cel_set_ne {l : List (List Int)} {k j : Nat} (h : k ≠ j) (x : List Int) : M.cel (l.set k x) j = M.cel l j := by simp [M.cel, List.getElem?_set_ne h]
theorem M.i_ext {a b : List Int} (hl : a.length = b.length) (h : ∀ j, j < a.length → M.i_ a j = M.i_ b j) : a = b := by
  apply List.ext_getElem hl
  intro i h1 h2
  have := h i h1
  simpa [M.i_, h1, h2] using this
theorem M.cel_ext {a b : List (List Int)} (hl : a.length = b.length) (h : ∀ j, j < a.length → M.cel a j = M.cel b j) : a = b := by
  apply List.ext_getElem hl
  intro i h1 h2
  have := h i h1
  simpa [M.cel, h1, h2] using this
/-- A nodup list of numbers below n has no more than n elements. -/
theorem M.nodup_le : ∀ (n : Nat) (l : List Nat), l.Nodup → (∀ x ∈ l, x < n) → l.length ≤ n := by
  intro n
  induction n with
  | zero =>
    intro l _ h
    cases l with
    | nil => simp
    | cons x xs => exact absurd (h x (List.mem_cons_self ..)) (by omega)
  | succ n ih =>
    intro l hd h
    by_cases hm : n ∈ l
    · have h1 := List.length_erase_of_mem hm
      have h2 := ih (l.erase n) (hd.erase n) (fun x hx => by
        rw [List.Nodup.mem_erase_iff hd] at hx
        have := h x hx.2
        omega)
      have h3 : 0 < l.length := List.length_pos_of_mem hm
      omega
    · have h2 := ih l hd (fun x hx => by
        have := h x hx
        rcases Nat.lt_succ_iff_lt_or_eq.1 this with h3 | h3
        · exact h3
        · subst h3; exact absurd hx hm)
      omega
section
variable {ns : List Node} {tb : List (List Int)} {fr O : List Int}
theorem M.Topo.all (h : M.Topo ns O) {j : Nat} (hj : j < ns.length) : ∃ t, t < O.length ∧ M.ordI O t = j := by
  rcases Classical.em (∃ t, t < O.length ∧ M.ordI O t = j) with h1 | h1
  · exact h1
  · exfalso
    have hnd : (j :: (List.range O.length).map (M.ordI O)).Nodup := by
      rw [List.nodup_cons]
      refine ⟨fun hm => ?_, ?_⟩
      · obtain ⟨t, ht, e⟩ := List.mem_map.1 hm
        exact h1 ⟨t, List.mem_range.1 ht, e⟩
      · rw [List.nodup_iff_pairwise_ne, List.pairwise_map]
        refine List.Pairwise.imp_of_mem ?_ (List.pairwise_lt_range (n := O.length))
        intro a b _ hb hab
        exact h.new a b hab (List.mem_range.1 hb)
    have := M.nodup_le ns.length _ hnd (fun x hx => by
      rcases List.mem_cons.1 hx with rfl | hx
      · exact hj
      · obtain ⟨t, ht, rfl⟩ := List.mem_map.1 hx
        have := h.rng t (List.mem_range.1 ht)
        show (M.i_ O t).toNat < _
        omega)
    simp [h.len] at this
    omega
theorem M.valN_len (cs : List (List Int)) (v0 : List Int) (t : Nat) : (M.valN ns tb fr O cs v0 t).length = v0.length := by
  induction t with
  | zero => rfl
  | succ t ih => rw [M.valN, List.length_set, ih]
theorem M.valN_at (h : M.Topo ns O) (cs : List (List Int)) (v0 : List Int) {s t t' : Nat} (hs : s < t) (ht : t ≤ t') (ht' : t' ≤ O.length) :
    M.i_ (M.valN ns tb fr O cs v0 t') (M.ordI O s) = M.i_ (M.valN ns tb fr O cs v0 t) (M.ordI O s) := by
  induction t' with
  | zero =>
    obtain rfl : t = 0 := by omega
    rfl
  | succ q ih =>
    rcases Nat.lt_or_ge q t with h1 | h1
    · obtain rfl : t = q + 1 := by omega
      rfl
    · rw [M.valN, M.i_set_ne (fun e => h.new s q (by omega) (by omega) e.symm)]
      exact ih h1 (by omega)
theorem M.insN_congr {x : Node} {a b : List Int} (h : x.1 ≠ 1 → ∀ f ∈ x.2.2.2, M.i_ a f.toNat = M.i_ b f.toNat) : M.insN x fr a = M.insN x fr b := by
  rw [M.insN, M.insN]
  split
  · rfl
  · rename_i h1
    exact List.map_congr_left (h h1)
theorem M.waits_from {x : Node} (h : x.1 ≠ 6) : M.waits x = x.2.2.2 := by rw [M.waits, if_neg h]
theorem M.nOut_delay {x : Node} (h : x.1 = 6) (tb : List (List Int)) (a s : List Int) : M.nOut x tb a s = M.i_ s 0 := by simp [M.nOut, h]
theorem M.nNext_delay {x : Node} (h : x.1 = 6) (a s : List Int) (o o' : Int) : M.nNext x a s o = M.nNext x a s o' := by simp [M.nNext, h]
/-- Each value is the node's output of the frame's own values. -/
theorem M.vals_at (h : M.Topo ns O) (cs : List (List Int)) {t : Nat} (ht : t < O.length) :
    M.i_ (M.vals ns tb fr O cs) (M.ordI O t) = M.nOut (M.node ns (M.ordI O t)) tb (M.insN (M.node ns (M.ordI O t)) fr (M.vals ns tb fr O cs)) (M.cel cs (M.ordI O t)) := by
  have hr := h.rng t ht
  rw [M.vals, M.valN_at h cs _ (s := t) (t := t + 1) (by omega) (by omega) (Nat.le_refl _)]
  show M.i_ ((M.valN ns tb fr O cs _ t).set _ _) _ = _
  rw [M.i_set_eq (by rw [M.valN_len, List.length_replicate]; show (M.i_ O t).toNat < _; omega)]
  by_cases h6 : (M.node ns (M.ordI O t)).1 = 6
  · rw [M.nOut_delay h6, M.nOut_delay h6]
  · rw [M.insN_congr]
    intro _ f hf
    obtain ⟨s, hs, rfl⟩ := h.aft t ht f (by rw [M.waits_from h6]; exact hf)
    exact (M.valN_at h cs _ (s := s) (t := t) (t' := O.length) hs (by omega) (Nat.le_refl _)).symm
theorem M.runN_len (v0 : List Int) (c0 : List (List Int)) (t : Nat) : (M.runN ns tb fr O v0 c0 t).1.length = v0.length ∧ (M.runN ns tb fr O v0 c0 t).2.length = c0.length := by
  induction t with
  | zero => exact ⟨rfl, rfl⟩
  | succ t ih =>
    rw [M.runN]
    split
    · exact ⟨by rw [List.length_set]; exact ih.1, ih.2⟩
    · exact ⟨by rw [List.length_set]; exact ih.1, by rw [List.length_set]; exact ih.2⟩
/-- The player's values and cells are the reference's, as far as they are computed. -/
theorem M.runN_inv (h : M.Topo ns O) (v0 : List Int) (cs : List (List Int)) (hv : v0.length = ns.length) (hc : cs.length = ns.length) : ∀ t, t ≤ O.length →
    (∀ s, s < t → M.i_ (M.runN ns tb fr O v0 cs t).1 (M.ordI O s) = M.i_ (M.vals ns tb fr O cs) (M.ordI O s)) ∧
    (∀ s, s < t → (M.node ns (M.ordI O s)).1 ≠ 6 → M.cel (M.runN ns tb fr O v0 cs t).2 (M.ordI O s) = M.nNext (M.node ns (M.ordI O s)) (M.insN (M.node ns (M.ordI O s)) fr (M.vals ns tb fr O cs)) (M.cel cs (M.ordI O s)) (M.i_ (M.vals ns tb fr O cs) (M.ordI O s))) ∧
    (∀ j, ((∀ s, s < t → M.ordI O s ≠ j) ∨ (M.node ns j).1 = 6) → M.cel (M.runN ns tb fr O v0 cs t).2 j = M.cel cs j) := by
  intro t
  induction t with
  | zero => exact fun _ => ⟨fun s hs => absurd hs (by omega), fun s hs => absurd hs (by omega), fun _ _ => rfl⟩
  | succ t ih =>
    intro ht
    obtain ⟨i1, i2, i3⟩ := ih (by omega)
    obtain ⟨l1, l2⟩ := M.runN_len (ns := ns) (tb := tb) (fr := fr) (O := O) v0 cs t
    have hr := h.rng t (by omega)
    have hi : M.ordI O t < ns.length := by show (M.i_ O t).toNat < _; omega
    have hcel := i3 (M.ordI O t) (.inl fun s hs => h.new s t hs (by omega))
    have hva := M.vals_at (tb := tb) (fr := fr) h cs (t := t) (by omega)
    rw [M.runN]
    by_cases h6 : (M.node ns (M.ordI O t)).1 = 6
    · rw [if_pos h6]
      refine ⟨fun s hs => ?_, fun s hs hn => ?_, fun j hj => ?_⟩
      · rcases Nat.lt_succ_iff_lt_or_eq.1 hs with h1 | rfl
        · show M.i_ (List.set _ _ _) _ = _
          rw [M.i_set_ne (fun e => h.new s t h1 (by omega) e.symm)]
          exact i1 s h1
        · show M.i_ (List.set _ _ _) _ = _
          rw [M.i_set_eq (by omega), hcel, hva, M.nOut_delay h6]
      · rcases Nat.lt_succ_iff_lt_or_eq.1 hs with h1 | rfl
        · exact i2 s h1 hn
        · exact absurd h6 hn
      · exact i3 j (hj.imp (fun h1 s hs => h1 s (by omega)) id)
    · rw [if_neg h6]
      have hins : M.insN (M.node ns (M.ordI O t)) fr (M.runN ns tb fr O v0 cs t).1 = M.insN (M.node ns (M.ordI O t)) fr (M.vals ns tb fr O cs) := by
        refine M.insN_congr fun _ f hf => ?_
        obtain ⟨s, hs, rfl⟩ := h.aft t (by omega) f (by rw [M.waits_from h6]; exact hf)
        exact i1 s hs
      refine ⟨fun s hs => ?_, fun s hs hn => ?_, fun j hj => ?_⟩
      · rcases Nat.lt_succ_iff_lt_or_eq.1 hs with h1 | rfl
        · show M.i_ (List.set _ _ _) _ = _
          rw [M.i_set_ne (fun e => h.new s t h1 (by omega) e.symm)]
          exact i1 s h1
        · show M.i_ (List.set _ _ _) _ = _
          rw [M.i_set_eq (by omega), hcel, hins, hva]
      · rcases Nat.lt_succ_iff_lt_or_eq.1 hs with h1 | rfl
        · show M.cel (List.set _ _ _) _ = _
          rw [M.cel_set_ne (fun e => h.new s t h1 (by omega) e.symm)]
          exact i2 s h1 hn
        · show M.cel (List.set _ _ _) _ = _
          rw [M.cel_set_eq (by omega), hcel, hins, hva]
      · show M.cel (List.set _ _ _) _ = _
        rcases hj with h1 | h1
        · rw [M.cel_set_ne (h1 t (by omega))]
          exact i3 j (.inl fun s hs => h1 s (by omega))
        · rw [M.cel_set_ne (fun e => h6 (by rw [e]; exact h1))]
          exact i3 j (.inr h1)
theorem M.delN_len (vs : List Int) (c1 : List (List Int)) (t : Nat) : (M.delN ns fr vs c1 t).length = c1.length := by
  induction t with
  | zero => rfl
  | succ t ih =>
    rw [M.delN]
    split
    · rw [List.length_set, ih]
    · exact ih
theorem M.delN_at (vs : List Int) (c1 : List (List Int)) : ∀ t, t ≤ c1.length → ∀ j, M.cel (M.delN ns fr vs c1 t) j = if j < t ∧ (M.node ns j).1 = 6 then M.nNext (M.node ns j) (M.insN (M.node ns j) fr vs) (M.cel c1 j) 0 else M.cel c1 j := by
  intro t
  induction t with
  | zero => intro _ j; rw [if_neg (by omega)]; rfl
  | succ t ih =>
    intro ht j
    have hl := M.delN_len (ns := ns) (fr := fr) vs c1 t
    rw [M.delN]
    split
    · rename_i h6
      by_cases hj : t = j
      · subst hj
        rw [M.cel_set_eq (by omega), if_pos ⟨by omega, h6⟩, ih (by omega), if_neg (by omega)]
      · rw [M.cel_set_ne hj, ih (by omega)]
        by_cases hq : j < t ∧ (M.node ns j).1 = 6
        · rw [if_pos hq, if_pos ⟨by omega, hq.2⟩]
        · rw [if_neg hq, if_neg (fun e => hq ⟨by omega, e.2⟩)]
    · rename_i h6
      rw [ih (by omega)]
      by_cases hq : j < t ∧ (M.node ns j).1 = 6
      · rw [if_pos hq, if_pos ⟨by omega, hq.2⟩]
      · rw [if_neg hq, if_neg (fun e => by
          by_cases hj : j = t
          · subst hj; exact h6 e.2
          · exact hq ⟨by omega, e.2⟩)]
/-- The player's frame is the reference's. -/
theorem M.frame_eq (h : M.Topo ns O) (v0 : List Int) (cs : List (List Int)) (hv : v0.length = ns.length) (hc : cs.length = ns.length) :
    (M.runN ns tb fr O v0 cs O.length).1 = M.vals ns tb fr O cs ∧ M.delN ns fr (M.vals ns tb fr O cs) (M.runN ns tb fr O v0 cs O.length).2 ns.length = M.next_ ns tb fr O cs := by
  obtain ⟨i1, i2, i3⟩ := M.runN_inv (tb := tb) (fr := fr) h v0 cs hv hc O.length (Nat.le_refl _)
  obtain ⟨l1, l2⟩ := M.runN_len (ns := ns) (tb := tb) (fr := fr) (O := O) v0 cs O.length
  refine ⟨M.i_ext (by rw [l1, M.vals, M.valN_len, List.length_replicate, hv]) fun j hj => ?_, M.cel_ext (by rw [M.delN_len, l2, M.next_, List.length_map, List.length_range, hc]) fun j hj => ?_⟩
  · obtain ⟨t, ht, rfl⟩ := h.all (j := j) (by omega)
    exact i1 t ht
  · rw [M.delN_len, l2, hc] at hj
    have hn : M.cel (M.next_ ns tb fr O cs) j = M.nNext (M.node ns j) (M.insN (M.node ns j) fr (M.vals ns tb fr O cs)) (M.cel cs j) (M.i_ (M.vals ns tb fr O cs) j) := by simp [M.next_, M.cel, hj]
    rw [hn, M.delN_at _ _ _ (by omega)]
    obtain ⟨t, ht, rfl⟩ := h.all hj
    by_cases h6 : (M.node ns (M.ordI O t)).1 = 6
    · rw [if_pos ⟨hj, h6⟩, i3 _ (.inr h6)]
      exact M.nNext_delay h6 _ _ _ _
    · rw [if_neg (fun e => h6 e.2)]
      exact i2 t ht h6
end
/-- The order of a patch's nodes is one. -/
theorem M.next_rdy {ns : List Node} {out : List Int} {i : Nat} (h : M.next ns out = some i) : i < ns.length ∧ M.rdy ns out i = true := by
  rw [M.next, List.find?_range_eq_some] at h
  exact ⟨List.mem_range.1 h.2.1, h.1⟩
theorem M.mem_iff {xs : List Int} {m : Int} : M.mem xs m = true ↔ m ∈ xs := by
  rw [M.mem, List.any_eq_true]
  constructor
  · rintro ⟨x, hx, e⟩
    rw [decide_eq_true_eq] at e
    exact e ▸ hx
  · exact fun h => ⟨m, h, by simp⟩
/-- As far as it goes. -/
theorem M.ordN_inv (ns : List Node) : ∀ t, (M.ordN ns t).length ≤ t ∧ (∀ s, s < (M.ordN ns t).length → 0 ≤ M.i_ (M.ordN ns t) s ∧ M.i_ (M.ordN ns t) s < ns.length) ∧
    (∀ s u, s < u → u < (M.ordN ns t).length → M.ordI (M.ordN ns t) s ≠ M.ordI (M.ordN ns t) u) ∧
    (∀ u, u < (M.ordN ns t).length → ∀ f ∈ M.waits (M.node ns (M.ordI (M.ordN ns t) u)), ∃ s, s < u ∧ f = M.i_ (M.ordN ns t) s) := by
  intro t
  induction t with
  | zero => exact ⟨by simp [M.ordN], fun s hs => by simp [M.ordN] at hs, fun s u _ hu => by simp [M.ordN] at hu, fun u hu => by simp [M.ordN] at hu⟩
  | succ t ih =>
    obtain ⟨j1, j2, j3, j4⟩ := ih
    rw [M.ordN]
    cases hn : M.next ns (M.ordN ns t) with
    | none => exact ⟨Nat.le_succ_of_le j1, j2, j3, j4⟩
    | some i =>
      obtain ⟨hi, hr⟩ := M.next_rdy hn
      simp only
      generalize hO : M.ordN ns t = O at *
      have ea : ∀ s, s < O.length → M.i_ (O ++ [(i : Int)]) s = M.i_ O s := fun s hs => by simp [M.i_, List.getElem?_append_left hs]
      have eb : M.i_ (O ++ [(i : Int)]) O.length = i := by simp [M.i_]
      have hl : (O ++ [(i : Int)]).length = O.length + 1 := by simp
      rw [M.rdy, Bool.and_eq_true, Bool.not_eq_true'] at hr
      have hni : ∀ s, s < O.length → M.ordI O s ≠ i := by
        intro s hs e
        have h2 := j2 s hs
        have e2 : M.i_ O s = (i : Int) := by have : (M.i_ O s).toNat = i := e; omega
        have h3 : M.mem O i = true := M.mem_iff.2 (by
          rw [← e2]
          simp only [M.i_, List.getElem?_eq_getElem hs, Option.getD_some]
          exact List.getElem_mem hs)
        rw [hr.1] at h3
        cases h3
      refine ⟨by rw [hl]; omega, fun s hs => ?_, fun s u hsu hu => ?_, fun u hu f hf => ?_⟩
      · rw [hl] at hs
        rcases Nat.lt_succ_iff_lt_or_eq.1 hs with h1 | rfl
        · rw [ea s h1]; exact j2 s h1
        · rw [eb]; omega
      · rw [hl] at hu
        rcases Nat.lt_succ_iff_lt_or_eq.1 hu with h1 | rfl
        · show (M.i_ _ s).toNat ≠ (M.i_ _ u).toNat
          rw [ea s (by omega), ea u h1]
          exact j3 s u hsu h1
        · show (M.i_ _ s).toNat ≠ (M.i_ _ _).toNat
          rw [ea s hsu, eb]
          have := hni s hsu
          exact this
      · rw [hl] at hu
        rcases Nat.lt_succ_iff_lt_or_eq.1 hu with h1 | rfl
        · rw [show M.ordI (O ++ [(i : Int)]) u = M.ordI O u by show (M.i_ _ u).toNat = (M.i_ _ u).toNat; rw [ea u h1]] at hf
          obtain ⟨s, hs, rfl⟩ := j4 u h1 f hf
          exact ⟨s, hs, (ea s (by omega)).symm⟩
        · rw [show M.ordI (O ++ [(i : Int)]) O.length = i by show (M.i_ _ _).toNat = i; rw [eb]; omega] at hf
          have h4 := List.all_eq_true.1 hr.2 f hf
          obtain ⟨s, hs⟩ := List.getElem?_of_mem (M.mem_iff.1 h4)
          have hs2 := (List.getElem?_eq_some_iff.1 hs).1
          refine ⟨s, hs2, ?_⟩
          rw [ea s hs2, M.i_, hs]
          rfl
theorem M.ordN_le (ns : List Node) (t : Nat) : (M.ordN ns t).length ≤ ns.length := by
  obtain ⟨_, j2, j3, _⟩ := M.ordN_inv ns t
  have h := M.nodup_le ns.length ((List.range (M.ordN ns t).length).map (M.ordI (M.ordN ns t))) (by
    rw [List.nodup_iff_pairwise_ne, List.pairwise_map]
    refine List.Pairwise.imp_of_mem ?_ (List.pairwise_lt_range (n := (M.ordN ns t).length))
    intro a b _ hb hab
    exact j3 a b hab (List.mem_range.1 hb)) (fun x hx => by
      obtain ⟨u, hu, rfl⟩ := List.mem_map.1 hx
      have := j2 u (List.mem_range.1 hu)
      show (M.i_ _ u).toNat < _
      omega)
  simpa using h
theorem M.topo {ns : List Node} (h : (M.ord ns).length = ns.length) : M.Topo ns (M.ord ns) := by
  obtain ⟨_, j2, j3, j4⟩ := M.ordN_inv ns ns.length
  exact ⟨h, j2, j3, j4⟩
end Go.Proofs.YtfkcoiefkjmdeaaGreat
namespace Go.Proofs.YtfkcoiefkjmdeaaGreat
open Go.RowKit Go.Sort
set_option maxHeartbeats 1000000
set_option linter.unusedVariables false
/-! A patch whose nodes can be ranked is in order. Plain. -/
theorem M.all_in_le : ∀ (n : Nat) (l : List Nat), (∀ i, i < n → i ∈ l) → n ≤ l.length := by
  intro n
  induction n with
  | zero => intro l _; omega
  | succ n ih =>
    intro l h
    have h1 := h n (by omega)
    have h2 := ih (l.erase n) (fun i hi => (List.mem_erase_of_ne (by omega)).2 (h i (by omega)))
    rw [List.length_erase_of_mem h1] at h2
    have h3 : 0 < l.length := List.length_pos_of_mem h1
    omega
/-- What each node waits for is of a lesser rank. -/
def M.ranked (ns : List Node) (R : Nat → Nat) : Prop := ∀ (i : Nat) (x : Node), ns[i]? = some x → ∀ f ∈ M.waits x, (0 ≤ f ∧ f < ns.length) ∧ R f.toNat < R i
theorem M.memI_iff {xs : List Int} {m : Int} : M.mem xs m = true ↔ m ∈ xs := by
  rw [M.mem, List.any_eq_true]
  constructor
  · rintro ⟨x, hx, e⟩
    rw [decide_eq_true_eq] at e
    rw [← e]; exact hx
  · intro h
    exact ⟨m, h, by simp⟩
theorem M.rank_ready {ns : List Node} {R : Nat → Nat} (hR : M.ranked ns R) {out : List Int} : ∀ (r i : Nat), R i ≤ r → i < ns.length → M.mem out i = false → ∃ j, j < ns.length ∧ M.rdy ns out j = true := by
  intro r
  induction r using Nat.strongRecOn with
  | _ r ih =>
    intro i hr hi hm
    have hx : ns[i]? = some ns[i] := List.getElem?_eq_getElem hi
    generalize ns[i] = x at hx
    by_cases hall : (M.waits x).all (M.mem out) = true
    · exact ⟨i, hi, by rw [M.rdy_at hx, hm, hall]; rfl⟩
    · rw [Bool.not_eq_true, List.all_eq_false] at hall
      obtain ⟨f, hf, hfm⟩ := hall
      have h1 := hR i x hx f hf
      have e : f = (f.toNat : Int) := by omega
      exact ih (R f.toNat) (by omega) f.toNat (Nat.le_refl _) (by omega) (by rw [← e]; simpa using hfm)
theorem M.ordN_full {ns : List Node} {R : Nat → Nat} (hR : M.ranked ns R) : ∀ t, t ≤ ns.length → (M.ordN ns t).length = t := by
  intro t
  induction t with
  | zero => intro _; rfl
  | succ t ih =>
    intro ht
    have h := ih (by omega)
    have hmiss : ∃ i, i < ns.length ∧ M.mem (M.ordN ns t) i = false := by
      rcases Classical.em (∃ i : Nat, i < ns.length ∧ M.mem (M.ordN ns t) i = false) with h1 | h1
      · exact h1
      · exfalso
        have := M.all_in_le ns.length ((M.ordN ns t).map Int.toNat) (fun i hi => by
          have h2 : M.mem (M.ordN ns t) i = true := by
            cases h3 : M.mem (M.ordN ns t) i
            · exact absurd ⟨i, hi, h3⟩ h1
            · rfl
          exact List.mem_map.2 ⟨(i : Int), M.memI_iff.1 h2, by simp⟩)
        rw [List.length_map] at this
        omega
    obtain ⟨i, hi, hm⟩ := hmiss
    obtain ⟨j, hj, hr⟩ := M.rank_ready hR (R i) i (Nat.le_refl _) hi hm
    rw [M.ordN]
    cases hn : M.next ns (M.ordN ns t) with
    | none =>
      rw [M.next, List.find?_eq_none] at hn
      have := hn j (List.mem_range.2 hj)
      rw [hr] at this
      simp at this
    | some i =>
      show (M.ordN ns t ++ [(i : Int)]).length = t + 1
      rw [List.length_append, h]; rfl
theorem M.ord_full {ns : List Node} {R : Nat → Nat} (hR : M.ranked ns R) : (M.ord ns).length = ns.length := M.ordN_full hR _ (Nat.le_refl _)
/-- A node is valid. -/
theorem M.nodeOk_of {k a bb : Int} {xs : List Int} {tb : Int} (hk : 1 ≤ k ∧ k ≤ 17) (c1 : k = 1 → 0 ≤ a ∧ a ≤ 3) (c6 : k = 6 → 1 ≤ a ∧ a ≤ 16) (c10 : k = 10 → 0 ≤ a ∧ a ≤ 31) (c11 : k = 11 → 0 ≤ a ∧ a ≤ 2147483647) (c13 : k = 13 → 0 ≤ a ∧ a ≤ 3 ∧ a < tb) (cs : -2147483648 ≤ a ∧ a ≤ 2147483647) (c0 : M.hasA k = false → a = 0)
    (b17 : k = 17 → 1 ≤ bb ∧ bb ≤ 16) (b0 : k ≠ 17 → bb = 0) (len : (xs.length : Int) = M.ar k.toNat) (fr : ∀ f ∈ xs, 0 ≤ f ∧ f ≤ 23) : M.nodeOk (k, a, bb, xs) tb = true := by
  rw [← M.node_eq, M.nodeS]
  simp only [Bool.and_eq_true]
  refine ⟨M.inn_iff.2 hk, ⟨⟨?_, by simpa using len⟩, List.all_eq_true.2 fun f hf => M.inn_iff.2 (fr f hf)⟩, ?_⟩
  · rw [M.aS]
    split
    · rename_i h; exact M.inn_iff.2 (c1 h)
    split
    · rename_i h; exact M.inn_iff.2 (c6 h)
    split
    · rename_i h; exact M.inn_iff.2 (c10 h)
    split
    · rename_i h; exact M.inn_iff.2 (c11 h)
    split
    · rename_i h
      have := c13 h
      exact M.inn_iff.2 (by omega)
    split
    · exact M.inn_iff.2 cs
    · rename_i h
      rw [decide_eq_true_eq]
      exact c0 (by simpa using h)
  · split
    · rename_i h; exact M.inn_iff.2 (b17 h)
    · rename_i h; rw [decide_eq_true_eq]; exact b0 h
end Go.Proofs.YtfkcoiefkjmdeaaGreat
