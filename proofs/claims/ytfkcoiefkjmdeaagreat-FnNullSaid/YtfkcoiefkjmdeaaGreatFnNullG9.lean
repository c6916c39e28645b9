import Derived.Test.YtfkcoiefkjmdeaaGreatFnNullG4
import Derived.Test.YtfkcoiefkjmdeaaGreatFnNullG8
import Derived.Test.YtfkcoiefkjmdeaaGreatFnNullG3
import Derived.Test.YtfkcoiefkjmdeaaGreatFnNullG2
set_option linter.unusedVariables false
set_option linter.unusedSimpArgs false
set_option maxRecDepth 100000
set_option maxHeartbeats 4000000
namespace Go.Proofs.YtfkcoiefkjmdeaaGreat
section
open Go.RowKit Go.Sort
structure FZ (w0 g : Nat) (F1 F2 F3 F4 F5 : Nat → Prop) : Prop where
 o1 : ∀ z, F1 z → w0 < z ∧ z ≠ g
 o2 : ∀ z, F2 z → w0 < z ∧ z ≠ g
 o3 : ∀ z, F3 z → w0 < z ∧ z ≠ g
 o4 : ∀ z, F4 z → w0 < z ∧ z ≠ g
 o5 : ∀ z, F5 z → w0 < z ∧ z ≠ g
 a12 : ∀ z, F1 z → ¬ F2 z
 a13 : ∀ z, F1 z → ¬ F3 z
 a14 : ∀ z, F1 z → ¬ F4 z
 a15 : ∀ z, F1 z → ¬ F5 z
 a23 : ∀ z, F2 z → ¬ F3 z
 a24 : ∀ z, F2 z → ¬ F4 z
 a25 : ∀ z, F2 z → ¬ F5 z
 a34 : ∀ z, F3 z → ¬ F4 z
 a35 : ∀ z, F3 z → ¬ F5 z
 a45 : ∀ z, F4 z → ¬ F5 z
structure DZ (w : World) (b lo : Nat) (A : Option Addr) (n c : Nat) (code : List UInt8) (g K : Nat) (i : Int) (v1 v2 v3 v4 v5 : Value) (x1 : List (List Int)) (x2 : List (List zah)) (x3 : List Int) (x4 : List zaf) (x5 : List zad) (F1 F2 F3 F4 F5 : Nat → Prop) (wr : World) : Prop where
 e : ∀ j, j < 6 → wr.cell? ⟨w.heap.size, j, none⟩ = some (if j = 0 then .int .i64 0 else .slice none 0 0) ∧ wr.frozen? ⟨w.heap.size, j, none⟩ = false
 p0 : wr.cell? ⟨g, 0, none⟩ = some (.int .i64 i)
 p1 : wr.cell? ⟨g, 1, none⟩ = some v1
 p2 : wr.cell? ⟨g, 2, none⟩ = some v2
 p3 : wr.cell? ⟨g, 3, none⟩ = some v3
 p4 : wr.cell? ⟨g, 4, none⟩ = some v4
 p5 : wr.cell? ⟨g, 5, none⟩ = some v5
 q : ∀ j, j < 6 → wr.frozen? ⟨g, j, none⟩ = false
 r1 : OS tS 26 wr F1 v1 x1
 r2 : OS tT 42 wr F2 v2 x2
 r3 : OS tI 2 wr F3 v3 x3
 r4 : OS tP 36 wr F4 v4 x4
 r5 : OS tSt 100 wr F5 v5 x5
 fd : FZ w.heap.size g F1 F2 F3 F4 F5
 src : Src wr b lo A n c code K
 mid : Mid b (b + 1) w wr
 sz : g < wr.heap.size
 lo : w.heap.size < g
section
variable {w wr w' w4 : World} {b lo : Nat} {A : Option Addr} {n c : Nat} {code : List UInt8} {g K K' : Nat} {i : Int} {v1 v2 v3 v4 v5 v' : Value} {x1 : List (List Int)} {x2 : List (List zah)} {x3 : List Int} {x4 : List zaf} {x5 : List zad} {F1 F2 F3 F4 F5 F' : Nat → Prop}
theorem DZ.step (h : DZ w b lo A n c code g K i v1 v2 v3 v4 v5 x1 x2 x3 x4 x5 F1 F2 F3 F4 F5 wr) (hb : b < w.heap.size) (hs : Src w' b lo A n c code K') (hm : Mid b (b + 1) wr w') : DZ w b lo A n c code g K' i v1 v2 v3 v4 v5 x1 x2 x3 x4 x5 F1 F2 F3 F4 F5 w' := by
 have hz := h.sz
 have hl := h.lo
 have h1 : w.heap.size < wr.heap.size := by omega
 have h2 : b < g := by omega
 have cG : ∀ {o u}, wr.cell? ⟨g, o, none⟩ = u → w'.cell? ⟨g, o, none⟩ = u := fun h3 => hm.cellK hz (.inr h2) h3
 exact ⟨fun j hj => ⟨hm.cellK h1 (.inr hb) (h.e j hj).1, hm.frozK h1 (.inr hb) (h.e j hj).2⟩, cG h.p0, cG h.p1, cG h.p2, cG h.p3, cG h.p4, cG h.p5, fun j hj => hm.frozK hz (.inr h2) (h.q j hj),
  h.r1.chg (Chg.of_mid hm) (fun z h1 h2 => by have := (h.fd.o1 z h1).1; omega), h.r2.chg (Chg.of_mid hm) (fun z h1 h2 => by have := (h.fd.o2 z h1).1; omega), h.r3.chg (Chg.of_mid hm) (fun z h1 h2 => by have := (h.fd.o3 z h1).1; omega), h.r4.chg (Chg.of_mid hm) (fun z h1 h2 => by have := (h.fd.o4 z h1).1; omega), h.r5.chg (Chg.of_mid hm) (fun z h1 h2 => by have := (h.fd.o5 z h1).1; omega),
  h.fd, hs, h.mid.trans hm, Nat.lt_of_lt_of_le hz hm.size, hl⟩
theorem DZ.more (h : DZ w b lo A n c code g K i v1 v2 v3 v4 v5 x1 x2 x3 x4 x5 F1 F2 F3 F4 F5 wr) (hK : K ≤ K') : DZ w b lo A n c code g K' i v1 v2 v3 v4 v5 x1 x2 x3 x4 x5 F1 F2 F3 F4 F5 wr :=
 ⟨h.e, h.p0, h.p1, h.p2, h.p3, h.p4, h.p5, h.q, h.r1, h.r2, h.r3, h.r4, h.r5, h.fd, h.src.more hK, h.mid, h.sz, h.lo⟩
theorem DZ.turn (h : DZ w b lo A n c code g K i v1 v2 v3 v4 v5 x1 x2 x3 x4 x5 F1 F2 F3 F4 F5 wr) (hb : b < w.heap.size) {F : Nat → Prop} (hF : ∀ z, F z → w.heap.size < z ∧ z ≠ g) (hc : Chg F wr w4) :
 (∀ j, j < 6 → w4.cell? ⟨w.heap.size, j, none⟩ = some (if j = 0 then .int .i64 0 else .slice none 0 0) ∧ w4.frozen? ⟨w.heap.size, j, none⟩ = false) ∧ (∀ o u, wr.cell? ⟨g, o, none⟩ = u → w4.cell? ⟨g, o, none⟩ = u) ∧ (∀ j, j < 6 → w4.frozen? ⟨g, j, none⟩ = false) ∧ Src w4 b lo A n c code K ∧ Mid b (b + 1) w w4 ∧ g < w4.heap.size := by
 have hz := h.sz
 have hl := h.lo
 have hs4 : wr.heap.size ≤ w4.heap.size := hc.size
 have MB : Below w.heap.size wr w4 := hc.toBelow (fun z h => by have := hF z h; omega) (by omega)
 refine ⟨fun j hj => ⟨?_, ?_⟩, fun o u hu => ?_, fun j hj => ?_, h.src.below MB hb, h.mid.thenB' MB (Nat.le_refl _), by omega⟩
 · rw [hc.cell1 (show w.heap.size < _ by omega) (fun h => absurd (show w.heap.size < w.heap.size from (hF _ h).1) (by omega))]; exact (h.e j hj).1
 · rw [hc.frozen1 (show w.heap.size < _ by omega) (fun h => absurd (show w.heap.size < w.heap.size from (hF _ h).1) (by omega))]; exact (h.e j hj).2
 · rw [hc.cell1 hz (fun h => (hF _ h).2 rfl)]; exact hu
 · rw [hc.frozen1 hz (fun h => (hF _ h).2 rfl)]; exact h.q j hj
theorem DZ.push1 (h : DZ w b lo A n c code g K i v1 v2 v3 v4 v5 x1 x2 x3 x4 x5 F1 F2 F3 F4 F5 wr) (hb : b < w.heap.size) (hc : Chg F1 wr w4) {x' : List (List Int)} (r' : OS tS 26 w4 F' v' x') (fd : FZ w.heap.size g F' F2 F3 F4 F5) : DZ w b lo A n c code g K i v' v2 v3 v4 v5 x' x2 x3 x4 x5 F' F2 F3 F4 F5 (w4.setCell ⟨g, 1, none⟩ v') := by
 obtain ⟨h1, h2, h3, h4, h5, h6⟩ := h.turn hb h.fd.o1 hc
 have hl := h.lo
 have CB : Chg (fun z => z = g) w4 (w4.setCell ⟨g, 1, none⟩ v') := Chg.set w4 g 1 _ rfl
 have MB : Below w.heap.size w4 (w4.setCell ⟨g, 1, none⟩ v') := CB.toBelow (fun z h => by omega) (by omega)
 refine ⟨fun j hj => ⟨?_, (World.frozen?_setCell _ _ _ _).trans (h1 j hj).2⟩, (zae w4 g _ (by decide)).trans (h2 _ _ h.p0), World.cell?_setCell_same _ _ _ (h2 _ _ h.p1), (zae w4 g _ (by decide)).trans (h2 _ _ h.p2), (zae w4 g _ (by decide)).trans (h2 _ _ h.p3), (zae w4 g _ (by decide)).trans (h2 _ _ h.p4), (zae w4 g _ (by decide)).trans (h2 _ _ h.p5), fun j hj => (World.frozen?_setCell _ _ _ _).trans (h3 j hj),
  r'.chg CB (fun z a b => (fd.o1 z a).2 b), (h.r2.chg hc (fun z a b => h.fd.a12 z b a)).chg CB (fun z a b => (h.fd.o2 z a).2 b), (h.r3.chg hc (fun z a b => h.fd.a13 z b a)).chg CB (fun z a b => (h.fd.o3 z a).2 b), (h.r4.chg hc (fun z a b => h.fd.a14 z b a)).chg CB (fun z a b => (h.fd.o4 z a).2 b), (h.r5.chg hc (fun z a b => h.fd.a15 z b a)).chg CB (fun z a b => (h.fd.o5 z a).2 b), fd, h4.below MB hb, h5.thenB' MB (by have := h.mid.size; omega), by simpa using h6, hl⟩
 rw [World.cell?_of_block (heap_setCell_other w4 ⟨g, 1, none⟩ w.heap.size _ (by show w.heap.size ≠ g; omega))]; exact (h1 j hj).1
theorem DZ.push2 (h : DZ w b lo A n c code g K i v1 v2 v3 v4 v5 x1 x2 x3 x4 x5 F1 F2 F3 F4 F5 wr) (hb : b < w.heap.size) (hc : Chg F2 wr w4) {x' : List (List zah)} (r' : OS tT 42 w4 F' v' x') (fd : FZ w.heap.size g F1 F' F3 F4 F5) : DZ w b lo A n c code g K i v1 v' v3 v4 v5 x1 x' x3 x4 x5 F1 F' F3 F4 F5 (w4.setCell ⟨g, 2, none⟩ v') := by
 obtain ⟨h1, h2, h3, h4, h5, h6⟩ := h.turn hb h.fd.o2 hc
 have hl := h.lo
 have CB : Chg (fun z => z = g) w4 (w4.setCell ⟨g, 2, none⟩ v') := Chg.set w4 g 2 _ rfl
 have MB : Below w.heap.size w4 (w4.setCell ⟨g, 2, none⟩ v') := CB.toBelow (fun z h => by omega) (by omega)
 refine ⟨fun j hj => ⟨?_, (World.frozen?_setCell _ _ _ _).trans (h1 j hj).2⟩, (zae w4 g _ (by decide)).trans (h2 _ _ h.p0), (zae w4 g _ (by decide)).trans (h2 _ _ h.p1), World.cell?_setCell_same _ _ _ (h2 _ _ h.p2), (zae w4 g _ (by decide)).trans (h2 _ _ h.p3), (zae w4 g _ (by decide)).trans (h2 _ _ h.p4), (zae w4 g _ (by decide)).trans (h2 _ _ h.p5), fun j hj => (World.frozen?_setCell _ _ _ _).trans (h3 j hj),
  (h.r1.chg hc (fun z a b => h.fd.a12 z a b)).chg CB (fun z a b => (h.fd.o1 z a).2 b), r'.chg CB (fun z a b => (fd.o2 z a).2 b), (h.r3.chg hc (fun z a b => h.fd.a23 z b a)).chg CB (fun z a b => (h.fd.o3 z a).2 b), (h.r4.chg hc (fun z a b => h.fd.a24 z b a)).chg CB (fun z a b => (h.fd.o4 z a).2 b), (h.r5.chg hc (fun z a b => h.fd.a25 z b a)).chg CB (fun z a b => (h.fd.o5 z a).2 b), fd, h4.below MB hb, h5.thenB' MB (by have := h.mid.size; omega), by simpa using h6, hl⟩
 rw [World.cell?_of_block (heap_setCell_other w4 ⟨g, 2, none⟩ w.heap.size _ (by show w.heap.size ≠ g; omega))]; exact (h1 j hj).1
theorem DZ.push3 (h : DZ w b lo A n c code g K i v1 v2 v3 v4 v5 x1 x2 x3 x4 x5 F1 F2 F3 F4 F5 wr) (hb : b < w.heap.size) (hc : Chg F3 wr w4) {x' : List Int} (r' : OS tI 2 w4 F' v' x') (fd : FZ w.heap.size g F1 F2 F' F4 F5) : DZ w b lo A n c code g K i v1 v2 v' v4 v5 x1 x2 x' x4 x5 F1 F2 F' F4 F5 (w4.setCell ⟨g, 3, none⟩ v') := by
 obtain ⟨h1, h2, h3, h4, h5, h6⟩ := h.turn hb h.fd.o3 hc
 have hl := h.lo
 have CB : Chg (fun z => z = g) w4 (w4.setCell ⟨g, 3, none⟩ v') := Chg.set w4 g 3 _ rfl
 have MB : Below w.heap.size w4 (w4.setCell ⟨g, 3, none⟩ v') := CB.toBelow (fun z h => by omega) (by omega)
 refine ⟨fun j hj => ⟨?_, (World.frozen?_setCell _ _ _ _).trans (h1 j hj).2⟩, (zae w4 g _ (by decide)).trans (h2 _ _ h.p0), (zae w4 g _ (by decide)).trans (h2 _ _ h.p1), (zae w4 g _ (by decide)).trans (h2 _ _ h.p2), World.cell?_setCell_same _ _ _ (h2 _ _ h.p3), (zae w4 g _ (by decide)).trans (h2 _ _ h.p4), (zae w4 g _ (by decide)).trans (h2 _ _ h.p5), fun j hj => (World.frozen?_setCell _ _ _ _).trans (h3 j hj),
  (h.r1.chg hc (fun z a b => h.fd.a13 z a b)).chg CB (fun z a b => (h.fd.o1 z a).2 b), (h.r2.chg hc (fun z a b => h.fd.a23 z a b)).chg CB (fun z a b => (h.fd.o2 z a).2 b), r'.chg CB (fun z a b => (fd.o3 z a).2 b), (h.r4.chg hc (fun z a b => h.fd.a34 z b a)).chg CB (fun z a b => (h.fd.o4 z a).2 b), (h.r5.chg hc (fun z a b => h.fd.a35 z b a)).chg CB (fun z a b => (h.fd.o5 z a).2 b), fd, h4.below MB hb, h5.thenB' MB (by have := h.mid.size; omega), by simpa using h6, hl⟩
 rw [World.cell?_of_block (heap_setCell_other w4 ⟨g, 3, none⟩ w.heap.size _ (by show w.heap.size ≠ g; omega))]; exact (h1 j hj).1
theorem DZ.push4 (h : DZ w b lo A n c code g K i v1 v2 v3 v4 v5 x1 x2 x3 x4 x5 F1 F2 F3 F4 F5 wr) (hb : b < w.heap.size) (hc : Chg F4 wr w4) {x' : List zaf} (r' : OS tP 36 w4 F' v' x') (fd : FZ w.heap.size g F1 F2 F3 F' F5) : DZ w b lo A n c code g K i v1 v2 v3 v' v5 x1 x2 x3 x' x5 F1 F2 F3 F' F5 (w4.setCell ⟨g, 4, none⟩ v') := by
 obtain ⟨h1, h2, h3, h4, h5, h6⟩ := h.turn hb h.fd.o4 hc
 have hl := h.lo
 have CB : Chg (fun z => z = g) w4 (w4.setCell ⟨g, 4, none⟩ v') := Chg.set w4 g 4 _ rfl
 have MB : Below w.heap.size w4 (w4.setCell ⟨g, 4, none⟩ v') := CB.toBelow (fun z h => by omega) (by omega)
 refine ⟨fun j hj => ⟨?_, (World.frozen?_setCell _ _ _ _).trans (h1 j hj).2⟩, (zae w4 g _ (by decide)).trans (h2 _ _ h.p0), (zae w4 g _ (by decide)).trans (h2 _ _ h.p1), (zae w4 g _ (by decide)).trans (h2 _ _ h.p2), (zae w4 g _ (by decide)).trans (h2 _ _ h.p3), World.cell?_setCell_same _ _ _ (h2 _ _ h.p4), (zae w4 g _ (by decide)).trans (h2 _ _ h.p5), fun j hj => (World.frozen?_setCell _ _ _ _).trans (h3 j hj),
  (h.r1.chg hc (fun z a b => h.fd.a14 z a b)).chg CB (fun z a b => (h.fd.o1 z a).2 b), (h.r2.chg hc (fun z a b => h.fd.a24 z a b)).chg CB (fun z a b => (h.fd.o2 z a).2 b), (h.r3.chg hc (fun z a b => h.fd.a34 z a b)).chg CB (fun z a b => (h.fd.o3 z a).2 b), r'.chg CB (fun z a b => (fd.o4 z a).2 b), (h.r5.chg hc (fun z a b => h.fd.a45 z b a)).chg CB (fun z a b => (h.fd.o5 z a).2 b), fd, h4.below MB hb, h5.thenB' MB (by have := h.mid.size; omega), by simpa using h6, hl⟩
 rw [World.cell?_of_block (heap_setCell_other w4 ⟨g, 4, none⟩ w.heap.size _ (by show w.heap.size ≠ g; omega))]; exact (h1 j hj).1
theorem DZ.push5 (h : DZ w b lo A n c code g K i v1 v2 v3 v4 v5 x1 x2 x3 x4 x5 F1 F2 F3 F4 F5 wr) (hb : b < w.heap.size) (hc : Chg F5 wr w4) {x' : List zad} (r' : OS tSt 100 w4 F' v' x') (fd : FZ w.heap.size g F1 F2 F3 F4 F') : DZ w b lo A n c code g K i v1 v2 v3 v4 v' x1 x2 x3 x4 x' F1 F2 F3 F4 F' (w4.setCell ⟨g, 5, none⟩ v') := by
 obtain ⟨h1, h2, h3, h4, h5, h6⟩ := h.turn hb h.fd.o5 hc
 have hl := h.lo
 have CB : Chg (fun z => z = g) w4 (w4.setCell ⟨g, 5, none⟩ v') := Chg.set w4 g 5 _ rfl
 have MB : Below w.heap.size w4 (w4.setCell ⟨g, 5, none⟩ v') := CB.toBelow (fun z h => by omega) (by omega)
 refine ⟨fun j hj => ⟨?_, (World.frozen?_setCell _ _ _ _).trans (h1 j hj).2⟩, (zae w4 g _ (by decide)).trans (h2 _ _ h.p0), (zae w4 g _ (by decide)).trans (h2 _ _ h.p1), (zae w4 g _ (by decide)).trans (h2 _ _ h.p2), (zae w4 g _ (by decide)).trans (h2 _ _ h.p3), (zae w4 g _ (by decide)).trans (h2 _ _ h.p4), World.cell?_setCell_same _ _ _ (h2 _ _ h.p5), fun j hj => (World.frozen?_setCell _ _ _ _).trans (h3 j hj),
  (h.r1.chg hc (fun z a b => h.fd.a15 z a b)).chg CB (fun z a b => (h.fd.o1 z a).2 b), (h.r2.chg hc (fun z a b => h.fd.a25 z a b)).chg CB (fun z a b => (h.fd.o2 z a).2 b), (h.r3.chg hc (fun z a b => h.fd.a35 z a b)).chg CB (fun z a b => (h.fd.o3 z a).2 b), (h.r4.chg hc (fun z a b => h.fd.a45 z a b)).chg CB (fun z a b => (h.fd.o4 z a).2 b), r'.chg CB (fun z a b => (fd.o5 z a).2 b), fd, h4.below MB hb, h5.thenB' MB (by have := h.mid.size; omega), by simpa using h6, hl⟩
 rw [World.cell?_of_block (heap_setCell_other w4 ⟨g, 5, none⟩ w.heap.size _ (by show w.heap.size ≠ g; omega))]; exact (h1 j hj).1
end
def DrewZ (b lo : Nat) (A : Option Addr) (n c : Nat) (code : List UInt8) (K : Nat) (P : Sess → Prop) (w : World) (e : Ending) (w' : World) : Prop :=
 ∃ i A1 n1 c1 A2 n2 c2 A3 n3 c3 A4 n4 c4 A5 n5 c5 x, e = .returned (.agg #[.int .i64 i, .slice A1 n1 c1, .slice A2 n2 c2, .slice A3 n3 c3, .slice A4 n4 c4, .slice A5 n5 c5]) ∧ tZ.O w' (Iv w.heap.size w'.heap.size) [.int .i64 i, .slice A1 n1 c1, .slice A2 n2 c2, .slice A3 n3 c3, .slice A4 n4 c4, .slice A5 n5 c5] x ∧ Hid (P x) ∧ Src w' b lo A n c code K ∧ Mid b (b + 1) w w'
theorem DZ.fin {w wr : World} {b lo : Nat} {A : Option Addr} {n c : Nat} {code : List UInt8} {g K : Nat} {i : Int} {A1 : Option Addr} {n1 c1 : Nat} {A2 : Option Addr} {n2 c2 : Nat} {A3 : Option Addr} {n3 c3 : Nat} {A4 : Option Addr} {n4 c4 : Nat} {A5 : Option Addr} {n5 c5 : Nat} {x1 : List (List Int)} {x2 : List (List zah)} {x3 : List Int} {x4 : List zaf} {x5 : List zad} {F1 F2 F3 F4 F5 : Nat → Prop}
 (h : DZ w b lo A n c code g K i (.slice A1 n1 c1) (.slice A2 n2 c2) (.slice A3 n3 c3) (.slice A4 n4 c4) (.slice A5 n5 c5) x1 x2 x3 x4 x5 F1 F2 F3 F4 F5 wr) (hb : b < w.heap.size) {P : Sess → Prop} (hP : P (i, x1, x2, x3, x4, x5)) :
 DrewZ b lo A n c code K P w (.returned (.agg #[.int .i64 i, .slice A1 n1 c1, .slice A2 n2 c2, .slice A3 n3 c3, .slice A4 n4 c4, .slice A5 n5 c5])) ((((((wr.setCell ⟨w.heap.size, 0, none⟩ (.int .i64 i)).setCell ⟨w.heap.size, 1, none⟩ (.slice A1 n1 c1)).setCell ⟨w.heap.size, 2, none⟩ (.slice A2 n2 c2)).setCell ⟨w.heap.size, 3, none⟩ (.slice A3 n3 c3)).setCell ⟨w.heap.size, 4, none⟩ (.slice A4 n4 c4)).setCell ⟨w.heap.size, 5, none⟩ (.slice A5 n5 c5)) := by
 have hz := h.sz
 have hl := h.lo
 have st : ∀ (u : World) (o : Nat) (x : Value), Chg (fun z => z = w.heap.size) u (u.setCell ⟨w.heap.size, o, none⟩ x) := fun u o x => Chg.set u w.heap.size o _ rfl
 have CH := ((((((st wr 0 (.int .i64 i)).trans (st _ 1 (.slice A1 n1 c1))).trans (st _ 2 (.slice A2 n2 c2))).trans (st _ 3 (.slice A3 n3 c3))).trans (st _ 4 (.slice A4 n4 c4))).trans (st _ 5 (.slice A5 n5 c5)))
 have MB := CH.toBelow (B := w.heap.size) (fun z h => by omega) (by omega)
 have hs := CH.size
 refine ⟨i, A1, n1, c1, A2, n2, c2, A3, n3, c3, A4, n4, c4, A5, n5, c5, (i, x1, x2, x3, x4, x5), rfl, ?_, Lib.hid hP, h.src.below MB hb, h.mid.thenB' MB (Nat.le_refl _)⟩
 have wd : ∀ {F : Nat → Prop}, (∀ z, F z → w.heap.size < z ∧ z ≠ g) → ∀ z, (F z ∧ z < wr.heap.size) → w.heap.size ≤ z ∧ z < _ := fun hF z h1 => ⟨Nat.le_of_lt (hF z h1.1).1, Nat.lt_of_lt_of_le h1.2 hs⟩
 exact tZ_O.2 ⟨A1, n1, c1, A2, n2, c2, A3, n3, c3, A4, n4, c4, A5, n5, c5, _, _, _, _, _, rfl, sl_O.2 (h.r1.real.chg CH (fun z h1 h2 => by have := (h.fd.o1 z h1.1).1; omega)), sl_O.2 (h.r2.real.chg CH (fun z h1 h2 => by have := (h.fd.o2 z h1.1).1; omega)), sl_O.2 (h.r3.real.chg CH (fun z h1 h2 => by have := (h.fd.o3 z h1.1).1; omega)), sl_O.2 (h.r4.real.chg CH (fun z h1 h2 => by have := (h.fd.o4 z h1.1).1; omega)), sl_O.2 (h.r5.real.chg CH (fun z h1 h2 => by have := (h.fd.o5 z h1.1).1; omega)),
  wd h.fd.o1, wd h.fd.o2, wd h.fd.o3, wd h.fd.o4, wd h.fd.o5, fun z a b => h.fd.a12 z a.1 b.1, fun z a b => h.fd.a13 z a.1 b.1, fun z a b => h.fd.a14 z a.1 b.1, fun z a b => h.fd.a15 z a.1 b.1, fun z a b => h.fd.a23 z a.1 b.1, fun z a b => h.fd.a24 z a.1 b.1, fun z a b => h.fd.a25 z a.1 b.1, fun z a b => h.fd.a34 z a.1 b.1, fun z a b => h.fd.a35 z a.1 b.1, fun z a b => h.fd.a45 z a.1 b.1⟩
def DS (w : World) (b lo : Nat) (A : Option Addr) (n c : Nat) (code : List UInt8) (g K M : Nat) (i : Int) (v1 v2 v3 v4 v5 : Value) (x1 : List (List Int)) (x2 : List (List zah)) (x3 : List Int) (x4 : List zaf) (x5 : List zad) (wr : World) : Prop := ∃ F1 F2 F3 F4 F5 : Nat → Prop, DZ w b lo A n c code g K i v1 v2 v3 v4 v5 x1 x2 x3 x4 x5 F1 F2 F3 F4 F5 wr ∧ (∀ z, F1 z ∨ F2 z ∨ F3 z ∨ F4 z ∨ F5 z → z < M) ∧ M ≤ wr.heap.size ∧ g < M
section
variable {w wr w' : World} {b lo : Nat} {A : Option Addr} {n c : Nat} {code : List UInt8} {g K K' M : Nat} {i : Int} {v1 v2 v3 v4 v5 : Value} {x1 : List (List Int)} {x2 : List (List zah)} {x3 : List Int} {x4 : List zaf} {x5 : List zad}
theorem DS.step (h : DS w b lo A n c code g K M i v1 v2 v3 v4 v5 x1 x2 x3 x4 x5 wr) (hb : b < w.heap.size) (hs : Src w' b lo A n c code K') (hm : Mid b (b + 1) wr w') : DS w b lo A n c code g K' M i v1 v2 v3 v4 v5 x1 x2 x3 x4 x5 w' := by
 obtain ⟨F1, F2, F3, F4, F5, h, hB, hM, hg⟩ := h
 exact ⟨F1, F2, F3, F4, F5, h.step hb hs hm, hB, Nat.le_trans hM hm.size, hg⟩
theorem DS.more (h : DS w b lo A n c code g K M i v1 v2 v3 v4 v5 x1 x2 x3 x4 x5 wr) (hK : K ≤ K') : DS w b lo A n c code g K' M i v1 v2 v3 v4 v5 x1 x2 x3 x4 x5 wr := by
 obtain ⟨F1, F2, F3, F4, F5, h, hB, hM, hg⟩ := h
 exact ⟨F1, F2, F3, F4, F5, h.more hK, hB, hM, hg⟩
theorem DS.up (h : DS w b lo A n c code g K M i v1 v2 v3 v4 v5 x1 x2 x3 x4 x5 wr) : DS w b lo A n c code g K wr.heap.size i v1 v2 v3 v4 v5 x1 x2 x3 x4 x5 wr := by
 obtain ⟨F1, F2, F3, F4, F5, h, hB, hM, hg⟩ := h
 exact ⟨F1, F2, F3, F4, F5, h, fun z hz => Nat.lt_of_lt_of_le (hB z hz) hM, Nat.le_refl _, h.sz⟩
theorem DS.src (h : DS w b lo A n c code g K M i v1 v2 v3 v4 v5 x1 x2 x3 x4 x5 wr) : Src wr b lo A n c code K := by obtain ⟨F1, F2, F3, F4, F5, h, hB, hM, hg⟩ := h; exact h.src
theorem DS.sz (h : DS w b lo A n c code g K M i v1 v2 v3 v4 v5 x1 x2 x3 x4 x5 wr) : g < wr.heap.size ∧ w.heap.size < g := by obtain ⟨F1, F2, F3, F4, F5, h, hB, hM, hg⟩ := h; exact ⟨h.sz, h.lo⟩
theorem DS.mid (h : DS w b lo A n c code g K M i v1 v2 v3 v4 v5 x1 x2 x3 x4 x5 wr) : Mid b (b + 1) w wr := by obtain ⟨F1, F2, F3, F4, F5, h, hB, hM, hg⟩ := h; exact h.mid
theorem DS.p0 (h : DS w b lo A n c code g K M i v1 v2 v3 v4 v5 x1 x2 x3 x4 x5 wr) : wr.cell? ⟨g, 0, none⟩ = some (.int .i64 i) := by obtain ⟨F1, F2, F3, F4, F5, h, hB, hM, hg⟩ := h; exact h.p0
theorem DS.p1 (h : DS w b lo A n c code g K M i v1 v2 v3 v4 v5 x1 x2 x3 x4 x5 wr) : wr.cell? ⟨g, 1, none⟩ = some v1 := by obtain ⟨F1, F2, F3, F4, F5, h, hB, hM, hg⟩ := h; exact h.p1
theorem DS.p2 (h : DS w b lo A n c code g K M i v1 v2 v3 v4 v5 x1 x2 x3 x4 x5 wr) : wr.cell? ⟨g, 2, none⟩ = some v2 := by obtain ⟨F1, F2, F3, F4, F5, h, hB, hM, hg⟩ := h; exact h.p2
theorem DS.p3 (h : DS w b lo A n c code g K M i v1 v2 v3 v4 v5 x1 x2 x3 x4 x5 wr) : wr.cell? ⟨g, 3, none⟩ = some v3 := by obtain ⟨F1, F2, F3, F4, F5, h, hB, hM, hg⟩ := h; exact h.p3
theorem DS.p4 (h : DS w b lo A n c code g K M i v1 v2 v3 v4 v5 x1 x2 x3 x4 x5 wr) : wr.cell? ⟨g, 4, none⟩ = some v4 := by obtain ⟨F1, F2, F3, F4, F5, h, hB, hM, hg⟩ := h; exact h.p4
theorem DS.p5 (h : DS w b lo A n c code g K M i v1 v2 v3 v4 v5 x1 x2 x3 x4 x5 wr) : wr.cell? ⟨g, 5, none⟩ = some v5 := by obtain ⟨F1, F2, F3, F4, F5, h, hB, hM, hg⟩ := h; exact h.p5
theorem DS.q (h : DS w b lo A n c code g K M i v1 v2 v3 v4 v5 x1 x2 x3 x4 x5 wr) : ∀ j, j < 6 → wr.frozen? ⟨g, j, none⟩ = false := by obtain ⟨F1, F2, F3, F4, F5, h, hB, hM, hg⟩ := h; exact h.q
theorem DS.e (h : DS w b lo A n c code g K M i v1 v2 v3 v4 v5 x1 x2 x3 x4 x5 wr) : ∀ j, j < 6 → wr.cell? ⟨w.heap.size, j, none⟩ = some (if j = 0 then .int .i64 0 else .slice none 0 0) ∧ wr.frozen? ⟨w.heap.size, j, none⟩ = false := by obtain ⟨F1, F2, F3, F4, F5, h, hB, hM, hg⟩ := h; exact h.e
theorem DS.open1 (h : DS w b lo A n c code g K M i v1 v2 v3 v4 v5 x1 x2 x3 x4 x5 wr) (hb : b < w.heap.size) : ∃ F : Nat → Prop, OS tS 26 wr F v1 x1 ∧ (∀ z, F z → w.heap.size < z ∧ z ≠ g ∧ z < M) ∧ ∀ (w4 : World) (F' : Nat → Prop) (v' : Value) (x' : List (List Int)), Chg F wr w4 → OS tS 26 w4 F' v' x' → (∀ z, F' z → F z ∨ M ≤ z) → DS w b lo A n c code g K w4.heap.size i v' v2 v3 v4 v5 x' x2 x3 x4 x5  (w4.setCell ⟨g, 1, none⟩ v') := by
 obtain ⟨F1, F2, F3, F4, F5, h, hB, hM, hg⟩ := h
 refine ⟨F1, h.r1, fun z hz => ⟨(h.fd.o1 z hz).1, (h.fd.o1 z hz).2, hB z (by simp [hz])⟩, fun w4 F' v' x' hc r' hF => ?_⟩
 have hl := h.lo
 have hz := h.sz
 have hs := hc.size
 have fd : FZ w.heap.size g (fun z => F' z ∧ z < w4.heap.size) F2 F3 F4 F5 := ⟨fun z a => by rcases hF z a.1 with a | a; exact h.fd.o1 z a; omega, h.fd.o2, h.fd.o3, h.fd.o4, h.fd.o5, fun z a b => by rcases hF z a.1 with a | a; exact h.fd.a12 z a b; have := hB z (by simp [b]); omega, fun z a b => by rcases hF z a.1 with a | a; exact h.fd.a13 z a b; have := hB z (by simp [b]); omega, fun z a b => by rcases hF z a.1 with a | a; exact h.fd.a14 z a b; have := hB z (by simp [b]); omega, fun z a b => by rcases hF z a.1 with a | a; exact h.fd.a15 z a b; have := hB z (by simp [b]); omega, h.fd.a23, h.fd.a24, h.fd.a25, h.fd.a34, h.fd.a35, h.fd.a45⟩
 refine ⟨_, F2, F3, F4, F5, h.push1 hb hc r'.real fd, fun z hz => ?_, by simp, by omega⟩
 rcases hz with hz | hz | hz | hz | hz
 · exact hz.2
 · have := hB z (by simp [hz]); omega
 · have := hB z (by simp [hz]); omega
 · have := hB z (by simp [hz]); omega
 · have := hB z (by simp [hz]); omega
theorem DS.open2 (h : DS w b lo A n c code g K M i v1 v2 v3 v4 v5 x1 x2 x3 x4 x5 wr) (hb : b < w.heap.size) : ∃ F : Nat → Prop, OS tT 42 wr F v2 x2 ∧ (∀ z, F z → w.heap.size < z ∧ z ≠ g ∧ z < M) ∧ ∀ (w4 : World) (F' : Nat → Prop) (v' : Value) (x' : List (List zah)), Chg F wr w4 → OS tT 42 w4 F' v' x' → (∀ z, F' z → F z ∨ M ≤ z) → DS w b lo A n c code g K w4.heap.size i v1 v' v3 v4 v5 x1 x' x3 x4 x5  (w4.setCell ⟨g, 2, none⟩ v') := by
 obtain ⟨F1, F2, F3, F4, F5, h, hB, hM, hg⟩ := h
 refine ⟨F2, h.r2, fun z hz => ⟨(h.fd.o2 z hz).1, (h.fd.o2 z hz).2, hB z (by simp [hz])⟩, fun w4 F' v' x' hc r' hF => ?_⟩
 have hl := h.lo
 have hz := h.sz
 have hs := hc.size
 have fd : FZ w.heap.size g F1 (fun z => F' z ∧ z < w4.heap.size) F3 F4 F5 := ⟨h.fd.o1, fun z a => by rcases hF z a.1 with a | a; exact h.fd.o2 z a; omega, h.fd.o3, h.fd.o4, h.fd.o5, fun z a b => by rcases hF z b.1 with b | b; exact h.fd.a12 z a b; have := hB z (by simp [a]); omega, h.fd.a13, h.fd.a14, h.fd.a15, fun z a b => by rcases hF z a.1 with a | a; exact h.fd.a23 z a b; have := hB z (by simp [b]); omega, fun z a b => by rcases hF z a.1 with a | a; exact h.fd.a24 z a b; have := hB z (by simp [b]); omega, fun z a b => by rcases hF z a.1 with a | a; exact h.fd.a25 z a b; have := hB z (by simp [b]); omega, h.fd.a34, h.fd.a35, h.fd.a45⟩
 refine ⟨F1, _, F3, F4, F5, h.push2 hb hc r'.real fd, fun z hz => ?_, by simp, by omega⟩
 rcases hz with hz | hz | hz | hz | hz
 · have := hB z (by simp [hz]); omega
 · exact hz.2
 · have := hB z (by simp [hz]); omega
 · have := hB z (by simp [hz]); omega
 · have := hB z (by simp [hz]); omega
theorem DS.open3 (h : DS w b lo A n c code g K M i v1 v2 v3 v4 v5 x1 x2 x3 x4 x5 wr) (hb : b < w.heap.size) : ∃ F : Nat → Prop, OS tI 2 wr F v3 x3 ∧ (∀ z, F z → w.heap.size < z ∧ z ≠ g ∧ z < M) ∧ ∀ (w4 : World) (F' : Nat → Prop) (v' : Value) (x' : List Int), Chg F wr w4 → OS tI 2 w4 F' v' x' → (∀ z, F' z → F z ∨ M ≤ z) → DS w b lo A n c code g K w4.heap.size i v1 v2 v' v4 v5 x1 x2 x' x4 x5  (w4.setCell ⟨g, 3, none⟩ v') := by
 obtain ⟨F1, F2, F3, F4, F5, h, hB, hM, hg⟩ := h
 refine ⟨F3, h.r3, fun z hz => ⟨(h.fd.o3 z hz).1, (h.fd.o3 z hz).2, hB z (by simp [hz])⟩, fun w4 F' v' x' hc r' hF => ?_⟩
 have hl := h.lo
 have hz := h.sz
 have hs := hc.size
 have fd : FZ w.heap.size g F1 F2 (fun z => F' z ∧ z < w4.heap.size) F4 F5 := ⟨h.fd.o1, h.fd.o2, fun z a => by rcases hF z a.1 with a | a; exact h.fd.o3 z a; omega, h.fd.o4, h.fd.o5, h.fd.a12, fun z a b => by rcases hF z b.1 with b | b; exact h.fd.a13 z a b; have := hB z (by simp [a]); omega, h.fd.a14, h.fd.a15, fun z a b => by rcases hF z b.1 with b | b; exact h.fd.a23 z a b; have := hB z (by simp [a]); omega, h.fd.a24, h.fd.a25, fun z a b => by rcases hF z a.1 with a | a; exact h.fd.a34 z a b; have := hB z (by simp [b]); omega, fun z a b => by rcases hF z a.1 with a | a; exact h.fd.a35 z a b; have := hB z (by simp [b]); omega, h.fd.a45⟩
 refine ⟨F1, F2, _, F4, F5, h.push3 hb hc r'.real fd, fun z hz => ?_, by simp, by omega⟩
 rcases hz with hz | hz | hz | hz | hz
 · have := hB z (by simp [hz]); omega
 · have := hB z (by simp [hz]); omega
 · exact hz.2
 · have := hB z (by simp [hz]); omega
 · have := hB z (by simp [hz]); omega
theorem DS.open4 (h : DS w b lo A n c code g K M i v1 v2 v3 v4 v5 x1 x2 x3 x4 x5 wr) (hb : b < w.heap.size) : ∃ F : Nat → Prop, OS tP 36 wr F v4 x4 ∧ (∀ z, F z → w.heap.size < z ∧ z ≠ g ∧ z < M) ∧ ∀ (w4 : World) (F' : Nat → Prop) (v' : Value) (x' : List zaf), Chg F wr w4 → OS tP 36 w4 F' v' x' → (∀ z, F' z → F z ∨ M ≤ z) → DS w b lo A n c code g K w4.heap.size i v1 v2 v3 v' v5 x1 x2 x3 x' x5  (w4.setCell ⟨g, 4, none⟩ v') := by
 obtain ⟨F1, F2, F3, F4, F5, h, hB, hM, hg⟩ := h
 refine ⟨F4, h.r4, fun z hz => ⟨(h.fd.o4 z hz).1, (h.fd.o4 z hz).2, hB z (by simp [hz])⟩, fun w4 F' v' x' hc r' hF => ?_⟩
 have hl := h.lo
 have hz := h.sz
 have hs := hc.size
 have fd : FZ w.heap.size g F1 F2 F3 (fun z => F' z ∧ z < w4.heap.size) F5 := ⟨h.fd.o1, h.fd.o2, h.fd.o3, fun z a => by rcases hF z a.1 with a | a; exact h.fd.o4 z a; omega, h.fd.o5, h.fd.a12, h.fd.a13, fun z a b => by rcases hF z b.1 with b | b; exact h.fd.a14 z a b; have := hB z (by simp [a]); omega, h.fd.a15, h.fd.a23, fun z a b => by rcases hF z b.1 with b | b; exact h.fd.a24 z a b; have := hB z (by simp [a]); omega, h.fd.a25, fun z a b => by rcases hF z b.1 with b | b; exact h.fd.a34 z a b; have := hB z (by simp [a]); omega, h.fd.a35, fun z a b => by rcases hF z a.1 with a | a; exact h.fd.a45 z a b; have := hB z (by simp [b]); omega⟩
 refine ⟨F1, F2, F3, _, F5, h.push4 hb hc r'.real fd, fun z hz => ?_, by simp, by omega⟩
 rcases hz with hz | hz | hz | hz | hz
 · have := hB z (by simp [hz]); omega
 · have := hB z (by simp [hz]); omega
 · have := hB z (by simp [hz]); omega
 · exact hz.2
 · have := hB z (by simp [hz]); omega
theorem DS.open5 (h : DS w b lo A n c code g K M i v1 v2 v3 v4 v5 x1 x2 x3 x4 x5 wr) (hb : b < w.heap.size) : ∃ F : Nat → Prop, OS tSt 100 wr F v5 x5 ∧ (∀ z, F z → w.heap.size < z ∧ z ≠ g ∧ z < M) ∧ ∀ (w4 : World) (F' : Nat → Prop) (v' : Value) (x' : List zad), Chg F wr w4 → OS tSt 100 w4 F' v' x' → (∀ z, F' z → F z ∨ M ≤ z) → DS w b lo A n c code g K w4.heap.size i v1 v2 v3 v4 v' x1 x2 x3 x4 x'  (w4.setCell ⟨g, 5, none⟩ v') := by
 obtain ⟨F1, F2, F3, F4, F5, h, hB, hM, hg⟩ := h
 refine ⟨F5, h.r5, fun z hz => ⟨(h.fd.o5 z hz).1, (h.fd.o5 z hz).2, hB z (by simp [hz])⟩, fun w4 F' v' x' hc r' hF => ?_⟩
 have hl := h.lo
 have hz := h.sz
 have hs := hc.size
 have fd : FZ w.heap.size g F1 F2 F3 F4 (fun z => F' z ∧ z < w4.heap.size) := ⟨h.fd.o1, h.fd.o2, h.fd.o3, h.fd.o4, fun z a => by rcases hF z a.1 with a | a; exact h.fd.o5 z a; omega, h.fd.a12, h.fd.a13, h.fd.a14, fun z a b => by rcases hF z b.1 with b | b; exact h.fd.a15 z a b; have := hB z (by simp [a]); omega, h.fd.a23, h.fd.a24, fun z a b => by rcases hF z b.1 with b | b; exact h.fd.a25 z a b; have := hB z (by simp [a]); omega, h.fd.a34, fun z a b => by rcases hF z b.1 with b | b; exact h.fd.a35 z a b; have := hB z (by simp [a]); omega, fun z a b => by rcases hF z b.1 with b | b; exact h.fd.a45 z a b; have := hB z (by simp [a]); omega⟩
 refine ⟨F1, F2, F3, F4, _, h.push5 hb hc r'.real fd, fun z hz => ?_, by simp, by omega⟩
 rcases hz with hz | hz | hz | hz | hz
 · have := hB z (by simp [hz]); omega
 · have := hB z (by simp [hz]); omega
 · have := hB z (by simp [hz]); omega
 · have := hB z (by simp [hz]); omega
 · exact hz.2
end
theorem DS.fin {w wr : World} {b lo : Nat} {A : Option Addr} {n c : Nat} {code : List UInt8} {g K M : Nat} {i : Int} {A1 : Option Addr} {n1 c1 : Nat} {A2 : Option Addr} {n2 c2 : Nat} {A3 : Option Addr} {n3 c3 : Nat} {A4 : Option Addr} {n4 c4 : Nat} {A5 : Option Addr} {n5 c5 : Nat} {x1 : List (List Int)} {x2 : List (List zah)} {x3 : List Int} {x4 : List zaf} {x5 : List zad}
 (h : DS w b lo A n c code g K M i (.slice A1 n1 c1) (.slice A2 n2 c2) (.slice A3 n3 c3) (.slice A4 n4 c4) (.slice A5 n5 c5) x1 x2 x3 x4 x5 wr) (hb : b < w.heap.size) {P : Sess → Prop} (hP : P (i, x1, x2, x3, x4, x5)) :
 DrewZ b lo A n c code K P w (.returned (.agg #[.int .i64 i, .slice A1 n1 c1, .slice A2 n2 c2, .slice A3 n3 c3, .slice A4 n4 c4, .slice A5 n5 c5])) ((((((wr.setCell ⟨w.heap.size, 0, none⟩ (.int .i64 i)).setCell ⟨w.heap.size, 1, none⟩ (.slice A1 n1 c1)).setCell ⟨w.heap.size, 2, none⟩ (.slice A2 n2 c2)).setCell ⟨w.heap.size, 3, none⟩ (.slice A3 n3 c3)).setCell ⟨w.heap.size, 4, none⟩ (.slice A4 n4 c4)).setCell ⟨w.heap.size, 5, none⟩ (.slice A5 n5 c5)) := by
 obtain ⟨F1, F2, F3, F4, F5, h, hB, hM, hg⟩ := h
 exact h.fin hb hP
theorem DS.shape1 {w wr : World} {b lo : Nat} {A : Option Addr} {n c : Nat} {code : List UInt8} {g K M : Nat} {i : Int} {v1 v2 v3 v4 v5 : Value} {x1 : List (List Int)} {x2 : List (List zah)} {x3 : List Int} {x4 : List zaf} {x5 : List zad} (h : DS w b lo A n c code g K M i v1 v2 v3 v4 v5 x1 x2 x3 x4 x5 wr) : ∃ A' c', v1 = .slice A' x1.length c' := by
 obtain ⟨F1, F2, F3, F4, F5, h, hB, hM, hg⟩ := h
 exact h.r1.shape
theorem DS.shape2 {w wr : World} {b lo : Nat} {A : Option Addr} {n c : Nat} {code : List UInt8} {g K M : Nat} {i : Int} {v1 v2 v3 v4 v5 : Value} {x1 : List (List Int)} {x2 : List (List zah)} {x3 : List Int} {x4 : List zaf} {x5 : List zad} (h : DS w b lo A n c code g K M i v1 v2 v3 v4 v5 x1 x2 x3 x4 x5 wr) : ∃ A' c', v2 = .slice A' x2.length c' := by
 obtain ⟨F1, F2, F3, F4, F5, h, hB, hM, hg⟩ := h
 exact h.r2.shape
theorem DS.shape3 {w wr : World} {b lo : Nat} {A : Option Addr} {n c : Nat} {code : List UInt8} {g K M : Nat} {i : Int} {v1 v2 v3 v4 v5 : Value} {x1 : List (List Int)} {x2 : List (List zah)} {x3 : List Int} {x4 : List zaf} {x5 : List zad} (h : DS w b lo A n c code g K M i v1 v2 v3 v4 v5 x1 x2 x3 x4 x5 wr) : ∃ A' c', v3 = .slice A' x3.length c' := by
 obtain ⟨F1, F2, F3, F4, F5, h, hB, hM, hg⟩ := h
 exact h.r3.shape
theorem DS.shape4 {w wr : World} {b lo : Nat} {A : Option Addr} {n c : Nat} {code : List UInt8} {g K M : Nat} {i : Int} {v1 v2 v3 v4 v5 : Value} {x1 : List (List Int)} {x2 : List (List zah)} {x3 : List Int} {x4 : List zaf} {x5 : List zad} (h : DS w b lo A n c code g K M i v1 v2 v3 v4 v5 x1 x2 x3 x4 x5 wr) : ∃ A' c', v4 = .slice A' x4.length c' := by
 obtain ⟨F1, F2, F3, F4, F5, h, hB, hM, hg⟩ := h
 exact h.r4.shape
theorem DS.shape5 {w wr : World} {b lo : Nat} {A : Option Addr} {n c : Nat} {code : List UInt8} {g K M : Nat} {i : Int} {v1 v2 v3 v4 v5 : Value} {x1 : List (List Int)} {x2 : List (List zah)} {x3 : List Int} {x4 : List zaf} {x5 : List zad} (h : DS w b lo A n c code g K M i v1 v2 v3 v4 v5 x1 x2 x3 x4 x5 wr) : ∃ A' c', v5 = .slice A' x5.length c' := by
 obtain ⟨F1, F2, F3, F4, F5, h, hB, hM, hg⟩ := h
 exact h.r5.shape
end
section
open Go.RowKit Go.Sort
theorem zq6 (b lo : Nat) (A : Option Addr) (n c : Nat) (code : List UInt8) (K : Nat) (w : World) (h : Src w b lo A n c code K) (hK : K ≤ 1000000000) :
 Calls Tryz.prog 39 #[.pointer (some ⟨b, 0, none⟩), .slice (some ⟨w.heap.size, 0, none⟩) 5 5] (w.alloc (.cells #[.int .i64 1, .int .i64 2, .int .i64 5, .int .i64 9, .int .i64 3] 2)) (Drew b lo A n c code (K + 2) (fun v => 0 ≤ v ∧ v ≤ 32) w) := by
 have hB : Below w.heap.size w (w.alloc (.cells #[.int .i64 1, .int .i64 2, .int .i64 5, .int .i64 9, .int .i64 3] 2)) := (Below.refl _ _).alloc (Nat.le_refl _) _
 have hb := h.lt
 refine (ze8 b lo A n c code K w.heap.size 5 5 [1, 2, 5, 9, 3] _ (h.below hB hb) (by omega) rfl (by omega) (by omega) (by simp) ?_).mono ?_
 · intro j x hx
   rw [cell_of_row _ w.heap.size j _ 2 (0, 0) (heap_alloc_new w _)]
   match j, hx with
   | 0, hx => simp at hx; subst hx; rfl
   | 1, hx => simp at hx; subst hx; rfl
   | 2, hx => simp at hx; subst hx; rfl
   | 3, hx => simp at hx; subst hx; rfl
   | 4, hx => simp at hx; subst hx; rfl
   | j + 5, hx => simp at hx
 · rintro e w2 ⟨x, rfl, hx, s3, m3⟩
   exact ⟨x, rfl, by simp only [List.mem_cons, List.not_mem_nil, or_false] at hx; omega, s3, (Mid.of_below hB _ _).trans m3⟩
theorem zlk (b lo : Nat) (A : Option Addr) (n c : Nat) (code : List UInt8) (K : Nat) (w : World) (h : Src w b lo A n c code K) (hK : K ≤ 1000000) :
 Calls Tryz.prog 43 #[.pointer (some ⟨b, 0, none⟩)] w (zo5 b lo A n c code (K + 200) w) := by
 have hbw := h.lt
 obtain ⟨W0, hW0⟩ : ∃ W, W = (w.alloc (.cells #[.slice none 0 0] 30)).alloc (.cells #[.slice none 0 0] 30) := ⟨_, rfl⟩
 have B0 : Below w.heap.size w W0 := by rw [hW0]; exact ((Below.refl _ _).alloc (Nat.le_refl _) _).alloc (by simp) _
 have z0 : W0.heap.size = w.heap.size + 2 := by rw [hW0]; simp
 have c0 : W0.cell? ⟨w.heap.size, 0, none⟩ = some (.slice none 0 0) := by rw [hW0]; simp [go_sem]
 have f0 : W0.frozen? ⟨w.heap.size, 0, none⟩ = false := by rw [hW0]; simp [go_sem]
 have c1 : W0.cell? ⟨w.heap.size + 1, 0, none⟩ = some (.slice none 0 0) := by rw [hW0]; simp [go_sem]
 have f1 : W0.frozen? ⟨w.heap.size + 1, 0, none⟩ = false := by rw [hW0]; simp [go_sem]
 have s0 := h.below B0 hbw
 have HW0 := Lib.hid hW0
 have HZ0 := Lib.hid z0
 clear hW0
 go_enter Tryz.func43, Tryz.ntmps43
 go_wp2_with fail
 rw [← HW0.out]
 refine (za4 b lo A n c code K 5 W0 s0 (by omega) (by omega)).mono ?_
 rintro e x1 ⟨N1, rfl, ⟨N0, N2⟩, s1, m1⟩
 obtain ⟨N', rfl⟩ : ∃ q : Nat, N1 = q := ⟨N1.toNat, by omega⟩
 have hN' : N' ≤ 4 := by omega
 clear N2 N0
 have t1 := m1.size
 have D1 : DM w b lo A n c code x1.heap.size (K + 2) [] (.slice none 0 0) (x1.alloc (.cells #[.string ⟨#[100, 114, 117, 109, 115]⟩, .string ⟨#[98, 97, 115, 115]⟩, .string ⟨#[98, 117, 115]⟩, .string ⟨#[101, 99, 104, 111]⟩, .string ⟨#[107, 101, 121, 115]⟩, .string ⟨#[99, 104, 111, 105, 114]⟩] 9)) := by
  have hB : Below x1.heap.size x1 (x1.alloc (.cells #[.string ⟨#[100, 114, 117, 109, 115]⟩, .string ⟨#[98, 97, 115, 115]⟩, .string ⟨#[98, 117, 115]⟩, .string ⟨#[101, 99, 104, 111]⟩, .string ⟨#[107, 101, 121, 115]⟩, .string ⟨#[99, 104, 111, 105, 114]⟩] 9)) := (Below.refl _ _).alloc (Nat.le_refl _) _
  have M1 : Mid b (b + 1) W0 _ := m1.thenB' hB m1.size
  refine ⟨M1.cellK (by omega) (.inr (by omega)) c0, M1.frozK (by omega) (.inr (by omega)) f0, M1.cellK (by omega) (.inr (by omega)) c1, M1.frozK (by omega) (.inr (by omega)) f1, Lib.hid (zo4 x1 _ _ ?_), OS.nil _ _ _ _, Lib.hid (fun x hx => by simp at hx), s1.below hB (by omega), (Mid.of_below B0 _ _).trans M1, by simp, by omega⟩
  exact zfp rfl rfl rfl rfl rfl rfl
 clear s1 m1 c0 f0 c1 f1 s0
 obtain ⟨NB, hNB⟩ : ∃ q, q = x1.heap.size := ⟨_, rfl⟩
 obtain ⟨x2, hx2⟩ : ∃ u, u = x1.alloc (.cells #[.string ⟨#[100, 114, 117, 109, 115]⟩, .string ⟨#[98, 97, 115, 115]⟩, .string ⟨#[98, 117, 115]⟩, .string ⟨#[101, 99, 104, 111]⟩, .string ⟨#[107, 101, 121, 115]⟩, .string ⟨#[99, 104, 111, 105, 114]⟩] 9) := ⟨_, rfl⟩
 rw [← hx2, ← hNB] at D1
 have HX2 := Lib.hid hx2
 have HNB := Lib.hid hNB
 clear hx2 hNB z0
 obtain ⟨N, hN⟩ : ∃ q : Nat, q = 1 + N' := ⟨_, rfl⟩
 have hN1 : 1 ≤ N ∧ N ≤ 5 := by omega
 have HN := Lib.hid (show 1 + (N' : Int) = (N : Int) by omega)
 clear hN
 go_wp2_with fail
 rw [HN.out, ← HX2.out, ← HNB.out]
 clear hN'
 go_loopw [6] (fun i wr => ∃ (j : Nat) (ms : List zad) (v : Value), i = .int .i64 j ∧ j + 1 ≤ N ∧ Hid (ms.length = j) ∧ Hid (M.drawOk N ms) ∧ DM w b lo A n c code NB (K + 2 + 40 * j) ms v wr) (fun i _ => N - (intOf i).toNat)
 case atStart => exact ⟨0, [], _, rfl, by omega, Lib.hid rfl, Lib.hid (M.drawOk.nil N), D1⟩
 case round =>
  clear D1
  obtain ⟨j, ms, v, rfl, hj, hml, hdr, D⟩ := hrel
  have HD := Lib.hid D
  have V1 := D.c1
  have V0 := D.c0
  have VF := D.f1
  have VF0 := D.f0
  have VZ := D.sz
  have VL := D.lo
  obtain ⟨Av, cv, ev⟩ := D.own.shape
  subst ev
  by_cases hlt : j + 1 < N
  · have hnm := D.nm.out j (by omega)
    obtain ⟨s, hs⟩ : ∃ s, s = zch j := ⟨_, rfl⟩
    rw [← hs] at hnm
    have hs6 : s.size ≤ 6 := by rw [hs]; exact zoy j (by omega)
    have HS6 := Lib.hid hs
    clear hs
    have E0 := DX.start s D.src
    obtain ⟨W1, hW1⟩ : ∃ u, u = wr := ⟨_, rfl⟩
    have hb1 : b < W1.heap.size := by rw [hW1]; omega
    rw [← hW1] at HD hnm E0 V0 V1 VF VF0 VZ ⊢
    clear hW1 D
    obtain ⟨Y1, hY1⟩ : ∃ u, u = W1.alloc (.cells #[.string s, .int .i64 0, .slice none 0 0] 100) := ⟨_, rfl⟩
    rw [← hY1] at E0
    have HY1 := Lib.hid hY1
    have SO := Lib.hid (zd7 b lo A n c code _ 2 Y1 E0.src (by omega) (by omega))
    have HE0 := Lib.hid E0
    clear hY1 E0
    go_wp2_with fail
    rw [← HY1.out]
    refine SO.out.mono ?_
    rintro e y2 ⟨r, rfl, s2, m2⟩
    have E0 := HE0.out.step hb1 s2 m2
    cases r
    · obtain ⟨lt, hlt0⟩ : ∃ z : Int, z = 0 := ⟨_, rfl⟩
      rw [← hlt0] at E0
      have HLT := Lib.hid (show 0 ≤ lt ∧ lt ≤ 32 by omega)
      clear hlt0
      go_wp2_with fail
      obtain ⟨wS, hS⟩ : ∃ u, u = y2 := ⟨_, rfl⟩
      rw [← hS] at E0 ⊢
      clear hS
      go_loopw [8] (fun i wx => ∃ (t : Nat) (us : List (Int × Int)) (vu : Value), i = .int .i64 ((j : Int) + 1 + t) ∧ j + 1 + t ≤ N ∧ us.length ≤ 4 ∧ Hid (M.usOk N j t us) ∧ DX W1 b lo A n c code (K + 2 + 40 * j + 4 + 8 * t) s lt us vu wx) (fun i _ => N - (intOf i).toNat)
      case atStart => exact ⟨0, [], _, by simp, by omega, by simp, Lib.hid (M.usOk.zero (by omega)), E0.more (by omega)⟩
      case round =>
       clear E0
       obtain ⟨t, us, vu, rfl, ht, hu4, hus, E⟩ := hrel
       have hTO := Lib.hid (show (j : Int) + 1 + (t : Int) = ((j + 1 + t : Nat) : Int) by omega)
       rw [hTO.out]
       generalize hTT : j + 1 + t = TT at ht hTO ⊢
       have htt : TT ≤ j + 1 + t ∧ j + 1 + t ≤ TT := by omega
       clear hTT
       have HEE := Lib.hid E
       have P0 := E.p0
       have P1 := E.p1
       have P2 := E.p2
       have EX := E.sz
       obtain ⟨Au0, cu0, eu0⟩ := E.own.shape
       subst eu0
       by_cases hlt : TT < N
       · by_cases h4 : us.length < 4
         · have SO := Lib.hid (zd7 b lo A n c code _ 2 wr E.src (by omega) (by omega))
           clear E
           go_wp2_with fail
           refine SO.out.mono ?_
           rintro e wx2 ⟨r, rfl, s2, m2⟩
           have E2 := HEE.out.step hb1 s2 m2
           cases r
           · have P22 := E2.p2
             by_cases hl1 : TT + 1 < N
             · have l1 : ¬ (TT : Int) = (N : Int) - 1 := by omega
               go_wp2_with fail
               go_roundw
               case rel => exact ⟨t + 1, us, _, by go_num, by omega, hu4, Lib.hid (hus.out.skip (by omega)), E2.more (by omega)⟩
               case measure => simp [intOf]; omega
             · have l1 : (TT : Int) = (N : Int) - 1 := by omega
               by_cases hl2 : us.length = 0
               · obtain rfl : us = [] := List.eq_nil_of_length_eq_zero hl2
                 clear l1 hl2
                 have l1 : (N : Int) - 1 = (TT : Int) := by omega
                 clear hl1
                 simp only [List.length_nil] at E2 P22 P2
                 obtain ⟨U, hU⟩ : ∃ U, U = wx2 := ⟨_, rfl⟩
                 rw [← hU] at E2 ⊢
                 have HE2 := Lib.hid E2
                 have UP2 := E2.p2
                 have UF2 := E2.f2
                 have UX := E2.sz
                 obtain ⟨G, hG⟩ : ∃ G : Nat → Prop, G = fun k => k = b ∨ Iv (W1.heap.size + 1) U.heap.size k := ⟨_, rfl⟩
                 have HG := Lib.hid hG
                 have GX := Lib.hid (show ¬ G W1.heap.size from fun h => by
                  rw [hG] at h
                  rcases h with h | h
                  · omega
                  · have h1 : W1.heap.size + 1 ≤ W1.heap.size := h.1; omega)
                 have g2 := ChgTo.cell (F := G) UP2 (fun h => GX.out h)
                 have bsU := E2.src.lt
                 clear hU hG
                 have SD := Lib.hid (zeo b lo A n c code _ U.drew (E2.src.below (zac (Below.refl U.heap.size _) 1) bsU) (by omega))
                 clear E2
                 go_wp2_with fail
                 (refine zcl G [0, 2, 3] [1] 5 (.one 4 (.one 5 (.one 6 (.one 7 (.first 8 .rest))))) [9] [9] (by kernel_rfl) (by kernel_rfl) ?_; simp only [zaj]; simp only [List.filterMap, List.getElem?_cons_succ, List.getElem?_cons_zero]; (repeat (go_big_quiet_step (fail))); refine wpQuiet_nil ?_; (repeat (go_big_quiet_step (fail))); refine wpQuiet_nil ?_)
                 refine zai rfl ?_
                 go_wp2_with fail
                 refine SD.out.mono ?_
                 rintro e x5 ⟨gz, rfl, hgz, s5, m5⟩
                 have HGZ := Lib.hid hgz
                 clear hgz
                 have m5' : Mid b (b + 1) U x5 := (Mid.of_below (zac (Below.refl U.heap.size _) 1) b (b + 1)).trans m5
                 have E5 := HE2.out.step hb1 s5 m5'
                 have lt5 := m5'.size
                 have C5 : Chg G U x5 := ⟨m5'.os, m5'.tape, m5'.output, m5'.size, fun i hi hn => m5'.block i hi (by
                  rw [HG.out] at hn
                  rcases Nat.lt_or_ge i b with h | h
                  · exact .inl h
                  · exact .inr (by rcases Nat.lt_or_ge b i with h2 | h2; exact h2; exact absurd (.inl (by omega)) hn))⟩
                 have HE5 := Lib.hid E5
                 have q2 := E5.p2
                 have r2 := E5.f2
                 have o5 := E5.own
                 clear E5
                 go_wp2_with fail
                 refine ⟨⟨⟨x5, C5⟩, rfl⟩, zai rfl ?_⟩
                 go_wp2_with fail
                 refine ⟨⟨⟨x5, C5⟩, rfl⟩, zai rfl ?_⟩
                 go_wp2_with fail
                 refine ⟨⟨⟨_, C5.trans (Chg.of_below ((Below.refl _ _).alloc (Nat.le_refl _) _) _)⟩, rfl⟩, zai rfl ?_⟩
                 go_wp2_with (at_builtin; refine zaz zfi #[.int .i64 (TT : Int), .int .i64 gz] rfl _ _ rfl o5 (Fe := fun _ => False) (y := ((TT : Int), gz)) rfl (fun _ _ h => h) rfl rfl (by unfold maxLen; omega) (by omega) ?_; intro v6 w6 own6 ch6; obtain ⟨A6, c6, e6⟩ := own6.shape; rw [List.length_append, List.length_singleton] at e6; subst e6; have q6 : w6.cell? ⟨W1.heap.size, 2, none⟩ = some (.slice Au0 0 cu0) := (by rw [ch6.cell1 (show W1.heap.size < x5.heap.size by omega) (fun h => by have h1 : W1.heap.size + 1 ≤ W1.heap.size := h.1; omega)]; exact q2); have r6 : w6.frozen? ⟨W1.heap.size, 2, none⟩ = false := (by rw [ch6.frozen1 (show W1.heap.size < x5.heap.size by omega) (fun h => by have h1 : W1.heap.size + 1 ≤ W1.heap.size := h.1; omega)]; exact r2))
                 have CH6 : Chg (fun k => G k ∨ Iv (W1.heap.size + 1) x5.heap.size k) U w6 := (C5.wide (fun _ h => .inl h)).trans (ch6.wide (fun _ h => .inr h))
                 have CG6 : Chg G U w6 := ⟨CH6.os, CH6.tape, CH6.output, CH6.size, fun i hi hn => CH6.block i hi (fun h => by
                  rcases h with h | h
                  · exact hn h
                  · exact hn (by rw [HG.out]; exact .inr ⟨h.1, hi⟩))⟩
                 refine ⟨⟨⟨w6, CG6⟩, rfl⟩, ?_⟩
                 (refine zbf rfl ?_; (repeat (go_big_quiet_step (fail))); refine wpQuiet_nil ?_)
                 refine zbg ?_
                 have E6 := HE5.out.push hb1 own6 ch6
                 go_wp2_with fail
                 go_roundw
                 case rel => exact ⟨t + 1, [] ++ [((TT : Int), gz)], _, by go_num, by omega, by first | (simp; done) | (simp; omega), Lib.hid (hus.out.push (by omega) (by omega) HGZ.out), E6.more (by omega)⟩
                 case measure => simp [intOf]; omega
               · have l2 : ¬ (us.length : Int) = 0 := by omega
                 go_wp2_with fail
                 go_roundw
                 case rel => exact ⟨t + 1, us, _, by go_num, by omega, hu4, Lib.hid (hus.out.skip (by omega)), E2.more (by omega)⟩
                 case measure => simp [intOf]; omega
           ·
            obtain ⟨U, hU⟩ : ∃ U, U = wx2 := ⟨_, rfl⟩
            rw [← hU] at E2 ⊢
            have HE2 := Lib.hid E2
            have UP2 := E2.p2
            have UF2 := E2.f2
            have UX := E2.sz
            obtain ⟨G, hG⟩ : ∃ G : Nat → Prop, G = fun k => k = b ∨ Iv (W1.heap.size + 1) U.heap.size k := ⟨_, rfl⟩
            have HG := Lib.hid hG
            have GX := Lib.hid (show ¬ G W1.heap.size from fun h => by
             rw [hG] at h
             rcases h with h | h
             · omega
             · have h1 : W1.heap.size + 1 ≤ W1.heap.size := h.1; omega)
            have g2 := ChgTo.cell (F := G) UP2 (fun h => GX.out h)
            have bsU := E2.src.lt
            clear hU hG
            have SD := Lib.hid (zeo b lo A n c code _ U.drew (E2.src.below (zac (Below.refl U.heap.size _) 1) bsU) (by omega))
            clear E2
            go_wp2_with fail
            (refine zcl G [0, 2, 3] [1] 5 (.one 4 (.one 5 (.one 6 (.one 7 (.first 8 .rest))))) [9] [9] (by kernel_rfl) (by kernel_rfl) ?_; simp only [zaj]; simp only [List.filterMap, List.getElem?_cons_succ, List.getElem?_cons_zero]; (repeat (go_big_quiet_step (fail))); refine wpQuiet_nil ?_; (repeat (go_big_quiet_step (fail))); refine wpQuiet_nil ?_)
            refine zai rfl ?_
            go_wp2_with fail
            refine SD.out.mono ?_
            rintro e x5 ⟨gz, rfl, hgz, s5, m5⟩
            have HGZ := Lib.hid hgz
            clear hgz
            have m5' : Mid b (b + 1) U x5 := (Mid.of_below (zac (Below.refl U.heap.size _) 1) b (b + 1)).trans m5
            have E5 := HE2.out.step hb1 s5 m5'
            have lt5 := m5'.size
            have C5 : Chg G U x5 := ⟨m5'.os, m5'.tape, m5'.output, m5'.size, fun i hi hn => m5'.block i hi (by
             rw [HG.out] at hn
             rcases Nat.lt_or_ge i b with h | h
             · exact .inl h
             · exact .inr (by rcases Nat.lt_or_ge b i with h2 | h2; exact h2; exact absurd (.inl (by omega)) hn))⟩
            have HE5 := Lib.hid E5
            have q2 := E5.p2
            have r2 := E5.f2
            have o5 := E5.own
            clear E5
            go_wp2_with fail
            refine ⟨⟨⟨x5, C5⟩, rfl⟩, zai rfl ?_⟩
            go_wp2_with fail
            refine ⟨⟨⟨x5, C5⟩, rfl⟩, zai rfl ?_⟩
            go_wp2_with fail
            refine ⟨⟨⟨_, C5.trans (Chg.of_below ((Below.refl _ _).alloc (Nat.le_refl _) _) _)⟩, rfl⟩, zai rfl ?_⟩
            go_wp2_with (at_builtin; refine zaz zfi #[.int .i64 (TT : Int), .int .i64 gz] rfl _ _ rfl o5 (Fe := fun _ => False) (y := ((TT : Int), gz)) rfl (fun _ _ h => h) rfl rfl (by unfold maxLen; omega) (by omega) ?_; intro v6 w6 own6 ch6; obtain ⟨A6, c6, e6⟩ := own6.shape; rw [List.length_append, List.length_singleton] at e6; subst e6; have q6 : w6.cell? ⟨W1.heap.size, 2, none⟩ = some (.slice Au0 us.length cu0) := (by rw [ch6.cell1 (show W1.heap.size < x5.heap.size by omega) (fun h => by have h1 : W1.heap.size + 1 ≤ W1.heap.size := h.1; omega)]; exact q2); have r6 : w6.frozen? ⟨W1.heap.size, 2, none⟩ = false := (by rw [ch6.frozen1 (show W1.heap.size < x5.heap.size by omega) (fun h => by have h1 : W1.heap.size + 1 ≤ W1.heap.size := h.1; omega)]; exact r2))
            have CH6 : Chg (fun k => G k ∨ Iv (W1.heap.size + 1) x5.heap.size k) U w6 := (C5.wide (fun _ h => .inl h)).trans (ch6.wide (fun _ h => .inr h))
            have CG6 : Chg G U w6 := ⟨CH6.os, CH6.tape, CH6.output, CH6.size, fun i hi hn => CH6.block i hi (fun h => by
             rcases h with h | h
             · exact hn h
             · exact hn (by rw [HG.out]; exact .inr ⟨h.1, hi⟩))⟩
            refine ⟨⟨⟨w6, CG6⟩, rfl⟩, ?_⟩
            (refine zbf rfl ?_; (repeat (go_big_quiet_step (fail))); refine wpQuiet_nil ?_)
            refine zbg ?_
            have E6 := HE5.out.push hb1 own6 ch6
            go_wp2_with fail
            go_roundw
            case rel => exact ⟨t + 1, us ++ [((TT : Int), gz)], _, by go_num, by omega, by first | (simp; done) | (simp; omega), Lib.hid (hus.out.push (by omega) (by omega) HGZ.out), E6.more (by omega)⟩
            case measure => simp [intOf]; omega
         · clear E
           have D2 := HD.out.step hbw HEE.out.src HEE.out.mid
           have V12 := D2.c1
           have VF2 := D2.f1
           have oM := HD.out.own.mid HEE.out.mid (.inr (by omega)) (Nat.le_refl _)
           have sO : tSt.O wr (Iv (W1.heap.size + 1) wr.heap.size) [.string s, .int .i64 lt, .slice Au0 us.length cu0] (s, lt, us) := st_O.2 ⟨Au0, us.length, cu0, rfl, by unfold maxLen; omega, sl_O.2 HEE.out.own⟩
           have lW := HEE.out.mid.size
           clear hTO
           have HD2 := Lib.hid D2
           clear D2
           go_wp2_with (at_builtin; refine zaz ze3 #[.string s, .int .i64 lt, .slice Au0 us.length cu0] rfl _ _ rfl oM sO (fun z h1 h2 => by have a1 : z < W1.heap.size := h1.2; have a2 : W1.heap.size + 1 ≤ z := h2.1; omega) rfl rfl (by have := hml.out; unfold maxLen; omega) (by have := hml.out; omega) ?_; intro v6 w6 own6 ch6; obtain ⟨A6, c6, e6⟩ := own6.shape; rw [List.length_append, List.length_singleton] at e6; subst e6; have q6 : w6.cell? ⟨w.heap.size + 1, 0, none⟩ = some (.slice Av ms.length cv) := (by rw [ch6.cell1 (show w.heap.size + 1 < wr.heap.size by omega) (fun h => by have h1 : NB + 1 ≤ w.heap.size + 1 := h.1; omega)]; exact V12); have r6 : w6.frozen? ⟨w.heap.size + 1, 0, none⟩ = false := (by rw [ch6.frozen1 (show w.heap.size + 1 < wr.heap.size by omega) (fun h => by have h1 : NB + 1 ≤ w.heap.size + 1 := h.1; omega)]; exact VF2))
           have D6 := HD2.out.push hbw (X := W1.heap.size + 1) (own6.wide (fun z h => by
            rcases h with h | h | h
            · exact .inl ⟨h.1, Nat.lt_of_lt_of_le h.2 lW⟩
            · exact .inr (.inl h)
            · exact .inr (.inr h))) (by omega) (ch6.wide (fun z h => ⟨h.1, Nat.lt_of_lt_of_le h.2 lW⟩)) ⟨hs6, hu4⟩
           go_roundw
           case rel => exact ⟨j + 1, ms ++ [(s, lt, us)], _, by go_num, by omega, Lib.hid (by have := hml.out; simp; omega), Lib.hid (hdr.out.push hml.out (by omega) HS6.out HLT.out hus.out hu4 (by omega)), D6.more (by omega)⟩
           case measure => simp [intOf]; omega
       · clear E
         have D2 := HD.out.step hbw HEE.out.src HEE.out.mid
         have V12 := D2.c1
         have VF2 := D2.f1
         have oM := HD.out.own.mid HEE.out.mid (.inr (by omega)) (Nat.le_refl _)
         have sO : tSt.O wr (Iv (W1.heap.size + 1) wr.heap.size) [.string s, .int .i64 lt, .slice Au0 us.length cu0] (s, lt, us) := st_O.2 ⟨Au0, us.length, cu0, rfl, by unfold maxLen; omega, sl_O.2 HEE.out.own⟩
         have lW := HEE.out.mid.size
         clear hTO
         have HD2 := Lib.hid D2
         clear D2
         go_wp2_with (at_builtin; refine zaz ze3 #[.string s, .int .i64 lt, .slice Au0 us.length cu0] rfl _ _ rfl oM sO (fun z h1 h2 => by have a1 : z < W1.heap.size := h1.2; have a2 : W1.heap.size + 1 ≤ z := h2.1; omega) rfl rfl (by have := hml.out; unfold maxLen; omega) (by have := hml.out; omega) ?_; intro v6 w6 own6 ch6; obtain ⟨A6, c6, e6⟩ := own6.shape; rw [List.length_append, List.length_singleton] at e6; subst e6; have q6 : w6.cell? ⟨w.heap.size + 1, 0, none⟩ = some (.slice Av ms.length cv) := (by rw [ch6.cell1 (show w.heap.size + 1 < wr.heap.size by omega) (fun h => by have h1 : NB + 1 ≤ w.heap.size + 1 := h.1; omega)]; exact V12); have r6 : w6.frozen? ⟨w.heap.size + 1, 0, none⟩ = false := (by rw [ch6.frozen1 (show w.heap.size + 1 < wr.heap.size by omega) (fun h => by have h1 : NB + 1 ≤ w.heap.size + 1 := h.1; omega)]; exact VF2))
         have D6 := HD2.out.push hbw (X := W1.heap.size + 1) (own6.wide (fun z h => by
          rcases h with h | h | h
          · exact .inl ⟨h.1, Nat.lt_of_lt_of_le h.2 lW⟩
          · exact .inr (.inl h)
          · exact .inr (.inr h))) (by omega) (ch6.wide (fun z h => ⟨h.1, Nat.lt_of_lt_of_le h.2 lW⟩)) ⟨hs6, hu4⟩
         go_roundw
         case rel => exact ⟨j + 1, ms ++ [(s, lt, us)], _, by go_num, by omega, Lib.hid (by have := hml.out; simp; omega), Lib.hid (hdr.out.push hml.out (by omega) HS6.out HLT.out hus.out hu4 (by omega)), D6.more (by omega)⟩
         case measure => simp [intOf]; omega
    · go_wp2_with fail
      refine (zq6 b lo A n c code _ y2 E0.src (by omega)).mono ?_
      rintro e y3 ⟨lt, rfl, hlt32, s3, m3⟩
      have HLT := Lib.hid hlt32
      clear hlt32
      have E1 := E0.step hb1 s3 m3
      have P13 := E1.p1
      have PF3 := E1.f1
      have E2 := E1.lat hb1 lt
      clear E0 E1 s2 m2 s3 m3
      have E0 := E2
      clear E2
      go_wp2_with fail
      obtain ⟨wS, hS⟩ : ∃ u, u = y3.setCell ⟨W1.heap.size, 1, none⟩ (.int .i64 lt) := ⟨_, rfl⟩
      rw [← hS] at E0 ⊢
      clear hS
      go_loopw [8] (fun i wx => ∃ (t : Nat) (us : List (Int × Int)) (vu : Value), i = .int .i64 ((j : Int) + 1 + t) ∧ j + 1 + t ≤ N ∧ us.length ≤ 4 ∧ Hid (M.usOk N j t us) ∧ DX W1 b lo A n c code (K + 2 + 40 * j + 4 + 8 * t) s lt us vu wx) (fun i _ => N - (intOf i).toNat)
      case atStart => exact ⟨0, [], _, by simp, by omega, by simp, Lib.hid (M.usOk.zero (by omega)), E0.more (by omega)⟩
      case round =>
       clear E0
       obtain ⟨t, us, vu, rfl, ht, hu4, hus, E⟩ := hrel
       have hTO := Lib.hid (show (j : Int) + 1 + (t : Int) = ((j + 1 + t : Nat) : Int) by omega)
       rw [hTO.out]
       generalize hTT : j + 1 + t = TT at ht hTO ⊢
       have htt : TT ≤ j + 1 + t ∧ j + 1 + t ≤ TT := by omega
       clear hTT
       have HEE := Lib.hid E
       have P0 := E.p0
       have P1 := E.p1
       have P2 := E.p2
       have EX := E.sz
       obtain ⟨Au0, cu0, eu0⟩ := E.own.shape
       subst eu0
       by_cases hlt : TT < N
       · by_cases h4 : us.length < 4
         · have SO := Lib.hid (zd7 b lo A n c code _ 2 wr E.src (by omega) (by omega))
           clear E
           go_wp2_with fail
           refine SO.out.mono ?_
           rintro e wx2 ⟨r, rfl, s2, m2⟩
           have E2 := HEE.out.step hb1 s2 m2
           cases r
           · have P22 := E2.p2
             by_cases hl1 : TT + 1 < N
             · have l1 : ¬ (TT : Int) = (N : Int) - 1 := by omega
               go_wp2_with fail
               go_roundw
               case rel => exact ⟨t + 1, us, _, by go_num, by omega, hu4, Lib.hid (hus.out.skip (by omega)), E2.more (by omega)⟩
               case measure => simp [intOf]; omega
             · have l1 : (TT : Int) = (N : Int) - 1 := by omega
               by_cases hl2 : us.length = 0
               · obtain rfl : us = [] := List.eq_nil_of_length_eq_zero hl2
                 clear l1 hl2
                 have l1 : (N : Int) - 1 = (TT : Int) := by omega
                 clear hl1
                 simp only [List.length_nil] at E2 P22 P2
                 obtain ⟨U, hU⟩ : ∃ U, U = wx2 := ⟨_, rfl⟩
                 rw [← hU] at E2 ⊢
                 have HE2 := Lib.hid E2
                 have UP2 := E2.p2
                 have UF2 := E2.f2
                 have UX := E2.sz
                 obtain ⟨G, hG⟩ : ∃ G : Nat → Prop, G = fun k => k = b ∨ Iv (W1.heap.size + 1) U.heap.size k := ⟨_, rfl⟩
                 have HG := Lib.hid hG
                 have GX := Lib.hid (show ¬ G W1.heap.size from fun h => by
                  rw [hG] at h
                  rcases h with h | h
                  · omega
                  · have h1 : W1.heap.size + 1 ≤ W1.heap.size := h.1; omega)
                 have g2 := ChgTo.cell (F := G) UP2 (fun h => GX.out h)
                 have bsU := E2.src.lt
                 clear hU hG
                 have SD := Lib.hid (zeo b lo A n c code _ U.drew (E2.src.below (zac (Below.refl U.heap.size _) 1) bsU) (by omega))
                 clear E2
                 go_wp2_with fail
                 (refine zcl G [0, 2, 3] [1] 5 (.one 4 (.one 5 (.one 6 (.one 7 (.first 8 .rest))))) [9] [9] (by kernel_rfl) (by kernel_rfl) ?_; simp only [zaj]; simp only [List.filterMap, List.getElem?_cons_succ, List.getElem?_cons_zero]; (repeat (go_big_quiet_step (fail))); refine wpQuiet_nil ?_; (repeat (go_big_quiet_step (fail))); refine wpQuiet_nil ?_)
                 refine zai rfl ?_
                 go_wp2_with fail
                 refine SD.out.mono ?_
                 rintro e x5 ⟨gz, rfl, hgz, s5, m5⟩
                 have HGZ := Lib.hid hgz
                 clear hgz
                 have m5' : Mid b (b + 1) U x5 := (Mid.of_below (zac (Below.refl U.heap.size _) 1) b (b + 1)).trans m5
                 have E5 := HE2.out.step hb1 s5 m5'
                 have lt5 := m5'.size
                 have C5 : Chg G U x5 := ⟨m5'.os, m5'.tape, m5'.output, m5'.size, fun i hi hn => m5'.block i hi (by
                  rw [HG.out] at hn
                  rcases Nat.lt_or_ge i b with h | h
                  · exact .inl h
                  · exact .inr (by rcases Nat.lt_or_ge b i with h2 | h2; exact h2; exact absurd (.inl (by omega)) hn))⟩
                 have HE5 := Lib.hid E5
                 have q2 := E5.p2
                 have r2 := E5.f2
                 have o5 := E5.own
                 clear E5
                 go_wp2_with fail
                 refine ⟨⟨⟨x5, C5⟩, rfl⟩, zai rfl ?_⟩
                 go_wp2_with fail
                 refine ⟨⟨⟨x5, C5⟩, rfl⟩, zai rfl ?_⟩
                 go_wp2_with fail
                 refine ⟨⟨⟨_, C5.trans (Chg.of_below ((Below.refl _ _).alloc (Nat.le_refl _) _) _)⟩, rfl⟩, zai rfl ?_⟩
                 go_wp2_with (at_builtin; refine zaz zfi #[.int .i64 (TT : Int), .int .i64 gz] rfl _ _ rfl o5 (Fe := fun _ => False) (y := ((TT : Int), gz)) rfl (fun _ _ h => h) rfl rfl (by unfold maxLen; omega) (by omega) ?_; intro v6 w6 own6 ch6; obtain ⟨A6, c6, e6⟩ := own6.shape; rw [List.length_append, List.length_singleton] at e6; subst e6; have q6 : w6.cell? ⟨W1.heap.size, 2, none⟩ = some (.slice Au0 0 cu0) := (by rw [ch6.cell1 (show W1.heap.size < x5.heap.size by omega) (fun h => by have h1 : W1.heap.size + 1 ≤ W1.heap.size := h.1; omega)]; exact q2); have r6 : w6.frozen? ⟨W1.heap.size, 2, none⟩ = false := (by rw [ch6.frozen1 (show W1.heap.size < x5.heap.size by omega) (fun h => by have h1 : W1.heap.size + 1 ≤ W1.heap.size := h.1; omega)]; exact r2))
                 have CH6 : Chg (fun k => G k ∨ Iv (W1.heap.size + 1) x5.heap.size k) U w6 := (C5.wide (fun _ h => .inl h)).trans (ch6.wide (fun _ h => .inr h))
                 have CG6 : Chg G U w6 := ⟨CH6.os, CH6.tape, CH6.output, CH6.size, fun i hi hn => CH6.block i hi (fun h => by
                  rcases h with h | h
                  · exact hn h
                  · exact hn (by rw [HG.out]; exact .inr ⟨h.1, hi⟩))⟩
                 refine ⟨⟨⟨w6, CG6⟩, rfl⟩, ?_⟩
                 (refine zbf rfl ?_; (repeat (go_big_quiet_step (fail))); refine wpQuiet_nil ?_)
                 refine zbg ?_
                 have E6 := HE5.out.push hb1 own6 ch6
                 go_wp2_with fail
                 go_roundw
                 case rel => exact ⟨t + 1, [] ++ [((TT : Int), gz)], _, by go_num, by omega, by first | (simp; done) | (simp; omega), Lib.hid (hus.out.push (by omega) (by omega) HGZ.out), E6.more (by omega)⟩
                 case measure => simp [intOf]; omega
               · have l2 : ¬ (us.length : Int) = 0 := by omega
                 go_wp2_with fail
                 go_roundw
                 case rel => exact ⟨t + 1, us, _, by go_num, by omega, hu4, Lib.hid (hus.out.skip (by omega)), E2.more (by omega)⟩
                 case measure => simp [intOf]; omega
           ·
            obtain ⟨U, hU⟩ : ∃ U, U = wx2 := ⟨_, rfl⟩
            rw [← hU] at E2 ⊢
            have HE2 := Lib.hid E2
            have UP2 := E2.p2
            have UF2 := E2.f2
            have UX := E2.sz
            obtain ⟨G, hG⟩ : ∃ G : Nat → Prop, G = fun k => k = b ∨ Iv (W1.heap.size + 1) U.heap.size k := ⟨_, rfl⟩
            have HG := Lib.hid hG
            have GX := Lib.hid (show ¬ G W1.heap.size from fun h => by
             rw [hG] at h
             rcases h with h | h
             · omega
             · have h1 : W1.heap.size + 1 ≤ W1.heap.size := h.1; omega)
            have g2 := ChgTo.cell (F := G) UP2 (fun h => GX.out h)
            have bsU := E2.src.lt
            clear hU hG
            have SD := Lib.hid (zeo b lo A n c code _ U.drew (E2.src.below (zac (Below.refl U.heap.size _) 1) bsU) (by omega))
            clear E2
            go_wp2_with fail
            (refine zcl G [0, 2, 3] [1] 5 (.one 4 (.one 5 (.one 6 (.one 7 (.first 8 .rest))))) [9] [9] (by kernel_rfl) (by kernel_rfl) ?_; simp only [zaj]; simp only [List.filterMap, List.getElem?_cons_succ, List.getElem?_cons_zero]; (repeat (go_big_quiet_step (fail))); refine wpQuiet_nil ?_; (repeat (go_big_quiet_step (fail))); refine wpQuiet_nil ?_)
            refine zai rfl ?_
            go_wp2_with fail
            refine SD.out.mono ?_
            rintro e x5 ⟨gz, rfl, hgz, s5, m5⟩
            have HGZ := Lib.hid hgz
            clear hgz
            have m5' : Mid b (b + 1) U x5 := (Mid.of_below (zac (Below.refl U.heap.size _) 1) b (b + 1)).trans m5
            have E5 := HE2.out.step hb1 s5 m5'
            have lt5 := m5'.size
            have C5 : Chg G U x5 := ⟨m5'.os, m5'.tape, m5'.output, m5'.size, fun i hi hn => m5'.block i hi (by
             rw [HG.out] at hn
             rcases Nat.lt_or_ge i b with h | h
             · exact .inl h
             · exact .inr (by rcases Nat.lt_or_ge b i with h2 | h2; exact h2; exact absurd (.inl (by omega)) hn))⟩
            have HE5 := Lib.hid E5
            have q2 := E5.p2
            have r2 := E5.f2
            have o5 := E5.own
            clear E5
            go_wp2_with fail
            refine ⟨⟨⟨x5, C5⟩, rfl⟩, zai rfl ?_⟩
            go_wp2_with fail
            refine ⟨⟨⟨x5, C5⟩, rfl⟩, zai rfl ?_⟩
            go_wp2_with fail
            refine ⟨⟨⟨_, C5.trans (Chg.of_below ((Below.refl _ _).alloc (Nat.le_refl _) _) _)⟩, rfl⟩, zai rfl ?_⟩
            go_wp2_with (at_builtin; refine zaz zfi #[.int .i64 (TT : Int), .int .i64 gz] rfl _ _ rfl o5 (Fe := fun _ => False) (y := ((TT : Int), gz)) rfl (fun _ _ h => h) rfl rfl (by unfold maxLen; omega) (by omega) ?_; intro v6 w6 own6 ch6; obtain ⟨A6, c6, e6⟩ := own6.shape; rw [List.length_append, List.length_singleton] at e6; subst e6; have q6 : w6.cell? ⟨W1.heap.size, 2, none⟩ = some (.slice Au0 us.length cu0) := (by rw [ch6.cell1 (show W1.heap.size < x5.heap.size by omega) (fun h => by have h1 : W1.heap.size + 1 ≤ W1.heap.size := h.1; omega)]; exact q2); have r6 : w6.frozen? ⟨W1.heap.size, 2, none⟩ = false := (by rw [ch6.frozen1 (show W1.heap.size < x5.heap.size by omega) (fun h => by have h1 : W1.heap.size + 1 ≤ W1.heap.size := h.1; omega)]; exact r2))
            have CH6 : Chg (fun k => G k ∨ Iv (W1.heap.size + 1) x5.heap.size k) U w6 := (C5.wide (fun _ h => .inl h)).trans (ch6.wide (fun _ h => .inr h))
            have CG6 : Chg G U w6 := ⟨CH6.os, CH6.tape, CH6.output, CH6.size, fun i hi hn => CH6.block i hi (fun h => by
             rcases h with h | h
             · exact hn h
             · exact hn (by rw [HG.out]; exact .inr ⟨h.1, hi⟩))⟩
            refine ⟨⟨⟨w6, CG6⟩, rfl⟩, ?_⟩
            (refine zbf rfl ?_; (repeat (go_big_quiet_step (fail))); refine wpQuiet_nil ?_)
            refine zbg ?_
            have E6 := HE5.out.push hb1 own6 ch6
            go_wp2_with fail
            go_roundw
            case rel => exact ⟨t + 1, us ++ [((TT : Int), gz)], _, by go_num, by omega, by first | (simp; done) | (simp; omega), Lib.hid (hus.out.push (by omega) (by omega) HGZ.out), E6.more (by omega)⟩
            case measure => simp [intOf]; omega
         · clear E
           have D2 := HD.out.step hbw HEE.out.src HEE.out.mid
           have V12 := D2.c1
           have VF2 := D2.f1
           have oM := HD.out.own.mid HEE.out.mid (.inr (by omega)) (Nat.le_refl _)
           have sO : tSt.O wr (Iv (W1.heap.size + 1) wr.heap.size) [.string s, .int .i64 lt, .slice Au0 us.length cu0] (s, lt, us) := st_O.2 ⟨Au0, us.length, cu0, rfl, by unfold maxLen; omega, sl_O.2 HEE.out.own⟩
           have lW := HEE.out.mid.size
           clear hTO
           have HD2 := Lib.hid D2
           clear D2
           go_wp2_with (at_builtin; refine zaz ze3 #[.string s, .int .i64 lt, .slice Au0 us.length cu0] rfl _ _ rfl oM sO (fun z h1 h2 => by have a1 : z < W1.heap.size := h1.2; have a2 : W1.heap.size + 1 ≤ z := h2.1; omega) rfl rfl (by have := hml.out; unfold maxLen; omega) (by have := hml.out; omega) ?_; intro v6 w6 own6 ch6; obtain ⟨A6, c6, e6⟩ := own6.shape; rw [List.length_append, List.length_singleton] at e6; subst e6; have q6 : w6.cell? ⟨w.heap.size + 1, 0, none⟩ = some (.slice Av ms.length cv) := (by rw [ch6.cell1 (show w.heap.size + 1 < wr.heap.size by omega) (fun h => by have h1 : NB + 1 ≤ w.heap.size + 1 := h.1; omega)]; exact V12); have r6 : w6.frozen? ⟨w.heap.size + 1, 0, none⟩ = false := (by rw [ch6.frozen1 (show w.heap.size + 1 < wr.heap.size by omega) (fun h => by have h1 : NB + 1 ≤ w.heap.size + 1 := h.1; omega)]; exact VF2))
           have D6 := HD2.out.push hbw (X := W1.heap.size + 1) (own6.wide (fun z h => by
            rcases h with h | h | h
            · exact .inl ⟨h.1, Nat.lt_of_lt_of_le h.2 lW⟩
            · exact .inr (.inl h)
            · exact .inr (.inr h))) (by omega) (ch6.wide (fun z h => ⟨h.1, Nat.lt_of_lt_of_le h.2 lW⟩)) ⟨hs6, hu4⟩
           go_roundw
           case rel => exact ⟨j + 1, ms ++ [(s, lt, us)], _, by go_num, by omega, Lib.hid (by have := hml.out; simp; omega), Lib.hid (hdr.out.push hml.out (by omega) HS6.out HLT.out hus.out hu4 (by omega)), D6.more (by omega)⟩
           case measure => simp [intOf]; omega
       · clear E
         have D2 := HD.out.step hbw HEE.out.src HEE.out.mid
         have V12 := D2.c1
         have VF2 := D2.f1
         have oM := HD.out.own.mid HEE.out.mid (.inr (by omega)) (Nat.le_refl _)
         have sO : tSt.O wr (Iv (W1.heap.size + 1) wr.heap.size) [.string s, .int .i64 lt, .slice Au0 us.length cu0] (s, lt, us) := st_O.2 ⟨Au0, us.length, cu0, rfl, by unfold maxLen; omega, sl_O.2 HEE.out.own⟩
         have lW := HEE.out.mid.size
         clear hTO
         have HD2 := Lib.hid D2
         clear D2
         go_wp2_with (at_builtin; refine zaz ze3 #[.string s, .int .i64 lt, .slice Au0 us.length cu0] rfl _ _ rfl oM sO (fun z h1 h2 => by have a1 : z < W1.heap.size := h1.2; have a2 : W1.heap.size + 1 ≤ z := h2.1; omega) rfl rfl (by have := hml.out; unfold maxLen; omega) (by have := hml.out; omega) ?_; intro v6 w6 own6 ch6; obtain ⟨A6, c6, e6⟩ := own6.shape; rw [List.length_append, List.length_singleton] at e6; subst e6; have q6 : w6.cell? ⟨w.heap.size + 1, 0, none⟩ = some (.slice Av ms.length cv) := (by rw [ch6.cell1 (show w.heap.size + 1 < wr.heap.size by omega) (fun h => by have h1 : NB + 1 ≤ w.heap.size + 1 := h.1; omega)]; exact V12); have r6 : w6.frozen? ⟨w.heap.size + 1, 0, none⟩ = false := (by rw [ch6.frozen1 (show w.heap.size + 1 < wr.heap.size by omega) (fun h => by have h1 : NB + 1 ≤ w.heap.size + 1 := h.1; omega)]; exact VF2))
         have D6 := HD2.out.push hbw (X := W1.heap.size + 1) (own6.wide (fun z h => by
          rcases h with h | h | h
          · exact .inl ⟨h.1, Nat.lt_of_lt_of_le h.2 lW⟩
          · exact .inr (.inl h)
          · exact .inr (.inr h))) (by omega) (ch6.wide (fun z h => ⟨h.1, Nat.lt_of_lt_of_le h.2 lW⟩)) ⟨hs6, hu4⟩
         go_roundw
         case rel => exact ⟨j + 1, ms ++ [(s, lt, us)], _, by go_num, by omega, Lib.hid (by have := hml.out; simp; omega), Lib.hid (hdr.out.push hml.out (by omega) HS6.out HLT.out hus.out hu4 (by omega)), D6.more (by omega)⟩
         case measure => simp [intOf]; omega
  ·
   obtain ⟨W1, hW1⟩ : ∃ u, u = wr := ⟨_, rfl⟩
   have hb1 : b < W1.heap.size := by rw [hW1]; omega
   have E0 := DX.start ⟨#[109, 97, 115, 116, 101, 114]⟩ D.src
   rw [← hW1] at HD E0 V0 V1 VF VF0 VZ ⊢
   clear hW1 D
   obtain ⟨Y1, hY1⟩ : ∃ u, u = W1.alloc (.cells #[.string ⟨#[109, 97, 115, 116, 101, 114]⟩, .int .i64 0, .slice none 0 0] 100) := ⟨_, rfl⟩
   rw [← hY1] at E0
   have HY1 := Lib.hid hY1
   have SO := Lib.hid (zd7 b lo A n c code _ 3 Y1 E0.src (by omega) (by omega))
   have HE0 := Lib.hid E0
   clear hY1 E0
   go_wp2_with fail
   rw [← HY1.out]
   refine SO.out.mono ?_
   rintro e y2 ⟨r, rfl, s2, m2⟩
   have E0 := HE0.out.step hb1 s2 m2
   cases r
   · obtain ⟨lt, hlt0⟩ : ∃ z : Int, z = 0 := ⟨_, rfl⟩
     obtain ⟨wS, hS⟩ : ∃ u, u = y2 := ⟨_, rfl⟩
     rw [← hS] at E0 ⊢
     rw [← hlt0] at E0
     have HLT := Lib.hid (show 0 ≤ lt ∧ lt ≤ 32 by omega)
     clear hlt0 hS s2 m2
     have D2 := HD.out.step hbw E0.src E0.mid
     have V12 := D2.c1
     have VF2 := D2.f1
     have V02 := D2.c0
     have VF02 := D2.f0
     have oM := HD.out.own.mid E0.mid (.inr (by omega)) (Nat.le_refl _)
     have sO : tSt.O wS (Iv (W1.heap.size + 1) wS.heap.size) [.string ⟨#[109, 97, 115, 116, 101, 114]⟩, .int .i64 lt, .slice none 0 0] (⟨#[109, 97, 115, 116, 101, 114]⟩, lt, []) := st_O.2 ⟨none, 0, 0, rfl, by decide, sl_O.2 E0.own⟩
     have lW := E0.mid.size
     have P0 := E0.p0
     have P1 := E0.p1
     have P2 := E0.p2
     have lX := E0.sz
     have HD2 := Lib.hid D2
     clear D2 E0
     go_wp2_with (at_builtin; refine zaz ze3 #[.string ⟨#[109, 97, 115, 116, 101, 114]⟩, .int .i64 lt, .slice none 0 0] rfl _ _ rfl oM sO (fun z h1 h2 => by have a1 : z < W1.heap.size := h1.2; have a2 : W1.heap.size + 1 ≤ z := h2.1; omega) rfl rfl (by have := hml.out; unfold maxLen; omega) (by have := hml.out; omega) ?_; intro v6 w6 own6 ch6; obtain ⟨A6, c6, e6⟩ := own6.shape; rw [List.length_append, List.length_singleton] at e6; subst e6; have q6 : w6.cell? ⟨w.heap.size + 1, 0, none⟩ = some (.slice Av ms.length cv) := (by rw [ch6.cell1 (show w.heap.size + 1 < wS.heap.size by omega) (fun h => by have h1 : NB + 1 ≤ w.heap.size + 1 := h.1; omega)]; exact V12); have r6 : w6.frozen? ⟨w.heap.size + 1, 0, none⟩ = false := (by rw [ch6.frozen1 (show w.heap.size + 1 < wS.heap.size by omega) (fun h => by have h1 : NB + 1 ≤ w.heap.size + 1 := h.1; omega)]; exact VF2); have q60 : w6.cell? ⟨w.heap.size, 0, none⟩ = some (.slice none 0 0) := (by rw [ch6.cell1 (show w.heap.size < wS.heap.size by omega) (fun h => by have h1 : NB + 1 ≤ w.heap.size := h.1; omega)]; exact V02); have r60 : w6.frozen? ⟨w.heap.size, 0, none⟩ = false := (by rw [ch6.frozen1 (show w.heap.size < wS.heap.size by omega) (fun h => by have h1 : NB + 1 ≤ w.heap.size := h.1; omega)]; exact VF02))
     have D6 := HD2.out.push hbw (X := W1.heap.size + 1) (own6.wide (fun z h => by
      rcases h with h | h | h
      · exact .inl ⟨h.1, Nat.lt_of_lt_of_le h.2 lW⟩
      · exact .inr (.inl h)
      · exact .inr (.inr h))) (by omega) (ch6.wide (fun z h => ⟨h.1, Nat.lt_of_lt_of_le h.2 lW⟩)) ⟨by show (⟨#[109, 97, 115, 116, 101, 114]⟩ : ByteArray).size ≤ 6; decide, by simp⟩
     refine bodyPost_ret (v := .agg #[.slice A6 (ms.length + 1) c6]) (by simp [results, Tryz.results43, go_sem, q60, r60]) rfl ?_
     have hm : Mid w.heap.size (w.heap.size + 1) (w6.setCell ⟨w.heap.size + 1, 0, none⟩ (.slice A6 (ms.length + 1) c6)) ((w6.setCell ⟨w.heap.size + 1, 0, none⟩ (.slice A6 (ms.length + 1) c6)).setCell ⟨w.heap.size, 0, none⟩ (.slice A6 (ms.length + 1) c6)) := Mid.cell _ w.heap.size 0 _
     have eL : (ms ++ [((⟨#[109, 97, 115, 116, 101, 114]⟩ : ByteArray), lt, ([] : List (Int × Int)))]).length = ms.length + 1 := by simp
     have HL := hml.out
     refine ⟨A6, c6, ms ++ [(⟨#[109, 97, 115, 116, 101, 114]⟩, lt, [])], by rw [eL], ?_, by omega, by omega, D6.tiny, Lib.hid (hdr.out.mix (by omega) (by omega) HLT.out), (D6.src.mid hm hbw).more (by omega), D6.mid.thenB' ((Below.refl w.heap.size _).setCell (Nat.le_refl _) _) (Nat.le_refl _)⟩
     rw [eL]
     exact (D6.own.mid hm (.inr (by omega)) (Nat.le_refl _)).iv (by omega) hm.size
   · go_wp2_with fail
     refine (za4 b lo A n c code _ 4 y2 E0.src (by omega) (by omega)).mono ?_
     rintro e y3 ⟨lt, rfl, hlt4, s3, m3⟩
     have HLT := Lib.hid (show 0 ≤ lt ∧ lt ≤ 32 by omega)
     clear hlt4
     have E1 := E0.step hb1 s3 m3
     have P13 := E1.p1
     have PF3 := E1.f1
     have E2 := E1.lat hb1 lt
     obtain ⟨wS, hS⟩ : ∃ u, u = y3.setCell ⟨W1.heap.size, 1, none⟩ (.int .i64 lt) := ⟨_, rfl⟩
     rw [← hS] at E2
     have HS := Lib.hid hS
     clear hS E0 E1 s2 m2 s3 m3
     have E0 := E2
     clear E2
     go_upto_region 19 with fail
     rw [← HS.out]
     have D2 := HD.out.step hbw E0.src E0.mid
     have V12 := D2.c1
     have VF2 := D2.f1
     have V02 := D2.c0
     have VF02 := D2.f0
     have oM := HD.out.own.mid E0.mid (.inr (by omega)) (Nat.le_refl _)
     have sO : tSt.O wS (Iv (W1.heap.size + 1) wS.heap.size) [.string ⟨#[109, 97, 115, 116, 101, 114]⟩, .int .i64 lt, .slice none 0 0] (⟨#[109, 97, 115, 116, 101, 114]⟩, lt, []) := st_O.2 ⟨none, 0, 0, rfl, by decide, sl_O.2 E0.own⟩
     have lW := E0.mid.size
     have P0 := E0.p0
     have P1 := E0.p1
     have P2 := E0.p2
     have lX := E0.sz
     have HD2 := Lib.hid D2
     clear D2 E0
     go_wp2_with (at_builtin; refine zaz ze3 #[.string ⟨#[109, 97, 115, 116, 101, 114]⟩, .int .i64 lt, .slice none 0 0] rfl _ _ rfl oM sO (fun z h1 h2 => by have a1 : z < W1.heap.size := h1.2; have a2 : W1.heap.size + 1 ≤ z := h2.1; omega) rfl rfl (by have := hml.out; unfold maxLen; omega) (by have := hml.out; omega) ?_; intro v6 w6 own6 ch6; obtain ⟨A6, c6, e6⟩ := own6.shape; rw [List.length_append, List.length_singleton] at e6; subst e6; have q6 : w6.cell? ⟨w.heap.size + 1, 0, none⟩ = some (.slice Av ms.length cv) := (by rw [ch6.cell1 (show w.heap.size + 1 < wS.heap.size by omega) (fun h => by have h1 : NB + 1 ≤ w.heap.size + 1 := h.1; omega)]; exact V12); have r6 : w6.frozen? ⟨w.heap.size + 1, 0, none⟩ = false := (by rw [ch6.frozen1 (show w.heap.size + 1 < wS.heap.size by omega) (fun h => by have h1 : NB + 1 ≤ w.heap.size + 1 := h.1; omega)]; exact VF2); have q60 : w6.cell? ⟨w.heap.size, 0, none⟩ = some (.slice none 0 0) := (by rw [ch6.cell1 (show w.heap.size < wS.heap.size by omega) (fun h => by have h1 : NB + 1 ≤ w.heap.size := h.1; omega)]; exact V02); have r60 : w6.frozen? ⟨w.heap.size, 0, none⟩ = false := (by rw [ch6.frozen1 (show w.heap.size < wS.heap.size by omega) (fun h => by have h1 : NB + 1 ≤ w.heap.size := h.1; omega)]; exact VF02))
     have D6 := HD2.out.push hbw (X := W1.heap.size + 1) (own6.wide (fun z h => by
      rcases h with h | h | h
      · exact .inl ⟨h.1, Nat.lt_of_lt_of_le h.2 lW⟩
      · exact .inr (.inl h)
      · exact .inr (.inr h))) (by omega) (ch6.wide (fun z h => ⟨h.1, Nat.lt_of_lt_of_le h.2 lW⟩)) ⟨by show (⟨#[109, 97, 115, 116, 101, 114]⟩ : ByteArray).size ≤ 6; decide, by simp⟩
     refine bodyPost_ret (v := .agg #[.slice A6 (ms.length + 1) c6]) (by simp [results, Tryz.results43, go_sem, q60, r60]) rfl ?_
     have hm : Mid w.heap.size (w.heap.size + 1) (w6.setCell ⟨w.heap.size + 1, 0, none⟩ (.slice A6 (ms.length + 1) c6)) ((w6.setCell ⟨w.heap.size + 1, 0, none⟩ (.slice A6 (ms.length + 1) c6)).setCell ⟨w.heap.size, 0, none⟩ (.slice A6 (ms.length + 1) c6)) := Mid.cell _ w.heap.size 0 _
     have eL : (ms ++ [((⟨#[109, 97, 115, 116, 101, 114]⟩ : ByteArray), lt, ([] : List (Int × Int)))]).length = ms.length + 1 := by simp
     have HL := hml.out
     refine ⟨A6, c6, ms ++ [(⟨#[109, 97, 115, 116, 101, 114]⟩, lt, [])], by rw [eL], ?_, by omega, by omega, D6.tiny, Lib.hid (hdr.out.mix (by omega) (by omega) HLT.out), (D6.src.mid hm hbw).more (by omega), D6.mid.thenB' ((Below.refl w.heap.size _).setCell (Nat.le_refl _) _) (Nat.le_refl _)⟩
     rw [eL]
     exact (D6.own.mid hm (.inr (by omega)) (Nat.le_refl _)).iv (by omega) hm.size
end
end Go.Proofs.YtfkcoiefkjmdeaaGreat
