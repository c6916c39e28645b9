import Derived.Test.YtfkcoiefkjmdeaaGreatFnNullG3
import Derived.Test.YtfkcoiefkjmdeaaGreatFnNullG1
import Derived.Test.YtfkcoiefkjmdeaaGreatFnNullG2
import Derived.StillTailTactics
import Derived.Deep.QuietTactic
set_option linter.unusedVariables false
set_option linter.unusedSimpArgs false
set_option maxRecDepth 100000
set_option maxHeartbeats 4000000
namespace Go.Proofs.YtfkcoiefkjmdeaaGreat
section
open Go.RowKit Go.Sort
theorem zdt (xs : List Int) (us : Array Value) (m : Nat) (hus : us.toList = xs.map (.int .i64)) (hm : xs.length = m) (h0 : 0 < m ∧ m ≤ 60000) (b lo : Nat) (A : Option Addr) (n c : Nat) (code : List UInt8) (K : Nat) (w : World) (h : Src w b lo A n c code K) (hK : K ≤ 1000000000) :
 Calls Tryz.prog 39 #[.pointer (some ⟨b, 0, none⟩), .slice (some ⟨w.heap.size, 0, none⟩) m m] (w.alloc (.cells us 2)) (Drew b lo A n c code (K + 2) (fun v => v ∈ xs) w) := by
 have hB : Below w.heap.size w (w.alloc (.cells us 2)) := (Below.refl _ _).alloc (Nat.le_refl _) _
 have hb := h.lt
 refine (ze8 b lo A n c code K w.heap.size m m xs _ (h.below hB hb) (by omega) hm h0 (by omega) (by simp) ?_).mono ?_
 · intro j x hx
   rw [cell_of_row _ w.heap.size j _ 2 (0, 0) (heap_alloc_new w _)]
   have : us.toList[j]? = some (.int .i64 x) := by rw [hus, List.getElem?_map, hx]; rfl
   simpa using this
 · rintro e w2 ⟨x, rfl, hx, s3, m3⟩
   exact ⟨x, rfl, hx, s3, (Mid.of_below hB _ _).trans m3⟩
structure M.aD (k t a : Int) : Prop where
 c1 : k = 1 → 0 ≤ a ∧ a ≤ 1
 c6 : k = 6 → 1 ≤ a ∧ a ≤ 4
 c10 : k = 10 → 0 ≤ a ∧ a ≤ 31
 c11 : k = 11 → 0 ≤ a ∧ a ≤ 2147483647
 c13 : k = 13 → 0 ≤ a ∧ (a < t ∨ a = 0)
 cs : -2147483648 ≤ a ∧ a ≤ 2147483647
 c0 : zd6 k = false → a = 0
theorem zo6 (b lo : Nat) (A : Option Addr) (n c : Nat) (code : List UInt8) (K : Nat) (k t : Int) (w : World) (h : Src w b lo A n c code K) (hK : K ≤ 1000000) (hk : 1 ≤ k ∧ k ≤ 17) (ht : 0 ≤ t ∧ t ≤ 100) :
 Calls Tryz.prog 108 #[.pointer (some ⟨b, 0, none⟩), .int .i64 k, .int .i64 t] w (Drew b lo A n c code (K + 6) (M.aD k t) w) := by
 have hbw := h.lt
 have fin : ∀ a, (k = 1 → 0 ≤ a ∧ a ≤ 1) → (k = 6 → 1 ≤ a ∧ a ≤ 4) → (k = 10 → 0 ≤ a ∧ a ≤ 31) → (k = 11 → 0 ≤ a ∧ a ≤ 2147483647) → (k = 13 → 0 ≤ a ∧ (a < t ∨ a = 0)) → (-2147483648 ≤ a ∧ a ≤ 2147483647) → (zd6 k = false → a = 0) → M.aD k t a := fun a h1 h2 h3 h4 h5 h6 h7 => ⟨h1, h2, h3, h4, h5, h6, h7⟩
 have FIN := Lib.hid fin
 clear fin
 by_cases k1 : k = 1
 · subst k1
   go_enter Tryz.func108, Tryz.ntmps108
   go_wp2_with fail
   refine (za4 b lo A n c code K 2 w h (by omega) (by omega)).mono ?_
   rintro e w1 ⟨v, rfl, hv, s1, m1⟩
   go_wp2
   go_ret
   exact ⟨v, rfl, FIN.out v (by omega) (by omega) (by omega) (by omega) (by omega) (by omega) (fun e => by cases e), s1.more (by omega), m1⟩
 by_cases k6 : k = 6
 · subst k6
   go_enter Tryz.func108, Tryz.ntmps108
   go_wp2_with fail
   refine (za4 b lo A n c code K 4 w h (by omega) (by omega)).mono ?_
   rintro e w1 ⟨v, rfl, hv, s1, m1⟩
   have hv2 : 0 ≤ v ∧ v ≤ 3 := by omega
   clear hv
   go_wp2
   go_ret
   exact ⟨1 + v, rfl, FIN.out (1 + v) (by omega) (by omega) (by omega) (by omega) (by omega) (by omega) (fun e => by cases e), s1.more (by omega), m1⟩
 by_cases k10 : k = 10
 · subst k10
   have SA := Lib.hid (zdt [1, 2, 0, 16, 31] #[.int .i64 1, .int .i64 2, .int .i64 0, .int .i64 16, .int .i64 31] 5 rfl rfl (by omega) b lo A n c code K w h (by omega))
   go_enter Tryz.func108, Tryz.ntmps108
   go_wp2_with fail
   refine SA.out.mono ?_
   rintro e w1 ⟨v, rfl, hv, s1, m1⟩
   have hv2 : 0 ≤ v ∧ v ≤ 31 := by simp only [List.mem_cons, List.not_mem_nil, or_false] at hv; omega
   clear hv
   go_wp2
   go_ret
   exact ⟨v, rfl, FIN.out v (by omega) (by omega) (by omega) (by omega) (by omega) (by omega) (fun e => by cases e), s1.more (by omega), m1⟩
 by_cases k11 : k = 11
 · subst k11
   have SA := Lib.hid (zdt [10, 0, 100, 2147483647] #[.int .i64 10, .int .i64 0, .int .i64 100, .int .i64 2147483647] 4 rfl rfl (by omega) b lo A n c code K w h (by omega))
   go_enter Tryz.func108, Tryz.ntmps108
   go_wp2_with fail
   refine SA.out.mono ?_
   rintro e w1 ⟨v, rfl, hv, s1, m1⟩
   have hv2 : 0 ≤ v ∧ v ≤ 2147483647 := by simp only [List.mem_cons, List.not_mem_nil, or_false] at hv; omega
   clear hv
   go_wp2
   go_ret
   exact ⟨v, rfl, FIN.out v (by omega) (by omega) (by omega) (by omega) (by omega) (by omega) (fun e => by cases e), s1.more (by omega), m1⟩
 by_cases k13 : k = 13
 · subst k13
   go_enter Tryz.func108, Tryz.ntmps108
   go_wp2_with fail
   refine (za4 b lo A n c code K t w h (by omega) (by omega)).mono ?_
   rintro e w1 ⟨v, rfl, hv, s1, m1⟩
   go_wp2
   go_ret
   exact ⟨v, rfl, FIN.out v (by omega) (by omega) (by omega) (by omega) (fun _ => hv) (by omega) (fun e => by cases e), s1.more (by omega), m1⟩
 cases hA : zd6 k
 · have HA := Lib.hid hA
   go_enter Tryz.func108, Tryz.ntmps108
   go_wp2_with fail
   refine (zg7 k w).mono ?_
   rw [HA.out]
   rintro e w1 ⟨rfl, b1⟩
   go_wp2
   go_ret
   exact ⟨0, rfl, FIN.out 0 (by omega) (by omega) (by omega) (by omega) (by omega) (by omega) (fun _ => rfl), (h.below b1 hbw).more (by omega), Mid.of_below b1 _ _⟩
 · have HA := Lib.hid hA
   go_enter Tryz.func108, Tryz.ntmps108
   go_wp2_with fail
   refine (zg7 k w).mono ?_
   rw [HA.out]
   rintro e w1 ⟨rfl, b1⟩
   go_wp2_with fail
   refine (zeo b lo A n c code K w1 (h.below b1 hbw) (by omega)).mono ?_
   rintro e w2 ⟨v, rfl, hv, s1, m1⟩
   go_wp2
   go_ret
   exact ⟨v, rfl, FIN.out v (by omega) (by omega) (by omega) (by omega) (by omega) hv (fun e => by rw [HA.out] at e; cases e), s1, (Mid.of_below b1 _ _).trans m1⟩
end
section
open Go.RowKit
end
section
open Go.RowKit
theorem OS.made0 {α : Type} (t : Ty α) (e : TypeId) (w : World) : OS t e (w.alloc (.cells #[] e)) (Iv w.heap.size (w.alloc (.cells #[] e)).heap.size) (.slice (some ⟨w.heap.size, 0, none⟩) 0 0) [] :=
 ⟨[], fun _ _ => False, World.ownsRow_made _ _ _ (Nat.zero_le _) (by simp [maxLen]) (by simp), rfl, fun g hg => by simp only [Value.ownBlock, Option.some.injEq] at hg; subst hg; exact ⟨Nat.le_refl _, by simp⟩, fun _ _ h => h.elim, fun _ _ _ _ h => h.elim, fun k h => by simp at h⟩
theorem ei_S : EI Tryz.prog 24 26 (.slice none 0 0) 1 24 := ⟨Tryz.underlying24, by kernel_rfl, rfl, by decide⟩
def zkl (w : World) (r : List (List Int) × Int) (en : Ending) (w' : World) : Prop :=
 ∃ v, en = .returned (.tuple #[v, .int .i64 r.2]) ∧ OS tS 26 w' (Iv w.heap.size w'.heap.size) v r.1 ∧ Below w.heap.size w w'
theorem Iv.apart {a b c d : Nat} (h : b ≤ c) : ∀ k, Iv a b k → ¬ Iv c d k := fun k h1 h2 => by have := h1.2; have := h2.1; omega
theorem Iv.grow {a b c d : Nat} (h1 : a ≤ b) (h2 : b ≤ c) (h3 : c ≤ d) : ∀ k, (Iv a b k ∨ Iv b c k ∨ c < k ∧ k < d) → Iv a d k := by
 intro k h
 unfold Iv at *
 omega
end
section
open Go.RowKit Go.Sort
structure DN (w : World) (b lo : Nat) (A : Option Addr) (n c : Nat) (code : List UInt8) (g K : Nat) (k a bb : Int) (v : Value) (xs : List Int) (wr : World) : Prop where
 e0 : wr.cell? ⟨w.heap.size, 0, none⟩ = some (.int .i64 0)
 e1 : wr.cell? ⟨w.heap.size, 1, none⟩ = some (.int .i64 0)
 e2 : wr.cell? ⟨w.heap.size, 2, none⟩ = some (.int .i64 0)
 e3 : wr.cell? ⟨w.heap.size, 3, none⟩ = some (.slice none 0 0)
 f0 : wr.frozen? ⟨w.heap.size, 0, none⟩ = false
 f1 : wr.frozen? ⟨w.heap.size, 1, none⟩ = false
 f2 : wr.frozen? ⟨w.heap.size, 2, none⟩ = false
 f3 : wr.frozen? ⟨w.heap.size, 3, none⟩ = false
 p0 : wr.cell? ⟨g, 0, none⟩ = some (.int .i64 k)
 p1 : wr.cell? ⟨g, 1, none⟩ = some (.int .i64 a)
 p2 : wr.cell? ⟨g, 2, none⟩ = some (.int .i64 bb)
 p3 : wr.cell? ⟨g, 3, none⟩ = some v
 q2 : wr.frozen? ⟨g, 2, none⟩ = false
 q3 : wr.frozen? ⟨g, 3, none⟩ = false
 own : OS tI 2 wr (fun z => w.heap.size < z ∧ z ≠ g) v xs
 src : Src wr b lo A n c code K
 mid : Mid b (b + 1) w wr
 sz : g < wr.heap.size
 lo : w.heap.size < g
structure M.nD (k t below : Int) (x : Node) : Prop where
 kd : x.1 = k
 ad : M.aD k t x.2.1
 b17 : k = 17 → 1 ≤ x.2.2.1 ∧ x.2.2.1 ≤ 3
 b0 : k ≠ 17 → x.2.2.1 = 0
 len : (x.2.2.2.length : Int) = M.ar k.toNat
 fr : ∀ f ∈ x.2.2.2, 0 ≤ f ∧ (f < below ∨ f = 0)
def zil (b lo : Nat) (A : Option Addr) (n c : Nat) (code : List UInt8) (K : Nat) (P : Node → Prop) (w : World) (e : Ending) (w' : World) : Prop :=
 ∃ k a bb A1 n1 c1 xs, e = .returned (.agg #[.int .i64 k, .int .i64 a, .int .i64 bb, .slice A1 n1 c1]) ∧ OS tI 2 w' (Iv w.heap.size w'.heap.size) (.slice A1 n1 c1) xs ∧ Hid (P (k, a, bb, xs)) ∧ Src w' b lo A n c code K ∧ Mid b (b + 1) w w'
section
variable {w wr w' : World} {b lo : Nat} {A : Option Addr} {n c : Nat} {code : List UInt8} {g K K' : Nat} {k a bb : Int} {v : Value} {xs : List Int}
theorem DN.step (h : DN w b lo A n c code g K k a bb v xs wr) (hb : b < w.heap.size) (hs : Src w' b lo A n c code K') (hm : Mid b (b + 1) wr w') : DN w b lo A n c code g K' k a bb v xs w' := by
 have hz := h.sz
 have hl := h.lo
 have cK : ∀ {z o u}, z < wr.heap.size → b < z → wr.cell? ⟨z, o, none⟩ = u → w'.cell? ⟨z, o, none⟩ = u := fun h1 h2 h3 => hm.cellK h1 (.inr h2) h3
 have fK : ∀ {z o u}, z < wr.heap.size → b < z → wr.frozen? ⟨z, o, none⟩ = u → w'.frozen? ⟨z, o, none⟩ = u := fun h1 h2 h3 => hm.frozK h1 (.inr h2) h3
 have h1 : w.heap.size < wr.heap.size := by omega
 have h2 : b < g := by omega
 exact ⟨cK h1 hb h.e0, cK h1 hb h.e1, cK h1 hb h.e2, cK h1 hb h.e3, fK h1 hb h.f0, fK h1 hb h.f1, fK h1 hb h.f2, fK h1 hb h.f3,
  cK hz h2 h.p0, cK hz h2 h.p1, cK hz h2 h.p2, cK hz h2 h.p3, fK hz h2 h.q2, fK hz h2 h.q3,
  h.own.chg (Chg.of_mid hm) (fun z h1 h2 => by have := h1.1; omega), hs, h.mid.trans hm, Nat.lt_of_lt_of_le hz hm.size, hl⟩
theorem DN.more (h : DN w b lo A n c code g K k a bb v xs wr) (hK : K ≤ K') : DN w b lo A n c code g K' k a bb v xs wr :=
 ⟨h.e0, h.e1, h.e2, h.e3, h.f0, h.f1, h.f2, h.f3, h.p0, h.p1, h.p2, h.p3, h.q2, h.q3, h.own, h.src.more hK, h.mid, h.sz, h.lo⟩
theorem DN.push {w4 : World} {v4 : Value} {x : Int} (h : DN w b lo A n c code g K k a bb v xs wr) (hb : b < w.heap.size)
 (own : OS tI 2 w4 (fun z => (w.heap.size < z ∧ z ≠ g) ∨ False ∨ wr.heap.size < z ∧ z < w4.heap.size) v4 (xs ++ [x])) (hc : Chg (fun z => w.heap.size < z ∧ z ≠ g) wr w4) :
 DN w b lo A n c code g K k a bb v4 (xs ++ [x]) (w4.setCell ⟨g, 3, none⟩ v4) := by
 have hz := h.sz
 have hl := h.lo
 have hs4 : wr.heap.size ≤ w4.heap.size := hc.size
 have cW : ∀ o u, wr.cell? ⟨w.heap.size, o, none⟩ = u → (w4.setCell ⟨g, 3, none⟩ v4).cell? ⟨w.heap.size, o, none⟩ = u := fun o u hu => by
  rw [World.cell?_of_block (heap_setCell_other w4 ⟨g, 3, none⟩ w.heap.size v4 (by show w.heap.size ≠ g; omega)), hc.cell1 (show w.heap.size < _ by omega) (fun h => absurd (show w.heap.size < w.heap.size from h.1) (by omega))]; exact hu
 have fW : ∀ o u, wr.frozen? ⟨w.heap.size, o, none⟩ = u → (w4.setCell ⟨g, 3, none⟩ v4).frozen? ⟨w.heap.size, o, none⟩ = u := fun o u hu => by
  rw [World.frozen?_setCell, hc.frozen1 (show w.heap.size < _ by omega) (fun h => absurd (show w.heap.size < w.heap.size from h.1) (by omega))]; exact hu
 have cG : ∀ o u, wr.cell? ⟨g, o, none⟩ = u → w4.cell? ⟨g, o, none⟩ = u := fun o u hu => by rw [hc.cell1 hz (fun h => h.2 rfl)]; exact hu
 have fG : ∀ o u, wr.frozen? ⟨g, o, none⟩ = u → (w4.setCell ⟨g, 3, none⟩ v4).frozen? ⟨g, o, none⟩ = u := fun o u hu => by
  rw [World.frozen?_setCell, hc.frozen1 hz (fun h => h.2 rfl)]; exact hu
 have CB : Chg (fun z => z = g) w4 (w4.setCell ⟨g, 3, none⟩ v4) := Chg.set w4 g 3 _ rfl
 have MB : Below w.heap.size wr (w4.setCell ⟨g, 3, none⟩ v4) := ((hc.wide (F' := fun z => w.heap.size < z) (fun _ h => h.1)).trans (CB.wide (fun z (h : z = g) => by omega))).toBelow (fun z h => by omega) (by omega)
 have e95 : (w4.setCell ⟨g, 3, none⟩ v4).heap.size = w4.heap.size := by simp
 refine ⟨cW _ _ h.e0, cW _ _ h.e1, cW _ _ h.e2, cW _ _ h.e3, fW _ _ h.f0, fW _ _ h.f1, fW _ _ h.f2, fW _ _ h.f3,
  (zae w4 g _ (by decide)).trans (cG _ _ h.p0), (zae w4 g _ (by decide)).trans (cG _ _ h.p1), (zae w4 g _ (by decide)).trans (cG _ _ h.p2), World.cell?_setCell_same _ _ _ (cG _ _ h.p3), fG _ _ h.q2, fG _ _ h.q3, ?_,
  h.src.below MB hb, h.mid.thenB' MB (Nat.le_refl _), by rw [e95]; omega, hl⟩
 refine (own.chg CB (fun z h1 (h2 : z = g) => ?_)).wide (fun z h1 => ?_)
 · rcases h1 with h1 | h1 | h1
   · exact h1.2 h2
   · exact h1
   · omega
 · rcases h1 with h1 | h1 | h1
   · exact h1
   · exact h1.elim
   · exact ⟨by omega, by omega⟩
theorem DN.setB (h : DN w b lo A n c code g K k a bb v xs wr) (hb : b < w.heap.size) (y : Int) : DN w b lo A n c code g K k a y v xs (wr.setCell ⟨g, 2, none⟩ (.int .i64 y)) := by
 have hz := h.sz
 have hl := h.lo
 have cW : ∀ o u, wr.cell? ⟨w.heap.size, o, none⟩ = u → (wr.setCell ⟨g, 2, none⟩ (.int .i64 y)).cell? ⟨w.heap.size, o, none⟩ = u := fun o u hu => by
  rw [World.cell?_of_block (heap_setCell_other wr ⟨g, 2, none⟩ w.heap.size _ (by show w.heap.size ≠ g; omega))]; exact hu
 have CB : Chg (fun z => z = g) wr (wr.setCell ⟨g, 2, none⟩ (.int .i64 y)) := Chg.set wr g 2 _ rfl
 have MB : Below w.heap.size wr (wr.setCell ⟨g, 2, none⟩ (.int .i64 y)) := CB.toBelow (fun z h => by omega) (by omega)
 refine ⟨cW _ _ h.e0, cW _ _ h.e1, cW _ _ h.e2, cW _ _ h.e3, (World.frozen?_setCell _ _ _ _).trans h.f0, (World.frozen?_setCell _ _ _ _).trans h.f1, (World.frozen?_setCell _ _ _ _).trans h.f2, (World.frozen?_setCell _ _ _ _).trans h.f3,
  (zae wr g _ (by decide)).trans h.p0, (zae wr g _ (by decide)).trans h.p1, World.cell?_setCell_same _ _ _ h.p2, (zae wr g _ (by decide)).trans h.p3, (World.frozen?_setCell _ _ _ _).trans h.q2, (World.frozen?_setCell _ _ _ _).trans h.q3,
  h.own.chg CB (fun z h1 h2 => h1.2 h2), h.src.below MB hb, h.mid.thenB' MB (Nat.le_refl _), by simpa using hz, hl⟩
theorem DN.fin {A1 : Option Addr} {n1 c1 : Nat} (h : DN w b lo A n c code g K k a bb (.slice A1 n1 c1) xs wr) (hb : b < w.heap.size) {P : Node → Prop} (hP : P (k, a, bb, xs)) :
 zil b lo A n c code K P w (.returned (.agg #[.int .i64 k, .int .i64 a, .int .i64 bb, .slice A1 n1 c1])) ((((wr.setCell ⟨w.heap.size, 0, none⟩ (.int .i64 k)).setCell ⟨w.heap.size, 1, none⟩ (.int .i64 a)).setCell ⟨w.heap.size, 2, none⟩ (.int .i64 bb)).setCell ⟨w.heap.size, 3, none⟩ (.slice A1 n1 c1)) := by
 have hz := h.sz
 have hl := h.lo
 have st : ∀ (u : World) (o : Nat) (x : Value), Chg (fun z => z = w.heap.size) u (u.setCell ⟨w.heap.size, o, none⟩ x) := fun u o x => Chg.set u w.heap.size o _ rfl
 have CH := (((st wr 0 (.int .i64 k)).trans (st _ 1 (.int .i64 a))).trans (st _ 2 (.int .i64 bb))).trans (st _ 3 (.slice A1 n1 c1))
 have MB := CH.toBelow (B := w.heap.size) (fun z h => by omega) (by omega)
 have hs := CH.size
 exact ⟨k, a, bb, A1, n1, c1, xs, rfl, ((h.own.real.chg CH (fun z h1 h2 => by have := h1.1.1; omega)).wide (fun z h1 => ⟨Nat.le_of_lt h1.1.1, Nat.lt_of_lt_of_le h1.2 hs⟩)), Lib.hid hP, h.src.below MB hb, h.mid.thenB' MB (Nat.le_refl _)⟩
end
theorem zgf (k : Int) (h : 1 ≤ k ∧ k ≤ 17) : 0 ≤ M.ar k.toNat ∧ M.ar k.toNat ≤ 3 := by
 have : k = 1 ∨ k = 2 ∨ k = 3 ∨ k = 4 ∨ k = 5 ∨ k = 6 ∨ k = 7 ∨ k = 8 ∨ k = 9 ∨ k = 10 ∨ k = 11 ∨ k = 12 ∨ k = 13 ∨ k = 14 ∨ k = 15 ∨ k = 16 ∨ k = 17 := by omega
 rcases this with rfl | rfl | rfl | rfl | rfl | rfl | rfl | rfl | rfl | rfl | rfl | rfl | rfl | rfl | rfl | rfl | rfl <;> decide
theorem zim (b lo : Nat) (A : Option Addr) (n c : Nat) (code : List UInt8) (K : Nat) (k t below : Int) (w : World) (h : Src w b lo A n c code K) (hK : K ≤ 100000) (hk : 1 ≤ k ∧ k ≤ 17) (ht : 0 ≤ t ∧ t ≤ 100) (hbe : 0 ≤ below ∧ below ≤ 100) :
 Calls Tryz.prog 83 #[.pointer (some ⟨b, 0, none⟩), .int .i64 k, .int .i64 t, .int .i64 below] w (zil b lo A n c code (K + 20) (M.nD k t below) w) := by
 have hbw := h.lt
 obtain ⟨W0, hW0⟩ : ∃ W, W = w.alloc (.cells #[.int .i64 0, .int .i64 0, .int .i64 0, .slice none 0 0] 122) := ⟨_, rfl⟩
 have B0 : Below w.heap.size w W0 := by rw [hW0]; exact (Below.refl _ _).alloc (Nat.le_refl _) _
 have z0 : W0.heap.size = w.heap.size + 1 := by rw [hW0]; simp
 have Q0 : Hid (∀ j, j < 4 → W0.cell? ⟨w.heap.size, j, none⟩ = some (if j = 3 then .slice none 0 0 else .int .i64 0) ∧ W0.frozen? ⟨w.heap.size, j, none⟩ = false) := Lib.hid fun j hj => by
  rw [hW0]
  rcases (show j = 0 ∨ j = 1 ∨ j = 2 ∨ j = 3 by omega) with rfl | rfl | rfl | rfl <;> exact ⟨by simp [go_sem], by simp [go_sem]⟩
 have s0 := h.below B0 hbw
 have HW0 := Lib.hid hW0
 have HZ0 := Lib.hid z0
 clear hW0
 go_enter Tryz.func83, Tryz.ntmps83
 go_wp2_with fail
 rw [← HW0.out]
 refine (zo6 b lo A n c code K k t W0 s0 (by omega) hk ht).mono ?_
 rintro e w1 ⟨a, rfl, hA, s1, m1⟩
 have HA := Lib.hid hA
 have t1 := m1.size
 have lw1 : w.heap.size < w1.heap.size := by omega
 have Q1 : Hid (∀ j, j < 4 → w1.cell? ⟨w.heap.size, j, none⟩ = some (if j = 3 then .slice none 0 0 else .int .i64 0) ∧ w1.frozen? ⟨w.heap.size, j, none⟩ = false) := Lib.hid fun j hj => by
  obtain ⟨h1, h2⟩ := Q0.out j hj
  exact ⟨m1.cellK (by omega) (.inr (by omega)) h1, m1.frozK (by omega) (.inr (by omega)) h2⟩
 obtain ⟨W1, hW1⟩ : ∃ W, W = w1.alloc (.cells #[] 2) := ⟨_, rfl⟩
 have z1 : W1.heap.size = w1.heap.size + 1 := by rw [hW1]; simp
 obtain ⟨W2, hW2⟩ : ∃ W, W = W1.alloc (.cells #[.int .i64 k, .int .i64 a, .int .i64 0, .slice (some ⟨w1.heap.size, 0, none⟩) 0 0] 122) := ⟨_, rfl⟩
 obtain ⟨g, hg⟩ : ∃ g, g = w1.heap.size + 1 := ⟨_, rfl⟩
 have D2 : DN w b lo A n c code g (K + 6) k a 0 (.slice (some ⟨w1.heap.size, 0, none⟩) 0 0) [] W2 := by
  have bA : Below w1.heap.size w1 W1 := by rw [hW1]; exact (Below.refl _ _).alloc (Nat.le_refl _) _
  have bB : Below W1.heap.size W1 W2 := by rw [hW2]; exact (Below.refl _ _).alloc (Nat.le_refl _) _
  have bC := zaa bA bB
  have own0 : OS tI 2 W1 (Iv w1.heap.size W1.heap.size) (.slice (some ⟨w1.heap.size, 0, none⟩) 0 0) [] := by rw [hW1]; exact OS.made0 tI 2 w1
  have own1 := own0.below bB (Nat.le_refl _)
  have cP : ∀ j u, (#[Value.int .i64 k, .int .i64 a, .int .i64 0, .slice (some ⟨w1.heap.size, 0, none⟩) 0 0] : Array Value)[j]? = some u → W2.cell? ⟨g, j, none⟩ = some u ∧ W2.frozen? ⟨g, j, none⟩ = false := fun j u hj => by
   rw [hW2, hg, ← z1]
   refine ⟨?_, ?_⟩
   · rw [cell_of_row _ W1.heap.size j _ 122 (0, 0) (heap_alloc_new W1 _)]
     exact hj
   · simp [go_sem]
  have cW : ∀ j, j < 4 → W2.cell? ⟨w.heap.size, j, none⟩ = some (if j = 3 then .slice none 0 0 else .int .i64 0) ∧ W2.frozen? ⟨w.heap.size, j, none⟩ = false := fun j hj => by
   obtain ⟨h1, h2⟩ := Q1.out j hj
   exact ⟨by rw [bC.cell (by show w.heap.size < _; omega)]; exact h1, by rw [bC.frozen (by show w.heap.size < _; omega)]; exact h2⟩
  refine ⟨(cW 0 (by omega)).1, (cW 1 (by omega)).1, (cW 2 (by omega)).1, (cW 3 (by omega)).1, (cW 0 (by omega)).2, (cW 1 (by omega)).2, (cW 2 (by omega)).2, (cW 3 (by omega)).2,
   (cP 0 _ rfl).1, (cP 1 _ rfl).1, (cP 2 _ rfl).1, (cP 3 _ rfl).1, (cP 2 _ rfl).2, (cP 3 _ rfl).2, ?_, s1.below bC s1.lt, ((Mid.of_below B0 _ _).trans m1).thenB' bC (by have := m1.size; omega), ?_, by omega⟩
  · exact own1.wide (fun z h => ⟨by have h1 : w1.heap.size ≤ z := h.1; omega, by have h1 : z < W1.heap.size := h.2; omega⟩)
  · rw [hW2, hg]; simp; omega
 have HW1 := Lib.hid hW1
 have HW2 := Lib.hid hW2
 have HG := Lib.hid (show w1.heap.size + 1 = g from hg.symm)
 have hA2 := zgf k hk
 clear hW1 hW2 hg z1 s0 s1 m1 hA
 go_wp2_with fail
 rw [← HW1.out, ← HW2.out, HG.out]
 refine (zgc k W2 (by omega)).mono ?_
 obtain ⟨m, hm⟩ : ∃ m : Nat, M.ar k.toNat = m := ⟨(M.ar k.toNat).toNat, by omega⟩
 rw [hm] at hA2 ⊢
 have HM := Lib.hid hm
 clear hm
 rintro e w3 ⟨rfl, b3⟩
 have D3 := D2.step hbw (D2.src.below b3 D2.src.lt) (Mid.of_below b3 _ _)
 clear D2 b3
 go_wp2_with fail
 go_loopw [10] (fun i wr => ∃ (j : Nat) (xs : List Int) (v : Value), i = .int .i64 j ∧ j ≤ m ∧ Hid (xs.length + j = m) ∧ Hid (∀ f ∈ xs, 0 ≤ f ∧ (f < below ∨ f = 0)) ∧ DN w b lo A n c code g (K + 6 + 2 * (m - j)) k a 0 v xs wr) (fun i _ => (intOf i).toNat)
 case atStart => exact ⟨m, [], _, rfl, by omega, Lib.hid (by simp), Lib.hid (fun f hf => by simp at hf), D3.more (by omega)⟩
 case round =>
  clear D3
  obtain ⟨j, xs, v, rfl, hj, hxl, hfr, D⟩ := hrel
  obtain ⟨A1, c1, hv⟩ := D.own.shape
  subst hv
  by_cases hlt : 0 < j
  · have hlti : (0 : Int) < (j : Int) := by omega
    have hxb : xs.length ≤ 3 := by have := hxl.out; omega
    obtain ⟨U, hU⟩ : ∃ U, U = wr := ⟨_, rfl⟩
    rw [← hU] at D ⊢
    have HD := Lib.hid D
    have UP3 := D.p3
    have UF3 := D.q3
    have UX := D.sz
    have UL := D.lo
    obtain ⟨G, hG⟩ : ∃ G : Nat → Prop, G = fun z => z = b ∨ (w.heap.size < z ∧ z ≠ g) := ⟨_, rfl⟩
    have HG2 := Lib.hid hG
    have GX := Lib.hid (show ¬ G g from fun h => by
     rw [hG] at h
     rcases h with h | h
     · omega
     · exact h.2 rfl)
    have g3 := ChgTo.cell (F := G) UP3 (fun h => GX.out h)
    have bsU := D.src.lt
    clear hU hG
    have SD := Lib.hid (za4 b lo A n c code _ below U.drew (D.src.below (zac (Below.refl U.heap.size _) 1) bsU) (by omega) (by omega))
    clear D
    go_wp2_with fail
    (refine zcl G [0, 2, 3] [1] 4 (.one 4 (.one 5 (.one 6 (.first 7 .rest)))) [8] [8] (by kernel_rfl) (by kernel_rfl) ?_; simp only [zaj]; simp only [List.filterMap, List.getElem?_cons_succ, List.getElem?_cons_zero]; (repeat (go_big_quiet_step (fail))); refine wpQuiet_nil ?_; (repeat (go_big_quiet_step (fail))); refine wpQuiet_nil ?_)
    refine zai rfl ?_
    go_wp2_with fail
    refine SD.out.mono ?_
    rintro e x5 ⟨f, rfl, hf, s5, m5⟩
    have HF := Lib.hid hf
    clear hf
    have m5' : Mid b (b + 1) U x5 := (Mid.of_below (zac (Below.refl U.heap.size _) 1) b (b + 1)).trans m5
    have E5 := HD.out.step hbw s5 m5'
    have lt5 := m5'.size
    have C5 : Chg G U x5 := ⟨m5'.os, m5'.tape, m5'.output, m5'.size, fun i hi hn => m5'.block i hi (by
     rw [HG2.out] at hn
     rcases Nat.lt_or_ge i b with h | h
     · exact .inl h
     · exact .inr (by rcases Nat.lt_or_ge b i with h2 | h2; exact h2; exact absurd (.inl (by omega)) hn))⟩
    have HE5 := Lib.hid E5
    have q3 := E5.p3
    have r3 := E5.q3
    have o5 := E5.own
    clear E5
    go_wp2_with fail
    refine ⟨⟨⟨x5, C5⟩, rfl⟩, zai rfl ?_⟩
    go_wp2_with fail
    refine ⟨⟨⟨_, C5.trans (Chg.of_below ((Below.refl _ _).alloc (Nat.le_refl _) _) _)⟩, rfl⟩, zai rfl ?_⟩
    go_wp2_with (at_builtin; refine zaz zbl #[.int .i64 f] rfl _ _ rfl o5 (Fe := fun _ => False) (y := f) rfl (fun _ _ h => h) rfl rfl (by unfold maxLen; omega) (by omega) ?_; intro v6 w6 own6 ch6; obtain ⟨A6, c6, e6⟩ := own6.shape; rw [List.length_append, List.length_singleton] at e6; subst e6; have q6 : w6.cell? ⟨g, 3, none⟩ = some (.slice A1 xs.length c1) := (by rw [ch6.cell1 (show g < x5.heap.size by omega) (fun h => h.2 rfl)]; exact q3); have r6 : w6.frozen? ⟨g, 3, none⟩ = false := (by rw [ch6.frozen1 (show g < x5.heap.size by omega) (fun h => h.2 rfl)]; exact r3))
    have CG6 : Chg G U w6 := C5.trans (ch6.wide (fun z h => by rw [HG2.out]; exact .inr h))
    refine ⟨⟨⟨w6, CG6⟩, rfl⟩, ?_⟩
    (refine zbf rfl ?_; (repeat (go_big_quiet_step (fail))); refine wpQuiet_nil ?_)
    refine zbg ?_
    have E6 := HE5.out.push hbw own6 ch6
    go_wp2_with fail
    go_roundw
    case rel => exact ⟨j - 1, xs ++ [f], _, by go_num, by omega, Lib.hid (by have := hxl.out; simp; omega), Lib.hid (fun x hx => by
     rcases List.mem_append.1 hx with hx | hx
     · exact hfr.out x hx
     · rw [List.mem_singleton.1 hx]; exact HF.out), E6.more (by omega)⟩
    case measure => simp [intOf]; omega
  · obtain rfl : j = 0 := by omega
    have UX := D.sz
    have UL := D.lo
    have hne : g ≠ w.heap.size := by omega
    have hne' : w.heap.size ≠ g := by omega
    have hlen := Lib.hid (show xs.length = m by have := hxl.out; omega)
    by_cases h17 : k = 17
    · subst h17
      have SP := Lib.hid (za4 b lo A n c code _ 3 wr D.src (by omega) (by omega))
      have HD := Lib.hid D
      clear D
      go_wp2_with fail
      refine SP.out.mono ?_
      rintro e w5 ⟨y, rfl, hy, s5, m5⟩
      have hy2 : 0 ≤ y ∧ y ≤ 2 := by omega
      have D5 := HD.out.step hbw s5 m5
      have i2 := D5.p2
      have j2 := D5.q2
      have D6 := D5.setB hbw (1 + y)
      obtain ⟨w6, hw6⟩ : ∃ u, u = w5.setCell ⟨g, 2, none⟩ (.int .i64 (1 + y)) := ⟨_, rfl⟩
      rw [← hw6] at D6
      have HW6 := Lib.hid hw6
      clear hw6 D5 hy
      have a0 := D6.p0
      have a1 := D6.p1
      have a2 := D6.p2
      have a3 := D6.p3
      have r0 := D6.e0
      have r1 := D6.e1
      have r2 := D6.e2
      have r3 := D6.e3
      have v0 := D6.f0
      have v1 := D6.f1
      have v2 := D6.f2
      have v3 := D6.f3
      have FIN := Lib.hid ((D6.more (K' := K + 20) (by omega)).fin hbw (P := M.nD 17 t below) ⟨rfl, HA.out, fun _ => by simp only; omega, fun e => absurd rfl e, by simp only; rw [hlen.out, HM.out], hfr.out⟩)
      clear D6
      go_upto_region 8 with fail
      rw [← HW6.out]
      go_wp2
      refine bodyPost_ret (v := .agg #[.int .i64 17, .int .i64 a, .int .i64 (1 + y), .slice A1 xs.length c1]) (by simp [results, Tryz.results83, go_sem, r0, r1, r2, r3, v0, v1, v2, v3, hne, hne']) rfl ?_
      exact FIN.out
    · have a0 := D.p0
      have a1 := D.p1
      have a2 := D.p2
      have a3 := D.p3
      have r0 := D.e0
      have r1 := D.e1
      have r2 := D.e2
      have r3 := D.e3
      have v0 := D.f0
      have v1 := D.f1
      have v2 := D.f2
      have v3 := D.f3
      have FIN := Lib.hid ((D.more (K' := K + 20) (by omega)).fin hbw (P := M.nD k t below) ⟨rfl, HA.out, fun e => absurd e h17, fun _ => rfl, by simp only; rw [hlen.out, HM.out], hfr.out⟩)
      clear D
      go_wp2
      refine bodyPost_ret (v := .agg #[.int .i64 k, .int .i64 a, .int .i64 0, .slice A1 xs.length c1]) (by simp [results, Tryz.results83, go_sem, r0, r1, r2, r3, v0, v1, v2, v3, hne, hne']) rfl ?_
      exact FIN.out
end
section
open Go.RowKit
end
section
open Go.RowKit
end
section
open Go.RowKit
end
section
open Go.RowKit
end
section
open Go.RowKit
end
section
open Go.RowKit
end
section
open Go.RowKit
end
section
open Go.RowKit
namespace M
end M
end
section
open Go.RowKit
def zo7 (b lo : Nat) (A : Option Addr) (n c : Nat) (code : List UInt8) (K m : Nat) (w : World) (e : Ending) (w' : World) : Prop :=
 ∃ v xs, e = .returned v ∧ OS tI 2 w' (Iv w.heap.size w'.heap.size) v xs ∧ xs.length ≤ m ∧ Hid (∀ x ∈ xs, M.smp x = true) ∧ Src w' b lo A n c code K ∧ Mid b (b + 1) w w'
theorem Mid.thenB {lo hi : Nat} {a b c : World} (h : Mid lo hi a b) (k : Below a.heap.size b c) : Mid lo hi a c :=
 ⟨k.os.trans h.os, k.tape.trans h.tape, k.output.trans h.output, Nat.le_trans h.size k.size, fun i hi' hm => (k.block i hi').trans (h.block i hi' hm)⟩
theorem zkm {x : Int} (h0 : -2147483648 ≤ x) (h1 : x ≤ 2147483647) : M.smp x = true := by simp [M.smp, M.inn]; omega
theorem zo8 (b lo : Nat) (A : Option Addr) (n c : Nat) (code : List UInt8) (K m : Nat) (w : World) (h : Src w b lo A n c code K) (hK : K ≤ 1000000) (hm : m ≤ 1000) :
 Calls Tryz.prog 41 #[.pointer (some ⟨b, 0, none⟩), .int .i64 m] w (zo7 b lo A n c code (K + 2 + 6 * m) m w) := by
 have hbw := h.lt
 have hB := (Below.refl w.heap.size w).alloc (Nat.le_refl _) (.cells #[] 2)
 have s0 := h.below hB hbw
 have own0 := OS.made0 tI 2 w
 have hsz0 : (w.alloc (.cells #[] 2)).heap.size = w.heap.size + 1 := by simp
 rw [hsz0] at own0
 have hsz0' := Lib.hid hsz0
 clear hsz0
 go_enter Tryz.func41, Tryz.ntmps41
 go_wp2_with fail
 refine (za4 b lo A n c code K ((m : Int) + 1) _ s0 (by omega) (by omega)).mono ?_
 rintro e w1 ⟨k, rfl, ⟨k0, k1⟩, s1, m1⟩
 obtain ⟨k, rfl⟩ : ∃ j : Nat, k = j := ⟨k.toNat, by omega⟩
 have hkm : k ≤ m := by omega
 have hs1 : w.heap.size + 1 ≤ w1.heap.size := by have h1 := m1.size; rw [hsz0'.out] at h1; exact h1
 have own1 : OS tI 2 w1 (Iv w.heap.size w1.heap.size) (.slice (some ⟨w.heap.size, 0, none⟩) 0 0) [] := (own0.mid m1 (.inr (by omega)) (by rw [hsz0'.out]; exact Nat.le_refl _)).iv (Nat.le_refl _) hs1
 have M1 : Mid b (b + 1) w w1 := (Mid.of_below hB _ _).trans m1
 clear k1 hB own0 m1
 go_wp2_with fail
 go_loopw [5, 6] (fun v i wr => ∃ (j : Nat) (xs : List Int), i = .int .i64 j ∧ j ≤ k ∧ xs.length + j ≤ k ∧ OS tI 2 wr (Iv w.heap.size wr.heap.size) v xs ∧ Hid (∀ x ∈ xs, M.smp x = true) ∧ Src wr b lo A n c code (K + 2 + 6 * (k - j)) ∧ w.heap.size + 1 ≤ wr.heap.size ∧ Mid b (b + 1) w wr)
  (fun _ i _ => (intOf i).toNat)
 case atStart => exact ⟨k, [], rfl, by omega, by simp, own1, Lib.hid (by simp), s1.more (by omega), hs1, M1⟩
 case round =>
  obtain ⟨j, xs, rfl, hj, hxj, own, hsm, s2, hsz, M2⟩ := hrel
  by_cases hlt : 0 < j
  · go_wp2_with fail
    refine (zeo b lo A n c code (K + 2 + 6 * (k - j)) wr s2 (by omega)).mono ?_
    rintro e w4 ⟨x, rfl, ⟨x0, x1⟩, s4, m4⟩
    have own4 := own.mid m4 (.inr (by omega)) (Nat.le_refl _)
    have hs4 := m4.size
    have hb4 := s4.lt
    obtain ⟨A0, c0, rfl⟩ := own.shape
    go_wp2_with (at_builtin; refine zaz (t := tI) zbl #[.int .i64 x] rfl _ _ rfl own4 (Fe := fun _ => False) (y := x) rfl (fun _ _ h => h) rfl rfl (by unfold maxLen; omega) (by omega) ?_; intro v5 w5 own5 ch5)
    go_roundw
    case rel =>
     have hs5 := ch5.size
     have hB5 : Below w.heap.size w4 w5 := ch5.toBelow (fun b hb => hb.1) (by omega)
     refine ⟨j - 1, xs ++ [x], by go_num, by omega, by simp; omega, own5.wide ?_, Lib.hid ?_, (s4.below hB5 hbw).more (by omega), by omega, (M2.trans m4).thenB hB5⟩
     · intro q hq
       rcases hq with hq | hq | hq
       · unfold Iv at *; omega
       · exact hq.elim
       · unfold Iv; omega
     · intro y hy
       rcases List.mem_append.1 hy with h | h
       · exact hsm.out y h
       · simp only [List.mem_singleton] at h
         subst h
         exact zkm x0 x1
    case measure => simp [intOf]; omega
  · obtain rfl : j = 0 := by omega
    go_wp2
    go_ret
    exact ⟨_, _, rfl, own, by omega, hsm, s2.more (by omega), M2⟩
end
section
open Go.RowKit Go.Sort
def zo9 (b lo : Nat) (A : Option Addr) (n c : Nat) (code : List UInt8) (K : Nat) (w : World) (e : Ending) (w' : World) : Prop :=
 ∃ A1 c1 T, e = .returned (.slice A1 (List.length T) c1) ∧ OS tS 26 w' (Iv w.heap.size w'.heap.size) (.slice A1 T.length c1) T ∧ Hid (zbj T = true) ∧ 1 ≤ T.length ∧ T.length ≤ 2 ∧ Hid (∀ x ∈ T, x.length ≤ 8) ∧ Src w' b lo A n c code K ∧ Mid b (b + 1) w w'
theorem zpa (b lo : Nat) (A : Option Addr) (n c : Nat) (code : List UInt8) (K : Nat) (w : World) (h : Src w b lo A n c code K) (hK : K ≤ 100000) :
 Calls Tryz.prog 80 #[.pointer (some ⟨b, 0, none⟩)] w (zo9 b lo A n c code (K + 120) w) := by
 have hbw := h.lt
 obtain ⟨W0, hW0⟩ : ∃ W, W = w.alloc (.cells #[] 26) := ⟨_, rfl⟩
 have B0 : Below w.heap.size w W0 := by rw [hW0]; exact (Below.refl _ _).alloc (Nat.le_refl _) _
 have own0 : OS tS 26 W0 (Iv w.heap.size W0.heap.size) (.slice (some ⟨w.heap.size, 0, none⟩) 0 0) [] := by rw [hW0]; exact OS.made0 tS 26 w
 have s0 := h.below B0 hbw
 have HW0 := Lib.hid hW0
 clear hW0
 go_enter Tryz.func80, Tryz.ntmps80
 go_wp2_with fail
 rw [← HW0.out]
 refine (za4 b lo A n c code K 2 _ s0 (by omega) (by omega)).mono ?_
 rintro e w1 ⟨k, rfl, hk, s1, m1⟩
 have l01 := B0.size
 have own1 := (own0.mid m1 (.inr (by omega)) (Nat.le_refl _)).iv (Nat.le_refl _) m1.size
 have M1 : Mid b (b + 1) w w1 := (Mid.of_below B0 _ _).trans m1
 obtain ⟨k, rfl⟩ : ∃ q : Nat, k = q := ⟨k.toNat, by omega⟩
 obtain ⟨m, hm⟩ : ∃ m : Nat, m = 1 + k := ⟨_, rfl⟩
 have hm2 : 1 ≤ m ∧ m ≤ 2 := by omega
 have HM := Lib.hid (show 1 + (k : Int) = (m : Int) by omega)
 have hk1 : k ≤ 1 := by omega
 have hs1 : w.heap.size ≤ w1.heap.size := Nat.le_trans l01 m1.size
 clear hm hk s0 own0 m1
 go_wp2_with fail
 rw [HM.out]
 clear hk1
 go_loopw [3, 4] (fun v i wr => ∃ (j : Nat) (T : List (List Int)) (v0 : Value), v = v0 ∧ i = .int .i64 j ∧ j ≤ m ∧ T.length ≤ m ∧ Hid (T.length + j = m) ∧ Hid (∀ x ∈ T, zcg x = true ∧ x.length ≤ 8) ∧ OS tS 26 wr (Iv w.heap.size wr.heap.size) v0 T ∧ Src wr b lo A n c code (K + 2 + 52 * (m - j)) ∧ Mid b (b + 1) w wr ∧ w.heap.size ≤ wr.heap.size)
  (fun _ i _ => (intOf i).toNat)
 case atStart => exact ⟨m, [], _, rfl, rfl, by omega, by simp, Lib.hid (by simp), Lib.hid (fun x hx => by simp at hx), own1, s1.more (by omega), M1, hs1⟩
 case round =>
  clear own1 s1 M1 hs1
  obtain ⟨j, T, v0, rfl, rfl, hj, hTm, hTj, hT, own, s, mr, hsz⟩ := hrel
  obtain ⟨A1, c1, hv⟩ := own.shape
  subst hv
  by_cases hlt : 0 < j
  · have hlti : (0 : Int) < (j : Int) := by omega
    obtain ⟨X0, hX0⟩ : ∃ W, W = wr.alloc (.cells #[] 2) := ⟨_, rfl⟩
    have bX : Below wr.heap.size wr X0 := by rw [hX0]; exact (Below.refl _ _).alloc (Nat.le_refl _) _
    have ownX : OS tI 2 X0 (Iv wr.heap.size X0.heap.size) (.slice (some ⟨wr.heap.size, 0, none⟩) 0 0) [] := by rw [hX0]; exact OS.made0 tI 2 wr
    have zX : X0.heap.size = wr.heap.size + 1 := by rw [hX0]; simp
    have sX := s.below bX (by omega)
    have SA0 := zdt [2, 4, 8, 4] #[.int .i64 2, .int .i64 4, .int .i64 8, .int .i64 4] 4 rfl rfl (by omega) b lo A n c code _ X0 sX (by omega)
    rw [zX] at SA0
    have SA := Lib.hid SA0
    have HX0 := Lib.hid hX0
    clear SA0 hX0
    go_wp2_with fail
    rw [← HX0.out]
    refine SA.out.mono ?_
    rintro e x1 ⟨u, rfl, hu, s2, m2⟩
    have hu2 : Hid (u = 2 ∨ u = 4 ∨ u = 8) := Lib.hid (by simp only [List.mem_cons, List.not_mem_nil, or_false] at hu; omega)
    obtain ⟨u, rfl⟩ : ∃ q : Nat, u = q := ⟨u.toNat, by have := hu2.out; omega⟩
    have hu8 : u ≤ 8 := by have := hu2.out; omega
    have ownx := (ownX.mid m2 (.inr (by omega)) (Nat.le_refl _)).iv (Nat.le_refl _) m2.size
    have MX : Mid b (b + 1) wr x1 := (Mid.of_below bX _ _).trans m2
    have lx : wr.heap.size ≤ x1.heap.size := MX.size
    clear hu ownX bX zX sX m2
    go_wp2_with fail
    obtain ⟨wo, rfl⟩ : ∃ wo : World, wo = wr := ⟨_, rfl⟩
    go_loopw [5, 6] (fun v i wr => ∃ (q : Nat) (xs : List Int) (v1 : Value), v = v1 ∧ i = .int .i64 q ∧ q ≤ u ∧ xs.length ≤ u ∧ Hid (xs.length + q = u) ∧ Hid (∀ x ∈ xs, M.smp x = true) ∧ OS tI 2 wr (Iv wo.heap.size wr.heap.size) v1 xs ∧ Src wr b lo A n c code (K + 2 + 52 * (m - j) + 2 + 6 * (u - q)) ∧ Mid b (b + 1) wo wr ∧ wo.heap.size ≤ wr.heap.size)
     (fun _ i _ => (intOf i).toNat)
    case atStart => exact ⟨u, [], _, rfl, rfl, by omega, by simp, Lib.hid (by simp), Lib.hid (fun x hx => by simp at hx), ownx, s2.more (by omega), MX, lx⟩
    case round =>
     clear ownx s2 MX lx
     obtain ⟨q, xs, v1, rfl, rfl, hq, hxu, hxq, hxs, ownr, sr, mx, hsx⟩ := hrel
     obtain ⟨A2, c2, hv⟩ := ownr.shape
     subst hv
     by_cases hlt2 : 0 < q
     · have hlti2 : (0 : Int) < (q : Int) := by omega
       go_wp2_with fail
       refine (zeo b lo A n c code _ wr sr (by omega)).mono ?_
       rintro e w4 ⟨y, rfl, ⟨y0, y1⟩, s4, m4⟩
       have own4 := ownr.mid m4 (.inr (by omega)) (Nat.le_refl _)
       have hs4 := m4.size
       have hb4 := s4.lt
       go_wp2_with (at_builtin; refine zaz (t := tI) zbl #[.int .i64 y] rfl _ _ rfl own4 (Fe := fun _ => False) (y := y) rfl (fun _ _ h => h) rfl rfl (by unfold maxLen; omega) (by omega) ?_; intro v5 w5 own5 ch5)
       go_roundw
       case rel =>
        have hs5 := ch5.size
        have hB5 : Below wo.heap.size w4 w5 := ch5.toBelow (fun b hb => hb.1) (by omega)
        refine ⟨q - 1, xs ++ [y], _, rfl, by go_num, by omega, by have := hxq.out; simp; omega, Lib.hid (by have := hxq.out; simp; omega), Lib.hid ?_, own5.wide ?_, (s4.below hB5 (by omega)).more (by omega), (mx.trans m4).thenB hB5, by omega⟩
        · intro z hz
          rcases List.mem_append.1 hz with h | h
          · exact hxs.out z h
          · simp only [List.mem_singleton] at h
            subst h
            exact zkm y0 y1
        · intro z hz
          rcases hz with hz | hz | hz
          · unfold Iv at *; omega
          · exact hz.elim
          · unfold Iv; omega
       case measure => simp [intOf]; omega
     · obtain rfl : q = 0 := by omega
       have own2 := own.mid mx (.inr (by omega)) (Nat.le_refl _)
       have hxl := hxq.out
       go_wp2_with (at_builtin; refine zaz (t := tS) zid #[.slice A2 xs.length c2] rfl _ _ rfl own2 (Fe := Iv wo.heap.size wr.heap.size) (y := xs) (sl_O.2 ownr) (fun z h1 h2 => by have a1 : z < wo.heap.size := h1.2; have a2 : wo.heap.size ≤ z := h2.1; omega) rfl rfl (by unfold maxLen; omega) (by omega) ?_; intro v6 w6 own6 ch6)
       go_roundw
       case rel =>
        have hs6 := ch6.size
        have hB6 : Below w.heap.size wr w6 := ch6.toBelow (fun z hz => hz.1) (by omega)
        refine ⟨j - 1, T ++ [xs], _, rfl, by go_num, by omega, by have := hTj.out; simp; omega, Lib.hid (by have := hTj.out; simp; omega), Lib.hid ?_, own6.wide ?_, (sr.below hB6 hbw).more (by omega), (mr.trans mx).thenB hB6, by omega⟩
        · intro z hz
          rcases List.mem_append.1 hz with h | h
          · exact hT.out z h
          · simp only [List.mem_singleton] at h
            subst h
            refine ⟨?_, by omega⟩
            rw [zcg, Bool.and_eq_true]
            refine ⟨?_, List.all_eq_true.2 hxs.out⟩
            have := hu2.out
            simp only [Bool.or_eq_true, decide_eq_true_eq]
            omega
        · intro z hz
          rcases hz with hz | hz | hz
          · unfold Iv at *; omega
          · unfold Iv at *; omega
          · unfold Iv; omega
       case measure => simp [intOf]; omega
  · obtain rfl : j = 0 := by omega
    have hl := hTj.out
    go_wp2
    go_ret
    refine ⟨_, _, T, rfl, own, Lib.hid ?_, by omega, by omega, Lib.hid (fun x hx => (hT.out x hx).2), s.more (by omega), mr⟩
    rw [zbj, Bool.and_eq_true, List.all_eq_true]
    exact ⟨fun x hx => (hT.out x hx).1, by simp; omega⟩
end
section
open Go.RowKit
end
section
open Go.RowKit
end
section
open Go.RowKit
end
section
open Go.RowKit
end
section
open Go.RowKit
end
section
open Go.RowKit
end
section
open Go.RowKit
def zu9 (xs : List (Int × Int)) (a : Int) : Prop := (∀ p ∈ xs, 0 ≤ p.1 ∧ p.1 < a ∧ -65536 ≤ p.2 ∧ p.2 ≤ 65536) ∧ xs.Pairwise (fun p q => p.1 < q.1)
end
section
open Go.RowKit
structure DL (w : World) (b lo : Nat) (A : Option Addr) (n c : Nat) (code : List UInt8) (K : Nat) (xs : List Int) (v : Value) (wr : World) : Prop where
 own : OS tI 2 wr (Iv w.heap.size wr.heap.size) v xs
 src : Src wr b lo A n c code K
 mid : Mid b (b + 1) w wr
 sz : w.heap.size + 1 ≤ wr.heap.size
theorem DL.step {w wr w' : World} {b lo : Nat} {A : Option Addr} {n c : Nat} {code : List UInt8} {K K' : Nat} {xs : List Int} {v : Value} (h : DL w b lo A n c code K xs v wr) (hb : b < w.heap.size) (hs : Src w' b lo A n c code K') (hm : Mid b (b + 1) wr w') : DL w b lo A n c code K' xs v w' :=
 have hz := h.sz
 ⟨(h.own.mid hm (.inr (by omega)) (Nat.le_refl _)).iv (Nat.le_refl _) hm.size, hs, h.mid.trans hm, Nat.le_trans hz hm.size⟩
theorem DL.more {w wr : World} {b lo : Nat} {A : Option Addr} {n c : Nat} {code : List UInt8} {K K' : Nat} {xs : List Int} {v : Value} (h : DL w b lo A n c code K xs v wr) (hK : K ≤ K') : DL w b lo A n c code K' xs v wr :=
 ⟨h.own, h.src.more hK, h.mid, h.sz⟩
theorem zpb {x : Int} (h0 : -2147483648 ≤ x) (h1 : x ≤ 2147483647) : M.smp x = true := by simp [M.smp, M.inn]; omega
end
section
open Go.RowKit
theorem OA.cap {α : Type} {enc : α → List Value} {e : TypeId} {s lo hi n c : Nat} {w : World} {A : Option Addr} {xs : List α} (h : OA enc e s lo hi w (.slice A n c) xs) : n ≤ c ∧ c ≤ maxLen := by
 obtain ⟨A', c', hv, h1, h2, _⟩ := zbr h.1
 simp only [Value.slice.injEq] at hv
 obtain ⟨rfl, rfl, rfl⟩ := hv
 exact ⟨h1, h2⟩
end
section
open Go.RowKit
theorem zin (a b : Int) (w : World) : Calls Tryz.prog 59 #[.int .i64 a, .int .i64 b] w fun e w' => e = .returned (.int .i64 (max a b)) ∧ w = w' := by
 by_cases h : b < a
 all_goals
  go_enter Tryz.func59, Tryz.ntmps59
  go_wp2
  go_ret
  exact ⟨zbv (by omega), rfl⟩
def zbt (xs ys : List Int) (g : Int) : List Int := (List.range (max xs.length ys.length)).map fun (i : Nat) => wrap32 (M.at_ xs (i : Int) + M.at_ ys (i : Int) * g)
theorem zdu (xs ys : List Int) (g : Int) : (zbt xs ys g).length = max xs.length ys.length := by simp [zbt]
theorem zpc {xs ys : List Int} {g : Int} {i : Nat} (h : i < max xs.length ys.length) : (zbt xs ys g)[i]? = some (wrap32 (M.at_ xs (i : Int) + M.at_ ys (i : Int) * g)) := by simp [zbt, h]
theorem zpd (A : Option Addr) (n c : Nat) (xs : List Clip) (w : World) (hx : RA cl 5 w w.heap.size A n xs) (hn : n ≤ 1000000000) :
 Calls Tryz.prog 103 #[.agg #[.slice A n c]] w fun e w' => e = .returned (.bool (zau xs)) ∧ Below w.heap.size w w' := by
 have B0 : Below w.heap.size w (w.alloc (.cells #[.slice A n c] 42)) := (Below.refl _ _).alloc (Nat.le_refl _) _
 have hself := zjm w (.slice A n c) 42
 go_enter Tryz.func103, Tryz.ntmps103
 go_wp2_with fail
 refine (zjp _ _ _ _ _ _ hself (hx.later B0) hn).mono ?_
 rintro e w2 ⟨rfl, b2⟩
 go_wp2
 go_ret
 exact ⟨rfl, zaa B0 b2⟩
end
section
open Go.RowKit Go.Sort
def zdv (lin : Bool) : List Int := if lin then [1, 3, 4, 5, 6, 7, 8, 17, 1, 5, 6] else [1, 2, 3, 4, 5, 6, 7, 8, 9, 10, 11, 12, 13, 14, 15, 16, 17, 1, 3, 6]
def zgg (lin : Bool) : Nat := if lin then 11 else 20
theorem zpe (lin : Bool) : (zdv lin).length = zgg lin := by cases lin <;> rfl
theorem zkn {lin : Bool} {k : Int} (h : k ∈ zdv lin) : (1 ≤ k ∧ k ≤ 17) ∧ (lin = true → zdb k = true) := by
 cases lin
 · simp only [zdv, List.mem_cons, List.not_mem_nil, or_false, if_false, Bool.false_eq_true] at h
   exact ⟨by omega, fun e => by cases e⟩
 · simp only [zdv, List.mem_cons, List.not_mem_nil, or_false, if_true] at h
   refine ⟨by omega, fun _ => ?_⟩
   rcases h with rfl | rfl | rfl | rfl | rfl | rfl | rfl | rfl | rfl | rfl | rfl <;> rfl
theorem zpf (lin : Bool) (w : World) : Calls Tryz.prog 81 #[.bool lin] w fun e w' => e = .returned (.slice (some ⟨w.heap.size, 0, none⟩) (zgg lin) (zgg lin)) ∧ Hid (∀ j x, (zdv lin)[j]? = some x → w'.cell? ⟨w.heap.size, j, none⟩ = some (.int .i64 x)) ∧ Below w.heap.size w w' ∧ w.heap.size < w'.heap.size := by
 have key : ∀ (xs : List Int) (us : Array Value), us.toList = xs.map (.int .i64) → ∀ j x, xs[j]? = some x → (w.alloc (.cells us 2)).cell? ⟨w.heap.size, j, none⟩ = some (.int .i64 x) := fun xs us hus j x hx => by
  rw [cell_of_row _ w.heap.size j _ 2 (0, 0) (heap_alloc_new w _)]
  have : us.toList[j]? = some (.int .i64 x) := by rw [hus, List.getElem?_map, hx]; rfl
  simpa using this
 have KEY := Lib.hid key
 clear key
 cases lin
 · go_enter Tryz.func81, Tryz.ntmps81
   go_wp2
   go_ret
   exact ⟨rfl, Lib.hid (KEY.out (zdv false) _ rfl), (Below.refl _ _).alloc (Nat.le_refl _) _, by simp⟩
 · go_enter Tryz.func81, Tryz.ntmps81
   go_wp2
   go_ret
   exact ⟨rfl, Lib.hid (KEY.out (zdv true) _ rfl), (Below.refl _ _).alloc (Nat.le_refl _) _, by simp⟩
structure FD (w0 g : Nat) (FT FN FO : Nat → Prop) : Prop where
 t : ∀ z, FT z → w0 < z ∧ z ≠ g
 n : ∀ z, FN z → w0 < z ∧ z ≠ g
 o : ∀ z, FO z → w0 < z ∧ z ≠ g
 tn : ∀ z, FT z → ¬ FN z
 tq : ∀ z, FT z → ¬ FO z
 nq : ∀ z, FN z → ¬ FO z
structure DP (w : World) (b lo : Nat) (A : Option Addr) (n c : Nat) (code : List UInt8) (g K : Nat) (i : Int) (vT vN vO : Value) (T : List (List Int)) (ns : List Node) (os : List Int) (FT FN FO : Nat → Prop) (wr : World) : Prop where
 e : ∀ j, j < 4 → wr.cell? ⟨w.heap.size, j, none⟩ = some (if j = 0 then .int .i64 0 else .slice none 0 0) ∧ wr.frozen? ⟨w.heap.size, j, none⟩ = false
 p0 : wr.cell? ⟨g, 0, none⟩ = some (.int .i64 i)
 p1 : wr.cell? ⟨g, 1, none⟩ = some vT
 p2 : wr.cell? ⟨g, 2, none⟩ = some vN
 p3 : wr.cell? ⟨g, 3, none⟩ = some vO
 q : ∀ j, j < 4 → wr.frozen? ⟨g, j, none⟩ = false
 oT : OS tS 26 wr FT vT T
 oN : OS tN 122 wr FN vN ns
 oO : OS tI 2 wr FO vO os
 fd : FD w.heap.size g FT FN FO
 src : Src wr b lo A n c code K
 mid : Mid b (b + 1) w wr
 sz : g < wr.heap.size
 lo : w.heap.size < g
section
variable {w wr w' w4 : World} {b lo : Nat} {A : Option Addr} {n c : Nat} {code : List UInt8} {g K K' : Nat} {i : Int} {vT vN vO vT' vN' vO' : Value} {T T' : List (List Int)} {ns ns' : List Node} {os os' : List Int} {FT FN FO FT' FN' FO' : Nat → Prop}
theorem DP.step (h : DP w b lo A n c code g K i vT vN vO T ns os FT FN FO wr) (hb : b < w.heap.size) (hs : Src w' b lo A n c code K') (hm : Mid b (b + 1) wr w') : DP w b lo A n c code g K' i vT vN vO T ns os FT FN FO w' := by
 have hz := h.sz
 have hl := h.lo
 have h1 : w.heap.size < wr.heap.size := by omega
 have h2 : b < g := by omega
 have cG : ∀ {o u}, wr.cell? ⟨g, o, none⟩ = u → w'.cell? ⟨g, o, none⟩ = u := fun h3 => hm.cellK hz (.inr h2) h3
 exact ⟨fun j hj => ⟨hm.cellK h1 (.inr hb) (h.e j hj).1, hm.frozK h1 (.inr hb) (h.e j hj).2⟩, cG h.p0, cG h.p1, cG h.p2, cG h.p3, fun j hj => hm.frozK hz (.inr h2) (h.q j hj),
  h.oT.chg (Chg.of_mid hm) (fun z h1 h2 => by have := (h.fd.t z h1).1; omega), h.oN.chg (Chg.of_mid hm) (fun z h1 h2 => by have := (h.fd.n z h1).1; omega), h.oO.chg (Chg.of_mid hm) (fun z h1 h2 => by have := (h.fd.o z h1).1; omega),
  h.fd, hs, h.mid.trans hm, Nat.lt_of_lt_of_le hz hm.size, hl⟩
theorem DP.more (h : DP w b lo A n c code g K i vT vN vO T ns os FT FN FO wr) (hK : K ≤ K') : DP w b lo A n c code g K' i vT vN vO T ns os FT FN FO wr :=
 ⟨h.e, h.p0, h.p1, h.p2, h.p3, h.q, h.oT, h.oN, h.oO, h.fd, h.src.more hK, h.mid, h.sz, h.lo⟩
theorem DP.turn (h : DP w b lo A n c code g K i vT vN vO T ns os FT FN FO wr) (hb : b < w.heap.size) {F : Nat → Prop} (hF : ∀ z, F z → w.heap.size < z ∧ z ≠ g) (hc : Chg F wr w4) :
 (∀ j, j < 4 → w4.cell? ⟨w.heap.size, j, none⟩ = some (if j = 0 then .int .i64 0 else .slice none 0 0) ∧ w4.frozen? ⟨w.heap.size, j, none⟩ = false) ∧ (∀ o u, wr.cell? ⟨g, o, none⟩ = u → w4.cell? ⟨g, o, none⟩ = u) ∧ (∀ j, j < 4 → w4.frozen? ⟨g, j, none⟩ = false) ∧ Src w4 b lo A n c code K ∧ Mid b (b + 1) w w4 ∧ g < w4.heap.size := by
 have hz := h.sz
 have hl := h.lo
 have hs4 : wr.heap.size ≤ w4.heap.size := hc.size
 have MB : Below w.heap.size wr w4 := hc.toBelow (fun z h => by have := hF z h; omega) (by omega)
 refine ⟨fun j hj => ⟨?_, ?_⟩, fun o u hu => ?_, fun j hj => ?_, h.src.below MB hb, h.mid.thenB' MB (Nat.le_refl _), by omega⟩
 · rw [hc.cell1 (show w.heap.size < _ by omega) (fun h => absurd (show w.heap.size < w.heap.size from (hF _ h).1) (by omega))]; exact (h.e j hj).1
 · rw [hc.frozen1 (show w.heap.size < _ by omega) (fun h => absurd (show w.heap.size < w.heap.size from (hF _ h).1) (by omega))]; exact (h.e j hj).2
 · rw [hc.cell1 hz (fun h => (hF _ h).2 rfl)]; exact hu
 · rw [hc.frozen1 hz (fun h => (hF _ h).2 rfl)]; exact h.q j hj
theorem DP.inN (h : DP w b lo A n c code g K i vT vN vO T ns os FT FN FO wr) (hb : b < w.heap.size) (hc : Chg FN wr w4) (oN' : OS tN 122 w4 FN vN ns') : DP w b lo A n c code g K i vT vN vO T ns' os FT FN FO w4 := by
 obtain ⟨h1, h2, h3, h4, h5, h6⟩ := h.turn hb h.fd.n hc
 exact ⟨h1, h2 _ _ h.p0, h2 _ _ h.p1, h2 _ _ h.p2, h2 _ _ h.p3, h3, h.oT.chg hc (fun z a b => h.fd.tn z a b), oN', h.oO.chg hc (fun z a b => h.fd.nq z b a), h.fd, h4, h5, h6, h.lo⟩
theorem DP.pushN (h : DP w b lo A n c code g K i vT vN vO T ns os FT FN FO wr) (hb : b < w.heap.size) (hc : Chg FN wr w4) (oN' : OS tN 122 w4 FN' vN' ns') (fd : FD w.heap.size g FT FN' FO) : DP w b lo A n c code g K i vT vN' vO T ns' os FT FN' FO (w4.setCell ⟨g, 2, none⟩ vN') := by
 obtain ⟨h1, h2, h3, h4, h5, h6⟩ := h.turn hb h.fd.n hc
 have hl := h.lo
 have CB : Chg (fun z => z = g) w4 (w4.setCell ⟨g, 2, none⟩ vN') := Chg.set w4 g 2 _ rfl
 have MB : Below w.heap.size w4 (w4.setCell ⟨g, 2, none⟩ vN') := CB.toBelow (fun z h => by omega) (by omega)
 refine ⟨fun j hj => ⟨?_, (World.frozen?_setCell _ _ _ _).trans (h1 j hj).2⟩, (zae w4 g _ (by decide)).trans (h2 _ _ h.p0), (zae w4 g _ (by decide)).trans (h2 _ _ h.p1), World.cell?_setCell_same _ _ _ (h2 _ _ h.p2), (zae w4 g _ (by decide)).trans (h2 _ _ h.p3), fun j hj => (World.frozen?_setCell _ _ _ _).trans (h3 j hj),
  (h.oT.chg hc (fun z a b => h.fd.tn z a b)).chg CB (fun z a b => (h.fd.t z a).2 b), oN'.chg CB (fun z a b => (fd.n z a).2 b), (h.oO.chg hc (fun z a b => h.fd.nq z b a)).chg CB (fun z a b => (h.fd.o z a).2 b), fd, h4.below MB hb, h5.thenB' MB (by have := h.mid.size; omega), by simpa using h6, hl⟩
 rw [World.cell?_of_block (heap_setCell_other w4 ⟨g, 2, none⟩ w.heap.size _ (by show w.heap.size ≠ g; omega))]; exact (h1 j hj).1
theorem DP.pushO (h : DP w b lo A n c code g K i vT vN vO T ns os FT FN FO wr) (hb : b < w.heap.size) (hc : Chg FO wr w4) (oO' : OS tI 2 w4 FO' vO' os') (fd : FD w.heap.size g FT FN FO') : DP w b lo A n c code g K i vT vN vO' T ns os' FT FN FO' (w4.setCell ⟨g, 3, none⟩ vO') := by
 obtain ⟨h1, h2, h3, h4, h5, h6⟩ := h.turn hb h.fd.o hc
 have hl := h.lo
 have CB : Chg (fun z => z = g) w4 (w4.setCell ⟨g, 3, none⟩ vO') := Chg.set w4 g 3 _ rfl
 have MB : Below w.heap.size w4 (w4.setCell ⟨g, 3, none⟩ vO') := CB.toBelow (fun z h => by omega) (by omega)
 refine ⟨fun j hj => ⟨?_, (World.frozen?_setCell _ _ _ _).trans (h1 j hj).2⟩, (zae w4 g _ (by decide)).trans (h2 _ _ h.p0), (zae w4 g _ (by decide)).trans (h2 _ _ h.p1), (zae w4 g _ (by decide)).trans (h2 _ _ h.p2), World.cell?_setCell_same _ _ _ (h2 _ _ h.p3), fun j hj => (World.frozen?_setCell _ _ _ _).trans (h3 j hj),
  (h.oT.chg hc (fun z a b => h.fd.tq z a b)).chg CB (fun z a b => (h.fd.t z a).2 b), (h.oN.chg hc (fun z a b => h.fd.nq z a b)).chg CB (fun z a b => (h.fd.n z a).2 b), oO'.chg CB (fun z a b => (fd.o z a).2 b), fd, h4.below MB hb, h5.thenB' MB (by have := h.mid.size; omega), by simpa using h6, hl⟩
 rw [World.cell?_of_block (heap_setCell_other w4 ⟨g, 3, none⟩ w.heap.size _ (by show w.heap.size ≠ g; omega))]; exact (h1 j hj).1
theorem DP.setT (h : DP w b lo A n c code g K i vT vN vO T ns os FT FN FO wr) (hb : b < w.heap.size) (oT' : OS tS 26 wr FT' vT' T') (fd : FD w.heap.size g FT' FN FO) : DP w b lo A n c code g K i vT' vN vO T' ns os FT' FN FO (wr.setCell ⟨g, 1, none⟩ vT') := by
 have hl := h.lo
 have hz := h.sz
 have CB : Chg (fun z => z = g) wr (wr.setCell ⟨g, 1, none⟩ vT') := Chg.set wr g 1 _ rfl
 have MB : Below w.heap.size wr (wr.setCell ⟨g, 1, none⟩ vT') := CB.toBelow (fun z h => by omega) (by omega)
 refine ⟨fun j hj => ⟨?_, (World.frozen?_setCell _ _ _ _).trans (h.e j hj).2⟩, (zae wr g _ (by decide)).trans h.p0, World.cell?_setCell_same _ _ _ h.p1, (zae wr g _ (by decide)).trans h.p2, (zae wr g _ (by decide)).trans h.p3, fun j hj => (World.frozen?_setCell _ _ _ _).trans (h.q j hj),
  oT'.chg CB (fun z a b => (fd.t z a).2 b), h.oN.chg CB (fun z a b => (h.fd.n z a).2 b), h.oO.chg CB (fun z a b => (h.fd.o z a).2 b), fd, h.src.below MB hb, h.mid.thenB' MB (Nat.le_refl _), by simpa using hz, hl⟩
 rw [World.cell?_of_block (heap_setCell_other wr ⟨g, 1, none⟩ w.heap.size _ (by show w.heap.size ≠ g; omega))]; exact (h.e j hj).1
end
def zhd (b lo : Nat) (A : Option Addr) (n c : Nat) (code : List UInt8) (K : Nat) (P : zaf → Prop) (w : World) (e : Ending) (w' : World) : Prop :=
 ∃ i A1 n1 c1 A2 n2 c2 A3 n3 c3 x, e = .returned (.agg #[.int .i64 i, .slice A1 n1 c1, .slice A2 n2 c2, .slice A3 n3 c3]) ∧ tP.O w' (Iv w.heap.size w'.heap.size) [.int .i64 i, .slice A1 n1 c1, .slice A2 n2 c2, .slice A3 n3 c3] x ∧ Hid (P x) ∧ Src w' b lo A n c code K ∧ Mid b (b + 1) w w'
theorem DP.fin {w wr : World} {b lo : Nat} {A : Option Addr} {n c : Nat} {code : List UInt8} {g K : Nat} {i : Int} {A1 A2 A3 : Option Addr} {n1 c1 n2 c2 n3 c3 : Nat} {T : List (List Int)} {ns : List Node} {os : List Int} {FT FN FO : Nat → Prop}
 (h : DP w b lo A n c code g K i (.slice A1 n1 c1) (.slice A2 n2 c2) (.slice A3 n3 c3) T ns os FT FN FO wr) (hb : b < w.heap.size) {P : zaf → Prop} (hP : P (i, T, ns, os)) :
 zhd b lo A n c code K P w (.returned (.agg #[.int .i64 i, .slice A1 n1 c1, .slice A2 n2 c2, .slice A3 n3 c3])) ((((wr.setCell ⟨w.heap.size, 0, none⟩ (.int .i64 i)).setCell ⟨w.heap.size, 1, none⟩ (.slice A1 n1 c1)).setCell ⟨w.heap.size, 2, none⟩ (.slice A2 n2 c2)).setCell ⟨w.heap.size, 3, none⟩ (.slice A3 n3 c3)) := by
 have hz := h.sz
 have hl := h.lo
 have st : ∀ (u : World) (o : Nat) (x : Value), Chg (fun z => z = w.heap.size) u (u.setCell ⟨w.heap.size, o, none⟩ x) := fun u o x => Chg.set u w.heap.size o _ rfl
 have CH := (((st wr 0 (.int .i64 i)).trans (st _ 1 (.slice A1 n1 c1))).trans (st _ 2 (.slice A2 n2 c2))).trans (st _ 3 (.slice A3 n3 c3))
 have MB := CH.toBelow (B := w.heap.size) (fun z h => by omega) (by omega)
 have hs := CH.size
 refine ⟨i, A1, n1, c1, A2, n2, c2, A3, n3, c3, (i, T, ns, os), rfl, ?_, Lib.hid hP, h.src.below MB hb, h.mid.thenB' MB (Nat.le_refl _)⟩
 have wd : ∀ {F : Nat → Prop}, (∀ z, F z → w.heap.size < z ∧ z ≠ g) → ∀ z, (F z ∧ z < wr.heap.size) → w.heap.size ≤ z ∧ z < _ := fun hF z h1 => ⟨Nat.le_of_lt (hF z h1.1).1, Nat.lt_of_lt_of_le h1.2 hs⟩
 exact tP_O.2 ⟨A1, n1, c1, A2, n2, c2, A3, n3, c3, _, _, _, rfl, sl_O.2 (h.oT.real.chg CH (fun z h1 h2 => by have := (h.fd.t z h1.1).1; omega)), sl_O.2 (h.oN.real.chg CH (fun z h1 h2 => by have := (h.fd.n z h1.1).1; omega)), sl_O.2 (h.oO.real.chg CH (fun z h1 h2 => by have := (h.fd.o z h1.1).1; omega)),
  wd h.fd.t, wd h.fd.n, wd h.fd.o, fun z a b => h.fd.tn z a.1 b.1, fun z a b => h.fd.tq z a.1 b.1, fun z a b => h.fd.nq z a.1 b.1⟩
end
section
open Go.RowKit Go.Sort
structure NB (w : World) (b lo : Nat) (A : Option Addr) (n c : Nat) (code : List UInt8) (g K : Nat) (k a bb : Int) (v : Value) (xs : List Int) (wr : World) : Prop where
 d : DN w b lo A n c code g K k a bb v xs wr
 q0 : wr.frozen? ⟨g, 0, none⟩ = false
 q1 : wr.frozen? ⟨g, 1, none⟩ = false
section
variable {w wr w' : World} {b lo : Nat} {A : Option Addr} {n c : Nat} {code : List UInt8} {g K K' : Nat} {k a bb : Int} {v : Value} {xs : List Int}
theorem NB.step (h : NB w b lo A n c code g K k a bb v xs wr) (hb : b < w.heap.size) (hs : Src w' b lo A n c code K') (hm : Mid b (b + 1) wr w') : NB w b lo A n c code g K' k a bb v xs w' := by
 have hz := h.d.sz
 have hl := h.d.lo
 exact ⟨h.d.step hb hs hm, hm.frozK hz (.inr (by omega)) h.q0, hm.frozK hz (.inr (by omega)) h.q1⟩
theorem DN.off {w4 : World} {o : Nat} {u : Value} {k' a' b' : Int} (h : DN w b lo A n c code g K k a bb v xs wr) (hb : b < w.heap.size) (hw : w4 = wr.setCell ⟨g, o, none⟩ u) (p0 : w4.cell? ⟨g, 0, none⟩ = some (.int .i64 k')) (p1 : w4.cell? ⟨g, 1, none⟩ = some (.int .i64 a')) (p2 : w4.cell? ⟨g, 2, none⟩ = some (.int .i64 b')) (p3 : w4.cell? ⟨g, 3, none⟩ = some v) : DN w b lo A n c code g K k' a' b' v xs w4 := by
 have hz := h.sz
 have hl := h.lo
 subst hw
 have cW : ∀ o' u', wr.cell? ⟨w.heap.size, o', none⟩ = u' → (wr.setCell ⟨g, o, none⟩ u).cell? ⟨w.heap.size, o', none⟩ = u' := fun o' u' hu => by
  rw [World.cell?_of_block (heap_setCell_other wr ⟨g, o, none⟩ w.heap.size _ (by show w.heap.size ≠ g; omega))]; exact hu
 have CB : Chg (fun z => z = g) wr (wr.setCell ⟨g, o, none⟩ u) := Chg.set wr g o _ rfl
 have MB : Below w.heap.size wr (wr.setCell ⟨g, o, none⟩ u) := CB.toBelow (fun z h => by omega) (by omega)
 exact ⟨cW _ _ h.e0, cW _ _ h.e1, cW _ _ h.e2, cW _ _ h.e3, (World.frozen?_setCell _ _ _ _).trans h.f0, (World.frozen?_setCell _ _ _ _).trans h.f1, (World.frozen?_setCell _ _ _ _).trans h.f2, (World.frozen?_setCell _ _ _ _).trans h.f3,
  p0, p1, p2, p3, (World.frozen?_setCell _ _ _ _).trans h.q2, (World.frozen?_setCell _ _ _ _).trans h.q3,
  h.own.chg CB (fun z h1 h2 => h1.2 h2), h.src.below MB hb, h.mid.thenB' MB (Nat.le_refl _), by simpa using hz, hl⟩
theorem NB.set0 (h : NB w b lo A n c code g K k a bb v xs wr) (hb : b < w.heap.size) (y : Int) : NB w b lo A n c code g K y a bb v xs (wr.setCell ⟨g, 0, none⟩ (.int .i64 y)) :=
 ⟨h.d.off hb rfl (World.cell?_setCell_same _ _ _ h.d.p0) ((zae wr g _ (by decide)).trans h.d.p1) ((zae wr g _ (by decide)).trans h.d.p2) ((zae wr g _ (by decide)).trans h.d.p3), (World.frozen?_setCell _ _ _ _).trans h.q0, (World.frozen?_setCell _ _ _ _).trans h.q1⟩
theorem NB.set1 (h : NB w b lo A n c code g K k a bb v xs wr) (hb : b < w.heap.size) (y : Int) : NB w b lo A n c code g K k y bb v xs (wr.setCell ⟨g, 1, none⟩ (.int .i64 y)) :=
 ⟨h.d.off hb rfl ((zae wr g _ (by decide)).trans h.d.p0) (World.cell?_setCell_same _ _ _ h.d.p1) ((zae wr g _ (by decide)).trans h.d.p2) ((zae wr g _ (by decide)).trans h.d.p3), (World.frozen?_setCell _ _ _ _).trans h.q0, (World.frozen?_setCell _ _ _ _).trans h.q1⟩
theorem NB.set2 (h : NB w b lo A n c code g K k a bb v xs wr) (hb : b < w.heap.size) (y : Int) : NB w b lo A n c code g K k a y v xs (wr.setCell ⟨g, 2, none⟩ (.int .i64 y)) :=
 ⟨h.d.off hb rfl ((zae wr g _ (by decide)).trans h.d.p0) ((zae wr g _ (by decide)).trans h.d.p1) (World.cell?_setCell_same _ _ _ h.d.p2) ((zae wr g _ (by decide)).trans h.d.p3), (World.frozen?_setCell _ _ _ _).trans h.q0, (World.frozen?_setCell _ _ _ _).trans h.q1⟩
end
theorem zpg (b lo : Nat) (A : Option Addr) (n c : Nat) (code : List UInt8) (K : Nat) (t : Int) (w : World) (h : Src w b lo A n c code K) (hK : K ≤ 90000) (ht : 0 ≤ t ∧ t ≤ 100) :
 Calls Tryz.prog 96 #[.pointer (some ⟨b, 0, none⟩), .int .i64 t] w (zil b lo A n c code (K + 100) (fun x => x.2.2.2.length ≤ 4) w) := by
 have hbw := h.lt
 obtain ⟨W0, hW0⟩ : ∃ W, W = w.alloc (.cells #[.int .i64 0, .int .i64 0, .int .i64 0, .slice none 0 0] 122) := ⟨_, rfl⟩
 have B0 : Below w.heap.size w W0 := by rw [hW0]; exact (Below.refl _ _).alloc (Nat.le_refl _) _
 have z0 : W0.heap.size = w.heap.size + 1 := by rw [hW0]; simp
 have Q0 : Hid (∀ j, j < 4 → W0.cell? ⟨w.heap.size, j, none⟩ = some (if j = 3 then .slice none 0 0 else .int .i64 0) ∧ W0.frozen? ⟨w.heap.size, j, none⟩ = false) := Lib.hid fun j hj => by
  rw [hW0]
  rcases (show j = 0 ∨ j = 1 ∨ j = 2 ∨ j = 3 by omega) with rfl | rfl | rfl | rfl <;> exact ⟨by simp [go_sem], by simp [go_sem]⟩
 have s0 := h.below B0 hbw
 have HW0 := Lib.hid hW0
 have lz0 : w.heap.size < W0.heap.size := by omega
 clear hW0 z0
 go_enter Tryz.func96, Tryz.ntmps96
 go_wp2_with fail
 rw [← HW0.out]
 refine (za4 b lo A n c code K 17 W0 s0 (by omega) (by omega)).mono ?_
 rintro e x1 ⟨y, rfl, hy, s1, m1⟩
 have hy2 : 1 ≤ 1 + y ∧ 1 + y ≤ 17 := by omega
 obtain ⟨kk, hkk⟩ : ∃ kk, kk = 1 + y := ⟨_, rfl⟩
 have HKK := Lib.hid hkk.symm
 rw [← hkk] at hy2
 have t1 := m1.size
 clear hkk
 go_wp2_with fail
 rw [HKK.out]
 clear hy
 refine (zim b lo A n c code _ kk t 6 x1 s1 (by omega) hy2 ht (by omega)).mono ?_
 rintro e x2 ⟨k, a, bb, A1, n1, c1, xs, rfl, own2, hP, s2, m2⟩
 obtain ⟨A1', c1', e1⟩ := own2.shape
 simp only [Value.slice.injEq] at e1
 obtain ⟨rfl, rfl, rfl⟩ := e1
 have hx3 : xs.length ≤ 3 := by
  have h1 := hP.out.len
  have h2 := (zgf kk hy2).2
  dsimp only at h1
  omega
 have t2 := m2.size
 have m12 := m1.trans m2
 obtain ⟨X3, hX3⟩ : ∃ W, W = x2.alloc (.cells #[.int .i64 k, .int .i64 a, .int .i64 bb, .slice A1 xs.length c1] 122) := ⟨_, rfl⟩
 have B3 : Below x2.heap.size x2 X3 := by rw [hX3]; exact (Below.refl _ _).alloc (Nat.le_refl _) _
 have z3 : x2.heap.size < X3.heap.size := by rw [hX3]; simp
 obtain ⟨g, hg⟩ : ∃ g, g = x2.heap.size := ⟨_, rfl⟩
 have D3 : NB w b lo A n c code g (K + 22) k a bb (.slice A1 xs.length c1) xs X3 := by
  have cP : ∀ j u, (#[Value.int .i64 k, .int .i64 a, .int .i64 bb, .slice A1 xs.length c1] : Array Value)[j]? = some u → X3.cell? ⟨g, j, none⟩ = some u ∧ X3.frozen? ⟨g, j, none⟩ = false := fun j u hj => by
   rw [hX3, hg]
   refine ⟨?_, by simp [go_sem]⟩
   rw [cell_of_row _ x2.heap.size j _ 122 (0, 0) (heap_alloc_new x2 _)]
   exact hj
  have cW : ∀ j, j < 4 → X3.cell? ⟨w.heap.size, j, none⟩ = some (if j = 3 then .slice none 0 0 else .int .i64 0) ∧ X3.frozen? ⟨w.heap.size, j, none⟩ = false := fun j hj => by
   obtain ⟨h1, h2⟩ := Q0.out j hj
   exact ⟨by rw [B3.cell (by show w.heap.size < _; omega)]; exact m12.cellK (by omega) (.inr (by omega)) h1, by rw [B3.frozen (by show w.heap.size < _; omega)]; exact m12.frozK (by omega) (.inr (by omega)) h2⟩
  refine ⟨⟨(cW 0 (by omega)).1, (cW 1 (by omega)).1, (cW 2 (by omega)).1, (cW 3 (by omega)).1, (cW 0 (by omega)).2, (cW 1 (by omega)).2, (cW 2 (by omega)).2, (cW 3 (by omega)).2,
   (cP 0 _ rfl).1, (cP 1 _ rfl).1, (cP 2 _ rfl).1, (cP 3 _ rfl).1, (cP 2 _ rfl).2, (cP 3 _ rfl).2, ?_, (s2.below B3 s2.lt).more (by omega), ((Mid.of_below B0 _ _).trans m12).thenB' B3 (by omega), by omega, by omega⟩, (cP 0 _ rfl).2, (cP 1 _ rfl).2⟩
  exact (own2.below B3 (Nat.le_refl _)).wide (fun z h => ⟨by have h1 : x1.heap.size ≤ z := h.1; omega, by have h1 : z < x2.heap.size := h.2; omega⟩)
 have HX3 := Lib.hid hX3
 have HG := Lib.hid (show x2.heap.size = g from hg.symm)
 have s3 := D3.d.src
 have HD3 := Lib.hid D3
 have lg := D3.d.lo
 clear hX3 hg D3 own2 s0 s1 s2 m1 m2 m12 B3 B0 hP
 go_wp2_with fail
 rw [← HX3.out, HG.out]
 refine (za4 b lo A n c code _ 16 X3 s3 (by omega) (by omega)).mono ?_
 rintro e X4 ⟨q, rfl, hq, s4, m4⟩
 have D4 := HD3.out.step hbw s4 m4
 clear s3 m4 HD3
 rcases (show q = 0 ∨ q = 1 ∨ q = 2 ∨ q = 3 ∨ 4 ≤ q by omega) with rfl | rfl | rfl | rfl | hq4
 · have HD4 := Lib.hid D4
   have SA := Lib.hid (zdt [0, 18, -1] #[.int .i64 0, .int .i64 18, .int .i64 (-1)] 3 rfl rfl (by omega) b lo A n c code _ X4 s4 (by omega))
   clear D4
   go_wp2_with fail
   refine SA.out.mono ?_
   rintro e X5 ⟨y, rfl, hy5, s5, m5⟩
   have D5 := HD4.out.step hbw s5 m5
   have i0 := D5.d.p0
   have i1 := D5.d.p1
   have i2 := D5.d.p2
   have j0 := D5.q0
   have j1 := D5.q1
   have j2 := D5.d.q2
   have D6 := D5.set0 hbw y
   obtain ⟨X6, hX6⟩ : ∃ u, u = X5.setCell ⟨g, 0, none⟩ (.int .i64 y) := ⟨_, rfl⟩
   rw [← hX6] at D6
   have HX6 := Lib.hid hX6
   clear hX6 D5
   have a0 := D6.d.p0
   have a1 := D6.d.p1
   have a2 := D6.d.p2
   have a3 := D6.d.p3
   have r0 := D6.d.e0
   have r1 := D6.d.e1
   have r2 := D6.d.e2
   have r3 := D6.d.e3
   have v0 := D6.d.f0
   have v1 := D6.d.f1
   have v2 := D6.d.f2
   have v3 := D6.d.f3
   have UX := D6.d.sz
   have UL := D6.d.lo
   have hne : g ≠ w.heap.size := by omega
   have hne' : w.heap.size ≠ g := by omega
   have FIN := Lib.hid ((D6.d.more (K' := K + 100) (by omega)).fin hbw (P := fun x => x.2.2.2.length ≤ 4) (by show xs.length ≤ 4; omega))
   clear D6
   go_upto_region 11 with fail
   rw [← HX6.out]
   go_wp2
   refine bodyPost_ret (v := .agg #[.int .i64 y, .int .i64 a, .int .i64 bb, .slice A1 xs.length c1]) (by simp [results, Tryz.results96, go_sem, r0, r1, r2, r3, v0, v1, v2, v3, hne, hne']) rfl ?_
   exact FIN.out
 · have HD4 := Lib.hid D4
   have SA := Lib.hid (zdt [2147483648, 17, 32, -1, 4] #[.int .i64 2147483648, .int .i64 17, .int .i64 32, .int .i64 (-1), .int .i64 4] 5 rfl rfl (by omega) b lo A n c code _ X4 s4 (by omega))
   clear D4
   go_wp2_with fail
   refine SA.out.mono ?_
   rintro e X5 ⟨y, rfl, hy5, s5, m5⟩
   have D5 := HD4.out.step hbw s5 m5
   have i0 := D5.d.p0
   have i1 := D5.d.p1
   have i2 := D5.d.p2
   have j0 := D5.q0
   have j1 := D5.q1
   have j2 := D5.d.q2
   have D6 := D5.set1 hbw y
   obtain ⟨X6, hX6⟩ : ∃ u, u = X5.setCell ⟨g, 1, none⟩ (.int .i64 y) := ⟨_, rfl⟩
   rw [← hX6] at D6
   have HX6 := Lib.hid hX6
   clear hX6 D5
   have a0 := D6.d.p0
   have a1 := D6.d.p1
   have a2 := D6.d.p2
   have a3 := D6.d.p3
   have r0 := D6.d.e0
   have r1 := D6.d.e1
   have r2 := D6.d.e2
   have r3 := D6.d.e3
   have v0 := D6.d.f0
   have v1 := D6.d.f1
   have v2 := D6.d.f2
   have v3 := D6.d.f3
   have UX := D6.d.sz
   have UL := D6.d.lo
   have hne : g ≠ w.heap.size := by omega
   have hne' : w.heap.size ≠ g := by omega
   have FIN := Lib.hid ((D6.d.more (K' := K + 100) (by omega)).fin hbw (P := fun x => x.2.2.2.length ≤ 4) (by show xs.length ≤ 4; omega))
   clear D6
   go_upto_region 11 with fail
   rw [← HX6.out]
   go_wp2
   refine bodyPost_ret (v := .agg #[.int .i64 k, .int .i64 y, .int .i64 bb, .slice A1 xs.length c1]) (by simp [results, Tryz.results96, go_sem, r0, r1, r2, r3, v0, v1, v2, v3, hne, hne']) rfl ?_
   exact FIN.out
 · have HD4 := Lib.hid D4
   have SA := Lib.hid (zdt [0, 1, 16, 17] #[.int .i64 0, .int .i64 1, .int .i64 16, .int .i64 17] 4 rfl rfl (by omega) b lo A n c code _ X4 s4 (by omega))
   clear D4
   go_wp2_with fail
   refine SA.out.mono ?_
   rintro e X5 ⟨y, rfl, hy5, s5, m5⟩
   have D5 := HD4.out.step hbw s5 m5
   have i0 := D5.d.p0
   have i1 := D5.d.p1
   have i2 := D5.d.p2
   have j0 := D5.q0
   have j1 := D5.q1
   have j2 := D5.d.q2
   have D6 := D5.set2 hbw y
   obtain ⟨X6, hX6⟩ : ∃ u, u = X5.setCell ⟨g, 2, none⟩ (.int .i64 y) := ⟨_, rfl⟩
   rw [← hX6] at D6
   have HX6 := Lib.hid hX6
   clear hX6 D5
   have a0 := D6.d.p0
   have a1 := D6.d.p1
   have a2 := D6.d.p2
   have a3 := D6.d.p3
   have r0 := D6.d.e0
   have r1 := D6.d.e1
   have r2 := D6.d.e2
   have r3 := D6.d.e3
   have v0 := D6.d.f0
   have v1 := D6.d.f1
   have v2 := D6.d.f2
   have v3 := D6.d.f3
   have UX := D6.d.sz
   have UL := D6.d.lo
   have hne : g ≠ w.heap.size := by omega
   have hne' : w.heap.size ≠ g := by omega
   have FIN := Lib.hid ((D6.d.more (K' := K + 100) (by omega)).fin hbw (P := fun x => x.2.2.2.length ≤ 4) (by show xs.length ≤ 4; omega))
   clear D6
   go_upto_region 11 with fail
   rw [← HX6.out]
   go_wp2
   refine bodyPost_ret (v := .agg #[.int .i64 k, .int .i64 a, .int .i64 y, .slice A1 xs.length c1]) (by simp [results, Tryz.results96, go_sem, r0, r1, r2, r3, v0, v1, v2, v3, hne, hne']) rfl ?_
   exact FIN.out
 · obtain ⟨U, hU⟩ : ∃ U, U = X4 := ⟨_, rfl⟩
   rw [← hU] at D4 s4 ⊢
   have HD := Lib.hid D4
   have UP3 := D4.d.p3
   have UX := D4.d.sz
   obtain ⟨G, hG⟩ : ∃ G : Nat → Prop, G = fun z => z = b ∨ (w.heap.size < z ∧ z ≠ g) := ⟨_, rfl⟩
   have HG2 := Lib.hid hG
   have GX := Lib.hid (show ¬ G g from fun h => by
    rw [hG] at h
    rcases h with h | h
    · omega
    · exact h.2 rfl)
   have g3 := ChgTo.cell (F := G) UP3 (fun h => GX.out h)
   have bsU := D4.d.src.lt
   clear hU hG
   have SD := Lib.hid (zdt [0, 23, 24, -1] #[.int .i64 0, .int .i64 23, .int .i64 24, .int .i64 (-1)] 4 rfl rfl (by omega) b lo A n c code _ U.drew (D4.d.src.below (zac (Below.refl U.heap.size _) 1) bsU) (by omega))
   clear D4
   go_wp2_with fail
   (refine zcl G [0, 2] [1] 5 (.one 3 (.one 4 (.one 5 (.one 6 (.first 7 .rest))))) [8] [8] (by kernel_rfl) (by kernel_rfl) ?_; simp only [zaj]; simp only [List.filterMap, List.getElem?_cons_succ, List.getElem?_cons_zero]; (repeat (go_big_quiet_step (fail))); refine wpQuiet_nil ?_; (repeat (go_big_quiet_step (fail))); refine wpQuiet_nil ?_)
   refine zai rfl ?_
   go_wp2_with fail
   refine ⟨⟨⟨_, Chg.of_below ((zac (Below.refl U.heap.size _) 1).alloc (Nat.le_refl _) _) _⟩, rfl⟩, zai rfl ?_⟩
   go_wp2_with fail
   refine SD.out.mono ?_
   rintro e x5 ⟨f, rfl, hf, s5, m5⟩
   clear hf
   have m5' : Mid b (b + 1) U x5 := (Mid.of_below (zac (Below.refl U.heap.size _) 1) b (b + 1)).trans m5
   have E5 := HD.out.step hbw s5 m5'
   have lt5 := m5'.size
   have C5 : Chg G U x5 := ⟨m5'.os, m5'.tape, m5'.output, m5'.size, fun i hi hn => m5'.block i hi (by
    rw [HG2.out] at hn
    rcases Nat.lt_or_ge i b with h | h
    · exact .inl h
    · exact .inr (by rcases Nat.lt_or_ge b i with h2 | h2; exact h2; exact absurd (.inl (by omega)) hn))⟩
   have HE5 := Lib.hid E5
   have q3 := E5.d.p3
   have r3 := E5.d.q3
   have o5 := E5.d.own
   have l0 := E5.q0
   have l1 := E5.q1
   clear E5
   go_wp2_with fail
   refine ⟨⟨⟨x5, C5⟩, rfl⟩, zai rfl ?_⟩
   go_wp2_with fail
   refine ⟨⟨⟨_, C5.trans (Chg.of_below ((Below.refl _ _).alloc (Nat.le_refl _) _) _)⟩, rfl⟩, zai rfl ?_⟩
   go_wp2_with (at_builtin; refine zaz zbl #[.int .i64 f] rfl _ _ rfl o5 (Fe := fun _ => False) (y := f) rfl (fun _ _ h => h) rfl rfl (by unfold maxLen; omega) (by omega) ?_; intro v6 w6 own6 ch6; obtain ⟨A6, c6, e6⟩ := own6.shape; rw [List.length_append, List.length_singleton] at e6; subst e6; have q6 : w6.cell? ⟨g, 3, none⟩ = some (.slice A1 xs.length c1) := (by rw [ch6.cell1 (show g < x5.heap.size by omega) (fun h => h.2 rfl)]; exact q3); have r6 : w6.frozen? ⟨g, 3, none⟩ = false := (by rw [ch6.frozen1 (show g < x5.heap.size by omega) (fun h => h.2 rfl)]; exact r3))
   have CG6 : Chg G U w6 := C5.trans (ch6.wide (fun z h => by rw [HG2.out]; exact .inr h))
   refine ⟨⟨⟨w6, CG6⟩, rfl⟩, ?_⟩
   (refine zbf rfl ?_; (repeat (go_big_quiet_step (fail))); refine wpQuiet_nil ?_)
   refine zbg ?_
   have D6' := HE5.out.d.push hbw own6 ch6
   obtain ⟨X6, hX6⟩ : ∃ u, u = w6.setCell ⟨g, 3, none⟩ (.slice A6 (xs.length + 1) c6) := ⟨_, rfl⟩
   rw [← hX6] at D6'
   have k0 : X6.frozen? ⟨g, 0, none⟩ = false := by rw [hX6, World.frozen?_setCell, ch6.frozen1 (show g < x5.heap.size by omega) (fun h => h.2 rfl)]; exact l0
   have k1 : X6.frozen? ⟨g, 1, none⟩ = false := by rw [hX6, World.frozen?_setCell, ch6.frozen1 (show g < x5.heap.size by omega) (fun h => h.2 rfl)]; exact l1
   have D6 : NB w b lo A n c code g _ k a bb (.slice A6 (xs.length + 1) c6) (xs ++ [f]) X6 := ⟨D6', k0, k1⟩
   have HX6 := Lib.hid hX6
   clear hX6 D6' g3 UP3 UX
   have a0 := D6.d.p0
   have a1 := D6.d.p1
   have a2 := D6.d.p2
   have a3 := D6.d.p3
   have r0 := D6.d.e0
   have r1 := D6.d.e1
   have r2 := D6.d.e2
   have r3 := D6.d.e3
   have v0 := D6.d.f0
   have v1 := D6.d.f1
   have v2 := D6.d.f2
   have v3 := D6.d.f3
   have UX := D6.d.sz
   have UL := D6.d.lo
   have hne : g ≠ w.heap.size := by omega
   have hne' : w.heap.size ≠ g := by omega
   have FIN := Lib.hid ((D6.d.more (K' := K + 100) (by omega)).fin hbw (P := fun x => x.2.2.2.length ≤ 4) (by show (xs ++ [f]).length ≤ 4; simp; omega))
   clear D6
   go_upto_region 11 with fail
   rw [← HX6.out]
   go_wp2
   refine bodyPost_ret (v := .agg #[.int .i64 k, .int .i64 a, .int .i64 bb, .slice A6 (xs.length + 1) c6]) (by simp [results, Tryz.results96, go_sem, r0, r1, r2, r3, v0, v1, v2, v3, hne, hne']) rfl ?_
   exact FIN.out
 · have e0 : (q == 0) = false := by simp; omega
   have e1 : (q == 1) = false := by simp; omega
   have e2 : (q == 2) = false := by simp; omega
   have e3 : (q == 3) = false := by simp; omega
   have a0 := D4.d.p0
   have a1 := D4.d.p1
   have a2 := D4.d.p2
   have a3 := D4.d.p3
   have r0 := D4.d.e0
   have r1 := D4.d.e1
   have r2 := D4.d.e2
   have r3 := D4.d.e3
   have v0 := D4.d.f0
   have v1 := D4.d.f1
   have v2 := D4.d.f2
   have v3 := D4.d.f3
   have UX := D4.d.sz
   have UL := D4.d.lo
   have hne : g ≠ w.heap.size := by omega
   have hne' : w.heap.size ≠ g := by omega
   have FIN := Lib.hid ((D4.d.more (K' := K + 100) (by omega)).fin hbw (P := fun x => x.2.2.2.length ≤ 4) (by show xs.length ≤ 4; omega))
   clear D4
   go_wp2
   refine bodyPost_ret (v := .agg #[.int .i64 k, .int .i64 a, .int .i64 bb, .slice A1 xs.length c1]) (by simp [results, Tryz.results96, go_sem, r0, r1, r2, r3, v0, v1, v2, v3, hne, hne']) rfl ?_
   exact FIN.out
end
section
open Go.RowKit Go.Sort
def M.i_ (l : List Int) (j : Nat) : Int := (l[j]?).getD 0
def zar (ns : List Node) (i : Nat) : Node := (ns[i]?).getD (0, 0, 0, [])
def zag (cs : List (List Int)) (i : Nat) : List Int := (cs[i]?).getD []
def zgh (t : List Int) (x : Int) : Int := M.i_ t (((t.length : Int) * (x % 4294967296)) / 4294967296).toNat
def zio (x : Int) : Int := _root_.Go.bits .xor .i64 x 2734686208
def zdw (s : Int) : Int := if s % 2 = 1 then wrap32 (zio (s % 4294967296 / 2)) else wrap32 (s % 4294967296 / 2)
def zan (x : Node) (tb : List (List Int)) (ins s : List Int) : Int :=
 if x.1 = 1 then M.i_ ins 0 else if x.1 = 2 then x.2.1 else if x.1 = 3 then wrap32 (M.i_ ins 0 + M.i_ ins 1) else if x.1 = 4 then wrap32 (M.i_ ins 0 - M.i_ ins 1) else
 if x.1 = 5 then wrap32 (x.2.1 * M.i_ ins 0) else if x.1 = 6 then M.i_ s 0 else if x.1 = 7 then wrap32 (M.i_ s 0 + M.i_ ins 0) else if x.1 = 8 then wrap32 (M.i_ ins 0 - M.i_ s 0) else
 if x.1 = 9 then wrap32 (M.i_ ins 0 * M.i_ ins 1) else if x.1 = 10 then M.i_ ins 0 / 2 ^ x.2.1.toNat else if x.1 = 11 then max (-x.2.1) (min x.2.1 (M.i_ ins 0)) else if x.1 = 12 then M.i_ s 0 else
 if x.1 = 13 then zgh (zag tb x.2.1.toNat) (M.i_ ins 0) else if x.1 = 14 then M.i_ s 0 else if x.1 = 15 then (if 0 ≤ M.i_ ins 0 then M.i_ ins 1 else M.i_ ins 2) else
 if x.1 = 16 then (if 0 < M.i_ ins 1 then M.i_ ins 0 else M.i_ s 0) else wrap32 (M.i_ ins 0 + x.2.1 * M.i_ s 0)
def zaq (x : Node) (ins s : List Int) (out : Int) : List Int :=
 if x.1 = 6 then s.drop 1 ++ [M.i_ ins 0] else if x.1 = 17 then s.drop 1 ++ [out] else if x.1 = 7 then [out] else if x.1 = 16 then [out] else if x.1 = 8 then [M.i_ ins 0] else
 if x.1 = 12 then [wrap32 (M.i_ s 0 + M.i_ ins 0)] else if x.1 = 14 then [zdw (M.i_ s 0)] else []
def zcc (x : Node) : Nat := if x.1 = 6 then x.2.1.toNat else if x.1 = 17 then x.2.2.1.toNat else if x.1 = 7 then 1 else if x.1 = 8 then 1 else if x.1 = 16 then 1 else if x.1 = 12 then 1 else if x.1 = 14 then 1 else 0
def za3 (x : Node) : List Int := if x.1 = 12 then [x.2.1] else if x.1 = 14 then [x.2.1] else List.replicate (zcc x) 0
def za1 (x : Node) (fr vs : List Int) : List Int := if x.1 = 1 then [M.i_ fr x.2.1.toNat] else x.2.2.2.map fun f => M.i_ vs f.toNat
section
variable (ns : List Node) (tb : List (List Int)) (fr O : List Int)
def zam (t : Nat) : Nat := (M.i_ O t).toNat
def zcm (cs : List (List Int)) (v0 : List Int) : Nat → List Int
 | 0 => v0
 | t + 1 => (zcm cs v0 t).set (zam O t) (zan (zar ns (zam O t)) tb (za1 (zar ns (zam O t)) fr (zcm cs v0 t)) (zag cs (zam O t)))
def zba (v0 : List Int) (c0 : List (List Int)) : Nat → List Int × List (List Int)
 | 0 => (v0, c0)
 | t + 1 =>
  if (zar ns (zam O t)).1 = 6 then ((zba v0 c0 t).1.set (zam O t) (M.i_ (zag (zba v0 c0 t).2 (zam O t)) 0), (zba v0 c0 t).2)
  else ((zba v0 c0 t).1.set (zam O t) (zan (zar ns (zam O t)) tb (za1 (zar ns (zam O t)) fr (zba v0 c0 t).1) (zag (zba v0 c0 t).2 (zam O t))),
   (zba v0 c0 t).2.set (zam O t) (zaq (zar ns (zam O t)) (za1 (zar ns (zam O t)) fr (zba v0 c0 t).1) (zag (zba v0 c0 t).2 (zam O t))
    (zan (zar ns (zam O t)) tb (za1 (zar ns (zam O t)) fr (zba v0 c0 t).1) (zag (zba v0 c0 t).2 (zam O t)))))
def zcr (vs : List Int) (c1 : List (List Int)) : Nat → List (List Int)
 | 0 => c1
 | t + 1 => if (zar ns t).1 = 6 then (zcr vs c1 t).set t (zaq (zar ns t) (za1 (zar ns t) fr vs) (zag (zcr vs c1 t) t) 0) else zcr vs c1 t
def zbq (cs : List (List Int)) : List Int := zcm ns tb fr O cs (List.replicate ns.length 0) O.length
def zcs (cs : List (List Int)) : List (List Int) := (List.range ns.length).map fun i => zaq (zar ns i) (za1 (zar ns i) fr (zbq ns tb fr O cs)) (zag cs i) (M.i_ (zbq ns tb fr O cs) i)
end
structure M.Topo (ns : List Node) (O : List Int) : Prop where
 len : O.length = ns.length
 rng : ∀ t, t < O.length → 0 ≤ M.i_ O t ∧ M.i_ O t < ns.length
 new : ∀ s t, s < t → t < O.length → zam O s ≠ zam O t
 aft : ∀ t, t < O.length → ∀ f ∈ za5 (zar ns (zam O t)), ∃ s, s < t ∧ f = M.i_ O s
theorem zeq {l : List Int} {k : Nat} (h : k < l.length) (x : Int) : M.i_ (l.set k x) k = x := by simp [M.i_, h]
theorem zei {l : List Int} {k j : Nat} (h : k ≠ j) (x : Int) : M.i_ (l.set k x) j = M.i_ l j := by simp [M.i_, List.getElem?_set_ne h]
theorem zfq {l : List (List Int)} {k : Nat} (h : k < l.length) (x : List Int) : zag (l.set k x) k = x := by simp [zag, h]
theorem zer {l : List (List Int)} {k j : Nat} (h : k ≠ j) (x : List Int) : zag (l.set k x) j = zag l j := by simp [zag, List.getElem?_set_ne h]
theorem zip {a b : List Int} (hl : a.length = b.length) (h : ∀ j, j < a.length → M.i_ a j = M.i_ b j) : a = b := by
 apply List.ext_getElem hl
 intro i h1 h2
 have := h i h1
 simpa [M.i_, h1, h2] using this
theorem zph {a b : List (List Int)} (hl : a.length = b.length) (h : ∀ j, j < a.length → zag a j = zag b j) : a = b := by
 apply List.ext_getElem hl
 intro i h1 h2
 have := h i h1
 simpa [zag, h1, h2] using this
theorem zko : ∀ (n : Nat) (l : List Nat), l.Nodup → (∀ x ∈ l, x < n) → l.length ≤ n := by
 intro n
 induction n with
 | zero =>
  intro l _ h
  cases l with
  | nil => simp
  | cons x xs => exact absurd (h x (List.mem_cons_self ..)) (by omega)
 | succ n ih =>
  intro l hd h
  by_cases hm : n ∈ l
  · have h1 := List.length_erase_of_mem hm
    have h2 := ih (l.erase n) (hd.erase n) (fun x hx => by
     rw [List.Nodup.mem_erase_iff hd] at hx
     have := h x hx.2
     omega)
    have h3 : 0 < l.length := List.length_pos_of_mem hm
    omega
  · have h2 := ih l hd (fun x hx => by
     have := h x hx
     rcases Nat.lt_succ_iff_lt_or_eq.1 this with h3 | h3
     · exact h3
     · subst h3; exact absurd hx hm)
    omega
section
variable {ns : List Node} {tb : List (List Int)} {fr O : List Int}
theorem M.Topo.all (h : M.Topo ns O) {j : Nat} (hj : j < ns.length) : ∃ t, t < O.length ∧ zam O t = j := by
 rcases Classical.em (∃ t, t < O.length ∧ zam O t = j) with h1 | h1
 · exact h1
 · exfalso
   have hnd : (j :: (List.range O.length).map (zam O)).Nodup := by
    rw [List.nodup_cons]
    refine ⟨fun hm => ?_, ?_⟩
    · obtain ⟨t, ht, e⟩ := List.mem_map.1 hm
      exact h1 ⟨t, List.mem_range.1 ht, e⟩
    · rw [List.nodup_iff_pairwise_ne, List.pairwise_map]
      refine List.Pairwise.imp_of_mem ?_ (List.pairwise_lt_range (n := O.length))
      intro a b _ hb hab
      exact h.new a b hab (List.mem_range.1 hb)
   have := zko ns.length _ hnd (fun x hx => by
    rcases List.mem_cons.1 hx with rfl | hx
    · exact hj
    · obtain ⟨t, ht, rfl⟩ := List.mem_map.1 hx
      have := h.rng t (List.mem_range.1 ht)
      show (M.i_ O t).toNat < _
      omega)
   simp [h.len] at this
   omega
theorem zkp (cs : List (List Int)) (v0 : List Int) (t : Nat) : (zcm ns tb fr O cs v0 t).length = v0.length := by
 induction t with
 | zero => rfl
 | succ t ih => rw [zcm, List.length_set, ih]
theorem zkq (h : M.Topo ns O) (cs : List (List Int)) (v0 : List Int) {s t t' : Nat} (hs : s < t) (ht : t ≤ t') (ht' : t' ≤ O.length) :
 M.i_ (zcm ns tb fr O cs v0 t') (zam O s) = M.i_ (zcm ns tb fr O cs v0 t) (zam O s) := by
 induction t' with
 | zero =>
  obtain rfl : t = 0 := by omega
  rfl
 | succ q ih =>
  rcases Nat.lt_or_ge q t with h1 | h1
  · obtain rfl : t = q + 1 := by omega
    rfl
  · rw [zcm, zei (fun e => h.new s q (by omega) (by omega) e.symm)]
    exact ih h1 (by omega)
theorem zkr {x : Node} {a b : List Int} (h : x.1 ≠ 1 → ∀ f ∈ x.2.2.2, M.i_ a f.toNat = M.i_ b f.toNat) : za1 x fr a = za1 x fr b := by
 rw [za1, za1]
 split
 · rfl
 · rename_i h1
   exact List.map_congr_left (h h1)
theorem zks {x : Node} (h : x.1 ≠ 6) : za5 x = x.2.2.2 := by rw [za5, if_neg h]
theorem ziq {x : Node} (h : x.1 = 6) (tb : List (List Int)) (a s : List Int) : zan x tb a s = M.i_ s 0 := by simp [zan, h]
theorem zpi {x : Node} (h : x.1 = 6) (a s : List Int) (o o' : Int) : zaq x a s o = zaq x a s o' := by simp [zaq, h]
theorem zpj (h : M.Topo ns O) (cs : List (List Int)) {t : Nat} (ht : t < O.length) :
 M.i_ (zbq ns tb fr O cs) (zam O t) = zan (zar ns (zam O t)) tb (za1 (zar ns (zam O t)) fr (zbq ns tb fr O cs)) (zag cs (zam O t)) := by
 have hr := h.rng t ht
 rw [zbq, zkq h cs _ (s := t) (t := t + 1) (by omega) (by omega) (Nat.le_refl _)]
 show M.i_ ((zcm ns tb fr O cs _ t).set _ _) _ = _
 rw [zeq (by rw [zkp, List.length_replicate]; show (M.i_ O t).toNat < _; omega)]
 by_cases h6 : (zar ns (zam O t)).1 = 6
 · rw [ziq h6, ziq h6]
 · rw [zkr]
   intro _ f hf
   obtain ⟨s, hs, rfl⟩ := h.aft t ht f (by rw [zks h6]; exact hf)
   exact (zkq h cs _ (s := s) (t := t) (t' := O.length) hs (by omega) (Nat.le_refl _)).symm
theorem zkt (v0 : List Int) (c0 : List (List Int)) (t : Nat) : (zba ns tb fr O v0 c0 t).1.length = v0.length ∧ (zba ns tb fr O v0 c0 t).2.length = c0.length := by
 induction t with
 | zero => exact ⟨rfl, rfl⟩
 | succ t ih =>
  rw [zba]
  split
  · exact ⟨by rw [List.length_set]; exact ih.1, ih.2⟩
  · exact ⟨by rw [List.length_set]; exact ih.1, by rw [List.length_set]; exact ih.2⟩
theorem zpk (h : M.Topo ns O) (v0 : List Int) (cs : List (List Int)) (hv : v0.length = ns.length) (hc : cs.length = ns.length) : ∀ t, t ≤ O.length →
 (∀ s, s < t → M.i_ (zba ns tb fr O v0 cs t).1 (zam O s) = M.i_ (zbq ns tb fr O cs) (zam O s)) ∧
 (∀ s, s < t → (zar ns (zam O s)).1 ≠ 6 → zag (zba ns tb fr O v0 cs t).2 (zam O s) = zaq (zar ns (zam O s)) (za1 (zar ns (zam O s)) fr (zbq ns tb fr O cs)) (zag cs (zam O s)) (M.i_ (zbq ns tb fr O cs) (zam O s))) ∧
 (∀ j, ((∀ s, s < t → zam O s ≠ j) ∨ (zar ns j).1 = 6) → zag (zba ns tb fr O v0 cs t).2 j = zag cs j) := by
 intro t
 induction t with
 | zero => exact fun _ => ⟨fun s hs => absurd hs (by omega), fun s hs => absurd hs (by omega), fun _ _ => rfl⟩
 | succ t ih =>
  intro ht
  obtain ⟨i1, i2, i3⟩ := ih (by omega)
  obtain ⟨l1, l2⟩ := zkt (ns := ns) (tb := tb) (fr := fr) (O := O) v0 cs t
  have hr := h.rng t (by omega)
  have hi : zam O t < ns.length := by show (M.i_ O t).toNat < _; omega
  have hcel := i3 (zam O t) (.inl fun s hs => h.new s t hs (by omega))
  have hva := zpj (tb := tb) (fr := fr) h cs (t := t) (by omega)
  rw [zba]
  by_cases h6 : (zar ns (zam O t)).1 = 6
  · rw [if_pos h6]
    refine ⟨fun s hs => ?_, fun s hs hn => ?_, fun j hj => ?_⟩
    · rcases Nat.lt_succ_iff_lt_or_eq.1 hs with h1 | rfl
      · show M.i_ (List.set _ _ _) _ = _
        rw [zei (fun e => h.new s t h1 (by omega) e.symm)]
        exact i1 s h1
      · show M.i_ (List.set _ _ _) _ = _
        rw [zeq (by omega), hcel, hva, ziq h6]
    · rcases Nat.lt_succ_iff_lt_or_eq.1 hs with h1 | rfl
      · exact i2 s h1 hn
      · exact absurd h6 hn
    · exact i3 j (hj.imp (fun h1 s hs => h1 s (by omega)) id)
  · rw [if_neg h6]
    have hins : za1 (zar ns (zam O t)) fr (zba ns tb fr O v0 cs t).1 = za1 (zar ns (zam O t)) fr (zbq ns tb fr O cs) := by
     refine zkr fun _ f hf => ?_
     obtain ⟨s, hs, rfl⟩ := h.aft t (by omega) f (by rw [zks h6]; exact hf)
     exact i1 s hs
    refine ⟨fun s hs => ?_, fun s hs hn => ?_, fun j hj => ?_⟩
    · rcases Nat.lt_succ_iff_lt_or_eq.1 hs with h1 | rfl
      · show M.i_ (List.set _ _ _) _ = _
        rw [zei (fun e => h.new s t h1 (by omega) e.symm)]
        exact i1 s h1
      · show M.i_ (List.set _ _ _) _ = _
        rw [zeq (by omega), hcel, hins, hva]
    · rcases Nat.lt_succ_iff_lt_or_eq.1 hs with h1 | rfl
      · show zag (List.set _ _ _) _ = _
        rw [zer (fun e => h.new s t h1 (by omega) e.symm)]
        exact i2 s h1 hn
      · show zag (List.set _ _ _) _ = _
        rw [zfq (by omega), hcel, hins, hva]
    · show zag (List.set _ _ _) _ = _
      rcases hj with h1 | h1
      · rw [zer (h1 t (by omega))]
        exact i3 j (.inl fun s hs => h1 s (by omega))
      · rw [zer (fun e => h6 (by rw [e]; exact h1))]
        exact i3 j (.inr h1)
theorem zir (vs : List Int) (c1 : List (List Int)) (t : Nat) : (zcr ns fr vs c1 t).length = c1.length := by
 induction t with
 | zero => rfl
 | succ t ih =>
  rw [zcr]
  split
  · rw [List.length_set, ih]
  · exact ih
theorem zpl (vs : List Int) (c1 : List (List Int)) : ∀ t, t ≤ c1.length → ∀ j, zag (zcr ns fr vs c1 t) j = if j < t ∧ (zar ns j).1 = 6 then zaq (zar ns j) (za1 (zar ns j) fr vs) (zag c1 j) 0 else zag c1 j := by
 intro t
 induction t with
 | zero => intro _ j; rw [if_neg (by omega)]; rfl
 | succ t ih =>
  intro ht j
  have hl := zir (ns := ns) (fr := fr) vs c1 t
  rw [zcr]
  split
  · rename_i h6
    by_cases hj : t = j
    · subst hj
      rw [zfq (by omega), if_pos ⟨by omega, h6⟩, ih (by omega), if_neg (by omega)]
    · rw [zer hj, ih (by omega)]
      by_cases hq : j < t ∧ (zar ns j).1 = 6
      · rw [if_pos hq, if_pos ⟨by omega, hq.2⟩]
      · rw [if_neg hq, if_neg (fun e => hq ⟨by omega, e.2⟩)]
  · rename_i h6
    rw [ih (by omega)]
    by_cases hq : j < t ∧ (zar ns j).1 = 6
    · rw [if_pos hq, if_pos ⟨by omega, hq.2⟩]
    · rw [if_neg hq, if_neg (fun e => by
       by_cases hj : j = t
       · subst hj; exact h6 e.2
       · exact hq ⟨by omega, e.2⟩)]
theorem zpm (h : M.Topo ns O) (v0 : List Int) (cs : List (List Int)) (hv : v0.length = ns.length) (hc : cs.length = ns.length) :
 (zba ns tb fr O v0 cs O.length).1 = zbq ns tb fr O cs ∧ zcr ns fr (zbq ns tb fr O cs) (zba ns tb fr O v0 cs O.length).2 ns.length = zcs ns tb fr O cs := by
 obtain ⟨i1, i2, i3⟩ := zpk (tb := tb) (fr := fr) h v0 cs hv hc O.length (Nat.le_refl _)
 obtain ⟨l1, l2⟩ := zkt (ns := ns) (tb := tb) (fr := fr) (O := O) v0 cs O.length
 refine ⟨zip (by rw [l1, zbq, zkp, List.length_replicate, hv]) fun j hj => ?_, zph (by rw [zir, l2, zcs, List.length_map, List.length_range, hc]) fun j hj => ?_⟩
 · obtain ⟨t, ht, rfl⟩ := h.all (j := j) (by omega)
   exact i1 t ht
 · rw [zir, l2, hc] at hj
   have hn : zag (zcs ns tb fr O cs) j = zaq (zar ns j) (za1 (zar ns j) fr (zbq ns tb fr O cs)) (zag cs j) (M.i_ (zbq ns tb fr O cs) j) := by simp [zcs, zag, hj]
   rw [hn, zpl _ _ _ (by omega)]
   obtain ⟨t, ht, rfl⟩ := h.all hj
   by_cases h6 : (zar ns (zam O t)).1 = 6
   · rw [if_pos ⟨hj, h6⟩, i3 _ (.inr h6)]
     exact zpi h6 _ _ _ _
   · rw [if_neg (fun e => h6 e.2)]
     exact i2 t ht h6
end
theorem zpn {ns : List Node} {out : List Int} {i : Nat} (h : zcw ns out = some i) : i < ns.length ∧ zc3 ns out i = true := by
 rw [zcw, List.find?_range_eq_some] at h
 exact ⟨List.mem_range.1 h.2.1, h.1⟩
theorem zku {xs : List Int} {m : Int} : zal xs m = true ↔ m ∈ xs := by
 rw [zal, List.any_eq_true]
 constructor
 · rintro ⟨x, hx, e⟩
   rw [decide_eq_true_eq] at e
   exact e ▸ hx
 · exact fun h => ⟨m, h, by simp⟩
theorem zkv (ns : List Node) : ∀ t, (zap ns t).length ≤ t ∧ (∀ s, s < (zap ns t).length → 0 ≤ M.i_ (zap ns t) s ∧ M.i_ (zap ns t) s < ns.length) ∧
 (∀ s u, s < u → u < (zap ns t).length → zam (zap ns t) s ≠ zam (zap ns t) u) ∧
 (∀ u, u < (zap ns t).length → ∀ f ∈ za5 (zar ns (zam (zap ns t) u)), ∃ s, s < u ∧ f = M.i_ (zap ns t) s) := by
 intro t
 induction t with
 | zero => exact ⟨by simp [zap], fun s hs => by simp [zap] at hs, fun s u _ hu => by simp [zap] at hu, fun u hu => by simp [zap] at hu⟩
 | succ t ih =>
  obtain ⟨j1, j2, j3, j4⟩ := ih
  rw [zap]
  cases hn : zcw ns (zap ns t) with
  | none => exact ⟨Nat.le_succ_of_le j1, j2, j3, j4⟩
  | some i =>
   obtain ⟨hi, hr⟩ := zpn hn
   simp only
   generalize hO : zap ns t = O at *
   have ea : ∀ s, s < O.length → M.i_ (O ++ [(i : Int)]) s = M.i_ O s := fun s hs => by simp [M.i_, List.getElem?_append_left hs]
   have eb : M.i_ (O ++ [(i : Int)]) O.length = i := by simp [M.i_]
   have hl : (O ++ [(i : Int)]).length = O.length + 1 := by simp
   rw [zc3, Bool.and_eq_true, Bool.not_eq_true'] at hr
   have hni : ∀ s, s < O.length → zam O s ≠ i := by
    intro s hs e
    have h2 := j2 s hs
    have e2 : M.i_ O s = (i : Int) := by have : (M.i_ O s).toNat = i := e; omega
    have h3 : zal O i = true := zku.2 (by
     rw [← e2]
     simp only [M.i_, List.getElem?_eq_getElem hs, Option.getD_some]
     exact List.getElem_mem hs)
    rw [hr.1] at h3
    cases h3
   refine ⟨by rw [hl]; omega, fun s hs => ?_, fun s u hsu hu => ?_, fun u hu f hf => ?_⟩
   · rw [hl] at hs
     rcases Nat.lt_succ_iff_lt_or_eq.1 hs with h1 | rfl
     · rw [ea s h1]; exact j2 s h1
     · rw [eb]; omega
   · rw [hl] at hu
     rcases Nat.lt_succ_iff_lt_or_eq.1 hu with h1 | rfl
     · show (M.i_ _ s).toNat ≠ (M.i_ _ u).toNat
       rw [ea s (by omega), ea u h1]
       exact j3 s u hsu h1
     · show (M.i_ _ s).toNat ≠ (M.i_ _ _).toNat
       rw [ea s hsu, eb]
       have := hni s hsu
       exact this
   · rw [hl] at hu
     rcases Nat.lt_succ_iff_lt_or_eq.1 hu with h1 | rfl
     · rw [show zam (O ++ [(i : Int)]) u = zam O u by show (M.i_ _ u).toNat = (M.i_ _ u).toNat; rw [ea u h1]] at hf
       obtain ⟨s, hs, rfl⟩ := j4 u h1 f hf
       exact ⟨s, hs, (ea s (by omega)).symm⟩
     · rw [show zam (O ++ [(i : Int)]) O.length = i by show (M.i_ _ _).toNat = i; rw [eb]; omega] at hf
       have h4 := List.all_eq_true.1 hr.2 f hf
       obtain ⟨s, hs⟩ := List.getElem?_of_mem (zku.1 h4)
       have hs2 := (List.getElem?_eq_some_iff.1 hs).1
       refine ⟨s, hs2, ?_⟩
       rw [ea s hs2, M.i_, hs]
       rfl
theorem zpo (ns : List Node) (t : Nat) : (zap ns t).length ≤ ns.length := by
 obtain ⟨_, j2, j3, _⟩ := zkv ns t
 have h := zko ns.length ((List.range (zap ns t).length).map (zam (zap ns t))) (by
  rw [List.nodup_iff_pairwise_ne, List.pairwise_map]
  refine List.Pairwise.imp_of_mem ?_ (List.pairwise_lt_range (n := (zap ns t).length))
  intro a b _ hb hab
  exact j3 a b hab (List.mem_range.1 hb)) (fun x hx => by
   obtain ⟨u, hu, rfl⟩ := List.mem_map.1 hx
   have := j2 u (List.mem_range.1 hu)
   show (M.i_ _ u).toNat < _
   omega)
 simpa using h
theorem zpp {ns : List Node} (h : (za8 ns).length = ns.length) : M.Topo ns (za8 ns) := by
 obtain ⟨_, j2, j3, j4⟩ := zkv ns ns.length
 exact ⟨h, j2, j3, j4⟩
end
section
open Go.RowKit Go.Sort
theorem zpq : ∀ (n : Nat) (l : List Nat), (∀ i, i < n → i ∈ l) → n ≤ l.length := by
 intro n
 induction n with
 | zero => intro l _; omega
 | succ n ih =>
  intro l h
  have h1 := h n (by omega)
  have h2 := ih (l.erase n) (fun i hi => (List.mem_erase_of_ne (by omega)).2 (h i (by omega)))
  rw [List.length_erase_of_mem h1] at h2
  have h3 : 0 < l.length := List.length_pos_of_mem h1
  omega
def zhe (ns : List Node) (R : Nat → Nat) : Prop := ∀ (i : Nat) (x : Node), ns[i]? = some x → ∀ f ∈ za5 x, (0 ≤ f ∧ f < ns.length) ∧ R f.toNat < R i
theorem zpr {xs : List Int} {m : Int} : zal xs m = true ↔ m ∈ xs := by
 rw [zal, List.any_eq_true]
 constructor
 · rintro ⟨x, hx, e⟩
   rw [decide_eq_true_eq] at e
   rw [← e]; exact hx
 · intro h
   exact ⟨m, h, by simp⟩
theorem zps {ns : List Node} {R : Nat → Nat} (hR : zhe ns R) {out : List Int} : ∀ (r i : Nat), R i ≤ r → i < ns.length → zal out i = false → ∃ j, j < ns.length ∧ zc3 ns out j = true := by
 intro r
 induction r using Nat.strongRecOn with
 | _ r ih =>
  intro i hr hi hm
  have hx : ns[i]? = some ns[i] := List.getElem?_eq_getElem hi
  generalize ns[i] = x at hx
  by_cases hall : (za5 x).all (zal out) = true
  · exact ⟨i, hi, by rw [zih hx, hm, hall]; rfl⟩
  · rw [Bool.not_eq_true, List.all_eq_false] at hall
    obtain ⟨f, hf, hfm⟩ := hall
    have h1 := hR i x hx f hf
    have e : f = (f.toNat : Int) := by omega
    exact ih (R f.toNat) (by omega) f.toNat (Nat.le_refl _) (by omega) (by rw [← e]; simpa using hfm)
theorem zpt {ns : List Node} {R : Nat → Nat} (hR : zhe ns R) : ∀ t, t ≤ ns.length → (zap ns t).length = t := by
 intro t
 induction t with
 | zero => intro _; rfl
 | succ t ih =>
  intro ht
  have h := ih (by omega)
  have hmiss : ∃ i, i < ns.length ∧ zal (zap ns t) i = false := by
   rcases Classical.em (∃ i : Nat, i < ns.length ∧ zal (zap ns t) i = false) with h1 | h1
   · exact h1
   · exfalso
     have := zpq ns.length ((zap ns t).map Int.toNat) (fun i hi => by
      have h2 : zal (zap ns t) i = true := by
       cases h3 : zal (zap ns t) i
       · exact absurd ⟨i, hi, h3⟩ h1
       · rfl
      exact List.mem_map.2 ⟨(i : Int), zpr.1 h2, by simp⟩)
     rw [List.length_map] at this
     omega
  obtain ⟨i, hi, hm⟩ := hmiss
  obtain ⟨j, hj, hr⟩ := zps hR (R i) i (Nat.le_refl _) hi hm
  rw [zap]
  cases hn : zcw ns (zap ns t) with
  | none =>
   rw [zcw, List.find?_eq_none] at hn
   have := hn j (List.mem_range.2 hj)
   rw [hr] at this
   simp at this
  | some i =>
   show (zap ns t ++ [(i : Int)]).length = t + 1
   rw [List.length_append, h]; rfl
theorem zpu {ns : List Node} {R : Nat → Nat} (hR : zhe ns R) : (za8 ns).length = ns.length := zpt hR _ (Nat.le_refl _)
theorem zpv {k a bb : Int} {xs : List Int} {tb : Int} (hk : 1 ≤ k ∧ k ≤ 17) (c1 : k = 1 → 0 ≤ a ∧ a ≤ 3) (c6 : k = 6 → 1 ≤ a ∧ a ≤ 16) (c10 : k = 10 → 0 ≤ a ∧ a ≤ 31) (c11 : k = 11 → 0 ≤ a ∧ a ≤ 2147483647) (c13 : k = 13 → 0 ≤ a ∧ a ≤ 3 ∧ a < tb) (cs : -2147483648 ≤ a ∧ a ≤ 2147483647) (c0 : zd6 k = false → a = 0)
 (b17 : k = 17 → 1 ≤ bb ∧ bb ≤ 16) (b0 : k ≠ 17 → bb = 0) (len : (xs.length : Int) = M.ar k.toNat) (fr : ∀ f ∈ xs, 0 ≤ f ∧ f ≤ 23) : zak (k, a, bb, xs) tb = true := by
 rw [← zj5, zc2]
 simp only [Bool.and_eq_true]
 refine ⟨za2.2 hk, ⟨⟨?_, by simpa using len⟩, List.all_eq_true.2 fun f hf => za2.2 (fr f hf)⟩, ?_⟩
 · rw [M.aS]
   split
   · rename_i h; exact za2.2 (c1 h)
   split
   · rename_i h; exact za2.2 (c6 h)
   split
   · rename_i h; exact za2.2 (c10 h)
   split
   · rename_i h; exact za2.2 (c11 h)
   split
   · rename_i h
     have := c13 h
     exact za2.2 (by omega)
   split
   · exact za2.2 cs
   · rename_i h
     rw [decide_eq_true_eq]
     exact c0 (by simpa using h)
 · split
   · rename_i h; exact za2.2 (b17 h)
   · rename_i h; rw [decide_eq_true_eq]; exact b0 h
end
end Go.Proofs.YtfkcoiefkjmdeaaGreat
