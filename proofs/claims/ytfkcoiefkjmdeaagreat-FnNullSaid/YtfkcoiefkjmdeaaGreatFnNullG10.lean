import Derived.Test.YtfkcoiefkjmdeaaGreatFnNullG9
import Derived.Test.YtfkcoiefkjmdeaaGreatFnNullG5
import Derived.Test.YtfkcoiefkjmdeaaGreatFnNullG4
import Derived.Test.YtfkcoiefkjmdeaaGreatFnNullG7
import Derived.Test.YtfkcoiefkjmdeaaGreatFnNullG3
import Derived.Lib.QuietBelow
import Derived.Test.YtfkcoiefkjmdeaaGreatFnNullG6
import Derived.Deep.QuietTactic
import Derived.RegionTactic
set_option linter.unusedVariables false
set_option linter.unusedSimpArgs false
set_option maxRecDepth 100000
set_option maxHeartbeats 4000000
namespace Go.Proofs.YtfkcoiefkjmdeaaGreat
section
open Go.RowKit Go.Sort
set_option maxHeartbeats 40000000
structure M.zD (lin : Bool) (x : Sess) : Prop where
 len : x.1 = 20 ∨ x.1 = 32 ∨ x.1 = 40 ∨ x.1 = 0 ∨ x.1 = 7
 sn : 1 ≤ x.2.1.length ∧ x.2.1.length ≤ 3
 sl : ∀ s ∈ x.2.1, (1 ≤ s.length ∧ s.length ≤ 15) ∧ ∀ y ∈ s, M.smp y = true
 tn : x.2.2.1.length ≤ 3
 tk : ∀ t ∈ x.2.2.1, t.length ≤ 3 ∧ zej x.2.1.length t
 fn : x.2.2.2.1.length = x.2.2.1.length
 fd : ∀ f ∈ x.2.2.2.1, 0 ≤ f ∧ f < (x.2.2.2.2.2.length : Int)
 en : x.2.2.2.2.1.length = x.2.2.2.2.2.length
 ef : ∀ p ∈ x.2.2.2.2.1, p = (0, [], [], []) ∨ M.pD 1 1 lin p
 mn : 1 ≤ x.2.2.2.2.2.length ∧ x.2.2.2.2.2.length ≤ 6
 mt : M.tiny 4 x.2.2.2.2.2
 mx : zas x.2.2.2.2.2 = true
theorem Mid.toG {w x y : World} {b g : Nat} {G : Nat → Prop} (hG : G = fun z => z = b ∨ (w.heap.size < z ∧ z ≠ g)) (m : Mid b (b + 1) x y) : Chg G x y :=
 ⟨m.os, m.tape, m.output, m.size, fun i hi hn => m.block i hi (by
  rw [hG] at hn
  rcases Nat.lt_or_ge i b with h | h
  · exact .inl h
  · exact .inr (by rcases Nat.lt_or_ge b i with h2 | h2; exact h2; exact absurd (.inl (by omega)) hn))⟩
theorem OA.toOS {α : Type} {s : Nat} {pos : 0 < s} {zero : α} {enc : α → List Value} {henc : ∀ x, (enc x).length = s} {h1 : ∀ x, ∀ u ∈ enc x, u.oneCell' = true} {e : TypeId} {lo hi : Nat} {w : World} {v : Value} {xs : List α} (h : OA enc e s lo hi w v xs) : OS (Ty.flat s pos zero enc henc h1) e w (Iv lo hi) v xs := by
 obtain ⟨⟨hl, hr⟩, hb⟩ := h
 have e1 : (xs.map enc).flatten = xs.flatMap enc := by rw [List.flatMap_def]
 refine ⟨xs.map enc, fun _ _ => False, ⟨?_, ?_⟩, by simp, fun g hg => ⟨?_, hb g hg⟩, fun _ _ h => h.elim, fun _ _ _ _ h => h.elim, fun k h h' => by simp [Ty.flat]⟩
 · rw [e1]; exact hl
 · rw [e1]
   rcases hr with h | ⟨g, cap, cur, h2, h3, rest⟩
   · exact .inl h
   · exact .inr ⟨g, cap, cur, h2, Nat.zero_le _, rest⟩
 · rcases hr with h | ⟨g', cap, cur, h2, h3, rest⟩
   · rw [h.1] at hg
     cases hg
   · rw [h2] at hg
     injection hg with hg
     rw [← hg]
     exact h3
theorem OS.readB {α : Type} {t : Ty α} {e : TypeId} {w : World} {F : Nat → Prop} {v : Value} {xs : List α} (h : OS t e w F v xs) {B : Nat} (hB : B ≤ w.heap.size) (hF : ∀ z, F z → z < B) : RS t w B v xs := by
 obtain ⟨u, hu⟩ : ∃ u : World, u = { w with heap := w.heap.extract 0 B } := ⟨_, rfl⟩
 have hs : u.heap.size = B := by rw [hu]; simp; omega
 have hk : ∀ z, z < B → w.heap[z]? = u.heap[z]? := fun z hz => by
  rw [hu]
  simp only [Array.getElem?_extract]
  rw [if_pos (by omega), Nat.zero_add]
 have h1 : OS t e u F v xs := h.keep fun z hz => (hk z (hF z hz)).symm
 have h2 := h1.read
 rw [hs] at h2
 exact h2.below ⟨by rw [hu], by rw [hu], by rw [hu], by omega, fun k hk2 => hk k hk2⟩
theorem DS.off {w wr w' : World} {b lo : Nat} {A : Option Addr} {n c : Nat} {code : List UInt8} {g K M : Nat} {i : Int} {v1 v2 v3 v4 v5 : Value} {x1 : List (List Int)} {x2 : List (List zah)} {x3 : List Int} {x4 : List zaf} {x5 : List zad} (h : DS w b lo A n c code g K M i v1 v2 v3 v4 v5 x1 x2 x3 x4 x5 wr) (hb : b < w.heap.size) (hc : Chg (fun z => M ≤ z) wr w') : DS w b lo A n c code g K M i v1 v2 v3 v4 v5 x1 x2 x3 x4 x5 w' := by
 obtain ⟨F1, F2, F3, F4, F5, h, hB, hM, hg⟩ := h
 have hl := h.lo
 obtain ⟨h1, h2, h3, h4, h5, h6⟩ := h.turn hb (F := fun z => M ≤ z) (fun z hz => by omega) hc
 exact ⟨F1, F2, F3, F4, F5, ⟨h1, h2 _ _ h.p0, h2 _ _ h.p1, h2 _ _ h.p2, h2 _ _ h.p3, h2 _ _ h.p4, h2 _ _ h.p5, h3, h.r1.chg hc (fun z a b => by have := hB z (by simp [a]); omega), h.r2.chg hc (fun z a b => by have := hB z (by simp [a]); omega), h.r3.chg hc (fun z a b => by have := hB z (by simp [a]); omega), h.r4.chg hc (fun z a b => by have := hB z (by simp [a]); omega), h.r5.chg hc (fun z a b => by have := hB z (by simp [a]); omega), h.fd, h4, h5, h6, h.lo⟩, hB, Nat.le_trans hM hc.size, hg⟩
theorem zll (b lo : Nat) (A : Option Addr) (n c : Nat) (code : List UInt8) (K : Nat) (lin : Bool) (w : World) (h : Src w b lo A n c code K) (hK : K ≤ 1000) :
 Calls Tryz.prog 20 #[.pointer (some ⟨b, 0, none⟩), .bool lin] w (DrewZ b lo A n c code (K + 20000) (M.zD lin) w) := by
 have hbw := h.lt
 obtain ⟨W0, hW0⟩ : ∃ W, W = w.alloc (.cells #[.int .i64 0, .slice none 0 0, .slice none 0 0, .slice none 0 0, .slice none 0 0, .slice none 0 0] 32) := ⟨_, rfl⟩
 have z0 : W0.heap.size = w.heap.size + 1 := by rw [hW0]; simp
 obtain ⟨W1, hW1⟩ : ∃ W, W = W0.alloc (.cells #[.int .i64 20, .int .i64 32, .int .i64 40, .int .i64 0, .int .i64 7] 2) := ⟨_, rfl⟩
 have z1 : W1.heap.size = w.heap.size + 1 + 1 := by rw [hW1]; simp; omega
 have B0 : Below w.heap.size w W0 := by rw [hW0]; exact (Below.refl _ _).alloc (Nat.le_refl _) _
 have BA : Below W0.heap.size W0 W1 := by rw [hW1]; exact (Below.refl _ _).alloc (Nat.le_refl _) _
 have B1 : Below w.heap.size w W1 := zaa B0 BA
 have eW : ∀ j u, (#[Value.int .i64 0, .slice none 0 0, .slice none 0 0, .slice none 0 0, .slice none 0 0, .slice none 0 0] : Array Value)[j]? = some u → W1.cell? ⟨w.heap.size, j, none⟩ = some u ∧ W1.frozen? ⟨w.heap.size, j, none⟩ = false := fun j u hj => by
  refine ⟨?_, ?_⟩
  · rw [BA.cell (by show w.heap.size < _; omega), hW0, cell_of_row _ w.heap.size j _ 32 (0, 0) (heap_alloc_new w _)]
    exact hj
  · rw [BA.frozen (by show w.heap.size < _; omega), hW0]
    simp [go_sem]
 have cA : ∀ j x, ([20, 32, 40, 0, 7] : List Int)[j]? = some x → W1.cell? ⟨w.heap.size + 1, j, none⟩ = some (.int .i64 x) := fun j x hx => by
  rw [hW1, ← z0, cell_of_row _ W0.heap.size j _ 2 (0, 0) (heap_alloc_new W0 _)]
  have : (#[Value.int .i64 20, .int .i64 32, .int .i64 40, .int .i64 0, .int .i64 7] : Array Value).toList[j]? = some (.int .i64 x) := by
   rw [show (#[Value.int .i64 20, .int .i64 32, .int .i64 40, .int .i64 0, .int .i64 7] : Array Value).toList = ([20, 32, 40, 0, 7] : List Int).map (.int .i64) from rfl, List.getElem?_map, hx]
   rfl
  simpa using this
 have s1 := h.below B1 hbw
 have hAM := Lib.hid (ze8 b lo A n c code _ (w.heap.size + 1) 5 5 [20, 32, 40, 0, 7] W1 s1 (by omega) rfl (by decide) (by omega) (by omega) cA)
 have HW0 := Lib.hid hW0
 have HW1 := Lib.hid hW1
 have HB := Lib.hid B1
 have HE := Lib.hid eW
 have hlw : w.heap.size + 1 < W1.heap.size := by omega
 clear hW0 hW1 B0 BA B1 eW cA z1
 go_enter Tryz.func20, Tryz.ntmps20
 go_wp2_with fail
 rw [← HW0.out, ← HW1.out]
 refine hAM.out.mono ?_
 rintro e x1 ⟨L, rfl, hL, s2, m2⟩
 have HL : Hid (L = 20 ∨ L = 32 ∨ L = 40 ∨ L = 0 ∨ L = 7) := Lib.hid (by simpa using hL)
 have lx1 := m2.size
 obtain ⟨X2, hX2⟩ : ∃ W, W = x1.alloc (.cells #[] 2) := ⟨_, rfl⟩
 have y2 : X2.heap.size = x1.heap.size + 1 := by rw [hX2]; simp
 obtain ⟨X3, hX3⟩ : ∃ W, W = X2.alloc (.cells #[.int .i64 L, .slice none 0 0, .slice none 0 0, .slice (some ⟨x1.heap.size, 0, none⟩) 0 0, .slice none 0 0, .slice none 0 0] 32) := ⟨_, rfl⟩
 have y3 : X3.heap.size = x1.heap.size + 1 + 1 := by rw [hX3]; simp; omega
 have C2 : Below x1.heap.size x1 X2 := by rw [hX2]; exact (Below.refl _ _).alloc (Nat.le_refl _) _
 have C3 : Below X2.heap.size X2 X3 := by rw [hX3]; exact (Below.refl _ _).alloc (Nat.le_refl _) _
 have C4 : Below x1.heap.size x1 X3 := zaa C2 C3
 have D0 : DS w b lo A n c code (x1.heap.size + 1) (K + 2) X3.heap.size L (.slice none 0 0) (.slice none 0 0) (.slice (some ⟨x1.heap.size, 0, none⟩) 0 0) (.slice none 0 0) (.slice none 0 0) [] [] [] [] [] X3 := by
  have eP : ∀ j u, (#[Value.int .i64 L, .slice none 0 0, .slice none 0 0, .slice (some ⟨x1.heap.size, 0, none⟩) 0 0, .slice none 0 0, .slice none 0 0] : Array Value)[j]? = some u → X3.cell? ⟨x1.heap.size + 1, j, none⟩ = some u ∧ X3.frozen? ⟨x1.heap.size + 1, j, none⟩ = false := fun j u hj => by
   rw [hX3, ← y2]
   refine ⟨?_, ?_⟩
   · rw [cell_of_row _ X2.heap.size j _ 32 (0, 0) (heap_alloc_new X2 _)]
     exact hj
   · simp [go_sem]
  have own0 : OS tI 2 X2 (Iv x1.heap.size X2.heap.size) (.slice (some ⟨x1.heap.size, 0, none⟩) 0 0) [] := by rw [hX2]; exact OS.made0 tI 2 x1
  have own1 := own0.below C3 (Nat.le_refl _)
  have eR : ∀ j u, (#[Value.int .i64 0, .slice none 0 0, .slice none 0 0, .slice none 0 0, .slice none 0 0, .slice none 0 0] : Array Value)[j]? = some u → X3.cell? ⟨w.heap.size, j, none⟩ = some u ∧ X3.frozen? ⟨w.heap.size, j, none⟩ = false := fun j u hj => by
   refine ⟨?_, ?_⟩
   · rw [C4.cell (by show w.heap.size < _; omega)]
     exact m2.cellK (by omega) (.inr (by omega)) (HE.out j u hj).1
   · rw [C4.frozen (by show w.heap.size < _; omega)]
     exact m2.frozK (by omega) (.inr (by omega)) (HE.out j u hj).2
  refine ⟨fun _ => False, fun _ => False, fun z => z = x1.heap.size, fun _ => False, fun _ => False, ⟨fun j hj => ?_, (eP 0 _ rfl).1, (eP 1 _ rfl).1, (eP 2 _ rfl).1, (eP 3 _ rfl).1, (eP 4 _ rfl).1, (eP 5 _ rfl).1, fun j hj => ?_, OS.nil _ _ _ _, OS.nil _ _ _ _, own1.wide (fun z hz => by have a1 : x1.heap.size ≤ z := hz.1; have a2 : z < X2.heap.size := hz.2; omega), OS.nil _ _ _ _, OS.nil _ _ _ _,
   ⟨fun z h => h.elim, fun z h => h.elim, fun z h => by omega, fun z h => h.elim, fun z h => h.elim, fun z h => h.elim, fun z h => h.elim, fun z h => h.elim, fun z h => h.elim, fun z h h2 => h.elim, fun z h => h.elim, fun z h => h.elim, fun z h h2 => h2.elim, fun z h h2 => h2.elim, fun z h => h.elim⟩,
   s2.below C4 (by omega), ((Mid.of_below HB.out b (b + 1)).trans m2).thenB' (C4.mono (by omega)) (Nat.le_refl _), by omega, by omega⟩, fun z hz => by simp at hz; omega, Nat.le_refl _, by omega⟩
  · rcases (show j = 0 ∨ j = 1 ∨ j = 2 ∨ j = 3 ∨ j = 4 ∨ j = 5 by omega) with rfl | rfl | rfl | rfl | rfl | rfl
    · exact eR 0 _ rfl
    · exact eR 1 _ rfl
    · exact eR 2 _ rfl
    · exact eR 3 _ rfl
    · exact eR 4 _ rfl
    · exact eR 5 _ rfl
  · rcases (show j = 0 ∨ j = 1 ∨ j = 2 ∨ j = 3 ∨ j = 4 ∨ j = 5 by omega) with rfl | rfl | rfl | rfl | rfl | rfl
    · exact (eP 0 _ rfl).2
    · exact (eP 1 _ rfl).2
    · exact (eP 2 _ rfl).2
    · exact (eP 3 _ rfl).2
    · exact (eP 4 _ rfl).2
    · exact (eP 5 _ rfl).2
 obtain ⟨g, hg⟩ : ∃ g, g = x1.heap.size + 1 := ⟨_, rfl⟩
 rw [← hg] at D0
 have HG := Lib.hid hg
 have HX2 := Lib.hid hX2
 have HX3 := Lib.hid hX3
 clear hg hX2 hX3 C2 C3 C4 y2 y3 hL s2 m2 hAM HW0 HW1 HB HE z0
 go_upto_region 2 with fail
 rw [← HX2.out, ← HX3.out, ← HG.out]
 have s3 := D0.src
 go_wp2_with fail
 refine (za4 b lo A n c code _ 3 X3 s3 (by omega) (by omega)).mono ?_
 rintro e X4 ⟨N', rfl, hN, s4, m4⟩
 have D1 := D0.step hbw s4 m4
 obtain ⟨N', rfl⟩ : ∃ q : Nat, N' = q := ⟨N'.toNat, by omega⟩
 obtain ⟨N, hNd⟩ : ∃ q : Nat, q = 1 + N' := ⟨_, rfl⟩
 have hN1 : 1 ≤ N ∧ N ≤ 3 := by omega
 have HN := Lib.hid (show 1 + (N' : Int) = (N : Int) by omega)
 clear D0 s3 s4 m4 hNd
 go_wp2_with fail
 rw [HN.out]
 clear hN
 go_loopw [6] (fun i wr => ∃ (u : Nat) (xs : List (List Int)) (v1 : Value), i = .int .i64 u ∧ u ≤ N ∧ Hid (xs.length + u = N) ∧ Hid (∀ s ∈ xs, (1 ≤ s.length ∧ s.length ≤ 15) ∧ ∀ y ∈ s, M.smp y = true) ∧ DS w b lo A n c code g (K + 4 + 100 * (N - u)) wr.heap.size L v1 (.slice none 0 0) (.slice (some ⟨x1.heap.size, 0, none⟩) 0 0) (.slice none 0 0) (.slice none 0 0) xs [] [] [] [] wr) (fun i _ => (intOf i).toNat)
 case atStart => exact ⟨N, [], _, rfl, by omega, Lib.hid (by simp), Lib.hid (fun s hs => by simp at hs), D1.up.more (by omega)⟩
 case round =>
  clear D1
  obtain ⟨u, xs, v1, rfl, huN, hxl, hxs, D⟩ := hrel
  obtain ⟨A1, c1, hv1⟩ := D.shape1
  subst hv1
  by_cases hlu : 0 < u
  · have hlui : (0 : Int) < (u : Int) := by omega
    have hxb : xs.length ≤ 2 := by have := hxl.out; omega
    obtain ⟨U, hU⟩ : ∃ U, U = wr := ⟨_, rfl⟩
    rw [← hU] at D ⊢
    have HD := Lib.hid D
    have UP1 := D.p1
    have UX := D.sz
    obtain ⟨G, hG⟩ : ∃ G : Nat → Prop, G = fun z => z = b ∨ (w.heap.size < z ∧ z ≠ g) := ⟨_, rfl⟩
    have HG2 := Lib.hid hG
    have GX := Lib.hid (show ¬ G g from fun h => by
     rw [hG] at h
     rcases h with h | h
     · omega
     · exact h.2 rfl)
    have g1 := ChgTo.cell (F := G) UP1 (fun h => GX.out h)
    have bsU := D.src.lt
    clear hU hG
    have SD := Lib.hid (zo8 b lo A n c code _ 14 U.drew (D.src.below (zac (Below.refl U.heap.size _) 1) bsU) (by omega) (by omega))
    clear D
    go_wp2_with fail
    (refine zcl G [0, 2, 4] [1] 7 (.one 3 (.one 5 (.one 6 (.one 7 (.one 8 (.one 9 (.first 10 .rest))))))) [11] [11] (by kernel_rfl) (by kernel_rfl) ?_; simp only [zaj]; simp only [List.filterMap, List.getElem?_cons_succ, List.getElem?_cons_zero]; (repeat (go_big_quiet_step (fail))); refine wpQuiet_nil ?_; (repeat (go_big_quiet_step (fail))); refine wpQuiet_nil ?_)
    refine zai rfl ?_
    go_wp2_with fail
    refine SD.out.mono ?_
    rintro e x5 ⟨v5, ys, rfl, o5, hy14, hys, s5, m5⟩
    obtain ⟨A5, c5, hv5⟩ := o5.shape
    subst hv5
    have m5' : Mid b (b + 1) U x5 := (Mid.of_below (zac (Below.refl U.heap.size _) 1) b (b + 1)).trans m5
    have C5 : Chg G U x5 := Mid.toG HG2.out m5'
    have l5 : U.heap.size ≤ x5.heap.size := m5'.size
    have o5' : OS tI 2 x5 (Iv U.heap.size x5.heap.size) (.slice A5 ys.length c5) ys := o5
    clear o5
    go_wp2_with fail
    refine ⟨⟨⟨x5, C5⟩, rfl⟩, zai rfl ?_⟩
    go_wp2_with fail
    refine (zeo b lo A n c code _ x5 s5 (by omega)).mono ?_
    rintro e x6 ⟨y, rfl, hy, s6, m6⟩
    have HY := Lib.hid hy
    have m6' := m5'.trans m6
    have C6 : Chg G U x6 := Mid.toG HG2.out m6'
    have l6 := m6.size
    have o6 := o5'.mid m6 (.inr (by omega)) (Nat.le_refl _)
    have s6' := s6
    clear o5' hy
    go_wp2_with fail
    refine ⟨⟨⟨x6, C6⟩, rfl⟩, zai rfl ?_⟩
    go_wp2_with fail
    refine ⟨⟨⟨_, C6.trans (Chg.of_below ((Below.refl _ _).alloc (Nat.le_refl _) _) _)⟩, rfl⟩, zai rfl ?_⟩
    go_wp2_with (at_builtin; refine zaz zbl #[.int .i64 y] rfl _ _ rfl o6 (Fe := fun _ => False) (y := y) rfl (fun _ _ h => h) rfl rfl (by unfold maxLen; omega) (by omega) ?_; intro v7 w7 own7 ch7; obtain ⟨A7, c7, e7⟩ := own7.shape; rw [List.length_append, List.length_singleton] at e7; subst e7)
    have l7 := ch7.size
    have B7 : Below U.heap.size x6 w7 := ch7.toBelow (fun z h => h.1) (by omega)
    have m7' : Mid b (b + 1) U w7 := m6'.thenB' B7 (Nat.le_refl _)
    have s7 := s6.below B7 bsU
    have C7 : Chg G U w7 := Mid.toG HG2.out m7'
    have o7 : OS tI 2 w7 (fun z => U.heap.size ≤ z) (.slice A7 (ys.length + 1) c7) (ys ++ [y]) := own7.wide (fun z h => by
     rcases h with h | h | h
     · exact h.1
     · exact h.elim
     · have h3 := h.1
       show U.heap.size ≤ z
       omega)
    obtain ⟨F1, r1, hF1, K1⟩ := (HD.out.step hbw s7 m7').open1 hbw
    have K1' := Lib.hid K1
    clear own7 o6 K1
    refine ⟨⟨⟨w7, C7⟩, rfl⟩, zai rfl ?_⟩
    go_wp2_with fail
    refine ⟨⟨⟨_, C7.trans (Chg.of_below ((Below.refl _ _).alloc (Nat.le_refl _) _) _)⟩, rfl⟩, zai rfl ?_⟩
    have P7 : w7.cell? ⟨g, 1, none⟩ = some (.slice A1 xs.length c1) := (HD.out.step hbw s7 m7').p1
    have Q7 : w7.frozen? ⟨g, 1, none⟩ = false := (HD.out.step hbw s7 m7').q 1 (by omega)
    go_wp2_with (at_builtin; refine zaz (t := tS) zid #[.slice A7 (ys.length + 1) c7] rfl _ _ rfl r1 (Fe := fun z => U.heap.size ≤ z) (y := ys ++ [y]) (sl_O.2 o7) (fun z h1 h2 => by have a1 := (hF1 z h1).2.2; have a2 : U.heap.size ≤ z := h2; omega) rfl rfl (by unfold maxLen; omega) (by omega) ?_; intro v8 w8 own8 ch8; obtain ⟨A8, c8, e8⟩ := own8.shape; rw [List.length_append, List.length_singleton] at e8; subst e8; have P8 : w8.cell? ⟨g, 1, none⟩ = some (.slice A1 xs.length c1) := (by rw [ch8.cell1 (show g < w7.heap.size by omega) (fun h => (hF1 g h).2.1 rfl)]; exact P7); have Q8 : w8.frozen? ⟨g, 1, none⟩ = false := (by rw [ch8.frozen1 (show g < w7.heap.size by omega) (fun h => (hF1 g h).2.1 rfl)]; exact Q7))
    have C8 : Chg G U w8 := C7.trans (ch8.wide (fun z h => by rw [HG2.out]; exact .inr ⟨(hF1 z h).1, (hF1 z h).2.1⟩))
    have D9 := Lib.hid (K1'.out w8 _ (.slice A8 (xs.length + 1) c8) (xs ++ [ys ++ [y]]) ch8 own8 (fun z h => by
     rcases h with h | h | h
     · exact .inl h
     · exact .inr h
     · have h3 := h.1
       exact .inr (by omega))).up
    refine ⟨⟨⟨w8, C8⟩, rfl⟩, ?_⟩
    (refine zbf rfl ?_; (repeat (go_big_quiet_step (fail))); refine wpQuiet_nil ?_)
    refine zbg ?_
    go_wp2_with fail
    go_roundw
    case rel =>
     exact ⟨u - 1, xs ++ [ys ++ [y]], _, by go_num, by omega, Lib.hid (by have := hxl.out; simp; omega), Lib.hid (fun s hs => by
      rcases List.mem_append.1 hs with hs | hs
      · exact hxs.out s hs
      · rw [List.mem_singleton.1 hs]
        refine ⟨by simp; omega, fun z hz => ?_⟩
        rcases List.mem_append.1 hz with hz | hz
        · exact hys.out z hz
        · rw [List.mem_singleton.1 hz]
          exact zpb HY.out.1 HY.out.2), D9.out.more (by omega)⟩
    case measure => simp [intOf]; omega
  · obtain rfl : u = 0 := by omega
    have hxn : xs.length = N := by have := hxl.out; omega
    have HXN := Lib.hid hxn
    clear hxn
    have HD := Lib.hid D
    have bsw := D.src.lt
    have szD := D.sz
    have SM := Lib.hid (zlk b lo A n c code _ wr D.src (by omega))
    obtain ⟨Y, rfl⟩ : ∃ Y : World, Y = wr := ⟨_, rfl⟩
    clear D
    go_wp2_with fail
    refine SM.out.mono ?_
    rintro e Y1 ⟨Am, cm, ms, rfl, om, hm6, hm1, hmt, hmx, sm, mm⟩
    have DM := HD.out.step hbw sm mm
    have Qm := DM.q 5 (by omega)
    have Pm := DM.p5
    obtain ⟨F5, r5, hF5, K5⟩ := DM.open5 hbw
    have D5 := K5 Y1 _ (.slice Am ms.length cm) ms (Chg.refl _ _) om (fun z h => .inr h.1)
    obtain ⟨Y2, hY2⟩ : ∃ u, u = Y1.setCell ⟨g, 5, none⟩ (.slice Am ms.length cm) := ⟨_, rfl⟩
    rw [← hY2] at D5
    have HY2 := Lib.hid hY2
    have HD5 := Lib.hid D5.up
    clear hY2 D5 K5 r5 hF5 DM
    go_wp2_with fail
    rw [← HY2.out]
    refine (za4 b lo A n c code _ 4 Y2 HD5.out.src (by omega) (by omega)).mono ?_
    rintro e Y3 ⟨T', rfl, hT', s8, m8⟩
    obtain ⟨T, rfl⟩ : ∃ q : Nat, T' = q := ⟨T'.toNat, by omega⟩
    have hT3 : T ≤ 3 := by omega
    have D8 := (HD5.out.step hbw s8 m8).up
    clear hT' s8 m8
    go_wp2_with fail
    go_loopw [8] (fun i wr => ∃ (u : Nat) (tr : List (List zah)) (fs : List Int) (v2 v3 : Value), i = .int .i64 u ∧ u ≤ T ∧ Hid (tr.length + u = T ∧ fs.length = tr.length) ∧ Hid (∀ t ∈ tr, t.length ≤ 3 ∧ zej xs.length t) ∧ Hid (∀ f ∈ fs, 0 ≤ f ∧ f < (ms.length : Int)) ∧ DS w b lo A n c code g (K + 1000 + 100 * (T - u)) wr.heap.size L (.slice A1 xs.length c1) v2 v3 (.slice none 0 0) (.slice Am ms.length cm) xs tr fs [] ms wr) (fun i _ => (intOf i).toNat)
    case atStart => exact ⟨T, [], [], _, _, rfl, by omega, Lib.hid (by simp), Lib.hid (fun t ht => by simp at ht), Lib.hid (fun t ht => by simp at ht), D8.more (by omega)⟩
    case round =>
     clear D8
     obtain ⟨u, tr, fs, v2, v3, rfl, huT, hul, htr, hfs, D⟩ := hrel
     obtain ⟨A2, c2, hv2⟩ := D.shape2
     subst hv2
     obtain ⟨A3, c3, hv3⟩ := D.shape3
     subst hv3
     by_cases hlu : 0 < u
     · have hlui : (0 : Int) < (u : Int) := by omega
       have htl : tr.length ≤ 2 := by have := hul.out; omega
       have hfl : fs.length ≤ 2 := by have := hul.out; omega
       obtain ⟨U, hU⟩ : ∃ U, U = wr := ⟨_, rfl⟩
       rw [← hU] at D ⊢
       have HD := Lib.hid D
       have UP1 := D.p1
       have UP2 := D.p2
       have UX := D.sz
       obtain ⟨G, hG⟩ : ∃ G : Nat → Prop, G = fun z => z = b ∨ (w.heap.size < z ∧ z ≠ g) := ⟨_, rfl⟩
       have HG2 := Lib.hid hG
       have GX := Lib.hid (show ¬ G g from fun h => by
        rw [hG] at h
        rcases h with h | h
        · omega
        · exact h.2 rfl)
       have g1 := ChgTo.cell (F := G) UP1 (fun h => GX.out h)
       have g2 := ChgTo.cell (F := G) UP2 (fun h => GX.out h)
       have bsU := D.src.lt
       clear hU hG
       have hRS : ∀ w', Mid b (b + 1) U.drew w' → RS tS w' U.drew.heap.size (.slice A1 xs.length c1) xs := fun w' hm => by
        obtain ⟨F1, r1, hF1, -⟩ := D.open1 hbw
        have hm2 : Mid b (b + 1) U w' := (Mid.of_below (zac (Below.refl U.heap.size _) 1) b (b + 1)).trans hm
        have r2 := r1.chg (Chg.of_mid hm2) (fun z h1 h2 => by have := (hF1 z h1).1; omega)
        exact r2.readB hm2.size (fun z hz => (hF1 z hz).2.2)
       have TD := Lib.hid (zq5 b lo A n c code _ A1 xs.length c1 xs U.drew (D.src.below (zac (Below.refl U.heap.size _) 1) bsU) (by omega) (hRS U.drew (Mid.refl _ _ _)) (by have := HXN.out; omega) (Lib.hid (fun s hs => (hxs.out s hs).1)) (Lib.hid hRS))
       clear D hRS
       go_wp2_with fail
       (refine zcl G [0, 2, 3] [1, 4] 4 (.one 5 (.one 6 (.one 7 (.first 8 .rest)))) [9] [9] (by kernel_rfl) (by kernel_rfl) ?_; simp only [zaj]; simp only [List.filterMap, List.getElem?_cons_succ, List.getElem?_cons_zero]; (repeat (go_big_quiet_step (fail))); refine wpQuiet_nil ?_; (repeat (go_big_quiet_step (fail))); refine wpQuiet_nil ?_)
       refine zai rfl ?_
       go_wp2_with fail
       refine TD.out.mono ?_
       rintro e x5 ⟨A5, c5, t, rfl, ot, ht3, htd, s5, m5⟩
       have m5' : Mid b (b + 1) U x5 := (Mid.of_below (zac (Below.refl U.heap.size _) 1) b (b + 1)).trans m5
       have C5 : Chg G U x5 := Mid.toG HG2.out m5'
       have l5 : U.heap.size ≤ x5.heap.size := m5'.size
       have ot' : OA cl 64 5 U.heap.size x5.heap.size x5 (.slice A5 t.length c5) t := ot
       have o5 : OS tCl 64 x5 (Iv U.heap.size x5.heap.size) (.slice A5 t.length c5) t := OA.toOS ot'
       have tO : tT.O x5 (fun z => U.heap.size ≤ z) [.slice A5 t.length c5] t := sl_O.2 (o5.wide (fun z h => h.1))
       obtain ⟨F2, r2, hF2, K2⟩ := (HD.out.step hbw s5 m5').open2 hbw
       have K2' := Lib.hid K2
       clear K2 o5 ot ot'
       go_wp2_with fail
       refine ⟨⟨⟨x5, C5⟩, rfl⟩, zai rfl ?_⟩
       go_wp2_with fail
       refine ⟨⟨⟨_, C5.trans (Chg.of_below ((Below.refl _ _).alloc (Nat.le_refl _) _) _)⟩, rfl⟩, zai rfl ?_⟩
       have P7 : x5.cell? ⟨g, 2, none⟩ = some (.slice A2 tr.length c2) := (HD.out.step hbw s5 m5').p2
       have Q7 : x5.frozen? ⟨g, 2, none⟩ = false := (HD.out.step hbw s5 m5').q 2 (by omega)
       go_wp2_with (at_builtin; refine zaz (t := tT) zj4 #[.slice A5 t.length c5] rfl _ _ rfl r2 (Fe := fun z => U.heap.size ≤ z) (y := t) tO (fun z h1 h2 => by have a1 := (hF2 z h1).2.2; have a2 : U.heap.size ≤ z := h2; omega) rfl rfl (by unfold maxLen; omega) (by omega) ?_; intro v8 w8 own8 ch8; obtain ⟨A8, c8, e8⟩ := own8.shape; rw [List.length_append, List.length_singleton] at e8; subst e8; have P8 : w8.cell? ⟨g, 2, none⟩ = some (.slice A2 tr.length c2) := (by rw [ch8.cell1 (show g < x5.heap.size by omega) (fun h => (hF2 g h).2.1 rfl)]; exact P7); have Q8 : w8.frozen? ⟨g, 2, none⟩ = false := (by rw [ch8.frozen1 (show g < x5.heap.size by omega) (fun h => (hF2 g h).2.1 rfl)]; exact Q7))
       have C8 : Chg G U w8 := C5.trans (ch8.wide (fun z h => by rw [HG2.out]; exact .inr ⟨(hF2 z h).1, (hF2 z h).2.1⟩))
       have D9 := (K2'.out w8 _ (.slice A8 (tr.length + 1) c8) (tr ++ [t]) ch8 own8 (fun z h => by
        rcases h with h | h | h
        · exact .inl h
        · exact .inr h
        · have h3 := h.1
          exact .inr (by omega))).up
       obtain ⟨w9, hw9⟩ : ∃ u, u = w8.setCell ⟨g, 2, none⟩ (.slice A8 (tr.length + 1) c8) := ⟨_, rfl⟩
       rw [← hw9] at D9
       have HW9 := Lib.hid hw9
       clear hw9
       refine ⟨⟨⟨w8, C8⟩, rfl⟩, ?_⟩
       (refine zbf rfl ?_; (repeat (go_big_quiet_step (fail))); refine wpQuiet_nil ?_)
       refine zbg ?_
       clear g1 g2 GX
       have HD9 := Lib.hid D9
       have V3 := D9.p3
       have VX := D9.sz
       have bs9 := D9.src.lt
       obtain ⟨G9, hG9⟩ : ∃ G : Nat → Prop, G = fun z => z = b ∨ (w.heap.size < z ∧ z ≠ g) := ⟨_, rfl⟩
       have HG9 := Lib.hid hG9
       have GX9 := Lib.hid (show ¬ G9 g from fun h => by
        rw [hG9] at h
        rcases h with h | h
        · omega
        · exact h.2 rfl)
       have g3 := ChgTo.cell (F := G9) V3 (fun h => GX9.out h)
       have SP := Lib.hid (za4 b lo A n c code _ (ms.length : Int) w9.drew (D9.src.below (zac (Below.refl w9.heap.size _) 1) bs9) (by omega) (by omega))
       clear D9 hG9
       go_wp2_with fail
       rw [← HW9.out]
       (refine zcl G9 [0, 2, 3] [1] 4 (.one 4 (.one 5 (.one 6 (.first 7 .rest)))) [8] [8] (by kernel_rfl) (by kernel_rfl) ?_; simp only [zaj]; simp only [List.filterMap, List.getElem?_cons_succ, List.getElem?_cons_zero]; (repeat (go_big_quiet_step (fail))); refine wpQuiet_nil ?_; (repeat (go_big_quiet_step (fail))); refine wpQuiet_nil ?_)
       refine zai rfl ?_
       go_wp2_with fail
       refine SP.out.mono ?_
       rintro e y5 ⟨f, rfl, hf, s9, m9⟩
       have hf2 : 0 ≤ f ∧ f < (ms.length : Int) := by omega
       have m9' : Mid b (b + 1) w9 y5 := (Mid.of_below (zac (Below.refl w9.heap.size _) 1) b (b + 1)).trans m9
       have E5 : Chg G9 w9 y5 := Mid.toG HG9.out m9'
       have n5 : w9.heap.size ≤ y5.heap.size := m9'.size
       obtain ⟨F3, r3, hF3, K3⟩ := (HD9.out.step hbw s9 m9').open3 hbw
       have K3' := Lib.hid K3
       have R7 : y5.cell? ⟨g, 3, none⟩ = some (.slice A3 fs.length c3) := (HD9.out.step hbw s9 m9').p3
       have S7 : y5.frozen? ⟨g, 3, none⟩ = false := (HD9.out.step hbw s9 m9').q 3 (by omega)
       clear K3 hf
       go_wp2_with fail
       refine ⟨⟨⟨y5, E5⟩, rfl⟩, zai rfl ?_⟩
       go_wp2_with fail
       refine ⟨⟨⟨_, E5.trans (Chg.of_below ((Below.refl _ _).alloc (Nat.le_refl _) _) _)⟩, rfl⟩, zai rfl ?_⟩
       go_wp2_with (at_builtin; refine zaz zbl #[.int .i64 f] rfl _ _ rfl r3 (Fe := fun _ => False) (y := f) rfl (fun _ _ h => h) rfl rfl (by unfold maxLen; omega) (by omega) ?_; intro v10 w10 own10 ch10; obtain ⟨A10, c10, e10⟩ := own10.shape; rw [List.length_append, List.length_singleton] at e10; subst e10; have P10 : w10.cell? ⟨g, 3, none⟩ = some (.slice A3 fs.length c3) := (by rw [ch10.cell1 (show g < y5.heap.size by omega) (fun h => (hF3 g h).2.1 rfl)]; exact R7); have Q10 : w10.frozen? ⟨g, 3, none⟩ = false := (by rw [ch10.frozen1 (show g < y5.heap.size by omega) (fun h => (hF3 g h).2.1 rfl)]; exact S7))
       have C10 : Chg G9 w9 w10 := E5.trans (ch10.wide (fun z h => by rw [HG9.out]; exact .inr ⟨(hF3 z h).1, (hF3 z h).2.1⟩))
       have D11 := Lib.hid (K3'.out w10 _ (.slice A10 (fs.length + 1) c10) (fs ++ [f]) ch10 own10 (fun z h => by
        rcases h with h | h | h
        · exact .inl h
        · exact h.elim
        · have h3 := h.1
          exact .inr (by omega))).up
       refine ⟨⟨⟨w10, C10⟩, rfl⟩, ?_⟩
       (refine zbf rfl ?_; (repeat (go_big_quiet_step (fail))); refine wpQuiet_nil ?_)
       refine zbg ?_
       go_wp2_with fail
       go_roundw
       case rel =>
        exact ⟨u - 1, tr ++ [t], fs ++ [f], _, _, by go_num, by omega, Lib.hid (by have := hul.out; simp; omega), Lib.hid (fun z hz => by
         rcases List.mem_append.1 hz with hz | hz
         · exact htr.out z hz
         · rw [List.mem_singleton.1 hz]
           exact ⟨ht3, htd.out⟩), Lib.hid (fun z hz => by
         rcases List.mem_append.1 hz with hz | hz
         · exact hfs.out z hz
         · rw [List.mem_singleton.1 hz]
           exact hf2), D11.out.more (by omega)⟩
       case measure => simp [intOf]; omega
     · obtain rfl : u = 0 := by omega
       have HD := Lib.hid D
       have UP5 := D.p5
       have szD := D.sz
       obtain ⟨Y, rfl⟩ : ∃ Y : World, Y = wr := ⟨_, rfl⟩
       clear D
       go_wp2_with fail
       go_loopw [9] (fun i wr => ∃ (u : Nat) (ps : List zaf) (v4 : Value), i = .int .i64 u ∧ u ≤ ms.length ∧ Hid (ps.length = u) ∧ Hid (∀ p ∈ ps, p = (0, [], [], []) ∨ M.pD 1 1 lin p) ∧ DS w b lo A n c code g (K + 1400 + 1504 * u) wr.heap.size L (.slice A1 xs.length c1) (.slice A2 tr.length c2) (.slice A3 fs.length c3) v4 (.slice Am ms.length cm) xs tr fs ps ms wr) (fun i _ => ms.length - (intOf i).toNat)
       case atStart => exact ⟨0, [], _, rfl, by omega, Lib.hid rfl, Lib.hid (fun p hp => by simp at hp), HD.out.more (by omega)⟩
       case round =>
        clear HD
        obtain ⟨u, ps, v4, rfl, hum, hpl, hps, D⟩ := hrel
        obtain ⟨A4, c4, hv4⟩ := D.shape4
        subst hv4
        by_cases hlu : u < ms.length
        · have hlui : (u : Int) < (ms.length : Int) := by omega
          have hpb : ps.length ≤ 5 := by have := hpl.out; omega
          obtain ⟨U, hU⟩ : ∃ U, U = wr := ⟨_, rfl⟩
          rw [← hU] at D ⊢
          clear hU
          have szU := D.sz
          have bsU := D.src.lt
          obtain ⟨U1, hU1⟩ : ∃ u1, u1 = U.alloc (.cells #[.int .i64 0, .slice none 0 0, .slice none 0 0, .slice none 0 0] 36) := ⟨_, rfl⟩
          have BU : Below U.heap.size U U1 := by rw [hU1]; exact (Below.refl _ _).alloc (Nat.le_refl _) _
          have zU : U.heap.size < U1.heap.size := by rw [hU1]; simp
          have eU : ∀ j u, (#[Value.int .i64 0, .slice none 0 0, .slice none 0 0, .slice none 0 0] : Array Value)[j]? = some u → U1.cell? ⟨U.heap.size, j, none⟩ = some u ∧ U1.frozen? ⟨U.heap.size, j, none⟩ = false := fun j u hj => by
           rw [hU1]
           refine ⟨?_, by simp [go_sem]⟩
           rw [cell_of_row _ U.heap.size j _ 36 (0, 0) (heap_alloc_new U _)]
           exact hj
          have D1 := D.step hbw (D.src.below BU bsU) (Mid.of_below BU b (b + 1))
          have HD1 := Lib.hid D1
          have s1 := D1.src
          have HU1 := Lib.hid hU1
          have HEU := Lib.hid eU
          clear hU1 BU eU D D1
          go_wp2_with fail
          rw [← HU1.out]
          refine (zd7 b lo A n c code _ 2 U1 s1 (by omega) (by omega)).mono ?_
          rintro e X2 ⟨r, rfl, s2, m2⟩
          have D2 := HD1.out.step hbw s2 m2
          have z2 := m2.size
          have y0 := m2.cellK zU (.inr (by omega)) (HEU.out 0 _ rfl).1
          have y1 := m2.cellK zU (.inr (by omega)) (HEU.out 1 _ rfl).1
          have y2 := m2.cellK zU (.inr (by omega)) (HEU.out 2 _ rfl).1
          have y3 := m2.cellK zU (.inr (by omega)) (HEU.out 3 _ rfl).1
          have f0 := m2.frozK zU (.inr (by omega)) (HEU.out 0 _ rfl).2
          have f1 := m2.frozK zU (.inr (by omega)) (HEU.out 1 _ rfl).2
          have f2 := m2.frozK zU (.inr (by omega)) (HEU.out 2 _ rfl).2
          have f3 := m2.frozK zU (.inr (by omega)) (HEU.out 3 _ rfl).2
          have zX : U.heap.size < X2.heap.size := by omega
          clear m2 s1 HD1
          cases r
          · have pO : tP.O X2 (fun z => U.heap.size ≤ z) [.int .i64 0, .slice none 0 0, .slice none 0 0, .slice none 0 0] ((0, [], [], []) : zaf) := tP_O.2 ⟨none, 0, 0, none, 0, 0, none, 0, 0, fun _ => False, fun _ => False, fun _ => False, rfl, sl_O.2 (OS.nil _ _ _ _), sl_O.2 (OS.nil _ _ _ _), sl_O.2 (OS.nil _ _ _ _), fun _ h => h.elim, fun _ h => h.elim, fun _ h => h.elim, fun _ h => h.elim, fun _ h => h.elim, fun _ h => h.elim⟩
            obtain ⟨F4, r4, hF4, K4⟩ := D2.open4 hbw
            have P7 : X2.cell? ⟨g, 4, none⟩ = some (.slice A4 ps.length c4) := D2.p4
            have Q7 : X2.frozen? ⟨g, 4, none⟩ = false := D2.q 4 (by omega)
            have G7 := D2.sz
            have K4' := Lib.hid K4
            clear K4 D2
            go_wp2_with (at_builtin; refine zaz (t := tP) zie #[.int .i64 0, .slice none 0 0, .slice none 0 0, .slice none 0 0] rfl _ _ rfl r4 (Fe := fun z => U.heap.size ≤ z) (y := ((0, [], [], []) : zaf)) pO (fun z h1 h2 => by have a1 := (hF4 z h1).2.2; have a2 : U.heap.size ≤ z := h2; omega) rfl rfl (by unfold maxLen; omega) (by omega) ?_; intro v8 w8 own8 ch8; obtain ⟨A8, c8, e8⟩ := own8.shape; rw [List.length_append, List.length_singleton] at e8; subst e8; have P8 : w8.cell? ⟨g, 4, none⟩ = some (.slice A4 ps.length c4) := (by rw [ch8.cell1 (show g < X2.heap.size by omega) (fun h => (hF4 g h).2.1 rfl)]; exact P7); have Q8 : w8.frozen? ⟨g, 4, none⟩ = false := (by rw [ch8.frozen1 (show g < X2.heap.size by omega) (fun h => (hF4 g h).2.1 rfl)]; exact Q7))
            have D9 := Lib.hid (K4'.out w8 _ (.slice A8 (ps.length + 1) c8) (ps ++ [((0, [], [], []) : zaf)]) ch8 own8 (fun z h => by
             rcases h with h | h | h
             · exact .inl h
             · exact .inr h
             · have h3 := h.1
               exact .inr (by omega))).up
            go_roundw
            case rel =>
             (repeat apply Exists.intro)
             exact ⟨⟨u + 1, ps ++ [((0, [], [], []) : zaf)], _, by go_num, by omega, Lib.hid (by have := hpl.out; simp; omega), Lib.hid (fun z hz => by
              rcases List.mem_append.1 hz with hz | hz
              · exact hps.out z hz
              · rw [List.mem_singleton.1 hz]
                exact .inl rfl), D9.out.more (by omega)⟩, rfl⟩
            case measure => simp [intOf]; omega
          · have HD2 := Lib.hid D2
            clear D2
            go_wp2_with fail
            refine (zhf b lo A n c code _ 1 1 5 lin X2 s2 (by omega) (by omega) (by omega) (by omega) (fun _ => by decide)).mono ?_
            rintro e X3 ⟨i3, B1, m1, d1, B2, m2, d2, B3, m3, d3, px, rfl, po, pd, s3, mm3⟩
            have D3 := HD2.out.step hbw s3 mm3
            have z3 := mm3.size
            have bsX := s2.lt
            replace y0 := mm3.cellK zX (.inr (by omega)) y0
            replace y1 := mm3.cellK zX (.inr (by omega)) y1
            replace y2 := mm3.cellK zX (.inr (by omega)) y2
            replace y3 := mm3.cellK zX (.inr (by omega)) y3
            replace f0 := mm3.frozK zX (.inr (by omega)) f0
            replace f1 := mm3.frozK zX (.inr (by omega)) f1
            replace f2 := mm3.frozK zX (.inr (by omega)) f2
            replace f3 := mm3.frozK zX (.inr (by omega)) f3
            obtain ⟨X4, hX4⟩ : ∃ u, u = (((X3.setCell ⟨U.heap.size, 0, none⟩ (.int .i64 i3)).setCell ⟨U.heap.size, 1, none⟩ (.slice B1 m1 d1)).setCell ⟨U.heap.size, 2, none⟩ (.slice B2 m2 d2)).setCell ⟨U.heap.size, 3, none⟩ (.slice B3 m3 d3) := ⟨_, rfl⟩
            have st : ∀ (u : World) (o : Nat) (x : Value), Chg (fun z => z = U.heap.size) u (u.setCell ⟨U.heap.size, o, none⟩ x) := fun u o x => Chg.set u U.heap.size o _ rfl
            have C4 : Chg (fun z => z = U.heap.size) X3 X4 := by rw [hX4]; exact (((st _ _ _).trans (st _ _ _)).trans (st _ _ _)).trans (st _ _ _)
            have B4 : Below U.heap.size X3 X4 := C4.toBelow (fun z h => by omega) (by omega)
            have z4 := C4.size
            have k0 : X4.cell? ⟨U.heap.size, 0, none⟩ = some (.int .i64 i3) := by
             rw [hX4, zae _ _ _ (by decide), zae _ _ _ (by decide), zae _ _ _ (by decide)]
             exact World.cell?_setCell_same _ _ _ y0
            have k1 : X4.cell? ⟨U.heap.size, 1, none⟩ = some (.slice B1 m1 d1) := by
             rw [hX4, zae _ _ _ (by decide), zae _ _ _ (by decide)]
             exact World.cell?_setCell_same _ _ _ (by rw [zae _ _ _ (by decide)]; exact y1)
            have k2 : X4.cell? ⟨U.heap.size, 2, none⟩ = some (.slice B2 m2 d2) := by
             rw [hX4, zae _ _ _ (by decide)]
             exact World.cell?_setCell_same _ _ _ (by rw [zae _ _ _ (by decide), zae _ _ _ (by decide)]; exact y2)
            have k3 : X4.cell? ⟨U.heap.size, 3, none⟩ = some (.slice B3 m3 d3) := by
             rw [hX4]
             exact World.cell?_setCell_same _ _ _ (by rw [zae _ _ _ (by decide), zae _ _ _ (by decide), zae _ _ _ (by decide)]; exact y3)
            have D4 := D3.off hbw (C4.wide (fun z h => by show U.heap.size ≤ z; have h2 : z = U.heap.size := h; omega))
            have pO : tP.O X4 (fun z => U.heap.size ≤ z) [.int .i64 i3, .slice B1 m1 d1, .slice B2 m2 d2, .slice B3 m3 d3] px := tP.owide (fun z hz => by have h1 : X2.heap.size ≤ z := hz.1; show U.heap.size ≤ z; omega) (tP.okeep (fun z hz => C4.block z hz.2 (fun e => by have h1 : X2.heap.size ≤ z := hz.1; omega)) po)
            have HX4 := Lib.hid hX4
            have zX4 : U.heap.size < X4.heap.size := by omega
            clear hX4 st C4 B4 D3 po
            go_upto_region 19 with fail
            rw [← HX4.out]
            obtain ⟨F4, r4, hF4, K4⟩ := D4.open4 hbw
            have P7 : X4.cell? ⟨g, 4, none⟩ = some (.slice A4 ps.length c4) := D4.p4
            have Q7 : X4.frozen? ⟨g, 4, none⟩ = false := D4.q 4 (by omega)
            have G7 := D4.sz
            have K4' := Lib.hid K4
            clear K4 D4
            go_wp2_with (at_builtin; refine zaz (t := tP) zie #[.int .i64 i3, .slice B1 m1 d1, .slice B2 m2 d2, .slice B3 m3 d3] rfl _ _ rfl r4 (Fe := fun z => U.heap.size ≤ z) (y := px) pO (fun z h1 h2 => by have a1 := (hF4 z h1).2.2; have a2 : U.heap.size ≤ z := h2; omega) rfl rfl (by unfold maxLen; omega) (by omega) ?_; intro v8 w8 own8 ch8; obtain ⟨A8, c8, e8⟩ := own8.shape; rw [List.length_append, List.length_singleton] at e8; subst e8; have P8 : w8.cell? ⟨g, 4, none⟩ = some (.slice A4 ps.length c4) := (by rw [ch8.cell1 (show g < X4.heap.size by omega) (fun h => (hF4 g h).2.1 rfl)]; exact P7); have Q8 : w8.frozen? ⟨g, 4, none⟩ = false := (by rw [ch8.frozen1 (show g < X4.heap.size by omega) (fun h => (hF4 g h).2.1 rfl)]; exact Q7))
            have D9 := Lib.hid (K4'.out w8 _ (.slice A8 (ps.length + 1) c8) (ps ++ [px]) ch8 own8 (fun z h => by
             rcases h with h | h | h
             · exact .inl h
             · exact .inr h
             · have h3 := h.1
               exact .inr (by omega))).up
            go_roundw
            case rel =>
             (repeat apply Exists.intro)
             exact ⟨⟨u + 1, ps ++ [px], _, by go_num, by omega, Lib.hid (by have := hpl.out; simp; omega), Lib.hid (fun z hz => by
              rcases List.mem_append.1 hz with hz | hz
              · exact hps.out z hz
              · rw [List.mem_singleton.1 hz]
                exact .inr pd.out), D9.out.more (by omega)⟩, rfl⟩
            case measure => simp [intOf]; omega
        · obtain rfl : u = ms.length := by omega
          have lgL := D.sz
          have hne : g ≠ w.heap.size := by omega
          have hne' : w.heap.size ≠ g := by omega
          have ZD := Lib.hid (show M.zD lin (L, xs, tr, fs, ps, ms) from ⟨HL.out, by have := HXN.out; show 1 ≤ xs.length ∧ xs.length ≤ 3; omega, hxs.out, by have := hul.out; show tr.length ≤ 3; omega, htr.out, hul.out.2, hfs.out, hpl.out, hps.out, ⟨hm1, hm6⟩, hmt.out, hmx.out⟩)
          have z0 := D.p0
          have z1 := D.p1
          have z2 := D.p2
          have z3 := D.p3
          have z4 := D.p4
          have z5 := D.p5
          have r0 := (D.e 0 (by omega)).1
          have r1 := (D.e 1 (by omega)).1
          have r2 := (D.e 2 (by omega)).1
          have r3 := (D.e 3 (by omega)).1
          have r4 := (D.e 4 (by omega)).1
          have r5 := (D.e 5 (by omega)).1
          have v0 := (D.e 0 (by omega)).2
          have v1 := (D.e 1 (by omega)).2
          have v2 := (D.e 2 (by omega)).2
          have v3 := (D.e 3 (by omega)).2
          have v4 := (D.e 4 (by omega)).2
          have v5 := (D.e 5 (by omega)).2
          rw [if_pos rfl] at r0
          rw [if_neg (by decide)] at r1 r2 r3 r4 r5
          have FIN := Lib.hid ((D.more (K' := K + 20000) (by omega)).fin hbw ZD.out)
          clear D hxs htr hfs hps
          go_wp2
          refine bodyPost_ret (v := .agg #[.int .i64 L, .slice A1 xs.length c1, .slice A2 tr.length c2, .slice A3 fs.length c3, .slice A4 ps.length c4, .slice Am ms.length cm]) (by simp [results, Tryz.results20, go_sem, r0, r1, r2, r3, r4, r5, v0, v1, v2, v3, v4, v5, hne, hne']) rfl ?_
          exact FIN.out
end
section
open Go.RowKit
end
section
open Go.RowKit Go.Sort
theorem zek {x : Node} {tb : Int} (h : zak x tb = true) : M.inn x.1 1 17 = true ∧ (x.1 = 6 → 1 ≤ x.2.1 ∧ x.2.1 ≤ 16) ∧ (x.1 = 17 → 1 ≤ x.2.2.1 ∧ x.2.2.1 ≤ 16) := by
 obtain ⟨k, a, b, l⟩ := x
 rw [zak] at h
 simp only [Bool.and_eq_true] at h
 refine ⟨h.1, fun e => ?_, fun e => ?_⟩
 · simp only at e
   subst e
   have h2 := h.2.1.1.1.1
   simp [M.aI, M.kd, zfl, M.inn] at h2
   exact h2
 · simp only at e
   subst e
   have h2 := h.2.1.1.1.2
   simp [M.bI, M.kd, zfl, M.inn] at h2
   exact h2
theorem zel (w : World) (x : Int) : OI 2 w.heap.size (w.alloc (.cells #[.int .i64 x] 2)) (.slice (some ⟨w.heap.size, 0, none⟩) 1 1) [x] :=
 ⟨rfl, .inr ⟨w.heap.size, 1, #[.int .i64 x], rfl, Nat.le_refl _, heap_alloc_new w _, Nat.le_refl _, by simp [maxLen], rfl, rfl⟩⟩
theorem zq7 (a0 a1 a2 : Int) (A : Option Addr) (n c : Nat) (xs : List Int) (tb : Int) (w : World) (hok : zak (a0, a1, a2, xs) tb = true) :
 Calls Tryz.prog 132 #[.agg #[.int .i64 a0, .int .i64 a1, .int .i64 a2, .slice A n c]] w (Ret1 2 w (za3 (a0, a1, a2, xs))) := by
 obtain ⟨hk, h6, h17⟩ := zek hok
 simp only at hk h6 h17
 obtain ⟨W, hW⟩ : ∃ W, W = w.alloc (.cells #[.int .i64 a0, .int .i64 a1, .int .i64 a2, .slice A n c] 122) := ⟨_, rfl⟩
 have B0 : Below w.heap.size w W := by rw [hW]; exact (Below.refl _ _).alloc (Nat.le_refl _) _
 have p0 : W.cell? ⟨w.heap.size, 0, none⟩ = some (.int .i64 a0) := by rw [hW]; simp [go_sem]
 have p1 : W.cell? ⟨w.heap.size, 1, none⟩ = some (.int .i64 a1) := by rw [hW]; simp [go_sem]
 have p2 : W.cell? ⟨w.heap.size, 2, none⟩ = some (.int .i64 a2) := by rw [hW]; simp [go_sem]
 have lW : w.heap.size < W.heap.size := by rw [hW]; simp
 have HW := Lib.hid hW
 clear hW hok
 rcases ze5 hk with rfl | rfl | rfl | rfl | rfl | rfl | rfl | rfl | rfl | rfl | rfl | rfl | rfl | rfl | rfl | rfl | rfl
 case inr.inr.inr.inr.inr.inl =>
  have h6' := h6 rfl
  go_enter Tryz.func132, Tryz.ntmps132
  go_wp2_with (go_at_call 57; rw [← HW.out]; refine (zcv _ _ (by omega) (by omega)).mono ?_; rintro e w1 ⟨v1, rfl, own1, bel1⟩)
  go_ret
  exact ⟨_, rfl, own1.base (by omega), zaa B0 bel1⟩
 case inr.inr.inr.inr.inr.inr.inr.inr.inr.inr.inr.inr.inr.inr.inr.inr =>
  have h17' := h17 rfl
  go_enter Tryz.func132, Tryz.ntmps132
  go_wp2_with (go_at_call 57; rw [← HW.out]; refine (zcv _ _ (by omega) (by omega)).mono ?_; rintro e w1 ⟨v1, rfl, own1, bel1⟩)
  go_ret
  exact ⟨_, rfl, own1.base (by omega), zaa B0 bel1⟩
 case inr.inr.inr.inr.inr.inr.inr.inr.inr.inr.inr.inl =>
  have O1 := zel W a1
  have B1 : Below w.heap.size w (W.alloc (.cells #[.int .i64 a1] 2)) := B0.alloc B0.size _
  rw [HW.out] at O1 B1
  have hz : (w.alloc (.cells #[.int .i64 12, .int .i64 a1, .int .i64 a2, .slice A n c] 122)).heap.size = w.heap.size + 1 := by simp
  rw [hz] at O1
  go_enter Tryz.func132, Tryz.ntmps132
  go_wp2
  go_ret
  exact ⟨_, rfl, O1.base (by omega), B1⟩
 case inr.inr.inr.inr.inr.inr.inr.inr.inr.inr.inr.inr.inr.inl =>
  have O1 := zel W a1
  have B1 : Below w.heap.size w (W.alloc (.cells #[.int .i64 a1] 2)) := B0.alloc B0.size _
  rw [HW.out] at O1 B1
  have hz : (w.alloc (.cells #[.int .i64 14, .int .i64 a1, .int .i64 a2, .slice A n c] 122)).heap.size = w.heap.size + 1 := by simp
  rw [hz] at O1
  go_enter Tryz.func132, Tryz.ntmps132
  go_wp2
  go_ret
  exact ⟨_, rfl, O1.base (by omega), B1⟩
 all_goals
  go_enter Tryz.func132, Tryz.ntmps132
  go_wp2_with (go_at_call 57; rw [← HW.out]; refine (zcv _ _ (by omega) (by omega)).mono ?_; rintro e w1 ⟨v1, rfl, own1, bel1⟩)
  go_ret
  exact ⟨_, rfl, own1.base (by omega), zaa B0 bel1⟩
def zc4 (fs vs : List Int) : List Int := fs.map fun f => M.i_ vs f.toNat
theorem zq8 (fs vs : List Int) : (zc4 fs vs).length = fs.length := by simp [zc4]
theorem zq9 {fs vs : List Int} {k : Nat} {f : Int} (h : fs[k]? = some f) : (zc4 fs vs).take (k + 1) = (zc4 fs vs).take k ++ [M.i_ vs f.toNat] := by
 rw [M.take_at]
 simp [zc4, h]
theorem zhl {vs : List Int} {k : Nat} {v : Int} (h : vs[k]? = some v) : M.i_ vs k = v := by rw [M.i_, h]; rfl
theorem zlm (A A' : Option Addr) (n c n' c' : Nat) (fs vs : List Int) (w : World) (hx : RI w w.heap.size A n fs) (hv : RI w w.heap.size A' n' vs) (hn : n ≤ 1000000000) (hn' : n' ≤ 1000000000) (hr : Hid (∀ f ∈ fs, 0 ≤ f ∧ f < n')) :
 Calls Tryz.prog 144 #[.slice A n c, .slice A' n' c'] w (Ret1 2 w (zc4 fs vs)) := by
 have hl := Lib.hid hx.len
 go_enter Tryz.func144, Tryz.ntmps144
 go_wp2_with fail
 go_loopw [5, 11] (fun v i wr => ∃ k : Nat, i = .int .i64 k ∧ k ≤ n ∧ OI 2 w.heap.size wr v ((zc4 fs vs).take k) ∧ Below w.heap.size w wr) (fun _ i _ => n - (intOf i).toNat)
 case atStart => exact ⟨0, rfl, by omega, OI.made _ _, (Below.refl _ _).alloc (Nat.le_refl _) _⟩
 case round =>
  obtain ⟨k, rfl, hk, own, hb⟩ := hrel
  by_cases hlt : k < n
  · obtain ⟨ad, f, rfl, hab, X, hc⟩ := ((hx.below hb).more hb.size).at hlt
    have hfr := hr.out f (List.mem_of_getElem? X.out)
    obtain ⟨m, rfl⟩ : ∃ m : Nat, f = (m : Int) := ⟨f.toNat, by omega⟩
    obtain ⟨ad2, y, rfl, hab2, Y, hc2⟩ := ((hv.below hb).more hb.size).at (k := m) (by omega)
    have HT := Lib.hid (show (zc4 fs vs).take (k + 1) = (zc4 fs vs).take k ++ [y] by rw [zq9 X.out, Int.toNat_natCast, zhl Y.out])
    have hk1 : ((zc4 fs vs).take k).length ≤ 1000000000 := by rw [List.length_take]; omega
    have hm0 : (0 : Int) ≤ (m : Int) := by omega
    have hmn : (m : Int) < (n' : Int) := by omega
    clear hfr
    go_wp2_with (at_builtin; refine ze2 zbl rfl _ _ rfl own rfl rfl rfl (by unfold maxLen; omega) (by omega) hb.size ?_; intro v1 w1 own1 gr1 bel1)
    go_roundw
    case rel => exact ⟨k + 1, by go_num, by omega, by rw [HT.out]; exact OI.push own1, hb.trans bel1⟩
    case measure => simp [intOf]; omega
  · go_wp2
    go_ret
    rw [List.take_of_length_le (by rw [zq8, hl.out]; omega)] at own
    exact ⟨_, rfl, own, hb⟩
end
section
open Go.RowKit Go.Sort
theorem zbb {w : World} {B : Nat} {A : Option Addr} {n : Nat} {xs : List Int} (h : RI w B A n xs) (hn : 0 < n) : ∃ b o, A = some ⟨b, o, none⟩ ∧ b < B ∧ ∀ k x, xs[k]? = some x → w.cell? ⟨b, o + k, none⟩ = some (.int .i64 x) := by
 obtain ⟨ad, rfl, hb, hc⟩ := h.2 hn
 have hl : 0 < xs.length := by rw [h.len]; exact hn
 have h0 := hc 0 (.int .i64 xs[0]) (by simp [hl])
 have hsp := zgz h0
 have e : ad = ⟨ad.block, ad.off, none⟩ := by simpa [Addr.add] using hsp
 refine ⟨ad.block, ad.off, by rw [← e], hb, fun k x hx => ?_⟩
 have := hc k (.int .i64 x) (by simp [hx])
 rw [e, Addr.add_lit] at this
 exact this
def zgp (k : Int) : Nat := if k = 1 then 1 else (M.ar k.toNat).toNat
theorem len0 {xs : List Int} (h : xs.length = 0) : xs = [] := List.eq_nil_of_length_eq_zero h
theorem len1 {xs : List Int} (h : xs.length = 1) : ∃ a, xs = [a] := by
 match xs, h with
 | [a], _ => exact ⟨a, rfl⟩
theorem len2 {xs : List Int} (h : xs.length = 2) : ∃ a b, xs = [a, b] := by
 match xs, h with
 | [a, b], _ => exact ⟨a, b, rfl⟩
theorem len3 {xs : List Int} (h : xs.length = 3) : ∃ a b c, xs = [a, b, c] := by
 match xs, h with
 | [a, b, c], _ => exact ⟨a, b, c, rfl⟩
theorem zra (n : Int) : bits .and .i64 n 1 = n % 2 := by
 have h0 : 0 ≤ n % 18446744073709551616 := Int.emod_nonneg _ (by decide)
 have hx : ((BitVec.ofInt 64 n &&& BitVec.ofInt 64 1).toNat : Int) = n % 2 := by
  rw [BitVec.toNat_and, show (BitVec.ofInt 64 1).toNat = 2 ^ 1 - 1 from by decide, Nat.and_two_pow_sub_one_eq_mod, BitVec.toNat_ofInt]
  omega
 show IntKind.i64.wrap ((BitVec.ofInt 64 n &&& BitVec.ofInt 64 1).toNat : Int) = _
 rw [hx, IntKind.wrap_i64]
 omega
theorem ziv (x : Int) (w : World) : Calls Tryz.prog 151 #[.int .i64 x] w fun e w' => e = .returned (.int .i64 (x % 4294967296)) ∧ w = w' := by
 go_enter Tryz.func151, Tryz.ntmps151
 go_wp2
 go_ret
 exact ⟨rfl, rfl⟩
theorem zln (x : Int) (w : World) : Calls Tryz.prog 152 #[.int .i64 x] w fun e w' => e = .returned (.bool (decide (x % 2 = 1))) ∧ w = w' := by
 go_enter Tryz.func152, Tryz.ntmps152
 go_wp2
 go_ret
 exact ⟨zab (by rw [zra, Bool.eq_iff_iff]; simp), rfl⟩
theorem zrb (x : Int) (w : World) : Calls Tryz.prog 149 #[.int .i64 x] w fun e w' => e = .returned (.int .i64 (zdw x)) ∧ w = w' := by
 obtain ⟨u, hu⟩ : ∃ u : Nat, x % 4294967296 = (u : Int) := ⟨(x % 4294967296).toNat, by omega⟩
 have HU := Lib.hid hu
 have hub : u < 4294967296 := by omega
 by_cases h : x % 2 = 1
 · have HD := Lib.hid (decide_eq_true h)
   have R := Lib.hid (show zdw x = wrap32 (zio ((u : Int) / 2)) by rw [zdw, if_pos h, hu])
   clear h hu
   go_enter Tryz.func149, Tryz.ntmps149
   go_wp2_with (first
    | (go_at_call 151; refine (ziv _ _).mono ?_; rw [HU.out]; rintro e w' ⟨rfl, rfl⟩)
    | (go_at_call 152; refine (zln _ _).mono ?_; rw [HD.out]; rintro e w' ⟨rfl, rfl⟩)
    | (go_at_call 58; refine (zc7 _ _).mono ?_; rintro e w' ⟨rfl, rfl⟩))
   go_ret
   exact ⟨zbv (by rw [R.out, zio]), rfl⟩
 · have HD := Lib.hid (decide_eq_false h)
   have R := Lib.hid (show zdw x = wrap32 ((u : Int) / 2) by rw [zdw, if_neg h, hu])
   clear h hu
   go_enter Tryz.func149, Tryz.ntmps149
   go_wp2_with (first
    | (go_at_call 151; refine (ziv _ _).mono ?_; rw [HU.out]; rintro e w' ⟨rfl, rfl⟩)
    | (go_at_call 152; refine (zln _ _).mono ?_; rw [HD.out]; rintro e w' ⟨rfl, rfl⟩)
    | (go_at_call 58; refine (zc7 _ _).mono ?_; rintro e w' ⟨rfl, rfl⟩))
   go_ret
   exact ⟨zbv (by rw [R.out]), rfl⟩
theorem zrc (t : List Int) (x : Int) (hn : 1 ≤ t.length ∧ t.length ≤ 16) : ∃ (u q : Nat) (y : Int), x % 4294967296 = (u : Int) ∧ u < 4294967296 ∧ ((t.length : Int) * (u : Int)) / 4294967296 = (q : Int) ∧ q < t.length ∧ t[q]? = some y ∧ zgh t x = y := by
 obtain ⟨u, hu⟩ : ∃ u : Nat, x % 4294967296 = (u : Int) := ⟨(x % 4294967296).toNat, by omega⟩
 have hub : u < 4294967296 := by omega
 obtain ⟨q, hq⟩ : ∃ q : Nat, ((t.length : Int) * (u : Int)) / 4294967296 = (q : Int) := ⟨t.length * u / 4294967296, by simp⟩
 have hqt : q < t.length := by
  have h1 : t.length * u < t.length * 4294967296 := Nat.mul_lt_mul_of_pos_left hub (by omega)
  have h2 : ((t.length : Int) * (u : Int)) = ((t.length * u : Nat) : Int) := by simp
  rw [h2] at hq
  omega
 exact ⟨u, q, t[q], hu, hub, hq, hqt, List.getElem?_eq_getElem hqt, by rw [zgh, hu, hq, Int.toNat_natCast, zhl (List.getElem?_eq_getElem hqt)]⟩
theorem zrd (a1 a2 : Int) (A : Option Addr) (n c : Nat) (b o ci : Nat) (i0 : Int) (At : Option Addr) (nt ct : Nat) (w : World) (c0 : w.cell? ⟨b, o, none⟩ = some (.int .i64 i0)) :
 Calls Tryz.prog 150 #[.agg #[.int .i64 1, .int .i64 a1, .int .i64 a2, .slice A n c], .slice At nt ct, .slice (some ⟨b, o, none⟩) 1 ci] w fun e w' => e = .returned (.int .i64 (i0)) ∧ Below w.heap.size w w' := by
 have lb : b < w.heap.size := World.block_lt_of_cell? w _ c0
 go_enter Tryz.func150, Tryz.ntmps150
 go_wp2
 go_ret
 exact ⟨rfl, (Below.refl _ _).alloc (Nat.le_refl _) _⟩
theorem zre (a1 a2 : Int) (A : Option Addr) (n c : Nat) (Ai : Option Addr) (ci : Nat) (At : Option Addr) (nt ct : Nat) (w : World) :
 Calls Tryz.prog 150 #[.agg #[.int .i64 2, .int .i64 a1, .int .i64 a2, .slice A n c], .slice At nt ct, .slice Ai 0 ci] w fun e w' => e = .returned (.int .i64 (a1)) ∧ Below w.heap.size w w' := by
 skip
 go_enter Tryz.func150, Tryz.ntmps150
 go_wp2
 go_ret
 exact ⟨rfl, (Below.refl _ _).alloc (Nat.le_refl _) _⟩
theorem zrf (a1 a2 : Int) (A : Option Addr) (n c : Nat) (b o ci : Nat) (i0 i1 : Int) (At : Option Addr) (nt ct : Nat) (w : World) (c0 : w.cell? ⟨b, o, none⟩ = some (.int .i64 i0)) (c1 : w.cell? ⟨b, o + 1, none⟩ = some (.int .i64 i1)) (hi : -2147483648 ≤ i0 ∧ i0 ≤ 2147483647 ∧ -2147483648 ≤ i1 ∧ i1 ≤ 2147483647) :
 Calls Tryz.prog 150 #[.agg #[.int .i64 3, .int .i64 a1, .int .i64 a2, .slice A n c], .slice At nt ct, .slice (some ⟨b, o, none⟩) 2 ci] w fun e w' => e = .returned (.int .i64 (wrap32 (i0 + i1))) ∧ Below w.heap.size w w' := by
 have lb : b < w.heap.size := World.block_lt_of_cell? w _ c0
 go_enter Tryz.func150, Tryz.ntmps150
 go_wp2_with fail
 go_quiet (exact zbd (zc7 _ _))
 go_wp2
 go_ret
 exact ⟨zbv (by first | rfl | exact M.wrap32_64 _ | exact (M.wrap32_64 _).symm), zac ((Below.refl _ _).alloc (Nat.le_refl _) _) _⟩
theorem zrg (a1 a2 : Int) (A : Option Addr) (n c : Nat) (b o ci : Nat) (i0 i1 : Int) (At : Option Addr) (nt ct : Nat) (w : World) (c0 : w.cell? ⟨b, o, none⟩ = some (.int .i64 i0)) (c1 : w.cell? ⟨b, o + 1, none⟩ = some (.int .i64 i1)) (hi : -2147483648 ≤ i0 ∧ i0 ≤ 2147483647 ∧ -2147483648 ≤ i1 ∧ i1 ≤ 2147483647) :
 Calls Tryz.prog 150 #[.agg #[.int .i64 4, .int .i64 a1, .int .i64 a2, .slice A n c], .slice At nt ct, .slice (some ⟨b, o, none⟩) 2 ci] w fun e w' => e = .returned (.int .i64 (wrap32 (i0 - i1))) ∧ Below w.heap.size w w' := by
 have lb : b < w.heap.size := World.block_lt_of_cell? w _ c0
 go_enter Tryz.func150, Tryz.ntmps150
 go_wp2_with fail
 go_quiet (exact zbd (zc7 _ _))
 go_wp2
 go_ret
 exact ⟨zbv (by first | rfl | exact M.wrap32_64 _ | exact (M.wrap32_64 _).symm), zac ((Below.refl _ _).alloc (Nat.le_refl _) _) _⟩
theorem zrh (a1 a2 : Int) (A : Option Addr) (n c : Nat) (b o ci : Nat) (i0 : Int) (At : Option Addr) (nt ct : Nat) (w : World) (c0 : w.cell? ⟨b, o, none⟩ = some (.int .i64 i0)) (ha : -2147483648 ≤ a1 ∧ a1 ≤ 2147483647) (hi : -2147483648 ≤ i0 ∧ i0 ≤ 2147483647) :
 Calls Tryz.prog 150 #[.agg #[.int .i64 5, .int .i64 a1, .int .i64 a2, .slice A n c], .slice At nt ct, .slice (some ⟨b, o, none⟩) 1 ci] w fun e w' => e = .returned (.int .i64 (wrap32 (a1 * i0))) ∧ Below w.heap.size w w' := by
 have lb : b < w.heap.size := World.block_lt_of_cell? w _ c0
 go_enter Tryz.func150, Tryz.ntmps150
 go_wp2_with fail
 go_quiet (exact zbd (zc7 _ _))
 go_wp2
 go_ret
 exact ⟨zbv (by first | rfl | exact M.wrap32_64 _ | exact (M.wrap32_64 _).symm), zac ((Below.refl _ _).alloc (Nat.le_refl _) _) _⟩
theorem zri (a1 a2 : Int) (A : Option Addr) (n c : Nat) (b o ci : Nat) (i0 i1 : Int) (At : Option Addr) (nt ct : Nat) (w : World) (c0 : w.cell? ⟨b, o, none⟩ = some (.int .i64 i0)) (c1 : w.cell? ⟨b, o + 1, none⟩ = some (.int .i64 i1)) (hi : -2147483648 ≤ i0 ∧ i0 ≤ 2147483647 ∧ -2147483648 ≤ i1 ∧ i1 ≤ 2147483647) :
 Calls Tryz.prog 150 #[.agg #[.int .i64 9, .int .i64 a1, .int .i64 a2, .slice A n c], .slice At nt ct, .slice (some ⟨b, o, none⟩) 2 ci] w fun e w' => e = .returned (.int .i64 (wrap32 (i0 * i1))) ∧ Below w.heap.size w w' := by
 have lb : b < w.heap.size := World.block_lt_of_cell? w _ c0
 go_enter Tryz.func150, Tryz.ntmps150
 go_wp2_with fail
 go_quiet (exact zbd (zc7 _ _))
 go_wp2
 go_ret
 exact ⟨zbv (by first | rfl | exact M.wrap32_64 _ | exact (M.wrap32_64 _).symm), zac ((Below.refl _ _).alloc (Nat.le_refl _) _) _⟩
theorem zrj (a1 a2 : Int) (A : Option Addr) (n c : Nat) (b o ci : Nat) (i0 : Int) (At : Option Addr) (nt ct : Nat) (w : World) (c0 : w.cell? ⟨b, o, none⟩ = some (.int .i64 i0)) (ha : 0 ≤ a1 ∧ a1 ≤ 31) (hi : -2147483648 ≤ i0 ∧ i0 ≤ 2147483647) :
 Calls Tryz.prog 150 #[.agg #[.int .i64 10, .int .i64 a1, .int .i64 a2, .slice A n c], .slice At nt ct, .slice (some ⟨b, o, none⟩) 1 ci] w fun e w' => e = .returned (.int .i64 (i0 / 2 ^ a1.toNat)) ∧ Below w.heap.size w w' := by
 have lb : b < w.heap.size := World.block_lt_of_cell? w _ c0
 go_enter Tryz.func150, Tryz.ntmps150
 go_wp2_with fail
 go_quiet (fail)
 go_wp2
 go_ret
 exact ⟨rfl, zac ((Below.refl _ _).alloc (Nat.le_refl _) _) _⟩
theorem zrk (a1 a2 : Int) (A : Option Addr) (n c : Nat) (b o ci : Nat) (i0 : Int) (At : Option Addr) (nt ct : Nat) (w : World) (c0 : w.cell? ⟨b, o, none⟩ = some (.int .i64 i0)) (ha : 0 ≤ a1 ∧ a1 ≤ 2147483647) (hi : -2147483648 ≤ i0 ∧ i0 ≤ 2147483647) :
 Calls Tryz.prog 150 #[.agg #[.int .i64 11, .int .i64 a1, .int .i64 a2, .slice A n c], .slice At nt ct, .slice (some ⟨b, o, none⟩) 1 ci] w fun e w' => e = .returned (.int .i64 (max (-a1) (min a1 i0))) ∧ Below w.heap.size w w' := by
 have lb : b < w.heap.size := World.block_lt_of_cell? w _ c0
 have hneg : wrap64 (-a1) = -a1 := M.wrap64_in _ (by omega)
 rcases (show (i0 < -a1) ∨ (-a1 ≤ i0 ∧ i0 < a1) ∨ (a1 ≤ i0) by omega) with h | h | h
 · have R := Lib.hid (show max (-a1) (min a1 i0) = -a1 by omega)
   have h1 : i0 < a1 := by omega
   have h2 : ¬ -a1 < i0 := by omega
   have h3 : ¬ a1 < i0 := by omega
   go_enter Tryz.func150, Tryz.ntmps150
   go_wp2_with fail
   go_quiet (fail)
   go_wp2
   all_goals
    go_ret
    exact ⟨zbv (by omega), zac ((Below.refl _ _).alloc (Nat.le_refl _) _) _⟩
 · have R := Lib.hid (show max (-a1) (min a1 i0) = i0 by omega)
   have h1 : i0 < a1 := by omega
   have h2 : ¬ i0 < -a1 := by omega
   have h3 : ¬ a1 < i0 := by omega
   go_enter Tryz.func150, Tryz.ntmps150
   go_wp2_with fail
   go_quiet (fail)
   go_wp2
   all_goals
    go_ret
    exact ⟨zbv (by omega), zac ((Below.refl _ _).alloc (Nat.le_refl _) _) _⟩
 · have R := Lib.hid (show max (-a1) (min a1 i0) = a1 by omega)
   have h1 : ¬ i0 < a1 := by omega
   have h2 : ¬ a1 < -a1 := by omega
   go_enter Tryz.func150, Tryz.ntmps150
   go_wp2_with fail
   go_quiet (fail)
   go_wp2
   all_goals
    go_ret
    exact ⟨zbv (by omega), zac ((Below.refl _ _).alloc (Nat.le_refl _) _) _⟩
theorem zrl (a1 a2 : Int) (A : Option Addr) (n c : Nat) (b o ci : Nat) (i0 : Int) (bt ot nt ct : Nat) (A1 : Option Addr) (c1 j n2 : Nat) (t : List Int) (w : World) (c0 : w.cell? ⟨b, o, none⟩ = some (.int .i64 i0)) (ha : a1 = (j : Int) ∧ j < nt ∧ nt ≤ 4) (e0 : w.cell? ⟨bt, ot + j, none⟩ = some (.slice A1 n2 c1)) (ht : RI w w.heap.size A1 n2 t) (hn : 1 ≤ n2 ∧ n2 ≤ 16) :
 Calls Tryz.prog 150 #[.agg #[.int .i64 13, .int .i64 a1, .int .i64 a2, .slice A n c], .slice (some ⟨bt, ot, none⟩) nt ct, .slice (some ⟨b, o, none⟩) 1 ci] w fun e w' => e = .returned (.int .i64 (zgh t i0)) ∧ Below w.heap.size w w' := by
 have lb : b < w.heap.size := World.block_lt_of_cell? w _ c0
 have lbt : bt < w.heap.size := World.block_lt_of_cell? w _ e0
 obtain ⟨W, hW⟩ : ∃ W, W = w.alloc (.cells #[.int .i64 13, .int .i64 a1, .int .i64 a2, .slice A n c] 122) := ⟨_, rfl⟩
 obtain ⟨rfl, hj, hnt⟩ := ha
 have hj0 : (0 : Int) ≤ (j : Int) := by omega
 have hjn : (j : Int) < (nt : Int) := by omega
 have hl2 := ht.len
 obtain ⟨u, q, y, hu, hub, hq, hqn, hy, hM⟩ := zrc t i0 (by omega)
 rw [hl2] at hq hqn
 obtain ⟨b2, o2, rfl, hb2, hc2⟩ := zbb ht (by omega)
 have cy := hc2 q y hy
 have h3 : n2 * u < n2 * 4294967296 := Nat.mul_lt_mul_of_pos_left hub (by omega)
 have hw : IntKind.i64.wrap ((n2 : Int) * (u : Int)) = (n2 : Int) * (u : Int) := IntWalk.i64_in _ (by
  have h2 : ((n2 : Int) * (u : Int)) = ((n2 * u : Nat) : Int) := by simp
  rw [h2]
  omega)
 have hw2 : wrap64 ((n2 : Int) * (u : Int)) = (n2 : Int) * (u : Int) := M.wrap64_in _ (by
  have h2 : ((n2 : Int) * (u : Int)) = ((n2 * u : Nat) : Int) := by simp
  rw [h2]
  omega)
 have hq0 : (0 : Int) ≤ (q : Int) := by omega
 have hqm : (q : Int) < (n2 : Int) := by omega
 have R := Lib.hid hM
 have cU : ∀ w, Calls Tryz.prog 151 #[.int .i64 i0] w fun e w' => e = .returned (.int .i64 (u : Int)) ∧ w = w' := fun w => by rw [← hu]; exact ziv i0 w
 clear hc2 hM h3 ht hu hW W hl2
 go_enter Tryz.func150, Tryz.ntmps150
 go_wp2_with fail
 go_quiet (first | exact zbd (cU _) | exact zbd (zbn _ _ _ _))
 go_wp2
 go_ret
 exact ⟨zbv (by rw [R.out]), zac ((Below.refl _ _).alloc (Nat.le_refl _) _) _⟩
theorem zrm (a1 a2 : Int) (A : Option Addr) (n c : Nat) (b o ci : Nat) (i0 i1 i2 : Int) (At : Option Addr) (nt ct : Nat) (w : World) (c0 : w.cell? ⟨b, o, none⟩ = some (.int .i64 i0)) (c1 : w.cell? ⟨b, o + 1, none⟩ = some (.int .i64 i1)) (c2 : w.cell? ⟨b, o + 2, none⟩ = some (.int .i64 i2)) (hi : -2147483648 ≤ i0 ∧ i0 ≤ 2147483647 ∧ -2147483648 ≤ i1 ∧ i1 ≤ 2147483647 ∧ -2147483648 ≤ i2 ∧ i2 ≤ 2147483647) :
 Calls Tryz.prog 150 #[.agg #[.int .i64 15, .int .i64 a1, .int .i64 a2, .slice A n c], .slice At nt ct, .slice (some ⟨b, o, none⟩) 3 ci] w fun e w' => e = .returned (.int .i64 ((if 0 ≤ i0 then i1 else i2))) ∧ Below w.heap.size w w' := by
 have lb : b < w.heap.size := World.block_lt_of_cell? w _ c0
 by_cases h : 0 ≤ i0
 · have R := Lib.hid (show (if 0 ≤ i0 then i1 else i2) = i1 from if_pos h)
   go_enter Tryz.func150, Tryz.ntmps150
   go_wp2
   go_ret
   exact ⟨zbv (by first | rfl | exact R.out | exact R.out.symm), (Below.refl _ _).alloc (Nat.le_refl _) _⟩
 · have R := Lib.hid (show (if 0 ≤ i0 then i1 else i2) = i2 from if_neg h)
   go_enter Tryz.func150, Tryz.ntmps150
   go_wp2
   go_ret
   exact ⟨zbv (by first | rfl | exact R.out | exact R.out.symm), (Below.refl _ _).alloc (Nat.le_refl _) _⟩
end
section
open Go.RowKit Go.Sort
theorem RI.tail1 {w : World} {B b o n c : Nat} {s0 : Int} {ss : List Int} (h : RI w B (some ⟨b, o, none⟩) n (s0 :: ss)) (hc : n ≤ c) : RI w B (if c = 1 then some ⟨b, o, none⟩ else some ⟨b, o + 1, none⟩) (n - 1) ss := by
 have hl := h.len
 simp only [List.length_cons] at hl
 have h2 := Reads.cut (k := 1) (cap := c) h (by omega) hc
 unfold RI
 simpa [Addr.add_lit] using h2
section
variable {P : Program} {t e : TypeId} {z : Value} {bytes : Nat}
theorem zrn (hE : EI P t e z 1 bytes) {w : World} {ops : Array Oper} {rest : List Oper} {o : Oper} {a : Act} {Q : Exit → Act → World → Prop} {u : Value}
 (hgd : o.guard = none) (s x : Operand) (ho : o.op = .call { callee := .builtin .append, args := #[s, x], argTypes := #[t, t] })
 {B : Nat} {v : Value} {n g : Nat} {xs : List Value} (hown : w.ownsRow B e 1 v n xs) (hs : a.eval s = v)
 (hx : a.eval x = .slice (some ⟨g, 0, none⟩) 1 1) (hg : w.cell? ⟨g, 0, none⟩ = some u) (h1 : u.oneCell' = true)
 (hn : n + 1 ≤ maxLen) (hbytes : (n + 1) * bytes ≤ 140737488355328) (hbase : B ≤ w.heap.size)
 (K : ∀ v' w', w'.ownsRow B e 1 v' (n + 1) (xs ++ [u]) → w.grownBy w' v.ownBlock → Below B w w' → wpList P ops Q rest (a.put o.dst v') w') :
 wpList P ops Q (o :: rest) a w := by
 obtain ⟨ht, hinfo, hzs, hsz⟩ := hE
 obtain ⟨i0, hi, hz0, hz1, hz2⟩ := info_parts hinfo
 refine wpList_append_own _ hgd s x t ho B e i0 z 1 bytes ht hi hz0 hz1 hz2 hzs hsz v n xs hs hown ⟨g, 0, none⟩ 1 1 [u] hx rfl ?_ (by simpa using h1) hn hbytes hbase ?_
 · intro j w hj
   match j, hj with
   | 0, hj => simp at hj; subst hj; simpa [Addr.add] using hg
 · intro v' w' h2 h3 _
   exact K v' w' h2 h3 ((Below.refl _ _).grown h3 hbase fun k hk => (hown.lt k hk).1)
end
theorem zlo (a1 a2 : Int) (A : Option Addr) (n c : Nat) (T : Value) (bi oi ci bs os_ ns cs : Nat) (i0 s0 : Int) (ss : List Int) (w : World) (c0 : w.cell? ⟨bi, oi, none⟩ = some (.int .i64 i0)) (hs : RI w w.heap.size (some ⟨bs, os_, none⟩) ns (s0 :: ss)) (hns : ns ≤ 16) (hcs : ns ≤ cs) :
 Calls Tryz.prog 142 #[.agg #[.int .i64 6, .int .i64 a1, .int .i64 a2, .slice A n c], T, .slice (some ⟨bi, oi, none⟩) 1 ci, .slice (some ⟨bs, os_, none⟩) ns cs] w fun e w' => ∃ v, e = .returned (.tuple #[.int .i64 s0, v]) ∧ OI 2 w.heap.size w' v (ss ++ [i0]) ∧ Below w.heap.size w w' := by
 obtain ⟨W, hW⟩ : ∃ W, W = w.alloc (.cells #[.int .i64 6, .int .i64 a1, .int .i64 a2, .slice A n c] 122) := ⟨_, rfl⟩
 have B0 : Below w.heap.size w W := by rw [hW]; exact (Below.refl _ _).alloc (Nat.le_refl _) _
 have HW := Lib.hid hW
 have hl := hs.len
 simp only [List.length_cons] at hl
 obtain ⟨bs', os', e, hbs, hcc⟩ := zbb hs (by omega)
 simp only [Option.some.injEq, Addr.mk.injEq] at e
 obtain ⟨rfl, rfl, -⟩ := e
 have d0 : w.cell? ⟨bs, os_, none⟩ = some (.int .i64 s0) := hcc 0 s0 rfl
 have lb : bi < w.heap.size := World.block_lt_of_cell? w _ c0
 clear hcc
 have c0' : W.cell? ⟨bi, oi, none⟩ = some (.int .i64 i0) := by rw [B0.cell lb]; exact c0
 have d0' : W.cell? ⟨bs, os_, none⟩ = some (.int .i64 s0) := by rw [B0.cell hbs]; exact d0
 have cc0 := cell_regrown c0'
 have dd0 := cell_regrown d0'
 clear hW
 go_enter Tryz.func142, Tryz.ntmps142
 go_wp2_with fail
 rw [← HW.out]
 have D1 : Below W.heap.size W W.drew := zac (Below.refl _ _) 1
 have ht := (hs.tail1 hcs).later B0
 have lW : w.heap.size ≤ W.heap.size := B0.size
 clear hs c0 d0 c0' d0'
 obtain ⟨A9, ht0, e9⟩ : ∃ A9, RI W W.heap.size A9 (ns - 1) ss ∧ ((cs = 1 ∧ A9 = some ⟨bs, os_, none⟩) ∨ (¬ cs = 1 ∧ A9 = some ⟨bs, os_ + 1, none⟩)) := by
  by_cases h : cs = 1
  · rw [if_pos h] at ht
    exact ⟨_, ht, .inl ⟨h, rfl⟩⟩
  · rw [if_neg h] at ht
    exact ⟨_, ht, .inr ⟨h, rfl⟩⟩
 rcases e9 with ⟨h1, rfl⟩ | ⟨h1, rfl⟩
 all_goals
  have ht := ht0.later D1
  (refine zdh [0, 1, 3, 4, 6, 7] [2, 8] 3 (.two 5 (.one 9 (.one 10 .rest)) 9 (.one 5 (.one 10 .rest))) [11, 12] (by kernel_rfl) (by kernel_rfl) ?_; simp only [zaj]; simp only [List.filterMap, List.getElem?_cons_succ, List.getElem?_cons_zero]; (repeat (go_big_quiet_step (fail))); refine wpQuiet_nil ?_; (repeat (go_big_quiet_step (fail))); refine wpQuiet_nil ?_)
  refine zds rfl rfl ?_ ?_
  · go_wp2_with fail
    refine (zdm _ _ _ _ _ ht (by omega)).mono ?_
    rintro e w1 ⟨v1, rfl, own1, bel1⟩
    have B1 : Below W.heap.size W w1 := D1.trans bel1
    go_wp2_with fail
    refine ⟨regrown_of_below B1, za0 rfl ?_⟩
    go_wp2_with fail
    refine ⟨regrown_of_below (B1.alloc B1.size _), za0 rfl ?_⟩
    go_wp2_with (at_builtin; refine ze2 zbl rfl _ _ rfl own1 rfl rfl rfl (by unfold maxLen; omega) (by omega) B1.size ?_; intro v2 w2 own2 gr2 bel2)
    refine ⟨regrown_of_below (B1.trans bel2), zbx ?_⟩
    go_wp2
    go_ret2
    exact ⟨_, rfl, (OI.push own2).base lW, B0.trans ((B1.trans bel2).mono lW)⟩
  · have B1 : Below W.heap.size W (W.alloc (.cells #[.int .i64 i0] 2)).drew := zac ((Below.refl _ _).alloc (Nat.le_refl _) _) 1
    have ht2 : RI (W.alloc (.cells #[.int .i64 i0] 2)).drew (W.alloc (.cells #[.int .i64 i0] 2)).drew.heap.size _ (ns - 1) ss := ht0.later B1
    have hg1 : (W.alloc (.cells #[.int .i64 i0] 2)).drew.cell? ⟨W.heap.size, 0, none⟩ = some (.int .i64 i0) := zjj _ _ _
    have hz1 : (W.alloc (.cells #[.int .i64 i0] 2)).drew.heap.size = W.heap.size + 1 := by show (W.alloc (.cells #[.int .i64 i0] 2)).heap.size = _; simp
    go_wp2_with fail
    refine ⟨regrown_of_below B1, za0 rfl ?_⟩
    go_wp2_with fail
    generalize (W.alloc (.cells #[.int .i64 i0] 2)).drew = V at B1 ht2 hg1 hz1 ⊢
    refine (zdm _ _ _ _ _ ht2 (by omega)).mono ?_
    rintro e w1 ⟨v1, rfl, own1, bel1⟩
    have B2 := zaa B1 bel1
    have hg2 : w1.cell? ⟨W.heap.size, 0, none⟩ = some (.int .i64 i0) := by rw [bel1.cell (by show W.heap.size < V.heap.size; omega)]; exact hg1
    go_wp2_with fail
    refine ⟨regrown_of_below B2, za0 rfl ?_⟩
    go_wp2_with (at_builtin; refine zrn zbl rfl _ _ rfl own1 rfl rfl hg2 rfl (by unfold maxLen; omega) (by omega) bel1.size ?_; intro v2 w2 own2 gr2 bel2)
    have B3 : Below W.heap.size W w2 := B2.trans (bel2.mono (by omega))
    refine ⟨regrown_of_below B3, zbx ?_⟩
    go_wp2
    go_ret2
    exact ⟨_, rfl, (OI.push own2).base (by omega), B0.trans (B3.mono (by omega))⟩
theorem zro (a1 a2 : Int) (A : Option Addr) (n c : Nat) (T : Value) (bi oi ci : Nat) (i0 : Int) (bs os_ ns cs : Nat) (s0 : Int) (w : World) (c0 : w.cell? ⟨bi, oi, none⟩ = some (.int .i64 i0)) (d0 : w.cell? ⟨bs, os_, none⟩ = some (.int .i64 s0)) (hns : 1 ≤ ns) (hi : -2147483648 ≤ i0 ∧ i0 ≤ 2147483647) (hsb : -2147483648 ≤ s0 ∧ s0 ≤ 2147483647) :
 Calls Tryz.prog 142 #[.agg #[.int .i64 7, .int .i64 a1, .int .i64 a2, .slice A n c], T, .slice (some ⟨bi, oi, none⟩) 1 ci, .slice (some ⟨bs, os_, none⟩) ns cs] w fun e w' => ∃ v, e = .returned (.tuple #[.int .i64 (wrap32 (s0 + i0)), v]) ∧ OI 2 w.heap.size w' v ([wrap32 (s0 + i0)]) ∧ Below w.heap.size w w' := by
 obtain ⟨W, hW⟩ : ∃ W, W = w.alloc (.cells #[.int .i64 7, .int .i64 a1, .int .i64 a2, .slice A n c] 122) := ⟨_, rfl⟩
 have B0 : Below w.heap.size w W := by rw [hW]; exact (Below.refl _ _).alloc (Nat.le_refl _) _
 have lW : w.heap.size ≤ W.heap.size := B0.size
 have lb : bi < w.heap.size := World.block_lt_of_cell? w _ c0
 have hbs : bs < w.heap.size := World.block_lt_of_cell? w _ d0
 have c0' : W.cell? ⟨bi, oi, none⟩ = some (.int .i64 i0) := by rw [B0.cell lb]; exact c0
 have d0' : W.cell? ⟨bs, os_, none⟩ = some (.int .i64 s0) := by rw [B0.cell hbs]; exact d0
 have p1' : W.cell? ⟨w.heap.size, 1, none⟩ = some (.int .i64 a1) := by rw [hW]; simp [go_sem]
 have HW := Lib.hid hW
 clear hW
 have O1 := zel W (wrap32 (s0 + i0))
 go_enter Tryz.func142, Tryz.ntmps142
 go_wp2_with fail
 rw [← HW.out]
 go_quiet (exact zbd (zc7 _ _))
 have hw3 : wrap32 (wrap64 (s0 + i0)) = wrap32 (s0 + i0) := M.wrap32_64 _
 go_wp2
 go_ret2
 exact ⟨_, rfl, O1.base lW, zac (B0.alloc lW _) _⟩
theorem zrp (a1 a2 : Int) (A : Option Addr) (n c : Nat) (T : Value) (bi oi ci : Nat) (i0 : Int) (bs os_ ns cs : Nat) (s0 : Int) (w : World) (c0 : w.cell? ⟨bi, oi, none⟩ = some (.int .i64 i0)) (d0 : w.cell? ⟨bs, os_, none⟩ = some (.int .i64 s0)) (hns : 1 ≤ ns) (hi : -2147483648 ≤ i0 ∧ i0 ≤ 2147483647) (hsb : -2147483648 ≤ s0 ∧ s0 ≤ 2147483647) :
 Calls Tryz.prog 142 #[.agg #[.int .i64 8, .int .i64 a1, .int .i64 a2, .slice A n c], T, .slice (some ⟨bi, oi, none⟩) 1 ci, .slice (some ⟨bs, os_, none⟩) ns cs] w fun e w' => ∃ v, e = .returned (.tuple #[.int .i64 (wrap32 (i0 - s0)), v]) ∧ OI 2 w.heap.size w' v ([i0]) ∧ Below w.heap.size w w' := by
 obtain ⟨W, hW⟩ : ∃ W, W = w.alloc (.cells #[.int .i64 8, .int .i64 a1, .int .i64 a2, .slice A n c] 122) := ⟨_, rfl⟩
 have B0 : Below w.heap.size w W := by rw [hW]; exact (Below.refl _ _).alloc (Nat.le_refl _) _
 have lW : w.heap.size ≤ W.heap.size := B0.size
 have lb : bi < w.heap.size := World.block_lt_of_cell? w _ c0
 have hbs : bs < w.heap.size := World.block_lt_of_cell? w _ d0
 have c0' : W.cell? ⟨bi, oi, none⟩ = some (.int .i64 i0) := by rw [B0.cell lb]; exact c0
 have d0' : W.cell? ⟨bs, os_, none⟩ = some (.int .i64 s0) := by rw [B0.cell hbs]; exact d0
 have p1' : W.cell? ⟨w.heap.size, 1, none⟩ = some (.int .i64 a1) := by rw [hW]; simp [go_sem]
 have HW := Lib.hid hW
 have cc0 := cell_regrown c0'
 have dd0 := cell_regrown d0'
 clear hW c0 d0 c0' d0'
 have O1 := zel W i0
 have hw3 : wrap32 (wrap64 (i0 - s0)) = wrap32 (i0 - s0) := M.wrap32_64 _
 have D1 : Below W.heap.size W W.drew := zac (Below.refl _ _) 1
 have B1 : Below W.heap.size W (W.alloc (.cells #[.int .i64 i0] 2)).drew := zac ((Below.refl _ _).alloc (Nat.le_refl _) _) 1
 go_enter Tryz.func142, Tryz.ntmps142
 go_wp2_with fail
 rw [← HW.out]
 (refine zdh [0, 1, 3, 4, 8, 9] [2, 5, 6, 10] 3 (.two 7 (.two 11 (.one 12 .rest) 12 (.one 11 .rest)) 11 (.one 7 (.one 12 .rest))) [13] (by kernel_rfl) (by kernel_rfl) ?_; simp only [zaj]; simp only [List.filterMap, List.getElem?_cons_succ, List.getElem?_cons_zero]; (repeat (go_big_quiet_step (fail))); refine wpQuiet_nil ?_; (repeat (go_big_quiet_step (fail))); refine wpQuiet_nil ?_)
 refine zds rfl rfl ?_ ?_
 · go_wp2_with (go_at_call 58; refine (zc7 _ _).mono ?_; rintro e w' ⟨rfl, rfl⟩)
   refine ⟨regrown_of_below D1, zds rfl rfl ?_ ?_⟩
   · go_wp2_with fail
     refine ⟨regrown_of_below B1, za0 rfl ?_⟩
     go_wp2_with fail
     refine ⟨regrown_of_below B1, zbx ?_⟩
     go_wp2
     go_ret2
     exact ⟨_, rfl, O1.base lW, B0.trans (B1.mono lW)⟩
   · go_wp2_with fail
     refine ⟨regrown_of_below D1, za0 rfl ?_⟩
     go_wp2_with fail
     refine ⟨regrown_of_below B1, zbx ?_⟩
     go_wp2
     go_ret2
     exact ⟨_, rfl, O1.base lW, B0.trans (B1.mono lW)⟩
 · go_wp2_with fail
   refine ⟨regrown_of_below B1, za0 rfl ?_⟩
   go_wp2_with (go_at_call 58; refine (zc7 _ _).mono ?_; rintro e w' ⟨rfl, rfl⟩)
   refine ⟨regrown_of_below B1, za0 rfl ?_⟩
   go_wp2_with fail
   refine ⟨regrown_of_below B1, zbx ?_⟩
   go_wp2
   go_ret2
   exact ⟨_, rfl, O1.base lW, B0.trans (B1.mono lW)⟩
theorem zrq (a1 a2 : Int) (A : Option Addr) (n c : Nat) (T : Value) (bi oi ci : Nat) (i0 : Int) (bs os_ ns cs : Nat) (s0 : Int) (w : World) (c0 : w.cell? ⟨bi, oi, none⟩ = some (.int .i64 i0)) (d0 : w.cell? ⟨bs, os_, none⟩ = some (.int .i64 s0)) (hns : 1 ≤ ns) (hi : -2147483648 ≤ i0 ∧ i0 ≤ 2147483647) (hsb : -2147483648 ≤ s0 ∧ s0 ≤ 2147483647) :
 Calls Tryz.prog 142 #[.agg #[.int .i64 12, .int .i64 a1, .int .i64 a2, .slice A n c], T, .slice (some ⟨bi, oi, none⟩) 1 ci, .slice (some ⟨bs, os_, none⟩) ns cs] w fun e w' => ∃ v, e = .returned (.tuple #[.int .i64 (s0), v]) ∧ OI 2 w.heap.size w' v ([wrap32 (s0 + i0)]) ∧ Below w.heap.size w w' := by
 obtain ⟨W, hW⟩ : ∃ W, W = w.alloc (.cells #[.int .i64 12, .int .i64 a1, .int .i64 a2, .slice A n c] 122) := ⟨_, rfl⟩
 have B0 : Below w.heap.size w W := by rw [hW]; exact (Below.refl _ _).alloc (Nat.le_refl _) _
 have lW : w.heap.size ≤ W.heap.size := B0.size
 have lb : bi < w.heap.size := World.block_lt_of_cell? w _ c0
 have hbs : bs < w.heap.size := World.block_lt_of_cell? w _ d0
 have c0' : W.cell? ⟨bi, oi, none⟩ = some (.int .i64 i0) := by rw [B0.cell lb]; exact c0
 have d0' : W.cell? ⟨bs, os_, none⟩ = some (.int .i64 s0) := by rw [B0.cell hbs]; exact d0
 have p1' : W.cell? ⟨w.heap.size, 1, none⟩ = some (.int .i64 a1) := by rw [hW]; simp [go_sem]
 have HW := Lib.hid hW
 have cc0 := cell_regrown c0'
 have dd0 := cell_regrown d0'
 clear hW c0 d0 c0' d0'
 have O1 := zel W (wrap32 (s0 + i0))
 have hw3 : wrap32 (wrap64 (s0 + i0)) = wrap32 (s0 + i0) := M.wrap32_64 _
 have D1 : Below W.heap.size W W.drew := zac (Below.refl _ _) 1
 have B1 : Below W.heap.size W (W.alloc (.cells #[.int .i64 (wrap32 (s0 + i0))] 2)).drew := zac ((Below.refl _ _).alloc (Nat.le_refl _) _) 1
 go_enter Tryz.func142, Tryz.ntmps142
 go_wp2_with fail
 rw [← HW.out]
 (refine zdh [0, 1, 3, 4, 6, 7] [2, 5, 8, 9] 3 (.one 10 (.two 11 (.one 12 .rest) 12 (.one 11 .rest))) [13] (by kernel_rfl) (by kernel_rfl) ?_; simp only [zaj]; simp only [List.filterMap, List.getElem?_cons_succ, List.getElem?_cons_zero]; (repeat (go_big_quiet_step (fail))); refine wpQuiet_nil ?_; (repeat (go_big_quiet_step (fail))); refine wpQuiet_nil ?_)
 refine za0 rfl ?_
 go_wp2_with (go_at_call 58; refine (zc7 _ _).mono ?_; rintro e w' ⟨rfl, rfl⟩)
 refine ⟨regrown_of_below D1, zds rfl rfl ?_ ?_⟩
 · go_wp2_with fail
   refine ⟨regrown_of_below B1, za0 rfl ?_⟩
   go_wp2_with fail
   refine ⟨regrown_of_below B1, zbx ?_⟩
   go_wp2
   go_ret2
   exact ⟨_, rfl, O1.base lW, B0.trans (B1.mono lW)⟩
 · go_wp2_with fail
   refine ⟨regrown_of_below D1, za0 rfl ?_⟩
   go_wp2_with fail
   refine ⟨regrown_of_below B1, zbx ?_⟩
   go_wp2
   go_ret2
   exact ⟨_, rfl, O1.base lW, B0.trans (B1.mono lW)⟩
theorem zrr (a1 a2 : Int) (A : Option Addr) (n c : Nat) (T : Value) (Ai : Option Addr) (ci : Nat) (bs os_ ns cs : Nat) (s0 : Int) (w : World) (d0 : w.cell? ⟨bs, os_, none⟩ = some (.int .i64 s0)) (hns : 1 ≤ ns) (hsb : -2147483648 ≤ s0 ∧ s0 ≤ 2147483647) :
 Calls Tryz.prog 142 #[.agg #[.int .i64 14, .int .i64 a1, .int .i64 a2, .slice A n c], T, .slice Ai 0 ci, .slice (some ⟨bs, os_, none⟩) ns cs] w fun e w' => ∃ v, e = .returned (.tuple #[.int .i64 (s0), v]) ∧ OI 2 w.heap.size w' v ([zdw s0]) ∧ Below w.heap.size w w' := by
 obtain ⟨W, hW⟩ : ∃ W, W = w.alloc (.cells #[.int .i64 14, .int .i64 a1, .int .i64 a2, .slice A n c] 122) := ⟨_, rfl⟩
 have B0 : Below w.heap.size w W := by rw [hW]; exact (Below.refl _ _).alloc (Nat.le_refl _) _
 have lW : w.heap.size ≤ W.heap.size := B0.size
 have hbs : bs < w.heap.size := World.block_lt_of_cell? w _ d0
 have d0' : W.cell? ⟨bs, os_, none⟩ = some (.int .i64 s0) := by rw [B0.cell hbs]; exact d0
 have p1' : W.cell? ⟨w.heap.size, 1, none⟩ = some (.int .i64 a1) := by rw [hW]; simp [go_sem]
 have HW := Lib.hid hW
 have dd0 := cell_regrown d0'
 clear hW d0 d0'
 have O1 := zel W (zdw s0)
 have D1 : Below W.heap.size W W.drew := zac (Below.refl _ _) 1
 have B1 : Below W.heap.size W (W.alloc (.cells #[.int .i64 (zdw s0)] 2)).drew := zac ((Below.refl _ _).alloc (Nat.le_refl _) _) 1
 go_enter Tryz.func142, Tryz.ntmps142
 go_wp2_with fail
 rw [← HW.out]
 (refine zdh [0, 1, 3, 4] [2, 5] 3 (.one 6 (.two 7 (.one 8 .rest) 8 (.one 7 .rest))) [9] (by kernel_rfl) (by kernel_rfl) ?_; simp only [zaj]; simp only [List.filterMap, List.getElem?_cons_succ, List.getElem?_cons_zero]; (repeat (go_big_quiet_step (fail))); refine wpQuiet_nil ?_; (repeat (go_big_quiet_step (fail))); refine wpQuiet_nil ?_)
 refine za0 rfl ?_
 go_wp2_with (go_at_call 149; refine (zrb _ _).mono ?_; rintro e w' ⟨rfl, rfl⟩)
 refine ⟨regrown_of_below D1, zds rfl rfl ?_ ?_⟩
 · go_wp2_with fail
   refine ⟨regrown_of_below B1, za0 rfl ?_⟩
   go_wp2_with fail
   refine ⟨regrown_of_below B1, zbx ?_⟩
   go_wp2
   go_ret2
   exact ⟨_, rfl, O1.base lW, B0.trans (B1.mono lW)⟩
 · go_wp2_with fail
   refine ⟨regrown_of_below D1, za0 rfl ?_⟩
   go_wp2_with fail
   refine ⟨regrown_of_below B1, zbx ?_⟩
   go_wp2
   go_ret2
   exact ⟨_, rfl, O1.base lW, B0.trans (B1.mono lW)⟩
theorem zrs (a1 a2 : Int) (A : Option Addr) (n c : Nat) (T : Value) (bi oi ci : Nat) (i0 i1 : Int) (bs os_ ns cs : Nat) (s0 : Int) (w : World) (c0 : w.cell? ⟨bi, oi, none⟩ = some (.int .i64 i0)) (c1 : w.cell? ⟨bi, oi + 1, none⟩ = some (.int .i64 i1)) (d0 : w.cell? ⟨bs, os_, none⟩ = some (.int .i64 s0)) (hns : 1 ≤ ns) (hi : -2147483648 ≤ i0 ∧ i0 ≤ 2147483647 ∧ -2147483648 ≤ i1 ∧ i1 ≤ 2147483647) (hsb : -2147483648 ≤ s0 ∧ s0 ≤ 2147483647) :
 Calls Tryz.prog 142 #[.agg #[.int .i64 16, .int .i64 a1, .int .i64 a2, .slice A n c], T, .slice (some ⟨bi, oi, none⟩) 2 ci, .slice (some ⟨bs, os_, none⟩) ns cs] w fun e w' => ∃ v, e = .returned (.tuple #[.int .i64 (if 0 < i1 then i0 else s0), v]) ∧ OI 2 w.heap.size w' v ([if 0 < i1 then i0 else s0]) ∧ Below w.heap.size w w' := by
 obtain ⟨W, hW⟩ : ∃ W, W = w.alloc (.cells #[.int .i64 16, .int .i64 a1, .int .i64 a2, .slice A n c] 122) := ⟨_, rfl⟩
 have B0 : Below w.heap.size w W := by rw [hW]; exact (Below.refl _ _).alloc (Nat.le_refl _) _
 have lW : w.heap.size ≤ W.heap.size := B0.size
 have lb : bi < w.heap.size := World.block_lt_of_cell? w _ c0
 have hbs : bs < w.heap.size := World.block_lt_of_cell? w _ d0
 have c0' : W.cell? ⟨bi, oi, none⟩ = some (.int .i64 i0) := by rw [B0.cell lb]; exact c0
 have c1' : W.cell? ⟨bi, oi + 1, none⟩ = some (.int .i64 i1) := by rw [B0.cell lb]; exact c1
 have d0' : W.cell? ⟨bs, os_, none⟩ = some (.int .i64 s0) := by rw [B0.cell hbs]; exact d0
 have p1' : W.cell? ⟨w.heap.size, 1, none⟩ = some (.int .i64 a1) := by rw [hW]; simp [go_sem]
 have HW := Lib.hid hW
 by_cases h : 0 < i1
 · have R := Lib.hid (show (if 0 < i1 then i0 else s0) = i0 from if_pos h)
   have O1 := zel W (i0)
   have B1 : Below w.heap.size w (W.alloc (.cells #[.int .i64 i0] 2)) := B0.alloc lW _
   rw [R.out]
   rw [HW.out] at O1 B1
   have hz : (w.alloc (.cells #[.int .i64 16, .int .i64 a1, .int .i64 a2, .slice A n c] 122)).heap.size = w.heap.size + 1 := by simp
   rw [hz] at O1
   clear hW c0' c1' d0' p1' HW B0 lW W
   go_enter Tryz.func142, Tryz.ntmps142
   go_wp2
   go_ret2
   exact ⟨_, rfl, O1.base (by omega), B1⟩
 · have R := Lib.hid (show (if 0 < i1 then i0 else s0) = s0 from if_neg h)
   have O1 := zel W (s0)
   have B1 : Below w.heap.size w (W.alloc (.cells #[.int .i64 s0] 2)) := B0.alloc lW _
   rw [R.out]
   rw [HW.out] at O1 B1
   have hz : (w.alloc (.cells #[.int .i64 16, .int .i64 a1, .int .i64 a2, .slice A n c] 122)).heap.size = w.heap.size + 1 := by simp
   rw [hz] at O1
   clear hW c0' c1' d0' p1' HW B0 lW W
   go_enter Tryz.func142, Tryz.ntmps142
   go_wp2
   go_ret2
   exact ⟨_, rfl, O1.base (by omega), B1⟩
theorem zrt (a1 a2 : Int) (A : Option Addr) (n c : Nat) (T : Value) (bi oi ci : Nat) (i0 : Int) (bs os_ ns cs : Nat) (s0 : Int) (ss : List Int) (w : World) (c0 : w.cell? ⟨bi, oi, none⟩ = some (.int .i64 i0)) (hs : RI w w.heap.size (some ⟨bs, os_, none⟩) ns (s0 :: ss)) (hns : ns ≤ 16) (hcs : ns ≤ cs) (ha : -2147483648 ≤ a1 ∧ a1 ≤ 2147483647) (hi : -2147483648 ≤ i0 ∧ i0 ≤ 2147483647) (hsb : -2147483648 ≤ s0 ∧ s0 ≤ 2147483647) :
 Calls Tryz.prog 142 #[.agg #[.int .i64 17, .int .i64 a1, .int .i64 a2, .slice A n c], T, .slice (some ⟨bi, oi, none⟩) 1 ci, .slice (some ⟨bs, os_, none⟩) ns cs] w fun e w' => ∃ v, e = .returned (.tuple #[.int .i64 (wrap32 (i0 + a1 * s0)), v]) ∧ OI 2 w.heap.size w' v (ss ++ [wrap32 (i0 + a1 * s0)]) ∧ Below w.heap.size w w' := by
 obtain ⟨W, hW⟩ : ∃ W, W = w.alloc (.cells #[.int .i64 17, .int .i64 a1, .int .i64 a2, .slice A n c] 122) := ⟨_, rfl⟩
 have B0 : Below w.heap.size w W := by rw [hW]; exact (Below.refl _ _).alloc (Nat.le_refl _) _
 have lW : w.heap.size ≤ W.heap.size := B0.size
 have lb : bi < w.heap.size := World.block_lt_of_cell? w _ c0
 have hl := hs.len
 simp only [List.length_cons] at hl
 obtain ⟨bs', os', e, hbs, hcc⟩ := zbb hs (by omega)
 simp only [Option.some.injEq, Addr.mk.injEq] at e
 obtain ⟨rfl, rfl, -⟩ := e
 have d0 : w.cell? ⟨bs, os_, none⟩ = some (.int .i64 s0) := hcc 0 s0 rfl
 clear hcc
 have c0' : W.cell? ⟨bi, oi, none⟩ = some (.int .i64 i0) := by rw [B0.cell lb]; exact c0
 have d0' : W.cell? ⟨bs, os_, none⟩ = some (.int .i64 s0) := by rw [B0.cell hbs]; exact d0
 have p1' : W.cell? ⟨w.heap.size, 1, none⟩ = some (.int .i64 a1) := by rw [hW]; simp [go_sem]
 have HW := Lib.hid hW
 have hm : -4611686018427387904 ≤ a1 * s0 ∧ a1 * s0 ≤ 4611686018427387904 := M.wrap64_mul_bd _ _ ha hsb
 have hw3 : wrap64 (a1 * s0) = a1 * s0 := M.wrap64_in _ (by omega)
 have hw4 : wrap64 (i0 + a1 * s0) = i0 + a1 * s0 := M.wrap64_in _ (by omega)
 have ht0 := (hs.tail1 hcs).later B0
 clear hW hs
 obtain ⟨A9, ht0, e9⟩ : ∃ A9, RI W W.heap.size A9 (ns - 1) ss ∧ ((cs = 1 ∧ A9 = some ⟨bs, os_, none⟩) ∨ (¬ cs = 1 ∧ A9 = some ⟨bs, os_ + 1, none⟩)) := by
  by_cases h : cs = 1
  · rw [if_pos h] at ht0
    exact ⟨_, ht0, .inl ⟨h, rfl⟩⟩
  · rw [if_neg h] at ht0
    exact ⟨_, ht0, .inr ⟨h, rfl⟩⟩
 rcases e9 with ⟨h1, rfl⟩ | ⟨h1, rfl⟩
 all_goals
  go_enter Tryz.func142, Tryz.ntmps142
  go_wp2_with fail
  rw [← HW.out]
  go_quiet (exact zbd (zc7 _ _))
  have D2 := fun m => zac (Below.refl W.heap.size W) m
  have ht2 := fun m => ht0.later (D2 m)
  clear c0 d0 c0' d0' p1' HW
  go_wp2_with fail
  refine (zdm _ _ _ _ _ (ht2 _) (by omega)).mono ?_
  rintro e w1 ⟨v1, rfl, own1, bel1⟩
  have B1 : Below W.heap.size W w1 := (D2 _).trans bel1
  go_wp2_with (at_builtin; refine ze2 zbl rfl _ _ rfl own1 rfl rfl rfl (by unfold maxLen; omega) (by omega) B1.size ?_; intro v2 w2 own2 gr2 bel2)
  go_ret2
  exact ⟨_, rfl, (OI.push own2).base lW, B0.trans ((B1.trans bel2).mono lW)⟩
theorem zea (k a1 a2 : Int) (A : Option Addr) (n c : Nat) (T I S : Value) (out : Int) (w : World) (hk : k = 1 ∨ k = 2 ∨ k = 3 ∨ k = 4 ∨ k = 5 ∨ k = 9 ∨ k = 10 ∨ k = 11 ∨ k = 13 ∨ k = 15)
 (hO : ∀ W, Below w.heap.size w W → Calls Tryz.prog 150 #[.agg #[.int .i64 k, .int .i64 a1, .int .i64 a2, .slice A n c], T, I] W fun e w' => e = .returned (.int .i64 out) ∧ Below W.heap.size W w') :
 Calls Tryz.prog 142 #[.agg #[.int .i64 k, .int .i64 a1, .int .i64 a2, .slice A n c], T, I, S] w fun e w' => ∃ v, e = .returned (.tuple #[.int .i64 out, v]) ∧ OI 2 w.heap.size w' v [] ∧ Below w.heap.size w w' := by
 obtain ⟨W, hW⟩ : ∃ W, W = w.alloc (.cells #[.int .i64 k, .int .i64 a1, .int .i64 a2, .slice A n c] 122) := ⟨_, rfl⟩
 have B0 : Below w.heap.size w W := by rw [hW]; exact (Below.refl _ _).alloc (Nat.le_refl _) _
 have HW := Lib.hid hW
 have hO2 := hO W B0
 clear hW hO
 rcases hk with rfl | rfl | rfl | rfl | rfl | rfl | rfl | rfl | rfl | rfl
 all_goals
  go_enter Tryz.func142, Tryz.ntmps142
  go_wp2_with fail
  rw [← HW.out]
  refine hO2.mono ?_
  rintro e w1 ⟨rfl, bel1⟩
  go_wp2_with (go_at_call 57; refine (zcv _ _ (by omega) (by omega)).mono ?_; rintro e w2 ⟨v2, rfl, own2, bel2⟩)
  go_ret2
  exact ⟨_, rfl, own2.base (by have := B0.size; have := bel1.size; omega), zaa B0 (zaa bel1 bel2)⟩
end
section
open Go.RowKit Go.Sort
theorem zhm {a0 a1 a2 : Int} {xs : List Int} {tb : Int} (h : zak (a0, a1, a2, xs) tb = true) :
 (a0 = 5 → -2147483648 ≤ a1 ∧ a1 ≤ 2147483647) ∧ (a0 = 10 → 0 ≤ a1 ∧ a1 ≤ 31) ∧ (a0 = 11 → 0 ≤ a1 ∧ a1 ≤ 2147483647) ∧ (a0 = 13 → 0 ≤ a1 ∧ a1 ≤ 3 ∧ a1 < tb) ∧ (a0 = 17 → -2147483648 ≤ a1 ∧ a1 ≤ 2147483647) ∧ (a0 = 2 → -2147483648 ≤ a1 ∧ a1 ≤ 2147483647) ∧ (a0 = 12 → -2147483648 ≤ a1 ∧ a1 ≤ 2147483647) ∧ (a0 = 14 → -2147483648 ≤ a1 ∧ a1 ≤ 2147483647) ∧ (a0 = 1 → 0 ≤ a1 ∧ a1 ≤ 3) := by
 rw [zak] at h
 simp only [Bool.and_eq_true] at h
 have hA := h.2.1.1.1.1
 have hL := h.2.2
 refine ⟨?_, ?_, ?_, ?_, ?_, ?_, ?_, ?_, ?_⟩ <;> rintro rfl <;> simp [M.aI, M.kd, zfl, M.inn] at hA hL <;> omega
theorem zru {a0 a1 a2 : Int} {xs : List Int} {tb : Int} (h : zak (a0, a1, a2, xs) tb = true) : a0 ≠ 1 → xs.length = zgp a0 := by
 obtain ⟨hk, -, -⟩ := zek h
 rw [zak] at h
 simp only [Bool.and_eq_true] at h
 have hL := h.2.1.2
 simp only at hk
 rcases ze5 hk with rfl | rfl | rfl | rfl | rfl | rfl | rfl | rfl | rfl | rfl | rfl | rfl | rfl | rfl | rfl | rfl | rfl
 all_goals
  simp [M.kd, zfl, zgp, M.ar, zg5] at hL ⊢
  try omega
theorem ziw {ts : List (List Int)} (h : zbj ts = true) {k : Nat} {t : List Int} (ht : ts[k]? = some t) : (1 ≤ t.length ∧ t.length ≤ 16) ∧ t.all M.smp = true ∧ ts.length ≤ 4 := by
 rw [zbj, Bool.and_eq_true] at h
 have h2 := List.all_eq_true.1 h.1 t (List.mem_of_getElem? ht)
 rw [zcg, Bool.and_eq_true] at h2
 refine ⟨?_, h2.2, of_decide_eq_true h.2⟩
 have := h2.1
 simp at this
 omega
theorem smp_bd {x : Int} (h : M.smp x = true) : -2147483648 ≤ x ∧ x ≤ 2147483647 := za2.1 h
theorem zbk {xs : List Int} (h : xs.all M.smp = true) {k : Nat} {x : Int} (hx : xs[k]? = some x) : -2147483648 ≤ x ∧ x ≤ 2147483647 := smp_bd (List.all_eq_true.1 h x (List.mem_of_getElem? hx))
theorem zix {xs : List Int} (h : 1 ≤ xs.length) : ∃ a zs, xs = a :: zs := by
 match xs, h with
 | a :: zs, _ => exact ⟨a, zs, rfl⟩
theorem zrv (a0 a1 a2 : Int) (A : Option Addr) (n c : Nat) (xs : List Int) (At : Option Addr) (nt ct : Nat) (tb : List (List Int)) (Ai : Option Addr) (ni ci : Nat) (ins : List Int) (As : Option Addr) (ns cs : Nat) (s : List Int) (w : World) (ht : RS tS w w.heap.size (.slice At nt ct) tb) (htb : zbj tb = true) (hi : RI w w.heap.size Ai ni ins) (hs : RI w w.heap.size As ns s) (hcs : ns ≤ cs)
 (hok : zak (a0, a1, a2, xs) nt = true) (hil : ins.length = zgp a0) (hia : ins.all M.smp = true) (hsl : s.length = zcc (a0, a1, a2, xs)) (hsa : s.all M.smp = true) :
 Calls Tryz.prog 142 #[.agg #[.int .i64 a0, .int .i64 a1, .int .i64 a2, .slice A n c], .slice At nt ct, .slice Ai ni ci, .slice As ns cs] w fun e w' => ∃ v, e = .returned (.tuple #[.int .i64 (zan (a0, a1, a2, xs) tb ins s), v]) ∧ OI 2 w.heap.size w' v (zaq (a0, a1, a2, xs) ins s (zan (a0, a1, a2, xs) tb ins s)) ∧ Below w.heap.size w w' := by
 obtain ⟨hk, h6, h17⟩ := zek hok
 obtain ⟨hb5, hb10, hb11, hb13, hb17, -⟩ := zhm hok
 have hnt : tb.length = nt := ht.cap.1
 simp only at hk h6 h17
 rcases ze5 hk with rfl | rfl | rfl | rfl | rfl | rfl | rfl | rfl | rfl | rfl | rfl | rfl | rfl | rfl | rfl | rfl | rfl
 case inl =>
  obtain ⟨i0, rfl⟩ := len1 (show ins.length = 1 from hil)
  have hn := hi.len
  simp only [List.length_cons, List.length_nil] at hn
  subst hn
  obtain ⟨bi, oi, rfl, hbi, hci⟩ := zbb hi (by omega)
  have c0 : w.cell? ⟨bi, oi, none⟩ = some (.int .i64 i0) := hci 0 _ rfl
  have e0 := zbk hia (k := 0) (x := i0) rfl
  exact (zea _ _ _ _ _ _ _ _ _ _ w (by simp) (fun W hB => zrd _ _ _ _ _ _ _ _ _ _ _ _ W (by rw [hB.cell hbi]; exact c0))).mono fun e w' h => by simpa [zan, zaq, M.i_] using h
 case inr.inl =>
  obtain rfl := len0 (show ins.length = 0 from hil)
  have hn := hi.len
  simp only [List.length_nil] at hn
  subst hn
  exact (zea _ _ _ _ _ _ _ _ _ _ w (by simp) (fun W hB => zre _ _ _ _ _ _ _ _ _ _ W)).mono fun e w' h => by simpa [zan, zaq, M.i_] using h
 case inr.inr.inl =>
  obtain ⟨i0, i1, rfl⟩ := len2 (show ins.length = 2 from hil)
  have hn := hi.len
  simp only [List.length_cons, List.length_nil] at hn
  subst hn
  obtain ⟨bi, oi, rfl, hbi, hci⟩ := zbb hi (by omega)
  have c0 : w.cell? ⟨bi, oi, none⟩ = some (.int .i64 i0) := hci 0 _ rfl
  have c1 : w.cell? ⟨bi, oi + 1, none⟩ = some (.int .i64 i1) := hci 1 _ rfl
  have e0 := zbk hia (k := 0) (x := i0) rfl
  have e1 := zbk hia (k := 1) (x := i1) rfl
  exact (zea _ _ _ _ _ _ _ _ _ _ w (by simp) (fun W hB => zrf _ _ _ _ _ _ _ _ _ _  _ _ _ W (by rw [hB.cell hbi]; exact c0) (by rw [hB.cell hbi]; exact c1) ⟨e0.1, e0.2, e1.1, e1.2⟩)).mono fun e w' h => by simpa [zan, zaq, M.i_] using h
 case inr.inr.inr.inl =>
  obtain ⟨i0, i1, rfl⟩ := len2 (show ins.length = 2 from hil)
  have hn := hi.len
  simp only [List.length_cons, List.length_nil] at hn
  subst hn
  obtain ⟨bi, oi, rfl, hbi, hci⟩ := zbb hi (by omega)
  have c0 : w.cell? ⟨bi, oi, none⟩ = some (.int .i64 i0) := hci 0 _ rfl
  have c1 : w.cell? ⟨bi, oi + 1, none⟩ = some (.int .i64 i1) := hci 1 _ rfl
  have e0 := zbk hia (k := 0) (x := i0) rfl
  have e1 := zbk hia (k := 1) (x := i1) rfl
  exact (zea _ _ _ _ _ _ _ _ _ _ w (by simp) (fun W hB => zrg _ _ _ _ _ _ _ _ _ _  _ _ _ W (by rw [hB.cell hbi]; exact c0) (by rw [hB.cell hbi]; exact c1) ⟨e0.1, e0.2, e1.1, e1.2⟩)).mono fun e w' h => by simpa [zan, zaq, M.i_] using h
 case inr.inr.inr.inr.inl =>
  obtain ⟨i0, rfl⟩ := len1 (show ins.length = 1 from hil)
  have hn := hi.len
  simp only [List.length_cons, List.length_nil] at hn
  subst hn
  obtain ⟨bi, oi, rfl, hbi, hci⟩ := zbb hi (by omega)
  have c0 : w.cell? ⟨bi, oi, none⟩ = some (.int .i64 i0) := hci 0 _ rfl
  have e0 := zbk hia (k := 0) (x := i0) rfl
  exact (zea _ _ _ _ _ _ _ _ _ _ w (by simp) (fun W hB => zrh _ _ _ _ _ _ _ _ _ _ _ _ W (by rw [hB.cell hbi]; exact c0) (hb5 rfl) e0)).mono fun e w' h => by simpa [zan, zaq, M.i_] using h
 case inr.inr.inr.inr.inr.inl =>
  obtain ⟨i0, rfl⟩ := len1 (show ins.length = 1 from hil)
  have hn := hi.len
  simp only [List.length_cons, List.length_nil] at hn
  subst hn
  obtain ⟨bi, oi, rfl, hbi, hci⟩ := zbb hi (by omega)
  have c0 : w.cell? ⟨bi, oi, none⟩ = some (.int .i64 i0) := hci 0 _ rfl
  have e0 := zbk hia (k := 0) (x := i0) rfl
  have hsl2 : s.length = a1.toNat := hsl
  have hsr := h6 rfl
  obtain ⟨s0, ss, rfl⟩ := zix (xs := s) (by omega)
  have hm := hs.len
  simp only [List.length_cons] at hm hsl2
  obtain ⟨bs, os_, rfl, hbs, hcs0⟩ := zbb hs (by omega)
  have d0 : w.cell? ⟨bs, os_, none⟩ = some (.int .i64 s0) := hcs0 0 _ rfl
  have f0 := zbk hsa (k := 0) (x := s0) rfl
  exact (zlo _ _ _ _ _ _ _ _ _ _ _ _ _ _ _ _ w c0 hs (by omega) hcs).mono fun e w' h => by simpa [zan, zaq, M.i_] using h
 case inr.inr.inr.inr.inr.inr.inl =>
  obtain ⟨i0, rfl⟩ := len1 (show ins.length = 1 from hil)
  have hn := hi.len
  simp only [List.length_cons, List.length_nil] at hn
  subst hn
  obtain ⟨bi, oi, rfl, hbi, hci⟩ := zbb hi (by omega)
  have c0 : w.cell? ⟨bi, oi, none⟩ = some (.int .i64 i0) := hci 0 _ rfl
  have e0 := zbk hia (k := 0) (x := i0) rfl
  obtain ⟨s0, rfl⟩ := len1 (show s.length = 1 from hsl)
  have hm := hs.len
  simp only [List.length_cons, List.length_nil] at hm
  obtain ⟨bs, os_, rfl, hbs, hcs0⟩ := zbb hs (by omega)
  have d0 : w.cell? ⟨bs, os_, none⟩ = some (.int .i64 s0) := hcs0 0 _ rfl
  have f0 := zbk hsa (k := 0) (x := s0) rfl
  exact (zro _ _ _ _ _ _ _ _ _ _ _ _ _ _ _ w c0 d0 (by omega) e0 f0).mono fun e w' h => by simpa [zan, zaq, M.i_] using h
 case inr.inr.inr.inr.inr.inr.inr.inl =>
  obtain ⟨i0, rfl⟩ := len1 (show ins.length = 1 from hil)
  have hn := hi.len
  simp only [List.length_cons, List.length_nil] at hn
  subst hn
  obtain ⟨bi, oi, rfl, hbi, hci⟩ := zbb hi (by omega)
  have c0 : w.cell? ⟨bi, oi, none⟩ = some (.int .i64 i0) := hci 0 _ rfl
  have e0 := zbk hia (k := 0) (x := i0) rfl
  obtain ⟨s0, rfl⟩ := len1 (show s.length = 1 from hsl)
  have hm := hs.len
  simp only [List.length_cons, List.length_nil] at hm
  obtain ⟨bs, os_, rfl, hbs, hcs0⟩ := zbb hs (by omega)
  have d0 : w.cell? ⟨bs, os_, none⟩ = some (.int .i64 s0) := hcs0 0 _ rfl
  have f0 := zbk hsa (k := 0) (x := s0) rfl
  exact (zrp _ _ _ _ _ _ _ _ _ _ _ _ _ _ _ w c0 d0 (by omega) e0 f0).mono fun e w' h => by simpa [zan, zaq, M.i_] using h
 case inr.inr.inr.inr.inr.inr.inr.inr.inl =>
  obtain ⟨i0, i1, rfl⟩ := len2 (show ins.length = 2 from hil)
  have hn := hi.len
  simp only [List.length_cons, List.length_nil] at hn
  subst hn
  obtain ⟨bi, oi, rfl, hbi, hci⟩ := zbb hi (by omega)
  have c0 : w.cell? ⟨bi, oi, none⟩ = some (.int .i64 i0) := hci 0 _ rfl
  have c1 : w.cell? ⟨bi, oi + 1, none⟩ = some (.int .i64 i1) := hci 1 _ rfl
  have e0 := zbk hia (k := 0) (x := i0) rfl
  have e1 := zbk hia (k := 1) (x := i1) rfl
  exact (zea _ _ _ _ _ _ _ _ _ _ w (by simp) (fun W hB => zri _ _ _ _ _ _ _ _ _ _  _ _ _ W (by rw [hB.cell hbi]; exact c0) (by rw [hB.cell hbi]; exact c1) ⟨e0.1, e0.2, e1.1, e1.2⟩)).mono fun e w' h => by simpa [zan, zaq, M.i_] using h
 case inr.inr.inr.inr.inr.inr.inr.inr.inr.inl =>
  obtain ⟨i0, rfl⟩ := len1 (show ins.length = 1 from hil)
  have hn := hi.len
  simp only [List.length_cons, List.length_nil] at hn
  subst hn
  obtain ⟨bi, oi, rfl, hbi, hci⟩ := zbb hi (by omega)
  have c0 : w.cell? ⟨bi, oi, none⟩ = some (.int .i64 i0) := hci 0 _ rfl
  have e0 := zbk hia (k := 0) (x := i0) rfl
  exact (zea _ _ _ _ _ _ _ _ _ _ w (by simp) (fun W hB => zrj _ _ _ _ _ _ _ _ _ _ _ _ W (by rw [hB.cell hbi]; exact c0) (hb10 rfl) e0)).mono fun e w' h => by simpa [zan, zaq, M.i_] using h
 case inr.inr.inr.inr.inr.inr.inr.inr.inr.inr.inl =>
  obtain ⟨i0, rfl⟩ := len1 (show ins.length = 1 from hil)
  have hn := hi.len
  simp only [List.length_cons, List.length_nil] at hn
  subst hn
  obtain ⟨bi, oi, rfl, hbi, hci⟩ := zbb hi (by omega)
  have c0 : w.cell? ⟨bi, oi, none⟩ = some (.int .i64 i0) := hci 0 _ rfl
  have e0 := zbk hia (k := 0) (x := i0) rfl
  exact (zea _ _ _ _ _ _ _ _ _ _ w (by simp) (fun W hB => zrk _ _ _ _ _ _ _ _ _ _ _ _ W (by rw [hB.cell hbi]; exact c0) (hb11 rfl) e0)).mono fun e w' h => by simpa [zan, zaq, M.i_] using h
 case inr.inr.inr.inr.inr.inr.inr.inr.inr.inr.inr.inl =>
  obtain ⟨i0, rfl⟩ := len1 (show ins.length = 1 from hil)
  have hn := hi.len
  simp only [List.length_cons, List.length_nil] at hn
  subst hn
  obtain ⟨bi, oi, rfl, hbi, hci⟩ := zbb hi (by omega)
  have c0 : w.cell? ⟨bi, oi, none⟩ = some (.int .i64 i0) := hci 0 _ rfl
  have e0 := zbk hia (k := 0) (x := i0) rfl
  obtain ⟨s0, rfl⟩ := len1 (show s.length = 1 from hsl)
  have hm := hs.len
  simp only [List.length_cons, List.length_nil] at hm
  obtain ⟨bs, os_, rfl, hbs, hcs0⟩ := zbb hs (by omega)
  have d0 : w.cell? ⟨bs, os_, none⟩ = some (.int .i64 s0) := hcs0 0 _ rfl
  have f0 := zbk hsa (k := 0) (x := s0) rfl
  exact (zrq _ _ _ _ _ _ _ _ _ _ _ _ _ _ _ w c0 d0 (by omega) e0 f0).mono fun e w' h => by simpa [zan, zaq, M.i_] using h
 case inr.inr.inr.inr.inr.inr.inr.inr.inr.inr.inr.inr.inl =>
  obtain ⟨i0, rfl⟩ := len1 (show ins.length = 1 from hil)
  have hn := hi.len
  simp only [List.length_cons, List.length_nil] at hn
  subst hn
  obtain ⟨bi, oi, rfl, hbi, hci⟩ := zbb hi (by omega)
  have c0 : w.cell? ⟨bi, oi, none⟩ = some (.int .i64 i0) := hci 0 _ rfl
  have e0 := zbk hia (k := 0) (x := i0) rfl
  have h13 := hb13 rfl
  obtain ⟨j, rfl⟩ : ∃ j : Nat, a1 = (j : Int) := ⟨a1.toNat, by omega⟩
  have hjn : j < nt := by omega
  obtain ⟨bt, ot, A1, c1, t, rfl, hbt, X, hct, hrt, -⟩ := ze6 ht (Lib.hid (fun x hx => by obtain ⟨k, hk⟩ := List.getElem?_of_mem hx; have := (ziw htb hk).1; omega)) hjn
  obtain ⟨htl, -, ht4⟩ := ziw htb X.out
  have hcel : zag tb j = t := by rw [zag, X.out]; rfl
  exact (zea _ _ _ _ _ _ _ _ _ _ w (by simp) (fun W hB => zrl _ _ _ _ _ _ _ _ _ _ _ _ _ _ _ _ _ t W (by rw [hB.cell hbi]; exact c0) ⟨rfl, by omega, by omega⟩ (by rw [hB.cell hbt]; exact hct) (hrt.later hB) htl)).mono fun e w' h => by simpa [zan, zaq, M.i_, hcel] using h
 case inr.inr.inr.inr.inr.inr.inr.inr.inr.inr.inr.inr.inr.inl =>
  obtain rfl := len0 (show ins.length = 0 from hil)
  have hn := hi.len
  simp only [List.length_nil] at hn
  subst hn
  obtain ⟨s0, rfl⟩ := len1 (show s.length = 1 from hsl)
  have hm := hs.len
  simp only [List.length_cons, List.length_nil] at hm
  obtain ⟨bs, os_, rfl, hbs, hcs0⟩ := zbb hs (by omega)
  have d0 : w.cell? ⟨bs, os_, none⟩ = some (.int .i64 s0) := hcs0 0 _ rfl
  have f0 := zbk hsa (k := 0) (x := s0) rfl
  exact (zrr _ _ _ _ _ _ _ _ _ _ _ _ _ w d0 (by omega) f0).mono fun e w' h => by simpa [zan, zaq, M.i_] using h
 case inr.inr.inr.inr.inr.inr.inr.inr.inr.inr.inr.inr.inr.inr.inl =>
  obtain ⟨i0, i1, i2, rfl⟩ := len3 (show ins.length = 3 from hil)
  have hn := hi.len
  simp only [List.length_cons, List.length_nil] at hn
  subst hn
  obtain ⟨bi, oi, rfl, hbi, hci⟩ := zbb hi (by omega)
  have c0 : w.cell? ⟨bi, oi, none⟩ = some (.int .i64 i0) := hci 0 _ rfl
  have c1 : w.cell? ⟨bi, oi + 1, none⟩ = some (.int .i64 i1) := hci 1 _ rfl
  have c2 : w.cell? ⟨bi, oi + 2, none⟩ = some (.int .i64 i2) := hci 2 _ rfl
  have e0 := zbk hia (k := 0) (x := i0) rfl
  have e1 := zbk hia (k := 1) (x := i1) rfl
  have e2 := zbk hia (k := 2) (x := i2) rfl
  exact (zea _ _ _ _ _ _ _ _ _ _ w (by simp) (fun W hB => zrm _ _ _ _ _ _ _ _ _ _ _  _ _ _ W (by rw [hB.cell hbi]; exact c0) (by rw [hB.cell hbi]; exact c1) (by rw [hB.cell hbi]; exact c2) ⟨e0.1, e0.2, e1.1, e1.2, e2.1, e2.2⟩)).mono fun e w' h => by simpa [zan, zaq, M.i_] using h
 case inr.inr.inr.inr.inr.inr.inr.inr.inr.inr.inr.inr.inr.inr.inr.inl =>
  obtain ⟨i0, i1, rfl⟩ := len2 (show ins.length = 2 from hil)
  have hn := hi.len
  simp only [List.length_cons, List.length_nil] at hn
  subst hn
  obtain ⟨bi, oi, rfl, hbi, hci⟩ := zbb hi (by omega)
  have c0 : w.cell? ⟨bi, oi, none⟩ = some (.int .i64 i0) := hci 0 _ rfl
  have c1 : w.cell? ⟨bi, oi + 1, none⟩ = some (.int .i64 i1) := hci 1 _ rfl
  have e0 := zbk hia (k := 0) (x := i0) rfl
  have e1 := zbk hia (k := 1) (x := i1) rfl
  obtain ⟨s0, rfl⟩ := len1 (show s.length = 1 from hsl)
  have hm := hs.len
  simp only [List.length_cons, List.length_nil] at hm
  obtain ⟨bs, os_, rfl, hbs, hcs0⟩ := zbb hs (by omega)
  have d0 : w.cell? ⟨bs, os_, none⟩ = some (.int .i64 s0) := hcs0 0 _ rfl
  have f0 := zbk hsa (k := 0) (x := s0) rfl
  exact (zrs _ _ _ _ _ _ _ _ _ _ _ _ _ _ _ _ w c0 c1 d0 (by omega) ⟨e0.1, e0.2, e1.1, e1.2⟩ f0).mono fun e w' h => by simpa [zan, zaq, M.i_] using h
 case inr.inr.inr.inr.inr.inr.inr.inr.inr.inr.inr.inr.inr.inr.inr.inr =>
  obtain ⟨i0, rfl⟩ := len1 (show ins.length = 1 from hil)
  have hn := hi.len
  simp only [List.length_cons, List.length_nil] at hn
  subst hn
  obtain ⟨bi, oi, rfl, hbi, hci⟩ := zbb hi (by omega)
  have c0 : w.cell? ⟨bi, oi, none⟩ = some (.int .i64 i0) := hci 0 _ rfl
  have e0 := zbk hia (k := 0) (x := i0) rfl
  have hsl2 : s.length = a2.toNat := hsl
  have hsr := h17 rfl
  obtain ⟨s0, ss, rfl⟩ := zix (xs := s) (by omega)
  have hm := hs.len
  simp only [List.length_cons] at hm hsl2
  obtain ⟨bs, os_, rfl, hbs, hcs0⟩ := zbb hs (by omega)
  have d0 : w.cell? ⟨bs, os_, none⟩ = some (.int .i64 s0) := hcs0 0 _ rfl
  have f0 := zbk hsa (k := 0) (x := s0) rfl
  exact (zrt _ _ _ _ _ _ _ _ _ _ _ _ _ _ _ _ w c0 hs (by omega) hcs (hb17 rfl) e0 f0).mono fun e w' h => by simpa [zan, zaq, M.i_] using h
end
end Go.Proofs.YtfkcoiefkjmdeaaGreat
