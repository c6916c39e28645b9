import Derived.Test.YtfkcoiefkjmdeaaGreatFnNullG14
import Derived.Test.YtfkcoiefkjmdeaaGreatFnNullG3
import Derived.Test.YtfkcoiefkjmdeaaGreatFnNullG5
import Derived.Test.YtfkcoiefkjmdeaaGreatFnNullG2
import Derived.Lib.QuietBelow
import Derived.Deep.DeepCutAuto
import Derived.Test.YtfkcoiefkjmdeaaGreatFnNullG12
import Derived.Test.YtfkcoiefkjmdeaaGreatFnNullG7
import Derived.Test.YtfkcoiefkjmdeaaGreatFnNullG4
import Derived.Test.YtfkcoiefkjmdeaaGreatFnNullG13
import Derived.Test.YtfkcoiefkjmdeaaGreatFnNullG1
import Derived.Deep.Slices
import Derived.Deep.Fields
import Derived.ChangeSame
import Derived.Lib.SmallJoins
set_option linter.unusedVariables false
set_option linter.unusedSimpArgs false
set_option maxRecDepth 100000
set_option maxHeartbeats 4000000
namespace Go.Proofs.YtfkcoiefkjmdeaaGreat
section
open Go.RowKit Go.Sort
theorem zml (A : Option Addr) (n c : Nat) (xs : List Int) (m : Int) (w : World) (hx : RI w w.heap.size A n xs) (hn : n ≤ 1000000000000) :
 Calls Tryz.prog 85 #[.slice A n c, .int .i64 m] w fun e w' => e = .returned (.bool (zal xs m)) ∧ w = w' := by
 go_enter Tryz.func85, Tryz.ntmps85
 go_wp2
 go_loop [9] (fun i => ∃ k : Nat, i = .int .i64 k ∧ k ≤ n ∧ Hid (zal xs m = zal (xs.drop k) m)) (fun i => n - (intOf i).toNat)
 case atStart => exact ⟨0, rfl, by omega, Lib.hid (by simp)⟩
 case round =>
  obtain ⟨k, rfl, hk, H⟩ := hrel
  have hl := Lib.hid hx.len
  by_cases hlt : k < n
  · obtain ⟨ad, x, rfl, hab, X, hc⟩ := hx.at hlt
    have hd := Lib.hid (M.drop_at X.out)
    by_cases hs : x = m
    · have R := Lib.hid (show zal xs m = true by rw [H.out, hd.out, zg6]; simp [hs])
      have g : (m == x) = true := by simpa using hs.symm
      subst hs
      go_wp2
      go_ret
      exact ⟨zab (by rw [R.out]), rfl⟩
    · have R := Lib.hid (show zal xs m = zal (xs.drop (k + 1)) m by rw [H.out, hd.out, zg6, decide_eq_false hs, Bool.false_or])
      have g : (m == x) = false := by simpa using fun h => hs h.symm
      have hs' : ¬ m = x := fun h => hs h.symm
      clear hs
      go_wp2
      go_round
      case rel => exact ⟨k + 1, by go_num, by omega, R⟩
      case measure => simp [intOf]; omega
  · have R := Lib.hid (show zal xs m = false by rw [H.out, List.drop_eq_nil_of_le (by rw [hl.out]; omega)]; rfl)
    go_wp2
    go_ret
    exact ⟨zab (by rw [R.out]), rfl⟩
def zbc (keep : List Int) (k : Nat) (xs : List (List zah)) : List (List zah) := xs.mapIdx (fun i x => if i < k ∧ zal keep i = false then [] else x)
theorem zfu (keep : List Int) (k : Nat) (xs : List (List zah)) : (zbc keep k xs).length = xs.length := by simp [zbc]
theorem zty (keep : List Int) (xs : List (List zah)) : zbc keep 0 xs = xs := by
 apply List.ext_getElem (by simp [zbc])
 intro i h h'
 simp [zbc]
theorem ztz {keep : List Int} {k : Nat} {xs : List (List zah)} {x : List zah} (h : xs[k]? = some x) : (zbc keep k xs)[k]? = some x := by
 simp [zbc, List.getElem?_mapIdx, h]
theorem zt0 {keep : List Int} {k : Nat} (xs : List (List zah)) (h : zal keep k = true) : zbc keep (k + 1) xs = zbc keep k xs := by
 apply List.ext_getElem (by simp [zbc])
 intro i h1 h2
 simp only [zbc, List.getElem_mapIdx]
 by_cases hi : i = k
 · subst hi; simp [h]
 · have e : (i < k + 1) ↔ (i < k) := by omega
   simp only [e]
theorem zt1 {keep : List Int} {k : Nat} (xs : List (List zah)) (h : zal keep k = false) : zbc keep (k + 1) xs = (zbc keep k xs).set k [] := by
 apply List.ext_getElem (by simp [zbc])
 intro i h1 h2
 rw [List.getElem_set]
 simp only [zbc, List.getElem_mapIdx]
 by_cases hi : i = k
 · subst hi; simp [h]
 · have e : (i < k + 1) ↔ (i < k) := by omega
   simp only [e, if_neg (show ¬ k = i by omega)]
theorem zt2 (a0 : Int) (A1 : Option Addr) (n1 c1 : Nat) (A2 : Option Addr) (n2 c2 : Nat) (A3 : Option Addr) (n3 c3 : Nat) (A4 : Option Addr) (n4 c4 : Nat) (A5 : Option Addr) (n5 c5 : Nat) (x1 : List (List Int)) (x2 : List (List zah)) (x3 : List Int) (x4 : List zaf) (x5 : List zad) (KA : Option Addr) (kn kc : Nat) (keep : List Int) (w : World)  (h1 : tSS.R w w.heap.size [.slice A1 n1 c1] x1) (h2 : tTS.R w w.heap.size [.slice A2 n2 c2] x2) (h3 : tS.R w w.heap.size [.slice A3 n3 c3] x3) (h4 : tPS.R w w.heap.size [.slice A4 n4 c4] x4) (h5 : tM.R w w.heap.size [.slice A5 n5 c5] x5) (hk_ : RI w w.heap.size KA kn keep) (hkn : kn ≤ 1000000000) (hn : hZ.sz ((a0, x1, x2, x3, x4, x5) : Sess) ≤ 100000000) :
 Calls Tryz.prog 48 #[.agg #[.int .i64 a0, .slice A1 n1 c1, .slice A2 n2 c2, .slice A3 n3 c3, .slice A4 n4 c4, .slice A5 n5 c5], .slice KA kn kc] w fun e w' => ∃ A1' n1' c1' A2' n2' c2' A3' n3' c3' A4' n4' c4' A5' n5' c5', e = .returned (.agg #[.int .i64 a0, .slice A1' n1' c1', .slice A2' n2' c2', .slice A3' n3' c3', .slice A4' n4' c4', .slice A5' n5' c5']) ∧ tZ.O w' (Iv w.heap.size w'.heap.size) [.int .i64 a0, .slice A1' n1' c1', .slice A2' n2' c2', .slice A3' n3' c3', .slice A4' n4' c4', .slice A5' n5' c5'] (a0, x1, zbc keep x2.length x2, x3, x4, x5) ∧ Below w.heap.size w w' := by
 obtain ⟨W_, hW_, B0_, sW_, p0, p1, p2, p3, p4, p5, pf⟩ := zb2 w (.int .i64 a0) (.slice A1 n1 c1) (.slice A2 n2 c2) (.slice A3 n3 c3) (.slice A4 n4 c4) (.slice A5 n5 c5) 32
 obtain ⟨W, hW, B1_, sW, r0, r1, r2, r3, r4, r5, rf⟩ := zb2 W_ (.int .i64 0) (.slice none 0 0) (.slice none 0 0) (.slice none 0 0) (.slice none 0 0) (.slice none 0 0) 32
 have B0 := zaa B0_ B1_
 rw [hW_] at hW
 clear hW_
 replace p0 : W.cell? ⟨w.heap.size, 0, none⟩ = some (.int .i64 a0) := by rw [B1_.cell (by show w.heap.size < _; omega)]; exact p0
 replace p1 : W.cell? ⟨w.heap.size, 1, none⟩ = some (.slice A1 n1 c1) := by rw [B1_.cell (by show w.heap.size < _; omega)]; exact p1
 replace p2 : W.cell? ⟨w.heap.size, 2, none⟩ = some (.slice A2 n2 c2) := by rw [B1_.cell (by show w.heap.size < _; omega)]; exact p2
 replace p3 : W.cell? ⟨w.heap.size, 3, none⟩ = some (.slice A3 n3 c3) := by rw [B1_.cell (by show w.heap.size < _; omega)]; exact p3
 replace p4 : W.cell? ⟨w.heap.size, 4, none⟩ = some (.slice A4 n4 c4) := by rw [B1_.cell (by show w.heap.size < _; omega)]; exact p4
 replace p5 : W.cell? ⟨w.heap.size, 5, none⟩ = some (.slice A5 n5 c5) := by rw [B1_.cell (by show w.heap.size < _; omega)]; exact p5
 obtain ⟨rb, hrb⟩ : ∃ rb, rb = W_.heap.size := ⟨_, rfl⟩
 have hrb2 : rb = w.heap.size + 1 := by omega
 rw [← hrb] at r0 r1 r2 r3 r4 r5 rf
 clear hrb
 subst hrb2
 have lW : w.heap.size + 1 < W.heap.size := by omega
 clear sW sW_ B0_ B1_ pf
 have HW := Lib.hid hW
 clear hW
 have k1 := tSS.later h1 B0
 have k2 := tTS.later h2 B0
 have k3 := tS.later h3 B0
 have k4 := tPS.later h4 B0
 have k5 := tM.later h5 B0
 have kk := hk_.later B0
 have z2 : x2.length ≤ 100000000 := by rw [zeg] at hn; have e : x2.length + hT.szL x2 = hTS.sz x2 := rfl; omega
 clear h1 h2 h3 h4 h5
 go_enter Tryz.func48, Tryz.ntmps48
 go_wp2_with fail
 rw [← HW.out]
 refine (ztx a0 A1 n1 c1 A2 n2 c2 A3 n3 c3 A4 n4 c4 A5 n5 c5 x1 x2 x3 x4 x5 W k1 k2 k3 k4 k5 hn).mono ?_
 rintro e w1 ⟨A1', n1', c1', A2', n2', c2', A3', n3', c3', A4', n4', c4', A5', n5', c5', rfl, oz, bel1⟩
 have s1 := bel1.size
 obtain ⟨_, _, _, _, _, _, _, _, _, _, _, _, _, _, _, F1, F2, F3, F4, F5, hcs, g1, g2, g3, g4, g5, q1, q2, q3, q4, q5, r1_2, r1_3, r1_4, r1_5, r2_3, r2_4, r2_5, r3_4, r3_5, r4_5⟩ := tZ_O.1 oz
 simp only [List.cons.injEq, Value.slice.injEq, and_true, true_and] at hcs
 obtain ⟨⟨rfl, rfl, rfl⟩, ⟨rfl, rfl, rfl⟩, ⟨rfl, rfl, rfl⟩, ⟨rfl, rfl, rfl⟩, ⟨rfl, rfl, rfl⟩⟩ := hcs
 obtain ⟨U, hU, BU, sU, d0, d1, d2, d3, d4, d5, df⟩ := zb2 w1 (.int .i64 a0) (.slice A1' n1' c1') (.slice A2' n2' c2') (.slice A3' n3' c3') (.slice A4' n4' c4') (.slice A5' n5' c5') 32
 have HU := Lib.hid hU
 have BWU := zaa bel1 BU
 clear hU oz
 replace g1 := tSS.ochg g1 (Chg.of_below BU (fun _ => False)) (fun _ _ h => h)
 replace g2 := tTS.ochg g2 (Chg.of_below BU (fun _ => False)) (fun _ _ h => h)
 replace g3 := tS.ochg g3 (Chg.of_below BU (fun _ => False)) (fun _ _ h => h)
 replace g4 := tPS.ochg g4 (Chg.of_below BU (fun _ => False)) (fun _ _ h => h)
 replace g5 := tM.ochg g5 (Chg.of_below BU (fun _ => False)) (fun _ _ h => h)
 replace r0 : U.cell? ⟨w.heap.size + 1, 0, none⟩ = some (.int .i64 0) := (BWU.cell (by show w.heap.size + 1 < _; omega)).trans r0
 replace r1 : U.cell? ⟨w.heap.size + 1, 1, none⟩ = some (.slice none 0 0) := (BWU.cell (by show w.heap.size + 1 < _; omega)).trans r1
 replace r2 : U.cell? ⟨w.heap.size + 1, 2, none⟩ = some (.slice none 0 0) := (BWU.cell (by show w.heap.size + 1 < _; omega)).trans r2
 replace r3 : U.cell? ⟨w.heap.size + 1, 3, none⟩ = some (.slice none 0 0) := (BWU.cell (by show w.heap.size + 1 < _; omega)).trans r3
 replace r4 : U.cell? ⟨w.heap.size + 1, 4, none⟩ = some (.slice none 0 0) := (BWU.cell (by show w.heap.size + 1 < _; omega)).trans r4
 replace r5 : U.cell? ⟨w.heap.size + 1, 5, none⟩ = some (.slice none 0 0) := (BWU.cell (by show w.heap.size + 1 < _; omega)).trans r5
 replace rf : ∀ j, U.frozen? ⟨w.heap.size + 1, j, none⟩ = false := fun j => (BWU.frozen (by show w.heap.size + 1 < _; omega)).trans (rf j)
 have kU := kk.later BWU
 have ln2 := Lib.hid (sl_O.1 g2).read.cap.1
 have gF2 : ∀ b, F2 b → W.heap.size ≤ b ∧ b < w1.heap.size := fun b hb => q2 b hb
 have bn2' : n2' ≤ 100000000 := by have := ln2.out; omega
 go_wp2_with fail
 rw [← HU.out]
 go_loopw [12] (fun i wr => ∃ k : Nat, i = .int .i64 k ∧ k ≤ n2' ∧ OS tT 42 wr F2 (.slice A2' n2' c2') (zbc keep k x2) ∧ Chg F2 U wr) (fun i _ => n2' - (intOf i).toNat)
 case atStart => exact ⟨0, rfl, by omega, by rw [zty]; exact sl_O.1 g2, Chg.refl _ _⟩
 case round =>
  obtain ⟨k, rfl, hk, own, ch⟩ := hrel
  have sr := ch.size
  have Bwr : Below W.heap.size W wr := BWU.trans (ch.toBelow (fun b hb => (gF2 b hb).1) (by omega))
  have D2 : wr.cell? ⟨w1.heap.size, 2, none⟩ = some (.slice A2' n2' c2') := (ch.cell (by omega) (fun h => by have := gF2 _ h; omega)).trans d2
  have kw : RI wr wr.heap.size KA kn keep := kk.later Bwr
  by_cases hlt : k < n2'
  · have hX := Lib.hid (List.getElem?_eq_getElem (show k < x2.length by rw [ln2.out]; exact hlt))
    generalize x2[k]'(by rw [ln2.out]; exact hlt) = x at hX
    cases hm : zal keep (k : Int)
    · have HM := Lib.hid hm
      have Q := Lib.hid (zt1 x2 hm)
      clear hm
      obtain ⟨css, Fs, hole, cs, hcs, hE⟩ := own.openAt (ztz (keep := keep) hX.out)
      obtain ⟨A0, n0, c0, rfl⟩ := zbw (tT.read hE)
      obtain ⟨g2_, rfl, hgF, hgn, hgl, -⟩ := hole.form (by rw [zfu, ln2.out]; exact hlt)
      have c0_ := (hole.cell hcs (j := 0) rfl).1
      have f0_ := (hole.cell hcs (j := 0) rfl).2
      change wr.cell? ⟨g2_, k * 1 + 0, none⟩ = _ at c0_
      change wr.frozen? ⟨g2_, k * 1 + 0, none⟩ = _ at f0_
      rw [Nat.add_zero, Nat.mul_one] at c0_ f0_
      go_wp2_with (go_at_call 85; refine (zml _ _ _ _ _ _ kw (by omega)).mono ?_; rw [HM.out]; rintro e w2 ⟨rfl, rfl⟩)
      go_roundw
      case rel =>
       have s0 := hole.set hcs 0 (by decide) (.slice none 0 0)
       have h3 := s0.1.fill s0.2 (y := []) (sl_O.2 (OS.nil _ _ _ _))
       rw [Nat.add_zero, show tT.s = 1 from rfl, Nat.mul_one] at h3
       exact ⟨k + 1, by go_num, by omega, by rw [Q.out]; exact h3, ch.trans (Chg.set _ g2_ k _ hgF)⟩
      case measure => simp [intOf]; omega
    · have HM := Lib.hid hm
      have Q := Lib.hid (zt0 x2 hm)
      clear hm
      go_wp2_with (go_at_call 85; refine (zml _ _ _ _ _ _ kw (by omega)).mono ?_; rw [HM.out]; rintro e w2 ⟨rfl, rfl⟩)
      go_roundw
      case rel => exact ⟨k + 1, by go_num, by omega, by rw [Q.out]; exact own, ch⟩
      case measure => simp [intOf]; omega
  · obtain rfl : k = n2' := by omega
    have D0 : wr.cell? ⟨w1.heap.size, 0, none⟩ = some (.int .i64 a0) := (ch.cell (by omega) (fun h => by have := gF2 _ h; omega)).trans d0
    have D1 : wr.cell? ⟨w1.heap.size, 1, none⟩ = some (.slice A1' n1' c1') := (ch.cell (by omega) (fun h => by have := gF2 _ h; omega)).trans d1
    have D3 : wr.cell? ⟨w1.heap.size, 3, none⟩ = some (.slice A3' n3' c3') := (ch.cell (by omega) (fun h => by have := gF2 _ h; omega)).trans d3
    have D4 : wr.cell? ⟨w1.heap.size, 4, none⟩ = some (.slice A4' n4' c4') := (ch.cell (by omega) (fun h => by have := gF2 _ h; omega)).trans d4
    have D5 : wr.cell? ⟨w1.heap.size, 5, none⟩ = some (.slice A5' n5' c5') := (ch.cell (by omega) (fun h => by have := gF2 _ h; omega)).trans d5
    have R0 : wr.cell? ⟨w.heap.size + 1, 0, none⟩ = some (.int .i64 0) := (ch.cell (by omega) (fun h => by have := gF2 _ h; omega)).trans r0
    have R1 : wr.cell? ⟨w.heap.size + 1, 1, none⟩ = some (.slice none 0 0) := (ch.cell (by omega) (fun h => by have := gF2 _ h; omega)).trans r1
    have R2 : wr.cell? ⟨w.heap.size + 1, 2, none⟩ = some (.slice none 0 0) := (ch.cell (by omega) (fun h => by have := gF2 _ h; omega)).trans r2
    have R3 : wr.cell? ⟨w.heap.size + 1, 3, none⟩ = some (.slice none 0 0) := (ch.cell (by omega) (fun h => by have := gF2 _ h; omega)).trans r3
    have R4 : wr.cell? ⟨w.heap.size + 1, 4, none⟩ = some (.slice none 0 0) := (ch.cell (by omega) (fun h => by have := gF2 _ h; omega)).trans r4
    have R5 : wr.cell? ⟨w.heap.size + 1, 5, none⟩ = some (.slice none 0 0) := (ch.cell (by omega) (fun h => by have := gF2 _ h; omega)).trans r5
    have RF : ∀ j, wr.frozen? ⟨w.heap.size + 1, j, none⟩ = false := fun j => (ch.frozen (by omega) (fun h => by have := gF2 _ h; omega)).trans (rf j)
    have RF0 := RF 0
    have RF1 := RF 1
    have RF2 := RF 2
    have RF3 := RF 3
    have RF4 := RF 4
    have RF5 := RF 5
    obtain ⟨U_, hU_, y0, y1, y2, y3, y4, y5, yf, ych, ysz⟩ := box6 R0 R1 R2 R3 R4 R5 RF (.int .i64 a0) (.slice A1' n1' c1') (.slice A2' k c2') (.slice A3' n3' c3') (.slice A4' n4' c4') (.slice A5' n5' c5')
    have HU_ := Lib.hid hU_
    clear hU_
    go_wp2
    rw [← HU_.out]
    have yf0 := yf 0
    have yf1 := yf 1
    have yf2 := yf 2
    have yf3 := yf 3
    have yf4 := yf 4
    have yf5 := yf 5
    refine bodyPost_ret (v := .agg #[.int .i64 a0, .slice A1' n1' c1', .slice A2' k c2', .slice A3' n3' c3', .slice A4' n4' c4', .slice A5' n5' c5']) (by simp [results, Tryz.results48, go_sem, y0, y1, y2, y3, y4, y5, yf0, yf1, yf2, yf3, yf4, yf5]) rfl ?_
    have eM : zbc keep x2.length x2 = zbc keep k x2 := by rw [ln2.out]
    rw [← eM] at own
    have hE_ : ∀ b, (Iv W.heap.size w1.heap.size) b → ¬ b = w.heap.size + 1 := fun b hb e => by have := hb.1; omega
    have ey : U_.heap.size = wr.heap.size := ysz
    refine ⟨A1', n1', c1', A2', k, c2', A3', n3', c3', A4', n4', c4', A5', n5', c5', rfl, tZ_O.2 ⟨_, _, _, _, _, _, _, _, _, _, _, _, _, _, _, F1, F2, F3, F4, F5, rfl, tSS.ochg (tSS.ochg g1 ch (fun b h h2 => r1_2 b h h2)) ych (fun b hb => hE_ b (q1 b hb)), tTS.ochg (sl_O.2 own) ych (fun b hb => hE_ b (q2 b hb)), tS.ochg (tS.ochg g3 ch (fun b h h2 => r2_3 b h2 h)) ych (fun b hb => hE_ b (q3 b hb)), tPS.ochg (tPS.ochg g4 ch (fun b h h2 => r2_4 b h2 h)) ych (fun b hb => hE_ b (q4 b hb)), tM.ochg (tM.ochg g5 ch (fun b h h2 => r2_5 b h2 h)) ych (fun b hb => hE_ b (q5 b hb)), fun b hb => Iv.mono (by omega) (by omega) b (q1 b hb), fun b hb => Iv.mono (by omega) (by omega) b (q2 b hb), fun b hb => Iv.mono (by omega) (by omega) b (q3 b hb), fun b hb => Iv.mono (by omega) (by omega) b (q4 b hb), fun b hb => Iv.mono (by omega) (by omega) b (q5 b hb), r1_2, r1_3, r1_4, r1_5, r2_3, r2_4, r2_5, r3_4, r3_5, r4_5⟩, ?_⟩
    exact (zaa B0 Bwr).trans (ych.toBelow (fun b (hb : b = _) => by omega) (by omega))
end
section
open Go.RowKit Go.Sort
set_option synthInstance.maxSize 2000
set_option synthInstance.maxHeartbeats 400000
instance decTracks : DecidableEq (List (List zah)) := inferInstance
instance decPatch : DecidableEq zaf := inferInstance
instance decPatches : DecidableEq (List zaf) := inferInstance
instance decStrips : DecidableEq (List zad) := inferInstance
instance decSess5 : DecidableEq (List zaf × List zad) := inferInstance
instance decSess4 : DecidableEq (List Int × List zaf × List zad) := inferInstance
instance decSess3 : DecidableEq (List (List zah) × List Int × List zaf × List zad) := inferInstance
instance decSess : DecidableEq Sess := inferInstance
end
section
open Go.RowKit
end
section
open Go.RowKit
end
section
open Go.RowKit Go.Sort
end
section
open Go.RowKit
theorem OH.at {α : Type} {t : Ty α} {e : TypeId} {w U : World} {F : Nat → Prop} {v : Value} {xs : List α} {css : List (List Value)} {Fs : Nat → Nat → Prop} {k : Nat} (h : OH t e w F v xs css Fs k) (hU : U = w) : OH t e U F v xs css Fs k := hU ▸ h
end
section
open Go.RowKit
end
section
open Go.RowKit
end
section
open Go.RowKit
end
section
open Go.RowKit
end
section
open Go.RowKit Go.Sort
set_option synthInstance.maxSize 2000
set_option synthInstance.maxHeartbeats 400000
theorem zt3 (a0 : Int) (A1 : Option Addr) (n1 c1 : Nat) (A2 : Option Addr) (n2 c2 : Nat) (A3 : Option Addr) (n3 c3 : Nat) (A4 : Option Addr) (n4 c4 : Nat) (A5 : Option Addr) (n5 c5 : Nat) (x1 : List (List Int)) (x2 : List (List zah)) (x3 : List Int) (x4 : List zaf) (x5 : List zad) (w : World) (h1 : tSS.R w w.heap.size [.slice A1 n1 c1] x1) (h2 : tTS.R w w.heap.size [.slice A2 n2 c2] x2) (h3 : tS.R w w.heap.size [.slice A3 n3 c3] x3) (h4 : tPS.R w w.heap.size [.slice A4 n4 c4] x4) (h5 : tM.R w w.heap.size [.slice A5 n5 c5] x5) (hn : hZ.sz ((a0, x1, x2, x3, x4, x5) : Sess) ≤ 100000000) :
 Calls Tryz.prog 17 #[.agg #[.int .i64 a0, .slice A1 n1 c1, .slice A2 n2 c2, .slice A3 n3 c3, .slice A4 n4 c4, .slice A5 n5 c5]] w fun e w' => e = .returned (.bool (za9 (a0, x1, x2, x3, x4, x5))) ∧ Below w.heap.size w w' := by
 obtain ⟨W, hW⟩ : ∃ W, W = w.alloc (.cells #[.int .i64 a0, .slice A1 n1 c1, .slice A2 n2 c2, .slice A3 n3 c3, .slice A4 n4 c4, .slice A5 n5 c5] 32) := ⟨_, rfl⟩
 have B0 : Below w.heap.size w W := by rw [hW]; exact (Below.refl _ _).alloc (Nat.le_refl _) _
 have p0 : W.cell? ⟨w.heap.size, 0, none⟩ = some (.int .i64 a0) := by rw [hW]; simp [go_sem]
 have p1 : W.cell? ⟨w.heap.size, 1, none⟩ = some (.slice A1 n1 c1) := by rw [hW]; simp [go_sem]
 have p2 : W.cell? ⟨w.heap.size, 2, none⟩ = some (.slice A2 n2 c2) := by rw [hW]; simp [go_sem]
 have p3 : W.cell? ⟨w.heap.size, 3, none⟩ = some (.slice A3 n3 c3) := by rw [hW]; simp [go_sem]
 have p4 : W.cell? ⟨w.heap.size, 4, none⟩ = some (.slice A4 n4 c4) := by rw [hW]; simp [go_sem]
 have p5 : W.cell? ⟨w.heap.size, 5, none⟩ = some (.slice A5 n5 c5) := by rw [hW]; simp [go_sem]
 have lx : w.heap.size < W.heap.size := by rw [hW]; simp
 have HW := Lib.hid hW
 clear hW
 have k1 := tSS.later h1 B0
 have k2 := tTS.later h2 B0
 have k3 := tS.later h3 B0
 have k4 := tPS.later h4 B0
 have k5 := tM.later h5 B0
 go_enter Tryz.func17, Tryz.ntmps17
 go_wp2_with fail
 rw [← HW.out]
 refine (zqk _ _ _ _ _ _ _ _ _ _ _ _ _ _ _ _ _ _ _ _ _ _ W p0 p1 p2 p3 p4 p5 k1 k2 k3 k4 k5 hn).mono ?_
 rintro e w2 ⟨rfl, bel2⟩
 go_wp2
 go_ret
 exact ⟨rfl, zaa B0 bel2⟩
theorem zt4 (p : Int) (A : Option Addr) (n c : Nat) (Ab : Option Addr) (nb cb : Nat) (Ac : Option Addr) (nc cc : Nat) (Ad : Option Addr) (nd cd : Nat) (Ae : Option Addr) (ne ce : Nat) (x : Sess) (w : World) (hx : tZ.R w w.heap.size [.int .i64 p, .slice A n c, .slice Ab nb cb, .slice Ac nc cc, .slice Ad nd cd, .slice Ae ne ce] x) (hn : hZ.sz x ≤ 100000000) :
 Calls Tryz.prog 17 #[.agg #[.int .i64 p, .slice A n c, .slice Ab nb cb, .slice Ac nc cc, .slice Ad nd cd, .slice Ae ne ce]] w fun e w' => e = .returned (.bool (za9 x)) ∧ Below w.heap.size w w' := by
 obtain ⟨a0, x1, x2, x3, x4, x5⟩ := x
 obtain ⟨A1, n1, c1, A2, n2, c2, A3, n3, c3, A4, n4, c4, A5, n5, c5, hcs, h1, h2, h3, h4, h5⟩ := tZ_R.1 hx
 simp only [List.cons.injEq, Value.int.injEq, Value.slice.injEq, true_and, and_true] at hcs
 obtain ⟨rfl, ⟨rfl, rfl, rfl⟩, ⟨rfl, rfl, rfl⟩, ⟨rfl, rfl, rfl⟩, ⟨rfl, rfl, rfl⟩, ⟨rfl, rfl, rfl⟩⟩ := hcs
 exact zt3 _ _ _ _ _ _ _ _ _ _ _ _ _ _ _ _ _ _ _ _ _ _  h1 h2 h3 h4 h5 hn
end
section
open Go.RowKit Go.Sort
theorem zmm (A : Option Addr) (n c : Nat) (w : World) : Calls Tryz.prog 33 #[.slice A n c] w fun e w' => e = .returned (.int .i64 n) ∧ w = w' := by
 go_enter Tryz.func33, Tryz.ntmps33
 go_wp2
 go_ret
 exact ⟨rfl, rfl⟩
def zez (x : Sess) (keep : List Int) : Int := if za9 x then (if keep.all (zax (x.2.2.1.length : Int)) then 0 else 2) else 1
def zmn (x : Sess) (keep : List Int) : Sess := (x.1, x.2.1, zbc keep x.2.2.1.length x.2.2.1, x.2.2.2)
theorem zt5 (xs : List (List zah)) : ∀ f : Nat → List zah → List zah, (∀ i x, hT.sz (f i x) ≤ hT.sz x) → hT.szL (xs.mapIdx f) ≤ hT.szL xs := by
 induction xs with
 | nil => intro f _; simp
 | cons x xs ih =>
  intro f hf
  rw [List.mapIdx_cons, Hs.szL, Hs.szL]
  have := hf 0 x
  have := ih (fun i => f (i + 1)) (fun i x => hf (i + 1) x)
  omega
theorem zt6 (x : Sess) (keep : List Int) : hZ.sz (zmn x keep) ≤ hZ.sz x := by
 obtain ⟨a0, x1, x2, x3, x4, x5⟩ := x
 have e : zmn (a0, x1, x2, x3, x4, x5) keep = (a0, x1, zbc keep x2.length x2, x3, x4, x5) := rfl
 rw [e, zeg, zeg]
 have h1 : hTS.sz (zbc keep x2.length x2) = (zbc keep x2.length x2).length + hT.szL (zbc keep x2.length x2) := rfl
 have h2 : hTS.sz x2 = x2.length + hT.szL x2 := rfl
 have h3 : hT.szL (zbc keep x2.length x2) ≤ hT.szL x2 := zt5 x2 _ (fun i x => by
  split
  · show 0 + 0 ≤ _; omega
  · exact Nat.le_refl _)
 rw [zfu] at h1
 omega
theorem zhy (a0 : Int) (A1 : Option Addr) (n1 c1 : Nat) (A2 : Option Addr) (n2 c2 : Nat) (A3 : Option Addr) (n3 c3 : Nat) (A4 : Option Addr) (n4 c4 : Nat) (A5 : Option Addr) (n5 c5 : Nat) (x1 : List (List Int)) (x2 : List (List zah)) (x3 : List Int) (x4 : List zaf) (x5 : List zad) (KA : Option Addr) (kn kc : Nat) (keep : List Int) (w : World) (h1 : tSS.R w w.heap.size [.slice A1 n1 c1] x1) (h2 : tTS.R w w.heap.size [.slice A2 n2 c2] x2) (h3 : tS.R w w.heap.size [.slice A3 n3 c3] x3) (h4 : tPS.R w w.heap.size [.slice A4 n4 c4] x4) (h5 : tM.R w w.heap.size [.slice A5 n5 c5] x5) (hk_ : RI w w.heap.size KA kn keep) (hkn : kn ≤ 1000000000) (hn : hZ.sz ((a0, x1, x2, x3, x4, x5) : Sess) ≤ 100000000) :
 Calls Tryz.prog 21 #[.agg #[.int .i64 a0, .slice A1 n1 c1, .slice A2 n2 c2, .slice A3 n3 c3, .slice A4 n4 c4, .slice A5 n5 c5], .slice KA kn kc] w fun e w' => e = .returned (.int .i64 (zez (a0, x1, x2, x3, x4, x5) keep)) ∧ Below w.heap.size w w' := by
 obtain ⟨W, hW, B0, sW, p0, p1, p2, p3, p4, p5, pf⟩ := zb2 w (.int .i64 a0) (.slice A1 n1 c1) (.slice A2 n2 c2) (.slice A3 n3 c3) (.slice A4 n4 c4) (.slice A5 n5 c5) 32
 have HW := Lib.hid hW
 have lW : w.heap.size < W.heap.size := by omega
 clear hW sW
 have k1 := tSS.later h1 B0
 have k2 := tTS.later h2 B0
 have k3 := tS.later h3 B0
 have k4 := tPS.later h4 B0
 have k5 := tM.later h5 B0
 have kk := hk_.later B0
 have ln2 := Lib.hid (sl_R.1 k2).cap.1
 have z2 : x2.length ≤ 100000000 := by rw [zeg] at hn; have e : x2.length + hT.szL x2 = hTS.sz x2 := rfl; omega
 have bn2 : n2 ≤ 100000000 := by have := ln2.out; omega
 have HS := Lib.hid (show zez (a0, x1, x2, x3, x4, x5) keep = if za9 (a0, x1, x2, x3, x4, x5) then (if keep.all (zax (n2 : Int)) then 0 else 2) else 1 by rw [zez, ← ln2.out])
 obtain ⟨tc, htc⟩ : ∃ tc, tc = zez (a0, x1, x2, x3, x4, x5) keep := ⟨_, rfl⟩
 rw [← htc] at HS ⊢
 clear htc
 cases ho : za9 (a0, x1, x2, x3, x4, x5)
 · have R := Lib.hid (show tc = 1 by rw [HS.out, ho]; rfl)
   have HO := Lib.hid ho
   clear ho
   go_enter Tryz.func21, Tryz.ntmps21
   go_wp2_with fail
   rw [← HW.out]
   refine (zgt a0 A1 n1 c1 A2 n2 c2 A3 n3 c3 A4 n4 c4 A5 n5 c5 x1 x2 x3 x4 x5 W k1 k2 k3 k4 k5 hn).mono ?_
   rw [HO.out]
   rintro e w1 ⟨rfl, bel1⟩
   go_wp2
   go_ret
   exact ⟨zbv (by rw [R.out]), zaa B0 bel1⟩
 · have HO := Lib.hid ho
   cases hi : keep.all (zax (n2 : Int))
   · have R := Lib.hid (show tc = 2 by rw [HS.out, ho, hi]; rfl)
     have HJ := Lib.hid hi
     clear ho hi
     go_enter Tryz.func21, Tryz.ntmps21
     go_wp2_with fail
     rw [← HW.out]
     refine (zgt a0 A1 n1 c1 A2 n2 c2 A3 n3 c3 A4 n4 c4 A5 n5 c5 x1 x2 x3 x4 x5 W k1 k2 k3 k4 k5 hn).mono ?_
     rw [HO.out]
     rintro e w1 ⟨rfl, bel1⟩
     have q2 : w1.cell? ⟨w.heap.size, 2, none⟩ = some (.slice A2 n2 c2) := (bel1.cell (by show w.heap.size < _; omega)).trans p2
     have kw := kk.later bel1
     go_wp2_with (first | (go_at_call 33; refine (zmm _ _ _ _).mono ?_; rintro e w2 ⟨rfl, rfl⟩) | (go_at_call 47; refine (zet _ _ _ _ _ _ kw (by omega) (by omega)).mono ?_; rw [HJ.out]; rintro e w2 ⟨rfl, rfl⟩))
     go_ret
     exact ⟨zbv (by rw [R.out]), zaa B0 bel1⟩
   · have R := Lib.hid (show tc = 0 by rw [HS.out, ho, hi]; rfl)
     have HJ := Lib.hid hi
     clear ho hi
     go_enter Tryz.func21, Tryz.ntmps21
     go_wp2_with fail
     rw [← HW.out]
     refine (zgt a0 A1 n1 c1 A2 n2 c2 A3 n3 c3 A4 n4 c4 A5 n5 c5 x1 x2 x3 x4 x5 W k1 k2 k3 k4 k5 hn).mono ?_
     rw [HO.out]
     rintro e w1 ⟨rfl, bel1⟩
     have q2 : w1.cell? ⟨w.heap.size, 2, none⟩ = some (.slice A2 n2 c2) := (bel1.cell (by show w.heap.size < _; omega)).trans p2
     have kw := kk.later bel1
     go_wp2_with (first | (go_at_call 33; refine (zmm _ _ _ _).mono ?_; rintro e w2 ⟨rfl, rfl⟩) | (go_at_call 47; refine (zet _ _ _ _ _ _ kw (by omega) (by omega)).mono ?_; rw [HJ.out]; rintro e w2 ⟨rfl, rfl⟩))
     go_ret
     exact ⟨zbv (by rw [R.out]), zaa B0 bel1⟩
end
section
open Go.RowKit Go.Sort
set_option synthInstance.maxSize 2000
set_option synthInstance.maxHeartbeats 400000
theorem zmo {x : Sess} (h : za9 x = true) : zez x [] = 0 := by rw [zez, h]; rfl
theorem zmp {x : Sess} (h : za9 x = false) : zez x [] = 1 := by rw [zez, h]; rfl
theorem zmq (A : Option Addr) (n c : Nat) (w : World) : Calls Tryz.prog 33 #[.slice A n c] w fun e w' => e = .returned (.int .i64 n) ∧ w = w' := by
 go_enter Tryz.func33, Tryz.ntmps33
 go_wp2
 go_ret
 exact ⟨rfl, rfl⟩
section
variable {L : Nat} {src : List (List Int)} {ts : List (List zah)} {fs : List Int} {ps : List zaf} {ms : List zad}
theorem zmr (h : M.SO L src ts fs ps ms) (keep : List Int) (k : Nat) : M.SO L src (zbc keep k ts) fs ps ms := by
 refine ⟨h.l, h.so, h.mix, by rw [zfu]; exact h.fl, by rw [zfu]; exact h.tl, h.fr, h.pl, fun t ht => ?_, h.ef⟩
 rw [zbc, List.mem_mapIdx] at ht
 obtain ⟨i, hi, rfl⟩ := ht
 split
 · exact ⟨rfl, rfl⟩
 · exact h.tr _ (List.getElem_mem hi)
end
def zd2 (L : Nat) (src : List (List Int)) (ts : List (List zah)) (fs : List Int) (ps : List zaf) (ms : List zad) (t : Int) : List Int := zb6 L src (zbc [t] ts.length ts) fs ps ms
theorem zhz (L : Nat) (src : List (List Int)) (ts : List (List zah)) (fs : List Int) (ps : List zaf) (ms : List zad) : (zb6 L src ts fs ps ms).length = L := by rw [zb6, zfe]
theorem zfv (L : Nat) (src : List (List Int)) (ts : List (List zah)) (fs : List Int) (ps : List zaf) (ms : List zad) (t : Int) : (zd2 L src ts fs ps ms t).length = L := by rw [zd2, zhz]
theorem zt7 (w : World) (t : Int) : ∃ U, U = w.alloc (.cells #[.int .i64 t] 2) ∧ Below w.heap.size w U ∧ U.heap.size = w.heap.size + 1 ∧ RI U U.heap.size (some ⟨w.heap.size, 0, none⟩) 1 [t] := by
 refine ⟨_, rfl, (Below.refl _ _).alloc (Nat.le_refl _) _, by simp, rfl, fun _ => ⟨_, rfl, by simp, fun j u hu => ?_⟩⟩
 match j, hu with
 | 0, hu =>
  simp only [List.map_cons, List.map_nil, List.getElem?_cons_zero, Option.some.injEq] at hu
  subst hu
  simp [go_sem, Addr.add]
theorem zms (L : Nat) (A1 : Option Addr) (n1 c1 : Nat) (A2 : Option Addr) (n2 c2 : Nat) (A3 : Option Addr) (n3 c3 : Nat) (A4 : Option Addr) (n4 c4 : Nat) (A5 : Option Addr) (n5 c5 : Nat) (src : List (List Int)) (ts : List (List zah)) (fs : List Int) (ps : List zaf) (ms : List zad) (t : Int) (w : World)
 (h1 : tSS.R w w.heap.size [.slice A1 n1 c1] src) (h2 : tTS.R w w.heap.size [.slice A2 n2 c2] ts) (h3 : tS.R w w.heap.size [.slice A3 n3 c3] fs) (h4 : tPS.R w w.heap.size [.slice A4 n4 c4] ps) (h5 : tM.R w w.heap.size [.slice A5 n5 c5] ms) (hn : hZ.sz (((L : Int), src, ts, fs, ps, ms) : Sess) ≤ 100000000) (hO : M.SO L src ts fs ps ms) :
 Calls Tryz.prog 22 #[.agg #[.int .i64 L, .slice A1 n1 c1, .slice A2 n2 c2, .slice A3 n3 c3, .slice A4 n4 c4, .slice A5 n5 c5], .int .i64 t] w (Ret1 2 w (zd2 L src ts fs ps ms t)) := by
 obtain ⟨W_, hW_, B0_, sW_, p0, p1, p2, p3, p4, p5, pf⟩ := zb2 w (.int .i64 L) (.slice A1 n1 c1) (.slice A2 n2 c2) (.slice A3 n3 c3) (.slice A4 n4 c4) (.slice A5 n5 c5) 32
 obtain ⟨W, hW, B1_, sW, rk⟩ := zt7 W_ t
 have B0 := zaa B0_ B1_
 have HW_ := Lib.hid hW_
 rw [sW_] at rk
 have HW := Lib.hid hW
 have sz_ := Lib.hid sW_
 have lW : w.heap.size < W_.heap.size := by omega
 have HOM := Lib.hid (zmr hO [t] ts.length)
 have hnm : hZ.sz (((L : Int), src, zbc [t] ts.length ts, fs, ps, ms) : Sess) ≤ 100000000 := Nat.le_trans (zt6 ((L : Int), src, ts, fs, ps, ms) [t]) hn
 clear hW hW_
 go_enter Tryz.func22, Tryz.ntmps22
 go_wp2_with fail
 rw [← HW_.out, ← sz_.out, ← HW.out]
 refine (zt2 (L : Int) _ _ c1 _ _ c2 _ _ c3 _ _ c4 _ _ c5 src ts fs ps ms _ 1 1 [t] W (tSS.later h1 B0) (tTS.later h2 B0) (tS.later h3 B0) (tPS.later h4 B0) (tM.later h5 B0) (by rw [sz_.out]; exact rk) (by omega) hn).mono ?_
 rintro e w2 ⟨A1', n1', c1', A2', n2', c2', A3', n3', c3', A4', n4', c4', A5', n5', c5', rfl, oz, bel2⟩
 obtain ⟨A1_, n1_, c1_, A2_, n2_, c2_, A3_, n3_, c3_, A4_, n4_, c4_, A5_, n5_, c5_, hcs_, m1, m2, m3, m4, m5⟩ := tZ_R.1 (tZ.read oz)
 simp only [List.cons.injEq, Value.int.injEq, Value.slice.injEq, true_and, and_true] at hcs_
 obtain ⟨⟨rfl, rfl, rfl⟩, ⟨rfl, rfl, rfl⟩, ⟨rfl, rfl, rfl⟩, ⟨rfl, rfl, rfl⟩, ⟨rfl, rfl, rfl⟩⟩ := hcs_
 have s2 := bel2.size
 go_wp2_with fail
 refine (zja L _ _ _ _ _ _ _ _ _ _ _ _ _ _ _ src _ fs ps ms w2 m1 m2 m3 m4 m5 hnm HOM.out).mono ?_
 rintro e w3 ⟨v3, rfl, own3, bel3⟩
 go_wp2_with fail
 go_ret
 exact ⟨_, rfl, own3.base (by omega), zaa B0 (zaa bel2 bel3)⟩
end
section
open Go.RowKit Go.Sort
set_option synthInstance.maxSize 2000
set_option synthInstance.maxHeartbeats 400000
def zb7 (L : Nat) (src : List (List Int)) (ts : List (List zah)) (fs : List Int) (ps : List zaf) (ms : List zad) : Nat → List Int
 | 0 => zb6 L src ts fs ps ms
 | k + 1 => zbt (zb7 L src ts fs ps ms k) (zd2 L src ts fs ps ms (k : Int)) (-1)
theorem zh0 (L : Nat) (src : List (List Int)) (ts : List (List zah)) (fs : List Int) (ps : List zaf) (ms : List zad) : ∀ k, (zb7 L src ts fs ps ms k).length = L := by
 intro k
 induction k with
 | zero => rw [zb7, zhz]
 | succ k ih => rw [zb7, zdu, ih, zfv, Nat.max_self]
def zdk (x : Sess) : List Int × Int := if za9 x then (zb7 x.1.toNat x.2.1 x.2.2.1 x.2.2.2.1 x.2.2.2.2.1 x.2.2.2.2.2 x.2.2.1.length, 0) else ([], 1)
theorem zt8 {L : Nat} {src : List (List Int)} {ts : List (List zah)} {fs : List Int} {ps : List zaf} {ms : List zad} (h : za9 ((L : Int), src, ts, fs, ps, ms) = true) : zdk ((L : Int), src, ts, fs, ps, ms) = (zb7 L src ts fs ps ms ts.length, 0) := by
 rw [zdk, h]
 rfl
theorem zt9 {x : Sess} (h : za9 x = false) : zdk x = ([], 1) := by
 rw [zdk, h]
 rfl
theorem zua (a0 : Int) (A1 : Option Addr) (n1 c1 : Nat) (A2 : Option Addr) (n2 c2 : Nat) (A3 : Option Addr) (n3 c3 : Nat) (A4 : Option Addr) (n4 c4 : Nat) (A5 : Option Addr) (n5 c5 : Nat) (src : List (List Int)) (ts : List (List zah)) (fs : List Int) (ps : List zaf) (ms : List zad) (w : World)
 (h1 : tSS.R w w.heap.size [.slice A1 n1 c1] src) (h2 : tTS.R w w.heap.size [.slice A2 n2 c2] ts) (h3 : tS.R w w.heap.size [.slice A3 n3 c3] fs) (h4 : tPS.R w w.heap.size [.slice A4 n4 c4] ps) (h5 : tM.R w w.heap.size [.slice A5 n5 c5] ms) (hn : hZ.sz ((a0, src, ts, fs, ps, ms) : Sess) ≤ 100000000) :
 Calls Tryz.prog 12 #[.agg #[.int .i64 a0, .slice A1 n1 c1, .slice A2 n2 c2, .slice A3 n3 c3, .slice A4 n4 c4, .slice A5 n5 c5]] w (Ret2 2 w (zdk (a0, src, ts, fs, ps, ms))) := by
 obtain ⟨W, hW, B0, sW, p0, p1, p2, p3, p4, p5, pf⟩ := zb2 w (.int .i64 a0) (.slice A1 n1 c1) (.slice A2 n2 c2) (.slice A3 n3 c3) (.slice A4 n4 c4) (.slice A5 n5 c5) 32
 have HW := Lib.hid hW
 have lW : w.heap.size < W.heap.size := by omega
 have k1 := tSS.later h1 B0
 have k2 := tTS.later h2 B0
 have k3 := tS.later h3 B0
 have k4 := tPS.later h4 B0
 have k5 := tM.later h5 B0
 clear hW
 have Q2 := Lib.hid (sl_R.1 h2).cap.1
 cases hok : za9 ((a0, src, ts, fs, ps, ms) : Sess)
 · have R := Lib.hid (zt9 hok)
   have OK := Lib.hid hok
   have TC := Lib.hid (zmp hok)
   clear hok
   go_enter Tryz.func12, Tryz.ntmps12
   go_wp2_with fail
   rw [← HW.out]
   refine (zhy a0 _ _ c1 _ _ c2 _ _ c3 _ _ c4 _ _ c5 src ts fs ps ms none 0 0 [] W k1 k2 k3 k4 k5 (RI.nil _ _ _) (by omega) hn).mono ?_
   rw [TC.out]
   rintro e w1 ⟨rfl, bel1⟩
   go_wp2_with fail
   go_ret2
   rw [R.out]
   exact ⟨_, rfl, OI.nil _ _ _, zaa B0 bel1⟩
 · obtain ⟨L, rfl, hO⟩ := zgq hok
   have htl : n2 ≤ 6 := by rw [← Q2.out]; exact hO.tl
   have hL := hO.l
   have R := Lib.hid (zt8 hok)
   have OK := Lib.hid hok
   have TC := Lib.hid (zmo hok)
   clear hok
   go_enter Tryz.func12, Tryz.ntmps12
   go_wp2_with fail
   rw [← HW.out]
   refine (zhy (L : Int) _ _ c1 _ _ c2 _ _ c3 _ _ c4 _ _ c5 src ts fs ps ms none 0 0 [] W k1 k2 k3 k4 k5 (RI.nil _ _ _) (by omega) hn).mono ?_
   rw [TC.out]
   rintro e w1 ⟨rfl, bel1⟩
   have s1 := bel1.size
   have P0 := (bel1.cell (p := ⟨w.heap.size, 0, none⟩) (by show w.heap.size < _; omega)).trans p0
   have P1 := (bel1.cell (p := ⟨w.heap.size, 1, none⟩) (by show w.heap.size < _; omega)).trans p1
   have P2 := (bel1.cell (p := ⟨w.heap.size, 2, none⟩) (by show w.heap.size < _; omega)).trans p2
   have P3 := (bel1.cell (p := ⟨w.heap.size, 3, none⟩) (by show w.heap.size < _; omega)).trans p3
   have P4 := (bel1.cell (p := ⟨w.heap.size, 4, none⟩) (by show w.heap.size < _; omega)).trans p4
   have P5 := (bel1.cell (p := ⟨w.heap.size, 5, none⟩) (by show w.heap.size < _; omega)).trans p5
   have q1 := tSS.later k1 bel1
   have q2 := tTS.later k2 bel1
   have q3 := tS.later k3 bel1
   have q4 := tPS.later k4 bel1
   have q5 := tM.later k5 bel1
   have B01 := zaa B0 bel1
   have lw1 : w.heap.size < w1.heap.size := by omega
   clear p0 p1 p2 p3 p4 p5 k1 k2 k3 k4 k5 h1 h2 h3 h4 h5
   go_wp2_with fail
   refine (zja L _ _ c1 _ _ c2 _ _ c3 _ _ c4 _ _ c5 src ts fs ps ms w1 q1 q2 q3 q4 q5 hn hO).mono ?_
   rintro e K ⟨vM, rfl, ownM, belM⟩
   have sK := belM.size
   have lK : w.heap.size < K.heap.size := by omega
   replace ownM : OI 2 w1.heap.size K vM (zb7 L src ts fs ps ms 0) := ownM
   have HRL := Lib.hid (zh0 L src ts fs ps ms)
   have K2 := (belM.cell (p := ⟨w.heap.size, 2, none⟩) (by show w.heap.size < _; omega)).trans P2
   go_wp2_with fail
   refine (zmq _ _ c2 _).mono ?_
   rintro e w' ⟨rfl, rfl⟩
   go_wp2_with fail
   go_loopw [5, 17] (fun v i wr => ∃ k : Nat, i = .int .i64 k ∧ k ≤ n2 ∧ OI 2 w1.heap.size wr v (zb7 L src ts fs ps ms k) ∧ Below w1.heap.size w1 wr) (fun _ i _ => n2 - (intOf i).toNat)
   case atStart => exact ⟨0, rfl, by omega, ownM, belM⟩
   case round =>
    obtain ⟨k, rfl, hk, own, B⟩ := hrel
    have sB := B.size
    have r2 := (B.cell (p := ⟨w.heap.size, 2, none⟩) (by show w.heap.size < _; omega)).trans P2
    by_cases hlt : k < n2
    · have hk1 : (k : Int) < (n2 : Int) := by omega
      have r0 := (B.cell (p := ⟨w.heap.size, 0, none⟩) (by show w.heap.size < _; omega)).trans P0
      have r1 := (B.cell (p := ⟨w.heap.size, 1, none⟩) (by show w.heap.size < _; omega)).trans P1
      have r2 := (B.cell (p := ⟨w.heap.size, 2, none⟩) (by show w.heap.size < _; omega)).trans P2
      have r3 := (B.cell (p := ⟨w.heap.size, 3, none⟩) (by show w.heap.size < _; omega)).trans P3
      have r4 := (B.cell (p := ⟨w.heap.size, 4, none⟩) (by show w.heap.size < _; omega)).trans P4
      have r5 := (B.cell (p := ⟨w.heap.size, 5, none⟩) (by show w.heap.size < _; omega)).trans P5
      obtain ⟨A6, c6, e6, h6⟩ := own.shape
      rw [HRL.out] at e6 h6
      subst e6
      go_wp2_with fail
      refine (zms L _ _ c1 _ _ c2 _ _ c3 _ _ c4 _ _ c5 src ts fs ps ms (k : Int) wr (tSS.later q1 B) (tTS.later q2 B) (tS.later q3 B) (tPS.later q4 B) (tM.later q5 B) hn hO).mono ?_
      rintro e w2 ⟨v2, rfl, own2, bel2⟩
      obtain ⟨A7, c7, e7, h7⟩ := own2.shape
      rw [zfv] at e7 h7
      subst e7
      have s2 := bel2.size
      go_wp2_with fail
      refine (zhs A6 A7 L c6 L c7 _ _ (-1) w2 (h6.later bel2) h7 (by omega) (by omega)).mono ?_
      rintro e w3 ⟨v3, rfl, own3, bel3⟩
      have s3 := bel3.size
      go_wp2_with fail
      go_roundw
      case rel => exact ⟨k + 1, by go_num, by omega, own3.base (by omega), B.trans ((zaa bel2 bel3).mono sB)⟩
      case measure => simp [intOf]; omega
    · obtain rfl : n2 = k := by omega
      go_wp2_with fail
      go_ret2
      rw [R.out, ← Q2.out] at *
      exact ⟨_, rfl, own.base (by omega), zaa B01 B⟩
end
section
open Go.RowKit Go.Sort
def M.cg (a b : Int) : Prop := ∃ k, a = b + 4294967296 * k
theorem zc5 : (0 : Int) = wrap32 (0 + 0) := by unfold wrap32; omega
theorem M.cg.of {a b : Int} (h : a = b) : M.cg a b := ⟨0, by omega⟩
theorem M.cg.wrap (a : Int) : M.cg (wrap32 a) a := M.wrap32_eq a
theorem M.cg.symm {a b : Int} (h : M.cg a b) : M.cg b a := by obtain ⟨k, rfl⟩ := h; exact ⟨-k, by omega⟩
theorem M.cg.trans {a b c : Int} (h : M.cg a b) (h' : M.cg b c) : M.cg a c := by obtain ⟨k, rfl⟩ := h; obtain ⟨l, rfl⟩ := h'; exact ⟨k + l, by omega⟩
theorem M.cg.add {a b c d : Int} (h : M.cg a b) (h' : M.cg c d) : M.cg (a + c) (b + d) := by obtain ⟨k, rfl⟩ := h; obtain ⟨l, rfl⟩ := h'; exact ⟨k + l, by omega⟩
theorem M.cg.sub {a b c d : Int} (h : M.cg a b) (h' : M.cg c d) : M.cg (a - c) (b - d) := by obtain ⟨k, rfl⟩ := h; obtain ⟨l, rfl⟩ := h'; exact ⟨k - l, by omega⟩
theorem M.cg.mulr {a b : Int} (h : M.cg a b) (g : Int) : M.cg (a * g) (b * g) := by
 obtain ⟨k, rfl⟩ := h
 exact ⟨k * g, by rw [Int.add_mul, Int.mul_assoc]⟩
theorem M.cg.mull {a b : Int} (h : M.cg a b) (g : Int) : M.cg (g * a) (g * b) := by
 rw [Int.mul_comm g a, Int.mul_comm g b]
 exact h.mulr g
theorem M.cg.wr {a b : Int} (h : M.cg a b) : wrap32 a = wrap32 b := by obtain ⟨k, h⟩ := h; exact M.wrap32_cong k h
theorem zh1 (xs : List Int) (i : Int) : M.at_ xs i = if 0 ≤ i then M.i_ xs i.toNat else 0 := by
 unfold M.at_ M.i_
 by_cases h : 0 ≤ i
 · by_cases h2 : i < xs.length
   · rw [if_pos ⟨h, h2⟩, if_pos h]
   · rw [if_neg (fun e => h2 e.2), if_pos h, List.getElem?_eq_none (by omega)]; rfl
 · rw [if_neg (fun e => h e.1), if_neg h]
theorem zmt (xs : List Int) (i : Nat) : M.at_ xs (i : Int) = M.i_ xs i := by rw [zh1, if_pos (by omega), Int.toNat_natCast]
theorem zfw (f : Nat → Int) (n j : Nat) : M.i_ ((List.range n).map f) j = if j < n then f j else 0 := by
 unfold M.i_
 by_cases h : j < n <;> simp [h]
theorem zgu {xs : List Int} {j : Nat} (h : xs.length ≤ j) : M.i_ xs j = 0 := by rw [M.i_, List.getElem?_eq_none h]; rfl
theorem zfx (n j : Nat) : M.i_ (List.replicate n 0) j = 0 := by
 rw [M.i_, List.getElem?_replicate]
 split <;> rfl
theorem zjb (a : List Int) (b : Int) (n j : Nat) : M.i_ (zbu a b n) j = if j < n then M.at_ a ((j : Int) - b) else 0 := by rw [zbu, zfw]
theorem zjc (a : List Int) (f : Int) (n j : Nat) : M.i_ (M.sl a f n) j = if j < n then M.at_ a (f + j) else 0 := by rw [M.sl, zfw]
theorem zfy (xs ys : List Int) (g : Int) (j : Nat) : M.i_ (zbt xs ys g) j = wrap32 (M.i_ xs j + M.i_ ys j * g) := by
 rw [zbt, zfw]
 split
 · rw [zmt, zmt]
 · rename_i h
   rw [zgu (by omega), zgu (by omega), Int.zero_mul]; exact zc5
def M.Sm (a b c : List Int) : Prop := ∀ j, M.i_ c j = wrap32 (M.i_ a j + M.i_ b j)
structure M.Ad (n : Nat) (a b c : List Int) : Prop where
 la : a.length = n
 lb : b.length = n
 lc : c.length = n
 sm : M.Sm a b c
theorem M.Ad.at {n : Nat} {a b c : List Int} (h : M.Ad n a b c) (i : Int) : M.at_ c i = wrap32 (M.at_ a i + M.at_ b i) := by
 rw [zh1, zh1, zh1]
 split
 · exact h.sm _
 · exact zc5
theorem M.Ad.late {m : Nat} {a b c : List Int} (h : M.Ad m a b c) (d : Int) (n : Nat) : M.Ad n (zbu a d n) (zbu b d n) (zbu c d n) := by
 refine ⟨zd1 _ _ _, zd1 _ _ _, zd1 _ _ _, fun j => ?_⟩
 rw [zjb, zjb, zjb]
 split
 · exact h.at _
 · exact zc5
theorem M.Ad.sl {m : Nat} {a b c : List Int} (h : M.Ad m a b c) (d : Int) (n : Nat) : M.Ad n (M.sl a d n) (M.sl b d n) (M.sl c d n) := by
 refine ⟨zfe _ _ _, zfe _ _ _, zfe _ _ _, fun j => ?_⟩
 rw [zjc, zjc, zjc]
 split
 · exact h.at _
 · exact zc5
theorem M.Ad.add {n : Nat} {a b c a' b' c' : List Int} (h : M.Ad n a b c) (k : M.Ad n a' b' c') (g : Int) : M.Ad n (zbt a a' g) (zbt b b' g) (zbt c c' g) := by
 refine ⟨by rw [zdu, h.la, k.la, Nat.max_self], by rw [zdu, h.lb, k.lb, Nat.max_self], by rw [zdu, h.lc, k.lc, Nat.max_self], fun j => ?_⟩
 rw [zfy, zfy, zfy, h.sm j, k.sm j]
 refine M.cg.wr (((M.cg.wrap _).add ((M.cg.wrap _).mulr g)).trans (M.cg.trans ?_ ((M.cg.wrap _).add (M.cg.wrap _)).symm))
 exact M.cg.of (by rw [Int.add_mul]; omega)
theorem M.Ad.zero (n : Nat) : M.Ad n (List.replicate n 0) (List.replicate n 0) (List.replicate n 0) := by
 refine ⟨by simp, by simp, by simp, fun j => ?_⟩
 rw [zfx]; exact zc5
theorem M.Ad.zl {n : Nat} {a : List Int} (hl : a.length = n) (hs : a.all M.smp = true) : M.Ad n (List.replicate n 0) a a := by
 refine ⟨by simp, hl, hl, fun j => ?_⟩
 rw [zfx, Int.zero_add, M.wrap32_of _ (zci hs j)]
theorem M.Ad.zr {n : Nat} {a : List Int} (hl : a.length = n) (hs : a.all M.smp = true) : M.Ad n a (List.replicate n 0) a := by
 refine ⟨hl, by simp, hl, fun j => ?_⟩
 rw [zfx, Int.add_zero, M.wrap32_of _ (zci hs j)]
theorem zjd {k : Int} (h : zdb k = true) : k = 1 ∨ k = 3 ∨ k = 4 ∨ k = 5 ∨ k = 6 ∨ k = 7 ∨ k = 8 ∨ k = 17 := by
 rw [← zny, zif] at h
 simp only [Bool.or_eq_true, decide_eq_true_eq] at h
 omega
theorem M.Sm.ins (x : Node) {f1 f2 f3 v1 v2 v3 : List Int} (hf : M.Sm f1 f2 f3) (hv : M.Sm v1 v2 v3) : M.Sm (za1 x f1 v1) (za1 x f2 v2) (za1 x f3 v3) := by
 intro j
 unfold za1
 split
 · cases j with
   | zero => exact hf _
   | succ j => exact zc5
 · have key : ∀ (v : List Int), M.i_ (x.2.2.2.map fun f => M.i_ v f.toNat) j = ((x.2.2.2[j]?).map fun f => M.i_ v f.toNat).getD 0 := fun v => by
    rw [M.i_, List.getElem?_map]
   rw [key, key, key]
   cases x.2.2.2[j]? with
   | none => exact zc5
   | some f => exact hv _
theorem zub {x : Node} (hl : zdb x.1 = true) (tb : List (List Int)) {i1 i2 i3 s1 s2 s3 : List Int} (hi : M.Sm i1 i2 i3) (hs : M.Sm s1 s2 s3) : zan x tb i3 s3 = wrap32 (zan x tb i1 s1 + zan x tb i2 s2) := by
 obtain ⟨k, a, b, l⟩ := x
 have h0 := hi 0
 have h1 := hi 1
 have h2 := hs 0
 rcases zjd hl with e | e | e | e | e | e | e | e <;> (simp only at e; subst e)
 · simpa [zan] using h0
 · simp [zan, h0, h1]
   unfold wrap32; omega
 · simp [zan, h0, h1]
   unfold wrap32; omega
 · simp only [zan, h0]
   refine M.cg.wr (((M.cg.wrap _).mull a).trans (M.cg.trans ?_ ((M.cg.wrap _).add (M.cg.wrap _)).symm))
   exact M.cg.of (by rw [Int.mul_add])
 · simpa [zan] using h2
 · simp [zan, h0, h2]
   unfold wrap32; omega
 · simp [zan, h0, h2]
   unfold wrap32; omega
 · simp only [zan, h0, h2]
   refine M.cg.wr (((M.cg.wrap _).add ((M.cg.wrap _).mull a)).trans (M.cg.trans ?_ ((M.cg.wrap _).add (M.cg.wrap _)).symm))
   exact M.cg.of (by rw [Int.mul_add]; omega)
structure M.Sl (a b c : List Int) : Prop where
 ab : a.length = b.length
 bc : b.length = c.length
 sm : M.Sm a b c
theorem M.Sl.set {a b c : List Int} (h : M.Sl a b c) (k : Nat) {x y z : Int} (e : z = wrap32 (x + y)) : M.Sl (a.set k x) (b.set k y) (c.set k z) := by
 refine ⟨by rw [List.length_set, List.length_set]; exact h.ab, by rw [List.length_set, List.length_set]; exact h.bc, fun j => ?_⟩
 have h1 := h.ab
 have h2 := h.bc
 by_cases hk : k = j
 · subst hk
   by_cases hlt : k < a.length
   · rw [zeq (by omega), zeq hlt, zeq (by omega)]; exact e
   · rw [zgu (by rw [List.length_set]; omega), zgu (by rw [List.length_set]; omega), zgu (by rw [List.length_set]; omega)]; exact zc5
 · rw [zei hk, zei hk, zei hk]; exact h.sm j
theorem zje (s : List Int) (y : Int) (j : Nat) : M.i_ (s.drop 1 ++ [y]) j = if j < s.length - 1 then M.i_ s (j + 1) else if j = s.length - 1 then y else 0 := by
 unfold M.i_
 by_cases h : j < s.length - 1
 · rw [if_pos h, List.getElem?_append_left (by rw [List.length_drop]; exact h), List.getElem?_drop, Nat.add_comm 1 j]
 · rw [if_neg h, List.getElem?_append_right (by rw [List.length_drop]; omega), List.length_drop]
   by_cases h2 : j = s.length - 1
   · rw [if_pos h2, h2, Nat.sub_self]; rfl
   · rw [if_neg h2, List.getElem?_eq_none (by simp; omega)]; rfl
theorem M.Sl.push {a b c : List Int} (h : M.Sl a b c) {x y z : Int} (e : z = wrap32 (x + y)) : M.Sl (a.drop 1 ++ [x]) (b.drop 1 ++ [y]) (c.drop 1 ++ [z]) := by
 have h1 := h.ab
 have h2 := h.bc
 refine ⟨by simp; omega, by simp; omega, fun j => ?_⟩
 rw [zje, zje, zje, ← h2, ← h1]
 split
 · exact h.sm _
 · split
   · exact e
   · exact zc5
theorem M.Sl.one {x y z : Int} (e : z = wrap32 (x + y)) : M.Sl [x] [y] [z] := by
 refine ⟨rfl, rfl, fun j => ?_⟩
 cases j with
 | zero => exact e
 | succ j => exact zc5
theorem M.Sl.nil : M.Sl [] [] [] := ⟨rfl, rfl, fun j => zc5⟩
theorem zuc {x : Node} (hl : zdb x.1 = true) {i1 i2 i3 s1 s2 s3 : List Int} {o1 o2 o3 : Int} (hi : M.Sm i1 i2 i3) (hs : M.Sl s1 s2 s3) (ho : o3 = wrap32 (o1 + o2)) : M.Sl (zaq x i1 s1 o1) (zaq x i2 s2 o2) (zaq x i3 s3 o3) := by
 obtain ⟨k, a, b, l⟩ := x
 rcases zjd hl with e | e | e | e | e | e | e | e <;> (simp only at e; subst e)
 · exact M.Sl.nil
 · exact M.Sl.nil
 · exact M.Sl.nil
 · exact M.Sl.nil
 · exact hs.push (hi 0)
 · exact M.Sl.one ho
 · exact M.Sl.one (hi 0)
 · exact hs.push ho
section
variable {ns : List Node} {tb : List (List Int)} {O : List Int}
def zd3 (ns : List Node) : Prop := ∀ (i : Nat) (x : Node), ns[i]? = some x → zdb x.1 = true
theorem zud (hp : M.PF ns tb O) (hl : zd3 ns) {f1 f2 f3 : List Int} (hf : M.Sm f1 f2 f3) {c1 c2 c3 : List (List Int)} (hc : ∀ i, i < ns.length → M.Sl (zag c1 i) (zag c2 i) (zag c3 i)) {v1 v2 v3 : List Int} (hv : M.Sl v1 v2 v3) :
 ∀ t, t ≤ O.length → M.Sl (zcm ns tb f1 O c1 v1 t) (zcm ns tb f2 O c2 v2 t) (zcm ns tb f3 O c3 v3 t) := by
 intro t
 induction t with
 | zero => exact fun _ => hv
 | succ t ih =>
  intro ht
  obtain ⟨x, hx, e, -, hi⟩ := hp.ord (t := t) (by omega)
  have h := ih (by omega)
  rw [zcm, zcm, zcm, e]
  exact h.set _ (zub (hl _ _ hx) tb (M.Sm.ins x hf h.sm) (hc _ hi).sm)
theorem zmu (hp : M.PF ns tb O) (hl : zd3 ns) {f1 f2 f3 : List Int} (hf : M.Sm f1 f2 f3) {c1 c2 c3 : List (List Int)} (hc : ∀ i, i < ns.length → M.Sl (zag c1 i) (zag c2 i) (zag c3 i)) :
 M.Sl (zbq ns tb f1 O c1) (zbq ns tb f2 O c2) (zbq ns tb f3 O c3) :=
 zud hp hl hf hc ⟨rfl, rfl, fun j => by rw [zfx]; exact zc5⟩ _ (Nat.le_refl _)
theorem zjf (fr : List Int) (cs : List (List Int)) {i : Nat} (hi : i < ns.length) : zag (zcs ns tb fr O cs) i = zaq (zar ns i) (za1 (zar ns i) fr (zbq ns tb fr O cs)) (zag cs i) (M.i_ (zbq ns tb fr O cs) i) := by simp [zcs, zag, hi]
theorem zue (hp : M.PF ns tb O) (hl : zd3 ns) {f1 f2 f3 : List Int} (hf : M.Sm f1 f2 f3) {c1 c2 c3 : List (List Int)} (hc : ∀ i, i < ns.length → M.Sl (zag c1 i) (zag c2 i) (zag c3 i)) :
 ∀ i, i < ns.length → M.Sl (zag (zcs ns tb f1 O c1) i) (zag (zcs ns tb f2 O c2) i) (zag (zcs ns tb f3 O c3) i) := by
 intro i hi
 have hv := zmu hp hl hf hc
 rw [zjf _ _ hi, zjf _ _ hi, zjf _ _ hi]
 exact zuc (hl _ _ (zfs hi)) (M.Sm.ins _ hf hv.sm) (hc i hi) (hv.sm i)
theorem zuf {x : Node} (hl : zdb x.1 = true) : M.Sl (za3 x) (za3 x) (za3 x) := by
 obtain ⟨k, a, b, l⟩ := x
 refine ⟨rfl, rfl, fun j => ?_⟩
 have h : za3 (k, a, b, l) = List.replicate (zcc (k, a, b, l)) 0 := by
  rcases zjd hl with e | e | e | e | e | e | e | e <;> (simp only at e; subst e; rfl)
 rw [h, zfx]; exact zc5
variable {n : Nat} {x1 x2 x3 : List Int}
theorem zmv (h : M.Ad n x1 x2 x3) (t : Int) : M.Sm [M.at_ x1 t] [M.at_ x2 t] [M.at_ x3 t] := (M.Sl.one (h.at t)).sm
theorem zug (hp : M.PF ns tb O) (hl : zd3 ns) (h : M.Ad n x1 x2 x3) : ∀ t i, i < ns.length → M.Sl (zag (zdi ns tb O x1 t) i) (zag (zdi ns tb O x2 t) i) (zag (zdi ns tb O x3 t) i) := by
 intro t
 induction t with
 | zero =>
  intro i hi
  have e : zag (ns.map za3) i = za3 (zar ns i) := by
   have := zfs hi
   simp [zag, this]
  show M.Sl (zag (ns.map za3) i) (zag (ns.map za3) i) (zag (ns.map za3) i)
  rw [e]
  exact zuf (hl _ _ (zfs hi))
 | succ t ih => exact zue hp hl (zmv h t) ih
theorem zuh (hp : M.PF ns tb O) (hl : zd3 ns) (h : M.Ad n x1 x2 x3) (o : Int) (m : Nat) : M.Ad m (zbz ns tb O x1 o m) (zbz ns tb O x2 o m) (zbz ns tb O x3 o m) := by
 refine ⟨zdx .., zdx .., zdx .., fun j => ?_⟩
 rw [zbz, zbz, zbz, zfw, zfw, zfw]
 split
 · exact (zmu hp hl (zmv h j) (zug hp hl h j)).sm _
 · exact zc5
end
theorem zui {p : zaf} (h : zaw p = true) (hl : zd3 p.2.2.1) {n : Nat} {x1 x2 x3 : List Int} (ha : M.Ad n x1 x2 x3) : M.Ad n (M.fx p x1 n) (M.fx p x2 n) (M.fx p x3 n) := by
 unfold M.fx
 split
 · exact ha
 · rename_i hp
   obtain ⟨h1, h2, h3⟩ := zi8 h hp
   exact zuh (zi0 h1 h2) hl ha _ _
structure M.AdL (m n : Nat) (a b c : List (List Int)) : Prop where
 la : a.length = m
 lb : b.length = m
 lc : c.length = m
 at_ : ∀ k, k < m → M.Ad n (zag a k) (zag b k) (zag c k)
theorem M.AdL.add {m n : Nat} {a b c : List (List Int)} (h : M.AdL m n a b c) {k : Nat} {x y z : List Int} (ha : M.Ad n x y z) (g : Int) : M.AdL m n (zeb a k x g) (zeb b k y g) (zeb c k z g) := by
 unfold zeb
 refine ⟨by rw [List.length_set]; exact h.la, by rw [List.length_set]; exact h.lb, by rw [List.length_set]; exact h.lc, fun i hi => ?_⟩
 by_cases hk : k = i
 · subst hk
   rw [zfq (by rw [h.la]; exact hi), zfq (by rw [h.lb]; exact hi), zfq (by rw [h.lc]; exact hi)]
   exact (h.at_ k hi).add ha g
 · rw [zer hk, zer hk, zer hk]
   exact h.at_ i hi
theorem M.AdL.snoc {m n : Nat} {a b c : List (List Int)} (h : M.AdL m n a b c) {x y z : List Int} (ha : M.Ad n x y z) : M.AdL (m + 1) n (a ++ [x]) (b ++ [y]) (c ++ [z]) := by
 refine ⟨by simp [h.la], by simp [h.lb], by simp [h.lc], fun k hk => ?_⟩
 have hc : ∀ (l : List (List Int)) (x : List Int), zag (l ++ [x]) k = if k < l.length then zag l k else if k = l.length then x else [] := fun l x => by
  unfold zag
  by_cases h : k < l.length
  · rw [if_pos h, List.getElem?_append_left h]
  · rw [if_neg h, List.getElem?_append_right (by omega)]
    by_cases h2 : k = l.length
    · rw [if_pos h2, h2, Nat.sub_self]; rfl
    · rw [if_neg h2, List.getElem?_eq_none (by simp; omega)]; rfl
 rw [hc, hc, hc, h.la, h.lb, h.lc]
 by_cases h1 : k < m
 · rw [if_pos h1, if_pos h1, if_pos h1]; exact h.at_ k h1
 · have h2 : k = m := by omega
   rw [if_neg h1, if_neg h1, if_neg h1, if_pos h2, if_pos h2, if_pos h2]; exact ha
theorem zuj (m : Nat) (x : List Int) {k : Nat} (h : k < m) : zag (List.replicate m x) k = x := by simp [zag, List.getElem?_replicate, h]
section
variable {L : Nat} {src : List (List Int)} {t1 t2 t3 : List (List zah)} {fs : List Int} {ps : List zaf} {ms : List zad}
theorem zuk (ht : ∀ t, M.Ad L (zb0 src (zcd t1 t) L) (zb0 src (zcd t2 t) L) (zb0 src (zcd t3 t) L)) :
 ∀ t, M.AdL ms.length (M.nT L ms) (zb5 L src t1 fs ms t) (zb5 L src t2 fs ms t) (zb5 L src t3 fs ms t) := by
 intro t
 induction t with
 | zero =>
  refine ⟨by simp [zb5], by simp [zb5], by simp [zb5], fun k hk => ?_⟩
  simp only [zb5]
  rw [zuj _ _ hk]
  exact M.Ad.zero _
 | succ t ih =>
  rw [zb5, zb5, zb5]
  exact ih.add ((ht t).late _ _) _
theorem zul (i : Nat) {o1 o2 o3 : List Int} {m : Nat} (ho : M.Ad m o1 o2 o3) {a b c : List (List Int)} (h : M.AdL ms.length (M.nT L ms) a b c) :
 ∀ j, M.AdL ms.length (M.nT L ms) (zcu L ms i o1 a j) (zcu L ms i o2 b j) (zcu L ms i o3 c j) := by
 intro j
 induction j with
 | zero => exact h
 | succ j ih =>
  rw [zcu, zcu, zcu]
  exact ih.add (ho.late _ _) _
variable (hps : ps.length = ms.length) (hef : ∀ p ∈ ps, zaw p = true ∧ zd3 p.2.2.1)
include hps hef
theorem zum {i : Nat} (hi : i < ms.length) {a b c : List (List Int)} (h : M.AdL ms.length (M.nT L ms) a b c) : M.Ad (M.nT L ms) (zen L ps ms i a) (zen L ps ms i b) (zen L ps ms i c) := by
 have hk : i < ps.length := by omega
 have hp := hef _ (List.getElem_mem hk)
 unfold zen
 rw [zi7 (List.getElem?_eq_getElem hk)]
 exact (zui hp.1 hp.2 (h.at_ i hi)).late _ _
theorem zun (hT : t1.length = t2.length ∧ t2.length = t3.length) (ht : ∀ t, M.Ad L (zb0 src (zcd t1 t) L) (zb0 src (zcd t2 t) L) (zb0 src (zcd t3 t) L)) :
 ∀ i, i ≤ ms.length → M.AdL ms.length (M.nT L ms) (za6 L src t1 fs ps ms i).1 (za6 L src t2 fs ps ms i).1 (za6 L src t3 fs ps ms i).1 ∧ M.AdL i (M.nT L ms) (za6 L src t1 fs ps ms i).2 (za6 L src t2 fs ps ms i).2 (za6 L src t3 fs ps ms i).2 := by
 intro i
 induction i with
 | zero =>
  intro _
  refine ⟨?_, rfl, rfl, rfl, fun k hk => absurd hk (by omega)⟩
  show M.AdL _ _ (zb5 L src t1 fs ms t1.length) (zb5 L src t2 fs ms t2.length) (zb5 L src t3 fs ms t3.length)
  rw [hT.1, hT.2]
  exact zuk ht _
 | succ i ih =>
  intro hi
  obtain ⟨h1, h2⟩ := ih (by omega)
  have ho := zum hps hef (i := i) (by omega) h1
  rw [za6, za6, za6]
  exact ⟨zul i ho h1 _, h2.snoc ho⟩
theorem zmw (hm : 0 < ms.length) (hT : t1.length = t2.length ∧ t2.length = t3.length) (ht : ∀ t, M.Ad L (zb0 src (zcd t1 t) L) (zb0 src (zcd t2 t) L) (zb0 src (zcd t3 t) L)) :
 M.Ad L (zb6 L src t1 fs ps ms) (zb6 L src t2 fs ps ms) (zb6 L src t3 fs ps ms) := by
 unfold zb6 zex
 exact ((zun (fs := fs) hps hef hT ht ms.length (Nat.le_refl _)).2.at_ (ms.length - 1) (by omega)).sl _ _
end
def zcz (k : Nat) (xs : List (List zah)) : List (List zah) := xs.mapIdx (fun i x => if i < k then x else [])
theorem zfz (k : Nat) (xs : List (List zah)) : (zcz k xs).length = xs.length := by simp [zcz]
theorem zjg (k : Nat) (xs : List (List zah)) (t : Nat) : zcd (zcz k xs) t = if t < k then zcd xs t else [] := by
 unfold zcd zcz
 rw [List.getElem?_mapIdx]
 cases xs[t]? with
 | none => split <;> rfl
 | some x => split <;> simp_all
theorem zuo (xs : List (List zah)) : zcz xs.length xs = xs := by
 apply List.ext_getElem (by rw [zfz])
 intro i h1 h2
 simp [zcz, h2]
theorem zup (k i : Nat) : zal [(k : Int)] (i : Int) = decide (i = k) := by
 simp [zal]
 by_cases h : i = k
 · simp [h]
 · have : ¬ (k : Int) = (i : Int) := by omega
   simp [h, this]
theorem zuq (k : Nat) (xs : List (List zah)) (t : Nat) : zcd (zbc [(k : Int)] xs.length xs) t = if t = k then zcd xs t else [] := by
 unfold zcd zbc
 rw [List.getElem?_mapIdx]
 by_cases ht : t < xs.length
 · rw [List.getElem?_eq_getElem ht]
   simp only [Option.map_some, Option.getD_some, ht, true_and, zup]
   by_cases h : t = k
   · simp [h]
   · simp [h]
 · simp [List.getElem?_eq_none (Nat.le_of_not_lt ht)]
theorem zmx (src : List (List Int)) (xs : List zah) (n : Nat) : (zb0 src xs n).all M.smp = true := by
 rw [zb0, List.all_map, List.all_eq_true]
 intro t _
 exact M.smp_wrap _
theorem zf0 {L : Nat} {src : List (List Int)} {ts : List (List zah)} {fs : List Int} {ps : List zaf} {ms : List zad} (h : M.SO L src ts fs ps ms) : (zb6 L src ts fs ps ms).all M.smp = true := by
 have hm := zd0 h.mix
 unfold zb6 zex
 exact zsu ((zhw h ms.length (Nat.le_refl _)).2.cel (by omega)).2 _ _
section
variable {L : Nat} {src : List (List Int)} {ts : List (List zah)} {fs : List Int} {ps : List zaf} {ms : List zad}
theorem zur (h : M.SO L src ts fs ps ms) (k : Nat) : M.SO L src (zcz k ts) fs ps ms := by
 refine ⟨h.l, h.so, h.mix, by rw [zfz]; exact h.fl, by rw [zfz]; exact h.tl, h.fr, h.pl, fun t ht => ?_, h.ef⟩
 obtain ⟨i, hi, rfl⟩ := List.mem_iff_getElem.1 ht
 rw [zfz] at hi
 simp only [zcz, List.getElem_mapIdx]
 split
 · exact h.tr _ (List.getElem_mem hi)
 · exact ⟨rfl, rfl⟩
theorem zus (h : M.SO L src ts fs ps ms) (hl : ∀ p ∈ ps, zd3 p.2.2.1) : ∀ k, k ≤ ts.length → ∀ j, M.i_ (zb7 L src ts fs ps ms k) j = wrap32 (M.i_ (zb6 L src ts fs ps ms) j - M.i_ (zb6 L src (zcz k ts) fs ps ms) j) := by
 have hm := zd0 h.mix
 have hef : ∀ p ∈ ps, zaw p = true ∧ zd3 p.2.2.1 := fun p hp => ⟨h.ef p hp, hl p hp⟩
 intro k
 induction k with
 | zero =>
  intro _ j
  have z := (zmw (L := L) (src := src) (fs := fs) h.pl hef (by omega) (t1 := zcz 0 ts) (t2 := zcz 0 ts) (t3 := zcz 0 ts) ⟨rfl, rfl⟩ (fun t => by
   rw [zjg, if_neg (by omega), zf6]; exact M.Ad.zero _)).sm j
  have s := zci (zf0 (zur h 0)) j
  have s2 := zci (zf0 h) j
  have z0 : M.i_ (zb6 L src (zcz 0 ts) fs ps ms) j = 0 := by
   have := smp_bd s
   unfold wrap32 at z
   omega
  rw [z0, zb7, Int.sub_zero, M.wrap32_of _ s2]
 | succ k ih =>
  intro hk j
  have z := (zmw (L := L) (src := src) (fs := fs) h.pl hef (by omega) (t1 := zcz k ts) (t2 := zbc [(k : Int)] ts.length ts) (t3 := zcz (k + 1) ts) ⟨by rw [zfz, zfu], by rw [zfz, zfu]⟩ (fun t => by
   rw [zjg, zuq, zjg]
   by_cases h1 : t < k
   · rw [if_pos h1, if_neg (by omega), if_pos (by omega), zf6]
     exact M.Ad.zr (zf5 ..) (zmx ..)
   · by_cases h2 : t = k
     · rw [if_neg h1, if_pos h2, if_pos (by omega), zf6]
       exact M.Ad.zl (zf5 ..) (zmx ..)
     · rw [if_neg h1, if_neg h2, if_neg (by omega), zf6]
       exact M.Ad.zero _)).sm j
  rw [zb7, zfy, ih (by omega) j, z]
  show wrap32 (_ + M.i_ (zb6 L src (zbc [(k : Int)] ts.length ts) fs ps ms) j * (-1)) = _
  unfold wrap32
  omega
theorem zut (h : M.SO L src ts fs ps ms) (hl : ∀ p ∈ ps, zd3 p.2.2.1) : zb7 L src ts fs ps ms ts.length = List.replicate L 0 := by
 apply zip (by rw [zh0]; simp)
 intro j _
 rw [zus h hl ts.length (Nat.le_refl _) j, zuo, zfx, Int.sub_self]
 unfold wrap32; omega
def ze0 (L : Nat) (src : List (List Int)) (ts : List (List zah)) (fs : List Int) (ps : List zaf) (ms : List zad) (j : Nat) : Nat → Int
 | 0 => 0
 | k + 1 => ze0 L src ts fs ps ms j k + M.i_ (zd2 L src ts fs ps ms (k : Int)) j
theorem zuu (h : M.SO L src ts fs ps ms) (j : Nat) : ∀ k, M.i_ (zb7 L src ts fs ps ms k) j = wrap32 (M.i_ (zb6 L src ts fs ps ms) j - ze0 L src ts fs ps ms j k) := by
 intro k
 induction k with
 | zero => rw [zb7, ze0, Int.sub_zero, M.wrap32_of _ (zci (zf0 h) j)]
 | succ k ih =>
  rw [zb7, zfy, ih, ze0]
  unfold wrap32
  omega
def zde (L : Nat) (src : List (List Int)) (ts : List (List zah)) (fs : List Int) (ps : List zaf) (ms : List zad) : Nat → List Int
 | 0 => zb7 L src ts fs ps ms ts.length
 | k + 1 => zbt (zde L src ts fs ps ms k) (zd2 L src ts fs ps ms (k : Int)) 1
theorem zmy : ∀ k, (zde L src ts fs ps ms k).length = L := by
 intro k
 induction k with
 | zero => rw [zde, zh0]
 | succ k ih => rw [zde, zdu, ih, zfv, Nat.max_self]
theorem zuv (h : M.SO L src ts fs ps ms) : zde L src ts fs ps ms ts.length = zb6 L src ts fs ps ms := by
 apply zip (by rw [zmy, zhz])
 intro j _
 have key : ∀ k, M.i_ (zde L src ts fs ps ms k) j = wrap32 (M.i_ (zb6 L src ts fs ps ms) j - ze0 L src ts fs ps ms j ts.length + ze0 L src ts fs ps ms j k) := by
  intro k
  induction k with
  | zero => rw [zde, zuu h, ze0, Int.add_zero]
  | succ k ih =>
   rw [zde, zfy, ih, ze0]
   unfold wrap32
   omega
 rw [key, Int.sub_add_cancel, M.wrap32_of _ (zci (zf0 h) j)]
theorem zuw (h : M.SO L src ts fs ps ms) (k : Nat) : (zb7 L src ts fs ps ms k).all M.smp = true := by
 cases k with
 | zero => rw [zb7]; exact zf0 h
 | succ k => rw [zb7]; exact zi5 _ _ _
theorem zux (h : M.SO L src ts fs ps ms) (k : Nat) : (zde L src ts fs ps ms k).all M.smp = true := by
 cases k with
 | zero => rw [zde]; exact zuw h _
 | succ k => rw [zde]; exact zi5 _ _ _
end
end
section
open Go.RowKit Go.Sort
theorem zgv (A : Option Addr) (n c : Nat) (w : World) :
 Calls Tryz.prog 5 #[.slice A n c] w fun e w' => e = .returned (.bool (decide (1048576 < n))) ∧ w = w' := by
 by_cases h1 : 1048576 < n
 · have h2 : (1048576 : Int) < (n : Int) := by omega
   go_enter Tryz.func5, Tryz.ntmps5
   go_wp2
   go_ret
   exact ⟨by simp [h1, h2], rfl⟩
 · have h2 : ¬ (1048576 : Int) < (n : Int) := by omega
   go_enter Tryz.func5, Tryz.ntmps5
   go_wp2
   go_ret
   exact ⟨by simp [h1, h2], rfl⟩
end
section
open Go.RowKit
theorem zjh (p : Int) (A : Option Addr) (n c : Nat) (Ab : Option Addr) (nb cb : Nat) (Ac : Option Addr) (nc cc : Nat) (Ad : Option Addr) (nd cd : Nat) (Ae : Option Addr) (ne ce : Nat) (x : Sess) (w : World) (hx : tZ.R w w.heap.size [.int .i64 p, .slice A n c, .slice Ab nb cb, .slice Ac nc cc, .slice Ad nd cd, .slice Ae ne ce] x) (hn : hZ.sz x ≤ 100000000) :
 Calls Tryz.prog 12 #[.agg #[.int .i64 p, .slice A n c, .slice Ab nb cb, .slice Ac nc cc, .slice Ad nd cd, .slice Ae ne ce]] w (Ret2 2 w (zdk x)) := by
 obtain ⟨a0, x1, x2, x3, x4, x5⟩ := x
 obtain ⟨A1, n1, c1, A2, n2, c2, A3, n3, c3, A4, n4, c4, A5, n5, c5, hcs, h1, h2, h3, h4, h5⟩ := tZ_R.1 hx
 simp only [List.cons.injEq, Value.int.injEq, Value.slice.injEq, true_and, and_true] at hcs
 obtain ⟨rfl, ⟨rfl, rfl, rfl⟩, ⟨rfl, rfl, rfl⟩, ⟨rfl, rfl, rfl⟩, ⟨rfl, rfl, rfl⟩, ⟨rfl, rfl, rfl⟩⟩ := hcs
 exact zua _ _ _ c _ _ cb _ _ cc _ _ cd _ _ ce _ _ _ _ _ _ h1 h2 h3 h4 h5 hn
end
section
open Go.RowKit Go.Sort
set_option synthInstance.maxSize 2000
set_option synthInstance.maxHeartbeats 400000
def zc6 (L : Nat) (src : List (List Int)) (ts : List (List zah)) (fs : List Int) (ps : List zaf) (ms : List zad) : List (List Int) := (List.range ts.length).map fun (t : Nat) => zd2 L src ts fs ps ms (t : Int)
theorem zuy (L : Nat) (src : List (List Int)) (ts : List (List zah)) (fs : List Int) (ps : List zaf) (ms : List zad) : (zc6 L src ts fs ps ms).length = ts.length := by rw [zc6, List.length_map, List.length_range]
theorem zuz {L : Nat} {src : List (List Int)} {ts : List (List zah)} {fs : List Int} {ps : List zaf} {ms : List zad} {k : Nat} (hk : k < ts.length) : (zc6 L src ts fs ps ms)[k]? = some (zd2 L src ts fs ps ms (k : Int)) := by
 rw [zc6, List.getElem?_map, List.getElem?_range hk]
 rfl
def zec (x : Sess) : List (List Int) × Int := if za9 x then (zc6 x.1.toNat x.2.1 x.2.2.1 x.2.2.2.1 x.2.2.2.2.1 x.2.2.2.2.2, 0) else ([], 1)
theorem zu0 {L : Nat} {src : List (List Int)} {ts : List (List zah)} {fs : List Int} {ps : List zaf} {ms : List zad} (h : za9 ((L : Int), src, ts, fs, ps, ms) = true) : zec ((L : Int), src, ts, fs, ps, ms) = (zc6 L src ts fs ps ms, 0) := by
 rw [zec, h]
 rfl
theorem zu1 {x : Sess} (h : za9 x = false) : zec x = ([], 1) := by
 rw [zec, h]
 rfl
theorem zu2 (a0 : Int) (A1 : Option Addr) (n1 c1 : Nat) (A2 : Option Addr) (n2 c2 : Nat) (A3 : Option Addr) (n3 c3 : Nat) (A4 : Option Addr) (n4 c4 : Nat) (A5 : Option Addr) (n5 c5 : Nat) (src : List (List Int)) (ts : List (List zah)) (fs : List Int) (ps : List zaf) (ms : List zad) (w : World)
 (h1 : tSS.R w w.heap.size [.slice A1 n1 c1] src) (h2 : tTS.R w w.heap.size [.slice A2 n2 c2] ts) (h3 : tS.R w w.heap.size [.slice A3 n3 c3] fs) (h4 : tPS.R w w.heap.size [.slice A4 n4 c4] ps) (h5 : tM.R w w.heap.size [.slice A5 n5 c5] ms) (hn : hZ.sz ((a0, src, ts, fs, ps, ms) : Sess) ≤ 100000000) :
 Calls Tryz.prog 16 #[.agg #[.int .i64 a0, .slice A1 n1 c1, .slice A2 n2 c2, .slice A3 n3 c3, .slice A4 n4 c4, .slice A5 n5 c5]] w (zkl w (zec (a0, src, ts, fs, ps, ms))) := by
 obtain ⟨W, hW, B0, sW, p0, p1, p2, p3, p4, p5, pf⟩ := zb2 w (.int .i64 a0) (.slice A1 n1 c1) (.slice A2 n2 c2) (.slice A3 n3 c3) (.slice A4 n4 c4) (.slice A5 n5 c5) 32
 have HW := Lib.hid hW
 have lW : w.heap.size < W.heap.size := by omega
 have k1 := tSS.later h1 B0
 have k2 := tTS.later h2 B0
 have k3 := tS.later h3 B0
 have k4 := tPS.later h4 B0
 have k5 := tM.later h5 B0
 clear hW
 have Q2 := Lib.hid (sl_R.1 h2).cap.1
 cases hok : za9 ((a0, src, ts, fs, ps, ms) : Sess)
 · have R := Lib.hid (zu1 hok)
   have OK := Lib.hid hok
   have TC := Lib.hid (zmp hok)
   clear hok
   go_enter Tryz.func16, Tryz.ntmps16
   go_wp2_with fail
   rw [← HW.out]
   refine (zhy a0 _ _ c1 _ _ c2 _ _ c3 _ _ c4 _ _ c5 src ts fs ps ms none 0 0 [] W k1 k2 k3 k4 k5 (RI.nil _ _ _) (by omega) hn).mono ?_
   rw [TC.out]
   rintro e w1 ⟨rfl, bel1⟩
   go_wp2_with fail
   go_ret2
   rw [R.out]
   exact ⟨_, rfl, OS.nil _ _ _ _, zaa B0 bel1⟩
 · obtain ⟨L, rfl, hO⟩ := zgq hok
   have htl : n2 ≤ 6 := by rw [← Q2.out]; exact hO.tl
   have hL := hO.l
   have R := Lib.hid (zu0 hok)
   have OK := Lib.hid hok
   have TC := Lib.hid (zmo hok)
   clear hok
   go_enter Tryz.func16, Tryz.ntmps16
   go_wp2_with fail
   rw [← HW.out]
   refine (zhy (L : Int) _ _ c1 _ _ c2 _ _ c3 _ _ c4 _ _ c5 src ts fs ps ms none 0 0 [] W k1 k2 k3 k4 k5 (RI.nil _ _ _) (by omega) hn).mono ?_
   rw [TC.out]
   rintro e w1 ⟨rfl, bel1⟩
   have s1 := bel1.size
   have P0 := (bel1.cell (p := ⟨w.heap.size, 0, none⟩) (by show w.heap.size < _; omega)).trans p0
   have P1 := (bel1.cell (p := ⟨w.heap.size, 1, none⟩) (by show w.heap.size < _; omega)).trans p1
   have P2 := (bel1.cell (p := ⟨w.heap.size, 2, none⟩) (by show w.heap.size < _; omega)).trans p2
   have P3 := (bel1.cell (p := ⟨w.heap.size, 3, none⟩) (by show w.heap.size < _; omega)).trans p3
   have P4 := (bel1.cell (p := ⟨w.heap.size, 4, none⟩) (by show w.heap.size < _; omega)).trans p4
   have P5 := (bel1.cell (p := ⟨w.heap.size, 5, none⟩) (by show w.heap.size < _; omega)).trans p5
   have q1 := tSS.later k1 bel1
   have q2 := tTS.later k2 bel1
   have q3 := tS.later k3 bel1
   have q4 := tPS.later k4 bel1
   have q5 := tM.later k5 bel1
   have B01 := zaa B0 bel1
   have lw1 : w.heap.size < w1.heap.size := by omega
   clear p0 p1 p2 p3 p4 p5 k1 k2 k3 k4 k5 h1 h2 h3 h4 h5
   have HSL := Lib.hid (show (zc6 L src ts fs ps ms).length = n2 by rw [zuy]; exact Q2.out)
   go_wp2_with fail
   refine (zmq _ _ c2 _).mono ?_
   rintro e w' ⟨rfl, rfl⟩
   go_wp2_with fail
   go_loopw [5, 16] (fun v i wr => ∃ k : Nat, i = .int .i64 k ∧ k ≤ n2 ∧ OS tS 26 wr (Iv w1.heap.size wr.heap.size) v ((zc6 L src ts fs ps ms).take k) ∧ Below w1.heap.size w1 wr) (fun _ i _ => n2 - (intOf i).toNat)
   case atStart => exact ⟨0, rfl, by omega, OS.made0 _ _ _, (Below.refl _ _).alloc (Nat.le_refl _) _⟩
   case round =>
    obtain ⟨k, rfl, hk, own, B⟩ := hrel
    have sB := B.size
    have r2 := (B.cell (p := ⟨w.heap.size, 2, none⟩) (by show w.heap.size < _; omega)).trans P2
    by_cases hlt : k < n2
    · have hk1 : (k : Int) < (n2 : Int) := by omega
      have r0 := (B.cell (p := ⟨w.heap.size, 0, none⟩) (by show w.heap.size < _; omega)).trans P0
      have r1 := (B.cell (p := ⟨w.heap.size, 1, none⟩) (by show w.heap.size < _; omega)).trans P1
      have r2 := (B.cell (p := ⟨w.heap.size, 2, none⟩) (by show w.heap.size < _; omega)).trans P2
      have r3 := (B.cell (p := ⟨w.heap.size, 3, none⟩) (by show w.heap.size < _; omega)).trans P3
      have r4 := (B.cell (p := ⟨w.heap.size, 4, none⟩) (by show w.heap.size < _; omega)).trans P4
      have r5 := (B.cell (p := ⟨w.heap.size, 5, none⟩) (by show w.heap.size < _; omega)).trans P5
      have HTK := Lib.hid (M.take_at (zuz (L := L) (src := src) (ts := ts) (fs := fs) (ps := ps) (ms := ms) (k := k) (by rw [Q2.out]; exact hlt)))
      have hpl : ((zc6 L src ts fs ps ms).take k).length ≤ 1000000 := by rw [List.length_take]; omega
      go_wp2_with fail
      refine (zms L _ _ c1 _ _ c2 _ _ c3 _ _ c4 _ _ c5 src ts fs ps ms (k : Int) wr (tSS.later q1 B) (tTS.later q2 B) (tS.later q3 B) (tPS.later q4 B) (tM.later q5 B) hn hO).mono ?_
      rintro e w2 ⟨v2, rfl, own2, bel2⟩
      obtain ⟨A6, c6, e6, -⟩ := zbr own2
      rw [zfv] at e6
      subst e6
      have s2 := bel2.size
      have ow := own.below bel2 (Nat.le_refl _)
      have os2 := tS_O.2 (OI.os own2)
      go_wp2_with (at_builtin; refine zaz ei_S #[.slice A6 L c6] rfl _ _ rfl ow os2 (Iv.apart (Nat.le_refl _)) rfl rfl (by unfold maxLen; omega) (by omega) ?_; intro v5 w5 own5 ch5)
      go_roundw
      case rel =>
       refine ⟨k + 1, by go_num, by omega, ?_, (B.trans (bel2.mono sB)).trans (ch5.toBelow (fun b hb => hb.1) (by omega))⟩
       rw [HTK.out]
       exact own5.wide (Iv.grow sB s2 ch5.size)
      case measure => simp [intOf]; omega
    · obtain rfl : n2 = k := by omega
      rw [List.take_of_length_le (by rw [HSL.out]; exact Nat.le_refl _)] at own
      go_wp2_with fail
      go_ret2
      rw [R.out]
      exact ⟨_, rfl, own.wide (fun x hx => ⟨by have := hx.1; omega, hx.2⟩), zaa B01 B⟩
end
section
open Go.RowKit
theorem zmz (p : Int) (A : Option Addr) (n c : Nat) (Ab : Option Addr) (nb cb : Nat) (Ac : Option Addr) (nc cc : Nat) (Ad : Option Addr) (nd cd : Nat) (Ae : Option Addr) (ne ce : Nat) (x : Sess) (w : World) (hx : tZ.R w w.heap.size [.int .i64 p, .slice A n c, .slice Ab nb cb, .slice Ac nc cc, .slice Ad nd cd, .slice Ae ne ce] x) (hn : hZ.sz x ≤ 100000000) :
 Calls Tryz.prog 16 #[.agg #[.int .i64 p, .slice A n c, .slice Ab nb cb, .slice Ac nc cc, .slice Ad nd cd, .slice Ae ne ce]] w (zkl w (zec x)) := by
 obtain ⟨a0, x1, x2, x3, x4, x5⟩ := x
 obtain ⟨A1, n1, c1, A2, n2, c2, A3, n3, c3, A4, n4, c4, A5, n5, c5, hcs, h1, h2, h3, h4, h5⟩ := tZ_R.1 hx
 simp only [List.cons.injEq, Value.int.injEq, Value.slice.injEq, true_and, and_true] at hcs
 obtain ⟨rfl, ⟨rfl, rfl, rfl⟩, ⟨rfl, rfl, rfl⟩, ⟨rfl, rfl, rfl⟩, ⟨rfl, rfl, rfl⟩, ⟨rfl, rfl, rfl⟩⟩ := hcs
 exact zu2 _ _ _ c _ _ cb _ _ cc _ _ cd _ _ ce _ _ _ _ _ _ h1 h2 h3 h4 h5 hn
end
section
open Go.RowKit
theorem zm0 (p : Int) (A : Option Addr) (n c : Nat) (Ab : Option Addr) (nb cb : Nat) (Ac : Option Addr) (nc cc : Nat) (Ad : Option Addr) (nd cd : Nat) (Ae : Option Addr) (ne ce : Nat) (x : Sess) (w : World) (hx : tZ.R w w.heap.size [.int .i64 p, .slice A n c, .slice Ab nb cb, .slice Ac nc cc, .slice Ad nd cd, .slice Ae ne ce] x) (hn : hZ.sz x ≤ 100000000) :
 Calls Tryz.prog 15 #[.agg #[.int .i64 p, .slice A n c, .slice Ab nb cb, .slice Ac nc cc, .slice Ad nd cd, .slice Ae ne ce]] w (Ret2 2 w (zff x)) := by
 obtain ⟨a0, x1, x2, x3, x4, x5⟩ := x
 obtain ⟨A1, n1, c1, A2, n2, c2, A3, n3, c3, A4, n4, c4, A5, n5, c5, hcs, h1, h2, h3, h4, h5⟩ := tZ_R.1 hx
 simp only [List.cons.injEq, Value.int.injEq, Value.slice.injEq, true_and, and_true] at hcs
 obtain ⟨rfl, ⟨rfl, rfl, rfl⟩, ⟨rfl, rfl, rfl⟩, ⟨rfl, rfl, rfl⟩, ⟨rfl, rfl, rfl⟩, ⟨rfl, rfl, rfl⟩⟩ := hcs
 exact ztv _ _ _ c _ _ cb _ _ cc _ _ cd _ _ ce _ _ _ _ _ _ h1 h2 h3 h4 h5 hn
end
section
open Go.RowKit Go.Sort
set_option maxHeartbeats 40000000
theorem zu3 (L : Nat) (w : World) (hL : L ≤ 100000) :
 Calls Tryz.prog 13 #[.slice none 0 0, .int .i64 L] w (Ret1 2 w (List.replicate L 0)) := by
 go_enter Tryz.func13, Tryz.ntmps13
 go_wp2_with fail
 go_loopw [5, 6] (fun v i wr => ∃ k : Nat, i = .int .i64 k ∧ k ≤ L ∧ OI 2 w.heap.size wr v (List.replicate k 0) ∧ Below w.heap.size w wr) (fun _ i _ => L - (intOf i).toNat)
 case atStart => exact ⟨0, rfl, by omega, OI.made _ _, (Below.refl _ _).alloc (Nat.le_refl _) _⟩
 case round =>
  obtain ⟨k, rfl, hk, own, hb⟩ := hrel
  by_cases hlt : k < L
  · have hk1 : (List.replicate k (0 : Int)).length ≤ 1000000000 := by rw [List.length_replicate]; omega
    have hkl : (k : Int) < (L : Int) := by omega
    have hk0 : ¬ (k : Int) < 0 := by omega
    go_wp2_with (at_builtin; refine ze2 zbl rfl _ _ rfl own rfl rfl rfl (by unfold maxLen; omega) (by omega) hb.size ?_; intro v1 w1 own1 gr1 bel1)
    go_roundw
    case rel =>
     exact ⟨k + 1, by go_num, by omega, by rw [List.replicate_succ']; exact OI.push own1, hb.trans bel1⟩
    case measure => simp [intOf]; omega
  · obtain rfl : k = L := by omega
    go_wp2
    go_ret
    exact ⟨_, rfl, own, hb⟩
theorem zu4 (A A' : Option Addr) (n c n' c' : Nat) (xs ys : List Int) (w : World) (hx : RI w w.heap.size A n xs) (hy : RI w w.heap.size A' n' ys) (hn : n ≤ 4000) (hn' : n' ≤ 4000) (h1 : xs.all M.smp = true) (h2 : ys.all M.smp = true) :
 Calls Tryz.prog 18 #[.slice A n c, .slice A' n' c'] w (Ret2 2 w (zbt xs ys 1, 0)) := by
 have S1 := Lib.hid (show M.sig xs = true by rw [M.sig, h1, decide_eq_true (by rw [hx.len]; exact hn)]; rfl)
 have S2 := Lib.hid (show M.sig ys = true by rw [M.sig, h2, decide_eq_true (by rw [hy.len]; exact hn')]; rfl)
 have C1 := Lib.hid (zgx A n c xs w hx (by omega))
 have C2 := Lib.hid (zgx A' n' c' ys w hy (by omega))
 go_enter Tryz.func18, Tryz.ntmps18
 go_wp2_with (go_at_call 38; first
  | (with_reducible refine C1.out.mono ?_; rw [S1.out]; rintro e w' ⟨rfl, rfl⟩)
  | (with_reducible refine C2.out.mono ?_; rw [S2.out]; rintro e w' ⟨rfl, rfl⟩))
 refine (zhs _ _ _ _ _ _ _ _ 1 w hx hy (by omega) (by omega)).mono ?_
 rintro e w1 ⟨v, rfl, o1, b1⟩
 go_wp2
 go_ret2
 exact ⟨_, rfl, o1, b1⟩
theorem M.zD.lin {x : Sess} (h : M.zD true x) : ∀ p ∈ x.2.2.2.2.1, zd3 p.2.2.1 := fun p hp i y hy => by
 rcases h.ef p hp with rfl | q
 · simp at hy
 · exact q.hl rfl y (List.mem_of_getElem? hy)
theorem zva (A0 : Option Addr) (n0 : Nat) (c0 : Nat) (x0 : List UInt8) (A1 : Option Addr) (n1 : Nat) (c1 : Nat) (x1 : List UInt8) (w : World) (h0 : RS tU8 w w.heap.size (.slice A0 n0 c0) x0) (h1 : RS tU8 w w.heap.size (.slice A1 n1 c1) x1) :
 Calls Tryz.prog 4 #[.slice A0 n0 c0, .slice A1 n1 c1] w fun e w' => e = .returned (.bool true) ∧ Below w.heap.size w w' := by
 cases hl0 : decide (1048576 < n0)
 case true =>
  have HL0 := Lib.hid hl0
  have C0 := Lib.hid (zgv A0 n0 c0 w)
  clear hl0
  go_enter Tryz.func4, Tryz.ntmps4
  go_wp2_with (go_at_call 5; first
   | (with_reducible refine C0.out.mono ?_; rw [HL0.out]; rintro e w' ⟨rfl, rfl⟩))
  go_ret
  exact ⟨rfl, Below.refl _ _⟩
 case false =>
 cases hl1 : decide (1048576 < n1)
 case true =>
  have HL0 := Lib.hid hl0
  have HL1 := Lib.hid hl1
  have C0 := Lib.hid (zgv A0 n0 c0 w)
  have C1 := Lib.hid (zgv A1 n1 c1 w)
  clear hl0 hl1
  go_enter Tryz.func4, Tryz.ntmps4
  go_wp2_with (go_at_call 5; first
   | (with_reducible refine C0.out.mono ?_; rw [HL0.out]; rintro e w' ⟨rfl, rfl⟩)
   | (with_reducible refine C1.out.mono ?_; rw [HL1.out]; rintro e w' ⟨rfl, rfl⟩))
  go_ret
  exact ⟨rfl, Below.refl _ _⟩
 case false =>
  have HL0 := Lib.hid hl0
  have HL1 := Lib.hid hl1
  have C0 := Lib.hid (zgv A0 n0 c0 w)
  have C1 := Lib.hid (zgv A1 n1 c1 w)
  clear hl0 hl1
  go_enter Tryz.func4, Tryz.ntmps4
  go_upto_region 3 with (go_at_call 5; first
   | (with_reducible refine C0.out.mono ?_; rw [HL0.out]; rintro e w' ⟨rfl, rfl⟩)
   | (with_reducible refine C1.out.mono ?_; rw [HL1.out]; rintro e w' ⟨rfl, rfl⟩))
  clear C0 C1
  go_wp2_with fail
  refine (zs7 _ _ _ _ _ h0).mono ?_
  rintro e w1 ⟨i0, B1, m1, d1, B2, m2, d2, B3, m3, d3, B4, m4, d4, B5, m5, d5, x, rfl, oz, HP, bel1⟩
  have s1 := bel1.size
  have rz := tZ.read oz
  have hok := Lib.hid HP.out.sess
  have hsz := HP.out.few.sz
  obtain ⟨a0, src, ts, fs, ps, ms⟩ := x
  have hi0 : i0 = a0 := by
   obtain ⟨_, _, _, _, _, _, _, _, _, _, _, _, _, _, _, hcs, -⟩ := tZ_R.1 rz
   simp only [List.cons.injEq, Value.int.injEq] at hcs
   exact hcs.1.2
  subst hi0
  obtain ⟨L, e_, hSO⟩ := zgq hok.out
  subst e_
  have hL := hSO.l
  have RR := Lib.hid (show zdk ((L : Int), src, ts, fs, ps, ms) = (List.replicate L 0, 0) by
   rw [zdk, if_pos hok.out]
   show (zb7 (L : Int).toNat src ts fs ps ms ts.length, (0 : Int)) = _
   rw [Int.toNat_natCast, zut hSO HP.out.lin])
  obtain ⟨U, hU, BU, sU, p0, p1, p2, p3, p4, p5, pf⟩ := zb2 w1 (.int .i64 L) (.slice B1 m1 d1) (.slice B2 m2 d2) (.slice B3 m3 d3) (.slice B4 m4 d4) (.slice B5 m5 d5) 32
  have HU := Lib.hid hU
  have rzU := tZ.later rz BU
  have BWU := zaa bel1 BU
  clear hU oz rz pf HP hok hSO
  go_wp2_with fail
  rw [← HU.out]
  refine (zjh _ _ _ _ _ _ _ _ _ _ _ _ _ _ _ _ _ U rzU hsz).mono ?_
  rw [RR.out]
  rintro e w2 ⟨v2, rfl, own2, b2⟩
  obtain ⟨A2, c2, e2, r2⟩ := own2.shape
  rw [List.length_replicate] at e2 r2
  have z2 := b2.size
  have q0 : w2.cell? ⟨w1.heap.size, 0, none⟩ = some (.int .i64 L) := by rw [b2.cell (by show w1.heap.size < _; omega)]; exact p0
  have B2w := zaa BWU b2
  clear p0 p1 p2 p3 p4 p5 RR rzU
  subst e2
  go_upto_region 7 with (first
   | (go_at_call 13; refine (zu3 L w2 (by omega)).mono ?_; rintro e w3 ⟨v3, rfl, own3, b3⟩; obtain ⟨A3, c3, e3, r3⟩ := own3.shape; rw [List.length_replicate] at e3 r3; subst e3; have r23 := r2.later b3; have B3w := zaa B2w b3)
   | (go_at_call 11; refine (zme _ _ _ _ _ _ _ _ w3 r23 r3 (by omega)).mono ?_; rw [decide_eq_true rfl]; rintro e w4 ⟨rfl, b4⟩; have B4w := zaa B3w b4))
  clear q0 r2 r3 r23 own2 own3
  have h14 := h1.later B4w
  go_wp2_with fail
  refine (ztg _ _ _ _ _ h14).mono ?_
  rintro e w5 ⟨i0, B1, m1, d1, B2, m2, d2, B3, m3, d3, B4, m4, d4, B5, m5, d5, x, rfl, rz, HP, bel5⟩
  have s5 := bel5.size
  have hsz := HP.out.sz
  obtain ⟨U5, hU, BU, sU5, p0, p1, p2, p3, p4, p5, pf⟩ := zb2 w5 (.int .i64 i0) (.slice B1 m1 d1) (.slice B2 m2 d2) (.slice B3 m3 d3) (.slice B4 m4 d4) (.slice B5 m5 d5) 32
  have HU5 := Lib.hid hU
  have rzU := tZ.later rz BU
  have BWU := zaa (zaa B4w bel5) BU
  clear hU rz pf HP
  cases hok : za9 x
  · have R1 := Lib.hid (show zdk x = ([], 1) by rw [zdk, hok]; rfl)
    have R2 := Lib.hid (show zff x = ([], 1) from zmk hok)
    have R3 := Lib.hid (show zec x = ([], 1) by rw [zec, hok]; rfl)
    have HOK := Lib.hid hok
    clear hok
    go_wp2_with fail
    rw [← HU5.out]
    refine (zjh _ _ _ _ _ _ _ _ _ _ _ _ _ _ _ _ _ U5 rzU hsz).mono ?_
    rw [R1.out]
    rintro e w6 ⟨v6, rfl, own6, b6⟩
    obtain ⟨A6, c6, e6, -⟩ := own6.shape
    subst e6
    have z6 := b6.size
    have rz6 := tZ.later rzU b6
    have B6w := zaa BWU b6
    have k0 : w6.cell? ⟨w5.heap.size, 0, none⟩ = _ := (b6.cell (by show w5.heap.size < _; omega)).trans p0
    have k1 : w6.cell? ⟨w5.heap.size, 1, none⟩ = _ := (b6.cell (by show w5.heap.size < _; omega)).trans p1
    have k2 : w6.cell? ⟨w5.heap.size, 2, none⟩ = _ := (b6.cell (by show w5.heap.size < _; omega)).trans p2
    have k3 : w6.cell? ⟨w5.heap.size, 3, none⟩ = _ := (b6.cell (by show w5.heap.size < _; omega)).trans p3
    have k4 : w6.cell? ⟨w5.heap.size, 4, none⟩ = _ := (b6.cell (by show w5.heap.size < _; omega)).trans p4
    have k5 : w6.cell? ⟨w5.heap.size, 5, none⟩ = _ := (b6.cell (by show w5.heap.size < _; omega)).trans p5
    clear p0 p1 p2 p3 p4 p5 own6
    go_wp2_with fail
    refine (zm0 _ _ _ _ _ _ _ _ _ _ _ _ _ _ _ _ _ w6 rz6 hsz).mono ?_
    rw [R2.out]
    rintro e w7 ⟨v7, rfl, own7, b7⟩
    obtain ⟨A7, c7, e7, -⟩ := own7.shape
    subst e7
    have z7 := b7.size
    have rz7 := tZ.later rz6 b7
    have B7w := zaa B6w b7
    have p0 : w7.cell? ⟨w5.heap.size, 0, none⟩ = _ := (b7.cell (by show w5.heap.size < _; omega)).trans k0
    have p1 : w7.cell? ⟨w5.heap.size, 1, none⟩ = _ := (b7.cell (by show w5.heap.size < _; omega)).trans k1
    have p2 : w7.cell? ⟨w5.heap.size, 2, none⟩ = _ := (b7.cell (by show w5.heap.size < _; omega)).trans k2
    have p3 : w7.cell? ⟨w5.heap.size, 3, none⟩ = _ := (b7.cell (by show w5.heap.size < _; omega)).trans k3
    have p4 : w7.cell? ⟨w5.heap.size, 4, none⟩ = _ := (b7.cell (by show w5.heap.size < _; omega)).trans k4
    have p5 : w7.cell? ⟨w5.heap.size, 5, none⟩ = _ := (b7.cell (by show w5.heap.size < _; omega)).trans k5
    clear k0 k1 k2 k3 k4 k5 own7
    go_wp2_with fail
    refine (zmz _ _ _ _ _ _ _ _ _ _ _ _ _ _ _ _ _ w7 rz7 hsz).mono ?_
    rw [R3.out]
    rintro e w8 ⟨v8, rfl, own8, b8⟩
    obtain ⟨A8, c8, e8⟩ := own8.shape
    subst e8
    have z8 := b8.size
    have rz8 := tZ.later rz7 b8
    have B8w := zaa B7w b8
    have k0 : w8.cell? ⟨w5.heap.size, 0, none⟩ = _ := (b8.cell (by show w5.heap.size < _; omega)).trans p0
    have k1 : w8.cell? ⟨w5.heap.size, 1, none⟩ = _ := (b8.cell (by show w5.heap.size < _; omega)).trans p1
    have k2 : w8.cell? ⟨w5.heap.size, 2, none⟩ = _ := (b8.cell (by show w5.heap.size < _; omega)).trans p2
    have k3 : w8.cell? ⟨w5.heap.size, 3, none⟩ = _ := (b8.cell (by show w5.heap.size < _; omega)).trans p3
    have k4 : w8.cell? ⟨w5.heap.size, 4, none⟩ = _ := (b8.cell (by show w5.heap.size < _; omega)).trans p4
    have k5 : w8.cell? ⟨w5.heap.size, 5, none⟩ = _ := (b8.cell (by show w5.heap.size < _; omega)).trans p5
    clear p0 p1 p2 p3 p4 p5 own8
    go_wp2_with fail
    refine (zt4 _ _ _ _ _ _ _ _ _ _ _ _ _ _ _ _ _ w8 rz8 hsz).mono ?_
    rw [HOK.out]
    rintro e w9 ⟨rfl, b9⟩
    go_wp2
    go_ret
    exact ⟨rfl, zaa B8w b9⟩
  · obtain ⟨a0, src, ts, fs, ps, ms⟩ := x
    have hi0 : i0 = a0 := by
     obtain ⟨_, _, _, _, _, _, _, _, _, _, _, _, _, _, _, hcs, -⟩ := tZ_R.1 rzU
     simp only [List.cons.injEq, Value.int.injEq] at hcs
     exact hcs.1.2
    subst hi0
    obtain ⟨L, e_, hSO⟩ := zgq hok
    subst e_
    have hL := hSO.l
    have R1 := Lib.hid (show zdk ((L : Int), src, ts, fs, ps, ms) = (zb7 L src ts fs ps ms ts.length, 0) by rw [zdk, if_pos hok]; rfl)
    have R2 := Lib.hid (zmj hok)
    have R3 := Lib.hid (show zec ((L : Int), src, ts, fs, ps, ms) = (zc6 L src ts fs ps ms, 0) by rw [zec, if_pos hok]; rfl)
    have HSO := Lib.hid hSO
    have hts : ts.length ≤ 6 := hSO.tl
    clear hok hSO
    go_wp2_with fail
    rw [← HU5.out]
    refine (zjh _ _ _ _ _ _ _ _ _ _ _ _ _ _ _ _ _ U5 rzU hsz).mono ?_
    rw [R1.out]
    rintro e w6 ⟨v6, rfl, own6, b6⟩
    obtain ⟨A6, c6, e6, r6⟩ := own6.shape
    rw [zh0] at e6 r6
    subst e6
    have z6 := b6.size
    have rz6 := tZ.later rzU b6
    have B6w := zaa BWU b6
    have k0 : w6.cell? ⟨w5.heap.size, 0, none⟩ = _ := (b6.cell (by show w5.heap.size < _; omega)).trans p0
    have k1 : w6.cell? ⟨w5.heap.size, 1, none⟩ = _ := (b6.cell (by show w5.heap.size < _; omega)).trans p1
    have k2 : w6.cell? ⟨w5.heap.size, 2, none⟩ = _ := (b6.cell (by show w5.heap.size < _; omega)).trans p2
    have k3 : w6.cell? ⟨w5.heap.size, 3, none⟩ = _ := (b6.cell (by show w5.heap.size < _; omega)).trans p3
    have k4 : w6.cell? ⟨w5.heap.size, 4, none⟩ = _ := (b6.cell (by show w5.heap.size < _; omega)).trans p4
    have k5 : w6.cell? ⟨w5.heap.size, 5, none⟩ = _ := (b6.cell (by show w5.heap.size < _; omega)).trans p5
    clear p0 p1 p2 p3 p4 p5 own6
    go_wp2_with fail
    refine (zm0 _ _ _ _ _ _ _ _ _ _ _ _ _ _ _ _ _ w6 rz6 hsz).mono ?_
    rw [R2.out]
    rintro e w7 ⟨v7, rfl, own7, b7⟩
    obtain ⟨A7, c7, e7, r7⟩ := own7.shape
    rw [zhz] at e7 r7
    subst e7
    have z7 := b7.size
    have rz7 := tZ.later rz6 b7
    have B7w := zaa B6w b7
    have r67 := r6.later b7
    have p0 : w7.cell? ⟨w5.heap.size, 0, none⟩ = _ := (b7.cell (by show w5.heap.size < _; omega)).trans k0
    have p1 : w7.cell? ⟨w5.heap.size, 1, none⟩ = _ := (b7.cell (by show w5.heap.size < _; omega)).trans k1
    have p2 : w7.cell? ⟨w5.heap.size, 2, none⟩ = _ := (b7.cell (by show w5.heap.size < _; omega)).trans k2
    have p3 : w7.cell? ⟨w5.heap.size, 3, none⟩ = _ := (b7.cell (by show w5.heap.size < _; omega)).trans k3
    have p4 : w7.cell? ⟨w5.heap.size, 4, none⟩ = _ := (b7.cell (by show w5.heap.size < _; omega)).trans k4
    have p5 : w7.cell? ⟨w5.heap.size, 5, none⟩ = _ := (b7.cell (by show w5.heap.size < _; omega)).trans k5
    clear k0 k1 k2 k3 k4 k5 own7 r6
    go_wp2_with fail
    refine (zmz _ _ _ _ _ _ _ _ _ _ _ _ _ _ _ _ _ w7 rz7 hsz).mono ?_
    rw [R3.out]
    rintro e w8 ⟨v8, rfl, own8, b8⟩
    have r8 := own8.read
    obtain ⟨A8, c8, e8⟩ := r8.shape
    have hsl : (zc6 L src ts fs ps ms).length = ts.length := by simp [zc6]
    dsimp only at e8 r8
    rw [hsl] at e8
    subst e8
    have z8 := b8.size
    have B8w := zaa B7w b8
    have r68 := r67.later b8
    have r78 := r7.later b8
    clear p0 p1 p2 p3 p4 p5 own8 r67 r7 rz7 rz6 rzU
    go_wp2_with fail
    obtain ⟨Y, rfl⟩ : ∃ Y : World, Y = w8 := ⟨_, rfl⟩
    go_loopw [9, 15] (fun v i wr => ∃ (k : Nat) (AL : Option Addr) (cL : Nat), v = .slice AL L cL ∧ i = .int .i64 k ∧ k ≤ ts.length ∧ RI wr wr.heap.size AL L (zde L src ts fs ps ms k) ∧ Below Y.heap.size Y wr) (fun _ i _ => ts.length - (intOf i).toNat)
    case atStart => exact ⟨0, _, _, rfl, rfl, by omega, r68, Below.refl _ _⟩
    case round =>
     obtain ⟨k, AL, cL, rfl, rfl, hk, rL, B⟩ := hrel
     by_cases hlt : k < ts.length
     · have hkl : (k : Int) < (ts.length : Int) := by omega
       have hX : (zc6 L src ts fs ps ms)[k]? = some (zd2 L src ts fs ps ms (k : Int)) := by simp [zc6, hlt]
       obtain ⟨bb, o_, cc_, cs, hv, hbb, -, hE, hc⟩ := (r8.below B).atX hX
       simp only [Value.slice.injEq] at hv
       obtain ⟨rfl, -, rfl⟩ := hv
       obtain ⟨A9, n9, c9, rfl⟩ := zbw hE
       have rE := (sl_R.1 hE).ri
       obtain rfl : L = n9 := by
        have h9 := (sl_R.1 hE).cap.1
        rw [zfv] at h9
        exact h9
       have ce : wr.cell? ⟨bb, o_ + k, none⟩ = some (.slice A9 L c9) := by
        have h9 := hc 0 _ rfl
        change wr.cell? ⟨bb, o_ + k * 1 + 0, none⟩ = _ at h9
        rw [Nat.mul_one, Nat.add_zero] at h9
        exact h9
       have hk0 : (0 : Int) ≤ (k : Int) := by omega
       have sB := B.size
       clear hc hE
       go_wp2_with fail
       refine (zu4 _ _ _ _ _ _ _ _ wr rL (rE.more sB) (by omega) (by omega) (zux HSO.out k) (by rw [zd2]; exact zf0 (zmr HSO.out _ _))).mono ?_
       rintro e w9 ⟨v9, rfl, own9, b9⟩
       obtain ⟨A10, c10, e10, r10⟩ := own9.shape
       have hbl : (zbt (zde L src ts fs ps ms k) (zd2 L src ts fs ps ms (k : Int)) 1).length = L := by rw [zdu, zmy, zfv, Nat.max_self]
       dsimp only at e10 r10
       rw [hbl] at e10 r10
       subst e10
       go_wp2_with fail
       go_roundw
       case rel =>
        first
         | exact ⟨k + 1, _, _, rfl, by go_num, by omega, r10, B.trans (b9.mono sB)⟩
         | ((repeat apply Exists.intro); exact ⟨⟨k + 1, _, _, rfl, by go_num, by omega, r10, B.trans (b9.mono sB)⟩, rfl⟩)
       case measure => simp [intOf]; omega
     · obtain rfl : k = ts.length := by omega
       have r7w := r78.later (B.mono (Nat.le_refl _))
       rw [zuv HSO.out] at rL
       go_wp2_with fail
       refine (zme _ _ _ _ _ _ _ _ wr rL r7w (by omega)).mono ?_
       rw [decide_eq_true rfl]
       rintro e w9 ⟨rfl, b9⟩
       go_wp2
       go_ret
       exact ⟨rfl, zaa (zaa B8w B) b9⟩
end
section
open Go.ChangeShapes Go.WideShapes Go.Deep Go.RowKit
def zh2 (P : Program) (T : TypeId) {α : Type} (t : Ty α) : Prop :=
 ∀ {H : Type} (enc : TypeId × Value → H) (w : World) (base : Nat) (spare : Nat → Bool) (held : Bool) (fuel : Nat) (cs : List Value) (d : DataW H × List MemPlace), DataW.trod enc P w base spare held fuel T cs = some d → ∃ x, t.R w w.heap.size cs x
section
variable {P : Program} {T : TypeId}
theorem zu5 {α : Type} {t : Ty α} {e e' : TypeId} (ht : P.underlying T = some (.slice e)) (hC : P.cellsOf e = t.s) (he : zh2 P e t) : zh2 P T (t.sl e') := by
 intro H enc w base spare held fuel cs d h
 rcases open_slice ht h with ⟨rfl, _⟩ | ⟨a, len, cap, m, n, D, Pl, rfl, hb, hl, hm, hmm, hx, hi⟩
 · exact ⟨[], _, rfl, RS.nil _ _ _⟩
 · have hlm : len ≤ m := by rw [hmm]; split <;> omega
   have key : ∀ i, ∃ p : List Value × α, i < len → t.R w w.heap.size p.1 p.2 ∧ ∀ j u, p.1[j]? = some u → w.cell? (a.add (i * t.s + j)) = some u := by
    intro i
    by_cases hil : i < len
    · obtain ⟨cs', hc, ht'⟩ := hi i (by omega)
      rw [hC] at hc
      obtain ⟨x, hR⟩ := he enc w base spare held n cs' _ ht'
      obtain ⟨_, hcl, hat⟩ := World.cells?_some hc
      refine ⟨(cs', x), fun _ => ⟨hR, fun j u hu => ?_⟩⟩
      have hj : j < t.s := by rw [← hcl]; exact (List.getElem?_eq_some_iff.1 hu).1
      have := hat j hj
      rw [Go.Deep.add_add] at this
      rw [this]
      exact hu
    · exact ⟨([], t.zero), fun hc => absurd hc hil⟩
   obtain ⟨g, hg⟩ : ∃ g : Nat → List Value × α, ∀ i, i < len → t.R w w.heap.size (g i).1 (g i).2 ∧ ∀ j u, (g i).1[j]? = some u → w.cell? (a.add (i * t.s + j)) = some u := ⟨fun i => Classical.choose (key i), fun i => Classical.choose_spec (key i)⟩
   have hs : ∀ c ∈ (List.range len).map (fun i => (g i).1), c.length = t.s := by
    intro c hc
    obtain ⟨i, hi, rfl⟩ := List.mem_map.1 hc
    exact t.rlen (hg i (List.mem_range.1 hi)).1
   refine ⟨(List.range len).map fun i => (g i).2, _, rfl, some a, cap, (List.range len).map fun i => (g i).1, by simp, by simpa using hl, hm, by simp, ?_, ?_⟩
   · refine ⟨by rw [zh6 hs]; simp, fun hn => ⟨a, rfl, ?_, fun j u hu => ?_⟩⟩
     · have hn' : 0 < len := by simpa using hn
       have h0 := (hg 0 hn')
       have hp := t.pos
       obtain ⟨u, hu⟩ : ∃ u, (g 0).1[0]? = some u := ⟨_, List.getElem?_eq_getElem (by rw [t.rlen h0.1]; exact hp)⟩
       have := World.block_lt_of_cell? _ _ (h0.2 0 u hu)
       rwa [ze1] at this
     · have hj : j < len * t.s := by have := (List.getElem?_eq_some_iff.1 hu).1; rw [zh6 hs] at this; simpa using this
       have hk : j / t.s < len := Nat.div_lt_of_lt_mul (by rw [Nat.mul_comm]; exact hj)
       have hr : j % t.s < t.s := Nat.mod_lt _ t.pos
       have e0 : j / t.s * t.s + j % t.s = j := by rw [Nat.mul_comm]; exact Nat.div_add_mod j t.s
       have hf := zg0 hs (k := j / t.s) (c := (g (j / t.s)).1) (by simp [hk]) (j % t.s) hr
       rw [e0, hu] at hf
       have := (hg _ hk).2 (j % t.s) u hf.symm
       rwa [e0] at this
   · intro k hk hk'
     simp only [List.length_map, List.length_range] at hk
     simp only [List.getElem_map, List.getElem_range]
     exact (hg k hk).1
end
end
section
open Go.RowKit
theorem zu6 {P : Program} {T : TypeId} (h : P.underlying T = some (.int .u8)) : zh2 P T tU8 := fun _ _ _ _ _ _ _ _ ht => by
 obtain ⟨n, rfl, _, hw⟩ := DataW.trod_int h ht
 have hb : 0 ≤ n ∧ n ≤ 255 := by
  simp only [Lit.wf, Bool.and_eq_true, decide_eq_true_eq, show IntKind.u8.min = 0 from by decide, show IntKind.u8.max = 255 from by decide] at hw
  exact hw
 refine ⟨UInt8.ofNat n.toNat, ?_⟩
 show [Value.int .u8 n] = [.int .u8 ((UInt8.ofNat n.toNat).toNat : Int)]
 have h2 : (UInt8.ofNat n.toNat).toNat = n.toNat := by rw [UInt8.toNat_ofNat']; omega
 rw [h2, Int.toNat_of_nonneg hb.1]
abbrev tU : Ty (List UInt8) := tU8.sl 5
theorem zvb : zh2 Tryz.prog 22 tU := zu5 Tryz.underlying22 (by kernel_rfl) (zu6 Tryz.underlying5)
end
end Go.Proofs.YtfkcoiefkjmdeaaGreat
