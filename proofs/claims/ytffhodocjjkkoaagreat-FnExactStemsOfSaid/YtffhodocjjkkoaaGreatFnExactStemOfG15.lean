import Derived.Test.YtffhodocjjkkoaaGreatFnExactStemOfG14
import Derived.Test.YtffhodocjjkkoaaGreatFnExactStemOfG5
import Derived.Test.YtffhodocjjkkoaaGreatFnExactStemOfG3
import Derived.Lib.QuietBelow
import Derived.Test.YtffhodocjjkkoaaGreatFnExactStemOfG4
import Derived.Test.YtffhodocjjkkoaaGreatFnExactStemOfG2
import Derived.Test.YtffhodocjjkkoaaGreatFnExactStemOfG13
import Derived.Deep.DeepCutAuto
import Derived.Test.YtffhodocjjkkoaaGreatFnExactStemOfG1
import Derived.Deep.Slices
import Derived.Deep.Fields
import Derived.ChangeSame
import Derived.Lib.SmallJoins
set_option linter.unusedVariables false
set_option linter.unusedSimpArgs false
set_option maxRecDepth 100000
set_option maxHeartbeats 4000000
namespace Go.Proofs.YtffhodocjjkkoaaGreat
section
open Go.RowKit Go.Sort
theorem zno (A : Option Addr) (n c : Nat) (xs : List Int) (m : Int) (w : World) (hx : RI w w.heap.size A n xs) (hn : n ≤ 1000000000000) :
 Calls Tryz.prog 145 #[.slice A n c,.int .i64 m] w fun e w' => e = .returned (.bool (zap xs m)) ∧ w = w' := by
 go_enter Tryz.func145,Tryz.ntmps145
 go_wp2
 go_loop [9] (fun i => ∃ k : Nat,i = .int .i64 k ∧ k ≤ n ∧ Hid (zap xs m = zap (xs.drop k) m)) (fun i => n - (intOf i).toNat)
 case atStart => exact ⟨0,rfl,by omega,Lib.hid (by simp)⟩
 case round =>
  obtain ⟨k,rfl,hk,H⟩ := hrel
  have hl := Lib.hid hx.len
  by_cases hlt : k < n
  · obtain ⟨ad,x,rfl,hab,X,hc⟩ := hx.at hlt
    have hd := Lib.hid (M.drop_at X.out)
    by_cases hs : x = m
    · have R := Lib.hid (show zap xs m = true by rw [H.out,hd.out,zhi]; simp [hs])
      have g : (m == x) = true := by simpa using hs.symm
      subst hs
      go_wp2
      go_ret
      exact ⟨zab (by rw [R.out]),rfl⟩
    · have R := Lib.hid (show zap xs m = zap (xs.drop (k + 1)) m by rw [H.out,hd.out,zhi,decide_eq_false hs,Bool.false_or])
      have g : (m == x) = false := by simpa using fun h => hs h.symm
      have hs' : ¬ m = x := fun h => hs h.symm
      clear hs
      go_wp2
      go_round
      case rel => exact ⟨k + 1,by go_num,by omega,R⟩
      case measure => simp [intOf]; omega
  · have R := Lib.hid (show zap xs m = false by rw [H.out,List.drop_eq_nil_of_le (by rw [hl.out]; omega)]; rfl)
    go_wp2
    go_ret
    exact ⟨zab (by rw [R.out]),rfl⟩
def zbk (keep : List Int) (k : Nat) (xs : List (List zag)) : List (List zag) := xs.mapIdx (fun i x => if i < k ∧ zap keep i = false then [] else x)
theorem zg5 (keep : List Int) (k : Nat) (xs : List (List zag)) : (zbk keep k xs).length = xs.length := by simp [zbk]
theorem znp (keep : List Int) (xs : List (List zag)) : zbk keep 0 xs = xs := by
 apply List.ext_getElem (by simp [zbk])
 intro i h h'
 simp [zbk]
theorem znq {keep : List Int} {k : Nat} {xs : List (List zag)} {x : List zag} (h : xs[k]? = some x) : (zbk keep k xs)[k]? = some x := by
 simp [zbk,List.getElem?_mapIdx,h]
theorem znr {keep : List Int} {k : Nat} (xs : List (List zag)) (h : zap keep k = true) : zbk keep (k + 1) xs = zbk keep k xs := by
 apply List.ext_getElem (by simp [zbk])
 intro i h1 h2
 simp only [zbk,List.getElem_mapIdx]
 by_cases hi : i = k
 · subst hi; simp [h]
 · have e : (i < k + 1) ↔ (i < k) := by omega
   simp only [e]
theorem zns {keep : List Int} {k : Nat} (xs : List (List zag)) (h : zap keep k = false) : zbk keep (k + 1) xs = (zbk keep k xs).set k [] := by
 apply List.ext_getElem (by simp [zbk])
 intro i h1 h2
 rw [List.getElem_set]
 simp only [zbk,List.getElem_mapIdx]
 by_cases hi : i = k
 · subst hi; simp [h]
 · have e : (i < k + 1) ↔ (i < k) := by omega
   simp only [e,if_neg (show ¬ k = i by omega)]
theorem zuy (a0 : Int) (A1 : Option Addr) (n1 c1 : Nat) (A2 : Option Addr) (n2 c2 : Nat) (A3 : Option Addr) (n3 c3 : Nat) (A4 : Option Addr) (n4 c4 : Nat) (A5 : Option Addr) (n5 c5 : Nat) (x1 : List (List Int)) (x2 : List (List zag)) (x3 : List Int) (x4 : List zad) (x5 : List zae) (KA : Option Addr) (kn kc : Nat) (keep : List Int) (w : World)  (h1 : tSS.R w w.heap.size [.slice A1 n1 c1] x1) (h2 : tTS.R w w.heap.size [.slice A2 n2 c2] x2) (h3 : tS.R w w.heap.size [.slice A3 n3 c3] x3) (h4 : tPS.R w w.heap.size [.slice A4 n4 c4] x4) (h5 : tM.R w w.heap.size [.slice A5 n5 c5] x5) (hk_ : RI w w.heap.size KA kn keep) (hkn : kn ≤ 1000000000) (hn : hZ.sz ((a0,x1,x2,x3,x4,x5) : Sess) ≤ 100000000) :
 Calls Tryz.prog 105 #[.agg #[.int .i64 a0,.slice A1 n1 c1,.slice A2 n2 c2,.slice A3 n3 c3,.slice A4 n4 c4,.slice A5 n5 c5],.slice KA kn kc] w fun e w' => ∃ A1' n1' c1' A2' n2' c2' A3' n3' c3' A4' n4' c4' A5' n5' c5',e = .returned (.agg #[.int .i64 a0,.slice A1' n1' c1',.slice A2' n2' c2',.slice A3' n3' c3',.slice A4' n4' c4',.slice A5' n5' c5']) ∧ tZ.O w' (Iv w.heap.size w'.heap.size) [.int .i64 a0,.slice A1' n1' c1',.slice A2' n2' c2',.slice A3' n3' c3',.slice A4' n4' c4',.slice A5' n5' c5'] (a0,x1,zbk keep x2.length x2,x3,x4,x5) ∧ Below w.heap.size w w' := by
 obtain ⟨W_,hW_,B0_,sW_,p0,p1,p2,p3,p4,p5,pf⟩ := zbw w (.int .i64 a0) (.slice A1 n1 c1) (.slice A2 n2 c2) (.slice A3 n3 c3) (.slice A4 n4 c4) (.slice A5 n5 c5) 40
 obtain ⟨W,hW,B1_,sW,r0,r1,r2,r3,r4,r5,rf⟩ := zbw W_ (.int .i64 0) (.slice none 0 0) (.slice none 0 0) (.slice none 0 0) (.slice none 0 0) (.slice none 0 0) 40
 have B0 := zaa B0_ B1_
 rw [hW_] at hW
 clear hW_
 replace p0 : W.cell? ⟨w.heap.size,0,none⟩ = some (.int .i64 a0) := by rw [B1_.cell (by show w.heap.size < _; omega)]; exact p0
 replace p1 : W.cell? ⟨w.heap.size,1,none⟩ = some (.slice A1 n1 c1) := by rw [B1_.cell (by show w.heap.size < _; omega)]; exact p1
 replace p2 : W.cell? ⟨w.heap.size,2,none⟩ = some (.slice A2 n2 c2) := by rw [B1_.cell (by show w.heap.size < _; omega)]; exact p2
 replace p3 : W.cell? ⟨w.heap.size,3,none⟩ = some (.slice A3 n3 c3) := by rw [B1_.cell (by show w.heap.size < _; omega)]; exact p3
 replace p4 : W.cell? ⟨w.heap.size,4,none⟩ = some (.slice A4 n4 c4) := by rw [B1_.cell (by show w.heap.size < _; omega)]; exact p4
 replace p5 : W.cell? ⟨w.heap.size,5,none⟩ = some (.slice A5 n5 c5) := by rw [B1_.cell (by show w.heap.size < _; omega)]; exact p5
 obtain ⟨rb,hrb⟩ : ∃ rb,rb = W_.heap.size := ⟨_,rfl⟩
 have hrb2 : rb = w.heap.size + 1 := by omega
 rw [← hrb] at r0 r1 r2 r3 r4 r5 rf
 clear hrb
 subst hrb2
 have lW : w.heap.size + 1 < W.heap.size := by omega
 clear sW sW_ B0_ B1_ pf
 have HW := Lib.hid hW
 clear hW
 have k1 := tSS.later h1 B0
 have k2 := tTS.later h2 B0
 have k3 := tS.later h3 B0
 have k4 := tPS.later h4 B0
 have k5 := tM.later h5 B0
 have kk := hk_.later B0
 have z2 : x2.length ≤ 100000000 := by rw [zc7] at hn; have e : x2.length + hT.szL x2 = hTS.sz x2 := rfl; omega
 clear h1 h2 h3 h4 h5
 go_enter Tryz.func105,Tryz.ntmps105
 go_wp2_with fail
 rw [← HW.out]
 refine (zuw a0 A1 n1 c1 A2 n2 c2 A3 n3 c3 A4 n4 c4 A5 n5 c5 x1 x2 x3 x4 x5 W k1 k2 k3 k4 k5 hn).mono ?_
 rintro e w1 ⟨A1',n1',c1',A2',n2',c2',A3',n3',c3',A4',n4',c4',A5',n5',c5',rfl,oz,bel1⟩
 have s1 := bel1.size
 obtain ⟨_,_,_,_,_,_,_,_,_,_,_,_,_,_,_,F1,F2,F3,F4,F5,hcs,g1,g2,g3,g4,g5,q1,q2,q3,q4,q5,r1_2,r1_3,r1_4,r1_5,r2_3,r2_4,r2_5,r3_4,r3_5,r4_5⟩ := tZ_O.1 oz
 simp only [List.cons.injEq,Value.slice.injEq,and_true,true_and] at hcs
 obtain ⟨⟨rfl,rfl,rfl⟩,⟨rfl,rfl,rfl⟩,⟨rfl,rfl,rfl⟩,⟨rfl,rfl,rfl⟩,⟨rfl,rfl,rfl⟩⟩ := hcs
 obtain ⟨U,hU,BU,sU,d0,d1,d2,d3,d4,d5,df⟩ := zbw w1 (.int .i64 a0) (.slice A1' n1' c1') (.slice A2' n2' c2') (.slice A3' n3' c3') (.slice A4' n4' c4') (.slice A5' n5' c5') 40
 have HU := Lib.hid hU
 have BWU := zaa bel1 BU
 clear hU oz
 replace g1 := tSS.ochg g1 (Chg.of_below BU (fun _ => False)) (fun _ _ h => h)
 replace g2 := tTS.ochg g2 (Chg.of_below BU (fun _ => False)) (fun _ _ h => h)
 replace g3 := tS.ochg g3 (Chg.of_below BU (fun _ => False)) (fun _ _ h => h)
 replace g4 := tPS.ochg g4 (Chg.of_below BU (fun _ => False)) (fun _ _ h => h)
 replace g5 := tM.ochg g5 (Chg.of_below BU (fun _ => False)) (fun _ _ h => h)
 replace r0 : U.cell? ⟨w.heap.size + 1,0,none⟩ = some (.int .i64 0) := (BWU.cell (by show w.heap.size + 1 < _; omega)).trans r0
 replace r1 : U.cell? ⟨w.heap.size + 1,1,none⟩ = some (.slice none 0 0) := (BWU.cell (by show w.heap.size + 1 < _; omega)).trans r1
 replace r2 : U.cell? ⟨w.heap.size + 1,2,none⟩ = some (.slice none 0 0) := (BWU.cell (by show w.heap.size + 1 < _; omega)).trans r2
 replace r3 : U.cell? ⟨w.heap.size + 1,3,none⟩ = some (.slice none 0 0) := (BWU.cell (by show w.heap.size + 1 < _; omega)).trans r3
 replace r4 : U.cell? ⟨w.heap.size + 1,4,none⟩ = some (.slice none 0 0) := (BWU.cell (by show w.heap.size + 1 < _; omega)).trans r4
 replace r5 : U.cell? ⟨w.heap.size + 1,5,none⟩ = some (.slice none 0 0) := (BWU.cell (by show w.heap.size + 1 < _; omega)).trans r5
 replace rf : ∀ j,U.frozen? ⟨w.heap.size + 1,j,none⟩ = false := fun j => (BWU.frozen (by show w.heap.size + 1 < _; omega)).trans (rf j)
 have kU := kk.later BWU
 have ln2 := Lib.hid (sl_O.1 g2).read.cap.1
 have gF2 : ∀ b,F2 b → W.heap.size ≤ b ∧ b < w1.heap.size := fun b hb => q2 b hb
 have bn2' : n2' ≤ 100000000 := by have := ln2.out; omega
 go_wp2_with fail
 rw [← HU.out]
 go_loopw [12] (fun i wr => ∃ k : Nat,i = .int .i64 k ∧ k ≤ n2' ∧ OS tT 89 wr F2 (.slice A2' n2' c2') (zbk keep k x2) ∧ Chg F2 U wr) (fun i _ => n2' - (intOf i).toNat)
 case atStart => exact ⟨0,rfl,by omega,by rw [znp]; exact sl_O.1 g2,Chg.refl _ _⟩
 case round =>
  obtain ⟨k,rfl,hk,own,ch⟩ := hrel
  have sr := ch.size
  have Bwr : Below W.heap.size W wr := BWU.trans (ch.toBelow (fun b hb => (gF2 b hb).1) (by omega))
  have D2 : wr.cell? ⟨w1.heap.size,2,none⟩ = some (.slice A2' n2' c2') := (ch.cell (by omega) (fun h => by have := gF2 _ h; omega)).trans d2
  have kw : RI wr wr.heap.size KA kn keep := kk.later Bwr
  by_cases hlt : k < n2'
  · have hX := Lib.hid (List.getElem?_eq_getElem (show k < x2.length by rw [ln2.out]; exact hlt))
    generalize x2[k]'(by rw [ln2.out]; exact hlt) = x at hX
    cases hm : zap keep (k : Int)
    · have HM := Lib.hid hm
      have Q := Lib.hid (zns x2 hm)
      clear hm
      obtain ⟨css,Fs,hole,cs,hcs,hE⟩ := own.openAt (znq (keep := keep) hX.out)
      obtain ⟨A0,n0,c0,rfl⟩ := za6 (tT.read hE)
      obtain ⟨g2_,rfl,hgF,hgn,hgl,-⟩ := hole.form (by rw [zg5,ln2.out]; exact hlt)
      have c0_ := (hole.cell hcs (j := 0) rfl).1
      have f0_ := (hole.cell hcs (j := 0) rfl).2
      change wr.cell? ⟨g2_,k * 1 + 0,none⟩ = _ at c0_
      change wr.frozen? ⟨g2_,k * 1 + 0,none⟩ = _ at f0_
      rw [Nat.add_zero,Nat.mul_one] at c0_ f0_
      go_wp2_with (go_at_call 145; refine (zno _ _ _ _ _ _ kw (by omega)).mono ?_; rw [HM.out]; rintro e w2 ⟨rfl,rfl⟩)
      go_roundw
      case rel =>
       have s0 := hole.set hcs 0 (by decide) (.slice none 0 0)
       have h3 := s0.1.fill s0.2 (y := []) (sl_O.2 (OS.nil _ _ _ _))
       rw [Nat.add_zero,show tT.s = 1 from rfl,Nat.mul_one] at h3
       exact ⟨k + 1,by go_num,by omega,by rw [Q.out]; exact h3,ch.trans (Chg.set _ g2_ k _ hgF)⟩
      case measure => simp [intOf]; omega
    · have HM := Lib.hid hm
      have Q := Lib.hid (znr x2 hm)
      clear hm
      go_wp2_with (go_at_call 145; refine (zno _ _ _ _ _ _ kw (by omega)).mono ?_; rw [HM.out]; rintro e w2 ⟨rfl,rfl⟩)
      go_roundw
      case rel => exact ⟨k + 1,by go_num,by omega,by rw [Q.out]; exact own,ch⟩
      case measure => simp [intOf]; omega
  · obtain rfl : k = n2' := by omega
    have D0 : wr.cell? ⟨w1.heap.size,0,none⟩ = some (.int .i64 a0) := (ch.cell (by omega) (fun h => by have := gF2 _ h; omega)).trans d0
    have D1 : wr.cell? ⟨w1.heap.size,1,none⟩ = some (.slice A1' n1' c1') := (ch.cell (by omega) (fun h => by have := gF2 _ h; omega)).trans d1
    have D3 : wr.cell? ⟨w1.heap.size,3,none⟩ = some (.slice A3' n3' c3') := (ch.cell (by omega) (fun h => by have := gF2 _ h; omega)).trans d3
    have D4 : wr.cell? ⟨w1.heap.size,4,none⟩ = some (.slice A4' n4' c4') := (ch.cell (by omega) (fun h => by have := gF2 _ h; omega)).trans d4
    have D5 : wr.cell? ⟨w1.heap.size,5,none⟩ = some (.slice A5' n5' c5') := (ch.cell (by omega) (fun h => by have := gF2 _ h; omega)).trans d5
    have R0 : wr.cell? ⟨w.heap.size + 1,0,none⟩ = some (.int .i64 0) := (ch.cell (by omega) (fun h => by have := gF2 _ h; omega)).trans r0
    have R1 : wr.cell? ⟨w.heap.size + 1,1,none⟩ = some (.slice none 0 0) := (ch.cell (by omega) (fun h => by have := gF2 _ h; omega)).trans r1
    have R2 : wr.cell? ⟨w.heap.size + 1,2,none⟩ = some (.slice none 0 0) := (ch.cell (by omega) (fun h => by have := gF2 _ h; omega)).trans r2
    have R3 : wr.cell? ⟨w.heap.size + 1,3,none⟩ = some (.slice none 0 0) := (ch.cell (by omega) (fun h => by have := gF2 _ h; omega)).trans r3
    have R4 : wr.cell? ⟨w.heap.size + 1,4,none⟩ = some (.slice none 0 0) := (ch.cell (by omega) (fun h => by have := gF2 _ h; omega)).trans r4
    have R5 : wr.cell? ⟨w.heap.size + 1,5,none⟩ = some (.slice none 0 0) := (ch.cell (by omega) (fun h => by have := gF2 _ h; omega)).trans r5
    have RF : ∀ j,wr.frozen? ⟨w.heap.size + 1,j,none⟩ = false := fun j => (ch.frozen (by omega) (fun h => by have := gF2 _ h; omega)).trans (rf j)
    have RF0 := RF 0
    have RF1 := RF 1
    have RF2 := RF 2
    have RF3 := RF 3
    have RF4 := RF 4
    have RF5 := RF 5
    obtain ⟨U_,hU_,y0,y1,y2,y3,y4,y5,yf,ych,ysz⟩ := box6 R0 R1 R2 R3 R4 R5 RF (.int .i64 a0) (.slice A1' n1' c1') (.slice A2' k c2') (.slice A3' n3' c3') (.slice A4' n4' c4') (.slice A5' n5' c5')
    have HU_ := Lib.hid hU_
    clear hU_
    go_wp2
    rw [← HU_.out]
    have yf0 := yf 0
    have yf1 := yf 1
    have yf2 := yf 2
    have yf3 := yf 3
    have yf4 := yf 4
    have yf5 := yf 5
    refine bodyPost_ret (v := .agg #[.int .i64 a0,.slice A1' n1' c1',.slice A2' k c2',.slice A3' n3' c3',.slice A4' n4' c4',.slice A5' n5' c5']) (by simp [results,Tryz.results105,go_sem,y0,y1,y2,y3,y4,y5,yf0,yf1,yf2,yf3,yf4,yf5]) rfl ?_
    have eM : zbk keep x2.length x2 = zbk keep k x2 := by rw [ln2.out]
    rw [← eM] at own
    have hE_ : ∀ b,(Iv W.heap.size w1.heap.size) b → ¬ b = w.heap.size + 1 := fun b hb e => by have := hb.1; omega
    have ey : U_.heap.size = wr.heap.size := ysz
    refine ⟨A1',n1',c1',A2',k,c2',A3',n3',c3',A4',n4',c4',A5',n5',c5',rfl,tZ_O.2 ⟨_,_,_,_,_,_,_,_,_,_,_,_,_,_,_,F1,F2,F3,F4,F5,rfl,tSS.ochg (tSS.ochg g1 ch (fun b h h2 => r1_2 b h h2)) ych (fun b hb => hE_ b (q1 b hb)),tTS.ochg (sl_O.2 own) ych (fun b hb => hE_ b (q2 b hb)),tS.ochg (tS.ochg g3 ch (fun b h h2 => r2_3 b h2 h)) ych (fun b hb => hE_ b (q3 b hb)),tPS.ochg (tPS.ochg g4 ch (fun b h h2 => r2_4 b h2 h)) ych (fun b hb => hE_ b (q4 b hb)),tM.ochg (tM.ochg g5 ch (fun b h h2 => r2_5 b h2 h)) ych (fun b hb => hE_ b (q5 b hb)),fun b hb => Iv.mono (by omega) (by omega) b (q1 b hb),fun b hb => Iv.mono (by omega) (by omega) b (q2 b hb),fun b hb => Iv.mono (by omega) (by omega) b (q3 b hb),fun b hb => Iv.mono (by omega) (by omega) b (q4 b hb),fun b hb => Iv.mono (by omega) (by omega) b (q5 b hb),r1_2,r1_3,r1_4,r1_5,r2_3,r2_4,r2_5,r3_4,r3_5,r4_5⟩,?_⟩
    exact (zaa B0 Bwr).trans (ych.toBelow (fun b (hb : b = _) => by omega) (by omega))
theorem zuz (vb : Nat) (a0 : Int) (A1 : Option Addr) (n1 c1 : Nat) (A2 : Option Addr) (n2 c2 : Nat) (A3 : Option Addr) (n3 c3 : Nat) (A4 : Option Addr) (n4 c4 : Nat) (A5 : Option Addr) (n5 c5 : Nat) (x1 : List (List Int)) (x2 : List (List zag)) (x3 : List Int) (x4 : List zad) (x5 : List zae) (KA : Option Addr) (kn kc : Nat) (keep : List Int) (w : World) (e0 : w.cell? ⟨vb,0,none⟩ = some (.int .i64 a0)) (e1 : w.cell? ⟨vb,1,none⟩ = some (.slice A1 n1 c1)) (e2 : w.cell? ⟨vb,2,none⟩ = some (.slice A2 n2 c2)) (e3 : w.cell? ⟨vb,3,none⟩ = some (.slice A3 n3 c3)) (e4 : w.cell? ⟨vb,4,none⟩ = some (.slice A4 n4 c4)) (e5 : w.cell? ⟨vb,5,none⟩ = some (.slice A5 n5 c5)) (h1 : tSS.R w w.heap.size [.slice A1 n1 c1] x1) (h2 : tTS.R w w.heap.size [.slice A2 n2 c2] x2) (h3 : tS.R w w.heap.size [.slice A3 n3 c3] x3) (h4 : tPS.R w w.heap.size [.slice A4 n4 c4] x4) (h5 : tM.R w w.heap.size [.slice A5 n5 c5] x5) (hk_ : RI w w.heap.size KA kn keep) (hkn : kn ≤ 1000000000) (hn : hZ.sz ((a0,x1,x2,x3,x4,x5) : Sess) ≤ 100000000) :
 Calls Tryz.prog 104 #[.pointer (some ⟨vb,0,none⟩),.slice KA kn kc] w fun e w' => ∃ A1' n1' c1' A2' n2' c2' A3' n3' c3' A4' n4' c4' A5' n5' c5',e = .returned (.agg #[.int .i64 a0,.slice A1' n1' c1',.slice A2' n2' c2',.slice A3' n3' c3',.slice A4' n4' c4',.slice A5' n5' c5']) ∧ tZ.O w' (Iv w.heap.size w'.heap.size) [.int .i64 a0,.slice A1' n1' c1',.slice A2' n2' c2',.slice A3' n3' c3',.slice A4' n4' c4',.slice A5' n5' c5'] (a0,x1,zbk keep x2.length x2,x3,x4,x5) ∧ Below w.heap.size w w' := by
 have lv0 : vb < w.heap.size := World.block_lt_of_cell? w _ e0
 obtain ⟨W,hW,B0,sW,r0,r1,r2,r3,r4,r5,rf⟩ := zbw w (.int .i64 0) (.slice none 0 0) (.slice none 0 0) (.slice none 0 0) (.slice none 0 0) (.slice none 0 0) 40
 have lW : w.heap.size < W.heap.size := by omega
 clear sW
 have p0 : W.cell? ⟨vb,0,none⟩ = some (.int .i64 a0) := by rw [B0.cell (by show vb < _; omega)]; exact e0
 have p1 : W.cell? ⟨vb,1,none⟩ = some (.slice A1 n1 c1) := by rw [B0.cell (by show vb < _; omega)]; exact e1
 have p2 : W.cell? ⟨vb,2,none⟩ = some (.slice A2 n2 c2) := by rw [B0.cell (by show vb < _; omega)]; exact e2
 have p3 : W.cell? ⟨vb,3,none⟩ = some (.slice A3 n3 c3) := by rw [B0.cell (by show vb < _; omega)]; exact e3
 have p4 : W.cell? ⟨vb,4,none⟩ = some (.slice A4 n4 c4) := by rw [B0.cell (by show vb < _; omega)]; exact e4
 have p5 : W.cell? ⟨vb,5,none⟩ = some (.slice A5 n5 c5) := by rw [B0.cell (by show vb < _; omega)]; exact e5
 clear e0 e1 e2 e3 e4 e5
 have HW := Lib.hid hW
 clear hW
 have k1 := tSS.later h1 B0
 have k2 := tTS.later h2 B0
 have k3 := tS.later h3 B0
 have k4 := tPS.later h4 B0
 have k5 := tM.later h5 B0
 have kk := hk_.later B0
 have z2 : x2.length ≤ 100000000 := by rw [zc7] at hn; have e : x2.length + hT.szL x2 = hTS.sz x2 := rfl; omega
 clear h1 h2 h3 h4 h5
 go_enter Tryz.func104,Tryz.ntmps104
 go_wp2_with fail
 rw [← HW.out]
 refine (zux vb a0 A1 n1 c1 A2 n2 c2 A3 n3 c3 A4 n4 c4 A5 n5 c5 x1 x2 x3 x4 x5 W p0 p1 p2 p3 p4 p5 k1 k2 k3 k4 k5 hn).mono ?_
 rintro e w1 ⟨A1',n1',c1',A2',n2',c2',A3',n3',c3',A4',n4',c4',A5',n5',c5',rfl,oz,bel1⟩
 have s1 := bel1.size
 obtain ⟨_,_,_,_,_,_,_,_,_,_,_,_,_,_,_,F1,F2,F3,F4,F5,hcs,g1,g2,g3,g4,g5,q1,q2,q3,q4,q5,r1_2,r1_3,r1_4,r1_5,r2_3,r2_4,r2_5,r3_4,r3_5,r4_5⟩ := tZ_O.1 oz
 simp only [List.cons.injEq,Value.slice.injEq,and_true,true_and] at hcs
 obtain ⟨⟨rfl,rfl,rfl⟩,⟨rfl,rfl,rfl⟩,⟨rfl,rfl,rfl⟩,⟨rfl,rfl,rfl⟩,⟨rfl,rfl,rfl⟩⟩ := hcs
 obtain ⟨U,hU,BU,sU,d0,d1,d2,d3,d4,d5,df⟩ := zbw w1 (.int .i64 a0) (.slice A1' n1' c1') (.slice A2' n2' c2') (.slice A3' n3' c3') (.slice A4' n4' c4') (.slice A5' n5' c5') 40
 have HU := Lib.hid hU
 have BWU := zaa bel1 BU
 clear hU oz
 replace g1 := tSS.ochg g1 (Chg.of_below BU (fun _ => False)) (fun _ _ h => h)
 replace g2 := tTS.ochg g2 (Chg.of_below BU (fun _ => False)) (fun _ _ h => h)
 replace g3 := tS.ochg g3 (Chg.of_below BU (fun _ => False)) (fun _ _ h => h)
 replace g4 := tPS.ochg g4 (Chg.of_below BU (fun _ => False)) (fun _ _ h => h)
 replace g5 := tM.ochg g5 (Chg.of_below BU (fun _ => False)) (fun _ _ h => h)
 replace r0 : U.cell? ⟨w.heap.size,0,none⟩ = some (.int .i64 0) := (BWU.cell (by show w.heap.size < _; omega)).trans r0
 replace r1 : U.cell? ⟨w.heap.size,1,none⟩ = some (.slice none 0 0) := (BWU.cell (by show w.heap.size < _; omega)).trans r1
 replace r2 : U.cell? ⟨w.heap.size,2,none⟩ = some (.slice none 0 0) := (BWU.cell (by show w.heap.size < _; omega)).trans r2
 replace r3 : U.cell? ⟨w.heap.size,3,none⟩ = some (.slice none 0 0) := (BWU.cell (by show w.heap.size < _; omega)).trans r3
 replace r4 : U.cell? ⟨w.heap.size,4,none⟩ = some (.slice none 0 0) := (BWU.cell (by show w.heap.size < _; omega)).trans r4
 replace r5 : U.cell? ⟨w.heap.size,5,none⟩ = some (.slice none 0 0) := (BWU.cell (by show w.heap.size < _; omega)).trans r5
 replace rf : ∀ j,U.frozen? ⟨w.heap.size,j,none⟩ = false := fun j => (BWU.frozen (by show w.heap.size < _; omega)).trans (rf j)
 have kU := kk.later BWU
 have ln2 := Lib.hid (sl_O.1 g2).read.cap.1
 have gF2 : ∀ b,F2 b → W.heap.size ≤ b ∧ b < w1.heap.size := fun b hb => q2 b hb
 have bn2' : n2' ≤ 100000000 := by have := ln2.out; omega
 go_wp2_with fail
 rw [← HU.out]
 go_loopw [6] (fun i wr => ∃ k : Nat,i = .int .i64 k ∧ k ≤ n2' ∧ OS tT 89 wr F2 (.slice A2' n2' c2') (zbk keep k x2) ∧ Chg F2 U wr) (fun i _ => n2' - (intOf i).toNat)
 case atStart => exact ⟨0,rfl,by omega,by rw [znp]; exact sl_O.1 g2,Chg.refl _ _⟩
 case round =>
  obtain ⟨k,rfl,hk,own,ch⟩ := hrel
  have sr := ch.size
  have Bwr : Below W.heap.size W wr := BWU.trans (ch.toBelow (fun b hb => (gF2 b hb).1) (by omega))
  have D2 : wr.cell? ⟨w1.heap.size,2,none⟩ = some (.slice A2' n2' c2') := (ch.cell (by omega) (fun h => by have := gF2 _ h; omega)).trans d2
  have kw : RI wr wr.heap.size KA kn keep := kk.later Bwr
  by_cases hlt : k < n2'
  · have hX := Lib.hid (List.getElem?_eq_getElem (show k < x2.length by rw [ln2.out]; exact hlt))
    generalize x2[k]'(by rw [ln2.out]; exact hlt) = x at hX
    cases hm : zap keep (k : Int)
    · have HM := Lib.hid hm
      have Q := Lib.hid (zns x2 hm)
      clear hm
      obtain ⟨css,Fs,hole,cs,hcs,hE⟩ := own.openAt (znq (keep := keep) hX.out)
      obtain ⟨A0,n0,c0,rfl⟩ := za6 (tT.read hE)
      obtain ⟨g2_,rfl,hgF,hgn,hgl,-⟩ := hole.form (by rw [zg5,ln2.out]; exact hlt)
      have c0_ := (hole.cell hcs (j := 0) rfl).1
      have f0_ := (hole.cell hcs (j := 0) rfl).2
      change wr.cell? ⟨g2_,k * 1 + 0,none⟩ = _ at c0_
      change wr.frozen? ⟨g2_,k * 1 + 0,none⟩ = _ at f0_
      rw [Nat.add_zero,Nat.mul_one] at c0_ f0_
      go_wp2_with (go_at_call 143; refine (zd9 _ _ _ _ _ _ kw (by omega)).mono ?_; rw [HM.out]; rintro e w2 ⟨rfl,rfl⟩)
      go_roundw
      case rel =>
       have s0 := hole.set hcs 0 (by decide) (.slice none 0 0)
       have h3 := s0.1.fill s0.2 (y := []) (sl_O.2 (OS.nil _ _ _ _))
       rw [Nat.add_zero,show tT.s = 1 from rfl,Nat.mul_one] at h3
       exact ⟨k + 1,by go_num,by omega,by rw [Q.out]; exact h3,ch.trans (Chg.set _ g2_ k _ hgF)⟩
      case measure => simp [intOf]; omega
    · have HM := Lib.hid hm
      have Q := Lib.hid (znr x2 hm)
      clear hm
      go_wp2_with (go_at_call 143; refine (zd9 _ _ _ _ _ _ kw (by omega)).mono ?_; rw [HM.out]; rintro e w2 ⟨rfl,rfl⟩)
      go_roundw
      case rel => exact ⟨k + 1,by go_num,by omega,by rw [Q.out]; exact own,ch⟩
      case measure => simp [intOf]; omega
  · obtain rfl : k = n2' := by omega
    have D0 : wr.cell? ⟨w1.heap.size,0,none⟩ = some (.int .i64 a0) := (ch.cell (by omega) (fun h => by have := gF2 _ h; omega)).trans d0
    have D1 : wr.cell? ⟨w1.heap.size,1,none⟩ = some (.slice A1' n1' c1') := (ch.cell (by omega) (fun h => by have := gF2 _ h; omega)).trans d1
    have D3 : wr.cell? ⟨w1.heap.size,3,none⟩ = some (.slice A3' n3' c3') := (ch.cell (by omega) (fun h => by have := gF2 _ h; omega)).trans d3
    have D4 : wr.cell? ⟨w1.heap.size,4,none⟩ = some (.slice A4' n4' c4') := (ch.cell (by omega) (fun h => by have := gF2 _ h; omega)).trans d4
    have D5 : wr.cell? ⟨w1.heap.size,5,none⟩ = some (.slice A5' n5' c5') := (ch.cell (by omega) (fun h => by have := gF2 _ h; omega)).trans d5
    have R0 : wr.cell? ⟨w.heap.size,0,none⟩ = some (.int .i64 0) := (ch.cell (by omega) (fun h => by have := gF2 _ h; omega)).trans r0
    have R1 : wr.cell? ⟨w.heap.size,1,none⟩ = some (.slice none 0 0) := (ch.cell (by omega) (fun h => by have := gF2 _ h; omega)).trans r1
    have R2 : wr.cell? ⟨w.heap.size,2,none⟩ = some (.slice none 0 0) := (ch.cell (by omega) (fun h => by have := gF2 _ h; omega)).trans r2
    have R3 : wr.cell? ⟨w.heap.size,3,none⟩ = some (.slice none 0 0) := (ch.cell (by omega) (fun h => by have := gF2 _ h; omega)).trans r3
    have R4 : wr.cell? ⟨w.heap.size,4,none⟩ = some (.slice none 0 0) := (ch.cell (by omega) (fun h => by have := gF2 _ h; omega)).trans r4
    have R5 : wr.cell? ⟨w.heap.size,5,none⟩ = some (.slice none 0 0) := (ch.cell (by omega) (fun h => by have := gF2 _ h; omega)).trans r5
    have RF : ∀ j,wr.frozen? ⟨w.heap.size,j,none⟩ = false := fun j => (ch.frozen (by omega) (fun h => by have := gF2 _ h; omega)).trans (rf j)
    have RF0 := RF 0
    have RF1 := RF 1
    have RF2 := RF 2
    have RF3 := RF 3
    have RF4 := RF 4
    have RF5 := RF 5
    obtain ⟨U_,hU_,y0,y1,y2,y3,y4,y5,yf,ych,ysz⟩ := box6 R0 R1 R2 R3 R4 R5 RF (.int .i64 a0) (.slice A1' n1' c1') (.slice A2' k c2') (.slice A3' n3' c3') (.slice A4' n4' c4') (.slice A5' n5' c5')
    have HU_ := Lib.hid hU_
    clear hU_
    go_wp2
    rw [← HU_.out]
    have yf0 := yf 0
    have yf1 := yf 1
    have yf2 := yf 2
    have yf3 := yf 3
    have yf4 := yf 4
    have yf5 := yf 5
    refine bodyPost_ret (v := .agg #[.int .i64 a0,.slice A1' n1' c1',.slice A2' k c2',.slice A3' n3' c3',.slice A4' n4' c4',.slice A5' n5' c5']) (by simp [results,Tryz.results104,go_sem,y0,y1,y2,y3,y4,y5,yf0,yf1,yf2,yf3,yf4,yf5]) rfl ?_
    have eM : zbk keep x2.length x2 = zbk keep k x2 := by rw [ln2.out]
    rw [← eM] at own
    have hE_ : ∀ b,(Iv W.heap.size w1.heap.size) b → ¬ b = w.heap.size := fun b hb e => by have := hb.1; omega
    have ey : U_.heap.size = wr.heap.size := ysz
    refine ⟨A1',n1',c1',A2',k,c2',A3',n3',c3',A4',n4',c4',A5',n5',c5',rfl,tZ_O.2 ⟨_,_,_,_,_,_,_,_,_,_,_,_,_,_,_,F1,F2,F3,F4,F5,rfl,tSS.ochg (tSS.ochg g1 ch (fun b h h2 => r1_2 b h h2)) ych (fun b hb => hE_ b (q1 b hb)),tTS.ochg (sl_O.2 own) ych (fun b hb => hE_ b (q2 b hb)),tS.ochg (tS.ochg g3 ch (fun b h h2 => r2_3 b h2 h)) ych (fun b hb => hE_ b (q3 b hb)),tPS.ochg (tPS.ochg g4 ch (fun b h h2 => r2_4 b h2 h)) ych (fun b hb => hE_ b (q4 b hb)),tM.ochg (tM.ochg g5 ch (fun b h h2 => r2_5 b h2 h)) ych (fun b hb => hE_ b (q5 b hb)),fun b hb => Iv.mono (by omega) (by omega) b (q1 b hb),fun b hb => Iv.mono (by omega) (by omega) b (q2 b hb),fun b hb => Iv.mono (by omega) (by omega) b (q3 b hb),fun b hb => Iv.mono (by omega) (by omega) b (q4 b hb),fun b hb => Iv.mono (by omega) (by omega) b (q5 b hb),r1_2,r1_3,r1_4,r1_5,r2_3,r2_4,r2_5,r3_4,r3_5,r4_5⟩,?_⟩
    exact (zaa B0 Bwr).trans (ych.toBelow (fun b (hb : b = _) => by omega) (by omega))
end
section
open Go.RowKit Go.Sort
set_option synthInstance.maxSize 2000
set_option synthInstance.maxHeartbeats 400000
instance decTracks : DecidableEq (List (List zag)) := inferInstance
instance decPatch : DecidableEq zad := inferInstance
instance decPatches : DecidableEq (List zad) := inferInstance
instance decStrips : DecidableEq (List zae) := inferInstance
instance decSess5 : DecidableEq (List zad × List zae) := inferInstance
instance decSess4 : DecidableEq (List Int × List zad × List zae) := inferInstance
instance decSess3 : DecidableEq (List (List zag) × List Int × List zad × List zae) := inferInstance
instance decSess : DecidableEq Sess := inferInstance
end
section
open Go.RowKit
theorem zf6 (p : Int) (A : Option Addr) (n c : Nat) (Ab : Option Addr) (nb cb : Nat) (Ac : Option Addr) (nc cc : Nat) (Ad : Option Addr) (nd cd : Nat) (Ae : Option Addr) (ne ce : Nat) (x : Sess) (l : Int) (w : World) (hx : tZ.R w w.heap.size [.int .i64 p,.slice A n c,.slice Ab nb cb,.slice Ac nc cc,.slice Ad nd cd,.slice Ae ne ce] x) (hl : 0 ≤ l ∧ l ≤ 1000000000) :
 Calls Tryz.prog 8 #[.agg #[.int .i64 p,.slice A n c,.slice Ab nb cb,.slice Ac nc cc,.slice Ad nd cd,.slice Ae ne ce],.int .i64 l] w fun e w' => e = .returned (.int .i64 (if (hZ.sz x : Int) ≤ l then l - hZ.sz x else -1)) ∧ Below w.heap.size w w' := by
 obtain ⟨a0,x1,x2,x3,x4,x5⟩ := x
 obtain ⟨A1,n1,c1,A2,n2,c2,A3,n3,c3,A4,n4,c4,A5,n5,c5,hcs,h1,h2,h3,h4,h5⟩ := tZ_R.1 hx
 simp only [List.cons.injEq,Value.int.injEq,Value.slice.injEq,true_and,and_true] at hcs
 obtain ⟨rfl,⟨rfl,rfl,rfl⟩,⟨rfl,rfl,rfl⟩,⟨rfl,rfl,rfl⟩,⟨rfl,rfl,rfl⟩,⟨rfl,rfl,rfl⟩⟩ := hcs
 exact zqb _ _ _ _ _ _ _ _ _ _ _ _ _ _ _ _ _ _ _ _ _ _ _ h1 h2 h3 h4 h5 hl
theorem zdw (p : Int) (A : Option Addr) (n c : Nat) (Ab : Option Addr) (nb cb : Nat) (Ac : Option Addr) (nc cc : Nat) (Ad : Option Addr) (nd cd : Nat) (Ae : Option Addr) (ne ce : Nat) (x : Sess) (w : World) (hx : tZ.R w w.heap.size [.int .i64 p,.slice A n c,.slice Ab nb cb,.slice Ac nc cc,.slice Ad nd cd,.slice Ae ne ce] x) (hn : hZ.sz x ≤ 100000000) :
 Calls Tryz.prog 10 #[.agg #[.int .i64 p,.slice A n c,.slice Ab nb cb,.slice Ac nc cc,.slice Ad nd cd,.slice Ae ne ce]] w fun e w' => ∃ p' A' n' c' Ab' nb' cb' Ac' nc' cc' Ad' nd' cd' Ae' ne' ce',e = .returned (.agg #[.int .i64 p',.slice A' n' c',.slice Ab' nb' cb',.slice Ac' nc' cc',.slice Ad' nd' cd',.slice Ae' ne' ce']) ∧ tZ.O w' (Iv w.heap.size w'.heap.size) [.int .i64 p',.slice A' n' c',.slice Ab' nb' cb',.slice Ac' nc' cc',.slice Ad' nd' cd',.slice Ae' ne' ce'] x ∧ Below w.heap.size w w' := by
 obtain ⟨a0,x1,x2,x3,x4,x5⟩ := x
 obtain ⟨A1,n1,c1,A2,n2,c2,A3,n3,c3,A4,n4,c4,A5,n5,c5,hcs,h1,h2,h3,h4,h5⟩ := tZ_R.1 hx
 simp only [List.cons.injEq,Value.int.injEq,Value.slice.injEq,true_and,and_true] at hcs
 obtain ⟨rfl,⟨rfl,rfl,rfl⟩,⟨rfl,rfl,rfl⟩,⟨rfl,rfl,rfl⟩,⟨rfl,rfl,rfl⟩,⟨rfl,rfl,rfl⟩⟩ := hcs
 refine (zqd _ _ _ _ _ _ _ _ _ _ _ _ _ _ _ _ _ _ _ _ _ _ h1 h2 h3 h4 h5 hn).mono ?_
 rintro e w' ⟨B1,m1,d1,B2,m2,d2,B3,m3,d3,B4,m4,d4,B5,m5,d5,rfl,o,bel⟩
 exact ⟨_,_,_,_,_,_,_,_,_,_,_,_,_,_,_,_,rfl,o,bel⟩
theorem zj0 (p : Int) (A : Option Addr) (n c : Nat) (Ab : Option Addr) (nb cb : Nat) (Ac : Option Addr) (nc cc : Nat) (Ad : Option Addr) (nd cd : Nat) (Ae : Option Addr) (ne ce : Nat) (p' : Int) (A' : Option Addr) (n' c' : Nat) (Ab' : Option Addr) (nb' cb' : Nat) (Ac' : Option Addr) (nc' cc' : Nat) (Ad' : Option Addr) (nd' cd' : Nat) (Ae' : Option Addr) (ne' ce' : Nat) (x : Sess) (w : World) (hx : tZ.R w w.heap.size [.int .i64 p,.slice A n c,.slice Ab nb cb,.slice Ac nc cc,.slice Ad nd cd,.slice Ae ne ce] x) (hy : tZ.R w w.heap.size [.int .i64 p',.slice A' n' c',.slice Ab' nb' cb',.slice Ac' nc' cc',.slice Ad' nd' cd',.slice Ae' ne' ce'] x) (hn : hZ.sz x ≤ 100000000) :
 Calls Tryz.prog 13 #[.agg #[.int .i64 p,.slice A n c,.slice Ab nb cb,.slice Ac nc cc,.slice Ad nd cd,.slice Ae ne ce],.agg #[.int .i64 p',.slice A' n' c',.slice Ab' nb' cb',.slice Ac' nc' cc',.slice Ad' nd' cd',.slice Ae' ne' ce']] w fun e w' => e = .returned (.bool true) ∧ Below w.heap.size w w' := by
 obtain ⟨a0,x1,x2,x3,x4,x5⟩ := x
 obtain ⟨A1,n1,c1,A2,n2,c2,A3,n3,c3,A4,n4,c4,A5,n5,c5,hcs,h1,h2,h3,h4,h5⟩ := tZ_R.1 hx
 simp only [List.cons.injEq,Value.int.injEq,Value.slice.injEq,true_and,and_true] at hcs
 obtain ⟨rfl,⟨rfl,rfl,rfl⟩,⟨rfl,rfl,rfl⟩,⟨rfl,rfl,rfl⟩,⟨rfl,rfl,rfl⟩,⟨rfl,rfl,rfl⟩⟩ := hcs
 obtain ⟨A1',n1',c1',A2',n2',c2',A3',n3',c3',A4',n4',c4',A5',n5',c5',hcs',k1,k2,k3,k4,k5⟩ := tZ_R.1 hy
 simp only [List.cons.injEq,Value.int.injEq,Value.slice.injEq,true_and,and_true] at hcs'
 obtain ⟨rfl,⟨rfl,rfl,rfl⟩,⟨rfl,rfl,rfl⟩,⟨rfl,rfl,rfl⟩,⟨rfl,rfl,rfl⟩,⟨rfl,rfl,rfl⟩⟩ := hcs'
 exact zqc _ _ _ _ _ _ _ _ _ _ _ _ _ _ _ _ _ _ _ _ _ _ _ _ _ _ _ _ _ _ _ _ _ _ _ _ _  h1 h2 h3 h4 h5 k1 k2 k3 k4 k5 hn
end
section
open Go.RowKit
end
section
open Go.RowKit Go.Sort
theorem zu0 (k : Int) (a0 : Int) (x1 : List (List Int)) (x2 : List (List zag)) (x3 : List Int) (x4 : List zad) (x5 : List zae) : hZ.mark k (a0,x1,x2,x3,x4,x5) = (a0,hSS.mark k x1,hTS.mark (k + hSS.cnt x1) x2,hS.mark (k + hSS.cnt x1 + hTS.cnt x2) x3,hPS.mark (k + hSS.cnt x1 + hTS.cnt x2 + hS.cnt x3) x4,hM.mark (k + hSS.cnt x1 + hTS.cnt x2 + hS.cnt x3 + hPS.cnt x4) x5) := by
 have e : k + ((0 : Nat) : Int) = k := by simp
 show (a0,hSS.mark (k + ((0 : Nat) : Int)) x1,hTS.mark (k + ((0 : Nat) : Int) + hSS.cnt x1) x2,hS.mark (k + ((0 : Nat) : Int) + hSS.cnt x1 + hTS.cnt x2) x3,hPS.mark (k + ((0 : Nat) : Int) + hSS.cnt x1 + hTS.cnt x2 + hS.cnt x3) x4,hM.mark (k + ((0 : Nat) : Int) + hSS.cnt x1 + hTS.cnt x2 + hS.cnt x3 + hPS.cnt x4) x5) = _
 rw [e]
end
section
open Go.RowKit
theorem OH.at {α : Type} {t : Ty α} {e : TypeId} {w U : World} {F : Nat → Prop} {v : Value} {xs : List α} {css : List (List Value)} {Fs : Nat → Nat → Prop} {k : Nat} (h : OH t e w F v xs css Fs k) (hU : U = w) : OH t e U F v xs css Fs k := hU ▸ h
theorem zva (A : Option Addr) (n c : Nat) (k : Int) (xs : List Node) (w : World) (F : Nat → Prop) (hx : tNS.O w F [.slice A n c] xs) (hk : 0 ≤ k ∧ k + (hNS.cnt xs : Int) ≤ 1000000000) :
 Calls Tryz.prog 86 #[.slice A n c,.int .i64 k] w fun e w' => e = .returned (.int .i64 (k + hNS.cnt xs)) ∧ tNS.O w' F [.slice A n c] (hNS.mark k xs) ∧ Chg F w w' := by
 have ow := sl_O.1 hx
 have hcap := ow.read.cap
 obtain rfl : xs.length = n := hcap.1
 have hl : xs.length ≤ 9223372036854775807 := by have h1 := hcap.2; unfold maxLen at h1; omega
 clear hcap
 have hcn : k + (hN.cntL xs : Int) ≤ 1000000000 := hk.2
 clear hx
 go_enter Tryz.func86,Tryz.ntmps86
 go_wp2
 go_loopw [1,5] (fun q i wr => ∃ j : Nat,i = .int .i64 j ∧ j ≤ xs.length ∧ q = .int .i64 (k + (hN.cntL (xs.take j) : Int)) ∧ OS tN 171 wr F (.slice A xs.length c) ((hN.mkL k xs).take j ++ xs.drop j) ∧ Chg F w wr)
  (fun _ i _ => xs.length - (intOf i).toNat)
 case atStart => exact ⟨0,rfl,by omega,by simp [Hs.cntL],by simpa using ow,Chg.refl _ _⟩
 case round =>
  obtain ⟨j,rfl,hj,rfl,own,hg⟩ := hrel
  by_cases hlt : j < xs.length
  · have hml := Lib.hid (hN.mkL_len k xs)
    have hX := Lib.hid (List.getElem?_eq_getElem hlt)
    have hc1 := hN.cntL_at hX.out
    have hct2 := Lib.hid (hN.cntL_take hX.out)
    have hmk := Lib.hid (hN.mkL_at k hX.out)
    generalize xs[j] = x at hX hc1 hct2 hmk
    obtain ⟨a0,a1,a2,x3⟩ := x
    rw [zit] at hc1
    generalize hK : k + (hN.cntL (xs.take j) : Int) = K at hmk ⊢
    have HK := Lib.hid hK
    have hK0 : 0 ≤ K ∧ K + ((3 + hS.cnt x3 : Nat) : Int) ≤ 1000000000 := by omega
    clear hK
    have hyj := Lib.hid (show ((hN.mkL k xs).take j ++ xs.drop j)[j]? = some ((a0,a1,a2,x3) : Node) by rw [M.mid_at hml.out]; exact hX.out)
    obtain ⟨css,Fs,hole,cs,hcs,hE⟩ := own.openAt hyj.out
    obtain ⟨A3,n3,c3,F3,rfl,o3_0,t3⟩ := tN_O.1 hE
    obtain ⟨g,rfl,hFg,hFn,hgl,-⟩ := hole.form (List.getElem?_eq_some_iff.1 hyj.out).1
    have q0 : wr.cell? ⟨g,j * 4 + 0,none⟩ = some _ := (hole.cell hcs (j := 0) rfl).1
    have r0 : wr.frozen? ⟨g,j * 4 + 0,none⟩ = false := (hole.cell hcs (j := 0) rfl).2
    have q1 : wr.cell? ⟨g,j * 4 + 1,none⟩ = some _ := (hole.cell hcs (j := 1) rfl).1
    have r1 : wr.frozen? ⟨g,j * 4 + 1,none⟩ = false := (hole.cell hcs (j := 1) rfl).2
    have q2 : wr.cell? ⟨g,j * 4 + 2,none⟩ = some _ := (hole.cell hcs (j := 2) rfl).1
    have r2 : wr.frozen? ⟨g,j * 4 + 2,none⟩ = false := (hole.cell hcs (j := 2) rfl).2
    have q3 : wr.cell? ⟨g,j * 4 + 3,none⟩ = some _ := (hole.cell hcs (j := 3) rfl).1
    rw [Nat.add_zero] at q0 r0
    go_wp2_with fail
    obtain ⟨U1,hU⟩ : ∃ U,U = (((wr.setCell ⟨g,j * 4,none⟩ (.int .i64 (K))).setCell ⟨g,j * 4 + 1,none⟩ (.int .i64 (K + 1))).setCell ⟨g,j * 4 + 2,none⟩ (.int .i64 (K + 1 + 1))) := ⟨_,rfl⟩
    rw [← hU]
    have s0_0 := hole.set hcs 0 (by decide) (.int .i64 (K))
    have s0_1 := s0_0.1.set s0_0.2 1 (by decide) (.int .i64 (K + 1))
    have s0_2 := s0_1.1.set s0_1.2 2 (by decide) (.int .i64 (K + 1 + 1))
    have hole1 := OH.at s0_2.1 hU
    have hcs1 := s0_2.2
    have ch0u : Chg F wr U1 := by rw [hU]; exact ((Chg.set _ g (j * 4) _ hFg).trans (Chg.set _ g (j * 4 + 1) _ hFg)).trans (Chg.set _ g (j * 4 + 2) _ hFg)
    have o3_1 : tS.O U1 F3 [.slice A3 n3 c3] _ := tS.okeep (fun b hb => by rw [hU]; exact (heap_setCell_other _ ⟨g,j * 4 + 2,none⟩ b _ (fun e => hFn (by simp only at e; rw [← e]; exact t3 b hb))).trans ((heap_setCell_other _ ⟨g,j * 4 + 1,none⟩ b _ (fun e => hFn (by simp only at e; rw [← e]; exact t3 b hb))).trans (heap_setCell_other _ ⟨g,j * 4,none⟩ b _ (fun e => hFn (by simp only at e; rw [← e]; exact t3 b hb))))) o3_0
    clear hU
    have q0_u0 : U1.cell? ⟨g,j * 4 + 0,none⟩ = some _ := (hole1.cell hcs1 (j := 0) rfl).1
    have r0_u0 : U1.frozen? ⟨g,j * 4 + 0,none⟩ = false := (hole1.cell hcs1 (j := 0) rfl).2
    have q1_u0 : U1.cell? ⟨g,j * 4 + 1,none⟩ = some _ := (hole1.cell hcs1 (j := 1) rfl).1
    have r1_u0 : U1.frozen? ⟨g,j * 4 + 1,none⟩ = false := (hole1.cell hcs1 (j := 1) rfl).2
    have q2_u0 : U1.cell? ⟨g,j * 4 + 2,none⟩ = some _ := (hole1.cell hcs1 (j := 2) rfl).1
    have r2_u0 : U1.frozen? ⟨g,j * 4 + 2,none⟩ = false := (hole1.cell hcs1 (j := 2) rfl).2
    have q3_u0 : U1.cell? ⟨g,j * 4 + 3,none⟩ = some _ := (hole1.cell hcs1 (j := 3) rfl).1
    rw [Nat.add_zero] at q0_u0 r0_u0
    replace hg := hg.trans ch0u
    refine (zfq _ _ _ _ _ _ F3 o3_1 (by omega)).mono ?_
    rintro e v1 ⟨rfl,o3_n,ch0⟩
    have ch0w := ch0.wide t3
    have o3_2 := o3_n
    have hole1b := hole1.chg ch0w
    replace hg := hg.trans (ch0w.wide hole1.fits)
    go_wp2
    go_roundw
    case rel =>
     have h3 := hole1b.fill hcs1 (y := ((K,K + 1,K + 1 + 1,hS.mark (K + 1 + 1 + 1) x3) : Node)) (tN_O.2 ⟨A3,n3,c3,F3,rfl,o3_2,t3⟩)
     have hmk2 : (hN.mkL k xs)[j]? = some ((K,K + 1,K + 1 + 1,hS.mark (K + 1 + 1 + 1) x3) : Node) := hmk.out
     rw [M.set_mid hml.out hmk2] at h3
     exact ⟨j + 1,by go_num,by omega,by rw [hct2.out,zit]; have := HK.out; subst this; go_num,h3,hg⟩
    case measure => simp [intOf]; omega
  · obtain rfl : xs.length = j := by omega
    go_wp2
    go_ret
    rw [List.take_of_length_le (by rw [Hs.mkL_len]; omega),List.drop_eq_nil_of_le (by omega),List.append_nil] at own
    exact ⟨by rw [List.take_of_length_le (Nat.le_refl _)]; rfl,sl_O.2 own,hg⟩
end
section
open Go.RowKit
theorem zvb (A : Option Addr) (n c : Nat) (k : Int) (xs : List zad) (w : World) (F : Nat → Prop) (hx : tPS.O w F [.slice A n c] xs) (hk : 0 ≤ k ∧ k + (hPS.cnt xs : Int) ≤ 1000000000) :
 Calls Tryz.prog 46 #[.slice A n c,.int .i64 k] w fun e w' => e = .returned (.int .i64 (k + hPS.cnt xs)) ∧ tPS.O w' F [.slice A n c] (hPS.mark k xs) ∧ Chg F w w' := by
 have ow := sl_O.1 hx
 have hcap := ow.read.cap
 obtain rfl : xs.length = n := hcap.1
 have hl : xs.length ≤ 9223372036854775807 := by have h1 := hcap.2; unfold maxLen at h1; omega
 clear hcap
 have hcn : k + (hP.cntL xs : Int) ≤ 1000000000 := hk.2
 clear hx
 go_enter Tryz.func46,Tryz.ntmps46
 go_wp2
 go_loopw [1,5] (fun q i wr => ∃ j : Nat,i = .int .i64 j ∧ j ≤ xs.length ∧ q = .int .i64 (k + (hP.cntL (xs.take j) : Int)) ∧ OS tP 107 wr F (.slice A xs.length c) ((hP.mkL k xs).take j ++ xs.drop j) ∧ Chg F w wr)
  (fun _ i _ => xs.length - (intOf i).toNat)
 case atStart => exact ⟨0,rfl,by omega,by simp [Hs.cntL],by simpa using ow,Chg.refl _ _⟩
 case round =>
  obtain ⟨j,rfl,hj,rfl,own,hg⟩ := hrel
  by_cases hlt : j < xs.length
  · have hml := Lib.hid (hP.mkL_len k xs)
    have hX := Lib.hid (List.getElem?_eq_getElem hlt)
    have hc1 := hP.cntL_at hX.out
    have hct2 := Lib.hid (hP.cntL_take hX.out)
    have hmk := Lib.hid (hP.mkL_at k hX.out)
    generalize xs[j] = x at hX hc1 hct2 hmk
    obtain ⟨a0,x1,x2,x3⟩ := x
    rw [ziw] at hc1
    generalize hK : k + (hP.cntL (xs.take j) : Int) = K at hmk ⊢
    have HK := Lib.hid hK
    have hK0 : 0 ≤ K ∧ K + ((1 + hSS.cnt x1 + hNS.cnt x2 + hS.cnt x3 : Nat) : Int) ≤ 1000000000 := by omega
    clear hK
    have hyj := Lib.hid (show ((hP.mkL k xs).take j ++ xs.drop j)[j]? = some ((a0,x1,x2,x3) : zad) by rw [M.mid_at hml.out]; exact hX.out)
    obtain ⟨css,Fs,hole,cs,hcs,hE⟩ := own.openAt hyj.out
    obtain ⟨A1,n1,c1,A2,n2,c2,A3,n3,c3,F1,F2,F3,rfl,o1_0,o2_0,o3_0,t1,t2,t3,r1_2,r1_3,r2_3⟩ := tP_O.1 hE
    obtain ⟨g,rfl,hFg,hFn,hgl,-⟩ := hole.form (List.getElem?_eq_some_iff.1 hyj.out).1
    have q0 : wr.cell? ⟨g,j * 4 + 0,none⟩ = some _ := (hole.cell hcs (j := 0) rfl).1
    have r0 : wr.frozen? ⟨g,j * 4 + 0,none⟩ = false := (hole.cell hcs (j := 0) rfl).2
    have q1 : wr.cell? ⟨g,j * 4 + 1,none⟩ = some _ := (hole.cell hcs (j := 1) rfl).1
    have q2 : wr.cell? ⟨g,j * 4 + 2,none⟩ = some _ := (hole.cell hcs (j := 2) rfl).1
    have q3 : wr.cell? ⟨g,j * 4 + 3,none⟩ = some _ := (hole.cell hcs (j := 3) rfl).1
    rw [Nat.add_zero] at q0 r0
    go_wp2_with fail
    obtain ⟨U1,hU⟩ : ∃ U,U = (wr.setCell ⟨g,j * 4,none⟩ (.int .i64 (K))) := ⟨_,rfl⟩
    rw [← hU]
    have s0_0 := hole.set hcs 0 (by decide) (.int .i64 (K))
    have hole1 := OH.at s0_0.1 hU
    have hcs1 := s0_0.2
    have ch0u : Chg F wr U1 := by rw [hU]; exact Chg.set _ g (j * 4) _ hFg
    have o1_1 : tSS.O U1 F1 [.slice A1 n1 c1] _ := tSS.okeep (fun b hb => by rw [hU]; exact heap_setCell_other _ ⟨g,j * 4,none⟩ b _ (fun e => hFn (by simp only at e; rw [← e]; exact t1 b hb))) o1_0
    have o2_1 : tNS.O U1 F2 [.slice A2 n2 c2] _ := tNS.okeep (fun b hb => by rw [hU]; exact heap_setCell_other _ ⟨g,j * 4,none⟩ b _ (fun e => hFn (by simp only at e; rw [← e]; exact t2 b hb))) o2_0
    have o3_1 : tS.O U1 F3 [.slice A3 n3 c3] _ := tS.okeep (fun b hb => by rw [hU]; exact heap_setCell_other _ ⟨g,j * 4,none⟩ b _ (fun e => hFn (by simp only at e; rw [← e]; exact t3 b hb))) o3_0
    clear hU
    have q0_u0 : U1.cell? ⟨g,j * 4 + 0,none⟩ = some _ := (hole1.cell hcs1 (j := 0) rfl).1
    have r0_u0 : U1.frozen? ⟨g,j * 4 + 0,none⟩ = false := (hole1.cell hcs1 (j := 0) rfl).2
    have q1_u0 : U1.cell? ⟨g,j * 4 + 1,none⟩ = some _ := (hole1.cell hcs1 (j := 1) rfl).1
    have q2_u0 : U1.cell? ⟨g,j * 4 + 2,none⟩ = some _ := (hole1.cell hcs1 (j := 2) rfl).1
    have q3_u0 : U1.cell? ⟨g,j * 4 + 3,none⟩ = some _ := (hole1.cell hcs1 (j := 3) rfl).1
    rw [Nat.add_zero] at q0_u0 r0_u0
    replace hg := hg.trans ch0u
    refine (zif _ _ _ _ _ _ F1 o1_1 (by omega)).mono ?_
    rintro e v1 ⟨rfl,o1_n,ch0⟩
    have ch0w := ch0.wide t1
    have o2_2 := tNS.ochg o2_1 ch0 (fun b h h2 => r1_2 b h2 h)
    have o3_2 := tS.ochg o3_1 ch0 (fun b h h2 => r1_3 b h2 h)
    have o1_2 := o1_n
    have hole1b := hole1.chg ch0w
    replace hg := hg.trans (ch0w.wide hole1.fits)
    have q0_v0 : v1.cell? ⟨g,j * 4 + 0,none⟩ = some _ := (hole1b.cell hcs1 (j := 0) rfl).1
    have r0_v0 : v1.frozen? ⟨g,j * 4 + 0,none⟩ = false := (hole1b.cell hcs1 (j := 0) rfl).2
    have q1_v0 : v1.cell? ⟨g,j * 4 + 1,none⟩ = some _ := (hole1b.cell hcs1 (j := 1) rfl).1
    have q2_v0 : v1.cell? ⟨g,j * 4 + 2,none⟩ = some _ := (hole1b.cell hcs1 (j := 2) rfl).1
    have q3_v0 : v1.cell? ⟨g,j * 4 + 3,none⟩ = some _ := (hole1b.cell hcs1 (j := 3) rfl).1
    rw [Nat.add_zero] at q0_v0 r0_v0
    go_wp2_with fail
    refine (zva _ _ _ _ _ _ F2 o2_2 (by omega)).mono ?_
    rintro e v2 ⟨rfl,o2_n,ch1⟩
    have ch1w := ch1.wide t2
    have o1_3 := tSS.ochg o1_2 ch1 r1_2
    have o3_3 := tS.ochg o3_2 ch1 (fun b h h2 => r2_3 b h2 h)
    have o2_3 := o2_n
    have hole2b := hole1b.chg ch1w
    replace hg := hg.trans (ch1w.wide hole1b.fits)
    have q0_v1 : v2.cell? ⟨g,j * 4 + 0,none⟩ = some _ := (hole2b.cell hcs1 (j := 0) rfl).1
    have r0_v1 : v2.frozen? ⟨g,j * 4 + 0,none⟩ = false := (hole2b.cell hcs1 (j := 0) rfl).2
    have q1_v1 : v2.cell? ⟨g,j * 4 + 1,none⟩ = some _ := (hole2b.cell hcs1 (j := 1) rfl).1
    have q2_v1 : v2.cell? ⟨g,j * 4 + 2,none⟩ = some _ := (hole2b.cell hcs1 (j := 2) rfl).1
    have q3_v1 : v2.cell? ⟨g,j * 4 + 3,none⟩ = some _ := (hole2b.cell hcs1 (j := 3) rfl).1
    rw [Nat.add_zero] at q0_v1 r0_v1
    go_wp2_with fail
    refine (zfq _ _ _ _ _ _ F3 o3_3 (by omega)).mono ?_
    rintro e v3 ⟨rfl,o3_n,ch2⟩
    have ch2w := ch2.wide t3
    have o1_4 := tSS.ochg o1_3 ch2 r1_3
    have o2_4 := tNS.ochg o2_3 ch2 r2_3
    have o3_4 := o3_n
    have hole3b := hole2b.chg ch2w
    replace hg := hg.trans (ch2w.wide hole2b.fits)
    go_wp2
    go_roundw
    case rel =>
     have h3 := hole3b.fill hcs1 (y := ((K,hSS.mark (K + 1) x1,hNS.mark (K + 1 + hSS.cnt x1) x2,hS.mark (K + 1 + hSS.cnt x1 + hNS.cnt x2) x3) : zad)) (tP_O.2 ⟨A1,n1,c1,A2,n2,c2,A3,n3,c3,F1,F2,F3,rfl,o1_4,o2_4,o3_4,t1,t2,t3,r1_2,r1_3,r2_3⟩)
     have hmk2 : (hP.mkL k xs)[j]? = some ((K,hSS.mark (K + 1) x1,hNS.mark (K + 1 + hSS.cnt x1) x2,hS.mark (K + 1 + hSS.cnt x1 + hNS.cnt x2) x3) : zad) := hmk.out
     rw [M.set_mid hml.out hmk2] at h3
     exact ⟨j + 1,by go_num,by omega,by rw [hct2.out,ziw]; have := HK.out; subst this; go_num,h3,hg⟩
    case measure => simp [intOf]; omega
  · obtain rfl : xs.length = j := by omega
    go_wp2
    go_ret
    rw [List.take_of_length_le (by rw [Hs.mkL_len]; omega),List.drop_eq_nil_of_le (by omega),List.append_nil] at own
    exact ⟨by rw [List.take_of_length_le (Nat.le_refl _)]; rfl,sl_O.2 own,hg⟩
end
section
open Go.RowKit
theorem zvc (A : Option Addr) (n c : Nat) (k : Int) (xs : List (List zag)) (w : World) (F : Nat → Prop) (hx : tTS.O w F [.slice A n c] xs) (hk : 0 ≤ k ∧ k + (hTS.cnt xs : Int) ≤ 1000000000) :
 Calls Tryz.prog 45 #[.slice A n c,.int .i64 k] w fun e w' => e = .returned (.int .i64 (k + hTS.cnt xs)) ∧ tTS.O w' F [.slice A n c] (hTS.mark k xs) ∧ Chg F w w' := by
 have ow := sl_O.1 hx
 have hcap := ow.read.cap
 obtain rfl : xs.length = n := hcap.1
 have hl : xs.length ≤ 9223372036854775807 := by have h1 := hcap.2; unfold maxLen at h1; omega
 clear hcap
 have hcn : k + (hT.cntL xs : Int) ≤ 1000000000 := hk.2
 clear hx
 go_enter Tryz.func45,Tryz.ntmps45
 go_wp2
 go_loopw [1,5] (fun q i wr => ∃ j : Nat,i = .int .i64 j ∧ j ≤ xs.length ∧ q = .int .i64 (k + (hT.cntL (xs.take j) : Int)) ∧ OS tT 89 wr F (.slice A xs.length c) ((hT.mkL k xs).take j ++ xs.drop j) ∧ Chg F w wr)
  (fun _ i _ => xs.length - (intOf i).toNat)
 case atStart => exact ⟨0,rfl,by omega,by simp [Hs.cntL],by simpa using ow,Chg.refl _ _⟩
 case round =>
  obtain ⟨j,rfl,hj,rfl,own,hg⟩ := hrel
  by_cases hlt : j < xs.length
  · have hml := Lib.hid (hT.mkL_len k xs)
    have hX := Lib.hid (List.getElem?_eq_getElem hlt)
    have hc1 := hT.cntL_at hX.out
    have hct2 := Lib.hid (hT.cntL_take hX.out)
    have hmk := Lib.hid (hT.mkL_at k hX.out)
    generalize xs[j] = x at hX hc1 hct2 hmk
    generalize hK : k + (hT.cntL (xs.take j) : Int) = K at hmk ⊢
    have HK := Lib.hid hK
    have hK0 : 0 ≤ K ∧ K + (hT.cnt x : Int) ≤ 1000000000 := by omega
    clear hK
    have hyj := Lib.hid (show ((hT.mkL k xs).take j ++ xs.drop j)[j]? = some x by rw [M.mid_at hml.out]; exact hX.out)
    obtain ⟨css,Fs,hole,cs,hcs,hE⟩ := own.openAt hyj.out
    obtain ⟨A0,n0,c0,rfl⟩ := za6 (tT.read hE)
    have o0_0 := hE
    obtain ⟨g,rfl,hFg,hFn,hgl,-⟩ := hole.form (List.getElem?_eq_some_iff.1 hyj.out).1
    have q0 : wr.cell? ⟨g,j * 1 + 0,none⟩ = some _ := (hole.cell hcs (j := 0) rfl).1
    rw [Nat.add_zero,Nat.mul_one] at q0
    go_wp2_with fail
    refine (zop _ _ _ _ _ _ (Fs j) o0_0 (by omega)).mono ?_
    rintro e v1 ⟨rfl,o0_n,ch0⟩
    have ch0w := ch0
    have hole1b := hole.chg ch0w
    replace hg := hg.trans (ch0w.wide hole.fits)
    go_wp2
    go_roundw
    case rel =>
     have h3 := hole1b.fill hcs o0_n
     have hmk2 : (hT.mkL k xs)[j]? = some (hT.mark K x) := hmk.out
     rw [M.set_mid hml.out hmk2] at h3
     exact ⟨j + 1,by go_num,by omega,by rw [hct2.out]; have := HK.out; subst this; go_num,h3,hg⟩
    case measure => simp [intOf]; omega
  · obtain rfl : xs.length = j := by omega
    go_wp2
    go_ret
    rw [List.take_of_length_le (by rw [Hs.mkL_len]; omega),List.drop_eq_nil_of_le (by omega),List.append_nil] at own
    exact ⟨by rw [List.take_of_length_le (Nat.le_refl _)]; rfl,sl_O.2 own,hg⟩
end
section
open Go.RowKit
theorem zvd (a0 : Int) (A1 : Option Addr) (n1 c1 : Nat) (A2 : Option Addr) (n2 c2 : Nat) (A3 : Option Addr) (n3 c3 : Nat) (A4 : Option Addr) (n4 c4 : Nat) (A5 : Option Addr) (n5 c5 : Nat) (k : Int) (x1 : List (List Int)) (x2 : List (List zag)) (x3 : List Int) (x4 : List zad) (x5 : List zae) (w : World) (F : Nat → Prop) (hx : tZ.O w F [.int .i64 a0,.slice A1 n1 c1,.slice A2 n2 c2,.slice A3 n3 c3,.slice A4 n4 c4,.slice A5 n5 c5] (a0,x1,x2,x3,x4,x5)) (hF : ∀ b,F b → b < w.heap.size) (hk : 0 ≤ k ∧ k + (hZ.cnt ((a0,x1,x2,x3,x4,x5) : Sess) : Int) ≤ 1000000000) :
 Calls Tryz.prog 14 #[.agg #[.int .i64 a0,.slice A1 n1 c1,.slice A2 n2 c2,.slice A3 n3 c3,.slice A4 n4 c4,.slice A5 n5 c5],.int .i64 k] w fun e w' => e = .returned (.int .i64 (k + hZ.cnt ((a0,x1,x2,x3,x4,x5) : Sess))) ∧ tZ.O w' F [.int .i64 a0,.slice A1 n1 c1,.slice A2 n2 c2,.slice A3 n3 c3,.slice A4 n4 c4,.slice A5 n5 c5] (hZ.mark k (a0,x1,x2,x3,x4,x5)) ∧ Chg F w w' := by
 obtain ⟨W,hW⟩ : ∃ W,W = w.alloc (.cells #[.int .i64 a0,.slice A1 n1 c1,.slice A2 n2 c2,.slice A3 n3 c3,.slice A4 n4 c4,.slice A5 n5 c5] 40) := ⟨_,rfl⟩
 have B0 : Below w.heap.size w W := by rw [hW]; exact (Below.refl _ _).alloc (Nat.le_refl _) _
 have p1 : W.cell? ⟨w.heap.size,1,none⟩ = some (.slice A1 n1 c1) := by rw [hW]; simp [go_sem]
 have p2 : W.cell? ⟨w.heap.size,2,none⟩ = some (.slice A2 n2 c2) := by rw [hW]; simp [go_sem]
 have p3 : W.cell? ⟨w.heap.size,3,none⟩ = some (.slice A3 n3 c3) := by rw [hW]; simp [go_sem]
 have p4 : W.cell? ⟨w.heap.size,4,none⟩ = some (.slice A4 n4 c4) := by rw [hW]; simp [go_sem]
 have p5 : W.cell? ⟨w.heap.size,5,none⟩ = some (.slice A5 n5 c5) := by rw [hW]; simp [go_sem]
 have l0 : w.heap.size < W.heap.size := by rw [hW]; simp
 have hx2 : tZ.O W F [.int .i64 a0,.slice A1 n1 c1,.slice A2 n2 c2,.slice A3 n3 c3,.slice A4 n4 c4,.slice A5 n5 c5] (a0,x1,x2,x3,x4,x5) := tZ.okeep (fun b h => B0.block b (hF b h)) hx
 obtain ⟨A19,n19,c19,A29,n29,c29,A39,n39,c39,A49,n49,c49,A59,n59,c59,F1,F2,F3,F4,F5,he,o1_0,o2_0,o3_0,o4_0,o5_0,t1,t2,t3,t4,t5,r1_2,r1_3,r1_4,r1_5,r2_3,r2_4,r2_5,r3_4,r3_5,r4_5⟩ := tZ_O.1 hx2
 simp only [List.cons.injEq,Value.slice.injEq,and_true,true_and] at he
 obtain ⟨⟨rfl,rfl,rfl⟩,⟨rfl,rfl,rfl⟩,⟨rfl,rfl,rfl⟩,⟨rfl,rfl,rfl⟩,⟨rfl,rfl,rfl⟩⟩ := he
 have hw0 : ¬ F w.heap.size := fun h => absurd (hF _ h) (Nat.lt_irrefl _)
 have HW := Lib.hid hW
 clear hW hx hx2
 rw [zlb] at *
 have cz1 : 0 ≤ (hSS.cnt x1 : Int) := Int.natCast_nonneg _
 have cz2 : 0 ≤ (hTS.cnt x2 : Int) := Int.natCast_nonneg _
 have cz3 : 0 ≤ (hS.cnt x3 : Int) := Int.natCast_nonneg _
 have cz4 : 0 ≤ (hPS.cnt x4 : Int) := Int.natCast_nonneg _
 have cz5 : 0 ≤ (hM.cnt x5 : Int) := Int.natCast_nonneg _
 go_enter Tryz.func14,Tryz.ntmps14
 go_wp2_with fail
 rw [← HW.out]
 refine (zif _ _ _ _ _ _ F1 o1_0 (by omega)).mono ?_
 rintro e w1 ⟨rfl,o1_n,ch0⟩
 have o2_1 := tTS.ochg o2_0 ch0 (fun b h h2 => r1_2 b h2 h)
 have o3_1 := tS.ochg o3_0 ch0 (fun b h h2 => r1_3 b h2 h)
 have o4_1 := tPS.ochg o4_0 ch0 (fun b h h2 => r1_4 b h2 h)
 have o5_1 := tM.ochg o5_0 ch0 (fun b h h2 => r1_5 b h2 h)
 have o1_1 := o1_n
 have l1 := Nat.lt_of_lt_of_le l0 ch0.size
 have bl0 := ch0.block w.heap.size l0 (fun h => hw0 (t1 _ h))
 have p2_1 : w1.cell? ⟨w.heap.size,2,none⟩ = some (.slice A2 n2 c2) := by rw [World.cell?_of_block bl0]; exact p2
 have p3_1 : w1.cell? ⟨w.heap.size,3,none⟩ = some (.slice A3 n3 c3) := by rw [World.cell?_of_block bl0]; exact p3
 have p4_1 : w1.cell? ⟨w.heap.size,4,none⟩ = some (.slice A4 n4 c4) := by rw [World.cell?_of_block bl0]; exact p4
 have p5_1 : w1.cell? ⟨w.heap.size,5,none⟩ = some (.slice A5 n5 c5) := by rw [World.cell?_of_block bl0]; exact p5
 clear bl0
 go_wp2_with fail
 refine (zvc _ _ _ _ _ _ F2 o2_1 (by omega)).mono ?_
 rintro e w2 ⟨rfl,o2_n,ch1⟩
 have o1_2 := tSS.ochg o1_1 ch1 r1_2
 have o3_2 := tS.ochg o3_1 ch1 (fun b h h2 => r2_3 b h2 h)
 have o4_2 := tPS.ochg o4_1 ch1 (fun b h h2 => r2_4 b h2 h)
 have o5_2 := tM.ochg o5_1 ch1 (fun b h h2 => r2_5 b h2 h)
 have o2_2 := o2_n
 have l2 := Nat.lt_of_lt_of_le l1 ch1.size
 have bl1 := ch1.block w.heap.size l1 (fun h => hw0 (t2 _ h))
 have p3_2 : w2.cell? ⟨w.heap.size,3,none⟩ = some (.slice A3 n3 c3) := by rw [World.cell?_of_block bl1]; exact p3_1
 have p4_2 : w2.cell? ⟨w.heap.size,4,none⟩ = some (.slice A4 n4 c4) := by rw [World.cell?_of_block bl1]; exact p4_1
 have p5_2 : w2.cell? ⟨w.heap.size,5,none⟩ = some (.slice A5 n5 c5) := by rw [World.cell?_of_block bl1]; exact p5_1
 clear bl1
 go_wp2_with fail
 refine (zfq _ _ _ _ _ _ F3 o3_2 (by omega)).mono ?_
 rintro e w3 ⟨rfl,o3_n,ch2⟩
 have o1_3 := tSS.ochg o1_2 ch2 r1_3
 have o2_3 := tTS.ochg o2_2 ch2 r2_3
 have o4_3 := tPS.ochg o4_2 ch2 (fun b h h2 => r3_4 b h2 h)
 have o5_3 := tM.ochg o5_2 ch2 (fun b h h2 => r3_5 b h2 h)
 have o3_3 := o3_n
 have l3 := Nat.lt_of_lt_of_le l2 ch2.size
 have bl2 := ch2.block w.heap.size l2 (fun h => hw0 (t3 _ h))
 have p4_3 : w3.cell? ⟨w.heap.size,4,none⟩ = some (.slice A4 n4 c4) := by rw [World.cell?_of_block bl2]; exact p4_2
 have p5_3 : w3.cell? ⟨w.heap.size,5,none⟩ = some (.slice A5 n5 c5) := by rw [World.cell?_of_block bl2]; exact p5_2
 clear bl2
 go_wp2_with fail
 refine (zvb _ _ _ _ _ _ F4 o4_3 (by omega)).mono ?_
 rintro e w4 ⟨rfl,o4_n,ch3⟩
 have o1_4 := tSS.ochg o1_3 ch3 r1_4
 have o2_4 := tTS.ochg o2_3 ch3 r2_4
 have o3_4 := tS.ochg o3_3 ch3 r3_4
 have o5_4 := tM.ochg o5_3 ch3 (fun b h h2 => r4_5 b h2 h)
 have o4_4 := o4_n
 have l4 := Nat.lt_of_lt_of_le l3 ch3.size
 have bl3 := ch3.block w.heap.size l3 (fun h => hw0 (t4 _ h))
 have p5_4 : w4.cell? ⟨w.heap.size,5,none⟩ = some (.slice A5 n5 c5) := by rw [World.cell?_of_block bl3]; exact p5_3
 clear bl3
 go_wp2_with fail
 refine (zpl _ _ _ _ _ _ F5 o5_4 (fun b h => Nat.lt_of_lt_of_le (hF b (t5 b h)) (by omega)) (by omega)).mono ?_
 rintro e w5 ⟨rfl,o5_n,ch4⟩
 have o1_5 := tSS.ochg o1_4 ch4 r1_5
 have o2_5 := tTS.ochg o2_4 ch4 r2_5
 have o3_5 := tS.ochg o3_4 ch4 r3_5
 have o4_5 := tPS.ochg o4_4 ch4 r4_5
 have o5_5 := o5_n
 have l5 := Nat.lt_of_lt_of_le l4 ch4.size
 have bl4 := ch4.block w.heap.size l4 (fun h => hw0 (t5 _ h))
 clear bl4
 go_wp2
 go_ret
 rw [zu0]
 refine ⟨zar (by omega),tZ_O.2 ⟨A1,n1,c1,A2,n2,c2,A3,n3,c3,A4,n4,c4,A5,n5,c5,F1,F2,F3,F4,F5,rfl,?_,?_,?_,?_,?_,t1,t2,t3,t4,t5,r1_2,r1_3,r1_4,r1_5,r2_3,r2_4,r2_5,r3_4,r3_5,r4_5⟩,(((((Chg.of_below B0 F).trans (ch0.wide t1)).trans (ch1.wide t2)).trans (ch2.wide t3)).trans (ch3.wide t4)).trans (ch4.wide t5)⟩
 · exact o1_5
 · exact o2_5
 · exact o3_5
 · exact o4_5
 · exact o5_5
end
section
open Go.RowKit
theorem zj1 (p : Int) (A : Option Addr) (n c : Nat) (Ab : Option Addr) (nb cb : Nat) (Ac : Option Addr) (nc cc : Nat) (Ad : Option Addr) (nd cd : Nat) (Ae : Option Addr) (ne ce : Nat) (k : Int) (x : Sess) (w : World) (F : Nat → Prop) (hx : tZ.O w F [.int .i64 p,.slice A n c,.slice Ab nb cb,.slice Ac nc cc,.slice Ad nd cd,.slice Ae ne ce] x) (hF : ∀ b,F b → b < w.heap.size) (hk : 0 ≤ k ∧ k + (hZ.cnt x : Int) ≤ 1000000000) :
 Calls Tryz.prog 14 #[.agg #[.int .i64 p,.slice A n c,.slice Ab nb cb,.slice Ac nc cc,.slice Ad nd cd,.slice Ae ne ce],.int .i64 k] w fun e w' => e = .returned (.int .i64 (k + hZ.cnt x)) ∧ tZ.O w' F [.int .i64 p,.slice A n c,.slice Ab nb cb,.slice Ac nc cc,.slice Ad nd cd,.slice Ae ne ce] (hZ.mark k x) ∧ Chg F w w' := by
 obtain ⟨a0,x1,x2,x3,x4,x5⟩ := x
 obtain ⟨A1,n1,c1,A2,n2,c2,A3,n3,c3,A4,n4,c4,A5,n5,c5,hcs,h1,h2,h3,h4,h5⟩ := tZ_R.1 (tZ.read hx)
 simp only [List.cons.injEq,Value.int.injEq,Value.slice.injEq,true_and,and_true] at hcs
 obtain ⟨rfl,⟨rfl,rfl,rfl⟩,⟨rfl,rfl,rfl⟩,⟨rfl,rfl,rfl⟩,⟨rfl,rfl,rfl⟩,⟨rfl,rfl,rfl⟩⟩ := hcs
 exact zvd _ _ _ _ _ _ _ _ _ _ _ _ _ _ _ _ _ _ _ _ _ _ _ _ hx hF hk
theorem zg6 {α : Type} {h : Hs α} (hx : ∀ x,h.cnt x ≤ 10 * h.sz x + 10) (xs : List α) : h.cntL xs ≤ 10 * (xs.length + h.szL xs) := by
 induction xs with
 | nil => simp [Hs.cntL]
 | cons y ys ih =>
  rw [Hs.cntL,Hs.szL,List.length_cons]
  have := hx y
  omega
theorem cl_Y (x : Sess) : hZ.cnt x ≤ 10 * hZ.sz x + 10 := by
 obtain ⟨a0,x1,x2,x3,x4,x5⟩ := x
 rw [zlb,zc7]
 have cS : ∀ x : List Int,hS.cnt x ≤ 10 * hS.sz x + 10 := fun x => by rw [zfc,zbl]; omega
 have c1 : hSS.cnt x1 ≤ 10 * hSS.sz x1 := zg6 cS x1
 have cT : ∀ x : List zag,hT.cnt x ≤ 10 * hT.sz x + 10 := cl_T
 have c2 : hTS.cnt x2 ≤ 10 * hTS.sz x2 := zg6 cT x2
 have cN : ∀ x : Node,hN.cnt x ≤ 10 * hN.sz x + 10 := fun x => by
  obtain ⟨k,a,b,l⟩ := x
  rw [zit,zft,zfc,zbl]
  omega
 have cNS : ∀ x : List Node,hNS.cnt x ≤ 10 * hNS.sz x := zg6 cN
 have cP : ∀ x : zad,hP.cnt x ≤ 10 * hP.sz x + 10 := fun x => by
  obtain ⟨k,t,n,u⟩ := x
  rw [ziw,zc6]
  have e1 : hSS.cnt t ≤ 10 * hSS.sz t := zg6 cS t
  have e2 := cNS n
  have e3 : hS.cnt u ≤ hS.sz u := by rw [zfc,zbl]; omega
  omega
 have c4 : hPS.cnt x4 ≤ 10 * hPS.sz x4 := zg6 cP x4
 have c3 : hS.cnt x3 ≤ hS.sz x3 := by rw [zfc,zbl]; omega
 have c5 := cl_M x5
 omega
end
section
open Go.RowKit Go.Sort
set_option synthInstance.maxSize 2000
set_option synthInstance.maxHeartbeats 400000
end
section
open Go.RowKit Go.Sort
theorem znt (A : Option Addr) (n c : Nat) (w : World) : Calls Tryz.prog 58 #[.slice A n c] w fun e w' => e = .returned (.int .i64 n) ∧ w = w' := by
 go_enter Tryz.func58,Tryz.ntmps58
 go_wp2
 go_ret
 exact ⟨rfl,rfl⟩
def zci (x : Sess) (keep : List Int) : Int := if zbo x then (if keep.all (zbc (x.2.2.1.length : Int)) then 0 else 2) else 1
def znu (x : Sess) (keep : List Int) : Sess := (x.1,x.2.1,zbk keep x.2.2.1.length x.2.2.1,x.2.2.2)
theorem zve (xs : List (List zag)) : ∀ f : Nat → List zag → List zag,(∀ i x,hT.sz (f i x) ≤ hT.sz x) → hT.szL (xs.mapIdx f) ≤ hT.szL xs := by
 induction xs with
 | nil => intro f _; simp
 | cons x xs ih =>
  intro f hf
  rw [List.mapIdx_cons,Hs.szL,Hs.szL]
  have := hf 0 x
  have := ih (fun i => f (i + 1)) (fun i x => hf (i + 1) x)
  omega
theorem znv (x : Sess) (keep : List Int) : hZ.sz (znu x keep) ≤ hZ.sz x := by
 obtain ⟨a0,x1,x2,x3,x4,x5⟩ := x
 have e : znu (a0,x1,x2,x3,x4,x5) keep = (a0,x1,zbk keep x2.length x2,x3,x4,x5) := rfl
 rw [e,zc7,zc7]
 have h1 : hTS.sz (zbk keep x2.length x2) = (zbk keep x2.length x2).length + hT.szL (zbk keep x2.length x2) := rfl
 have h2 : hTS.sz x2 = x2.length + hT.szL x2 := rfl
 have h3 : hT.szL (zbk keep x2.length x2) ≤ hT.szL x2 := zve x2 _ (fun i x => by
  split
  · show 0 + 0 ≤ _; omega
  · exact Nat.le_refl _)
 rw [zg5] at h1
 omega
theorem zf7 (a0 : Int) (A1 : Option Addr) (n1 c1 : Nat) (A2 : Option Addr) (n2 c2 : Nat) (A3 : Option Addr) (n3 c3 : Nat) (A4 : Option Addr) (n4 c4 : Nat) (A5 : Option Addr) (n5 c5 : Nat) (x1 : List (List Int)) (x2 : List (List zag)) (x3 : List Int) (x4 : List zad) (x5 : List zae) (KA : Option Addr) (kn kc : Nat) (keep : List Int) (w : World) (h1 : tSS.R w w.heap.size [.slice A1 n1 c1] x1) (h2 : tTS.R w w.heap.size [.slice A2 n2 c2] x2) (h3 : tS.R w w.heap.size [.slice A3 n3 c3] x3) (h4 : tPS.R w w.heap.size [.slice A4 n4 c4] x4) (h5 : tM.R w w.heap.size [.slice A5 n5 c5] x5) (hk_ : RI w w.heap.size KA kn keep) (hkn : kn ≤ 1000000000) (hn : hZ.sz ((a0,x1,x2,x3,x4,x5) : Sess) ≤ 100000000) :
 Calls Tryz.prog 55 #[.agg #[.int .i64 a0,.slice A1 n1 c1,.slice A2 n2 c2,.slice A3 n3 c3,.slice A4 n4 c4,.slice A5 n5 c5],.slice KA kn kc] w fun e w' => e = .returned (.int .i64 (zci (a0,x1,x2,x3,x4,x5) keep)) ∧ Below w.heap.size w w' := by
 obtain ⟨W,hW,B0,sW,p0,p1,p2,p3,p4,p5,pf⟩ := zbw w (.int .i64 a0) (.slice A1 n1 c1) (.slice A2 n2 c2) (.slice A3 n3 c3) (.slice A4 n4 c4) (.slice A5 n5 c5) 40
 have HW := Lib.hid hW
 have lW : w.heap.size < W.heap.size := by omega
 clear hW sW
 have k1 := tSS.later h1 B0
 have k2 := tTS.later h2 B0
 have k3 := tS.later h3 B0
 have k4 := tPS.later h4 B0
 have k5 := tM.later h5 B0
 have kk := hk_.later B0
 have ln2 := Lib.hid (sl_R.1 k2).cap.1
 have z2 : x2.length ≤ 100000000 := by rw [zc7] at hn; have e : x2.length + hT.szL x2 = hTS.sz x2 := rfl; omega
 have bn2 : n2 ≤ 100000000 := by have := ln2.out; omega
 have HS := Lib.hid (show zci (a0,x1,x2,x3,x4,x5) keep = if zbo (a0,x1,x2,x3,x4,x5) then (if keep.all (zbc (n2 : Int)) then 0 else 2) else 1 by rw [zci,← ln2.out])
 obtain ⟨tc,htc⟩ : ∃ tc,tc = zci (a0,x1,x2,x3,x4,x5) keep := ⟨_,rfl⟩
 rw [← htc] at HS ⊢
 clear htc
 cases ho : zbo (a0,x1,x2,x3,x4,x5)
 · have R := Lib.hid (show tc = 1 by rw [HS.out,ho]; rfl)
   have HO := Lib.hid ho
   clear ho
   go_enter Tryz.func55,Tryz.ntmps55
   go_wp2_with fail
   rw [← HW.out]
   refine (zjz a0 A1 n1 c1 A2 n2 c2 A3 n3 c3 A4 n4 c4 A5 n5 c5 x1 x2 x3 x4 x5 W k1 k2 k3 k4 k5 hn).mono ?_
   rw [HO.out]
   rintro e w1 ⟨rfl,bel1⟩
   go_wp2
   go_ret
   exact ⟨zar (by rw [R.out]),zaa B0 bel1⟩
 · have HO := Lib.hid ho
   cases hi : keep.all (zbc (n2 : Int))
   · have R := Lib.hid (show tc = 2 by rw [HS.out,ho,hi]; rfl)
     have HJ := Lib.hid hi
     clear ho hi
     go_enter Tryz.func55,Tryz.ntmps55
     go_wp2_with fail
     rw [← HW.out]
     refine (zjz a0 A1 n1 c1 A2 n2 c2 A3 n3 c3 A4 n4 c4 A5 n5 c5 x1 x2 x3 x4 x5 W k1 k2 k3 k4 k5 hn).mono ?_
     rw [HO.out]
     rintro e w1 ⟨rfl,bel1⟩
     have q2 : w1.cell? ⟨w.heap.size,2,none⟩ = some (.slice A2 n2 c2) := (bel1.cell (by show w.heap.size < _; omega)).trans p2
     have kw := kk.later bel1
     go_wp2_with (first | (go_at_call 58; refine (znt _ _ _ _).mono ?_; rintro e w2 ⟨rfl,rfl⟩) | (go_at_call 76; refine (ze4 _ _ _ _ _ _ kw (by omega) (by omega)).mono ?_; rw [HJ.out]; rintro e w2 ⟨rfl,rfl⟩))
     go_ret
     exact ⟨zar (by rw [R.out]),zaa B0 bel1⟩
   · have R := Lib.hid (show tc = 0 by rw [HS.out,ho,hi]; rfl)
     have HJ := Lib.hid hi
     clear ho hi
     go_enter Tryz.func55,Tryz.ntmps55
     go_wp2_with fail
     rw [← HW.out]
     refine (zjz a0 A1 n1 c1 A2 n2 c2 A3 n3 c3 A4 n4 c4 A5 n5 c5 x1 x2 x3 x4 x5 W k1 k2 k3 k4 k5 hn).mono ?_
     rw [HO.out]
     rintro e w1 ⟨rfl,bel1⟩
     have q2 : w1.cell? ⟨w.heap.size,2,none⟩ = some (.slice A2 n2 c2) := (bel1.cell (by show w.heap.size < _; omega)).trans p2
     have kw := kk.later bel1
     go_wp2_with (first | (go_at_call 58; refine (znt _ _ _ _).mono ?_; rintro e w2 ⟨rfl,rfl⟩) | (go_at_call 76; refine (ze4 _ _ _ _ _ _ kw (by omega) (by omega)).mono ?_; rw [HJ.out]; rintro e w2 ⟨rfl,rfl⟩))
     go_ret
     exact ⟨zar (by rw [R.out]),zaa B0 bel1⟩
end
section
open Go.RowKit Go.Sort
set_option synthInstance.maxSize 2000
set_option synthInstance.maxHeartbeats 400000
theorem zh5 {x : Sess} (h : zbo x = true) : zci x [] = 0 := by rw [zci,h]; rfl
theorem zh6 {x : Sess} (h : zbo x = false) : zci x [] = 1 := by rw [zci,h]; rfl
theorem znw (A : Option Addr) (n c : Nat) (w : World) : Calls Tryz.prog 58 #[.slice A n c] w fun e w' => e = .returned (.int .i64 n) ∧ w = w' := by
 go_enter Tryz.func58,Tryz.ntmps58
 go_wp2
 go_ret
 exact ⟨rfl,rfl⟩
section
variable {L : Nat} {src : List (List Int)} {ts : List (List zag)} {fs : List Int} {ps : List zad} {ms : List zae}
theorem znx (h : M.SO L src ts fs ps ms) (keep : List Int) (k : Nat) : M.SO L src (zbk keep k ts) fs ps ms := by
 refine ⟨h.l,h.so,h.mix,by rw [zg5]; exact h.fl,by rw [zg5]; exact h.tl,h.fr,h.pl,fun t ht => ?_,h.ef⟩
 rw [zbk,List.mem_mapIdx] at ht
 obtain ⟨i,hi,rfl⟩ := ht
 split
 · exact ⟨rfl,rfl⟩
 · exact h.tr _ (List.getElem_mem hi)
end
def zdx (L : Nat) (src : List (List Int)) (ts : List (List zag)) (fs : List Int) (ps : List zad) (ms : List zae) (t : Int) : List Int := zex L src (zbk [t] ts.length ts) fs ps ms
theorem zny (L : Nat) (src : List (List Int)) (ts : List (List zag)) (fs : List Int) (ps : List zad) (ms : List zae) : (zex L src ts fs ps ms).length = L := by rw [zex,zg2]
theorem zfm (L : Nat) (src : List (List Int)) (ts : List (List zag)) (fs : List Int) (ps : List zad) (ms : List zae) (t : Int) : (zdx L src ts fs ps ms t).length = L := by rw [zdx,zny]
theorem zj2 (w : World) (t : Int) : ∃ U,U = w.alloc (.cells #[.int .i64 t] 2) ∧ Below w.heap.size w U ∧ U.heap.size = w.heap.size + 1 ∧ RI U U.heap.size (some ⟨w.heap.size,0,none⟩) 1 [t] := by
 refine ⟨_,rfl,(Below.refl _ _).alloc (Nat.le_refl _) _,by simp,rfl,fun _ => ⟨_,rfl,by simp,fun j u hu => ?_⟩⟩
 match j,hu with
 | 0,hu =>
  simp only [List.map_cons,List.map_nil,List.getElem?_cons_zero,Option.some.injEq] at hu
  subst hu
  simp [go_sem,Addr.add]
theorem zj3 (L : Nat) (A1 : Option Addr) (n1 c1 : Nat) (A2 : Option Addr) (n2 c2 : Nat) (A3 : Option Addr) (n3 c3 : Nat) (A4 : Option Addr) (n4 c4 : Nat) (A5 : Option Addr) (n5 c5 : Nat) (src : List (List Int)) (ts : List (List zag)) (fs : List Int) (ps : List zad) (ms : List zae) (t : Int) (w : World)
 (h1 : tSS.R w w.heap.size [.slice A1 n1 c1] src) (h2 : tTS.R w w.heap.size [.slice A2 n2 c2] ts) (h3 : tS.R w w.heap.size [.slice A3 n3 c3] fs) (h4 : tPS.R w w.heap.size [.slice A4 n4 c4] ps) (h5 : tM.R w w.heap.size [.slice A5 n5 c5] ms) (hn : hZ.sz (((L : Int),src,ts,fs,ps,ms) : Sess) ≤ 100000000) (hO : M.SO L src ts fs ps ms) :
 Calls Tryz.prog 56 #[.agg #[.int .i64 L,.slice A1 n1 c1,.slice A2 n2 c2,.slice A3 n3 c3,.slice A4 n4 c4,.slice A5 n5 c5],.int .i64 t] w (Ret1 2 w (zdx L src ts fs ps ms t)) := by
 obtain ⟨W_,hW_,B0_,sW_,p0,p1,p2,p3,p4,p5,pf⟩ := zbw w (.int .i64 L) (.slice A1 n1 c1) (.slice A2 n2 c2) (.slice A3 n3 c3) (.slice A4 n4 c4) (.slice A5 n5 c5) 40
 obtain ⟨W,hW,B1_,sW,rk⟩ := zj2 W_ t
 have B0 := zaa B0_ B1_
 have HW_ := Lib.hid hW_
 rw [sW_] at rk
 have HW := Lib.hid hW
 have sz_ := Lib.hid sW_
 have lW : w.heap.size < W_.heap.size := by omega
 have HOM := Lib.hid (znx hO [t] ts.length)
 have hnm : hZ.sz (((L : Int),src,zbk [t] ts.length ts,fs,ps,ms) : Sess) ≤ 100000000 := Nat.le_trans (znv ((L : Int),src,ts,fs,ps,ms) [t]) hn
 clear hW hW_
 go_enter Tryz.func56,Tryz.ntmps56
 go_wp2_with fail
 rw [← HW_.out,← sz_.out,← HW.out]
 refine (zuy (L : Int) _ _ c1 _ _ c2 _ _ c3 _ _ c4 _ _ c5 src ts fs ps ms _ 1 1 [t] W (tSS.later h1 B0) (tTS.later h2 B0) (tS.later h3 B0) (tPS.later h4 B0) (tM.later h5 B0) (by rw [sz_.out]; exact rk) (by omega) hn).mono ?_
 rintro e w2 ⟨A1',n1',c1',A2',n2',c2',A3',n3',c3',A4',n4',c4',A5',n5',c5',rfl,oz,bel2⟩
 obtain ⟨A1_,n1_,c1_,A2_,n2_,c2_,A3_,n3_,c3_,A4_,n4_,c4_,A5_,n5_,c5_,hcs_,m1,m2,m3,m4,m5⟩ := tZ_R.1 (tZ.read oz)
 simp only [List.cons.injEq,Value.int.injEq,Value.slice.injEq,true_and,and_true] at hcs_
 obtain ⟨⟨rfl,rfl,rfl⟩,⟨rfl,rfl,rfl⟩,⟨rfl,rfl,rfl⟩,⟨rfl,rfl,rfl⟩,⟨rfl,rfl,rfl⟩⟩ := hcs_
 have s2 := bel2.size
 go_wp2_with fail
 refine (znm L _ _ _ _ _ _ _ _ _ _ _ _ _ _ _ src _ fs ps ms w2 m1 m2 m3 m4 m5 hnm HOM.out).mono ?_
 rintro e w3 ⟨v3,rfl,own3,bel3⟩
 go_wp2_with fail
 go_ret
 exact ⟨_,rfl,own3.base (by omega),zaa B0 (zaa bel2 bel3)⟩
theorem zj4 (vb L : Nat) (A1 : Option Addr) (n1 c1 : Nat) (A2 : Option Addr) (n2 c2 : Nat) (A3 : Option Addr) (n3 c3 : Nat) (A4 : Option Addr) (n4 c4 : Nat) (A5 : Option Addr) (n5 c5 : Nat) (src : List (List Int)) (ts : List (List zag)) (fs : List Int) (ps : List zad) (ms : List zae) (t : Int) (w : World)
 (p0 : w.cell? ⟨vb,0,none⟩ = some (.int .i64 L)) (p1 : w.cell? ⟨vb,1,none⟩ = some (.slice A1 n1 c1)) (p2 : w.cell? ⟨vb,2,none⟩ = some (.slice A2 n2 c2)) (p3 : w.cell? ⟨vb,3,none⟩ = some (.slice A3 n3 c3)) (p4 : w.cell? ⟨vb,4,none⟩ = some (.slice A4 n4 c4)) (p5 : w.cell? ⟨vb,5,none⟩ = some (.slice A5 n5 c5))
 (h1 : tSS.R w w.heap.size [.slice A1 n1 c1] src) (h2 : tTS.R w w.heap.size [.slice A2 n2 c2] ts) (h3 : tS.R w w.heap.size [.slice A3 n3 c3] fs) (h4 : tPS.R w w.heap.size [.slice A4 n4 c4] ps) (h5 : tM.R w w.heap.size [.slice A5 n5 c5] ms) (hn : hZ.sz (((L : Int),src,ts,fs,ps,ms) : Sess) ≤ 100000000) (hO : M.SO L src ts fs ps ms) :
 Calls Tryz.prog 54 #[.pointer (some ⟨vb,0,none⟩),.int .i64 t] w (Ret1 2 w (zdx L src ts fs ps ms t)) := by
 have lvb : vb < w.heap.size := World.block_lt_of_cell? w _ p0
 obtain ⟨W,hW,B0,sW,rk⟩ := zj2 w t
 have HW := Lib.hid hW
 have HOM := Lib.hid (znx hO [t] ts.length)
 have hnm : hZ.sz (((L : Int),src,zbk [t] ts.length ts,fs,ps,ms) : Sess) ≤ 100000000 := Nat.le_trans (znv ((L : Int),src,ts,fs,ps,ms) [t]) hn
 have P0 := (B0.cell (p := ⟨vb,0,none⟩) (by show vb < _; omega)).trans p0
 have P1 := (B0.cell (p := ⟨vb,1,none⟩) (by show vb < _; omega)).trans p1
 have P2 := (B0.cell (p := ⟨vb,2,none⟩) (by show vb < _; omega)).trans p2
 have P3 := (B0.cell (p := ⟨vb,3,none⟩) (by show vb < _; omega)).trans p3
 have P4 := (B0.cell (p := ⟨vb,4,none⟩) (by show vb < _; omega)).trans p4
 have P5 := (B0.cell (p := ⟨vb,5,none⟩) (by show vb < _; omega)).trans p5
 clear hW
 go_enter Tryz.func54,Tryz.ntmps54
 go_wp2_with fail
 rw [← HW.out]
 refine (zuz vb (L : Int) _ _ c1 _ _ c2 _ _ c3 _ _ c4 _ _ c5 src ts fs ps ms _ 1 1 [t] W P0 P1 P2 P3 P4 P5 (tSS.later h1 B0) (tTS.later h2 B0) (tS.later h3 B0) (tPS.later h4 B0) (tM.later h5 B0) rk (by omega) hn).mono ?_
 rintro e w2 ⟨A1',n1',c1',A2',n2',c2',A3',n3',c3',A4',n4',c4',A5',n5',c5',rfl,oz,bel2⟩
 obtain ⟨A1_,n1_,c1_,A2_,n2_,c2_,A3_,n3_,c3_,A4_,n4_,c4_,A5_,n5_,c5_,hcs_,m1,m2,m3,m4,m5⟩ := tZ_R.1 (tZ.read oz)
 simp only [List.cons.injEq,Value.int.injEq,Value.slice.injEq,true_and,and_true] at hcs_
 obtain ⟨⟨rfl,rfl,rfl⟩,⟨rfl,rfl,rfl⟩,⟨rfl,rfl,rfl⟩,⟨rfl,rfl,rfl⟩,⟨rfl,rfl,rfl⟩⟩ := hcs_
 have s2 := bel2.size
 obtain ⟨U,hU,BU,sU,y0,y1,y2,y3,y4,y5,rf⟩ := zbw w2 (.int .i64 L) (.slice A1' n1' c1') (.slice A2' n2' c2') (.slice A3' n3' c3') (.slice A4' n4' c4') (.slice A5' n5' c5') 40
 have HU := Lib.hid hU
 clear hU
 go_wp2_with fail
 rw [← HU.out]
 refine (znn w2.heap.size L _ _ _ _ _ _ _ _ _ _ _ _ _ _ _ src _ fs ps ms U y0 y1 y2 y3 y4 y5 (tSS.later m1 BU) (tTS.later m2 BU) (tS.later m3 BU) (tPS.later m4 BU) (tM.later m5 BU) hnm HOM.out).mono ?_
 rintro e w3 ⟨v3,rfl,own3,bel3⟩
 go_wp2_with fail
 go_ret
 exact ⟨_,rfl,own3.base (by omega),zaa B0 (zaa bel2 (zaa BU bel3))⟩
end
section
open Go.ChangeShapes Go.WideShapes Go.Deep Go.RowKit
def zbg (P : Program) (T : TypeId) {α : Type} (t : Ty α) : Prop :=
 ∀ {H : Type} (enc : TypeId × Value → H) (w : World) (base : Nat) (spare : Nat → Bool) (held : Bool) (fuel : Nat) (cs : List Value) (d : DataW H × List MemPlace),DataW.trod enc P w base spare held fuel T cs = some d → ∃ x,t.R w w.heap.size cs x
section
variable {P : Program} {T : TypeId}
theorem zdg (h : P.underlying T = some (.int .i64)) : zbg P T tI := fun _ _ _ _ _ _ _ _ ht => by
 obtain ⟨n,hn,_⟩ := DataW.trod_int h ht
 exact ⟨n,hn⟩
theorem ze9 {α : Type} {t : Ty α} {e e' : TypeId} (ht : P.underlying T = some (.slice e)) (hC : P.cellsOf e = t.s) (he : zbg P e t) : zbg P T (t.sl e') := by
 intro H enc w base spare held fuel cs d h
 rcases open_slice ht h with ⟨rfl,_⟩ | ⟨a,len,cap,m,n,D,Pl,rfl,hb,hl,hm,hmm,hx,hi⟩
 · exact ⟨[],_,rfl,RS.nil _ _ _⟩
 · have hlm : len ≤ m := by rw [hmm]; split <;> omega
   have key : ∀ i,∃ p : List Value × α,i < len → t.R w w.heap.size p.1 p.2 ∧ ∀ j u,p.1[j]? = some u → w.cell? (a.add (i * t.s + j)) = some u := by
    intro i
    by_cases hil : i < len
    · obtain ⟨cs',hc,ht'⟩ := hi i (by omega)
      rw [hC] at hc
      obtain ⟨x,hR⟩ := he enc w base spare held n cs' _ ht'
      obtain ⟨_,hcl,hat⟩ := World.cells?_some hc
      refine ⟨(cs',x),fun _ => ⟨hR,fun j u hu => ?_⟩⟩
      have hj : j < t.s := by rw [← hcl]; exact (List.getElem?_eq_some_iff.1 hu).1
      have := hat j hj
      rw [Go.Deep.add_add] at this
      rw [this]
      exact hu
    · exact ⟨([],t.zero),fun hc => absurd hc hil⟩
   obtain ⟨g,hg⟩ : ∃ g : Nat → List Value × α,∀ i,i < len → t.R w w.heap.size (g i).1 (g i).2 ∧ ∀ j u,(g i).1[j]? = some u → w.cell? (a.add (i * t.s + j)) = some u := ⟨fun i => Classical.choose (key i),fun i => Classical.choose_spec (key i)⟩
   have hs : ∀ c ∈ (List.range len).map (fun i => (g i).1),c.length = t.s := by
    intro c hc
    obtain ⟨i,hi,rfl⟩ := List.mem_map.1 hc
    exact t.rlen (hg i (List.mem_range.1 hi)).1
   refine ⟨(List.range len).map fun i => (g i).2,_,rfl,some a,cap,(List.range len).map fun i => (g i).1,by simp,by simpa using hl,hm,by simp,?_,?_⟩
   · refine ⟨by rw [zie hs]; simp,fun hn => ⟨a,rfl,?_,fun j u hu => ?_⟩⟩
     · have hn' : 0 < len := by simpa using hn
       have h0 := (hg 0 hn')
       have hp := t.pos
       obtain ⟨u,hu⟩ : ∃ u,(g 0).1[0]? = some u := ⟨_,List.getElem?_eq_getElem (by rw [t.rlen h0.1]; exact hp)⟩
       have := World.block_lt_of_cell? _ _ (h0.2 0 u hu)
       rwa [zfa] at this
     · have hj : j < len * t.s := by have := (List.getElem?_eq_some_iff.1 hu).1; rw [zie hs] at this; simpa using this
       have hk : j / t.s < len := Nat.div_lt_of_lt_mul (by rw [Nat.mul_comm]; exact hj)
       have hr : j % t.s < t.s := Nat.mod_lt _ t.pos
       have e0 : j / t.s * t.s + j % t.s = j := by rw [Nat.mul_comm]; exact Nat.div_add_mod j t.s
       have hf := zg8 hs (k := j / t.s) (c := (g (j / t.s)).1) (by simp [hk]) (j % t.s) hr
       rw [e0,hu] at hf
       have := (hg _ hk).2 (j % t.s) u hf.symm
       rwa [e0] at this
   · intro k hk hk'
     simp only [List.length_map,List.length_range] at hk
     simp only [List.getElem_map,List.getElem_range]
     exact (hg k hk).1
theorem zvf {α : Type} {t : Ty α} {w : World} {B o n : Nat} {cs : List Value} {x : α} (ho : o = 0) (hn : cs.length = n) (h : t.R w B ((cs.drop o).take n) x) : t.R w B cs x := by
 subst ho hn
 simpa using h
theorem znz {α : Type} {t : Ty α} {f0 : Field} (hs : P.underlying T = some (.struct #[f0])) (o0 : f0.offset = 0) (hC : P.cellsOf T = P.cellsOf f0.type) (h0 : zbg P f0.type t) : zbg P T t := by
 intro H enc w base spare held fuel cs d h
 obtain ⟨y0,n,_,hlen,t0⟩ := trod_struct1 hs h
 obtain ⟨x,hx⟩ := h0 enc w base spare held n _ _ t0
 exact ⟨x,zvf o0 (by rw [hlen,hC]) hx⟩
theorem zf8 {α : Type} {t : Ty α} {fs : Array Field} (hs : P.underlying T = some (.struct fs))
 (hf : ∀ (w : World) (cs : List Value),cs.length = P.cellsOf T → (∀ {H : Type} (enc : TypeId × Value → H) (base : Nat) (spare : Nat → Bool) (held : Bool) (n : Nat) (ys : List (DataW H × List MemPlace)),ys.length = fs.size → (∀ (i : Nat) (f : Field),fs[i]? = some f → DataW.trod enc P w base spare held n f.type ((cs.drop f.offset).take (P.cellsOf f.type)) = ys[i]?) → ∃ x,t.R w w.heap.size cs x)) : zbg P T t := by
 intro H enc w base spare held fuel cs d h
 obtain ⟨ys,n,_,_,hlen,hyl,hg⟩ := DataW.trod_struct hs h
 exact hf w cs hlen enc base spare held n ys hyl hg
end
theorem zb6 {P : Program} {H : Type} {enc : TypeId × Value → H} {w : World} {base n i o k : Nat} {spare : Nat → Bool} {held : Bool} {fs : Array Field} {cs : List Value} {ys : List (DataW H × List MemPlace)} {α : Type} {t : Ty α} {f : Field} {e : TypeId}
 (hyl : ys.length = fs.size) (hg : ∀ (i : Nat) (f : Field),fs[i]? = some f → DataW.trod enc P w base spare held n f.type ((cs.drop f.offset).take (P.cellsOf f.type)) = ys[i]?)
 (hi : fs[i]? = some f) (he : f.type = e) (ho : f.offset = o) (hk : P.cellsOf e = k) (h : zbg P e t) : ∃ x,t.R w w.heap.size ((cs.drop o).take k) x := by
 have h1 := hg i f hi
 have hlt : i < ys.length := by rw [hyl]; exact (Array.getElem?_eq_some_iff.1 hi).1
 rw [List.getElem?_eq_getElem hlt,he,ho,hk] at h1
 exact h enc w base spare held n _ _ h1
theorem zvg {P : Program} {T : TypeId} {f0 f1 : Field} {zero : Int × Int} {enc : Int × Int → List Value} {pos : 0 < 2} {henc : ∀ x,(enc x).length = 2} {h1c : ∀ x,∀ u ∈ enc x,u.oneCell' = true}
 (hE : ∀ a b,enc (a,b) = [.int .i64 a,.int .i64 b]) (hs : P.underlying T = some (.struct #[f0,f1])) (h0 : P.underlying f0.type = some (.int .i64)) (h1 : P.underlying f1.type = some (.int .i64)) (o0 : f0.offset = 0) (o1 : f1.offset = 1)
 (k0 : P.cellsOf f0.type = 1) (k1 : P.cellsOf f1.type = 1) (hC : P.cellsOf T = 2) : zbg P T (Ty.flat 2 pos zero enc henc h1c) :=
 zf8 hs fun w cs hl {H} enc' base spare held n ys hyl hg => by
  obtain ⟨a,ha⟩ := zb6 (i := 0) hyl hg rfl rfl o0 k0 (zdg h0)
  obtain ⟨b,hb⟩ := zb6 (i := 1) hyl hg rfl rfl o1 k1 (zdg h1)
  rw [hC] at hl
  match cs,hl with
  | [u,v],_ =>
   refine ⟨(a,b),?_⟩
   show [u,v] = enc (a,b)
   have ha' : [u] = [Value.int .i64 a] := ha
   have hb' : [v] = [Value.int .i64 b] := hb
   rw [hE]
   injection ha' with e1
   injection hb' with e2
   rw [e1,e2]
end
section
open Go.RowKit
abbrev hPt : Hs (Int × Int) := hI.prod hI
abbrev hC : Hs (List (Int × Int)) := hPt.sl
end
section
open Go.RowKit
theorem zh7 : zbg Tryz.prog 24 tS := ze9 Tryz.underlying24 (by kernel_rfl) (zdg Tryz.underlying2)
theorem zv9 {w w' : World} {r : List Int × Int} {en : Ending} (h : Ret2 2 w r en w') :
 ∃ A n c,en = .returned (.tuple #[.slice A n c,.int .i64 r.2]) ∧ tS.O w' (Iv w.heap.size w'.heap.size) [.slice A n c] r.1 ∧ Below w.heap.size w w' := by
 obtain ⟨v,rfl,own,bel⟩ := h
 obtain ⟨A,c,rfl,_⟩ := own.shape
 exact ⟨_,_,_,rfl,tS_O.2 own.os,bel⟩
end
section
open Go.RowKit
theorem zvh {P : Program} {T : TypeId} {f0 f1 f2 f3 f4 : Field} {zero : Clip} {enc : Clip → List Value} {pos : 0 < 5} {henc : ∀ x,(enc x).length = 5} {h1c : ∀ x,∀ u ∈ enc x,u.oneCell' = true}
 (hE : ∀ a b c d e,enc (a,b,c,d,e) = [.int .i64 a,.int .i64 b,.int .i64 c,.int .i64 d,.int .i64 e]) (hs : P.underlying T = some (.struct #[f0,f1,f2,f3,f4]))
 (h0 : P.underlying f0.type = some (.int .i64)) (h1 : P.underlying f1.type = some (.int .i64)) (h2 : P.underlying f2.type = some (.int .i64)) (h3 : P.underlying f3.type = some (.int .i64)) (h4 : P.underlying f4.type = some (.int .i64))
 (o0 : f0.offset = 0) (o1 : f1.offset = 1) (o2 : f2.offset = 2) (o3 : f3.offset = 3) (o4 : f4.offset = 4)
 (k0 : P.cellsOf f0.type = 1) (k1 : P.cellsOf f1.type = 1) (k2 : P.cellsOf f2.type = 1) (k3 : P.cellsOf f3.type = 1) (k4 : P.cellsOf f4.type = 1) (hC : P.cellsOf T = 5) : zbg P T (Ty.flat 5 pos zero enc henc h1c) :=
 zf8 hs fun w cs hl {H} enc' base spare held n ys hyl hg => by
  obtain ⟨a,ha⟩ := zb6 (i := 0) hyl hg rfl rfl o0 k0 (zdg h0)
  obtain ⟨b,hb⟩ := zb6 (i := 1) hyl hg rfl rfl o1 k1 (zdg h1)
  obtain ⟨c,hc⟩ := zb6 (i := 2) hyl hg rfl rfl o2 k2 (zdg h2)
  obtain ⟨d,hd⟩ := zb6 (i := 3) hyl hg rfl rfl o3 k3 (zdg h3)
  obtain ⟨e,he⟩ := zb6 (i := 4) hyl hg rfl rfl o4 k4 (zdg h4)
  rw [hC] at hl
  match cs,hl with
  | [u0,u1,u2,u3,u4],_ =>
   refine ⟨(a,b,c,d,e),?_⟩
   show [u0,u1,u2,u3,u4] = enc (a,b,c,d,e)
   have ha' : [u0] = [Value.int .i64 a] := ha
   have hb' : [u1] = [Value.int .i64 b] := hb
   have hc' : [u2] = [Value.int .i64 c] := hc
   have hd' : [u3] = [Value.int .i64 d] := hd
   have he' : [u4] = [Value.int .i64 e] := he
   rw [hE]
   injection ha' with e1
   injection hb' with e2
   injection hc' with e3
   injection hd' with e4
   injection he' with e5
   rw [e1,e2,e3,e4,e5]
theorem zvi : zbg Tryz.prog 94 tT :=
 znz Tryz.underlying94 rfl (by kernel_rfl) (ze9 Tryz.underlying92 (by kernel_rfl) (zvh (fun _ _ _ _ _ => rfl) Tryz.underlying194 Tryz.underlying2 Tryz.underlying2 Tryz.underlying2 Tryz.underlying2 Tryz.underlying2 rfl rfl rfl rfl rfl (by kernel_rfl) (by kernel_rfl) (by kernel_rfl) (by kernel_rfl) (by kernel_rfl) (by kernel_rfl)))
end
section
open Go.RowKit
theorem zvj {P : Program} {T : TypeId} (h : P.underlying T = some .string) : zbg P T tStr := fun _ _ _ _ _ _ _ _ ht => by
 obtain ⟨s,rfl,_,hs⟩ := DataW.trod_string h ht
 exact ⟨s,rfl,hs⟩
theorem zvk : zbg Tryz.prog 150 tSdS :=
 ze9 Tryz.underlying150 (by kernel_rfl) (zvg (fun _ _ => rfl) Tryz.underlying218 Tryz.underlying2 Tryz.underlying2 rfl rfl (by kernel_rfl) (by kernel_rfl) (by kernel_rfl))
theorem zvl {P : Program} {T : TypeId} {f0 f1 f2 : Field} (hs : P.underlying T = some (.struct #[f0,f1,f2])) (h0 : P.underlying f0.type = some .string) (h1 : P.underlying f1.type = some (.int .i64)) (h2 : zbg P f2.type tSdS)
 (o0 : f0.offset = 0) (o1 : f1.offset = 1) (o2 : f2.offset = 2) (k0 : P.cellsOf f0.type = 1) (k1 : P.cellsOf f1.type = 1) (k2 : P.cellsOf f2.type = 1) (hC : P.cellsOf T = 3) : zbg P T tSt :=
 zf8 hs fun w cs hl {H} enc base spare held n ys hyl hg => by
  obtain ⟨s,hs⟩ := zb6 (i := 0) hyl hg rfl rfl o0 k0 (zvj h0)
  obtain ⟨l,h1⟩ := zb6 (i := 1) hyl hg rfl rfl o1 k1 (zdg h1)
  obtain ⟨xs,h2⟩ := zb6 (i := 2) hyl hg rfl rfl o2 k2 h2
  rw [hC] at hl
  match cs,hl with
  | [u0,u1,u2],_ =>
   refine ⟨(s,l,xs),st_R.2 ?_⟩
   have h0 : [u0] = [Value.string s] ∧ s.size ≤ maxLen := hs
   have h1' : [u1] = [Value.int .i64 l] := h1
   obtain ⟨A,n,c,e2⟩ := zim h2
   have e2' : [u2] = [Value.slice A n c] := e2
   have h2' : tSdS.R w w.heap.size [u2] xs := h2
   injection h0.1 with e0
   injection h1' with e1
   injection e2' with e3
   subst e0 e1 e3
   exact ⟨A,n,c,rfl,h0.2,h2'⟩
theorem zvm : zbg Tryz.prog 152 tSt :=
 zvl Tryz.underlying152 Tryz.underlying9 Tryz.underlying2 zvk rfl rfl rfl (by kernel_rfl) (by kernel_rfl) (by kernel_rfl) (by kernel_rfl)
theorem zvn : zbg Tryz.prog 28 tM :=
 znz Tryz.underlying28 rfl (by kernel_rfl) (ze9 Tryz.underlying26 (by kernel_rfl) zvm)
end
section
open Go.RowKit
theorem zn0 : zbg Tryz.prog 22 tSS := ze9 Tryz.underlying22 (by kernel_rfl) zh7
theorem zvo {P : Program} {T : TypeId} {f0 f1 f2 f3 : Field} (hs : P.underlying T = some (.struct #[f0,f1,f2,f3])) (h0 : P.underlying f0.type = some (.int .i64)) (h1 : P.underlying f1.type = some (.int .i64)) (h2 : P.underlying f2.type = some (.int .i64)) (h3 : zbg P f3.type tS) (o0 : f0.offset = 0) (o1 : f1.offset = 1) (o2 : f2.offset = 2) (o3 : f3.offset = 3) (k0 : P.cellsOf f0.type = 1) (k1 : P.cellsOf f1.type = 1) (k2 : P.cellsOf f2.type = 1) (k3 : P.cellsOf f3.type = 1) (hC : P.cellsOf T = 4) : zbg P T tN :=
 zf8 hs fun w cs hl {H} enc base spare held n ys hyl hg => by
  obtain ⟨s0,g0⟩ := zb6 (i := 0) hyl hg rfl rfl o0 k0 (zdg h0)
  obtain ⟨s1,g1⟩ := zb6 (i := 1) hyl hg rfl rfl o1 k1 (zdg h1)
  obtain ⟨s2,g2⟩ := zb6 (i := 2) hyl hg rfl rfl o2 k2 (zdg h2)
  obtain ⟨s3,g3⟩ := zb6 (i := 3) hyl hg rfl rfl o3 k3 h3
  rw [hC] at hl
  match cs,hl with
  | [u0,u1,u2,u3],_ =>
   refine ⟨(s0,s1,s2,s3),tN_R.2 ?_⟩
   have e0 : [u0] = [Value.int .i64 s0] := g0
   injection e0 with e0
   have e1 : [u1] = [Value.int .i64 s1] := g1
   injection e1 with e1
   have e2 : [u2] = [Value.int .i64 s2] := g2
   injection e2 with e2
   have r3 : tS.R w w.heap.size [u3] s3 := g3
   obtain ⟨A3,n3,c3,e3⟩ := za6 r3
   injection e3 with e3
   subst e0 e1 e2 e3
   exact ⟨A3,n3,c3,rfl,r3⟩
theorem zvp : zbg Tryz.prog 188 tN :=
 zvo Tryz.underlying188 Tryz.underlying2 Tryz.underlying2 Tryz.underlying2 zh7 rfl rfl rfl rfl (by kernel_rfl) (by kernel_rfl) (by kernel_rfl) (by kernel_rfl) (by kernel_rfl)
theorem zvq : zbg Tryz.prog 96 tNS := ze9 Tryz.underlying96 (by kernel_rfl) zvp
theorem zvr {P : Program} {T : TypeId} {f0 f1 f2 f3 : Field} (hs : P.underlying T = some (.struct #[f0,f1,f2,f3])) (h0 : P.underlying f0.type = some (.int .i64)) (h1 : zbg P f1.type tSS) (h2 : zbg P f2.type tNS) (h3 : zbg P f3.type tS) (o0 : f0.offset = 0) (o1 : f1.offset = 1) (o2 : f2.offset = 2) (o3 : f3.offset = 3) (k0 : P.cellsOf f0.type = 1) (k1 : P.cellsOf f1.type = 1) (k2 : P.cellsOf f2.type = 1) (k3 : P.cellsOf f3.type = 1) (hC : P.cellsOf T = 4) : zbg P T tP :=
 zf8 hs fun w cs hl {H} enc base spare held n ys hyl hg => by
  obtain ⟨s0,g0⟩ := zb6 (i := 0) hyl hg rfl rfl o0 k0 (zdg h0)
  obtain ⟨s1,g1⟩ := zb6 (i := 1) hyl hg rfl rfl o1 k1 h1
  obtain ⟨s2,g2⟩ := zb6 (i := 2) hyl hg rfl rfl o2 k2 h2
  obtain ⟨s3,g3⟩ := zb6 (i := 3) hyl hg rfl rfl o3 k3 h3
  rw [hC] at hl
  match cs,hl with
  | [u0,u1,u2,u3],_ =>
   refine ⟨(s0,s1,s2,s3),tP_R.2 ?_⟩
   have e0 : [u0] = [Value.int .i64 s0] := g0
   injection e0 with e0
   have r1 : tSS.R w w.heap.size [u1] s1 := g1
   obtain ⟨A1,n1,c1,e1⟩ := za6 r1
   injection e1 with e1
   have r2 : tNS.R w w.heap.size [u2] s2 := g2
   obtain ⟨A2,n2,c2,e2⟩ := za6 r2
   injection e2 with e2
   have r3 : tS.R w w.heap.size [u3] s3 := g3
   obtain ⟨A3,n3,c3,e3⟩ := za6 r3
   injection e3 with e3
   subst e0 e1 e2 e3
   exact ⟨A1,n1,c1,A2,n2,c2,A3,n3,c3,rfl,r1,r2,r3⟩
theorem zvs : zbg Tryz.prog 98 tP :=
 zvr Tryz.underlying98 Tryz.underlying2 zn0 zvq zh7 rfl rfl rfl rfl (by kernel_rfl) (by kernel_rfl) (by kernel_rfl) (by kernel_rfl) (by kernel_rfl)
theorem zvt : zbg Tryz.prog 25 tPS := ze9 Tryz.underlying25 (by kernel_rfl) zvs
theorem zvu : zbg Tryz.prog 23 tTS := ze9 Tryz.underlying23 (by kernel_rfl) zvi
theorem zvv {P : Program} {T : TypeId} {f0 f1 f2 f3 f4 f5 : Field} (hs : P.underlying T = some (.struct #[f0,f1,f2,f3,f4,f5])) (h0 : P.underlying f0.type = some (.int .i64)) (h1 : zbg P f1.type tSS) (h2 : zbg P f2.type tTS) (h3 : zbg P f3.type tS) (h4 : zbg P f4.type tPS) (h5 : zbg P f5.type tM) (o0 : f0.offset = 0) (o1 : f1.offset = 1) (o2 : f2.offset = 2) (o3 : f3.offset = 3) (o4 : f4.offset = 4) (o5 : f5.offset = 5) (k0 : P.cellsOf f0.type = 1) (k1 : P.cellsOf f1.type = 1) (k2 : P.cellsOf f2.type = 1) (k3 : P.cellsOf f3.type = 1) (k4 : P.cellsOf f4.type = 1) (k5 : P.cellsOf f5.type = 1) (hC : P.cellsOf T = 6) : zbg P T tZ :=
 zf8 hs fun w cs hl {H} enc base spare held n ys hyl hg => by
  obtain ⟨s0,g0⟩ := zb6 (i := 0) hyl hg rfl rfl o0 k0 (zdg h0)
  obtain ⟨s1,g1⟩ := zb6 (i := 1) hyl hg rfl rfl o1 k1 h1
  obtain ⟨s2,g2⟩ := zb6 (i := 2) hyl hg rfl rfl o2 k2 h2
  obtain ⟨s3,g3⟩ := zb6 (i := 3) hyl hg rfl rfl o3 k3 h3
  obtain ⟨s4,g4⟩ := zb6 (i := 4) hyl hg rfl rfl o4 k4 h4
  obtain ⟨s5,g5⟩ := zb6 (i := 5) hyl hg rfl rfl o5 k5 h5
  rw [hC] at hl
  match cs,hl with
  | [u0,u1,u2,u3,u4,u5],_ =>
   refine ⟨(s0,s1,s2,s3,s4,s5),tZ_R.2 ?_⟩
   have e0 : [u0] = [Value.int .i64 s0] := g0
   injection e0 with e0
   have r1 : tSS.R w w.heap.size [u1] s1 := g1
   obtain ⟨A1,n1,c1,e1⟩ := za6 r1
   injection e1 with e1
   have r2 : tTS.R w w.heap.size [u2] s2 := g2
   obtain ⟨A2,n2,c2,e2⟩ := za6 r2
   injection e2 with e2
   have r3 : tS.R w w.heap.size [u3] s3 := g3
   obtain ⟨A3,n3,c3,e3⟩ := za6 r3
   injection e3 with e3
   have r4 : tPS.R w w.heap.size [u4] s4 := g4
   obtain ⟨A4,n4,c4,e4⟩ := za6 r4
   injection e4 with e4
   have r5 : tM.R w w.heap.size [u5] s5 := g5
   obtain ⟨A5,n5,c5,e5⟩ := za6 r5
   injection e5 with e5
   subst e0 e1 e2 e3 e4 e5
   exact ⟨A1,n1,c1,A2,n2,c2,A3,n3,c3,A4,n4,c4,A5,n5,c5,rfl,r1,r2,r3,r4,r5⟩
theorem zvw : zbg Tryz.prog 30 tZ :=
 zvv Tryz.underlying30 Tryz.underlying2 zn0 zvu zh7 zvt zvn rfl rfl rfl rfl rfl rfl (by kernel_rfl) (by kernel_rfl) (by kernel_rfl) (by kernel_rfl) (by kernel_rfl) (by kernel_rfl) (by kernel_rfl)
theorem zwa : zbg Tryz.prog 30 tZ := zvw
theorem zwb {w : World} {B : Nat} {cs : List Value} {x : Sess} (h : tZ.R w B cs x) : ∃ p A n c Ab nb cb Ac nc cc Ad nd cd Ae ne ce,cs = [.int .i64 p,.slice A n c,.slice Ab nb cb,.slice Ac nc cc,.slice Ad nd cd,.slice Ae ne ce] := by
 obtain ⟨a0,x1,x2,x3,x4,x5⟩ := x
 obtain ⟨A1,n1,c1,A2,n2,c2,A3,n3,c3,A4,n4,c4,A5,n5,c5,hcs,-⟩ := tZ_R.1 h
 exact ⟨_,_,_,_,_,_,_,_,_,_,_,_,_,_,_,_,hcs⟩
end
end Go.Proofs.YtffhodocjjkkoaaGreat
