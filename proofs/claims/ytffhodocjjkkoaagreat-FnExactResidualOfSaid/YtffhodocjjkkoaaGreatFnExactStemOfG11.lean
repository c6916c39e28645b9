import Derived.Test.YtffhodocjjkkoaaGreatFnExactStemOfG10
import Derived.StillTailTactics
import Derived.Deep.RegionWith
import Derived.Test.YtffhodocjjkkoaaGreatFnExactStemOfG5
import Derived.Deep.RegionHeld3
import Derived.Test.YtffhodocjjkkoaaGreatFnExactStemOfG6
import Derived.Test.YtffhodocjjkkoaaGreatFnExactStemOfG7
set_option linter.unusedVariables false
set_option linter.unusedSimpArgs false
set_option maxRecDepth 100000
set_option maxHeartbeats 4000000
namespace Go.Proofs.YtffhodocjjkkoaaGreat
section
open Go.RowKit
theorem zjk (A : Option Addr) (n c : Nat) (xs : List zae) (w : World) (hx : tM.R w w.heap.size [.slice A n c] xs) (hok : zay xs = true) :
 Calls Tryz.prog 96 #[.agg #[.slice A n c]] w (Ret1 2 w (zbr xs)) := by
 have rx := sl_R.1 hx
 have hlx := rx.cap.1
 have hmn := zde hok
 have hnb : 1 ≤ n ∧ n ≤ 8 := by omega
 have HLX := Lib.hid hlx
 have HOK := Lib.hid hok
 have B0 : Below w.heap.size w (w.alloc (.cells #[.slice A n c] 38)) := (Below.refl _ _).alloc (Nat.le_refl _) _
 have hself : (w.alloc (.cells #[.slice A n c] 38)).cell? ⟨w.heap.size,0,none⟩ = some (.slice A n c) := by simp [go_sem]
 have hsz : (w.alloc (.cells #[.slice A n c] 38)).heap.size = w.heap.size + 1 := by simp
 have HSZ := Lib.hid hsz
 clear hsz hlx hmn hok
 go_enter Tryz.func96,Tryz.ntmps96
 go_wp2_with (first | (go_at_call 72; refine (zeh _ _ _ _).mono ?_; rintro e w' ⟨rfl,rfl⟩) | (go_at_call 98; refine (zc5 _ _ (by omega) (by omega)).mono ?_; rintro e w1 ⟨v1,rfl,own1,bel1⟩; have hv1 : w1.cell? ⟨w.heap.size,0,none⟩ = some (.slice A n c) := (by rw [bel1.cell (by rw [HSZ.out]; simp)]; exact hself)))
 rw [Int.toNat_natCast] at own1
 obtain ⟨A1,c1,rfl,-⟩ := own1.shape
 rw [List.length_replicate] at own1 ⊢
 have own1' : OI 2 (w.heap.size + 1) w1 (.slice A1 n c1) (zcd xs 0) := by
  have h1 := own1
  rw [HSZ.out] at h1
  show OI 2 (w.heap.size + 1) w1 (.slice A1 n c1) (List.replicate xs.length 0)
  rw [HLX.out]
  exact h1
 have B1 := zaa B0 bel1
 clear own1 bel1 hself B0 hv1
 go_loopw [4,5,15] (fun _ _ i wr => ∃ k : Nat,i = .int .i64 k ∧ k ≤ n ∧ OI 2 (w.heap.size + 1) wr (.slice A1 n c1) (zcd xs k) ∧ Below w.heap.size w wr) (fun _ _ i _ => n - (intOf i).toNat)
 case atStart => exact ⟨0,rfl,by omega,own1',B1⟩
 case round =>
  obtain ⟨k,rfl,hk,own,Bw⟩ := hrel
  by_cases hlt : k < n
  · have hX := Lib.hid (List.getElem?_eq_getElem (l := xs) (i := k) (by rw [HLX.out]; exact hlt))
    obtain ⟨b,o1,cc,cs,hv,hab,-,hE,hcc⟩ := (rx.below Bw).atX hX.out
    simp only [Value.slice.injEq] at hv
    obtain ⟨rfl,-,rfl⟩ := hv
    generalize xs[k]'(by rw [HLX.out]; exact hlt) = x at hX hE
    obtain ⟨s,l,us⟩ := x
    obtain ⟨A2,n2,c2,rfl,-,hE⟩ := st_R.1 hE
    have e0 : wr.cell? ⟨b,o1 + k * 3,none⟩ = some (.string s) := hcc 0 _ rfl
    have e1 : wr.cell? ⟨b,o1 + k * 3 + 1,none⟩ = some (.int .i64 l) := hcc 1 _ rfl
    have e2 : wr.cell? ⟨b,o1 + k * 3 + 2,none⟩ = some (.slice A2 n2 c2) := hcc 2 _ rfl
    have hbr : b < wr.heap.size := Nat.lt_of_lt_of_le hab Bw.size
    have rs := (ze1 hE).1
    have hn2 := rs.1
    obtain ⟨hlat,hu4,hsb⟩ := zeo HOK.out hX.out
    have HN2 := Lib.hid hn2
    have HSB := Lib.hid hsb
    have HUP := Lib.hid (fun j => zna HOK.out hX.out j)
    obtain ⟨g,rfl,hg1,hg2⟩ := own.form' (by omega)
    have Bu := Bw.alloc Bw.size (.cells #[.string s,.int .i64 l,.slice A2 n2 c2] 78)
    have ownu := own.below ((Below.refl wr.heap.size wr).alloc (Nat.le_refl _) (.cells #[.string s,.int .i64 l,.slice A2 n2 c2] 78))
    have lb : (wr.alloc (.cells #[.string s,.int .i64 l,.slice A2 n2 c2] 78)).cell? ⟨wr.heap.size,1,none⟩ = some (.int .i64 l) := by rw [cell_of_row _ wr.heap.size 1 _ 78 (0,0) (heap_alloc_new wr _)]; rfl
    have hlu : (wr.alloc (.cells #[.string s,.int .i64 l,.slice A2 n2 c2] 78)).heap.size = wr.heap.size + 1 := by simp
    have n2b : n2 ≤ 4 := by omega
    clear hcc hE hn2 hu4 hsb
    go_wp2
    obtain ⟨wo,rfl⟩ : ∃ wo : World,wo = wr := ⟨_,rfl⟩
    go_loopw [7,23] (fun _ i wr => ∃ j : Nat,i = .int .i64 j ∧ j ≤ n2 ∧ OI 2 (w.heap.size + 1) wr (.slice (some ⟨g,0,none⟩) n c1) (zdv xs k l us j) ∧ wr.cell? ⟨wo.heap.size,1,none⟩ = some (.int .i64 l) ∧ wo.heap.size + 1 ≤ wr.heap.size ∧ Below w.heap.size w wr ∧ Below w.heap.size wo wr) (fun _ i _ => n2 - (intOf i).toNat)
    case atStart => exact ⟨0,rfl,by omega,ownu,lb,by omega,Bu,(Below.refl _ _).alloc Bw.size _⟩
    case round =>
     obtain ⟨j,rfl,hj,ownj,lj,hszj,Bj,Bo⟩ := hrel
     by_cases hlt2 : j < n2
     · obtain ⟨b2,o2,⟨p0,p1⟩,rfl,hab2,X2,hdd⟩ := (rs.below Bo).at zes (by decide) hlt2
       have f0 : wr.cell? ⟨b2,o2 + j * 2,none⟩ = some (.int .i64 p0) := hdd 0 _ rfl
       have f1 : wr.cell? ⟨b2,o2 + j * 2 + 1,none⟩ = some (.int .i64 p1) := hdd 1 _ rfl
       obtain ⟨hp1,hp2,-⟩ := zg1 HSB.out X2.out
       obtain ⟨q,rfl⟩ : ∃ q : Nat,p0 = q := ⟨p0.toNat,by omega⟩
       have hqn : q < n := by have := HLX.out; omega
       obtain ⟨x,hxx,cx,fx,-,-⟩ := ownj.at' hqn
       obtain ⟨y,hyy,cy,fy,-,-⟩ := ownj.at' hlt
       have bx := zed (HUP.out j) hxx.out
       have by_ := zed (HUP.out j) hyy.out
       have hgw : g < wr.heap.size := by omega
       have hng : ¬ g = wo.heap.size := by omega
       have hE2 := Lib.hid (zm7 (xs := xs) (k := k) (l := l) X2.out)
       have hE3 := Lib.hid (znb (k := k) (l := l) (g := p1) hxx.out hyy.out)
       have lw : wo.heap.size < wr.heap.size := by omega
       have hb2w : b2 < wr.heap.size := Nat.lt_of_lt_of_le hab2 Bj.size
       clear hdd hp1 hp2
       obtain ⟨U,hU⟩ : ∃ U,U = wr.alloc (.cells #[.int .i64 (q : Int),.int .i64 p1] 130) := ⟨_,rfl⟩
       have G0 : Below wr.heap.size wr U := by rw [hU]; exact (Below.refl _ _).alloc (Nat.le_refl _) _
       have u0 : U.cell? ⟨wr.heap.size,0,none⟩ = some (.int .i64 (q : Int)) := by rw [hU,cell_of_row _ wr.heap.size 0 _ 130 (0,0) (heap_alloc_new wr _)]; rfl
       have ux : U.cell? ⟨g,q,none⟩ = some (.int .i64 x) := by rw [G0.cell hgw]; exact cx
       have vx : U.frozen? ⟨g,q,none⟩ = false := by rw [G0.frozen hgw]; exact fx
       have uy : U.cell? ⟨g,k,none⟩ = some (.int .i64 y) := by rw [G0.cell hgw]; exact cy
       have ul : U.cell? ⟨wo.heap.size,1,none⟩ = some (.int .i64 l) := by rw [G0.cell lw]; exact lj
       have ownU := ownj.below G0
       have HU := Lib.hid hU
       have hqn2 : (q : Int) < (n : Int) := by omega
       have hkn2 : (k : Int) < (n : Int) := by omega
       clear hU
       go_wp2
       rw [← HU.out]
       refine wp_region_still_tail 17 (by kernel_rfl) (by kernel_rfl) ?_
       simp only [List.take_succ_cons,List.take_zero,List.drop_succ_cons,List.drop_zero]
       iterate 17 still_step
       refine wpStill_nil ?_
       change wpList _ _ _ _ _ U.drew
       go_wp2
       go_roundw
       case rel =>
        have h3 := OI.stored' ownU q (if x < y + l then y + l else x)
        have e3 : (zdv xs k l us j).set q (if x < y + l then y + l else x) = zdv xs k l us (j + 1) := by
         rw [hE2.out,hE3.out]
         congr 1
         split <;> omega
        rw [e3] at h3
        have z0 : w.heap.size ≤ wr.heap.size := by omega
        have z1 := G0.size
        have z2 : (U.setCell ⟨g,q,none⟩ (.int .i64 (if x < y + l then y + l else x))).heap.size = U.heap.size := by simp
        have z3 : (U.setCell ⟨g,q,none⟩ (.int .i64 (if x < y + l then y + l else x))).cell? ⟨wo.heap.size,1,none⟩ = some (.int .i64 l) := by
         rw [World.cell?_of_block (heap_setCell_other U ⟨g,q,none⟩ wo.heap.size _ (fun e => hng e.symm))]
         exact ul
        exact ⟨j + 1,by go_num,by omega,h3,z3,by show wo.heap.size + 1 ≤ (U.setCell ⟨g,q,none⟩ (.int .i64 (if x < y + l then y + l else x))).heap.size; omega,((Bj.trans (G0.mono z0)).setCell (Nat.le_trans (Nat.le_succ _) hg1) _).drew,((Bo.trans (G0.mono z0)).setCell (Nat.le_trans (Nat.le_succ _) hg1) _).drew⟩
       case measure => simp [intOf]; omega
     · obtain rfl : j = n2 := by omega
       have hend := zm8 hX.out
       rw [HN2.out] at hend
       have HE := Lib.hid hend
       clear hend
       go_wp2
       go_roundw
       case rel => exact ⟨k + 1,by go_num,by omega,by rw [← HE.out]; exact ownj,Bj⟩
       case measure => simp [intOf]; omega
  · obtain rfl : k = n := by omega
    go_wp2
    go_ret
    exact ⟨_,rfl,by rw [zbr,HLX.out]; exact own.base (by omega),Bw⟩
end
section
open Go.RowKit
theorem zt3 (a b : Int) (w : World) : Calls Tryz.prog 88 #[.int .i64 a,.int .i64 b] w fun e w' => e = .returned (.int .i64 (max a b)) ∧ w = w' := by
 by_cases h : b < a
 · have h2 := Lib.hid (show max a b = a by omega)
   go_enter Tryz.func88,Tryz.ntmps88
   go_wp2
   go_ret
   exact ⟨zar (by rw [h2.out]),rfl⟩
 · have h2 := Lib.hid (show max a b = b by omega)
   go_enter Tryz.func88,Tryz.ntmps88
   go_wp2
   go_ret
   exact ⟨zar (by rw [h2.out]),rfl⟩
theorem zjl (vb vo : Nat) (A : Option Addr) (n c : Nat) (xs : List zae) (w : World) (hv0 : w.cell? ⟨vb,vo,none⟩ = some (.slice A n c)) (hx : tM.R w w.heap.size [.slice A n c] xs) (hok : zay xs = true) :
 Calls Tryz.prog 48 #[.pointer (some ⟨vb,vo,none⟩)] w (Ret1 2 w (zbr xs)) := by
 have hvb : vb < w.heap.size := World.block_lt_of_cell? w _ hv0
 have rx := sl_R.1 hx
 have hlx := rx.cap.1
 have hmn := zde hok
 have hnb : 1 ≤ n ∧ n ≤ 8 := by omega
 have HLX := Lib.hid hlx
 have HOK := Lib.hid hok
 clear hlx hmn hok
 go_enter Tryz.func48,Tryz.ntmps48
 go_wp2_with (at_make; refine zda zbs rfl _ _ rfl n _ _ rfl rfl rfl rfl (by omega) (by unfold maxLen; omega) ?_; intro w1 own1 B1)
 have own1' : OI 2 w.heap.size w1 (.slice (some ⟨w.heap.size,0,none⟩) n n) (zcd xs 0) := by
  show OI 2 w.heap.size w1 _ (List.replicate xs.length 0)
  rw [HLX.out]
  unfold OI
  have := toList_madeCells_one (.int .i64 0) n
  simp only [Nat.mul_one,Value.cells] at own1
  rw [this] at own1
  simpa using own1
 clear own1
 go_loopw [4,5,6,7] (fun i _ _ _ wr => ∃ k : Nat,i = .int .i64 k ∧ k ≤ n ∧ OI 2 w.heap.size wr (.slice (some ⟨w.heap.size,0,none⟩) n n) (zcd xs k) ∧ Below w.heap.size w wr) (fun i _ _ _ _ => n - (intOf i).toNat)
 case atStart => exact ⟨0,rfl,by omega,own1',B1⟩
 case round =>
  obtain ⟨k,rfl,hk,own,Bw⟩ := hrel
  have c0 : wr.cell? ⟨vb,vo,none⟩ = some (.slice A n c) := by rw [Bw.cell hvb]; exact hv0
  by_cases hlt : k < n
  · have hX := Lib.hid (List.getElem?_eq_getElem (l := xs) (i := k) (by rw [HLX.out]; exact hlt))
    obtain ⟨b,o1,cc,cs,hv,hab,-,hE,hcc⟩ := (rx.below Bw).atX hX.out
    simp only [Value.slice.injEq] at hv
    obtain ⟨rfl,-,rfl⟩ := hv
    generalize xs[k]'(by rw [HLX.out]; exact hlt) = x at hX hE
    obtain ⟨s,l,us⟩ := x
    obtain ⟨A2,n2,c2,rfl,-,hE⟩ := st_R.1 hE
    have e1 : wr.cell? ⟨b,o1 + k * 3 + 1,none⟩ = some (.int .i64 l) := hcc 1 _ rfl
    have e2 : wr.cell? ⟨b,o1 + k * 3 + 2,none⟩ = some (.slice A2 n2 c2) := hcc 2 _ rfl
    have rs := (ze1 hE).1
    have hn2 := rs.1
    obtain ⟨hlat,hu4,hsb⟩ := zeo HOK.out hX.out
    have HN2 := Lib.hid hn2
    have HSB := Lib.hid hsb
    have HUP := Lib.hid (fun j => zna HOK.out hX.out j)
    have hkn2 : (k : Int) < (n : Int) := by omega
    have n2b : n2 ≤ 4 := by omega
    clear hcc hE hn2 hu4 hsb
    go_wp2
    obtain ⟨wo,rfl⟩ : ∃ wo : World,wo = wr := ⟨_,rfl⟩
    go_loopw [6,7] (fun i _ wr => ∃ j : Nat,i = .int .i64 j ∧ j ≤ n2 ∧ OI 2 w.heap.size wr (.slice (some ⟨w.heap.size,0,none⟩) n n) (zdv xs k l us j) ∧ Below w.heap.size w wr ∧ Below w.heap.size wo wr) (fun i _ _ => n2 - (intOf i).toNat)
    case atStart => exact ⟨0,rfl,by omega,own,Bw,(Below.refl _ _).mono Bw.size⟩
    case round =>
     obtain ⟨j,rfl,hj,ownj,Bj,Bo⟩ := hrel
     have g1 : wr.cell? ⟨b,o1 + k * 3 + 1,none⟩ = some (.int .i64 l) := by rw [Bo.cell hab]; exact e1
     have g2 : wr.cell? ⟨b,o1 + k * 3 + 2,none⟩ = some (.slice A2 n2 c2) := by rw [Bo.cell hab]; exact e2
     by_cases hlt2 : j < n2
     · obtain ⟨b2,o2,⟨p0,p1⟩,rfl,hab2,X2,hdd⟩ := (rs.below Bo).at zes (by decide) hlt2
       have f0 : wr.cell? ⟨b2,o2 + j * 2,none⟩ = some (.int .i64 p0) := hdd 0 _ rfl
       obtain ⟨hp1,hp2,-⟩ := zg1 HSB.out X2.out
       obtain ⟨q,rfl⟩ : ∃ q : Nat,p0 = q := ⟨p0.toNat,by omega⟩
       have hqn : q < n := by have := HLX.out; omega
       have hqn2 : (q : Int) < (n : Int) := by omega
       obtain ⟨x,hxx,cx,fx,-,-⟩ := ownj.at' hqn
       obtain ⟨y,hyy,cy,fy,-,-⟩ := ownj.at' hlt
       have bx := zed (HUP.out j) hxx.out
       have by_ := zed (HUP.out j) hyy.out
       have hE2 := Lib.hid (zm7 (xs := xs) (k := k) (l := l) X2.out)
       have hE3 := Lib.hid (znb (k := k) (l := l) (g := p1) hxx.out hyy.out)
       have hwr : w.heap.size < wr.heap.size := by
        obtain ⟨g,hg,h1,h2⟩ := ownj.form' (by omega)
        injection hg with hg
        injection hg with hg
        omega
       clear hdd hp1 hp2
       go_wp2
       refine wp_region_still_tail 17 (by kernel_rfl) (by kernel_rfl) ?_
       simp only [List.take_succ_cons,List.take_zero,List.drop_succ_cons,List.drop_zero]
       iterate 15 still_step
       still_call (zfn (zt3 _ _ _))
       still_step
       refine wpStill_nil ?_
       change wpList _ _ _ _ _ wr.drew
       go_wp2
       go_roundw
       case rel =>
        have h3 := OI.stored' ownj q (max x (y + l))
        have e3 : (zdv xs k l us j).set q (max x (y + l)) = zdv xs k l us (j + 1) := by rw [hE2.out,hE3.out]
        rw [e3] at h3
        exact ⟨j + 1,by go_num,by omega,h3,(Bj.setCell (Nat.le_refl _) _).drew,(Bo.setCell (Nat.le_refl _) _).drew⟩
       case measure => simp [intOf]; omega
     · obtain rfl : j = n2 := by omega
       have hend := zm8 hX.out
       rw [HN2.out] at hend
       have HE := Lib.hid hend
       clear hend
       go_wp2
       go_roundw
       case rel => exact ⟨k + 1,by go_num,by omega,by rw [← HE.out]; exact ownj,Bj⟩
       case measure => simp [intOf]; omega
  · obtain rfl : k = n := by omega
    go_wp2
    go_ret
    exact ⟨_,rfl,by rw [zbr,HLX.out]; exact own,Bw⟩
end
section
open Go.RowKit
def zcs (xs : List zae) : Int := ((zbr xs)[xs.length - 1]?).getD 0 + ((xs[xs.length - 1]?).getD M.sz).2.1
theorem ze5 (xs : List zae) : (zbr xs).length = xs.length := zhv _ _
theorem zhz {xs : List zae} (h : zay xs = true) : zec 2000 (zbr xs) := zhx (zhy h xs.length (Nat.le_refl _)) (by have := zde h; omega)
theorem zt4 (A : Option Addr) (n c : Nat) (xs : List zae) (w : World) (hx : tM.R w w.heap.size [.slice A n c] xs) (hok : zay xs = true) :
 Calls Tryz.prog 95 #[.agg #[.slice A n c]] w fun e w' => e = .returned (.int .i64 (zcs xs)) ∧ Below w.heap.size w w' := by
 have rx := sl_R.1 hx
 have hlx := rx.cap.1
 have hmn := zde hok
 have hnb : 1 ≤ n ∧ n ≤ 8 := by omega
 have HLX := Lib.hid hlx
 have HOK := Lib.hid hok
 obtain ⟨W,hW⟩ : ∃ W,W = w.alloc (.cells #[.slice A n c] 38) := ⟨_,rfl⟩
 have B0 : Below w.heap.size w W := by rw [hW]; exact (Below.refl _ _).alloc (Nat.le_refl _) _
 have hself : W.cell? ⟨w.heap.size,0,none⟩ = some (.slice A n c) := by rw [hW]; simp [go_sem]
 have lx : w.heap.size < W.heap.size := by rw [hW]; simp
 have HW := Lib.hid hW
 have hX := Lib.hid (List.getElem?_eq_getElem (l := xs) (i := n - 1) (by omega))
 obtain ⟨b,o1,cc,cs,hv,hab,-,hE,hcc⟩ := (rx.below B0).atX hX.out
 simp only [Value.slice.injEq] at hv
 obtain ⟨rfl,-,rfl⟩ := hv
 generalize xs[n - 1]'(by omega) = x at hX hE
 obtain ⟨s,l,us⟩ := x
 obtain ⟨A2,n2,c2,rfl,-,-⟩ := st_R.1 hE
 have e1 : W.cell? ⟨b,o1 + (n - 1) * 3 + 1,none⟩ = some (.int .i64 l) := hcc 1 _ rfl
 obtain ⟨hlat,-,-⟩ := zeo HOK.out hX.out
 have hEl := Lib.hid (List.getElem?_eq_getElem (l := zbr xs) (i := n - 1) (by rw [ze5]; omega))
 generalize (zbr xs)[n - 1]'(by rw [ze5]; omega) = t at hEl
 have hbt := zed (zhz HOK.out) hEl.out
 have HT := Lib.hid (show zcs xs = t + l by rw [zcs,HLX.out,hEl.out,hX.out]; rfl)
 have hkk : IntKind.i64.wrap ((n : Int) - 1) = ((n - 1 : Nat) : Int) := by rw [IntWalk.i64_in _ (by omega)]; omega
 have i0 : (0 : Int) ≤ ((n - 1 : Nat) : Int) := by omega
 have i1 : ((n - 1 : Nat) : Int) < (n : Int) := by omega
 have i2 : n - 1 < n := by omega
 have htl : IntKind.i64.wrap (t + l) = t + l := IntWalk.i64_in _ (by omega)
 have D1 : Below W.heap.size W (W.drewN 1) := zac (Below.refl _ _) 1
 have hxd := tM.later hx (zaa B0 D1)
 have lb : b < W.heap.size := Nat.lt_of_lt_of_le hab B0.size
 clear hcc hE hlx hmn hok hW
 go_enter Tryz.func95,Tryz.ntmps95
 go_wp2
 rw [← HW.out]
 go_region_with
  (first | (go_at_call 96; refine (zjk _ _ _ _ _ hxd HOK.out).mono ?_; rintro e w2 ⟨v2,rfl,own2,bel2⟩; obtain ⟨A3,c3,rfl,-⟩ := own2.shape; have hl3 := ze5 xs; rw [HLX.out] at hl3; rw [hl3] at own2 ⊢; clear hl3; obtain ⟨g,rfl,-,-⟩ := own2.form' (show 0 < n by omega); obtain ⟨t2,hT2,hct,-,-,-⟩ := own2.at' i2; have e9 := hT2.out; rw [hEl.out] at e9; injection e9 with e9; rw [← e9] at hct; clear e9; have G2 := zaa D1 bel2; have hself2 : w2.cell? ⟨w.heap.size,0,none⟩ = some (.slice (some ⟨b,o1,none⟩) n c) := (by rw [G2.cell lx]; exact hself); have e12 : w2.cell? ⟨b,o1 + (n - 1) * 3 + 1,none⟩ = some (.int .i64 l) := (by rw [G2.cell lb]; exact e1)))
 all_goals
  go_wp2
  go_ret
  exact ⟨zar (by rw [HT.out]),zaa B0 G2⟩
theorem zjm (vb vo : Nat) (A : Option Addr) (n c : Nat) (xs : List zae) (W : World) (hself : W.cell? ⟨vb,vo,none⟩ = some (.slice A n c)) (hx : tM.R W W.heap.size [.slice A n c] xs) (hok : zay xs = true) :
 Calls Tryz.prog 68 #[.pointer (some ⟨vb,vo,none⟩)] W fun e w' => e = .returned (.int .i64 (zcs xs)) ∧ Below W.heap.size W w' := by
 have lx : vb < W.heap.size := World.block_lt_of_cell? W _ hself
 have rx := sl_R.1 hx
 have hlx := rx.cap.1
 have hmn := zde hok
 have hnb : 1 ≤ n ∧ n ≤ 8 := by omega
 have HLX := Lib.hid hlx
 have HOK := Lib.hid hok
 have hX := Lib.hid (List.getElem?_eq_getElem (l := xs) (i := n - 1) (by omega))
 obtain ⟨b,o1,cc,cs,hv,hab,-,hE,hcc⟩ := rx.atX hX.out
 simp only [Value.slice.injEq] at hv
 obtain ⟨rfl,-,rfl⟩ := hv
 generalize xs[n - 1]'(by omega) = x at hX hE
 obtain ⟨s,l,us⟩ := x
 obtain ⟨A2,n2,c2,rfl,-,-⟩ := st_R.1 hE
 have e1 : W.cell? ⟨b,o1 + (n - 1) * 3 + 1,none⟩ = some (.int .i64 l) := hcc 1 _ rfl
 obtain ⟨hlat,-,-⟩ := zeo HOK.out hX.out
 have hEl := Lib.hid (List.getElem?_eq_getElem (l := zbr xs) (i := n - 1) (by rw [ze5]; omega))
 generalize (zbr xs)[n - 1]'(by rw [ze5]; omega) = t at hEl
 have hbt := zed (zhz HOK.out) hEl.out
 have HT := Lib.hid (show zcs xs = t + l by rw [zcs,HLX.out,hEl.out,hX.out]; rfl)
 have hkk : IntKind.i64.wrap ((n : Int) - 1) = ((n - 1 : Nat) : Int) := by rw [IntWalk.i64_in _ (by omega)]; omega
 have i0 : (0 : Int) ≤ ((n - 1 : Nat) : Int) := by omega
 have i1 : ((n - 1 : Nat) : Int) < (n : Int) := by omega
 have i2 : n - 1 < n := by omega
 have htl : IntKind.i64.wrap (t + l) = t + l := IntWalk.i64_in _ (by omega)
 have D1 : Below W.heap.size W (W.drewN 1) := zac (Below.refl _ _) 1
 have hxd := tM.later hx D1
 have hsd : (W.drewN 1).cell? ⟨vb,vo,none⟩ = some (.slice (some ⟨b,o1,none⟩) n c) := by rw [D1.cell lx]; exact hself
 clear hcc hE hlx hmn hok
 go_enter Tryz.func68,Tryz.ntmps68
 go_wp2
 go_region_with
  (first | (go_at_call 48; refine (zjl _ _ _ _ _ _ _ hsd hxd HOK.out).mono ?_; rintro e w2 ⟨v2,rfl,own2,bel2⟩; obtain ⟨A3,c3,rfl,-⟩ := own2.shape; have hl3 := ze5 xs; rw [HLX.out] at hl3; rw [hl3] at own2 ⊢; clear hl3; obtain ⟨g,rfl,-,-⟩ := own2.form' (show 0 < n by omega); obtain ⟨t2,hT2,hct,-,-,-⟩ := own2.at' i2; have e9 := hT2.out; rw [hEl.out] at e9; injection e9 with e9; rw [← e9] at hct; clear e9; have G2 := zaa D1 bel2; have hself2 : w2.cell? ⟨vb,vo,none⟩ = some (.slice (some ⟨b,o1,none⟩) n c) := (by rw [G2.cell lx]; exact hself); have e12 : w2.cell? ⟨b,o1 + (n - 1) * 3 + 1,none⟩ = some (.int .i64 l) := (by rw [G2.cell hab]; exact e1)))
 all_goals
  go_wp2
  go_ret
  exact ⟨zar (by rw [HT.out]),G2⟩
end
section
open Go.RowKit
def znc (es : List Int) (k : Nat) (l : Int) (p : Int × Int) : Int := (es[p.1.toNat]?).getD 0 - (es[k]?).getD 0 - l
def zbz (xs : List zae) (k : Nat) : List Int := ((xs[k]?).getD M.sz).2.2.map (znc (zbr xs) k ((xs[k]?).getD M.sz).2.1)
def zb8 (xs : List zae) : List (List Int) := (List.range xs.length).map (zbz xs)
theorem zh0 (xs : List zae) : (zb8 xs).length = xs.length := by simp [zb8]
theorem zjn {xs : List zae} {k : Nat} (h : k < xs.length) : (zb8 xs)[k]? = some (zbz xs k) := by simp [zb8,h]
theorem znd {xs : List zae} {k : Nat} {s : ByteArray} {l : Int} {us : List (Int × Int)} (h : xs[k]? = some (s,l,us)) : (zbz xs k).length = us.length := by simp [zbz,h]
theorem zne {xs : List zae} {k : Nat} {s : ByteArray} {l : Int} {us : List (Int × Int)} (h : xs[k]? = some (s,l,us)) {j q : Nat} {g x y : Int} (hj : us[j]? = some ((q : Int),g)) (hx : (zbr xs)[q]? = some x) (hy : (zbr xs)[k]? = some y) : (zbz xs k)[j]? = some (x - y - l) := by
 simp [zbz,h,hj,znc,hx,hy]
theorem zt5 (A : Option Addr) (n c : Nat) (xs : List zae) (w : World) (hx : tM.R w w.heap.size [.slice A n c] xs) (hok : zay xs = true) :
 Calls Tryz.prog 97 #[.agg #[.slice A n c]] w fun e w' => ∃ v,e = .returned v ∧ OS tS 24 w' (Iv w.heap.size w'.heap.size) v (zb8 xs) ∧ Below w.heap.size w w' := by
 have rx := sl_R.1 hx
 have hlx := rx.cap.1
 have hmn := zde hok
 have hnb : 1 ≤ n ∧ n ≤ 8 := by omega
 have HLX := Lib.hid hlx
 have HOK := Lib.hid hok
 have hel := ze5 xs
 rw [hlx] at hel
 have HEL := Lib.hid hel
 have HUP := Lib.hid (zhz hok)
 have hdl : (zb8 xs).length = n := by rw [zh0]; exact hlx
 have HDL := Lib.hid hdl
 obtain ⟨W,hW⟩ : ∃ W,W = w.alloc (.cells #[.slice A n c] 38) := ⟨_,rfl⟩
 have B0 : Below w.heap.size w W := by rw [hW]; exact (Below.refl _ _).alloc (Nat.le_refl _) _
 have hself : W.cell? ⟨w.heap.size,0,none⟩ = some (.slice A n c) := by rw [hW]; simp [go_sem]
 have lx : w.heap.size < W.heap.size := by rw [hW]; simp
 have hxW := tM.later hx B0
 have HW := Lib.hid hW
 clear hlx hmn hok hel hdl hW
 go_enter Tryz.func97,Tryz.ntmps97
 go_wp2_with fail
 rw [← HW.out]
 go_wp2_with (go_at_call 96; refine (zjk _ _ _ _ _ hxW HOK.out).mono ?_; rintro e w3 ⟨v3,rfl,own3,bel3⟩; obtain ⟨A3,c3,rfl,-⟩ := own3.shape; rw [HEL.out] at own3 ⊢; obtain ⟨g,rfl,hg1,hg2⟩ := own3.form' (show 0 < n by omega); have hs3 : w3.cell? ⟨w.heap.size,0,none⟩ = some (.slice A n c) := (by rw [bel3.cell lx]; exact hself); have lw3 : w.heap.size < w3.heap.size := Nat.lt_of_lt_of_le lx bel3.size)
 have B03 : Below w.heap.size w w3 := zaa B0 bel3
 have hw3 := B03.size
 clear bel3 hself B0 hxW
 go_loopw [4,5,6,7,9,16,25] (fun v _ _ _ _ i _ wr => ∃ k : Nat,i = .int .i64 k ∧ k ≤ n ∧ OS tS 24 wr (Iv w3.heap.size wr.heap.size) v ((zb8 xs).take k) ∧ Below w3.heap.size w3 wr) (fun _ _ _ _ _ i _ _ => n - (intOf i).toNat)
 case atStart => exact ⟨0,rfl,by omega,OS.made0 _ _ _,(Below.refl _ _).alloc (Nat.le_refl _) _⟩
 case round =>
  obtain ⟨k,rfl,hk,own,Bw⟩ := hrel
  have hsb := Bw.size
  have BW := zaa B03 Bw
  have hpl : ((zb8 xs).take k).length ≤ 8 := by rw [List.length_take]; omega
  by_cases hlt : k < n
  · have hX := Lib.hid (List.getElem?_eq_getElem (l := xs) (i := k) (by rw [HLX.out]; exact hlt))
    obtain ⟨b,o1,cc,cs,hv,hab,-,hE,hcc⟩ := (rx.below BW).atX hX.out
    simp only [Value.slice.injEq] at hv
    obtain ⟨rfl,-,rfl⟩ := hv
    generalize xs[k]'(by rw [HLX.out]; exact hlt) = x at hX hE
    obtain ⟨s,l,us⟩ := x
    obtain ⟨A2,n2,c2,rfl,-,hE⟩ := st_R.1 hE
    have e0 : wr.cell? ⟨b,o1 + k * 3,none⟩ = some (.string s) := hcc 0 _ rfl
    have e1 : wr.cell? ⟨b,o1 + k * 3 + 1,none⟩ = some (.int .i64 l) := hcc 1 _ rfl
    have e2 : wr.cell? ⟨b,o1 + k * 3 + 2,none⟩ = some (.slice A2 n2 c2) := hcc 2 _ rfl
    have hbr : b < wr.heap.size := Nat.lt_of_lt_of_le hab BW.size
    have rs := (ze1 hE).1
    have hn2 := rs.1
    obtain ⟨hlat,hu4,hsb2⟩ := zeo HOK.out hX.out
    have HSB := Lib.hid hsb2
    have n2b : n2 ≤ 4 := by omega
    have hkn2 : (k : Int) < (n : Int) := by omega
    have hrl : (zbz xs k).length = n2 := by rw [znd hX.out]; exact hn2
    have HRL := Lib.hid hrl
    have hpt := Lib.hid (M.take_at (zjn (xs := xs) (k := k) (by rw [HLX.out]; exact hlt)))
    clear hcc hE hn2 hu4 hsb2 hrl
    go_wp2
    obtain ⟨wo,rfl⟩ : ∃ wo : World,wo = wr := ⟨_,rfl⟩
    obtain ⟨U,hU⟩ : ∃ U,U = wo.alloc (.cells #[.string s,.int .i64 l,.slice A2 n2 c2] 78) := ⟨_,rfl⟩
    rw [← hU]
    have BUo : Below wo.heap.size wo U := by rw [hU]; exact (Below.refl _ _).alloc (Nat.le_refl _) _
    have HSU : U.heap.size = wo.heap.size + 1 := by rw [hU]; simp
    have lb : U.cell? ⟨wo.heap.size,1,none⟩ = some (.int .i64 l) := by rw [hU,cell_of_row _ wo.heap.size 1 _ 78 (0,0) (heap_alloc_new wo _)]; rfl
    have own0 := OI.made 2 U
    have BU0 : Below U.heap.size U (U.alloc (.cells #[] 2)) := (Below.refl _ _).alloc (Nat.le_refl _) _
    rw [HSU] at own0
    go_loopw [7,9,25] (fun v _ i wr => ∃ j : Nat,i = .int .i64 j ∧ j ≤ n2 ∧ OI 2 (wo.heap.size + 1) wr v ((zbz xs k).take j) ∧ Below (wo.heap.size + 1) U wr) (fun _ _ i _ => n2 - (intOf i).toNat)
    case atStart => exact ⟨0,rfl,by omega,own0,by rw [← HSU]; exact BU0⟩
    case round =>
     obtain ⟨j,rfl,hj,ownj,BU⟩ := hrel
     have hszj : wo.heap.size + 1 ≤ wr.heap.size := by have := BU.size; omega
     have Bo : Below wo.heap.size wo wr := BUo.trans (BU.mono (Nat.le_succ _))
     have lj : wr.cell? ⟨wo.heap.size,1,none⟩ = some (.int .i64 l) := by rw [BU.cell (Nat.lt_succ_self _)]; exact lb
     have ownE := own3.below (Bw.trans (Bo.mono hsb))
     have hpj : ((zbz xs k).take j).length ≤ 4 := by rw [List.length_take]; omega
     by_cases hlt2 : j < n2
     · obtain ⟨b2,o2,⟨p0,p1⟩,rfl,hab2,X2,hdd⟩ := (rs.below (Bo.mono BW.size)).at zes (by decide) hlt2
       have f0 : wr.cell? ⟨b2,o2 + j * 2,none⟩ = some (.int .i64 p0) := hdd 0 _ rfl
       have f1 : wr.cell? ⟨b2,o2 + j * 2 + 1,none⟩ = some (.int .i64 p1) := hdd 1 _ rfl
       obtain ⟨hp1,hp2,-⟩ := zg1 HSB.out X2.out
       obtain ⟨q,rfl⟩ : ∃ q : Nat,p0 = q := ⟨p0.toNat,by omega⟩
       have hqn : q < n := by have := HLX.out; omega
       have hqn2 : (q : Int) < (n : Int) := by omega
       obtain ⟨x,hxx,cx,-,-,gw⟩ := ownE.at' hqn
       obtain ⟨y,hyy,cy,-,-,-⟩ := ownE.at' hlt
       have bx := zed HUP.out hxx.out
       have by_ := zed HUP.out hyy.out
       have hP := Lib.hid (M.take_at (zne hX.out X2.out hxx.out hyy.out))
       have w1_ : IntKind.i64.wrap (x - y) = x - y := IntWalk.i64_in _ (by omega)
       have w2_ : IntKind.i64.wrap (x - y - l) = x - y - l := IntWalk.i64_in _ (by omega)
       clear hdd hp1 hp2
       obtain ⟨V,hV⟩ : ∃ V,V = wr.alloc (.cells #[.int .i64 (q : Int),.int .i64 p1] 130) := ⟨_,rfl⟩
       have G0 : Below wr.heap.size wr V := by rw [hV]; exact (Below.refl _ _).alloc (Nat.le_refl _) _
       have u0 : V.cell? ⟨wr.heap.size,0,none⟩ = some (.int .i64 (q : Int)) := by rw [hV,cell_of_row _ wr.heap.size 0 _ 130 (0,0) (heap_alloc_new wr _)]; rfl
       have ux : V.cell? ⟨g,q,none⟩ = some (.int .i64 x) := by rw [G0.cell gw]; exact cx
       have uy : V.cell? ⟨g,k,none⟩ = some (.int .i64 y) := by rw [G0.cell gw]; exact cy
       have ul : V.cell? ⟨wo.heap.size,1,none⟩ = some (.int .i64 l) := by rw [G0.cell (show (⟨wo.heap.size,1,none⟩ : Addr).block < _ from hszj)]; exact lj
       have ownV := ownj.below G0
       have lV : wr.heap.size < V.heap.size := by rw [hV]; simp
       have HV := Lib.hid hV
       have hsV := G0.size
       have BA : ∀ us,Below V.heap.size V (V.alloc (.cells us 2)).drew := fun us => ((Below.refl _ _).alloc (Nat.le_refl _) _).drew
       have gV : g < V.heap.size := by omega
       have oV : wo.heap.size < V.heap.size := by omega
       have gB : g < wo.heap.size + 1 := by omega
       have oB : wo.heap.size < wo.heap.size + 1 := Nat.lt_succ_self _
       have ownV0 : V.ownsRow (wo.heap.size + 1) 2 1 _ ((zbz xs k).take j).length (((zbz xs k).take j).map (.int .i64)) := ownV
       have c1_ : ((zbz xs k).take j).length + 1 ≤ maxLen := by unfold maxLen; omega
       have c2_ : (((zbz xs k).take j).length + 1) * 8 ≤ 140737488355328 := by omega
       have c3_ : wo.heap.size + 1 ≤ V.heap.size := by omega
       clear hV
       go_wp2
       rw [← HV.out]
       have hne : ∀ {v : Value},OI 2 (wo.heap.size + 1) wr v ((zbz xs k).take j) → v.ownBlock ≠ some wr.heap.size := fun h h2 => Nat.lt_irrefl _ (World.ownsRow.lt h _ h2).2
       go_region_held3 (fun w' => w'.cell? ⟨wr.heap.size,0,none⟩ = some (.int .i64 (q : Int)) ∧ w'.cell? ⟨g,q,none⟩ = some (.int .i64 x) ∧ w'.cell? ⟨g,k,none⟩ = some (.int .i64 y) ∧ w'.cell? ⟨wo.heap.size,1,none⟩ = some (.int .i64 l))
        (first | exact ⟨u0,ux,uy,ul⟩ | exact ⟨((BA _).cell lV).trans u0,((BA _).cell gV).trans ux,((BA _).cell gV).trans uy,((BA _).cell oV).trans ul⟩ | exact ⟨z0,z1,z2,z3⟩)
        (first | (refine zkd (o := ⟨some 44,_,_,_,_,_⟩) zbs rfl (.tmp 29) (.tmp 43) rfl (World.ownsRow.drew (World.ownsRow.alloc ownV0 _)) rfl rfl (zh9 _ _ _) rfl c1_ c2_ (zke c3_) ?_; intro v1 w1 own1 gr1 bel1; have z0 : w1.cell? ⟨wr.heap.size,0,none⟩ = some (.int .i64 (q : Int)) := (by rw [World.cell?_of_block (gr1.block wr.heap.size (Nat.lt_of_lt_of_le lV (BA _).size) (hne ownj).symm),(BA _).cell (show (⟨wr.heap.size,0,none⟩ : Addr).block < _ from lV)]; exact u0); have z1 : w1.cell? ⟨g,q,none⟩ = some (.int .i64 x) := (by rw [bel1.cell (show (⟨g,q,none⟩ : Addr).block < _ from gB),(BA _).cell (show (⟨g,q,none⟩ : Addr).block < _ from gV)]; exact ux); have z2 : w1.cell? ⟨g,k,none⟩ = some (.int .i64 y) := (by rw [bel1.cell (show (⟨g,k,none⟩ : Addr).block < _ from gB),(BA _).cell (show (⟨g,k,none⟩ : Addr).block < _ from gV)]; exact uy); have z3 : w1.cell? ⟨wo.heap.size,1,none⟩ = some (.int .i64 l) := (by rw [bel1.cell (show (⟨wo.heap.size,1,none⟩ : Addr).block < _ from oB),(BA _).cell (show (⟨wo.heap.size,1,none⟩ : Addr).block < _ from oV)]; exact ul)))
       go_wp2
       go_roundw
       case rel => exact ⟨j + 1,by go_num,by omega,by rw [hP.out]; exact OI.push own1,((BU.trans (G0.mono hszj)).trans ((BA _).mono c3_)).trans bel1⟩
       case measure => simp [intOf]; omega
     · obtain rfl : j = n2 := by omega
       rw [List.take_of_length_le (by rw [HRL.out]; exact Nat.le_refl _)] at ownj
       obtain ⟨A4,c4,rfl,-⟩ := ownj.shape
       have ow := own.below Bo (Nat.le_refl _)
       have os2 := tS_O.2 (OI.os (OI.base ownj (show wo.heap.size ≤ _ by omega)))
       have s2 := Bo.size
       go_wp2_with (at_builtin; refine zca ei_S #[.slice A4 (zbz xs k).length c4] rfl _ _ rfl ow os2 (Iv.apart (Nat.le_refl _)) rfl rfl (by unfold maxLen; omega) (by omega) ?_; intro v3 w4 own4 ch4)
       go_roundw
       case rel =>
        refine ⟨k + 1,by go_num,by omega,?_,(Bw.trans (Bo.mono hsb)).trans (ch4.toBelow (fun b hb => hb.1) (by omega))⟩
        rw [hpt.out]
        exact own4.wide (Iv.grow hsb s2 ch4.size)
       case measure => simp [intOf]; omega
  · obtain rfl : k = n := by omega
    go_wp2
    go_ret
    rw [List.take_of_length_le (by rw [HDL.out]; exact Nat.le_refl _)] at own
    exact ⟨_,rfl,own.wide (fun b hb => ⟨Nat.le_trans hw3 hb.1,hb.2⟩),BW⟩
theorem zt6 (vb vo : Nat) (A : Option Addr) (n c : Nat) (xs : List zae) (w : World) (hv0 : w.cell? ⟨vb,vo,none⟩ = some (.slice A n c)) (hx : tM.R w w.heap.size [.slice A n c] xs) (hok : zay xs = true) :
 Calls Tryz.prog 89 #[.pointer (some ⟨vb,vo,none⟩)] w fun e w' => ∃ v,e = .returned v ∧ OS tS 24 w' (Iv w.heap.size w'.heap.size) v (zb8 xs) ∧ Below w.heap.size w w' := by
 have hvb : vb < w.heap.size := World.block_lt_of_cell? w _ hv0
 have rx := sl_R.1 hx
 have hlx := rx.cap.1
 have hmn := zde hok
 have hnb : 1 ≤ n ∧ n ≤ 8 := by omega
 have HLX := Lib.hid hlx
 have HOK := Lib.hid hok
 have hel := ze5 xs
 rw [hlx] at hel
 have HEL := Lib.hid hel
 have HUP := Lib.hid (zhz hok)
 have hdl : (zb8 xs).length = n := by rw [zh0]; exact hlx
 have HDL := Lib.hid hdl
 clear hlx hmn hok hel hdl
 go_enter Tryz.func89,Tryz.ntmps89
 go_wp2_with (go_at_call 48; refine (zjl _ _ _ _ _ _ _ hv0 hx HOK.out).mono ?_; rintro e w3 ⟨v3,rfl,own3,bel3⟩; obtain ⟨A3,c3,rfl,-⟩ := own3.shape; rw [HEL.out] at own3 ⊢; obtain ⟨g,rfl,hg1,hg2⟩ := own3.form' (show 0 < n by omega))
 have B03 := bel3
 have hw3 := B03.size
 clear bel3
 go_loopw [4,5,6,7,8] (fun v i _ _ _ wr => ∃ k : Nat,i = .int .i64 k ∧ k ≤ n ∧ OS tS 24 wr (Iv w3.heap.size wr.heap.size) v ((zb8 xs).take k) ∧ Below w3.heap.size w3 wr) (fun _ i _ _ _ _ => n - (intOf i).toNat)
 case atStart => exact ⟨0,rfl,by omega,OS.made0 _ _ _,(Below.refl _ _).alloc (Nat.le_refl _) _⟩
 case round =>
  obtain ⟨k,rfl,hk,own,Bw⟩ := hrel
  have hsb := Bw.size
  have BW := zaa B03 Bw
  have hpl : ((zb8 xs).take k).length ≤ 8 := by rw [List.length_take]; omega
  have c0 : wr.cell? ⟨vb,vo,none⟩ = some (.slice A n c) := by rw [BW.cell hvb]; exact hv0
  by_cases hlt : k < n
  · have hX := Lib.hid (List.getElem?_eq_getElem (l := xs) (i := k) (by rw [HLX.out]; exact hlt))
    obtain ⟨b,o1,cc,cs,hv,hab,-,hE,hcc⟩ := (rx.below BW).atX hX.out
    simp only [Value.slice.injEq] at hv
    obtain ⟨rfl,-,rfl⟩ := hv
    generalize xs[k]'(by rw [HLX.out]; exact hlt) = x at hX hE
    obtain ⟨s,l,us⟩ := x
    obtain ⟨A2,n2,c2,rfl,-,hE⟩ := st_R.1 hE
    have e0 : wr.cell? ⟨b,o1 + k * 3,none⟩ = some (.string s) := hcc 0 _ rfl
    have e1 : wr.cell? ⟨b,o1 + k * 3 + 1,none⟩ = some (.int .i64 l) := hcc 1 _ rfl
    have e2 : wr.cell? ⟨b,o1 + k * 3 + 2,none⟩ = some (.slice A2 n2 c2) := hcc 2 _ rfl
    have hbr : b < wr.heap.size := Nat.lt_of_lt_of_le hab BW.size
    have rs := (ze1 hE).1
    have hn2 := rs.1
    obtain ⟨hlat,hu4,hsb2⟩ := zeo HOK.out hX.out
    have HSB := Lib.hid hsb2
    have n2b : n2 ≤ 4 := by omega
    have hkn2 : (k : Int) < (n : Int) := by omega
    have hrl : (zbz xs k).length = n2 := by rw [znd hX.out]; exact hn2
    have HRL := Lib.hid hrl
    have hpt := Lib.hid (M.take_at (zjn (xs := xs) (k := k) (by rw [HLX.out]; exact hlt)))
    clear hcc hE hn2 hu4 hsb2 hrl
    go_wp2
    obtain ⟨wo,rfl⟩ : ∃ wo : World,wo = wr := ⟨_,rfl⟩
    go_loopw [7,8] (fun v i wr => ∃ j : Nat,i = .int .i64 j ∧ j ≤ n2 ∧ OI 2 wo.heap.size wr v ((zbz xs k).take j) ∧ Below wo.heap.size wo wr) (fun _ i _ => n2 - (intOf i).toNat)
    case atStart => exact ⟨0,rfl,by omega,OI.made _ _,(Below.refl _ _).alloc (Nat.le_refl _) _⟩
    case round =>
     obtain ⟨j,rfl,hj,ownj,Bo⟩ := hrel
     have hszj : wo.heap.size ≤ wr.heap.size := Bo.size
     have g1 : wr.cell? ⟨b,o1 + k * 3 + 1,none⟩ = some (.int .i64 l) := by rw [Bo.cell hbr]; exact e1
     have g2 : wr.cell? ⟨b,o1 + k * 3 + 2,none⟩ = some (.slice A2 n2 c2) := by rw [Bo.cell hbr]; exact e2
     have ownE := own3.below (Bw.trans (Bo.mono hsb))
     have hpj : ((zbz xs k).take j).length ≤ 4 := by rw [List.length_take]; omega
     by_cases hlt2 : j < n2
     · obtain ⟨b2,o2,⟨p0,p1⟩,rfl,hab2,X2,hdd⟩ := (rs.below (Bo.mono BW.size)).at zes (by decide) hlt2
       have f0 : wr.cell? ⟨b2,o2 + j * 2,none⟩ = some (.int .i64 p0) := hdd 0 _ rfl
       have f1 : wr.cell? ⟨b2,o2 + j * 2 + 1,none⟩ = some (.int .i64 p1) := hdd 1 _ rfl
       obtain ⟨hp1,hp2,-⟩ := zg1 HSB.out X2.out
       obtain ⟨q,rfl⟩ : ∃ q : Nat,p0 = q := ⟨p0.toNat,by omega⟩
       have hqn : q < n := by have := HLX.out; omega
       have hqn2 : (q : Int) < (n : Int) := by omega
       obtain ⟨x,hxx,cx,-,-,gw⟩ := ownE.at' hqn
       obtain ⟨y,hyy,cy,-,-,-⟩ := ownE.at' hlt
       have bx := zed HUP.out hxx.out
       have by_ := zed HUP.out hyy.out
       have hP := Lib.hid (M.take_at (zne hX.out X2.out hxx.out hyy.out))
       have w1_ : IntKind.i64.wrap (x - y) = x - y := IntWalk.i64_in _ (by omega)
       have w2_ : IntKind.i64.wrap (x - y - l) = x - y - l := IntWalk.i64_in _ (by omega)
       clear hdd hp1 hp2
       have hb2w : b2 < wr.heap.size := Nat.lt_of_lt_of_le hab2 (Nat.le_trans BW.size Bo.size)
       have BA : ∀ us,Below wr.heap.size wr (wr.alloc (.cells us 2)).drew := fun us => ((Below.refl _ _).alloc (Nat.le_refl _) _).drew
       have gV : g < wr.heap.size := by omega
       have gB : g < wo.heap.size := by omega
       have bV : b < wr.heap.size := by omega
       have hbo : b < wo.heap.size := hbr
       have hb2o : b2 < wo.heap.size := Nat.lt_of_lt_of_le hab2 BW.size
       have ownV0 : wr.ownsRow wo.heap.size 2 1 _ ((zbz xs k).take j).length (((zbz xs k).take j).map (.int .i64)) := ownj
       have c1_ : ((zbz xs k).take j).length + 1 ≤ maxLen := by unfold maxLen; omega
       have c2_ : (((zbz xs k).take j).length + 1) * 8 ≤ 140737488355328 := by omega
       go_wp2
       go_region_held3 (fun w' => w'.cell? ⟨b,o1 + k * 3 + 2,none⟩ = some (.slice (some ⟨b2,o2,none⟩) n2 c2) ∧ w'.cell? ⟨b2,o2 + j * 2,none⟩ = some (.int .i64 (q : Int)) ∧ w'.cell? ⟨g,q,none⟩ = some (.int .i64 x) ∧ w'.cell? ⟨g,k,none⟩ = some (.int .i64 y) ∧ w'.cell? ⟨b,o1 + k * 3 + 1,none⟩ = some (.int .i64 l))
        (first | exact ⟨g2,f0,cx,cy,g1⟩ | exact ⟨((BA _).cell bV).trans g2,((BA _).cell hb2w).trans f0,((BA _).cell gV).trans cx,((BA _).cell gV).trans cy,((BA _).cell bV).trans g1⟩ | exact ⟨z1,z2,z3,z4,z5⟩)
        (first | (refine zkd (o := ⟨some 60,_,_,_,_,_⟩) zbs rfl (.tmp 37) (.tmp 59) rfl (World.ownsRow.drew (World.ownsRow.alloc ownV0 _)) rfl rfl (zh9 _ _ _) rfl c1_ c2_ (zke hszj) ?_; intro v1 w1 own1 gr1 bel1; have z1 : w1.cell? ⟨b,o1 + k * 3 + 2,none⟩ = some (.slice (some ⟨b2,o2,none⟩) n2 c2) := (by rw [bel1.cell (show (⟨b,o1 + k * 3 + 2,none⟩ : Addr).block < _ from hbo),(BA _).cell (show (⟨b,o1 + k * 3 + 2,none⟩ : Addr).block < _ from bV)]; exact g2); have z2 : w1.cell? ⟨b2,o2 + j * 2,none⟩ = some (.int .i64 (q : Int)) := (by rw [bel1.cell (show (⟨b2,o2 + j * 2,none⟩ : Addr).block < _ from hb2o),(BA _).cell (show (⟨b2,o2 + j * 2,none⟩ : Addr).block < _ from hb2w)]; exact f0); have z3 : w1.cell? ⟨g,q,none⟩ = some (.int .i64 x) := (by rw [bel1.cell (show (⟨g,q,none⟩ : Addr).block < _ from gB),(BA _).cell (show (⟨g,q,none⟩ : Addr).block < _ from gV)]; exact cx); have z4 : w1.cell? ⟨g,k,none⟩ = some (.int .i64 y) := (by rw [bel1.cell (show (⟨g,k,none⟩ : Addr).block < _ from gB),(BA _).cell (show (⟨g,k,none⟩ : Addr).block < _ from gV)]; exact cy); have z5 : w1.cell? ⟨b,o1 + k * 3 + 1,none⟩ = some (.int .i64 l) := (by rw [bel1.cell (show (⟨b,o1 + k * 3 + 1,none⟩ : Addr).block < _ from hbo),(BA _).cell (show (⟨b,o1 + k * 3 + 1,none⟩ : Addr).block < _ from bV)]; exact g1)))
       go_wp2
       go_roundw
       case rel => exact ⟨j + 1,by go_num,by omega,by rw [hP.out]; exact OI.push own1,(Bo.trans ((BA _).mono hszj)).trans bel1⟩
       case measure => simp [intOf]; omega
     · obtain rfl : j = n2 := by omega
       rw [List.take_of_length_le (by rw [HRL.out]; exact Nat.le_refl _)] at ownj
       obtain ⟨A4,c4,rfl,-⟩ := ownj.shape
       have ow := own.below Bo (Nat.le_refl _)
       have os2 := tS_O.2 (OI.os (OI.base ownj (show wo.heap.size ≤ _ by omega)))
       have s2 := Bo.size
       go_wp2_with (at_builtin; refine zca ei_S #[.slice A4 (zbz xs k).length c4] rfl _ _ rfl ow os2 (Iv.apart (Nat.le_refl _)) rfl rfl (by unfold maxLen; omega) (by omega) ?_; intro v3 w4 own4 ch4)
       go_roundw
       case rel =>
        refine ⟨k + 1,by go_num,by omega,?_,(Bw.trans (Bo.mono hsb)).trans (ch4.toBelow (fun b hb => hb.1) (by omega))⟩
        rw [hpt.out]
        exact own4.wide (Iv.grow hsb s2 ch4.size)
       case measure => simp [intOf]; omega
  · obtain rfl : k = n := by omega
    go_wp2
    go_ret
    rw [List.take_of_length_le (by rw [HDL.out]; exact Nat.le_refl _)] at own
    exact ⟨_,rfl,own.wide (fun b hb => ⟨Nat.le_trans hw3 hb.1,hb.2⟩),BW⟩
end
section
open Go.RowKit Go.Sort
def M.sl (a : List Int) (f : Int) (n : Nat) : List Int := (List.range n).map fun (i : Nat) => M.at_ a (f + i)
def zbx (a : List Int) (b : Int) (n : Nat) : List Int := (List.range n).map fun (i : Nat) => M.at_ a ((i : Int) - b)
theorem zg2 (a : List Int) (f : Int) (n : Nat) : (M.sl a f n).length = n := by simp [M.sl]
theorem zdn (a : List Int) (b : Int) (n : Nat) : (zbx a b n).length = n := by simp [zbx]
theorem zjo {a : List Int} {f : Int} {n k : Nat} (h : k < n) : (M.sl a f n)[k]? = some (M.at_ a (f + k)) := by simp [M.sl,h]
theorem zt7 {a : List Int} (h : a.all M.smp = true) (b : Int) (n : Nat) : (zbx a b n).all M.smp = true := by
 rw [zbx,List.all_map,List.all_eq_true]
 intro i _
 exact zhq h _
theorem zt8 (a b : List Int) (g : Int) : (zb5 a b g).all M.smp = true := by
 rw [zb5,List.all_map,List.all_eq_true]
 intro i _
 exact M.smp_wrap _
theorem zt9 (a : List Int) (b : Nat) {i : Int} (h : 0 ≤ i) : M.at_ (List.replicate b 0 ++ a) i = M.at_ a (i - b) := by
 obtain ⟨k,rfl⟩ := Int.eq_ofNat_of_zero_le h
 rw [M.at_,M.at_]
 simp only [List.length_append,List.length_replicate]
 by_cases h1 : k < b
 · rw [if_neg (by omega : ¬ (0 ≤ (k : Int) - b ∧ (k : Int) - b < a.length))]
   split
   · rw [Int.toNat_natCast,List.getElem?_append_left (by simpa using h1)]
     simp [h1]
   · rfl
 · by_cases h2 : k < b + a.length
   · rw [if_pos ⟨by omega,by omega⟩,if_pos ⟨by omega,by omega⟩,Int.toNat_natCast,List.getElem?_append_right (by simp; omega)]
     rw [List.length_replicate,show ((k : Int) - b).toNat = k - b by omega]
   · rw [if_neg (by omega),if_neg (by omega)]
theorem zua (a : List Int) (m : Nat) (i : Int) : M.at_ (a ++ List.replicate m 0) i = M.at_ a i := by
 rw [M.at_,M.at_]
 simp only [List.length_append,List.length_replicate]
 by_cases h1 : 0 ≤ i ∧ i < a.length
 · rw [if_pos ⟨h1.1,by omega⟩,if_pos h1,List.getElem?_append_left (by omega)]
 · rw [if_neg h1]
   split
   · rename_i h2
     rw [List.getElem?_append_right (by omega),List.getElem?_replicate]
     split <;> rfl
   · rfl
theorem znf (a : List Int) (b n : Nat) : M.sl (List.replicate b 0 ++ a) 0 n = zbx a b n := by
 rw [M.sl,zbx]
 refine List.map_congr_left fun i _ => ?_
 rw [zt9 a b (by omega)]
 congr 1
 omega
theorem zub (a : List Int) (b : Nat) : (List.replicate b 0 ++ a).take a.length = zbx a b a.length := by
 rw [← znf]
 apply List.ext_getElem?
 intro k
 by_cases hk : k < a.length
 · rw [zjo hk,List.getElem?_take,if_pos hk,M.at_,if_pos ⟨by omega,by simp; omega⟩,show ((0 : Int) + (k : Int)).toNat = k by omega,List.getElem?_eq_getElem (by simp; omega)]
   rfl
 · rw [List.getElem?_eq_none (by rw [List.length_take]; omega),List.getElem?_eq_none (by rw [zg2]; omega)]
theorem zuc (a : List Int) (m n : Nat) (b : Int) : zbx (a ++ List.replicate m 0) b n = zbx a b n := by
 rw [zbx,zbx]
 exact List.map_congr_left fun i _ => zua a m _
theorem OI.take {e : TypeId} {B : Nat} {w : World} {A : Option Addr} {m n c : Nat} {xs : List Int} (h : OI e B w (.slice A m c) xs) (hn : n ≤ m) : OI e B w (.slice A n c) (xs.take n) := by
 have hl : xs.length = m := by
  rcases h.2 with ⟨h0,h1⟩ | ⟨g,cap,cur,h0,_⟩
  · simp only [Value.slice.injEq] at h0
    rw [h0.2.1]; exact h1
  · simp only [Value.slice.injEq] at h0
    exact h0.2.1.symm
 have hl2 : (xs.take n).length = n := by rw [List.length_take]; omega
 refine ⟨by simp,?_⟩
 rw [hl2]
 rcases h.2 with ⟨h0,h1⟩ | ⟨g,cap,cur,h0,hb,hg,hnc,hcm,hcs,ht⟩
 · simp only [Value.slice.injEq] at h0
   obtain ⟨rfl,rfl,rfl⟩ := h0
   obtain rfl : n = 0 := by omega
   exact .inl ⟨rfl,rfl⟩
 · simp only [Value.slice.injEq] at h0
   obtain ⟨rfl,-,rfl⟩ := h0
   refine .inr ⟨g,c,cur,rfl,hb,hg,by omega,hcm,hcs,?_⟩
   rw [List.map_take,← ht,List.take_take]
   congr 1
   omega
theorem zud (A : Option Addr) (n c : Nat) (xs : List Int) (f : Nat) (m : Nat) (w : World) (hx : RI w w.heap.size A n xs) (hn : n ≤ 1000000) (hf : f ≤ 1000000) (hm : m ≤ 1000000) :
 Calls Tryz.prog 52 #[.slice A n c,.int .i64 f,.int .i64 m] w (Ret1 2 w (M.sl xs f m)) := by
 go_enter Tryz.func52,Tryz.ntmps52
 go_wp2_with fail
 refine (zc5 m _ (by omega) (by omega)).mono ?_
 rintro e w1 ⟨v1,rfl,own1,bel1⟩
 rw [Int.toNat_natCast] at own1
 obtain ⟨A1,c1,e1,-⟩ := own1.shape
 rw [List.length_replicate] at e1
 subst e1
 have s1 := bel1.size
 go_wp2_with fail
 go_loopw [13] (fun i wr => ∃ k : Nat,i = .int .i64 k ∧ k ≤ m ∧ OI 2 w.heap.size wr (.slice A1 m c1) ((M.sl xs f m).take k ++ List.replicate (m - k) 0) ∧ Below w.heap.size w wr ∧ w1.heap.size ≤ wr.heap.size) (fun i _ => m - (intOf i).toNat)
 case atStart => exact ⟨0,rfl,by omega,by simpa using own1,bel1,Nat.le_refl _⟩
 case round =>
  obtain ⟨k,rfl,hk,own,B,sz⟩ := hrel
  by_cases hlt : k < m
  · obtain ⟨g,rfl,hg1,hg2⟩ := own.form' (by omega)
    obtain ⟨y,hy1,hy2,hy3,-,-⟩ := own.at' (k := k) hlt
    have HT := Lib.hid (show ((M.sl xs f m).take k ++ List.replicate (m - k) 0).set k (M.at_ xs (f + k)) = (M.sl xs f m).take (k + 1) ++ List.replicate (m - (k + 1)) 0 by
     rw [M.take_at (zjo hlt),List.set_append_right _ _ (by rw [List.length_take]; omega)]
     rw [show k - ((M.sl xs f m).take k).length = 0 by rw [List.length_take,zg2]; omega,show m - k = (m - (k + 1)) + 1 by omega,List.replicate_succ,List.set_cons_zero]
     simp)
    have fk : (0 : Int) ≤ (f : Int) + (k : Int) := by omega
    have k0 : (0 : Int) ≤ (k : Int) := by omega
    have k1 : (k : Int) < (m : Int) := by omega
    have rx := (hx.below B).more B.size
    go_wp2_with fail
    refine (zf9 _ _ _ xs _ _ rx (by omega) (by omega)).mono ?_
    rintro e w' ⟨rfl,rfl⟩
    go_wp2_with fail
    go_roundw
    case rel => exact ⟨k + 1,by go_num,by omega,by rw [← HT.out]; exact own.stored' k _,B.setCell hg1 _,by simp; omega⟩
    case measure => simp [intOf]; omega
  · obtain rfl : k = m := by omega
    rw [List.take_of_length_le (by rw [zg2]; omega),Nat.sub_self,List.replicate_zero,List.append_nil] at own
    go_wp2_with fail
    go_ret
    exact ⟨_,rfl,own,B⟩
theorem zue (p x : Int) : wrap32 (p + wrap64 x) = wrap32 (p + x) := by unfold wrap32 wrap64; omega
theorem zjp (A A' : Option Addr) (n c n' c' : Nat) (xs ys : List Int) (g : Int) (w : World) (hx : RI w w.heap.size A n xs) (hy : RI w w.heap.size A' n' ys) (hn : n ≤ 1000000) (hn' : n' ≤ 1000000) :
 Calls Tryz.prog 59 #[.slice A n c,.int .i64 g,.slice A' n' c'] w (Ret1 2 w (zb5 xs ys g)) := by
 have hl := Lib.hid hx.len
 have hl' := Lib.hid hy.len
 obtain ⟨m,hm⟩ : ∃ m : Nat,m = max n n' := ⟨_,rfl⟩
 have HM := Lib.hid (show max xs.length ys.length = m by rw [hl.out,hl'.out,hm])
 have hm2 : m ≤ 1000000 := by omega
 have hz := Lib.hid hm
 rcases (show (n' ≤ n ∧ m = n) ∨ (n < n' ∧ m = n') by omega) with ⟨hnn,rfl⟩ | ⟨hnn,rfl⟩
 all_goals
  clear hm hz
  go_enter Tryz.func59,Tryz.ntmps59
  go_wp2_with (first | (go_at_call 108; refine (zbt _ _ _ _).mono ?_; rintro e w' ⟨rfl,rfl⟩))
  refine (zc5 m _ (by omega) (by omega)).mono ?_
  rintro e w1 ⟨v1,rfl,own1,bel1⟩
  rw [Int.toNat_natCast] at own1
  obtain ⟨A1,c1,e1,-⟩ := own1.shape
  rw [List.length_replicate] at e1
  subst e1
  have s1 := bel1.size
  go_wp2_with fail
  go_loopw [17] (fun i wr => ∃ k : Nat,i = .int .i64 k ∧ k ≤ m ∧ OI 2 w.heap.size wr (.slice A1 m c1) ((zb5 xs ys g).take k ++ List.replicate (m - k) 0) ∧ Below w.heap.size w wr ∧ w1.heap.size ≤ wr.heap.size) (fun i _ => m - (intOf i).toNat)
  case atStart => exact ⟨0,rfl,by omega,by simpa using own1,bel1,Nat.le_refl _⟩
  case round =>
   obtain ⟨k,rfl,hk,own,B,sz⟩ := hrel
   by_cases hlt : k < m
   · obtain ⟨q,rfl,hg1,hg2⟩ := own.form' (by omega)
     obtain ⟨y,hy1,hy2,hy3,-,-⟩ := own.at' (k := k) hlt
     have HT := Lib.hid (show ((zb5 xs ys g).take k ++ List.replicate (m - k) 0).set k (wrap32 (M.at_ xs (k : Int) + M.at_ ys (k : Int) * g)) = (zb5 xs ys g).take (k + 1) ++ List.replicate (m - (k + 1)) 0 by
      rw [M.take_at (zl0 (by rw [HM.out]; exact hlt)),List.set_append_right _ _ (by rw [List.length_take]; omega)]
      rw [show k - ((zb5 xs ys g).take k).length = 0 by rw [List.length_take,zeu,HM.out]; omega,show m - k = (m - (k + 1)) + 1 by omega,List.replicate_succ,List.set_cons_zero]
      simp)
     have k0 : (0 : Int) ≤ (k : Int) := by omega
     have k1 : (k : Int) < (m : Int) := by omega
     have rx := (hx.below B).more B.size
     have ry := (hy.below B).more B.size
     obtain ⟨p,hp⟩ : ∃ p,p = M.at_ xs (k : Int) := ⟨_,rfl⟩
     obtain ⟨r,hr⟩ : ∃ r,r = M.at_ ys (k : Int) := ⟨_,rfl⟩
     have HP := Lib.hid hp
     have HR := Lib.hid hr
     clear hp hr
     go_wp2_with fail
     refine (zf9 _ _ _ xs _ _ rx (by omega) (by omega)).mono ?_
     rw [← HP.out]
     rintro e w' ⟨rfl,rfl⟩
     go_wp2_with fail
     refine (zf9 _ _ _ ys _ _ ry (by omega) (by omega)).mono ?_
     rw [← HR.out]
     rintro e w' ⟨rfl,rfl⟩
     go_wp2_with fail
     refine (zdh _ _).mono ?_
     rintro e w' ⟨rfl,rfl⟩
     go_wp2_with fail
     go_roundw
     case rel =>
      refine ⟨k + 1,by go_num,by omega,?_,B.setCell hg1 _,by simp; omega⟩
      rw [← HT.out,← HP.out,← HR.out]
      have := own.stored' k (wrap32 (p + r * g))
      rw [show wrap32 (p + r * g) = wrap32 (wrap64 (p + wrap64 (g * r))) by rw [M.wrap32_64,zue,Int.mul_comm]] at this ⊢
      exact this
     case measure => simp [intOf]; omega
   · obtain rfl : k = m := by omega
     rw [List.take_of_length_le (by rw [zeu,HM.out]; omega),Nat.sub_self,List.replicate_zero,List.append_nil] at own
     go_wp2_with fail
     go_ret
     exact ⟨_,rfl,own,B⟩
theorem zjq (A : Option Addr) (n c : Nat) (xs : List Int) (b : Nat) (w : World) (hx : RI w w.heap.size A n xs) (hn : n ≤ 1000000) (hb : b ≤ 1000000) :
 Calls Tryz.prog 100 #[.slice A n c,.int .i64 b] w (Ret1 2 w (zbx xs b n)) := by
 have hl := Lib.hid hx.len
 go_enter Tryz.func100,Tryz.ntmps100
 go_wp2_with fail
 refine (zc5 b _ (by omega) (by omega)).mono ?_
 rintro e w1 ⟨v1,rfl,own1,bel1⟩
 rw [Int.toNat_natCast] at own1
 have hlr := List.length_replicate (n := b) (a := (0 : Int))
 have HLR := Lib.hid hlr
 have rx := hx.below bel1
 have s1 := bel1.size
 have hlb : (List.replicate b (0 : Int)).length ≤ 1000000 := by rw [List.length_replicate]; omega
 clear hlr
 go_wp2_with (at_builtin; refine zdz zbs rfl _ _ rfl own1 rfl rx rfl (ints_oneCell _ _) (by unfold maxLen; omega) (by omega) s1 ?_; intro v2 w2 own2 gr2 bel2; have op2 : OI 2 w.heap.size w2 v2 (List.replicate b 0 ++ xs) := (by unfold OI; rw [List.map_append,List.length_append,hl.out]; exact own2); obtain ⟨A2,c2,e2,-⟩ := op2.shape; obtain ⟨n2,hn2⟩ : ∃ n2,n2 = (List.replicate b 0 ++ xs).length := ⟨_,rfl⟩; rw [← hn2] at e2; subst e2; have hnn : n ≤ n2 := (by rw [hn2,List.length_append,hl.out]; omega); have hcc : n2 ≤ c2 := (by obtain ⟨A3,c3,e3,h3,-⟩ := zb9 op2; simp only [Value.slice.injEq] at e3; rw [e3.2.2,e3.2.1]; exact h3); have HN2 := Lib.hid hn2; clear hn2)
 go_ret
 have op3 := op2.take hnn
 have h := zub xs b
 rw [hl.out] at h
 rw [h] at op3
 exact ⟨_,rfl,op3,bel1.trans bel2⟩
theorem zjr (A : Option Addr) (n c : Nat) (xs : List Int) (f : Nat) (m : Nat) (w : World) (hx : RI w w.heap.size A n xs) (hn : n ≤ 1000000) (hf : f ≤ 1000000) (hm : m ≤ 1000000) :
 Calls Tryz.prog 50 #[.slice A n c,.int .i64 f,.int .i64 m] w (Ret1 2 w (M.sl xs f m)) := by
 go_enter Tryz.func50,Tryz.ntmps50
 go_wp2_with fail
 go_loopw [7,8] (fun v i wr => ∃ k : Nat,i = .int .i64 k ∧ k ≤ m ∧ OI 2 w.heap.size wr v ((M.sl xs f m).take k) ∧ Below w.heap.size w wr) (fun _ i _ => m - (intOf i).toNat)
 case atStart => exact ⟨0,rfl,by omega,OI.made _ _,(Below.refl _ _).alloc (Nat.le_refl _) _⟩
 case round =>
  obtain ⟨k,rfl,hk,own,hb⟩ := hrel
  by_cases hlt : k < m
  · have hT := Lib.hid (M.take_at (zjo (a := xs) (f := f) hlt))
    have hk1 : ((M.sl xs f m).take k).length ≤ 1000000000 := by rw [List.length_take]; omega
    have rx := (hx.below hb).more hb.size
    go_wp2_with fail
    refine (zga _ _ _ _ _ wr rx (by omega)).mono ?_
    rintro e w' ⟨rfl,rfl⟩
    go_wp2_with (at_builtin; refine zdy zbs rfl _ _ rfl own rfl rfl rfl (by unfold maxLen; omega) (by omega) hb.size ?_; intro v1 w1 own1 gr1 bel1)
    go_roundw
    case rel => exact ⟨k + 1,by go_num,by omega,by rw [hT.out]; exact OI.push own1,hb.trans bel1⟩
    case measure => simp [intOf]; omega
  · go_wp2
    go_ret
    rw [List.take_of_length_le (by rw [zg2]; omega)] at own
    exact ⟨_,rfl,own,hb⟩
theorem zjs (A : Option Addr) (n c : Nat) (xs : List Int) (b m : Nat) (w : World) (hx : RI w w.heap.size A n xs) (hn : n ≤ 100000) (hb : b ≤ 100000) (hm : m ≤ 100000) :
 Calls Tryz.prog 92 #[.slice A n c,.int .i64 b,.int .i64 m] w (Ret1 2 w (zbx xs b m)) := by
 have hl := Lib.hid hx.len
 go_enter Tryz.func92,Tryz.ntmps92
 go_wp2_with fail
 refine (zgu b _ (by omega)).mono ?_
 rintro e w1 ⟨v1,rfl,own1,bel1⟩
 have rx := hx.below bel1
 have s1 := bel1.size
 have hlb : (List.replicate b (0 : Int)).length ≤ 1000000 := by rw [List.length_replicate]; omega
 go_wp2_with (at_builtin; refine zdz zbs rfl _ _ rfl own1 rfl rx rfl (ints_oneCell _ _) (by unfold maxLen; omega) (by omega) s1 ?_; intro v2 w2 own2 gr2 bel2; have op2 : OI 2 w.heap.size w2 v2 (List.replicate b 0 ++ xs) := (by unfold OI; rw [List.map_append,List.length_append,hl.out]; exact own2); obtain ⟨A2,c2,e2,r2⟩ := op2.shape; obtain ⟨n2,hn2⟩ : ∃ n2,n2 = (List.replicate b 0 ++ xs).length := ⟨_,rfl⟩; rw [← hn2] at e2 r2; subst e2; have hnn : n2 ≤ 1000000 := (by rw [hn2,List.length_append,hl.out,List.length_replicate]; omega); have HN2 := Lib.hid hn2; clear hn2)
 have hr := zjr A2 n2 c2 _ 0 m w2 r2 hnn (by omega) (by omega)
 refine hr.mono ?_
 clear hr
 rintro e w3 ⟨v3,rfl,own3,bel3⟩
 go_wp2_with fail
 go_ret
 rw [show ((0 : Nat) : Int) = 0 from rfl,znf] at own3
 exact ⟨_,rfl,own3.base (by have := bel2.size; omega),(bel1.trans bel2).trans (bel3.mono (by have := bel2.size; omega))⟩
end
section
open Go.RowKit Go.Sort
set_option synthInstance.maxSize 2000
set_option synthInstance.maxHeartbeats 400000
section
variable (L : Nat) (src : List (List Int)) (ts : List (List zag)) (fs : List Int) (ps : List zad) (ms : List zae)
def M.nT : Nat := L + (zcs ms).toNat
def zg3 (t : Nat) : List zag := (ts[t]?).getD []
def zh1 (i : Nat) : zad := (ps[i]?).getD M.p0
def zbn (i : Nat) : zae := (ms[i]?).getD M.sz
def zbj (i : Nat) : Int := M.i_ (zbr ms) i
def ze6 (ins : List (List Int)) (k : Nat) (ys : List Int) (g : Int) : List (List Int) := ins.set k (zb5 (zaf ins k) ys g)
def zdo : Nat → List (List Int)
 | 0 => List.replicate ms.length (List.replicate (M.nT L ms) 0)
 | t + 1 => ze6 (zdo t) (M.i_ fs t).toNat (zbx (zcy src (zg3 ts t) L) (zbj ms (M.i_ fs t).toNat) (M.nT L ms)) 1
def M.fx (p : zad) (xs : List Int) (n : Nat) : List Int := if p = M.p0 then xs else zmo p xs n
def ze7 (i : Nat) (ins : List (List Int)) : List Int := zbx (M.fx (zh1 ps i) (zaf ins i) (M.nT L ms)) (zbn ms i).2.1 (M.nT L ms)
def zc4 (i : Nat) (out : List Int) (ins : List (List Int)) : Nat → List (List Int)
 | 0 => ins
 | j + 1 => ze6 (zc4 i out ins j) (((zbn ms i).2.2[j]?).getD (0,0)).1.toNat (zbx out (M.i_ (zaf (zb8 ms) i) j) (M.nT L ms)) (((zbn ms i).2.2[j]?).getD (0,0)).2
def za5 : Nat → List (List Int) × List (List Int)
 | 0 => (zdo L src ts fs ms ts.length,[])
 | i + 1 => (zc4 L ms i (ze7 L ps ms i (za5 i).1) (za5 i).1 (zbn ms i).2.2.length,(za5 i).2 ++ [ze7 L ps ms i (za5 i).1])
def zew : List (List Int) := (za5 L src ts fs ps ms ms.length).2
def zdf : List Int := (List.range ms.length).map fun i => zbj ms i + (zbn ms i).2.1
def zex : List Int := M.sl (zaf (zew L src ts fs ps ms) (ms.length - 1)) (zcs ms) L
end
structure M.SO (L : Nat) (src : List (List Int)) (ts : List (List zag)) (fs : List Int) (ps : List zad) (ms : List zae) : Prop where
 l : L ≤ 1000
 so : zcb src = true
 mix : zay ms = true
 fl : fs.length = ts.length
 tl : ts.length ≤ 6
 fr : ∀ f ∈ fs,0 ≤ f ∧ f < ms.length
 pl : ps.length = ms.length
 tr : ∀ t ∈ ts,za4 t = true ∧ zbb t src.length = true
 ef : ∀ p ∈ ps,zbf p = true
theorem zey {a0 : Int} {src : List (List Int)} {ts : List (List zag)} {fs : List Int} {ps : List zad} {ms : List zae} (h : zbo (a0,src,ts,fs,ps,ms) = true) : ∃ L : Nat,a0 = L ∧ M.SO L src ts fs ps ms := by
 rw [zbo] at h
 simp only [Bool.and_eq_true,decide_eq_true_eq] at h
 obtain ⟨⟨⟨⟨⟨⟨⟨⟨h1,h2⟩,h3⟩,h4⟩,h5⟩,h6⟩,h7⟩,h8⟩,h9⟩ := h
 have h1' := zby.1 h1
 refine ⟨a0.toNat,by omega,by omega,h2,h4,h5,h3,fun f hf => ?_,h7,fun t ht => ?_,fun p hp => List.all_eq_true.1 h9 p hp⟩
 · have := zby.1 (List.all_eq_true.1 h6 f hf)
   omega
 · have := List.all_eq_true.1 h8 t ht
   rwa [Bool.and_eq_true] at this
structure M.JO (m n : Nat) (ins : List (List Int)) : Prop where
 len : ins.length = m
 at_ : ∀ x ∈ ins,x.length = n ∧ x.all M.smp = true
theorem M.JO.cel {m n : Nat} {ins : List (List Int)} (h : M.JO m n ins) {k : Nat} (hk : k < m) : (zaf ins k).length = n ∧ (zaf ins k).all M.smp = true := by
 have hk2 : k < ins.length := by rw [h.len]; exact hk
 have e : zaf ins k = ins[k] := by rw [zaf,List.getElem?_eq_getElem hk2]; rfl
 rw [e]
 exact h.at_ _ (List.getElem_mem hk2)
theorem M.JO.add {m n : Nat} {ins : List (List Int)} (h : M.JO m n ins) {k : Nat} (hk : k < m) {ys : List Int} (hy : ys.length = n) (g : Int) : M.JO m n (ze6 ins k ys g) := by
 refine ⟨by rw [ze6,List.length_set]; exact h.len,fun x hx => ?_⟩
 rcases List.mem_or_eq_of_mem_set hx with h1 | rfl
 · exact h.at_ x h1
 · exact ⟨by rw [zeu,(h.cel hk).1,hy,Nat.max_self],zt8 _ _ _⟩
section
variable {L : Nat} {src : List (List Int)} {ts : List (List zag)} {fs : List Int} {ps : List zad} {ms : List zae}
theorem zf5 (h : zay ms = true) : 0 ≤ zcs ms ∧ zcs ms ≤ 1100 := by
 obtain ⟨h1,h2⟩ := zde h
 have hx : ms[ms.length - 1]? = some (ms[ms.length - 1]'(by omega)) := List.getElem?_eq_getElem (by omega)
 rw [zcs,hx]
 generalize ms[ms.length - 1]'(by omega) = x at hx
 obtain ⟨s,l,us⟩ := x
 obtain ⟨h3,_,_⟩ := zeo h hx
 have h4 := zhw (by omega) (zhy h ms.length (Nat.le_refl _)) (ms.length - 1)
 rw [zbr]
 simp only [Option.getD_some]
 omega
theorem zh2 (h : M.SO L src ts fs ps ms) : M.nT L ms ≤ 2100 := by
 have h1 := zf5 h.mix
 have h2 := h.l
 rw [M.nT]; omega
theorem zng (h : M.SO L src ts fs ps ms) : ((M.nT L ms : Nat) : Int) = (L : Int) + zcs ms := by
 have h1 := zf5 h.mix
 rw [M.nT]; omega
theorem zfl (h : zay ms = true) (i : Nat) : 0 ≤ zbj ms i ∧ zbj ms i ≤ 1024 := by
 have h1 := zde h
 have h4 := zhw (by omega) (zhy h ms.length (Nat.le_refl _)) i
 rw [zbj,M.i_,zbr]
 omega
theorem zjt {i : Nat} {x : zae} (h : ms[i]? = some x) : zbn ms i = x := by rw [zbn,h]; rfl
theorem zju {i : Nat} {x : zad} (h : ps[i]? = some x) : zh1 ps i = x := by rw [zh1,h]; rfl
theorem znh {i : Nat} {x : List zag} (h : ts[i]? = some x) : zg3 ts i = x := by rw [zg3,h]; rfl
theorem zg4 (h : zay ms = true) {i : Nat} (hi : i < ms.length) : (0 ≤ (zbn ms i).2.1 ∧ (zbn ms i).2.1 ≤ 32) ∧ (zbn ms i).2.2.length ≤ 4 ∧ ∀ (j : Nat) (p0 p1 : Int),(zbn ms i).2.2[j]? = some (p0,p1) → (i : Int) < p0 ∧ p0 < ms.length ∧ M.smp p1 = true := by
 have hx : ms[i]? = some ms[i] := List.getElem?_eq_getElem hi
 rw [zjt hx]
 generalize ms[i] = x at hx
 obtain ⟨s,l,us⟩ := x
 obtain ⟨h1,h2,h3⟩ := zeo h hx
 refine ⟨h1,h2,fun j p0 p1 hj => ?_⟩
 have := zg1 h3 hj
 exact ⟨this.1,by omega,this.2.2⟩
theorem zjv {p : zad} (h : zbf p = true) (hp : p ≠ M.p0) : zcw p = true ∧ p.1 = 1 ∧ p.2.2.2.length = 1 := by
 rw [zbf] at h
 simp only [Bool.or_eq_true,Bool.and_eq_true,decide_eq_true_eq] at h
 rcases h with h | h
 · exact absurd h hp
 · exact ⟨h.1.1,h.1.2,h.2⟩
theorem zuf {p : zad} (h : zbf p = true) {xs : List Int} {n : Nat} (hl : xs.length = n) (hs : xs.all M.smp = true) : (M.fx p xs n).length = n ∧ (M.fx p xs n).all M.smp = true := by
 rw [M.fx]
 split
 · exact ⟨hl,hs⟩
 · rename_i hp
   obtain ⟨h1,h2,h3⟩ := zjv h hp
   exact ⟨by rw [zmo,zen],ztc (zjg h1 h2) hs _ _⟩
theorem zjw (h : M.SO L src ts fs ps ms) : ∀ t,t ≤ ts.length → M.JO ms.length (M.nT L ms) (zdo L src ts fs ms t) := by
 intro t
 induction t with
 | zero =>
  refine fun _ => ⟨List.length_replicate ..,fun x hx => ?_⟩
  rw [List.eq_of_mem_replicate hx]
  refine ⟨List.length_replicate ..,?_⟩
  rw [List.all_eq_true]
  intro z hz
  rw [List.eq_of_mem_replicate hz]
  rfl
 | succ t ih =>
  intro ht
  have hf : fs[t]? = some (M.i_ fs t) := by
   have : t < fs.length := by rw [h.fl]; omega
   rw [M.i_,List.getElem?_eq_getElem this]; rfl
  have hr := h.fr _ (List.mem_of_getElem? hf)
  exact (ih (by omega)).add (by omega) (zdn _ _ _) 1
theorem zjx (h : zay ms = true) {i : Nat} (hi : i < ms.length) {out : List Int} {ins : List (List Int)} (hins : M.JO ms.length (M.nT L ms) ins) : ∀ j,j ≤ (zbn ms i).2.2.length → M.JO ms.length (M.nT L ms) (zc4 L ms i out ins j) := by
 intro j
 induction j with
 | zero => exact fun _ => hins
 | succ j ih =>
  intro hj
  obtain ⟨_,_,h3⟩ := zg4 h hi
  have hx : (zbn ms i).2.2[j]? = some ((zbn ms i).2.2[j]'(by omega)) := List.getElem?_eq_getElem (by omega)
  generalize (zbn ms i).2.2[j]'(by omega) = u at hx
  obtain ⟨p0,p1⟩ := u
  have h4 := h3 j p0 p1 hx
  rw [zc4,hx]
  exact (ih (by omega)).add (by show p0.toNat < _; omega) (zdn _ _ _) _
theorem zh3 (h : M.SO L src ts fs ps ms) : ∀ i,i ≤ ms.length → M.JO ms.length (M.nT L ms) (za5 L src ts fs ps ms i).1 ∧ M.JO i (M.nT L ms) (za5 L src ts fs ps ms i).2 := by
 intro i
 induction i with
 | zero => exact fun _ => ⟨zjw h _ (Nat.le_refl _),rfl,fun x hx => by cases hx⟩
 | succ i ih =>
  intro hi
  obtain ⟨h1,h2⟩ := ih (by omega)
  have hp : zbf (zh1 ps i) = true := by
   have hk : i < ps.length := by rw [h.pl]; omega
   rw [zju (List.getElem?_eq_getElem hk)]
   exact h.ef _ (List.getElem_mem hk)
  obtain ⟨c1,c2⟩ := h1.cel (k := i) (by omega)
  obtain ⟨f1,f2⟩ := zuf hp c1 c2
  refine ⟨zjx h.mix (by omega) h1 _ (Nat.le_refl _),by rw [za5,List.length_append,h2.len]; rfl,fun x hx => ?_⟩
  rw [za5,List.mem_append] at hx
  rcases hx with hx | hx
  · exact h2.at_ x hx
  · obtain rfl : x = _ := List.mem_singleton.1 hx
    exact ⟨zdn _ _ _,zt7 f2 _ _⟩
end
end
section
open Go.RowKit Go.Sort
theorem zug (k : Nat) (l : Int) (acc : List Int) (p : Int × Int) (q : Nat) : M.i_ acc q ≤ M.i_ (zch k l acc p) q := by
 rw [zch]
 by_cases h : p.1.toNat = q
 · subst h
   by_cases hl : p.1.toNat < acc.length
   · rw [zgk hl]
     exact Int.le_max_left _ _
   · rw [M.i_,M.i_,List.getElem?_eq_none (by omega),List.getElem?_eq_none (by rw [List.length_set]; omega)]
     exact Int.le_refl _
 · rw [zfw h]
   exact Int.le_refl _
theorem zni (k : Nat) (l : Int) (q : Nat) : ∀ (us : List (Int × Int)) (acc : List Int),M.i_ acc q ≤ M.i_ (us.foldl (zch k l) acc) q := by
 intro us
 induction us with
 | nil => intro acc; exact Int.le_refl _
 | cons u us ih => intro acc; exact Int.le_trans (zug k l acc u q) (ih _)
theorem zuh (k : Nat) (l : Int) (q : Nat) : ∀ (us : List (Int × Int)) (acc : List Int),(∀ u ∈ us,u.1.toNat ≠ q) → M.i_ (us.foldl (zch k l) acc) q = M.i_ acc q := by
 intro us
 induction us with
 | nil => intro acc _; rfl
 | cons u us ih =>
  intro acc h
  rw [List.foldl_cons,ih _ (fun v hv => h v (by simp [hv])),zch,zfw (h u (by simp))]
theorem zui (k : Nat) (l : Int) : ∀ (us : List (Int × Int)) (acc : List Int) (u : Int × Int),u ∈ us → u.1.toNat < acc.length → (∀ v ∈ us,v.1.toNat ≠ k) → M.i_ acc k + l ≤ M.i_ (us.foldl (zch k l) acc) u.1.toNat := by
 intro us
 induction us with
 | nil => intro acc u h; cases h
 | cons v us ih =>
  intro acc u hu hlt hne
  rw [List.foldl_cons]
  have hk : M.i_ (zch k l acc v) k = M.i_ acc k := by rw [zch,zfw (hne v (by simp))]
  rcases List.mem_cons.1 hu with rfl | hu
  · refine Int.le_trans ?_ (zni k l _ us _)
    rw [zch,zgk hlt]
    exact Int.le_max_right _ _
  · have := ih (zch k l acc v) u hu (by rw [zm6]; exact hlt) (fun x hx => hne x (by simp [hx]))
    rw [hk] at this
    exact this
section
variable {ms : List zae}
theorem zjy (h : zay ms = true) {k : Nat} (hk : k < ms.length) : ∀ u ∈ (zbn ms k).2.2,k < u.1.toNat ∧ u.1.toNat < ms.length := by
 intro u hu
 obtain ⟨j,hj⟩ := List.getElem?_of_mem hu
 obtain ⟨p0,p1⟩ := u
 have := (zg4 h hk).2.2 j p0 p1 hj
 show k < p0.toNat ∧ p0.toNat < _
 omega
theorem zuj (q : Nat) {k k' : Nat} (h : k ≤ k') : M.i_ (zcd ms k) q ≤ M.i_ (zcd ms k') q := by
 induction k' with
 | zero =>
  obtain rfl : k = 0 := by omega
  exact Int.le_refl _
 | succ k' ih =>
  rcases Nat.lt_or_ge k' k with h1 | h1
  · obtain rfl : k = k' + 1 := by omega
    exact Int.le_refl _
  · exact Int.le_trans (ih h1) (zni _ _ _ _ _)
theorem zuk (h : zay ms = true) {i k : Nat} (hi : i ≤ k) (hk : k ≤ ms.length) : M.i_ (zcd ms k) i = M.i_ (zcd ms i) i := by
 induction k with
 | zero =>
  obtain rfl : i = 0 := by omega
  rfl
 | succ k ih =>
  rcases Nat.lt_or_ge k i with h1 | h1
  · obtain rfl : i = k + 1 := by omega
    rfl
  · rw [← ih h1 (by omega),zcd]
    refine zuh _ _ _ _ _ fun u hu => ?_
    have := zjy h (k := k) (by omega) u hu
    omega
theorem zul (h : zay ms = true) {i j : Nat} (hi : i < ms.length) {p0 p1 : Int} (hj : (zbn ms i).2.2[j]? = some (p0,p1)) : zbj ms i + (zbn ms i).2.1 ≤ zbj ms p0.toNat := by
 have h1 : M.i_ (zcd ms i) i + (zbn ms i).2.1 ≤ M.i_ (zcd ms (i + 1)) p0.toNat := by
  refine zui i _ _ _ (p0,p1) (List.mem_of_getElem? hj) ?_ (fun v hv => ?_)
  · rw [zhv]
    exact (zjy h hi _ (List.mem_of_getElem? hj)).2
  · have := zjy h hi v hv
    omega
 have h2 := zuj (ms := ms) p0.toNat (show i + 1 ≤ ms.length by omega)
 have h3 := zuk h (show i ≤ ms.length by omega) (Nat.le_refl _)
 rw [zbj,zbj,zbr,h3]
 omega
theorem znj (h : zay ms = true) {i j : Nat} (hi : i < ms.length) {p0 p1 : Int} (hj : (zbn ms i).2.2[j]? = some (p0,p1)) :
 (zaf (zb8 ms) i)[j]? = some (zbj ms p0.toNat - zbj ms i - (zbn ms i).2.1) ∧ 0 ≤ zbj ms p0.toNat - zbj ms i - (zbn ms i).2.1 ∧ zbj ms p0.toNat - zbj ms i - (zbn ms i).2.1 ≤ 1024 := by
 have h1 := zul h hi hj
 have h2 := zfl h p0.toNat
 have h3 := zfl h i
 have h4 := (zg4 h hi).1
 refine ⟨?_,by omega,by omega⟩
 have e : zaf (zb8 ms) i = zbz ms i := by rw [zaf,zjn hi]; rfl
 have e2 : ((ms[i]?).getD M.sz) = zbn ms i := rfl
 rw [e,zbz,e2,List.getElem?_map,hj]
 rfl
theorem zum : zcs ms = zbj ms (ms.length - 1) + (zbn ms (ms.length - 1)).2.1 := rfl
end
end
end Go.Proofs.YtffhodocjjkkoaaGreat
