import Derived.Test.YtifeldeikhmckaaGreatFnExactOptimizeSessionG20
import Derived.Lib.QuietBelow
import Derived.Test.YtifeldeikhmckaaGreatFnExactOptimizeSessionG14
import Derived.Test.YtifeldeikhmckaaGreatFnExactOptimizeSessionG7
import Derived.Test.YtifeldeikhmckaaGreatFnExactOptimizeSessionG11
import Derived.Test.YtifeldeikhmckaaGreatFnExactOptimizeSessionG8
set_option linter.unusedVariables false
set_option linter.unusedSimpArgs false
set_option maxRecDepth 100000
set_option maxHeartbeats 4000000
namespace Go.Proofs.YtifeldeikhmckaaGreat
open Go.RowKit Go.Sort
set_option synthInstance.maxSize 2000
set_option synthInstance.maxHeartbeats 400000
theorem ze2(A:Yo)(n c:Nat)(w:Yw):Calls Tryz.prog 85 #[.slice A n c] w fun e w'=>e=.returned (.int .i64 n)/\w=w':=by
 go_enter Tryz.func85,Tryz.ntmps85
 go_wp2;go_ret;exact⟨rfl,rfl⟩
theorem zvn(a0:Int)(A1:Yo)(n1 c1:Nat)(A2:Yo)(n2 c2:Nat)(A3:Yo)(n3 c3:Nat)(A4:Yo)(n4 c4:Nat)(A5:Yo)(n5 c5:Nat)(x1:List (List Int))(x2:List (List zas))(x3:List Int)(x4:List zad)(x5:List zag)(w:Yw)(h1:tSS.R w w.heap.size [.slice A1 n1 c1] x1)(h2:tTS.R w w.heap.size [.slice A2 n2 c2] x2)(h3:tS.R w w.heap.size [.slice A3 n3 c3] x3)(h4:tPS.R w w.heap.size [.slice A4 n4 c4] x4)(h5:tM.R w w.heap.size [.slice A5 n5 c5] x5)(hn:hZ.sz ((a0,x1,x2,x3,x4,x5):Sess)<=100000000):
 Calls Tryz.prog 34 #[.agg #[.int .i64 a0,.slice A1 n1 c1,.slice A2 n2 c2,.slice A3 n3 c3,.slice A4 n4 c4,.slice A5 n5 c5]] w fun e w'=>e=.returned (.bool (zcl (a0,x1,x2,x3,x4,x5)))/\Below w.heap.size w w':=by
 obtain⟨W,hW⟩:∃W,W=w.alloc (.cells #[.int .i64 a0,.slice A1 n1 c1,.slice A2 n2 c2,.slice A3 n3 c3,.slice A4 n4 c4,.slice A5 n5 c5] 38):=⟨_,rfl⟩;have B0:Below w.heap.size w W:=by rw[hW];exact(Below.refl _ _).alloc (Nat.le_refl _) _
 have p0:W.cell? ⟨w.heap.size,0,none⟩=some (.int .i64 a0):=by rw[hW];simp[go_sem]
 have p1:W.cell? ⟨w.heap.size,1,none⟩=some (.slice A1 n1 c1):=by rw[hW];simp[go_sem]
 have p2:W.cell? ⟨w.heap.size,2,none⟩=some (.slice A2 n2 c2):=by rw[hW];simp[go_sem]
 have p3:W.cell? ⟨w.heap.size,3,none⟩=some (.slice A3 n3 c3):=by rw[hW];simp[go_sem]
 have p4:W.cell? ⟨w.heap.size,4,none⟩=some (.slice A4 n4 c4):=by rw[hW];simp[go_sem]
 have p5:W.cell? ⟨w.heap.size,5,none⟩=some (.slice A5 n5 c5):=by rw[hW];simp[go_sem]
 have lx:w.heap.size<W.heap.size:=by rw[hW];simp
 have HW:=Lib.hid hW;clear hW;have k1:=tSS.later h1 B0;have k2:=tTS.later h2 B0;have k3:=tS.later h3 B0;have k4:=tPS.later h4 B0;have k5:=tM.later h5 B0;rw[zdi]at hn;have r1:=sl_R.1 k1;have L1:=Lib.hid r1.cap.1;have r2:=sl_R.1 k2;have L2:=Lib.hid r2.cap.1;have r3:=sl_R.1 k3;have L3:=Lib.hid r3.cap.1;have r4:=sl_R.1 k4;have L4:=Lib.hid r4.cap.1;have r5:=sl_R.1 k5;have L5:=Lib.hid r5.cap.1;have z1:hSS.sz x1<=100000000:=by omega
 have bn1:n1<=100000000:=by have e:x1.length+hS.szL x1=hSS.sz x1:=rfl;have:=L1.out;omega
 have z2:hTS.sz x2<=100000000:=by omega
 have bn2:n2<=100000000:=by have e:x2.length+hT.szL x2=hTS.sz x2:=rfl;have:=L2.out;omega
 have z3:hS.sz x3<=100000000:=by omega
 have bn3:n3<=100000000:=by have e:x3.length+hI.szL x3=hS.sz x3:=rfl;have:=L3.out;omega
 have z4:hPS.sz x4<=100000000:=by omega
 have bn4:n4<=100000000:=by have e:x4.length+hP.szL x4=hPS.sz x4:=rfl;have:=L4.out;omega
 have z5:hM.sz x5<=100000000:=by omega
 have bn5:n5<=100000000:=by have e:x5.length+hSt.szL x5=hM.sz x5:=rfl;have:=L5.out;omega
 have hb1:Hid (∀x∈x1,x.length<=1000000000):=Lib.hid (fun x hx=>by
  have hq1:x1.length+hS.szL x1=hSS.sz x1:=rfl;obtain⟨i,hi⟩:=List.getElem?_of_mem hx;have:=hS.szL_at hi;rw[zbi]at this;omega)
 have hx3:=(tS_R.1 k3).ri;clear hn;clear h1 h2 h3 h4 h5;have HS:=Lib.hid (show zcl (a0,x1,x2,x3,x4,x5)=(M.inn a0 0 1000&&zen x1&&decide (n2<=6)&&zby x5&&decide (n3=n2)&&x3.all (zbh n5)&&decide (n4=n5)&&x2.all (fun t=>za4 t&&zbp t n1)&&x4.all zao)by rw[zcl];simp only[L1.out,L2.out,L3.out,L4.out,L5.out]);generalize zcl (a0,x1,x2,x3,x4,x5)=ok at HS ⊢;cases g0:M.inn a0 0 1000
 ·have R:=Lib.hid (show ok=false by rw[HS.out];simp only[g0,Bool.false_and,Bool.and_false,Bool.true_and]);have G0:=Lib.hid g0;clear g0
  go_enter Tryz.func34,Tryz.ntmps34
  go_wp2_with fail;rw[<-HW.out];go_wp2_with (first|(go_at_call 80;refine(zeo _ _ _ _).mono ?_;rintro e w' ⟨rfl,rfl⟩)|(go_at_call 85;refine(ze2 _ _ _ _).mono ?_;rintro e w' ⟨rfl,rfl⟩)|(go_at_call 81;refine(zap _ _ _ _).mono ?_;rw[G0.out];rintro e w' ⟨rfl,rfl⟩));go_ret;exact⟨zac (by rw[R.out]),B0⟩
 have G0:=Lib.hid g0;clear g0;cases g1:zen x1
 ·have R:=Lib.hid (show ok=false by rw[HS.out];simp only[G0.out,g1,Bool.false_and,Bool.and_false,Bool.true_and]);have G1:=Lib.hid g1;clear g1
  go_enter Tryz.func34,Tryz.ntmps34
  go_wp2_with fail;rw[<-HW.out];go_wp2_with (first|(go_at_call 80;refine(zeo _ _ _ _).mono ?_;rintro e w' ⟨rfl,rfl⟩)|(go_at_call 85;refine(ze2 _ _ _ _).mono ?_;rintro e w' ⟨rfl,rfl⟩)|(go_at_call 81;refine(zap _ _ _ _).mono ?_;rw[G0.out];rintro e w' ⟨rfl,rfl⟩)|(go_at_call 82;refine(zfc _ _ _ _ _ r1 hb1 (by omega)).mono ?_;rw[G1.out];rintro e w' ⟨rfl,rfl⟩));go_ret;exact⟨zac (by rw[R.out]),B0⟩
 have G1:=Lib.hid g1;clear g1
 by_cases g2:¬n2<=6
 ·have R:=Lib.hid (show ok=false by rw[HS.out];simp only[G0.out,G1.out,decide_eq_false g2,Bool.false_and,Bool.and_false,Bool.true_and]);have gg:decide ((6:Int)<(n2:Int))=true:=decide_eq_true (by omega)
  go_enter Tryz.func34,Tryz.ntmps34
  go_wp2_with fail;rw[<-HW.out];go_wp2_with (first|(go_at_call 80;refine(zeo _ _ _ _).mono ?_;rintro e w' ⟨rfl,rfl⟩)|(go_at_call 85;refine(ze2 _ _ _ _).mono ?_;rintro e w' ⟨rfl,rfl⟩)|(go_at_call 81;refine(zap _ _ _ _).mono ?_;rw[G0.out];rintro e w' ⟨rfl,rfl⟩)|(go_at_call 82;refine(zfc _ _ _ _ _ r1 hb1 (by omega)).mono ?_;rw[G1.out];rintro e w' ⟨rfl,rfl⟩));go_ret;exact⟨zac (by rw[R.out]),B0⟩
 replace g2:n2<=6:=Decidable.not_not.1 g2;have gd2:decide ((6:Int)<(n2:Int))=false:=decide_eq_false (by omega);cases g3:zby x5
 ·have R:=Lib.hid (show ok=false by rw[HS.out];simp only[G0.out,G1.out,decide_eq_true g2,g3,Bool.false_and,Bool.and_false,Bool.true_and]);have G3:=Lib.hid g3;clear g3
  go_enter Tryz.func34,Tryz.ntmps34
  go_wp2_with fail;rw[<-HW.out];go_wp2_with (first|(go_at_call 80;refine(zeo _ _ _ _).mono ?_;rintro e w' ⟨rfl,rfl⟩)|(go_at_call 85;refine(ze2 _ _ _ _).mono ?_;rintro e w' ⟨rfl,rfl⟩)|(go_at_call 81;refine(zap _ _ _ _).mono ?_;rw[G0.out];rintro e w' ⟨rfl,rfl⟩)|(go_at_call 82;refine(zfc _ _ _ _ _ r1 hb1 (by omega)).mono ?_;rw[G1.out];rintro e w' ⟨rfl,rfl⟩)|(go_at_call 83;refine(zgf _ _ _ _ _ k5 z5).mono ?_;rw[G3.out];rintro e w2 ⟨rfl,bel2⟩;have s0:w2.cell? ⟨w.heap.size,0,none⟩=some (.int .i64 a0):=(by rw[bel2.cell lx];exact p0);have s1:w2.cell? ⟨w.heap.size,1,none⟩=some (.slice A1 n1 c1):=(by rw[bel2.cell lx];exact p1);have s2:w2.cell? ⟨w.heap.size,2,none⟩=some (.slice A2 n2 c2):=(by rw[bel2.cell lx];exact p2);have s3:w2.cell? ⟨w.heap.size,3,none⟩=some (.slice A3 n3 c3):=(by rw[bel2.cell lx];exact p3);have s4:w2.cell? ⟨w.heap.size,4,none⟩=some (.slice A4 n4 c4):=(by rw[bel2.cell lx];exact p4);have s5:w2.cell? ⟨w.heap.size,5,none⟩=some (.slice A5 n5 c5):=(by rw[bel2.cell lx];exact p5);have hy3:=hx3.later bel2));go_ret;exact⟨zac (by rw[R.out]),zaa B0 bel2⟩
 have G3:=Lib.hid g3;clear g3
 by_cases g4:¬n3=n2
 ·have R:=Lib.hid (show ok=false by rw[HS.out];simp only[G0.out,G1.out,decide_eq_true g2,G3.out,decide_eq_false g4,Bool.false_and,Bool.and_false,Bool.true_and]);have gg:((n3:Int) != (n2:Int))=true:=by simp;omega
  go_enter Tryz.func34,Tryz.ntmps34
  go_wp2_with fail;rw[<-HW.out];go_wp2_with (first|(go_at_call 80;refine(zeo _ _ _ _).mono ?_;rintro e w' ⟨rfl,rfl⟩)|(go_at_call 85;refine(ze2 _ _ _ _).mono ?_;rintro e w' ⟨rfl,rfl⟩)|(go_at_call 81;refine(zap _ _ _ _).mono ?_;rw[G0.out];rintro e w' ⟨rfl,rfl⟩)|(go_at_call 82;refine(zfc _ _ _ _ _ r1 hb1 (by omega)).mono ?_;rw[G1.out];rintro e w' ⟨rfl,rfl⟩)|(go_at_call 83;refine(zgf _ _ _ _ _ k5 z5).mono ?_;rw[G3.out];rintro e w2 ⟨rfl,bel2⟩;have s0:w2.cell? ⟨w.heap.size,0,none⟩=some (.int .i64 a0):=(by rw[bel2.cell lx];exact p0);have s1:w2.cell? ⟨w.heap.size,1,none⟩=some (.slice A1 n1 c1):=(by rw[bel2.cell lx];exact p1);have s2:w2.cell? ⟨w.heap.size,2,none⟩=some (.slice A2 n2 c2):=(by rw[bel2.cell lx];exact p2);have s3:w2.cell? ⟨w.heap.size,3,none⟩=some (.slice A3 n3 c3):=(by rw[bel2.cell lx];exact p3);have s4:w2.cell? ⟨w.heap.size,4,none⟩=some (.slice A4 n4 c4):=(by rw[bel2.cell lx];exact p4);have s5:w2.cell? ⟨w.heap.size,5,none⟩=some (.slice A5 n5 c5):=(by rw[bel2.cell lx];exact p5);have hy3:=hx3.later bel2));go_ret;exact⟨zac (by rw[R.out]),zaa B0 bel2⟩
 replace g4:n3=n2:=Decidable.not_not.1 g4;subst g4;cases g5:x3.all (zbh n5)
 ·have R:=Lib.hid (show ok=false by rw[HS.out];simp only[G0.out,G1.out,decide_eq_true g2,G3.out,decide_true,g5,Bool.false_and,Bool.and_false,Bool.true_and]);have G5:=Lib.hid g5;clear g5
  go_enter Tryz.func34,Tryz.ntmps34
  go_wp2_with fail;rw[<-HW.out];go_wp2_with (first|(go_at_call 80;refine(zeo _ _ _ _).mono ?_;rintro e w' ⟨rfl,rfl⟩)|(go_at_call 85;refine(ze2 _ _ _ _).mono ?_;rintro e w' ⟨rfl,rfl⟩)|(go_at_call 81;refine(zap _ _ _ _).mono ?_;rw[G0.out];rintro e w' ⟨rfl,rfl⟩)|(go_at_call 82;refine(zfc _ _ _ _ _ r1 hb1 (by omega)).mono ?_;rw[G1.out];rintro e w' ⟨rfl,rfl⟩)|(go_at_call 83;refine(zgf _ _ _ _ _ k5 z5).mono ?_;rw[G3.out];rintro e w2 ⟨rfl,bel2⟩;have s0:w2.cell? ⟨w.heap.size,0,none⟩=some (.int .i64 a0):=(by rw[bel2.cell lx];exact p0);have s1:w2.cell? ⟨w.heap.size,1,none⟩=some (.slice A1 n1 c1):=(by rw[bel2.cell lx];exact p1);have s2:w2.cell? ⟨w.heap.size,2,none⟩=some (.slice A2 n3 c2):=(by rw[bel2.cell lx];exact p2);have s3:w2.cell? ⟨w.heap.size,3,none⟩=some (.slice A3 n3 c3):=(by rw[bel2.cell lx];exact p3);have s4:w2.cell? ⟨w.heap.size,4,none⟩=some (.slice A4 n4 c4):=(by rw[bel2.cell lx];exact p4);have s5:w2.cell? ⟨w.heap.size,5,none⟩=some (.slice A5 n5 c5):=(by rw[bel2.cell lx];exact p5);have hy3:=hx3.later bel2)|(go_at_call 84;refine(zfs _ _ _ _ _ _ hy3 (by omega) (by omega)).mono ?_;rw[G5.out];rintro e w' ⟨rfl,rfl⟩));go_ret;exact⟨zac (by rw[R.out]),zaa B0 bel2⟩
 have G5:=Lib.hid g5;clear g5
 by_cases g6:¬n4=n5
 ·have R:=Lib.hid (show ok=false by rw[HS.out];simp only[G0.out,G1.out,decide_eq_true g2,G3.out,decide_true,G5.out,decide_eq_false g6,Bool.false_and,Bool.and_false,Bool.true_and]);have gg:((n4:Int) != (n5:Int))=true:=by simp;omega
  go_enter Tryz.func34,Tryz.ntmps34
  go_wp2_with fail;rw[<-HW.out];go_wp2_with (first|(go_at_call 80;refine(zeo _ _ _ _).mono ?_;rintro e w' ⟨rfl,rfl⟩)|(go_at_call 85;refine(ze2 _ _ _ _).mono ?_;rintro e w' ⟨rfl,rfl⟩)|(go_at_call 81;refine(zap _ _ _ _).mono ?_;rw[G0.out];rintro e w' ⟨rfl,rfl⟩)|(go_at_call 82;refine(zfc _ _ _ _ _ r1 hb1 (by omega)).mono ?_;rw[G1.out];rintro e w' ⟨rfl,rfl⟩)|(go_at_call 83;refine(zgf _ _ _ _ _ k5 z5).mono ?_;rw[G3.out];rintro e w2 ⟨rfl,bel2⟩;have s0:w2.cell? ⟨w.heap.size,0,none⟩=some (.int .i64 a0):=(by rw[bel2.cell lx];exact p0);have s1:w2.cell? ⟨w.heap.size,1,none⟩=some (.slice A1 n1 c1):=(by rw[bel2.cell lx];exact p1);have s2:w2.cell? ⟨w.heap.size,2,none⟩=some (.slice A2 n3 c2):=(by rw[bel2.cell lx];exact p2);have s3:w2.cell? ⟨w.heap.size,3,none⟩=some (.slice A3 n3 c3):=(by rw[bel2.cell lx];exact p3);have s4:w2.cell? ⟨w.heap.size,4,none⟩=some (.slice A4 n4 c4):=(by rw[bel2.cell lx];exact p4);have s5:w2.cell? ⟨w.heap.size,5,none⟩=some (.slice A5 n5 c5):=(by rw[bel2.cell lx];exact p5);have hy3:=hx3.later bel2)|(go_at_call 84;refine(zfs _ _ _ _ _ _ hy3 (by omega) (by omega)).mono ?_;rw[G5.out];rintro e w' ⟨rfl,rfl⟩));go_ret;exact⟨zac (by rw[R.out]),zaa B0 bel2⟩
 replace g6:n4=n5:=Decidable.not_not.1 g6;subst g6;have HS2:=Lib.hid (show ok=(x2.all (fun t=>za4 t&&zbp t n1)&&x4.all zao)by rw[HS.out];simp only[G0.out,G1.out,decide_eq_true g2,G3.out,G5.out,decide_true,Bool.true_and,Bool.and_true]);clear HS
 go_enter Tryz.func34,Tryz.ntmps34
 go_wp2_with fail;rw[<-HW.out];go_wp2_with (first|(go_at_call 80;refine(zeo _ _ _ _).mono ?_;rintro e w' ⟨rfl,rfl⟩)|(go_at_call 85;refine(ze2 _ _ _ _).mono ?_;rintro e w' ⟨rfl,rfl⟩)|(go_at_call 81;refine(zap _ _ _ _).mono ?_;rw[G0.out];rintro e w' ⟨rfl,rfl⟩)|(go_at_call 82;refine(zfc _ _ _ _ _ r1 hb1 (by omega)).mono ?_;rw[G1.out];rintro e w' ⟨rfl,rfl⟩)|(go_at_call 83;refine(zgf _ _ _ _ _ k5 z5).mono ?_;rw[G3.out];rintro e w2 ⟨rfl,bel2⟩;have s0:w2.cell? ⟨w.heap.size,0,none⟩=some (.int .i64 a0):=(by rw[bel2.cell lx];exact p0);have s1:w2.cell? ⟨w.heap.size,1,none⟩=some (.slice A1 n1 c1):=(by rw[bel2.cell lx];exact p1);have s2:w2.cell? ⟨w.heap.size,2,none⟩=some (.slice A2 n3 c2):=(by rw[bel2.cell lx];exact p2);have s3:w2.cell? ⟨w.heap.size,3,none⟩=some (.slice A3 n3 c3):=(by rw[bel2.cell lx];exact p3);have s4:w2.cell? ⟨w.heap.size,4,none⟩=some (.slice A4 n4 c4):=(by rw[bel2.cell lx];exact p4);have s5:w2.cell? ⟨w.heap.size,5,none⟩=some (.slice A5 n4 c5):=(by rw[bel2.cell lx];exact p5);have hy3:=hx3.later bel2)|(go_at_call 84;refine(zfs _ _ _ _ _ _ hy3 (by omega) (by omega)).mono ?_;rw[G5.out];rintro e w' ⟨rfl,rfl⟩));have B2:=zaa B0 bel2;have lV:w.heap.size<w2.heap.size:=by have:=bel2.size;omega
 replace r2:=r2.later bel2;replace r4:=r4.later bel2
 go_loopw [60] (fun i wr=>∃k:Nat,i=.int .i64 k/\k<=n3/\Hid (ok=((x2.drop k).all (fun t=>za4 t&&zbp t n1)&&x4.all zao))/\Below w2.heap.size w2 wr) (fun i _=>n3-(intOf i).toNat)
 case atStart=>exact⟨0,rfl,by omega,Lib.hid HS2.out,Below.refl _ _⟩
 case round=>
  obtain⟨k,rfl,hk,H,Bw⟩:=hrel;have BW:=zaa B2 Bw
  by_cases hlt:k<n3
  ·obtain⟨bt,ot,A7,n7,c7,t,rfl,hbt,Y,e0,hT,hra,h7⟩:=zhm (r2.below Bw) z2 hlt;have hd:=Lib.hid (M.drop_at Y.out);have hk0:(0:Int)<=(k:Int):=(by omega);have hkn:(k:Int)<(n3:Int):=(by omega);obtain⟨U,hU⟩:∃U,U=wr.alloc (.cells #[.slice A7 n7 c7] 98):=⟨_,rfl⟩;have GU:Below wr.heap.size wr U:=(by rw[hU];exact(Below.refl _ _).alloc (Nat.le_refl _) _);have u0:U.cell? ⟨wr.heap.size,0,none⟩=some (.slice A7 n7 c7):=(by rw[hU,cell_of_row _ wr.heap.size 0 _ 98 (0,0) (heap_alloc_new wr _)];rfl);have BU:=zaa Bw GU;have q1:U.cell? ⟨w.heap.size,1,none⟩=some (.slice A1 n1 c1):=(by rw[BU.cell lV];exact s1);have HU:=Lib.hid hU;clear hU;have hry:=(hra.more Bw.size).later GU;have uu0:=cell_regrown u0;have qq1:=cell_regrown q1;have cS:∀d os,Calls Tryz.prog 88 #[.slice A1 n1 c1] (grow (redrawn U d) os) fun e w''=>e=.returned (.int .i64 n1)/\∃p:Regrown,w''=grow (redrawn U p.d) p.os:=fun d os=>Calls.regrown_of (zfo (zld _ _ _ _))
   have cT:∀d os,Calls Tryz.prog 86 #[.agg #[.slice A7 n7 c7]] (grow (redrawn U d) os) fun e w''=>e=.returned (.bool (za4 t))/\∃p:Regrown,w''=grow (redrawn U p.d) p.os:=fun d os=>Calls.regrown_of (zpb _ _ _ _ _ (hry.later (below_regrown U d os)) (by omega))
   have cH:∀d os,Calls Tryz.prog 87 #[.agg #[.slice A7 n7 c7],.int .i64 n1] (grow (redrawn U d) os) fun e w''=>e=.returned (.bool (zbp t n1))/\∃p:Regrown,w''=grow (redrawn U p.d) p.os:=fun d os=>Calls.regrown_of (zro _ _ _ _ _ _ (hry.later (below_regrown U d os)) (by omega))
   clear u0 q1;cases ht:za4 t
   ·have R:=Lib.hid (show ok=false by rw[H.out,hd.out,List.all_cons];simp only[ht,Bool.false_and]);rw[ht]at cT;clear ht;go_wp2_with fail;rw[<-HU.out];clear e0
    (refine wp_region_quiet_below (by kernel_rfl) (by kernel_rfl) ?_;(repeat (go_big_quiet_step ((first|exact cS _ _|exact cT _ _|exact cH _ _))));refine wpQuiet_nil ?_;intro _ hw';obtain⟨⟨dq,osq⟩,hw''⟩:=hw';subst hw'')
    go_wp2;go_ret;exact⟨zac (by rw[R.out]),zaa BW (zaa GU (below_regrown U dq osq))⟩
   rw[ht]at cT;cases hh:zbp t n1
   ·have R:=Lib.hid (show ok=false by rw[H.out,hd.out,List.all_cons];simp only[ht,hh,Bool.false_and,Bool.and_false]);rw[hh]at cH;clear ht hh;go_wp2_with fail;rw[<-HU.out];clear e0
    (refine wp_region_quiet_below (by kernel_rfl) (by kernel_rfl) ?_;(repeat (go_big_quiet_step ((first|exact cS _ _|exact cT _ _|exact cH _ _))));refine wpQuiet_nil ?_;intro _ hw';obtain⟨⟨dq,osq⟩,hw''⟩:=hw';subst hw'')
    go_wp2;go_ret;exact⟨zac (by rw[R.out]),zaa BW (zaa GU (below_regrown U dq osq))⟩
   have R:=Lib.hid (show ok=((x2.drop (k+1)).all (fun t=>za4 t&&zbp t n1)&&x4.all zao)by rw[H.out,hd.out,List.all_cons];simp only[ht,hh,Bool.true_and]);rw[hh]at cH;clear ht hh;go_wp2_with fail;rw[<-HU.out];clear e0
   (refine wp_region_quiet_below (by kernel_rfl) (by kernel_rfl) ?_;(repeat (go_big_quiet_step ((first|exact cS _ _|exact cT _ _|exact cH _ _))));refine wpQuiet_nil ?_;intro _ hw';obtain⟨⟨dq,osq⟩,hw''⟩:=hw';subst hw'')
   go_wp2;go_roundw
   case rel=>exact⟨k+1,by go_num,by omega,R,zaa Bw (zaa GU (below_regrown U dq osq))⟩
   case measure=>simp[intOf];omega
  have HS4:=Lib.hid (show ok=x4.all zao by rw[H.out,List.drop_eq_nil_of_le (by rw[L2.out];omega)];rfl);have q4:wr.cell? ⟨w.heap.size,4,none⟩=some (.slice A4 n4 c4):=by rw[Bw.cell lV];exact s4
  go_wp2_with fail;clear H hk hlt;obtain⟨wo,rfl⟩:∃wo:Yw,wo=wr:=⟨_,rfl⟩
  go_loopw [79] (fun i wr=>∃k:Nat,i=.int .i64 k/\k<=n4/\Hid (ok=(x4.drop k).all zao)/\Below w2.heap.size w2 wr) (fun i _=>n4-(intOf i).toNat)
  case atStart=>exact⟨0,rfl,by omega,Lib.hid HS4.out,Bw⟩
  case round=>
   obtain⟨k,rfl,hk,H,Bw2⟩:=hrel;have BW:=zaa B2 Bw2
   by_cases hlt2:k<n4
   ·obtain⟨bp,op,b0,B1,m1,d1,B2,m2,d2,B3,m3,d3,y1,y2,y3,rfl,hbp,Y,e0,e1,e2,e3,t1,t2,t3,hz⟩:=zhn (r4.below Bw2) z4 hlt2;have hd:=Lib.hid (M.drop_at Y.out);obtain⟨U,hU⟩:∃U,U=wr.alloc (.cells #[.int .i64 b0,.slice B1 m1 d1,.slice B2 m2 d2,.slice B3 m3 d3] 67):=⟨_,rfl⟩;have GU:Below wr.heap.size wr U:=(by rw[hU];exact(Below.refl _ _).alloc (Nat.le_refl _) _);have HU:=Lib.hid hU;clear hU;have s1:=tSS.later (tSS.more Bw2.size t1) GU;have s2:=tNS.later (tNS.more Bw2.size t2) GU;have s3:=tS.later (tS.more Bw2.size t3) GU;have hk0:(0:Int)<=(k:Int):=(by omega);have hkn:(k:Int)<(n4:Int):=(by omega);cases he:zao (b0,y1,y2,y3)
    ·have R:=Lib.hid (show ok=false by rw[H.out,hd.out,List.all_cons,he];rfl);have HE:=Lib.hid he;clear he;go_wp2_with fail;rw[<-HU.out];refine(zlu _ _ _ _ _ _ _ _ _ _ _ _ _ U s1 s2 s3 hz).mono ?_;rw[HE.out];rintro e w5 ⟨rfl,bel5⟩;go_wp2;go_ret;exact⟨zac (by rw[R.out]),zaa BW (zaa GU bel5)⟩
    have R:=Lib.hid (show ok=(x4.drop (k+1)).all zao by rw[H.out,hd.out,List.all_cons,he];rfl);have HE:=Lib.hid he;clear he;go_wp2_with fail;rw[<-HU.out];refine(zlu _ _ _ _ _ _ _ _ _ _ _ _ _ U s1 s2 s3 hz).mono ?_;rw[HE.out];rintro e w5 ⟨rfl,bel5⟩;go_wp2;go_roundw
    case rel=>exact⟨k+1,by go_num,by omega,R,zaa Bw2 (zaa GU bel5)⟩
    case measure=>simp[intOf];omega
   have R:=Lib.hid (show ok=true by rw[H.out,List.drop_eq_nil_of_le (by rw[L4.out];omega)];rfl);go_wp2;go_ret;exact⟨zac (by rw[R.out]),BW⟩
set_option synthInstance.maxSize 2000
set_option synthInstance.maxHeartbeats 400000
instance decTracks:DecidableEq (List (List zas)):=inferInstance
instance decPatch:DecidableEq zad:=inferInstance
instance decPatches:DecidableEq (List zad):=inferInstance
instance decStrips:DecidableEq (List zag):=inferInstance
instance decSess5:DecidableEq (List zad×List zag):=inferInstance
instance decSess4:DecidableEq (List Int×List zad×List zag):=inferInstance
instance decSess3:DecidableEq (List (List zas)×List Int×List zad×List zag):=inferInstance
instance decSess:DecidableEq Sess:=inferInstance
theorem zn4(p:Int)(A:Yo)(n c:Nat)(Ab:Yo)(nb cb:Nat)(Ac:Yo)(nc cc:Nat)(Ad:Yo)(nd cd:Nat)(Ae:Yo)(ne ce:Nat)(x:Sess)(l:Int)(w:Yw)(hx:tZ.R w w.heap.size [.int .i64 p,.slice A n c,.slice Ab nb cb,.slice Ac nc cc,.slice Ad nd cd,.slice Ae ne ce] x)(hl:0<=l/\l<=1000000000):
 Calls Tryz.prog 5 #[.agg #[.int .i64 p,.slice A n c,.slice Ab nb cb,.slice Ac nc cc,.slice Ad nd cd,.slice Ae ne ce],.int .i64 l] w fun e w'=>e=.returned (.int .i64 (if (hZ.sz x:Int)<=l then l-hZ.sz x else -1))/\Below w.heap.size w w':=by
 obtain⟨a0,x1,x2,x3,x4,x5⟩:=x;obtain⟨A1,n1,c1,A2,n2,c2,A3,n3,c3,A4,n4,c4,A5,n5,c5,hcs,h1,h2,h3,h4,h5⟩:=tZ_R.1 hx;simp only[List.cons.injEq,Value.int.injEq,Value.slice.injEq,true_and,and_true]at hcs;obtain⟨rfl,⟨rfl,rfl,rfl⟩,⟨rfl,rfl,rfl⟩,⟨rfl,rfl,rfl⟩,⟨rfl,rfl,rfl⟩,⟨rfl,rfl,rfl⟩⟩:=hcs;exact zqv _ _ _ _ _ _ _ _ _ _ _ _ _ _ _ _ _ _ _ _ _ _ _ h1 h2 h3 h4 h5 hl
theorem zh1(p:Int)(A:Yo)(n c:Nat)(Ab:Yo)(nb cb:Nat)(Ac:Yo)(nc cc:Nat)(Ad:Yo)(nd cd:Nat)(Ae:Yo)(ne ce:Nat)(x:Sess)(w:Yw)(hx:tZ.R w w.heap.size [.int .i64 p,.slice A n c,.slice Ab nb cb,.slice Ac nc cc,.slice Ad nd cd,.slice Ae ne ce] x)(hn:hZ.sz x<=100000000):
 Calls Tryz.prog 7 #[.agg #[.int .i64 p,.slice A n c,.slice Ab nb cb,.slice Ac nc cc,.slice Ad nd cd,.slice Ae ne ce]] w fun e w'=>∃p' A' n' c' Ab' nb' cb' Ac' nc' cc' Ad' nd' cd' Ae' ne' ce',e=.returned (.agg #[.int .i64 p',.slice A' n' c',.slice Ab' nb' cb',.slice Ac' nc' cc',.slice Ad' nd' cd',.slice Ae' ne' ce'])/\tZ.O w' (Iv w.heap.size w'.heap.size) [.int .i64 p',.slice A' n' c',.slice Ab' nb' cb',.slice Ac' nc' cc',.slice Ad' nd' cd',.slice Ae' ne' ce'] x/\Below w.heap.size w w':=by
 obtain⟨a0,x1,x2,x3,x4,x5⟩:=x;obtain⟨A1,n1,c1,A2,n2,c2,A3,n3,c3,A4,n4,c4,A5,n5,c5,hcs,h1,h2,h3,h4,h5⟩:=tZ_R.1 hx;simp only[List.cons.injEq,Value.int.injEq,Value.slice.injEq,true_and,and_true]at hcs;obtain⟨rfl,⟨rfl,rfl,rfl⟩,⟨rfl,rfl,rfl⟩,⟨rfl,rfl,rfl⟩,⟨rfl,rfl,rfl⟩,⟨rfl,rfl,rfl⟩⟩:=hcs;refine(zqx _ _ _ _ _ _ _ _ _ _ _ _ _ _ _ _ _ _ _ _ _ _ h1 h2 h3 h4 h5 hn).mono ?_;rintro e w' ⟨B1,m1,d1,B2,m2,d2,B3,m3,d3,B4,m4,d4,B5,m5,d5,rfl,o,bel⟩;exact⟨_,_,_,_,_,_,_,_,_,_,_,_,_,_,_,_,rfl,o,bel⟩
theorem zh2(p:Int)(A:Yo)(n c:Nat)(Ab:Yo)(nb cb:Nat)(Ac:Yo)(nc cc:Nat)(Ad:Yo)(nd cd:Nat)(Ae:Yo)(ne ce:Nat)(p':Int)(A':Yo)(n' c':Nat)(Ab':Yo)(nb' cb':Nat)(Ac':Yo)(nc' cc':Nat)(Ad':Yo)(nd' cd':Nat)(Ae':Yo)(ne' ce':Nat)(x:Sess)(w:Yw)(hx:tZ.R w w.heap.size [.int .i64 p,.slice A n c,.slice Ab nb cb,.slice Ac nc cc,.slice Ad nd cd,.slice Ae ne ce] x)(hy:tZ.R w w.heap.size [.int .i64 p',.slice A' n' c',.slice Ab' nb' cb',.slice Ac' nc' cc',.slice Ad' nd' cd',.slice Ae' ne' ce'] x)(hn:hZ.sz x<=100000000):
 Calls Tryz.prog 9 #[.agg #[.int .i64 p,.slice A n c,.slice Ab nb cb,.slice Ac nc cc,.slice Ad nd cd,.slice Ae ne ce],.agg #[.int .i64 p',.slice A' n' c',.slice Ab' nb' cb',.slice Ac' nc' cc',.slice Ad' nd' cd',.slice Ae' ne' ce']] w fun e w'=>e=.returned (.bool true)/\Below w.heap.size w w':=by
 obtain⟨a0,x1,x2,x3,x4,x5⟩:=x;obtain⟨A1,n1,c1,A2,n2,c2,A3,n3,c3,A4,n4,c4,A5,n5,c5,hcs,h1,h2,h3,h4,h5⟩:=tZ_R.1 hx;simp only[List.cons.injEq,Value.int.injEq,Value.slice.injEq,true_and,and_true]at hcs;obtain⟨rfl,⟨rfl,rfl,rfl⟩,⟨rfl,rfl,rfl⟩,⟨rfl,rfl,rfl⟩,⟨rfl,rfl,rfl⟩,⟨rfl,rfl,rfl⟩⟩:=hcs;obtain⟨A1',n1',c1',A2',n2',c2',A3',n3',c3',A4',n4',c4',A5',n5',c5',hcs',k1,k2,k3,k4,k5⟩:=tZ_R.1 hy;simp only[List.cons.injEq,Value.int.injEq,Value.slice.injEq,true_and,and_true]at hcs';obtain⟨rfl,⟨rfl,rfl,rfl⟩,⟨rfl,rfl,rfl⟩,⟨rfl,rfl,rfl⟩,⟨rfl,rfl,rfl⟩,⟨rfl,rfl,rfl⟩⟩:=hcs';exact zqw _ _ _ _ _ _ _ _ _ _ _ _ _ _ _ _ _ _ _ _ _ _ _ _ _ _ _ _ _ _ _ _ _ _ _ _ _  h1 h2 h3 h4 h5 k1 k2 k3 k4 k5 hn
theorem zvo(A:Yo)(n c:Nat)(k:Int)(xs:List zag)(w:Yw)(hx:tM.R w w.heap.size [.slice A n c] (hM.mark k xs))(hk:0<=k/\k+(hM.cnt xs:Int)<=1000000000):
 Calls Tryz.prog 104 #[.slice A n c,.int .i64 k] w fun e w'=>e=.returned (.int .i64 (k+hM.cnt xs))/\Below w.heap.size w w':=by
 have hr:RS tSt w w.heap.size (.slice A n c) (hSt.mkL k xs):=sl_R.1 hx;obtain rfl:xs.length=n:=by rw[<-hr.cap.1,Hs.mkL_len]
 have hl:xs.length<=9223372036854775807:=by have h1:=hr.cap.2;unfold maxLen at h1;omega
 have hcn:k+(hSt.cntL xs:Int)<=1000000000:=hk.2;have hml:=Lib.hid (hSt.mkL_len k xs);clear hx
 go_enter Tryz.func104,Tryz.ntmps104
 go_wp2
 go_loopw [1,5] (fun q i wr=>∃j:Nat,i=.int .i64 j/\j<=xs.length/\q=.int .i64 (k+(hSt.cntL (xs.take j):Int))/\Below w.heap.size w wr) (fun _ i _=>xs.length-(intOf i).toNat)
 case atStart=>exact⟨0,rfl,by omega,by simp[Hs.cntL],Below.refl _ _⟩
 case round=>
  obtain⟨j,rfl,hj,rfl,hb⟩:=hrel
  by_cases hlt:j<xs.length
  ·have hX:=Lib.hid (List.getElem?_eq_getElem hlt);have hmk:=hSt.mkL_at k hX.out;obtain⟨b,o,c1,cs,hv,hab,-,hE,hc⟩:=(hr.below hb).atX hmk;simp only[Value.slice.injEq]at hv;obtain⟨rfl,-,-⟩:=hv;have hc1:=hSt.cntL_at hX.out;have hct2:=Lib.hid (hSt.cntL_take hX.out);clear hmk;generalize xs[j]=x at hX hE hc1 hct2;obtain⟨s,l0,ys⟩:=x;rw[zgc]at hc1;have hz:=zgb ys;generalize hK:k+(hSt.cntL (xs.take j):Int)=K at hE ⊢;have HK:=Lib.hid hK;have hK0:0<=K/\K+2+2*(ys.length:Int)<=1000000000:=(by omega);clear hK;obtain⟨q,rfl⟩:∃q:Nat,K=q:=⟨K.toNat,by omega⟩;have hE2:tSt.R wr w.heap.size cs (zdg (q:Int),(q:Int)+1,hSdS.mark ((q:Int)+1+1) ys):=hE;obtain⟨A0,n0,c0,rfl,hs,y0⟩:=st_R.1 hE2;have ec0:wr.cell? ⟨b,o+j*3,none⟩=some (.string (zdg (q:Int))):=hc 0 _ rfl;have ec1:wr.cell? ⟨b,o+j*3+1,none⟩=some (.int .i64 ((q:Int)+1)):=hc 1 _ rfl;have ec2:wr.cell? ⟨b,o+j*3+2,none⟩=some (.slice A0 n0 c0):=hc 2 _ rfl;have y1:=tSdS.more hb.size y0;have hbr:b<wr.heap.size:=Nat.lt_of_lt_of_le hab hb.size;have rc0:=cell_regrown ec0;have cT:∀d os,Calls Tryz.prog 157 #[.int .i64 (q:Int)] (grow (redrawn wr d) os) fun e w''=>e=.returned (.string (zdg (q:Int)))/\∃p:Regrown,w''=grow (redrawn wr p.d) p.os:=fun d os=>Calls.regrown_of (zkp q _ (by omega))
   generalize zdg (q:Int)=T at ec0 rc0 cT;clear hc hE hE2;go_wp2_with fail
   (refine wp_region_quiet_below (by kernel_rfl) (by kernel_rfl) ?_;(repeat (go_big_quiet_step (exact cT _ _)));refine wpQuiet_nil ?_;intro _ hw';obtain⟨⟨dq,osq⟩,hw''⟩:=hw';subst hw'')
   have G0:=below_regrown wr dq osq;generalize hVV:grow (redrawn wr dq) osq=V at G0 ⊢;clear hVV;replace ec1:V.cell? ⟨b,o+j*3+1,none⟩=some (.int .i64 ((q:Int)+1)):=(by rw[G0.cell (by show b<_;omega)];exact ec1);replace ec2:V.cell? ⟨b,o+j*3+2,none⟩=some (.slice A0 n0 c0):=(by rw[G0.cell (by show b<_;omega)];exact ec2);have y2:=tSdS.later y1 G0;go_wp2_with fail;refine(zpr _ _ _ _ _ _ y2 (by omega)).mono ?_;rintro e v1 ⟨rfl,b1⟩;replace hb:=zaa hb (zaa G0 b1);go_wp2;go_roundw
   case rel=>exact⟨j+1,by go_num,by omega,by rw[hct2.out,zgc];have:=HK.out;go_num,hb⟩
   case measure=>simp[intOf];omega
  obtain rfl:xs.length=j:=by omega
  go_wp2;go_ret;exact⟨by rw[List.take_of_length_le (Nat.le_refl _)];rfl,hb⟩
theorem zvp(A:Yo)(n c:Nat)(k:Int)(xs:List zag)(w:Yw)(hx:tM.R w w.heap.size [.slice A n c] (hM.mark k xs))(hk:0<=k/\k+(hM.cnt xs:Int)<=1000000000):
 Calls Tryz.prog 52 #[.agg #[.slice A n c],.int .i64 k] w fun e w'=>e=.returned (.int .i64 (k+hM.cnt xs))/\Below w.heap.size w w':=by
 have hb:Below w.heap.size w (w.alloc (.cells #[.slice A n c] 36)):=(Below.refl _ _).alloc (Nat.le_refl _) _;have hx2:=tM.later hx hb
 go_enter Tryz.func52,Tryz.ntmps52
 go_wp2_with (go_at_call 104;refine(zvo _ _ _ _ _ _ hx2 hk).mono ?_;rintro e w2 ⟨rfl,bel2⟩);go_ret;exact⟨rfl,hb.trans (bel2.mono hb.size)⟩
theorem zn5(k:Int)(a0:Int)(x1:List (List Int))(x2:List (List zas))(x3:List Int)(x4:List zad)(x5:List zag):hZ.mark k (a0,x1,x2,x3,x4,x5)=(a0,hSS.mark k x1,hTS.mark (k+hSS.cnt x1) x2,hS.mark (k+hSS.cnt x1+hTS.cnt x2) x3,hPS.mark (k+hSS.cnt x1+hTS.cnt x2+hS.cnt x3) x4,hM.mark (k+hSS.cnt x1+hTS.cnt x2+hS.cnt x3+hPS.cnt x4) x5):=by
 have e:k+((0:Nat):Int)=k:=by simp
 show (a0,hSS.mark (k+((0:Nat):Int)) x1,hTS.mark (k+((0:Nat):Int)+hSS.cnt x1) x2,hS.mark (k+((0:Nat):Int)+hSS.cnt x1+hTS.cnt x2) x3,hPS.mark (k+((0:Nat):Int)+hSS.cnt x1+hTS.cnt x2+hS.cnt x3) x4,hM.mark (k+((0:Nat):Int)+hSS.cnt x1+hTS.cnt x2+hS.cnt x3+hPS.cnt x4) x5)=_
 rw[e]
theorem OH.at{α:Type}{t:Ty α}{e:TypeId}{w U:Yw}{F:Nat->Prop}{v:Value}{xs:List α}{css:List (List Value)}{Fs:Nat->Nat->Prop}{k:Nat}(h:OH t e w F v xs css Fs k)(hU:U=w):OH t e U F v xs css Fs k:=hU▸h
theorem zvq(A:Yo)(n c:Nat)(k:Int)(xs:List Node)(w:Yw)(F:Nat->Prop)(hx:tNS.O w F [.slice A n c] xs)(hk:0<=k/\k+(hNS.cnt xs:Int)<=1000000000):
 Calls Tryz.prog 100 #[.slice A n c,.int .i64 k] w fun e w'=>e=.returned (.int .i64 (k+hNS.cnt xs))/\tNS.O w' F [.slice A n c] (hNS.mark k xs)/\Chg F w w':=by
 have ow:=sl_O.1 hx;have hcap:=ow.read.cap;obtain rfl:xs.length=n:=hcap.1;have hl:xs.length<=9223372036854775807:=by have h1:=hcap.2;unfold maxLen at h1;omega
 clear hcap;have hcn:k+(hN.cntL xs:Int)<=1000000000:=hk.2;clear hx
 go_enter Tryz.func100,Tryz.ntmps100
 go_wp2
 go_loopw [1,5] (fun q i wr=>∃j:Nat,i=.int .i64 j/\j<=xs.length/\q=.int .i64 (k+(hN.cntL (xs.take j):Int))/\OS tN 169 wr F (.slice A xs.length c) ((hN.mkL k xs).take j++xs.drop j)/\Chg F w wr)
  (fun _ i _=>xs.length-(intOf i).toNat)
 case atStart=>exact⟨0,rfl,by omega,by simp[Hs.cntL],by simpa using ow,Chg.refl _ _⟩
 case round=>
  obtain⟨j,rfl,hj,rfl,own,hg⟩:=hrel
  by_cases hlt:j<xs.length
  ·have hml:=Lib.hid (hN.mkL_len k xs);have hX:=Lib.hid (List.getElem?_eq_getElem hlt);have hc1:=hN.cntL_at hX.out;have hct2:=Lib.hid (hN.cntL_take hX.out);have hmk:=Lib.hid (hN.mkL_at k hX.out);generalize xs[j]=x at hX hc1 hct2 hmk;obtain⟨a0,a1,a2,x3⟩:=x;rw[zgg]at hc1;generalize hK:k+(hN.cntL (xs.take j):Int)=K at hmk ⊢;have HK:=Lib.hid hK;have hK0:0<=K/\K+((3+hS.cnt x3:Nat):Int)<=1000000000:=(by omega);clear hK;have hyj:=Lib.hid (show ((hN.mkL k xs).take j++xs.drop j)[j]?=some ((a0,a1,a2,x3):Node)by rw[M.mid_at hml.out];exact hX.out);obtain⟨css,Fs,hole,cs,hcs,hE⟩:=own.openAt hyj.out;obtain⟨A3,n3,c3,F3,rfl,o3_0,t3⟩:=tN_O.1 hE;obtain⟨g,rfl,hFg,hFn,hgl,-⟩:=hole.form (List.getElem?_eq_some_iff.1 hyj.out).1;have q0:wr.cell? ⟨g,j*4+0,none⟩=some _:=(hole.cell hcs (j:=0) rfl).1;have r0:wr.frozen? ⟨g,j*4+0,none⟩=false:=(hole.cell hcs (j:=0) rfl).2;have q1:wr.cell? ⟨g,j*4+1,none⟩=some _:=(hole.cell hcs (j:=1) rfl).1;have r1:wr.frozen? ⟨g,j*4+1,none⟩=false:=(hole.cell hcs (j:=1) rfl).2;have q2:wr.cell? ⟨g,j*4+2,none⟩=some _:=(hole.cell hcs (j:=2) rfl).1;have r2:wr.frozen? ⟨g,j*4+2,none⟩=false:=(hole.cell hcs (j:=2) rfl).2;have q3:wr.cell? ⟨g,j*4+3,none⟩=some _:=(hole.cell hcs (j:=3) rfl).1;rw[Nat.add_zero]at q0 r0;go_wp2_with fail;obtain⟨U1,hU⟩:∃U,U=(((wr.setCell ⟨g,j*4,none⟩ (.int .i64 (K))).setCell ⟨g,j*4+1,none⟩ (.int .i64 (K+1))).setCell ⟨g,j*4+2,none⟩ (.int .i64 (K+1+1))):=⟨_,rfl⟩;rw[<-hU];have s0_0:=hole.set hcs 0 (by decide) (.int .i64 (K));have s0_1:=s0_0.1.set s0_0.2 1 (by decide) (.int .i64 (K+1));have s0_2:=s0_1.1.set s0_1.2 2 (by decide) (.int .i64 (K+1+1));have hole1:=OH.at s0_2.1 hU;have hcs1:=s0_2.2;have ch0u:Chg F wr U1:=(by rw[hU];exact((Chg.set _ g (j*4) _ hFg).trans (Chg.set _ g (j*4+1) _ hFg)).trans (Chg.set _ g (j*4+2) _ hFg));have o3_1:tS.O U1 F3 [.slice A3 n3 c3] _:=tS.okeep (fun b hb=>by rw[hU];exact(heap_setCell_other _ ⟨g,j*4+2,none⟩ b _ (fun e=>hFn (by simp only at e;rw[<-e];exact t3 b hb))).trans ((heap_setCell_other _ ⟨g,j*4+1,none⟩ b _ (fun e=>hFn (by simp only at e;rw[<-e];exact t3 b hb))).trans (heap_setCell_other _ ⟨g,j*4,none⟩ b _ (fun e=>hFn (by simp only at e;rw[<-e];exact t3 b hb))))) o3_0;clear hU;have q0_u0:U1.cell? ⟨g,j*4+0,none⟩=some _:=(hole1.cell hcs1 (j:=0) rfl).1;have r0_u0:U1.frozen? ⟨g,j*4+0,none⟩=false:=(hole1.cell hcs1 (j:=0) rfl).2;have q1_u0:U1.cell? ⟨g,j*4+1,none⟩=some _:=(hole1.cell hcs1 (j:=1) rfl).1;have r1_u0:U1.frozen? ⟨g,j*4+1,none⟩=false:=(hole1.cell hcs1 (j:=1) rfl).2;have q2_u0:U1.cell? ⟨g,j*4+2,none⟩=some _:=(hole1.cell hcs1 (j:=2) rfl).1;have r2_u0:U1.frozen? ⟨g,j*4+2,none⟩=false:=(hole1.cell hcs1 (j:=2) rfl).2;have q3_u0:U1.cell? ⟨g,j*4+3,none⟩=some _:=(hole1.cell hcs1 (j:=3) rfl).1;rw[Nat.add_zero]at q0_u0 r0_u0;replace hg:=hg.trans ch0u;refine(zg6 _ _ _ _ _ _ F3 o3_1 (by omega)).mono ?_;rintro e v1 ⟨rfl,o3_n,ch0⟩;have ch0w:=ch0.wide t3;have o3_2:=o3_n;have hole1b:=hole1.chg ch0w;replace hg:=hg.trans (ch0w.wide hole1.fits);go_wp2;go_roundw
   case rel=>
    have h3:=hole1b.fill hcs1 (y:=((K,K+1,K+1+1,hS.mark (K+1+1+1) x3):Node)) (tN_O.2 ⟨A3,n3,c3,F3,rfl,o3_2,t3⟩);have hmk2:(hN.mkL k xs)[j]?=some ((K,K+1,K+1+1,hS.mark (K+1+1+1) x3):Node):=hmk.out;rw[M.set_mid hml.out hmk2]at h3;exact⟨j+1,by go_num,by omega,by rw[hct2.out,zgg];have:=HK.out;subst this;go_num,h3,hg⟩
   case measure=>simp[intOf];omega
  obtain rfl:xs.length=j:=by omega
  go_wp2;go_ret;rw[List.take_of_length_le (by rw[Hs.mkL_len];omega),List.drop_eq_nil_of_le (by omega),List.append_nil]at own;exact⟨by rw[List.take_of_length_le (Nat.le_refl _)];rfl,sl_O.2 own,hg⟩
theorem zvr(A:Yo)(n c:Nat)(k:Int)(xs:List Node)(w:Yw)(hx:tNS.R w w.heap.size [.slice A n c] (hNS.mark k xs))(hk:0<=k/\k+(hNS.cnt xs:Int)<=1000000000):
 Calls Tryz.prog 103 #[.slice A n c,.int .i64 k] w fun e w'=>e=.returned (.int .i64 (k+hNS.cnt xs))/\Below w.heap.size w w':=by
 have hr:RS tN w w.heap.size (.slice A n c) (hN.mkL k xs):=sl_R.1 hx;obtain rfl:xs.length=n:=by rw[<-hr.cap.1,Hs.mkL_len]
 have hl:xs.length<=9223372036854775807:=by have h1:=hr.cap.2;unfold maxLen at h1;omega
 have hcn:k+(hN.cntL xs:Int)<=1000000000:=hk.2;have hml:=Lib.hid (hN.mkL_len k xs);clear hx
 go_enter Tryz.func103,Tryz.ntmps103
 go_wp2
 go_loopw [1,5] (fun q i wr=>∃j:Nat,i=.int .i64 j/\j<=xs.length/\q=.int .i64 (k+(hN.cntL (xs.take j):Int))/\Below w.heap.size w wr) (fun _ i _=>xs.length-(intOf i).toNat)
 case atStart=>exact⟨0,rfl,by omega,by simp[Hs.cntL],Below.refl _ _⟩
 case round=>
  obtain⟨j,rfl,hj,rfl,hb⟩:=hrel
  by_cases hlt:j<xs.length
  ·have hX:=Lib.hid (List.getElem?_eq_getElem hlt);have hmk:=hN.mkL_at k hX.out;obtain⟨b,o,c1,cs,hv,hab,-,hE,hc⟩:=(hr.below hb).atX hmk;simp only[Value.slice.injEq]at hv;obtain⟨rfl,-,-⟩:=hv;have hc1:=hN.cntL_at hX.out;have hct2:=Lib.hid (hN.cntL_take hX.out);clear hmk;generalize xs[j]=x at hX hE hc1 hct2;obtain⟨a0,a1,a2,x3⟩:=x;rw[zgg]at hc1;generalize hK:k+(hN.cntL (xs.take j):Int)=K at hE ⊢;have HK:=Lib.hid hK;have hK0:0<=K/\K+((3+hS.cnt x3:Nat):Int)<=1000000000:=(by omega);clear hK;replace hE:tN.R wr w.heap.size cs (K,K+1,K+1+1,hS.mark (K+1+1+1) x3):=hE;obtain⟨A3,n3,c3,rfl,e3⟩:=tN_R.1 hE;have ec0:wr.cell? ⟨b,o+j*4,none⟩=some (.int .i64 (K)):=hc 0 _ rfl;have ec1:wr.cell? ⟨b,o+j*4+1,none⟩=some (.int .i64 (K+1)):=hc 1 _ rfl;have ec2:wr.cell? ⟨b,o+j*4+2,none⟩=some (.int .i64 (K+1+1)):=hc 2 _ rfl;have ec3:wr.cell? ⟨b,o+j*4+3,none⟩=some (.slice A3 n3 c3):=hc 3 _ rfl;have y3_0:=tS.more hb.size e3;have hbr:b<wr.heap.size:=Nat.lt_of_lt_of_le hab hb.size;clear hc hE;go_wp2_with fail;refine(zg7 _ _ _ _ _ _ y3_0 (by omega)).mono ?_;rintro e v1 ⟨rfl,b1⟩;obtain⟨hc1,-⟩:=zan b1;have hbr1:=Nat.lt_of_lt_of_le hbr b1.size;replace hb:=hb.trans (b1.mono hb.size);go_wp2;go_roundw
   case rel=>exact⟨j+1,by go_num,by omega,by rw[hct2.out,zgg];have:=HK.out;subst this;go_num,hb⟩
   case measure=>simp[intOf];omega
  obtain rfl:xs.length=j:=by omega
  go_wp2;go_ret;exact⟨by rw[List.take_of_length_le (Nat.le_refl _)];rfl,hb⟩
end Go.Proofs.YtifeldeikhmckaaGreat
