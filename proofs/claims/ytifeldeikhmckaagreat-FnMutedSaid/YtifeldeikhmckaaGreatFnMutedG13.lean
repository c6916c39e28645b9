import Derived.Test.YtifeldeikhmckaaGreatFnMutedG6
import Derived.Lib.QuietBelow
import Derived.Test.YtifeldeikhmckaaGreatFnMutedG4
import Derived.Test.YtifeldeikhmckaaGreatFnMutedG2
import Derived.Test.YtifeldeikhmckaaGreatFnMutedG3
import Derived.Test.YtifeldeikhmckaaGreatFnMutedG8
import Derived.Test.YtifeldeikhmckaaGreatFnMutedG11
import Derived.Test.YtifeldeikhmckaaGreatFnMutedG12
set_option linter.unusedVariables false
set_option linter.unusedSimpArgs false
set_option maxRecDepth 100000
set_option maxHeartbeats 4000000
namespace Go.Proofs.YtifeldeikhmckaaGreat
open Go.RowKit Go.Sort
set_option synthInstance.maxSize 2000
set_option synthInstance.maxHeartbeats 400000
theorem zgf(A:Yo)(n c:Nat)(w:Yw):Calls Tryz.prog 85 #[.slice A n c] w fun e w'=>e=.returned (.int .i64 n)/\w=w':=by
 go_enter Tryz.func85,Tryz.ntmps85
 go_wp2;go_ret;exact⟨rfl,rfl⟩
theorem zgg(a0:Int)(A1:Yo)(n1 c1:Nat)(A2:Yo)(n2 c2:Nat)(A3:Yo)(n3 c3:Nat)(A4:Yo)(n4 c4:Nat)(A5:Yo)(n5 c5:Nat)(x1:List (List Int))(x2:List (List zap))(x3:List Int)(x4:List zae)(x5:List zag)(w:Yw)(h1:tSS.R w w.heap.size [.slice A1 n1 c1] x1)(h2:tTS.R w w.heap.size [.slice A2 n2 c2] x2)(h3:tS.R w w.heap.size [.slice A3 n3 c3] x3)(h4:tPS.R w w.heap.size [.slice A4 n4 c4] x4)(h5:tM.R w w.heap.size [.slice A5 n5 c5] x5)(hn:hZ.sz ((a0,x1,x2,x3,x4,x5):Sess)<=100000000):
 Calls Tryz.prog 34 #[.agg #[.int .i64 a0,.slice A1 n1 c1,.slice A2 n2 c2,.slice A3 n3 c3,.slice A4 n4 c4,.slice A5 n5 c5]] w fun e w'=>e=.returned (.bool (zbd (a0,x1,x2,x3,x4,x5)))/\Below w.heap.size w w':=by
 obtain⟨W,hW⟩:∃W,W=w.alloc (.cells #[.int .i64 a0,.slice A1 n1 c1,.slice A2 n2 c2,.slice A3 n3 c3,.slice A4 n4 c4,.slice A5 n5 c5] 38):=⟨_,rfl⟩;have B0:Below w.heap.size w W:=by rw[hW];exact(Aw _ _).alloc (Aj _) _
 have p0:W.cell? ⟨w.heap.size,0,none⟩=some (.int .i64 a0):=by rw[hW];simp[go_sem]
 have p1:W.cell? ⟨w.heap.size,1,none⟩=some (.slice A1 n1 c1):=by rw[hW];simp[go_sem]
 have p2:W.cell? ⟨w.heap.size,2,none⟩=some (.slice A2 n2 c2):=by rw[hW];simp[go_sem]
 have p3:W.cell? ⟨w.heap.size,3,none⟩=some (.slice A3 n3 c3):=by rw[hW];simp[go_sem]
 have p4:W.cell? ⟨w.heap.size,4,none⟩=some (.slice A4 n4 c4):=by rw[hW];simp[go_sem]
 have p5:W.cell? ⟨w.heap.size,5,none⟩=some (.slice A5 n5 c5):=by rw[hW];simp[go_sem]
 have lx:w.heap.size<W.heap.size:=by rw[hW];simp
 have HW:=Aq hW;clear hW;have k1:=tSS.later h1 B0;have k2:=tTS.later h2 B0;have k3:=tS.later h3 B0;have k4:=tPS.later h4 B0;have k5:=tM.later h5 B0;rw[zeb]at hn;have r1:=sl_R.1 k1;have L1:=Aq r1.cap.1;have r2:=sl_R.1 k2;have L2:=Aq r2.cap.1;have r3:=sl_R.1 k3;have L3:=Aq r3.cap.1;have r4:=sl_R.1 k4;have L4:=Aq r4.cap.1;have r5:=sl_R.1 k5;have L5:=Aq r5.cap.1;have z1:hSS.sz x1<=100000000:=by omega
 have bn1:n1<=100000000:=by have e:x1.length+hS.szL x1=hSS.sz x1:=rfl;have:=L1.out;omega
 have z2:hTS.sz x2<=100000000:=by omega
 have bn2:n2<=100000000:=by have e:x2.length+hT.szL x2=hTS.sz x2:=rfl;have:=L2.out;omega
 have z3:hS.sz x3<=100000000:=by omega
 have bn3:n3<=100000000:=by have e:x3.length+hI.szL x3=hS.sz x3:=rfl;have:=L3.out;omega
 have z4:hPS.sz x4<=100000000:=by omega
 have bn4:n4<=100000000:=by have e:x4.length+hP.szL x4=hPS.sz x4:=rfl;have:=L4.out;omega
 have z5:hM.sz x5<=100000000:=by omega
 have bn5:n5<=100000000:=by have e:x5.length+hSt.szL x5=hM.sz x5:=rfl;have:=L5.out;omega
 have hb1:Hid (∀x∈x1,x.length<=1000000000):=Aq (fun x hx=>by
  have hq1:x1.length+hS.szL x1=hSS.sz x1:=rfl;obtain⟨i,hi⟩:=Fk hx;have:=hS.szL_at hi;rw[zb3]at this;omega)
 have hx3:=(tS_R.1 k3).ri;clear hn;clear h1 h2 h3 h4 h5;have HS:=Aq (show zbd (a0,x1,x2,x3,x4,x5)=(M.inn a0 0 1000&&zdz x1&&decide (n2<=6)&&zay x5&&decide (n3=n2)&&x3.all (za7 n5)&&decide (n4=n5)&&x2.all (fun t=>za1 t&&zbq t n1)&&x4.all zas)by rw[zbd];simp only[L1.out,L2.out,L3.out,L4.out,L5.out]);generalize zbd (a0,x1,x2,x3,x4,x5)=ok at HS ⊢;cases g0:M.inn a0 0 1000
 ·have R:=Aq (show ok=false by rw[HS.out];simp only[g0,Ez,Ev,Ew]);have G0:=Aq g0;clear g0
  go_enter Tryz.func34,Tryz.ntmps34
  go_wp2_with fail;rw[<-HW.out];go_wp2_with (first|(go_at_call 80;refine(ze3 _ _ _ _).mono ?_;rintro e w' ⟨rfl,rfl⟩)|(go_at_call 85;refine(zgf _ _ _ _).mono ?_;rintro e w' ⟨rfl,rfl⟩)|(go_at_call 81;refine(zav _ _ _ _).mono ?_;rw[G0.out];rintro e w' ⟨rfl,rfl⟩));go_ret;exact⟨zac (by rw[R.out]),B0⟩
 have G0:=Aq g0;clear g0;cases g1:zdz x1
 ·have R:=Aq (show ok=false by rw[HS.out];simp only[G0.out,g1,Ez,Ev,Ew]);have G1:=Aq g1;clear g1
  go_enter Tryz.func34,Tryz.ntmps34
  go_wp2_with fail;rw[<-HW.out];go_wp2_with (first|(go_at_call 80;refine(ze3 _ _ _ _).mono ?_;rintro e w' ⟨rfl,rfl⟩)|(go_at_call 85;refine(zgf _ _ _ _).mono ?_;rintro e w' ⟨rfl,rfl⟩)|(go_at_call 81;refine(zav _ _ _ _).mono ?_;rw[G0.out];rintro e w' ⟨rfl,rfl⟩)|(go_at_call 82;refine(zgq _ _ _ _ _ r1 hb1 (by omega)).mono ?_;rw[G1.out];rintro e w' ⟨rfl,rfl⟩));go_ret;exact⟨zac (by rw[R.out]),B0⟩
 have G1:=Aq g1;clear g1
 by_cases g2:¬n2<=6
 ·have R:=Aq (show ok=false by rw[HS.out];simp only[G0.out,G1.out,Dz g2,Ez,Ev,Ew]);have gg:decide ((6:Int)<(n2:Int))=true:=Dx (by omega)
  go_enter Tryz.func34,Tryz.ntmps34
  go_wp2_with fail;rw[<-HW.out];go_wp2_with (first|(go_at_call 80;refine(ze3 _ _ _ _).mono ?_;rintro e w' ⟨rfl,rfl⟩)|(go_at_call 85;refine(zgf _ _ _ _).mono ?_;rintro e w' ⟨rfl,rfl⟩)|(go_at_call 81;refine(zav _ _ _ _).mono ?_;rw[G0.out];rintro e w' ⟨rfl,rfl⟩)|(go_at_call 82;refine(zgq _ _ _ _ _ r1 hb1 (by omega)).mono ?_;rw[G1.out];rintro e w' ⟨rfl,rfl⟩));go_ret;exact⟨zac (by rw[R.out]),B0⟩
 replace g2:n2<=6:=Dy.1 g2;have gd2:decide ((6:Int)<(n2:Int))=false:=Dz (by omega);cases g3:zay x5
 ·have R:=Aq (show ok=false by rw[HS.out];simp only[G0.out,G1.out,Dx g2,g3,Ez,Ev,Ew]);have G3:=Aq g3;clear g3
  go_enter Tryz.func34,Tryz.ntmps34
  go_wp2_with fail;rw[<-HW.out];go_wp2_with (first|(go_at_call 80;refine(ze3 _ _ _ _).mono ?_;rintro e w' ⟨rfl,rfl⟩)|(go_at_call 85;refine(zgf _ _ _ _).mono ?_;rintro e w' ⟨rfl,rfl⟩)|(go_at_call 81;refine(zav _ _ _ _).mono ?_;rw[G0.out];rintro e w' ⟨rfl,rfl⟩)|(go_at_call 82;refine(zgq _ _ _ _ _ r1 hb1 (by omega)).mono ?_;rw[G1.out];rintro e w' ⟨rfl,rfl⟩)|(go_at_call 83;refine(zht _ _ _ _ _ k5 z5).mono ?_;rw[G3.out];rintro e w2 ⟨rfl,bel2⟩;have s0:w2.cell? ⟨w.heap.size,0,none⟩=some (.int .i64 a0):=(by rw[bel2.cell lx];exact p0);have s1:w2.cell? ⟨w.heap.size,1,none⟩=some (.slice A1 n1 c1):=(by rw[bel2.cell lx];exact p1);have s2:w2.cell? ⟨w.heap.size,2,none⟩=some (.slice A2 n2 c2):=(by rw[bel2.cell lx];exact p2);have s3:w2.cell? ⟨w.heap.size,3,none⟩=some (.slice A3 n3 c3):=(by rw[bel2.cell lx];exact p3);have s4:w2.cell? ⟨w.heap.size,4,none⟩=some (.slice A4 n4 c4):=(by rw[bel2.cell lx];exact p4);have s5:w2.cell? ⟨w.heap.size,5,none⟩=some (.slice A5 n5 c5):=(by rw[bel2.cell lx];exact p5);have hy3:=hx3.later bel2));go_ret;exact⟨zac (by rw[R.out]),zaa B0 bel2⟩
 have G3:=Aq g3;clear g3
 by_cases g4:¬n3=n2
 ·have R:=Aq (show ok=false by rw[HS.out];simp only[G0.out,G1.out,Dx g2,G3.out,Dz g4,Ez,Ev,Ew]);have gg:((n3:Int) != (n2:Int))=true:=by simp;omega
  go_enter Tryz.func34,Tryz.ntmps34
  go_wp2_with fail;rw[<-HW.out];go_wp2_with (first|(go_at_call 80;refine(ze3 _ _ _ _).mono ?_;rintro e w' ⟨rfl,rfl⟩)|(go_at_call 85;refine(zgf _ _ _ _).mono ?_;rintro e w' ⟨rfl,rfl⟩)|(go_at_call 81;refine(zav _ _ _ _).mono ?_;rw[G0.out];rintro e w' ⟨rfl,rfl⟩)|(go_at_call 82;refine(zgq _ _ _ _ _ r1 hb1 (by omega)).mono ?_;rw[G1.out];rintro e w' ⟨rfl,rfl⟩)|(go_at_call 83;refine(zht _ _ _ _ _ k5 z5).mono ?_;rw[G3.out];rintro e w2 ⟨rfl,bel2⟩;have s0:w2.cell? ⟨w.heap.size,0,none⟩=some (.int .i64 a0):=(by rw[bel2.cell lx];exact p0);have s1:w2.cell? ⟨w.heap.size,1,none⟩=some (.slice A1 n1 c1):=(by rw[bel2.cell lx];exact p1);have s2:w2.cell? ⟨w.heap.size,2,none⟩=some (.slice A2 n2 c2):=(by rw[bel2.cell lx];exact p2);have s3:w2.cell? ⟨w.heap.size,3,none⟩=some (.slice A3 n3 c3):=(by rw[bel2.cell lx];exact p3);have s4:w2.cell? ⟨w.heap.size,4,none⟩=some (.slice A4 n4 c4):=(by rw[bel2.cell lx];exact p4);have s5:w2.cell? ⟨w.heap.size,5,none⟩=some (.slice A5 n5 c5):=(by rw[bel2.cell lx];exact p5);have hy3:=hx3.later bel2));go_ret;exact⟨zac (by rw[R.out]),zaa B0 bel2⟩
 replace g4:n3=n2:=Dy.1 g4;subst g4;cases g5:x3.all (za7 n5)
 ·have R:=Aq (show ok=false by rw[HS.out];simp only[G0.out,G1.out,Dx g2,G3.out,decide_true,g5,Ez,Ev,Ew]);have G5:=Aq g5;clear g5
  go_enter Tryz.func34,Tryz.ntmps34
  go_wp2_with fail;rw[<-HW.out];go_wp2_with (first|(go_at_call 80;refine(ze3 _ _ _ _).mono ?_;rintro e w' ⟨rfl,rfl⟩)|(go_at_call 85;refine(zgf _ _ _ _).mono ?_;rintro e w' ⟨rfl,rfl⟩)|(go_at_call 81;refine(zav _ _ _ _).mono ?_;rw[G0.out];rintro e w' ⟨rfl,rfl⟩)|(go_at_call 82;refine(zgq _ _ _ _ _ r1 hb1 (by omega)).mono ?_;rw[G1.out];rintro e w' ⟨rfl,rfl⟩)|(go_at_call 83;refine(zht _ _ _ _ _ k5 z5).mono ?_;rw[G3.out];rintro e w2 ⟨rfl,bel2⟩;have s0:w2.cell? ⟨w.heap.size,0,none⟩=some (.int .i64 a0):=(by rw[bel2.cell lx];exact p0);have s1:w2.cell? ⟨w.heap.size,1,none⟩=some (.slice A1 n1 c1):=(by rw[bel2.cell lx];exact p1);have s2:w2.cell? ⟨w.heap.size,2,none⟩=some (.slice A2 n3 c2):=(by rw[bel2.cell lx];exact p2);have s3:w2.cell? ⟨w.heap.size,3,none⟩=some (.slice A3 n3 c3):=(by rw[bel2.cell lx];exact p3);have s4:w2.cell? ⟨w.heap.size,4,none⟩=some (.slice A4 n4 c4):=(by rw[bel2.cell lx];exact p4);have s5:w2.cell? ⟨w.heap.size,5,none⟩=some (.slice A5 n5 c5):=(by rw[bel2.cell lx];exact p5);have hy3:=hx3.later bel2)|(go_at_call 84;refine(zf9 _ _ _ _ _ _ hy3 (by omega) (by omega)).mono ?_;rw[G5.out];rintro e w' ⟨rfl,rfl⟩));go_ret;exact⟨zac (by rw[R.out]),zaa B0 bel2⟩
 have G5:=Aq g5;clear g5
 by_cases g6:¬n4=n5
 ·have R:=Aq (show ok=false by rw[HS.out];simp only[G0.out,G1.out,Dx g2,G3.out,decide_true,G5.out,Dz g6,Ez,Ev,Ew]);have gg:((n4:Int) != (n5:Int))=true:=by simp;omega
  go_enter Tryz.func34,Tryz.ntmps34
  go_wp2_with fail;rw[<-HW.out];go_wp2_with (first|(go_at_call 80;refine(ze3 _ _ _ _).mono ?_;rintro e w' ⟨rfl,rfl⟩)|(go_at_call 85;refine(zgf _ _ _ _).mono ?_;rintro e w' ⟨rfl,rfl⟩)|(go_at_call 81;refine(zav _ _ _ _).mono ?_;rw[G0.out];rintro e w' ⟨rfl,rfl⟩)|(go_at_call 82;refine(zgq _ _ _ _ _ r1 hb1 (by omega)).mono ?_;rw[G1.out];rintro e w' ⟨rfl,rfl⟩)|(go_at_call 83;refine(zht _ _ _ _ _ k5 z5).mono ?_;rw[G3.out];rintro e w2 ⟨rfl,bel2⟩;have s0:w2.cell? ⟨w.heap.size,0,none⟩=some (.int .i64 a0):=(by rw[bel2.cell lx];exact p0);have s1:w2.cell? ⟨w.heap.size,1,none⟩=some (.slice A1 n1 c1):=(by rw[bel2.cell lx];exact p1);have s2:w2.cell? ⟨w.heap.size,2,none⟩=some (.slice A2 n3 c2):=(by rw[bel2.cell lx];exact p2);have s3:w2.cell? ⟨w.heap.size,3,none⟩=some (.slice A3 n3 c3):=(by rw[bel2.cell lx];exact p3);have s4:w2.cell? ⟨w.heap.size,4,none⟩=some (.slice A4 n4 c4):=(by rw[bel2.cell lx];exact p4);have s5:w2.cell? ⟨w.heap.size,5,none⟩=some (.slice A5 n5 c5):=(by rw[bel2.cell lx];exact p5);have hy3:=hx3.later bel2)|(go_at_call 84;refine(zf9 _ _ _ _ _ _ hy3 (by omega) (by omega)).mono ?_;rw[G5.out];rintro e w' ⟨rfl,rfl⟩));go_ret;exact⟨zac (by rw[R.out]),zaa B0 bel2⟩
 replace g6:n4=n5:=Dy.1 g6;subst g6;have HS2:=Aq (show ok=(x2.all (fun t=>za1 t&&zbq t n1)&&x4.all zas)by rw[HS.out];simp only[G0.out,G1.out,Dx g2,G3.out,G5.out,decide_true,Ew,Bool.and_true]);clear HS
 go_enter Tryz.func34,Tryz.ntmps34
 go_wp2_with fail;rw[<-HW.out];go_wp2_with (first|(go_at_call 80;refine(ze3 _ _ _ _).mono ?_;rintro e w' ⟨rfl,rfl⟩)|(go_at_call 85;refine(zgf _ _ _ _).mono ?_;rintro e w' ⟨rfl,rfl⟩)|(go_at_call 81;refine(zav _ _ _ _).mono ?_;rw[G0.out];rintro e w' ⟨rfl,rfl⟩)|(go_at_call 82;refine(zgq _ _ _ _ _ r1 hb1 (by omega)).mono ?_;rw[G1.out];rintro e w' ⟨rfl,rfl⟩)|(go_at_call 83;refine(zht _ _ _ _ _ k5 z5).mono ?_;rw[G3.out];rintro e w2 ⟨rfl,bel2⟩;have s0:w2.cell? ⟨w.heap.size,0,none⟩=some (.int .i64 a0):=(by rw[bel2.cell lx];exact p0);have s1:w2.cell? ⟨w.heap.size,1,none⟩=some (.slice A1 n1 c1):=(by rw[bel2.cell lx];exact p1);have s2:w2.cell? ⟨w.heap.size,2,none⟩=some (.slice A2 n3 c2):=(by rw[bel2.cell lx];exact p2);have s3:w2.cell? ⟨w.heap.size,3,none⟩=some (.slice A3 n3 c3):=(by rw[bel2.cell lx];exact p3);have s4:w2.cell? ⟨w.heap.size,4,none⟩=some (.slice A4 n4 c4):=(by rw[bel2.cell lx];exact p4);have s5:w2.cell? ⟨w.heap.size,5,none⟩=some (.slice A5 n4 c5):=(by rw[bel2.cell lx];exact p5);have hy3:=hx3.later bel2)|(go_at_call 84;refine(zf9 _ _ _ _ _ _ hy3 (by omega) (by omega)).mono ?_;rw[G5.out];rintro e w' ⟨rfl,rfl⟩));have B2:=zaa B0 bel2;have lV:w.heap.size<w2.heap.size:=by have:=bel2.size;omega
 replace r2:=r2.later bel2;replace r4:=r4.later bel2
 go_loopw [60] (fun i wr=>∃k:Nat,i=.int .i64 k/\k<=n3/\Hid (ok=((x2.drop k).all (fun t=>za1 t&&zbq t n1)&&x4.all zas))/\Below w2.heap.size w2 wr) (fun i _=>n3-(intOf i).toNat)
 case atStart=>exact⟨0,rfl,by omega,Aq HS2.out,Aw _ _⟩
 case round=>
  obtain⟨k,rfl,hk,H,Bw⟩:=hrel;have BW:=zaa B2 Bw
  by_cases hlt:k<n3
  ·obtain⟨bt,ot,A7,n7,c7,t,rfl,hbt,Y,e0,hT,hra,h7⟩:=zi4 (r2.below Bw) z2 hlt;have hd:=Aq (M.drop_at Y.out);have hk0:(0:Int)<=(k:Int):=(by omega);have hkn:(k:Int)<(n3:Int):=(by omega);obtain⟨U,hU⟩:∃U,U=wr.alloc (.cells #[.slice A7 n7 c7] 98):=⟨_,rfl⟩;have GU:Below wr.heap.size wr U:=(by rw[hU];exact(Aw _ _).alloc (Aj _) _);have u0:U.cell? ⟨wr.heap.size,0,none⟩=some (.slice A7 n7 c7):=(by rw[hU,cell_of_row _ wr.heap.size 0 _ 98 (0,0) (Df wr _)];rfl);have BU:=zaa Bw GU;have q1:U.cell? ⟨w.heap.size,1,none⟩=some (.slice A1 n1 c1):=(by rw[BU.cell lV];exact s1);have HU:=Aq hU;clear hU;have hry:=(hra.more Bw.size).later GU;have uu0:=Ag u0;have qq1:=Ag q1;have cS:∀d os,Calls Tryz.prog 88 #[.slice A1 n1 c1] (grow (redrawn U d) os) fun e w''=>e=.returned (.int .i64 n1)/\∃p:Regrown,w''=grow (redrawn U p.d) p.os:=fun d os=>Fw (zg6 (zmw _ _ _ _))
   have cT:∀d os,Calls Tryz.prog 86 #[.agg #[.slice A7 n7 c7]] (grow (redrawn U d) os) fun e w''=>e=.returned (.bool (za1 t))/\∃p:Regrown,w''=grow (redrawn U p.d) p.os:=fun d os=>Fw (zqs _ _ _ _ _ (hry.later (Cf U d os)) (by omega))
   have cH:∀d os,Calls Tryz.prog 87 #[.agg #[.slice A7 n7 c7],.int .i64 n1] (grow (redrawn U d) os) fun e w''=>e=.returned (.bool (zbq t n1))/\∃p:Regrown,w''=grow (redrawn U p.d) p.os:=fun d os=>Fw (zr3 _ _ _ _ _ _ (hry.later (Cf U d os)) (by omega))
   clear u0 q1;cases ht:za1 t
   ·have R:=Aq (show ok=false by rw[H.out,hd.out,Dv];simp only[ht,Ez]);rw[ht]at cT;clear ht;go_wp2_with fail;rw[<-HU.out];clear e0
    (refine Ck (by kernel_rfl) (by kernel_rfl) ?_;(repeat (go_big_quiet_step ((first|exact cS _ _|exact cT _ _|exact cH _ _))));refine Cv ?_;intro _ hw';obtain⟨⟨dq,osq⟩,hw''⟩:=hw';subst hw'')
    go_wp2;go_ret;exact⟨zac (by rw[R.out]),zaa BW (zaa GU (Cf U dq osq))⟩
   rw[ht]at cT;cases hh:zbq t n1
   ·have R:=Aq (show ok=false by rw[H.out,hd.out,Dv];simp only[ht,hh,Ez,Ev]);rw[hh]at cH;clear ht hh;go_wp2_with fail;rw[<-HU.out];clear e0
    (refine Ck (by kernel_rfl) (by kernel_rfl) ?_;(repeat (go_big_quiet_step ((first|exact cS _ _|exact cT _ _|exact cH _ _))));refine Cv ?_;intro _ hw';obtain⟨⟨dq,osq⟩,hw''⟩:=hw';subst hw'')
    go_wp2;go_ret;exact⟨zac (by rw[R.out]),zaa BW (zaa GU (Cf U dq osq))⟩
   have R:=Aq (show ok=((x2.drop (k+1)).all (fun t=>za1 t&&zbq t n1)&&x4.all zas)by rw[H.out,hd.out,Dv];simp only[ht,hh,Ew]);rw[hh]at cH;clear ht hh;go_wp2_with fail;rw[<-HU.out];clear e0
   (refine Ck (by kernel_rfl) (by kernel_rfl) ?_;(repeat (go_big_quiet_step ((first|exact cS _ _|exact cT _ _|exact cH _ _))));refine Cv ?_;intro _ hw';obtain⟨⟨dq,osq⟩,hw''⟩:=hw';subst hw'')
   go_wp2;go_roundw
   case rel=>exact⟨k+1,by go_num,by omega,R,zaa Bw (zaa GU (Cf U dq osq))⟩
   case measure=>simp[intOf];omega
  have HS4:=Aq (show ok=x4.all zas by rw[H.out,Ej (by rw[L2.out];omega)];rfl);have q4:wr.cell? ⟨w.heap.size,4,none⟩=some (.slice A4 n4 c4):=by rw[Bw.cell lV];exact s4
  go_wp2_with fail;clear H hk hlt;obtain⟨wo,rfl⟩:∃wo:Yw,wo=wr:=⟨_,rfl⟩
  go_loopw [79] (fun i wr=>∃k:Nat,i=.int .i64 k/\k<=n4/\Hid (ok=(x4.drop k).all zas)/\Below w2.heap.size w2 wr) (fun i _=>n4-(intOf i).toNat)
  case atStart=>exact⟨0,rfl,by omega,Aq HS4.out,Bw⟩
  case round=>
   obtain⟨k,rfl,hk,H,Bw2⟩:=hrel;have BW:=zaa B2 Bw2
   by_cases hlt2:k<n4
   ·obtain⟨bp,op,b0,B1,m1,d1,B2,m2,d2,B3,m3,d3,y1,y2,y3,rfl,hbp,Y,e0,e1,e2,e3,t1,t2,t3,hz⟩:=zi5 (r4.below Bw2) z4 hlt2;have hd:=Aq (M.drop_at Y.out);obtain⟨U,hU⟩:∃U,U=wr.alloc (.cells #[.int .i64 b0,.slice B1 m1 d1,.slice B2 m2 d2,.slice B3 m3 d3] 67):=⟨_,rfl⟩;have GU:Below wr.heap.size wr U:=(by rw[hU];exact(Aw _ _).alloc (Aj _) _);have HU:=Aq hU;clear hU;have s1:=tSS.later (tSS.more Bw2.size t1) GU;have s2:=tNS.later (tNS.more Bw2.size t2) GU;have s3:=tS.later (tS.more Bw2.size t3) GU;have hk0:(0:Int)<=(k:Int):=(by omega);have hkn:(k:Int)<(n4:Int):=(by omega);cases he:zas (b0,y1,y2,y3)
    ·have R:=Aq (show ok=false by rw[H.out,hd.out,Dv,he];rfl);have HE:=Aq he;clear he;go_wp2_with fail;rw[<-HU.out];refine(znb _ _ _ _ _ _ _ _ _ _ _ _ _ U s1 s2 s3 hz).mono ?_;rw[HE.out];rintro e w5 ⟨rfl,bel5⟩;go_wp2;go_ret;exact⟨zac (by rw[R.out]),zaa BW (zaa GU bel5)⟩
    have R:=Aq (show ok=(x4.drop (k+1)).all zas by rw[H.out,hd.out,Dv,he];rfl);have HE:=Aq he;clear he;go_wp2_with fail;rw[<-HU.out];refine(znb _ _ _ _ _ _ _ _ _ _ _ _ _ U s1 s2 s3 hz).mono ?_;rw[HE.out];rintro e w5 ⟨rfl,bel5⟩;go_wp2;go_roundw
    case rel=>exact⟨k+1,by go_num,by omega,R,zaa Bw2 (zaa GU bel5)⟩
    case measure=>simp[intOf];omega
   have R:=Aq (show ok=true by rw[H.out,Ej (by rw[L4.out];omega)];rfl);go_wp2;go_ret;exact⟨zac (by rw[R.out]),BW⟩
set_option synthInstance.maxSize 2000
set_option synthInstance.maxHeartbeats 400000
instance decTracks:DecidableEq (List (List zap)):=inferInstance
instance decPatch:DecidableEq zae:=inferInstance
instance decPatches:DecidableEq (List zae):=inferInstance
instance decStrips:DecidableEq (List zag):=inferInstance
instance decSess5:DecidableEq (List zae×List zag):=inferInstance
instance decSess4:DecidableEq (List Int×List zae×List zag):=inferInstance
instance decSess3:DecidableEq (List (List zap)×List Int×List zae×List zag):=inferInstance
instance decSess:DecidableEq Sess:=inferInstance
theorem zxs(a0 b0:Int)(A1:Yo)(n1 c1:Nat)(B1:Yo)(m1 d1:Nat)(A2:Yo)(n2 c2:Nat)(B2:Yo)(m2 d2:Nat)(A3:Yo)(n3 c3:Nat)(B3:Yo)(m3 d3:Nat)(A4:Yo)(n4 c4:Nat)(B4:Yo)(m4 d4:Nat)(A5:Yo)(n5 c5:Nat)(B5:Yo)(m5 d5:Nat)(x1 y1:List (List Int))(x2 y2:List (List zap))(x3 y3:List Int)(x4 y4:List zae)(x5 y5:List zag)(w:Yw)(h1:tSS.R w w.heap.size [.slice A1 n1 c1] x1)(k1:tSS.R w w.heap.size [.slice B1 m1 d1] y1)(h2:tTS.R w w.heap.size [.slice A2 n2 c2] x2)(k2:tTS.R w w.heap.size [.slice B2 m2 d2] y2)(h3:tS.R w w.heap.size [.slice A3 n3 c3] x3)(k3:tS.R w w.heap.size [.slice B3 m3 d3] y3)(h4:tPS.R w w.heap.size [.slice A4 n4 c4] x4)(k4:tPS.R w w.heap.size [.slice B4 m4 d4] y4)(h5:tM.R w w.heap.size [.slice A5 n5 c5] x5)(k5:tM.R w w.heap.size [.slice B5 m5 d5] y5)(hn:hZ.sz ((a0,x1,x2,x3,x4,x5):Sess)<=100000000)(hn2:hZ.sz ((b0,y1,y2,y3,y4,y5):Sess)<=100000000):
 Calls Tryz.prog 18 #[.agg #[.int .i64 a0,.slice A1 n1 c1,.slice A2 n2 c2,.slice A3 n3 c3,.slice A4 n4 c4,.slice A5 n5 c5],.agg #[.int .i64 b0,.slice B1 m1 d1,.slice B2 m2 d2,.slice B3 m3 d3,.slice B4 m4 d4,.slice B5 m5 d5]] w fun e w'=>e=.returned (.bool (decide (((a0,x1,x2,x3,x4,x5):Sess)=(b0,y1,y2,y3,y4,y5))))/\Below w.heap.size w w':=by
 obtain⟨W,hW⟩:∃W,W=(w.alloc (.cells #[.int .i64 a0,.slice A1 n1 c1,.slice A2 n2 c2,.slice A3 n3 c3,.slice A4 n4 c4,.slice A5 n5 c5] 38)).alloc (.cells #[.int .i64 b0,.slice B1 m1 d1,.slice B2 m2 d2,.slice B3 m3 d3,.slice B4 m4 d4,.slice B5 m5 d5] 38):=⟨_,rfl⟩;have B0:Below w.heap.size w W:=by rw[hW];exact((Aw _ _).alloc (Aj _) _).alloc (by simp) _
 have p0:W.cell? ⟨w.heap.size,0,none⟩=some (.int .i64 a0):=by rw[hW];simp[go_sem]
 have q0:W.cell? ⟨w.heap.size+1,0,none⟩=some (.int .i64 b0):=by rw[hW];simp[go_sem]
 have p1:W.cell? ⟨w.heap.size,1,none⟩=some (.slice A1 n1 c1):=by rw[hW];simp[go_sem]
 have q1:W.cell? ⟨w.heap.size+1,1,none⟩=some (.slice B1 m1 d1):=by rw[hW];simp[go_sem]
 have p2:W.cell? ⟨w.heap.size,2,none⟩=some (.slice A2 n2 c2):=by rw[hW];simp[go_sem]
 have q2:W.cell? ⟨w.heap.size+1,2,none⟩=some (.slice B2 m2 d2):=by rw[hW];simp[go_sem]
 have p3:W.cell? ⟨w.heap.size,3,none⟩=some (.slice A3 n3 c3):=by rw[hW];simp[go_sem]
 have q3:W.cell? ⟨w.heap.size+1,3,none⟩=some (.slice B3 m3 d3):=by rw[hW];simp[go_sem]
 have p4:W.cell? ⟨w.heap.size,4,none⟩=some (.slice A4 n4 c4):=by rw[hW];simp[go_sem]
 have q4:W.cell? ⟨w.heap.size+1,4,none⟩=some (.slice B4 m4 d4):=by rw[hW];simp[go_sem]
 have p5:W.cell? ⟨w.heap.size,5,none⟩=some (.slice A5 n5 c5):=by rw[hW];simp[go_sem]
 have q5:W.cell? ⟨w.heap.size+1,5,none⟩=some (.slice B5 m5 d5):=by rw[hW];simp[go_sem]
 have lx:w.heap.size+1<W.heap.size:=by rw[hW];simp
 have HW:=Aq hW;have r1:=tSS.later h1 B0;have s1:=tSS.later k1 B0;have X1:=Aq (sl_R.1 h1).cap.1;have Y1:=Aq (sl_R.1 k1).cap.1;have r2:=tTS.later h2 B0;have s2:=tTS.later k2 B0;have X2:=Aq (sl_R.1 h2).cap.1;have Y2:=Aq (sl_R.1 k2).cap.1;have r3:=tS.later h3 B0;have s3:=tS.later k3 B0;have X3:=Aq (sl_R.1 h3).cap.1;have Y3:=Aq (sl_R.1 k3).cap.1;have r4:=tPS.later h4 B0;have s4:=tPS.later k4 B0;have X4:=Aq (sl_R.1 h4).cap.1;have Y4:=Aq (sl_R.1 k4).cap.1;have r5:=tM.later h5 B0;have s5:=tM.later k5 B0;have X5:=Aq (sl_R.1 h5).cap.1;have Y5:=Aq (sl_R.1 k5).cap.1;rw[zeb]at hn hn2;have z1:hSS.sz x1<=100000000:=by omega
 have v1:hSS.sz y1<=100000000:=by omega
 have bn1:n1<=100000000:=by have e:x1.length+hS.szL x1=hSS.sz x1:=rfl;have:=X1.out;omega
 have z2:hTS.sz x2<=100000000:=by omega
 have v2:hTS.sz y2<=100000000:=by omega
 have bn2:n2<=100000000:=by have e:x2.length+hT.szL x2=hTS.sz x2:=rfl;have:=X2.out;omega
 have z3:hS.sz x3<=100000000:=by omega
 have v3:hS.sz y3<=100000000:=by omega
 have bn3:n3<=100000000:=by have e:x3.length+hI.szL x3=hS.sz x3:=rfl;have:=X3.out;omega
 have z4:hPS.sz x4<=100000000:=by omega
 have v4:hPS.sz y4<=100000000:=by omega
 have bn4:n4<=100000000:=by have e:x4.length+hP.szL x4=hPS.sz x4:=rfl;have:=X4.out;omega
 have z5:hM.sz x5<=100000000:=by omega
 have v5:hM.sz y5<=100000000:=by omega
 have bn5:n5<=100000000:=by have e:x5.length+hSt.szL x5=hM.sz x5:=rfl;have:=X5.out;omega
 clear hW hn hn2 h1 k1 h2 k2 h3 k3 h4 k4 h5 k5
 by_cases e0:¬a0=b0
 ·have g0:(a0 != b0)=true:=by simpa using e0
  have R:=Aq (show decide (((a0,x1,x2,x3,x4,x5):Sess)=(b0,y1,y2,y3,y4,y5))=false by rw[Fy];intro e;simp only[Prod.mk.injEq]at e;exact e0 e.1)
  go_enter Tryz.func18,Tryz.ntmps18
  go_wp2_with fail
  try rw[<-HW.out]
  go_ret;exact⟨zac (by rw[R.out]),B0⟩
 replace e0:a0=b0:=Dy.1 e0;subst e0
 by_cases e1:¬n1=m1
 ·have g1:((n1:Int) != (m1:Int))=true:=by simp;omega
  have R:=Aq (show decide (((a0,x1,x2,x3,x4,x5):Sess)=(a0,y1,y2,y3,y4,y5))=false by rw[Fy];intro e;simp only[Prod.mk.injEq]at e;exact e1 (by rw[<-X1.out,<-Y1.out,e.2.1]))
  go_enter Tryz.func18,Tryz.ntmps18
  go_wp2_with fail
  try rw[<-HW.out]
  go_ret;exact⟨zac (by rw[R.out]),B0⟩
 replace e1:n1=m1:=Dy.1 e1;subst e1
 by_cases e2:¬n2=m2
 ·have g2:((n2:Int) != (m2:Int))=true:=by simp;omega
  have R:=Aq (show decide (((a0,x1,x2,x3,x4,x5):Sess)=(a0,y1,y2,y3,y4,y5))=false by rw[Fy];intro e;simp only[Prod.mk.injEq]at e;exact e2 (by rw[<-X2.out,<-Y2.out,e.2.2.1]))
  go_enter Tryz.func18,Tryz.ntmps18
  go_wp2_with fail
  try rw[<-HW.out]
  go_ret;exact⟨zac (by rw[R.out]),B0⟩
 replace e2:n2=m2:=Dy.1 e2;subst e2
 go_enter Tryz.func18,Tryz.ntmps18
 go_wp2_with fail;rw[<-HW.out]
 by_cases e3:¬x3=y3
 ·have HD:=Aq (Dz e3);have R:=Aq (show decide (((a0,x1,x2,x3,x4,x5):Sess)=(a0,y1,y2,y3,y4,y5))=false by rw[Fy];intro e;simp only[Prod.mk.injEq]at e;exact e3 e.2.2.2.1);refine(zgr _ _ _ _ _ _ _ _ _ (tS_R.1 r3).ri (tS_R.1 s3).ri (by omega)).mono ?_;rw[HD.out];rintro e u1 ⟨rfl,bel1⟩;go_wp2;go_ret;exact⟨zac (by rw[R.out]),zaa B0 bel1⟩
 replace e3:x3=y3:=Dy.1 e3;have E3:=Aq e3;have HD1:=Aq (Dx e3);clear e3;refine(zgr _ _ _ _ _ _ _ _ _ (tS_R.1 r3).ri (tS_R.1 s3).ri (by omega)).mono ?_;rw[HD1.out];rintro e w1 ⟨rfl,bel1⟩;have lx_w1:=Cq lx bel1.size;have B_w1:=zaa B0 bel1;have p0_w1:w1.cell? ⟨w.heap.size,0,none⟩=some (.int .i64 a0):=by rw[bel1.cell (by show w.heap.size<_;have:=lx;omega)];exact p0
 have q0_w1:w1.cell? ⟨w.heap.size+1,0,none⟩=some (.int .i64 a0):=by rw[bel1.cell (by show w.heap.size+1<_;have:=lx;omega)];exact q0
 have p1_w1:w1.cell? ⟨w.heap.size,1,none⟩=some (.slice A1 n1 c1):=by rw[bel1.cell (by show w.heap.size<_;have:=lx;omega)];exact p1
 have q1_w1:w1.cell? ⟨w.heap.size+1,1,none⟩=some (.slice B1 n1 d1):=by rw[bel1.cell (by show w.heap.size+1<_;have:=lx;omega)];exact q1
 have p2_w1:w1.cell? ⟨w.heap.size,2,none⟩=some (.slice A2 n2 c2):=by rw[bel1.cell (by show w.heap.size<_;have:=lx;omega)];exact p2
 have q2_w1:w1.cell? ⟨w.heap.size+1,2,none⟩=some (.slice B2 n2 d2):=by rw[bel1.cell (by show w.heap.size+1<_;have:=lx;omega)];exact q2
 have p3_w1:w1.cell? ⟨w.heap.size,3,none⟩=some (.slice A3 n3 c3):=by rw[bel1.cell (by show w.heap.size<_;have:=lx;omega)];exact p3
 have q3_w1:w1.cell? ⟨w.heap.size+1,3,none⟩=some (.slice B3 m3 d3):=by rw[bel1.cell (by show w.heap.size+1<_;have:=lx;omega)];exact q3
 have p4_w1:w1.cell? ⟨w.heap.size,4,none⟩=some (.slice A4 n4 c4):=by rw[bel1.cell (by show w.heap.size<_;have:=lx;omega)];exact p4
 have q4_w1:w1.cell? ⟨w.heap.size+1,4,none⟩=some (.slice B4 m4 d4):=by rw[bel1.cell (by show w.heap.size+1<_;have:=lx;omega)];exact q4
 have p5_w1:w1.cell? ⟨w.heap.size,5,none⟩=some (.slice A5 n5 c5):=by rw[bel1.cell (by show w.heap.size<_;have:=lx;omega)];exact p5
 have q5_w1:w1.cell? ⟨w.heap.size+1,5,none⟩=some (.slice B5 m5 d5):=by rw[bel1.cell (by show w.heap.size+1<_;have:=lx;omega)];exact q5
 have r1_w1:=tSS.later r1 bel1;have s1_w1:=tSS.later s1 bel1;have r2_w1:=tTS.later r2 bel1;have s2_w1:=tTS.later s2 bel1;have r3_w1:=tS.later r3 bel1;have s3_w1:=tS.later s3 bel1;have r4_w1:=tPS.later r4 bel1;have s4_w1:=tPS.later s4 bel1;have r5_w1:=tM.later r5 bel1;have s5_w1:=tM.later s5 bel1;clear p0 q0 p1 q1 p2 q2 p3 q3 p4 q4 p5 q5 r1 s1 r2 s2 r3 s3 r4 s4 r5 s5
 by_cases e4:¬n4=m4
 ·have g4:((n4:Int) != (m4:Int))=true:=by simp;omega
  have R:=Aq (show decide (((a0,x1,x2,x3,x4,x5):Sess)=(a0,y1,y2,y3,y4,y5))=false by rw[Fy];intro e;simp only[Prod.mk.injEq]at e;exact e4 (by rw[<-X4.out,<-Y4.out,e.2.2.2.2.1]));go_wp2_with fail;go_ret;exact⟨zac (by rw[R.out]),B_w1⟩
 replace e4:n4=m4:=Dy.1 e4;subst e4;go_wp2_with fail
 by_cases e5:¬x5=y5
 ·have HD:=Aq (Dz e5);have R:=Aq (show decide (((a0,x1,x2,x3,x4,x5):Sess)=(a0,y1,y2,y3,y4,y5))=false by rw[Fy];intro e;simp only[Prod.mk.injEq]at e;exact e5 e.2.2.2.2.2);refine(zl5 _ _ _ _ _ _ _ _ _ r5_w1 s5_w1 z5 v5).mono ?_;rw[HD.out];rintro e u1 ⟨rfl,bel1⟩;go_wp2;go_ret;exact⟨zac (by rw[R.out]),zaa B_w1 bel1⟩
 replace e5:x5=y5:=Dy.1 e5;have E5:=Aq e5;have HD2:=Aq (Dx e5);clear e5;refine(zl5 _ _ _ _ _ _ _ _ _ r5_w1 s5_w1 z5 v5).mono ?_;rw[HD2.out];rintro e w2 ⟨rfl,bel2⟩;have lx_w2:=Cq lx_w1 bel2.size;have B_w2:=zaa B_w1 bel2;have p0_w2:w2.cell? ⟨w.heap.size,0,none⟩=some (.int .i64 a0):=by rw[bel2.cell (by show w.heap.size<_;have:=lx_w1;omega)];exact p0_w1
 have q0_w2:w2.cell? ⟨w.heap.size+1,0,none⟩=some (.int .i64 a0):=by rw[bel2.cell (by show w.heap.size+1<_;have:=lx_w1;omega)];exact q0_w1
 have p1_w2:w2.cell? ⟨w.heap.size,1,none⟩=some (.slice A1 n1 c1):=by rw[bel2.cell (by show w.heap.size<_;have:=lx_w1;omega)];exact p1_w1
 have q1_w2:w2.cell? ⟨w.heap.size+1,1,none⟩=some (.slice B1 n1 d1):=by rw[bel2.cell (by show w.heap.size+1<_;have:=lx_w1;omega)];exact q1_w1
 have p2_w2:w2.cell? ⟨w.heap.size,2,none⟩=some (.slice A2 n2 c2):=by rw[bel2.cell (by show w.heap.size<_;have:=lx_w1;omega)];exact p2_w1
 have q2_w2:w2.cell? ⟨w.heap.size+1,2,none⟩=some (.slice B2 n2 d2):=by rw[bel2.cell (by show w.heap.size+1<_;have:=lx_w1;omega)];exact q2_w1
 have p3_w2:w2.cell? ⟨w.heap.size,3,none⟩=some (.slice A3 n3 c3):=by rw[bel2.cell (by show w.heap.size<_;have:=lx_w1;omega)];exact p3_w1
 have q3_w2:w2.cell? ⟨w.heap.size+1,3,none⟩=some (.slice B3 m3 d3):=by rw[bel2.cell (by show w.heap.size+1<_;have:=lx_w1;omega)];exact q3_w1
 have p4_w2:w2.cell? ⟨w.heap.size,4,none⟩=some (.slice A4 n4 c4):=by rw[bel2.cell (by show w.heap.size<_;have:=lx_w1;omega)];exact p4_w1
 have q4_w2:w2.cell? ⟨w.heap.size+1,4,none⟩=some (.slice B4 n4 d4):=by rw[bel2.cell (by show w.heap.size+1<_;have:=lx_w1;omega)];exact q4_w1
 have p5_w2:w2.cell? ⟨w.heap.size,5,none⟩=some (.slice A5 n5 c5):=by rw[bel2.cell (by show w.heap.size<_;have:=lx_w1;omega)];exact p5_w1
 have q5_w2:w2.cell? ⟨w.heap.size+1,5,none⟩=some (.slice B5 m5 d5):=by rw[bel2.cell (by show w.heap.size+1<_;have:=lx_w1;omega)];exact q5_w1
 have r1_w2:=tSS.later r1_w1 bel2;have s1_w2:=tSS.later s1_w1 bel2;have r2_w2:=tTS.later r2_w1 bel2;have s2_w2:=tTS.later s2_w1 bel2;have r3_w2:=tS.later r3_w1 bel2;have s3_w2:=tS.later s3_w1 bel2;have r4_w2:=tPS.later r4_w1 bel2;have s4_w2:=tPS.later s4_w1 bel2;have r5_w2:=tM.later r5_w1 bel2;have s5_w2:=tM.later s5_w1 bel2;clear p0_w1 q0_w1 p1_w1 q1_w1 p2_w1 q2_w1 p3_w1 q3_w1 p4_w1 q4_w1 p5_w1 q5_w1 r1_w1 s1_w1 r2_w1 s2_w1 r3_w1 s3_w1 r4_w1 s4_w1 r5_w1 s5_w1;go_wp2
 go_loopw [5] (fun i wr=>∃k:Nat,i=.int .i64 k/\k<=n1/\Hid (x1.take k=y1.take k)/\Below w2.heap.size w2 wr) (fun i _=>n1-(intOf i).toNat)
 case atStart=>exact⟨0,rfl,by omega,Aq (by simp),Aw _ _⟩
 case round=>
  obtain⟨k,rfl,hk,H,hb0⟩:=hrel;obtain⟨wo0,rfl⟩:∃wo:Yw,wo=wr:=⟨_,rfl⟩;have lx_wo0:=Cq lx_w2 hb0.size;have B_wo0:=zaa B_w2 hb0;have p0_wo0:wo0.cell? ⟨w.heap.size,0,none⟩=some (.int .i64 a0):=by rw[hb0.cell (by show w.heap.size<_;have:=lx_w2;omega)];exact p0_w2
  have q0_wo0:wo0.cell? ⟨w.heap.size+1,0,none⟩=some (.int .i64 a0):=by rw[hb0.cell (by show w.heap.size+1<_;have:=lx_w2;omega)];exact q0_w2
  have p1_wo0:wo0.cell? ⟨w.heap.size,1,none⟩=some (.slice A1 n1 c1):=by rw[hb0.cell (by show w.heap.size<_;have:=lx_w2;omega)];exact p1_w2
  have q1_wo0:wo0.cell? ⟨w.heap.size+1,1,none⟩=some (.slice B1 n1 d1):=by rw[hb0.cell (by show w.heap.size+1<_;have:=lx_w2;omega)];exact q1_w2
  have p2_wo0:wo0.cell? ⟨w.heap.size,2,none⟩=some (.slice A2 n2 c2):=by rw[hb0.cell (by show w.heap.size<_;have:=lx_w2;omega)];exact p2_w2
  have q2_wo0:wo0.cell? ⟨w.heap.size+1,2,none⟩=some (.slice B2 n2 d2):=by rw[hb0.cell (by show w.heap.size+1<_;have:=lx_w2;omega)];exact q2_w2
  have p3_wo0:wo0.cell? ⟨w.heap.size,3,none⟩=some (.slice A3 n3 c3):=by rw[hb0.cell (by show w.heap.size<_;have:=lx_w2;omega)];exact p3_w2
  have q3_wo0:wo0.cell? ⟨w.heap.size+1,3,none⟩=some (.slice B3 m3 d3):=by rw[hb0.cell (by show w.heap.size+1<_;have:=lx_w2;omega)];exact q3_w2
  have p4_wo0:wo0.cell? ⟨w.heap.size,4,none⟩=some (.slice A4 n4 c4):=by rw[hb0.cell (by show w.heap.size<_;have:=lx_w2;omega)];exact p4_w2
  have q4_wo0:wo0.cell? ⟨w.heap.size+1,4,none⟩=some (.slice B4 n4 d4):=by rw[hb0.cell (by show w.heap.size+1<_;have:=lx_w2;omega)];exact q4_w2
  have p5_wo0:wo0.cell? ⟨w.heap.size,5,none⟩=some (.slice A5 n5 c5):=by rw[hb0.cell (by show w.heap.size<_;have:=lx_w2;omega)];exact p5_w2
  have q5_wo0:wo0.cell? ⟨w.heap.size+1,5,none⟩=some (.slice B5 m5 d5):=by rw[hb0.cell (by show w.heap.size+1<_;have:=lx_w2;omega)];exact q5_w2
  have r1_wo0:=tSS.later r1_w2 hb0;have s1_wo0:=tSS.later s1_w2 hb0;have r2_wo0:=tTS.later r2_w2 hb0;have s2_wo0:=tTS.later s2_w2 hb0;have r3_wo0:=tS.later r3_w2 hb0;have s3_wo0:=tS.later s3_w2 hb0;have r4_wo0:=tPS.later r4_w2 hb0;have s4_wo0:=tPS.later s4_w2 hb0;have r5_wo0:=tM.later r5_w2 hb0;have s5_wo0:=tM.later s5_w2 hb0;clear p0_w2 q0_w2 p1_w2 q1_w2 p2_w2 q2_w2 p3_w2 q3_w2 p4_w2 q4_w2 p5_w2 q5_w2 r1_w2 s1_w2 r2_w2 s2_w2 r3_w2 s3_w2 r4_w2 s4_w2 r5_w2 s5_w2
  by_cases hlt:k<n1
  ·have hX:=Aq (Ak (l:=x1) (i:=k) (by rw[X1.out];exact hlt));have hY:=Aq (Ak (l:=y1) (i:=k) (by rw[Y1.out];exact hlt));obtain⟨b,o1,cc,cs,hv,hab,-,hE,hcc⟩:=(sl_R.1 r1_wo0).atX hX.out;obtain⟨b',o2,cc',cs',hv',hab',-,hE',hdd⟩:=(sl_R.1 s1_wo0).atX hY.out;simp only[Cz]at hv hv';obtain⟨rfl,-,rfl⟩:=hv;obtain⟨rfl,-,rfl⟩:=hv';have hU:=hS.szL_at hX.out;have hV:=hS.szL_at hY.out;generalize x1[k]'(by rw[X1.out];exact hlt)=x at hX hE hU;generalize y1[k]'(by rw[Y1.out];exact hlt)=y at hY hE' hV;have zz:x1.length+hS.szL x1=hSS.sz x1:=rfl;have zv:y1.length+hS.szL y1=hSS.sz y1:=rfl;have zx:hS.sz x<=100000000:=(by omega);have zy:hS.sz y<=100000000:=(by omega);clear zz zv hU hV;obtain⟨Ae,ne,ce,rfl⟩:=zbv hE;obtain⟨Be,me,de,rfl⟩:=zbv hE';have hl1:=(sl_R.1 hE).cap.1;have hl2:=(sl_R.1 hE').cap.1;have e0:wo0.cell? ⟨b,o1+k*1,none⟩=some (.slice Ae ne ce):=hcc 0 _ rfl;have f0:wo0.cell? ⟨b',o2+k*1,none⟩=some (.slice Be me de):=hdd 0 _ rfl;rw[Nat.mul_one]at e0 f0;clear hcc hdd;have pp:=p1_wo0;have qq:=q1_wo0;have nb:ne<=1000000000:=(by have:=zcu hE;rw[zb3]at zx;omega);have re0:=Ag e0;have rf0:=Ag f0;have rpp:=Ag pp;have rqq:=Ag qq;have cP:∀d os,Calls Tryz.prog 60 #[.slice Ae ne ce,.slice Be me de] (grow (redrawn wo0 d) os) fun e w''=>e=.returned (.bool (decide (x=y)))/\∃p:Regrown,w''=grow (redrawn wo0 p.d) p.os:=fun d os=>Fw (zgr _ _ _ _ _ _ _ _ _ (tS_R.1 (tS.later hE (Cf wo0 d os))).ri (tS_R.1 (tS.later hE' (Cf wo0 d os))).ri nb)
   clear e0 f0 pp qq
   by_cases hp:x=y
   ·rw[Dx hp]at cP;have HP:=Aq hp;clear hp;go_wp2
    (refine Ck (by kernel_rfl) (by kernel_rfl) ?_;(repeat (go_big_quiet_step (exact cP _ _)));refine Cv ?_;intro _ hw';obtain⟨⟨dq,osq⟩,hw''⟩:=hw';subst hw'')
    go_wp2;go_roundw
    case rel=>exact⟨k+1,by go_num,by omega,Aq (by rw[M.take_at hX.out,M.take_at hY.out,H.out,HP.out]),zaa hb0 (Cf wo0 dq osq)⟩
    case measure=>simp[intOf];omega
   rw[Dz hp]at cP;have hxy:¬x1=y1:=fun e=>by have h1:=hX.out;rw[e,hY.out]at h1;injection h1 with h1;exact hp h1.symm
   have R:=Aq (show decide (((a0,x1,x2,x3,x4,x5):Sess)=(a0,y1,y2,y3,y4,y5))=false by rw[Fy];intro e;simp only[Prod.mk.injEq]at e;exact hxy e.2.1);clear hp hxy;go_wp2
   (refine Ck (by kernel_rfl) (by kernel_rfl) ?_;(repeat (go_big_quiet_step (exact cP _ _)));refine Cv ?_;intro _ hw';obtain⟨⟨dq,osq⟩,hw''⟩:=hw';subst hw'')
   go_wp2;go_ret;exact⟨zac (by rw[R.out]),zaa B_wo0 (Cf wo0 dq osq)⟩
  have E1:=Aq (show x1=y1 by have:=H.out;rwa [Cg (by rw[X1.out];omega),Cg (by rw[Y1.out];omega)]at this);clear H;go_wp2;clear hlt hk
  go_loopw [6] (fun i wr=>∃k:Nat,i=.int .i64 k/\k<=n2/\Hid (x2.take k=y2.take k)/\Below wo0.heap.size wo0 wr) (fun i _=>n2-(intOf i).toNat)
  case atStart=>exact⟨0,rfl,by omega,Aq (by simp),Aw _ _⟩
  case round=>
   obtain⟨k,rfl,hk,H,hb1⟩:=hrel;obtain⟨wo1,rfl⟩:∃wo:Yw,wo=wr:=⟨_,rfl⟩;have lx_wo1:=Cq lx_wo0 hb1.size;have B_wo1:=zaa B_wo0 hb1;have p0_wo1:wo1.cell? ⟨w.heap.size,0,none⟩=some (.int .i64 a0):=(by rw[hb1.cell (by show w.heap.size<_;have:=lx_wo0;omega)];exact p0_wo0);have q0_wo1:wo1.cell? ⟨w.heap.size+1,0,none⟩=some (.int .i64 a0):=(by rw[hb1.cell (by show w.heap.size+1<_;have:=lx_wo0;omega)];exact q0_wo0);have p1_wo1:wo1.cell? ⟨w.heap.size,1,none⟩=some (.slice A1 n1 c1):=(by rw[hb1.cell (by show w.heap.size<_;have:=lx_wo0;omega)];exact p1_wo0);have q1_wo1:wo1.cell? ⟨w.heap.size+1,1,none⟩=some (.slice B1 n1 d1):=(by rw[hb1.cell (by show w.heap.size+1<_;have:=lx_wo0;omega)];exact q1_wo0);have p2_wo1:wo1.cell? ⟨w.heap.size,2,none⟩=some (.slice A2 n2 c2):=(by rw[hb1.cell (by show w.heap.size<_;have:=lx_wo0;omega)];exact p2_wo0);have q2_wo1:wo1.cell? ⟨w.heap.size+1,2,none⟩=some (.slice B2 n2 d2):=(by rw[hb1.cell (by show w.heap.size+1<_;have:=lx_wo0;omega)];exact q2_wo0);have p3_wo1:wo1.cell? ⟨w.heap.size,3,none⟩=some (.slice A3 n3 c3):=(by rw[hb1.cell (by show w.heap.size<_;have:=lx_wo0;omega)];exact p3_wo0);have q3_wo1:wo1.cell? ⟨w.heap.size+1,3,none⟩=some (.slice B3 m3 d3):=(by rw[hb1.cell (by show w.heap.size+1<_;have:=lx_wo0;omega)];exact q3_wo0);have p4_wo1:wo1.cell? ⟨w.heap.size,4,none⟩=some (.slice A4 n4 c4):=(by rw[hb1.cell (by show w.heap.size<_;have:=lx_wo0;omega)];exact p4_wo0);have q4_wo1:wo1.cell? ⟨w.heap.size+1,4,none⟩=some (.slice B4 n4 d4):=(by rw[hb1.cell (by show w.heap.size+1<_;have:=lx_wo0;omega)];exact q4_wo0);have p5_wo1:wo1.cell? ⟨w.heap.size,5,none⟩=some (.slice A5 n5 c5):=(by rw[hb1.cell (by show w.heap.size<_;have:=lx_wo0;omega)];exact p5_wo0);have q5_wo1:wo1.cell? ⟨w.heap.size+1,5,none⟩=some (.slice B5 m5 d5):=(by rw[hb1.cell (by show w.heap.size+1<_;have:=lx_wo0;omega)];exact q5_wo0);have r1_wo1:=tSS.later r1_wo0 hb1;have s1_wo1:=tSS.later s1_wo0 hb1;have r2_wo1:=tTS.later r2_wo0 hb1;have s2_wo1:=tTS.later s2_wo0 hb1;have r3_wo1:=tS.later r3_wo0 hb1;have s3_wo1:=tS.later s3_wo0 hb1;have r4_wo1:=tPS.later r4_wo0 hb1;have s4_wo1:=tPS.later s4_wo0 hb1;have r5_wo1:=tM.later r5_wo0 hb1;have s5_wo1:=tM.later s5_wo0 hb1;clear p0_wo0 q0_wo0 p1_wo0 q1_wo0 p2_wo0 q2_wo0 p3_wo0 q3_wo0 p4_wo0 q4_wo0 p5_wo0 q5_wo0 r1_wo0 s1_wo0 r2_wo0 s2_wo0 r3_wo0 s3_wo0 r4_wo0 s4_wo0 r5_wo0 s5_wo0
   by_cases hlt:k<n2
   ·have hX:=Aq (Ak (l:=x2) (i:=k) (by rw[X2.out];exact hlt));have hY:=Aq (Ak (l:=y2) (i:=k) (by rw[Y2.out];exact hlt));obtain⟨b,o1,cc,cs,hv,hab,-,hE,hcc⟩:=(sl_R.1 r2_wo1).atX hX.out;obtain⟨b',o2,cc',cs',hv',hab',-,hE',hdd⟩:=(sl_R.1 s2_wo1).atX hY.out;simp only[Cz]at hv hv';obtain⟨rfl,-,rfl⟩:=hv;obtain⟨rfl,-,rfl⟩:=hv';have hU:=hT.szL_at hX.out;have hV:=hT.szL_at hY.out;generalize x2[k]'(by rw[X2.out];exact hlt)=x at hX hE hU;generalize y2[k]'(by rw[Y2.out];exact hlt)=y at hY hE' hV;have zz:x2.length+hT.szL x2=hTS.sz x2:=rfl;have zv:y2.length+hT.szL y2=hTS.sz y2:=rfl;have zx:hT.sz x<=100000000:=(by omega);have zy:hT.sz y<=100000000:=(by omega);clear zz zv hU hV;obtain⟨Ae,ne,ce,rfl⟩:=zbv hE;obtain⟨Be,me,de,rfl⟩:=zbv hE';have hl1:=(sl_R.1 hE).cap.1;have hl2:=(sl_R.1 hE').cap.1;have e0:wo1.cell? ⟨b,o1+k*1,none⟩=some (.slice Ae ne ce):=hcc 0 _ rfl;have f0:wo1.cell? ⟨b',o2+k*1,none⟩=some (.slice Be me de):=hdd 0 _ rfl;rw[Nat.mul_one]at e0 f0;clear hcc hdd;have pp:=p2_wo1;have qq:=q2_wo1;have nb:ne<=1000000000:=(by rw[zlr]at zx;have:=(sl_R.1 hE).cap.1;omega);have nb2:me<=1000000000:=(by rw[zlr]at zy;have:=(sl_R.1 hE').cap.1;omega);have re0:=Ag e0;have rf0:=Ag f0;have rpp:=Ag pp;have rqq:=Ag qq;have cP:∀d os,Calls Tryz.prog 62 #[.agg #[.slice Ae ne ce],.agg #[.slice Be me de]] (grow (redrawn wo1 d) os) fun e w''=>e=.returned (.bool (decide (x=y)))/\∃p:Regrown,w''=grow (redrawn wo1 p.d) p.os:=fun d os=>Fw (zr9 _ _ _ _ _ _ _ _ _ (sl_R.1 (tT.later hE (Cf wo1 d os))).flat.1 (sl_R.1 (tT.later hE' (Cf wo1 d os))).flat.1 nb nb2)
    clear e0 f0 pp qq
    by_cases hp:x=y
    ·rw[Dx hp]at cP;have HP:=Aq hp;clear hp;go_wp2
     (refine Ck (by kernel_rfl) (by kernel_rfl) ?_;(repeat (go_big_quiet_step (exact cP _ _)));refine Cv ?_;intro _ hw';obtain⟨⟨dq,osq⟩,hw''⟩:=hw';subst hw'')
     go_wp2;go_roundw
     case rel=>exact⟨k+1,by go_num,by omega,Aq (by rw[M.take_at hX.out,M.take_at hY.out,H.out,HP.out]),zaa hb1 (Cf wo1 dq osq)⟩
     case measure=>simp[intOf];omega
    rw[Dz hp]at cP;have hxy:¬x2=y2:=fun e=>by have h1:=hX.out;rw[e,hY.out]at h1;injection h1 with h1;exact hp h1.symm
    have R:=Aq (show decide (((a0,x1,x2,x3,x4,x5):Sess)=(a0,y1,y2,y3,y4,y5))=false by rw[Fy];intro e;simp only[Prod.mk.injEq]at e;exact hxy e.2.2.1);clear hp hxy;go_wp2
    (refine Ck (by kernel_rfl) (by kernel_rfl) ?_;(repeat (go_big_quiet_step (exact cP _ _)));refine Cv ?_;intro _ hw';obtain⟨⟨dq,osq⟩,hw''⟩:=hw';subst hw'')
    go_wp2;go_ret;exact⟨zac (by rw[R.out]),zaa B_wo1 (Cf wo1 dq osq)⟩
   have E2:=Aq (show x2=y2 by have:=H.out;rwa [Cg (by rw[X2.out];omega),Cg (by rw[Y2.out];omega)]at this);clear H;go_wp2;clear hlt hk
   go_loopw [7] (fun i wr=>∃k:Nat,i=.int .i64 k/\k<=n4/\Hid (x4.take k=y4.take k)/\Below wo1.heap.size wo1 wr) (fun i _=>n4-(intOf i).toNat)
   case atStart=>exact⟨0,rfl,by omega,Aq (by simp),Aw _ _⟩
   case round=>
    obtain⟨k,rfl,hk,H,hb2⟩:=hrel;obtain⟨wo2,rfl⟩:∃wo:Yw,wo=wr:=⟨_,rfl⟩;have lx_wo2:=Cq lx_wo1 hb2.size;have B_wo2:=zaa B_wo1 hb2;have p0_wo2:wo2.cell? ⟨w.heap.size,0,none⟩=some (.int .i64 a0):=(by rw[hb2.cell (by show w.heap.size<_;have:=lx_wo1;omega)];exact p0_wo1);have q0_wo2:wo2.cell? ⟨w.heap.size+1,0,none⟩=some (.int .i64 a0):=(by rw[hb2.cell (by show w.heap.size+1<_;have:=lx_wo1;omega)];exact q0_wo1);have p1_wo2:wo2.cell? ⟨w.heap.size,1,none⟩=some (.slice A1 n1 c1):=(by rw[hb2.cell (by show w.heap.size<_;have:=lx_wo1;omega)];exact p1_wo1);have q1_wo2:wo2.cell? ⟨w.heap.size+1,1,none⟩=some (.slice B1 n1 d1):=(by rw[hb2.cell (by show w.heap.size+1<_;have:=lx_wo1;omega)];exact q1_wo1);have p2_wo2:wo2.cell? ⟨w.heap.size,2,none⟩=some (.slice A2 n2 c2):=(by rw[hb2.cell (by show w.heap.size<_;have:=lx_wo1;omega)];exact p2_wo1);have q2_wo2:wo2.cell? ⟨w.heap.size+1,2,none⟩=some (.slice B2 n2 d2):=(by rw[hb2.cell (by show w.heap.size+1<_;have:=lx_wo1;omega)];exact q2_wo1);have p3_wo2:wo2.cell? ⟨w.heap.size,3,none⟩=some (.slice A3 n3 c3):=(by rw[hb2.cell (by show w.heap.size<_;have:=lx_wo1;omega)];exact p3_wo1);have q3_wo2:wo2.cell? ⟨w.heap.size+1,3,none⟩=some (.slice B3 m3 d3):=(by rw[hb2.cell (by show w.heap.size+1<_;have:=lx_wo1;omega)];exact q3_wo1);have p4_wo2:wo2.cell? ⟨w.heap.size,4,none⟩=some (.slice A4 n4 c4):=(by rw[hb2.cell (by show w.heap.size<_;have:=lx_wo1;omega)];exact p4_wo1);have q4_wo2:wo2.cell? ⟨w.heap.size+1,4,none⟩=some (.slice B4 n4 d4):=(by rw[hb2.cell (by show w.heap.size+1<_;have:=lx_wo1;omega)];exact q4_wo1);have p5_wo2:wo2.cell? ⟨w.heap.size,5,none⟩=some (.slice A5 n5 c5):=(by rw[hb2.cell (by show w.heap.size<_;have:=lx_wo1;omega)];exact p5_wo1);have q5_wo2:wo2.cell? ⟨w.heap.size+1,5,none⟩=some (.slice B5 m5 d5):=(by rw[hb2.cell (by show w.heap.size+1<_;have:=lx_wo1;omega)];exact q5_wo1);have r1_wo2:=tSS.later r1_wo1 hb2;have s1_wo2:=tSS.later s1_wo1 hb2;have r2_wo2:=tTS.later r2_wo1 hb2;have s2_wo2:=tTS.later s2_wo1 hb2;have r3_wo2:=tS.later r3_wo1 hb2;have s3_wo2:=tS.later s3_wo1 hb2;have r4_wo2:=tPS.later r4_wo1 hb2;have s4_wo2:=tPS.later s4_wo1 hb2;have r5_wo2:=tM.later r5_wo1 hb2;have s5_wo2:=tM.later s5_wo1 hb2;clear p0_wo1 q0_wo1 p1_wo1 q1_wo1 p2_wo1 q2_wo1 p3_wo1 q3_wo1 p4_wo1 q4_wo1 p5_wo1 q5_wo1 r1_wo1 s1_wo1 r2_wo1 s2_wo1 r3_wo1 s3_wo1 r4_wo1 s4_wo1 r5_wo1 s5_wo1
    by_cases hlt:k<n4
    ·have hX:=Aq (Ak (l:=x4) (i:=k) (by rw[X4.out];exact hlt));have hY:=Aq (Ak (l:=y4) (i:=k) (by rw[Y4.out];exact hlt));obtain⟨b,o1,cc,cs,hv,hab,-,hE,hcc⟩:=(sl_R.1 r4_wo2).atX hX.out;obtain⟨b',o2,cc',cs',hv',hab',-,hE',hdd⟩:=(sl_R.1 s4_wo2).atX hY.out;simp only[Cz]at hv hv';obtain⟨rfl,-,rfl⟩:=hv;obtain⟨rfl,-,rfl⟩:=hv';have hU:=hP.szL_at hX.out;have hV:=hP.szL_at hY.out;generalize x4[k]'(by rw[X4.out];exact hlt)=x at hX hE hU;generalize y4[k]'(by rw[Y4.out];exact hlt)=y at hY hE' hV;have zz:x4.length+hP.szL x4=hPS.sz x4:=rfl;have zv:y4.length+hP.szL y4=hPS.sz y4:=rfl;have zx:hP.sz x<=100000000:=(by omega);have zy:hP.sz y<=100000000:=(by omega);clear zz zv hU hV;obtain⟨ua0,ua1,ua2,ua3⟩:=x;obtain⟨ub0,ub1,ub2,ub3⟩:=y;obtain⟨Ae1,ne1,ce1,Ae2,ne2,ce2,Ae3,ne3,ce3,rfl,hE1,hE2,hE3⟩:=tP_R.1 hE;obtain⟨Be1,me1,de1,Be2,me2,de2,Be3,me3,de3,rfl,hG1,hG2,hG3⟩:=tP_R.1 hE';have e0:wo2.cell? ⟨b,o1+k*4,none⟩=some (.int .i64 ua0):=hcc 0 _ rfl;have f0:wo2.cell? ⟨b',o2+k*4,none⟩=some (.int .i64 ub0):=hdd 0 _ rfl;have e1:wo2.cell? ⟨b,o1+k*4+1,none⟩=some (.slice Ae1 ne1 ce1):=hcc 1 _ rfl;have f1:wo2.cell? ⟨b',o2+k*4+1,none⟩=some (.slice Be1 me1 de1):=hdd 1 _ rfl;have e2:wo2.cell? ⟨b,o1+k*4+2,none⟩=some (.slice Ae2 ne2 ce2):=hcc 2 _ rfl;have f2:wo2.cell? ⟨b',o2+k*4+2,none⟩=some (.slice Be2 me2 de2):=hdd 2 _ rfl;have e3:wo2.cell? ⟨b,o1+k*4+3,none⟩=some (.slice Ae3 ne3 ce3):=hcc 3 _ rfl;have f3:wo2.cell? ⟨b',o2+k*4+3,none⟩=some (.slice Be3 me3 de3):=hdd 3 _ rfl;clear hcc hdd;have pp:=p4_wo2;have qq:=q4_wo2;have re0:=Ag e0;have rf0:=Ag f0;have re1:=Ag e1;have rf1:=Ag f1;have re2:=Ag e2;have rf2:=Ag f2;have re3:=Ag e3;have rf3:=Ag f3;have rpp:=Ag pp;have rqq:=Ag qq;have cP:∀d os,Calls Tryz.prog 63 #[.agg #[.int .i64 ua0,.slice Ae1 ne1 ce1,.slice Ae2 ne2 ce2,.slice Ae3 ne3 ce3],.agg #[.int .i64 ub0,.slice Be1 me1 de1,.slice Be2 me2 de2,.slice Be3 me3 de3]] (grow (redrawn wo2 d) os) fun e w''=>e=.returned (.bool (decide (((ua0,ua1,ua2,ua3):zae)=(ub0,ub1,ub2,ub3))))/\∃p:Regrown,w''=grow (redrawn wo2 p.d) p.os:=fun d os=>Fw (zsc _ _ _ _ _ _ _ _ _ _ _ _ _ _ _ _ _ _ _ _ _ _ _ _ _ _ _ (tSS.later hE1 (Cf wo2 d os)) (tSS.later hG1 (Cf wo2 d os)) (tNS.later hE2 (Cf wo2 d os)) (tNS.later hG2 (Cf wo2 d os)) (tS.later hE3 (Cf wo2 d os)) (tS.later hG3 (Cf wo2 d os)) zx zy)
     clear e0 f0 e1 f1 e2 f2 e3 f3 pp qq
     by_cases hp:((ua0,ua1,ua2,ua3):zae)=(ub0,ub1,ub2,ub3)
     ·rw[Dx hp]at cP;have HP:=Aq hp;clear hp;go_wp2
      (refine Ck (by kernel_rfl) (by kernel_rfl) ?_;(repeat (go_big_quiet_step (exact cP _ _)));refine Cv ?_;intro _ hw';obtain⟨⟨dq,osq⟩,hw''⟩:=hw';subst hw'')
      go_wp2;go_roundw
      case rel=>exact⟨k+1,by go_num,by omega,Aq (by rw[M.take_at hX.out,M.take_at hY.out,H.out,HP.out]),zaa hb2 (Cf wo2 dq osq)⟩
      case measure=>simp[intOf];omega
     rw[Dz hp]at cP;have hxy:¬x4=y4:=fun e=>by have h1:=hX.out;rw[e,hY.out]at h1;injection h1 with h1;exact hp h1.symm
     have R:=Aq (show decide (((a0,x1,x2,x3,x4,x5):Sess)=(a0,y1,y2,y3,y4,y5))=false by rw[Fy];intro e;simp only[Prod.mk.injEq]at e;exact hxy e.2.2.2.2.1);clear hp hxy;go_wp2
     (refine Ck (by kernel_rfl) (by kernel_rfl) ?_;(repeat (go_big_quiet_step (exact cP _ _)));refine Cv ?_;intro _ hw';obtain⟨⟨dq,osq⟩,hw''⟩:=hw';subst hw'')
     go_wp2;go_ret;exact⟨zac (by rw[R.out]),zaa B_wo2 (Cf wo2 dq osq)⟩
    have E4:=Aq (show x4=y4 by have:=H.out;rwa [Cg (by rw[X4.out];omega),Cg (by rw[Y4.out];omega)]at this);clear H;go_wp2;clear hlt hk;go_ret;exact⟨zac (by rw[E1.out,E2.out,E3.out,E4.out,E5.out];simp),B_wo2⟩
theorem zxt(p:Int)(A:Yo)(n c:Nat)(Ab:Yo)(nb cb:Nat)(Ac:Yo)(nc cc:Nat)(Ad:Yo)(nd cd:Nat)(Ae:Yo)(ne ce:Nat)(p':Int)(A':Yo)(n' c':Nat)(Ab':Yo)(nb' cb':Nat)(Ac':Yo)(nc' cc':Nat)(Ad':Yo)(nd' cd':Nat)(Ae':Yo)(ne' ce':Nat)(x y:Sess)(w:Yw)(hx:tZ.R w w.heap.size [.int .i64 p,.slice A n c,.slice Ab nb cb,.slice Ac nc cc,.slice Ad nd cd,.slice Ae ne ce] x)(hy:tZ.R w w.heap.size [.int .i64 p',.slice A' n' c',.slice Ab' nb' cb',.slice Ac' nc' cc',.slice Ad' nd' cd',.slice Ae' ne' ce'] y)(hn:hZ.sz x<=100000000)(hn2:hZ.sz y<=100000000):
 Calls Tryz.prog 18 #[.agg #[.int .i64 p,.slice A n c,.slice Ab nb cb,.slice Ac nc cc,.slice Ad nd cd,.slice Ae ne ce],.agg #[.int .i64 p',.slice A' n' c',.slice Ab' nb' cb',.slice Ac' nc' cc',.slice Ad' nd' cd',.slice Ae' ne' ce']] w fun e w'=>e=.returned (.bool (decide (x=y)))/\Below w.heap.size w w':=by
 obtain⟨a0,x1,x2,x3,x4,x5⟩:=x;obtain⟨b0,y1,y2,y3,y4,y5⟩:=y;obtain⟨A1,n1,c1,A2,n2,c2,A3,n3,c3,A4,n4,c4,A5,n5,c5,hcs,h1,h2,h3,h4,h5⟩:=tZ_R.1 hx;simp only[List.cons.injEq,Value.int.injEq,Cz,true_and,and_true]at hcs;obtain⟨rfl,⟨rfl,rfl,rfl⟩,⟨rfl,rfl,rfl⟩,⟨rfl,rfl,rfl⟩,⟨rfl,rfl,rfl⟩,⟨rfl,rfl,rfl⟩⟩:=hcs;obtain⟨A1',n1',c1',A2',n2',c2',A3',n3',c3',A4',n4',c4',A5',n5',c5',hcs',k1,k2,k3,k4,k5⟩:=tZ_R.1 hy;simp only[List.cons.injEq,Value.int.injEq,Cz,true_and,and_true]at hcs';obtain⟨rfl,⟨rfl,rfl,rfl⟩,⟨rfl,rfl,rfl⟩,⟨rfl,rfl,rfl⟩,⟨rfl,rfl,rfl⟩,⟨rfl,rfl,rfl⟩⟩:=hcs';exact zxs _ _ _ _ _ _ _ _ _ _ _ _ _ _ _ _ _ _ _ _ _ _ _ _ _ _ _ _ _ _ _ _ _ _ _ _ _ _ _ _ _ _ _ h1 k1 h2 k2 h3 k3 h4 k4 h5 k5 hn hn2
theorem OH.at{α:Type}{t:Ty α}{e:TypeId}{w U:Yw}{F:Nat->Prop}{v:Value}{xs:List α}{css:List (List Value)}{Fs:Nat->Nat->Prop}{k:Nat}(h:OH t e w F v xs css Fs k)(hU:U=w):OH t e U F v xs css Fs k:=hU▸h
set_option synthInstance.maxSize 2000
set_option synthInstance.maxHeartbeats 400000
theorem zxu(a0:Int)(A1:Yo)(n1 c1:Nat)(A2:Yo)(n2 c2:Nat)(A3:Yo)(n3 c3:Nat)(A4:Yo)(n4 c4:Nat)(A5:Yo)(n5 c5:Nat)(x1:List (List Int))(x2:List (List zap))(x3:List Int)(x4:List zae)(x5:List zag)(w:Yw)(h1:tSS.R w w.heap.size [.slice A1 n1 c1] x1)(h2:tTS.R w w.heap.size [.slice A2 n2 c2] x2)(h3:tS.R w w.heap.size [.slice A3 n3 c3] x3)(h4:tPS.R w w.heap.size [.slice A4 n4 c4] x4)(h5:tM.R w w.heap.size [.slice A5 n5 c5] x5)(hn:hZ.sz ((a0,x1,x2,x3,x4,x5):Sess)<=100000000):
 Calls Tryz.prog 15 #[.agg #[.int .i64 a0,.slice A1 n1 c1,.slice A2 n2 c2,.slice A3 n3 c3,.slice A4 n4 c4,.slice A5 n5 c5]] w fun e w'=>e=.returned (.bool (zbd (a0,x1,x2,x3,x4,x5)))/\Below w.heap.size w w':=by
 obtain⟨W,hW⟩:∃W,W=w.alloc (.cells #[.int .i64 a0,.slice A1 n1 c1,.slice A2 n2 c2,.slice A3 n3 c3,.slice A4 n4 c4,.slice A5 n5 c5] 38):=⟨_,rfl⟩;have B0:Below w.heap.size w W:=by rw[hW];exact(Aw _ _).alloc (Aj _) _
 have p0:W.cell? ⟨w.heap.size,0,none⟩=some (.int .i64 a0):=by rw[hW];simp[go_sem]
 have p1:W.cell? ⟨w.heap.size,1,none⟩=some (.slice A1 n1 c1):=by rw[hW];simp[go_sem]
 have p2:W.cell? ⟨w.heap.size,2,none⟩=some (.slice A2 n2 c2):=by rw[hW];simp[go_sem]
 have p3:W.cell? ⟨w.heap.size,3,none⟩=some (.slice A3 n3 c3):=by rw[hW];simp[go_sem]
 have p4:W.cell? ⟨w.heap.size,4,none⟩=some (.slice A4 n4 c4):=by rw[hW];simp[go_sem]
 have p5:W.cell? ⟨w.heap.size,5,none⟩=some (.slice A5 n5 c5):=by rw[hW];simp[go_sem]
 have lx:w.heap.size<W.heap.size:=by rw[hW];simp
 have HW:=Aq hW;clear hW;have k1:=tSS.later h1 B0;have k2:=tTS.later h2 B0;have k3:=tS.later h3 B0;have k4:=tPS.later h4 B0;have k5:=tM.later h5 B0
 go_enter Tryz.func15,Tryz.ntmps15
 go_wp2_with fail;rw[<-HW.out];refine(zs0 _ _ _ _ _ _ _ _ _ _ _ _ _ _ _ _ _ _ _ _ _ _ W p0 p1 p2 p3 p4 p5 k1 k2 k3 k4 k5 hn).mono ?_;rintro e w2 ⟨rfl,bel2⟩;go_wp2;go_ret;exact⟨rfl,zaa B0 bel2⟩
theorem zxv(p:Int)(A:Yo)(n c:Nat)(Ab:Yo)(nb cb:Nat)(Ac:Yo)(nc cc:Nat)(Ad:Yo)(nd cd:Nat)(Ae:Yo)(ne ce:Nat)(x:Sess)(w:Yw)(hx:tZ.R w w.heap.size [.int .i64 p,.slice A n c,.slice Ab nb cb,.slice Ac nc cc,.slice Ad nd cd,.slice Ae ne ce] x)(hn:hZ.sz x<=100000000):
 Calls Tryz.prog 15 #[.agg #[.int .i64 p,.slice A n c,.slice Ab nb cb,.slice Ac nc cc,.slice Ad nd cd,.slice Ae ne ce]] w fun e w'=>e=.returned (.bool (zbd x))/\Below w.heap.size w w':=by
 obtain⟨a0,x1,x2,x3,x4,x5⟩:=x;obtain⟨A1,n1,c1,A2,n2,c2,A3,n3,c3,A4,n4,c4,A5,n5,c5,hcs,h1,h2,h3,h4,h5⟩:=tZ_R.1 hx;simp only[List.cons.injEq,Value.int.injEq,Cz,true_and,and_true]at hcs;obtain⟨rfl,⟨rfl,rfl,rfl⟩,⟨rfl,rfl,rfl⟩,⟨rfl,rfl,rfl⟩,⟨rfl,rfl,rfl⟩,⟨rfl,rfl,rfl⟩⟩:=hcs;exact zxu _ _ _ _ _ _ _ _ _ _ _ _ _ _ _ _ _ _ _ _ _ _  h1 h2 h3 h4 h5 hn
theorem zpl(A:Yo)(n c:Nat)(w:Yw):Calls Tryz.prog 111 #[.slice A n c] w fun e w'=>e=.returned (.int .i64 n)/\w=w':=by
 go_enter Tryz.func111,Tryz.ntmps111
 go_wp2;go_ret;exact⟨rfl,rfl⟩
def zfy (x:Sess) (keep:List Int):Int:=if zbd x then(if keep.all (za7 (x.2.2.1.length:Int))then 0 else 2)else 1
def zlf (x:Sess) (keep:List Int):Sess:=(x.1,x.2.1,zca keep x.2.2.1.length x.2.2.1,x.2.2.2)
def zig:Sess:=(0,[],[],[],[],[])
def zfe (x:Sess) (keep:List Int):Sess×Int:=(if zfy x keep=0 then zlf x keep else zig,zfy x keep)
theorem zpm(w:Yw)(F:Nat->Prop):tZ.O w F [.int .i64 0,.slice none 0 0,.slice none 0 0,.slice none 0 0,.slice none 0 0,.slice none 0 0] zig:=
 tZ_O.2 ⟨none,0,0,none,0,0,none,0,0,none,0,0,none,0,0,fun _=>False,fun _=>False,fun _=>False,fun _=>False,fun _=>False,rfl,sl_O.2 (OS.nil _ _ _ _),sl_O.2 (OS.nil _ _ _ _),sl_O.2 (OS.nil _ _ _ _),sl_O.2 (OS.nil _ _ _ _),sl_O.2 (OS.nil _ _ _ _),fun _ h=>h.elim,fun _ h=>h.elim,fun _ h=>h.elim,fun _ h=>h.elim,fun _ h=>h.elim,fun _ h=>h.elim,fun _ h=>h.elim,fun _ h=>h.elim,fun _ h=>h.elim,fun _ h=>h.elim,fun _ h=>h.elim,fun _ h=>h.elim,fun _ h=>h.elim,fun _ h=>h.elim,fun _ h=>h.elim⟩
theorem zpn(a0:Int)(A1:Yo)(n1 c1:Nat)(A2:Yo)(n2 c2:Nat)(A3:Yo)(n3 c3:Nat)(A4:Yo)(n4 c4:Nat)(A5:Yo)(n5 c5:Nat)(x1:List (List Int))(x2:List (List zap))(x3:List Int)(x4:List zae)(x5:List zag)(KA:Yo)(kn kc:Nat)(keep:List Int)(w:Yw)(h1:tSS.R w w.heap.size [.slice A1 n1 c1] x1)(h2:tTS.R w w.heap.size [.slice A2 n2 c2] x2)(h3:tS.R w w.heap.size [.slice A3 n3 c3] x3)(h4:tPS.R w w.heap.size [.slice A4 n4 c4] x4)(h5:tM.R w w.heap.size [.slice A5 n5 c5] x5)(hk_:RI w w.heap.size KA kn keep)(hkn:kn<=1000000000)(hn:hZ.sz ((a0,x1,x2,x3,x4,x5):Sess)<=100000000):
 Calls Tryz.prog 56 #[.agg #[.int .i64 a0,.slice A1 n1 c1,.slice A2 n2 c2,.slice A3 n3 c3,.slice A4 n4 c4,.slice A5 n5 c5],.slice KA kn kc] w fun e w'=>e=.returned (.int .i64 (zfy (a0,x1,x2,x3,x4,x5) keep))/\Below w.heap.size w w':=by
 obtain⟨W,hW,B0,sW,p0,p1,p2,p3,p4,p5,pf⟩:=zcs w (.int .i64 a0) (.slice A1 n1 c1) (.slice A2 n2 c2) (.slice A3 n3 c3) (.slice A4 n4 c4) (.slice A5 n5 c5) 38;have HW:=Aq hW;have lW:w.heap.size<W.heap.size:=by omega
 clear hW sW;have k1:=tSS.later h1 B0;have k2:=tTS.later h2 B0;have k3:=tS.later h3 B0;have k4:=tPS.later h4 B0;have k5:=tM.later h5 B0;have kk:=hk_.later B0;have ln2:=Aq (sl_R.1 k2).cap.1;have z2:x2.length<=100000000:=by rw[zeb]at hn;have e:x2.length+hT.szL x2=hTS.sz x2:=rfl;omega
 have bn2:n2<=100000000:=by have:=ln2.out;omega
 have HS:=Aq (show zfy (a0,x1,x2,x3,x4,x5) keep=if zbd (a0,x1,x2,x3,x4,x5)then(if keep.all (za7 (n2:Int))then 0 else 2)else 1 by rw[zfy,<-ln2.out]);obtain⟨tc,htc⟩:∃tc,tc=zfy (a0,x1,x2,x3,x4,x5) keep:=⟨_,rfl⟩;rw[<-htc]at HS ⊢;clear htc;cases ho:zbd (a0,x1,x2,x3,x4,x5)
 ·have R:=Aq (show tc=1 by rw[HS.out,ho];rfl);have HO:=Aq ho;clear ho
  go_enter Tryz.func56,Tryz.ntmps56
  go_wp2_with fail;rw[<-HW.out];refine(zgg a0 A1 n1 c1 A2 n2 c2 A3 n3 c3 A4 n4 c4 A5 n5 c5 x1 x2 x3 x4 x5 W k1 k2 k3 k4 k5 hn).mono ?_;rw[HO.out];rintro e w1 ⟨rfl,bel1⟩;go_wp2;go_ret;exact⟨zb1 (by rw[R.out]),zaa B0 bel1⟩
 have HO:=Aq ho;cases hi:keep.all (za7 (n2:Int))
 ·have R:=Aq (show tc=2 by rw[HS.out,ho,hi];rfl);have HJ:=Aq hi;clear ho hi
  go_enter Tryz.func56,Tryz.ntmps56
  go_wp2_with fail;rw[<-HW.out];refine(zgg a0 A1 n1 c1 A2 n2 c2 A3 n3 c3 A4 n4 c4 A5 n5 c5 x1 x2 x3 x4 x5 W k1 k2 k3 k4 k5 hn).mono ?_;rw[HO.out];rintro e w1 ⟨rfl,bel1⟩;have q2:w1.cell? ⟨w.heap.size,2,none⟩=some (.slice A2 n2 c2):=(bel1.cell (by show w.heap.size<_;omega)).trans p2;have kw:=kk.later bel1;go_wp2_with (first|(go_at_call 111;refine(zpl _ _ _ _).mono ?_;rintro e w2 ⟨rfl,rfl⟩)|(go_at_call 84;refine(zf9 _ _ _ _ _ _ kw (by omega) (by omega)).mono ?_;rw[HJ.out];rintro e w2 ⟨rfl,rfl⟩));go_ret;exact⟨zb1 (by rw[R.out]),zaa B0 bel1⟩
 have R:=Aq (show tc=0 by rw[HS.out,ho,hi];rfl);have HJ:=Aq hi;clear ho hi
 go_enter Tryz.func56,Tryz.ntmps56
 go_wp2_with fail;rw[<-HW.out];refine(zgg a0 A1 n1 c1 A2 n2 c2 A3 n3 c3 A4 n4 c4 A5 n5 c5 x1 x2 x3 x4 x5 W k1 k2 k3 k4 k5 hn).mono ?_;rw[HO.out];rintro e w1 ⟨rfl,bel1⟩;have q2:w1.cell? ⟨w.heap.size,2,none⟩=some (.slice A2 n2 c2):=(bel1.cell (by show w.heap.size<_;omega)).trans p2;have kw:=kk.later bel1;go_wp2_with (first|(go_at_call 111;refine(zpl _ _ _ _).mono ?_;rintro e w2 ⟨rfl,rfl⟩)|(go_at_call 84;refine(zf9 _ _ _ _ _ _ kw (by omega) (by omega)).mono ?_;rw[HJ.out];rintro e w2 ⟨rfl,rfl⟩));go_ret;exact⟨zb1 (by rw[R.out]),zaa B0 bel1⟩
theorem zxw(a0:Int)(A1:Yo)(n1 c1:Nat)(A2:Yo)(n2 c2:Nat)(A3:Yo)(n3 c3:Nat)(A4:Yo)(n4 c4:Nat)(A5:Yo)(n5 c5:Nat)(x1:List (List Int))(x2:List (List zap))(x3:List Int)(x4:List zae)(x5:List zag)(KA:Yo)(kn kc:Nat)(keep:List Int)(w:Yw)(h1:tSS.R w w.heap.size [.slice A1 n1 c1] x1)(h2:tTS.R w w.heap.size [.slice A2 n2 c2] x2)(h3:tS.R w w.heap.size [.slice A3 n3 c3] x3)(h4:tPS.R w w.heap.size [.slice A4 n4 c4] x4)(h5:tM.R w w.heap.size [.slice A5 n5 c5] x5)(hk_:RI w w.heap.size KA kn keep)(hkn:kn<=1000000000)(hn:hZ.sz ((a0,x1,x2,x3,x4,x5):Sess)<=100000000):
 Calls Tryz.prog 16 #[.agg #[.int .i64 a0,.slice A1 n1 c1,.slice A2 n2 c2,.slice A3 n3 c3,.slice A4 n4 c4,.slice A5 n5 c5],.slice KA kn kc] w fun e w'=>∃q0 A1' n1' c1' A2' n2' c2' A3' n3' c3' A4' n4' c4' A5' n5' c5',e=.returned (.tuple #[.agg #[.int .i64 q0,.slice A1' n1' c1',.slice A2' n2' c2',.slice A3' n3' c3',.slice A4' n4' c4',.slice A5' n5' c5'],.int .i64 (zfe (a0,x1,x2,x3,x4,x5) keep).2])/\tZ.O w' (Iv w.heap.size w'.heap.size) [.int .i64 q0,.slice A1' n1' c1',.slice A2' n2' c2',.slice A3' n3' c3',.slice A4' n4' c4',.slice A5' n5' c5'] (zfe (a0,x1,x2,x3,x4,x5) keep).1/\Below w.heap.size w w':=by
 obtain⟨W_,hW_,B0_,sW_,p0,p1,p2,p3,p4,p5,pf⟩:=zcs w (.int .i64 a0) (.slice A1 n1 c1) (.slice A2 n2 c2) (.slice A3 n3 c3) (.slice A4 n4 c4) (.slice A5 n5 c5) 38;obtain⟨W,hW,B1_,sW,r0,r1,r2,r3,r4,r5,rf⟩:=zcs W_ (.int .i64 0) (.slice none 0 0) (.slice none 0 0) (.slice none 0 0) (.slice none 0 0) (.slice none 0 0) 38;have B0:=zaa B0_ B1_;rw[hW_]at hW;clear hW_;replace p0:W.cell? ⟨w.heap.size,0,none⟩=some (.int .i64 a0):=by rw[B1_.cell (by show w.heap.size<_;omega)];exact p0
 replace p1:W.cell? ⟨w.heap.size,1,none⟩=some (.slice A1 n1 c1):=by rw[B1_.cell (by show w.heap.size<_;omega)];exact p1
 replace p2:W.cell? ⟨w.heap.size,2,none⟩=some (.slice A2 n2 c2):=by rw[B1_.cell (by show w.heap.size<_;omega)];exact p2
 replace p3:W.cell? ⟨w.heap.size,3,none⟩=some (.slice A3 n3 c3):=by rw[B1_.cell (by show w.heap.size<_;omega)];exact p3
 replace p4:W.cell? ⟨w.heap.size,4,none⟩=some (.slice A4 n4 c4):=by rw[B1_.cell (by show w.heap.size<_;omega)];exact p4
 replace p5:W.cell? ⟨w.heap.size,5,none⟩=some (.slice A5 n5 c5):=by rw[B1_.cell (by show w.heap.size<_;omega)];exact p5
 obtain⟨rb,hrb⟩:∃rb,rb=W_.heap.size:=⟨_,rfl⟩;have hrb2:rb=w.heap.size+1:=by omega
 rw[<-hrb]at r0 r1 r2 r3 r4 r5 rf;clear hrb;subst hrb2;have lW:w.heap.size+1<W.heap.size:=by omega
 clear sW sW_ B0_ B1_ pf;have HW:=Aq hW;clear hW;have k1:=tSS.later h1 B0;have k2:=tTS.later h2 B0;have k3:=tS.later h3 B0;have k4:=tPS.later h4 B0;have k5:=tM.later h5 B0;have kk:=hk_.later B0;have ln2:=Aq (sl_R.1 k2).cap.1;have z2:x2.length<=100000000:=by rw[zeb]at hn;have e:x2.length+hT.szL x2=hTS.sz x2:=rfl;omega
 have bn2:n2<=100000000:=by have:=ln2.out;omega
 clear h1 h2 h3 h4 h5;obtain⟨RR,hRR⟩:∃RR,RR=zfe (a0,x1,x2,x3,x4,x5) keep:=⟨_,rfl⟩;have HR:=Aq hRR;rw[<-hRR];clear hRR;obtain⟨tc,htc⟩:∃tc,tc=zfy (a0,x1,x2,x3,x4,x5) keep:=⟨_,rfl⟩;have HT:=Aq htc
 by_cases h0:tc=0
 ·have E1:=Aq (show RR=(zlf (a0,x1,x2,x3,x4,x5) keep,0)by rw[HR.out,zfe,<-htc,h0];rfl);subst h0;clear htc
  go_enter Tryz.func16,Tryz.ntmps16
  go_wp2_with fail;rw[<-HW.out];refine(zpn a0 A1 n1 c1 A2 n2 c2 A3 n3 c3 A4 n4 c4 A5 n5 c5 x1 x2 x3 x4 x5 KA kn kc keep W k1 k2 k3 k4 k5 kk hkn hn).mono ?_;rw[<-HT.out];rintro e w1 ⟨rfl,bel1⟩;have s1:=bel1.size;have P0:=(bel1.cell (p:=⟨w.heap.size,0,none⟩) (by show w.heap.size<_;omega)).trans p0;have P1:=(bel1.cell (p:=⟨w.heap.size,1,none⟩) (by show w.heap.size<_;omega)).trans p1;have P2:=(bel1.cell (p:=⟨w.heap.size,2,none⟩) (by show w.heap.size<_;omega)).trans p2;have P3:=(bel1.cell (p:=⟨w.heap.size,3,none⟩) (by show w.heap.size<_;omega)).trans p3;have P4:=(bel1.cell (p:=⟨w.heap.size,4,none⟩) (by show w.heap.size<_;omega)).trans p4;have P5:=(bel1.cell (p:=⟨w.heap.size,5,none⟩) (by show w.heap.size<_;omega)).trans p5;go_wp2_with fail;refine(zup a0 A1 n1 c1 A2 n2 c2 A3 n3 c3 A4 n4 c4 A5 n5 c5 x1 x2 x3 x4 x5 KA kn kc keep w1 (tSS.later k1 bel1) (tTS.later k2 bel1) (tS.later k3 bel1) (tPS.later k4 bel1) (tM.later k5 bel1) (kk.later bel1) hkn hn).mono ?_;rintro e w2 ⟨A1',n1',c1',A2',n2',c2',A3',n3',c3',A4',n4',c4',A5',n5',c5',rfl,oz,bel2⟩;have s2:=bel2.size;have Bw2:=zaa bel1 bel2;have Q0:=(Bw2.cell (p:=⟨w.heap.size+1,0,none⟩) (by show w.heap.size+1<_;omega)).trans r0;have Q1:=(Bw2.cell (p:=⟨w.heap.size+1,1,none⟩) (by show w.heap.size+1<_;omega)).trans r1;have Q2:=(Bw2.cell (p:=⟨w.heap.size+1,2,none⟩) (by show w.heap.size+1<_;omega)).trans r2;have Q3:=(Bw2.cell (p:=⟨w.heap.size+1,3,none⟩) (by show w.heap.size+1<_;omega)).trans r3;have Q4:=(Bw2.cell (p:=⟨w.heap.size+1,4,none⟩) (by show w.heap.size+1<_;omega)).trans r4;have Q5:=(Bw2.cell (p:=⟨w.heap.size+1,5,none⟩) (by show w.heap.size+1<_;omega)).trans r5;have QF:∀j,w2.frozen? ⟨w.heap.size+1,j,none⟩=false:=fun j=>(Bw2.frozen (by show w.heap.size+1<_;omega)).trans (rf j)
  have QF0:=QF 0;have QF1:=QF 1;have QF2:=QF 2;have QF3:=QF 3;have QF4:=QF 4;have QF5:=QF 5;obtain⟨U_,hU_,y0,y1,y2,y3,y4,y5,yf,ych,ysz⟩:=box6 Q0 Q1 Q2 Q3 Q4 Q5 QF (.int .i64 a0) (.slice A1' n1' c1') (.slice A2' n2' c2') (.slice A3' n3' c3') (.slice A4' n4' c4') (.slice A5' n5' c5');have HU_:=Aq hU_;clear hU_;go_wp2;rw[<-HU_.out];have yf0:=yf 0;have yf1:=yf 1;have yf2:=yf 2;have yf3:=yf 3;have yf4:=yf 4;have yf5:=yf 5;refine Cy (v:=.tuple #[.agg #[.int .i64 a0,.slice A1' n1' c1',.slice A2' n2' c2',.slice A3' n3' c3',.slice A4' n4' c4',.slice A5' n5' c5'],.int .i64 0]) (by simp[results,Tryz.results16,go_sem,y0,y1,y2,y3,y4,y5,yf0,yf1,yf2,yf3,yf4,yf5]) rfl ?_;rw[E1.out];refine⟨a0,A1',n1',c1',A2',n2',c2',A3',n3',c3',A4',n4',c4',A5',n5',c5',rfl,?_,(zaa B0 Bw2).trans (ych.toBelow (fun b (hb:b=_)=>by omega) (by omega))⟩;exact tZ.owide (fun b hb=>Iv.mono (by omega) (by omega) b hb) (tZ.ochg oz ych (fun b hb (e:b=_)=>by have:=hb.1;omega))
 have E1:=Aq (show RR=(zig,tc)by rw[HR.out,zfe,<-htc,if_neg h0]);have g0:(tc != 0)=true:=by simpa using h0
 clear htc
 go_enter Tryz.func16,Tryz.ntmps16
 go_wp2_with fail;rw[<-HW.out];refine(zpn a0 A1 n1 c1 A2 n2 c2 A3 n3 c3 A4 n4 c4 A5 n5 c5 x1 x2 x3 x4 x5 KA kn kc keep W k1 k2 k3 k4 k5 kk hkn hn).mono ?_;rw[<-HT.out];rintro e w1 ⟨rfl,bel1⟩;have s1:=bel1.size;have Q0:=(bel1.cell (p:=⟨w.heap.size+1,0,none⟩) (by show w.heap.size+1<_;omega)).trans r0;have Q1:=(bel1.cell (p:=⟨w.heap.size+1,1,none⟩) (by show w.heap.size+1<_;omega)).trans r1;have Q2:=(bel1.cell (p:=⟨w.heap.size+1,2,none⟩) (by show w.heap.size+1<_;omega)).trans r2;have Q3:=(bel1.cell (p:=⟨w.heap.size+1,3,none⟩) (by show w.heap.size+1<_;omega)).trans r3;have Q4:=(bel1.cell (p:=⟨w.heap.size+1,4,none⟩) (by show w.heap.size+1<_;omega)).trans r4;have Q5:=(bel1.cell (p:=⟨w.heap.size+1,5,none⟩) (by show w.heap.size+1<_;omega)).trans r5;have QF:∀j,w1.frozen? ⟨w.heap.size+1,j,none⟩=false:=fun j=>(bel1.frozen (by show w.heap.size+1<_;omega)).trans (rf j)
 have QF0:=QF 0;have QF1:=QF 1;have QF2:=QF 2;have QF3:=QF 3;have QF4:=QF 4;have QF5:=QF 5;obtain⟨U_,hU_,y0,y1,y2,y3,y4,y5,yf,ych,ysz⟩:=box6 Q0 Q1 Q2 Q3 Q4 Q5 QF (.int .i64 0) (.slice none 0 0) (.slice none 0 0) (.slice none 0 0) (.slice none 0 0) (.slice none 0 0);have HU_:=Aq hU_;clear hU_;go_wp2;rw[<-HU_.out];have yf0:=yf 0;have yf1:=yf 1;have yf2:=yf 2;have yf3:=yf 3;have yf4:=yf 4;have yf5:=yf 5;refine Cy (v:=.tuple #[.agg #[.int .i64 0,.slice none 0 0,.slice none 0 0,.slice none 0 0,.slice none 0 0,.slice none 0 0],.int .i64 tc]) (by simp[results,Tryz.results16,go_sem,y0,y1,y2,y3,y4,y5,yf0,yf1,yf2,yf3,yf4,yf5]) rfl ?_;rw[E1.out];exact⟨0,none,0,0,none,0,0,none,0,0,none,0,0,none,0,0,rfl,zpm _ _,(zaa B0 bel1).trans (ych.toBelow (fun b (hb:b=_)=>by omega) (by omega))⟩
section
set_option synthInstance.maxSize 2000
set_option synthInstance.maxHeartbeats 400000
section
variable {α:Type}
def zdp (f:α->α) (k:Nat) (xs:List α):List α:=(xs.take k).map f++xs.drop k
theorem zxx(f:α->α){k:Nat}{xs:List α}(h:xs.length<=k):zdp f k xs=xs.map f:=by
 rw[zdp,Cg h,Ej h,List.append_nil]
theorem zxy(f:α->α)(k:Nat)(xs:List α):(zdp f k xs).length=xs.length:=by
 rw[zdp,Cw,Ff,Ey,List.length_drop];omega
theorem zpo{f:α->α}{k:Nat}{xs:List α}{x:α}(h:xs[k]?=some x):(zdp f k xs)[k]?=some x:=by
 have hk:=(Bk.1 h).1;have e:((xs.take k).map f).length=k:=by rw[Ff,Ey];omega
 rw[zdp,Gz (by omega),e,Nat.sub_self,List.getElem?_drop];simpa using h
theorem zpp{f:α->α}{k:Nat}{xs:List α}{x:α}(h:xs[k]?=some x):zdp f (k+1) xs=(zdp f k xs).set k (f x):=by
 have hk:=(Bk.1 h).1;have e:((xs.take k).map f).length=k:=by rw[Ff,Ey];omega
 have hd:xs.drop k=x::xs.drop (k+1):=by
  rw[List.drop_eq_getElem_cons hk];rw[Ak hk,Dq]at h;rw[h]
 rw[zdp,zdp,hd,List.set_append_right _ _ (by omega),e,Nat.sub_self,List.set_cons_zero,List.take_add_one,h];simp
theorem zxz{f:α->α}{k:Nat}{xs:List α}{x:α}(h:xs[k]?=some x)(hx:f x=x):zdp f (k+1) xs=zdp f k xs:=by
 rw[zpp h,hx];have h2:=zpo (f:=f) h;apply List.ext_getElem?
 intro j
 by_cases e:k=j
 ·subst e;rw[List.getElem?_set_self (Bk.1 h2).1,h2]
 rw[List.getElem?_set_ne e]
end
theorem zx0{V:Yw}{F:Nat->Prop}{A:Yo}{n c:Nat}{ps:List zae}(O:OS tP 67 V F (.slice A n c) ps){i:Nat}(hi:i<n)(a0:Int)(A1:Yo)(n1 c1:Nat)(A2:Yo)(n2 c2:Nat)(A3:Yo)(n3 c3:Nat):
 ∃(g:Nat) (z0 z1 z2 z3:Value),A=some ⟨g,0,none⟩/\F g/\g<V.heap.size/\V.cell? ⟨g,i*4,none⟩=some z0/\V.cell? ⟨g,i*4+1,none⟩=some z1/\V.cell? ⟨g,i*4+2,none⟩=some z2/\V.cell? ⟨g,i*4+3,none⟩=some z3/\V.frozen? ⟨g,i*4,none⟩=false/\V.frozen? ⟨g,i*4+1,none⟩=false/\V.frozen? ⟨g,i*4+2,none⟩=false/\V.frozen? ⟨g,i*4+3,none⟩=false/\
  ∃T,T=(((V.setCell ⟨g,i*4,none⟩ (.int .i64 a0)).setCell ⟨g,i*4+1,none⟩ (.slice A1 n1 c1)).setCell ⟨g,i*4+2,none⟩ (.slice A2 n2 c2)).setCell ⟨g,i*4+3,none⟩ (.slice A3 n3 c3)/\Chg (fun b=>b=g) V T/\T.heap.size=V.heap.size/\∀(Fe:Nat->Prop) y,tP.O V Fe [.int .i64 a0,.slice A1 n1 c1,.slice A2 n2 c2,.slice A3 n3 c3] y->(∀b,Fe b->¬F b)->OS tP 67 T (fun b=>F b\/Fe b) (.slice A n c) (ps.set i y):=by
 obtain rfl:ps.length=n:=O.read.cap.1;obtain⟨css,Fs,hole,cs,hcs,hE⟩:=O.openAt (Ak hi);generalize ps[i]=x at hE;obtain⟨k,a,b,l⟩:=x;obtain⟨B1,m1,d1,B2,m2,d2,B3,m3,d3,F1,F2,F3,rfl,-⟩:=tP_O.1 hE;obtain⟨g,rfl,hgF,hgn,hgl,-⟩:=hole.form hi;have k0:=hole.cell hcs (j:=0) rfl;have k1:=hole.cell hcs (j:=1) rfl;have k2:=hole.cell hcs (j:=2) rfl;have k3:=hole.cell hcs (j:=3) rfl;have s0:=hole.set hcs 0 (by decide) (.int .i64 a0);have s1:=s0.1.set s0.2 1 (by decide) (.slice A1 n1 c1);have s2:=s1.1.set s1.2 2 (by decide) (.slice A2 n2 c2);have s3:=s2.1.set s2.2 3 (by decide) (.slice A3 n3 c3);have hc:Chg (fun b=>b=g) V ((((V.setCell ⟨g,i*4,none⟩ (.int .i64 a0)).setCell ⟨g,i*4+1,none⟩ (.slice A1 n1 c1)).setCell ⟨g,i*4+2,none⟩ (.slice A2 n2 c2)).setCell ⟨g,i*4+3,none⟩ (.slice A3 n3 c3)):=(((Chg.set (F:=fun b=>b=g) _ g _ _ rfl).trans (Chg.set _ g _ _ rfl)).trans (Chg.set _ g _ _ rfl)).trans (Chg.set _ g _ _ rfl);refine⟨g,_,_,_,_,rfl,hgF,hgl,k0.1,k1.1,k2.1,k3.1,k0.2,k1.2,k2.2,k3.2,_,rfl,hc,by simp,fun Fe y hy hd=>?_⟩;exact s3.1.fill' s3.2 (y:=y) (tP.ochg hy (hc.wide (fun b (hb:b=g)=>by rw[hb];exact hgF)) hd) hd
structure BX6 (w:Yw) (g:Nat) (z0 z1 z2 z3 z4 z5:Value):Prop where
 c0:w.cell? ⟨g,0,none⟩=some z0
 c1:w.cell? ⟨g,1,none⟩=some z1
 c2:w.cell? ⟨g,2,none⟩=some z2
 c3:w.cell? ⟨g,3,none⟩=some z3
 c4:w.cell? ⟨g,4,none⟩=some z4
 c5:w.cell? ⟨g,5,none⟩=some z5
 fr:∀j,w.frozen? ⟨g,j,none⟩=false
 lt:g<w.heap.size
theorem BX6.new(w:Yw)(z0 z1 z2 z3 z4 z5:Value)(t:TypeId):BX6 (w.alloc (.cells #[z0,z1,z2,z3,z4,z5] t)) w.heap.size z0 z1 z2 z3 z4 z5:=by
 obtain⟨U,rfl,h1,h2,a0,a1,a2,a3,a4,a5,af⟩:=zcs w z0 z1 z2 z3 z4 z5 t;exact⟨a0,a1,a2,a3,a4,a5,af,by omega⟩
theorem BX6.chg{w w':Yw}{F:Nat->Prop}{g:Nat}{z0 z1 z2 z3 z4 z5:Value}(h:BX6 w g z0 z1 z2 z3 z4 z5)(hc:Chg F w w')(hn:¬F g):BX6 w' g z0 z1 z2 z3 z4 z5:=
 ⟨(hc.cell h.lt hn).trans h.c0,(hc.cell h.lt hn).trans h.c1,(hc.cell h.lt hn).trans h.c2,(hc.cell h.lt hn).trans h.c3,(hc.cell h.lt hn).trans h.c4,(hc.cell h.lt hn).trans h.c5,fun j=>(hc.frozen h.lt hn).trans (h.fr j),Cq h.lt hc.size⟩
theorem BX6.later{w w':Yw}{g:Nat}{z0 z1 z2 z3 z4 z5:Value}(h:BX6 w g z0 z1 z2 z3 z4 z5)(hb:Below w.heap.size w w'):BX6 w' g z0 z1 z2 z3 z4 z5:=h.chg (Chg.of_below hb (fun _=>False)) id
theorem BX6.set{w:Yw}{g:Nat}{z0 z1 z2 z3 z4 z5:Value}(h:BX6 w g z0 z1 z2 z3 z4 z5)(v0 v1 v2 v3 v4 v5:Value):∃U,U=(((((w.setCell ⟨g,0,none⟩ v0).setCell ⟨g,1,none⟩ v1).setCell ⟨g,2,none⟩ v2).setCell ⟨g,3,none⟩ v3).setCell ⟨g,4,none⟩ v4).setCell ⟨g,5,none⟩ v5/\BX6 U g v0 v1 v2 v3 v4 v5/\Chg (fun b=>b=g) w U/\U.heap.size=w.heap.size:=by
 obtain⟨U,hU,d0,d1,d2,d3,d4,d5,df,dch,dsz⟩:=box6 h.c0 h.c1 h.c2 h.c3 h.c4 h.c5 h.fr v0 v1 v2 v3 v4 v5;exact⟨U,hU,⟨d0,d1,d2,d3,d4,d5,df,by rw[dsz];exact h.lt⟩,dch,dsz⟩
theorem zx1(w:Yw)(z0 z1 z2 z3 z4 z5 y0 y1 y2 y3 y4 y5:Value)(t t':TypeId):∃W,W=(w.alloc (.cells #[z0,z1,z2,z3,z4,z5] t)).alloc (.cells #[y0,y1,y2,y3,y4,y5] t')/\Below w.heap.size w W/\W.heap.size=w.heap.size+2/\BX6 W w.heap.size z0 z1 z2 z3 z4 z5/\BX6 W (w.heap.size+1) y0 y1 y2 y3 y4 y5:=
 ⟨_,rfl,zaa (zar w _) (zar _ _),by simp,(BX6.new w z0 z1 z2 z3 z4 z5 t).later (zar _ _),by simpa using BX6.new (w.alloc (.cells #[z0,z1,z2,z3,z4,z5] t)) y0 y1 y2 y3 y4 y5 t'⟩
def zei (ND:NO->Nat->Bool) (NN:zae->Nat) (x:Sess):Sess×Int:=if zbd x then(zfd ND NN x,0)else(zig,1)
theorem zpq{p:zae}(h:zas p=true)(h0:p≠M.p0):∃R,M.WP p.2.1 (p.2.2.1,p.2.2.2) R/\p.2.2.2.length=1/\p.1=1:=by
 obtain⟨h1,h2,h3⟩:=zgy h h0;obtain⟨R,hW⟩:=zjb (zgu h1 h2) (zh6 h1);exact⟨R,hW,h3,h2⟩
end
set_option synthInstance.maxSize 2000
set_option synthInstance.maxHeartbeats 400000
theorem zx2{ND:NO->Nat->Bool}{NN:zae->Nat}(hND:∀p j,ND p j=true↔M.Rch p.1 p.2 j)(hNN:∀p:zae,zas p=true->p≠M.p0->zbs ND p.2.1 (zan ND p.2.1 (p.2.2.1,p.2.2.2) (NN p))=none)(a0:Int)(A1:Yo)(n1 c1:Nat)(A2:Yo)(n2 c2:Nat)(A3:Yo)(n3 c3:Nat)(A4:Yo)(n4 c4:Nat)(A5:Yo)(n5 c5:Nat)(x1:List (List Int))(x2:List (List zap))(x3:List Int)(x4:List zae)(x5:List zag)(w:Yw)(h1:tSS.R w w.heap.size [.slice A1 n1 c1] x1)(h2:tTS.R w w.heap.size [.slice A2 n2 c2] x2)(h3:tS.R w w.heap.size [.slice A3 n3 c3] x3)(h4:tPS.R w w.heap.size [.slice A4 n4 c4] x4)(h5:tM.R w w.heap.size [.slice A5 n5 c5] x5)(hn:hZ.sz ((a0,x1,x2,x3,x4,x5):Sess)<=100000000):
 Calls Tryz.prog 8 #[.agg #[.int .i64 a0,.slice A1 n1 c1,.slice A2 n2 c2,.slice A3 n3 c3,.slice A4 n4 c4,.slice A5 n5 c5]] w fun e w'=>∃q0 A1' n1' c1' A2' n2' c2' A3' n3' c3' A4' n4' c4' A5' n5' c5',e=.returned (.tuple #[.agg #[.int .i64 q0,.slice A1' n1' c1',.slice A2' n2' c2',.slice A3' n3' c3',.slice A4' n4' c4',.slice A5' n5' c5'],.int .i64 (zei ND NN (a0,x1,x2,x3,x4,x5)).2])/\tZ.O w' (Iv w.heap.size w'.heap.size) [.int .i64 q0,.slice A1' n1' c1',.slice A2' n2' c2',.slice A3' n3' c3',.slice A4' n4' c4',.slice A5' n5' c5'] (zei ND NN (a0,x1,x2,x3,x4,x5)).1/\Below w.heap.size w w':=by
 obtain⟨W,hW,B0,sW,PX,ZX⟩:=zx1 w (.int .i64 a0) (.slice A1 n1 c1) (.slice A2 n2 c2) (.slice A3 n3 c3) (.slice A4 n4 c4) (.slice A5 n5 c5) (.int .i64 0) (.slice none 0 0) (.slice none 0 0) (.slice none 0 0) (.slice none 0 0) (.slice none 0 0) 38 38;have HW:=Aq hW;have lW:w.heap.size+1<W.heap.size:=by omega
 have k1:=tSS.later h1 B0;have k2:=tTS.later h2 B0;have k3:=tS.later h3 B0;have k4:=tPS.later h4 B0;have k5:=tM.later h5 B0;have HND:=Aq hND;have HNN:=Aq hNN;have CS:=Aq (zgg a0 A1 n1 c1 A2 n2 c2 A3 n3 c3 A4 n4 c4 A5 n5 c5 x1 x2 x3 x4 x5 W k1 k2 k3 k4 k5 hn);clear hW sW h1 h2 h3 h4 h5 hND hNN;cases ho:zbd (a0,x1,x2,x3,x4,x5)
 ·rw[ho]at CS;have E1:=Aq (show zei ND NN (a0,x1,x2,x3,x4,x5)=(zig,1)by rw[zei,ho];rfl);clear ho;obtain⟨RR,hRR⟩:∃RR,zei ND NN (a0,x1,x2,x3,x4,x5)=RR:=⟨_,rfl⟩;rw[hRR]at E1 ⊢;clear hRR
  go_enter Tryz.func8,Tryz.ntmps8
  go_wp2_with fail;rw[<-HW.out];refine CS.out.mono ?_;rintro e w1 ⟨rfl,b1⟩;have s1:=b1.size;obtain⟨U,hU,ZU,chU,sU⟩:=(ZX.later b1).set (.int .i64 0) (.slice none 0 0) (.slice none 0 0) (.slice none 0 0) (.slice none 0 0) (.slice none 0 0);have HU:=Aq hU;have BU:=(zaa B0 b1).trans (chU.toBelow (fun b (hb:b=_)=>by omega) (by omega));obtain⟨q0,q1,q2,q3,q4,q5,qf,ql⟩:=ZX.later b1;have r0:=qf 0;have r1:=qf 1;have r2:=qf 2;have r3:=qf 3;have r4:=qf 4;have r5:=qf 5;obtain⟨d0,d1,d2,d3,d4,d5,df,dl⟩:=ZU;have f0:=df 0;have f1:=df 1;have f2:=df 2;have f3:=df 3;have f4:=df 4;have f5:=df 5;clear hU sU;go_wp2;rw[<-HU.out];refine Cy (v:=.tuple #[.agg #[.int .i64 0,.slice none 0 0,.slice none 0 0,.slice none 0 0,.slice none 0 0,.slice none 0 0],.int .i64 1]) (by simp[results,Tryz.results8,go_sem,d0,d1,d2,d3,d4,d5,f0,f1,f2,f3,f4,f5]) rfl ?_;rw[E1.out];exact⟨0,none,0,0,none,0,0,none,0,0,none,0,0,none,0,0,rfl,zpm _ _,BU⟩
 rw[ho]at CS;have E1:=Aq (show zei ND NN (a0,x1,x2,x3,x4,x5)=((a0,x1,x2,x3,x4.map (zbp ND NN),x5),0)by rw[zei,ho];rfl)
 have HEF:=Aq (show ∀q∈x4,zas q=true from fun q hq=>by
  rw[zbd]at ho;simp only[Cx,Ef]at ho;exact ho.2 q hq)
 have hN4:x4.length<=100000000:=by
  rw[zeb]at hn;have e:x4.length+hP.szL x4=hPS.sz x4:=rfl;omega
 clear ho;obtain⟨RR,hRR⟩:∃RR,zei ND NN (a0,x1,x2,x3,x4,x5)=RR:=⟨_,rfl⟩;rw[hRR]at E1 ⊢;clear hRR
 go_enter Tryz.func8,Tryz.ntmps8
 go_wp2_with fail;rw[<-HW.out];refine CS.out.mono ?_;rintro e w1 ⟨rfl,b1⟩;obtain⟨z0,z1,z2,z3,z4,z5,zf,zl⟩:=PX.later b1;go_wp2_with fail;refine(zoj a0 A1 n1 c1 A2 n2 c2 A3 n3 c3 A4 n4 c4 A5 n5 c5 x1 x2 x3 x4 x5 w1 (tSS.later k1 b1) (tTS.later k2 b1) (tS.later k3 b1) (tPS.later k4 b1) (tM.later k5 b1) hn).mono ?_;rintro e w2 ⟨A1',n1',c1',A2',n2',c2',A3',n3',c3',A4',n4',c4',A5',n5',c5',rfl,oz,b2⟩;have B2:=zaa b1 b2;have s1:=b1.size;have s2:=b2.size;obtain⟨_,_,_,_,_,_,_,_,_,_,_,_,_,_,_,F1,F2,F3,F4,F5,hcs,g1,g2,g3,g4,g5,i1,i2,i3,i4,i5,r1_2,r1_3,r1_4,r1_5,r2_3,r2_4,r2_5,r3_4,r3_5,r4_5⟩:=tZ_O.1 oz;simp only[List.cons.injEq,Cz,and_true,true_and]at hcs;obtain⟨⟨rfl,rfl,rfl⟩,⟨rfl,rfl,rfl⟩,⟨rfl,rfl,rfl⟩,⟨rfl,rfl,rfl⟩,⟨rfl,rfl,rfl⟩⟩:=hcs;obtain⟨V,hV⟩:∃V,V=w2.alloc (.cells #[.int .i64 a0,.slice A1' n1' c1',.slice A2' n2' c2',.slice A3' n3' c3',.slice A4' n4' c4',.slice A5' n5' c5'] 38):=⟨_,rfl⟩;have OX:BX6 V w2.heap.size (.int .i64 a0) (.slice A1' n1' c1') (.slice A2' n2' c2') (.slice A3' n3' c3') (.slice A4' n4' c4') (.slice A5' n5' c5'):=by rw[hV];exact BX6.new _ _ _ _ _ _ _ _
 have BV:Below w2.heap.size w2 V:=by rw[hV];exact zar _ _
 have HV:=Aq hV;have BWV:=zaa B2 BV;have ZV:=ZX.later BWV;have lV:=OX.lt;replace g1:=tSS.ochg g1 (Chg.of_below BV (fun _=>False)) (fun _ _ h=>h);replace g2:=tTS.ochg g2 (Chg.of_below BV (fun _=>False)) (fun _ _ h=>h);replace g3:=tS.ochg g3 (Chg.of_below BV (fun _=>False)) (fun _ _ h=>h);replace g4:=tPS.ochg g4 (Chg.of_below BV (fun _=>False)) (fun _ _ h=>h);replace g5:=tM.ochg g5 (Chg.of_below BV (fun _=>False)) (fun _ _ h=>h);have O4:=sl_O.1 g4;have L4:=Aq O4.read.cap.1;have hN4':n4'<=100000000:=by rw[<-L4.out];exact hN4
 have HG:=Aq (show ∀g,A4'=some ⟨g,0,none⟩->F4 g from fun g hg=>(O4.lt g (by rw[hg];rfl)).1);have NF:∀b,F4 b->W.heap.size<=b/\b<w2.heap.size:=fun b hb=>by have h1:=(i4 b hb).1;have h2:=(i4 b hb).2;omega
 have o4_:=OX.c4;clear hV oz g4 z0 z1 z2 z3 z4 z5 zf;go_upto_region 4 with fail
 rw[<-HV.out];go_wp2_with fail
 go_loopw [16] (fun j wr=>∃k:Nat,j=.int .i64 k/\k<=n4'/\OS tP 67 wr (fun b=>F4 b\/V.heap.size<=b) (.slice A4' n4' c4') (zdp (zbp ND NN) k x4)/\Chg F4 V wr) (fun j _=>n4'-(intOf j).toNat)
 case atStart=>exact⟨0,rfl,by omega,O4.wide (fun b hb=>.inl hb),Chg.refl _ _⟩
 case round=>
  obtain⟨k,rfl,hk,own,ch⟩:=hrel;have sr:=ch.size
  by_cases hlt:k<n4'
  ·have X:=Aq (Ak (show k<x4.length by rw[L4.out];exact hlt));generalize x4[k]'(by rw[L4.out];exact hlt)=pt at X;have hef:=HEF.out pt (Eg X.out);obtain⟨b,o,c,cs,hv,hb,-,hE,hc⟩:=own.read.atX (zpo (f:=zbp ND NN) X.out);rw[zxy,L4.out]at hv;simp only[Cz,true_and]at hv;obtain⟨rfl,rfl⟩:=hv;have SU:=Aq (zpp (f:=zbp ND NN) X.out);have SK:=Aq (zxz (f:=zbp ND NN) X.out);obtain⟨a,t,ns,os⟩:=pt;obtain⟨B1',m1,d1,B2',m2,d2,B3',m3,d3,rfl,y1,y2,y3⟩:=tP_R.1 hE;have e0:=hc 0 _ rfl;have e1:=hc 1 _ rfl;have e2:=hc 2 _ rfl;have e3:=hc 3 _ rfl;change wr.cell? ⟨b,o+k*4+0,none⟩=_ at e0;change wr.cell? ⟨b,o+k*4+1,none⟩=_ at e1;change wr.cell? ⟨b,o+k*4+2,none⟩=_ at e2;change wr.cell? ⟨b,o+k*4+3,none⟩=_ at e3;rw[Nat.add_zero]at e0;obtain⟨Q,hQ⟩:∃Q,Q=wr.alloc (.cells #[.int .i64 a,.slice B1' m1 d1,.slice B2' m2 d2,.slice B3' m3 d3] 67):=⟨_,rfl⟩;have BQ:Below wr.heap.size wr Q:=(by rw[hQ];exact zar _ _);have QX:BX Q wr.heap.size (.int .i64 a) (.slice B1' m1 d1) (.slice B2' m2 d2) (.slice B3' m3 d3):=(by rw[hQ];exact BX.new _ _ _ _ _ _);have HQ:=Aq hQ;have hkn:(k:Int)<(n4':Int):=(by omega)
   have hsz:hP.sz ((a,t,ns,os):zae)<=100000000:=by
    have:=hP.szL_at X.out;rw[zeb]at hn;have e:x4.length+hP.szL x4=hPS.sz x4:=rfl;omega
   have CE:=Aq (zga a B1' m1 d1 B2' m2 d2 B3' m3 d3 t ns os Q (tSS.later y1 BQ) (tNS.later y2 BQ) (tS.later y3 BQ) hsz);clear hQ hc hE
   by_cases he:((a,t,ns,os):zae)=M.p0
   ·rw[Dx he]at CE;have E:=Aq (SK.out (by rw[he,zbp,if_pos rfl]));clear he;go_wp2_with fail;rw[<-HQ.out];refine CE.out.mono ?_;rintro e w3 ⟨rfl,b3⟩;go_wp2_with fail;go_roundw
    case rel=>exact⟨k+1,by go_num,by omega,by rw[E.out];exact own.real.chg (Chg.of_below (zaa BQ b3) (fun _=>False)) (fun _ _ h=>h) |>.wide (fun x hx=>hx.1),ch.trans (Chg.of_below (zaa BQ b3) _)⟩
    case measure=>simp[intOf];omega
   rw[Dz he]at CE;obtain⟨R,hW_,ho1,-⟩:=zpq hef he;obtain⟨N,hN1,hN⟩:=zuf HND.out hW_;have hS:=zog (HNN.out _ hef he) hN;obtain⟨pt',hpt⟩:∃pt':zae,pt'=(a,t,(zbw (ND (zan ND t (ns,os) N)) (zan ND t (ns,os) N)).1,(zbw (ND (zan ND t (ns,os) N)) (zan ND t (ns,os) N)).2):=⟨_,rfl⟩
   have EP:zbp ND NN (a,t,ns,os)=pt':=by
    rw[zbp,if_neg he,zeh,hpt];show (a,t,(zbw (ND (zan ND t (ns,os) (NN (a,t,ns,os)))) (zan ND t (ns,os) (NN (a,t,ns,os)))).1,_)=_
    rw[hS]
   have CO:=Aq (fun W' (B':Below wr.heap.size wr W')=>zwq hW_ (by show os.length<=1000;replace ho1:os.length=1:=ho1;omega) HND.out hN1 hN a B1' m1 d1 B2' m2 d2 B3' m3 d3 (tSS.later y1 B') (tNS.later y2 B') (tS.later y3 B'));dsimp only at CO;rw[<-hpt]at CO;have SE:=Aq (show zdp (zbp ND NN) (k+1) x4=(zdp (zbp ND NN) k x4).set k pt' by rw[SU.out,EP]);clear hS EP hN hpt hW_ ho1 hN1 he;have ownR:=own.real;have O4w:=OX.chg ch (fun hf=>by have:=NF _ hf;omega);have ltw:=O4w.lt;go_wp2_with fail;rw[<-HQ.out];refine CE.out.mono ?_;rintro e w3 ⟨rfl,b3⟩;have Bq:=zaa BQ b3;have s3:=b3.size;have sq:=BQ.size;have x4_:=(O4w.later Bq).c4;obtain⟨p0,p1,p2,p3,pf,pl⟩:=QX.later b3;have gx4:=Ag x4_;have gp0:=Ag p0;have gp1:=Ag p1;have gp2:=Ag p2;have gp3:=Ag p3;have D3:Below wr.heap.size wr w3.drew:=zad Bq 1;clear x4_ p0 p1 p2 p3 pf;go_wp2_with fail
   (refine zct [0,2] [1,3] 5 (.one 4 (.first 5 (.first 6 (.first 7 (.first 8 .rest))))) [9] [9] (by kernel_rfl) (by kernel_rfl) ?_;simp only[zak];simp only[List.filterMap,By,Bg];(repeat (go_big_quiet_step (fail)));refine Cv ?_;(repeat (go_big_quiet_step (fail)));refine Cv ?_)
   refine zai rfl ?_;go_wp2_with fail;refine(CO.out w3.drew D3).mono ?_;rintro e w5 ⟨B1'',m1',d1',B2'',m2',d2',B3'',m3',d3',lv,rfl,oe,b5⟩;have B5:=zaa D3 b5;have s5:=b5.size;have sd:w3.drew.heap.size=w3.heap.size:=rfl;go_wp2_with fail;refine⟨Bz (zaa (zad (Aw _ _) 1) b5),?_⟩;obtain⟨g,z0_,z1_,z2_,z3_,hgA,hgF,hgl,ec0,ec1,ec2,ec3,er0,er1,er2,er3,T,hT,chT,sT,RD⟩:=zx0 (ownR.chg (Chg.of_below B5 (fun _=>False)) (fun _ _ h=>h)) (show k<n4' from hlt) a B1'' m1' d1' B2'' m2' d2' B3'' m3' d3';simp only[Dq,Addr.mk.injEq]at hgA;obtain⟨rfl,rfl,-⟩:=hgA;have hF4g:=HG.out b rfl;have HT:=Aq hT;clear hT
   (refine za6 rfl ?_;(repeat (go_big_quiet_step (fail)));refine Cv ?_)
   (refine za6 rfl ?_;(repeat (go_big_quiet_step (fail)));refine Cv ?_)
   (refine za6 rfl ?_;(repeat (go_big_quiet_step (fail)));refine Cv ?_)
   (refine za6 rfl ?_;(repeat (go_big_quiet_step (fail)));refine Cv ?_)
   refine zbc ?_;go_wp2_with fail;rw[<-HT.out];go_roundw
   case rel=>
    have h3:=RD _ _ oe (fun b hb hf=>by have h1:=hb.1;have h2:=hf.2;omega);exact⟨k+1,by go_num,by omega,by rw[SE.out];exact h3.wide (fun x hx=>hx.elim (fun h=>h.1) (fun h=>.inr (by have:=h.1;omega))),(ch.trans (Chg.of_below B5 _)).trans (chT.wide (fun x (hx:x=b)=>by rw[hx];exact hF4g))⟩
   case measure=>simp[intOf];omega
  obtain rfl:k=n4':=by omega
  have eA:=zxx (f:=zbp ND NN) (k:=k) (xs:=x4) (by rw[L4.out];omega);rw[eA]at own;obtain⟨U,hU,ZU,chU,sU⟩:=(ZV.chg ch (fun hf=>by have:=NF _ hf;omega)).set (.int .i64 a0) (.slice A1' n1' c1') (.slice A2' n2' c2') (.slice A3' n3' c3') (.slice A4' k c4') (.slice A5' n5' c5');have HU:=Aq hU;have Bvw:=BWV.trans (ch.toBelow (fun x hx=>(NF x hx).1) (by omega));have BU:Below w.heap.size w U:=(B0.trans (Bvw.mono (by omega))).trans (chU.toBelow (fun b (hb:b=_)=>by omega) (by omega));have no:∀b,W.heap.size<=b->¬b=w.heap.size+1:=fun b hb e=>by omega
  have OZ:=Aq (show tZ.O U (Iv w.heap.size U.heap.size) [.int .i64 a0,.slice A1' n1' c1',.slice A2' n2' c2',.slice A3' n3' c3',.slice A4' k c4',.slice A5' n5' c5'] (a0,x1,x2,x3,x4.map (zbp ND NN),x5)from
   tZ_O.2 ⟨_,_,_,_,_,_,_,_,_,_,_,_,_,_,_,F1,F2,F3,(fun b=>(F4 b\/V.heap.size<=b)/\b<wr.heap.size),F5,rfl,
    tSS.ochg (tSS.ochg g1 ch (fun b h h2=>r1_4 b h h2)) chU (fun b hb=>no b (by have:=i1 b hb;have:=this.1;omega)),
    tTS.ochg (tTS.ochg g2 ch (fun b h h2=>r2_4 b h h2)) chU (fun b hb=>no b (by have:=i2 b hb;have:=this.1;omega)),
    tS.ochg (tS.ochg g3 ch (fun b h h2=>r3_4 b h h2)) chU (fun b hb=>no b (by have:=i3 b hb;have:=this.1;omega)),
    tPS.ochg (sl_O.2 own.real) chU (fun b hb=>no b (by have h1:=hb.1;rcases h1 with h1|h1;have:=(NF b h1).1;omega;omega)),
    tM.ochg (tM.ochg g5 ch (fun b h h2=>r4_5 b h2 h)) chU (fun b hb=>no b (by have:=i5 b hb;have:=this.1;omega)),
    fun b hb=>Iv.mono (by omega) (by omega) b (i1 b hb),fun b hb=>Iv.mono (by omega) (by omega) b (i2 b hb),fun b hb=>Iv.mono (by omega) (by omega) b (i3 b hb),fun b hb=>⟨by have h1:=hb.1;rcases h1 with h1|h1;have:=(NF b h1).1;omega;omega,by have:=hb.2;omega⟩,fun b hb=>Iv.mono (by omega) (by omega) b (i5 b hb),
    r1_2,r1_3,(fun b h h2=>h2.1.elim (fun h3=>r1_4 b h h3) (fun h3=>by have:=(i1 b h).2;omega)),r1_5,r2_3,(fun b h h2=>h2.1.elim (fun h3=>r2_4 b h h3) (fun h3=>by have:=(i2 b h).2;omega)),r2_5,(fun b h h2=>h2.1.elim (fun h3=>r3_4 b h h3) (fun h3=>by have:=(i3 b h).2;omega)),r3_5,(fun b h2 h=>h2.1.elim (fun h3=>r4_5 b h3 h) (fun h3=>by have:=(i5 b h).2;omega))⟩)
  obtain⟨o0,o1,o2,o3,o4,o5,of_,ol⟩:=OX.chg ch (fun hf=>by have:=NF _ hf;omega);obtain⟨t0,t1,t2,t3,t4,t5,tf,tl⟩:=ZV.chg ch (fun hf=>by have:=NF _ hf;omega);have u0:=tf 0;have u1:=tf 1;have u2:=tf 2;have u3:=tf 3;have u4:=tf 4;have u5:=tf 5;obtain⟨d0,d1,d2,d3,d4,d5,df,dl⟩:=ZU;have f0:=df 0;have f1:=df 1;have f2:=df 2;have f3:=df 3;have f4:=df 4;have f5:=df 5;clear hU sU;go_wp2_with fail;rw[<-HU.out];refine Cy (v:=.tuple #[.agg #[.int .i64 a0,.slice A1' n1' c1',.slice A2' n2' c2',.slice A3' n3' c3',.slice A4' k c4',.slice A5' n5' c5'],.int .i64 0]) (by simp[results,Tryz.results8,go_sem,d0,d1,d2,d3,d4,d5,f0,f1,f2,f3,f4,f5]) rfl ?_;rw[E1.out];exact⟨a0,_,_,_,_,_,_,_,_,_,_,_,_,_,_,_,rfl,OZ.out,BU⟩
end Go.Proofs.YtifeldeikhmckaaGreat
