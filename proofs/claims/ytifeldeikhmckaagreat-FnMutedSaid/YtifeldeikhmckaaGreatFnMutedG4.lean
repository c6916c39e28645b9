import Derived.Test.YtifeldeikhmckaaGreatFnMutedG3
import Derived.Lib.QuietBelow
import Derived.Test.YtifeldeikhmckaaGreatFnMutedG1
import Derived.Test.YtifeldeikhmckaaGreatFnMutedG2
import Derived.StillTailTactics
import Derived.Deep.QuietTactic
set_option linter.unusedVariables false
set_option linter.unusedSimpArgs false
set_option maxRecDepth 100000
set_option maxHeartbeats 4000000
namespace Go.Proofs.YtifeldeikhmckaaGreat
open Go.RowKit Go.Sort
abbrev Ek := @World.cell?_of_block
set_option synthInstance.maxSize 2000
set_option synthInstance.maxHeartbeats 400000
theorem zsb(a0 b0:Int)(A1:Yo)(n1 c1:Nat)(B1:Yo)(m1 d1:Nat)(A2:Yo)(n2 c2:Nat)(B2:Yo)(m2 d2:Nat)(A3:Yo)(n3 c3:Nat)(B3:Yo)(m3 d3:Nat)(x1 y1:List (List Int))(x2 y2:List Node)(x3 y3:List Int)(w:Yw)(h1:tSS.R w w.heap.size [.slice A1 n1 c1] x1)(k1:tSS.R w w.heap.size [.slice B1 m1 d1] y1)(h2:tNS.R w w.heap.size [.slice A2 n2 c2] x2)(k2:tNS.R w w.heap.size [.slice B2 m2 d2] y2)(h3:tS.R w w.heap.size [.slice A3 n3 c3] x3)(k3:tS.R w w.heap.size [.slice B3 m3 d3] y3)(hn:hP.sz ((a0,x1,x2,x3):zae)<=100000000)(hn2:hP.sz ((b0,y1,y2,y3):zae)<=100000000):
 Calls Tryz.prog 93 #[.agg #[.int .i64 a0,.slice A1 n1 c1,.slice A2 n2 c2,.slice A3 n3 c3],.agg #[.int .i64 b0,.slice B1 m1 d1,.slice B2 m2 d2,.slice B3 m3 d3]] w fun e w'=>e=.returned (.bool (decide (((a0,x1,x2,x3):zae)=(b0,y1,y2,y3))))/\Below w.heap.size w w':=by
 obtain⟨W,hW⟩:∃W,W=(w.alloc (.cells #[.int .i64 a0,.slice A1 n1 c1,.slice A2 n2 c2,.slice A3 n3 c3] 67)).alloc (.cells #[.int .i64 b0,.slice B1 m1 d1,.slice B2 m2 d2,.slice B3 m3 d3] 67):=⟨_,rfl⟩;have B0:Below w.heap.size w W:=by rw[hW];exact((Aw _ _).alloc (Aj _) _).alloc (by simp) _
 have p0:W.cell? ⟨w.heap.size,0,none⟩=some (.int .i64 a0):=by rw[hW];simp[go_sem]
 have q0:W.cell? ⟨w.heap.size+1,0,none⟩=some (.int .i64 b0):=by rw[hW];simp[go_sem]
 have p1:W.cell? ⟨w.heap.size,1,none⟩=some (.slice A1 n1 c1):=by rw[hW];simp[go_sem]
 have q1:W.cell? ⟨w.heap.size+1,1,none⟩=some (.slice B1 m1 d1):=by rw[hW];simp[go_sem]
 have p2:W.cell? ⟨w.heap.size,2,none⟩=some (.slice A2 n2 c2):=by rw[hW];simp[go_sem]
 have q2:W.cell? ⟨w.heap.size+1,2,none⟩=some (.slice B2 m2 d2):=by rw[hW];simp[go_sem]
 have p3:W.cell? ⟨w.heap.size,3,none⟩=some (.slice A3 n3 c3):=by rw[hW];simp[go_sem]
 have q3:W.cell? ⟨w.heap.size+1,3,none⟩=some (.slice B3 m3 d3):=by rw[hW];simp[go_sem]
 have lx:w.heap.size+1<W.heap.size:=by rw[hW];simp
 have HW:=Aq hW;have r1:=tSS.later h1 B0;have s1:=tSS.later k1 B0;have X1:=Aq (sl_R.1 h1).cap.1;have Y1:=Aq (sl_R.1 k1).cap.1;have r2:=tNS.later h2 B0;have s2:=tNS.later k2 B0;have X2:=Aq (sl_R.1 h2).cap.1;have Y2:=Aq (sl_R.1 k2).cap.1;have r3:=tS.later h3 B0;have s3:=tS.later k3 B0;have X3:=Aq (sl_R.1 h3).cap.1;have Y3:=Aq (sl_R.1 k3).cap.1;rw[zea]at hn hn2;have z1:hSS.sz x1<=100000000:=by omega
 have v1:hSS.sz y1<=100000000:=by omega
 have bn1:n1<=100000000:=by have e:x1.length+hS.szL x1=hSS.sz x1:=rfl;have:=X1.out;omega
 have z2:hNS.sz x2<=100000000:=by omega
 have v2:hNS.sz y2<=100000000:=by omega
 have bn2:n2<=100000000:=by have e:x2.length+hN.szL x2=hNS.sz x2:=rfl;have:=X2.out;omega
 have z3:hS.sz x3<=100000000:=by omega
 have v3:hS.sz y3<=100000000:=by omega
 have bn3:n3<=100000000:=by have e:x3.length+hI.szL x3=hS.sz x3:=rfl;have:=X3.out;omega
 clear hW hn hn2 h1 k1 h2 k2 h3 k3
 by_cases e0:¬a0=b0
 ·have g0:(a0 != b0)=true:=by simpa using e0
  have R:=Aq (show decide (((a0,x1,x2,x3):zae)=(b0,y1,y2,y3))=false by rw[Fy];intro e;simp only[Prod.mk.injEq]at e;exact e0 e.1)
  go_enter Tryz.func93,Tryz.ntmps93
  go_wp2_with fail
  try rw[<-HW.out]
  go_ret;exact⟨zac (by rw[R.out]),B0⟩
 replace e0:a0=b0:=Dy.1 e0;subst e0
 go_enter Tryz.func93,Tryz.ntmps93
 go_wp2_with fail;rw[<-HW.out]
 by_cases e1:¬x1=y1
 ·have HD:=Aq (Dz e1);have R:=Aq (show decide (((a0,x1,x2,x3):zae)=(a0,y1,y2,y3))=false by rw[Fy];intro e;simp only[Prod.mk.injEq]at e;exact e1 e.2.1);refine(zmx _ _ _ _ _ _ _ _ _ r1 s1 z1).mono ?_;rw[HD.out];rintro e u1 ⟨rfl,bel1⟩;go_wp2;go_ret;exact⟨zac (by rw[R.out]),zaa B0 bel1⟩
 replace e1:x1=y1:=Dy.1 e1;have E1:=Aq e1;have HD1:=Aq (Dx e1);clear e1;refine(zmx _ _ _ _ _ _ _ _ _ r1 s1 z1).mono ?_;rw[HD1.out];rintro e w1 ⟨rfl,bel1⟩;have lx_w1:=Cq lx bel1.size;have B_w1:=zaa B0 bel1;have p0_w1:w1.cell? ⟨w.heap.size,0,none⟩=some (.int .i64 a0):=by rw[bel1.cell (by show w.heap.size<_;have:=lx;omega)];exact p0
 have q0_w1:w1.cell? ⟨w.heap.size+1,0,none⟩=some (.int .i64 a0):=by rw[bel1.cell (by show w.heap.size+1<_;have:=lx;omega)];exact q0
 have p1_w1:w1.cell? ⟨w.heap.size,1,none⟩=some (.slice A1 n1 c1):=by rw[bel1.cell (by show w.heap.size<_;have:=lx;omega)];exact p1
 have q1_w1:w1.cell? ⟨w.heap.size+1,1,none⟩=some (.slice B1 m1 d1):=by rw[bel1.cell (by show w.heap.size+1<_;have:=lx;omega)];exact q1
 have p2_w1:w1.cell? ⟨w.heap.size,2,none⟩=some (.slice A2 n2 c2):=by rw[bel1.cell (by show w.heap.size<_;have:=lx;omega)];exact p2
 have q2_w1:w1.cell? ⟨w.heap.size+1,2,none⟩=some (.slice B2 m2 d2):=by rw[bel1.cell (by show w.heap.size+1<_;have:=lx;omega)];exact q2
 have p3_w1:w1.cell? ⟨w.heap.size,3,none⟩=some (.slice A3 n3 c3):=by rw[bel1.cell (by show w.heap.size<_;have:=lx;omega)];exact p3
 have q3_w1:w1.cell? ⟨w.heap.size+1,3,none⟩=some (.slice B3 m3 d3):=by rw[bel1.cell (by show w.heap.size+1<_;have:=lx;omega)];exact q3
 have r1_w1:=tSS.later r1 bel1;have s1_w1:=tSS.later s1 bel1;have r2_w1:=tNS.later r2 bel1;have s2_w1:=tNS.later s2 bel1;have r3_w1:=tS.later r3 bel1;have s3_w1:=tS.later s3 bel1;clear p0 q0 p1 q1 p2 q2 p3 q3 r1 s1 r2 s2 r3 s3;go_wp2_with fail
 by_cases e3:¬x3=y3
 ·have HD:=Aq (Dz e3);have R:=Aq (show decide (((a0,x1,x2,x3):zae)=(a0,y1,y2,y3))=false by rw[Fy];intro e;simp only[Prod.mk.injEq]at e;exact e3 e.2.2.2);refine(zhz _ _ _ _ _ _ _ _ _ (tS_R.1 r3_w1).ri (tS_R.1 s3_w1).ri (by omega)).mono ?_;rw[HD.out];rintro e u1 ⟨rfl,bel1⟩;go_wp2;go_ret;exact⟨zac (by rw[R.out]),zaa B_w1 bel1⟩
 replace e3:x3=y3:=Dy.1 e3;have E3:=Aq e3;have HD2:=Aq (Dx e3);clear e3;refine(zhz _ _ _ _ _ _ _ _ _ (tS_R.1 r3_w1).ri (tS_R.1 s3_w1).ri (by omega)).mono ?_;rw[HD2.out];rintro e w2 ⟨rfl,bel2⟩;have lx_w2:=Cq lx_w1 bel2.size;have B_w2:=zaa B_w1 bel2;have p0_w2:w2.cell? ⟨w.heap.size,0,none⟩=some (.int .i64 a0):=by rw[bel2.cell (by show w.heap.size<_;have:=lx_w1;omega)];exact p0_w1
 have q0_w2:w2.cell? ⟨w.heap.size+1,0,none⟩=some (.int .i64 a0):=by rw[bel2.cell (by show w.heap.size+1<_;have:=lx_w1;omega)];exact q0_w1
 have p1_w2:w2.cell? ⟨w.heap.size,1,none⟩=some (.slice A1 n1 c1):=by rw[bel2.cell (by show w.heap.size<_;have:=lx_w1;omega)];exact p1_w1
 have q1_w2:w2.cell? ⟨w.heap.size+1,1,none⟩=some (.slice B1 m1 d1):=by rw[bel2.cell (by show w.heap.size+1<_;have:=lx_w1;omega)];exact q1_w1
 have p2_w2:w2.cell? ⟨w.heap.size,2,none⟩=some (.slice A2 n2 c2):=by rw[bel2.cell (by show w.heap.size<_;have:=lx_w1;omega)];exact p2_w1
 have q2_w2:w2.cell? ⟨w.heap.size+1,2,none⟩=some (.slice B2 m2 d2):=by rw[bel2.cell (by show w.heap.size+1<_;have:=lx_w1;omega)];exact q2_w1
 have p3_w2:w2.cell? ⟨w.heap.size,3,none⟩=some (.slice A3 n3 c3):=by rw[bel2.cell (by show w.heap.size<_;have:=lx_w1;omega)];exact p3_w1
 have q3_w2:w2.cell? ⟨w.heap.size+1,3,none⟩=some (.slice B3 m3 d3):=by rw[bel2.cell (by show w.heap.size+1<_;have:=lx_w1;omega)];exact q3_w1
 have r1_w2:=tSS.later r1_w1 bel2;have s1_w2:=tSS.later s1_w1 bel2;have r2_w2:=tNS.later r2_w1 bel2;have s2_w2:=tNS.later s2_w1 bel2;have r3_w2:=tS.later r3_w1 bel2;have s3_w2:=tS.later s3_w1 bel2;clear p0_w1 q0_w1 p1_w1 q1_w1 p2_w1 q2_w1 p3_w1 q3_w1 r1_w1 s1_w1 r2_w1 s2_w1 r3_w1 s3_w1
 by_cases e2:¬n2=m2
 ·have g2:((n2:Int) != (m2:Int))=true:=by simp;omega
  have R:=Aq (show decide (((a0,x1,x2,x3):zae)=(a0,y1,y2,y3))=false by rw[Fy];intro e;simp only[Prod.mk.injEq]at e;exact e2 (by rw[<-X2.out,<-Y2.out,e.2.2.1]));go_wp2_with fail;go_ret;exact⟨zac (by rw[R.out]),B_w2⟩
 replace e2:n2=m2:=Dy.1 e2;subst e2;go_wp2
 go_loopw [5,6,40] (fun _ _ i wr=>∃k:Nat,i=.int .i64 k/\k<=n2/\Hid (x2.take k=y2.take k)/\Below w2.heap.size w2 wr) (fun _ _ i _=>n2-(intOf i).toNat)
 case atStart=>exact⟨0,rfl,by omega,Aq (by simp),Aw _ _⟩
 case round=>
  obtain⟨k,rfl,hk,H,hb0⟩:=hrel;obtain⟨wo0,rfl⟩:∃wo:Yw,wo=wr:=⟨_,rfl⟩;have lx_wo0:=Cq lx_w2 hb0.size;have B_wo0:=zaa B_w2 hb0;have p0_wo0:wo0.cell? ⟨w.heap.size,0,none⟩=some (.int .i64 a0):=by rw[hb0.cell (by show w.heap.size<_;have:=lx_w2;omega)];exact p0_w2
  have q0_wo0:wo0.cell? ⟨w.heap.size+1,0,none⟩=some (.int .i64 a0):=by rw[hb0.cell (by show w.heap.size+1<_;have:=lx_w2;omega)];exact q0_w2
  have p1_wo0:wo0.cell? ⟨w.heap.size,1,none⟩=some (.slice A1 n1 c1):=by rw[hb0.cell (by show w.heap.size<_;have:=lx_w2;omega)];exact p1_w2
  have q1_wo0:wo0.cell? ⟨w.heap.size+1,1,none⟩=some (.slice B1 m1 d1):=by rw[hb0.cell (by show w.heap.size+1<_;have:=lx_w2;omega)];exact q1_w2
  have p2_wo0:wo0.cell? ⟨w.heap.size,2,none⟩=some (.slice A2 n2 c2):=by rw[hb0.cell (by show w.heap.size<_;have:=lx_w2;omega)];exact p2_w2
  have q2_wo0:wo0.cell? ⟨w.heap.size+1,2,none⟩=some (.slice B2 n2 d2):=by rw[hb0.cell (by show w.heap.size+1<_;have:=lx_w2;omega)];exact q2_w2
  have p3_wo0:wo0.cell? ⟨w.heap.size,3,none⟩=some (.slice A3 n3 c3):=by rw[hb0.cell (by show w.heap.size<_;have:=lx_w2;omega)];exact p3_w2
  have q3_wo0:wo0.cell? ⟨w.heap.size+1,3,none⟩=some (.slice B3 m3 d3):=by rw[hb0.cell (by show w.heap.size+1<_;have:=lx_w2;omega)];exact q3_w2
  have r1_wo0:=tSS.later r1_w2 hb0;have s1_wo0:=tSS.later s1_w2 hb0;have r2_wo0:=tNS.later r2_w2 hb0;have s2_wo0:=tNS.later s2_w2 hb0;have r3_wo0:=tS.later r3_w2 hb0;have s3_wo0:=tS.later s3_w2 hb0;clear p0_w2 q0_w2 p1_w2 q1_w2 p2_w2 q2_w2 p3_w2 q3_w2 r1_w2 s1_w2 r2_w2 s2_w2 r3_w2 s3_w2
  by_cases hlt:k<n2
  ·have hX:=Aq (Ak (l:=x2) (i:=k) (by rw[X2.out];exact hlt));have hY:=Aq (Ak (l:=y2) (i:=k) (by rw[Y2.out];exact hlt));obtain⟨b,o1,cc,cs,hv,hab,-,hE,hcc⟩:=(sl_R.1 r2_wo0).atX hX.out;obtain⟨b',o2,cc',cs',hv',hab',-,hE',hdd⟩:=(sl_R.1 s2_wo0).atX hY.out;simp only[Cz]at hv hv';obtain⟨rfl,-,rfl⟩:=hv;obtain⟨rfl,-,rfl⟩:=hv';have hU:=hN.szL_at hX.out;have hV:=hN.szL_at hY.out;generalize x2[k]'(by rw[X2.out];exact hlt)=x at hX hE hU;generalize y2[k]'(by rw[Y2.out];exact hlt)=y at hY hE' hV;have zz:x2.length+hN.szL x2=hNS.sz x2:=rfl;have zv:y2.length+hN.szL y2=hNS.sz y2:=rfl;have zx:hN.sz x<=100000000:=(by omega);have zy:hN.sz y<=100000000:=(by omega);clear zz zv hU hV;obtain⟨ua0,ua1,ua2,ua3⟩:=x;obtain⟨ub0,ub1,ub2,ub3⟩:=y;obtain⟨Ae3,ne3,ce3,rfl,hE3⟩:=tN_R.1 hE;obtain⟨Be3,me3,de3,rfl,hG3⟩:=tN_R.1 hE';have e0:wo0.cell? ⟨b,o1+k*4,none⟩=some (.int .i64 ua0):=hcc 0 _ rfl;have f0:wo0.cell? ⟨b',o2+k*4,none⟩=some (.int .i64 ub0):=hdd 0 _ rfl;have e1:wo0.cell? ⟨b,o1+k*4+1,none⟩=some (.int .i64 ua1):=hcc 1 _ rfl;have f1:wo0.cell? ⟨b',o2+k*4+1,none⟩=some (.int .i64 ub1):=hdd 1 _ rfl;have e2:wo0.cell? ⟨b,o1+k*4+2,none⟩=some (.int .i64 ua2):=hcc 2 _ rfl;have f2:wo0.cell? ⟨b',o2+k*4+2,none⟩=some (.int .i64 ub2):=hdd 2 _ rfl;have e3:wo0.cell? ⟨b,o1+k*4+3,none⟩=some (.slice Ae3 ne3 ce3):=hcc 3 _ rfl;have f3:wo0.cell? ⟨b',o2+k*4+3,none⟩=some (.slice Be3 me3 de3):=hdd 3 _ rfl;clear hcc hdd;obtain⟨U,hU⟩:∃U,U=wo0.alloc (.cells #[.int .i64 ua0,.int .i64 ua1,.int .i64 ua2,.slice Ae3 ne3 ce3] 169):=⟨_,rfl⟩;have G0:Below wo0.heap.size wo0 U:=(by rw[hU];exact(Aw _ _).alloc (Aj _) _);have sU:wo0.heap.size<U.heap.size:=(by rw[hU];simp);have g0:U.cell? ⟨wo0.heap.size,0,none⟩=some (.int .i64 ua0):=(by rw[hU,cell_of_row _ wo0.heap.size 0 _ 169 (0,0) (Df wo0 _)];rfl);have l0:U.cell? ⟨b',o2+k*4,none⟩=some (.int .i64 ub0):=(by rw[G0.cell hab'];exact f0);have g1:U.cell? ⟨wo0.heap.size,1,none⟩=some (.int .i64 ua1):=(by rw[hU,cell_of_row _ wo0.heap.size 1 _ 169 (0,0) (Df wo0 _)];rfl);have l1:U.cell? ⟨b',o2+k*4+1,none⟩=some (.int .i64 ub1):=(by rw[G0.cell hab'];exact f1);have g2:U.cell? ⟨wo0.heap.size,2,none⟩=some (.int .i64 ua2):=(by rw[hU,cell_of_row _ wo0.heap.size 2 _ 169 (0,0) (Df wo0 _)];rfl);have l2:U.cell? ⟨b',o2+k*4+2,none⟩=some (.int .i64 ub2):=(by rw[G0.cell hab'];exact f2);have g3:U.cell? ⟨wo0.heap.size,3,none⟩=some (.slice Ae3 ne3 ce3):=(by rw[hU,cell_of_row _ wo0.heap.size 3 _ 169 (0,0) (Df wo0 _)];rfl);have l3:U.cell? ⟨b',o2+k*4+3,none⟩=some (.slice Be3 me3 de3):=(by rw[G0.cell hab'];exact f3);have qq:U.cell? ⟨w.heap.size+1,2,none⟩=some (.slice (some ⟨b',o2,none⟩) n2 d2):=(by rw[G0.cell lx_wo0];exact q2_wo0);have HU:=Aq hU;clear hU;replace hE3:=tS.later hE3 G0;replace hG3:=tS.later hG3 G0;rw[ziu,zb3]at zx zy;have nb:ne3<=1000000000:=(by have:=zcu hE3;omega);have rg0:=Ag g0;have rl0:=Ag l0;have rg1:=Ag g1;have rl1:=Ag l1;have rg2:=Ag g2;have rl2:=Ag l2;have rg3:=Ag g3;have rl3:=Ag l3;have rqq:=Ag qq;have cP:∀d os,Calls Tryz.prog 149 #[.agg #[.int .i64 ua0,.int .i64 ua1,.int .i64 ua2,.slice Ae3 ne3 ce3],.agg #[.int .i64 ub0,.int .i64 ub1,.int .i64 ub2,.slice Be3 me3 de3]] (grow (redrawn U d) os) fun e w''=>e=.returned (.bool (decide (((ua0,ua1,ua2,ua3):Node)=(ub0,ub1,ub2,ub3))))/\∃p:Regrown,w''=grow (redrawn U p.d) p.os:=fun d os=>Fw (zmz _ _ _ _ _ _ _ _ _ _ _ _ _ _ _ (tS_R.1 (tS.later hE3 (Cf U d os))).ri (tS_R.1 (tS.later hG3 (Cf U d os))).ri nb)
   clear g0 l0 g1 l1 g2 l2 g3 l3 qq
   by_cases hp:((ua0,ua1,ua2,ua3):Node)=(ub0,ub1,ub2,ub3)
   ·rw[Dx hp]at cP;have HP:=Aq hp;clear hp;go_wp2;rw[<-HU.out];clear e0 f0 e1 f1 e2 f2 e3 f3
    (refine Ck (by kernel_rfl) (by kernel_rfl) ?_;(repeat (go_big_quiet_step (exact cP _ _)));refine Cv ?_;intro _ hw';obtain⟨⟨dq,osq⟩,hw''⟩:=hw';subst hw'')
    go_wp2;go_roundw
    case rel=>exact⟨k+1,by go_num,by omega,Aq (by rw[M.take_at hX.out,M.take_at hY.out,H.out,HP.out]),zaa hb0 (zaa G0 (Cf U dq osq))⟩
    case measure=>simp[intOf];omega
   rw[Dz hp]at cP;have hxy:¬x2=y2:=fun e=>by have h1:=hX.out;rw[e,hY.out]at h1;injection h1 with h1;exact hp h1.symm
   have R:=Aq (show decide (((a0,x1,x2,x3):zae)=(a0,y1,y2,y3))=false by rw[Fy];intro e;simp only[Prod.mk.injEq]at e;exact hxy e.2.2.1);clear hp hxy;go_wp2;rw[<-HU.out];clear e0 f0 e1 f1 e2 f2 e3 f3
   (refine Ck (by kernel_rfl) (by kernel_rfl) ?_;(repeat (go_big_quiet_step (exact cP _ _)));refine Cv ?_;intro _ hw';obtain⟨⟨dq,osq⟩,hw''⟩:=hw';subst hw'')
   go_wp2;go_ret;exact⟨zac (by rw[R.out]),zaa B_wo0 (zaa G0 (Cf U dq osq))⟩
  have E2:=Aq (show x2=y2 by have:=H.out;rwa [Cg (by rw[X2.out];omega),Cg (by rw[Y2.out];omega)]at this);clear H;go_wp2;clear hlt hk;go_ret;exact⟨zac (by rw[E1.out,E2.out,E3.out];simp),B_wo0⟩
theorem zsc(a0 b0:Int)(A1:Yo)(n1 c1:Nat)(B1:Yo)(m1 d1:Nat)(A2:Yo)(n2 c2:Nat)(B2:Yo)(m2 d2:Nat)(A3:Yo)(n3 c3:Nat)(B3:Yo)(m3 d3:Nat)(x1 y1:List (List Int))(x2 y2:List Node)(x3 y3:List Int)(w:Yw)(h1:tSS.R w w.heap.size [.slice A1 n1 c1] x1)(k1:tSS.R w w.heap.size [.slice B1 m1 d1] y1)(h2:tNS.R w w.heap.size [.slice A2 n2 c2] x2)(k2:tNS.R w w.heap.size [.slice B2 m2 d2] y2)(h3:tS.R w w.heap.size [.slice A3 n3 c3] x3)(k3:tS.R w w.heap.size [.slice B3 m3 d3] y3)(hn:hP.sz ((a0,x1,x2,x3):zae)<=100000000)(hn2:hP.sz ((b0,y1,y2,y3):zae)<=100000000):
 Calls Tryz.prog 63 #[.agg #[.int .i64 a0,.slice A1 n1 c1,.slice A2 n2 c2,.slice A3 n3 c3],.agg #[.int .i64 b0,.slice B1 m1 d1,.slice B2 m2 d2,.slice B3 m3 d3]] w fun e w'=>e=.returned (.bool (decide (((a0,x1,x2,x3):zae)=(b0,y1,y2,y3))))/\Below w.heap.size w w':=by
 obtain⟨W,hW⟩:∃W,W=(w.alloc (.cells #[.int .i64 a0,.slice A1 n1 c1,.slice A2 n2 c2,.slice A3 n3 c3] 67)).alloc (.cells #[.int .i64 b0,.slice B1 m1 d1,.slice B2 m2 d2,.slice B3 m3 d3] 67):=⟨_,rfl⟩;have B0:Below w.heap.size w W:=by rw[hW];exact((Aw _ _).alloc (Aj _) _).alloc (by simp) _
 have p0:W.cell? ⟨w.heap.size,0,none⟩=some (.int .i64 a0):=by rw[hW];simp[go_sem]
 have q0:W.cell? ⟨w.heap.size+1,0,none⟩=some (.int .i64 b0):=by rw[hW];simp[go_sem]
 have p1:W.cell? ⟨w.heap.size,1,none⟩=some (.slice A1 n1 c1):=by rw[hW];simp[go_sem]
 have q1:W.cell? ⟨w.heap.size+1,1,none⟩=some (.slice B1 m1 d1):=by rw[hW];simp[go_sem]
 have p2:W.cell? ⟨w.heap.size,2,none⟩=some (.slice A2 n2 c2):=by rw[hW];simp[go_sem]
 have q2:W.cell? ⟨w.heap.size+1,2,none⟩=some (.slice B2 m2 d2):=by rw[hW];simp[go_sem]
 have p3:W.cell? ⟨w.heap.size,3,none⟩=some (.slice A3 n3 c3):=by rw[hW];simp[go_sem]
 have q3:W.cell? ⟨w.heap.size+1,3,none⟩=some (.slice B3 m3 d3):=by rw[hW];simp[go_sem]
 have lx:w.heap.size+1<W.heap.size:=by rw[hW];simp
 have HW:=Aq hW;have r1:=tSS.later h1 B0;have s1:=tSS.later k1 B0;have X1:=Aq (sl_R.1 h1).cap.1;have Y1:=Aq (sl_R.1 k1).cap.1;have r2:=tNS.later h2 B0;have s2:=tNS.later k2 B0;have X2:=Aq (sl_R.1 h2).cap.1;have Y2:=Aq (sl_R.1 k2).cap.1;have r3:=tS.later h3 B0;have s3:=tS.later k3 B0;have X3:=Aq (sl_R.1 h3).cap.1;have Y3:=Aq (sl_R.1 k3).cap.1;rw[zea]at hn hn2;have z1:hSS.sz x1<=100000000:=by omega
 have v1:hSS.sz y1<=100000000:=by omega
 have bn1:n1<=100000000:=by have e:x1.length+hS.szL x1=hSS.sz x1:=rfl;have:=X1.out;omega
 have z2:hNS.sz x2<=100000000:=by omega
 have v2:hNS.sz y2<=100000000:=by omega
 have bn2:n2<=100000000:=by have e:x2.length+hN.szL x2=hNS.sz x2:=rfl;have:=X2.out;omega
 have z3:hS.sz x3<=100000000:=by omega
 have v3:hS.sz y3<=100000000:=by omega
 have bn3:n3<=100000000:=by have e:x3.length+hI.szL x3=hS.sz x3:=rfl;have:=X3.out;omega
 clear hW hn hn2 h1 k1 h2 k2 h3 k3
 by_cases e0:¬a0=b0
 ·have g0:(a0 != b0)=true:=by simpa using e0
  have R:=Aq (show decide (((a0,x1,x2,x3):zae)=(b0,y1,y2,y3))=false by rw[Fy];intro e;simp only[Prod.mk.injEq]at e;exact e0 e.1)
  go_enter Tryz.func63,Tryz.ntmps63
  go_wp2_with fail
  try rw[<-HW.out]
  go_ret;exact⟨zac (by rw[R.out]),B0⟩
 replace e0:a0=b0:=Dy.1 e0;subst e0
 by_cases e1:¬n1=m1
 ·have g1:((n1:Int) != (m1:Int))=true:=by simp;omega
  have R:=Aq (show decide (((a0,x1,x2,x3):zae)=(a0,y1,y2,y3))=false by rw[Fy];intro e;simp only[Prod.mk.injEq]at e;exact e1 (by rw[<-X1.out,<-Y1.out,e.2.1]))
  go_enter Tryz.func63,Tryz.ntmps63
  go_wp2_with fail
  try rw[<-HW.out]
  go_ret;exact⟨zac (by rw[R.out]),B0⟩
 replace e1:n1=m1:=Dy.1 e1;subst e1
 by_cases e2:¬n2=m2
 ·have g2:((n2:Int) != (m2:Int))=true:=by simp;omega
  have R:=Aq (show decide (((a0,x1,x2,x3):zae)=(a0,y1,y2,y3))=false by rw[Fy];intro e;simp only[Prod.mk.injEq]at e;exact e2 (by rw[<-X2.out,<-Y2.out,e.2.2.1]))
  go_enter Tryz.func63,Tryz.ntmps63
  go_wp2_with fail
  try rw[<-HW.out]
  go_ret;exact⟨zac (by rw[R.out]),B0⟩
 replace e2:n2=m2:=Dy.1 e2;subst e2
 go_enter Tryz.func63,Tryz.ntmps63
 go_wp2_with fail;rw[<-HW.out]
 by_cases e3:¬x3=y3
 ·have HD:=Aq (Dz e3);have R:=Aq (show decide (((a0,x1,x2,x3):zae)=(a0,y1,y2,y3))=false by rw[Fy];intro e;simp only[Prod.mk.injEq]at e;exact e3 e.2.2.2);refine(zgr _ _ _ _ _ _ _ _ _ (tS_R.1 r3).ri (tS_R.1 s3).ri (by omega)).mono ?_;rw[HD.out];rintro e u1 ⟨rfl,bel1⟩;go_wp2;go_ret;exact⟨zac (by rw[R.out]),zaa B0 bel1⟩
 replace e3:x3=y3:=Dy.1 e3;have E3:=Aq e3;have HD1:=Aq (Dx e3);clear e3;refine(zgr _ _ _ _ _ _ _ _ _ (tS_R.1 r3).ri (tS_R.1 s3).ri (by omega)).mono ?_;rw[HD1.out];rintro e w1 ⟨rfl,bel1⟩;have lx_w1:=Cq lx bel1.size;have B_w1:=zaa B0 bel1;have p0_w1:w1.cell? ⟨w.heap.size,0,none⟩=some (.int .i64 a0):=by rw[bel1.cell (by show w.heap.size<_;have:=lx;omega)];exact p0
 have q0_w1:w1.cell? ⟨w.heap.size+1,0,none⟩=some (.int .i64 a0):=by rw[bel1.cell (by show w.heap.size+1<_;have:=lx;omega)];exact q0
 have p1_w1:w1.cell? ⟨w.heap.size,1,none⟩=some (.slice A1 n1 c1):=by rw[bel1.cell (by show w.heap.size<_;have:=lx;omega)];exact p1
 have q1_w1:w1.cell? ⟨w.heap.size+1,1,none⟩=some (.slice B1 n1 d1):=by rw[bel1.cell (by show w.heap.size+1<_;have:=lx;omega)];exact q1
 have p2_w1:w1.cell? ⟨w.heap.size,2,none⟩=some (.slice A2 n2 c2):=by rw[bel1.cell (by show w.heap.size<_;have:=lx;omega)];exact p2
 have q2_w1:w1.cell? ⟨w.heap.size+1,2,none⟩=some (.slice B2 n2 d2):=by rw[bel1.cell (by show w.heap.size+1<_;have:=lx;omega)];exact q2
 have p3_w1:w1.cell? ⟨w.heap.size,3,none⟩=some (.slice A3 n3 c3):=by rw[bel1.cell (by show w.heap.size<_;have:=lx;omega)];exact p3
 have q3_w1:w1.cell? ⟨w.heap.size+1,3,none⟩=some (.slice B3 m3 d3):=by rw[bel1.cell (by show w.heap.size+1<_;have:=lx;omega)];exact q3
 have r1_w1:=tSS.later r1 bel1;have s1_w1:=tSS.later s1 bel1;have r2_w1:=tNS.later r2 bel1;have s2_w1:=tNS.later s2 bel1;have r3_w1:=tS.later r3 bel1;have s3_w1:=tS.later s3 bel1;clear p0 q0 p1 q1 p2 q2 p3 q3 r1 s1 r2 s2 r3 s3;go_wp2
 go_loopw [5] (fun i wr=>∃k:Nat,i=.int .i64 k/\k<=n1/\Hid (x1.take k=y1.take k)/\Below w1.heap.size w1 wr) (fun i _=>n1-(intOf i).toNat)
 case atStart=>exact⟨0,rfl,by omega,Aq (by simp),Aw _ _⟩
 case round=>
  obtain⟨k,rfl,hk,H,hb0⟩:=hrel;obtain⟨wo0,rfl⟩:∃wo:Yw,wo=wr:=⟨_,rfl⟩;have lx_wo0:=Cq lx_w1 hb0.size;have B_wo0:=zaa B_w1 hb0;have p0_wo0:wo0.cell? ⟨w.heap.size,0,none⟩=some (.int .i64 a0):=by rw[hb0.cell (by show w.heap.size<_;have:=lx_w1;omega)];exact p0_w1
  have q0_wo0:wo0.cell? ⟨w.heap.size+1,0,none⟩=some (.int .i64 a0):=by rw[hb0.cell (by show w.heap.size+1<_;have:=lx_w1;omega)];exact q0_w1
  have p1_wo0:wo0.cell? ⟨w.heap.size,1,none⟩=some (.slice A1 n1 c1):=by rw[hb0.cell (by show w.heap.size<_;have:=lx_w1;omega)];exact p1_w1
  have q1_wo0:wo0.cell? ⟨w.heap.size+1,1,none⟩=some (.slice B1 n1 d1):=by rw[hb0.cell (by show w.heap.size+1<_;have:=lx_w1;omega)];exact q1_w1
  have p2_wo0:wo0.cell? ⟨w.heap.size,2,none⟩=some (.slice A2 n2 c2):=by rw[hb0.cell (by show w.heap.size<_;have:=lx_w1;omega)];exact p2_w1
  have q2_wo0:wo0.cell? ⟨w.heap.size+1,2,none⟩=some (.slice B2 n2 d2):=by rw[hb0.cell (by show w.heap.size+1<_;have:=lx_w1;omega)];exact q2_w1
  have p3_wo0:wo0.cell? ⟨w.heap.size,3,none⟩=some (.slice A3 n3 c3):=by rw[hb0.cell (by show w.heap.size<_;have:=lx_w1;omega)];exact p3_w1
  have q3_wo0:wo0.cell? ⟨w.heap.size+1,3,none⟩=some (.slice B3 m3 d3):=by rw[hb0.cell (by show w.heap.size+1<_;have:=lx_w1;omega)];exact q3_w1
  have r1_wo0:=tSS.later r1_w1 hb0;have s1_wo0:=tSS.later s1_w1 hb0;have r2_wo0:=tNS.later r2_w1 hb0;have s2_wo0:=tNS.later s2_w1 hb0;have r3_wo0:=tS.later r3_w1 hb0;have s3_wo0:=tS.later s3_w1 hb0;clear p0_w1 q0_w1 p1_w1 q1_w1 p2_w1 q2_w1 p3_w1 q3_w1 r1_w1 s1_w1 r2_w1 s2_w1 r3_w1 s3_w1
  by_cases hlt:k<n1
  ·have hX:=Aq (Ak (l:=x1) (i:=k) (by rw[X1.out];exact hlt));have hY:=Aq (Ak (l:=y1) (i:=k) (by rw[Y1.out];exact hlt));obtain⟨b,o1,cc,cs,hv,hab,-,hE,hcc⟩:=(sl_R.1 r1_wo0).atX hX.out;obtain⟨b',o2,cc',cs',hv',hab',-,hE',hdd⟩:=(sl_R.1 s1_wo0).atX hY.out;simp only[Cz]at hv hv';obtain⟨rfl,-,rfl⟩:=hv;obtain⟨rfl,-,rfl⟩:=hv';have hU:=hS.szL_at hX.out;have hV:=hS.szL_at hY.out;generalize x1[k]'(by rw[X1.out];exact hlt)=x at hX hE hU;generalize y1[k]'(by rw[Y1.out];exact hlt)=y at hY hE' hV;have zz:x1.length+hS.szL x1=hSS.sz x1:=rfl;have zv:y1.length+hS.szL y1=hSS.sz y1:=rfl;have zx:hS.sz x<=100000000:=(by omega);have zy:hS.sz y<=100000000:=(by omega);clear zz zv hU hV;obtain⟨Ae,ne,ce,rfl⟩:=zbv hE;obtain⟨Be,me,de,rfl⟩:=zbv hE';have hl1:=(sl_R.1 hE).cap.1;have hl2:=(sl_R.1 hE').cap.1;have e0:wo0.cell? ⟨b,o1+k*1,none⟩=some (.slice Ae ne ce):=hcc 0 _ rfl;have f0:wo0.cell? ⟨b',o2+k*1,none⟩=some (.slice Be me de):=hdd 0 _ rfl;rw[Nat.mul_one]at e0 f0;clear hcc hdd;have pp:=p1_wo0;have qq:=q1_wo0;have nb:ne<=1000000000:=(by have:=zcu hE;rw[zb3]at zx;omega);have re0:=Ag e0;have rf0:=Ag f0;have rpp:=Ag pp;have rqq:=Ag qq;have cP:∀d os,Calls Tryz.prog 60 #[.slice Ae ne ce,.slice Be me de] (grow (redrawn wo0 d) os) fun e w''=>e=.returned (.bool (decide (x=y)))/\∃p:Regrown,w''=grow (redrawn wo0 p.d) p.os:=fun d os=>Fw (zgr _ _ _ _ _ _ _ _ _ (tS_R.1 (tS.later hE (Cf wo0 d os))).ri (tS_R.1 (tS.later hE' (Cf wo0 d os))).ri nb)
   clear e0 f0 pp qq
   by_cases hp:x=y
   ·rw[Dx hp]at cP;have HP:=Aq hp;clear hp;go_wp2
    (refine Ck (by kernel_rfl) (by kernel_rfl) ?_;(repeat (go_big_quiet_step (exact cP _ _)));refine Cv ?_;intro _ hw';obtain⟨⟨dq,osq⟩,hw''⟩:=hw';subst hw'')
    go_wp2;go_roundw
    case rel=>exact⟨k+1,by go_num,by omega,Aq (by rw[M.take_at hX.out,M.take_at hY.out,H.out,HP.out]),zaa hb0 (Cf wo0 dq osq)⟩
    case measure=>simp[intOf];omega
   rw[Dz hp]at cP;have hxy:¬x1=y1:=fun e=>by have h1:=hX.out;rw[e,hY.out]at h1;injection h1 with h1;exact hp h1.symm
   have R:=Aq (show decide (((a0,x1,x2,x3):zae)=(a0,y1,y2,y3))=false by rw[Fy];intro e;simp only[Prod.mk.injEq]at e;exact hxy e.2.1);clear hp hxy;go_wp2
   (refine Ck (by kernel_rfl) (by kernel_rfl) ?_;(repeat (go_big_quiet_step (exact cP _ _)));refine Cv ?_;intro _ hw';obtain⟨⟨dq,osq⟩,hw''⟩:=hw';subst hw'')
   go_wp2;go_ret;exact⟨zac (by rw[R.out]),zaa B_wo0 (Cf wo0 dq osq)⟩
  have E1:=Aq (show x1=y1 by have:=H.out;rwa [Cg (by rw[X1.out];omega),Cg (by rw[Y1.out];omega)]at this);clear H;go_wp2;clear hlt hk
  go_loopw [6] (fun i wr=>∃k:Nat,i=.int .i64 k/\k<=n2/\Hid (x2.take k=y2.take k)/\Below wo0.heap.size wo0 wr) (fun i _=>n2-(intOf i).toNat)
  case atStart=>exact⟨0,rfl,by omega,Aq (by simp),Aw _ _⟩
  case round=>
   obtain⟨k,rfl,hk,H,hb1⟩:=hrel;obtain⟨wo1,rfl⟩:∃wo:Yw,wo=wr:=⟨_,rfl⟩;have lx_wo1:=Cq lx_wo0 hb1.size;have B_wo1:=zaa B_wo0 hb1;have p0_wo1:wo1.cell? ⟨w.heap.size,0,none⟩=some (.int .i64 a0):=(by rw[hb1.cell (by show w.heap.size<_;have:=lx_wo0;omega)];exact p0_wo0);have q0_wo1:wo1.cell? ⟨w.heap.size+1,0,none⟩=some (.int .i64 a0):=(by rw[hb1.cell (by show w.heap.size+1<_;have:=lx_wo0;omega)];exact q0_wo0);have p1_wo1:wo1.cell? ⟨w.heap.size,1,none⟩=some (.slice A1 n1 c1):=(by rw[hb1.cell (by show w.heap.size<_;have:=lx_wo0;omega)];exact p1_wo0);have q1_wo1:wo1.cell? ⟨w.heap.size+1,1,none⟩=some (.slice B1 n1 d1):=(by rw[hb1.cell (by show w.heap.size+1<_;have:=lx_wo0;omega)];exact q1_wo0);have p2_wo1:wo1.cell? ⟨w.heap.size,2,none⟩=some (.slice A2 n2 c2):=(by rw[hb1.cell (by show w.heap.size<_;have:=lx_wo0;omega)];exact p2_wo0);have q2_wo1:wo1.cell? ⟨w.heap.size+1,2,none⟩=some (.slice B2 n2 d2):=(by rw[hb1.cell (by show w.heap.size+1<_;have:=lx_wo0;omega)];exact q2_wo0);have p3_wo1:wo1.cell? ⟨w.heap.size,3,none⟩=some (.slice A3 n3 c3):=(by rw[hb1.cell (by show w.heap.size<_;have:=lx_wo0;omega)];exact p3_wo0);have q3_wo1:wo1.cell? ⟨w.heap.size+1,3,none⟩=some (.slice B3 m3 d3):=(by rw[hb1.cell (by show w.heap.size+1<_;have:=lx_wo0;omega)];exact q3_wo0);have r1_wo1:=tSS.later r1_wo0 hb1;have s1_wo1:=tSS.later s1_wo0 hb1;have r2_wo1:=tNS.later r2_wo0 hb1;have s2_wo1:=tNS.later s2_wo0 hb1;have r3_wo1:=tS.later r3_wo0 hb1;have s3_wo1:=tS.later s3_wo0 hb1;clear p0_wo0 q0_wo0 p1_wo0 q1_wo0 p2_wo0 q2_wo0 p3_wo0 q3_wo0 r1_wo0 s1_wo0 r2_wo0 s2_wo0 r3_wo0 s3_wo0
   by_cases hlt:k<n2
   ·have hX:=Aq (Ak (l:=x2) (i:=k) (by rw[X2.out];exact hlt));have hY:=Aq (Ak (l:=y2) (i:=k) (by rw[Y2.out];exact hlt));obtain⟨b,o1,cc,cs,hv,hab,-,hE,hcc⟩:=(sl_R.1 r2_wo1).atX hX.out;obtain⟨b',o2,cc',cs',hv',hab',-,hE',hdd⟩:=(sl_R.1 s2_wo1).atX hY.out;simp only[Cz]at hv hv';obtain⟨rfl,-,rfl⟩:=hv;obtain⟨rfl,-,rfl⟩:=hv';have hU:=hN.szL_at hX.out;have hV:=hN.szL_at hY.out;generalize x2[k]'(by rw[X2.out];exact hlt)=x at hX hE hU;generalize y2[k]'(by rw[Y2.out];exact hlt)=y at hY hE' hV;have zz:x2.length+hN.szL x2=hNS.sz x2:=rfl;have zv:y2.length+hN.szL y2=hNS.sz y2:=rfl;have zx:hN.sz x<=100000000:=(by omega);have zy:hN.sz y<=100000000:=(by omega);clear zz zv hU hV;obtain⟨ua0,ua1,ua2,ua3⟩:=x;obtain⟨ub0,ub1,ub2,ub3⟩:=y;obtain⟨Ae3,ne3,ce3,rfl,hE3⟩:=tN_R.1 hE;obtain⟨Be3,me3,de3,rfl,hG3⟩:=tN_R.1 hE';have e0:wo1.cell? ⟨b,o1+k*4,none⟩=some (.int .i64 ua0):=hcc 0 _ rfl;have f0:wo1.cell? ⟨b',o2+k*4,none⟩=some (.int .i64 ub0):=hdd 0 _ rfl;have e1:wo1.cell? ⟨b,o1+k*4+1,none⟩=some (.int .i64 ua1):=hcc 1 _ rfl;have f1:wo1.cell? ⟨b',o2+k*4+1,none⟩=some (.int .i64 ub1):=hdd 1 _ rfl;have e2:wo1.cell? ⟨b,o1+k*4+2,none⟩=some (.int .i64 ua2):=hcc 2 _ rfl;have f2:wo1.cell? ⟨b',o2+k*4+2,none⟩=some (.int .i64 ub2):=hdd 2 _ rfl;have e3:wo1.cell? ⟨b,o1+k*4+3,none⟩=some (.slice Ae3 ne3 ce3):=hcc 3 _ rfl;have f3:wo1.cell? ⟨b',o2+k*4+3,none⟩=some (.slice Be3 me3 de3):=hdd 3 _ rfl;clear hcc hdd;have pp:=p2_wo1;have qq:=q2_wo1;rw[ziu,zb3]at zx zy;have nb:ne3<=1000000000:=(by have:=zcu hE3;omega);have re0:=Ag e0;have rf0:=Ag f0;have re1:=Ag e1;have rf1:=Ag f1;have re2:=Ag e2;have rf2:=Ag f2;have re3:=Ag e3;have rf3:=Ag f3;have rpp:=Ag pp;have rqq:=Ag qq;have cP:∀d os,Calls Tryz.prog 123 #[.pointer (some ⟨b,o1+k*4,none⟩),.pointer (some ⟨b',o2+k*4,none⟩)] (grow (redrawn wo1 d) os) fun e w''=>e=.returned (.bool (decide (((ua0,ua1,ua2,ua3):Node)=(ub0,ub1,ub2,ub3))))/\∃p:Regrown,w''=grow (redrawn wo1 p.d) p.os:=fun d os=>Fw (zsa _ _ _ _ _ _ _ _ _ _ _ _ _ _ _ _ _ _ _ (re0 d os) (rf0 d os) (re1 d os) (rf1 d os) (re2 d os) (rf2 d os) (re3 d os) (rf3 d os) (tS_R.1 (tS.later hE3 (Cf wo1 d os))).ri (tS_R.1 (tS.later hG3 (Cf wo1 d os))).ri nb)
    clear e0 f0 e1 f1 e2 f2 e3 f3 pp qq
    by_cases hp:((ua0,ua1,ua2,ua3):Node)=(ub0,ub1,ub2,ub3)
    ·rw[Dx hp]at cP;have HP:=Aq hp;clear hp;go_wp2
     (refine Ck (by kernel_rfl) (by kernel_rfl) ?_;(repeat (go_big_quiet_step (exact cP _ _)));refine Cv ?_;intro _ hw';obtain⟨⟨dq,osq⟩,hw''⟩:=hw';subst hw'')
     go_wp2;go_roundw
     case rel=>exact⟨k+1,by go_num,by omega,Aq (by rw[M.take_at hX.out,M.take_at hY.out,H.out,HP.out]),zaa hb1 (Cf wo1 dq osq)⟩
     case measure=>simp[intOf];omega
    rw[Dz hp]at cP;have hxy:¬x2=y2:=fun e=>by have h1:=hX.out;rw[e,hY.out]at h1;injection h1 with h1;exact hp h1.symm
    have R:=Aq (show decide (((a0,x1,x2,x3):zae)=(a0,y1,y2,y3))=false by rw[Fy];intro e;simp only[Prod.mk.injEq]at e;exact hxy e.2.2.1);clear hp hxy;go_wp2
    (refine Ck (by kernel_rfl) (by kernel_rfl) ?_;(repeat (go_big_quiet_step (exact cP _ _)));refine Cv ?_;intro _ hw';obtain⟨⟨dq,osq⟩,hw''⟩:=hw';subst hw'')
    go_wp2;go_ret;exact⟨zac (by rw[R.out]),zaa B_wo1 (Cf wo1 dq osq)⟩
   have E2:=Aq (show x2=y2 by have:=H.out;rwa [Cg (by rw[X2.out];omega),Cg (by rw[Y2.out];omega)]at this);clear H;go_wp2;clear hlt hk;go_ret;exact⟨zac (by rw[E1.out,E2.out,E3.out];simp),B_wo1⟩
section
def tU8:Ty UInt8:=Ty.flat 1 (by decide) 0 (fun x=>[.int .u8 (x.toNat:Int)]) (fun _=>rfl) (by simp[Value.oneCell'])
structure SrcP (w:Yw) (b lo:Nat) (A:Yo) (n c:Nat) (code:List UInt8) (K:Nat) (a z:Int):Prop where
 c0:w.cell? ⟨b,0,none⟩=some (.slice A n c)
 c1:w.cell? ⟨b,1,none⟩=some (.int .i64 a)
 c2:w.cell? ⟨b,2,none⟩=some (.int .u64 z)
 f1:w.frozen? ⟨b,1,none⟩=false
 f2:w.frozen? ⟨b,2,none⟩=false
 rd:RS tU8 w lo (.slice A n c) code
 ha:0<=a
 hK:a<=K
 hb:lo<=b
def Src (w:Yw) (b lo:Nat) (A:Yo) (n c:Nat) (code:List UInt8) (K:Nat):Prop:=∃a z,SrcP w b lo A n c code K a z
def Drew (b lo:Nat) (A:Yo) (n c:Nat) (code:List UInt8) (K:Nat) (P:Int->Prop) (w:Yw) (e:Ending) (w':Yw):Prop:=
 ∃v,e=.returned (.int .i64 v)/\P v/\Src w' b lo A n c code K/\Mid b (b+1) w w'
section
variable {w w':Yw} {b lo n c K K':Nat} {A :Yo} {code:List UInt8}
theorem Src.lt(h:Src w b lo A n c code K):b<w.heap.size:=by
 obtain⟨a,z,h⟩:=h;exact Cj w _ h.c0
theorem Src.keep(h:Src w b lo A n c code K)(hk:∀k,k<b+1->w'.heap[k]?=w.heap[k]?):Src w' b lo A n c code K:=by
 obtain⟨a,z,h⟩:=h;have hb:=hk b (by omega);refine⟨a,z,?_,?_,?_,?_,?_,h.rd.keep fun p hp=>Ek (hk p.block (by have:=h.hb;omega)),h.ha,h.hK,h.hb⟩
 ·rw[Ek hb];exact h.c0
 ·rw[Ek hb];exact h.c1
 ·rw[Ek hb];exact h.c2
 ·rw[World.frozen?_of_block hb];exact h.f1
 rw[World.frozen?_of_block hb];exact h.f2
theorem Src.below{B:Nat}(h:Src w b lo A n c code K)(hb:Below B w w')(hB:b<B):Src w' b lo A n c code K:=h.keep fun k hk=>hb.block k (by omega)
theorem Src.mid{l r:Nat}(h:Src w b lo A n c code K)(hm:Mid l r w w')(hd:b<l):Src w' b lo A n c code K:=by
 have hlt:=h.lt;exact h.keep fun k hk=>hm.block k (by omega) (.inl (by omega))
theorem Src.more(h:Src w b lo A n c code K)(hK:K<=K'):Src w b lo A n c code K':=by
 obtain⟨a,z,h⟩:=h;exact⟨a,z,h.c0,h.c1,h.c2,h.f1,h.f2,h.rd,h.ha,by have:=h.hK;omega,h.hb⟩
end
theorem SrcP.step{w:Yw}{b lo n c K K':Nat}{A:Yo}{code:List UInt8}{a z:Int}(h:SrcP w b lo A n c code K a z)(m m':Nat)(a' z':Int)(ha:0<=a')(hK:a'<=K'):
 SrcP ((((w.drewN m).setCell ⟨b,1,none⟩ (.int .i64 a')).setCell ⟨b,2,none⟩ (.int .u64 z')).drewN m') b lo A n c code K' a' z'/\Mid b (b+1) w ((((w.drewN m).setCell ⟨b,1,none⟩ (.int .i64 a')).setCell ⟨b,2,none⟩ (.int .u64 z')).drewN m'):=by
 obtain⟨h0,h1,h2,g1,g2,hr,_,_,hb⟩:=h;have m0:Mid b (b+1) w (w.drewN m):=⟨rfl,rfl,rfl,Aj _,fun _ _ _=>rfl⟩;have m1:Mid b (b+1) (w.drewN m) ((w.drewN m).setCell ⟨b,1,none⟩ (.int .i64 a')):=Mid.of_grown (zc0 _ b 1 _) fun k hk=>by injection hk with hk;omega
 have m2:Mid b (b+1) ((w.drewN m).setCell ⟨b,1,none⟩ (.int .i64 a')) (((w.drewN m).setCell ⟨b,1,none⟩ (.int .i64 a')).setCell ⟨b,2,none⟩ (.int .u64 z')):=Mid.of_grown (zc0 _ b 2 _) fun k hk=>by injection hk with hk;omega
 have m3:Mid b (b+1) (((w.drewN m).setCell ⟨b,1,none⟩ (.int .i64 a')).setCell ⟨b,2,none⟩ (.int .u64 z')) ((((w.drewN m).setCell ⟨b,1,none⟩ (.int .i64 a')).setCell ⟨b,2,none⟩ (.int .u64 z')).drewN m'):=⟨rfl,rfl,rfl,Aj _,fun _ _ _=>rfl⟩;have M:=((m0.trans m1).trans m2).trans m3;refine⟨⟨?_,?_,?_,?_,?_,hr.keep fun p hp=>Ek (M.block p.block ?_ (.inl (by omega))),ha,hK,hb⟩,M⟩
 ·simp[go_sem, *]
 ·simp[go_sem, *]
 ·simp[go_sem, *]
 ·simp[go_sem, *]
 ·simp[go_sem, *]
 have:=Cj w _ h0;simp only at this;omega
theorem zsd(n:Int):0<=wrap64 (bits BinOp.and IntKind.u64 n 255)/\wrap64 (bits BinOp.and IntKind.u64 n 255)<=255:=by
 have hx:((BitVec.ofInt 64 n &&& BitVec.ofInt 64 255).toNat:Int)<=255:=by
  rw[BitVec.toNat_and,show (BitVec.ofInt 64 255).toNat=2 ^ 8-1 from by decide,Nat.and_two_pow_sub_one_eq_mod];omega
 have h2:bits BinOp.and IntKind.u64 n 255=((BitVec.ofInt 64 n &&& BitVec.ofInt 64 255).toNat:Int):=by
  show IntKind.u64.wrap ((BitVec.ofInt 64 n &&& BitVec.ofInt 64 255).toNat:Int)=_
  rw[IntKind.wrap_u64];omega
 rw[h2];unfold wrap64;omega
theorem zh0(b lo:Nat)(A:Yo)(n c:Nat)(code:List UInt8)(K:Nat)(w:Yw)(h:Src w b lo A n c code K)(hK:K<=1000000000000):
 Calls Tryz.prog 165 #[.pointer (some ⟨b,0,none⟩)] w (Drew b lo A n c code (K+1) (fun v=>0<=v/\v<=255) w):=by
 obtain⟨a,z,hP⟩:=h;obtain⟨hc0,hc1,hc2,hf1,hf2,hr,ha,haK,hlo⟩:=hP;have HP:=Aq (SrcP.mk hc0 hc1 hc2 hf1 hf2 hr ha haK hlo);obtain rfl:code.length=n:=hr.cap.1;have hl:code.length<=9223372036854775807:=by have h1:=hr.cap.2;unfold maxLen at h1;omega
 have hbw:b<w.heap.size:=Cj w _ hc0
 by_cases hlt:a<code.length
 ·obtain⟨k,rfl⟩:∃k:Nat,a=k:=⟨a.toNat,by omega⟩;obtain⟨bb,o,c1,cs,hv,hab,-,hE,hc⟩:=hr.at (k:=k) (by omega);simp only[Cz]at hv;obtain⟨rfl,-,rfl⟩:=hv;generalize code[k]'(by omega)=x at hE;obtain rfl:cs=[.int .u8 (x.toNat:Int)]:=hE;have hx:w.cell? ⟨bb,o+k*1,none⟩=some (.int .u8 (x.toNat:Int)):=hc 0 _ rfl;have hx2:(0:Int)<=(x.toNat:Int):=by omega
  have hx3:(x.toNat:Int)<=255:=by have:=x.toNat_lt;omega
  rw[Nat.mul_one]at hx;clear hc;have hlt':(k:Int)<(code.length:Int):=hlt
  go_enter Tryz.func165,Tryz.ntmps165
  go_wp2
  go_quiet (fail)
  go_wp2
  go_quiet (fail)
  go_wp2
  go_quiet (fail)
  go_wp2;go_ret;exact⟨_,rfl,⟨by omega,by omega⟩,⟨_,_,(HP.out.step _ _ ((k:Int)+1) _ (by omega) (by omega)).1⟩,(HP.out.step _ _ ((k:Int)+1) _ (by omega) (K':=K+1) (by omega)).2⟩
 have hgt:(code.length:Int)<=a:=by omega
 have hdl:decide (a<(code.length:Int))=false:=by simp;omega
 have hd2:decide (a+1<=(code.length:Int))=false:=by simp;omega
 go_enter Tryz.func165,Tryz.ntmps165
 go_wp2
 go_quiet (fail)
 go_wp2
 go_quiet (fail)
 go_wp2;go_ret;exact⟨_,rfl,zsd _,⟨_,_,(HP.out.step _ _ (a+1) _ (by omega) (by omega)).1⟩,(HP.out.step _ _ (a+1) _ (by omega) (K':=K+1) (by omega)).2⟩
theorem zbg(b lo:Nat)(A:Yo)(n c:Nat)(code:List UInt8)(K:Nat)(m:Int)(w:Yw)(h:Src w b lo A n c code K)(hK:K<=100000000000)(hm:m<=65536):
 Calls Tryz.prog 107 #[.pointer (some ⟨b,0,none⟩),.int .i64 m] w (Drew b lo A n c code (K+2) (fun v=>0<=v/\(v<m\/v=0)) w):=by
 by_cases h1:m<=1
 ·go_enter Tryz.func107,Tryz.ntmps107
  go_wp2;go_ret;exact⟨0,rfl,⟨by omega,.inr rfl⟩,h.more (by omega),Mid.refl _ _ _⟩
 by_cases h2:200<m
 ·go_enter Tryz.func107,Tryz.ntmps107
  go_wp2_with fail;refine(zh0 b lo A n c code K w h (by omega)).mono ?_;rintro e w1 ⟨x,rfl,⟨x0,x1⟩,s1,m1⟩;go_wp2_with fail;refine(zh0 b lo A n c code (K+1) w1 s1 (by omega)).mono ?_;rintro e w2 ⟨y,rfl,⟨y0,y1⟩,s2,m2⟩;go_wp2;go_ret;exact⟨_,rfl,⟨Int.emod_nonneg _ (by omega),.inl (Int.emod_lt_of_pos _ (by omega))⟩,s2,m1.trans m2⟩
 go_enter Tryz.func107,Tryz.ntmps107
 go_wp2_with fail;refine(zh0 b lo A n c code K w h (by omega)).mono ?_;rintro e w1 ⟨x,rfl,⟨x0,x1⟩,s1,m1⟩;go_wp2;go_ret;exact⟨_,rfl,⟨Int.emod_nonneg _ (by omega),.inl (Int.emod_lt_of_pos _ (by omega))⟩,s1.more (by omega),m1⟩
theorem zse(A:Yo)(n c:Nat)(code:List UInt8)(w:Yw)(hr:RS tU8 w w.heap.size (.slice A n c) code):
 Calls Tryz.prog 53 #[.slice A n c] w fun e w'=>∃b,e=.returned (.pointer (some ⟨b,0,none⟩))/\b=w.heap.size/\Src w' b w.heap.size A n c code 0/\Below w.heap.size w w'/\w'.heap.size=w.heap.size+1:=by
 have hs:(w.alloc (.cells #[.slice A n c,.int .i64 0,.int .u64 0] 143)).heap.size=w.heap.size+1:=by simp
 have hs':=Aq hs;have hb:Below w.heap.size w (w.alloc (.cells #[.slice A n c,.int .i64 0,.int .u64 0] 143)):=(Aw _ _).alloc (Aj _) _;clear hs
 go_enter Tryz.func53,Tryz.ntmps53
 go_wp2;go_ret;exact⟨_,rfl,rfl,⟨0,0,by simp[go_sem],by simp[go_sem],by simp[go_sem],by simp[go_sem],by simp[go_sem],hr.keep fun p hp=>hb.cell hp,by omega,by omega,Aj _⟩,hb,hs'.out⟩
end
theorem zgs(b lo:Nat)(A:Yo)(n c:Nat)(code:List UInt8)(K:Nat)(g m d:Nat)(xs:List Int)(w:Yw)(h:Src w b lo A n c code K)(hK:K<=100000000000)(hl:xs.length=m)(hm:0<m/\m<=60000)(hg:g≠b)(hgw:g<w.heap.size)
 (hc:∀j x,xs[j]?=some x->w.cell? ⟨g,j,none⟩=some (.int .i64 x)) :
 Calls Tryz.prog 108 #[.pointer (some ⟨b,0,none⟩),.slice (some ⟨g,0,none⟩) m d] w (Drew b lo A n c code (K+2) (fun v=>v∈xs) w):=by
 have HC:=Aq hc;have HL:=Aq hl;clear hc hl
 go_enter Tryz.func108,Tryz.ntmps108
 go_wp2_with fail;refine(zbg b lo A n c code K m w h hK (by omega)).mono ?_;rintro e w1 ⟨v,rfl,⟨v0,v1⟩,s1,m1⟩;obtain⟨k,rfl⟩:∃k:Nat,v=k:=⟨v.toNat,by omega⟩;have hk:k<m:=by omega
 have hk2:(k:Int)<(m:Int):=by omega
 have hX:=Aq (Ak (l:=xs) (i:=k) (by rw[HL.out];exact hk));generalize xs[k]'(by rw[HL.out];exact hk)=x at hX
 have hx:w1.cell? ⟨g,k,none⟩=some (.int .i64 x):=by
  rw[Ek (m1.block g hgw (by omega))];exact HC.out k x hX.out
 go_wp2;go_ret;exact⟨x,rfl,Eg hX.out,s1,m1⟩
theorem zf8(b lo:Nat)(A:Yo)(n c:Nat)(code:List UInt8)(K:Nat)(w:Yw)(h:Src w b lo A n c code K)(hK:K<=10000000000):
 Calls Tryz.prog 161 #[.pointer (some ⟨b,0,none⟩)] w (Drew b lo A n c code (K+6) (fun v=>-2147483648<=v/\v<=2147483647) w):=by
 have hbw:=h.lt
 go_enter Tryz.func161,Tryz.ntmps161
 go_wp2_with fail;refine(zbg b lo A n c code K 8 w h (by omega) (by omega)).mono ?_;rintro e w1 ⟨v,rfl,⟨v0,v1⟩,s1,m1⟩;have hb1:=s1.lt
 by_cases e0:v=0
 ·subst e0;have s2:=s1.below ((Aw w1.heap.size w1).alloc (Aj _) (.cells #[.int .i64 (-2147483648),.int .i64 2147483647,.int .i64 (-2147483647),.int .i64 65536,.int .i64 (-65536),.int .i64 1073741824] 2)) hb1;go_wp2_with fail;refine(zgs b lo A n c code (K+2) w1.heap.size 6 6 [-2147483648,2147483647,-2147483647,65536,-65536,1073741824] _ s2 (by omega) rfl (by omega) (by omega) (by simp) ?_).mono ?_
  ·intro j x hx;rw[cell_of_row _ w1.heap.size j _ 2 (0,0) (Df w1 _)]
   match j,hx with
   | 0,hx=>simp at hx;subst hx;rfl
   | 1,hx=>simp at hx;subst hx;rfl
   | 2,hx=>simp at hx;subst hx;rfl
   | 3,hx=>simp at hx;subst hx;rfl
   | 4,hx=>simp at hx;subst hx;rfl
   | 5,hx=>simp at hx;subst hx;rfl
   | j+6,hx=>simp at hx
  rintro e w2 ⟨x,rfl,hx,s3,m3⟩;go_wp2;go_ret;refine⟨x,rfl,?_,s3.more (by omega),m1.trans ((Mid.of_below ((Aw _ _).alloc (Aj _) _) _ _).trans m3)⟩;simp at hx;omega
 have f0:(v == 0)=false:=by simpa using e0
 by_cases e1:v=1
 ·subst e1;go_wp2_with fail;refine(zh0 b lo A n c code (K+2) w1 s1 (by omega)).mono ?_;rintro e w2 ⟨x,rfl,⟨x0,x1⟩,s2,m2⟩;go_wp2_with fail
  go_loopw [3,4] (fun q i wr=>∃(j:Nat) (y:Int),i=.int .i64 j/\j<=3/\q=.int .i64 y/\0<=y/\y<256 ^ (j+1)/\Src wr b lo A n c code (K+3+j)/\Mid b (b+1) w wr) (fun _ i _=>3-(intOf i).toNat)
  case atStart=>exact⟨0,x,rfl,by omega,rfl,by omega,by omega,s2,m1.trans m2⟩
  case round=>
   obtain⟨j,y,rfl,hj,rfl,y0,y1,s3,m3⟩:=hrel
   by_cases hlt:j<3
   ·have hy2:y<=16777215/\256*y+255<256 ^ (j+1+1):=by
     rcases(show j=0\/j=1\/j=2 by omega)with rfl|rfl|rfl <;> omega
    obtain⟨hy2,hy3⟩:=hy2;have hy3':=Aq hy3;clear y1 hy3;go_wp2_with fail;refine(zh0 b lo A n c code (K+3+j) wr s3 (by omega)).mono ?_;rintro e w4 ⟨u,rfl,⟨u0,u1⟩,s4,m4⟩;go_wp2;go_roundw
    case rel=>exact⟨j+1,256*y+u,by go_num,by omega,rfl,by omega,by have:=hy3'.out;omega,s4.more (by omega),m3.trans m4⟩
    case measure=>simp[intOf];omega
   clear y1;go_wp2_with (go_at_call 211;refine(zqm _ _).mono ?_;rintro e w' ⟨rfl,rfl⟩);go_ret;have hw:-2147483648<=wrap32 y/\wrap32 y<=2147483647:=(by unfold wrap32;omega);exact⟨_,rfl,hw,s3.more (by omega),m3⟩
 have f1:(v == 1)=false:=by simpa using e1
 by_cases e2:v=2
 ·subst e2;go_wp2_with fail;go_ret;exact⟨0,rfl,by omega,s1.more (by omega),m1⟩
 have f2:(v == 2)=false:=by simpa using e2
 go_wp2_with fail;refine(zbg b lo A n c code (K+2) 41 w1 s1 (by omega) (by omega)).mono ?_;rintro e w2 ⟨x,rfl,⟨x0,x1⟩,s2,m2⟩;go_wp2;go_ret;exact⟨_,rfl,by omega,s2.more (by omega),m1.trans m2⟩
section
section
variable {lo hi g o:Nat} {w w':Yw}
theorem Mid.cellK{u:Option Value}(h:Mid lo hi w w')(hg:g<w.heap.size)(hd:g<lo\/hi<=g)(hc:w.cell? ⟨g,o,none⟩=u):w'.cell? ⟨g,o,none⟩=u:=by rw[Ek (h.block g hg hd)];exact hc
theorem Mid.thenB'{a b c:Yw}{B:Nat}(h:Mid lo hi a b)(k:Below B b c)(hB:a.heap.size<=B):Mid lo hi a c:=
 ⟨k.os.trans h.os,k.tape.trans h.tape,k.output.trans h.output,Nat.le_trans h.size k.size,fun i hi' hm=>(k.block i (by omega)).trans (h.block i hi' hm)⟩
theorem Mid.frozK{u:Bool}(h:Mid lo hi w w')(hg:g<w.heap.size)(hd:g<lo\/hi<=g)(hc:w.frozen? ⟨g,o,none⟩=u):w'.frozen? ⟨g,o,none⟩=u:=by rw[World.frozen?_of_block (h.block g hg hd)];exact hc
end
end
theorem OS.made0{α:Type}(t:Ty α)(e:TypeId)(w:Yw):OS t e (w.alloc (.cells #[] e)) (Iv w.heap.size (w.alloc (.cells #[] e)).heap.size) (.slice (some ⟨w.heap.size,0,none⟩) 0 0) []:=
 ⟨[],fun _ _=>False,World.ownsRow_made _ _ _ (Nat.zero_le _) (by simp[maxLen]) (by simp),rfl,fun g hg=>by simp only[Value.ownBlock,Dq]at hg;subst hg;exact⟨Aj _,by simp⟩,fun _ _ h=>h.elim,fun _ _ _ _ h=>h.elim,fun k h=>by simp at h⟩
theorem ei_S:EI Tryz.prog 22 24 (.slice none 0 0) 1 24:=⟨Tryz.underlying22,by kernel_rfl,rfl,by decide⟩
def zm0 (w:Yw) (r:List (List Int)×Int) (en:Ending) (w':Yw):Prop:=
 ∃v,en=.returned (.tuple #[v,.int .i64 r.2])/\OS tS 24 w' (Iv w.heap.size w'.heap.size) v r.1/\Below w.heap.size w w'
theorem Iv.apart{a b c d:Nat}(h:b<=c):∀k,Iv a b k->¬Iv c d k:=fun k h1 h2=>by have:=h1.2;have:=h2.1;omega
theorem Iv.grow{a b c d:Nat}(h1:a<=b)(h2:b<=c)(h3:c<=d):∀k,(Iv a b k\/Iv b c k\/c<k/\k<d)->Iv a d k:=by
 intro k h;unfold Iv at *;omega
def z0i (xs:List (Int×Int)) (a:Int):Prop:=(∀p∈xs,0<=p.1/\p.1<a/\-65536<=p.2/\p.2<=65536)/\xs.Pairwise (fun p q=>p.1<q.1)
structure DL (w:Yw) (b lo:Nat) (A:Yo) (n c:Nat) (code:List UInt8) (K:Nat) (xs:List Int) (v:Value) (wr:Yw):Prop where
 own:OS tI 2 wr (Iv w.heap.size wr.heap.size) v xs
 src:Src wr b lo A n c code K
 mid:Mid b (b+1) w wr
 sz:w.heap.size+1<=wr.heap.size
theorem DL.step{w wr w':Yw}{b lo:Nat}{A:Yo}{n c:Nat}{code:List UInt8}{K K':Nat}{xs:List Int}{v:Value}(h:DL w b lo A n c code K xs v wr)(hb:b<w.heap.size)(hs:Src w' b lo A n c code K')(hm:Mid b (b+1) wr w'):DL w b lo A n c code K' xs v w':=
 have hz:=h.sz
 ⟨(h.own.mid hm (.inr (by omega)) (Aj _)).iv (Aj _) hm.size,hs,h.mid.trans hm,Nat.le_trans hz hm.size⟩
theorem DL.more{w wr:Yw}{b lo:Nat}{A:Yo}{n c:Nat}{code:List UInt8}{K K':Nat}{xs:List Int}{v:Value}(h:DL w b lo A n c code K xs v wr)(hK:K<=K'):DL w b lo A n c code K' xs v wr:=
 ⟨h.own,h.src.more hK,h.mid,h.sz⟩
theorem zsf{x:Int}(h0:-2147483648<=x)(h1:x<=2147483647):M.smp x=true:=by simp[M.smp,M.inn];omega
theorem OA.cap{α:Type}{enc:α->List Value}{e:TypeId}{s lo hi n c:Nat}{w:Yw}{A:Yo}{xs:List α}(h:OA enc e s lo hi w (.slice A n c) xs):n<=c/\c<=maxLen:=by
 obtain⟨A',c',hv,h1,h2,_⟩:=zb0 h.1;simp only[Cz]at hv;obtain⟨rfl,rfl,rfl⟩:=hv;exact⟨h1,h2⟩
theorem zkn(a b:Int)(w:Yw):Calls Tryz.prog 212 #[.int .i64 a,.int .i64 b] w fun e w'=>e=.returned (.int .i64 (max a b))/\w=w':=by
 by_cases h:b<a
 all_goals
  go_enter Tryz.func212,Tryz.ntmps212
  go_wp2;go_ret;exact⟨zb1 (by omega),rfl⟩
def zc9 (xs ys:List Int) (g:Int):List Int:=(List.range (max xs.length ys.length)).map fun(i:Nat)=>wrap32 (M.at_ xs (i:Int)+M.at_ ys (i:Int)*g)
theorem zh1(xs ys:List Int)(g:Int):(zc9 xs ys g).length=max xs.length ys.length:=by simp[zc9]
theorem zsg{xs ys:List Int}{g:Int}{i:Nat}(h:i<max xs.length ys.length):(zc9 xs ys g)[i]?=some (wrap32 (M.at_ xs (i:Int)+M.at_ ys (i:Int)*g)):=by simp[zc9,h]
theorem zsh(A:Yo)(n c:Nat)(xs:List Clip)(w:Yw)(hx:RA cl 5 w w.heap.size A n xs)(hn:n<=1000000000):
 Calls Tryz.prog 129 #[.agg #[.slice A n c]] w fun e w'=>e=.returned (.bool (za1 xs))/\Below w.heap.size w w':=by
 have B0:Below w.heap.size w (w.alloc (.cells #[.slice A n c] 98)):=(Aw _ _).alloc (Aj _) _;have hself:=zls w (.slice A n c) 98
 go_enter Tryz.func129,Tryz.ntmps129
 go_wp2_with fail;refine(zlv _ _ _ _ _ _ hself (hx.later B0) hn).mono ?_;rintro e w2 ⟨rfl,b2⟩;go_wp2;go_ret;exact⟨rfl,zaa B0 b2⟩
theorem zfl{w:Yw}{B:Nat}{A:Yo}{n c:Nat}{ns:List Node}(hr:RS tN w B (.slice A n c) ns)(hb:hNS.sz ns<=100000000){k:Nat}(hk:k<n):
 ∃(bb o:Nat) (a0 a1 a2:Int) (A1:Yo) (c1:Nat) (x3:List Int),A=some ⟨bb,o,none⟩/\bb<B/\Hid (ns[k]?=some (a0,a1,a2,x3))/\w.cell? ⟨bb,o+k*4,none⟩=some (.int .i64 a0)/\w.cell? ⟨bb,o+k*4+1,none⟩=some (.int .i64 a1)/\w.cell? ⟨bb,o+k*4+2,none⟩=some (.int .i64 a2)/\w.cell? ⟨bb,o+k*4+3,none⟩=some (.slice A1 x3.length c1)/\RI w B A1 x3.length x3/\x3.length<=100000000:=by
 obtain rfl:ns.length=n:=hr.cap.1;have hX:=Ak hk;obtain⟨bb,o,c1,cs,hv,hab,-,hE,hc⟩:=hr.atX hX;simp only[Cz]at hv;obtain⟨rfl,-,rfl⟩:=hv;have hU:=hN.szL_at hX;have hU2:ns.length+hN.szL ns<=100000000:=hb;generalize ns[k]=x at hX hE hU;obtain⟨a0,a1,a2,x3⟩:=x;rw[ziu,zb3]at hU;obtain⟨A1,n1,c1,rfl,hS3⟩:=tN_R.1 hE;obtain rfl:x3.length=n1:=zcu hS3;have e0:w.cell? ⟨bb,o+k*4,none⟩=some (.int .i64 a0):=hc 0 _ rfl;exact⟨bb,o,a0,a1,a2,A1,c1,x3,rfl,hab,Aq hX,e0,hc 1 _ rfl,hc 2 _ rfl,hc 3 _ rfl,(tS_R.1 hS3).ri,by omega⟩
theorem zi2(A:Yo)(n c:Nat)(ts:List (List Int))(w:Yw)(hx:RS tS w w.heap.size (.slice A n c) ts)(hb:Hid (∀x∈ts,x.length<=1000000000))(hn:n<=1000000000):
 Calls Tryz.prog 177 #[.slice A n c] w fun e w'=>e=.returned (.bool (zbr ts))/\Below w.heap.size w w':=by
 have hl:=Aq hx.cap.1
 go_enter Tryz.func177,Tryz.ntmps177
 go_wp2
 go_loopw [3] (fun i wr=>∃k:Nat,i=.int .i64 k/\k<=n/\Hid (ts.all zcw=(ts.drop k).all zcw)/\Below w.heap.size w wr) (fun i _=>n-(intOf i).toNat)
 case atStart=>exact⟨0,rfl,by omega,Aq (by simp),Aw _ _⟩
 case round=>
  obtain⟨k,rfl,hk,H,Bw⟩:=hrel
  by_cases hlt:k<n
  ·have B1:Below wr.heap.size wr (wr.alloc (.cells #[.int .i64 2,.int .i64 4,.int .i64 8,.int .i64 16] 2)):=(Aw _ _).alloc (Aj _) _;have hr4:RI (wr.alloc (.cells #[.int .i64 2,.int .i64 4,.int .i64 8,.int .i64 16] 2)) (wr.alloc (.cells #[.int .i64 2,.int .i64 4,.int .i64 8,.int .i64 16] 2)).heap.size (some ⟨wr.heap.size,0,none⟩) 4 [2,4,8,16]:=(zi0 wr 2 [2,4,8,16] _ rfl).more (by simp);obtain⟨V,hV⟩:∃V,V=wr.alloc (.cells #[.int .i64 2,.int .i64 4,.int .i64 8,.int .i64 16] 2):=⟨_,rfl⟩;have HV:=Aq hV;rw[<-hV]at B1 hr4;have B2:=zaa Bw B1;obtain⟨bb,o,A1,c1,x,rfl,hbb,X,hc,hri,hxl⟩:=zf7 (hx.below B2) hb hlt;have hri:=hri.more B2.size;have hd:=Aq (M.drop_at X.out);have hc0:=hc;rw[hV]at hc0
   have HM:=Aq (show zam [2,4,8,16] (x.length:Int)=(decide (x.length=2)||decide (x.length=4)||decide (x.length=8)||decide (x.length=16))by
    rw[Bool.eq_iff_iff];simp only[zam,List.any_cons,List.any_nil,Bool.or_eq_true,Dg,Bool.false_eq_true,or_false];omega)
   clear hV;cases hs:(decide (x.length=2)||decide (x.length=4)||decide (x.length=8)||decide (x.length=16))
   ·have R:=Aq (show zbr ts=false by rw[zbr,H.out,hd.out,Dv,zcw,hs];rfl);have HS:=Aq hs;clear hs;go_wp2_with fail;rw[<-HV.out];refine(zfk _ _ _ _ _ _ hr4 (by omega)).mono ?_;rw[HM.out,HS.out];rintro e w' ⟨rfl,rfl⟩;clear hc0;go_wp2;go_ret;exact⟨zac (by rw[R.out]),B2⟩
   have HG:=Aq (zre x hs);have HS:=Aq hs;clear hs;cases hq:x.all M.smp
   ·have R:=Aq (show zbr ts=false by rw[zbr,H.out,hd.out,Dv,zcw,hq,Ev];rfl);have HQ:=Aq hq;clear hq;go_wp2_with fail;rw[<-HV.out];refine(zfk _ _ _ _ _ _ hr4 (by omega)).mono ?_;rw[HM.out,HS.out];rintro e w' ⟨rfl,rfl⟩;clear hc0;go_wp2_with fail;refine(zil _ _ _ _ _ hri (by omega)).mono ?_;rw[HG.out,HQ.out];rintro e w' ⟨rfl,rfl⟩;go_wp2;go_ret;exact⟨zac (by rw[R.out]),B2⟩
   have R:=Aq (show ts.all zcw=(ts.drop (k+1)).all zcw by rw[H.out,hd.out,Dv,zcw,HS.out,hq];rfl);have HQ:=Aq hq;clear hq;go_wp2_with fail;rw[<-HV.out];refine(zfk _ _ _ _ _ _ hr4 (by omega)).mono ?_;rw[HM.out,HS.out];rintro e w' ⟨rfl,rfl⟩;clear hc0;go_wp2_with fail;refine(zil _ _ _ _ _ hri (by omega)).mono ?_;rw[HG.out,HQ.out];rintro e w' ⟨rfl,rfl⟩;go_wp2;go_roundw
   case rel=>exact⟨k+1,by go_num,by omega,R,B2⟩
   case measure=>simp[intOf];omega
  have R:=Aq (show zbr ts=decide (n<=4)by rw[zbr,H.out,Ej (by rw[hl.out];omega),hl.out];rfl);go_wp2;go_ret;exact⟨zac (by rw[R.out,Bool.eq_iff_iff];simp;try omega),Bw⟩
theorem zsi(b o:Nat)(a0 a1 a2:Int)(A:Yo)(c:Nat)(xs:List Int)(tb:Int)(w:Yw)(p0:w.cell? ⟨b,o,none⟩=some (.int .i64 a0))(p1:w.cell? ⟨b,o+1,none⟩=some (.int .i64 a1))(p2:w.cell? ⟨b,o+2,none⟩=some (.int .i64 a2))(p3:w.cell? ⟨b,o+3,none⟩=some (.slice A xs.length c))(hx:RI w w.heap.size A xs.length xs)(hn:xs.length<=1000000000)(htb:0<=tb/\tb<=1000000000):
 Calls Tryz.prog 178 #[.pointer (some ⟨b,o,none⟩),.int .i64 tb] w fun e w'=>e=.returned (.bool (zaj (a0,a1,a2,xs) tb))/\Below w.heap.size w w':=by
 rw[<-zme];have cK:∀d os,Calls Tryz.prog 224 #[.int .i64 a0] (grow (redrawn w d) os) fun e w''=>e=.returned (.bool (M.inn a0 1 17))/\∃p:Regrown,w''=grow (redrawn w p.d) p.os:=fun d os=>Fw (zg6 (zr6 a0 _))
 have pp0:=Ag p0;have pp1:=Ag p1;have pp2:=Ag p2;have pp3:=Ag p3;have cA:∀d os,Calls Tryz.prog 225 #[.pointer (some ⟨b,o,none⟩),.int .i64 tb] (grow (redrawn w d) os) fun e w''=>e=.returned (.bool (M.aS a0 a1 tb))/\∃p:Regrown,w''=grow (redrawn w p.d) p.os:=fun d os=>Fw (zr8 b o a0 a1 tb _ (Ag p0 d os) (Ag p1 d os) htb)
 clear p0 p1 p2 p3;cases hk:M.inn a0 1 17
 ·have R:=Aq (show zdu (a0,a1,a2,xs) tb=false by rw[zdu,hk];rfl);rw[hk]at cK;clear hk
  go_enter Tryz.func178,Tryz.ntmps178
  go_wp2_with fail
  (refine Ck (by kernel_rfl) (by kernel_rfl) ?_;(repeat (go_big_quiet_step (exact cK _ _)));refine Cv ?_;intro _ hw';obtain⟨⟨dq,osq⟩,hw''⟩:=hw';subst hw'')
  go_wp2;go_ret;exact⟨zac (by rw[R.out]),Cf w dq osq⟩
 have hkb:=za3.1 hk;have cR:∀d os,Calls Tryz.prog 216 #[.int .i64 a0] (grow (redrawn w d) os) fun e w''=>e=.returned (.int .i64 (M.ar a0.toNat))/\∃p:Regrown,w''=grow (redrawn w p.d) p.os:=fun d os=>Fw (zhy a0 _ (by omega))
 rw[hk]at cK;have HK:=Aq (show zdu (a0,a1,a2,xs) tb=(M.aS a0 a1 tb&&decide ((xs.length:Int)=M.ar a0.toNat)&&xs.all za2&&(if a0=17 then M.inn a2 1 16 else decide (a2=0)))by rw[zdu];simp only[hk,Ew]);generalize M.ar a0.toNat=ra at cR HK;clear hk hkb;cases ha:M.aS a0 a1 tb
 ·have R:=Aq (show zdu (a0,a1,a2,xs) tb=false by rw[HK.out,ha];rfl);rw[ha]at cA;clear ha
  go_enter Tryz.func178,Tryz.ntmps178
  go_wp2_with fail
  (refine Ck (by kernel_rfl) (by kernel_rfl) ?_;(repeat (go_big_quiet_step ((first|exact cK _ _|exact cA _ _|exact cR _ _))));refine Cv ?_;intro _ hw';obtain⟨⟨dq,osq⟩,hw''⟩:=hw';subst hw'')
  go_wp2;go_ret;exact⟨zac (by rw[R.out]),Cf w dq osq⟩
 rw[ha]at cA
 by_cases hl:(xs.length:Int)=ra
 ·have HM:=Aq (show zdu (a0,a1,a2,xs) tb=(xs.all za2&&(if a0=17 then M.inn a2 1 16 else decide (a2=0)))by rw[HK.out,ha,Dx hl];rfl);rw[<-hl]at cR;have hxr:=fun d os=>hx.later (Cf w d os)
  clear ha hl HK
  go_enter Tryz.func178,Tryz.ntmps178
  go_wp2_with fail
  (refine Ck (by kernel_rfl) (by kernel_rfl) ?_;(repeat (go_big_quiet_step ((first|exact cK _ _|exact cA _ _|exact cR _ _))));refine Cv ?_;intro _ hw';obtain⟨⟨dq,osq⟩,hw''⟩:=hw';subst hw'')
  replace pp0:=pp0 dq osq;replace pp1:=pp1 dq osq;replace pp2:=pp2 dq osq;replace pp3:=pp3 dq osq;replace hxr:=hxr dq osq;have BV:=Cf w dq osq;clear cK cA cR;generalize grow (redrawn w dq) osq=V at pp0 pp1 pp2 pp3 hxr BV ⊢;go_wp2_with fail
  go_loop [5] (fun i=>∃k:Nat,i=.int .i64 k/\k<=xs.length/\Hid (xs.all za2=(xs.drop k).all za2)) (fun i=>xs.length-(intOf i).toNat)
  case atStart=>exact⟨0,rfl,by omega,Aq (by simp)⟩
  case round=>
   obtain⟨k,rfl,hk,H⟩:=hrel
   by_cases hlt:k<xs.length
   ·obtain⟨ad,x,rfl,hab,X,hc⟩:=hxr.at hlt;have hd:=Aq (M.drop_at X.out);cases hs:M.inn x 0 23
    ·have R:=Aq (show zdu (a0,a1,a2,xs) tb=false by rw[HM.out,H.out,hd.out,Dv,za2,hs];rfl);go_wp2_with (go_at_call 67;refine(za0 _ _ _ _).mono ?_;rintro e w' ⟨rfl,rfl⟩);go_ret;exact⟨zac (by rw[R.out]),BV⟩
    have R:=Aq (show xs.all za2=(xs.drop (k+1)).all za2 by rw[H.out,hd.out,Dv,za2,hs];rfl);go_wp2_with (go_at_call 67;refine(za0 _ _ _ _).mono ?_;rintro e w' ⟨rfl,rfl⟩);go_round
    case rel=>exact⟨k+1,by go_num,by omega,R⟩
    case measure=>simp[intOf];omega
   have HF:=Aq (show xs.all za2=true by rw[H.out,Ej (by omega)];rfl);clear H
   by_cases h17:a0=17
   ·have R:=Aq (show zdu (a0,a1,a2,xs) tb=M.inn a2 1 16 by rw[HM.out,HF.out,if_pos h17];rfl);clear HM;subst h17;go_wp2_with (go_at_call 67;refine(za0 _ _ _ _).mono ?_;rintro e w' ⟨rfl,rfl⟩);go_ret;exact⟨zac (by rw[R.out]),BV⟩
   have R:=Aq (show zdu (a0,a1,a2,xs) tb=decide (a2=0)by rw[HM.out,HF.out,if_neg h17];rfl);have g17:(a0 == 17)=false:=(by simpa using h17);go_wp2_with (go_at_call 67;refine(za0 _ _ _ _).mono ?_;rintro e w' ⟨rfl,rfl⟩);go_ret;exact⟨zac (by rw[R.out,Bool.eq_iff_iff];simp),BV⟩
 have R:=Aq (show zdu (a0,a1,a2,xs) tb=false by rw[HK.out,ha,Dz hl];rfl);have gl:((xs.length:Int) != ra)=true:=by simpa using hl
 clear ha
 go_enter Tryz.func178,Tryz.ntmps178
 go_wp2_with fail
 (refine Ck (by kernel_rfl) (by kernel_rfl) ?_;(repeat (go_big_quiet_step ((first|exact cK _ _|exact cA _ _|exact cR _ _))));refine Cv ?_;intro _ hw';obtain⟨⟨dq,osq⟩,hw''⟩:=hw';subst hw'')
 go_wp2;go_ret;exact⟨zac (by rw[R.out]),Cf w dq osq⟩
theorem zm1(b o:Nat)(a0 a1 a2:Int)(A:Yo)(c:Nat)(xs:List Int)(w:Yw)(p0:w.cell? ⟨b,o,none⟩=some (.int .i64 a0))(p3:w.cell? ⟨b,o+3,none⟩=some (.slice A xs.length c))(hx:RI w w.heap.size A xs.length xs):
 Calls Tryz.prog 181 #[.pointer (some ⟨b,o,none⟩)] w fun e w'=>∃A' c',e=.returned (.slice A' (zax (a0,a1,a2,xs)).length c')/\RI w' w'.heap.size A' (zax (a0,a1,a2,xs)).length (zax (a0,a1,a2,xs))/\Below w.heap.size w w':=by
 by_cases h:a0=6
 ·have HW:=Aq (show zax (a0,a1,a2,xs)=[]by rw[zax,if_pos h]);rw[HW.out];subst h
  go_enter Tryz.func181,Tryz.ntmps181
  go_wp2;go_ret;exact⟨_,_,rfl,RI.nil _ _ _,(Aw _ _).alloc (Aj _) _⟩
 have HW:=Aq (show zax (a0,a1,a2,xs)=xs by rw[zax,if_neg h]);rw[HW.out];have g:(a0 == 6)=false:=by simpa using h
 go_enter Tryz.func181,Tryz.ntmps181
 go_wp2;go_ret;exact⟨_,_,rfl,hx,Aw _ _⟩
theorem zm2(A A':Yo)(n c n' c':Nat)(xs ys:List Int)(w:Yw)(hx:RI w w.heap.size A n xs)(hy:RI w w.heap.size A' n' ys)(hn:n<=1000000000)(hn':n'<=1000000000):
 Calls Tryz.prog 180 #[.slice A n c,.slice A' n' c'] w fun e w'=>e=.returned (.bool (xs.all (zam ys)))/\w=w':=by
 have hl:=Aq hx.len
 go_enter Tryz.func180,Tryz.ntmps180
 go_wp2
 go_loop [5] (fun i=>∃k:Nat,i=.int .i64 k/\k<=n/\Hid (xs.all (zam ys)=(xs.drop k).all (zam ys))) (fun i=>n-(intOf i).toNat)
 case atStart=>exact⟨0,rfl,by omega,Aq (by simp)⟩
 case round=>
  obtain⟨k,rfl,hk,H⟩:=hrel
  by_cases hlt:k<n
  ·obtain⟨ad,x,rfl,hab,X,hc⟩:=hx.at hlt;have hd:=Aq (M.drop_at X.out);cases hs:zam ys x
   ·have R:=Aq (show xs.all (zam ys)=false by rw[H.out,hd.out,Dv,hs];rfl);have HS:=Aq hs;clear hs;go_wp2_with (go_at_call 179;refine(zfk _ _ _ _ _ _ hy (by omega)).mono ?_;rw[HS.out];rintro e w' ⟨rfl,rfl⟩);go_ret;exact⟨zac (by rw[R.out]),rfl⟩
   have R:=Aq (show xs.all (zam ys)=(xs.drop (k+1)).all (zam ys)by rw[H.out,hd.out,Dv,hs];rfl);have HS:=Aq hs;clear hs;go_wp2_with (go_at_call 179;refine(zfk _ _ _ _ _ _ hy (by omega)).mono ?_;rw[HS.out];rintro e w' ⟨rfl,rfl⟩);go_round
   case rel=>exact⟨k+1,by go_num,by omega,R⟩
   case measure=>simp[intOf];omega
  have R:=Aq (show xs.all (zam ys)=true by rw[H.out,Ej (by rw[hl.out];omega)];rfl);go_wp2;go_ret;exact⟨zac (by rw[R.out]),rfl⟩
theorem zm3{v:Value}{b c:Bool}(h:c=b):Ending.returned (.tuple #[v,.bool b])=.returned (.tuple #[v,.bool c]):=by rw[h]
def zg8:Value->Nat
 | .slice _ n _=>n
 | _=>0
theorem zsj(b o:Nat)(A:Yo)(n c:Nat)(ns:List Node)(w:Yw)(p2:w.cell? ⟨b,o+2,none⟩=some (.slice A n c))(hx:RS tN w w.heap.size (.slice A n c) ns)(hb:hNS.sz ns<=100000000):
 Calls Tryz.prog 131 #[.pointer (some ⟨b,o,none⟩)] w fun e w'=>∃v,e=.returned (.tuple #[v,.bool (decide ((zbj ns).length=ns.length))])/\((zbj ns).length=ns.length->OI 2 w.heap.size w' v (zbj ns))/\Below w.heap.size w w':=by
 have lx:b<w.heap.size:=Cj w _ p2;have hl:=Aq hx.cap.1;have hnb:n<=100000000:=by have e:ns.length+hN.szL ns=hNS.sz ns:=rfl;have:=hl.out;omega
 have H0:Below w.heap.size w (w.alloc (.cells #[] 2)):=(Aw _ _).alloc (Aj _) _;have O0:OI 2 w.heap.size (w.alloc (.cells #[] 2)) (.slice (some ⟨w.heap.size,0,none⟩) 0 0) []:=OI.made _ w
 go_enter Tryz.func131,Tryz.ntmps131
 go_wp2_with fail
 go_loopw [4,5,6] (fun v _ _ wr=>∃(t:Nat) (O:List Int),t<=n/\Hid (O=zaw ns t)/\Hid (O.length=t)/\OI 2 w.heap.size wr v O/\Below w.heap.size w wr) (fun v _ _ _=>n-zg8 v)
 case atStart=>exact⟨0,[],by omega,Aq rfl,Aq rfl,O0,H0⟩
 case round=>
  obtain⟨t,O,ht,HO,HL,own,Bw⟩:=hrel;obtain⟨A2,c2,rfl,hri⟩:=own.shape;rw[HL.out]at own hri ⊢;have q2:wr.cell? ⟨b,o+2,none⟩=some (.slice A n c):=by rw[Bw.cell lx];exact p2
  by_cases hlt:t<n
  ·go_wp2_with fail;obtain⟨wo,rfl⟩:∃wo:Yw,wo=wr:=⟨_,rfl⟩
   go_loopw [5,6] (fun q i wr=>((∃k:Nat,q=.int .i64 (-1)/\i=.int .i64 k/\k<=n/\Hid (∀j,j<k->zdv ns O j=false))\/(∃k:Nat,q=.int .i64 (k:Int)/\i=.int .i64 ((k:Int)+1)/\k<n/\Hid (zdf ns O=some k)))/\Below wo.heap.size wo wr) (fun _ i _=>n+1-(intOf i).toNat)
   case atStart=>exact⟨.inl ⟨0,rfl,rfl,by omega,Aq (by omega)⟩,Aw _ _⟩
   case round=>
    obtain⟨hor,B2⟩:=hrel;have BB:=zaa Bw B2;have q3:wr.cell? ⟨b,o+2,none⟩=some (.slice A n c):=(by rw[BB.cell lx];exact p2);have own2:=own.below B2;rcases hor with⟨k,rfl,rfl,hk,H⟩|⟨k,rfl,rfl,hk,H⟩
    ·by_cases hlt2:k<n
     ·obtain⟨bb,o1,a0,a1,a2,A1,c1,x3,rfl,hbb,X,e0,e1,e2,e3,hr3,h3b⟩:=zfl (hx.below BB) hb hlt2;have hrdy:=Aq (zkh (out:=O) X.out);have hk0:(0:Int)<=(k:Int):=(by omega);have hkn:(k:Int)<(n:Int):=(by omega);have hriO:=hri.later B2;have hrx:=hr3.more BB.size;cases hm:zam O k
      ·have HM:=Aq hm;clear hm;cases ha:(zax (a0,a1,a2,x3)).all (zam O)
       ·have HA:=Aq ha;have R:=Aq (show zdv ns O k=false by rw[hrdy.out,ha,Ev]);clear ha;go_wp2_with fail;refine(zfk _ _ _ _ _ _ hriO (by omega)).mono ?_;rw[HM.out];rintro e w' ⟨rfl,rfl⟩;go_wp2_with fail;refine(zm1 bb (o1+k*4) a0 a1 a2 A1 c1 x3 wr e0 e3 hrx).mono ?_;rintro e w3 ⟨A5,c5,rfl,hr5,bel3⟩;have hriO3:=hriO.later bel3;have hwl:(zax (a0,a1,a2,x3)).length<=1000000000:=(by unfold zax;split <;> simp <;> omega);go_wp2_with fail;refine(zm2 _ _ _ _ _ _ _ _ _ hr5 hriO3 hwl (by omega)).mono ?_;rw[HA.out];rintro e w' ⟨rfl,rfl⟩;go_wp2;go_roundw
        case rel=>exact⟨.inl ⟨k+1,rfl,by go_num,by omega,Aq (fun j hj=>by rcases Nat.lt_succ_iff_lt_or_eq.1 hj with h|h;exact H.out j h;rw[h];exact R.out)⟩,zaa B2 bel3⟩
        case measure=>simp[intOf];omega
       have HA:=Aq ha;have R:=Aq (show zdf ns O=some k from zmg (by rw[hl.out];exact hlt2) (by rw[hrdy.out,ha,HM.out];rfl) H.out);clear ha;go_wp2_with fail;refine(zfk _ _ _ _ _ _ hriO (by omega)).mono ?_;rw[HM.out];rintro e w' ⟨rfl,rfl⟩;go_wp2_with fail;refine(zm1 bb (o1+k*4) a0 a1 a2 A1 c1 x3 wr e0 e3 hrx).mono ?_;rintro e w3 ⟨A5,c5,rfl,hr5,bel3⟩;have hriO3:=hriO.later bel3;have hwl:(zax (a0,a1,a2,x3)).length<=1000000000:=(by unfold zax;split <;> simp <;> omega);go_wp2_with fail;refine(zm2 _ _ _ _ _ _ _ _ _ hr5 hriO3 hwl (by omega)).mono ?_;rw[HA.out];rintro e w' ⟨rfl,rfl⟩;go_wp2;go_roundw
       case rel=>exact⟨.inr ⟨k,rfl,by go_num,hlt2,R⟩,zaa B2 bel3⟩
       case measure=>simp[intOf];omega
      have HM:=Aq hm;have R:=Aq (show zdv ns O k=false by rw[hrdy.out,hm];rfl);clear hm;go_wp2_with fail;refine(zfk _ _ _ _ _ _ hriO (by omega)).mono ?_;rw[HM.out];rintro e w' ⟨rfl,rfl⟩;go_wp2;go_roundw
      case rel=>exact⟨.inl ⟨k+1,rfl,by go_num,by omega,Aq (fun j hj=>by rcases Nat.lt_succ_iff_lt_or_eq.1 hj with h|h;exact H.out j h;rw[h];exact R.out)⟩,B2⟩
      case measure=>simp[intOf];omega
     have hno:=Aq (zmh (ns:=ns) (out:=O) (fun j hj=>H.out j (by rw[hl.out]at hj;omega)));have HR:=Aq (show zbj ns=O by rw[HO.out];exact zmi (by rw[hl.out];exact ht) (by rw[<-HO.out];exact hno.out));have R:=Aq (show ¬(zbj ns).length=ns.length by rw[HR.out,HL.out,hl.out];omega);go_wp2;go_ret2;exact⟨_,zm3 (Dz R.out),fun h=>absurd h R.out,BB⟩
    by_cases hk1:(k:Int)+1<n
    ·have hd:decide ((k:Int)+1<n)=true:=Dx hk1;have hge:decide ((k:Int)<0)=false:=Dz (by omega);have hge2:¬(k:Int)<0:=(by omega);have hO1:O.length<=t:=(by rw[HL.out];omega);have hO2:t<=O.length:=(by rw[HL.out];omega);have HN:=Aq (show O++[(k:Int)]=zaw ns (t+1)by rw[zkg (by rw[<-HO.out];exact H.out),<-HO.out]);have HL2:=Aq (show (O++[(k:Int)]).length=t+1 by rw[Cw,HL.out];rfl);go_wp2_with (at_builtin;refine zf5 zbu rfl _ _ rfl own2 rfl rfl rfl (by unfold maxLen;omega) (by omega) BB.size ?_;intro v1 w1 own1 gr1 bel1);go_roundw
     case rel=>exact⟨t+1,O++[(k:Int)],by omega,HN,HL2,OI.push own1,BB.trans bel1⟩
     case measure=>obtain⟨A9,c9,rfl,-⟩:=(OI.push own1).shape;rw[HL2.out];simp[zg8];omega
    have hd:decide ((k:Int)+1<n)=false:=Dz hk1;have hge2:¬(k:Int)<0:=(by omega);have hO1:O.length<=t:=(by rw[HL.out];omega);have hO2:t<=O.length:=(by rw[HL.out];omega);have HN:=Aq (show O++[(k:Int)]=zaw ns (t+1)by rw[zkg (by rw[<-HO.out];exact H.out),<-HO.out]);have HL2:=Aq (show (O++[(k:Int)]).length=t+1 by rw[Cw,HL.out];rfl);go_wp2_with (at_builtin;refine zf5 zbu rfl _ _ rfl own2 rfl rfl rfl (by unfold maxLen;omega) (by omega) BB.size ?_;intro v1 w1 own1 gr1 bel1);go_roundw
    case rel=>exact⟨t+1,O++[(k:Int)],by omega,HN,HL2,OI.push own1,BB.trans bel1⟩
    case measure=>obtain⟨A9,c9,rfl,-⟩:=(OI.push own1).shape;rw[HL2.out];simp[zg8];omega
  have HR:=Aq (show zbj ns=O by rw[HO.out,zbj,hl.out,show n=t by omega]);have R:=Aq (show (zbj ns).length=ns.length by rw[HR.out,HL.out,hl.out];omega);go_wp2;go_ret2;exact⟨_,zm3 (Dx R.out),fun _=>by rw[HR.out];exact own,Bw⟩
set_option synthInstance.maxSize 2000
set_option synthInstance.maxHeartbeats 400000
def zh2 (tb n inp:Int) (x:Node):Bool:=zaj x tb&&(!(decide (x.1=1)&&decide (inp<=x.2.1))&&x.2.2.2.all (fun f=>decide (f<n)))
theorem zko(tb n inp:Int)(x:Node):zh2 tb n inp x=zbi tb n inp x:=by
 rw[zh2,zbi];cases h:zaj x tb
 ·rfl
 have hf:x.2.2.2.all za2=true:=by
  rw[zaj]at h;simp only[Cx]at h;exact h.2.1.1.2
 have e:x.2.2.2.all (fun f=>decide (f<n))=x.2.2.2.all (za7 n):=by
  rw[Ef]at hf;rw[Bool.eq_iff_iff,Ef,Ef];constructor
  ·intro h2 f hfm;have h3:=za3.1 (hf f hfm);have h4:=h2 f hfm;simp at h4;exact za3.2 (by omega)
  intro h2 f hfm;have h4:=za3.1 (h2 f hfm);simp;omega
 rw[e,Ew,Ew,Bool.and_comm]
theorem zm4(b o:Nat)(a0:Int)(A1:Yo)(n1 c1:Nat)(A2:Yo)(n2 c2:Nat)(A3:Yo)(n3 c3:Nat)(x1:List (List Int))(x2:List Node)(x3:List Int)(w:Yw)(p0:w.cell? ⟨b,o,none⟩=some (.int .i64 a0))(p1:w.cell? ⟨b,o+1,none⟩=some (.slice A1 n1 c1))(p2:w.cell? ⟨b,o+2,none⟩=some (.slice A2 n2 c2))(p3:w.cell? ⟨b,o+3,none⟩=some (.slice A3 n3 c3))
 (h1:tSS.R w w.heap.size [.slice A1 n1 c1] x1) (h2:tNS.R w w.heap.size [.slice A2 n2 c2] x2) (h3:tS.R w w.heap.size [.slice A3 n3 c3] x3) (hn:hP.sz ((a0,x1,x2,x3):zae)<=100000000) :
 Calls Tryz.prog 130 #[.pointer (some ⟨b,o,none⟩)] w fun e w'=>e=.returned (.bool (za4 (a0,x1,x2,x3)))/\Below w.heap.size w w':=by
 have lx:b<w.heap.size:=Cj w _ p0;rw[zea,zb3]at hn;have r1:=sl_R.1 h1;have r2:=sl_R.1 h2;have hx3:=(tS_R.1 h3).ri;have L1:=Aq r1.cap.1;have L2:=Aq r2.cap.1;have L3:=Aq (zcu h3);have hb2:hNS.sz x2<=100000000:=by omega
 have hq1:x1.length+hS.szL x1=hSS.sz x1:=rfl
 have hb1:Hid (∀x∈x1,x.length<=1000000000):=Aq (fun x hx=>by
  obtain⟨i,hi⟩:=Fk hx;have:=hS.szL_at hi;rw[zb3]at this;omega)
 have bn1:n1<=100000000:=by have:=L1.out;omega
 have bn2:n2<=100000000:=by have e:x2.length+hN.szL x2=hNS.sz x2:=rfl;have:=L2.out;omega
 have bn3:n3<=100000000:=by have:=L3.out;omega
 clear hn hq1 h1 h2 h3;cases g0:M.inn a0 0 4
 ·have R:=Aq (show za4 (a0,x1,x2,x3)=false by rw[za4];simp only[g0];rfl)
  go_enter Tryz.func130,Tryz.ntmps130
  go_wp2_with (go_at_call 67;refine(za0 _ _ _ _).mono ?_;rintro e w' ⟨rfl,rfl⟩);go_ret;exact⟨zac (by rw[R.out]),Aw _ _⟩
 have G0:=Aq g0;clear g0;cases g1:zbr x1
 ·have R:=Aq (show za4 (a0,x1,x2,x3)=false by rw[za4];simp only[G0.out,g1];rfl);have G1:=Aq g1;clear g1
  go_enter Tryz.func130,Tryz.ntmps130
  go_wp2_with (first|(go_at_call 67;refine(za0 _ _ _ _).mono ?_;rw[G0.out];rintro e w' ⟨rfl,rfl⟩)|(go_at_call 177;refine(zi2 _ _ _ _ _ r1 hb1 (by omega)).mono ?_;rw[G1.out];rintro e w2 ⟨rfl,bel2⟩));go_ret;exact⟨zac (by rw[R.out]),bel2⟩
 have G1:=Aq g1;clear g1
 by_cases g2:¬n2<=24
 ·have R:=Aq (show za4 (a0,x1,x2,x3)=false by rw[za4];simp only[L2.out,Dz g2,Ev,Ez])
  go_enter Tryz.func130,Tryz.ntmps130
  go_wp2_with (first|(go_at_call 67;refine(za0 _ _ _ _).mono ?_;rw[G0.out];rintro e w' ⟨rfl,rfl⟩)|(go_at_call 177;refine(zi2 _ _ _ _ _ r1 hb1 (by omega)).mono ?_;rw[G1.out];rintro e w2 ⟨rfl,bel2⟩));go_ret;exact⟨zac (by rw[R.out]),bel2⟩
 replace g2:n2<=24:=Dy.1 g2
 by_cases g3:¬n3<=4
 ·have R:=Aq (show za4 (a0,x1,x2,x3)=false by rw[za4];simp only[L3.out,Dz g3,Ev,Ez])
  go_enter Tryz.func130,Tryz.ntmps130
  go_wp2_with (first|(go_at_call 67;refine(za0 _ _ _ _).mono ?_;rw[G0.out];rintro e w' ⟨rfl,rfl⟩)|(go_at_call 177;refine(zi2 _ _ _ _ _ r1 hb1 (by omega)).mono ?_;rw[G1.out];rintro e w2 ⟨rfl,bel2⟩;have k3:w2.cell? ⟨b,o+3,none⟩=some (.slice A3 n3 c3):=(by rw[bel2.cell lx];exact p3)));go_ret;exact⟨zac (by rw[R.out]),bel2⟩
 replace g3:n3<=4:=Dy.1 g3
 have HF:=Aq (show za4 (a0,x1,x2,x3)=(x3.all (za7 n2)&&x2.all (zbi n1 n2 a0))by
  rw[za4];simp only[G0.out,G1.out,L1.out,L2.out,L3.out,Dx g2,Dx g3,Ew])
 go_enter Tryz.func130,Tryz.ntmps130
 go_wp2_with (first|(go_at_call 67;refine(za0 _ _ _ _).mono ?_;rw[G0.out];rintro e w' ⟨rfl,rfl⟩)|(go_at_call 177;refine(zi2 _ _ _ _ _ r1 hb1 (by omega)).mono ?_;rw[G1.out];rintro e w2 ⟨rfl,bel2⟩;have k3:w2.cell? ⟨b,o+3,none⟩=some (.slice A3 n3 c3):=(by rw[bel2.cell lx];exact p3)))
 go_loopw [4,5,6] (fun i _ _ wr=>∃k:Nat,i=.int .i64 k/\k<=n2/\Hid (x2.all (zbi n1 n2 a0)=(x2.drop k).all (zbi n1 n2 a0))/\Below w.heap.size w wr) (fun i _ _ _=>n2-(intOf i).toNat)
 case atStart=>exact⟨0,rfl,by omega,Aq (by simp),bel2⟩
 case round=>
  obtain⟨k,rfl,hk,H,Bw⟩:=hrel;clear k3 bel2;have q0:wr.cell? ⟨b,o,none⟩=some (.int .i64 a0):=by rw[Bw.cell lx];exact p0
  have q1:wr.cell? ⟨b,o+1,none⟩=some (.slice A1 n1 c1):=by rw[Bw.cell lx];exact p1
  have q2:wr.cell? ⟨b,o+2,none⟩=some (.slice A2 n2 c2):=by rw[Bw.cell lx];exact p2
  have q3:wr.cell? ⟨b,o+3,none⟩=some (.slice A3 n3 c3):=by rw[Bw.cell lx];exact p3
  by_cases hlt:k<n2
  ·obtain⟨bb,o1,b0,b1,b2,A5,c5,y3,rfl,hbb,X,e0,e1,e2,e3,hr3,h3b⟩:=zfl (r2.below Bw) hb2 hlt;have hd:=Aq (M.drop_at X.out);have hry:=hr3.more Bw.size;have hk0:(0:Int)<=(k:Int):=(by omega);have hkn:(k:Int)<(n2:Int):=(by omega);have hkw:IntKind.i64.wrap ((k:Int)+1)=(k:Int)+1:=IntWalk.i64_in _ (by omega);have cN:∀d os,Calls Tryz.prog 178 #[.pointer (some ⟨bb,o1+k*4,none⟩),.int .i64 n1] (grow (redrawn wr d) os) fun e w''=>e=.returned (.bool (zaj (b0,b1,b2,y3) n1))/\∃p:Regrown,w''=grow (redrawn wr p.d) p.os:=fun d os=>Fw (zsi bb (o1+k*4) b0 b1 b2 A5 c5 y3 n1 _ (Ag e0 d os) (Ag e1 d os) (Ag e2 d os) (Ag e3 d os) (hry.later (Cf wr d os)) (by omega) (by omega))
   have qq0:=Ag q0;have qq1:=Ag q1;have qq2:=Ag q2;have qq3:=Ag q3;have ee0:=Ag e0;have ee1:=Ag e1;have ee3:=Ag e3;have hryr:=fun d os=>hry.later (Cf wr d os)
   cases hok:zaj (b0,b1,b2,y3) n1
   ·have R:=Aq (show za4 (a0,x1,x2,x3)=false by rw[HF.out,H.out,hd.out,Dv,<-zko,zh2,hok,Ez,Ez,Ev]);rw[hok]at cN;clear hok;go_wp2_with fail;clear q0 q1 q2 q3 e0 e1 e2 e3
    (refine Ck (by kernel_rfl) (by kernel_rfl) ?_;(repeat (go_big_quiet_step (exact cN _ _)));refine Cv ?_;intro _ hw';obtain⟨⟨dq,osq⟩,hw''⟩:=hw';subst hw'')
    go_wp2;go_ret;exact⟨zac (by rw[R.out]),zaa Bw (Cf wr dq osq)⟩
   rw[hok]at cN;have HK:=Aq hok;clear hok
   by_cases hin:b0=1/\a0<=b1
   ·have R:=Aq (show za4 (a0,x1,x2,x3)=false by rw[HF.out,H.out,hd.out,Dv,<-zko,zh2];simp only[hin.1,Dx hin.2];simp);obtain⟨rfl,hin2⟩:=hin;go_wp2_with fail;clear q0 q1 q2 q3 e0 e1 e2 e3
    (refine Ck (by kernel_rfl) (by kernel_rfl) ?_;(repeat (go_big_quiet_step (exact cN _ _)));refine Cv ?_;intro _ hw';obtain⟨⟨dq,osq⟩,hw''⟩:=hw';subst hw'')
    go_wp2;go_ret;exact⟨zac (by rw[R.out]),zaa Bw (Cf wr dq osq)⟩
   have HI:=Aq (show (!(decide (b0=1)&&decide (a0<=b1)))=true by
    rw[Bool.not_eq_true',Bool.and_eq_false_iff];rcases Classical.em (b0=1)with h|h
    ·exact .inr (Dz fun h2=>hin ⟨h,h2⟩)
    exact .inl (Dz h))
   have HF2:=Aq (show x2.all (zbi n1 n2 a0)=(y3.all (fun f=>decide (f<n2))&&(x2.drop (k+1)).all (zbi n1 n2 a0))by rw[H.out,hd.out,Dv,<-zko,zh2,HK.out];simp only[HI.out,Ew])
   by_cases hb0:b0=1
   ·have hna:¬a0<=b1:=fun h=>hin ⟨hb0,h⟩
    clear hin HI;have HK2:=HK;clear HK;subst hb0;go_wp2_with fail;clear q0 q1 q2 q3 e0 e1 e2 e3
    (refine Ck (by kernel_rfl) (by kernel_rfl) ?_;(repeat (go_big_quiet_step (exact cN _ _)));refine Cv ?_;intro _ hw';obtain⟨⟨dq,osq⟩,hw''⟩:=hw';subst hw'')
    replace qq0:=qq0 dq osq;replace qq1:=qq1 dq osq;replace qq2:=qq2 dq osq;replace qq3:=qq3 dq osq;replace ee0:=ee0 dq osq;replace ee1:=ee1 dq osq;replace ee3:=ee3 dq osq;replace hryr:=hryr dq osq;have BV:=Cf wr dq osq;clear cN;generalize grow (redrawn wr dq) osq=V at qq0 qq1 qq2 qq3 ee0 ee1 ee3 hryr BV ⊢;have BW:=zaa Bw BV;go_wp2_with fail
    go_loop [6] (fun i=>∃q:Nat,i=.int .i64 q/\q<=y3.length/\Hid (y3.all (fun f=>decide (f<n2))=(y3.drop q).all (fun f=>decide (f<n2)))) (fun i=>y3.length-(intOf i).toNat)
    case atStart=>exact⟨0,rfl,by omega,Aq (by simp)⟩
    case round=>
     obtain⟨q,rfl,hq,HQ⟩:=hrel
     by_cases hlt2:q<y3.length
     ·obtain⟨ad,x,rfl,hab,Y,hc⟩:=hryr.at hlt2;have hdq:=Aq (M.drop_at Y.out)
      by_cases hs:x<n2
      ·have R:=Aq (show y3.all (fun f=>decide (f<n2))=(y3.drop (q+1)).all (fun f=>decide (f<n2))by rw[HQ.out,hdq.out,Dv,Dx hs,Ew]);have hs2:¬(n2:Int)<=x:=(by omega);go_wp2;go_round
       case rel=>exact⟨q+1,by go_num,by omega,R⟩
       case measure=>simp[intOf];omega
      have R:=Aq (show za4 (a0,x1,x2,x3)=false by rw[HF.out,HF2.out,HQ.out,hdq.out,Dv,Dz hs,Ez,Ez,Ev]);have hs2:(n2:Int)<=x:=(by omega);go_wp2;go_ret;exact⟨zac (by rw[R.out]),BW⟩
     have HY:=Aq (show x2.all (zbi n1 n2 a0)=(x2.drop (k+1)).all (zbi n1 n2 a0)by rw[HF2.out,HQ.out,Ej (by omega)];rfl);clear HQ;go_wp2_with fail;go_roundw
     case rel=>exact⟨k+1,by go_num,by omega,HY,BW⟩
     case measure=>simp[intOf];omega
   have gb0:(b0 == 1)=false:=(by simpa using hb0);clear hin HI HK;go_wp2_with fail;clear q0 q1 q2 q3 e0 e1 e2 e3
   (refine Ck (by kernel_rfl) (by kernel_rfl) ?_;(repeat (go_big_quiet_step (exact cN _ _)));refine Cv ?_;intro _ hw';obtain⟨⟨dq,osq⟩,hw''⟩:=hw';subst hw'')
   replace qq0:=qq0 dq osq;replace qq1:=qq1 dq osq;replace qq2:=qq2 dq osq;replace qq3:=qq3 dq osq;replace ee0:=ee0 dq osq;replace ee1:=ee1 dq osq;replace ee3:=ee3 dq osq;replace hryr:=hryr dq osq;have BV:=Cf wr dq osq;clear cN;generalize grow (redrawn wr dq) osq=V at qq0 qq1 qq2 qq3 ee0 ee1 ee3 hryr BV ⊢;have BW:=zaa Bw BV;go_wp2_with fail
   go_loop [6] (fun i=>∃q:Nat,i=.int .i64 q/\q<=y3.length/\Hid (y3.all (fun f=>decide (f<n2))=(y3.drop q).all (fun f=>decide (f<n2)))) (fun i=>y3.length-(intOf i).toNat)
   case atStart=>exact⟨0,rfl,by omega,Aq (by simp)⟩
   case round=>
    obtain⟨q,rfl,hq,HQ⟩:=hrel
    by_cases hlt2:q<y3.length
    ·obtain⟨ad,x,rfl,hab,Y,hc⟩:=hryr.at hlt2;have hdq:=Aq (M.drop_at Y.out)
     by_cases hs:x<n2
     ·have R:=Aq (show y3.all (fun f=>decide (f<n2))=(y3.drop (q+1)).all (fun f=>decide (f<n2))by rw[HQ.out,hdq.out,Dv,Dx hs,Ew]);have hs2:¬(n2:Int)<=x:=(by omega);go_wp2;go_round
      case rel=>exact⟨q+1,by go_num,by omega,R⟩
      case measure=>simp[intOf];omega
     have R:=Aq (show za4 (a0,x1,x2,x3)=false by rw[HF.out,HF2.out,HQ.out,hdq.out,Dv,Dz hs,Ez,Ez,Ev]);have hs2:(n2:Int)<=x:=(by omega);go_wp2;go_ret;exact⟨zac (by rw[R.out]),BW⟩
    have HY:=Aq (show x2.all (zbi n1 n2 a0)=(x2.drop (k+1)).all (zbi n1 n2 a0)by rw[HF2.out,HQ.out,Ej (by omega)];rfl);clear HQ;go_wp2_with fail;go_roundw
    case rel=>exact⟨k+1,by go_num,by omega,HY,BW⟩
    case measure=>simp[intOf];omega
  have HA:=Aq (show x2.all (zbi n1 n2 a0)=true by rw[H.out,Ej (by rw[L2.out];omega)];rfl);have HF3:=Aq (show za4 (a0,x1,x2,x3)=x3.all (za7 n2)by rw[HF.out,HA.out,Bool.and_true]);have hx3r:=(hx3.below Bw);go_wp2_with fail;clear H hk hlt
  go_loop [7] (fun i=>∃k:Nat,i=.int .i64 k/\k<=n3/\Hid (x3.all (za7 n2)=(x3.drop k).all (za7 n2))) (fun i=>n3-(intOf i).toNat)
  case atStart=>exact⟨0,rfl,by omega,Aq (by simp)⟩
  case round=>
   obtain⟨k,rfl,hk,H⟩:=hrel
   by_cases hlt:k<n3
   ·obtain⟨ad,x,rfl,hab,X,hc⟩:=hx3r.at hlt;have hd:=Aq (M.drop_at X.out);cases hs:M.inn x 0 ((n2:Int)-1)
    ·have R:=Aq (show za4 (a0,x1,x2,x3)=false by rw[HF3.out,H.out,hd.out,Dv,za7,hs];rfl);go_wp2_with (go_at_call 67;refine(za0 _ _ _ _).mono ?_;rintro e w' ⟨rfl,rfl⟩);go_ret;exact⟨zac (by rw[R.out]),Bw⟩
    have R:=Aq (show x3.all (za7 n2)=(x3.drop (k+1)).all (za7 n2)by rw[H.out,hd.out,Dv,za7,hs];rfl);go_wp2_with (go_at_call 67;refine(za0 _ _ _ _).mono ?_;rintro e w' ⟨rfl,rfl⟩);go_round
    case rel=>exact⟨k+1,by go_num,by omega,R⟩
    case measure=>simp[intOf];omega
   have R:=Aq (show za4 (a0,x1,x2,x3)=true by rw[HF3.out,H.out,Ej (by rw[L3.out];omega)];rfl);go_wp2;go_ret;exact⟨zac (by rw[R.out]),Bw⟩
theorem zm5(b o:Nat)(a0:Int)(A1:Yo)(n1 c1:Nat)(A2:Yo)(n2 c2:Nat)(A3:Yo)(n3 c3:Nat)(x1:List (List Int))(x2:List Node)(x3:List Int)(w:Yw)(p0:w.cell? ⟨b,o,none⟩=some (.int .i64 a0))(p1:w.cell? ⟨b,o+1,none⟩=some (.slice A1 n1 c1))(p2:w.cell? ⟨b,o+2,none⟩=some (.slice A2 n2 c2))(p3:w.cell? ⟨b,o+3,none⟩=some (.slice A3 n3 c3))
 (h1:tSS.R w w.heap.size [.slice A1 n1 c1] x1) (h2:tNS.R w w.heap.size [.slice A2 n2 c2] x2) (h3:tS.R w w.heap.size [.slice A3 n3 c3] x3) (hn:hP.sz ((a0,x1,x2,x3):zae)<=100000000) :
 Calls Tryz.prog 71 #[.pointer (some ⟨b,o,none⟩)] w fun e w'=>e=.returned (.bool (zce (a0,x1,x2,x3)))/\Below w.heap.size w w':=by
 have lx:b<w.heap.size:=Cj w _ p0;have hb2:hNS.sz x2<=100000000:=by rw[zea]at hn;omega
 have r2:=sl_R.1 h2;cases g0:za4 (a0,x1,x2,x3)
 ·have R:=Aq (show zce (a0,x1,x2,x3)=false by rw[zce,g0];rfl);have G0:=Aq g0;clear g0
  go_enter Tryz.func71,Tryz.ntmps71
  go_wp2_with (go_at_call 130;refine(zm4 b o a0 A1 n1 c1 A2 n2 c2 A3 n3 c3 x1 x2 x3 _ p0 p1 p2 p3 h1 h2 h3 hn).mono ?_;rw[G0.out];rintro e w2 ⟨rfl,bel2⟩);go_ret;exact⟨zac (by rw[R.out]),bel2⟩
 have G0:=Aq g0;have R:=Aq (show zce (a0,x1,x2,x3)=decide ((zbj x2).length=x2.length)by rw[zce,g0];rfl);clear g0
 go_enter Tryz.func71,Tryz.ntmps71
 go_wp2_with (go_at_call 130;refine(zm4 b o a0 A1 n1 c1 A2 n2 c2 A3 n3 c3 x1 x2 x3 _ p0 p1 p2 p3 h1 h2 h3 hn).mono ?_;rw[G0.out];rintro e w2 ⟨rfl,bel2⟩);refine(zsj b o A2 n2 c2 x2 w2 (by rw[bel2.cell lx];exact p2) (r2.later bel2) hb2).mono ?_;rintro e w3 ⟨v,rfl,-,bel3⟩;go_wp2;go_ret;exact⟨zac (by rw[R.out]),zaa bel2 bel3⟩
theorem zh3(b o:Nat)(a0:Int)(A1:Yo)(n1 c1:Nat)(A2:Yo)(n2 c2:Nat)(A3:Yo)(n3 c3:Nat)(x1:List (List Int))(x2:List Node)(x3:List Int)(w:Yw)(p0:w.cell? ⟨b,o,none⟩=some (.int .i64 a0))(p1:w.cell? ⟨b,o+1,none⟩=some (.slice A1 n1 c1))(p2:w.cell? ⟨b,o+2,none⟩=some (.slice A2 n2 c2))(p3:w.cell? ⟨b,o+3,none⟩=some (.slice A3 n3 c3))
 (L1:Hid (x1.length=n1)) (L2:Hid (x2.length=n2)) (L3:Hid (x3.length=n3)) :
 Calls Tryz.prog 27 #[.pointer (some ⟨b,o,none⟩)] w fun e w'=>e=.returned (.bool (decide (((a0,x1,x2,x3):zae)=M.p0)))/\w=w':=by
 have R0:=Aq (show decide (((a0,x1,x2,x3):zae)=M.p0)=(decide (a0=0)&&decide (n1=0)&&decide (n2=0)&&decide (n3=0))by
  rw[Bool.eq_iff_iff,M.p0,<-L1.out,<-L2.out,<-L3.out];simp only[Dg,Prod.mk.injEq,Cx,List.length_eq_zero_iff,and_assoc])
 rw[R0.out]
 by_cases k0:a0=0
 ·subst k0
  by_cases k1:n1=0
  ·subst k1
   by_cases k2:n2=0
   ·subst k2
    by_cases k3:n3=0
    ·subst k3
     go_enter Tryz.func27,Tryz.ntmps27
     go_wp2;go_ret;exact⟨rfl,rfl⟩
    have g3:((n3:Int) == 0)=false:=by simpa using k3
    go_enter Tryz.func27,Tryz.ntmps27
    go_wp2;go_ret;exact⟨zac (by simp[k3]),rfl⟩
   have g2:((n2:Int) == 0)=false:=by simpa using k2
   go_enter Tryz.func27,Tryz.ntmps27
   go_wp2;go_ret;exact⟨zac (by simp[k2]),rfl⟩
  have g1:((n1:Int) == 0)=false:=by simpa using k1
  go_enter Tryz.func27,Tryz.ntmps27
  go_wp2;go_ret;exact⟨zac (by simp[k1]),rfl⟩
 have g0:(a0 == 0)=false:=by simpa using k0
 go_enter Tryz.func27,Tryz.ntmps27
 go_wp2;go_ret;exact⟨zac (by simp[k0]),rfl⟩
theorem zsk(xs:List Clip)(m:Int)(h:xs.all (fun c=>M.inn c.1 0 (m-1))=true):zbq xs m=true:=by
 rw[Ef]at h;rw[zbq,Ef];intro x hx;have:=za3.1 (h x hx);simp;omega
theorem zsl(xs:List Clip)(m:Int){k:Nat}{x:Clip}(hx:xs[k]?=some x)(h:M.inn x.1 0 (m-1)=false):(za1 xs&&zbq xs m)=false:=by
 rw[Bool.and_eq_false_iff];rcases Classical.em (x.1<m)with h1|h1
 ·left
  cases ht:za1 xs
  ·rfl
  have:=(zlz (zj8 ht hx)).1;rw[za3.2 (by omega)]at h;cases h
 right
 rw[zbq,List.all_eq_false];exact⟨x,Eg hx,by simpa using h1⟩
theorem zsm(b o:Nat)(A:Yo)(n c:Nat)(xs:List Clip)(m:Int)(w:Yw)(p0:w.cell? ⟨b,o,none⟩=some (.slice A n c))(hx:RA cl 5 w w.heap.size A n xs)(hn:n<=1000000000)(hm:0<=m/\m<=1000000000):
 Calls Tryz.prog 70 #[.pointer (some ⟨b,o,none⟩),.int .i64 m] w fun e w'=>e=.returned (.bool (za1 xs&&zbq xs m))/\Below w.heap.size w w':=by
 have hl:=Aq hx.len
 go_enter Tryz.func70,Tryz.ntmps70
 go_wp2
 go_loop [5] (fun i=>∃k:Nat,i=.int .i64 k/\k<=n/\Hid (xs.all (fun c=>M.inn c.1 0 (m-1))=(xs.drop k).all (fun c=>M.inn c.1 0 (m-1)))) (fun i=>n-(intOf i).toNat)
 case atStart=>exact⟨0,rfl,by omega,Aq (by simp)⟩
 case round=>
  obtain⟨k,rfl,hk,H⟩:=hrel
  by_cases hlt:k<n
  ·obtain⟨bb,o1,⟨d0,d1,d2,d3,d4⟩,rfl,hab,X,hc⟩:=hx.at zde (by decide) hlt;have e0:w.cell? ⟨bb,o1+k*5,none⟩=some (.int .i64 d0):=hc 0 _ rfl;clear hc;have hd:=Aq (M.drop_at X.out);cases hs:M.inn d0 0 (m-1)
   ·have R:=Aq (zsl xs m X.out hs);go_wp2_with (go_at_call 67;refine(za0 _ _ _ _).mono ?_;rintro e w' ⟨rfl,rfl⟩);go_ret;exact⟨zac (by rw[R.out]),Aw _ _⟩
   have R:=Aq (show xs.all (fun c=>M.inn c.1 0 (m-1))=(xs.drop (k+1)).all (fun c=>M.inn c.1 0 (m-1))by rw[H.out,hd.out,Dv];simp only[hs,Ew]);go_wp2_with (go_at_call 67;refine(za0 _ _ _ _).mono ?_;rintro e w' ⟨rfl,rfl⟩);go_round
   case rel=>exact⟨k+1,by go_num,by omega,R⟩
   case measure=>simp[intOf];omega
  have HS:=Aq (zsk xs m (by rw[H.out,Ej (by rw[hl.out];omega)];rfl));clear H;go_wp2_with (go_at_call 129;refine(zsh _ _ _ _ _ hx hn).mono ?_;rintro e w2 ⟨rfl,bel2⟩);go_ret;exact⟨zac (by rw[HS.out,Bool.and_true]),bel2⟩
end Go.Proofs.YtifeldeikhmckaaGreat
