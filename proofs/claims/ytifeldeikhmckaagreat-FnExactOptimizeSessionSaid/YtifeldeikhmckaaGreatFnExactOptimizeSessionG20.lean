import Derived.Test.YtifeldeikhmckaaGreatFnExactOptimizeSessionG19
import Derived.Lib.QuietBelow
import Derived.Test.YtifeldeikhmckaaGreatFnExactOptimizeSessionG15
import Derived.Test.YtifeldeikhmckaaGreatFnExactOptimizeSessionG12
import Derived.Test.YtifeldeikhmckaaGreatFnExactOptimizeSessionG13
set_option linter.unusedVariables false
set_option linter.unusedSimpArgs false
set_option maxRecDepth 100000
set_option maxHeartbeats 4000000
namespace Go.Proofs.YtifeldeikhmckaaGreat
open Go.RowKit Go.Sort
set_option synthInstance.maxSize 2000
set_option synthInstance.maxHeartbeats 400000
theorem zsc{w:Yw}{B:Nat}{A:Yo}{n c:Nat}{xs:List Clip}(h:tT.R w B [.slice A n c] xs):RA cl 5 w B A n xs:=(sl_R.1 h).flat.1
theorem zhm{w:Yw}{B:Nat}{A:Yo}{n c:Nat}{ts:List (List zas)}(hr:RS tT w B (.slice A n c) ts)(hb:hTS.sz ts<=100000000){k:Nat}(hk:k<n):
 ∃(bb o:Nat) (A1:Yo) (n1 c1:Nat) (x:List zas),A=some ⟨bb,o,none⟩/\bb<B/\Hid (ts[k]?=some x)/\w.cell? ⟨bb,o+k,none⟩=some (.slice A1 n1 c1)/\tT.R w B [.slice A1 n1 c1] x/\RA cl 5 w B A1 n1 x/\n1<=100000000:=by
 obtain rfl:ts.length=n:=hr.cap.1;have hX:=List.getElem?_eq_getElem hk;obtain⟨bb,o,c1,cs,hv,hab,-,hE,hc⟩:=hr.atX hX;simp only[Value.slice.injEq]at hv;obtain⟨rfl,-,rfl⟩:=hv;have hU:=hT.szL_at hX;have hU2:ts.length+hT.szL ts<=100000000:=hb;generalize ts[k]=x at hX hE hU;obtain⟨A1,n1,c1,rfl⟩:=za9 hE;have e0:w.cell? ⟨bb,o+k*1,none⟩=some (.slice A1 n1 c1):=hc 0 _ rfl;rw[Nat.mul_one]at e0;have hra:=zsc hE;have hl:x.length=n1:=hra.len;have hz:x.length<=hT.sz x:=Nat.le_add_right _ _;exact⟨bb,o,A1,n1,c1,x,rfl,hab,Lib.hid hX,e0,hE,hra,by omega⟩
theorem zhn{w:Yw}{B:Nat}{A:Yo}{n c:Nat}{ps:List zad}(hr:RS tP w B (.slice A n c) ps)(hb:hPS.sz ps<=100000000){k:Nat}(hk:k<n):
 ∃(bb o:Nat) (a0:Int) (A1:Yo) (n1 c1:Nat) (A2:Yo) (n2 c2:Nat) (A3:Yo) (n3 c3:Nat) (x1:List (List Int)) (x2:List Node) (x3:List Int),A=some ⟨bb,o,none⟩/\bb<B/\Hid (ps[k]?=some (a0,x1,x2,x3))/\
  w.cell? ⟨bb,o+k*4,none⟩=some (.int .i64 a0)/\w.cell? ⟨bb,o+k*4+1,none⟩=some (.slice A1 n1 c1)/\w.cell? ⟨bb,o+k*4+2,none⟩=some (.slice A2 n2 c2)/\w.cell? ⟨bb,o+k*4+3,none⟩=some (.slice A3 n3 c3)/\
  tSS.R w B [.slice A1 n1 c1] x1/\tNS.R w B [.slice A2 n2 c2] x2/\tS.R w B [.slice A3 n3 c3] x3/\hP.sz ((a0,x1,x2,x3):zad)<=100000000:=by
 obtain rfl:ps.length=n:=hr.cap.1;have hX:=List.getElem?_eq_getElem hk;obtain⟨bb,o,c1,cs,hv,hab,-,hE,hc⟩:=hr.atX hX;simp only[Value.slice.injEq]at hv;obtain⟨rfl,-,rfl⟩:=hv;have hU:=hP.szL_at hX;have hU2:ps.length+hP.szL ps<=100000000:=hb;generalize ps[k]=x at hX hE hU;obtain⟨a0,x1,x2,x3⟩:=x;obtain⟨A1,n1,c1,A2,n2,c2,A3,n3,c3,rfl,h1,h2,h3⟩:=tP_R.1 hE;have e0:w.cell? ⟨bb,o+k*4,none⟩=some (.int .i64 a0):=hc 0 _ rfl;exact⟨bb,o,a0,A1,n1,c1,A2,n2,c2,A3,n3,c3,x1,x2,x3,rfl,hab,Lib.hid hX,e0,hc 1 _ rfl,hc 2 _ rfl,hc 3 _ rfl,h1,h2,h3,by omega⟩
theorem zsd(vb:Nat)(a0:Int)(A1:Yo)(n1 c1:Nat)(A2:Yo)(n2 c2:Nat)(A3:Yo)(n3 c3:Nat)(A4:Yo)(n4 c4:Nat)(A5:Yo)(n5 c5:Nat)(x1:List (List Int))(x2:List (List zas))(x3:List Int)(x4:List zad)(x5:List zag)(w:Yw)(p0:w.cell? ⟨vb,0,none⟩=some (.int .i64 a0))(p1:w.cell? ⟨vb,1,none⟩=some (.slice A1 n1 c1))(p2:w.cell? ⟨vb,2,none⟩=some (.slice A2 n2 c2))(p3:w.cell? ⟨vb,3,none⟩=some (.slice A3 n3 c3))(p4:w.cell? ⟨vb,4,none⟩=some (.slice A4 n4 c4))(p5:w.cell? ⟨vb,5,none⟩=some (.slice A5 n5 c5))(h1:tSS.R w w.heap.size [.slice A1 n1 c1] x1)(h2:tTS.R w w.heap.size [.slice A2 n2 c2] x2)(h3:tS.R w w.heap.size [.slice A3 n3 c3] x3)(h4:tPS.R w w.heap.size [.slice A4 n4 c4] x4)(h5:tM.R w w.heap.size [.slice A5 n5 c5] x5)(hn:hZ.sz ((a0,x1,x2,x3,x4,x5):Sess)<=100000000):
 Calls Tryz.prog 25 #[.pointer (some ⟨vb,0,none⟩)] w fun e w'=>e=.returned (.bool (zcl (a0,x1,x2,x3,x4,x5)))/\Below w.heap.size w w':=by
 have k1:=h1;have k2:=h2;have k3:=h3;have k4:=h4;have k5:=h5;have lv:vb<w.heap.size:=World.block_lt_of_cell? w _ p0;rw[zdi]at hn;have r1:=sl_R.1 k1;have L1:=Lib.hid r1.cap.1;have r2:=sl_R.1 k2;have L2:=Lib.hid r2.cap.1;have r3:=sl_R.1 k3;have L3:=Lib.hid r3.cap.1;have r4:=sl_R.1 k4;have L4:=Lib.hid r4.cap.1;have r5:=sl_R.1 k5;have L5:=Lib.hid r5.cap.1;have z1:hSS.sz x1<=100000000:=by omega
 have bn1:n1<=100000000:=by have e:x1.length+hS.szL x1=hSS.sz x1:=rfl;have:=L1.out;omega
 have z2:hTS.sz x2<=100000000:=by omega
 have bn2:n2<=100000000:=by have e:x2.length+hT.szL x2=hTS.sz x2:=rfl;have:=L2.out;omega
 have z3:hS.sz x3<=100000000:=by omega
 have bn3:n3<=100000000:=by have e:x3.length+hI.szL x3=hS.sz x3:=rfl;have:=L3.out;omega
 have z4:hPS.sz x4<=100000000:=by omega
 have bn4:n4<=100000000:=by have e:x4.length+hP.szL x4=hPS.sz x4:=rfl;have:=L4.out;omega
 have z5:hM.sz x5<=100000000:=by omega
 have bn5:n5<=100000000:=by have e:x5.length+hSt.szL x5=hM.sz x5:=rfl;have:=L5.out;omega
 have hb1:Hid (∀x∈x1,x.length<=1000000000):=Lib.hid (fun x hx=>by
  have hq1:x1.length+hS.szL x1=hSS.sz x1:=rfl;obtain⟨i,hi⟩:=List.getElem?_of_mem hx;have:=hS.szL_at hi;rw[zbi]at this;omega)
 have hx3:=(tS_R.1 k3).ri;clear hn;have HS:=Lib.hid (show zcl (a0,x1,x2,x3,x4,x5)=(M.inn a0 0 1000&&(decide (n1<=6)&&x1.all M.sig)&&decide (n2<=6)&&zby x5&&decide (n3=n2)&&x3.all (zbh n5)&&decide (n4=n5)&&x2.all (fun t=>za4 t&&zbp t n1)&&x4.all zao)by rw[zcl,zen];simp only[L1.out,L2.out,L3.out,L4.out,L5.out]);generalize zcl (a0,x1,x2,x3,x4,x5)=ok at HS ⊢;have cI:∀d os,Calls Tryz.prog 67 #[.int .i64 a0,.int .i64 0,.int .i64 1000] (grow (redrawn w d) os) fun e w''=>e=.returned (.bool (M.inn a0 0 1000))/\∃p:Regrown,w''=grow (redrawn w p.d) p.os:=fun d os=>Calls.regrown_of (zfo (zaw _ _ _ _))
 have cM:∀d os,Calls Tryz.prog 68 #[.pointer (some ⟨vb,5,none⟩)] (grow (redrawn w d) os) fun e w''=>e=.returned (.bool (zby x5))/\∃p:Regrown,w''=grow (redrawn w p.d) p.os:=fun d os=>Calls.regrown_of (zsb vb 5 A5 n5 c5 x5 _ (cell_regrown p5 d os) (tM.later k5 (below_regrown w d os)) z5)
 have pp0:=cell_regrown p0;have pp1:=cell_regrown p1;have pp2:=cell_regrown p2;have pp3:=cell_regrown p3;have pp4:=cell_regrown p4;have pp5:=cell_regrown p5;clear p0 p1 p2 p3 p4 p5;cases g0:M.inn a0 0 1000
 ·have R:=Lib.hid (show ok=false by rw[HS.out];simp only[g0,Bool.false_and,Bool.and_false,Bool.true_and]);rw[g0]at cI;clear g0
  go_enter Tryz.func25,Tryz.ntmps25
  go_wp2_with fail
  (refine wp_region_quiet_below (by kernel_rfl) (by kernel_rfl) ?_;(repeat (go_big_quiet_step ((first|exact cI _ _|exact cM _ _))));refine wpQuiet_nil ?_;intro _ hw';obtain⟨⟨dq,osq⟩,hw''⟩:=hw';subst hw'')
  go_wp2;go_ret;exact⟨zac (by rw[R.out]),below_regrown w dq osq⟩
 rw[g0]at cI;have G0:=Lib.hid g0;clear g0
 by_cases g1:¬n1<=6
 ·have R:=Lib.hid (show ok=false by rw[HS.out];simp only[G0.out,decide_eq_false g1,Bool.false_and,Bool.and_false,Bool.true_and]);have gg:decide ((6:Int)<(n1:Int))=true:=decide_eq_true (by omega)
  go_enter Tryz.func25,Tryz.ntmps25
  go_wp2_with fail
  (refine wp_region_quiet_below (by kernel_rfl) (by kernel_rfl) ?_;(repeat (go_big_quiet_step ((first|exact cI _ _|exact cM _ _))));refine wpQuiet_nil ?_;intro _ hw';obtain⟨⟨dq,osq⟩,hw''⟩:=hw';subst hw'')
  go_wp2;go_ret;exact⟨zac (by rw[R.out]),below_regrown w dq osq⟩
 replace g1:n1<=6:=Decidable.not_not.1 g1;have gd1:decide ((6:Int)<(n1:Int))=false:=decide_eq_false (by omega)
 by_cases g2:¬n2<=6
 ·have R:=Lib.hid (show ok=false by rw[HS.out];simp only[G0.out,decide_eq_true g1,decide_eq_false g2,Bool.false_and,Bool.and_false,Bool.true_and]);have gg:decide ((6:Int)<(n2:Int))=true:=decide_eq_true (by omega)
  go_enter Tryz.func25,Tryz.ntmps25
  go_wp2_with fail
  (refine wp_region_quiet_below (by kernel_rfl) (by kernel_rfl) ?_;(repeat (go_big_quiet_step ((first|exact cI _ _|exact cM _ _))));refine wpQuiet_nil ?_;intro _ hw';obtain⟨⟨dq,osq⟩,hw''⟩:=hw';subst hw'')
  go_wp2;go_ret;exact⟨zac (by rw[R.out]),below_regrown w dq osq⟩
 replace g2:n2<=6:=Decidable.not_not.1 g2;have gd2:decide ((6:Int)<(n2:Int))=false:=decide_eq_false (by omega);cases g3:zby x5
 ·have R:=Lib.hid (show ok=false by rw[HS.out];simp only[G0.out,decide_eq_true g1,decide_eq_true g2,g3,Bool.false_and,Bool.and_false,Bool.true_and]);rw[g3]at cM;clear g3
  go_enter Tryz.func25,Tryz.ntmps25
  go_wp2_with fail
  (refine wp_region_quiet_below (by kernel_rfl) (by kernel_rfl) ?_;(repeat (go_big_quiet_step ((first|exact cI _ _|exact cM _ _))));refine wpQuiet_nil ?_;intro _ hw';obtain⟨⟨dq,osq⟩,hw''⟩:=hw';subst hw'')
  go_wp2;go_ret;exact⟨zac (by rw[R.out]),below_regrown w dq osq⟩
 rw[g3]at cM;have G3:=Lib.hid g3;clear g3
 by_cases g4:¬n3=n2
 ·have R:=Lib.hid (show ok=false by rw[HS.out];simp only[G0.out,decide_eq_true g1,decide_eq_true g2,G3.out,decide_eq_false g4,Bool.false_and,Bool.and_false,Bool.true_and]);have gg:((n3:Int) != (n2:Int))=true:=by simp;omega
  go_enter Tryz.func25,Tryz.ntmps25
  go_wp2_with fail
  (refine wp_region_quiet_below (by kernel_rfl) (by kernel_rfl) ?_;(repeat (go_big_quiet_step ((first|exact cI _ _|exact cM _ _))));refine wpQuiet_nil ?_;intro _ hw';obtain⟨⟨dq,osq⟩,hw''⟩:=hw';subst hw'')
  go_wp2;go_ret;exact⟨zac (by rw[R.out]),below_regrown w dq osq⟩
 replace g4:n3=n2:=Decidable.not_not.1 g4;subst g4
 by_cases g5:¬n4=n5
 ·have R:=Lib.hid (show ok=false by rw[HS.out];simp only[G0.out,decide_eq_true g1,decide_eq_true g2,G3.out,decide_true,decide_eq_false g5,Bool.false_and,Bool.and_false,Bool.true_and]);have gg:((n4:Int) != (n5:Int))=true:=by simp;omega
  go_enter Tryz.func25,Tryz.ntmps25
  go_wp2_with fail
  (refine wp_region_quiet_below (by kernel_rfl) (by kernel_rfl) ?_;(repeat (go_big_quiet_step ((first|exact cI _ _|exact cM _ _))));refine wpQuiet_nil ?_;intro _ hw';obtain⟨⟨dq,osq⟩,hw''⟩:=hw';subst hw'')
  go_wp2;go_ret;exact⟨zac (by rw[R.out]),below_regrown w dq osq⟩
 replace g5:n4=n5:=Decidable.not_not.1 g5;subst g5;have HS2:=Lib.hid (show ok=(x1.all M.sig&&x3.all (zbh n4)&&x2.all (fun t=>za4 t&&zbp t n1)&&x4.all zao)by rw[HS.out];simp only[G0.out,decide_eq_true g1,decide_eq_true g2,G3.out,decide_true,Bool.true_and,Bool.and_true])
 go_enter Tryz.func25,Tryz.ntmps25
 go_wp2_with fail
 (refine wp_region_quiet_below (by kernel_rfl) (by kernel_rfl) ?_;(repeat (go_big_quiet_step ((first|exact cI _ _|exact cM _ _))));refine wpQuiet_nil ?_;intro _ hw';obtain⟨⟨dq,osq⟩,hw''⟩:=hw';subst hw'')
 replace pp0:=pp0 dq osq;replace pp1:=pp1 dq osq;replace pp2:=pp2 dq osq;replace pp3:=pp3 dq osq;replace pp4:=pp4 dq osq;replace pp5:=pp5 dq osq;have BV:=below_regrown w dq osq;replace k1:=tSS.later k1 BV;replace k2:=tTS.later k2 BV;replace k3:=tS.later k3 BV;replace k4:=tPS.later k4 BV;replace k5:=tM.later k5 BV;clear cI cM HS r1 r2 r3 r4 r5 hx3;generalize grow (redrawn w dq) osq=V at pp0 pp1 pp2 pp3 pp4 pp5 k1 k2 k3 k4 k5 BV ⊢;have lV:vb<V.heap.size:=World.block_lt_of_cell? V _ pp0;have r1:=sl_R.1 k1;have r2:=sl_R.1 k2;have r4:=sl_R.1 k4;have hx3:=(tS_R.1 k3).ri;go_wp2_with fail
 go_loop [3] (fun i=>∃k:Nat,i=.int .i64 k/\k<=n1/\Hid (x1.all M.sig=(x1.drop k).all M.sig)) (fun i=>n1-(intOf i).toNat)
 case atStart=>exact⟨0,rfl,by omega,Lib.hid (by simp)⟩
 case round=>
  obtain⟨k,rfl,hk,H⟩:=hrel
  by_cases hlt:k<n1
  ·obtain⟨bb,o,A7,c7,x,rfl,hbb,Y,hc,hri,hxl⟩:=zeq r1 hb1 hlt;have hd:=Lib.hid (M.drop_at Y.out);have hk0:(0:Int)<=(k:Int):=(by omega);have hkn:(k:Int)<(n1:Int):=(by omega);cases hs:M.sig x
   ·have R:=Lib.hid (show ok=false by rw[HS2.out,H.out,hd.out,List.all_cons,hs];rfl);have HQ:=Lib.hid hs;clear hs;go_wp2_with fail;refine(zg2 _ _ _ _ _ hri hxl).mono ?_;rw[HQ.out];rintro e w' ⟨rfl,rfl⟩;go_wp2;go_ret;exact⟨zac (by rw[R.out]),BV⟩
   have R:=Lib.hid (show x1.all M.sig=(x1.drop (k+1)).all M.sig by rw[H.out,hd.out,List.all_cons,hs];rfl);have HQ:=Lib.hid hs;clear hs;go_wp2_with fail;refine(zg2 _ _ _ _ _ hri hxl).mono ?_;rw[HQ.out];rintro e w' ⟨rfl,rfl⟩;go_wp2;go_round
   case rel=>exact⟨k+1,by go_num,by omega,R⟩
   case measure=>simp[intOf];omega
  have HS3:=Lib.hid (show ok=(x3.all (zbh n4)&&x2.all (fun t=>za4 t&&zbp t n1)&&x4.all zao)by rw[HS2.out,H.out,List.drop_eq_nil_of_le (by rw[L1.out];omega)];rfl);go_wp2_with fail;clear H hk hlt
  go_loopw [4] (fun i wr=>∃k:Nat,i=.int .i64 k/\k<=n3/\Hid (ok=((x3.drop k).all (zbh n4)&&(x2.drop k).all (fun t=>za4 t&&zbp t n1)&&x4.all zao))/\Below V.heap.size V wr) (fun i _=>n3-(intOf i).toNat)
  case atStart=>exact⟨0,rfl,by omega,Lib.hid HS3.out,Below.refl _ _⟩
  case round=>
   obtain⟨k,rfl,hk,H,Bw⟩:=hrel;have BW:=zaa BV Bw
   by_cases hlt:k<n3
   ·obtain⟨bt,ot,A7,n7,c7,t,rfl,hbt,Y,e0,hT,hra,h7⟩:=zhm (r2.below Bw) z2 hlt;obtain⟨ad,f,rfl,hab,Y3,f0⟩:=(hx3.below Bw).at hlt;have hd:=Lib.hid (M.drop_at Y.out);have hd3:=Lib.hid (M.drop_at Y3.out);have hk0:(0:Int)<=(k:Int):=(by omega);have hkn:(k:Int)<(n3:Int):=(by omega);have hn4:IntKind.i64.wrap ((n4:Int)-1)=(n4:Int)-1:=IntWalk.i64_in _ (by omega);have ee0:=cell_regrown e0;have ff0:=cell_regrown f0;have q0:=cell_regrown (show wr.cell? ⟨vb,0,none⟩=some (.int .i64 a0)by rw[Bw.cell lV];exact pp0);have q1:=cell_regrown (show wr.cell? ⟨vb,1,none⟩=some (.slice A1 n1 c1)by rw[Bw.cell lV];exact pp1);have q2:=cell_regrown (show wr.cell? ⟨vb,2,none⟩=some (.slice (some ⟨bt,ot,none⟩) n3 c2)by rw[Bw.cell lV];exact pp2);have q3:=cell_regrown (show wr.cell? ⟨vb,3,none⟩=some (.slice (some ad) n3 c3)by rw[Bw.cell lV];exact pp3);have q5:=cell_regrown (show wr.cell? ⟨vb,5,none⟩=some (.slice A5 n4 c5)by rw[Bw.cell lV];exact pp5);have q2w:wr.cell? ⟨vb,2,none⟩=some (.slice (some ⟨bt,ot,none⟩) n3 c2):=(by rw[Bw.cell lV];exact pp2);have hra2:=fun d os=>(hra.more Bw.size).later (below_regrown wr d os)
    have cT:∀d os,Calls Tryz.prog 70 #[.pointer (some ⟨bt,ot+k,none⟩),.int .i64 n1] (grow (redrawn wr d) os) fun e w''=>e=.returned (.bool (za4 t&&zbp t n1))/\∃p:Regrown,w''=grow (redrawn wr p.d) p.os:=fun d os=>Calls.regrown_of (zr2 bt (ot+k) A7 n7 c7 t n1 _ (ee0 d os) (hra2 d os) (by omega) (by omega))
    have cI:∀d os,Calls Tryz.prog 67 #[.int .i64 f,.int .i64 0,.int .i64 ((n4:Int)-1)] (grow (redrawn wr d) os) fun e w''=>e=.returned (.bool (M.inn f 0 ((n4:Int)-1)))/\∃p:Regrown,w''=grow (redrawn wr p.d) p.os:=fun d os=>Calls.regrown_of (zfo (zaw _ _ _ _))
    clear e0 f0;cases hs:(za4 t&&zbp t n1)
    ·have R:=Lib.hid (show ok=false by rw[H.out,hd.out,hd3.out,List.all_cons,List.all_cons];simp only[hs,Bool.false_and,Bool.and_false]);rw[hs]at cT;clear hs;go_wp2_with fail;clear q2w
     (refine wp_region_quiet_below (by kernel_rfl) (by kernel_rfl) ?_;(repeat (go_big_quiet_step ((first|exact cT _ _|exact cI _ _))));refine wpQuiet_nil ?_;intro _ hw';obtain⟨⟨dq,osq⟩,hw''⟩:=hw';subst hw'')
     go_wp2;go_ret;exact⟨zac (by rw[R.out]),zaa BW (below_regrown wr dq osq)⟩
    rw[hs]at cT;cases hf:M.inn f 0 ((n4:Int)-1)
    ·have R:=Lib.hid (show ok=false by rw[H.out,hd.out,hd3.out,List.all_cons,List.all_cons,zbh];simp only[hf,Bool.false_and]);rw[hf]at cI;clear hs hf;go_wp2_with fail;clear q2w
     (refine wp_region_quiet_below (by kernel_rfl) (by kernel_rfl) ?_;(repeat (go_big_quiet_step ((first|exact cT _ _|exact cI _ _))));refine wpQuiet_nil ?_;intro _ hw';obtain⟨⟨dq,osq⟩,hw''⟩:=hw';subst hw'')
     go_wp2;go_ret;exact⟨zac (by rw[R.out]),zaa BW (below_regrown wr dq osq)⟩
    have R:=Lib.hid (show ok=((x3.drop (k+1)).all (zbh n4)&&(x2.drop (k+1)).all (fun t=>za4 t&&zbp t n1)&&x4.all zao)by rw[H.out,hd.out,hd3.out,List.all_cons,List.all_cons,zbh];simp only[hf,hs,Bool.true_and]);rw[hf]at cI;clear hs hf;go_wp2_with fail;clear q2w
    (refine wp_region_quiet_below (by kernel_rfl) (by kernel_rfl) ?_;(repeat (go_big_quiet_step ((first|exact cT _ _|exact cI _ _))));refine wpQuiet_nil ?_;intro _ hw';obtain⟨⟨dq,osq⟩,hw''⟩:=hw';subst hw'')
    go_wp2;go_roundw
    case rel=>exact⟨k+1,by go_num,by omega,R,zaa Bw (below_regrown wr dq osq)⟩
    case measure=>simp[intOf];omega
   have HS4:=Lib.hid (show ok=x4.all zao by rw[H.out,List.drop_eq_nil_of_le (by rw[L3.out];omega),List.drop_eq_nil_of_le (by rw[L2.out];omega)];rfl);have q2:wr.cell? ⟨vb,2,none⟩=some (.slice A2 n3 c2):=(by rw[Bw.cell lV];exact pp2);go_wp2_with fail;clear H hk;obtain⟨wo,rfl⟩:∃wo:Yw,wo=wr:=⟨_,rfl⟩
   go_loopw [5] (fun i wr=>∃k:Nat,i=.int .i64 k/\k<=n4/\Hid (ok=(x4.drop k).all zao)/\Below V.heap.size V wr) (fun i _=>n4-(intOf i).toNat)
   case atStart=>exact⟨0,rfl,by omega,Lib.hid HS4.out,Bw⟩
   case round=>
    obtain⟨k,rfl,hk,H,Bw2⟩:=hrel;have BW:=zaa BV Bw2;have q4:wr.cell? ⟨vb,4,none⟩=some (.slice A4 n4 c4):=by rw[Bw2.cell lV];exact pp4
    by_cases hlt2:k<n4
    ·obtain⟨bp,op,b0,B1,m1,d1,B2,m2,d2,B3,m3,d3,y1,y2,y3,rfl,hbp,Y,e0,e1,e2,e3,t1,t2,t3,hz⟩:=zhn (r4.below Bw2) z4 hlt2;have hd:=Lib.hid (M.drop_at Y.out);have s1:=tSS.more Bw2.size t1;have s2:=tNS.more Bw2.size t2;have s3:=tS.more Bw2.size t3;have M1:=Lib.hid (sl_R.1 s1).cap.1;have M2:=Lib.hid (sl_R.1 s2).cap.1;have M3:=Lib.hid (zcn s3);have hk0:(0:Int)<=(k:Int):=(by omega);have hkn:(k:Int)<(n4:Int):=(by omega);clear t1 t2 t3;cases hno:decide (((b0,y1,y2,y3):zad)=M.p0)
     ·have HNO:=Lib.hid hno
      by_cases hb0:b0=1
      ·subst hb0
       by_cases hm3:m3=1
       ·subst hm3;cases hp:zcd (1,y1,y2,y3)
        ·have R:=Lib.hid (show ok=false by rw[H.out,hd.out,List.all_cons,zao];simp only[hno,hp,Bool.false_or,Bool.false_and]);have HP:=Lib.hid hp;clear hno hp
         go_wp2_with (first
          | (go_at_call 27;refine(zfr bp (op+k*4) 1 B1 m1 d1 B2 m2 d2 B3 1 d3 y1 y2 y3 wr e0 e1 e2 e3 M1 M2 M3).mono ?_;rw[HNO.out];rintro e w' ⟨rfl,rfl⟩)
          | (go_at_call 71;refine(zlp bp (op+k*4) 1 B1 m1 d1 B2 m2 d2 B3 1 d3 y1 y2 y3 wr e0 e1 e2 e3 s1 s2 s3 hz).mono ?_;rw[HP.out];rintro e w5 ⟨rfl,bel5⟩))
         go_ret;exact⟨zac (by rw[R.out]),zaa BW bel5⟩
        have R:=Lib.hid (show ok=(x4.drop (k+1)).all zao by rw[H.out,hd.out,List.all_cons,zao];simp only[hno,hp,M3.out,decide_true,Bool.false_or,Bool.true_and]);have HP:=Lib.hid hp;clear hno hp
        go_wp2_with (first
         | (go_at_call 27;refine(zfr bp (op+k*4) 1 B1 m1 d1 B2 m2 d2 B3 1 d3 y1 y2 y3 wr e0 e1 e2 e3 M1 M2 M3).mono ?_;rw[HNO.out];rintro e w' ⟨rfl,rfl⟩)
         | (go_at_call 71;refine(zlp bp (op+k*4) 1 B1 m1 d1 B2 m2 d2 B3 1 d3 y1 y2 y3 wr e0 e1 e2 e3 s1 s2 s3 hz).mono ?_;rw[HP.out];rintro e w5 ⟨rfl,bel5⟩))
        go_roundw
        case rel=>exact⟨k+1,by go_num,by omega,R,zaa Bw2 bel5⟩
        case measure=>simp[intOf];omega
       have R:=Lib.hid (show ok=false by rw[H.out,hd.out,List.all_cons,zao];simp only[hno,M3.out,decide_eq_false hm3,Bool.false_or,Bool.and_false,Bool.false_and]);have gm:((m3:Int) != 1)=true:=(by simp;omega);clear hno;go_wp2_with (go_at_call 27;refine(zfr bp (op+k*4) 1 B1 m1 d1 B2 m2 d2 B3 m3 d3 y1 y2 y3 wr e0 e1 e2 e3 M1 M2 M3).mono ?_;rw[HNO.out];rintro e w' ⟨rfl,rfl⟩);go_ret;exact⟨zac (by rw[R.out]),BW⟩
      have R:=Lib.hid (show ok=false by rw[H.out,hd.out,List.all_cons,zao];simp only[hno,decide_eq_false hb0,Bool.false_or,Bool.and_false,Bool.false_and]);have gb:(b0 != 1)=true:=(by simpa using hb0);clear hno;go_wp2_with (go_at_call 27;refine(zfr bp (op+k*4) b0 B1 m1 d1 B2 m2 d2 B3 m3 d3 y1 y2 y3 wr e0 e1 e2 e3 M1 M2 M3).mono ?_;rw[HNO.out];rintro e w' ⟨rfl,rfl⟩);go_ret;exact⟨zac (by rw[R.out]),BW⟩
     have R:=Lib.hid (show ok=(x4.drop (k+1)).all zao by rw[H.out,hd.out,List.all_cons,zao];simp only[hno,Bool.true_or,Bool.true_and]);have HNO:=Lib.hid hno;clear hno;go_wp2_with (go_at_call 27;refine(zfr bp (op+k*4) b0 B1 m1 d1 B2 m2 d2 B3 m3 d3 y1 y2 y3 wr e0 e1 e2 e3 M1 M2 M3).mono ?_;rw[HNO.out];rintro e w' ⟨rfl,rfl⟩);go_roundw
     case rel=>exact⟨k+1,by go_num,by omega,R,Bw2⟩
     case measure=>simp[intOf];omega
    have R:=Lib.hid (show ok=true by rw[H.out,List.drop_eq_nil_of_le (by rw[L4.out];omega)];rfl);go_wp2;go_ret;exact⟨zac (by rw[R.out]),BW⟩
theorem zdj{x:Node}{tb:Int}(h:zaj x tb=true):M.inn x.1 1 17=true/\(x.1=6->1<=x.2.1/\x.2.1<=16)/\(x.1=17->1<=x.2.2.1/\x.2.2.1<=16):=by
 obtain⟨k,a,b,l⟩:=x;rw[zaj]at h;simp only[Bool.and_eq_true]at h;refine⟨h.1,fun e=>?_,fun e=>?_⟩
 ·simp only at e;subst e;have h2:=h.2.1.1.1.1;simp[M.aI,M.kd,zfa,M.inn]at h2;exact h2
 simp only at e;subst e;have h2:=h.2.1.1.1.2;simp[M.bI,M.kd,zfa,M.inn]at h2;exact h2
def zbc (fs vs:List Int):List Int:=fs.map fun f=>M.i_ vs f.toNat
theorem zi0(fs vs:List Int):(zbc fs vs).length=fs.length:=by simp[zbc]
theorem zlv{fs vs:List Int}{k:Nat}{f:Int}(h:fs[k]?=some f):(zbc fs vs).take (k+1)=(zbc fs vs).take k++[M.i_ vs f.toNat]:=by
 rw[M.take_at];simp[zbc,h]
theorem zi1{vs:List Int}{k:Nat}{v:Int}(h:vs[k]?=some v):M.i_ vs k=v:=by rw[M.i_,h];rfl
theorem zlw(A A':Yo)(n c n' c':Nat)(fs vs:List Int)(w:Yw)(hx:RI w w.heap.size A n fs)(hv:RI w w.heap.size A' n' vs)(hn:n<=1000000000)(hn':n'<=1000000000)(hr:Hid (∀f∈fs,0<=f/\f<n')):
 Calls Tryz.prog 153 #[.slice A n c,.slice A' n' c'] w (Ret1 2 w (zbc fs vs)):=by
 have hl:=Lib.hid hx.len
 go_enter Tryz.func153,Tryz.ntmps153
 go_wp2_with fail
 go_loopw [5,11] (fun v i wr=>∃k:Nat,i=.int .i64 k/\k<=n/\OI 2 w.heap.size wr v ((zbc fs vs).take k)/\Below w.heap.size w wr) (fun _ i _=>n-(intOf i).toNat)
 case atStart=>exact⟨0,rfl,by omega,OI.made _ _,(Below.refl _ _).alloc (Nat.le_refl _) _⟩
 case round=>
  obtain⟨k,rfl,hk,own,hb⟩:=hrel
  by_cases hlt:k<n
  ·obtain⟨ad,f,rfl,hab,X,hc⟩:=((hx.below hb).more hb.size).at hlt;have hfr:=hr.out f (List.mem_of_getElem? X.out);obtain⟨m,rfl⟩:∃m:Nat,f=(m:Int):=⟨f.toNat,by omega⟩;obtain⟨ad2,y,rfl,hab2,Y,hc2⟩:=((hv.below hb).more hb.size).at (k:=m) (by omega);have HT:=Lib.hid (show (zbc fs vs).take (k+1)=(zbc fs vs).take k++[y]by rw[zlv X.out,Int.toNat_natCast,zi1 Y.out]);have hk1:((zbc fs vs).take k).length<=1000000000:=(by rw[List.length_take];omega);have hm0:(0:Int)<=(m:Int):=(by omega);have hmn:(m:Int)<(n':Int):=(by omega);clear hfr;go_wp2_with (at_builtin;refine zdf zce rfl _ _ rfl own rfl rfl rfl (by unfold maxLen;omega) (by omega) hb.size ?_;intro v1 w1 own1 gr1 bel1);go_roundw
   case rel=>exact⟨k+1,by go_num,by omega,by rw[HT.out];exact OI.push own1,hb.trans bel1⟩
   case measure=>simp[intOf];omega
  go_wp2;go_ret;rw[List.take_of_length_le (by rw[zi0,hl.out];omega)]at own;exact⟨_,rfl,own,hb⟩
theorem zlx(A A':Yo)(n c n' c':Nat)(fs vs:List Int)(w:Yw)(hx:RI w w.heap.size A n fs)(hv:RI w w.heap.size A' n' vs)(hn:n<=1000000000)(hn':n'<=1000000000)(hr:Hid (∀f∈fs,0<=f/\f<n')):
 Calls Tryz.prog 134 #[.slice A n c,.slice A' n' c'] w (Ret1 2 w (zbc fs vs)):=by
 have hl:=Lib.hid hx.len
 go_enter Tryz.func134,Tryz.ntmps134
 go_wp2_with fail
 go_loopw [5,6] (fun v i wr=>∃k:Nat,i=.int .i64 k/\k<=n/\OI 2 w.heap.size wr v ((zbc fs vs).take k)/\Below w.heap.size w wr) (fun _ i _=>n-(intOf i).toNat)
 case atStart=>exact⟨0,rfl,by omega,OI.made _ _,(Below.refl _ _).alloc (Nat.le_refl _) _⟩
 case round=>
  obtain⟨k,rfl,hk,own,hb⟩:=hrel
  by_cases hlt:k<n
  ·obtain⟨ad,f,rfl,hab,X,hc⟩:=((hx.below hb).more hb.size).at hlt;have hfr:=hr.out f (List.mem_of_getElem? X.out);obtain⟨m,rfl⟩:∃m:Nat,f=(m:Int):=⟨f.toNat,by omega⟩;obtain⟨ad2,y,rfl,hab2,Y,hc2⟩:=((hv.below hb).more hb.size).at (k:=m) (by omega);have HT:=Lib.hid (show (zbc fs vs).take (k+1)=(zbc fs vs).take k++[y]by rw[zlv X.out,Int.toNat_natCast,zi1 Y.out]);have hk1:((zbc fs vs).take k).length<=1000000000:=(by rw[List.length_take];omega);have hm0:(0:Int)<=(m:Int):=(by omega);have hmn:(m:Int)<(n':Int):=(by omega);have hk0:(0:Int)<=(k:Int):=(by omega);have hkn:(k:Int)<(n:Int):=(by omega);clear hfr;go_wp2_with (at_builtin;refine zdf zce rfl _ _ rfl own rfl rfl rfl (by unfold maxLen;omega) (by omega) hb.size ?_;intro v1 w1 own1 gr1 bel1);go_roundw
   case rel=>exact⟨k+1,by go_num,by omega,by rw[HT.out];exact OI.push own1,hb.trans bel1⟩
   case measure=>simp[intOf];omega
  go_wp2;go_ret;rw[List.take_of_length_le (by rw[zi0,hl.out];omega)]at own;exact⟨_,rfl,own,hb⟩
end Go.Proofs.YtifeldeikhmckaaGreat
