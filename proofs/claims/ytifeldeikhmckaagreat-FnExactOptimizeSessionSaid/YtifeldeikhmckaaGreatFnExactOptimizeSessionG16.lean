import Derived.Test.YtifeldeikhmckaaGreatFnExactOptimizeSessionG15
import Derived.Lib.QuietBelow
import Derived.Test.YtifeldeikhmckaaGreatFnExactOptimizeSessionG12
import Derived.Test.YtifeldeikhmckaaGreatFnExactOptimizeSessionG13
import Derived.Deep.DeepCutAuto
set_option linter.unusedVariables false
set_option linter.unusedSimpArgs false
set_option maxRecDepth 100000
set_option maxHeartbeats 4000000
namespace Go.Proofs.YtifeldeikhmckaaGreat
open Go.RowKit Go.Sort
set_option synthInstance.maxSize 2000
set_option synthInstance.maxHeartbeats 400000
def zgn (tb n inp:Int) (x:Node):Bool:=zaj x tb&&(!(decide (x.1=1)&&decide (inp<=x.2.1))&&x.2.2.2.all (fun f=>decide (f<n)))
theorem ziz(tb n inp:Int)(x:Node):zgn tb n inp x=zbm tb n inp x:=by
 rw[zgn,zbm];cases h:zaj x tb
 ·rfl
 have hf:x.2.2.2.all zax=true:=by
  rw[zaj]at h;simp only[Bool.and_eq_true]at h;exact h.2.1.1.2
 have e:x.2.2.2.all (fun f=>decide (f<n))=x.2.2.2.all (zbh n):=by
  rw[List.all_eq_true]at hf;rw[Bool.eq_iff_iff,List.all_eq_true,List.all_eq_true];constructor
  ·intro h2 f hfm;have h3:=zbf.1 (hf f hfm);have h4:=h2 f hfm;simp at h4;exact zbf.2 (by omega)
  intro h2 f hfm;have h4:=zbf.1 (h2 f hfm);simp;omega
 rw[e,Bool.true_and,Bool.true_and,Bool.and_comm]
theorem zlo(b o:Nat)(a0:Int)(A1:Yo)(n1 c1:Nat)(A2:Yo)(n2 c2:Nat)(A3:Yo)(n3 c3:Nat)(x1:List (List Int))(x2:List Node)(x3:List Int)(w:Yw)(p0:w.cell? ⟨b,o,none⟩=some (.int .i64 a0))(p1:w.cell? ⟨b,o+1,none⟩=some (.slice A1 n1 c1))(p2:w.cell? ⟨b,o+2,none⟩=some (.slice A2 n2 c2))(p3:w.cell? ⟨b,o+3,none⟩=some (.slice A3 n3 c3))
 (h1:tSS.R w w.heap.size [.slice A1 n1 c1] x1) (h2:tNS.R w w.heap.size [.slice A2 n2 c2] x2) (h3:tS.R w w.heap.size [.slice A3 n3 c3] x3) (hn:hP.sz ((a0,x1,x2,x3):zad)<=100000000) :
 Calls Tryz.prog 130 #[.pointer (some ⟨b,o,none⟩)] w fun e w'=>e=.returned (.bool (za6 (a0,x1,x2,x3)))/\Below w.heap.size w w':=by
 have lx:b<w.heap.size:=World.block_lt_of_cell? w _ p0;rw[zco,zbi]at hn;have r1:=sl_R.1 h1;have r2:=sl_R.1 h2;have hx3:=(tS_R.1 h3).ri;have L1:=Lib.hid r1.cap.1;have L2:=Lib.hid r2.cap.1;have L3:=Lib.hid (zcn h3);have hb2:hNS.sz x2<=100000000:=by omega
 have hq1:x1.length+hS.szL x1=hSS.sz x1:=rfl
 have hb1:Hid (∀x∈x1,x.length<=1000000000):=Lib.hid (fun x hx=>by
  obtain⟨i,hi⟩:=List.getElem?_of_mem hx;have:=hS.szL_at hi;rw[zbi]at this;omega)
 have bn1:n1<=100000000:=by have:=L1.out;omega
 have bn2:n2<=100000000:=by have e:x2.length+hN.szL x2=hNS.sz x2:=rfl;have:=L2.out;omega
 have bn3:n3<=100000000:=by have:=L3.out;omega
 clear hn hq1 h1 h2 h3;cases g0:M.inn a0 0 4
 ·have R:=Lib.hid (show za6 (a0,x1,x2,x3)=false by rw[za6];simp only[g0];rfl)
  go_enter Tryz.func130,Tryz.ntmps130
  go_wp2_with (go_at_call 67;refine(zaw _ _ _ _).mono ?_;rintro e w' ⟨rfl,rfl⟩);go_ret;exact⟨zac (by rw[R.out]),Below.refl _ _⟩
 have G0:=Lib.hid g0;clear g0;cases g1:zbt x1
 ·have R:=Lib.hid (show za6 (a0,x1,x2,x3)=false by rw[za6];simp only[G0.out,g1];rfl);have G1:=Lib.hid g1;clear g1
  go_enter Tryz.func130,Tryz.ntmps130
  go_wp2_with (first|(go_at_call 67;refine(zaw _ _ _ _).mono ?_;rw[G0.out];rintro e w' ⟨rfl,rfl⟩)|(go_at_call 177;refine(zhk _ _ _ _ _ r1 hb1 (by omega)).mono ?_;rw[G1.out];rintro e w2 ⟨rfl,bel2⟩));go_ret;exact⟨zac (by rw[R.out]),bel2⟩
 have G1:=Lib.hid g1;clear g1
 by_cases g2:¬n2<=24
 ·have R:=Lib.hid (show za6 (a0,x1,x2,x3)=false by rw[za6];simp only[L2.out,decide_eq_false g2,Bool.and_false,Bool.false_and])
  go_enter Tryz.func130,Tryz.ntmps130
  go_wp2_with (first|(go_at_call 67;refine(zaw _ _ _ _).mono ?_;rw[G0.out];rintro e w' ⟨rfl,rfl⟩)|(go_at_call 177;refine(zhk _ _ _ _ _ r1 hb1 (by omega)).mono ?_;rw[G1.out];rintro e w2 ⟨rfl,bel2⟩));go_ret;exact⟨zac (by rw[R.out]),bel2⟩
 replace g2:n2<=24:=Decidable.not_not.1 g2
 by_cases g3:¬n3<=4
 ·have R:=Lib.hid (show za6 (a0,x1,x2,x3)=false by rw[za6];simp only[L3.out,decide_eq_false g3,Bool.and_false,Bool.false_and])
  go_enter Tryz.func130,Tryz.ntmps130
  go_wp2_with (first|(go_at_call 67;refine(zaw _ _ _ _).mono ?_;rw[G0.out];rintro e w' ⟨rfl,rfl⟩)|(go_at_call 177;refine(zhk _ _ _ _ _ r1 hb1 (by omega)).mono ?_;rw[G1.out];rintro e w2 ⟨rfl,bel2⟩;have k3:w2.cell? ⟨b,o+3,none⟩=some (.slice A3 n3 c3):=(by rw[bel2.cell lx];exact p3)));go_ret;exact⟨zac (by rw[R.out]),bel2⟩
 replace g3:n3<=4:=Decidable.not_not.1 g3
 have HF:=Lib.hid (show za6 (a0,x1,x2,x3)=(x3.all (zbh n2)&&x2.all (zbm n1 n2 a0))by
  rw[za6];simp only[G0.out,G1.out,L1.out,L2.out,L3.out,decide_eq_true g2,decide_eq_true g3,Bool.true_and])
 go_enter Tryz.func130,Tryz.ntmps130
 go_wp2_with (first|(go_at_call 67;refine(zaw _ _ _ _).mono ?_;rw[G0.out];rintro e w' ⟨rfl,rfl⟩)|(go_at_call 177;refine(zhk _ _ _ _ _ r1 hb1 (by omega)).mono ?_;rw[G1.out];rintro e w2 ⟨rfl,bel2⟩;have k3:w2.cell? ⟨b,o+3,none⟩=some (.slice A3 n3 c3):=(by rw[bel2.cell lx];exact p3)))
 go_loopw [4,5,6] (fun i _ _ wr=>∃k:Nat,i=.int .i64 k/\k<=n2/\Hid (x2.all (zbm n1 n2 a0)=(x2.drop k).all (zbm n1 n2 a0))/\Below w.heap.size w wr) (fun i _ _ _=>n2-(intOf i).toNat)
 case atStart=>exact⟨0,rfl,by omega,Lib.hid (by simp),bel2⟩
 case round=>
  obtain⟨k,rfl,hk,H,Bw⟩:=hrel;clear k3 bel2;have q0:wr.cell? ⟨b,o,none⟩=some (.int .i64 a0):=by rw[Bw.cell lx];exact p0
  have q1:wr.cell? ⟨b,o+1,none⟩=some (.slice A1 n1 c1):=by rw[Bw.cell lx];exact p1
  have q2:wr.cell? ⟨b,o+2,none⟩=some (.slice A2 n2 c2):=by rw[Bw.cell lx];exact p2
  have q3:wr.cell? ⟨b,o+3,none⟩=some (.slice A3 n3 c3):=by rw[Bw.cell lx];exact p3
  by_cases hlt:k<n2
  ·obtain⟨bb,o1,b0,b1,b2,A5,c5,y3,rfl,hbb,X,e0,e1,e2,e3,hr3,h3b⟩:=zfd (r2.below Bw) hb2 hlt;have hd:=Lib.hid (M.drop_at X.out);have hry:=hr3.more Bw.size;have hk0:(0:Int)<=(k:Int):=(by omega);have hkn:(k:Int)<(n2:Int):=(by omega);have hkw:IntKind.i64.wrap ((k:Int)+1)=(k:Int)+1:=IntWalk.i64_in _ (by omega);have cN:∀d os,Calls Tryz.prog 178 #[.pointer (some ⟨bb,o1+k*4,none⟩),.int .i64 n1] (grow (redrawn wr d) os) fun e w''=>e=.returned (.bool (zaj (b0,b1,b2,y3) n1))/\∃p:Regrown,w''=grow (redrawn wr p.d) p.os:=fun d os=>Calls.regrown_of (zry bb (o1+k*4) b0 b1 b2 A5 c5 y3 n1 _ (cell_regrown e0 d os) (cell_regrown e1 d os) (cell_regrown e2 d os) (cell_regrown e3 d os) (hry.later (below_regrown wr d os)) (by omega) (by omega))
   have qq0:=cell_regrown q0;have qq1:=cell_regrown q1;have qq2:=cell_regrown q2;have qq3:=cell_regrown q3;have ee0:=cell_regrown e0;have ee1:=cell_regrown e1;have ee3:=cell_regrown e3;have hryr:=fun d os=>hry.later (below_regrown wr d os)
   cases hok:zaj (b0,b1,b2,y3) n1
   ·have R:=Lib.hid (show za6 (a0,x1,x2,x3)=false by rw[HF.out,H.out,hd.out,List.all_cons,<-ziz,zgn,hok,Bool.false_and,Bool.false_and,Bool.and_false]);rw[hok]at cN;clear hok;go_wp2_with fail;clear q0 q1 q2 q3 e0 e1 e2 e3
    (refine wp_region_quiet_below (by kernel_rfl) (by kernel_rfl) ?_;(repeat (go_big_quiet_step (exact cN _ _)));refine wpQuiet_nil ?_;intro _ hw';obtain⟨⟨dq,osq⟩,hw''⟩:=hw';subst hw'')
    go_wp2;go_ret;exact⟨zac (by rw[R.out]),zaa Bw (below_regrown wr dq osq)⟩
   rw[hok]at cN;have HK:=Lib.hid hok;clear hok
   by_cases hin:b0=1/\a0<=b1
   ·have R:=Lib.hid (show za6 (a0,x1,x2,x3)=false by rw[HF.out,H.out,hd.out,List.all_cons,<-ziz,zgn];simp only[hin.1,decide_eq_true hin.2];simp);obtain⟨rfl,hin2⟩:=hin;go_wp2_with fail;clear q0 q1 q2 q3 e0 e1 e2 e3
    (refine wp_region_quiet_below (by kernel_rfl) (by kernel_rfl) ?_;(repeat (go_big_quiet_step (exact cN _ _)));refine wpQuiet_nil ?_;intro _ hw';obtain⟨⟨dq,osq⟩,hw''⟩:=hw';subst hw'')
    go_wp2;go_ret;exact⟨zac (by rw[R.out]),zaa Bw (below_regrown wr dq osq)⟩
   have HI:=Lib.hid (show (!(decide (b0=1)&&decide (a0<=b1)))=true by
    rw[Bool.not_eq_true',Bool.and_eq_false_iff];rcases Classical.em (b0=1)with h|h
    ·exact .inr (decide_eq_false fun h2=>hin ⟨h,h2⟩)
    exact .inl (decide_eq_false h))
   have HF2:=Lib.hid (show x2.all (zbm n1 n2 a0)=(y3.all (fun f=>decide (f<n2))&&(x2.drop (k+1)).all (zbm n1 n2 a0))by rw[H.out,hd.out,List.all_cons,<-ziz,zgn,HK.out];simp only[HI.out,Bool.true_and])
   by_cases hb0:b0=1
   ·have hna:¬a0<=b1:=fun h=>hin ⟨hb0,h⟩
    clear hin HI;have HK2:=HK;clear HK;subst hb0;go_wp2_with fail;clear q0 q1 q2 q3 e0 e1 e2 e3
    (refine wp_region_quiet_below (by kernel_rfl) (by kernel_rfl) ?_;(repeat (go_big_quiet_step (exact cN _ _)));refine wpQuiet_nil ?_;intro _ hw';obtain⟨⟨dq,osq⟩,hw''⟩:=hw';subst hw'')
    replace qq0:=qq0 dq osq;replace qq1:=qq1 dq osq;replace qq2:=qq2 dq osq;replace qq3:=qq3 dq osq;replace ee0:=ee0 dq osq;replace ee1:=ee1 dq osq;replace ee3:=ee3 dq osq;replace hryr:=hryr dq osq;have BV:=below_regrown wr dq osq;clear cN;generalize grow (redrawn wr dq) osq=V at qq0 qq1 qq2 qq3 ee0 ee1 ee3 hryr BV ⊢;have BW:=zaa Bw BV;go_wp2_with fail
    go_loop [6] (fun i=>∃q:Nat,i=.int .i64 q/\q<=y3.length/\Hid (y3.all (fun f=>decide (f<n2))=(y3.drop q).all (fun f=>decide (f<n2)))) (fun i=>y3.length-(intOf i).toNat)
    case atStart=>exact⟨0,rfl,by omega,Lib.hid (by simp)⟩
    case round=>
     obtain⟨q,rfl,hq,HQ⟩:=hrel
     by_cases hlt2:q<y3.length
     ·obtain⟨ad,x,rfl,hab,Y,hc⟩:=hryr.at hlt2;have hdq:=Lib.hid (M.drop_at Y.out)
      by_cases hs:x<n2
      ·have R:=Lib.hid (show y3.all (fun f=>decide (f<n2))=(y3.drop (q+1)).all (fun f=>decide (f<n2))by rw[HQ.out,hdq.out,List.all_cons,decide_eq_true hs,Bool.true_and]);have hs2:¬(n2:Int)<=x:=(by omega);go_wp2;go_round
       case rel=>exact⟨q+1,by go_num,by omega,R⟩
       case measure=>simp[intOf];omega
      have R:=Lib.hid (show za6 (a0,x1,x2,x3)=false by rw[HF.out,HF2.out,HQ.out,hdq.out,List.all_cons,decide_eq_false hs,Bool.false_and,Bool.false_and,Bool.and_false]);have hs2:(n2:Int)<=x:=(by omega);go_wp2;go_ret;exact⟨zac (by rw[R.out]),BW⟩
     have HY:=Lib.hid (show x2.all (zbm n1 n2 a0)=(x2.drop (k+1)).all (zbm n1 n2 a0)by rw[HF2.out,HQ.out,List.drop_eq_nil_of_le (by omega)];rfl);clear HQ;go_wp2_with fail;go_roundw
     case rel=>exact⟨k+1,by go_num,by omega,HY,BW⟩
     case measure=>simp[intOf];omega
   have gb0:(b0 == 1)=false:=(by simpa using hb0);clear hin HI HK;go_wp2_with fail;clear q0 q1 q2 q3 e0 e1 e2 e3
   (refine wp_region_quiet_below (by kernel_rfl) (by kernel_rfl) ?_;(repeat (go_big_quiet_step (exact cN _ _)));refine wpQuiet_nil ?_;intro _ hw';obtain⟨⟨dq,osq⟩,hw''⟩:=hw';subst hw'')
   replace qq0:=qq0 dq osq;replace qq1:=qq1 dq osq;replace qq2:=qq2 dq osq;replace qq3:=qq3 dq osq;replace ee0:=ee0 dq osq;replace ee1:=ee1 dq osq;replace ee3:=ee3 dq osq;replace hryr:=hryr dq osq;have BV:=below_regrown wr dq osq;clear cN;generalize grow (redrawn wr dq) osq=V at qq0 qq1 qq2 qq3 ee0 ee1 ee3 hryr BV ⊢;have BW:=zaa Bw BV;go_wp2_with fail
   go_loop [6] (fun i=>∃q:Nat,i=.int .i64 q/\q<=y3.length/\Hid (y3.all (fun f=>decide (f<n2))=(y3.drop q).all (fun f=>decide (f<n2)))) (fun i=>y3.length-(intOf i).toNat)
   case atStart=>exact⟨0,rfl,by omega,Lib.hid (by simp)⟩
   case round=>
    obtain⟨q,rfl,hq,HQ⟩:=hrel
    by_cases hlt2:q<y3.length
    ·obtain⟨ad,x,rfl,hab,Y,hc⟩:=hryr.at hlt2;have hdq:=Lib.hid (M.drop_at Y.out)
     by_cases hs:x<n2
     ·have R:=Lib.hid (show y3.all (fun f=>decide (f<n2))=(y3.drop (q+1)).all (fun f=>decide (f<n2))by rw[HQ.out,hdq.out,List.all_cons,decide_eq_true hs,Bool.true_and]);have hs2:¬(n2:Int)<=x:=(by omega);go_wp2;go_round
      case rel=>exact⟨q+1,by go_num,by omega,R⟩
      case measure=>simp[intOf];omega
     have R:=Lib.hid (show za6 (a0,x1,x2,x3)=false by rw[HF.out,HF2.out,HQ.out,hdq.out,List.all_cons,decide_eq_false hs,Bool.false_and,Bool.false_and,Bool.and_false]);have hs2:(n2:Int)<=x:=(by omega);go_wp2;go_ret;exact⟨zac (by rw[R.out]),BW⟩
    have HY:=Lib.hid (show x2.all (zbm n1 n2 a0)=(x2.drop (k+1)).all (zbm n1 n2 a0)by rw[HF2.out,HQ.out,List.drop_eq_nil_of_le (by omega)];rfl);clear HQ;go_wp2_with fail;go_roundw
    case rel=>exact⟨k+1,by go_num,by omega,HY,BW⟩
    case measure=>simp[intOf];omega
  have HA:=Lib.hid (show x2.all (zbm n1 n2 a0)=true by rw[H.out,List.drop_eq_nil_of_le (by rw[L2.out];omega)];rfl);have HF3:=Lib.hid (show za6 (a0,x1,x2,x3)=x3.all (zbh n2)by rw[HF.out,HA.out,Bool.and_true]);have hx3r:=(hx3.below Bw);go_wp2_with fail;clear H hk hlt
  go_loop [7] (fun i=>∃k:Nat,i=.int .i64 k/\k<=n3/\Hid (x3.all (zbh n2)=(x3.drop k).all (zbh n2))) (fun i=>n3-(intOf i).toNat)
  case atStart=>exact⟨0,rfl,by omega,Lib.hid (by simp)⟩
  case round=>
   obtain⟨k,rfl,hk,H⟩:=hrel
   by_cases hlt:k<n3
   ·obtain⟨ad,x,rfl,hab,X,hc⟩:=hx3r.at hlt;have hd:=Lib.hid (M.drop_at X.out);cases hs:M.inn x 0 ((n2:Int)-1)
    ·have R:=Lib.hid (show za6 (a0,x1,x2,x3)=false by rw[HF3.out,H.out,hd.out,List.all_cons,zbh,hs];rfl);go_wp2_with (go_at_call 67;refine(zaw _ _ _ _).mono ?_;rintro e w' ⟨rfl,rfl⟩);go_ret;exact⟨zac (by rw[R.out]),Bw⟩
    have R:=Lib.hid (show x3.all (zbh n2)=(x3.drop (k+1)).all (zbh n2)by rw[H.out,hd.out,List.all_cons,zbh,hs];rfl);go_wp2_with (go_at_call 67;refine(zaw _ _ _ _).mono ?_;rintro e w' ⟨rfl,rfl⟩);go_round
    case rel=>exact⟨k+1,by go_num,by omega,R⟩
    case measure=>simp[intOf];omega
   have R:=Lib.hid (show za6 (a0,x1,x2,x3)=true by rw[HF3.out,H.out,List.drop_eq_nil_of_le (by rw[L3.out];omega)];rfl);go_wp2;go_ret;exact⟨zac (by rw[R.out]),Bw⟩
theorem zlp(b o:Nat)(a0:Int)(A1:Yo)(n1 c1:Nat)(A2:Yo)(n2 c2:Nat)(A3:Yo)(n3 c3:Nat)(x1:List (List Int))(x2:List Node)(x3:List Int)(w:Yw)(p0:w.cell? ⟨b,o,none⟩=some (.int .i64 a0))(p1:w.cell? ⟨b,o+1,none⟩=some (.slice A1 n1 c1))(p2:w.cell? ⟨b,o+2,none⟩=some (.slice A2 n2 c2))(p3:w.cell? ⟨b,o+3,none⟩=some (.slice A3 n3 c3))
 (h1:tSS.R w w.heap.size [.slice A1 n1 c1] x1) (h2:tNS.R w w.heap.size [.slice A2 n2 c2] x2) (h3:tS.R w w.heap.size [.slice A3 n3 c3] x3) (hn:hP.sz ((a0,x1,x2,x3):zad)<=100000000) :
 Calls Tryz.prog 71 #[.pointer (some ⟨b,o,none⟩)] w fun e w'=>e=.returned (.bool (zcd (a0,x1,x2,x3)))/\Below w.heap.size w w':=by
 have lx:b<w.heap.size:=World.block_lt_of_cell? w _ p0;have hb2:hNS.sz x2<=100000000:=by rw[zco]at hn;omega
 have r2:=sl_R.1 h2;cases g0:za6 (a0,x1,x2,x3)
 ·have R:=Lib.hid (show zcd (a0,x1,x2,x3)=false by rw[zcd,g0];rfl);have G0:=Lib.hid g0;clear g0
  go_enter Tryz.func71,Tryz.ntmps71
  go_wp2_with (go_at_call 130;refine(zlo b o a0 A1 n1 c1 A2 n2 c2 A3 n3 c3 x1 x2 x3 _ p0 p1 p2 p3 h1 h2 h3 hn).mono ?_;rw[G0.out];rintro e w2 ⟨rfl,bel2⟩);go_ret;exact⟨zac (by rw[R.out]),bel2⟩
 have G0:=Lib.hid g0;have R:=Lib.hid (show zcd (a0,x1,x2,x3)=decide ((zca x2).length=x2.length)by rw[zcd,g0];rfl);clear g0
 go_enter Tryz.func71,Tryz.ntmps71
 go_wp2_with (go_at_call 130;refine(zlo b o a0 A1 n1 c1 A2 n2 c2 A3 n3 c3 x1 x2 x3 _ p0 p1 p2 p3 h1 h2 h3 hn).mono ?_;rw[G0.out];rintro e w2 ⟨rfl,bel2⟩);refine(zrz b o A2 n2 c2 x2 w2 (by rw[bel2.cell lx];exact p2) (r2.later bel2) hb2).mono ?_;rintro e w3 ⟨v,rfl,-,bel3⟩;go_wp2;go_ret;exact⟨zac (by rw[R.out]),zaa bel2 bel3⟩
theorem zfr(b o:Nat)(a0:Int)(A1:Yo)(n1 c1:Nat)(A2:Yo)(n2 c2:Nat)(A3:Yo)(n3 c3:Nat)(x1:List (List Int))(x2:List Node)(x3:List Int)(w:Yw)(p0:w.cell? ⟨b,o,none⟩=some (.int .i64 a0))(p1:w.cell? ⟨b,o+1,none⟩=some (.slice A1 n1 c1))(p2:w.cell? ⟨b,o+2,none⟩=some (.slice A2 n2 c2))(p3:w.cell? ⟨b,o+3,none⟩=some (.slice A3 n3 c3))
 (L1:Hid (x1.length=n1)) (L2:Hid (x2.length=n2)) (L3:Hid (x3.length=n3)) :
 Calls Tryz.prog 27 #[.pointer (some ⟨b,o,none⟩)] w fun e w'=>e=.returned (.bool (decide (((a0,x1,x2,x3):zad)=M.p0)))/\w=w':=by
 have R0:=Lib.hid (show decide (((a0,x1,x2,x3):zad)=M.p0)=(decide (a0=0)&&decide (n1=0)&&decide (n2=0)&&decide (n3=0))by
  rw[Bool.eq_iff_iff,M.p0,<-L1.out,<-L2.out,<-L3.out];simp only[decide_eq_true_eq,Prod.mk.injEq,Bool.and_eq_true,List.length_eq_zero_iff,and_assoc])
 rw[R0.out]
 by_cases k0:a0=0
 ·subst k0
  by_cases k1:n1=0
  ·subst k1
   by_cases k2:n2=0
   ·subst k2
    by_cases k3:n3=0
    ·subst k3
     go_enter Tryz.func27,Tryz.ntmps27
     go_wp2;go_ret;exact⟨rfl,rfl⟩
    have g3:((n3:Int) == 0)=false:=by simpa using k3
    go_enter Tryz.func27,Tryz.ntmps27
    go_wp2;go_ret;exact⟨zac (by simp[k3]),rfl⟩
   have g2:((n2:Int) == 0)=false:=by simpa using k2
   go_enter Tryz.func27,Tryz.ntmps27
   go_wp2;go_ret;exact⟨zac (by simp[k2]),rfl⟩
  have g1:((n1:Int) == 0)=false:=by simpa using k1
  go_enter Tryz.func27,Tryz.ntmps27
  go_wp2;go_ret;exact⟨zac (by simp[k1]),rfl⟩
 have g0:(a0 == 0)=false:=by simpa using k0
 go_enter Tryz.func27,Tryz.ntmps27
 go_wp2;go_ret;exact⟨zac (by simp[k0]),rfl⟩
theorem zr0(xs:List Clip)(m:Int)(h:xs.all (fun c=>M.inn c.1 0 (m-1))=true):zbp xs m=true:=by
 rw[List.all_eq_true]at h;rw[zbp,List.all_eq_true];intro x hx;have:=zbf.1 (h x hx);simp;omega
theorem zr1(xs:List Clip)(m:Int){k:Nat}{x:Clip}(hx:xs[k]?=some x)(h:M.inn x.1 0 (m-1)=false):(za4 xs&&zbp xs m)=false:=by
 rw[Bool.and_eq_false_iff];rcases Classical.em (x.1<m)with h1|h1
 ·left
  cases ht:za4 xs
  ·rfl
  have:=(zpi (zkg ht hx)).1;rw[zbf.2 (by omega)]at h;cases h
 right
 rw[zbp,List.all_eq_false];exact⟨x,List.mem_of_getElem? hx,by simpa using h1⟩
theorem zr2(b o:Nat)(A:Yo)(n c:Nat)(xs:List Clip)(m:Int)(w:Yw)(p0:w.cell? ⟨b,o,none⟩=some (.slice A n c))(hx:RA cl 5 w w.heap.size A n xs)(hn:n<=1000000000)(hm:0<=m/\m<=1000000000):
 Calls Tryz.prog 70 #[.pointer (some ⟨b,o,none⟩),.int .i64 m] w fun e w'=>e=.returned (.bool (za4 xs&&zbp xs m))/\Below w.heap.size w w':=by
 have hl:=Lib.hid hx.len
 go_enter Tryz.func70,Tryz.ntmps70
 go_wp2
 go_loop [5] (fun i=>∃k:Nat,i=.int .i64 k/\k<=n/\Hid (xs.all (fun c=>M.inn c.1 0 (m-1))=(xs.drop k).all (fun c=>M.inn c.1 0 (m-1)))) (fun i=>n-(intOf i).toNat)
 case atStart=>exact⟨0,rfl,by omega,Lib.hid (by simp)⟩
 case round=>
  obtain⟨k,rfl,hk,H⟩:=hrel
  by_cases hlt:k<n
  ·obtain⟨bb,o1,⟨d0,d1,d2,d3,d4⟩,rfl,hab,X,hc⟩:=hx.at ze5 (by decide) hlt;have e0:w.cell? ⟨bb,o1+k*5,none⟩=some (.int .i64 d0):=hc 0 _ rfl;clear hc;have hd:=Lib.hid (M.drop_at X.out);cases hs:M.inn d0 0 (m-1)
   ·have R:=Lib.hid (zr1 xs m X.out hs);go_wp2_with (go_at_call 67;refine(zaw _ _ _ _).mono ?_;rintro e w' ⟨rfl,rfl⟩);go_ret;exact⟨zac (by rw[R.out]),Below.refl _ _⟩
   have R:=Lib.hid (show xs.all (fun c=>M.inn c.1 0 (m-1))=(xs.drop (k+1)).all (fun c=>M.inn c.1 0 (m-1))by rw[H.out,hd.out,List.all_cons];simp only[hs,Bool.true_and]);go_wp2_with (go_at_call 67;refine(zaw _ _ _ _).mono ?_;rintro e w' ⟨rfl,rfl⟩);go_round
   case rel=>exact⟨k+1,by go_num,by omega,R⟩
   case measure=>simp[intOf];omega
  have HS:=Lib.hid (zr0 xs m (by rw[H.out,List.drop_eq_nil_of_le (by rw[hl.out];omega)];rfl));clear H;go_wp2_with (go_at_call 129;refine(zrx _ _ _ _ _ hx hn).mono ?_;rintro e w2 ⟨rfl,bel2⟩);go_ret;exact⟨zac (by rw[HS.out,Bool.and_true]),bel2⟩
set_option synthInstance.maxSize 2000
set_option synthInstance.maxHeartbeats 400000
theorem zfs(A:Yo)(n c:Nat)(xs:List Int)(m:Int)(w:Yw)(hx:RI w w.heap.size A n xs)(hn:n<=1000000000000)(hm:0<=m/\m<=1000000000):
 Calls Tryz.prog 84 #[.slice A n c,.int .i64 m] w fun e w'=>e=.returned (.bool (xs.all (zbh m)))/\w=w':=by
 go_enter Tryz.func84,Tryz.ntmps84
 go_wp2
 go_loop [6,9] (fun _ i=>∃k:Nat,i=.int .i64 k/\k<=n/\Hid (xs.all (zbh m)=(xs.drop k).all (zbh m))) (fun _ i=>n-(intOf i).toNat)
 case atStart=>exact⟨0,rfl,by omega,Lib.hid (by simp)⟩
 case round=>
  obtain⟨k,rfl,hk,H⟩:=hrel;have hl:=Lib.hid hx.len
  by_cases hlt:k<n
  ·obtain⟨ad,x,rfl,hab,X,hc⟩:=hx.at hlt;have hd:=Lib.hid (M.drop_at X.out);cases hs:M.inn x 0 (m-1)
   ·have R:=Lib.hid (show xs.all (zbh m)=false by rw[H.out,hd.out,List.all_cons,zbh,hs];rfl);go_wp2_with (go_at_call 81;refine(zap _ _ _ _).mono ?_;rintro e w' ⟨rfl,rfl⟩);go_ret;exact⟨zac (by rw[R.out]),rfl⟩
   have R:=Lib.hid (show xs.all (zbh m)=(xs.drop (k+1)).all (zbh m)by rw[H.out,hd.out,List.all_cons,zbh,hs];rfl);go_wp2_with (go_at_call 81;refine(zap _ _ _ _).mono ?_;rintro e w' ⟨rfl,rfl⟩);go_round
   case rel=>exact⟨k+1,by go_num,by omega,R⟩
   case measure=>simp[intOf];omega
  have R:=Lib.hid (show xs.all (zbh m)=true by rw[H.out,List.drop_eq_nil_of_le (by rw[hl.out];omega)];rfl);go_wp2;go_ret;exact⟨zac (by rw[R.out]),rfl⟩
theorem zgo(A:Yo)(n c:Nat)(ts:List (List Int))(w:Yw)(hx:RS tS w w.heap.size (.slice A n c) ts)(hb:Hid (∀x∈ts,x.length<=1000000000))(hn:n<=1000000000):
 Calls Tryz.prog 234 #[.slice A n c] w fun e w'=>e=.returned (.bool (zbt ts))/\w=w':=by
 have hl:=Lib.hid hx.cap.1
 go_enter Tryz.func234,Tryz.ntmps234
 go_wp2
 go_loop [4,5,8] (fun _ _ i=>∃k:Nat,i=.int .i64 k/\k<=n/\Hid (ts.all zcv=(ts.drop k).all zcv)) (fun _ _ i=>n-(intOf i).toNat)
 case atStart=>exact⟨0,rfl,by omega,Lib.hid (by simp)⟩
 case round=>
  obtain⟨k,rfl,hk,H⟩:=hrel
  by_cases hlt:k<n
  ·obtain⟨bb,o,A1,c1,x,rfl,hbb,X,hc,hri,hxl⟩:=zeq hx hb hlt;have hd:=Lib.hid (M.drop_at X.out);cases hs:(decide (x.length=2)||decide (x.length=4)||decide (x.length=8)||decide (x.length=16))
   ·have R:=Lib.hid (show zbt ts=false by rw[zbt,H.out,hd.out,List.all_cons,zcv,hs];rfl);have h2:¬x.length=2:=fun e=>by simp[e]at hs
    have h4:¬x.length=4:=fun e=>by simp[e]at hs
    have h8:¬x.length=8:=fun e=>by simp[e]at hs
    have h16:¬x.length=16:=fun e=>by simp[e]at hs
    have g2:((x.length:Int) != 2)=true:=(by simp;omega);have g4:((x.length:Int) != 4)=true:=(by simp;omega);have g8:((x.length:Int) != 8)=true:=(by simp;omega);have g16:((x.length:Int) != 16)=true:=(by simp;omega);clear hs h2 h4 h8 h16;go_wp2;go_ret;exact⟨zac (by rw[R.out]),rfl⟩
   have HS:=Lib.hid hs;cases hq:x.all M.smp
   ·have R:=Lib.hid (show zbt ts=false by rw[zbt,H.out,hd.out,List.all_cons,zcv,hq,Bool.and_false];rfl);have hor:x.length=2\/x.length=4\/x.length=8\/x.length=16:=(by simp at hs;omega);have HQ:=Lib.hid hq;clear hs hq;rcases hor with e|e|e|e
    all_goals
     rw[e]at hc hri;go_wp2_with (go_at_call 233;refine(zh6 _ _ _ _ _ hri (by omega)).mono ?_;rw[HQ.out];rintro e w' ⟨rfl,rfl⟩);go_ret;exact⟨zac (by rw[R.out]),rfl⟩
   have R:=Lib.hid (show ts.all zcv=(ts.drop (k+1)).all zcv by rw[H.out,hd.out,List.all_cons,zcv,hs,hq];rfl);have hor:x.length=2\/x.length=4\/x.length=8\/x.length=16:=(by simp at hs;omega);have HQ:=Lib.hid hq;clear hs hq;rcases hor with e|e|e|e
   all_goals
    rw[e]at hc hri;go_wp2_with (go_at_call 233;refine(zh6 _ _ _ _ _ hri (by omega)).mono ?_;rw[HQ.out];rintro e w' ⟨rfl,rfl⟩);go_round
    case rel=>exact⟨k+1,by go_num,by omega,R⟩
    case measure=>simp[intOf];omega
  have R:=Lib.hid (show zbt ts=decide (n<=4)by rw[zbt,H.out,List.drop_eq_nil_of_le (by rw[hl.out];omega),hl.out];rfl);go_wp2;go_ret;exact⟨zac (by rw[R.out,Bool.eq_iff_iff];simp;try omega),rfl⟩
def M.kn (j:Nat):ByteArray:=[⟨#[105,110,112,117,116]⟩,⟨#[99,111,110,115,116]⟩,⟨#[97,100,100]⟩,⟨#[115,117,98]⟩,⟨#[103,97,105,110]⟩,⟨#[100,101,108,97,121]⟩,⟨#[115,117,109]⟩,⟨#[100,105,102,102]⟩,⟨#[109,117,108]⟩,⟨#[115,104,105,102,116]⟩,⟨#[99,108,105,112]⟩,⟨#[112,104,97,115,101]⟩,⟨#[116,97,98,108,101]⟩,⟨#[110,111,105,115,101]⟩,⟨#[115,101,108,101,99,116]⟩,⟨#[104,111,108,100]⟩,⟨#[99,111,109,98]⟩].getD j ⟨#[]⟩
def zr3 (w:Yw) (g:Nat):Prop:=∀j,j<17->w.cell? ⟨g,j*6,none⟩=some (.string (M.kn j))/\w.cell? ⟨g,j*6+1,none⟩=some (.int .i64 (M.kd j).1)/\w.cell? ⟨g,j*6+2,none⟩=some (.int .i64 (M.kd j).2.1)/\w.cell? ⟨g,j*6+3,none⟩=some (.int .i64 (M.kd j).2.2.1)/\w.cell? ⟨g,j*6+4,none⟩=some (.bool (M.kd j).2.2.2.1)/\w.cell? ⟨g,j*6+5,none⟩=some (.bool (M.kd j).2.2.2.2)
theorem zlq(w:Yw):
 Calls Tryz.prog 253 #[] w fun e w'=>∃g,e=.returned (.slice (some ⟨g,0,none⟩) 17 17)/\w.heap.size<=g/\g<w'.heap.size/\zr3 w' g/\Below w.heap.size w w':=by
 go_enter Tryz.func253,Tryz.ntmps253
 go_wp2;go_ret;refine⟨_,rfl,Nat.le_refl _,by simp,?_,(Below.refl _ _).alloc (Nat.le_refl _) _⟩;intro j hj;obtain rfl|rfl|rfl|rfl|rfl|rfl|rfl|rfl|rfl|rfl|rfl|rfl|rfl|rfl|rfl|rfl|rfl:j=0\/j=1\/j=2\/j=3\/j=4\/j=5\/j=6\/j=7\/j=8\/j=9\/j=10\/j=11\/j=12\/j=13\/j=14\/j=15\/j=16:=by omega
 all_goals
  refine⟨?_,?_,?_,?_,?_,?_⟩
  all_goals (rw[cell_of_row _ w.heap.size _ _ 275 (0,0) (heap_alloc_new w _)];rfl)
theorem zlr(k:Int)(w:Yw):Calls Tryz.prog 252 #[.int .i64 k] w fun e w'=>e=.returned (.bool (M.inn k 1 17))/\w=w':=by
 go_enter Tryz.func252,Tryz.ntmps252
 go_wp2_with (go_at_call 81;refine(zap _ _ _ _).mono ?_;rintro e w' ⟨rfl,rfl⟩);go_ret;exact⟨rfl,rfl⟩
theorem zea(s:ByteArray)(i lo hi:Int)(l b:Bool)(w:Yw):Calls Tryz.prog 254 #[.agg #[.string s,.int .i64 i,.int .i64 lo,.int .i64 hi,.bool l,.bool b]] w fun e w'=>e=.returned (.bool (decide (lo<=hi)))/\Below w.heap.size w w':=by
 have B0:Below w.heap.size w (w.alloc (.cells #[.string s,.int .i64 i,.int .i64 lo,.int .i64 hi,.bool l,.bool b] 275)):=(Below.refl _ _).alloc (Nat.le_refl _) _
 go_enter Tryz.func254,Tryz.ntmps254
 go_wp2;go_ret;exact⟨rfl,B0⟩
end Go.Proofs.YtifeldeikhmckaaGreat
