import Derived.Test.YtifeldeikhmckaaGreatFnExactOptimizeSessionG38
import Derived.Test.YtifeldeikhmckaaGreatFnExactOptimizeSessionG43
import Derived.Test.YtifeldeikhmckaaGreatFnExactOptimizeSessionG28
import Derived.Test.YtifeldeikhmckaaGreatFnExactOptimizeSessionG20
import Derived.Test.YtifeldeikhmckaaGreatFnExactOptimizeSessionG16
import Derived.Test.YtifeldeikhmckaaGreatFnExactOptimizeSessionG27
import Derived.Test.YtifeldeikhmckaaGreatFnExactOptimizeSessionG36
import Derived.Test.YtifeldeikhmckaaGreatFnExactOptimizeSessionG24
import Derived.Deep.DeepCutAuto
import Derived.Deep.CutRange
import Derived.Test.YtifeldeikhmckaaGreatFnExactOptimizeSessionG37
import Derived.Test.YtifeldeikhmckaaGreatFnExactOptimizeSessionG31
import Derived.Test.YtifeldeikhmckaaGreatFnExactOptimizeSessionG7
import Derived.Test.YtifeldeikhmckaaGreatFnExactOptimizeSessionG15
import Derived.Test.YtifeldeikhmckaaGreatFnExactOptimizeSessionG4
import Derived.Test.YtifeldeikhmckaaGreatFnExactOptimizeSessionG8
set_option linter.unusedVariables false
set_option linter.unusedSimpArgs false
set_option maxRecDepth 100000
set_option maxHeartbeats 4000000
namespace Go.Proofs.YtifeldeikhmckaaGreat
open Go.RowKit Go.Sort
set_option synthInstance.maxSize 2000
set_option synthInstance.maxHeartbeats 400000
theorem zwj{ND:NO->Nat->Bool}{NN:zad->Nat}(hND:∀p j,ND p j=true↔M.Rch p.1 p.2 j)(hNN:∀p:zad,zao p=true->p≠M.p0->zbk ND p.2.1 (zah ND p.2.1 (p.2.2.1,p.2.2.2) (NN p))=none)(a0:Int)(A1:Yo)(n1 c1:Nat)(A2:Yo)(n2 c2:Nat)(A3:Yo)(n3 c3:Nat)(A4:Yo)(n4 c4:Nat)(A5:Yo)(n5 c5:Nat)(x1:List (List Int))(x2:List (List zas))(x3:List Int)(x4:List zad)(x5:List zag)(w:Yw)(h1:tSS.R w w.heap.size [.slice A1 n1 c1] x1)(h2:tTS.R w w.heap.size [.slice A2 n2 c2] x2)(h3:tS.R w w.heap.size [.slice A3 n3 c3] x3)(h4:tPS.R w w.heap.size [.slice A4 n4 c4] x4)(h5:tM.R w w.heap.size [.slice A5 n5 c5] x5)(hn:hZ.sz ((a0,x1,x2,x3,x4,x5):Sess)<=100000000):
 Calls Tryz.prog 6 #[.agg #[.int .i64 a0,.slice A1 n1 c1,.slice A2 n2 c2,.slice A3 n3 c3,.slice A4 n4 c4,.slice A5 n5 c5]] w fun e w'=>∃q0 A1' n1' c1' A2' n2' c2' A3' n3' c3' A4' n4' c4' A5' n5' c5',e=.returned (.tuple #[.agg #[.int .i64 q0,.slice A1' n1' c1',.slice A2' n2' c2',.slice A3' n3' c3',.slice A4' n4' c4',.slice A5' n5' c5'],.int .i64 (zcb ND NN (a0,x1,x2,x3,x4,x5)).2])/\tZ.O w' (Iv w.heap.size w'.heap.size) [.int .i64 q0,.slice A1' n1' c1',.slice A2' n2' c2',.slice A3' n3' c3',.slice A4' n4' c4',.slice A5' n5' c5'] (zcb ND NN (a0,x1,x2,x3,x4,x5)).1/\Below w.heap.size w w':=by
 obtain⟨W,hW,B0,sW,PX,ZX⟩:=zod w (.int .i64 a0) (.slice A1 n1 c1) (.slice A2 n2 c2) (.slice A3 n3 c3) (.slice A4 n4 c4) (.slice A5 n5 c5) (.int .i64 0) (.slice none 0 0) (.slice none 0 0) (.slice none 0 0) (.slice none 0 0) (.slice none 0 0) 38 38;have HW:=Lib.hid hW;have lW:w.heap.size+1<W.heap.size:=by omega
 have k1:=tSS.later h1 B0;have k2:=tTS.later h2 B0;have k3:=tS.later h3 B0;have k4:=tPS.later h4 B0;have k5:=tM.later h5 B0;have HND:=Lib.hid hND;have HNN:=Lib.hid hNN;have CS:=Lib.hid (zsd w.heap.size a0 A1 n1 c1 A2 n2 c2 A3 n3 c3 A4 n4 c4 A5 n5 c5 x1 x2 x3 x4 x5 W PX.c0 PX.c1 PX.c2 PX.c3 PX.c4 PX.c5 k1 k2 k3 k4 k5 hn);clear hW sW h1 h2 h3 h4 h5 hND hNN;cases ho:zcl (a0,x1,x2,x3,x4,x5)
 ·rw[ho]at CS;have E1:=Lib.hid (show zcb ND NN (a0,x1,x2,x3,x4,x5)=(zh3,1)by rw[zcb,ho];rfl);clear ho;obtain⟨RR,hRR⟩:∃RR,zcb ND NN (a0,x1,x2,x3,x4,x5)=RR:=⟨_,rfl⟩;rw[hRR]at E1 ⊢;clear hRR
  go_enter Tryz.func6,Tryz.ntmps6
  go_wp2_with fail;rw[<-HW.out];refine CS.out.mono ?_;rintro e w1 ⟨rfl,b1⟩;have s1:=b1.size;obtain⟨U,hU,ZU,chU,sU⟩:=(ZX.later b1).set (.int .i64 0) (.slice none 0 0) (.slice none 0 0) (.slice none 0 0) (.slice none 0 0) (.slice none 0 0);have HU:=Lib.hid hU;have BU:=(zaa B0 b1).trans (chU.toBelow (fun b (hb:b=_)=>by omega) (by omega));obtain⟨q0,q1,q2,q3,q4,q5,qf,ql⟩:=ZX.later b1;have r0:=qf 0;have r1:=qf 1;have r2:=qf 2;have r3:=qf 3;have r4:=qf 4;have r5:=qf 5;obtain⟨d0,d1,d2,d3,d4,d5,df,dl⟩:=ZU;have f0:=df 0;have f1:=df 1;have f2:=df 2;have f3:=df 3;have f4:=df 4;have f5:=df 5;clear hU sU;go_wp2;rw[<-HU.out];refine bodyPost_ret (v:=.tuple #[.agg #[.int .i64 0,.slice none 0 0,.slice none 0 0,.slice none 0 0,.slice none 0 0,.slice none 0 0],.int .i64 1]) (by simp[results,Tryz.results6,go_sem,d0,d1,d2,d3,d4,d5,f0,f1,f2,f3,f4,f5]) rfl ?_;rw[E1.out];exact⟨0,none,0,0,none,0,0,none,0,0,none,0,0,none,0,0,rfl,zn8 _ _,BU⟩
 rw[ho]at CS;have E1:=Lib.hid (show zcb ND NN (a0,x1,x2,x3,x4,x5)=((a0,x1,x2,x3,x4.map (zbd ND NN),x5),0)by rw[zcb,ho];rfl)
 have HEF:=Lib.hid (show ∀q∈x4,zao q=true from fun q hq=>by
  rw[zcl]at ho;simp only[Bool.and_eq_true,List.all_eq_true]at ho;exact ho.2 q hq)
 have hN4:x4.length<=100000000:=by
  rw[zdi]at hn;have e:x4.length+hP.szL x4=hPS.sz x4:=rfl;omega
 clear ho;obtain⟨RR,hRR⟩:∃RR,zcb ND NN (a0,x1,x2,x3,x4,x5)=RR:=⟨_,rfl⟩;rw[hRR]at E1 ⊢;clear hRR
 go_enter Tryz.func6,Tryz.ntmps6
 go_wp2_with fail;rw[<-HW.out];refine CS.out.mono ?_;rintro e w1 ⟨rfl,b1⟩;have PX1:=PX.later b1;go_wp2_with fail;refine(zt5 w.heap.size a0 A1 n1 c1 A2 n2 c2 A3 n3 c3 A4 n4 c4 A5 n5 c5 x1 x2 x3 x4 x5 w1 PX1.c0 PX1.c1 PX1.c2 PX1.c3 PX1.c4 PX1.c5 (tSS.later k1 b1) (tTS.later k2 b1) (tS.later k3 b1) (tPS.later k4 b1) (tM.later k5 b1) hn).mono ?_;rintro e w2 ⟨A1',n1',c1',A2',n2',c2',A3',n3',c3',A4',n4',c4',A5',n5',c5',rfl,oz,b2⟩;have B2:=zaa b1 b2;have s1:=b1.size;have s2:=b2.size;obtain⟨_,_,_,_,_,_,_,_,_,_,_,_,_,_,_,F1,F2,F3,F4,F5,hcs,g1,g2,g3,g4,g5,i1,i2,i3,i4,i5,r1_2,r1_3,r1_4,r1_5,r2_3,r2_4,r2_5,r3_4,r3_5,r4_5⟩:=tZ_O.1 oz;simp only[List.cons.injEq,Value.slice.injEq,and_true,true_and]at hcs;obtain⟨⟨rfl,rfl,rfl⟩,⟨rfl,rfl,rfl⟩,⟨rfl,rfl,rfl⟩,⟨rfl,rfl,rfl⟩,⟨rfl,rfl,rfl⟩⟩:=hcs;obtain⟨V,hV⟩:∃V,V=w2.alloc (.cells #[.int .i64 a0,.slice A1' n1' c1',.slice A2' n2' c2',.slice A3' n3' c3',.slice A4' n4' c4',.slice A5' n5' c5'] 38):=⟨_,rfl⟩;have OX:BX6 V w2.heap.size (.int .i64 a0) (.slice A1' n1' c1') (.slice A2' n2' c2') (.slice A3' n3' c3') (.slice A4' n4' c4') (.slice A5' n5' c5'):=by rw[hV];exact BX6.new _ _ _ _ _ _ _ _
 have BV:Below w2.heap.size w2 V:=by rw[hV];exact zaf _ _
 have HV:=Lib.hid hV;have BWV:=zaa B2 BV;have ZV:=ZX.later BWV;have lV:=OX.lt;replace g1:=tSS.ochg g1 (Chg.of_below BV (fun _=>False)) (fun _ _ h=>h);replace g2:=tTS.ochg g2 (Chg.of_below BV (fun _=>False)) (fun _ _ h=>h);replace g3:=tS.ochg g3 (Chg.of_below BV (fun _=>False)) (fun _ _ h=>h);replace g4:=tPS.ochg g4 (Chg.of_below BV (fun _=>False)) (fun _ _ h=>h);replace g5:=tM.ochg g5 (Chg.of_below BV (fun _=>False)) (fun _ _ h=>h);have O4:=sl_O.1 g4;have L4:=Lib.hid O4.read.cap.1;have hN4':n4'<=100000000:=by rw[<-L4.out];exact hN4
 have HG:=Lib.hid (show ∀g,A4'=some ⟨g,0,none⟩->F4 g from fun g hg=>(O4.lt g (by rw[hg];rfl)).1);have NF:∀b,F4 b->W.heap.size<=b/\b<w2.heap.size:=fun b hb=>by have h1:=(i4 b hb).1;have h2:=(i4 b hb).2;omega
 have o4_:=OX.c4;clear hV oz g4;obtain⟨ox0,ox1,ox2,ox3,ox4,ox5,oxf,oxl⟩:=OX;have OX:BX6 V w2.heap.size (.int .i64 a0) (.slice A1' n1' c1') (.slice A2' n2' c2') (.slice A3' n3' c3') (.slice A4' n4' c4') (.slice A5' n5' c5'):=⟨ox0,ox1,ox2,ox3,ox4,ox5,oxf,oxl⟩;clear oxf ox0 ox1 ox2 ox3 ox4 ox5;go_upto_region 4 with fail
 rw[<-HV.out];go_wp2_with fail
 go_loopw [5] (fun j wr=>∃k:Nat,j=.int .i64 k/\k<=n4'/\OS tP 67 wr (fun b=>F4 b\/V.heap.size<=b) (.slice A4' n4' c4') (zcm (zbd ND NN) k x4)/\Chg F4 V wr) (fun j _=>n4'-(intOf j).toNat)
 case atStart=>exact⟨0,rfl,by omega,O4.wide (fun b hb=>.inl hb),Chg.refl _ _⟩
 case round=>
  obtain⟨k,rfl,hk,own,ch⟩:=hrel;have sr:=ch.size;clear o4_;have O4w:=OX.chg ch (fun hf=>by have:=NF _ hf;omega);have ltw:=O4w.lt;have xw4:=O4w.c4
  by_cases hlt:k<n4'
  ·have X:=Lib.hid (List.getElem?_eq_getElem (show k<x4.length by rw[L4.out];exact hlt));generalize x4[k]'(by rw[L4.out];exact hlt)=pt at X;have hef:=HEF.out pt (List.mem_of_getElem? X.out);obtain⟨b,o,c,cs,hv,hb,-,hE,hc⟩:=own.read.atX (zjr (f:=zbd ND NN) X.out);rw[zoa,L4.out]at hv;simp only[Value.slice.injEq,true_and]at hv;obtain⟨rfl,rfl⟩:=hv;have SU:=Lib.hid (zjs (f:=zbd ND NN) X.out);have SK:=Lib.hid (zob (f:=zbd ND NN) X.out);obtain⟨a,t,ns,os⟩:=pt;obtain⟨B1',m1,d1,B2',m2,d2,B3',m3,d3,rfl,y1,y2,y3⟩:=tP_R.1 hE;have e0:=hc 0 _ rfl;have e1:=hc 1 _ rfl;have e2:=hc 2 _ rfl;have e3:=hc 3 _ rfl;change wr.cell? ⟨b,o+k*4+0,none⟩=_ at e0;change wr.cell? ⟨b,o+k*4+1,none⟩=_ at e1;change wr.cell? ⟨b,o+k*4+2,none⟩=_ at e2;change wr.cell? ⟨b,o+k*4+3,none⟩=_ at e3;rw[Nat.add_zero]at e0;have hkn:(k:Int)<(n4':Int):=(by omega);have PVr:PV wr b (o+k*4) a B1' m1 d1 B2' m2 d2 B3' m3 d3:=⟨e0,e1,e2,e3⟩;have HPV:=Lib.hid PVr;have CE:=Lib.hid (zfr b (o+k*4) a B1' m1 d1 B2' m2 d2 B3' m3 d3 t ns os wr e0 e1 e2 e3 (Lib.hid (sl_R.1 y1).cap.1) (Lib.hid (sl_R.1 y2).cap.1) (Lib.hid (tS_R.1 y3).ri.len));clear hc hE PVr e0 e1 e2 e3
   by_cases he:((a,t,ns,os):zad)=M.p0
   ·rw[decide_eq_true he]at CE;have E:=Lib.hid (SK.out (by rw[he,zbd,if_pos rfl]));clear he;go_wp2_with fail;refine CE.out.mono ?_;rintro e w3 ⟨rfl,rfl⟩;go_wp2_with fail;go_roundw
    case rel=>exact⟨k+1,by go_num,by omega,by rw[E.out];exact own,ch⟩
    case measure=>simp[intOf];omega
   rw[decide_eq_false he]at CE;obtain⟨R,hW_,ho1,-⟩:=zjt hef he;obtain⟨N,hN1,hN⟩:=zmi HND.out hW_;have hS:=zhs (HNN.out _ hef he) hN;obtain⟨pt',hpt⟩:∃pt':zad,pt'=(a,t,(zbo (ND (zah ND t (ns,os) N)) (zah ND t (ns,os) N)).1,(zbo (ND (zah ND t (ns,os) N)) (zah ND t (ns,os) N)).2):=⟨_,rfl⟩
   have EP:zbd ND NN (a,t,ns,os)=pt':=by
    rw[zbd,if_neg he,zdn,hpt];show (a,t,(zbo (ND (zah ND t (ns,os) (NN (a,t,ns,os)))) (zah ND t (ns,os) (NN (a,t,ns,os)))).1,_)=_
    rw[hS]
   have D3:Below wr.heap.size wr wr.drew:=zae (Below.refl _ _) 1;have CO:=Lib.hid (zwi (HPV.out.later D3) hW_ (by show os.length<=1000;replace ho1:os.length=1:=ho1;omega) HND.out hN1 hN (tSS.later y1 D3) (tNS.later y2 D3) (tS.later y3 D3));dsimp only at CO;rw[<-hpt]at CO;have SE:=Lib.hid (show zcm (zbd ND NN) (k+1) x4=(zcm (zbd ND NN) k x4).set k pt' by rw[SU.out,EP]);clear hS EP hN hpt hW_ ho1 hN1 he;have ownR:=own.real;have gx4:=cell_regrown xw4;go_wp2_with fail;refine CE.out.mono ?_;rintro e w3 ⟨rfl,rfl⟩;clear xw4;go_wp2_with fail
   (refine zf5 [0,2,3,5] [1,4,6] 2 (.one 7 (.first 8 .rest)) [9] [9] (by kernel_rfl) (by kernel_rfl) ?_;simp only[zar];simp only[List.filterMap,List.getElem?_cons_succ,List.getElem?_cons_zero];(repeat (go_big_quiet_step (fail)));refine wpQuiet_nil ?_;(repeat (go_big_quiet_step (fail)));refine wpQuiet_nil ?_)
   refine zdm rfl ?_;go_wp2_with fail;refine CO.out.mono ?_;rintro e w5 ⟨B1'',m1',d1',B2'',m2',d2',B3'',m3',d3',rfl,oe,b5⟩;have B5:=zaa D3 b5;have s5:=b5.size;have sd:wr.drew.heap.size=wr.heap.size:=rfl;go_wp2_with fail;refine⟨regrown_of_below B5,?_⟩;obtain⟨g,z0_,z1_,z2_,z3_,hgA,hgF,hgl,ec0,ec1,ec2,ec3,er0,er1,er2,er3,T,hT,chT,sT,RD⟩:=zoc (ownR.chg (Chg.of_below B5 (fun _=>False)) (fun _ _ h=>h)) (show k<n4' from hlt) a B1'' m1' d1' B2'' m2' d2' B3'' m3' d3';simp only[Option.some.injEq,Addr.mk.injEq]at hgA;obtain⟨rfl,rfl,-⟩:=hgA;have hF4g:=HG.out b rfl;have HT:=Lib.hid hT;clear hT
   (refine zdq rfl ?_;(repeat (go_big_quiet_step (fail)));refine wpQuiet_nil ?_)
   refine zev ?_;go_wp2_with fail;rw[<-HT.out];go_roundw
   case rel=>
    have h3:=RD _ _ oe (fun b hb hf=>by have h1:=hb.1;have h2:=hf.2;omega);exact⟨k+1,by go_num,by omega,by rw[SE.out];exact h3.wide (fun x hx=>hx.elim (fun h=>h.1) (fun h=>.inr (by have:=h.1;omega))),(ch.trans (Chg.of_below B5 _)).trans (chT.wide (fun x (hx:x=b)=>by rw[hx];exact hF4g))⟩
   case measure=>simp[intOf];omega
  obtain rfl:k=n4':=by omega
  have eA:=zn9 (f:=zbd ND NN) (k:=k) (xs:=x4) (by rw[L4.out];omega);rw[eA]at own;obtain⟨U,hU,ZU,chU,sU⟩:=(ZV.chg ch (fun hf=>by have:=NF _ hf;omega)).set (.int .i64 a0) (.slice A1' n1' c1') (.slice A2' n2' c2') (.slice A3' n3' c3') (.slice A4' k c4') (.slice A5' n5' c5');have HU:=Lib.hid hU;have Bvw:=BWV.trans (ch.toBelow (fun x hx=>(NF x hx).1) (by omega));have BU:Below w.heap.size w U:=(B0.trans (Bvw.mono (by omega))).trans (chU.toBelow (fun b (hb:b=_)=>by omega) (by omega));have no:∀b,W.heap.size<=b->¬b=w.heap.size+1:=fun b hb e=>by omega
  have OZ:=Lib.hid (show tZ.O U (Iv w.heap.size U.heap.size) [.int .i64 a0,.slice A1' n1' c1',.slice A2' n2' c2',.slice A3' n3' c3',.slice A4' k c4',.slice A5' n5' c5'] (a0,x1,x2,x3,x4.map (zbd ND NN),x5)from
   tZ_O.2 ⟨_,_,_,_,_,_,_,_,_,_,_,_,_,_,_,F1,F2,F3,(fun b=>(F4 b\/V.heap.size<=b)/\b<wr.heap.size),F5,rfl,
    tSS.ochg (tSS.ochg g1 ch (fun b h h2=>r1_4 b h h2)) chU (fun b hb=>no b (by have:=i1 b hb;have:=this.1;omega)),
    tTS.ochg (tTS.ochg g2 ch (fun b h h2=>r2_4 b h h2)) chU (fun b hb=>no b (by have:=i2 b hb;have:=this.1;omega)),
    tS.ochg (tS.ochg g3 ch (fun b h h2=>r3_4 b h h2)) chU (fun b hb=>no b (by have:=i3 b hb;have:=this.1;omega)),
    tPS.ochg (sl_O.2 own.real) chU (fun b hb=>no b (by have h1:=hb.1;rcases h1 with h1|h1;have:=(NF b h1).1;omega;omega)),
    tM.ochg (tM.ochg g5 ch (fun b h h2=>r4_5 b h2 h)) chU (fun b hb=>no b (by have:=i5 b hb;have:=this.1;omega)),
    fun b hb=>Iv.mono (by omega) (by omega) b (i1 b hb),fun b hb=>Iv.mono (by omega) (by omega) b (i2 b hb),fun b hb=>Iv.mono (by omega) (by omega) b (i3 b hb),fun b hb=>⟨by have h1:=hb.1;rcases h1 with h1|h1;have:=(NF b h1).1;omega;omega,by have:=hb.2;omega⟩,fun b hb=>Iv.mono (by omega) (by omega) b (i5 b hb),
    r1_2,r1_3,(fun b h h2=>h2.1.elim (fun h3=>r1_4 b h h3) (fun h3=>by have:=(i1 b h).2;omega)),r1_5,r2_3,(fun b h h2=>h2.1.elim (fun h3=>r2_4 b h h3) (fun h3=>by have:=(i2 b h).2;omega)),r2_5,(fun b h h2=>h2.1.elim (fun h3=>r3_4 b h h3) (fun h3=>by have:=(i3 b h).2;omega)),r3_5,(fun b h2 h=>h2.1.elim (fun h3=>r4_5 b h3 h) (fun h3=>by have:=(i5 b h).2;omega))⟩)
  obtain⟨o0,o1,o2,o3,o4,o5,of_,ol⟩:=O4w;clear xw4;obtain⟨t0,t1,t2,t3,t4,t5,tf,tl⟩:=ZV.chg ch (fun hf=>by have:=NF _ hf;omega);have u0:=tf 0;have u1:=tf 1;have u2:=tf 2;have u3:=tf 3;have u4:=tf 4;have u5:=tf 5;obtain⟨d0,d1,d2,d3,d4,d5,df,dl⟩:=ZU;have f0:=df 0;have f1:=df 1;have f2:=df 2;have f3:=df 3;have f4:=df 4;have f5:=df 5;clear hU sU;go_wp2_with fail;rw[<-HU.out];refine bodyPost_ret (v:=.tuple #[.agg #[.int .i64 a0,.slice A1' n1' c1',.slice A2' n2' c2',.slice A3' n3' c3',.slice A4' k c4',.slice A5' n5' c5'],.int .i64 0]) (by simp[results,Tryz.results6,go_sem,d0,d1,d2,d3,d4,d5,f0,f1,f2,f3,f4,f5]) rfl ?_;rw[E1.out];exact⟨a0,_,_,_,_,_,_,_,_,_,_,_,_,_,_,_,rfl,OZ.out,BU⟩
set_option synthInstance.maxSize 2000
set_option synthInstance.maxHeartbeats 400000
theorem zwk{ND:NO->Nat->Bool}{NN:zad->Nat}(hND:∀p j,ND p j=true↔M.Rch p.1 p.2 j)(hNN:∀p:zad,zao p=true->p≠M.p0->zbk ND p.2.1 (zah ND p.2.1 (p.2.2.1,p.2.2.2) (NN p))=none)(a0:Int)(A1:Yo)(n1 c1:Nat)(A2:Yo)(n2 c2:Nat)(A3:Yo)(n3 c3:Nat)(A4:Yo)(n4 c4:Nat)(A5:Yo)(n5 c5:Nat)(x1:List (List Int))(x2:List (List zas))(x3:List Int)(x4:List zad)(x5:List zag)(w:Yw)(h1:tSS.R w w.heap.size [.slice A1 n1 c1] x1)(h2:tTS.R w w.heap.size [.slice A2 n2 c2] x2)(h3:tS.R w w.heap.size [.slice A3 n3 c3] x3)(h4:tPS.R w w.heap.size [.slice A4 n4 c4] x4)(h5:tM.R w w.heap.size [.slice A5 n5 c5] x5)(hn:hZ.sz ((a0,x1,x2,x3,x4,x5):Sess)<=100000000):
 Calls Tryz.prog 8 #[.agg #[.int .i64 a0,.slice A1 n1 c1,.slice A2 n2 c2,.slice A3 n3 c3,.slice A4 n4 c4,.slice A5 n5 c5]] w fun e w'=>∃q0 A1' n1' c1' A2' n2' c2' A3' n3' c3' A4' n4' c4' A5' n5' c5',e=.returned (.tuple #[.agg #[.int .i64 q0,.slice A1' n1' c1',.slice A2' n2' c2',.slice A3' n3' c3',.slice A4' n4' c4',.slice A5' n5' c5'],.int .i64 (zcb ND NN (a0,x1,x2,x3,x4,x5)).2])/\tZ.O w' (Iv w.heap.size w'.heap.size) [.int .i64 q0,.slice A1' n1' c1',.slice A2' n2' c2',.slice A3' n3' c3',.slice A4' n4' c4',.slice A5' n5' c5'] (zcb ND NN (a0,x1,x2,x3,x4,x5)).1/\Below w.heap.size w w':=by
 obtain⟨W,hW,B0,sW,PX,ZX⟩:=zod w (.int .i64 a0) (.slice A1 n1 c1) (.slice A2 n2 c2) (.slice A3 n3 c3) (.slice A4 n4 c4) (.slice A5 n5 c5) (.int .i64 0) (.slice none 0 0) (.slice none 0 0) (.slice none 0 0) (.slice none 0 0) (.slice none 0 0) 38 38;have HW:=Lib.hid hW;have lW:w.heap.size+1<W.heap.size:=by omega
 have k1:=tSS.later h1 B0;have k2:=tTS.later h2 B0;have k3:=tS.later h3 B0;have k4:=tPS.later h4 B0;have k5:=tM.later h5 B0;have HND:=Lib.hid hND;have HNN:=Lib.hid hNN;have CS:=Lib.hid (zvn a0 A1 n1 c1 A2 n2 c2 A3 n3 c3 A4 n4 c4 A5 n5 c5 x1 x2 x3 x4 x5 W k1 k2 k3 k4 k5 hn);clear hW sW h1 h2 h3 h4 h5 hND hNN;cases ho:zcl (a0,x1,x2,x3,x4,x5)
 ·rw[ho]at CS;have E1:=Lib.hid (show zcb ND NN (a0,x1,x2,x3,x4,x5)=(zh3,1)by rw[zcb,ho];rfl);clear ho;obtain⟨RR,hRR⟩:∃RR,zcb ND NN (a0,x1,x2,x3,x4,x5)=RR:=⟨_,rfl⟩;rw[hRR]at E1 ⊢;clear hRR
  go_enter Tryz.func8,Tryz.ntmps8
  go_wp2_with fail;rw[<-HW.out];refine CS.out.mono ?_;rintro e w1 ⟨rfl,b1⟩;have s1:=b1.size;obtain⟨U,hU,ZU,chU,sU⟩:=(ZX.later b1).set (.int .i64 0) (.slice none 0 0) (.slice none 0 0) (.slice none 0 0) (.slice none 0 0) (.slice none 0 0);have HU:=Lib.hid hU;have BU:=(zaa B0 b1).trans (chU.toBelow (fun b (hb:b=_)=>by omega) (by omega));obtain⟨q0,q1,q2,q3,q4,q5,qf,ql⟩:=ZX.later b1;have r0:=qf 0;have r1:=qf 1;have r2:=qf 2;have r3:=qf 3;have r4:=qf 4;have r5:=qf 5;obtain⟨d0,d1,d2,d3,d4,d5,df,dl⟩:=ZU;have f0:=df 0;have f1:=df 1;have f2:=df 2;have f3:=df 3;have f4:=df 4;have f5:=df 5;clear hU sU;go_wp2;rw[<-HU.out];refine bodyPost_ret (v:=.tuple #[.agg #[.int .i64 0,.slice none 0 0,.slice none 0 0,.slice none 0 0,.slice none 0 0,.slice none 0 0],.int .i64 1]) (by simp[results,Tryz.results8,go_sem,d0,d1,d2,d3,d4,d5,f0,f1,f2,f3,f4,f5]) rfl ?_;rw[E1.out];exact⟨0,none,0,0,none,0,0,none,0,0,none,0,0,none,0,0,rfl,zn8 _ _,BU⟩
 rw[ho]at CS;have E1:=Lib.hid (show zcb ND NN (a0,x1,x2,x3,x4,x5)=((a0,x1,x2,x3,x4.map (zbd ND NN),x5),0)by rw[zcb,ho];rfl)
 have HEF:=Lib.hid (show ∀q∈x4,zao q=true from fun q hq=>by
  rw[zcl]at ho;simp only[Bool.and_eq_true,List.all_eq_true]at ho;exact ho.2 q hq)
 have hN4:x4.length<=100000000:=by
  rw[zdi]at hn;have e:x4.length+hP.szL x4=hPS.sz x4:=rfl;omega
 clear ho;obtain⟨RR,hRR⟩:∃RR,zcb ND NN (a0,x1,x2,x3,x4,x5)=RR:=⟨_,rfl⟩;rw[hRR]at E1 ⊢;clear hRR
 go_enter Tryz.func8,Tryz.ntmps8
 go_wp2_with fail;rw[<-HW.out];refine CS.out.mono ?_;rintro e w1 ⟨rfl,b1⟩;obtain⟨z0,z1,z2,z3,z4,z5,zf,zl⟩:=PX.later b1;go_wp2_with fail;refine(zt4 a0 A1 n1 c1 A2 n2 c2 A3 n3 c3 A4 n4 c4 A5 n5 c5 x1 x2 x3 x4 x5 w1 (tSS.later k1 b1) (tTS.later k2 b1) (tS.later k3 b1) (tPS.later k4 b1) (tM.later k5 b1) hn).mono ?_;rintro e w2 ⟨A1',n1',c1',A2',n2',c2',A3',n3',c3',A4',n4',c4',A5',n5',c5',rfl,oz,b2⟩;have B2:=zaa b1 b2;have s1:=b1.size;have s2:=b2.size;obtain⟨_,_,_,_,_,_,_,_,_,_,_,_,_,_,_,F1,F2,F3,F4,F5,hcs,g1,g2,g3,g4,g5,i1,i2,i3,i4,i5,r1_2,r1_3,r1_4,r1_5,r2_3,r2_4,r2_5,r3_4,r3_5,r4_5⟩:=tZ_O.1 oz;simp only[List.cons.injEq,Value.slice.injEq,and_true,true_and]at hcs;obtain⟨⟨rfl,rfl,rfl⟩,⟨rfl,rfl,rfl⟩,⟨rfl,rfl,rfl⟩,⟨rfl,rfl,rfl⟩,⟨rfl,rfl,rfl⟩⟩:=hcs;obtain⟨V,hV⟩:∃V,V=w2.alloc (.cells #[.int .i64 a0,.slice A1' n1' c1',.slice A2' n2' c2',.slice A3' n3' c3',.slice A4' n4' c4',.slice A5' n5' c5'] 38):=⟨_,rfl⟩;have OX:BX6 V w2.heap.size (.int .i64 a0) (.slice A1' n1' c1') (.slice A2' n2' c2') (.slice A3' n3' c3') (.slice A4' n4' c4') (.slice A5' n5' c5'):=by rw[hV];exact BX6.new _ _ _ _ _ _ _ _
 have BV:Below w2.heap.size w2 V:=by rw[hV];exact zaf _ _
 have HV:=Lib.hid hV;have BWV:=zaa B2 BV;have ZV:=ZX.later BWV;have lV:=OX.lt;replace g1:=tSS.ochg g1 (Chg.of_below BV (fun _=>False)) (fun _ _ h=>h);replace g2:=tTS.ochg g2 (Chg.of_below BV (fun _=>False)) (fun _ _ h=>h);replace g3:=tS.ochg g3 (Chg.of_below BV (fun _=>False)) (fun _ _ h=>h);replace g4:=tPS.ochg g4 (Chg.of_below BV (fun _=>False)) (fun _ _ h=>h);replace g5:=tM.ochg g5 (Chg.of_below BV (fun _=>False)) (fun _ _ h=>h);have O4:=sl_O.1 g4;have L4:=Lib.hid O4.read.cap.1;have hN4':n4'<=100000000:=by rw[<-L4.out];exact hN4
 have HG:=Lib.hid (show ∀g,A4'=some ⟨g,0,none⟩->F4 g from fun g hg=>(O4.lt g (by rw[hg];rfl)).1);have NF:∀b,F4 b->W.heap.size<=b/\b<w2.heap.size:=fun b hb=>by have h1:=(i4 b hb).1;have h2:=(i4 b hb).2;omega
 have o4_:=OX.c4;clear hV oz g4 z0 z1 z2 z3 z4 z5 zf;go_upto_region 4 with fail
 rw[<-HV.out];go_wp2_with fail
 go_loopw [16] (fun j wr=>∃k:Nat,j=.int .i64 k/\k<=n4'/\OS tP 67 wr (fun b=>F4 b\/V.heap.size<=b) (.slice A4' n4' c4') (zcm (zbd ND NN) k x4)/\Chg F4 V wr) (fun j _=>n4'-(intOf j).toNat)
 case atStart=>exact⟨0,rfl,by omega,O4.wide (fun b hb=>.inl hb),Chg.refl _ _⟩
 case round=>
  obtain⟨k,rfl,hk,own,ch⟩:=hrel;have sr:=ch.size
  by_cases hlt:k<n4'
  ·have X:=Lib.hid (List.getElem?_eq_getElem (show k<x4.length by rw[L4.out];exact hlt));generalize x4[k]'(by rw[L4.out];exact hlt)=pt at X;have hef:=HEF.out pt (List.mem_of_getElem? X.out);obtain⟨b,o,c,cs,hv,hb,-,hE,hc⟩:=own.read.atX (zjr (f:=zbd ND NN) X.out);rw[zoa,L4.out]at hv;simp only[Value.slice.injEq,true_and]at hv;obtain⟨rfl,rfl⟩:=hv;have SU:=Lib.hid (zjs (f:=zbd ND NN) X.out);have SK:=Lib.hid (zob (f:=zbd ND NN) X.out);obtain⟨a,t,ns,os⟩:=pt;obtain⟨B1',m1,d1,B2',m2,d2,B3',m3,d3,rfl,y1,y2,y3⟩:=tP_R.1 hE;have e0:=hc 0 _ rfl;have e1:=hc 1 _ rfl;have e2:=hc 2 _ rfl;have e3:=hc 3 _ rfl;change wr.cell? ⟨b,o+k*4+0,none⟩=_ at e0;change wr.cell? ⟨b,o+k*4+1,none⟩=_ at e1;change wr.cell? ⟨b,o+k*4+2,none⟩=_ at e2;change wr.cell? ⟨b,o+k*4+3,none⟩=_ at e3;rw[Nat.add_zero]at e0;obtain⟨Q,hQ⟩:∃Q,Q=wr.alloc (.cells #[.int .i64 a,.slice B1' m1 d1,.slice B2' m2 d2,.slice B3' m3 d3] 67):=⟨_,rfl⟩;have BQ:Below wr.heap.size wr Q:=(by rw[hQ];exact zaf _ _);have QX:BX Q wr.heap.size (.int .i64 a) (.slice B1' m1 d1) (.slice B2' m2 d2) (.slice B3' m3 d3):=(by rw[hQ];exact BX.new _ _ _ _ _ _);have HQ:=Lib.hid hQ;have hkn:(k:Int)<(n4':Int):=(by omega)
   have hsz:hP.sz ((a,t,ns,os):zad)<=100000000:=by
    have:=hP.szL_at X.out;rw[zdi]at hn;have e:x4.length+hP.szL x4=hPS.sz x4:=rfl;omega
   have CE:=Lib.hid (zfe a B1' m1 d1 B2' m2 d2 B3' m3 d3 t ns os Q (tSS.later y1 BQ) (tNS.later y2 BQ) (tS.later y3 BQ) hsz);clear hQ hc hE
   by_cases he:((a,t,ns,os):zad)=M.p0
   ·rw[decide_eq_true he]at CE;have E:=Lib.hid (SK.out (by rw[he,zbd,if_pos rfl]));clear he;go_wp2_with fail;rw[<-HQ.out];refine CE.out.mono ?_;rintro e w3 ⟨rfl,b3⟩;go_wp2_with fail;go_roundw
    case rel=>exact⟨k+1,by go_num,by omega,by rw[E.out];exact own.real.chg (Chg.of_below (zaa BQ b3) (fun _=>False)) (fun _ _ h=>h) |>.wide (fun x hx=>hx.1),ch.trans (Chg.of_below (zaa BQ b3) _)⟩
    case measure=>simp[intOf];omega
   rw[decide_eq_false he]at CE;obtain⟨R,hW_,ho1,-⟩:=zjt hef he;obtain⟨N,hN1,hN⟩:=zmi HND.out hW_;have hS:=zhs (HNN.out _ hef he) hN;obtain⟨pt',hpt⟩:∃pt':zad,pt'=(a,t,(zbo (ND (zah ND t (ns,os) N)) (zah ND t (ns,os) N)).1,(zbo (ND (zah ND t (ns,os) N)) (zah ND t (ns,os) N)).2):=⟨_,rfl⟩
   have EP:zbd ND NN (a,t,ns,os)=pt':=by
    rw[zbd,if_neg he,zdn,hpt];show (a,t,(zbo (ND (zah ND t (ns,os) (NN (a,t,ns,os)))) (zah ND t (ns,os) (NN (a,t,ns,os)))).1,_)=_
    rw[hS]
   have CO:=Lib.hid (fun W' (B':Below wr.heap.size wr W')=>zva hW_ (by show os.length<=1000;replace ho1:os.length=1:=ho1;omega) HND.out hN1 hN a B1' m1 d1 B2' m2 d2 B3' m3 d3 (tSS.later y1 B') (tNS.later y2 B') (tS.later y3 B'));dsimp only at CO;rw[<-hpt]at CO;have SE:=Lib.hid (show zcm (zbd ND NN) (k+1) x4=(zcm (zbd ND NN) k x4).set k pt' by rw[SU.out,EP]);clear hS EP hN hpt hW_ ho1 hN1 he;have ownR:=own.real;have O4w:=OX.chg ch (fun hf=>by have:=NF _ hf;omega);have ltw:=O4w.lt;go_wp2_with fail;rw[<-HQ.out];refine CE.out.mono ?_;rintro e w3 ⟨rfl,b3⟩;have Bq:=zaa BQ b3;have s3:=b3.size;have sq:=BQ.size;have x4_:=(O4w.later Bq).c4;obtain⟨p0,p1,p2,p3,pf,pl⟩:=QX.later b3;have gx4:=cell_regrown x4_;have gp0:=cell_regrown p0;have gp1:=cell_regrown p1;have gp2:=cell_regrown p2;have gp3:=cell_regrown p3;have D3:Below wr.heap.size wr w3.drew:=zae Bq 1;clear x4_ p0 p1 p2 p3 pf;go_wp2_with fail
   (refine zf5 [0,2] [1,3] 5 (.one 4 (.first 5 (.first 6 (.first 7 (.first 8 .rest))))) [9] [9] (by kernel_rfl) (by kernel_rfl) ?_;simp only[zar];simp only[List.filterMap,List.getElem?_cons_succ,List.getElem?_cons_zero];(repeat (go_big_quiet_step (fail)));refine wpQuiet_nil ?_;(repeat (go_big_quiet_step (fail)));refine wpQuiet_nil ?_)
   refine zdm rfl ?_;go_wp2_with fail;refine(CO.out w3.drew D3).mono ?_;rintro e w5 ⟨B1'',m1',d1',B2'',m2',d2',B3'',m3',d3',lv,rfl,oe,b5⟩;have B5:=zaa D3 b5;have s5:=b5.size;have sd:w3.drew.heap.size=w3.heap.size:=rfl;go_wp2_with fail;refine⟨regrown_of_below (zaa (zae (Below.refl _ _) 1) b5),?_⟩;obtain⟨g,z0_,z1_,z2_,z3_,hgA,hgF,hgl,ec0,ec1,ec2,ec3,er0,er1,er2,er3,T,hT,chT,sT,RD⟩:=zoc (ownR.chg (Chg.of_below B5 (fun _=>False)) (fun _ _ h=>h)) (show k<n4' from hlt) a B1'' m1' d1' B2'' m2' d2' B3'' m3' d3';simp only[Option.some.injEq,Addr.mk.injEq]at hgA;obtain⟨rfl,rfl,-⟩:=hgA;have hF4g:=HG.out b rfl;have HT:=Lib.hid hT;clear hT
   (refine zdq rfl ?_;(repeat (go_big_quiet_step (fail)));refine wpQuiet_nil ?_)
   (refine zdq rfl ?_;(repeat (go_big_quiet_step (fail)));refine wpQuiet_nil ?_)
   (refine zdq rfl ?_;(repeat (go_big_quiet_step (fail)));refine wpQuiet_nil ?_)
   (refine zdq rfl ?_;(repeat (go_big_quiet_step (fail)));refine wpQuiet_nil ?_)
   refine zev ?_;go_wp2_with fail;rw[<-HT.out];go_roundw
   case rel=>
    have h3:=RD _ _ oe (fun b hb hf=>by have h1:=hb.1;have h2:=hf.2;omega);exact⟨k+1,by go_num,by omega,by rw[SE.out];exact h3.wide (fun x hx=>hx.elim (fun h=>h.1) (fun h=>.inr (by have:=h.1;omega))),(ch.trans (Chg.of_below B5 _)).trans (chT.wide (fun x (hx:x=b)=>by rw[hx];exact hF4g))⟩
   case measure=>simp[intOf];omega
  obtain rfl:k=n4':=by omega
  have eA:=zn9 (f:=zbd ND NN) (k:=k) (xs:=x4) (by rw[L4.out];omega);rw[eA]at own;obtain⟨U,hU,ZU,chU,sU⟩:=(ZV.chg ch (fun hf=>by have:=NF _ hf;omega)).set (.int .i64 a0) (.slice A1' n1' c1') (.slice A2' n2' c2') (.slice A3' n3' c3') (.slice A4' k c4') (.slice A5' n5' c5');have HU:=Lib.hid hU;have Bvw:=BWV.trans (ch.toBelow (fun x hx=>(NF x hx).1) (by omega));have BU:Below w.heap.size w U:=(B0.trans (Bvw.mono (by omega))).trans (chU.toBelow (fun b (hb:b=_)=>by omega) (by omega));have no:∀b,W.heap.size<=b->¬b=w.heap.size+1:=fun b hb e=>by omega
  have OZ:=Lib.hid (show tZ.O U (Iv w.heap.size U.heap.size) [.int .i64 a0,.slice A1' n1' c1',.slice A2' n2' c2',.slice A3' n3' c3',.slice A4' k c4',.slice A5' n5' c5'] (a0,x1,x2,x3,x4.map (zbd ND NN),x5)from
   tZ_O.2 ⟨_,_,_,_,_,_,_,_,_,_,_,_,_,_,_,F1,F2,F3,(fun b=>(F4 b\/V.heap.size<=b)/\b<wr.heap.size),F5,rfl,
    tSS.ochg (tSS.ochg g1 ch (fun b h h2=>r1_4 b h h2)) chU (fun b hb=>no b (by have:=i1 b hb;have:=this.1;omega)),
    tTS.ochg (tTS.ochg g2 ch (fun b h h2=>r2_4 b h h2)) chU (fun b hb=>no b (by have:=i2 b hb;have:=this.1;omega)),
    tS.ochg (tS.ochg g3 ch (fun b h h2=>r3_4 b h h2)) chU (fun b hb=>no b (by have:=i3 b hb;have:=this.1;omega)),
    tPS.ochg (sl_O.2 own.real) chU (fun b hb=>no b (by have h1:=hb.1;rcases h1 with h1|h1;have:=(NF b h1).1;omega;omega)),
    tM.ochg (tM.ochg g5 ch (fun b h h2=>r4_5 b h2 h)) chU (fun b hb=>no b (by have:=i5 b hb;have:=this.1;omega)),
    fun b hb=>Iv.mono (by omega) (by omega) b (i1 b hb),fun b hb=>Iv.mono (by omega) (by omega) b (i2 b hb),fun b hb=>Iv.mono (by omega) (by omega) b (i3 b hb),fun b hb=>⟨by have h1:=hb.1;rcases h1 with h1|h1;have:=(NF b h1).1;omega;omega,by have:=hb.2;omega⟩,fun b hb=>Iv.mono (by omega) (by omega) b (i5 b hb),
    r1_2,r1_3,(fun b h h2=>h2.1.elim (fun h3=>r1_4 b h h3) (fun h3=>by have:=(i1 b h).2;omega)),r1_5,r2_3,(fun b h h2=>h2.1.elim (fun h3=>r2_4 b h h3) (fun h3=>by have:=(i2 b h).2;omega)),r2_5,(fun b h h2=>h2.1.elim (fun h3=>r3_4 b h h3) (fun h3=>by have:=(i3 b h).2;omega)),r3_5,(fun b h2 h=>h2.1.elim (fun h3=>r4_5 b h3 h) (fun h3=>by have:=(i5 b h).2;omega))⟩)
  obtain⟨o0,o1,o2,o3,o4,o5,of_,ol⟩:=OX.chg ch (fun hf=>by have:=NF _ hf;omega);obtain⟨t0,t1,t2,t3,t4,t5,tf,tl⟩:=ZV.chg ch (fun hf=>by have:=NF _ hf;omega);have u0:=tf 0;have u1:=tf 1;have u2:=tf 2;have u3:=tf 3;have u4:=tf 4;have u5:=tf 5;obtain⟨d0,d1,d2,d3,d4,d5,df,dl⟩:=ZU;have f0:=df 0;have f1:=df 1;have f2:=df 2;have f3:=df 3;have f4:=df 4;have f5:=df 5;clear hU sU;go_wp2_with fail;rw[<-HU.out];refine bodyPost_ret (v:=.tuple #[.agg #[.int .i64 a0,.slice A1' n1' c1',.slice A2' n2' c2',.slice A3' n3' c3',.slice A4' k c4',.slice A5' n5' c5'],.int .i64 0]) (by simp[results,Tryz.results8,go_sem,d0,d1,d2,d3,d4,d5,f0,f1,f2,f3,f4,f5]) rfl ?_;rw[E1.out];exact⟨a0,_,_,_,_,_,_,_,_,_,_,_,_,_,_,_,rfl,OZ.out,BU⟩
section
section
variable {ms:List zag}
end
end
set_option synthInstance.maxSize 2000
set_option synthInstance.maxHeartbeats 400000
theorem CR.made{F:Nat->Prop}{w w1:Yw}{n:Nat}(own1:w1.ownsRow w.heap.size 24 1 (.slice (some ⟨w.heap.size,0,none⟩) n n) n (madeCells (Value.slice none 0 0).cells (n*1)).toList):CR F 24 w.heap.size w1 (.slice (some ⟨w.heap.size,0,none⟩) n n) (List.replicate n []):=by
 have e:=toList_madeCells_one (.slice none 0 0) n;simp only[Nat.mul_one,Value.cells]at own1;rw[e]at own1;refine⟨List.replicate n (.slice none 0 0),by rw[List.length_replicate];exact own1,fun k x hx=>?_⟩;have hk:k<n:=by have:=(List.getElem?_eq_some_iff.1 hx).1;simpa using this
 obtain rfl:x=[]:=by rw[List.getElem?_replicate,if_pos hk]at hx;exact(Option.some.inj hx).symm
 exact⟨none,0,by simp[hk],Nat.le_refl _,RI.nil _ _ _,fun ad hn=>absurd hn (by simp)⟩
set_option synthInstance.maxSize 2000
set_option synthInstance.maxHeartbeats 400000
section
set_option synthInstance.maxSize 2000
set_option synthInstance.maxHeartbeats 400000
section
variable {L:Nat} {src:List (List Int)} {ts:List (List zas)} {fs:List Int} {ps:List zad} {ms:List zag}
end
end
section
set_option synthInstance.maxSize 2000
set_option synthInstance.maxHeartbeats 400000
section
variable {ND:NO->Nat->Bool} {NN:zad->Nat}
variable {L:Nat} {src:List (List Int)} {ts:List (List zas)} {fs:List Int} {ps:List zad} {ms:List zag}
end
end
theorem Chg.cell1{F:Nat->Prop}{a b:Yw}(h:Chg F a b){p:Addr}(hk:p.block<a.heap.size)(hn:¬F p.block):b.cell? p=a.cell? p:=
 World.cell?_of_block (h.block p.block hk hn)
theorem Chg.frozen1{F:Nat->Prop}{a b:Yw}(h:Chg F a b){p:Addr}(hk:p.block<a.heap.size)(hn:¬F p.block):b.frozen? p=a.frozen? p:=
 World.frozen?_of_block (h.block p.block hk hn)
structure ChgTo (F:Nat->Prop) (u:Yw) where
 w:Yw
 h:Chg F u w
instance (F:Nat->Prop) (u:Yw):Nonempty (ChgTo F u):=⟨⟨u,Chg.refl _ _⟩⟩
theorem ChgTo.cell{F:Nat->Prop}{u:Yw}{a:Addr}{v:Value}(h:u.cell? a=some v)(hn:¬F a.block)(p:ChgTo F u):p.w.cell? a=some v:=by
 rw[p.h.cell1 (World.block_lt_of_cell? _ _ h) hn];exact h
def zjw (Ls:List (List UInt8)) (X:List zag):Prop:=X.length=Ls.length/\∀(i:Nat) (x:zag) (L:List UInt8),X[i]?=some x->Ls[i]?=some L->x.1.size<=L.length/\x.2.2.length<=L.length
theorem zwl:∀{Ls:List (List UInt8)} {X:List zag},zjw Ls X->hM.sz X<=Ls.length+2*(Ls.map List.length).sum:=by
 have key:∀(Ls:List (List UInt8)) (X:List zag),zjw Ls X->hSt.szL X<=2*(Ls.map List.length).sum:=by
  intro Ls
  induction Ls with
  | nil=>
   intro X h;have:X=[]:=List.eq_nil_of_length_eq_zero (by rw[h.1];rfl);rw[this];simp[Hs.szL]
  | cons L Ls ih=>
   intro X h;cases X with
   | nil=>have:=h.1;simp at this
   | cons x X=>
    have h0:=h.2 0 x L rfl rfl;have hr:=ih X ⟨by have:=h.1;simpa using this,fun i y M hy hM=>h.2 (i+1) y M (by simpa using hy) (by simpa using hM)⟩;obtain⟨s,l,us⟩:=x;rw[Hs.szL,ze7];simp only[List.map_cons,List.sum_cons];simp only at h0;omega
 intro Ls X h;show X.length+hSt.szL X<=_
 have:=key Ls X h;have:=h.1;omega
def M.tiny (m:Nat) (xs:List zag):Prop:=∀x∈xs,x.1.size<=6/\x.2.2.length<=m
theorem zwm{m:Nat}{xs:List zag}{y:zag}(h:M.tiny m xs)(hy:y.1.size<=6/\y.2.2.length<=m):M.tiny m (xs++[y]):=fun x hx=>by
 rcases List.mem_append.1 hx with hx|hx
 ·exact h x hx
 rw[List.mem_singleton.1 hx];exact hy
end Go.Proofs.YtifeldeikhmckaaGreat
