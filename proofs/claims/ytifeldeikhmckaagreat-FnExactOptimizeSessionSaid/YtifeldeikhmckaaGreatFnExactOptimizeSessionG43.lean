import Derived.Test.YtifeldeikhmckaaGreatFnExactOptimizeSessionG42
import Derived.Test.YtifeldeikhmckaaGreatFnExactOptimizeSessionG35
set_option linter.unusedVariables false
set_option linter.unusedSimpArgs false
set_option maxRecDepth 100000
set_option maxHeartbeats 4000000
namespace Go.Proofs.YtifeldeikhmckaaGreat
open Go.RowKit Go.Sort
section
def rw2 (x:Int×Int):List Value:=[.int .i64 x.1,.int .i64 x.2]
abbrev tRW:Ty (Int×Int):=Ty.flat 2 (by decide) (0,0) rw2 (fun _=>rfl) (by simp[rw2,Value.oneCell'])
section
variable {tb:List (List Int)} {p:NO} {R:Nat->Nat} {w:Yw} {vb vo:Nat} {a0:Int} {A1 :Yo} {n1 c1:Nat} {A2 :Yo} {n2 c2:Nat} {A3 :Yo} {n3 c3:Nat} {ND:NO->Nat->Bool}
theorem zwg(V:PV w vb vo a0 A1 n1 c1 A2 n2 c2 A3 n3 c3)(h:M.WP tb p R)(ho:p.2.length<=1000)(hND:∀p j,ND p j=true↔M.Rch p.1 p.2 j){N:Nat}(hN1:N<=1000000000)(hN:zbk ND tb (zah ND tb p N)=none)(k1:tSS.R w w.heap.size [.slice A1 n1 c1] tb)(k2:tNS.R w w.heap.size [.slice A2 n2 c2] p.1)(k3:tS.R w w.heap.size [.slice A3 n3 c3] p.2):
 Calls Tryz.prog 74 #[.pointer (some ⟨vb,vo,none⟩)] w fun e w'=>∃A1' n1' c1' A2' n2' c2' A3' n3' c3' lv,e=.returned (.tuple #[.agg #[.int .i64 a0,.slice A1' n1' c1',.slice A2' n2' c2',.slice A3' n3' c3'],lv])/\(∀T,Chg (fun b=>b<w.heap.size) w' T->PRd A1' n1' c1' A2' n2' c2' A3' n3' c3' tb (zah ND tb p N) T)/\Below w.heap.size w w':=by
 obtain⟨W1,hW1⟩:∃W,W=w.alloc (.cells #[.int .i64 0,.slice none 0 0,.slice none 0 0,.slice none 0 0] 67):=⟨_,rfl⟩;have B01:Below w.heap.size w W1:=by rw[hW1];exact zaf _ _
 have ZX1:BX W1 w.heap.size (.int .i64 0) (.slice none 0 0) (.slice none 0 0) (.slice none 0 0):=by rw[hW1];exact BX.new _ _ _ _ _ _
 have sW1:W1.heap.size=w.heap.size+1:=by rw[hW1];simp
 obtain⟨W,hW⟩:∃W,W=W1.alloc (.cells #[] 134):=⟨_,rfl⟩;have BW:Below W1.heap.size W1 W:=by rw[hW];exact zaf _ _
 have sW:W.heap.size=w.heap.size+2:=by rw[hW];simp[sW1]
 have O0:OS tRW 134 W (fun b=>b=w.heap.size+1) (.slice (some ⟨w.heap.size+1,0,none⟩) 0 0) []:=by rw[hW,<-sW1];exact(OS.made0 _ _ _).wide (fun b hb=>by have h1:=hb.1;have h2:=hb.2;simp at h2;omega)
 have B0:=zaa B01 BW;have ZX:=ZX1.later BW;rw[hW1]at hW;have HW:=Lib.hid hW;have LW2:=Lib.hid sW;have VW:=V.later B0;have q1:=tSS.later k1 B0;have q2:=tNS.later k2 B0;have q3:=tS.later k3 B0;have HO:=Lib.hid ho;have HND:=Lib.hid hND;have HN:=Lib.hid hN;have CP:=Lib.hid (zee vb vo a0 A1 n1 c1 A2 n2 c2 A3 n3 c3 tb p.1 p.2 W VW.c0 VW.c1 VW.c2 VW.c3 q1 q2 q3 (h.szP ho a0));have lW:w.heap.size+1<W.heap.size:=by omega
 clear hW hW1 sW sW1 B01 BW ZX1 k1 k2 k3 q1 q2 q3 V VW ho hND hN
 go_enter Tryz.func74,Tryz.ntmps74
 go_upto_region 2 with fail
 rw[<-HW.out];go_wp2_with fail;refine CP.out.mono ?_;rintro e w1 ⟨A1',n1',c1',A2',n2',c2',A3',n3',c3',rfl,oz,bel⟩;have s1:=bel.size;obtain⟨X,hX,BX1,F1,F2,F3,OW⟩:=OWN.of oz 67;have HX:=Lib.hid hX
 have PK:=Lib.hid (show ∀T,Chg (fun b=>b<X.heap.size/\(b<W.heap.size\/b=w1.heap.size\/X.heap.size<=b)) X T->PRd A1' n1' c1' A2' n2' c2' A3' n3' c3' tb (zah ND tb p 0) T from fun T hT=>
  ⟨tSS.read (tSS.ochg OW.g1 hT (fun b hb hf=>by have:=OW.z1 b hb;have:=hf.1;have:=hf.2;omega)),tNS.read (tNS.ochg (sl_O.2 OW.g2) hT (fun b hb hf=>by have:=OW.z2 b hb;have:=hf.1;have:=hf.2;omega)),tS.read (tS.ochg (tS_O.2 OW.g3) hT (fun b hb hf=>by have:=OW.z3 b hb;have:=hf.1;have:=hf.2;omega))⟩)
 have OX:=OW.bx;have BWX:=zaa bel BX1;have ZXX:=ZX.later BWX;have O1:=O0.chg (Chg.of_below BWX (fun _=>False)) (fun _ _ e=>e);have sX:w1.heap.size<X.heap.size:=OX.lt;have BX_:=zaa B0 BWX;clear hX oz OW ZX O0;go_upto_region 3 with fail
 rw[<-HX.out]
 go_loopg [4] N (fun gk v wr=>∃(s:Nat) (xs:List (Int×Int)) (bb:Nat) (A1':Yo) (n1' c1':Nat) (A2':Yo) (n2' c2':Nat) (A3':Yo) (n3' c3':Nat),s+gk=N/\xs.length=s/\X.heap.size<=bb/\bb<=wr.heap.size/\OS tRW 134 wr (fun b=>b<bb/\(b=w.heap.size+1\/X.heap.size<=b)) v xs/\Hid (∀T,Chg (fun b=>b<bb/\(b<W.heap.size\/b=w1.heap.size\/X.heap.size<=b)) wr T->PRd A1' n1' c1' A2' n2' c2' A3' n3' c3' tb (zah ND tb p s) T)/\BX wr w1.heap.size (.int .i64 a0) (.slice A1' n1' c1') (.slice A2' n2' c2') (.slice A3' n3' c3')/\BX wr w.heap.size (.int .i64 0) (.slice none 0 0) (.slice none 0 0) (.slice none 0 0)/\Below w.heap.size w wr)
 case atStart=>exact⟨0,[],X.heap.size,A1',n1',c1',A2',n2',c2',A3',n3',c3',by omega,rfl,Nat.le_refl _,Nat.le_refl _,O1.wide (fun b (hb:b=_)=>by omega),PK,OX,ZXX,BX_⟩
 case round=>
  clear PK OX ZXX O1;obtain⟨s,xs,bb,A1',n1',c1',A2',n2',c2',A3',n3',c3',hs,hxs,hbX,hbb,own,PK,PB,ZB,Bw⟩:=hrel;obtain⟨R',hW',hl1,hl2⟩:=zhp HND.out h s;obtain⟨pp,hpp⟩:∃q,zah ND tb p s=q:=⟨_,rfl⟩;rw[hpp]at hW' hl2 PK;have HPP:=Lib.hid hpp;have ho2:pp.2.length<=1000:=by rw[hl2];exact HO.out
  have PR:=PK.out wr (Chg.refl _ _);have hl3:=(sl_R.1 PR.2.1).cap.1;have HL3:=Lib.hid hl3;have HND2:=Lib.hid (HND.out pp);have PVr:PV wr w1.heap.size 0 a0 A1' n1' c1' A2' n2' c2' A3' n3' c3':=⟨PB.c0,PB.c1,PB.c2,PB.c3⟩;have CX:=Lib.hid (zv7 PVr hW' ho2 (sl_R.1 PR.2.1) (tS_R.1 PR.2.2).ri HND2.out);have HWP:=Lib.hid hW';have HO2:=Lib.hid ho2;clear hpp hl1 hl2 hl3 hW' ho2 PR PVr;have sw:=Bw.size;go_wp2_with fail;refine CX.out.mono ?_;rintro e w2 ⟨⟨hs0,rfl⟩|⟨k,r,hk,hr,h0,hlow,rfl⟩,b2⟩
  ·have hsn:=zns (ND:=ND) (tb:=tb) hs0
   have E:=Lib.hid (show pp=zah ND tb p N by
    rw[<-HPP.out];exact zhs (by rw[HPP.out];exact hsn) HN.out)
   obtain⟨Q,hQ⟩:∃Q,Q=w2.alloc (.cells #[.int .i64 0,.int .i64 0] 134):=⟨_,rfl⟩;have BQ:Below w2.heap.size w2 Q:=(by rw[hQ];exact zaf _ _);have Bq:=zaa b2 BQ;obtain⟨U,hU,ZU,chU,sU⟩:=(ZB.later Bq).set (.int .i64 a0) (.slice A1' n1' c1') (.slice A2' n2' c2') (.slice A3' n3' c3');have HU:=Lib.hid hU;have HQ:=Lib.hid hQ;have BU:Below w.heap.size w U:=(zaa Bw Bq).trans (chU.toBelow (fun b (hb:b=_)=>by omega) (by have:=Bw.size;have:=Bq.size;omega))
   have RK:=Lib.hid (show ∀T,Chg (fun b=>b<w.heap.size) U T->PRd A1' n1' c1' A2' n2' c2' A3' n3' c3' tb (zah ND tb p N) T from fun T hT=>by
    rw[<-E.out];exact PK.out T ((Chg.of_below Bq _).trans ((chU.wide (fun b (hb:b=_)=>by omega)).trans (hT.wide (fun b (hb:b<_)=>by omega))))
    )
   obtain⟨o0,o1,o2,o3,of_,ol⟩:=PB.later Bq;obtain⟨t0,t1,t2,t3,tf,tl⟩:=ZB.later Bq;have u0:=tf 0;have u1:=tf 1;have u2:=tf 2;have u3:=tf 3;obtain⟨d0,d1,d2,d3,df,dl⟩:=ZU;have f0:=df 0;have f1:=df 1;have f2:=df 2;have f3:=df 3;clear hU hQ hs0 hsn sU;go_upto_region 5 with fail
   rw[<-HQ.out];go_wp2_with fail;rw[<-HU.out];refine bodyPost_ret (v:=.tuple #[.agg #[.int .i64 a0,.slice A1' n1' c1',.slice A2' n2' c2',.slice A3' n3' c3'],u4]) (by simp[results,Tryz.results74,go_sem,d0,d1,d2,d3,f0,f1,f2,f3]) rfl ?_;exact⟨_,_,_,_,_,_,_,_,_,_,rfl,RK.out,BU⟩
  have hst:=znt (ND:=ND) (tb:=tb) hk (by rw[hr];exact h0) hlow;rw[hr]at hst;have hsN:=zmj HN.out (show zbk ND tb (zah ND tb p s)=some _ by rw[HPP.out];exact hst);have HS1:=Lib.hid (show zah ND tb p (s+1)=zbs (ND pp) tb pp k r by rw[zah,HPP.out,hst];rfl);have hk2:k<n2':=by rw[<-HL3.out];exact hk
  have HR:=Lib.hid hr;have H0:=Lib.hid h0;obtain⟨Q,hQ⟩:∃Q,Q=w2.alloc (.cells #[.int .i64 r,.int .i64 k] 134):=⟨_,rfl⟩;have BQ:Below w2.heap.size w2 Q:=by rw[hQ];exact zaf _ _
  have QX:BX2 Q w2.heap.size (.int .i64 r) (.int .i64 k):=by rw[hQ];exact BX2.new _ _ _ _
  have HQ:=Lib.hid hQ;have Bq:=zaa b2 BQ;have sq:=Bq.size;have s2:=b2.size;have own2:=own.real.chg (Chg.of_below Bq (fun _=>False)) (fun _ _ e=>e);have PBQ:=PB.later Bq;have ZBQ:=ZB.later Bq;have lQ:=QX.lt;have hn1:xs.length+1<=maxLen:=by unfold maxLen;omega
  have hn2:(xs.length+1)*16<=140737488355328:=by omega
  obtain⟨x0,x1,xf,xl⟩:=QX;have QX:BX2 Q w2.heap.size (.int .i64 r) (.int .i64 k):=⟨x0,x1,xf,xl⟩;clear hQ hst hr h0 hlow own PB ZB xf;go_upto_region 6 with fail
  rw[<-HQ.out];go_upto_region 7 with(at_builtin;refine zc2 znz #[.int .i64 r,.int .i64 k] rfl _ _ rfl own2 (Fe:=fun _=>False) (y:=(r,(k:Int))) rfl (fun _ _ h=>h) rfl rfl hn1 hn2 ?_;intro v3 w4 own4 ch4)
  have s4:=ch4.size;have PB4:=PBQ.chg ch4 (fun hf=>by have:=hf.1;omega);have ZB4:=ZBQ.chg ch4 (fun hf=>by have:=hf.1;omega);have QX4:=QX.chg ch4 (fun hf=>by have:=hf.2;omega);have PR4:=PK.out w4 ((Chg.of_below Bq _).trans (ch4.wide (fun b hb=>by have:=hb.1;omega)));have CA:=Lib.hid (zwf (vo:=0) ⟨PB4.c0,PB4.c1,PB4.c2,PB4.c3⟩ HWP.out HO2.out PR4.1 PR4.2.1 PR4.2.2 hk2 HND2.out HR.out H0.out);clear x0 x1 PR4 PBQ ZBQ;obtain⟨x0,x1,xf,xl4⟩:=QX4;clear xf;go_wp2_with fail;refine CA.out.mono ?_;rintro e w5 ⟨B1',m1,d1,B2',m2,d2,B3',m3,d3,rfl,RA,b5⟩;have PB5:=PB4.later b5;have ZB5:=ZB4.later b5;have s5:=b5.size;obtain⟨U,hU,ZU,chU,sU⟩:=PB5.set (.int .i64 a0) (.slice B1' m1 d1) (.slice B2' m2 d2) (.slice B3' m3 d3);have RA:=Lib.hid RA;obtain⟨o0,o1,o2,o3,of_,ol⟩:=PB5;have of0:=of_ 0;have of1:=of_ 1;have of2:=of_ 2;have of3:=of_ 3;have HU:=Lib.hid hU;clear hU of_ x0 x1;go_wp2_with fail;rw[<-HU.out]
  go_roundg (gk-1)
  case measure=>omega
  case rel=>
   have O5:=(own4.chg (Chg.of_below b5 (fun _=>False)) (fun _ _ e=>e)).chg chU (fun b hF (e:b=w1.heap.size)=>by rcases hF with hF|hF|hF;have:=hF.1;omega;exact hF;omega);exact⟨s+1,xs++[(r,(k:Int))],w4.heap.size,B1',m1,d1,B2',m2,d2,B3',m3,d3,by omega,by simp[hxs],by omega,by omega,O5.wide (fun b hF=>by rcases hF with hF|hF|hF;have:=hF.1;omega;exact hF.elim;omega),Lib.hid (fun T hT=>by rw[HS1.out];exact RA.out T ((chU.wide (fun b (hb:b=_)=>by omega)).trans (hT.wide (fun b hb=>hb.1)))),ZU,ZB5.chg chU (fun(e:_=_)=>by omega),(((zaa Bw Bq).trans (ch4.toBelow (fun b hb=>by have:=hb.1;omega) (by omega))).trans (b5.mono (by omega))).trans (chU.toBelow (fun b (hb:b=_)=>by omega) (by omega))⟩
end
end
section
section
variable {tb:List (List Int)} {p:NO} {R:Nat->Nat} {w:Yw} {vb vo:Nat} {a0:Int} {A1 :Yo} {n1 c1:Nat} {A2 :Yo} {n2 c2:Nat} {A3 :Yo} {n3 c3:Nat} {nd:Nat->Bool}
theorem zwh(V:PV w vb vo a0 A1 n1 c1 A2 n2 c2 A3 n3 c3)(h:M.WP tb p R)(ho:p.2.length<=1000)(k1:tSS.R w w.heap.size [.slice A1 n1 c1] tb)(k2:tNS.R w w.heap.size [.slice A2 n2 c2] p.1)(k3:tS.R w w.heap.size [.slice A3 n3 c3] p.2){Al:Yo}{nn cl:Nat}(hd:RI w w.heap.size Al nn (M.nl nd n2)):
 Calls Tryz.prog 75 #[.pointer (some ⟨vb,vo,none⟩),.slice Al nn cl] w fun e w'=>∃A1' n1' c1' A2' n2' c2' A3' n3' c3',e=.returned (.agg #[.int .i64 a0,.slice A1' n1' c1',.slice A2' n2' c2',.slice A3' n3' c3'])/\tP.O w' (Iv w.heap.size w'.heap.size) [.int .i64 a0,.slice A1' n1' c1',.slice A2' n2' c2',.slice A3' n3' c3'] (a0,tb,(zbo nd p).1,(zbo nd p).2)/\Below w.heap.size w w':=by
 have hl:=(sl_R.1 k2).cap.1;have hlen:=h.len;have hn2:n2<=24:=by omega
 obtain⟨W,hW⟩:∃W,W=w.alloc (.cells #[.int .i64 0,.slice none 0 0,.slice none 0 0,.slice none 0 0] 67):=⟨_,rfl⟩;have B0:Below w.heap.size w W:=by rw[hW];exact zaf _ _
 have ZX:BX W w.heap.size (.int .i64 0) (.slice none 0 0) (.slice none 0 0) (.slice none 0 0):=by rw[hW];exact BX.new _ _ _ _ _ _
 have sW:W.heap.size=w.heap.size+1:=by rw[hW];simp
 have lW:w.heap.size<W.heap.size:=by omega
 have HW:=Lib.hid hW;have VW:=V.later B0;have q1:=tSS.later k1 B0;have q2:=tNS.later k2 B0;have q3:=tS.later k3 B0;have rl:=hd.later B0;have HL:=Lib.hid hl;have HO:=Lib.hid ho;have HP:=Lib.hid h;have hcn:=hd.len;have HCN:=Lib.hid hcn;have hcn2:nn<=24:=by rw[<-hcn,zej];have:=zeu nd n2;omega
 have HVW:=Lib.hid VW;obtain⟨z0,z1,z2,z3⟩:=VW;clear hW sW k1 k2 k3 hl ho h hd hcn V
 go_enter Tryz.func75,Tryz.ntmps75
 go_upto_region 1 with fail
 rw[<-HW.out];go_wp2_with (at_make;refine zdo zce rfl _ _ rfl n2 _ _ rfl rfl rfl rfl (by omega) (by unfold maxLen;omega) ?_;intro w1 own1 b1)
 have oz:OI 2 W.heap.size w1 (.slice (some ⟨W.heap.size,0,none⟩) n2 n2) (zc1 nd n2 0):=by
  rw[znv];unfold OI;have:=toList_madeCells_one (.int .i64 0) n2;simp only[Nat.mul_one,Value.cells]at own1;rw[this]at own1;simpa using own1
 clear own1
 go_loopw [6] (fun j wr=>∃k:Nat,j=.int .i64 k/\k<=nn/\OI 2 W.heap.size wr (.slice (some ⟨W.heap.size,0,none⟩) n2 n2) (zc1 nd n2 k)/\Below W.heap.size w1 wr) (fun j _=>nn-(intOf j).toNat)
 case atStart=>exact⟨0,rfl,by omega,oz,Below.refl _ _⟩
 case round=>
  clear z0 z1 z2 z3;obtain⟨k,rfl,hk,own,Bw⟩:=hrel;have sw:=Bw.size;have B12:Below W.heap.size W wr:=b1.trans Bw
  by_cases hlt:k<nn
  ·have X:=List.getElem?_eq_getElem (show k<(M.nl nd n2).length by rw[HCN.out];exact hlt);generalize (M.nl nd n2)[k]'(by rw[HCN.out];exact hlt)=x at X;obtain⟨j,rfl,hj1,hj2,hj3,hj4⟩:=zfi X;obtain⟨bx,ox,rfl,hbx,hcx⟩:=zak rl (by omega);have e1:=(B12.cell (by exact hbx)).trans (hcx k _ X);obtain⟨g,hg0,hg1,hg2⟩:=own.form' (show 0<n2 by omega);simp only[Option.some.injEq,Addr.mk.injEq,and_true]at hg0;obtain⟨y,-,c0,f0,-,-⟩:=own.at' (k:=j) hj2;have S:=Lib.hid (own.stored' j (k:Int));have HS:=Lib.hid (znw hj2 hj3 hj4);have hjn:(j:Int)<(n2:Int):=(by omega);have hkn:(k:Int)<(nn:Int):=(by omega);clear hcx X hj1 hj3 hj4 oz hg0 hg1 hg2;go_wp2_with fail;go_roundw
   case rel=>exact⟨k+1,by go_num,by omega,by rw[HS.out];exact S.out,Bw.setCell (Nat.le_refl _) _⟩
   case measure=>simp[intOf];omega
  obtain rfl:k=nn:=by omega
  obtain⟨wa,rfl⟩:∃wa:Yw,wa=wr:=⟨_,rfl⟩;rw[show k=zal nd n2 by rw[<-HCN.out,zej],znx]at own;have Va:=HVW.out.later B12;have CP:=Lib.hid (zee vb vo a0 A1 n1 c1 A2 n2 c2 A3 n3 c3 tb p.1 p.2 wa Va.c0 Va.c1 Va.c2 Va.c3 (tSS.later q1 B12) (tNS.later q2 B12) (tS.later q3 B12) (HP.out.szP HO.out a0))
  have rto:RI wa wa.heap.size (some ⟨W.heap.size,0,none⟩) n2 (zbn nd n2):=by
   have own':=own;unfold OI at own';rw[zny]at own';exact Reads.of_own own'
  clear own oz;go_wp2_with fail;refine CP.out.mono ?_;rintro e w2 ⟨A1',n1',c1',A2',n2',c2',A3',n3',c3',rfl,oz,bel⟩;have s2:=bel.size;obtain⟨X,hX,bX,F1,F2,F3,OW⟩:=OWN.of oz 67;have HX:=Lib.hid hX;have OX:=OW.bx;have BaX:=zaa bel bX;have sX:=OX.lt;obtain⟨Y,hY⟩:∃Y,Y=X.setCell ⟨w2.heap.size,2,none⟩ (.slice (some ⟨X.heap.size,0,none⟩) 0 0):=⟨_,rfl⟩;have sY:Y.heap.size=X.heap.size:=by rw[hY];simp
  have GY:Gr w2.heap.size 2 X Y (.slice (some ⟨X.heap.size,0,none⟩) 0 0):=by rw[hY];exact(Gr.start OX.c2).set (OX.fr 2) _
  obtain⟨w0,hw0⟩:∃w0,w0=Y.alloc (.cells #[] 169):=⟨_,rfl⟩;have bY:Below Y.heap.size Y w0:=by rw[hw0];exact zaf _ _
  have O0:OS tN 169 w0 (Iv X.heap.size w0.heap.size) (.slice (some ⟨X.heap.size,0,none⟩) 0 0) []:=by rw[hw0,<-sY];exact OS.made0 _ _ _
  have GX:=GY.below bY (by omega);rw[hY]at hw0;have HW0:=Lib.hid hw0;have gfr:=OX.fr 2;obtain⟨o0,o1,o2,o3,of_,ol⟩:=OX;clear hX hw0 hY oz GY;have hns:=sl_R.1 (tNS.later q2 B12);have hTL:(zcs nd p.1).length=k:=by rw[zjd,HL.out,<-zej,HCN.out]
  have HTL:=Lib.hid hTL;have s0:=GX.chg.size;clear hTL;go_upto_region 7 with fail
  rw[<-HX.out];go_upto_region 8 with fail
  rw[<-HW0.out];clear o0 o1 o2 o3 of_;go_wp2_with fail
  go_loopw [8] (fun j wr=>∃(t:Nat) (v:Value),j=.int .i64 t/\t<=k/\OS tN 169 wr (Iv X.heap.size wr.heap.size) v ((zcs nd p.1).take t)/\Gr w2.heap.size 2 X wr v) (fun j _=>k-(intOf j).toNat)
  case atStart=>exact⟨0,_,rfl,by omega,O0,GX⟩
  case round=>
   clear GX O0;obtain⟨t,v,rfl,ht,own2,G⟩:=hrel;have sr:=G.chg.size;have Bar:Below wa.heap.size wa wr:=BaX.trans (G.chg.toBelow (fun b (hb:b=w2.heap.size)=>by omega) (by omega));have BWr:Below W.heap.size W wr:=B12.trans (Bar.mono (by have:=B12.size;omega));have sWa:=B12.size;obtain⟨z0,z1,z2,z3⟩:=HVW.out.later BWr
   by_cases hlt2:t<k
   ·have XX:=List.getElem?_eq_getElem (show t<(M.nl nd n2).length by rw[HCN.out];exact hlt2);generalize (M.nl nd n2)[t]'(by rw[HCN.out];exact hlt2)=x at XX;obtain⟨j,rfl,hj1,hj2,hj3,hj4⟩:=zfi XX;obtain⟨bx,ox,rfl,hbx,hcx⟩:=zak rl (by omega);have e1:=(BWr.cell (by exact hbx)).trans (hcx t _ XX);obtain⟨bb,o,kk,ka,kb,A6,c6,fs,rfl,hb,Yn,y0,y1,y2,y3,hr6,hl6⟩:=zbg HP.out (hns.below Bar) hj2
    have hTX:=Lib.hid (show (zcs nd p.1)[t]?=some (kk,ka,kb,zbc fs (zbn nd n2))by
     rw[zcs,HL.out,List.getElem?_map,hj1];show some ((zab p.1 j).1,_,_,_)=_
     rw[Yn.out])
    have hfb:=Lib.hid (show ∀f∈fs,0<=f/\f<(n2:Int)from fun f hf=>by
     rw[<-HL.out];exact HP.out.frs j (by rw[HL.out];exact hj2) f (by rw[Yn.out];exact hf))
    obtain⟨V,hV⟩:∃V,V=(wr.alloc (.cells #[.int .i64 kk,.int .i64 ka,.int .i64 kb,.slice A6 fs.length c6] 169)).drew:=⟨_,rfl⟩;have BV:Below wr.heap.size wr V:=(by rw[hV];exact zae (zaf _ _) 1);have VX:BX V wr.heap.size (.int .i64 kk) (.int .i64 ka) (.int .i64 kb) (.slice A6 fs.length c6):=(by rw[hV];exact(BX.new _ _ _ _ _ _).drew);have HV:=Lib.hid hV;have BaV:Below wa.heap.size wa V:=Bar.trans (BV.mono (by omega));have CM2:=Lib.hid (zlx A6 (some ⟨W.heap.size,0,none⟩) fs.length c6 n2 n2 fs (zbn nd n2) V ((hr6.more Bar.size).later BV) (rto.later BaV) (by omega) (by omega) hfb);have hjn:(j:Int)<(n2:Int):=(by omega);have hj0:(0:Int)<=(j:Int):=(by omega);have htk:(t:Int)<(k:Int):=(by omega);have hxl:((zcs nd p.1).take t).length<=100000000:=(by rw[List.length_take];omega);have D1:Below wr.heap.size wr (wr.drew.alloc (.cells #[.int .i64 0,.int .i64 0,.int .i64 0,.slice none 0 0] 169)):=zaa (Below.refl _ _).drew (zaf _ _);have gz2:=cell_regrown z2;have ge1:=cell_regrown e1;have gy0:=cell_regrown y0;have gy1:=cell_regrown y1;have gy2:=cell_regrown y2;have gy3:=cell_regrown y3;clear hV XX hcx hj1 hj3 hj4;go_upto_region 11 with fail
    (refine zcp [0,1,2,4,5,6] [3,7,8,9] 1 (.one 10 .rest) [11] (by kernel_rfl) (by kernel_rfl) ?_;simp only[zar];simp only[List.filterMap,List.getElem?_cons_succ,List.getElem?_cons_zero];(repeat (go_big_quiet_step (fail)));refine wpQuiet_nil ?_;(repeat (go_big_quiet_step (fail)));refine wpQuiet_nil ?_)
    refine zat rfl ?_;go_wp2_with fail;refine⟨regrown_of_below D1,zbr ?_⟩;clear gz2 ge1 gy0 gy1 gy2 gy3 y0 y1 y2 y3 e1 z0 z1 z2 z3;go_upto_region 12 with fail
    rw[<-HV.out];obtain⟨x0,x1,x2,x3,xf,xl⟩:=VX;have VX:BX V wr.heap.size (.int .i64 kk) (.int .i64 ka) (.int .i64 kb) (.slice A6 fs.length c6):=⟨x0,x1,x2,x3,xf,xl⟩;clear xf;go_wp2_with fail;refine CM2.out.mono ?_;rintro e w3 ⟨v8,rfl,o8,b8⟩;obtain⟨A8,c8,e8,-⟩:=o8.shape;obtain⟨m8,hm8⟩:∃m,(zbc fs (zbn nd n2)).length=m:=⟨_,rfl⟩;rw[hm8]at e8;subst e8;have HM8:=Lib.hid hm8;have Br3:Below wr.heap.size wr w3:=BV.trans (b8.mono BV.size);have V3:=VX.later b8;have s3:=b8.size;have sV:=BV.size;have vl:=VX.lt;clear x0 x1 x2 x3;obtain⟨x0,x1,x2,x3,xf,xl3⟩:=V3;have xf3:=xf 3;obtain⟨Q,hQ⟩:∃Q,Q=w3.setCell ⟨wr.heap.size,3,none⟩ (.slice A8 m8 c8):=⟨_,rfl⟩;have chQ:Chg (fun b=>b=wr.heap.size) w3 Q:=(by rw[hQ];exact Chg.set _ _ _ _ rfl);have u0:Q.cell? ⟨wr.heap.size,0,none⟩=some (.int .i64 kk):=(by rw[hQ];simp[go_sem,x0]);have u1:Q.cell? ⟨wr.heap.size,1,none⟩=some (.int .i64 ka):=(by rw[hQ];simp[go_sem,x1]);have u2:Q.cell? ⟨wr.heap.size,2,none⟩=some (.int .i64 kb):=(by rw[hQ];simp[go_sem,x2]);have u3:Q.cell? ⟨wr.heap.size,3,none⟩=some (.slice A8 m8 c8):=(by rw[hQ];simp[go_sem,x3]);have sQ:=chQ.size;have eQ:Q.heap.size=w3.heap.size:=(by rw[hQ];simp);have own3:=(own2.below Br3 (Nat.le_refl _)).chg chQ (fun b hb (e:b=_)=>by have:=hb.2;omega);have G3:=(G.below Br3 (by omega)).row chQ (by omega) (fun b (hb:b=_)=>by omega);have on:tN.O Q (Iv V.heap.size w3.heap.size) [.int .i64 kk,.int .i64 ka,.int .i64 kb,.slice A8 m8 c8] (kk,ka,kb,zbc fs (zbn nd n2)):=tN_O.2 ⟨A8,m8,c8,_,rfl,tS_O.2 ((OI.os o8).chg chQ (fun b hb (e:b=_)=>by have:=hb.1;omega)),fun b hb=>hb⟩;have gc:=G3.cel;have HQ:=Lib.hid hQ;have hpt:=Lib.hid (M.take_at hTX.out);have EQ:=Lib.hid eQ;clear hQ hm8 eQ;go_upto_region 13 with fail
    rw[<-HQ.out];clear x0 x1 x2 x3 xf xf3;go_wp2_with (at_builtin;refine zc2 zgh #[.int .i64 kk,.int .i64 ka,.int .i64 kb,.slice A8 m8 c8] rfl _ _ rfl own3 on (fun b hb hb2=>by have:=hb.2;have:=hb2.1;omega) rfl rfl (by unfold maxLen;omega) (by omega) ?_;intro v3 w4 own4 ch4;obtain⟨A7,c7,e7⟩:=own4.shape;obtain⟨n7,hn7⟩:∃n7,n7=((zcs nd p.1).take t++[(kk,ka,kb,zbc fs (zbn nd n2))]).length:=⟨_,rfl⟩;rw[<-hn7]at e7;subst e7;have HN7:=Lib.hid hn7;clear hn7;have G4:=G3.row ch4 (by omega) (fun b hb=>⟨hb.1,by have:=hb.1;omega⟩);have hc4:=G4.cel;have hf4:w4.frozen? ⟨w2.heap.size,2,none⟩=false:=(by rw[G4.fro];exact gfr));go_roundw
    case rel=>
     have s4:=ch4.size;refine⟨t+1,_,by go_num,by omega,?_,G4.set gfr _⟩;rw[hpt.out];refine(own4.chg (Chg.set (F:=fun b=>b=w2.heap.size) w4 w2.heap.size 2 _ rfl) (fun b hb (e:b=w2.heap.size)=>?_)).wide (fun b hb=>?_)
     ·rcases hb with hb|hb|hb
      ·have:=hb.1;omega
      ·have:=hb.1;omega
      omega
     have e9:(w4.setCell ⟨w2.heap.size,2,none⟩ (.slice A7 n7 c7)).heap.size=w4.heap.size:=(by simp);rcases hb with hb|hb|hb
     ·exact⟨hb.1,by have:=hb.2;omega⟩
     ·exact⟨by have:=hb.1;omega,by have:=hb.2;omega⟩
     exact⟨by omega,by omega⟩
    case measure=>simp[intOf];omega
   obtain rfl:t=k:=by omega
   rw[List.take_of_length_le (by rw[HTL.out];exact Nat.le_refl _)]at own2;obtain⟨A9,c9,e9⟩:=own2.shape;rw[HTL.out]at e9;subst e9;have CMO:=Lib.hid (zlx A3 (some ⟨W.heap.size,0,none⟩) n3 c3 n2 n2 p.2 (zbn nd n2) wr (tS_R.1 (tS.later q3 BWr)).ri ((rto.below Bar).more Bar.size) (by have:=(tS_R.1 q3).ri.len;have:=HO.out;omega) (by omega) (Lib.hid (fun f hf=>by rw[<-HL.out];exact HP.out.outs f hf)));go_wp2_with fail;refine CMO.out.mono ?_;rintro e w9 ⟨v9,rfl,o9,b9⟩;obtain⟨A10,c10,e10,-⟩:=o9.shape;obtain⟨m9,hm9⟩:∃m,(zbc p.2 (zbn nd n2)).length=m:=⟨_,rfl⟩;rw[hm9]at e10;subst e10;have s9:=b9.size;have ch9:Chg (fun b=>b=w2.heap.size) X w9:=G.chg.upB b9
   have OX9:BX w9 w2.heap.size (.int .i64 a0) (.slice A1' n1' c1') (.slice A9 t c9) (.slice A3' n3' c3'):=by
    have G9:=G.below b9 (by omega);exact⟨by rw[G9.oth 0 (by decide)];exact OW.bx.c0,by rw[G9.oth 1 (by decide)];exact OW.bx.c1,G9.cel,by rw[G9.oth 3 (by decide)];exact OW.bx.c3,fun j=>by rw[G9.fro];exact OW.bx.fr j,by omega⟩
   obtain⟨Q,hQ⟩:∃Q,Q=w9.setCell ⟨w2.heap.size,3,none⟩ (.slice A10 m9 c10):=⟨_,rfl⟩;have chQ:Chg (fun b=>b=w2.heap.size) w9 Q:=(by rw[hQ];exact Chg.set _ _ _ _ rfl);have sQ:Q.heap.size=w9.heap.size:=(by rw[hQ];simp);obtain⟨k0_,k1_,k2_,k3_,kf_,kl_⟩:=OX9;have u0:Q.cell? ⟨w2.heap.size,0,none⟩=some (.int .i64 a0):=(by rw[hQ];simp[go_sem,k0_]);have u1:Q.cell? ⟨w2.heap.size,1,none⟩=some (.slice A1' n1' c1'):=(by rw[hQ];simp[go_sem,k1_]);have u2:Q.cell? ⟨w2.heap.size,2,none⟩=some (.slice A9 t c9):=(by rw[hQ];simp[go_sem,k2_]);have u3:Q.cell? ⟨w2.heap.size,3,none⟩=some (.slice A10 m9 c10):=(by rw[hQ];simp[go_sem,k3_]);have kf3:=kf_ 3;have B9:=zaa BWr b9;have ZQ:=(ZX.later B9).chg chQ (fun(e:_=_)=>by omega);obtain⟨U,hU,ZU,chU,sU⟩:=ZQ.set (.int .i64 a0) (.slice A1' n1' c1') (.slice A9 t c9) (.slice A10 m9 c10);have HU:=Lib.hid hU;have HQ:=Lib.hid hQ;have BU:Below w.heap.size w U:=((zaa B0 B9).trans (chQ.toBelow (fun b (hb:b=_)=>by omega) (by omega))).trans (chU.toBelow (fun b (hb:b=_)=>by omega) (by omega))
   have hOUT:=Lib.hid (show tP.O U (Iv w.heap.size U.heap.size) [.int .i64 a0,.slice A1' n1' c1',.slice A9 t c9,.slice A10 m9 c10] (a0,tb,(zbo nd p).1,(zbo nd p).2)from by
    have e3:zbc p.2 (zbn nd n2)=(zbo nd p).2:=(by rw[zbo,HL.out]);have o1:=tSS.ochg (tSS.ochg (tSS.ochg OW.g1 ch9 (fun b hb (e:b=_)=>by have:=OW.z1 b hb;omega)) chQ (fun b hb (e:b=_)=>by have:=OW.z1 b hb;omega)) chU (fun b hb (e:b=_)=>by have:=OW.z1 b hb;omega);have o2:=tNS.ochg (tNS.ochg (sl_O.2 (own2.chg (Chg.of_below b9 (fun _=>False)) (fun _ _ e=>e))) chQ (fun b hb (e:b=_)=>by have:=hb.1;omega)) chU (fun b hb (e:b=_)=>by have:=hb.1;omega);have o3:=tS.ochg (tS.ochg (tS_O.2 (OI.os o9)) chQ (fun b hb (e:b=_)=>by have:=hb.1;omega)) chU (fun b hb (e:b=_)=>by have:=hb.1;omega);rw[e3]at o3;exact tP_O.2 ⟨_,_,_,_,_,_,_,_,_,F1,Iv X.heap.size wr.heap.size,Iv wr.heap.size w9.heap.size,rfl,o1,o2,o3,fun b hb=>⟨by have:=(OW.z1 b hb).1;omega,by have:=(OW.z1 b hb).2;omega⟩,fun b hb=>⟨by have:=hb.1;omega,by have:=hb.2;omega⟩,fun b hb=>⟨by have:=hb.1;omega,by have:=hb.2;omega⟩,fun b hb hb2=>by have:=(OW.z1 b hb).2;have:=hb2.1;omega,fun b hb hb2=>by have:=(OW.z1 b hb).2;have:=hb2.1;omega,fun b hb hb2=>by have:=hb.2;have:=hb2.1;omega⟩)
   obtain⟨t0,t1,t2,t3,tf,tl⟩:=ZQ;have v0_:=tf 0;have v1_:=tf 1;have v2_:=tf 2;have v3_:=tf 3;obtain⟨d0,d1,d2,d3,df,dl⟩:=ZU;have f0:=df 0;have f1:=df 1;have f2:=df 2;have f3:=df 3;clear hU hQ sU z0 z1 z2 z3 hm9;go_upto_region 15 with fail
   rw[<-HQ.out];clear k0_ k1_ k2_ k3_ kf_ kf3;go_wp2_with fail;rw[<-HU.out];refine bodyPost_ret (v:=.agg #[.int .i64 a0,.slice A1' n1' c1',.slice A9 t c9,.slice A10 m9 c10]) (by simp[results,Tryz.results75,go_sem,d0,d1,d2,d3,f0,f1,f2,f3]) rfl ?_;exact⟨_,_,_,_,_,_,_,_,_,rfl,hOUT.out,BU⟩
end
end
section
section
variable {tb:List (List Int)} {p:NO} {R:Nat->Nat} {w:Yw} {vb vo:Nat} {a0:Int} {A1 :Yo} {n1 c1:Nat} {A2 :Yo} {n2 c2:Nat} {A3 :Yo} {n3 c3:Nat} {ND:NO->Nat->Bool}
theorem zwi(V:PV w vb vo a0 A1 n1 c1 A2 n2 c2 A3 n3 c3)(h:M.WP tb p R)(ho:p.2.length<=1000)(hND:∀p j,ND p j=true↔M.Rch p.1 p.2 j){N:Nat}(hN1:N<=1000000000)(hN:zbk ND tb (zah ND tb p N)=none)(k1:tSS.R w w.heap.size [.slice A1 n1 c1] tb)(k2:tNS.R w w.heap.size [.slice A2 n2 c2] p.1)(k3:tS.R w w.heap.size [.slice A3 n3 c3] p.2):
 Calls Tryz.prog 28 #[.pointer (some ⟨vb,vo,none⟩)] w fun e w'=>∃A1' n1' c1' A2' n2' c2' A3' n3' c3',e=.returned (.agg #[.int .i64 a0,.slice A1' n1' c1',.slice A2' n2' c2',.slice A3' n3' c3'])/\tP.O w' (Iv w.heap.size w'.heap.size) [.int .i64 a0,.slice A1' n1' c1',.slice A2' n2' c2',.slice A3' n3' c3'] (a0,tb,(zbo (ND (zah ND tb p N)) (zah ND tb p N)).1,(zbo (ND (zah ND tb p N)) (zah ND tb p N)).2)/\Below w.heap.size w w':=by
 obtain⟨W,hW⟩:∃W,W=w.alloc (.cells #[.int .i64 0,.slice none 0 0,.slice none 0 0,.slice none 0 0] 67):=⟨_,rfl⟩;have B0:Below w.heap.size w W:=by rw[hW];exact zaf _ _
 have ZX:BX W w.heap.size (.int .i64 0) (.slice none 0 0) (.slice none 0 0) (.slice none 0 0):=by rw[hW];exact BX.new _ _ _ _ _ _
 have sW:W.heap.size=w.heap.size+1:=by rw[hW];simp
 have lW:w.heap.size<W.heap.size:=by omega
 have HW:=Lib.hid hW;have CA:=Lib.hid (zwg (V.later B0) h ho hND hN1 hN (tSS.later k1 B0) (tNS.later k2 B0) (tS.later k3 B0));obtain⟨R',hW',hl1,hl2⟩:=zhp hND h N;obtain⟨q,hq⟩:∃q,zah ND tb p N=q:=⟨_,rfl⟩;rw[hq]at hW' hl2 CA ⊢;have hoq:q.2.length<=1000:=by rw[hl2];exact ho
 have HWP:=Lib.hid hW';have HOQ:=Lib.hid hoq;have HND:=Lib.hid (hND q);clear hW sW k1 k2 k3 V h ho hN hND hq hW' hl1 hl2 hoq
 go_enter Tryz.func28,Tryz.ntmps28
 go_wp2_with fail;rw[<-HW.out];refine CA.out.mono ?_;rintro e w1 ⟨A1',n1',c1',A2',n2',c2',A3',n3',c3',lv,rfl,RK,b1⟩;obtain⟨X,hX⟩:∃X,X=w1.alloc (.cells #[.int .i64 a0,.slice A1' n1' c1',.slice A2' n2' c2',.slice A3' n3' c3'] 67):=⟨_,rfl⟩;have bX:Below w1.heap.size w1 X:=by rw[hX];exact zaf _ _
 have OX:BX X w1.heap.size (.int .i64 a0) (.slice A1' n1' c1') (.slice A2' n2' c2') (.slice A3' n3' c3'):=by rw[hX];exact BX.new _ _ _ _ _ _
 have HX:=Lib.hid hX;have PR:=RK X (Chg.of_below bX _);have s1:=b1.size;have BX_:=zaa b1 bX;have VX:PV X w1.heap.size 0 a0 A1' n1' c1' A2' n2' c2' A3' n3' c3':=⟨OX.c0,OX.c1,OX.c2,OX.c3⟩;have CN:=Lib.hid (zjv VX HWP.out HOQ.out (sl_R.1 PR.2.1) (tS_R.1 PR.2.2).ri HND.out);have HVX:=Lib.hid VX;have K1:=PR.1;have K2:=PR.2.1;have K3:=PR.2.2;clear hX RK PR VX;go_upto_region 2 with fail
 rw[<-HX.out];go_wp2_with fail;refine CN.out.mono ?_;rintro e w2 ⟨Al,cl,rfl,rl,b2⟩;have CK:=Lib.hid (zwh (cl:=cl) (HVX.out.later b2) HWP.out HOQ.out (tSS.later K1 b2) (tNS.later K2 b2) (tS.later K3 b2) rl);have B2:=zaa BX_ b2;clear rl;go_wp2_with fail;refine CK.out.mono ?_;rintro e w3 ⟨D1,m1,d1,D2,m2,d2,D3,m3,d3,rfl,ot,b3⟩;have B3:=zaa B2 b3;have s2:=B2.size;have s3:=b3.size;have Z3:=ZX.later B3;obtain⟨U,hU,ZU,chU,sU⟩:=Z3.set (.int .i64 a0) (.slice D1 m1 d1) (.slice D2 m2 d2) (.slice D3 m3 d3);have HU:=Lib.hid hU;have BU:Below w.heap.size w U:=(zaa B0 B3).trans (chU.toBelow (fun b (hb:b=_)=>by omega) (by omega))
 have OT:=Lib.hid (show tP.O U (Iv w.heap.size U.heap.size) _ _ from by
  have h1:=tP.ochg ot chU (fun b hb (e:b=_)=>by have:=hb.1;omega);obtain⟨_,_,_,_,_,_,_,_,_,F1,F2,F3,hcs,g1,g2,g3,z1,z2,z3,r⟩:=tP_O.1 h1;exact tP_O.2 ⟨_,_,_,_,_,_,_,_,_,F1,F2,F3,hcs,g1,g2,g3,fun b hb=>⟨by have:=(z1 b hb).1;omega,by have:=(z1 b hb).2;omega⟩,fun b hb=>⟨by have:=(z2 b hb).1;omega,by have:=(z2 b hb).2;omega⟩,fun b hb=>⟨by have:=(z3 b hb).1;omega,by have:=(z3 b hb).2;omega⟩,r⟩)
 obtain⟨t0,t1,t2,t3,tf,tl⟩:=Z3;have u0:=tf 0;have u1:=tf 1;have u2:=tf 2;have u3:=tf 3;obtain⟨d0_,d1_,d2_,d3_,df,dl⟩:=ZU;have f0:=df 0;have f1:=df 1;have f2:=df 2;have f3:=df 3;clear hU sU ot;go_wp2_with fail;rw[<-HU.out];refine bodyPost_ret (v:=.agg #[.int .i64 a0,.slice D1 m1 d1,.slice D2 m2 d2,.slice D3 m3 d3]) (by simp[results,Tryz.results28,go_sem,d0_,d1_,d2_,d3_,f0,f1,f2,f3]) rfl ?_;exact⟨_,_,_,_,_,_,_,_,_,rfl,OT.out,BU⟩
end
end
end Go.Proofs.YtifeldeikhmckaaGreat
