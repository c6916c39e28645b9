import Derived.Test.YtifeldeikhmckaaGreatFnExactOptimizeSessionG41
set_option linter.unusedVariables false
set_option linter.unusedSimpArgs false
set_option maxRecDepth 100000
set_option maxHeartbeats 4000000
namespace Go.Proofs.YtifeldeikhmckaaGreat
open Go.RowKit Go.Sort
section
section
variable {tb:List (List Int)} {p:NO} {R:Nat->Nat} {w:Yw} {vb vo:Nat} {a0:Int} {A1 :Yo} {n1 c1:Nat} {A2 :Yo} {n2 c2:Nat} {A3 :Yo} {n3 c3:Nat}
theorem zv9(V:PV w vb vo a0 A1 n1 c1 A2 n2 c2 A3 n3 c3)(h:M.WP tb p R)(ho:p.2.length<=1000)(k1:tSS.R w w.heap.size [.slice A1 n1 c1] tb)(k2:tNS.R w w.heap.size [.slice A2 n2 c2] p.1)(k3:tS.R w w.heap.size [.slice A3 n3 c3] p.2){i:Nat}(hi:i<n2):
 Calls Tryz.prog 133 #[.pointer (some ⟨vb,vo,none⟩),.int .i64 2,.int .i64 i] w fun e w'=>∃A1' n1' c1' A2' n2' c2' A3' n3' c3',e=.returned (.agg #[.int .i64 a0,.slice A1' n1' c1',.slice A2' n2' c2',.slice A3' n3' c3'])/\(∀T,Chg (fun b=>b<w.heap.size) w' T->PRd A1' n1' c1' A2' n2' c2' A3' n3' c3' tb (p.1.set i (2,0,0,[]),p.2) T)/\Below w.heap.size w w':=by
 obtain⟨W,hW⟩:∃W,W=w.alloc (.cells #[.int .i64 0,.slice none 0 0,.slice none 0 0,.slice none 0 0] 67):=⟨_,rfl⟩;have B0:Below w.heap.size w W:=by rw[hW];exact zaf _ _
 have ZX:BX W w.heap.size (.int .i64 0) (.slice none 0 0) (.slice none 0 0) (.slice none 0 0):=by rw[hW];exact BX.new _ _ _ _ _ _
 have sW:W.heap.size=w.heap.size+1:=by rw[hW];simp
 have lW:w.heap.size+1<=W.heap.size:=by omega
 have HW:=Lib.hid hW;have VW:=V.later B0;have q1:=tSS.later k1 B0;have q2:=tNS.later k2 B0;have q3:=tS.later k3 B0;have hl:=(sl_R.1 k2).cap.1;have hlen:=h.len;have hn2:n2<=24:=by omega
 have hi2:(i:Int)<(n2:Int):=by omega
 have HL:=Lib.hid hl;have CP:=Lib.hid (zee vb vo a0 A1 n1 c1 A2 n2 c2 A3 n3 c3 tb p.1 p.2 W VW.c0 VW.c1 VW.c2 VW.c3 q1 q2 q3 (h.szP ho a0));have HK1:=Lib.hid k1;have HK2:=Lib.hid k2;have HK3:=Lib.hid k3;have HV:=Lib.hid V;have HP:=Lib.hid h;have HO:=Lib.hid ho;clear hW sW q1 q2 q3 hl k1 k2 k3 V VW h ho
 go_enter Tryz.func133,Tryz.ntmps133
 go_wp2_with fail;rw[<-HW.out];refine CP.out.mono ?_;rintro e w1 ⟨A1',n1',c1',A2',n2',c2',A3',n3',c3',rfl,oz,bel⟩;obtain⟨X,hX,b1,F1,F2,F3,OW⟩:=OWN.of oz 67;have HX:=Lib.hid hX;clear hX oz;have hl2:=OW.g2.read.cap.1;obtain rfl:n2'=n2:=by have:=HL.out;omega
 clear hl2;obtain⟨g,k,a,b,A4,c4,fs,rfl,hgF,hgl,Y,e0,e1,e2,e3,hr3,hl3⟩:=OW.node HP.out hi;have s1:=bel.size;have BWX:=zaa bel b1;have ZXX:=ZX.later BWX;have BX_:=zaa B0 BWX;have sX:=OW.bx.lt;obtain⟨o0,o1,o2,o3,of_,ol⟩:=OW.bx;go_upto_region 2 with fail
 rw[<-HX.out];clear e0 e1 e2 e3 hr3 hl3 hgl;obtain⟨z0,z1,z2,z3,y0,y1,y2,y3,r0,r1,r2,r3,T,hT,OT,ZT,U,hU,ZU,BU,cU,RK⟩:=(OW.later (zaf X (.cells #[] 2))).fin (ZXX.later (zaf X (.cells #[] 2))) lW s1 (zaa BX_ (zaf X (.cells #[] 2))) hi 2 0 0 (some ⟨X.heap.size,0,none⟩) 0 0;have HT:=Lib.hid hT;have HU:=Lib.hid hU;have RK:=Lib.hid RK;clear hT hU;go_upto_region 24 with fail
 rw[<-HT.out];clear o0 o1 o2 o3 of_;obtain⟨o0,o1,o2,o3,of_,ol⟩:=OT;obtain⟨t0,t1,t2,t3,tf,tl⟩:=ZT;have u0:=tf 0;have u1:=tf 1;have u2:=tf 2;have u3:=tf 3;obtain⟨d0,d1,d2,d3,df,dl⟩:=ZU;have f0:=df 0;have f1:=df 1;have f2:=df 2;have f3:=df 3;clear y0 y1 y2 y3 r0 r1 r2 r3;go_wp2_with fail;rw[<-HU.out];refine bodyPost_ret (v:=.agg #[.int .i64 a0,.slice A1' n1' c1',.slice (some ⟨g,0,none⟩) n2' c2',.slice A3' n3' c3']) (by simp[results,Tryz.results133,go_sem,d0,d1,d2,d3,f0,f1,f2,f3]) rfl ?_;exact⟨_,_,_,_,_,_,_,_,_,rfl,(fun T hT=>RK.out T [] hT (tS_R.2 (RS.of_ri (RI.nil _ _ _) (Nat.le_refl _) (by simp[maxLen])))),BU⟩
end
end
section
section
variable {tb:List (List Int)} {p:NO} {R:Nat->Nat} {w:Yw} {vb vo:Nat} {a0:Int} {A1 :Yo} {n1 c1:Nat} {A2 :Yo} {n2 c2:Nat} {A3 :Yo} {n3 c3:Nat}
theorem zwa(V:PV w vb vo a0 A1 n1 c1 A2 n2 c2 A3 n3 c3)(h:M.WP tb p R)(ho:p.2.length<=1000)(k1:tSS.R w w.heap.size [.slice A1 n1 c1] tb)(k2:tNS.R w w.heap.size [.slice A2 n2 c2] p.1)(k3:tS.R w w.heap.size [.slice A3 n3 c3] p.2){i:Nat}(hi:i<n2):
 Calls Tryz.prog 133 #[.pointer (some ⟨vb,vo,none⟩),.int .i64 3,.int .i64 i] w fun e w'=>∃A1' n1' c1' A2' n2' c2' A3' n3' c3',e=.returned (.agg #[.int .i64 a0,.slice A1' n1' c1',.slice A2' n2' c2',.slice A3' n3' c3'])/\(∀T,Chg (fun b=>b<w.heap.size) w' T->PRd A1' n1' c1' A2' n2' c2' A3' n3' c3' tb (za5 i (zbb p.1 (zab p.1 i)) p) T)/\Below w.heap.size w w':=by
 obtain⟨W,hW⟩:∃W,W=w.alloc (.cells #[.int .i64 0,.slice none 0 0,.slice none 0 0,.slice none 0 0] 67):=⟨_,rfl⟩;have B0:Below w.heap.size w W:=by rw[hW];exact zaf _ _
 have ZX:BX W w.heap.size (.int .i64 0) (.slice none 0 0) (.slice none 0 0) (.slice none 0 0):=by rw[hW];exact BX.new _ _ _ _ _ _
 have sW:W.heap.size=w.heap.size+1:=by rw[hW];simp
 have lW:w.heap.size+1<=W.heap.size:=by omega
 have HW:=Lib.hid hW;have VW:=V.later B0;have q1:=tSS.later k1 B0;have q2:=tNS.later k2 B0;have q3:=tS.later k3 B0;have hl:=(sl_R.1 k2).cap.1;have hlen:=h.len;have hn2:n2<=24:=by omega
 have hi2:(i:Int)<(n2:Int):=by omega
 have HL:=Lib.hid hl;have CP:=Lib.hid (zee vb vo a0 A1 n1 c1 A2 n2 c2 A3 n3 c3 tb p.1 p.2 W VW.c0 VW.c1 VW.c2 VW.c3 q1 q2 q3 (h.szP ho a0));have HK1:=Lib.hid k1;have HK2:=Lib.hid k2;have HK3:=Lib.hid k3;have HV:=Lib.hid V;have HP:=Lib.hid h;have HO:=Lib.hid ho;obtain⟨vv,hvv⟩:∃vv,zbb p.1 (zab p.1 i)=vv:=⟨_,rfl⟩;rw[hvv];have HVV:=Lib.hid hvv;clear hW sW q1 q2 q3 hl k1 k2 k3 V VW h ho hvv
 go_enter Tryz.func133,Tryz.ntmps133
 go_wp2_with fail;rw[<-HW.out];refine CP.out.mono ?_;rintro e w1 ⟨A1',n1',c1',A2',n2',c2',A3',n3',c3',rfl,oz,bel⟩;obtain⟨X,hX,b1,F1,F2,F3,OW⟩:=OWN.of oz 67;have HX:=Lib.hid hX;clear hX oz;have hl2:=OW.g2.read.cap.1;obtain rfl:n2'=n2:=by have:=HL.out;omega
 clear hl2;obtain⟨g,k,a,b,A4,c4,fs,rfl,hgF,hgl,Y,e0,e1,e2,e3,hr3,hl3⟩:=OW.node HP.out hi;have s1:=bel.size;have BWX:=zaa bel b1;have ZXX:=ZX.later BWX;have BX_:=zaa B0 BWX;have sX:=OW.bx.lt;obtain⟨o0,o1,o2,o3,of_,ol⟩:=OW.bx;go_upto_region 2 with fail
 rw[<-HX.out];clear e0 e1 e2 e3 hr3 hl3 hgl;have CV:=Lib.hid (zof (HV.out.later BX_) HP.out (sl_R.1 (tNS.later HK2.out BX_)) hi);rw[HVV.out]at CV;go_wp2_with fail;refine CV.out.mono ?_;rintro e w2 ⟨rfl,b2⟩;have BR:=zaa BX_ b2;have OWR:=OW.later b2;have ZXR:=ZXX.later b2;have sR:=BR.size;clear o0 o1 o2 o3 of_;obtain⟨o0,o1,o2,o3,of_,ol⟩:=OWR.bx;have CR:=Lib.hid (zok (vo:=0) ⟨o0,o1,o2,o3⟩ HP.out HO.out OWR.g2 OWR.g3 OWR.d23 (fun hf=>by have:=(OWR.z2 _ hf).2;omega) (fun hf=>by have:=(OWR.z3 _ hf).2;omega) i vv);go_wp2_with fail;refine CR.out.mono ?_;rintro e w5 ⟨rfl,O2,O3,ch⟩;have sc:=ch.size;have OB:=OWR.bx.chg ch (fun hf=>by rcases hf with hf|hf;have:=(OWR.z2 _ hf).2;omega;have:=(OWR.z3 _ hf).2;omega);have ZT:=ZXR.chg ch (fun hf=>by rcases hf with hf|hf;have:=(OWR.z2 _ hf).1;omega;have:=(OWR.z3 _ hf).1;omega);obtain⟨U,hU,ZU,chU,sU⟩:=ZT.set (.int .i64 a0) (.slice A1' n1' c1') (.slice (some ⟨g,0,none⟩) n2' c2') (.slice A3' n3' c3');have HU:=Lib.hid hU;have BU:Below w.heap.size w U:=(BR.trans (ch.toBelow (fun b hb=>by rcases hb with hb|hb;have:=(OWR.z2 _ hb).1;omega;have:=(OWR.z3 _ hb).1;omega) (by omega))).trans (chU.toBelow (fun b (hb:b=_)=>by omega) (by omega))
 have RK:=Lib.hid (show ∀T,Chg (fun b=>b<w.heap.size) U T->PRd A1' n1' c1' (some ⟨g,0,none⟩) n2' c2' A3' n3' c3' tb (za5 i vv p) T from fun T hT=>
  ⟨tSS.read (tSS.ochg (tSS.ochg (tSS.ochg OWR.g1 ch (fun b hb hf=>hf.elim (OWR.d12 b hb) (OWR.d13 b hb))) chU (fun b hb (e:b=_)=>by have:=(OWR.z1 b hb).1;omega)) hT (fun b hb (e:b<_)=>by have:=(OWR.z1 b hb).1;omega)),
   tNS.read (tNS.ochg (tNS.ochg (sl_O.2 O2) chU (fun b hb (e:b=_)=>by have:=(OWR.z2 b hb).1;omega)) hT (fun b hb (e:b<_)=>by have:=(OWR.z2 b hb).1;omega)),
   tS.read (tS.ochg (tS.ochg (tS_O.2 O3) chU (fun b hb (e:b=_)=>by have:=(OWR.z3 b hb).1;omega)) hT (fun b hb (e:b<_)=>by have:=(OWR.z3 b hb).1;omega))⟩)
 clear o0 o1 o2 o3 of_ hU;obtain⟨o0,o1,o2,o3,of_,ol⟩:=OB;obtain⟨t0,t1,t2,t3,tf,tl⟩:=ZT;have u0:=tf 0;have u1:=tf 1;have u2:=tf 2;have u3:=tf 3;obtain⟨d0,d1,d2,d3,df,dl⟩:=ZU;have f0:=df 0;have f1:=df 1;have f2:=df 2;have f3:=df 3;go_wp2_with fail;rw[<-HU.out];refine bodyPost_ret (v:=.agg #[.int .i64 a0,.slice A1' n1' c1',.slice (some ⟨g,0,none⟩) n2' c2',.slice A3' n3' c3']) (by simp[results,Tryz.results133,go_sem,d0,d1,d2,d3,f0,f1,f2,f3]) rfl ?_;exact⟨_,_,_,_,_,_,_,_,_,rfl,RK.out,BU⟩
end
end
section
section
variable {tb:List (List Int)} {p:NO} {R:Nat->Nat} {w:Yw} {vb vo:Nat} {a0:Int} {A1 :Yo} {n1 c1:Nat} {A2 :Yo} {n2 c2:Nat} {A3 :Yo} {n3 c3:Nat}
theorem zwb(V:PV w vb vo a0 A1 n1 c1 A2 n2 c2 A3 n3 c3)(h:M.WP tb p R)(ho:p.2.length<=1000)(k1:tSS.R w w.heap.size [.slice A1 n1 c1] tb)(k2:tNS.R w w.heap.size [.slice A2 n2 c2] p.1)(k3:tS.R w w.heap.size [.slice A3 n3 c3] p.2){i:Nat}(hi:i<n2)(hF:zbw p.1 (zab p.1 i)=true):
 Calls Tryz.prog 133 #[.pointer (some ⟨vb,vo,none⟩),.int .i64 4,.int .i64 i] w fun e w'=>∃A1' n1' c1' A2' n2' c2' A3' n3' c3',e=.returned (.agg #[.int .i64 a0,.slice A1' n1' c1',.slice A2' n2' c2',.slice A3' n3' c3'])/\(∀T,Chg (fun b=>b<w.heap.size) w' T->PRd A1' n1' c1' A2' n2' c2' A3' n3' c3' tb (p.1.set i (zdp p.1 (zab p.1 i)),p.2) T)/\Below w.heap.size w w':=by
 obtain⟨W,hW⟩:∃W,W=w.alloc (.cells #[.int .i64 0,.slice none 0 0,.slice none 0 0,.slice none 0 0] 67):=⟨_,rfl⟩;have B0:Below w.heap.size w W:=by rw[hW];exact zaf _ _
 have ZX:BX W w.heap.size (.int .i64 0) (.slice none 0 0) (.slice none 0 0) (.slice none 0 0):=by rw[hW];exact BX.new _ _ _ _ _ _
 have sW:W.heap.size=w.heap.size+1:=by rw[hW];simp
 have lW:w.heap.size+1<=W.heap.size:=by omega
 have HW:=Lib.hid hW;have VW:=V.later B0;have q1:=tSS.later k1 B0;have q2:=tNS.later k2 B0;have q3:=tS.later k3 B0;have hl:=(sl_R.1 k2).cap.1;have hlen:=h.len;have hn2:n2<=24:=by omega
 have hi2:(i:Int)<(n2:Int):=by omega
 have HL:=Lib.hid hl;have CP:=Lib.hid (zee vb vo a0 A1 n1 c1 A2 n2 c2 A3 n3 c3 tb p.1 p.2 W VW.c0 VW.c1 VW.c2 VW.c3 q1 q2 q3 (h.szP ho a0));have HK1:=Lib.hid k1;have HK2:=Lib.hid k2;have HK3:=Lib.hid k3;have HV:=Lib.hid V;have HP:=Lib.hid h;have HO:=Lib.hid ho;have HF:=Lib.hid hF;clear hW sW q1 q2 q3 hl k1 k2 k3 V VW h ho hF
 go_enter Tryz.func133,Tryz.ntmps133
 go_wp2_with fail;rw[<-HW.out];refine CP.out.mono ?_;rintro e w1 ⟨A1',n1',c1',A2',n2',c2',A3',n3',c3',rfl,oz,bel⟩;obtain⟨X,hX,b1,F1,F2,F3,OW⟩:=OWN.of oz 67;have HX:=Lib.hid hX;clear hX oz;have hl2:=OW.g2.read.cap.1;obtain rfl:n2'=n2:=by have:=HL.out;omega
 clear hl2;obtain⟨g,k,a,b,A4,c4,fs,rfl,hgF,hgl,Y,e0,e1,e2,e3,hr3,hl3⟩:=OW.node HP.out hi;have s1:=bel.size;have BWX:=zaa bel b1;have ZXX:=ZX.later BWX;have BX_:=zaa B0 BWX;have sX:=OW.bx.lt;obtain⟨o0,o1,o2,o3,of_,ol⟩:=OW.bx;go_upto_region 2 with fail
 rw[<-HX.out];have hF:=HF.out;rw[Y.out,zbw,Bool.and_eq_true,decide_eq_true_eq]at hF;obtain⟨hk,-⟩:=hF;simp only at hk;subst hk;have hok:=(HP.out.node (i:=i) (by have:=HL.out;omega)).2;rw[Y.out]at hok;have hl2:fs.length=2:=zc6 hok (by decide);have hip:i<p.1.length:=by have:=HL.out;omega
 obtain⟨f,f1,f2,f3,f4⟩:=HP.out.inpt hip Y.out (j:=0) (by omega);obtain⟨q,t1,t2,t3,t4⟩:=HP.out.inpt hip Y.out (j:=1) (by omega);obtain⟨bf,of__,rfl,hbf,hcf⟩:=zak hr3 (by omega);have v0:=hcf 0 _ f1;have v1:=hcf 1 _ t1;rw[Nat.add_zero]at v0;rw[hl2]at e3;have hfn:f<n2':=by rw[<-HL.out];exact f2
 have hqn:q<n2':=by rw[<-HL.out];exact t2
 have hr2:=sl_R.1 (tNS.later HK2.out BX_);have CI:=Lib.hid (zf6 (HV.out.later BX_) HP.out hr2 hfn)
 have FN:=Lib.hid (show zdp p.1 (zab p.1 i)=if zbl p.1 f then(5,(zab p.1 f).2.1,0,[(q:Int)])else(5,(zab p.1 q).2.1,0,[(f:Int)])by
  rw[Y.out,zdp,f3,t3];simp only[f4,t4])
 obtain⟨z0,z1,z2,z3⟩:=HV.out.later BX_;cases hz:zbl p.1 f
 ·rw[hz]at CI;have E:=Lib.hid (FN.out.trans (by rw[hz];rfl):zdp p.1 (zab p.1 i)=(5,(zab p.1 q).2.1,0,[(f:Int)]));obtain⟨bb,o,y0_,ya,y2_,A5,c5,y3_,hA,hb',Z',u0_,ub,u2_,u3_,hr5,hl5⟩:=zbg HP.out hr2 hqn;subst hA;have hci:(q:Int)<(n2':Int):=by omega
  have hc0:(0:Int)<=(q:Int):=by omega
  have HYA:=Lib.hid (show (zab p.1 q).2.1=ya by rw[Z'.out]);clear hz FN f1 f2 f3 f4 t1 t2 t3 t4 hcf hr3 hl3 hgl hok Y Z' u0_ u2_ u3_ hr5 hl5;go_wp2_with fail;refine CI.out.mono ?_;rintro e w4 ⟨rfl,rfl⟩;obtain⟨X',hX',bX'⟩:∃X',X'=X.alloc (.cells #[.int .i64 f] 2)/\Below X.heap.size X X':=⟨_,rfl,zaf _ _⟩;have lit:X'.cell? ⟨X.heap.size,0,none⟩=some (.int .i64 f):=by rw[hX'];simp[go_sem]
  have sX':X.heap.size<X'.heap.size:=by rw[hX'];simp
  obtain⟨z0',z1',z2',z3',y0,y1,y2,y3,r0,r1,r2,r3,T,hT,OT,ZT,U,hU,ZU,BU,cU,RK⟩:=(OW.later bX').fin (ZXX.later bX') lW s1 (zaa BX_ bX') hi 5 ya 0 (some ⟨X.heap.size,0,none⟩) 1 1;have LT:=Lib.hid (show ∀T,Chg (fun b=>b<w.heap.size) U T->tS.R T T.heap.size [.slice (some ⟨X.heap.size,0,none⟩) 1 1] [(f:Int)]from fun T hT=>zhw ((cU.cell sX' (fun e=>by have:=e.2;omega)).trans lit) (by have:=BX_.size;omega) hT);rw[hX']at hT y0 y1 y2 y3 r0 r1 r2 r3;clear hX' lit;have HT:=Lib.hid hT;have HU:=Lib.hid hU;have RK:=Lib.hid RK;clear hT hU;go_upto_region 24 with fail
  rw[<-HT.out];clear o0 o1 o2 o3 of_;obtain⟨o0,o1,o2,o3,of_,ol⟩:=OT;obtain⟨t0,t1,t2,t3,tf,tl⟩:=ZT;have u0:=tf 0;have u1:=tf 1;have u2:=tf 2;have u3:=tf 3;obtain⟨d0,d1,d2,d3,df,dl⟩:=ZU;have f0:=df 0;have f1:=df 1;have f2:=df 2;have f3:=df 3;clear y0 y1 y2 y3 r0 r1 r2 r3;go_wp2_with fail;rw[<-HU.out];refine bodyPost_ret (v:=.agg #[.int .i64 a0,.slice A1' n1' c1',.slice (some ⟨g,0,none⟩) n2' c2',.slice A3' n3' c3']) (by simp[results,Tryz.results133,go_sem,d0,d1,d2,d3,f0,f1,f2,f3]) rfl ?_;exact⟨_,_,_,_,_,_,_,_,_,rfl,(by rw[E.out,HYA.out];exact fun T hT=>RK.out T _ hT (LT.out T hT)),BU⟩
 rw[hz]at CI;have E:=Lib.hid (FN.out.trans (by rw[hz];rfl):zdp p.1 (zab p.1 i)=(5,(zab p.1 f).2.1,0,[(q:Int)]));obtain⟨bb,o,y0_,ya,y2_,A5,c5,y3_,hA,hb',Z',u0_,ub,u2_,u3_,hr5,hl5⟩:=zbg HP.out hr2 hfn;subst hA;have hci:(f:Int)<(n2':Int):=by omega
 have hc0:(0:Int)<=(f:Int):=by omega
 have HYA:=Lib.hid (show (zab p.1 f).2.1=ya by rw[Z'.out]);clear hz FN f1 f2 f3 f4 t1 t2 t3 t4 hcf hr3 hl3 hgl hok Y Z' u0_ u2_ u3_ hr5 hl5;go_wp2_with fail;refine CI.out.mono ?_;rintro e w4 ⟨rfl,rfl⟩;obtain⟨X',hX',bX'⟩:∃X',X'=X.alloc (.cells #[.int .i64 q] 2)/\Below X.heap.size X X':=⟨_,rfl,zaf _ _⟩;have lit:X'.cell? ⟨X.heap.size,0,none⟩=some (.int .i64 q):=by rw[hX'];simp[go_sem]
 have sX':X.heap.size<X'.heap.size:=by rw[hX'];simp
 obtain⟨z0',z1',z2',z3',y0,y1,y2,y3,r0,r1,r2,r3,T,hT,OT,ZT,U,hU,ZU,BU,cU,RK⟩:=(OW.later bX').fin (ZXX.later bX') lW s1 (zaa BX_ bX') hi 5 ya 0 (some ⟨X.heap.size,0,none⟩) 1 1;have LT:=Lib.hid (show ∀T,Chg (fun b=>b<w.heap.size) U T->tS.R T T.heap.size [.slice (some ⟨X.heap.size,0,none⟩) 1 1] [(q:Int)]from fun T hT=>zhw ((cU.cell sX' (fun e=>by have:=e.2;omega)).trans lit) (by have:=BX_.size;omega) hT);rw[hX']at hT y0 y1 y2 y3 r0 r1 r2 r3;clear hX' lit;have HT:=Lib.hid hT;have HU:=Lib.hid hU;have RK:=Lib.hid RK;clear hT hU;go_upto_region 24 with fail
 rw[<-HT.out];clear o0 o1 o2 o3 of_;obtain⟨o0,o1,o2,o3,of_,ol⟩:=OT;obtain⟨t0,t1,t2,t3,tf,tl⟩:=ZT;have u0:=tf 0;have u1:=tf 1;have u2:=tf 2;have u3:=tf 3;obtain⟨d0,d1,d2,d3,df,dl⟩:=ZU;have f0:=df 0;have f1:=df 1;have f2:=df 2;have f3:=df 3;clear y0 y1 y2 y3 r0 r1 r2 r3;go_wp2_with fail;rw[<-HU.out];refine bodyPost_ret (v:=.agg #[.int .i64 a0,.slice A1' n1' c1',.slice (some ⟨g,0,none⟩) n2' c2',.slice A3' n3' c3']) (by simp[results,Tryz.results133,go_sem,d0,d1,d2,d3,f0,f1,f2,f3]) rfl ?_;exact⟨_,_,_,_,_,_,_,_,_,rfl,(by rw[E.out,HYA.out];exact fun T hT=>RK.out T _ hT (LT.out T hT)),BU⟩
end
end
section
section
variable {tb:List (List Int)} {p:NO} {R:Nat->Nat} {w:Yw} {vb vo:Nat} {a0:Int} {A1 :Yo} {n1 c1:Nat} {A2 :Yo} {n2 c2:Nat} {A3 :Yo} {n3 c3:Nat}
theorem zwc(V:PV w vb vo a0 A1 n1 c1 A2 n2 c2 A3 n3 c3)(h:M.WP tb p R)(ho:p.2.length<=1000)(k1:tSS.R w w.heap.size [.slice A1 n1 c1] tb)(k2:tNS.R w w.heap.size [.slice A2 n2 c2] p.1)(k3:tS.R w w.heap.size [.slice A3 n3 c3] p.2){i:Nat}(hi:i<n2)(hF:zb4 p.1 (zab p.1 i)=true):
 Calls Tryz.prog 133 #[.pointer (some ⟨vb,vo,none⟩),.int .i64 5,.int .i64 i] w fun e w'=>∃A1' n1' c1' A2' n2' c2' A3' n3' c3',e=.returned (.agg #[.int .i64 a0,.slice A1' n1' c1',.slice A2' n2' c2',.slice A3' n3' c3'])/\(∀T,Chg (fun b=>b<w.heap.size) w' T->PRd A1' n1' c1' A2' n2' c2' A3' n3' c3' tb (p.1.set i (zeb p.1 (zab p.1 i)),p.2) T)/\Below w.heap.size w w':=by
 obtain⟨W,hW⟩:∃W,W=w.alloc (.cells #[.int .i64 0,.slice none 0 0,.slice none 0 0,.slice none 0 0] 67):=⟨_,rfl⟩;have B0:Below w.heap.size w W:=by rw[hW];exact zaf _ _
 have ZX:BX W w.heap.size (.int .i64 0) (.slice none 0 0) (.slice none 0 0) (.slice none 0 0):=by rw[hW];exact BX.new _ _ _ _ _ _
 have sW:W.heap.size=w.heap.size+1:=by rw[hW];simp
 have lW:w.heap.size+1<=W.heap.size:=by omega
 have HW:=Lib.hid hW;have VW:=V.later B0;have q1:=tSS.later k1 B0;have q2:=tNS.later k2 B0;have q3:=tS.later k3 B0;have hl:=(sl_R.1 k2).cap.1;have hlen:=h.len;have hn2:n2<=24:=by omega
 have hi2:(i:Int)<(n2:Int):=by omega
 have HL:=Lib.hid hl;have CP:=Lib.hid (zee vb vo a0 A1 n1 c1 A2 n2 c2 A3 n3 c3 tb p.1 p.2 W VW.c0 VW.c1 VW.c2 VW.c3 q1 q2 q3 (h.szP ho a0));have HK1:=Lib.hid k1;have HK2:=Lib.hid k2;have HK3:=Lib.hid k3;have HV:=Lib.hid V;have HP:=Lib.hid h;have HO:=Lib.hid ho;have HF:=Lib.hid hF;clear hW sW q1 q2 q3 hl k1 k2 k3 V VW h ho hF
 go_enter Tryz.func133,Tryz.ntmps133
 go_wp2_with fail;rw[<-HW.out];refine CP.out.mono ?_;rintro e w1 ⟨A1',n1',c1',A2',n2',c2',A3',n3',c3',rfl,oz,bel⟩;obtain⟨X,hX,b1,F1,F2,F3,OW⟩:=OWN.of oz 67;have HX:=Lib.hid hX;clear hX oz;have hl2:=OW.g2.read.cap.1;obtain rfl:n2'=n2:=by have:=HL.out;omega
 clear hl2;obtain⟨g,k,a,b,A4,c4,fs,rfl,hgF,hgl,Y,e0,e1,e2,e3,hr3,hl3⟩:=OW.node HP.out hi;have s1:=bel.size;have BWX:=zaa bel b1;have ZXX:=ZX.later BWX;have BX_:=zaa B0 BWX;have sX:=OW.bx.lt;obtain⟨o0,o1,o2,o3,of_,ol⟩:=OW.bx;go_upto_region 2 with fail
 rw[<-HX.out];have hF:=HF.out;rw[Y.out,zb4,Bool.and_eq_true,decide_eq_true_eq]at hF;obtain⟨hk,-⟩:=hF;simp only at hk;subst hk;have hok:=(HP.out.node (i:=i) (by have:=HL.out;omega)).2;rw[Y.out]at hok;have hl2:fs.length=1:=zc6 hok (by decide);have hip:i<p.1.length:=by have:=HL.out;omega
 obtain⟨f,f1,f2,f3,f4⟩:=HP.out.inpt hip Y.out (j:=0) (by omega);obtain⟨bf,of__,rfl,hbf,hcf⟩:=zak hr3 (by omega);have v0:=hcf 0 _ f1;rw[Nat.add_zero]at v0;rw[hl2]at e3;have hfn:f<n2':=by rw[<-HL.out];exact f2
 have hr2:=sl_R.1 (tNS.later HK2.out BX_);obtain⟨z0,z1,z2,z3⟩:=HV.out.later BX_;obtain⟨bb,o,ya0,ya,yb,A5,c5,yl,hA,hb',Z',u0,u1,u2,u3,hr5,hl5⟩:=zbg HP.out hr2 hfn;subst hA;have hci:(f:Int)<(n2':Int):=by omega
 have hc0:(0:Int)<=(f:Int):=by omega
 have E:=Lib.hid (show zeb p.1 (zab p.1 i)=(5,wrap32 (a*ya),0,yl)by rw[Y.out,zeb,f3,Z'.out]);have g1_:=cell_regrown z2;have g2_:=cell_regrown e3;have g3_:=cell_regrown v0;have g4_:=cell_regrown u0;have g5_:=cell_regrown u1;have g6_:=cell_regrown u2;have g7_:=cell_regrown u3;obtain⟨U1,hU1⟩:∃U1,U1=(X.alloc (.cells #[.int .i64 ya0,.int .i64 ya,.int .i64 yb,.slice A5 yl.length c5] 169)).drew:=⟨_,rfl⟩;have NU:BX U1 X.heap.size (.int .i64 ya0) (.int .i64 ya) (.int .i64 yb) (.slice A5 yl.length c5):=by rw[hU1];exact(BX.new _ _ _ _ _ _).drew
 have B1:Below X.heap.size X U1:=by rw[hU1];exact zae (zaf _ _) 1
 have D1:Below X.heap.size X (X.drew.alloc (.cells #[.int .i64 0,.int .i64 0,.int .i64 0,.slice none 0 0] 169)):=zaa (Below.refl _ _).drew (zaf _ _);have HU1:=Lib.hid hU1;have sU1:X.heap.size<U1.heap.size:=NU.lt;have e1':=cell_regrown ((B1.cell (by exact hgl)).trans e1);have riU:=(hr5.later B1).later (Below.refl _ _).drew;have nn1_:=cell_regrown (show U1.cell? ⟨X.heap.size,1,none⟩=some (.int .i64 ya)from NU.c1);have nn3_:=cell_regrown (show U1.cell? ⟨X.heap.size,3,none⟩=some (.slice A5 yl.length c5)from NU.c3);clear hU1 f1 f2 f3 f4 hcf hr3 hl3 hgl hok Y Z' u0 u1 u2 u3 hr5;go_upto_region 19 with fail
 (refine zcp [0,1,2,4,5,6] [3,7,8,9,10,11] 1 (.one 12 .rest) [13] (by kernel_rfl) (by kernel_rfl) ?_;simp only[zar];simp only[List.filterMap,List.getElem?_cons_succ,List.getElem?_cons_zero];(repeat (go_big_quiet_step (fail)));refine wpQuiet_nil ?_;(repeat (go_big_quiet_step (fail)));refine wpQuiet_nil ?_)
 refine zat rfl ?_;go_wp2_with fail;refine⟨regrown_of_below D1,zbr ?_⟩;clear g1_ g2_ g3_ g4_ g5_ g6_ g7_;go_upto_region 20 with fail
 rw[<-HU1.out];go_wp2_with fail
 (refine zcp [0,1,2,3,5,8] [4,6,9] 2 (.one 7 (.one 10 .rest)) [11,12,13] (by kernel_rfl) (by kernel_rfl) ?_;simp only[zar];simp only[List.filterMap,List.getElem?_cons_succ,List.getElem?_cons_zero];(repeat (go_big_quiet_step (fail)));refine wpQuiet_nil ?_;(repeat (go_big_quiet_step (fail)));refine wpQuiet_nil ?_)
 refine zat rfl ?_;go_wp2_with fail;refine(zhj _ _ _).mono ?_;rintro e w4 ⟨rfl,rfl⟩;go_wp2_with fail;refine⟨regrown_of_below (Below.refl _ _).drew,zat rfl ?_⟩;go_wp2_with fail;refine(zd4 _ _ _ _ _ riU (by omega)).mono ?_;rintro e w5 ⟨v5,rfl,own5,b5⟩;obtain⟨A6,c6,rfl,-⟩:=own5.shape;have BU5:Below U1.heap.size U1 w5:=zaa (Below.refl _ _).drew b5;have B5:=zaa B1 BU5;have sB5:=B5.size;go_wp2_with fail;refine⟨regrown_of_below BU5,zbr ?_⟩;clear e1' nn1_ nn3_ o0 o1 o2 o3 of_;obtain⟨z0',z1',z2',z3',y0,y1,y2,y3,r0,r1,r2,r3,T,hT,OT,ZT,U,hU,ZU,BU,cU,RK⟩:=(OW.later B5).fin (ZXX.later B5) lW s1 (zaa BX_ B5) hi 5 (wrap32 (a*ya)) 0 A6 yl.length c6;have sd:U1.drew.heap.size=U1.heap.size:=rfl;have LT:=Lib.hid (show ∀T,Chg (fun b=>b<w.heap.size) U T->tS.R T T.heap.size [.slice A6 yl.length c6] yl from fun T hT=>tS.read (tS.ochg (tS.ochg (tS_O.2 (OI.os own5)) cU (fun b hb (e:_/\_)=>by have h1:=hb.1;have h2:=e.2;omega)) hT (fun b hb (e:b<_)=>by have h1:=hb.1;have:=BX_.size;omega)));have HT:=Lib.hid hT;have HU:=Lib.hid hU;have RK:=Lib.hid RK;clear hT hU;go_upto_region 24 with fail
 rw[<-HT.out];obtain⟨o0,o1,o2,o3,of_,ol⟩:=OT;obtain⟨t0,t1,t2,t3,tf,tl⟩:=ZT;have u0:=tf 0;have u1:=tf 1;have u2:=tf 2;have u3:=tf 3;obtain⟨d0,d1,d2,d3,df,dl⟩:=ZU;have f0:=df 0;have f1:=df 1;have f2:=df 2;have f3:=df 3;clear y0 y1 y2 y3 r0 r1 r2 r3;go_wp2_with fail;rw[<-HU.out];refine bodyPost_ret (v:=.agg #[.int .i64 a0,.slice A1' n1' c1',.slice (some ⟨g,0,none⟩) n2' c2',.slice A3' n3' c3']) (by simp[results,Tryz.results133,go_sem,d0,d1,d2,d3,f0,f1,f2,f3]) rfl ?_;exact⟨_,_,_,_,_,_,_,_,_,rfl,(by rw[E.out];exact fun T hT=>RK.out T _ hT (LT.out T hT)),BU⟩
end
end
section
section
variable {tb:List (List Int)} {p:NO} {R:Nat->Nat} {w:Yw} {vb vo:Nat} {a0:Int} {A1 :Yo} {n1 c1:Nat} {A2 :Yo} {n2 c2:Nat} {A3 :Yo} {n3 c3:Nat}
theorem zwd(V:PV w vb vo a0 A1 n1 c1 A2 n2 c2 A3 n3 c3)(h:M.WP tb p R)(ho:p.2.length<=1000)(k1:tSS.R w w.heap.size [.slice A1 n1 c1] tb)(k2:tNS.R w w.heap.size [.slice A2 n2 c2] p.1)(k3:tS.R w w.heap.size [.slice A3 n3 c3] p.2){i:Nat}(hi:i<n2)(hF:zbq p.1 i (zab p.1 i)=true):
 Calls Tryz.prog 133 #[.pointer (some ⟨vb,vo,none⟩),.int .i64 6,.int .i64 i] w fun e w'=>∃A1' n1' c1' A2' n2' c2' A3' n3' c3',e=.returned (.agg #[.int .i64 a0,.slice A1' n1' c1',.slice A2' n2' c2',.slice A3' n3' c3'])/\(∀T,Chg (fun b=>b<w.heap.size) w' T->PRd A1' n1' c1' A2' n2' c2' A3' n3' c3' tb (p.1.set i (zec p.1 (zab p.1 i)),p.2) T)/\Below w.heap.size w w':=by
 obtain⟨W,hW⟩:∃W,W=w.alloc (.cells #[.int .i64 0,.slice none 0 0,.slice none 0 0,.slice none 0 0] 67):=⟨_,rfl⟩;have B0:Below w.heap.size w W:=by rw[hW];exact zaf _ _
 have ZX:BX W w.heap.size (.int .i64 0) (.slice none 0 0) (.slice none 0 0) (.slice none 0 0):=by rw[hW];exact BX.new _ _ _ _ _ _
 have sW:W.heap.size=w.heap.size+1:=by rw[hW];simp
 have lW:w.heap.size+1<=W.heap.size:=by omega
 have HW:=Lib.hid hW;have VW:=V.later B0;have q1:=tSS.later k1 B0;have q2:=tNS.later k2 B0;have q3:=tS.later k3 B0;have hl:=(sl_R.1 k2).cap.1;have hlen:=h.len;have hn2:n2<=24:=by omega
 have hi2:(i:Int)<(n2:Int):=by omega
 have HL:=Lib.hid hl;have CP:=Lib.hid (zee vb vo a0 A1 n1 c1 A2 n2 c2 A3 n3 c3 tb p.1 p.2 W VW.c0 VW.c1 VW.c2 VW.c3 q1 q2 q3 (h.szP ho a0));have HK1:=Lib.hid k1;have HK2:=Lib.hid k2;have HK3:=Lib.hid k3;have HV:=Lib.hid V;have HP:=Lib.hid h;have HO:=Lib.hid ho;have HF:=Lib.hid hF;clear hW sW q1 q2 q3 hl k1 k2 k3 V VW h ho hF
 go_enter Tryz.func133,Tryz.ntmps133
 go_wp2_with fail;rw[<-HW.out];refine CP.out.mono ?_;rintro e w1 ⟨A1',n1',c1',A2',n2',c2',A3',n3',c3',rfl,oz,bel⟩;obtain⟨X,hX,b1,F1,F2,F3,OW⟩:=OWN.of oz 67;have HX:=Lib.hid hX;clear hX oz;have hl2:=OW.g2.read.cap.1;obtain rfl:n2'=n2:=by have:=HL.out;omega
 clear hl2;obtain⟨g,k,a,b,A4,c4,fs,rfl,hgF,hgl,Y,e0,e1,e2,e3,hr3,hl3⟩:=OW.node HP.out hi;have s1:=bel.size;have BWX:=zaa bel b1;have ZXX:=ZX.later BWX;have BX_:=zaa B0 BWX;have sX:=OW.bx.lt;obtain⟨o0,o1,o2,o3,of_,ol⟩:=OW.bx;go_upto_region 2 with fail
 rw[<-HX.out];have hF:=HF.out;rw[Y.out,zbq,Bool.and_eq_true,Bool.and_eq_true,Bool.and_eq_true,decide_eq_true_eq,decide_eq_true_eq,decide_eq_true_eq]at hF;obtain⟨⟨⟨hk,-⟩,hk6⟩,h16⟩:=hF;simp only at hk;subst hk;have hok:=(HP.out.node (i:=i) (by have:=HL.out;omega)).2;rw[Y.out]at hok;have hl2:fs.length=1:=zc6 hok (by decide);have hip:i<p.1.length:=by have:=HL.out;omega
 obtain⟨f,f1,f2,f3,f4⟩:=HP.out.inpt hip Y.out (j:=0) (by omega);obtain⟨bf,of__,rfl,hbf,hcf⟩:=zak hr3 (by omega);have v0:=hcf 0 _ f1;rw[Nat.add_zero]at v0;rw[hl2]at e3;have hfn:f<n2':=by rw[<-HL.out];exact f2
 have hr2:=sl_R.1 (tNS.later HK2.out BX_);obtain⟨z0,z1,z2,z3⟩:=HV.out.later BX_;obtain⟨bb,o,ya0,ya,yb,A5,c5,yl,hA,hb',Z',u0,u1,u2,u3,hr5,hl5⟩:=zbg HP.out hr2 hfn;subst hA;have hci:(f:Int)<(n2':Int):=by omega
 have hc0:(0:Int)<=(f:Int):=by omega
 have E:=Lib.hid (show zec p.1 (zab p.1 i)=(6,a+ya,0,yl)by rw[Y.out,zec,f3,Z'.out]);have h16a:=(zdj hok).2.1 rfl;have hoky:=(HP.out.node (i:=f) (by have:=HL.out;omega)).2;rw[f3,Z'.out]at hk6;rw[f3,Z'.out]at h16;rw[Z'.out]at hoky;have h16y:=(zdj hoky).2.1 hk6;simp only at h16a h16y;have hs:-9000000000<=a+ya/\a+ya<=9000000000:=by omega
 have g1_:=cell_regrown z2;have g2_:=cell_regrown e3;have g3_:=cell_regrown v0;have g4_:=cell_regrown u0;have g5_:=cell_regrown u1;have g6_:=cell_regrown u2;have g7_:=cell_regrown u3;obtain⟨U1,hU1⟩:∃U1,U1=(X.alloc (.cells #[.int .i64 ya0,.int .i64 ya,.int .i64 yb,.slice A5 yl.length c5] 169)).drew:=⟨_,rfl⟩;have NU:BX U1 X.heap.size (.int .i64 ya0) (.int .i64 ya) (.int .i64 yb) (.slice A5 yl.length c5):=by rw[hU1];exact(BX.new _ _ _ _ _ _).drew
 have B1:Below X.heap.size X U1:=by rw[hU1];exact zae (zaf _ _) 1
 have D1:Below X.heap.size X (X.drew.alloc (.cells #[.int .i64 0,.int .i64 0,.int .i64 0,.slice none 0 0] 169)):=zaa (Below.refl _ _).drew (zaf _ _);have HU1:=Lib.hid hU1;have sU1:X.heap.size<U1.heap.size:=NU.lt;have e1':=cell_regrown ((B1.cell (by exact hgl)).trans e1);have riU:=(hr5.later B1).later (Below.refl _ _).drew;have nn1_:=cell_regrown (show U1.cell? ⟨X.heap.size,1,none⟩=some (.int .i64 ya)from NU.c1);have nn3_:=cell_regrown (show U1.cell? ⟨X.heap.size,3,none⟩=some (.slice A5 yl.length c5)from NU.c3);clear hU1 f1 f2 f3 f4 hcf hr3 hl3 hgl hok Y Z' u0 u1 u2 u3 hr5 hoky hk6 h16;go_upto_region 22 with fail
 (refine zcp [0,1,2,4,5,6] [3,7,8,9,10,11] 1 (.one 12 .rest) [13] (by kernel_rfl) (by kernel_rfl) ?_;simp only[zar];simp only[List.filterMap,List.getElem?_cons_succ,List.getElem?_cons_zero];(repeat (go_big_quiet_step (fail)));refine wpQuiet_nil ?_;(repeat (go_big_quiet_step (fail)));refine wpQuiet_nil ?_)
 refine zat rfl ?_;go_wp2_with fail;refine⟨regrown_of_below D1,zbr ?_⟩;clear g1_ g2_ g3_ g4_ g5_ g6_ g7_;go_upto_region 23 with fail
 rw[<-HU1.out];go_wp2_with fail
 (refine zcp [0,1,2,3,5,8] [4,6,7,9] 1 (.one 10 .rest) [11,12,13] (by kernel_rfl) (by kernel_rfl) ?_;simp only[zar];simp only[List.filterMap,List.getElem?_cons_succ,List.getElem?_cons_zero];(repeat (go_big_quiet_step (fail)));refine wpQuiet_nil ?_;(repeat (go_big_quiet_step (fail)));refine wpQuiet_nil ?_)
 refine zat rfl ?_;go_wp2_with fail;refine(zd4 _ _ _ _ _ riU (by omega)).mono ?_;rintro e w5 ⟨v5,rfl,own5,b5⟩;obtain⟨A6,c6,rfl,-⟩:=own5.shape;have BU5:Below U1.heap.size U1 w5:=zaa (Below.refl _ _).drew b5;have B5:=zaa B1 BU5;have sB5:=B5.size;go_wp2_with fail;refine⟨regrown_of_below BU5,zbr ?_⟩;clear e1' nn1_ nn3_ o0 o1 o2 o3 of_;obtain⟨z0',z1',z2',z3',y0,y1,y2,y3,r0,r1,r2,r3,T,hT,OT,ZT,U,hU,ZU,BU,cU,RK⟩:=(OW.later B5).fin (ZXX.later B5) lW s1 (zaa BX_ B5) hi 6 (a+ya) 0 A6 yl.length c6;have sd:U1.drew.heap.size=U1.heap.size:=rfl;have LT:=Lib.hid (show ∀T,Chg (fun b=>b<w.heap.size) U T->tS.R T T.heap.size [.slice A6 yl.length c6] yl from fun T hT=>tS.read (tS.ochg (tS.ochg (tS_O.2 (OI.os own5)) cU (fun b hb (e:_/\_)=>by have h1:=hb.1;have h2:=e.2;omega)) hT (fun b hb (e:b<_)=>by have h1:=hb.1;have:=BX_.size;omega)));have HT:=Lib.hid hT;have HU:=Lib.hid hU;have RK:=Lib.hid RK;clear hT hU;go_upto_region 24 with fail
 rw[<-HT.out];obtain⟨o0,o1,o2,o3,of_,ol⟩:=OT;obtain⟨t0,t1,t2,t3,tf,tl⟩:=ZT;have u0:=tf 0;have u1:=tf 1;have u2:=tf 2;have u3:=tf 3;obtain⟨d0,d1,d2,d3,df,dl⟩:=ZU;have f0:=df 0;have f1:=df 1;have f2:=df 2;have f3:=df 3;clear y0 y1 y2 y3 r0 r1 r2 r3;go_wp2_with fail;rw[<-HU.out];refine bodyPost_ret (v:=.agg #[.int .i64 a0,.slice A1' n1' c1',.slice (some ⟨g,0,none⟩) n2' c2',.slice A3' n3' c3']) (by simp[results,Tryz.results133,go_sem,d0,d1,d2,d3,f0,f1,f2,f3]) rfl ?_;exact⟨_,_,_,_,_,_,_,_,_,rfl,(by rw[E.out];exact fun T hT=>RK.out T _ hT (LT.out T hT)),BU⟩
end
end
section
section
variable {tb:List (List Int)} {p:NO} {R:Nat->Nat} {w:Yw} {vb vo:Nat} {a0:Int} {A1 :Yo} {n1 c1:Nat} {A2 :Yo} {n2 c2:Nat} {A3 :Yo} {n3 c3:Nat}
theorem zwe(V:PV w vb vo a0 A1 n1 c1 A2 n2 c2 A3 n3 c3)(h:M.WP tb p R)(ho:p.2.length<=1000)(k1:tSS.R w w.heap.size [.slice A1 n1 c1] tb)(k2:tNS.R w w.heap.size [.slice A2 n2 c2] p.1)(k3:tS.R w w.heap.size [.slice A3 n3 c3] p.2){i:Nat}(hi:i<n2){nd:Nat->Bool}(hnd:∀j,nd j=true↔M.Rch p.1 p.2 j)(ht:(zci nd p.1 i).isSome=true):
 Calls Tryz.prog 133 #[.pointer (some ⟨vb,vo,none⟩),.int .i64 7,.int .i64 i] w fun e w'=>∃A1' n1' c1' A2' n2' c2' A3' n3' c3',e=.returned (.agg #[.int .i64 a0,.slice A1' n1' c1',.slice A2' n2' c2',.slice A3' n3' c3'])/\(∀T,Chg (fun b=>b<w.heap.size) w' T->PRd A1' n1' c1' A2' n2' c2' A3' n3' c3' tb (za5 i (((zci nd p.1 i).getD 0:Nat):Int) p) T)/\Below w.heap.size w w':=by
 obtain⟨W,hW⟩:∃W,W=w.alloc (.cells #[.int .i64 0,.slice none 0 0,.slice none 0 0,.slice none 0 0] 67):=⟨_,rfl⟩;have B0:Below w.heap.size w W:=by rw[hW];exact zaf _ _
 have ZX:BX W w.heap.size (.int .i64 0) (.slice none 0 0) (.slice none 0 0) (.slice none 0 0):=by rw[hW];exact BX.new _ _ _ _ _ _
 have sW:W.heap.size=w.heap.size+1:=by rw[hW];simp
 have lW:w.heap.size+1<=W.heap.size:=by omega
 have HW:=Lib.hid hW;have VW:=V.later B0;have q1:=tSS.later k1 B0;have q2:=tNS.later k2 B0;have q3:=tS.later k3 B0;have hl:=(sl_R.1 k2).cap.1;have hlen:=h.len;have hn2:n2<=24:=by omega
 have hi2:(i:Int)<(n2:Int):=by omega
 have HL:=Lib.hid hl;have CP:=Lib.hid (zee vb vo a0 A1 n1 c1 A2 n2 c2 A3 n3 c3 tb p.1 p.2 W VW.c0 VW.c1 VW.c2 VW.c3 q1 q2 q3 (h.szP ho a0));have HK1:=Lib.hid k1;have HK2:=Lib.hid k2;have HK3:=Lib.hid k3;have HV:=Lib.hid V;have HP:=Lib.hid h;have HO:=Lib.hid ho;obtain⟨vv,hvv⟩:∃vv:Int,(((zci nd p.1 i).getD 0:Nat):Int)=vv:=⟨_,rfl⟩
 have htw:zds nd p.1 i=vv:=by
  rcases zei (nd:=nd) (ns:=p.1) (i:=i)with⟨t1,t2,t3⟩|⟨t1,t2⟩
  ·rw[t3,hvv]
  rw[t1]at ht;cases ht
 rw[hvv];have HVV:=Lib.hid htw;have HND:=Lib.hid hnd;clear hW sW q1 q2 q3 hl k1 k2 k3 V VW h ho hvv htw hnd ht
 go_enter Tryz.func133,Tryz.ntmps133
 go_wp2_with fail;rw[<-HW.out];refine CP.out.mono ?_;rintro e w1 ⟨A1',n1',c1',A2',n2',c2',A3',n3',c3',rfl,oz,bel⟩;obtain⟨X,hX,b1,F1,F2,F3,OW⟩:=OWN.of oz 67;have HX:=Lib.hid hX;clear hX oz;have hl2:=OW.g2.read.cap.1;obtain rfl:n2'=n2:=by have:=HL.out;omega
 clear hl2;obtain⟨g,k,a,b,A4,c4,fs,rfl,hgF,hgl,Y,e0,e1,e2,e3,hr3,hl3⟩:=OW.node HP.out hi;have s1:=bel.size;have BWX:=zaa bel b1;have ZXX:=ZX.later BWX;have BX_:=zaa B0 BWX;have sX:=OW.bx.lt;obtain⟨o0,o1,o2,o3,of_,ol⟩:=OW.bx;go_upto_region 2 with fail
 rw[<-HX.out];clear e0 e1 e2 e3 hr3 hl3 hgl;have CN:=Lib.hid (zjv (HV.out.later BX_) HP.out HO.out (sl_R.1 (tNS.later HK2.out BX_)) (tS_R.1 (tS.later HK3.out BX_)).ri HND.out);go_wp2_with fail;refine CN.out.mono ?_;rintro e w2 ⟨Al,cl,rfl,rl,b2⟩;have B2:=zaa BX_ b2;have CT:=Lib.hid (zoh (cl:=cl) (HV.out.later B2) HP.out (sl_R.1 (tNS.later HK2.out B2)) hi nd rl);rw[HVV.out]at CT;go_wp2_with fail;refine CT.out.mono ?_;rintro e w3 ⟨rfl,b3⟩;have BR:=zaa B2 b3;have OWR:=(OW.later b2).later b3;have ZXR:=(ZXX.later b2).later b3;have sR:=BR.size;clear o0 o1 o2 o3 of_;obtain⟨o0,o1,o2,o3,of_,ol⟩:=OWR.bx;have CR:=Lib.hid (zok (vo:=0) ⟨o0,o1,o2,o3⟩ HP.out HO.out OWR.g2 OWR.g3 OWR.d23 (fun hf=>by have:=(OWR.z2 _ hf).2;omega) (fun hf=>by have:=(OWR.z3 _ hf).2;omega) i vv);go_wp2_with fail;refine CR.out.mono ?_;rintro e w5 ⟨rfl,O2,O3,ch⟩;have sc:=ch.size;have OB:=OWR.bx.chg ch (fun hf=>by rcases hf with hf|hf;have:=(OWR.z2 _ hf).2;omega;have:=(OWR.z3 _ hf).2;omega);have ZT:=ZXR.chg ch (fun hf=>by rcases hf with hf|hf;have:=(OWR.z2 _ hf).1;omega;have:=(OWR.z3 _ hf).1;omega);obtain⟨U,hU,ZU,chU,sU⟩:=ZT.set (.int .i64 a0) (.slice A1' n1' c1') (.slice (some ⟨g,0,none⟩) n2' c2') (.slice A3' n3' c3');have HU:=Lib.hid hU;have BU:Below w.heap.size w U:=(BR.trans (ch.toBelow (fun b hb=>by rcases hb with hb|hb;have:=(OWR.z2 _ hb).1;omega;have:=(OWR.z3 _ hb).1;omega) (by omega))).trans (chU.toBelow (fun b (hb:b=_)=>by omega) (by omega))
 have RK:=Lib.hid (show ∀T,Chg (fun b=>b<w.heap.size) U T->PRd A1' n1' c1' (some ⟨g,0,none⟩) n2' c2' A3' n3' c3' tb (za5 i vv p) T from fun T hT=>
  ⟨tSS.read (tSS.ochg (tSS.ochg (tSS.ochg OWR.g1 ch (fun b hb hf=>hf.elim (OWR.d12 b hb) (OWR.d13 b hb))) chU (fun b hb (e:b=_)=>by have:=(OWR.z1 b hb).1;omega)) hT (fun b hb (e:b<_)=>by have:=(OWR.z1 b hb).1;omega)),
   tNS.read (tNS.ochg (tNS.ochg (sl_O.2 O2) chU (fun b hb (e:b=_)=>by have:=(OWR.z2 b hb).1;omega)) hT (fun b hb (e:b<_)=>by have:=(OWR.z2 b hb).1;omega)),
   tS.read (tS.ochg (tS.ochg (tS_O.2 O3) chU (fun b hb (e:b=_)=>by have:=(OWR.z3 b hb).1;omega)) hT (fun b hb (e:b<_)=>by have:=(OWR.z3 b hb).1;omega))⟩)
 clear o0 o1 o2 o3 of_ hU;obtain⟨o0,o1,o2,o3,of_,ol⟩:=OB;obtain⟨t0,t1,t2,t3,tf,tl⟩:=ZT;have u0:=tf 0;have u1:=tf 1;have u2:=tf 2;have u3:=tf 3;obtain⟨d0,d1,d2,d3,df,dl⟩:=ZU;have f0:=df 0;have f1:=df 1;have f2:=df 2;have f3:=df 3;go_wp2_with fail;rw[<-HU.out];refine bodyPost_ret (v:=.agg #[.int .i64 a0,.slice A1' n1' c1',.slice (some ⟨g,0,none⟩) n2' c2',.slice A3' n3' c3']) (by simp[results,Tryz.results133,go_sem,d0,d1,d2,d3,f0,f1,f2,f3]) rfl ?_;exact⟨_,_,_,_,_,_,_,_,_,rfl,RK.out,BU⟩
end
end
section
section
variable {tb:List (List Int)} {p:NO} {R:Nat->Nat} {w:Yw} {vb vo:Nat} {a0:Int} {A1 :Yo} {n1 c1:Nat} {A2 :Yo} {n2 c2:Nat} {A3 :Yo} {n3 c3:Nat}
theorem zwf(V:PV w vb vo a0 A1 n1 c1 A2 n2 c2 A3 n3 c3)(h:M.WP tb p R)(ho:p.2.length<=1000)(k1:tSS.R w w.heap.size [.slice A1 n1 c1] tb)(k2:tNS.R w w.heap.size [.slice A2 n2 c2] p.1)(k3:tS.R w w.heap.size [.slice A3 n3 c3] p.2){i:Nat}(hi:i<n2){nd:Nat->Bool}(hnd:∀j,nd j=true↔M.Rch p.1 p.2 j){r:Int}(hr:zav nd p.1 i=r)(h0:r≠0):
 Calls Tryz.prog 133 #[.pointer (some ⟨vb,vo,none⟩),.int .i64 r,.int .i64 i] w fun e w'=>∃A1' n1' c1' A2' n2' c2' A3' n3' c3',e=.returned (.agg #[.int .i64 a0,.slice A1' n1' c1',.slice A2' n2' c2',.slice A3' n3' c3'])/\(∀T,Chg (fun b=>b<w.heap.size) w' T->PRd A1' n1' c1' A2' n2' c2' A3' n3' c3' tb (zbs nd tb p i r) T)/\Below w.heap.size w w':=by
 cases hn:nd i
 ·exact absurd (hr.symm.trans (zgy hn)) h0
 cases hc:zbj p.1 (zab p.1 i)
 ·cases hz:zbv p.1 (zab p.1 i)
  ·by_cases hs:0<=zbb p.1 (zab p.1 i)
   ·obtain rfl:=hr.symm.trans (zfh hn hc hz hs);rw[znn];exact zwa V h ho k1 k2 k3 hi
   cases hf:zbw p.1 (zab p.1 i)
   ·cases hg:zb4 p.1 (zab p.1 i)
    ·cases hd:zbq p.1 i (zab p.1 i)
     ·have h7:=hr.symm.trans (zew hn hc hz hs hf hg hd);cases ht:(zci nd p.1 i).isSome
      ·rw[ht]at h7;exact absurd h7 h0
      rw[ht]at h7;obtain rfl:r=7:=h7;rw[znr];exact zwe V h ho k1 k2 k3 hi hnd ht
     obtain rfl:=hr.symm.trans (zjn hn hc hz hs hf hg hd);rw[znq];exact zwd V h ho k1 k2 k3 hi hd
    obtain rfl:=hr.symm.trans (zjm hn hc hz hs hf hg);rw[znp];exact zwc V h ho k1 k2 k3 hi hg
   obtain rfl:=hr.symm.trans (zhy hn hc hz hs hf);rw[zno];exact zwb V h ho k1 k2 k3 hi hf
  obtain rfl:=hr.symm.trans (zfg hn hc hz);rw[znm];exact zv9 V h ho k1 k2 k3 hi
 obtain rfl:=hr.symm.trans (zff hn hc);rw[znl];exact zv8 V h ho k1 k2 k3 hi hc
end
end
end Go.Proofs.YtifeldeikhmckaaGreat
