import Derived.Test.YtifeldeikhmckaaGreatFnMutedG9
import Derived.Deep.DeepCutAuto
import Derived.Test.YtifeldeikhmckaaGreatFnMutedG3
import Derived.Test.YtifeldeikhmckaaGreatFnMutedG5
import Derived.ArgAppend
import Derived.Deep.LoopGhost
import Derived.RegionTactic
import Derived.ChangeAlike
import Derived.BigRegion
set_option linter.unusedVariables false
set_option linter.unusedSimpArgs false
set_option maxRecDepth 100000
set_option maxHeartbeats 4000000
namespace Go.Proofs.YtifeldeikhmckaaGreat
open Go.RowKit Go.Sort
section
theorem zot{w W:Yw}{g:Nat}(B0:Below w.heap.size w W)(hg:w.heap.size<=g)(hW:g<W.heap.size)(ZX:BX W g (.int .i64 0) (.int .i64 0) (.int .i64 0) (.slice none 0 0))(v0 v1 v2 v3:Value)(w2:Yw)(Bw2:Below W.heap.size W w2):∃U,U=(((w2.setCell ⟨g,0,none⟩ v0).setCell ⟨g,1,none⟩ v1).setCell ⟨g,2,none⟩ v2).setCell ⟨g,3,none⟩ v3/\BX w2 g (.int .i64 0) (.int .i64 0) (.int .i64 0) (.slice none 0 0)/\BX U g v0 v1 v2 v3/\Below w.heap.size w U/\U.heap.size=w2.heap.size/\Chg (fun b=>b=g) w2 U:=by
 have Z2:=ZX.later Bw2;obtain⟨U,hU,ZU,chU,sU⟩:=Z2.set v0 v1 v2 v3;have s2:=Bw2.size;have s0:=B0.size;exact⟨U,hU,Z2,ZU,(B0.trans (Bw2.mono (by omega))).trans (chU.toBelow (fun b (hb:b=_)=>by omega) (by omega)),sU,chU⟩
section
variable {tb:List (List Int)} {p:NO} {R:Nat->Nat} {w:Yw}
theorem zvg(h:M.WP tb p R)(a0:Int)(A1:Yo)(n1 c1:Nat)(A2:Yo)(n2 c2:Nat)(A3:Yo)(n3 c3:Nat)(i:Nat)(hr:RS tN w w.heap.size (.slice A2 n2 c2) p.1)(hi:i<n2):
 Calls Tryz.prog 206 #[.agg #[.int .i64 a0,.slice A1 n1 c1,.slice A2 n2 c2,.slice A3 n3 c3],.int .i64 i,.int .i64 5] w fun e w'=>((zdw p.1 (zab p.1 i)=true/\∃(v:Int) (A':Yo) (c':Nat) (l:List Int),zfs p.1 (zab p.1 i)=(5,v,0,l)/\e=.returned (.tuple #[.agg #[.int .i64 5,.int .i64 v,.int .i64 0,.slice A' l.length c'],.bool true])/\∀T,Chg (fun b=>b<w.heap.size) w' T->tS.R T T.heap.size [.slice A' l.length c'] l)\/
  (zdw p.1 (zab p.1 i)=false/\∃(z0 z1 z2:Int) (Az:Yo) (nz cz:Nat),e=.returned (.tuple #[.agg #[.int .i64 z0,.int .i64 z1,.int .i64 z2,.slice Az nz cz],.bool false])))/\Below w.heap.size w w':=by
 have hl:=hr.cap.1;have hlen:=h.len;have RF:=zok;obtain⟨bb,o,k,a,b,A4,c4,fs,hA,hb,X,e0,e1,e2,e3,hr3,hl3⟩:=zd4 h hr hi;obtain⟨W,hW,B0,sW,PX,ZX,NX⟩:=zid w (.int .i64 a0) (.slice A1 n1 c1) (.slice A2 n2 c2) (.slice A3 n3 c3) (.int .i64 0) (.int .i64 0) (.int .i64 0) (.slice none 0 0) (.int .i64 k) (.int .i64 a) (.int .i64 b) (.slice A4 fs.length c4) 67 169 169;have HW:=Aq hW;have hok:=(h.node (i:=i) (by omega)).2;have hrk:=h.rlt (i:=i) (by omega);rw[X.out]at hok hrk ⊢;have hi2:(i:Int)<(n2:Int):=by omega
 have hn2:n2<=24:=by omega
 have hrW:=hr.later B0;have lW:w.heap.size+1+1<W.heap.size:=by omega
 have hfl:=zfq hok;have hna:=zfp hok;have HL:=Aq hl;clear hW sW hok;have FIN:=Aq (zot (g:=w.heap.size+1) B0 (by omega) (by omega) ZX)
 by_cases hk:k=5
 ·subst hk;have hl1:fs.length=1:=hfl (by decide);obtain⟨fx,rfl⟩:=len1 hl1;obtain⟨f,g1,g2,g3,g4⟩:=h.inpt (j:=0) (by omega) X.out (by simp);obtain rfl:fx=(f:Int):=by simpa using g1
  have hfn:f<n2:=by omega
  generalize hy:zab p.1 f=y at *;obtain⟨y0,y1,y2,y3⟩:=y;obtain⟨A5,c5,ri5,hl5,CX⟩:=ze7 h hrW hi X (j:=0) (by simp) (Aq g3) (Aq hy) a0 A1 n1 c1 A3 n3 c3;have CX:=Aq CX;have hoky:=(h.node (i:=f) (by omega)).2;rw[hy]at hoky;have HOKY:=Aq hoky;have hfk:zab p.1 (M.fk (5,a,b,[(f:Int)]) 0)=(y0,y1,y2,y3):=by rw[g3,hy]
  have HFK:=Aq hfk;have HRK:=Aq hrk;have HNA:=Aq hna;have HI0:=Aq (show M.i_ [(f:Int)] 0=(f:Int)from rfl);subst hA;obtain⟨bf,of_,rfl,hbf,hcf⟩:=zau hr3 (by simp);have v0:W.cell? ⟨bf,of_,none⟩=some (.int .i64 f):=(B0.cell (by exact hbf)).trans (hcf 0 _ rfl);have lbf:bf<W.heap.size:=by omega
  simp only[Dk,List.length_nil,Nat.zero_add]at NX HW e3;clear hl1 hfl g1 g2 g3 g4 hcf hy hoky hfk hna hrk hl3 hr hr3
  by_cases hk2:y0=5
  ·subst hk2
   ·have hfi:f≠i:=fun e=>by
     have:=HRK.out (show ¬(5:Int)=6 by decide) (List.mem_cons_self ..);rw[Fq,e]at this;omega
    have g:((f:Int) == (i:Int))=false:=(by simp;omega);clear hfi;have hb5:=HNA.out.1 rfl;have hb5y:=(zfp HOKY.out).1 rfl;have hm:=M.wrap64_mul_bd a y1 hb5 hb5y;have hs:-9000000000<=a+y1/\a+y1<=9000000000:=(by omega);have FB:=Aq (show zdw p.1 (5,a,b,[(f:Int)])=true by rw[zdw,HFK.out];rfl);have FN:=Aq (show zfs p.1 (5,a,b,[(f:Int)])=(5,wrap32 (a*y1),0,y3)by rw[zfs,HFK.out]);clear hb5 hb5y
    go_enter Tryz.func206,Tryz.ntmps206
    go_wp2_with fail;rw[<-HW.out];refine(CX.out W (Aw _ _)).mono ?_;rintro e w1 ⟨rfl,bel⟩;obtain⟨m0,m1,m2,m3,mf,ml⟩:=NX.later bel;have v1:=(bel.cell (by exact lbf)).trans v0;obtain⟨z0,z1,z2,z3,zf,zl⟩:=PX.later bel;go_wp2_with fail;refine(CX.out w1 bel).mono ?_;rintro e w2 ⟨rfl,bel2⟩;have B2:=zaa bel bel2;obtain⟨V,hV,BV,sV,o0,o1,o2,o3,of__⟩:=zdm w2 (.int .i64 5) (.int .i64 y1) (.int .i64 y2) (.slice A5 y3.length c5) 169;have HV:=Aq hV;have B3:=zaa B2 BV;have N3:=NX.later B3;have lV:w2.heap.size<V.heap.size:=(by omega);clear hV sV m0 m1 m2 m3 mf v1 z0 z1 z2 z3 zf;obtain⟨m0,m1,m2,m3,mf,ml2⟩:=NX.later B2;have m1V:=N3.c1;have ri7:=ri5.later B3;go_wp2_with fail;rw[<-HV.out];refine(zdq _ _).mono ?_;rintro e w' ⟨rfl,rfl⟩;clear HV m0 m1 m2 m3 mf;go_wp2_with fail;refine(zdr _ _ _ _ _ ri7 (by omega)).mono ?_;rintro e w4 ⟨v4,rfl,own4,bel4⟩;obtain⟨A9,c9,rfl,-⟩:=own4.shape;obtain⟨U,hU,Z2,ZU,BU,sU,chU⟩:=FIN.out (.int .i64 5) (.int .i64 (wrap32 (a*y1))) (.int .i64 0) (.slice A9 y3.length c9) w4 (zaa B3 bel4);have HU:=Aq hU;have hR:=fun(T:Yw) (hT:Chg (fun b=>b<w.heap.size) U T)=>tS.read (tS.ochg (tS.ochg (tS_O.2 (OI.os own4)) chU (fun b hb (e:b=_)=>by have:=hb.1;have:=B3.size;omega)) hT (fun b hb (e:b<_)=>by have:=hb.1;have:=B3.size;omega))
    have HR:=Aq hR;clear hR;obtain⟨q0,q1,q2,q3,qf,ql⟩:=Z2;obtain⟨d0,d1,d2,d3,df,dl⟩:=ZU;have f0:=df 0;have f1:=df 1;have f2:=df 2;have f3:=df 3;have r0:=qf 0;have r1:=qf 1;have r2:=qf 2;have r3:=qf 3;clear hU;go_wp2_with fail;rw[<-HU.out];refine Cy (v:=.tuple #[.agg #[.int .i64 5,.int .i64 (wrap32 (a*y1)),.int .i64 0,.slice A9 y3.length c9],.bool true]) (by simp[results,Tryz.results206,go_sem,d0,d1,d2,d3,f0,f1,f2,f3]) rfl ?_;exact⟨.inl ⟨FB.out,_,A9,c9,y3,FN.out,rfl,HR.out⟩,BU⟩
  have FB:=Aq (show zdw p.1 (5,a,b,[(f:Int)])=false by rw[zdw,HFK.out];simp[hk2]);have g:(y0 == 5)=false:=by simpa using hk2
  have gn:(y0 != 5)=true:=by simpa using hk2
  clear hk2
  go_enter Tryz.func206,Tryz.ntmps206
  go_wp2_with fail;rw[<-HW.out];refine(CX.out W (Aw _ _)).mono ?_;rintro e w1 ⟨rfl,bel⟩;obtain⟨U,hU,Z2,ZU,BU,-,-⟩:=FIN.out (.int .i64 0) (.int .i64 0) (.int .i64 0) (.slice none 0 0) w1 bel;obtain⟨q0,q1,q2,q3,qf,ql⟩:=Z2;obtain⟨d0,d1,d2,d3,df,dl⟩:=ZU;have f0:=df 0;have f1:=df 1;have f2:=df 2;have f3:=df 3;have r0:=qf 0;have r1:=qf 1;have r2:=qf 2;have r3:=qf 3;go_wp2_with fail;rw[<-hU];refine Cy (v:=.tuple #[.agg #[.int .i64 0,.int .i64 0,.int .i64 0,.slice none 0 0],.bool false]) (by simp[results,Tryz.results206,go_sem,d0,d1,d2,d3,f0,f1,f2,f3]) rfl ?_;exact⟨.inr ⟨FB.out,0,0,0,none,0,0,rfl⟩,BU⟩
 have FB:=Aq (show zdw p.1 (k,a,b,fs)=false by rw[zdw];simp[hk]);have g:(k == 5)=false:=by simpa using hk
 have gn:(k != 5)=true:=by simpa using hk
 obtain⟨d0,d1,d2,d3,df,dl⟩:=ZX;have f0:=df 0;have f1:=df 1;have f2:=df 2;have f3:=df 3;clear hfl hna hrk;subst hA
 go_enter Tryz.func206,Tryz.ntmps206
 go_wp2_with fail;rw[<-HW.out];refine Cy (v:=.tuple #[.agg #[.int .i64 0,.int .i64 0,.int .i64 0,.slice none 0 0],.bool false]) (by simp[results,Tryz.results206,go_sem,d0,d1,d2,d3,f0,f1,f2,f3]) rfl ?_;exact⟨.inr ⟨FB.out,0,0,0,none,0,0,rfl⟩,B0⟩
theorem zvh(h:M.WP tb p R)(a0:Int)(A1:Yo)(n1 c1:Nat)(A2:Yo)(n2 c2:Nat)(A3:Yo)(n3 c3:Nat)(i:Nat)(hr:RS tN w w.heap.size (.slice A2 n2 c2) p.1)(hi:i<n2):
 Calls Tryz.prog 206 #[.agg #[.int .i64 a0,.slice A1 n1 c1,.slice A2 n2 c2,.slice A3 n3 c3],.int .i64 i,.int .i64 6] w fun e w'=>((zdj p.1 i (zab p.1 i)=true/\∃(v:Int) (A':Yo) (c':Nat) (l:List Int),zft p.1 (zab p.1 i)=(6,v,0,l)/\e=.returned (.tuple #[.agg #[.int .i64 6,.int .i64 v,.int .i64 0,.slice A' l.length c'],.bool true])/\∀T,Chg (fun b=>b<w.heap.size) w' T->tS.R T T.heap.size [.slice A' l.length c'] l)\/
  (zdj p.1 i (zab p.1 i)=false/\∃(z0 z1 z2:Int) (Az:Yo) (nz cz:Nat),e=.returned (.tuple #[.agg #[.int .i64 z0,.int .i64 z1,.int .i64 z2,.slice Az nz cz],.bool false])))/\Below w.heap.size w w':=by
 have hl:=hr.cap.1;have hlen:=h.len;have RF:=zok;obtain⟨bb,o,k,a,b,A4,c4,fs,hA,hb,X,e0,e1,e2,e3,hr3,hl3⟩:=zd4 h hr hi;obtain⟨W,hW,B0,sW,PX,ZX,NX⟩:=zid w (.int .i64 a0) (.slice A1 n1 c1) (.slice A2 n2 c2) (.slice A3 n3 c3) (.int .i64 0) (.int .i64 0) (.int .i64 0) (.slice none 0 0) (.int .i64 k) (.int .i64 a) (.int .i64 b) (.slice A4 fs.length c4) 67 169 169;have HW:=Aq hW;have hok:=(h.node (i:=i) (by omega)).2;have hrk:=h.rlt (i:=i) (by omega);rw[X.out]at hok hrk ⊢;have hi2:(i:Int)<(n2:Int):=by omega
 have hn2:n2<=24:=by omega
 have hrW:=hr.later B0;have lW:w.heap.size+1+1<W.heap.size:=by omega
 have hfl:=zfq hok;have hna:=zfp hok;have HL:=Aq hl;clear hW sW hok;have FIN:=Aq (zot (g:=w.heap.size+1) B0 (by omega) (by omega) ZX)
 by_cases hk:k=6
 ·subst hk;have hl1:fs.length=1:=hfl (by decide);obtain⟨fx,rfl⟩:=len1 hl1;obtain⟨f,g1,g2,g3,g4⟩:=h.inpt (j:=0) (by omega) X.out (by simp);obtain rfl:fx=(f:Int):=by simpa using g1
  have hfn:f<n2:=by omega
  generalize hy:zab p.1 f=y at *;obtain⟨y0,y1,y2,y3⟩:=y;obtain⟨A5,c5,ri5,hl5,CX⟩:=ze7 h hrW hi X (j:=0) (by simp) (Aq g3) (Aq hy) a0 A1 n1 c1 A3 n3 c3;have CX:=Aq CX;have hoky:=(h.node (i:=f) (by omega)).2;rw[hy]at hoky;have HOKY:=Aq hoky;have hfk:zab p.1 (M.fk (6,a,b,[(f:Int)]) 0)=(y0,y1,y2,y3):=by rw[g3,hy]
  have HFK:=Aq hfk;have HRK:=Aq hrk;have HNA:=Aq hna;have HI0:=Aq (show M.i_ [(f:Int)] 0=(f:Int)from rfl);subst hA;obtain⟨bf,of_,rfl,hbf,hcf⟩:=zau hr3 (by simp);have v0:W.cell? ⟨bf,of_,none⟩=some (.int .i64 f):=(B0.cell (by exact hbf)).trans (hcf 0 _ rfl);have lbf:bf<W.heap.size:=by omega
  simp only[Dk,List.length_nil,Nat.zero_add]at NX HW e3;clear hl1 hfl g1 g2 g3 g4 hcf hy hoky hfk hna hrk hl3 hr hr3
  by_cases hk2:y0=6
  ·subst hk2
   by_cases hfi:f=i
   ·have FB:=Aq (show zdj p.1 i (6,a,b,[(f:Int)])=false by
     rw[zdj];simp[hfi,HI0.out,M.i_])
    have g:((f:Int) == (i:Int))=true:=(by simp[hfi]);clear hfi
    go_enter Tryz.func206,Tryz.ntmps206
    go_wp2_with fail;rw[<-HW.out];refine(CX.out W (Aw _ _)).mono ?_;rintro e w1 ⟨rfl,bel⟩;obtain⟨U,hU,Z2,ZU,BU,-,-⟩:=FIN.out (.int .i64 0) (.int .i64 0) (.int .i64 0) (.slice none 0 0) w1 bel;obtain⟨m0,m1,m2,m3,mf,ml⟩:=NX.later bel;have v1:=(bel.cell (by exact lbf)).trans v0;obtain⟨q0,q1,q2,q3,qf,ql⟩:=Z2;obtain⟨d0,d1,d2,d3,df,dl⟩:=ZU;have f0:=df 0;have f1:=df 1;have f2:=df 2;have f3:=df 3;have r0:=qf 0;have r1:=qf 1;have r2:=qf 2;have r3:=qf 3;go_wp2_with fail;rw[<-hU];refine Cy (v:=.tuple #[.agg #[.int .i64 0,.int .i64 0,.int .i64 0,.slice none 0 0],.bool false]) (by simp[results,Tryz.results206,go_sem,d0,d1,d2,d3,f0,f1,f2,f3]) rfl ?_;exact⟨.inr ⟨FB.out,0,0,0,none,0,0,rfl⟩,BU⟩
   have g:((f:Int) == (i:Int))=false:=(by simp;omega);have HFI:=Aq hfi;clear hfi;have hb6:=HNA.out;have h16:=(zcx (h.node (i:=i) (by have:=HL.out;omega)).2).2.1;rw[X.out]at h16;have h16:=h16 rfl;have h16y:=(zcx HOKY.out).2.1 rfl;simp only at h16 h16y
   have HB:=Aq (show zdj p.1 i (6,a,b,[(f:Int)])=decide (a+y1<=16)by
    rw[zdj,HFK.out];have:=HFI.out;simp[HI0.out,M.i_];intro _;omega)
   have FN:=Aq (show zft p.1 (6,a,b,[(f:Int)])=(6,a+y1,0,y3)by rw[zft,HFK.out]);have hs:-9000000000<=a+y1/\a+y1<=9000000000:=(by omega);clear hb6
   go_enter Tryz.func206,Tryz.ntmps206
   go_wp2_with fail;rw[<-HW.out];refine(CX.out W (Aw _ _)).mono ?_;rintro e w1 ⟨rfl,bel⟩;obtain⟨m0,m1,m2,m3,mf,ml⟩:=NX.later bel;have v1:=(bel.cell (by exact lbf)).trans v0;obtain⟨z0,z1,z2,z3,zf,zl⟩:=PX.later bel;go_wp2_with fail;refine(CX.out w1 bel).mono ?_;rintro e w2 ⟨rfl,bel2⟩;have B2:=zaa bel bel2;obtain⟨V,hV,BV,sV,o0,o1,o2,o3,of__⟩:=zdm w2 (.int .i64 6) (.int .i64 y1) (.int .i64 y2) (.slice A5 y3.length c5) 169;have HV:=Aq hV;have B3:=zaa B2 BV;have N3:=NX.later B3;have lV:w2.heap.size<V.heap.size:=(by omega);clear hV sV m0 m1 m2 m3 mf v1 z0 z1 z2 z3 zf;obtain⟨m0,m1,m2,m3,mf,ml2⟩:=NX.later B2;have m1V:=N3.c1;have ri7:=ri5.later B3;go_wp2_with fail;rw[<-HV.out];clear HV m0 m1 m2 m3 mf;refine(zdr _ _ _ _ _ ri7 (by omega)).mono ?_;rintro e w4 ⟨v4,rfl,own4,bel4⟩;obtain⟨A9,c9,rfl,-⟩:=own4.shape;obtain⟨U,hU,Z2,ZU,BU,sU,chU⟩:=FIN.out (.int .i64 6) (.int .i64 (a+y1)) (.int .i64 0) (.slice A9 y3.length c9) w4 (zaa B3 bel4);have HU:=Aq hU;have hR:=fun(T:Yw) (hT:Chg (fun b=>b<w.heap.size) U T)=>tS.read (tS.ochg (tS.ochg (tS_O.2 (OI.os own4)) chU (fun b hb (e:b=_)=>by have:=hb.1;have:=B3.size;omega)) hT (fun b hb (e:b<_)=>by have:=hb.1;have:=B3.size;omega))
   have HR:=Aq hR;clear hR;obtain⟨q0,q1,q2,q3,qf,ql⟩:=Z2;obtain⟨d0,d1,d2,d3,df,dl⟩:=ZU;have f0:=df 0;have f1:=df 1;have f2:=df 2;have f3:=df 3;have r0:=qf 0;have r1:=qf 1;have r2:=qf 2;have r3:=qf 3;clear hU;go_wp2_with fail;rw[<-HU.out];refine Cy (v:=.tuple #[.agg #[.int .i64 6,.int .i64 (a+y1),.int .i64 0,.slice A9 y3.length c9],.bool (decide (a+y1<=16))]) (by simp[results,Tryz.results206,go_sem,d0,d1,d2,d3,f0,f1,f2,f3]) rfl ?_
   by_cases hd:a+y1<=16
   ·exact⟨.inl ⟨by rw[HB.out];exact Dx hd,_,A9,c9,y3,FN.out,by rw[Dx hd],HR.out⟩,BU⟩
   exact⟨.inr ⟨by rw[HB.out];exact Dz hd,_,_,_,_,_,_,by rw[Dz hd]⟩,BU⟩
  have FB:=Aq (show zdj p.1 i (6,a,b,[(f:Int)])=false by rw[zdj,HFK.out];simp[hk2]);have g:(y0 == 6)=false:=by simpa using hk2
  have gn:(y0 != 6)=true:=by simpa using hk2
  clear hk2
  go_enter Tryz.func206,Tryz.ntmps206
  go_wp2_with fail;rw[<-HW.out];refine(CX.out W (Aw _ _)).mono ?_;rintro e w1 ⟨rfl,bel⟩;obtain⟨U,hU,Z2,ZU,BU,-,-⟩:=FIN.out (.int .i64 0) (.int .i64 0) (.int .i64 0) (.slice none 0 0) w1 bel;obtain⟨q0,q1,q2,q3,qf,ql⟩:=Z2;obtain⟨d0,d1,d2,d3,df,dl⟩:=ZU;have f0:=df 0;have f1:=df 1;have f2:=df 2;have f3:=df 3;have r0:=qf 0;have r1:=qf 1;have r2:=qf 2;have r3:=qf 3;go_wp2_with fail;rw[<-hU];refine Cy (v:=.tuple #[.agg #[.int .i64 0,.int .i64 0,.int .i64 0,.slice none 0 0],.bool false]) (by simp[results,Tryz.results206,go_sem,d0,d1,d2,d3,f0,f1,f2,f3]) rfl ?_;exact⟨.inr ⟨FB.out,0,0,0,none,0,0,rfl⟩,BU⟩
 have FB:=Aq (show zdj p.1 i (k,a,b,fs)=false by rw[zdj];simp[hk]);have g:(k == 6)=false:=by simpa using hk
 have gn:(k != 6)=true:=by simpa using hk
 obtain⟨d0,d1,d2,d3,df,dl⟩:=ZX;have f0:=df 0;have f1:=df 1;have f2:=df 2;have f3:=df 3;clear hfl hna hrk;subst hA
 go_enter Tryz.func206,Tryz.ntmps206
 go_wp2_with fail;rw[<-HW.out];refine Cy (v:=.tuple #[.agg #[.int .i64 0,.int .i64 0,.int .i64 0,.slice none 0 0],.bool false]) (by simp[results,Tryz.results206,go_sem,d0,d1,d2,d3,f0,f1,f2,f3]) rfl ?_;exact⟨.inr ⟨FB.out,0,0,0,none,0,0,rfl⟩,B0⟩
end
end
section
theorem OH.readset{α:Type}{t:Ty α}{e:TypeId}{w:Yw}{F:Nat->Prop}{v:Value}{xs:List α}{css:List (List Value)}{Fs:Nat->Nat->Prop}{k:Nat}(h:OH t e w F v xs css Fs k){cs:List Value}(hcs:css[k]?=some cs){y:α}(hy:t.R w w.heap.size cs y):RS t w w.heap.size v (xs.set k y):=by
 obtain⟨h1,h2,h3,h4,h5,h6,h7⟩:=h;obtain⟨A,c,rfl,hc,hm,hr⟩:=zb0 h1;refine⟨A,c,css,by rw[Fx],by rw[Fx];exact hc,hm,by rw[Fx];exact h2,by rw[Fx];exact hr,fun i hi hi'=>?_⟩
 by_cases hik:i=k
 ·subst hik;rw[List.getElem_set_self];rw[Ak hi',Dq]at hcs;rw[hcs];exact hy
 rw[List.getElem_set_ne (fun e=>hik e.symm)];exact t.read (h7 i (by rw[Fx]at hi;exact hi) hi' hik)
theorem zvi{V:Yw}{F:Nat->Prop}{A:Yo}{n c:Nat}{ns:List Node}(O:OS tN 169 V F (.slice A n c) ns){i:Nat}(hi:i<n)(x0 x1 x2:Int)(A3:Yo)(m3 c3:Nat):
 ∃(g:Nat) (z0 z1 z2 z3:Value),A=some ⟨g,0,none⟩/\F g/\g<V.heap.size/\V.cell? ⟨g,i*4,none⟩=some z0/\V.cell? ⟨g,i*4+1,none⟩=some z1/\V.cell? ⟨g,i*4+2,none⟩=some z2/\V.cell? ⟨g,i*4+3,none⟩=some z3/\V.frozen? ⟨g,i*4,none⟩=false/\V.frozen? ⟨g,i*4+1,none⟩=false/\V.frozen? ⟨g,i*4+2,none⟩=false/\V.frozen? ⟨g,i*4+3,none⟩=false/\
  ∃T,T=(((V.setCell ⟨g,i*4,none⟩ (.int .i64 x0)).setCell ⟨g,i*4+1,none⟩ (.int .i64 x1)).setCell ⟨g,i*4+2,none⟩ (.int .i64 x2)).setCell ⟨g,i*4+3,none⟩ (.slice A3 m3 c3)/\Chg F V T/\T.heap.size=V.heap.size/\∀T' y3,Chg (fun b=>¬F b) T T'->tS.R T' T'.heap.size [.slice A3 m3 c3] y3->tNS.R T' T'.heap.size [.slice A n c] (ns.set i (x0,x1,x2,y3)):=by
 obtain rfl:ns.length=n:=O.read.cap.1;obtain⟨css,Fs,hole,cs,hcs,hE⟩:=O.real.openAt (Ak hi);generalize ns[i]=x at hE;obtain⟨k,a,b,l⟩:=x;obtain⟨A5,m5,c5,F5,rfl,-,-⟩:=tN_O.1 hE;obtain⟨g,rfl,hgF,hgn,hgl,-⟩:=hole.form hi;have k0:=hole.cell hcs (j:=0) rfl;have k1:=hole.cell hcs (j:=1) rfl;have k2:=hole.cell hcs (j:=2) rfl;have k3:=hole.cell hcs (j:=3) rfl;have s0:=hole.set hcs 0 (by decide) (.int .i64 x0);have s1:=s0.1.set s0.2 1 (by decide) (.int .i64 x1);have s2:=s1.1.set s1.2 2 (by decide) (.int .i64 x2);have s3:=s2.1.set s2.2 3 (by decide) (.slice A3 m3 c3);refine⟨g,_,_,_,_,rfl,hgF.1,hgl,k0.1,k1.1,k2.1,k3.1,k0.2,k1.2,k2.2,k3.2,_,rfl,(((Chg.set _ g _ _ hgF.1).trans (Chg.set _ g _ _ hgF.1)).trans (Chg.set _ g _ _ hgF.1)).trans (Chg.set _ g _ _ hgF.1),by simp,fun T' y3 hT hy=>?_⟩;have h3:=s3.1.keep (w':=T') (fun b hb=>hT.block b (by simpa using hb.2) (fun e=>e hb.1));exact sl_R.2 (h3.readset s3.2 (tN_R.2 ⟨A3,m3,c3,rfl,hy⟩))
def PRd (A1:Yo) (n1 c1:Nat) (A2:Yo) (n2 c2:Nat) (A3:Yo) (n3 c3:Nat) (tb:List (List Int)) (q:NO) (w:Yw):Prop:=tSS.R w w.heap.size [.slice A1 n1 c1] tb/\tNS.R w w.heap.size [.slice A2 n2 c2] q.1/\tS.R w w.heap.size [.slice A3 n3 c3] q.2
theorem BX.drew{w:Yw}{g:Nat}{z0 z1 z2 z3:Value}(h:BX w g z0 z1 z2 z3):BX w.drew g z0 z1 z2 z3:=⟨h.c0,h.c1,h.c2,h.c3,h.fr,h.lt⟩
theorem BX.chg{w w':Yw}{F:Nat->Prop}{g:Nat}{z0 z1 z2 z3:Value}(h:BX w g z0 z1 z2 z3)(hc:Chg F w w')(hn:¬F g):BX w' g z0 z1 z2 z3:=
 ⟨(hc.cell h.lt hn).trans h.c0,(hc.cell h.lt hn).trans h.c1,(hc.cell h.lt hn).trans h.c2,(hc.cell h.lt hn).trans h.c3,fun j=>(hc.frozen h.lt hn).trans (h.fr j),Cq h.lt hc.size⟩
theorem M.WP.szP{tb:List (List Int)}{p:NO}{R:Nat->Nat}(h:M.WP tb p R)(ho:p.2.length<=1000)(a0:Int):hP.sz ((a0,tb,p.1,p.2):zae)<=100000000:=by
 have h1:hNS.sz p.1<=100:=by
  have h1:=zk7 p.1 (fun x hx=>by
   obtain⟨i,hi⟩:=Fk hx;exact zib (h.ok i x hi))
  have h2:=h.len;show p.1.length+hN.szL p.1<=_
  omega
 have h2:∀ts:List (List Int),(∀t∈ts,t.length<=16)->hS.szL ts<=16*ts.length:=by
  intro ts
  induction ts with
  | nil=>intro _;simp[Hs.szL]
  | cons t ts ih=>
   intro ht;have e1:=ht t (List.mem_cons_self ..);have e2:=ih (fun x hx=>ht x (List.mem_cons_of_mem _ hx));rw[Hs.szL,zb3,Dk];omega
 have h3:=h2 tb (fun t ht=>by
  obtain⟨i,hi⟩:=Fk ht;exact(zg9 h.tabs hi).1.2)
 have h4:tb.length<=4:=by
  have:=h.tabs;rw[zbr,Cx]at this;exact of_decide_eq_true this.2
 have h5:hSS.sz tb=tb.length+hS.szL tb:=rfl;rw[zea,zb3];omega
section
variable {tb:List (List Int)} {p:NO} {R:Nat->Nat} {w:Yw}
theorem zie(h:M.WP tb p R)(ho:p.2.length<=1000)(a0:Int)(A1:Yo)(n1 c1:Nat)(A2:Yo)(n2 c2:Nat)(A3:Yo)(n3 c3:Nat)(i:Nat)(k1:tSS.R w w.heap.size [.slice A1 n1 c1] tb)(k2:tNS.R w w.heap.size [.slice A2 n2 c2] p.1)(k3:tS.R w w.heap.size [.slice A3 n3 c3] p.2)(hi:i<n2)(x0 x1 x2:Int)(Ax:Yo)(nx cx:Nat):
 Calls Tryz.prog 200 #[.agg #[.int .i64 a0,.slice A1 n1 c1,.slice A2 n2 c2,.slice A3 n3 c3],.int .i64 i,.agg #[.int .i64 x0,.int .i64 x1,.int .i64 x2,.slice Ax nx cx]] w fun e w'=>∃A1' n1' c1' A2' n2' c2' A3' n3' c3',e=.returned (.agg #[.int .i64 a0,.slice A1' n1' c1',.slice A2' n2' c2',.slice A3' n3' c3'])/\(∀T x3,Chg (fun b=>b<w.heap.size) w' T->tS.R T T.heap.size [.slice Ax nx cx] x3->PRd A1' n1' c1' A2' n2' c2' A3' n3' c3' tb (p.1.set i (x0,x1,x2,x3),p.2) T)/\Below w.heap.size w w':=by
 have hl:=(sl_R.1 k2).cap.1;obtain⟨W,hW,B0,sW,PX,NX,ZX⟩:=zid w (.int .i64 a0) (.slice A1 n1 c1) (.slice A2 n2 c2) (.slice A3 n3 c3) (.int .i64 x0) (.int .i64 x1) (.int .i64 x2) (.slice Ax nx cx) (.int .i64 0) (.slice none 0 0) (.slice none 0 0) (.slice none 0 0) 67 169 67;have HW:=Aq hW;have q1:=tSS.later k1 B0;have q2:=tNS.later k2 B0;have q3:=tS.later k3 B0;have lW:w.heap.size+1+1<W.heap.size:=by omega
 have hlen:=h.len;have hn2:n2<=24:=by omega
 have hi2:(i:Int)<(n2:Int):=by omega
 have HL:=Aq hl;clear hW sW k1 k2 k3 hl;have CP:=Aq (zk5 a0 A1 n1 c1 A2 n2 c2 A3 n3 c3 tb p.1 p.2 W q1 q2 q3 (h.szP ho a0))
 go_enter Tryz.func200,Tryz.ntmps200
 go_wp2_with fail;rw[<-HW.out];refine CP.out.mono ?_;rintro e w1 ⟨A1',n1',c1',A2',n2',c2',A3',n3',c3',rfl,oz,bel⟩;obtain⟨_,_,_,_,_,_,_,_,_,F1,F2,F3,hcs,g1,g2,g3,z1,z2,z3,d12,d13,d23⟩:=tP_O.1 oz;simp only[List.cons.injEq,Cz,and_true,true_and]at hcs;obtain⟨⟨rfl,rfl,rfl⟩,⟨rfl,rfl,rfl⟩,⟨rfl,rfl,rfl⟩⟩:=hcs;obtain⟨V,hV⟩:∃V,V=w1.alloc (.cells #[.int .i64 a0,.slice A1' n1' c1',.slice A2' n2' c2',.slice A3' n3' c3'] 67):=⟨_,rfl⟩;have OX:BX V w1.heap.size (.int .i64 a0) (.slice A1' n1' c1') (.slice A2' n2' c2') (.slice A3' n3' c3'):=by rw[hV];exact BX.new _ _ _ _ _ _
 have BV:Below w1.heap.size w1 V:=by rw[hV];exact zar _ _
 have sV:V.heap.size=w1.heap.size+1:=by rw[hV];simp
 have HV:=Aq hV;have BWV:=zaa bel BV;have s1:=bel.size;replace g1:=tSS.ochg g1 (Chg.of_below BV (fun _=>False)) (fun _ _ h=>h);replace g2:=tNS.ochg g2 (Chg.of_below BV (fun _=>False)) (fun _ _ h=>h);replace g3:=tS.ochg g3 (Chg.of_below BV (fun _=>False)) (fun _ _ h=>h);have O2:=sl_O.1 g2;have hl2:=O2.read.cap.1;have hll:=HL.out;obtain⟨g,y0,y1,y2,y3,rfl,hgF,hgl,e0,e1,e2,e3,r0,r1,r2,r3,T,hT,chT,sT,RD⟩:=zvi O2 (show i<n2' by omega) x0 x1 x2 Ax nx cx;have hg2:=z2 g hgF;have hi3:(i:Int)<(n2':Int):=by omega
 have NV:=NX.later BWV;have ZV:=ZX.later BWV;have OT:=OX.chg chT (fun hf=>by have:=(z2 _ hf).2;omega);have ZT:=ZV.chg chT (fun hf=>by have:=(z2 _ hf).1;omega);obtain⟨U,hU,ZU,chU,sU⟩:=ZT.set (.int .i64 a0) (.slice A1' n1' c1') (.slice (some ⟨g,0,none⟩) n2' c2') (.slice A3' n3' c3');have BU:Below w.heap.size w U:=(B0.trans ((BWV.mono (by omega)).trans (chT.toBelow (fun b hb=>by have:=(z2 b hb).1;omega) (by omega)))).trans (chU.toBelow (fun b (hb:b=_)=>by omega) (by omega))
 have RK:∀T' x3,Chg (fun b=>b<w.heap.size) U T'->tS.R T' T'.heap.size [.slice Ax nx cx] x3->PRd A1' n1' c1' (some ⟨g,0,none⟩) n2' c2' A3' n3' c3' tb (p.1.set i (x0,x1,x2,x3),p.2) T':=fun T' x3 hT' hx=>by
  refine⟨tSS.read (tSS.ochg (tSS.ochg (tSS.ochg g1 chT (fun b hb=>d12 b hb)) chU (fun b hb (e:b=_)=>by have:=(z1 b hb).1;omega)) hT' (fun b hb (e:b<_)=>by have:=(z1 b hb).1;omega)),RD T' x3 ((chU.wide (fun b (hb:b=_) hf=>by have:=(z2 b hf).1;omega)).trans (hT'.wide (fun b (hb:b<_) hf=>by have:=(z2 b hf).1;omega))) hx,tS.read (tS.ochg (tS.ochg (tS.ochg g3 chT (fun b hb hf=>d23 b hf hb)) chU (fun b hb (e:b=_)=>by have:=(z3 b hb).1;omega)) hT' (fun b hb (e:b<_)=>by have:=(z3 b hb).1;omega))⟩
 have RK:=Aq RK;have HT:=Aq hT;have HU:=Aq hU;obtain⟨v0,v1,v2,v3,vf,vl⟩:=OX;obtain⟨m0,m1,m2,m3,mf,ml⟩:=NV;clear g1 g2 g3 O2 hl2 hll RD hT hU hV sV sT sU oz chT chU ZV;go_upto_region 2 with fail
 rw[<-HV.out];go_upto_region 3 with fail
 rw[<-HT.out];obtain⟨o0,o1,o2,o3,of_,ol⟩:=OT;obtain⟨t0,t1,t2,t3,tf,tl⟩:=ZT;have u0:=tf 0;have u1:=tf 1;have u2:=tf 2;have u3:=tf 3;obtain⟨d0,d1,d2,d3,df,dl⟩:=ZU;have f0:=df 0;have f1:=df 1;have f2:=df 2;have f3:=df 3;clear m0 m1 m2 m3 mf v0 v1 v2 v3 vf e0 e1 e2 e3 r0 r1 r2 r3;go_wp2_with fail;rw[<-HU.out];refine Cy (v:=.agg #[.int .i64 a0,.slice A1' n1' c1',.slice (some ⟨g,0,none⟩) n2' c2',.slice A3' n3' c3']) (by simp[results,Tryz.results200,go_sem,d0,d1,d2,d3,f0,f1,f2,f3]) rfl ?_;exact⟨_,_,_,_,_,_,_,_,_,rfl,RK.out,BU⟩
end
end
section
theorem OS.seti{w:Yw}{F:Nat->Prop}{A:Yo}{n c:Nat}{xs:List Int}(O:OS tI 2 w F (.slice A n c) xs){k:Nat}(hk:k<n):∃(g:Nat) (x:Int),A=some ⟨g,0,none⟩/\F g/\g<w.heap.size/\Hid (xs[k]?=some x)/\w.cell? ⟨g,k,none⟩=some (.int .i64 x)/\w.frozen? ⟨g,k,none⟩=false/\∀y:Int,OS tI 2 (w.setCell ⟨g,k,none⟩ (.int .i64 y)) F (.slice A n c) (xs.set k y)/\Chg F w (w.setCell ⟨g,k,none⟩ (.int .i64 y)):=by
 obtain rfl:xs.length=n:=O.read.cap.1;have hx:=Ak hk;obtain⟨css,Fs,hole,cs,hcs,hE⟩:=O.openAt hx;obtain⟨g,rfl,hgF,hgn,hgl,-⟩:=hole.form hk;have hE':cs=[.int .i64 xs[k]]:=hE;subst hE';have k0:=hole.cell hcs (j:=0) rfl;change w.cell? ⟨g,k*1+0,none⟩=_/\w.frozen? ⟨g,k*1+0,none⟩=_ at k0;rw[Nat.add_zero,Nat.mul_one]at k0;refine⟨g,xs[k],rfl,hgF,hgl,Aq hx,k0.1,k0.2,fun y=>⟨?_,Chg.set _ g _ _ hgF⟩⟩;have s0:=hole.set hcs 0 (by decide) (.int .i64 y);have h3:=s0.1.fill s0.2 (y:=y) rfl;rw[Nat.add_zero,show tI.s=1 from rfl,Nat.mul_one]at h3;exact h3
def zd5 (i b:Int) (k:Nat) (xs:List Int):List Int:=zda i b (xs.take k)++xs.drop k
theorem zvj(i b:Int){k:Nat}{xs:List Int}(h:xs.length<=k):zd5 i b k xs=zda i b xs:=by
 rw[zd5,Cg h,Ej h,List.append_nil]
theorem zou{i b:Int}{k:Nat}{xs:List Int}{x:Int}(h:xs[k]?=some x):(zd5 i b k xs)[k]?=some x:=by
 have hk:=(Bk.1 h).1;have e:(zda i b (xs.take k)).length=k:=by rw[zda,Ff,Ey];omega
 rw[zd5,Gz (by omega),e,Nat.sub_self,List.getElem?_drop];simpa using h
theorem zov{i b:Int}{k:Nat}{xs:List Int}{x:Int}(h:xs[k]?=some x):zd5 i b (k+1) xs=(zd5 i b k xs).set k (if x=i then b else x):=by
 have hk:=(Bk.1 h).1;have e:(zda i b (xs.take k)).length=k:=by rw[zda,Ff,Ey];omega
 have hd:xs.drop k=x::xs.drop (k+1):=by
  rw[List.drop_eq_getElem_cons hk];rw[Ak hk,Dq]at h;rw[h]
 rw[zd5,zd5,hd,List.set_append_right _ _ (by omega),e,Nat.sub_self,List.set_cons_zero,List.take_add_one,h];simp[zda]
theorem zvk{i b:Int}{k:Nat}{xs:List Int}{x:Int}(h:xs[k]?=some x)(hx:x≠i):zd5 i b (k+1) xs=zd5 i b k xs:=by
 rw[zov h,if_neg hx];have h2:=zou (i:=i) (b:=b) h;apply List.ext_getElem?
 intro j
 by_cases e:k=j
 ·subst e;rw[List.getElem?_set_self (Bk.1 h2).1,h2]
 rw[List.getElem?_set_ne e]
theorem zow(bi bb:Nat)(i b:Int)(A:Yo)(n c:Nat)(xs:List Int)(w:Yw)(F:Nat->Prop)(O:OS tI 2 w F (.slice A n c) xs)(e0:w.cell? ⟨bi,0,none⟩=some (.int .i64 i))(e1:w.cell? ⟨bb,0,none⟩=some (.int .i64 b))(hi:¬F bi)(hb:¬F bb)(hn:n<=1000000):
 Calls Tryz.prog 241 #[.slice A n c,.pointer (some ⟨bi,0,none⟩),.pointer (some ⟨bb,0,none⟩)] w fun e w'=>e=.returned (.tuple #[])/\OS tI 2 w' F (.slice A n c) (zda i b xs)/\Chg F w w':=by
 have hl:=Aq O.read.cap.1;have lbi:=Cj w _ e0;have lbb:=Cj w _ e1;simp only at lbi lbb
 go_enter Tryz.func241,Tryz.ntmps241
 go_wp2_with fail
 go_loopw [8] (fun j wr=>∃k:Nat,j=.int .i64 k/\k<=n/\OS tI 2 wr F (.slice A n c) (zd5 i b k xs)/\Chg F w wr) (fun j _=>n-(intOf j).toNat)
 case atStart=>exact⟨0,rfl,by omega,O,Chg.refl _ _⟩
 case round=>
  obtain⟨k,rfl,hk,own,ch⟩:=hrel
  by_cases hlt:k<n
  ·have X:=Aq (Ak (show k<xs.length by rw[hl.out];exact hlt));generalize xs[k]'(by rw[hl.out];exact hlt)=x at X;obtain⟨g,x',rfl,hgF,hgl,X',c0,f0,S⟩:=own.seti hlt;have hxx:=X'.out;rw[zou X.out,Dq]at hxx;subst hxx;have SS:=Aq (S b);have q0:=(ch.cell (by exact lbi) hi).trans e0;have q1:=(ch.cell (by exact lbb) hb).trans e1;have hkn:(k:Int)<(n:Int):=(by omega);clear S O
   by_cases hx:x=i
   ·have E:=Aq (show zd5 i b (k+1) xs=(zd5 i b k xs).set k b by rw[zov X.out,if_pos hx]);have g_:(x == i)=true:=(by simpa using hx);clear hx;go_wp2_with fail;go_roundw
    case rel=>exact⟨k+1,by go_num,by omega,by rw[E.out];exact SS.out.1,ch.trans SS.out.2⟩
    case measure=>simp[intOf];omega
   have E:=Aq (zvk (b:=b) X.out hx);have g_:(x == i)=false:=(by simpa using hx);clear hx;go_wp2_with fail;go_roundw
   case rel=>exact⟨k+1,by go_num,by omega,by rw[E.out];exact own,ch⟩
   case measure=>simp[intOf];omega
  obtain rfl:k=n:=by omega
  rw[zvj _ _ (by rw[hl.out];exact Aj _)]at own;go_wp2;refine bodyPost_end (v:=.tuple #[]) (by simp[results,Tryz.results241,go_sem]) rfl ?_;exact⟨rfl,own,ch⟩
def zey (i b:Int) (k:Nat) (ns:List Node):List Node:=(ns.take k).map (zdb i b)++ns.drop k
theorem zvl(i b:Int){k:Nat}{ns:List Node}(h:ns.length<=k):zey i b k ns=ns.map (zdb i b):=by
 rw[zey,Cg h,Ej h,List.append_nil]
theorem zvm{i b:Int}{k:Nat}{ns:List Node}{x:Node}(h:ns[k]?=some x):(zey i b k ns)[k]?=some x:=by
 have hk:=(Bk.1 h).1;have e:((ns.take k).map (zdb i b)).length=k:=by rw[Ff,Ey];omega
 rw[zey,Gz (by omega),e,Nat.sub_self,List.getElem?_drop];simpa using h
theorem zvn(i b:Int)(k:Nat)(ns:List Node):(zey i b k ns).length=ns.length:=by
 rw[zey,Cw,Ff,Ey,List.length_drop];omega
theorem zvo{i b:Int}{k:Nat}{ns:List Node}{x:Node}(h:ns[k]?=some x):zey i b (k+1) ns=(zey i b k ns).set k (zdb i b x):=by
 have hk:=(Bk.1 h).1;have e:((ns.take k).map (zdb i b)).length=k:=by rw[Ff,Ey];omega
 have hd:ns.drop k=x::ns.drop (k+1):=by
  rw[List.drop_eq_getElem_cons hk];rw[Ak hk,Dq]at h;rw[h]
 rw[zey,zey,hd,List.set_append_right _ _ (by omega),e,Nat.sub_self,List.set_cons_zero,List.take_add_one,h];simp
section
variable {tb:List (List Int)} {p:NO} {R:Nat->Nat} {w:Yw}
theorem zox(h:M.WP tb p R)(ho:p.2.length<=1000)(a0:Int)(A1:Yo)(n1 c1:Nat)(A2:Yo)(n2 c2:Nat)(A3:Yo)(n3 c3:Nat)(i:Nat)(b:Int)(k1:tSS.R w w.heap.size [.slice A1 n1 c1] tb)(k2:tNS.R w w.heap.size [.slice A2 n2 c2] p.1)(k3:tS.R w w.heap.size [.slice A3 n3 c3] p.2):
 Calls Tryz.prog 204 #[.agg #[.int .i64 a0,.slice A1 n1 c1,.slice A2 n2 c2,.slice A3 n3 c3],.int .i64 i,.int .i64 b] w fun e w'=>∃A1' n1' c1' A2' n2' c2' A3' n3' c3',e=.returned (.agg #[.int .i64 a0,.slice A1' n1' c1',.slice A2' n2' c2',.slice A3' n3' c3'])/\(∀T,Chg (fun b=>b<w.heap.size) w' T->PRd A1' n1' c1' A2' n2' c2' A3' n3' c3' tb (za5 i b p) T)/\Below w.heap.size w w':=by
 have hl:=(sl_R.1 k2).cap.1;obtain⟨W,hW⟩:∃W,W=(((w.alloc (.cells #[.int .i64 a0,.slice A1 n1 c1,.slice A2 n2 c2,.slice A3 n3 c3] 67)).alloc (.cells #[.int .i64 i] 2)).alloc (.cells #[.int .i64 b] 2)).alloc (.cells #[.int .i64 0,.slice none 0 0,.slice none 0 0,.slice none 0 0] 67):=⟨_,rfl⟩;have B0:Below w.heap.size w W:=by rw[hW];exact zaa (zaa (zaa (zar _ _) (zar _ _)) (zar _ _)) (zar _ _)
 have sW:W.heap.size=w.heap.size+4:=by rw[hW];simp
 have ZX:BX W (w.heap.size+1+1+1) (.int .i64 0) (.slice none 0 0) (.slice none 0 0) (.slice none 0 0):=by
  rw[hW];have:=BX.new (((w.alloc (.cells #[.int .i64 a0,.slice A1 n1 c1,.slice A2 n2 c2,.slice A3 n3 c3] 67)).alloc (.cells #[.int .i64 i] 2)).alloc (.cells #[.int .i64 b] 2)) (.int .i64 0) (.slice none 0 0) (.slice none 0 0) (.slice none 0 0) 67;simpa using this
 have p0:W.cell? ⟨w.heap.size,0,none⟩=some (.int .i64 a0):=by rw[hW];simp[go_sem]
 have p1:W.cell? ⟨w.heap.size,1,none⟩=some (.slice A1 n1 c1):=by rw[hW];simp[go_sem]
 have p2:W.cell? ⟨w.heap.size,2,none⟩=some (.slice A2 n2 c2):=by rw[hW];simp[go_sem]
 have p3:W.cell? ⟨w.heap.size,3,none⟩=some (.slice A3 n3 c3):=by rw[hW];simp[go_sem]
 have bi:W.cell? ⟨w.heap.size+1,0,none⟩=some (.int .i64 i):=by rw[hW];simp[go_sem]
 have bb:W.cell? ⟨w.heap.size+1+1,0,none⟩=some (.int .i64 b):=by rw[hW];simp[go_sem]
 have HW:=Aq hW;have q1:=tSS.later k1 B0;have q2:=tNS.later k2 B0;have q3:=tS.later k3 B0;have lW:w.heap.size+1+1+1<W.heap.size:=by omega
 have hlen:=h.len;have hn2:n2<=24:=by omega
 have HL:=Aq hl;have HO:=Aq ho;clear hW sW k1 k2 k3 hl ho;have CP:=Aq (zk5 a0 A1 n1 c1 A2 n2 c2 A3 n3 c3 tb p.1 p.2 W q1 q2 q3 (h.szP HO.out a0))
 go_enter Tryz.func204,Tryz.ntmps204
 go_wp2_with fail;rw[<-HW.out];refine CP.out.mono ?_;rintro e w1 ⟨A1',n1',c1',A2',n2',c2',A3',n3',c3',rfl,oz,bel⟩;obtain⟨_,_,_,_,_,_,_,_,_,F1,F2,F3,hcs,g1,g2,g3,z1,z2,z3,d12,d13,d23⟩:=tP_O.1 oz;simp only[List.cons.injEq,Cz,and_true,true_and]at hcs;obtain⟨⟨rfl,rfl,rfl⟩,⟨rfl,rfl,rfl⟩,⟨rfl,rfl,rfl⟩⟩:=hcs;obtain⟨V,hV⟩:∃V,V=w1.alloc (.cells #[.int .i64 a0,.slice A1' n1' c1',.slice A2' n2' c2',.slice A3' n3' c3'] 67):=⟨_,rfl⟩;have OX:BX V w1.heap.size (.int .i64 a0) (.slice A1' n1' c1') (.slice A2' n2' c2') (.slice A3' n3' c3'):=by rw[hV];exact BX.new _ _ _ _ _ _
 have BV:Below w1.heap.size w1 V:=by rw[hV];exact zar _ _
 have sV:V.heap.size=w1.heap.size+1:=by rw[hV];simp
 have HV:=Aq hV;have BWV:=zaa bel BV;have s1:=bel.size;replace g1:=tSS.ochg g1 (Chg.of_below BV (fun _=>False)) (fun _ _ h=>h);replace g2:=tNS.ochg g2 (Chg.of_below BV (fun _=>False)) (fun _ _ h=>h);replace g3:=tS.ochg g3 (Chg.of_below BV (fun _=>False)) (fun _ _ h=>h);have O2:=sl_O.1 g2;have hl2:=O2.read.cap.1;have hll:=HL.out;obtain rfl:n2'=n2:=by omega
 have HL2:=Aq hl2;have bi1:=(BWV.cell (by show w.heap.size+1<_;omega)).trans bi;have bb1:=(BWV.cell (by show w.heap.size+1+1<_;omega)).trans bb;have ZV:=ZX.later BWV;have lV:w1.heap.size<V.heap.size:=by omega
 have NF:∀x,F2 x->W.heap.size<=x/\x<w1.heap.size:=fun x hx=>z2 x hx
 clear hV sV oz g2 hl2 hll p0 p1 p2 p3 bi bb;have o2_:=OX.c2;go_upto_region 2 with fail
 rw[<-HV.out];go_wp2_with fail
 go_loopw [17] (fun j wr=>∃k:Nat,j=.int .i64 k/\k<=n2'/\OS tN 169 wr F2 (.slice A2' n2' c2') (zey i b k p.1)/\Chg F2 V wr) (fun j _=>n2'-(intOf j).toNat)
 case atStart=>exact⟨0,rfl,by omega,O2,Chg.refl _ _⟩
 case round=>
  obtain⟨k,rfl,hk,own,ch⟩:=hrel;have sr:=ch.size;have gi:=(ch.cell (by show w.heap.size+1<V.heap.size;omega) (fun hf=>by have:=NF _ hf;omega)).trans bi1;have gb:=(ch.cell (by show w.heap.size+1+1<V.heap.size;omega) (fun hf=>by have:=NF _ hf;omega)).trans bb1
  by_cases hlt:k<n2'
  ·have X:=Aq (zcd (ns:=p.1) (i:=k) (by have:=HL.out;omega));have hl3:=zib (h.node (i:=k) (by have:=HL.out;omega)).2;generalize zab p.1 k=x at X hl3;obtain⟨css,Fs,hole,cs,hcs,hE⟩:=own.real.openAt (zvm (i:=i) (b:=b) X.out);have SU:=Aq (zvo (i:=i) (b:=b) X.out);obtain⟨kk,ka,kb,l⟩:=x;obtain⟨A5,m5,c5,F5,rfl,o5,hF5⟩:=tN_O.1 hE;obtain rfl:l.length=m5:=zcu (tS.read o5);obtain⟨g,rfl,hgF,hgn,hgl,-⟩:=hole.form (by rw[zvn];have:=HL.out;omega);have c0:=(hole.cell hcs (j:=0) rfl).1;have c1_:=(hole.cell hcs (j:=1) rfl).1;have c2_:=(hole.cell hcs (j:=2) rfl).1;have c3_:=(hole.cell hcs (j:=3) rfl).1;change wr.cell? ⟨g,k*4+0,none⟩=_ at c0;change wr.cell? ⟨g,k*4+1,none⟩=_ at c1_;change wr.cell? ⟨g,k*4+2,none⟩=_ at c2_;change wr.cell? ⟨g,k*4+3,none⟩=_ at c3_;rw[Nat.add_zero]at c0;obtain⟨U,hU⟩:∃U,U=wr.alloc (.cells #[.int .i64 kk,.int .i64 ka,.int .i64 kb,.slice A5 l.length c5] 169):=⟨_,rfl⟩;have BU:Below wr.heap.size wr U:=(by rw[hU];exact zar _ _);have HU:=Aq hU;have hf5:∀x,F5 x->F2 x:=fun x hx=>(hole.fits x (hF5 x hx)).1
   have o5U:=(tS_O.1 o5).chg (Chg.of_below BU (fun _=>False)) (fun _ _ h=>h);have CC:=Aq (zow (w.heap.size+1) (w.heap.size+1+1) i b A5 l.length c5 l U F5 o5U ((BU.cell (by show w.heap.size+1<_;omega)).trans gi) ((BU.cell (by show w.heap.size+1+1<_;omega)).trans gb) (fun hf=>by have:=NF _ (hf5 _ hf);omega) (fun hf=>by have:=NF _ (hf5 _ hf);omega) (by simp only at hl3;omega));have hkn:(k:Int)<(n2':Int):=(by omega);clear hU gi gb hE o5 o5U;go_wp2_with fail;rw[<-HU.out];refine CC.out.mono ?_;rintro e w3 ⟨rfl,o6,ch6⟩;go_wp2_with fail;go_roundw
   case rel=>
    have h3:=(hole.chg ((Chg.of_below BU (Fs k)).trans (ch6.wide hF5))).fill hcs (y:=zdb i b (kk,ka,kb,l)) (tN_O.2 ⟨A5,l.length,c5,F5,rfl,tS_O.2 o6,hF5⟩);exact⟨k+1,by go_num,by omega,by rw[SU.out];exact h3.wide (fun x hx=>hx.1),ch.trans ((Chg.of_below BU F2).trans (ch6.wide hf5))⟩
   case measure=>simp[intOf];omega
  obtain rfl:k=n2':=by omega
  rw[zvl _ _ (by have:=HL.out;omega)]at own;have o3w:=(tS_O.1 g3).chg ch (fun x hx hf=>d23 x hf hx);have l3:=Aq o3w.read.cap.1;have ho3:=HO.out;have CC:=Aq (zow (w.heap.size+1) (w.heap.size+1+1) i b A3' n3' c3' p.2 wr F3 o3w gi gb (fun hf=>by have:=(z3 _ hf).1;omega) (fun hf=>by have:=(z3 _ hf).1;omega) (by have:=l3.out;omega));obtain⟨v0,v1,v2,v3,vf,vl⟩:=OX.chg ch (fun hf=>by have:=NF _ hf;omega);clear ho3 gi gb;go_wp2_with fail;refine CC.out.mono ?_;rintro e w4 ⟨rfl,o7,ch7⟩;have O4:=(OX.chg ch (fun hf=>by have:=NF _ hf;omega)).chg ch7 (fun hf=>by have:=(z3 _ hf).2;omega);have Z4:=(ZV.chg ch (fun hf=>by have:=NF _ hf;omega)).chg ch7 (fun hf=>by have:=(z3 _ hf).1;omega);have s4:=ch7.size;obtain⟨U,hU,ZU,chU,sU⟩:=Z4.set (.int .i64 a0) (.slice A1' n1' c1') (.slice A2' k c2') (.slice A3' n3' c3');have B4:Below W.heap.size W w4:=BWV.trans ((ch.toBelow (fun x hx=>(NF x hx).1) (by omega)).trans (ch7.toBelow (fun x hx=>(z3 x hx).1) (by omega)));have BU:Below w.heap.size w U:=(B0.trans (B4.mono (by omega))).trans (chU.toBelow (fun b (hb:b=_)=>by omega) (by omega))
  have RR:=Aq (show ∀T,Chg (fun b=>b<w.heap.size) U T->PRd A1' n1' c1' A2' k c2' A3' n3' c3' tb (za5 i b p) T from fun T hT=>by
   refine⟨tSS.read (tSS.ochg (tSS.ochg (tSS.ochg (tSS.ochg g1 ch (fun x hx=>d12 x hx)) ch7 (fun x hx=>d13 x hx)) chU (fun x hx (e:x=_)=>by have:=(z1 x hx).1;omega)) hT (fun x hx (e:x<_)=>by have:=(z1 x hx).1;omega)),?_,tS.read (tS.ochg (tS.ochg (tS_O.2 o7) chU (fun x hx (e:x=_)=>by have:=(z3 x hx).1;omega)) hT (fun x hx (e:x<_)=>by have:=(z3 x hx).1;omega))⟩;exact tNS.read (tNS.ochg (tNS.ochg (tNS.ochg (sl_O.2 own) ch7 (fun x hx hf=>d23 x hx hf)) chU (fun x hx (e:x=_)=>by have:=(NF x hx).1;omega)) hT (fun x hx (e:x<_)=>by have:=(NF x hx).1;omega)))
  have HU:=Aq hU;obtain⟨t0,t1,t2,t3,tf,tl⟩:=Z4;obtain⟨o0,o1,o2,o3,of_,ol⟩:=O4;have u0:=tf 0;have u1:=tf 1;have u2:=tf 2;have u3:=tf 3;obtain⟨d0,d1,d2,d3,df,dl⟩:=ZU;have f0:=df 0;have f1:=df 1;have f2:=df 2;have f3:=df 3;clear hU sU v0 v1 v2 v3 vf;go_wp2_with fail;rw[<-HU.out];refine Cy (v:=.agg #[.int .i64 a0,.slice A1' n1' c1',.slice A2' k c2',.slice A3' n3' c3']) (by simp[results,Tryz.results204,go_sem,d0,d1,d2,d3,f0,f1,f2,f3]) rfl ?_;exact⟨_,_,_,_,_,_,_,_,_,rfl,RR.out,BU⟩
end
end
section
def zgc (nd:Nat->Bool) (n:Nat):List Bool:=(List.range n).map nd
theorem zvp{nd:Nat->Bool}{n k:Nat}(h:k<n):(zgc nd n)[k]?=some (nd k):=by simp[zgc,h]
theorem zjl{w:Yw}{B:Nat}{A:Yo}{n:Nat}{nd:Nat->Bool}(h:RA ebl 1 w B A n (zgc nd n)){k:Nat}(hk:k<n):∃b o,A=some ⟨b,o,none⟩/\b<B/\w.cell? ⟨b,o+k,none⟩=some (.bool (nd k)):=by
 obtain⟨b,o,x,e,hb,X,hc⟩:=h.at zfn (by decide) hk;have e2:=X.out;rw[zvp hk,Dq]at e2;subst e2;have h1:=hc 0 _ rfl;rw[Nat.mul_one,Nat.add_zero]at h1;exact⟨b,o,e,hb,h1⟩
def ze9 (nd:Nat->Bool) (ns:List Node) (i:Nat):Int:=match zcq nd ns i with
 | some k=>(k:Int)
 | none=>-1
theorem zvq{nd:Nat->Bool}{ns:List Node}{i k:Nat}(hk:k<i)(h:(nd k&&decide (zab ns k=zab ns i))=true)(h0:∀j,j<k->(nd j&&decide (zab ns j=zab ns i))=false):ze9 nd ns i=k:=by
 have:zcq nd ns i=some k:=by
  rw[zcq,List.find?_range_eq_some];exact⟨h,Gj.2 hk,fun j hj=>by rw[h0 j hj];rfl⟩
 rw[ze9,this]
theorem zvr{nd:Nat->Bool}{ns:List Node}{i:Nat}(h0:∀j,j<i->(nd j&&decide (zab ns j=zab ns i))=false):ze9 nd ns i = -1:=by
 have:zcq nd ns i=none:=by
  rw[zcq,List.find?_eq_none];intro j hj;rw[h0 j (Gj.1 hj)];decide
 rw[ze9,this]
section
variable {tb:List (List Int)} {p:NO} {R:Nat->Nat} {w:Yw}
theorem zvs(h:M.WP tb p R)(a0:Int)(A1:Yo)(n1 c1:Nat)(A2:Yo)(n2 c2:Nat)(A3:Yo)(n3 c3:Nat)(i:Nat)(nd:Nat->Bool)(Am:Yo)(cm:Nat)(hr:RS tN w w.heap.size (.slice A2 n2 c2) p.1)(hm:RA ebl 1 w w.heap.size Am n2 (zgc nd n2))(hi:i<n2):
 Calls Tryz.prog 207 #[.agg #[.int .i64 a0,.slice A1 n1 c1,.slice A2 n2 c2,.slice A3 n3 c3],.int .i64 i,.slice Am n2 cm] w fun e w'=>e=.returned (.int .i64 (ze9 nd p.1 i))/\Below w.heap.size w w':=by
 have hl:=hr.cap.1;have hlen:=h.len;have hn2:n2<=24:=by omega
 obtain⟨W,hW,B0,sW,p0,p1,p2,p3,pf⟩:=zdm w (.int .i64 a0) (.slice A1 n1 c1) (.slice A2 n2 c2) (.slice A3 n3 c3) 67;have HW:=Aq hW;have lW:w.heap.size<W.heap.size:=by omega
 have hrW:=hr.later B0;have hmW:=hm.later B0;have HL:=Aq hl;clear hW sW hr hm hl;obtain⟨bb,o,k,a,b,A4,c4,fs,rfl,hb,X,e0,e1,e2,e3,hr3,hl3⟩:=zd4 h hrW hi;obtain⟨bm,om,rfl,hbm,m0⟩:=zjl hmW hi
 go_enter Tryz.func207,Tryz.ntmps207
 go_wp2_with fail;rw[<-HW.out]
 go_loopw [9] (fun j wr=>∃t:Nat,j=.int .i64 t/\t<=i/\Hid (∀j,j<t->(nd j&&decide (zab p.1 j=zab p.1 i))=false)/\Below W.heap.size W wr) (fun j _=>i-(intOf j).toNat)
 case atStart=>exact⟨0,rfl,by omega,Aq (fun j hj=>by omega),Aw _ _⟩
 case round=>
  obtain⟨t,rfl,ht,H,Bw⟩:=hrel
  by_cases hlt:t<i
  ·have htn:t<n2:=(by omega);obtain⟨bb',o',k',a',b',A5,c5,fs',hA,hb',X',q0,q1,q2,q3,hr5,hl5⟩:=zd4 h hrW htn;simp only[Dq,Addr.mk.injEq,and_true]at hA;obtain⟨rfl,rfl⟩:=hA;obtain⟨bm',om',hA,hbm',mt⟩:=zjl hmW htn;simp only[Dq,Addr.mk.injEq,and_true]at hA;obtain⟨rfl,rfl⟩:=hA;have g2:=(Bw.cell (by show w.heap.size<_;exact lW)).trans p2;have s0:=(Bw.cell (by exact hb)).trans e0;have s1:=(Bw.cell (by exact hb)).trans e1;have s2:=(Bw.cell (by exact hb)).trans e2;have s3:=(Bw.cell (by exact hb)).trans e3;have t0:=(Bw.cell (by exact hb)).trans q0;have t1:=(Bw.cell (by exact hb)).trans q1;have t2:=(Bw.cell (by exact hb)).trans q2;have t3:=(Bw.cell (by exact hb)).trans q3;have mm:=(Bw.cell (by exact hbm)).trans mt;have gg2:=Ag g2;have ss0:=Ag s0;have ss1:=Ag s1;have ss2:=Ag s2;have ss3:=Ag s3;have tt0:=Ag t0;have tt1:=Ag t1;have tt2:=Ag t2;have tt3:=Ag t3;have mmr:=Ag mm;have hit:(i:Int)<(n2:Int):=(by omega);have htt:(t:Int)<(n2:Int):=(by omega);have hti:(t:Int)<(i:Int):=(by omega)
   have CS:∀d os,Calls Tryz.prog 149 #[.agg #[.int .i64 k',.int .i64 a',.int .i64 b',.slice A5 fs'.length c5],.agg #[.int .i64 k,.int .i64 a,.int .i64 b,.slice A4 fs.length c4]] (grow (redrawn wr d) os) fun e w''=>e=.returned (.bool (decide (((k',a',b',fs'):Node)=(k,a,b,fs))))/\∃p:Regrown,w''=grow (redrawn wr p.d) p.os:=fun d os=>
    Fw (zmz k' a' b' k a b A5 A4 fs'.length c5 fs.length c4 fs' fs _ (((hr5.below Bw).more Bw.size).later (Cf wr d os)) (((hr3.below Bw).more Bw.size).later (Cf wr d os)) (by omega))
   have HS:=Aq (show (nd t&&decide (zab p.1 t=zab p.1 i))=(nd t&&decide (((k',a',b',fs'):Node)=(k,a,b,fs)))by rw[X.out,X'.out]);clear p0 p1 p2 p3 pf e0 e1 e2 e3 q0 q1 q2 q3 mt g2 s0 s1 s2 s3 t0 t1 t2 t3 mm m0 HW
   have hnx:(nd t&&decide (zab p.1 t=zab p.1 i))=false->Hid (∀j,j<t+1->(nd j&&decide (zab p.1 j=zab p.1 i))=false):=fun e=>Aq (fun j hj=>by
    rcases Nat.lt_or_eq_of_le (Nat.le_of_lt_succ hj)with h1|rfl
    ·exact H.out j h1
    exact e)
   have HNX:=Aq hnx;clear hnx;cases hnt:nd t
   ·rw[hnt]at mmr;have HN:=HNX.out (by rw[hnt];rfl);clear hnt CS;go_wp2_with fail
    (refine Ck (by kernel_rfl) (by kernel_rfl) ?_;(repeat (go_big_quiet_step (fail)));refine Cv ?_;intro _ hw';obtain⟨⟨dq,osq⟩,hw''⟩:=hw';subst hw'')
    go_wp2_with fail;go_roundw
    case rel=>exact⟨t+1,by go_num,by omega,HN,zaa Bw (Cf wr dq osq)⟩
    case measure=>simp[intOf];omega
   rw[hnt]at mmr;cases hs:decide (((k',a',b',fs'):Node)=(k,a,b,fs))
   ·rw[hs]at CS;have HN:=HNX.out (by rw[HS.out,hs,Ev]);clear hnt hs;go_wp2_with fail
    (refine Ck (by kernel_rfl) (by kernel_rfl) ?_;(repeat (go_big_quiet_step (exact CS _ _)));refine Cv ?_;intro _ hw';obtain⟨⟨dq,osq⟩,hw''⟩:=hw';subst hw'')
    go_wp2_with fail;go_roundw
    case rel=>exact⟨t+1,by go_num,by omega,HN,zaa Bw (Cf wr dq osq)⟩
    case measure=>simp[intOf];omega
   rw[hs]at CS;have HT:=Aq (zvq hlt (by rw[HS.out,hs,hnt];rfl) H.out);clear hnt hs;go_wp2_with fail
   (refine Ck (by kernel_rfl) (by kernel_rfl) ?_;(repeat (go_big_quiet_step (exact CS _ _)));refine Cv ?_;intro _ hw';obtain⟨⟨dq,osq⟩,hw''⟩:=hw';subst hw'')
   go_wp2_with fail;go_ret;exact⟨zb1 (by rw[HT.out]),zaa B0 (zaa Bw (Cf wr dq osq))⟩
  obtain rfl:t=i:=by omega
  have HT:=Aq (zvr H.out);go_wp2;go_ret;exact⟨zb1 (by rw[HT.out]),zaa B0 Bw⟩
end
end
section
def OQ (w:Yw) (F:Nat->Prop) (v:Value) (xs:List Int):Prop:=
 (v=.slice none 0 0/\xs=[])\/∃b o c,v=.slice (some ⟨b,o,none⟩) xs.length c/\xs.length<=c/\c<=maxLen/\F b/\b<w.heap.size/\(∀j x,xs[j]?=some x->w.cell? ⟨b,o+j,none⟩=some (.int .i64 x))/\∀j,xs.length<=j->j<c->(w.cell? ⟨b,o+j,none⟩).isSome=true/\w.frozen? ⟨b,o+j,none⟩=false
section
variable {w w':Yw} {F F':Nat->Prop} {v:Value} {xs:List Int} {e:TypeId} {lo:Nat}
theorem OQ.of_own{n:Nat}(h:w.ownsRow lo e 1 v n (xs.map (.int .i64)))(hF:∀g,lo<=g->g<w.heap.size->F g):OQ w F v xs:=by
 have h0:=h;have hn:xs.length=n:=by have:=h.1;simpa using this
 subst hn;rcases h.2 with⟨rfl,h1⟩|⟨g,cap,cur,rfl,hb,hg,h2,h3,h4,h5⟩
 ·exact .inl ⟨rfl,List.eq_nil_of_length_eq_zero h1⟩
 have hlt:=(Array.getElem?_eq_some_iff.1 hg).1;refine .inr ⟨g,0,cap,rfl,h2,h3,hF g hb hlt,hlt,fun j x hx=>?_,fun j hj hc=>?_⟩
 ·have hl:=(Bk.1 hx).1;rw[Nat.zero_add,World.ownsRow.cellAt h0 j (by omega),Fv,hx]
  rfl
 rw[Nat.zero_add];refine⟨?_,World.ownsRow.frozenAt h0 j⟩;rw[cell_of_row w g j cur e (0,0) hg];have:j<cur.size:=by omega
 simp[this]
theorem OQ.chg(h:OQ w F v xs)(hc:Chg F' w w')(hn:∀b,F b->¬F' b):OQ w' F v xs:=by
 rcases h with h|⟨b,o,c,rfl,h1,h2,h3,h4,h5,h6⟩
 ·exact .inl h
 refine .inr ⟨b,o,c,rfl,h1,h2,h3,Cq h4 hc.size,fun j x hx=>?_,fun j hj hj2=>?_⟩
 ·rw[hc.cell (by exact h4) (by exact hn b h3)];exact h5 j x hx
 rw[hc.cell (by exact h4) (by exact hn b h3),hc.frozen (by exact h4) (by exact hn b h3)];exact h6 j hj hj2
theorem OQ.wide(h:OQ w F v xs)(hf:∀b,F b->F' b):OQ w F' v xs:=by
 rcases h with h|⟨b,o,c,rfl,h1,h2,h3,h4⟩
 ·exact .inl h
 exact .inr ⟨b,o,c,rfl,h1,h2,hf b h3,h4⟩
theorem OQ.tail{x:Int}(h:OQ w F v (x::xs)):∃b o c,v=.slice (some ⟨b,o,none⟩) (xs.length+1) (c+1)/\F b/\b<w.heap.size/\w.cell? ⟨b,o,none⟩=some (.int .i64 x)/\OQ w F (.slice (some (if c=0 then⟨b,o,none⟩else⟨b,o+1,none⟩)) xs.length c) xs:=by
 rcases h with⟨_,h⟩|⟨b,o,c,rfl,h1,h2,h3,h4,h5,h6⟩
 ·cases h
 simp only[Dk]at h1 h6;obtain⟨c,rfl⟩:∃c',c=c'+1:=⟨c-1,by omega⟩;refine⟨b,o,c,rfl,h3,h4,h5 0 x rfl,?_⟩
 by_cases hc:c=0
 ·have:xs=[]:=List.eq_nil_of_length_eq_zero (by omega);subst this;subst hc;exact .inr ⟨b,o,0,rfl,by simp,by omega,h3,h4,fun j x hx=>by simp at hx,fun j hj hj2=>by omega⟩
 rw[if_neg hc];refine .inr ⟨b,o+1,c,rfl,by omega,by omega,h3,h4,fun j y hy=>?_,fun j hj hj2=>?_⟩
 ·have:=h5 (j+1) y (by simpa using hy);rw[show o+1+j=o+(j+1)by omega];exact this
 have:=h6 (j+1) (by omega) (by omega);rw[show o+1+j=o+(j+1)by omega];exact this
end
section
variable {P:Program} {t e:TypeId}
theorem zoy{w:Yw}(b:Nat):∀(vs:List Value) (o:Nat) (w:Yw),w.grownBy (w.setCells b o vs) (some b)
 | [],_,w=>World.grownBy.refl w _
 | v::r,o,w=>zql (zc0 w b o v) (zoy (w:=w) b r (o+1) _)
theorem zoz(ys:List Int):∀u∈ys.map (Value.int .i64),u.oneCell'=true:=by
 intro u hu;obtain⟨y,_,rfl⟩:=List.mem_map.1 hu
 rfl
theorem zvt(hE:EI P t e (.int .i64 0) 1 8){w:Yw}{ops:Array Oper}{rest:List Oper}{o:Oper}{a:Act}{Q:Exit->Act->Yw->Prop}
 (hgd:o.guard=none) (s x:Operand) (ho:o.op=.call { callee:=.builtin .append,args:=#[s,x],argTypes:=#[t,t] })
 {F:Nat->Prop} {v:Value} {xs ys:List Int} (hq:OQ w F v xs) (hs:a.eval s=v) {A:Yo} {m c:Nat} (hr:RI w w.heap.size A m ys) (hx:a.eval x=.slice A m c) (hn:xs.length+m<=1000000)
 (K:∀v' w',OQ w' (fun b=>F b\/w.heap.size<=b) v' (xs++ys)->Chg F w w'->wpList P ops Q rest (a.put o.dst v') w') :
 wpList P ops Q (o::rest) a w:=by
 obtain⟨ht,hinfo,hzs,hsz⟩:=hE;obtain⟨i0,hi,hz0,hz1,hz2⟩:=info_parts hinfo;have hm:=hr.len;rcases Nat.eq_zero_or_pos m with h0|h0
 ·subst h0;obtain rfl:ys=[]:=List.eq_nil_of_length_eq_zero hm
  have hrun:(Builtin.append_ #[t,t] o.type #[v,.slice A 0 c]).run P w=.ok v w:=by
   cases A with
   | none=>rcases hq with⟨rfl,rfl⟩|⟨b,o',c',rfl,h1,_⟩ <;> simp[Builtin.append_,run_underlying ht,sizeOf,typeInfo,hi,Builtin.lenOf,Builtin.firstCells,storeCells, *]
   | some ad=>
    have hfc:=run_firstCells_some (P:=P) w i0.size 0 ad 0 c [] (by simp) (by simp);rw[hz1]at hfc;rcases hq with⟨rfl,rfl⟩|⟨b,o',c',rfl,h1,_⟩ <;> simp[Builtin.append_,run_underlying ht,sizeOf,typeInfo,hi,Builtin.lenOf,hfc,storeCells, *]
  refine wpList_plain hgd fun K' hK'=>?_
  unfold Oper.wp execOp;simp only[ho,resolve,invoke,builtin,Sem.run_bind,Sem.run_pure,Result.andThen_ok,List.map_toArray,List.map_cons,List.map_nil,hs,hx,hrun];exact hK' _ _ (K v w (by simpa using hq.wide (fun b hb=>.inl hb)) (Chg.refl _ _))
 obtain⟨ad,rfl,hab,hc⟩:=hr.2 h0
 have hgrow:∀v' w',w'.ownsRow w.heap.size e 1 v' (xs.length+m) (xs.map (.int .i64)++ys.map (.int .i64))->w.grownBy w' none->wpList P ops Q rest (a.put o.dst v') w':=fun v' w' h1 h2=>by
  rw[<-List.map_append]at h1;exact K v' w' (OQ.of_own h1 (fun g hg _=>.inr hg)) (Chg.of_grown h2 (fun k hk=>by cases hk))
 rcases hq with⟨rfl,rfl⟩|⟨b,o',c',rfl,h1,h2,h3,h4,h5,h6⟩
 ·exact wpList_append_grows w hgd s x t ho e i0 (.int .i64 0) 1 8 ht hi hz0 hz1 hz2 hzs hsz none 0 0 [] hs (fun _=>⟨rfl,rfl⟩) rfl (fun _ h=>by cases h) ad m c (ys.map (.int .i64)) hx (by simpa using hm) hc (zoz ys) (by omega) (by unfold maxLen;simp at hn;omega) (by simp at hn;omega) (fun v' w' h1 h2=>hgrow v' w' (by simpa using h1) h2)
 refine wpList_append_arg w hgd s x t ho e i0 (.int .i64 0) 1 8 ht hi hz0 hz1 hz2 hzs hsz b o' xs.length c' (xs.map (.int .i64)) hs (by simp) (fun j u hu=>?_) ad m c (ys.map (.int .i64)) hx (by simpa using hm) hc (zoz ys) (fun hroom j hj=>?_) (by unfold maxLen;omega) (by omega) (fun hroom=>?_) (fun hfull v' w' g1 g2=>hgrow v' w' g1 g2)
 ·rw[Fv,Option.map_eq_some_iff]at hu;obtain⟨y,hy,rfl⟩:=hu;exact h5 j y hy
 ·have:=h6 (xs.length+j) (by omega) (by simp at hj;omega);rw[Nat.mul_one,Nat.add_assoc];exact this
 rw[Nat.mul_one]
 have hsome:∀j,j<(ys.map (Value.int .i64)).length->(w.cell? ⟨b,o'+xs.length+j,none⟩).isSome=true:=fun j hj=>by
  have:=(h6 (xs.length+j) (by omega) (by simp at hj;omega)).1;rw[Nat.add_assoc];exact this
 have hgr:=zoy (w:=w) b (ys.map (Value.int .i64)) (o'+xs.length) w;have e1:xs.length+m=(xs++ys).length:=by rw[Cw];omega
 rw[e1];refine K _ _ (.inr ⟨b,o',c',rfl,by rw[Cw];omega,h2,.inl h3,Cq h4 hgr.size,fun j y hy=>?_,fun j hj hj2=>?_⟩) (Chg.of_grown hgr (fun k hk=>by injection hk with hk;rw[<-hk];exact h3))
 ·by_cases hjx:j<xs.length
  ·rw[List.getElem?_append_left hjx]at hy;rw[World.cell?_setCells_out b _ _ _ _ (fun _ _=>.inl (by show o'+j<_;omega))];exact h5 j y hy
  rw[Gz (by omega)]at hy;have hjl:=(Bk.1 hy).1;have:=World.cell?_setCells_in b (ys.map (Value.int .i64)) (o'+xs.length) w hsome (j-xs.length) (by simpa using hjl);rw[show o'+xs.length+(j-xs.length)=o'+j by omega]at this;rw[this];simp[Bk.1 hy |>.2]
 rw[Cw]at hj;rw[World.cell?_setCells_out b _ _ _ _ (fun _ _=>.inr (by show _<=o'+j;simp;omega)),World.frozen?_setCells];exact h6 j (by omega) hj2
end
end
section
section
variable {tb:List (List Int)} {p:NO} {R:Nat->Nat} {w:Yw}
theorem zo0(h:M.WP tb p R)(ho:p.2.length<=1000){nd:Nat->Bool}(hnd:∀j,nd j=true↔M.Rch p.1 p.2 j)(a0:Int)(A1:Yo)(n1 c1:Nat)(A2:Yo)(n2 c2:Nat)(A3:Yo)(n3 c3:Nat)(hr:RS tN w w.heap.size (.slice A2 n2 c2) p.1)(k3:tS.R w w.heap.size [.slice A3 n3 c3] p.2):
 Calls Tryz.prog 198 #[.agg #[.int .i64 a0,.slice A1 n1 c1,.slice A2 n2 c2,.slice A3 n3 c3]] w fun e w'=>∃(Am:Yo) (cm:Nat),e=.returned (.slice Am n2 cm)/\RA ebl 1 w' w'.heap.size Am n2 (zgc nd n2)/\Below w.heap.size w w'/\∀ad:Addr,Am=some ad->w.heap.size<ad.block:=by
 have hl:=hr.cap.1;have hlen:=h.len;have hn2:n2<=24:=by omega
 obtain⟨W,hW,B0,sW,p0,p1,p2,p3,pf⟩:=zdm w (.int .i64 a0) (.slice A1 n1 c1) (.slice A2 n2 c2) (.slice A3 n3 c3) 67;have HW:=Aq hW;have HND:=Aq hnd;have P2:=Aq p2;have lW:w.heap.size<W.heap.size:=by omega
 have hrW:=hr.later B0;have k3W:=tS.later k3 B0;have HL:=Aq hl;have hl3:=Aq (zcu k3);clear hW sW hr k3 hl pf hnd
 go_enter Tryz.func198,Tryz.ntmps198
 go_wp2_with (at_make;rw[<-HW.out];refine zhm zm8 rfl _ _ rfl n2 _ _ rfl rfl rfl rfl (by omega) (by unfold maxLen;omega) ?_;intro w1 own1 bel1;replace p2:=(bel1.cell (by show w.heap.size<_;exact lW)).trans p2;replace p3:=(bel1.cell (by show w.heap.size<_;exact lW)).trans p3;have hs1:W.heap.size<w1.heap.size:=(Gq own1 _ rfl).2;have lw1:w.heap.size<w1.heap.size:=(by omega);have OWN1:=Aq own1;clear own1);have own1:=OWN1.out
 have owt:OA ebl 4 1 W.heap.size (W.heap.size+1) w1 (.slice (some ⟨W.heap.size,0,none⟩) n2 n2) (List.replicate n2 false):=
  OA.made zfn (by decide) rfl own1 (fun k hk=>by simp only[Value.ownBlock,Dq]at hk;omega)
 have ri1:=(tS_R.1 (tS.later k3W bel1)).ri;clear own1 OWN1;refine(zdr _ _ _ _ _ ri1 (by have:=hl3.out;omega)).mono ?_;rintro e w2 ⟨v1,rfl,o2,bel2⟩;have q0:OQ w2 (fun b=>w1.heap.size<=b) v1 p.2:=OQ.of_own o2 (fun g hg _=>hg);have B2:=zaa bel1 bel2;have s2:=bel2.size;have owt2:=owt.below bel2 (by omega);have BI0:=Aq (M.BI.start (ns:=p.1) (os:=p.2) (fun o hoo=>(h.outs o hoo).1));rw[HL.out]at BI0;have g2:=(bel2.cell (by show w.heap.size<_;omega)).trans p2;have lo2:=Aq (show p.2.length<=1000 from ho);clear owt o2 ri1 p0 p1 p2 p3 bel1 bel2 HW ho k3W;go_wp2_with fail
 go_loopg [4] (4*n2+p.2.length) (fun gk v wr=>∃(m:List Bool) (q:List Int),OQ wr (fun b=>w1.heap.size<=b) v q/\OA ebl 4 1 W.heap.size (W.heap.size+1) wr (.slice (some ⟨W.heap.size,0,none⟩) n2 n2) m/\Hid (M.BI p.1 p.2 m q)/\4*(n2-zdx m)+q.length<=gk/\3*(n2-zdx m)+q.length<=2000/\Below W.heap.size W wr/\w1.heap.size<=wr.heap.size)
 case atStart=>
  have:=lo2.out;exact⟨_,_,q0,owt2,BI0,by have:zdx (List.replicate n2 false)=0:=by { simp[zdx] };omega,by omega,B2,s2⟩
 case round=>
  obtain⟨m,q,oq,owk,HBI,hg1,hg2,Bw,sw⟩:=hrel;have gw2:=(Bw.cell (by show w.heap.size<_;exact lW)).trans P2.out;have hml:=HBI.out.len;cases q with
  | nil=>
   have hM:=HBI.out.whole HND.out
   have hrm:RA ebl 1 wr wr.heap.size (some ⟨W.heap.size,0,none⟩) n2 (zgc nd n2):=by
    have e:zgc nd n2=m:=(by rw[hM,zgc,HL.out]);rw[e];obtain rfl:m.length=n2:=by rw[hml,HL.out]
    exact owk.ra
   rcases oq with⟨rfl,-⟩|⟨b,o,c,rfl,-⟩
   ·go_wp2_with fail;go_ret;exact⟨_,_,rfl,hrm,B0.trans (Bw.mono (by omega)),fun ad e=>by injection e with e;rw[<-e];exact lW⟩
   ·go_wp2_with fail;go_ret;exact⟨_,_,rfl,hrm,B0.trans (Bw.mono (by omega)),fun ad e=>by injection e with e;rw[<-e];exact lW⟩
  | cons x q=>
   obtain⟨hx0,hxr⟩:=HBI.out.qr x (List.mem_cons_self ..);have hxl:=M.Rch.lt h hxr;obtain⟨f,rfl⟩:∃f:Nat,x=(f:Int):=⟨x.toNat,by omega⟩;rw[Fq]at hxl hxr;have hf:f<n2:=(by have:=HL.out;omega);have hf2:(f:Int)<(n2:Int):=(by omega);obtain⟨b,o,c,rfl,hbF,hbl,c0,oq2⟩:=oq.tail;obtain⟨bf,hbf⟩:∃bf,m[f]?=some bf:=⟨_,Ak (show f<m.length by rw[hml];exact hxl)⟩;have mc:=OA.cell zfn owk hbf (j:=0) rfl;rw[Nat.mul_one,Nat.add_zero]at mc;obtain⟨mc,mf⟩:=mc;have HBF:=Aq hbf;simp only[Dk]at hg1 hg2;clear hbf oq hml hxr hx0;obtain⟨A9,hA9⟩:∃A9,(if c=0 then(⟨b,o,none⟩:Addr)else⟨b,o+1,none⟩)=A9:=⟨_,rfl⟩;rw[hA9]at oq2
   have hcc:(c=0/\A9=⟨b,o,none⟩)\/(¬c=0/\A9=⟨b,o+1,none⟩):=by
    by_cases hc:c=0
    ·rw[if_pos hc]at hA9;exact .inl ⟨hc,hA9.symm⟩
    rw[if_neg hc]at hA9;exact .inr ⟨hc,hA9.symm⟩
   clear hA9;cases bf with
   | true=>
    have hsk:=Aq (HBI.out.skip HBF.out);rcases hcc with⟨rfl,rfl⟩|⟨hc,rfl⟩
    all_goals
     go_wp2_with fail
     go_roundg (gk-1)
     case measure=>omega
     case rel=>exact⟨m,q,oq2,owk,hsk,by omega,by omega,Bw,sw⟩
   | false=>
    obtain⟨T,hT⟩:∃T,T=wr.setCell ⟨W.heap.size,f,none⟩ (.bool true):=⟨_,rfl⟩;have chT:Chg (fun b=>b=W.heap.size) wr T:=(by rw[hT];exact Chg.set _ _ _ _ rfl);have owT:=(OA.set zfn owk HBF.out (j:=0) (by decide) (y:=true) (u:=.bool true) rfl).1;simp only[Nat.mul_one,Nat.add_zero]at owT;rw[<-hT]at owT;have BT:=Bw.trans (chT.toBelow (fun b (hb:b=_)=>by omega) (by omega));have oqT:=oq2.chg chT (fun b hb (e:b=_)=>by omega);have sT:=chT.size;obtain⟨bb,o',k,a,b',A4,c4,fs,rfl,hbb,X,e0,e1,e2,e3,hr3,hlf⟩:=zd4 h (hrW.below BT) hf;have gT:=(BT.cell (by show w.heap.size<_;exact lW)).trans P2.out;have hmk:=HBI.out.mark (by have:=HBI.out.len;omega) (fun g hg=>(h.frs f hxl g hg).1);rw[X.out]at hmk;have HMK:=Aq hmk;have HCN:=Aq (zof HBF.out);have hcl:=zud (m.set f true);rw[Fx,HBI.out.len,HL.out]at hcl;have hcn:=HCN.out;have hrT:=hr3.more BT.size;have HT:=Aq hT;have hqn:q.length+fs.length<=1000000:=(by omega);have hm1:4*(n2-zdx (m.set f true))+(q.length+fs.length)<gk:=(by omega);have hm2:3*(n2-zdx (m.set f true))+(q.length+fs.length)<=2000:=(by omega);have HM:=Aq (show 4*(n2-zdx (m.set f true))+(q++fs).length<gk/\3*(n2-zdx (m.set f true))+(q++fs).length<=2000 by rw[Cw];exact⟨hm1,hm2⟩);clear hT hmk hcl hcn e0 e1 e2 chT hm1 hm2 hg1 hg2;rcases hcc with⟨rfl,rfl⟩|⟨hc,rfl⟩
    all_goals
     go_upto_region 8 with fail
     rw[<-HT.out];clear gw2 mc mf c0;go_wp2_with (at_builtin;refine zvt zbu rfl _ _ rfl oqT rfl hrT rfl hqn ?_;intro v3 w4 oq4 ch4)
     go_roundg (4*(n2-zdx (m.set f true))+(q++fs).length)
     case measure=>exact HM.out.1
     case rel=>
      have s4:=ch4.size;exact⟨m.set f true,q++fs,oq4.wide (fun x hx=>by rcases hx with hx|hx <;> omega),owT.below (ch4.toBelow (B:=W.heap.size+1) (fun x hx=>by omega) (by omega)) (Aj _),HMK,Aj _,HM.out.2,BT.trans (ch4.toBelow (fun x hx=>by omega) (by omega)),by omega⟩
end
end
section
theorem zo1{nd:Nat->Bool}{ns:List Node}{i:Nat}:((zcq nd ns i).isSome=true/\0<=ze9 nd ns i/\ze9 nd ns i=((zcq nd ns i).getD 0:Nat))\/((zcq nd ns i).isSome=false/\ze9 nd ns i = -1):=by
 unfold ze9;cases zcq nd ns i with
 | none=>exact .inr ⟨rfl,rfl⟩
 | some k=>exact .inl ⟨rfl,by simp,rfl⟩
section
variable {nd:Nat->Bool} {ns:List Node} {i:Nat}
theorem zvu(h:nd i=false):zbb nd ns i=0:=by rw[zbb,if_pos h]
theorem zvv(h:nd i=true)(h1:zcm ns (zab ns i)=true):zbb nd ns i=1:=by rw[zbb,if_neg (by simp[h]),if_pos h1]
theorem zvw(h:nd i=true)(h1:zcm ns (zab ns i)=false)(h2:zcn ns (zab ns i)=true):zbb nd ns i=2:=by rw[zbb,if_neg (by simp[h]),if_neg (by simp[h1]),if_pos h2]
theorem zvx(h:nd i=true)(h1:zcm ns (zab ns i)=false)(h2:zcn ns (zab ns i)=false)(h3:0<=zaz ns (zab ns i)):zbb nd ns i=3:=by rw[zbb,if_neg (by simp[h]),if_neg (by simp[h1]),if_neg (by simp[h2]),if_pos h3]
theorem zvy(h:nd i=true)(h1:zcm ns (zab ns i)=false)(h2:zcn ns (zab ns i)=false)(h3:¬0<=zaz ns (zab ns i))(h4:zdi ns (zab ns i)=true):zbb nd ns i=4:=by rw[zbb,if_neg (by simp[h]),if_neg (by simp[h1]),if_neg (by simp[h2]),if_neg h3,if_pos h4]
theorem zvz(h:nd i=true)(h1:zcm ns (zab ns i)=false)(h2:zcn ns (zab ns i)=false)(h3:¬0<=zaz ns (zab ns i))(h4:zdi ns (zab ns i)=false)(h5:zdw ns (zab ns i)=true):zbb nd ns i=5:=by rw[zbb,if_neg (by simp[h]),if_neg (by simp[h1]),if_neg (by simp[h2]),if_neg h3,if_neg (by simp[h4]),if_pos h5]
theorem zv0(h:nd i=true)(h1:zcm ns (zab ns i)=false)(h2:zcn ns (zab ns i)=false)(h3:¬0<=zaz ns (zab ns i))(h4:zdi ns (zab ns i)=false)(h5:zdw ns (zab ns i)=false)(h6:zdj ns i (zab ns i)=true):zbb nd ns i=6:=by rw[zbb,if_neg (by simp[h]),if_neg (by simp[h1]),if_neg (by simp[h2]),if_neg h3,if_neg (by simp[h4]),if_neg (by simp[h5]),if_pos h6]
theorem zv1(h:nd i=true)(h1:zcm ns (zab ns i)=false)(h2:zcn ns (zab ns i)=false)(h3:¬0<=zaz ns (zab ns i))(h4:zdi ns (zab ns i)=false)(h5:zdw ns (zab ns i)=false)(h6:zdj ns i (zab ns i)=false):zbb nd ns i=if (zcq nd ns i).isSome then 7 else 0:=by rw[zbb,if_neg (by simp[h]),if_neg (by simp[h1]),if_neg (by simp[h2]),if_neg h3,if_neg (by simp[h4]),if_neg (by simp[h5]),if_neg (by simp[h6])]
end
theorem zv2{w W:Yw}{g:Nat}{y0 y1 y2 y3:Value}(B0:Below w.heap.size w W)(hg:w.heap.size<=g)(hW:g<W.heap.size)(ZX:BX W g y0 y1 y2 y3)(v0 v1 v2 v3:Value)(w2:Yw)(Bw2:Below W.heap.size W w2):∃U,U=(((w2.setCell ⟨g,0,none⟩ v0).setCell ⟨g,1,none⟩ v1).setCell ⟨g,2,none⟩ v2).setCell ⟨g,3,none⟩ v3/\BX w2 g y0 y1 y2 y3/\BX U g v0 v1 v2 v3/\Below w.heap.size w U/\U.heap.size=w2.heap.size/\Chg (fun b=>b=g) w2 U:=by
 have Z2:=ZX.later Bw2;obtain⟨U,hU,ZU,chU,sU⟩:=Z2.set v0 v1 v2 v3;have s2:=Bw2.size;have s0:=B0.size;exact⟨U,hU,Z2,ZU,(B0.trans (Bw2.mono (by omega))).trans (chU.toBelow (fun b (hb:b=_)=>by omega) (by omega)),sU,chU⟩
section
variable {nd:Nat->Bool} {tb:List (List Int)} {p:NO} {i:Nat}
theorem zv3:zbz nd tb p i 1=(p.1.set i (2,zah (zab p.1 i) tb (zev p.1 (zab p.1 i)) [],0,[]),p.2):=by simp[zbz]
theorem zv4:zbz nd tb p i 2=(p.1.set i (2,0,0,[]),p.2):=by simp[zbz]
theorem zv5:zbz nd tb p i 3=za5 i (zaz p.1 (zab p.1 i)) p:=by simp[zbz]
theorem zv6:zbz nd tb p i 4=(p.1.set i (zfr p.1 (zab p.1 i)),p.2):=by simp[zbz]
theorem zv7:zbz nd tb p i 5=(p.1.set i (zfs p.1 (zab p.1 i)),p.2):=by simp[zbz]
theorem zv8:zbz nd tb p i 6=(p.1.set i (zft p.1 (zab p.1 i)),p.2):=by simp[zbz]
theorem zv9:zbz nd tb p i 7=za5 i (((zcq nd p.1 i).getD 0:Nat):Int) p:=by simp[zbz]
end
section
variable {tb:List (List Int)} {p:NO} {R:Nat->Nat} {w:Yw} {nd:Nat->Bool}
theorem zwa(h:M.WP tb p R)(ho:p.2.length<=1000)(hnd:∀j,nd j=true↔M.Rch p.1 p.2 j)(a0:Int)(A1:Yo)(n1 c1:Nat)(A2:Yo)(n2 c2:Nat)(A3:Yo)(n3 c3:Nat)(i:Nat)(k1:tSS.R w w.heap.size [.slice A1 n1 c1] tb)(k2:tNS.R w w.heap.size [.slice A2 n2 c2] p.1)(k3:tS.R w w.heap.size [.slice A3 n3 c3] p.2)(hi:i<n2):
 Calls Tryz.prog 151 #[.agg #[.int .i64 a0,.slice A1 n1 c1,.slice A2 n2 c2,.slice A3 n3 c3],.int .i64 i] w fun e w'=>((zbb nd p.1 i=0/\e=.returned (.tuple #[.int .i64 0,.agg #[.int .i64 a0,.slice A1 n1 c1,.slice A2 n2 c2,.slice A3 n3 c3]]))\/
  (zbb nd p.1 i≠0/\∃A1' n1' c1' A2' n2' c2' A3' n3' c3',e=.returned (.tuple #[.int .i64 (zbb nd p.1 i),.agg #[.int .i64 a0,.slice A1' n1' c1',.slice A2' n2' c2',.slice A3' n3' c3']])/\∀T,Chg (fun b=>b<w.heap.size) w' T->PRd A1' n1' c1' A2' n2' c2' A3' n3' c3' tb (zbz nd tb p i (zbb nd p.1 i)) T))/\Below w.heap.size w w':=by
 have hl:=(sl_R.1 k2).cap.1;have hlen:=h.len;have hn2:n2<=24:=by omega
 have hi2:(i:Int)<(n2:Int):=by omega
 obtain⟨W,hW,B0,sW,PX,ZX⟩:=zhf w (.int .i64 a0) (.slice A1 n1 c1) (.slice A2 n2 c2) (.slice A3 n3 c3) (.int .i64 0) (.slice none 0 0) (.slice none 0 0) (.slice none 0 0) 67 67;have HW:=Aq hW;have lW:w.heap.size+1<W.heap.size:=by omega
 have q1:=tSS.later k1 B0;have q2:=tNS.later k2 B0;have q3:=tS.later k3 B0;have HL:=Aq hl;have HO:=Aq ho;have FIN:=Aq (zv2 (g:=w.heap.size+1) B0 (by omega) (by omega) ZX);have CM:=Aq (zo0 h ho hnd a0 A1 n1 c1 A2 n2 c2 A3 n3 c3 (sl_R.1 q2) q3);clear hW sW k1 k2 k3 hl hnd ho
 go_enter Tryz.func151,Tryz.ntmps151
 go_wp2_with fail;rw[<-HW.out];refine CM.out.mono ?_;rintro e w1 ⟨Am,cm,rfl,rm,b1,-⟩;obtain⟨bm,om,rfl,hbm,m0⟩:=zjl rm hi;obtain⟨z0,z1,z2,z3,zf,zl⟩:=PX.later b1;have hbmw:bm<w1.heap.size:=hbm;cases hn:nd i
 ·rw[hn]at m0;have RU:=Aq (zvu (ns:=p.1) hn);clear hn;obtain⟨U,hU,Z2,ZU,BU,-,-⟩:=FIN.out (.int .i64 a0) (.slice A1 n1 c1) (.slice A2 n2 c2) (.slice A3 n3 c3) w1 b1;have HU:=Aq hU;obtain⟨q0,q1_,q2_,q3_,qf,ql⟩:=Z2;obtain⟨d0,d1,d2,d3,df,dl⟩:=ZU.drew;have f0:=df 0;have f1:=df 1;have f2:=df 2;have f3:=df 3;have r0:=qf 0;have r1:=qf 1;have r2:=qf 2;have r3:=qf 3;clear hU;go_wp2_with fail;go_region;rw[<-HU.out];go_wp2_with fail;refine Cy (v:=.tuple #[.int .i64 0,.agg #[.int .i64 a0,.slice A1 n1 c1,.slice A2 n2 c2,.slice A3 n3 c3]]) (by simp[results,Tryz.results151,go_sem,d0,d1,d2,d3,f0,f1,f2,f3]) rfl ?_;exact⟨.inl ⟨RU.out,rfl⟩,zad BU 1⟩
 rw[hn]at m0;have HN:=Aq hn;clear hn;have CT:=Aq (zu7 h a0 A1 n1 c1 A2 n2 c2 A3 n3 c3 i (sl_R.1 (tSS.later q1 b1)) (sl_R.1 (tNS.later q2 b1)) hi);go_wp2_with fail;refine CT.out.mono ?_;rintro e w2 ⟨⟨hc,A7,c7,rfl,rz⟩|⟨hc,rfl⟩,b2⟩
 ·have RU:=Aq (zvv HN.out hc);have B2:=zaa b1 b2;obtain⟨vv,hvv⟩:∃vv,zah (zab p.1 i) tb (zev p.1 (zab p.1 i)) []=vv:=⟨_,rfl⟩;rw[hvv];have AP:=Aq (show zbz nd tb p i 1=(p.1.set i (2,vv,0,[]),p.2)by rw[zv3,hvv]);have hcap:=(tS_R.1 rz).cap;have HCAP:=Aq hcap;clear hvv hc rz hcap;obtain⟨z0,z1,z2,z3,zf,zl⟩:=PX.later B2;obtain⟨V,hV⟩:∃V,V=w2.alloc (.cells #[.int .i64 2,.int .i64 vv,.int .i64 0,.slice A7 0 c7] 169):=⟨_,rfl⟩;have BV:Below w2.heap.size w2 V:=by rw[hV];exact zar _ _
  have B3:=zaa B2 BV;have HV:=Aq hV;clear hV;go_wp2_with fail;rw[<-HV.out];refine(zie h HO.out a0 A1 n1 c1 A2 n2 c2 A3 n3 c3 i (tSS.later q1 B3) (tNS.later q2 B3) (tS.later q3 B3) hi 2 vv 0 A7 0 c7).mono ?_;rintro e wz ⟨A1',n1',c1',A2',n2',c2',A3',n3',c3',rfl,RK,bz⟩;obtain⟨U,hU,Z2,ZU,BU,sU,chU⟩:=FIN.out (.int .i64 a0) (.slice A1' n1' c1') (.slice A2' n2' c2') (.slice A3' n3' c3') wz (zaa B3 bz);have HU:=Aq hU
  have PR:=Aq (show ∀T,Chg (fun b=>b<w.heap.size) U T->PRd A1' n1' c1' A2' n2' c2' A3' n3' c3' tb (p.1.set i (2,vv,0,[]),p.2) T from fun T hT=>by
   have s1:=(B3).size;have cT:Chg (fun b=>b<V.heap.size) wz T:=(chU.wide (fun b (hb:b=_)=>by omega)).trans (hT.wide (fun b (hb:b<_)=>by omega));exact RK T [] cT (tS_R.2 (RS.of_ri (RI.nil _ _ _) HCAP.out.2.1 HCAP.out.2.2)))
  obtain⟨q0,q1_,q2_,q3_,qf,ql⟩:=Z2;obtain⟨d0,d1,d2,d3,df,dl⟩:=ZU;have f0:=df 0;have f1:=df 1;have f2:=df 2;have f3:=df 3;have r0:=qf 0;have r1:=qf 1;have r2:=qf 2;have r3:=qf 3;clear hU RK sU chU;go_wp2_with fail;rw[<-HU.out];refine Cy (v:=.tuple #[.int .i64 1,.agg #[.int .i64 a0,.slice A1' n1' c1',.slice A2' n2' c2',.slice A3' n3' c3']]) (by simp[results,Tryz.results151,go_sem,d0,d1,d2,d3,f0,f1,f2,f3]) rfl ?_;exact⟨.inr ⟨by rw[RU.out];decide,A1',n1',c1',A2',n2',c2',A3',n3',c3',by rw[RU.out],by rw[RU.out,AP.out];exact PR.out⟩,BU⟩
 have HC:=Aq hc;clear hc;obtain⟨V,hV⟩:∃V,V=w2.alloc (.cells #[.int .i64 0,.int .i64 0,.int .i64 0,.slice none 0 0] 169):=⟨_,rfl⟩;have BV:Below w2.heap.size w2 V:=by rw[hV];exact zar _ _
 have CV:=zaa b2 BV;have BB:=zaa b1 CV;have HV:=Aq hV;clear hV z0 z1 z2 z3 zf;obtain⟨z0,z1,z2,z3,zf,zl⟩:=PX.later (zaa b1 b2);have CZ:=Aq (zuv h a0 A1 n1 c1 A2 n2 c2 A3 n3 c3 i (sl_R.1 (tNS.later q2 BB)) hi);go_wp2_with fail;rw[<-HV.out];cases hz:zcn p.1 (zab p.1 i)
 ·rw[hz]at CZ;have HZ:=Aq hz;clear hz;refine CZ.out.mono ?_;rintro e w3 ⟨rfl,b3⟩;have C3:=zaa CV b3;clear HV BV BB CV;have B3:=zaa b1 C3;clear z0 z1 z2 z3 zf;obtain⟨z0,z1,z2,z3,zf,zl⟩:=PX.later B3;have CR:=Aq (zu4 h a0 A1 n1 c1 A2 n2 c2 A3 n3 c3 i (sl_R.1 (tNS.later q2 B3)) hi);obtain⟨s,hs⟩:∃s,zaz p.1 (zab p.1 i)=s:=⟨_,rfl⟩;rw[hs]at CR;have HS:=Aq hs;clear hs;go_wp2_with fail;refine CR.out.mono ?_;rintro e w4 ⟨rfl,b4⟩;have C4:=zaa C3 b4;have B4:=zaa b1 C4;clear z0 z1 z2 z3 zf;obtain⟨z0,z1,z2,z3,zf,zl⟩:=PX.later B4
  by_cases h3:0<=s
  ·have RU:=Aq (zvx HN.out HC.out HZ.out (by rw[HS.out];exact h3));have AP:=Aq (show zbz nd tb p i 3=za5 i s p by rw[zv5,HS.out]);go_wp2_with fail;refine(zox h HO.out a0 A1 n1 c1 A2 n2 c2 A3 n3 c3 i s (tSS.later q1 B4) (tNS.later q2 B4) (tS.later q3 B4)).mono ?_;rintro e wz ⟨A1',n1',c1',A2',n2',c2',A3',n3',c3',rfl,RK,bz⟩;obtain⟨U,hU,Z2,ZU,BU,sU,chU⟩:=FIN.out (.int .i64 a0) (.slice A1' n1' c1') (.slice A2' n2' c2') (.slice A3' n3' c3') wz (zaa B4 bz);have HU:=Aq hU
   have PR:=Aq (show ∀T,Chg (fun b=>b<w.heap.size) U T->PRd A1' n1' c1' A2' n2' c2' A3' n3' c3' tb (za5 i s p) T from fun T hT=>by
    have s1:=(B4).size;exact RK T ((chU.wide (fun b (hb:b=_)=>by omega)).trans (hT.wide (fun b (hb:b<_)=>by omega))))
   obtain⟨q0,q1_,q2_,q3_,qf,ql⟩:=Z2;obtain⟨d0,d1,d2,d3,df,dl⟩:=ZU;have f0:=df 0;have f1:=df 1;have f2:=df 2;have f3:=df 3;have r0:=qf 0;have r1:=qf 1;have r2:=qf 2;have r3:=qf 3;clear hU RK sU chU;go_wp2_with fail;rw[<-HU.out];refine Cy (v:=.tuple #[.int .i64 3,.agg #[.int .i64 a0,.slice A1' n1' c1',.slice A2' n2' c2',.slice A3' n3' c3']]) (by simp[results,Tryz.results151,go_sem,d0,d1,d2,d3,f0,f1,f2,f3]) rfl ?_;exact⟨.inr ⟨by rw[RU.out];decide,A1',n1',c1',A2',n2',c2',A3',n3',c3',by rw[RU.out],by rw[RU.out,AP.out];exact PR.out⟩,BU⟩
  have CG:=Aq (zvf h a0 A1 n1 c1 A2 n2 c2 A3 n3 c3 i (sl_R.1 (tNS.later q2 B4)) hi);go_wp2_with fail;refine CG.out.mono ?_;rintro e w5 ⟨⟨hf,v,x,A7,c7,hN,rfl,HX⟩|⟨hf,rfl⟩,b5⟩
  ·have RU:=Aq (zvy HN.out HC.out HZ.out (by rw[HS.out];omega) hf);have AP:=Aq (show zbz nd tb p i 4=(p.1.set i (5,v,0,[x]),p.2)by rw[zv6,hN]);have HX:=Aq HX;have C5:=zaa C4 b5;clear hf hN;obtain⟨V,hV⟩:∃V,V=w5.alloc (.cells #[.int .i64 5,.int .i64 v,.int .i64 0,.slice A7 1 c7] 169):=⟨_,rfl⟩;have BV:Below w5.heap.size w5 V:=(by rw[hV];exact zar _ _);have CV:=zaa C5 BV;have BB:=zaa b1 CV;have HV:=Aq hV;clear hV z0 z1 z2 z3 zf;obtain⟨z0,z1,z2,z3,zf,zl⟩:=PX.later (zaa b1 C5);go_wp2_with fail;rw[<-HV.out];refine(zie h HO.out a0 A1 n1 c1 A2 n2 c2 A3 n3 c3 i (tSS.later q1 BB) (tNS.later q2 BB) (tS.later q3 BB) hi 5 v 0 A7 1 c7).mono ?_;rintro e wz ⟨A1',n1',c1',A2',n2',c2',A3',n3',c3',rfl,RK,bz⟩;obtain⟨U,hU,Z2,ZU,BU,sU,chU⟩:=FIN.out (.int .i64 a0) (.slice A1' n1' c1') (.slice A2' n2' c2') (.slice A3' n3' c3') wz (zaa BB bz);have HU:=Aq hU
   have PR:=Aq (show ∀T,Chg (fun b=>b<w.heap.size) U T->PRd A1' n1' c1' A2' n2' c2' A3' n3' c3' tb (p.1.set i (5,v,0,[x]),p.2) T from fun T hT=>by
    have s1:=(BB).size;have cT:Chg (fun b=>b<V.heap.size) wz T:=(chU.wide (fun b (hb:b=_)=>by omega)).trans (hT.wide (fun b (hb:b<_)=>by omega));exact RK T [x] cT (HX.out T ((Chg.of_below (zaa BV bz) _).trans ((chU.wide (fun b (hb:b=_)=>by have:=(B4).size;omega)).trans (hT.wide (fun b (hb:b<_)=>by have:=(B4).size;omega))))))
   obtain⟨q0,q1_,q2_,q3_,qf,ql⟩:=Z2;obtain⟨d0,d1,d2,d3,df,dl⟩:=ZU;have f0:=df 0;have f1:=df 1;have f2:=df 2;have f3:=df 3;have r0:=qf 0;have r1:=qf 1;have r2:=qf 2;have r3:=qf 3;clear hU RK sU chU;go_wp2_with fail;rw[<-HU.out];refine Cy (v:=.tuple #[.int .i64 4,.agg #[.int .i64 a0,.slice A1' n1' c1',.slice A2' n2' c2',.slice A3' n3' c3']]) (by simp[results,Tryz.results151,go_sem,d0,d1,d2,d3,f0,f1,f2,f3]) rfl ?_;exact⟨.inr ⟨by rw[RU.out];decide,A1',n1',c1',A2',n2',c2',A3',n3',c3',by rw[RU.out],by rw[RU.out,AP.out];exact PR.out⟩,BU⟩
  have HF:=Aq hf;have C5:=zaa C4 b5;clear hf;obtain⟨V,hV⟩:∃V,V=w5.alloc (.cells #[.int .i64 0,.int .i64 0,.int .i64 0,.slice none 0 0] 169):=⟨_,rfl⟩;have BV:Below w5.heap.size w5 V:=by rw[hV];exact zar _ _
  have CV:=zaa C5 BV;have BB:=zaa b1 CV;have HV:=Aq hV;clear hV z0 z1 z2 z3 zf;obtain⟨z0,z1,z2,z3,zf,zl⟩:=PX.later (zaa b1 C5);have CJ:=Aq (zvg h a0 A1 n1 c1 A2 n2 c2 A3 n3 c3 i (sl_R.1 (tNS.later q2 BB)) hi);have BO:=BB;go_wp2_with fail;rw[<-HV.out];refine CJ.out.mono ?_;rintro e w6 ⟨⟨hj,v,A7,c7,l,hN,rfl,HX⟩|⟨hj,y0,y1,y2,Ay,ny,cy,rfl⟩,bj⟩
  ·have RU:=Aq (zvz HN.out HC.out HZ.out (by rw[HS.out];omega) HF.out hj);have AP:=Aq (show zbz nd tb p i 5=(p.1.set i (5,v,0,l),p.2)by rw[zv7,hN]);have HX:=Aq HX;have CJ2:=zaa CV bj;clear hj hN BV CV HV;obtain⟨V,hV⟩:∃V,V=w6.alloc (.cells #[.int .i64 5,.int .i64 v,.int .i64 0,.slice A7 l.length c7] 169):=⟨_,rfl⟩;have BV:Below w6.heap.size w6 V:=(by rw[hV];exact zar _ _);have CV:=zaa CJ2 BV;have BB:=zaa b1 CV;have HV:=Aq hV;clear hV z0 z1 z2 z3 zf;obtain⟨z0,z1,z2,z3,zf,zl⟩:=PX.later (zaa b1 CJ2);go_wp2_with fail;rw[<-HV.out];refine(zie h HO.out a0 A1 n1 c1 A2 n2 c2 A3 n3 c3 i (tSS.later q1 BB) (tNS.later q2 BB) (tS.later q3 BB) hi 5 v 0 A7 l.length c7).mono ?_;rintro e wz ⟨A1',n1',c1',A2',n2',c2',A3',n3',c3',rfl,RK,bz⟩;obtain⟨U,hU,Z2,ZU,BU,sU,chU⟩:=FIN.out (.int .i64 a0) (.slice A1' n1' c1') (.slice A2' n2' c2') (.slice A3' n3' c3') wz (zaa BB bz);have HU:=Aq hU
   have PR:=Aq (show ∀T,Chg (fun b=>b<w.heap.size) U T->PRd A1' n1' c1' A2' n2' c2' A3' n3' c3' tb (p.1.set i (5,v,0,l),p.2) T from fun T hT=>by
    have s1:=(BB).size;have cT:Chg (fun b=>b<V.heap.size) wz T:=(chU.wide (fun b (hb:b=_)=>by omega)).trans (hT.wide (fun b (hb:b<_)=>by omega));exact RK T l cT (HX.out T ((Chg.of_below (zaa BV bz) _).trans ((chU.wide (fun b (hb:b=_)=>by have:=(BO).size;omega)).trans (hT.wide (fun b (hb:b<_)=>by have:=(BO).size;omega))))))
   obtain⟨q0,q1_,q2_,q3_,qf,ql⟩:=Z2;obtain⟨d0,d1,d2,d3,df,dl⟩:=ZU;have f0:=df 0;have f1:=df 1;have f2:=df 2;have f3:=df 3;have r0:=qf 0;have r1:=qf 1;have r2:=qf 2;have r3:=qf 3;clear hU RK sU chU;go_wp2_with fail;rw[<-HU.out];refine Cy (v:=.tuple #[.int .i64 5,.agg #[.int .i64 a0,.slice A1' n1' c1',.slice A2' n2' c2',.slice A3' n3' c3']]) (by simp[results,Tryz.results151,go_sem,d0,d1,d2,d3,f0,f1,f2,f3]) rfl ?_;exact⟨.inr ⟨by rw[RU.out];decide,A1',n1',c1',A2',n2',c2',A3',n3',c3',by rw[RU.out],by rw[RU.out,AP.out];exact PR.out⟩,BU⟩
  have HG:=Aq hj;have CJ2:=zaa CV bj;clear hj BV CV HV;obtain⟨V,hV⟩:∃V,V=w6.alloc (.cells #[.int .i64 y0,.int .i64 y1,.int .i64 y2,.slice Ay ny cy] 169):=⟨_,rfl⟩;have BV:Below w6.heap.size w6 V:=by rw[hV];exact zar _ _
  have CV:=zaa CJ2 BV;have BB:=zaa b1 CV;have HV:=Aq hV;clear hV z0 z1 z2 z3 zf;obtain⟨z0,z1,z2,z3,zf,zl⟩:=PX.later (zaa b1 CJ2);have CJ:=Aq (zvh h a0 A1 n1 c1 A2 n2 c2 A3 n3 c3 i (sl_R.1 (tNS.later q2 BB)) hi);have BO:=BB;go_wp2_with fail;rw[<-HV.out];refine CJ.out.mono ?_;rintro e w7 ⟨⟨hj,v,A7,c7,l,hN,rfl,HX⟩|⟨hj,y0,y1,y2,Ay,ny,cy,rfl⟩,bj⟩
  ·have RU:=Aq (zv0 HN.out HC.out HZ.out (by rw[HS.out];omega) HF.out HG.out hj);have AP:=Aq (show zbz nd tb p i 6=(p.1.set i (6,v,0,l),p.2)by rw[zv8,hN]);have HX:=Aq HX;have CJ2:=zaa CV bj;clear hj hN BV CV HV;obtain⟨V,hV⟩:∃V,V=w7.alloc (.cells #[.int .i64 6,.int .i64 v,.int .i64 0,.slice A7 l.length c7] 169):=⟨_,rfl⟩;have BV:Below w7.heap.size w7 V:=(by rw[hV];exact zar _ _);have CV:=zaa CJ2 BV;have BB:=zaa b1 CV;have HV:=Aq hV;clear hV z0 z1 z2 z3 zf;obtain⟨z0,z1,z2,z3,zf,zl⟩:=PX.later (zaa b1 CJ2);go_wp2_with fail;rw[<-HV.out];refine(zie h HO.out a0 A1 n1 c1 A2 n2 c2 A3 n3 c3 i (tSS.later q1 BB) (tNS.later q2 BB) (tS.later q3 BB) hi 6 v 0 A7 l.length c7).mono ?_;rintro e wz ⟨A1',n1',c1',A2',n2',c2',A3',n3',c3',rfl,RK,bz⟩;obtain⟨U,hU,Z2,ZU,BU,sU,chU⟩:=FIN.out (.int .i64 a0) (.slice A1' n1' c1') (.slice A2' n2' c2') (.slice A3' n3' c3') wz (zaa BB bz);have HU:=Aq hU
   have PR:=Aq (show ∀T,Chg (fun b=>b<w.heap.size) U T->PRd A1' n1' c1' A2' n2' c2' A3' n3' c3' tb (p.1.set i (6,v,0,l),p.2) T from fun T hT=>by
    have s1:=(BB).size;have cT:Chg (fun b=>b<V.heap.size) wz T:=(chU.wide (fun b (hb:b=_)=>by omega)).trans (hT.wide (fun b (hb:b<_)=>by omega));exact RK T l cT (HX.out T ((Chg.of_below (zaa BV bz) _).trans ((chU.wide (fun b (hb:b=_)=>by have:=(BO).size;omega)).trans (hT.wide (fun b (hb:b<_)=>by have:=(BO).size;omega))))))
   obtain⟨q0,q1_,q2_,q3_,qf,ql⟩:=Z2;obtain⟨d0,d1,d2,d3,df,dl⟩:=ZU;have f0:=df 0;have f1:=df 1;have f2:=df 2;have f3:=df 3;have r0:=qf 0;have r1:=qf 1;have r2:=qf 2;have r3:=qf 3;clear hU RK sU chU;go_wp2_with fail;rw[<-HU.out];refine Cy (v:=.tuple #[.int .i64 6,.agg #[.int .i64 a0,.slice A1' n1' c1',.slice A2' n2' c2',.slice A3' n3' c3']]) (by simp[results,Tryz.results151,go_sem,d0,d1,d2,d3,f0,f1,f2,f3]) rfl ?_;exact⟨.inr ⟨by rw[RU.out];decide,A1',n1',c1',A2',n2',c2',A3',n3',c3',by rw[RU.out],by rw[RU.out,AP.out];exact PR.out⟩,BU⟩
  have HD:=Aq hj;have CJ2:=zaa CV bj;clear hj BV CV HV;obtain⟨V,hV⟩:∃V,V=w7.alloc (.cells #[.int .i64 y0,.int .i64 y1,.int .i64 y2,.slice Ay ny cy] 169):=⟨_,rfl⟩;have BV:Below w7.heap.size w7 V:=by rw[hV];exact zar _ _
  have CV:=zaa CJ2 BV;have BB:=zaa b1 CV;have HV:=Aq hV;clear hV z0 z1 z2 z3 zf;obtain⟨z0,z1,z2,z3,zf,zl⟩:=PX.later (zaa b1 CJ2);have CW:=Aq (zvs h a0 A1 n1 c1 A2 n2 c2 A3 n3 c3 i nd (some ⟨bm,om,none⟩) cm (sl_R.1 (tNS.later q2 BB)) (rm.later CV) hi);obtain⟨s7,hs7⟩:∃s,ze9 nd p.1 i=s:=⟨_,rfl⟩;rw[hs7]at CW;have HS7:=Aq hs7;clear hs7;go_wp2_with fail;rw[<-HV.out];refine CW.out.mono ?_;rintro e w8 ⟨rfl,b8⟩;have C8:=zaa CV b8;have B8:=zaa b1 C8;clear z0 z1 z2 z3 zf;obtain⟨z0,z1,z2,z3,zf,zl⟩:=PX.later B8;have R7:=Aq (zv1 HN.out HC.out HZ.out (by rw[HS.out];omega) HF.out HG.out HD.out)
  by_cases h7:0<=s7
  ·have RU:=Aq (show zbb nd p.1 i=7/\((zcq nd p.1 i).getD 0:Nat)=s7 by
    rcases zo1 (nd:=nd) (ns:=p.1) (i:=i)with⟨t1,t2,t3⟩|⟨t1,t2⟩
    ·exact⟨by rw[R7.out,if_pos t1],by rw[<-t3,HS7.out]⟩
    rw[HS7.out]at t2;omega)
   have AP:=Aq (show zbz nd tb p i 7=za5 i s7 p by rw[zv9,RU.out.2]);go_wp2_with fail;refine(zox h HO.out a0 A1 n1 c1 A2 n2 c2 A3 n3 c3 i s7 (tSS.later q1 B8) (tNS.later q2 B8) (tS.later q3 B8)).mono ?_;rintro e wz ⟨A1',n1',c1',A2',n2',c2',A3',n3',c3',rfl,RK,bz⟩;obtain⟨U,hU,Z2,ZU,BU,sU,chU⟩:=FIN.out (.int .i64 a0) (.slice A1' n1' c1') (.slice A2' n2' c2') (.slice A3' n3' c3') wz (zaa B8 bz);have HU:=Aq hU
   have PR:=Aq (show ∀T,Chg (fun b=>b<w.heap.size) U T->PRd A1' n1' c1' A2' n2' c2' A3' n3' c3' tb (za5 i s7 p) T from fun T hT=>by
    have s1:=(B8).size;exact RK T ((chU.wide (fun b (hb:b=_)=>by omega)).trans (hT.wide (fun b (hb:b<_)=>by omega))))
   obtain⟨q0,q1_,q2_,q3_,qf,ql⟩:=Z2;obtain⟨d0,d1,d2,d3,df,dl⟩:=ZU;have f0:=df 0;have f1:=df 1;have f2:=df 2;have f3:=df 3;have r0:=qf 0;have r1:=qf 1;have r2:=qf 2;have r3:=qf 3;clear hU RK sU chU;go_wp2_with fail;rw[<-HU.out];refine Cy (v:=.tuple #[.int .i64 7,.agg #[.int .i64 a0,.slice A1' n1' c1',.slice A2' n2' c2',.slice A3' n3' c3']]) (by simp[results,Tryz.results151,go_sem,d0,d1,d2,d3,f0,f1,f2,f3]) rfl ?_;exact⟨.inr ⟨by rw[RU.out.1];decide,A1',n1',c1',A2',n2',c2',A3',n3',c3',by rw[RU.out.1],by rw[RU.out.1,AP.out];exact PR.out⟩,BU⟩
  have RU:=Aq (show zbb nd p.1 i=0 by
   rcases zo1 (nd:=nd) (ns:=p.1) (i:=i)with⟨t1,t2,t3⟩|⟨t1,t2⟩
   ·rw[HS7.out]at t2;exact absurd t2 h7
   rw[R7.out,t1];rfl)
  obtain⟨U,hU,Z2,ZU,BU,-,-⟩:=FIN.out (.int .i64 a0) (.slice A1 n1 c1) (.slice A2 n2 c2) (.slice A3 n3 c3) w8 B8;have HU:=Aq hU;obtain⟨q0,q1_,q2_,q3_,qf,ql⟩:=Z2;obtain⟨d0,d1,d2,d3,df,dl⟩:=ZU.drew;have f0:=df 0;have f1:=df 1;have f2:=df 2;have f3:=df 3;have r0:=qf 0;have r1:=qf 1;have r2:=qf 2;have r3:=qf 3;clear hU;go_wp2_with fail;go_region;rw[<-HU.out];go_wp2_with fail;refine Cy (v:=.tuple #[.int .i64 0,.agg #[.int .i64 a0,.slice A1 n1 c1,.slice A2 n2 c2,.slice A3 n3 c3]]) (by simp[results,Tryz.results151,go_sem,d0,d1,d2,d3,f0,f1,f2,f3]) rfl ?_;exact⟨.inl ⟨RU.out,rfl⟩,zad BU 1⟩
 rw[hz]at CZ;have RU:=Aq (zvw HN.out HC.out hz);clear hz;refine CZ.out.mono ?_;rintro e w3 ⟨rfl,b3⟩;have B4:=zaa BB b3;have PB:=PX.later B4;have gy0:=Ag PB.c0;have gy1:=Ag PB.c1;have gy2:=Ag PB.c2;have gy3:=Ag PB.c3;have D4:Below w3.heap.size w3 w3.drew:=zad (Aw _ _) 1;clear z0 z1 z2 z3 zf;go_wp2_with fail
 (refine zct [1] [0] 2 (.one 2 (.one 3 .rest)) [4] [4,5] (by kernel_rfl) (by kernel_rfl) ?_;simp only[zak];simp only[List.filterMap,By,Bg];(repeat (go_big_quiet_step (fail)));refine Cv ?_;(repeat (go_big_quiet_step (fail)));refine Cv ?_)
 refine zai rfl ?_;go_wp2_with fail;refine(zon _ _).mono ?_;rintro e w4 ⟨A7,c7,rfl,rz,b4⟩;have Bd4:=zaa D4 b4;have B5:=zaa B4 Bd4;have HCAP:=Aq (tS_R.1 rz).cap;clear rz gy0 gy1 gy2 gy3;go_wp2_with fail;refine⟨Bz Bd4,zai rfl ?_⟩;go_wp2_with fail;refine(zie h HO.out a0 A1 n1 c1 A2 n2 c2 A3 n3 c3 i (tSS.later q1 B5) (tNS.later q2 B5) (tS.later q3 B5) hi 2 0 0 A7 0 c7).mono ?_;rintro e wz ⟨A1',n1',c1',A2',n2',c2',A3',n3',c3',rfl,RK,bz⟩;obtain⟨U,hU,Z2,ZU,BU,sU,chU⟩:=FIN.out (.int .i64 a0) (.slice A1' n1' c1') (.slice A2' n2' c2') (.slice A3' n3' c3') wz (zaa B5 bz);have HU:=Aq hU
 have PR:=Aq (show ∀T,Chg (fun b=>b<w.heap.size) U T->PRd A1' n1' c1' A2' n2' c2' A3' n3' c3' tb (p.1.set i (2,0,0,[]),p.2) T from fun T hT=>by
  have s1:=(B5).size;have cT:Chg (fun b=>b<w4.heap.size) wz T:=(chU.wide (fun b (hb:b=_)=>by omega)).trans (hT.wide (fun b (hb:b<_)=>by omega));exact RK T [] cT (tS_R.2 (RS.of_ri (RI.nil _ _ _) HCAP.out.2.1 HCAP.out.2.2)))
 obtain⟨q0,q1_,q2_,q3_,qf,ql⟩:=Z2;obtain⟨d0,d1,d2,d3,df,dl⟩:=ZU;have f0:=df 0;have f1:=df 1;have f2:=df 2;have f3:=df 3;have r0:=qf 0;have r1:=qf 1;have r2:=qf 2;have r3:=qf 3;clear hU RK sU chU;go_wp2_with fail;refine⟨Bz (zaa Bd4 bz),zbc ?_⟩;go_wp2_with fail;rw[<-HU.out];refine Cy (v:=.tuple #[.int .i64 2,.agg #[.int .i64 a0,.slice A1' n1' c1',.slice A2' n2' c2',.slice A3' n3' c3']]) (by simp[results,Tryz.results151,go_sem,d0,d1,d2,d3,f0,f1,f2,f3]) rfl ?_;exact⟨.inr ⟨by rw[RU.out];decide,A1',n1',c1',A2',n2',c2',A3',n3',c3',by rw[RU.out],by rw[RU.out,zv4];exact PR.out⟩,BU⟩
end
end
end Go.Proofs.YtifeldeikhmckaaGreat
