import Derived.Test.YtifeldeikhmckaaGreatFnExactOptimizeSessionG30
import Derived.Deep.DeepCutAuto
set_option linter.unusedVariables false
set_option linter.unusedSimpArgs false
set_option maxRecDepth 100000
set_option maxHeartbeats 4000000
namespace Go.Proofs.YtifeldeikhmckaaGreat
open Go.RowKit Go.Sort
section
theorem zm7{w W:Yw}{g:Nat}(B0:Below w.heap.size w W)(hg:w.heap.size<=g)(hW:g<W.heap.size)(ZX:BX W g (.int .i64 0) (.int .i64 0) (.int .i64 0) (.slice none 0 0))(v0 v1 v2 v3:Value)(w2:Yw)(Bw2:Below W.heap.size W w2):∃U,U=(((w2.setCell ⟨g,0,none⟩ v0).setCell ⟨g,1,none⟩ v1).setCell ⟨g,2,none⟩ v2).setCell ⟨g,3,none⟩ v3/\BX w2 g (.int .i64 0) (.int .i64 0) (.int .i64 0) (.slice none 0 0)/\BX U g v0 v1 v2 v3/\Below w.heap.size w U/\U.heap.size=w2.heap.size/\Chg (fun b=>b=g) w2 U:=by
 have Z2:=ZX.later Bw2;obtain⟨U,hU,ZU,chU,sU⟩:=Z2.set v0 v1 v2 v3;have s2:=Bw2.size;have s0:=B0.size;exact⟨U,hU,Z2,ZU,(B0.trans (Bw2.mono (by omega))).trans (chU.toBelow (fun b (hb:b=_)=>by omega) (by omega)),sU,chU⟩
section
variable {tb:List (List Int)} {p:NO} {R:Nat->Nat} {w:Yw}
theorem zum(h:M.WP tb p R)(a0:Int)(A1:Yo)(n1 c1:Nat)(A2:Yo)(n2 c2:Nat)(A3:Yo)(n3 c3:Nat)(i:Nat)(hr:RS tN w w.heap.size (.slice A2 n2 c2) p.1)(hi:i<n2):
 Calls Tryz.prog 206 #[.agg #[.int .i64 a0,.slice A1 n1 c1,.slice A2 n2 c2,.slice A3 n3 c3],.int .i64 i,.int .i64 5] w fun e w'=>((zb4 p.1 (zab p.1 i)=true/\∃(v:Int) (A':Yo) (c':Nat) (l:List Int),zeb p.1 (zab p.1 i)=(5,v,0,l)/\e=.returned (.tuple #[.agg #[.int .i64 5,.int .i64 v,.int .i64 0,.slice A' l.length c'],.bool true])/\∀T,Chg (fun b=>b<w.heap.size) w' T->tS.R T T.heap.size [.slice A' l.length c'] l)\/
  (zb4 p.1 (zab p.1 i)=false/\∃(z0 z1 z2:Int) (Az:Yo) (nz cz:Nat),e=.returned (.tuple #[.agg #[.int .i64 z0,.int .i64 z1,.int .i64 z2,.slice Az nz cz],.bool false])))/\Below w.heap.size w w':=by
 have hl:=hr.cap.1;have hlen:=h.len;have RF:=zmo;obtain⟨bb,o,k,a,b,A4,c4,fs,hA,hb,X,e0,e1,e2,e3,hr3,hl3⟩:=zbg h hr hi;obtain⟨W,hW,B0,sW,PX,ZX,NX⟩:=zgw w (.int .i64 a0) (.slice A1 n1 c1) (.slice A2 n2 c2) (.slice A3 n3 c3) (.int .i64 0) (.int .i64 0) (.int .i64 0) (.slice none 0 0) (.int .i64 k) (.int .i64 a) (.int .i64 b) (.slice A4 fs.length c4) 67 169 169;have HW:=Lib.hid hW;have hok:=(h.node (i:=i) (by omega)).2;have hrk:=h.rlt (i:=i) (by omega);rw[X.out]at hok hrk ⊢;have hi2:(i:Int)<(n2:Int):=by omega
 have hn2:n2<=24:=by omega
 have hrW:=hr.later B0;have lW:w.heap.size+1+1<W.heap.size:=by omega
 have hfl:=zc6 hok;have hna:=zes hok;have HL:=Lib.hid hl;clear hW sW hok;have FIN:=Lib.hid (zm7 (g:=w.heap.size+1) B0 (by omega) (by omega) ZX)
 by_cases hk:k=5
 ·subst hk;have hl1:fs.length=1:=hfl (by decide);obtain⟨fx,rfl⟩:=len1 hl1;obtain⟨f,g1,g2,g3,g4⟩:=h.inpt (j:=0) (by omega) X.out (by simp);obtain rfl:fx=(f:Int):=by simpa using g1
  have hfn:f<n2:=by omega
  generalize hy:zab p.1 f=y at *;obtain⟨y0,y1,y2,y3⟩:=y;obtain⟨A5,c5,ri5,hl5,CX⟩:=zef h hrW hi X (j:=0) (by simp) (Lib.hid g3) (Lib.hid hy) a0 A1 n1 c1 A3 n3 c3;have CX:=Lib.hid CX;have hoky:=(h.node (i:=f) (by omega)).2;rw[hy]at hoky;have HOKY:=Lib.hid hoky;have hfk:zab p.1 (M.fk (5,a,b,[(f:Int)]) 0)=(y0,y1,y2,y3):=by rw[g3,hy]
  have HFK:=Lib.hid hfk;have HRK:=Lib.hid hrk;have HNA:=Lib.hid hna;have HI0:=Lib.hid (show M.i_ [(f:Int)] 0=(f:Int)from rfl);subst hA;obtain⟨bf,of_,rfl,hbf,hcf⟩:=zak hr3 (by simp);have v0:W.cell? ⟨bf,of_,none⟩=some (.int .i64 f):=(B0.cell (by exact hbf)).trans (hcf 0 _ rfl);have lbf:bf<W.heap.size:=by omega
  simp only[List.length_cons,List.length_nil,Nat.zero_add]at NX HW e3;clear hl1 hfl g1 g2 g3 g4 hcf hy hoky hfk hna hrk hl3 hr hr3
  by_cases hk2:y0=5
  ·subst hk2
   ·have hfi:f≠i:=fun e=>by
     have:=HRK.out (show ¬(5:Int)=6 by decide) (List.mem_cons_self ..);rw[Int.toNat_natCast,e]at this;omega
    have g:((f:Int) == (i:Int))=false:=(by simp;omega);clear hfi;have hb5:=HNA.out.1 rfl;have hb5y:=(zes HOKY.out).1 rfl;have hm:=M.wrap64_mul_bd a y1 hb5 hb5y;have hs:-9000000000<=a+y1/\a+y1<=9000000000:=(by omega);have FB:=Lib.hid (show zb4 p.1 (5,a,b,[(f:Int)])=true by rw[zb4,HFK.out];rfl);have FN:=Lib.hid (show zeb p.1 (5,a,b,[(f:Int)])=(5,wrap32 (a*y1),0,y3)by rw[zeb,HFK.out]);clear hb5 hb5y
    go_enter Tryz.func206,Tryz.ntmps206
    go_wp2_with fail;rw[<-HW.out];refine(CX.out W (Below.refl _ _)).mono ?_;rintro e w1 ⟨rfl,bel⟩;obtain⟨m0,m1,m2,m3,mf,ml⟩:=NX.later bel;have v1:=(bel.cell (by exact lbf)).trans v0;obtain⟨z0,z1,z2,z3,zf,zl⟩:=PX.later bel;go_wp2_with fail;refine(CX.out w1 bel).mono ?_;rintro e w2 ⟨rfl,bel2⟩;have B2:=zaa bel bel2;obtain⟨V,hV,BV,sV,o0,o1,o2,o3,of__⟩:=zdl w2 (.int .i64 5) (.int .i64 y1) (.int .i64 y2) (.slice A5 y3.length c5) 169;have HV:=Lib.hid hV;have B3:=zaa B2 BV;have N3:=NX.later B3;have lV:w2.heap.size<V.heap.size:=(by omega);clear hV sV m0 m1 m2 m3 mf v1 z0 z1 z2 z3 zf;obtain⟨m0,m1,m2,m3,mf,ml2⟩:=NX.later B2;have m1V:=N3.c1;have ri7:=ri5.later B3;go_wp2_with fail;rw[<-HV.out];refine(zf8 _ _).mono ?_;rintro e w' ⟨rfl,rfl⟩;clear HV m0 m1 m2 m3 mf;go_wp2_with fail;refine(zdu _ _ _ _ _ ri7 (by omega)).mono ?_;rintro e w4 ⟨v4,rfl,own4,bel4⟩;obtain⟨A9,c9,rfl,-⟩:=own4.shape;obtain⟨U,hU,Z2,ZU,BU,sU,chU⟩:=FIN.out (.int .i64 5) (.int .i64 (wrap32 (a*y1))) (.int .i64 0) (.slice A9 y3.length c9) w4 (zaa B3 bel4);have HU:=Lib.hid hU;have hR:=fun(T:Yw) (hT:Chg (fun b=>b<w.heap.size) U T)=>tS.read (tS.ochg (tS.ochg (tS_O.2 (OI.os own4)) chU (fun b hb (e:b=_)=>by have:=hb.1;have:=B3.size;omega)) hT (fun b hb (e:b<_)=>by have:=hb.1;have:=B3.size;omega))
    have HR:=Lib.hid hR;clear hR;obtain⟨q0,q1,q2,q3,qf,ql⟩:=Z2;obtain⟨d0,d1,d2,d3,df,dl⟩:=ZU;have f0:=df 0;have f1:=df 1;have f2:=df 2;have f3:=df 3;have r0:=qf 0;have r1:=qf 1;have r2:=qf 2;have r3:=qf 3;clear hU;go_wp2_with fail;rw[<-HU.out];refine bodyPost_ret (v:=.tuple #[.agg #[.int .i64 5,.int .i64 (wrap32 (a*y1)),.int .i64 0,.slice A9 y3.length c9],.bool true]) (by simp[results,Tryz.results206,go_sem,d0,d1,d2,d3,f0,f1,f2,f3]) rfl ?_;exact⟨.inl ⟨FB.out,_,A9,c9,y3,FN.out,rfl,HR.out⟩,BU⟩
  have FB:=Lib.hid (show zb4 p.1 (5,a,b,[(f:Int)])=false by rw[zb4,HFK.out];simp[hk2]);have g:(y0 == 5)=false:=by simpa using hk2
  have gn:(y0 != 5)=true:=by simpa using hk2
  clear hk2
  go_enter Tryz.func206,Tryz.ntmps206
  go_wp2_with fail;rw[<-HW.out];refine(CX.out W (Below.refl _ _)).mono ?_;rintro e w1 ⟨rfl,bel⟩;obtain⟨U,hU,Z2,ZU,BU,-,-⟩:=FIN.out (.int .i64 0) (.int .i64 0) (.int .i64 0) (.slice none 0 0) w1 bel;obtain⟨q0,q1,q2,q3,qf,ql⟩:=Z2;obtain⟨d0,d1,d2,d3,df,dl⟩:=ZU;have f0:=df 0;have f1:=df 1;have f2:=df 2;have f3:=df 3;have r0:=qf 0;have r1:=qf 1;have r2:=qf 2;have r3:=qf 3;go_wp2_with fail;rw[<-hU];refine bodyPost_ret (v:=.tuple #[.agg #[.int .i64 0,.int .i64 0,.int .i64 0,.slice none 0 0],.bool false]) (by simp[results,Tryz.results206,go_sem,d0,d1,d2,d3,f0,f1,f2,f3]) rfl ?_;exact⟨.inr ⟨FB.out,0,0,0,none,0,0,rfl⟩,BU⟩
 have FB:=Lib.hid (show zb4 p.1 (k,a,b,fs)=false by rw[zb4];simp[hk]);have g:(k == 5)=false:=by simpa using hk
 have gn:(k != 5)=true:=by simpa using hk
 obtain⟨d0,d1,d2,d3,df,dl⟩:=ZX;have f0:=df 0;have f1:=df 1;have f2:=df 2;have f3:=df 3;clear hfl hna hrk;subst hA
 go_enter Tryz.func206,Tryz.ntmps206
 go_wp2_with fail;rw[<-HW.out];refine bodyPost_ret (v:=.tuple #[.agg #[.int .i64 0,.int .i64 0,.int .i64 0,.slice none 0 0],.bool false]) (by simp[results,Tryz.results206,go_sem,d0,d1,d2,d3,f0,f1,f2,f3]) rfl ?_;exact⟨.inr ⟨FB.out,0,0,0,none,0,0,rfl⟩,B0⟩
theorem zun(h:M.WP tb p R)(a0:Int)(A1:Yo)(n1 c1:Nat)(A2:Yo)(n2 c2:Nat)(A3:Yo)(n3 c3:Nat)(i:Nat)(hr:RS tN w w.heap.size (.slice A2 n2 c2) p.1)(hi:i<n2):
 Calls Tryz.prog 206 #[.agg #[.int .i64 a0,.slice A1 n1 c1,.slice A2 n2 c2,.slice A3 n3 c3],.int .i64 i,.int .i64 6] w fun e w'=>((zbq p.1 i (zab p.1 i)=true/\∃(v:Int) (A':Yo) (c':Nat) (l:List Int),zec p.1 (zab p.1 i)=(6,v,0,l)/\e=.returned (.tuple #[.agg #[.int .i64 6,.int .i64 v,.int .i64 0,.slice A' l.length c'],.bool true])/\∀T,Chg (fun b=>b<w.heap.size) w' T->tS.R T T.heap.size [.slice A' l.length c'] l)\/
  (zbq p.1 i (zab p.1 i)=false/\∃(z0 z1 z2:Int) (Az:Yo) (nz cz:Nat),e=.returned (.tuple #[.agg #[.int .i64 z0,.int .i64 z1,.int .i64 z2,.slice Az nz cz],.bool false])))/\Below w.heap.size w w':=by
 have hl:=hr.cap.1;have hlen:=h.len;have RF:=zmo;obtain⟨bb,o,k,a,b,A4,c4,fs,hA,hb,X,e0,e1,e2,e3,hr3,hl3⟩:=zbg h hr hi;obtain⟨W,hW,B0,sW,PX,ZX,NX⟩:=zgw w (.int .i64 a0) (.slice A1 n1 c1) (.slice A2 n2 c2) (.slice A3 n3 c3) (.int .i64 0) (.int .i64 0) (.int .i64 0) (.slice none 0 0) (.int .i64 k) (.int .i64 a) (.int .i64 b) (.slice A4 fs.length c4) 67 169 169;have HW:=Lib.hid hW;have hok:=(h.node (i:=i) (by omega)).2;have hrk:=h.rlt (i:=i) (by omega);rw[X.out]at hok hrk ⊢;have hi2:(i:Int)<(n2:Int):=by omega
 have hn2:n2<=24:=by omega
 have hrW:=hr.later B0;have lW:w.heap.size+1+1<W.heap.size:=by omega
 have hfl:=zc6 hok;have hna:=zes hok;have HL:=Lib.hid hl;clear hW sW hok;have FIN:=Lib.hid (zm7 (g:=w.heap.size+1) B0 (by omega) (by omega) ZX)
 by_cases hk:k=6
 ·subst hk;have hl1:fs.length=1:=hfl (by decide);obtain⟨fx,rfl⟩:=len1 hl1;obtain⟨f,g1,g2,g3,g4⟩:=h.inpt (j:=0) (by omega) X.out (by simp);obtain rfl:fx=(f:Int):=by simpa using g1
  have hfn:f<n2:=by omega
  generalize hy:zab p.1 f=y at *;obtain⟨y0,y1,y2,y3⟩:=y;obtain⟨A5,c5,ri5,hl5,CX⟩:=zef h hrW hi X (j:=0) (by simp) (Lib.hid g3) (Lib.hid hy) a0 A1 n1 c1 A3 n3 c3;have CX:=Lib.hid CX;have hoky:=(h.node (i:=f) (by omega)).2;rw[hy]at hoky;have HOKY:=Lib.hid hoky;have hfk:zab p.1 (M.fk (6,a,b,[(f:Int)]) 0)=(y0,y1,y2,y3):=by rw[g3,hy]
  have HFK:=Lib.hid hfk;have HRK:=Lib.hid hrk;have HNA:=Lib.hid hna;have HI0:=Lib.hid (show M.i_ [(f:Int)] 0=(f:Int)from rfl);subst hA;obtain⟨bf,of_,rfl,hbf,hcf⟩:=zak hr3 (by simp);have v0:W.cell? ⟨bf,of_,none⟩=some (.int .i64 f):=(B0.cell (by exact hbf)).trans (hcf 0 _ rfl);have lbf:bf<W.heap.size:=by omega
  simp only[List.length_cons,List.length_nil,Nat.zero_add]at NX HW e3;clear hl1 hfl g1 g2 g3 g4 hcf hy hoky hfk hna hrk hl3 hr hr3
  by_cases hk2:y0=6
  ·subst hk2
   by_cases hfi:f=i
   ·have FB:=Lib.hid (show zbq p.1 i (6,a,b,[(f:Int)])=false by
     rw[zbq];simp[hfi,HI0.out,M.i_])
    have g:((f:Int) == (i:Int))=true:=(by simp[hfi]);clear hfi
    go_enter Tryz.func206,Tryz.ntmps206
    go_wp2_with fail;rw[<-HW.out];refine(CX.out W (Below.refl _ _)).mono ?_;rintro e w1 ⟨rfl,bel⟩;obtain⟨U,hU,Z2,ZU,BU,-,-⟩:=FIN.out (.int .i64 0) (.int .i64 0) (.int .i64 0) (.slice none 0 0) w1 bel;obtain⟨m0,m1,m2,m3,mf,ml⟩:=NX.later bel;have v1:=(bel.cell (by exact lbf)).trans v0;obtain⟨q0,q1,q2,q3,qf,ql⟩:=Z2;obtain⟨d0,d1,d2,d3,df,dl⟩:=ZU;have f0:=df 0;have f1:=df 1;have f2:=df 2;have f3:=df 3;have r0:=qf 0;have r1:=qf 1;have r2:=qf 2;have r3:=qf 3;go_wp2_with fail;rw[<-hU];refine bodyPost_ret (v:=.tuple #[.agg #[.int .i64 0,.int .i64 0,.int .i64 0,.slice none 0 0],.bool false]) (by simp[results,Tryz.results206,go_sem,d0,d1,d2,d3,f0,f1,f2,f3]) rfl ?_;exact⟨.inr ⟨FB.out,0,0,0,none,0,0,rfl⟩,BU⟩
   have g:((f:Int) == (i:Int))=false:=(by simp;omega);have HFI:=Lib.hid hfi;clear hfi;have hb6:=HNA.out;have h16:=(zdj (h.node (i:=i) (by have:=HL.out;omega)).2).2.1;rw[X.out]at h16;have h16:=h16 rfl;have h16y:=(zdj HOKY.out).2.1 rfl;simp only at h16 h16y
   have HB:=Lib.hid (show zbq p.1 i (6,a,b,[(f:Int)])=decide (a+y1<=16)by
    rw[zbq,HFK.out];have:=HFI.out;simp[HI0.out,M.i_];intro _;omega)
   have FN:=Lib.hid (show zec p.1 (6,a,b,[(f:Int)])=(6,a+y1,0,y3)by rw[zec,HFK.out]);have hs:-9000000000<=a+y1/\a+y1<=9000000000:=(by omega);clear hb6
   go_enter Tryz.func206,Tryz.ntmps206
   go_wp2_with fail;rw[<-HW.out];refine(CX.out W (Below.refl _ _)).mono ?_;rintro e w1 ⟨rfl,bel⟩;obtain⟨m0,m1,m2,m3,mf,ml⟩:=NX.later bel;have v1:=(bel.cell (by exact lbf)).trans v0;obtain⟨z0,z1,z2,z3,zf,zl⟩:=PX.later bel;go_wp2_with fail;refine(CX.out w1 bel).mono ?_;rintro e w2 ⟨rfl,bel2⟩;have B2:=zaa bel bel2;obtain⟨V,hV,BV,sV,o0,o1,o2,o3,of__⟩:=zdl w2 (.int .i64 6) (.int .i64 y1) (.int .i64 y2) (.slice A5 y3.length c5) 169;have HV:=Lib.hid hV;have B3:=zaa B2 BV;have N3:=NX.later B3;have lV:w2.heap.size<V.heap.size:=(by omega);clear hV sV m0 m1 m2 m3 mf v1 z0 z1 z2 z3 zf;obtain⟨m0,m1,m2,m3,mf,ml2⟩:=NX.later B2;have m1V:=N3.c1;have ri7:=ri5.later B3;go_wp2_with fail;rw[<-HV.out];clear HV m0 m1 m2 m3 mf;refine(zdu _ _ _ _ _ ri7 (by omega)).mono ?_;rintro e w4 ⟨v4,rfl,own4,bel4⟩;obtain⟨A9,c9,rfl,-⟩:=own4.shape;obtain⟨U,hU,Z2,ZU,BU,sU,chU⟩:=FIN.out (.int .i64 6) (.int .i64 (a+y1)) (.int .i64 0) (.slice A9 y3.length c9) w4 (zaa B3 bel4);have HU:=Lib.hid hU;have hR:=fun(T:Yw) (hT:Chg (fun b=>b<w.heap.size) U T)=>tS.read (tS.ochg (tS.ochg (tS_O.2 (OI.os own4)) chU (fun b hb (e:b=_)=>by have:=hb.1;have:=B3.size;omega)) hT (fun b hb (e:b<_)=>by have:=hb.1;have:=B3.size;omega))
   have HR:=Lib.hid hR;clear hR;obtain⟨q0,q1,q2,q3,qf,ql⟩:=Z2;obtain⟨d0,d1,d2,d3,df,dl⟩:=ZU;have f0:=df 0;have f1:=df 1;have f2:=df 2;have f3:=df 3;have r0:=qf 0;have r1:=qf 1;have r2:=qf 2;have r3:=qf 3;clear hU;go_wp2_with fail;rw[<-HU.out];refine bodyPost_ret (v:=.tuple #[.agg #[.int .i64 6,.int .i64 (a+y1),.int .i64 0,.slice A9 y3.length c9],.bool (decide (a+y1<=16))]) (by simp[results,Tryz.results206,go_sem,d0,d1,d2,d3,f0,f1,f2,f3]) rfl ?_
   by_cases hd:a+y1<=16
   ·exact⟨.inl ⟨by rw[HB.out];exact decide_eq_true hd,_,A9,c9,y3,FN.out,by rw[decide_eq_true hd],HR.out⟩,BU⟩
   exact⟨.inr ⟨by rw[HB.out];exact decide_eq_false hd,_,_,_,_,_,_,by rw[decide_eq_false hd]⟩,BU⟩
  have FB:=Lib.hid (show zbq p.1 i (6,a,b,[(f:Int)])=false by rw[zbq,HFK.out];simp[hk2]);have g:(y0 == 6)=false:=by simpa using hk2
  have gn:(y0 != 6)=true:=by simpa using hk2
  clear hk2
  go_enter Tryz.func206,Tryz.ntmps206
  go_wp2_with fail;rw[<-HW.out];refine(CX.out W (Below.refl _ _)).mono ?_;rintro e w1 ⟨rfl,bel⟩;obtain⟨U,hU,Z2,ZU,BU,-,-⟩:=FIN.out (.int .i64 0) (.int .i64 0) (.int .i64 0) (.slice none 0 0) w1 bel;obtain⟨q0,q1,q2,q3,qf,ql⟩:=Z2;obtain⟨d0,d1,d2,d3,df,dl⟩:=ZU;have f0:=df 0;have f1:=df 1;have f2:=df 2;have f3:=df 3;have r0:=qf 0;have r1:=qf 1;have r2:=qf 2;have r3:=qf 3;go_wp2_with fail;rw[<-hU];refine bodyPost_ret (v:=.tuple #[.agg #[.int .i64 0,.int .i64 0,.int .i64 0,.slice none 0 0],.bool false]) (by simp[results,Tryz.results206,go_sem,d0,d1,d2,d3,f0,f1,f2,f3]) rfl ?_;exact⟨.inr ⟨FB.out,0,0,0,none,0,0,rfl⟩,BU⟩
 have FB:=Lib.hid (show zbq p.1 i (k,a,b,fs)=false by rw[zbq];simp[hk]);have g:(k == 6)=false:=by simpa using hk
 have gn:(k != 6)=true:=by simpa using hk
 obtain⟨d0,d1,d2,d3,df,dl⟩:=ZX;have f0:=df 0;have f1:=df 1;have f2:=df 2;have f3:=df 3;clear hfl hna hrk;subst hA
 go_enter Tryz.func206,Tryz.ntmps206
 go_wp2_with fail;rw[<-HW.out];refine bodyPost_ret (v:=.tuple #[.agg #[.int .i64 0,.int .i64 0,.int .i64 0,.slice none 0 0],.bool false]) (by simp[results,Tryz.results206,go_sem,d0,d1,d2,d3,f0,f1,f2,f3]) rfl ?_;exact⟨.inr ⟨FB.out,0,0,0,none,0,0,rfl⟩,B0⟩
end
end
section
theorem OH.readset{α:Type}{t:Ty α}{e:TypeId}{w:Yw}{F:Nat->Prop}{v:Value}{xs:List α}{css:List (List Value)}{Fs:Nat->Nat->Prop}{k:Nat}(h:OH t e w F v xs css Fs k){cs:List Value}(hcs:css[k]?=some cs){y:α}(hy:t.R w w.heap.size cs y):RS t w w.heap.size v (xs.set k y):=by
 obtain⟨h1,h2,h3,h4,h5,h6,h7⟩:=h;obtain⟨A,c,rfl,hc,hm,hr⟩:=zek h1;refine⟨A,c,css,by rw[List.length_set],by rw[List.length_set];exact hc,hm,by rw[List.length_set];exact h2,by rw[List.length_set];exact hr,fun i hi hi'=>?_⟩
 by_cases hik:i=k
 ·subst hik;rw[List.getElem_set_self];rw[List.getElem?_eq_getElem hi',Option.some.injEq]at hcs;rw[hcs];exact hy
 rw[List.getElem_set_ne (fun e=>hik e.symm)];exact t.read (h7 i (by rw[List.length_set]at hi;exact hi) hi' hik)
theorem zjj{V:Yw}{F:Nat->Prop}{A:Yo}{n c:Nat}{ns:List Node}(O:OS tN 169 V F (.slice A n c) ns){i:Nat}(hi:i<n)(x0 x1 x2:Int)(A3:Yo)(m3 c3:Nat):
 ∃(g:Nat) (z0 z1 z2 z3:Value),A=some ⟨g,0,none⟩/\F g/\g<V.heap.size/\V.cell? ⟨g,i*4,none⟩=some z0/\V.cell? ⟨g,i*4+1,none⟩=some z1/\V.cell? ⟨g,i*4+2,none⟩=some z2/\V.cell? ⟨g,i*4+3,none⟩=some z3/\V.frozen? ⟨g,i*4,none⟩=false/\V.frozen? ⟨g,i*4+1,none⟩=false/\V.frozen? ⟨g,i*4+2,none⟩=false/\V.frozen? ⟨g,i*4+3,none⟩=false/\
  ∃T,T=(((V.setCell ⟨g,i*4,none⟩ (.int .i64 x0)).setCell ⟨g,i*4+1,none⟩ (.int .i64 x1)).setCell ⟨g,i*4+2,none⟩ (.int .i64 x2)).setCell ⟨g,i*4+3,none⟩ (.slice A3 m3 c3)/\Chg F V T/\T.heap.size=V.heap.size/\∀T' y3,Chg (fun b=>¬F b) T T'->tS.R T' T'.heap.size [.slice A3 m3 c3] y3->tNS.R T' T'.heap.size [.slice A n c] (ns.set i (x0,x1,x2,y3)):=by
 obtain rfl:ns.length=n:=O.read.cap.1;obtain⟨css,Fs,hole,cs,hcs,hE⟩:=O.real.openAt (List.getElem?_eq_getElem hi);generalize ns[i]=x at hE;obtain⟨k,a,b,l⟩:=x;obtain⟨A5,m5,c5,F5,rfl,-,-⟩:=tN_O.1 hE;obtain⟨g,rfl,hgF,hgn,hgl,-⟩:=hole.form hi;have k0:=hole.cell hcs (j:=0) rfl;have k1:=hole.cell hcs (j:=1) rfl;have k2:=hole.cell hcs (j:=2) rfl;have k3:=hole.cell hcs (j:=3) rfl;have s0:=hole.set hcs 0 (by decide) (.int .i64 x0);have s1:=s0.1.set s0.2 1 (by decide) (.int .i64 x1);have s2:=s1.1.set s1.2 2 (by decide) (.int .i64 x2);have s3:=s2.1.set s2.2 3 (by decide) (.slice A3 m3 c3);refine⟨g,_,_,_,_,rfl,hgF.1,hgl,k0.1,k1.1,k2.1,k3.1,k0.2,k1.2,k2.2,k3.2,_,rfl,(((Chg.set _ g _ _ hgF.1).trans (Chg.set _ g _ _ hgF.1)).trans (Chg.set _ g _ _ hgF.1)).trans (Chg.set _ g _ _ hgF.1),by simp,fun T' y3 hT hy=>?_⟩;have h3:=s3.1.keep (w':=T') (fun b hb=>hT.block b (by simpa using hb.2) (fun e=>e hb.1));exact sl_R.2 (h3.readset s3.2 (tN_R.2 ⟨A3,m3,c3,rfl,hy⟩))
def PRd (A1:Yo) (n1 c1:Nat) (A2:Yo) (n2 c2:Nat) (A3:Yo) (n3 c3:Nat) (tb:List (List Int)) (q:NO) (w:Yw):Prop:=tSS.R w w.heap.size [.slice A1 n1 c1] tb/\tNS.R w w.heap.size [.slice A2 n2 c2] q.1/\tS.R w w.heap.size [.slice A3 n3 c3] q.2
theorem BX.drew{w:Yw}{g:Nat}{z0 z1 z2 z3:Value}(h:BX w g z0 z1 z2 z3):BX w.drew g z0 z1 z2 z3:=⟨h.c0,h.c1,h.c2,h.c3,h.fr,h.lt⟩
theorem BX.chg{w w':Yw}{F:Nat->Prop}{g:Nat}{z0 z1 z2 z3:Value}(h:BX w g z0 z1 z2 z3)(hc:Chg F w w')(hn:¬F g):BX w' g z0 z1 z2 z3:=
 ⟨(hc.cell h.lt hn).trans h.c0,(hc.cell h.lt hn).trans h.c1,(hc.cell h.lt hn).trans h.c2,(hc.cell h.lt hn).trans h.c3,fun j=>(hc.frozen h.lt hn).trans (h.fr j),Nat.lt_of_lt_of_le h.lt hc.size⟩
theorem M.WP.szP{tb:List (List Int)}{p:NO}{R:Nat->Nat}(h:M.WP tb p R)(ho:p.2.length<=1000)(a0:Int):hP.sz ((a0,tb,p.1,p.2):zad)<=100000000:=by
 have h1:hNS.sz p.1<=100:=by
  have h1:=zht p.1 (fun x hx=>by
   obtain⟨i,hi⟩:=List.getElem?_of_mem hx;exact zfy (h.ok i x hi))
  have h2:=h.len;show p.1.length+hN.szL p.1<=_
  omega
 have h2:∀ts:List (List Int),(∀t∈ts,t.length<=16)->hS.szL ts<=16*ts.length:=by
  intro ts
  induction ts with
  | nil=>intro _;simp[Hs.szL]
  | cons t ts ih=>
   intro ht;have e1:=ht t (List.mem_cons_self ..);have e2:=ih (fun x hx=>ht x (List.mem_cons_of_mem _ hx));rw[Hs.szL,zbi,List.length_cons];omega
 have h3:=h2 tb (fun t ht=>by
  obtain⟨i,hi⟩:=List.getElem?_of_mem ht;exact(zft h.tabs hi).1.2)
 have h4:tb.length<=4:=by
  have:=h.tabs;rw[zbt,Bool.and_eq_true]at this;exact of_decide_eq_true this.2
 have h5:hSS.sz tb=tb.length+hS.szL tb:=rfl;rw[zco,zbi];omega
section
variable {tb:List (List Int)} {p:NO} {R:Nat->Nat} {w:Yw}
theorem zgx(h:M.WP tb p R)(ho:p.2.length<=1000)(a0:Int)(A1:Yo)(n1 c1:Nat)(A2:Yo)(n2 c2:Nat)(A3:Yo)(n3 c3:Nat)(i:Nat)(k1:tSS.R w w.heap.size [.slice A1 n1 c1] tb)(k2:tNS.R w w.heap.size [.slice A2 n2 c2] p.1)(k3:tS.R w w.heap.size [.slice A3 n3 c3] p.2)(hi:i<n2)(x0 x1 x2:Int)(Ax:Yo)(nx cx:Nat):
 Calls Tryz.prog 200 #[.agg #[.int .i64 a0,.slice A1 n1 c1,.slice A2 n2 c2,.slice A3 n3 c3],.int .i64 i,.agg #[.int .i64 x0,.int .i64 x1,.int .i64 x2,.slice Ax nx cx]] w fun e w'=>∃A1' n1' c1' A2' n2' c2' A3' n3' c3',e=.returned (.agg #[.int .i64 a0,.slice A1' n1' c1',.slice A2' n2' c2',.slice A3' n3' c3'])/\(∀T x3,Chg (fun b=>b<w.heap.size) w' T->tS.R T T.heap.size [.slice Ax nx cx] x3->PRd A1' n1' c1' A2' n2' c2' A3' n3' c3' tb (p.1.set i (x0,x1,x2,x3),p.2) T)/\Below w.heap.size w w':=by
 have hl:=(sl_R.1 k2).cap.1;obtain⟨W,hW,B0,sW,PX,NX,ZX⟩:=zgw w (.int .i64 a0) (.slice A1 n1 c1) (.slice A2 n2 c2) (.slice A3 n3 c3) (.int .i64 x0) (.int .i64 x1) (.int .i64 x2) (.slice Ax nx cx) (.int .i64 0) (.slice none 0 0) (.slice none 0 0) (.slice none 0 0) 67 169 67;have HW:=Lib.hid hW;have q1:=tSS.later k1 B0;have q2:=tNS.later k2 B0;have q3:=tS.later k3 B0;have lW:w.heap.size+1+1<W.heap.size:=by omega
 have hlen:=h.len;have hn2:n2<=24:=by omega
 have hi2:(i:Int)<(n2:Int):=by omega
 have HL:=Lib.hid hl;clear hW sW k1 k2 k3 hl;have CP:=Lib.hid (zjg a0 A1 n1 c1 A2 n2 c2 A3 n3 c3 tb p.1 p.2 W q1 q2 q3 (h.szP ho a0))
 go_enter Tryz.func200,Tryz.ntmps200
 go_wp2_with fail;rw[<-HW.out];refine CP.out.mono ?_;rintro e w1 ⟨A1',n1',c1',A2',n2',c2',A3',n3',c3',rfl,oz,bel⟩;obtain⟨_,_,_,_,_,_,_,_,_,F1,F2,F3,hcs,g1,g2,g3,z1,z2,z3,d12,d13,d23⟩:=tP_O.1 oz;simp only[List.cons.injEq,Value.slice.injEq,and_true,true_and]at hcs;obtain⟨⟨rfl,rfl,rfl⟩,⟨rfl,rfl,rfl⟩,⟨rfl,rfl,rfl⟩⟩:=hcs;obtain⟨V,hV⟩:∃V,V=w1.alloc (.cells #[.int .i64 a0,.slice A1' n1' c1',.slice A2' n2' c2',.slice A3' n3' c3'] 67):=⟨_,rfl⟩;have OX:BX V w1.heap.size (.int .i64 a0) (.slice A1' n1' c1') (.slice A2' n2' c2') (.slice A3' n3' c3'):=by rw[hV];exact BX.new _ _ _ _ _ _
 have BV:Below w1.heap.size w1 V:=by rw[hV];exact zaf _ _
 have sV:V.heap.size=w1.heap.size+1:=by rw[hV];simp
 have HV:=Lib.hid hV;have BWV:=zaa bel BV;have s1:=bel.size;replace g1:=tSS.ochg g1 (Chg.of_below BV (fun _=>False)) (fun _ _ h=>h);replace g2:=tNS.ochg g2 (Chg.of_below BV (fun _=>False)) (fun _ _ h=>h);replace g3:=tS.ochg g3 (Chg.of_below BV (fun _=>False)) (fun _ _ h=>h);have O2:=sl_O.1 g2;have hl2:=O2.read.cap.1;have hll:=HL.out;obtain⟨g,y0,y1,y2,y3,rfl,hgF,hgl,e0,e1,e2,e3,r0,r1,r2,r3,T,hT,chT,sT,RD⟩:=zjj O2 (show i<n2' by omega) x0 x1 x2 Ax nx cx;have hg2:=z2 g hgF;have hi3:(i:Int)<(n2':Int):=by omega
 have NV:=NX.later BWV;have ZV:=ZX.later BWV;have OT:=OX.chg chT (fun hf=>by have:=(z2 _ hf).2;omega);have ZT:=ZV.chg chT (fun hf=>by have:=(z2 _ hf).1;omega);obtain⟨U,hU,ZU,chU,sU⟩:=ZT.set (.int .i64 a0) (.slice A1' n1' c1') (.slice (some ⟨g,0,none⟩) n2' c2') (.slice A3' n3' c3');have BU:Below w.heap.size w U:=(B0.trans ((BWV.mono (by omega)).trans (chT.toBelow (fun b hb=>by have:=(z2 b hb).1;omega) (by omega)))).trans (chU.toBelow (fun b (hb:b=_)=>by omega) (by omega))
 have RK:∀T' x3,Chg (fun b=>b<w.heap.size) U T'->tS.R T' T'.heap.size [.slice Ax nx cx] x3->PRd A1' n1' c1' (some ⟨g,0,none⟩) n2' c2' A3' n3' c3' tb (p.1.set i (x0,x1,x2,x3),p.2) T':=fun T' x3 hT' hx=>by
  refine⟨tSS.read (tSS.ochg (tSS.ochg (tSS.ochg g1 chT (fun b hb=>d12 b hb)) chU (fun b hb (e:b=_)=>by have:=(z1 b hb).1;omega)) hT' (fun b hb (e:b<_)=>by have:=(z1 b hb).1;omega)),RD T' x3 ((chU.wide (fun b (hb:b=_) hf=>by have:=(z2 b hf).1;omega)).trans (hT'.wide (fun b (hb:b<_) hf=>by have:=(z2 b hf).1;omega))) hx,tS.read (tS.ochg (tS.ochg (tS.ochg g3 chT (fun b hb hf=>d23 b hf hb)) chU (fun b hb (e:b=_)=>by have:=(z3 b hb).1;omega)) hT' (fun b hb (e:b<_)=>by have:=(z3 b hb).1;omega))⟩
 have RK:=Lib.hid RK;have HT:=Lib.hid hT;have HU:=Lib.hid hU;obtain⟨v0,v1,v2,v3,vf,vl⟩:=OX;obtain⟨m0,m1,m2,m3,mf,ml⟩:=NV;clear g1 g2 g3 O2 hl2 hll RD hT hU hV sV sT sU oz chT chU ZV;go_upto_region 2 with fail
 rw[<-HV.out];go_upto_region 3 with fail
 rw[<-HT.out];obtain⟨o0,o1,o2,o3,of_,ol⟩:=OT;obtain⟨t0,t1,t2,t3,tf,tl⟩:=ZT;have u0:=tf 0;have u1:=tf 1;have u2:=tf 2;have u3:=tf 3;obtain⟨d0,d1,d2,d3,df,dl⟩:=ZU;have f0:=df 0;have f1:=df 1;have f2:=df 2;have f3:=df 3;clear m0 m1 m2 m3 mf v0 v1 v2 v3 vf e0 e1 e2 e3 r0 r1 r2 r3;go_wp2_with fail;rw[<-HU.out];refine bodyPost_ret (v:=.agg #[.int .i64 a0,.slice A1' n1' c1',.slice (some ⟨g,0,none⟩) n2' c2',.slice A3' n3' c3']) (by simp[results,Tryz.results200,go_sem,d0,d1,d2,d3,f0,f1,f2,f3]) rfl ?_;exact⟨_,_,_,_,_,_,_,_,_,rfl,RK.out,BU⟩
end
end
end Go.Proofs.YtifeldeikhmckaaGreat
