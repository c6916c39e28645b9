import Derived.Test.YtifeldeikhmckaaGreatFnExactOptimizeSessionG30
import Derived.Test.YtifeldeikhmckaaGreatFnExactOptimizeSessionG31
import Derived.Test.YtifeldeikhmckaaGreatFnExactOptimizeSessionG32
import Derived.Test.YtifeldeikhmckaaGreatFnExactOptimizeSessionG33
import Derived.RegionTactic
import Derived.ChangeAlike
import Derived.BigRegion
set_option linter.unusedVariables false
set_option linter.unusedSimpArgs false
set_option maxRecDepth 100000
set_option maxHeartbeats 4000000
namespace Go.Proofs.YtifeldeikhmckaaGreat
open Go.RowKit Go.Sort
section
theorem zei{nd:Nat->Bool}{ns:List Node}{i:Nat}:((zci nd ns i).isSome=true/\0<=zds nd ns i/\zds nd ns i=((zci nd ns i).getD 0:Nat))\/((zci nd ns i).isSome=false/\zds nd ns i = -1):=by
 unfold zds;cases zci nd ns i with
 | none=>exact .inr ⟨rfl,rfl⟩
 | some k=>exact .inl ⟨rfl,by simp,rfl⟩
section
variable {nd:Nat->Bool} {ns:List Node} {i:Nat}
theorem zgy(h:nd i=false):zav nd ns i=0:=by rw[zav,if_pos h]
theorem zff(h:nd i=true)(h1:zbj ns (zab ns i)=true):zav nd ns i=1:=by rw[zav,if_neg (by simp[h]),if_pos h1]
theorem zfg(h:nd i=true)(h1:zbj ns (zab ns i)=false)(h2:zbv ns (zab ns i)=true):zav nd ns i=2:=by rw[zav,if_neg (by simp[h]),if_neg (by simp[h1]),if_pos h2]
theorem zfh(h:nd i=true)(h1:zbj ns (zab ns i)=false)(h2:zbv ns (zab ns i)=false)(h3:0<=zbb ns (zab ns i)):zav nd ns i=3:=by rw[zav,if_neg (by simp[h]),if_neg (by simp[h1]),if_neg (by simp[h2]),if_pos h3]
theorem zhy(h:nd i=true)(h1:zbj ns (zab ns i)=false)(h2:zbv ns (zab ns i)=false)(h3:¬0<=zbb ns (zab ns i))(h4:zbw ns (zab ns i)=true):zav nd ns i=4:=by rw[zav,if_neg (by simp[h]),if_neg (by simp[h1]),if_neg (by simp[h2]),if_neg h3,if_pos h4]
theorem zjm(h:nd i=true)(h1:zbj ns (zab ns i)=false)(h2:zbv ns (zab ns i)=false)(h3:¬0<=zbb ns (zab ns i))(h4:zbw ns (zab ns i)=false)(h5:zb4 ns (zab ns i)=true):zav nd ns i=5:=by rw[zav,if_neg (by simp[h]),if_neg (by simp[h1]),if_neg (by simp[h2]),if_neg h3,if_neg (by simp[h4]),if_pos h5]
theorem zjn(h:nd i=true)(h1:zbj ns (zab ns i)=false)(h2:zbv ns (zab ns i)=false)(h3:¬0<=zbb ns (zab ns i))(h4:zbw ns (zab ns i)=false)(h5:zb4 ns (zab ns i)=false)(h6:zbq ns i (zab ns i)=true):zav nd ns i=6:=by rw[zav,if_neg (by simp[h]),if_neg (by simp[h1]),if_neg (by simp[h2]),if_neg h3,if_neg (by simp[h4]),if_neg (by simp[h5]),if_pos h6]
theorem zew(h:nd i=true)(h1:zbj ns (zab ns i)=false)(h2:zbv ns (zab ns i)=false)(h3:¬0<=zbb ns (zab ns i))(h4:zbw ns (zab ns i)=false)(h5:zb4 ns (zab ns i)=false)(h6:zbq ns i (zab ns i)=false):zav nd ns i=if (zci nd ns i).isSome then 7 else 0:=by rw[zav,if_neg (by simp[h]),if_neg (by simp[h1]),if_neg (by simp[h2]),if_neg h3,if_neg (by simp[h4]),if_neg (by simp[h5]),if_neg (by simp[h6])]
end
theorem zur{w W:Yw}{g:Nat}{y0 y1 y2 y3:Value}(B0:Below w.heap.size w W)(hg:w.heap.size<=g)(hW:g<W.heap.size)(ZX:BX W g y0 y1 y2 y3)(v0 v1 v2 v3:Value)(w2:Yw)(Bw2:Below W.heap.size W w2):∃U,U=(((w2.setCell ⟨g,0,none⟩ v0).setCell ⟨g,1,none⟩ v1).setCell ⟨g,2,none⟩ v2).setCell ⟨g,3,none⟩ v3/\BX w2 g y0 y1 y2 y3/\BX U g v0 v1 v2 v3/\Below w.heap.size w U/\U.heap.size=w2.heap.size/\Chg (fun b=>b=g) w2 U:=by
 have Z2:=ZX.later Bw2;obtain⟨U,hU,ZU,chU,sU⟩:=Z2.set v0 v1 v2 v3;have s2:=Bw2.size;have s0:=B0.size;exact⟨U,hU,Z2,ZU,(B0.trans (Bw2.mono (by omega))).trans (chU.toBelow (fun b (hb:b=_)=>by omega) (by omega)),sU,chU⟩
section
variable {nd:Nat->Bool} {tb:List (List Int)} {p:NO} {i:Nat}
theorem znl:zbs nd tb p i 1=(p.1.set i (2,zam (zab p.1 i) tb (zc7 p.1 (zab p.1 i)) [],0,[]),p.2):=by simp[zbs]
theorem znm:zbs nd tb p i 2=(p.1.set i (2,0,0,[]),p.2):=by simp[zbs]
theorem znn:zbs nd tb p i 3=za5 i (zbb p.1 (zab p.1 i)) p:=by simp[zbs]
theorem zno:zbs nd tb p i 4=(p.1.set i (zdp p.1 (zab p.1 i)),p.2):=by simp[zbs]
theorem znp:zbs nd tb p i 5=(p.1.set i (zeb p.1 (zab p.1 i)),p.2):=by simp[zbs]
theorem znq:zbs nd tb p i 6=(p.1.set i (zec p.1 (zab p.1 i)),p.2):=by simp[zbs]
theorem znr:zbs nd tb p i 7=za5 i (((zci nd p.1 i).getD 0:Nat):Int) p:=by simp[zbs]
end
section
variable {tb:List (List Int)} {p:NO} {R:Nat->Nat} {w:Yw} {nd:Nat->Bool}
theorem zus(h:M.WP tb p R)(ho:p.2.length<=1000)(hnd:∀j,nd j=true↔M.Rch p.1 p.2 j)(a0:Int)(A1:Yo)(n1 c1:Nat)(A2:Yo)(n2 c2:Nat)(A3:Yo)(n3 c3:Nat)(i:Nat)(k1:tSS.R w w.heap.size [.slice A1 n1 c1] tb)(k2:tNS.R w w.heap.size [.slice A2 n2 c2] p.1)(k3:tS.R w w.heap.size [.slice A3 n3 c3] p.2)(hi:i<n2):
 Calls Tryz.prog 151 #[.agg #[.int .i64 a0,.slice A1 n1 c1,.slice A2 n2 c2,.slice A3 n3 c3],.int .i64 i] w fun e w'=>((zav nd p.1 i=0/\e=.returned (.tuple #[.int .i64 0,.agg #[.int .i64 a0,.slice A1 n1 c1,.slice A2 n2 c2,.slice A3 n3 c3]]))\/
  (zav nd p.1 i≠0/\∃A1' n1' c1' A2' n2' c2' A3' n3' c3',e=.returned (.tuple #[.int .i64 (zav nd p.1 i),.agg #[.int .i64 a0,.slice A1' n1' c1',.slice A2' n2' c2',.slice A3' n3' c3']])/\∀T,Chg (fun b=>b<w.heap.size) w' T->PRd A1' n1' c1' A2' n2' c2' A3' n3' c3' tb (zbs nd tb p i (zav nd p.1 i)) T))/\Below w.heap.size w w':=by
 have hl:=(sl_R.1 k2).cap.1;have hlen:=h.len;have hn2:n2<=24:=by omega
 have hi2:(i:Int)<(n2:Int):=by omega
 obtain⟨W,hW,B0,sW,PX,ZX⟩:=zfz w (.int .i64 a0) (.slice A1 n1 c1) (.slice A2 n2 c2) (.slice A3 n3 c3) (.int .i64 0) (.slice none 0 0) (.slice none 0 0) (.slice none 0 0) 67 67;have HW:=Lib.hid hW;have lW:w.heap.size+1<W.heap.size:=by omega
 have q1:=tSS.later k1 B0;have q2:=tNS.later k2 B0;have q3:=tS.later k3 B0;have HL:=Lib.hid hl;have HO:=Lib.hid ho;have FIN:=Lib.hid (zur (g:=w.heap.size+1) B0 (by omega) (by omega) ZX);have CM:=Lib.hid (znk h ho hnd a0 A1 n1 c1 A2 n2 c2 A3 n3 c3 (sl_R.1 q2) q3);clear hW sW k1 k2 k3 hl hnd ho
 go_enter Tryz.func151,Tryz.ntmps151
 go_wp2_with fail;rw[<-HW.out];refine CM.out.mono ?_;rintro e w1 ⟨Am,cm,rfl,rm,b1,-⟩;obtain⟨bm,om,rfl,hbm,m0⟩:=zhx rm hi;obtain⟨z0,z1,z2,z3,zf,zl⟩:=PX.later b1;have hbmw:bm<w1.heap.size:=hbm;cases hn:nd i
 ·rw[hn]at m0;have RU:=Lib.hid (zgy (ns:=p.1) hn);clear hn;obtain⟨U,hU,Z2,ZU,BU,-,-⟩:=FIN.out (.int .i64 a0) (.slice A1 n1 c1) (.slice A2 n2 c2) (.slice A3 n3 c3) w1 b1;have HU:=Lib.hid hU;obtain⟨q0,q1_,q2_,q3_,qf,ql⟩:=Z2;obtain⟨d0,d1,d2,d3,df,dl⟩:=ZU.drew;have f0:=df 0;have f1:=df 1;have f2:=df 2;have f3:=df 3;have r0:=qf 0;have r1:=qf 1;have r2:=qf 2;have r3:=qf 3;clear hU;go_wp2_with fail;go_region;rw[<-HU.out];go_wp2_with fail;refine bodyPost_ret (v:=.tuple #[.int .i64 0,.agg #[.int .i64 a0,.slice A1 n1 c1,.slice A2 n2 c2,.slice A3 n3 c3]]) (by simp[results,Tryz.results151,go_sem,d0,d1,d2,d3,f0,f1,f2,f3]) rfl ?_;exact⟨.inl ⟨RU.out,rfl⟩,zae BU 1⟩
 rw[hn]at m0;have HN:=Lib.hid hn;clear hn;have CT:=Lib.hid (zuc h a0 A1 n1 c1 A2 n2 c2 A3 n3 c3 i (sl_R.1 (tSS.later q1 b1)) (sl_R.1 (tNS.later q2 b1)) hi);go_wp2_with fail;refine CT.out.mono ?_;rintro e w2 ⟨⟨hc,A7,c7,rfl,rz⟩|⟨hc,rfl⟩,b2⟩
 ·have RU:=Lib.hid (zff HN.out hc);have B2:=zaa b1 b2;obtain⟨vv,hvv⟩:∃vv,zam (zab p.1 i) tb (zc7 p.1 (zab p.1 i)) []=vv:=⟨_,rfl⟩;rw[hvv];have AP:=Lib.hid (show zbs nd tb p i 1=(p.1.set i (2,vv,0,[]),p.2)by rw[znl,hvv]);have hcap:=(tS_R.1 rz).cap;have HCAP:=Lib.hid hcap;clear hvv hc rz hcap;obtain⟨z0,z1,z2,z3,zf,zl⟩:=PX.later B2;obtain⟨V,hV⟩:∃V,V=w2.alloc (.cells #[.int .i64 2,.int .i64 vv,.int .i64 0,.slice A7 0 c7] 169):=⟨_,rfl⟩;have BV:Below w2.heap.size w2 V:=by rw[hV];exact zaf _ _
  have B3:=zaa B2 BV;have HV:=Lib.hid hV;clear hV;go_wp2_with fail;rw[<-HV.out];refine(zgx h HO.out a0 A1 n1 c1 A2 n2 c2 A3 n3 c3 i (tSS.later q1 B3) (tNS.later q2 B3) (tS.later q3 B3) hi 2 vv 0 A7 0 c7).mono ?_;rintro e wz ⟨A1',n1',c1',A2',n2',c2',A3',n3',c3',rfl,RK,bz⟩;obtain⟨U,hU,Z2,ZU,BU,sU,chU⟩:=FIN.out (.int .i64 a0) (.slice A1' n1' c1') (.slice A2' n2' c2') (.slice A3' n3' c3') wz (zaa B3 bz);have HU:=Lib.hid hU
  have PR:=Lib.hid (show ∀T,Chg (fun b=>b<w.heap.size) U T->PRd A1' n1' c1' A2' n2' c2' A3' n3' c3' tb (p.1.set i (2,vv,0,[]),p.2) T from fun T hT=>by
   have s1:=(B3).size;have cT:Chg (fun b=>b<V.heap.size) wz T:=(chU.wide (fun b (hb:b=_)=>by omega)).trans (hT.wide (fun b (hb:b<_)=>by omega));exact RK T [] cT (tS_R.2 (RS.of_ri (RI.nil _ _ _) HCAP.out.2.1 HCAP.out.2.2)))
  obtain⟨q0,q1_,q2_,q3_,qf,ql⟩:=Z2;obtain⟨d0,d1,d2,d3,df,dl⟩:=ZU;have f0:=df 0;have f1:=df 1;have f2:=df 2;have f3:=df 3;have r0:=qf 0;have r1:=qf 1;have r2:=qf 2;have r3:=qf 3;clear hU RK sU chU;go_wp2_with fail;rw[<-HU.out];refine bodyPost_ret (v:=.tuple #[.int .i64 1,.agg #[.int .i64 a0,.slice A1' n1' c1',.slice A2' n2' c2',.slice A3' n3' c3']]) (by simp[results,Tryz.results151,go_sem,d0,d1,d2,d3,f0,f1,f2,f3]) rfl ?_;exact⟨.inr ⟨by rw[RU.out];decide,A1',n1',c1',A2',n2',c2',A3',n3',c3',by rw[RU.out],by rw[RU.out,AP.out];exact PR.out⟩,BU⟩
 have HC:=Lib.hid hc;clear hc;obtain⟨V,hV⟩:∃V,V=w2.alloc (.cells #[.int .i64 0,.int .i64 0,.int .i64 0,.slice none 0 0] 169):=⟨_,rfl⟩;have BV:Below w2.heap.size w2 V:=by rw[hV];exact zaf _ _
 have CV:=zaa b2 BV;have BB:=zaa b1 CV;have HV:=Lib.hid hV;clear hV z0 z1 z2 z3 zf;obtain⟨z0,z1,z2,z3,zf,zl⟩:=PX.later (zaa b1 b2);have CZ:=Lib.hid (zt8 h a0 A1 n1 c1 A2 n2 c2 A3 n3 c3 i (sl_R.1 (tNS.later q2 BB)) hi);go_wp2_with fail;rw[<-HV.out];cases hz:zbv p.1 (zab p.1 i)
 ·rw[hz]at CZ;have HZ:=Lib.hid hz;clear hz;refine CZ.out.mono ?_;rintro e w3 ⟨rfl,b3⟩;have C3:=zaa CV b3;clear HV BV BB CV;have B3:=zaa b1 C3;clear z0 z1 z2 z3 zf;obtain⟨z0,z1,z2,z3,zf,zl⟩:=PX.later B3;have CR:=Lib.hid (zua h a0 A1 n1 c1 A2 n2 c2 A3 n3 c3 i (sl_R.1 (tNS.later q2 B3)) hi);obtain⟨s,hs⟩:∃s,zbb p.1 (zab p.1 i)=s:=⟨_,rfl⟩;rw[hs]at CR;have HS:=Lib.hid hs;clear hs;go_wp2_with fail;refine CR.out.mono ?_;rintro e w4 ⟨rfl,b4⟩;have C4:=zaa C3 b4;have B4:=zaa b1 C4;clear z0 z1 z2 z3 zf;obtain⟨z0,z1,z2,z3,zf,zl⟩:=PX.later B4
  by_cases h3:0<=s
  ·have RU:=Lib.hid (zfh HN.out HC.out HZ.out (by rw[HS.out];exact h3));have AP:=Lib.hid (show zbs nd tb p i 3=za5 i s p by rw[znn,HS.out]);go_wp2_with fail;refine(znf h HO.out a0 A1 n1 c1 A2 n2 c2 A3 n3 c3 i s (tSS.later q1 B4) (tNS.later q2 B4) (tS.later q3 B4)).mono ?_;rintro e wz ⟨A1',n1',c1',A2',n2',c2',A3',n3',c3',rfl,RK,bz⟩;obtain⟨U,hU,Z2,ZU,BU,sU,chU⟩:=FIN.out (.int .i64 a0) (.slice A1' n1' c1') (.slice A2' n2' c2') (.slice A3' n3' c3') wz (zaa B4 bz);have HU:=Lib.hid hU
   have PR:=Lib.hid (show ∀T,Chg (fun b=>b<w.heap.size) U T->PRd A1' n1' c1' A2' n2' c2' A3' n3' c3' tb (za5 i s p) T from fun T hT=>by
    have s1:=(B4).size;exact RK T ((chU.wide (fun b (hb:b=_)=>by omega)).trans (hT.wide (fun b (hb:b<_)=>by omega))))
   obtain⟨q0,q1_,q2_,q3_,qf,ql⟩:=Z2;obtain⟨d0,d1,d2,d3,df,dl⟩:=ZU;have f0:=df 0;have f1:=df 1;have f2:=df 2;have f3:=df 3;have r0:=qf 0;have r1:=qf 1;have r2:=qf 2;have r3:=qf 3;clear hU RK sU chU;go_wp2_with fail;rw[<-HU.out];refine bodyPost_ret (v:=.tuple #[.int .i64 3,.agg #[.int .i64 a0,.slice A1' n1' c1',.slice A2' n2' c2',.slice A3' n3' c3']]) (by simp[results,Tryz.results151,go_sem,d0,d1,d2,d3,f0,f1,f2,f3]) rfl ?_;exact⟨.inr ⟨by rw[RU.out];decide,A1',n1',c1',A2',n2',c2',A3',n3',c3',by rw[RU.out],by rw[RU.out,AP.out];exact PR.out⟩,BU⟩
  have CG:=Lib.hid (zul h a0 A1 n1 c1 A2 n2 c2 A3 n3 c3 i (sl_R.1 (tNS.later q2 B4)) hi);go_wp2_with fail;refine CG.out.mono ?_;rintro e w5 ⟨⟨hf,v,x,A7,c7,hN,rfl,HX⟩|⟨hf,rfl⟩,b5⟩
  ·have RU:=Lib.hid (zhy HN.out HC.out HZ.out (by rw[HS.out];omega) hf);have AP:=Lib.hid (show zbs nd tb p i 4=(p.1.set i (5,v,0,[x]),p.2)by rw[zno,hN]);have HX:=Lib.hid HX;have C5:=zaa C4 b5;clear hf hN;obtain⟨V,hV⟩:∃V,V=w5.alloc (.cells #[.int .i64 5,.int .i64 v,.int .i64 0,.slice A7 1 c7] 169):=⟨_,rfl⟩;have BV:Below w5.heap.size w5 V:=(by rw[hV];exact zaf _ _);have CV:=zaa C5 BV;have BB:=zaa b1 CV;have HV:=Lib.hid hV;clear hV z0 z1 z2 z3 zf;obtain⟨z0,z1,z2,z3,zf,zl⟩:=PX.later (zaa b1 C5);go_wp2_with fail;rw[<-HV.out];refine(zgx h HO.out a0 A1 n1 c1 A2 n2 c2 A3 n3 c3 i (tSS.later q1 BB) (tNS.later q2 BB) (tS.later q3 BB) hi 5 v 0 A7 1 c7).mono ?_;rintro e wz ⟨A1',n1',c1',A2',n2',c2',A3',n3',c3',rfl,RK,bz⟩;obtain⟨U,hU,Z2,ZU,BU,sU,chU⟩:=FIN.out (.int .i64 a0) (.slice A1' n1' c1') (.slice A2' n2' c2') (.slice A3' n3' c3') wz (zaa BB bz);have HU:=Lib.hid hU
   have PR:=Lib.hid (show ∀T,Chg (fun b=>b<w.heap.size) U T->PRd A1' n1' c1' A2' n2' c2' A3' n3' c3' tb (p.1.set i (5,v,0,[x]),p.2) T from fun T hT=>by
    have s1:=(BB).size;have cT:Chg (fun b=>b<V.heap.size) wz T:=(chU.wide (fun b (hb:b=_)=>by omega)).trans (hT.wide (fun b (hb:b<_)=>by omega));exact RK T [x] cT (HX.out T ((Chg.of_below (zaa BV bz) _).trans ((chU.wide (fun b (hb:b=_)=>by have:=(B4).size;omega)).trans (hT.wide (fun b (hb:b<_)=>by have:=(B4).size;omega))))))
   obtain⟨q0,q1_,q2_,q3_,qf,ql⟩:=Z2;obtain⟨d0,d1,d2,d3,df,dl⟩:=ZU;have f0:=df 0;have f1:=df 1;have f2:=df 2;have f3:=df 3;have r0:=qf 0;have r1:=qf 1;have r2:=qf 2;have r3:=qf 3;clear hU RK sU chU;go_wp2_with fail;rw[<-HU.out];refine bodyPost_ret (v:=.tuple #[.int .i64 4,.agg #[.int .i64 a0,.slice A1' n1' c1',.slice A2' n2' c2',.slice A3' n3' c3']]) (by simp[results,Tryz.results151,go_sem,d0,d1,d2,d3,f0,f1,f2,f3]) rfl ?_;exact⟨.inr ⟨by rw[RU.out];decide,A1',n1',c1',A2',n2',c2',A3',n3',c3',by rw[RU.out],by rw[RU.out,AP.out];exact PR.out⟩,BU⟩
  have HF:=Lib.hid hf;have C5:=zaa C4 b5;clear hf;obtain⟨V,hV⟩:∃V,V=w5.alloc (.cells #[.int .i64 0,.int .i64 0,.int .i64 0,.slice none 0 0] 169):=⟨_,rfl⟩;have BV:Below w5.heap.size w5 V:=by rw[hV];exact zaf _ _
  have CV:=zaa C5 BV;have BB:=zaa b1 CV;have HV:=Lib.hid hV;clear hV z0 z1 z2 z3 zf;obtain⟨z0,z1,z2,z3,zf,zl⟩:=PX.later (zaa b1 C5);have CJ:=Lib.hid (zum h a0 A1 n1 c1 A2 n2 c2 A3 n3 c3 i (sl_R.1 (tNS.later q2 BB)) hi);have BO:=BB;go_wp2_with fail;rw[<-HV.out];refine CJ.out.mono ?_;rintro e w6 ⟨⟨hj,v,A7,c7,l,hN,rfl,HX⟩|⟨hj,y0,y1,y2,Ay,ny,cy,rfl⟩,bj⟩
  ·have RU:=Lib.hid (zjm HN.out HC.out HZ.out (by rw[HS.out];omega) HF.out hj);have AP:=Lib.hid (show zbs nd tb p i 5=(p.1.set i (5,v,0,l),p.2)by rw[znp,hN]);have HX:=Lib.hid HX;have CJ2:=zaa CV bj;clear hj hN BV CV HV;obtain⟨V,hV⟩:∃V,V=w6.alloc (.cells #[.int .i64 5,.int .i64 v,.int .i64 0,.slice A7 l.length c7] 169):=⟨_,rfl⟩;have BV:Below w6.heap.size w6 V:=(by rw[hV];exact zaf _ _);have CV:=zaa CJ2 BV;have BB:=zaa b1 CV;have HV:=Lib.hid hV;clear hV z0 z1 z2 z3 zf;obtain⟨z0,z1,z2,z3,zf,zl⟩:=PX.later (zaa b1 CJ2);go_wp2_with fail;rw[<-HV.out];refine(zgx h HO.out a0 A1 n1 c1 A2 n2 c2 A3 n3 c3 i (tSS.later q1 BB) (tNS.later q2 BB) (tS.later q3 BB) hi 5 v 0 A7 l.length c7).mono ?_;rintro e wz ⟨A1',n1',c1',A2',n2',c2',A3',n3',c3',rfl,RK,bz⟩;obtain⟨U,hU,Z2,ZU,BU,sU,chU⟩:=FIN.out (.int .i64 a0) (.slice A1' n1' c1') (.slice A2' n2' c2') (.slice A3' n3' c3') wz (zaa BB bz);have HU:=Lib.hid hU
   have PR:=Lib.hid (show ∀T,Chg (fun b=>b<w.heap.size) U T->PRd A1' n1' c1' A2' n2' c2' A3' n3' c3' tb (p.1.set i (5,v,0,l),p.2) T from fun T hT=>by
    have s1:=(BB).size;have cT:Chg (fun b=>b<V.heap.size) wz T:=(chU.wide (fun b (hb:b=_)=>by omega)).trans (hT.wide (fun b (hb:b<_)=>by omega));exact RK T l cT (HX.out T ((Chg.of_below (zaa BV bz) _).trans ((chU.wide (fun b (hb:b=_)=>by have:=(BO).size;omega)).trans (hT.wide (fun b (hb:b<_)=>by have:=(BO).size;omega))))))
   obtain⟨q0,q1_,q2_,q3_,qf,ql⟩:=Z2;obtain⟨d0,d1,d2,d3,df,dl⟩:=ZU;have f0:=df 0;have f1:=df 1;have f2:=df 2;have f3:=df 3;have r0:=qf 0;have r1:=qf 1;have r2:=qf 2;have r3:=qf 3;clear hU RK sU chU;go_wp2_with fail;rw[<-HU.out];refine bodyPost_ret (v:=.tuple #[.int .i64 5,.agg #[.int .i64 a0,.slice A1' n1' c1',.slice A2' n2' c2',.slice A3' n3' c3']]) (by simp[results,Tryz.results151,go_sem,d0,d1,d2,d3,f0,f1,f2,f3]) rfl ?_;exact⟨.inr ⟨by rw[RU.out];decide,A1',n1',c1',A2',n2',c2',A3',n3',c3',by rw[RU.out],by rw[RU.out,AP.out];exact PR.out⟩,BU⟩
  have HG:=Lib.hid hj;have CJ2:=zaa CV bj;clear hj BV CV HV;obtain⟨V,hV⟩:∃V,V=w6.alloc (.cells #[.int .i64 y0,.int .i64 y1,.int .i64 y2,.slice Ay ny cy] 169):=⟨_,rfl⟩;have BV:Below w6.heap.size w6 V:=by rw[hV];exact zaf _ _
  have CV:=zaa CJ2 BV;have BB:=zaa b1 CV;have HV:=Lib.hid hV;clear hV z0 z1 z2 z3 zf;obtain⟨z0,z1,z2,z3,zf,zl⟩:=PX.later (zaa b1 CJ2);have CJ:=Lib.hid (zun h a0 A1 n1 c1 A2 n2 c2 A3 n3 c3 i (sl_R.1 (tNS.later q2 BB)) hi);have BO:=BB;go_wp2_with fail;rw[<-HV.out];refine CJ.out.mono ?_;rintro e w7 ⟨⟨hj,v,A7,c7,l,hN,rfl,HX⟩|⟨hj,y0,y1,y2,Ay,ny,cy,rfl⟩,bj⟩
  ·have RU:=Lib.hid (zjn HN.out HC.out HZ.out (by rw[HS.out];omega) HF.out HG.out hj);have AP:=Lib.hid (show zbs nd tb p i 6=(p.1.set i (6,v,0,l),p.2)by rw[znq,hN]);have HX:=Lib.hid HX;have CJ2:=zaa CV bj;clear hj hN BV CV HV;obtain⟨V,hV⟩:∃V,V=w7.alloc (.cells #[.int .i64 6,.int .i64 v,.int .i64 0,.slice A7 l.length c7] 169):=⟨_,rfl⟩;have BV:Below w7.heap.size w7 V:=(by rw[hV];exact zaf _ _);have CV:=zaa CJ2 BV;have BB:=zaa b1 CV;have HV:=Lib.hid hV;clear hV z0 z1 z2 z3 zf;obtain⟨z0,z1,z2,z3,zf,zl⟩:=PX.later (zaa b1 CJ2);go_wp2_with fail;rw[<-HV.out];refine(zgx h HO.out a0 A1 n1 c1 A2 n2 c2 A3 n3 c3 i (tSS.later q1 BB) (tNS.later q2 BB) (tS.later q3 BB) hi 6 v 0 A7 l.length c7).mono ?_;rintro e wz ⟨A1',n1',c1',A2',n2',c2',A3',n3',c3',rfl,RK,bz⟩;obtain⟨U,hU,Z2,ZU,BU,sU,chU⟩:=FIN.out (.int .i64 a0) (.slice A1' n1' c1') (.slice A2' n2' c2') (.slice A3' n3' c3') wz (zaa BB bz);have HU:=Lib.hid hU
   have PR:=Lib.hid (show ∀T,Chg (fun b=>b<w.heap.size) U T->PRd A1' n1' c1' A2' n2' c2' A3' n3' c3' tb (p.1.set i (6,v,0,l),p.2) T from fun T hT=>by
    have s1:=(BB).size;have cT:Chg (fun b=>b<V.heap.size) wz T:=(chU.wide (fun b (hb:b=_)=>by omega)).trans (hT.wide (fun b (hb:b<_)=>by omega));exact RK T l cT (HX.out T ((Chg.of_below (zaa BV bz) _).trans ((chU.wide (fun b (hb:b=_)=>by have:=(BO).size;omega)).trans (hT.wide (fun b (hb:b<_)=>by have:=(BO).size;omega))))))
   obtain⟨q0,q1_,q2_,q3_,qf,ql⟩:=Z2;obtain⟨d0,d1,d2,d3,df,dl⟩:=ZU;have f0:=df 0;have f1:=df 1;have f2:=df 2;have f3:=df 3;have r0:=qf 0;have r1:=qf 1;have r2:=qf 2;have r3:=qf 3;clear hU RK sU chU;go_wp2_with fail;rw[<-HU.out];refine bodyPost_ret (v:=.tuple #[.int .i64 6,.agg #[.int .i64 a0,.slice A1' n1' c1',.slice A2' n2' c2',.slice A3' n3' c3']]) (by simp[results,Tryz.results151,go_sem,d0,d1,d2,d3,f0,f1,f2,f3]) rfl ?_;exact⟨.inr ⟨by rw[RU.out];decide,A1',n1',c1',A2',n2',c2',A3',n3',c3',by rw[RU.out],by rw[RU.out,AP.out];exact PR.out⟩,BU⟩
  have HD:=Lib.hid hj;have CJ2:=zaa CV bj;clear hj BV CV HV;obtain⟨V,hV⟩:∃V,V=w7.alloc (.cells #[.int .i64 y0,.int .i64 y1,.int .i64 y2,.slice Ay ny cy] 169):=⟨_,rfl⟩;have BV:Below w7.heap.size w7 V:=by rw[hV];exact zaf _ _
  have CV:=zaa CJ2 BV;have BB:=zaa b1 CV;have HV:=Lib.hid hV;clear hV z0 z1 z2 z3 zf;obtain⟨z0,z1,z2,z3,zf,zl⟩:=PX.later (zaa b1 CJ2);have CW:=Lib.hid (zup h a0 A1 n1 c1 A2 n2 c2 A3 n3 c3 i nd (some ⟨bm,om,none⟩) cm (sl_R.1 (tNS.later q2 BB)) (rm.later CV) hi);obtain⟨s7,hs7⟩:∃s,zds nd p.1 i=s:=⟨_,rfl⟩;rw[hs7]at CW;have HS7:=Lib.hid hs7;clear hs7;go_wp2_with fail;rw[<-HV.out];refine CW.out.mono ?_;rintro e w8 ⟨rfl,b8⟩;have C8:=zaa CV b8;have B8:=zaa b1 C8;clear z0 z1 z2 z3 zf;obtain⟨z0,z1,z2,z3,zf,zl⟩:=PX.later B8;have R7:=Lib.hid (zew HN.out HC.out HZ.out (by rw[HS.out];omega) HF.out HG.out HD.out)
  by_cases h7:0<=s7
  ·have RU:=Lib.hid (show zav nd p.1 i=7/\((zci nd p.1 i).getD 0:Nat)=s7 by
    rcases zei (nd:=nd) (ns:=p.1) (i:=i)with⟨t1,t2,t3⟩|⟨t1,t2⟩
    ·exact⟨by rw[R7.out,if_pos t1],by rw[<-t3,HS7.out]⟩
    rw[HS7.out]at t2;omega)
   have AP:=Lib.hid (show zbs nd tb p i 7=za5 i s7 p by rw[znr,RU.out.2]);go_wp2_with fail;refine(znf h HO.out a0 A1 n1 c1 A2 n2 c2 A3 n3 c3 i s7 (tSS.later q1 B8) (tNS.later q2 B8) (tS.later q3 B8)).mono ?_;rintro e wz ⟨A1',n1',c1',A2',n2',c2',A3',n3',c3',rfl,RK,bz⟩;obtain⟨U,hU,Z2,ZU,BU,sU,chU⟩:=FIN.out (.int .i64 a0) (.slice A1' n1' c1') (.slice A2' n2' c2') (.slice A3' n3' c3') wz (zaa B8 bz);have HU:=Lib.hid hU
   have PR:=Lib.hid (show ∀T,Chg (fun b=>b<w.heap.size) U T->PRd A1' n1' c1' A2' n2' c2' A3' n3' c3' tb (za5 i s7 p) T from fun T hT=>by
    have s1:=(B8).size;exact RK T ((chU.wide (fun b (hb:b=_)=>by omega)).trans (hT.wide (fun b (hb:b<_)=>by omega))))
   obtain⟨q0,q1_,q2_,q3_,qf,ql⟩:=Z2;obtain⟨d0,d1,d2,d3,df,dl⟩:=ZU;have f0:=df 0;have f1:=df 1;have f2:=df 2;have f3:=df 3;have r0:=qf 0;have r1:=qf 1;have r2:=qf 2;have r3:=qf 3;clear hU RK sU chU;go_wp2_with fail;rw[<-HU.out];refine bodyPost_ret (v:=.tuple #[.int .i64 7,.agg #[.int .i64 a0,.slice A1' n1' c1',.slice A2' n2' c2',.slice A3' n3' c3']]) (by simp[results,Tryz.results151,go_sem,d0,d1,d2,d3,f0,f1,f2,f3]) rfl ?_;exact⟨.inr ⟨by rw[RU.out.1];decide,A1',n1',c1',A2',n2',c2',A3',n3',c3',by rw[RU.out.1],by rw[RU.out.1,AP.out];exact PR.out⟩,BU⟩
  have RU:=Lib.hid (show zav nd p.1 i=0 by
   rcases zei (nd:=nd) (ns:=p.1) (i:=i)with⟨t1,t2,t3⟩|⟨t1,t2⟩
   ·rw[HS7.out]at t2;exact absurd t2 h7
   rw[R7.out,t1];rfl)
  obtain⟨U,hU,Z2,ZU,BU,-,-⟩:=FIN.out (.int .i64 a0) (.slice A1 n1 c1) (.slice A2 n2 c2) (.slice A3 n3 c3) w8 B8;have HU:=Lib.hid hU;obtain⟨q0,q1_,q2_,q3_,qf,ql⟩:=Z2;obtain⟨d0,d1,d2,d3,df,dl⟩:=ZU.drew;have f0:=df 0;have f1:=df 1;have f2:=df 2;have f3:=df 3;have r0:=qf 0;have r1:=qf 1;have r2:=qf 2;have r3:=qf 3;clear hU;go_wp2_with fail;go_region;rw[<-HU.out];go_wp2_with fail;refine bodyPost_ret (v:=.tuple #[.int .i64 0,.agg #[.int .i64 a0,.slice A1 n1 c1,.slice A2 n2 c2,.slice A3 n3 c3]]) (by simp[results,Tryz.results151,go_sem,d0,d1,d2,d3,f0,f1,f2,f3]) rfl ?_;exact⟨.inl ⟨RU.out,rfl⟩,zae BU 1⟩
 rw[hz]at CZ;have RU:=Lib.hid (zfg HN.out HC.out hz);clear hz;refine CZ.out.mono ?_;rintro e w3 ⟨rfl,b3⟩;have B4:=zaa BB b3;have PB:=PX.later B4;have gy0:=cell_regrown PB.c0;have gy1:=cell_regrown PB.c1;have gy2:=cell_regrown PB.c2;have gy3:=cell_regrown PB.c3;have D4:Below w3.heap.size w3 w3.drew:=zae (Below.refl _ _) 1;clear z0 z1 z2 z3 zf;go_wp2_with fail
 (refine zf5 [1] [0] 2 (.one 2 (.one 3 .rest)) [4] [4,5] (by kernel_rfl) (by kernel_rfl) ?_;simp only[zar];simp only[List.filterMap,List.getElem?_cons_succ,List.getElem?_cons_zero];(repeat (go_big_quiet_step (fail)));refine wpQuiet_nil ?_;(repeat (go_big_quiet_step (fail)));refine wpQuiet_nil ?_)
 refine zdm rfl ?_;go_wp2_with fail;refine(zmr _ _).mono ?_;rintro e w4 ⟨A7,c7,rfl,rz,b4⟩;have Bd4:=zaa D4 b4;have B5:=zaa B4 Bd4;have HCAP:=Lib.hid (tS_R.1 rz).cap;clear rz gy0 gy1 gy2 gy3;go_wp2_with fail;refine⟨regrown_of_below Bd4,zdm rfl ?_⟩;go_wp2_with fail;refine(zgx h HO.out a0 A1 n1 c1 A2 n2 c2 A3 n3 c3 i (tSS.later q1 B5) (tNS.later q2 B5) (tS.later q3 B5) hi 2 0 0 A7 0 c7).mono ?_;rintro e wz ⟨A1',n1',c1',A2',n2',c2',A3',n3',c3',rfl,RK,bz⟩;obtain⟨U,hU,Z2,ZU,BU,sU,chU⟩:=FIN.out (.int .i64 a0) (.slice A1' n1' c1') (.slice A2' n2' c2') (.slice A3' n3' c3') wz (zaa B5 bz);have HU:=Lib.hid hU
 have PR:=Lib.hid (show ∀T,Chg (fun b=>b<w.heap.size) U T->PRd A1' n1' c1' A2' n2' c2' A3' n3' c3' tb (p.1.set i (2,0,0,[]),p.2) T from fun T hT=>by
  have s1:=(B5).size;have cT:Chg (fun b=>b<w4.heap.size) wz T:=(chU.wide (fun b (hb:b=_)=>by omega)).trans (hT.wide (fun b (hb:b<_)=>by omega));exact RK T [] cT (tS_R.2 (RS.of_ri (RI.nil _ _ _) HCAP.out.2.1 HCAP.out.2.2)))
 obtain⟨q0,q1_,q2_,q3_,qf,ql⟩:=Z2;obtain⟨d0,d1,d2,d3,df,dl⟩:=ZU;have f0:=df 0;have f1:=df 1;have f2:=df 2;have f3:=df 3;have r0:=qf 0;have r1:=qf 1;have r2:=qf 2;have r3:=qf 3;clear hU RK sU chU;go_wp2_with fail;refine⟨regrown_of_below (zaa Bd4 bz),zev ?_⟩;go_wp2_with fail;rw[<-HU.out];refine bodyPost_ret (v:=.tuple #[.int .i64 2,.agg #[.int .i64 a0,.slice A1' n1' c1',.slice A2' n2' c2',.slice A3' n3' c3']]) (by simp[results,Tryz.results151,go_sem,d0,d1,d2,d3,f0,f1,f2,f3]) rfl ?_;exact⟨.inr ⟨by rw[RU.out];decide,A1',n1',c1',A2',n2',c2',A3',n3',c3',by rw[RU.out],by rw[RU.out,znm];exact PR.out⟩,BU⟩
end
end
section
structure BX2 (w:Yw) (g:Nat) (z0 z1:Value):Prop where
 c0:w.cell? ⟨g,0,none⟩=some z0
 c1:w.cell? ⟨g,1,none⟩=some z1
 fr:∀j,w.frozen? ⟨g,j,none⟩=false
 lt:g<w.heap.size
theorem BX2.later{w w':Yw}{g:Nat}{z0 z1:Value}(h:BX2 w g z0 z1)(hb:Below w.heap.size w w'):BX2 w' g z0 z1:=
 ⟨(hb.cell (by exact h.lt)).trans h.c0,(hb.cell (by exact h.lt)).trans h.c1,fun j=>(hb.frozen (by exact h.lt)).trans (h.fr j),Nat.lt_of_lt_of_le h.lt hb.size⟩
theorem BX2.chg{w w':Yw}{F:Nat->Prop}{g:Nat}{z0 z1:Value}(h:BX2 w g z0 z1)(hc:Chg F w w')(hn:¬F g):BX2 w' g z0 z1:=
 ⟨(hc.cell h.lt hn).trans h.c0,(hc.cell h.lt hn).trans h.c1,fun j=>(hc.frozen h.lt hn).trans (h.fr j),Nat.lt_of_lt_of_le h.lt hc.size⟩
theorem BX2.set{w:Yw}{g:Nat}{z0 z1:Value}(h:BX2 w g z0 z1)(v0 v1:Value):∃U,U=(w.setCell ⟨g,0,none⟩ v0).setCell ⟨g,1,none⟩ v1/\BX2 U g v0 v1/\Chg (fun b=>b=g) w U/\U.heap.size=w.heap.size:=by
 refine⟨_,rfl,⟨by simp[go_sem,h.c0],by simp[go_sem,h.c1],fun j=>by simp[go_sem,h.fr],by simpa using h.lt⟩,(Chg.set (F:=fun b=>b=g) _ g 0 v0 rfl).trans (Chg.set _ g 1 v1 rfl),by simp⟩
theorem BX2.drew{w:Yw}{g:Nat}{z0 z1:Value}(h:BX2 w g z0 z1):BX2 w.drew g z0 z1:=⟨h.c0,h.c1,h.fr,h.lt⟩
theorem zut(w:Yw)(z0 z1 z2 z3 x0 x1 y0 y1 y2 y3:Value)(t t' t'':TypeId):∃W,W=((w.alloc (.cells #[z0,z1,z2,z3] t)).alloc (.cells #[x0,x1] t')).alloc (.cells #[y0,y1,y2,y3] t'')/\Below w.heap.size w W/\W.heap.size=w.heap.size+3/\BX W w.heap.size z0 z1 z2 z3/\BX2 W (w.heap.size+1) x0 x1/\BX W (w.heap.size+1+1) y0 y1 y2 y3:=by
 refine⟨_,rfl,zaa (zaa (zaf w _) (zaf _ _)) (zaf _ _),by simp,(((BX.new w z0 z1 z2 z3 t).later (zaf _ _)).later (zaf _ _)),?_,?_⟩
 ·exact⟨by simp[go_sem],by simp[go_sem],fun j=>by simp[go_sem],by simp⟩
 have:=BX.new ((w.alloc (.cells #[z0,z1,z2,z3] t)).alloc (.cells #[x0,x1] t')) y0 y1 y2 y3 t'';simpa using this
section
variable {ND:NO->Nat->Bool} {tb:List (List Int)} {p:NO}
theorem zns(h:∀j,j<p.1.length->zav (ND p) p.1 j=0):zbk ND tb p=none:=by
 rw[zbk,Option.map_eq_none_iff,zfu,List.find?_eq_none];intro j hj;rw[h j (List.mem_range.1 hj)];decide
theorem znt{i:Nat}(hi:i<p.1.length)(h:zav (ND p) p.1 i≠0)(h0:∀j,j<i->zav (ND p) p.1 j=0):zbk ND tb p=some (zbs (ND p) tb p i (zav (ND p) p.1 i)):=by
 have:zfu (ND p) p.1=some i:=by
  rw[zfu,List.find?_range_eq_some];exact⟨by simpa using h,List.mem_range.2 hi,fun j hj=>by simp[h0 j hj]⟩
 rw[zbk,this]
 rfl
end
theorem Chg.drewL{F:Nat->Prop}{w T:Yw}(h:Chg F w.drew T):Chg F w T:=⟨h.os,h.tape,h.output,h.size,h.block⟩
theorem znu{w W:Yw}(B0:Below w.heap.size w W)(lW:w.heap.size+1+1<W.heap.size){x0 x1 y0 y1 y2 y3:Value}(RX:BX2 W (w.heap.size+1) x0 x1)(ZX:BX W (w.heap.size+1+1) y0 y1 y2 y3)(u0 u1 v0 v1 v2 v3:Value)(V:Yw)(BV:Below W.heap.size W V):
 ∃U,U=(((((V.setCell ⟨w.heap.size+1,0,none⟩ u0).setCell ⟨w.heap.size+1,1,none⟩ u1).setCell ⟨w.heap.size+1+1,0,none⟩ v0).setCell ⟨w.heap.size+1+1,1,none⟩ v1).setCell ⟨w.heap.size+1+1,2,none⟩ v2).setCell ⟨w.heap.size+1+1,3,none⟩ v3/\BX2 U.drew (w.heap.size+1) u0 u1/\BX U.drew (w.heap.size+1+1) v0 v1 v2 v3/\Below w.heap.size w U.drew/\Chg (fun b=>b=w.heap.size+1\/b=w.heap.size+1+1) V U:=by
 have RV:=RX.later BV;have ZV:=ZX.later BV;obtain⟨U1,hU1,R1,ch1,s1⟩:=RV.set u0 u1;obtain⟨U2,hU2,Z2,ch2,s2⟩:=(ZV.chg ch1 (by omega)).set v0 v1 v2 v3;have c:Chg (fun b=>b=w.heap.size+1\/b=w.heap.size+1+1) V U2:=(ch1.wide (fun b (hb:b=_)=>.inl hb)).trans (ch2.wide (fun b (hb:b=_)=>.inr hb));have sV:=BV.size;exact⟨U2,by rw[hU2,hU1],(R1.chg ch2 (by omega)).drew,Z2.drew,zae ((B0.trans (BV.mono (by omega))).trans (c.toBelow (fun b hb=>by omega) (by omega))) 1,c⟩
section
variable {tb:List (List Int)} {p:NO} {R:Nat->Nat} {w:Yw} {ND:NO->Nat->Bool}
theorem zuu(h:M.WP tb p R)(ho:p.2.length<=1000)(hND:∀p j,ND p j=true↔M.Rch p.1 p.2 j)(a0:Int)(A1:Yo)(n1 c1:Nat)(A2:Yo)(n2 c2:Nat)(A3:Yo)(n3 c3:Nat)(k1:tSS.R w w.heap.size [.slice A1 n1 c1] tb)(k2:tNS.R w w.heap.size [.slice A2 n2 c2] p.1)(k3:tS.R w w.heap.size [.slice A3 n3 c3] p.2):
 Calls Tryz.prog 94 #[.agg #[.int .i64 a0,.slice A1 n1 c1,.slice A2 n2 c2,.slice A3 n3 c3]] w fun e w'=>((zbk ND tb p=none/\e=.returned (.tuple #[.agg #[.int .i64 0,.int .i64 0],.agg #[.int .i64 a0,.slice A1 n1 c1,.slice A2 n2 c2,.slice A3 n3 c3],.bool false]))\/
  (∃(q:NO) (r i:Int) (A1':Yo) (n1' c1':Nat) (A2':Yo) (n2' c2':Nat) (A3':Yo) (n3' c3':Nat),zbk ND tb p=some q/\e=.returned (.tuple #[.agg #[.int .i64 r,.int .i64 i],.agg #[.int .i64 a0,.slice A1' n1' c1',.slice A2' n2' c2',.slice A3' n3' c3'],.bool true])/\∀T,Chg (fun b=>b<w.heap.size) w' T->PRd A1' n1' c1' A2' n2' c2' A3' n3' c3' tb q T))/\Below w.heap.size w w':=by
 have hl:=(sl_R.1 k2).cap.1;have hlen:=h.len;have hn2:n2<=24:=by omega
 obtain⟨W,hW,B0,sW,PX,RX,ZX⟩:=zut w (.int .i64 a0) (.slice A1 n1 c1) (.slice A2 n2 c2) (.slice A3 n3 c3) (.int .i64 0) (.int .i64 0) (.int .i64 0) (.slice none 0 0) (.slice none 0 0) (.slice none 0 0) 67 134 67;have HW:=Lib.hid hW;have lW:w.heap.size+1+1<W.heap.size:=by omega
 have q1:=tSS.later k1 B0;have q2:=tNS.later k2 B0;have q3:=tS.later k3 B0;have HL:=Lib.hid hl;have HO:=Lib.hid ho;have HND:=Lib.hid hND;clear hW sW k1 k2 k3 hl ho hND
 go_enter Tryz.func94,Tryz.ntmps94
 go_wp2_with fail;rw[<-HW.out];refine(zey _ _ _ _).mono ?_;rintro e w' ⟨rfl,rfl⟩;go_wp2_with fail
 go_loopw [11] (fun j wr=>∃k:Nat,j=.int .i64 k/\k<=n2/\Hid (∀j,j<k->zav (ND p) p.1 j=0)/\Below W.heap.size W wr) (fun j _=>n2-(intOf j).toNat)
 case atStart=>exact⟨0,rfl,by omega,Lib.hid (fun j hj=>by omega),Below.refl _ _⟩
 case round=>
  obtain⟨k,rfl,hk,H,Bw⟩:=hrel;obtain⟨z0,z1,z2,z3,zf,zl⟩:=PX.later Bw;have sw:=Bw.size
  by_cases hlt:k<n2
  ·have CR:=Lib.hid (zus h HO.out (HND.out p) a0 A1 n1 c1 A2 n2 c2 A3 n3 c3 k (tSS.later q1 Bw) (tNS.later q2 Bw) (tS.later q3 Bw) hlt);have hkn:(k:Int)<(n2:Int):=(by omega);go_wp2_with fail;refine CR.out.mono ?_;rintro e w2 ⟨⟨hr,rfl⟩|⟨hr,A1',n1',c1',A2',n2',c2',A3',n3',c3',rfl,RK⟩,b2⟩
   ·have HN:=Lib.hid (show ∀j,j<k+1->zav (ND p) p.1 j=0 from fun j hj=>by
     rcases Nat.lt_or_eq_of_le (Nat.le_of_lt_succ hj)with h1|rfl
     ·exact H.out j h1
     exact hr)
    clear hr;go_wp2_with fail;go_roundw
    case rel=>exact⟨k+1,by go_num,by omega,HN,zaa (zaa Bw b2) (zaf _ _)⟩
    case measure=>simp[intOf];omega
   have HS:=Lib.hid (znt (tb:=tb) (by have:=HL.out;omega) hr H.out);obtain⟨r,hr_⟩:∃r,zav (ND p) p.1 k=r:=⟨_,rfl⟩;rw[hr_]at hr RK HS ⊢;have g:(r != 0)=true:=(by simpa using hr);have HR_:=Lib.hid hr_;have B2:=zaa Bw b2;have RK:=Lib.hid RK;obtain⟨V,hV⟩:∃V,V=w2.alloc (.cells #[.int .i64 a0,.slice A1' n1' c1',.slice A2' n2' c2',.slice A3' n3' c3'] 67):=⟨_,rfl⟩;have BV:Below w2.heap.size w2 V:=(by rw[hV];exact zaf _ _);have VX:BX V w2.heap.size (.int .i64 a0) (.slice A1' n1' c1') (.slice A2' n2' c2') (.slice A3' n3' c3'):=(by rw[hV];exact BX.new _ _ _ _ _ _);have HV:=Lib.hid hV;have B3:=zaa B2 BV;clear hr_ hV z0 z1 z2 z3 zf;obtain⟨v0,v1,v2,v3,vf,vl⟩:=VX;obtain⟨x0,x1,xf,xl⟩:=RX.later B3;obtain⟨y0,y1,y2,y3,yf,yl⟩:=ZX.later B3;have xf0:=xf 0;have xf1:=xf 1;have yf0:=yf 0;have yf1:=yf 1;have yf2:=yf 2;have yf3:=yf 3;have s3:=B2.size;obtain⟨U,hU,RU,ZU,BU,cU⟩:=znu B0 lW RX ZX (.int .i64 r) (.int .i64 k) (.int .i64 a0) (.slice A1' n1' c1') (.slice A2' n2' c2') (.slice A3' n3' c3') V B3;have HU:=Lib.hid hU
   have PR:=Lib.hid (show ∀T,Chg (fun b=>b<w.heap.size) U.drew T->PRd A1' n1' c1' A2' n2' c2' A3' n3' c3' tb (zbs (ND p) tb p k r) T from fun T hT=>
    RK.out T ((Chg.of_below BV _).trans ((cU.wide (fun b hb=>by rcases hb with hb|hb <;> omega)).trans (hT.drewL.wide (fun b (hb:b<_)=>by omega)))))
   clear hU;have ne1:¬w2.heap.size=w.heap.size+1:=(by omega);have ne2:¬w2.heap.size=w.heap.size+1+1:=(by omega);have ne3:¬w.heap.size+1=w2.heap.size:=(by omega);have ne4:¬w.heap.size+1+1=w2.heap.size:=(by omega);go_upto_region 5 with fail
   rw[<-HV.out];go_wp2_with fail;go_region;rw[<-HU.out];clear x0 x1 xf xf0 xf1 y0 y1 y2 y3 yf yf0 yf1 yf2 yf3 v0 v1 v2 v3 vf;obtain⟨x0,x1,xf,xl⟩:=RU;obtain⟨y0,y1,y2,y3,yf,yl⟩:=ZU;have xf0:=xf 0;have xf1:=xf 1;have yf0:=yf 0;have yf1:=yf 1;have yf2:=yf 2;have yf3:=yf 3;go_wp2_with fail;refine bodyPost_ret (v:=.tuple #[.agg #[.int .i64 r,.int .i64 (k:Int)],.agg #[.int .i64 a0,.slice A1' n1' c1',.slice A2' n2' c2',.slice A3' n3' c3'],.bool true]) (by simp[results,Tryz.results94,go_sem,x0,x1,y0,y1,y2,y3,xf0,xf1,yf0,yf1,yf2,yf3]) rfl ?_;exact⟨.inr ⟨_,r,k,A1',n1',c1',A2',n2',c2',A3',n3',c3',HS.out,rfl,PR.out⟩,BU⟩
  obtain rfl:k=n2:=by omega
  have HS:=Lib.hid (zns (ND:=ND) (tb:=tb) (p:=p) (fun j hj=>H.out j (by have:=HL.out;omega)));obtain⟨U,hU,RU,ZU,BU,cU⟩:=znu B0 lW RX ZX (.int .i64 0) (.int .i64 0) (.int .i64 a0) (.slice A1 n1 c1) (.slice A2 k c2) (.slice A3 n3 c3) wr Bw;have HU:=Lib.hid hU;obtain⟨x0,x1,xf,xl⟩:=RX.later Bw;obtain⟨y0,y1,y2,y3,yf,yl⟩:=ZX.later Bw;have xf0:=xf 0;have xf1:=xf 1;have yf0:=yf 0;have yf1:=yf 1;have yf2:=yf 2;have yf3:=yf 3;have ne5:¬w.heap.size=w.heap.size+1+1:=by omega
  have ne6:¬w.heap.size=w.heap.size+1:=by omega
  clear hU;go_wp2_with fail;go_region;rw[<-HU.out];clear x0 x1 xf xf0 xf1 y0 y1 y2 y3 yf yf0 yf1 yf2 yf3 z0 z1 z2 z3 zf;obtain⟨x0,x1,xf,xl⟩:=RU;obtain⟨y0,y1,y2,y3,yf,yl⟩:=ZU;have xf0:=xf 0;have xf1:=xf 1;have yf0:=yf 0;have yf1:=yf 1;have yf2:=yf 2;have yf3:=yf 3;go_wp2_with fail;refine bodyPost_ret (v:=.tuple #[.agg #[.int .i64 0,.int .i64 0],.agg #[.int .i64 a0,.slice A1 n1 c1,.slice A2 k c2,.slice A3 n3 c3],.bool false]) (by simp[results,Tryz.results94,go_sem,x0,x1,y0,y1,y2,y3,xf0,xf1,yf0,yf1,yf2,yf3]) rfl ?_;exact⟨.inl ⟨HS.out,rfl⟩,BU⟩
end
end
end Go.Proofs.YtifeldeikhmckaaGreat
