import Derived.Test.YtifeldeikhmckaaGreatFnMutedG18
import Derived.Test.YtifeldeikhmckaaGreatFnMutedG13
import Derived.Test.YtifeldeikhmckaaGreatFnMutedG14
import Derived.Test.YtifeldeikhmckaaGreatFnMutedG17
import Derived.Test.YtifeldeikhmckaaGreatFnMutedG4
import Derived.Test.YtifeldeikhmckaaGreatFnMutedG1
import Derived.Deep.Slices
import Derived.Deep.Fields
import Derived.ChangeSame
import Derived.Lib.SmallJoins
set_option linter.unusedVariables false
set_option linter.unusedSimpArgs false
set_option maxRecDepth 100000
set_option maxHeartbeats 4000000
namespace Go.Proofs.YtifeldeikhmckaaGreat
open Go.RowKit Go.Sort
theorem OS.made00{α:Type}(t:Ty α)(e:TypeId)(w:Yw):OS t e (w.alloc (.cells #[] e)) (Iv w.heap.size (w.alloc (.cells #[] e)).heap.size) (.slice (some ⟨w.heap.size,0,none⟩) 0 0) []:=
 ⟨[],fun _ _=>False,World.ownsRow_made _ _ _ (Nat.zero_le _) (by simp[maxLen]) (by simp),rfl,fun g hg=>by simp only[Value.ownBlock,Dq]at hg;subst hg;exact⟨Aj _,by simp⟩,fun _ _ h=>h.elim,fun _ _ _ _ h=>h.elim,fun k h=>by simp at h⟩
theorem zz8(b lo:Nat)(A:Yo)(n c:Nat)(code:List UInt8)(K:Nat)(w:Yw)(h:Src w b lo A n c code K)(hK:K<=100000):
 Calls Tryz.prog 109 #[.pointer (some ⟨b,0,none⟩)] w (zqe b w):=by
 have hbw:=h.lt;obtain⟨U0,hU0⟩:∃W,W=w.alloc (.cells #[.slice none 0 0] 36):=⟨_,rfl⟩;have B0:Below w.heap.size w U0:=by rw[hU0];exact(Aw _ _).alloc (Aj _) _
 have z0:U0.heap.size=w.heap.size+1:=by rw[hU0];simp
 have c0:U0.cell? ⟨w.heap.size,0,none⟩=some (.slice none 0 0):=by rw[hU0];simp[go_sem]
 have f0:U0.frozen? ⟨w.heap.size,0,none⟩=false:=by rw[hU0];simp[go_sem]
 have s0:=h.below B0 hbw;have HU0:=Aq hU0;have lU:U0.heap.size<=w.heap.size+1/\w.heap.size+1<=U0.heap.size:=by omega
 clear hU0 z0
 go_enter Tryz.func109,Tryz.ntmps109
 go_wp2_with fail;rw[<-HU0.out];refine(zp9 b lo A n c code K U0 s0 (by omega)).mono ?_;rintro e w1 ⟨A1,c1,ms,rfl,own1,hl6,hl1,tiny,-,s1,m1⟩;have t1:=m1.size;obtain⟨W2,hW2⟩:∃W,W=w1.alloc (.cells #[.slice A1 ms.length c1] 36):=⟨_,rfl⟩;have B2:Below w1.heap.size w1 W2:=by rw[hW2];exact(Aw _ _).alloc (Aj _) _
 have E0:BE w b lo A n c code w1.heap.size (K+200) (.slice A1 ms.length c1) W2:=by
  have M2:Mid b (b+1) U0 W2:=m1.thenB' B2 m1.size;exact⟨M2.cellK (by omega) (.inr (by omega)) c0,M2.frozK (by omega) (.inr (by omega)) f0,by rw[hW2];simp[go_sem],by rw[hW2];simp[go_sem],s1.below B2 (by omega),(Mid.of_below B0 _ _).trans M2,by rw[hW2];simp,by omega⟩
 have O0:OS tSt 117 W2 (Iv U0.heap.size w1.heap.size) (.slice A1 ms.length c1) ms:=own1.below B2 (Aj _);have HW2:=Aq hW2;obtain⟨X,hX⟩:∃q,q=w1.heap.size:=⟨_,rfl⟩;have HX:=Aq hX;rw[<-hX]at E0 O0 t1;clear hW2 own1 s1 m1 c0 f0 s0 B2 hX;have q1:=E0.qX;have lX0:=E0.sz;go_wp2_with fail;rw[<-HW2.out,<-HX.out];refine(zbg b lo A n c code (K+200) (ms.length:Int) W2 E0.src (by omega) (by omega)).mono ?_;rintro e y1 ⟨k0,rfl,⟨hk0,hk1⟩,s2,m2⟩;obtain⟨k,rfl⟩:∃q:Nat,k0=q:=⟨k0.toNat,by omega⟩;have hk:k<ms.length:=by omega
 have E1:=E0.step hbw s2 m2;have O1:=O0.mid m2 (.inr (by omega)) (by omega);have lX:=E1.sz;have hx:=Aq (Ak hk);generalize ms[k]=x at hx;obtain⟨n0,l0,us⟩:=x;have ht0:=tiny.out _ (Eg hx.out);obtain⟨g,-,-,rfl,hFg,-⟩:=zj0 O1 hx.out;have gU:U0.heap.size<=g:=hFg.1;have gX:g<X:=hFg.2;have q2:=E1.qX;clear E0 O0 hk0 hk1 s2 m2 q1;go_wp2_with fail;refine(zbg b lo A n c code _ 20 y1 E1.src (by omega) (by omega)).mono ?_;rintro e y2 ⟨vv,rfl,-,s3,m3⟩;have E2:=E1.step hbw s3 m3;have O2:=O1.mid m3 (.inr (by omega)) (by omega);clear E1 O1 q2 s3 m3;have ltY:=E2.sz;obtain⟨g',Au,cu,eg,-,-,C0,C1,C2,css,Fs,hole,hcs,oU,hFn,hsz0⟩:=zj0 O2 hx.out;obtain rfl:g=g':=by injection eg with eg;injection eg
 clear eg;have k1:=E2.qX;have k2:=E2.fX;have k3:=E2.q0;have k4:=E2.f0
 by_cases v0:vv=0
 ·subst v0;have HT:=Aq (zz7 b lo A n c code _ y2 E2.src (by omega));go_wp2_with fail;refine HT.out.mono ?_;rintro e y3 ⟨s,rfl,hs6,s4,m4⟩;have E3:=E2.step hbw s4 m4;have O3:=O2.mid m4 (.inr (by omega)) (by omega);obtain⟨g',Au3,cu3,eg,-,-,⟨D0,D0f⟩,-,-,-⟩:=zj0 O3 hx.out;obtain rfl:g=g':=by injection eg with eg;injection eg
  clear eg;have EY:=E3.chg hbw (G:=fun z=>z=g) (fun z h=>by omega) (Chg.set y3 g (k*3) (.string s) rfl);have OY:=zz3 O3 hx.out s (by unfold maxLen;omega);obtain⟨Y,hY⟩:∃u,u=y3.setCell ⟨g,k*3,none⟩ (.string s):=⟨_,rfl⟩;rw[<-hY]at EY OY;have HY:=Aq hY;clear hY;have z0:=EY.q0;have z1:=EY.f0;have z2:=EY.qX;have hfin:=Aq (EY.fin OY (fun z h=>by have h1:U0.heap.size<=z:=h.1;omega) hl6 (zii (fun x hx=>⟨(tiny.out x hx).1,Nat.le_succ_of_le (tiny.out x hx).2⟩) ⟨hs6,by have:=ht0.2;simp only at this ⊢;omega⟩) (by simp));clear EY OY;go_upto_region 18 with fail
  rw[<-HY.out];go_wp2;refine Cy (v:=.agg #[.slice (some ⟨g,0,none⟩) ms.length c1]) (by simp[results,Tryz.results109,go_sem,z0,z1]) rfl ?_;exact hfin.out
 by_cases v1:vv=1
 ·subst v1;have HT:=Aq (zz6 b lo A n c code _ y2 E2.src (by omega));go_wp2_with fail;refine HT.out.mono ?_;rintro e y3 ⟨lz,rfl,-,s4,m4⟩;have E3:=E2.step hbw s4 m4;have O3:=O2.mid m4 (.inr (by omega)) (by omega);obtain⟨g',Au3,cu3,eg,-,-,-,⟨D0,D0f⟩,-,-⟩:=zj0 O3 hx.out;obtain rfl:g=g':=by injection eg with eg;injection eg
  clear eg;have EY:=E3.chg hbw (G:=fun z=>z=g) (fun z h=>by omega) (Chg.set y3 g (k*3+1) (.int .i64 lz) rfl);have OY:=zz4 O3 hx.out lz;obtain⟨Y,hY⟩:∃u,u=y3.setCell ⟨g,k*3+1,none⟩ (.int .i64 lz):=⟨_,rfl⟩;rw[<-hY]at EY OY;have HY:=Aq hY;clear hY;have z0:=EY.q0;have z1:=EY.f0;have z2:=EY.qX;have hfin:=Aq (EY.fin OY (fun z h=>by have h1:U0.heap.size<=z:=h.1;omega) hl6 (zii (fun x hx=>⟨(tiny.out x hx).1,Nat.le_succ_of_le (tiny.out x hx).2⟩) ⟨ht0.1,by have:=ht0.2;simp only at this ⊢;omega⟩) (by simp));clear EY OY;go_upto_region 18 with fail
  rw[<-HY.out];go_wp2;refine Cy (v:=.agg #[.slice (some ⟨g,0,none⟩) ms.length c1]) (by simp[results,Tryz.results109,go_sem,z0,z1]) rfl ?_;exact hfin.out
 by_cases v2:vv=2
 ·subst v2;obtain⟨D2,D2f⟩:=C2;have HE2:=Aq E2
  have ghx:Hid (∀z,Fs k z->z<X/\U0.heap.size<=z/\z≠g):=Aq (fun z h=>by
   have:=hole.fits z h;exact⟨this.2,this.1,fun e=>hFn (e▸h)⟩)
  obtain⟨G,hG⟩:∃G:Nat->Prop,G=fun z=>z=b\/Fs k z:=⟨_,rfl⟩
  have HG:=Aq hG
  have GN:=Aq (show ¬G g from fun h=>by
   rw[hG]at h;rcases h with h|h
   ·omega
   exact hFn h)
  have w2c:=ChgTo.cell (F:=G) D2 (fun h=>GN.out h);have SP:=Aq (zbg b lo A n c code _ 8 y2.drew (E2.src.below (zad (Aw y2.heap.size _) 1) (by omega)) (by omega) (by omega));clear hG E2 v0 v1;go_wp2_with fail
  (refine zc4 G [0,1,2,3,5] [4] 6 (.one 6 (.one 7 (.one 8 (.one 9 (.first 10 (.first 11 .rest)))))) [12] [12] (by kernel_rfl) (by kernel_rfl) ?_;simp only[zak];simp only[List.filterMap,By,Bg];(repeat (go_big_quiet_step (fail)));refine Cv ?_;(repeat (go_big_quiet_step (fail)));refine Cv ?_)
  refine zai rfl ?_;go_wp2_with fail;refine SP.out.mono ?_;rintro e y3 ⟨tz,rfl,-,s5,m5⟩;have m5':Mid b (b+1) y2 y3:=(Mid.of_below (zad (Aw y2.heap.size _) 1) b (b+1)).trans m5;have E3:=HE2.out.step hbw s5 m5';have lt5:=m5'.size;have KP:∀z,Iv U0.heap.size X z->y3.heap[z]?=y2.heap[z]?:=fun z h=>m5'.block z (by have h1:z<X:=h.2;omega) (.inr (by have h1:U0.heap.size<=z:=h.1;omega))
  have C5:Chg G y2 y3:=⟨m5'.os,m5'.tape,m5'.output,m5'.size,fun i hi hn=>m5'.block i hi (by
   rw[HG.out]at hn;rcases Fj i b with h|h
   ·exact .inl h
   exact .inr (by rcases Fj b i with h2|h2;exact h2;exact absurd (.inl (by omega)) hn))⟩
  have hole3:=hole.keep KP;have oU3:=oU.keep (fun z h=>KP z (hole.fits z h));have D3:=(hole3.cell hcs (j:=2) rfl).1;have D3f:=(hole3.cell hcs (j:=2) rfl).2;change y3.cell? ⟨g,k*3+2,none⟩=_ at D3;change y3.frozen? ⟨g,k*3+2,none⟩=_ at D3f;have HKP:=Aq KP;clear KP;go_wp2_with fail;refine⟨⟨⟨y3,C5⟩,rfl⟩,zai rfl ?_⟩;go_wp2_with fail;refine⟨⟨⟨y3,C5⟩,rfl⟩,zai rfl ?_⟩;go_wp2_with fail;refine⟨⟨⟨_,C5.trans (Chg.of_below ((Aw _ _).alloc (Aj _) _) _)⟩,rfl⟩,zai rfl ?_⟩;have oU4:=oU3.real;go_wp2_with (at_builtin;refine za8 zg0 #[.int .i64 tz,.int .i64 1] rfl _ _ rfl oU3.real (Fe:=fun _=>False) (y:=(tz,1)) rfl (fun _ _ h=>h) rfl rfl (by unfold maxLen;omega) (by omega) ?_;intro v6 w6 own6 ch6;obtain⟨A6,c6,e6⟩:=own6.shape;rw[Cw,Dw]at e6;subst e6;have q6:w6.cell? ⟨g,k*3+2,none⟩=some (.slice Au us.length cu):=(by rw[ch6.cell1 (show g<y3.heap.size by omega) (fun h=>hFn h.1)];exact D3);have r6:w6.frozen? ⟨g,k*3+2,none⟩=false:=(by rw[ch6.frozen1 (show g<y3.heap.size by omega) (fun h=>hFn h.1)];exact D3f));have CG6:Chg G y2 w6:=C5.trans (ch6.wide (fun z h=>by rw[HG.out];exact .inr h.1));refine⟨⟨⟨w6,CG6⟩,rfl⟩,?_⟩
  (refine za6 rfl ?_;(repeat (go_big_quiet_step (fail)));refine Cv ?_)
  (refine za6 rfl ?_;(repeat (go_big_quiet_step (fail)));refine Cv ?_)
  refine zbc ?_;have hs6:=(hole3.chg (ch6.wide (fun z h=>h.1))).set hcs 2 (by decide) (.slice A6 (us.length+1) c6);rw[show k*tSt.s+2=k*3+2 from rfl]at hs6;have CS:Chg (fun z=>z=g) w6 (w6.setCell ⟨g,k*3+2,none⟩ (.slice A6 (us.length+1) c6)):=Chg.set w6 g (k*3+2) _ rfl;have e95:(w6.setCell ⟨g,k*3+2,none⟩ (.slice A6 (us.length+1) c6)).heap.size=w6.heap.size:=by simp
  have own7:=own6.chg CS (fun z h1 (h2:z=g)=>by
   rcases h1 with h1|h1|h1
   ·exact hFn (h2▸h1.1)
   ·exact h1
   omega)
  have st7:=hs6.1.fill2 hs6.2 (y:=(n0,l0,us++[(tz,1)])) (Fe:=fun z=>Fs k z\/y3.heap.size<z) (st_O.2 ⟨A6,us.length+1,c6,rfl,hsz0,sl_O.2 (own7.wide (fun z h1=>by
   rcases h1 with h1|h1|h1
   ·exact .inl h1.1
   ·exact h1.elim
   exact .inr h1.1))⟩) (fun z h1=>by
   rcases h1 with h1|h1
   ·exact .inl h1
   exact .inr (fun h2=>by have h3:z<X:=h2.2;omega))
  have EY:=(E3.chg hbw (G:=fun z=>Fs k z) (fun z h=>by have:=ghx.out z h;omega) (ch6.wide (fun z h=>h.1))).chg hbw (G:=fun z=>z=g) (fun z h=>by omega) CS;have OY:=st7;clear st7 hs6;obtain⟨Y,hY⟩:∃u,u=w6.setCell ⟨g,k*3+2,none⟩ (.slice A6 (us.length+1) c6):=⟨_,rfl⟩;rw[<-hY]at EY OY;have HY:=Aq hY;clear hY;have z0:=EY.q0;have z1:=EY.f0;have z2:=EY.qX;have hfin:=Aq (EY.fin OY (fun z h=>by have h1:U0.heap.size<=z:=(by rcases h with h|h|h;exact h.1;exact(ghx.out z h).2.1;omega);omega) hl6 (zii (fun x hx=>⟨(tiny.out x hx).1,Nat.le_succ_of_le (tiny.out x hx).2⟩) ⟨ht0.1,by have:=ht0.2;simp only at this ⊢;rw[Cw,Dw];omega⟩) (by simp));clear EY OY;go_upto_region 18 with fail
  rw[<-HY.out];go_wp2;refine Cy (v:=.agg #[.slice (some ⟨g,0,none⟩) ms.length c1]) (by simp[results,Tryz.results109,go_sem,z0,z1]) rfl ?_;exact hfin.out
 by_cases v3:vv=3
 ·subst v3;obtain⟨D2,D2f⟩:=C2;have EY:=E2.chg hbw (G:=fun z=>z=g) (fun z h=>by omega) (Chg.set y2 g (k*3+2) (.slice none 0 0) rfl);have OY:=zz5 O2 hx.out;obtain⟨Y,hY⟩:∃u,u=y2.setCell ⟨g,k*3+2,none⟩ (.slice none 0 0):=⟨_,rfl⟩;rw[<-hY]at EY OY;have HY:=Aq hY;clear hY;have z0:=EY.q0;have z1:=EY.f0;have z2:=EY.qX;have hfin:=Aq (EY.fin OY (fun z h=>by have h1:U0.heap.size<=z:=h.1;omega) hl6 (zii (fun x hx=>⟨(tiny.out x hx).1,Nat.le_succ_of_le (tiny.out x hx).2⟩) ⟨ht0.1,by simp⟩) (by simp));clear EY OY;go_upto_region 18 with fail
  rw[<-HY.out];go_wp2;refine Cy (v:=.agg #[.slice (some ⟨g,0,none⟩) ms.length c1]) (by simp[results,Tryz.results109,go_sem,z0,z1]) rfl ?_;exact hfin.out
 by_cases v4:vv=4
 ·subst v4;obtain⟨D2,D2f⟩:=C2
  by_cases hu:us.length=0
  ·have hu2:¬(0:Int)<(us.length:Int):=(by omega);have EY:=E2;have OY:=O2;clear E2 O2;obtain⟨Y,hY⟩:∃u,u=y2:=⟨_,rfl⟩;rw[<-hY]at EY OY;have HY:=Aq hY;clear hY;have z0:=EY.q0;have z1:=EY.f0;have z2:=EY.qX;have hfin:=Aq (EY.fin OY (fun z h=>by have h1:U0.heap.size<=z:=h.1;omega) hl6 (fun x hx=>⟨(tiny.out x hx).1,Nat.le_succ_of_le (tiny.out x hx).2⟩) (by simp));clear EY OY;go_upto_region 18 with fail
   rw[<-HY.out];go_wp2;refine Cy (v:=.agg #[.slice (some ⟨g,0,none⟩) ms.length c1]) (by simp[results,Tryz.results109,go_sem,z0,z1]) rfl ?_;exact hfin.out
  have hup:0<us.length:=by omega
  have hu2:(0:Int)<(us.length:Int):=by omega
  have hY0:=Aq (Ak hup);generalize us[0]=y0 at hY0;obtain⟨cs2,Fs2,hole2,cz,hcz,hz⟩:=oU.openAt hY0.out;obtain⟨p0,p1⟩:=y0;obtain rfl:cz=[.int .i64 p0,.int .i64 p1]:=hz;obtain⟨g2,rfl,hFg2,-,hgw2,-⟩:=hole2.form hup;have D5:=(hole2.cell hcz (j:=1) rfl).1;have D5f:=(hole2.cell hcz (j:=1) rfl).2;change y2.cell? ⟨g2,1,none⟩=_ at D5;change y2.frozen? ⟨g2,1,none⟩=_ at D5f;have g2n:g2≠g:=fun e=>hFn (e▸hFg2)
  have g2b:=hole.fits g2 hFg2;have g2U:U0.heap.size<=g2:=g2b.1;have g2X:g2<X:=g2b.2;have CS:Chg (Fs k) y2 (y2.setCell ⟨g2,1,none⟩ (.int .i64 2147483648)):=Chg.set y2 g2 1 _ hFg2;have h2s:=hole2.set hcz 1 (by decide) (.int .i64 2147483648);have own5:=h2s.1.fill h2s.2 (y:=(p0,2147483648)) rfl;have EY:=E2.chg hbw (G:=fun z=>z=g2) (fun z h=>by omega) (Chg.set y2 g2 1 (.int .i64 2147483648) rfl);have OY:=(hole.chg CS).fill hcs (y:=(n0,l0,us.set 0 (p0,2147483648))) (st_O.2 ⟨_,us.length,cu,rfl,hsz0,sl_O.2 own5⟩);clear E2 O2 h2s own5;obtain⟨Y,hY⟩:∃u,u=y2.setCell ⟨g2,1,none⟩ (.int .i64 2147483648):=⟨_,rfl⟩;rw[<-hY]at EY OY;have HY:=Aq hY;clear hY;have z0:=EY.q0;have z1:=EY.f0;have z2:=EY.qX;have hfin:=Aq (EY.fin OY (fun z h=>by have h1:U0.heap.size<=z:=h.1;omega) hl6 (zii (fun x hx=>⟨(tiny.out x hx).1,Nat.le_succ_of_le (tiny.out x hx).2⟩) ⟨ht0.1,by have:=ht0.2;simp only at this ⊢;rw[Fx];omega⟩) (by simp));clear EY OY;go_upto_region 18 with fail
  rw[<-HY.out];go_wp2;refine Cy (v:=.agg #[.slice (some ⟨g,0,none⟩) ms.length c1]) (by simp[results,Tryz.results109,go_sem,z0,z1]) rfl ?_;exact hfin.out
 by_cases v5:vv=5
 ·subst v5;obtain⟨V,hV⟩:∃u:Value,u=.slice (some ⟨y2.heap.size,0,none⟩) 0 0:=⟨_,rfl⟩;obtain⟨Y0,hY0⟩:∃u,u=y2.setCell ⟨X,0,none⟩ V:=⟨_,rfl⟩;have MX:Mid X (X+1) y2 Y0:=by rw[hY0];exact Mid.cell _ X 0 _
  have eS:Y0.heap.size=y2.heap.size:=by rw[hY0];simp
  have E6:BE w b lo A n c code X _ V Y0:=
   ⟨MX.cellK (by omega) (.inl (by omega)) E2.q0,MX.frozK (by omega) (.inl (by omega)) E2.f0,by rw[hY0];exact Dj _ _ _ k1,by rw[hY0];exact(Bf _ _ _ _).trans k2,E2.src.mid MX (by omega),E2.mid.thenB' (by rw[hY0];exact(Aw w.heap.size _).setCell (p:=⟨X,0,none⟩) (by show w.heap.size<=X;omega) _) (by have:=E2.mid.size;omega),by omega,by omega⟩
  have B5:Below Y0.heap.size Y0 (Y0.alloc (.cells #[] 117)):=(Aw _ _).alloc (Aj _) _;have OZ:=OS.made00 tSt 117 Y0;have lY:=E6.sz;have E7:=E6.step hbw (E6.src.below B5 (by omega)) (Mid.of_below B5 _ _);rw[eS]at OZ;obtain⟨Y,hY⟩:∃u,u=Y0.alloc (.cells #[] 117):=⟨_,rfl⟩;rw[<-hY]at E7 OZ;have HY:=Aq (show Y=(y2.setCell ⟨X,0,none⟩ (.slice (some ⟨y2.heap.size,0,none⟩) 0 0)).alloc (.cells #[] 117)by rw[hY,hY0,hV]);have z9:=E7.q0;have z8:=E7.f0;have z7:=E7.qX;rw[hV]at z7;have hfin:=Aq (E7.fin OZ (fun z h=>by have h1:y2.heap.size<=z:=h.1;omega) (by omega) (fun x hx=>by simp at hx) rfl);clear hY hY0 hV E7 E6 OZ B5 MX eS lY E2 O2;go_upto_region 18 with fail
  rw[<-HY.out];go_wp2;refine Cy (v:=.agg #[.slice (some ⟨y2.heap.size,0,none⟩) 0 0]) (by simp[results,Tryz.results109,go_sem,z9,z8]) rfl ?_;exact hfin.out
 have EY:=E2;have OY:=O2;clear E2 O2;obtain⟨Y,hY⟩:∃u,u=y2:=⟨_,rfl⟩;rw[<-hY]at EY OY;have HY:=Aq hY;clear hY;have z0:=EY.q0;have z1:=EY.f0;have z2:=EY.qX;have hfin:=Aq (EY.fin OY (fun z h=>by have h1:U0.heap.size<=z:=h.1;omega) hl6 (fun x hx=>⟨(tiny.out x hx).1,Nat.le_succ_of_le (tiny.out x hx).2⟩) (by simp));clear EY OY;go_upto_region 18 with fail
 rw[<-HY.out];go_wp2;refine Cy (v:=.agg #[.slice (some ⟨g,0,none⟩) ms.length c1]) (by simp[results,Tryz.results109,go_sem,z0,z1]) rfl ?_;exact hfin.out
set_option maxHeartbeats 40000000
theorem zz9(b lo:Nat)(A:Yo)(n c:Nat)(code:List UInt8)(K:Nat)(w:Yw)(h:Src w b lo A n c code K)(hK:K<=100):
 Calls Tryz.prog 54 #[.pointer (some ⟨b,0,none⟩)] w (zqd b w):=by
 have hbw:=h.lt;obtain⟨W0,hW0,B0,sz0,q0,q1,q2,q3,q4,q5,qf⟩:=zcs w (.int .i64 0) (.slice none 0 0) (.slice none 0 0) (.slice none 0 0) (.slice none 0 0) (.slice none 0 0) 38;have z0:w.heap.size<W0.heap.size:=by omega
 have Q0:Hid (∀j,j<6->W0.cell? ⟨w.heap.size,j,none⟩=some (if j=0 then .int .i64 0 else .slice none 0 0)/\W0.frozen? ⟨w.heap.size,j,none⟩=false):=Aq fun j hj=>by
  refine⟨?_,qf j⟩;rcases(show j=0\/j=1\/j=2\/j=3\/j=4\/j=5 by omega)with rfl|rfl|rfl|rfl|rfl|rfl
  ·exact q0
  ·exact q1
  ·exact q2
  ·exact q3
  ·exact q4
  exact q5
 have s0:=h.below B0 hbw;have HW0:=Aq hW0;have HB0:=Aq B0;clear hW0 B0 sz0 q0 q1 q2 q3 q4 q5 qf
 go_enter Tryz.func54,Tryz.ntmps54
 go_wp2_with fail;rw[<-HW0.out];refine(zfg b lo A n c code K 2 W0 s0 (by omega) (by omega)).mono ?_;rintro e x1 ⟨r,rfl,s1,m1⟩;have t1:=m1.size;go_wp2_with fail;refine(zzl b lo A n c code _ r x1 s1 (by omega)).mono ?_;rintro e x2 ⟨i,A1,n1,c1,A2,n2,c2,A3,n3,c3,A4,n4,c4,A5,n5,c5,x,rfl,zo,hP,s2,m2⟩;have t2:=m2.size;obtain⟨U,hU⟩:∃U,U=x2.alloc (.cells #[.int .i64 i,.slice A1 n1 c1,.slice A2 n2 c2,.slice A3 n3 c3,.slice A4 n4 c4,.slice A5 n5 c5] 38):=⟨_,rfl⟩
 obtain⟨D0,hxi⟩:=DS.of (b:=b) hbw (((Mid.of_below HB0.out _ _).trans m1).trans m2) s2 (show w.heap.size<x1.heap.size by omega) t2 (fun j hj=>by
  obtain⟨h1,h2⟩:=Q0.out j hj;have mm:=m1.trans m2;exact⟨mm.cellK (by omega) (.inr (by omega)) h1,mm.frozK (by omega) (.inr (by omega)) h2⟩) zo hU
 obtain⟨i',src,ts,fs,ps,ms⟩:=x;have FEW:=Aq hP.out.few;have hsn:1<=src.length/\src.length<=3:=hP.out.sn;have hsl:=Aq (show ∀s∈src,s.length<=15 from fun s hs=>(hP.out.sl s hs).1.2);have htn:ts.length<=3:=hP.out.tn;have hfn:fs.length<=3:=by have h1:fs.length=ts.length:=hP.out.fn;omega
 have hmn:1<=ms.length/\ms.length<=6:=hP.out.mn;have hen:1<=ps.length/\ps.length<=6:=by have h1:ps.length=ms.length:=hP.out.en;omega
 dsimp only at D0 hxi;obtain⟨A1',c1',e1⟩:=D0.shape1;obtain⟨A2',c2',e2⟩:=D0.shape2;obtain⟨A3',c3',e3⟩:=D0.shape3;obtain⟨A4',c4',e4⟩:=D0.shape4;obtain⟨A5',c5',e5⟩:=D0.shape5;simp only[Cz]at e1 e2 e3 e4 e5;obtain⟨rfl,rfl,rfl⟩:=e1;obtain⟨rfl,rfl,rfl⟩:=e2;obtain⟨rfl,rfl,rfl⟩:=e3;obtain⟨rfl,rfl,rfl⟩:=e4;obtain⟨rfl,rfl,rfl⟩:=e5;obtain⟨g,hg⟩:∃g,g=x2.heap.size:=⟨_,rfl⟩;rw[<-hg]at D0;have HG:=Aq (show x2.heap.size=g from hg.symm);have HU:=Aq hU;have HD0:=Aq D0;have sU:=D0.src;have zU:=D0.sz;clear hU hg D0 zo hP m1 m2 s0 s1 s2 HB0 HW0 hxi;go_wp2_with fail;rw[<-HU.out,HG.out];refine(zbg b lo A n c code _ 24 U sU (by omega) (by omega)).mono ?_;rintro e x6 ⟨q,rfl,hq,s6,m6⟩;have D6:=(HD0.out.step hbw s6 m6).up;have z6:=D6.sz;have t6:=m6.size;clear sU m6 HD0;rcases(show q=0\/q=1\/q=2\/q=3\/q=4\/q=5\/q=6\/7<=q by omega)with rfl|rfl|rfl|rfl|rfl|rfl|rfl|hq7
 ·have HD6:=Aq D6;have SA:=Aq (ze0 [-1,1001,1000] #[.int .i64 (-1),.int .i64 1001,.int .i64 1000] 3 rfl rfl (by omega) b lo A n c code _ x6 s6 (by omega));clear D6;go_wp2_with fail;refine SA.out.mono ?_;rintro e x7 ⟨y,rfl,hy7,s7,m7⟩;have D7:=HD6.out.step hbw s7 m7;have i0:=D7.p0;have j0:=D7.q 0 (by omega);have D8:=D7.set0 hbw y;obtain⟨x8,hx8⟩:∃u,u=x7.setCell ⟨g,0,none⟩ (.int .i64 y):=⟨_,rfl⟩;rw[<-hx8]at D8;have HX8:=Aq hx8;clear hx8 D7;have hmid:=D8.mid;have a0:=D8.p0;have a1:=D8.p1;have a2:=D8.p2;have a3:=D8.p3;have a4:=D8.p4;have a5:=D8.p5;have r0:=(D8.e 0 (by omega)).1;have r1:=(D8.e 1 (by omega)).1;have r2:=(D8.e 2 (by omega)).1;have r3:=(D8.e 3 (by omega)).1;have r4:=(D8.e 4 (by omega)).1;have r5:=(D8.e 5 (by omega)).1;have v0:=(D8.e 0 (by omega)).2;have v1:=(D8.e 1 (by omega)).2;have v2:=(D8.e 2 (by omega)).2;have v3:=(D8.e 3 (by omega)).2;have v4:=(D8.e 4 (by omega)).2;have v5:=(D8.e 5 (by omega)).2;rw[if_pos rfl]at r0;rw[if_neg (by decide)]at r1 r2 r3 r4 r5;have UX:=D8.sz;have hne:g≠w.heap.size:=by omega
  have hne':w.heap.size≠g:=by omega
  have FIN:=Aq (D8.fin hbw (P:=M.fewZ) ⟨FEW.out.sn,FEW.out.tn,FEW.out.fn,FEW.out.en,FEW.out.e1,FEW.out.e2,FEW.out.e3,FEW.out.mn,FEW.out.mt⟩).toR;clear D8 hmid;go_upto_region 17 with fail
  rw[<-HX8.out];go_wp2;refine Cy (v:=.agg #[.int .i64 y,.slice A1 src.length c1,.slice A2 ts.length c2,.slice A3 fs.length c3,.slice A4 ps.length c4,.slice A5 ms.length c5]) (by simp[results,Tryz.results54,go_sem,r0,r1,r2,r3,r4,r5,v0,v1,v2,v3,v4,v5,hne,hne']) rfl ?_;exact FIN.out
 ·obtain⟨F4,r4,hF4,K4⟩:=D6.open3 hbw;have K4':=Aq K4;have q3:=D6.p3;have l3:=D6.q 3 (by omega);clear K4 D6;go_upto_region 17 with(at_builtin;refine za8 zbu #[.int .i64 0] rfl _ _ rfl r4 (Fe:=fun _=>False) (y:=0) rfl (fun _ _ h=>h) rfl rfl (by unfold maxLen;omega) (by omega) ?_;intro v8 w8 own8 ch8;obtain⟨A8,c8,e8⟩:=own8.shape;rw[Cw,Dw]at e8;subst e8;have P8:w8.cell? ⟨g,3,none⟩=some (.slice A3 fs.length c3):=(by rw[ch8.cell1 (show g<x6.heap.size by omega) (fun h=>(hF4 g h).2.1 rfl)];exact q3);have Q8:w8.frozen? ⟨g,3,none⟩=false:=(by rw[ch8.frozen1 (show g<x6.heap.size by omega) (fun h=>(hF4 g h).2.1 rfl)];exact l3))
  have D8:=K4'.out w8 _ (.slice A8 (fs.length+1) c8) (fs++[0]) ch8 own8 (fun z h=>by
   rcases h with h|h|h
   ·exact .inl h
   ·exact h.elim
   have h3:=h.1;exact .inr (by omega))
  obtain⟨x8,hx8⟩:∃u,u=w8.setCell ⟨g,3,none⟩ (.slice A8 (fs.length+1) c8):=⟨_,rfl⟩;rw[<-hx8]at D8;have HX8:=Aq hx8;clear hx8;have hmid:=D8.mid;have a0:=D8.p0;have a1:=D8.p1;have a2:=D8.p2;have a3:=D8.p3;have a4:=D8.p4;have a5:=D8.p5;have r0:=(D8.e 0 (by omega)).1;have r1:=(D8.e 1 (by omega)).1;have r2:=(D8.e 2 (by omega)).1;have r3:=(D8.e 3 (by omega)).1;have r4:=(D8.e 4 (by omega)).1;have r5:=(D8.e 5 (by omega)).1;have v0:=(D8.e 0 (by omega)).2;have v1:=(D8.e 1 (by omega)).2;have v2:=(D8.e 2 (by omega)).2;have v3:=(D8.e 3 (by omega)).2;have v4:=(D8.e 4 (by omega)).2;have v5:=(D8.e 5 (by omega)).2;rw[if_pos rfl]at r0;rw[if_neg (by decide)]at r1 r2 r3 r4 r5;have UX:=D8.sz;have hne:g≠w.heap.size:=by omega
  have hne':w.heap.size≠g:=by omega
  have FIN:=Aq (D8.fin hbw (P:=M.fewZ) ⟨FEW.out.sn,FEW.out.tn,by show (fs++[0]).length<=30;rw[Cw,Dw];omega,FEW.out.en,FEW.out.e1,FEW.out.e2,FEW.out.e3,FEW.out.mn,FEW.out.mt⟩).toR;clear D8 hmid;rw[<-HX8.out];go_wp2;refine Cy (v:=.agg #[.int .i64 i,.slice A1 src.length c1,.slice A2 ts.length c2,.slice A8 (fs.length+1) c8,.slice A4 ps.length c4,.slice A5 ms.length c5]) (by simp[results,Tryz.results54,go_sem,r0,r1,r2,r3,r4,r5,v0,v1,v2,v3,v4,v5,hne,hne']) rfl ?_;exact FIN.out
 ·obtain⟨F4,r4,hF4,-⟩:=D6.in4 hbw;have hX:=Aq (Ak (show 0<ps.length by omega));generalize ps[0]'(by omega)=y0 at hX;obtain⟨bb,o_,cc_,cs,hv,hbb,-,-,-⟩:=r4.read.atX hX.out;simp only[Cz]at hv;obtain⟨rfl,-,rfl⟩:=hv;have p_:=D6.p4;have b_:=D6.q 4 (by omega);have hps1:(1:Int)<=(ps.length:Int):=by omega
  obtain⟨x8,hx8⟩:∃u,u=x6.setCell ⟨g,4,none⟩ (.slice (if c4=1 then some ⟨bb,o_,none⟩else some ⟨bb,o_+4,none⟩) (ps.length-1) (c4-1)):=⟨_,rfl⟩;have HX8:=Aq hx8;obtain⟨NA,hNA⟩:∃NA:Yo,(if c4=1 then some ⟨bb,o_,none⟩else some ⟨bb,o_+4,none⟩)=NA:=⟨_,rfl⟩;obtain⟨nn,hnn⟩:∃nn:Nat,ps.length-1=nn:=⟨_,rfl⟩;obtain⟨cc,hcc⟩:∃cc:Nat,c4-1=cc:=⟨_,rfl⟩;rw[hNA,hnn,hcc]at hx8;have HNA:=Aq hNA;have HNN:=Aq hnn;have HCC:=Aq hcc;clear hNA hnn hcc;have C8:Chg (fun z=>z<=w.heap.size\/z=g) x6 x8:=by rw[hx8];exact Chg.set x6 g 4 _ (.inr rfl)
  have a0:x8.cell? ⟨g,0,none⟩=some (.int .i64 i):=by rw[hx8];exact(zaf x6 g _ (by decide)).trans D6.p0
  have a1:x8.cell? ⟨g,1,none⟩=some (.slice A1 src.length c1):=by rw[hx8];exact(zaf x6 g _ (by decide)).trans D6.p1
  have a2:x8.cell? ⟨g,2,none⟩=some (.slice A2 ts.length c2):=by rw[hx8];exact(zaf x6 g _ (by decide)).trans D6.p2
  have a3:x8.cell? ⟨g,3,none⟩=some (.slice A3 fs.length c3):=by rw[hx8];exact(zaf x6 g _ (by decide)).trans D6.p3
  have a4:x8.cell? ⟨g,4,none⟩=some (.slice NA nn cc):=by rw[hx8];exact Dj _ _ _ D6.p4
  have a5:x8.cell? ⟨g,5,none⟩=some (.slice A5 ms.length c5):=by rw[hx8];exact(zaf x6 g _ (by decide)).trans D6.p5
  have ee:∀j,j<6->x8.cell? ⟨w.heap.size,j,none⟩=some (if j=0 then .int .i64 0 else .slice none 0 0)/\x8.frozen? ⟨w.heap.size,j,none⟩=false:=fun j hj=>by
   refine⟨?_,by rw[hx8,Bf];exact(D6.e j hj).2⟩;rw[hx8,Ek (Fg x6 ⟨g,4,none⟩ w.heap.size _ (by show w.heap.size≠g;omega))];exact(D6.e j hj).1
  have r0:=(ee 0 (by omega)).1;have r1:=(ee 1 (by omega)).1;have r2:=(ee 2 (by omega)).1;have r3:=(ee 3 (by omega)).1;have r4_:=(ee 4 (by omega)).1;have r5:=(ee 5 (by omega)).1;have v0:=(ee 0 (by omega)).2;have v1:=(ee 1 (by omega)).2;have v2:=(ee 2 (by omega)).2;have v3:=(ee 3 (by omega)).2;have v4:=(ee 4 (by omega)).2;have v5:=(ee 5 (by omega)).2;rw[if_pos rfl]at r0;rw[if_neg (by decide)]at r1 r2 r3 r4_ r5;have hne:g≠w.heap.size:=by omega
  have hne':w.heap.size≠g:=by omega
  have HD6:=Aq D6;have HC8:=Aq C8;have HX8':=Aq hx8;clear hx8 D6 ee C8 r4 hF4;go_upto_region 17 with fail
  rw[<-HX8.out]
  try rw[HNA.out]
  go_wp2;refine Cy (v:=.agg #[.int .i64 i,.slice A1 src.length c1,.slice A2 ts.length c2,.slice A3 fs.length c3,.slice NA nn cc,.slice A5 ms.length c5]) (by simp[results,Tryz.results54,go_sem,r0,r1,r2,r3,r4_,r5,v0,v1,v2,v3,v4,v5,hne,hne']) rfl ?_;have st:∀(u:Yw) (o:Nat) (x:Value),Chg (fun z=>z<=w.heap.size\/z=g) u (u.setCell ⟨w.heap.size,o,none⟩ x):=fun u o x=>Chg.set u w.heap.size o _ (.inl (Aj _))
  have CC:=HC8.out.trans ((((((st x8 0 (.int .i64 i)).trans (st _ 1 (.slice A1 src.length c1))).trans (st _ 2 (.slice A2 ts.length c2))).trans (st _ 3 (.slice A3 fs.length c3))).trans (st _ 4 (.slice NA nn cc))).trans (st _ 5 (.slice A5 ms.length c5)));have hx8':=HX8'.out;have CM:=(Chg.set (F:=fun z=>z=w.heap.size\/z=g) x6 g 4 (.slice NA nn cc) (.inr rfl));rw[<-hx8']at CM;have st2:∀(u:Yw) (o:Nat) (x:Value),Chg (fun z=>z=w.heap.size\/z=g) u (u.setCell ⟨w.heap.size,o,none⟩ x):=fun u o x=>Chg.set u w.heap.size o _ (.inl rfl)
  have MB:=(CM.trans ((((((st2 x8 0 (.int .i64 i)).trans (st2 _ 1 (.slice A1 src.length c1))).trans (st2 _ 2 (.slice A2 ts.length c2))).trans (st2 _ 3 (.slice A3 fs.length c3))).trans (st2 _ 4 (.slice NA nn cc))).trans (st2 _ 5 (.slice A5 ms.length c5)))).toBelow (B:=w.heap.size) (fun z h=>by rcases h with h|h <;> omega) (by omega);refine⟨_,_,_,_,_,_,_,_,_,_,_,_,_,_,_,_,((i,src,ts,fs,ps.drop 1,ms):Sess),rfl,fun w2 hw2=>?_,Aq ⟨FEW.out.sn,FEW.out.tn,FEW.out.fn,by show (ps.drop 1).length<=30;rw[List.length_drop];omega,fun p hp=>FEW.out.e1 p (List.mem_of_mem_drop hp),fun p hp=>FEW.out.e2 p (List.mem_of_mem_drop hp),fun p hp=>FEW.out.e3 p (List.mem_of_mem_drop hp),FEW.out.mn,FEW.out.mt⟩,HD6.out.mid.thenB' MB (Aj _)⟩;obtain⟨R1,R2,R3,R4,R5⟩:=HD6.out.reads (CC.trans (hw2.wide (fun z h=>.inl (Nat.le_of_lt h))));have RT:=R4.tail (by omega);rw[show (some (⟨bb,o_,none⟩:Addr)).map (·.add (1*tP.s))=some ⟨bb,o_+4,none⟩from rfl,HNA.out,HNN.out,HCC.out]at RT;exact tZ_R.2 ⟨_,_,_,_,_,_,_,_,_,_,_,_,_,_,_,rfl,sl_R.2 R1,sl_R.2 R2,sl_R.2 R3,sl_R.2 RT,sl_R.2 R5⟩
 ·obtain⟨U2,hU2⟩:∃U,U=x6:=⟨_,rfl⟩;rw[<-hU2]at D6 s6 z6 t6 ⊢;have HD:=Aq D6;have UP1:=D6.p1;obtain⟨F1,r1_,hF1,K1⟩:=D6.in1 hbw;have K1':=Aq K1;clear hU2 K1 D6;have hX:=Aq (Ak (show 0<src.length by omega));generalize src[0]'(by omega)=x0 at hX;have hx15:x0.length<=15:=hsl.out x0 (Eg hX.out);obtain⟨css,Fs,hole,cs,hcs,hE⟩:=r1_.openAt hX.out;obtain⟨A0,n0,c0,rfl⟩:=zbv (tS.read hE);have oE:=sl_O.1 hE;obtain rfl:x0.length=n0:=oE.read.cap.1;obtain⟨gr,rfl,hgF,hgn,hgl,-⟩:=hole.form (show 0<src.length by omega);have c0_:U2.cell? ⟨gr,0*1+0,none⟩=_:=(hole.cell hcs (j:=0) rfl).1;have f0_:U2.frozen? ⟨gr,0*1+0,none⟩=_:=(hole.cell hcs (j:=0) rfl).2;simp only[Nat.zero_mul,Nat.zero_add]at c0_ f0_;obtain⟨G,hG⟩:∃G:Nat->Prop,G=Fs 0:=⟨_,rfl⟩;have HG2:=Aq hG;have GX:=Aq (show ¬G g from fun h=>by rw[hG]at h;exact(hF1 g (hole.fits g h)).2.1 rfl);have GN:=Aq (show ¬G gr from fun h=>by rw[hG]at h;exact hgn h);have g1:=ChgTo.cell (F:=G) UP1 (fun h=>GX.out h);have g0:=ChgTo.cell (F:=G) c0_ (fun h=>GN.out h);have hs1:(0:Int)<(src.length:Int):=by omega
  have oD:=oE.chg (Chg.of_below (zad (Aw U2.heap.size U2) 1) (fun _=>False)) (fun _ _ h=>h);have dz:U2.drew.heap.size=U2.heap.size:=rfl;have BD:Below U2.heap.size U2 U2.drew:=zad (Aw U2.heap.size U2) 1;have cd_:U2.drew.cell? ⟨gr,0,none⟩=_:=(BD.cell (by show gr<_;exact hgl)).trans c0_;have fd_:U2.drew.frozen? ⟨gr,0,none⟩=_:=(BD.frozen (by show gr<_;exact hgl)).trans f0_;have HBD:=Aq BD;clear hG oE hE BD;go_wp2_with fail
  (refine zc4 G [0,2] [1,3,4,5] 3 (.one 6 (.one 7 (.first 8 .rest))) [9] [9] (by kernel_rfl) (by kernel_rfl) ?_;simp only[zak];simp only[List.filterMap,By,Bg];(repeat (go_big_quiet_step (fail)));refine Cv ?_;(repeat (go_big_quiet_step (fail)));refine Cv ?_)
  refine zai rfl ?_;go_wp2_with fail;refine⟨⟨⟨_,Chg.of_below ((zad (Aw U2.heap.size _) 1).alloc (Aj _) _) _⟩,rfl⟩,zai rfl ?_⟩;go_wp2_with (at_builtin;go_loud (rw[show (U2.alloc (.cells #[.int .i64 2147483648] 2)).drew=U2.drew.alloc (.cells #[.int .i64 2147483648] 2)from rfl];refine za8 zbu #[.int .i64 2147483648] rfl _ _ rfl oD (Fe:=fun _=>False) (y:=2147483648) rfl (fun _ _ h=>h) rfl rfl (by unfold maxLen;omega) (by omega) ?_;intro v8 w8 own8 ch8;obtain⟨A8,c8,e8⟩:=own8.shape;rw[Cw,Dw]at e8;subst e8;have P8:w8.cell? ⟨gr,0,none⟩=some (.slice A0 x0.length c0):=(by rw[ch8.cell1 (show gr<U2.drew.heap.size by omega) (fun h=>hgn h)];exact cd_);have Q8:w8.frozen? ⟨gr,0,none⟩=false:=(by rw[ch8.frozen1 (show gr<U2.drew.heap.size by omega) (fun h=>hgn h)];exact fd_)));have CU:Chg (Fs 0) U2 w8:=(Chg.of_below HBD.out _).trans ch8;have C8:Chg G U2 w8:=by rw[HG2.out];exact CU
  refine⟨⟨⟨w8,C8⟩,rfl⟩,?_⟩
  (refine za6 rfl ?_;(repeat (go_big_quiet_step (fail)));refine Cv ?_)
  refine zbc ?_;have s0_:=(hole.chg CU).set hcs 0 (by decide) (.slice A8 (x0.length+1) c8);obtain⟨X9,hX9⟩:∃u,u=w8.setCell ⟨gr,0,none⟩ (.slice A8 (x0.length+1) c8):=⟨_,rfl⟩;have s0':=s0_.1;rw[Nat.zero_mul,Nat.zero_add,<-hX9]at s0';have CS:Chg (fun z=>z=gr) w8 X9:=by rw[hX9];exact Chg.set w8 gr 0 _ rfl
  have own9:=own8.chg CS (fun z h1 h2=>by
   have h2:z=gr:=h2;subst h2;rcases h1 with h1|h1|h1
   ·exact hgn h1
   ·exact h1
   have:=h1.1;omega)
  have fin9:=s0'.fill2 (s0_.2) (y:=x0++[2147483648]) (sl_O.2 own9) (fun z h=>by
   rcases h with h|h|h
   ·exact .inl h
   ·exact h.elim
   exact .inr (fun h2=>by have a1:=(hF1 z h2).2.2;have a2:=h.1;omega))
  have CF:Chg F1 U2 X9:=(CU.wide (fun z h=>hole.fits z h)).trans (CS.wide (fun z h=>by have h2:z=gr:=h;rw[h2];exact hgF))
  have D9:=K1'.out X9 _ _ CF fin9 (fun z h=>by
   rcases h with h|h|h|h
   ·exact .inl h
   ·exact .inl (hole.fits z h)
   ·exact h.elim
   exact .inr (by have:=h.1;omega))
  have HX9:=Aq hX9;clear hX9 s0' own9 fin9 CF CS s0_ hole hcs r1_ g1 g0 oD;have hmid:=D9.mid;have a0:=D9.p0;have a1:=D9.p1;have a2:=D9.p2;have a3:=D9.p3;have a4:=D9.p4;have a5:=D9.p5;have r0:=(D9.e 0 (by omega)).1;have r1:=(D9.e 1 (by omega)).1;have r2:=(D9.e 2 (by omega)).1;have r3:=(D9.e 3 (by omega)).1;have r4:=(D9.e 4 (by omega)).1;have r5:=(D9.e 5 (by omega)).1;have v0:=(D9.e 0 (by omega)).2;have v1:=(D9.e 1 (by omega)).2;have v2:=(D9.e 2 (by omega)).2;have v3:=(D9.e 3 (by omega)).2;have v4:=(D9.e 4 (by omega)).2;have v5:=(D9.e 5 (by omega)).2;rw[if_pos rfl]at r0;rw[if_neg (by decide)]at r1 r2 r3 r4 r5;have UX:=D9.sz;have hne:g≠w.heap.size:=by omega
  have hne':w.heap.size≠g:=by omega
  have FIN:=Aq (D9.fin hbw (P:=M.fewZ) ⟨⟨by show (src.set 0 (x0++[2147483648])).length<=30;rw[Fx];omega,fun s hs=>by
   rcases List.mem_or_eq_of_mem_set hs with h1|h1
   ·exact FEW.out.sn.2 s h1
   rw[h1,Cw,Dw];omega⟩,FEW.out.tn,FEW.out.fn,FEW.out.en,FEW.out.e1,FEW.out.e2,FEW.out.e3,FEW.out.mn,FEW.out.mt⟩).toR
  clear D9 hmid;go_upto_region 17 with fail
  rw[<-HX9.out];go_wp2;refine Cy (v:=.agg #[.int .i64 i,.slice (some ⟨gr,0,none⟩) src.length c1,.slice A2 ts.length c2,.slice A3 fs.length c3,.slice A4 ps.length c4,.slice A5 ms.length c5]) (by simp[results,Tryz.results54,go_sem,r0,r1,r2,r3,r4,r5,v0,v1,v2,v3,v4,v5,hne,hne']) rfl ?_;exact FIN.out
 ·have HD6:=Aq D6;have MB:=Aq (zz8 b lo A n c code _ x6 s6 (by omega));clear D6;go_wp2_with fail;refine MB.out.mono ?_;rintro e x7 ⟨A7,c7,ns,rfl,o7,hl7,ht7,m7⟩;have t7:=m7.size;obtain⟨x8,hx8⟩:∃u,u=x7.setCell ⟨g,5,none⟩ (.slice A7 ns.length c7):=⟨_,rfl⟩;have HX8:=Aq hx8;have cK:∀(o:Nat) (u:Option Value),x6.cell? ⟨g,o,none⟩=u->x7.cell? ⟨g,o,none⟩=u:=fun o u h3=>m7.cellK (by omega) (.inr (by omega)) h3
  have p_:=cK _ _ HD6.out.p5;have b_:x7.frozen? ⟨g,5,none⟩=false:=m7.frozK (by omega) (.inr (by omega)) (HD6.out.q 5 (by omega));have CK:=Aq cK;clear cK;go_upto_region 17 with fail
  rw[<-HX8.out];have cK:=CK.out;have a0:x8.cell? ⟨g,0,none⟩=some (.int .i64 i):=by rw[hx8];exact(zaf x7 g _ (by decide)).trans (cK _ _ HD6.out.p0)
  have a1:x8.cell? ⟨g,1,none⟩=some (.slice A1 src.length c1):=by rw[hx8];exact(zaf x7 g _ (by decide)).trans (cK _ _ HD6.out.p1)
  have a2:x8.cell? ⟨g,2,none⟩=some (.slice A2 ts.length c2):=by rw[hx8];exact(zaf x7 g _ (by decide)).trans (cK _ _ HD6.out.p2)
  have a3:x8.cell? ⟨g,3,none⟩=some (.slice A3 fs.length c3):=by rw[hx8];exact(zaf x7 g _ (by decide)).trans (cK _ _ HD6.out.p3)
  have a4:x8.cell? ⟨g,4,none⟩=some (.slice A4 ps.length c4):=by rw[hx8];exact(zaf x7 g _ (by decide)).trans (cK _ _ HD6.out.p4)
  have a5:x8.cell? ⟨g,5,none⟩=some (.slice A7 ns.length c7):=by rw[hx8];exact Dj _ _ _ p_
  have ee:∀j,j<6->x8.cell? ⟨w.heap.size,j,none⟩=some (if j=0 then .int .i64 0 else .slice none 0 0)/\x8.frozen? ⟨w.heap.size,j,none⟩=false:=fun j hj=>by
   have h1:=m7.cellK (o:=j) (by omega) (.inr (by omega)) (HD6.out.e j hj).1;have h2:=m7.frozK (o:=j) (by omega) (.inr (by omega)) (HD6.out.e j hj).2;refine⟨?_,by rw[hx8,Bf];exact h2⟩;rw[hx8,Ek (Fg x7 ⟨g,5,none⟩ w.heap.size _ (by show w.heap.size≠g;omega))];exact h1
  have r0:=(ee 0 (by omega)).1;have r1:=(ee 1 (by omega)).1;have r2:=(ee 2 (by omega)).1;have r3:=(ee 3 (by omega)).1;have r4_:=(ee 4 (by omega)).1;have r5:=(ee 5 (by omega)).1;have v0:=(ee 0 (by omega)).2;have v1:=(ee 1 (by omega)).2;have v2:=(ee 2 (by omega)).2;have v3:=(ee 3 (by omega)).2;have v4:=(ee 4 (by omega)).2;have v5:=(ee 5 (by omega)).2;rw[if_pos rfl]at r0;rw[if_neg (by decide)]at r1 r2 r3 r4_ r5;have hne:g≠w.heap.size:=by omega
  have hne':w.heap.size≠g:=by omega
  have O7:=Aq o7;have M7:=Aq m7;have HX8':=Aq hx8;clear hx8 ee o7 m7 cK;go_wp2;refine Cy (v:=.agg #[.int .i64 i,.slice A1 src.length c1,.slice A2 ts.length c2,.slice A3 fs.length c3,.slice A4 ps.length c4,.slice A7 ns.length c7]) (by simp[results,Tryz.results54,go_sem,r0,r1,r2,r3,r4_,r5,v0,v1,v2,v3,v4,v5,hne,hne']) rfl ?_;have hx8':=HX8'.out;have CM:=(Chg.set (F:=fun z=>z=w.heap.size\/z=g) x7 g 5 (.slice A7 ns.length c7) (.inr rfl));rw[<-hx8']at CM;have st2:∀(u:Yw) (o:Nat) (x:Value),Chg (fun z=>z=w.heap.size\/z=g) u (u.setCell ⟨w.heap.size,o,none⟩ x):=fun u o x=>Chg.set u w.heap.size o _ (.inl rfl)
  have C78:=CM.trans ((((((st2 x8 0 (.int .i64 i)).trans (st2 _ 1 (.slice A1 src.length c1))).trans (st2 _ 2 (.slice A2 ts.length c2))).trans (st2 _ 3 (.slice A3 fs.length c3))).trans (st2 _ 4 (.slice A4 ps.length c4))).trans (st2 _ 5 (.slice A7 ns.length c7)));have MB:=C78.toBelow (B:=w.heap.size) (fun z h=>by rcases h with h|h <;> omega) (by omega)
  have C67:Chg (fun z=>z<=w.heap.size\/z=g) x6 x7:=⟨M7.out.os,M7.out.tape,M7.out.output,M7.out.size,fun i hi hn=>M7.out.block i hi (by
   rcases Fj i b with h|h
   ·exact .inl h
   exact .inr (by rcases Fj b i with h2|h2;exact h2;exact absurd (.inl (by omega)) hn))⟩
  refine⟨_,_,_,_,_,_,_,_,_,_,_,_,_,_,_,_,((i,src,ts,fs,ps,ns):Sess),rfl,fun w2 hw2=>?_,Aq ⟨FEW.out.sn,FEW.out.tn,FEW.out.fn,FEW.out.en,FEW.out.e1,FEW.out.e2,FEW.out.e3,by show ns.length<=8;omega,ht7.out.up (by omega)⟩,(HD6.out.mid.trans M7.out).thenB' MB (Aj _)⟩;obtain⟨R1,R2,R3,R4,-⟩:=HD6.out.reads ((C67.trans (C78.wide (fun z h=>by rcases h with h|h;exact .inl (Nat.le_of_eq h);exact .inr h))).trans (hw2.wide (fun z h=>.inl (Nat.le_of_lt h))));have R5:=((O7.out.chg C78 (fun z h1 h2=>by have h3:x6.heap.size<z:=h1;rcases h2 with h2|h2 <;> omega)).chg hw2 (fun z h1 h2=>by have h3:x6.heap.size<z:=h1;omega)).read;exact tZ_R.2 ⟨_,_,_,_,_,_,_,_,_,_,_,_,_,_,_,rfl,sl_R.2 R1,sl_R.2 R2,sl_R.2 R3,sl_R.2 R4,sl_R.2 R5⟩
 ·obtain⟨U2,hU2⟩:∃U,U=x6:=⟨_,rfl⟩;rw[<-hU2]at D6 s6 z6 t6 ⊢;have HD:=Aq D6;have UP1:=D6.p1;have UP4:=D6.p4;obtain⟨G,hG⟩:∃G:Nat->Prop,G=fun z=>z=b\/(w.heap.size<z/\z≠g):=⟨_,rfl⟩
  have HG2:=Aq hG
  have GX:=Aq (show ¬G g from fun h=>by
   rw[hG]at h;rcases h with h|h
   ·omega
   exact h.2 rfl)
  have g1:=ChgTo.cell (F:=G) UP1 (fun h=>GX.out h);have g4:=ChgTo.cell (F:=G) UP4 (fun h=>GX.out h);have bsU:=D6.src.lt;clear hU2 hG;have SD:=Aq (zz2 b lo A n c code _ U2.drew (D6.src.below (zad (Aw U2.heap.size _) 1) bsU) (by omega));clear D6;go_wp2_with fail
  (refine zc4 G [0,2] [1] 2 (.one 3 (.first 4 .rest)) [5] [5] (by kernel_rfl) (by kernel_rfl) ?_;simp only[zak];simp only[List.filterMap,By,Bg];(repeat (go_big_quiet_step (fail)));refine Cv ?_;(repeat (go_big_quiet_step (fail)));refine Cv ?_)
  refine zai rfl ?_;go_wp2_with fail;refine SD.out.mono ?_;rintro e x7 ⟨nk,B1,m1_,d1,B2,m2_,d2,B3,m3_,d3,px,rfl,no,nP,s7,m7⟩;have m7':Mid b (b+1) U2 x7:=(Mid.of_below (zad (Aw U2.heap.size _) 1) b (b+1)).trans m7;have E7:=HD.out.step hbw s7 m7';have lt7:=m7'.size
  have C7:Chg G U2 x7:=⟨m7'.os,m7'.tape,m7'.output,m7'.size,fun i hi hn=>m7'.block i hi (by
   rw[HG2.out]at hn;rcases Fj i b with h|h
   ·exact .inl h
   exact .inr (by rcases Fj b i with h2|h2;exact h2;exact absurd (.inl (by omega)) hn))⟩
  obtain⟨F4,r4,hF4,K4⟩:=E7.in4 hbw;have K4':=Aq K4;have z7:=E7.sz;clear E7 K4;have hX:=Aq (Ak (show 0<ps.length by omega));generalize ps[0]'(by omega)=x0 at hX;obtain⟨css,Fs,hole,cs,hcs,hE⟩:=r4.openAt hX.out;obtain⟨k0,y1,y2,y3⟩:=x0;obtain⟨E1,q1,e1,E2,q2,e2,E3,q3,e3,_,_,_,rfl,-,-,-,-,-,-,-,-,-⟩:=tP_O.1 hE;obtain⟨gr,rfl,hgF,hgn,hgl,-⟩:=hole.form (show 0<ps.length by omega);have c0_:x7.cell? ⟨gr,0*4+0,none⟩=_:=(hole.cell hcs (j:=0) rfl).1;have c1_:x7.cell? ⟨gr,0*4+1,none⟩=_:=(hole.cell hcs (j:=1) rfl).1;have c2_:x7.cell? ⟨gr,0*4+2,none⟩=_:=(hole.cell hcs (j:=2) rfl).1;have c3_:x7.cell? ⟨gr,0*4+3,none⟩=_:=(hole.cell hcs (j:=3) rfl).1;have f0_:x7.frozen? ⟨gr,0*4+0,none⟩=_:=(hole.cell hcs (j:=0) rfl).2;have f1_:x7.frozen? ⟨gr,0*4+1,none⟩=_:=(hole.cell hcs (j:=1) rfl).2;have f2_:x7.frozen? ⟨gr,0*4+2,none⟩=_:=(hole.cell hcs (j:=2) rfl).2;have f3_:x7.frozen? ⟨gr,0*4+3,none⟩=_:=(hole.cell hcs (j:=3) rfl).2;simp only[Nat.zero_mul,Nat.zero_add]at c0_ c1_ c2_ c3_ f0_ f1_ f2_ f3_;have hs1:(0:Int)<(ps.length:Int):=by omega
  have s0_:=hole.set hcs 0 (by decide) (.int .i64 nk);have s1_:=s0_.1.set s0_.2 1 (by decide) (.slice B1 m1_ d1);have s2_:=s1_.1.set s1_.2 2 (by decide) (.slice B2 m2_ d2);have s3_:=s2_.1.set s2_.2 3 (by decide) (.slice B3 m3_ d3);obtain⟨X8,hX8⟩:∃u,u=(((x7.setCell ⟨gr,0,none⟩ (.int .i64 nk)).setCell ⟨gr,1,none⟩ (.slice B1 m1_ d1)).setCell ⟨gr,2,none⟩ (.slice B2 m2_ d2)).setCell ⟨gr,3,none⟩ (.slice B3 m3_ d3):=⟨_,rfl⟩;have CH:Chg F4 x7 X8:=by rw[hX8];exact(((Chg.set _ gr _ _ hgF).trans (Chg.set _ gr _ _ hgF)).trans (Chg.set _ gr _ _ hgF)).trans (Chg.set _ gr _ _ hgF)
  have yO:tP.O X8 (fun z=>Iv U2.drew.heap.size x7.heap.size z/\z<x7.heap.size) [.int .i64 nk,.slice B1 m1_ d1,.slice B2 m2_ d2,.slice B3 m3_ d3] px:=tP.owide (fun z h=>⟨h,h.2⟩) (tP.ochg no CH (fun z h1 h2=>by have a1:=(hF4 z h2).2.2;have a2:U2.heap.size<=z:=h1.1;omega));have s3':=s3_.1;rw[Nat.zero_mul,Nat.zero_add,Nat.zero_add,Nat.zero_add,Nat.zero_add,<-hX8]at s3';have own8:=s3'.fill' s3_.2 yO (fun z h1 h2=>by have a1:=(hF4 z h2).2.2;have a2:U2.heap.size<=z:=h1.1.1;omega)
  have D8:=K4'.out X8 _ _ CH own8 (fun z h=>by
   rcases h with h|h
   ·exact .inl h
   exact .inr h.1.1)
  have HX8:=Aq hX8;have NP:=nP.out;clear hX8 CH yO own8 s3' s0_ s1_ s2_ s3_ hole hE hcs r4;go_wp2_with fail;refine⟨⟨⟨x7,C7⟩,rfl⟩,?_⟩
  (refine za6 rfl ?_;(repeat (go_big_quiet_step (fail)));refine Cv ?_)
  refine zbc ?_;clear g1 g4 UP1 UP4;have hmid:=D8.mid;have a0:=D8.p0;have a1:=D8.p1;have a2:=D8.p2;have a3:=D8.p3;have a4:=D8.p4;have a5:=D8.p5;have r0:=(D8.e 0 (by omega)).1;have r1:=(D8.e 1 (by omega)).1;have r2:=(D8.e 2 (by omega)).1;have r3:=(D8.e 3 (by omega)).1;have r4:=(D8.e 4 (by omega)).1;have r5:=(D8.e 5 (by omega)).1;have v0:=(D8.e 0 (by omega)).2;have v1:=(D8.e 1 (by omega)).2;have v2:=(D8.e 2 (by omega)).2;have v3:=(D8.e 3 (by omega)).2;have v4:=(D8.e 4 (by omega)).2;have v5:=(D8.e 5 (by omega)).2;rw[if_pos rfl]at r0;rw[if_neg (by decide)]at r1 r2 r3 r4 r5;have UX:=D8.sz;have hne:g≠w.heap.size:=by omega
  have hne':w.heap.size≠g:=by omega
  have FIN:=Aq (D8.fin hbw (P:=M.fewZ) ⟨FEW.out.sn,FEW.out.tn,FEW.out.fn,by show (ps.set 0 px).length<=30;rw[Fx];omega,fun p hp=>by
   rcases List.mem_or_eq_of_mem_set hp with h1|h1
   ·exact FEW.out.e1 p h1
   ·rw[h1];exact NP.t,fun p hp=>by
   rcases List.mem_or_eq_of_mem_set hp with h1|h1
   ·exact FEW.out.e2 p h1
   ·rw[h1];exact NP.n,fun p hp=>by
   rcases List.mem_or_eq_of_mem_set hp with h1|h1
   ·exact FEW.out.e3 p h1
   rw[h1];exact NP.o,FEW.out.mn,FEW.out.mt⟩).toR
  clear D8 hmid;go_upto_region 17 with fail
  rw[<-HX8.out];go_wp2;refine Cy (v:=.agg #[.int .i64 i,.slice A1 src.length c1,.slice A2 ts.length c2,.slice A3 fs.length c3,.slice (some ⟨gr,0,none⟩) ps.length c4,.slice A5 ms.length c5]) (by simp[results,Tryz.results54,go_sem,r0,r1,r2,r3,r4,r5,v0,v1,v2,v3,v4,v5,hne,hne']) rfl ?_;exact FIN.out
 ·obtain⟨F4,r4,hF4,-⟩:=D6.in1 hbw;have hX:=Aq (Ak (show 0<src.length by omega));generalize src[0]'(by omega)=y0 at hX;obtain⟨bb,o_,cc_,cs,hv,hbb,-,-,-⟩:=r4.read.atX hX.out;simp only[Cz]at hv;obtain⟨rfl,-,rfl⟩:=hv;have p_:=D6.p1;have b_:=D6.q 1 (by omega);have hps1:(1:Int)<=(src.length:Int):=by omega
  obtain⟨x8,hx8⟩:∃u,u=x6.setCell ⟨g,1,none⟩ (.slice (if c1=1 then some ⟨bb,o_,none⟩else some ⟨bb,o_+1,none⟩) (src.length-1) (c1-1)):=⟨_,rfl⟩;have HX8:=Aq hx8;obtain⟨NA,hNA⟩:∃NA:Yo,(if c1=1 then some ⟨bb,o_,none⟩else some ⟨bb,o_+1,none⟩)=NA:=⟨_,rfl⟩;obtain⟨nn,hnn⟩:∃nn:Nat,src.length-1=nn:=⟨_,rfl⟩;obtain⟨cc,hcc⟩:∃cc:Nat,c1-1=cc:=⟨_,rfl⟩;rw[hNA,hnn,hcc]at hx8;have HNA:=Aq hNA;have HNN:=Aq hnn;have HCC:=Aq hcc;clear hNA hnn hcc;have C8:Chg (fun z=>z<=w.heap.size\/z=g) x6 x8:=by rw[hx8];exact Chg.set x6 g 1 _ (.inr rfl)
  have a0:x8.cell? ⟨g,0,none⟩=some (.int .i64 i):=by rw[hx8];exact(zaf x6 g _ (by decide)).trans D6.p0
  have a1:x8.cell? ⟨g,1,none⟩=some (.slice NA nn cc):=by rw[hx8];exact Dj _ _ _ D6.p1
  have a2:x8.cell? ⟨g,2,none⟩=some (.slice A2 ts.length c2):=by rw[hx8];exact(zaf x6 g _ (by decide)).trans D6.p2
  have a3:x8.cell? ⟨g,3,none⟩=some (.slice A3 fs.length c3):=by rw[hx8];exact(zaf x6 g _ (by decide)).trans D6.p3
  have a4:x8.cell? ⟨g,4,none⟩=some (.slice A4 ps.length c4):=by rw[hx8];exact(zaf x6 g _ (by decide)).trans D6.p4
  have a5:x8.cell? ⟨g,5,none⟩=some (.slice A5 ms.length c5):=by rw[hx8];exact(zaf x6 g _ (by decide)).trans D6.p5
  have ee:∀j,j<6->x8.cell? ⟨w.heap.size,j,none⟩=some (if j=0 then .int .i64 0 else .slice none 0 0)/\x8.frozen? ⟨w.heap.size,j,none⟩=false:=fun j hj=>by
   refine⟨?_,by rw[hx8,Bf];exact(D6.e j hj).2⟩;rw[hx8,Ek (Fg x6 ⟨g,1,none⟩ w.heap.size _ (by show w.heap.size≠g;omega))];exact(D6.e j hj).1
  have r0:=(ee 0 (by omega)).1;have r1:=(ee 1 (by omega)).1;have r2:=(ee 2 (by omega)).1;have r3:=(ee 3 (by omega)).1;have r4_:=(ee 4 (by omega)).1;have r5:=(ee 5 (by omega)).1;have v0:=(ee 0 (by omega)).2;have v1:=(ee 1 (by omega)).2;have v2:=(ee 2 (by omega)).2;have v3:=(ee 3 (by omega)).2;have v4:=(ee 4 (by omega)).2;have v5:=(ee 5 (by omega)).2;rw[if_pos rfl]at r0;rw[if_neg (by decide)]at r1 r2 r3 r4_ r5;have hne:g≠w.heap.size:=by omega
  have hne':w.heap.size≠g:=by omega
  have HD6:=Aq D6;have HC8:=Aq C8;have HX8':=Aq hx8;clear hx8 D6 ee C8 r4 hF4;go_upto_region 17 with fail
  rw[<-HX8.out]
  try rw[HNA.out]
  go_wp2;refine Cy (v:=.agg #[.int .i64 i,.slice NA nn cc,.slice A2 ts.length c2,.slice A3 fs.length c3,.slice A4 ps.length c4,.slice A5 ms.length c5]) (by simp[results,Tryz.results54,go_sem,r0,r1,r2,r3,r4_,r5,v0,v1,v2,v3,v4,v5,hne,hne']) rfl ?_;have st:∀(u:Yw) (o:Nat) (x:Value),Chg (fun z=>z<=w.heap.size\/z=g) u (u.setCell ⟨w.heap.size,o,none⟩ x):=fun u o x=>Chg.set u w.heap.size o _ (.inl (Aj _))
  have CC:=HC8.out.trans ((((((st x8 0 (.int .i64 i)).trans (st _ 1 (.slice NA nn cc))).trans (st _ 2 (.slice A2 ts.length c2))).trans (st _ 3 (.slice A3 fs.length c3))).trans (st _ 4 (.slice A4 ps.length c4))).trans (st _ 5 (.slice A5 ms.length c5)));have hx8':=HX8'.out;have CM:=(Chg.set (F:=fun z=>z=w.heap.size\/z=g) x6 g 1 (.slice NA nn cc) (.inr rfl));rw[<-hx8']at CM;have st2:∀(u:Yw) (o:Nat) (x:Value),Chg (fun z=>z=w.heap.size\/z=g) u (u.setCell ⟨w.heap.size,o,none⟩ x):=fun u o x=>Chg.set u w.heap.size o _ (.inl rfl)
  have MB:=(CM.trans ((((((st2 x8 0 (.int .i64 i)).trans (st2 _ 1 (.slice NA nn cc))).trans (st2 _ 2 (.slice A2 ts.length c2))).trans (st2 _ 3 (.slice A3 fs.length c3))).trans (st2 _ 4 (.slice A4 ps.length c4))).trans (st2 _ 5 (.slice A5 ms.length c5)))).toBelow (B:=w.heap.size) (fun z h=>by rcases h with h|h <;> omega) (by omega);refine⟨_,_,_,_,_,_,_,_,_,_,_,_,_,_,_,_,((i,src.drop 1,ts,fs,ps,ms):Sess),rfl,fun w2 hw2=>?_,Aq ⟨⟨by show (src.drop 1).length<=30;rw[List.length_drop];omega,fun s hs=>FEW.out.sn.2 s (List.mem_of_mem_drop hs)⟩,FEW.out.tn,FEW.out.fn,FEW.out.en,FEW.out.e1,FEW.out.e2,FEW.out.e3,FEW.out.mn,FEW.out.mt⟩,HD6.out.mid.thenB' MB (Aj _)⟩;obtain⟨R1,R2,R3,R4,R5⟩:=HD6.out.reads (CC.trans (hw2.wide (fun z h=>.inl (Nat.le_of_lt h))));have RT:=R1.tail (by omega);rw[show (some (⟨bb,o_,none⟩:Addr)).map (·.add (1*tS.s))=some ⟨bb,o_+1,none⟩from rfl,HNA.out,HNN.out,HCC.out]at RT;exact tZ_R.2 ⟨_,_,_,_,_,_,_,_,_,_,_,_,_,_,_,rfl,sl_R.2 RT,sl_R.2 R2,sl_R.2 R3,sl_R.2 R4,sl_R.2 R5⟩
 have e0:(q == 0)=false:=by simp;omega
 have e1:(q == 1)=false:=by simp;omega
 have e2:(q == 2)=false:=by simp;omega
 have e3:(q == 3)=false:=by simp;omega
 have e4:(q == 4)=false:=by simp;omega
 have e5:(q == 5)=false:=by simp;omega
 have e6:(q == 6)=false:=by simp;omega
 have hmid:=D6.mid;have a0:=D6.p0;have a1:=D6.p1;have a2:=D6.p2;have a3:=D6.p3;have a4:=D6.p4;have a5:=D6.p5;have r0:=(D6.e 0 (by omega)).1;have r1:=(D6.e 1 (by omega)).1;have r2:=(D6.e 2 (by omega)).1;have r3:=(D6.e 3 (by omega)).1;have r4:=(D6.e 4 (by omega)).1;have r5:=(D6.e 5 (by omega)).1;have v0:=(D6.e 0 (by omega)).2;have v1:=(D6.e 1 (by omega)).2;have v2:=(D6.e 2 (by omega)).2;have v3:=(D6.e 3 (by omega)).2;have v4:=(D6.e 4 (by omega)).2;have v5:=(D6.e 5 (by omega)).2;rw[if_pos rfl]at r0;rw[if_neg (by decide)]at r1 r2 r3 r4 r5;have UX:=D6.sz;have hne:g≠w.heap.size:=by omega
 have hne':w.heap.size≠g:=by omega
 have FIN:=Aq (D6.fin hbw (P:=M.fewZ) ⟨FEW.out.sn,FEW.out.tn,FEW.out.fn,FEW.out.en,FEW.out.e1,FEW.out.e2,FEW.out.e3,FEW.out.mn,FEW.out.mt⟩).toR;clear D6 hmid;go_wp2;refine Cy (v:=.agg #[.int .i64 i,.slice A1 src.length c1,.slice A2 ts.length c2,.slice A3 fs.length c3,.slice A4 ps.length c4,.slice A5 ms.length c5]) (by simp[results,Tryz.results54,go_sem,r0,r1,r2,r3,r4,r5,v0,v1,v2,v3,v4,v5,hne,hne']) rfl ?_;exact FIN.out
def z0a (w:Yw) (e:Ending) (w':Yw):Prop:=
 ∃i A1 n1 c1 A2 n2 c2 A3 n3 c3 A4 n4 c4 A5 n5 c5 x,e=.returned (.agg #[.int .i64 i,.slice A1 n1 c1,.slice A2 n2 c2,.slice A3 n3 c3,.slice A4 n4 c4,.slice A5 n5 c5])/\tZ.R w' w'.heap.size [.int .i64 i,.slice A1 n1 c1,.slice A2 n2 c2,.slice A3 n3 c3,.slice A4 n4 c4,.slice A5 n5 c5] x/\Hid (M.fewZ x)/\Below w.heap.size w w'
theorem z0b(A:Yo)(n c:Nat)(code:List UInt8)(w:Yw)(hr:RS tU8 w w.heap.size (.slice A n c) code):
 Calls Tryz.prog 13 #[.slice A n c] w (z0a w):=by
 obtain⟨W,hW,B0,z0,q0,q1,q2,q3,q4,q5,qf⟩:=zcs w (.int .i64 0) (.slice none 0 0) (.slice none 0 0) (.slice none 0 0) (.slice none 0 0) (.slice none 0 0) 38;have HW:=Aq hW;clear hW;have hr0:=hr.later B0
 go_enter Tryz.func13,Tryz.ntmps13
 go_wp2_with fail;rw[<-HW.out];refine(zse A n c code W hr0).mono ?_;rintro e w1 ⟨b,rfl,hb,s1,b1,z1⟩;have hbl:w.heap.size+1<=b:=by omega
 have lt1:b+1<=w1.heap.size:=by omega
 have hb':=Aq hb;clear z1 hb;go_wp2_with fail;refine(zz9 _ _ A n c code 0 w1 s1 (by omega)).mono ?_;rintro e w2 ⟨i,A1,n1,c1,A2,n2,c2,A3,n3,c3,A4,n4,c4,A5,n5,c5,x,rfl,r2_,hP,m2⟩;have lt2:=m2.size;have ck:∀j u,W.cell? ⟨w.heap.size,j,none⟩=some u->w2.cell? ⟨w.heap.size,j,none⟩=some u:=fun j u hu=>m2.cellK (by omega) (.inl (by omega)) (by rw[b1.cell (by show w.heap.size<_;omega)];exact hu)
 have fk:∀j,w2.frozen? ⟨w.heap.size,j,none⟩=false:=fun j=>m2.frozK (by omega) (.inl (by omega)) (by rw[b1.frozen (by show w.heap.size<_;omega)];exact qf j)
 have r0:=ck 0 _ q0;have r1:=ck 1 _ q1;have r2:=ck 2 _ q2;have r3:=ck 3 _ q3;have r4:=ck 4 _ q4;have r5:=ck 5 _ q5;have v0:=fk 0;have v1:=fk 1;have v2:=fk 2;have v3:=fk 3;have v4:=fk 4;have v5:=fk 5;obtain⟨U_,hU_,y0,y1,y2,y3,y4,y5,yf,ych,ysz⟩:=box6 r0 r1 r2 r3 r4 r5 fk (.int .i64 i) (.slice A1 n1 c1) (.slice A2 n2 c2) (.slice A3 n3 c3) (.slice A4 n4 c4) (.slice A5 n5 c5);have HU_:=Aq hU_;clear hU_ ck fk q0 q1 q2 q3 q4 q5 qf;go_wp2;rw[<-HU_.out];have yf0:=yf 0;have yf1:=yf 1;have yf2:=yf 2;have yf3:=yf 3;have yf4:=yf 4;have yf5:=yf 5;refine Cy (v:=.agg #[.int .i64 i,.slice A1 n1 c1,.slice A2 n2 c2,.slice A3 n3 c3,.slice A4 n4 c4,.slice A5 n5 c5]) (by simp[results,Tryz.results13,go_sem,y0,y1,y2,y3,y4,y5,yf0,yf1,yf2,yf3,yf4,yf5]) rfl ?_;have hb1:=hb'.out;have B2:Below w.heap.size w w2:=(B0.trans (b1.mono (by omega))).trans ((m2.toBelow (by omega)).mono (by omega));exact⟨i,A1,n1,c1,A2,n2,c2,A3,n3,c3,A4,n4,c4,A5,n5,c5,x,rfl,r2_ _ (ych.wide (fun z (h:z=w.heap.size)=>by omega)),hP,B2.trans (ych.toBelow (fun z (h:z=w.heap.size)=>by omega) (by omega))⟩
theorem z0c(p:Int)(A:Yo)(n c:Nat)(Ab:Yo)(nb cb:Nat)(Ac:Yo)(nc cc:Nat)(Ad:Yo)(nd cd:Nat)(Ae:Yo)(ne ce:Nat)(KA:Yo)(kn kc:Nat)(x:Sess)(keep:List Int)(w:Yw)(hx:tZ.R w w.heap.size [.int .i64 p,.slice A n c,.slice Ab nb cb,.slice Ac nc cc,.slice Ad nd cd,.slice Ae ne ce] x)(hy:tS.R w w.heap.size [.slice KA kn kc] keep)(hkn:kn<=1000000000)(hn:hZ.sz x<=100000000):
 Calls Tryz.prog 16 #[.agg #[.int .i64 p,.slice A n c,.slice Ab nb cb,.slice Ac nc cc,.slice Ad nd cd,.slice Ae ne ce],.slice KA kn kc] w fun e w'=>∃p' A' n' c' Ab' nb' cb' Ac' nc' cc' Ad' nd' cd' Ae' ne' ce',e=.returned (.tuple #[.agg #[.int .i64 p',.slice A' n' c',.slice Ab' nb' cb',.slice Ac' nc' cc',.slice Ad' nd' cd',.slice Ae' ne' ce'],.int .i64 (zfe x keep).2])/\tZ.O w' (Iv w.heap.size w'.heap.size) [.int .i64 p',.slice A' n' c',.slice Ab' nb' cb',.slice Ac' nc' cc',.slice Ad' nd' cd',.slice Ae' ne' ce'] (zfe x keep).1/\Below w.heap.size w w':=by
 obtain⟨a0,x1,x2,x3,x4,x5⟩:=x;obtain⟨A1,n1,c1,A2,n2,c2,A3,n3,c3,A4,n4,c4,A5,n5,c5,hcs,h1,h2,h3,h4,h5⟩:=tZ_R.1 (hx);simp only[List.cons.injEq,Value.int.injEq,Cz,true_and,and_true]at hcs;obtain⟨rfl,⟨rfl,rfl,rfl⟩,⟨rfl,rfl,rfl⟩,⟨rfl,rfl,rfl⟩,⟨rfl,rfl,rfl⟩,⟨rfl,rfl,rfl⟩⟩:=hcs;exact zxw _ _ _ _ _ _ _ _ _ _ _ _ _ _ _ _ _ _ _ _ _ _ _ _ _ _ h1 h2 h3 h4 h5 (tS_R.1 hy).ri hkn hn
theorem zj1(p:Int)(A:Yo)(n c:Nat)(Ab:Yo)(nb cb:Nat)(Ac:Yo)(nc cc:Nat)(Ad:Yo)(nd cd:Nat)(Ae:Yo)(ne ce:Nat)(x:Sess)(w:Yw)(hx:tZ.R w w.heap.size [.int .i64 p,.slice A n c,.slice Ab nb cb,.slice Ac nc cc,.slice Ad nd cd,.slice Ae ne ce] x)(hn:hZ.sz x<=100000000):
 Calls Tryz.prog 14 #[.agg #[.int .i64 p,.slice A n c,.slice Ab nb cb,.slice Ac nc cc,.slice Ad nd cd,.slice Ae ne ce]] w (Ret2 2 w (zff x)):=by
 obtain⟨a0,x1,x2,x3,x4,x5⟩:=x;obtain⟨A1,n1,c1,A2,n2,c2,A3,n3,c3,A4,n4,c4,A5,n5,c5,hcs,h1,h2,h3,h4,h5⟩:=tZ_R.1 hx;simp only[List.cons.injEq,Value.int.injEq,Cz,true_and,and_true]at hcs;obtain⟨rfl,⟨rfl,rfl,rfl⟩,⟨rfl,rfl,rfl⟩,⟨rfl,rfl,rfl⟩,⟨rfl,rfl,rfl⟩,⟨rfl,rfl,rfl⟩⟩:=hcs;exact zye _ _ _ c _ _ cb _ _ cc _ _ cd _ _ ce _ _ _ _ _ _ h1 h2 h3 h4 h5 hn
theorem z0d(p:Int)(A:Yo)(n c:Nat)(Ab:Yo)(nb cb:Nat)(Ac:Yo)(nc cc:Nat)(Ad:Yo)(nd cd:Nat)(Ae:Yo)(ne ce:Nat)(x:Sess)(w:Yw)(hx:tZ.R w w.heap.size [.int .i64 p,.slice A n c,.slice Ab nb cb,.slice Ac nc cc,.slice Ad nd cd,.slice Ae ne ce] x)(hn:hZ.sz x<=100000000):
 Calls Tryz.prog 17 #[.agg #[.int .i64 p,.slice A n c,.slice Ab nb cb,.slice Ac nc cc,.slice Ad nd cd,.slice Ae ne ce]] w (zm0 w (zgj x)):=by
 obtain⟨a0,x1,x2,x3,x4,x5⟩:=x;obtain⟨A1,n1,c1,A2,n2,c2,A3,n3,c3,A4,n4,c4,A5,n5,c5,hcs,h1,h2,h3,h4,h5⟩:=tZ_R.1 hx;simp only[List.cons.injEq,Value.int.injEq,Cz,true_and,and_true]at hcs;obtain⟨rfl,⟨rfl,rfl,rfl⟩,⟨rfl,rfl,rfl⟩,⟨rfl,rfl,rfl⟩,⟨rfl,rfl,rfl⟩,⟨rfl,rfl,rfl⟩⟩:=hcs;exact zzq _ _ _ c _ _ cb _ _ cc _ _ cd _ _ ce _ _ _ _ _ _ h1 h2 h3 h4 h5 hn
theorem zqf(A:Yo)(n c:Nat)(w:Yw):
 Calls Tryz.prog 12 #[.slice A n c] w fun e w'=>e=.returned (.bool (decide (1048576<n)))/\w=w':=by
 by_cases h1:1048576<n
 ·have h2:(1048576:Int)<(n:Int):=by omega
  go_enter Tryz.func12,Tryz.ntmps12
  go_wp2;go_ret;exact⟨by simp[h1,h2],rfl⟩
 have h2:¬(1048576:Int)<(n:Int):=by omega
 go_enter Tryz.func12,Tryz.ntmps12
 go_wp2;go_ret;exact⟨by simp[h1,h2],rfl⟩
set_option maxHeartbeats 40000000
theorem z0j(A0:Yo)(n0:Nat)(c0:Nat)(x0:List UInt8)(w:Yw)(h0:RS tU8 w w.heap.size (.slice A0 n0 c0) x0):
 Calls Tryz.prog 4 #[.slice A0 n0 c0] w fun e w'=>e=.returned (.bool true)/\Below w.heap.size w w':=by
 obtain⟨ND,hND⟩:=zt1;obtain⟨NN,hNN⟩:=zxo hND;cases hl0:decide (1048576<n0)
 case true=>
  have HL0:=Aq hl0;have C0:=Aq (zqf A0 n0 c0 w);clear hl0 hND hNN
  go_enter Tryz.func4,Tryz.ntmps4
  go_wp2_with (go_at_call 12;first
   | (with_reducible refine C0.out.mono ?_;rw[HL0.out];rintro e w' ⟨rfl,rfl⟩))
  go_ret;exact⟨rfl,Aw _ _⟩
 case false=>
  have HL0:=Aq hl0;have HND:=Aq hND;have HNN:=Aq hNN;have C0:=Aq (zqf A0 n0 c0 w);clear hl0 hND hNN
  go_enter Tryz.func4,Tryz.ntmps4
  go_upto_region 3 with(go_at_call 12;first
   | (with_reducible refine C0.out.mono ?_;rw[HL0.out];rintro e w' ⟨rfl,rfl⟩))
  clear C0;go_wp2_with fail;refine(z0b _ _ _ _ _ h0).mono ?_;rintro e w1 ⟨i0,B1,m1,d1,B2,m2,d2,B3,m3,d3,B4,m4,d4,B5,m5,d5,x,rfl,rz,HP,bel1⟩;have s1:=bel1.size;have hsz:=HP.out.sz;obtain⟨U,hU⟩:∃U,U=w1.alloc (.cells #[.int .i64 i0,.slice B1 m1 d1,.slice B2 m2 d2,.slice B3 m3 d3,.slice B4 m4 d4,.slice B5 m5 d5] 38):=⟨_,rfl⟩;have SX:BX6 U w1.heap.size (.int .i64 i0) (.slice B1 m1 d1) (.slice B2 m2 d2) (.slice B3 m3 d3) (.slice B4 m4 d4) (.slice B5 m5 d5):=by rw[hU];exact BX6.new _ _ _ _ _ _ _ _
  have BU:Below w1.heap.size w1 U:=by rw[hU];exact zar _ _
  have HU:=Aq hU;have rzU:=tZ.later rz BU;have BWU:=zaa bel1 BU;clear hU rz;cases hok:zbd x
  ·have R2:=Aq (show zff x=([],1)from zpw hok);have HOK:=Aq hok;clear hok HP;go_wp2_with fail;rw[<-HU.out];refine(zj1 _ _ _ _ _ _ _ _ _ _ _ _ _ _ _ _ _ U rzU hsz).mono ?_;rw[R2.out];rintro e w2 ⟨v2,rfl,own2,b2⟩;obtain⟨A7,c7,e7,-⟩:=own2.shape;subst e7;have rz2:=tZ.later rzU b2;have B2w:=zaa BWU b2;obtain⟨k0,k1,k2,k3,k4,k5,kf,kl⟩:=SX.later b2;clear own2 kf;go_wp2_with fail;refine(zxv _ _ _ _ _ _ _ _ _ _ _ _ _ _ _ _ _ w2 rz2 hsz).mono ?_;rw[HOK.out];rintro e w3 ⟨rfl,b3⟩;go_wp2;go_ret;exact⟨rfl,zaa B2w b3⟩
  have hfew:=zzt (NN:=NN) HND.out hok HP.out;have HR:=Aq (zzu (NN:=NN) HND.out hok);have OR:=Aq (show zei ND NN x=(zfd ND NN x,0)by rw[zei,if_pos hok]);have hsz2:=hfew.sz;obtain⟨a0,src,ts,fs,ps,ms⟩:=x;obtain⟨A1_,n1_,c1_,A2_,n2_,c2_,A3_,n3_,c3_,A4_,n4_,c4_,A5_,n5_,c5_,hcs,t1,t2,t3,t4,t5⟩:=tZ_R.1 rzU;simp only[List.cons.injEq,Value.int.injEq,Cz,true_and,and_true]at hcs;obtain⟨rfl,⟨rfl,rfl,rfl⟩,⟨rfl,rfl,rfl⟩,⟨rfl,rfl,rfl⟩,⟨rfl,rfl,rfl⟩,⟨rfl,rfl,rfl⟩⟩:=hcs;obtain rfl:ts.length=m2:=(sl_R.1 t2).cap.1;obtain rfl:ms.length=m5:=(sl_R.1 t5).cap.1;obtain⟨L,e_,hSO⟩:=zjs hok;subst e_;have hL:=hSO.l;have hts:ts.length<=6:=hSO.tl;obtain⟨sl1,sl2,sl3⟩:=zzy hSO
  have hms:ms.length<=100000000:=by
   have:=hsz;rw[zeb]at this;have e:ms.length+hSt.szL ms=hM.sz ms:=rfl;omega
  have MR:=Aq (show zfe ((L:Int),src,ts,fs,ps,ms) (zd7 ts.length)=(((L:Int),src,ts,fs,ps,ms),0)from zzx hok);have R2:=Aq (zjv hok);have R4:=Aq (show zff (zfd ND NN ((L:Int),src,ts,fs,ps,ms))=(zeg L src ts fs ps ms,0)by rw[HR.out,R2.out]);have R5:=Aq (show zgj ((L:Int),src,ts,fs,ps,ms)=(zdo L src ts fs ps ms,0)by rw[zgj,if_pos hok];rfl);have SL1:=Aq sl1;have SL3:=Aq sl3;clear hok HP hfew t1 t2 t3 t4 t5 hSO sl1 sl3;go_wp2_with fail;rw[<-HU.out];refine(zj1 _ _ _ _ _ _ _ _ _ _ _ _ _ _ _ _ _ U rzU hsz).mono ?_;rw[R2.out];rintro e w2 ⟨v2,rfl,own2,b2⟩;obtain⟨A7,c7,e7,r7⟩:=own2.shape;rw[zjz]at e7 r7;subst e7;have rz2:=tZ.later rzU b2;have B2w:=zaa BWU b2;have S2:=SX.later b2;have s2:=S2.lt;clear own2 rzU;go_wp2_with fail
  go_loopw [6,7] (fun v i wr=>∃k:Nat,i=.int .i64 k/\k<=ts.length/\OI 2 w2.heap.size wr v (zd7 k)/\Below w2.heap.size w2 wr) (fun _ i _=>ts.length-(intOf i).toNat)
  case atStart=>exact⟨0,rfl,by omega,OI.made _ _,(Aw _ _).alloc (Aj _) _⟩
  case round=>
   obtain⟨k,rfl,hk,own,hb⟩:=hrel;obtain⟨k0,k1,k2,k3,k4,k5,kf,kl⟩:=S2.later hb;clear kf
   by_cases hlt:k<ts.length
   ·have hk1:(zd7 k).length<=1000000000:=(by rw[zqb];omega);have hkl:(k:Int)<(ts.length:Int):=(by omega);have hk0:¬(k:Int)<0:=(by omega);go_wp2_with (at_builtin;refine zf5 zbu rfl _ _ rfl own rfl rfl rfl (by unfold maxLen;omega) (by omega) hb.size ?_;intro v1 w1_ own1 gr1 bel1_);go_roundw
    case rel=>
     exact⟨k+1,by go_num,by omega,by rw[zzv];exact OI.push own1,hb.trans bel1_⟩
    case measure=>simp[intOf];omega
   obtain rfl:k=ts.length:=by omega
   obtain⟨A8,c8,e8,r8⟩:=own.shape;rw[zqb]at e8 r8;subst e8;have rzr:=tZ.later rz2 hb;have Sr:=S2.later hb;have Bwr:=zaa B2w hb;have rk:tS.R wr wr.heap.size [.slice A8 ts.length c8] (zd7 ts.length):=tS.read (tS_O.2 (OI.os own));have r7r:=r7.later hb;have sr:=Sr.lt;clear own rz2;go_wp2_with fail;refine(z0c _ _ _ _ _ _ _ _ _ _ _ _ _ _ _ _ _ _ _ _ _ wr rzr rk (by omega) hsz).mono ?_;rw[MR.out];rintro e w3 ⟨i3,C1,o1,e1,C2,o2,e2,C3,o3,e3,C4,o4,e4,C5,o5,e5,rfl,ox,b3⟩;dsimp only at ox;have rx3:=tZ.read ox;obtain⟨V,hV⟩:∃V,V=w3.alloc (.cells #[.int .i64 i3,.slice C1 o1 e1,.slice C2 o2 e2,.slice C3 o3 e3,.slice C4 o4 e4,.slice C5 o5 e5] 38):=⟨_,rfl⟩;have VX:BX6 V w3.heap.size (.int .i64 i3) (.slice C1 o1 e1) (.slice C2 o2 e2) (.slice C3 o3 e3) (.slice C4 o4 e4) (.slice C5 o5 e5):=(by rw[hV];exact BX6.new _ _ _ _ _ _ _ _);have BV:Below w3.heap.size w3 V:=(by rw[hV];exact zar _ _);have HV:=Aq hV;have rxV:=tZ.later rx3 BV;have bV:=zaa b3 BV;have rzV:=tZ.later rzr bV;have SV:=Sr.later bV;have BwV:=zaa Bwr bV;have r7V:=r7r.later bV;have sV:=VX.lt;obtain⟨k0,k1,k2,k3,k4,k5,kf,kl⟩:=SV;have SV:BX6 V w1.heap.size (.int .i64 (L:Int)) (.slice B1 m1 d1) (.slice B2 ts.length d2) (.slice B3 m3 d3) (.slice B4 m4 d4) (.slice B5 ms.length d5):=⟨k0,k1,k2,k3,k4,k5,kf,kl⟩;clear hV ox rx3 rzr rk r7r kf r8;go_upto_region 13 with fail
   rw[<-HV.out];go_wp2_with fail;refine(zzr HND.out HNN.out _ _ _ _ _ _ _ _ _ _ _ _ _ _ _ _ _ V rzV hsz).mono ?_;rw[OR.out];rintro e w4 ⟨i4,D1,q1,f1,D2,q2,f2,D3,q3,f3,D4,q4,f4,D5,q5,f5,rfl,oy,b4⟩;dsimp only at oy;have ry4:=tZ.read oy;obtain⟨T,hT⟩:∃T,T=w4.alloc (.cells #[.int .i64 i4,.slice D1 q1 f1,.slice D2 q2 f2,.slice D3 q3 f3,.slice D4 q4 f4,.slice D5 q5 f5] 38):=⟨_,rfl⟩;have TX:BX6 T w4.heap.size (.int .i64 i4) (.slice D1 q1 f1) (.slice D2 q2 f2) (.slice D3 q3 f3) (.slice D4 q4 f4) (.slice D5 q5 f5):=(by rw[hT];exact BX6.new _ _ _ _ _ _ _ _);have BT:Below w4.heap.size w4 T:=(by rw[hT];exact zar _ _);have HT:=Aq hT;have ryT:=tZ.later ry4 BT;have bT:=zaa b4 BT;have rzT:=tZ.later rzV bT;have rxT:=tZ.later rxV bT;have ST:=SV.later bT;have XT:=VX.later bT;have BwT:=zaa BwV bT;have r7T:=r7V.later bT;clear hT oy ry4 rzV k0 k1 k2 k3 k4 k5 SV VX rxV;obtain⟨k0,k1,k2,k3,k4,k5,kf,kl⟩:=XT;have XT:BX6 T w3.heap.size (.int .i64 i3) (.slice C1 o1 e1) (.slice C2 o2 e2) (.slice C3 o3 e3) (.slice C4 o4 e4) (.slice C5 o5 e5):=⟨k0,k1,k2,k3,k4,k5,kf,kl⟩;go_upto_region 14 with fail
   rw[<-HT.out];go_wp2_with fail;refine(zj1 _ _ _ _ _ _ _ _ _ _ _ _ _ _ _ _ _ T rxT hsz).mono ?_;rw[R2.out];rintro e w5 ⟨v5,rfl,own5,b5⟩;obtain⟨A9,c9,e9,r9⟩:=own5.shape;rw[zjz]at e9 r9;subst e9;clear own5 k0 k1 k2 k3 k4 k5 kf;obtain⟨k0,k1,k2,k3,k4,k5,kf,kl⟩:=TX.later b5;go_wp2_with fail;refine(zj1 _ _ _ _ _ _ _ _ _ _ _ _ _ _ _ _ _ w5 (tZ.later ryT b5) hsz2).mono ?_;rw[R4.out];rintro e w6 ⟨v6,rfl,own6,b6⟩;obtain⟨A10,c10,e10,r10⟩:=own6.shape;rw[zjz]at e10 r10;subst e10;have b56:=zaa b5 b6;clear own6 k0 k1 k2 k3 k4 k5 kf;obtain⟨k0,k1,k2,k3,k4,k5,kf,kl⟩:=ST.later b56;go_wp2_with fail;refine(z0d _ _ _ _ _ _ _ _ _ _ _ _ _ _ _ _ _ w6 (tZ.later rzT b56) hsz).mono ?_;rw[R5.out];rintro e w7 ⟨v7,rfl,own7,b7⟩;have r11:=own7.read;obtain⟨A11,c11,e11⟩:=r11.shape;dsimp only at e11 r11;rw[SL1.out]at e11;subst e11;have b57:=zaa b56 b7;have S7:=ST.later b57;have X7:=XT.later b57;have rx7:=tZ.later rxT b57;have rz7:=tZ.later rzT b57;have r77:=r7T.later b57;have r97:=r9.later (zaa b6 b7);have r107:=r10.later b7;have Bw7:=zaa BwT b57;clear own7 k0 k1 k2 k3 k4 k5 kf ryT rxT rzT r7T r9 r10;obtain⟨k0,k1,k2,k3,k4,k5,kf,kl⟩:=S7;obtain⟨l0,l1,l2,l3,l4,l5,lf,ll⟩:=X7;have S7:BX6 w7 w1.heap.size (.int .i64 (L:Int)) (.slice B1 m1 d1) (.slice B2 ts.length d2) (.slice B3 m3 d3) (.slice B4 m4 d4) (.slice B5 ms.length d5):=⟨k0,k1,k2,k3,k4,k5,kf,kl⟩;clear kf lf;go_wp2_with fail;refine(zxt _ _ _ _ _ _ _ _ _ _ _ _ _ _ _ _ _ _ _ _ _ _ _ _ _ _ _ _ _ _ _ _ _ _ w7 rx7 rz7 hsz hsz).mono ?_;rw[Dx rfl];rintro e w8 ⟨rfl,b8⟩;go_wp2_with fail;refine(zlk _ _ _ _ _ _ _ _ w8 (r97.later b8) (r77.later b8) (by omega)).mono ?_;rw[Dx rfl];rintro e w9 ⟨rfl,b9⟩;have b79:=zaa b8 b9;go_wp2_with fail;refine(zlk _ _ _ _ _ _ _ _ w9 (r107.later b79) (r77.later b79) (by omega)).mono ?_;rw[Dx rfl];rintro e w10 ⟨rfl,b10⟩;have b710:=zaa b79 b10;have g5:=(S7.later b710).c5;obtain⟨bb,o_,cc_,cs,hv,hbb,-,hE,hc⟩:=(r11.later b710).atX SL3.out;simp only[Cz]at hv;obtain⟨rfl,-,rfl⟩:=hv;obtain⟨A12,n12,c12,rfl⟩:=zbv hE;have rE:=(sl_R.1 hE).ri
   obtain rfl:L=n12:=by
    have h9:=(sl_R.1 hE).cap.1;rw[zjz]at h9;exact h9
   have ce:w10.cell? ⟨bb,o_+(ms.length-1),none⟩=some (.slice A12 L c12):=by
    have h9:=hc 0 _ rfl;change w10.cell? ⟨bb,o_+(ms.length-1)*1+0,none⟩=_ at h9;rw[Nat.mul_one,Nat.add_zero]at h9;exact h9
   have hi0:(0:Int)<=(ms.length:Int)-1:=(by omega);have hi1:(ms.length:Int)-1<(ms.length:Int):=(by omega);have hi2:((ms.length:Int)-1).toNat=ms.length-1:=(by omega);have hi3:(0:Int)<(ms.length:Int):=(by omega);clear hc hE k0 k1 k2 k3 k4 k5 l0 l1 l2 l3 l4 l5;go_wp2_with fail;refine(zlk _ _ _ _ _ _ _ _ w10 rE (r77.later b710) (by omega)).mono ?_;rw[Dx rfl];rintro e w11 ⟨rfl,b11⟩;go_wp2;go_ret;exact⟨rfl,zaa (zaa Bw7 b710) b11⟩
section
open Go.ChangeShapes Go.WideShapes Go.Deep Go.RowKit
def zj2 (P:Program) (T:TypeId) {α:Type} (t:Ty α):Prop:=
 ∀{H:Type} (enc:TypeId×Value->H) (w:Yw) (base:Nat) (spare:Nat->Bool) (held:Bool) (fuel:Nat) (cs:List Value) (d:DataW H×List MemPlace),DataW.trod enc P w base spare held fuel T cs=some d->∃x,t.R w w.heap.size cs x
section
variable {P:Program} {T:TypeId}
theorem z0e{α:Type}{t:Ty α}{e e':TypeId}(ht:P.underlying T=some (.slice e))(hC:P.cellsOf e=t.s)(he:zj2 P e t):zj2 P T (t.sl e'):=by
 intro H enc w base spare held fuel cs d h;rcases open_slice ht h with⟨rfl,_⟩|⟨a,len,cap,m,n,D,Pl,rfl,hb,hl,hm,hmm,hx,hi⟩
 ·exact⟨[],_,rfl,RS.nil _ _ _⟩
 have hlm:len<=m:=by rw[hmm];split <;> omega
 have key:∀i,∃p:List Value×α,i<len->t.R w w.heap.size p.1 p.2/\∀j u,p.1[j]?=some u->w.cell? (a.add (i*t.s+j))=some u:=by
  intro i
  by_cases hil:i<len
  ·obtain⟨cs',hc,ht'⟩:=hi i (by omega);rw[hC]at hc;obtain⟨x,hR⟩:=he enc w base spare held n cs' _ ht';obtain⟨_,hcl,hat⟩:=World.cells?_some hc;refine⟨(cs',x),fun _=>⟨hR,fun j u hu=>?_⟩⟩;have hj:j<t.s:=(by rw[<-hcl];exact(Bk.1 hu).1);have:=hat j hj;rw[Go.Deep.add_add]at this;rw[this];exact hu
  exact⟨([],t.zero),fun hc=>absurd hc hil⟩
 obtain⟨g,hg⟩:∃g:Nat->List Value×α,∀i,i<len->t.R w w.heap.size (g i).1 (g i).2/\∀j u,(g i).1[j]?=some u->w.cell? (a.add (i*t.s+j))=some u:=⟨fun i=>Classical.choose (key i),fun i=>Classical.choose_spec (key i)⟩
 have hs:∀c∈(List.range len).map (fun i=>(g i).1),c.length=t.s:=by
  intro c hc;obtain⟨i,hi,rfl⟩:=List.mem_map.1 hc;exact t.rlen (hg i (Gj.1 hi)).1
 refine⟨(List.range len).map fun i=>(g i).2,_,rfl,some a,cap,(List.range len).map fun i=>(g i).1,by simp,by simpa using hl,hm,by simp,?_,?_⟩
 ·refine⟨by rw[zj7 hs];simp,fun hn=>⟨a,rfl,?_,fun j u hu=>?_⟩⟩
  ·have hn':0<len:=(by simpa using hn);have h0:=(hg 0 hn');have hp:=t.pos;obtain⟨u,hu⟩:∃u,(g 0).1[0]?=some u:=⟨_,Ak (by rw[t.rlen h0.1];exact hp)⟩;have:=Cj _ _ (h0.2 0 u hu);rwa [zgk]at this
  have hj:j<len*t.s:=by have:=(Bk.1 hu).1;rw[zj7 hs]at this;simpa using this
  have hk:j / t.s<len:=Nat.div_lt_of_lt_mul (by rw[Nat.mul_comm];exact hj);have hr:j % t.s<t.s:=Nat.mod_lt _ t.pos;have e0:j / t.s*t.s+j % t.s=j:=by rw[Nat.mul_comm];exact Nat.div_add_mod j t.s
  have hf:=zin hs (k:=j / t.s) (c:=(g (j / t.s)).1) (by simp[hk]) (j % t.s) hr;rw[e0,hu]at hf;have:=(hg _ hk).2 (j % t.s) u hf.symm;rwa [e0]at this
 intro k hk hk';simp only[Ff,List.length_range]at hk;simp only[List.getElem_map,List.getElem_range];exact(hg k hk).1
end
end
theorem z0f{P:Program}{T:TypeId}(h:P.underlying T=some (.int .u8)):zj2 P T tU8:=fun _ _ _ _ _ _ _ _ ht=>by
 obtain⟨n,rfl,_,hw⟩:=DataW.trod_int h ht
 have hb:0<=n/\n<=255:=by
  simp only[Lit.wf,Cx,Dg,show IntKind.u8.min=0 from by decide,show IntKind.u8.max=255 from by decide]at hw;exact hw
 refine⟨UInt8.ofNat n.toNat,?_⟩;show [Value.int .u8 n]=[.int .u8 ((UInt8.ofNat n.toNat).toNat:Int)]
 have h2:(UInt8.ofNat n.toNat).toNat=n.toNat:=by rw[UInt8.toNat_ofNat'];omega
 rw[h2,Int.toNat_of_nonneg hb.1]
abbrev tU:Ty (List UInt8):=tU8.sl 5
theorem z0k:zj2 Tryz.prog 45 tU:=z0e Tryz.underlying45 (by kernel_rfl) (z0f Tryz.underlying5)
end Go.Proofs.YtifeldeikhmckaaGreat
