import Derived.Test.YtifeldeikhmckaaGreatFnExactOptimizeSessionG23
import Derived.Test.YtifeldeikhmckaaGreatFnExactOptimizeSessionG13
import Derived.Test.YtifeldeikhmckaaGreatFnExactOptimizeSessionG20
import Derived.Test.YtifeldeikhmckaaGreatFnExactOptimizeSessionG15
import Derived.Deep.DeepCutAuto
import Derived.Deep.RegionWith
import Derived.Test.YtifeldeikhmckaaGreatFnExactOptimizeSessionG6
set_option linter.unusedVariables false
set_option linter.unusedSimpArgs false
set_option maxRecDepth 100000
set_option maxHeartbeats 4000000
namespace Go.Proofs.YtifeldeikhmckaaGreat
open Go.RowKit Go.Sort
section
theorem zhr{f:Node->Nat}{m:Nat}:∀l:List Node,(∀x∈l,f x<=m)->zd2 f l<=l.length*m
 | [],_=>by simp[zd2]
 | x::l,h=>by
  have h1:=h x (List.mem_cons_self ..);have h2:=zhr l (fun y hy=>h y (List.mem_cons_of_mem _ hy));simp only[zd2,List.length_cons,Nat.add_mul,Nat.one_mul];omega
section
variable {tb:List (List Int)} {p:NO} {R:Nat->Nat}
theorem M.WP.norm(h:M.WP tb p R):∃R',M.WP tb p R'/\∀j,R' j<=24:=by
 refine⟨fun j=>zal (fun k=>decide (R k<R j)) p.1.length,⟨h.tabs,h.ok,h.fr,h.inp,fun i x hx f hf=>?_,h.len,h.outs⟩,fun j=>Nat.le_trans (zeu _ _) h.len⟩;obtain⟨h1,h2⟩:=h.rk i x hx f hf;exact⟨h1,zi6 (i:=f.toNat) (fun k hk=>by simp at hk ⊢;omega) (by omega) (by simp) (by simpa using h2)⟩
theorem M.WP.csum_le(h:M.WP tb p R):zcy p.1<=48:=by
 have:=zhr (f:=fun x=>zc8 x.1) (m:=2) p.1 (fun x _=>by unfold zc8;(split;· omega);split <;> omega);have:=h.len;unfold zcy;omega
theorem M.WP.gsum_le(h:M.WP tb p R)(hR:∀j,R j<=24):zc9 R p.1<=576:=by
 have:=zhr (f:=fun x=>if x.1=5 then R (M.fk x 0)else 0) (m:=24) p.1 (fun x _=>by
  have:=hR (M.fk x 0)
  try dsimp only
  split <;> omega)
 have:=h.len;unfold zc9;omega
theorem M.WP.dsum_le(h:M.WP tb p R):zed p.1<=384:=by
 have:=zhr (f:=fun x=>if x.1=6 then 16-x.2.1.toNat else 0) (m:=16) p.1 (fun x _=>by
  try dsimp only
  split <;> omega)
 have:=h.len;unfold zed;omega
theorem zt2{ND:NO->Nat->Bool}(hND:∀p j,ND p j=true↔M.Rch p.1 p.2 j):∀(c m:Nat) (p:NO) (R:Nat->Nat),M.WP tb p R->(∀j,R j<=24)->zal (ND p) 24<=c->zcy p.1*250000+zc9 R p.1*400+zed p.1<=m->
 ∃N,N<=m+1+c*20000000/\zbk ND tb (zah ND tb p N)=none:=by
 intro c
 induction c using Nat.strongRecOn with
 | _ c ihc=>
  intro m
  induction m using Nat.strongRecOn with
  | _ m ihm=>
   intro p R h hR hc hm;cases hs:zbk ND tb p with
   | none=>exact⟨0,by omega,hs⟩
   | some q=>
    obtain⟨R',hf⟩:=zja hND h hs;have hle:zal (ND q) 24<=zal (ND p) 24:=zi5 (fun j hj=>(hND p j).2 (hf.sub j ((hND q j).1 hj))) 24;rcases hf.low with⟨j,h1,h2,h3⟩|⟨rfl,h1⟩
    ·have hlt:zal (ND q) 24<zal (ND p) 24:=zi6 (i:=j) (fun j hj=>(hND p j).2 (hf.sub j ((hND q j).1 hj))) (by have:=h.len;omega) (by
      cases e:ND q j
      ·rfl
      exact absurd ((hND q j).1 e) h3) ((hND p j).2 h2)
     obtain⟨R2,w2,b2⟩:=hf.wp.norm;have e1:=w2.csum_le;have e2:=w2.gsum_le b2;have e3:=w2.dsum_le;obtain⟨N,hN1,hN2⟩:=ihc (c-1) (by omega) _ q R2 w2 b2 (by omega) (Nat.le_refl _);exact⟨N+1,by omega,by rw[zi9 hs];exact hN2⟩
    have e2:=hf.wp.gsum_le hR;have e3:=hf.wp.dsum_le;obtain⟨N,hN1,hN2⟩:=ihm (zcy q.1*250000+zc9 R' q.1*400+zed q.1) (by omega) q R' hf.wp hR (by omega) (Nat.le_refl _);exact⟨N+1,by omega,by rw[zi9 hs];exact hN2⟩
theorem zmi{ND:NO->Nat->Bool}(hND:∀p j,ND p j=true↔M.Rch p.1 p.2 j)(h:M.WP tb p R):∃N,N<=1000000000/\zbk ND tb (zah ND tb p N)=none:=by
 obtain⟨R2,w2,b2⟩:=h.norm;have e1:=w2.csum_le;have e2:=w2.gsum_le b2;have e3:=w2.dsum_le;obtain⟨N,h1,h2⟩:=zt2 hND 24 _ p R2 w2 b2 (zeu _ _) (Nat.le_refl _);exact⟨N,by omega,h2⟩
theorem zhs{ND:NO->Nat->Bool}{s t:Nat}(hs:zbk ND tb (zah ND tb p s)=none)(ht:zbk ND tb (zah ND tb p t)=none):zah ND tb p s=zah ND tb p t:=by
 rcases Nat.le_total s t with h|h
 ·obtain⟨d,rfl⟩:∃d,t=s+d:=⟨t-s,by omega⟩;rw[zjb hs]
 obtain⟨d,rfl⟩:∃d,s=t+d:=⟨s-t,by omega⟩;rw[zjb ht]
theorem zmj{ND:NO->Nat->Bool}{s N:Nat}{q:NO}(hN:zbk ND tb (zah ND tb p N)=none)(hs:zbk ND tb (zah ND tb p s)=some q):s<N:=by
 rcases Nat.lt_or_ge s N with h|h
 ·exact h
 obtain⟨d,rfl⟩:∃d,s=N+d:=⟨s-N,by omega⟩;rw[zjb hN,hN]at hs;cases hs
end
end
theorem zgt(A:Yo)(n c:Nat)(xs:List (List Int))(w:Yw)(hx:tSS.R w w.heap.size [.slice A n c] xs)(hn:hSS.sz xs<=100000000):
 Calls Tryz.prog 90 #[.slice A n c] w fun e w'=>∃v,e=.returned v/\OS tS 24 w' (Iv w.heap.size w'.heap.size) v xs/\Below w.heap.size w w':=by
 have rx:=sl_R.1 hx;have hl:=Lib.hid rx.cap.1;have hq1:xs.length+hS.szL xs=hSS.sz xs:=rfl
 have hb1:Hid (∀x∈xs,x.length<=1000000000):=Lib.hid (fun x hx=>by
  obtain⟨i,hi⟩:=List.getElem?_of_mem hx;have:=hS.szL_at hi;rw[zbi]at this;omega)
 have hnb:n<=100000000:=by have:=hl.out;omega
 have hxl:xs.length<=100000000:=by omega
 clear hx hn hq1
 go_enter Tryz.func90,Tryz.ntmps90
 go_wp2_with fail
 go_loopw [3,9] (fun v i wr=>∃k:Nat,i=.int .i64 k/\k<=n/\OS tS 24 wr (Iv w.heap.size wr.heap.size) v (xs.take k)/\Below w.heap.size w wr) (fun _ i _=>n-(intOf i).toNat)
 case atStart=>exact⟨0,rfl,by omega,OS.made0 _ _ _,(Below.refl _ _).alloc (Nat.le_refl _) _⟩
 case round=>
  obtain⟨k,rfl,hk,own,Bw⟩:=hrel
  by_cases hlt:k<n
  ·obtain⟨bb,o,A1,c1,x,rfl,hbb,X,hc,hri,hxl2⟩:=zeq (rx.below Bw) hb1 hlt;have hri2:=hri.more Bw.size;have hx9:=hb1.out x (List.mem_of_getElem? X.out);have hpt:=Lib.hid (M.take_at X.out);have hpl:(xs.take k).length<=100000000:=(by rw[List.length_take];omega);have hsb:=Bw.size;go_wp2_with fail;refine(zdu _ _ _ _ _ hri2 (by omega)).mono ?_;rintro e w1 ⟨v1,rfl,own1,bel1⟩;obtain⟨A4,c4,rfl,-⟩:=own1.shape;have ow:=own.below bel1 (Nat.le_refl _);have os2:=tS_O.2 (OI.os own1);have s2:=bel1.size;go_wp2_with (at_builtin;refine zc2 ei_S #[.slice A4 x.length c4] rfl _ _ rfl ow os2 (Iv.apart (Nat.le_refl _)) rfl rfl (by unfold maxLen;omega) (by omega) ?_;intro v3 w4 own4 ch4);go_roundw
   case rel=>
    refine⟨k+1,by go_num,by omega,?_,(Bw.trans (bel1.mono hsb)).trans (ch4.toBelow (fun b hb=>hb.1) (by omega))⟩;rw[hpt.out];exact own4.wide (Iv.grow hsb s2 ch4.size)
   case measure=>simp[intOf];omega
  obtain rfl:k=n:=by omega
  go_wp2;go_ret;rw[List.take_of_length_le (by rw[hl.out];exact Nat.le_refl _)]at own;exact⟨_,rfl,own,Bw⟩
theorem zt3(a0 a1 a2:Int)(A:Yo)(n c:Nat)(xs:List Int)(w:Yw)(hx:RI w w.heap.size A n xs)(hn:n<=100000000):
 Calls Tryz.prog 146 #[.agg #[.int .i64 a0,.int .i64 a1,.int .i64 a2,.slice A n c]] w fun e w'=>∃A' n' c',e=.returned (.agg #[.int .i64 a0,.int .i64 a1,.int .i64 a2,.slice A' n' c'])/\tN.O w' (Iv w.heap.size w'.heap.size) [.int .i64 a0,.int .i64 a1,.int .i64 a2,.slice A' n' c'] (a0,a1,a2,xs)/\Below w.heap.size w w':=by
 obtain rfl:xs.length=n:=hx.len;obtain⟨W,hW⟩:∃W,W=(w.alloc (.cells #[.int .i64 a0,.int .i64 a1,.int .i64 a2,.slice A xs.length c] 169)).alloc (.cells #[.int .i64 0,.int .i64 0,.int .i64 0,.slice none 0 0] 169):=⟨_,rfl⟩;have B0:Below w.heap.size w W:=by rw[hW];exact((Below.refl _ _).alloc (Nat.le_refl _) _).alloc (by simp) _
 have lW:w.heap.size+1<W.heap.size:=by rw[hW];simp
 have p0:W.cell? ⟨w.heap.size,0,none⟩=some (.int .i64 a0):=by rw[hW];simp[go_sem]
 have pf0:W.frozen? ⟨w.heap.size,0,none⟩=false:=by rw[hW];simp[go_sem]
 have r0:W.cell? ⟨w.heap.size+1,0,none⟩=some (.int .i64 0):=by rw[hW];simp[go_sem]
 have rf0:W.frozen? ⟨w.heap.size+1,0,none⟩=false:=by rw[hW];simp[go_sem]
 have p1:W.cell? ⟨w.heap.size,1,none⟩=some (.int .i64 a1):=by rw[hW];simp[go_sem]
 have pf1:W.frozen? ⟨w.heap.size,1,none⟩=false:=by rw[hW];simp[go_sem]
 have r1:W.cell? ⟨w.heap.size+1,1,none⟩=some (.int .i64 0):=by rw[hW];simp[go_sem]
 have rf1:W.frozen? ⟨w.heap.size+1,1,none⟩=false:=by rw[hW];simp[go_sem]
 have p2:W.cell? ⟨w.heap.size,2,none⟩=some (.int .i64 a2):=by rw[hW];simp[go_sem]
 have pf2:W.frozen? ⟨w.heap.size,2,none⟩=false:=by rw[hW];simp[go_sem]
 have r2:W.cell? ⟨w.heap.size+1,2,none⟩=some (.int .i64 0):=by rw[hW];simp[go_sem]
 have rf2:W.frozen? ⟨w.heap.size+1,2,none⟩=false:=by rw[hW];simp[go_sem]
 have p3:W.cell? ⟨w.heap.size,3,none⟩=some (.slice A xs.length c):=by rw[hW];simp[go_sem]
 have pf3:W.frozen? ⟨w.heap.size,3,none⟩=false:=by rw[hW];simp[go_sem]
 have r3:W.cell? ⟨w.heap.size+1,3,none⟩=some (.slice none 0 0):=by rw[hW];simp[go_sem]
 have rf3:W.frozen? ⟨w.heap.size+1,3,none⟩=false:=by rw[hW];simp[go_sem]
 have HW:=Lib.hid hW;have hx1:=hx.later B0;clear hW
 go_enter Tryz.func146,Tryz.ntmps146
 go_wp2_with fail;rw[<-HW.out];refine(zdu _ _ _ _ _ hx1 (by omega)).mono ?_;rintro e w1 ⟨v1,rfl,own1,bel1⟩;obtain⟨A4,c4,rfl,-⟩:=own1.shape;have s1:=bel1.size;replace p0:w1.cell? ⟨w.heap.size,0,none⟩=some (.int .i64 a0):=by rw[bel1.cell (by show w.heap.size<W.heap.size;omega)];exact p0
 replace pf0:w1.frozen? ⟨w.heap.size,0,none⟩=false:=by rw[bel1.frozen (by show w.heap.size<W.heap.size;omega)];exact pf0
 replace r0:w1.cell? ⟨w.heap.size+1,0,none⟩=some (.int .i64 0):=by rw[bel1.cell (by show w.heap.size+1<W.heap.size;omega)];exact r0
 replace rf0:w1.frozen? ⟨w.heap.size+1,0,none⟩=false:=by rw[bel1.frozen (by show w.heap.size+1<W.heap.size;omega)];exact rf0
 replace p1:w1.cell? ⟨w.heap.size,1,none⟩=some (.int .i64 a1):=by rw[bel1.cell (by show w.heap.size<W.heap.size;omega)];exact p1
 replace pf1:w1.frozen? ⟨w.heap.size,1,none⟩=false:=by rw[bel1.frozen (by show w.heap.size<W.heap.size;omega)];exact pf1
 replace r1:w1.cell? ⟨w.heap.size+1,1,none⟩=some (.int .i64 0):=by rw[bel1.cell (by show w.heap.size+1<W.heap.size;omega)];exact r1
 replace rf1:w1.frozen? ⟨w.heap.size+1,1,none⟩=false:=by rw[bel1.frozen (by show w.heap.size+1<W.heap.size;omega)];exact rf1
 replace p2:w1.cell? ⟨w.heap.size,2,none⟩=some (.int .i64 a2):=by rw[bel1.cell (by show w.heap.size<W.heap.size;omega)];exact p2
 replace pf2:w1.frozen? ⟨w.heap.size,2,none⟩=false:=by rw[bel1.frozen (by show w.heap.size<W.heap.size;omega)];exact pf2
 replace r2:w1.cell? ⟨w.heap.size+1,2,none⟩=some (.int .i64 0):=by rw[bel1.cell (by show w.heap.size+1<W.heap.size;omega)];exact r2
 replace rf2:w1.frozen? ⟨w.heap.size+1,2,none⟩=false:=by rw[bel1.frozen (by show w.heap.size+1<W.heap.size;omega)];exact rf2
 replace p3:w1.cell? ⟨w.heap.size,3,none⟩=some (.slice A xs.length c):=by rw[bel1.cell (by show w.heap.size<W.heap.size;omega)];exact p3
 replace pf3:w1.frozen? ⟨w.heap.size,3,none⟩=false:=by rw[bel1.frozen (by show w.heap.size<W.heap.size;omega)];exact pf3
 replace r3:w1.cell? ⟨w.heap.size+1,3,none⟩=some (.slice none 0 0):=by rw[bel1.cell (by show w.heap.size+1<W.heap.size;omega)];exact r3
 replace rf3:w1.frozen? ⟨w.heap.size+1,3,none⟩=false:=by rw[bel1.frozen (by show w.heap.size+1<W.heap.size;omega)];exact rf3
 have B1:=zaa B0 bel1;have lw1:w.heap.size<w1.heap.size:=by omega
 have lw2:w.heap.size+1<w1.heap.size:=by omega
 have o1:=tS_O.2 (OI.os own1);clear B0 HW;obtain⟨U,hU⟩:∃U,U=w1.setCell ⟨w.heap.size,3,none⟩ (.slice A4 xs.length c4):=⟨_,rfl⟩;have m1:Mid w.heap.size (w.heap.size+1) w1 U:=by rw[hU];exact Mid.of_grown (zaz w1 w.heap.size 3 _) fun k hk=>by injection hk with hk;omega
 have eU:U.heap.size=w1.heap.size:=by rw[hU];simp
 have BU:Below (w.heap.size+1) w1 U\/True:=.inr trivial;have u0:U.cell? ⟨w.heap.size+1,0,none⟩=some (.int .i64 0):=by rw[hU];simp[go_sem,r0,lw1]
 have v0:U.frozen? ⟨w.heap.size+1,0,none⟩=false:=by rw[hU];simp[go_sem,rf0,lw1]
 have u1:U.cell? ⟨w.heap.size+1,1,none⟩=some (.int .i64 0):=by rw[hU];simp[go_sem,r1,lw1]
 have v1:U.frozen? ⟨w.heap.size+1,1,none⟩=false:=by rw[hU];simp[go_sem,rf1,lw1]
 have u2:U.cell? ⟨w.heap.size+1,2,none⟩=some (.int .i64 0):=by rw[hU];simp[go_sem,r2,lw1]
 have v2:U.frozen? ⟨w.heap.size+1,2,none⟩=false:=by rw[hU];simp[go_sem,rf2,lw1]
 have u3:U.cell? ⟨w.heap.size+1,3,none⟩=some (.slice none 0 0):=by rw[hU];simp[go_sem,r3,lw1]
 have v3:U.frozen? ⟨w.heap.size+1,3,none⟩=false:=by rw[hU];simp[go_sem,rf3,lw1]
 have HU:=Lib.hid hU;clear hU BU;go_wp2;rw[<-HU.out];have mm:Mid w.heap.size (w.heap.size+1+1) U ((((U.setCell ⟨w.heap.size+1,0,none⟩ (.int .i64 a0)).setCell ⟨w.heap.size+1,1,none⟩ (.int .i64 a1)).setCell ⟨w.heap.size+1,2,none⟩ (.int .i64 a2)).setCell ⟨w.heap.size+1,3,none⟩ (.slice A4 xs.length c4)):=((((Mid.of_grown (zaz _ _ 0 _) (fun k hk=>by injection hk with hk;omega)).trans (Mid.of_grown (zaz _ _ 1 _) (fun k hk=>by injection hk with hk;omega))).trans (Mid.of_grown (zaz _ _ 2 _) (fun k hk=>by injection hk with hk;omega))).trans (Mid.of_grown (zaz _ _ 3 _) (fun k hk=>by injection hk with hk;omega)));clear p0 p1 p2 p3 pf0 pf1 pf2 pf3 r0 r1 r2 r3 rf0 rf1 rf2 rf3;refine bodyPost_ret (v:=.agg #[.int .i64 a0,.int .i64 a1,.int .i64 a2,.slice A4 xs.length c4]) (by simp[results,Tryz.results146,go_sem,u0,u1,u2,u3,v0,v1,v2,v3]) rfl ?_;have hM:=(m1.wide (Nat.le_refl _) (Nat.le_succ _)).trans mm;have eE:=mm.size;refine⟨A4,xs.length,c4,rfl,tN_O.2 ⟨A4,xs.length,c4,Iv W.heap.size w1.heap.size,rfl,tS.omid o1 hM (.inr (by omega)) (Nat.le_refl _),Iv.mono (by omega) (by have:=hM.size;omega)⟩,B1.trans (hM.toBelow (by omega))⟩
theorem Chg.up{F G:Nat->Prop}{a b c:Yw}(h:Chg G a b)(k:Chg F b c)(hf:∀x,x<a.heap.size->F x->G x):Chg G a c:=
 ⟨k.os.trans h.os,k.tape.trans h.tape,k.output.trans h.output,Nat.le_trans h.size k.size,fun i hi hn=>(k.block i (Nat.lt_of_lt_of_le hi h.size) (fun hF=>hn (hf i hi hF))).trans (h.block i hi hn)⟩
theorem Chg.upB{G:Nat->Prop}{a b c:Yw}(h:Chg G a b)(k:Below b.heap.size b c):Chg G a c:=h.up (Chg.of_below k (fun _=>False)) (fun _ _ h=>h.elim)
theorem Chg.cell{F:Nat->Prop}{a b:Yw}(h:Chg F a b){k j:Nat}(hk:k<a.heap.size)(hn:¬F k):b.cell? ⟨k,j,none⟩=a.cell? ⟨k,j,none⟩:=by
 exact World.cell?_of_block (h.block k hk hn)
theorem Chg.frozen{F:Nat->Prop}{a b:Yw}(h:Chg F a b){k j:Nat}(hk:k<a.heap.size)(hn:¬F k):b.frozen? ⟨k,j,none⟩=a.frozen? ⟨k,j,none⟩:=by
 have hb:=h.block k hk hn;simp only[World.frozen?];rw[hb]
structure Gr (g f:Nat) (w0 w:Yw) (v:Value):Prop where
 chg:Chg (fun b=>b=g) w0 w
 cel:w.cell? ⟨g,f,none⟩=some v
 oth:∀j,j≠f->w.cell? ⟨g,j,none⟩=w0.cell? ⟨g,j,none⟩
 fro:∀j,w.frozen? ⟨g,j,none⟩=w0.frozen? ⟨g,j,none⟩
theorem Gr.start{g f:Nat}{w:Yw}{v:Value}(h:w.cell? ⟨g,f,none⟩=some v):Gr g f w w v:=⟨Chg.refl _ _,h,fun _ _=>rfl,fun _=>rfl⟩
theorem Gr.below{g f:Nat}{w0 w w':Yw}{v:Value}(h:Gr g f w0 w v)(hb:Below w.heap.size w w')(hg:g<w.heap.size):Gr g f w0 w' v:=
 ⟨h.chg.upB hb,by rw[hb.cell (p:=⟨g,f,none⟩) hg];exact h.cel,fun j hj=>by rw[hb.cell (p:=⟨g,j,none⟩) hg];exact h.oth j hj,fun j=>by rw[hb.frozen (p:=⟨g,j,none⟩) hg];exact h.fro j⟩
theorem Gr.row{g f:Nat}{w0 w w':Yw}{v:Value}{F:Nat->Prop}(h:Gr g f w0 w v)(hc:Chg F w w')(hg:g<w.heap.size)(hF:∀b,F b->w0.heap.size<=b/\b≠g):Gr g f w0 w' v:=
 ⟨h.chg.up hc (fun x hx hFx=>by have:=hF x hFx;omega),by rw[hc.cell hg (fun e=>(hF g e).2 rfl)];exact h.cel,fun j hj=>by rw[hc.cell hg (fun e=>(hF g e).2 rfl)];exact h.oth j hj,fun j=>by rw[hc.frozen hg (fun e=>(hF g e).2 rfl)];exact h.fro j⟩
theorem Gr.set{g f:Nat}{w0 w:Yw}{v:Value}(h:Gr g f w0 w v)(hz:w0.frozen? ⟨g,f,none⟩=false)(u:Value):Gr g f w0 (w.setCell ⟨g,f,none⟩ u) u:=by
 have hfr:w.frozen? ⟨g,f,none⟩=false:=by rw[h.fro];exact hz
 have hc:=h.cel;refine⟨h.chg.trans (Chg.set w g f u rfl),by simp[go_sem,hc],fun j hj=>?_,fun j=>?_⟩
 ·rw[<-h.oth j hj];simp[go_sem,Ne.symm hj]
  try omega
 rw[<-h.fro j];simp[go_sem]
theorem zdl(w:Yw)(z0 z1 z2 z3:Value)(t:TypeId):∃U,U=w.alloc (.cells #[z0,z1,z2,z3] t)/\Below w.heap.size w U/\U.heap.size=w.heap.size+1/\U.cell? ⟨w.heap.size,0,none⟩=some z0/\U.cell? ⟨w.heap.size,1,none⟩=some z1/\U.cell? ⟨w.heap.size,2,none⟩=some z2/\U.cell? ⟨w.heap.size,3,none⟩=some z3/\(∀j,U.frozen? ⟨w.heap.size,j,none⟩=false):=
 ⟨_,rfl,(Below.refl _ _).alloc (Nat.le_refl _) _,by simp,by simp[go_sem],by simp[go_sem],by simp[go_sem],by simp[go_sem],fun j=>by simp[go_sem]⟩
theorem zd3(w:Yw)(z0 z1 z2 z3 z4 z5:Value)(t:TypeId):∃U,U=w.alloc (.cells #[z0,z1,z2,z3,z4,z5] t)/\Below w.heap.size w U/\U.heap.size=w.heap.size+1/\U.cell? ⟨w.heap.size,0,none⟩=some z0/\U.cell? ⟨w.heap.size,1,none⟩=some z1/\U.cell? ⟨w.heap.size,2,none⟩=some z2/\U.cell? ⟨w.heap.size,3,none⟩=some z3/\U.cell? ⟨w.heap.size,4,none⟩=some z4/\U.cell? ⟨w.heap.size,5,none⟩=some z5/\(∀j,U.frozen? ⟨w.heap.size,j,none⟩=false):=
 ⟨_,rfl,(Below.refl _ _).alloc (Nat.le_refl _) _,by simp,by simp[go_sem],by simp[go_sem],by simp[go_sem],by simp[go_sem],by simp[go_sem],by simp[go_sem],fun j=>by simp[go_sem]⟩
theorem zjf(w:Yw)(z0:Value)(t:TypeId):∃U,U=w.alloc (.cells #[z0] t)/\Below w.heap.size w U/\U.heap.size=w.heap.size+1/\U.cell? ⟨w.heap.size,0,none⟩=some z0/\(∀j,U.frozen? ⟨w.heap.size,j,none⟩=false):=
 ⟨_,rfl,(Below.refl _ _).alloc (Nat.le_refl _) _,by simp,by simp[go_sem],fun j=>by simp[go_sem]⟩
theorem zmk(w:Yw)(z0 z1 z2:Value)(t:TypeId):∃U,U=w.alloc (.cells #[z0,z1,z2] t)/\Below w.heap.size w U/\U.heap.size=w.heap.size+1/\U.cell? ⟨w.heap.size,0,none⟩=some z0/\U.cell? ⟨w.heap.size,1,none⟩=some z1/\U.cell? ⟨w.heap.size,2,none⟩=some z2/\(∀j,U.frozen? ⟨w.heap.size,j,none⟩=false):=
 ⟨_,rfl,(Below.refl _ _).alloc (Nat.le_refl _) _,by simp,by simp[go_sem],by simp[go_sem],by simp[go_sem],fun j=>by simp[go_sem]⟩
theorem box6{U:Yw}{g:Nat}{z0 z1 z2 z3 z4 z5:Value}(c0:U.cell? ⟨g,0,none⟩=some z0)(c1:U.cell? ⟨g,1,none⟩=some z1)(c2:U.cell? ⟨g,2,none⟩=some z2)(c3:U.cell? ⟨g,3,none⟩=some z3)(c4:U.cell? ⟨g,4,none⟩=some z4)(c5:U.cell? ⟨g,5,none⟩=some z5)(f:∀j,U.frozen? ⟨g,j,none⟩=false)(v0 v1 v2 v3 v4 v5:Value):
 ∃U',U'=(((((U.setCell ⟨g,0,none⟩ v0).setCell ⟨g,1,none⟩ v1).setCell ⟨g,2,none⟩ v2).setCell ⟨g,3,none⟩ v3).setCell ⟨g,4,none⟩ v4).setCell ⟨g,5,none⟩ v5/\U'.cell? ⟨g,0,none⟩=some v0/\U'.cell? ⟨g,1,none⟩=some v1/\U'.cell? ⟨g,2,none⟩=some v2/\U'.cell? ⟨g,3,none⟩=some v3/\U'.cell? ⟨g,4,none⟩=some v4/\U'.cell? ⟨g,5,none⟩=some v5/\(∀j,U'.frozen? ⟨g,j,none⟩=false)/\Chg (fun b=>b=g) U U'/\U'.heap.size=U.heap.size:=by
 refine⟨_,rfl,by simp[go_sem,c0],by simp[go_sem,c1],by simp[go_sem,c2],by simp[go_sem,c3],by simp[go_sem,c4],by simp[go_sem,c5],fun j=>by simp[go_sem,f j],(((((Chg.set (F:=fun b=>b=g) _ g 0 v0 rfl).trans (Chg.set _ g 1 v1 rfl)).trans (Chg.set _ g 2 v2 rfl)).trans (Chg.set _ g 3 v3 rfl)).trans (Chg.set _ g 4 v4 rfl)).trans (Chg.set _ g 5 v5 rfl),by simp⟩
theorem zml(xs:List zas):∀u∈xs.flatMap cl,u.oneCell'=true:=by
 intro u hu;obtain⟨x,-,hx⟩:=List.mem_flatMap.1 hu;simp only[cl,List.mem_cons,List.mem_nil_iff,or_false]at hx;rcases hx with h|h|h|h|h <;> rw[h] <;> rfl
theorem zmm(xs:List (Int×Int)):∀u∈xs.flatMap sd,u.oneCell'=true:=by
 intro u hu;obtain⟨x,-,hx⟩:=List.mem_flatMap.1 hu;simp only[sd,List.mem_cons,List.mem_nil_iff,or_false]at hx;rcases hx with h|h <;> rw[h] <;> rfl
theorem zmn{w:Yw}{B:Nat}{A:Yo}{n c:Nat}{ms:List zag}(hr:RS tSt w B (.slice A n c) ms)(hb:hM.sz ms<=100000000){k:Nat}(hk:k<n):
 ∃(bb o:Nat) (s:ByteArray) (l:Int) (A1:Yo) (n1 c1:Nat) (us:List (Int×Int)),A=some ⟨bb,o,none⟩/\bb<B/\Hid (ms[k]?=some (s,l,us))/\w.cell? ⟨bb,o+k*3,none⟩=some (.string s)/\w.cell? ⟨bb,o+k*3+1,none⟩=some (.int .i64 l)/\w.cell? ⟨bb,o+k*3+2,none⟩=some (.slice A1 n1 c1)/\s.size<=maxLen/\RA sd 2 w B A1 n1 us/\n1<=100000000:=by
 obtain rfl:ms.length=n:=hr.cap.1;have hX:=List.getElem?_eq_getElem hk;obtain⟨bb,o,c1,cs,hv,hab,-,hE,hc⟩:=hr.atX hX;simp only[Value.slice.injEq]at hv;obtain⟨rfl,-,rfl⟩:=hv;have hU:=hSt.szL_at hX;have hU2:ms.length+hSt.szL ms<=100000000:=hb;generalize ms[k]=x at hX hE hU;obtain⟨s,l,us⟩:=x;obtain⟨A1,n1,c1,rfl,hs,hS⟩:=st_R.1 hE;have hra:RA sd 2 w B A1 n1 us:=(sl_R.1 hS).flat.1;have hl:us.length=n1:=hra.len
 have hz:us.length<=hSt.sz (s,l,us):=by
  have e:hSt.sz (s,l,us)=s.size+(0+(us.length+hSd.szL us)):=rfl;omega
 have e0:w.cell? ⟨bb,o+k*3,none⟩=some (.string s):=hc 0 _ rfl;exact⟨bb,o,s,l,A1,n1,c1,us,rfl,hab,Lib.hid hX,e0,hc 1 _ rfl,hc 2 _ rfl,hs,hra,by omega⟩
end Go.Proofs.YtifeldeikhmckaaGreat
