import Derived.Test.YtifeldeikhmckaaGreatFnMutedG3
import Derived.Test.YtifeldeikhmckaaGreatFnMutedG4
import Derived.Test.YtifeldeikhmckaaGreatFnMutedG5
import Derived.Lib.QuietBelow
import Derived.Deep.QuietTactic
import Derived.RegionTactic
set_option linter.unusedVariables false
set_option linter.unusedSimpArgs false
set_option maxRecDepth 100000
set_option maxHeartbeats 4000000
namespace Go.Proofs.YtifeldeikhmckaaGreat
open Go.RowKit Go.Sort
abbrev Bz := @regrown_of_below
theorem zsv{src:List (List Int)}(h:zdz src=true){k:Nat}{x:List Int}(hx:src[k]?=some x):M.sig x=true:=by
 rw[zdz,Cx,Ef]at h;exact h.2 x (Eg hx)
theorem zsw{src:List (List Int)}(h:zdz src=true):Hid (∀x∈src,x.length<=1000000000):=Aq (by
 intro x hx;obtain⟨k,hk,rfl⟩:=List.getElem_of_mem hx;have:=zsv h (Ak hk);rw[M.sig,Cx,decide_eq_true_iff]at this;omega)
theorem zsx{xs:List Clip}{m:Int}(h:zbq xs m=true){k:Nat}{c:Clip}(hx:xs[k]?=some c):c.1<m:=by
 rw[zbq,Ef]at h;simpa using h c (Eg hx)
theorem zsy(A A':Yo)(n c n' c' t:Nat)(src:List (List Int))(xs:List Clip)(w:Yw)(hs:RS tS w w.heap.size (.slice A n c) src)(hx:RA cl 5 w w.heap.size A' n' xs)(hok:zdz src=true)(hk:za1 xs=true)(hh:zbq xs src.length=true)(ht:t<=4000):
 Calls Tryz.prog 117 #[.slice A n c,.agg #[.slice A' n' c'],.int .i64 t] w (Ret1 2 w (zek src xs t)):=by
 have hl:=Aq hx.len;have hls:=Aq hs.cap.1;have hn12:n'<=12:=by have:=zly hk;rw[hl.out]at this;exact this
 have OK:=Aq hok;have SL:=zsw hok;have HK:=Aq hk;have HH:=Aq hh;clear hok hk hh;obtain⟨W,hW⟩:∃W,W=w.alloc (.cells #[.slice A' n' c'] 98):=⟨_,rfl⟩;have B0:Below w.heap.size w W:=by rw[hW];exact(Aw _ _).alloc (Aj _) _
 have z0:W.heap.size=w.heap.size+1:=by rw[hW];simp
 have pv0:W.cell? ⟨w.heap.size,0,none⟩=some (.slice A' n' c'):=by rw[hW];simp[go_sem]
 have l0:w.heap.size<W.heap.size:=by omega
 have HW:=Aq hW;have Z0:=Aq z0;clear hW z0
 go_enter Tryz.func117,Tryz.ntmps117
 go_wp2_with fail;rw[<-HW.out];refine(zc5 _ _ (by omega) (by omega)).mono ?_;rintro e w1 ⟨v1,rfl,own1,bel1⟩;rw[Fq,<-zqy src]at own1;obtain⟨A1,c1,rfl,-⟩:=own1.shape;rw[zj9]at *;have pv1:w1.cell? ⟨w.heap.size,0,none⟩=some (.slice A' n' c'):=by rw[bel1.cell l0];exact pv0
 have l1:=Cq l0 bel1.size;have B1:=zaa B0 bel1;have s1:=bel1.size;go_wp2_with fail
 go_loopw [9,10,16] (fun _ _ i wr=>∃k:Nat,i=.int .i64 k/\k<=n'/\OI 2 W.heap.size wr (.slice A1 t c1) (zek src (xs.take k) t)/\Below W.heap.size W wr) (fun _ _ i _=>n'-(intOf i).toNat)
 case atStart=>exact⟨0,rfl,by omega,by simpa using own1,bel1⟩
 case round=>
  obtain⟨k,rfl,hk,own,hb⟩:=hrel;obtain⟨wo,rfl⟩:∃wo:Yw,wo=wr:=⟨_,rfl⟩
  by_cases hlt:k<n'
  ·obtain⟨b,o,⟨p0,p1,p2,p3,p4⟩,rfl,hab,X,hc⟩:=(hx.below (zaa B0 hb)).at zde (by decide) hlt;have hc0:wo.cell? ⟨b,o+k*5,none⟩=some (.int .i64 p0):=hc 0 _ rfl;have hc1:wo.cell? ⟨b,o+k*5+1,none⟩=some (.int .i64 p1):=hc 1 _ rfl;have hc2:wo.cell? ⟨b,o+k*5+2,none⟩=some (.int .i64 p2):=hc 2 _ rfl;have hc3:wo.cell? ⟨b,o+k*5+3,none⟩=some (.int .i64 p3):=hc 3 _ rfl;have hc4:wo.cell? ⟨b,o+k*5+4,none⟩=some (.int .i64 p4):=hc 4 _ rfl;clear hc;obtain⟨b0,b2,b1,b3,b4⟩:=zlz (zj8 HK.out X.out);simp only at b0 b1 b2 b3 b4;have hsl:=zsx HH.out X.out;simp only at hsl;rw[hls.out]at hsl;obtain⟨s,rfl⟩:∃s:Nat,p0=s:=⟨p0.toNat,by omega⟩;obtain⟨a,rfl⟩:∃a:Nat,p3=a:=⟨p3.toNat,by omega⟩;obtain⟨f,rfl⟩:∃f:Nat,p1=f:=⟨p1.toNat,by omega⟩;have hT:=Aq (M.take_at X.out);have hE0:=Aq (zqz src (xs.take k) ((s:Int),(f:Int),p2,(a:Int),p4) t);obtain⟨U,hU⟩:∃U,U=wo.alloc (.cells #[.int .i64 s,.int .i64 f,.int .i64 p2,.int .i64 a,.int .i64 p4] 165):=⟨_,rfl⟩;have bU:Below wo.heap.size wo U:=(by rw[hU];exact(Aw _ _).alloc (Aj _) _);have e0:U.cell? ⟨wo.heap.size,0,none⟩=some (.int .i64 s):=(by rw[hU];simp[go_sem]);have e1:U.cell? ⟨wo.heap.size,1,none⟩=some (.int .i64 f):=(by rw[hU];simp[go_sem]);have e2:U.cell? ⟨wo.heap.size,2,none⟩=some (.int .i64 p2):=(by rw[hU];simp[go_sem]);have e3:U.cell? ⟨wo.heap.size,3,none⟩=some (.int .i64 a):=(by rw[hU];simp[go_sem]);have e4:U.cell? ⟨wo.heap.size,4,none⟩=some (.int .i64 p4):=(by rw[hU];simp[go_sem]);have lU:wo.heap.size<U.heap.size:=(by rw[hU];simp);have HU:=Aq hU;clear hU;have ownU:=own.below bU;have hbU:=hb.trans (bU.mono hb.size);have so:=hb.size;go_wp2_with fail;rw[<-HU.out];clear hc0 hc1 hc2 hc3 hc4
   go_loopw [10] (fun i wr=>∃m:Nat,i=.int .i64 m/\(m:Int)<=p2/\OI 2 W.heap.size wr (.slice A1 t c1) (zel src (xs.take k) ((s:Int),(f:Int),p2,(a:Int),p4) m t)/\Mid W.heap.size wo.heap.size U wr) (fun i _=>p2.toNat-(intOf i).toNat)
   case atStart=>exact⟨0,rfl,by omega,by rw[hE0.out];exact ownU,Mid.refl _ _ _⟩
   case round=>
    obtain⟨m,rfl,hm,own2,hm2⟩:=hrel;have g0:wr.cell? ⟨wo.heap.size,0,none⟩=some (.int .i64 s):=hm2.cellK lU (.inr (Aj _)) e0;have g1:wr.cell? ⟨wo.heap.size,1,none⟩=some (.int .i64 f):=hm2.cellK lU (.inr (Aj _)) e1;have g2:wr.cell? ⟨wo.heap.size,2,none⟩=some (.int .i64 p2):=hm2.cellK lU (.inr (Aj _)) e2;have g3:wr.cell? ⟨wo.heap.size,3,none⟩=some (.int .i64 a):=hm2.cellK lU (.inr (Aj _)) e3;have g4:wr.cell? ⟨wo.heap.size,4,none⟩=some (.int .i64 p4):=hm2.cellK lU (.inr (Aj _)) e4;have BW:Below W.heap.size W wr:=hbU.trans (hm2.toBelow hbU.size)
    by_cases hml:(m:Int)<p2
    ·by_cases hat:a+m<t
     ·obtain⟨g,rfl,hB,hgl⟩:=own.form' (by omega);obtain⟨p,hp⟩:∃p:Nat,p=a+m:=⟨_,rfl⟩;obtain⟨q,hq⟩:∃q:Nat,q=f+m:=⟨_,rfl⟩;have hpt:p<t:=(by omega);have hpt2:(p:Int)<(t:Int):=(by omega);have HP:=Aq (show (p:Int)=(a:Int)+(m:Int)by omega);have HQ:=Aq (show (q:Int)=(f:Int)+(m:Int)by omega);obtain⟨z,Z,hc2,hf2,_,_⟩:=own2.at' (k:=p) hpt;obtain⟨bb,oo,A3,c3,y,rfl,hbb,Y,hyc,hri,hyl⟩:=zf7 (hs.below (zaa B0 BW)) SL (k:=s) (by omega);have hri':=hri.more (B':=wr.heap.size) (by have:=B0.size;have:=BW.size;omega)
      have hz:z=wrap32 (zc7 src (xs.take k) (p:Int)):=by
       have:=Z.out;rw[zq0 hpt HP.out,Dq]at this;exact this.symm
      have HZ:=Aq hz;have hst:=Aq (zq1 (src:=src) (xs:=xs.take k) (c:=((s:Int),(f:Int),p2,(a:Int),p4)) hpt HP.out hml);have hy0:=Aq (show (src[((s:Int)).toNat]?).getD []=y by rw[Fq,Y.out];rfl);have hab1:(a:Int)+(m:Int)<t:=(by omega);have e5:IntKind.i64.wrap ((a:Int)+(m:Int))=(p:Int):=(by rw[IntWalk.i64_in _ (by omega)];exact HP.out.symm);have e6:IntKind.i64.wrap ((f:Int)+(m:Int))=(q:Int):=(by rw[IntWalk.i64_in _ (by omega)];exact HQ.out.symm);clear hz hp hq;go_wp2;clear hab1;refine wp_region_still_tail 27 (by kernel_rfl) (by kernel_rfl) ?_;simp only[List.take_succ_cons,List.take_zero,List.drop_succ_cons,List.drop_zero]
      iterate 23 still_step
      still_call (zlo (zhn _ _ _ _ _ _ hri' hyl (by omega)))
      iterate 2 still_step
      still_call (zlo (zdq _ _))
      refine wpStill_nil ?_;change wpList _ _ _ _ _ wr.drew;go_wp2;go_roundw
      case rel=>
       have h3:=OI.stored' own2 p (wrap32 (wrap64 (z+wrap64 (p4*M.at_ y (q:Int)))));have he:wrap32 (wrap64 (z+wrap64 (p4*M.at_ y (q:Int))))=wrap32 (z+p4*M.at_ y (q:Int)):=(by rw[M.wrap32_64,<-M.wrap32_addr,M.wrap32_64,M.wrap32_addr]);have hst2:=hst.out;rw[hy0.out,<-HZ.out,<-HQ.out]at hst2;rw[he,hst2]at h3;refine⟨m+1,by go_num,by omega,?_,(hm2.trans (Mid.of_grown (zc0 wr g p _) fun k hk=>by injection hk with hk;omega)).trans ⟨rfl,rfl,rfl,Aj _,fun _ _ _=>rfl⟩⟩;rw[he];exact h3
      case measure=>simp[intOf];omega
     have hnt:¬(a:Int)+(m:Int)<(t:Int):=(by omega);have hfin:=Aq (zl0 src (xs.take k) ((s:Int),(f:Int),p2,(a:Int),p4) m t (.inr (by simp only;omega)));go_wp2;go_roundw
     case rel=>exact⟨k+1,by go_num,by omega,by rw[hT.out,<-hfin.out];exact own2,BW⟩
     case measure=>simp[intOf];omega
    have hfin:=Aq (zl0 src (xs.take k) ((s:Int),(f:Int),p2,(a:Int),p4) m t (.inl (by simp only;omega)));go_wp2;go_roundw
    case rel=>exact⟨k+1,by go_num,by omega,by rw[hT.out,<-hfin.out];exact own2,BW⟩
    case measure=>simp[intOf];omega
  obtain rfl:n'=k:=by omega
  rw[Cg (by rw[hl.out];exact Aj _)]at own;go_wp2;go_ret;exact⟨_,rfl,own.base (by rw[Z0.out];omega),zaa B0 hb⟩
set_option synthInstance.maxSize 2000
set_option synthInstance.maxHeartbeats 400000
theorem zsz{w:Yw}{B:Nat}{A:Yo}{n c:Nat}{xs:List Clip}(h:tT.R w B [.slice A n c] xs):RA cl 5 w B A n xs:=(sl_R.1 h).flat.1
theorem zi4{w:Yw}{B:Nat}{A:Yo}{n c:Nat}{ts:List (List zap)}(hr:RS tT w B (.slice A n c) ts)(hb:hTS.sz ts<=100000000){k:Nat}(hk:k<n):
 ∃(bb o:Nat) (A1:Yo) (n1 c1:Nat) (x:List zap),A=some ⟨bb,o,none⟩/\bb<B/\Hid (ts[k]?=some x)/\w.cell? ⟨bb,o+k,none⟩=some (.slice A1 n1 c1)/\tT.R w B [.slice A1 n1 c1] x/\RA cl 5 w B A1 n1 x/\n1<=100000000:=by
 obtain rfl:ts.length=n:=hr.cap.1;have hX:=Ak hk;obtain⟨bb,o,c1,cs,hv,hab,-,hE,hc⟩:=hr.atX hX;simp only[Cz]at hv;obtain⟨rfl,-,rfl⟩:=hv;have hU:=hT.szL_at hX;have hU2:ts.length+hT.szL ts<=100000000:=hb;generalize ts[k]=x at hX hE hU;obtain⟨A1,n1,c1,rfl⟩:=zbv hE;have e0:w.cell? ⟨bb,o+k*1,none⟩=some (.slice A1 n1 c1):=hc 0 _ rfl;rw[Nat.mul_one]at e0;have hra:=zsz hE;have hl:x.length=n1:=hra.len;have hz:x.length<=hT.sz x:=Nat.le_add_right _ _;exact⟨bb,o,A1,n1,c1,x,rfl,hab,Aq hX,e0,hE,hra,by omega⟩
theorem zi5{w:Yw}{B:Nat}{A:Yo}{n c:Nat}{ps:List zae}(hr:RS tP w B (.slice A n c) ps)(hb:hPS.sz ps<=100000000){k:Nat}(hk:k<n):
 ∃(bb o:Nat) (a0:Int) (A1:Yo) (n1 c1:Nat) (A2:Yo) (n2 c2:Nat) (A3:Yo) (n3 c3:Nat) (x1:List (List Int)) (x2:List Node) (x3:List Int),A=some ⟨bb,o,none⟩/\bb<B/\Hid (ps[k]?=some (a0,x1,x2,x3))/\
  w.cell? ⟨bb,o+k*4,none⟩=some (.int .i64 a0)/\w.cell? ⟨bb,o+k*4+1,none⟩=some (.slice A1 n1 c1)/\w.cell? ⟨bb,o+k*4+2,none⟩=some (.slice A2 n2 c2)/\w.cell? ⟨bb,o+k*4+3,none⟩=some (.slice A3 n3 c3)/\
  tSS.R w B [.slice A1 n1 c1] x1/\tNS.R w B [.slice A2 n2 c2] x2/\tS.R w B [.slice A3 n3 c3] x3/\hP.sz ((a0,x1,x2,x3):zae)<=100000000:=by
 obtain rfl:ps.length=n:=hr.cap.1;have hX:=Ak hk;obtain⟨bb,o,c1,cs,hv,hab,-,hE,hc⟩:=hr.atX hX;simp only[Cz]at hv;obtain⟨rfl,-,rfl⟩:=hv;have hU:=hP.szL_at hX;have hU2:ps.length+hP.szL ps<=100000000:=hb;generalize ps[k]=x at hX hE hU;obtain⟨a0,x1,x2,x3⟩:=x;obtain⟨A1,n1,c1,A2,n2,c2,A3,n3,c3,rfl,h1,h2,h3⟩:=tP_R.1 hE;have e0:w.cell? ⟨bb,o+k*4,none⟩=some (.int .i64 a0):=hc 0 _ rfl;exact⟨bb,o,a0,A1,n1,c1,A2,n2,c2,A3,n3,c3,x1,x2,x3,rfl,hab,Aq hX,e0,hc 1 _ rfl,hc 2 _ rfl,hc 3 _ rfl,h1,h2,h3,by omega⟩
theorem zs0(vb:Nat)(a0:Int)(A1:Yo)(n1 c1:Nat)(A2:Yo)(n2 c2:Nat)(A3:Yo)(n3 c3:Nat)(A4:Yo)(n4 c4:Nat)(A5:Yo)(n5 c5:Nat)(x1:List (List Int))(x2:List (List zap))(x3:List Int)(x4:List zae)(x5:List zag)(w:Yw)(p0:w.cell? ⟨vb,0,none⟩=some (.int .i64 a0))(p1:w.cell? ⟨vb,1,none⟩=some (.slice A1 n1 c1))(p2:w.cell? ⟨vb,2,none⟩=some (.slice A2 n2 c2))(p3:w.cell? ⟨vb,3,none⟩=some (.slice A3 n3 c3))(p4:w.cell? ⟨vb,4,none⟩=some (.slice A4 n4 c4))(p5:w.cell? ⟨vb,5,none⟩=some (.slice A5 n5 c5))(h1:tSS.R w w.heap.size [.slice A1 n1 c1] x1)(h2:tTS.R w w.heap.size [.slice A2 n2 c2] x2)(h3:tS.R w w.heap.size [.slice A3 n3 c3] x3)(h4:tPS.R w w.heap.size [.slice A4 n4 c4] x4)(h5:tM.R w w.heap.size [.slice A5 n5 c5] x5)(hn:hZ.sz ((a0,x1,x2,x3,x4,x5):Sess)<=100000000):
 Calls Tryz.prog 25 #[.pointer (some ⟨vb,0,none⟩)] w fun e w'=>e=.returned (.bool (zbd (a0,x1,x2,x3,x4,x5)))/\Below w.heap.size w w':=by
 have k1:=h1;have k2:=h2;have k3:=h3;have k4:=h4;have k5:=h5;have lv:vb<w.heap.size:=Cj w _ p0;rw[zeb]at hn;have r1:=sl_R.1 k1;have L1:=Aq r1.cap.1;have r2:=sl_R.1 k2;have L2:=Aq r2.cap.1;have r3:=sl_R.1 k3;have L3:=Aq r3.cap.1;have r4:=sl_R.1 k4;have L4:=Aq r4.cap.1;have r5:=sl_R.1 k5;have L5:=Aq r5.cap.1;have z1:hSS.sz x1<=100000000:=by omega
 have bn1:n1<=100000000:=by have e:x1.length+hS.szL x1=hSS.sz x1:=rfl;have:=L1.out;omega
 have z2:hTS.sz x2<=100000000:=by omega
 have bn2:n2<=100000000:=by have e:x2.length+hT.szL x2=hTS.sz x2:=rfl;have:=L2.out;omega
 have z3:hS.sz x3<=100000000:=by omega
 have bn3:n3<=100000000:=by have e:x3.length+hI.szL x3=hS.sz x3:=rfl;have:=L3.out;omega
 have z4:hPS.sz x4<=100000000:=by omega
 have bn4:n4<=100000000:=by have e:x4.length+hP.szL x4=hPS.sz x4:=rfl;have:=L4.out;omega
 have z5:hM.sz x5<=100000000:=by omega
 have bn5:n5<=100000000:=by have e:x5.length+hSt.szL x5=hM.sz x5:=rfl;have:=L5.out;omega
 have hb1:Hid (∀x∈x1,x.length<=1000000000):=Aq (fun x hx=>by
  have hq1:x1.length+hS.szL x1=hSS.sz x1:=rfl;obtain⟨i,hi⟩:=Fk hx;have:=hS.szL_at hi;rw[zb3]at this;omega)
 have hx3:=(tS_R.1 k3).ri;clear hn;have HS:=Aq (show zbd (a0,x1,x2,x3,x4,x5)=(M.inn a0 0 1000&&(decide (n1<=6)&&x1.all M.sig)&&decide (n2<=6)&&zay x5&&decide (n3=n2)&&x3.all (za7 n5)&&decide (n4=n5)&&x2.all (fun t=>za1 t&&zbq t n1)&&x4.all zas)by rw[zbd,zdz];simp only[L1.out,L2.out,L3.out,L4.out,L5.out]);generalize zbd (a0,x1,x2,x3,x4,x5)=ok at HS ⊢;have cI:∀d os,Calls Tryz.prog 67 #[.int .i64 a0,.int .i64 0,.int .i64 1000] (grow (redrawn w d) os) fun e w''=>e=.returned (.bool (M.inn a0 0 1000))/\∃p:Regrown,w''=grow (redrawn w p.d) p.os:=fun d os=>Fw (zg6 (za0 _ _ _ _))
 have cM:∀d os,Calls Tryz.prog 68 #[.pointer (some ⟨vb,5,none⟩)] (grow (redrawn w d) os) fun e w''=>e=.returned (.bool (zay x5))/\∃p:Regrown,w''=grow (redrawn w p.d) p.os:=fun d os=>Fw (zsu vb 5 A5 n5 c5 x5 _ (Ag p5 d os) (tM.later k5 (Cf w d os)) z5)
 have pp0:=Ag p0;have pp1:=Ag p1;have pp2:=Ag p2;have pp3:=Ag p3;have pp4:=Ag p4;have pp5:=Ag p5;clear p0 p1 p2 p3 p4 p5;cases g0:M.inn a0 0 1000
 ·have R:=Aq (show ok=false by rw[HS.out];simp only[g0,Ez,Ev,Ew]);rw[g0]at cI;clear g0
  go_enter Tryz.func25,Tryz.ntmps25
  go_wp2_with fail
  (refine Ck (by kernel_rfl) (by kernel_rfl) ?_;(repeat (go_big_quiet_step ((first|exact cI _ _|exact cM _ _))));refine Cv ?_;intro _ hw';obtain⟨⟨dq,osq⟩,hw''⟩:=hw';subst hw'')
  go_wp2;go_ret;exact⟨zac (by rw[R.out]),Cf w dq osq⟩
 rw[g0]at cI;have G0:=Aq g0;clear g0
 by_cases g1:¬n1<=6
 ·have R:=Aq (show ok=false by rw[HS.out];simp only[G0.out,Dz g1,Ez,Ev,Ew]);have gg:decide ((6:Int)<(n1:Int))=true:=Dx (by omega)
  go_enter Tryz.func25,Tryz.ntmps25
  go_wp2_with fail
  (refine Ck (by kernel_rfl) (by kernel_rfl) ?_;(repeat (go_big_quiet_step ((first|exact cI _ _|exact cM _ _))));refine Cv ?_;intro _ hw';obtain⟨⟨dq,osq⟩,hw''⟩:=hw';subst hw'')
  go_wp2;go_ret;exact⟨zac (by rw[R.out]),Cf w dq osq⟩
 replace g1:n1<=6:=Dy.1 g1;have gd1:decide ((6:Int)<(n1:Int))=false:=Dz (by omega)
 by_cases g2:¬n2<=6
 ·have R:=Aq (show ok=false by rw[HS.out];simp only[G0.out,Dx g1,Dz g2,Ez,Ev,Ew]);have gg:decide ((6:Int)<(n2:Int))=true:=Dx (by omega)
  go_enter Tryz.func25,Tryz.ntmps25
  go_wp2_with fail
  (refine Ck (by kernel_rfl) (by kernel_rfl) ?_;(repeat (go_big_quiet_step ((first|exact cI _ _|exact cM _ _))));refine Cv ?_;intro _ hw';obtain⟨⟨dq,osq⟩,hw''⟩:=hw';subst hw'')
  go_wp2;go_ret;exact⟨zac (by rw[R.out]),Cf w dq osq⟩
 replace g2:n2<=6:=Dy.1 g2;have gd2:decide ((6:Int)<(n2:Int))=false:=Dz (by omega);cases g3:zay x5
 ·have R:=Aq (show ok=false by rw[HS.out];simp only[G0.out,Dx g1,Dx g2,g3,Ez,Ev,Ew]);rw[g3]at cM;clear g3
  go_enter Tryz.func25,Tryz.ntmps25
  go_wp2_with fail
  (refine Ck (by kernel_rfl) (by kernel_rfl) ?_;(repeat (go_big_quiet_step ((first|exact cI _ _|exact cM _ _))));refine Cv ?_;intro _ hw';obtain⟨⟨dq,osq⟩,hw''⟩:=hw';subst hw'')
  go_wp2;go_ret;exact⟨zac (by rw[R.out]),Cf w dq osq⟩
 rw[g3]at cM;have G3:=Aq g3;clear g3
 by_cases g4:¬n3=n2
 ·have R:=Aq (show ok=false by rw[HS.out];simp only[G0.out,Dx g1,Dx g2,G3.out,Dz g4,Ez,Ev,Ew]);have gg:((n3:Int) != (n2:Int))=true:=by simp;omega
  go_enter Tryz.func25,Tryz.ntmps25
  go_wp2_with fail
  (refine Ck (by kernel_rfl) (by kernel_rfl) ?_;(repeat (go_big_quiet_step ((first|exact cI _ _|exact cM _ _))));refine Cv ?_;intro _ hw';obtain⟨⟨dq,osq⟩,hw''⟩:=hw';subst hw'')
  go_wp2;go_ret;exact⟨zac (by rw[R.out]),Cf w dq osq⟩
 replace g4:n3=n2:=Dy.1 g4;subst g4
 by_cases g5:¬n4=n5
 ·have R:=Aq (show ok=false by rw[HS.out];simp only[G0.out,Dx g1,Dx g2,G3.out,decide_true,Dz g5,Ez,Ev,Ew]);have gg:((n4:Int) != (n5:Int))=true:=by simp;omega
  go_enter Tryz.func25,Tryz.ntmps25
  go_wp2_with fail
  (refine Ck (by kernel_rfl) (by kernel_rfl) ?_;(repeat (go_big_quiet_step ((first|exact cI _ _|exact cM _ _))));refine Cv ?_;intro _ hw';obtain⟨⟨dq,osq⟩,hw''⟩:=hw';subst hw'')
  go_wp2;go_ret;exact⟨zac (by rw[R.out]),Cf w dq osq⟩
 replace g5:n4=n5:=Dy.1 g5;subst g5;have HS2:=Aq (show ok=(x1.all M.sig&&x3.all (za7 n4)&&x2.all (fun t=>za1 t&&zbq t n1)&&x4.all zas)by rw[HS.out];simp only[G0.out,Dx g1,Dx g2,G3.out,decide_true,Ew,Bool.and_true])
 go_enter Tryz.func25,Tryz.ntmps25
 go_wp2_with fail
 (refine Ck (by kernel_rfl) (by kernel_rfl) ?_;(repeat (go_big_quiet_step ((first|exact cI _ _|exact cM _ _))));refine Cv ?_;intro _ hw';obtain⟨⟨dq,osq⟩,hw''⟩:=hw';subst hw'')
 replace pp0:=pp0 dq osq;replace pp1:=pp1 dq osq;replace pp2:=pp2 dq osq;replace pp3:=pp3 dq osq;replace pp4:=pp4 dq osq;replace pp5:=pp5 dq osq;have BV:=Cf w dq osq;replace k1:=tSS.later k1 BV;replace k2:=tTS.later k2 BV;replace k3:=tS.later k3 BV;replace k4:=tPS.later k4 BV;replace k5:=tM.later k5 BV;clear cI cM HS r1 r2 r3 r4 r5 hx3;generalize grow (redrawn w dq) osq=V at pp0 pp1 pp2 pp3 pp4 pp5 k1 k2 k3 k4 k5 BV ⊢;have lV:vb<V.heap.size:=Cj V _ pp0;have r1:=sl_R.1 k1;have r2:=sl_R.1 k2;have r4:=sl_R.1 k4;have hx3:=(tS_R.1 k3).ri;go_wp2_with fail
 go_loop [3] (fun i=>∃k:Nat,i=.int .i64 k/\k<=n1/\Hid (x1.all M.sig=(x1.drop k).all M.sig)) (fun i=>n1-(intOf i).toNat)
 case atStart=>exact⟨0,rfl,by omega,Aq (by simp)⟩
 case round=>
  obtain⟨k,rfl,hk,H⟩:=hrel
  by_cases hlt:k<n1
  ·obtain⟨bb,o,A7,c7,x,rfl,hbb,Y,hc,hri,hxl⟩:=zf7 r1 hb1 hlt;have hd:=Aq (M.drop_at Y.out);have hk0:(0:Int)<=(k:Int):=(by omega);have hkn:(k:Int)<(n1:Int):=(by omega);cases hs:M.sig x
   ·have R:=Aq (show ok=false by rw[HS2.out,H.out,hd.out,Dv,hs];rfl);have HQ:=Aq hs;clear hs;go_wp2_with fail;refine(zil _ _ _ _ _ hri hxl).mono ?_;rw[HQ.out];rintro e w' ⟨rfl,rfl⟩;go_wp2;go_ret;exact⟨zac (by rw[R.out]),BV⟩
   have R:=Aq (show x1.all M.sig=(x1.drop (k+1)).all M.sig by rw[H.out,hd.out,Dv,hs];rfl);have HQ:=Aq hs;clear hs;go_wp2_with fail;refine(zil _ _ _ _ _ hri hxl).mono ?_;rw[HQ.out];rintro e w' ⟨rfl,rfl⟩;go_wp2;go_round
   case rel=>exact⟨k+1,by go_num,by omega,R⟩
   case measure=>simp[intOf];omega
  have HS3:=Aq (show ok=(x3.all (za7 n4)&&x2.all (fun t=>za1 t&&zbq t n1)&&x4.all zas)by rw[HS2.out,H.out,Ej (by rw[L1.out];omega)];rfl);go_wp2_with fail;clear H hk hlt
  go_loopw [4] (fun i wr=>∃k:Nat,i=.int .i64 k/\k<=n3/\Hid (ok=((x3.drop k).all (za7 n4)&&(x2.drop k).all (fun t=>za1 t&&zbq t n1)&&x4.all zas))/\Below V.heap.size V wr) (fun i _=>n3-(intOf i).toNat)
  case atStart=>exact⟨0,rfl,by omega,Aq HS3.out,Aw _ _⟩
  case round=>
   obtain⟨k,rfl,hk,H,Bw⟩:=hrel;have BW:=zaa BV Bw
   by_cases hlt:k<n3
   ·obtain⟨bt,ot,A7,n7,c7,t,rfl,hbt,Y,e0,hT,hra,h7⟩:=zi4 (r2.below Bw) z2 hlt;obtain⟨ad,f,rfl,hab,Y3,f0⟩:=(hx3.below Bw).at hlt;have hd:=Aq (M.drop_at Y.out);have hd3:=Aq (M.drop_at Y3.out);have hk0:(0:Int)<=(k:Int):=(by omega);have hkn:(k:Int)<(n3:Int):=(by omega);have hn4:IntKind.i64.wrap ((n4:Int)-1)=(n4:Int)-1:=IntWalk.i64_in _ (by omega);have ee0:=Ag e0;have ff0:=Ag f0;have q0:=Ag (show wr.cell? ⟨vb,0,none⟩=some (.int .i64 a0)by rw[Bw.cell lV];exact pp0);have q1:=Ag (show wr.cell? ⟨vb,1,none⟩=some (.slice A1 n1 c1)by rw[Bw.cell lV];exact pp1);have q2:=Ag (show wr.cell? ⟨vb,2,none⟩=some (.slice (some ⟨bt,ot,none⟩) n3 c2)by rw[Bw.cell lV];exact pp2);have q3:=Ag (show wr.cell? ⟨vb,3,none⟩=some (.slice (some ad) n3 c3)by rw[Bw.cell lV];exact pp3);have q5:=Ag (show wr.cell? ⟨vb,5,none⟩=some (.slice A5 n4 c5)by rw[Bw.cell lV];exact pp5);have q2w:wr.cell? ⟨vb,2,none⟩=some (.slice (some ⟨bt,ot,none⟩) n3 c2):=(by rw[Bw.cell lV];exact pp2);have hra2:=fun d os=>(hra.more Bw.size).later (Cf wr d os)
    have cT:∀d os,Calls Tryz.prog 70 #[.pointer (some ⟨bt,ot+k,none⟩),.int .i64 n1] (grow (redrawn wr d) os) fun e w''=>e=.returned (.bool (za1 t&&zbq t n1))/\∃p:Regrown,w''=grow (redrawn wr p.d) p.os:=fun d os=>Fw (zsm bt (ot+k) A7 n7 c7 t n1 _ (ee0 d os) (hra2 d os) (by omega) (by omega))
    have cI:∀d os,Calls Tryz.prog 67 #[.int .i64 f,.int .i64 0,.int .i64 ((n4:Int)-1)] (grow (redrawn wr d) os) fun e w''=>e=.returned (.bool (M.inn f 0 ((n4:Int)-1)))/\∃p:Regrown,w''=grow (redrawn wr p.d) p.os:=fun d os=>Fw (zg6 (za0 _ _ _ _))
    clear e0 f0;cases hs:(za1 t&&zbq t n1)
    ·have R:=Aq (show ok=false by rw[H.out,hd.out,hd3.out,Dv,Dv];simp only[hs,Ez,Ev]);rw[hs]at cT;clear hs;go_wp2_with fail;clear q2w
     (refine Ck (by kernel_rfl) (by kernel_rfl) ?_;(repeat (go_big_quiet_step ((first|exact cT _ _|exact cI _ _))));refine Cv ?_;intro _ hw';obtain⟨⟨dq,osq⟩,hw''⟩:=hw';subst hw'')
     go_wp2;go_ret;exact⟨zac (by rw[R.out]),zaa BW (Cf wr dq osq)⟩
    rw[hs]at cT;cases hf:M.inn f 0 ((n4:Int)-1)
    ·have R:=Aq (show ok=false by rw[H.out,hd.out,hd3.out,Dv,Dv,za7];simp only[hf,Ez]);rw[hf]at cI;clear hs hf;go_wp2_with fail;clear q2w
     (refine Ck (by kernel_rfl) (by kernel_rfl) ?_;(repeat (go_big_quiet_step ((first|exact cT _ _|exact cI _ _))));refine Cv ?_;intro _ hw';obtain⟨⟨dq,osq⟩,hw''⟩:=hw';subst hw'')
     go_wp2;go_ret;exact⟨zac (by rw[R.out]),zaa BW (Cf wr dq osq)⟩
    have R:=Aq (show ok=((x3.drop (k+1)).all (za7 n4)&&(x2.drop (k+1)).all (fun t=>za1 t&&zbq t n1)&&x4.all zas)by rw[H.out,hd.out,hd3.out,Dv,Dv,za7];simp only[hf,hs,Ew]);rw[hf]at cI;clear hs hf;go_wp2_with fail;clear q2w
    (refine Ck (by kernel_rfl) (by kernel_rfl) ?_;(repeat (go_big_quiet_step ((first|exact cT _ _|exact cI _ _))));refine Cv ?_;intro _ hw';obtain⟨⟨dq,osq⟩,hw''⟩:=hw';subst hw'')
    go_wp2;go_roundw
    case rel=>exact⟨k+1,by go_num,by omega,R,zaa Bw (Cf wr dq osq)⟩
    case measure=>simp[intOf];omega
   have HS4:=Aq (show ok=x4.all zas by rw[H.out,Ej (by rw[L3.out];omega),Ej (by rw[L2.out];omega)];rfl);have q2:wr.cell? ⟨vb,2,none⟩=some (.slice A2 n3 c2):=(by rw[Bw.cell lV];exact pp2);go_wp2_with fail;clear H hk;obtain⟨wo,rfl⟩:∃wo:Yw,wo=wr:=⟨_,rfl⟩
   go_loopw [5] (fun i wr=>∃k:Nat,i=.int .i64 k/\k<=n4/\Hid (ok=(x4.drop k).all zas)/\Below V.heap.size V wr) (fun i _=>n4-(intOf i).toNat)
   case atStart=>exact⟨0,rfl,by omega,Aq HS4.out,Bw⟩
   case round=>
    obtain⟨k,rfl,hk,H,Bw2⟩:=hrel;have BW:=zaa BV Bw2;have q4:wr.cell? ⟨vb,4,none⟩=some (.slice A4 n4 c4):=by rw[Bw2.cell lV];exact pp4
    by_cases hlt2:k<n4
    ·obtain⟨bp,op,b0,B1,m1,d1,B2,m2,d2,B3,m3,d3,y1,y2,y3,rfl,hbp,Y,e0,e1,e2,e3,t1,t2,t3,hz⟩:=zi5 (r4.below Bw2) z4 hlt2;have hd:=Aq (M.drop_at Y.out);have s1:=tSS.more Bw2.size t1;have s2:=tNS.more Bw2.size t2;have s3:=tS.more Bw2.size t3;have M1:=Aq (sl_R.1 s1).cap.1;have M2:=Aq (sl_R.1 s2).cap.1;have M3:=Aq (zcu s3);have hk0:(0:Int)<=(k:Int):=(by omega);have hkn:(k:Int)<(n4:Int):=(by omega);clear t1 t2 t3;cases hno:decide (((b0,y1,y2,y3):zae)=M.p0)
     ·have HNO:=Aq hno
      by_cases hb0:b0=1
      ·subst hb0
       by_cases hm3:m3=1
       ·subst hm3;cases hp:zce (1,y1,y2,y3)
        ·have R:=Aq (show ok=false by rw[H.out,hd.out,Dv,zas];simp only[hno,hp,Bool.false_or,Ez]);have HP:=Aq hp;clear hno hp
         go_wp2_with (first
          | (go_at_call 27;refine(zh3 bp (op+k*4) 1 B1 m1 d1 B2 m2 d2 B3 1 d3 y1 y2 y3 wr e0 e1 e2 e3 M1 M2 M3).mono ?_;rw[HNO.out];rintro e w' ⟨rfl,rfl⟩)
          | (go_at_call 71;refine(zm5 bp (op+k*4) 1 B1 m1 d1 B2 m2 d2 B3 1 d3 y1 y2 y3 wr e0 e1 e2 e3 s1 s2 s3 hz).mono ?_;rw[HP.out];rintro e w5 ⟨rfl,bel5⟩))
         go_ret;exact⟨zac (by rw[R.out]),zaa BW bel5⟩
        have R:=Aq (show ok=(x4.drop (k+1)).all zas by rw[H.out,hd.out,Dv,zas];simp only[hno,hp,M3.out,decide_true,Bool.false_or,Ew]);have HP:=Aq hp;clear hno hp
        go_wp2_with (first
         | (go_at_call 27;refine(zh3 bp (op+k*4) 1 B1 m1 d1 B2 m2 d2 B3 1 d3 y1 y2 y3 wr e0 e1 e2 e3 M1 M2 M3).mono ?_;rw[HNO.out];rintro e w' ⟨rfl,rfl⟩)
         | (go_at_call 71;refine(zm5 bp (op+k*4) 1 B1 m1 d1 B2 m2 d2 B3 1 d3 y1 y2 y3 wr e0 e1 e2 e3 s1 s2 s3 hz).mono ?_;rw[HP.out];rintro e w5 ⟨rfl,bel5⟩))
        go_roundw
        case rel=>exact⟨k+1,by go_num,by omega,R,zaa Bw2 bel5⟩
        case measure=>simp[intOf];omega
       have R:=Aq (show ok=false by rw[H.out,hd.out,Dv,zas];simp only[hno,M3.out,Dz hm3,Bool.false_or,Ev,Ez]);have gm:((m3:Int) != 1)=true:=(by simp;omega);clear hno;go_wp2_with (go_at_call 27;refine(zh3 bp (op+k*4) 1 B1 m1 d1 B2 m2 d2 B3 m3 d3 y1 y2 y3 wr e0 e1 e2 e3 M1 M2 M3).mono ?_;rw[HNO.out];rintro e w' ⟨rfl,rfl⟩);go_ret;exact⟨zac (by rw[R.out]),BW⟩
      have R:=Aq (show ok=false by rw[H.out,hd.out,Dv,zas];simp only[hno,Dz hb0,Bool.false_or,Ev,Ez]);have gb:(b0 != 1)=true:=(by simpa using hb0);clear hno;go_wp2_with (go_at_call 27;refine(zh3 bp (op+k*4) b0 B1 m1 d1 B2 m2 d2 B3 m3 d3 y1 y2 y3 wr e0 e1 e2 e3 M1 M2 M3).mono ?_;rw[HNO.out];rintro e w' ⟨rfl,rfl⟩);go_ret;exact⟨zac (by rw[R.out]),BW⟩
     have R:=Aq (show ok=(x4.drop (k+1)).all zas by rw[H.out,hd.out,Dv,zas];simp only[hno,Bool.true_or,Ew]);have HNO:=Aq hno;clear hno;go_wp2_with (go_at_call 27;refine(zh3 bp (op+k*4) b0 B1 m1 d1 B2 m2 d2 B3 m3 d3 y1 y2 y3 wr e0 e1 e2 e3 M1 M2 M3).mono ?_;rw[HNO.out];rintro e w' ⟨rfl,rfl⟩);go_roundw
     case rel=>exact⟨k+1,by go_num,by omega,R,Bw2⟩
     case measure=>simp[intOf];omega
    have R:=Aq (show ok=true by rw[H.out,Ej (by rw[L4.out];omega)];rfl);go_wp2;go_ret;exact⟨zac (by rw[R.out]),BW⟩
theorem zcx{x:Node}{tb:Int}(h:zaj x tb=true):M.inn x.1 1 17=true/\(x.1=6->1<=x.2.1/\x.2.1<=16)/\(x.1=17->1<=x.2.2.1/\x.2.2.1<=16):=by
 obtain⟨k,a,b,l⟩:=x;rw[zaj]at h;simp only[Cx]at h;refine⟨h.1,fun e=>?_,fun e=>?_⟩
 ·simp only at e;subst e;have h2:=h.2.1.1.1.1;simp[M.aI,M.kd,zgo,M.inn]at h2;exact h2
 simp only at e;subst e;have h2:=h.2.1.1.1.2;simp[M.bI,M.kd,zgo,M.inn]at h2;exact h2
theorem zfo(w:Yw)(x:Int):OI 2 w.heap.size (w.alloc (.cells #[.int .i64 x] 2)) (.slice (some ⟨w.heap.size,0,none⟩) 1 1) [x]:=
 ⟨rfl,.inr ⟨w.heap.size,1,#[.int .i64 x],rfl,Aj _,Df w _,Aj _,by simp[maxLen],rfl,rfl⟩⟩
theorem zs1(a0 a1 a2:Int)(A:Yo)(n c:Nat)(xs:List Int)(tb:Int)(w:Yw)(hok:zaj (a0,a1,a2,xs) tb=true):
 Calls Tryz.prog 218 #[.agg #[.int .i64 a0,.int .i64 a1,.int .i64 a2,.slice A n c]] w (Ret1 2 w (zbe (a0,a1,a2,xs))):=by
 obtain⟨hk,h6,h17⟩:=zcx hok;simp only at hk h6 h17;obtain⟨W,hW⟩:∃W,W=w.alloc (.cells #[.int .i64 a0,.int .i64 a1,.int .i64 a2,.slice A n c] 169):=⟨_,rfl⟩;have B0:Below w.heap.size w W:=by rw[hW];exact(Aw _ _).alloc (Aj _) _
 have p0:W.cell? ⟨w.heap.size,0,none⟩=some (.int .i64 a0):=by rw[hW];simp[go_sem]
 have p1:W.cell? ⟨w.heap.size,1,none⟩=some (.int .i64 a1):=by rw[hW];simp[go_sem]
 have p2:W.cell? ⟨w.heap.size,2,none⟩=some (.int .i64 a2):=by rw[hW];simp[go_sem]
 have lW:w.heap.size<W.heap.size:=by rw[hW];simp
 have HW:=Aq hW;clear hW hok;rcases zgp hk with rfl|rfl|rfl|rfl|rfl|rfl|rfl|rfl|rfl|rfl|rfl|rfl|rfl|rfl|rfl|rfl|rfl
 case inr.inr.inr.inr.inr.inl=>
  have h6':=h6 rfl
  go_enter Tryz.func218,Tryz.ntmps218
  go_wp2_with (go_at_call 116;rw[<-HW.out];refine(zc5 _ _ (by omega) (by omega)).mono ?_;rintro e w1 ⟨v1,rfl,own1,bel1⟩);go_ret;exact⟨_,rfl,own1.base (by omega),zaa B0 bel1⟩
 case inr.inr.inr.inr.inr.inr.inr.inr.inr.inr.inr.inr.inr.inr.inr.inr=>
  have h17':=h17 rfl
  go_enter Tryz.func218,Tryz.ntmps218
  go_wp2_with (go_at_call 116;rw[<-HW.out];refine(zc5 _ _ (by omega) (by omega)).mono ?_;rintro e w1 ⟨v1,rfl,own1,bel1⟩);go_ret;exact⟨_,rfl,own1.base (by omega),zaa B0 bel1⟩
 case inr.inr.inr.inr.inr.inr.inr.inr.inr.inr.inr.inl=>
  have O1:=zfo W a1;have B1:Below w.heap.size w (W.alloc (.cells #[.int .i64 a1] 2)):=B0.alloc B0.size _;rw[HW.out]at O1 B1;have hz:(w.alloc (.cells #[.int .i64 12,.int .i64 a1,.int .i64 a2,.slice A n c] 169)).heap.size=w.heap.size+1:=by simp
  rw[hz]at O1
  go_enter Tryz.func218,Tryz.ntmps218
  go_wp2;go_ret;exact⟨_,rfl,O1.base (by omega),B1⟩
 case inr.inr.inr.inr.inr.inr.inr.inr.inr.inr.inr.inr.inr.inl=>
  have O1:=zfo W a1;have B1:Below w.heap.size w (W.alloc (.cells #[.int .i64 a1] 2)):=B0.alloc B0.size _;rw[HW.out]at O1 B1;have hz:(w.alloc (.cells #[.int .i64 14,.int .i64 a1,.int .i64 a2,.slice A n c] 169)).heap.size=w.heap.size+1:=by simp
  rw[hz]at O1
  go_enter Tryz.func218,Tryz.ntmps218
  go_wp2;go_ret;exact⟨_,rfl,O1.base (by omega),B1⟩
 all_goals
  go_enter Tryz.func218,Tryz.ntmps218
  go_wp2_with (go_at_call 116;rw[<-HW.out];refine(zc5 _ _ (by omega) (by omega)).mono ?_;rintro e w1 ⟨v1,rfl,own1,bel1⟩);go_ret;exact⟨_,rfl,own1.base (by omega),zaa B0 bel1⟩
def zbh (fs vs:List Int):List Int:=fs.map fun f=>M.i_ vs f.toNat
theorem znc(fs vs:List Int):(zbh fs vs).length=fs.length:=by simp[zbh]
theorem zs2{fs vs:List Int}{k:Nat}{f:Int}(h:fs[k]?=some f):(zbh fs vs).take (k+1)=(zbh fs vs).take k++[M.i_ vs f.toNat]:=by
 rw[M.take_at];simp[zbh,h]
theorem zi6{vs:List Int}{k:Nat}{v:Int}(h:vs[k]?=some v):M.i_ vs k=v:=by rw[M.i_,h];rfl
theorem zi7(A A':Yo)(n c n' c':Nat)(fs vs:List Int)(w:Yw)(hx:RI w w.heap.size A n fs)(hv:RI w w.heap.size A' n' vs)(hn:n<=1000000000)(hn':n'<=1000000000)(hr:Hid (∀f∈fs,0<=f/\f<n')):
 Calls Tryz.prog 153 #[.slice A n c,.slice A' n' c'] w (Ret1 2 w (zbh fs vs)):=by
 have hl:=Aq hx.len
 go_enter Tryz.func153,Tryz.ntmps153
 go_wp2_with fail
 go_loopw [5,11] (fun v i wr=>∃k:Nat,i=.int .i64 k/\k<=n/\OI 2 w.heap.size wr v ((zbh fs vs).take k)/\Below w.heap.size w wr) (fun _ i _=>n-(intOf i).toNat)
 case atStart=>exact⟨0,rfl,by omega,OI.made _ _,(Aw _ _).alloc (Aj _) _⟩
 case round=>
  obtain⟨k,rfl,hk,own,hb⟩:=hrel
  by_cases hlt:k<n
  ·obtain⟨ad,f,rfl,hab,X,hc⟩:=((hx.below hb).more hb.size).at hlt;have hfr:=hr.out f (Eg X.out);obtain⟨m,rfl⟩:∃m:Nat,f=(m:Int):=⟨f.toNat,by omega⟩;obtain⟨ad2,y,rfl,hab2,Y,hc2⟩:=((hv.below hb).more hb.size).at (k:=m) (by omega);have HT:=Aq (show (zbh fs vs).take (k+1)=(zbh fs vs).take k++[y]by rw[zs2 X.out,Fq,zi6 Y.out]);have hk1:((zbh fs vs).take k).length<=1000000000:=(by rw[Ey];omega);have hm0:(0:Int)<=(m:Int):=(by omega);have hmn:(m:Int)<(n':Int):=(by omega);clear hfr;go_wp2_with (at_builtin;refine zf5 zbu rfl _ _ rfl own rfl rfl rfl (by unfold maxLen;omega) (by omega) hb.size ?_;intro v1 w1 own1 gr1 bel1);go_roundw
   case rel=>exact⟨k+1,by go_num,by omega,by rw[HT.out];exact OI.push own1,hb.trans bel1⟩
   case measure=>simp[intOf];omega
  go_wp2;go_ret;rw[Cg (by rw[znc,hl.out];omega)]at own;exact⟨_,rfl,own,hb⟩
theorem zau{w:Yw}{B:Nat}{A:Yo}{n:Nat}{xs:List Int}(h:RI w B A n xs)(hn:0<n):∃b o,A=some ⟨b,o,none⟩/\b<B/\∀k x,xs[k]?=some x->w.cell? ⟨b,o+k,none⟩=some (.int .i64 x):=by
 obtain⟨ad,rfl,hb,hc⟩:=h.2 hn;have hl:0<xs.length:=by rw[h.len];exact hn
 have h0:=hc 0 (.int .i64 xs[0]) (by simp[hl]);have hsp:=zim h0;have e:ad=⟨ad.block,ad.off,none⟩:=by simpa [Addr.add]using hsp
 refine⟨ad.block,ad.off,by rw[<-e],hb,fun k x hx=>?_⟩;have:=hc k (.int .i64 x) (by simp[hx]);rw[e,Addr.add_lit]at this;exact this
def zch (k:Int):Nat:=if k=1 then 1 else(M.ar k.toNat).toNat
theorem len0{xs:List Int}(h:xs.length=0):xs=[]:=List.eq_nil_of_length_eq_zero h
theorem len1{xs:List Int}(h:xs.length=1):∃a,xs=[a]:=by
 match xs,h with
 | [a],_=>exact⟨a,rfl⟩
theorem len2{xs:List Int}(h:xs.length=2):∃a b,xs=[a,b]:=by
 match xs,h with
 | [a,b],_=>exact⟨a,b,rfl⟩
theorem len3{xs:List Int}(h:xs.length=3):∃a b c,xs=[a,b,c]:=by
 match xs,h with
 | [a,b,c],_=>exact⟨a,b,c,rfl⟩
theorem zs3(n:Int):bits .and .i64 n 1=n % 2:=by
 have h0:0<=n % 18446744073709551616:=Int.emod_nonneg _ (by decide)
 have hx:((BitVec.ofInt 64 n &&& BitVec.ofInt 64 1).toNat:Int)=n % 2:=by
  rw[BitVec.toNat_and,show (BitVec.ofInt 64 1).toNat=2 ^ 1-1 from by decide,Nat.and_two_pow_sub_one_eq_mod,BitVec.toNat_ofInt];omega
 show IntKind.i64.wrap ((BitVec.ofInt 64 n &&& BitVec.ofInt 64 1).toNat:Int)=_
 rw[hx,IntKind.wrap_i64];omega
theorem zkp(x:Int)(w:Yw):Calls Tryz.prog 255 #[.int .i64 x] w fun e w'=>e=.returned (.int .i64 (x % 4294967296))/\w=w':=by
 go_enter Tryz.func255,Tryz.ntmps255
 go_wp2;go_ret;exact⟨rfl,rfl⟩
theorem znd(x:Int)(w:Yw):Calls Tryz.prog 257 #[.int .i64 x] w fun e w'=>e=.returned (.bool (decide (x % 2=1)))/\w=w':=by
 go_enter Tryz.func257,Tryz.ntmps257
 go_wp2;go_ret;exact⟨zac (by rw[zs3,Bool.eq_iff_iff];simp),rfl⟩
theorem zs4(x:Int)(w:Yw):Calls Tryz.prog 256 #[.int .i64 x] w fun e w'=>e=.returned (.int .i64 (zeo x))/\w=w':=by
 obtain⟨u,hu⟩:∃u:Nat,x % 4294967296=(u:Int):=⟨(x % 4294967296).toNat,by omega⟩;have HU:=Aq hu;have hub:u<4294967296:=by omega
 by_cases h:x % 2=1
 ·have HD:=Aq (Dx h);have R:=Aq (show zeo x=wrap32 (zki ((u:Int) / 2))by rw[zeo,if_pos h,hu]);clear h hu
  go_enter Tryz.func256,Tryz.ntmps256
  go_wp2_with (first
   | (go_at_call 255;refine(zkp _ _).mono ?_;rw[HU.out];rintro e w' ⟨rfl,rfl⟩)
   | (go_at_call 257;refine(znd _ _).mono ?_;rw[HD.out];rintro e w' ⟨rfl,rfl⟩)
   | (go_at_call 168;refine(zdq _ _).mono ?_;rintro e w' ⟨rfl,rfl⟩))
  go_ret;exact⟨zb1 (by rw[R.out,zki]),rfl⟩
 have HD:=Aq (Dz h);have R:=Aq (show zeo x=wrap32 ((u:Int) / 2)by rw[zeo,if_neg h,hu]);clear h hu
 go_enter Tryz.func256,Tryz.ntmps256
 go_wp2_with (first
  | (go_at_call 255;refine(zkp _ _).mono ?_;rw[HU.out];rintro e w' ⟨rfl,rfl⟩)
  | (go_at_call 257;refine(znd _ _).mono ?_;rw[HD.out];rintro e w' ⟨rfl,rfl⟩)
  | (go_at_call 168;refine(zdq _ _).mono ?_;rintro e w' ⟨rfl,rfl⟩))
 go_ret;exact⟨zb1 (by rw[R.out]),rfl⟩
theorem zs5(t:List Int)(x:Int)(hn:1<=t.length/\t.length<=16):∃(u q:Nat) (y:Int),x % 4294967296=(u:Int)/\u<4294967296/\((t.length:Int)*(u:Int)) / 4294967296=(q:Int)/\q<t.length/\t[q]?=some y/\zhu t x=y:=by
 obtain⟨u,hu⟩:∃u:Nat,x % 4294967296=(u:Int):=⟨(x % 4294967296).toNat,by omega⟩;have hub:u<4294967296:=by omega
 obtain⟨q,hq⟩:∃q:Nat,((t.length:Int)*(u:Int)) / 4294967296=(q:Int):=⟨t.length*u / 4294967296,by simp⟩
 have hqt:q<t.length:=by
  have h1:t.length*u<t.length*4294967296:=Nat.mul_lt_mul_of_pos_left hub (by omega);have h2:((t.length:Int)*(u:Int))=((t.length*u:Nat):Int):=by simp
  rw[h2]at hq;omega
 exact⟨u,q,t[q],hu,hub,hq,hqt,Ak hqt,by rw[zhu,hu,hq,Fq,zi6 (Ak hqt)]⟩
theorem zs6(a1 a2:Int)(A:Yo)(n c:Nat)(b o ci:Nat)(i0:Int)(At:Yo)(nt ct:Nat)(w:Yw)(c0:w.cell? ⟨b,o,none⟩=some (.int .i64 i0)):
 Calls Tryz.prog 239 #[.agg #[.int .i64 1,.int .i64 a1,.int .i64 a2,.slice A n c],.slice At nt ct,.slice (some ⟨b,o,none⟩) 1 ci] w fun e w'=>e=.returned (.int .i64 (i0))/\Below w.heap.size w w':=by
 have lb:b<w.heap.size:=Cj w _ c0
 go_enter Tryz.func239,Tryz.ntmps239
 go_wp2;go_ret;exact⟨rfl,(Aw _ _).alloc (Aj _) _⟩
theorem zs7(a1 a2:Int)(A:Yo)(n c:Nat)(Ai:Yo)(ci:Nat)(At:Yo)(nt ct:Nat)(w:Yw):
 Calls Tryz.prog 239 #[.agg #[.int .i64 2,.int .i64 a1,.int .i64 a2,.slice A n c],.slice At nt ct,.slice Ai 0 ci] w fun e w'=>e=.returned (.int .i64 (a1))/\Below w.heap.size w w':=by
 skip
 go_enter Tryz.func239,Tryz.ntmps239
 go_wp2;go_ret;exact⟨rfl,(Aw _ _).alloc (Aj _) _⟩
theorem zne(a1 a2:Int)(A:Yo)(n c:Nat)(b o ci:Nat)(i0 i1:Int)(At:Yo)(nt ct:Nat)(w:Yw)(c0:w.cell? ⟨b,o,none⟩=some (.int .i64 i0))(c1:w.cell? ⟨b,o+1,none⟩=some (.int .i64 i1))(hi:-2147483648<=i0/\i0<=2147483647/\-2147483648<=i1/\i1<=2147483647):
 Calls Tryz.prog 239 #[.agg #[.int .i64 3,.int .i64 a1,.int .i64 a2,.slice A n c],.slice At nt ct,.slice (some ⟨b,o,none⟩) 2 ci] w fun e w'=>e=.returned (.int .i64 (wrap32 (i0+i1)))/\Below w.heap.size w w':=by
 have lb:b<w.heap.size:=Cj w _ c0
 go_enter Tryz.func239,Tryz.ntmps239
 go_wp2_with fail
 go_quiet (exact zbo (zdq _ _))
 go_wp2;go_ret;exact⟨zb1 (by first|rfl|exact M.wrap32_64 _|exact(M.wrap32_64 _).symm),zad ((Aw _ _).alloc (Aj _) _) _⟩
theorem znf(a1 a2:Int)(A:Yo)(n c:Nat)(b o ci:Nat)(i0 i1:Int)(At:Yo)(nt ct:Nat)(w:Yw)(c0:w.cell? ⟨b,o,none⟩=some (.int .i64 i0))(c1:w.cell? ⟨b,o+1,none⟩=some (.int .i64 i1))(hi:-2147483648<=i0/\i0<=2147483647/\-2147483648<=i1/\i1<=2147483647):
 Calls Tryz.prog 239 #[.agg #[.int .i64 4,.int .i64 a1,.int .i64 a2,.slice A n c],.slice At nt ct,.slice (some ⟨b,o,none⟩) 2 ci] w fun e w'=>e=.returned (.int .i64 (wrap32 (i0-i1)))/\Below w.heap.size w w':=by
 have lb:b<w.heap.size:=Cj w _ c0
 go_enter Tryz.func239,Tryz.ntmps239
 go_wp2_with fail
 go_quiet (exact zbo (zdq _ _))
 go_wp2;go_ret;exact⟨zb1 (by first|rfl|exact M.wrap32_64 _|exact(M.wrap32_64 _).symm),zad ((Aw _ _).alloc (Aj _) _) _⟩
theorem zng(a1 a2:Int)(A:Yo)(n c:Nat)(b o ci:Nat)(i0:Int)(At:Yo)(nt ct:Nat)(w:Yw)(c0:w.cell? ⟨b,o,none⟩=some (.int .i64 i0))(ha:-2147483648<=a1/\a1<=2147483647)(hi:-2147483648<=i0/\i0<=2147483647):
 Calls Tryz.prog 239 #[.agg #[.int .i64 5,.int .i64 a1,.int .i64 a2,.slice A n c],.slice At nt ct,.slice (some ⟨b,o,none⟩) 1 ci] w fun e w'=>e=.returned (.int .i64 (wrap32 (a1*i0)))/\Below w.heap.size w w':=by
 have lb:b<w.heap.size:=Cj w _ c0
 go_enter Tryz.func239,Tryz.ntmps239
 go_wp2_with fail
 go_quiet (exact zbo (zdq _ _))
 go_wp2;go_ret;exact⟨zb1 (by first|rfl|exact M.wrap32_64 _|exact(M.wrap32_64 _).symm),zad ((Aw _ _).alloc (Aj _) _) _⟩
theorem znh(a1 a2:Int)(A:Yo)(n c:Nat)(b o ci:Nat)(i0 i1:Int)(At:Yo)(nt ct:Nat)(w:Yw)(c0:w.cell? ⟨b,o,none⟩=some (.int .i64 i0))(c1:w.cell? ⟨b,o+1,none⟩=some (.int .i64 i1))(hi:-2147483648<=i0/\i0<=2147483647/\-2147483648<=i1/\i1<=2147483647):
 Calls Tryz.prog 239 #[.agg #[.int .i64 9,.int .i64 a1,.int .i64 a2,.slice A n c],.slice At nt ct,.slice (some ⟨b,o,none⟩) 2 ci] w fun e w'=>e=.returned (.int .i64 (wrap32 (i0*i1)))/\Below w.heap.size w w':=by
 have lb:b<w.heap.size:=Cj w _ c0
 go_enter Tryz.func239,Tryz.ntmps239
 go_wp2_with fail
 go_quiet (exact zbo (zdq _ _))
 go_wp2;go_ret;exact⟨zb1 (by first|rfl|exact M.wrap32_64 _|exact(M.wrap32_64 _).symm),zad ((Aw _ _).alloc (Aj _) _) _⟩
theorem zni(a1 a2:Int)(A:Yo)(n c:Nat)(b o ci:Nat)(i0:Int)(At:Yo)(nt ct:Nat)(w:Yw)(c0:w.cell? ⟨b,o,none⟩=some (.int .i64 i0))(ha:0<=a1/\a1<=31)(hi:-2147483648<=i0/\i0<=2147483647):
 Calls Tryz.prog 239 #[.agg #[.int .i64 10,.int .i64 a1,.int .i64 a2,.slice A n c],.slice At nt ct,.slice (some ⟨b,o,none⟩) 1 ci] w fun e w'=>e=.returned (.int .i64 (i0 / 2 ^ a1.toNat))/\Below w.heap.size w w':=by
 have lb:b<w.heap.size:=Cj w _ c0
 go_enter Tryz.func239,Tryz.ntmps239
 go_wp2_with fail
 go_quiet (fail)
 go_wp2;go_ret;exact⟨rfl,zad ((Aw _ _).alloc (Aj _) _) _⟩
theorem znj(a1 a2:Int)(A:Yo)(n c:Nat)(b o ci:Nat)(i0:Int)(At:Yo)(nt ct:Nat)(w:Yw)(c0:w.cell? ⟨b,o,none⟩=some (.int .i64 i0))(ha:0<=a1/\a1<=2147483647)(hi:-2147483648<=i0/\i0<=2147483647):
 Calls Tryz.prog 239 #[.agg #[.int .i64 11,.int .i64 a1,.int .i64 a2,.slice A n c],.slice At nt ct,.slice (some ⟨b,o,none⟩) 1 ci] w fun e w'=>e=.returned (.int .i64 (max (-a1) (min a1 i0)))/\Below w.heap.size w w':=by
 have lb:b<w.heap.size:=Cj w _ c0;have hneg:wrap64 (-a1) = -a1:=M.wrap64_in _ (by omega);rcases(show (i0 < -a1)\/(-a1<=i0/\i0<a1)\/(a1<=i0)by omega)with h|h|h
 ·have R:=Aq (show max (-a1) (min a1 i0) = -a1 by omega);have h1:i0<a1:=by omega
  have h2:¬-a1<i0:=by omega
  have h3:¬a1<i0:=by omega
  go_enter Tryz.func239,Tryz.ntmps239
  go_wp2_with fail
  go_quiet (fail)
  go_wp2
  all_goals
   go_ret;exact⟨zb1 (by omega),zad ((Aw _ _).alloc (Aj _) _) _⟩
 ·have R:=Aq (show max (-a1) (min a1 i0)=i0 by omega);have h1:i0<a1:=by omega
  have h2:¬i0 < -a1:=by omega
  have h3:¬a1<i0:=by omega
  go_enter Tryz.func239,Tryz.ntmps239
  go_wp2_with fail
  go_quiet (fail)
  go_wp2
  all_goals
   go_ret;exact⟨zb1 (by omega),zad ((Aw _ _).alloc (Aj _) _) _⟩
 have R:=Aq (show max (-a1) (min a1 i0)=a1 by omega);have h1:¬i0<a1:=by omega
 have h2:¬a1 < -a1:=by omega
 go_enter Tryz.func239,Tryz.ntmps239
 go_wp2_with fail
 go_quiet (fail)
 go_wp2
 all_goals
  go_ret;exact⟨zb1 (by omega),zad ((Aw _ _).alloc (Aj _) _) _⟩
theorem znk(a1 a2:Int)(A:Yo)(n c:Nat)(b o ci:Nat)(i0:Int)(bt ot nt ct:Nat)(A1:Yo)(c1 j n2:Nat)(t:List Int)(w:Yw)(c0:w.cell? ⟨b,o,none⟩=some (.int .i64 i0))(ha:a1=(j:Int)/\j<nt/\nt<=4)(e0:w.cell? ⟨bt,ot+j,none⟩=some (.slice A1 n2 c1))(ht:RI w w.heap.size A1 n2 t)(hn:1<=n2/\n2<=16):
 Calls Tryz.prog 239 #[.agg #[.int .i64 13,.int .i64 a1,.int .i64 a2,.slice A n c],.slice (some ⟨bt,ot,none⟩) nt ct,.slice (some ⟨b,o,none⟩) 1 ci] w fun e w'=>e=.returned (.int .i64 (zhu t i0))/\Below w.heap.size w w':=by
 have lb:b<w.heap.size:=Cj w _ c0;have lbt:bt<w.heap.size:=Cj w _ e0;obtain⟨W,hW⟩:∃W,W=w.alloc (.cells #[.int .i64 13,.int .i64 a1,.int .i64 a2,.slice A n c] 169):=⟨_,rfl⟩;obtain⟨rfl,hj,hnt⟩:=ha;have hj0:(0:Int)<=(j:Int):=by omega
 have hjn:(j:Int)<(nt:Int):=by omega
 have hl2:=ht.len;obtain⟨u,q,y,hu,hub,hq,hqn,hy,hM⟩:=zs5 t i0 (by omega);rw[hl2]at hq hqn;obtain⟨b2,o2,rfl,hb2,hc2⟩:=zau ht (by omega);have cy:=hc2 q y hy;have h3:n2*u<n2*4294967296:=Nat.mul_lt_mul_of_pos_left hub (by omega)
 have hw:IntKind.i64.wrap ((n2:Int)*(u:Int))=(n2:Int)*(u:Int):=IntWalk.i64_in _ (by
  have h2:((n2:Int)*(u:Int))=((n2*u:Nat):Int):=by simp
  rw[h2];omega)
 have hw2:wrap64 ((n2:Int)*(u:Int))=(n2:Int)*(u:Int):=M.wrap64_in _ (by
  have h2:((n2:Int)*(u:Int))=((n2*u:Nat):Int):=by simp
  rw[h2];omega)
 have hq0:(0:Int)<=(q:Int):=by omega
 have hqm:(q:Int)<(n2:Int):=by omega
 have R:=Aq hM;have cU:∀w,Calls Tryz.prog 255 #[.int .i64 i0] w fun e w'=>e=.returned (.int .i64 (u:Int))/\w=w':=fun w=>by rw[<-hu];exact zkp i0 w
 clear hc2 hM h3 ht hu hW W hl2
 go_enter Tryz.func239,Tryz.ntmps239
 go_wp2_with fail
 go_quiet (first|exact zbo (cU _)|exact zbo (zb2 _ _ _ _))
 go_wp2;go_ret;exact⟨zb1 (by rw[R.out]),zad ((Aw _ _).alloc (Aj _) _) _⟩
theorem znl(a1 a2:Int)(A:Yo)(n c:Nat)(b o ci:Nat)(i0 i1 i2:Int)(At:Yo)(nt ct:Nat)(w:Yw)(c0:w.cell? ⟨b,o,none⟩=some (.int .i64 i0))(c1:w.cell? ⟨b,o+1,none⟩=some (.int .i64 i1))(c2:w.cell? ⟨b,o+2,none⟩=some (.int .i64 i2))(hi:-2147483648<=i0/\i0<=2147483647/\-2147483648<=i1/\i1<=2147483647/\-2147483648<=i2/\i2<=2147483647):
 Calls Tryz.prog 239 #[.agg #[.int .i64 15,.int .i64 a1,.int .i64 a2,.slice A n c],.slice At nt ct,.slice (some ⟨b,o,none⟩) 3 ci] w fun e w'=>e=.returned (.int .i64 ((if 0<=i0 then i1 else i2)))/\Below w.heap.size w w':=by
 have lb:b<w.heap.size:=Cj w _ c0
 by_cases h:0<=i0
 ·have R:=Aq (show (if 0<=i0 then i1 else i2)=i1 from if_pos h)
  go_enter Tryz.func239,Tryz.ntmps239
  go_wp2;go_ret;exact⟨zb1 (by first|rfl|exact R.out|exact R.out.symm),(Aw _ _).alloc (Aj _) _⟩
 have R:=Aq (show (if 0<=i0 then i1 else i2)=i2 from if_neg h)
 go_enter Tryz.func239,Tryz.ntmps239
 go_wp2;go_ret;exact⟨zb1 (by first|rfl|exact R.out|exact R.out.symm),(Aw _ _).alloc (Aj _) _⟩
section
theorem RI.tail1{w:Yw}{B b o n c:Nat}{s0:Int}{ss:List Int}(h:RI w B (some ⟨b,o,none⟩) n (s0::ss))(hc:n<=c):RI w B (if c=1 then some ⟨b,o,none⟩else some ⟨b,o+1,none⟩) (n-1) ss:=by
 have hl:=h.len;simp only[Dk]at hl;have h2:=Reads.cut (k:=1) (cap:=c) h (by omega) hc;unfold RI;simpa [Addr.add_lit]using h2
section
variable {P:Program} {t e:TypeId} {z:Value} {bytes:Nat}
theorem zs8(hE:EI P t e z 1 bytes){w:Yw}{ops:Array Oper}{rest:List Oper}{o:Oper}{a:Act}{Q:Exit->Act->Yw->Prop}{u:Value}
 (hgd:o.guard=none) (s x:Operand) (ho:o.op=.call { callee:=.builtin .append,args:=#[s,x],argTypes:=#[t,t] })
 {B:Nat} {v:Value} {n g:Nat} {xs:List Value} (hown:w.ownsRow B e 1 v n xs) (hs:a.eval s=v)
 (hx:a.eval x=.slice (some ⟨g,0,none⟩) 1 1) (hg:w.cell? ⟨g,0,none⟩=some u) (h1:u.oneCell'=true)
 (hn:n+1<=maxLen) (hbytes:(n+1)*bytes<=140737488355328) (hbase:B<=w.heap.size)
 (K:∀v' w',w'.ownsRow B e 1 v' (n+1) (xs++[u])->w.grownBy w' v.ownBlock->Below B w w'->wpList P ops Q rest (a.put o.dst v') w') :
 wpList P ops Q (o::rest) a w:=by
 obtain⟨ht,hinfo,hzs,hsz⟩:=hE;obtain⟨i0,hi,hz0,hz1,hz2⟩:=info_parts hinfo;refine wpList_append_own _ hgd s x t ho B e i0 z 1 bytes ht hi hz0 hz1 hz2 hzs hsz v n xs hs hown ⟨g,0,none⟩ 1 1 [u] hx rfl ?_ (by simpa using h1) hn hbytes hbase ?_
 ·intro j w hj
  match j,hj with
  | 0,hj=>simp at hj;subst hj;simpa [Addr.add]using hg
 intro v' w' h2 h3 _;exact K v' w' h2 h3 ((Aw _ _).grown h3 hbase fun k hk=>(hown.lt k hk).1)
end
theorem znm(a1 a2:Int)(A:Yo)(n c:Nat)(T:Value)(bi oi ci bs os_ ns cs:Nat)(i0 s0:Int)(ss:List Int)(w:Yw)(c0:w.cell? ⟨bi,oi,none⟩=some (.int .i64 i0))(hs:RI w w.heap.size (some ⟨bs,os_,none⟩) ns (s0::ss))(hns:ns<=16)(hcs:ns<=cs):
 Calls Tryz.prog 245 #[.agg #[.int .i64 6,.int .i64 a1,.int .i64 a2,.slice A n c],T,.slice (some ⟨bi,oi,none⟩) 1 ci,.slice (some ⟨bs,os_,none⟩) ns cs] w fun e w'=>∃v,e=.returned (.tuple #[.int .i64 s0,v])/\OI 2 w.heap.size w' v (ss++[i0])/\Below w.heap.size w w':=by
 obtain⟨W,hW⟩:∃W,W=w.alloc (.cells #[.int .i64 6,.int .i64 a1,.int .i64 a2,.slice A n c] 169):=⟨_,rfl⟩;have B0:Below w.heap.size w W:=by rw[hW];exact(Aw _ _).alloc (Aj _) _
 have HW:=Aq hW;have hl:=hs.len;simp only[Dk]at hl;obtain⟨bs',os',e,hbs,hcc⟩:=zau hs (by omega);simp only[Dq,Addr.mk.injEq]at e;obtain⟨rfl,rfl,-⟩:=e;have d0:w.cell? ⟨bs,os_,none⟩=some (.int .i64 s0):=hcc 0 s0 rfl;have lb:bi<w.heap.size:=Cj w _ c0;clear hcc;have c0':W.cell? ⟨bi,oi,none⟩=some (.int .i64 i0):=by rw[B0.cell lb];exact c0
 have d0':W.cell? ⟨bs,os_,none⟩=some (.int .i64 s0):=by rw[B0.cell hbs];exact d0
 have cc0:=Ag c0';have dd0:=Ag d0';clear hW
 go_enter Tryz.func245,Tryz.ntmps245
 go_wp2_with fail;rw[<-HW.out];have D1:Below W.heap.size W W.drew:=zad (Aw _ _) 1;have ht:=(hs.tail1 hcs).later B0;have lW:w.heap.size<=W.heap.size:=B0.size;clear hs c0 d0 c0' d0'
 obtain⟨A9,ht0,e9⟩:∃A9,RI W W.heap.size A9 (ns-1) ss/\((cs=1/\A9=some ⟨bs,os_,none⟩)\/(¬cs=1/\A9=some ⟨bs,os_+1,none⟩)):=by
  by_cases h:cs=1
  ·rw[if_pos h]at ht;exact⟨_,ht,.inl ⟨h,rfl⟩⟩
  rw[if_neg h]at ht;exact⟨_,ht,.inr ⟨h,rfl⟩⟩
 rcases e9 with⟨h1,rfl⟩|⟨h1,rfl⟩
 all_goals
  have ht:=ht0.later D1
  (refine zec [0,1,3,4,6,7] [2,8] 3 (.two 5 (.one 9 (.one 10 .rest)) 9 (.one 5 (.one 10 .rest))) [11,12] (by kernel_rfl) (by kernel_rfl) ?_;simp only[zak];simp only[List.filterMap,By,Bg];(repeat (go_big_quiet_step (fail)));refine Cv ?_;(repeat (go_big_quiet_step (fail)));refine Cv ?_)
  refine zes rfl rfl ?_ ?_
  ·go_wp2_with fail;refine(zdr _ _ _ _ _ ht (by omega)).mono ?_;rintro e w1 ⟨v1,rfl,own1,bel1⟩;have B1:Below W.heap.size W w1:=D1.trans bel1;go_wp2_with fail;refine⟨Bz B1,za9 rfl ?_⟩;go_wp2_with fail;refine⟨Bz (B1.alloc B1.size _),za9 rfl ?_⟩;go_wp2_with (at_builtin;refine zf5 zbu rfl _ _ rfl own1 rfl rfl rfl (by unfold maxLen;omega) (by omega) B1.size ?_;intro v2 w2 own2 gr2 bel2);refine⟨Bz (B1.trans bel2),zb9 ?_⟩;go_wp2;go_ret2;exact⟨_,rfl,(OI.push own2).base lW,B0.trans ((B1.trans bel2).mono lW)⟩
  have B1:Below W.heap.size W (W.alloc (.cells #[.int .i64 i0] 2)).drew:=zad ((Aw _ _).alloc (Aj _) _) 1;have ht2:RI (W.alloc (.cells #[.int .i64 i0] 2)).drew (W.alloc (.cells #[.int .i64 i0] 2)).drew.heap.size _ (ns-1) ss:=ht0.later B1;have hg1:(W.alloc (.cells #[.int .i64 i0] 2)).drew.cell? ⟨W.heap.size,0,none⟩=some (.int .i64 i0):=zln _ _ _;have hz1:(W.alloc (.cells #[.int .i64 i0] 2)).drew.heap.size=W.heap.size+1:=by show (W.alloc (.cells #[.int .i64 i0] 2)).heap.size=_;simp
  go_wp2_with fail;refine⟨Bz B1,za9 rfl ?_⟩;go_wp2_with fail;generalize (W.alloc (.cells #[.int .i64 i0] 2)).drew=V at B1 ht2 hg1 hz1 ⊢;refine(zdr _ _ _ _ _ ht2 (by omega)).mono ?_;rintro e w1 ⟨v1,rfl,own1,bel1⟩;have B2:=zaa B1 bel1;have hg2:w1.cell? ⟨W.heap.size,0,none⟩=some (.int .i64 i0):=by rw[bel1.cell (by show W.heap.size<V.heap.size;omega)];exact hg1
  go_wp2_with fail;refine⟨Bz B2,za9 rfl ?_⟩;go_wp2_with (at_builtin;refine zs8 zbu rfl _ _ rfl own1 rfl rfl hg2 rfl (by unfold maxLen;omega) (by omega) bel1.size ?_;intro v2 w2 own2 gr2 bel2);have B3:Below W.heap.size W w2:=B2.trans (bel2.mono (by omega));refine⟨Bz B3,zb9 ?_⟩;go_wp2;go_ret2;exact⟨_,rfl,(OI.push own2).base (by omega),B0.trans (B3.mono (by omega))⟩
theorem zs9(a1 a2:Int)(A:Yo)(n c:Nat)(T:Value)(bi oi ci:Nat)(i0:Int)(bs os_ ns cs:Nat)(s0:Int)(w:Yw)(c0:w.cell? ⟨bi,oi,none⟩=some (.int .i64 i0))(d0:w.cell? ⟨bs,os_,none⟩=some (.int .i64 s0))(hns:1<=ns)(hi:-2147483648<=i0/\i0<=2147483647)(hsb:-2147483648<=s0/\s0<=2147483647):
 Calls Tryz.prog 245 #[.agg #[.int .i64 7,.int .i64 a1,.int .i64 a2,.slice A n c],T,.slice (some ⟨bi,oi,none⟩) 1 ci,.slice (some ⟨bs,os_,none⟩) ns cs] w fun e w'=>∃v,e=.returned (.tuple #[.int .i64 (wrap32 (s0+i0)),v])/\OI 2 w.heap.size w' v ([wrap32 (s0+i0)])/\Below w.heap.size w w':=by
 obtain⟨W,hW⟩:∃W,W=w.alloc (.cells #[.int .i64 7,.int .i64 a1,.int .i64 a2,.slice A n c] 169):=⟨_,rfl⟩;have B0:Below w.heap.size w W:=by rw[hW];exact(Aw _ _).alloc (Aj _) _
 have lW:w.heap.size<=W.heap.size:=B0.size;have lb:bi<w.heap.size:=Cj w _ c0;have hbs:bs<w.heap.size:=Cj w _ d0;have c0':W.cell? ⟨bi,oi,none⟩=some (.int .i64 i0):=by rw[B0.cell lb];exact c0
 have d0':W.cell? ⟨bs,os_,none⟩=some (.int .i64 s0):=by rw[B0.cell hbs];exact d0
 have p1':W.cell? ⟨w.heap.size,1,none⟩=some (.int .i64 a1):=by rw[hW];simp[go_sem]
 have HW:=Aq hW;clear hW;have O1:=zfo W (wrap32 (s0+i0))
 go_enter Tryz.func245,Tryz.ntmps245
 go_wp2_with fail;rw[<-HW.out]
 go_quiet (exact zbo (zdq _ _))
 have hw3:wrap32 (wrap64 (s0+i0))=wrap32 (s0+i0):=M.wrap32_64 _;go_wp2;go_ret2;exact⟨_,rfl,O1.base lW,zad (B0.alloc lW _) _⟩
theorem zta(a1 a2:Int)(A:Yo)(n c:Nat)(T:Value)(bi oi ci:Nat)(i0:Int)(bs os_ ns cs:Nat)(s0:Int)(w:Yw)(c0:w.cell? ⟨bi,oi,none⟩=some (.int .i64 i0))(d0:w.cell? ⟨bs,os_,none⟩=some (.int .i64 s0))(hns:1<=ns)(hi:-2147483648<=i0/\i0<=2147483647)(hsb:-2147483648<=s0/\s0<=2147483647):
 Calls Tryz.prog 245 #[.agg #[.int .i64 8,.int .i64 a1,.int .i64 a2,.slice A n c],T,.slice (some ⟨bi,oi,none⟩) 1 ci,.slice (some ⟨bs,os_,none⟩) ns cs] w fun e w'=>∃v,e=.returned (.tuple #[.int .i64 (wrap32 (i0-s0)),v])/\OI 2 w.heap.size w' v ([i0])/\Below w.heap.size w w':=by
 obtain⟨W,hW⟩:∃W,W=w.alloc (.cells #[.int .i64 8,.int .i64 a1,.int .i64 a2,.slice A n c] 169):=⟨_,rfl⟩;have B0:Below w.heap.size w W:=by rw[hW];exact(Aw _ _).alloc (Aj _) _
 have lW:w.heap.size<=W.heap.size:=B0.size;have lb:bi<w.heap.size:=Cj w _ c0;have hbs:bs<w.heap.size:=Cj w _ d0;have c0':W.cell? ⟨bi,oi,none⟩=some (.int .i64 i0):=by rw[B0.cell lb];exact c0
 have d0':W.cell? ⟨bs,os_,none⟩=some (.int .i64 s0):=by rw[B0.cell hbs];exact d0
 have p1':W.cell? ⟨w.heap.size,1,none⟩=some (.int .i64 a1):=by rw[hW];simp[go_sem]
 have HW:=Aq hW;have cc0:=Ag c0';have dd0:=Ag d0';clear hW c0 d0 c0' d0';have O1:=zfo W i0;have hw3:wrap32 (wrap64 (i0-s0))=wrap32 (i0-s0):=M.wrap32_64 _;have D1:Below W.heap.size W W.drew:=zad (Aw _ _) 1;have B1:Below W.heap.size W (W.alloc (.cells #[.int .i64 i0] 2)).drew:=zad ((Aw _ _).alloc (Aj _) _) 1
 go_enter Tryz.func245,Tryz.ntmps245
 go_wp2_with fail;rw[<-HW.out]
 (refine zec [0,1,3,4,8,9] [2,5,6,10] 3 (.two 7 (.two 11 (.one 12 .rest) 12 (.one 11 .rest)) 11 (.one 7 (.one 12 .rest))) [13] (by kernel_rfl) (by kernel_rfl) ?_;simp only[zak];simp only[List.filterMap,By,Bg];(repeat (go_big_quiet_step (fail)));refine Cv ?_;(repeat (go_big_quiet_step (fail)));refine Cv ?_)
 refine zes rfl rfl ?_ ?_
 ·go_wp2_with (go_at_call 168;refine(zdq _ _).mono ?_;rintro e w' ⟨rfl,rfl⟩);refine⟨Bz D1,zes rfl rfl ?_ ?_⟩
  ·go_wp2_with fail;refine⟨Bz B1,za9 rfl ?_⟩;go_wp2_with fail;refine⟨Bz B1,zb9 ?_⟩;go_wp2;go_ret2;exact⟨_,rfl,O1.base lW,B0.trans (B1.mono lW)⟩
  go_wp2_with fail;refine⟨Bz D1,za9 rfl ?_⟩;go_wp2_with fail;refine⟨Bz B1,zb9 ?_⟩;go_wp2;go_ret2;exact⟨_,rfl,O1.base lW,B0.trans (B1.mono lW)⟩
 go_wp2_with fail;refine⟨Bz B1,za9 rfl ?_⟩;go_wp2_with (go_at_call 168;refine(zdq _ _).mono ?_;rintro e w' ⟨rfl,rfl⟩);refine⟨Bz B1,za9 rfl ?_⟩;go_wp2_with fail;refine⟨Bz B1,zb9 ?_⟩;go_wp2;go_ret2;exact⟨_,rfl,O1.base lW,B0.trans (B1.mono lW)⟩
theorem ztb(a1 a2:Int)(A:Yo)(n c:Nat)(T:Value)(bi oi ci:Nat)(i0:Int)(bs os_ ns cs:Nat)(s0:Int)(w:Yw)(c0:w.cell? ⟨bi,oi,none⟩=some (.int .i64 i0))(d0:w.cell? ⟨bs,os_,none⟩=some (.int .i64 s0))(hns:1<=ns)(hi:-2147483648<=i0/\i0<=2147483647)(hsb:-2147483648<=s0/\s0<=2147483647):
 Calls Tryz.prog 245 #[.agg #[.int .i64 12,.int .i64 a1,.int .i64 a2,.slice A n c],T,.slice (some ⟨bi,oi,none⟩) 1 ci,.slice (some ⟨bs,os_,none⟩) ns cs] w fun e w'=>∃v,e=.returned (.tuple #[.int .i64 (s0),v])/\OI 2 w.heap.size w' v ([wrap32 (s0+i0)])/\Below w.heap.size w w':=by
 obtain⟨W,hW⟩:∃W,W=w.alloc (.cells #[.int .i64 12,.int .i64 a1,.int .i64 a2,.slice A n c] 169):=⟨_,rfl⟩;have B0:Below w.heap.size w W:=by rw[hW];exact(Aw _ _).alloc (Aj _) _
 have lW:w.heap.size<=W.heap.size:=B0.size;have lb:bi<w.heap.size:=Cj w _ c0;have hbs:bs<w.heap.size:=Cj w _ d0;have c0':W.cell? ⟨bi,oi,none⟩=some (.int .i64 i0):=by rw[B0.cell lb];exact c0
 have d0':W.cell? ⟨bs,os_,none⟩=some (.int .i64 s0):=by rw[B0.cell hbs];exact d0
 have p1':W.cell? ⟨w.heap.size,1,none⟩=some (.int .i64 a1):=by rw[hW];simp[go_sem]
 have HW:=Aq hW;have cc0:=Ag c0';have dd0:=Ag d0';clear hW c0 d0 c0' d0';have O1:=zfo W (wrap32 (s0+i0));have hw3:wrap32 (wrap64 (s0+i0))=wrap32 (s0+i0):=M.wrap32_64 _;have D1:Below W.heap.size W W.drew:=zad (Aw _ _) 1;have B1:Below W.heap.size W (W.alloc (.cells #[.int .i64 (wrap32 (s0+i0))] 2)).drew:=zad ((Aw _ _).alloc (Aj _) _) 1
 go_enter Tryz.func245,Tryz.ntmps245
 go_wp2_with fail;rw[<-HW.out]
 (refine zec [0,1,3,4,6,7] [2,5,8,9] 3 (.one 10 (.two 11 (.one 12 .rest) 12 (.one 11 .rest))) [13] (by kernel_rfl) (by kernel_rfl) ?_;simp only[zak];simp only[List.filterMap,By,Bg];(repeat (go_big_quiet_step (fail)));refine Cv ?_;(repeat (go_big_quiet_step (fail)));refine Cv ?_)
 refine za9 rfl ?_;go_wp2_with (go_at_call 168;refine(zdq _ _).mono ?_;rintro e w' ⟨rfl,rfl⟩);refine⟨Bz D1,zes rfl rfl ?_ ?_⟩
 ·go_wp2_with fail;refine⟨Bz B1,za9 rfl ?_⟩;go_wp2_with fail;refine⟨Bz B1,zb9 ?_⟩;go_wp2;go_ret2;exact⟨_,rfl,O1.base lW,B0.trans (B1.mono lW)⟩
 go_wp2_with fail;refine⟨Bz D1,za9 rfl ?_⟩;go_wp2_with fail;refine⟨Bz B1,zb9 ?_⟩;go_wp2;go_ret2;exact⟨_,rfl,O1.base lW,B0.trans (B1.mono lW)⟩
theorem ztc(a1 a2:Int)(A:Yo)(n c:Nat)(T:Value)(Ai:Yo)(ci:Nat)(bs os_ ns cs:Nat)(s0:Int)(w:Yw)(d0:w.cell? ⟨bs,os_,none⟩=some (.int .i64 s0))(hns:1<=ns)(hsb:-2147483648<=s0/\s0<=2147483647):
 Calls Tryz.prog 245 #[.agg #[.int .i64 14,.int .i64 a1,.int .i64 a2,.slice A n c],T,.slice Ai 0 ci,.slice (some ⟨bs,os_,none⟩) ns cs] w fun e w'=>∃v,e=.returned (.tuple #[.int .i64 (s0),v])/\OI 2 w.heap.size w' v ([zeo s0])/\Below w.heap.size w w':=by
 obtain⟨W,hW⟩:∃W,W=w.alloc (.cells #[.int .i64 14,.int .i64 a1,.int .i64 a2,.slice A n c] 169):=⟨_,rfl⟩;have B0:Below w.heap.size w W:=by rw[hW];exact(Aw _ _).alloc (Aj _) _
 have lW:w.heap.size<=W.heap.size:=B0.size;have hbs:bs<w.heap.size:=Cj w _ d0;have d0':W.cell? ⟨bs,os_,none⟩=some (.int .i64 s0):=by rw[B0.cell hbs];exact d0
 have p1':W.cell? ⟨w.heap.size,1,none⟩=some (.int .i64 a1):=by rw[hW];simp[go_sem]
 have HW:=Aq hW;have dd0:=Ag d0';clear hW d0 d0';have O1:=zfo W (zeo s0);have D1:Below W.heap.size W W.drew:=zad (Aw _ _) 1;have B1:Below W.heap.size W (W.alloc (.cells #[.int .i64 (zeo s0)] 2)).drew:=zad ((Aw _ _).alloc (Aj _) _) 1
 go_enter Tryz.func245,Tryz.ntmps245
 go_wp2_with fail;rw[<-HW.out]
 (refine zec [0,1,3,4] [2,5] 3 (.one 6 (.two 7 (.one 8 .rest) 8 (.one 7 .rest))) [9] (by kernel_rfl) (by kernel_rfl) ?_;simp only[zak];simp only[List.filterMap,By,Bg];(repeat (go_big_quiet_step (fail)));refine Cv ?_;(repeat (go_big_quiet_step (fail)));refine Cv ?_)
 refine za9 rfl ?_;go_wp2_with (go_at_call 256;refine(zs4 _ _).mono ?_;rintro e w' ⟨rfl,rfl⟩);refine⟨Bz D1,zes rfl rfl ?_ ?_⟩
 ·go_wp2_with fail;refine⟨Bz B1,za9 rfl ?_⟩;go_wp2_with fail;refine⟨Bz B1,zb9 ?_⟩;go_wp2;go_ret2;exact⟨_,rfl,O1.base lW,B0.trans (B1.mono lW)⟩
 go_wp2_with fail;refine⟨Bz D1,za9 rfl ?_⟩;go_wp2_with fail;refine⟨Bz B1,zb9 ?_⟩;go_wp2;go_ret2;exact⟨_,rfl,O1.base lW,B0.trans (B1.mono lW)⟩
theorem ztd(a1 a2:Int)(A:Yo)(n c:Nat)(T:Value)(bi oi ci:Nat)(i0 i1:Int)(bs os_ ns cs:Nat)(s0:Int)(w:Yw)(c0:w.cell? ⟨bi,oi,none⟩=some (.int .i64 i0))(c1:w.cell? ⟨bi,oi+1,none⟩=some (.int .i64 i1))(d0:w.cell? ⟨bs,os_,none⟩=some (.int .i64 s0))(hns:1<=ns)(hi:-2147483648<=i0/\i0<=2147483647/\-2147483648<=i1/\i1<=2147483647)(hsb:-2147483648<=s0/\s0<=2147483647):
 Calls Tryz.prog 245 #[.agg #[.int .i64 16,.int .i64 a1,.int .i64 a2,.slice A n c],T,.slice (some ⟨bi,oi,none⟩) 2 ci,.slice (some ⟨bs,os_,none⟩) ns cs] w fun e w'=>∃v,e=.returned (.tuple #[.int .i64 (if 0<i1 then i0 else s0),v])/\OI 2 w.heap.size w' v ([if 0<i1 then i0 else s0])/\Below w.heap.size w w':=by
 obtain⟨W,hW⟩:∃W,W=w.alloc (.cells #[.int .i64 16,.int .i64 a1,.int .i64 a2,.slice A n c] 169):=⟨_,rfl⟩;have B0:Below w.heap.size w W:=by rw[hW];exact(Aw _ _).alloc (Aj _) _
 have lW:w.heap.size<=W.heap.size:=B0.size;have lb:bi<w.heap.size:=Cj w _ c0;have hbs:bs<w.heap.size:=Cj w _ d0;have c0':W.cell? ⟨bi,oi,none⟩=some (.int .i64 i0):=by rw[B0.cell lb];exact c0
 have c1':W.cell? ⟨bi,oi+1,none⟩=some (.int .i64 i1):=by rw[B0.cell lb];exact c1
 have d0':W.cell? ⟨bs,os_,none⟩=some (.int .i64 s0):=by rw[B0.cell hbs];exact d0
 have p1':W.cell? ⟨w.heap.size,1,none⟩=some (.int .i64 a1):=by rw[hW];simp[go_sem]
 have HW:=Aq hW
 by_cases h:0<i1
 ·have R:=Aq (show (if 0<i1 then i0 else s0)=i0 from if_pos h);have O1:=zfo W (i0);have B1:Below w.heap.size w (W.alloc (.cells #[.int .i64 i0] 2)):=B0.alloc lW _;rw[R.out];rw[HW.out]at O1 B1;have hz:(w.alloc (.cells #[.int .i64 16,.int .i64 a1,.int .i64 a2,.slice A n c] 169)).heap.size=w.heap.size+1:=by simp
  rw[hz]at O1;clear hW c0' c1' d0' p1' HW B0 lW W
  go_enter Tryz.func245,Tryz.ntmps245
  go_wp2;go_ret2;exact⟨_,rfl,O1.base (by omega),B1⟩
 have R:=Aq (show (if 0<i1 then i0 else s0)=s0 from if_neg h);have O1:=zfo W (s0);have B1:Below w.heap.size w (W.alloc (.cells #[.int .i64 s0] 2)):=B0.alloc lW _;rw[R.out];rw[HW.out]at O1 B1;have hz:(w.alloc (.cells #[.int .i64 16,.int .i64 a1,.int .i64 a2,.slice A n c] 169)).heap.size=w.heap.size+1:=by simp
 rw[hz]at O1;clear hW c0' c1' d0' p1' HW B0 lW W
 go_enter Tryz.func245,Tryz.ntmps245
 go_wp2;go_ret2;exact⟨_,rfl,O1.base (by omega),B1⟩
theorem zte(a1 a2:Int)(A:Yo)(n c:Nat)(T:Value)(bi oi ci:Nat)(i0:Int)(bs os_ ns cs:Nat)(s0:Int)(ss:List Int)(w:Yw)(c0:w.cell? ⟨bi,oi,none⟩=some (.int .i64 i0))(hs:RI w w.heap.size (some ⟨bs,os_,none⟩) ns (s0::ss))(hns:ns<=16)(hcs:ns<=cs)(ha:-2147483648<=a1/\a1<=2147483647)(hi:-2147483648<=i0/\i0<=2147483647)(hsb:-2147483648<=s0/\s0<=2147483647):
 Calls Tryz.prog 245 #[.agg #[.int .i64 17,.int .i64 a1,.int .i64 a2,.slice A n c],T,.slice (some ⟨bi,oi,none⟩) 1 ci,.slice (some ⟨bs,os_,none⟩) ns cs] w fun e w'=>∃v,e=.returned (.tuple #[.int .i64 (wrap32 (i0+a1*s0)),v])/\OI 2 w.heap.size w' v (ss++[wrap32 (i0+a1*s0)])/\Below w.heap.size w w':=by
 obtain⟨W,hW⟩:∃W,W=w.alloc (.cells #[.int .i64 17,.int .i64 a1,.int .i64 a2,.slice A n c] 169):=⟨_,rfl⟩;have B0:Below w.heap.size w W:=by rw[hW];exact(Aw _ _).alloc (Aj _) _
 have lW:w.heap.size<=W.heap.size:=B0.size;have lb:bi<w.heap.size:=Cj w _ c0;have hl:=hs.len;simp only[Dk]at hl;obtain⟨bs',os',e,hbs,hcc⟩:=zau hs (by omega);simp only[Dq,Addr.mk.injEq]at e;obtain⟨rfl,rfl,-⟩:=e;have d0:w.cell? ⟨bs,os_,none⟩=some (.int .i64 s0):=hcc 0 s0 rfl;clear hcc;have c0':W.cell? ⟨bi,oi,none⟩=some (.int .i64 i0):=by rw[B0.cell lb];exact c0
 have d0':W.cell? ⟨bs,os_,none⟩=some (.int .i64 s0):=by rw[B0.cell hbs];exact d0
 have p1':W.cell? ⟨w.heap.size,1,none⟩=some (.int .i64 a1):=by rw[hW];simp[go_sem]
 have HW:=Aq hW;have hm:-4611686018427387904<=a1*s0/\a1*s0<=4611686018427387904:=M.wrap64_mul_bd _ _ ha hsb;have hw3:wrap64 (a1*s0)=a1*s0:=M.wrap64_in _ (by omega);have hw4:wrap64 (i0+a1*s0)=i0+a1*s0:=M.wrap64_in _ (by omega);have ht0:=(hs.tail1 hcs).later B0;clear hW hs
 obtain⟨A9,ht0,e9⟩:∃A9,RI W W.heap.size A9 (ns-1) ss/\((cs=1/\A9=some ⟨bs,os_,none⟩)\/(¬cs=1/\A9=some ⟨bs,os_+1,none⟩)):=by
  by_cases h:cs=1
  ·rw[if_pos h]at ht0;exact⟨_,ht0,.inl ⟨h,rfl⟩⟩
  rw[if_neg h]at ht0;exact⟨_,ht0,.inr ⟨h,rfl⟩⟩
 rcases e9 with⟨h1,rfl⟩|⟨h1,rfl⟩
 all_goals
  go_enter Tryz.func245,Tryz.ntmps245
  go_wp2_with fail;rw[<-HW.out]
  go_quiet (exact zbo (zdq _ _))
  have D2:=fun m=>zad (Aw W.heap.size W) m
  have ht2:=fun m=>ht0.later (D2 m)
  clear c0 d0 c0' d0' p1' HW;go_wp2_with fail;refine(zdr _ _ _ _ _ (ht2 _) (by omega)).mono ?_;rintro e w1 ⟨v1,rfl,own1,bel1⟩;have B1:Below W.heap.size W w1:=(D2 _).trans bel1;go_wp2_with (at_builtin;refine zf5 zbu rfl _ _ rfl own1 rfl rfl rfl (by unfold maxLen;omega) (by omega) B1.size ?_;intro v2 w2 own2 gr2 bel2);go_ret2;exact⟨_,rfl,(OI.push own2).base lW,B0.trans ((B1.trans bel2).mono lW)⟩
theorem ze5(k a1 a2:Int)(A:Yo)(n c:Nat)(T I S:Value)(out:Int)(w:Yw)(hk:k=1\/k=2\/k=3\/k=4\/k=5\/k=9\/k=10\/k=11\/k=13\/k=15)
 (hO:∀W,Below w.heap.size w W->Calls Tryz.prog 239 #[.agg #[.int .i64 k,.int .i64 a1,.int .i64 a2,.slice A n c],T,I] W fun e w'=>e=.returned (.int .i64 out)/\Below W.heap.size W w') :
 Calls Tryz.prog 245 #[.agg #[.int .i64 k,.int .i64 a1,.int .i64 a2,.slice A n c],T,I,S] w fun e w'=>∃v,e=.returned (.tuple #[.int .i64 out,v])/\OI 2 w.heap.size w' v []/\Below w.heap.size w w':=by
 obtain⟨W,hW⟩:∃W,W=w.alloc (.cells #[.int .i64 k,.int .i64 a1,.int .i64 a2,.slice A n c] 169):=⟨_,rfl⟩;have B0:Below w.heap.size w W:=by rw[hW];exact(Aw _ _).alloc (Aj _) _
 have HW:=Aq hW;have hO2:=hO W B0;clear hW hO;rcases hk with rfl|rfl|rfl|rfl|rfl|rfl|rfl|rfl|rfl|rfl
 all_goals
  go_enter Tryz.func245,Tryz.ntmps245
  go_wp2_with fail;rw[<-HW.out];refine hO2.mono ?_;rintro e w1 ⟨rfl,bel1⟩;go_wp2_with (go_at_call 116;refine(zc5 _ _ (by omega) (by omega)).mono ?_;rintro e w2 ⟨v2,rfl,own2,bel2⟩);go_ret2;exact⟨_,rfl,own2.base (by have:=B0.size;have:=bel1.size;omega),zaa B0 (zaa bel1 bel2)⟩
end
theorem zfp{a0 a1 a2:Int}{xs:List Int}{tb:Int}(h:zaj (a0,a1,a2,xs) tb=true):
 (a0=5->-2147483648<=a1/\a1<=2147483647)/\(a0=10->0<=a1/\a1<=31)/\(a0=11->0<=a1/\a1<=2147483647)/\(a0=13->0<=a1/\a1<=3/\a1<tb)/\(a0=17->-2147483648<=a1/\a1<=2147483647)/\(a0=2->-2147483648<=a1/\a1<=2147483647)/\(a0=12->-2147483648<=a1/\a1<=2147483647)/\(a0=14->-2147483648<=a1/\a1<=2147483647)/\(a0=1->0<=a1/\a1<=3):=by
 rw[zaj]at h;simp only[Cx]at h;have hA:=h.2.1.1.1.1;have hL:=h.2.2;refine⟨?_,?_,?_,?_,?_,?_,?_,?_,?_⟩ <;> rintro rfl <;> simp[M.aI,M.kd,zgo,M.inn]at hA hL <;> omega
theorem zfq{a0 a1 a2:Int}{xs:List Int}{tb:Int}(h:zaj (a0,a1,a2,xs) tb=true):a0≠1->xs.length=zch a0:=by
 obtain⟨hk,-,-⟩:=zcx h;rw[zaj]at h;simp only[Cx]at h;have hL:=h.2.1.2;simp only at hk;rcases zgp hk with rfl|rfl|rfl|rfl|rfl|rfl|rfl|rfl|rfl|rfl|rfl|rfl|rfl|rfl|rfl|rfl|rfl
 all_goals
  simp[M.kd,zgo,zch,M.ar,ziv]at hL ⊢
  try omega
theorem zg9{ts:List (List Int)}(h:zbr ts=true){k:Nat}{t:List Int}(ht:ts[k]?=some t):(1<=t.length/\t.length<=16)/\t.all M.smp=true/\ts.length<=4:=by
 rw[zbr,Cx]at h;have h2:=Ef.1 h.1 t (Eg ht);rw[zcw,Cx]at h2;refine⟨?_,h2.2,of_decide_eq_true h.2⟩;have:=h2.1;simp at this;omega
theorem smp_bd{x:Int}(h:M.smp x=true):-2147483648<=x/\x<=2147483647:=za3.1 h
theorem zba{xs:List Int}(h:xs.all M.smp=true){k:Nat}{x:Int}(hx:xs[k]?=some x):-2147483648<=x/\x<=2147483647:=smp_bd (Ef.1 h x (Eg hx))
theorem zkq{xs:List Int}(h:1<=xs.length):∃a zs,xs=a::zs:=by
 match xs,h with
 | a::zs,_=>exact⟨a,zs,rfl⟩
theorem ztf(a0 a1 a2:Int)(A:Yo)(n c:Nat)(xs:List Int)(At:Yo)(nt ct:Nat)(tb:List (List Int))(Ai:Yo)(ni ci:Nat)(ins:List Int)(As:Yo)(ns cs:Nat)(s:List Int)(w:Yw)(ht:RS tS w w.heap.size (.slice At nt ct) tb)(htb:zbr tb=true)(hi:RI w w.heap.size Ai ni ins)(hs:RI w w.heap.size As ns s)(hcs:ns<=cs)
 (hok:zaj (a0,a1,a2,xs) nt=true) (hil:ins.length=zch a0) (hia:ins.all M.smp=true) (hsl:s.length=zbk (a0,a1,a2,xs)) (hsa:s.all M.smp=true) :
 Calls Tryz.prog 245 #[.agg #[.int .i64 a0,.int .i64 a1,.int .i64 a2,.slice A n c],.slice At nt ct,.slice Ai ni ci,.slice As ns cs] w fun e w'=>∃v,e=.returned (.tuple #[.int .i64 (zah (a0,a1,a2,xs) tb ins s),v])/\OI 2 w.heap.size w' v (zaq (a0,a1,a2,xs) ins s (zah (a0,a1,a2,xs) tb ins s))/\Below w.heap.size w w':=by
 obtain⟨hk,h6,h17⟩:=zcx hok;obtain⟨hb5,hb10,hb11,hb13,hb17,-⟩:=zfp hok;have hnt:tb.length=nt:=ht.cap.1;simp only at hk h6 h17;rcases zgp hk with rfl|rfl|rfl|rfl|rfl|rfl|rfl|rfl|rfl|rfl|rfl|rfl|rfl|rfl|rfl|rfl|rfl
 case inl=>
  obtain⟨i0,rfl⟩:=len1 (show ins.length=1 from hil);have hn:=hi.len;simp only[Dk,List.length_nil]at hn;subst hn;obtain⟨bi,oi,rfl,hbi,hci⟩:=zau hi (by omega);have c0:w.cell? ⟨bi,oi,none⟩=some (.int .i64 i0):=hci 0 _ rfl;have e0:=zba hia (k:=0) (x:=i0) rfl;exact(ze5 _ _ _ _ _ _ _ _ _ _ w (by simp) (fun W hB=>zs6 _ _ _ _ _ _ _ _ _ _ _ _ W (by rw[hB.cell hbi];exact c0))).mono fun e w' h=>by simpa [zah,zaq,M.i_]using h
 case inr.inl=>
  obtain rfl:=len0 (show ins.length=0 from hil);have hn:=hi.len;simp only[List.length_nil]at hn;subst hn;exact(ze5 _ _ _ _ _ _ _ _ _ _ w (by simp) (fun W hB=>zs7 _ _ _ _ _ _ _ _ _ _ W)).mono fun e w' h=>by simpa [zah,zaq,M.i_]using h
 case inr.inr.inl=>
  obtain⟨i0,i1,rfl⟩:=len2 (show ins.length=2 from hil);have hn:=hi.len;simp only[Dk,List.length_nil]at hn;subst hn;obtain⟨bi,oi,rfl,hbi,hci⟩:=zau hi (by omega);have c0:w.cell? ⟨bi,oi,none⟩=some (.int .i64 i0):=hci 0 _ rfl;have c1:w.cell? ⟨bi,oi+1,none⟩=some (.int .i64 i1):=hci 1 _ rfl;have e0:=zba hia (k:=0) (x:=i0) rfl;have e1:=zba hia (k:=1) (x:=i1) rfl;exact(ze5 _ _ _ _ _ _ _ _ _ _ w (by simp) (fun W hB=>zne _ _ _ _ _ _ _ _ _ _  _ _ _ W (by rw[hB.cell hbi];exact c0) (by rw[hB.cell hbi];exact c1) ⟨e0.1,e0.2,e1.1,e1.2⟩)).mono fun e w' h=>by simpa [zah,zaq,M.i_]using h
 case inr.inr.inr.inl=>
  obtain⟨i0,i1,rfl⟩:=len2 (show ins.length=2 from hil);have hn:=hi.len;simp only[Dk,List.length_nil]at hn;subst hn;obtain⟨bi,oi,rfl,hbi,hci⟩:=zau hi (by omega);have c0:w.cell? ⟨bi,oi,none⟩=some (.int .i64 i0):=hci 0 _ rfl;have c1:w.cell? ⟨bi,oi+1,none⟩=some (.int .i64 i1):=hci 1 _ rfl;have e0:=zba hia (k:=0) (x:=i0) rfl;have e1:=zba hia (k:=1) (x:=i1) rfl;exact(ze5 _ _ _ _ _ _ _ _ _ _ w (by simp) (fun W hB=>znf _ _ _ _ _ _ _ _ _ _  _ _ _ W (by rw[hB.cell hbi];exact c0) (by rw[hB.cell hbi];exact c1) ⟨e0.1,e0.2,e1.1,e1.2⟩)).mono fun e w' h=>by simpa [zah,zaq,M.i_]using h
 case inr.inr.inr.inr.inl=>
  obtain⟨i0,rfl⟩:=len1 (show ins.length=1 from hil);have hn:=hi.len;simp only[Dk,List.length_nil]at hn;subst hn;obtain⟨bi,oi,rfl,hbi,hci⟩:=zau hi (by omega);have c0:w.cell? ⟨bi,oi,none⟩=some (.int .i64 i0):=hci 0 _ rfl;have e0:=zba hia (k:=0) (x:=i0) rfl;exact(ze5 _ _ _ _ _ _ _ _ _ _ w (by simp) (fun W hB=>zng _ _ _ _ _ _ _ _ _ _ _ _ W (by rw[hB.cell hbi];exact c0) (hb5 rfl) e0)).mono fun e w' h=>by simpa [zah,zaq,M.i_]using h
 case inr.inr.inr.inr.inr.inl=>
  obtain⟨i0,rfl⟩:=len1 (show ins.length=1 from hil);have hn:=hi.len;simp only[Dk,List.length_nil]at hn;subst hn;obtain⟨bi,oi,rfl,hbi,hci⟩:=zau hi (by omega);have c0:w.cell? ⟨bi,oi,none⟩=some (.int .i64 i0):=hci 0 _ rfl;have e0:=zba hia (k:=0) (x:=i0) rfl;have hsl2:s.length=a1.toNat:=hsl;have hsr:=h6 rfl;obtain⟨s0,ss,rfl⟩:=zkq (xs:=s) (by omega);have hm:=hs.len;simp only[Dk]at hm hsl2;obtain⟨bs,os_,rfl,hbs,hcs0⟩:=zau hs (by omega);have d0:w.cell? ⟨bs,os_,none⟩=some (.int .i64 s0):=hcs0 0 _ rfl;have f0:=zba hsa (k:=0) (x:=s0) rfl;exact(znm _ _ _ _ _ _ _ _ _ _ _ _ _ _ _ _ w c0 hs (by omega) hcs).mono fun e w' h=>by simpa [zah,zaq,M.i_]using h
 case inr.inr.inr.inr.inr.inr.inl=>
  obtain⟨i0,rfl⟩:=len1 (show ins.length=1 from hil);have hn:=hi.len;simp only[Dk,List.length_nil]at hn;subst hn;obtain⟨bi,oi,rfl,hbi,hci⟩:=zau hi (by omega);have c0:w.cell? ⟨bi,oi,none⟩=some (.int .i64 i0):=hci 0 _ rfl;have e0:=zba hia (k:=0) (x:=i0) rfl;obtain⟨s0,rfl⟩:=len1 (show s.length=1 from hsl);have hm:=hs.len;simp only[Dk,List.length_nil]at hm;obtain⟨bs,os_,rfl,hbs,hcs0⟩:=zau hs (by omega);have d0:w.cell? ⟨bs,os_,none⟩=some (.int .i64 s0):=hcs0 0 _ rfl;have f0:=zba hsa (k:=0) (x:=s0) rfl;exact(zs9 _ _ _ _ _ _ _ _ _ _ _ _ _ _ _ w c0 d0 (by omega) e0 f0).mono fun e w' h=>by simpa [zah,zaq,M.i_]using h
 case inr.inr.inr.inr.inr.inr.inr.inl=>
  obtain⟨i0,rfl⟩:=len1 (show ins.length=1 from hil);have hn:=hi.len;simp only[Dk,List.length_nil]at hn;subst hn;obtain⟨bi,oi,rfl,hbi,hci⟩:=zau hi (by omega);have c0:w.cell? ⟨bi,oi,none⟩=some (.int .i64 i0):=hci 0 _ rfl;have e0:=zba hia (k:=0) (x:=i0) rfl;obtain⟨s0,rfl⟩:=len1 (show s.length=1 from hsl);have hm:=hs.len;simp only[Dk,List.length_nil]at hm;obtain⟨bs,os_,rfl,hbs,hcs0⟩:=zau hs (by omega);have d0:w.cell? ⟨bs,os_,none⟩=some (.int .i64 s0):=hcs0 0 _ rfl;have f0:=zba hsa (k:=0) (x:=s0) rfl;exact(zta _ _ _ _ _ _ _ _ _ _ _ _ _ _ _ w c0 d0 (by omega) e0 f0).mono fun e w' h=>by simpa [zah,zaq,M.i_]using h
 case inr.inr.inr.inr.inr.inr.inr.inr.inl=>
  obtain⟨i0,i1,rfl⟩:=len2 (show ins.length=2 from hil);have hn:=hi.len;simp only[Dk,List.length_nil]at hn;subst hn;obtain⟨bi,oi,rfl,hbi,hci⟩:=zau hi (by omega);have c0:w.cell? ⟨bi,oi,none⟩=some (.int .i64 i0):=hci 0 _ rfl;have c1:w.cell? ⟨bi,oi+1,none⟩=some (.int .i64 i1):=hci 1 _ rfl;have e0:=zba hia (k:=0) (x:=i0) rfl;have e1:=zba hia (k:=1) (x:=i1) rfl;exact(ze5 _ _ _ _ _ _ _ _ _ _ w (by simp) (fun W hB=>znh _ _ _ _ _ _ _ _ _ _  _ _ _ W (by rw[hB.cell hbi];exact c0) (by rw[hB.cell hbi];exact c1) ⟨e0.1,e0.2,e1.1,e1.2⟩)).mono fun e w' h=>by simpa [zah,zaq,M.i_]using h
 case inr.inr.inr.inr.inr.inr.inr.inr.inr.inl=>
  obtain⟨i0,rfl⟩:=len1 (show ins.length=1 from hil);have hn:=hi.len;simp only[Dk,List.length_nil]at hn;subst hn;obtain⟨bi,oi,rfl,hbi,hci⟩:=zau hi (by omega);have c0:w.cell? ⟨bi,oi,none⟩=some (.int .i64 i0):=hci 0 _ rfl;have e0:=zba hia (k:=0) (x:=i0) rfl;exact(ze5 _ _ _ _ _ _ _ _ _ _ w (by simp) (fun W hB=>zni _ _ _ _ _ _ _ _ _ _ _ _ W (by rw[hB.cell hbi];exact c0) (hb10 rfl) e0)).mono fun e w' h=>by simpa [zah,zaq,M.i_]using h
 case inr.inr.inr.inr.inr.inr.inr.inr.inr.inr.inl=>
  obtain⟨i0,rfl⟩:=len1 (show ins.length=1 from hil);have hn:=hi.len;simp only[Dk,List.length_nil]at hn;subst hn;obtain⟨bi,oi,rfl,hbi,hci⟩:=zau hi (by omega);have c0:w.cell? ⟨bi,oi,none⟩=some (.int .i64 i0):=hci 0 _ rfl;have e0:=zba hia (k:=0) (x:=i0) rfl;exact(ze5 _ _ _ _ _ _ _ _ _ _ w (by simp) (fun W hB=>znj _ _ _ _ _ _ _ _ _ _ _ _ W (by rw[hB.cell hbi];exact c0) (hb11 rfl) e0)).mono fun e w' h=>by simpa [zah,zaq,M.i_]using h
 case inr.inr.inr.inr.inr.inr.inr.inr.inr.inr.inr.inl=>
  obtain⟨i0,rfl⟩:=len1 (show ins.length=1 from hil);have hn:=hi.len;simp only[Dk,List.length_nil]at hn;subst hn;obtain⟨bi,oi,rfl,hbi,hci⟩:=zau hi (by omega);have c0:w.cell? ⟨bi,oi,none⟩=some (.int .i64 i0):=hci 0 _ rfl;have e0:=zba hia (k:=0) (x:=i0) rfl;obtain⟨s0,rfl⟩:=len1 (show s.length=1 from hsl);have hm:=hs.len;simp only[Dk,List.length_nil]at hm;obtain⟨bs,os_,rfl,hbs,hcs0⟩:=zau hs (by omega);have d0:w.cell? ⟨bs,os_,none⟩=some (.int .i64 s0):=hcs0 0 _ rfl;have f0:=zba hsa (k:=0) (x:=s0) rfl;exact(ztb _ _ _ _ _ _ _ _ _ _ _ _ _ _ _ w c0 d0 (by omega) e0 f0).mono fun e w' h=>by simpa [zah,zaq,M.i_]using h
 case inr.inr.inr.inr.inr.inr.inr.inr.inr.inr.inr.inr.inl=>
  obtain⟨i0,rfl⟩:=len1 (show ins.length=1 from hil);have hn:=hi.len;simp only[Dk,List.length_nil]at hn;subst hn;obtain⟨bi,oi,rfl,hbi,hci⟩:=zau hi (by omega);have c0:w.cell? ⟨bi,oi,none⟩=some (.int .i64 i0):=hci 0 _ rfl;have e0:=zba hia (k:=0) (x:=i0) rfl;have h13:=hb13 rfl;obtain⟨j,rfl⟩:∃j:Nat,a1=(j:Int):=⟨a1.toNat,by omega⟩;have hjn:j<nt:=by omega
  obtain⟨bt,ot,A1,c1,t,rfl,hbt,X,hct,hrt,-⟩:=zf7 ht (Aq (fun x hx=>by obtain⟨k,hk⟩:=Fk hx;have:=(zg9 htb hk).1;omega)) hjn;obtain⟨htl,-,ht4⟩:=zg9 htb X.out;have hcel:zal tb j=t:=by rw[zal,X.out];rfl
  exact(ze5 _ _ _ _ _ _ _ _ _ _ w (by simp) (fun W hB=>znk _ _ _ _ _ _ _ _ _ _ _ _ _ _ _ _ _ t W (by rw[hB.cell hbi];exact c0) ⟨rfl,by omega,by omega⟩ (by rw[hB.cell hbt];exact hct) (hrt.later hB) htl)).mono fun e w' h=>by simpa [zah,zaq,M.i_,hcel]using h
 case inr.inr.inr.inr.inr.inr.inr.inr.inr.inr.inr.inr.inr.inl=>
  obtain rfl:=len0 (show ins.length=0 from hil);have hn:=hi.len;simp only[List.length_nil]at hn;subst hn;obtain⟨s0,rfl⟩:=len1 (show s.length=1 from hsl);have hm:=hs.len;simp only[Dk,List.length_nil]at hm;obtain⟨bs,os_,rfl,hbs,hcs0⟩:=zau hs (by omega);have d0:w.cell? ⟨bs,os_,none⟩=some (.int .i64 s0):=hcs0 0 _ rfl;have f0:=zba hsa (k:=0) (x:=s0) rfl;exact(ztc _ _ _ _ _ _ _ _ _ _ _ _ _ w d0 (by omega) f0).mono fun e w' h=>by simpa [zah,zaq,M.i_]using h
 case inr.inr.inr.inr.inr.inr.inr.inr.inr.inr.inr.inr.inr.inr.inl=>
  obtain⟨i0,i1,i2,rfl⟩:=len3 (show ins.length=3 from hil);have hn:=hi.len;simp only[Dk,List.length_nil]at hn;subst hn;obtain⟨bi,oi,rfl,hbi,hci⟩:=zau hi (by omega);have c0:w.cell? ⟨bi,oi,none⟩=some (.int .i64 i0):=hci 0 _ rfl;have c1:w.cell? ⟨bi,oi+1,none⟩=some (.int .i64 i1):=hci 1 _ rfl;have c2:w.cell? ⟨bi,oi+2,none⟩=some (.int .i64 i2):=hci 2 _ rfl;have e0:=zba hia (k:=0) (x:=i0) rfl;have e1:=zba hia (k:=1) (x:=i1) rfl;have e2:=zba hia (k:=2) (x:=i2) rfl;exact(ze5 _ _ _ _ _ _ _ _ _ _ w (by simp) (fun W hB=>znl _ _ _ _ _ _ _ _ _ _ _  _ _ _ W (by rw[hB.cell hbi];exact c0) (by rw[hB.cell hbi];exact c1) (by rw[hB.cell hbi];exact c2) ⟨e0.1,e0.2,e1.1,e1.2,e2.1,e2.2⟩)).mono fun e w' h=>by simpa [zah,zaq,M.i_]using h
 case inr.inr.inr.inr.inr.inr.inr.inr.inr.inr.inr.inr.inr.inr.inr.inl=>
  obtain⟨i0,i1,rfl⟩:=len2 (show ins.length=2 from hil);have hn:=hi.len;simp only[Dk,List.length_nil]at hn;subst hn;obtain⟨bi,oi,rfl,hbi,hci⟩:=zau hi (by omega);have c0:w.cell? ⟨bi,oi,none⟩=some (.int .i64 i0):=hci 0 _ rfl;have c1:w.cell? ⟨bi,oi+1,none⟩=some (.int .i64 i1):=hci 1 _ rfl;have e0:=zba hia (k:=0) (x:=i0) rfl;have e1:=zba hia (k:=1) (x:=i1) rfl;obtain⟨s0,rfl⟩:=len1 (show s.length=1 from hsl);have hm:=hs.len;simp only[Dk,List.length_nil]at hm;obtain⟨bs,os_,rfl,hbs,hcs0⟩:=zau hs (by omega);have d0:w.cell? ⟨bs,os_,none⟩=some (.int .i64 s0):=hcs0 0 _ rfl;have f0:=zba hsa (k:=0) (x:=s0) rfl;exact(ztd _ _ _ _ _ _ _ _ _ _ _ _ _ _ _ _ w c0 c1 d0 (by omega) ⟨e0.1,e0.2,e1.1,e1.2⟩ f0).mono fun e w' h=>by simpa [zah,zaq,M.i_]using h
 case inr.inr.inr.inr.inr.inr.inr.inr.inr.inr.inr.inr.inr.inr.inr.inr=>
  obtain⟨i0,rfl⟩:=len1 (show ins.length=1 from hil);have hn:=hi.len;simp only[Dk,List.length_nil]at hn;subst hn;obtain⟨bi,oi,rfl,hbi,hci⟩:=zau hi (by omega);have c0:w.cell? ⟨bi,oi,none⟩=some (.int .i64 i0):=hci 0 _ rfl;have e0:=zba hia (k:=0) (x:=i0) rfl;have hsl2:s.length=a2.toNat:=hsl;have hsr:=h17 rfl;obtain⟨s0,ss,rfl⟩:=zkq (xs:=s) (by omega);have hm:=hs.len;simp only[Dk]at hm hsl2;obtain⟨bs,os_,rfl,hbs,hcs0⟩:=zau hs (by omega);have d0:w.cell? ⟨bs,os_,none⟩=some (.int .i64 s0):=hcs0 0 _ rfl;have f0:=zba hsa (k:=0) (x:=s0) rfl;exact(zte _ _ _ _ _ _ _ _ _ _ _ _ _ _ _ _ w c0 hs (by omega) hcs (hb17 rfl) e0 f0).mono fun e w' h=>by simpa [zah,zaq,M.i_]using h
end Go.Proofs.YtifeldeikhmckaaGreat
