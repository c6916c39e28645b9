import Derived.Test.YtifeldeikhmckaaGreatFnExactOptimizeSessionG8
set_option linter.unusedVariables false
set_option linter.unusedSimpArgs false
set_option maxRecDepth 100000
set_option maxHeartbeats 4000000
namespace Go.Proofs.YtifeldeikhmckaaGreat
open Go.RowKit
theorem zd7(A:Yo)(n c:Nat)(xs:List (List Int))(l:Int)(w:Yw)(hx:tSS.R w w.heap.size [.slice A n c] xs)(hl:0<=l/\l<=1000000000):
 Calls Tryz.prog 20 #[.slice A n c,.int .i64 l] w fun e w'=>e=.returned (.int .i64 (if (hSS.sz xs:Int)<=l then l-hSS.sz xs else -1))/\Below w.heap.size w w':=by
 have hr:=sl_R.1 hx;obtain⟨h1,h2,h3⟩:=hr.cap;have hn:n<=9223372036854775807:=by unfold maxLen at h3;omega
 obtain rfl:xs.length=n:=h1;have hzz:hSS.sz xs=xs.length+hS.szL xs:=rfl;have HZ:=Lib.hid hzz;clear h2 h3 hx hzz;generalize hR:(if (hSS.sz xs:Int)<=l then l-(hSS.sz xs:Int)else -1)=R;have HR:=Lib.hid hR;clear hR
 by_cases h:(xs.length:Int)<=l
 ·go_enter Tryz.func20,Tryz.ntmps20
  go_wp2
  go_loopw [1,5] (fun q i wr=>∃k:Nat,i=.int .i64 k/\k<=xs.length/\(hS.szL (xs.take k):Int)<=l-xs.length/\q=.int .i64 (l-xs.length-hS.szL (xs.take k))/\Below w.heap.size w wr) (fun _ i _=>xs.length-(intOf i).toNat)
  case atStart=>exact⟨0,rfl,by omega,by simp[Hs.szL];omega,by simp[Hs.szL],Below.refl _ _⟩
  case round=>
   obtain⟨k,rfl,hk,hz,rfl,hb⟩:=hrel
   by_cases hlt:k<xs.length
   ·have hX:=Lib.hid (List.getElem?_eq_getElem hlt);obtain⟨b,o,c1,cs,hv,hab,-,hE,hc⟩:=(hr.below hb).atX hX.out;simp only[Value.slice.injEq]at hv;obtain⟨rfl,-,rfl⟩:=hv;have hTk:=Lib.hid (hS.szL_take hX.out);have hU:=hS.szL_at hX.out;generalize xs[k]=x at hX hE hTk hU;obtain⟨A0,n0,c0,rfl⟩:=za9 hE;have ec0:wr.cell? ⟨b,o+k*1,none⟩=some (.slice A0 n0 c0):=hc 0 _ rfl;rw[Nat.mul_one]at ec0;have f0:=tS.more hb.size hE;clear hc
    by_cases hle:(hS.sz x:Int)<=l-xs.length-hS.szL (xs.take k)
    ·have hi:=Lib.hid (show (if (hS.sz x:Int)<=l-xs.length-hS.szL (xs.take k)then l-xs.length-hS.szL (xs.take k)-hS.sz x else -1)=l-xs.length-hS.szL (xs.take k)-hS.sz x by rw[if_pos hle]);go_wp2_with (go_at_call 22;refine(zd6 _ _ _ _ _ _ f0 (by omega)).mono ?_;rw[hi.out];rintro e w2 ⟨rfl,bel2⟩);go_roundw
     case rel=>exact⟨k+1,by go_num,by omega,by rw[hTk.out];omega,by rw[hTk.out];go_num,hb.trans (bel2.mono hb.size)⟩
     case measure=>simp[intOf];omega
    have hi:=Lib.hid (show (if (hS.sz x:Int)<=l-xs.length-hS.szL (xs.take k)then l-xs.length-hS.szL (xs.take k)-hS.sz x else -1) = -1 by rw[if_neg hle]);have hj:=Lib.hid (show (if (hSS.sz xs:Int)<=l then l-hSS.sz xs else -1) = -1 by rw[HZ.out,if_neg (by omega)]);go_wp2_with (go_at_call 22;refine(zd6 _ _ _ _ _ _ f0 (by omega)).mono ?_;rw[hi.out];rintro e w2 ⟨rfl,bel2⟩);go_ret;exact⟨zay (hj.out.symm.trans HR.out),hb.trans (bel2.mono hb.size)⟩
   obtain rfl:xs.length=k:=by omega
   rw[List.take_of_length_le (Nat.le_refl _)]at hz ⊢;have hj:=Lib.hid (show (if (hSS.sz xs:Int)<=l then l-hSS.sz xs else -1)=l-xs.length-hS.szL xs by rw[HZ.out,if_pos (by omega)];omega);go_wp2;go_ret;exact⟨zay (hj.out.symm.trans HR.out),hb⟩
 have hj:=Lib.hid (show (if (hSS.sz xs:Int)<=l then l-hSS.sz xs else -1) = -1 by rw[HZ.out,if_neg (by omega)])
 go_enter Tryz.func20,Tryz.ntmps20
 go_wp2;go_ret;exact⟨zay (hj.out.symm.trans HR.out),Below.refl _ _⟩
theorem zql:EI Tryz.prog 22 24 (.slice none 0 0) 1 24:=⟨Tryz.underlying22,by kernel_rfl,rfl,by decide⟩
theorem zqm(w:Yw)(F:Nat->Prop):tS.O w F [.slice none 0 0] []:=⟨_,rfl,OS.nil _ _ _ _⟩
theorem zky(A:Yo)(n c:Nat)(xs:List (List Int))(w:Yw)(hx:tSS.R w w.heap.size [.slice A n c] xs)(hn:hSS.sz xs<=100000000):
 Calls Tryz.prog 29 #[.slice A n c] w fun e w'=>∃A' n' c',e=.returned (.slice A' n' c')/\tSS.O w' (Iv w.heap.size w'.heap.size) [.slice A' n' c'] xs/\Below w.heap.size w w':=by
 have hr:=sl_R.1 hx;obtain rfl:xs.length=n:=hr.cap.1;have hn1:xs.length+hS.szL xs<=100000000:=hn;clear hx hn
 go_enter Tryz.func29,Tryz.ntmps29
 go_wp2_with (at_make;refine zdo zql rfl _ _ rfl xs.length _ _ rfl rfl rfl rfl (by omega) (by unfold maxLen;omega) ?_;intro w1 own1 bel1);have hs1:w.heap.size+1<=w1.heap.size:=(World.ownsRow.lt own1 _ rfl).2
 have own2:OS tS 24 w1 (Iv w.heap.size w1.heap.size) (.slice (some ⟨w.heap.size,0,none⟩) xs.length xs.length) (List.replicate xs.length ([]:(List Int))):=
  OS.made (t:=tS) (zc:=[.slice none 0 0]) zqm rfl ⟨Nat.le_refl _,by omega⟩ own1
 clear own1
 go_loopw [4] (fun i wr=>∃k:Nat,i=.int .i64 k/\k<=xs.length/\OS tS 24 wr (Iv w.heap.size wr.heap.size) (.slice (some ⟨w.heap.size,0,none⟩) xs.length xs.length) (xs.take k++(List.replicate xs.length ([]:(List Int))).drop k)/\w.heap.size+1<=wr.heap.size/\Below w.heap.size w wr)
  (fun i _=>xs.length-(intOf i).toNat)
 case atStart=>exact⟨0,rfl,by omega,by simpa using own2,hs1,bel1⟩
 case round=>
  obtain⟨k,rfl,hk,own,hsz,hb⟩:=hrel
  by_cases hlt:k<xs.length
  ·have hX:=Lib.hid (List.getElem?_eq_getElem hlt);obtain⟨b,o,c1,cs,hv,hab,-,hE,hc⟩:=(hr.below hb).atX hX.out;simp only[Value.slice.injEq]at hv;obtain⟨rfl,-,rfl⟩:=hv;have hU:=hS.szL_at hX.out;generalize xs[k]=x at hX hE hU;obtain⟨A0,n0,c0,rfl⟩:=za9 hE;have ec0:wr.cell? ⟨b,o+k*1,none⟩=some (.slice A0 n0 c0):=hc 0 _ rfl;rw[Nat.mul_one]at ec0;have f0:=tS.more hb.size hE;have hz2:hS.sz x<=100000000:=(by omega);clear hc;have hD:=Lib.hid (show (xs.take k++(List.replicate xs.length ([]:(List Int))).drop k)[k]?=some []by rw[M.mid_at (by rw[List.length_replicate])];simp[hlt]);go_wp2_with (go_at_call 31;refine(zg4 _ _ _ _ _ f0 hz2).mono ?_;rintro e w2 ⟨A0',n0',c0',rfl,o2,bel2⟩;have own':=own.below bel2 (Nat.le_refl _);obtain⟨css,Fs,hole,cs,hcs,hE⟩:=own'.openAt hD.out;obtain⟨A09,n09,c09,rfl⟩:=za9 (tS.read hE);have z2:=bel2.size;have q0:=(hole.cell hcs (j:=0) rfl).1;have r0:=(hole.cell hcs (j:=0) rfl).2;change w2.cell? ⟨w.heap.size,k*1+0,none⟩=_ at q0;change w2.frozen? ⟨w.heap.size,k*1+0,none⟩=_ at r0;rw[Nat.add_zero,Nat.mul_one]at q0 r0);go_roundw
   case rel=>
    have s0:=hole.set hcs 0 (by decide) (.slice A0' n0' c0');have o3:=(tS.oset (g:=w.heap.size) (o:=k*1+0) (u:=.slice A0' n0' c0') o2 (.inl (by omega)));have h3:=s0.1.fill' s0.2 (y:=x) (Fe:=Iv wr.heap.size w2.heap.size) o3 (fun b h1 h2=>by have:=h1.1;have:=h2.2;omega);rw[M.set_mid (by rw[List.length_replicate]) hX.out]at h3;have hb2:=hb.trans (bel2.mono hb.size);rw[Nat.add_zero,show tS.s=1 from rfl,Nat.mul_one]at h3;exact⟨k+1,by go_num,by omega,h3.wide (fun b hb=>⟨by unfold Iv at hb;omega,by simp;unfold Iv at hb;omega⟩),by simp;omega,(hb2.setCell (Nat.le_refl _) _)⟩
   case measure=>simp[intOf];omega
  go_wp2;go_ret;rw[List.take_of_length_le (by omega),List.drop_eq_nil_of_le (by simp;omega),List.append_nil]at own;exact⟨_,_,_,rfl,sl_O.2 own,hb⟩
abbrev zad:=Int×(List (List Int))×(List Node)×(List Int)
abbrev tP:Ty zad:=tI.prod (tSS.prod (tNS.prod tS))
abbrev hP:Hs zad:=hI.prod (hSS.prod (hNS.prod hS))
theorem tP_R{w:Yw}{B:Nat}{cs:List Value}{a0:Int}{x1:List (List Int)}{x2:List Node}{x3:List Int}:tP.R w B cs (a0,x1,x2,x3)↔∃A1 n1 c1 A2 n2 c2 A3 n3 c3,cs=[.int .i64 a0,.slice A1 n1 c1,.slice A2 n2 c2,.slice A3 n3 c3]/\tSS.R w B [.slice A1 n1 c1] x1/\tNS.R w B [.slice A2 n2 c2] x2/\tS.R w B [.slice A3 n3 c3] x3:=by
 constructor
 ·rintro⟨u0,d0,rfl,g0,⟨u1,d1,rfl,g1,⟨u2,d2,rfl,g2,g3⟩⟩⟩;obtain rfl:u0=[.int .i64 a0]:=g0;obtain⟨A1,n1,c1,rfl⟩:=za9 g1;obtain⟨A2,n2,c2,rfl⟩:=za9 g2;obtain⟨A3,n3,c3,rfl⟩:=za9 g3;exact⟨A1,n1,c1,A2,n2,c2,A3,n3,c3,rfl,g1,g2,g3⟩
 rintro⟨A1,n1,c1,A2,n2,c2,A3,n3,c3,rfl,g1,g2,g3⟩;exact⟨[.int .i64 a0],_,rfl,rfl,⟨[.slice A1 n1 c1],_,rfl,g1,⟨[.slice A2 n2 c2],_,rfl,g2,g3⟩⟩⟩
theorem tP_O{w:Yw}{F:Nat->Prop}{cs:List Value}{a0:Int}{x1:List (List Int)}{x2:List Node}{x3:List Int}:tP.O w F cs (a0,x1,x2,x3)↔∃A1 n1 c1 A2 n2 c2 A3 n3 c3,∃F1 F2 F3:Nat->Prop,cs=[.int .i64 a0,.slice A1 n1 c1,.slice A2 n2 c2,.slice A3 n3 c3]/\tSS.O w F1 [.slice A1 n1 c1] x1/\tNS.O w F2 [.slice A2 n2 c2] x2/\tS.O w F3 [.slice A3 n3 c3] x3/\(∀b,F1 b->F b)/\(∀b,F2 b->F b)/\(∀b,F3 b->F b)/\(∀b,F1 b->¬F2 b)/\(∀b,F1 b->¬F3 b)/\(∀b,F2 b->¬F3 b):=by
 constructor
 ·rintro⟨u0,d0,F0,G0,rfl,g0,⟨u1,d1,F1,G1,rfl,g1,⟨u2,d2,F2,G2,rfl,g2,g3,p2,q2,r2⟩,p1,q1,r1⟩,p0,q0,r0⟩;obtain rfl:u0=[.int .i64 a0]:=g0;obtain⟨A1,n1,c1,rfl⟩:=za9 (tSS.read g1);obtain⟨A2,n2,c2,rfl⟩:=za9 (tNS.read g2);obtain⟨A3,n3,c3,rfl⟩:=za9 (tS.read g3);exact⟨A1,n1,c1,A2,n2,c2,A3,n3,c3,F1,F2,G2,rfl,g1,g2,g3,fun b h=>q0 _ (p1 _ h),fun b h=>q0 _ (q1 _ (p2 _ h)),fun b h=>q0 _ (q1 _ (q2 _ (h))),fun b h h2=>r1 b h (p2 _ h2),fun b h h2=>r1 b h (q2 _ (h2)),fun b h h2=>r2 b h (h2)⟩
 rintro⟨A1,n1,c1,A2,n2,c2,A3,n3,c3,F1,F2,F3,rfl,g1,g2,g3,p1,p2,p3,r1_2,r1_3,r2_3⟩;exact⟨[.int .i64 a0],_,(fun _=>False),(fun b=>F1 b\/F2 b\/F3 b),rfl,rfl,⟨[.slice A1 n1 c1],_,F1,(fun b=>F2 b\/F3 b),rfl,g1,⟨[.slice A2 n2 c2],_,F2,F3,rfl,g2,g3,fun b h=>by first|exact h|(simp only[*,true_or,or_true]),fun b h=>by first|exact h|exact Or.inr h|(rcases h with h <;> simp only[*,true_or,or_true]),r2_3⟩,fun b h=>by first|exact h|(simp only[*,true_or,or_true]),fun b h=>by first|exact h|exact Or.inr h|(rcases h with h|h <;> simp only[*,true_or,or_true]),fun b h h2=>by rcases h2 with h2|h2 <;> first|exact r1_2 b h h2|exact r1_3 b h h2⟩,fun _ h=>h.elim,fun b h=>by rcases h with h|h|h <;> first|exact p1 b h|exact p2 b h|exact p3 b h,fun _ h=>h.elim⟩
theorem zco(a0:Int)(x1:List (List Int))(x2:List Node)(x3:List Int):hP.sz (a0,x1,x2,x3)=hSS.sz x1+hNS.sz x2+hS.sz x3:=by
 show 0+(hSS.sz x1+(hNS.sz x2+(hS.sz x3)))=_
 omega
theorem zgi(a0:Int)(x1:List (List Int))(x2:List Node)(x3:List Int):hP.cnt (a0,x1,x2,x3)=1+hSS.cnt x1+hNS.cnt x2+hS.cnt x3:=by
 show 1+(hSS.cnt x1+(hNS.cnt x2+(hS.cnt x3)))=_
 omega
theorem zkz(a0:Int)(A1:Yo)(n1 c1:Nat)(A2:Yo)(n2 c2:Nat)(A3:Yo)(n3 c3:Nat)(x1:List (List Int))(x2:List Node)(x3:List Int)(l:Int)(w:Yw)(h1:tSS.R w w.heap.size [.slice A1 n1 c1] x1)(h2:tNS.R w w.heap.size [.slice A2 n2 c2] x2)(h3:tS.R w w.heap.size [.slice A3 n3 c3] x3)(hl:0<=l/\l<=1000000000):
 Calls Tryz.prog 65 #[.agg #[.int .i64 a0,.slice A1 n1 c1,.slice A2 n2 c2,.slice A3 n3 c3],.int .i64 l] w fun e w'=>e=.returned (.int .i64 (if (hP.sz ((a0,x1,x2,x3):zad):Int)<=l then l-hP.sz ((a0,x1,x2,x3):zad)else -1))/\Below w.heap.size w w':=by
 obtain⟨W,hW⟩:∃W,W=w.alloc (.cells #[.int .i64 a0,.slice A1 n1 c1,.slice A2 n2 c2,.slice A3 n3 c3] 107):=⟨_,rfl⟩;have B0:Below w.heap.size w W:=by rw[hW];exact(Below.refl _ _).alloc (Nat.le_refl _) _
 have p1:W.cell? ⟨w.heap.size,1,none⟩=some (.slice A1 n1 c1):=by rw[hW];simp[go_sem]
 have p2:W.cell? ⟨w.heap.size,2,none⟩=some (.slice A2 n2 c2):=by rw[hW];simp[go_sem]
 have p3:W.cell? ⟨w.heap.size,3,none⟩=some (.slice A3 n3 c3):=by rw[hW];simp[go_sem]
 have l0:w.heap.size<W.heap.size:=by rw[hW];simp
 have y1_0:=tSS.later h1 B0;have y2_0:=tNS.later h2 B0;have y3_0:=tS.later h3 B0;have HW:=Lib.hid hW;clear hW;rw[zco];have z1:0<=(hSS.sz x1:Int):=Int.natCast_nonneg _;have z2:0<=(hNS.sz x2:Int):=Int.natCast_nonneg _;have z3:0<=(hS.sz x3:Int):=Int.natCast_nonneg _
 by_cases g0:(hSS.sz x1:Int)<=l
 ·have i0:=Lib.hid (show (if (hSS.sz x1:Int)<=l then l-hSS.sz x1 else -1)=l-hSS.sz x1 by rw[if_pos g0])
  by_cases g1:(hNS.sz x2:Int)<=l-hSS.sz x1
  ·have i1:=Lib.hid (show (if (hNS.sz x2:Int)<=l-hSS.sz x1 then l-hSS.sz x1-hNS.sz x2 else -1)=l-hSS.sz x1-hNS.sz x2 by rw[if_pos g1])
   by_cases g2:(hS.sz x3:Int)<=l-hSS.sz x1-hNS.sz x2
   ·have i2:=Lib.hid (show (if (hS.sz x3:Int)<=l-hSS.sz x1-hNS.sz x2 then l-hSS.sz x1-hNS.sz x2-hS.sz x3 else -1)=l-hSS.sz x1-hNS.sz x2-hS.sz x3 by rw[if_pos g2]);have hj:=Lib.hid (show (if ((hSS.sz x1+hNS.sz x2+hS.sz x3:Nat):Int)<=l then l-((hSS.sz x1+hNS.sz x2+hS.sz x3:Nat):Int)else -1)=l-hSS.sz x1-hNS.sz x2-hS.sz x3 by rw[if_pos (by omega)];first|done|omega);rw[hj.out];clear z1 z2 z3
    go_enter Tryz.func65,Tryz.ntmps65
    go_wp2_with fail;rw[<-HW.out];refine(zd7 _ _ _ _ _ _ y1_0 (by omega)).mono ?_;rw[i0.out];rintro e w1 ⟨rfl,b1⟩;obtain⟨hc1,-⟩:=zan b1;have l1:=Nat.lt_of_lt_of_le l0 b1.size;have B1:=zaa B0 b1;have y2_1:=tNS.later y2_0 b1;have y3_1:=tS.later y3_0 b1;go_wp2_with fail;refine(zim _ _ _ _ _ _ y2_1 (by omega)).mono ?_;rw[i1.out];rintro e w2 ⟨rfl,b2⟩;obtain⟨hc2,-⟩:=zan b2;have l2:=Nat.lt_of_lt_of_le l1 b2.size;have B2:=zaa B1 b2;have y3_2:=tS.later y3_1 b2;go_wp2_with fail;refine(zd6 _ _ _ _ _ _ y3_2 (by omega)).mono ?_;rw[i2.out];rintro e w3 ⟨rfl,b3⟩;obtain⟨hc3,-⟩:=zan b3;have l3:=Nat.lt_of_lt_of_le l2 b3.size;have B3:=zaa B2 b3;go_wp2;go_ret;exact⟨rfl,B3⟩
   have i2:=Lib.hid (show (if (hS.sz x3:Int)<=l-hSS.sz x1-hNS.sz x2 then l-hSS.sz x1-hNS.sz x2-hS.sz x3 else -1) = -1 by rw[if_neg g2]);have hj:=Lib.hid (show (if ((hSS.sz x1+hNS.sz x2+hS.sz x3:Nat):Int)<=l then l-((hSS.sz x1+hNS.sz x2+hS.sz x3:Nat):Int)else -1) = -1 by rw[if_neg (by omega)]);rw[hj.out];clear z1 z2 z3
   go_enter Tryz.func65,Tryz.ntmps65
   go_wp2_with fail;rw[<-HW.out];refine(zd7 _ _ _ _ _ _ y1_0 (by omega)).mono ?_;rw[i0.out];rintro e w1 ⟨rfl,b1⟩;obtain⟨hc1,-⟩:=zan b1;have l1:=Nat.lt_of_lt_of_le l0 b1.size;have B1:=zaa B0 b1;have y2_1:=tNS.later y2_0 b1;have y3_1:=tS.later y3_0 b1;go_wp2_with fail;refine(zim _ _ _ _ _ _ y2_1 (by omega)).mono ?_;rw[i1.out];rintro e w2 ⟨rfl,b2⟩;obtain⟨hc2,-⟩:=zan b2;have l2:=Nat.lt_of_lt_of_le l1 b2.size;have B2:=zaa B1 b2;have y3_2:=tS.later y3_1 b2;go_wp2_with fail;refine(zd6 _ _ _ _ _ _ y3_2 (by omega)).mono ?_;rw[i2.out];rintro e w3 ⟨rfl,b3⟩;obtain⟨hc3,-⟩:=zan b3;have l3:=Nat.lt_of_lt_of_le l2 b3.size;have B3:=zaa B2 b3;go_wp2;go_ret;exact⟨rfl,B3⟩
  have i1:=Lib.hid (show (if (hNS.sz x2:Int)<=l-hSS.sz x1 then l-hSS.sz x1-hNS.sz x2 else -1) = -1 by rw[if_neg g1]);have hj:=Lib.hid (show (if ((hSS.sz x1+hNS.sz x2+hS.sz x3:Nat):Int)<=l then l-((hSS.sz x1+hNS.sz x2+hS.sz x3:Nat):Int)else -1) = -1 by rw[if_neg (by omega)]);rw[hj.out];clear z1 z2 z3
  go_enter Tryz.func65,Tryz.ntmps65
  go_wp2_with fail;rw[<-HW.out];refine(zd7 _ _ _ _ _ _ y1_0 (by omega)).mono ?_;rw[i0.out];rintro e w1 ⟨rfl,b1⟩;obtain⟨hc1,-⟩:=zan b1;have l1:=Nat.lt_of_lt_of_le l0 b1.size;have B1:=zaa B0 b1;have y2_1:=tNS.later y2_0 b1;have y3_1:=tS.later y3_0 b1;go_wp2_with fail;refine(zim _ _ _ _ _ _ y2_1 (by omega)).mono ?_;rw[i1.out];rintro e w2 ⟨rfl,b2⟩;obtain⟨hc2,-⟩:=zan b2;have l2:=Nat.lt_of_lt_of_le l1 b2.size;have B2:=zaa B1 b2;have y3_2:=tS.later y3_1 b2;go_wp2;go_ret;exact⟨rfl,B2⟩
 have i0:=Lib.hid (show (if (hSS.sz x1:Int)<=l then l-hSS.sz x1 else -1) = -1 by rw[if_neg g0]);have hj:=Lib.hid (show (if ((hSS.sz x1+hNS.sz x2+hS.sz x3:Nat):Int)<=l then l-((hSS.sz x1+hNS.sz x2+hS.sz x3:Nat):Int)else -1) = -1 by rw[if_neg (by omega)]);rw[hj.out];clear z1 z2 z3
 go_enter Tryz.func65,Tryz.ntmps65
 go_wp2_with fail;rw[<-HW.out];refine(zd7 _ _ _ _ _ _ y1_0 (by omega)).mono ?_;rw[i0.out];rintro e w1 ⟨rfl,b1⟩;obtain⟨hc1,-⟩:=zan b1;have l1:=Nat.lt_of_lt_of_le l0 b1.size;have B1:=zaa B0 b1;have y2_1:=tNS.later y2_0 b1;have y3_1:=tS.later y3_0 b1;go_wp2;go_ret;exact⟨rfl,B1⟩
theorem zqn(a0:Int)(A1:Yo)(n1 c1:Nat)(A2:Yo)(n2 c2:Nat)(A3:Yo)(n3 c3:Nat)(A1':Yo)(n1' c1':Nat)(A2':Yo)(n2' c2':Nat)(A3':Yo)(n3' c3':Nat)(x1:List (List Int))(x2:List Node)(x3:List Int)(w:Yw)(h1:tSS.R w w.heap.size [.slice A1 n1 c1] x1)(h2:tNS.R w w.heap.size [.slice A2 n2 c2] x2)(h3:tS.R w w.heap.size [.slice A3 n3 c3] x3)(k1:tSS.R w w.heap.size [.slice A1' n1' c1'] x1)(k2:tNS.R w w.heap.size [.slice A2' n2' c2'] x2)(k3:tS.R w w.heap.size [.slice A3' n3' c3'] x3)(hn:hP.sz ((a0,x1,x2,x3):zad)<=100000000):
 Calls Tryz.prog 97 #[.agg #[.int .i64 a0,.slice A1 n1 c1,.slice A2 n2 c2,.slice A3 n3 c3],.agg #[.int .i64 a0,.slice A1' n1' c1',.slice A2' n2' c2',.slice A3' n3' c3']] w fun e w'=>e=.returned (.bool true)/\Below w.heap.size w w':=by
 obtain⟨W,hW⟩:∃W,W=(w.alloc (.cells #[.int .i64 a0,.slice A1 n1 c1,.slice A2 n2 c2,.slice A3 n3 c3] 67)).alloc (.cells #[.int .i64 a0,.slice A1' n1' c1',.slice A2' n2' c2',.slice A3' n3' c3'] 67):=⟨_,rfl⟩;have B0:Below w.heap.size w W:=by rw[hW];exact((Below.refl _ _).alloc (Nat.le_refl _) _).alloc (by simp) _
 have p0:W.cell? ⟨w.heap.size,0,none⟩=some (.int .i64 a0):=by rw[hW];simp[go_sem]
 have q0:W.cell? ⟨w.heap.size+1,0,none⟩=some (.int .i64 a0):=by rw[hW];simp[go_sem]
 have p1:W.cell? ⟨w.heap.size,1,none⟩=some (.slice A1 n1 c1):=by rw[hW];simp[go_sem]
 have q1:W.cell? ⟨w.heap.size+1,1,none⟩=some (.slice A1' n1' c1'):=by rw[hW];simp[go_sem]
 have p2:W.cell? ⟨w.heap.size,2,none⟩=some (.slice A2 n2 c2):=by rw[hW];simp[go_sem]
 have q2:W.cell? ⟨w.heap.size+1,2,none⟩=some (.slice A2' n2' c2'):=by rw[hW];simp[go_sem]
 have p3:W.cell? ⟨w.heap.size,3,none⟩=some (.slice A3 n3 c3):=by rw[hW];simp[go_sem]
 have q3:W.cell? ⟨w.heap.size+1,3,none⟩=some (.slice A3' n3' c3'):=by rw[hW];simp[go_sem]
 have l0:w.heap.size+1<W.heap.size:=by rw[hW];simp
 have l0':w.heap.size<W.heap.size:=by omega
 have y1_0:=tSS.later h1 B0;have v1_0:=tSS.later k1 B0;have y2_0:=tNS.later h2 B0;have v2_0:=tNS.later k2 B0;have y3_0:=tS.later h3 B0;have v3_0:=tS.later k3 B0;have HW:=Lib.hid hW;clear hW;rw[zco]at hn
 go_enter Tryz.func97,Tryz.ntmps97
 go_wp2_with fail;rw[<-HW.out];refine(zj7 _ _ _ _ _ _ _ _ y1_0 v1_0 (by omega)).mono ?_;rintro e w1 ⟨rfl,b1⟩;obtain⟨hc1,-⟩:=zan b1;have l1:=Nat.lt_of_lt_of_le l0 b1.size;have l1':=Nat.lt_of_lt_of_le l0' b1.size;have B1:=zaa B0 b1;have y2_1:=tNS.later y2_0 b1;have v2_1:=tNS.later v2_0 b1;have y3_1:=tS.later y3_0 b1;have v3_1:=tS.later v3_0 b1;go_wp2_with fail;refine(zqk _ _ _ _ _ _ _ _ y2_1 v2_1 (by omega)).mono ?_;rintro e w2 ⟨rfl,b2⟩;obtain⟨hc2,-⟩:=zan b2;have l2:=Nat.lt_of_lt_of_le l1 b2.size;have l2':=Nat.lt_of_lt_of_le l1' b2.size;have B2:=zaa B1 b2;have y3_2:=tS.later y3_1 b2;have v3_2:=tS.later v3_1 b2;go_wp2_with fail;refine(zg5 _ _ _ _ _ _ _ _ y3_2 v3_2 (by omega)).mono ?_;rintro e w3 ⟨rfl,b3⟩;obtain⟨hc3,-⟩:=zan b3;have l3:=Nat.lt_of_lt_of_le l2 b3.size;have l3':=Nat.lt_of_lt_of_le l2' b3.size;have B3:=zaa B2 b3;go_wp2;go_ret;exact⟨rfl,B3⟩
theorem zqo(a0:Int)(A1:Yo)(n1 c1:Nat)(A2:Yo)(n2 c2:Nat)(A3:Yo)(n3 c3:Nat)(x1:List (List Int))(x2:List Node)(x3:List Int)(w:Yw)(h1:tSS.R w w.heap.size [.slice A1 n1 c1] x1)(h2:tNS.R w w.heap.size [.slice A2 n2 c2] x2)(h3:tS.R w w.heap.size [.slice A3 n3 c3] x3)(hn:hP.sz ((a0,x1,x2,x3):zad)<=100000000):
 Calls Tryz.prog 78 #[.agg #[.int .i64 a0,.slice A1 n1 c1,.slice A2 n2 c2,.slice A3 n3 c3]] w fun e w'=>∃A1' n1' c1' A2' n2' c2' A3' n3' c3',e=.returned (.agg #[.int .i64 a0,.slice A1' n1' c1',.slice A2' n2' c2',.slice A3' n3' c3'])/\tP.O w' (Iv w.heap.size w'.heap.size) [.int .i64 a0,.slice A1' n1' c1',.slice A2' n2' c2',.slice A3' n3' c3'] (a0,x1,x2,x3)/\Below w.heap.size w w':=by
 obtain⟨W,hW⟩:∃W,W=((w.alloc (.cells #[.int .i64 a0,.slice A1 n1 c1,.slice A2 n2 c2,.slice A3 n3 c3] 107)).alloc (.cells #[.int .i64 0,.slice none 0 0,.slice none 0 0,.slice none 0 0] 67)).alloc (.cells #[.int .i64 a0,.slice none 0 0,.slice none 0 0,.slice none 0 0] 67):=⟨_,rfl⟩;have B0:Below w.heap.size w W:=by rw[hW];exact(((Below.refl _ _).alloc (Nat.le_refl _) _).alloc (by simp) _).alloc (by simp;omega) _
 have z0:W.heap.size=w.heap.size+1+1+1:=by rw[hW];simp
 have p0:W.cell? ⟨w.heap.size,0,none⟩=some (.int .i64 a0):=by rw[hW];simp[go_sem]
 have q0:W.cell? ⟨w.heap.size+1,0,none⟩=some (.int .i64 0):=by rw[hW];simp[go_sem]
 have r0:W.cell? ⟨w.heap.size+1+1,0,none⟩=some (.int .i64 a0):=by rw[hW];simp[go_sem]
 have s0:W.frozen? ⟨w.heap.size+1,0,none⟩=false:=by rw[hW];simp[go_sem]
 have t0:W.frozen? ⟨w.heap.size+1+1,0,none⟩=false:=by rw[hW];simp[go_sem]
 have p1:W.cell? ⟨w.heap.size,1,none⟩=some (.slice A1 n1 c1):=by rw[hW];simp[go_sem]
 have q1:W.cell? ⟨w.heap.size+1,1,none⟩=some (.slice none 0 0):=by rw[hW];simp[go_sem]
 have r1:W.cell? ⟨w.heap.size+1+1,1,none⟩=some (.slice none 0 0):=by rw[hW];simp[go_sem]
 have s1:W.frozen? ⟨w.heap.size+1,1,none⟩=false:=by rw[hW];simp[go_sem]
 have t1:W.frozen? ⟨w.heap.size+1+1,1,none⟩=false:=by rw[hW];simp[go_sem]
 have p2:W.cell? ⟨w.heap.size,2,none⟩=some (.slice A2 n2 c2):=by rw[hW];simp[go_sem]
 have q2:W.cell? ⟨w.heap.size+1,2,none⟩=some (.slice none 0 0):=by rw[hW];simp[go_sem]
 have r2:W.cell? ⟨w.heap.size+1+1,2,none⟩=some (.slice none 0 0):=by rw[hW];simp[go_sem]
 have s2:W.frozen? ⟨w.heap.size+1,2,none⟩=false:=by rw[hW];simp[go_sem]
 have t2:W.frozen? ⟨w.heap.size+1+1,2,none⟩=false:=by rw[hW];simp[go_sem]
 have p3:W.cell? ⟨w.heap.size,3,none⟩=some (.slice A3 n3 c3):=by rw[hW];simp[go_sem]
 have q3:W.cell? ⟨w.heap.size+1,3,none⟩=some (.slice none 0 0):=by rw[hW];simp[go_sem]
 have r3:W.cell? ⟨w.heap.size+1+1,3,none⟩=some (.slice none 0 0):=by rw[hW];simp[go_sem]
 have s3:W.frozen? ⟨w.heap.size+1,3,none⟩=false:=by rw[hW];simp[go_sem]
 have t3:W.frozen? ⟨w.heap.size+1+1,3,none⟩=false:=by rw[hW];simp[go_sem]
 have l0:w.heap.size<W.heap.size:=by omega
 have l0':w.heap.size+1<W.heap.size:=by omega
 have l0'':w.heap.size+1+1<W.heap.size:=by omega
 have Z0:w.heap.size+1+1+1<=W.heap.size:=by omega
 clear z0;have y1_0:=tSS.later h1 B0;have y2_0:=tNS.later h2 B0;have y3_0:=tS.later h3 B0;have HW:=Lib.hid hW;clear hW;rw[zco]at hn
 go_enter Tryz.func78,Tryz.ntmps78
 go_wp2_with fail;rw[<-HW.out];refine(zky _ _ _ _ _ y1_0 (by omega)).mono ?_;rintro e w1 ⟨A1',n1',c1',rfl,o1_0,b1⟩;obtain⟨hc1,hf1⟩:=zan b1;obtain⟨U1,hU1⟩:∃U,U=w1.setCell ⟨w.heap.size+1+1,1,none⟩ (.slice A1' n1' c1'):=⟨_,rfl⟩;have m1:Mid (w.heap.size+1+1) (w.heap.size+1+1+1) w1 U1:=by rw[hU1];exact Mid.of_grown (zaz w1 (w.heap.size+1+1) 1 _) fun k hk=>by injection hk with hk;omega
 have e1:U1.heap.size=w1.heap.size:=by rw[hU1];simp
 have E1:=Lib.hid e1;have sz1:W.heap.size<=U1.heap.size:=by rw[e1];exact b1.size
 have BU1:Below (w.heap.size+1+1) w1 U1:=m1.toBelow (by omega);have B1:Below w.heap.size w U1:=(zaa B0 b1).trans (BU1.mono (by omega));have l1:=Nat.lt_of_lt_of_le l0 sz1;have l1':=Nat.lt_of_lt_of_le l0' sz1;have l1'':=Nat.lt_of_lt_of_le l0'' sz1;have Z1:=Nat.le_trans Z0 sz1;have o1_1:tSS.O U1 (Iv W.heap.size U1.heap.size) [.slice A1' n1' c1'] x1:=tSS.oiv (tSS.omid o1_0 m1 (.inr (by omega)) (Nat.le_refl _)) (Nat.le_refl _) (by omega);have y2_1:tNS.R U1 U1.heap.size [.slice A2 n2 c2] x2:=tNS.later h2 B1;have y3_1:tS.R U1 U1.heap.size [.slice A3 n3 c3] x3:=tS.later h3 B1;have q0_1:U1.cell? ⟨w.heap.size+1,0,none⟩=some (.int .i64 0):=by rw[BU1.cell (by show w.heap.size+1<_;omega),b1.cell (by show w.heap.size+1<_;omega)];exact q0
 have s0_1:U1.frozen? ⟨w.heap.size+1,0,none⟩=false:=by rw[BU1.frozen (by show w.heap.size+1<_;omega),b1.frozen (by show w.heap.size+1<_;omega)];exact s0
 have r0_1:U1.cell? ⟨w.heap.size+1+1,0,none⟩=some (.int .i64 a0):=by rw[hU1];simp[go_sem,hc1,l0'',r0]
 have t0_1:U1.frozen? ⟨w.heap.size+1+1,0,none⟩=false:=by rw[hU1];simp[go_sem,hf1,l0'',t0]
 have q1_1:U1.cell? ⟨w.heap.size+1,1,none⟩=some (.slice none 0 0):=by rw[BU1.cell (by show w.heap.size+1<_;omega),b1.cell (by show w.heap.size+1<_;omega)];exact q1
 have s1_1:U1.frozen? ⟨w.heap.size+1,1,none⟩=false:=by rw[BU1.frozen (by show w.heap.size+1<_;omega),b1.frozen (by show w.heap.size+1<_;omega)];exact s1
 have r1_1:U1.cell? ⟨w.heap.size+1+1,1,none⟩=some (.slice A1' n1' c1'):=by rw[hU1];simp[go_sem,hc1,l0'',r1]
 have t1_1:U1.frozen? ⟨w.heap.size+1+1,1,none⟩=false:=by rw[hU1];simp[go_sem,hf1,l0'',t1]
 have p2_1:U1.cell? ⟨w.heap.size,2,none⟩=some (.slice A2 n2 c2):=by rw[BU1.cell (by show w.heap.size<_;omega),b1.cell (by show w.heap.size<_;omega)];exact p2
 have q2_1:U1.cell? ⟨w.heap.size+1,2,none⟩=some (.slice none 0 0):=by rw[BU1.cell (by show w.heap.size+1<_;omega),b1.cell (by show w.heap.size+1<_;omega)];exact q2
 have s2_1:U1.frozen? ⟨w.heap.size+1,2,none⟩=false:=by rw[BU1.frozen (by show w.heap.size+1<_;omega),b1.frozen (by show w.heap.size+1<_;omega)];exact s2
 have r2_1:U1.cell? ⟨w.heap.size+1+1,2,none⟩=some (.slice none 0 0):=by rw[hU1];simp[go_sem,hc1,l0'',r2]
 have t2_1:U1.frozen? ⟨w.heap.size+1+1,2,none⟩=false:=by rw[hU1];simp[go_sem,hf1,l0'',t2]
 have p3_1:U1.cell? ⟨w.heap.size,3,none⟩=some (.slice A3 n3 c3):=by rw[BU1.cell (by show w.heap.size<_;omega),b1.cell (by show w.heap.size<_;omega)];exact p3
 have q3_1:U1.cell? ⟨w.heap.size+1,3,none⟩=some (.slice none 0 0):=by rw[BU1.cell (by show w.heap.size+1<_;omega),b1.cell (by show w.heap.size+1<_;omega)];exact q3
 have s3_1:U1.frozen? ⟨w.heap.size+1,3,none⟩=false:=by rw[BU1.frozen (by show w.heap.size+1<_;omega),b1.frozen (by show w.heap.size+1<_;omega)];exact s3
 have r3_1:U1.cell? ⟨w.heap.size+1+1,3,none⟩=some (.slice none 0 0):=by rw[hU1];simp[go_sem,hc1,l0'',r3]
 have t3_1:U1.frozen? ⟨w.heap.size+1+1,3,none⟩=false:=by rw[hU1];simp[go_sem,hf1,l0'',t3]
 have t1_w:w1.frozen? ⟨w.heap.size+1+1,1,none⟩=false:=by rw[hf1 _ _ l0''];exact t1
 have r1_w:w1.cell? ⟨w.heap.size+1+1,1,none⟩=some (.slice none 0 0):=by rw[hc1 _ _ l0''];exact r1
 have p2_w:w1.cell? ⟨w.heap.size,2,none⟩=some (.slice A2 n2 c2):=by rw[hc1 _ _ l0];exact p2
 have p3_w:w1.cell? ⟨w.heap.size,3,none⟩=some (.slice A3 n3 c3):=by rw[hc1 _ _ l0];exact p3
 have HU1:=Lib.hid hU1;clear hU1 e1 hc1 hf1 q0 s0 r0 t0 q1 s1 r1 t1 q2 s2 r2 t2 q3 s3 r3 t3;go_wp2_with fail;rw[<-HU1.out];clear t1_w r1_w p2_w p3_w;refine(zqj _ _ _ _ _ y2_1 (by omega)).mono ?_;rintro e w2 ⟨A2',n2',c2',rfl,o2_1,b2⟩;obtain⟨hc2,hf2⟩:=zan b2;obtain⟨U2,hU2⟩:∃U,U=w2.setCell ⟨w.heap.size+1+1,2,none⟩ (.slice A2' n2' c2'):=⟨_,rfl⟩;have m2:Mid (w.heap.size+1+1) (w.heap.size+1+1+1) w2 U2:=by rw[hU2];exact Mid.of_grown (zaz w2 (w.heap.size+1+1) 2 _) fun k hk=>by injection hk with hk;omega
 have e2:U2.heap.size=w2.heap.size:=by rw[hU2];simp
 have E2:=Lib.hid e2;have sz2:U1.heap.size<=U2.heap.size:=by rw[e2];exact b2.size
 have BU2:Below (w.heap.size+1+1) w2 U2:=m2.toBelow (by omega);have B2:Below w.heap.size w U2:=(zaa B1 b2).trans (BU2.mono (by omega));have l2:=Nat.lt_of_lt_of_le l1 sz2;have l2':=Nat.lt_of_lt_of_le l1' sz2;have l2'':=Nat.lt_of_lt_of_le l1'' sz2;have Z2:=Nat.le_trans Z1 sz2;have o2_2:tNS.O U2 (Iv U1.heap.size U2.heap.size) [.slice A2' n2' c2'] x2:=tNS.oiv (tNS.omid o2_1 m2 (.inr (by omega)) (Nat.le_refl _)) (Nat.le_refl _) (by omega);have o1_2:=tSS.omid (tSS.obelow o1_1 b2 (by omega)) m2 (.inr (by omega)) (by omega);have y3_2:tS.R U2 U2.heap.size [.slice A3 n3 c3] x3:=tS.later h3 B2;have q0_2:U2.cell? ⟨w.heap.size+1,0,none⟩=some (.int .i64 0):=by rw[BU2.cell (by show w.heap.size+1<_;omega),b2.cell (by show w.heap.size+1<_;omega)];exact q0_1
 have s0_2:U2.frozen? ⟨w.heap.size+1,0,none⟩=false:=by rw[BU2.frozen (by show w.heap.size+1<_;omega),b2.frozen (by show w.heap.size+1<_;omega)];exact s0_1
 have r0_2:U2.cell? ⟨w.heap.size+1+1,0,none⟩=some (.int .i64 a0):=by rw[hU2];simp[go_sem,hc2,l1'',r0_1]
 have t0_2:U2.frozen? ⟨w.heap.size+1+1,0,none⟩=false:=by rw[hU2];simp[go_sem,hf2,l1'',t0_1]
 have q1_2:U2.cell? ⟨w.heap.size+1,1,none⟩=some (.slice none 0 0):=by rw[BU2.cell (by show w.heap.size+1<_;omega),b2.cell (by show w.heap.size+1<_;omega)];exact q1_1
 have s1_2:U2.frozen? ⟨w.heap.size+1,1,none⟩=false:=by rw[BU2.frozen (by show w.heap.size+1<_;omega),b2.frozen (by show w.heap.size+1<_;omega)];exact s1_1
 have r1_2:U2.cell? ⟨w.heap.size+1+1,1,none⟩=some (.slice A1' n1' c1'):=by rw[hU2];simp[go_sem,hc2,l1'',r1_1]
 have t1_2:U2.frozen? ⟨w.heap.size+1+1,1,none⟩=false:=by rw[hU2];simp[go_sem,hf2,l1'',t1_1]
 have q2_2:U2.cell? ⟨w.heap.size+1,2,none⟩=some (.slice none 0 0):=by rw[BU2.cell (by show w.heap.size+1<_;omega),b2.cell (by show w.heap.size+1<_;omega)];exact q2_1
 have s2_2:U2.frozen? ⟨w.heap.size+1,2,none⟩=false:=by rw[BU2.frozen (by show w.heap.size+1<_;omega),b2.frozen (by show w.heap.size+1<_;omega)];exact s2_1
 have r2_2:U2.cell? ⟨w.heap.size+1+1,2,none⟩=some (.slice A2' n2' c2'):=by rw[hU2];simp[go_sem,hc2,l1'',r2_1]
 have t2_2:U2.frozen? ⟨w.heap.size+1+1,2,none⟩=false:=by rw[hU2];simp[go_sem,hf2,l1'',t2_1]
 have p3_2:U2.cell? ⟨w.heap.size,3,none⟩=some (.slice A3 n3 c3):=by rw[BU2.cell (by show w.heap.size<_;omega),b2.cell (by show w.heap.size<_;omega)];exact p3_1
 have q3_2:U2.cell? ⟨w.heap.size+1,3,none⟩=some (.slice none 0 0):=by rw[BU2.cell (by show w.heap.size+1<_;omega),b2.cell (by show w.heap.size+1<_;omega)];exact q3_1
 have s3_2:U2.frozen? ⟨w.heap.size+1,3,none⟩=false:=by rw[BU2.frozen (by show w.heap.size+1<_;omega),b2.frozen (by show w.heap.size+1<_;omega)];exact s3_1
 have r3_2:U2.cell? ⟨w.heap.size+1+1,3,none⟩=some (.slice none 0 0):=by rw[hU2];simp[go_sem,hc2,l1'',r3_1]
 have t3_2:U2.frozen? ⟨w.heap.size+1+1,3,none⟩=false:=by rw[hU2];simp[go_sem,hf2,l1'',t3_1]
 have t2_w:w2.frozen? ⟨w.heap.size+1+1,2,none⟩=false:=by rw[hf2 _ _ l1''];exact t2_1
 have r2_w:w2.cell? ⟨w.heap.size+1+1,2,none⟩=some (.slice none 0 0):=by rw[hc2 _ _ l1''];exact r2_1
 have p3_w:w2.cell? ⟨w.heap.size,3,none⟩=some (.slice A3 n3 c3):=by rw[hc2 _ _ l1];exact p3_1
 have HU2:=Lib.hid hU2;clear hU2 e2 hc2 hf2 q0_1 s0_1 r0_1 t0_1 q1_1 s1_1 r1_1 t1_1 q2_1 s2_1 r2_1 t2_1 q3_1 s3_1 r3_1 t3_1;go_wp2_with fail;rw[<-HU2.out];clear t2_w r2_w p3_w;refine(zg4 _ _ _ _ _ y3_2 (by omega)).mono ?_;rintro e w3 ⟨A3',n3',c3',rfl,o3_2,b3⟩;obtain⟨hc3,hf3⟩:=zan b3;obtain⟨U3,hU3⟩:∃U,U=w3.setCell ⟨w.heap.size+1+1,3,none⟩ (.slice A3' n3' c3'):=⟨_,rfl⟩;have m3:Mid (w.heap.size+1+1) (w.heap.size+1+1+1) w3 U3:=by rw[hU3];exact Mid.of_grown (zaz w3 (w.heap.size+1+1) 3 _) fun k hk=>by injection hk with hk;omega
 have e3:U3.heap.size=w3.heap.size:=by rw[hU3];simp
 have E3:=Lib.hid e3;have sz3:U2.heap.size<=U3.heap.size:=by rw[e3];exact b3.size
 have BU3:Below (w.heap.size+1+1) w3 U3:=m3.toBelow (by omega);have B3:Below w.heap.size w U3:=(zaa B2 b3).trans (BU3.mono (by omega));have l3:=Nat.lt_of_lt_of_le l2 sz3;have l3':=Nat.lt_of_lt_of_le l2' sz3;have l3'':=Nat.lt_of_lt_of_le l2'' sz3;have Z3:=Nat.le_trans Z2 sz3;have o3_3:tS.O U3 (Iv U2.heap.size U3.heap.size) [.slice A3' n3' c3'] x3:=tS.oiv (tS.omid o3_2 m3 (.inr (by omega)) (Nat.le_refl _)) (Nat.le_refl _) (by omega);have o1_3:=tSS.omid (tSS.obelow o1_2 b3 (by omega)) m3 (.inr (by omega)) (by omega);have o2_3:=tNS.omid (tNS.obelow o2_2 b3 (by omega)) m3 (.inr (by omega)) (by omega);have q0_3:U3.cell? ⟨w.heap.size+1,0,none⟩=some (.int .i64 0):=by rw[BU3.cell (by show w.heap.size+1<_;omega),b3.cell (by show w.heap.size+1<_;omega)];exact q0_2
 have s0_3:U3.frozen? ⟨w.heap.size+1,0,none⟩=false:=by rw[BU3.frozen (by show w.heap.size+1<_;omega),b3.frozen (by show w.heap.size+1<_;omega)];exact s0_2
 have r0_3:U3.cell? ⟨w.heap.size+1+1,0,none⟩=some (.int .i64 a0):=by rw[hU3];simp[go_sem,hc3,l2'',r0_2]
 have t0_3:U3.frozen? ⟨w.heap.size+1+1,0,none⟩=false:=by rw[hU3];simp[go_sem,hf3,l2'',t0_2]
 have q1_3:U3.cell? ⟨w.heap.size+1,1,none⟩=some (.slice none 0 0):=by rw[BU3.cell (by show w.heap.size+1<_;omega),b3.cell (by show w.heap.size+1<_;omega)];exact q1_2
 have s1_3:U3.frozen? ⟨w.heap.size+1,1,none⟩=false:=by rw[BU3.frozen (by show w.heap.size+1<_;omega),b3.frozen (by show w.heap.size+1<_;omega)];exact s1_2
 have r1_3:U3.cell? ⟨w.heap.size+1+1,1,none⟩=some (.slice A1' n1' c1'):=by rw[hU3];simp[go_sem,hc3,l2'',r1_2]
 have t1_3:U3.frozen? ⟨w.heap.size+1+1,1,none⟩=false:=by rw[hU3];simp[go_sem,hf3,l2'',t1_2]
 have q2_3:U3.cell? ⟨w.heap.size+1,2,none⟩=some (.slice none 0 0):=by rw[BU3.cell (by show w.heap.size+1<_;omega),b3.cell (by show w.heap.size+1<_;omega)];exact q2_2
 have s2_3:U3.frozen? ⟨w.heap.size+1,2,none⟩=false:=by rw[BU3.frozen (by show w.heap.size+1<_;omega),b3.frozen (by show w.heap.size+1<_;omega)];exact s2_2
 have r2_3:U3.cell? ⟨w.heap.size+1+1,2,none⟩=some (.slice A2' n2' c2'):=by rw[hU3];simp[go_sem,hc3,l2'',r2_2]
 have t2_3:U3.frozen? ⟨w.heap.size+1+1,2,none⟩=false:=by rw[hU3];simp[go_sem,hf3,l2'',t2_2]
 have q3_3:U3.cell? ⟨w.heap.size+1,3,none⟩=some (.slice none 0 0):=by rw[BU3.cell (by show w.heap.size+1<_;omega),b3.cell (by show w.heap.size+1<_;omega)];exact q3_2
 have s3_3:U3.frozen? ⟨w.heap.size+1,3,none⟩=false:=by rw[BU3.frozen (by show w.heap.size+1<_;omega),b3.frozen (by show w.heap.size+1<_;omega)];exact s3_2
 have r3_3:U3.cell? ⟨w.heap.size+1+1,3,none⟩=some (.slice A3' n3' c3'):=by rw[hU3];simp[go_sem,hc3,l2'',r3_2]
 have t3_3:U3.frozen? ⟨w.heap.size+1+1,3,none⟩=false:=by rw[hU3];simp[go_sem,hf3,l2'',t3_2]
 have t0_w:w3.frozen? ⟨w.heap.size+1+1,0,none⟩=false:=by rw[hf3 _ _ l2''];exact t0_2
 have s0_w:w3.frozen? ⟨w.heap.size+1,0,none⟩=false:=by rw[hf3 _ _ l2'];exact s0_2
 have q0_w:w3.cell? ⟨w.heap.size+1,0,none⟩=some (.int .i64 0):=by rw[hc3 _ _ l2'];exact q0_2
 have r0_w:w3.cell? ⟨w.heap.size+1+1,0,none⟩=some (.int .i64 a0):=by rw[hc3 _ _ l2''];exact r0_2
 have t1_w:w3.frozen? ⟨w.heap.size+1+1,1,none⟩=false:=by rw[hf3 _ _ l2''];exact t1_2
 have s1_w:w3.frozen? ⟨w.heap.size+1,1,none⟩=false:=by rw[hf3 _ _ l2'];exact s1_2
 have q1_w:w3.cell? ⟨w.heap.size+1,1,none⟩=some (.slice none 0 0):=by rw[hc3 _ _ l2'];exact q1_2
 have r1_w:w3.cell? ⟨w.heap.size+1+1,1,none⟩=some (.slice A1' n1' c1'):=by rw[hc3 _ _ l2''];exact r1_2
 have t2_w:w3.frozen? ⟨w.heap.size+1+1,2,none⟩=false:=by rw[hf3 _ _ l2''];exact t2_2
 have s2_w:w3.frozen? ⟨w.heap.size+1,2,none⟩=false:=by rw[hf3 _ _ l2'];exact s2_2
 have q2_w:w3.cell? ⟨w.heap.size+1,2,none⟩=some (.slice none 0 0):=by rw[hc3 _ _ l2'];exact q2_2
 have r2_w:w3.cell? ⟨w.heap.size+1+1,2,none⟩=some (.slice A2' n2' c2'):=by rw[hc3 _ _ l2''];exact r2_2
 have t3_w:w3.frozen? ⟨w.heap.size+1+1,3,none⟩=false:=by rw[hf3 _ _ l2''];exact t3_2
 have s3_w:w3.frozen? ⟨w.heap.size+1,3,none⟩=false:=by rw[hf3 _ _ l2'];exact s3_2
 have q3_w:w3.cell? ⟨w.heap.size+1,3,none⟩=some (.slice none 0 0):=by rw[hc3 _ _ l2'];exact q3_2
 have r3_w:w3.cell? ⟨w.heap.size+1+1,3,none⟩=some (.slice none 0 0):=by rw[hc3 _ _ l2''];exact r3_2
 have HU3:=Lib.hid hU3;clear hU3 e3 hc3 hf3 q0_2 s0_2 r0_2 t0_2 q1_2 s1_2 r1_2 t1_2 q2_2 s2_2 r2_2 t2_2 q3_2 s3_2 r3_2 t3_2;go_wp2;rw[<-HU3.out];clear t0_w r0_w s0_w q0_w t1_w r1_w s1_w q1_w t2_w r2_w s2_w q2_w t3_w r3_w s3_w q3_w;have mm:Mid (w.heap.size+1) (w.heap.size+1+1) U3 ((((U3.setCell ⟨w.heap.size+1,0,none⟩ (.int .i64 a0)).setCell ⟨w.heap.size+1,1,none⟩ (.slice A1' n1' c1')).setCell ⟨w.heap.size+1,2,none⟩ (.slice A2' n2' c2')).setCell ⟨w.heap.size+1,3,none⟩ (.slice A3' n3' c3')):=((((Mid.of_grown (zaz _ (w.heap.size+1) 0 _) fun k hk=>by injection hk with hk;omega).trans (Mid.of_grown (zaz _ (w.heap.size+1) 1 _) fun k hk=>by injection hk with hk;omega)).trans (Mid.of_grown (zaz _ (w.heap.size+1) 2 _) fun k hk=>by injection hk with hk;omega)).trans (Mid.of_grown (zaz _ (w.heap.size+1) 3 _) fun k hk=>by injection hk with hk;omega));refine bodyPost_ret (v:=.agg #[.int .i64 a0,.slice A1' n1' c1',.slice A2' n2' c2',.slice A3' n3' c3']) (by simp[results,Tryz.results78,go_sem,q0_3,s0_3,r0_3,q1_3,s1_3,r1_3,q2_3,s2_3,r2_3,q3_3,s3_3,r3_3]) rfl ?_;refine⟨A1',n1',c1',A2',n2',c2',A3',n3',c3',rfl,tP_O.2 ⟨A1',n1',c1',A2',n2',c2',A3',n3',c3',Iv W.heap.size U1.heap.size,Iv U1.heap.size U2.heap.size,Iv U2.heap.size U3.heap.size,rfl,tSS.omid o1_3 mm (.inr (by omega)) (by omega),tNS.omid o2_3 mm (.inr (by omega)) (by omega),tS.omid o3_3 mm (.inr (by omega)) (by omega),fun b h=>⟨by have:=h.1;omega,Nat.lt_of_lt_of_le (Nat.lt_of_lt_of_le h.2 (by omega)) mm.size⟩,fun b h=>⟨by have:=h.1;omega,Nat.lt_of_lt_of_le (Nat.lt_of_lt_of_le h.2 (by omega)) mm.size⟩,fun b h=>⟨by have:=h.1;omega,Nat.lt_of_lt_of_le (Nat.lt_of_lt_of_le h.2 (by omega)) mm.size⟩,fun b h h2=>by have:=h.2;have:=h2.1;omega,fun b h h2=>by have:=h.2;have:=h2.1;omega,fun b h h2=>by have:=h.2;have:=h2.1;omega⟩,?_⟩;exact B3.trans ((mm.toBelow (by omega)).mono (by omega))
end Go.Proofs.YtifeldeikhmckaaGreat
