import Derived.Test.YtifeldeikhmckaaGreatFnExactOptimizeSessionG10
import Derived.Test.YtifeldeikhmckaaGreatFnExactOptimizeSessionG37
import Derived.Test.YtifeldeikhmckaaGreatFnExactOptimizeSessionG11
import Derived.Test.YtifeldeikhmckaaGreatFnExactOptimizeSessionG7
import Derived.Test.YtifeldeikhmckaaGreatFnExactOptimizeSessionG29
import Derived.Test.YtifeldeikhmckaaGreatFnExactOptimizeSessionG35
import Derived.Test.YtifeldeikhmckaaGreatFnExactOptimizeSessionG36
set_option linter.unusedVariables false
set_option linter.unusedSimpArgs false
set_option maxRecDepth 100000
set_option maxHeartbeats 4000000
namespace Go.Proofs.YtifeldeikhmckaaGreat
open Go.RowKit Go.Sort
theorem zvs(A:Yo)(n c:Nat)(k:Int)(xs:List zad)(w:Yw)(F:Nat->Prop)(hx:tPS.O w F [.slice A n c] xs)(hk:0<=k/\k+(hPS.cnt xs:Int)<=1000000000):
 Calls Tryz.prog 46 #[.slice A n c,.int .i64 k] w fun e w'=>e=.returned (.int .i64 (k+hPS.cnt xs))/\tPS.O w' F [.slice A n c] (hPS.mark k xs)/\Chg F w w':=by
 have ow:=sl_O.1 hx;have hcap:=ow.read.cap;obtain rfl:xs.length=n:=hcap.1;have hl:xs.length<=9223372036854775807:=by have h1:=hcap.2;unfold maxLen at h1;omega
 clear hcap;have hcn:k+(hP.cntL xs:Int)<=1000000000:=hk.2;clear hx
 go_enter Tryz.func46,Tryz.ntmps46
 go_wp2
 go_loopw [1,5] (fun q i wr=>∃j:Nat,i=.int .i64 j/\j<=xs.length/\q=.int .i64 (k+(hP.cntL (xs.take j):Int))/\OS tP 67 wr F (.slice A xs.length c) ((hP.mkL k xs).take j++xs.drop j)/\Chg F w wr)
  (fun _ i _=>xs.length-(intOf i).toNat)
 case atStart=>exact⟨0,rfl,by omega,by simp[Hs.cntL],by simpa using ow,Chg.refl _ _⟩
 case round=>
  obtain⟨j,rfl,hj,rfl,own,hg⟩:=hrel
  by_cases hlt:j<xs.length
  ·have hml:=Lib.hid (hP.mkL_len k xs);have hX:=Lib.hid (List.getElem?_eq_getElem hlt);have hc1:=hP.cntL_at hX.out;have hct2:=Lib.hid (hP.cntL_take hX.out);have hmk:=Lib.hid (hP.mkL_at k hX.out);generalize xs[j]=x at hX hc1 hct2 hmk;obtain⟨a0,x1,x2,x3⟩:=x;rw[zgi]at hc1;generalize hK:k+(hP.cntL (xs.take j):Int)=K at hmk ⊢;have HK:=Lib.hid hK;have hK0:0<=K/\K+((1+hSS.cnt x1+hNS.cnt x2+hS.cnt x3:Nat):Int)<=1000000000:=(by omega);clear hK;have hyj:=Lib.hid (show ((hP.mkL k xs).take j++xs.drop j)[j]?=some ((a0,x1,x2,x3):zad)by rw[M.mid_at hml.out];exact hX.out);obtain⟨css,Fs,hole,cs,hcs,hE⟩:=own.openAt hyj.out;obtain⟨A1,n1,c1,A2,n2,c2,A3,n3,c3,F1,F2,F3,rfl,o1_0,o2_0,o3_0,t1,t2,t3,r1_2,r1_3,r2_3⟩:=tP_O.1 hE;obtain⟨g,rfl,hFg,hFn,hgl,-⟩:=hole.form (List.getElem?_eq_some_iff.1 hyj.out).1;have q0:wr.cell? ⟨g,j*4+0,none⟩=some _:=(hole.cell hcs (j:=0) rfl).1;have r0:wr.frozen? ⟨g,j*4+0,none⟩=false:=(hole.cell hcs (j:=0) rfl).2;have q1:wr.cell? ⟨g,j*4+1,none⟩=some _:=(hole.cell hcs (j:=1) rfl).1;have q2:wr.cell? ⟨g,j*4+2,none⟩=some _:=(hole.cell hcs (j:=2) rfl).1;have q3:wr.cell? ⟨g,j*4+3,none⟩=some _:=(hole.cell hcs (j:=3) rfl).1;rw[Nat.add_zero]at q0 r0;go_wp2_with fail;obtain⟨U1,hU⟩:∃U,U=(wr.setCell ⟨g,j*4,none⟩ (.int .i64 (K))):=⟨_,rfl⟩;rw[<-hU];have s0_0:=hole.set hcs 0 (by decide) (.int .i64 (K));have hole1:=OH.at s0_0.1 hU;have hcs1:=s0_0.2;have ch0u:Chg F wr U1:=(by rw[hU];exact Chg.set _ g (j*4) _ hFg);have o1_1:tSS.O U1 F1 [.slice A1 n1 c1] _:=tSS.okeep (fun b hb=>by rw[hU];exact heap_setCell_other _ ⟨g,j*4,none⟩ b _ (fun e=>hFn (by simp only at e;rw[<-e];exact t1 b hb))) o1_0;have o2_1:tNS.O U1 F2 [.slice A2 n2 c2] _:=tNS.okeep (fun b hb=>by rw[hU];exact heap_setCell_other _ ⟨g,j*4,none⟩ b _ (fun e=>hFn (by simp only at e;rw[<-e];exact t2 b hb))) o2_0;have o3_1:tS.O U1 F3 [.slice A3 n3 c3] _:=tS.okeep (fun b hb=>by rw[hU];exact heap_setCell_other _ ⟨g,j*4,none⟩ b _ (fun e=>hFn (by simp only at e;rw[<-e];exact t3 b hb))) o3_0;clear hU;have q0_u0:U1.cell? ⟨g,j*4+0,none⟩=some _:=(hole1.cell hcs1 (j:=0) rfl).1;have r0_u0:U1.frozen? ⟨g,j*4+0,none⟩=false:=(hole1.cell hcs1 (j:=0) rfl).2;have q1_u0:U1.cell? ⟨g,j*4+1,none⟩=some _:=(hole1.cell hcs1 (j:=1) rfl).1;have q2_u0:U1.cell? ⟨g,j*4+2,none⟩=some _:=(hole1.cell hcs1 (j:=2) rfl).1;have q3_u0:U1.cell? ⟨g,j*4+3,none⟩=some _:=(hole1.cell hcs1 (j:=3) rfl).1;rw[Nat.add_zero]at q0_u0 r0_u0;replace hg:=hg.trans ch0u;refine(zj8 _ _ _ _ _ _ F1 o1_1 (by omega)).mono ?_;rintro e v1 ⟨rfl,o1_n,ch0⟩;have ch0w:=ch0.wide t1;have o2_2:=tNS.ochg o2_1 ch0 (fun b h h2=>r1_2 b h2 h);have o3_2:=tS.ochg o3_1 ch0 (fun b h h2=>r1_3 b h2 h);have o1_2:=o1_n;have hole1b:=hole1.chg ch0w;replace hg:=hg.trans (ch0w.wide hole1.fits);have q0_v0:v1.cell? ⟨g,j*4+0,none⟩=some _:=(hole1b.cell hcs1 (j:=0) rfl).1;have r0_v0:v1.frozen? ⟨g,j*4+0,none⟩=false:=(hole1b.cell hcs1 (j:=0) rfl).2;have q1_v0:v1.cell? ⟨g,j*4+1,none⟩=some _:=(hole1b.cell hcs1 (j:=1) rfl).1;have q2_v0:v1.cell? ⟨g,j*4+2,none⟩=some _:=(hole1b.cell hcs1 (j:=2) rfl).1;have q3_v0:v1.cell? ⟨g,j*4+3,none⟩=some _:=(hole1b.cell hcs1 (j:=3) rfl).1;rw[Nat.add_zero]at q0_v0 r0_v0;go_wp2_with fail;refine(zvq _ _ _ _ _ _ F2 o2_2 (by omega)).mono ?_;rintro e v2 ⟨rfl,o2_n,ch1⟩;have ch1w:=ch1.wide t2;have o1_3:=tSS.ochg o1_2 ch1 r1_2;have o3_3:=tS.ochg o3_2 ch1 (fun b h h2=>r2_3 b h2 h);have o2_3:=o2_n;have hole2b:=hole1b.chg ch1w;replace hg:=hg.trans (ch1w.wide hole1b.fits);have q0_v1:v2.cell? ⟨g,j*4+0,none⟩=some _:=(hole2b.cell hcs1 (j:=0) rfl).1;have r0_v1:v2.frozen? ⟨g,j*4+0,none⟩=false:=(hole2b.cell hcs1 (j:=0) rfl).2;have q1_v1:v2.cell? ⟨g,j*4+1,none⟩=some _:=(hole2b.cell hcs1 (j:=1) rfl).1;have q2_v1:v2.cell? ⟨g,j*4+2,none⟩=some _:=(hole2b.cell hcs1 (j:=2) rfl).1;have q3_v1:v2.cell? ⟨g,j*4+3,none⟩=some _:=(hole2b.cell hcs1 (j:=3) rfl).1;rw[Nat.add_zero]at q0_v1 r0_v1;go_wp2_with fail;refine(zg6 _ _ _ _ _ _ F3 o3_3 (by omega)).mono ?_;rintro e v3 ⟨rfl,o3_n,ch2⟩;have ch2w:=ch2.wide t3;have o1_4:=tSS.ochg o1_3 ch2 r1_3;have o2_4:=tNS.ochg o2_3 ch2 r2_3;have o3_4:=o3_n;have hole3b:=hole2b.chg ch2w
   replace hg:=hg.trans (ch2w.wide hole2b.fits);go_wp2;go_roundw
   case rel=>
    have h3:=hole3b.fill hcs1 (y:=((K,hSS.mark (K+1) x1,hNS.mark (K+1+hSS.cnt x1) x2,hS.mark (K+1+hSS.cnt x1+hNS.cnt x2) x3):zad)) (tP_O.2 ⟨A1,n1,c1,A2,n2,c2,A3,n3,c3,F1,F2,F3,rfl,o1_4,o2_4,o3_4,t1,t2,t3,r1_2,r1_3,r2_3⟩);have hmk2:(hP.mkL k xs)[j]?=some ((K,hSS.mark (K+1) x1,hNS.mark (K+1+hSS.cnt x1) x2,hS.mark (K+1+hSS.cnt x1+hNS.cnt x2) x3):zad):=hmk.out;rw[M.set_mid hml.out hmk2]at h3;exact⟨j+1,by go_num,by omega,by rw[hct2.out,zgi];have:=HK.out;subst this;go_num,h3,hg⟩
   case measure=>simp[intOf];omega
  obtain rfl:xs.length=j:=by omega
  go_wp2;go_ret;rw[List.take_of_length_le (by rw[Hs.mkL_len];omega),List.drop_eq_nil_of_le (by omega),List.append_nil]at own;exact⟨by rw[List.take_of_length_le (Nat.le_refl _)];rfl,sl_O.2 own,hg⟩
theorem zvt(A:Yo)(n c:Nat)(k:Int)(xs:List zad)(w:Yw)(hx:tPS.R w w.heap.size [.slice A n c] (hPS.mark k xs))(hk:0<=k/\k+(hPS.cnt xs:Int)<=1000000000):
 Calls Tryz.prog 51 #[.slice A n c,.int .i64 k] w fun e w'=>e=.returned (.int .i64 (k+hPS.cnt xs))/\Below w.heap.size w w':=by
 have hr:RS tP w w.heap.size (.slice A n c) (hP.mkL k xs):=sl_R.1 hx;obtain rfl:xs.length=n:=by rw[<-hr.cap.1,Hs.mkL_len]
 have hl:xs.length<=9223372036854775807:=by have h1:=hr.cap.2;unfold maxLen at h1;omega
 have hcn:k+(hP.cntL xs:Int)<=1000000000:=hk.2;have hml:=Lib.hid (hP.mkL_len k xs);clear hx
 go_enter Tryz.func51,Tryz.ntmps51
 go_wp2
 go_loopw [1,5] (fun q i wr=>∃j:Nat,i=.int .i64 j/\j<=xs.length/\q=.int .i64 (k+(hP.cntL (xs.take j):Int))/\Below w.heap.size w wr) (fun _ i _=>xs.length-(intOf i).toNat)
 case atStart=>exact⟨0,rfl,by omega,by simp[Hs.cntL],Below.refl _ _⟩
 case round=>
  obtain⟨j,rfl,hj,rfl,hb⟩:=hrel
  by_cases hlt:j<xs.length
  ·have hX:=Lib.hid (List.getElem?_eq_getElem hlt);have hmk:=hP.mkL_at k hX.out;obtain⟨b,o,c1,cs,hv,hab,-,hE,hc⟩:=(hr.below hb).atX hmk;simp only[Value.slice.injEq]at hv;obtain⟨rfl,-,-⟩:=hv;have hc1:=hP.cntL_at hX.out;have hct2:=Lib.hid (hP.cntL_take hX.out);clear hmk;generalize xs[j]=x at hX hE hc1 hct2;obtain⟨a0,x1,x2,x3⟩:=x;rw[zgi]at hc1;generalize hK:k+(hP.cntL (xs.take j):Int)=K at hE ⊢;have HK:=Lib.hid hK;have hK0:0<=K/\K+((1+hSS.cnt x1+hNS.cnt x2+hS.cnt x3:Nat):Int)<=1000000000:=(by omega);clear hK;replace hE:tP.R wr w.heap.size cs (K,hSS.mark (K+1) x1,hNS.mark (K+1+hSS.cnt x1) x2,hS.mark (K+1+hSS.cnt x1+hNS.cnt x2) x3):=hE;obtain⟨A1,n1,c1,A2,n2,c2,A3,n3,c3,rfl,e1,e2,e3⟩:=tP_R.1 hE;have ec0:wr.cell? ⟨b,o+j*4,none⟩=some (.int .i64 (K)):=hc 0 _ rfl;have ec1:wr.cell? ⟨b,o+j*4+1,none⟩=some (.slice A1 n1 c1):=hc 1 _ rfl;have ec2:wr.cell? ⟨b,o+j*4+2,none⟩=some (.slice A2 n2 c2):=hc 2 _ rfl;have ec3:wr.cell? ⟨b,o+j*4+3,none⟩=some (.slice A3 n3 c3):=hc 3 _ rfl;have y1_0:=tSS.more hb.size e1;have y2_0:=tNS.more hb.size e2;have y3_0:=tS.more hb.size e3;have hbr:b<wr.heap.size:=Nat.lt_of_lt_of_le hab hb.size;clear hc hE;go_wp2_with fail;refine(zj9 _ _ _ _ _ _ y1_0 (by omega)).mono ?_;rintro e v1 ⟨rfl,b1⟩;obtain⟨hc1,-⟩:=zan b1;have hbr1:=Nat.lt_of_lt_of_le hbr b1.size;replace hb:=hb.trans (b1.mono hb.size);have y2_1:=tNS.later y2_0 b1;have y3_1:=tS.later y3_0 b1;go_wp2_with fail;refine(zvr _ _ _ _ _ _ y2_1 (by omega)).mono ?_;rintro e v2 ⟨rfl,b2⟩;obtain⟨hc2,-⟩:=zan b2;have hbr2:=Nat.lt_of_lt_of_le hbr1 b2.size;replace hb:=hb.trans (b2.mono hb.size);have y3_2:=tS.later y3_1 b2;go_wp2_with fail;refine(zg7 _ _ _ _ _ _ y3_2 (by omega)).mono ?_;rintro e v3 ⟨rfl,b3⟩;obtain⟨hc3,-⟩:=zan b3;have hbr3:=Nat.lt_of_lt_of_le hbr2 b3.size;replace hb:=hb.trans (b3.mono hb.size);go_wp2;go_roundw
   case rel=>exact⟨j+1,by go_num,by omega,by rw[hct2.out,zgi];have:=HK.out;subst this;go_num,hb⟩
   case measure=>simp[intOf];omega
  obtain rfl:xs.length=j:=by omega
  go_wp2;go_ret;exact⟨by rw[List.take_of_length_le (Nat.le_refl _)];rfl,hb⟩
theorem zvu(A:Yo)(n c:Nat)(k:Int)(xs:List (List zas))(w:Yw)(F:Nat->Prop)(hx:tTS.O w F [.slice A n c] xs)(hk:0<=k/\k+(hTS.cnt xs:Int)<=1000000000):
 Calls Tryz.prog 44 #[.slice A n c,.int .i64 k] w fun e w'=>e=.returned (.int .i64 (k+hTS.cnt xs))/\tTS.O w' F [.slice A n c] (hTS.mark k xs)/\Chg F w w':=by
 have ow:=sl_O.1 hx;have hcap:=ow.read.cap;obtain rfl:xs.length=n:=hcap.1;have hl:xs.length<=9223372036854775807:=by have h1:=hcap.2;unfold maxLen at h1;omega
 clear hcap;have hcn:k+(hT.cntL xs:Int)<=1000000000:=hk.2;clear hx
 go_enter Tryz.func44,Tryz.ntmps44
 go_wp2
 go_loopw [1,5] (fun q i wr=>∃j:Nat,i=.int .i64 j/\j<=xs.length/\q=.int .i64 (k+(hT.cntL (xs.take j):Int))/\OS tT 98 wr F (.slice A xs.length c) ((hT.mkL k xs).take j++xs.drop j)/\Chg F w wr)
  (fun _ i _=>xs.length-(intOf i).toNat)
 case atStart=>exact⟨0,rfl,by omega,by simp[Hs.cntL],by simpa using ow,Chg.refl _ _⟩
 case round=>
  obtain⟨j,rfl,hj,rfl,own,hg⟩:=hrel
  by_cases hlt:j<xs.length
  ·have hml:=Lib.hid (hT.mkL_len k xs);have hX:=Lib.hid (List.getElem?_eq_getElem hlt);have hc1:=hT.cntL_at hX.out;have hct2:=Lib.hid (hT.cntL_take hX.out);have hmk:=Lib.hid (hT.mkL_at k hX.out);generalize xs[j]=x at hX hc1 hct2 hmk;generalize hK:k+(hT.cntL (xs.take j):Int)=K at hmk ⊢;have HK:=Lib.hid hK;have hK0:0<=K/\K+(hT.cnt x:Int)<=1000000000:=(by omega);clear hK;have hyj:=Lib.hid (show ((hT.mkL k xs).take j++xs.drop j)[j]?=some x by rw[M.mid_at hml.out];exact hX.out);obtain⟨css,Fs,hole,cs,hcs,hE⟩:=own.openAt hyj.out;obtain⟨A0,n0,c0,rfl⟩:=za9 (tT.read hE);have o0_0:=hE;obtain⟨g,rfl,hFg,hFn,hgl,-⟩:=hole.form (List.getElem?_eq_some_iff.1 hyj.out).1;have q0:wr.cell? ⟨g,j*1+0,none⟩=some _:=(hole.cell hcs (j:=0) rfl).1;rw[Nat.add_zero,Nat.mul_one]at q0;go_wp2_with fail;refine(zo7 _ _ _ _ _ _ (Fs j) o0_0 (by omega)).mono ?_;rintro e v1 ⟨rfl,o0_n,ch0⟩;have ch0w:=ch0;have hole1b:=hole.chg ch0w;replace hg:=hg.trans (ch0w.wide hole.fits);go_wp2;go_roundw
   case rel=>
    have h3:=hole1b.fill hcs o0_n;have hmk2:(hT.mkL k xs)[j]?=some (hT.mark K x):=hmk.out;rw[M.set_mid hml.out hmk2]at h3;exact⟨j+1,by go_num,by omega,by rw[hct2.out];have:=HK.out;subst this;go_num,h3,hg⟩
   case measure=>simp[intOf];omega
  obtain rfl:xs.length=j:=by omega
  go_wp2;go_ret;rw[List.take_of_length_le (by rw[Hs.mkL_len];omega),List.drop_eq_nil_of_le (by omega),List.append_nil]at own;exact⟨by rw[List.take_of_length_le (Nat.le_refl _)];rfl,sl_O.2 own,hg⟩
theorem zvv(A:Yo)(n c:Nat)(k:Int)(xs:List (List zas))(w:Yw)(hx:tTS.R w w.heap.size [.slice A n c] (hTS.mark k xs))(hk:0<=k/\k+(hTS.cnt xs:Int)<=1000000000):
 Calls Tryz.prog 49 #[.slice A n c,.int .i64 k] w fun e w'=>e=.returned (.int .i64 (k+hTS.cnt xs))/\Below w.heap.size w w':=by
 have hr:RS tT w w.heap.size (.slice A n c) (hT.mkL k xs):=sl_R.1 hx;obtain rfl:xs.length=n:=by rw[<-hr.cap.1,Hs.mkL_len]
 have hl:xs.length<=9223372036854775807:=by have h1:=hr.cap.2;unfold maxLen at h1;omega
 have hcn:k+(hT.cntL xs:Int)<=1000000000:=hk.2;have hml:=Lib.hid (hT.mkL_len k xs);clear hx
 go_enter Tryz.func49,Tryz.ntmps49
 go_wp2
 go_loopw [1,5] (fun q i wr=>∃j:Nat,i=.int .i64 j/\j<=xs.length/\q=.int .i64 (k+(hT.cntL (xs.take j):Int))/\Below w.heap.size w wr) (fun _ i _=>xs.length-(intOf i).toNat)
 case atStart=>exact⟨0,rfl,by omega,by simp[Hs.cntL],Below.refl _ _⟩
 case round=>
  obtain⟨j,rfl,hj,rfl,hb⟩:=hrel
  by_cases hlt:j<xs.length
  ·have hX:=Lib.hid (List.getElem?_eq_getElem hlt);have hmk:=hT.mkL_at k hX.out;obtain⟨b,o,c1,cs,hv,hab,-,hE,hc⟩:=(hr.below hb).atX hmk;simp only[Value.slice.injEq]at hv;obtain⟨rfl,-,-⟩:=hv;have hc1:=hT.cntL_at hX.out;have hct2:=Lib.hid (hT.cntL_take hX.out);clear hmk;generalize xs[j]=x at hX hE hc1 hct2;generalize hK:k+(hT.cntL (xs.take j):Int)=K at hE ⊢;have HK:=Lib.hid hK;have hK0:0<=K/\K+(hT.cnt x:Int)<=1000000000:=(by omega);clear hK;obtain⟨A0,n0,c0,rfl⟩:=za9 hE;have ec0:wr.cell? ⟨b,o+j*1,none⟩=some (.slice A0 n0 c0):=hc 0 _ rfl;rw[Nat.mul_one]at ec0;have y0_0:=tT.more hb.size hE;have hbr:b<wr.heap.size:=Nat.lt_of_lt_of_le hab hb.size;clear hc hE;go_wp2_with fail;refine(zo8 _ _ _ _ _ _ y0_0 (by omega)).mono ?_;rintro e v1 ⟨rfl,b1⟩;obtain⟨hc1,-⟩:=zan b1;have hbr1:=Nat.lt_of_lt_of_le hbr b1.size;replace hb:=hb.trans (b1.mono hb.size);go_wp2;go_roundw
   case rel=>exact⟨j+1,by go_num,by omega,by rw[hct2.out];have:=HK.out;subst this;go_num,hb⟩
   case measure=>simp[intOf];omega
  obtain rfl:xs.length=j:=by omega
  go_wp2;go_ret;exact⟨by rw[List.take_of_length_le (Nat.le_refl _)];rfl,hb⟩
theorem zvw(a0:Int)(A1:Yo)(n1 c1:Nat)(A2:Yo)(n2 c2:Nat)(A3:Yo)(n3 c3:Nat)(A4:Yo)(n4 c4:Nat)(A5:Yo)(n5 c5:Nat)(k:Int)(x1:List (List Int))(x2:List (List zas))(x3:List Int)(x4:List zad)(x5:List zag)(w:Yw)(F:Nat->Prop)(hx:tZ.O w F [.int .i64 a0,.slice A1 n1 c1,.slice A2 n2 c2,.slice A3 n3 c3,.slice A4 n4 c4,.slice A5 n5 c5] (a0,x1,x2,x3,x4,x5))(hF:∀b,F b->b<w.heap.size)(hk:0<=k/\k+(hZ.cnt ((a0,x1,x2,x3,x4,x5):Sess):Int)<=1000000000):
 Calls Tryz.prog 10 #[.agg #[.int .i64 a0,.slice A1 n1 c1,.slice A2 n2 c2,.slice A3 n3 c3,.slice A4 n4 c4,.slice A5 n5 c5],.int .i64 k] w fun e w'=>e=.returned (.int .i64 (k+hZ.cnt ((a0,x1,x2,x3,x4,x5):Sess)))/\tZ.O w' F [.int .i64 a0,.slice A1 n1 c1,.slice A2 n2 c2,.slice A3 n3 c3,.slice A4 n4 c4,.slice A5 n5 c5] (hZ.mark k (a0,x1,x2,x3,x4,x5))/\Chg F w w':=by
 obtain⟨W,hW⟩:∃W,W=w.alloc (.cells #[.int .i64 a0,.slice A1 n1 c1,.slice A2 n2 c2,.slice A3 n3 c3,.slice A4 n4 c4,.slice A5 n5 c5] 38):=⟨_,rfl⟩;have B0:Below w.heap.size w W:=by rw[hW];exact(Below.refl _ _).alloc (Nat.le_refl _) _
 have p1:W.cell? ⟨w.heap.size,1,none⟩=some (.slice A1 n1 c1):=by rw[hW];simp[go_sem]
 have p2:W.cell? ⟨w.heap.size,2,none⟩=some (.slice A2 n2 c2):=by rw[hW];simp[go_sem]
 have p3:W.cell? ⟨w.heap.size,3,none⟩=some (.slice A3 n3 c3):=by rw[hW];simp[go_sem]
 have p4:W.cell? ⟨w.heap.size,4,none⟩=some (.slice A4 n4 c4):=by rw[hW];simp[go_sem]
 have p5:W.cell? ⟨w.heap.size,5,none⟩=some (.slice A5 n5 c5):=by rw[hW];simp[go_sem]
 have l0:w.heap.size<W.heap.size:=by rw[hW];simp
 have hx2:tZ.O W F [.int .i64 a0,.slice A1 n1 c1,.slice A2 n2 c2,.slice A3 n3 c3,.slice A4 n4 c4,.slice A5 n5 c5] (a0,x1,x2,x3,x4,x5):=tZ.okeep (fun b h=>B0.block b (hF b h)) hx;obtain⟨A19,n19,c19,A29,n29,c29,A39,n39,c39,A49,n49,c49,A59,n59,c59,F1,F2,F3,F4,F5,he,o1_0,o2_0,o3_0,o4_0,o5_0,t1,t2,t3,t4,t5,r1_2,r1_3,r1_4,r1_5,r2_3,r2_4,r2_5,r3_4,r3_5,r4_5⟩:=tZ_O.1 hx2;simp only[List.cons.injEq,Value.slice.injEq,and_true,true_and]at he;obtain⟨⟨rfl,rfl,rfl⟩,⟨rfl,rfl,rfl⟩,⟨rfl,rfl,rfl⟩,⟨rfl,rfl,rfl⟩,⟨rfl,rfl,rfl⟩⟩:=he;have hw0:¬F w.heap.size:=fun h=>absurd (hF _ h) (Nat.lt_irrefl _)
 have HW:=Lib.hid hW;clear hW hx hx2;rw[ziq]at *;have cz1:0<=(hSS.cnt x1:Int):=Int.natCast_nonneg _;have cz2:0<=(hTS.cnt x2:Int):=Int.natCast_nonneg _;have cz3:0<=(hS.cnt x3:Int):=Int.natCast_nonneg _;have cz4:0<=(hPS.cnt x4:Int):=Int.natCast_nonneg _;have cz5:0<=(hM.cnt x5:Int):=Int.natCast_nonneg _
 go_enter Tryz.func10,Tryz.ntmps10
 go_wp2_with fail;rw[<-HW.out];refine(zj8 _ _ _ _ _ _ F1 o1_0 (by omega)).mono ?_;rintro e w1 ⟨rfl,o1_n,ch0⟩;have o2_1:=tTS.ochg o2_0 ch0 (fun b h h2=>r1_2 b h2 h);have o3_1:=tS.ochg o3_0 ch0 (fun b h h2=>r1_3 b h2 h);have o4_1:=tPS.ochg o4_0 ch0 (fun b h h2=>r1_4 b h2 h);have o5_1:=tM.ochg o5_0 ch0 (fun b h h2=>r1_5 b h2 h);have o1_1:=o1_n;have l1:=Nat.lt_of_lt_of_le l0 ch0.size;have bl0:=ch0.block w.heap.size l0 (fun h=>hw0 (t1 _ h));have p2_1:w1.cell? ⟨w.heap.size,2,none⟩=some (.slice A2 n2 c2):=by rw[World.cell?_of_block bl0];exact p2
 have p3_1:w1.cell? ⟨w.heap.size,3,none⟩=some (.slice A3 n3 c3):=by rw[World.cell?_of_block bl0];exact p3
 have p4_1:w1.cell? ⟨w.heap.size,4,none⟩=some (.slice A4 n4 c4):=by rw[World.cell?_of_block bl0];exact p4
 have p5_1:w1.cell? ⟨w.heap.size,5,none⟩=some (.slice A5 n5 c5):=by rw[World.cell?_of_block bl0];exact p5
 clear bl0;go_wp2_with fail;refine(zvu _ _ _ _ _ _ F2 o2_1 (by omega)).mono ?_;rintro e w2 ⟨rfl,o2_n,ch1⟩;have o1_2:=tSS.ochg o1_1 ch1 r1_2;have o3_2:=tS.ochg o3_1 ch1 (fun b h h2=>r2_3 b h2 h);have o4_2:=tPS.ochg o4_1 ch1 (fun b h h2=>r2_4 b h2 h);have o5_2:=tM.ochg o5_1 ch1 (fun b h h2=>r2_5 b h2 h);have o2_2:=o2_n;have l2:=Nat.lt_of_lt_of_le l1 ch1.size;have bl1:=ch1.block w.heap.size l1 (fun h=>hw0 (t2 _ h));have p3_2:w2.cell? ⟨w.heap.size,3,none⟩=some (.slice A3 n3 c3):=by rw[World.cell?_of_block bl1];exact p3_1
 have p4_2:w2.cell? ⟨w.heap.size,4,none⟩=some (.slice A4 n4 c4):=by rw[World.cell?_of_block bl1];exact p4_1
 have p5_2:w2.cell? ⟨w.heap.size,5,none⟩=some (.slice A5 n5 c5):=by rw[World.cell?_of_block bl1];exact p5_1
 clear bl1;go_wp2_with fail;refine(zg6 _ _ _ _ _ _ F3 o3_2 (by omega)).mono ?_;rintro e w3 ⟨rfl,o3_n,ch2⟩;have o1_3:=tSS.ochg o1_2 ch2 r1_3;have o2_3:=tTS.ochg o2_2 ch2 r2_3;have o4_3:=tPS.ochg o4_2 ch2 (fun b h h2=>r3_4 b h2 h);have o5_3:=tM.ochg o5_2 ch2 (fun b h h2=>r3_5 b h2 h);have o3_3:=o3_n;have l3:=Nat.lt_of_lt_of_le l2 ch2.size;have bl2:=ch2.block w.heap.size l2 (fun h=>hw0 (t3 _ h));have p4_3:w3.cell? ⟨w.heap.size,4,none⟩=some (.slice A4 n4 c4):=by rw[World.cell?_of_block bl2];exact p4_2
 have p5_3:w3.cell? ⟨w.heap.size,5,none⟩=some (.slice A5 n5 c5):=by rw[World.cell?_of_block bl2];exact p5_2
 clear bl2;go_wp2_with fail;refine(zvs _ _ _ _ _ _ F4 o4_3 (by omega)).mono ?_;rintro e w4 ⟨rfl,o4_n,ch3⟩;have o1_4:=tSS.ochg o1_3 ch3 r1_4;have o2_4:=tTS.ochg o2_3 ch3 r2_4;have o3_4:=tS.ochg o3_3 ch3 r3_4;have o5_4:=tM.ochg o5_3 ch3 (fun b h h2=>r4_5 b h2 h);have o4_4:=o4_n;have l4:=Nat.lt_of_lt_of_le l3 ch3.size;have bl3:=ch3.block w.heap.size l3 (fun h=>hw0 (t4 _ h));have p5_4:w4.cell? ⟨w.heap.size,5,none⟩=some (.slice A5 n5 c5):=by rw[World.cell?_of_block bl3];exact p5_3
 clear bl3;go_wp2_with fail;refine(zp5 _ _ _ _ _ _ F5 o5_4 (fun b h=>Nat.lt_of_lt_of_le (hF b (t5 b h)) (by omega)) (by omega)).mono ?_;rintro e w5 ⟨rfl,o5_n,ch4⟩;have o1_5:=tSS.ochg o1_4 ch4 r1_5;have o2_5:=tTS.ochg o2_4 ch4 r2_5;have o3_5:=tS.ochg o3_4 ch4 r3_5;have o4_5:=tPS.ochg o4_4 ch4 r4_5;have o5_5:=o5_n;have l5:=Nat.lt_of_lt_of_le l4 ch4.size;have bl4:=ch4.block w.heap.size l4 (fun h=>hw0 (t5 _ h));clear bl4;go_wp2;go_ret;rw[zn5];refine⟨zay (by omega),tZ_O.2 ⟨A1,n1,c1,A2,n2,c2,A3,n3,c3,A4,n4,c4,A5,n5,c5,F1,F2,F3,F4,F5,rfl,?_,?_,?_,?_,?_,t1,t2,t3,t4,t5,r1_2,r1_3,r1_4,r1_5,r2_3,r2_4,r2_5,r3_4,r3_5,r4_5⟩,(((((Chg.of_below B0 F).trans (ch0.wide t1)).trans (ch1.wide t2)).trans (ch2.wide t3)).trans (ch3.wide t4)).trans (ch4.wide t5)⟩
 ·exact o1_5
 ·exact o2_5
 ·exact o3_5
 ·exact o4_5
 exact o5_5
theorem zvx(a0:Int)(A1:Yo)(n1 c1:Nat)(A2:Yo)(n2 c2:Nat)(A3:Yo)(n3 c3:Nat)(A4:Yo)(n4 c4:Nat)(A5:Yo)(n5 c5:Nat)(k:Int)(x1:List (List Int))(x2:List (List zas))(x3:List Int)(x4:List zad)(x5:List zag)(w:Yw)(hx:tZ.R w w.heap.size [.int .i64 a0,.slice A1 n1 c1,.slice A2 n2 c2,.slice A3 n3 c3,.slice A4 n4 c4,.slice A5 n5 c5] (hZ.mark k (a0,x1,x2,x3,x4,x5)))(hk:0<=k/\k+(hZ.cnt ((a0,x1,x2,x3,x4,x5):Sess):Int)<=1000000000):
 Calls Tryz.prog 11 #[.agg #[.int .i64 a0,.slice A1 n1 c1,.slice A2 n2 c2,.slice A3 n3 c3,.slice A4 n4 c4,.slice A5 n5 c5],.int .i64 k] w fun e w'=>e=.returned (.int .i64 (k+hZ.cnt ((a0,x1,x2,x3,x4,x5):Sess)))/\Below w.heap.size w w':=by
 obtain⟨W,hW⟩:∃W,W=w.alloc (.cells #[.int .i64 a0,.slice A1 n1 c1,.slice A2 n2 c2,.slice A3 n3 c3,.slice A4 n4 c4,.slice A5 n5 c5] 38):=⟨_,rfl⟩;have B0:Below w.heap.size w W:=by rw[hW];exact(Below.refl _ _).alloc (Nat.le_refl _) _
 have p1:W.cell? ⟨w.heap.size,1,none⟩=some (.slice A1 n1 c1):=by rw[hW];simp[go_sem]
 have p2:W.cell? ⟨w.heap.size,2,none⟩=some (.slice A2 n2 c2):=by rw[hW];simp[go_sem]
 have p3:W.cell? ⟨w.heap.size,3,none⟩=some (.slice A3 n3 c3):=by rw[hW];simp[go_sem]
 have p4:W.cell? ⟨w.heap.size,4,none⟩=some (.slice A4 n4 c4):=by rw[hW];simp[go_sem]
 have p5:W.cell? ⟨w.heap.size,5,none⟩=some (.slice A5 n5 c5):=by rw[hW];simp[go_sem]
 have l0:w.heap.size<W.heap.size:=by rw[hW];simp
 obtain⟨A19,n19,c19,A29,n29,c29,A39,n39,c39,A49,n49,c49,A59,n59,c59,he,e1,e2,e3,e4,e5⟩:=tZ_R.1 hx;simp only[List.cons.injEq,Value.slice.injEq,and_true]at he;obtain⟨-,⟨rfl,rfl,rfl⟩,⟨rfl,rfl,rfl⟩,⟨rfl,rfl,rfl⟩,⟨rfl,rfl,rfl⟩,⟨rfl,rfl,rfl⟩⟩:=he;have y1_0:tSS.R W W.heap.size [.slice A1 n1 c1] (hSS.mark (k) x1):=tSS.later (cast (by simp[hU]) e1) B0;have y2_0:tTS.R W W.heap.size [.slice A2 n2 c2] (hTS.mark (k+hSS.cnt x1) x2):=tTS.later (cast (by simp[hU]) e2) B0;have y3_0:tS.R W W.heap.size [.slice A3 n3 c3] (hS.mark (k+hSS.cnt x1+hTS.cnt x2) x3):=tS.later (cast (by simp[hU]) e3) B0;have y4_0:tPS.R W W.heap.size [.slice A4 n4 c4] (hPS.mark (k+hSS.cnt x1+hTS.cnt x2+hS.cnt x3) x4):=tPS.later (cast (by simp[hU]) e4) B0;have y5_0:tM.R W W.heap.size [.slice A5 n5 c5] (hM.mark (k+hSS.cnt x1+hTS.cnt x2+hS.cnt x3+hPS.cnt x4) x5):=tM.later (cast (by simp[hU]) e5) B0;have HW:=Lib.hid hW;clear hW hx;rw[ziq]at *;have c1:0<=(hSS.cnt x1:Int):=Int.natCast_nonneg _;have c2:0<=(hTS.cnt x2:Int):=Int.natCast_nonneg _;have c3:0<=(hS.cnt x3:Int):=Int.natCast_nonneg _;have c4:0<=(hPS.cnt x4:Int):=Int.natCast_nonneg _;have c5:0<=(hM.cnt x5:Int):=Int.natCast_nonneg _
 go_enter Tryz.func11,Tryz.ntmps11
 go_wp2_with fail;rw[<-HW.out];refine(zj9 _ _ _ _ _ _ y1_0 (by omega)).mono ?_;rintro e w1 ⟨rfl,b1⟩;obtain⟨hc1,-⟩:=zan b1;have l1:=Nat.lt_of_lt_of_le l0 b1.size;have B1:=zaa B0 b1;have y2_1:=tTS.later y2_0 b1;have y3_1:=tS.later y3_0 b1;have y4_1:=tPS.later y4_0 b1;have y5_1:=tM.later y5_0 b1;go_wp2_with fail;refine(zvv _ _ _ _ _ _ y2_1 (by omega)).mono ?_;rintro e w2 ⟨rfl,b2⟩;obtain⟨hc2,-⟩:=zan b2;have l2:=Nat.lt_of_lt_of_le l1 b2.size;have B2:=zaa B1 b2;have y3_2:=tS.later y3_1 b2;have y4_2:=tPS.later y4_1 b2;have y5_2:=tM.later y5_1 b2;go_wp2_with fail;refine(zg7 _ _ _ _ _ _ y3_2 (by omega)).mono ?_;rintro e w3 ⟨rfl,b3⟩;obtain⟨hc3,-⟩:=zan b3;have l3:=Nat.lt_of_lt_of_le l2 b3.size;have B3:=zaa B2 b3;have y4_3:=tPS.later y4_2 b3;have y5_3:=tM.later y5_2 b3;go_wp2_with fail;refine(zvt _ _ _ _ _ _ y4_3 (by omega)).mono ?_;rintro e w4 ⟨rfl,b4⟩;obtain⟨hc4,-⟩:=zan b4;have l4:=Nat.lt_of_lt_of_le l3 b4.size;have B4:=zaa B3 b4;have y5_4:=tM.later y5_3 b4;go_wp2_with fail;refine(zvp _ _ _ _ _ _ y5_4 (by omega)).mono ?_;rintro e w5 ⟨rfl,b5⟩;obtain⟨hc5,-⟩:=zan b5;have l5:=Nat.lt_of_lt_of_le l4 b5.size;have B5:=zaa B4 b5;go_wp2;go_ret;exact⟨zay (by omega),B5⟩
theorem zn6(p:Int)(A:Yo)(n c:Nat)(Ab:Yo)(nb cb:Nat)(Ac:Yo)(nc cc:Nat)(Ad:Yo)(nd cd:Nat)(Ae:Yo)(ne ce:Nat)(k:Int)(x:Sess)(w:Yw)(F:Nat->Prop)(hx:tZ.O w F [.int .i64 p,.slice A n c,.slice Ab nb cb,.slice Ac nc cc,.slice Ad nd cd,.slice Ae ne ce] x)(hF:∀b,F b->b<w.heap.size)(hk:0<=k/\k+(hZ.cnt x:Int)<=1000000000):
 Calls Tryz.prog 10 #[.agg #[.int .i64 p,.slice A n c,.slice Ab nb cb,.slice Ac nc cc,.slice Ad nd cd,.slice Ae ne ce],.int .i64 k] w fun e w'=>e=.returned (.int .i64 (k+hZ.cnt x))/\tZ.O w' F [.int .i64 p,.slice A n c,.slice Ab nb cb,.slice Ac nc cc,.slice Ad nd cd,.slice Ae ne ce] (hZ.mark k x)/\Chg F w w':=by
 obtain⟨a0,x1,x2,x3,x4,x5⟩:=x;obtain⟨A1,n1,c1,A2,n2,c2,A3,n3,c3,A4,n4,c4,A5,n5,c5,hcs,h1,h2,h3,h4,h5⟩:=tZ_R.1 (tZ.read hx);simp only[List.cons.injEq,Value.int.injEq,Value.slice.injEq,true_and,and_true]at hcs;obtain⟨rfl,⟨rfl,rfl,rfl⟩,⟨rfl,rfl,rfl⟩,⟨rfl,rfl,rfl⟩,⟨rfl,rfl,rfl⟩,⟨rfl,rfl,rfl⟩⟩:=hcs;exact zvw _ _ _ _ _ _ _ _ _ _ _ _ _ _ _ _ _ _ _ _ _ _ _ _ hx hF hk
theorem zn7(p:Int)(A:Yo)(n c:Nat)(Ab:Yo)(nb cb:Nat)(Ac:Yo)(nc cc:Nat)(Ad:Yo)(nd cd:Nat)(Ae:Yo)(ne ce:Nat)(k:Int)(x:Sess)(w:Yw)(hx:tZ.R w w.heap.size [.int .i64 p,.slice A n c,.slice Ab nb cb,.slice Ac nc cc,.slice Ad nd cd,.slice Ae ne ce] (hZ.mark k x))(hk:0<=k/\k+(hZ.cnt x:Int)<=1000000000):
 Calls Tryz.prog 11 #[.agg #[.int .i64 p,.slice A n c,.slice Ab nb cb,.slice Ac nc cc,.slice Ad nd cd,.slice Ae ne ce],.int .i64 k] w fun e w'=>e=.returned (.int .i64 (k+hZ.cnt x))/\Below w.heap.size w w':=by
 obtain⟨a0,x1,x2,x3,x4,x5⟩:=x;have hx2:=hx;rw[zn5]at hx2;obtain⟨A1,n1,c1,A2,n2,c2,A3,n3,c3,A4,n4,c4,A5,n5,c5,hcs,h1,h2,h3,h4,h5⟩:=tZ_R.1 hx2;simp only[List.cons.injEq,Value.int.injEq,Value.slice.injEq,true_and,and_true]at hcs;obtain⟨rfl,⟨rfl,rfl,rfl⟩,⟨rfl,rfl,rfl⟩,⟨rfl,rfl,rfl⟩,⟨rfl,rfl,rfl⟩,⟨rfl,rfl,rfl⟩⟩:=hcs;exact zvx _ _ _ _ _ _ _ _ _ _ _ _ _ _ _ _ _ _ _ _ _ _ _ hx hk
theorem zg0{α:Type}{h:Hs α}(hx:∀x,h.cnt x<=10*h.sz x+10)(xs:List α):h.cntL xs<=10*(xs.length+h.szL xs):=by
 induction xs with
 | nil=>simp[Hs.cntL]
 | cons y ys ih=>
  rw[Hs.cntL,Hs.szL,List.length_cons];have:=hx y;omega
theorem cl_Y(x:Sess):hZ.cnt x<=10*hZ.sz x+10:=by
 obtain⟨a0,x1,x2,x3,x4,x5⟩:=x;rw[ziq,zdi];have cS:∀x:List Int,hS.cnt x<=10*hS.sz x+10:=fun x=>by rw[zfl,zbi];omega
 have c1:hSS.cnt x1<=10*hSS.sz x1:=zg0 cS x1;have cT:∀x:List zas,hT.cnt x<=10*hT.sz x+10:=cl_T;have c2:hTS.cnt x2<=10*hTS.sz x2:=zg0 cT x2
 have cN:∀x:Node,hN.cnt x<=10*hN.sz x+10:=fun x=>by
  obtain⟨k,a,b,l⟩:=x;rw[zgg,ze9,zfl,zbi];omega
 have cNS:∀x:List Node,hNS.cnt x<=10*hNS.sz x:=zg0 cN
 have cP:∀x:zad,hP.cnt x<=10*hP.sz x+10:=fun x=>by
  obtain⟨k,t,n,u⟩:=x;rw[zgi,zco];have e1:hSS.cnt t<=10*hSS.sz t:=zg0 cS t;have e2:=cNS n;have e3:hS.cnt u<=hS.sz u:=by rw[zfl,zbi];omega
  omega
 have c4:hPS.cnt x4<=10*hPS.sz x4:=zg0 cP x4;have c3:hS.cnt x3<=hS.sz x3:=by rw[zfl,zbi];omega
 have c5:=cl_M x5;omega
set_option synthInstance.maxSize 2000
set_option synthInstance.maxHeartbeats 400000
def zh3:Sess:=(0,[],[],[],[],[])
theorem zn8(w:Yw)(F:Nat->Prop):tZ.O w F [.int .i64 0,.slice none 0 0,.slice none 0 0,.slice none 0 0,.slice none 0 0,.slice none 0 0] zh3:=
 tZ_O.2 ⟨none,0,0,none,0,0,none,0,0,none,0,0,none,0,0,fun _=>False,fun _=>False,fun _=>False,fun _=>False,fun _=>False,rfl,sl_O.2 (OS.nil _ _ _ _),sl_O.2 (OS.nil _ _ _ _),sl_O.2 (OS.nil _ _ _ _),sl_O.2 (OS.nil _ _ _ _),sl_O.2 (OS.nil _ _ _ _),fun _ h=>h.elim,fun _ h=>h.elim,fun _ h=>h.elim,fun _ h=>h.elim,fun _ h=>h.elim,fun _ h=>h.elim,fun _ h=>h.elim,fun _ h=>h.elim,fun _ h=>h.elim,fun _ h=>h.elim,fun _ h=>h.elim,fun _ h=>h.elim,fun _ h=>h.elim,fun _ h=>h.elim,fun _ h=>h.elim⟩
section
set_option synthInstance.maxSize 2000
set_option synthInstance.maxHeartbeats 400000
section
variable {α:Type}
def zcm (f:α->α) (k:Nat) (xs:List α):List α:=(xs.take k).map f++xs.drop k
theorem zn9(f:α->α){k:Nat}{xs:List α}(h:xs.length<=k):zcm f k xs=xs.map f:=by
 rw[zcm,List.take_of_length_le h,List.drop_eq_nil_of_le h,List.append_nil]
theorem zoa(f:α->α)(k:Nat)(xs:List α):(zcm f k xs).length=xs.length:=by
 rw[zcm,List.length_append,List.length_map,List.length_take,List.length_drop];omega
theorem zjr{f:α->α}{k:Nat}{xs:List α}{x:α}(h:xs[k]?=some x):(zcm f k xs)[k]?=some x:=by
 have hk:=(List.getElem?_eq_some_iff.1 h).1;have e:((xs.take k).map f).length=k:=by rw[List.length_map,List.length_take];omega
 rw[zcm,List.getElem?_append_right (by omega),e,Nat.sub_self,List.getElem?_drop];simpa using h
theorem zjs{f:α->α}{k:Nat}{xs:List α}{x:α}(h:xs[k]?=some x):zcm f (k+1) xs=(zcm f k xs).set k (f x):=by
 have hk:=(List.getElem?_eq_some_iff.1 h).1;have e:((xs.take k).map f).length=k:=by rw[List.length_map,List.length_take];omega
 have hd:xs.drop k=x::xs.drop (k+1):=by
  rw[List.drop_eq_getElem_cons hk];rw[List.getElem?_eq_getElem hk,Option.some.injEq]at h;rw[h]
 rw[zcm,zcm,hd,List.set_append_right _ _ (by omega),e,Nat.sub_self,List.set_cons_zero,List.take_add_one,h];simp
theorem zob{f:α->α}{k:Nat}{xs:List α}{x:α}(h:xs[k]?=some x)(hx:f x=x):zcm f (k+1) xs=zcm f k xs:=by
 rw[zjs h,hx];have h2:=zjr (f:=f) h;apply List.ext_getElem?
 intro j
 by_cases e:k=j
 ·subst e;rw[List.getElem?_set_self (List.getElem?_eq_some_iff.1 h2).1,h2]
 rw[List.getElem?_set_ne e]
end
theorem zoc{V:Yw}{F:Nat->Prop}{A:Yo}{n c:Nat}{ps:List zad}(O:OS tP 67 V F (.slice A n c) ps){i:Nat}(hi:i<n)(a0:Int)(A1:Yo)(n1 c1:Nat)(A2:Yo)(n2 c2:Nat)(A3:Yo)(n3 c3:Nat):
 ∃(g:Nat) (z0 z1 z2 z3:Value),A=some ⟨g,0,none⟩/\F g/\g<V.heap.size/\V.cell? ⟨g,i*4,none⟩=some z0/\V.cell? ⟨g,i*4+1,none⟩=some z1/\V.cell? ⟨g,i*4+2,none⟩=some z2/\V.cell? ⟨g,i*4+3,none⟩=some z3/\V.frozen? ⟨g,i*4,none⟩=false/\V.frozen? ⟨g,i*4+1,none⟩=false/\V.frozen? ⟨g,i*4+2,none⟩=false/\V.frozen? ⟨g,i*4+3,none⟩=false/\
  ∃T,T=(((V.setCell ⟨g,i*4,none⟩ (.int .i64 a0)).setCell ⟨g,i*4+1,none⟩ (.slice A1 n1 c1)).setCell ⟨g,i*4+2,none⟩ (.slice A2 n2 c2)).setCell ⟨g,i*4+3,none⟩ (.slice A3 n3 c3)/\Chg (fun b=>b=g) V T/\T.heap.size=V.heap.size/\∀(Fe:Nat->Prop) y,tP.O V Fe [.int .i64 a0,.slice A1 n1 c1,.slice A2 n2 c2,.slice A3 n3 c3] y->(∀b,Fe b->¬F b)->OS tP 67 T (fun b=>F b\/Fe b) (.slice A n c) (ps.set i y):=by
 obtain rfl:ps.length=n:=O.read.cap.1;obtain⟨css,Fs,hole,cs,hcs,hE⟩:=O.openAt (List.getElem?_eq_getElem hi);generalize ps[i]=x at hE;obtain⟨k,a,b,l⟩:=x;obtain⟨B1,m1,d1,B2,m2,d2,B3,m3,d3,F1,F2,F3,rfl,-⟩:=tP_O.1 hE;obtain⟨g,rfl,hgF,hgn,hgl,-⟩:=hole.form hi;have k0:=hole.cell hcs (j:=0) rfl;have k1:=hole.cell hcs (j:=1) rfl;have k2:=hole.cell hcs (j:=2) rfl;have k3:=hole.cell hcs (j:=3) rfl;have s0:=hole.set hcs 0 (by decide) (.int .i64 a0);have s1:=s0.1.set s0.2 1 (by decide) (.slice A1 n1 c1);have s2:=s1.1.set s1.2 2 (by decide) (.slice A2 n2 c2);have s3:=s2.1.set s2.2 3 (by decide) (.slice A3 n3 c3);have hc:Chg (fun b=>b=g) V ((((V.setCell ⟨g,i*4,none⟩ (.int .i64 a0)).setCell ⟨g,i*4+1,none⟩ (.slice A1 n1 c1)).setCell ⟨g,i*4+2,none⟩ (.slice A2 n2 c2)).setCell ⟨g,i*4+3,none⟩ (.slice A3 n3 c3)):=(((Chg.set (F:=fun b=>b=g) _ g _ _ rfl).trans (Chg.set _ g _ _ rfl)).trans (Chg.set _ g _ _ rfl)).trans (Chg.set _ g _ _ rfl);refine⟨g,_,_,_,_,rfl,hgF,hgl,k0.1,k1.1,k2.1,k3.1,k0.2,k1.2,k2.2,k3.2,_,rfl,hc,by simp,fun Fe y hy hd=>?_⟩;exact s3.1.fill' s3.2 (y:=y) (tP.ochg hy (hc.wide (fun b (hb:b=g)=>by rw[hb];exact hgF)) hd) hd
structure BX6 (w:Yw) (g:Nat) (z0 z1 z2 z3 z4 z5:Value):Prop where
 c0:w.cell? ⟨g,0,none⟩=some z0
 c1:w.cell? ⟨g,1,none⟩=some z1
 c2:w.cell? ⟨g,2,none⟩=some z2
 c3:w.cell? ⟨g,3,none⟩=some z3
 c4:w.cell? ⟨g,4,none⟩=some z4
 c5:w.cell? ⟨g,5,none⟩=some z5
 fr:∀j,w.frozen? ⟨g,j,none⟩=false
 lt:g<w.heap.size
theorem BX6.new(w:Yw)(z0 z1 z2 z3 z4 z5:Value)(t:TypeId):BX6 (w.alloc (.cells #[z0,z1,z2,z3,z4,z5] t)) w.heap.size z0 z1 z2 z3 z4 z5:=by
 obtain⟨U,rfl,h1,h2,a0,a1,a2,a3,a4,a5,af⟩:=zd3 w z0 z1 z2 z3 z4 z5 t;exact⟨a0,a1,a2,a3,a4,a5,af,by omega⟩
theorem BX6.chg{w w':Yw}{F:Nat->Prop}{g:Nat}{z0 z1 z2 z3 z4 z5:Value}(h:BX6 w g z0 z1 z2 z3 z4 z5)(hc:Chg F w w')(hn:¬F g):BX6 w' g z0 z1 z2 z3 z4 z5:=
 ⟨(hc.cell h.lt hn).trans h.c0,(hc.cell h.lt hn).trans h.c1,(hc.cell h.lt hn).trans h.c2,(hc.cell h.lt hn).trans h.c3,(hc.cell h.lt hn).trans h.c4,(hc.cell h.lt hn).trans h.c5,fun j=>(hc.frozen h.lt hn).trans (h.fr j),Nat.lt_of_lt_of_le h.lt hc.size⟩
theorem BX6.later{w w':Yw}{g:Nat}{z0 z1 z2 z3 z4 z5:Value}(h:BX6 w g z0 z1 z2 z3 z4 z5)(hb:Below w.heap.size w w'):BX6 w' g z0 z1 z2 z3 z4 z5:=h.chg (Chg.of_below hb (fun _=>False)) id
theorem BX6.set{w:Yw}{g:Nat}{z0 z1 z2 z3 z4 z5:Value}(h:BX6 w g z0 z1 z2 z3 z4 z5)(v0 v1 v2 v3 v4 v5:Value):∃U,U=(((((w.setCell ⟨g,0,none⟩ v0).setCell ⟨g,1,none⟩ v1).setCell ⟨g,2,none⟩ v2).setCell ⟨g,3,none⟩ v3).setCell ⟨g,4,none⟩ v4).setCell ⟨g,5,none⟩ v5/\BX6 U g v0 v1 v2 v3 v4 v5/\Chg (fun b=>b=g) w U/\U.heap.size=w.heap.size:=by
 obtain⟨U,hU,d0,d1,d2,d3,d4,d5,df,dch,dsz⟩:=box6 h.c0 h.c1 h.c2 h.c3 h.c4 h.c5 h.fr v0 v1 v2 v3 v4 v5;exact⟨U,hU,⟨d0,d1,d2,d3,d4,d5,df,by rw[dsz];exact h.lt⟩,dch,dsz⟩
theorem zod(w:Yw)(z0 z1 z2 z3 z4 z5 y0 y1 y2 y3 y4 y5:Value)(t t':TypeId):∃W,W=(w.alloc (.cells #[z0,z1,z2,z3,z4,z5] t)).alloc (.cells #[y0,y1,y2,y3,y4,y5] t')/\Below w.heap.size w W/\W.heap.size=w.heap.size+2/\BX6 W w.heap.size z0 z1 z2 z3 z4 z5/\BX6 W (w.heap.size+1) y0 y1 y2 y3 y4 y5:=
 ⟨_,rfl,zaa (zaf w _) (zaf _ _),by simp,(BX6.new w z0 z1 z2 z3 z4 z5 t).later (zaf _ _),by simpa using BX6.new (w.alloc (.cells #[z0,z1,z2,z3,z4,z5] t)) y0 y1 y2 y3 y4 y5 t'⟩
def zcb (ND:NO->Nat->Bool) (NN:zad->Nat) (x:Sess):Sess×Int:=if zcl x then(zvm ND NN x,0)else(zh3,1)
theorem zjt{p:zad}(h:zao p=true)(h0:p≠M.p0):∃R,M.WP p.2.1 (p.2.2.1,p.2.2.2) R/\p.2.2.2.length=1/\p.1=1:=by
 obtain⟨h1,h2,h3⟩:=zjq h h0;obtain⟨R,hW⟩:=zjc (zi2 h1 h2) (zi3 h1);exact⟨R,hW,h3,h2⟩
end
end Go.Proofs.YtifeldeikhmckaaGreat
