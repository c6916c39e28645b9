import Derived.Test.YtifeldeikhmckaaGreatFnExactOptimizeSessionG9
import Derived.Test.YtifeldeikhmckaaGreatFnExactOptimizeSessionG8
set_option linter.unusedVariables false
set_option linter.unusedSimpArgs false
set_option maxRecDepth 100000
set_option maxHeartbeats 4000000
namespace Go.Proofs.YtifeldeikhmckaaGreat
open Go.RowKit
abbrev tPS:Ty (List zad):=tP.sl 67
abbrev hPS:Hs (List zad):=hP.sl
theorem zin(A:Yo)(n c:Nat)(xs:List zad)(l:Int)(w:Yw)(hx:tPS.R w w.heap.size [.slice A n c] xs)(hl:0<=l/\l<=1000000000):
 Calls Tryz.prog 23 #[.slice A n c,.int .i64 l] w fun e w'=>e=.returned (.int .i64 (if (hPS.sz xs:Int)<=l then l-hPS.sz xs else -1))/\Below w.heap.size w w':=by
 have hr:=sl_R.1 hx;obtain⟨h1,h2,h3⟩:=hr.cap;have hn:n<=9223372036854775807:=by unfold maxLen at h3;omega
 obtain rfl:xs.length=n:=h1;have hzz:hPS.sz xs=xs.length+hP.szL xs:=rfl;have HZ:=Lib.hid hzz;clear h2 h3 hx hzz;generalize hR:(if (hPS.sz xs:Int)<=l then l-(hPS.sz xs:Int)else -1)=R;have HR:=Lib.hid hR;clear hR
 by_cases h:(xs.length:Int)<=l
 ·go_enter Tryz.func23,Tryz.ntmps23
  go_wp2
  go_loopw [1,5] (fun q i wr=>∃k:Nat,i=.int .i64 k/\k<=xs.length/\(hP.szL (xs.take k):Int)<=l-xs.length/\q=.int .i64 (l-xs.length-hP.szL (xs.take k))/\Below w.heap.size w wr) (fun _ i _=>xs.length-(intOf i).toNat)
  case atStart=>exact⟨0,rfl,by omega,by simp[Hs.szL];omega,by simp[Hs.szL],Below.refl _ _⟩
  case round=>
   obtain⟨k,rfl,hk,hz,rfl,hb⟩:=hrel
   by_cases hlt:k<xs.length
   ·have hX:=Lib.hid (List.getElem?_eq_getElem hlt);obtain⟨b,o,c1,cs,hv,hab,-,hE,hc⟩:=(hr.below hb).atX hX.out;simp only[Value.slice.injEq]at hv;obtain⟨rfl,-,rfl⟩:=hv;have hTk:=Lib.hid (hP.szL_take hX.out);have hU:=hP.szL_at hX.out;generalize xs[k]=x at hX hE hTk hU;obtain⟨a0,x1,x2,x3⟩:=x;obtain⟨A1,n1,c1,A2,n2,c2,A3,n3,c3,rfl,e1,e2,e3⟩:=tP_R.1 hE;have ec0:wr.cell? ⟨b,o+k*4,none⟩=some (.int .i64 a0):=hc 0 _ rfl;have ec1:wr.cell? ⟨b,o+k*4+1,none⟩=some (.slice A1 n1 c1):=hc 1 _ rfl;have ec2:wr.cell? ⟨b,o+k*4+2,none⟩=some (.slice A2 n2 c2):=hc 2 _ rfl;have ec3:wr.cell? ⟨b,o+k*4+3,none⟩=some (.slice A3 n3 c3):=hc 3 _ rfl;have f1:=tSS.more hb.size e1;have f2:=tNS.more hb.size e2;have f3:=tS.more hb.size e3;clear hc
    by_cases hle:(hP.sz ((a0,x1,x2,x3):zad):Int)<=l-xs.length-hP.szL (xs.take k)
    ·have hi:=Lib.hid (show (if (hP.sz ((a0,x1,x2,x3):zad):Int)<=l-xs.length-hP.szL (xs.take k)then l-xs.length-hP.szL (xs.take k)-hP.sz ((a0,x1,x2,x3):zad)else -1)=l-xs.length-hP.szL (xs.take k)-hP.sz ((a0,x1,x2,x3):zad)by rw[if_pos hle]);go_wp2_with (go_at_call 65;refine(zkz _ _ _ _ _ _ _ _ _ _ _ _ _ _ _ f1 f2 f3 (by omega)).mono ?_;rw[hi.out];rintro e w2 ⟨rfl,bel2⟩);go_roundw
     case rel=>exact⟨k+1,by go_num,by omega,by rw[hTk.out];omega,by rw[hTk.out];go_num,hb.trans (bel2.mono hb.size)⟩
     case measure=>simp[intOf];omega
    have hi:=Lib.hid (show (if (hP.sz ((a0,x1,x2,x3):zad):Int)<=l-xs.length-hP.szL (xs.take k)then l-xs.length-hP.szL (xs.take k)-hP.sz ((a0,x1,x2,x3):zad)else -1) = -1 by rw[if_neg hle]);have hj:=Lib.hid (show (if (hPS.sz xs:Int)<=l then l-hPS.sz xs else -1) = -1 by rw[HZ.out,if_neg (by omega)]);go_wp2_with (go_at_call 65;refine(zkz _ _ _ _ _ _ _ _ _ _ _ _ _ _ _ f1 f2 f3 (by omega)).mono ?_;rw[hi.out];rintro e w2 ⟨rfl,bel2⟩);go_ret;exact⟨zay (hj.out.symm.trans HR.out),hb.trans (bel2.mono hb.size)⟩
   obtain rfl:xs.length=k:=by omega
   rw[List.take_of_length_le (Nat.le_refl _)]at hz ⊢;have hj:=Lib.hid (show (if (hPS.sz xs:Int)<=l then l-hPS.sz xs else -1)=l-xs.length-hP.szL xs by rw[HZ.out,if_pos (by omega)];omega);go_wp2;go_ret;exact⟨zay (hj.out.symm.trans HR.out),hb⟩
 have hj:=Lib.hid (show (if (hPS.sz xs:Int)<=l then l-hPS.sz xs else -1) = -1 by rw[HZ.out,if_neg (by omega)])
 go_enter Tryz.func23,Tryz.ntmps23
 go_wp2;go_ret;exact⟨zay (hj.out.symm.trans HR.out),Below.refl _ _⟩
theorem zio:EI Tryz.prog 33 67 (.agg #[.int .i64 0,.slice none 0 0,.slice none 0 0,.slice none 0 0]) 4 80:=⟨Tryz.underlying33,by kernel_rfl,rfl,by decide⟩
theorem zqp(w:Yw)(F:Nat->Prop):tP.O w F [.int .i64 0,.slice none 0 0,.slice none 0 0,.slice none 0 0] (0,[],[],[]):=tP_O.2 ⟨none,0,0,none,0,0,none,0,0,fun _=>False,fun _=>False,fun _=>False,rfl,⟨_,rfl,OS.nil _ _ _ _⟩,⟨_,rfl,OS.nil _ _ _ _⟩,⟨_,rfl,OS.nil _ _ _ _⟩,fun _ h=>h.elim,fun _ h=>h.elim,fun _ h=>h.elim,fun _ h=>h.elim,fun _ h=>h.elim,fun _ h=>h.elim⟩
theorem zqq(A:Yo)(n c:Nat)(xs:List zad)(w:Yw)(hx:tPS.R w w.heap.size [.slice A n c] xs)(hn:hPS.sz xs<=100000000):
 Calls Tryz.prog 32 #[.slice A n c] w fun e w'=>∃A' n' c',e=.returned (.slice A' n' c')/\tPS.O w' (Iv w.heap.size w'.heap.size) [.slice A' n' c'] xs/\Below w.heap.size w w':=by
 have hr:=sl_R.1 hx;obtain rfl:xs.length=n:=hr.cap.1;have hn1:xs.length+hP.szL xs<=100000000:=hn;clear hx hn
 go_enter Tryz.func32,Tryz.ntmps32
 go_wp2_with (at_make;refine zdo zio rfl _ _ rfl xs.length _ _ rfl rfl rfl rfl (by omega) (by unfold maxLen;omega) ?_;intro w1 own1 bel1);have hs1:w.heap.size+1<=w1.heap.size:=(World.ownsRow.lt own1 _ rfl).2
 have own2:OS tP 67 w1 (Iv w.heap.size w1.heap.size) (.slice (some ⟨w.heap.size,0,none⟩) xs.length xs.length) (List.replicate xs.length ((0,[],[],[]):zad)):=
  OS.made (t:=tP) (zc:=[.int .i64 0,.slice none 0 0,.slice none 0 0,.slice none 0 0]) zqp rfl ⟨Nat.le_refl _,by omega⟩ own1
 clear own1
 go_loopw [4] (fun i wr=>∃k:Nat,i=.int .i64 k/\k<=xs.length/\OS tP 67 wr (Iv w.heap.size wr.heap.size) (.slice (some ⟨w.heap.size,0,none⟩) xs.length xs.length) (xs.take k++(List.replicate xs.length ((0,[],[],[]):zad)).drop k)/\w.heap.size+1<=wr.heap.size/\Below w.heap.size w wr)
  (fun i _=>xs.length-(intOf i).toNat)
 case atStart=>exact⟨0,rfl,by omega,by simpa using own2,hs1,bel1⟩
 case round=>
  obtain⟨k,rfl,hk,own,hsz,hb⟩:=hrel
  by_cases hlt:k<xs.length
  ·have hX:=Lib.hid (List.getElem?_eq_getElem hlt);obtain⟨b,o,c1,cs,hv,hab,-,hE,hc⟩:=(hr.below hb).atX hX.out;simp only[Value.slice.injEq]at hv;obtain⟨rfl,-,rfl⟩:=hv;have hU:=hP.szL_at hX.out;generalize xs[k]=x at hX hE hU;obtain⟨a0,x1,x2,x3⟩:=x;obtain⟨A1,n1,c1,A2,n2,c2,A3,n3,c3,rfl,e1,e2,e3⟩:=tP_R.1 hE;have ec0:wr.cell? ⟨b,o+k*4,none⟩=some (.int .i64 a0):=hc 0 _ rfl;have ec1:wr.cell? ⟨b,o+k*4+1,none⟩=some (.slice A1 n1 c1):=hc 1 _ rfl;have ec2:wr.cell? ⟨b,o+k*4+2,none⟩=some (.slice A2 n2 c2):=hc 2 _ rfl;have ec3:wr.cell? ⟨b,o+k*4+3,none⟩=some (.slice A3 n3 c3):=hc 3 _ rfl;have f1:=tSS.more hb.size e1;have f2:=tNS.more hb.size e2;have f3:=tS.more hb.size e3;have hz2:hP.sz ((a0,x1,x2,x3):zad)<=100000000:=(by omega);clear hc;have hD:=Lib.hid (show (xs.take k++(List.replicate xs.length ((0,[],[],[]):zad)).drop k)[k]?=some (0,[],[],[])by rw[M.mid_at (by rw[List.length_replicate])];simp[hlt]);go_wp2_with (go_at_call 78;refine(zqo _ _ _ _ _ _ _ _ _ _ _ _ _ _  f1 f2 f3 hz2).mono ?_;rintro e w2 ⟨A1',n1',c1',A2',n2',c2',A3',n3',c3',rfl,o2,bel2⟩;have own':=own.below bel2 (Nat.le_refl _);obtain⟨css,Fs,hole,cs,hcs,hE⟩:=own'.openAt hD.out;obtain⟨A19,n19,c19,A29,n29,c29,A39,n39,c39,rfl,-,-,-⟩:=tP_R.1 (tP.read hE);have z2:=bel2.size;have q0:=(hole.cell hcs (j:=0) rfl).1;have r0:=(hole.cell hcs (j:=0) rfl).2;change w2.cell? ⟨w.heap.size,k*4+0,none⟩=_ at q0;change w2.frozen? ⟨w.heap.size,k*4+0,none⟩=_ at r0;have q1:=(hole.cell hcs (j:=1) rfl).1;have r1:=(hole.cell hcs (j:=1) rfl).2;change w2.cell? ⟨w.heap.size,k*4+1,none⟩=_ at q1;change w2.frozen? ⟨w.heap.size,k*4+1,none⟩=_ at r1;have q2:=(hole.cell hcs (j:=2) rfl).1;have r2:=(hole.cell hcs (j:=2) rfl).2;change w2.cell? ⟨w.heap.size,k*4+2,none⟩=_ at q2;change w2.frozen? ⟨w.heap.size,k*4+2,none⟩=_ at r2;have q3:=(hole.cell hcs (j:=3) rfl).1;have r3:=(hole.cell hcs (j:=3) rfl).2;change w2.cell? ⟨w.heap.size,k*4+3,none⟩=_ at q3;change w2.frozen? ⟨w.heap.size,k*4+3,none⟩=_ at r3;rw[Nat.add_zero]at q0 r0);go_roundw
   case rel=>
    have s0:=hole.set hcs 0 (by decide) (.int .i64 a0);have s1:=s0.1.set s0.2 1 (by decide) (.slice A1' n1' c1');have s2:=s1.1.set s1.2 2 (by decide) (.slice A2' n2' c2');have s3:=s2.1.set s2.2 3 (by decide) (.slice A3' n3' c3');have o3:=(tP.oset (g:=w.heap.size) (o:=k*4+3) (u:=.slice A3' n3' c3') (tP.oset (g:=w.heap.size) (o:=k*4+2) (u:=.slice A2' n2' c2') (tP.oset (g:=w.heap.size) (o:=k*4+1) (u:=.slice A1' n1' c1') (tP.oset (g:=w.heap.size) (o:=k*4+0) (u:=.int .i64 a0) o2 (.inl (by omega))) (.inl (by omega))) (.inl (by omega))) (.inl (by omega)));have h3:=s3.1.fill' s3.2 (y:=((a0,x1,x2,x3):zad)) (Fe:=Iv wr.heap.size w2.heap.size) o3 (fun b h1 h2=>by have:=h1.1;have:=h2.2;omega);rw[M.set_mid (by rw[List.length_replicate]) hX.out]at h3;have hb2:=hb.trans (bel2.mono hb.size);exact⟨k+1,by go_num,by omega,h3.wide (fun b hb=>⟨by unfold Iv at hb;omega,by simp;unfold Iv at hb;omega⟩),by simp;omega,((((hb2.setCell (Nat.le_refl _) _).setCell (Nat.le_refl _) _).setCell (Nat.le_refl _) _).setCell (Nat.le_refl _) _)⟩
   case measure=>simp[intOf];omega
  go_wp2;go_ret;rw[List.take_of_length_le (by omega),List.drop_eq_nil_of_le (by simp;omega),List.append_nil]at own;exact⟨_,_,_,rfl,sl_O.2 own,hb⟩
theorem zqr(A A':Yo)(n c n' c':Nat)(xs:List zad)(w:Yw)(hx:tPS.R w w.heap.size [.slice A n c] xs)(hy:tPS.R w w.heap.size [.slice A' n' c'] xs)(hn:hPS.sz xs<=100000000):
 Calls Tryz.prog 41 #[.slice A n c,.slice A' n' c'] w fun e w'=>e=.returned (.bool true)/\Below w.heap.size w w':=by
 have hr:=sl_R.1 hx;have hr':=sl_R.1 hy;obtain rfl:xs.length=n:=hr.cap.1;obtain rfl:xs.length=n':=hr'.cap.1;have hn1:xs.length+hP.szL xs<=100000000:=hn;clear hx hy hn
 go_enter Tryz.func41,Tryz.ntmps41
 go_wp2
 go_loopw [5] (fun i wr=>∃k:Nat,i=.int .i64 k/\k<=xs.length/\Below w.heap.size w wr) (fun i _=>xs.length-(intOf i).toNat)
 case atStart=>exact⟨0,rfl,by omega,Below.refl _ _⟩
 case round=>
  obtain⟨k,rfl,hk,hb⟩:=hrel
  by_cases hlt:k<xs.length
  ·have hX:=Lib.hid (List.getElem?_eq_getElem hlt);obtain⟨b,o,c1,cs,hv,hab,-,hE,hc⟩:=(hr.below hb).atX hX.out;obtain⟨b',o',c1',cs',hv',hab',-,hE',hc'⟩:=(hr'.below hb).atX hX.out;simp only[Value.slice.injEq]at hv hv';obtain⟨rfl,-,rfl⟩:=hv;obtain⟨rfl,-,rfl⟩:=hv';have hU:=hP.szL_at hX.out;generalize xs[k]=x at hX hE hE' hU;obtain⟨a0,x1,x2,x3⟩:=x;obtain⟨A1,n1,c1,A2,n2,c2,A3,n3,c3,rfl,e1,e2,e3⟩:=tP_R.1 hE;have ec0:wr.cell? ⟨b,o+k*4,none⟩=some (.int .i64 a0):=hc 0 _ rfl;have ec1:wr.cell? ⟨b,o+k*4+1,none⟩=some (.slice A1 n1 c1):=hc 1 _ rfl;have ec2:wr.cell? ⟨b,o+k*4+2,none⟩=some (.slice A2 n2 c2):=hc 2 _ rfl;have ec3:wr.cell? ⟨b,o+k*4+3,none⟩=some (.slice A3 n3 c3):=hc 3 _ rfl;obtain⟨A1',n1',c1',A2',n2',c2',A3',n3',c3',rfl,d1,d2,d3⟩:=tP_R.1 hE';have dc0:wr.cell? ⟨b',o'+k*4,none⟩=some (.int .i64 a0):=hc' 0 _ rfl;have dc1:wr.cell? ⟨b',o'+k*4+1,none⟩=some (.slice A1' n1' c1'):=hc' 1 _ rfl;have dc2:wr.cell? ⟨b',o'+k*4+2,none⟩=some (.slice A2' n2' c2'):=hc' 2 _ rfl;have dc3:wr.cell? ⟨b',o'+k*4+3,none⟩=some (.slice A3' n3' c3'):=hc' 3 _ rfl;have hbr:b<wr.heap.size:=Nat.lt_of_lt_of_le hab hb.size;have hbr':b'<wr.heap.size:=Nat.lt_of_lt_of_le hab' hb.size;have hz2:hP.sz ((a0,x1,x2,x3):zad)<=100000000:=(by omega);have f1:=tSS.later (tSS.more hb.size e1) (zae (Below.refl _ _) 1);have g1:=tSS.later (tSS.more hb.size d1) (zae (Below.refl _ _) 1);have f2:=tNS.later (tNS.more hb.size e2) (zae (Below.refl _ _) 1);have g2:=tNS.later (tNS.more hb.size d2) (zae (Below.refl _ _) 1);have f3:=tS.later (tS.more hb.size e3) (zae (Below.refl _ _) 1);have g3:=tS.later (tS.more hb.size d3) (zae (Below.refl _ _) 1);clear hc hc';go_wp2
   go_region_held3 (fun w'=>Below wr.heap.size wr w'/\w'.cell? ⟨b,o+k*4,none⟩=some (.int .i64 a0)/\w'.cell? ⟨b,o+k*4+1,none⟩=some (.slice A1 n1 c1)/\w'.cell? ⟨b,o+k*4+2,none⟩=some (.slice A2 n2 c2)/\w'.cell? ⟨b,o+k*4+3,none⟩=some (.slice A3 n3 c3)/\w'.cell? ⟨b',o'+k*4,none⟩=some (.int .i64 a0)/\w'.cell? ⟨b',o'+k*4+1,none⟩=some (.slice A1' n1' c1')/\w'.cell? ⟨b',o'+k*4+2,none⟩=some (.slice A2' n2' c2')/\w'.cell? ⟨b',o'+k*4+3,none⟩=some (.slice A3' n3' c3'))
    (first
     | exact⟨zae (Below.refl _ _) _,ec0,ec1,ec2,ec3,dc0,dc1,dc2,dc3⟩
     | exact⟨zda bel2 rfl (And.left (by assumption)),za8 bel2 rfl (And.left (by assumption)) ec0 hbr,za8 bel2 rfl (And.left (by assumption)) ec1 hbr,za8 bel2 rfl (And.left (by assumption)) ec2 hbr,za8 bel2 rfl (And.left (by assumption)) ec3 hbr,za8 bel2 rfl (And.left (by assumption)) dc0 hbr',za8 bel2 rfl (And.left (by assumption)) dc1 hbr',za8 bel2 rfl (And.left (by assumption)) dc2 hbr',za8 bel2 rfl (And.left (by assumption)) dc3 hbr'⟩)
    (first|(go_at_call 97;refine(zqn _ _ _ _ _ _ _ _ _ _ _ _ _ _ _ _ _ _ _ _ _ _ _ f1 f2 f3 g1 g2 g3 hz2).mono ?_;rintro e w2 ⟨rfl,bel2⟩))
   go_wp2;go_roundw
   case rel=>exact⟨k+1,by go_num,by omega,hb.trans ((zda bel2 rfl (zae (Below.refl _ _) _)).mono hb.size)⟩
   case measure=>simp[intOf];omega
  go_wp2;go_ret;exact⟨rfl,hb⟩
abbrev tTS:Ty (List (List zas)):=tT.sl 98
abbrev hTS:Hs (List (List zas)):=hT.sl
theorem zgj(A:Yo)(n c:Nat)(xs:List (List zas))(l:Int)(w:Yw)(hx:tTS.R w w.heap.size [.slice A n c] xs)(hl:0<=l/\l<=1000000000):
 Calls Tryz.prog 21 #[.slice A n c,.int .i64 l] w fun e w'=>e=.returned (.int .i64 (if (hTS.sz xs:Int)<=l then l-hTS.sz xs else -1))/\Below w.heap.size w w':=by
 have hr:=sl_R.1 hx;obtain⟨h1,h2,h3⟩:=hr.cap;have hn:n<=9223372036854775807:=by unfold maxLen at h3;omega
 obtain rfl:xs.length=n:=h1;have hzz:hTS.sz xs=xs.length+hT.szL xs:=rfl;have HZ:=Lib.hid hzz;clear h2 h3 hx hzz;generalize hR:(if (hTS.sz xs:Int)<=l then l-(hTS.sz xs:Int)else -1)=R;have HR:=Lib.hid hR;clear hR
 by_cases h:(xs.length:Int)<=l
 ·go_enter Tryz.func21,Tryz.ntmps21
  go_wp2
  go_loopw [1,5] (fun q i wr=>∃k:Nat,i=.int .i64 k/\k<=xs.length/\(hT.szL (xs.take k):Int)<=l-xs.length/\q=.int .i64 (l-xs.length-hT.szL (xs.take k))/\Below w.heap.size w wr) (fun _ i _=>xs.length-(intOf i).toNat)
  case atStart=>exact⟨0,rfl,by omega,by simp[Hs.szL];omega,by simp[Hs.szL],Below.refl _ _⟩
  case round=>
   obtain⟨k,rfl,hk,hz,rfl,hb⟩:=hrel
   by_cases hlt:k<xs.length
   ·have hX:=Lib.hid (List.getElem?_eq_getElem hlt);obtain⟨b,o,c1,cs,hv,hab,-,hE,hc⟩:=(hr.below hb).atX hX.out;simp only[Value.slice.injEq]at hv;obtain⟨rfl,-,rfl⟩:=hv;have hTk:=Lib.hid (hT.szL_take hX.out);have hU:=hT.szL_at hX.out;generalize xs[k]=x at hX hE hTk hU;obtain⟨A0,n0,c0,rfl⟩:=za9 hE;have ec0:wr.cell? ⟨b,o+k*1,none⟩=some (.slice A0 n0 c0):=hc 0 _ rfl;rw[Nat.mul_one]at ec0;have f0:=tT.more hb.size hE;clear hc
    by_cases hle:(hT.sz x:Int)<=l-xs.length-hT.szL (xs.take k)
    ·have hi:=Lib.hid (show (if (hT.sz x:Int)<=l-xs.length-hT.szL (xs.take k)then l-xs.length-hT.szL (xs.take k)-hT.sz x else -1)=l-xs.length-hT.szL (xs.take k)-hT.sz x by rw[if_pos hle]);go_wp2_with (go_at_call 64;refine(zkc _ _ _ _ _ _ f0 (by omega)).mono ?_;rw[hi.out];rintro e w2 ⟨rfl,bel2⟩);go_roundw
     case rel=>exact⟨k+1,by go_num,by omega,by rw[hTk.out];omega,by rw[hTk.out];go_num,hb.trans (bel2.mono hb.size)⟩
     case measure=>simp[intOf];omega
    have hi:=Lib.hid (show (if (hT.sz x:Int)<=l-xs.length-hT.szL (xs.take k)then l-xs.length-hT.szL (xs.take k)-hT.sz x else -1) = -1 by rw[if_neg hle]);have hj:=Lib.hid (show (if (hTS.sz xs:Int)<=l then l-hTS.sz xs else -1) = -1 by rw[HZ.out,if_neg (by omega)]);go_wp2_with (go_at_call 64;refine(zkc _ _ _ _ _ _ f0 (by omega)).mono ?_;rw[hi.out];rintro e w2 ⟨rfl,bel2⟩);go_ret;exact⟨zay (hj.out.symm.trans HR.out),hb.trans (bel2.mono hb.size)⟩
   obtain rfl:xs.length=k:=by omega
   rw[List.take_of_length_le (Nat.le_refl _)]at hz ⊢;have hj:=Lib.hid (show (if (hTS.sz xs:Int)<=l then l-hTS.sz xs else -1)=l-xs.length-hT.szL xs by rw[HZ.out,if_pos (by omega)];omega);go_wp2;go_ret;exact⟨zay (hj.out.symm.trans HR.out),hb⟩
 have hj:=Lib.hid (show (if (hTS.sz xs:Int)<=l then l-hTS.sz xs else -1) = -1 by rw[HZ.out,if_neg (by omega)])
 go_enter Tryz.func21,Tryz.ntmps21
 go_wp2;go_ret;exact⟨zay (hj.out.symm.trans HR.out),Below.refl _ _⟩
theorem zip:EI Tryz.prog 32 98 (.agg #[.slice none 0 0]) 1 24:=⟨Tryz.underlying32,by kernel_rfl,rfl,by decide⟩
theorem zqs(w:Yw)(F:Nat->Prop):tT.O w F [.slice none 0 0] []:=⟨_,rfl,OS.nil _ _ _ _⟩
theorem zqt(A:Yo)(n c:Nat)(xs:List (List zas))(w:Yw)(hx:tTS.R w w.heap.size [.slice A n c] xs)(hn:hTS.sz xs<=100000000):
 Calls Tryz.prog 30 #[.slice A n c] w fun e w'=>∃A' n' c',e=.returned (.slice A' n' c')/\tTS.O w' (Iv w.heap.size w'.heap.size) [.slice A' n' c'] xs/\Below w.heap.size w w':=by
 have hr:=sl_R.1 hx;obtain rfl:xs.length=n:=hr.cap.1;have hn1:xs.length+hT.szL xs<=100000000:=hn;clear hx hn
 go_enter Tryz.func30,Tryz.ntmps30
 go_wp2_with (at_make;refine zdo zip rfl _ _ rfl xs.length _ _ rfl rfl rfl rfl (by omega) (by unfold maxLen;omega) ?_;intro w1 own1 bel1);have hs1:w.heap.size+1<=w1.heap.size:=(World.ownsRow.lt own1 _ rfl).2
 have own2:OS tT 98 w1 (Iv w.heap.size w1.heap.size) (.slice (some ⟨w.heap.size,0,none⟩) xs.length xs.length) (List.replicate xs.length ([]:(List zas))):=
  OS.made (t:=tT) (zc:=[.slice none 0 0]) zqs rfl ⟨Nat.le_refl _,by omega⟩ own1
 clear own1
 go_loopw [4] (fun i wr=>∃k:Nat,i=.int .i64 k/\k<=xs.length/\OS tT 98 wr (Iv w.heap.size wr.heap.size) (.slice (some ⟨w.heap.size,0,none⟩) xs.length xs.length) (xs.take k++(List.replicate xs.length ([]:(List zas))).drop k)/\w.heap.size+1<=wr.heap.size/\Below w.heap.size w wr)
  (fun i _=>xs.length-(intOf i).toNat)
 case atStart=>exact⟨0,rfl,by omega,by simpa using own2,hs1,bel1⟩
 case round=>
  obtain⟨k,rfl,hk,own,hsz,hb⟩:=hrel
  by_cases hlt:k<xs.length
  ·have hX:=Lib.hid (List.getElem?_eq_getElem hlt);obtain⟨b,o,c1,cs,hv,hab,-,hE,hc⟩:=(hr.below hb).atX hX.out;simp only[Value.slice.injEq]at hv;obtain⟨rfl,-,rfl⟩:=hv;have hU:=hT.szL_at hX.out;generalize xs[k]=x at hX hE hU;obtain⟨A0,n0,c0,rfl⟩:=za9 hE;have ec0:wr.cell? ⟨b,o+k*1,none⟩=some (.slice A0 n0 c0):=hc 0 _ rfl;rw[Nat.mul_one]at ec0;have f0:=tT.more hb.size hE;have hz2:hT.sz x<=100000000:=(by omega);clear hc;have hD:=Lib.hid (show (xs.take k++(List.replicate xs.length ([]:(List zas))).drop k)[k]?=some []by rw[M.mid_at (by rw[List.length_replicate])];simp[hlt]);go_wp2_with (go_at_call 77;refine(zo9 _ _ _ _ _ f0 hz2).mono ?_;rintro e w2 ⟨A0',n0',c0',rfl,o2,bel2⟩;have own':=own.below bel2 (Nat.le_refl _);obtain⟨css,Fs,hole,cs,hcs,hE⟩:=own'.openAt hD.out;obtain⟨A09,n09,c09,rfl⟩:=za9 (tT.read hE);have z2:=bel2.size;have q0:=(hole.cell hcs (j:=0) rfl).1;have r0:=(hole.cell hcs (j:=0) rfl).2;change w2.cell? ⟨w.heap.size,k*1+0,none⟩=_ at q0;change w2.frozen? ⟨w.heap.size,k*1+0,none⟩=_ at r0;rw[Nat.add_zero,Nat.mul_one]at q0 r0);go_roundw
   case rel=>
    have s0:=hole.set hcs 0 (by decide) (.slice A0' n0' c0');have o3:=(tT.oset (g:=w.heap.size) (o:=k*1+0) (u:=.slice A0' n0' c0') o2 (.inl (by omega)));have h3:=s0.1.fill' s0.2 (y:=x) (Fe:=Iv wr.heap.size w2.heap.size) o3 (fun b h1 h2=>by have:=h1.1;have:=h2.2;omega);rw[M.set_mid (by rw[List.length_replicate]) hX.out]at h3;have hb2:=hb.trans (bel2.mono hb.size);rw[Nat.add_zero,show tT.s=1 from rfl,Nat.mul_one]at h3;exact⟨k+1,by go_num,by omega,h3.wide (fun b hb=>⟨by unfold Iv at hb;omega,by simp;unfold Iv at hb;omega⟩),by simp;omega,(hb2.setCell (Nat.le_refl _) _)⟩
   case measure=>simp[intOf];omega
  go_wp2;go_ret;rw[List.take_of_length_le (by omega),List.drop_eq_nil_of_le (by simp;omega),List.append_nil]at own;exact⟨_,_,_,rfl,sl_O.2 own,hb⟩
theorem zqu(A A':Yo)(n c n' c':Nat)(xs:List (List zas))(w:Yw)(hx:tTS.R w w.heap.size [.slice A n c] xs)(hy:tTS.R w w.heap.size [.slice A' n' c'] xs)(hn:hTS.sz xs<=100000000):
 Calls Tryz.prog 39 #[.slice A n c,.slice A' n' c'] w fun e w'=>e=.returned (.bool true)/\Below w.heap.size w w':=by
 have hr:=sl_R.1 hx;have hr':=sl_R.1 hy;obtain rfl:xs.length=n:=hr.cap.1;obtain rfl:xs.length=n':=hr'.cap.1;have hn1:xs.length+hT.szL xs<=100000000:=hn;clear hx hy hn
 go_enter Tryz.func39,Tryz.ntmps39
 go_wp2
 go_loopw [5] (fun i wr=>∃k:Nat,i=.int .i64 k/\k<=xs.length/\Below w.heap.size w wr) (fun i _=>xs.length-(intOf i).toNat)
 case atStart=>exact⟨0,rfl,by omega,Below.refl _ _⟩
 case round=>
  obtain⟨k,rfl,hk,hb⟩:=hrel
  by_cases hlt:k<xs.length
  ·have hX:=Lib.hid (List.getElem?_eq_getElem hlt);obtain⟨b,o,c1,cs,hv,hab,-,hE,hc⟩:=(hr.below hb).atX hX.out;obtain⟨b',o',c1',cs',hv',hab',-,hE',hc'⟩:=(hr'.below hb).atX hX.out;simp only[Value.slice.injEq]at hv hv';obtain⟨rfl,-,rfl⟩:=hv;obtain⟨rfl,-,rfl⟩:=hv';have hU:=hT.szL_at hX.out;generalize xs[k]=x at hX hE hE' hU;obtain⟨A0,n0,c0,rfl⟩:=za9 hE;have ec0:wr.cell? ⟨b,o+k*1,none⟩=some (.slice A0 n0 c0):=hc 0 _ rfl;rw[Nat.mul_one]at ec0;obtain⟨A0',n0',c0',rfl⟩:=za9 hE';have dc0:wr.cell? ⟨b',o'+k*1,none⟩=some (.slice A0' n0' c0'):=hc' 0 _ rfl;rw[Nat.mul_one]at dc0;have hbr:b<wr.heap.size:=Nat.lt_of_lt_of_le hab hb.size;have hbr':b'<wr.heap.size:=Nat.lt_of_lt_of_le hab' hb.size;have hz2:hT.sz x<=100000000:=(by omega);have f0:=tT.later (tT.more hb.size hE) (zae (Below.refl _ _) 1);have g0:=tT.later (tT.more hb.size hE') (zae (Below.refl _ _) 1);clear hc hc' hE hE';go_wp2
   go_region_held3 (fun w'=>Below wr.heap.size wr w'/\w'.cell? ⟨b,o+k,none⟩=some (.slice A0 n0 c0)/\w'.cell? ⟨b',o'+k,none⟩=some (.slice A0' n0' c0'))
    (first
     | exact⟨zae (Below.refl _ _) _,ec0,dc0⟩
     | exact⟨zda bel2 rfl (And.left (by assumption)),za8 bel2 rfl (And.left (by assumption)) ec0 hbr,za8 bel2 rfl (And.left (by assumption)) dc0 hbr'⟩)
    (first|(go_at_call 96;refine(zpa _ _ _ _ _ _ _ _ f0 g0 hz2).mono ?_;rintro e w2 ⟨rfl,bel2⟩))
   go_wp2;go_roundw
   case rel=>exact⟨k+1,by go_num,by omega,hb.trans ((zda bel2 rfl (zae (Below.refl _ _) _)).mono hb.size)⟩
   case measure=>simp[intOf];omega
  go_wp2;go_ret;exact⟨rfl,hb⟩
end Go.Proofs.YtifeldeikhmckaaGreat
