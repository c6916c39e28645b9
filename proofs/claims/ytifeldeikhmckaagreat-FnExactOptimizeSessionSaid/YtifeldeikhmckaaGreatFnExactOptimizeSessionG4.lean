import Derived.Test.YtifeldeikhmckaaGreatFnExactOptimizeSessionG3
import Derived.Test.YtifeldeikhmckaaGreatProg
import Derived.Test.YtifeldeikhmckaaGreatFnExactOptimizeSessionG2
import Derived.Test.YtifeldeikhmckaaGreatFnExactOptimizeSessionG1
import Derived.Lib.QuietBelow
import Derived.BigQuiet
set_option linter.unusedVariables false
set_option linter.unusedSimpArgs false
set_option maxRecDepth 100000
set_option maxHeartbeats 4000000
namespace Go.Proofs.YtifeldeikhmckaaGreat
open Go.RowKit Go.Sort
theorem zib:EI Tryz.prog 96 165 (.agg #[.int .i64 0,.int .i64 0,.int .i64 0,.int .i64 0,.int .i64 0]) 5 40:=⟨Tryz.underlying96,by kernel_rfl,rfl,by decide⟩
def cl (p:(Int×Int×Int×Int×Int)):List Value:=[.int .i64 p.1,.int .i64 p.2.1,.int .i64 p.2.2.1,.int .i64 p.2.2.2.1,.int .i64 p.2.2.2.2]
theorem ze5(p:(Int×Int×Int×Int×Int)):(cl p).length=5:=rfl
abbrev tCl:Ty (Int×Int×Int×Int×Int):=Ty.flat 5 (by decide) (0,0,0,0,0) cl ze5 (by simp[cl,Value.oneCell'])
abbrev hCl:Hs (Int×Int×Int×Int×Int):=hI.prod (hI.prod (hI.prod (hI.prod hI)))
abbrev tT:Ty (List (Int×Int×Int×Int×Int)):=tCl.sl 165
abbrev hT:Hs (List (Int×Int×Int×Int×Int)):=hCl.sl
theorem zo2(xs:List (Int×Int×Int×Int×Int)):hCl.szL xs=0:=by
 induction xs with
 | nil=>rfl
 | cons x xs ih=>rw[Hs.szL,ih];rfl
theorem zic(xs:List (Int×Int×Int×Int×Int)):hCl.cntL xs=5*xs.length:=by
 induction xs with
 | nil=>rfl
 | cons x xs ih=>
  rw[Hs.cntL,ih,List.length_cons];show (1+(1+(1+(1+1))))+_=_
  omega
theorem zg8(xs:List (Int×Int×Int×Int×Int)):hT.sz xs=xs.length:=by show xs.length+hCl.szL xs=_;rw[zo2];rfl
theorem zid(xs:List (Int×Int×Int×Int×Int)):hT.cnt xs=5*xs.length:=zic xs
theorem cl_T(x:List (Int×Int×Int×Int×Int)):hT.cnt x<=10*hT.sz x+10:=by rw[zg8,zid];omega
theorem zka(k:Int)(x:(Int×Int×Int×Int×Int)):hCl.mark k x=(k,k+1,k+2,k+3,k+4):=by
 simp[Hs.prod,hI]
 try omega
theorem zo3(p0 p1 p2 p3 p4:Int)(w:Yw):
 Calls Tryz.prog 189 #[.agg #[.int .i64 p0,.int .i64 p1,.int .i64 p2,.int .i64 p3,.int .i64 p4]] w fun e w'=>e=.returned (.agg #[.int .i64 p0,.int .i64 p1,.int .i64 p2,.int .i64 p3,.int .i64 p4])/\Below w.heap.size w w':=by
 go_enter Tryz.func189,Tryz.ntmps189
 go_wp2;exact bodyPost_ret (v:=.agg #[.int .i64 p0,.int .i64 p1,.int .i64 p2,.int .i64 p3,.int .i64 p4]) (by simp[results,Tryz.results189,go_sem]) rfl ⟨rfl,(((Below.refl _ _).alloc (Nat.le_refl _) _).alloc (by simp) _).alloc (by simp;omega) _⟩
theorem zo4(p0 p1 p2 p3 p4:Int)(w:Yw):
 Calls Tryz.prog 208 #[.agg #[.int .i64 p0,.int .i64 p1,.int .i64 p2,.int .i64 p3,.int .i64 p4],.agg #[.int .i64 p0,.int .i64 p1,.int .i64 p2,.int .i64 p3,.int .i64 p4]] w fun e w'=>e=.returned (.bool true)/\Below w.heap.size w w':=by
 go_enter Tryz.func208,Tryz.ntmps208
 go_wp2;go_ret;exact⟨rfl,((Below.refl _ _).alloc (Nat.le_refl _) _).alloc (by simp) _⟩
theorem zo5(A:Yo)(n c:Nat)(xs:List (Int×Int×Int×Int×Int))(w:Yw)(hx:tT.R w w.heap.size [.slice A n c] xs)(hn:hT.sz xs<=100000000):
 Calls Tryz.prog 136 #[.slice A n c] w fun e w'=>∃A' n' c',e=.returned (.slice A' n' c')/\tT.O w' (Iv w.heap.size w'.heap.size) [.slice A' n' c'] xs/\Below w.heap.size w w':=by
 have hr:=sl_R.1 hx;obtain rfl:xs.length=n:=hr.cap.1;rw[zg8]at hn;clear hx
 go_enter Tryz.func136,Tryz.ntmps136
 go_wp2_with (at_make;refine zdo zib rfl _ _ rfl xs.length _ _ rfl rfl rfl rfl (by omega) (by unfold maxLen;omega) ?_;intro w1 own1 bel1);have hs1:w.heap.size+1<=w1.heap.size:=(World.ownsRow.lt own1 _ rfl).2
 have own2:OS tCl 165 w1 (Iv w.heap.size (w.heap.size+1)) (.slice (some ⟨w.heap.size,0,none⟩) xs.length xs.length) (List.replicate xs.length (0,0,0,0,0)):=
  OS.made (zc:=[.int .i64 0,.int .i64 0,.int .i64 0,.int .i64 0,.int .i64 0]) (fun _ _=>rfl) rfl ⟨Nat.le_refl _,by omega⟩ own1
 clear own1
 go_loopw [4] (fun i wr=>∃k:Nat,i=.int .i64 k/\k<=xs.length/\OS tCl 165 wr (Iv w.heap.size (w.heap.size+1)) (.slice (some ⟨w.heap.size,0,none⟩) xs.length xs.length) (xs.take k++(List.replicate xs.length (0,0,0,0,0)).drop k)/\w.heap.size+1<=wr.heap.size/\Below w.heap.size w wr)
  (fun i _=>xs.length-(intOf i).toNat)
 case atStart=>exact⟨0,rfl,by omega,by simpa using own2,hs1,bel1⟩
 case round=>
  obtain⟨k,rfl,hk,own,hsz,hb⟩:=hrel
  by_cases hlt:k<xs.length
  ·have hX:=Lib.hid (List.getElem?_eq_getElem hlt);obtain⟨b,o,c1,cs,hv,hab,-,hE,hc⟩:=(hr.below hb).atX hX.out;simp only[Value.slice.injEq]at hv;obtain⟨rfl,-,rfl⟩:=hv;generalize xs[k]=x at hX hE;obtain⟨p0,p1,p2,p3,p4⟩:=x;obtain rfl:cs=[.int .i64 p0,.int .i64 p1,.int .i64 p2,.int .i64 p3,.int .i64 p4]:=hE;have hc0:wr.cell? ⟨b,o+k*5,none⟩=some (.int .i64 p0):=hc 0 _ rfl;have hc1:wr.cell? ⟨b,o+k*5+1,none⟩=some (.int .i64 p1):=hc 1 _ rfl;have hc2:wr.cell? ⟨b,o+k*5+2,none⟩=some (.int .i64 p2):=hc 2 _ rfl;have hc3:wr.cell? ⟨b,o+k*5+3,none⟩=some (.int .i64 p3):=hc 3 _ rfl;have hc4:wr.cell? ⟨b,o+k*5+4,none⟩=some (.int .i64 p4):=hc 4 _ rfl;have hD:=Lib.hid (show (xs.take k++(List.replicate xs.length ((0,0,0,0,0):(Int×Int×Int×Int×Int))).drop k)[k]?=some (0,0,0,0,0)by rw[M.mid_at (by rw[List.length_replicate])];simp[hlt]);clear hc;go_wp2_with (go_at_call 189;refine(zo3 _ _ _ _ _ _).mono ?_;rintro e w2 ⟨rfl,bel2⟩;have own':=own.below bel2 hsz;obtain⟨css,Fs,hole,cs,hcs,hE⟩:=own'.openAt hD.out;obtain rfl:cs=[.int .i64 0,.int .i64 0,.int .i64 0,.int .i64 0,.int .i64 0]:=hE;have q0:w2.cell? ⟨w.heap.size,k*5,none⟩=some (.int .i64 0):=(hole.cell hcs (j:=0) rfl).1;have r0:w2.frozen? ⟨w.heap.size,k*5,none⟩=false:=(hole.cell hcs (j:=0) rfl).2;have q1:w2.cell? ⟨w.heap.size,k*5+1,none⟩=some (.int .i64 0):=(hole.cell hcs (j:=1) rfl).1;have r1:w2.frozen? ⟨w.heap.size,k*5+1,none⟩=false:=(hole.cell hcs (j:=1) rfl).2;have q2:w2.cell? ⟨w.heap.size,k*5+2,none⟩=some (.int .i64 0):=(hole.cell hcs (j:=2) rfl).1;have r2:w2.frozen? ⟨w.heap.size,k*5+2,none⟩=false:=(hole.cell hcs (j:=2) rfl).2;have q3:w2.cell? ⟨w.heap.size,k*5+3,none⟩=some (.int .i64 0):=(hole.cell hcs (j:=3) rfl).1;have r3:w2.frozen? ⟨w.heap.size,k*5+3,none⟩=false:=(hole.cell hcs (j:=3) rfl).2;have q4:w2.cell? ⟨w.heap.size,k*5+4,none⟩=some (.int .i64 0):=(hole.cell hcs (j:=4) rfl).1;have r4:w2.frozen? ⟨w.heap.size,k*5+4,none⟩=false:=(hole.cell hcs (j:=4) rfl).2);go_roundw
   case rel=>
    have s0:=hole.set hcs 0 (by decide) (.int .i64 p0);have s1:=s0.1.set s0.2 1 (by decide) (.int .i64 p1);have s2:=s1.1.set s1.2 2 (by decide) (.int .i64 p2);have s3:=s2.1.set s2.2 3 (by decide) (.int .i64 p3);have s4:=s3.1.set s3.2 4 (by decide) (.int .i64 p4);have h3:=s4.1.fill s4.2 (y:=(p0,p1,p2,p3,p4)) rfl;rw[M.set_mid (by rw[List.length_replicate]) hX.out]at h3;have hb2:=hb.trans (bel2.mono hb.size);exact⟨k+1,by go_num,by omega,h3,by simpa using Nat.le_trans hsz bel2.size,((((hb2.setCell (Nat.le_refl _) _).setCell (Nat.le_refl _) _).setCell (Nat.le_refl _) _).setCell (Nat.le_refl _) _).setCell (Nat.le_refl _) _⟩
   case measure=>simp[intOf];omega
  go_wp2;go_ret;rw[List.take_of_length_le (by omega),List.drop_eq_nil_of_le (by simp;omega),List.append_nil]at own;exact⟨_,_,_,rfl,sl_O.2 (own.iv (Nat.le_refl _) hsz),hb⟩
theorem zo6(A A':Yo)(n c n' c':Nat)(xs:List (Int×Int×Int×Int×Int))(w:Yw)(hx:tT.R w w.heap.size [.slice A n c] xs)(hy:tT.R w w.heap.size [.slice A' n' c'] xs)(hn:hT.sz xs<=100000000):
 Calls Tryz.prog 154 #[.slice A n c,.slice A' n' c'] w fun e w'=>e=.returned (.bool true)/\Below w.heap.size w w':=by
 have hr:=sl_R.1 hx;have hr':=sl_R.1 hy;obtain rfl:xs.length=n:=hr.cap.1;obtain rfl:xs.length=n':=hr'.cap.1;rw[zg8]at hn;clear hx hy
 go_enter Tryz.func154,Tryz.ntmps154
 go_wp2
 go_loopw [5] (fun i wr=>∃k:Nat,i=.int .i64 k/\k<=xs.length/\Below w.heap.size w wr) (fun i _=>xs.length-(intOf i).toNat)
 case atStart=>exact⟨0,rfl,by omega,Below.refl _ _⟩
 case round=>
  obtain⟨k,rfl,hk,hb⟩:=hrel
  by_cases hlt:k<xs.length
  ·have hX:=Lib.hid (List.getElem?_eq_getElem hlt);obtain⟨b,o,c1,cs,hv,hab,-,hE,hc⟩:=(hr.below hb).atX hX.out;obtain⟨b',o',c1',cs',hv',hab',-,hE',hc'⟩:=(hr'.below hb).atX hX.out;simp only[Value.slice.injEq]at hv hv';obtain⟨rfl,-,rfl⟩:=hv;obtain⟨rfl,-,rfl⟩:=hv';generalize xs[k]=x at hX hE hE';obtain⟨p0,p1,p2,p3,p4⟩:=x;obtain rfl:cs=[.int .i64 p0,.int .i64 p1,.int .i64 p2,.int .i64 p3,.int .i64 p4]:=hE;obtain rfl:cs'=[.int .i64 p0,.int .i64 p1,.int .i64 p2,.int .i64 p3,.int .i64 p4]:=hE';have hc0:wr.cell? ⟨b,o+k*5,none⟩=some (.int .i64 p0):=hc 0 _ rfl;have hc1:wr.cell? ⟨b,o+k*5+1,none⟩=some (.int .i64 p1):=hc 1 _ rfl;have hc2:wr.cell? ⟨b,o+k*5+2,none⟩=some (.int .i64 p2):=hc 2 _ rfl;have hc3:wr.cell? ⟨b,o+k*5+3,none⟩=some (.int .i64 p3):=hc 3 _ rfl;have hc4:wr.cell? ⟨b,o+k*5+4,none⟩=some (.int .i64 p4):=hc 4 _ rfl;have hd0:wr.cell? ⟨b',o'+k*5,none⟩=some (.int .i64 p0):=hc' 0 _ rfl;have hd1:wr.cell? ⟨b',o'+k*5+1,none⟩=some (.int .i64 p1):=hc' 1 _ rfl;have hd2:wr.cell? ⟨b',o'+k*5+2,none⟩=some (.int .i64 p2):=hc' 2 _ rfl;have hd3:wr.cell? ⟨b',o'+k*5+3,none⟩=some (.int .i64 p3):=hc' 3 _ rfl;have hd4:wr.cell? ⟨b',o'+k*5+4,none⟩=some (.int .i64 p4):=hc' 4 _ rfl;have hbr:b<wr.heap.size:=Nat.lt_of_lt_of_le hab hb.size;have hbr':b'<wr.heap.size:=Nat.lt_of_lt_of_le hab' hb.size;clear hc hc';go_wp2
   go_region_held3 (fun w'=>Below wr.heap.size wr w'/\w'.cell? ⟨b,o+k*5,none⟩=some (.int .i64 p0)/\w'.cell? ⟨b,o+k*5+1,none⟩=some (.int .i64 p1)/\w'.cell? ⟨b,o+k*5+2,none⟩=some (.int .i64 p2)/\w'.cell? ⟨b,o+k*5+3,none⟩=some (.int .i64 p3)/\w'.cell? ⟨b,o+k*5+4,none⟩=some (.int .i64 p4)/\w'.cell? ⟨b',o'+k*5,none⟩=some (.int .i64 p0)/\w'.cell? ⟨b',o'+k*5+1,none⟩=some (.int .i64 p1)/\w'.cell? ⟨b',o'+k*5+2,none⟩=some (.int .i64 p2)/\w'.cell? ⟨b',o'+k*5+3,none⟩=some (.int .i64 p3)/\w'.cell? ⟨b',o'+k*5+4,none⟩=some (.int .i64 p4))
    (first
     | exact⟨zae (Below.refl _ _) _,hc0,hc1,hc2,hc3,hc4,hd0,hd1,hd2,hd3,hd4⟩
     | exact⟨zda bel2 rfl (And.left (by assumption)),za8 bel2 rfl (And.left (by assumption)) hc0 hbr,za8 bel2 rfl (And.left (by assumption)) hc1 hbr,za8 bel2 rfl (And.left (by assumption)) hc2 hbr,za8 bel2 rfl (And.left (by assumption)) hc3 hbr,za8 bel2 rfl (And.left (by assumption)) hc4 hbr,za8 bel2 rfl (And.left (by assumption)) hd0 hbr',za8 bel2 rfl (And.left (by assumption)) hd1 hbr',za8 bel2 rfl (And.left (by assumption)) hd2 hbr',za8 bel2 rfl (And.left (by assumption)) hd3 hbr',za8 bel2 rfl (And.left (by assumption)) hd4 hbr'⟩)
    (first|(go_at_call 208;refine(zo4 _ _ _ _ _ _).mono ?_;rintro e w2 ⟨rfl,bel2⟩))
   go_wp2;go_roundw
   case rel=>exact⟨k+1,by go_num,by omega,hb.trans ((zda bel2 rfl (zae (Below.refl _ _) _)).mono hb.size)⟩
   case measure=>simp[intOf];omega
  go_wp2;go_ret;exact⟨rfl,hb⟩
theorem zo7(A:Yo)(n c:Nat)(k:Int)(xs:List (Int×Int×Int×Int×Int))(w:Yw)(F:Nat->Prop)(hx:tT.O w F [.slice A n c] xs)(hk:0<=k/\k+(hT.cnt xs:Int)<=1000000000):
 Calls Tryz.prog 99 #[.slice A n c,.int .i64 k] w fun e w'=>e=.returned (.int .i64 (k+hT.cnt xs))/\tT.O w' F [.slice A n c] (hT.mark k xs)/\Chg F w w':=by
 have ow:=sl_O.1 hx;obtain rfl:xs.length=n:=ow.read.cap.1;rw[zid]at *;clear hx
 go_enter Tryz.func99,Tryz.ntmps99
 go_wp2
 go_loopw [1,5] (fun q i wr=>∃j:Nat,i=.int .i64 j/\j<=xs.length/\q=.int .i64 (k+5*(j:Int))/\OS tCl 165 wr F (.slice A xs.length c) ((hCl.mkL k xs).take j++xs.drop j)/\Chg F w wr)
  (fun _ i _=>xs.length-(intOf i).toNat)
 case atStart=>exact⟨0,rfl,by omega,by go_num,by simpa using ow,Chg.refl _ _⟩
 case round=>
  obtain⟨j,rfl,hj,rfl,own,hg⟩:=hrel
  by_cases hlt:j<xs.length
  ·have hml:=Lib.hid (hCl.mkL_len k xs);have hX:=Lib.hid (List.getElem?_eq_getElem hlt);generalize xs[j]=x at hX;obtain⟨p0,p1,p2,p3,p4⟩:=x;have hyj:=Lib.hid (show ((hCl.mkL k xs).take j++xs.drop j)[j]?=some (p0,p1,p2,p3,p4)by rw[M.mid_at hml.out];exact hX.out);obtain⟨css,Fs,hole,cs,hcs,hE⟩:=own.openAt hyj.out;obtain rfl:cs=[.int .i64 p0,.int .i64 p1,.int .i64 p2,.int .i64 p3,.int .i64 p4]:=hE;obtain⟨g,rfl,hFg,hFn,hgl,-⟩:=hole.form (List.getElem?_eq_some_iff.1 hyj.out).1;have hmk:=Lib.hid (show (hCl.mkL k xs)[j]?=some (k+5*(j:Int),k+5*(j:Int)+1,k+5*(j:Int)+1+1,k+5*(j:Int)+1+1+1,k+5*(j:Int)+1+1+1+1)by rw[hCl.mkL_at k hX.out,zka,zic,List.length_take,Nat.min_eq_left hj];simp only[Option.some.injEq,Prod.mk.injEq];omega);have q0:wr.cell? ⟨g,j*5,none⟩=some (.int .i64 p0):=(hole.cell hcs (j:=0) rfl).1;have r0:wr.frozen? ⟨g,j*5,none⟩=false:=(hole.cell hcs (j:=0) rfl).2;have q1:wr.cell? ⟨g,j*5+1,none⟩=some (.int .i64 p1):=(hole.cell hcs (j:=1) rfl).1;have r1:wr.frozen? ⟨g,j*5+1,none⟩=false:=(hole.cell hcs (j:=1) rfl).2;have q2:wr.cell? ⟨g,j*5+2,none⟩=some (.int .i64 p2):=(hole.cell hcs (j:=2) rfl).1;have r2:wr.frozen? ⟨g,j*5+2,none⟩=false:=(hole.cell hcs (j:=2) rfl).2;have q3:wr.cell? ⟨g,j*5+3,none⟩=some (.int .i64 p3):=(hole.cell hcs (j:=3) rfl).1;have r3:wr.frozen? ⟨g,j*5+3,none⟩=false:=(hole.cell hcs (j:=3) rfl).2;have q4:wr.cell? ⟨g,j*5+4,none⟩=some (.int .i64 p4):=(hole.cell hcs (j:=4) rfl).1;have r4:wr.frozen? ⟨g,j*5+4,none⟩=false:=(hole.cell hcs (j:=4) rfl).2;go_wp2;go_roundw
   case rel=>
    have s0:=hole.set hcs 0 (by decide) (.int .i64 (k+5*(j:Int)));have c0:=hg.trans (Chg.set wr g (j*5+0) (.int .i64 (k+5*(j:Int))) hFg);have s1:=s0.1.set s0.2 1 (by decide) (.int .i64 (k+5*(j:Int)+1));have c1:=c0.trans (Chg.set _ g (j*5+1) (.int .i64 (k+5*(j:Int)+1)) hFg);have s2:=s1.1.set s1.2 2 (by decide) (.int .i64 (k+5*(j:Int)+1+1));have c2:=c1.trans (Chg.set _ g (j*5+2) (.int .i64 (k+5*(j:Int)+1+1)) hFg);have s3:=s2.1.set s2.2 3 (by decide) (.int .i64 (k+5*(j:Int)+1+1+1));have c3:=c2.trans (Chg.set _ g (j*5+3) (.int .i64 (k+5*(j:Int)+1+1+1)) hFg);have s4:=s3.1.set s3.2 4 (by decide) (.int .i64 (k+5*(j:Int)+1+1+1+1));have c4:=c3.trans (Chg.set _ g (j*5+4) (.int .i64 (k+5*(j:Int)+1+1+1+1)) hFg);have h3:=s4.1.fill s4.2 (y:=(k+5*(j:Int),k+5*(j:Int)+1,k+5*(j:Int)+1+1,k+5*(j:Int)+1+1+1,k+5*(j:Int)+1+1+1+1)) rfl;rw[M.set_mid hml.out hmk.out]at h3;exact⟨j+1,by go_num,by omega,by go_num,h3,c4⟩
   case measure=>simp[intOf];omega
  obtain rfl:xs.length=j:=by omega
  go_wp2;go_ret;rw[List.take_of_length_le (by rw[Hs.mkL_len];omega),List.drop_eq_nil_of_le (by omega),List.append_nil]at own;exact⟨by go_num,sl_O.2 own,hg⟩
theorem zo8(A:Yo)(n c:Nat)(k:Int)(xs:List (Int×Int×Int×Int×Int))(w:Yw)(hx:tT.R w w.heap.size [.slice A n c] (hT.mark k xs))(hk:0<=k/\k+(hT.cnt xs:Int)<=1000000000):
 Calls Tryz.prog 102 #[.slice A n c,.int .i64 k] w fun e w'=>e=.returned (.int .i64 (k+hT.cnt xs))/\Below w.heap.size w w':=by
 have hr:RS tCl w w.heap.size (.slice A n c) (hCl.mkL k xs):=sl_R.1 hx;obtain rfl:xs.length=n:=by rw[<-hr.cap.1,Hs.mkL_len]
 have hml:=Lib.hid (hCl.mkL_len k xs);rw[zid]at *;clear hx
 go_enter Tryz.func102,Tryz.ntmps102
 go_wp2
 go_loop [1,5] (fun q i=>∃j:Nat,i=.int .i64 j/\j<=xs.length/\q=.int .i64 (k+5*(j:Int))) (fun _ i=>xs.length-(intOf i).toNat)
 case atStart=>exact⟨0,rfl,by omega,by go_num⟩
 case round=>
  obtain⟨j,rfl,hj,rfl⟩:=hrel
  by_cases hlt:j<xs.length
  ·have hX:=Lib.hid (List.getElem?_eq_getElem hlt);generalize xs[j]=x at hX;have hmk:=Lib.hid (show (hCl.mkL k xs)[j]?=some (k+5*(j:Int),k+5*(j:Int)+1,k+5*(j:Int)+1+1,k+5*(j:Int)+1+1+1,k+5*(j:Int)+1+1+1+1)by rw[hCl.mkL_at k hX.out,zka,zic,List.length_take,Nat.min_eq_left hj];simp only[Option.some.injEq,Prod.mk.injEq];omega);obtain⟨b,o,c1,cs,hv,hab,-,hE,hc⟩:=hr.atX hmk.out;simp only[Value.slice.injEq]at hv;obtain⟨rfl,-,rfl⟩:=hv;obtain rfl:cs=[.int .i64 (k+5*(j:Int)),.int .i64 (k+5*(j:Int)+1),.int .i64 (k+5*(j:Int)+1+1),.int .i64 (k+5*(j:Int)+1+1+1),.int .i64 (k+5*(j:Int)+1+1+1+1)]:=hE;have hc0:w.cell? ⟨b,o+j*5,none⟩=some (.int .i64 (k+5*(j:Int))):=hc 0 _ rfl;have hc1:w.cell? ⟨b,o+j*5+1,none⟩=some (.int .i64 (k+5*(j:Int)+1)):=hc 1 _ rfl;have hc2:w.cell? ⟨b,o+j*5+2,none⟩=some (.int .i64 (k+5*(j:Int)+1+1)):=hc 2 _ rfl;have hc3:w.cell? ⟨b,o+j*5+3,none⟩=some (.int .i64 (k+5*(j:Int)+1+1+1)):=hc 3 _ rfl;have hc4:w.cell? ⟨b,o+j*5+4,none⟩=some (.int .i64 (k+5*(j:Int)+1+1+1+1)):=hc 4 _ rfl;clear hc;go_wp2;go_round
   case rel=>exact⟨j+1,by go_num,by omega,by go_num⟩
   case measure=>simp[intOf];omega
  obtain rfl:xs.length=j:=by omega
  go_wp2;go_ret;exact⟨by go_num,Below.refl _ _⟩
theorem zkb(A:Yo)(n c:Nat)(xs:List (Int×Int×Int×Int×Int))(l:Int)(w:Yw)(hx:tT.R w w.heap.size [.slice A n c] xs)(hl:0<=l/\l<=1000000000):
 Calls Tryz.prog 124 #[.slice A n c,.int .i64 l] w fun e w'=>e=.returned (.int .i64 (if (hT.sz xs:Int)<=l then l-hT.sz xs else -1))/\Below w.heap.size w w':=by
 obtain⟨h1,h2,h3⟩:=(sl_R.1 hx).cap;have hn:n<=9223372036854775807:=by unfold maxLen at h3;omega
 rw[zg8,h1];clear h1 h2 h3 hx
 by_cases h:(n:Int)<=l
 all_goals
  go_enter Tryz.func124,Tryz.ntmps124
  go_wp2;go_ret;exact⟨rfl,Below.refl _ _⟩
theorem zkc(A:Yo)(n c:Nat)(xs:List (Int×Int×Int×Int×Int))(l:Int)(w:Yw)(hx:tT.R w w.heap.size [.slice A n c] xs)(hl:0<=l/\l<=1000000000):
 Calls Tryz.prog 64 #[.agg #[.slice A n c],.int .i64 l] w fun e w'=>e=.returned (.int .i64 (if (hT.sz xs:Int)<=l then l-hT.sz xs else -1))/\Below w.heap.size w w':=by
 have hb:Below w.heap.size w (w.alloc (.cells #[.slice A n c] 103)):=(Below.refl _ _).alloc (Nat.le_refl _) _;have hx2:=tT.later hx hb
 by_cases h:(hT.sz xs:Int)<=l
 ·have hi:=Lib.hid (show (if (hT.sz xs:Int)<=l then l-hT.sz xs else -1)=l-hT.sz xs by rw[if_pos h])
  go_enter Tryz.func64,Tryz.ntmps64
  go_wp2_with (go_at_call 124;refine(zkb _ _ _ _ _ _ hx2 hl).mono ?_;rw[hi.out];rintro e w2 ⟨rfl,bel2⟩);go_ret;exact⟨hi.out▸rfl,hb.trans (bel2.mono hb.size)⟩
 have hi:=Lib.hid (show (if (hT.sz xs:Int)<=l then l-hT.sz xs else -1) = -1 by rw[if_neg h])
 go_enter Tryz.func64,Tryz.ntmps64
 go_wp2_with (go_at_call 124;refine(zkb _ _ _ _ _ _ hx2 hl).mono ?_;rw[hi.out];rintro e w2 ⟨rfl,bel2⟩);go_ret;exact⟨hi.out▸rfl,hb.trans (bel2.mono hb.size)⟩
theorem zo9(A:Yo)(n c:Nat)(xs:List (Int×Int×Int×Int×Int))(w:Yw)(hx:tT.R w w.heap.size [.slice A n c] xs)(hn:hT.sz xs<=100000000):
 Calls Tryz.prog 77 #[.agg #[.slice A n c]] w fun e w'=>∃A' n' c',e=.returned (.agg #[.slice A' n' c'])/\tT.O w' (Iv w.heap.size w'.heap.size) [.slice A' n' c'] xs/\Below w.heap.size w w':=by
 have hb:Below w.heap.size w (((w.alloc (.cells #[.slice A n c] 103)).alloc (.cells #[.slice none 0 0] 98)).alloc (.cells #[.slice none 0 0] 98)):=(((Below.refl _ _).alloc (Nat.le_refl _) _).alloc (by simp) _).alloc (by simp;omega) _;have hx2:=tT.later hx hb
 go_enter Tryz.func77,Tryz.ntmps77
 go_wp2_with (go_at_call 136;refine(zo5 _ _ _ _ _ hx2 hn).mono ?_;rintro e w2 ⟨A2,n2,c2,rfl,own2,bel2⟩;have q1:w2.cell? ⟨w.heap.size+1,0,none⟩=some (.slice none 0 0):=(by rw[bel2.cell (by first|omega|(simp;done)|(simp;omega))];simp[go_sem]);have r1:w2.frozen? ⟨w.heap.size+1,0,none⟩=false:=(by rw[bel2.frozen (by first|omega|(simp;done)|(simp;omega))];simp[go_sem]);have q2:w2.cell? ⟨w.heap.size+1+1,0,none⟩=some (.slice none 0 0):=(by rw[bel2.cell (by simp)];simp[go_sem]);have r2:w2.frozen? ⟨w.heap.size+1+1,0,none⟩=false:=(by rw[bel2.frozen (by simp)];simp[go_sem]);have hs:w.heap.size+1+1+1<=w2.heap.size:=(by have:=bel2.size;simpa using this))
 have m1:Mid (w.heap.size+1) (w.heap.size+1+1+1) w2 ((w2.setCell ⟨w.heap.size+1+1,0,none⟩ (Value.slice A2 n2 c2)).setCell ⟨w.heap.size+1,0,none⟩ (Value.slice A2 n2 c2)):=
  (Mid.of_grown (zaz w2 (w.heap.size+1+1) 0 _) fun k hk=>by injection hk with hk;omega).trans (Mid.of_grown (zaz _ (w.heap.size+1) 0 _) fun k hk=>by injection hk with hk;omega)
 refine bodyPost_ret (v:=.agg #[.slice A2 n2 c2]) (by simp[results,Tryz.results77,go_sem,q1,r1,q2,r2]) rfl ?_;refine⟨_,_,_,rfl,?_,?_⟩
 ·exact tT.oiv (tT.omid own2 m1 (.inr (by simp)) (Nat.le_refl _)) (by simp;omega) m1.size
 exact(hb.trans (bel2.mono hb.size)).trans ((m1.toBelow (by omega)).mono (by omega))
theorem zpa(A A':Yo)(n c n' c':Nat)(xs:List (Int×Int×Int×Int×Int))(w:Yw)(hx:tT.R w w.heap.size [.slice A n c] xs)(hy:tT.R w w.heap.size [.slice A' n' c'] xs)(hn:hT.sz xs<=100000000):
 Calls Tryz.prog 96 #[.agg #[.slice A n c],.agg #[.slice A' n' c']] w fun e w'=>e=.returned (.bool true)/\Below w.heap.size w w':=by
 have hb:Below w.heap.size w ((w.alloc (.cells #[.slice A n c] 98)).alloc (.cells #[.slice A' n' c'] 98)):=((Below.refl _ _).alloc (Nat.le_refl _) _).alloc (by simp) _;have hx2:=tT.later hx hb;have hy2:=tT.later hy hb
 go_enter Tryz.func96,Tryz.ntmps96
 go_wp2_with (go_at_call 154;refine(zo6 _ _ _ _ _ _ _ _ hx2 hy2 hn).mono ?_;rintro e w2 ⟨rfl,bel2⟩);go_ret;exact⟨rfl,hb.trans (bel2.mono hb.size)⟩
def pt (p:Int×Int):List Value:=[.int .i64 p.1,.int .i64 p.2]
theorem zkd(w:Yw)(u:Value)(e:TypeId):(w.alloc (.cells #[u] e)).cell? ⟨w.heap.size,0,none⟩=some u:=by
 rw[cell_of_row _ w.heap.size 0 #[u] e (0,0) (heap_alloc_new w _)]
 rfl
theorem Mid.cell(w:Yw)(b o:Nat)(u:Value):Mid b (b+1) w (w.setCell ⟨b,o,none⟩ u):=
 Mid.of_grown (zaz w b o u) fun k hk=>by
  injection hk with hk
  omega
def zxh (xs:List (Int×Int)) (k:Nat):Bool:=k == 0||decide (((xs[k-1]?).getD (0,0)).1<((xs[k]?).getD (0,0)).1)
theorem zke{n:Nat}{f:Nat->Bool}(h:∀j,j<n->f j=true):(List.range n).all f=true:=by
 rw[List.all_eq_true];intro j hj;exact h j (List.mem_range.1 hj)
theorem zg9{n k:Nat}{f:Nat->Bool}(hk:k<n)(h:f k=false):(List.range n).all f=false:=by
 rw[List.all_eq_false];exact⟨k,List.mem_range.2 hk,by simp[h]⟩
theorem zbf{n a b:Int}:M.inn n a b=true↔a<=n/\n<=b:=by simp[M.inn]
end Go.Proofs.YtifeldeikhmckaaGreat
