import Derived.Test.YtifeldeikhmckaaGreatFnExactOptimizeSessionG3
import Derived.Laws.IdiomStrings
set_option linter.unusedVariables false
set_option linter.unusedSimpArgs false
set_option maxRecDepth 100000
set_option maxHeartbeats 4000000
namespace Go.Proofs.YtifeldeikhmckaaGreat
open Go.RowKit
theorem zie:EI Tryz.prog 115 160 (.agg #[.int .i64 0,.int .i64 0]) 2 16:=⟨Tryz.underlying115,by kernel_rfl,rfl,by decide⟩
def sd (p:(Int×Int)):List Value:=[.int .i64 p.1,.int .i64 p.2]
theorem zif(p:(Int×Int)):(sd p).length=2:=rfl
abbrev tSd:Ty (Int×Int):=Ty.flat 2 (by decide) (0,0) sd zif (by simp[sd,Value.oneCell'])
abbrev hSd:Hs (Int×Int):=hI.prod hI
abbrev tSdS:Ty (List (Int×Int)):=tSd.sl 160
abbrev hSdS:Hs (List (Int×Int)):=hSd.sl
theorem zpl(xs:List (Int×Int)):hSd.szL xs=0:=by
 induction xs with
 | nil=>rfl
 | cons x xs ih=>rw[Hs.szL,ih];rfl
theorem zig(xs:List (Int×Int)):hSd.cntL xs=2*xs.length:=by
 induction xs with
 | nil=>rfl
 | cons x xs ih=>
  rw[Hs.cntL,ih,List.length_cons];show (1+1)+_=_
  omega
theorem ze6(xs:List (Int×Int)):hSdS.sz xs=xs.length:=by show xs.length+hSd.szL xs=_;rw[zpl];rfl
theorem zgb(xs:List (Int×Int)):hSdS.cnt xs=2*xs.length:=zig xs
theorem zki(k:Int)(x:(Int×Int)):hSd.mark k x=(k,k+1):=by
 simp[Hs.prod,hI]
 try omega
theorem zpm(p0 p1:Int)(w:Yw):
 Calls Tryz.prog 232 #[.agg #[.int .i64 p0,.int .i64 p1]] w fun e w'=>e=.returned (.agg #[.int .i64 p0,.int .i64 p1])/\Below w.heap.size w w':=by
 go_enter Tryz.func232,Tryz.ntmps232
 go_wp2;exact bodyPost_ret (v:=.agg #[.int .i64 p0,.int .i64 p1]) (by simp[results,Tryz.results232,go_sem]) rfl ⟨rfl,(((Below.refl _ _).alloc (Nat.le_refl _) _).alloc (by simp) _).alloc (by simp;omega) _⟩
theorem zpn(p0 p1:Int)(w:Yw):
 Calls Tryz.prog 242 #[.agg #[.int .i64 p0,.int .i64 p1],.agg #[.int .i64 p0,.int .i64 p1]] w fun e w'=>e=.returned (.bool true)/\Below w.heap.size w w':=by
 go_enter Tryz.func242,Tryz.ntmps242
 go_wp2;go_ret;exact⟨rfl,((Below.refl _ _).alloc (Nat.le_refl _) _).alloc (by simp) _⟩
theorem zpo(A:Yo)(n c:Nat)(xs:List (Int×Int))(w:Yw)(hx:tSdS.R w w.heap.size [.slice A n c] xs)(hn:hSdS.sz xs<=100000000):
 Calls Tryz.prog 191 #[.slice A n c] w fun e w'=>∃A' n' c',e=.returned (.slice A' n' c')/\tSdS.O w' (Iv w.heap.size w'.heap.size) [.slice A' n' c'] xs/\Below w.heap.size w w':=by
 have hr:=sl_R.1 hx;obtain rfl:xs.length=n:=hr.cap.1;rw[ze6]at hn;clear hx
 go_enter Tryz.func191,Tryz.ntmps191
 go_wp2_with (at_make;refine zdo zie rfl _ _ rfl xs.length _ _ rfl rfl rfl rfl (by omega) (by unfold maxLen;omega) ?_;intro w1 own1 bel1);have hs1:w.heap.size+1<=w1.heap.size:=(World.ownsRow.lt own1 _ rfl).2
 have own2:OS tSd 160 w1 (Iv w.heap.size (w.heap.size+1)) (.slice (some ⟨w.heap.size,0,none⟩) xs.length xs.length) (List.replicate xs.length (0,0)):=
  OS.made (zc:=[.int .i64 0,.int .i64 0]) (fun _ _=>rfl) rfl ⟨Nat.le_refl _,by omega⟩ own1
 clear own1
 go_loopw [4] (fun i wr=>∃k:Nat,i=.int .i64 k/\k<=xs.length/\OS tSd 160 wr (Iv w.heap.size (w.heap.size+1)) (.slice (some ⟨w.heap.size,0,none⟩) xs.length xs.length) (xs.take k++(List.replicate xs.length (0,0)).drop k)/\w.heap.size+1<=wr.heap.size/\Below w.heap.size w wr)
  (fun i _=>xs.length-(intOf i).toNat)
 case atStart=>exact⟨0,rfl,by omega,by simpa using own2,hs1,bel1⟩
 case round=>
  obtain⟨k,rfl,hk,own,hsz,hb⟩:=hrel
  by_cases hlt:k<xs.length
  ·have hX:=Lib.hid (List.getElem?_eq_getElem hlt);obtain⟨b,o,c1,cs,hv,hab,-,hE,hc⟩:=(hr.below hb).atX hX.out;simp only[Value.slice.injEq]at hv;obtain⟨rfl,-,rfl⟩:=hv;generalize xs[k]=x at hX hE;obtain⟨p0,p1⟩:=x;obtain rfl:cs=[.int .i64 p0,.int .i64 p1]:=hE;have hc0:wr.cell? ⟨b,o+k*2,none⟩=some (.int .i64 p0):=hc 0 _ rfl;have hc1:wr.cell? ⟨b,o+k*2+1,none⟩=some (.int .i64 p1):=hc 1 _ rfl;have hD:=Lib.hid (show (xs.take k++(List.replicate xs.length ((0,0):(Int×Int))).drop k)[k]?=some (0,0)by rw[M.mid_at (by rw[List.length_replicate])];simp[hlt]);clear hc;go_wp2_with (go_at_call 232;refine(zpm _ _ _).mono ?_;rintro e w2 ⟨rfl,bel2⟩;have own':=own.below bel2 hsz;obtain⟨css,Fs,hole,cs,hcs,hE⟩:=own'.openAt hD.out;obtain rfl:cs=[.int .i64 0,.int .i64 0]:=hE;have q0:w2.cell? ⟨w.heap.size,k*2,none⟩=some (.int .i64 0):=(hole.cell hcs (j:=0) rfl).1;have r0:w2.frozen? ⟨w.heap.size,k*2,none⟩=false:=(hole.cell hcs (j:=0) rfl).2;have q1:w2.cell? ⟨w.heap.size,k*2+1,none⟩=some (.int .i64 0):=(hole.cell hcs (j:=1) rfl).1;have r1:w2.frozen? ⟨w.heap.size,k*2+1,none⟩=false:=(hole.cell hcs (j:=1) rfl).2);go_roundw
   case rel=>
    have s0:=hole.set hcs 0 (by decide) (.int .i64 p0);have s1:=s0.1.set s0.2 1 (by decide) (.int .i64 p1);have h3:=s1.1.fill s1.2 (y:=(p0,p1)) rfl;rw[M.set_mid (by rw[List.length_replicate]) hX.out]at h3;have hb2:=hb.trans (bel2.mono hb.size);exact⟨k+1,by go_num,by omega,h3,by simpa using Nat.le_trans hsz bel2.size,(hb2.setCell (Nat.le_refl _) _).setCell (Nat.le_refl _) _⟩
   case measure=>simp[intOf];omega
  go_wp2;go_ret;rw[List.take_of_length_le (by omega),List.drop_eq_nil_of_le (by simp;omega),List.append_nil]at own;exact⟨_,_,_,rfl,sl_O.2 (own.iv (Nat.le_refl _) hsz),hb⟩
theorem zpp(A A':Yo)(n c n' c':Nat)(xs:List (Int×Int))(w:Yw)(hx:tSdS.R w w.heap.size [.slice A n c] xs)(hy:tSdS.R w w.heap.size [.slice A' n' c'] xs)(hn:hSdS.sz xs<=100000000):
 Calls Tryz.prog 210 #[.slice A n c,.slice A' n' c'] w fun e w'=>e=.returned (.bool true)/\Below w.heap.size w w':=by
 have hr:=sl_R.1 hx;have hr':=sl_R.1 hy;obtain rfl:xs.length=n:=hr.cap.1;obtain rfl:xs.length=n':=hr'.cap.1;rw[ze6]at hn;clear hx hy
 go_enter Tryz.func210,Tryz.ntmps210
 go_wp2
 go_loopw [5] (fun i wr=>∃k:Nat,i=.int .i64 k/\k<=xs.length/\Below w.heap.size w wr) (fun i _=>xs.length-(intOf i).toNat)
 case atStart=>exact⟨0,rfl,by omega,Below.refl _ _⟩
 case round=>
  obtain⟨k,rfl,hk,hb⟩:=hrel
  by_cases hlt:k<xs.length
  ·have hX:=Lib.hid (List.getElem?_eq_getElem hlt);obtain⟨b,o,c1,cs,hv,hab,-,hE,hc⟩:=(hr.below hb).atX hX.out;obtain⟨b',o',c1',cs',hv',hab',-,hE',hc'⟩:=(hr'.below hb).atX hX.out;simp only[Value.slice.injEq]at hv hv';obtain⟨rfl,-,rfl⟩:=hv;obtain⟨rfl,-,rfl⟩:=hv';generalize xs[k]=x at hX hE hE';obtain⟨p0,p1⟩:=x;obtain rfl:cs=[.int .i64 p0,.int .i64 p1]:=hE;obtain rfl:cs'=[.int .i64 p0,.int .i64 p1]:=hE';have hc0:wr.cell? ⟨b,o+k*2,none⟩=some (.int .i64 p0):=hc 0 _ rfl;have hc1:wr.cell? ⟨b,o+k*2+1,none⟩=some (.int .i64 p1):=hc 1 _ rfl;have hd0:wr.cell? ⟨b',o'+k*2,none⟩=some (.int .i64 p0):=hc' 0 _ rfl;have hd1:wr.cell? ⟨b',o'+k*2+1,none⟩=some (.int .i64 p1):=hc' 1 _ rfl;have hbr:b<wr.heap.size:=Nat.lt_of_lt_of_le hab hb.size;have hbr':b'<wr.heap.size:=Nat.lt_of_lt_of_le hab' hb.size;clear hc hc';go_wp2
   go_region_held3 (fun w'=>Below wr.heap.size wr w'/\w'.cell? ⟨b,o+k*2,none⟩=some (.int .i64 p0)/\w'.cell? ⟨b,o+k*2+1,none⟩=some (.int .i64 p1)/\w'.cell? ⟨b',o'+k*2,none⟩=some (.int .i64 p0)/\w'.cell? ⟨b',o'+k*2+1,none⟩=some (.int .i64 p1))
    (first
     | exact⟨zae (Below.refl _ _) _,hc0,hc1,hd0,hd1⟩
     | exact⟨zda bel2 rfl (And.left (by assumption)),za8 bel2 rfl (And.left (by assumption)) hc0 hbr,za8 bel2 rfl (And.left (by assumption)) hc1 hbr,za8 bel2 rfl (And.left (by assumption)) hd0 hbr',za8 bel2 rfl (And.left (by assumption)) hd1 hbr'⟩)
    (first|(go_at_call 242;refine(zpn _ _ _).mono ?_;rintro e w2 ⟨rfl,bel2⟩))
   go_wp2;go_roundw
   case rel=>exact⟨k+1,by go_num,by omega,hb.trans ((zda bel2 rfl (zae (Below.refl _ _) _)).mono hb.size)⟩
   case measure=>simp[intOf];omega
  go_wp2;go_ret;exact⟨rfl,hb⟩
theorem zpq(A:Yo)(n c:Nat)(k:Int)(xs:List (Int×Int))(w:Yw)(F:Nat->Prop)(hx:tSdS.O w F [.slice A n c] xs)(hk:0<=k/\k+(hSdS.cnt xs:Int)<=1000000000):
 Calls Tryz.prog 158 #[.slice A n c,.int .i64 k] w fun e w'=>e=.returned (.int .i64 (k+hSdS.cnt xs))/\tSdS.O w' F [.slice A n c] (hSdS.mark k xs)/\Chg F w w':=by
 have ow:=sl_O.1 hx;obtain rfl:xs.length=n:=ow.read.cap.1;rw[zgb]at *;clear hx
 go_enter Tryz.func158,Tryz.ntmps158
 go_wp2
 go_loopw [1,5] (fun q i wr=>∃j:Nat,i=.int .i64 j/\j<=xs.length/\q=.int .i64 (k+2*(j:Int))/\OS tSd 160 wr F (.slice A xs.length c) ((hSd.mkL k xs).take j++xs.drop j)/\Chg F w wr)
  (fun _ i _=>xs.length-(intOf i).toNat)
 case atStart=>exact⟨0,rfl,by omega,by go_num,by simpa using ow,Chg.refl _ _⟩
 case round=>
  obtain⟨j,rfl,hj,rfl,own,hg⟩:=hrel
  by_cases hlt:j<xs.length
  ·have hml:=Lib.hid (hSd.mkL_len k xs);have hX:=Lib.hid (List.getElem?_eq_getElem hlt);generalize xs[j]=x at hX;obtain⟨p0,p1⟩:=x;have hyj:=Lib.hid (show ((hSd.mkL k xs).take j++xs.drop j)[j]?=some (p0,p1)by rw[M.mid_at hml.out];exact hX.out);obtain⟨css,Fs,hole,cs,hcs,hE⟩:=own.openAt hyj.out;obtain rfl:cs=[.int .i64 p0,.int .i64 p1]:=hE;obtain⟨g,rfl,hFg,hFn,hgl,-⟩:=hole.form (List.getElem?_eq_some_iff.1 hyj.out).1;have hmk:=Lib.hid (show (hSd.mkL k xs)[j]?=some (k+2*(j:Int),k+2*(j:Int)+1)by rw[hSd.mkL_at k hX.out,zki,zig,List.length_take,Nat.min_eq_left hj];simp only[Option.some.injEq,Prod.mk.injEq];omega);have q0:wr.cell? ⟨g,j*2,none⟩=some (.int .i64 p0):=(hole.cell hcs (j:=0) rfl).1;have r0:wr.frozen? ⟨g,j*2,none⟩=false:=(hole.cell hcs (j:=0) rfl).2;have q1:wr.cell? ⟨g,j*2+1,none⟩=some (.int .i64 p1):=(hole.cell hcs (j:=1) rfl).1;have r1:wr.frozen? ⟨g,j*2+1,none⟩=false:=(hole.cell hcs (j:=1) rfl).2;go_wp2;go_roundw
   case rel=>
    have s0:=hole.set hcs 0 (by decide) (.int .i64 (k+2*(j:Int)));have c0:=hg.trans (Chg.set wr g (j*2+0) (.int .i64 (k+2*(j:Int))) hFg);have s1:=s0.1.set s0.2 1 (by decide) (.int .i64 (k+2*(j:Int)+1));have c1:=c0.trans (Chg.set _ g (j*2+1) (.int .i64 (k+2*(j:Int)+1)) hFg);have h3:=s1.1.fill s1.2 (y:=(k+2*(j:Int),k+2*(j:Int)+1)) rfl;rw[M.set_mid hml.out hmk.out]at h3;exact⟨j+1,by go_num,by omega,by go_num,h3,c1⟩
   case measure=>simp[intOf];omega
  obtain rfl:xs.length=j:=by omega
  go_wp2;go_ret;rw[List.take_of_length_le (by rw[Hs.mkL_len];omega),List.drop_eq_nil_of_le (by omega),List.append_nil]at own;exact⟨by go_num,sl_O.2 own,hg⟩
theorem zpr(A:Yo)(n c:Nat)(k:Int)(xs:List (Int×Int))(w:Yw)(hx:tSdS.R w w.heap.size [.slice A n c] (hSdS.mark k xs))(hk:0<=k/\k+(hSdS.cnt xs:Int)<=1000000000):
 Calls Tryz.prog 159 #[.slice A n c,.int .i64 k] w fun e w'=>e=.returned (.int .i64 (k+hSdS.cnt xs))/\Below w.heap.size w w':=by
 have hr:RS tSd w w.heap.size (.slice A n c) (hSd.mkL k xs):=sl_R.1 hx;obtain rfl:xs.length=n:=by rw[<-hr.cap.1,Hs.mkL_len]
 have hml:=Lib.hid (hSd.mkL_len k xs);rw[zgb]at *;clear hx
 go_enter Tryz.func159,Tryz.ntmps159
 go_wp2
 go_loop [1,5] (fun q i=>∃j:Nat,i=.int .i64 j/\j<=xs.length/\q=.int .i64 (k+2*(j:Int))) (fun _ i=>xs.length-(intOf i).toNat)
 case atStart=>exact⟨0,rfl,by omega,by go_num⟩
 case round=>
  obtain⟨j,rfl,hj,rfl⟩:=hrel
  by_cases hlt:j<xs.length
  ·have hX:=Lib.hid (List.getElem?_eq_getElem hlt);generalize xs[j]=x at hX;have hmk:=Lib.hid (show (hSd.mkL k xs)[j]?=some (k+2*(j:Int),k+2*(j:Int)+1)by rw[hSd.mkL_at k hX.out,zki,zig,List.length_take,Nat.min_eq_left hj];simp only[Option.some.injEq,Prod.mk.injEq];omega);obtain⟨b,o,c1,cs,hv,hab,-,hE,hc⟩:=hr.atX hmk.out;simp only[Value.slice.injEq]at hv;obtain⟨rfl,-,rfl⟩:=hv;obtain rfl:cs=[.int .i64 (k+2*(j:Int)),.int .i64 (k+2*(j:Int)+1)]:=hE;have hc0:w.cell? ⟨b,o+j*2,none⟩=some (.int .i64 (k+2*(j:Int))):=hc 0 _ rfl;have hc1:w.cell? ⟨b,o+j*2+1,none⟩=some (.int .i64 (k+2*(j:Int)+1)):=hc 1 _ rfl;clear hc;go_wp2;go_round
   case rel=>exact⟨j+1,by go_num,by omega,by go_num⟩
   case measure=>simp[intOf];omega
  obtain rfl:xs.length=j:=by omega
  go_wp2;go_ret;exact⟨by go_num,Below.refl _ _⟩
theorem zkj(A:Yo)(n c:Nat)(xs:List (Int×Int))(l:Int)(w:Yw)(hx:tSdS.R w w.heap.size [.slice A n c] xs)(hl:0<=l/\l<=1000000000):
 Calls Tryz.prog 174 #[.slice A n c,.int .i64 l] w fun e w'=>e=.returned (.int .i64 (if (hSdS.sz xs:Int)<=l then l-hSdS.sz xs else -1))/\Below w.heap.size w w':=by
 obtain⟨h1,h2,h3⟩:=(sl_R.1 hx).cap;have hn:n<=9223372036854775807:=by unfold maxLen at h3;omega
 rw[ze6,h1];clear h1 h2 h3 hx
 by_cases h:(n:Int)<=l
 all_goals
  go_enter Tryz.func174,Tryz.ntmps174
  go_wp2;go_ret;exact⟨rfl,Below.refl _ _⟩
section
def tStr:Ty ByteArray where
 s:=1
 pos:=Nat.one_pos
 zero:=⟨#[]⟩
 R _ _ cs x:=cs=[.string x]/\x.size<=maxLen
 O _ _ cs x:=cs=[.string x]/\x.size<=maxLen
 rlen:=by rintro w B cs x ⟨rfl,_⟩;rfl
 keep:=fun _ h=>h
 more:=fun _ h=>h
 read:=fun h=>h
 okeep:=fun _ h=>h
 owide:=fun _ h=>h
 ocells:=by rintro w F cs x ⟨rfl,_⟩ u hu;simp only[List.mem_singleton]at hu;subst hu;rfl
 oreal:=fun h=>h
def zcj (k:Nat):List UInt8:=if k=0 then[]else zcj (k / 10)++[UInt8.ofNat (48+k % 10)]
theorem zkk(k:Nat):(zcj k).length<=k:=by
 induction k using Nat.strongRecOn with
 | _ k ih=>
  rw[zcj]
  split
  ·simp
  have:=ih (k / 10) (by omega);simp only[List.length_append,List.length_singleton];omega
def zdg (k:Int):ByteArray:=if k<=0 then⟨#[109,48]⟩else⟨(109::zcj k.toNat).toArray⟩
theorem zps(k:Int):(zdg k).size<=k.toNat+2:=by
 unfold zdg
 split
 ·show 2<=_;omega
 have:=zkk k.toNat;show ((109::zcj k.toNat).toArray).size<=_
 simp only[List.size_toArray,List.length_cons];omega
def hStr:Hs ByteArray:=⟨fun s=>s.size,fun k _=>zdg k,fun _=>1⟩
abbrev zag:=ByteArray×Int×List (Int×Int)
abbrev tSt:Ty zag:=tStr.prod (tI.prod tSdS)
abbrev hSt:Hs zag:=hStr.prod (hI.prod hSdS)
abbrev tM:Ty (List zag):=tSt.sl 117
abbrev hM:Hs (List zag):=hSt.sl
section
variable {w:Yw} {B:Nat} {F:Nat->Prop} {cs:List Value} {s:ByteArray} {l:Int} {xs:List (Int×Int)}
theorem zih{cs:List Value}(h:tSdS.R w B cs xs):∃A n c,cs=[.slice A n c]:=by
 obtain⟨v,rfl,hr⟩:=h;obtain⟨A,c,rfl⟩:=hr.shape;exact⟨_,_,_,rfl⟩
theorem st_R:tSt.R w B cs (s,l,xs)↔∃A n c,cs=[.string s,.int .i64 l,.slice A n c]/\s.size<=maxLen/\tSdS.R w B [.slice A n c] xs:=by
 constructor
 ·rintro⟨c1,c2,rfl,⟨rfl,h1⟩,c3,c4,rfl,h2,h3⟩;obtain rfl:c3=[.int .i64 l]:=h2;obtain⟨A,n,c,rfl⟩:=zih h3;exact⟨A,n,c,rfl,h1,h3⟩
 rintro⟨A,n,c,rfl,h1,h3⟩;exact⟨[.string s],_,rfl,⟨rfl,h1⟩,[.int .i64 l],_,rfl,rfl,h3⟩
theorem st_O:tSt.O w F cs (s,l,xs)↔∃A n c,cs=[.string s,.int .i64 l,.slice A n c]/\s.size<=maxLen/\tSdS.O w F [.slice A n c] xs:=by
 constructor
 ·rintro⟨c1,c2,F1,F2,rfl,⟨rfl,h1⟩,⟨c3,c4,F3,F4,rfl,h2,h3,f3,f4,_⟩,f1,f2,_⟩;obtain rfl:c3=[.int .i64 l]:=h2;obtain⟨A,n,c,rfl⟩:=zih (tSdS.read h3);exact⟨A,n,c,rfl,h1,tSdS.owide (fun b hb=>f2 b (f4 b hb)) h3⟩
 rintro⟨A,n,c,rfl,h1,h3⟩;exact⟨[.string s],_,fun _=>False,F,rfl,⟨rfl,h1⟩,⟨[.int .i64 l],_,fun _=>False,F,rfl,rfl,h3,fun _ h=>h.elim,fun _ h=>h,fun _ h=>h.elim⟩,fun _ h=>h.elim,fun _ h=>h,fun _ h=>h.elim⟩
theorem ze7(s:ByteArray)(l:Int)(xs:List (Int×Int)):hSt.sz (s,l,xs)=s.size+xs.length:=by
 show s.size+(0+hSdS.sz xs)=_
 rw[ze6,Nat.zero_add]
theorem zgc(s:ByteArray)(l:Int)(xs:List (Int×Int)):hSt.cnt (s,l,xs)=2+2*xs.length:=by
 show 1+(1+hSdS.cnt xs)=_
 rw[zgb];omega
end
theorem zkl(s:ByteArray)(l0:Int)(A:Yo)(n c:Nat)(xs:List (Int×Int))(l:Int)(w:Yw)(hs:s.size<=maxLen)(hx:tSdS.R w w.heap.size [.slice A n c] xs)(hl:0<=l/\l<=1000000000):
 Calls Tryz.prog 126 #[.agg #[.string s,.int .i64 l0,.slice A n c],.int .i64 l] w fun e w'=>e=.returned (.int .i64 (if (hSt.sz (s,l0,xs):Int)<=l then l-hSt.sz (s,l0,xs)else -1))/\Below w.heap.size w w':=by
 have hb:Below w.heap.size w (w.alloc (.cells #[.string s,.int .i64 l0,.slice A n c] 175)):=(Below.refl _ _).alloc (Nat.le_refl _) _;have hx2:=tSdS.later hx hb;unfold maxLen at hs;rw[ze7];have hz:=ze6 xs
 by_cases h1:(s.size:Int)<=l
 ·by_cases h2:(xs.length:Int)<=l-s.size
  ·have hi:=Lib.hid (show (if (hSdS.sz xs:Int)<=l-s.size then l-s.size-hSdS.sz xs else -1)=l-s.size-xs.length by rw[hz,if_pos h2]);have hj:=Lib.hid (show (if ((s.size+xs.length:Nat):Int)<=l then l-((s.size+xs.length:Nat):Int)else -1)=l-s.size-xs.length by rw[if_pos (by omega)];omega);rw[hj.out];clear hz
   go_enter Tryz.func126,Tryz.ntmps126
   go_wp2_with (go_at_call 174;refine(zkj _ _ _ _ _ _ hx2 (by omega)).mono ?_;rw[hi.out];rintro e w2 ⟨rfl,bel2⟩);go_ret;exact⟨rfl,hb.trans (bel2.mono hb.size)⟩
  have hi:=Lib.hid (show (if (hSdS.sz xs:Int)<=l-s.size then l-s.size-hSdS.sz xs else -1) = -1 by rw[hz,if_neg h2]);have hj:=Lib.hid (show (if ((s.size+xs.length:Nat):Int)<=l then l-((s.size+xs.length:Nat):Int)else -1) = -1 by rw[if_neg (by omega)]);rw[hj.out];clear hz
  go_enter Tryz.func126,Tryz.ntmps126
  go_wp2_with (go_at_call 174;refine(zkj _ _ _ _ _ _ hx2 (by omega)).mono ?_;rw[hi.out];rintro e w2 ⟨rfl,bel2⟩);go_ret;exact⟨rfl,hb.trans (bel2.mono hb.size)⟩
 have hj:=Lib.hid (show (if ((s.size+xs.length:Nat):Int)<=l then l-((s.size+xs.length:Nat):Int)else -1) = -1 by rw[if_neg (by omega)]);rw[hj.out];clear hz
 go_enter Tryz.func126,Tryz.ntmps126
 go_wp2;go_ret;exact⟨rfl,hb⟩
theorem zkm(A:Yo)(n c:Nat)(xs:List zag)(l:Int)(w:Yw)(hx:tM.R w w.heap.size [.slice A n c] xs)(hl:0<=l/\l<=1000000000):
 Calls Tryz.prog 66 #[.slice A n c,.int .i64 l] w fun e w'=>e=.returned (.int .i64 (if (hM.sz xs:Int)<=l then l-hM.sz xs else -1))/\Below w.heap.size w w':=by
 have hr:=sl_R.1 hx;obtain⟨h1,h2,h3⟩:=hr.cap;have hn:n<=9223372036854775807:=by unfold maxLen at h3;omega
 obtain rfl:xs.length=n:=h1;have hzz:hM.sz xs=xs.length+hSt.szL xs:=rfl;have HZ:=Lib.hid hzz;clear h2 h3 hx hzz;generalize hR:(if (hM.sz xs:Int)<=l then l-(hM.sz xs:Int)else -1)=R;have HR:=Lib.hid hR;clear hR
 by_cases h:(xs.length:Int)<=l
 ·go_enter Tryz.func66,Tryz.ntmps66
  go_wp2
  go_loopw [1,5] (fun q i wr=>∃k:Nat,i=.int .i64 k/\k<=xs.length/\(hSt.szL (xs.take k):Int)<=l-xs.length/\q=.int .i64 (l-xs.length-hSt.szL (xs.take k))/\Below w.heap.size w wr) (fun _ i _=>xs.length-(intOf i).toNat)
  case atStart=>exact⟨0,rfl,by omega,by simp[Hs.szL];omega,by simp[Hs.szL],Below.refl _ _⟩
  case round=>
   obtain⟨k,rfl,hk,hz,rfl,hb⟩:=hrel
   by_cases hlt:k<xs.length
   ·have hX:=Lib.hid (List.getElem?_eq_getElem hlt);obtain⟨b,o,c1,cs,hv,hab,-,hE,hc⟩:=(hr.below hb).atX hX.out;simp only[Value.slice.injEq]at hv;obtain⟨rfl,-,rfl⟩:=hv;have hT:=Lib.hid (hSt.szL_take hX.out);have hU:=hSt.szL_at hX.out;generalize xs[k]=x at hX hE hT hU;obtain⟨s,l0,ys⟩:=x;obtain⟨A1,n1,c1,rfl,hs,hE⟩:=st_R.1 hE;have hc0:wr.cell? ⟨b,o+k*3,none⟩=some (.string s):=hc 0 _ rfl;have hc1:wr.cell? ⟨b,o+k*3+1,none⟩=some (.int .i64 l0):=hc 1 _ rfl;have hc2:wr.cell? ⟨b,o+k*3+2,none⟩=some (.slice A1 n1 c1):=hc 2 _ rfl;have hF:=tSdS.more hb.size hE;clear hc
    by_cases hle:(hSt.sz (s,l0,ys):Int)<=l-xs.length-hSt.szL (xs.take k)
    ·have hi:=Lib.hid (show (if (hSt.sz (s,l0,ys):Int)<=l-xs.length-hSt.szL (xs.take k)then l-xs.length-hSt.szL (xs.take k)-hSt.sz (s,l0,ys)else -1)=l-xs.length-hSt.szL (xs.take k)-hSt.sz (s,l0,ys)by rw[if_pos hle]);go_wp2_with (go_at_call 126;refine(zkl _ _ _ _ _ _ _ _ hs hF (by omega)).mono ?_;rw[hi.out];rintro e w2 ⟨rfl,bel2⟩);go_roundw
     case rel=>exact⟨k+1,by go_num,by omega,by rw[hT.out];omega,by rw[hT.out];go_num,hb.trans (bel2.mono hb.size)⟩
     case measure=>simp[intOf];omega
    have hi:=Lib.hid (show (if (hSt.sz (s,l0,ys):Int)<=l-xs.length-hSt.szL (xs.take k)then l-xs.length-hSt.szL (xs.take k)-hSt.sz (s,l0,ys)else -1) = -1 by rw[if_neg hle]);have hj:=Lib.hid (show (if (hM.sz xs:Int)<=l then l-hM.sz xs else -1) = -1 by rw[HZ.out,if_neg (by omega)]);go_wp2_with (go_at_call 126;refine(zkl _ _ _ _ _ _ _ _ hs hF (by omega)).mono ?_;rw[hi.out];rintro e w2 ⟨rfl,bel2⟩);go_ret;exact⟨zay (hj.out.symm.trans HR.out),hb.trans (bel2.mono hb.size)⟩
   obtain rfl:xs.length=k:=by omega
   rw[List.take_of_length_le (Nat.le_refl _)]at hz ⊢;have hj:=Lib.hid (show (if (hM.sz xs:Int)<=l then l-hM.sz xs else -1)=l-xs.length-hSt.szL xs by rw[HZ.out,if_pos (by omega)];omega);go_wp2;go_ret;exact⟨zay (hj.out.symm.trans HR.out),hb⟩
 have hj:=Lib.hid (show (if (hM.sz xs:Int)<=l then l-hM.sz xs else -1) = -1 by rw[HZ.out,if_neg (by omega)])
 go_enter Tryz.func66,Tryz.ntmps66
 go_wp2;go_ret;exact⟨zay (hj.out.symm.trans HR.out),Below.refl _ _⟩
end
theorem Ty.oset{α:Type}(t:Ty α){w:Yw}{lo hi g o:Nat}{cs:List Value}{x:α}{u:Value}(h:t.O w (Iv lo hi) cs x)(hg:g<lo\/hi<=g):t.O (w.setCell ⟨g,o,none⟩ u) (Iv lo hi) cs x:=
 t.okeep (fun b ⟨h1,h2⟩=>heap_setCell_other w ⟨g,o,none⟩ b u (fun e=>by simp only at e;omega)) h
theorem zii:EI Tryz.prog 34 117 (.agg #[.string ⟨#[]⟩,.int .i64 0,.slice none 0 0]) 3 48:=⟨Tryz.underlying34,by kernel_rfl,rfl,by decide⟩
theorem zpt(w:Yw)(F:Nat->Prop):tSt.O w F [.string ⟨#[]⟩,.int .i64 0,.slice none 0 0] (⟨#[]⟩,0,[]):=st_O.2 ⟨none,0,0,rfl,Nat.zero_le _,_,rfl,OS.nil _ _ _ _⟩
theorem zpu(s:ByteArray)(l0:Int)(A:Yo)(n c:Nat)(xs:List (Int×Int))(w:Yw)(hx:tSdS.R w w.heap.size [.slice A n c] xs)(hn:hSdS.sz xs<=100000000):
 Calls Tryz.prog 138 #[.agg #[.string s,.int .i64 l0,.slice A n c]] w fun e w'=>∃A' n' c',e=.returned (.agg #[.string s,.int .i64 l0,.slice A' n' c'])/\tSdS.O w' (Iv w.heap.size w'.heap.size) [.slice A' n' c'] xs/\Below w.heap.size w w':=by
 have hb:Below w.heap.size w (((w.alloc (.cells #[.string s,.int .i64 l0,.slice A n c] 175)).alloc (.cells #[.string ⟨#[]⟩,.int .i64 0,.slice none 0 0] 117)).alloc (.cells #[.string s,.int .i64 l0,.slice none 0 0] 117)):=(((Below.refl _ _).alloc (Nat.le_refl _) _).alloc (by simp) _).alloc (by simp;omega) _;have hx2:=tSdS.later hx hb
 go_enter Tryz.func138,Tryz.ntmps138
 go_wp2_with (go_at_call 191;refine(zpo _ _ _ _ _ hx2 hn).mono ?_;rintro e w2 ⟨A2,n2,c2,rfl,own2,bel2⟩;have q10:w2.cell? ⟨w.heap.size+1,0,none⟩=some (.string ⟨#[]⟩):=(by rw[bel2.cell (by first|omega|(simp;done)|(simp;omega))];simp[go_sem]);have r10:w2.frozen? ⟨w.heap.size+1,0,none⟩=false:=(by rw[bel2.frozen (by first|omega|(simp;done)|(simp;omega))];simp[go_sem]);have q20:w2.cell? ⟨w.heap.size+1+1,0,none⟩=some (.string s):=(by rw[bel2.cell (by first|omega|(simp;done)|(simp;omega))];simp[go_sem]);have r20:w2.frozen? ⟨w.heap.size+1+1,0,none⟩=false:=(by rw[bel2.frozen (by first|omega|(simp;done)|(simp;omega))];simp[go_sem]);have q11:w2.cell? ⟨w.heap.size+1,1,none⟩=some (.int .i64 0):=(by rw[bel2.cell (by first|omega|(simp;done)|(simp;omega))];simp[go_sem]);have r11:w2.frozen? ⟨w.heap.size+1,1,none⟩=false:=(by rw[bel2.frozen (by first|omega|(simp;done)|(simp;omega))];simp[go_sem]);have q21:w2.cell? ⟨w.heap.size+1+1,1,none⟩=some (.int .i64 l0):=(by rw[bel2.cell (by first|omega|(simp;done)|(simp;omega))];simp[go_sem]);have r21:w2.frozen? ⟨w.heap.size+1+1,1,none⟩=false:=(by rw[bel2.frozen (by first|omega|(simp;done)|(simp;omega))];simp[go_sem]);have q12:w2.cell? ⟨w.heap.size+1,2,none⟩=some (.slice none 0 0):=(by rw[bel2.cell (by first|omega|(simp;done)|(simp;omega))];simp[go_sem]);have r12:w2.frozen? ⟨w.heap.size+1,2,none⟩=false:=(by rw[bel2.frozen (by first|omega|(simp;done)|(simp;omega))];simp[go_sem]);have q22:w2.cell? ⟨w.heap.size+1+1,2,none⟩=some (.slice none 0 0):=(by rw[bel2.cell (by first|omega|(simp;done)|(simp;omega))];simp[go_sem]);have r22:w2.frozen? ⟨w.heap.size+1+1,2,none⟩=false:=(by rw[bel2.frozen (by first|omega|(simp;done)|(simp;omega))];simp[go_sem]);have hs2:w.heap.size+1+1+1<=w2.heap.size:=(by have:=bel2.size;simpa using this))
 have m1:Mid (w.heap.size+1) (w.heap.size+1+1+1) w2 ((((w2.setCell ⟨w.heap.size+1+1,2,none⟩ (Value.slice A2 n2 c2)).setCell ⟨w.heap.size+1,0,none⟩ (.string s)).setCell ⟨w.heap.size+1,1,none⟩ (.int .i64 l0)).setCell ⟨w.heap.size+1,2,none⟩ (Value.slice A2 n2 c2)):=
  (((Mid.of_grown (zaz w2 (w.heap.size+1+1) 2 _) fun k hk=>by injection hk with hk;omega).trans (Mid.of_grown (zaz _ (w.heap.size+1) 0 _) fun k hk=>by injection hk with hk;omega)).trans (Mid.of_grown (zaz _ (w.heap.size+1) 1 _) fun k hk=>by injection hk with hk;omega)).trans (Mid.of_grown (zaz _ (w.heap.size+1) 2 _) fun k hk=>by injection hk with hk;omega)
 refine bodyPost_ret (v:=.agg #[.string s,.int .i64 l0,.slice A2 n2 c2]) (by simp[results,Tryz.results138,go_sem,q10,r10,q20,r20,q11,r11,q21,r21,q12,r12,q22,r22]) rfl ?_;refine⟨_,_,_,rfl,?_,?_⟩
 ·exact tSdS.oiv (tSdS.omid own2 m1 (.inr (by simp)) (Nat.le_refl _)) (by simp;omega) m1.size
 exact(hb.trans (bel2.mono hb.size)).trans ((m1.toBelow (by omega)).mono (by omega))
theorem zpv(A:Yo)(n c:Nat)(xs:List zag)(w:Yw)(hx:tM.R w w.heap.size [.slice A n c] xs)(hn:hM.sz xs<=100000000):
 Calls Tryz.prog 79 #[.slice A n c] w fun e w'=>∃A' n' c',e=.returned (.slice A' n' c')/\tM.O w' (Iv w.heap.size w'.heap.size) [.slice A' n' c'] xs/\Below w.heap.size w w':=by
 have hr:=sl_R.1 hx;obtain rfl:xs.length=n:=hr.cap.1;have hn1:xs.length+hSt.szL xs<=100000000:=hn;clear hx hn
 go_enter Tryz.func79,Tryz.ntmps79
 go_wp2_with (at_make;refine zdo zii rfl _ _ rfl xs.length _ _ rfl rfl rfl rfl (by omega) (by unfold maxLen;omega) ?_;intro w1 own1 bel1);have hs1:w.heap.size+1<=w1.heap.size:=(World.ownsRow.lt own1 _ rfl).2
 have own2:OS tSt 117 w1 (Iv w.heap.size w1.heap.size) (.slice (some ⟨w.heap.size,0,none⟩) xs.length xs.length) (List.replicate xs.length (⟨#[]⟩,0,[])):=
  OS.made (t:=tSt) (zc:=[.string ⟨#[]⟩,.int .i64 0,.slice none 0 0]) zpt rfl ⟨Nat.le_refl _,by omega⟩ own1
 clear own1
 go_loopw [4] (fun i wr=>∃k:Nat,i=.int .i64 k/\k<=xs.length/\OS tSt 117 wr (Iv w.heap.size wr.heap.size) (.slice (some ⟨w.heap.size,0,none⟩) xs.length xs.length) (xs.take k++(List.replicate xs.length (⟨#[]⟩,0,[])).drop k)/\w.heap.size+1<=wr.heap.size/\Below w.heap.size w wr)
  (fun i _=>xs.length-(intOf i).toNat)
 case atStart=>exact⟨0,rfl,by omega,by simpa using own2,hs1,bel1⟩
 case round=>
  obtain⟨k,rfl,hk,own,hsz,hb⟩:=hrel
  by_cases hlt:k<xs.length
  ·have hX:=Lib.hid (List.getElem?_eq_getElem hlt);obtain⟨b,o,c1,cs,hv,hab,-,hE,hc⟩:=(hr.below hb).atX hX.out;simp only[Value.slice.injEq]at hv;obtain⟨rfl,-,rfl⟩:=hv;have hU:=hSt.szL_at hX.out;generalize xs[k]=x at hX hE hU;obtain⟨s,l0,ys⟩:=x;rw[ze7]at hU;obtain⟨A1,n1,c1,rfl,hs,hE⟩:=st_R.1 hE;have hc0:wr.cell? ⟨b,o+k*3,none⟩=some (.string s):=hc 0 _ rfl;have hc1:wr.cell? ⟨b,o+k*3+1,none⟩=some (.int .i64 l0):=hc 1 _ rfl;have hc2:wr.cell? ⟨b,o+k*3+2,none⟩=some (.slice A1 n1 c1):=hc 2 _ rfl;have hF:=tSdS.more hb.size hE;have hz:=ze6 ys;have hz2:hSdS.sz ys<=100000000:=(by omega);clear hc hz;have hD:=Lib.hid (show (xs.take k++(List.replicate xs.length ((⟨#[]⟩,0,[]):zag)).drop k)[k]?=some (⟨#[]⟩,0,[])by rw[M.mid_at (by rw[List.length_replicate])];simp[hlt]);go_wp2_with (go_at_call 138;refine(zpu _ _ _ _ _ _ _ hF hz2).mono ?_;rintro e w2 ⟨A2,n2,c2,rfl,o2,bel2⟩;have own':=own.below bel2 (Nat.le_refl _);obtain⟨css,Fs,hole,cs,hcs,hE⟩:=own'.openAt hD.out;obtain⟨A0,n0,c0,rfl,-,-⟩:=st_O.1 hE;have q0:=(hole.cell hcs (j:=0) rfl).1;have r0:=(hole.cell hcs (j:=0) rfl).2;have q1:=(hole.cell hcs (j:=1) rfl).1;have r1:=(hole.cell hcs (j:=1) rfl).2;have q2:=(hole.cell hcs (j:=2) rfl).1;have r2:=(hole.cell hcs (j:=2) rfl).2;have z2:=bel2.size;change w2.cell? ⟨w.heap.size,k*3+0,none⟩=_ at q0;change w2.frozen? ⟨w.heap.size,k*3+0,none⟩=_ at r0;change w2.cell? ⟨w.heap.size,k*3+1,none⟩=_ at q1;change w2.frozen? ⟨w.heap.size,k*3+1,none⟩=_ at r1;change w2.cell? ⟨w.heap.size,k*3+2,none⟩=_ at q2;change w2.frozen? ⟨w.heap.size,k*3+2,none⟩=_ at r2;rw[Nat.add_zero]at q0 r0);go_roundw
   case rel=>
    have s0:=hole.set hcs 0 (by decide) (.string s);have s1:=s0.1.set s0.2 1 (by decide) (.int .i64 l0);have s2:=s1.1.set s1.2 2 (by decide) (.slice A2 n2 c2);have o3:=tSdS.oset (g:=w.heap.size) (o:=k*3+2) (u:=.slice A2 n2 c2) (tSdS.oset (g:=w.heap.size) (o:=k*3+1) (u:=.int .i64 l0) (tSdS.oset (g:=w.heap.size) (o:=k*3+0) (u:=.string s) o2 (.inl (by omega))) (.inl (by omega))) (.inl (by omega));have h3:=s2.1.fill' s2.2 (y:=(s,l0,ys)) (Fe:=Iv wr.heap.size w2.heap.size) (st_O.2 ⟨A2,n2,c2,rfl,hs,o3⟩) (fun b h1 h2=>by have:=h1.1;have:=h2.2;omega);rw[M.set_mid (by rw[List.length_replicate]) hX.out]at h3;have hb2:=hb.trans (bel2.mono hb.size);exact⟨k+1,by go_num,by omega,h3.wide (fun b hb=>⟨by unfold Iv at hb;omega,by simp;unfold Iv at hb;omega⟩),by simp;omega,((hb2.setCell (Nat.le_refl _) _).setCell (Nat.le_refl _) _).setCell (Nat.le_refl _) _⟩
   case measure=>simp[intOf];omega
  go_wp2;go_ret;rw[List.take_of_length_le (by omega),List.drop_eq_nil_of_le (by simp;omega),List.append_nil]at own;exact⟨_,_,_,rfl,sl_O.2 own,hb⟩
theorem zpw(s:ByteArray)(l0:Int)(A A':Yo)(n c n' c':Nat)(xs:List (Int×Int))(w:Yw)(hx:tSdS.R w w.heap.size [.slice A n c] xs)(hy:tSdS.R w w.heap.size [.slice A' n' c'] xs)(hn:hSdS.sz xs<=100000000):
 Calls Tryz.prog 156 #[.agg #[.string s,.int .i64 l0,.slice A n c],.agg #[.string s,.int .i64 l0,.slice A' n' c']] w fun e w'=>e=.returned (.bool true)/\Below w.heap.size w w':=by
 have hb:Below w.heap.size w ((w.alloc (.cells #[.string s,.int .i64 l0,.slice A n c] 117)).alloc (.cells #[.string s,.int .i64 l0,.slice A' n' c'] 117)):=((Below.refl _ _).alloc (Nat.le_refl _) _).alloc (by simp) _;have hx2:=tSdS.later hx hb;have hy2:=tSdS.later hy hb
 go_enter Tryz.func156,Tryz.ntmps156
 go_wp2_with (go_at_call 210;refine(zpp _ _ _ _ _ _ _ _ hx2 hy2 hn).mono ?_;rintro e w2 ⟨rfl,bel2⟩);go_ret;exact⟨rfl,hb.trans (bel2.mono hb.size)⟩
theorem zpx(A A':Yo)(n c n' c':Nat)(xs:List zag)(w:Yw)(hx:tM.R w w.heap.size [.slice A n c] xs)(hy:tM.R w w.heap.size [.slice A' n' c'] xs)(hn:hM.sz xs<=100000000):
 Calls Tryz.prog 98 #[.slice A n c,.slice A' n' c'] w fun e w'=>e=.returned (.bool true)/\Below w.heap.size w w':=by
 have hr:=sl_R.1 hx;have hr':=sl_R.1 hy;obtain rfl:xs.length=n:=hr.cap.1;obtain rfl:xs.length=n':=hr'.cap.1;have hn1:xs.length+hSt.szL xs<=100000000:=hn;clear hx hy hn
 go_enter Tryz.func98,Tryz.ntmps98
 go_wp2
 go_loopw [5] (fun i wr=>∃k:Nat,i=.int .i64 k/\k<=xs.length/\Below w.heap.size w wr) (fun i _=>xs.length-(intOf i).toNat)
 case atStart=>exact⟨0,rfl,by omega,Below.refl _ _⟩
 case round=>
  obtain⟨k,rfl,hk,hb⟩:=hrel
  by_cases hlt:k<xs.length
  ·have hX:=Lib.hid (List.getElem?_eq_getElem hlt);obtain⟨b,o,c1,cs,hv,hab,-,hE,hc⟩:=(hr.below hb).atX hX.out;obtain⟨b',o',c1',cs',hv',hab',-,hE',hc'⟩:=(hr'.below hb).atX hX.out;simp only[Value.slice.injEq]at hv hv';obtain⟨rfl,-,rfl⟩:=hv;obtain⟨rfl,-,rfl⟩:=hv';have hU:=hSt.szL_at hX.out;generalize xs[k]=x at hX hE hE' hU;obtain⟨s,l0,ys⟩:=x;rw[ze7]at hU;obtain⟨A1,n1,c1,rfl,hs,hE⟩:=st_R.1 hE;obtain⟨A2,n2,c2,rfl,-,hE'⟩:=st_R.1 hE';have hc0:wr.cell? ⟨b,o+k*3,none⟩=some (.string s):=hc 0 _ rfl;have hc1:wr.cell? ⟨b,o+k*3+1,none⟩=some (.int .i64 l0):=hc 1 _ rfl;have hc2:wr.cell? ⟨b,o+k*3+2,none⟩=some (.slice A1 n1 c1):=hc 2 _ rfl;have hd0:wr.cell? ⟨b',o'+k*3,none⟩=some (.string s):=hc' 0 _ rfl;have hd1:wr.cell? ⟨b',o'+k*3+1,none⟩=some (.int .i64 l0):=hc' 1 _ rfl;have hd2:wr.cell? ⟨b',o'+k*3+2,none⟩=some (.slice A2 n2 c2):=hc' 2 _ rfl;have hbr:b<wr.heap.size:=Nat.lt_of_lt_of_le hab hb.size;have hbr':b'<wr.heap.size:=Nat.lt_of_lt_of_le hab' hb.size;have hz:=ze6 ys;have hz2:hSdS.sz ys<=100000000:=(by omega);have hF:=tSdS.later (tSdS.more hb.size hE) (zae (Below.refl _ _) 1);have hF':=tSdS.later (tSdS.more hb.size hE') (zae (Below.refl _ _) 1);clear hc hc' hE hE' hz;go_wp2
   go_region_held3 (fun w'=>Below wr.heap.size wr w'/\w'.cell? ⟨b,o+k*3,none⟩=some (.string s)/\w'.cell? ⟨b,o+k*3+1,none⟩=some (.int .i64 l0)/\w'.cell? ⟨b,o+k*3+2,none⟩=some (.slice A1 n1 c1)/\w'.cell? ⟨b',o'+k*3,none⟩=some (.string s)/\w'.cell? ⟨b',o'+k*3+1,none⟩=some (.int .i64 l0)/\w'.cell? ⟨b',o'+k*3+2,none⟩=some (.slice A2 n2 c2))
    (first
     | exact⟨zae (Below.refl _ _) _,hc0,hc1,hc2,hd0,hd1,hd2⟩
     | exact⟨zda bel2 rfl (And.left (by assumption)),za8 bel2 rfl (And.left (by assumption)) hc0 hbr,za8 bel2 rfl (And.left (by assumption)) hc1 hbr,za8 bel2 rfl (And.left (by assumption)) hc2 hbr,za8 bel2 rfl (And.left (by assumption)) hd0 hbr',za8 bel2 rfl (And.left (by assumption)) hd1 hbr',za8 bel2 rfl (And.left (by assumption)) hd2 hbr'⟩)
    (first|(go_at_call 156;refine(zpw _ _ _ _ _ _ _ _ _ _ hF hF' hz2).mono ?_;rintro e w2 ⟨rfl,bel2⟩))
   go_wp2;go_roundw
   case rel=>exact⟨k+1,by go_num,by omega,hb.trans ((zda bel2 rfl (zae (Below.refl _ _) _)).mono hb.size)⟩
   case measure=>simp[intOf];omega
  go_wp2;go_ret;exact⟨rfl,hb⟩
end Go.Proofs.YtifeldeikhmckaaGreat
