import Derived.Test.YtifeldeikhmckaaGreatFnExactOptimizeSessionG7
import Derived.Maps.OwnOps
import Derived.Maps.OwnSet
import Derived.StringKeys
import Derived.Test.YtifeldeikhmckaaGreatFnExactOptimizeSessionG4
import Derived.Test.YtifeldeikhmckaaGreatFnExactOptimizeSessionG3
import Derived.Lib.QuietBelow
set_option linter.unusedVariables false
set_option linter.unusedSimpArgs false
set_option maxRecDepth 100000
set_option maxHeartbeats 4000000
namespace Go.Proofs.YtifeldeikhmckaaGreat
open Go.RowKit
section
open Go.Maps (Keyed)
theorem zqa{P:Program}{k t e:TypeId}{w:Yw}{b n:Nat}{D:DataW Unit}(h:w.ownsMap P k (plainElem P e) b n D)(K:Keyed P k)(ht:P.underlying t=some (.map k e))(he:P.underlying e=some .bool)(hz:(zeroValue e).run P w=.ok (.bool false) w)
 {key:Value} {kl:Lit} (hkey:keyOf P k key=some kl):∃c,(Instr.lookup t (.map (some b)) key false).run P w=.ok (.bool c) w/\D.atKey kl (.lit (.bool false))=.lit (.bool c):=by
 obtain⟨v,ps,hrun,hv⟩:=h.lookup K ht hz (plainElem_bool he false) hkey;unfold plainElem at hv;rw[he]at hv;cases v <;> simp at hv
 rename_i c
 exact⟨c,hrun,hv.1.symm⟩
def zd5 (s:ByteArray) (l:List ByteArray):Bool:=l.any fun t=>decide (t=s)
def zhd (D:DataW Unit) (l:List ByteArray):Prop:=Go.Maps.IsMap D/\∀s:ByteArray,D.atKey (.string s.data.toList) (.lit (.bool false))=.lit (.bool (zd5 s l))
theorem zqb{s t:ByteArray}(h:s.data.toList=t.data.toList):s=t:=ByteArray.ext (Array.toList_inj.1 h)
theorem zqc:zhd (.map []) []:=⟨⟨[],rfl⟩,fun s=>rfl⟩
theorem zqd{D:DataW Unit}{l:List ByteArray}(h:zhd D l)(s:ByteArray):zhd (D.put (.string s.data.toList) (.lit (.bool true))) (l++[s]):=by
 refine⟨?_,fun t=>?_⟩
 ·obtain⟨es,rfl⟩:=h.1;exact⟨_,rfl⟩
 by_cases e:t=s
 ·subst e;rw[Go.Maps.atKey_put_same (k:=.string t.data.toList) h.1 (by simp[WideAt.IsKeyLit])];simp[zd5]
 rw[Go.Maps.atKey_put_other (fun e2=>e (by injection e2 with e2;exact zqb e2)),h.2 t];have e2:¬s=t:=fun h=>e h.symm
 simp[zd5,e2]
theorem zkt:Keyed Tryz.prog 9:=Keyed.of_law (Go.WideMaps.string_law Tryz.underlying9)
theorem zqe(w:Yw):(zeroValue 4).run Tryz.prog w=.ok (.bool false) w:=by kernel_rfl
def M.sz:zag:=(⟨#[]⟩,0,[])
def zdx (xs:List zag) (k:Nat):Bool:=zbx ((xs[k]?).getD M.sz) k xs.length&&!zd5 ((xs[k]?).getD M.sz).1 ((xs.take k).map (·.1))
def zby (xs:List zag):Bool:=M.inn xs.length 1 8&&(List.range xs.length).all (zdx xs)
theorem zku{xs:List zag}{k:Nat}(hk:k<xs.length)(h:zdx xs k=false):zby xs=false:=by
 rw[zby];cases hall:(List.range xs.length).all (zdx xs)
 ·simp
 rw[List.all_eq_true]at hall;have:=hall k (List.mem_range.2 hk);rw[h]at this;cases this
theorem zkv{xs:List zag}(h:∀j,j<xs.length->zdx xs j=true):zby xs=M.inn xs.length 1 8:=by
 rw[zby,show (List.range xs.length).all (zdx xs)=true from List.all_eq_true.2 fun j hj=>h j (List.mem_range.1 hj),Bool.and_true]
theorem zkw{xs:List zag}{k:Nat}{x:zag}(h:xs[k]?=some x):zdx xs k=(zbx x k xs.length&&!zd5 x.1 ((xs.take k).map (·.1))):=by
 rw[zdx,h];rfl
theorem zqf{w w':Yw}(h:Below w.heap.size w w')(row:Option Nat):w.grownBy w' row:=⟨h.os,h.tape,h.output,h.size,fun k hk _=>h.block k hk⟩
theorem zgf(A:Yo)(n c:Nat)(xs:List zag)(w:Yw)(hx:tM.R w w.heap.size [.slice A n c] xs)(hn:hM.sz xs<=100000000):
 Calls Tryz.prog 83 #[.agg #[.slice A n c]] w fun e w'=>e=.returned (.bool (zby xs))/\Below w.heap.size w w':=by
 have rx:=sl_R.1 hx;have hlx:=rx.cap.1;have hm1:xs.length+hSt.szL xs<=100000000:=hn;have hnb:n<=100000000:=by omega
 have HLX:=Lib.hid hlx;have HM1:=Lib.hid hm1;clear hlx hx hn hm1;have hmm:=@run_makeMap Tryz.prog
 go_enter Tryz.func83,Tryz.ntmps83
 go_wp2_with (go_at_call 80;refine(zeo _ _ _ _).mono ?_;rintro e w' ⟨rfl,rfl⟩)
 go_loopw [5,6,14] (fun _ _ i wr=>∃(k:Nat) (D:DataW Unit),i=.int .i64 k/\k<=n/\Hid (∀j,j<k->zdx xs j=true)/\Hid (zhd D ((xs.take k).map (·.1)))/\wr.ownsMap Tryz.prog 9 (plainElem Tryz.prog 4) (w.heap.size+1) k D/\w.heap.size+1+1<=wr.heap.size/\Below w.heap.size w wr) (fun _ _ i _=>n-(intOf i).toNat)
 case atStart=>exact⟨0,.map [],rfl,by omega,Lib.hid (by omega),Lib.hid (by simpa using zqc),by have:=World.ownsMap_made (w.alloc (.cells #[.slice A n c] 36)) Tryz.prog 9 (plainElem (H:=Unit) Tryz.prog 4);simpa using this,by simp,((Below.refl _ _).alloc (Nat.le_refl _) _).alloc (by simp) _⟩
 case round=>
  obtain⟨k,D,rfl,hk,H,HD,hown,hsz,Bw⟩:=hrel;clear hmm
  by_cases hlt:k<n
  ·have hX:=Lib.hid (List.getElem?_eq_getElem (l:=xs) (i:=k) (by rw[HLX.out];exact hlt));obtain⟨b,o1,cc,cs,hv,hab,-,hE,hcc⟩:=(rx.below Bw).atX hX.out;simp only[Value.slice.injEq]at hv;obtain⟨rfl,-,rfl⟩:=hv;have hU:=hSt.szL_at hX.out;generalize xs[k]'(by rw[HLX.out];exact hlt)=x at hX hE hU;obtain⟨s,l,us⟩:=x;rw[ze7]at hU;obtain⟨A1,n1,c1,rfl,hs,hE⟩:=st_R.1 hE;have n1b:n1<=1000000000:=(by have:=(zhc hE).1.1;have:=HM1.out;omega);have e0:wr.cell? ⟨b,o1+k*3,none⟩=some (.string s):=hcc 0 _ rfl;have e1:wr.cell? ⟨b,o1+k*3+1,none⟩=some (.int .i64 l):=hcc 1 _ rfl;have e2:wr.cell? ⟨b,o1+k*3+2,none⟩=some (.slice A1 n1 c1):=hcc 2 _ rfl;have hbr:b<wr.heap.size:=Nat.lt_of_lt_of_le hab Bw.size;have hE2:=tSdS.later (tSdS.more Bw.size hE) ((Below.refl wr.heap.size wr).alloc (Nat.le_refl _) (.cells #[.string s,.int .i64 l,.slice A1 n1 c1] 117));have hra:=(zhc hE2).1;have hS:=Lib.hid (zkw hX.out);have HNO:=Lib.hid (fun h=>zku (xs:=xs) (k:=k) (by rw[HLX.out];exact hlt) h);have hownU:=hown.alloc (.cells #[.string s,.int .i64 l,.slice A1 n1 c1] 117);have hkey:keyOf Tryz.prog 9 (.string s)=some (.string s.data.toList):=Go.WideMaps.keyOf_string_mk Tryz.underlying9 hs;obtain⟨q,hrun,hat⟩:=zqa hownU zkt Tryz.underlying186 Tryz.underlying4 (zqe _) hkey
   have hq:q=zd5 s ((xs.take k).map (·.1)):=by
    rw[HD.out.2 s]at hat;injection hat with hat
    injection hat with hat
    exact hat.symm
   have HQ:=Lib.hid hq;have Bu:=Bw.alloc Bw.size (.cells #[.string s,.int .i64 l,.slice A1 n1 c1] 117);clear hcc hU hE hE2 hat hq;cases hN:zdw s
   ·have R:=Lib.hid (show zby xs=false from HNO.out (by rw[hS.out,zbx,hN];rfl));go_wp2_with (first|(go_at_call 140;refine(zgd _ _ hs).mono ?_;rw[hN];rintro e w' ⟨rfl,rfl⟩));go_ret;exact⟨zac (by rw[R.out]),Bu⟩
   by_cases hq1:q=true
   ·subst hq1;have R:=Lib.hid (show zby xs=false from HNO.out (by rw[hS.out,<-HQ.out,Bool.not_true,Bool.and_false]));go_wp2_with (first|(go_at_call 140;refine(zgd _ _ hs).mono ?_;rw[hN];rintro e w' ⟨rfl,rfl⟩));go_ret;exact⟨zac (by rw[R.out]),Bu⟩
   have hq0:q=false:=(by simpa using hq1);subst hq0;clear hq1;cases hL:M.inn l 0 32
   ·have R:=Lib.hid (show zby xs=false from HNO.out (by rw[hS.out,zbx,hN,hL];rfl));go_wp2_with (first|(go_at_call 140;refine(zgd _ _ hs).mono ?_;rw[hN];rintro e w' ⟨rfl,rfl⟩)|(go_at_call 81;refine(zap _ _ _ _).mono ?_;rintro e w' ⟨rfl,rfl⟩));go_ret;exact⟨zac (by rw[R.out]),Bu⟩
   have hAS:=zp8 A1 n1 c1 us k n _ hra n1b ⟨by omega,by omega⟩ ⟨by omega,by omega⟩;cases hA:zb6 us k n
   ·have R:=Lib.hid (show zby xs=false from HNO.out (by rw[hS.out,zbx,hN,hL,HLX.out,hA];rfl));go_wp2_with (first|(go_at_call 140;refine(zgd _ _ hs).mono ?_;rw[hN];rintro e w' ⟨rfl,rfl⟩)|(go_at_call 81;refine(zap _ _ _ _).mono ?_;rintro e w' ⟨rfl,rfl⟩)|(go_at_call 141;refine hAS.mono ?_;rw[hA];clear hAS;rintro e w2 ⟨rfl,bel2⟩));go_ret;exact⟨zac (by rw[R.out]),zj1 Bu (by simp;omega) bel2⟩
   have HST:=Lib.hid (show zdx xs k=true by rw[hS.out,zbx,hN,hL,HLX.out,hA,<-HQ.out];rfl);have HT:=Lib.hid (show (xs.take (k+1)).map (·.1)=(xs.take k).map (·.1)++[s]by rw[M.take_at hX.out,List.map_append];rfl);go_wp2_with (first|(go_at_call 140;refine(zgd _ _ hs).mono ?_;rw[hN];rintro e w' ⟨rfl,rfl⟩)|(go_at_call 81;refine(zap _ _ _ _).mono ?_;rintro e w' ⟨rfl,rfl⟩)|(go_at_call 141;refine hAS.mono ?_;rw[hA];clear hAS;rintro e w2 ⟨rfl,bel2⟩;have hown2:=hownU.kept (zqf bel2 none) (by simp);have z2:wr.heap.size+1<=w2.heap.size:=(by have:=bel2.size;simpa using this);have g0:w2.cell? ⟨wr.heap.size,0,none⟩=some (.string s):=(by rw[bel2.cell (by simp),cell_of_row _ wr.heap.size 0 _ 117 (0,0) (heap_alloc_new wr _)];rfl))|(at_mapUpdate;refine wpList_mapUpdate_own _ rfl _ _ _ 186 rfl 9 4 zkt Tryz.underlying186 _ (w.heap.size+1) k _ rfl hown2 (by unfold maxLen;omega) _ _ _ rfl rfl hkey _ [] (plainElem_bool Tryz.underlying4 true) ?_;intro w3 hown3 hgrow3));go_roundw
   case rel=>exact⟨k+1,_,by go_num,by omega,Lib.hid (fun j hj=>by
    rcases Nat.lt_or_ge j k with h1|h1
    ·exact H.out j h1
    obtain rfl:j=k:=by omega
    exact HST.out),Lib.hid (by rw[HT.out];exact zqd HD.out s),hown3,by have:=hgrow3.size;omega,(zj1 Bu (by simp;omega) bel2).grown hgrow3 (by omega) (fun j hj=>by injection hj with hj;omega)⟩
   case measure=>simp[intOf];omega
  have R:=Lib.hid (show zby xs=M.inn n 1 8 by rw[zkv (fun j hj=>H.out j (by rw[HLX.out]at hj;omega)),HLX.out]);go_wp2_with (go_at_call 81;refine(zap _ _ _ _).mono ?_;rintro e w' ⟨rfl,rfl⟩);go_ret;exact⟨zac (by rw[R.out]),Bw⟩
end
def hU:Hs Int:=⟨fun _=>0,fun _ x=>x,fun _=>0⟩
theorem zan{W w1:Yw}(hb:Below W.heap.size W w1):(∀b o,b<W.heap.size->w1.cell? ⟨b,o,none⟩=W.cell? ⟨b,o,none⟩)/\(∀b o,b<W.heap.size->w1.frozen? ⟨b,o,none⟩=W.frozen? ⟨b,o,none⟩):=
 ⟨fun b o h=>hb.cell (p:=⟨b,o,none⟩) h,fun b o h=>hb.frozen (p:=⟨b,o,none⟩) h⟩
theorem za9{α:Type}{t:Ty α}{e:TypeId}{w:Yw}{B:Nat}{cs:List Value}{x:List α}(h:(t.sl e).R w B cs x):∃A n c,cs=[.slice A n c]:=by
 obtain⟨v,rfl,hr⟩:=h;obtain⟨A,c,rfl⟩:=hr.shape;exact⟨_,_,_,rfl⟩
abbrev zas:=Int×Int×Int×Int×Int
theorem zd6(A:Yo)(n c:Nat)(xs:List Int)(l:Int)(w:Yw)(hx:tS.R w w.heap.size [.slice A n c] xs)(hl:0<=l/\l<=1000000000):
 Calls Tryz.prog 22 #[.slice A n c,.int .i64 l] w fun e w'=>e=.returned (.int .i64 (if (hS.sz xs:Int)<=l then l-hS.sz xs else -1))/\Below w.heap.size w w':=by
 obtain⟨h1,h2,h3⟩:=(tS_R.1 hx).cap;have hn:n<=9223372036854775807:=by unfold maxLen at h3;omega
 rw[zbi,h1];clear h1 h2 h3 hx
 by_cases h:(n:Int)<=l
 all_goals
  go_enter Tryz.func22,Tryz.ntmps22
  go_wp2;go_ret;exact⟨rfl,Below.refl _ _⟩
abbrev Node:=Int×Int×Int×(List Int)
abbrev tN:Ty Node:=tI.prod (tI.prod (tI.prod tS))
abbrev hN:Hs Node:=hI.prod (hI.prod (hI.prod hS))
theorem tN_R{w:Yw}{B:Nat}{cs:List Value}{a0:Int}{a1:Int}{a2:Int}{x3:List Int}:tN.R w B cs (a0,a1,a2,x3)↔∃A3 n3 c3,cs=[.int .i64 a0,.int .i64 a1,.int .i64 a2,.slice A3 n3 c3]/\tS.R w B [.slice A3 n3 c3] x3:=by
 constructor
 ·rintro⟨u0,d0,rfl,g0,⟨u1,d1,rfl,g1,⟨u2,d2,rfl,g2,g3⟩⟩⟩;obtain rfl:u0=[.int .i64 a0]:=g0;obtain rfl:u1=[.int .i64 a1]:=g1;obtain rfl:u2=[.int .i64 a2]:=g2;obtain⟨A3,n3,c3,rfl⟩:=za9 g3;exact⟨A3,n3,c3,rfl,g3⟩
 rintro⟨A3,n3,c3,rfl,g3⟩;exact⟨[.int .i64 a0],_,rfl,rfl,⟨[.int .i64 a1],_,rfl,rfl,⟨[.int .i64 a2],_,rfl,rfl,g3⟩⟩⟩
theorem tN_O{w:Yw}{F:Nat->Prop}{cs:List Value}{a0:Int}{a1:Int}{a2:Int}{x3:List Int}:tN.O w F cs (a0,a1,a2,x3)↔∃A3 n3 c3,∃F3:Nat->Prop,cs=[.int .i64 a0,.int .i64 a1,.int .i64 a2,.slice A3 n3 c3]/\tS.O w F3 [.slice A3 n3 c3] x3/\(∀b,F3 b->F b):=by
 constructor
 ·rintro⟨u0,d0,F0,G0,rfl,g0,⟨u1,d1,F1,G1,rfl,g1,⟨u2,d2,F2,G2,rfl,g2,g3,p2,q2,r2⟩,p1,q1,r1⟩,p0,q0,r0⟩;obtain rfl:u0=[.int .i64 a0]:=g0;obtain rfl:u1=[.int .i64 a1]:=g1;obtain rfl:u2=[.int .i64 a2]:=g2;obtain⟨A3,n3,c3,rfl⟩:=za9 (tS.read g3);exact⟨A3,n3,c3,G2,rfl,g3,fun b h=>q0 _ (q1 _ (q2 _ (h)))⟩
 rintro⟨A3,n3,c3,F3,rfl,g3,p3⟩;exact⟨[.int .i64 a0],_,(fun _=>False),F3,rfl,rfl,⟨[.int .i64 a1],_,(fun _=>False),F3,rfl,rfl,⟨[.int .i64 a2],_,(fun _=>False),F3,rfl,rfl,g3,fun _ h=>h.elim,fun b h=>by first|exact h|exact Or.inr h|(rcases h with h <;> simp only[*,true_or,or_true]),fun _ h=>h.elim⟩,fun _ h=>h.elim,fun b h=>by first|exact h|exact Or.inr h|(rcases h with h <;> simp only[*,true_or,or_true]),fun _ h=>h.elim⟩,fun _ h=>h.elim,p3,fun _ h=>h.elim⟩
theorem ze9(a0:Int)(a1:Int)(a2:Int)(x3:List Int):hN.sz (a0,a1,a2,x3)=hS.sz x3:=by
 show 0+(0+(0+(hS.sz x3)))=_
 omega
theorem zgg(a0:Int)(a1:Int)(a2:Int)(x3:List Int):hN.cnt (a0,a1,a2,x3)=3+hS.cnt x3:=by
 show 1+(1+(1+(hS.cnt x3)))=_
 omega
theorem zkx(a0:Int)(a1:Int)(a2:Int)(A3:Yo)(n3 c3:Nat)(x3:List Int)(l:Int)(w:Yw)(h3:tS.R w w.heap.size [.slice A3 n3 c3] x3)(hl:0<=l/\l<=1000000000):
 Calls Tryz.prog 173 #[.agg #[.int .i64 a0,.int .i64 a1,.int .i64 a2,.slice A3 n3 c3],.int .i64 l] w fun e w'=>e=.returned (.int .i64 (if (hN.sz ((a0,a1,a2,x3):Node):Int)<=l then l-hN.sz ((a0,a1,a2,x3):Node)else -1))/\Below w.heap.size w w':=by
 obtain⟨W,hW⟩:∃W,W=w.alloc (.cells #[.int .i64 a0,.int .i64 a1,.int .i64 a2,.slice A3 n3 c3] 217):=⟨_,rfl⟩;have B0:Below w.heap.size w W:=by rw[hW];exact(Below.refl _ _).alloc (Nat.le_refl _) _
 have p3:W.cell? ⟨w.heap.size,3,none⟩=some (.slice A3 n3 c3):=by rw[hW];simp[go_sem]
 have l0:w.heap.size<W.heap.size:=by rw[hW];simp
 have y3_0:=tS.later h3 B0;have HW:=Lib.hid hW;clear hW;rw[ze9];have z3:0<=(hS.sz x3:Int):=Int.natCast_nonneg _
 by_cases g0:(hS.sz x3:Int)<=l
 ·have i0:=Lib.hid (show (if (hS.sz x3:Int)<=l then l-hS.sz x3 else -1)=l-hS.sz x3 by rw[if_pos g0]);have hj:=Lib.hid (show (if ((hS.sz x3:Nat):Int)<=l then l-((hS.sz x3:Nat):Int)else -1)=l-hS.sz x3 by rw[if_pos (by omega)];first|done|omega);rw[hj.out];clear z3
  go_enter Tryz.func173,Tryz.ntmps173
  go_wp2_with fail;rw[<-HW.out];refine(zd6 _ _ _ _ _ _ y3_0 (by omega)).mono ?_;rw[i0.out];rintro e w1 ⟨rfl,b1⟩;obtain⟨hc1,-⟩:=zan b1;have l1:=Nat.lt_of_lt_of_le l0 b1.size;have B1:=zaa B0 b1;go_wp2;go_ret;exact⟨rfl,B1⟩
 have i0:=Lib.hid (show (if (hS.sz x3:Int)<=l then l-hS.sz x3 else -1) = -1 by rw[if_neg g0]);have hj:=Lib.hid (show (if ((hS.sz x3:Nat):Int)<=l then l-((hS.sz x3:Nat):Int)else -1) = -1 by rw[if_neg (by omega)]);rw[hj.out];clear z3
 go_enter Tryz.func173,Tryz.ntmps173
 go_wp2_with fail;rw[<-HW.out];refine(zd6 _ _ _ _ _ _ y3_0 (by omega)).mono ?_;rw[i0.out];rintro e w1 ⟨rfl,b1⟩;obtain⟨hc1,-⟩:=zan b1;have l1:=Nat.lt_of_lt_of_le l0 b1.size;have B1:=zaa B0 b1;go_wp2;go_ret;exact⟨rfl,B1⟩
theorem zqg(a0:Int)(a1:Int)(a2:Int)(A3:Yo)(n3 c3:Nat)(A3':Yo)(n3' c3':Nat)(x3:List Int)(w:Yw)(h3:tS.R w w.heap.size [.slice A3 n3 c3] x3)(k3:tS.R w w.heap.size [.slice A3' n3' c3'] x3)(hn:hN.sz ((a0,a1,a2,x3):Node)<=100000000):
 Calls Tryz.prog 209 #[.agg #[.int .i64 a0,.int .i64 a1,.int .i64 a2,.slice A3 n3 c3],.agg #[.int .i64 a0,.int .i64 a1,.int .i64 a2,.slice A3' n3' c3']] w fun e w'=>e=.returned (.bool true)/\Below w.heap.size w w':=by
 obtain⟨W,hW⟩:∃W,W=(w.alloc (.cells #[.int .i64 a0,.int .i64 a1,.int .i64 a2,.slice A3 n3 c3] 169)).alloc (.cells #[.int .i64 a0,.int .i64 a1,.int .i64 a2,.slice A3' n3' c3'] 169):=⟨_,rfl⟩;have B0:Below w.heap.size w W:=by rw[hW];exact((Below.refl _ _).alloc (Nat.le_refl _) _).alloc (by simp) _
 have p0:W.cell? ⟨w.heap.size,0,none⟩=some (.int .i64 a0):=by rw[hW];simp[go_sem]
 have q0:W.cell? ⟨w.heap.size+1,0,none⟩=some (.int .i64 a0):=by rw[hW];simp[go_sem]
 have p1:W.cell? ⟨w.heap.size,1,none⟩=some (.int .i64 a1):=by rw[hW];simp[go_sem]
 have q1:W.cell? ⟨w.heap.size+1,1,none⟩=some (.int .i64 a1):=by rw[hW];simp[go_sem]
 have p2:W.cell? ⟨w.heap.size,2,none⟩=some (.int .i64 a2):=by rw[hW];simp[go_sem]
 have q2:W.cell? ⟨w.heap.size+1,2,none⟩=some (.int .i64 a2):=by rw[hW];simp[go_sem]
 have p3:W.cell? ⟨w.heap.size,3,none⟩=some (.slice A3 n3 c3):=by rw[hW];simp[go_sem]
 have q3:W.cell? ⟨w.heap.size+1,3,none⟩=some (.slice A3' n3' c3'):=by rw[hW];simp[go_sem]
 have l0:w.heap.size+1<W.heap.size:=by rw[hW];simp
 have l0':w.heap.size<W.heap.size:=by omega
 have y3_0:=tS.later h3 B0;have v3_0:=tS.later k3 B0;have HW:=Lib.hid hW;clear hW;rw[ze9]at hn
 go_enter Tryz.func209,Tryz.ntmps209
 go_wp2_with fail;rw[<-HW.out];refine(zg5 _ _ _ _ _ _ _ _ y3_0 v3_0 (by omega)).mono ?_;rintro e w1 ⟨rfl,b1⟩;obtain⟨hc1,-⟩:=zan b1;have l1:=Nat.lt_of_lt_of_le l0 b1.size;have l1':=Nat.lt_of_lt_of_le l0' b1.size;have B1:=zaa B0 b1;go_wp2;go_ret;exact⟨rfl,B1⟩
theorem zqh(a0:Int)(a1:Int)(a2:Int)(A3:Yo)(n3 c3:Nat)(x3:List Int)(w:Yw)(h3:tS.R w w.heap.size [.slice A3 n3 c3] x3)(hn:hN.sz ((a0,a1,a2,x3):Node)<=100000000):
 Calls Tryz.prog 190 #[.agg #[.int .i64 a0,.int .i64 a1,.int .i64 a2,.slice A3 n3 c3]] w fun e w'=>∃A3' n3' c3',e=.returned (.agg #[.int .i64 a0,.int .i64 a1,.int .i64 a2,.slice A3' n3' c3'])/\tN.O w' (Iv w.heap.size w'.heap.size) [.int .i64 a0,.int .i64 a1,.int .i64 a2,.slice A3' n3' c3'] (a0,a1,a2,x3)/\Below w.heap.size w w':=by
 obtain⟨W,hW⟩:∃W,W=((w.alloc (.cells #[.int .i64 a0,.int .i64 a1,.int .i64 a2,.slice A3 n3 c3] 217)).alloc (.cells #[.int .i64 0,.int .i64 0,.int .i64 0,.slice none 0 0] 169)).alloc (.cells #[.int .i64 a0,.int .i64 a1,.int .i64 a2,.slice none 0 0] 169):=⟨_,rfl⟩;have B0:Below w.heap.size w W:=by rw[hW];exact(((Below.refl _ _).alloc (Nat.le_refl _) _).alloc (by simp) _).alloc (by simp;omega) _
 have z0:W.heap.size=w.heap.size+1+1+1:=by rw[hW];simp
 have p0:W.cell? ⟨w.heap.size,0,none⟩=some (.int .i64 a0):=by rw[hW];simp[go_sem]
 have q0:W.cell? ⟨w.heap.size+1,0,none⟩=some (.int .i64 0):=by rw[hW];simp[go_sem]
 have r0:W.cell? ⟨w.heap.size+1+1,0,none⟩=some (.int .i64 a0):=by rw[hW];simp[go_sem]
 have s0:W.frozen? ⟨w.heap.size+1,0,none⟩=false:=by rw[hW];simp[go_sem]
 have t0:W.frozen? ⟨w.heap.size+1+1,0,none⟩=false:=by rw[hW];simp[go_sem]
 have p1:W.cell? ⟨w.heap.size,1,none⟩=some (.int .i64 a1):=by rw[hW];simp[go_sem]
 have q1:W.cell? ⟨w.heap.size+1,1,none⟩=some (.int .i64 0):=by rw[hW];simp[go_sem]
 have r1:W.cell? ⟨w.heap.size+1+1,1,none⟩=some (.int .i64 a1):=by rw[hW];simp[go_sem]
 have s1:W.frozen? ⟨w.heap.size+1,1,none⟩=false:=by rw[hW];simp[go_sem]
 have t1:W.frozen? ⟨w.heap.size+1+1,1,none⟩=false:=by rw[hW];simp[go_sem]
 have p2:W.cell? ⟨w.heap.size,2,none⟩=some (.int .i64 a2):=by rw[hW];simp[go_sem]
 have q2:W.cell? ⟨w.heap.size+1,2,none⟩=some (.int .i64 0):=by rw[hW];simp[go_sem]
 have r2:W.cell? ⟨w.heap.size+1+1,2,none⟩=some (.int .i64 a2):=by rw[hW];simp[go_sem]
 have s2:W.frozen? ⟨w.heap.size+1,2,none⟩=false:=by rw[hW];simp[go_sem]
 have t2:W.frozen? ⟨w.heap.size+1+1,2,none⟩=false:=by rw[hW];simp[go_sem]
 have p3:W.cell? ⟨w.heap.size,3,none⟩=some (.slice A3 n3 c3):=by rw[hW];simp[go_sem]
 have q3:W.cell? ⟨w.heap.size+1,3,none⟩=some (.slice none 0 0):=by rw[hW];simp[go_sem]
 have r3:W.cell? ⟨w.heap.size+1+1,3,none⟩=some (.slice none 0 0):=by rw[hW];simp[go_sem]
 have s3:W.frozen? ⟨w.heap.size+1,3,none⟩=false:=by rw[hW];simp[go_sem]
 have t3:W.frozen? ⟨w.heap.size+1+1,3,none⟩=false:=by rw[hW];simp[go_sem]
 have l0:w.heap.size<W.heap.size:=by omega
 have l0':w.heap.size+1<W.heap.size:=by omega
 have l0'':w.heap.size+1+1<W.heap.size:=by omega
 have Z0:w.heap.size+1+1+1<=W.heap.size:=by omega
 clear z0;have y3_0:=tS.later h3 B0;have HW:=Lib.hid hW;clear hW;rw[ze9]at hn
 go_enter Tryz.func190,Tryz.ntmps190
 go_wp2_with fail;rw[<-HW.out];refine(zg4 _ _ _ _ _ y3_0 (by omega)).mono ?_;rintro e w1 ⟨A3',n3',c3',rfl,o3_0,b1⟩;obtain⟨hc1,hf1⟩:=zan b1;obtain⟨U1,hU1⟩:∃U,U=w1.setCell ⟨w.heap.size+1+1,3,none⟩ (.slice A3' n3' c3'):=⟨_,rfl⟩;have m1:Mid (w.heap.size+1+1) (w.heap.size+1+1+1) w1 U1:=by rw[hU1];exact Mid.of_grown (zaz w1 (w.heap.size+1+1) 3 _) fun k hk=>by injection hk with hk;omega
 have e1:U1.heap.size=w1.heap.size:=by rw[hU1];simp
 have E1:=Lib.hid e1;have sz1:W.heap.size<=U1.heap.size:=by rw[e1];exact b1.size
 have BU1:Below (w.heap.size+1+1) w1 U1:=m1.toBelow (by omega);have B1:Below w.heap.size w U1:=(zaa B0 b1).trans (BU1.mono (by omega));have l1:=Nat.lt_of_lt_of_le l0 sz1;have l1':=Nat.lt_of_lt_of_le l0' sz1;have l1'':=Nat.lt_of_lt_of_le l0'' sz1;have Z1:=Nat.le_trans Z0 sz1;have o3_1:tS.O U1 (Iv W.heap.size U1.heap.size) [.slice A3' n3' c3'] x3:=tS.oiv (tS.omid o3_0 m1 (.inr (by omega)) (Nat.le_refl _)) (Nat.le_refl _) (by omega);have q0_1:U1.cell? ⟨w.heap.size+1,0,none⟩=some (.int .i64 0):=by rw[BU1.cell (by show w.heap.size+1<_;omega),b1.cell (by show w.heap.size+1<_;omega)];exact q0
 have s0_1:U1.frozen? ⟨w.heap.size+1,0,none⟩=false:=by rw[BU1.frozen (by show w.heap.size+1<_;omega),b1.frozen (by show w.heap.size+1<_;omega)];exact s0
 have r0_1:U1.cell? ⟨w.heap.size+1+1,0,none⟩=some (.int .i64 a0):=by rw[hU1];simp[go_sem,hc1,l0'',r0]
 have t0_1:U1.frozen? ⟨w.heap.size+1+1,0,none⟩=false:=by rw[hU1];simp[go_sem,hf1,l0'',t0]
 have q1_1:U1.cell? ⟨w.heap.size+1,1,none⟩=some (.int .i64 0):=by rw[BU1.cell (by show w.heap.size+1<_;omega),b1.cell (by show w.heap.size+1<_;omega)];exact q1
 have s1_1:U1.frozen? ⟨w.heap.size+1,1,none⟩=false:=by rw[BU1.frozen (by show w.heap.size+1<_;omega),b1.frozen (by show w.heap.size+1<_;omega)];exact s1
 have r1_1:U1.cell? ⟨w.heap.size+1+1,1,none⟩=some (.int .i64 a1):=by rw[hU1];simp[go_sem,hc1,l0'',r1]
 have t1_1:U1.frozen? ⟨w.heap.size+1+1,1,none⟩=false:=by rw[hU1];simp[go_sem,hf1,l0'',t1]
 have q2_1:U1.cell? ⟨w.heap.size+1,2,none⟩=some (.int .i64 0):=by rw[BU1.cell (by show w.heap.size+1<_;omega),b1.cell (by show w.heap.size+1<_;omega)];exact q2
 have s2_1:U1.frozen? ⟨w.heap.size+1,2,none⟩=false:=by rw[BU1.frozen (by show w.heap.size+1<_;omega),b1.frozen (by show w.heap.size+1<_;omega)];exact s2
 have r2_1:U1.cell? ⟨w.heap.size+1+1,2,none⟩=some (.int .i64 a2):=by rw[hU1];simp[go_sem,hc1,l0'',r2]
 have t2_1:U1.frozen? ⟨w.heap.size+1+1,2,none⟩=false:=by rw[hU1];simp[go_sem,hf1,l0'',t2]
 have q3_1:U1.cell? ⟨w.heap.size+1,3,none⟩=some (.slice none 0 0):=by rw[BU1.cell (by show w.heap.size+1<_;omega),b1.cell (by show w.heap.size+1<_;omega)];exact q3
 have s3_1:U1.frozen? ⟨w.heap.size+1,3,none⟩=false:=by rw[BU1.frozen (by show w.heap.size+1<_;omega),b1.frozen (by show w.heap.size+1<_;omega)];exact s3
 have r3_1:U1.cell? ⟨w.heap.size+1+1,3,none⟩=some (.slice A3' n3' c3'):=by rw[hU1];simp[go_sem,hc1,l0'',r3]
 have t3_1:U1.frozen? ⟨w.heap.size+1+1,3,none⟩=false:=by rw[hU1];simp[go_sem,hf1,l0'',t3]
 have t0_w:w1.frozen? ⟨w.heap.size+1+1,0,none⟩=false:=by rw[hf1 _ _ l0''];exact t0
 have s0_w:w1.frozen? ⟨w.heap.size+1,0,none⟩=false:=by rw[hf1 _ _ l0'];exact s0
 have q0_w:w1.cell? ⟨w.heap.size+1,0,none⟩=some (.int .i64 0):=by rw[hc1 _ _ l0'];exact q0
 have r0_w:w1.cell? ⟨w.heap.size+1+1,0,none⟩=some (.int .i64 a0):=by rw[hc1 _ _ l0''];exact r0
 have t1_w:w1.frozen? ⟨w.heap.size+1+1,1,none⟩=false:=by rw[hf1 _ _ l0''];exact t1
 have s1_w:w1.frozen? ⟨w.heap.size+1,1,none⟩=false:=by rw[hf1 _ _ l0'];exact s1
 have q1_w:w1.cell? ⟨w.heap.size+1,1,none⟩=some (.int .i64 0):=by rw[hc1 _ _ l0'];exact q1
 have r1_w:w1.cell? ⟨w.heap.size+1+1,1,none⟩=some (.int .i64 a1):=by rw[hc1 _ _ l0''];exact r1
 have t2_w:w1.frozen? ⟨w.heap.size+1+1,2,none⟩=false:=by rw[hf1 _ _ l0''];exact t2
 have s2_w:w1.frozen? ⟨w.heap.size+1,2,none⟩=false:=by rw[hf1 _ _ l0'];exact s2
 have q2_w:w1.cell? ⟨w.heap.size+1,2,none⟩=some (.int .i64 0):=by rw[hc1 _ _ l0'];exact q2
 have r2_w:w1.cell? ⟨w.heap.size+1+1,2,none⟩=some (.int .i64 a2):=by rw[hc1 _ _ l0''];exact r2
 have t3_w:w1.frozen? ⟨w.heap.size+1+1,3,none⟩=false:=by rw[hf1 _ _ l0''];exact t3
 have s3_w:w1.frozen? ⟨w.heap.size+1,3,none⟩=false:=by rw[hf1 _ _ l0'];exact s3
 have q3_w:w1.cell? ⟨w.heap.size+1,3,none⟩=some (.slice none 0 0):=by rw[hc1 _ _ l0'];exact q3
 have r3_w:w1.cell? ⟨w.heap.size+1+1,3,none⟩=some (.slice none 0 0):=by rw[hc1 _ _ l0''];exact r3
 have HU1:=Lib.hid hU1;clear hU1 e1 hc1 hf1 q0 s0 r0 t0 q1 s1 r1 t1 q2 s2 r2 t2 q3 s3 r3 t3;go_wp2;rw[<-HU1.out];clear t0_w r0_w s0_w q0_w t1_w r1_w s1_w q1_w t2_w r2_w s2_w q2_w t3_w r3_w s3_w q3_w;have mm:Mid (w.heap.size+1) (w.heap.size+1+1) U1 ((((U1.setCell ⟨w.heap.size+1,0,none⟩ (.int .i64 a0)).setCell ⟨w.heap.size+1,1,none⟩ (.int .i64 a1)).setCell ⟨w.heap.size+1,2,none⟩ (.int .i64 a2)).setCell ⟨w.heap.size+1,3,none⟩ (.slice A3' n3' c3')):=((((Mid.of_grown (zaz _ (w.heap.size+1) 0 _) fun k hk=>by injection hk with hk;omega).trans (Mid.of_grown (zaz _ (w.heap.size+1) 1 _) fun k hk=>by injection hk with hk;omega)).trans (Mid.of_grown (zaz _ (w.heap.size+1) 2 _) fun k hk=>by injection hk with hk;omega)).trans (Mid.of_grown (zaz _ (w.heap.size+1) 3 _) fun k hk=>by injection hk with hk;omega));refine bodyPost_ret (v:=.agg #[.int .i64 a0,.int .i64 a1,.int .i64 a2,.slice A3' n3' c3']) (by simp[results,Tryz.results190,go_sem,q0_1,s0_1,r0_1,q1_1,s1_1,r1_1,q2_1,s2_1,r2_1,q3_1,s3_1,r3_1]) rfl ?_;refine⟨A3',n3',c3',rfl,tN_O.2 ⟨A3',n3',c3',Iv W.heap.size U1.heap.size,rfl,tS.omid o3_1 mm (.inr (by omega)) (by omega),fun b h=>⟨by have:=h.1;omega,Nat.lt_of_lt_of_le (Nat.lt_of_lt_of_le h.2 (by omega)) mm.size⟩⟩,?_⟩;exact B1.trans ((mm.toBelow (by omega)).mono (by omega))
abbrev tNS:Ty (List Node):=tN.sl 169
abbrev hNS:Hs (List Node):=hN.sl
theorem zim(A:Yo)(n c:Nat)(xs:List Node)(l:Int)(w:Yw)(hx:tNS.R w w.heap.size [.slice A n c] xs)(hl:0<=l/\l<=1000000000):
 Calls Tryz.prog 125 #[.slice A n c,.int .i64 l] w fun e w'=>e=.returned (.int .i64 (if (hNS.sz xs:Int)<=l then l-hNS.sz xs else -1))/\Below w.heap.size w w':=by
 have hr:=sl_R.1 hx;obtain⟨h1,h2,h3⟩:=hr.cap;have hn:n<=9223372036854775807:=by unfold maxLen at h3;omega
 obtain rfl:xs.length=n:=h1;have hzz:hNS.sz xs=xs.length+hN.szL xs:=rfl;have HZ:=Lib.hid hzz;clear h2 h3 hx hzz;generalize hR:(if (hNS.sz xs:Int)<=l then l-(hNS.sz xs:Int)else -1)=R;have HR:=Lib.hid hR;clear hR
 by_cases h:(xs.length:Int)<=l
 ·go_enter Tryz.func125,Tryz.ntmps125
  go_wp2
  go_loopw [1,5] (fun q i wr=>∃k:Nat,i=.int .i64 k/\k<=xs.length/\(hN.szL (xs.take k):Int)<=l-xs.length/\q=.int .i64 (l-xs.length-hN.szL (xs.take k))/\Below w.heap.size w wr) (fun _ i _=>xs.length-(intOf i).toNat)
  case atStart=>exact⟨0,rfl,by omega,by simp[Hs.szL];omega,by simp[Hs.szL],Below.refl _ _⟩
  case round=>
   obtain⟨k,rfl,hk,hz,rfl,hb⟩:=hrel
   by_cases hlt:k<xs.length
   ·have hX:=Lib.hid (List.getElem?_eq_getElem hlt);obtain⟨b,o,c1,cs,hv,hab,-,hE,hc⟩:=(hr.below hb).atX hX.out;simp only[Value.slice.injEq]at hv;obtain⟨rfl,-,rfl⟩:=hv;have hTk:=Lib.hid (hN.szL_take hX.out);have hU:=hN.szL_at hX.out;generalize xs[k]=x at hX hE hTk hU;obtain⟨a0,a1,a2,x3⟩:=x;obtain⟨A3,n3,c3,rfl,e3⟩:=tN_R.1 hE;have ec0:wr.cell? ⟨b,o+k*4,none⟩=some (.int .i64 a0):=hc 0 _ rfl;have ec1:wr.cell? ⟨b,o+k*4+1,none⟩=some (.int .i64 a1):=hc 1 _ rfl;have ec2:wr.cell? ⟨b,o+k*4+2,none⟩=some (.int .i64 a2):=hc 2 _ rfl;have ec3:wr.cell? ⟨b,o+k*4+3,none⟩=some (.slice A3 n3 c3):=hc 3 _ rfl;have f3:=tS.more hb.size e3;clear hc
    by_cases hle:(hN.sz ((a0,a1,a2,x3):Node):Int)<=l-xs.length-hN.szL (xs.take k)
    ·have hi:=Lib.hid (show (if (hN.sz ((a0,a1,a2,x3):Node):Int)<=l-xs.length-hN.szL (xs.take k)then l-xs.length-hN.szL (xs.take k)-hN.sz ((a0,a1,a2,x3):Node)else -1)=l-xs.length-hN.szL (xs.take k)-hN.sz ((a0,a1,a2,x3):Node)by rw[if_pos hle]);go_wp2_with (go_at_call 173;refine(zkx _ _ _ _ _ _ _ _ _ f3 (by omega)).mono ?_;rw[hi.out];rintro e w2 ⟨rfl,bel2⟩);go_roundw
     case rel=>exact⟨k+1,by go_num,by omega,by rw[hTk.out];omega,by rw[hTk.out];go_num,hb.trans (bel2.mono hb.size)⟩
     case measure=>simp[intOf];omega
    have hi:=Lib.hid (show (if (hN.sz ((a0,a1,a2,x3):Node):Int)<=l-xs.length-hN.szL (xs.take k)then l-xs.length-hN.szL (xs.take k)-hN.sz ((a0,a1,a2,x3):Node)else -1) = -1 by rw[if_neg hle]);have hj:=Lib.hid (show (if (hNS.sz xs:Int)<=l then l-hNS.sz xs else -1) = -1 by rw[HZ.out,if_neg (by omega)]);go_wp2_with (go_at_call 173;refine(zkx _ _ _ _ _ _ _ _ _ f3 (by omega)).mono ?_;rw[hi.out];rintro e w2 ⟨rfl,bel2⟩);go_ret;exact⟨zay (hj.out.symm.trans HR.out),hb.trans (bel2.mono hb.size)⟩
   obtain rfl:xs.length=k:=by omega
   rw[List.take_of_length_le (Nat.le_refl _)]at hz ⊢;have hj:=Lib.hid (show (if (hNS.sz xs:Int)<=l then l-hNS.sz xs else -1)=l-xs.length-hN.szL xs by rw[HZ.out,if_pos (by omega)];omega);go_wp2;go_ret;exact⟨zay (hj.out.symm.trans HR.out),hb⟩
 have hj:=Lib.hid (show (if (hNS.sz xs:Int)<=l then l-hNS.sz xs else -1) = -1 by rw[HZ.out,if_neg (by omega)])
 go_enter Tryz.func125,Tryz.ntmps125
 go_wp2;go_ret;exact⟨zay (hj.out.symm.trans HR.out),Below.refl _ _⟩
theorem zgh:EI Tryz.prog 65 169 (.agg #[.int .i64 0,.int .i64 0,.int .i64 0,.slice none 0 0]) 4 48:=⟨Tryz.underlying65,by kernel_rfl,rfl,by decide⟩
theorem zqi(w:Yw)(F:Nat->Prop):tN.O w F [.int .i64 0,.int .i64 0,.int .i64 0,.slice none 0 0] (0,0,0,[]):=tN_O.2 ⟨none,0,0,fun _=>False,rfl,⟨_,rfl,OS.nil _ _ _ _⟩,fun _ h=>h.elim⟩
theorem zqj(A:Yo)(n c:Nat)(xs:List Node)(w:Yw)(hx:tNS.R w w.heap.size [.slice A n c] xs)(hn:hNS.sz xs<=100000000):
 Calls Tryz.prog 137 #[.slice A n c] w fun e w'=>∃A' n' c',e=.returned (.slice A' n' c')/\tNS.O w' (Iv w.heap.size w'.heap.size) [.slice A' n' c'] xs/\Below w.heap.size w w':=by
 have hr:=sl_R.1 hx;obtain rfl:xs.length=n:=hr.cap.1;have hn1:xs.length+hN.szL xs<=100000000:=hn;clear hx hn
 go_enter Tryz.func137,Tryz.ntmps137
 go_wp2_with (at_make;refine zdo zgh rfl _ _ rfl xs.length _ _ rfl rfl rfl rfl (by omega) (by unfold maxLen;omega) ?_;intro w1 own1 bel1);have hs1:w.heap.size+1<=w1.heap.size:=(World.ownsRow.lt own1 _ rfl).2
 have own2:OS tN 169 w1 (Iv w.heap.size w1.heap.size) (.slice (some ⟨w.heap.size,0,none⟩) xs.length xs.length) (List.replicate xs.length ((0,0,0,[]):Node)):=
  OS.made (t:=tN) (zc:=[.int .i64 0,.int .i64 0,.int .i64 0,.slice none 0 0]) zqi rfl ⟨Nat.le_refl _,by omega⟩ own1
 clear own1
 go_loopw [4] (fun i wr=>∃k:Nat,i=.int .i64 k/\k<=xs.length/\OS tN 169 wr (Iv w.heap.size wr.heap.size) (.slice (some ⟨w.heap.size,0,none⟩) xs.length xs.length) (xs.take k++(List.replicate xs.length ((0,0,0,[]):Node)).drop k)/\w.heap.size+1<=wr.heap.size/\Below w.heap.size w wr)
  (fun i _=>xs.length-(intOf i).toNat)
 case atStart=>exact⟨0,rfl,by omega,by simpa using own2,hs1,bel1⟩
 case round=>
  obtain⟨k,rfl,hk,own,hsz,hb⟩:=hrel
  by_cases hlt:k<xs.length
  ·have hX:=Lib.hid (List.getElem?_eq_getElem hlt);obtain⟨b,o,c1,cs,hv,hab,-,hE,hc⟩:=(hr.below hb).atX hX.out;simp only[Value.slice.injEq]at hv;obtain⟨rfl,-,rfl⟩:=hv;have hU:=hN.szL_at hX.out;generalize xs[k]=x at hX hE hU;obtain⟨a0,a1,a2,x3⟩:=x;obtain⟨A3,n3,c3,rfl,e3⟩:=tN_R.1 hE;have ec0:wr.cell? ⟨b,o+k*4,none⟩=some (.int .i64 a0):=hc 0 _ rfl;have ec1:wr.cell? ⟨b,o+k*4+1,none⟩=some (.int .i64 a1):=hc 1 _ rfl;have ec2:wr.cell? ⟨b,o+k*4+2,none⟩=some (.int .i64 a2):=hc 2 _ rfl;have ec3:wr.cell? ⟨b,o+k*4+3,none⟩=some (.slice A3 n3 c3):=hc 3 _ rfl;have f3:=tS.more hb.size e3;have hz2:hN.sz ((a0,a1,a2,x3):Node)<=100000000:=(by omega);clear hc;have hD:=Lib.hid (show (xs.take k++(List.replicate xs.length ((0,0,0,[]):Node)).drop k)[k]?=some (0,0,0,[])by rw[M.mid_at (by rw[List.length_replicate])];simp[hlt]);go_wp2_with (go_at_call 190;refine(zqh _ _ _ _ _ _ _ _  f3 hz2).mono ?_;rintro e w2 ⟨A3',n3',c3',rfl,o2,bel2⟩;have own':=own.below bel2 (Nat.le_refl _);obtain⟨css,Fs,hole,cs,hcs,hE⟩:=own'.openAt hD.out;obtain⟨A39,n39,c39,rfl,-⟩:=tN_R.1 (tN.read hE);have z2:=bel2.size;have q0:=(hole.cell hcs (j:=0) rfl).1;have r0:=(hole.cell hcs (j:=0) rfl).2;change w2.cell? ⟨w.heap.size,k*4+0,none⟩=_ at q0;change w2.frozen? ⟨w.heap.size,k*4+0,none⟩=_ at r0;have q1:=(hole.cell hcs (j:=1) rfl).1;have r1:=(hole.cell hcs (j:=1) rfl).2;change w2.cell? ⟨w.heap.size,k*4+1,none⟩=_ at q1;change w2.frozen? ⟨w.heap.size,k*4+1,none⟩=_ at r1;have q2:=(hole.cell hcs (j:=2) rfl).1;have r2:=(hole.cell hcs (j:=2) rfl).2;change w2.cell? ⟨w.heap.size,k*4+2,none⟩=_ at q2;change w2.frozen? ⟨w.heap.size,k*4+2,none⟩=_ at r2;have q3:=(hole.cell hcs (j:=3) rfl).1;have r3:=(hole.cell hcs (j:=3) rfl).2;change w2.cell? ⟨w.heap.size,k*4+3,none⟩=_ at q3;change w2.frozen? ⟨w.heap.size,k*4+3,none⟩=_ at r3;rw[Nat.add_zero]at q0 r0);go_roundw
   case rel=>
    have s0:=hole.set hcs 0 (by decide) (.int .i64 a0);have s1:=s0.1.set s0.2 1 (by decide) (.int .i64 a1);have s2:=s1.1.set s1.2 2 (by decide) (.int .i64 a2);have s3:=s2.1.set s2.2 3 (by decide) (.slice A3' n3' c3');have o3:=(tN.oset (g:=w.heap.size) (o:=k*4+3) (u:=.slice A3' n3' c3') (tN.oset (g:=w.heap.size) (o:=k*4+2) (u:=.int .i64 a2) (tN.oset (g:=w.heap.size) (o:=k*4+1) (u:=.int .i64 a1) (tN.oset (g:=w.heap.size) (o:=k*4+0) (u:=.int .i64 a0) o2 (.inl (by omega))) (.inl (by omega))) (.inl (by omega))) (.inl (by omega)));have h3:=s3.1.fill' s3.2 (y:=((a0,a1,a2,x3):Node)) (Fe:=Iv wr.heap.size w2.heap.size) o3 (fun b h1 h2=>by have:=h1.1;have:=h2.2;omega);rw[M.set_mid (by rw[List.length_replicate]) hX.out]at h3;have hb2:=hb.trans (bel2.mono hb.size);exact⟨k+1,by go_num,by omega,h3.wide (fun b hb=>⟨by unfold Iv at hb;omega,by simp;unfold Iv at hb;omega⟩),by simp;omega,((((hb2.setCell (Nat.le_refl _) _).setCell (Nat.le_refl _) _).setCell (Nat.le_refl _) _).setCell (Nat.le_refl _) _)⟩
   case measure=>simp[intOf];omega
  go_wp2;go_ret;rw[List.take_of_length_le (by omega),List.drop_eq_nil_of_le (by simp;omega),List.append_nil]at own;exact⟨_,_,_,rfl,sl_O.2 own,hb⟩
theorem zqk(A A':Yo)(n c n' c':Nat)(xs:List Node)(w:Yw)(hx:tNS.R w w.heap.size [.slice A n c] xs)(hy:tNS.R w w.heap.size [.slice A' n' c'] xs)(hn:hNS.sz xs<=100000000):
 Calls Tryz.prog 155 #[.slice A n c,.slice A' n' c'] w fun e w'=>e=.returned (.bool true)/\Below w.heap.size w w':=by
 have hr:=sl_R.1 hx;have hr':=sl_R.1 hy;obtain rfl:xs.length=n:=hr.cap.1;obtain rfl:xs.length=n':=hr'.cap.1;have hn1:xs.length+hN.szL xs<=100000000:=hn;clear hx hy hn
 go_enter Tryz.func155,Tryz.ntmps155
 go_wp2
 go_loopw [5] (fun i wr=>∃k:Nat,i=.int .i64 k/\k<=xs.length/\Below w.heap.size w wr) (fun i _=>xs.length-(intOf i).toNat)
 case atStart=>exact⟨0,rfl,by omega,Below.refl _ _⟩
 case round=>
  obtain⟨k,rfl,hk,hb⟩:=hrel
  by_cases hlt:k<xs.length
  ·have hX:=Lib.hid (List.getElem?_eq_getElem hlt);obtain⟨b,o,c1,cs,hv,hab,-,hE,hc⟩:=(hr.below hb).atX hX.out;obtain⟨b',o',c1',cs',hv',hab',-,hE',hc'⟩:=(hr'.below hb).atX hX.out;simp only[Value.slice.injEq]at hv hv';obtain⟨rfl,-,rfl⟩:=hv;obtain⟨rfl,-,rfl⟩:=hv';have hU:=hN.szL_at hX.out;generalize xs[k]=x at hX hE hE' hU;obtain⟨a0,a1,a2,x3⟩:=x;obtain⟨A3,n3,c3,rfl,e3⟩:=tN_R.1 hE;have ec0:wr.cell? ⟨b,o+k*4,none⟩=some (.int .i64 a0):=hc 0 _ rfl;have ec1:wr.cell? ⟨b,o+k*4+1,none⟩=some (.int .i64 a1):=hc 1 _ rfl;have ec2:wr.cell? ⟨b,o+k*4+2,none⟩=some (.int .i64 a2):=hc 2 _ rfl;have ec3:wr.cell? ⟨b,o+k*4+3,none⟩=some (.slice A3 n3 c3):=hc 3 _ rfl;obtain⟨A3',n3',c3',rfl,d3⟩:=tN_R.1 hE';have dc0:wr.cell? ⟨b',o'+k*4,none⟩=some (.int .i64 a0):=hc' 0 _ rfl;have dc1:wr.cell? ⟨b',o'+k*4+1,none⟩=some (.int .i64 a1):=hc' 1 _ rfl;have dc2:wr.cell? ⟨b',o'+k*4+2,none⟩=some (.int .i64 a2):=hc' 2 _ rfl;have dc3:wr.cell? ⟨b',o'+k*4+3,none⟩=some (.slice A3' n3' c3'):=hc' 3 _ rfl;have hbr:b<wr.heap.size:=Nat.lt_of_lt_of_le hab hb.size;have hbr':b'<wr.heap.size:=Nat.lt_of_lt_of_le hab' hb.size;have hz2:hN.sz ((a0,a1,a2,x3):Node)<=100000000:=(by omega);have f3:=tS.later (tS.more hb.size e3) (zae (Below.refl _ _) 1);have g3:=tS.later (tS.more hb.size d3) (zae (Below.refl _ _) 1);clear hc hc';go_wp2
   go_region_held3 (fun w'=>Below wr.heap.size wr w'/\w'.cell? ⟨b,o+k*4,none⟩=some (.int .i64 a0)/\w'.cell? ⟨b,o+k*4+1,none⟩=some (.int .i64 a1)/\w'.cell? ⟨b,o+k*4+2,none⟩=some (.int .i64 a2)/\w'.cell? ⟨b,o+k*4+3,none⟩=some (.slice A3 n3 c3)/\w'.cell? ⟨b',o'+k*4,none⟩=some (.int .i64 a0)/\w'.cell? ⟨b',o'+k*4+1,none⟩=some (.int .i64 a1)/\w'.cell? ⟨b',o'+k*4+2,none⟩=some (.int .i64 a2)/\w'.cell? ⟨b',o'+k*4+3,none⟩=some (.slice A3' n3' c3'))
    (first
     | exact⟨zae (Below.refl _ _) _,ec0,ec1,ec2,ec3,dc0,dc1,dc2,dc3⟩
     | exact⟨zda bel2 rfl (And.left (by assumption)),za8 bel2 rfl (And.left (by assumption)) ec0 hbr,za8 bel2 rfl (And.left (by assumption)) ec1 hbr,za8 bel2 rfl (And.left (by assumption)) ec2 hbr,za8 bel2 rfl (And.left (by assumption)) ec3 hbr,za8 bel2 rfl (And.left (by assumption)) dc0 hbr',za8 bel2 rfl (And.left (by assumption)) dc1 hbr',za8 bel2 rfl (And.left (by assumption)) dc2 hbr',za8 bel2 rfl (And.left (by assumption)) dc3 hbr'⟩)
    (first|(go_at_call 209;refine(zqg _ _ _ _ _ _ _ _ _ _ _ f3 g3 hz2).mono ?_;rintro e w2 ⟨rfl,bel2⟩))
   go_wp2;go_roundw
   case rel=>exact⟨k+1,by go_num,by omega,hb.trans ((zda bel2 rfl (zae (Below.refl _ _) _)).mono hb.size)⟩
   case measure=>simp[intOf];omega
  go_wp2;go_ret;exact⟨rfl,hb⟩
end Go.Proofs.YtifeldeikhmckaaGreat
