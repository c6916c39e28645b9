import Derived.Test.YtifeldeikhmckaaGreatFnExactOptimizeSessionG12
import Derived.Test.YtifeldeikhmckaaGreatFnExactOptimizeSessionG13
import Derived.Lib.QuietBelow
import Derived.Test.YtifeldeikhmckaaGreatFnExactOptimizeSessionG5
import Derived.Test.YtifeldeikhmckaaGreatFnExactOptimizeSessionG8
import Derived.StillTailTactics
import Derived.Test.YtifeldeikhmckaaGreatFnExactOptimizeSessionG11
set_option linter.unusedVariables false
set_option linter.unusedSimpArgs false
set_option maxRecDepth 100000
set_option maxHeartbeats 4000000
namespace Go.Proofs.YtifeldeikhmckaaGreat
open Go.RowKit Go.Sort
theorem zhi(w:Yw)(e:TypeId)(xs:List Int)(cur:Array Value)(h:cur.toList=xs.map (.int .i64)):RI (w.alloc (.cells cur e)) (w.heap.size+1) (some ⟨w.heap.size,0,none⟩) xs.length xs:=
 ⟨by simp,fun _=>⟨_,rfl,by simp,fun j u hu=>by
  rw[show (⟨w.heap.size,0,none⟩:Addr).add j=⟨w.heap.size,j,none⟩by simp[Addr.add];omega,cell_of_row _ w.heap.size j cur e (0,0) (heap_alloc_new w _),<-hu,<-h,Array.getElem?_toList]⟩⟩
theorem zfo{P:Program}{f:FuncId}{args:Array Value}{w:Yw}{v:Ending}(h:Calls P f args w fun e w'=>e=v/\w=w'):Calls P f args w fun e w'=>e=v/\Below w.heap.size w w':=
 h.mono fun _ _ ⟨he,hw⟩=>⟨he,hw▸Below.refl _ _⟩
theorem zle(a b:Int)(w:Yw):Calls Tryz.prog 247 #[.int .i64 a,.int .i64 b] w fun e w'=>e=.returned (.int .i64 (min a b))/\w=w':=by
 by_cases h:a<b
 all_goals
  go_enter Tryz.func247,Tryz.ntmps247
  go_wp2;go_ret;exact⟨zay (by omega),rfl⟩
theorem zlf(a b:Int)(w:Yw):Calls Tryz.prog 212 #[.int .i64 a,.int .i64 b] w fun e w'=>e=.returned (.int .i64 (max a b))/\w=w':=by
 by_cases h:b<a
 all_goals
  go_enter Tryz.func212,Tryz.ntmps212
  go_wp2;go_ret;exact⟨zay (by omega),rfl⟩
theorem zd1(A:Yo)(n c:Nat)(xs:List Int)(m:Int)(w:Yw)(hx:RI w w.heap.size A n xs)(hn:n<=1000000000000):
 Calls Tryz.prog 179 #[.slice A n c,.int .i64 m] w fun e w'=>e=.returned (.bool (zai xs m))/\w=w':=by
 go_enter Tryz.func179,Tryz.ntmps179
 go_wp2
 go_loop [5] (fun i=>∃k:Nat,i=.int .i64 k/\k<=n/\Hid (zai xs m=zai (xs.drop k) m)) (fun i=>n-(intOf i).toNat)
 case atStart=>exact⟨0,rfl,by omega,Lib.hid (by simp)⟩
 case round=>
  obtain⟨k,rfl,hk,H⟩:=hrel;have hl:=Lib.hid hx.len
  by_cases hlt:k<n
  ·obtain⟨ad,x,rfl,hab,X,hc⟩:=hx.at hlt;have hd:=Lib.hid (M.drop_at X.out)
   by_cases hs:x=m
   ·have R:=Lib.hid (show zai xs m=true by rw[H.out,hd.out,zhf];simp[hs]);have g:(x == m)=true:=(by simpa using hs);subst hs;go_wp2;go_ret;exact⟨zac (by rw[R.out]),rfl⟩
   have R:=Lib.hid (show zai xs m=zai (xs.drop (k+1)) m by rw[H.out,hd.out,zhf,decide_eq_false hs,Bool.false_or]);have g:(x == m)=false:=(by simpa using hs);clear hs;go_wp2;go_round
   case rel=>exact⟨k+1,by go_num,by omega,R⟩
   case measure=>simp[intOf];omega
  have R:=Lib.hid (show zai xs m=false by rw[H.out,List.drop_eq_nil_of_le (by rw[hl.out];omega)];rfl);go_wp2;go_ret;exact⟨zac (by rw[R.out]),rfl⟩
theorem zrp(k:Int)(w:Yw):Calls Tryz.prog 224 #[.int .i64 k] w fun e w'=>e=.returned (.bool (M.inn k 1 17))/\w=w':=by
 go_enter Tryz.func224,Tryz.ntmps224
 go_wp2_with (go_at_call 67;refine(zaw _ _ _ _).mono ?_;rintro e w' ⟨rfl,rfl⟩);go_ret;exact⟨rfl,rfl⟩
theorem zrq(k:Int):zai [1,2,5,6,10,11,12,13,14,17] k=zdy k:=by
 rw[Bool.eq_iff_iff];simp only[zai,zdy,List.any_cons,List.any_nil,Bool.or_eq_true,decide_eq_true_eq,Bool.false_eq_true,or_false];omega
theorem zlg(k:Int)(w:Yw):Calls Tryz.prog 248 #[.int .i64 k] w fun e w'=>e=.returned (.bool (zdy k))/\Below w.heap.size w w':=by
 obtain⟨W,hW⟩:∃W,W=w.alloc (.cells #[.int .i64 1,.int .i64 2,.int .i64 5,.int .i64 6,.int .i64 10,.int .i64 11,.int .i64 12,.int .i64 13,.int .i64 14,.int .i64 17] 2):=⟨_,rfl⟩;have B0:Below w.heap.size w W:=by rw[hW];exact(Below.refl _ _).alloc (Nat.le_refl _) _
 have hr:RI W W.heap.size (some ⟨w.heap.size,0,none⟩) 10 [1,2,5,6,10,11,12,13,14,17]:=by rw[hW];exact(zhi w 2 [1,2,5,6,10,11,12,13,14,17] _ rfl).more (by simp)
 have HW:=Lib.hid hW;clear hW
 go_enter Tryz.func248,Tryz.ntmps248
 go_wp2_with fail;rw[<-HW.out];refine(zd1 _ _ _ _ _ _ hr (by omega)).mono ?_;rintro e w2 ⟨rfl,rfl⟩;go_wp2;go_ret;exact⟨zac (zrq k),B0⟩
theorem zrr(k:Int)(w:Yw)(h:0<=k/\k<=17):Calls Tryz.prog 216 #[.int .i64 k] w fun e w'=>e=.returned (.int .i64 (M.ar k.toNat))/\Below w.heap.size w w':=by
 obtain⟨j,rfl⟩:∃j:Nat,k=j:=⟨k.toNat,by omega⟩;obtain⟨W,hW⟩:∃W,W=w.alloc (.cells #[.int .i64 (-1),.int .i64 0,.int .i64 0,.int .i64 2,.int .i64 2,.int .i64 1,.int .i64 1,.int .i64 1,.int .i64 1,.int .i64 2,.int .i64 1,.int .i64 1,.int .i64 1,.int .i64 1,.int .i64 0,.int .i64 3,.int .i64 2,.int .i64 1] 2):=⟨_,rfl⟩;have B0:Below w.heap.size w W:=by rw[hW];exact(Below.refl _ _).alloc (Nat.le_refl _) _
 have hr:RI W W.heap.size (some ⟨w.heap.size,0,none⟩) 18 zhe:=by rw[hW];exact(zhi w 2 zhe _ rfl).more (by simp)
 obtain⟨ad,x,e,-,X,hc⟩:=hr.at (k:=j) (by omega);injection e with e
 subst e;have hR:=Lib.hid (show M.ar j=x by rw[M.ar,List.getD_eq_getElem?_getD,X.out];rfl);have hc2:W.cell? ⟨w.heap.size,j,none⟩=some (.int .i64 x):=by rw[<-hc,show (⟨w.heap.size,0,none⟩:Addr).add j=⟨w.heap.size,j,none⟩by simp[Addr.add];omega]
 rw[hW]at hc2;have hj:j<18:=by omega
 have hj2:(j:Int)<18:=by omega
 clear hc hr X
 go_enter Tryz.func216,Tryz.ntmps216
 go_wp2;go_ret;exact⟨zay (by rw[Int.toNat_natCast,hR.out]),by rw[<-hW];exact B0⟩
theorem zrs(b o:Nat)(a0 a1 tb:Int)(w:Yw)(p0:w.cell? ⟨b,o,none⟩=some (.int .i64 a0))(p1:w.cell? ⟨b,o+1,none⟩=some (.int .i64 a1))(htb:0<=tb/\tb<=1000000000):
 Calls Tryz.prog 225 #[.pointer (some ⟨b,o,none⟩),.int .i64 tb] w fun e w'=>e=.returned (.bool (M.aS a0 a1 tb))/\Below w.heap.size w w':=by
 by_cases c1:a0=1
 ·have R:=Lib.hid (show M.aS a0 a1 tb=M.inn a1 0 3 by rw[M.aS,if_pos c1]);subst c1
  go_enter Tryz.func225,Tryz.ntmps225
  go_wp2_with (go_at_call 67;refine(zaw _ _ _ _).mono ?_;rintro e w' ⟨rfl,rfl⟩);go_ret;exact⟨zac (by rw[R.out]),Below.refl _ _⟩
 have g1:(a0 == 1)=false:=by simpa using c1
 by_cases c2:a0=6
 ·have R:=Lib.hid (show M.aS a0 a1 tb=M.inn a1 1 16 by rw[M.aS,if_neg c1,if_pos c2]);subst c2
  go_enter Tryz.func225,Tryz.ntmps225
  go_wp2_with (go_at_call 67;refine(zaw _ _ _ _).mono ?_;rintro e w' ⟨rfl,rfl⟩);go_ret;exact⟨zac (by rw[R.out]),Below.refl _ _⟩
 have g2:(a0 == 6)=false:=by simpa using c2
 by_cases c3:a0=10
 ·have R:=Lib.hid (show M.aS a0 a1 tb=M.inn a1 0 31 by rw[M.aS,if_neg c1,if_neg c2,if_pos c3]);subst c3
  go_enter Tryz.func225,Tryz.ntmps225
  go_wp2_with (go_at_call 67;refine(zaw _ _ _ _).mono ?_;rintro e w' ⟨rfl,rfl⟩);go_ret;exact⟨zac (by rw[R.out]),Below.refl _ _⟩
 have g3:(a0 == 10)=false:=by simpa using c3
 by_cases c4:a0=11
 ·have R:=Lib.hid (show M.aS a0 a1 tb=M.inn a1 0 2147483647 by rw[M.aS,if_neg c1,if_neg c2,if_neg c3,if_pos c4]);subst c4
  go_enter Tryz.func225,Tryz.ntmps225
  go_wp2_with (go_at_call 67;refine(zaw _ _ _ _).mono ?_;rintro e w' ⟨rfl,rfl⟩);go_ret;exact⟨zac (by rw[R.out]),Below.refl _ _⟩
 have g4:(a0 == 11)=false:=by simpa using c4
 by_cases c5:a0=13
 ·have R:=Lib.hid (show M.aS a0 a1 tb=M.inn a1 0 (min (max tb 0) 4-1)by rw[M.aS,if_neg c1,if_neg c2,if_neg c3,if_neg c4,if_pos c5]);have hm1:=fun m=>za7 (zlf tb 0 (w.drewN m))
  have hm2:=fun m=>za7 (zle (max tb 0) 4 (w.drewN m))
  have hs:IntKind.i64.wrap (min (max tb 0) 4-1)=min (max tb 0) 4-1:=IntWalk.i64_in _ (by omega);have hm3:=fun m=>za7 (zaw a1 0 (min (max tb 0) 4-1) (w.drewN m))
  obtain⟨q,hq⟩:∃q,q=max tb 0:=⟨_,rfl⟩;rw[<-hq]at hm1 hm2 hm3 hs R;obtain⟨r,hr⟩:∃r,r=min q 4:=⟨_,rfl⟩;rw[<-hr]at hm2 hm3 hs R;clear hq hr g1 g2 g3 g4 c1 c2 c3 c4;subst c5
  go_enter Tryz.func225,Tryz.ntmps225
  go_wp2
  go_quiet (first|exact hm1 _|exact hm2 _|exact hm3 _)
  go_wp2;go_ret;exact⟨zac (by rw[R.out]),zae (Below.refl _ _) _⟩
 have g5:(a0 == 13)=false:=by simpa using c5
 have lb:b<w.heap.size:=World.block_lt_of_cell? w _ p0;cases hh:zdy a0
 ·have R:=Lib.hid (show M.aS a0 a1 tb=decide (a1=0)by rw[M.aS,if_neg c1,if_neg c2,if_neg c3,if_neg c4,if_neg c5,hh];rfl);have HH:=Lib.hid hh;clear c1 c2 c3 c4 c5 hh
  go_enter Tryz.func225,Tryz.ntmps225
  go_wp2_with (go_at_call 248;refine(zlg _ _).mono ?_;rw[HH.out];rintro e w2 ⟨rfl,bel2⟩;have q1:w2.cell? ⟨b,o+1,none⟩=some (.int .i64 a1):=(by rw[bel2.cell lb];exact p1));go_ret;exact⟨zac (by rw[R.out,Bool.eq_iff_iff];simp),bel2⟩
 have R:=Lib.hid (show M.aS a0 a1 tb=M.smp a1 by rw[M.aS,if_neg c1,if_neg c2,if_neg c3,if_neg c4,if_neg c5,hh];rfl);have HH:=Lib.hid hh;clear c1 c2 c3 c4 c5 hh
 go_enter Tryz.func225,Tryz.ntmps225
 go_wp2_with (first|(go_at_call 248;refine(zlg _ _).mono ?_;rw[HH.out];rintro e w2 ⟨rfl,bel2⟩;have q1:w2.cell? ⟨b,o+1,none⟩=some (.int .i64 a1):=(by rw[bel2.cell lb];exact p1))|(go_at_call 128;refine(zdt _ _).mono ?_;rintro e w' ⟨rfl,rfl⟩));go_ret;exact⟨zac (by rw[R.out]),bel2⟩
theorem zgl(A A':Yo)(n c n' c':Nat)(xs ys:List Int)(w:Yw)(hx:RI w w.heap.size A n xs)(hy:RI w w.heap.size A' n' ys)(hn:n<=1000000000):
 Calls Tryz.prog 148 #[.slice A n c,.slice A' n' c'] w fun e w'=>e=.returned (.bool (decide (xs=ys)))/\Below w.heap.size w w':=by
 have hl:=Lib.hid hx.len;have hl':=Lib.hid hy.len
 by_cases hnn:n=n'
 ·subst hnn
  go_enter Tryz.func148,Tryz.ntmps148
  go_wp2
  go_loop [5,6,14] (fun _ _ i=>∃k:Nat,i=.int .i64 k/\k<=n/\Hid (xs.take k=ys.take k)) (fun _ _ i=>n-(intOf i).toNat)
  case atStart=>exact⟨0,rfl,by omega,Lib.hid (by simp)⟩
  case round=>
   obtain⟨k,rfl,hk,H⟩:=hrel
   by_cases hlt:k<n
   ·obtain⟨ad,x,rfl,hab,X,hc⟩:=hx.at hlt;obtain⟨ad',y,rfl,hab',Y,hc'⟩:=hy.at hlt
    by_cases hxy:x=y
    ·subst hxy;go_wp2;go_round
     case rel=>exact⟨k+1,by go_num,by omega,Lib.hid (by rw[M.take_at X.out,M.take_at Y.out,H.out])⟩
     case measure=>simp[intOf];omega
    have hne:(x != y)=true:=(by simpa using hxy);have hno:=Lib.hid (show ¬xs=ys from fun e=>by have h1:=X.out;rw[e,Y.out]at h1;injection h1 with h1;exact hxy h1.symm);go_wp2;go_ret;exact⟨zac (by simp[hno.out]),Below.refl _ _⟩
   go_wp2;go_ret;have h1:xs=ys:=(by have:=H.out;rwa [List.take_of_length_le (by rw[hl.out];omega),List.take_of_length_le (by rw[hl'.out];omega)]at this);exact⟨zac (by simp[h1]),Below.refl _ _⟩
 have hne:=Lib.hid (show ¬xs=ys from fun e=>hnn (by rw[<-hl.out,<-hl'.out,e]))
 go_enter Tryz.func148,Tryz.ntmps148
 go_wp2;go_ret;exact⟨zac (by simp[hne.out]),Below.refl _ _⟩
theorem zrt(A A':Yo)(n c n' c':Nat)(xs ys:List Int)(w:Yw)(hx:RI w w.heap.size A n xs)(hy:RI w w.heap.size A' n' ys)(hn:n<=1000000000):
 Calls Tryz.prog 60 #[.slice A n c,.slice A' n' c'] w fun e w'=>e=.returned (.bool (decide (xs=ys)))/\Below w.heap.size w w':=by
 have hl:=Lib.hid hx.len;have hl':=Lib.hid hy.len
 by_cases hnn:n=n'
 ·subst hnn
  go_enter Tryz.func60,Tryz.ntmps60
  go_wp2
  go_loopw [5] (fun i wr=>∃k:Nat,i=.int .i64 k/\k<=n/\Hid (xs.take k=ys.take k)/\Below w.heap.size w wr) (fun i _=>n-(intOf i).toNat)
  case atStart=>exact⟨0,rfl,by omega,Lib.hid (by simp),Below.refl _ _⟩
  case round=>
   obtain⟨k,rfl,hk,H,hb⟩:=hrel
   by_cases hlt:k<n
   ·obtain⟨ad,x,rfl,hab,X,hc⟩:=(hx.below hb).at hlt;obtain⟨ad',y,rfl,hab',Y,hc'⟩:=(hy.below hb).at hlt
    by_cases hxy:x=y
    ·subst hxy;go_wp2
     go_quiet (fail)
     go_wp2;go_roundw
     case rel=>exact⟨k+1,by go_num,by omega,Lib.hid (by rw[M.take_at X.out,M.take_at Y.out,H.out]),zae hb _⟩
     case measure=>simp[intOf];omega
    have hne:(x == y)=false:=(by simpa using hxy);have hno:=Lib.hid (show ¬xs=ys from fun e=>by have h1:=X.out;rw[e,Y.out]at h1;injection h1 with h1;exact hxy h1.symm);go_wp2
    go_quiet (fail)
    go_wp2;go_ret;exact⟨zac (by simp[hno.out]),zae hb _⟩
   go_wp2;go_ret;have h1:xs=ys:=(by have:=H.out;rwa [List.take_of_length_le (by rw[hl.out];omega),List.take_of_length_le (by rw[hl'.out];omega)]at this);exact⟨zac (by simp[h1]),hb⟩
 have hne:=Lib.hid (show ¬xs=ys from fun e=>hnn (by rw[<-hl.out,<-hl'.out,e]))
 go_enter Tryz.func60,Tryz.ntmps60
 go_wp2;go_ret;exact⟨zac (by simp[hne.out]),Below.refl _ _⟩
theorem zlh(A A':Yo)(n c n' c':Nat)(xs ys:List (List Int))(w:Yw)(hx:tSS.R w w.heap.size [.slice A n c] xs)(hy:tSS.R w w.heap.size [.slice A' n' c'] ys)(hn:hSS.sz xs<=100000000):
 Calls Tryz.prog 147 #[.slice A n c,.slice A' n' c'] w fun e w'=>e=.returned (.bool (decide (xs=ys)))/\Below w.heap.size w w':=by
 have rx:=sl_R.1 hx;have ry:=sl_R.1 hy;have hl:=Lib.hid rx.cap.1;have hl':=Lib.hid ry.cap.1;have hm1:=Lib.hid (show xs.length+hS.szL xs<=100000000 from hn);have hnb:n<=1000000000:=by have:=hm1.out;have:=hl.out;omega
 clear hn hx hy
 by_cases hnn:n=n'
 ·subst hnn
  go_enter Tryz.func147,Tryz.ntmps147
  go_wp2
  go_loopw [5,6,14] (fun _ _ i wr=>∃k:Nat,i=.int .i64 k/\k<=n/\Hid (xs.take k=ys.take k)/\Below w.heap.size w wr) (fun _ _ i _=>n-(intOf i).toNat)
  case atStart=>exact⟨0,rfl,by omega,Lib.hid (by simp),Below.refl _ _⟩
  case round=>
   obtain⟨k,rfl,hk,H,hb⟩:=hrel
   by_cases hlt:k<n
   ·have hX:=Lib.hid (List.getElem?_eq_getElem (l:=xs) (i:=k) (by rw[hl.out];exact hlt));have hY:=Lib.hid (List.getElem?_eq_getElem (l:=ys) (i:=k) (by rw[hl'.out];exact hlt));obtain⟨b,o1,cc,cs,hv,hab,-,hE,hcc⟩:=(rx.below hb).atX hX.out;obtain⟨b',o2,cc',cs',hv',hab',-,hE',hdd⟩:=(ry.below hb).atX hY.out;simp only[Value.slice.injEq]at hv hv';obtain⟨rfl,-,rfl⟩:=hv;obtain⟨rfl,-,rfl⟩:=hv';have hU:=hS.szL_at hX.out;generalize xs[k]'(by rw[hl.out];exact hlt)=x at hX hE hU;generalize ys[k]'(by rw[hl'.out];exact hlt)=y at hY hE';obtain⟨A1,n1,c1,rfl⟩:=za9 hE;obtain⟨A2,n2,c2,rfl⟩:=za9 hE';have e0:wr.cell? ⟨b,o1+k*1,none⟩=some (.slice A1 n1 c1):=hcc 0 _ rfl;have f0:wr.cell? ⟨b',o2+k*1,none⟩=some (.slice A2 n2 c2):=hdd 0 _ rfl;rw[Nat.mul_one]at e0 f0;have hF:=(tS_R.1 (tS.more hb.size hE)).ri;have hF':=(tS_R.1 (tS.more hb.size hE')).ri;have n1b:n1<=1000000000:=(by have:=zcn hE;have:=hm1.out;rw[zbi]at hU;omega);clear hcc hdd hU hE hE'
    by_cases hp:x=y
    ·have HD:=Lib.hid (decide_eq_true hp);have HP:=Lib.hid hp;clear hp;go_wp2_with (go_at_call 148;refine(zgl _ _ _ _ _ _ _ _ _ hF hF' n1b).mono ?_;rw[HD.out];rintro e w2 ⟨rfl,bel2⟩);go_roundw
     case rel=>exact⟨k+1,by go_num,by omega,Lib.hid (by rw[M.take_at hX.out,M.take_at hY.out,H.out,HP.out]),zaa hb bel2⟩
     case measure=>simp[intOf];omega
    have HD:=Lib.hid (decide_eq_false hp)
    have R:=Lib.hid (show decide (xs=ys)=false by
     rw[decide_eq_false_iff_not];intro e;have h1:=hX.out;rw[e,hY.out]at h1;injection h1 with h1
     exact hp h1.symm)
    clear hp;go_wp2_with (go_at_call 148;refine(zgl _ _ _ _ _ _ _ _ _ hF hF' n1b).mono ?_;rw[HD.out];rintro e w2 ⟨rfl,bel2⟩);go_ret;exact⟨zac (by rw[R.out]),zaa hb bel2⟩
   go_wp2;go_ret;have h1:xs=ys:=(by have:=H.out;rwa [List.take_of_length_le (by rw[hl.out];omega),List.take_of_length_le (by rw[hl'.out];omega)]at this);exact⟨zac (by simp[h1]),hb⟩
 have hne:=Lib.hid (show ¬xs=ys from fun e=>hnn (by rw[<-hl.out,<-hl'.out,e]))
 go_enter Tryz.func147,Tryz.ntmps147
 go_wp2;go_ret;exact⟨zac (by simp[hne.out]),Below.refl _ _⟩
theorem zfp{a0 a1 a2 b0 b1 b2:Int}{xs ys:List Int}(h:¬(a0=b0/\a1=b1/\a2=b2)):decide (((a0,a1,a2,xs):Node)=(b0,b1,b2,ys))=false:=by
 rw[decide_eq_false_iff_not];intro e;simp only[Prod.mk.injEq]at e;exact h ⟨e.1,e.2.1,e.2.2.1⟩
theorem zli(a0 a1 a2:Int)(xs ys:List Int):decide (((a0,a1,a2,xs):Node)=(a0,a1,a2,ys))=decide (xs=ys):=by
 simp
theorem zlj(a0 a1 a2 b0 b1 b2:Int)(A A':Yo)(n c n' c':Nat)(xs ys:List Int)(w:Yw)(hx:RI w w.heap.size A n xs)(hy:RI w w.heap.size A' n' ys)(hn:n<=1000000000):
 Calls Tryz.prog 149 #[.agg #[.int .i64 a0,.int .i64 a1,.int .i64 a2,.slice A n c],.agg #[.int .i64 b0,.int .i64 b1,.int .i64 b2,.slice A' n' c']] w fun e w'=>e=.returned (.bool (decide (((a0,a1,a2,xs):Node)=(b0,b1,b2,ys))))/\Below w.heap.size w w':=by
 obtain⟨W,hW⟩:∃W,W=(w.alloc (.cells #[.int .i64 a0,.int .i64 a1,.int .i64 a2,.slice A n c] 169)).alloc (.cells #[.int .i64 b0,.int .i64 b1,.int .i64 b2,.slice A' n' c'] 169):=⟨_,rfl⟩;have B0:Below w.heap.size w W:=by rw[hW];exact((Below.refl _ _).alloc (Nat.le_refl _) _).alloc (by simp) _
 have rx:=hx.later B0;have ry:=hy.later B0;have HW:=Lib.hid hW;clear hW
 by_cases h0:¬a0=b0
 ·have g0:(a0 == b0)=false:=by simpa using h0
  have R:=Lib.hid (zfp (xs:=xs) (ys:=ys) (a0:=a0) (a1:=a1) (a2:=a2) (b0:=b0) (b1:=b1) (b2:=b2) (fun e=>h0 e.1))
  go_enter Tryz.func149,Tryz.ntmps149
  go_wp2_with fail
  try rw[<-HW.out]
  go_ret;exact⟨zac (by rw[R.out]),B0⟩
 replace h0:a0=b0:=Decidable.not_not.1 h0;subst h0
 by_cases h1:¬a1=b1
 ·have g1:(a1 == b1)=false:=by simpa using h1
  have R:=Lib.hid (zfp (xs:=xs) (ys:=ys) (a0:=a0) (a1:=a1) (a2:=a2) (b0:=a0) (b1:=b1) (b2:=b2) (fun e=>h1 e.2.1))
  go_enter Tryz.func149,Tryz.ntmps149
  go_wp2_with fail
  try rw[<-HW.out]
  go_ret;exact⟨zac (by rw[R.out]),B0⟩
 replace h1:a1=b1:=Decidable.not_not.1 h1;subst h1
 by_cases h2:¬a2=b2
 ·have g2:(a2 == b2)=false:=by simpa using h2
  have R:=Lib.hid (zfp (xs:=xs) (ys:=ys) (a0:=a0) (a1:=a1) (a2:=a2) (b0:=a0) (b1:=a1) (b2:=b2) (fun e=>h2 e.2.2))
  go_enter Tryz.func149,Tryz.ntmps149
  go_wp2_with fail
  try rw[<-HW.out]
  go_ret;exact⟨zac (by rw[R.out]),B0⟩
 replace h2:a2=b2:=Decidable.not_not.1 h2;subst h2;rw[zli]
 go_enter Tryz.func149,Tryz.ntmps149
 go_wp2_with fail;rw[<-HW.out];refine(zgl _ _ _ _ _ _ _ _ _ rx ry hn).mono ?_;rintro e w2 ⟨rfl,bel2⟩;go_wp2;go_ret;exact⟨rfl,zaa B0 bel2⟩
theorem zru(g o g' o':Nat)(a0 a1 a2 b0 b1 b2:Int)(A A':Yo)(n c n' c':Nat)(xs ys:List Int)(w:Yw)(p0:w.cell? ⟨g,o,none⟩=some (.int .i64 a0))(q0:w.cell? ⟨g',o',none⟩=some (.int .i64 b0))(p1:w.cell? ⟨g,o+1,none⟩=some (.int .i64 a1))(q1:w.cell? ⟨g',o'+1,none⟩=some (.int .i64 b1))(p2:w.cell? ⟨g,o+2,none⟩=some (.int .i64 a2))(q2:w.cell? ⟨g',o'+2,none⟩=some (.int .i64 b2))(p3:w.cell? ⟨g,o+3,none⟩=some (.slice A n c))(q3:w.cell? ⟨g',o'+3,none⟩=some (.slice A' n' c'))(hx:RI w w.heap.size A n xs)(hy:RI w w.heap.size A' n' ys)(hn:n<=1000000000):
 Calls Tryz.prog 123 #[.pointer (some ⟨g,o,none⟩),.pointer (some ⟨g',o',none⟩)] w fun e w'=>e=.returned (.bool (decide (((a0,a1,a2,xs):Node)=(b0,b1,b2,ys))))/\Below w.heap.size w w':=by
 have lx:g<w.heap.size:=World.block_lt_of_cell? w _ p0;have ly:g'<w.heap.size:=World.block_lt_of_cell? w _ q0
 by_cases h0:¬a0=b0
 ·have g0:(a0 == b0)=false:=by simpa using h0
  have R:=Lib.hid (zfp (xs:=xs) (ys:=ys) (a0:=a0) (a1:=a1) (a2:=a2) (b0:=b0) (b1:=b1) (b2:=b2) (fun e=>h0 e.1))
  go_enter Tryz.func123,Tryz.ntmps123
  go_wp2_with fail
  go_quiet (fail)
  go_wp2_with fail;go_ret;exact⟨zac (by rw[R.out]),zae (Below.refl _ _) _⟩
 replace h0:a0=b0:=Decidable.not_not.1 h0;subst h0
 by_cases h1:¬a1=b1
 ·have g1:(a1 == b1)=false:=by simpa using h1
  have R:=Lib.hid (zfp (xs:=xs) (ys:=ys) (a0:=a0) (a1:=a1) (a2:=a2) (b0:=a0) (b1:=b1) (b2:=b2) (fun e=>h1 e.2.1))
  go_enter Tryz.func123,Tryz.ntmps123
  go_wp2_with fail
  go_quiet (fail)
  go_wp2_with fail;go_ret;exact⟨zac (by rw[R.out]),zae (Below.refl _ _) _⟩
 replace h1:a1=b1:=Decidable.not_not.1 h1;subst h1
 by_cases h2:¬a2=b2
 ·have g2:(a2 == b2)=false:=by simpa using h2
  have R:=Lib.hid (zfp (xs:=xs) (ys:=ys) (a0:=a0) (a1:=a1) (a2:=a2) (b0:=a0) (b1:=a1) (b2:=b2) (fun e=>h2 e.2.2))
  go_enter Tryz.func123,Tryz.ntmps123
  go_wp2_with fail
  go_quiet (fail)
  go_wp2_with fail;go_ret;exact⟨zac (by rw[R.out]),zae (Below.refl _ _) _⟩
 replace h2:a2=b2:=Decidable.not_not.1 h2;subst h2;rw[zli];have cP:∀d os,Calls Tryz.prog 60 #[.slice A n c,.slice A' n' c'] (grow (redrawn w d) os) fun e w''=>e=.returned (.bool (decide (xs=ys)))/\∃p:Regrown,w''=grow (redrawn w p.d) p.os:=fun d os=>Calls.regrown_of (zrt _ _ _ _ _ _ _ _ _ (hx.later (below_regrown w d os)) (hy.later (below_regrown w d os)) hn)
 have pp0:=cell_regrown p0;have qq0:=cell_regrown q0;have pp1:=cell_regrown p1;have qq1:=cell_regrown q1;have pp2:=cell_regrown p2;have qq2:=cell_regrown q2;have pp3:=cell_regrown p3;have qq3:=cell_regrown q3;clear p0 p1 p2 p3 q0 q1 q2 q3
 go_enter Tryz.func123,Tryz.ntmps123
 go_wp2_with fail
 (refine wp_region_quiet_below (by kernel_rfl) (by kernel_rfl) ?_;(repeat (go_big_quiet_step (exact cP _ _)));refine wpQuiet_nil ?_;intro _ hw';obtain⟨⟨dq,osq⟩,hw''⟩:=hw';subst hw'')
 go_wp2;go_ret;exact⟨rfl,below_regrown w dq osq⟩
set_option synthInstance.maxSize 2000
set_option synthInstance.maxHeartbeats 400000
theorem zrv(a0 b0:Int)(A1:Yo)(n1 c1:Nat)(B1:Yo)(m1 d1:Nat)(A2:Yo)(n2 c2:Nat)(B2:Yo)(m2 d2:Nat)(A3:Yo)(n3 c3:Nat)(B3:Yo)(m3 d3:Nat)(x1 y1:List (List Int))(x2 y2:List Node)(x3 y3:List Int)(w:Yw)(h1:tSS.R w w.heap.size [.slice A1 n1 c1] x1)(k1:tSS.R w w.heap.size [.slice B1 m1 d1] y1)(h2:tNS.R w w.heap.size [.slice A2 n2 c2] x2)(k2:tNS.R w w.heap.size [.slice B2 m2 d2] y2)(h3:tS.R w w.heap.size [.slice A3 n3 c3] x3)(k3:tS.R w w.heap.size [.slice B3 m3 d3] y3)(hn:hP.sz ((a0,x1,x2,x3):zad)<=100000000)(hn2:hP.sz ((b0,y1,y2,y3):zad)<=100000000):
 Calls Tryz.prog 93 #[.agg #[.int .i64 a0,.slice A1 n1 c1,.slice A2 n2 c2,.slice A3 n3 c3],.agg #[.int .i64 b0,.slice B1 m1 d1,.slice B2 m2 d2,.slice B3 m3 d3]] w fun e w'=>e=.returned (.bool (decide (((a0,x1,x2,x3):zad)=(b0,y1,y2,y3))))/\Below w.heap.size w w':=by
 obtain⟨W,hW⟩:∃W,W=(w.alloc (.cells #[.int .i64 a0,.slice A1 n1 c1,.slice A2 n2 c2,.slice A3 n3 c3] 67)).alloc (.cells #[.int .i64 b0,.slice B1 m1 d1,.slice B2 m2 d2,.slice B3 m3 d3] 67):=⟨_,rfl⟩;have B0:Below w.heap.size w W:=by rw[hW];exact((Below.refl _ _).alloc (Nat.le_refl _) _).alloc (by simp) _
 have p0:W.cell? ⟨w.heap.size,0,none⟩=some (.int .i64 a0):=by rw[hW];simp[go_sem]
 have q0:W.cell? ⟨w.heap.size+1,0,none⟩=some (.int .i64 b0):=by rw[hW];simp[go_sem]
 have p1:W.cell? ⟨w.heap.size,1,none⟩=some (.slice A1 n1 c1):=by rw[hW];simp[go_sem]
 have q1:W.cell? ⟨w.heap.size+1,1,none⟩=some (.slice B1 m1 d1):=by rw[hW];simp[go_sem]
 have p2:W.cell? ⟨w.heap.size,2,none⟩=some (.slice A2 n2 c2):=by rw[hW];simp[go_sem]
 have q2:W.cell? ⟨w.heap.size+1,2,none⟩=some (.slice B2 m2 d2):=by rw[hW];simp[go_sem]
 have p3:W.cell? ⟨w.heap.size,3,none⟩=some (.slice A3 n3 c3):=by rw[hW];simp[go_sem]
 have q3:W.cell? ⟨w.heap.size+1,3,none⟩=some (.slice B3 m3 d3):=by rw[hW];simp[go_sem]
 have lx:w.heap.size+1<W.heap.size:=by rw[hW];simp
 have HW:=Lib.hid hW;have r1:=tSS.later h1 B0;have s1:=tSS.later k1 B0;have X1:=Lib.hid (sl_R.1 h1).cap.1;have Y1:=Lib.hid (sl_R.1 k1).cap.1;have r2:=tNS.later h2 B0;have s2:=tNS.later k2 B0;have X2:=Lib.hid (sl_R.1 h2).cap.1;have Y2:=Lib.hid (sl_R.1 k2).cap.1;have r3:=tS.later h3 B0;have s3:=tS.later k3 B0;have X3:=Lib.hid (sl_R.1 h3).cap.1;have Y3:=Lib.hid (sl_R.1 k3).cap.1;rw[zco]at hn hn2;have z1:hSS.sz x1<=100000000:=by omega
 have v1:hSS.sz y1<=100000000:=by omega
 have bn1:n1<=100000000:=by have e:x1.length+hS.szL x1=hSS.sz x1:=rfl;have:=X1.out;omega
 have z2:hNS.sz x2<=100000000:=by omega
 have v2:hNS.sz y2<=100000000:=by omega
 have bn2:n2<=100000000:=by have e:x2.length+hN.szL x2=hNS.sz x2:=rfl;have:=X2.out;omega
 have z3:hS.sz x3<=100000000:=by omega
 have v3:hS.sz y3<=100000000:=by omega
 have bn3:n3<=100000000:=by have e:x3.length+hI.szL x3=hS.sz x3:=rfl;have:=X3.out;omega
 clear hW hn hn2 h1 k1 h2 k2 h3 k3
 by_cases e0:¬a0=b0
 ·have g0:(a0 != b0)=true:=by simpa using e0
  have R:=Lib.hid (show decide (((a0,x1,x2,x3):zad)=(b0,y1,y2,y3))=false by rw[decide_eq_false_iff_not];intro e;simp only[Prod.mk.injEq]at e;exact e0 e.1)
  go_enter Tryz.func93,Tryz.ntmps93
  go_wp2_with fail
  try rw[<-HW.out]
  go_ret;exact⟨zac (by rw[R.out]),B0⟩
 replace e0:a0=b0:=Decidable.not_not.1 e0;subst e0
 go_enter Tryz.func93,Tryz.ntmps93
 go_wp2_with fail;rw[<-HW.out]
 by_cases e1:¬x1=y1
 ·have HD:=Lib.hid (decide_eq_false e1);have R:=Lib.hid (show decide (((a0,x1,x2,x3):zad)=(a0,y1,y2,y3))=false by rw[decide_eq_false_iff_not];intro e;simp only[Prod.mk.injEq]at e;exact e1 e.2.1);refine(zlh _ _ _ _ _ _ _ _ _ r1 s1 z1).mono ?_;rw[HD.out];rintro e u1 ⟨rfl,bel1⟩;go_wp2;go_ret;exact⟨zac (by rw[R.out]),zaa B0 bel1⟩
 replace e1:x1=y1:=Decidable.not_not.1 e1;have E1:=Lib.hid e1;have HD1:=Lib.hid (decide_eq_true e1);clear e1;refine(zlh _ _ _ _ _ _ _ _ _ r1 s1 z1).mono ?_;rw[HD1.out];rintro e w1 ⟨rfl,bel1⟩;have lx_w1:=Nat.lt_of_lt_of_le lx bel1.size;have B_w1:=zaa B0 bel1;have p0_w1:w1.cell? ⟨w.heap.size,0,none⟩=some (.int .i64 a0):=by rw[bel1.cell (by show w.heap.size<_;have:=lx;omega)];exact p0
 have q0_w1:w1.cell? ⟨w.heap.size+1,0,none⟩=some (.int .i64 a0):=by rw[bel1.cell (by show w.heap.size+1<_;have:=lx;omega)];exact q0
 have p1_w1:w1.cell? ⟨w.heap.size,1,none⟩=some (.slice A1 n1 c1):=by rw[bel1.cell (by show w.heap.size<_;have:=lx;omega)];exact p1
 have q1_w1:w1.cell? ⟨w.heap.size+1,1,none⟩=some (.slice B1 m1 d1):=by rw[bel1.cell (by show w.heap.size+1<_;have:=lx;omega)];exact q1
 have p2_w1:w1.cell? ⟨w.heap.size,2,none⟩=some (.slice A2 n2 c2):=by rw[bel1.cell (by show w.heap.size<_;have:=lx;omega)];exact p2
 have q2_w1:w1.cell? ⟨w.heap.size+1,2,none⟩=some (.slice B2 m2 d2):=by rw[bel1.cell (by show w.heap.size+1<_;have:=lx;omega)];exact q2
 have p3_w1:w1.cell? ⟨w.heap.size,3,none⟩=some (.slice A3 n3 c3):=by rw[bel1.cell (by show w.heap.size<_;have:=lx;omega)];exact p3
 have q3_w1:w1.cell? ⟨w.heap.size+1,3,none⟩=some (.slice B3 m3 d3):=by rw[bel1.cell (by show w.heap.size+1<_;have:=lx;omega)];exact q3
 have r1_w1:=tSS.later r1 bel1;have s1_w1:=tSS.later s1 bel1;have r2_w1:=tNS.later r2 bel1;have s2_w1:=tNS.later s2 bel1;have r3_w1:=tS.later r3 bel1;have s3_w1:=tS.later s3 bel1;clear p0 q0 p1 q1 p2 q2 p3 q3 r1 s1 r2 s2 r3 s3;go_wp2_with fail
 by_cases e3:¬x3=y3
 ·have HD:=Lib.hid (decide_eq_false e3);have R:=Lib.hid (show decide (((a0,x1,x2,x3):zad)=(a0,y1,y2,y3))=false by rw[decide_eq_false_iff_not];intro e;simp only[Prod.mk.injEq]at e;exact e3 e.2.2.2);refine(zgl _ _ _ _ _ _ _ _ _ (tS_R.1 r3_w1).ri (tS_R.1 s3_w1).ri (by omega)).mono ?_;rw[HD.out];rintro e u1 ⟨rfl,bel1⟩;go_wp2;go_ret;exact⟨zac (by rw[R.out]),zaa B_w1 bel1⟩
 replace e3:x3=y3:=Decidable.not_not.1 e3;have E3:=Lib.hid e3;have HD2:=Lib.hid (decide_eq_true e3);clear e3;refine(zgl _ _ _ _ _ _ _ _ _ (tS_R.1 r3_w1).ri (tS_R.1 s3_w1).ri (by omega)).mono ?_;rw[HD2.out];rintro e w2 ⟨rfl,bel2⟩;have lx_w2:=Nat.lt_of_lt_of_le lx_w1 bel2.size;have B_w2:=zaa B_w1 bel2;have p0_w2:w2.cell? ⟨w.heap.size,0,none⟩=some (.int .i64 a0):=by rw[bel2.cell (by show w.heap.size<_;have:=lx_w1;omega)];exact p0_w1
 have q0_w2:w2.cell? ⟨w.heap.size+1,0,none⟩=some (.int .i64 a0):=by rw[bel2.cell (by show w.heap.size+1<_;have:=lx_w1;omega)];exact q0_w1
 have p1_w2:w2.cell? ⟨w.heap.size,1,none⟩=some (.slice A1 n1 c1):=by rw[bel2.cell (by show w.heap.size<_;have:=lx_w1;omega)];exact p1_w1
 have q1_w2:w2.cell? ⟨w.heap.size+1,1,none⟩=some (.slice B1 m1 d1):=by rw[bel2.cell (by show w.heap.size+1<_;have:=lx_w1;omega)];exact q1_w1
 have p2_w2:w2.cell? ⟨w.heap.size,2,none⟩=some (.slice A2 n2 c2):=by rw[bel2.cell (by show w.heap.size<_;have:=lx_w1;omega)];exact p2_w1
 have q2_w2:w2.cell? ⟨w.heap.size+1,2,none⟩=some (.slice B2 m2 d2):=by rw[bel2.cell (by show w.heap.size+1<_;have:=lx_w1;omega)];exact q2_w1
 have p3_w2:w2.cell? ⟨w.heap.size,3,none⟩=some (.slice A3 n3 c3):=by rw[bel2.cell (by show w.heap.size<_;have:=lx_w1;omega)];exact p3_w1
 have q3_w2:w2.cell? ⟨w.heap.size+1,3,none⟩=some (.slice B3 m3 d3):=by rw[bel2.cell (by show w.heap.size+1<_;have:=lx_w1;omega)];exact q3_w1
 have r1_w2:=tSS.later r1_w1 bel2;have s1_w2:=tSS.later s1_w1 bel2;have r2_w2:=tNS.later r2_w1 bel2;have s2_w2:=tNS.later s2_w1 bel2;have r3_w2:=tS.later r3_w1 bel2;have s3_w2:=tS.later s3_w1 bel2;clear p0_w1 q0_w1 p1_w1 q1_w1 p2_w1 q2_w1 p3_w1 q3_w1 r1_w1 s1_w1 r2_w1 s2_w1 r3_w1 s3_w1
 by_cases e2:¬n2=m2
 ·have g2:((n2:Int) != (m2:Int))=true:=by simp;omega
  have R:=Lib.hid (show decide (((a0,x1,x2,x3):zad)=(a0,y1,y2,y3))=false by rw[decide_eq_false_iff_not];intro e;simp only[Prod.mk.injEq]at e;exact e2 (by rw[<-X2.out,<-Y2.out,e.2.2.1]));go_wp2_with fail;go_ret;exact⟨zac (by rw[R.out]),B_w2⟩
 replace e2:n2=m2:=Decidable.not_not.1 e2;subst e2;go_wp2
 go_loopw [5,6,40] (fun _ _ i wr=>∃k:Nat,i=.int .i64 k/\k<=n2/\Hid (x2.take k=y2.take k)/\Below w2.heap.size w2 wr) (fun _ _ i _=>n2-(intOf i).toNat)
 case atStart=>exact⟨0,rfl,by omega,Lib.hid (by simp),Below.refl _ _⟩
 case round=>
  obtain⟨k,rfl,hk,H,hb0⟩:=hrel;obtain⟨wo0,rfl⟩:∃wo:Yw,wo=wr:=⟨_,rfl⟩;have lx_wo0:=Nat.lt_of_lt_of_le lx_w2 hb0.size;have B_wo0:=zaa B_w2 hb0;have p0_wo0:wo0.cell? ⟨w.heap.size,0,none⟩=some (.int .i64 a0):=by rw[hb0.cell (by show w.heap.size<_;have:=lx_w2;omega)];exact p0_w2
  have q0_wo0:wo0.cell? ⟨w.heap.size+1,0,none⟩=some (.int .i64 a0):=by rw[hb0.cell (by show w.heap.size+1<_;have:=lx_w2;omega)];exact q0_w2
  have p1_wo0:wo0.cell? ⟨w.heap.size,1,none⟩=some (.slice A1 n1 c1):=by rw[hb0.cell (by show w.heap.size<_;have:=lx_w2;omega)];exact p1_w2
  have q1_wo0:wo0.cell? ⟨w.heap.size+1,1,none⟩=some (.slice B1 m1 d1):=by rw[hb0.cell (by show w.heap.size+1<_;have:=lx_w2;omega)];exact q1_w2
  have p2_wo0:wo0.cell? ⟨w.heap.size,2,none⟩=some (.slice A2 n2 c2):=by rw[hb0.cell (by show w.heap.size<_;have:=lx_w2;omega)];exact p2_w2
  have q2_wo0:wo0.cell? ⟨w.heap.size+1,2,none⟩=some (.slice B2 n2 d2):=by rw[hb0.cell (by show w.heap.size+1<_;have:=lx_w2;omega)];exact q2_w2
  have p3_wo0:wo0.cell? ⟨w.heap.size,3,none⟩=some (.slice A3 n3 c3):=by rw[hb0.cell (by show w.heap.size<_;have:=lx_w2;omega)];exact p3_w2
  have q3_wo0:wo0.cell? ⟨w.heap.size+1,3,none⟩=some (.slice B3 m3 d3):=by rw[hb0.cell (by show w.heap.size+1<_;have:=lx_w2;omega)];exact q3_w2
  have r1_wo0:=tSS.later r1_w2 hb0;have s1_wo0:=tSS.later s1_w2 hb0;have r2_wo0:=tNS.later r2_w2 hb0;have s2_wo0:=tNS.later s2_w2 hb0;have r3_wo0:=tS.later r3_w2 hb0;have s3_wo0:=tS.later s3_w2 hb0;clear p0_w2 q0_w2 p1_w2 q1_w2 p2_w2 q2_w2 p3_w2 q3_w2 r1_w2 s1_w2 r2_w2 s2_w2 r3_w2 s3_w2
  by_cases hlt:k<n2
  ·have hX:=Lib.hid (List.getElem?_eq_getElem (l:=x2) (i:=k) (by rw[X2.out];exact hlt));have hY:=Lib.hid (List.getElem?_eq_getElem (l:=y2) (i:=k) (by rw[Y2.out];exact hlt));obtain⟨b,o1,cc,cs,hv,hab,-,hE,hcc⟩:=(sl_R.1 r2_wo0).atX hX.out;obtain⟨b',o2,cc',cs',hv',hab',-,hE',hdd⟩:=(sl_R.1 s2_wo0).atX hY.out;simp only[Value.slice.injEq]at hv hv';obtain⟨rfl,-,rfl⟩:=hv;obtain⟨rfl,-,rfl⟩:=hv';have hU:=hN.szL_at hX.out;have hV:=hN.szL_at hY.out;generalize x2[k]'(by rw[X2.out];exact hlt)=x at hX hE hU;generalize y2[k]'(by rw[Y2.out];exact hlt)=y at hY hE' hV;have zz:x2.length+hN.szL x2=hNS.sz x2:=rfl;have zv:y2.length+hN.szL y2=hNS.sz y2:=rfl;have zx:hN.sz x<=100000000:=(by omega);have zy:hN.sz y<=100000000:=(by omega);clear zz zv hU hV;obtain⟨ua0,ua1,ua2,ua3⟩:=x;obtain⟨ub0,ub1,ub2,ub3⟩:=y;obtain⟨Ae3,ne3,ce3,rfl,hE3⟩:=tN_R.1 hE;obtain⟨Be3,me3,de3,rfl,hG3⟩:=tN_R.1 hE';have e0:wo0.cell? ⟨b,o1+k*4,none⟩=some (.int .i64 ua0):=hcc 0 _ rfl;have f0:wo0.cell? ⟨b',o2+k*4,none⟩=some (.int .i64 ub0):=hdd 0 _ rfl;have e1:wo0.cell? ⟨b,o1+k*4+1,none⟩=some (.int .i64 ua1):=hcc 1 _ rfl;have f1:wo0.cell? ⟨b',o2+k*4+1,none⟩=some (.int .i64 ub1):=hdd 1 _ rfl;have e2:wo0.cell? ⟨b,o1+k*4+2,none⟩=some (.int .i64 ua2):=hcc 2 _ rfl;have f2:wo0.cell? ⟨b',o2+k*4+2,none⟩=some (.int .i64 ub2):=hdd 2 _ rfl;have e3:wo0.cell? ⟨b,o1+k*4+3,none⟩=some (.slice Ae3 ne3 ce3):=hcc 3 _ rfl;have f3:wo0.cell? ⟨b',o2+k*4+3,none⟩=some (.slice Be3 me3 de3):=hdd 3 _ rfl;clear hcc hdd;obtain⟨U,hU⟩:∃U,U=wo0.alloc (.cells #[.int .i64 ua0,.int .i64 ua1,.int .i64 ua2,.slice Ae3 ne3 ce3] 169):=⟨_,rfl⟩;have G0:Below wo0.heap.size wo0 U:=(by rw[hU];exact(Below.refl _ _).alloc (Nat.le_refl _) _);have sU:wo0.heap.size<U.heap.size:=(by rw[hU];simp);have g0:U.cell? ⟨wo0.heap.size,0,none⟩=some (.int .i64 ua0):=(by rw[hU,cell_of_row _ wo0.heap.size 0 _ 169 (0,0) (heap_alloc_new wo0 _)];rfl);have l0:U.cell? ⟨b',o2+k*4,none⟩=some (.int .i64 ub0):=(by rw[G0.cell hab'];exact f0);have g1:U.cell? ⟨wo0.heap.size,1,none⟩=some (.int .i64 ua1):=(by rw[hU,cell_of_row _ wo0.heap.size 1 _ 169 (0,0) (heap_alloc_new wo0 _)];rfl);have l1:U.cell? ⟨b',o2+k*4+1,none⟩=some (.int .i64 ub1):=(by rw[G0.cell hab'];exact f1);have g2:U.cell? ⟨wo0.heap.size,2,none⟩=some (.int .i64 ua2):=(by rw[hU,cell_of_row _ wo0.heap.size 2 _ 169 (0,0) (heap_alloc_new wo0 _)];rfl);have l2:U.cell? ⟨b',o2+k*4+2,none⟩=some (.int .i64 ub2):=(by rw[G0.cell hab'];exact f2);have g3:U.cell? ⟨wo0.heap.size,3,none⟩=some (.slice Ae3 ne3 ce3):=(by rw[hU,cell_of_row _ wo0.heap.size 3 _ 169 (0,0) (heap_alloc_new wo0 _)];rfl);have l3:U.cell? ⟨b',o2+k*4+3,none⟩=some (.slice Be3 me3 de3):=(by rw[G0.cell hab'];exact f3);have qq:U.cell? ⟨w.heap.size+1,2,none⟩=some (.slice (some ⟨b',o2,none⟩) n2 d2):=(by rw[G0.cell lx_wo0];exact q2_wo0);have HU:=Lib.hid hU;clear hU;replace hE3:=tS.later hE3 G0;replace hG3:=tS.later hG3 G0;rw[ze9,zbi]at zx zy;have nb:ne3<=1000000000:=(by have:=zcn hE3;omega);have rg0:=cell_regrown g0;have rl0:=cell_regrown l0;have rg1:=cell_regrown g1;have rl1:=cell_regrown l1;have rg2:=cell_regrown g2;have rl2:=cell_regrown l2;have rg3:=cell_regrown g3;have rl3:=cell_regrown l3;have rqq:=cell_regrown qq;have cP:∀d os,Calls Tryz.prog 149 #[.agg #[.int .i64 ua0,.int .i64 ua1,.int .i64 ua2,.slice Ae3 ne3 ce3],.agg #[.int .i64 ub0,.int .i64 ub1,.int .i64 ub2,.slice Be3 me3 de3]] (grow (redrawn U d) os) fun e w''=>e=.returned (.bool (decide (((ua0,ua1,ua2,ua3):Node)=(ub0,ub1,ub2,ub3))))/\∃p:Regrown,w''=grow (redrawn U p.d) p.os:=fun d os=>Calls.regrown_of (zlj _ _ _ _ _ _ _ _ _ _ _ _ _ _ _ (tS_R.1 (tS.later hE3 (below_regrown U d os))).ri (tS_R.1 (tS.later hG3 (below_regrown U d os))).ri nb)
   clear g0 l0 g1 l1 g2 l2 g3 l3 qq
   by_cases hp:((ua0,ua1,ua2,ua3):Node)=(ub0,ub1,ub2,ub3)
   ·rw[decide_eq_true hp]at cP;have HP:=Lib.hid hp;clear hp;go_wp2;rw[<-HU.out];clear e0 f0 e1 f1 e2 f2 e3 f3
    (refine wp_region_quiet_below (by kernel_rfl) (by kernel_rfl) ?_;(repeat (go_big_quiet_step (exact cP _ _)));refine wpQuiet_nil ?_;intro _ hw';obtain⟨⟨dq,osq⟩,hw''⟩:=hw';subst hw'')
    go_wp2;go_roundw
    case rel=>exact⟨k+1,by go_num,by omega,Lib.hid (by rw[M.take_at hX.out,M.take_at hY.out,H.out,HP.out]),zaa hb0 (zaa G0 (below_regrown U dq osq))⟩
    case measure=>simp[intOf];omega
   rw[decide_eq_false hp]at cP;have hxy:¬x2=y2:=fun e=>by have h1:=hX.out;rw[e,hY.out]at h1;injection h1 with h1;exact hp h1.symm
   have R:=Lib.hid (show decide (((a0,x1,x2,x3):zad)=(a0,y1,y2,y3))=false by rw[decide_eq_false_iff_not];intro e;simp only[Prod.mk.injEq]at e;exact hxy e.2.2.1);clear hp hxy;go_wp2;rw[<-HU.out];clear e0 f0 e1 f1 e2 f2 e3 f3
   (refine wp_region_quiet_below (by kernel_rfl) (by kernel_rfl) ?_;(repeat (go_big_quiet_step (exact cP _ _)));refine wpQuiet_nil ?_;intro _ hw';obtain⟨⟨dq,osq⟩,hw''⟩:=hw';subst hw'')
   go_wp2;go_ret;exact⟨zac (by rw[R.out]),zaa B_wo0 (zaa G0 (below_regrown U dq osq))⟩
  have E2:=Lib.hid (show x2=y2 by have:=H.out;rwa [List.take_of_length_le (by rw[X2.out];omega),List.take_of_length_le (by rw[Y2.out];omega)]at this);clear H;go_wp2;clear hlt hk;go_ret;exact⟨zac (by rw[E1.out,E2.out,E3.out];simp),B_wo0⟩
end Go.Proofs.YtifeldeikhmckaaGreat
