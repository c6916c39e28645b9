import Derived.Test.YtifeldeikhmckaaGreatFnMutedG3
import Derived.Lib.QuietBelow
import Derived.Deep.DeepCutAuto
import Derived.Test.YtifeldeikhmckaaGreatFnMutedG4
import Derived.Deep.RegionWith
import Derived.Test.YtifeldeikhmckaaGreatFnMutedG2
set_option linter.unusedVariables false
set_option linter.unusedSimpArgs false
set_option maxRecDepth 100000
set_option maxHeartbeats 4000000
namespace Go.Proofs.YtifeldeikhmckaaGreat
open Go.RowKit Go.Sort
set_option synthInstance.maxSize 2000
set_option synthInstance.maxHeartbeats 400000
theorem zf9(A:Yo)(n c:Nat)(xs:List Int)(m:Int)(w:Yw)(hx:RI w w.heap.size A n xs)(hn:n<=1000000000000)(hm:0<=m/\m<=1000000000):
 Calls Tryz.prog 84 #[.slice A n c,.int .i64 m] w fun e w'=>e=.returned (.bool (xs.all (za7 m)))/\w=w':=by
 go_enter Tryz.func84,Tryz.ntmps84
 go_wp2
 go_loop [6,9] (fun _ i=>∃k:Nat,i=.int .i64 k/\k<=n/\Hid (xs.all (za7 m)=(xs.drop k).all (za7 m))) (fun _ i=>n-(intOf i).toNat)
 case atStart=>exact⟨0,rfl,by omega,Aq (by simp)⟩
 case round=>
  obtain⟨k,rfl,hk,H⟩:=hrel;have hl:=Aq hx.len
  by_cases hlt:k<n
  ·obtain⟨ad,x,rfl,hab,X,hc⟩:=hx.at hlt;have hd:=Aq (M.drop_at X.out);cases hs:M.inn x 0 (m-1)
   ·have R:=Aq (show xs.all (za7 m)=false by rw[H.out,hd.out,Dv,za7,hs];rfl);go_wp2_with (go_at_call 81;refine(zav _ _ _ _).mono ?_;rintro e w' ⟨rfl,rfl⟩);go_ret;exact⟨zac (by rw[R.out]),rfl⟩
   have R:=Aq (show xs.all (za7 m)=(xs.drop (k+1)).all (za7 m)by rw[H.out,hd.out,Dv,za7,hs];rfl);go_wp2_with (go_at_call 81;refine(zav _ _ _ _).mono ?_;rintro e w' ⟨rfl,rfl⟩);go_round
   case rel=>exact⟨k+1,by go_num,by omega,R⟩
   case measure=>simp[intOf];omega
  have R:=Aq (show xs.all (za7 m)=true by rw[H.out,Ej (by rw[hl.out];omega)];rfl);go_wp2;go_ret;exact⟨zac (by rw[R.out]),rfl⟩
theorem zh4(A:Yo)(n c:Nat)(ts:List (List Int))(w:Yw)(hx:RS tS w w.heap.size (.slice A n c) ts)(hb:Hid (∀x∈ts,x.length<=1000000000))(hn:n<=1000000000):
 Calls Tryz.prog 234 #[.slice A n c] w fun e w'=>e=.returned (.bool (zbr ts))/\w=w':=by
 have hl:=Aq hx.cap.1
 go_enter Tryz.func234,Tryz.ntmps234
 go_wp2
 go_loop [4,5,8] (fun _ _ i=>∃k:Nat,i=.int .i64 k/\k<=n/\Hid (ts.all zcw=(ts.drop k).all zcw)) (fun _ _ i=>n-(intOf i).toNat)
 case atStart=>exact⟨0,rfl,by omega,Aq (by simp)⟩
 case round=>
  obtain⟨k,rfl,hk,H⟩:=hrel
  by_cases hlt:k<n
  ·obtain⟨bb,o,A1,c1,x,rfl,hbb,X,hc,hri,hxl⟩:=zf7 hx hb hlt;have hd:=Aq (M.drop_at X.out);cases hs:(decide (x.length=2)||decide (x.length=4)||decide (x.length=8)||decide (x.length=16))
   ·have R:=Aq (show zbr ts=false by rw[zbr,H.out,hd.out,Dv,zcw,hs];rfl);have h2:¬x.length=2:=fun e=>by simp[e]at hs
    have h4:¬x.length=4:=fun e=>by simp[e]at hs
    have h8:¬x.length=8:=fun e=>by simp[e]at hs
    have h16:¬x.length=16:=fun e=>by simp[e]at hs
    have g2:((x.length:Int) != 2)=true:=(by simp;omega);have g4:((x.length:Int) != 4)=true:=(by simp;omega);have g8:((x.length:Int) != 8)=true:=(by simp;omega);have g16:((x.length:Int) != 16)=true:=(by simp;omega);clear hs h2 h4 h8 h16;go_wp2;go_ret;exact⟨zac (by rw[R.out]),rfl⟩
   have HS:=Aq hs;cases hq:x.all M.smp
   ·have R:=Aq (show zbr ts=false by rw[zbr,H.out,hd.out,Dv,zcw,hq,Ev];rfl);have hor:x.length=2\/x.length=4\/x.length=8\/x.length=16:=(by simp at hs;omega);have HQ:=Aq hq;clear hs hq;rcases hor with e|e|e|e
    all_goals
     rw[e]at hc hri;go_wp2_with (go_at_call 233;refine(zj4 _ _ _ _ _ hri (by omega)).mono ?_;rw[HQ.out];rintro e w' ⟨rfl,rfl⟩);go_ret;exact⟨zac (by rw[R.out]),rfl⟩
   have R:=Aq (show ts.all zcw=(ts.drop (k+1)).all zcw by rw[H.out,hd.out,Dv,zcw,hs,hq];rfl);have hor:x.length=2\/x.length=4\/x.length=8\/x.length=16:=(by simp at hs;omega);have HQ:=Aq hq;clear hs hq;rcases hor with e|e|e|e
   all_goals
    rw[e]at hc hri;go_wp2_with (go_at_call 233;refine(zj4 _ _ _ _ _ hri (by omega)).mono ?_;rw[HQ.out];rintro e w' ⟨rfl,rfl⟩);go_round
    case rel=>exact⟨k+1,by go_num,by omega,R⟩
    case measure=>simp[intOf];omega
  have R:=Aq (show zbr ts=decide (n<=4)by rw[zbr,H.out,Ej (by rw[hl.out];omega),hl.out];rfl);go_wp2;go_ret;exact⟨zac (by rw[R.out,Bool.eq_iff_iff];simp;try omega),rfl⟩
def M.kn (j:Nat):ByteArray:=[⟨#[105,110,112,117,116]⟩,⟨#[99,111,110,115,116]⟩,⟨#[97,100,100]⟩,⟨#[115,117,98]⟩,⟨#[103,97,105,110]⟩,⟨#[100,101,108,97,121]⟩,⟨#[115,117,109]⟩,⟨#[100,105,102,102]⟩,⟨#[109,117,108]⟩,⟨#[115,104,105,102,116]⟩,⟨#[99,108,105,112]⟩,⟨#[112,104,97,115,101]⟩,⟨#[116,97,98,108,101]⟩,⟨#[110,111,105,115,101]⟩,⟨#[115,101,108,101,99,116]⟩,⟨#[104,111,108,100]⟩,⟨#[99,111,109,98]⟩].getD j ⟨#[]⟩
def zsn (w:Yw) (g:Nat):Prop:=∀j,j<17->w.cell? ⟨g,j*6,none⟩=some (.string (M.kn j))/\w.cell? ⟨g,j*6+1,none⟩=some (.int .i64 (M.kd j).1)/\w.cell? ⟨g,j*6+2,none⟩=some (.int .i64 (M.kd j).2.1)/\w.cell? ⟨g,j*6+3,none⟩=some (.int .i64 (M.kd j).2.2.1)/\w.cell? ⟨g,j*6+4,none⟩=some (.bool (M.kd j).2.2.2.1)/\w.cell? ⟨g,j*6+5,none⟩=some (.bool (M.kd j).2.2.2.2)
theorem zm6(w:Yw):
 Calls Tryz.prog 253 #[] w fun e w'=>∃g,e=.returned (.slice (some ⟨g,0,none⟩) 17 17)/\w.heap.size<=g/\g<w'.heap.size/\zsn w' g/\Below w.heap.size w w':=by
 go_enter Tryz.func253,Tryz.ntmps253
 go_wp2;go_ret;refine⟨_,rfl,Aj _,by simp,?_,(Aw _ _).alloc (Aj _) _⟩;intro j hj;obtain rfl|rfl|rfl|rfl|rfl|rfl|rfl|rfl|rfl|rfl|rfl|rfl|rfl|rfl|rfl|rfl|rfl:j=0\/j=1\/j=2\/j=3\/j=4\/j=5\/j=6\/j=7\/j=8\/j=9\/j=10\/j=11\/j=12\/j=13\/j=14\/j=15\/j=16:=by omega
 all_goals
  refine⟨?_,?_,?_,?_,?_,?_⟩
  all_goals (rw[cell_of_row _ w.heap.size _ _ 275 (0,0) (Df w _)];rfl)
theorem zm7(k:Int)(w:Yw):Calls Tryz.prog 252 #[.int .i64 k] w fun e w'=>e=.returned (.bool (M.inn k 1 17))/\w=w':=by
 go_enter Tryz.func252,Tryz.ntmps252
 go_wp2_with (go_at_call 81;refine(zav _ _ _ _).mono ?_;rintro e w' ⟨rfl,rfl⟩);go_ret;exact⟨rfl,rfl⟩
theorem ze4(s:ByteArray)(i lo hi:Int)(l b:Bool)(w:Yw):Calls Tryz.prog 254 #[.agg #[.string s,.int .i64 i,.int .i64 lo,.int .i64 hi,.bool l,.bool b]] w fun e w'=>e=.returned (.bool (decide (lo<=hi)))/\Below w.heap.size w w':=by
 have B0:Below w.heap.size w (w.alloc (.cells #[.string s,.int .i64 i,.int .i64 lo,.int .i64 hi,.bool l,.bool b] 275)):=(Aw _ _).alloc (Aj _) _
 go_enter Tryz.func254,Tryz.ntmps254
 go_wp2;go_ret;exact⟨rfl,B0⟩
theorem zso(a0 a1 a2:Int)(A:Yo)(n c:Nat)(xs:List Int)(tb:Int)(w:Yw)(hx:RI w w.heap.size A n xs)(hn:n<=1000000000):
 Calls Tryz.prog 235 #[.agg #[.int .i64 a0,.int .i64 a1,.int .i64 a2,.slice A n c],.int .i64 tb] w fun e w'=>e=.returned (.bool (zaj (a0,a1,a2,xs) tb))/\Below w.heap.size w w':=by
 obtain⟨W,hW⟩:∃W,W=w.alloc (.cells #[.int .i64 a0,.int .i64 a1,.int .i64 a2,.slice A n c] 169):=⟨_,rfl⟩;have B0:Below w.heap.size w W:=by rw[hW];exact(Aw _ _).alloc (Aj _) _
 have p0:W.cell? ⟨w.heap.size,0,none⟩=some (.int .i64 a0):=by rw[hW];simp[go_sem]
 have p1:W.cell? ⟨w.heap.size,1,none⟩=some (.int .i64 a1):=by rw[hW];simp[go_sem]
 have p2:W.cell? ⟨w.heap.size,2,none⟩=some (.int .i64 a2):=by rw[hW];simp[go_sem]
 have p3:W.cell? ⟨w.heap.size,3,none⟩=some (.slice A n c):=by rw[hW];simp[go_sem]
 have lx:w.heap.size<W.heap.size:=by rw[hW];simp
 have hx1:=hx.later B0;have HW:=Aq hW;have hlen:=Aq hx.len;clear hW hx;cases h:M.inn a0 1 17
 ·have R:=Aq (show zaj (a0,a1,a2,xs) tb=false by rw[zaj,h];rfl)
  go_enter Tryz.func235,Tryz.ntmps235
  go_wp2_with fail;rw[<-HW.out];go_wp2_with (go_at_call 252;refine(zm7 _ _).mono ?_;rintro e w' ⟨rfl,rfl⟩);go_ret;exact⟨zac (by rw[R.out]),B0⟩
 have hr:=za3.1 h;obtain⟨j,hj⟩:∃j:Nat,j=a0.toNat-1:=⟨_,rfl⟩;have hj17:j<17:=by omega
 have hja:IntKind.i64.wrap (a0-1)=(j:Int):=by rw[IntWalk.i64_in _ (by omega)];omega
 have hj0:(0:Int)<=(j:Int):=by omega
 have hj1:(j:Int)<17:=by omega
 obtain⟨⟨ki,lo,hi,li,hb⟩,hk⟩:∃q,q=M.kd j:=⟨_,rfl⟩;have HK:=Aq hk;have HI:=Aq h;have HN:=Aq (show zaj (a0,a1,a2,xs) tb=(M.aI (ki,lo,hi,li,hb) a1&&M.bI (ki,lo,hi,li,hb) a2&&xs.all za2&&decide ((xs.length:Int)=ki)&&(decide (¬a0=13)||decide (a1<tb)))by rw[zaj];simp only[h,Ew];rw[<-hj,<-hk]);clear hj hk h hr;have Da:Below W.heap.size W W.drew:=zad (Aw _ _) 1;have Db:Below W.heap.size W (W.alloc (.cells #[.string ⟨#[]⟩,.int .i64 0,.int .i64 0,.int .i64 0,.bool false,.bool false] 275)).drew:=zad ((Aw _ _).alloc (Aj _) _) 1;have sb:(W.alloc (.cells #[.string ⟨#[]⟩,.int .i64 0,.int .i64 0,.int .i64 0,.bool false,.bool false] 275)).drew.heap.size=W.heap.size+1:=by simp
 have sa:W.drew.heap.size=W.heap.size:=rfl
 go_enter Tryz.func235,Tryz.ntmps235
 go_wp2_with fail;rw[<-HW.out];go_wp2_with (go_at_call 252;refine(zm7 _ _).mono ?_;rw[HI.out];rintro e w' ⟨rfl,rfl⟩)
 go_cut [5] (fun q5 wx=>∃g,q5=.pointer (some ⟨g,0,none⟩)/\W.heap.size<=g/\g<wx.heap.size/\wx.cell? ⟨g,0,none⟩=some (.string (M.kn j))/\wx.cell? ⟨g,1,none⟩=some (.int .i64 ki)/\wx.cell? ⟨g,2,none⟩=some (.int .i64 lo)/\wx.cell? ⟨g,3,none⟩=some (.int .i64 hi)/\wx.cell? ⟨g,4,none⟩=some (.bool li)/\wx.cell? ⟨g,5,none⟩=some (.bool hb)/\Below W.heap.size W wx)
 case first=>
  go_region_with (first|(go_at_call 253;refine(zm6 _).mono ?_;rintro e w2 ⟨g,rfl,hg0,hg1,KC,bel2⟩;obtain⟨k0,k1,k2,k3,k4,k5⟩:=KC j hj17;rw[<-HK.out]at k1 k2 k3 k4 k5;simp only at k1 k2 k3 k4 k5;have G2:Below W.heap.size W w2:=zaa Db bel2;have q0:w2.cell? ⟨w.heap.size,0,none⟩=some (.int .i64 a0):=(by rw[G2.cell lx];exact p0);have hs2:=bel2.size;have lw2:w.heap.size<w2.heap.size:=(by have:=G2.size;omega);have bz0:w2.cell? ⟨W.heap.size,0,none⟩=some (.string ⟨#[]⟩):=(by rw[bel2.cell (by simp)];simp[go_sem]);have by0:w2.frozen? ⟨W.heap.size,0,none⟩=false:=(by rw[bel2.frozen (by simp)];simp[go_sem]);have bz1:w2.cell? ⟨W.heap.size,1,none⟩=some (.int .i64 0):=(by rw[bel2.cell (by simp)];simp[go_sem]);have by1:w2.frozen? ⟨W.heap.size,1,none⟩=false:=(by rw[bel2.frozen (by simp)];simp[go_sem]);have bz2:w2.cell? ⟨W.heap.size,2,none⟩=some (.int .i64 0):=(by rw[bel2.cell (by simp)];simp[go_sem]);have by2:w2.frozen? ⟨W.heap.size,2,none⟩=false:=(by rw[bel2.frozen (by simp)];simp[go_sem]);have bz3:w2.cell? ⟨W.heap.size,3,none⟩=some (.int .i64 0):=(by rw[bel2.cell (by simp)];simp[go_sem]);have by3:w2.frozen? ⟨W.heap.size,3,none⟩=false:=(by rw[bel2.frozen (by simp)];simp[go_sem]);have bz4:w2.cell? ⟨W.heap.size,4,none⟩=some (.bool false):=(by rw[bel2.cell (by simp)];simp[go_sem]);have by4:w2.frozen? ⟨W.heap.size,4,none⟩=false:=(by rw[bel2.frozen (by simp)];simp[go_sem]);have bz5:w2.cell? ⟨W.heap.size,5,none⟩=some (.bool false):=(by rw[bel2.cell (by simp)];simp[go_sem]);have by5:w2.frozen? ⟨W.heap.size,5,none⟩=false:=(by rw[bel2.frozen (by simp)];simp[go_sem]);have lb2:W.heap.size<w2.heap.size:=(by rw[sb]at hs2;omega);have nb2:¬g=W.heap.size:=(by rw[sb]at hg0;omega))|(go_at_call 253;refine(zm6 _).mono ?_;rintro e w2 ⟨g,rfl,hg0,hg1,KC,bel2⟩;obtain⟨k0,k1,k2,k3,k4,k5⟩:=KC j hj17;rw[<-HK.out]at k1 k2 k3 k4 k5;simp only at k1 k2 k3 k4 k5;have G2:Below W.heap.size W w2:=zaa Da bel2;have q0:w2.cell? ⟨w.heap.size,0,none⟩=some (.int .i64 a0):=(by rw[G2.cell lx];exact p0);have hs2:=bel2.size;have lw2:w.heap.size<w2.heap.size:=(by have:=G2.size;omega)))
  all_goals
   go_wp2_with fail
   go_meet
   refine⟨_,rfl,?_⟩
   first
    | (have _t:=nb2;refine⟨Aj _,by simp;omega,?_,?_,?_,?_,?_,?_,(((((G2.setCell (Aj _) _).setCell (Aj _) _).setCell (Aj _) _).setCell (Aj _) _).setCell (Aj _) _).setCell (Aj _) _⟩ <;> (simp[go_sem,bz0,bz1,bz2,bz3,bz4,bz5];done))
    | (refine⟨by have:=G2.size;omega,by simp,?_,?_,?_,?_,?_,?_,G2.alloc G2.size _⟩ <;> (simp[go_sem];done))
 case rest=>
  have hcut_:=hcut;clear hcut Da Db sa sb;obtain⟨U,rfl⟩:∃u_:Yw,u_=wc:=⟨_,rfl⟩;obtain⟨g,rfl,hg,lg,e0,e1,e2,e3,e4,e5,G⟩:=hcut_;clear HW;have lw:w.heap.size<U.heap.size:=by have:=G.size;omega
  replace p0:U.cell? ⟨w.heap.size,0,none⟩=some (.int .i64 a0):=by rw[G.cell lx];exact p0
  replace p1:U.cell? ⟨w.heap.size,1,none⟩=some (.int .i64 a1):=by rw[G.cell lx];exact p1
  replace p2:U.cell? ⟨w.heap.size,2,none⟩=some (.int .i64 a2):=by rw[G.cell lx];exact p2
  replace p3:U.cell? ⟨w.heap.size,3,none⟩=some (.slice A n c):=by rw[G.cell lx];exact p3
  replace hx1:=hx1.later G
  by_cases hle:lo<=hi
  ·have HL:=Aq (Dx hle);cases h1:M.inn a1 lo hi
   ·have HA:=Aq (show M.aI (ki,lo,hi,li,hb) a1=false by rw[M.aI,if_pos hle,h1]);have R:=Aq (show zaj (a0,a1,a2,xs) tb=false by rw[HN.out,HA.out];try rfl);go_wp2_with (first|(go_at_call 254;refine(ze4 _ _ _ _ _ _ _).mono ?_;rw[HL.out];rintro e v5 ⟨rfl,bel5⟩;have s5:=bel5.size;replace e0:v5.cell? ⟨g,0,none⟩=some (.string (M.kn j)):=(by rw[bel5.cell lg];exact e0);replace e1:v5.cell? ⟨g,1,none⟩=some (.int .i64 ki):=(by rw[bel5.cell lg];exact e1);replace e2:v5.cell? ⟨g,2,none⟩=some (.int .i64 lo):=(by rw[bel5.cell lg];exact e2);replace e3:v5.cell? ⟨g,3,none⟩=some (.int .i64 hi):=(by rw[bel5.cell lg];exact e3);replace e4:v5.cell? ⟨g,4,none⟩=some (.bool li):=(by rw[bel5.cell lg];exact e4);replace e5:v5.cell? ⟨g,5,none⟩=some (.bool hb):=(by rw[bel5.cell lg];exact e5);replace p0:v5.cell? ⟨w.heap.size,0,none⟩=some (.int .i64 a0):=(by rw[bel5.cell lw];exact p0);replace p1:v5.cell? ⟨w.heap.size,1,none⟩=some (.int .i64 a1):=(by rw[bel5.cell lw];exact p1);replace p2:v5.cell? ⟨w.heap.size,2,none⟩=some (.int .i64 a2):=(by rw[bel5.cell lw];exact p2);replace p3:v5.cell? ⟨w.heap.size,3,none⟩=some (.slice A n c):=(by rw[bel5.cell lw];exact p3);replace hx1:=hx1.later bel5;replace lg:g<v5.heap.size:=(by omega);replace lw:w.heap.size<v5.heap.size:=(by omega);replace G:=zaa G bel5;clear bel5 s5)|(go_at_call 81;refine(zav _ _ _ _).mono ?_;rintro e w' ⟨rfl,rfl⟩));go_ret;exact⟨zac (by rw[R.out]),zaa B0 G⟩
   have HA:=Aq (fun hb=>show M.aI (ki,lo,hi,li,hb) a1=true by rw[M.aI,if_pos hle,h1]);cases hb
   ·by_cases h2:a2=0
    ·have HB:=Aq (show M.bI (ki,lo,hi,li,false) a2=true by rw[M.bI,if_neg (by simp)];simpa using h2);have g2:(a2 != 0)=false:=(by simp[h2]);have HM:=Aq (show zaj (a0,a1,a2,xs) tb=(xs.all za2&&decide ((xs.length:Int)=ki)&&(decide (¬a0=13)||decide (a1<tb)))by rw[HN.out,(HA.out _),HB.out];rfl);go_wp2_with (first|(go_at_call 254;refine(ze4 _ _ _ _ _ _ _).mono ?_;rw[HL.out];rintro e v5 ⟨rfl,bel5⟩;have s5:=bel5.size;replace e0:v5.cell? ⟨g,0,none⟩=some (.string (M.kn j)):=(by rw[bel5.cell lg];exact e0);replace e1:v5.cell? ⟨g,1,none⟩=some (.int .i64 ki):=(by rw[bel5.cell lg];exact e1);replace e2:v5.cell? ⟨g,2,none⟩=some (.int .i64 lo):=(by rw[bel5.cell lg];exact e2);replace e3:v5.cell? ⟨g,3,none⟩=some (.int .i64 hi):=(by rw[bel5.cell lg];exact e3);replace e4:v5.cell? ⟨g,4,none⟩=some (.bool li):=(by rw[bel5.cell lg];exact e4);replace e5:v5.cell? ⟨g,5,none⟩=some (.bool false):=(by rw[bel5.cell lg];exact e5);replace p0:v5.cell? ⟨w.heap.size,0,none⟩=some (.int .i64 a0):=(by rw[bel5.cell lw];exact p0);replace p1:v5.cell? ⟨w.heap.size,1,none⟩=some (.int .i64 a1):=(by rw[bel5.cell lw];exact p1);replace p2:v5.cell? ⟨w.heap.size,2,none⟩=some (.int .i64 a2):=(by rw[bel5.cell lw];exact p2);replace p3:v5.cell? ⟨w.heap.size,3,none⟩=some (.slice A n c):=(by rw[bel5.cell lw];exact p3);replace hx1:=hx1.later bel5;replace lg:g<v5.heap.size:=(by omega);replace lw:w.heap.size<v5.heap.size:=(by omega);replace G:=zaa G bel5;clear bel5 s5)|(go_at_call 81;refine(zav _ _ _ _).mono ?_;rintro e w' ⟨rfl,rfl⟩))
     skip
     go_loop [7,63] (fun _ i=>∃k:Nat,i=.int .i64 k/\k<=n/\Hid (xs.all za2=(xs.drop k).all za2)) (fun _ i=>n-(intOf i).toNat)
     case atStart=>exact⟨0,rfl,by omega,Aq (by simp)⟩
     case round=>
      obtain⟨k,rfl,hk,H⟩:=hrel
      by_cases hlt:k<n
      ·obtain⟨ad,x,rfl,hab,X,hc⟩:=hx1.at hlt;have hd:=Aq (M.drop_at X.out);cases hs:M.inn x 0 23
       ·have R:=Aq (show zaj (a0,a1,a2,xs) tb=false by rw[HM.out,H.out,hd.out,Dv,za2,hs];rfl);go_wp2_with (go_at_call 81;refine(zav _ _ _ _).mono ?_;rintro e w' ⟨rfl,rfl⟩);go_ret;exact⟨zac (by rw[R.out]),zaa B0 G⟩
       have R:=Aq (show xs.all za2=(xs.drop (k+1)).all za2 by rw[H.out,hd.out,Dv,za2,hs];rfl);go_wp2_with (go_at_call 81;refine(zav _ _ _ _).mono ?_;rintro e w' ⟨rfl,rfl⟩);go_round
       case rel=>exact⟨k+1,by go_num,by omega,R⟩
       case measure=>simp[intOf];omega
      have HF:=Aq (show xs.all za2=true by rw[H.out,Ej (by rw[hlen.out];omega)];rfl);clear H
      by_cases c1:(n:Int)=ki
      ·by_cases c2:a0=13
       ·have d1:decide ((n:Int)=ki)=true:=(by simpa using c1);have d2:(a0 != 13)=false:=by simp[c2]
        by_cases c3:a1<tb
        ·have R:=Aq (show zaj (a0,a1,a2,xs) tb=true by rw[HM.out,HF.out,hlen.out,c1,c2];simpa using c3)
         skip
         go_wp2_with fail
         go_quiet (first|(refine zbo (zb2 _ _ _ _)))
         go_wp2;go_ret;exact⟨zac (by rw[R.out];try (simp;omega)),zaa B0 (zad G _)⟩
        have R:=Aq (show zaj (a0,a1,a2,xs) tb=false by rw[HM.out,HF.out,hlen.out,c1,c2];simpa using c3)
        skip
        go_wp2_with fail
        go_quiet (first|(refine zbo (zb2 _ _ _ _)))
        go_wp2;go_ret;exact⟨zac (by rw[R.out];try (simp;omega)),zaa B0 (zad G _)⟩
       have R:=Aq (show zaj (a0,a1,a2,xs) tb=true by rw[HM.out,HF.out,hlen.out,c1];simp[c2]);have d2:(a0 != 13)=true:=by simpa using c2
       skip
       go_wp2_with fail
       go_quiet (first|(refine zbo (zb2 _ _ _ _)))
       go_wp2;go_ret;exact⟨zac (by rw[R.out];try (simp;omega)),zaa B0 (zad G _)⟩
      have R:=Aq (show zaj (a0,a1,a2,xs) tb=false by rw[HM.out,HF.out,hlen.out];simp[c1]);have d1:((n:Int) == ki)=false:=by simpa using c1
      skip
      go_wp2_with fail
      go_quiet (first|(refine zbo (zb2 _ _ _ _)))
      go_wp2;go_ret;exact⟨zac (by rw[R.out];try (simp;omega)),zaa B0 (zad G _)⟩
    have HB:=Aq (show M.bI (ki,lo,hi,li,false) a2=false by rw[M.bI,if_neg (by simp)];simpa using h2);have g2:(a2 != 0)=true:=(by simpa using h2);have R:=Aq (show zaj (a0,a1,a2,xs) tb=false by rw[HN.out,(HA.out _),HB.out];try rfl);go_wp2_with (first|(go_at_call 254;refine(ze4 _ _ _ _ _ _ _).mono ?_;rw[HL.out];rintro e v5 ⟨rfl,bel5⟩;have s5:=bel5.size;replace e0:v5.cell? ⟨g,0,none⟩=some (.string (M.kn j)):=(by rw[bel5.cell lg];exact e0);replace e1:v5.cell? ⟨g,1,none⟩=some (.int .i64 ki):=(by rw[bel5.cell lg];exact e1);replace e2:v5.cell? ⟨g,2,none⟩=some (.int .i64 lo):=(by rw[bel5.cell lg];exact e2);replace e3:v5.cell? ⟨g,3,none⟩=some (.int .i64 hi):=(by rw[bel5.cell lg];exact e3);replace e4:v5.cell? ⟨g,4,none⟩=some (.bool li):=(by rw[bel5.cell lg];exact e4);replace e5:v5.cell? ⟨g,5,none⟩=some (.bool false):=(by rw[bel5.cell lg];exact e5);replace p0:v5.cell? ⟨w.heap.size,0,none⟩=some (.int .i64 a0):=(by rw[bel5.cell lw];exact p0);replace p1:v5.cell? ⟨w.heap.size,1,none⟩=some (.int .i64 a1):=(by rw[bel5.cell lw];exact p1);replace p2:v5.cell? ⟨w.heap.size,2,none⟩=some (.int .i64 a2):=(by rw[bel5.cell lw];exact p2);replace p3:v5.cell? ⟨w.heap.size,3,none⟩=some (.slice A n c):=(by rw[bel5.cell lw];exact p3);replace hx1:=hx1.later bel5;replace lg:g<v5.heap.size:=(by omega);replace lw:w.heap.size<v5.heap.size:=(by omega);replace G:=zaa G bel5;clear bel5 s5)|(go_at_call 81;refine(zav _ _ _ _).mono ?_;rintro e w' ⟨rfl,rfl⟩));go_ret;exact⟨zac (by rw[R.out]),zaa B0 G⟩
   cases h2:M.inn a2 1 16
   ·have HB:=Aq (show M.bI (ki,lo,hi,li,true) a2=false by rw[M.bI,if_pos rfl,h2]);have R:=Aq (show zaj (a0,a1,a2,xs) tb=false by rw[HN.out,(HA.out _),HB.out];try rfl);go_wp2_with (first|(go_at_call 254;refine(ze4 _ _ _ _ _ _ _).mono ?_;rw[HL.out];rintro e v5 ⟨rfl,bel5⟩;have s5:=bel5.size;replace e0:v5.cell? ⟨g,0,none⟩=some (.string (M.kn j)):=(by rw[bel5.cell lg];exact e0);replace e1:v5.cell? ⟨g,1,none⟩=some (.int .i64 ki):=(by rw[bel5.cell lg];exact e1);replace e2:v5.cell? ⟨g,2,none⟩=some (.int .i64 lo):=(by rw[bel5.cell lg];exact e2);replace e3:v5.cell? ⟨g,3,none⟩=some (.int .i64 hi):=(by rw[bel5.cell lg];exact e3);replace e4:v5.cell? ⟨g,4,none⟩=some (.bool li):=(by rw[bel5.cell lg];exact e4);replace e5:v5.cell? ⟨g,5,none⟩=some (.bool true):=(by rw[bel5.cell lg];exact e5);replace p0:v5.cell? ⟨w.heap.size,0,none⟩=some (.int .i64 a0):=(by rw[bel5.cell lw];exact p0);replace p1:v5.cell? ⟨w.heap.size,1,none⟩=some (.int .i64 a1):=(by rw[bel5.cell lw];exact p1);replace p2:v5.cell? ⟨w.heap.size,2,none⟩=some (.int .i64 a2):=(by rw[bel5.cell lw];exact p2);replace p3:v5.cell? ⟨w.heap.size,3,none⟩=some (.slice A n c):=(by rw[bel5.cell lw];exact p3);replace hx1:=hx1.later bel5;replace lg:g<v5.heap.size:=(by omega);replace lw:w.heap.size<v5.heap.size:=(by omega);replace G:=zaa G bel5;clear bel5 s5)|(go_at_call 81;refine(zav _ _ _ _).mono ?_;rintro e w' ⟨rfl,rfl⟩));go_ret;exact⟨zac (by rw[R.out]),zaa B0 G⟩
   have HB:=Aq (show M.bI (ki,lo,hi,li,true) a2=true by rw[M.bI,if_pos rfl,h2]);have HM:=Aq (show zaj (a0,a1,a2,xs) tb=(xs.all za2&&decide ((xs.length:Int)=ki)&&(decide (¬a0=13)||decide (a1<tb)))by rw[HN.out,(HA.out _),HB.out];rfl);go_wp2_with (first|(go_at_call 254;refine(ze4 _ _ _ _ _ _ _).mono ?_;rw[HL.out];rintro e v5 ⟨rfl,bel5⟩;have s5:=bel5.size;replace e0:v5.cell? ⟨g,0,none⟩=some (.string (M.kn j)):=(by rw[bel5.cell lg];exact e0);replace e1:v5.cell? ⟨g,1,none⟩=some (.int .i64 ki):=(by rw[bel5.cell lg];exact e1);replace e2:v5.cell? ⟨g,2,none⟩=some (.int .i64 lo):=(by rw[bel5.cell lg];exact e2);replace e3:v5.cell? ⟨g,3,none⟩=some (.int .i64 hi):=(by rw[bel5.cell lg];exact e3);replace e4:v5.cell? ⟨g,4,none⟩=some (.bool li):=(by rw[bel5.cell lg];exact e4);replace e5:v5.cell? ⟨g,5,none⟩=some (.bool true):=(by rw[bel5.cell lg];exact e5);replace p0:v5.cell? ⟨w.heap.size,0,none⟩=some (.int .i64 a0):=(by rw[bel5.cell lw];exact p0);replace p1:v5.cell? ⟨w.heap.size,1,none⟩=some (.int .i64 a1):=(by rw[bel5.cell lw];exact p1);replace p2:v5.cell? ⟨w.heap.size,2,none⟩=some (.int .i64 a2):=(by rw[bel5.cell lw];exact p2);replace p3:v5.cell? ⟨w.heap.size,3,none⟩=some (.slice A n c):=(by rw[bel5.cell lw];exact p3);replace hx1:=hx1.later bel5;replace lg:g<v5.heap.size:=(by omega);replace lw:w.heap.size<v5.heap.size:=(by omega);replace G:=zaa G bel5;clear bel5 s5)|(go_at_call 81;refine(zav _ _ _ _).mono ?_;rintro e w' ⟨rfl,rfl⟩))
   skip
   go_loop [7,63] (fun _ i=>∃k:Nat,i=.int .i64 k/\k<=n/\Hid (xs.all za2=(xs.drop k).all za2)) (fun _ i=>n-(intOf i).toNat)
   case atStart=>exact⟨0,rfl,by omega,Aq (by simp)⟩
   case round=>
    obtain⟨k,rfl,hk,H⟩:=hrel
    by_cases hlt:k<n
    ·obtain⟨ad,x,rfl,hab,X,hc⟩:=hx1.at hlt;have hd:=Aq (M.drop_at X.out);cases hs:M.inn x 0 23
     ·have R:=Aq (show zaj (a0,a1,a2,xs) tb=false by rw[HM.out,H.out,hd.out,Dv,za2,hs];rfl);go_wp2_with (go_at_call 81;refine(zav _ _ _ _).mono ?_;rintro e w' ⟨rfl,rfl⟩);go_ret;exact⟨zac (by rw[R.out]),zaa B0 G⟩
     have R:=Aq (show xs.all za2=(xs.drop (k+1)).all za2 by rw[H.out,hd.out,Dv,za2,hs];rfl);go_wp2_with (go_at_call 81;refine(zav _ _ _ _).mono ?_;rintro e w' ⟨rfl,rfl⟩);go_round
     case rel=>exact⟨k+1,by go_num,by omega,R⟩
     case measure=>simp[intOf];omega
    have HF:=Aq (show xs.all za2=true by rw[H.out,Ej (by rw[hlen.out];omega)];rfl);clear H
    by_cases c1:(n:Int)=ki
    ·by_cases c2:a0=13
     ·have d1:decide ((n:Int)=ki)=true:=(by simpa using c1);have d2:(a0 != 13)=false:=by simp[c2]
      by_cases c3:a1<tb
      ·have R:=Aq (show zaj (a0,a1,a2,xs) tb=true by rw[HM.out,HF.out,hlen.out,c1,c2];simpa using c3)
       skip
       go_wp2_with fail
       go_quiet (first|(refine zbo (zb2 _ _ _ _)))
       go_wp2;go_ret;exact⟨zac (by rw[R.out];try (simp;omega)),zaa B0 (zad G _)⟩
      have R:=Aq (show zaj (a0,a1,a2,xs) tb=false by rw[HM.out,HF.out,hlen.out,c1,c2];simpa using c3)
      skip
      go_wp2_with fail
      go_quiet (first|(refine zbo (zb2 _ _ _ _)))
      go_wp2;go_ret;exact⟨zac (by rw[R.out];try (simp;omega)),zaa B0 (zad G _)⟩
     have R:=Aq (show zaj (a0,a1,a2,xs) tb=true by rw[HM.out,HF.out,hlen.out,c1];simp[c2]);have d2:(a0 != 13)=true:=by simpa using c2
     skip
     go_wp2_with fail
     go_quiet (first|(refine zbo (zb2 _ _ _ _)))
     go_wp2;go_ret;exact⟨zac (by rw[R.out];try (simp;omega)),zaa B0 (zad G _)⟩
    have R:=Aq (show zaj (a0,a1,a2,xs) tb=false by rw[HM.out,HF.out,hlen.out];simp[c1]);have d1:((n:Int) == ki)=false:=by simpa using c1
    skip
    go_wp2_with fail
    go_quiet (first|(refine zbo (zb2 _ _ _ _)))
    go_wp2;go_ret;exact⟨zac (by rw[R.out];try (simp;omega)),zaa B0 (zad G _)⟩
  have HL:=Aq (Dz hle)
  by_cases h1:a1=0
  ·have HA:=Aq (fun hb=>show M.aI (ki,lo,hi,li,hb) a1=true by rw[M.aI,if_neg hle];simpa using h1);have g1:(a1 != 0)=false:=(by simp[h1]);cases hb
   ·by_cases h2:a2=0
    ·have HB:=Aq (show M.bI (ki,lo,hi,li,false) a2=true by rw[M.bI,if_neg (by simp)];simpa using h2);have g2:(a2 != 0)=false:=(by simp[h2]);have HM:=Aq (show zaj (a0,a1,a2,xs) tb=(xs.all za2&&decide ((xs.length:Int)=ki)&&(decide (¬a0=13)||decide (a1<tb)))by rw[HN.out,(HA.out _),HB.out];rfl);go_wp2_with (first|(go_at_call 254;refine(ze4 _ _ _ _ _ _ _).mono ?_;rw[HL.out];rintro e v5 ⟨rfl,bel5⟩;have s5:=bel5.size;replace e0:v5.cell? ⟨g,0,none⟩=some (.string (M.kn j)):=(by rw[bel5.cell lg];exact e0);replace e1:v5.cell? ⟨g,1,none⟩=some (.int .i64 ki):=(by rw[bel5.cell lg];exact e1);replace e2:v5.cell? ⟨g,2,none⟩=some (.int .i64 lo):=(by rw[bel5.cell lg];exact e2);replace e3:v5.cell? ⟨g,3,none⟩=some (.int .i64 hi):=(by rw[bel5.cell lg];exact e3);replace e4:v5.cell? ⟨g,4,none⟩=some (.bool li):=(by rw[bel5.cell lg];exact e4);replace e5:v5.cell? ⟨g,5,none⟩=some (.bool false):=(by rw[bel5.cell lg];exact e5);replace p0:v5.cell? ⟨w.heap.size,0,none⟩=some (.int .i64 a0):=(by rw[bel5.cell lw];exact p0);replace p1:v5.cell? ⟨w.heap.size,1,none⟩=some (.int .i64 a1):=(by rw[bel5.cell lw];exact p1);replace p2:v5.cell? ⟨w.heap.size,2,none⟩=some (.int .i64 a2):=(by rw[bel5.cell lw];exact p2);replace p3:v5.cell? ⟨w.heap.size,3,none⟩=some (.slice A n c):=(by rw[bel5.cell lw];exact p3);replace hx1:=hx1.later bel5;replace lg:g<v5.heap.size:=(by omega);replace lw:w.heap.size<v5.heap.size:=(by omega);replace G:=zaa G bel5;clear bel5 s5)|(go_at_call 81;refine(zav _ _ _ _).mono ?_;rintro e w' ⟨rfl,rfl⟩))
     skip
     go_loop [7,63] (fun _ i=>∃k:Nat,i=.int .i64 k/\k<=n/\Hid (xs.all za2=(xs.drop k).all za2)) (fun _ i=>n-(intOf i).toNat)
     case atStart=>exact⟨0,rfl,by omega,Aq (by simp)⟩
     case round=>
      obtain⟨k,rfl,hk,H⟩:=hrel
      by_cases hlt:k<n
      ·obtain⟨ad,x,rfl,hab,X,hc⟩:=hx1.at hlt;have hd:=Aq (M.drop_at X.out);cases hs:M.inn x 0 23
       ·have R:=Aq (show zaj (a0,a1,a2,xs) tb=false by rw[HM.out,H.out,hd.out,Dv,za2,hs];rfl);go_wp2_with (go_at_call 81;refine(zav _ _ _ _).mono ?_;rintro e w' ⟨rfl,rfl⟩);go_ret;exact⟨zac (by rw[R.out]),zaa B0 G⟩
       have R:=Aq (show xs.all za2=(xs.drop (k+1)).all za2 by rw[H.out,hd.out,Dv,za2,hs];rfl);go_wp2_with (go_at_call 81;refine(zav _ _ _ _).mono ?_;rintro e w' ⟨rfl,rfl⟩);go_round
       case rel=>exact⟨k+1,by go_num,by omega,R⟩
       case measure=>simp[intOf];omega
      have HF:=Aq (show xs.all za2=true by rw[H.out,Ej (by rw[hlen.out];omega)];rfl);clear H
      by_cases c1:(n:Int)=ki
      ·by_cases c2:a0=13
       ·have d1:decide ((n:Int)=ki)=true:=(by simpa using c1);have d2:(a0 != 13)=false:=by simp[c2]
        by_cases c3:a1<tb
        ·have R:=Aq (show zaj (a0,a1,a2,xs) tb=true by rw[HM.out,HF.out,hlen.out,c1,c2];simpa using c3)
         skip
         go_wp2_with fail
         go_quiet (first|(refine zbo (zb2 _ _ _ _)))
         go_wp2;go_ret;exact⟨zac (by rw[R.out];try (simp;omega)),zaa B0 (zad G _)⟩
        have R:=Aq (show zaj (a0,a1,a2,xs) tb=false by rw[HM.out,HF.out,hlen.out,c1,c2];simpa using c3)
        skip
        go_wp2_with fail
        go_quiet (first|(refine zbo (zb2 _ _ _ _)))
        go_wp2;go_ret;exact⟨zac (by rw[R.out];try (simp;omega)),zaa B0 (zad G _)⟩
       have R:=Aq (show zaj (a0,a1,a2,xs) tb=true by rw[HM.out,HF.out,hlen.out,c1];simp[c2]);have d2:(a0 != 13)=true:=by simpa using c2
       skip
       go_wp2_with fail
       go_quiet (first|(refine zbo (zb2 _ _ _ _)))
       go_wp2;go_ret;exact⟨zac (by rw[R.out];try (simp;omega)),zaa B0 (zad G _)⟩
      have R:=Aq (show zaj (a0,a1,a2,xs) tb=false by rw[HM.out,HF.out,hlen.out];simp[c1]);have d1:((n:Int) == ki)=false:=by simpa using c1
      skip
      go_wp2_with fail
      go_quiet (first|(refine zbo (zb2 _ _ _ _)))
      go_wp2;go_ret;exact⟨zac (by rw[R.out];try (simp;omega)),zaa B0 (zad G _)⟩
    have HB:=Aq (show M.bI (ki,lo,hi,li,false) a2=false by rw[M.bI,if_neg (by simp)];simpa using h2);have g2:(a2 != 0)=true:=(by simpa using h2);have R:=Aq (show zaj (a0,a1,a2,xs) tb=false by rw[HN.out,(HA.out _),HB.out];try rfl);go_wp2_with (first|(go_at_call 254;refine(ze4 _ _ _ _ _ _ _).mono ?_;rw[HL.out];rintro e v5 ⟨rfl,bel5⟩;have s5:=bel5.size;replace e0:v5.cell? ⟨g,0,none⟩=some (.string (M.kn j)):=(by rw[bel5.cell lg];exact e0);replace e1:v5.cell? ⟨g,1,none⟩=some (.int .i64 ki):=(by rw[bel5.cell lg];exact e1);replace e2:v5.cell? ⟨g,2,none⟩=some (.int .i64 lo):=(by rw[bel5.cell lg];exact e2);replace e3:v5.cell? ⟨g,3,none⟩=some (.int .i64 hi):=(by rw[bel5.cell lg];exact e3);replace e4:v5.cell? ⟨g,4,none⟩=some (.bool li):=(by rw[bel5.cell lg];exact e4);replace e5:v5.cell? ⟨g,5,none⟩=some (.bool false):=(by rw[bel5.cell lg];exact e5);replace p0:v5.cell? ⟨w.heap.size,0,none⟩=some (.int .i64 a0):=(by rw[bel5.cell lw];exact p0);replace p1:v5.cell? ⟨w.heap.size,1,none⟩=some (.int .i64 a1):=(by rw[bel5.cell lw];exact p1);replace p2:v5.cell? ⟨w.heap.size,2,none⟩=some (.int .i64 a2):=(by rw[bel5.cell lw];exact p2);replace p3:v5.cell? ⟨w.heap.size,3,none⟩=some (.slice A n c):=(by rw[bel5.cell lw];exact p3);replace hx1:=hx1.later bel5;replace lg:g<v5.heap.size:=(by omega);replace lw:w.heap.size<v5.heap.size:=(by omega);replace G:=zaa G bel5;clear bel5 s5)|(go_at_call 81;refine(zav _ _ _ _).mono ?_;rintro e w' ⟨rfl,rfl⟩));go_ret;exact⟨zac (by rw[R.out]),zaa B0 G⟩
   cases h2:M.inn a2 1 16
   ·have HB:=Aq (show M.bI (ki,lo,hi,li,true) a2=false by rw[M.bI,if_pos rfl,h2]);have R:=Aq (show zaj (a0,a1,a2,xs) tb=false by rw[HN.out,(HA.out _),HB.out];try rfl);go_wp2_with (first|(go_at_call 254;refine(ze4 _ _ _ _ _ _ _).mono ?_;rw[HL.out];rintro e v5 ⟨rfl,bel5⟩;have s5:=bel5.size;replace e0:v5.cell? ⟨g,0,none⟩=some (.string (M.kn j)):=(by rw[bel5.cell lg];exact e0);replace e1:v5.cell? ⟨g,1,none⟩=some (.int .i64 ki):=(by rw[bel5.cell lg];exact e1);replace e2:v5.cell? ⟨g,2,none⟩=some (.int .i64 lo):=(by rw[bel5.cell lg];exact e2);replace e3:v5.cell? ⟨g,3,none⟩=some (.int .i64 hi):=(by rw[bel5.cell lg];exact e3);replace e4:v5.cell? ⟨g,4,none⟩=some (.bool li):=(by rw[bel5.cell lg];exact e4);replace e5:v5.cell? ⟨g,5,none⟩=some (.bool true):=(by rw[bel5.cell lg];exact e5);replace p0:v5.cell? ⟨w.heap.size,0,none⟩=some (.int .i64 a0):=(by rw[bel5.cell lw];exact p0);replace p1:v5.cell? ⟨w.heap.size,1,none⟩=some (.int .i64 a1):=(by rw[bel5.cell lw];exact p1);replace p2:v5.cell? ⟨w.heap.size,2,none⟩=some (.int .i64 a2):=(by rw[bel5.cell lw];exact p2);replace p3:v5.cell? ⟨w.heap.size,3,none⟩=some (.slice A n c):=(by rw[bel5.cell lw];exact p3);replace hx1:=hx1.later bel5;replace lg:g<v5.heap.size:=(by omega);replace lw:w.heap.size<v5.heap.size:=(by omega);replace G:=zaa G bel5;clear bel5 s5)|(go_at_call 81;refine(zav _ _ _ _).mono ?_;rintro e w' ⟨rfl,rfl⟩));go_ret;exact⟨zac (by rw[R.out]),zaa B0 G⟩
   have HB:=Aq (show M.bI (ki,lo,hi,li,true) a2=true by rw[M.bI,if_pos rfl,h2]);have HM:=Aq (show zaj (a0,a1,a2,xs) tb=(xs.all za2&&decide ((xs.length:Int)=ki)&&(decide (¬a0=13)||decide (a1<tb)))by rw[HN.out,(HA.out _),HB.out];rfl);go_wp2_with (first|(go_at_call 254;refine(ze4 _ _ _ _ _ _ _).mono ?_;rw[HL.out];rintro e v5 ⟨rfl,bel5⟩;have s5:=bel5.size;replace e0:v5.cell? ⟨g,0,none⟩=some (.string (M.kn j)):=(by rw[bel5.cell lg];exact e0);replace e1:v5.cell? ⟨g,1,none⟩=some (.int .i64 ki):=(by rw[bel5.cell lg];exact e1);replace e2:v5.cell? ⟨g,2,none⟩=some (.int .i64 lo):=(by rw[bel5.cell lg];exact e2);replace e3:v5.cell? ⟨g,3,none⟩=some (.int .i64 hi):=(by rw[bel5.cell lg];exact e3);replace e4:v5.cell? ⟨g,4,none⟩=some (.bool li):=(by rw[bel5.cell lg];exact e4);replace e5:v5.cell? ⟨g,5,none⟩=some (.bool true):=(by rw[bel5.cell lg];exact e5);replace p0:v5.cell? ⟨w.heap.size,0,none⟩=some (.int .i64 a0):=(by rw[bel5.cell lw];exact p0);replace p1:v5.cell? ⟨w.heap.size,1,none⟩=some (.int .i64 a1):=(by rw[bel5.cell lw];exact p1);replace p2:v5.cell? ⟨w.heap.size,2,none⟩=some (.int .i64 a2):=(by rw[bel5.cell lw];exact p2);replace p3:v5.cell? ⟨w.heap.size,3,none⟩=some (.slice A n c):=(by rw[bel5.cell lw];exact p3);replace hx1:=hx1.later bel5;replace lg:g<v5.heap.size:=(by omega);replace lw:w.heap.size<v5.heap.size:=(by omega);replace G:=zaa G bel5;clear bel5 s5)|(go_at_call 81;refine(zav _ _ _ _).mono ?_;rintro e w' ⟨rfl,rfl⟩))
   skip
   go_loop [7,63] (fun _ i=>∃k:Nat,i=.int .i64 k/\k<=n/\Hid (xs.all za2=(xs.drop k).all za2)) (fun _ i=>n-(intOf i).toNat)
   case atStart=>exact⟨0,rfl,by omega,Aq (by simp)⟩
   case round=>
    obtain⟨k,rfl,hk,H⟩:=hrel
    by_cases hlt:k<n
    ·obtain⟨ad,x,rfl,hab,X,hc⟩:=hx1.at hlt;have hd:=Aq (M.drop_at X.out);cases hs:M.inn x 0 23
     ·have R:=Aq (show zaj (a0,a1,a2,xs) tb=false by rw[HM.out,H.out,hd.out,Dv,za2,hs];rfl);go_wp2_with (go_at_call 81;refine(zav _ _ _ _).mono ?_;rintro e w' ⟨rfl,rfl⟩);go_ret;exact⟨zac (by rw[R.out]),zaa B0 G⟩
     have R:=Aq (show xs.all za2=(xs.drop (k+1)).all za2 by rw[H.out,hd.out,Dv,za2,hs];rfl);go_wp2_with (go_at_call 81;refine(zav _ _ _ _).mono ?_;rintro e w' ⟨rfl,rfl⟩);go_round
     case rel=>exact⟨k+1,by go_num,by omega,R⟩
     case measure=>simp[intOf];omega
    have HF:=Aq (show xs.all za2=true by rw[H.out,Ej (by rw[hlen.out];omega)];rfl);clear H
    by_cases c1:(n:Int)=ki
    ·by_cases c2:a0=13
     ·have d1:decide ((n:Int)=ki)=true:=(by simpa using c1);have d2:(a0 != 13)=false:=by simp[c2]
      by_cases c3:a1<tb
      ·have R:=Aq (show zaj (a0,a1,a2,xs) tb=true by rw[HM.out,HF.out,hlen.out,c1,c2];simpa using c3)
       skip
       go_wp2_with fail
       go_quiet (first|(refine zbo (zb2 _ _ _ _)))
       go_wp2;go_ret;exact⟨zac (by rw[R.out];try (simp;omega)),zaa B0 (zad G _)⟩
      have R:=Aq (show zaj (a0,a1,a2,xs) tb=false by rw[HM.out,HF.out,hlen.out,c1,c2];simpa using c3)
      skip
      go_wp2_with fail
      go_quiet (first|(refine zbo (zb2 _ _ _ _)))
      go_wp2;go_ret;exact⟨zac (by rw[R.out];try (simp;omega)),zaa B0 (zad G _)⟩
     have R:=Aq (show zaj (a0,a1,a2,xs) tb=true by rw[HM.out,HF.out,hlen.out,c1];simp[c2]);have d2:(a0 != 13)=true:=by simpa using c2
     skip
     go_wp2_with fail
     go_quiet (first|(refine zbo (zb2 _ _ _ _)))
     go_wp2;go_ret;exact⟨zac (by rw[R.out];try (simp;omega)),zaa B0 (zad G _)⟩
    have R:=Aq (show zaj (a0,a1,a2,xs) tb=false by rw[HM.out,HF.out,hlen.out];simp[c1]);have d1:((n:Int) == ki)=false:=by simpa using c1
    skip
    go_wp2_with fail
    go_quiet (first|(refine zbo (zb2 _ _ _ _)))
    go_wp2;go_ret;exact⟨zac (by rw[R.out];try (simp;omega)),zaa B0 (zad G _)⟩
  have HA:=Aq (show M.aI (ki,lo,hi,li,hb) a1=false by rw[M.aI,if_neg hle];simpa using h1);have g1:(a1 != 0)=true:=by simpa using h1
  have R:=Aq (show zaj (a0,a1,a2,xs) tb=false by rw[HN.out,HA.out];try rfl);go_wp2_with (first|(go_at_call 254;refine(ze4 _ _ _ _ _ _ _).mono ?_;rw[HL.out];rintro e v5 ⟨rfl,bel5⟩;have s5:=bel5.size;replace e0:v5.cell? ⟨g,0,none⟩=some (.string (M.kn j)):=(by rw[bel5.cell lg];exact e0);replace e1:v5.cell? ⟨g,1,none⟩=some (.int .i64 ki):=(by rw[bel5.cell lg];exact e1);replace e2:v5.cell? ⟨g,2,none⟩=some (.int .i64 lo):=(by rw[bel5.cell lg];exact e2);replace e3:v5.cell? ⟨g,3,none⟩=some (.int .i64 hi):=(by rw[bel5.cell lg];exact e3);replace e4:v5.cell? ⟨g,4,none⟩=some (.bool li):=(by rw[bel5.cell lg];exact e4);replace e5:v5.cell? ⟨g,5,none⟩=some (.bool hb):=(by rw[bel5.cell lg];exact e5);replace p0:v5.cell? ⟨w.heap.size,0,none⟩=some (.int .i64 a0):=(by rw[bel5.cell lw];exact p0);replace p1:v5.cell? ⟨w.heap.size,1,none⟩=some (.int .i64 a1):=(by rw[bel5.cell lw];exact p1);replace p2:v5.cell? ⟨w.heap.size,2,none⟩=some (.int .i64 a2):=(by rw[bel5.cell lw];exact p2);replace p3:v5.cell? ⟨w.heap.size,3,none⟩=some (.slice A n c):=(by rw[bel5.cell lw];exact p3);replace hx1:=hx1.later bel5;replace lg:g<v5.heap.size:=(by omega);replace lw:w.heap.size<v5.heap.size:=(by omega);replace G:=zaa G bel5;clear bel5 s5)|(go_at_call 81;refine(zav _ _ _ _).mono ?_;rintro e w' ⟨rfl,rfl⟩));go_ret;exact⟨zac (by rw[R.out]),zaa B0 G⟩
set_option synthInstance.maxSize 2000
set_option synthInstance.maxHeartbeats 400000
theorem zfm(A:Yo)(n c:Nat)(w:Yw):Calls Tryz.prog 150 #[.slice A n c] w fun e w'=>e=.returned (.int .i64 n)/\w=w':=by
 go_enter Tryz.func150,Tryz.ntmps150
 go_wp2;go_ret;exact⟨rfl,rfl⟩
theorem zsp(a0 a1 a2:Int)(A:Yo)(c:Nat)(xs:List Int)(w:Yw)(hx:RI w w.heap.size A xs.length xs):
 Calls Tryz.prog 236 #[.agg #[.int .i64 a0,.int .i64 a1,.int .i64 a2,.slice A xs.length c]] w fun e w'=>∃A' c',e=.returned (.slice A' (zax (a0,a1,a2,xs)).length c')/\RI w' w'.heap.size A' (zax (a0,a1,a2,xs)).length (zax (a0,a1,a2,xs))/\Below w.heap.size w w':=by
 obtain⟨W,hW⟩:∃W,W=w.alloc (.cells #[.int .i64 a0,.int .i64 a1,.int .i64 a2,.slice A xs.length c] 169):=⟨_,rfl⟩;have B0:Below w.heap.size w W:=by rw[hW];exact(Aw _ _).alloc (Aj _) _
 have p0:W.cell? ⟨w.heap.size,0,none⟩=some (.int .i64 a0):=by rw[hW];simp[go_sem]
 have p3:W.cell? ⟨w.heap.size,3,none⟩=some (.slice A xs.length c):=by rw[hW];simp[go_sem]
 have hx1:=hx.later B0;have HU:=Aq hW;clear hW
 by_cases h:a0=6
 ·have HW:=Aq (show zax (a0,a1,a2,xs)=[]by rw[zax,if_pos h]);rw[HW.out];subst h
  go_enter Tryz.func236,Tryz.ntmps236
  go_wp2_with fail
  try rw[<-HU.out]
  go_ret;exact⟨_,_,rfl,RI.nil _ _ _,B0⟩
 have HW:=Aq (show zax (a0,a1,a2,xs)=xs by rw[zax,if_neg h]);rw[HW.out];have g:(a0 == 6)=false:=by simpa using h
 go_enter Tryz.func236,Tryz.ntmps236
 go_wp2_with fail
 try rw[<-HU.out]
 go_wp2_with fail;go_ret;exact⟨_,_,rfl,hx1,B0⟩
def ebl (b:Bool):List Value:=[.bool b]
theorem zfn(b:Bool):(ebl b).length=1:=rfl
theorem zm8:EI Tryz.prog 233 4 (.bool false) 1 1:=⟨Tryz.underlying233,by kernel_rfl,rfl,by decide⟩
def M.tk (n:Nat) (O:List Int):List Bool:=(List.range n).map fun(i:Nat)=>zam O (i:Int)
theorem zi3{n:Nat}{O:List Int}{k:Nat}(h:k<n):(M.tk n O)[k]?=some (zam O (k:Int)):=by simp[M.tk,h]
theorem zsq{n:Nat}{O:List Int}{k:Nat}:(M.tk n O).set k true=M.tk n (O++[(k:Int)]):=by
 apply List.ext_getElem (by simp[M.tk]);intro i h1 h2;have hi:i<n:=by simpa [M.tk]using h2
 by_cases hik:k=i
 ·subst hik;simp[M.tk,zmf]
 rw[List.getElem_set_ne hik];simp only[M.tk,List.getElem_map,List.getElem_range,zmf];rw[show decide ((k:Int)=(i:Int))=false by simp;omega,Bool.or_false]
theorem zsr(n:Nat):M.tk n []=List.replicate n false:=by
 apply List.ext_getElem (by simp[M.tk]);intro i h1 h2;simp[M.tk,zrf]
def bN:Value->Nat
 | .bool true=>1
 | _=>0
theorem zm9(a0:Int)(A1:Yo)(n1 c1:Nat)(A2:Yo)(n2 c2:Nat)(A3:Yo)(n3 c3:Nat)(ns:List Node)(w:Yw)(hx:RS tN w w.heap.size (.slice A2 n2 c2) ns)(hb:hNS.sz ns<=100000000)
 (hid:Hid (∀x∈ns,∀f∈x.2.2.2,za7 n2 f=true)) :
 Calls Tryz.prog 197 #[.agg #[.int .i64 a0,.slice A1 n1 c1,.slice A2 n2 c2,.slice A3 n3 c3]] w (Ret1 2 w (zbj ns)):=by
 have hl:=Aq hx.cap.1;have hnb:n2<=100000000:=by have e:ns.length+hN.szL ns=hNS.sz ns:=rfl;have:=hl.out;omega
 obtain⟨W,hW⟩:∃W,W=w.alloc (.cells #[.int .i64 a0,.slice A1 n1 c1,.slice A2 n2 c2,.slice A3 n3 c3] 67):=⟨_,rfl⟩;have B0:Below w.heap.size w W:=by rw[hW];exact(Aw _ _).alloc (Aj _) _
 have p2:W.cell? ⟨w.heap.size,2,none⟩=some (.slice A2 n2 c2):=by rw[hW];simp[go_sem]
 have lW:w.heap.size<W.heap.size:=by rw[hW];simp
 have HW:=Aq hW;clear hW
 go_enter Tryz.func197,Tryz.ntmps197
 go_wp2_with (at_make;rw[<-HW.out];refine zhm zm8 rfl _ _ rfl n2 _ _ rfl rfl rfl rfl (by omega) (by unfold maxLen;omega) ?_;intro w1 own1 bel1);have hs1:W.heap.size<w1.heap.size:=(Gq own1 _ rfl).2
 have owt:OA ebl 4 1 W.heap.size (W.heap.size+1) w1 (.slice (some ⟨W.heap.size,0,none⟩) n2 n2) (M.tk n2 []):=by
  rw[zsr];exact OA.made zfn (by decide) rfl own1 (fun k hk=>by simp only[Value.ownBlock,Dq]at hk;omega)
 have q2:w1.cell? ⟨w.heap.size,2,none⟩=some (.slice A2 n2 c2):=by rw[bel1.cell (by show w.heap.size<W.heap.size;omega)];exact p2
 have B1:=zaa B0 bel1;have O0:OI 2 w1.heap.size (w1.alloc (.cells #[] 2)) (.slice (some ⟨w1.heap.size,0,none⟩) 0 0) []:=OI.made _ w1;have B2:Below w.heap.size w (w1.alloc (.cells #[] 2)):=B1.alloc B1.size _;have M2:Below w1.heap.size w1 (w1.alloc (.cells #[] 2)):=(Aw _ _).alloc (Aj _) _;have owt2:=owt.below M2 (by omega);have q22:(w1.alloc (.cells #[] 2)).cell? ⟨w.heap.size,2,none⟩=some (.slice A2 n2 c2):=by rw[M2.cell (by show w.heap.size<w1.heap.size;omega)];exact q2
 have hz2:w1.heap.size<=(w1.alloc (.cells #[] 2)).heap.size:=M2.size;clear own1 bel1 p2 owt q2 M2
 go_loopw [4,5] (fun v f wr=>∃(t:Nat) (O:List Int),t<=n2/\Hid (O=zaw ns t)/\Hid (O.length=t)/\OI 2 w1.heap.size wr v O/\OA ebl 4 1 W.heap.size (W.heap.size+1) wr (.slice (some ⟨W.heap.size,0,none⟩) n2 n2) (M.tk n2 O)/\Below w.heap.size w wr/\wr.cell? ⟨w.heap.size,2,none⟩=some (.slice A2 n2 c2)/\w1.heap.size<=wr.heap.size/\(f=.bool true\/(f=.bool false/\Hid (zbj ns=O)))) (fun v f _=>2*(n2-zg8 v)+bN f)
 case atStart=>exact⟨0,[],by omega,Aq rfl,Aq rfl,O0,owt2,B2,q22,hz2,.inl rfl⟩
 case round=>
  obtain⟨t,O,ht,HO,HL,own,owk,Bw,r2,hwz,hor⟩:=hrel;obtain⟨A5,c5,rfl,hri⟩:=own.shape;rw[HL.out]at own hri ⊢;rcases hor with rfl|⟨rfl,HR⟩
  ·go_wp2_with fail;obtain⟨wo,rfl⟩:∃wo:Yw,wo=wr:=⟨_,rfl⟩
   go_loopw [4,5,20] (fun v f i wr=>∃k:Nat,v=.slice A5 t c5/\f=.bool false/\i=.int .i64 k/\k<=n2/\Hid (∀j,j<k->zdv ns O j=false)/\Below wo.heap.size wo wr) (fun _ _ i _=>n2-(intOf i).toNat)
   case atStart=>exact⟨0,rfl,rfl,rfl,by omega,Aq (by omega),Aw _ _⟩
   case round=>
    obtain⟨k,rfl,rfl,rfl,hk,H,Bo⟩:=hrel;have BB:=zaa Bw Bo;have lo0:w.heap.size<wo.heap.size:=by omega
    by_cases hlt:k<n2
    ·obtain⟨bb,o1,b0,b1,b2,A6,c6,x3,rfl,hbb,X,e0,e1,e2,e3,hr3,h3b⟩:=zfl (hx.below BB) hb hlt;have hrdy:=Aq (zkh (out:=O) X.out);obtain⟨U,hU⟩:∃U,U=wr.alloc (.cells #[.int .i64 b0,.int .i64 b1,.int .i64 b2,.slice A6 x3.length c6] 169):=⟨_,rfl⟩;have GU:Below wr.heap.size wr U:=(by rw[hU];exact(Aw _ _).alloc (Aj _) _);have u0:U.cell? ⟨wr.heap.size,0,none⟩=some (.int .i64 b0):=(by rw[hU,cell_of_row _ wr.heap.size 0 _ 169 (0,0) (Df wr _)];rfl);have u1:U.cell? ⟨wr.heap.size,1,none⟩=some (.int .i64 b1):=(by rw[hU,cell_of_row _ wr.heap.size 1 _ 169 (0,0) (Df wr _)];rfl);have u2:U.cell? ⟨wr.heap.size,2,none⟩=some (.int .i64 b2):=(by rw[hU,cell_of_row _ wr.heap.size 2 _ 169 (0,0) (Df wr _)];rfl);have u3:U.cell? ⟨wr.heap.size,3,none⟩=some (.slice A6 x3.length c6):=(by rw[hU,cell_of_row _ wr.heap.size 3 _ 169 (0,0) (Df wr _)];rfl);have HU:=Aq hU;clear hU;have BoU:=zaa Bo GU;have hrx:=(hr3.more BB.size).later GU;have owU:=(owk.below BoU (by omega));have tc:=(OA.cell zfn (owk.below Bo (by omega)) (zi3 (O:=O) hlt) (j:=0) rfl).1;rw[Nat.mul_one,Nat.add_zero]at tc;have lWr:W.heap.size<wr.heap.size:=(by have:=Bo.size;omega)
     have HF:=Aq (fun f (hf:f∈zax (b0,b1,b2,x3))=>za3.1 (hid.out _ (Eg X.out) f (by
      rw[zax]at hf
      split at hf
      ·cases hf
      exact hf)))
     have hwl:(zax (b0,b1,b2,x3)).length<=1000000000:=(by unfold zax;split <;> simp <;> omega);have HK:=Aq (show zab ns k=(b0,b1,b2,x3)by rw[zab,X.out];rfl);generalize hws:zax (b0,b1,b2,x3)=ws at hrdy HF hwl;have HWS:=Aq hws;clear hws;have hk0:(0:Int)<=(k:Int):=(by omega);have hkn:(k:Int)<(n2:Int):=(by omega);go_wp2_with fail;rw[<-HU.out];refine(zsp _ _ _ _ _ _ U hrx).mono ?_;rw[HWS.out];rintro e w4 ⟨A7,c7,rfl,hr7,bel4⟩;have ow4:=owU.below bel4 (by have:=BoU.size;omega);go_wp2_with fail
     go_loop [8,33] (fun r i=>∃(q:Nat) (b:Bool),i=.int .i64 q/\q<=ws.length/\r=.bool b/\Hid ((!zam O k&&ws.all (zam O))=(b&&(ws.drop q).all (zam O)))) (fun _ i=>ws.length-(intOf i).toNat)
     case atStart=>exact⟨0,_,rfl,by omega,rfl,Aq (by simp)⟩
     case round=>
      obtain⟨q,b,rfl,hq,rfl,HQ⟩:=hrel
      by_cases hlt2:q<ws.length
      ·obtain⟨ad,f,rfl,hab,Y,hc⟩:=hr7.at hlt2;have hd:=Aq (M.drop_at Y.out);have hfb:=HF.out f (Eg Y.out);obtain⟨m,rfl⟩:∃m:Nat,f=(m:Int):=⟨f.toNat,by omega⟩;have hm:m<n2:=(by omega);have tm:=(OA.cell zfn ow4 (zi3 (O:=O) hm) (j:=0) rfl).1;rw[Nat.mul_one,Nat.add_zero]at tm;have hm0:(0:Int)<=(m:Int):=(by omega);have hmn:(m:Int)<(n2:Int):=(by omega);cases b
       ·have R:=Aq (show (!zam O k&&ws.all (zam O))=(false&&(ws.drop (q+1)).all (zam O))by rw[HQ.out,Ez,Ez]);go_wp2;go_round
        case rel=>exact⟨q+1,false,by go_num,by omega,rfl,R⟩
        case measure=>simp[intOf];omega
       have R:=Aq (show (!zam O k&&ws.all (zam O))=(zam O m&&(ws.drop (q+1)).all (zam O))by rw[HQ.out,hd.out,Dv,Ew]);go_wp2;go_round
       case rel=>exact⟨q+1,_,by go_num,by omega,rfl,R⟩
       case measure=>simp[intOf];omega
      have HB:=Aq (show zdv ns O k=b by rw[hrdy.out,HQ.out,Ej (by omega)];simp);have B4:=zaa BoU bel4;have BW4:=zaa Bw B4;cases b
      ·go_wp2;go_roundw
       case rel=>exact⟨k+1,rfl,rfl,by go_num,by omega,Aq (fun j hj=>by rcases Nat.lt_succ_iff_lt_or_eq.1 hj with h|h;exact H.out j h;rw[h];exact HB.out),B4⟩
       case measure=>simp[intOf];omega
      have HN:=Aq (show O++[(k:Int)]=zaw ns (t+1)by
       have e:=zmg (ns:=ns) (out:=O) (i:=k) (by rw[hl.out];exact hlt) HB.out H.out;rw[zkg (i:=k) (by rw[<-HO.out];exact e),<-HO.out])
      have HL2:=Aq (show (O++[(k:Int)]).length=t+1 by rw[Cw,HL.out];rfl)
      have htn:t+1<=n2:=by
       have:=zrn ns (t+1);rw[<-HN.out,HL2.out,hl.out]at this;exact this
      have tkk:=(OA.cell zfn ow4 (zi3 (O:=O) hlt) (j:=0) rfl);rw[Nat.mul_one,Nat.add_zero]at tkk;have tk1:=tkk.1;have tk2:=tkk.2;obtain⟨ows,ms⟩:=OA.set zfn ow4 (zi3 (O:=O) hlt) (j:=0) (y:=true) (u:=.bool true) (by decide) rfl;rw[show k*1+0=k by omega,zsq]at ows;rw[show k*1+0=k by omega]at ms;have own4:=own.below B4
      have own5:OI 2 w1.heap.size (w4.setCell ⟨W.heap.size,k,none⟩ (.bool true)) (.slice A5 t c5) O:=by
       unfold OI at own4 ⊢
       exact World.ownsRow.kept own4 (zc0 _ _ _ _) (by
        cases hv:(Value.slice A5 t c5).ownBlock with
        | none=>exact .inl rfl
        | some g=>
         refine .inr fun e=>?_
         injection e with e
         have:=(Gq own4 g hv).1;omega)
      have BS:Below w.heap.size w4 (w4.setCell ⟨W.heap.size,k,none⟩ (.bool true)):=(ms.toBelow (by have:=B4.size;omega)).mono (by omega)
      have r5:(w4.setCell ⟨W.heap.size,k,none⟩ (.bool true)).cell? ⟨w.heap.size,2,none⟩=some (.slice (some ⟨bb,o1,none⟩) n2 c2):=by
       rw[(ms.toBelow (by have:=B4.size;omega)).cell (p:=⟨w.heap.size,2,none⟩) (by show w.heap.size<W.heap.size;omega),B4.cell (p:=⟨w.heap.size,2,none⟩) lo0];exact r2
      have hOl:O.length<=t:=(by rw[HL.out];omega);have hOl2:t<=O.length:=(by rw[HL.out];omega);have hz5:w1.heap.size<=(w4.setCell ⟨W.heap.size,k,none⟩ (.bool true)).heap.size:=(by have:=B4.size;simp;omega);obtain⟨V,hV⟩:∃V,V=w4.setCell ⟨W.heap.size,k,none⟩ (.bool true):=⟨_,rfl⟩;have HV:=Aq hV;have hvz:V.heap.size=w4.heap.size:=(by rw[hV];simp);rw[<-hV]at ows own5 BS r5 hz5;clear hV ms own4;go_wp2_with (at_builtin;rw[<-HV.out];refine zf5 zbu rfl _ _ rfl own5 rfl (by rw[hvz];rfl) rfl (by unfold maxLen;omega) (by omega) hz5 ?_;intro v1 w6 own6 gr6 bel6);go_roundw
      case rel=>exact⟨t+1,O++[(k:Int)],htn,HN,HL2,OI.push own6,(ows.same (fun b h1 h2=>bel6.block b (by omega))),(BW4.trans BS).trans (bel6.mono (by omega)),by rw[bel6.cell (p:=⟨w.heap.size,2,none⟩) (by show w.heap.size<w1.heap.size;omega)];exact r5,by have:=bel6.size;omega,.inl rfl⟩
      case measure=>obtain⟨A9,c9,rfl,-⟩:=(OI.push own6).shape;rw[HL2.out];simp[zg8,bN];omega
    have hno:=zmh (ns:=ns) (out:=O) (fun j hj=>H.out j (by rw[hl.out]at hj;omega));have HR:=Aq (show zbj ns=O by rw[HO.out];exact zmi (by rw[hl.out];exact ht) (by rw[<-HO.out];exact hno));have r3:wr.cell? ⟨w.heap.size,2,none⟩=some (.slice A2 n2 c2):=(by rw[Bo.cell (p:=⟨w.heap.size,2,none⟩) lo0];exact r2);have own3:=own.below Bo;have owk3:=owk.below Bo (by omega);have hz3:=Bo.size;clear hno;go_wp2;go_roundw
    case rel=>exact⟨t,O,ht,HO,HL,own3,owk3,BB,r3,by omega,.inr ⟨rfl,HR⟩⟩
    case measure=>simp[zg8,bN]
  go_wp2;go_ret;rw[HR.out];rw[<-HL.out]at own ⊢;exact⟨_,rfl,own.base (by omega),Bw⟩
set_option synthInstance.maxSize 2000
set_option synthInstance.maxHeartbeats 400000
theorem zna(a0:Int)(A1:Yo)(n1 c1:Nat)(A2:Yo)(n2 c2:Nat)(A3:Yo)(n3 c3:Nat)(x1:List (List Int))(x2:List Node)(x3:List Int)(w:Yw)(h1:tSS.R w w.heap.size [.slice A1 n1 c1] x1)(h2:tNS.R w w.heap.size [.slice A2 n2 c2] x2)(h3:tS.R w w.heap.size [.slice A3 n3 c3] x3)(hn:hP.sz ((a0,x1,x2,x3):zae)<=100000000):
 Calls Tryz.prog 196 #[.agg #[.int .i64 a0,.slice A1 n1 c1,.slice A2 n2 c2,.slice A3 n3 c3]] w fun e w'=>e=.returned (.bool (za4 (a0,x1,x2,x3)))/\Below w.heap.size w w':=by
 obtain⟨W,hW⟩:∃W,W=w.alloc (.cells #[.int .i64 a0,.slice A1 n1 c1,.slice A2 n2 c2,.slice A3 n3 c3] 67):=⟨_,rfl⟩;have B0:Below w.heap.size w W:=by rw[hW];exact(Aw _ _).alloc (Aj _) _
 have p0:W.cell? ⟨w.heap.size,0,none⟩=some (.int .i64 a0):=by rw[hW];simp[go_sem]
 have p1:W.cell? ⟨w.heap.size,1,none⟩=some (.slice A1 n1 c1):=by rw[hW];simp[go_sem]
 have p2:W.cell? ⟨w.heap.size,2,none⟩=some (.slice A2 n2 c2):=by rw[hW];simp[go_sem]
 have p3:W.cell? ⟨w.heap.size,3,none⟩=some (.slice A3 n3 c3):=by rw[hW];simp[go_sem]
 have lx:w.heap.size<W.heap.size:=by rw[hW];simp
 have HW:=Aq hW;clear hW;have k1:=tSS.later h1 B0;have k2:=tNS.later h2 B0;have k3:=tS.later h3 B0;have r1:=sl_R.1 k1;have r2:=sl_R.1 k2;have hx3:=(tS_R.1 k3).ri;have L1:=Aq r1.cap.1;have L2:=Aq r2.cap.1;have L3:=Aq (zcu h3);have hnn:=hn;rw[zea,zb3]at hnn;have hb2:hNS.sz x2<=100000000:=by omega
 have hq1:x1.length+hS.szL x1=hSS.sz x1:=rfl
 have hb1:Hid (∀x∈x1,x.length<=1000000000):=Aq (fun x hx=>by
  obtain⟨i,hi⟩:=Fk hx;have:=hS.szL_at hi;rw[zb3]at this;omega)
 have bn1:n1<=100000000:=by have:=L1.out;omega
 have bn2:n2<=100000000:=by have e:x2.length+hN.szL x2=hNS.sz x2:=rfl;have:=L2.out;omega
 have bn3:n3<=100000000:=by have:=L3.out;omega
 clear hnn hq1;clear hn h1 h2 h3 k1 k2 k3;cases g0:M.inn a0 0 4
 ·have R:=Aq (show za4 (a0,x1,x2,x3)=false by rw[za4];simp only[L1.out,L2.out,L3.out,g0,Ez,Ev,Ew]);have G0:=Aq g0;clear g0
  go_enter Tryz.func196,Tryz.ntmps196
  go_wp2_with fail;rw[<-HW.out];go_wp2_with (first|(go_at_call 150;refine(zfm _ _ _ _).mono ?_;rintro e w' ⟨rfl,rfl⟩)|(go_at_call 169;refine(zb2 _ _ _ _).mono ?_;rintro e w' ⟨rfl,rfl⟩)|(go_at_call 81;refine(zav _ _ _ _).mono ?_;rw[G0.out];rintro e w' ⟨rfl,rfl⟩));go_ret;exact⟨zac (by rw[R.out]),B0⟩
 have G0:=Aq g0;clear g0;cases g1:zbr x1
 ·have R:=Aq (show za4 (a0,x1,x2,x3)=false by rw[za4];simp only[L1.out,L2.out,L3.out,G0.out,g1,Ez,Ev,Ew]);have G1:=Aq g1;clear g1
  go_enter Tryz.func196,Tryz.ntmps196
  go_wp2_with fail;rw[<-HW.out];go_wp2_with (first|(go_at_call 150;refine(zfm _ _ _ _).mono ?_;rintro e w' ⟨rfl,rfl⟩)|(go_at_call 169;refine(zb2 _ _ _ _).mono ?_;rintro e w' ⟨rfl,rfl⟩)|(go_at_call 81;refine(zav _ _ _ _).mono ?_;rw[G0.out];rintro e w' ⟨rfl,rfl⟩)|(go_at_call 234;refine(zh4 _ _ _ _ _ r1 hb1 (by omega)).mono ?_;rw[G1.out];rintro e w' ⟨rfl,rfl⟩));go_ret;exact⟨zac (by rw[R.out]),B0⟩
 have G1:=Aq g1;clear g1
 by_cases g2:¬n2<=24
 ·have R:=Aq (show za4 (a0,x1,x2,x3)=false by rw[za4];simp only[L1.out,L2.out,L3.out,G0.out,G1.out,Dz g2,Ez,Ev,Ew])
  go_enter Tryz.func196,Tryz.ntmps196
  go_wp2_with fail;rw[<-HW.out];go_wp2_with (first|(go_at_call 150;refine(zfm _ _ _ _).mono ?_;rintro e w' ⟨rfl,rfl⟩)|(go_at_call 169;refine(zb2 _ _ _ _).mono ?_;rintro e w' ⟨rfl,rfl⟩)|(go_at_call 81;refine(zav _ _ _ _).mono ?_;rw[G0.out];rintro e w' ⟨rfl,rfl⟩)|(go_at_call 234;refine(zh4 _ _ _ _ _ r1 hb1 (by omega)).mono ?_;rw[G1.out];rintro e w' ⟨rfl,rfl⟩));go_ret;exact⟨zac (by rw[R.out]),B0⟩
 replace g2:n2<=24:=Dy.1 g2
 by_cases g3:¬n3<=4
 ·have R:=Aq (show za4 (a0,x1,x2,x3)=false by rw[za4];simp only[L1.out,L2.out,L3.out,G0.out,G1.out,Dx g2,Dz g3,Ez,Ev,Ew])
  go_enter Tryz.func196,Tryz.ntmps196
  go_wp2_with fail;rw[<-HW.out];go_wp2_with (first|(go_at_call 150;refine(zfm _ _ _ _).mono ?_;rintro e w' ⟨rfl,rfl⟩)|(go_at_call 169;refine(zb2 _ _ _ _).mono ?_;rintro e w' ⟨rfl,rfl⟩)|(go_at_call 81;refine(zav _ _ _ _).mono ?_;rw[G0.out];rintro e w' ⟨rfl,rfl⟩)|(go_at_call 234;refine(zh4 _ _ _ _ _ r1 hb1 (by omega)).mono ?_;rw[G1.out];rintro e w' ⟨rfl,rfl⟩));go_ret;exact⟨zac (by rw[R.out]),B0⟩
 replace g3:n3<=4:=Dy.1 g3;cases g4:x3.all (za7 n2)
 ·have R:=Aq (show za4 (a0,x1,x2,x3)=false by rw[za4];simp only[L1.out,L2.out,L3.out,G0.out,G1.out,Dx g2,Dx g3,g4,Ez,Ev,Ew]);have G4:=Aq g4;clear g4
  go_enter Tryz.func196,Tryz.ntmps196
  go_wp2_with fail;rw[<-HW.out];go_wp2_with (first|(go_at_call 150;refine(zfm _ _ _ _).mono ?_;rintro e w' ⟨rfl,rfl⟩)|(go_at_call 169;refine(zb2 _ _ _ _).mono ?_;rintro e w' ⟨rfl,rfl⟩)|(go_at_call 81;refine(zav _ _ _ _).mono ?_;rw[G0.out];rintro e w' ⟨rfl,rfl⟩)|(go_at_call 234;refine(zh4 _ _ _ _ _ r1 hb1 (by omega)).mono ?_;rw[G1.out];rintro e w' ⟨rfl,rfl⟩)|(go_at_call 84;refine(zf9 _ _ _ _ _ _ hx3 (by omega) (by omega)).mono ?_;rw[G4.out];rintro e w' ⟨rfl,rfl⟩));go_ret;exact⟨zac (by rw[R.out]),B0⟩
 have G4:=Aq g4;clear g4;have HF:=Aq (show za4 (a0,x1,x2,x3)=x2.all (zbi n1 n2 a0)by rw[za4];simp only[L1.out,L2.out,L3.out,G0.out,G1.out,Dx g2,Dx g3,G4.out,Ew])
 go_enter Tryz.func196,Tryz.ntmps196
 go_wp2_with fail;rw[<-HW.out];go_wp2_with (first|(go_at_call 150;refine(zfm _ _ _ _).mono ?_;rintro e w' ⟨rfl,rfl⟩)|(go_at_call 169;refine(zb2 _ _ _ _).mono ?_;rintro e w' ⟨rfl,rfl⟩)|(go_at_call 81;refine(zav _ _ _ _).mono ?_;rw[G0.out];rintro e w' ⟨rfl,rfl⟩)|(go_at_call 234;refine(zh4 _ _ _ _ _ r1 hb1 (by omega)).mono ?_;rw[G1.out];rintro e w' ⟨rfl,rfl⟩)|(go_at_call 84;refine(zf9 _ _ _ _ _ _ hx3 (by omega) (by omega)).mono ?_;rw[G4.out];rintro e w' ⟨rfl,rfl⟩))
 go_loopw [39] (fun i wr=>∃k:Nat,i=.int .i64 k/\k<=n2/\Hid (x2.all (zbi n1 n2 a0)=(x2.drop k).all (zbi n1 n2 a0))/\Below W.heap.size W wr) (fun i _=>n2-(intOf i).toNat)
 case atStart=>exact⟨0,rfl,by omega,Aq (by simp),Aw _ _⟩
 case round=>
  obtain⟨k,rfl,hk,H,Bw⟩:=hrel;have BW:=zaa B0 Bw
  by_cases hlt:k<n2
  ·obtain⟨bb,o1,b0,b1,b2,A5,c5,y3,rfl,hbb,X,e0,e1,e2,e3,hr3,h3b⟩:=zfl (r2.below Bw) hb2 hlt;have hd:=Aq (M.drop_at X.out);obtain⟨U,hU⟩:∃U,U=wr.alloc (.cells #[.int .i64 b0,.int .i64 b1,.int .i64 b2,.slice A5 y3.length c5] 169):=⟨_,rfl⟩;have GU:Below wr.heap.size wr U:=(by rw[hU];exact(Aw _ _).alloc (Aj _) _);have u0:U.cell? ⟨wr.heap.size,0,none⟩=some (.int .i64 b0):=(by rw[hU,cell_of_row _ wr.heap.size 0 _ 169 (0,0) (Df wr _)];rfl);have u1:U.cell? ⟨wr.heap.size,1,none⟩=some (.int .i64 b1):=(by rw[hU,cell_of_row _ wr.heap.size 1 _ 169 (0,0) (Df wr _)];rfl);have u2:U.cell? ⟨wr.heap.size,2,none⟩=some (.int .i64 b2):=(by rw[hU,cell_of_row _ wr.heap.size 2 _ 169 (0,0) (Df wr _)];rfl);have u3:U.cell? ⟨wr.heap.size,3,none⟩=some (.slice A5 y3.length c5):=(by rw[hU,cell_of_row _ wr.heap.size 3 _ 169 (0,0) (Df wr _)];rfl);have BU:=zaa Bw GU;have q0:U.cell? ⟨w.heap.size,0,none⟩=some (.int .i64 a0):=(by rw[BU.cell lx];exact p0);have q1:U.cell? ⟨w.heap.size,1,none⟩=some (.slice A1 n1 c1):=(by rw[BU.cell lx];exact p1);have q2:U.cell? ⟨w.heap.size,2,none⟩=some (.slice (some ⟨bb,o1,none⟩) n2 c2):=(by rw[BU.cell lx];exact p2);have HU:=Aq hU;clear hU;have hry:=(hr3.more Bw.size).later GU;have hk0:(0:Int)<=(k:Int):=(by omega);have hkn:(k:Int)<(n2:Int):=(by omega);have uu0:=Ag u0;have uu1:=Ag u1;have uu2:=Ag u2;have uu3:=Ag u3;have qq0:=Ag q0;have qq1:=Ag q1;have qq2:=Ag q2;have cS:∀d os,Calls Tryz.prog 88 #[.slice A1 n1 c1] (grow (redrawn U d) os) fun e w''=>e=.returned (.int .i64 n1)/\∃p:Regrown,w''=grow (redrawn U p.d) p.os:=fun d os=>Fw (zg6 (zmw _ _ _ _))
   have cN:∀d os,Calls Tryz.prog 235 #[.agg #[.int .i64 b0,.int .i64 b1,.int .i64 b2,.slice A5 y3.length c5],.int .i64 n1] (grow (redrawn U d) os) fun e w''=>e=.returned (.bool (zaj (b0,b1,b2,y3) n1))/\∃p:Regrown,w''=grow (redrawn U p.d) p.os:=fun d os=>Fw (zso _ _ _ _ _ _ _ _ _ (hry.later (Cf U d os)) (by omega))
   have cI:∀d os,Calls Tryz.prog 84 #[.slice A5 y3.length c5,.int .i64 n2] (grow (redrawn U d) os) fun e w''=>e=.returned (.bool (y3.all (za7 n2)))/\∃p:Regrown,w''=grow (redrawn U p.d) p.os:=fun d os=>Fw (zg6 (zf9 _ _ _ _ _ _ (hry.later (Cf U d os)) (by omega) (by omega)))
   have fin:=fun d os=>zaa BW (zaa GU (Cf U d os))
   clear u0 u1 u2 u3 q0 q1 q2;cases hok:zaj (b0,b1,b2,y3) n1
   ·have R:=Aq (show za4 (a0,x1,x2,x3)=false by rw[HF.out,H.out,hd.out,Dv,zbi];simp only[hok,Ez,Ev,Ew,Bool.not_true,Bool.not_false,Bool.and_self]);rw[hok]at cN;clear hok;go_wp2_with fail;rw[<-HU.out];clear e0 e1 e2 e3
    (refine Ck (by kernel_rfl) (by kernel_rfl) ?_;(repeat (go_big_quiet_step ((first|exact cS _ _|exact cN _ _|exact cI _ _))));refine Cv ?_;intro _ hw';obtain⟨⟨dq,osq⟩,hw''⟩:=hw';subst hw'')
    go_wp2;go_ret;exact⟨zac (by rw[R.out]),fin dq osq⟩
   rw[hok]at cN;have HK:=Aq hok;clear hok;cases hid:y3.all (za7 n2)
   ·have R:=Aq (show za4 (a0,x1,x2,x3)=false by rw[HF.out,H.out,hd.out,Dv,zbi];simp only[HK.out,hid,Ez,Ev,Ew,Bool.not_true,Bool.not_false,Bool.and_self]);rw[hid]at cI;clear hid;go_wp2_with fail;rw[<-HU.out];clear e0 e1 e2 e3
    (refine Ck (by kernel_rfl) (by kernel_rfl) ?_;(repeat (go_big_quiet_step ((first|exact cS _ _|exact cN _ _|exact cI _ _))));refine Cv ?_;intro _ hw';obtain⟨⟨dq,osq⟩,hw''⟩:=hw';subst hw'')
    go_wp2;go_ret;exact⟨zac (by rw[R.out]),fin dq osq⟩
   rw[hid]at cI;have HI:=Aq hid;clear hid
   by_cases hb0:b0=1
   ·by_cases hin:a0<=b1
    ·have R:=Aq (show za4 (a0,x1,x2,x3)=false by rw[HF.out,H.out,hd.out,Dv,zbi];simp only[HK.out,HI.out,Dx hb0,Dx hin,Ez,Ev,Ew,Bool.not_true,Bool.not_false,Bool.and_self]);subst hb0;go_wp2_with fail;rw[<-HU.out];clear e0 e1 e2 e3
     (refine Ck (by kernel_rfl) (by kernel_rfl) ?_;(repeat (go_big_quiet_step ((first|exact cS _ _|exact cN _ _|exact cI _ _))));refine Cv ?_;intro _ hw';obtain⟨⟨dq,osq⟩,hw''⟩:=hw';subst hw'')
     go_wp2;go_ret;exact⟨zac (by rw[R.out]),fin dq osq⟩
    have R:=Aq (show x2.all (zbi n1 n2 a0)=(x2.drop (k+1)).all (zbi n1 n2 a0)by rw[H.out,hd.out,Dv,zbi];simp only[HK.out,HI.out,Dx hb0,Dz hin,Ev,Bool.not_false,Bool.and_self,Ew]);have hna:¬b1≥a0:=hin;subst hb0;go_wp2_with fail;rw[<-HU.out];clear e0 e1 e2 e3
    (refine Ck (by kernel_rfl) (by kernel_rfl) ?_;(repeat (go_big_quiet_step ((first|exact cS _ _|exact cN _ _|exact cI _ _))));refine Cv ?_;intro _ hw';obtain⟨⟨dq,osq⟩,hw''⟩:=hw';subst hw'')
    go_wp2;go_roundw
    case rel=>exact⟨k+1,by go_num,by omega,R,zaa Bw (zaa GU (Cf U dq osq))⟩
    case measure=>simp[intOf];omega
   have R:=Aq (show x2.all (zbi n1 n2 a0)=(x2.drop (k+1)).all (zbi n1 n2 a0)by rw[H.out,hd.out,Dv,zbi];simp only[HK.out,HI.out,Dz hb0,Ez,Bool.not_false,Bool.and_self,Ew]);have gb0:(b0 == 1)=false:=(by simpa using hb0);go_wp2_with fail;rw[<-HU.out];clear e0 e1 e2 e3
   (refine Ck (by kernel_rfl) (by kernel_rfl) ?_;(repeat (go_big_quiet_step ((first|exact cS _ _|exact cN _ _|exact cI _ _))));refine Cv ?_;intro _ hw';obtain⟨⟨dq,osq⟩,hw''⟩:=hw';subst hw'')
   go_wp2;go_roundw
   case rel=>exact⟨k+1,by go_num,by omega,R,zaa Bw (zaa GU (Cf U dq osq))⟩
   case measure=>simp[intOf];omega
  have R:=Aq (show za4 (a0,x1,x2,x3)=true by rw[HF.out,H.out,Ej (by rw[L2.out];omega)];rfl);go_wp2;go_ret;exact⟨zac (by rw[R.out]),BW⟩
theorem zh5(a0:Int)(A1:Yo)(n1 c1:Nat)(A2:Yo)(n2 c2:Nat)(A3:Yo)(n3 c3:Nat)(x1:List (List Int))(x2:List Node)(x3:List Int)(w:Yw)(h1:tSS.R w w.heap.size [.slice A1 n1 c1] x1)(h2:tNS.R w w.heap.size [.slice A2 n2 c2] x2)(h3:tS.R w w.heap.size [.slice A3 n3 c3] x3)(hn:hP.sz ((a0,x1,x2,x3):zae)<=100000000):
 Calls Tryz.prog 145 #[.agg #[.int .i64 a0,.slice A1 n1 c1,.slice A2 n2 c2,.slice A3 n3 c3]] w fun e w'=>e=.returned (.bool (zce (a0,x1,x2,x3)))/\Below w.heap.size w w':=by
 obtain⟨W,hW⟩:∃W,W=w.alloc (.cells #[.int .i64 a0,.slice A1 n1 c1,.slice A2 n2 c2,.slice A3 n3 c3] 67):=⟨_,rfl⟩;have B0:Below w.heap.size w W:=by rw[hW];exact(Aw _ _).alloc (Aj _) _
 have p0:W.cell? ⟨w.heap.size,0,none⟩=some (.int .i64 a0):=by rw[hW];simp[go_sem]
 have p1:W.cell? ⟨w.heap.size,1,none⟩=some (.slice A1 n1 c1):=by rw[hW];simp[go_sem]
 have p2:W.cell? ⟨w.heap.size,2,none⟩=some (.slice A2 n2 c2):=by rw[hW];simp[go_sem]
 have p3:W.cell? ⟨w.heap.size,3,none⟩=some (.slice A3 n3 c3):=by rw[hW];simp[go_sem]
 have lx:w.heap.size<W.heap.size:=by rw[hW];simp
 have HW:=Aq hW;clear hW;have k1:=tSS.later h1 B0;have k2:=tNS.later h2 B0;have k3:=tS.later h3 B0;have r1:=sl_R.1 k1;have r2:=sl_R.1 k2;have hx3:=(tS_R.1 k3).ri;have L1:=Aq r1.cap.1;have L2:=Aq r2.cap.1;have L3:=Aq (zcu h3);have hnn:=hn;rw[zea,zb3]at hnn;have hb2:hNS.sz x2<=100000000:=by omega
 have hq1:x1.length+hS.szL x1=hSS.sz x1:=rfl
 have hb1:Hid (∀x∈x1,x.length<=1000000000):=Aq (fun x hx=>by
  obtain⟨i,hi⟩:=Fk hx;have:=hS.szL_at hi;rw[zb3]at this;omega)
 have bn1:n1<=100000000:=by have:=L1.out;omega
 have bn2:n2<=100000000:=by have e:x2.length+hN.szL x2=hNS.sz x2:=rfl;have:=L2.out;omega
 have bn3:n3<=100000000:=by have:=L3.out;omega
 clear hnn hq1;have D1:Below W.heap.size W W.drew:=zad (Aw _ _) 1;have hsd:W.drew.heap.size=W.heap.size:=rfl;cases g0:za4 (a0,x1,x2,x3)
 ·have R:=Aq (show zce (a0,x1,x2,x3)=false by rw[zce,g0];rfl);have cF:∀d os,Calls Tryz.prog 196 #[.agg #[.int .i64 a0,.slice A1 n1 c1,.slice A2 n2 c2,.slice A3 n3 c3]] (grow (redrawn W d) os) fun e w''=>e=.returned (.bool false)/\∃p:Regrown,w''=grow (redrawn W p.d) p.os:=fun d os=>Fw (by rw[<-g0];exact zna _ _ _ _ _ _ _ _ _ _ _ _ _ _ (tSS.later k1 (Cf W d os)) (tNS.later k2 (Cf W d os)) (tS.later k3 (Cf W d os)) hn)
  have qq0:=Ag p0;have qq1:=Ag p1;have qq2:=Ag p2;have qq3:=Ag p3;clear p0 p1 p2 p3 g0 h1 h2 h3
  go_enter Tryz.func145,Tryz.ntmps145
  go_wp2_with fail;rw[<-HW.out]
  (refine Ck (by kernel_rfl) (by kernel_rfl) ?_;(repeat (go_big_quiet_step (exact cF _ _)));refine Cv ?_;intro _ hw';obtain⟨⟨dq,osq⟩,hw''⟩:=hw';subst hw'')
  go_wp2;go_ret;exact⟨zac (by rw[R.out]),zaa B0 (Cf W dq osq)⟩
 have G0:=Aq g0;have R:=Aq (show zce (a0,x1,x2,x3)=decide ((zbj x2).length=n2)by rw[zce,g0,L2.out];rfl)
 have HI:=Aq (show ∀x∈x2,∀f∈x.2.2.2,za7 n2 f=true by
  rw[za4]at g0;simp only[Cx,L2.out]at g0;intro x hx f hf;have h4:=Ef.1 g0.2 x hx;rw[zbi]at h4;simp only[Cx]at h4;exact Ef.1 h4.1.2 f hf)
 clear g0 h1 h2 h3;generalize hO:zbj x2=O at R;have HO:=Aq hO;clear hO;have Dn:∀m,Below W.heap.size W (W.drewN m):=fun m=>zad (Aw _ _) m
 go_enter Tryz.func145,Tryz.ntmps145
 go_wp2_with fail;rw[<-HW.out]
 go_region_with (first
  | (go_at_call 196;refine(zna _ _ _ _ _ _ _ _ _ _ _ _ _ _ (tSS.later k1 D1) (tNS.later k2 D1) (tS.later k3 D1) hn).mono ?_;rw[G0.out];rintro e w2 ⟨rfl,bel2⟩;have G2:=zaa D1 bel2;have s0:w2.cell? ⟨w.heap.size,0,none⟩=some (.int .i64 a0):=(by rw[G2.cell lx];exact p0);have s1:w2.cell? ⟨w.heap.size,1,none⟩=some (.slice A1 n1 c1):=(by rw[G2.cell lx];exact p1);have s2:w2.cell? ⟨w.heap.size,2,none⟩=some (.slice A2 n2 c2):=(by rw[G2.cell lx];exact p2);have s3:w2.cell? ⟨w.heap.size,3,none⟩=some (.slice A3 n3 c3):=(by rw[G2.cell lx];exact p3))
  | (go_at_call 197;refine(zm9 _ _ _ _ _ _ _ _ _ _ _ _ (r2.later G2) hb2 HI).mono ?_;rw[HO.out];rintro e w3 ⟨v,rfl,own,bel3⟩;obtain⟨A9,c9,rfl,-⟩:=own.shape;have G3:=zaa G2 bel3;have s6:w3.cell? ⟨w.heap.size,2,none⟩=some (.slice A2 n2 c2):=(by rw[G3.cell lx];exact p2)))
 all_goals
  go_wp2;go_ret;exact⟨zac (by rw[R.out,Bool.eq_iff_iff];simp;try omega),zaa B0 G3⟩
theorem zga(a0:Int)(A1:Yo)(n1 c1:Nat)(A2:Yo)(n2 c2:Nat)(A3:Yo)(n3 c3:Nat)(x1:List (List Int))(x2:List Node)(x3:List Int)(w:Yw)(h1:tSS.R w w.heap.size [.slice A1 n1 c1] x1)(h2:tNS.R w w.heap.size [.slice A2 n2 c2] x2)(h3:tS.R w w.heap.size [.slice A3 n3 c3] x3)(hn:hP.sz ((a0,x1,x2,x3):zae)<=100000000):
 Calls Tryz.prog 36 #[.agg #[.int .i64 a0,.slice A1 n1 c1,.slice A2 n2 c2,.slice A3 n3 c3]] w fun e w'=>e=.returned (.bool (decide (((a0,x1,x2,x3):zae)=M.p0)))/\Below w.heap.size w w':=by
 obtain⟨W,hW⟩:∃W,W=w.alloc (.cells #[.int .i64 a0,.slice A1 n1 c1,.slice A2 n2 c2,.slice A3 n3 c3] 67):=⟨_,rfl⟩;have B0:Below w.heap.size w W:=by rw[hW];exact(Aw _ _).alloc (Aj _) _
 have p0:W.cell? ⟨w.heap.size,0,none⟩=some (.int .i64 a0):=by rw[hW];simp[go_sem]
 have p1:W.cell? ⟨w.heap.size,1,none⟩=some (.slice A1 n1 c1):=by rw[hW];simp[go_sem]
 have p2:W.cell? ⟨w.heap.size,2,none⟩=some (.slice A2 n2 c2):=by rw[hW];simp[go_sem]
 have p3:W.cell? ⟨w.heap.size,3,none⟩=some (.slice A3 n3 c3):=by rw[hW];simp[go_sem]
 have lx:w.heap.size<W.heap.size:=by rw[hW];simp
 have HW:=Aq hW;clear hW;have k1:=tSS.later h1 B0;have k2:=tNS.later h2 B0;have k3:=tS.later h3 B0;have r1:=sl_R.1 k1;have r2:=sl_R.1 k2;have hx3:=(tS_R.1 k3).ri;have L1:=Aq r1.cap.1;have L2:=Aq r2.cap.1;have L3:=Aq (zcu h3);have hnn:=hn;rw[zea,zb3]at hnn;have hb2:hNS.sz x2<=100000000:=by omega
 have hq1:x1.length+hS.szL x1=hSS.sz x1:=rfl
 have hb1:Hid (∀x∈x1,x.length<=1000000000):=Aq (fun x hx=>by
  obtain⟨i,hi⟩:=Fk hx;have:=hS.szL_at hi;rw[zb3]at this;omega)
 have bn1:n1<=100000000:=by have:=L1.out;omega
 have bn2:n2<=100000000:=by have e:x2.length+hN.szL x2=hNS.sz x2:=rfl;have:=L2.out;omega
 have bn3:n3<=100000000:=by have:=L3.out;omega
 clear hnn hq1;have z1:tSS.R W W.heap.size [.slice none 0 0] ([]:List (List Int)):=⟨_,rfl,RS.nil _ _ _⟩;have z2:tNS.R W W.heap.size [.slice none 0 0] ([]:List Node):=⟨_,rfl,RS.nil _ _ _⟩;have z3:tS.R W W.heap.size [.slice none 0 0] ([]:List Int):=⟨_,rfl,RS.nil _ _ _⟩;have hz:hP.sz ((0,[],[],[]):zae)<=100000000:=by decide
 go_enter Tryz.func36,Tryz.ntmps36
 go_wp2_with fail;rw[<-HW.out];refine(zsb _ _ _ _ _ _ _ _ _ _ _ _ _ _ _ _ _ _ _ _ _ _ _ _ _ _ _ k1 z1 k2 z2 k3 z3 hn hz).mono ?_;rintro e w2 ⟨rfl,bel2⟩;go_wp2;go_ret;exact⟨zac (by rw[Bool.eq_iff_iff,M.p0];simp),zaa B0 bel2⟩
theorem znb(a0:Int)(A1:Yo)(n1 c1:Nat)(A2:Yo)(n2 c2:Nat)(A3:Yo)(n3 c3:Nat)(x1:List (List Int))(x2:List Node)(x3:List Int)(w:Yw)(h1:tSS.R w w.heap.size [.slice A1 n1 c1] x1)(h2:tNS.R w w.heap.size [.slice A2 n2 c2] x2)(h3:tS.R w w.heap.size [.slice A3 n3 c3] x3)(hn:hP.sz ((a0,x1,x2,x3):zae)<=100000000):
 Calls Tryz.prog 89 #[.agg #[.int .i64 a0,.slice A1 n1 c1,.slice A2 n2 c2,.slice A3 n3 c3]] w fun e w'=>e=.returned (.bool (zas (a0,x1,x2,x3)))/\Below w.heap.size w w':=by
 obtain⟨W,hW⟩:∃W,W=w.alloc (.cells #[.int .i64 a0,.slice A1 n1 c1,.slice A2 n2 c2,.slice A3 n3 c3] 67):=⟨_,rfl⟩;have B0:Below w.heap.size w W:=by rw[hW];exact(Aw _ _).alloc (Aj _) _
 have p0:W.cell? ⟨w.heap.size,0,none⟩=some (.int .i64 a0):=by rw[hW];simp[go_sem]
 have p1:W.cell? ⟨w.heap.size,1,none⟩=some (.slice A1 n1 c1):=by rw[hW];simp[go_sem]
 have p2:W.cell? ⟨w.heap.size,2,none⟩=some (.slice A2 n2 c2):=by rw[hW];simp[go_sem]
 have p3:W.cell? ⟨w.heap.size,3,none⟩=some (.slice A3 n3 c3):=by rw[hW];simp[go_sem]
 have lx:w.heap.size<W.heap.size:=by rw[hW];simp
 have HW:=Aq hW;clear hW;have k1:=tSS.later h1 B0;have k2:=tNS.later h2 B0;have k3:=tS.later h3 B0;have r1:=sl_R.1 k1;have r2:=sl_R.1 k2;have hx3:=(tS_R.1 k3).ri;have L1:=Aq r1.cap.1;have L2:=Aq r2.cap.1;have L3:=Aq (zcu h3);have hnn:=hn;rw[zea,zb3]at hnn;have hb2:hNS.sz x2<=100000000:=by omega
 have hq1:x1.length+hS.szL x1=hSS.sz x1:=rfl
 have hb1:Hid (∀x∈x1,x.length<=1000000000):=Aq (fun x hx=>by
  obtain⟨i,hi⟩:=Fk hx;have:=hS.szL_at hi;rw[zb3]at this;omega)
 have bn1:n1<=100000000:=by have:=L1.out;omega
 have bn2:n2<=100000000:=by have e:x2.length+hN.szL x2=hNS.sz x2:=rfl;have:=L2.out;omega
 have bn3:n3<=100000000:=by have:=L3.out;omega
 clear hnn hq1;cases g0:decide (((a0,x1,x2,x3):zae)=M.p0)
 ·have G0:=Aq g0;cases g1:zce (a0,x1,x2,x3)
  ·have G1:=Aq g1;have R:=Aq (show zas (a0,x1,x2,x3)=false by rw[zas,g0,g1];rfl);clear g0 g1
   go_enter Tryz.func89,Tryz.ntmps89
   go_wp2_with fail;rw[<-HW.out]
   go_wp2_with (first
    | (go_at_call 36;refine(zga _ _ _ _ _ _ _ _ _ _ _ _ _ _ k1 k2 k3 hn).mono ?_;rw[G0.out];rintro e w2 ⟨rfl,bel2⟩;have s0:w2.cell? ⟨w.heap.size,0,none⟩=some (.int .i64 a0):=(by rw[bel2.cell lx];exact p0);have s1:w2.cell? ⟨w.heap.size,1,none⟩=some (.slice A1 n1 c1):=(by rw[bel2.cell lx];exact p1);have s2:w2.cell? ⟨w.heap.size,2,none⟩=some (.slice A2 n2 c2):=(by rw[bel2.cell lx];exact p2);have s3:w2.cell? ⟨w.heap.size,3,none⟩=some (.slice A3 n3 c3):=(by rw[bel2.cell lx];exact p3))
    | (go_at_call 145;refine(zh5 _ _ _ _ _ _ _ _ _ _ _ _ _ _ (tSS.later k1 bel2) (tNS.later k2 bel2) (tS.later k3 bel2) hn).mono ?_;rw[G1.out];rintro e w3 ⟨rfl,bel3⟩;have G3:=zaa bel2 bel3))
   go_ret;exact⟨zac (by rw[R.out]),zaa B0 G3⟩
  have G1:=Aq g1;have R:=Aq (show zas (a0,x1,x2,x3)=(decide (a0=1)&&decide (n3=1))by rw[zas,g0,g1];simp only[L3.out,Bool.false_or,Ew]);clear g0 g1;have both:∀(a:Int) (m:Nat),Hid (zas (a0,x1,x2,x3)=(decide (a0=1)&&decide (n3=1))):=fun _ _=>R
  by_cases ha:a0=1
  ·subst ha
   by_cases hm:n3=1
   ·subst hm
    go_enter Tryz.func89,Tryz.ntmps89
    go_wp2_with fail;rw[<-HW.out]
    go_wp2_with (first
     | (go_at_call 36;refine(zga _ _ _ _ _ _ _ _ _ _ _ _ _ _ k1 k2 k3 hn).mono ?_;rw[G0.out];rintro e w2 ⟨rfl,bel2⟩;have s0:w2.cell? ⟨w.heap.size,0,none⟩=some (.int .i64 1):=(by rw[bel2.cell lx];exact p0);have s1:w2.cell? ⟨w.heap.size,1,none⟩=some (.slice A1 n1 c1):=(by rw[bel2.cell lx];exact p1);have s2:w2.cell? ⟨w.heap.size,2,none⟩=some (.slice A2 n2 c2):=(by rw[bel2.cell lx];exact p2);have s3:w2.cell? ⟨w.heap.size,3,none⟩=some (.slice A3 1 c3):=(by rw[bel2.cell lx];exact p3))
     | (go_at_call 145;refine(zh5 _ _ _ _ _ _ _ _ _ _ _ _ _ _ (tSS.later k1 bel2) (tNS.later k2 bel2) (tS.later k3 bel2) hn).mono ?_;rw[G1.out];rintro e w3 ⟨rfl,bel3⟩;have G3:=zaa bel2 bel3;have t0:w3.cell? ⟨w.heap.size,0,none⟩=some (.int .i64 1):=(by rw[G3.cell lx];exact p0);have t3:w3.cell? ⟨w.heap.size,3,none⟩=some (.slice A3 1 c3):=(by rw[G3.cell lx];exact p3)))
    go_ret;exact⟨zac (by rw[R.out];rfl),zaa B0 G3⟩
   have gm:((n3:Int) == 1)=false:=by simp;omega
   go_enter Tryz.func89,Tryz.ntmps89
   go_wp2_with fail;rw[<-HW.out]
   go_wp2_with (first
    | (go_at_call 36;refine(zga _ _ _ _ _ _ _ _ _ _ _ _ _ _ k1 k2 k3 hn).mono ?_;rw[G0.out];rintro e w2 ⟨rfl,bel2⟩;have s0:w2.cell? ⟨w.heap.size,0,none⟩=some (.int .i64 1):=(by rw[bel2.cell lx];exact p0);have s1:w2.cell? ⟨w.heap.size,1,none⟩=some (.slice A1 n1 c1):=(by rw[bel2.cell lx];exact p1);have s2:w2.cell? ⟨w.heap.size,2,none⟩=some (.slice A2 n2 c2):=(by rw[bel2.cell lx];exact p2);have s3:w2.cell? ⟨w.heap.size,3,none⟩=some (.slice A3 n3 c3):=(by rw[bel2.cell lx];exact p3))
    | (go_at_call 145;refine(zh5 _ _ _ _ _ _ _ _ _ _ _ _ _ _ (tSS.later k1 bel2) (tNS.later k2 bel2) (tS.later k3 bel2) hn).mono ?_;rw[G1.out];rintro e w3 ⟨rfl,bel3⟩;have G3:=zaa bel2 bel3;have t0:w3.cell? ⟨w.heap.size,0,none⟩=some (.int .i64 1):=(by rw[G3.cell lx];exact p0);have t3:w3.cell? ⟨w.heap.size,3,none⟩=some (.slice A3 n3 c3):=(by rw[G3.cell lx];exact p3)))
   go_ret;exact⟨zac (by rw[R.out];simp[hm]),zaa B0 G3⟩
  have ga:(a0 == 1)=false:=by simpa using ha
  by_cases hm:n3=1
  ·subst hm
   go_enter Tryz.func89,Tryz.ntmps89
   go_wp2_with fail;rw[<-HW.out]
   go_wp2_with (first
    | (go_at_call 36;refine(zga _ _ _ _ _ _ _ _ _ _ _ _ _ _ k1 k2 k3 hn).mono ?_;rw[G0.out];rintro e w2 ⟨rfl,bel2⟩;have s0:w2.cell? ⟨w.heap.size,0,none⟩=some (.int .i64 a0):=(by rw[bel2.cell lx];exact p0);have s1:w2.cell? ⟨w.heap.size,1,none⟩=some (.slice A1 n1 c1):=(by rw[bel2.cell lx];exact p1);have s2:w2.cell? ⟨w.heap.size,2,none⟩=some (.slice A2 n2 c2):=(by rw[bel2.cell lx];exact p2);have s3:w2.cell? ⟨w.heap.size,3,none⟩=some (.slice A3 1 c3):=(by rw[bel2.cell lx];exact p3))
    | (go_at_call 145;refine(zh5 _ _ _ _ _ _ _ _ _ _ _ _ _ _ (tSS.later k1 bel2) (tNS.later k2 bel2) (tS.later k3 bel2) hn).mono ?_;rw[G1.out];rintro e w3 ⟨rfl,bel3⟩;have G3:=zaa bel2 bel3;have t0:w3.cell? ⟨w.heap.size,0,none⟩=some (.int .i64 a0):=(by rw[G3.cell lx];exact p0);have t3:w3.cell? ⟨w.heap.size,3,none⟩=some (.slice A3 1 c3):=(by rw[G3.cell lx];exact p3)))
   go_ret;exact⟨zac (by rw[R.out];simp[ha]),zaa B0 G3⟩
  have gm:((n3:Int) == 1)=false:=by simp;omega
  go_enter Tryz.func89,Tryz.ntmps89
  go_wp2_with fail;rw[<-HW.out]
  go_wp2_with (first
   | (go_at_call 36;refine(zga _ _ _ _ _ _ _ _ _ _ _ _ _ _ k1 k2 k3 hn).mono ?_;rw[G0.out];rintro e w2 ⟨rfl,bel2⟩;have s0:w2.cell? ⟨w.heap.size,0,none⟩=some (.int .i64 a0):=(by rw[bel2.cell lx];exact p0);have s1:w2.cell? ⟨w.heap.size,1,none⟩=some (.slice A1 n1 c1):=(by rw[bel2.cell lx];exact p1);have s2:w2.cell? ⟨w.heap.size,2,none⟩=some (.slice A2 n2 c2):=(by rw[bel2.cell lx];exact p2);have s3:w2.cell? ⟨w.heap.size,3,none⟩=some (.slice A3 n3 c3):=(by rw[bel2.cell lx];exact p3))
   | (go_at_call 145;refine(zh5 _ _ _ _ _ _ _ _ _ _ _ _ _ _ (tSS.later k1 bel2) (tNS.later k2 bel2) (tS.later k3 bel2) hn).mono ?_;rw[G1.out];rintro e w3 ⟨rfl,bel3⟩;have G3:=zaa bel2 bel3;have t0:w3.cell? ⟨w.heap.size,0,none⟩=some (.int .i64 a0):=(by rw[G3.cell lx];exact p0);have t3:w3.cell? ⟨w.heap.size,3,none⟩=some (.slice A3 n3 c3):=(by rw[G3.cell lx];exact p3)))
  go_ret;exact⟨zac (by rw[R.out];simp[ha]),zaa B0 G3⟩
 have G0:=Aq g0;have R:=Aq (show zas (a0,x1,x2,x3)=true by rw[zas,g0];rfl);clear g0
 go_enter Tryz.func89,Tryz.ntmps89
 go_wp2_with fail;rw[<-HW.out];go_wp2_with (go_at_call 36;refine(zga _ _ _ _ _ _ _ _ _ _ _ _ _ _ k1 k2 k3 hn).mono ?_;rw[G0.out];rintro e w2 ⟨rfl,bel2⟩);go_ret;exact⟨zac (by rw[R.out]),zaa B0 bel2⟩
theorem zss{xs:List zag}{k:Nat}{s:ByteArray}(h:∀j,j<k->∀y,xs[j]?=some y->¬y.1=s):zd9 s ((xs.take k).map (·.1))=false:=by
 rw[zd9,List.any_eq_false];intro t ht;obtain⟨y,hy,rfl⟩:=List.mem_map.1 ht;obtain⟨j,hj⟩:=Fk hy
 have hj2:j<k:=by
  have:=(Bk.1 hj).1;rw[Ey]at this;omega
 rw[List.getElem?_take,if_pos hj2]at hj;simpa using h j hj2 y hj
theorem zst{xs:List zag}{k j:Nat}{y:zag}(hj:j<k)(h:xs[j]?=some y):zd9 y.1 ((xs.take k).map (·.1))=true:=by
 rw[zd9,List.any_eq_true];refine⟨y.1,List.mem_map.2 ⟨y,Eg (i:=j) (by rw[List.getElem?_take,if_pos hj];exact h),rfl⟩,by simp⟩
theorem zsu(vb vo:Nat)(A:Yo)(n c:Nat)(xs:List zag)(w:Yw)(hv0:w.cell? ⟨vb,vo,none⟩=some (.slice A n c))(hx:tM.R w w.heap.size [.slice A n c] xs)(hn:hM.sz xs<=100000000):
 Calls Tryz.prog 68 #[.pointer (some ⟨vb,vo,none⟩)] w fun e w'=>e=.returned (.bool (zay xs))/\Below w.heap.size w w':=by
 have hvb:vb<w.heap.size:=Cj w _ hv0;have rx:=sl_R.1 hx;have hlx:=rx.cap.1;have hm1:xs.length+hSt.szL xs<=100000000:=hn;have hnb:n<=100000000:=by omega
 have HLX:=Aq hlx;have HM1:=Aq hm1;clear hlx hx hn hm1;cases hI:M.inn n 1 8
 ·have R:=Aq (show zay xs=false by rw[zay,HLX.out,hI];rfl)
  go_enter Tryz.func68,Tryz.ntmps68
  go_wp2_with (go_at_call 67;refine(za0 _ _ _ _).mono ?_;rintro e w' ⟨rfl,rfl⟩);go_ret;exact⟨zac (by rw[R.out]),Aw _ _⟩
 have hb8:=zdt.1 hI;have HI:=Aq hI
 go_enter Tryz.func68,Tryz.ntmps68
 go_wp2_with (go_at_call 67;refine(za0 _ _ _ _).mono ?_;rintro e w' ⟨rfl,rfl⟩);clear hI
 go_loopw [4,5] (fun i _ wr=>∃k:Nat,i=.int .i64 k/\k<=n/\Hid (∀j,j<k->zen xs j=true)/\Below w.heap.size w wr) (fun i _ _=>n-(intOf i).toNat)
 case atStart=>exact⟨0,rfl,by omega,Aq (by omega),Aw _ _⟩
 case round=>
  obtain⟨k,rfl,hk,H,Bw⟩:=hrel;have c0:wr.cell? ⟨vb,vo,none⟩=some (.slice A n c):=by rw[Bw.cell hvb];exact hv0
  by_cases hlt:k<n
  ·have hX:=Aq (Ak (l:=xs) (i:=k) (by rw[HLX.out];exact hlt));obtain⟨b,o1,cc,cs,hv,hab,-,hE,hcc⟩:=(rx.below Bw).atX hX.out;simp only[Cz]at hv;obtain⟨rfl,-,rfl⟩:=hv;have hU:=hSt.szL_at hX.out;generalize xs[k]'(by rw[HLX.out];exact hlt)=x at hX hE hU;obtain⟨s,l,us⟩:=x;rw[zir]at hU;obtain⟨A1,n1,c1,rfl,hs,hE⟩:=st_R.1 hE;have n1b:n1<=1000000000:=(by have:=(zd8 hE).1.1;have:=HM1.out;omega);have e0:wr.cell? ⟨b,o1+k*3,none⟩=some (.string s):=hcc 0 _ rfl;have e1:wr.cell? ⟨b,o1+k*3+1,none⟩=some (.int .i64 l):=hcc 1 _ rfl;have e2:wr.cell? ⟨b,o1+k*3+2,none⟩=some (.slice A1 n1 c1):=hcc 2 _ rfl;have hra:=(zd8 (tSdS.more Bw.size hE)).1;have hS:=Aq (zhs hX.out);have HNO:=Aq (fun h=>zmb (xs:=xs) (k:=k) (by rw[HLX.out];exact hlt) h);have HC:=Aq (zq7 b (o1+k*3) s l A1 n1 c1 us k n wr e0 e1 e2 hs hra n1b ⟨by omega,by omega⟩ ⟨by omega,by omega⟩);clear hcc hU hE;cases hST:zby (s,l,us) k n
   ·have R:=Aq (show zay xs=false from HNO.out (by rw[hS.out,HLX.out,hST];rfl));go_wp2_with (go_at_call 127;refine HC.out.mono ?_;rw[hST];rintro e w' ⟨rfl,rfl⟩);go_ret;exact⟨zac (by rw[R.out]),Bw⟩
   have HST:=Aq hST;clear hST;go_wp2_with (go_at_call 127;refine HC.out.mono ?_;rw[HST.out];rintro e w' ⟨rfl,rfl⟩);obtain⟨wo,rfl⟩:∃wo:Yw,wo=wr:=⟨_,rfl⟩;clear HC e1 e2 hra
   go_loopw [5] (fun i wr=>∃j:Nat,i=.int .i64 j/\j<=k/\Hid (∀q,q<j->∀y,xs[q]?=some y->¬y.1=s)/\Below w.heap.size w wr) (fun i _=>k-(intOf i).toNat)
   case atStart=>exact⟨0,rfl,by omega,Aq (by omega),Bw⟩
   case round=>
    obtain⟨j,rfl,hj,HJ,Bw2⟩:=hrel;have d0:wr.cell? ⟨vb,vo,none⟩=some (.slice (some ⟨b,o1,none⟩) n c):=by rw[Bw2.cell hvb];exact hv0
    by_cases hlt2:j<k
    ·have hY:=Aq (Ak (l:=xs) (i:=j) (by rw[HLX.out];omega));obtain⟨b',o2,cc',cs',hv',-,-,hE',hdd⟩:=(rx.below Bw2).atX hY.out;simp only[Cz,Dq,Addr.mk.injEq]at hv';obtain⟨⟨rfl,rfl,-⟩,-,rfl⟩:=hv';generalize xs[j]'(by rw[HLX.out];omega)=y at hY hE';obtain⟨s',l',vs⟩:=y;obtain⟨A2,n2,c2,rfl,-,-⟩:=st_R.1 hE';have f0:wr.cell? ⟨b,o1+j*3,none⟩=some (.string s'):=hdd 0 _ rfl
     have f1:wr.cell? ⟨b,o1+k*3,none⟩=some (.string s):=by
      obtain⟨b2,o3,cc2,cs2,hv2,-,-,hE2,hgg⟩:=(rx.below Bw2).atX hX.out;simp only[Cz,Dq,Addr.mk.injEq]at hv2;obtain⟨⟨rfl,rfl,-⟩,-,rfl⟩:=hv2;obtain⟨A3,n3,c3,rfl,-,-⟩:=st_R.1 hE2;exact hgg 0 _ rfl
     have hjn:(j:Int)<(n:Int):=(by omega);have hj0:(0:Int)<=(j:Int):=(by omega);have hkn:(k:Int)<(n:Int):=(by omega);clear hdd hE'
     by_cases hss:s'=s
     ·have R:=Aq (show zay xs=false from HNO.out (by
       have h1:=zst hlt2 hY.out;rw[hss]at h1;rw[hS.out,h1,Bool.not_true,Ev]))
      have h1:s'.toList=s.toList:=(by rw[hss]);subst hss;go_wp2
      go_quiet (fail)
      go_wp2;go_ret;exact⟨zac (by rw[R.out]),zad Bw2 _⟩
     have h1:=zl3 hss;have h2:(s'.toList == s.toList)=false:=(by simpa using h1);have HSS:=Aq hss;clear hss;go_wp2
     go_quiet (fail)
     go_wp2;go_roundw
     case rel=>exact⟨j+1,by go_num,by omega,Aq (fun q hq y hy=>by
      rcases Fj q j with h3|h3
      ·exact HJ.out q h3 y hy
      obtain rfl:q=j:=by omega
      rw[hY.out]at hy;injection hy with hy
      subst hy;exact HSS.out),zad Bw2 _⟩
     case measure=>simp[intOf];omega
    obtain rfl:j=k:=by omega
    have HGO:=Aq (show zen xs j=true by rw[hS.out,HLX.out,HST.out,zss HJ.out];rfl);go_wp2;go_roundw
    case rel=>exact⟨j+1,by go_num,by omega,Aq (fun q hq=>by
     rcases Fj q j with h3|h3
     ·exact H.out q h3
     obtain rfl:q=j:=by omega
     exact HGO.out),Bw2⟩
    case measure=>simp[intOf];omega
  have R:=Aq (show zay xs=true by rw[zmc (fun j hj=>H.out j (by rw[HLX.out]at hj;omega)),HLX.out,HI.out]);go_wp2;go_ret;exact⟨zac (by rw[R.out]),Bw⟩
end Go.Proofs.YtifeldeikhmckaaGreat
