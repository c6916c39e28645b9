import Derived.Test.YtifeldeikhmckaaGreatFnExactOptimizeSessionG16
import Derived.Lib.QuietBelow
import Derived.Deep.DeepCutAuto
set_option linter.unusedVariables false
set_option linter.unusedSimpArgs false
set_option maxRecDepth 100000
set_option maxHeartbeats 4000000
namespace Go.Proofs.YtifeldeikhmckaaGreat
open Go.RowKit Go.Sort
theorem zr4(a0 a1 a2:Int)(A:Yo)(n c:Nat)(xs:List Int)(tb:Int)(w:Yw)(hx:RI w w.heap.size A n xs)(hn:n<=1000000000):
 Calls Tryz.prog 235 #[.agg #[.int .i64 a0,.int .i64 a1,.int .i64 a2,.slice A n c],.int .i64 tb] w fun e w'=>e=.returned (.bool (zaj (a0,a1,a2,xs) tb))/\Below w.heap.size w w':=by
 obtain⟨W,hW⟩:∃W,W=w.alloc (.cells #[.int .i64 a0,.int .i64 a1,.int .i64 a2,.slice A n c] 169):=⟨_,rfl⟩;have B0:Below w.heap.size w W:=by rw[hW];exact(Below.refl _ _).alloc (Nat.le_refl _) _
 have p0:W.cell? ⟨w.heap.size,0,none⟩=some (.int .i64 a0):=by rw[hW];simp[go_sem]
 have p1:W.cell? ⟨w.heap.size,1,none⟩=some (.int .i64 a1):=by rw[hW];simp[go_sem]
 have p2:W.cell? ⟨w.heap.size,2,none⟩=some (.int .i64 a2):=by rw[hW];simp[go_sem]
 have p3:W.cell? ⟨w.heap.size,3,none⟩=some (.slice A n c):=by rw[hW];simp[go_sem]
 have lx:w.heap.size<W.heap.size:=by rw[hW];simp
 have hx1:=hx.later B0;have HW:=Lib.hid hW;have hlen:=Lib.hid hx.len;clear hW hx;cases h:M.inn a0 1 17
 ·have R:=Lib.hid (show zaj (a0,a1,a2,xs) tb=false by rw[zaj,h];rfl)
  go_enter Tryz.func235,Tryz.ntmps235
  go_wp2_with fail;rw[<-HW.out];go_wp2_with (go_at_call 252;refine(zlr _ _).mono ?_;rintro e w' ⟨rfl,rfl⟩);go_ret;exact⟨zac (by rw[R.out]),B0⟩
 have hr:=zbf.1 h;obtain⟨j,hj⟩:∃j:Nat,j=a0.toNat-1:=⟨_,rfl⟩;have hj17:j<17:=by omega
 have hja:IntKind.i64.wrap (a0-1)=(j:Int):=by rw[IntWalk.i64_in _ (by omega)];omega
 have hj0:(0:Int)<=(j:Int):=by omega
 have hj1:(j:Int)<17:=by omega
 obtain⟨⟨ki,lo,hi,li,hb⟩,hk⟩:∃q,q=M.kd j:=⟨_,rfl⟩;have HK:=Lib.hid hk;have HI:=Lib.hid h;have HN:=Lib.hid (show zaj (a0,a1,a2,xs) tb=(M.aI (ki,lo,hi,li,hb) a1&&M.bI (ki,lo,hi,li,hb) a2&&xs.all zax&&decide ((xs.length:Int)=ki)&&(decide (¬a0=13)||decide (a1<tb)))by rw[zaj];simp only[h,Bool.true_and];rw[<-hj,<-hk]);clear hj hk h hr;have Da:Below W.heap.size W W.drew:=zae (Below.refl _ _) 1;have Db:Below W.heap.size W (W.alloc (.cells #[.string ⟨#[]⟩,.int .i64 0,.int .i64 0,.int .i64 0,.bool false,.bool false] 275)).drew:=zae ((Below.refl _ _).alloc (Nat.le_refl _) _) 1;have sb:(W.alloc (.cells #[.string ⟨#[]⟩,.int .i64 0,.int .i64 0,.int .i64 0,.bool false,.bool false] 275)).drew.heap.size=W.heap.size+1:=by simp
 have sa:W.drew.heap.size=W.heap.size:=rfl
 go_enter Tryz.func235,Tryz.ntmps235
 go_wp2_with fail;rw[<-HW.out];go_wp2_with (go_at_call 252;refine(zlr _ _).mono ?_;rw[HI.out];rintro e w' ⟨rfl,rfl⟩)
 go_cut [5] (fun q5 wx=>∃g,q5=.pointer (some ⟨g,0,none⟩)/\W.heap.size<=g/\g<wx.heap.size/\wx.cell? ⟨g,0,none⟩=some (.string (M.kn j))/\wx.cell? ⟨g,1,none⟩=some (.int .i64 ki)/\wx.cell? ⟨g,2,none⟩=some (.int .i64 lo)/\wx.cell? ⟨g,3,none⟩=some (.int .i64 hi)/\wx.cell? ⟨g,4,none⟩=some (.bool li)/\wx.cell? ⟨g,5,none⟩=some (.bool hb)/\Below W.heap.size W wx)
 case first=>
  go_region_with (first|(go_at_call 253;refine(zlq _).mono ?_;rintro e w2 ⟨g,rfl,hg0,hg1,KC,bel2⟩;obtain⟨k0,k1,k2,k3,k4,k5⟩:=KC j hj17;rw[<-HK.out]at k1 k2 k3 k4 k5;simp only at k1 k2 k3 k4 k5;have G2:Below W.heap.size W w2:=zaa Db bel2;have q0:w2.cell? ⟨w.heap.size,0,none⟩=some (.int .i64 a0):=(by rw[G2.cell lx];exact p0);have hs2:=bel2.size;have lw2:w.heap.size<w2.heap.size:=(by have:=G2.size;omega);have bz0:w2.cell? ⟨W.heap.size,0,none⟩=some (.string ⟨#[]⟩):=(by rw[bel2.cell (by simp)];simp[go_sem]);have by0:w2.frozen? ⟨W.heap.size,0,none⟩=false:=(by rw[bel2.frozen (by simp)];simp[go_sem]);have bz1:w2.cell? ⟨W.heap.size,1,none⟩=some (.int .i64 0):=(by rw[bel2.cell (by simp)];simp[go_sem]);have by1:w2.frozen? ⟨W.heap.size,1,none⟩=false:=(by rw[bel2.frozen (by simp)];simp[go_sem]);have bz2:w2.cell? ⟨W.heap.size,2,none⟩=some (.int .i64 0):=(by rw[bel2.cell (by simp)];simp[go_sem]);have by2:w2.frozen? ⟨W.heap.size,2,none⟩=false:=(by rw[bel2.frozen (by simp)];simp[go_sem]);have bz3:w2.cell? ⟨W.heap.size,3,none⟩=some (.int .i64 0):=(by rw[bel2.cell (by simp)];simp[go_sem]);have by3:w2.frozen? ⟨W.heap.size,3,none⟩=false:=(by rw[bel2.frozen (by simp)];simp[go_sem]);have bz4:w2.cell? ⟨W.heap.size,4,none⟩=some (.bool false):=(by rw[bel2.cell (by simp)];simp[go_sem]);have by4:w2.frozen? ⟨W.heap.size,4,none⟩=false:=(by rw[bel2.frozen (by simp)];simp[go_sem]);have bz5:w2.cell? ⟨W.heap.size,5,none⟩=some (.bool false):=(by rw[bel2.cell (by simp)];simp[go_sem]);have by5:w2.frozen? ⟨W.heap.size,5,none⟩=false:=(by rw[bel2.frozen (by simp)];simp[go_sem]);have lb2:W.heap.size<w2.heap.size:=(by rw[sb]at hs2;omega);have nb2:¬g=W.heap.size:=(by rw[sb]at hg0;omega))|(go_at_call 253;refine(zlq _).mono ?_;rintro e w2 ⟨g,rfl,hg0,hg1,KC,bel2⟩;obtain⟨k0,k1,k2,k3,k4,k5⟩:=KC j hj17;rw[<-HK.out]at k1 k2 k3 k4 k5;simp only at k1 k2 k3 k4 k5;have G2:Below W.heap.size W w2:=zaa Da bel2;have q0:w2.cell? ⟨w.heap.size,0,none⟩=some (.int .i64 a0):=(by rw[G2.cell lx];exact p0);have hs2:=bel2.size;have lw2:w.heap.size<w2.heap.size:=(by have:=G2.size;omega)))
  all_goals
   go_wp2_with fail
   go_meet
   refine⟨_,rfl,?_⟩
   first
    | (have _t:=nb2;refine⟨Nat.le_refl _,by simp;omega,?_,?_,?_,?_,?_,?_,(((((G2.setCell (Nat.le_refl _) _).setCell (Nat.le_refl _) _).setCell (Nat.le_refl _) _).setCell (Nat.le_refl _) _).setCell (Nat.le_refl _) _).setCell (Nat.le_refl _) _⟩ <;> (simp[go_sem,bz0,bz1,bz2,bz3,bz4,bz5];done))
    | (refine⟨by have:=G2.size;omega,by simp,?_,?_,?_,?_,?_,?_,G2.alloc G2.size _⟩ <;> (simp[go_sem];done))
 case rest=>
  have hcut_:=hcut;clear hcut Da Db sa sb;obtain⟨U,rfl⟩:∃u_:Yw,u_=wc:=⟨_,rfl⟩;obtain⟨g,rfl,hg,lg,e0,e1,e2,e3,e4,e5,G⟩:=hcut_;clear HW;have lw:w.heap.size<U.heap.size:=by have:=G.size;omega
  replace p0:U.cell? ⟨w.heap.size,0,none⟩=some (.int .i64 a0):=by rw[G.cell lx];exact p0
  replace p1:U.cell? ⟨w.heap.size,1,none⟩=some (.int .i64 a1):=by rw[G.cell lx];exact p1
  replace p2:U.cell? ⟨w.heap.size,2,none⟩=some (.int .i64 a2):=by rw[G.cell lx];exact p2
  replace p3:U.cell? ⟨w.heap.size,3,none⟩=some (.slice A n c):=by rw[G.cell lx];exact p3
  replace hx1:=hx1.later G
  by_cases hle:lo<=hi
  ·have HL:=Lib.hid (decide_eq_true hle);cases h1:M.inn a1 lo hi
   ·have HA:=Lib.hid (show M.aI (ki,lo,hi,li,hb) a1=false by rw[M.aI,if_pos hle,h1]);have R:=Lib.hid (show zaj (a0,a1,a2,xs) tb=false by rw[HN.out,HA.out];try rfl);go_wp2_with (first|(go_at_call 254;refine(zea _ _ _ _ _ _ _).mono ?_;rw[HL.out];rintro e v5 ⟨rfl,bel5⟩;have s5:=bel5.size;replace e0:v5.cell? ⟨g,0,none⟩=some (.string (M.kn j)):=(by rw[bel5.cell lg];exact e0);replace e1:v5.cell? ⟨g,1,none⟩=some (.int .i64 ki):=(by rw[bel5.cell lg];exact e1);replace e2:v5.cell? ⟨g,2,none⟩=some (.int .i64 lo):=(by rw[bel5.cell lg];exact e2);replace e3:v5.cell? ⟨g,3,none⟩=some (.int .i64 hi):=(by rw[bel5.cell lg];exact e3);replace e4:v5.cell? ⟨g,4,none⟩=some (.bool li):=(by rw[bel5.cell lg];exact e4);replace e5:v5.cell? ⟨g,5,none⟩=some (.bool hb):=(by rw[bel5.cell lg];exact e5);replace p0:v5.cell? ⟨w.heap.size,0,none⟩=some (.int .i64 a0):=(by rw[bel5.cell lw];exact p0);replace p1:v5.cell? ⟨w.heap.size,1,none⟩=some (.int .i64 a1):=(by rw[bel5.cell lw];exact p1);replace p2:v5.cell? ⟨w.heap.size,2,none⟩=some (.int .i64 a2):=(by rw[bel5.cell lw];exact p2);replace p3:v5.cell? ⟨w.heap.size,3,none⟩=some (.slice A n c):=(by rw[bel5.cell lw];exact p3);replace hx1:=hx1.later bel5;replace lg:g<v5.heap.size:=(by omega);replace lw:w.heap.size<v5.heap.size:=(by omega);replace G:=zaa G bel5;clear bel5 s5)|(go_at_call 81;refine(zap _ _ _ _).mono ?_;rintro e w' ⟨rfl,rfl⟩));go_ret;exact⟨zac (by rw[R.out]),zaa B0 G⟩
   have HA:=Lib.hid (fun hb=>show M.aI (ki,lo,hi,li,hb) a1=true by rw[M.aI,if_pos hle,h1]);cases hb
   ·by_cases h2:a2=0
    ·have HB:=Lib.hid (show M.bI (ki,lo,hi,li,false) a2=true by rw[M.bI,if_neg (by simp)];simpa using h2);have g2:(a2 != 0)=false:=(by simp[h2]);have HM:=Lib.hid (show zaj (a0,a1,a2,xs) tb=(xs.all zax&&decide ((xs.length:Int)=ki)&&(decide (¬a0=13)||decide (a1<tb)))by rw[HN.out,(HA.out _),HB.out];rfl);go_wp2_with (first|(go_at_call 254;refine(zea _ _ _ _ _ _ _).mono ?_;rw[HL.out];rintro e v5 ⟨rfl,bel5⟩;have s5:=bel5.size;replace e0:v5.cell? ⟨g,0,none⟩=some (.string (M.kn j)):=(by rw[bel5.cell lg];exact e0);replace e1:v5.cell? ⟨g,1,none⟩=some (.int .i64 ki):=(by rw[bel5.cell lg];exact e1);replace e2:v5.cell? ⟨g,2,none⟩=some (.int .i64 lo):=(by rw[bel5.cell lg];exact e2);replace e3:v5.cell? ⟨g,3,none⟩=some (.int .i64 hi):=(by rw[bel5.cell lg];exact e3);replace e4:v5.cell? ⟨g,4,none⟩=some (.bool li):=(by rw[bel5.cell lg];exact e4);replace e5:v5.cell? ⟨g,5,none⟩=some (.bool false):=(by rw[bel5.cell lg];exact e5);replace p0:v5.cell? ⟨w.heap.size,0,none⟩=some (.int .i64 a0):=(by rw[bel5.cell lw];exact p0);replace p1:v5.cell? ⟨w.heap.size,1,none⟩=some (.int .i64 a1):=(by rw[bel5.cell lw];exact p1);replace p2:v5.cell? ⟨w.heap.size,2,none⟩=some (.int .i64 a2):=(by rw[bel5.cell lw];exact p2);replace p3:v5.cell? ⟨w.heap.size,3,none⟩=some (.slice A n c):=(by rw[bel5.cell lw];exact p3);replace hx1:=hx1.later bel5;replace lg:g<v5.heap.size:=(by omega);replace lw:w.heap.size<v5.heap.size:=(by omega);replace G:=zaa G bel5;clear bel5 s5)|(go_at_call 81;refine(zap _ _ _ _).mono ?_;rintro e w' ⟨rfl,rfl⟩))
     skip
     go_loop [7,63] (fun _ i=>∃k:Nat,i=.int .i64 k/\k<=n/\Hid (xs.all zax=(xs.drop k).all zax)) (fun _ i=>n-(intOf i).toNat)
     case atStart=>exact⟨0,rfl,by omega,Lib.hid (by simp)⟩
     case round=>
      obtain⟨k,rfl,hk,H⟩:=hrel
      by_cases hlt:k<n
      ·obtain⟨ad,x,rfl,hab,X,hc⟩:=hx1.at hlt;have hd:=Lib.hid (M.drop_at X.out);cases hs:M.inn x 0 23
       ·have R:=Lib.hid (show zaj (a0,a1,a2,xs) tb=false by rw[HM.out,H.out,hd.out,List.all_cons,zax,hs];rfl);go_wp2_with (go_at_call 81;refine(zap _ _ _ _).mono ?_;rintro e w' ⟨rfl,rfl⟩);go_ret;exact⟨zac (by rw[R.out]),zaa B0 G⟩
       have R:=Lib.hid (show xs.all zax=(xs.drop (k+1)).all zax by rw[H.out,hd.out,List.all_cons,zax,hs];rfl);go_wp2_with (go_at_call 81;refine(zap _ _ _ _).mono ?_;rintro e w' ⟨rfl,rfl⟩);go_round
       case rel=>exact⟨k+1,by go_num,by omega,R⟩
       case measure=>simp[intOf];omega
      have HF:=Lib.hid (show xs.all zax=true by rw[H.out,List.drop_eq_nil_of_le (by rw[hlen.out];omega)];rfl);clear H
      by_cases c1:(n:Int)=ki
      ·by_cases c2:a0=13
       ·have d1:decide ((n:Int)=ki)=true:=(by simpa using c1);have d2:(a0 != 13)=false:=by simp[c2]
        by_cases c3:a1<tb
        ·have R:=Lib.hid (show zaj (a0,a1,a2,xs) tb=true by rw[HM.out,HF.out,hlen.out,c1,c2];simpa using c3)
         skip
         go_wp2_with fail
         go_quiet (first|(refine za7 (zb8 _ _ _ _)))
         go_wp2;go_ret;exact⟨zac (by rw[R.out];try (simp;omega)),zaa B0 (zae G _)⟩
        have R:=Lib.hid (show zaj (a0,a1,a2,xs) tb=false by rw[HM.out,HF.out,hlen.out,c1,c2];simpa using c3)
        skip
        go_wp2_with fail
        go_quiet (first|(refine za7 (zb8 _ _ _ _)))
        go_wp2;go_ret;exact⟨zac (by rw[R.out];try (simp;omega)),zaa B0 (zae G _)⟩
       have R:=Lib.hid (show zaj (a0,a1,a2,xs) tb=true by rw[HM.out,HF.out,hlen.out,c1];simp[c2]);have d2:(a0 != 13)=true:=by simpa using c2
       skip
       go_wp2_with fail
       go_quiet (first|(refine za7 (zb8 _ _ _ _)))
       go_wp2;go_ret;exact⟨zac (by rw[R.out];try (simp;omega)),zaa B0 (zae G _)⟩
      have R:=Lib.hid (show zaj (a0,a1,a2,xs) tb=false by rw[HM.out,HF.out,hlen.out];simp[c1]);have d1:((n:Int) == ki)=false:=by simpa using c1
      skip
      go_wp2_with fail
      go_quiet (first|(refine za7 (zb8 _ _ _ _)))
      go_wp2;go_ret;exact⟨zac (by rw[R.out];try (simp;omega)),zaa B0 (zae G _)⟩
    have HB:=Lib.hid (show M.bI (ki,lo,hi,li,false) a2=false by rw[M.bI,if_neg (by simp)];simpa using h2);have g2:(a2 != 0)=true:=(by simpa using h2);have R:=Lib.hid (show zaj (a0,a1,a2,xs) tb=false by rw[HN.out,(HA.out _),HB.out];try rfl);go_wp2_with (first|(go_at_call 254;refine(zea _ _ _ _ _ _ _).mono ?_;rw[HL.out];rintro e v5 ⟨rfl,bel5⟩;have s5:=bel5.size;replace e0:v5.cell? ⟨g,0,none⟩=some (.string (M.kn j)):=(by rw[bel5.cell lg];exact e0);replace e1:v5.cell? ⟨g,1,none⟩=some (.int .i64 ki):=(by rw[bel5.cell lg];exact e1);replace e2:v5.cell? ⟨g,2,none⟩=some (.int .i64 lo):=(by rw[bel5.cell lg];exact e2);replace e3:v5.cell? ⟨g,3,none⟩=some (.int .i64 hi):=(by rw[bel5.cell lg];exact e3);replace e4:v5.cell? ⟨g,4,none⟩=some (.bool li):=(by rw[bel5.cell lg];exact e4);replace e5:v5.cell? ⟨g,5,none⟩=some (.bool false):=(by rw[bel5.cell lg];exact e5);replace p0:v5.cell? ⟨w.heap.size,0,none⟩=some (.int .i64 a0):=(by rw[bel5.cell lw];exact p0);replace p1:v5.cell? ⟨w.heap.size,1,none⟩=some (.int .i64 a1):=(by rw[bel5.cell lw];exact p1);replace p2:v5.cell? ⟨w.heap.size,2,none⟩=some (.int .i64 a2):=(by rw[bel5.cell lw];exact p2);replace p3:v5.cell? ⟨w.heap.size,3,none⟩=some (.slice A n c):=(by rw[bel5.cell lw];exact p3);replace hx1:=hx1.later bel5;replace lg:g<v5.heap.size:=(by omega);replace lw:w.heap.size<v5.heap.size:=(by omega);replace G:=zaa G bel5;clear bel5 s5)|(go_at_call 81;refine(zap _ _ _ _).mono ?_;rintro e w' ⟨rfl,rfl⟩));go_ret;exact⟨zac (by rw[R.out]),zaa B0 G⟩
   cases h2:M.inn a2 1 16
   ·have HB:=Lib.hid (show M.bI (ki,lo,hi,li,true) a2=false by rw[M.bI,if_pos rfl,h2]);have R:=Lib.hid (show zaj (a0,a1,a2,xs) tb=false by rw[HN.out,(HA.out _),HB.out];try rfl);go_wp2_with (first|(go_at_call 254;refine(zea _ _ _ _ _ _ _).mono ?_;rw[HL.out];rintro e v5 ⟨rfl,bel5⟩;have s5:=bel5.size;replace e0:v5.cell? ⟨g,0,none⟩=some (.string (M.kn j)):=(by rw[bel5.cell lg];exact e0);replace e1:v5.cell? ⟨g,1,none⟩=some (.int .i64 ki):=(by rw[bel5.cell lg];exact e1);replace e2:v5.cell? ⟨g,2,none⟩=some (.int .i64 lo):=(by rw[bel5.cell lg];exact e2);replace e3:v5.cell? ⟨g,3,none⟩=some (.int .i64 hi):=(by rw[bel5.cell lg];exact e3);replace e4:v5.cell? ⟨g,4,none⟩=some (.bool li):=(by rw[bel5.cell lg];exact e4);replace e5:v5.cell? ⟨g,5,none⟩=some (.bool true):=(by rw[bel5.cell lg];exact e5);replace p0:v5.cell? ⟨w.heap.size,0,none⟩=some (.int .i64 a0):=(by rw[bel5.cell lw];exact p0);replace p1:v5.cell? ⟨w.heap.size,1,none⟩=some (.int .i64 a1):=(by rw[bel5.cell lw];exact p1);replace p2:v5.cell? ⟨w.heap.size,2,none⟩=some (.int .i64 a2):=(by rw[bel5.cell lw];exact p2);replace p3:v5.cell? ⟨w.heap.size,3,none⟩=some (.slice A n c):=(by rw[bel5.cell lw];exact p3);replace hx1:=hx1.later bel5;replace lg:g<v5.heap.size:=(by omega);replace lw:w.heap.size<v5.heap.size:=(by omega);replace G:=zaa G bel5;clear bel5 s5)|(go_at_call 81;refine(zap _ _ _ _).mono ?_;rintro e w' ⟨rfl,rfl⟩));go_ret;exact⟨zac (by rw[R.out]),zaa B0 G⟩
   have HB:=Lib.hid (show M.bI (ki,lo,hi,li,true) a2=true by rw[M.bI,if_pos rfl,h2]);have HM:=Lib.hid (show zaj (a0,a1,a2,xs) tb=(xs.all zax&&decide ((xs.length:Int)=ki)&&(decide (¬a0=13)||decide (a1<tb)))by rw[HN.out,(HA.out _),HB.out];rfl);go_wp2_with (first|(go_at_call 254;refine(zea _ _ _ _ _ _ _).mono ?_;rw[HL.out];rintro e v5 ⟨rfl,bel5⟩;have s5:=bel5.size;replace e0:v5.cell? ⟨g,0,none⟩=some (.string (M.kn j)):=(by rw[bel5.cell lg];exact e0);replace e1:v5.cell? ⟨g,1,none⟩=some (.int .i64 ki):=(by rw[bel5.cell lg];exact e1);replace e2:v5.cell? ⟨g,2,none⟩=some (.int .i64 lo):=(by rw[bel5.cell lg];exact e2);replace e3:v5.cell? ⟨g,3,none⟩=some (.int .i64 hi):=(by rw[bel5.cell lg];exact e3);replace e4:v5.cell? ⟨g,4,none⟩=some (.bool li):=(by rw[bel5.cell lg];exact e4);replace e5:v5.cell? ⟨g,5,none⟩=some (.bool true):=(by rw[bel5.cell lg];exact e5);replace p0:v5.cell? ⟨w.heap.size,0,none⟩=some (.int .i64 a0):=(by rw[bel5.cell lw];exact p0);replace p1:v5.cell? ⟨w.heap.size,1,none⟩=some (.int .i64 a1):=(by rw[bel5.cell lw];exact p1);replace p2:v5.cell? ⟨w.heap.size,2,none⟩=some (.int .i64 a2):=(by rw[bel5.cell lw];exact p2);replace p3:v5.cell? ⟨w.heap.size,3,none⟩=some (.slice A n c):=(by rw[bel5.cell lw];exact p3);replace hx1:=hx1.later bel5;replace lg:g<v5.heap.size:=(by omega);replace lw:w.heap.size<v5.heap.size:=(by omega);replace G:=zaa G bel5;clear bel5 s5)|(go_at_call 81;refine(zap _ _ _ _).mono ?_;rintro e w' ⟨rfl,rfl⟩))
   skip
   go_loop [7,63] (fun _ i=>∃k:Nat,i=.int .i64 k/\k<=n/\Hid (xs.all zax=(xs.drop k).all zax)) (fun _ i=>n-(intOf i).toNat)
   case atStart=>exact⟨0,rfl,by omega,Lib.hid (by simp)⟩
   case round=>
    obtain⟨k,rfl,hk,H⟩:=hrel
    by_cases hlt:k<n
    ·obtain⟨ad,x,rfl,hab,X,hc⟩:=hx1.at hlt;have hd:=Lib.hid (M.drop_at X.out);cases hs:M.inn x 0 23
     ·have R:=Lib.hid (show zaj (a0,a1,a2,xs) tb=false by rw[HM.out,H.out,hd.out,List.all_cons,zax,hs];rfl);go_wp2_with (go_at_call 81;refine(zap _ _ _ _).mono ?_;rintro e w' ⟨rfl,rfl⟩);go_ret;exact⟨zac (by rw[R.out]),zaa B0 G⟩
     have R:=Lib.hid (show xs.all zax=(xs.drop (k+1)).all zax by rw[H.out,hd.out,List.all_cons,zax,hs];rfl);go_wp2_with (go_at_call 81;refine(zap _ _ _ _).mono ?_;rintro e w' ⟨rfl,rfl⟩);go_round
     case rel=>exact⟨k+1,by go_num,by omega,R⟩
     case measure=>simp[intOf];omega
    have HF:=Lib.hid (show xs.all zax=true by rw[H.out,List.drop_eq_nil_of_le (by rw[hlen.out];omega)];rfl);clear H
    by_cases c1:(n:Int)=ki
    ·by_cases c2:a0=13
     ·have d1:decide ((n:Int)=ki)=true:=(by simpa using c1);have d2:(a0 != 13)=false:=by simp[c2]
      by_cases c3:a1<tb
      ·have R:=Lib.hid (show zaj (a0,a1,a2,xs) tb=true by rw[HM.out,HF.out,hlen.out,c1,c2];simpa using c3)
       skip
       go_wp2_with fail
       go_quiet (first|(refine za7 (zb8 _ _ _ _)))
       go_wp2;go_ret;exact⟨zac (by rw[R.out];try (simp;omega)),zaa B0 (zae G _)⟩
      have R:=Lib.hid (show zaj (a0,a1,a2,xs) tb=false by rw[HM.out,HF.out,hlen.out,c1,c2];simpa using c3)
      skip
      go_wp2_with fail
      go_quiet (first|(refine za7 (zb8 _ _ _ _)))
      go_wp2;go_ret;exact⟨zac (by rw[R.out];try (simp;omega)),zaa B0 (zae G _)⟩
     have R:=Lib.hid (show zaj (a0,a1,a2,xs) tb=true by rw[HM.out,HF.out,hlen.out,c1];simp[c2]);have d2:(a0 != 13)=true:=by simpa using c2
     skip
     go_wp2_with fail
     go_quiet (first|(refine za7 (zb8 _ _ _ _)))
     go_wp2;go_ret;exact⟨zac (by rw[R.out];try (simp;omega)),zaa B0 (zae G _)⟩
    have R:=Lib.hid (show zaj (a0,a1,a2,xs) tb=false by rw[HM.out,HF.out,hlen.out];simp[c1]);have d1:((n:Int) == ki)=false:=by simpa using c1
    skip
    go_wp2_with fail
    go_quiet (first|(refine za7 (zb8 _ _ _ _)))
    go_wp2;go_ret;exact⟨zac (by rw[R.out];try (simp;omega)),zaa B0 (zae G _)⟩
  have HL:=Lib.hid (decide_eq_false hle)
  by_cases h1:a1=0
  ·have HA:=Lib.hid (fun hb=>show M.aI (ki,lo,hi,li,hb) a1=true by rw[M.aI,if_neg hle];simpa using h1);have g1:(a1 != 0)=false:=(by simp[h1]);cases hb
   ·by_cases h2:a2=0
    ·have HB:=Lib.hid (show M.bI (ki,lo,hi,li,false) a2=true by rw[M.bI,if_neg (by simp)];simpa using h2);have g2:(a2 != 0)=false:=(by simp[h2]);have HM:=Lib.hid (show zaj (a0,a1,a2,xs) tb=(xs.all zax&&decide ((xs.length:Int)=ki)&&(decide (¬a0=13)||decide (a1<tb)))by rw[HN.out,(HA.out _),HB.out];rfl);go_wp2_with (first|(go_at_call 254;refine(zea _ _ _ _ _ _ _).mono ?_;rw[HL.out];rintro e v5 ⟨rfl,bel5⟩;have s5:=bel5.size;replace e0:v5.cell? ⟨g,0,none⟩=some (.string (M.kn j)):=(by rw[bel5.cell lg];exact e0);replace e1:v5.cell? ⟨g,1,none⟩=some (.int .i64 ki):=(by rw[bel5.cell lg];exact e1);replace e2:v5.cell? ⟨g,2,none⟩=some (.int .i64 lo):=(by rw[bel5.cell lg];exact e2);replace e3:v5.cell? ⟨g,3,none⟩=some (.int .i64 hi):=(by rw[bel5.cell lg];exact e3);replace e4:v5.cell? ⟨g,4,none⟩=some (.bool li):=(by rw[bel5.cell lg];exact e4);replace e5:v5.cell? ⟨g,5,none⟩=some (.bool false):=(by rw[bel5.cell lg];exact e5);replace p0:v5.cell? ⟨w.heap.size,0,none⟩=some (.int .i64 a0):=(by rw[bel5.cell lw];exact p0);replace p1:v5.cell? ⟨w.heap.size,1,none⟩=some (.int .i64 a1):=(by rw[bel5.cell lw];exact p1);replace p2:v5.cell? ⟨w.heap.size,2,none⟩=some (.int .i64 a2):=(by rw[bel5.cell lw];exact p2);replace p3:v5.cell? ⟨w.heap.size,3,none⟩=some (.slice A n c):=(by rw[bel5.cell lw];exact p3);replace hx1:=hx1.later bel5;replace lg:g<v5.heap.size:=(by omega);replace lw:w.heap.size<v5.heap.size:=(by omega);replace G:=zaa G bel5;clear bel5 s5)|(go_at_call 81;refine(zap _ _ _ _).mono ?_;rintro e w' ⟨rfl,rfl⟩))
     skip
     go_loop [7,63] (fun _ i=>∃k:Nat,i=.int .i64 k/\k<=n/\Hid (xs.all zax=(xs.drop k).all zax)) (fun _ i=>n-(intOf i).toNat)
     case atStart=>exact⟨0,rfl,by omega,Lib.hid (by simp)⟩
     case round=>
      obtain⟨k,rfl,hk,H⟩:=hrel
      by_cases hlt:k<n
      ·obtain⟨ad,x,rfl,hab,X,hc⟩:=hx1.at hlt;have hd:=Lib.hid (M.drop_at X.out);cases hs:M.inn x 0 23
       ·have R:=Lib.hid (show zaj (a0,a1,a2,xs) tb=false by rw[HM.out,H.out,hd.out,List.all_cons,zax,hs];rfl);go_wp2_with (go_at_call 81;refine(zap _ _ _ _).mono ?_;rintro e w' ⟨rfl,rfl⟩);go_ret;exact⟨zac (by rw[R.out]),zaa B0 G⟩
       have R:=Lib.hid (show xs.all zax=(xs.drop (k+1)).all zax by rw[H.out,hd.out,List.all_cons,zax,hs];rfl);go_wp2_with (go_at_call 81;refine(zap _ _ _ _).mono ?_;rintro e w' ⟨rfl,rfl⟩);go_round
       case rel=>exact⟨k+1,by go_num,by omega,R⟩
       case measure=>simp[intOf];omega
      have HF:=Lib.hid (show xs.all zax=true by rw[H.out,List.drop_eq_nil_of_le (by rw[hlen.out];omega)];rfl);clear H
      by_cases c1:(n:Int)=ki
      ·by_cases c2:a0=13
       ·have d1:decide ((n:Int)=ki)=true:=(by simpa using c1);have d2:(a0 != 13)=false:=by simp[c2]
        by_cases c3:a1<tb
        ·have R:=Lib.hid (show zaj (a0,a1,a2,xs) tb=true by rw[HM.out,HF.out,hlen.out,c1,c2];simpa using c3)
         skip
         go_wp2_with fail
         go_quiet (first|(refine za7 (zb8 _ _ _ _)))
         go_wp2;go_ret;exact⟨zac (by rw[R.out];try (simp;omega)),zaa B0 (zae G _)⟩
        have R:=Lib.hid (show zaj (a0,a1,a2,xs) tb=false by rw[HM.out,HF.out,hlen.out,c1,c2];simpa using c3)
        skip
        go_wp2_with fail
        go_quiet (first|(refine za7 (zb8 _ _ _ _)))
        go_wp2;go_ret;exact⟨zac (by rw[R.out];try (simp;omega)),zaa B0 (zae G _)⟩
       have R:=Lib.hid (show zaj (a0,a1,a2,xs) tb=true by rw[HM.out,HF.out,hlen.out,c1];simp[c2]);have d2:(a0 != 13)=true:=by simpa using c2
       skip
       go_wp2_with fail
       go_quiet (first|(refine za7 (zb8 _ _ _ _)))
       go_wp2;go_ret;exact⟨zac (by rw[R.out];try (simp;omega)),zaa B0 (zae G _)⟩
      have R:=Lib.hid (show zaj (a0,a1,a2,xs) tb=false by rw[HM.out,HF.out,hlen.out];simp[c1]);have d1:((n:Int) == ki)=false:=by simpa using c1
      skip
      go_wp2_with fail
      go_quiet (first|(refine za7 (zb8 _ _ _ _)))
      go_wp2;go_ret;exact⟨zac (by rw[R.out];try (simp;omega)),zaa B0 (zae G _)⟩
    have HB:=Lib.hid (show M.bI (ki,lo,hi,li,false) a2=false by rw[M.bI,if_neg (by simp)];simpa using h2);have g2:(a2 != 0)=true:=(by simpa using h2);have R:=Lib.hid (show zaj (a0,a1,a2,xs) tb=false by rw[HN.out,(HA.out _),HB.out];try rfl);go_wp2_with (first|(go_at_call 254;refine(zea _ _ _ _ _ _ _).mono ?_;rw[HL.out];rintro e v5 ⟨rfl,bel5⟩;have s5:=bel5.size;replace e0:v5.cell? ⟨g,0,none⟩=some (.string (M.kn j)):=(by rw[bel5.cell lg];exact e0);replace e1:v5.cell? ⟨g,1,none⟩=some (.int .i64 ki):=(by rw[bel5.cell lg];exact e1);replace e2:v5.cell? ⟨g,2,none⟩=some (.int .i64 lo):=(by rw[bel5.cell lg];exact e2);replace e3:v5.cell? ⟨g,3,none⟩=some (.int .i64 hi):=(by rw[bel5.cell lg];exact e3);replace e4:v5.cell? ⟨g,4,none⟩=some (.bool li):=(by rw[bel5.cell lg];exact e4);replace e5:v5.cell? ⟨g,5,none⟩=some (.bool false):=(by rw[bel5.cell lg];exact e5);replace p0:v5.cell? ⟨w.heap.size,0,none⟩=some (.int .i64 a0):=(by rw[bel5.cell lw];exact p0);replace p1:v5.cell? ⟨w.heap.size,1,none⟩=some (.int .i64 a1):=(by rw[bel5.cell lw];exact p1);replace p2:v5.cell? ⟨w.heap.size,2,none⟩=some (.int .i64 a2):=(by rw[bel5.cell lw];exact p2);replace p3:v5.cell? ⟨w.heap.size,3,none⟩=some (.slice A n c):=(by rw[bel5.cell lw];exact p3);replace hx1:=hx1.later bel5;replace lg:g<v5.heap.size:=(by omega);replace lw:w.heap.size<v5.heap.size:=(by omega);replace G:=zaa G bel5;clear bel5 s5)|(go_at_call 81;refine(zap _ _ _ _).mono ?_;rintro e w' ⟨rfl,rfl⟩));go_ret;exact⟨zac (by rw[R.out]),zaa B0 G⟩
   cases h2:M.inn a2 1 16
   ·have HB:=Lib.hid (show M.bI (ki,lo,hi,li,true) a2=false by rw[M.bI,if_pos rfl,h2]);have R:=Lib.hid (show zaj (a0,a1,a2,xs) tb=false by rw[HN.out,(HA.out _),HB.out];try rfl);go_wp2_with (first|(go_at_call 254;refine(zea _ _ _ _ _ _ _).mono ?_;rw[HL.out];rintro e v5 ⟨rfl,bel5⟩;have s5:=bel5.size;replace e0:v5.cell? ⟨g,0,none⟩=some (.string (M.kn j)):=(by rw[bel5.cell lg];exact e0);replace e1:v5.cell? ⟨g,1,none⟩=some (.int .i64 ki):=(by rw[bel5.cell lg];exact e1);replace e2:v5.cell? ⟨g,2,none⟩=some (.int .i64 lo):=(by rw[bel5.cell lg];exact e2);replace e3:v5.cell? ⟨g,3,none⟩=some (.int .i64 hi):=(by rw[bel5.cell lg];exact e3);replace e4:v5.cell? ⟨g,4,none⟩=some (.bool li):=(by rw[bel5.cell lg];exact e4);replace e5:v5.cell? ⟨g,5,none⟩=some (.bool true):=(by rw[bel5.cell lg];exact e5);replace p0:v5.cell? ⟨w.heap.size,0,none⟩=some (.int .i64 a0):=(by rw[bel5.cell lw];exact p0);replace p1:v5.cell? ⟨w.heap.size,1,none⟩=some (.int .i64 a1):=(by rw[bel5.cell lw];exact p1);replace p2:v5.cell? ⟨w.heap.size,2,none⟩=some (.int .i64 a2):=(by rw[bel5.cell lw];exact p2);replace p3:v5.cell? ⟨w.heap.size,3,none⟩=some (.slice A n c):=(by rw[bel5.cell lw];exact p3);replace hx1:=hx1.later bel5;replace lg:g<v5.heap.size:=(by omega);replace lw:w.heap.size<v5.heap.size:=(by omega);replace G:=zaa G bel5;clear bel5 s5)|(go_at_call 81;refine(zap _ _ _ _).mono ?_;rintro e w' ⟨rfl,rfl⟩));go_ret;exact⟨zac (by rw[R.out]),zaa B0 G⟩
   have HB:=Lib.hid (show M.bI (ki,lo,hi,li,true) a2=true by rw[M.bI,if_pos rfl,h2]);have HM:=Lib.hid (show zaj (a0,a1,a2,xs) tb=(xs.all zax&&decide ((xs.length:Int)=ki)&&(decide (¬a0=13)||decide (a1<tb)))by rw[HN.out,(HA.out _),HB.out];rfl);go_wp2_with (first|(go_at_call 254;refine(zea _ _ _ _ _ _ _).mono ?_;rw[HL.out];rintro e v5 ⟨rfl,bel5⟩;have s5:=bel5.size;replace e0:v5.cell? ⟨g,0,none⟩=some (.string (M.kn j)):=(by rw[bel5.cell lg];exact e0);replace e1:v5.cell? ⟨g,1,none⟩=some (.int .i64 ki):=(by rw[bel5.cell lg];exact e1);replace e2:v5.cell? ⟨g,2,none⟩=some (.int .i64 lo):=(by rw[bel5.cell lg];exact e2);replace e3:v5.cell? ⟨g,3,none⟩=some (.int .i64 hi):=(by rw[bel5.cell lg];exact e3);replace e4:v5.cell? ⟨g,4,none⟩=some (.bool li):=(by rw[bel5.cell lg];exact e4);replace e5:v5.cell? ⟨g,5,none⟩=some (.bool true):=(by rw[bel5.cell lg];exact e5);replace p0:v5.cell? ⟨w.heap.size,0,none⟩=some (.int .i64 a0):=(by rw[bel5.cell lw];exact p0);replace p1:v5.cell? ⟨w.heap.size,1,none⟩=some (.int .i64 a1):=(by rw[bel5.cell lw];exact p1);replace p2:v5.cell? ⟨w.heap.size,2,none⟩=some (.int .i64 a2):=(by rw[bel5.cell lw];exact p2);replace p3:v5.cell? ⟨w.heap.size,3,none⟩=some (.slice A n c):=(by rw[bel5.cell lw];exact p3);replace hx1:=hx1.later bel5;replace lg:g<v5.heap.size:=(by omega);replace lw:w.heap.size<v5.heap.size:=(by omega);replace G:=zaa G bel5;clear bel5 s5)|(go_at_call 81;refine(zap _ _ _ _).mono ?_;rintro e w' ⟨rfl,rfl⟩))
   skip
   go_loop [7,63] (fun _ i=>∃k:Nat,i=.int .i64 k/\k<=n/\Hid (xs.all zax=(xs.drop k).all zax)) (fun _ i=>n-(intOf i).toNat)
   case atStart=>exact⟨0,rfl,by omega,Lib.hid (by simp)⟩
   case round=>
    obtain⟨k,rfl,hk,H⟩:=hrel
    by_cases hlt:k<n
    ·obtain⟨ad,x,rfl,hab,X,hc⟩:=hx1.at hlt;have hd:=Lib.hid (M.drop_at X.out);cases hs:M.inn x 0 23
     ·have R:=Lib.hid (show zaj (a0,a1,a2,xs) tb=false by rw[HM.out,H.out,hd.out,List.all_cons,zax,hs];rfl);go_wp2_with (go_at_call 81;refine(zap _ _ _ _).mono ?_;rintro e w' ⟨rfl,rfl⟩);go_ret;exact⟨zac (by rw[R.out]),zaa B0 G⟩
     have R:=Lib.hid (show xs.all zax=(xs.drop (k+1)).all zax by rw[H.out,hd.out,List.all_cons,zax,hs];rfl);go_wp2_with (go_at_call 81;refine(zap _ _ _ _).mono ?_;rintro e w' ⟨rfl,rfl⟩);go_round
     case rel=>exact⟨k+1,by go_num,by omega,R⟩
     case measure=>simp[intOf];omega
    have HF:=Lib.hid (show xs.all zax=true by rw[H.out,List.drop_eq_nil_of_le (by rw[hlen.out];omega)];rfl);clear H
    by_cases c1:(n:Int)=ki
    ·by_cases c2:a0=13
     ·have d1:decide ((n:Int)=ki)=true:=(by simpa using c1);have d2:(a0 != 13)=false:=by simp[c2]
      by_cases c3:a1<tb
      ·have R:=Lib.hid (show zaj (a0,a1,a2,xs) tb=true by rw[HM.out,HF.out,hlen.out,c1,c2];simpa using c3)
       skip
       go_wp2_with fail
       go_quiet (first|(refine za7 (zb8 _ _ _ _)))
       go_wp2;go_ret;exact⟨zac (by rw[R.out];try (simp;omega)),zaa B0 (zae G _)⟩
      have R:=Lib.hid (show zaj (a0,a1,a2,xs) tb=false by rw[HM.out,HF.out,hlen.out,c1,c2];simpa using c3)
      skip
      go_wp2_with fail
      go_quiet (first|(refine za7 (zb8 _ _ _ _)))
      go_wp2;go_ret;exact⟨zac (by rw[R.out];try (simp;omega)),zaa B0 (zae G _)⟩
     have R:=Lib.hid (show zaj (a0,a1,a2,xs) tb=true by rw[HM.out,HF.out,hlen.out,c1];simp[c2]);have d2:(a0 != 13)=true:=by simpa using c2
     skip
     go_wp2_with fail
     go_quiet (first|(refine za7 (zb8 _ _ _ _)))
     go_wp2;go_ret;exact⟨zac (by rw[R.out];try (simp;omega)),zaa B0 (zae G _)⟩
    have R:=Lib.hid (show zaj (a0,a1,a2,xs) tb=false by rw[HM.out,HF.out,hlen.out];simp[c1]);have d1:((n:Int) == ki)=false:=by simpa using c1
    skip
    go_wp2_with fail
    go_quiet (first|(refine za7 (zb8 _ _ _ _)))
    go_wp2;go_ret;exact⟨zac (by rw[R.out];try (simp;omega)),zaa B0 (zae G _)⟩
  have HA:=Lib.hid (show M.aI (ki,lo,hi,li,hb) a1=false by rw[M.aI,if_neg hle];simpa using h1);have g1:(a1 != 0)=true:=by simpa using h1
  have R:=Lib.hid (show zaj (a0,a1,a2,xs) tb=false by rw[HN.out,HA.out];try rfl);go_wp2_with (first|(go_at_call 254;refine(zea _ _ _ _ _ _ _).mono ?_;rw[HL.out];rintro e v5 ⟨rfl,bel5⟩;have s5:=bel5.size;replace e0:v5.cell? ⟨g,0,none⟩=some (.string (M.kn j)):=(by rw[bel5.cell lg];exact e0);replace e1:v5.cell? ⟨g,1,none⟩=some (.int .i64 ki):=(by rw[bel5.cell lg];exact e1);replace e2:v5.cell? ⟨g,2,none⟩=some (.int .i64 lo):=(by rw[bel5.cell lg];exact e2);replace e3:v5.cell? ⟨g,3,none⟩=some (.int .i64 hi):=(by rw[bel5.cell lg];exact e3);replace e4:v5.cell? ⟨g,4,none⟩=some (.bool li):=(by rw[bel5.cell lg];exact e4);replace e5:v5.cell? ⟨g,5,none⟩=some (.bool hb):=(by rw[bel5.cell lg];exact e5);replace p0:v5.cell? ⟨w.heap.size,0,none⟩=some (.int .i64 a0):=(by rw[bel5.cell lw];exact p0);replace p1:v5.cell? ⟨w.heap.size,1,none⟩=some (.int .i64 a1):=(by rw[bel5.cell lw];exact p1);replace p2:v5.cell? ⟨w.heap.size,2,none⟩=some (.int .i64 a2):=(by rw[bel5.cell lw];exact p2);replace p3:v5.cell? ⟨w.heap.size,3,none⟩=some (.slice A n c):=(by rw[bel5.cell lw];exact p3);replace hx1:=hx1.later bel5;replace lg:g<v5.heap.size:=(by omega);replace lw:w.heap.size<v5.heap.size:=(by omega);replace G:=zaa G bel5;clear bel5 s5)|(go_at_call 81;refine(zap _ _ _ _).mono ?_;rintro e w' ⟨rfl,rfl⟩));go_ret;exact⟨zac (by rw[R.out]),zaa B0 G⟩
end Go.Proofs.YtifeldeikhmckaaGreat
