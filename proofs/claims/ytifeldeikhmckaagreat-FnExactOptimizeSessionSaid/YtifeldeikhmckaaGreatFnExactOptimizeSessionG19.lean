import Derived.Test.YtifeldeikhmckaaGreatFnExactOptimizeSessionG18
import Derived.Lib.QuietBelow
import Derived.Deep.RegionWith
import Derived.Test.YtifeldeikhmckaaGreatFnExactOptimizeSessionG8
import Derived.Test.YtifeldeikhmckaaGreatFnExactOptimizeSessionG13
import Derived.Test.YtifeldeikhmckaaGreatFnExactOptimizeSessionG15
set_option linter.unusedVariables false
set_option linter.unusedSimpArgs false
set_option maxRecDepth 100000
set_option maxHeartbeats 4000000
namespace Go.Proofs.YtifeldeikhmckaaGreat
open Go.RowKit Go.Sort
set_option synthInstance.maxSize 2000
set_option synthInstance.maxHeartbeats 400000
theorem zlt(a0:Int)(A1:Yo)(n1 c1:Nat)(A2:Yo)(n2 c2:Nat)(A3:Yo)(n3 c3:Nat)(x1:List (List Int))(x2:List Node)(x3:List Int)(w:Yw)(h1:tSS.R w w.heap.size [.slice A1 n1 c1] x1)(h2:tNS.R w w.heap.size [.slice A2 n2 c2] x2)(h3:tS.R w w.heap.size [.slice A3 n3 c3] x3)(hn:hP.sz ((a0,x1,x2,x3):zad)<=100000000):
 Calls Tryz.prog 196 #[.agg #[.int .i64 a0,.slice A1 n1 c1,.slice A2 n2 c2,.slice A3 n3 c3]] w fun e w'=>e=.returned (.bool (za6 (a0,x1,x2,x3)))/\Below w.heap.size w w':=by
 obtain⟨W,hW⟩:∃W,W=w.alloc (.cells #[.int .i64 a0,.slice A1 n1 c1,.slice A2 n2 c2,.slice A3 n3 c3] 67):=⟨_,rfl⟩;have B0:Below w.heap.size w W:=by rw[hW];exact(Below.refl _ _).alloc (Nat.le_refl _) _
 have p0:W.cell? ⟨w.heap.size,0,none⟩=some (.int .i64 a0):=by rw[hW];simp[go_sem]
 have p1:W.cell? ⟨w.heap.size,1,none⟩=some (.slice A1 n1 c1):=by rw[hW];simp[go_sem]
 have p2:W.cell? ⟨w.heap.size,2,none⟩=some (.slice A2 n2 c2):=by rw[hW];simp[go_sem]
 have p3:W.cell? ⟨w.heap.size,3,none⟩=some (.slice A3 n3 c3):=by rw[hW];simp[go_sem]
 have lx:w.heap.size<W.heap.size:=by rw[hW];simp
 have HW:=Lib.hid hW;clear hW;have k1:=tSS.later h1 B0;have k2:=tNS.later h2 B0;have k3:=tS.later h3 B0;have r1:=sl_R.1 k1;have r2:=sl_R.1 k2;have hx3:=(tS_R.1 k3).ri;have L1:=Lib.hid r1.cap.1;have L2:=Lib.hid r2.cap.1;have L3:=Lib.hid (zcn h3);have hnn:=hn;rw[zco,zbi]at hnn;have hb2:hNS.sz x2<=100000000:=by omega
 have hq1:x1.length+hS.szL x1=hSS.sz x1:=rfl
 have hb1:Hid (∀x∈x1,x.length<=1000000000):=Lib.hid (fun x hx=>by
  obtain⟨i,hi⟩:=List.getElem?_of_mem hx;have:=hS.szL_at hi;rw[zbi]at this;omega)
 have bn1:n1<=100000000:=by have:=L1.out;omega
 have bn2:n2<=100000000:=by have e:x2.length+hN.szL x2=hNS.sz x2:=rfl;have:=L2.out;omega
 have bn3:n3<=100000000:=by have:=L3.out;omega
 clear hnn hq1;clear hn h1 h2 h3 k1 k2 k3;cases g0:M.inn a0 0 4
 ·have R:=Lib.hid (show za6 (a0,x1,x2,x3)=false by rw[za6];simp only[L1.out,L2.out,L3.out,g0,Bool.false_and,Bool.and_false,Bool.true_and]);have G0:=Lib.hid g0;clear g0
  go_enter Tryz.func196,Tryz.ntmps196
  go_wp2_with fail;rw[<-HW.out];go_wp2_with (first|(go_at_call 150;refine(zey _ _ _ _).mono ?_;rintro e w' ⟨rfl,rfl⟩)|(go_at_call 169;refine(zb8 _ _ _ _).mono ?_;rintro e w' ⟨rfl,rfl⟩)|(go_at_call 81;refine(zap _ _ _ _).mono ?_;rw[G0.out];rintro e w' ⟨rfl,rfl⟩));go_ret;exact⟨zac (by rw[R.out]),B0⟩
 have G0:=Lib.hid g0;clear g0;cases g1:zbt x1
 ·have R:=Lib.hid (show za6 (a0,x1,x2,x3)=false by rw[za6];simp only[L1.out,L2.out,L3.out,G0.out,g1,Bool.false_and,Bool.and_false,Bool.true_and]);have G1:=Lib.hid g1;clear g1
  go_enter Tryz.func196,Tryz.ntmps196
  go_wp2_with fail;rw[<-HW.out];go_wp2_with (first|(go_at_call 150;refine(zey _ _ _ _).mono ?_;rintro e w' ⟨rfl,rfl⟩)|(go_at_call 169;refine(zb8 _ _ _ _).mono ?_;rintro e w' ⟨rfl,rfl⟩)|(go_at_call 81;refine(zap _ _ _ _).mono ?_;rw[G0.out];rintro e w' ⟨rfl,rfl⟩)|(go_at_call 234;refine(zgo _ _ _ _ _ r1 hb1 (by omega)).mono ?_;rw[G1.out];rintro e w' ⟨rfl,rfl⟩));go_ret;exact⟨zac (by rw[R.out]),B0⟩
 have G1:=Lib.hid g1;clear g1
 by_cases g2:¬n2<=24
 ·have R:=Lib.hid (show za6 (a0,x1,x2,x3)=false by rw[za6];simp only[L1.out,L2.out,L3.out,G0.out,G1.out,decide_eq_false g2,Bool.false_and,Bool.and_false,Bool.true_and])
  go_enter Tryz.func196,Tryz.ntmps196
  go_wp2_with fail;rw[<-HW.out];go_wp2_with (first|(go_at_call 150;refine(zey _ _ _ _).mono ?_;rintro e w' ⟨rfl,rfl⟩)|(go_at_call 169;refine(zb8 _ _ _ _).mono ?_;rintro e w' ⟨rfl,rfl⟩)|(go_at_call 81;refine(zap _ _ _ _).mono ?_;rw[G0.out];rintro e w' ⟨rfl,rfl⟩)|(go_at_call 234;refine(zgo _ _ _ _ _ r1 hb1 (by omega)).mono ?_;rw[G1.out];rintro e w' ⟨rfl,rfl⟩));go_ret;exact⟨zac (by rw[R.out]),B0⟩
 replace g2:n2<=24:=Decidable.not_not.1 g2
 by_cases g3:¬n3<=4
 ·have R:=Lib.hid (show za6 (a0,x1,x2,x3)=false by rw[za6];simp only[L1.out,L2.out,L3.out,G0.out,G1.out,decide_eq_true g2,decide_eq_false g3,Bool.false_and,Bool.and_false,Bool.true_and])
  go_enter Tryz.func196,Tryz.ntmps196
  go_wp2_with fail;rw[<-HW.out];go_wp2_with (first|(go_at_call 150;refine(zey _ _ _ _).mono ?_;rintro e w' ⟨rfl,rfl⟩)|(go_at_call 169;refine(zb8 _ _ _ _).mono ?_;rintro e w' ⟨rfl,rfl⟩)|(go_at_call 81;refine(zap _ _ _ _).mono ?_;rw[G0.out];rintro e w' ⟨rfl,rfl⟩)|(go_at_call 234;refine(zgo _ _ _ _ _ r1 hb1 (by omega)).mono ?_;rw[G1.out];rintro e w' ⟨rfl,rfl⟩));go_ret;exact⟨zac (by rw[R.out]),B0⟩
 replace g3:n3<=4:=Decidable.not_not.1 g3;cases g4:x3.all (zbh n2)
 ·have R:=Lib.hid (show za6 (a0,x1,x2,x3)=false by rw[za6];simp only[L1.out,L2.out,L3.out,G0.out,G1.out,decide_eq_true g2,decide_eq_true g3,g4,Bool.false_and,Bool.and_false,Bool.true_and]);have G4:=Lib.hid g4;clear g4
  go_enter Tryz.func196,Tryz.ntmps196
  go_wp2_with fail;rw[<-HW.out];go_wp2_with (first|(go_at_call 150;refine(zey _ _ _ _).mono ?_;rintro e w' ⟨rfl,rfl⟩)|(go_at_call 169;refine(zb8 _ _ _ _).mono ?_;rintro e w' ⟨rfl,rfl⟩)|(go_at_call 81;refine(zap _ _ _ _).mono ?_;rw[G0.out];rintro e w' ⟨rfl,rfl⟩)|(go_at_call 234;refine(zgo _ _ _ _ _ r1 hb1 (by omega)).mono ?_;rw[G1.out];rintro e w' ⟨rfl,rfl⟩)|(go_at_call 84;refine(zfs _ _ _ _ _ _ hx3 (by omega) (by omega)).mono ?_;rw[G4.out];rintro e w' ⟨rfl,rfl⟩));go_ret;exact⟨zac (by rw[R.out]),B0⟩
 have G4:=Lib.hid g4;clear g4;have HF:=Lib.hid (show za6 (a0,x1,x2,x3)=x2.all (zbm n1 n2 a0)by rw[za6];simp only[L1.out,L2.out,L3.out,G0.out,G1.out,decide_eq_true g2,decide_eq_true g3,G4.out,Bool.true_and])
 go_enter Tryz.func196,Tryz.ntmps196
 go_wp2_with fail;rw[<-HW.out];go_wp2_with (first|(go_at_call 150;refine(zey _ _ _ _).mono ?_;rintro e w' ⟨rfl,rfl⟩)|(go_at_call 169;refine(zb8 _ _ _ _).mono ?_;rintro e w' ⟨rfl,rfl⟩)|(go_at_call 81;refine(zap _ _ _ _).mono ?_;rw[G0.out];rintro e w' ⟨rfl,rfl⟩)|(go_at_call 234;refine(zgo _ _ _ _ _ r1 hb1 (by omega)).mono ?_;rw[G1.out];rintro e w' ⟨rfl,rfl⟩)|(go_at_call 84;refine(zfs _ _ _ _ _ _ hx3 (by omega) (by omega)).mono ?_;rw[G4.out];rintro e w' ⟨rfl,rfl⟩))
 go_loopw [39] (fun i wr=>∃k:Nat,i=.int .i64 k/\k<=n2/\Hid (x2.all (zbm n1 n2 a0)=(x2.drop k).all (zbm n1 n2 a0))/\Below W.heap.size W wr) (fun i _=>n2-(intOf i).toNat)
 case atStart=>exact⟨0,rfl,by omega,Lib.hid (by simp),Below.refl _ _⟩
 case round=>
  obtain⟨k,rfl,hk,H,Bw⟩:=hrel;have BW:=zaa B0 Bw
  by_cases hlt:k<n2
  ·obtain⟨bb,o1,b0,b1,b2,A5,c5,y3,rfl,hbb,X,e0,e1,e2,e3,hr3,h3b⟩:=zfd (r2.below Bw) hb2 hlt;have hd:=Lib.hid (M.drop_at X.out);obtain⟨U,hU⟩:∃U,U=wr.alloc (.cells #[.int .i64 b0,.int .i64 b1,.int .i64 b2,.slice A5 y3.length c5] 169):=⟨_,rfl⟩;have GU:Below wr.heap.size wr U:=(by rw[hU];exact(Below.refl _ _).alloc (Nat.le_refl _) _);have u0:U.cell? ⟨wr.heap.size,0,none⟩=some (.int .i64 b0):=(by rw[hU,cell_of_row _ wr.heap.size 0 _ 169 (0,0) (heap_alloc_new wr _)];rfl);have u1:U.cell? ⟨wr.heap.size,1,none⟩=some (.int .i64 b1):=(by rw[hU,cell_of_row _ wr.heap.size 1 _ 169 (0,0) (heap_alloc_new wr _)];rfl);have u2:U.cell? ⟨wr.heap.size,2,none⟩=some (.int .i64 b2):=(by rw[hU,cell_of_row _ wr.heap.size 2 _ 169 (0,0) (heap_alloc_new wr _)];rfl);have u3:U.cell? ⟨wr.heap.size,3,none⟩=some (.slice A5 y3.length c5):=(by rw[hU,cell_of_row _ wr.heap.size 3 _ 169 (0,0) (heap_alloc_new wr _)];rfl);have BU:=zaa Bw GU;have q0:U.cell? ⟨w.heap.size,0,none⟩=some (.int .i64 a0):=(by rw[BU.cell lx];exact p0);have q1:U.cell? ⟨w.heap.size,1,none⟩=some (.slice A1 n1 c1):=(by rw[BU.cell lx];exact p1);have q2:U.cell? ⟨w.heap.size,2,none⟩=some (.slice (some ⟨bb,o1,none⟩) n2 c2):=(by rw[BU.cell lx];exact p2);have HU:=Lib.hid hU;clear hU;have hry:=(hr3.more Bw.size).later GU;have hk0:(0:Int)<=(k:Int):=(by omega);have hkn:(k:Int)<(n2:Int):=(by omega);have uu0:=cell_regrown u0;have uu1:=cell_regrown u1;have uu2:=cell_regrown u2;have uu3:=cell_regrown u3;have qq0:=cell_regrown q0;have qq1:=cell_regrown q1;have qq2:=cell_regrown q2;have cS:∀d os,Calls Tryz.prog 88 #[.slice A1 n1 c1] (grow (redrawn U d) os) fun e w''=>e=.returned (.int .i64 n1)/\∃p:Regrown,w''=grow (redrawn U p.d) p.os:=fun d os=>Calls.regrown_of (zfo (zld _ _ _ _))
   have cN:∀d os,Calls Tryz.prog 235 #[.agg #[.int .i64 b0,.int .i64 b1,.int .i64 b2,.slice A5 y3.length c5],.int .i64 n1] (grow (redrawn U d) os) fun e w''=>e=.returned (.bool (zaj (b0,b1,b2,y3) n1))/\∃p:Regrown,w''=grow (redrawn U p.d) p.os:=fun d os=>Calls.regrown_of (zr4 _ _ _ _ _ _ _ _ _ (hry.later (below_regrown U d os)) (by omega))
   have cI:∀d os,Calls Tryz.prog 84 #[.slice A5 y3.length c5,.int .i64 n2] (grow (redrawn U d) os) fun e w''=>e=.returned (.bool (y3.all (zbh n2)))/\∃p:Regrown,w''=grow (redrawn U p.d) p.os:=fun d os=>Calls.regrown_of (zfo (zfs _ _ _ _ _ _ (hry.later (below_regrown U d os)) (by omega) (by omega)))
   have fin:=fun d os=>zaa BW (zaa GU (below_regrown U d os))
   clear u0 u1 u2 u3 q0 q1 q2;cases hok:zaj (b0,b1,b2,y3) n1
   ·have R:=Lib.hid (show za6 (a0,x1,x2,x3)=false by rw[HF.out,H.out,hd.out,List.all_cons,zbm];simp only[hok,Bool.false_and,Bool.and_false,Bool.true_and,Bool.not_true,Bool.not_false,Bool.and_self]);rw[hok]at cN;clear hok;go_wp2_with fail;rw[<-HU.out];clear e0 e1 e2 e3
    (refine wp_region_quiet_below (by kernel_rfl) (by kernel_rfl) ?_;(repeat (go_big_quiet_step ((first|exact cS _ _|exact cN _ _|exact cI _ _))));refine wpQuiet_nil ?_;intro _ hw';obtain⟨⟨dq,osq⟩,hw''⟩:=hw';subst hw'')
    go_wp2;go_ret;exact⟨zac (by rw[R.out]),fin dq osq⟩
   rw[hok]at cN;have HK:=Lib.hid hok;clear hok;cases hid:y3.all (zbh n2)
   ·have R:=Lib.hid (show za6 (a0,x1,x2,x3)=false by rw[HF.out,H.out,hd.out,List.all_cons,zbm];simp only[HK.out,hid,Bool.false_and,Bool.and_false,Bool.true_and,Bool.not_true,Bool.not_false,Bool.and_self]);rw[hid]at cI;clear hid;go_wp2_with fail;rw[<-HU.out];clear e0 e1 e2 e3
    (refine wp_region_quiet_below (by kernel_rfl) (by kernel_rfl) ?_;(repeat (go_big_quiet_step ((first|exact cS _ _|exact cN _ _|exact cI _ _))));refine wpQuiet_nil ?_;intro _ hw';obtain⟨⟨dq,osq⟩,hw''⟩:=hw';subst hw'')
    go_wp2;go_ret;exact⟨zac (by rw[R.out]),fin dq osq⟩
   rw[hid]at cI;have HI:=Lib.hid hid;clear hid
   by_cases hb0:b0=1
   ·by_cases hin:a0<=b1
    ·have R:=Lib.hid (show za6 (a0,x1,x2,x3)=false by rw[HF.out,H.out,hd.out,List.all_cons,zbm];simp only[HK.out,HI.out,decide_eq_true hb0,decide_eq_true hin,Bool.false_and,Bool.and_false,Bool.true_and,Bool.not_true,Bool.not_false,Bool.and_self]);subst hb0;go_wp2_with fail;rw[<-HU.out];clear e0 e1 e2 e3
     (refine wp_region_quiet_below (by kernel_rfl) (by kernel_rfl) ?_;(repeat (go_big_quiet_step ((first|exact cS _ _|exact cN _ _|exact cI _ _))));refine wpQuiet_nil ?_;intro _ hw';obtain⟨⟨dq,osq⟩,hw''⟩:=hw';subst hw'')
     go_wp2;go_ret;exact⟨zac (by rw[R.out]),fin dq osq⟩
    have R:=Lib.hid (show x2.all (zbm n1 n2 a0)=(x2.drop (k+1)).all (zbm n1 n2 a0)by rw[H.out,hd.out,List.all_cons,zbm];simp only[HK.out,HI.out,decide_eq_true hb0,decide_eq_false hin,Bool.and_false,Bool.not_false,Bool.and_self,Bool.true_and]);have hna:¬b1≥a0:=hin;subst hb0;go_wp2_with fail;rw[<-HU.out];clear e0 e1 e2 e3
    (refine wp_region_quiet_below (by kernel_rfl) (by kernel_rfl) ?_;(repeat (go_big_quiet_step ((first|exact cS _ _|exact cN _ _|exact cI _ _))));refine wpQuiet_nil ?_;intro _ hw';obtain⟨⟨dq,osq⟩,hw''⟩:=hw';subst hw'')
    go_wp2;go_roundw
    case rel=>exact⟨k+1,by go_num,by omega,R,zaa Bw (zaa GU (below_regrown U dq osq))⟩
    case measure=>simp[intOf];omega
   have R:=Lib.hid (show x2.all (zbm n1 n2 a0)=(x2.drop (k+1)).all (zbm n1 n2 a0)by rw[H.out,hd.out,List.all_cons,zbm];simp only[HK.out,HI.out,decide_eq_false hb0,Bool.false_and,Bool.not_false,Bool.and_self,Bool.true_and]);have gb0:(b0 == 1)=false:=(by simpa using hb0);go_wp2_with fail;rw[<-HU.out];clear e0 e1 e2 e3
   (refine wp_region_quiet_below (by kernel_rfl) (by kernel_rfl) ?_;(repeat (go_big_quiet_step ((first|exact cS _ _|exact cN _ _|exact cI _ _))));refine wpQuiet_nil ?_;intro _ hw';obtain⟨⟨dq,osq⟩,hw''⟩:=hw';subst hw'')
   go_wp2;go_roundw
   case rel=>exact⟨k+1,by go_num,by omega,R,zaa Bw (zaa GU (below_regrown U dq osq))⟩
   case measure=>simp[intOf];omega
  have R:=Lib.hid (show za6 (a0,x1,x2,x3)=true by rw[HF.out,H.out,List.drop_eq_nil_of_le (by rw[L2.out];omega)];rfl);go_wp2;go_ret;exact⟨zac (by rw[R.out]),BW⟩
theorem zgp(a0:Int)(A1:Yo)(n1 c1:Nat)(A2:Yo)(n2 c2:Nat)(A3:Yo)(n3 c3:Nat)(x1:List (List Int))(x2:List Node)(x3:List Int)(w:Yw)(h1:tSS.R w w.heap.size [.slice A1 n1 c1] x1)(h2:tNS.R w w.heap.size [.slice A2 n2 c2] x2)(h3:tS.R w w.heap.size [.slice A3 n3 c3] x3)(hn:hP.sz ((a0,x1,x2,x3):zad)<=100000000):
 Calls Tryz.prog 145 #[.agg #[.int .i64 a0,.slice A1 n1 c1,.slice A2 n2 c2,.slice A3 n3 c3]] w fun e w'=>e=.returned (.bool (zcd (a0,x1,x2,x3)))/\Below w.heap.size w w':=by
 obtain⟨W,hW⟩:∃W,W=w.alloc (.cells #[.int .i64 a0,.slice A1 n1 c1,.slice A2 n2 c2,.slice A3 n3 c3] 67):=⟨_,rfl⟩;have B0:Below w.heap.size w W:=by rw[hW];exact(Below.refl _ _).alloc (Nat.le_refl _) _
 have p0:W.cell? ⟨w.heap.size,0,none⟩=some (.int .i64 a0):=by rw[hW];simp[go_sem]
 have p1:W.cell? ⟨w.heap.size,1,none⟩=some (.slice A1 n1 c1):=by rw[hW];simp[go_sem]
 have p2:W.cell? ⟨w.heap.size,2,none⟩=some (.slice A2 n2 c2):=by rw[hW];simp[go_sem]
 have p3:W.cell? ⟨w.heap.size,3,none⟩=some (.slice A3 n3 c3):=by rw[hW];simp[go_sem]
 have lx:w.heap.size<W.heap.size:=by rw[hW];simp
 have HW:=Lib.hid hW;clear hW;have k1:=tSS.later h1 B0;have k2:=tNS.later h2 B0;have k3:=tS.later h3 B0;have r1:=sl_R.1 k1;have r2:=sl_R.1 k2;have hx3:=(tS_R.1 k3).ri;have L1:=Lib.hid r1.cap.1;have L2:=Lib.hid r2.cap.1;have L3:=Lib.hid (zcn h3);have hnn:=hn;rw[zco,zbi]at hnn;have hb2:hNS.sz x2<=100000000:=by omega
 have hq1:x1.length+hS.szL x1=hSS.sz x1:=rfl
 have hb1:Hid (∀x∈x1,x.length<=1000000000):=Lib.hid (fun x hx=>by
  obtain⟨i,hi⟩:=List.getElem?_of_mem hx;have:=hS.szL_at hi;rw[zbi]at this;omega)
 have bn1:n1<=100000000:=by have:=L1.out;omega
 have bn2:n2<=100000000:=by have e:x2.length+hN.szL x2=hNS.sz x2:=rfl;have:=L2.out;omega
 have bn3:n3<=100000000:=by have:=L3.out;omega
 clear hnn hq1;have D1:Below W.heap.size W W.drew:=zae (Below.refl _ _) 1;have hsd:W.drew.heap.size=W.heap.size:=rfl;cases g0:za6 (a0,x1,x2,x3)
 ·have R:=Lib.hid (show zcd (a0,x1,x2,x3)=false by rw[zcd,g0];rfl);have cF:∀d os,Calls Tryz.prog 196 #[.agg #[.int .i64 a0,.slice A1 n1 c1,.slice A2 n2 c2,.slice A3 n3 c3]] (grow (redrawn W d) os) fun e w''=>e=.returned (.bool false)/\∃p:Regrown,w''=grow (redrawn W p.d) p.os:=fun d os=>Calls.regrown_of (by rw[<-g0];exact zlt _ _ _ _ _ _ _ _ _ _ _ _ _ _ (tSS.later k1 (below_regrown W d os)) (tNS.later k2 (below_regrown W d os)) (tS.later k3 (below_regrown W d os)) hn)
  have qq0:=cell_regrown p0;have qq1:=cell_regrown p1;have qq2:=cell_regrown p2;have qq3:=cell_regrown p3;clear p0 p1 p2 p3 g0 h1 h2 h3
  go_enter Tryz.func145,Tryz.ntmps145
  go_wp2_with fail;rw[<-HW.out]
  (refine wp_region_quiet_below (by kernel_rfl) (by kernel_rfl) ?_;(repeat (go_big_quiet_step (exact cF _ _)));refine wpQuiet_nil ?_;intro _ hw';obtain⟨⟨dq,osq⟩,hw''⟩:=hw';subst hw'')
  go_wp2;go_ret;exact⟨zac (by rw[R.out]),zaa B0 (below_regrown W dq osq)⟩
 have G0:=Lib.hid g0;have R:=Lib.hid (show zcd (a0,x1,x2,x3)=decide ((zca x2).length=n2)by rw[zcd,g0,L2.out];rfl)
 have HI:=Lib.hid (show ∀x∈x2,∀f∈x.2.2.2,zbh n2 f=true by
  rw[za6]at g0;simp only[Bool.and_eq_true,L2.out]at g0;intro x hx f hf;have h4:=List.all_eq_true.1 g0.2 x hx;rw[zbm]at h4;simp only[Bool.and_eq_true]at h4;exact List.all_eq_true.1 h4.1.2 f hf)
 clear g0 h1 h2 h3;generalize hO:zca x2=O at R;have HO:=Lib.hid hO;clear hO;have Dn:∀m,Below W.heap.size W (W.drewN m):=fun m=>zae (Below.refl _ _) m
 go_enter Tryz.func145,Tryz.ntmps145
 go_wp2_with fail;rw[<-HW.out]
 go_region_with (first
  | (go_at_call 196;refine(zlt _ _ _ _ _ _ _ _ _ _ _ _ _ _ (tSS.later k1 D1) (tNS.later k2 D1) (tS.later k3 D1) hn).mono ?_;rw[G0.out];rintro e w2 ⟨rfl,bel2⟩;have G2:=zaa D1 bel2;have s0:w2.cell? ⟨w.heap.size,0,none⟩=some (.int .i64 a0):=(by rw[G2.cell lx];exact p0);have s1:w2.cell? ⟨w.heap.size,1,none⟩=some (.slice A1 n1 c1):=(by rw[G2.cell lx];exact p1);have s2:w2.cell? ⟨w.heap.size,2,none⟩=some (.slice A2 n2 c2):=(by rw[G2.cell lx];exact p2);have s3:w2.cell? ⟨w.heap.size,3,none⟩=some (.slice A3 n3 c3):=(by rw[G2.cell lx];exact p3))
  | (go_at_call 197;refine(zr8 _ _ _ _ _ _ _ _ _ _ _ _ (r2.later G2) hb2 HI).mono ?_;rw[HO.out];rintro e w3 ⟨v,rfl,own,bel3⟩;obtain⟨A9,c9,rfl,-⟩:=own.shape;have G3:=zaa G2 bel3;have s6:w3.cell? ⟨w.heap.size,2,none⟩=some (.slice A2 n2 c2):=(by rw[G3.cell lx];exact p2)))
 all_goals
  go_wp2;go_ret;exact⟨zac (by rw[R.out,Bool.eq_iff_iff];simp;try omega),zaa B0 G3⟩
theorem zfe(a0:Int)(A1:Yo)(n1 c1:Nat)(A2:Yo)(n2 c2:Nat)(A3:Yo)(n3 c3:Nat)(x1:List (List Int))(x2:List Node)(x3:List Int)(w:Yw)(h1:tSS.R w w.heap.size [.slice A1 n1 c1] x1)(h2:tNS.R w w.heap.size [.slice A2 n2 c2] x2)(h3:tS.R w w.heap.size [.slice A3 n3 c3] x3)(hn:hP.sz ((a0,x1,x2,x3):zad)<=100000000):
 Calls Tryz.prog 36 #[.agg #[.int .i64 a0,.slice A1 n1 c1,.slice A2 n2 c2,.slice A3 n3 c3]] w fun e w'=>e=.returned (.bool (decide (((a0,x1,x2,x3):zad)=M.p0)))/\Below w.heap.size w w':=by
 obtain⟨W,hW⟩:∃W,W=w.alloc (.cells #[.int .i64 a0,.slice A1 n1 c1,.slice A2 n2 c2,.slice A3 n3 c3] 67):=⟨_,rfl⟩;have B0:Below w.heap.size w W:=by rw[hW];exact(Below.refl _ _).alloc (Nat.le_refl _) _
 have p0:W.cell? ⟨w.heap.size,0,none⟩=some (.int .i64 a0):=by rw[hW];simp[go_sem]
 have p1:W.cell? ⟨w.heap.size,1,none⟩=some (.slice A1 n1 c1):=by rw[hW];simp[go_sem]
 have p2:W.cell? ⟨w.heap.size,2,none⟩=some (.slice A2 n2 c2):=by rw[hW];simp[go_sem]
 have p3:W.cell? ⟨w.heap.size,3,none⟩=some (.slice A3 n3 c3):=by rw[hW];simp[go_sem]
 have lx:w.heap.size<W.heap.size:=by rw[hW];simp
 have HW:=Lib.hid hW;clear hW;have k1:=tSS.later h1 B0;have k2:=tNS.later h2 B0;have k3:=tS.later h3 B0;have r1:=sl_R.1 k1;have r2:=sl_R.1 k2;have hx3:=(tS_R.1 k3).ri;have L1:=Lib.hid r1.cap.1;have L2:=Lib.hid r2.cap.1;have L3:=Lib.hid (zcn h3);have hnn:=hn;rw[zco,zbi]at hnn;have hb2:hNS.sz x2<=100000000:=by omega
 have hq1:x1.length+hS.szL x1=hSS.sz x1:=rfl
 have hb1:Hid (∀x∈x1,x.length<=1000000000):=Lib.hid (fun x hx=>by
  obtain⟨i,hi⟩:=List.getElem?_of_mem hx;have:=hS.szL_at hi;rw[zbi]at this;omega)
 have bn1:n1<=100000000:=by have:=L1.out;omega
 have bn2:n2<=100000000:=by have e:x2.length+hN.szL x2=hNS.sz x2:=rfl;have:=L2.out;omega
 have bn3:n3<=100000000:=by have:=L3.out;omega
 clear hnn hq1;have z1:tSS.R W W.heap.size [.slice none 0 0] ([]:List (List Int)):=⟨_,rfl,RS.nil _ _ _⟩;have z2:tNS.R W W.heap.size [.slice none 0 0] ([]:List Node):=⟨_,rfl,RS.nil _ _ _⟩;have z3:tS.R W W.heap.size [.slice none 0 0] ([]:List Int):=⟨_,rfl,RS.nil _ _ _⟩;have hz:hP.sz ((0,[],[],[]):zad)<=100000000:=by decide
 go_enter Tryz.func36,Tryz.ntmps36
 go_wp2_with fail;rw[<-HW.out];refine(zrv _ _ _ _ _ _ _ _ _ _ _ _ _ _ _ _ _ _ _ _ _ _ _ _ _ _ _ k1 z1 k2 z2 k3 z3 hn hz).mono ?_;rintro e w2 ⟨rfl,bel2⟩;go_wp2;go_ret;exact⟨zac (by rw[Bool.eq_iff_iff,M.p0];simp),zaa B0 bel2⟩
theorem zlu(a0:Int)(A1:Yo)(n1 c1:Nat)(A2:Yo)(n2 c2:Nat)(A3:Yo)(n3 c3:Nat)(x1:List (List Int))(x2:List Node)(x3:List Int)(w:Yw)(h1:tSS.R w w.heap.size [.slice A1 n1 c1] x1)(h2:tNS.R w w.heap.size [.slice A2 n2 c2] x2)(h3:tS.R w w.heap.size [.slice A3 n3 c3] x3)(hn:hP.sz ((a0,x1,x2,x3):zad)<=100000000):
 Calls Tryz.prog 89 #[.agg #[.int .i64 a0,.slice A1 n1 c1,.slice A2 n2 c2,.slice A3 n3 c3]] w fun e w'=>e=.returned (.bool (zao (a0,x1,x2,x3)))/\Below w.heap.size w w':=by
 obtain⟨W,hW⟩:∃W,W=w.alloc (.cells #[.int .i64 a0,.slice A1 n1 c1,.slice A2 n2 c2,.slice A3 n3 c3] 67):=⟨_,rfl⟩;have B0:Below w.heap.size w W:=by rw[hW];exact(Below.refl _ _).alloc (Nat.le_refl _) _
 have p0:W.cell? ⟨w.heap.size,0,none⟩=some (.int .i64 a0):=by rw[hW];simp[go_sem]
 have p1:W.cell? ⟨w.heap.size,1,none⟩=some (.slice A1 n1 c1):=by rw[hW];simp[go_sem]
 have p2:W.cell? ⟨w.heap.size,2,none⟩=some (.slice A2 n2 c2):=by rw[hW];simp[go_sem]
 have p3:W.cell? ⟨w.heap.size,3,none⟩=some (.slice A3 n3 c3):=by rw[hW];simp[go_sem]
 have lx:w.heap.size<W.heap.size:=by rw[hW];simp
 have HW:=Lib.hid hW;clear hW;have k1:=tSS.later h1 B0;have k2:=tNS.later h2 B0;have k3:=tS.later h3 B0;have r1:=sl_R.1 k1;have r2:=sl_R.1 k2;have hx3:=(tS_R.1 k3).ri;have L1:=Lib.hid r1.cap.1;have L2:=Lib.hid r2.cap.1;have L3:=Lib.hid (zcn h3);have hnn:=hn;rw[zco,zbi]at hnn;have hb2:hNS.sz x2<=100000000:=by omega
 have hq1:x1.length+hS.szL x1=hSS.sz x1:=rfl
 have hb1:Hid (∀x∈x1,x.length<=1000000000):=Lib.hid (fun x hx=>by
  obtain⟨i,hi⟩:=List.getElem?_of_mem hx;have:=hS.szL_at hi;rw[zbi]at this;omega)
 have bn1:n1<=100000000:=by have:=L1.out;omega
 have bn2:n2<=100000000:=by have e:x2.length+hN.szL x2=hNS.sz x2:=rfl;have:=L2.out;omega
 have bn3:n3<=100000000:=by have:=L3.out;omega
 clear hnn hq1;cases g0:decide (((a0,x1,x2,x3):zad)=M.p0)
 ·have G0:=Lib.hid g0;cases g1:zcd (a0,x1,x2,x3)
  ·have G1:=Lib.hid g1;have R:=Lib.hid (show zao (a0,x1,x2,x3)=false by rw[zao,g0,g1];rfl);clear g0 g1
   go_enter Tryz.func89,Tryz.ntmps89
   go_wp2_with fail;rw[<-HW.out]
   go_wp2_with (first
    | (go_at_call 36;refine(zfe _ _ _ _ _ _ _ _ _ _ _ _ _ _ k1 k2 k3 hn).mono ?_;rw[G0.out];rintro e w2 ⟨rfl,bel2⟩;have s0:w2.cell? ⟨w.heap.size,0,none⟩=some (.int .i64 a0):=(by rw[bel2.cell lx];exact p0);have s1:w2.cell? ⟨w.heap.size,1,none⟩=some (.slice A1 n1 c1):=(by rw[bel2.cell lx];exact p1);have s2:w2.cell? ⟨w.heap.size,2,none⟩=some (.slice A2 n2 c2):=(by rw[bel2.cell lx];exact p2);have s3:w2.cell? ⟨w.heap.size,3,none⟩=some (.slice A3 n3 c3):=(by rw[bel2.cell lx];exact p3))
    | (go_at_call 145;refine(zgp _ _ _ _ _ _ _ _ _ _ _ _ _ _ (tSS.later k1 bel2) (tNS.later k2 bel2) (tS.later k3 bel2) hn).mono ?_;rw[G1.out];rintro e w3 ⟨rfl,bel3⟩;have G3:=zaa bel2 bel3))
   go_ret;exact⟨zac (by rw[R.out]),zaa B0 G3⟩
  have G1:=Lib.hid g1;have R:=Lib.hid (show zao (a0,x1,x2,x3)=(decide (a0=1)&&decide (n3=1))by rw[zao,g0,g1];simp only[L3.out,Bool.false_or,Bool.true_and]);clear g0 g1;have both:∀(a:Int) (m:Nat),Hid (zao (a0,x1,x2,x3)=(decide (a0=1)&&decide (n3=1))):=fun _ _=>R
  by_cases ha:a0=1
  ·subst ha
   by_cases hm:n3=1
   ·subst hm
    go_enter Tryz.func89,Tryz.ntmps89
    go_wp2_with fail;rw[<-HW.out]
    go_wp2_with (first
     | (go_at_call 36;refine(zfe _ _ _ _ _ _ _ _ _ _ _ _ _ _ k1 k2 k3 hn).mono ?_;rw[G0.out];rintro e w2 ⟨rfl,bel2⟩;have s0:w2.cell? ⟨w.heap.size,0,none⟩=some (.int .i64 1):=(by rw[bel2.cell lx];exact p0);have s1:w2.cell? ⟨w.heap.size,1,none⟩=some (.slice A1 n1 c1):=(by rw[bel2.cell lx];exact p1);have s2:w2.cell? ⟨w.heap.size,2,none⟩=some (.slice A2 n2 c2):=(by rw[bel2.cell lx];exact p2);have s3:w2.cell? ⟨w.heap.size,3,none⟩=some (.slice A3 1 c3):=(by rw[bel2.cell lx];exact p3))
     | (go_at_call 145;refine(zgp _ _ _ _ _ _ _ _ _ _ _ _ _ _ (tSS.later k1 bel2) (tNS.later k2 bel2) (tS.later k3 bel2) hn).mono ?_;rw[G1.out];rintro e w3 ⟨rfl,bel3⟩;have G3:=zaa bel2 bel3;have t0:w3.cell? ⟨w.heap.size,0,none⟩=some (.int .i64 1):=(by rw[G3.cell lx];exact p0);have t3:w3.cell? ⟨w.heap.size,3,none⟩=some (.slice A3 1 c3):=(by rw[G3.cell lx];exact p3)))
    go_ret;exact⟨zac (by rw[R.out];rfl),zaa B0 G3⟩
   have gm:((n3:Int) == 1)=false:=by simp;omega
   go_enter Tryz.func89,Tryz.ntmps89
   go_wp2_with fail;rw[<-HW.out]
   go_wp2_with (first
    | (go_at_call 36;refine(zfe _ _ _ _ _ _ _ _ _ _ _ _ _ _ k1 k2 k3 hn).mono ?_;rw[G0.out];rintro e w2 ⟨rfl,bel2⟩;have s0:w2.cell? ⟨w.heap.size,0,none⟩=some (.int .i64 1):=(by rw[bel2.cell lx];exact p0);have s1:w2.cell? ⟨w.heap.size,1,none⟩=some (.slice A1 n1 c1):=(by rw[bel2.cell lx];exact p1);have s2:w2.cell? ⟨w.heap.size,2,none⟩=some (.slice A2 n2 c2):=(by rw[bel2.cell lx];exact p2);have s3:w2.cell? ⟨w.heap.size,3,none⟩=some (.slice A3 n3 c3):=(by rw[bel2.cell lx];exact p3))
    | (go_at_call 145;refine(zgp _ _ _ _ _ _ _ _ _ _ _ _ _ _ (tSS.later k1 bel2) (tNS.later k2 bel2) (tS.later k3 bel2) hn).mono ?_;rw[G1.out];rintro e w3 ⟨rfl,bel3⟩;have G3:=zaa bel2 bel3;have t0:w3.cell? ⟨w.heap.size,0,none⟩=some (.int .i64 1):=(by rw[G3.cell lx];exact p0);have t3:w3.cell? ⟨w.heap.size,3,none⟩=some (.slice A3 n3 c3):=(by rw[G3.cell lx];exact p3)))
   go_ret;exact⟨zac (by rw[R.out];simp[hm]),zaa B0 G3⟩
  have ga:(a0 == 1)=false:=by simpa using ha
  by_cases hm:n3=1
  ·subst hm
   go_enter Tryz.func89,Tryz.ntmps89
   go_wp2_with fail;rw[<-HW.out]
   go_wp2_with (first
    | (go_at_call 36;refine(zfe _ _ _ _ _ _ _ _ _ _ _ _ _ _ k1 k2 k3 hn).mono ?_;rw[G0.out];rintro e w2 ⟨rfl,bel2⟩;have s0:w2.cell? ⟨w.heap.size,0,none⟩=some (.int .i64 a0):=(by rw[bel2.cell lx];exact p0);have s1:w2.cell? ⟨w.heap.size,1,none⟩=some (.slice A1 n1 c1):=(by rw[bel2.cell lx];exact p1);have s2:w2.cell? ⟨w.heap.size,2,none⟩=some (.slice A2 n2 c2):=(by rw[bel2.cell lx];exact p2);have s3:w2.cell? ⟨w.heap.size,3,none⟩=some (.slice A3 1 c3):=(by rw[bel2.cell lx];exact p3))
    | (go_at_call 145;refine(zgp _ _ _ _ _ _ _ _ _ _ _ _ _ _ (tSS.later k1 bel2) (tNS.later k2 bel2) (tS.later k3 bel2) hn).mono ?_;rw[G1.out];rintro e w3 ⟨rfl,bel3⟩;have G3:=zaa bel2 bel3;have t0:w3.cell? ⟨w.heap.size,0,none⟩=some (.int .i64 a0):=(by rw[G3.cell lx];exact p0);have t3:w3.cell? ⟨w.heap.size,3,none⟩=some (.slice A3 1 c3):=(by rw[G3.cell lx];exact p3)))
   go_ret;exact⟨zac (by rw[R.out];simp[ha]),zaa B0 G3⟩
  have gm:((n3:Int) == 1)=false:=by simp;omega
  go_enter Tryz.func89,Tryz.ntmps89
  go_wp2_with fail;rw[<-HW.out]
  go_wp2_with (first
   | (go_at_call 36;refine(zfe _ _ _ _ _ _ _ _ _ _ _ _ _ _ k1 k2 k3 hn).mono ?_;rw[G0.out];rintro e w2 ⟨rfl,bel2⟩;have s0:w2.cell? ⟨w.heap.size,0,none⟩=some (.int .i64 a0):=(by rw[bel2.cell lx];exact p0);have s1:w2.cell? ⟨w.heap.size,1,none⟩=some (.slice A1 n1 c1):=(by rw[bel2.cell lx];exact p1);have s2:w2.cell? ⟨w.heap.size,2,none⟩=some (.slice A2 n2 c2):=(by rw[bel2.cell lx];exact p2);have s3:w2.cell? ⟨w.heap.size,3,none⟩=some (.slice A3 n3 c3):=(by rw[bel2.cell lx];exact p3))
   | (go_at_call 145;refine(zgp _ _ _ _ _ _ _ _ _ _ _ _ _ _ (tSS.later k1 bel2) (tNS.later k2 bel2) (tS.later k3 bel2) hn).mono ?_;rw[G1.out];rintro e w3 ⟨rfl,bel3⟩;have G3:=zaa bel2 bel3;have t0:w3.cell? ⟨w.heap.size,0,none⟩=some (.int .i64 a0):=(by rw[G3.cell lx];exact p0);have t3:w3.cell? ⟨w.heap.size,3,none⟩=some (.slice A3 n3 c3):=(by rw[G3.cell lx];exact p3)))
  go_ret;exact⟨zac (by rw[R.out];simp[ha]),zaa B0 G3⟩
 have G0:=Lib.hid g0;have R:=Lib.hid (show zao (a0,x1,x2,x3)=true by rw[zao,g0];rfl);clear g0
 go_enter Tryz.func89,Tryz.ntmps89
 go_wp2_with fail;rw[<-HW.out];go_wp2_with (go_at_call 36;refine(zfe _ _ _ _ _ _ _ _ _ _ _ _ _ _ k1 k2 k3 hn).mono ?_;rw[G0.out];rintro e w2 ⟨rfl,bel2⟩);go_ret;exact⟨zac (by rw[R.out]),zaa B0 bel2⟩
theorem zr9{xs:List zag}{k:Nat}{s:ByteArray}(h:∀j,j<k->∀y,xs[j]?=some y->¬y.1=s):zd5 s ((xs.take k).map (·.1))=false:=by
 rw[zd5,List.any_eq_false];intro t ht;obtain⟨y,hy,rfl⟩:=List.mem_map.1 ht;obtain⟨j,hj⟩:=List.getElem?_of_mem hy
 have hj2:j<k:=by
  have:=(List.getElem?_eq_some_iff.1 hj).1;rw[List.length_take]at this;omega
 rw[List.getElem?_take,if_pos hj2]at hj;simpa using h j hj2 y hj
theorem zsa{xs:List zag}{k j:Nat}{y:zag}(hj:j<k)(h:xs[j]?=some y):zd5 y.1 ((xs.take k).map (·.1))=true:=by
 rw[zd5,List.any_eq_true];refine⟨y.1,List.mem_map.2 ⟨y,List.mem_of_getElem? (i:=j) (by rw[List.getElem?_take,if_pos hj];exact h),rfl⟩,by simp⟩
theorem zsb(vb vo:Nat)(A:Yo)(n c:Nat)(xs:List zag)(w:Yw)(hv0:w.cell? ⟨vb,vo,none⟩=some (.slice A n c))(hx:tM.R w w.heap.size [.slice A n c] xs)(hn:hM.sz xs<=100000000):
 Calls Tryz.prog 68 #[.pointer (some ⟨vb,vo,none⟩)] w fun e w'=>e=.returned (.bool (zby xs))/\Below w.heap.size w w':=by
 have hvb:vb<w.heap.size:=World.block_lt_of_cell? w _ hv0;have rx:=sl_R.1 hx;have hlx:=rx.cap.1;have hm1:xs.length+hSt.szL xs<=100000000:=hn;have hnb:n<=100000000:=by omega
 have HLX:=Lib.hid hlx;have HM1:=Lib.hid hm1;clear hlx hx hn hm1;cases hI:M.inn n 1 8
 ·have R:=Lib.hid (show zby xs=false by rw[zby,HLX.out,hI];rfl)
  go_enter Tryz.func68,Tryz.ntmps68
  go_wp2_with (go_at_call 67;refine(zaw _ _ _ _).mono ?_;rintro e w' ⟨rfl,rfl⟩);go_ret;exact⟨zac (by rw[R.out]),Below.refl _ _⟩
 have hb8:=zex.1 hI;have HI:=Lib.hid hI
 go_enter Tryz.func68,Tryz.ntmps68
 go_wp2_with (go_at_call 67;refine(zaw _ _ _ _).mono ?_;rintro e w' ⟨rfl,rfl⟩);clear hI
 go_loopw [4,5] (fun i _ wr=>∃k:Nat,i=.int .i64 k/\k<=n/\Hid (∀j,j<k->zdx xs j=true)/\Below w.heap.size w wr) (fun i _ _=>n-(intOf i).toNat)
 case atStart=>exact⟨0,rfl,by omega,Lib.hid (by omega),Below.refl _ _⟩
 case round=>
  obtain⟨k,rfl,hk,H,Bw⟩:=hrel;have c0:wr.cell? ⟨vb,vo,none⟩=some (.slice A n c):=by rw[Bw.cell hvb];exact hv0
  by_cases hlt:k<n
  ·have hX:=Lib.hid (List.getElem?_eq_getElem (l:=xs) (i:=k) (by rw[HLX.out];exact hlt));obtain⟨b,o1,cc,cs,hv,hab,-,hE,hcc⟩:=(rx.below Bw).atX hX.out;simp only[Value.slice.injEq]at hv;obtain⟨rfl,-,rfl⟩:=hv;have hU:=hSt.szL_at hX.out;generalize xs[k]'(by rw[HLX.out];exact hlt)=x at hX hE hU;obtain⟨s,l,us⟩:=x;rw[ze7]at hU;obtain⟨A1,n1,c1,rfl,hs,hE⟩:=st_R.1 hE;have n1b:n1<=1000000000:=(by have:=(zhc hE).1.1;have:=HM1.out;omega);have e0:wr.cell? ⟨b,o1+k*3,none⟩=some (.string s):=hcc 0 _ rfl;have e1:wr.cell? ⟨b,o1+k*3+1,none⟩=some (.int .i64 l):=hcc 1 _ rfl;have e2:wr.cell? ⟨b,o1+k*3+2,none⟩=some (.slice A1 n1 c1):=hcc 2 _ rfl;have hra:=(zhc (tSdS.more Bw.size hE)).1;have hS:=Lib.hid (zkw hX.out);have HNO:=Lib.hid (fun h=>zku (xs:=xs) (k:=k) (by rw[HLX.out];exact hlt) h);have HC:=Lib.hid (zp9 b (o1+k*3) s l A1 n1 c1 us k n wr e0 e1 e2 hs hra n1b ⟨by omega,by omega⟩ ⟨by omega,by omega⟩);clear hcc hU hE;cases hST:zbx (s,l,us) k n
   ·have R:=Lib.hid (show zby xs=false from HNO.out (by rw[hS.out,HLX.out,hST];rfl));go_wp2_with (go_at_call 127;refine HC.out.mono ?_;rw[hST];rintro e w' ⟨rfl,rfl⟩);go_ret;exact⟨zac (by rw[R.out]),Bw⟩
   have HST:=Lib.hid hST;clear hST;go_wp2_with (go_at_call 127;refine HC.out.mono ?_;rw[HST.out];rintro e w' ⟨rfl,rfl⟩);obtain⟨wo,rfl⟩:∃wo:Yw,wo=wr:=⟨_,rfl⟩;clear HC e1 e2 hra
   go_loopw [5] (fun i wr=>∃j:Nat,i=.int .i64 j/\j<=k/\Hid (∀q,q<j->∀y,xs[q]?=some y->¬y.1=s)/\Below w.heap.size w wr) (fun i _=>k-(intOf i).toNat)
   case atStart=>exact⟨0,rfl,by omega,Lib.hid (by omega),Bw⟩
   case round=>
    obtain⟨j,rfl,hj,HJ,Bw2⟩:=hrel;have d0:wr.cell? ⟨vb,vo,none⟩=some (.slice (some ⟨b,o1,none⟩) n c):=by rw[Bw2.cell hvb];exact hv0
    by_cases hlt2:j<k
    ·have hY:=Lib.hid (List.getElem?_eq_getElem (l:=xs) (i:=j) (by rw[HLX.out];omega));obtain⟨b',o2,cc',cs',hv',-,-,hE',hdd⟩:=(rx.below Bw2).atX hY.out;simp only[Value.slice.injEq,Option.some.injEq,Addr.mk.injEq]at hv';obtain⟨⟨rfl,rfl,-⟩,-,rfl⟩:=hv';generalize xs[j]'(by rw[HLX.out];omega)=y at hY hE';obtain⟨s',l',vs⟩:=y;obtain⟨A2,n2,c2,rfl,-,-⟩:=st_R.1 hE';have f0:wr.cell? ⟨b,o1+j*3,none⟩=some (.string s'):=hdd 0 _ rfl
     have f1:wr.cell? ⟨b,o1+k*3,none⟩=some (.string s):=by
      obtain⟨b2,o3,cc2,cs2,hv2,-,-,hE2,hgg⟩:=(rx.below Bw2).atX hX.out;simp only[Value.slice.injEq,Option.some.injEq,Addr.mk.injEq]at hv2;obtain⟨⟨rfl,rfl,-⟩,-,rfl⟩:=hv2;obtain⟨A3,n3,c3,rfl,-,-⟩:=st_R.1 hE2;exact hgg 0 _ rfl
     have hjn:(j:Int)<(n:Int):=(by omega);have hj0:(0:Int)<=(j:Int):=(by omega);have hkn:(k:Int)<(n:Int):=(by omega);clear hdd hE'
     by_cases hss:s'=s
     ·have R:=Lib.hid (show zby xs=false from HNO.out (by
       have h1:=zsa hlt2 hY.out;rw[hss]at h1;rw[hS.out,h1,Bool.not_true,Bool.and_false]))
      have h1:s'.toList=s.toList:=(by rw[hss]);subst hss;go_wp2
      go_quiet (fail)
      go_wp2;go_ret;exact⟨zac (by rw[R.out]),zae Bw2 _⟩
     have h1:=zp6 hss;have h2:(s'.toList == s.toList)=false:=(by simpa using h1);have HSS:=Lib.hid hss;clear hss;go_wp2
     go_quiet (fail)
     go_wp2;go_roundw
     case rel=>exact⟨j+1,by go_num,by omega,Lib.hid (fun q hq y hy=>by
      rcases Nat.lt_or_ge q j with h3|h3
      ·exact HJ.out q h3 y hy
      obtain rfl:q=j:=by omega
      rw[hY.out]at hy;injection hy with hy
      subst hy;exact HSS.out),zae Bw2 _⟩
     case measure=>simp[intOf];omega
    obtain rfl:j=k:=by omega
    have HGO:=Lib.hid (show zdx xs j=true by rw[hS.out,HLX.out,HST.out,zr9 HJ.out];rfl);go_wp2;go_roundw
    case rel=>exact⟨j+1,by go_num,by omega,Lib.hid (fun q hq=>by
     rcases Nat.lt_or_ge q j with h3|h3
     ·exact H.out q h3
     obtain rfl:q=j:=by omega
     exact HGO.out),Bw2⟩
    case measure=>simp[intOf];omega
  have R:=Lib.hid (show zby xs=true by rw[zkv (fun j hj=>H.out j (by rw[HLX.out]at hj;omega)),HLX.out,HI.out]);go_wp2;go_ret;exact⟨zac (by rw[R.out]),Bw⟩
end Go.Proofs.YtifeldeikhmckaaGreat
