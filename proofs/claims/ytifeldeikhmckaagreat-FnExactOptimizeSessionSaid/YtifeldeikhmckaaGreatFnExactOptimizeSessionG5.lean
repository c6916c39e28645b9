import Derived.Test.YtifeldeikhmckaaGreatFnExactOptimizeSessionG4
import Derived.Deep.RegionLaw
import Derived.Lib.SliceRun
set_option linter.unusedVariables false
set_option linter.unusedSimpArgs false
set_option maxRecDepth 100000
set_option maxHeartbeats 4000000
namespace Go.Proofs.YtifeldeikhmckaaGreat
open Go.RowKit Go.Sort
abbrev Clip:=Int×Int×Int×Int×Int
def zcc (p:Clip):Bool:=M.inn p.1 0 5&&M.inn p.2.2.1 1 4000&&M.inn p.2.1 0 (4000-p.2.2.1)&&M.inn p.2.2.2.1 0 (4000-p.2.2.1)&&M.smp p.2.2.2.2
def M.cz:Clip:=(0,0,0,0,0)
def zem (xs:List Clip) (k:Nat):Bool:=k == 0||decide (((xs[k-1]?).getD M.cz).2.2.2.1<=((xs[k]?).getD M.cz).2.2.2.1)
def zcf (xs:List Clip) (k:Nat):Bool:=zcc ((xs[k]?).getD M.cz)&&zem xs k
def za4 (xs:List Clip):Bool:=(List.range xs.length).all (zcf xs)&&decide (xs.length<=12)
theorem zkf{l:Int}(h:M.inn l 1 4000=true):IntKind.i64.wrap (4000-l)=4000-l/\1<=l/\l<=4000:=by
 have:=zbf.1 h;exact⟨IntWalk.i64_in _ (by omega),this⟩
theorem zha(a b c d e:Int)(w:Yw):Calls Tryz.prog 142 #[.agg #[.int .i64 a,.int .i64 b,.int .i64 c,.int .i64 d,.int .i64 e]] w fun en w'=>en=.returned (.bool (zcc (a,b,c,d,e)))/\Below w.heap.size w w':=by
 cases h1:M.inn a 0 5
 ·go_enter Tryz.func142,Tryz.ntmps142
  go_wp2_with (first|(go_at_call 81;refine(zap _ _ _ _).mono ?_;rintro e w' ⟨rfl,rfl⟩)|(go_at_call 193;refine(zel _ _).mono ?_;rintro e w' ⟨rfl,rfl⟩));go_ret;exact⟨zac (by simp[zcc,h1]),(Below.refl _ _).alloc (Nat.le_refl _) _⟩
 cases h2:M.inn c 1 4000
 ·go_enter Tryz.func142,Tryz.ntmps142
  go_wp2_with (first|(go_at_call 81;refine(zap _ _ _ _).mono ?_;rintro e w' ⟨rfl,rfl⟩)|(go_at_call 193;refine(zel _ _).mono ?_;rintro e w' ⟨rfl,rfl⟩));go_ret;exact⟨zac (by simp[zcc,h1,h2]),(Below.refl _ _).alloc (Nat.le_refl _) _⟩
 obtain⟨hw,hl1,hl2⟩:=zkf h2;clear hw;cases h3:M.inn b 0 (4000-c)
 ·go_enter Tryz.func142,Tryz.ntmps142
  go_wp2_with (first|(go_at_call 81;refine(zap _ _ _ _).mono ?_;rintro e w' ⟨rfl,rfl⟩)|(go_at_call 193;refine(zel _ _).mono ?_;rintro e w' ⟨rfl,rfl⟩));go_ret;exact⟨zac (by simp[zcc,h1,h2,h3]),(Below.refl _ _).alloc (Nat.le_refl _) _⟩
 cases h4:M.inn d 0 (4000-c)
 ·go_enter Tryz.func142,Tryz.ntmps142
  go_wp2_with (first|(go_at_call 81;refine(zap _ _ _ _).mono ?_;rintro e w' ⟨rfl,rfl⟩)|(go_at_call 193;refine(zel _ _).mono ?_;rintro e w' ⟨rfl,rfl⟩));go_ret;exact⟨zac (by simp[zcc,h1,h2,h3,h4]),(Below.refl _ _).alloc (Nat.le_refl _) _⟩
 cases h5:M.smp e
 all_goals
  go_enter Tryz.func142,Tryz.ntmps142
  go_wp2_with (first|(go_at_call 81;refine(zap _ _ _ _).mono ?_;rintro e w' ⟨rfl,rfl⟩)|(go_at_call 193;refine(zel _ _).mono ?_;rintro e w' ⟨rfl,rfl⟩));go_ret;exact⟨zac (by simp[zcc,h1,h2,h3,h4,h5]),(Below.refl _ _).alloc (Nat.le_refl _) _⟩
theorem zhb(b o:Nat)(p:Clip)(w:Yw)(g0:w.cell? ⟨b,o,none⟩=some (.int .i64 p.1))(g1:w.cell? ⟨b,o+1,none⟩=some (.int .i64 p.2.1))(g2:w.cell? ⟨b,o+2,none⟩=some (.int .i64 p.2.2.1))(g3:w.cell? ⟨b,o+3,none⟩=some (.int .i64 p.2.2.2.1))(g4:w.cell? ⟨b,o+4,none⟩=some (.int .i64 p.2.2.2.2)):
 Calls Tryz.prog 223 #[.pointer (some ⟨b,o,none⟩)] w fun en w'=>en=.returned (.bool (zcc p))/\∃m,w'=w.drewN m:=by
 obtain⟨a,f,l,t,q⟩:=p;simp only at g0 g1 g2 g3 g4;cases h1:M.inn a 0 5
 ·go_enter Tryz.func223,Tryz.ntmps223
  go_wp2_with (first|(go_at_call 67;refine(zaw _ _ _ _).mono ?_;rintro e w' ⟨rfl,rfl⟩)|(go_at_call 128;refine(zdt _ _).mono ?_;rintro e w' ⟨rfl,rfl⟩));go_ret;exact⟨zac (by simp[zcc,h1]),0,rfl⟩
 cases h2:M.inn l 1 4000
 ·go_enter Tryz.func223,Tryz.ntmps223
  go_wp2_with (first|(go_at_call 67;refine(zaw _ _ _ _).mono ?_;rintro e w' ⟨rfl,rfl⟩)|(go_at_call 128;refine(zdt _ _).mono ?_;rintro e w' ⟨rfl,rfl⟩));go_ret;exact⟨zac (by simp[zcc,h1,h2]),0,rfl⟩
 cases h5:M.smp q
 ·go_enter Tryz.func223,Tryz.ntmps223
  go_wp2_with (first|(go_at_call 67;refine(zaw _ _ _ _).mono ?_;rintro e w' ⟨rfl,rfl⟩)|(go_at_call 128;refine(zdt _ _).mono ?_;rintro e w' ⟨rfl,rfl⟩));go_ret;exact⟨zac (by simp[zcc,h1,h2,h5]),0,rfl⟩
 obtain⟨hw,hl1,hl2⟩:=zkf h2;have hw0:(0:Int)<=4000-l:=by omega
 cases h3:M.inn f 0 (4000-l)
 ·have c1:∀m,Calls Tryz.prog 67 #[.int .i64 f,.int .i64 0,.int .i64 (4000-l)] (w.drewN m) fun e w''=>e=.returned (.bool false)/\∃m',w''=w.drewN m':=fun m=>za7 (by have h:=zaw f 0 (4000-l) (w.drewN m);rw[h3]at h;exact h)
  go_enter Tryz.func223,Tryz.ntmps223
  go_wp2_with (first|(go_at_call 67;refine(zaw _ _ _ _).mono ?_;rintro e w' ⟨rfl,rfl⟩)|(go_at_call 128;refine(zdt _ _).mono ?_;rintro e w' ⟨rfl,rfl⟩))
  go_quiet (first|(go_at_call_of 67 (Value.int .i64 f);exact c1 _))
  go_wp2;go_ret;exact⟨zac (by simp[zcc,h1,h2,h3,h5]),_,rfl⟩
 cases h4:M.inn t 0 (4000-l)
 ·have c1:∀m,Calls Tryz.prog 67 #[.int .i64 f,.int .i64 0,.int .i64 (4000-l)] (w.drewN m) fun e w''=>e=.returned (.bool true)/\∃m',w''=w.drewN m':=fun m=>za7 (by have h:=zaw f 0 (4000-l) (w.drewN m);rw[h3]at h;exact h)
  have c2:∀m,Calls Tryz.prog 67 #[.int .i64 t,.int .i64 0,.int .i64 (4000-l)] (w.drewN m) fun e w''=>e=.returned (.bool false)/\∃m',w''=w.drewN m':=fun m=>za7 (by have h:=zaw t 0 (4000-l) (w.drewN m);rw[h4]at h;exact h)
  go_enter Tryz.func223,Tryz.ntmps223
  go_wp2_with (first|(go_at_call 67;refine(zaw _ _ _ _).mono ?_;rintro e w' ⟨rfl,rfl⟩)|(go_at_call 128;refine(zdt _ _).mono ?_;rintro e w' ⟨rfl,rfl⟩))
  go_quiet (first|(go_at_call_of 67 (Value.int .i64 f);exact c1 _)|(go_at_call_of 67 (Value.int .i64 t);exact c2 _))
  go_wp2;go_ret;exact⟨zac (by simp[zcc,h1,h2,h3,h4,h5]),_,rfl⟩
 have c1:∀m,Calls Tryz.prog 67 #[.int .i64 f,.int .i64 0,.int .i64 (4000-l)] (w.drewN m) fun e w''=>e=.returned (.bool true)/\∃m',w''=w.drewN m':=fun m=>za7 (by have h:=zaw f 0 (4000-l) (w.drewN m);rw[h3]at h;exact h)
 have c2:∀m,Calls Tryz.prog 67 #[.int .i64 t,.int .i64 0,.int .i64 (4000-l)] (w.drewN m) fun e w''=>e=.returned (.bool true)/\∃m',w''=w.drewN m':=fun m=>za7 (by have h:=zaw t 0 (4000-l) (w.drewN m);rw[h4]at h;exact h)
 go_enter Tryz.func223,Tryz.ntmps223
 go_wp2_with (first|(go_at_call 67;refine(zaw _ _ _ _).mono ?_;rintro e w' ⟨rfl,rfl⟩)|(go_at_call 128;refine(zdt _ _).mono ?_;rintro e w' ⟨rfl,rfl⟩))
 go_quiet (first|(go_at_call_of 67 (Value.int .i64 f);exact c1 _)|(go_at_call_of 67 (Value.int .i64 t);exact c2 _))
 go_wp2;go_ret;exact⟨zac (by simp[zcc,h1,h2,h3,h4,h5]),_,rfl⟩
theorem zpb(A:Yo)(n c:Nat)(xs:List Clip)(w:Yw)(hx:RA cl 5 w w.heap.size A n xs)(hn:n<=1000000000):
 Calls Tryz.prog 86 #[.agg #[.slice A n c]] w fun e w'=>e=.returned (.bool (za4 xs))/\Below w.heap.size w w':=by
 have hl:=Lib.hid hx.len;have hbw:Below w.heap.size w (w.alloc (.cells #[.slice A n c] 98)):=(Below.refl _ _).alloc (Nat.le_refl _) _;have hself:=zkd w (.slice A n c) 98;have hsize:(w.alloc (.cells #[.slice A n c] 98)).heap.size=w.heap.size+1:=by simp
 go_enter Tryz.func86,Tryz.ntmps86
 go_wp2
 go_loopw [3,4,8] (fun _ _ i wr=>∃k:Nat,i=.int .i64 k/\k<=n/\Hid (∀j,j<k->zcf xs j=true)/\Below (w.heap.size+1) (w.alloc (.cells #[.slice A n c] 98)) wr) (fun _ _ i _=>n-(intOf i).toNat)
 case atStart=>exact⟨0,rfl,by omega,Lib.hid (by omega),Below.refl _ _⟩
 case round=>
  obtain⟨k,rfl,hk,H,hb⟩:=hrel;have hbb:Below w.heap.size w wr:=hbw.trans (hb.mono (by omega));have hsz:w.heap.size+1<=wr.heap.size:=by rw[<-hsize];exact hb.size
  have hv:wr.cell? ⟨w.heap.size,0,none⟩=some (.slice A n c):=by rw[hb.cell (by simp)];exact hself
  by_cases hlt:k<n
  ·obtain⟨b,o,⟨p0,p1,p2,p3,p4⟩,rfl,hab,X,hc⟩:=(hx.below hbb).at ze5 (by decide) hlt;have hc0:wr.cell? ⟨b,o+k*5,none⟩=some (.int .i64 p0):=hc 0 _ rfl;have hc1:wr.cell? ⟨b,o+k*5+1,none⟩=some (.int .i64 p1):=hc 1 _ rfl;have hc2:wr.cell? ⟨b,o+k*5+2,none⟩=some (.int .i64 p2):=hc 2 _ rfl;have hc3:wr.cell? ⟨b,o+k*5+3,none⟩=some (.int .i64 p3):=hc 3 _ rfl;have hc4:wr.cell? ⟨b,o+k*5+4,none⟩=some (.int .i64 p4):=hc 4 _ rfl;clear hc;obtain⟨⟨r0,r1,r2,r3,r4⟩,Z,hr⟩:=(hx.below hbb).cells ze5 (by decide) (k:=k-1) (by omega);have hr0:wr.cell? ⟨b,o+(k-1)*5+3,none⟩=some (.int .i64 r3):=hr 3 _ rfl;clear hr;have hs4:(wr.alloc (.cells #[.int .i64 p0,.int .i64 p1,.int .i64 p2,.int .i64 p3,.int .i64 p4] 165)).heap.size=wr.heap.size+1:=(by simp);have hbr:b<(wr.alloc (.cells #[.int .i64 p0,.int .i64 p1,.int .i64 p2,.int .i64 p3,.int .i64 p4] 165)).heap.size:=(by omega);have hbv:w.heap.size<(wr.alloc (.cells #[.int .i64 p0,.int .i64 p1,.int .i64 p2,.int .i64 p3,.int .i64 p4] 165)).heap.size:=(by omega);have hbn:wr.heap.size<(wr.alloc (.cells #[.int .i64 p0,.int .i64 p1,.int .i64 p2,.int .i64 p3,.int .i64 p4] 165)).heap.size:=(by omega);have qa0:(wr.alloc (.cells #[.int .i64 p0,.int .i64 p1,.int .i64 p2,.int .i64 p3,.int .i64 p4] 165)).cell? ⟨wr.heap.size,0,none⟩=some (.int .i64 p0):=(by rw[cell_of_row _ wr.heap.size 0 _ 165 (0,0) (heap_alloc_new wr _)];rfl);have qa1:(wr.alloc (.cells #[.int .i64 p0,.int .i64 p1,.int .i64 p2,.int .i64 p3,.int .i64 p4] 165)).cell? ⟨wr.heap.size,1,none⟩=some (.int .i64 p1):=(by rw[cell_of_row _ wr.heap.size 1 _ 165 (0,0) (heap_alloc_new wr _)];rfl);have qa2:(wr.alloc (.cells #[.int .i64 p0,.int .i64 p1,.int .i64 p2,.int .i64 p3,.int .i64 p4] 165)).cell? ⟨wr.heap.size,2,none⟩=some (.int .i64 p2):=(by rw[cell_of_row _ wr.heap.size 2 _ 165 (0,0) (heap_alloc_new wr _)];rfl);have qa3:(wr.alloc (.cells #[.int .i64 p0,.int .i64 p1,.int .i64 p2,.int .i64 p3,.int .i64 p4] 165)).cell? ⟨wr.heap.size,3,none⟩=some (.int .i64 p3):=(by rw[cell_of_row _ wr.heap.size 3 _ 165 (0,0) (heap_alloc_new wr _)];rfl);have qa4:(wr.alloc (.cells #[.int .i64 p0,.int .i64 p1,.int .i64 p2,.int .i64 p3,.int .i64 p4] 165)).cell? ⟨wr.heap.size,4,none⟩=some (.int .i64 p4):=(by rw[cell_of_row _ wr.heap.size 4 _ 165 (0,0) (heap_alloc_new wr _)];rfl);have q2:(wr.alloc (.cells #[.int .i64 p0,.int .i64 p1,.int .i64 p2,.int .i64 p3,.int .i64 p4] 165)).cell? ⟨w.heap.size,0,none⟩=some (.slice (some ⟨b,o,none⟩) n c):=(by rw[World.cell?_alloc_lt _ _ _ (by simp;omega)];exact hv);have q3:(wr.alloc (.cells #[.int .i64 p0,.int .i64 p1,.int .i64 p2,.int .i64 p3,.int .i64 p4] 165)).cell? ⟨b,o+(k-1)*5+3,none⟩=some (.int .i64 r3):=(by rw[World.cell?_alloc_lt _ _ _ (by simp;omega)];exact hr0);have hb4:Below (w.heap.size+1) (w.alloc (.cells #[.slice (some ⟨b,o,none⟩) n c] 98)) (wr.alloc (.cells #[.int .i64 p0,.int .i64 p1,.int .i64 p2,.int .i64 p3,.int .i64 p4] 165)):=hb.alloc (by omega) _;have hp0:=Lib.hid (show (xs[k]?).getD M.cz=(p0,p1,p2,p3,p4)by rw[X.out];rfl);have hz0:=Lib.hid (show (xs[k-1]?).getD M.cz=(r0,r1,r2,r3,r4)by rw[Z.out];rfl);cases hp:zcc (p0,p1,p2,p3,p4)
   ·have hno:=Lib.hid (show za4 xs=false by rw[za4,zg9 (k:=k) (by rw[hl.out];exact hlt) (by rw[zcf,hp0.out,hp,Bool.false_and]),Bool.false_and]);go_wp2;generalize hw4:wr.alloc (.cells #[.int .i64 p0,.int .i64 p1,.int .i64 p2,.int .i64 p3,.int .i64 p4] 165)=w4 at qa0 qa1 qa2 qa3 qa4 q2 q3 hbr hbv hbn hb4 ⊢;clear hw4 hs4;have cP:∀d os,Calls Tryz.prog 142 #[.agg #[.int .i64 p0,.int .i64 p1,.int .i64 p2,.int .i64 p3,.int .i64 p4]] (grow (redrawn w4 d) os) fun e w''=>e=.returned (.bool false)/\∃p:Regrown,w''=grow (redrawn w4 p.d) p.os:=fun d os=>Calls.regrown_of (by have h:=zha p0 p1 p2 p3 p4 (grow (redrawn w4 d) os);rw[hp]at h;exact h)
    have ka0:=cell_regrown qa0;have ka1:=cell_regrown qa1;have ka2:=cell_regrown qa2;have ka3:=cell_regrown qa3;have ka4:=cell_regrown qa4;have k2':=cell_regrown q2;have k3':=cell_regrown q3;clear qa0 qa1 qa2 qa3 qa4 q2 q3
    (refine wp_region_quiet_below (by kernel_rfl) (by kernel_rfl) ?_;(repeat (go_big_quiet_step (exact cP _ _)));refine wpQuiet_nil ?_;intro _ hw';obtain⟨⟨dq,osq⟩,hw''⟩:=hw';subst hw'')
    go_wp2;go_ret;exact⟨zac (by rw[hno.out]),hbw.trans ((hb4.trans ((below_regrown w4 dq osq).mono (by rw[<-hsize];exact hb4.size))).mono (by omega))⟩
   by_cases hk0:k=0
   ·have hyes:=Lib.hid (show zcf xs k=true by rw[zcf,hp0.out,hp,zem,hk0];rfl);have hd:decide (0<k)=false:=(by rw[hk0];rfl);have hd2:¬0<k:=(by omega);clear hk0;go_wp2;generalize hw4:wr.alloc (.cells #[.int .i64 p0,.int .i64 p1,.int .i64 p2,.int .i64 p3,.int .i64 p4] 165)=w4 at qa0 qa1 qa2 qa3 qa4 q2 q3 hbr hbv hbn hb4 ⊢;clear hw4 hs4;have cP:∀d os,Calls Tryz.prog 142 #[.agg #[.int .i64 p0,.int .i64 p1,.int .i64 p2,.int .i64 p3,.int .i64 p4]] (grow (redrawn w4 d) os) fun e w''=>e=.returned (.bool true)/\∃p:Regrown,w''=grow (redrawn w4 p.d) p.os:=fun d os=>Calls.regrown_of (by have h:=zha p0 p1 p2 p3 p4 (grow (redrawn w4 d) os);rw[hp]at h;exact h)
    have ka0:=cell_regrown qa0;have ka1:=cell_regrown qa1;have ka2:=cell_regrown qa2;have ka3:=cell_regrown qa3;have ka4:=cell_regrown qa4;have k2':=cell_regrown q2;have k3':=cell_regrown q3;clear qa0 qa1 qa2 qa3 qa4 q2 q3
    (refine wp_region_quiet_below (by kernel_rfl) (by kernel_rfl) ?_;(repeat (go_big_quiet_step (exact cP _ _)));refine wpQuiet_nil ?_;intro _ hw';obtain⟨⟨dq,osq⟩,hw''⟩:=hw';subst hw'')
    go_wp2;go_roundw
    case rel=>exact⟨k+1,by go_num,by omega,Lib.hid (fun j hj=>by rcases Nat.lt_succ_iff_lt_or_eq.1 hj with h|h;exact H.out j h;rw[h];exact hyes.out),hb4.trans ((below_regrown w4 dq osq).mono (by rw[<-hsize];exact hb4.size))⟩
    case measure=>simp[intOf];omega
   have hkk:IntKind.i64.wrap ((k:Int)-1)=((k-1:Nat):Int):=(by rw[IntWalk.i64_in _ (by omega)];omega);have hk1n:((k-1:Nat):Int)<(n:Int):=(by omega);have hd:decide (0<k)=true:=decide_eq_true (by omega)
   by_cases hge:p3<r3
   ·have hno:=Lib.hid (show za4 xs=false by rw[za4,zg9 (k:=k) (by rw[hl.out];exact hlt) (by rw[zcf,hp0.out,hp,zem,hp0.out,hz0.out];simp[hk0];omega),Bool.false_and]);go_wp2;generalize hw4:wr.alloc (.cells #[.int .i64 p0,.int .i64 p1,.int .i64 p2,.int .i64 p3,.int .i64 p4] 165)=w4 at qa0 qa1 qa2 qa3 qa4 q2 q3 hbr hbv hbn hb4 ⊢;clear hw4 hs4;have cP:∀d os,Calls Tryz.prog 142 #[.agg #[.int .i64 p0,.int .i64 p1,.int .i64 p2,.int .i64 p3,.int .i64 p4]] (grow (redrawn w4 d) os) fun e w''=>e=.returned (.bool true)/\∃p:Regrown,w''=grow (redrawn w4 p.d) p.os:=fun d os=>Calls.regrown_of (by have h:=zha p0 p1 p2 p3 p4 (grow (redrawn w4 d) os);rw[hp]at h;exact h)
    have ka0:=cell_regrown qa0;have ka1:=cell_regrown qa1;have ka2:=cell_regrown qa2;have ka3:=cell_regrown qa3;have ka4:=cell_regrown qa4;have k2':=cell_regrown q2;have k3':=cell_regrown q3;clear qa0 qa1 qa2 qa3 qa4 q2 q3
    (refine wp_region_quiet_below (by kernel_rfl) (by kernel_rfl) ?_;(repeat (go_big_quiet_step (exact cP _ _)));refine wpQuiet_nil ?_;intro _ hw';obtain⟨⟨dq,osq⟩,hw''⟩:=hw';subst hw'')
    go_wp2;go_ret;exact⟨zac (by rw[hno.out]),hbw.trans ((hb4.trans ((below_regrown w4 dq osq).mono (by rw[<-hsize];exact hb4.size))).mono (by omega))⟩
   have hyes:=Lib.hid (show zcf xs k=true by rw[zcf,hp0.out,hp,zem,hp0.out,hz0.out];simp;omega);go_wp2;generalize hw4:wr.alloc (.cells #[.int .i64 p0,.int .i64 p1,.int .i64 p2,.int .i64 p3,.int .i64 p4] 165)=w4 at qa0 qa1 qa2 qa3 qa4 q2 q3 hbr hbv hbn hb4 ⊢;clear hw4 hs4;have cP:∀d os,Calls Tryz.prog 142 #[.agg #[.int .i64 p0,.int .i64 p1,.int .i64 p2,.int .i64 p3,.int .i64 p4]] (grow (redrawn w4 d) os) fun e w''=>e=.returned (.bool true)/\∃p:Regrown,w''=grow (redrawn w4 p.d) p.os:=fun d os=>Calls.regrown_of (by have h:=zha p0 p1 p2 p3 p4 (grow (redrawn w4 d) os);rw[hp]at h;exact h)
   have ka0:=cell_regrown qa0;have ka1:=cell_regrown qa1;have ka2:=cell_regrown qa2;have ka3:=cell_regrown qa3;have ka4:=cell_regrown qa4;have k2':=cell_regrown q2;have k3':=cell_regrown q3;clear qa0 qa1 qa2 qa3 qa4 q2 q3
   (refine wp_region_quiet_below (by kernel_rfl) (by kernel_rfl) ?_;(repeat (go_big_quiet_step (exact cP _ _)));refine wpQuiet_nil ?_;intro _ hw';obtain⟨⟨dq,osq⟩,hw''⟩:=hw';subst hw'')
   go_wp2;go_roundw
   case rel=>exact⟨k+1,by go_num,by omega,Lib.hid (fun j hj=>by rcases Nat.lt_succ_iff_lt_or_eq.1 hj with h|h;exact H.out j h;rw[h];exact hyes.out),hb4.trans ((below_regrown w4 dq osq).mono (by rw[<-hsize];exact hb4.size))⟩
   case measure=>simp[intOf];omega
  have hyes:=Lib.hid (zke (n:=xs.length) (f:=zcf xs) (fun j hj=>H.out j (by rw[hl.out]at hj;omega)));have hres:=Lib.hid (show decide (n<=12)=za4 xs by rw[za4,hyes.out,hl.out,Bool.true_and]);go_wp2;go_ret;exact⟨zac (by rw[<-hres.out];exact decide_eq_decide.2 (by omega)),hbb⟩
theorem zpc(vb:Nat)(A:Yo)(n c:Nat)(xs:List Clip)(w:Yw)(hv0:w.cell? ⟨vb,0,none⟩=some (.slice A n c))(hx:RA cl 5 w w.heap.size A n xs)(hn:n<=1000000000):
 Calls Tryz.prog 176 #[.pointer (some ⟨vb,0,none⟩)] w fun e w'=>e=.returned (.bool (za4 xs))/\Below w.heap.size w w':=by
 have hl:=Lib.hid hx.len;have hvb:vb<w.heap.size:=World.block_lt_of_cell? w _ hv0
 go_enter Tryz.func176,Tryz.ntmps176
 go_wp2
 go_loopw [3] (fun i wr=>∃k:Nat,i=.int .i64 k/\k<=n/\Hid (∀j,j<k->zcf xs j=true)/\Below w.heap.size w wr) (fun i _=>n-(intOf i).toNat)
 case atStart=>exact⟨0,rfl,by omega,Lib.hid (by omega),Below.refl _ _⟩
 case round=>
  obtain⟨k,rfl,hk,H,hb⟩:=hrel;have hv:wr.cell? ⟨vb,0,none⟩=some (.slice A n c):=by rw[hb.cell (by simpa using hvb)];exact hv0
  by_cases hlt:k<n
  ·obtain⟨b,o,⟨p0,p1,p2,p3,p4⟩,rfl,hab,X,hc⟩:=(hx.below hb).at ze5 (by decide) hlt;have hc0:wr.cell? ⟨b,o+k*5,none⟩=some (.int .i64 p0):=hc 0 _ rfl;have hc1:wr.cell? ⟨b,o+k*5+1,none⟩=some (.int .i64 p1):=hc 1 _ rfl;have hc2:wr.cell? ⟨b,o+k*5+2,none⟩=some (.int .i64 p2):=hc 2 _ rfl;have hc3:wr.cell? ⟨b,o+k*5+3,none⟩=some (.int .i64 p3):=hc 3 _ rfl;have hc4:wr.cell? ⟨b,o+k*5+4,none⟩=some (.int .i64 p4):=hc 4 _ rfl;clear hc;obtain⟨⟨r0,r1,r2,r3,r4⟩,Z,hr⟩:=(hx.below hb).cells ze5 (by decide) (k:=k-1) (by omega);have hr0:wr.cell? ⟨b,o+(k-1)*5+3,none⟩=some (.int .i64 r3):=hr 3 _ rfl;clear hr;have hp0:=Lib.hid (show (xs[k]?).getD M.cz=(p0,p1,p2,p3,p4)by rw[X.out];rfl);have hz0:=Lib.hid (show (xs[k-1]?).getD M.cz=(r0,r1,r2,r3,r4)by rw[Z.out];rfl);cases hp:zcc (p0,p1,p2,p3,p4)
   ·have hno:=Lib.hid (show za4 xs=false by rw[za4,zg9 (k:=k) (by rw[hl.out];exact hlt) (by rw[zcf,hp0.out,hp,Bool.false_and]),Bool.false_and]);have cP:∀m,Calls Tryz.prog 223 #[.pointer (some ⟨b,o+k*5,none⟩)] (wr.drewN m) fun e w''=>e=.returned (.bool false)/\∃m',w''=wr.drewN m':=fun m=>by have h:=zhb b (o+k*5) (p0,p1,p2,p3,p4) (wr.drewN m) hc0 hc1 hc2 hc3 hc4;rw[hp]at h;exact h.mono fun _ _ ⟨he,q,hq⟩=>⟨he,m+q,by rw[hq,World.drewN_drewN]⟩
    go_wp2
    go_quiet (exact cP _)
    go_wp2;go_ret;exact⟨zac (by rw[hno.out]),hb.trans (zae (Below.refl _ _) _)⟩
   by_cases hk0:k=0
   ·have hyes:=Lib.hid (show zcf xs k=true by rw[zcf,hp0.out,hp,zem,hk0];rfl);have hd:decide (0<k)=false:=(by rw[hk0];rfl);have hd2:¬0<k:=(by omega);clear hk0;have cP:∀m,Calls Tryz.prog 223 #[.pointer (some ⟨b,o+k*5,none⟩)] (wr.drewN m) fun e w''=>e=.returned (.bool true)/\∃m',w''=wr.drewN m':=fun m=>by have h:=zhb b (o+k*5) (p0,p1,p2,p3,p4) (wr.drewN m) hc0 hc1 hc2 hc3 hc4;rw[hp]at h;exact h.mono fun _ _ ⟨he,q,hq⟩=>⟨he,m+q,by rw[hq,World.drewN_drewN]⟩
    go_wp2
    go_quiet (exact cP _)
    go_wp2;go_roundw
    case rel=>exact⟨k+1,by go_num,by omega,Lib.hid (fun j hj=>by rcases Nat.lt_succ_iff_lt_or_eq.1 hj with h|h;exact H.out j h;rw[h];exact hyes.out),hb.trans (zae (Below.refl _ _) _)⟩
    case measure=>simp[intOf];omega
   have hkk:IntKind.i64.wrap ((k:Int)-1)=((k-1:Nat):Int):=(by rw[IntWalk.i64_in _ (by omega)];omega);have hk1n:((k-1:Nat):Int)<(n:Int):=(by omega);have hd:decide (0<k)=true:=decide_eq_true (by omega)
   by_cases hge:p3<r3
   ·have hno:=Lib.hid (show za4 xs=false by rw[za4,zg9 (k:=k) (by rw[hl.out];exact hlt) (by rw[zcf,hp0.out,hp,zem,hp0.out,hz0.out];simp[hk0];omega),Bool.false_and]);have cP:∀m,Calls Tryz.prog 223 #[.pointer (some ⟨b,o+k*5,none⟩)] (wr.drewN m) fun e w''=>e=.returned (.bool true)/\∃m',w''=wr.drewN m':=fun m=>by have h:=zhb b (o+k*5) (p0,p1,p2,p3,p4) (wr.drewN m) hc0 hc1 hc2 hc3 hc4;rw[hp]at h;exact h.mono fun _ _ ⟨he,q,hq⟩=>⟨he,m+q,by rw[hq,World.drewN_drewN]⟩
    go_wp2
    go_quiet (exact cP _)
    go_wp2;go_ret;exact⟨zac (by rw[hno.out]),hb.trans (zae (Below.refl _ _) _)⟩
   have hyes:=Lib.hid (show zcf xs k=true by rw[zcf,hp0.out,hp,zem,hp0.out,hz0.out];simp;omega);have cP:∀m,Calls Tryz.prog 223 #[.pointer (some ⟨b,o+k*5,none⟩)] (wr.drewN m) fun e w''=>e=.returned (.bool true)/\∃m',w''=wr.drewN m':=fun m=>by have h:=zhb b (o+k*5) (p0,p1,p2,p3,p4) (wr.drewN m) hc0 hc1 hc2 hc3 hc4;rw[hp]at h;exact h.mono fun _ _ ⟨he,q,hq⟩=>⟨he,m+q,by rw[hq,World.drewN_drewN]⟩
   go_wp2
   go_quiet (exact cP _)
   go_wp2;go_roundw
   case rel=>exact⟨k+1,by go_num,by omega,Lib.hid (fun j hj=>by rcases Nat.lt_succ_iff_lt_or_eq.1 hj with h|h;exact H.out j h;rw[h];exact hyes.out),hb.trans (zae (Below.refl _ _) _)⟩
   case measure=>simp[intOf];omega
  have hyes:=Lib.hid (zke (n:=xs.length) (f:=zcf xs) (fun j hj=>H.out j (by rw[hl.out]at hj;omega)));have hres:=Lib.hid (show decide (n<=12)=za4 xs by rw[za4,hyes.out,hl.out,Bool.true_and]);go_wp2;go_ret;exact⟨zac (by rw[<-hres.out];exact decide_eq_decide.2 (by omega)),hb⟩
theorem OA.made0{α:Type}{enc:α->List Value}{e:TypeId}{s:Nat}(w:Yw):OA enc e s w.heap.size (w.alloc (.cells #[] e)).heap.size (w.alloc (.cells #[] e)) (.slice (some ⟨w.heap.size,0,none⟩) 0 0) []:=
 OX.of_own (World.ownsRow_made _ _ _ (Nat.le_refl _) (by simp[maxLen]) (by simp))
section
section
variable {base s n cap g:Nat} {e:TypeId} {cs:List Value} {w:Yw}
end
section
variable {α:Type} {enc:α->List Value} {s:Nat}
theorem zpd(henc:∀x,(enc x).length=s)(xs:List α)(k:Nat):(xs.flatMap enc).take (k*s)=(xs.take k).flatMap enc:=by
 induction xs generalizing k with
 | nil=>simp
 | cons y ys ih=>
  cases k with
  | zero=>simp
  | succ k=>rw[List.take_succ_cons,List.flatMap_cons,List.flatMap_cons,<-ih,Nat.succ_mul,Nat.add_comm,List.take_append,henc,List.take_of_length_le (by rw[henc];omega)];congr 2;omega
theorem zpe(henc:∀x,(enc x).length=s)(xs:List α)(k:Nat):(xs.flatMap enc).drop (k*s)=(xs.drop k).flatMap enc:=by
 induction xs generalizing k with
 | nil=>simp
 | cons y ys ih=>
  cases k with
  | zero=>simp
  | succ k=>rw[List.drop_succ_cons,List.flatMap_cons,<-ih,Nat.succ_mul,Nat.add_comm,List.drop_append,henc,List.drop_of_length_le (by rw[henc];omega),List.nil_append];congr 1;omega
end
theorem RA.reads{α:Type}{enc:α->List Value}{s:Nat}{w:Yw}{B n:Nat}{A:Yo}{xs:List α}(h:RA enc s w B A n xs):Reads w B s A n (xs.flatMap enc):=h.2
end
theorem RA.cut{α:Type}{enc:α->List Value}{s B n c k:Nat}{w:Yw}{A:Yo}{xs:List α}(henc:∀x,(enc x).length=s)(h:RA enc s w B A n xs)(hk:k<=n)(hc:n<=c):
 RA enc s w B (if c=k then A else A.map (·.add (k*s))) (n-k) (xs.drop k):=by
 refine⟨by rw[List.length_drop,h.1],?_⟩;rw[<-zpe henc];exact Reads.cut h.2 hk hc
theorem RA.head{α:Type}{enc:α->List Value}{s B n k:Nat}{w:Yw}{A:Yo}{xs:List α}(henc:∀x,(enc x).length=s)(h:RA enc s w B A n xs)(hk:k<=n):RA enc s w B A k (xs.take k):=by
 refine⟨by rw[List.length_take,h.1];omega,by rw[zh8 henc,List.length_take,h.1,Nat.min_eq_left hk],fun h0=>?_⟩;obtain⟨ad,e,hb,hc⟩:=h.2.2 (by omega);refine⟨ad,e,hb,fun j u hu=>hc j u ?_⟩;rw[<-zpd henc,List.getElem?_take]at hu
 split at hu
 ·exact hu
 simp at hu
theorem zpf{α:Type}{p:α->Bool}{xs:List α}{k:Nat}{x:α}(hx:xs[k]?=some x)(hp:p x=true)(h:∀j,j<k->∀y,xs[j]?=some y->p y=false):xs.findIdx? p=some k:=by
 obtain⟨hk,rfl⟩:=List.getElem?_eq_some_iff.1 hx;rw[List.findIdx?_eq_some_iff_getElem];exact⟨hk,hp,fun j hj=>by rw[h j hj _ (List.getElem?_eq_getElem (by omega))];exact Bool.false_ne_true⟩
theorem zpg{α:Type}{p:α->Bool}{xs:List α}(h:∀j,j<xs.length->∀y,xs[j]?=some y->p y=false):xs.findIdx? p=none:=by
 rw[List.findIdx?_eq_none_iff];intro x hx;obtain⟨i,hi,rfl⟩:=List.getElem_of_mem hx;exact h i hi _ (List.getElem?_eq_getElem hi)
def zxi (c:Clip) (l:Int):Clip:=(c.1,c.2.1,c.2.2.1+l,c.2.2.2.1,c.2.2.2.2)
theorem zph{xs:List Clip}(h:za4 xs=true):xs.length<=12:=by
 rw[za4,Bool.and_eq_true,decide_eq_true_iff]at h;exact h.2
theorem zkg{xs:List Clip}(h:za4 xs=true){k:Nat}{p:Clip}(hk:xs[k]?=some p):zcc p=true:=by
 rw[za4,Bool.and_eq_true,List.all_eq_true]at h;have:=h.1 k (List.mem_range.2 (List.getElem?_eq_some_iff.1 hk).1);rw[zcf,Bool.and_eq_true,hk]at this;exact this.1
theorem zpi{p:Clip}(h:zcc p=true):(0<=p.1/\p.1<=5)/\(1<=p.2.2.1/\p.2.2.1<=4000)/\(0<=p.2.1/\p.2.1<=4000-p.2.2.1)/\(0<=p.2.2.2.1/\p.2.2.2.1<=4000-p.2.2.1)/\(-2147483648<=p.2.2.2.2/\p.2.2.2.2<=2147483647):=by
 simp only[zcc,Bool.and_eq_true,zbf]at h;exact⟨h.1.1.1.1,h.1.1.1.2,h.1.1.2,h.1.2,M.smp_bd h.2⟩
def zga:Option Nat->Int
 | some i=>i
 | none=>-1
def zpj (src:List (List Int)) (c:Clip) (i:Int):Int:=
 if c.2.2.2.1<=i/\i<c.2.2.2.1+c.2.2.1 then c.2.2.2.2*M.at_ ((src[c.1.toNat]?).getD []) (c.2.1+(i-c.2.2.2.1))else 0
def zkh (src:List (List Int)):List Clip->Int->Int
 | [],_=>0
 | c::cs,i=>zpj src c i+zkh src cs i
def zpk (src:List (List Int)) (xs:List Clip) (n:Nat):List Int:=(List.range n).map fun(i:Nat)=>wrap32 (zkh src xs (i:Int))
def zen (src:List (List Int)):Bool:=decide (src.length<=6)&&src.all M.sig
def zbp (xs:List Clip) (m:Int):Bool:=xs.all fun c=>decide (c.1<m)
end Go.Proofs.YtifeldeikhmckaaGreat
