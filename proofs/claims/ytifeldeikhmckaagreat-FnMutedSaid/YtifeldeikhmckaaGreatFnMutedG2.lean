import Derived.Test.YtifeldeikhmckaaGreatFnMutedG1
import Derived.Deep.RegionLaw
import Derived.Lib.SliceRun
import Derived.Laws.IdiomStrings
import Derived.Lib.Strings
import Derived.Maps.OwnOps
import Derived.Maps.OwnSet
import Derived.StringKeys
import Derived.Lib.QuietBelow
set_option linter.unusedVariables false
set_option linter.unusedSimpArgs false
set_option maxRecDepth 100000
set_option maxHeartbeats 4000000
namespace Go.Proofs.YtifeldeikhmckaaGreat
open Go.RowKit Go.Sort
abbrev Ag := @cell_regrown
abbrev Cj := @World.block_lt_of_cell?
abbrev Cx := @Bool.and_eq_true
abbrev Cv := @wpQuiet_nil
abbrev Ck := @wp_region_quiet_below
abbrev Cf := @below_regrown
abbrev Cg := @List.take_of_length_le
abbrev Dx := @decide_eq_true
abbrev Dz := @decide_eq_false
abbrev Dy := @Decidable.not_not
abbrev Ez := @Bool.false_and
abbrev Ew := @Bool.true_and
abbrev Ev := @Bool.and_false
abbrev Ey := @List.length_take
abbrev Fj := @Nat.lt_or_ge
abbrev Fw := @Calls.regrown_of
abbrev Fv := @List.getElem?_map
abbrev Fy := @decide_eq_false_iff_not
abbrev Clip:=Int×Int×Int×Int×Int
def zb6 (p:Clip):Bool:=M.inn p.1 0 5&&M.inn p.2.2.1 1 4000&&M.inn p.2.1 0 (4000-p.2.2.1)&&M.inn p.2.2.2.1 0 (4000-p.2.2.1)&&M.smp p.2.2.2.2
def M.cz:Clip:=(0,0,0,0,0)
def zfj (xs:List Clip) (k:Nat):Bool:=k == 0||decide (((xs[k-1]?).getD M.cz).2.2.2.1<=((xs[k]?).getD M.cz).2.2.2.1)
def zck (xs:List Clip) (k:Nat):Bool:=zb6 ((xs[k]?).getD M.cz)&&zfj xs k
def za1 (xs:List Clip):Bool:=(List.range xs.length).all (zck xs)&&decide (xs.length<=12)
theorem zlu{l:Int}(h:M.inn l 1 4000=true):IntKind.i64.wrap (4000-l)=4000-l/\1<=l/\l<=4000:=by
 have:=za3.1 h;exact⟨IntWalk.i64_in _ (by omega),this⟩
theorem ziq(a b c d e:Int)(w:Yw):Calls Tryz.prog 142 #[.agg #[.int .i64 a,.int .i64 b,.int .i64 c,.int .i64 d,.int .i64 e]] w fun en w'=>en=.returned (.bool (zb6 (a,b,c,d,e)))/\Below w.heap.size w w':=by
 cases h1:M.inn a 0 5
 ·go_enter Tryz.func142,Tryz.ntmps142
  go_wp2_with (first|(go_at_call 81;refine(zav _ _ _ _).mono ?_;rintro e w' ⟨rfl,rfl⟩)|(go_at_call 193;refine(zfi _ _).mono ?_;rintro e w' ⟨rfl,rfl⟩));go_ret;exact⟨zac (by simp[zb6,h1]),(Aw _ _).alloc (Aj _) _⟩
 cases h2:M.inn c 1 4000
 ·go_enter Tryz.func142,Tryz.ntmps142
  go_wp2_with (first|(go_at_call 81;refine(zav _ _ _ _).mono ?_;rintro e w' ⟨rfl,rfl⟩)|(go_at_call 193;refine(zfi _ _).mono ?_;rintro e w' ⟨rfl,rfl⟩));go_ret;exact⟨zac (by simp[zb6,h1,h2]),(Aw _ _).alloc (Aj _) _⟩
 obtain⟨hw,hl1,hl2⟩:=zlu h2;clear hw;cases h3:M.inn b 0 (4000-c)
 ·go_enter Tryz.func142,Tryz.ntmps142
  go_wp2_with (first|(go_at_call 81;refine(zav _ _ _ _).mono ?_;rintro e w' ⟨rfl,rfl⟩)|(go_at_call 193;refine(zfi _ _).mono ?_;rintro e w' ⟨rfl,rfl⟩));go_ret;exact⟨zac (by simp[zb6,h1,h2,h3]),(Aw _ _).alloc (Aj _) _⟩
 cases h4:M.inn d 0 (4000-c)
 ·go_enter Tryz.func142,Tryz.ntmps142
  go_wp2_with (first|(go_at_call 81;refine(zav _ _ _ _).mono ?_;rintro e w' ⟨rfl,rfl⟩)|(go_at_call 193;refine(zfi _ _).mono ?_;rintro e w' ⟨rfl,rfl⟩));go_ret;exact⟨zac (by simp[zb6,h1,h2,h3,h4]),(Aw _ _).alloc (Aj _) _⟩
 cases h5:M.smp e
 all_goals
  go_enter Tryz.func142,Tryz.ntmps142
  go_wp2_with (first|(go_at_call 81;refine(zav _ _ _ _).mono ?_;rintro e w' ⟨rfl,rfl⟩)|(go_at_call 193;refine(zfi _ _).mono ?_;rintro e w' ⟨rfl,rfl⟩));go_ret;exact⟨zac (by simp[zb6,h1,h2,h3,h4,h5]),(Aw _ _).alloc (Aj _) _⟩
theorem zho(b o:Nat)(p:Clip)(w:Yw)(g0:w.cell? ⟨b,o,none⟩=some (.int .i64 p.1))(g1:w.cell? ⟨b,o+1,none⟩=some (.int .i64 p.2.1))(g2:w.cell? ⟨b,o+2,none⟩=some (.int .i64 p.2.2.1))(g3:w.cell? ⟨b,o+3,none⟩=some (.int .i64 p.2.2.2.1))(g4:w.cell? ⟨b,o+4,none⟩=some (.int .i64 p.2.2.2.2)):
 Calls Tryz.prog 223 #[.pointer (some ⟨b,o,none⟩)] w fun en w'=>en=.returned (.bool (zb6 p))/\∃m,w'=w.drewN m:=by
 obtain⟨a,f,l,t,q⟩:=p;simp only at g0 g1 g2 g3 g4;cases h1:M.inn a 0 5
 ·go_enter Tryz.func223,Tryz.ntmps223
  go_wp2_with (first|(go_at_call 67;refine(za0 _ _ _ _).mono ?_;rintro e w' ⟨rfl,rfl⟩)|(go_at_call 128;refine(zej _ _).mono ?_;rintro e w' ⟨rfl,rfl⟩));go_ret;exact⟨zac (by simp[zb6,h1]),0,rfl⟩
 cases h2:M.inn l 1 4000
 ·go_enter Tryz.func223,Tryz.ntmps223
  go_wp2_with (first|(go_at_call 67;refine(za0 _ _ _ _).mono ?_;rintro e w' ⟨rfl,rfl⟩)|(go_at_call 128;refine(zej _ _).mono ?_;rintro e w' ⟨rfl,rfl⟩));go_ret;exact⟨zac (by simp[zb6,h1,h2]),0,rfl⟩
 cases h5:M.smp q
 ·go_enter Tryz.func223,Tryz.ntmps223
  go_wp2_with (first|(go_at_call 67;refine(za0 _ _ _ _).mono ?_;rintro e w' ⟨rfl,rfl⟩)|(go_at_call 128;refine(zej _ _).mono ?_;rintro e w' ⟨rfl,rfl⟩));go_ret;exact⟨zac (by simp[zb6,h1,h2,h5]),0,rfl⟩
 obtain⟨hw,hl1,hl2⟩:=zlu h2;have hw0:(0:Int)<=4000-l:=by omega
 cases h3:M.inn f 0 (4000-l)
 ·have c1:∀m,Calls Tryz.prog 67 #[.int .i64 f,.int .i64 0,.int .i64 (4000-l)] (w.drewN m) fun e w''=>e=.returned (.bool false)/\∃m',w''=w.drewN m':=fun m=>zbo (by have h:=za0 f 0 (4000-l) (w.drewN m);rw[h3]at h;exact h)
  go_enter Tryz.func223,Tryz.ntmps223
  go_wp2_with (first|(go_at_call 67;refine(za0 _ _ _ _).mono ?_;rintro e w' ⟨rfl,rfl⟩)|(go_at_call 128;refine(zej _ _).mono ?_;rintro e w' ⟨rfl,rfl⟩))
  go_quiet (first|(go_at_call_of 67 (Value.int .i64 f);exact c1 _))
  go_wp2;go_ret;exact⟨zac (by simp[zb6,h1,h2,h3,h5]),_,rfl⟩
 cases h4:M.inn t 0 (4000-l)
 ·have c1:∀m,Calls Tryz.prog 67 #[.int .i64 f,.int .i64 0,.int .i64 (4000-l)] (w.drewN m) fun e w''=>e=.returned (.bool true)/\∃m',w''=w.drewN m':=fun m=>zbo (by have h:=za0 f 0 (4000-l) (w.drewN m);rw[h3]at h;exact h)
  have c2:∀m,Calls Tryz.prog 67 #[.int .i64 t,.int .i64 0,.int .i64 (4000-l)] (w.drewN m) fun e w''=>e=.returned (.bool false)/\∃m',w''=w.drewN m':=fun m=>zbo (by have h:=za0 t 0 (4000-l) (w.drewN m);rw[h4]at h;exact h)
  go_enter Tryz.func223,Tryz.ntmps223
  go_wp2_with (first|(go_at_call 67;refine(za0 _ _ _ _).mono ?_;rintro e w' ⟨rfl,rfl⟩)|(go_at_call 128;refine(zej _ _).mono ?_;rintro e w' ⟨rfl,rfl⟩))
  go_quiet (first|(go_at_call_of 67 (Value.int .i64 f);exact c1 _)|(go_at_call_of 67 (Value.int .i64 t);exact c2 _))
  go_wp2;go_ret;exact⟨zac (by simp[zb6,h1,h2,h3,h4,h5]),_,rfl⟩
 have c1:∀m,Calls Tryz.prog 67 #[.int .i64 f,.int .i64 0,.int .i64 (4000-l)] (w.drewN m) fun e w''=>e=.returned (.bool true)/\∃m',w''=w.drewN m':=fun m=>zbo (by have h:=za0 f 0 (4000-l) (w.drewN m);rw[h3]at h;exact h)
 have c2:∀m,Calls Tryz.prog 67 #[.int .i64 t,.int .i64 0,.int .i64 (4000-l)] (w.drewN m) fun e w''=>e=.returned (.bool true)/\∃m',w''=w.drewN m':=fun m=>zbo (by have h:=za0 t 0 (4000-l) (w.drewN m);rw[h4]at h;exact h)
 go_enter Tryz.func223,Tryz.ntmps223
 go_wp2_with (first|(go_at_call 67;refine(za0 _ _ _ _).mono ?_;rintro e w' ⟨rfl,rfl⟩)|(go_at_call 128;refine(zej _ _).mono ?_;rintro e w' ⟨rfl,rfl⟩))
 go_quiet (first|(go_at_call_of 67 (Value.int .i64 f);exact c1 _)|(go_at_call_of 67 (Value.int .i64 t);exact c2 _))
 go_wp2;go_ret;exact⟨zac (by simp[zb6,h1,h2,h3,h4,h5]),_,rfl⟩
theorem zqs(A:Yo)(n c:Nat)(xs:List Clip)(w:Yw)(hx:RA cl 5 w w.heap.size A n xs)(hn:n<=1000000000):
 Calls Tryz.prog 86 #[.agg #[.slice A n c]] w fun e w'=>e=.returned (.bool (za1 xs))/\Below w.heap.size w w':=by
 have hl:=Aq hx.len;have hbw:Below w.heap.size w (w.alloc (.cells #[.slice A n c] 98)):=(Aw _ _).alloc (Aj _) _;have hself:=zls w (.slice A n c) 98;have hsize:(w.alloc (.cells #[.slice A n c] 98)).heap.size=w.heap.size+1:=by simp
 go_enter Tryz.func86,Tryz.ntmps86
 go_wp2
 go_loopw [3,4,8] (fun _ _ i wr=>∃k:Nat,i=.int .i64 k/\k<=n/\Hid (∀j,j<k->zck xs j=true)/\Below (w.heap.size+1) (w.alloc (.cells #[.slice A n c] 98)) wr) (fun _ _ i _=>n-(intOf i).toNat)
 case atStart=>exact⟨0,rfl,by omega,Aq (by omega),Aw _ _⟩
 case round=>
  obtain⟨k,rfl,hk,H,hb⟩:=hrel;have hbb:Below w.heap.size w wr:=hbw.trans (hb.mono (by omega));have hsz:w.heap.size+1<=wr.heap.size:=by rw[<-hsize];exact hb.size
  have hv:wr.cell? ⟨w.heap.size,0,none⟩=some (.slice A n c):=by rw[hb.cell (by simp)];exact hself
  by_cases hlt:k<n
  ·obtain⟨b,o,⟨p0,p1,p2,p3,p4⟩,rfl,hab,X,hc⟩:=(hx.below hbb).at zde (by decide) hlt;have hc0:wr.cell? ⟨b,o+k*5,none⟩=some (.int .i64 p0):=hc 0 _ rfl;have hc1:wr.cell? ⟨b,o+k*5+1,none⟩=some (.int .i64 p1):=hc 1 _ rfl;have hc2:wr.cell? ⟨b,o+k*5+2,none⟩=some (.int .i64 p2):=hc 2 _ rfl;have hc3:wr.cell? ⟨b,o+k*5+3,none⟩=some (.int .i64 p3):=hc 3 _ rfl;have hc4:wr.cell? ⟨b,o+k*5+4,none⟩=some (.int .i64 p4):=hc 4 _ rfl;clear hc;obtain⟨⟨r0,r1,r2,r3,r4⟩,Z,hr⟩:=(hx.below hbb).cells zde (by decide) (k:=k-1) (by omega);have hr0:wr.cell? ⟨b,o+(k-1)*5+3,none⟩=some (.int .i64 r3):=hr 3 _ rfl;clear hr;have hs4:(wr.alloc (.cells #[.int .i64 p0,.int .i64 p1,.int .i64 p2,.int .i64 p3,.int .i64 p4] 165)).heap.size=wr.heap.size+1:=(by simp);have hbr:b<(wr.alloc (.cells #[.int .i64 p0,.int .i64 p1,.int .i64 p2,.int .i64 p3,.int .i64 p4] 165)).heap.size:=(by omega);have hbv:w.heap.size<(wr.alloc (.cells #[.int .i64 p0,.int .i64 p1,.int .i64 p2,.int .i64 p3,.int .i64 p4] 165)).heap.size:=(by omega);have hbn:wr.heap.size<(wr.alloc (.cells #[.int .i64 p0,.int .i64 p1,.int .i64 p2,.int .i64 p3,.int .i64 p4] 165)).heap.size:=(by omega);have qa0:(wr.alloc (.cells #[.int .i64 p0,.int .i64 p1,.int .i64 p2,.int .i64 p3,.int .i64 p4] 165)).cell? ⟨wr.heap.size,0,none⟩=some (.int .i64 p0):=(by rw[cell_of_row _ wr.heap.size 0 _ 165 (0,0) (Df wr _)];rfl);have qa1:(wr.alloc (.cells #[.int .i64 p0,.int .i64 p1,.int .i64 p2,.int .i64 p3,.int .i64 p4] 165)).cell? ⟨wr.heap.size,1,none⟩=some (.int .i64 p1):=(by rw[cell_of_row _ wr.heap.size 1 _ 165 (0,0) (Df wr _)];rfl);have qa2:(wr.alloc (.cells #[.int .i64 p0,.int .i64 p1,.int .i64 p2,.int .i64 p3,.int .i64 p4] 165)).cell? ⟨wr.heap.size,2,none⟩=some (.int .i64 p2):=(by rw[cell_of_row _ wr.heap.size 2 _ 165 (0,0) (Df wr _)];rfl);have qa3:(wr.alloc (.cells #[.int .i64 p0,.int .i64 p1,.int .i64 p2,.int .i64 p3,.int .i64 p4] 165)).cell? ⟨wr.heap.size,3,none⟩=some (.int .i64 p3):=(by rw[cell_of_row _ wr.heap.size 3 _ 165 (0,0) (Df wr _)];rfl);have qa4:(wr.alloc (.cells #[.int .i64 p0,.int .i64 p1,.int .i64 p2,.int .i64 p3,.int .i64 p4] 165)).cell? ⟨wr.heap.size,4,none⟩=some (.int .i64 p4):=(by rw[cell_of_row _ wr.heap.size 4 _ 165 (0,0) (Df wr _)];rfl);have q2:(wr.alloc (.cells #[.int .i64 p0,.int .i64 p1,.int .i64 p2,.int .i64 p3,.int .i64 p4] 165)).cell? ⟨w.heap.size,0,none⟩=some (.slice (some ⟨b,o,none⟩) n c):=(by rw[World.cell?_alloc_lt _ _ _ (by simp;omega)];exact hv);have q3:(wr.alloc (.cells #[.int .i64 p0,.int .i64 p1,.int .i64 p2,.int .i64 p3,.int .i64 p4] 165)).cell? ⟨b,o+(k-1)*5+3,none⟩=some (.int .i64 r3):=(by rw[World.cell?_alloc_lt _ _ _ (by simp;omega)];exact hr0);have hb4:Below (w.heap.size+1) (w.alloc (.cells #[.slice (some ⟨b,o,none⟩) n c] 98)) (wr.alloc (.cells #[.int .i64 p0,.int .i64 p1,.int .i64 p2,.int .i64 p3,.int .i64 p4] 165)):=hb.alloc (by omega) _;have hp0:=Aq (show (xs[k]?).getD M.cz=(p0,p1,p2,p3,p4)by rw[X.out];rfl);have hz0:=Aq (show (xs[k-1]?).getD M.cz=(r0,r1,r2,r3,r4)by rw[Z.out];rfl);cases hp:zb6 (p0,p1,p2,p3,p4)
   ·have hno:=Aq (show za1 xs=false by rw[za1,zip (k:=k) (by rw[hl.out];exact hlt) (by rw[zck,hp0.out,hp,Ez]),Ez]);go_wp2;generalize hw4:wr.alloc (.cells #[.int .i64 p0,.int .i64 p1,.int .i64 p2,.int .i64 p3,.int .i64 p4] 165)=w4 at qa0 qa1 qa2 qa3 qa4 q2 q3 hbr hbv hbn hb4 ⊢;clear hw4 hs4;have cP:∀d os,Calls Tryz.prog 142 #[.agg #[.int .i64 p0,.int .i64 p1,.int .i64 p2,.int .i64 p3,.int .i64 p4]] (grow (redrawn w4 d) os) fun e w''=>e=.returned (.bool false)/\∃p:Regrown,w''=grow (redrawn w4 p.d) p.os:=fun d os=>Fw (by have h:=ziq p0 p1 p2 p3 p4 (grow (redrawn w4 d) os);rw[hp]at h;exact h)
    have ka0:=Ag qa0;have ka1:=Ag qa1;have ka2:=Ag qa2;have ka3:=Ag qa3;have ka4:=Ag qa4;have k2':=Ag q2;have k3':=Ag q3;clear qa0 qa1 qa2 qa3 qa4 q2 q3
    (refine Ck (by kernel_rfl) (by kernel_rfl) ?_;(repeat (go_big_quiet_step (exact cP _ _)));refine Cv ?_;intro _ hw';obtain⟨⟨dq,osq⟩,hw''⟩:=hw';subst hw'')
    go_wp2;go_ret;exact⟨zac (by rw[hno.out]),hbw.trans ((hb4.trans ((Cf w4 dq osq).mono (by rw[<-hsize];exact hb4.size))).mono (by omega))⟩
   by_cases hk0:k=0
   ·have hyes:=Aq (show zck xs k=true by rw[zck,hp0.out,hp,zfj,hk0];rfl);have hd:decide (0<k)=false:=(by rw[hk0];rfl);have hd2:¬0<k:=(by omega);clear hk0;go_wp2;generalize hw4:wr.alloc (.cells #[.int .i64 p0,.int .i64 p1,.int .i64 p2,.int .i64 p3,.int .i64 p4] 165)=w4 at qa0 qa1 qa2 qa3 qa4 q2 q3 hbr hbv hbn hb4 ⊢;clear hw4 hs4;have cP:∀d os,Calls Tryz.prog 142 #[.agg #[.int .i64 p0,.int .i64 p1,.int .i64 p2,.int .i64 p3,.int .i64 p4]] (grow (redrawn w4 d) os) fun e w''=>e=.returned (.bool true)/\∃p:Regrown,w''=grow (redrawn w4 p.d) p.os:=fun d os=>Fw (by have h:=ziq p0 p1 p2 p3 p4 (grow (redrawn w4 d) os);rw[hp]at h;exact h)
    have ka0:=Ag qa0;have ka1:=Ag qa1;have ka2:=Ag qa2;have ka3:=Ag qa3;have ka4:=Ag qa4;have k2':=Ag q2;have k3':=Ag q3;clear qa0 qa1 qa2 qa3 qa4 q2 q3
    (refine Ck (by kernel_rfl) (by kernel_rfl) ?_;(repeat (go_big_quiet_step (exact cP _ _)));refine Cv ?_;intro _ hw';obtain⟨⟨dq,osq⟩,hw''⟩:=hw';subst hw'')
    go_wp2;go_roundw
    case rel=>exact⟨k+1,by go_num,by omega,Aq (fun j hj=>by rcases Nat.lt_succ_iff_lt_or_eq.1 hj with h|h;exact H.out j h;rw[h];exact hyes.out),hb4.trans ((Cf w4 dq osq).mono (by rw[<-hsize];exact hb4.size))⟩
    case measure=>simp[intOf];omega
   have hkk:IntKind.i64.wrap ((k:Int)-1)=((k-1:Nat):Int):=(by rw[IntWalk.i64_in _ (by omega)];omega);have hk1n:((k-1:Nat):Int)<(n:Int):=(by omega);have hd:decide (0<k)=true:=Dx (by omega)
   by_cases hge:p3<r3
   ·have hno:=Aq (show za1 xs=false by rw[za1,zip (k:=k) (by rw[hl.out];exact hlt) (by rw[zck,hp0.out,hp,zfj,hp0.out,hz0.out];simp[hk0];omega),Ez]);go_wp2;generalize hw4:wr.alloc (.cells #[.int .i64 p0,.int .i64 p1,.int .i64 p2,.int .i64 p3,.int .i64 p4] 165)=w4 at qa0 qa1 qa2 qa3 qa4 q2 q3 hbr hbv hbn hb4 ⊢;clear hw4 hs4;have cP:∀d os,Calls Tryz.prog 142 #[.agg #[.int .i64 p0,.int .i64 p1,.int .i64 p2,.int .i64 p3,.int .i64 p4]] (grow (redrawn w4 d) os) fun e w''=>e=.returned (.bool true)/\∃p:Regrown,w''=grow (redrawn w4 p.d) p.os:=fun d os=>Fw (by have h:=ziq p0 p1 p2 p3 p4 (grow (redrawn w4 d) os);rw[hp]at h;exact h)
    have ka0:=Ag qa0;have ka1:=Ag qa1;have ka2:=Ag qa2;have ka3:=Ag qa3;have ka4:=Ag qa4;have k2':=Ag q2;have k3':=Ag q3;clear qa0 qa1 qa2 qa3 qa4 q2 q3
    (refine Ck (by kernel_rfl) (by kernel_rfl) ?_;(repeat (go_big_quiet_step (exact cP _ _)));refine Cv ?_;intro _ hw';obtain⟨⟨dq,osq⟩,hw''⟩:=hw';subst hw'')
    go_wp2;go_ret;exact⟨zac (by rw[hno.out]),hbw.trans ((hb4.trans ((Cf w4 dq osq).mono (by rw[<-hsize];exact hb4.size))).mono (by omega))⟩
   have hyes:=Aq (show zck xs k=true by rw[zck,hp0.out,hp,zfj,hp0.out,hz0.out];simp;omega);go_wp2;generalize hw4:wr.alloc (.cells #[.int .i64 p0,.int .i64 p1,.int .i64 p2,.int .i64 p3,.int .i64 p4] 165)=w4 at qa0 qa1 qa2 qa3 qa4 q2 q3 hbr hbv hbn hb4 ⊢;clear hw4 hs4;have cP:∀d os,Calls Tryz.prog 142 #[.agg #[.int .i64 p0,.int .i64 p1,.int .i64 p2,.int .i64 p3,.int .i64 p4]] (grow (redrawn w4 d) os) fun e w''=>e=.returned (.bool true)/\∃p:Regrown,w''=grow (redrawn w4 p.d) p.os:=fun d os=>Fw (by have h:=ziq p0 p1 p2 p3 p4 (grow (redrawn w4 d) os);rw[hp]at h;exact h)
   have ka0:=Ag qa0;have ka1:=Ag qa1;have ka2:=Ag qa2;have ka3:=Ag qa3;have ka4:=Ag qa4;have k2':=Ag q2;have k3':=Ag q3;clear qa0 qa1 qa2 qa3 qa4 q2 q3
   (refine Ck (by kernel_rfl) (by kernel_rfl) ?_;(repeat (go_big_quiet_step (exact cP _ _)));refine Cv ?_;intro _ hw';obtain⟨⟨dq,osq⟩,hw''⟩:=hw';subst hw'')
   go_wp2;go_roundw
   case rel=>exact⟨k+1,by go_num,by omega,Aq (fun j hj=>by rcases Nat.lt_succ_iff_lt_or_eq.1 hj with h|h;exact H.out j h;rw[h];exact hyes.out),hb4.trans ((Cf w4 dq osq).mono (by rw[<-hsize];exact hb4.size))⟩
   case measure=>simp[intOf];omega
  have hyes:=Aq (zlt (n:=xs.length) (f:=zck xs) (fun j hj=>H.out j (by rw[hl.out]at hj;omega)));have hres:=Aq (show decide (n<=12)=za1 xs by rw[za1,hyes.out,hl.out,Ew]);go_wp2;go_ret;exact⟨zac (by rw[<-hres.out];exact decide_eq_decide.2 (by omega)),hbb⟩
theorem zlv(vb:Nat)(A:Yo)(n c:Nat)(xs:List Clip)(w:Yw)(hv0:w.cell? ⟨vb,0,none⟩=some (.slice A n c))(hx:RA cl 5 w w.heap.size A n xs)(hn:n<=1000000000):
 Calls Tryz.prog 176 #[.pointer (some ⟨vb,0,none⟩)] w fun e w'=>e=.returned (.bool (za1 xs))/\Below w.heap.size w w':=by
 have hl:=Aq hx.len;have hvb:vb<w.heap.size:=Cj w _ hv0
 go_enter Tryz.func176,Tryz.ntmps176
 go_wp2
 go_loopw [3] (fun i wr=>∃k:Nat,i=.int .i64 k/\k<=n/\Hid (∀j,j<k->zck xs j=true)/\Below w.heap.size w wr) (fun i _=>n-(intOf i).toNat)
 case atStart=>exact⟨0,rfl,by omega,Aq (by omega),Aw _ _⟩
 case round=>
  obtain⟨k,rfl,hk,H,hb⟩:=hrel;have hv:wr.cell? ⟨vb,0,none⟩=some (.slice A n c):=by rw[hb.cell (by simpa using hvb)];exact hv0
  by_cases hlt:k<n
  ·obtain⟨b,o,⟨p0,p1,p2,p3,p4⟩,rfl,hab,X,hc⟩:=(hx.below hb).at zde (by decide) hlt;have hc0:wr.cell? ⟨b,o+k*5,none⟩=some (.int .i64 p0):=hc 0 _ rfl;have hc1:wr.cell? ⟨b,o+k*5+1,none⟩=some (.int .i64 p1):=hc 1 _ rfl;have hc2:wr.cell? ⟨b,o+k*5+2,none⟩=some (.int .i64 p2):=hc 2 _ rfl;have hc3:wr.cell? ⟨b,o+k*5+3,none⟩=some (.int .i64 p3):=hc 3 _ rfl;have hc4:wr.cell? ⟨b,o+k*5+4,none⟩=some (.int .i64 p4):=hc 4 _ rfl;clear hc;obtain⟨⟨r0,r1,r2,r3,r4⟩,Z,hr⟩:=(hx.below hb).cells zde (by decide) (k:=k-1) (by omega);have hr0:wr.cell? ⟨b,o+(k-1)*5+3,none⟩=some (.int .i64 r3):=hr 3 _ rfl;clear hr;have hp0:=Aq (show (xs[k]?).getD M.cz=(p0,p1,p2,p3,p4)by rw[X.out];rfl);have hz0:=Aq (show (xs[k-1]?).getD M.cz=(r0,r1,r2,r3,r4)by rw[Z.out];rfl);cases hp:zb6 (p0,p1,p2,p3,p4)
   ·have hno:=Aq (show za1 xs=false by rw[za1,zip (k:=k) (by rw[hl.out];exact hlt) (by rw[zck,hp0.out,hp,Ez]),Ez]);have cP:∀m,Calls Tryz.prog 223 #[.pointer (some ⟨b,o+k*5,none⟩)] (wr.drewN m) fun e w''=>e=.returned (.bool false)/\∃m',w''=wr.drewN m':=fun m=>by have h:=zho b (o+k*5) (p0,p1,p2,p3,p4) (wr.drewN m) hc0 hc1 hc2 hc3 hc4;rw[hp]at h;exact h.mono fun _ _ ⟨he,q,hq⟩=>⟨he,m+q,by rw[hq,World.drewN_drewN]⟩
    go_wp2
    go_quiet (exact cP _)
    go_wp2;go_ret;exact⟨zac (by rw[hno.out]),hb.trans (zad (Aw _ _) _)⟩
   by_cases hk0:k=0
   ·have hyes:=Aq (show zck xs k=true by rw[zck,hp0.out,hp,zfj,hk0];rfl);have hd:decide (0<k)=false:=(by rw[hk0];rfl);have hd2:¬0<k:=(by omega);clear hk0;have cP:∀m,Calls Tryz.prog 223 #[.pointer (some ⟨b,o+k*5,none⟩)] (wr.drewN m) fun e w''=>e=.returned (.bool true)/\∃m',w''=wr.drewN m':=fun m=>by have h:=zho b (o+k*5) (p0,p1,p2,p3,p4) (wr.drewN m) hc0 hc1 hc2 hc3 hc4;rw[hp]at h;exact h.mono fun _ _ ⟨he,q,hq⟩=>⟨he,m+q,by rw[hq,World.drewN_drewN]⟩
    go_wp2
    go_quiet (exact cP _)
    go_wp2;go_roundw
    case rel=>exact⟨k+1,by go_num,by omega,Aq (fun j hj=>by rcases Nat.lt_succ_iff_lt_or_eq.1 hj with h|h;exact H.out j h;rw[h];exact hyes.out),hb.trans (zad (Aw _ _) _)⟩
    case measure=>simp[intOf];omega
   have hkk:IntKind.i64.wrap ((k:Int)-1)=((k-1:Nat):Int):=(by rw[IntWalk.i64_in _ (by omega)];omega);have hk1n:((k-1:Nat):Int)<(n:Int):=(by omega);have hd:decide (0<k)=true:=Dx (by omega)
   by_cases hge:p3<r3
   ·have hno:=Aq (show za1 xs=false by rw[za1,zip (k:=k) (by rw[hl.out];exact hlt) (by rw[zck,hp0.out,hp,zfj,hp0.out,hz0.out];simp[hk0];omega),Ez]);have cP:∀m,Calls Tryz.prog 223 #[.pointer (some ⟨b,o+k*5,none⟩)] (wr.drewN m) fun e w''=>e=.returned (.bool true)/\∃m',w''=wr.drewN m':=fun m=>by have h:=zho b (o+k*5) (p0,p1,p2,p3,p4) (wr.drewN m) hc0 hc1 hc2 hc3 hc4;rw[hp]at h;exact h.mono fun _ _ ⟨he,q,hq⟩=>⟨he,m+q,by rw[hq,World.drewN_drewN]⟩
    go_wp2
    go_quiet (exact cP _)
    go_wp2;go_ret;exact⟨zac (by rw[hno.out]),hb.trans (zad (Aw _ _) _)⟩
   have hyes:=Aq (show zck xs k=true by rw[zck,hp0.out,hp,zfj,hp0.out,hz0.out];simp;omega);have cP:∀m,Calls Tryz.prog 223 #[.pointer (some ⟨b,o+k*5,none⟩)] (wr.drewN m) fun e w''=>e=.returned (.bool true)/\∃m',w''=wr.drewN m':=fun m=>by have h:=zho b (o+k*5) (p0,p1,p2,p3,p4) (wr.drewN m) hc0 hc1 hc2 hc3 hc4;rw[hp]at h;exact h.mono fun _ _ ⟨he,q,hq⟩=>⟨he,m+q,by rw[hq,World.drewN_drewN]⟩
   go_wp2
   go_quiet (exact cP _)
   go_wp2;go_roundw
   case rel=>exact⟨k+1,by go_num,by omega,Aq (fun j hj=>by rcases Nat.lt_succ_iff_lt_or_eq.1 hj with h|h;exact H.out j h;rw[h];exact hyes.out),hb.trans (zad (Aw _ _) _)⟩
   case measure=>simp[intOf];omega
  have hyes:=Aq (zlt (n:=xs.length) (f:=zck xs) (fun j hj=>H.out j (by rw[hl.out]at hj;omega)));have hres:=Aq (show decide (n<=12)=za1 xs by rw[za1,hyes.out,hl.out,Ew]);go_wp2;go_ret;exact⟨zac (by rw[<-hres.out];exact decide_eq_decide.2 (by omega)),hb⟩
theorem OA.made0{α:Type}{enc:α->List Value}{e:TypeId}{s:Nat}(w:Yw):OA enc e s w.heap.size (w.alloc (.cells #[] e)).heap.size (w.alloc (.cells #[] e)) (.slice (some ⟨w.heap.size,0,none⟩) 0 0) []:=
 OX.of_own (World.ownsRow_made _ _ _ (Aj _) (by simp[maxLen]) (by simp))
section
section
variable {base s n cap g:Nat} {e:TypeId} {cs:List Value} {w:Yw}
end
section
variable {α:Type} {enc:α->List Value} {s:Nat}
theorem zqt(henc:∀x,(enc x).length=s)(xs:List α)(k:Nat):(xs.flatMap enc).take (k*s)=(xs.take k).flatMap enc:=by
 induction xs generalizing k with
 | nil=>simp
 | cons y ys ih=>
  cases k with
  | zero=>simp
  | succ k=>rw[List.take_succ_cons,List.flatMap_cons,List.flatMap_cons,<-ih,Nat.succ_mul,Nat.add_comm,List.take_append,henc,Cg (by rw[henc];omega)];congr 2;omega
theorem zqu(henc:∀x,(enc x).length=s)(xs:List α)(k:Nat):(xs.flatMap enc).drop (k*s)=(xs.drop k).flatMap enc:=by
 induction xs generalizing k with
 | nil=>simp
 | cons y ys ih=>
  cases k with
  | zero=>simp
  | succ k=>rw[List.drop_succ_cons,List.flatMap_cons,<-ih,Nat.succ_mul,Nat.add_comm,List.drop_append,henc,List.drop_of_length_le (by rw[henc];omega),List.nil_append];congr 1;omega
end
theorem RA.reads{α:Type}{enc:α->List Value}{s:Nat}{w:Yw}{B n:Nat}{A:Yo}{xs:List α}(h:RA enc s w B A n xs):Reads w B s A n (xs.flatMap enc):=h.2
end
theorem RA.cut{α:Type}{enc:α->List Value}{s B n c k:Nat}{w:Yw}{A:Yo}{xs:List α}(henc:∀x,(enc x).length=s)(h:RA enc s w B A n xs)(hk:k<=n)(hc:n<=c):
 RA enc s w B (if c=k then A else A.map (·.add (k*s))) (n-k) (xs.drop k):=by
 refine⟨by rw[List.length_drop,h.1],?_⟩;rw[<-zqu henc];exact Reads.cut h.2 hk hc
theorem RA.head{α:Type}{enc:α->List Value}{s B n k:Nat}{w:Yw}{A:Yo}{xs:List α}(henc:∀x,(enc x).length=s)(h:RA enc s w B A n xs)(hk:k<=n):RA enc s w B A k (xs.take k):=by
 refine⟨by rw[Ey,h.1];omega,by rw[zj6 henc,Ey,h.1,Nat.min_eq_left hk],fun h0=>?_⟩;obtain⟨ad,e,hb,hc⟩:=h.2.2 (by omega);refine⟨ad,e,hb,fun j u hu=>hc j u ?_⟩;rw[<-zqt henc,List.getElem?_take]at hu
 split at hu
 ·exact hu
 simp at hu
theorem ze2(xs:List (Int×Int×Int×Int×Int)):∀u∈xs.flatMap cl,u.oneCell'=true:=by
 intro u hu;obtain⟨p,_,hp⟩:=List.mem_flatMap.1 hu;simp only[cl,List.mem_cons,List.not_mem_nil,or_false]at hp;rcases hp with rfl|rfl|rfl|rfl|rfl <;> rfl
theorem zlw{α:Type}{p:α->Bool}{xs:List α}{k:Nat}{x:α}(hx:xs[k]?=some x)(hp:p x=true)(h:∀j,j<k->∀y,xs[j]?=some y->p y=false):xs.findIdx? p=some k:=by
 obtain⟨hk,rfl⟩:=Bk.1 hx;rw[List.findIdx?_eq_some_iff_getElem];exact⟨hk,hp,fun j hj=>by rw[h j hj _ (Ak (by omega))];exact Bool.false_ne_true⟩
theorem zlx{α:Type}{p:α->Bool}{xs:List α}(h:∀j,j<xs.length->∀y,xs[j]?=some y->p y=false):xs.findIdx? p=none:=by
 rw[List.findIdx?_eq_none_iff];intro x hx;obtain⟨i,hi,rfl⟩:=List.getElem_of_mem hx;exact h i hi _ (Ak hi)
def z0h (c:Clip) (l:Int):Clip:=(c.1,c.2.1,c.2.2.1+l,c.2.2.2.1,c.2.2.2.2)
theorem zly{xs:List Clip}(h:za1 xs=true):xs.length<=12:=by
 rw[za1,Cx,decide_eq_true_iff]at h;exact h.2
theorem zj8{xs:List Clip}(h:za1 xs=true){k:Nat}{p:Clip}(hk:xs[k]?=some p):zb6 p=true:=by
 rw[za1,Cx,Ef]at h;have:=h.1 k (Gj.2 (Bk.1 hk).1);rw[zck,Cx,hk]at this;exact this.1
theorem zlz{p:Clip}(h:zb6 p=true):(0<=p.1/\p.1<=5)/\(1<=p.2.2.1/\p.2.2.1<=4000)/\(0<=p.2.1/\p.2.1<=4000-p.2.2.1)/\(0<=p.2.2.2.1/\p.2.2.2.1<=4000-p.2.2.1)/\(-2147483648<=p.2.2.2.2/\p.2.2.2.2<=2147483647):=by
 simp only[zb6,Cx,za3]at h;exact⟨h.1.1.1.1,h.1.1.1.2,h.1.1.2,h.1.2,M.smp_bd h.2⟩
def zhp:Option Nat->Int
 | some i=>i
 | none=>-1
def zgz (src:List (List Int)) (c:Clip) (i:Int):Int:=
 if c.2.2.2.1<=i/\i<c.2.2.2.1+c.2.2.1 then c.2.2.2.2*M.at_ ((src[c.1.toNat]?).getD []) (c.2.1+(i-c.2.2.2.1))else 0
def zc7 (src:List (List Int)):List Clip->Int->Int
 | [],_=>0
 | c::cs,i=>zgz src c i+zc7 src cs i
def zek (src:List (List Int)) (xs:List Clip) (n:Nat):List Int:=(List.range n).map fun(i:Nat)=>wrap32 (zc7 src xs (i:Int))
def zel (src:List (List Int)) (xs:List Clip) (c:Clip) (m:Nat) (n:Nat):List Int:=(List.range n).map fun(i:Nat)=>wrap32 (zc7 src xs (i:Int)+if (i:Int)<c.2.2.2.1+m then zgz src c (i:Int)else 0)
theorem zj9(src:List (List Int))(xs:List Clip)(n:Nat):(zek src xs n).length=n:=by simp[zek]
theorem zka(src:List (List Int))(xs:List Clip)(c:Clip)(m n:Nat):(zel src xs c m n).length=n:=by simp[zel]
theorem zqv{src:List (List Int)}{xs:List Clip}{n i:Nat}(h:i<n):(zek src xs n)[i]?=some (wrap32 (zc7 src xs (i:Int))):=by simp[zek,h]
theorem zqw(src:List (List Int))(xs ys:List Clip)(i:Int):zc7 src (xs++ys) i=zc7 src xs i+zc7 src ys i:=by
 induction xs with
 | nil=>simp[zc7]
 | cons x xs ih=>rw[List.cons_append,zc7,zc7,ih];omega
theorem zqx(src:List (List Int))(c:Clip)(i:Int):zc7 src [c] i=zgz src c i:=by simp[zc7]
theorem zqy(src:List (List Int))(n:Nat):zek src [] n=List.replicate n 0:=by
 apply List.ext_getElem?
 intro i
 by_cases h:i<n
 ·rw[zqv h,zc7];simp[h];unfold wrap32;omega
 rw[List.getElem?_eq_none (by rw[zj9];omega),List.getElem?_eq_none (by simp;omega)]
theorem zqz(src:List (List Int))(xs:List Clip)(c:Clip)(n:Nat):zel src xs c 0 n=zek src xs n:=by
 refine List.map_congr_left fun i _=>?_
 congr 1;unfold zgz
 split
 ·rw[if_neg (by omega)];omega
 omega
theorem zl0(src:List (List Int))(xs:List Clip)(c:Clip)(m n:Nat)(h:c.2.2.1<=m\/(n:Int)<=c.2.2.2.1+m):zel src xs c m n=zek src (xs++[c]) n:=by
 refine List.map_congr_left fun i hi=>?_
 have hi:=Gj.1 hi;rw[zqw,zqx];congr 1
 split
 ·rfl
 unfold zgz;rw[if_neg (by omega)]
theorem zq0{src:List (List Int)}{xs:List Clip}{c:Clip}{m n p:Nat}(hp:p<n)(e:(p:Int)=c.2.2.2.1+m):(zel src xs c m n)[p]?=some (wrap32 (zc7 src xs (p:Int))):=by
 simp only[zel,Fv,List.getElem?_range hp,Option.map_some];rw[if_neg (by omega),Int.add_zero]
theorem zq1{src:List (List Int)}{xs:List Clip}{c:Clip}{m n p:Nat}(hp:p<n)(e:(p:Int)=c.2.2.2.1+m)(hm:(m:Int)<c.2.2.1):
 (zel src xs c m n).set p (wrap32 (wrap32 (zc7 src xs (p:Int))+c.2.2.2.2*M.at_ ((src[c.1.toNat]?).getD []) (c.2.1+m)))=zel src xs c (m+1) n:=by
 apply List.ext_getElem?
 intro i;rw[List.getElem?_set]
 by_cases hi:p=i
 ·subst hi;rw[if_pos rfl,if_pos (by rw[zka];exact hp)];simp only[zel,Fv,List.getElem?_range hp,Option.map_some];rw[if_pos (by omega),zgz,if_pos (by omega),M.wrap32_addl,show (p:Int)-c.2.2.2.1=m by omega]
 rw[if_neg hi]
 by_cases hn:i<n
 ·simp only[zel,Fv,List.getElem?_range hn,Option.map_some];congr 3
  by_cases h1:(i:Int)<c.2.2.2.1+m
  ·rw[if_pos h1,if_pos (by omega)]
  rw[if_neg h1,if_neg (by omega)]
 rw[List.getElem?_eq_none (by rw[zka];omega),List.getElem?_eq_none (by rw[zka];omega)]
def zdz (src:List (List Int)):Bool:=decide (src.length<=6)&&src.all M.sig
def zbq (xs:List Clip) (m:Int):Bool:=xs.all fun c=>decide (c.1<m)
theorem zg0:EI Tryz.prog 115 160 (.agg #[.int .i64 0,.int .i64 0]) 2 16:=⟨Tryz.underlying115,by kernel_rfl,rfl,by decide⟩
def sd (p:(Int×Int)):List Value:=[.int .i64 p.1,.int .i64 p.2]
theorem zf6(p:(Int×Int)):(sd p).length=2:=rfl
abbrev tSd:Ty (Int×Int):=Ty.flat 2 (by decide) (0,0) sd zf6 (by simp[sd,Value.oneCell'])
abbrev hSd:Hs (Int×Int):=hI.prod hI
abbrev tSdS:Ty (List (Int×Int)):=tSd.sl 160
abbrev hSdS:Hs (List (Int×Int)):=hSd.sl
theorem zq2(xs:List (Int×Int)):hSd.szL xs=0:=by
 induction xs with
 | nil=>rfl
 | cons x xs ih=>rw[Hs.szL,ih];rfl
theorem zq3(xs:List (Int×Int)):hSdS.sz xs=xs.length:=by show xs.length+hSd.szL xs=_;rw[zq2];rfl
section
def tStr:Ty ByteArray where
 s:=1
 pos:=Nat.one_pos
 zero:=⟨#[]⟩
 R _ _ cs x:=cs=[.string x]/\x.size<=maxLen
 O _ _ cs x:=cs=[.string x]/\x.size<=maxLen
 rlen:=by rintro w B cs x ⟨rfl,_⟩;rfl
 keep:=fun _ h=>h
 more:=fun _ h=>h
 read:=fun h=>h
 okeep:=fun _ h=>h
 owide:=fun _ h=>h
 ocells:=by rintro w F cs x ⟨rfl,_⟩ u hu;simp only[List.mem_singleton]at hu;subst hu;rfl
 oreal:=fun h=>h
def zl1 (k:Nat):List UInt8:=if k=0 then[]else zl1 (k / 10)++[UInt8.ofNat (48+k % 10)]
def zq4 (k:Int):ByteArray:=if k<=0 then⟨#[109,48]⟩else⟨(109::zl1 k.toNat).toArray⟩
def hStr:Hs ByteArray:=⟨fun s=>s.size,fun k _=>zq4 k,fun _=>1⟩
abbrev zag:=ByteArray×Int×List (Int×Int)
abbrev tSt:Ty zag:=tStr.prod (tI.prod tSdS)
abbrev hSt:Hs zag:=hStr.prod (hI.prod hSdS)
abbrev tM:Ty (List zag):=tSt.sl 117
abbrev hM:Hs (List zag):=hSt.sl
section
variable {w:Yw} {B:Nat} {F:Nat->Prop} {cs:List Value} {s:ByteArray} {l:Int} {xs:List (Int×Int)}
theorem zl2{cs:List Value}(h:tSdS.R w B cs xs):∃A n c,cs=[.slice A n c]:=by
 obtain⟨v,rfl,hr⟩:=h;obtain⟨A,c,rfl⟩:=hr.shape;exact⟨_,_,_,rfl⟩
theorem st_R:tSt.R w B cs (s,l,xs)↔∃A n c,cs=[.string s,.int .i64 l,.slice A n c]/\s.size<=maxLen/\tSdS.R w B [.slice A n c] xs:=by
 constructor
 ·rintro⟨c1,c2,rfl,⟨rfl,h1⟩,c3,c4,rfl,h2,h3⟩;obtain rfl:c3=[.int .i64 l]:=h2;obtain⟨A,n,c,rfl⟩:=zl2 h3;exact⟨A,n,c,rfl,h1,h3⟩
 rintro⟨A,n,c,rfl,h1,h3⟩;exact⟨[.string s],_,rfl,⟨rfl,h1⟩,[.int .i64 l],_,rfl,rfl,h3⟩
theorem st_O:tSt.O w F cs (s,l,xs)↔∃A n c,cs=[.string s,.int .i64 l,.slice A n c]/\s.size<=maxLen/\tSdS.O w F [.slice A n c] xs:=by
 constructor
 ·rintro⟨c1,c2,F1,F2,rfl,⟨rfl,h1⟩,⟨c3,c4,F3,F4,rfl,h2,h3,f3,f4,_⟩,f1,f2,_⟩;obtain rfl:c3=[.int .i64 l]:=h2;obtain⟨A,n,c,rfl⟩:=zl2 (tSdS.read h3);exact⟨A,n,c,rfl,h1,tSdS.owide (fun b hb=>f2 b (f4 b hb)) h3⟩
 rintro⟨A,n,c,rfl,h1,h3⟩;exact⟨[.string s],_,fun _=>False,F,rfl,⟨rfl,h1⟩,⟨[.int .i64 l],_,fun _=>False,F,rfl,rfl,h3,fun _ h=>h.elim,fun _ h=>h,fun _ h=>h.elim⟩,fun _ h=>h.elim,fun _ h=>h,fun _ h=>h.elim⟩
theorem zir(s:ByteArray)(l:Int)(xs:List (Int×Int)):hSt.sz (s,l,xs)=s.size+xs.length:=by
 show s.size+(0+hSdS.sz xs)=_
 rw[zq3,Nat.zero_add]
end
end
theorem zgm:EI Tryz.prog 34 117 (.agg #[.string ⟨#[]⟩,.int .i64 0,.slice none 0 0]) 3 48:=⟨Tryz.underlying34,by kernel_rfl,rfl,by decide⟩
theorem zd8{w:Yw}{B:Nat}{A:Yo}{n c:Nat}{xs:List (Int×Int)}(h:tSdS.R w B [.slice A n c] xs):RA sd 2 w B A n xs/\n<=c/\c<=maxLen:=(sl_R.1 h).flat
theorem zl3{s t:ByteArray}(h:¬s=t):¬s.toList=t.toList:=fun e=>h (by
 rw[Lib.toList_data,Lib.toList_data]at e;exact ByteArray.ext (Array.toList_inj.1 e))
theorem zis{s s':ByteArray}{l l':Int}{xs ys:List (Int×Int)}(h:¬(s=s'/\l=l'/\xs=ys)):decide (((s,l,xs):zag)=(s',l',ys))=false:=by
 rw[Fy];intro e;simp only[Prod.mk.injEq]at e;exact h e
theorem zl4(g o g' o':Nat)(s s':ByteArray)(l l':Int)(A A':Yo)(n c n' c':Nat)(xs ys:List (Int×Int))(w:Yw)(a0:w.cell? ⟨g,o,none⟩=some (.string s))(b0:w.cell? ⟨g',o',none⟩=some (.string s'))(a1:w.cell? ⟨g,o+1,none⟩=some (.int .i64 l))(b1:w.cell? ⟨g',o'+1,none⟩=some (.int .i64 l'))(a2:w.cell? ⟨g,o+2,none⟩=some (.slice A n c))(b2:w.cell? ⟨g',o'+2,none⟩=some (.slice A' n' c'))(hx:tSdS.R w w.heap.size [.slice A n c] xs)(hy:tSdS.R w w.heap.size [.slice A' n' c'] ys)(hn:n<=1000000000)(hn':n'<=1000000000):
 Calls Tryz.prog 122 #[.pointer (some ⟨g,o,none⟩),.pointer (some ⟨g',o',none⟩)] w fun e w'=>e=.returned (.bool (decide (((s,l,xs):zag)=(s',l',ys))))/\Below w.heap.size w w':=by
 have B0:Below w.heap.size w w:=Aw _ _;have lx:g<w.heap.size:=Cj w _ a0;have ly:g'<w.heap.size:=Cj w _ b0
 by_cases hs:¬s=s'
 ·have hs2:=zl3 hs;have hs3:(s.toList == s'.toList)=false:=by simpa using hs2
  have R:=Aq (zis (s:=s) (s':=s') (l:=l) (l':=l') (xs:=xs) (ys:=ys) (fun e=>hs e.1))
  go_enter Tryz.func122,Tryz.ntmps122
  go_wp2_with fail
  go_quiet (fail)
  go_wp2_with fail;go_ret;exact⟨zac (by rw[R.out]),zad (Aw _ _) _⟩
 replace hs:s=s':=Dy.1 hs
 by_cases hl:¬l=l'
 ·have hl2:(l == l')=false:=by simpa using hl
  have hl3:(l != l')=true:=by simpa using hl
  clear hl2;have R:=Aq (zis (s:=s) (s':=s') (l:=l) (l':=l') (xs:=xs) (ys:=ys) (fun e=>hl e.2.1));subst hs
  go_enter Tryz.func122,Tryz.ntmps122
  go_wp2_with fail
  go_quiet (fail)
  go_wp2_with fail;go_ret;exact⟨zac (by rw[R.out]),zad (Aw _ _) _⟩
 replace hl:l=l':=Dy.1 hl;have hlx:=(zd8 hx).1.1;have hly:=(zd8 hy).1.1
 by_cases hnn:¬n=n'
 ·have hne:((n:Int) != (n':Int))=true:=by simp;omega
  have R:=Aq (zis (s:=s) (s':=s') (l:=l) (l':=l') (xs:=xs) (ys:=ys) (fun e=>hnn (by rw[<-hlx,<-hly,e.2.2])));subst hs hl;clear hlx hly
  go_enter Tryz.func122,Tryz.ntmps122
  go_wp2_with fail
  go_quiet (fail)
  go_wp2_with fail;go_ret;exact⟨zac (by rw[R.out]),zad (Aw _ _) _⟩
 replace hnn:n=n':=Dy.1 hnn;subst hs hl hnn;have HLX:=Aq hlx;have HLY:=Aq hly;have rx:=(zd8 hx).1;have ry:=(zd8 hy).1;clear hlx hly hx hy
 go_enter Tryz.func122,Tryz.ntmps122
 go_wp2_with fail
 go_quiet (fail)
 go_wp2_with fail
 go_loopw [5] (fun i wr=>∃k:Nat,i=.int .i64 k/\k<=n/\Hid (xs.take k=ys.take k)/\Below w.heap.size w wr) (fun i _=>n-(intOf i).toNat)
 case atStart=>exact⟨0,rfl,by omega,Aq (by simp),zad (Aw _ _) _⟩
 case round=>
  obtain⟨k,rfl,hk,H,hb⟩:=hrel;have Bw:Below w.heap.size w wr:=B0.trans (hb.mono B0.size);have hsw:=hb.size;have c2:wr.cell? ⟨g,o+2,none⟩=some (.slice A n c):=by rw[hb.cell lx];exact a2
  have d2:wr.cell? ⟨g',o'+2,none⟩=some (.slice A' n c'):=by rw[hb.cell ly];exact b2
  have lx1:g<wr.heap.size:=by omega
  have ly1:g'<wr.heap.size:=by omega
  by_cases hlt:k<n
  ·obtain⟨b,o1,⟨p0,p1⟩,rfl,hab,X,hcc⟩:=(rx.below Bw).at zf6 (by decide) hlt;obtain⟨b',o2,⟨r0,r1⟩,rfl,hab',Y,hdd⟩:=(ry.below Bw).at zf6 (by decide) hlt;have e0:wr.cell? ⟨b,o1+k*2,none⟩=some (.int .i64 p0):=hcc 0 _ rfl;have e1:wr.cell? ⟨b,o1+k*2+1,none⟩=some (.int .i64 p1):=hcc 1 _ rfl;have f0:wr.cell? ⟨b',o2+k*2,none⟩=some (.int .i64 r0):=hdd 0 _ rfl;have f1:wr.cell? ⟨b',o2+k*2+1,none⟩=some (.int .i64 r1):=hdd 1 _ rfl;have hbr:b<wr.heap.size:=Cq hab Bw.size;have hbr':b'<wr.heap.size:=Cq hab' Bw.size;clear hcc hdd
   by_cases hp:p0=r0/\p1=r1
   ·obtain⟨rfl,rfl⟩:=hp;go_wp2
    go_quiet (fail)
    go_wp2;go_roundw
    case rel=>exact⟨k+1,by go_num,by omega,Aq (by rw[M.take_at X.out,M.take_at Y.out,H.out]),zad hb _⟩
    case measure=>simp[intOf];omega
   have R:=Aq (zis (s:=s) (s':=s) (l:=l) (l':=l) (xs:=xs) (ys:=ys) (fun e=>hp (by
    have h1:=X.out;rw[e.2.2,Y.out]at h1;injection h1 with h1
    injection h1 with h2 h3
    exact⟨h2.symm,h3.symm⟩)))
   by_cases hp0:p0=r0
   ·have hp1:¬p1=r1:=fun e=>hp ⟨hp0,e⟩
    have hp2:(p1 == r1)=false:=(by simpa using hp1);subst hp0;clear hp;go_wp2
    go_quiet (fail)
    go_wp2;go_ret;exact⟨zac (by rw[R.out]),zad Bw _⟩
   have hp2:(p0 == r0)=false:=(by simpa using hp0);clear hp;go_wp2
   go_quiet (fail)
   go_wp2;go_ret;exact⟨zac (by rw[R.out]),zad Bw _⟩
  go_wp2;go_ret;have h1:xs=ys:=by have:=H.out;rwa [Cg (by rw[HLX.out];omega),Cg (by rw[HLY.out];omega)]at this
  exact⟨zac (by rw[h1];simp),Bw⟩
theorem zl5(A A':Yo)(n c n' c':Nat)(xs ys:List zag)(w:Yw)(hx:tM.R w w.heap.size [.slice A n c] xs)(hy:tM.R w w.heap.size [.slice A' n' c'] ys)(hn:hM.sz xs<=100000000)(hn':hM.sz ys<=100000000):
 Calls Tryz.prog 61 #[.agg #[.slice A n c],.agg #[.slice A' n' c']] w fun e w'=>e=.returned (.bool (decide (xs=ys)))/\Below w.heap.size w w':=by
 obtain⟨W,hW⟩:∃W,W=(w.alloc (.cells #[.slice A n c] 36)).alloc (.cells #[.slice A' n' c'] 36):=⟨_,rfl⟩;have B0:Below w.heap.size w W:=by rw[hW];exact((Aw _ _).alloc (Aj _) _).alloc (by simp) _
 have hs0:W.heap.size=w.heap.size+1+1:=by rw[hW];simp
 have a0:W.cell? ⟨w.heap.size,0,none⟩=some (.slice A n c):=by rw[hW];simp[go_sem]
 have b0:W.cell? ⟨w.heap.size+1,0,none⟩=some (.slice A' n' c'):=by rw[hW];simp[go_sem]
 have HW:=Aq hW;clear hW;have lx:w.heap.size<W.heap.size:=by omega
 have ly:w.heap.size+1<W.heap.size:=by omega
 have rx:=sl_R.1 hx;have ry:=sl_R.1 hy;have hlx:=rx.cap.1;have hly:=ry.cap.1;have hm1:xs.length+hSt.szL xs<=100000000:=hn;have hm2:ys.length+hSt.szL ys<=100000000:=hn'
 by_cases hnn:¬n=n'
 ·have R:=Aq (show decide (xs=ys)=false by rw[Fy];intro e;exact hnn (by rw[<-hlx,<-hly,e]));have hne:((n:Int) != (n':Int))=true:=by simp;omega
  clear hlx hly
  go_enter Tryz.func61,Tryz.ntmps61
  go_wp2_with fail;rw[<-HW.out];go_ret;exact⟨zac (by rw[R.out]),B0⟩
 replace hnn:n=n':=Dy.1 hnn;subst hnn;have HLX:=Aq hlx;have HLY:=Aq hly;have hnb:n<=100000000:=by omega
 have hm1':=Aq hm1;have hm2':=Aq hm2;clear hlx hly hx hy hn hn' hm1 hm2
 go_enter Tryz.func61,Tryz.ntmps61
 go_wp2_with fail;rw[<-HW.out]
 go_loopw [5] (fun i wr=>∃k:Nat,i=.int .i64 k/\k<=n/\Hid (xs.take k=ys.take k)/\Below W.heap.size W wr) (fun i _=>n-(intOf i).toNat)
 case atStart=>exact⟨0,rfl,by omega,Aq (by simp),Aw _ _⟩
 case round=>
  obtain⟨k,rfl,hk,H,hb⟩:=hrel;have Bw:Below w.heap.size w wr:=B0.trans (hb.mono B0.size);have hsw:=hb.size;have c0:wr.cell? ⟨w.heap.size,0,none⟩=some (.slice A n c):=by rw[hb.cell lx];exact a0
  have d0:wr.cell? ⟨w.heap.size+1,0,none⟩=some (.slice A' n c'):=by rw[hb.cell ly];exact b0
  have lx1:w.heap.size<wr.heap.size:=by omega
  have ly1:w.heap.size+1<wr.heap.size:=by omega
  by_cases hlt:k<n
  ·have hX:=Aq (Ak (l:=xs) (i:=k) (by rw[HLX.out];exact hlt));have hY:=Aq (Ak (l:=ys) (i:=k) (by rw[HLY.out];exact hlt));obtain⟨b,o1,cc,cs,hv,hab,-,hE,hcc⟩:=(rx.below Bw).atX hX.out;obtain⟨b',o2,cc',cs',hv',hab',-,hE',hdd⟩:=(ry.below Bw).atX hY.out;simp only[Cz]at hv hv';obtain⟨rfl,-,rfl⟩:=hv;obtain⟨rfl,-,rfl⟩:=hv';have hU:=hSt.szL_at hX.out;have hV:=hSt.szL_at hY.out;generalize xs[k]'(by rw[HLX.out];exact hlt)=x at hX hE hU;generalize ys[k]'(by rw[HLY.out];exact hlt)=y at hY hE' hV;obtain⟨s,l,us⟩:=x;obtain⟨s',l',vs⟩:=y;rw[zir]at hU hV;obtain⟨A1,n1,c1,rfl,-,hE⟩:=st_R.1 hE;obtain⟨A2,n2,c2,rfl,-,hE'⟩:=st_R.1 hE';have n1b:n1<=1000000000:=(by have:=(zd8 hE).1.1;have:=hm1'.out;omega);have n2b:n2<=1000000000:=(by have:=(zd8 hE').1.1;have:=hm2'.out;omega);have e0:wr.cell? ⟨b,o1+k*3,none⟩=some (.string s):=hcc 0 _ rfl;have e1:wr.cell? ⟨b,o1+k*3+1,none⟩=some (.int .i64 l):=hcc 1 _ rfl;have e2:wr.cell? ⟨b,o1+k*3+2,none⟩=some (.slice A1 n1 c1):=hcc 2 _ rfl;have f0:wr.cell? ⟨b',o2+k*3,none⟩=some (.string s'):=hdd 0 _ rfl;have f1:wr.cell? ⟨b',o2+k*3+1,none⟩=some (.int .i64 l'):=hdd 1 _ rfl;have f2:wr.cell? ⟨b',o2+k*3+2,none⟩=some (.slice A2 n2 c2):=hdd 2 _ rfl;have hbr:b<wr.heap.size:=Cq hab Bw.size;have hbr':b'<wr.heap.size:=Cq hab' Bw.size;replace hE:=tSdS.more Bw.size hE;replace hE':=tSdS.more Bw.size hE';clear hcc hdd hU hV;have D1:Below wr.heap.size wr (wr.drewN 1):=zad (Aw _ _) 1;have hF:=tSdS.later hE D1;have hF':=tSdS.later hE' D1
   by_cases hp:((s,l,us):zag)=(s',l',vs)
   ·have HD:=Aq (Dx hp);have HP:=Aq hp;clear hp;go_wp2
    go_region_held3 (fun w'=>Below wr.heap.size wr w'/\w'.cell? ⟨w.heap.size,0,none⟩=some (.slice (some ⟨b,o1,none⟩) n c)/\w'.cell? ⟨w.heap.size+1,0,none⟩=some (.slice (some ⟨b',o2,none⟩) n c'))
     (first|exact⟨zad (Aw _ _) _,c0,d0⟩|exact⟨G2,(by rw[G2.cell lx1];exact c0),(by rw[G2.cell ly1];exact d0)⟩)
     (first|(go_at_call 122;refine(zl4 b (o1+k*3) b' (o2+k*3) s s' l l' A1 A2 n1 c1 n2 c2 us vs (wr.drewN 1) (by rw[D1.cell hbr];exact e0) (by rw[D1.cell hbr'];exact f0) (by rw[D1.cell hbr];exact e1) (by rw[D1.cell hbr'];exact f1) (by rw[D1.cell hbr];exact e2) (by rw[D1.cell hbr'];exact f2) hF hF' n1b n2b).mono ?_;rw[HD.out];rintro e w2 ⟨rfl,bel2⟩;have G2:=zaa D1 bel2))
    go_wp2;go_roundw
    case rel=>exact⟨k+1,by go_num,by omega,Aq (by rw[M.take_at hX.out,M.take_at hY.out,H.out,HP.out]),zj3 hb hsw G2⟩
    case measure=>simp[intOf];omega
   have HD:=Aq (Dz hp)
   have R:=Aq (show decide (xs=ys)=false by
    rw[Fy];intro e;have h1:=hX.out;rw[e,hY.out]at h1;injection h1 with h1
    exact hp h1.symm)
   clear hp;go_wp2
   go_region_held3 (fun w'=>Below wr.heap.size wr w'/\w'.cell? ⟨w.heap.size,0,none⟩=some (.slice (some ⟨b,o1,none⟩) n c)/\w'.cell? ⟨w.heap.size+1,0,none⟩=some (.slice (some ⟨b',o2,none⟩) n c'))
    (first|exact⟨zad (Aw _ _) _,c0,d0⟩|exact⟨G2,(by rw[G2.cell lx1];exact c0),(by rw[G2.cell ly1];exact d0)⟩)
    (first|(go_at_call 122;refine(zl4 b (o1+k*3) b' (o2+k*3) s s' l l' A1 A2 n1 c1 n2 c2 us vs (wr.drewN 1) (by rw[D1.cell hbr];exact e0) (by rw[D1.cell hbr'];exact f0) (by rw[D1.cell hbr];exact e1) (by rw[D1.cell hbr'];exact f1) (by rw[D1.cell hbr];exact e2) (by rw[D1.cell hbr'];exact f2) hF hF' n1b n2b).mono ?_;rw[HD.out];rintro e w2 ⟨rfl,bel2⟩;have G2:=zaa D1 bel2))
   go_wp2;go_ret;exact⟨zac (by rw[R.out]),zaa Bw G2⟩
  go_wp2;go_ret;have h1:xs=ys:=by have:=H.out;rwa [Cg (by rw[HLX.out];omega),Cg (by rw[HLY.out];omega)]at this
  exact⟨zac (by rw[h1];simp),Bw⟩
def zd0 (c:UInt8):Bool:=decide (97<=c.toNat)&&decide (c.toNat<=122)
def zem (c:UInt8):Bool:=decide (48<=c.toNat)&&decide (c.toNat<=57)
def zcv (s:ByteArray) (i:Nat):Bool:=match s.data.toList[i]? with
 | some c=>zd0 c||(zem c&&decide (i≠0))
 | none=>true
def zds (s:ByteArray):Bool:=decide (1<=s.size)&&decide (s.size<=10)&&(List.range s.size).all (zcv s)
theorem zkb{s:ByteArray}{k:Nat}(hk:k<s.size):zcv s k=(zd0 s[k]||(zem s[k]&&decide (k≠0))):=by
 have h1:s.data.toList[k]?=some s[k]:=by
  rw[Ak (by simpa using hk)]
  rfl
 rw[zcv,h1]
theorem zkc{s:ByteArray}{k:Nat}(hk:k<s.size)(h:zcv s k=false):zds s=false:=by
 rw[zds];cases hall:(List.range s.size).all (zcv s)
 ·simp
 rw[Ef]at hall;have:=hall k (Gj.2 hk);rw[h]at this;cases this
theorem zl6{s:ByteArray}(h1:1<=s.size)(h2:s.size<=10)(h:∀j,j<s.size->zcv s j=true):zds s=true:=by
 rw[zds,Dx h1,Dx h2,Ew,Ew,Ef];exact fun j hj=>h j (Gj.1 hj)
theorem zkd{s:ByteArray}(h:¬(1<=s.size/\s.size<=10)):zds s=false:=by
 rw[zds]
 by_cases h1:1<=s.size
 ·have h2:¬s.size<=10:=fun e=>h ⟨h1,e⟩
  simp[h2]
 simp[h1]
theorem zhq(s:ByteArray)(w:Yw)(hs:s.size<=maxLen):
 Calls Tryz.prog 140 #[.string s] w fun e w'=>e=.returned (.bool (zds s))/\w=w':=by
 unfold maxLen at hs
 by_cases hlen:1<=s.size/\s.size<=10
 ·obtain⟨hl1,hl2⟩:=hlen
  go_enter Tryz.func140,Tryz.ntmps140
  go_wp2
  go_loop [3,4,5] (fun i _ _=>∃k:Nat,i=.int .i64 k/\k<=s.size/\Hid (∀j,j<k->zcv s j=true)) (fun i _ _=>s.size-(intOf i).toNat)
  case atStart=>exact⟨0,rfl,by omega,Aq (by omega)⟩
  case round=>
   obtain⟨k,rfl,hk,H⟩:=hrel
   by_cases hlt:k<s.size
   ·have hA:=Aq (zkb hlt)
    have hgo:zcv s k=true->∀j,j<k+1->zcv s j=true:=fun h j hj=>by
     rcases Fj j k with h1|h1
     ·exact H.out j h1
     obtain rfl:j=k:=by omega
     exact h
    have HG:=Aq hgo;have HN:=Aq (fun h=>zkc (s:=s) (k:=k) hlt h);clear hgo
    by_cases h97:97<=s[k].toNat
    ·by_cases h122:s[k].toNat<=122
     ·have h2:=Aq (show zcv s k=true by rw[hA.out];simp[zd0,zem];omega);have g1:(97:Int)<=(s[k].toNat:Int):=(by omega);have g2:(s[k].toNat:Int)<=122:=(by omega);clear h97 h122;go_wp2;go_round
      case rel=>exact⟨k+1,by go_num,by omega,Aq (HG.out h2.out)⟩
      case measure=>simp[intOf];omega
     have h2:=Aq (HN.out (show zcv s k=false by rw[hA.out];simp[zd0,zem];omega));have g1:(97:Int)<=(s[k].toNat:Int):=(by omega);have g2:¬(s[k].toNat:Int)<=122:=(by omega);have g3:(48:Int)<=(s[k].toNat:Int):=(by omega);have g4:¬(s[k].toNat:Int)<=57:=(by omega);clear h97 h122;go_wp2;go_ret;exact⟨zac (by rw[h2.out]),rfl⟩
    by_cases h48:48<=s[k].toNat
    ·by_cases h57:s[k].toNat<=57
     ·by_cases hk0:k=0
      ·have h2:=Aq (HN.out (show zcv s k=false by rw[hA.out];simp[zd0,zem];omega));have g1:¬(97:Int)<=(s[k].toNat:Int):=(by omega);have g3:(48:Int)<=(s[k].toNat:Int):=(by omega);have g4:(s[k].toNat:Int)<=57:=(by omega);clear h97 h48 h57;subst hk0;go_wp2;go_ret;exact⟨zac (by rw[h2.out]),rfl⟩
      have h2:=Aq (show zcv s k=true by rw[hA.out];simp[zd0,zem];omega);have g1:¬(97:Int)<=(s[k].toNat:Int):=(by omega);have g3:(48:Int)<=(s[k].toNat:Int):=(by omega);have g4:(s[k].toNat:Int)<=57:=(by omega);clear h97 h48 h57;go_wp2;go_round
      case rel=>exact⟨k+1,by go_num,by omega,Aq (HG.out h2.out)⟩
      case measure=>simp[intOf];omega
     have h2:=Aq (HN.out (show zcv s k=false by rw[hA.out];simp[zd0,zem];omega));have g1:¬(97:Int)<=(s[k].toNat:Int):=(by omega);have g3:(48:Int)<=(s[k].toNat:Int):=(by omega);have g4:¬(s[k].toNat:Int)<=57:=(by omega);clear h97 h48 h57;go_wp2;go_ret;exact⟨zac (by rw[h2.out]),rfl⟩
    have h2:=Aq (HN.out (show zcv s k=false by rw[hA.out];simp[zd0,zem];omega));have g1:¬(97:Int)<=(s[k].toNat:Int):=(by omega);have g3:¬(48:Int)<=(s[k].toNat:Int):=(by omega);clear h97 h48;go_wp2;go_ret;exact⟨zac (by rw[h2.out]),rfl⟩
   have hY:=Aq (zl6 hl1 hl2 (fun j hj=>H.out j (by omega)));go_wp2;go_ret;exact⟨zac (by rw[hY.out]),rfl⟩
 have hN:=Aq (zkd hlen)
 by_cases h1:s.size<1
 ·go_enter Tryz.func140,Tryz.ntmps140
  go_wp2;go_ret;exact⟨zac (by rw[hN.out]),rfl⟩
 have h2:10<s.size:=by omega
 go_enter Tryz.func140,Tryz.ntmps140
 go_wp2;go_ret;exact⟨zac (by rw[hN.out]),rfl⟩
theorem zhr(c:UInt8)(w:Yw):Calls Tryz.prog 221 #[.int .u8 (c.toNat:Int)] w fun e w'=>e=.returned (.bool (zd0 c))/\w=w':=by
 go_enter Tryz.func221,Tryz.ntmps221
 go_wp2
 all_goals
  go_ret;exact⟨zac (by rw[zd0,Bool.eq_iff_iff];simp;omega),rfl⟩
theorem zl8(c:UInt8)(w:Yw):Calls Tryz.prog 222 #[.int .u8 (c.toNat:Int)] w fun e w'=>e=.returned (.bool (zem c))/\w=w':=by
 go_enter Tryz.func222,Tryz.ntmps222
 go_wp2
 all_goals
  go_ret;exact⟨zac (by rw[zem,Bool.eq_iff_iff];simp;omega),rfl⟩
theorem zgn(s:ByteArray)(w:Yw)(hs:s.size<=maxLen):
 Calls Tryz.prog 175 #[.string s] w fun e w'=>e=.returned (.bool (zds s))/\w=w':=by
 unfold maxLen at hs
 by_cases h0:s.size=0
 ·have hN:=Aq (zkd (s:=s) (by omega));have he:s.toList=[]:=by rw[Lib.toList_data];exact List.eq_nil_of_length_eq_zero (by simpa using h0)
  have he2:s.toList.isEmpty=true:=by rw[he];rfl
  clear h0
  go_enter Tryz.func175,Tryz.ntmps175
  go_wp2;go_ret;exact⟨zac (by rw[hN.out]),rfl⟩
 have he:¬s.toList=[]:=by
  rw[Lib.toList_data];intro e;exact h0 (by have:=congrArg List.length e;simpa using this)
 have he2:s.toList.isEmpty=false:=by simpa using he
 have hp:0<s.size:=by omega
 by_cases h10:10<s.size
 ·have hN:=Aq (zkd (s:=s) (by omega))
  go_enter Tryz.func175,Tryz.ntmps175
  go_wp2;go_ret;exact⟨zac (by rw[hN.out]),rfl⟩
 cases hsm:zd0 s[0]
 ·have hN:=Aq (zkc (s:=s) (k:=0) hp (by rw[zkb hp,hsm];simp))
  go_enter Tryz.func175,Tryz.ntmps175
  go_wp2_with (go_at_call 221;refine(zhr _ _).mono ?_;rw[hsm];rintro e w' ⟨rfl,rfl⟩);go_ret;exact⟨zac (by rw[hN.out]),rfl⟩
 have hl2:s.size<=10:=by omega
 have HSM:=Aq hsm;clear hsm
 go_enter Tryz.func175,Tryz.ntmps175
 go_wp2_with (go_at_call 221;refine(zhr _ _).mono ?_;rw[HSM.out];rintro e w' ⟨rfl,rfl⟩)
 go_loop [3] (fun i=>∃k:Nat,i=.int .i64 k/\k<=s.size/\Hid (∀j,j<k->zcv s j=true)) (fun i=>s.size-(intOf i).toNat)
 case atStart=>exact⟨0,rfl,by omega,Aq (by omega)⟩
 case round=>
  obtain⟨k,rfl,hk,H⟩:=hrel
  by_cases hlt:k<s.size
  ·have hA:=Aq (zkb hlt)
   have HG:=Aq (show zcv s k=true->∀j,j<k+1->zcv s j=true from fun h j hj=>by
    rcases Fj j k with h1|h1
    ·exact H.out j h1
    obtain rfl:j=k:=by omega
    exact h)
   have HN:=Aq (fun h=>zkc (s:=s) (k:=k) hlt h);have HK:=Aq (show k=0->zd0 s[k]=true from fun e=>by subst e;exact HSM.out);cases h1:zd0 s[k]
   ·cases h2:zem s[k]
    ·have h3:=Aq (HN.out (by rw[hA.out,h1,h2];rfl));go_wp2_with (first|(go_at_call 221;refine(zhr _ _).mono ?_;rw[h1];rintro e w' ⟨rfl,rfl⟩)|(go_at_call 222;refine(zl8 _ _).mono ?_;rw[h2];rintro e w' ⟨rfl,rfl⟩));go_ret;exact⟨zac (by rw[h3.out]),rfl⟩
    have hk0:¬k=0:=fun e=>by have:=HK.out e;rw[h1]at this;cases this
    have h3:=Aq (HG.out (by rw[hA.out,h1,h2];simpa using hk0));clear hk0;go_wp2_with (first|(go_at_call 221;refine(zhr _ _).mono ?_;rw[h1];rintro e w' ⟨rfl,rfl⟩)|(go_at_call 222;refine(zl8 _ _).mono ?_;rw[h2];rintro e w' ⟨rfl,rfl⟩));go_round
    case rel=>exact⟨k+1,by go_num,by omega,h3⟩
    case measure=>simp[intOf];omega
   have h3:=Aq (HG.out (by rw[hA.out,h1];rfl));go_wp2_with (go_at_call 221;refine(zhr _ _).mono ?_;rw[h1];rintro e w' ⟨rfl,rfl⟩);go_round
   case rel=>exact⟨k+1,by go_num,by omega,h3⟩
   case measure=>simp[intOf];omega
  have hY:=Aq (zl6 (s:=s) hp hl2 (fun j hj=>H.out j (by omega)));go_wp2;go_ret;exact⟨zac (by rw[hY.out]),rfl⟩
theorem zdt{n lo hi:Int}:M.inn n lo hi=true↔lo<=n/\n<=hi:=by simp[M.inn]
def zb4 (m:Int):Int->List (Int×Int)->Bool
 | _,[]=>true
 | last,x::xs=>M.inn x.1 (last+1) (m-1)&&M.smp x.2&&zb4 m x.1 xs
def zb5 (xs:List (Int×Int)) (k m:Int):Bool:=zb4 m k xs&&(if k=m-1 then decide (xs.length=0)else M.inn xs.length 1 4)
def zby (x:zag) (k m:Int):Bool:=zds x.1&&M.inn x.2.1 0 32&&zb5 x.2.2 k m
theorem zl9{m last:Int}{xs:List (Int×Int)}{j:Nat}{p0 p1:Int}(h:xs[j]?=some (p0,p1)):zb4 m last (xs.drop j)=(M.inn p0 (last+1) (m-1)&&M.smp p1&&zb4 m p0 (xs.drop (j+1))):=by
 rw[M.drop_at h,zb4]
theorem zq5(A:Yo)(n c:Nat)(w:Yw):Calls Tryz.prog 194 #[.slice A n c] w fun e w'=>e=.returned (.int .i64 n)/\w=w':=by
 go_enter Tryz.func194,Tryz.ntmps194
 go_wp2;go_ret;exact⟨rfl,rfl⟩
theorem ze3(A:Yo)(n c:Nat)(w:Yw):Calls Tryz.prog 80 #[.slice A n c] w fun e w'=>e=.returned (.int .i64 n)/\w=w':=by
 go_enter Tryz.func80,Tryz.ntmps80
 go_wp2;go_ret;exact⟨rfl,rfl⟩
theorem zq6(A:Yo)(n c:Nat)(xs:List (Int×Int))(k m:Int)(w:Yw)(hx:RA sd 2 w w.heap.size A n xs)(hn:n<=1000000000)(hk:0<=k/\k<=1000000000)(hm:0<=m/\m<=1000000000):
 Calls Tryz.prog 141 #[.slice A n c,.int .i64 k,.int .i64 m] w fun e w'=>e=.returned (.bool (zb5 xs k m))/\Below w.heap.size w w':=by
 have hl:=Aq hx.1
 go_enter Tryz.func141,Tryz.ntmps141
 go_wp2
 go_loopw [7,9,13] (fun v _ i wr=>∃(j:Nat) (last:Int),i=.int .i64 j/\j<=n/\v=.int .i64 last/\0<=last/\last<=1000000000/\Hid (zb4 m k xs=zb4 m last (xs.drop j))/\Below w.heap.size w wr) (fun _ _ i _=>n-(intOf i).toNat)
 case atStart=>exact⟨0,k,rfl,by omega,rfl,by omega,by omega,Aq rfl,Aw _ _⟩
 case round=>
  obtain⟨j,last,rfl,hj,rfl,hl0,hl1,H,hb⟩:=hrel
  by_cases hlt:j<n
  ·obtain⟨b,o,⟨p0,p1⟩,rfl,hab,X,hcc⟩:=(hx.below hb).at zf6 (by decide) hlt;have e0:wr.cell? ⟨b,o+j*2,none⟩=some (.int .i64 p0):=hcc 0 _ rfl;have e1:wr.cell? ⟨b,o+j*2+1,none⟩=some (.int .i64 p1):=hcc 1 _ rfl;have hS:=Aq (zl9 (m:=m) (last:=last) X.out);clear hcc;cases h1:M.inn p0 (last+1) (m-1)
   ·have R:=Aq (show zb5 xs k m=false by rw[zb5,H.out,hS.out,h1];rfl);go_wp2_with (go_at_call 81;refine(zav _ _ _ _).mono ?_;rintro e w' ⟨rfl,rfl⟩);go_ret;exact⟨zac (by rw[R.out]),hb.alloc hb.size _⟩
   cases h2:M.smp p1
   ·have R:=Aq (show zb5 xs k m=false by rw[zb5,H.out,hS.out,h1,h2];rfl);go_wp2_with (first|(go_at_call 81;refine(zav _ _ _ _).mono ?_;rintro e w' ⟨rfl,rfl⟩)|(go_at_call 193;refine(zfi _ _).mono ?_;rintro e w' ⟨rfl,rfl⟩));go_ret;exact⟨zac (by rw[R.out]),hb.alloc hb.size _⟩
   have hp:=zdt.1 h1;have H2:=Aq (show zb4 m k xs=zb4 m p0 (xs.drop (j+1))by rw[H.out,hS.out,h1,h2];rfl);go_wp2_with (first|(go_at_call 81;refine(zav _ _ _ _).mono ?_;rintro e w' ⟨rfl,rfl⟩)|(go_at_call 193;refine(zfi _ _).mono ?_;rintro e w' ⟨rfl,rfl⟩));go_roundw
   case rel=>exact⟨j+1,p0,by go_num,by omega,rfl,by omega,by omega,H2,hb.alloc hb.size _⟩
   case measure=>simp[intOf];omega
  have H2:=Aq (show zb4 m k xs=true by rw[H.out,Ej (by rw[hl.out];omega)];rfl)
  by_cases hkm:k=m-1
  ·have R:=Aq (show zb5 xs k m=decide (n=0)by rw[zb5,H2.out,if_pos hkm,hl.out];rfl);have hkm2:(k == m-1)=true:=(by simpa using hkm);clear hkm
   by_cases hz:n=0
   ·subst hz;go_wp2;go_ret;exact⟨zac (by rw[R.out];rfl),hb⟩
   have hz2:((n:Int) == 0)=false:=(by simpa using hz);have R2:=Aq (show zb5 xs k m=false by rw[R.out];simpa using hz);clear hz;go_wp2;go_ret;exact⟨zac (by first|(rw[R2.out];done)|(rw[R2.out];exact hz2)),hb⟩
  have hkm2:(k == m-1)=false:=by simpa using hkm
  have R:=Aq (show zb5 xs k m=M.inn n 1 4 by rw[zb5,H2.out,if_neg hkm,hl.out];rfl);go_wp2_with (first|(go_at_call 81;refine(zav _ _ _ _).mono ?_;rintro e w' ⟨rfl,rfl⟩)|(go_at_call 194;refine(zq5 _ _ _ _).mono ?_;rintro e w' ⟨rfl,rfl⟩));go_ret;exact⟨zac (by rw[R.out]),hb⟩
theorem zq7(g o:Nat)(s:ByteArray)(l:Int)(A:Yo)(n c:Nat)(xs:List (Int×Int))(k m:Int)(w:Yw)(a0:w.cell? ⟨g,o,none⟩=some (.string s))(a1:w.cell? ⟨g,o+1,none⟩=some (.int .i64 l))(a2:w.cell? ⟨g,o+2,none⟩=some (.slice A n c))
 (hs:s.size<=maxLen) (hx:RA sd 2 w w.heap.size A n xs) (hn:n<=1000000000) (hk:0<=k/\k<=1000000000) (hm:0<=m/\m<=1000000000) :
 Calls Tryz.prog 127 #[.pointer (some ⟨g,o,none⟩),.int .i64 k,.int .i64 m] w fun e w'=>e=.returned (.bool (zby (s,l,xs) k m))/\w=w':=by
 have hl:=Aq hx.1;cases hN:zds s
 ·have R:=Aq (show zby (s,l,xs) k m=false by rw[zby,hN];rfl)
  go_enter Tryz.func127,Tryz.ntmps127
  go_wp2_with (first|(go_at_call 175;refine(zgn _ _ hs).mono ?_;rw[hN];rintro e w' ⟨rfl,rfl⟩)|(go_at_call 67;refine(za0 _ _ _ _).mono ?_;rintro e w' ⟨rfl,rfl⟩));go_ret;exact⟨zac (by rw[R.out]),rfl⟩
 cases hL:M.inn l 0 32
 ·have R:=Aq (show zby (s,l,xs) k m=false by rw[zby,hN,hL];rfl)
  go_enter Tryz.func127,Tryz.ntmps127
  go_wp2_with (first|(go_at_call 175;refine(zgn _ _ hs).mono ?_;rw[hN];rintro e w' ⟨rfl,rfl⟩)|(go_at_call 67;refine(za0 _ _ _ _).mono ?_;rintro e w' ⟨rfl,rfl⟩));go_ret;exact⟨zac (by rw[R.out]),rfl⟩
 by_cases h4:4<n
 ·have h4':(4:Int)<(n:Int):=by omega
  have R:=Aq (show zby (s,l,xs) k m=false by
   rw[zby,hN,hL];show zb5 xs k m=false
   rw[zb5,hl.out]
   split
   ·rw[Dz (by omega),Ev]
   rw[show M.inn (n:Int) 1 4=false by simp[M.inn];omega,Ev])
  go_enter Tryz.func127,Tryz.ntmps127
  go_wp2_with (first|(go_at_call 175;refine(zgn _ _ hs).mono ?_;rw[hN];rintro e w' ⟨rfl,rfl⟩)|(go_at_call 67;refine(za0 _ _ _ _).mono ?_;rintro e w' ⟨rfl,rfl⟩));go_ret;exact⟨zac (by rw[R.out]),rfl⟩
 by_cases hz:n=0
 ·by_cases hkm:k=m-1
  ·have R:=Aq (show zby (s,l,xs) k m=true by
    have hnil:xs=[]:=List.eq_nil_of_length_eq_zero (by rw[hl.out,hz]);rw[zby,hN,hL,zb5,if_pos hkm,hnil];rfl)
   have hkm2:(k == m-1)=true:=(by simpa using hkm);subst hz;clear hkm
   go_enter Tryz.func127,Tryz.ntmps127
   go_wp2_with (first|(go_at_call 175;refine(zgn _ _ hs).mono ?_;rw[hN];rintro e w' ⟨rfl,rfl⟩)|(go_at_call 67;refine(za0 _ _ _ _).mono ?_;rintro e w' ⟨rfl,rfl⟩))
   go_loop [7,8] (fun _ i=>i=.int .i64 0) (fun _ _=>0)
   case atStart=>exact rfl
   case round=>
    obtain rfl:=hrel;go_wp2;go_ret;exact⟨zac (by rw[R.out]),rfl⟩
  have R:=Aq (show zby (s,l,xs) k m=false by
   rw[zby,hN,hL];show zb5 xs k m=false
   rw[zb5,hl.out,if_neg hkm,hz,show M.inn ((0:Nat):Int) 1 4=false by decide,Ev])
  have hkm2:(k == m-1)=false:=by simpa using hkm
  subst hz
  go_enter Tryz.func127,Tryz.ntmps127
  go_wp2_with (first|(go_at_call 175;refine(zgn _ _ hs).mono ?_;rw[hN];rintro e w' ⟨rfl,rfl⟩)|(go_at_call 67;refine(za0 _ _ _ _).mono ?_;rintro e w' ⟨rfl,rfl⟩));go_ret;exact⟨zac (by rw[R.out]),rfl⟩
 have hz2:((n:Int) == 0)=false:=by simpa using hz
 by_cases hkm:k=m-1
 ·have R:=Aq (show zby (s,l,xs) k m=false by
   rw[zby,hN,hL];show zb5 xs k m=false
   rw[zb5,hl.out,if_pos hkm,Dz hz,Ev])
  have hkm2:(k == m-1)=true:=by simpa using hkm
  clear hkm hz
  go_enter Tryz.func127,Tryz.ntmps127
  go_wp2_with (first|(go_at_call 175;refine(zgn _ _ hs).mono ?_;rw[hN];rintro e w' ⟨rfl,rfl⟩)|(go_at_call 67;refine(za0 _ _ _ _).mono ?_;rintro e w' ⟨rfl,rfl⟩));go_ret;exact⟨zac (by rw[R.out]),rfl⟩
 have R:=Aq (show zby (s,l,xs) k m=zb4 m k xs by
  rw[zby,hN,hL];show zb5 xs k m=_
  rw[zb5,hl.out,if_neg hkm,show M.inn (n:Int) 1 4=true from zdt.2 ⟨by omega,by omega⟩,Bool.and_true])
 have hkm2:(k == m-1)=false:=by simpa using hkm
 have hN':=Aq hN;have hL':=Aq hL;clear hkm hz hN hL
 go_enter Tryz.func127,Tryz.ntmps127
 go_wp2_with (first|(go_at_call 175;refine(zgn _ _ hs).mono ?_;rw[hN'.out];rintro e w' ⟨rfl,rfl⟩)|(go_at_call 67;refine(za0 _ _ _ _).mono ?_;rw[hL'.out];rintro e w' ⟨rfl,rfl⟩))
 go_loop [7,8] (fun v i=>∃(j:Nat) (last:Int),i=.int .i64 j/\j<=n/\v=.int .i64 last/\0<=last/\last<=1000000000/\Hid (zb4 m k xs=zb4 m last (xs.drop j))) (fun _ i=>n-(intOf i).toNat)
 case atStart=>exact⟨0,k,rfl,by omega,rfl,by omega,by omega,Aq rfl⟩
 case round=>
  obtain⟨j,last,rfl,hj,rfl,hl0,hl1,H⟩:=hrel
  by_cases hlt:j<n
  ·obtain⟨b,o1,⟨p0,p1⟩,rfl,hab,X,hcc⟩:=hx.at zf6 (by decide) hlt;have e0:w.cell? ⟨b,o1+j*2,none⟩=some (.int .i64 p0):=hcc 0 _ rfl;have e1:w.cell? ⟨b,o1+j*2+1,none⟩=some (.int .i64 p1):=hcc 1 _ rfl;have hS:=Aq (zl9 (m:=m) (last:=last) X.out);clear hcc;cases h1:M.inn p0 (last+1) (m-1)
   ·have R2:=Aq (show zby (s,l,xs) k m=false by rw[R.out,H.out,hS.out,h1];rfl);go_wp2_with (go_at_call 67;refine(za0 _ _ _ _).mono ?_;rintro e w' ⟨rfl,rfl⟩);go_ret;exact⟨zac (by rw[R2.out]),rfl⟩
   cases h2:M.smp p1
   ·have R2:=Aq (show zby (s,l,xs) k m=false by rw[R.out,H.out,hS.out,h1,h2];rfl);go_wp2_with (first|(go_at_call 67;refine(za0 _ _ _ _).mono ?_;rintro e w' ⟨rfl,rfl⟩)|(go_at_call 128;refine(zej _ _).mono ?_;rintro e w' ⟨rfl,rfl⟩));go_ret;exact⟨zac (by rw[R2.out]),rfl⟩
   have hp:=zdt.1 h1;have H2:=Aq (show zb4 m k xs=zb4 m p0 (xs.drop (j+1))by rw[H.out,hS.out,h1,h2];rfl);go_wp2_with (first|(go_at_call 67;refine(za0 _ _ _ _).mono ?_;rintro e w' ⟨rfl,rfl⟩)|(go_at_call 128;refine(zej _ _).mono ?_;rintro e w' ⟨rfl,rfl⟩));go_round
   case rel=>exact⟨j+1,p0,by go_num,by omega,rfl,by omega,by omega,H2⟩
   case measure=>simp[intOf];omega
  have R2:=Aq (show zby (s,l,xs) k m=true by rw[R.out,H.out,Ej (by rw[hl.out];omega)];rfl);go_wp2;go_ret;exact⟨zac (by rw[R2.out]),rfl⟩
section
open Go.Maps (Keyed)
theorem zq8{P:Program}{k t e:TypeId}{w:Yw}{b n:Nat}{D:DataW Unit}(h:w.ownsMap P k (plainElem P e) b n D)(K:Keyed P k)(ht:P.underlying t=some (.map k e))(he:P.underlying e=some .bool)(hz:(zeroValue e).run P w=.ok (.bool false) w)
 {key:Value} {kl:Lit} (hkey:keyOf P k key=some kl):∃c,(Instr.lookup t (.map (some b)) key false).run P w=.ok (.bool c) w/\D.atKey kl (.lit (.bool false))=.lit (.bool c):=by
 obtain⟨v,ps,hrun,hv⟩:=h.lookup K ht hz (plainElem_bool he false) hkey;unfold plainElem at hv;rw[he]at hv;cases v <;> simp at hv
 rename_i c
 exact⟨c,hrun,hv.1.symm⟩
def zd9 (s:ByteArray) (l:List ByteArray):Bool:=l.any fun t=>decide (t=s)
def zit (D:DataW Unit) (l:List ByteArray):Prop:=Go.Maps.IsMap D/\∀s:ByteArray,D.atKey (.string s.data.toList) (.lit (.bool false))=.lit (.bool (zd9 s l))
theorem zq9{s t:ByteArray}(h:s.data.toList=t.data.toList):s=t:=ByteArray.ext (Array.toList_inj.1 h)
theorem zra:zit (.map []) []:=⟨⟨[],rfl⟩,fun s=>rfl⟩
theorem zrb{D:DataW Unit}{l:List ByteArray}(h:zit D l)(s:ByteArray):zit (D.put (.string s.data.toList) (.lit (.bool true))) (l++[s]):=by
 refine⟨?_,fun t=>?_⟩
 ·obtain⟨es,rfl⟩:=h.1;exact⟨_,rfl⟩
 by_cases e:t=s
 ·subst e;rw[Go.Maps.atKey_put_same (k:=.string t.data.toList) h.1 (by simp[WideAt.IsKeyLit])];simp[zd9]
 rw[Go.Maps.atKey_put_other (fun e2=>e (by injection e2 with e2;exact zq9 e2)),h.2 t];have e2:¬s=t:=fun h=>e h.symm
 simp[zd9,e2]
theorem zma:Keyed Tryz.prog 9:=Keyed.of_law (Go.WideMaps.string_law Tryz.underlying9)
theorem zrc(w:Yw):(zeroValue 4).run Tryz.prog w=.ok (.bool false) w:=by kernel_rfl
def M.sz:zag:=(⟨#[]⟩,0,[])
def zen (xs:List zag) (k:Nat):Bool:=zby ((xs[k]?).getD M.sz) k xs.length&&!zd9 ((xs[k]?).getD M.sz).1 ((xs.take k).map (·.1))
def zay (xs:List zag):Bool:=M.inn xs.length 1 8&&(List.range xs.length).all (zen xs)
theorem zmb{xs:List zag}{k:Nat}(hk:k<xs.length)(h:zen xs k=false):zay xs=false:=by
 rw[zay];cases hall:(List.range xs.length).all (zen xs)
 ·simp
 rw[Ef]at hall;have:=hall k (Gj.2 hk);rw[h]at this;cases this
theorem zmc{xs:List zag}(h:∀j,j<xs.length->zen xs j=true):zay xs=M.inn xs.length 1 8:=by
 rw[zay,show (List.range xs.length).all (zen xs)=true from Ef.2 fun j hj=>h j (Gj.1 hj),Bool.and_true]
theorem zhs{xs:List zag}{k:Nat}{x:zag}(h:xs[k]?=some x):zen xs k=(zby x k xs.length&&!zd9 x.1 ((xs.take k).map (·.1))):=by
 rw[zen,h];rfl
theorem zrd{w w':Yw}(h:Below w.heap.size w w')(row:Option Nat):w.grownBy w' row:=⟨h.os,h.tape,h.output,h.size,fun k hk _=>h.block k hk⟩
theorem zht(A:Yo)(n c:Nat)(xs:List zag)(w:Yw)(hx:tM.R w w.heap.size [.slice A n c] xs)(hn:hM.sz xs<=100000000):
 Calls Tryz.prog 83 #[.agg #[.slice A n c]] w fun e w'=>e=.returned (.bool (zay xs))/\Below w.heap.size w w':=by
 have rx:=sl_R.1 hx;have hlx:=rx.cap.1;have hm1:xs.length+hSt.szL xs<=100000000:=hn;have hnb:n<=100000000:=by omega
 have HLX:=Aq hlx;have HM1:=Aq hm1;clear hlx hx hn hm1;have hmm:=@run_makeMap Tryz.prog
 go_enter Tryz.func83,Tryz.ntmps83
 go_wp2_with (go_at_call 80;refine(ze3 _ _ _ _).mono ?_;rintro e w' ⟨rfl,rfl⟩)
 go_loopw [5,6,14] (fun _ _ i wr=>∃(k:Nat) (D:DataW Unit),i=.int .i64 k/\k<=n/\Hid (∀j,j<k->zen xs j=true)/\Hid (zit D ((xs.take k).map (·.1)))/\wr.ownsMap Tryz.prog 9 (plainElem Tryz.prog 4) (w.heap.size+1) k D/\w.heap.size+1+1<=wr.heap.size/\Below w.heap.size w wr) (fun _ _ i _=>n-(intOf i).toNat)
 case atStart=>exact⟨0,.map [],rfl,by omega,Aq (by omega),Aq (by simpa using zra),by have:=World.ownsMap_made (w.alloc (.cells #[.slice A n c] 36)) Tryz.prog 9 (plainElem (H:=Unit) Tryz.prog 4);simpa using this,by simp,((Aw _ _).alloc (Aj _) _).alloc (by simp) _⟩
 case round=>
  obtain⟨k,D,rfl,hk,H,HD,hown,hsz,Bw⟩:=hrel;clear hmm
  by_cases hlt:k<n
  ·have hX:=Aq (Ak (l:=xs) (i:=k) (by rw[HLX.out];exact hlt));obtain⟨b,o1,cc,cs,hv,hab,-,hE,hcc⟩:=(rx.below Bw).atX hX.out;simp only[Cz]at hv;obtain⟨rfl,-,rfl⟩:=hv;have hU:=hSt.szL_at hX.out;generalize xs[k]'(by rw[HLX.out];exact hlt)=x at hX hE hU;obtain⟨s,l,us⟩:=x;rw[zir]at hU;obtain⟨A1,n1,c1,rfl,hs,hE⟩:=st_R.1 hE;have n1b:n1<=1000000000:=(by have:=(zd8 hE).1.1;have:=HM1.out;omega);have e0:wr.cell? ⟨b,o1+k*3,none⟩=some (.string s):=hcc 0 _ rfl;have e1:wr.cell? ⟨b,o1+k*3+1,none⟩=some (.int .i64 l):=hcc 1 _ rfl;have e2:wr.cell? ⟨b,o1+k*3+2,none⟩=some (.slice A1 n1 c1):=hcc 2 _ rfl;have hbr:b<wr.heap.size:=Cq hab Bw.size;have hE2:=tSdS.later (tSdS.more Bw.size hE) ((Aw wr.heap.size wr).alloc (Aj _) (.cells #[.string s,.int .i64 l,.slice A1 n1 c1] 117));have hra:=(zd8 hE2).1;have hS:=Aq (zhs hX.out);have HNO:=Aq (fun h=>zmb (xs:=xs) (k:=k) (by rw[HLX.out];exact hlt) h);have hownU:=hown.alloc (.cells #[.string s,.int .i64 l,.slice A1 n1 c1] 117);have hkey:keyOf Tryz.prog 9 (.string s)=some (.string s.data.toList):=Go.WideMaps.keyOf_string_mk Tryz.underlying9 hs;obtain⟨q,hrun,hat⟩:=zq8 hownU zma Tryz.underlying186 Tryz.underlying4 (zrc _) hkey
   have hq:q=zd9 s ((xs.take k).map (·.1)):=by
    rw[HD.out.2 s]at hat;injection hat with hat
    injection hat with hat
    exact hat.symm
   have HQ:=Aq hq;have Bu:=Bw.alloc Bw.size (.cells #[.string s,.int .i64 l,.slice A1 n1 c1] 117);clear hcc hU hE hE2 hat hq;cases hN:zds s
   ·have R:=Aq (show zay xs=false from HNO.out (by rw[hS.out,zby,hN];rfl));go_wp2_with (first|(go_at_call 140;refine(zhq _ _ hs).mono ?_;rw[hN];rintro e w' ⟨rfl,rfl⟩));go_ret;exact⟨zac (by rw[R.out]),Bu⟩
   by_cases hq1:q=true
   ·subst hq1;have R:=Aq (show zay xs=false from HNO.out (by rw[hS.out,<-HQ.out,Bool.not_true,Ev]));go_wp2_with (first|(go_at_call 140;refine(zhq _ _ hs).mono ?_;rw[hN];rintro e w' ⟨rfl,rfl⟩));go_ret;exact⟨zac (by rw[R.out]),Bu⟩
   have hq0:q=false:=(by simpa using hq1);subst hq0;clear hq1;cases hL:M.inn l 0 32
   ·have R:=Aq (show zay xs=false from HNO.out (by rw[hS.out,zby,hN,hL];rfl));go_wp2_with (first|(go_at_call 140;refine(zhq _ _ hs).mono ?_;rw[hN];rintro e w' ⟨rfl,rfl⟩)|(go_at_call 81;refine(zav _ _ _ _).mono ?_;rintro e w' ⟨rfl,rfl⟩));go_ret;exact⟨zac (by rw[R.out]),Bu⟩
   have hAS:=zq6 A1 n1 c1 us k n _ hra n1b ⟨by omega,by omega⟩ ⟨by omega,by omega⟩;cases hA:zb5 us k n
   ·have R:=Aq (show zay xs=false from HNO.out (by rw[hS.out,zby,hN,hL,HLX.out,hA];rfl));go_wp2_with (first|(go_at_call 140;refine(zhq _ _ hs).mono ?_;rw[hN];rintro e w' ⟨rfl,rfl⟩)|(go_at_call 81;refine(zav _ _ _ _).mono ?_;rintro e w' ⟨rfl,rfl⟩)|(go_at_call 141;refine hAS.mono ?_;rw[hA];clear hAS;rintro e w2 ⟨rfl,bel2⟩));go_ret;exact⟨zac (by rw[R.out]),zj3 Bu (by simp;omega) bel2⟩
   have HST:=Aq (show zen xs k=true by rw[hS.out,zby,hN,hL,HLX.out,hA,<-HQ.out];rfl);have HT:=Aq (show (xs.take (k+1)).map (·.1)=(xs.take k).map (·.1)++[s]by rw[M.take_at hX.out,List.map_append];rfl);go_wp2_with (first|(go_at_call 140;refine(zhq _ _ hs).mono ?_;rw[hN];rintro e w' ⟨rfl,rfl⟩)|(go_at_call 81;refine(zav _ _ _ _).mono ?_;rintro e w' ⟨rfl,rfl⟩)|(go_at_call 141;refine hAS.mono ?_;rw[hA];clear hAS;rintro e w2 ⟨rfl,bel2⟩;have hown2:=hownU.kept (zrd bel2 none) (by simp);have z2:wr.heap.size+1<=w2.heap.size:=(by have:=bel2.size;simpa using this);have g0:w2.cell? ⟨wr.heap.size,0,none⟩=some (.string s):=(by rw[bel2.cell (by simp),cell_of_row _ wr.heap.size 0 _ 117 (0,0) (Df wr _)];rfl))|(at_mapUpdate;refine wpList_mapUpdate_own _ rfl _ _ _ 186 rfl 9 4 zma Tryz.underlying186 _ (w.heap.size+1) k _ rfl hown2 (by unfold maxLen;omega) _ _ _ rfl rfl hkey _ [] (plainElem_bool Tryz.underlying4 true) ?_;intro w3 hown3 hgrow3));go_roundw
   case rel=>exact⟨k+1,_,by go_num,by omega,Aq (fun j hj=>by
    rcases Fj j k with h1|h1
    ·exact H.out j h1
    obtain rfl:j=k:=by omega
    exact HST.out),Aq (by rw[HT.out];exact zrb HD.out s),hown3,by have:=hgrow3.size;omega,(zj3 Bu (by simp;omega) bel2).grown hgrow3 (by omega) (fun j hj=>by injection hj with hj;omega)⟩
   case measure=>simp[intOf];omega
  have R:=Aq (show zay xs=M.inn n 1 8 by rw[zmc (fun j hj=>H.out j (by rw[HLX.out]at hj;omega)),HLX.out]);go_wp2_with (go_at_call 81;refine(zav _ _ _ _).mono ?_;rintro e w' ⟨rfl,rfl⟩);go_ret;exact⟨zac (by rw[R.out]),Bw⟩
end
def hU:Hs Int:=⟨fun _=>0,fun _ x=>x,fun _=>0⟩
theorem zbv{α:Type}{t:Ty α}{e:TypeId}{w:Yw}{B:Nat}{cs:List Value}{x:List α}(h:(t.sl e).R w B cs x):∃A n c,cs=[.slice A n c]:=by
 obtain⟨v,rfl,hr⟩:=h;obtain⟨A,c,rfl⟩:=hr.shape;exact⟨_,_,_,rfl⟩
abbrev zap:=Int×Int×Int×Int×Int
abbrev Node:=Int×Int×Int×(List Int)
abbrev tN:Ty Node:=tI.prod (tI.prod (tI.prod tS))
abbrev hN:Hs Node:=hI.prod (hI.prod (hI.prod hS))
theorem tN_R{w:Yw}{B:Nat}{cs:List Value}{a0:Int}{a1:Int}{a2:Int}{x3:List Int}:tN.R w B cs (a0,a1,a2,x3)↔∃A3 n3 c3,cs=[.int .i64 a0,.int .i64 a1,.int .i64 a2,.slice A3 n3 c3]/\tS.R w B [.slice A3 n3 c3] x3:=by
 constructor
 ·rintro⟨u0,d0,rfl,g0,⟨u1,d1,rfl,g1,⟨u2,d2,rfl,g2,g3⟩⟩⟩;obtain rfl:u0=[.int .i64 a0]:=g0;obtain rfl:u1=[.int .i64 a1]:=g1;obtain rfl:u2=[.int .i64 a2]:=g2;obtain⟨A3,n3,c3,rfl⟩:=zbv g3;exact⟨A3,n3,c3,rfl,g3⟩
 rintro⟨A3,n3,c3,rfl,g3⟩;exact⟨[.int .i64 a0],_,rfl,rfl,⟨[.int .i64 a1],_,rfl,rfl,⟨[.int .i64 a2],_,rfl,rfl,g3⟩⟩⟩
theorem tN_O{w:Yw}{F:Nat->Prop}{cs:List Value}{a0:Int}{a1:Int}{a2:Int}{x3:List Int}:tN.O w F cs (a0,a1,a2,x3)↔∃A3 n3 c3,∃F3:Nat->Prop,cs=[.int .i64 a0,.int .i64 a1,.int .i64 a2,.slice A3 n3 c3]/\tS.O w F3 [.slice A3 n3 c3] x3/\(∀b,F3 b->F b):=by
 constructor
 ·rintro⟨u0,d0,F0,G0,rfl,g0,⟨u1,d1,F1,G1,rfl,g1,⟨u2,d2,F2,G2,rfl,g2,g3,p2,q2,r2⟩,p1,q1,r1⟩,p0,q0,r0⟩;obtain rfl:u0=[.int .i64 a0]:=g0;obtain rfl:u1=[.int .i64 a1]:=g1;obtain rfl:u2=[.int .i64 a2]:=g2;obtain⟨A3,n3,c3,rfl⟩:=zbv (tS.read g3);exact⟨A3,n3,c3,G2,rfl,g3,fun b h=>q0 _ (q1 _ (q2 _ (h)))⟩
 rintro⟨A3,n3,c3,F3,rfl,g3,p3⟩;exact⟨[.int .i64 a0],_,(fun _=>False),F3,rfl,rfl,⟨[.int .i64 a1],_,(fun _=>False),F3,rfl,rfl,⟨[.int .i64 a2],_,(fun _=>False),F3,rfl,rfl,g3,fun _ h=>h.elim,fun b h=>by first|exact h|exact Or.inr h|(rcases h with h <;> simp only[*,true_or,or_true]),fun _ h=>h.elim⟩,fun _ h=>h.elim,fun b h=>by first|exact h|exact Or.inr h|(rcases h with h <;> simp only[*,true_or,or_true]),fun _ h=>h.elim⟩,fun _ h=>h.elim,p3,fun _ h=>h.elim⟩
theorem ziu(a0:Int)(a1:Int)(a2:Int)(x3:List Int):hN.sz (a0,a1,a2,x3)=hS.sz x3:=by
 show 0+(0+(0+(hS.sz x3)))=_
 omega
abbrev tNS:Ty (List Node):=tN.sl 169
abbrev hNS:Hs (List Node):=hN.sl
theorem zg1:EI Tryz.prog 65 169 (.agg #[.int .i64 0,.int .i64 0,.int .i64 0,.slice none 0 0]) 4 48:=⟨Tryz.underlying65,by kernel_rfl,rfl,by decide⟩
theorem zke:EI Tryz.prog 22 24 (.slice none 0 0) 1 24:=⟨Tryz.underlying22,by kernel_rfl,rfl,by decide⟩
abbrev zae:=Int×(List (List Int))×(List Node)×(List Int)
abbrev tP:Ty zae:=tI.prod (tSS.prod (tNS.prod tS))
abbrev hP:Hs zae:=hI.prod (hSS.prod (hNS.prod hS))
theorem tP_R{w:Yw}{B:Nat}{cs:List Value}{a0:Int}{x1:List (List Int)}{x2:List Node}{x3:List Int}:tP.R w B cs (a0,x1,x2,x3)↔∃A1 n1 c1 A2 n2 c2 A3 n3 c3,cs=[.int .i64 a0,.slice A1 n1 c1,.slice A2 n2 c2,.slice A3 n3 c3]/\tSS.R w B [.slice A1 n1 c1] x1/\tNS.R w B [.slice A2 n2 c2] x2/\tS.R w B [.slice A3 n3 c3] x3:=by
 constructor
 ·rintro⟨u0,d0,rfl,g0,⟨u1,d1,rfl,g1,⟨u2,d2,rfl,g2,g3⟩⟩⟩;obtain rfl:u0=[.int .i64 a0]:=g0;obtain⟨A1,n1,c1,rfl⟩:=zbv g1;obtain⟨A2,n2,c2,rfl⟩:=zbv g2;obtain⟨A3,n3,c3,rfl⟩:=zbv g3;exact⟨A1,n1,c1,A2,n2,c2,A3,n3,c3,rfl,g1,g2,g3⟩
 rintro⟨A1,n1,c1,A2,n2,c2,A3,n3,c3,rfl,g1,g2,g3⟩;exact⟨[.int .i64 a0],_,rfl,rfl,⟨[.slice A1 n1 c1],_,rfl,g1,⟨[.slice A2 n2 c2],_,rfl,g2,g3⟩⟩⟩
theorem tP_O{w:Yw}{F:Nat->Prop}{cs:List Value}{a0:Int}{x1:List (List Int)}{x2:List Node}{x3:List Int}:tP.O w F cs (a0,x1,x2,x3)↔∃A1 n1 c1 A2 n2 c2 A3 n3 c3,∃F1 F2 F3:Nat->Prop,cs=[.int .i64 a0,.slice A1 n1 c1,.slice A2 n2 c2,.slice A3 n3 c3]/\tSS.O w F1 [.slice A1 n1 c1] x1/\tNS.O w F2 [.slice A2 n2 c2] x2/\tS.O w F3 [.slice A3 n3 c3] x3/\(∀b,F1 b->F b)/\(∀b,F2 b->F b)/\(∀b,F3 b->F b)/\(∀b,F1 b->¬F2 b)/\(∀b,F1 b->¬F3 b)/\(∀b,F2 b->¬F3 b):=by
 constructor
 ·rintro⟨u0,d0,F0,G0,rfl,g0,⟨u1,d1,F1,G1,rfl,g1,⟨u2,d2,F2,G2,rfl,g2,g3,p2,q2,r2⟩,p1,q1,r1⟩,p0,q0,r0⟩;obtain rfl:u0=[.int .i64 a0]:=g0;obtain⟨A1,n1,c1,rfl⟩:=zbv (tSS.read g1);obtain⟨A2,n2,c2,rfl⟩:=zbv (tNS.read g2);obtain⟨A3,n3,c3,rfl⟩:=zbv (tS.read g3);exact⟨A1,n1,c1,A2,n2,c2,A3,n3,c3,F1,F2,G2,rfl,g1,g2,g3,fun b h=>q0 _ (p1 _ h),fun b h=>q0 _ (q1 _ (p2 _ h)),fun b h=>q0 _ (q1 _ (q2 _ (h))),fun b h h2=>r1 b h (p2 _ h2),fun b h h2=>r1 b h (q2 _ (h2)),fun b h h2=>r2 b h (h2)⟩
 rintro⟨A1,n1,c1,A2,n2,c2,A3,n3,c3,F1,F2,F3,rfl,g1,g2,g3,p1,p2,p3,r1_2,r1_3,r2_3⟩;exact⟨[.int .i64 a0],_,(fun _=>False),(fun b=>F1 b\/F2 b\/F3 b),rfl,rfl,⟨[.slice A1 n1 c1],_,F1,(fun b=>F2 b\/F3 b),rfl,g1,⟨[.slice A2 n2 c2],_,F2,F3,rfl,g2,g3,fun b h=>by first|exact h|(simp only[*,true_or,or_true]),fun b h=>by first|exact h|exact Or.inr h|(rcases h with h <;> simp only[*,true_or,or_true]),r2_3⟩,fun b h=>by first|exact h|(simp only[*,true_or,or_true]),fun b h=>by first|exact h|exact Or.inr h|(rcases h with h|h <;> simp only[*,true_or,or_true]),fun b h h2=>by rcases h2 with h2|h2 <;> first|exact r1_2 b h h2|exact r1_3 b h h2⟩,fun _ h=>h.elim,fun b h=>by rcases h with h|h|h <;> first|exact p1 b h|exact p2 b h|exact p3 b h,fun _ h=>h.elim⟩
theorem zea(a0:Int)(x1:List (List Int))(x2:List Node)(x3:List Int):hP.sz (a0,x1,x2,x3)=hSS.sz x1+hNS.sz x2+hS.sz x3:=by
 show 0+(hSS.sz x1+(hNS.sz x2+(hS.sz x3)))=_
 omega
abbrev tPS:Ty (List zae):=tP.sl 67
abbrev hPS:Hs (List zae):=hP.sl
theorem zkf:EI Tryz.prog 33 67 (.agg #[.int .i64 0,.slice none 0 0,.slice none 0 0,.slice none 0 0]) 4 80:=⟨Tryz.underlying33,by kernel_rfl,rfl,by decide⟩
abbrev tTS:Ty (List (List zap)):=tT.sl 98
abbrev hTS:Hs (List (List zap)):=hT.sl
theorem zmd:EI Tryz.prog 32 98 (.agg #[.slice none 0 0]) 1 24:=⟨Tryz.underlying32,by kernel_rfl,rfl,by decide⟩
abbrev Sess:=Int×(List (List Int))×(List (List zap))×(List Int)×(List zae)×(List zag)
abbrev tZ:Ty Sess:=tI.prod (tSS.prod (tTS.prod (tS.prod (tPS.prod tM))))
abbrev hZ:Hs Sess:=hU.prod (hSS.prod (hTS.prod (hS.prod (hPS.prod hM))))
theorem tZ_R{w:Yw}{B:Nat}{cs:List Value}{a0:Int}{x1:List (List Int)}{x2:List (List zap)}{x3:List Int}{x4:List zae}{x5:List zag}:tZ.R w B cs (a0,x1,x2,x3,x4,x5)↔∃A1 n1 c1 A2 n2 c2 A3 n3 c3 A4 n4 c4 A5 n5 c5,cs=[.int .i64 a0,.slice A1 n1 c1,.slice A2 n2 c2,.slice A3 n3 c3,.slice A4 n4 c4,.slice A5 n5 c5]/\tSS.R w B [.slice A1 n1 c1] x1/\tTS.R w B [.slice A2 n2 c2] x2/\tS.R w B [.slice A3 n3 c3] x3/\tPS.R w B [.slice A4 n4 c4] x4/\tM.R w B [.slice A5 n5 c5] x5:=by
 constructor
 ·rintro⟨u0,d0,rfl,g0,⟨u1,d1,rfl,g1,⟨u2,d2,rfl,g2,⟨u3,d3,rfl,g3,⟨u4,d4,rfl,g4,g5⟩⟩⟩⟩⟩;obtain rfl:u0=[.int .i64 a0]:=g0;obtain⟨A1,n1,c1,rfl⟩:=zbv g1;obtain⟨A2,n2,c2,rfl⟩:=zbv g2;obtain⟨A3,n3,c3,rfl⟩:=zbv g3;obtain⟨A4,n4,c4,rfl⟩:=zbv g4;obtain⟨A5,n5,c5,rfl⟩:=zbv g5;exact⟨A1,n1,c1,A2,n2,c2,A3,n3,c3,A4,n4,c4,A5,n5,c5,rfl,g1,g2,g3,g4,g5⟩
 rintro⟨A1,n1,c1,A2,n2,c2,A3,n3,c3,A4,n4,c4,A5,n5,c5,rfl,g1,g2,g3,g4,g5⟩;exact⟨[.int .i64 a0],_,rfl,rfl,⟨[.slice A1 n1 c1],_,rfl,g1,⟨[.slice A2 n2 c2],_,rfl,g2,⟨[.slice A3 n3 c3],_,rfl,g3,⟨[.slice A4 n4 c4],_,rfl,g4,g5⟩⟩⟩⟩⟩
theorem tZ_O{w:Yw}{F:Nat->Prop}{cs:List Value}{a0:Int}{x1:List (List Int)}{x2:List (List zap)}{x3:List Int}{x4:List zae}{x5:List zag}:tZ.O w F cs (a0,x1,x2,x3,x4,x5)↔∃A1 n1 c1 A2 n2 c2 A3 n3 c3 A4 n4 c4 A5 n5 c5,∃F1 F2 F3 F4 F5:Nat->Prop,cs=[.int .i64 a0,.slice A1 n1 c1,.slice A2 n2 c2,.slice A3 n3 c3,.slice A4 n4 c4,.slice A5 n5 c5]/\tSS.O w F1 [.slice A1 n1 c1] x1/\tTS.O w F2 [.slice A2 n2 c2] x2/\tS.O w F3 [.slice A3 n3 c3] x3/\tPS.O w F4 [.slice A4 n4 c4] x4/\tM.O w F5 [.slice A5 n5 c5] x5/\(∀b,F1 b->F b)/\(∀b,F2 b->F b)/\(∀b,F3 b->F b)/\(∀b,F4 b->F b)/\(∀b,F5 b->F b)/\(∀b,F1 b->¬F2 b)/\(∀b,F1 b->¬F3 b)/\(∀b,F1 b->¬F4 b)/\(∀b,F1 b->¬F5 b)/\(∀b,F2 b->¬F3 b)/\(∀b,F2 b->¬F4 b)/\(∀b,F2 b->¬F5 b)/\(∀b,F3 b->¬F4 b)/\(∀b,F3 b->¬F5 b)/\(∀b,F4 b->¬F5 b):=by
 constructor
 ·rintro⟨u0,d0,F0,G0,rfl,g0,⟨u1,d1,F1,G1,rfl,g1,⟨u2,d2,F2,G2,rfl,g2,⟨u3,d3,F3,G3,rfl,g3,⟨u4,d4,F4,G4,rfl,g4,g5,p4,q4,r4⟩,p3,q3,r3⟩,p2,q2,r2⟩,p1,q1,r1⟩,p0,q0,r0⟩;obtain rfl:u0=[.int .i64 a0]:=g0;obtain⟨A1,n1,c1,rfl⟩:=zbv (tSS.read g1);obtain⟨A2,n2,c2,rfl⟩:=zbv (tTS.read g2);obtain⟨A3,n3,c3,rfl⟩:=zbv (tS.read g3);obtain⟨A4,n4,c4,rfl⟩:=zbv (tPS.read g4);obtain⟨A5,n5,c5,rfl⟩:=zbv (tM.read g5);exact⟨A1,n1,c1,A2,n2,c2,A3,n3,c3,A4,n4,c4,A5,n5,c5,F1,F2,F3,F4,G4,rfl,g1,g2,g3,g4,g5,fun b h=>q0 _ (p1 _ h),fun b h=>q0 _ (q1 _ (p2 _ h)),fun b h=>q0 _ (q1 _ (q2 _ (p3 _ h))),fun b h=>q0 _ (q1 _ (q2 _ (q3 _ (p4 _ h)))),fun b h=>q0 _ (q1 _ (q2 _ (q3 _ (q4 _ (h))))),fun b h h2=>r1 b h (p2 _ h2),fun b h h2=>r1 b h (q2 _ (p3 _ h2)),fun b h h2=>r1 b h (q2 _ (q3 _ (p4 _ h2))),fun b h h2=>r1 b h (q2 _ (q3 _ (q4 _ (h2)))),fun b h h2=>r2 b h (p3 _ h2),fun b h h2=>r2 b h (q3 _ (p4 _ h2)),fun b h h2=>r2 b h (q3 _ (q4 _ (h2))),fun b h h2=>r3 b h (p4 _ h2),fun b h h2=>r3 b h (q4 _ (h2)),fun b h h2=>r4 b h (h2)⟩
 rintro⟨A1,n1,c1,A2,n2,c2,A3,n3,c3,A4,n4,c4,A5,n5,c5,F1,F2,F3,F4,F5,rfl,g1,g2,g3,g4,g5,p1,p2,p3,p4,p5,r1_2,r1_3,r1_4,r1_5,r2_3,r2_4,r2_5,r3_4,r3_5,r4_5⟩;exact⟨[.int .i64 a0],_,(fun _=>False),(fun b=>F1 b\/F2 b\/F3 b\/F4 b\/F5 b),rfl,rfl,⟨[.slice A1 n1 c1],_,F1,(fun b=>F2 b\/F3 b\/F4 b\/F5 b),rfl,g1,⟨[.slice A2 n2 c2],_,F2,(fun b=>F3 b\/F4 b\/F5 b),rfl,g2,⟨[.slice A3 n3 c3],_,F3,(fun b=>F4 b\/F5 b),rfl,g3,⟨[.slice A4 n4 c4],_,F4,F5,rfl,g4,g5,fun b h=>by first|exact h|(simp only[*,true_or,or_true]),fun b h=>by first|exact h|exact Or.inr h|(rcases h with h <;> simp only[*,true_or,or_true]),r4_5⟩,fun b h=>by first|exact h|(simp only[*,true_or,or_true]),fun b h=>by first|exact h|exact Or.inr h|(rcases h with h|h <;> simp only[*,true_or,or_true]),fun b h h2=>by rcases h2 with h2|h2 <;> first|exact r3_4 b h h2|exact r3_5 b h h2⟩,fun b h=>by first|exact h|(simp only[*,true_or,or_true]),fun b h=>by first|exact h|exact Or.inr h|(rcases h with h|h|h <;> simp only[*,true_or,or_true]),fun b h h2=>by rcases h2 with h2|h2|h2 <;> first|exact r2_3 b h h2|exact r2_4 b h h2|exact r2_5 b h h2⟩,fun b h=>by first|exact h|(simp only[*,true_or,or_true]),fun b h=>by first|exact h|exact Or.inr h|(rcases h with h|h|h|h <;> simp only[*,true_or,or_true]),fun b h h2=>by rcases h2 with h2|h2|h2|h2 <;> first|exact r1_2 b h h2|exact r1_3 b h h2|exact r1_4 b h h2|exact r1_5 b h h2⟩,fun _ h=>h.elim,fun b h=>by rcases h with h|h|h|h|h <;> first|exact p1 b h|exact p2 b h|exact p3 b h|exact p4 b h|exact p5 b h,fun _ h=>h.elim⟩
theorem zeb(a0:Int)(x1:List (List Int))(x2:List (List zap))(x3:List Int)(x4:List zae)(x5:List zag):hZ.sz (a0,x1,x2,x3,x4,x5)=hSS.sz x1+hTS.sz x2+hS.sz x3+hPS.sz x4+hM.sz x5:=by
 show 0+(hSS.sz x1+(hTS.sz x2+(hS.sz x3+(hPS.sz x4+(hM.sz x5)))))=_
 omega
end Go.Proofs.YtifeldeikhmckaaGreat
