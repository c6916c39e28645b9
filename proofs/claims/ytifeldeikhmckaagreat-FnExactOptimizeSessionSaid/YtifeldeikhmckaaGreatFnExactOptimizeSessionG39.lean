import Derived.Test.YtifeldeikhmckaaGreatFnExactOptimizeSessionG38
import Derived.Test.YtifeldeikhmckaaGreatFnExactOptimizeSessionG23
import Derived.Test.YtifeldeikhmckaaGreatFnExactOptimizeSessionG14
import Derived.Test.YtifeldeikhmckaaGreatFnExactOptimizeSessionG35
import Derived.Test.YtifeldeikhmckaaGreatFnExactOptimizeSessionG34
set_option linter.unusedVariables false
set_option linter.unusedSimpArgs false
set_option maxRecDepth 100000
set_option maxHeartbeats 4000000
namespace Go.Proofs.YtifeldeikhmckaaGreat
open Go.RowKit Go.Sort
section
structure PV (w:Yw) (vb vo:Nat) (a0:Int) (A1:Yo) (n1 c1:Nat) (A2:Yo) (n2 c2:Nat) (A3:Yo) (n3 c3:Nat):Prop where
 c0:w.cell? ⟨vb,vo,none⟩=some (.int .i64 a0)
 c1:w.cell? ⟨vb,vo+1,none⟩=some (.slice A1 n1 c1)
 c2:w.cell? ⟨vb,vo+2,none⟩=some (.slice A2 n2 c2)
 c3:w.cell? ⟨vb,vo+3,none⟩=some (.slice A3 n3 c3)
section
variable {w w':Yw} {vb vo:Nat} {a0:Int} {A1 :Yo} {n1 c1:Nat} {A2 :Yo} {n2 c2:Nat} {A3 :Yo} {n3 c3:Nat}
theorem PV.lt(h:PV w vb vo a0 A1 n1 c1 A2 n2 c2 A3 n3 c3):vb<w.heap.size:=World.block_lt_of_cell? w _ h.c0
theorem PV.later(h:PV w vb vo a0 A1 n1 c1 A2 n2 c2 A3 n3 c3)(hb:Below w.heap.size w w'):PV w' vb vo a0 A1 n1 c1 A2 n2 c2 A3 n3 c3:=
 ⟨(hb.cell (by exact h.lt)).trans h.c0,(hb.cell (by exact h.lt)).trans h.c1,(hb.cell (by exact h.lt)).trans h.c2,(hb.cell (by exact h.lt)).trans h.c3⟩
theorem PV.drew(h:PV w vb vo a0 A1 n1 c1 A2 n2 c2 A3 n3 c3):PV w.drew vb vo a0 A1 n1 c1 A2 n2 c2 A3 n3 c3:=⟨h.c0,h.c1,h.c2,h.c3⟩
end
section
variable {tb:List (List Int)} {p:NO} {R:Nat->Nat} {w:Yw} {vb vo:Nat} {a0:Int} {A1 :Yo} {n1 c1:Nat} {A2 :Yo} {n2 c2:Nat} {A3 :Yo} {n3 c3:Nat}
theorem zf6(V:PV w vb vo a0 A1 n1 c1 A2 n2 c2 A3 n3 c3)(h:M.WP tb p R)(hr:RS tN w w.heap.size (.slice A2 n2 c2) p.1){i:Nat}(hi:i<n2):
 Calls Tryz.prog 186 #[.pointer (some ⟨vb,vo,none⟩),.int .i64 i] w fun e w'=>e=.returned (.bool (zbl p.1 i))/\w=w':=by
 obtain⟨bb,o,k,a,b,A4,c4,fs,rfl,hb,X,e0,e1,e2,e3,hr3,hl3⟩:=zbg h hr hi;have RR:=zeg X.out;rw[RR];have hl:=hr.cap.1;have hlen:=h.len;have hi2:(i:Int)<(n2:Int):=by omega
 obtain⟨z0,z1,z2,z3⟩:=V;clear RR hr hr3 X hl hlen
 go_enter Tryz.func186,Tryz.ntmps186
 go_wp2;go_ret;exact⟨zac (by rw[Bool.eq_iff_iff];simp),rfl⟩
theorem zoe(V:PV w vb vo a0 A1 n1 c1 A2 n2 c2 A3 n3 c3)(h:M.WP tb p R)(hr:RS tN w w.heap.size (.slice A2 n2 c2) p.1){i:Nat}(hi:i<n2):
 Calls Tryz.prog 230 #[.pointer (some ⟨vb,vo,none⟩),.int .i64 i] w fun e w'=>e=.returned (.bool (zcw p.1 i))/\w=w':=by
 have CI:=Lib.hid (zf6 V h hr hi);obtain⟨bb,o,k,a,b,A4,c4,fs,rfl,hb,X,e0,e1,e2,e3,hr3,hl3⟩:=zbg h hr hi;have RI:=zeg X.out;have RR:=zgv X.out;rw[RI]at CI;rw[RR];have hl:=hr.cap.1;have hlen:=h.len;have hi2:(i:Int)<(n2:Int):=by omega
 obtain⟨z0,z1,z2,z3⟩:=V;clear RR RI hr hr3 X hl hlen;cases hk:decide (k=2)
 ·rw[hk]at CI;clear hk
  go_enter Tryz.func230,Tryz.ntmps230
  go_wp2_with fail;refine CI.out.mono ?_;rintro e w1 ⟨rfl,rfl⟩;go_wp2;go_ret;exact⟨rfl,rfl⟩
 rw[hk]at CI;clear hk
 go_enter Tryz.func230,Tryz.ntmps230
 go_wp2_with fail;refine CI.out.mono ?_;rintro e w1 ⟨rfl,rfl⟩;go_wp2;go_ret;exact⟨zac (by rw[Bool.eq_iff_iff];simp),rfl⟩
theorem zvy(V:PV w vb vo a0 A1 n1 c1 A2 n2 c2 A3 n3 c3)(h:M.WP tb p R)(hr:RS tN w w.heap.size (.slice A2 n2 c2) p.1){i:Nat}(hi:i<n2):
 Calls Tryz.prog 226 #[.pointer (some ⟨vb,vo,none⟩),.int .i64 i] w fun e w'=>e=.returned (.bool (zbj p.1 (zab p.1 i)))/\Below w.heap.size w w':=by
 obtain⟨bb,o,k,a,b,A4,c4,fs,hA,hb,X,e0,e1,e2,e3,hr3,hl3⟩:=zbg h hr hi;have hl:=hr.cap.1;have hlen:=h.len;have hi2:(i:Int)<(n2:Int):=by omega
 obtain⟨W,hW⟩:∃W,W=w.alloc (.cells #[.int .i64 3,.int .i64 4,.int .i64 5,.int .i64 9,.int .i64 10,.int .i64 11,.int .i64 13,.int .i64 15] 2):=⟨_,rfl⟩;have B0:Below w.heap.size w W:=by rw[hW];exact zaf _ _
 have hK:RI W W.heap.size (some ⟨w.heap.size,0,none⟩) 8 M.k8:=by
  rw[hW];refine⟨rfl,fun _=>⟨_,rfl,by simp,fun j u hu=>?_⟩⟩
  match j,hu with
  | 0,hu=>simpa [go_sem,M.k8,Addr.add]using hu
  | 1,hu=>simpa [go_sem,M.k8,Addr.add]using hu
  | 2,hu=>simpa [go_sem,M.k8,Addr.add]using hu
  | 3,hu=>simpa [go_sem,M.k8,Addr.add]using hu
  | 4,hu=>simpa [go_sem,M.k8,Addr.add]using hu
  | 5,hu=>simpa [go_sem,M.k8,Addr.add]using hu
  | 6,hu=>simpa [go_sem,M.k8,Addr.add]using hu
  | 7,hu=>simpa [go_sem,M.k8,Addr.add]using hu
  | j+8,hu=>simp[M.k8]at hu
 have HW:=Lib.hid hW;have HC:=Lib.hid (zd1 (some ⟨w.heap.size,0,none⟩) 8 8 M.k8 k W hK (by omega));have VW:=V.later B0;have hrW:=hr.later B0;have bb':=bb;obtain⟨z0,z1,z2,z3⟩:=V;rw[X.out];have E:=zbj p.1 (k,a,b,fs);clear hW hK;cases hm:zai M.k8 k
 ·have RR:zbj p.1 (k,a,b,fs)=false:=by rw[zbj];show (zai M.k8 k&&_)=false;rw[hm];rfl
  rw[RR];rw[hm]at HC;subst hA;clear RR hm hr hr3 X hl hlen hrW VW E
  go_enter Tryz.func226,Tryz.ntmps226
  go_wp2_with fail;rw[<-HW.out];refine HC.out.mono ?_;rintro e w1 ⟨rfl,rfl⟩;go_wp2;go_ret;exact⟨rfl,B0⟩
 have RR:zbj p.1 (k,a,b,fs)=fs.all (fun f=>zbl p.1 f.toNat):=by rw[zbj];show (zai M.k8 k&&_)=_;rw[hm];rfl
 rw[RR];rw[hm]at HC;have IN:=Lib.hid (fun j (hj:j<fs.length)=>h.inpt (by omega:i<p.1.length) X.out hj);have CI:=Lib.hid (fun(f:Nat) (hf:f<n2)=>zf6 VW h hrW hf);have g0:=(B0.cell (by show bb<_;exact hb)).trans e3;have hr3W:=hr3.later B0;have HL:=Lib.hid hl;subst hA;clear RR hm hr hr3 hl hlen E
 go_enter Tryz.func226,Tryz.ntmps226
 go_wp2_with fail;rw[<-HW.out];refine HC.out.mono ?_;rintro e w1 ⟨rfl,rfl⟩;go_wp2_with fail
 go_loopw [7] (fun j wr=>∃q:Nat,j=.int .i64 q/\q<=fs.length/\Hid (fs.all (fun f=>zbl p.1 f.toNat)=(fs.drop q).all (fun f=>zbl p.1 f.toNat))/\wr=W) (fun j _=>fs.length-(intOf j).toNat)
 case atStart=>exact⟨0,rfl,by omega,Lib.hid rfl,rfl⟩
 case round=>
  obtain⟨q,rfl,hq,H,rfl⟩:=hrel
  by_cases hlt:q<fs.length
  ·obtain⟨f,f1,f2,f3,f4⟩:=IN.out q hlt;obtain⟨bf,of_,rfl,hbf,hcf⟩:=zak hr3W (by omega);have v0:=hcf q _ f1;have CF:=Lib.hid (CI.out f (by rw[<-HL.out];exact f2))
   have hd:fs.drop q=(f:Int)::fs.drop (q+1):=by
    rw[List.drop_eq_getElem_cons hlt];rw[List.getElem?_eq_getElem hlt,Option.some.injEq]at f1;rw[f1]
   have H2:=H.out;rw[hd,List.all_cons,Int.toNat_natCast]at H2;have hql:(q:Int)<(fs.length:Int):=(by omega);clear H hd f1 f2 f3 f4 hcf;cases hc:zbl p.1 f
   ·rw[hc,Bool.false_and]at H2;rw[hc]at CF;have H2:=Lib.hid H2;clear hc;go_wp2_with fail;refine CF.out.mono ?_;rintro e w2 ⟨rfl,rfl⟩;go_wp2;go_ret;exact⟨zac (by rw[H2.out]),B0⟩
   rw[hc,Bool.true_and]at H2;rw[hc]at CF;have H2:=Lib.hid H2;clear hc;go_wp2_with fail;refine CF.out.mono ?_;rintro e w2 ⟨rfl,rfl⟩;go_wp2_with fail;go_roundw
   case rel=>exact⟨q+1,by go_num,by omega,H2,trivial⟩
   case measure=>simp[intOf];omega
  obtain rfl:q=fs.length:=by omega
  have H2:=H.out;rw[List.drop_eq_nil_of_le (Nat.le_refl _)]at H2;have H2:=Lib.hid H2;clear H;go_wp2;go_ret;exact⟨zac (by rw[H2.out];rfl),B0⟩
end
end
section
section
variable {tb:List (List Int)} {p:NO} {R:Nat->Nat} {w:Yw} {vb vo:Nat} {a0:Int} {A1 :Yo} {n1 c1:Nat} {A2 :Yo} {n2 c2:Nat} {A3 :Yo} {n3 c3:Nat}
theorem zvz(V:PV w vb vo a0 A1 n1 c1 A2 n2 c2 A3 n3 c3)(h:M.WP tb p R)(hr:RS tN w w.heap.size (.slice A2 n2 c2) p.1){i:Nat}(hi:i<n2):
 Calls Tryz.prog 227 #[.pointer (some ⟨vb,vo,none⟩),.int .i64 i] w fun e w'=>e=.returned (.bool (zbv p.1 (zab p.1 i)))/\Below w.heap.size w w':=by
 have hl:=hr.cap.1;have hlen:=h.len;obtain⟨bb,o,k,a,b,A4,c4,fs,hA,hb,X,e0,e1,e2,e3,hr3,hl3⟩:=zbg h hr hi;have hok:=(h.node (i:=i) (by omega)).2;have IN:=fun j (hj:j<fs.length)=>h.inpt (by omega:i<p.1.length) X.out hj
 rw[X.out]at hok ⊢;have hfl:=zc6 hok;have hi2:(i:Int)<(n2:Int):=by omega
 have hn2:n2<=24:=by omega
 have CZ:=Lib.hid (fun(f:Nat) (hf:f<n2)=>zoe V h hr hf);have HL:=Lib.hid hl;obtain⟨z0,z1,z2,z3⟩:=V;rcases(show (k=5\/k=11)\/k=4\/(k=6\/k=7\/k=8\/k=17)\/(k≠5/\k≠11/\k≠4/\k≠6/\k≠7/\k≠8/\k≠17)by omega)with hk|rfl|hk|hk
 ·have RR:=Lib.hid (zms (ns:=p.1) (a:=a) (b:=b) (fs:=fs) hk);subst hA;clear hfl hok hl hlen IN hr hr3 X;rcases hk with rfl|rfl
  all_goals
   go_enter Tryz.func227,Tryz.ntmps227
   go_wp2;go_ret;exact⟨zac (by rw[RR.out,Bool.eq_iff_iff];simp),Below.refl _ _⟩
 ·have RR:=Lib.hid (zmt (ns:=p.1) (a:=a) (b:=b) (fs:=fs));have hl2:fs.length=2:=hfl (by decide);obtain⟨bf,of_,rfl,hbf,hcf⟩:=zak hr3 (by omega);have m0:fs[0]?=some fs[0]:=List.getElem?_eq_getElem (by omega);have m1:fs[1]?=some fs[1]:=List.getElem?_eq_getElem (by omega);have v0:=hcf 0 _ m0;have v1:=hcf 1 _ m1;rw[M.i_,m0,M.i_,m1]at RR;subst hA;generalize fs[0]=x at *;generalize fs[1]=y at *;clear hfl hok hl hlen m0 m1 hcf hl3 hr3 X IN hr CZ;rw[Nat.add_zero]at v0;rw[hl2]at e3;clear hl2
  go_enter Tryz.func227,Tryz.ntmps227
  go_wp2_with fail;refine wp_region_still_lit (by kernel_rfl) (by kernel_rfl) ?_
  iterate 14 still_step
  refine wpStill_nil ?_;go_wp2;go_ret;exact⟨zac (by rw[RR.out,Bool.eq_iff_iff];simp),(Below.refl _ _).drew⟩
 ·have RR:=Lib.hid (zmu (ns:=p.1) (a:=a) (b:=b) (fs:=fs) hk);have hj:0<fs.length:=by rcases hk with rfl|rfl|rfl|rfl <;> (rw[hfl (by decide)];decide)
  obtain⟨f,g1,g2,g3,g4⟩:=IN 0 hj;obtain⟨bf,of_,rfl,hbf,hcf⟩:=zak hr3 (by omega);have v0:=hcf 0 _ g1;rw[Nat.add_zero]at v0;rw[g3]at RR;have CF:=Lib.hid (CZ.out f (by rw[<-HL.out];exact g2));rw[RR.out];subst hA;have hjl:(0:Int)<(fs.length:Int):=by omega
  clear hfl hok hl hlen IN hr hr3 X RR hcf g1 g3 g4 CZ;rcases hk with rfl|rfl|rfl|rfl
  all_goals
   go_enter Tryz.func227,Tryz.ntmps227
   go_wp2_with fail;refine CF.out.mono ?_;rintro e w1 ⟨rfl,rfl⟩;go_wp2;go_ret;exact⟨rfl,Below.refl _ _⟩
 have RR:=Lib.hid (zmv (ns:=p.1) (a:=a) (b:=b) (fs:=fs) hk);obtain⟨q1,q2,q3,q4,q5,q6,q7⟩:=hk;have g1:(k == 5)=false:=by simpa using q1
 have g2:(k == 11)=false:=by simpa using q2
 have g3:(k == 4)=false:=by simpa using q3
 have g4:(k == 6)=false:=by simpa using q4
 have g5:(k == 7)=false:=by simpa using q5
 have g6:(k == 8)=false:=by simpa using q6
 have g7:(k == 17)=false:=by simpa using q7
 subst hA;clear hfl hok hl hlen IN hr hr3 X CZ
 go_enter Tryz.func227,Tryz.ntmps227
 go_wp2;go_ret;exact⟨zac (by rw[RR.out]),Below.refl _ _⟩
theorem zv0{bb o:Nat}(V:PV w vb vo a0 A1 n1 c1 (some ⟨bb,o,none⟩) n2 c2 A3 n3 c3)(h:M.WP tb p R)(hr:RS tN w w.heap.size (.slice (some ⟨bb,o,none⟩) n2 c2) p.1){i:Nat}(hi:i<n2){a b:Int}{fs:List Int}(hX:Hid (zab p.1 i=(15,a,b,fs))):
 Calls Tryz.prog 231 #[.pointer (some ⟨vb,vo,none⟩),.pointer (some ⟨bb,o+i*4,none⟩)] w fun e w'=>e=.returned (.int .i64 (zbb p.1 (15,a,b,fs)))/\Below w.heap.size w w':=by
 have hl:=hr.cap.1;have hlen:=h.len;obtain⟨bb',o',k',a',b',A4,c4,fs',hA,hb,Z,e0,e1,e2,e3,hr3,hl3⟩:=zbg h hr hi;simp only[Option.some.injEq,Addr.mk.injEq,and_true]at hA;obtain⟨rfl,rfl⟩:=hA;have hZ:=Z.out;rw[hX.out,Prod.mk.injEq,Prod.mk.injEq,Prod.mk.injEq]at hZ;obtain⟨rfl,rfl,rfl,rfl⟩:=hZ;have hok:=(h.node (i:=i) (by omega)).2;rw[hX.out]at hok;have hl2:fs.length=3:=zc6 hok (by decide);obtain⟨f,f1,f2,f3,f4⟩:=h.inpt (by omega:i<p.1.length) hX.out (j:=0) (by omega);obtain⟨q,q1,q2,q3,q4⟩:=h.inpt (by omega:i<p.1.length) hX.out (j:=1) (by omega);obtain⟨r,r1,r2,r3,r4⟩:=h.inpt (by omega:i<p.1.length) hX.out (j:=2) (by omega);obtain⟨bf,of_,rfl,hbf,hcf⟩:=zak hr3 (by omega);have v0:=hcf 0 _ f1;have v1:=hcf 1 _ q1;have v2:=hcf 2 _ r1;rw[Nat.add_zero]at v0;have hfn:f<n2:=by omega
 have CF:=Lib.hid (zf6 V h hr hfn);obtain⟨bb',o',y0,y1,y2,A5,c5,y3,hA,hb',Z',u0,u1,u2,u3,hr5,hl5⟩:=zbg h hr hfn;simp only[Option.some.injEq,Addr.mk.injEq,and_true]at hA;obtain⟨rfl,rfl⟩:=hA;rw[zeg Z'.out]at CF;rw[zm1,f3,zeg Z'.out,Z'.out,q4,r4];rw[hl2]at e3;obtain⟨z0,z1,z2,z3⟩:=V;have hfi:(f:Int)<(n2:Int):=by omega
 have hf0:(0:Int)<=(f:Int):=by omega
 clear hok hX hr hr3 hcf f1 f3 f4 q1 q2 q3 q4 r1 r2 r3 r4 Z Z' hl3 hl5 hr5;cases hk:decide (y0=2)
 ·rw[hk]at CF;clear hk
  by_cases he:(q:Int)=r
  ·rw[if_neg (by decide),if_pos he];have HE:((q:Int) == (r:Int))=true:=(by simpa using he);clear he
   go_enter Tryz.func231,Tryz.ntmps231
   go_wp2_with fail;refine CF.out.mono ?_;rintro e w1 ⟨rfl,rfl⟩;go_wp2_with fail;refine wp_region_still_lit (by kernel_rfl) (by kernel_rfl) ?_
   iterate 13 still_step
   refine wpStill_nil ?_;have d3:w.drew.cell? ⟨bb,o+i*4+3,none⟩=_:=e3;have dv1:w.drew.cell? ⟨bf,of_+1,none⟩=_:=v1;go_wp2;go_ret;exact⟨rfl,(Below.refl _ _).drew⟩
  rw[if_neg (by decide),if_neg he];have HE:((q:Int) == (r:Int))=false:=by simpa using he
  clear he
  go_enter Tryz.func231,Tryz.ntmps231
  go_wp2_with fail;refine CF.out.mono ?_;rintro e w1 ⟨rfl,rfl⟩;go_wp2_with fail;refine wp_region_still_lit (by kernel_rfl) (by kernel_rfl) ?_
  iterate 13 still_step
  refine wpStill_nil ?_;go_wp2;go_ret;exact⟨rfl,(Below.refl _ _).drew⟩
 rw[hk]at CF;clear hk
 by_cases he:0<=y1
 ·rw[if_pos rfl,if_pos he]
  go_enter Tryz.func231,Tryz.ntmps231
  go_wp2_with fail;refine CF.out.mono ?_;rintro e w1 ⟨rfl,rfl⟩;go_wp2_with fail;refine wp_region_still_lit (by kernel_rfl) (by kernel_rfl) ?_
  iterate 14 still_step
  refine wpStill_nil ?_;have d3:w.drew.cell? ⟨bb,o+i*4+3,none⟩=_:=e3;have dv1:w.drew.cell? ⟨bf,of_+1,none⟩=_:=v1;go_wp2;go_ret;exact⟨rfl,(Below.refl _ _).drew⟩
 rw[if_pos rfl,if_neg he]
 go_enter Tryz.func231,Tryz.ntmps231
 go_wp2_with fail;refine CF.out.mono ?_;rintro e w1 ⟨rfl,rfl⟩;go_wp2_with fail;refine wp_region_still_lit (by kernel_rfl) (by kernel_rfl) ?_
 iterate 14 still_step
 refine wpStill_nil ?_;have d3:w.drew.cell? ⟨bb,o+i*4+3,none⟩=_:=e3;have dv1:w.drew.cell? ⟨bf,of_+2,none⟩=_:=v2;go_wp2;go_ret;exact⟨rfl,(Below.refl _ _).drew⟩
end
end
section
set_option synthInstance.maxSize 2000
set_option synthInstance.maxHeartbeats 400000
section
variable {tb:List (List Int)} {p:NO} {R:Nat->Nat} {w:Yw} {vb vo:Nat} {a0:Int} {A1 :Yo} {n1 c1:Nat} {A2 :Yo} {n2 c2:Nat} {A3 :Yo} {n3 c3:Nat}
theorem zof(V:PV w vb vo a0 A1 n1 c1 A2 n2 c2 A3 n3 c3)(h:M.WP tb p R)(hr:RS tN w w.heap.size (.slice A2 n2 c2) p.1){i:Nat}(hi:i<n2):
 Calls Tryz.prog 185 #[.pointer (some ⟨vb,vo,none⟩),.int .i64 i] w fun e w'=>e=.returned (.int .i64 (zbb p.1 (zab p.1 i)))/\Below w.heap.size w w':=by
 have hl:=hr.cap.1;have hlen:=h.len;obtain⟨bb,o,k,a,b,A4,c4,fs,hA,hb,X,e0,e1,e2,e3,hr3,hl3⟩:=zbg h hr hi;have hok:=(h.node (i:=i) (by omega)).2;have IN:=fun j (hj:j<fs.length)=>h.inpt (by omega:i<p.1.length) X.out hj
 rw[X.out]at hok ⊢;have hfl:=zc6 hok;have hi2:(i:Int)<(n2:Int):=by omega
 have hn2:n2<=24:=by omega
 have CZ:=Lib.hid (fun(f:Nat) (hf:f<n2)=>zoe V h hr hf);have HL:=Lib.hid hl;have HV:=Lib.hid V;obtain⟨z0,z1,z2,z3⟩:=V;rcases(show (k=5\/k=10)\/k=3\/k=4\/k=16\/k=15\/(k≠5/\k≠10/\k≠3/\k≠4/\k≠16/\k≠15)by omega)with hk|rfl|rfl|rfl|rfl|hk
 ·have hl2:fs.length=1:=by rcases hk with rfl|rfl <;> exact hfl (by decide)
  obtain⟨f,f1,f2,f3,f4⟩:=IN 0 (by omega);obtain⟨bf,of_,rfl,hbf,hcf⟩:=zak hr3 (by omega);have v0:=hcf 0 _ f1;rw[Nat.add_zero]at v0;rw[hl2]at e3;subst hA;clear hfl hok hl hlen hcf hr3 X hr IN CZ f1 f2 f3 HV;rcases hk with rfl|rfl
  ·rw[zmw,f4];clear f4 hl2 hl3
   by_cases ha:a=1
   ·rw[if_pos ha];subst ha
    go_enter Tryz.func185,Tryz.ntmps185
    go_wp2;go_ret;exact⟨rfl,Below.refl _ _⟩
   rw[if_neg ha];have g:(a == 1)=false:=(by simpa using ha);clear ha
   go_enter Tryz.func185,Tryz.ntmps185
   go_wp2;go_ret;exact⟨rfl,Below.refl _ _⟩
  rw[zmx,f4];clear f4 hl2 hl3
  by_cases ha:a=0
  ·rw[if_pos ha];subst ha
   go_enter Tryz.func185,Tryz.ntmps185
   go_wp2;go_ret;exact⟨rfl,Below.refl _ _⟩
  rw[if_neg ha];have g:(a == 0)=false:=by simpa using ha
  clear ha
  go_enter Tryz.func185,Tryz.ntmps185
  go_wp2;go_ret;exact⟨rfl,Below.refl _ _⟩
 ·have hl2:fs.length=2:=hfl (by decide);obtain⟨f,f1,f2,f3,f4⟩:=IN 0 (by omega);obtain⟨q,q1,q2,q3,q4⟩:=IN 1 (by omega);obtain⟨bf,of_,rfl,hbf,hcf⟩:=zak hr3 (by omega);have v0:=hcf 0 _ f1;have v1:=hcf 1 _ q1;rw[Nat.add_zero]at v0;have CF:=Lib.hid (CZ.out f (by rw[<-HL.out];exact f2));have CQ:=Lib.hid (CZ.out q (by rw[<-HL.out];exact q2));rw[zmy,f3,q3,f4,q4];rw[hl2]at e3;subst hA;clear hfl hok hl hlen hcf hr3 X hr IN CZ f1 f2 f3 q1 q2 q3 HV hl2 hl3 f4 q4;cases hz:zcw p.1 f
  ·rw[hz]at CF;rw[if_neg (by decide)];clear hz;cases hy:zcw p.1 q
   ·rw[hy]at CQ;rw[if_neg (by decide)];clear hy
    go_enter Tryz.func185,Tryz.ntmps185
    go_wp2_with fail;refine CF.out.mono ?_;rintro e w1 ⟨rfl,rfl⟩;go_wp2_with fail;refine CQ.out.mono ?_;rintro e w1 ⟨rfl,rfl⟩;go_wp2;go_ret;exact⟨rfl,Below.refl _ _⟩
   rw[hy]at CQ;rw[if_pos rfl];clear hy
   go_enter Tryz.func185,Tryz.ntmps185
   go_wp2_with fail;refine CF.out.mono ?_;rintro e w1 ⟨rfl,rfl⟩;go_wp2_with fail;refine CQ.out.mono ?_;rintro e w1 ⟨rfl,rfl⟩;go_wp2;go_ret;exact⟨rfl,Below.refl _ _⟩
  rw[hz]at CF;rw[if_pos rfl];clear hz
  go_enter Tryz.func185,Tryz.ntmps185
  go_wp2_with fail;refine CF.out.mono ?_;rintro e w1 ⟨rfl,rfl⟩;go_wp2;go_ret;exact⟨rfl,Below.refl _ _⟩
 ·have hl2:fs.length=2:=hfl (by decide);obtain⟨f,f1,f2,f3,f4⟩:=IN 0 (by omega);obtain⟨q,q1,q2,q3,q4⟩:=IN 1 (by omega);obtain⟨bf,of_,rfl,hbf,hcf⟩:=zak hr3 (by omega);have v0:=hcf 0 _ f1;have v1:=hcf 1 _ q1;rw[Nat.add_zero]at v0;have CQ:=Lib.hid (CZ.out q (by rw[<-HL.out];exact q2));rw[zmz,q3,f4];rw[hl2]at e3;subst hA;clear hfl hok hl hlen hcf hr3 X hr IN CZ f1 f2 f3 q1 q2 q3 HV hl2 hl3 f4 q4;cases hy:zcw p.1 q
  ·rw[hy]at CQ;rw[if_neg (by decide)];clear hy
   go_enter Tryz.func185,Tryz.ntmps185
   go_wp2_with fail;refine CQ.out.mono ?_;rintro e w1 ⟨rfl,rfl⟩;go_wp2;go_ret;exact⟨rfl,Below.refl _ _⟩
  rw[hy]at CQ;rw[if_pos rfl];clear hy
  go_enter Tryz.func185,Tryz.ntmps185
  go_wp2_with fail;refine CQ.out.mono ?_;rintro e w1 ⟨rfl,rfl⟩;go_wp2;go_ret;exact⟨rfl,Below.refl _ _⟩
 ·have hl2:fs.length=2:=hfl (by decide);obtain⟨f,f1,f2,f3,f4⟩:=IN 0 (by omega);obtain⟨q,q1,q2,q3,q4⟩:=IN 1 (by omega);obtain⟨bf,of_,rfl,hbf,hcf⟩:=zak hr3 (by omega);have v0:=hcf 0 _ f1;have v1:=hcf 1 _ q1;rw[Nat.add_zero]at v0;have hqn:q<n2:=by rw[<-HL.out];exact q2
  obtain⟨bb',o',y0,y1,y2,A5,c5,y3,hA',hb',Z',u0,u1,u2,u3,hr5,hl5⟩:=zbg h hr hqn;rw[hA]at hA';simp only[Option.some.injEq,Addr.mk.injEq,and_true]at hA';obtain⟨rfl,rfl⟩:=hA';rw[zm0,q3,zeg Z'.out,Z'.out,f4];rw[hl2]at e3;have hqi:(q:Int)<(n2:Int):=by omega
  have hq0:(0:Int)<=(q:Int):=by omega
  have cI:∀d os,Calls Tryz.prog 186 #[.pointer (some ⟨vb,vo,none⟩),.int .i64 q] (grow (redrawn w d) os) fun e w''=>e=.returned (.bool (decide (y0=2)))/\∃p:Regrown,w''=grow (redrawn w p.d) p.os:=fun d os=>by
   have:=zf6 (HV.out.later (below_regrown w d os)) h (hr.later (below_regrown w d os)) hqn;rw[zeg Z'.out]at this;exact Calls.regrown_of (this.mono (fun e w' ⟨h1,h2⟩=>⟨h1,by rw[h2];exact Below.refl _ _⟩))
  subst hA;have gz2:=cell_regrown z2;have ge3:=cell_regrown e3;have gv1:=cell_regrown v1;have gu1:=cell_regrown u1;clear hfl hok hl hlen hcf hr3 X hr IN CZ f1 f2 f3 q1 q2 q3 HV hl2 hl3 f4 q4 Z' hr5 hl5;cases hy:decide (y0=2)
  ·rw[hy]at cI;rw[Bool.false_and,if_neg (by decide)];clear hy
   go_enter Tryz.func185,Tryz.ntmps185
   go_wp2_with fail
   (refine wp_region_quiet_below (by kernel_rfl) (by kernel_rfl) ?_;(repeat (go_big_quiet_step (exact cI _ _)));refine wpQuiet_nil ?_;intro _ hw';obtain⟨⟨dq,osq⟩,hw''⟩:=hw';subst hw'')
   go_wp2;go_ret;exact⟨rfl,below_regrown w dq osq⟩
  rw[hy]at cI;rw[Bool.true_and];clear hy
  by_cases hp:0<y1
  ·rw[decide_eq_true hp,if_pos rfl];have hg:decide (y1>0)=true:=decide_eq_true hp
   go_enter Tryz.func185,Tryz.ntmps185
   go_wp2_with fail
   (refine wp_region_quiet_below (by kernel_rfl) (by kernel_rfl) ?_;(repeat (go_big_quiet_step (exact cI _ _)));refine wpQuiet_nil ?_;intro _ hw';obtain⟨⟨dq,osq⟩,hw''⟩:=hw';subst hw'')
   have de3:=ge3 dq osq;have gv0:=cell_regrown v0 dq osq;go_wp2;go_ret;exact⟨rfl,below_regrown w dq osq⟩
  rw[decide_eq_false hp,if_neg (by decide)];have hg:decide (y1>0)=false:=decide_eq_false hp
  go_enter Tryz.func185,Tryz.ntmps185
  go_wp2_with fail
  (refine wp_region_quiet_below (by kernel_rfl) (by kernel_rfl) ?_;(repeat (go_big_quiet_step (exact cI _ _)));refine wpQuiet_nil ?_;intro _ hw';obtain⟨⟨dq,osq⟩,hw''⟩:=hw';subst hw'')
  go_wp2;go_ret;exact⟨rfl,below_regrown w dq osq⟩
 ·subst hA;have CS:=Lib.hid (zv0 HV.out h hr hi X);clear hfl hok hl hlen hr3 hr IN CZ HV X
  go_enter Tryz.func185,Tryz.ntmps185
  go_wp2_with fail;refine CS.out.mono ?_;rintro e w1 ⟨rfl,b1⟩;go_wp2;go_ret;exact⟨rfl,b1⟩
 have RR:=Lib.hid (zm2 (ns:=p.1) (a:=a) (b:=b) (fs:=fs) hk);obtain⟨q1,q2,q3,q4,q5,q6⟩:=hk;have g1:(k == 5)=false:=by simpa using q1
 have g2:(k == 10)=false:=by simpa using q2
 have g3:(k == 3)=false:=by simpa using q3
 have g4:(k == 4)=false:=by simpa using q4
 have g5:(k == 16)=false:=by simpa using q5
 have g6:(k == 15)=false:=by simpa using q6
 subst hA;clear hfl hok hl hlen hr3 hr IN CZ HV X q1 q2 q3 q4 q5 q6
 go_enter Tryz.func185,Tryz.ntmps185
 go_wp2;go_ret;exact⟨by rw[RR.out];rfl,Below.refl _ _⟩
end
end
end Go.Proofs.YtifeldeikhmckaaGreat
