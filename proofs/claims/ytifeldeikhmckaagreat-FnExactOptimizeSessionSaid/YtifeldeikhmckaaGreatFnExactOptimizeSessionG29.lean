import Derived.Test.YtifeldeikhmckaaGreatFnExactOptimizeSessionG28
import Derived.Test.YtifeldeikhmckaaGreatFnExactOptimizeSessionG14
import Derived.Test.YtifeldeikhmckaaGreatFnExactOptimizeSessionG24
import Derived.Test.YtifeldeikhmckaaGreatFnExactOptimizeSessionG21
import Derived.Lib.QuietBelow
import Derived.BigQuiet
set_option linter.unusedVariables false
set_option linter.unusedSimpArgs false
set_option maxRecDepth 100000
set_option maxHeartbeats 4000000
namespace Go.Proofs.YtifeldeikhmckaaGreat
open Go.RowKit Go.Sort
theorem zt6(A:Yo)(n c:Nat)(xs:List Int)(m:Int)(w:Yw)(hx:RI w w.heap.size A n xs)(hn:n<=1000000000000):
 Calls Tryz.prog 112 #[.slice A n c,.int .i64 m] w fun e w'=>e=.returned (.bool (zai xs m))/\w=w':=by
 go_enter Tryz.func112,Tryz.ntmps112
 go_wp2
 go_loop [9] (fun i=>∃k:Nat,i=.int .i64 k/\k<=n/\Hid (zai xs m=zai (xs.drop k) m)) (fun i=>n-(intOf i).toNat)
 case atStart=>exact⟨0,rfl,by omega,Lib.hid (by simp)⟩
 case round=>
  obtain⟨k,rfl,hk,H⟩:=hrel;have hl:=Lib.hid hx.len
  by_cases hlt:k<n
  ·obtain⟨ad,x,rfl,hab,X,hc⟩:=hx.at hlt;have hd:=Lib.hid (M.drop_at X.out)
   by_cases hs:x=m
   ·have R:=Lib.hid (show zai xs m=true by rw[H.out,hd.out,zhf];simp[hs]);have g:(m == x)=true:=(by simpa using hs.symm);subst hs;go_wp2;go_ret;exact⟨zac (by rw[R.out]),rfl⟩
   have R:=Lib.hid (show zai xs m=zai (xs.drop (k+1)) m by rw[H.out,hd.out,zhf,decide_eq_false hs,Bool.false_or]);have g:(m == x)=false:=(by simpa using fun h=>hs h.symm);have hs':¬m=x:=fun h=>hs h.symm
   clear hs;go_wp2;go_round
   case rel=>exact⟨k+1,by go_num,by omega,R⟩
   case measure=>simp[intOf];omega
  have R:=Lib.hid (show zai xs m=false by rw[H.out,List.drop_eq_nil_of_le (by rw[hl.out];omega)];rfl);go_wp2;go_ret;exact⟨zac (by rw[R.out]),rfl⟩
section
open Go
section
variable {P:Program} {ops:Array Oper} {md:Region.Mode} {C:Yw->Prop}
end
end
section
theorem zfy{x:Node}{tb:Int}(h:zaj x tb=true):x.2.2.2.length<=3:=by
 obtain⟨a0,a1,a2,xs⟩:=x;obtain⟨hk,-,-⟩:=zdj h;rw[zaj]at h;simp only[Bool.and_eq_true]at h;have hL:=h.2.1.2;simp only at hk;rcases zgk hk with rfl|rfl|rfl|rfl|rfl|rfl|rfl|rfl|rfl|rfl|rfl|rfl|rfl|rfl|rfl|rfl|rfl
 all_goals
  simp[M.kd,zfa]at hL ⊢
  first|omega|(rw[hL];decide)
theorem zht:∀(ns:List Node),(∀x∈ns,x.2.2.2.length<=3)->hN.szL ns<=3*ns.length
 | [],_=>by simp[Hs.szL]
 | x::ns,h=>by
  have h1:=h x (List.mem_cons_self ..);have h2:=zht ns (fun y hy=>h y (List.mem_cons_of_mem _ hy));obtain⟨a0,a1,a2,xs⟩:=x;rw[Hs.szL,ze9,zbi,List.length_cons];simp only at h1;omega
section
variable {tb:List (List Int)} {p:NO} {R:Nat->Nat} {w:Yw} {B:Nat}
theorem M.WP.szN(h:M.WP tb p R):hNS.sz p.1<=100000000:=by
 have h1:=zht p.1 (fun x hx=>by
  obtain⟨i,hi⟩:=List.getElem?_of_mem hx;exact zfy (h.ok i x hi))
 have h2:=h.len;show p.1.length+hN.szL p.1<=_
 omega
theorem zbg(h:M.WP tb p R){A:Yo}{n c:Nat}(hr:RS tN w B (.slice A n c) p.1){i:Nat}(hi:i<n):
 ∃(bb o:Nat) (k a b:Int) (A1:Yo) (c1:Nat) (fs:List Int),A=some ⟨bb,o,none⟩/\bb<B/\Hid (zab p.1 i=(k,a,b,fs))/\w.cell? ⟨bb,o+i*4,none⟩=some (.int .i64 k)/\w.cell? ⟨bb,o+i*4+1,none⟩=some (.int .i64 a)/\w.cell? ⟨bb,o+i*4+2,none⟩=some (.int .i64 b)/\w.cell? ⟨bb,o+i*4+3,none⟩=some (.slice A1 fs.length c1)/\RI w B A1 fs.length fs/\fs.length<=3:=by
 obtain⟨bb,o,k,a,b,A1,c1,fs,rfl,hb,X,e0,e1,e2,e3,hr3,-⟩:=zfd hr h.szN hi;exact⟨bb,o,k,a,b,A1,c1,fs,rfl,hb,Lib.hid (zl0 X.out),e0,e1,e2,e3,hr3,zfy (h.ok _ _ X.out)⟩
theorem M.WP.inpt(h:M.WP tb p R){i:Nat}(hi:i<p.1.length){k a b:Int}{fs:List Int}(hX:zab p.1 i=(k,a,b,fs)){j:Nat}(hj:j<fs.length):∃f:Nat,fs[j]?=some (f:Int)/\f<p.1.length/\M.fk (k,a,b,fs) j=f/\M.i_ fs j=f:=by
 have hm:fs[j]?=some fs[j]:=List.getElem?_eq_getElem hj;have h1:=h.fr i _ (zcq hi) fs[j] (by rw[hX];exact List.getElem_mem hj);have h2:M.i_ fs j=fs[j]:=by rw[M.i_,hm];rfl
 refine⟨fs[j].toNat,by rw[hm];congr 1;omega,by omega,?_,by omega⟩;show (M.i_ fs j).toNat=_
 rw[h2]
end
theorem zgu(x0 x1 x2 x3:Value)(w:Yw):(Instr.field 169 (.agg #[x0,x1,x2,x3]) 1).run Tryz.prog w=.ok x1 w:=by simp[Instr.field,go_sem,asAgg]
theorem zmo(x0 x1 x2 x3:Value)(w:Yw):(Instr.field 169 (.agg #[x0,x1,x2,x3]) 0).run Tryz.prog w=.ok x0 w:=by simp[Instr.field,go_sem,asAgg]
theorem zmp(k a b:Int)(A:Yo)(n c:Nat)(w:Yw):
 Calls Tryz.prog 237 #[.agg #[.int .i64 k,.int .i64 a,.int .i64 b,.slice A n c]] w fun e w'=>e=.returned (.bool (decide (k=2)))/\Below w.heap.size w w':=by
 go_enter Tryz.func237,Tryz.ntmps237
 go_wp2;go_ret;exact⟨zac (by rw[Bool.eq_iff_iff];simp),(Below.refl _ _).alloc (Nat.le_refl _) _⟩
theorem zmq(k a b:Int)(A:Yo)(n c:Nat)(v:Int)(w:Yw):
 Calls Tryz.prog 240 #[.agg #[.int .i64 k,.int .i64 a,.int .i64 b,.slice A n c],.int .i64 v] w fun e w'=>e=.returned (.bool (decide (k=2)&&decide (a=v)))/\Below w.heap.size w w':=by
 obtain⟨W,hW,B0,sW,p0,p1,p2,p3,pf⟩:=zdl w (.int .i64 k) (.int .i64 a) (.int .i64 b) (.slice A n c) 169;have HW:=Lib.hid hW;clear hW;have C:=Lib.hid (zmp k a b A n c W);cases hk:decide (k=2)
 ·rw[hk]at C;clear hk
  go_enter Tryz.func240,Tryz.ntmps240
  go_wp2_with fail;rw[<-HW.out];refine C.out.mono ?_;rintro e w1 ⟨rfl,bel⟩;go_wp2;go_ret;exact⟨rfl,zaa B0 bel⟩
 rw[hk]at C;clear hk
 go_enter Tryz.func240,Tryz.ntmps240
 go_wp2_with fail;rw[<-HW.out];refine C.out.mono ?_;rintro e w1 ⟨rfl,bel⟩;have q1:w1.cell? ⟨w.heap.size,1,none⟩=some (.int .i64 a):=(bel.cell (by show w.heap.size<_;omega)).trans p1;have ls:=bel.size;go_wp2;go_ret;exact⟨zac (by rw[Bool.eq_iff_iff];simp),zaa B0 bel⟩
theorem zmr(a:Int)(w:Yw):
 Calls Tryz.prog 202 #[.int .i64 a] w fun e w'=>∃(A':Yo) (c':Nat),e=.returned (.agg #[.int .i64 2,.int .i64 a,.int .i64 0,.slice A' 0 c'])/\tS.R w' w'.heap.size [.slice A' 0 c'] []/\Below w.heap.size w w':=by
 obtain⟨W,hW⟩:∃W,W=(w.alloc (.cells #[.int .i64 2,.int .i64 a,.int .i64 0,.slice (some ⟨w.heap.size+1,0,none⟩) 0 0] 169)).alloc (.cells #[] 2):=⟨_,rfl⟩;have B0:Below w.heap.size w W:=by rw[hW];exact((Below.refl _ _).alloc (Nat.le_refl _) _).alloc (by simp) _
 have d0:W.cell? ⟨w.heap.size,0,none⟩=some (.int .i64 2):=by rw[hW];simp[go_sem]
 have d1:W.cell? ⟨w.heap.size,1,none⟩=some (.int .i64 a):=by rw[hW];simp[go_sem]
 have d2:W.cell? ⟨w.heap.size,2,none⟩=some (.int .i64 0):=by rw[hW];simp[go_sem]
 have d3:W.cell? ⟨w.heap.size,3,none⟩=some (.slice (some ⟨w.heap.size+1,0,none⟩) 0 0):=by rw[hW];simp[go_sem]
 have f0:W.frozen? ⟨w.heap.size,0,none⟩=false:=by rw[hW];simp[go_sem]
 have f1:W.frozen? ⟨w.heap.size,1,none⟩=false:=by rw[hW];simp[go_sem]
 have f2:W.frozen? ⟨w.heap.size,2,none⟩=false:=by rw[hW];simp[go_sem]
 have f3:W.frozen? ⟨w.heap.size,3,none⟩=false:=by rw[hW];simp[go_sem]
 have HW:=Lib.hid hW;clear hW
 go_enter Tryz.func202,Tryz.ntmps202
 go_wp2_with fail;rw[<-HW.out];refine bodyPost_ret (v:=.agg #[.int .i64 2,.int .i64 a,.int .i64 0,.slice (some ⟨w.heap.size+1,0,none⟩) 0 0]) (by simp[results,Tryz.results202,go_sem,d0,d1,d2,d3,f0,f1,f2,f3]) rfl ?_;exact⟨_,_,rfl,tS_R.2 (RS.of_ri (RI.nil _ _ _) (Nat.le_refl _) (by simp[maxLen])),B0⟩
theorem zt7(a0:Int)(A1:Yo)(n1 c1:Nat)(bb o n2 c2:Nat)(A3:Yo)(n3 c3:Nat)(i j f bf of_ m c4:Nat)(x0 x1 x2:Int)(A5:Yo)(m5 c5:Nat)(w:Yw)
 (e3:w.cell? ⟨bb,o+i*4+3,none⟩=some (.slice (some ⟨bf,of_,none⟩) m c4)) (v0:w.cell? ⟨bf,of_+j,none⟩=some (.int .i64 f)) (u0:w.cell? ⟨bb,o+f*4,none⟩=some (.int .i64 x0)) (u1:w.cell? ⟨bb,o+f*4+1,none⟩=some (.int .i64 x1)) (u2:w.cell? ⟨bb,o+f*4+2,none⟩=some (.int .i64 x2)) (u3:w.cell? ⟨bb,o+f*4+3,none⟩=some (.slice A5 m5 c5)) (hi:i<n2) (hj:j<m) (hf:f<n2) (hn:n2<=1000000000) :
 Calls Tryz.prog 238 #[.agg #[.int .i64 a0,.slice A1 n1 c1,.slice (some ⟨bb,o,none⟩) n2 c2,.slice A3 n3 c3],.int .i64 i,.int .i64 j] w fun e w'=>e=.returned (.agg #[.int .i64 x0,.int .i64 x1,.int .i64 x2,.slice A5 m5 c5])/\Below w.heap.size w w':=by
 have lb:=World.block_lt_of_cell? w _ e3;have lf:=World.block_lt_of_cell? w _ v0;obtain⟨W,hW⟩:∃W,W=(w.alloc (.cells #[.int .i64 a0,.slice A1 n1 c1,.slice (some ⟨bb,o,none⟩) n2 c2,.slice A3 n3 c3] 67)).alloc (.cells #[.int .i64 0,.int .i64 0,.int .i64 0,.slice none 0 0] 169):=⟨_,rfl⟩;have B0:Below w.heap.size w W:=by rw[hW];exact((Below.refl _ _).alloc (Nat.le_refl _) _).alloc (by simp) _
 have lW:w.heap.size+1<W.heap.size:=by rw[hW];simp
 have p2:W.cell? ⟨w.heap.size,2,none⟩=some (.slice (some ⟨bb,o,none⟩) n2 c2):=by rw[hW];simp[go_sem]
 have r0:W.cell? ⟨w.heap.size+1,0,none⟩=some (.int .i64 0):=by rw[hW];simp[go_sem]
 have r1:W.cell? ⟨w.heap.size+1,1,none⟩=some (.int .i64 0):=by rw[hW];simp[go_sem]
 have r2:W.cell? ⟨w.heap.size+1,2,none⟩=some (.int .i64 0):=by rw[hW];simp[go_sem]
 have r3:W.cell? ⟨w.heap.size+1,3,none⟩=some (.slice none 0 0):=by rw[hW];simp[go_sem]
 have rf0:W.frozen? ⟨w.heap.size+1,0,none⟩=false:=by rw[hW];simp[go_sem]
 have rf1:W.frozen? ⟨w.heap.size+1,1,none⟩=false:=by rw[hW];simp[go_sem]
 have rf2:W.frozen? ⟨w.heap.size+1,2,none⟩=false:=by rw[hW];simp[go_sem]
 have rf3:W.frozen? ⟨w.heap.size+1,3,none⟩=false:=by rw[hW];simp[go_sem]
 replace e3:=(B0.cell (by exact lb)).trans e3;replace v0:=(B0.cell (by exact lf)).trans v0;replace u0:=(B0.cell (by exact lb)).trans u0;replace u1:=(B0.cell (by exact lb)).trans u1;replace u2:=(B0.cell (by exact lb)).trans u2;replace u3:=(B0.cell (by exact lb)).trans u3;obtain⟨U_,hU_,d0,d1,d2,d3,df,dch,dsz⟩:=box4 r0 r1 r2 r3 rf0 rf1 rf2 rf3 (.int .i64 x0) (.int .i64 x1) (.int .i64 x2) (.slice A5 m5 c5);have HW:=Lib.hid hW;have HU:=Lib.hid hU_;have f0:=df 0 (by omega);have f1:=df 1 (by omega);have f2:=df 2 (by omega);have f3:=df 3 (by omega);have hi2:(i:Int)<(n2:Int):=by omega
 have hj2:(j:Int)<(m:Int):=by omega
 have hf2:(f:Int)<(n2:Int):=by omega
 have BU:Below w.heap.size w U_:=B0.trans (dch.toBelow (fun b (hb:b=_)=>by omega) (by omega));have d0:U_.drew.cell? ⟨w.heap.size+1,0,none⟩=some (.int .i64 x0):=d0;have d1:U_.drew.cell? ⟨w.heap.size+1,1,none⟩=some (.int .i64 x1):=d1;have d2:U_.drew.cell? ⟨w.heap.size+1,2,none⟩=some (.int .i64 x2):=d2;have d3:U_.drew.cell? ⟨w.heap.size+1,3,none⟩=some (.slice A5 m5 c5):=d3;have f0:U_.drew.frozen? ⟨w.heap.size+1,0,none⟩=false:=f0;have f1:U_.drew.frozen? ⟨w.heap.size+1,1,none⟩=false:=f1;have f2:U_.drew.frozen? ⟨w.heap.size+1,2,none⟩=false:=f2;have f3:U_.drew.frozen? ⟨w.heap.size+1,3,none⟩=false:=f3;clear hW hU_ df B0 dch
 go_enter Tryz.func238,Tryz.ntmps238
 go_wp2_with fail;rw[<-HW.out];refine wp_region_still_tail 13 (by kernel_rfl) (by kernel_rfl) ?_;simp only[List.take_succ_cons,List.take_zero,List.drop_succ_cons,List.drop_zero]
 iterate 13 still_step
 refine wpStill_nil ?_;change wpList _ _ _ _ _ W.drew;go_wp2_with fail;rw[<-HU.out];refine bodyPost_ret (v:=.agg #[.int .i64 x0,.int .i64 x1,.int .i64 x2,.slice A5 m5 c5]) (by simp[results,Tryz.results238,go_sem,d0,d1,d2,d3,f0,f1,f2,f3]) rfl ?_;exact⟨rfl,zae BU 1⟩
end
section
section
variable {tb:List (List Int)} {p:NO} {R:Nat->Nat} {w:Yw}
theorem zef(h:M.WP tb p R){A2:Yo}{n2 c2:Nat}(hr:RS tN w w.heap.size (.slice A2 n2 c2) p.1){i j f:Nat}(hi:i<n2){k a b:Int}{fs:List Int}(hX:Hid (zab p.1 i=(k,a,b,fs)))(hj:j<fs.length)(hf:Hid (M.fk (k,a,b,fs) j=f)){x0 x1 x2:Int}{x3:List Int}(hY:Hid (zab p.1 f=(x0,x1,x2,x3)))(a0:Int)(A1:Yo)(n1 c1:Nat)(A3:Yo)(n3 c3:Nat):
 ∃(A5:Yo) (c5:Nat),RI w w.heap.size A5 x3.length x3/\x3.length<=3/\∀w',Below w.heap.size w w'->Calls Tryz.prog 238 #[.agg #[.int .i64 a0,.slice A1 n1 c1,.slice A2 n2 c2,.slice A3 n3 c3],.int .i64 i,.int .i64 j] w' fun e w''=>e=.returned (.agg #[.int .i64 x0,.int .i64 x1,.int .i64 x2,.slice A5 x3.length c5])/\Below w'.heap.size w' w'':=by
 have hl:=hr.cap.1;have hlen:=h.len;obtain⟨f',g1,g2,g3,g4⟩:=h.inpt (by rw[hl];exact hi) hX.out hj;obtain rfl:f'=f:=by rw[<-g3];exact hf.out
 have hfn:f'<n2:=by rw[<-hl];exact g2
 obtain⟨bb,o,k',a',b',A4,c4,fs',rfl,hb,Z,e0,e1,e2,e3,hr3,hl3⟩:=zbg h hr hi;have hZ:=Z.out;rw[hX.out,Prod.mk.injEq,Prod.mk.injEq,Prod.mk.injEq]at hZ;obtain⟨rfl,rfl,rfl,rfl⟩:=hZ;obtain⟨bb',o',y0,y1,y2,A5,c5,y3,hA,hb',Z',u0,u1,u2,u3,hr5,hl5⟩:=zbg h hr hfn;simp only[Option.some.injEq,Addr.mk.injEq,and_true]at hA;obtain⟨rfl,rfl⟩:=hA;have hZ':=Z'.out;rw[hY.out,Prod.mk.injEq,Prod.mk.injEq,Prod.mk.injEq]at hZ';obtain⟨rfl,rfl,rfl,rfl⟩:=hZ';obtain⟨bf,of_,rfl,hbf,hcf⟩:=zak hr3 (by omega);have v0:=hcf j _ g1;exact⟨A5,c5,hr5,hl5,fun w' hw=>zt7 a0 A1 n1 c1 bb o n2 c2 A3 n3 c3 i j f' bf of_ fs.length c4 x0 x1 x2 A5 x3.length c5 w' ((hw.cell (by exact hb)).trans e3) ((hw.cell (by exact hbf)).trans v0) ((hw.cell (by exact hb)).trans u0) ((hw.cell (by exact hb)).trans u1) ((hw.cell (by exact hb)).trans u2) ((hw.cell (by exact hb)).trans u3) hi hj hfn (by omega)⟩
end
theorem zms{ns:List Node}{k a b:Int}{fs:List Int}(h:k=5\/k=11):zbv ns (k,a,b,fs)=decide (a=0):=by rw[zbv,if_pos h]
theorem zmt{ns:List Node}{a b:Int}{fs:List Int}:zbv ns (4,a,b,fs)=decide (M.i_ fs 0=M.i_ fs 1):=by rw[zbv,if_neg (by show ¬((4:Int)=5\/(4:Int)=11);decide),if_pos rfl]
theorem zmu{ns:List Node}{k a b:Int}{fs:List Int}(h:k=6\/k=7\/k=8\/k=17):zbv ns (k,a,b,fs)=zcw ns (M.fk (k,a,b,fs) 0):=by
 rw[zbv,if_neg (by show ¬(k=5\/k=11);omega),if_neg (by show ¬(k=4);omega),if_pos h]
theorem zmv{ns:List Node}{k a b:Int}{fs:List Int}(h:k≠5/\k≠11/\k≠4/\k≠6/\k≠7/\k≠8/\k≠17):zbv ns (k,a,b,fs)=false:=by
 rw[zbv,if_neg (by show ¬(k=5\/k=11);omega),if_neg (by show ¬(k=4);omega),if_neg (by show ¬(k=6\/k=7\/k=8\/k=17);omega)]
theorem zeg{ns:List Node}{f:Nat}{x0 x1 x2:Int}{x3:List Int}(h:zab ns f=(x0,x1,x2,x3)):zbl ns f=decide (x0=2):=by rw[zbl,h]
theorem zgv{ns:List Node}{f:Nat}{x0 x1 x2:Int}{x3:List Int}(h:zab ns f=(x0,x1,x2,x3)):zcw ns f=(decide (x0=2)&&decide (x1=0)):=by rw[zcw,zbl,h]
section
variable {tb:List (List Int)} {p:NO} {R:Nat->Nat} {w:Yw}
theorem zt8(h:M.WP tb p R)(a0:Int)(A1:Yo)(n1 c1:Nat)(A2:Yo)(n2 c2:Nat)(A3:Yo)(n3 c3:Nat)(i:Nat)(hr:RS tN w w.heap.size (.slice A2 n2 c2) p.1)(hi:i<n2):
 Calls Tryz.prog 201 #[.agg #[.int .i64 a0,.slice A1 n1 c1,.slice A2 n2 c2,.slice A3 n3 c3],.int .i64 i] w fun e w'=>e=.returned (.bool (zbv p.1 (zab p.1 i)))/\Below w.heap.size w w':=by
 have hl:=hr.cap.1;have hlen:=h.len;obtain⟨bb,o,k,a,b,A4,c4,fs,hA,hb,X,e0,e1,e2,e3,hr3,hl3⟩:=zbg h hr hi;obtain⟨W,hW⟩:∃W,W=(w.alloc (.cells #[.int .i64 a0,.slice A1 n1 c1,.slice A2 n2 c2,.slice A3 n3 c3] 67)).alloc (.cells #[.int .i64 k,.int .i64 a,.int .i64 b,.slice A4 fs.length c4] 169):=⟨_,rfl⟩;have B0:Below w.heap.size w W:=by rw[hW];exact((Below.refl _ _).alloc (Nat.le_refl _) _).alloc (by simp) _
 have HW:=Lib.hid hW;have hok:=(h.node (i:=i) (by omega)).2;rw[X.out]at hok ⊢;have hfl:=zc6 hok;have hi2:(i:Int)<(n2:Int):=by omega
 have hn2:n2<=24:=by omega
 have q3:W.cell? ⟨w.heap.size+1,3,none⟩=some (.slice A4 fs.length c4):=by rw[hW];simp[go_sem]
 have lW:w.heap.size+1<W.heap.size:=by rw[hW];simp
 clear hW;rcases(show (k=5\/k=11)\/k=4\/(k=6\/k=7\/k=8\/k=17)\/(k≠5/\k≠11/\k≠4/\k≠6/\k≠7/\k≠8/\k≠17)by omega)with hk|rfl|hk|hk
 ·have RR:=Lib.hid (zms (ns:=p.1) (a:=a) (b:=b) (fs:=fs) hk);subst hA;clear hfl hok hl hlen;rcases hk with rfl|rfl
  all_goals
   go_enter Tryz.func201,Tryz.ntmps201
   go_wp2;go_ret;exact⟨zac (by rw[RR.out,Bool.eq_iff_iff];simp),((Below.refl _ _).alloc (Nat.le_refl _) _).alloc (by simp) _⟩
 ·have RR:=Lib.hid (zmt (ns:=p.1) (a:=a) (b:=b) (fs:=fs));have hl2:fs.length=2:=hfl (by decide);obtain⟨bf,of_,rfl,hbf,hcf⟩:=zak hr3 (by omega);have m0:fs[0]?=some fs[0]:=List.getElem?_eq_getElem (by omega);have m1:fs[1]?=some fs[1]:=List.getElem?_eq_getElem (by omega);have v0:=hcf 0 _ m0;have v1:=hcf 1 _ m1;rw[M.i_,m0,M.i_,m1]at RR;have w0:W.cell? ⟨bf,of_+0,none⟩=some (.int .i64 fs[0]):=(B0.cell (by exact hbf)).trans v0;have w1:W.cell? ⟨bf,of_+1,none⟩=some (.int .i64 fs[1]):=(B0.cell (by exact hbf)).trans v1;subst hA;generalize fs[0]=x at *;generalize fs[1]=y at *;clear hfl hok hl hlen m0 m1 hcf hl3 hr3 X v0 v1;rw[Nat.add_zero]at w0;rw[hl2]at q3 e3;rw[hl2]at HW;have lbf:bf<W.heap.size:=by omega
  clear hl2
  go_enter Tryz.func201,Tryz.ntmps201
  go_wp2_with fail;rw[<-HW.out];refine wp_region_still_lit (by kernel_rfl) (by kernel_rfl) ?_
  iterate 10 still_step
  refine wpStill_nil ?_;go_wp2;go_ret;exact⟨zac (by rw[RR.out,Bool.eq_iff_iff];simp),B0.drew⟩
 ·have RR:=Lib.hid (zmu (ns:=p.1) (a:=a) (b:=b) (fs:=fs) hk);have hj:0<fs.length:=by rcases hk with rfl|rfl|rfl|rfl <;> (rw[hfl (by decide)];decide)
  generalize hx:zab p.1 (M.fk (k,a,b,fs) 0)=x at *;obtain⟨x0,x1,x2,x3⟩:=x;have ez:=zgv hx;rw[RR.out,ez];obtain⟨A5,c5,ri5,-,CF⟩:=zef h (hr.later B0) hi X hj (Lib.hid rfl) (Lib.hid hx) a0 A1 n1 c1 A3 n3 c3;have CF1:=Lib.hid (CF W (Below.refl _ _));subst hA;clear hfl hok hl hlen RR ez hx CF;rcases hk with rfl|rfl|rfl|rfl
  all_goals
   go_enter Tryz.func201,Tryz.ntmps201
   go_wp2_with fail;rw[<-HW.out];refine CF1.out.mono ?_;rintro e w1 ⟨rfl,bel⟩;go_wp2_with fail;refine(zmq _ _ _ _ _ _ _ _).mono ?_;rintro e w2 ⟨rfl,bel2⟩;go_wp2;go_ret;exact⟨rfl,zaa B0 (zaa bel bel2)⟩
 have RR:=Lib.hid (zmv (ns:=p.1) (a:=a) (b:=b) (fs:=fs) hk);obtain⟨q1,q2,q3,q4,q5,q6,q7⟩:=hk;have g1:(k == 5)=false:=by simpa using q1
 have g2:(k == 11)=false:=by simpa using q2
 have g3:(k == 4)=false:=by simpa using q3
 have g4:(k == 6)=false:=by simpa using q4
 have g5:(k == 7)=false:=by simpa using q5
 have g6:(k == 8)=false:=by simpa using q6
 have g7:(k == 17)=false:=by simpa using q7
 subst hA;clear hfl hok hl hlen
 go_enter Tryz.func201,Tryz.ntmps201
 go_wp2;go_ret;exact⟨zac (by rw[RR.out]),((Below.refl _ _).alloc (Nat.le_refl _) _).alloc (by simp) _⟩
end
end
section
structure BX (w:Yw) (g:Nat) (z0 z1 z2 z3:Value):Prop where
 c0:w.cell? ⟨g,0,none⟩=some z0
 c1:w.cell? ⟨g,1,none⟩=some z1
 c2:w.cell? ⟨g,2,none⟩=some z2
 c3:w.cell? ⟨g,3,none⟩=some z3
 fr:∀j,w.frozen? ⟨g,j,none⟩=false
 lt:g<w.heap.size
theorem BX.below{w w':Yw}{B g:Nat}{z0 z1 z2 z3:Value}(h:BX w g z0 z1 z2 z3)(hb:Below B w w')(hB:g<B):BX w' g z0 z1 z2 z3:=
 ⟨(hb.cell (by exact hB)).trans h.c0,(hb.cell (by exact hB)).trans h.c1,(hb.cell (by exact hB)).trans h.c2,(hb.cell (by exact hB)).trans h.c3,fun j=>(hb.frozen (by exact hB)).trans (h.fr j),Nat.lt_of_lt_of_le h.lt hb.size⟩
theorem BX.later{w w':Yw}{g:Nat}{z0 z1 z2 z3:Value}(h:BX w g z0 z1 z2 z3)(hb:Below w.heap.size w w'):BX w' g z0 z1 z2 z3:=h.below hb h.lt
theorem BX.new(w:Yw)(z0 z1 z2 z3:Value)(t:TypeId):BX (w.alloc (.cells #[z0,z1,z2,z3] t)) w.heap.size z0 z1 z2 z3:=by
 obtain⟨U,rfl,h1,h2,h3,h4,h5,h6,h7⟩:=zdl w z0 z1 z2 z3 t;exact⟨h3,h4,h5,h6,h7,by omega⟩
theorem zaf(w:Yw)(o:Obj):Below w.heap.size w (w.alloc o):=(Below.refl _ _).alloc (Nat.le_refl _) _
theorem zfz(w:Yw)(z0 z1 z2 z3 y0 y1 y2 y3:Value)(t t':TypeId):∃W,W=(w.alloc (.cells #[z0,z1,z2,z3] t)).alloc (.cells #[y0,y1,y2,y3] t')/\Below w.heap.size w W/\W.heap.size=w.heap.size+2/\BX W w.heap.size z0 z1 z2 z3/\BX W (w.heap.size+1) y0 y1 y2 y3:=
 ⟨_,rfl,zaa (zaf w _) (zaf _ _),by simp,(BX.new w z0 z1 z2 z3 t).later (zaf _ _),by simpa using BX.new (w.alloc (.cells #[z0,z1,z2,z3] t)) y0 y1 y2 y3 t'⟩
theorem zeh{k a b:Int}{A:Yo}{n c:Nat}{r:Bool}(hr:decide (k=2)=r)(w:Yw):
 Calls Tryz.prog 237 #[.agg #[.int .i64 k,.int .i64 a,.int .i64 b,.slice A n c]] w fun e w'=>e=.returned (.bool r)/\Below w.heap.size w w':=by subst hr;exact zmp _ _ _ _ _ _ _
theorem zf4{k a b:Int}{A:Yo}{n c:Nat}{v:Int}{r:Bool}(hr:(decide (k=2)&&decide (a=v))=r)(w:Yw):
 Calls Tryz.prog 240 #[.agg #[.int .i64 k,.int .i64 a,.int .i64 b,.slice A n c],.int .i64 v] w fun e w'=>e=.returned (.bool r)/\Below w.heap.size w w':=by subst hr;exact zmq _ _ _ _ _ _ _ _
theorem zmw{ns:List Node}{a b:Int}{fs:List Int}:zbb ns (5,a,b,fs)=if a=1 then M.i_ fs 0 else -1:=by simp[zbb]
theorem zmx{ns:List Node}{a b:Int}{fs:List Int}:zbb ns (10,a,b,fs)=if a=0 then M.i_ fs 0 else -1:=by simp[zbb]
theorem zmy{ns:List Node}{a b:Int}{fs:List Int}:zbb ns (3,a,b,fs)=if zcw ns (M.fk (3,a,b,fs) 0)then M.i_ fs 1 else if zcw ns (M.fk (3,a,b,fs) 1)then M.i_ fs 0 else -1:=by simp[zbb]
theorem zmz{ns:List Node}{a b:Int}{fs:List Int}:zbb ns (4,a,b,fs)=if zcw ns (M.fk (4,a,b,fs) 1)then M.i_ fs 0 else -1:=by simp[zbb]
theorem zm0{ns:List Node}{a b:Int}{fs:List Int}:zbb ns (16,a,b,fs)=if zbl ns (M.fk (16,a,b,fs) 1)&&decide (0<(zab ns (M.fk (16,a,b,fs) 1)).2.1)then M.i_ fs 0 else -1:=by simp[zbb]
theorem zm1{ns:List Node}{a b:Int}{fs:List Int}:zbb ns (15,a,b,fs)=if zbl ns (M.fk (15,a,b,fs) 0)then(if 0<=(zab ns (M.fk (15,a,b,fs) 0)).2.1 then M.i_ fs 1 else M.i_ fs 2)else if M.i_ fs 1=M.i_ fs 2 then M.i_ fs 1 else -1:=by simp[zbb]
theorem zm2{ns:List Node}{k a b:Int}{fs:List Int}(h:k≠5/\k≠10/\k≠3/\k≠4/\k≠16/\k≠15):zbb ns (k,a,b,fs) = -1:=by
 obtain⟨h1,h2,h3,h4,h5,h6⟩:=h;simp[zbb,h1,h2,h3,h4,h5,h6]
section
variable {tb:List (List Int)} {p:NO} {R:Nat->Nat} {w:Yw}
theorem zt9(h:M.WP tb p R)(a0:Int)(A1:Yo)(n1 c1:Nat)(A2:Yo)(n2 c2:Nat)(A3:Yo)(n3 c3:Nat)(i:Nat)(hr:RS tN w w.heap.size (.slice A2 n2 c2) p.1)(hi:i<n2){a b:Int}{fs:List Int}(X:zab p.1 i=(15,a,b,fs)):
 Calls Tryz.prog 203 #[.agg #[.int .i64 a0,.slice A1 n1 c1,.slice A2 n2 c2,.slice A3 n3 c3],.int .i64 i] w fun e w'=>e=.returned (.int .i64 (zbb p.1 (zab p.1 i)))/\Below w.heap.size w w':=by
 have hl:=hr.cap.1;have hlen:=h.len;obtain⟨bb,o,k,a',b',A4,c4,fs',hA,hb,X',e0,e1,e2,e3,hr3,hl3⟩:=zbg h hr hi;have hX:=X'.out;rw[X,Prod.mk.injEq,Prod.mk.injEq,Prod.mk.injEq]at hX;obtain⟨rfl,rfl,rfl,rfl⟩:=hX;obtain⟨W,hW,B0,sW,PX,NX⟩:=zfz w (.int .i64 a0) (.slice A1 n1 c1) (.slice A2 n2 c2) (.slice A3 n3 c3) (.int .i64 15) (.int .i64 a) (.int .i64 b) (.slice A4 fs.length c4) 67 169;have HW:=Lib.hid hW;have hok:=(h.node (i:=i) (by omega)).2;rw[X]at hok ⊢;have hl2:fs.length=3:=zc6 hok (by decide);have hi2:(i:Int)<(n2:Int):=by omega
 have hn2:n2<=24:=by omega
 have hrW:=hr.later B0;have lW:w.heap.size+1<W.heap.size:=by omega
 clear hW sW;obtain⟨bf,of_,rfl,hbf,hcf⟩:=zak hr3 (by omega);have m1:fs[1]?=some fs[1]:=List.getElem?_eq_getElem (by omega);have m2:fs[2]?=some fs[2]:=List.getElem?_eq_getElem (by omega);have v1:=(B0.cell (by exact hbf)).trans (hcf 1 _ m1);have v2:=(B0.cell (by exact hbf)).trans (hcf 2 _ m2);have i1:M.i_ fs 1=fs[1]:=by rw[M.i_,m1];rfl
 have i2:M.i_ fs 2=fs[2]:=by rw[M.i_,m2];rfl
 rw[zm1];generalize hx:zab p.1 (M.fk (15,a,b,fs) 0)=x at *;obtain⟨x0,x1,x2,x3⟩:=x;have ex:=zeg hx;obtain⟨A5,c5,ri5,-,CX⟩:=zef h hrW hi X' (j:=0) (by omega) (Lib.hid rfl) (Lib.hid hx) a0 A1 n1 c1 A3 n3 c3;rw[ex,i1,i2];rw[hl2]at NX HW e3;generalize fs[1]=q1 at *;generalize fs[2]=q2 at *;have lbf:bf<W.heap.size:=by omega
 subst hA;clear hok hl hlen ex hx i1 i2 m1 m2 hcf X X' hr3 hl2 hl3 ri5;have cF:∀d os,Calls Tryz.prog 238 #[.agg #[.int .i64 a0,.slice A1 n1 c1,.slice (some ⟨bb,o,none⟩) n2 c2,.slice A3 n3 c3],.int .i64 i,.int .i64 (0:Nat)] (grow (redrawn W d) os) fun e w''=>e=.returned (.agg #[.int .i64 x0,.int .i64 x1,.int .i64 x2,.slice A5 x3.length c5])/\∃p:Regrown,w''=grow (redrawn W p.d) p.os:=fun d os=>Calls.regrown_of (CX _ (below_regrown W d os))
 obtain⟨pz0,pz1,pz2,pz3,-,pl⟩:=PX;obtain⟨nz0,nz1,nz2,nz3,-,nl⟩:=NX;have pp0:=cell_regrown pz0;have pp1:=cell_regrown pz1;have pp2:=cell_regrown pz2;have pp3:=cell_regrown pz3;have nn3:=cell_regrown nz3;have vv1:=cell_regrown v1;have vv2:=cell_regrown v2;have RF:=zgu
 by_cases hq:q1=q2
 ·have hE:(if decide (x0=2)=true then(if 0<=x1 then q1 else q2)else if q1=q2 then q1 else -1)=q1:=by
   subst hq;simp
  rw[hE];clear hE;subst hq;clear cF
  go_enter Tryz.func203,Tryz.ntmps203
  go_wp2_with fail;rw[<-HW.out]
  (refine wp_region_quiet_below (by kernel_rfl) (by kernel_rfl) ?_;(repeat (go_big_quiet_step (fail)));refine wpQuiet_nil ?_;intro _ hw';obtain⟨⟨dq,osq⟩,hw''⟩:=hw';subst hw'')
  replace nn3:=nn3 dq osq;replace vv1:=vv1 dq osq;have BV:=below_regrown W dq osq;clear pp0 pp1 pp2 pp3 vv2;generalize grow (redrawn W dq) osq=V at nn3 vv1 BV ⊢;have sV:=BV.size;go_wp2;go_ret;exact⟨rfl,zaa B0 BV⟩
 have hq2:(q1 == q2)=false:=by simpa using hq
 cases hz:decide (x0=2)
 ·have cI:∀d os,Calls Tryz.prog 237 #[.agg #[.int .i64 x0,.int .i64 x1,.int .i64 x2,.slice A5 x3.length c5]] (grow (redrawn W d) os) fun e w''=>e=.returned (.bool false)/\∃p:Regrown,w''=grow (redrawn W p.d) p.os:=fun d os=>Calls.regrown_of (zeh hz _)
  have IC:=Lib.hid (zeh (a:=x1) (b:=x2) (A:=A5) (n:=x3.length) (c:=c5) hz);have CX:=Lib.hid CX;clear hz;rw[if_neg (by decide),if_neg hq];clear hq
  go_enter Tryz.func203,Tryz.ntmps203
  go_wp2_with fail;rw[<-HW.out]
  (refine wp_region_quiet_below (by kernel_rfl) (by kernel_rfl) ?_;(repeat (go_big_quiet_step ((first|exact cF _ _|exact cI _ _))));refine wpQuiet_nil ?_;intro _ hw';obtain⟨⟨dq,osq⟩,hw''⟩:=hw';subst hw'')
  replace pp0:=pp0 dq osq;replace pp1:=pp1 dq osq;replace pp2:=pp2 dq osq;replace pp3:=pp3 dq osq;have BV:=below_regrown W dq osq;clear nn3 vv1 vv2 cF cI;generalize grow (redrawn W dq) osq=V at pp0 pp1 pp2 pp3 BV ⊢;have sV:=BV.size;go_wp2_with fail;refine(CX.out V BV).mono ?_;rintro e w1 ⟨rfl,bel⟩;go_wp2_with fail;refine(IC.out _).mono ?_;rintro e w2 ⟨rfl,bel2⟩;go_wp2;go_ret;exact⟨rfl,zaa B0 (zaa BV (zaa bel bel2))⟩
 have cI:∀d os,Calls Tryz.prog 237 #[.agg #[.int .i64 x0,.int .i64 x1,.int .i64 x2,.slice A5 x3.length c5]] (grow (redrawn W d) os) fun e w''=>e=.returned (.bool true)/\∃p:Regrown,w''=grow (redrawn W p.d) p.os:=fun d os=>Calls.regrown_of (zeh hz _)
 have IC:=Lib.hid (zeh (a:=x1) (b:=x2) (A:=A5) (n:=x3.length) (c:=c5) hz);have CX:=Lib.hid CX;clear hz;rw[if_pos rfl]
 by_cases hp:0<=x1
 ·rw[if_pos hp];have hp2:decide (0<=x1)=true:=by simpa using hp
  go_enter Tryz.func203,Tryz.ntmps203
  go_wp2_with fail;rw[<-HW.out]
  (refine wp_region_quiet_below (by kernel_rfl) (by kernel_rfl) ?_;(repeat (go_big_quiet_step ((first|exact cF _ _|exact cI _ _))));refine wpQuiet_nil ?_;intro _ hw';obtain⟨⟨dq,osq⟩,hw''⟩:=hw';subst hw'')
  replace nn3:=nn3 dq osq;replace vv1:=vv1 dq osq;have BV:=below_regrown W dq osq;clear pp0 pp1 pp2 pp3 vv2 cF cI;generalize grow (redrawn W dq) osq=V at nn3 vv1 BV ⊢;have sV:=BV.size;go_wp2;go_ret;exact⟨rfl,zaa B0 BV⟩
 rw[if_neg hp];have hp2:decide (0<=x1)=false:=by simpa using hp
 go_enter Tryz.func203,Tryz.ntmps203
 go_wp2_with fail;rw[<-HW.out]
 (refine wp_region_quiet_below (by kernel_rfl) (by kernel_rfl) ?_;(repeat (go_big_quiet_step ((first|exact cF _ _|exact cI _ _))));refine wpQuiet_nil ?_;intro _ hw';obtain⟨⟨dq,osq⟩,hw''⟩:=hw';subst hw'')
 replace pp0:=pp0 dq osq;replace pp1:=pp1 dq osq;replace pp2:=pp2 dq osq;replace pp3:=pp3 dq osq;replace nn3:=nn3 dq osq;replace vv2:=vv2 dq osq;have BV:=below_regrown W dq osq;clear vv1 cF cI;generalize grow (redrawn W dq) osq=V at pp0 pp1 pp2 pp3 nn3 vv2 BV ⊢;have sV:=BV.size;go_wp2_with fail;refine(CX.out V BV).mono ?_;rintro e w1 ⟨rfl,bel⟩;go_wp2_with fail;refine(IC.out _).mono ?_;rintro e w2 ⟨rfl,bel2⟩;have B2:=zaa bel bel2;have s2:=B2.size;replace nn3:=(B2.cell (by show w.heap.size+1<_;omega)).trans nn3;replace vv2:=(B2.cell (by show bf<_;omega)).trans vv2;clear pp0 pp1 pp2 pp3;go_wp2;go_ret;exact⟨rfl,zaa B0 (zaa BV B2)⟩
end
end
end Go.Proofs.YtifeldeikhmckaaGreat
