import Derived.Test.YtifeldeikhmckaaGreatFnMutedG7
import Derived.Test.YtifeldeikhmckaaGreatFnMutedG8
import Derived.Test.YtifeldeikhmckaaGreatFnMutedG6
import Derived.Lib.QuietBelow
import Derived.BigQuiet
import Derived.Test.YtifeldeikhmckaaGreatFnMutedG3
set_option linter.unusedVariables false
set_option linter.unusedSimpArgs false
set_option maxRecDepth 100000
set_option maxHeartbeats 4000000
namespace Go.Proofs.YtifeldeikhmckaaGreat
open Go.RowKit Go.Sort
section
theorem zib{x:Node}{tb:Int}(h:zaj x tb=true):x.2.2.2.length<=3:=by
 obtain⟨a0,a1,a2,xs⟩:=x;obtain⟨hk,-,-⟩:=zcx h;rw[zaj]at h;simp only[Cx]at h;have hL:=h.2.1.2;simp only at hk;rcases zgp hk with rfl|rfl|rfl|rfl|rfl|rfl|rfl|rfl|rfl|rfl|rfl|rfl|rfl|rfl|rfl|rfl|rfl
 all_goals
  simp[M.kd,zgo]at hL ⊢
  first|omega|(rw[hL];decide)
theorem zk7:∀(ns:List Node),(∀x∈ns,x.2.2.2.length<=3)->hN.szL ns<=3*ns.length
 | [],_=>by simp[Hs.szL]
 | x::ns,h=>by
  have h1:=h x (List.mem_cons_self ..);have h2:=zk7 ns (fun y hy=>h y (List.mem_cons_of_mem _ hy));obtain⟨a0,a1,a2,xs⟩:=x;rw[Hs.szL,ziu,zb3,Dk];simp only at h1;omega
section
variable {tb:List (List Int)} {p:NO} {R:Nat->Nat} {w:Yw} {B:Nat}
theorem M.WP.szN(h:M.WP tb p R):hNS.sz p.1<=100000000:=by
 have h1:=zk7 p.1 (fun x hx=>by
  obtain⟨i,hi⟩:=Fk hx;exact zib (h.ok i x hi))
 have h2:=h.len;show p.1.length+hN.szL p.1<=_
 omega
theorem zd4(h:M.WP tb p R){A:Yo}{n c:Nat}(hr:RS tN w B (.slice A n c) p.1){i:Nat}(hi:i<n):
 ∃(bb o:Nat) (k a b:Int) (A1:Yo) (c1:Nat) (fs:List Int),A=some ⟨bb,o,none⟩/\bb<B/\Hid (zab p.1 i=(k,a,b,fs))/\w.cell? ⟨bb,o+i*4,none⟩=some (.int .i64 k)/\w.cell? ⟨bb,o+i*4+1,none⟩=some (.int .i64 a)/\w.cell? ⟨bb,o+i*4+2,none⟩=some (.int .i64 b)/\w.cell? ⟨bb,o+i*4+3,none⟩=some (.slice A1 fs.length c1)/\RI w B A1 fs.length fs/\fs.length<=3:=by
 obtain⟨bb,o,k,a,b,A1,c1,fs,rfl,hb,X,e0,e1,e2,e3,hr3,-⟩:=zfl hr h.szN hi;exact⟨bb,o,k,a,b,A1,c1,fs,rfl,hb,Aq (zkr X.out),e0,e1,e2,e3,hr3,zib (h.ok _ _ X.out)⟩
theorem M.WP.inpt(h:M.WP tb p R){i:Nat}(hi:i<p.1.length){k a b:Int}{fs:List Int}(hX:zab p.1 i=(k,a,b,fs)){j:Nat}(hj:j<fs.length):∃f:Nat,fs[j]?=some (f:Int)/\f<p.1.length/\M.fk (k,a,b,fs) j=f/\M.i_ fs j=f:=by
 have hm:fs[j]?=some fs[j]:=Ak hj;have h1:=h.fr i _ (zcd hi) fs[j] (by rw[hX];exact List.getElem_mem hj);have h2:M.i_ fs j=fs[j]:=by rw[M.i_,hm];rfl
 refine⟨fs[j].toNat,by rw[hm];congr 1;omega,by omega,?_,by omega⟩;show (M.i_ fs j).toNat=_
 rw[h2]
end
theorem zic(x0 x1 x2 x3:Value)(w:Yw):(Instr.field 169 (.agg #[x0,x1,x2,x3]) 1).run Tryz.prog w=.ok x1 w:=by simp[Instr.field,go_sem,asAgg]
theorem zok(x0 x1 x2 x3:Value)(w:Yw):(Instr.field 169 (.agg #[x0,x1,x2,x3]) 0).run Tryz.prog w=.ok x0 w:=by simp[Instr.field,go_sem,asAgg]
theorem zol(k a b:Int)(A:Yo)(n c:Nat)(w:Yw):
 Calls Tryz.prog 237 #[.agg #[.int .i64 k,.int .i64 a,.int .i64 b,.slice A n c]] w fun e w'=>e=.returned (.bool (decide (k=2)))/\Below w.heap.size w w':=by
 go_enter Tryz.func237,Tryz.ntmps237
 go_wp2;go_ret;exact⟨zac (by rw[Bool.eq_iff_iff];simp),(Aw _ _).alloc (Aj _) _⟩
theorem zom(k a b:Int)(A:Yo)(n c:Nat)(v:Int)(w:Yw):
 Calls Tryz.prog 240 #[.agg #[.int .i64 k,.int .i64 a,.int .i64 b,.slice A n c],.int .i64 v] w fun e w'=>e=.returned (.bool (decide (k=2)&&decide (a=v)))/\Below w.heap.size w w':=by
 obtain⟨W,hW,B0,sW,p0,p1,p2,p3,pf⟩:=zdm w (.int .i64 k) (.int .i64 a) (.int .i64 b) (.slice A n c) 169;have HW:=Aq hW;clear hW;have C:=Aq (zol k a b A n c W);cases hk:decide (k=2)
 ·rw[hk]at C;clear hk
  go_enter Tryz.func240,Tryz.ntmps240
  go_wp2_with fail;rw[<-HW.out];refine C.out.mono ?_;rintro e w1 ⟨rfl,bel⟩;go_wp2;go_ret;exact⟨rfl,zaa B0 bel⟩
 rw[hk]at C;clear hk
 go_enter Tryz.func240,Tryz.ntmps240
 go_wp2_with fail;rw[<-HW.out];refine C.out.mono ?_;rintro e w1 ⟨rfl,bel⟩;have q1:w1.cell? ⟨w.heap.size,1,none⟩=some (.int .i64 a):=(bel.cell (by show w.heap.size<_;omega)).trans p1;have ls:=bel.size;go_wp2;go_ret;exact⟨zac (by rw[Bool.eq_iff_iff];simp),zaa B0 bel⟩
theorem zon(a:Int)(w:Yw):
 Calls Tryz.prog 202 #[.int .i64 a] w fun e w'=>∃(A':Yo) (c':Nat),e=.returned (.agg #[.int .i64 2,.int .i64 a,.int .i64 0,.slice A' 0 c'])/\tS.R w' w'.heap.size [.slice A' 0 c'] []/\Below w.heap.size w w':=by
 obtain⟨W,hW⟩:∃W,W=(w.alloc (.cells #[.int .i64 2,.int .i64 a,.int .i64 0,.slice (some ⟨w.heap.size+1,0,none⟩) 0 0] 169)).alloc (.cells #[] 2):=⟨_,rfl⟩;have B0:Below w.heap.size w W:=by rw[hW];exact((Aw _ _).alloc (Aj _) _).alloc (by simp) _
 have d0:W.cell? ⟨w.heap.size,0,none⟩=some (.int .i64 2):=by rw[hW];simp[go_sem]
 have d1:W.cell? ⟨w.heap.size,1,none⟩=some (.int .i64 a):=by rw[hW];simp[go_sem]
 have d2:W.cell? ⟨w.heap.size,2,none⟩=some (.int .i64 0):=by rw[hW];simp[go_sem]
 have d3:W.cell? ⟨w.heap.size,3,none⟩=some (.slice (some ⟨w.heap.size+1,0,none⟩) 0 0):=by rw[hW];simp[go_sem]
 have f0:W.frozen? ⟨w.heap.size,0,none⟩=false:=by rw[hW];simp[go_sem]
 have f1:W.frozen? ⟨w.heap.size,1,none⟩=false:=by rw[hW];simp[go_sem]
 have f2:W.frozen? ⟨w.heap.size,2,none⟩=false:=by rw[hW];simp[go_sem]
 have f3:W.frozen? ⟨w.heap.size,3,none⟩=false:=by rw[hW];simp[go_sem]
 have HW:=Aq hW;clear hW
 go_enter Tryz.func202,Tryz.ntmps202
 go_wp2_with fail;rw[<-HW.out];refine Cy (v:=.agg #[.int .i64 2,.int .i64 a,.int .i64 0,.slice (some ⟨w.heap.size+1,0,none⟩) 0 0]) (by simp[results,Tryz.results202,go_sem,d0,d1,d2,d3,f0,f1,f2,f3]) rfl ?_;exact⟨_,_,rfl,tS_R.2 (RS.of_ri (RI.nil _ _ _) (Aj _) (by simp[maxLen])),B0⟩
theorem zuq(a0:Int)(A1:Yo)(n1 c1:Nat)(bb o n2 c2:Nat)(A3:Yo)(n3 c3:Nat)(i j f bf of_ m c4:Nat)(x0 x1 x2:Int)(A5:Yo)(m5 c5:Nat)(w:Yw)
 (e3:w.cell? ⟨bb,o+i*4+3,none⟩=some (.slice (some ⟨bf,of_,none⟩) m c4)) (v0:w.cell? ⟨bf,of_+j,none⟩=some (.int .i64 f)) (u0:w.cell? ⟨bb,o+f*4,none⟩=some (.int .i64 x0)) (u1:w.cell? ⟨bb,o+f*4+1,none⟩=some (.int .i64 x1)) (u2:w.cell? ⟨bb,o+f*4+2,none⟩=some (.int .i64 x2)) (u3:w.cell? ⟨bb,o+f*4+3,none⟩=some (.slice A5 m5 c5)) (hi:i<n2) (hj:j<m) (hf:f<n2) (hn:n2<=1000000000) :
 Calls Tryz.prog 238 #[.agg #[.int .i64 a0,.slice A1 n1 c1,.slice (some ⟨bb,o,none⟩) n2 c2,.slice A3 n3 c3],.int .i64 i,.int .i64 j] w fun e w'=>e=.returned (.agg #[.int .i64 x0,.int .i64 x1,.int .i64 x2,.slice A5 m5 c5])/\Below w.heap.size w w':=by
 have lb:=Cj w _ e3;have lf:=Cj w _ v0;obtain⟨W,hW⟩:∃W,W=(w.alloc (.cells #[.int .i64 a0,.slice A1 n1 c1,.slice (some ⟨bb,o,none⟩) n2 c2,.slice A3 n3 c3] 67)).alloc (.cells #[.int .i64 0,.int .i64 0,.int .i64 0,.slice none 0 0] 169):=⟨_,rfl⟩;have B0:Below w.heap.size w W:=by rw[hW];exact((Aw _ _).alloc (Aj _) _).alloc (by simp) _
 have lW:w.heap.size+1<W.heap.size:=by rw[hW];simp
 have p2:W.cell? ⟨w.heap.size,2,none⟩=some (.slice (some ⟨bb,o,none⟩) n2 c2):=by rw[hW];simp[go_sem]
 have r0:W.cell? ⟨w.heap.size+1,0,none⟩=some (.int .i64 0):=by rw[hW];simp[go_sem]
 have r1:W.cell? ⟨w.heap.size+1,1,none⟩=some (.int .i64 0):=by rw[hW];simp[go_sem]
 have r2:W.cell? ⟨w.heap.size+1,2,none⟩=some (.int .i64 0):=by rw[hW];simp[go_sem]
 have r3:W.cell? ⟨w.heap.size+1,3,none⟩=some (.slice none 0 0):=by rw[hW];simp[go_sem]
 have rf0:W.frozen? ⟨w.heap.size+1,0,none⟩=false:=by rw[hW];simp[go_sem]
 have rf1:W.frozen? ⟨w.heap.size+1,1,none⟩=false:=by rw[hW];simp[go_sem]
 have rf2:W.frozen? ⟨w.heap.size+1,2,none⟩=false:=by rw[hW];simp[go_sem]
 have rf3:W.frozen? ⟨w.heap.size+1,3,none⟩=false:=by rw[hW];simp[go_sem]
 replace e3:=(B0.cell (by exact lb)).trans e3;replace v0:=(B0.cell (by exact lf)).trans v0;replace u0:=(B0.cell (by exact lb)).trans u0;replace u1:=(B0.cell (by exact lb)).trans u1;replace u2:=(B0.cell (by exact lb)).trans u2;replace u3:=(B0.cell (by exact lb)).trans u3;obtain⟨U_,hU_,d0,d1,d2,d3,df,dch,dsz⟩:=box4 r0 r1 r2 r3 rf0 rf1 rf2 rf3 (.int .i64 x0) (.int .i64 x1) (.int .i64 x2) (.slice A5 m5 c5);have HW:=Aq hW;have HU:=Aq hU_;have f0:=df 0 (by omega);have f1:=df 1 (by omega);have f2:=df 2 (by omega);have f3:=df 3 (by omega);have hi2:(i:Int)<(n2:Int):=by omega
 have hj2:(j:Int)<(m:Int):=by omega
 have hf2:(f:Int)<(n2:Int):=by omega
 have BU:Below w.heap.size w U_:=B0.trans (dch.toBelow (fun b (hb:b=_)=>by omega) (by omega));have d0:U_.drew.cell? ⟨w.heap.size+1,0,none⟩=some (.int .i64 x0):=d0;have d1:U_.drew.cell? ⟨w.heap.size+1,1,none⟩=some (.int .i64 x1):=d1;have d2:U_.drew.cell? ⟨w.heap.size+1,2,none⟩=some (.int .i64 x2):=d2;have d3:U_.drew.cell? ⟨w.heap.size+1,3,none⟩=some (.slice A5 m5 c5):=d3;have f0:U_.drew.frozen? ⟨w.heap.size+1,0,none⟩=false:=f0;have f1:U_.drew.frozen? ⟨w.heap.size+1,1,none⟩=false:=f1;have f2:U_.drew.frozen? ⟨w.heap.size+1,2,none⟩=false:=f2;have f3:U_.drew.frozen? ⟨w.heap.size+1,3,none⟩=false:=f3;clear hW hU_ df B0 dch
 go_enter Tryz.func238,Tryz.ntmps238
 go_wp2_with fail;rw[<-HW.out];refine wp_region_still_tail 13 (by kernel_rfl) (by kernel_rfl) ?_;simp only[List.take_succ_cons,List.take_zero,List.drop_succ_cons,List.drop_zero]
 iterate 13 still_step
 refine wpStill_nil ?_;change wpList _ _ _ _ _ W.drew;go_wp2_with fail;rw[<-HU.out];refine Cy (v:=.agg #[.int .i64 x0,.int .i64 x1,.int .i64 x2,.slice A5 m5 c5]) (by simp[results,Tryz.results238,go_sem,d0,d1,d2,d3,f0,f1,f2,f3]) rfl ?_;exact⟨rfl,zad BU 1⟩
end
section
section
variable {tb:List (List Int)} {p:NO} {R:Nat->Nat} {w:Yw}
theorem ze7(h:M.WP tb p R){A2:Yo}{n2 c2:Nat}(hr:RS tN w w.heap.size (.slice A2 n2 c2) p.1){i j f:Nat}(hi:i<n2){k a b:Int}{fs:List Int}(hX:Hid (zab p.1 i=(k,a,b,fs)))(hj:j<fs.length)(hf:Hid (M.fk (k,a,b,fs) j=f)){x0 x1 x2:Int}{x3:List Int}(hY:Hid (zab p.1 f=(x0,x1,x2,x3)))(a0:Int)(A1:Yo)(n1 c1:Nat)(A3:Yo)(n3 c3:Nat):
 ∃(A5:Yo) (c5:Nat),RI w w.heap.size A5 x3.length x3/\x3.length<=3/\∀w',Below w.heap.size w w'->Calls Tryz.prog 238 #[.agg #[.int .i64 a0,.slice A1 n1 c1,.slice A2 n2 c2,.slice A3 n3 c3],.int .i64 i,.int .i64 j] w' fun e w''=>e=.returned (.agg #[.int .i64 x0,.int .i64 x1,.int .i64 x2,.slice A5 x3.length c5])/\Below w'.heap.size w' w'':=by
 have hl:=hr.cap.1;have hlen:=h.len;obtain⟨f',g1,g2,g3,g4⟩:=h.inpt (by rw[hl];exact hi) hX.out hj;obtain rfl:f'=f:=by rw[<-g3];exact hf.out
 have hfn:f'<n2:=by rw[<-hl];exact g2
 obtain⟨bb,o,k',a',b',A4,c4,fs',rfl,hb,Z,e0,e1,e2,e3,hr3,hl3⟩:=zd4 h hr hi;have hZ:=Z.out;rw[hX.out,Prod.mk.injEq,Prod.mk.injEq,Prod.mk.injEq]at hZ;obtain⟨rfl,rfl,rfl,rfl⟩:=hZ;obtain⟨bb',o',y0,y1,y2,A5,c5,y3,hA,hb',Z',u0,u1,u2,u3,hr5,hl5⟩:=zd4 h hr hfn;simp only[Dq,Addr.mk.injEq,and_true]at hA;obtain⟨rfl,rfl⟩:=hA;have hZ':=Z'.out;rw[hY.out,Prod.mk.injEq,Prod.mk.injEq,Prod.mk.injEq]at hZ';obtain⟨rfl,rfl,rfl,rfl⟩:=hZ';obtain⟨bf,of_,rfl,hbf,hcf⟩:=zau hr3 (by omega);have v0:=hcf j _ g1;exact⟨A5,c5,hr5,hl5,fun w' hw=>zuq a0 A1 n1 c1 bb o n2 c2 A3 n3 c3 i j f' bf of_ fs.length c4 x0 x1 x2 A5 x3.length c5 w' ((hw.cell (by exact hb)).trans e3) ((hw.cell (by exact hbf)).trans v0) ((hw.cell (by exact hb)).trans u0) ((hw.cell (by exact hb)).trans u1) ((hw.cell (by exact hb)).trans u2) ((hw.cell (by exact hb)).trans u3) hi hj hfn (by omega)⟩
end
theorem zur{ns:List Node}{k a b:Int}{fs:List Int}(h:k=5\/k=11):zcn ns (k,a,b,fs)=decide (a=0):=by rw[zcn,if_pos h]
theorem zus{ns:List Node}{a b:Int}{fs:List Int}:zcn ns (4,a,b,fs)=decide (M.i_ fs 0=M.i_ fs 1):=by rw[zcn,if_neg (by show ¬((4:Int)=5\/(4:Int)=11);decide),if_pos rfl]
theorem zut{ns:List Node}{k a b:Int}{fs:List Int}(h:k=6\/k=7\/k=8\/k=17):zcn ns (k,a,b,fs)=zdh ns (M.fk (k,a,b,fs) 0):=by
 rw[zcn,if_neg (by show ¬(k=5\/k=11);omega),if_neg (by show ¬(k=4);omega),if_pos h]
theorem zuu{ns:List Node}{k a b:Int}{fs:List Int}(h:k≠5/\k≠11/\k≠4/\k≠6/\k≠7/\k≠8/\k≠17):zcn ns (k,a,b,fs)=false:=by
 rw[zcn,if_neg (by show ¬(k=5\/k=11);omega),if_neg (by show ¬(k=4);omega),if_neg (by show ¬(k=6\/k=7\/k=8\/k=17);omega)]
theorem zjf{ns:List Node}{f:Nat}{x0 x1 x2:Int}{x3:List Int}(h:zab ns f=(x0,x1,x2,x3)):zb8 ns f=decide (x0=2):=by rw[zb8,h]
theorem zjg{ns:List Node}{f:Nat}{x0 x1 x2:Int}{x3:List Int}(h:zab ns f=(x0,x1,x2,x3)):zdh ns f=(decide (x0=2)&&decide (x1=0)):=by rw[zdh,zb8,h]
section
variable {tb:List (List Int)} {p:NO} {R:Nat->Nat} {w:Yw}
theorem zuv(h:M.WP tb p R)(a0:Int)(A1:Yo)(n1 c1:Nat)(A2:Yo)(n2 c2:Nat)(A3:Yo)(n3 c3:Nat)(i:Nat)(hr:RS tN w w.heap.size (.slice A2 n2 c2) p.1)(hi:i<n2):
 Calls Tryz.prog 201 #[.agg #[.int .i64 a0,.slice A1 n1 c1,.slice A2 n2 c2,.slice A3 n3 c3],.int .i64 i] w fun e w'=>e=.returned (.bool (zcn p.1 (zab p.1 i)))/\Below w.heap.size w w':=by
 have hl:=hr.cap.1;have hlen:=h.len;obtain⟨bb,o,k,a,b,A4,c4,fs,hA,hb,X,e0,e1,e2,e3,hr3,hl3⟩:=zd4 h hr hi;obtain⟨W,hW⟩:∃W,W=(w.alloc (.cells #[.int .i64 a0,.slice A1 n1 c1,.slice A2 n2 c2,.slice A3 n3 c3] 67)).alloc (.cells #[.int .i64 k,.int .i64 a,.int .i64 b,.slice A4 fs.length c4] 169):=⟨_,rfl⟩;have B0:Below w.heap.size w W:=by rw[hW];exact((Aw _ _).alloc (Aj _) _).alloc (by simp) _
 have HW:=Aq hW;have hok:=(h.node (i:=i) (by omega)).2;rw[X.out]at hok ⊢;have hfl:=zfq hok;have hi2:(i:Int)<(n2:Int):=by omega
 have hn2:n2<=24:=by omega
 have q3:W.cell? ⟨w.heap.size+1,3,none⟩=some (.slice A4 fs.length c4):=by rw[hW];simp[go_sem]
 have lW:w.heap.size+1<W.heap.size:=by rw[hW];simp
 clear hW;rcases(show (k=5\/k=11)\/k=4\/(k=6\/k=7\/k=8\/k=17)\/(k≠5/\k≠11/\k≠4/\k≠6/\k≠7/\k≠8/\k≠17)by omega)with hk|rfl|hk|hk
 ·have RR:=Aq (zur (ns:=p.1) (a:=a) (b:=b) (fs:=fs) hk);subst hA;clear hfl hok hl hlen;rcases hk with rfl|rfl
  all_goals
   go_enter Tryz.func201,Tryz.ntmps201
   go_wp2;go_ret;exact⟨zac (by rw[RR.out,Bool.eq_iff_iff];simp),((Aw _ _).alloc (Aj _) _).alloc (by simp) _⟩
 ·have RR:=Aq (zus (ns:=p.1) (a:=a) (b:=b) (fs:=fs));have hl2:fs.length=2:=hfl (by decide);obtain⟨bf,of_,rfl,hbf,hcf⟩:=zau hr3 (by omega);have m0:fs[0]?=some fs[0]:=Ak (by omega);have m1:fs[1]?=some fs[1]:=Ak (by omega);have v0:=hcf 0 _ m0;have v1:=hcf 1 _ m1;rw[M.i_,m0,M.i_,m1]at RR;have w0:W.cell? ⟨bf,of_+0,none⟩=some (.int .i64 fs[0]):=(B0.cell (by exact hbf)).trans v0;have w1:W.cell? ⟨bf,of_+1,none⟩=some (.int .i64 fs[1]):=(B0.cell (by exact hbf)).trans v1;subst hA;generalize fs[0]=x at *;generalize fs[1]=y at *;clear hfl hok hl hlen m0 m1 hcf hl3 hr3 X v0 v1;rw[Nat.add_zero]at w0;rw[hl2]at q3 e3;rw[hl2]at HW;have lbf:bf<W.heap.size:=by omega
  clear hl2
  go_enter Tryz.func201,Tryz.ntmps201
  go_wp2_with fail;rw[<-HW.out];refine wp_region_still_lit (by kernel_rfl) (by kernel_rfl) ?_
  iterate 10 still_step
  refine wpStill_nil ?_;go_wp2;go_ret;exact⟨zac (by rw[RR.out,Bool.eq_iff_iff];simp),B0.drew⟩
 ·have RR:=Aq (zut (ns:=p.1) (a:=a) (b:=b) (fs:=fs) hk);have hj:0<fs.length:=by rcases hk with rfl|rfl|rfl|rfl <;> (rw[hfl (by decide)];decide)
  generalize hx:zab p.1 (M.fk (k,a,b,fs) 0)=x at *;obtain⟨x0,x1,x2,x3⟩:=x;have ez:=zjg hx;rw[RR.out,ez];obtain⟨A5,c5,ri5,-,CF⟩:=ze7 h (hr.later B0) hi X hj (Aq rfl) (Aq hx) a0 A1 n1 c1 A3 n3 c3;have CF1:=Aq (CF W (Aw _ _));subst hA;clear hfl hok hl hlen RR ez hx CF;rcases hk with rfl|rfl|rfl|rfl
  all_goals
   go_enter Tryz.func201,Tryz.ntmps201
   go_wp2_with fail;rw[<-HW.out];refine CF1.out.mono ?_;rintro e w1 ⟨rfl,bel⟩;go_wp2_with fail;refine(zom _ _ _ _ _ _ _ _).mono ?_;rintro e w2 ⟨rfl,bel2⟩;go_wp2;go_ret;exact⟨rfl,zaa B0 (zaa bel bel2)⟩
 have RR:=Aq (zuu (ns:=p.1) (a:=a) (b:=b) (fs:=fs) hk);obtain⟨q1,q2,q3,q4,q5,q6,q7⟩:=hk;have g1:(k == 5)=false:=by simpa using q1
 have g2:(k == 11)=false:=by simpa using q2
 have g3:(k == 4)=false:=by simpa using q3
 have g4:(k == 6)=false:=by simpa using q4
 have g5:(k == 7)=false:=by simpa using q5
 have g6:(k == 8)=false:=by simpa using q6
 have g7:(k == 17)=false:=by simpa using q7
 subst hA;clear hfl hok hl hlen
 go_enter Tryz.func201,Tryz.ntmps201
 go_wp2;go_ret;exact⟨zac (by rw[RR.out]),((Aw _ _).alloc (Aj _) _).alloc (by simp) _⟩
end
end
section
structure BX (w:Yw) (g:Nat) (z0 z1 z2 z3:Value):Prop where
 c0:w.cell? ⟨g,0,none⟩=some z0
 c1:w.cell? ⟨g,1,none⟩=some z1
 c2:w.cell? ⟨g,2,none⟩=some z2
 c3:w.cell? ⟨g,3,none⟩=some z3
 fr:∀j,w.frozen? ⟨g,j,none⟩=false
 lt:g<w.heap.size
theorem BX.below{w w':Yw}{B g:Nat}{z0 z1 z2 z3:Value}(h:BX w g z0 z1 z2 z3)(hb:Below B w w')(hB:g<B):BX w' g z0 z1 z2 z3:=
 ⟨(hb.cell (by exact hB)).trans h.c0,(hb.cell (by exact hB)).trans h.c1,(hb.cell (by exact hB)).trans h.c2,(hb.cell (by exact hB)).trans h.c3,fun j=>(hb.frozen (by exact hB)).trans (h.fr j),Cq h.lt hb.size⟩
theorem BX.later{w w':Yw}{g:Nat}{z0 z1 z2 z3:Value}(h:BX w g z0 z1 z2 z3)(hb:Below w.heap.size w w'):BX w' g z0 z1 z2 z3:=h.below hb h.lt
theorem BX.new(w:Yw)(z0 z1 z2 z3:Value)(t:TypeId):BX (w.alloc (.cells #[z0,z1,z2,z3] t)) w.heap.size z0 z1 z2 z3:=by
 obtain⟨U,rfl,h1,h2,h3,h4,h5,h6,h7⟩:=zdm w z0 z1 z2 z3 t;exact⟨h3,h4,h5,h6,h7,by omega⟩
theorem zar(w:Yw)(o:Obj):Below w.heap.size w (w.alloc o):=(Aw _ _).alloc (Aj _) _
theorem zhf(w:Yw)(z0 z1 z2 z3 y0 y1 y2 y3:Value)(t t':TypeId):∃W,W=(w.alloc (.cells #[z0,z1,z2,z3] t)).alloc (.cells #[y0,y1,y2,y3] t')/\Below w.heap.size w W/\W.heap.size=w.heap.size+2/\BX W w.heap.size z0 z1 z2 z3/\BX W (w.heap.size+1) y0 y1 y2 y3:=
 ⟨_,rfl,zaa (zar w _) (zar _ _),by simp,(BX.new w z0 z1 z2 z3 t).later (zar _ _),by simpa using BX.new (w.alloc (.cells #[z0,z1,z2,z3] t)) y0 y1 y2 y3 t'⟩
theorem ze8{k a b:Int}{A:Yo}{n c:Nat}{r:Bool}(hr:decide (k=2)=r)(w:Yw):
 Calls Tryz.prog 237 #[.agg #[.int .i64 k,.int .i64 a,.int .i64 b,.slice A n c]] w fun e w'=>e=.returned (.bool r)/\Below w.heap.size w w':=by subst hr;exact zol _ _ _ _ _ _ _
theorem zhg{k a b:Int}{A:Yo}{n c:Nat}{v:Int}{r:Bool}(hr:(decide (k=2)&&decide (a=v))=r)(w:Yw):
 Calls Tryz.prog 240 #[.agg #[.int .i64 k,.int .i64 a,.int .i64 b,.slice A n c],.int .i64 v] w fun e w'=>e=.returned (.bool r)/\Below w.heap.size w w':=by subst hr;exact zom _ _ _ _ _ _ _ _
theorem zuw{ns:List Node}{a b:Int}{fs:List Int}:zaz ns (5,a,b,fs)=if a=1 then M.i_ fs 0 else -1:=by simp[zaz]
theorem zux{ns:List Node}{a b:Int}{fs:List Int}:zaz ns (10,a,b,fs)=if a=0 then M.i_ fs 0 else -1:=by simp[zaz]
theorem zuy{ns:List Node}{a b:Int}{fs:List Int}:zaz ns (3,a,b,fs)=if zdh ns (M.fk (3,a,b,fs) 0)then M.i_ fs 1 else if zdh ns (M.fk (3,a,b,fs) 1)then M.i_ fs 0 else -1:=by simp[zaz]
theorem zuz{ns:List Node}{a b:Int}{fs:List Int}:zaz ns (4,a,b,fs)=if zdh ns (M.fk (4,a,b,fs) 1)then M.i_ fs 0 else -1:=by simp[zaz]
theorem zu0{ns:List Node}{a b:Int}{fs:List Int}:zaz ns (16,a,b,fs)=if zb8 ns (M.fk (16,a,b,fs) 1)&&decide (0<(zab ns (M.fk (16,a,b,fs) 1)).2.1)then M.i_ fs 0 else -1:=by simp[zaz]
theorem zu1{ns:List Node}{a b:Int}{fs:List Int}:zaz ns (15,a,b,fs)=if zb8 ns (M.fk (15,a,b,fs) 0)then(if 0<=(zab ns (M.fk (15,a,b,fs) 0)).2.1 then M.i_ fs 1 else M.i_ fs 2)else if M.i_ fs 1=M.i_ fs 2 then M.i_ fs 1 else -1:=by simp[zaz]
theorem zu2{ns:List Node}{k a b:Int}{fs:List Int}(h:k≠5/\k≠10/\k≠3/\k≠4/\k≠16/\k≠15):zaz ns (k,a,b,fs) = -1:=by
 obtain⟨h1,h2,h3,h4,h5,h6⟩:=h;simp[zaz,h1,h2,h3,h4,h5,h6]
section
variable {tb:List (List Int)} {p:NO} {R:Nat->Nat} {w:Yw}
theorem zu3(h:M.WP tb p R)(a0:Int)(A1:Yo)(n1 c1:Nat)(A2:Yo)(n2 c2:Nat)(A3:Yo)(n3 c3:Nat)(i:Nat)(hr:RS tN w w.heap.size (.slice A2 n2 c2) p.1)(hi:i<n2){a b:Int}{fs:List Int}(X:zab p.1 i=(15,a,b,fs)):
 Calls Tryz.prog 203 #[.agg #[.int .i64 a0,.slice A1 n1 c1,.slice A2 n2 c2,.slice A3 n3 c3],.int .i64 i] w fun e w'=>e=.returned (.int .i64 (zaz p.1 (zab p.1 i)))/\Below w.heap.size w w':=by
 have hl:=hr.cap.1;have hlen:=h.len;obtain⟨bb,o,k,a',b',A4,c4,fs',hA,hb,X',e0,e1,e2,e3,hr3,hl3⟩:=zd4 h hr hi;have hX:=X'.out;rw[X,Prod.mk.injEq,Prod.mk.injEq,Prod.mk.injEq]at hX;obtain⟨rfl,rfl,rfl,rfl⟩:=hX;obtain⟨W,hW,B0,sW,PX,NX⟩:=zhf w (.int .i64 a0) (.slice A1 n1 c1) (.slice A2 n2 c2) (.slice A3 n3 c3) (.int .i64 15) (.int .i64 a) (.int .i64 b) (.slice A4 fs.length c4) 67 169;have HW:=Aq hW;have hok:=(h.node (i:=i) (by omega)).2;rw[X]at hok ⊢;have hl2:fs.length=3:=zfq hok (by decide);have hi2:(i:Int)<(n2:Int):=by omega
 have hn2:n2<=24:=by omega
 have hrW:=hr.later B0;have lW:w.heap.size+1<W.heap.size:=by omega
 clear hW sW;obtain⟨bf,of_,rfl,hbf,hcf⟩:=zau hr3 (by omega);have m1:fs[1]?=some fs[1]:=Ak (by omega);have m2:fs[2]?=some fs[2]:=Ak (by omega);have v1:=(B0.cell (by exact hbf)).trans (hcf 1 _ m1);have v2:=(B0.cell (by exact hbf)).trans (hcf 2 _ m2);have i1:M.i_ fs 1=fs[1]:=by rw[M.i_,m1];rfl
 have i2:M.i_ fs 2=fs[2]:=by rw[M.i_,m2];rfl
 rw[zu1];generalize hx:zab p.1 (M.fk (15,a,b,fs) 0)=x at *;obtain⟨x0,x1,x2,x3⟩:=x;have ex:=zjf hx;obtain⟨A5,c5,ri5,-,CX⟩:=ze7 h hrW hi X' (j:=0) (by omega) (Aq rfl) (Aq hx) a0 A1 n1 c1 A3 n3 c3;rw[ex,i1,i2];rw[hl2]at NX HW e3;generalize fs[1]=q1 at *;generalize fs[2]=q2 at *;have lbf:bf<W.heap.size:=by omega
 subst hA;clear hok hl hlen ex hx i1 i2 m1 m2 hcf X X' hr3 hl2 hl3 ri5;have cF:∀d os,Calls Tryz.prog 238 #[.agg #[.int .i64 a0,.slice A1 n1 c1,.slice (some ⟨bb,o,none⟩) n2 c2,.slice A3 n3 c3],.int .i64 i,.int .i64 (0:Nat)] (grow (redrawn W d) os) fun e w''=>e=.returned (.agg #[.int .i64 x0,.int .i64 x1,.int .i64 x2,.slice A5 x3.length c5])/\∃p:Regrown,w''=grow (redrawn W p.d) p.os:=fun d os=>Fw (CX _ (Cf W d os))
 obtain⟨pz0,pz1,pz2,pz3,-,pl⟩:=PX;obtain⟨nz0,nz1,nz2,nz3,-,nl⟩:=NX;have pp0:=Ag pz0;have pp1:=Ag pz1;have pp2:=Ag pz2;have pp3:=Ag pz3;have nn3:=Ag nz3;have vv1:=Ag v1;have vv2:=Ag v2;have RF:=zic
 by_cases hq:q1=q2
 ·have hE:(if decide (x0=2)=true then(if 0<=x1 then q1 else q2)else if q1=q2 then q1 else -1)=q1:=by
   subst hq;simp
  rw[hE];clear hE;subst hq;clear cF
  go_enter Tryz.func203,Tryz.ntmps203
  go_wp2_with fail;rw[<-HW.out]
  (refine Ck (by kernel_rfl) (by kernel_rfl) ?_;(repeat (go_big_quiet_step (fail)));refine Cv ?_;intro _ hw';obtain⟨⟨dq,osq⟩,hw''⟩:=hw';subst hw'')
  replace nn3:=nn3 dq osq;replace vv1:=vv1 dq osq;have BV:=Cf W dq osq;clear pp0 pp1 pp2 pp3 vv2;generalize grow (redrawn W dq) osq=V at nn3 vv1 BV ⊢;have sV:=BV.size;go_wp2;go_ret;exact⟨rfl,zaa B0 BV⟩
 have hq2:(q1 == q2)=false:=by simpa using hq
 cases hz:decide (x0=2)
 ·have cI:∀d os,Calls Tryz.prog 237 #[.agg #[.int .i64 x0,.int .i64 x1,.int .i64 x2,.slice A5 x3.length c5]] (grow (redrawn W d) os) fun e w''=>e=.returned (.bool false)/\∃p:Regrown,w''=grow (redrawn W p.d) p.os:=fun d os=>Fw (ze8 hz _)
  have IC:=Aq (ze8 (a:=x1) (b:=x2) (A:=A5) (n:=x3.length) (c:=c5) hz);have CX:=Aq CX;clear hz;rw[if_neg (by decide),if_neg hq];clear hq
  go_enter Tryz.func203,Tryz.ntmps203
  go_wp2_with fail;rw[<-HW.out]
  (refine Ck (by kernel_rfl) (by kernel_rfl) ?_;(repeat (go_big_quiet_step ((first|exact cF _ _|exact cI _ _))));refine Cv ?_;intro _ hw';obtain⟨⟨dq,osq⟩,hw''⟩:=hw';subst hw'')
  replace pp0:=pp0 dq osq;replace pp1:=pp1 dq osq;replace pp2:=pp2 dq osq;replace pp3:=pp3 dq osq;have BV:=Cf W dq osq;clear nn3 vv1 vv2 cF cI;generalize grow (redrawn W dq) osq=V at pp0 pp1 pp2 pp3 BV ⊢;have sV:=BV.size;go_wp2_with fail;refine(CX.out V BV).mono ?_;rintro e w1 ⟨rfl,bel⟩;go_wp2_with fail;refine(IC.out _).mono ?_;rintro e w2 ⟨rfl,bel2⟩;go_wp2;go_ret;exact⟨rfl,zaa B0 (zaa BV (zaa bel bel2))⟩
 have cI:∀d os,Calls Tryz.prog 237 #[.agg #[.int .i64 x0,.int .i64 x1,.int .i64 x2,.slice A5 x3.length c5]] (grow (redrawn W d) os) fun e w''=>e=.returned (.bool true)/\∃p:Regrown,w''=grow (redrawn W p.d) p.os:=fun d os=>Fw (ze8 hz _)
 have IC:=Aq (ze8 (a:=x1) (b:=x2) (A:=A5) (n:=x3.length) (c:=c5) hz);have CX:=Aq CX;clear hz;rw[if_pos rfl]
 by_cases hp:0<=x1
 ·rw[if_pos hp];have hp2:decide (0<=x1)=true:=by simpa using hp
  go_enter Tryz.func203,Tryz.ntmps203
  go_wp2_with fail;rw[<-HW.out]
  (refine Ck (by kernel_rfl) (by kernel_rfl) ?_;(repeat (go_big_quiet_step ((first|exact cF _ _|exact cI _ _))));refine Cv ?_;intro _ hw';obtain⟨⟨dq,osq⟩,hw''⟩:=hw';subst hw'')
  replace nn3:=nn3 dq osq;replace vv1:=vv1 dq osq;have BV:=Cf W dq osq;clear pp0 pp1 pp2 pp3 vv2 cF cI;generalize grow (redrawn W dq) osq=V at nn3 vv1 BV ⊢;have sV:=BV.size;go_wp2;go_ret;exact⟨rfl,zaa B0 BV⟩
 rw[if_neg hp];have hp2:decide (0<=x1)=false:=by simpa using hp
 go_enter Tryz.func203,Tryz.ntmps203
 go_wp2_with fail;rw[<-HW.out]
 (refine Ck (by kernel_rfl) (by kernel_rfl) ?_;(repeat (go_big_quiet_step ((first|exact cF _ _|exact cI _ _))));refine Cv ?_;intro _ hw';obtain⟨⟨dq,osq⟩,hw''⟩:=hw';subst hw'')
 replace pp0:=pp0 dq osq;replace pp1:=pp1 dq osq;replace pp2:=pp2 dq osq;replace pp3:=pp3 dq osq;replace nn3:=nn3 dq osq;replace vv2:=vv2 dq osq;have BV:=Cf W dq osq;clear vv1 cF cI;generalize grow (redrawn W dq) osq=V at pp0 pp1 pp2 pp3 nn3 vv2 BV ⊢;have sV:=BV.size;go_wp2_with fail;refine(CX.out V BV).mono ?_;rintro e w1 ⟨rfl,bel⟩;go_wp2_with fail;refine(IC.out _).mono ?_;rintro e w2 ⟨rfl,bel2⟩;have B2:=zaa bel bel2;have s2:=B2.size;replace nn3:=(B2.cell (by show w.heap.size+1<_;omega)).trans nn3;replace vv2:=(B2.cell (by show bf<_;omega)).trans vv2;clear pp0 pp1 pp2 pp3;go_wp2;go_ret;exact⟨rfl,zaa B0 (zaa BV B2)⟩
end
end
section
section
variable {tb:List (List Int)} {p:NO} {R:Nat->Nat} {w:Yw}
theorem zu4(h:M.WP tb p R)(a0:Int)(A1:Yo)(n1 c1:Nat)(A2:Yo)(n2 c2:Nat)(A3:Yo)(n3 c3:Nat)(i:Nat)(hr:RS tN w w.heap.size (.slice A2 n2 c2) p.1)(hi:i<n2):
 Calls Tryz.prog 203 #[.agg #[.int .i64 a0,.slice A1 n1 c1,.slice A2 n2 c2,.slice A3 n3 c3],.int .i64 i] w fun e w'=>e=.returned (.int .i64 (zaz p.1 (zab p.1 i)))/\Below w.heap.size w w':=by
 have hl:=hr.cap.1;have hlen:=h.len;obtain⟨bb,o,k,a,b,A4,c4,fs,hA,hb,X,e0,e1,e2,e3,hr3,hl3⟩:=zd4 h hr hi;obtain⟨W,hW,B0,sW,PX,NX⟩:=zhf w (.int .i64 a0) (.slice A1 n1 c1) (.slice A2 n2 c2) (.slice A3 n3 c3) (.int .i64 k) (.int .i64 a) (.int .i64 b) (.slice A4 fs.length c4) 67 169;have HW:=Aq hW;have hok:=(h.node (i:=i) (by omega)).2;rw[X.out]at hok ⊢;have hfl:=zfq hok;have hi2:(i:Int)<(n2:Int):=by omega
 have hn2:n2<=24:=by omega
 have hrW:=hr.later B0;have lW:w.heap.size+1<W.heap.size:=by omega
 clear hW sW;rcases(show (k=5\/k=10)\/k=3\/k=4\/k=16\/k=15\/(k≠5/\k≠10/\k≠3/\k≠4/\k≠16/\k≠15)by omega)with hk|rfl|rfl|rfl|rfl|hk
 ·have hl2:fs.length=1:=by rcases hk with rfl|rfl <;> exact hfl (by decide)
  obtain⟨bf,of_,rfl,hbf,hcf⟩:=zau hr3 (by omega);have m0:fs[0]?=some fs[0]:=Ak (by omega);have v0:=hcf 0 _ m0;have x0:M.i_ fs 0=fs[0]:=by rw[M.i_,m0];rfl
  rw[Nat.add_zero]at v0;rw[hl2]at e3;subst hA;clear hfl hok hl hlen m0 hcf hr3 X HW PX NX hrW lW B0;rcases hk with rfl|rfl
  ·rw[zuw,x0];generalize fs[0]=x at *;clear x0 hl2 hl3
   by_cases ha:a=1
   ·rw[if_pos ha];subst ha
    go_enter Tryz.func203,Tryz.ntmps203
    go_wp2;go_ret;exact⟨rfl,zaa (zar _ _) (zar _ _)⟩
   rw[if_neg ha];have g:(a == 1)=false:=(by simpa using ha);clear ha
   go_enter Tryz.func203,Tryz.ntmps203
   go_wp2;go_ret;exact⟨rfl,zaa (zar _ _) (zar _ _)⟩
  rw[zux,x0];generalize fs[0]=x at *;clear x0 hl2 hl3
  by_cases ha:a=0
  ·rw[if_pos ha];subst ha
   go_enter Tryz.func203,Tryz.ntmps203
   go_wp2;go_ret;exact⟨rfl,zaa (zar _ _) (zar _ _)⟩
  rw[if_neg ha];have g:(a == 0)=false:=by simpa using ha
  clear ha
  go_enter Tryz.func203,Tryz.ntmps203
  go_wp2;go_ret;exact⟨rfl,zaa (zar _ _) (zar _ _)⟩
 ·have hl2:fs.length=2:=hfl (by decide);obtain⟨bf,of_,rfl,hbf,hcf⟩:=zau hr3 (by omega);have m0:fs[0]?=some fs[0]:=Ak (by omega);have m1:fs[1]?=some fs[1]:=Ak (by omega);have v0:=(B0.cell (by exact hbf)).trans (hcf 0 _ m0);have v1:=(B0.cell (by exact hbf)).trans (hcf 1 _ m1);have i0:M.i_ fs 0=fs[0]:=by rw[M.i_,m0];rfl
  have i1:M.i_ fs 1=fs[1]:=by rw[M.i_,m1];rfl
  rw[Nat.add_zero]at v0;rw[zuy];generalize hx:zab p.1 (M.fk (3,a,b,fs) 0)=x at *;obtain⟨x0,x1,x2,x3⟩:=x;generalize hy:zab p.1 (M.fk (3,a,b,fs) 1)=y at *;obtain⟨y0,y1,y2,y3⟩:=y;have ez:=zjg hx;have ey:=zjg hy;obtain⟨A5,c5,ri5,-,CX⟩:=ze7 h hrW hi X (j:=0) (by omega) (Aq rfl) (Aq hx) a0 A1 n1 c1 A3 n3 c3;obtain⟨A6,c6,ri6,-,CY⟩:=ze7 h hrW hi X (j:=1) (by omega) (Aq rfl) (Aq hy) a0 A1 n1 c1 A3 n3 c3;rw[ez,ey,i0,i1];rw[hl2]at NX HW e3;generalize fs[0]=q0 at *;generalize fs[1]=q1 at *;have lbf:bf<W.heap.size:=by omega
  subst hA;clear hfl hok hl hlen ez ey hx hy i0 i1 m0 m1 hcf X hr3 hl2 hl3;cases hz:(decide (x0=2)&&decide (x1=0))
  ·cases hz2:(decide (y0=2)&&decide (y1=0))
   ·have IZ:=Aq (zhg (b:=x2) (A:=A5) (n:=x3.length) (c:=c5) hz);have IY:=Aq (zhg (b:=y2) (A:=A6) (n:=y3.length) (c:=c6) hz2);have CX:=Aq CX;have CY:=Aq CY;clear hz hz2
    go_enter Tryz.func203,Tryz.ntmps203
    go_wp2_with fail;rw[<-HW.out];refine(CX.out W (Aw _ _)).mono ?_;rintro e w1 ⟨rfl,bel⟩;go_wp2_with fail;refine(IZ.out _).mono ?_;rintro e w2 ⟨rfl,bel2⟩;have B2:=zaa bel bel2;obtain⟨z0,z1,z2,z3,zf,zl⟩:=PX.later B2;go_wp2_with fail;refine(CY.out w2 B2).mono ?_;rintro e w3 ⟨rfl,bel3⟩;go_wp2_with fail;refine(IY.out _).mono ?_;rintro e w4 ⟨rfl,bel4⟩;go_wp2;go_ret;exact⟨rfl,zaa B0 (zaa B2 (zaa bel3 bel4))⟩
   have IZ:=Aq (zhg (b:=x2) (A:=A5) (n:=x3.length) (c:=c5) hz);have IY:=Aq (zhg (b:=y2) (A:=A6) (n:=y3.length) (c:=c6) hz2);have CX:=Aq CX;have CY:=Aq CY;clear hz hz2
   go_enter Tryz.func203,Tryz.ntmps203
   go_wp2_with fail;rw[<-HW.out];refine(CX.out W (Aw _ _)).mono ?_;rintro e w1 ⟨rfl,bel⟩;go_wp2_with fail;refine(IZ.out _).mono ?_;rintro e w2 ⟨rfl,bel2⟩;have B2:=zaa bel bel2;obtain⟨z0,z1,z2,z3,zf,zl⟩:=PX.later B2;go_wp2_with fail;refine(CY.out w2 B2).mono ?_;rintro e w3 ⟨rfl,bel3⟩;go_wp2_with fail;refine(IY.out _).mono ?_;rintro e w4 ⟨rfl,bel4⟩;have B4:=zaa B2 (zaa bel3 bel4);obtain⟨k0,k1,k2,k3,kf,kl⟩:=NX.later B4;replace v0:=(B4.cell (by exact lbf)).trans v0;clear z0 z1 z2 z3 zf v1;go_wp2;go_ret;exact⟨rfl,zaa B0 B4⟩
  have IZ:=Aq (zhg (b:=x2) (A:=A5) (n:=x3.length) (c:=c5) hz);have CX:=Aq CX;clear hz CY
  go_enter Tryz.func203,Tryz.ntmps203
  go_wp2_with fail;rw[<-HW.out];refine(CX.out W (Aw _ _)).mono ?_;rintro e w1 ⟨rfl,bel⟩;go_wp2_with fail;refine(IZ.out _).mono ?_;rintro e w2 ⟨rfl,bel2⟩;have B2:=zaa bel bel2;obtain⟨k0,k1,k2,k3,kf,kl⟩:=NX.later B2;replace v1:=(B2.cell (by exact lbf)).trans v1;clear v0;go_wp2;go_ret;exact⟨rfl,zaa B0 B2⟩
 ·have hl2:fs.length=2:=hfl (by decide);obtain⟨bf,of_,rfl,hbf,hcf⟩:=zau hr3 (by omega);have m0:fs[0]?=some fs[0]:=Ak (by omega);have v0:=(B0.cell (by exact hbf)).trans (hcf 0 _ m0);have i0:M.i_ fs 0=fs[0]:=by rw[M.i_,m0];rfl
  rw[Nat.add_zero]at v0;rw[zuz];generalize hy:zab p.1 (M.fk (4,a,b,fs) 1)=y at *;obtain⟨y0,y1,y2,y3⟩:=y;have ey:=zjg hy;obtain⟨A6,c6,ri6,-,CY⟩:=ze7 h hrW hi X (j:=1) (by omega) (Aq rfl) (Aq hy) a0 A1 n1 c1 A3 n3 c3;rw[ey,i0];rw[hl2]at NX HW e3;generalize fs[0]=q0 at *;have lbf:bf<W.heap.size:=by omega
  subst hA;clear hfl hok hl hlen ey hy i0 m0 hcf X hr3 hl2 hl3;cases hz2:(decide (y0=2)&&decide (y1=0))
  all_goals
   have IY:=Aq (zhg (b:=y2) (A:=A6) (n:=y3.length) (c:=c6) hz2);have CY:=Aq CY;clear hz2
   go_enter Tryz.func203,Tryz.ntmps203
   go_wp2_with fail;rw[<-HW.out];refine(CY.out W (Aw _ _)).mono ?_;rintro e w1 ⟨rfl,bel⟩;go_wp2_with fail;refine(IY.out _).mono ?_;rintro e w2 ⟨rfl,bel2⟩;have B2:=zaa bel bel2;obtain⟨k0,k1,k2,k3,kf,kl⟩:=NX.later B2;replace v0:=(B2.cell (by exact lbf)).trans v0;go_wp2;go_ret;exact⟨rfl,zaa B0 B2⟩
 ·have hl2:fs.length=2:=hfl (by decide);obtain⟨bf,of_,rfl,hbf,hcf⟩:=zau hr3 (by omega);have m0:fs[0]?=some fs[0]:=Ak (by omega);have v0:=(B0.cell (by exact hbf)).trans (hcf 0 _ m0);have i0:M.i_ fs 0=fs[0]:=by rw[M.i_,m0];rfl
  rw[Nat.add_zero]at v0;rw[zu0];generalize hy:zab p.1 (M.fk (16,a,b,fs) 1)=y at *;obtain⟨y0,y1,y2,y3⟩:=y;have ey:=zjf hy;obtain⟨A6,c6,ri6,-,CY⟩:=ze7 h hrW hi X (j:=1) (by omega) (Aq rfl) (Aq hy) a0 A1 n1 c1 A3 n3 c3;rw[ey,i0];rw[hl2]at NX HW e3;generalize fs[0]=q0 at *;have lbf:bf<W.heap.size:=by omega
  subst hA;clear hfl hok hl hlen ey hy i0 m0 hcf X hr3 hl2 hl3;have CY:=Aq CY;cases hz2:decide (y0=2)
  ·have IY:=Aq (ze8 (a:=y1) (b:=y2) (A:=A6) (n:=y3.length) (c:=c6) hz2);clear hz2
   go_enter Tryz.func203,Tryz.ntmps203
   go_wp2_with fail;rw[<-HW.out];refine(CY.out W (Aw _ _)).mono ?_;rintro e w1 ⟨rfl,bel⟩;go_wp2_with fail;refine(IY.out _).mono ?_;rintro e w2 ⟨rfl,bel2⟩;go_wp2;go_ret;exact⟨rfl,zaa B0 (zaa bel bel2)⟩
  have IY:=Aq (ze8 (a:=y1) (b:=y2) (A:=A6) (n:=y3.length) (c:=c6) hz2);clear hz2
  by_cases hp:0<y1
  ·rw[show (true&&decide (0<y1))=true by simpa using hp,if_pos rfl]
   go_enter Tryz.func203,Tryz.ntmps203
   go_wp2_with fail;rw[<-HW.out];refine(CY.out W (Aw _ _)).mono ?_;rintro e w1 ⟨rfl,bel⟩;go_wp2_with fail;refine(IY.out _).mono ?_;rintro e w2 ⟨rfl,bel2⟩;have B2:=zaa bel bel2;obtain⟨z0,z1,z2,z3,zf,zl⟩:=PX.later B2;go_wp2_with fail;refine(CY.out _ B2).mono ?_;rintro e w3 ⟨rfl,bel3⟩;have B3:=zaa B2 bel3;obtain⟨k0,k1,k2,k3,kf,kl⟩:=NX.later B3;replace v0:=(B3.cell (by exact lbf)).trans v0;clear z0 z1 z2 z3 zf;go_wp2_with fail;rw[zic];go_wp2;go_ret;exact⟨rfl,zaa B0 B3⟩
  rw[show (true&&decide (0<y1))=false by simpa using hp,if_neg (by decide)]
  go_enter Tryz.func203,Tryz.ntmps203
  go_wp2_with fail;rw[<-HW.out];refine(CY.out W (Aw _ _)).mono ?_;rintro e w1 ⟨rfl,bel⟩;go_wp2_with fail;refine(IY.out _).mono ?_;rintro e w2 ⟨rfl,bel2⟩;have B2:=zaa bel bel2;obtain⟨z0,z1,z2,z3,zf,zl⟩:=PX.later B2;go_wp2_with fail;refine(CY.out _ B2).mono ?_;rintro e w3 ⟨rfl,bel3⟩;have B3:=zaa B2 bel3;clear z0 z1 z2 z3 zf;go_wp2_with fail;rw[zic];go_wp2;go_ret;exact⟨rfl,zaa B0 B3⟩
 ·have q:=zu3 h a0 A1 n1 c1 A2 n2 c2 A3 n3 c3 i hr hi X.out;rw[X.out]at q;exact q
 rw[zu2 hk];obtain⟨q1,q2,q3,q4,q5,q6⟩:=hk;have g1:(k == 5)=false:=by simpa using q1
 have g2:(k == 10)=false:=by simpa using q2
 have g3:(k == 3)=false:=by simpa using q3
 have g4:(k == 4)=false:=by simpa using q4
 have g5:(k == 16)=false:=by simpa using q5
 have g6:(k == 15)=false:=by simpa using q6
 subst hA;clear hfl hok hl hlen
 go_enter Tryz.func203,Tryz.ntmps203
 go_wp2;go_ret;exact⟨rfl,zaa (zar _ _) (zar _ _)⟩
end
end
theorem zu5(a0 a1 a2:Int)(A:Yo)(n c:Nat)(xs:List Int)(At:Yo)(nt ct:Nat)(tb:List (List Int))(Ai:Yo)(ni ci:Nat)(ins:List Int)(w:Yw)(ht:RS tS w w.heap.size (.slice At nt ct) tb)(htb:zbr tb=true)(hi:RI w w.heap.size Ai ni ins)
 (hok:zaj (a0,a1,a2,xs) nt=true) (hk8:zam M.k8 a0=true) (hil:ins.length=zch a0) (hia:ins.all M.smp=true) :
 Calls Tryz.prog 239 #[.agg #[.int .i64 a0,.int .i64 a1,.int .i64 a2,.slice A n c],.slice At nt ct,.slice Ai ni ci] w fun e w'=>e=.returned (.int .i64 (zah (a0,a1,a2,xs) tb ins []))/\Below w.heap.size w w':=by
 obtain⟨hb5,hb10,hb11,hb13,-⟩:=zfp hok;have hnt:tb.length=nt:=ht.cap.1;have hn:=hi.len;rcases zi9 hk8 with rfl|rfl|rfl|rfl|rfl|rfl|rfl|rfl
 case inl=>
  obtain⟨i0,i1,rfl⟩:=len2 (show ins.length=2 from hil);simp only[Dk,List.length_nil]at hn;subst hn;obtain⟨bi,oi,rfl,hbi,hci⟩:=zau hi (by omega);have c0:w.cell? ⟨bi,oi,none⟩=some (.int .i64 i0):=hci 0 _ rfl;have c1:w.cell? ⟨bi,oi+1,none⟩=some (.int .i64 i1):=hci 1 _ rfl;have e0:=zba hia (k:=0) (x:=i0) rfl;have e1:=zba hia (k:=1) (x:=i1) rfl;exact(zne _ _ _ _ _ _ _ _ _ _ _ _ _ w c0 c1 ⟨e0.1,e0.2,e1.1,e1.2⟩).mono fun e w' h=>by simpa [zah,M.i_]using h
 case inr.inl=>
  obtain⟨i0,i1,rfl⟩:=len2 (show ins.length=2 from hil);simp only[Dk,List.length_nil]at hn;subst hn;obtain⟨bi,oi,rfl,hbi,hci⟩:=zau hi (by omega);have c0:w.cell? ⟨bi,oi,none⟩=some (.int .i64 i0):=hci 0 _ rfl;have c1:w.cell? ⟨bi,oi+1,none⟩=some (.int .i64 i1):=hci 1 _ rfl;have e0:=zba hia (k:=0) (x:=i0) rfl;have e1:=zba hia (k:=1) (x:=i1) rfl;exact(znf _ _ _ _ _ _ _ _ _ _ _ _ _ w c0 c1 ⟨e0.1,e0.2,e1.1,e1.2⟩).mono fun e w' h=>by simpa [zah,M.i_]using h
 case inr.inr.inl=>
  obtain⟨i0,rfl⟩:=len1 (show ins.length=1 from hil);simp only[Dk,List.length_nil]at hn;subst hn;obtain⟨bi,oi,rfl,hbi,hci⟩:=zau hi (by omega);have c0:w.cell? ⟨bi,oi,none⟩=some (.int .i64 i0):=hci 0 _ rfl;have e0:=zba hia (k:=0) (x:=i0) rfl;exact(zng _ _ _ _ _ _ _ _ _ _ _ _ w c0 (hb5 rfl) e0).mono fun e w' h=>by simpa [zah,M.i_]using h
 case inr.inr.inr.inl=>
  obtain⟨i0,i1,rfl⟩:=len2 (show ins.length=2 from hil);simp only[Dk,List.length_nil]at hn;subst hn;obtain⟨bi,oi,rfl,hbi,hci⟩:=zau hi (by omega);have c0:w.cell? ⟨bi,oi,none⟩=some (.int .i64 i0):=hci 0 _ rfl;have c1:w.cell? ⟨bi,oi+1,none⟩=some (.int .i64 i1):=hci 1 _ rfl;have e0:=zba hia (k:=0) (x:=i0) rfl;have e1:=zba hia (k:=1) (x:=i1) rfl;exact(znh _ _ _ _ _ _ _ _ _ _ _ _ _ w c0 c1 ⟨e0.1,e0.2,e1.1,e1.2⟩).mono fun e w' h=>by simpa [zah,M.i_]using h
 case inr.inr.inr.inr.inl=>
  obtain⟨i0,rfl⟩:=len1 (show ins.length=1 from hil);simp only[Dk,List.length_nil]at hn;subst hn;obtain⟨bi,oi,rfl,hbi,hci⟩:=zau hi (by omega);have c0:w.cell? ⟨bi,oi,none⟩=some (.int .i64 i0):=hci 0 _ rfl;have e0:=zba hia (k:=0) (x:=i0) rfl;exact(zni _ _ _ _ _ _ _ _ _ _ _ _ w c0 (hb10 rfl) e0).mono fun e w' h=>by simpa [zah,M.i_]using h
 case inr.inr.inr.inr.inr.inl=>
  obtain⟨i0,rfl⟩:=len1 (show ins.length=1 from hil);simp only[Dk,List.length_nil]at hn;subst hn;obtain⟨bi,oi,rfl,hbi,hci⟩:=zau hi (by omega);have c0:w.cell? ⟨bi,oi,none⟩=some (.int .i64 i0):=hci 0 _ rfl;have e0:=zba hia (k:=0) (x:=i0) rfl;exact(znj _ _ _ _ _ _ _ _ _ _ _ _ w c0 (hb11 rfl) e0).mono fun e w' h=>by simpa [zah,M.i_]using h
 case inr.inr.inr.inr.inr.inr.inl=>
  obtain⟨i0,rfl⟩:=len1 (show ins.length=1 from hil);simp only[Dk,List.length_nil]at hn;subst hn;obtain⟨bi,oi,rfl,hbi,hci⟩:=zau hi (by omega);have c0:w.cell? ⟨bi,oi,none⟩=some (.int .i64 i0):=hci 0 _ rfl;have h13:=hb13 rfl;obtain⟨j,rfl⟩:∃j:Nat,a1=(j:Int):=⟨a1.toNat,by omega⟩;have hjn:j<nt:=by omega
  obtain⟨bt,ot,A1,c1,t,rfl,hbt,X,hct,hrt,-⟩:=zf7 ht (Aq (fun x hx=>by obtain⟨k,hk⟩:=Fk hx;have:=(zg9 htb hk).1;omega)) hjn;obtain⟨htl,-,ht4⟩:=zg9 htb X.out;have hcel:zal tb j=t:=by rw[zal,X.out];rfl
  exact(znk _ _ _ _ _ _ _ _ _ _ _ _ _ _ _ _ _ _ w c0 ⟨rfl,by omega,by omega⟩ hct hrt htl).mono fun e w' h=>by simpa [zah,M.i_,hcel]using h
 case inr.inr.inr.inr.inr.inr.inr=>
  obtain⟨i0,i1,i2,rfl⟩:=len3 (show ins.length=3 from hil);simp only[Dk,List.length_nil]at hn;subst hn;obtain⟨bi,oi,rfl,hbi,hci⟩:=zau hi (by omega);have c0:w.cell? ⟨bi,oi,none⟩=some (.int .i64 i0):=hci 0 _ rfl;have c1:w.cell? ⟨bi,oi+1,none⟩=some (.int .i64 i1):=hci 1 _ rfl;have c2:w.cell? ⟨bi,oi+2,none⟩=some (.int .i64 i2):=hci 2 _ rfl;have e0:=zba hia (k:=0) (x:=i0) rfl;have e1:=zba hia (k:=1) (x:=i1) rfl;have e2:=zba hia (k:=2) (x:=i2) rfl;exact(znl _ _ _ _ _ _ _ _ _ _ _ _ _ _ w c0 c1 c2 ⟨e0.1,e0.2,e1.1,e1.2,e2.1,e2.2⟩).mono fun e w' h=>by simpa [zah,M.i_]using h
theorem zid(w:Yw)(z0 z1 z2 z3 y0 y1 y2 y3 x0 x1 x2 x3:Value)(t t' t'':TypeId):∃W,W=((w.alloc (.cells #[z0,z1,z2,z3] t)).alloc (.cells #[y0,y1,y2,y3] t')).alloc (.cells #[x0,x1,x2,x3] t'')/\Below w.heap.size w W/\W.heap.size=w.heap.size+3/\BX W w.heap.size z0 z1 z2 z3/\BX W (w.heap.size+1) y0 y1 y2 y3/\BX W (w.heap.size+1+1) x0 x1 x2 x3:=by
 obtain⟨V,hV,BV,sV,P,N⟩:=zhf w z0 z1 z2 z3 y0 y1 y2 y3 t t';refine⟨_,rfl,?_,by simp,?_,?_,?_⟩ <;> rw[<-hV]
 ·exact zaa BV (zar _ _)
 ·exact P.later (zar _ _)
 ·exact N.later (zar _ _)
 have:=BX.new V x0 x1 x2 x3 t'';rw[sV]at this;exact this
theorem BX.set{w:Yw}{g:Nat}{z0 z1 z2 z3:Value}(h:BX w g z0 z1 z2 z3)(v0 v1 v2 v3:Value):∃U,U=(((w.setCell ⟨g,0,none⟩ v0).setCell ⟨g,1,none⟩ v1).setCell ⟨g,2,none⟩ v2).setCell ⟨g,3,none⟩ v3/\BX U g v0 v1 v2 v3/\Chg (fun b=>b=g) w U/\U.heap.size=w.heap.size:=by
 obtain⟨U,hU,d0,d1,d2,d3,-,dch,dsz⟩:=box4 h.c0 h.c1 h.c2 h.c3 (h.fr 0) (h.fr 1) (h.fr 2) (h.fr 3) v0 v1 v2 v3;refine⟨U,hU,⟨d0,d1,d2,d3,fun j=>?_,by rw[dsz];exact h.lt⟩,dch,dsz⟩;rw[hU];simp[go_sem,h.fr]
section
theorem zu6{x:Node}{tb:Int}(h:zaj x tb=true)(h1:zam M.k8 x.1=true):x.2.2.2.length=zch x.1:=by
 obtain⟨a0,a1,a2,xs⟩:=x;exact zfq h (by rcases zi9 h1 with e|e|e|e|e|e|e|e <;> (simp only at e;omega))
section
variable {tb:List (List Int)} {p:NO} {R:Nat->Nat} {w:Yw}
theorem zu7(h:M.WP tb p R)(a0:Int)(A1:Yo)(n1 c1:Nat)(A2:Yo)(n2 c2:Nat)(A3:Yo)(n3 c3:Nat)(i:Nat)(ht:RS tS w w.heap.size (.slice A1 n1 c1) tb)(hr:RS tN w w.heap.size (.slice A2 n2 c2) p.1)(hi:i<n2):
 Calls Tryz.prog 199 #[.agg #[.int .i64 a0,.slice A1 n1 c1,.slice A2 n2 c2,.slice A3 n3 c3],.int .i64 i] w fun e w'=>((zcm p.1 (zab p.1 i)=true/\∃(A':Yo) (c':Nat),e=.returned (.tuple #[.agg #[.int .i64 2,.int .i64 (zah (zab p.1 i) tb (zev p.1 (zab p.1 i)) []),.int .i64 0,.slice A' 0 c'],.bool true])/\tS.R w' w'.heap.size [.slice A' 0 c'] [])\/
  (zcm p.1 (zab p.1 i)=false/\e=.returned (.tuple #[.agg #[.int .i64 0,.int .i64 0,.int .i64 0,.slice none 0 0],.bool false])))/\Below w.heap.size w w':=by
 have hl:=hr.cap.1;have hlt:=ht.cap.1;have hlen:=h.len;have RF:=zic;obtain⟨bb,o,k,a,b,A4,c4,fs,hA,hb,X,e0,e1,e2,e3,hr3,hl3⟩:=zd4 h hr hi;obtain⟨W,hW,B0,sW,PX,ZX,NX⟩:=zid w (.int .i64 a0) (.slice A1 n1 c1) (.slice A2 n2 c2) (.slice A3 n3 c3) (.int .i64 0) (.int .i64 0) (.int .i64 0) (.slice none 0 0) (.int .i64 k) (.int .i64 a) (.int .i64 b) (.slice A4 fs.length c4) 67 169 169;have HW:=Aq hW;have hok:=(h.node (i:=i) (by omega)).2;rw[X.out]at hok ⊢;have hins:=zu6 hok;have hi2:(i:Int)<(n2:Int):=by omega
 have hn2:n2<=24:=by omega
 have hrW:=hr.later B0;have htW:=ht.later B0;have hr3W:=hr3.later B0;obtain⟨V,hV⟩:∃V,V=W.alloc (.cells #[.int .i64 3,.int .i64 4,.int .i64 5,.int .i64 9,.int .i64 10,.int .i64 11,.int .i64 13,.int .i64 15] 2):=⟨_,rfl⟩;have BV:Below W.heap.size W V:=by rw[hV];exact zar _ _
 have rl:RI V V.heap.size (some ⟨w.heap.size+1+1+1,0,none⟩) 8 M.k8:=by rw[hV,show w.heap.size+1+1+1=W.heap.size by omega];exact(zi0 W 2 M.k8 _ rfl).more (by simp)
 have HV:=Aq hV;have sV:V.heap.size=W.heap.size+1:=by rw[hV];simp
 have lV:w.heap.size+1+1+1<V.heap.size:=by omega
 have HOK:=Aq hok;have HINS:=Aq hins;clear hW hV hok hins sW sV;have HAS:=Aq (zk6 (some ⟨w.heap.size+1+1+1,0,none⟩) 8 8 M.k8 k V rl (by omega));have PV:=PX.later BV;have ZV:=ZX.later BV;have NV:=NX.later BV;have B1:=zaa B0 BV;cases hm:zam M.k8 k
 ·have RR:=Aq (show zcm p.1 (k,a,b,fs)=false by rw[zcm];simp only[hm,Ez]);rw[hm]at HAS;clear hm;obtain⟨U,hU,ZU,chU,sU⟩:=ZV.set (.int .i64 0) (.int .i64 0) (.int .i64 0) (.slice none 0 0);have HU:=Aq hU;clear hU;obtain⟨z0,z1,z2,z3,zf,zl⟩:=ZV;obtain⟨d0,d1,d2,d3,df,dl⟩:=ZU;have f0:=df 0;have f1:=df 1;have f2:=df 2;have f3:=df 3;have g0:=zf 0;have g1:=zf 1;have g2:=zf 2;have g3:=zf 3;subst hA
  go_enter Tryz.func199,Tryz.ntmps199
  go_wp2_with fail;rw[<-HW.out];rw[<-HV.out];refine HAS.out.mono ?_;rintro e w' ⟨rfl,rfl⟩;clear HV;go_wp2_with fail;rw[<-HU.out];refine Cy (v:=.tuple #[.agg #[.int .i64 0,.int .i64 0,.int .i64 0,.slice none 0 0],.bool false]) (by simp[results,Tryz.results199,go_sem,d0,d1,d2,d3,f0,f1,f2,f3]) rfl ?_;exact⟨.inr ⟨RR.out,rfl⟩,B1.trans (chU.toBelow (fun b (hb:b=_)=>by omega) (by omega))⟩
 have HM:=Aq hm;rw[hm]at HAS;clear hm;have hrV:=hrW.later BV;have htV:=htW.later BV;have hr3V:=hr3W.later BV;have O0:OI 2 V.heap.size (V.alloc (.cells #[] 2)) (.slice (some ⟨V.heap.size,0,none⟩) 0 0) []:=OI.made _ V;subst hA
 go_enter Tryz.func199,Tryz.ntmps199
 go_wp2_with fail;rw[<-HW.out];rw[<-HV.out];refine HAS.out.mono ?_;rintro e w' ⟨rfl,rfl⟩;clear HV;have n3_:=NV.c3;have nlt:=NV.lt;go_wp2_with fail
 go_loopw [7,24] (fun v j wr=>∃t:Nat,j=.int .i64 t/\t<=fs.length/\Hid ((fs.take t).all (fun f=>zb8 p.1 f.toNat)=true)/\OI 2 V.heap.size wr v ((fs.take t).map (fun f=>(zab p.1 f.toNat).2.1))/\Below V.heap.size V wr) (fun _ j _=>fs.length-(intOf j).toNat)
 case atStart=>exact⟨0,rfl,by omega,Aq rfl,O0,zar _ _⟩
 case round=>
  obtain⟨t,rfl,htl,HT,own,Bw⟩:=hrel;have sw:=Bw.size
  by_cases hlt2:t<fs.length
  ·obtain⟨f,g1,g2,g3,g4⟩:=h.inpt (by omega) X.out hlt2;generalize hy:zab p.1 f=y at *;obtain⟨y0,y1,y2,y3⟩:=y;have hisc:=zjf hy;have G1:=Aq g1;obtain⟨A5,c5,ri5,-,CX⟩:=ze7 h hrV hi X hlt2 (Aq g3) (Aq hy) a0 A1 n1 c1 A3 n3 c3;have CX:=Aq CX;have HY:=Aq hy;obtain⟨z0,z1,z2,z3,zf,zl⟩:=PV.later Bw;have hlt3:(t:Int)<(fs.length:Int):=(by omega);clear HW hr3 hr3W hr hrW ht htW e0 e1 e2 e3 B0 g1 g2 g3 g4;cases hz:decide (y0=2)
   ·have RR:=Aq (show zcm p.1 (k,a,b,fs)=false by
     rw[zcm,Bool.and_eq_false_iff]
     right
     rw[List.all_eq_false];exact⟨(f:Int),Eg G1.out,by rw[Fq,hisc,hz];decide⟩)
    have IC:=Aq (ze8 (a:=y1) (b:=y2) (A:=A5) (n:=y3.length) (c:=c5) hz);clear hz hisc hy;go_wp2_with fail;refine(CX.out wr Bw).mono ?_;rintro e w1 ⟨rfl,bel⟩;go_wp2_with fail;refine(IC.out _).mono ?_;rintro e w2 ⟨rfl,bel2⟩;have B2:=zaa (zaa Bw bel) bel2;have Z2:=ZV.later B2;obtain⟨U,hU,ZU,chU,sU⟩:=Z2.set (.int .i64 0) (.int .i64 0) (.int .i64 0) (.slice none 0 0);have HU:=Aq hU;obtain⟨q0,q1,q2,q3,qf,ql⟩:=Z2;obtain⟨d0,d1,d2,d3,df,dl⟩:=ZU;have f0:=df 0;have f1:=df 1;have f2:=df 2;have f3:=df 3;have r0:=qf 0;have r1:=qf 1;have r2:=qf 2;have r3:=qf 3;clear hU z0 z1 z2 z3 zf sU;go_wp2_with fail;rw[<-HU.out];refine Cy (v:=.tuple #[.agg #[.int .i64 0,.int .i64 0,.int .i64 0,.slice none 0 0],.bool false]) (by simp[results,Tryz.results199,go_sem,d0,d1,d2,d3,f0,f1,f2,f3]) rfl ?_;exact⟨.inr ⟨RR.out,rfl⟩,B1.trans ((B2.mono (by omega)).trans (chU.toBelow (fun b (hb:b=_)=>by omega) (by omega)))⟩
   have IC:=Aq (ze8 (a:=y1) (b:=y2) (A:=A5) (n:=y3.length) (c:=c5) hz)
   have HT2:=Aq (show (fs.take (t+1)).all (fun f=>zb8 p.1 f.toNat)=true by
    rw[List.take_add_one,G1.out,List.all_append,HT.out];simp[hisc,hz])
   have HE:=Aq (show (fs.take (t+1)).map (fun f=>(zab p.1 f.toNat).2.1)=(fs.take t).map (fun f=>(zab p.1 f.toNat).2.1)++[y1]by
    rw[List.take_add_one,G1.out,List.map_append];simp[hy])
   have hk1:((fs.take t).map (fun f=>(zab p.1 f.toNat).2.1)).length<=1000000000:=(by rw[Ff,Ey];omega);clear hz hisc hy;go_wp2_with fail;refine(CX.out wr Bw).mono ?_;rintro e w1 ⟨rfl,bel⟩;go_wp2_with fail;refine(IC.out _).mono ?_;rintro e w2 ⟨rfl,bel2⟩;have B2:=zaa (zaa Bw bel) bel2;have own2:=own.below (zaa bel bel2);obtain⟨q0,q1,q2,q3,qf,ql⟩:=PV.later B2;clear z0 z1 z2 z3 zf;go_wp2_with fail;refine(CX.out w2 B2).mono ?_;rintro e w3 ⟨rfl,bel3⟩;have B3:=zaa B2 bel3;have own3:=own2.below bel3;have s3:=B3.size;go_wp2_with (at_builtin;refine zf5 zbu rfl _ _ rfl own3 rfl rfl rfl (by unfold maxLen;omega) (by omega) s3 ?_;intro v1 w4 own4 gr4 bel4);go_roundw
   case rel=>
    exact⟨t+1,by go_num,by omega,HT2,by rw[HE.out];exact OI.push own4,B3.trans bel4⟩
   case measure=>simp[intOf];omega
  obtain rfl:t=fs.length:=by omega
  have hT:=HT.out;rw[List.take_length]at hT own
  have hC:zcm p.1 (k,a,b,fs)=true:=by
   rw[zcm,Cx];exact⟨HM.out,hT⟩
  have HC:=Aq hC;have hcin:zev p.1 (k,a,b,fs)=fs.map (fun f=>(zab p.1 f.toNat).2.1):=rfl;rw[<-hcin]at own;have hia:=zn3 h hC;have hil:(zev p.1 (k,a,b,fs)).length=zch k:=by rw[hcin,Ff];exact HINS.out HM.out
  obtain⟨A9,c9,rfl,rv⟩:=own.shape;have CO:=Aq (zu5 k a b A4 fs.length c4 fs A1 n1 c1 tb A9 _ c9 _ wr (htV.later Bw) h.tabs rv (by rw[<-hlt];exact HOK.out) HM.out hil hia);obtain⟨vv,hvv⟩:∃vv,zah (k,a,b,fs) tb (zev p.1 (k,a,b,fs)) []=vv:=⟨_,rfl⟩;rw[hvv]at CO;have HVV:=Aq hvv;clear hvv;obtain⟨q0,q1,q2,q3,qf,ql⟩:=PV.later Bw;obtain⟨k0,k1,k2,k3,kf,kl⟩:=NV.later Bw;clear hT hC hcin hia hil HW hr3 hr3W hr hrW ht htW e0 e1 e2 e3 B0;go_wp2_with fail;refine CO.out.mono ?_;rintro e w1 ⟨rfl,bel⟩;go_wp2_with fail;refine(zon _ _).mono ?_;rintro e w2 ⟨A7,c7,rfl,rz,bel2⟩;have B2:=zaa (zaa Bw bel) bel2;have Z2:=ZV.later B2;obtain⟨U,hU,ZU,chU,sU⟩:=Z2.set (.int .i64 2) (.int .i64 vv) (.int .i64 0) (.slice A7 0 c7);have HU:=Aq hU;have sB2:=B2.size;have hbU:Below w.heap.size w2 U:=chU.toBelow (fun b (hb:b=_)=>by omega) (by omega);have hcap:=(tS_R.1 rz).cap;obtain⟨g0,g1,g2,g3,gf,gl⟩:=Z2;obtain⟨d0,d1,d2,d3,df,dl⟩:=ZU;have f0:=df 0;have f1:=df 1;have f2:=df 2;have f3:=df 3;have r0:=gf 0;have r1:=gf 1;have r2:=gf 2;have r3:=gf 3;clear hU q0 q1 q2 q3 qf k0 k1 k2 k3 kf sU;go_wp2_with fail;rw[<-HU.out];refine Cy (v:=.tuple #[.agg #[.int .i64 2,.int .i64 vv,.int .i64 0,.slice A7 0 c7],.bool true]) (by simp[results,Tryz.results199,go_sem,d0,d1,d2,d3,f0,f1,f2,f3]) rfl ?_;exact⟨.inl ⟨HC.out,A7,c7,by rw[HVV.out],tS_R.2 (RS.of_ri (RI.nil _ _ _) hcap.2.1 hcap.2.2)⟩,B1.trans ((B2.mono (by omega)).trans hbU)⟩
end
end
section
open Go
section
variable {P:Program} {ops:Array Oper} {md:Region.Mode} {D:Yw->Prop}
inductive Tw where
 | rest
 | one (b:Nat) (t:Tw)
 | two (b:Nat) (t:Tw) (b':Nat) (t':Tw)
 | first (i:Nat) (t:Tw)
 | load (i:Nat) (t:Tw)
def anyD (P:Program) (md:Region.Mode) (ops:Array Oper) (D:Yw->Prop) (T:List Nat) (Q:Exit->Act->Yw->Prop):Nat->Array Bool->Act->Yw->Prop
 | 0,listed,a,w=>D w/\Region.ready md ops listed=[]/\Q .normal a w
 | f+1,listed,a,w=>D w/\Region.ready md ops listed≠[]/\∀i∈Region.ready md ops listed,
  (T.contains i=true->wpOp P ops Q i (wpAny P md ops Q f (listed.setIfInBounds i true)) a w)/\(T.contains i=false->wpOp P ops noX i (anyD P md ops D T Q f (listed.setIfInBounds i true)) a w)
theorem zu8{T:List Nat}{Q:Exit->Act->Yw->Prop}:∀{f:Nat} {listed:Array Bool} {a:Act} {w:Yw},anyD P md ops D T Q f listed a w->D w
 | 0,_,_,_,h=>h.1
 | _+1,_,_,_,h=>h.1
theorem zu9{T:List Nat}{Q:Exit->Act->Yw->Prop}:∀(f:Nat) (listed:Array Bool) (a:Act) (w:Yw),anyD P md ops D T Q f listed a w->wpAny P md ops Q f listed a w:=by
 intro f
 induction f with
 | zero=>intro listed a w h;exact⟨h.2.1,h.2.2⟩
 | succ f ih=>
  intro listed a w h;refine⟨fun h0=>absurd h0 h.2.1,fun i hi=>?_⟩;cases hT:T.contains i with
  | true=>exact(h.2.2 i hi).1 hT
  | false=>exact zms (wpOp_mono (fun a' w' h'=>ih _ a' w' h') ((h.2.2 i hi).2 hT))
theorem zoo{T:List Nat}{Q:Exit->Act->Yw->Prop}{i:Nat}{oi:Oper}{v:Value}(hi:ops[i]?=some oi)(hsel:Region.noSelect ops=true)
 (hwait:∀t,T.contains t=true->zdg md ops ops.size t i=true) (hTi:T.contains i=false) :
 ∀(f:Nat) (listed:Array Bool) (a:Act) (w:Yw),Closed md ops listed->
  (∀j oj,ops[j]?=some oj->j≠i->listed.getD j true=false->(∀e∈oj.after,Region.binds md e=true->e.on≠i)->oi.apart ops oj=true)->
  i∈Region.ready md ops listed->YieldsD P ops D oi v a->D w->
  anyD P md ops D T Q f (listed.setIfInBounds i true) (a.put oi.dst v) w->anyD P md ops D T Q (f+1) listed a w:=by
 have late:∀(listed:Array Bool),Closed md ops listed->listed.getD i true=false->∀j∈Region.ready md ops listed,T.contains j=false:=by
  intro listed hcl hun j hj;cases hT:T.contains j with
  | false=>rfl
  | true=>
   obtain⟨_,oj,hoj,hall⟩:=mem_ready.1 hj;have:=zmt hcl ops.size j i oj hoj hall (hwait j hT);rw[getD_both hun]at this;cases this
 intro f
 induction f with
 | zero=>
  intro listed a w hcl _ hr hy hD H;refine⟨hD,fun h=>(by rw[h]at hr;cases hr),fun j hj=>?_⟩;have hTj:=late listed hcl (mem_ready.1 hr).1 j hj;refine⟨fun h=>(by rw[hTj]at h;cases h),fun _=>?_⟩
  by_cases hji:j=i
  ·subst hji;exact hy.wpOp hi hD H
  ·have:=ready_mono hj hji;rw[H.2.1]at this;cases this
 | succ f ih=>
  intro listed a w hcl hfree hr hy hD H;refine⟨hD,fun h=>(by rw[h]at hr;cases hr),fun j hj=>?_⟩;have hTj:=late listed hcl (mem_ready.1 hr).1 j hj;refine⟨fun h=>(by rw[hTj]at h;cases h),fun _=>?_⟩
  by_cases hji:j=i
  ·subst hji;exact hy.wpOp hi hD H
  obtain⟨hjun,oj,hoj,hall⟩:=mem_ready.1 hj
  have hnot:∀e∈oj.after,Region.binds md e=true->e.on≠i:=fun e he hb heq=>by
   have h1:=hall e he hb;rw[heq,getD_both (mem_ready.1 hr).1]at h1;cases h1
  have h2:=zmr hoj (hfree j oj hoj hji hjun hnot) (fun cs b=>Region.noSelect_spec hsel i oi cs b hi) (fun cs b=>Region.noSelect_spec hsel j oj cs b hoj) hy ((H.2.2 j (ready_mono hj hji)).2 hTj);refine wpOp_mono (fun a' w' h3=>?_) h2;obtain⟨h3,h4⟩:=h3;refine ih (listed.setIfInBounds j true) a' w' (hcl.set hj) (fun k ok hk hki hun hno=>hfree k ok hk hki ?_ hno) (ready_mono hr (Ne.symm hji)) h3 (zu8 h4) ?_
  ·by_cases hjk:j=k
   ·subst hjk;exact hjun
   rwa [getD_set_ne true hjk]at hun
  rw[Array.setIfInBounds_comm _ _ hji];exact h4
theorem zop{T:List Nat}{Q:Exit->Act->Yw->Prop}(hQ:∀c a w,Q (.panic c) a w->False){i:Nat}{oi:Oper}{v:Value}(hi:ops[i]?=some oi)(hsel:Region.noSelect ops=true)(hTi:T.contains i=false):
 ∀(f:Nat) (listed:Array Bool) (a:Act) (w:Yw),
  (∀j oj,ops[j]?=some oj->j≠i->listed.getD j true=false->(∀e∈oj.after,Region.binds md e=true->e.on≠i)->oi.apart ops oj=true)->
  i∈Region.ready md ops listed->Yields P ops oi v a->
  anyD P md ops D T Q f (listed.setIfInBounds i true) (a.put oi.dst v) w->anyD P md ops D T Q (f+1) listed a w:=by
 intro f
 induction f with
 | zero=>
  intro listed a w _ hr hy H;refine⟨H.1,fun h=>(by rw[h]at hr;cases hr),fun j hj=>?_⟩
  by_cases hji:j=i
  ·subst hji;exact⟨fun h=>(by rw[hTi]at h;cases h),fun _=>hy.wpOp hi H⟩
  ·have:=ready_mono hj hji;rw[H.2.1]at this;cases this
 | succ f ih=>
  intro listed a w hfree hr hy H;refine⟨H.1,fun h=>(by rw[h]at hr;cases hr),fun j hj=>?_⟩
  by_cases hji:j=i
  ·subst hji;exact⟨fun h=>(by rw[hTi]at h;cases h),fun _=>hy.wpOp hi H⟩
  obtain⟨hjun,oj,hoj,hall⟩:=mem_ready.1 hj
  have hnot:∀e∈oj.after,Region.binds md e=true->e.on≠i:=fun e he hb heq=>by
   have h1:=hall e he hb;rw[heq,getD_both (mem_ready.1 hr).1]at h1;cases h1
  have hap:=hfree j oj hoj hji hjun hnot
  have hfree2:∀k ok,ops[k]?=some ok->k≠i->(listed.setIfInBounds j true).getD k true=false->(∀e∈ok.after,Region.binds md e=true->e.on≠i)->oi.apart ops ok=true:=fun k ok hk hki hun hno=>hfree k ok hk hki (by
   by_cases hjk:j=k
   ·subst hjk;exact hjun
   rwa [getD_set_ne true hjk]at hun) hno
  have si:=fun cs b=>Region.noSelect_spec hsel i oi cs b hi
  have sj:=fun cs b=>Region.noSelect_spec hsel j oj cs b hoj
  refine⟨fun hTj=>?_,fun hTj=>?_⟩
  ·have h2:=wpOp_put hoj hap si sj (fun c a w h=>(hQ c _ w h).elim) hy ((H.2.2 j (ready_mono hj hji)).1 hTj);refine wpOp_mono (fun a' w' h3=>?_) h2;refine wpAny_first hi (Region.noSelect_spec hsel) (fun c a w h=>(hQ c _ w h).elim) _ _ a' w' hfree2 (ready_mono hr (Ne.symm hji)) h3.1 ?_;rw[Array.setIfInBounds_comm _ _ hji];exact h3.2
  have h2:=wpOp_put (Q:=noX) hoj hap si sj (fun c a w h=>h.elim) hy ((H.2.2 j (ready_mono hj hji)).2 hTj);refine wpOp_mono (fun a' w' h3=>?_) h2;refine ih (listed.setIfInBounds j true) a' w' hfree2 (ready_mono hr (Ne.symm hji)) h3.1 ?_;rw[Array.setIfInBounds_comm _ _ hji];exact h3.2
def zoq (T R:List Nat):Bool:=match R with
 | []=>true
 | r::_=>T.contains r
def zc1 (md:Region.Mode) (ops:Array Oper) (T R:List Nat):Nat->Tw->Array Bool->Bool
 | 0,.rest,listed=>zeq md ops R listed&&zoq T R
 | m+1,.one b t,listed=>decide (Region.ready md ops listed=[b])&&!T.contains b&&zc1 md ops T R m t (listed.setIfInBounds b true)
 | m+1,.two b t b' t',listed=>decide (Region.ready md ops listed=[b,b'])&&!T.contains b&&!T.contains b'&&zc1 md ops T R m t (listed.setIfInBounds b true)&&zc1 md ops T R m t' (listed.setIfInBounds b' true)
 | m+1,.first i t,listed=>(Region.ready md ops listed).contains i&&Region.free md ops listed i&&!T.contains i&&((ops[i]?).map zcc).getD false&&zc1 md ops T R m t (listed.setIfInBounds i true)
 | m+1,.load i t,listed=>(Region.ready md ops listed).contains i&&Region.free md ops listed i&&!T.contains i&&T.all (fun t=>zdg md ops ops.size t i)&&((ops[i]?).map zcc).getD false&&zc1 md ops T R m t (listed.setIfInBounds i true)
 | _,_,_=>false
def seqW (P:Program) (l:List Oper) (D:Yw->Prop) (Q:Exit->Act->Yw->Prop) (lr:List Oper):Tw->Act->Yw->Prop
 | .rest,a,w=>wpList P l.toArray Q lr a w
 | .one b t,a,w=>match l[b]? with
  | some o=>wpList P l.toArray (fun x a' w'=>x=.normal/\D w'/\seqW P l D Q lr t a' w') [o] a w
  | none=>False
 | .two b t b' t',a,w=>(match l[b]? with
  | some o=>wpList P l.toArray (fun x a' w'=>x=.normal/\D w'/\seqW P l D Q lr t a' w') [o] a w
  | none=>False)/\(match l[b']? with
  | some o=>wpList P l.toArray (fun x a' w'=>x=.normal/\D w'/\seqW P l D Q lr t' a' w') [o] a w
  | none=>False)
 | .first i t,a,w=>match l[i]? with
  | some o=>wpQuiet P l.toArray (fun _=>True) (fun a'=>seqW P l D Q lr t a' w) [o] a
  | none=>False
 | .load i t,a,w=>match l[i]? with
  | some o=>wpQuiet P l.toArray D (fun a'=>seqW P l D Q lr t a' w) [o] a
  | none=>False
theorem zva{l:List Oper}{i:Nat}{o:Oper}{a:Act}{K:Act->Prop}(hi:l[i]?=some o)(hp:zcc o=true)(h:wpQuiet P l.toArray (fun _=>True) K [o] a):∃v,Yields P l.toArray o v a/\K (a.put o.dst v):=by
 have hi':l.toArray[i]?=some o:=by simpa using hi
 have hq:qOp P l.toArray (fun _=>True) i (wpQuiet P l.toArray (fun _=>True) K []) a:=by unfold qOp;simp only[hi'];exact h
 obtain⟨v,hy,hK⟩:=yieldsIn_of_qOp hi' hq;refine⟨v,?_,hK⟩;rcases hy with⟨hw,h1⟩|⟨hw,rfl⟩
 ·exact .inl ⟨hw,fun w=>YieldsD.of_quiet hp h1 w trivial⟩
 exact .inr ⟨hw,rfl⟩
theorem zvb{l:List Oper}{T R:List Nat}{lr:List Oper}{Q:Exit->Act->Yw->Prop}(hsel:Region.noSelect l.toArray=true)(hQ:∀c a w,Q (.panic c) a w->False)(hlr:lr.map some=R.map (l.toArray[·]?)):
 ∀(m:Nat) (t:Tw) (listed:Array Bool) (a:Act) (w:Yw),Closed md l.toArray listed->zc1 md l.toArray T R m t listed=true->D w->seqW P l D Q lr t a w->anyD P md l.toArray D T Q (m+R.length) listed a w:=by
 intro m
 induction m with
 | zero=>
  intro t listed a w hc hB hD h;cases t with
  | rest=>
   simp only[zc1,Cx]at hB;have h2:=zmu R lr listed a w hlr hB.1 h;rw[Nat.zero_add];cases R with
   | nil=>exact⟨hD,h2.1,h2.2⟩
   | cons r rs=>
    have hr:=hB.1;simp only[zeq,Cx,Dg]at hr;refine⟨hD,by rw[hr.1];simp,fun i hi=>⟨fun _=>h2.2 i hi,fun hT=>?_⟩⟩;rw[hr.1]at hi;obtain rfl:i=r:=by simpa using hi
    have:=hB.2;simp only[zoq]at this;rw[this]at hT;cases hT
  | one b t=>simp[zc1]at hB
  | two b t b' t'=>simp[zc1]at hB
  | first i t=>simp[zc1]at hB
  | load i t=>simp[zc1]at hB
 | succ m ih=>
  intro t listed a w hc hB hD h;rw[show m+1+R.length=(m+R.length)+1 by omega];cases t with
  | rest=>simp[zc1]at hB
  | one b t=>
   simp only[zc1,Cx,Dg,Bool.not_eq_true']at hB;refine⟨hD,by rw[hB.1.1];simp,fun i hi=>?_⟩;have hi0:=hi;rw[hB.1.1]at hi;obtain rfl:i=b:=by simpa using hi
   exact⟨fun hT=>(by rw[hB.1.2]at hT;cases hT),fun _=>wpOp_mono (fun a' w' h'=>ih t _ a' w' (hc.set hi0) hB.2 h'.1 h'.2) (zg4 (K:=fun a' w'=>D w'/\seqW P l D Q lr t a' w') h)⟩
  | two b t b' t'=>
   simp only[zc1,Cx,Dg,Bool.not_eq_true']at hB;obtain⟨⟨⟨⟨g1,g2⟩,g3⟩,g4⟩,g5⟩:=hB;refine⟨hD,by rw[g1];simp,fun i hi=>?_⟩;have hi0:=hi;rw[g1]at hi;have hi':i=b\/i=b':=(by simpa using hi);rcases hi' with rfl|rfl
   ·exact⟨fun hT=>(by rw[g2]at hT;cases hT),fun _=>wpOp_mono (fun a' w' h'=>ih t _ a' w' (hc.set hi0) g4 h'.1 h'.2) (zg4 (K:=fun a' w'=>D w'/\seqW P l D Q lr t a' w') h.1)⟩
   ·exact⟨fun hT=>(by rw[g3]at hT;cases hT),fun _=>wpOp_mono (fun a' w' h'=>ih t' _ a' w' (hc.set hi0) g5 h'.1 h'.2) (zg4 (K:=fun a' w'=>D w'/\seqW P l D Q lr t' a' w') h.2)⟩
  | first i t=>
   simp only[zc1,Cx,Bool.not_eq_true']at hB;obtain⟨⟨⟨⟨g1,g2⟩,g3⟩,g4⟩,g5⟩:=hB;cases ho:l[i]? with
   | none=>simp[ho]at g4
   | some o=>
    have ho':l.toArray[i]?=some o:=(by simpa using ho);simp only[ho',Option.map_some,Option.getD_some]at g4;simp only[seqW,ho]at h;obtain⟨v,hy,hK⟩:=zva ho g4 h;exact zop hQ ho' hsel g3 _ listed a w (Region.free_spec ho' g2) (by simpa using g1) hy (ih t _ _ w (hc.set (by simpa using g1)) g5 hD hK)
  | load i t=>
   simp only[zc1,Cx,Bool.not_eq_true']at hB;obtain⟨⟨⟨⟨⟨g1,g2⟩,g3⟩,g6⟩,g4⟩,g5⟩:=hB;cases ho:l[i]? with
   | none=>simp[ho]at g4
   | some o=>
    have ho':l.toArray[i]?=some o:=(by simpa using ho);simp only[ho',Option.map_some,Option.getD_some]at g4;simp only[seqW,ho]at h;have hq:qOp P l.toArray D i (wpQuiet P l.toArray D (fun a'=>seqW P l D Q lr t a' w) []) a:=(by unfold qOp;simp only[ho'];exact h);obtain⟨v,hy,hK⟩:=yieldsIn_of_qOp ho' hq
    have hy2:YieldsD P l.toArray D o v a:=by
     rcases hy with⟨hw,h1⟩|⟨hw,rfl⟩
     ·exact .inl ⟨hw,YieldsD.of_quiet g4 h1⟩
     exact .inr ⟨hw,rfl⟩
    have g1':i∈Region.ready md l.toArray listed:=(by simpa using g1);exact zoo ho' hsel (fun t ht=>Ef.1 g6 t (by simpa using ht)) g3 _ listed a w hc (Region.free_spec ho' g2) g1' hy2 hD (ih t _ _ w (hc.set g1') g5 hD hK)
def zjh (md:Region.Mode) (ops:Array Oper) (T R:List Nat) (m:Nat) (t:Tw):List Nat->Array Bool->Bool
 | [],listed=>zc1 md ops T R m t listed
 | i::is,listed=>(Region.ready md ops listed).contains i&&Region.free md ops listed i&&zjh md ops T R m t is (listed.setIfInBounds i true)
theorem zvc{l:List Oper}{T R:List Nat}{lr:List Oper}{m:Nat}{t:Tw}{Q:Exit->Act->Yw->Prop}(hsel:Region.noSelect l.toArray=true)(hQ:∀c a w,Q (.panic c) a w->False)(hlr:lr.map some=R.map (l.toArray[·]?)):
 ∀(F:List Nat) (k:List Oper) (listed:Array Bool) (a:Act) (w:Yw),k.map some=F.map (l.toArray[·]?)->k.all zcc=true->Closed md l.toArray listed->zjh md l.toArray T R m t F listed=true->
 (∀i∈F,T.contains i=false/\∀t,T.contains t=true->zdg md l.toArray l.toArray.size t i=true)->D w->wpQuiet P l.toArray D (fun a'=>seqW P l D Q lr t a' w) k a->
 anyD P md l.toArray D T Q (F.length+(m+R.length)) listed a w:=by
 intro F
 induction F with
 | nil=>
  intro k listed a w hk _ hc hB _ hD h;obtain rfl:k=[]:=by cases k with|nil=>rfl|cons x xs=>simp at hk
  simp only[List.length_nil,Nat.zero_add];exact zvb hsel hQ hlr m t listed a w hc hB hD h
 | cons i is ih=>
  intro k listed a w hk hp hc hB hW hD h;cases k with
  | nil=>simp at hk
  | cons o k=>
   simp only[List.map_cons,List.cons.injEq]at hk;simp only[Dv,Cx]at hp;simp only[zjh,Cx]at hB;obtain⟨⟨hr,hf⟩,hB2⟩:=hB;have hr':i∈Region.ready md l.toArray listed:=(by simpa using hr);have hq:qOp P l.toArray D i (wpQuiet P l.toArray D (fun a'=>seqW P l D Q lr t a' w) k) a:=(by unfold qOp;simp only[<-hk.1];exact h);obtain⟨v,hy,hK⟩:=yieldsIn_of_qOp hk.1.symm hq
   have hy2:YieldsD P l.toArray D o v a:=by
    rcases hy with⟨hw,h1⟩|⟨hw,rfl⟩
    ·exact .inl ⟨hw,YieldsD.of_quiet hp.1 h1⟩
    exact .inr ⟨hw,rfl⟩
   obtain⟨hTi,hwait⟩:=hW i (by simp);rw[Dk,show is.length+1+(m+R.length)=(is.length+(m+R.length))+1 by omega];exact zoo hk.1.symm hsel hwait hTi _ listed a w hc (Region.free_spec hk.1.symm hf) hr' hy2 hD (ih k _ _ w hk.2 hp.2 (hc.set hr') hB2 (fun j hj=>hW j (by simp[hj])) hD hK)
def zji (md:Region.Mode) (ops:Array Oper) (F:List Nat) (m:Nat) (t:Tw) (T R:List Nat):List Nat->Array Bool->Bool
 | [],listed=>zjh md ops T R m t F listed
 | i::is,listed=>(Region.ready md ops listed).contains i&&Region.free md ops listed i&&!T.contains i&&zji md ops F m t T R is (listed.setIfInBounds i true)
def zjj (md:Region.Mode) (ops:Array Oper) (A F:List Nat) (m:Nat) (t:Tw) (T R:List Nat):Bool:=
 Region.noSelect ops&&decide (A.length+(F.length+(m+R.length))=ops.size)&&T.all (fun t=>F.all fun i=>zdg md ops ops.size t i)&&F.all (fun i=>!T.contains i) &&
  zji md ops F m t T R A (Array.replicate ops.size false)
theorem zvd{l:List Oper}{T R:List Nat}{lr:List Oper}{m:Nat}{t:Tw}{Q:Exit->Act->Yw->Prop}(hsel:Region.noSelect l.toArray=true)(hQ:∀c a w,Q (.panic c) a w->False)(hlr:lr.map some=R.map (l.toArray[·]?)){F:List Nat}{lf:List Oper}(hlf:lf.map some=F.map (l.toArray[·]?))(hpf:lf.all zcc=true)
 (hW:∀i∈F,T.contains i=false/\∀t,T.contains t=true->zdg md l.toArray l.toArray.size t i=true) :
 ∀(A:List Nat) (la:List Oper) (listed:Array Bool) (a:Act) (w:Yw),la.map some=A.map (l.toArray[·]?)->la.all zcc=true->Closed md l.toArray listed->zji md l.toArray F m t T R A listed=true->
 D w->wpQuiet P l.toArray (fun _=>True) (fun a'=>wpQuiet P l.toArray D (fun a'=>seqW P l D Q lr t a' w) lf a') la a->anyD P md l.toArray D T Q (A.length+(F.length+(m+R.length))) listed a w:=by
 intro A
 induction A with
 | nil=>
  intro la listed a w hla _ hc hB hD h;obtain rfl:la=[]:=by cases la with|nil=>rfl|cons x xs=>simp at hla
  rw[List.length_nil,Nat.zero_add];exact zvc hsel hQ hlr F lf listed a w hlf hpf hc hB hW hD h
 | cons i is ih=>
  intro la listed a w hla hp hc hB hD h;cases la with
  | nil=>simp at hla
  | cons o la=>
   simp only[List.map_cons,List.cons.injEq]at hla;simp only[Dv,Cx]at hp;simp only[zji,Cx,Bool.not_eq_true']at hB;obtain⟨⟨⟨hr,hf⟩,hTi⟩,hB2⟩:=hB;have hr':i∈Region.ready md l.toArray listed:=(by simpa using hr);have hq:qOp P l.toArray (fun _=>True) i (wpQuiet P l.toArray (fun _=>True) (fun a'=>wpQuiet P l.toArray D (fun a'=>seqW P l D Q lr t a' w) lf a') la) a:=(by unfold qOp;simp only[<-hla.1];exact h);obtain⟨v,hy,hK⟩:=yieldsIn_of_qOp hla.1.symm hq;rw[Dk,show is.length+1+(F.length+(m+R.length))=(is.length+(F.length+(m+R.length)))+1 by omega]
   have hy2:Yields P l.toArray o v a:=by
    rcases hy with⟨hw,h1⟩|⟨hw,rfl⟩
    ·exact .inl ⟨hw,fun w=>YieldsD.of_quiet hp.1 h1 w trivial⟩
    exact .inr ⟨hw,rfl⟩
   exact zop hQ hla.1.symm hsel hTi _ listed a w (Region.free_spec hla.1.symm hf) hr' hy2 (ih la _ _ w hla.2 hp.2 (hc.set hr') hB2 hD hK)
theorem zor{id:Nat}{Q:Exit->Act->Yw->Prop}{a:Act}{w:Yw}{l:List Oper}(A F:List Nat)(m:Nat)(t:Tw)(T R:List Nat)(hm:P.follows .mixedOrders=true)
 (hB:(zjj .any l.toArray A F m t T R&&(A++F++R).all (fun i=>decide (i<l.length))&&(zak l A).all zcc&&(zak l F).all zcc)=true) (hD:D { w with drawn:=w.drawn+1 })
 (h:wpQuiet P l.toArray (fun _=>True) (fun a'=>wpQuiet P l.toArray D (fun a'=>seqW P l D (fun x a w=>x=.normal/\Q .normal a w) (zak l R) t a' { w with drawn:=w.drawn+1 }) (zak l F) a') (zak l A) a) :
 (Code.region id l.toArray true).wp P Q a w:=by
 simp only[Cx,List.all_append]at hB;obtain⟨⟨⟨hP,⟨hA,hF⟩,hBB⟩,hpA⟩,hpF⟩:=hB;simp only[zjj,Cx,Dg]at hP;obtain⟨⟨⟨⟨hsel,hsz⟩,hre⟩,hFn⟩,hgo⟩:=hP;refine wp_region_any hm ?_;have hc:Closed .any l.toArray (Array.replicate l.toArray.size false):=fun j oj _ hl=>(by rw[getD_replicate_false]at hl;cases hl)
 have h2:=zvd (P:=P) (md:=.any) (D:=D) (T:=T) (Q:=fun x a w=>x=.normal/\Q .normal a w) hsel (fun c a w h=>by cases h.1) (R:=R) (m:=m) (F:=F) (zg5 hBB) (zg5 hF) hpF
  (fun i hi=>⟨by have:=Ef.1 hFn i hi;rw[Bool.not_eq_true']at this;exact this,fun t ht=>Ef.1 (Ef.1 hre t (by simpa using ht)) i hi⟩)
  A (zak l A) _ a _ (zg5 hA) hpA hc hgo hD h
 rw[hsz]at h2;exact zmv (fun x a w hx=>by obtain⟨rfl,h⟩:=hx;exact h) _ _ _ _ (zu9 _ _ _ _ h2)
theorem zct{id:Nat}{Q:Exit->Act->Yw->Prop}{a:Act}{w:Yw}{l:List Oper}(A F:List Nat)(m:Nat)(t:Tw)(T R:List Nat)(hm:P.follows .mixedOrders=true)
 (hB:(zjj .any l.toArray A F m t T R&&(A++F++R).all (fun i=>decide (i<l.length))&&(zak l A).all zcc&&(zak l F).all zcc)=true)
 (h:wpQuiet P l.toArray (fun _=>True) (fun a'=>wpQuiet P l.toArray (fun w'=>∃p:Regrown,w'=Go.Sort.grow (redrawn w p.d) p.os) (fun a'=>seqW P l (fun w'=>∃p:Regrown,w'=Go.Sort.grow (redrawn w p.d) p.os) (fun x a w=>x=.normal/\Q .normal a w) (zak l R) t a' w.drew) (zak l F) a') (zak l A) a) :
 (Code.region id l.toArray true).wp P Q a w:=
 zor (D:=fun w'=>∃p:Regrown,w'=Go.Sort.grow (redrawn w p.d) p.os) A F m t T R hm hB ⟨⟨w.drawn+1,#[]⟩,by rw[Go.Sort.grow_empty];rfl⟩ h
variable {l:List Oper} {Q:Exit->Act->Yw->Prop} {lr:List Oper} {t t':Tw} {b b':Nat} {o o':Oper} {a:Act} {w:Yw}
theorem zai(h:l[b]?=some o)(k:wpList P l.toArray (fun x a' w'=>x=.normal/\D w'/\seqW P l D Q lr t a' w') [o] a w):seqW P l D Q lr (.one b t) a w:=by
 unfold seqW;rw[h];exact k
theorem zjk(h:l[b]?=some o)(h':l[b']?=some o')(k:wpList P l.toArray (fun x a' w'=>x=.normal/\D w'/\seqW P l D Q lr t a' w') [o] a w)
 (k':wpList P l.toArray (fun x a' w'=>x=.normal/\D w'/\seqW P l D Q lr t' a' w') [o'] a w):seqW P l D Q lr (.two b t b' t') a w:=by
 unfold seqW;rw[h,h'];exact⟨k,k'⟩
theorem za6(h:l[b]?=some o)(k:wpQuiet P l.toArray (fun _=>True) (fun a'=>seqW P l D Q lr t a' w) [o] a):seqW P l D Q lr (.first b t) a w:=by
 unfold seqW;rw[h];exact k
theorem zbc(k:wpList P l.toArray Q lr a w):seqW P l D Q lr .rest a w:=k
end
end
section
section
variable {tb:List (List Int)} {p:NO} {R:Nat->Nat} {w:Yw}
theorem zve{w:Yw}{b:Nat}{x:Int}(h:w.cell? ⟨b,0,none⟩=some (.int .i64 x)):tS.R w w.heap.size [.slice (some ⟨b,0,none⟩) 1 1] [x]:=
 tS_R.2 (RS.of_ri ⟨rfl,fun _=>⟨_,rfl,Cj w _ h,fun j u hj=>by
  match j,hj with
  | 0,hj=>simp at hj;subst hj;exact h⟩⟩ (Aj _) (by simp[maxLen]))
theorem zos{w T:Yw}{b n:Nat}{x:Int}(h:w.cell? ⟨b,0,none⟩=some (.int .i64 x))(hb:n<=b)(hT:Chg (fun b=>b<n) w T):tS.R T T.heap.size [.slice (some ⟨b,0,none⟩) 1 1] [x]:=
 zve ((hT.cell (Cj w _ h) (fun(e:b<n)=>by omega)).trans h)
theorem zvf(h:M.WP tb p R)(a0:Int)(A1:Yo)(n1 c1:Nat)(A2:Yo)(n2 c2:Nat)(A3:Yo)(n3 c3:Nat)(i:Nat)(hr:RS tN w w.heap.size (.slice A2 n2 c2) p.1)(hi:i<n2):
 Calls Tryz.prog 205 #[.agg #[.int .i64 a0,.slice A1 n1 c1,.slice A2 n2 c2,.slice A3 n3 c3],.int .i64 i] w fun e w'=>((zdi p.1 (zab p.1 i)=true/\∃(v x:Int) (A':Yo) (c':Nat),zfr p.1 (zab p.1 i)=(5,v,0,[x])/\e=.returned (.tuple #[.agg #[.int .i64 5,.int .i64 v,.int .i64 0,.slice A' 1 c'],.bool true])/\∀T,Chg (fun b=>b<w.heap.size) w' T->tS.R T T.heap.size [.slice A' 1 c'] [x])\/
  (zdi p.1 (zab p.1 i)=false/\e=.returned (.tuple #[.agg #[.int .i64 0,.int .i64 0,.int .i64 0,.slice none 0 0],.bool false])))/\Below w.heap.size w w':=by
 have hl:=hr.cap.1;have hlen:=h.len;have RF:=zic;obtain⟨bb,o,k,a,b,A4,c4,fs,hA,hb,X,e0,e1,e2,e3,hr3,hl3⟩:=zd4 h hr hi;obtain⟨W,hW,B0,sW,PX,ZX,NX⟩:=zid w (.int .i64 a0) (.slice A1 n1 c1) (.slice A2 n2 c2) (.slice A3 n3 c3) (.int .i64 0) (.int .i64 0) (.int .i64 0) (.slice none 0 0) (.int .i64 k) (.int .i64 a) (.int .i64 b) (.slice A4 fs.length c4) 67 169 169;have HW:=Aq hW;have hok:=(h.node (i:=i) (by omega)).2;rw[X.out]at hok ⊢;have hi2:(i:Int)<(n2:Int):=by omega
 have hn2:n2<=24:=by omega
 have hrW:=hr.later B0;have hr3W:=hr3.later B0;have lW:w.heap.size+1+1<W.heap.size:=by omega
 have hfl:=zfq hok;have HLEN:=Aq hl;clear hW sW hok
 have fin:∀w2,Below W.heap.size W w2->∃U,U=(((w2.setCell ⟨w.heap.size+1,0,none⟩ (.int .i64 0)).setCell ⟨w.heap.size+1,1,none⟩ (.int .i64 0)).setCell ⟨w.heap.size+1,2,none⟩ (.int .i64 0)).setCell ⟨w.heap.size+1,3,none⟩ (.slice none 0 0)/\BX w2 (w.heap.size+1) (.int .i64 0) (.int .i64 0) (.int .i64 0) (.slice none 0 0)/\BX U (w.heap.size+1) (.int .i64 0) (.int .i64 0) (.int .i64 0) (.slice none 0 0)/\Below w.heap.size w U:=fun w2 Bw2=>by
  have Z2:=ZX.later Bw2;obtain⟨U,hU,ZU,chU,sU⟩:=Z2.set (.int .i64 0) (.int .i64 0) (.int .i64 0) (.slice none 0 0);have s2:=Bw2.size;exact⟨U,hU,Z2,ZU,(B0.trans (Bw2.mono (by omega))).trans (chU.toBelow (fun b (hb:b=_)=>by omega) (by omega))⟩
 have FIN:=Aq fin;clear fin
 by_cases hk:k=9
 ·subst hk;have hl2:fs.length=2:=hfl (by decide);subst hA;obtain⟨bf,of_,rfl,hbf,hcf⟩:=zau hr3 (by omega);have HCF:=Aq hcf;have lbf:bf<W.heap.size:=by omega
  have n3_:=NX.c3;rw[hl2]at n3_ HW e3;have HL2:=Aq hl2;clear hl2 hfl hcf
  go_enter Tryz.func205,Tryz.ntmps205
  go_wp2_with fail;rw[<-HW.out]
  go_loopw [20] (fun j wr=>∃t:Nat,j=.int .i64 t/\t<=2/\Hid (∀j,j<t->zb8 p.1 (M.fk (9,a,b,fs) j)=false)/\Below W.heap.size W wr) (fun j _=>2-(intOf j).toNat)
  case atStart=>exact⟨0,rfl,by omega,Aq (fun j hj=>by omega),Aw _ _⟩
  case round=>
   obtain⟨t,rfl,ht,H,Bw⟩:=hrel;have sw:=Bw.size
   by_cases hlt:t<2
   ·have hl2:=HL2.out;generalize hy:zab p.1 (M.fk (9,a,b,fs) t)=y at *;obtain⟨y0,y1,y2,y3⟩:=y;have hisc:=zjf hy;obtain⟨A5,c5,ri5,-,CX⟩:=ze7 h hrW hi X (j:=t) (by omega) (Aq rfl) (Aq hy) a0 A1 n1 c1 A3 n3 c3;have CX:=Aq CX
    have HX:=Aq (show ∃x,fs[1-t]?=some x/\M.i_ fs (1-t)=x by
     have:=Ak (show 1-t<fs.length by omega);exact⟨_,this,by rw[M.i_,this];rfl⟩)
    obtain⟨z0,z1,z2,z3,zf,zl⟩:=PX.later Bw;have hlt3:(t:Int)<(2:Int):=(by omega);have hct:((t:Nat):Int)=0\/((t:Nat):Int)=1:=(by omega);have HY:=Aq hy;clear hy HW hl2;cases hz:decide (y0=2)
    ·have HN:=Aq (show ∀j,j<t+1->zb8 p.1 (M.fk (9,a,b,fs) j)=false from fun j hj=>by
      rcases Nat.lt_or_eq_of_le (Nat.le_of_lt_succ hj)with h1|rfl
      ·exact H.out j h1
      rw[hisc,hz])
     have IC:=Aq (ze8 (a:=y1) (b:=y2) (A:=A5) (n:=y3.length) (c:=c5) hz);clear hz hisc;go_wp2_with fail;refine(CX.out wr Bw).mono ?_;rintro e w1 ⟨rfl,bel⟩;go_wp2_with fail;refine(IC.out _).mono ?_;rintro e w2 ⟨rfl,bel2⟩;go_wp2_with fail;go_roundw
     case rel=>exact⟨t+1,by go_num,by omega,HN,zaa Bw (zaa bel bel2)⟩
     case measure=>simp[intOf];omega
    have IC:=Aq (ze8 (a:=y1) (b:=y2) (A:=A5) (n:=y3.length) (c:=c5) hz);obtain⟨xx,hxx,hxi⟩:=HX.out
    have FB:=Aq (show zdi p.1 (9,a,b,fs)=true by
     rw[zdi,Cx,Bool.or_eq_true];refine⟨by simp,?_⟩;rcases(show t=0\/t=1 by omega)with rfl|rfl
     ·exact .inl (hisc.trans hz)
     exact .inr (hisc.trans hz))
    have FN:=Aq (show zfr p.1 (9,a,b,fs)=(5,y1,0,[xx])by
     rw[zfr];rcases(show t=0\/t=1 by omega)with rfl|rfl
     ·rw[if_pos (hisc.trans hz),HY.out,<-hxi]
     rw[if_neg (by rw[H.out 0 (by omega)];decide),HY.out,<-hxi])
    clear hz hisc hxi;go_wp2_with fail;refine(CX.out wr Bw).mono ?_;rintro e w1 ⟨rfl,bel⟩;go_wp2_with fail;refine(IC.out _).mono ?_;rintro e w2 ⟨rfl,bel2⟩;have B2:=zaa Bw (zaa bel bel2);have PB:=PX.later B2;have NB:=NX.later B2;have ZB:=ZX.later B2;rw[HL2.out]at NB;obtain⟨u,hsub,hu1⟩:∃u:Nat,(1:Int)-(t:Int)=(u:Int)/\1-t=u:=⟨1-t,by omega,rfl⟩;have hu2:(u:Int)<(2:Int):=(by omega);rw[hu1]at hxx;have cu:w2.cell? ⟨bf,of_+u,none⟩=some (.int .i64 xx):=(B2.cell (by exact lbf)).trans ((B0.cell (by exact hbf)).trans (HCF.out u xx hxx));have gy0:=Ag PB.c0;have gy1:=Ag PB.c1;have gy2:=Ag PB.c2;have gy3:=Ag PB.c3;have yn:=Ag NB.c3;have yc:=Ag cu;have D2:Below w2.heap.size w2 w2.drew:=zad (Aw _ _) 1;have hd2:w2.drew.heap.size=w2.heap.size:=rfl;clear z0 z1 z2 z3 zf hxx hu1 hct hlt3;go_wp2_with fail
    (refine zct [1,2,5,7,8] [0,6,9,10] 4 (.two 3 (.first 4 (.one 11 (.first 12 .rest))) 11 (.one 3 (.first 4 (.first 12 .rest)))) [13] [13,14] (by kernel_rfl) (by kernel_rfl) ?_;simp only[zak];simp only[List.filterMap,By,Bg];(repeat (go_big_quiet_step (fail)));refine Cv ?_;(repeat (go_big_quiet_step (fail)));refine Cv ?_)
    refine zjk rfl rfl ?_ ?_
    ·go_wp2_with fail;refine(CX.out w2.drew (zaa B2 D2)).mono ?_;rintro e w3 ⟨rfl,bel3⟩;have Bd3:=zaa D2 bel3;go_wp2_with fail;refine⟨Bz Bd3,?_⟩
     (refine za6 rfl ?_;(repeat (go_big_quiet_step (fail)));refine Cv ?_)
     refine zai rfl ?_;obtain⟨U,hU,BU,sU,x0,xf⟩:=zfv w3 (.int .i64 xx) 2;have B4:=zaa Bd3 BU;go_wp2_with fail;rw[<-hU];refine⟨Bz B4,?_⟩
     (refine za6 rfl ?_;(repeat (go_big_quiet_step (fail)));refine Cv ?_)
     refine zbc ?_;have Z4:=ZB.later B4;obtain⟨T,hT,ZT,chT,sT⟩:=Z4.set (.int .i64 5) (.int .i64 y1) (.int .i64 0) (.slice (some ⟨w3.heap.size,0,none⟩) 1 1);have B5:=B0.trans ((zaa B2 B4).mono (by omega));have BT:Below w.heap.size w T:=B5.trans (chT.toBelow (fun b (hb:b=_)=>by omega) (by have:=B5.size;omega));have HB_:w.heap.size<=w3.heap.size:=(by have:=bel3.size;have:=B2.size;omega);have hl1:T.cell? ⟨w3.heap.size,0,none⟩=some (.int .i64 xx):=(chT.cell (by show w3.heap.size<U.heap.size;omega) (fun(e:_=_)=>by have:=bel3.size;have:=B2.size;omega)).trans x0;obtain⟨q0,q1,q2,q3,qf,ql⟩:=Z4;obtain⟨d0,d1,d2,d3,df,dl⟩:=ZT;have f0:=df 0;have f1:=df 1;have f2:=df 2;have f3:=df 3;have r0:=qf 0;have r1:=qf 1;have r2:=qf 2;have r3:=qf 3;have HT:=Aq hT;clear gy0 gy1 gy2 gy3 yn yc hT hU sU x0 xf;go_wp2_with fail;rw[<-HT.out];refine Cy (v:=.tuple #[.agg #[.int .i64 5,.int .i64 y1,.int .i64 0,.slice (some ⟨w3.heap.size,0,none⟩) 1 1],.bool true]) (by simp[results,Tryz.results205,go_sem,d0,d1,d2,d3,f0,f1,f2,f3]) rfl ?_;exact⟨.inl ⟨FB.out,y1,xx,_,_,FN.out,rfl,fun T_ hT_=>zos hl1 HB_ hT_⟩,BT⟩
    obtain⟨U,hU,BU,sU,x0,xf⟩:=zfv w2 (.int .i64 xx) 2;have BD:Below w2.heap.size w2 U.drew:=zad BU 1;replace x0:U.drew.cell? ⟨w2.heap.size,0,none⟩=_:=x0;have sD:w2.heap.size<U.drew.heap.size:=(by show w2.heap.size<U.heap.size;omega);obtain⟨V,hV⟩:∃V,V=U.drew:=⟨_,rfl⟩;rw[<-hV]at x0 BD sD;rw[hU]at hV;go_wp2_with fail;rw[<-hV];clear hV hU BU sU xf;refine⟨Bz BD,zai rfl ?_⟩;go_wp2_with fail;refine(CX.out V (zaa B2 BD)).mono ?_;rintro e w3 ⟨rfl,bel3⟩;have B4:=zaa BD bel3;go_wp2_with fail;refine⟨Bz B4,?_⟩
    (refine za6 rfl ?_;(repeat (go_big_quiet_step (fail)));refine Cv ?_)
    (refine za6 rfl ?_;(repeat (go_big_quiet_step (fail)));refine Cv ?_)
    refine zbc ?_;have Z4:=ZB.later B4;have sB3:=bel3.size;obtain⟨T,hT,ZT,chT,sT⟩:=Z4.set (.int .i64 5) (.int .i64 y1) (.int .i64 0) (.slice (some ⟨w2.heap.size,0,none⟩) 1 1);have B5:=B0.trans ((zaa B2 B4).mono (by omega));have BT:Below w.heap.size w T:=B5.trans (chT.toBelow (fun b (hb:b=_)=>by omega) (by have:=B5.size;omega));have HB_:w.heap.size<=w2.heap.size:=(by have:=B2.size;omega);have hl1:T.cell? ⟨w2.heap.size,0,none⟩=some (.int .i64 xx):=(chT.cell (by show w2.heap.size<w3.heap.size;omega) (fun(e:_=_)=>by have:=B2.size;omega)).trans ((bel3.cell (by exact sD)).trans x0);obtain⟨q0,q1,q2,q3,qf,ql⟩:=Z4;obtain⟨d0,d1,d2,d3,df,dl⟩:=ZT;have f0:=df 0;have f1:=df 1;have f2:=df 2;have f3:=df 3;have r0:=qf 0;have r1:=qf 1;have r2:=qf 2;have r3:=qf 3;have HT:=Aq hT;clear gy0 gy1 gy2 gy3 yn yc hT x0;go_wp2_with fail;rw[<-HT.out];refine Cy (v:=.tuple #[.agg #[.int .i64 5,.int .i64 y1,.int .i64 0,.slice (some ⟨w2.heap.size,0,none⟩) 1 1],.bool true]) (by simp[results,Tryz.results205,go_sem,d0,d1,d2,d3,f0,f1,f2,f3]) rfl ?_;exact⟨.inl ⟨FB.out,y1,xx,_,_,FN.out,rfl,fun T_ hT_=>zos hl1 HB_ hT_⟩,BT⟩
   obtain rfl:t=2:=by omega
   have FB:=Aq (show zdi p.1 (9,a,b,fs)=false by rw[zdi,H.out 0 (by omega),H.out 1 (by omega)];rfl);obtain⟨U,hU,Z2,ZU,BU⟩:=FIN.out wr Bw;have HU:=Aq hU;obtain⟨q0,q1,q2,q3,qf,ql⟩:=Z2;obtain⟨d0,d1,d2,d3,df,dl⟩:=ZU;have f0:=df 0;have f1:=df 1;have f2:=df 2;have f3:=df 3;have r0:=qf 0;have r1:=qf 1;have r2:=qf 2;have r3:=qf 3;clear hU;go_wp2_with fail;rw[<-HU.out];refine Cy (v:=.tuple #[.agg #[.int .i64 0,.int .i64 0,.int .i64 0,.slice none 0 0],.bool false]) (by simp[results,Tryz.results205,go_sem,d0,d1,d2,d3,f0,f1,f2,f3]) rfl ?_;exact⟨.inr ⟨FB.out,rfl⟩,BU⟩
 have FB:=Aq (show zdi p.1 (k,a,b,fs)=false by rw[zdi];simp[hk]);have g:(k == 9)=false:=by simpa using hk
 obtain⟨d0,d1,d2,d3,df,dl⟩:=ZX;have f0:=df 0;have f1:=df 1;have f2:=df 2;have f3:=df 3;clear hfl;subst hA
 go_enter Tryz.func205,Tryz.ntmps205
 go_wp2_with fail;rw[<-HW.out];refine Cy (v:=.tuple #[.agg #[.int .i64 0,.int .i64 0,.int .i64 0,.slice none 0 0],.bool false]) (by simp[results,Tryz.results205,go_sem,d0,d1,d2,d3,f0,f1,f2,f3]) rfl ?_;exact⟨.inr ⟨FB.out,rfl⟩,B0⟩
end
end
end Go.Proofs.YtifeldeikhmckaaGreat
