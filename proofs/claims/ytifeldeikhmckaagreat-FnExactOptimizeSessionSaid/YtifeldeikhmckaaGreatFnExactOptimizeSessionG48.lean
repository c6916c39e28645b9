import Derived.Test.YtifeldeikhmckaaGreatFnExactOptimizeSessionG3
import Derived.Deep.Slices
import Derived.Deep.Fields
import Derived.ChangeSame
import Derived.Lib.SmallJoins
import Derived.Test.YtifeldeikhmckaaGreatFnExactOptimizeSessionG4
import Derived.Test.YtifeldeikhmckaaGreatFnExactOptimizeSessionG14
import Derived.Test.YtifeldeikhmckaaGreatFnExactOptimizeSessionG5
import Derived.Test.YtifeldeikhmckaaGreatFnExactOptimizeSessionG6
import Derived.Test.YtifeldeikhmckaaGreatFnExactOptimizeSessionG7
import Derived.Test.YtifeldeikhmckaaGreatFnExactOptimizeSessionG11
set_option linter.unusedVariables false
set_option linter.unusedSimpArgs false
set_option maxRecDepth 100000
set_option maxHeartbeats 4000000
namespace Go.Proofs.YtifeldeikhmckaaGreat
open Go.RowKit
section
open Go.ChangeShapes Go.WideShapes Go.Deep Go.RowKit
def zbe (P:Program) (T:TypeId) {α:Type} (t:Ty α):Prop:=
 ∀{H:Type} (enc:TypeId×Value->H) (w:Yw) (base:Nat) (spare:Nat->Bool) (held:Bool) (fuel:Nat) (cs:List Value) (d:DataW H×List MemPlace),DataW.trod enc P w base spare held fuel T cs=some d->∃x,t.R w w.heap.size cs x
section
variable {P:Program} {T:TypeId}
theorem zde(h:P.underlying T=some (.int .i64)):zbe P T tI:=fun _ _ _ _ _ _ _ _ ht=>by
 obtain⟨n,hn,_⟩:=DataW.trod_int h ht;exact⟨n,hn⟩
theorem ze3{α:Type}{t:Ty α}{e e':TypeId}(ht:P.underlying T=some (.slice e))(hC:P.cellsOf e=t.s)(he:zbe P e t):zbe P T (t.sl e'):=by
 intro H enc w base spare held fuel cs d h;rcases open_slice ht h with⟨rfl,_⟩|⟨a,len,cap,m,n,D,Pl,rfl,hb,hl,hm,hmm,hx,hi⟩
 ·exact⟨[],_,rfl,RS.nil _ _ _⟩
 have hlm:len<=m:=by rw[hmm];split <;> omega
 have key:∀i,∃p:List Value×α,i<len->t.R w w.heap.size p.1 p.2/\∀j u,p.1[j]?=some u->w.cell? (a.add (i*t.s+j))=some u:=by
  intro i
  by_cases hil:i<len
  ·obtain⟨cs',hc,ht'⟩:=hi i (by omega);rw[hC]at hc;obtain⟨x,hR⟩:=he enc w base spare held n cs' _ ht';obtain⟨_,hcl,hat⟩:=World.cells?_some hc;refine⟨(cs',x),fun _=>⟨hR,fun j u hu=>?_⟩⟩;have hj:j<t.s:=(by rw[<-hcl];exact(List.getElem?_eq_some_iff.1 hu).1);have:=hat j hj;rw[Go.Deep.add_add]at this;rw[this];exact hu
  exact⟨([],t.zero),fun hc=>absurd hc hil⟩
 obtain⟨g,hg⟩:∃g:Nat->List Value×α,∀i,i<len->t.R w w.heap.size (g i).1 (g i).2/\∀j u,(g i).1[j]?=some u->w.cell? (a.add (i*t.s+j))=some u:=⟨fun i=>Classical.choose (key i),fun i=>Classical.choose_spec (key i)⟩
 have hs:∀c∈(List.range len).map (fun i=>(g i).1),c.length=t.s:=by
  intro c hc;obtain⟨i,hi,rfl⟩:=List.mem_map.1 hc;exact t.rlen (hg i (List.mem_range.1 hi)).1
 refine⟨(List.range len).map fun i=>(g i).2,_,rfl,some a,cap,(List.range len).map fun i=>(g i).1,by simp,by simpa using hl,hm,by simp,?_,?_⟩
 ·refine⟨by rw[zia hs];simp,fun hn=>⟨a,rfl,?_,fun j u hu=>?_⟩⟩
  ·have hn':0<len:=(by simpa using hn);have h0:=(hg 0 hn');have hp:=t.pos;obtain⟨u,hu⟩:∃u,(g 0).1[0]?=some u:=⟨_,List.getElem?_eq_getElem (by rw[t.rlen h0.1];exact hp)⟩;have:=World.block_lt_of_cell? _ _ (h0.2 0 u hu);rwa [ze4]at this
  have hj:j<len*t.s:=by have:=(List.getElem?_eq_some_iff.1 hu).1;rw[zia hs]at this;simpa using this
  have hk:j / t.s<len:=Nat.div_lt_of_lt_mul (by rw[Nat.mul_comm];exact hj);have hr:j % t.s<t.s:=Nat.mod_lt _ t.pos;have e0:j / t.s*t.s+j % t.s=j:=by rw[Nat.mul_comm];exact Nat.div_add_mod j t.s
  have hf:=zh9 hs (k:=j / t.s) (c:=(g (j / t.s)).1) (by simp[hk]) (j % t.s) hr;rw[e0,hu]at hf;have:=(hg _ hk).2 (j % t.s) u hf.symm;rwa [e0]at this
 intro k hk hk';simp only[List.length_map,List.length_range]at hk;simp only[List.getElem_map,List.getElem_range];exact(hg k hk).1
theorem zwz{α:Type}{t:Ty α}{w:Yw}{B o n:Nat}{cs:List Value}{x:α}(ho:o=0)(hn:cs.length=n)(h:t.R w B ((cs.drop o).take n) x):t.R w B cs x:=by
 subst ho hn;simpa using h
theorem zoo{α:Type}{t:Ty α}{f0:Field}(hs:P.underlying T=some (.struct #[f0]))(o0:f0.offset=0)(hC:P.cellsOf T=P.cellsOf f0.type)(h0:zbe P f0.type t):zbe P T t:=by
 intro H enc w base spare held fuel cs d h;obtain⟨y0,n,_,hlen,t0⟩:=trod_struct1 hs h;obtain⟨x,hx⟩:=h0 enc w base spare held n _ _ t0;exact⟨x,zwz o0 (by rw[hlen,hC]) hx⟩
theorem zf7{α:Type}{t:Ty α}{fs:Array Field}(hs:P.underlying T=some (.struct fs))
 (hf:∀(w:Yw) (cs:List Value),cs.length=P.cellsOf T->(∀{H:Type} (enc:TypeId×Value->H) (base:Nat) (spare:Nat->Bool) (held:Bool) (n:Nat) (ys:List (DataW H×List MemPlace)),ys.length=fs.size->(∀(i:Nat) (f:Field),fs[i]?=some f->DataW.trod enc P w base spare held n f.type ((cs.drop f.offset).take (P.cellsOf f.type))=ys[i]?)->∃x,t.R w w.heap.size cs x)):zbe P T t:=by
 intro H enc w base spare held fuel cs d h;obtain⟨ys,n,_,_,hlen,hyl,hg⟩:=DataW.trod_struct hs h;exact hf w cs hlen enc base spare held n ys hyl hg
end
theorem zb7{P:Program}{H:Type}{enc:TypeId×Value->H}{w:Yw}{base n i o k:Nat}{spare:Nat->Bool}{held:Bool}{fs:Array Field}{cs:List Value}{ys:List (DataW H×List MemPlace)}{α:Type}{t:Ty α}{f:Field}{e:TypeId}
 (hyl:ys.length=fs.size) (hg:∀(i:Nat) (f:Field),fs[i]?=some f->DataW.trod enc P w base spare held n f.type ((cs.drop f.offset).take (P.cellsOf f.type))=ys[i]?)
 (hi:fs[i]?=some f) (he:f.type=e) (ho:f.offset=o) (hk:P.cellsOf e=k) (h:zbe P e t):∃x,t.R w w.heap.size ((cs.drop o).take k) x:=by
 have h1:=hg i f hi;have hlt:i<ys.length:=by rw[hyl];exact(Array.getElem?_eq_some_iff.1 hi).1
 rw[List.getElem?_eq_getElem hlt,he,ho,hk]at h1;exact h enc w base spare held n _ _ h1
theorem zw0{P:Program}{T:TypeId}{f0 f1:Field}{zero:Int×Int}{enc:Int×Int->List Value}{pos:0<2}{henc:∀x,(enc x).length=2}{h1c:∀x,∀u∈enc x,u.oneCell'=true}
 (hE:∀a b,enc (a,b)=[.int .i64 a,.int .i64 b]) (hs:P.underlying T=some (.struct #[f0,f1])) (h0:P.underlying f0.type=some (.int .i64)) (h1:P.underlying f1.type=some (.int .i64)) (o0:f0.offset=0) (o1:f1.offset=1)
 (k0:P.cellsOf f0.type=1) (k1:P.cellsOf f1.type=1) (hC:P.cellsOf T=2):zbe P T (Ty.flat 2 pos zero enc henc h1c):=
 zf7 hs fun w cs hl {H} enc' base spare held n ys hyl hg=>by
  obtain⟨a,ha⟩:=zb7 (i:=0) hyl hg rfl rfl o0 k0 (zde h0);obtain⟨b,hb⟩:=zb7 (i:=1) hyl hg rfl rfl o1 k1 (zde h1);rw[hC]at hl
  match cs,hl with
  | [u,v],_=>
   refine⟨(a,b),?_⟩;show [u,v]=enc (a,b)
   have ha':[u]=[Value.int .i64 a]:=ha;have hb':[v]=[Value.int .i64 b]:=hb;rw[hE];injection ha' with e1
   injection hb' with e2
   rw[e1,e2]
end
abbrev hPt:Hs (Int×Int):=hI.prod hI
abbrev hC:Hs (List (Int×Int)):=hPt.sl
theorem zh4:zbe Tryz.prog 24 tS:=ze3 Tryz.underlying24 (by kernel_rfl) (zde Tryz.underlying2)
theorem zw1{P:Program}{T:TypeId}{f0 f1 f2 f3 f4:Field}{zero:Clip}{enc:Clip->List Value}{pos:0<5}{henc:∀x,(enc x).length=5}{h1c:∀x,∀u∈enc x,u.oneCell'=true}
 (hE:∀a b c d e,enc (a,b,c,d,e)=[.int .i64 a,.int .i64 b,.int .i64 c,.int .i64 d,.int .i64 e]) (hs:P.underlying T=some (.struct #[f0,f1,f2,f3,f4]))
 (h0:P.underlying f0.type=some (.int .i64)) (h1:P.underlying f1.type=some (.int .i64)) (h2:P.underlying f2.type=some (.int .i64)) (h3:P.underlying f3.type=some (.int .i64)) (h4:P.underlying f4.type=some (.int .i64))
 (o0:f0.offset=0) (o1:f1.offset=1) (o2:f2.offset=2) (o3:f3.offset=3) (o4:f4.offset=4)
 (k0:P.cellsOf f0.type=1) (k1:P.cellsOf f1.type=1) (k2:P.cellsOf f2.type=1) (k3:P.cellsOf f3.type=1) (k4:P.cellsOf f4.type=1) (hC:P.cellsOf T=5):zbe P T (Ty.flat 5 pos zero enc henc h1c):=
 zf7 hs fun w cs hl {H} enc' base spare held n ys hyl hg=>by
  obtain⟨a,ha⟩:=zb7 (i:=0) hyl hg rfl rfl o0 k0 (zde h0);obtain⟨b,hb⟩:=zb7 (i:=1) hyl hg rfl rfl o1 k1 (zde h1);obtain⟨c,hc⟩:=zb7 (i:=2) hyl hg rfl rfl o2 k2 (zde h2);obtain⟨d,hd⟩:=zb7 (i:=3) hyl hg rfl rfl o3 k3 (zde h3);obtain⟨e,he⟩:=zb7 (i:=4) hyl hg rfl rfl o4 k4 (zde h4);rw[hC]at hl
  match cs,hl with
  | [u0,u1,u2,u3,u4],_=>
   refine⟨(a,b,c,d,e),?_⟩;show [u0,u1,u2,u3,u4]=enc (a,b,c,d,e)
   have ha':[u0]=[Value.int .i64 a]:=ha;have hb':[u1]=[Value.int .i64 b]:=hb;have hc':[u2]=[Value.int .i64 c]:=hc;have hd':[u3]=[Value.int .i64 d]:=hd;have he':[u4]=[Value.int .i64 e]:=he;rw[hE];injection ha' with e1
   injection hb' with e2
   injection hc' with e3
   injection hd' with e4
   injection he' with e5
   rw[e1,e2,e3,e4,e5]
theorem zw2:zbe Tryz.prog 103 tT:=
 zoo Tryz.underlying103 rfl (by kernel_rfl) (ze3 Tryz.underlying101 (by kernel_rfl) (zw1 (fun _ _ _ _ _=>rfl) Tryz.underlying228 Tryz.underlying2 Tryz.underlying2 Tryz.underlying2 Tryz.underlying2 Tryz.underlying2 rfl rfl rfl rfl rfl (by kernel_rfl) (by kernel_rfl) (by kernel_rfl) (by kernel_rfl) (by kernel_rfl) (by kernel_rfl)))
theorem zw3{P:Program}{T:TypeId}(h:P.underlying T=some .string):zbe P T tStr:=fun _ _ _ _ _ _ _ _ ht=>by
 obtain⟨s,rfl,_,hs⟩:=DataW.trod_string h ht;exact⟨s,rfl,hs⟩
theorem zw4:zbe Tryz.prog 173 tSdS:=
 ze3 Tryz.underlying173 (by kernel_rfl) (zw0 (fun _ _=>rfl) Tryz.underlying262 Tryz.underlying2 Tryz.underlying2 rfl rfl (by kernel_rfl) (by kernel_rfl) (by kernel_rfl))
theorem zw5{P:Program}{T:TypeId}{f0 f1 f2:Field}(hs:P.underlying T=some (.struct #[f0,f1,f2]))(h0:P.underlying f0.type=some .string)(h1:P.underlying f1.type=some (.int .i64))(h2:zbe P f2.type tSdS)
 (o0:f0.offset=0) (o1:f1.offset=1) (o2:f2.offset=2) (k0:P.cellsOf f0.type=1) (k1:P.cellsOf f1.type=1) (k2:P.cellsOf f2.type=1) (hC:P.cellsOf T=3):zbe P T tSt:=
 zf7 hs fun w cs hl {H} enc base spare held n ys hyl hg=>by
  obtain⟨s,hs⟩:=zb7 (i:=0) hyl hg rfl rfl o0 k0 (zw3 h0);obtain⟨l,h1⟩:=zb7 (i:=1) hyl hg rfl rfl o1 k1 (zde h1);obtain⟨xs,h2⟩:=zb7 (i:=2) hyl hg rfl rfl o2 k2 h2;rw[hC]at hl
  match cs,hl with
  | [u0,u1,u2],_=>
   refine⟨(s,l,xs),st_R.2 ?_⟩;have h0:[u0]=[Value.string s]/\s.size<=maxLen:=hs;have h1':[u1]=[Value.int .i64 l]:=h1;obtain⟨A,n,c,e2⟩:=zih h2;have e2':[u2]=[Value.slice A n c]:=e2;have h2':tSdS.R w w.heap.size [u2] xs:=h2;injection h0.1 with e0
   injection h1' with e1
   injection e2' with e3
   subst e0 e1 e3;exact⟨A,n,c,rfl,h0.2,h2'⟩
theorem zw6:zbe Tryz.prog 175 tSt:=
 zw5 Tryz.underlying175 Tryz.underlying9 Tryz.underlying2 zw4 rfl rfl rfl (by kernel_rfl) (by kernel_rfl) (by kernel_rfl) (by kernel_rfl)
theorem zw7:zbe Tryz.prog 28 tM:=
 zoo Tryz.underlying28 rfl (by kernel_rfl) (ze3 Tryz.underlying26 (by kernel_rfl) zw6)
theorem zop:zbe Tryz.prog 22 tSS:=ze3 Tryz.underlying22 (by kernel_rfl) zh4
theorem zw8{P:Program}{T:TypeId}{f0 f1 f2 f3:Field}(hs:P.underlying T=some (.struct #[f0,f1,f2,f3]))(h0:P.underlying f0.type=some (.int .i64))(h1:P.underlying f1.type=some (.int .i64))(h2:P.underlying f2.type=some (.int .i64))(h3:zbe P f3.type tS)(o0:f0.offset=0)(o1:f1.offset=1)(o2:f2.offset=2)(o3:f3.offset=3)(k0:P.cellsOf f0.type=1)(k1:P.cellsOf f1.type=1)(k2:P.cellsOf f2.type=1)(k3:P.cellsOf f3.type=1)(hC:P.cellsOf T=4):zbe P T tN:=
 zf7 hs fun w cs hl {H} enc base spare held n ys hyl hg=>by
  obtain⟨s0,g0⟩:=zb7 (i:=0) hyl hg rfl rfl o0 k0 (zde h0);obtain⟨s1,g1⟩:=zb7 (i:=1) hyl hg rfl rfl o1 k1 (zde h1);obtain⟨s2,g2⟩:=zb7 (i:=2) hyl hg rfl rfl o2 k2 (zde h2);obtain⟨s3,g3⟩:=zb7 (i:=3) hyl hg rfl rfl o3 k3 h3;rw[hC]at hl
  match cs,hl with
  | [u0,u1,u2,u3],_=>
   refine⟨(s0,s1,s2,s3),tN_R.2 ?_⟩;have e0:[u0]=[Value.int .i64 s0]:=g0;injection e0 with e0
   have e1:[u1]=[Value.int .i64 s1]:=g1;injection e1 with e1
   have e2:[u2]=[Value.int .i64 s2]:=g2;injection e2 with e2
   have r3:tS.R w w.heap.size [u3] s3:=g3;obtain⟨A3,n3,c3,e3⟩:=za9 r3;injection e3 with e3
   subst e0 e1 e2 e3;exact⟨A3,n3,c3,rfl,r3⟩
theorem zw9:zbe Tryz.prog 217 tN:=
 zw8 Tryz.underlying217 Tryz.underlying2 Tryz.underlying2 Tryz.underlying2 zh4 rfl rfl rfl rfl (by kernel_rfl) (by kernel_rfl) (by kernel_rfl) (by kernel_rfl) (by kernel_rfl)
theorem zxa:zbe Tryz.prog 105 tNS:=ze3 Tryz.underlying105 (by kernel_rfl) zw9
theorem zxb{P:Program}{T:TypeId}{f0 f1 f2 f3:Field}(hs:P.underlying T=some (.struct #[f0,f1,f2,f3]))(h0:P.underlying f0.type=some (.int .i64))(h1:zbe P f1.type tSS)(h2:zbe P f2.type tNS)(h3:zbe P f3.type tS)(o0:f0.offset=0)(o1:f1.offset=1)(o2:f2.offset=2)(o3:f3.offset=3)(k0:P.cellsOf f0.type=1)(k1:P.cellsOf f1.type=1)(k2:P.cellsOf f2.type=1)(k3:P.cellsOf f3.type=1)(hC:P.cellsOf T=4):zbe P T tP:=
 zf7 hs fun w cs hl {H} enc base spare held n ys hyl hg=>by
  obtain⟨s0,g0⟩:=zb7 (i:=0) hyl hg rfl rfl o0 k0 (zde h0);obtain⟨s1,g1⟩:=zb7 (i:=1) hyl hg rfl rfl o1 k1 h1;obtain⟨s2,g2⟩:=zb7 (i:=2) hyl hg rfl rfl o2 k2 h2;obtain⟨s3,g3⟩:=zb7 (i:=3) hyl hg rfl rfl o3 k3 h3;rw[hC]at hl
  match cs,hl with
  | [u0,u1,u2,u3],_=>
   refine⟨(s0,s1,s2,s3),tP_R.2 ?_⟩;have e0:[u0]=[Value.int .i64 s0]:=g0;injection e0 with e0
   have r1:tSS.R w w.heap.size [u1] s1:=g1;obtain⟨A1,n1,c1,e1⟩:=za9 r1;injection e1 with e1
   have r2:tNS.R w w.heap.size [u2] s2:=g2;obtain⟨A2,n2,c2,e2⟩:=za9 r2;injection e2 with e2
   have r3:tS.R w w.heap.size [u3] s3:=g3;obtain⟨A3,n3,c3,e3⟩:=za9 r3;injection e3 with e3
   subst e0 e1 e2 e3;exact⟨A1,n1,c1,A2,n2,c2,A3,n3,c3,rfl,r1,r2,r3⟩
theorem zxc:zbe Tryz.prog 107 tP:=
 zxb Tryz.underlying107 Tryz.underlying2 zop zxa zh4 rfl rfl rfl rfl (by kernel_rfl) (by kernel_rfl) (by kernel_rfl) (by kernel_rfl) (by kernel_rfl)
theorem zxd:zbe Tryz.prog 25 tPS:=ze3 Tryz.underlying25 (by kernel_rfl) zxc
theorem zxe:zbe Tryz.prog 23 tTS:=ze3 Tryz.underlying23 (by kernel_rfl) zw2
theorem zxf{P:Program}{T:TypeId}{f0 f1 f2 f3 f4 f5:Field}(hs:P.underlying T=some (.struct #[f0,f1,f2,f3,f4,f5]))(h0:P.underlying f0.type=some (.int .i64))(h1:zbe P f1.type tSS)(h2:zbe P f2.type tTS)(h3:zbe P f3.type tS)(h4:zbe P f4.type tPS)(h5:zbe P f5.type tM)(o0:f0.offset=0)(o1:f1.offset=1)(o2:f2.offset=2)(o3:f3.offset=3)(o4:f4.offset=4)(o5:f5.offset=5)(k0:P.cellsOf f0.type=1)(k1:P.cellsOf f1.type=1)(k2:P.cellsOf f2.type=1)(k3:P.cellsOf f3.type=1)(k4:P.cellsOf f4.type=1)(k5:P.cellsOf f5.type=1)(hC:P.cellsOf T=6):zbe P T tZ:=
 zf7 hs fun w cs hl {H} enc base spare held n ys hyl hg=>by
  obtain⟨s0,g0⟩:=zb7 (i:=0) hyl hg rfl rfl o0 k0 (zde h0);obtain⟨s1,g1⟩:=zb7 (i:=1) hyl hg rfl rfl o1 k1 h1;obtain⟨s2,g2⟩:=zb7 (i:=2) hyl hg rfl rfl o2 k2 h2;obtain⟨s3,g3⟩:=zb7 (i:=3) hyl hg rfl rfl o3 k3 h3;obtain⟨s4,g4⟩:=zb7 (i:=4) hyl hg rfl rfl o4 k4 h4;obtain⟨s5,g5⟩:=zb7 (i:=5) hyl hg rfl rfl o5 k5 h5;rw[hC]at hl
  match cs,hl with
  | [u0,u1,u2,u3,u4,u5],_=>
   refine⟨(s0,s1,s2,s3,s4,s5),tZ_R.2 ?_⟩;have e0:[u0]=[Value.int .i64 s0]:=g0;injection e0 with e0
   have r1:tSS.R w w.heap.size [u1] s1:=g1;obtain⟨A1,n1,c1,e1⟩:=za9 r1;injection e1 with e1
   have r2:tTS.R w w.heap.size [u2] s2:=g2;obtain⟨A2,n2,c2,e2⟩:=za9 r2;injection e2 with e2
   have r3:tS.R w w.heap.size [u3] s3:=g3;obtain⟨A3,n3,c3,e3⟩:=za9 r3;injection e3 with e3
   have r4:tPS.R w w.heap.size [u4] s4:=g4;obtain⟨A4,n4,c4,e4⟩:=za9 r4;injection e4 with e4
   have r5:tM.R w w.heap.size [u5] s5:=g5;obtain⟨A5,n5,c5,e5⟩:=za9 r5;injection e5 with e5
   subst e0 e1 e2 e3 e4 e5;exact⟨A1,n1,c1,A2,n2,c2,A3,n3,c3,A4,n4,c4,A5,n5,c5,rfl,r1,r2,r3,r4,r5⟩
theorem zxg:zbe Tryz.prog 30 tZ:=
 zxf Tryz.underlying30 Tryz.underlying2 zop zxe zh4 zxd zw7 rfl rfl rfl rfl rfl rfl (by kernel_rfl) (by kernel_rfl) (by kernel_rfl) (by kernel_rfl) (by kernel_rfl) (by kernel_rfl) (by kernel_rfl)
theorem zxs:zbe Tryz.prog 30 tZ:=zxg
theorem zxt{w:Yw}{B:Nat}{cs:List Value}{x:Sess}(h:tZ.R w B cs x):∃p A n c Ab nb cb Ac nc cc Ad nd cd Ae ne ce,cs=[.int .i64 p,.slice A n c,.slice Ab nb cb,.slice Ac nc cc,.slice Ad nd cd,.slice Ae ne ce]:=by
 obtain⟨a0,x1,x2,x3,x4,x5⟩:=x;obtain⟨A1,n1,c1,A2,n2,c2,A3,n3,c3,A4,n4,c4,A5,n5,c5,hcs,-⟩:=tZ_R.1 h;exact⟨_,_,_,_,_,_,_,_,_,_,_,_,_,_,_,_,hcs⟩
end Go.Proofs.YtifeldeikhmckaaGreat
