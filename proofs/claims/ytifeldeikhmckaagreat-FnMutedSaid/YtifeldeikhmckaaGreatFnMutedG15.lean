import Derived.Test.YtifeldeikhmckaaGreatFnMutedG14
import Derived.Test.YtifeldeikhmckaaGreatFnMutedG2
import Derived.Test.YtifeldeikhmckaaGreatFnMutedG4
import Derived.Test.YtifeldeikhmckaaGreatFnMutedG1
import Derived.Test.YtifeldeikhmckaaGreatFnMutedG3
import Derived.Deep.RegionWith
set_option linter.unusedVariables false
set_option linter.unusedSimpArgs false
set_option maxRecDepth 100000
set_option maxHeartbeats 4000000
namespace Go.Proofs.YtifeldeikhmckaaGreat
open Go.RowKit Go.Sort
section
structure DN (w:Yw) (b lo:Nat) (A:Yo) (n c:Nat) (code:List UInt8) (g K:Nat) (k a bb:Int) (v:Value) (xs:List Int) (wr:Yw):Prop where
 e0:wr.cell? ⟨w.heap.size,0,none⟩=some (.int .i64 0)
 e1:wr.cell? ⟨w.heap.size,1,none⟩=some (.int .i64 0)
 e2:wr.cell? ⟨w.heap.size,2,none⟩=some (.int .i64 0)
 e3:wr.cell? ⟨w.heap.size,3,none⟩=some (.slice none 0 0)
 f0:wr.frozen? ⟨w.heap.size,0,none⟩=false
 f1:wr.frozen? ⟨w.heap.size,1,none⟩=false
 f2:wr.frozen? ⟨w.heap.size,2,none⟩=false
 f3:wr.frozen? ⟨w.heap.size,3,none⟩=false
 p0:wr.cell? ⟨g,0,none⟩=some (.int .i64 k)
 p1:wr.cell? ⟨g,1,none⟩=some (.int .i64 a)
 p2:wr.cell? ⟨g,2,none⟩=some (.int .i64 bb)
 p3:wr.cell? ⟨g,3,none⟩=some v
 q2:wr.frozen? ⟨g,2,none⟩=false
 q3:wr.frozen? ⟨g,3,none⟩=false
 own:OS tI 2 wr (fun z=>w.heap.size<z/\z≠g) v xs
 src:Src wr b lo A n c code K
 mid:Mid b (b+1) w wr
 sz:g<wr.heap.size
 lo:w.heap.size<g
structure M.nD (k t below:Int) (x:Node):Prop where
 kd:x.1=k
 ad:M.aD k t x.2.1
 b17:k=17->1<=x.2.2.1/\x.2.2.1<=3
 b0:k≠17->x.2.2.1=0
 len:(x.2.2.2.length:Int)=M.ar k.toNat
 fr:∀f∈x.2.2.2,0<=f/\(f<below\/f=0)
def zli (b lo:Nat) (A:Yo) (n c:Nat) (code:List UInt8) (K:Nat) (P:Node->Prop) (w:Yw) (e:Ending) (w':Yw):Prop:=
 ∃k a bb A1 n1 c1 xs,e=.returned (.agg #[.int .i64 k,.int .i64 a,.int .i64 bb,.slice A1 n1 c1])/\OS tI 2 w' (Iv w.heap.size w'.heap.size) (.slice A1 n1 c1) xs/\Hid (P (k,a,bb,xs))/\Src w' b lo A n c code K/\Mid b (b+1) w w'
section
variable {w wr w':Yw} {b lo:Nat} {A :Yo} {n c:Nat} {code:List UInt8} {g K K':Nat} {k a bb:Int} {v:Value} {xs:List Int}
theorem DN.step(h:DN w b lo A n c code g K k a bb v xs wr)(hb:b<w.heap.size)(hs:Src w' b lo A n c code K')(hm:Mid b (b+1) wr w'):DN w b lo A n c code g K' k a bb v xs w':=by
 have hz:=h.sz;have hl:=h.lo;have cK:∀{z o u},z<wr.heap.size->b<z->wr.cell? ⟨z,o,none⟩=u->w'.cell? ⟨z,o,none⟩=u:=fun h1 h2 h3=>hm.cellK h1 (.inr h2) h3
 have fK:∀{z o u},z<wr.heap.size->b<z->wr.frozen? ⟨z,o,none⟩=u->w'.frozen? ⟨z,o,none⟩=u:=fun h1 h2 h3=>hm.frozK h1 (.inr h2) h3
 have h1:w.heap.size<wr.heap.size:=by omega
 have h2:b<g:=by omega
 exact⟨cK h1 hb h.e0,cK h1 hb h.e1,cK h1 hb h.e2,cK h1 hb h.e3,fK h1 hb h.f0,fK h1 hb h.f1,fK h1 hb h.f2,fK h1 hb h.f3,
  cK hz h2 h.p0,cK hz h2 h.p1,cK hz h2 h.p2,cK hz h2 h.p3,fK hz h2 h.q2,fK hz h2 h.q3,
  h.own.chg (Chg.of_mid hm) (fun z h1 h2=>by have:=h1.1;omega),hs,h.mid.trans hm,Cq hz hm.size,hl⟩
theorem DN.more(h:DN w b lo A n c code g K k a bb v xs wr)(hK:K<=K'):DN w b lo A n c code g K' k a bb v xs wr:=
 ⟨h.e0,h.e1,h.e2,h.e3,h.f0,h.f1,h.f2,h.f3,h.p0,h.p1,h.p2,h.p3,h.q2,h.q3,h.own,h.src.more hK,h.mid,h.sz,h.lo⟩
theorem DN.push{w4:Yw}{v4:Value}{x:Int}(h:DN w b lo A n c code g K k a bb v xs wr)(hb:b<w.heap.size)
 (own:OS tI 2 w4 (fun z=>(w.heap.size<z/\z≠g)\/False\/wr.heap.size<z/\z<w4.heap.size) v4 (xs++[x])) (hc:Chg (fun z=>w.heap.size<z/\z≠g) wr w4) :
 DN w b lo A n c code g K k a bb v4 (xs++[x]) (w4.setCell ⟨g,3,none⟩ v4):=by
 have hz:=h.sz;have hl:=h.lo;have hs4:wr.heap.size<=w4.heap.size:=hc.size
 have cW:∀o u,wr.cell? ⟨w.heap.size,o,none⟩=u->(w4.setCell ⟨g,3,none⟩ v4).cell? ⟨w.heap.size,o,none⟩=u:=fun o u hu=>by
  rw[Ek (Fg w4 ⟨g,3,none⟩ w.heap.size v4 (by show w.heap.size≠g;omega)),hc.cell1 (show w.heap.size<_ by omega) (fun h=>absurd (show w.heap.size<w.heap.size from h.1) (by omega))];exact hu
 have fW:∀o u,wr.frozen? ⟨w.heap.size,o,none⟩=u->(w4.setCell ⟨g,3,none⟩ v4).frozen? ⟨w.heap.size,o,none⟩=u:=fun o u hu=>by
  rw[Bf,hc.frozen1 (show w.heap.size<_ by omega) (fun h=>absurd (show w.heap.size<w.heap.size from h.1) (by omega))];exact hu
 have cG:∀o u,wr.cell? ⟨g,o,none⟩=u->w4.cell? ⟨g,o,none⟩=u:=fun o u hu=>by rw[hc.cell1 hz (fun h=>h.2 rfl)];exact hu
 have fG:∀o u,wr.frozen? ⟨g,o,none⟩=u->(w4.setCell ⟨g,3,none⟩ v4).frozen? ⟨g,o,none⟩=u:=fun o u hu=>by
  rw[Bf,hc.frozen1 hz (fun h=>h.2 rfl)];exact hu
 have CB:Chg (fun z=>z=g) w4 (w4.setCell ⟨g,3,none⟩ v4):=Chg.set w4 g 3 _ rfl;have MB:Below w.heap.size wr (w4.setCell ⟨g,3,none⟩ v4):=((hc.wide (F':=fun z=>w.heap.size<z) (fun _ h=>h.1)).trans (CB.wide (fun z (h:z=g)=>by omega))).toBelow (fun z h=>by omega) (by omega);have e95:(w4.setCell ⟨g,3,none⟩ v4).heap.size=w4.heap.size:=by simp
 refine⟨cW _ _ h.e0,cW _ _ h.e1,cW _ _ h.e2,cW _ _ h.e3,fW _ _ h.f0,fW _ _ h.f1,fW _ _ h.f2,fW _ _ h.f3,
  (zaf w4 g _ (by decide)).trans (cG _ _ h.p0),(zaf w4 g _ (by decide)).trans (cG _ _ h.p1),(zaf w4 g _ (by decide)).trans (cG _ _ h.p2),Dj _ _ _ (cG _ _ h.p3),fG _ _ h.q2,fG _ _ h.q3,?_,
  h.src.below MB hb,h.mid.thenB' MB (Aj _),by rw[e95];omega,hl⟩
 refine(own.chg CB (fun z h1 (h2:z=g)=>?_)).wide (fun z h1=>?_)
 ·rcases h1 with h1|h1|h1
  ·exact h1.2 h2
  ·exact h1
  omega
 rcases h1 with h1|h1|h1
 ·exact h1
 ·exact h1.elim
 exact⟨by omega,by omega⟩
theorem DN.setB(h:DN w b lo A n c code g K k a bb v xs wr)(hb:b<w.heap.size)(y:Int):DN w b lo A n c code g K k a y v xs (wr.setCell ⟨g,2,none⟩ (.int .i64 y)):=by
 have hz:=h.sz;have hl:=h.lo
 have cW:∀o u,wr.cell? ⟨w.heap.size,o,none⟩=u->(wr.setCell ⟨g,2,none⟩ (.int .i64 y)).cell? ⟨w.heap.size,o,none⟩=u:=fun o u hu=>by
  rw[Ek (Fg wr ⟨g,2,none⟩ w.heap.size _ (by show w.heap.size≠g;omega))];exact hu
 have CB:Chg (fun z=>z=g) wr (wr.setCell ⟨g,2,none⟩ (.int .i64 y)):=Chg.set wr g 2 _ rfl;have MB:Below w.heap.size wr (wr.setCell ⟨g,2,none⟩ (.int .i64 y)):=CB.toBelow (fun z h=>by omega) (by omega)
 refine⟨cW _ _ h.e0,cW _ _ h.e1,cW _ _ h.e2,cW _ _ h.e3,(Bf _ _ _ _).trans h.f0,(Bf _ _ _ _).trans h.f1,(Bf _ _ _ _).trans h.f2,(Bf _ _ _ _).trans h.f3,
  (zaf wr g _ (by decide)).trans h.p0,(zaf wr g _ (by decide)).trans h.p1,Dj _ _ _ h.p2,(zaf wr g _ (by decide)).trans h.p3,(Bf _ _ _ _).trans h.q2,(Bf _ _ _ _).trans h.q3,
  h.own.chg CB (fun z h1 h2=>h1.2 h2),h.src.below MB hb,h.mid.thenB' MB (Aj _),by simpa using hz,hl⟩
theorem DN.fin{A1:Yo}{n1 c1:Nat}(h:DN w b lo A n c code g K k a bb (.slice A1 n1 c1) xs wr)(hb:b<w.heap.size){P:Node->Prop}(hP:P (k,a,bb,xs)):
 zli b lo A n c code K P w (.returned (.agg #[.int .i64 k,.int .i64 a,.int .i64 bb,.slice A1 n1 c1])) ((((wr.setCell ⟨w.heap.size,0,none⟩ (.int .i64 k)).setCell ⟨w.heap.size,1,none⟩ (.int .i64 a)).setCell ⟨w.heap.size,2,none⟩ (.int .i64 bb)).setCell ⟨w.heap.size,3,none⟩ (.slice A1 n1 c1)):=by
 have hz:=h.sz;have hl:=h.lo;have st:∀(u:Yw) (o:Nat) (x:Value),Chg (fun z=>z=w.heap.size) u (u.setCell ⟨w.heap.size,o,none⟩ x):=fun u o x=>Chg.set u w.heap.size o _ rfl
 have CH:=(((st wr 0 (.int .i64 k)).trans (st _ 1 (.int .i64 a))).trans (st _ 2 (.int .i64 bb))).trans (st _ 3 (.slice A1 n1 c1));have MB:=CH.toBelow (B:=w.heap.size) (fun z h=>by omega) (by omega);have hs:=CH.size;exact⟨k,a,bb,A1,n1,c1,xs,rfl,((h.own.real.chg CH (fun z h1 h2=>by have:=h1.1.1;omega)).wide (fun z h1=>⟨Nat.le_of_lt h1.1.1,Cq h1.2 hs⟩)),Aq hP,h.src.below MB hb,h.mid.thenB' MB (Aj _)⟩
end
theorem zij(k:Int)(h:1<=k/\k<=17):0<=M.ar k.toNat/\M.ar k.toNat<=3:=by
 have:k=1\/k=2\/k=3\/k=4\/k=5\/k=6\/k=7\/k=8\/k=9\/k=10\/k=11\/k=12\/k=13\/k=14\/k=15\/k=16\/k=17:=by omega
 rcases this with rfl|rfl|rfl|rfl|rfl|rfl|rfl|rfl|rfl|rfl|rfl|rfl|rfl|rfl|rfl|rfl|rfl <;> decide
theorem zlj(b lo:Nat)(A:Yo)(n c:Nat)(code:List UInt8)(K:Nat)(k t below:Int)(w:Yw)(h:Src w b lo A n c code K)(hK:K<=100000)(hk:1<=k/\k<=17)(ht:0<=t/\t<=100)(hbe:0<=below/\below<=100):
 Calls Tryz.prog 217 #[.pointer (some ⟨b,0,none⟩),.int .i64 k,.int .i64 t,.int .i64 below] w (zli b lo A n c code (K+20) (M.nD k t below) w):=by
 have hbw:=h.lt;obtain⟨W0,hW0⟩:∃W,W=w.alloc (.cells #[.int .i64 0,.int .i64 0,.int .i64 0,.slice none 0 0] 169):=⟨_,rfl⟩;have B0:Below w.heap.size w W0:=by rw[hW0];exact(Aw _ _).alloc (Aj _) _
 have z0:W0.heap.size=w.heap.size+1:=by rw[hW0];simp
 have Q0:Hid (∀j,j<4->W0.cell? ⟨w.heap.size,j,none⟩=some (if j=3 then .slice none 0 0 else .int .i64 0)/\W0.frozen? ⟨w.heap.size,j,none⟩=false):=Aq fun j hj=>by
  rw[hW0];rcases(show j=0\/j=1\/j=2\/j=3 by omega)with rfl|rfl|rfl|rfl <;> exact⟨by simp[go_sem],by simp[go_sem]⟩
 have s0:=h.below B0 hbw;have HW0:=Aq hW0;have HZ0:=Aq z0;clear hW0
 go_enter Tryz.func217,Tryz.ntmps217
 go_wp2_with fail;rw[<-HW0.out];refine(zyw b lo A n c code K k t W0 s0 (by omega) hk ht).mono ?_;rintro e w1 ⟨a,rfl,hA,s1,m1⟩;have HA:=Aq hA;have t1:=m1.size;have lw1:w.heap.size<w1.heap.size:=by omega
 have Q1:Hid (∀j,j<4->w1.cell? ⟨w.heap.size,j,none⟩=some (if j=3 then .slice none 0 0 else .int .i64 0)/\w1.frozen? ⟨w.heap.size,j,none⟩=false):=Aq fun j hj=>by
  obtain⟨h1,h2⟩:=Q0.out j hj;exact⟨m1.cellK (by omega) (.inr (by omega)) h1,m1.frozK (by omega) (.inr (by omega)) h2⟩
 obtain⟨W1,hW1⟩:∃W,W=w1.alloc (.cells #[] 2):=⟨_,rfl⟩;have z1:W1.heap.size=w1.heap.size+1:=by rw[hW1];simp
 obtain⟨W2,hW2⟩:∃W,W=W1.alloc (.cells #[.int .i64 k,.int .i64 a,.int .i64 0,.slice (some ⟨w1.heap.size,0,none⟩) 0 0] 169):=⟨_,rfl⟩;obtain⟨g,hg⟩:∃g,g=w1.heap.size+1:=⟨_,rfl⟩
 have D2:DN w b lo A n c code g (K+6) k a 0 (.slice (some ⟨w1.heap.size,0,none⟩) 0 0) [] W2:=by
  have bA:Below w1.heap.size w1 W1:=by rw[hW1];exact(Aw _ _).alloc (Aj _) _
  have bB:Below W1.heap.size W1 W2:=by rw[hW2];exact(Aw _ _).alloc (Aj _) _
  have bC:=zaa bA bB;have own0:OS tI 2 W1 (Iv w1.heap.size W1.heap.size) (.slice (some ⟨w1.heap.size,0,none⟩) 0 0) []:=by rw[hW1];exact OS.made0 tI 2 w1
  have own1:=own0.below bB (Aj _)
  have cP:∀j u,(#[Value.int .i64 k,.int .i64 a,.int .i64 0,.slice (some ⟨w1.heap.size,0,none⟩) 0 0]:Array Value)[j]?=some u->W2.cell? ⟨g,j,none⟩=some u/\W2.frozen? ⟨g,j,none⟩=false:=fun j u hj=>by
   rw[hW2,hg,<-z1];refine⟨?_,?_⟩
   ·rw[cell_of_row _ W1.heap.size j _ 169 (0,0) (Df W1 _)];exact hj
   simp[go_sem]
  have cW:∀j,j<4->W2.cell? ⟨w.heap.size,j,none⟩=some (if j=3 then .slice none 0 0 else .int .i64 0)/\W2.frozen? ⟨w.heap.size,j,none⟩=false:=fun j hj=>by
   obtain⟨h1,h2⟩:=Q1.out j hj;exact⟨by rw[bC.cell (by show w.heap.size<_;omega)];exact h1,by rw[bC.frozen (by show w.heap.size<_;omega)];exact h2⟩
  refine⟨(cW 0 (by omega)).1,(cW 1 (by omega)).1,(cW 2 (by omega)).1,(cW 3 (by omega)).1,(cW 0 (by omega)).2,(cW 1 (by omega)).2,(cW 2 (by omega)).2,(cW 3 (by omega)).2,
   (cP 0 _ rfl).1,(cP 1 _ rfl).1,(cP 2 _ rfl).1,(cP 3 _ rfl).1,(cP 2 _ rfl).2,(cP 3 _ rfl).2,?_,s1.below bC s1.lt,((Mid.of_below B0 _ _).trans m1).thenB' bC (by have:=m1.size;omega),?_,by omega⟩
  ·exact own1.wide (fun z h=>⟨by have h1:w1.heap.size<=z:=h.1;omega,by have h1:z<W1.heap.size:=h.2;omega⟩)
  rw[hW2,hg];simp;omega
 have HW1:=Aq hW1;have HW2:=Aq hW2;have HG:=Aq (show w1.heap.size+1=g from hg.symm);have hA2:=zij k hk;clear hW1 hW2 hg z1 s0 s1 m1 hA;go_wp2_with fail;rw[<-HW1.out,<-HW2.out,HG.out];refine(zhy k W2 (by omega)).mono ?_;obtain⟨m,hm⟩:∃m:Nat,M.ar k.toNat=m:=⟨(M.ar k.toNat).toNat,by omega⟩;rw[hm]at hA2 ⊢;have HM:=Aq hm;clear hm;rintro e w3 ⟨rfl,b3⟩;have D3:=D2.step hbw (D2.src.below b3 D2.src.lt) (Mid.of_below b3 _ _);clear D2 b3;go_wp2_with fail
 go_loopw [10] (fun i wr=>∃(j:Nat) (xs:List Int) (v:Value),i=.int .i64 j/\j<=m/\Hid (xs.length+j=m)/\Hid (∀f∈xs,0<=f/\(f<below\/f=0))/\DN w b lo A n c code g (K+6+2*(m-j)) k a 0 v xs wr) (fun i _=>(intOf i).toNat)
 case atStart=>exact⟨m,[],_,rfl,by omega,Aq (by simp),Aq (fun f hf=>by simp at hf),D3.more (by omega)⟩
 case round=>
  clear D3;obtain⟨j,xs,v,rfl,hj,hxl,hfr,D⟩:=hrel;obtain⟨A1,c1,hv⟩:=D.own.shape;subst hv
  by_cases hlt:0<j
  ·have hlti:(0:Int)<(j:Int):=(by omega);have hxb:xs.length<=3:=(by have:=hxl.out;omega);obtain⟨U,hU⟩:∃U,U=wr:=⟨_,rfl⟩;rw[<-hU]at D ⊢;have HD:=Aq D;have UP3:=D.p3;have UF3:=D.q3;have UX:=D.sz;have UL:=D.lo;obtain⟨G,hG⟩:∃G:Nat->Prop,G=fun z=>z=b\/(w.heap.size<z/\z≠g):=⟨_,rfl⟩
   have HG2:=Aq hG
   have GX:=Aq (show ¬G g from fun h=>by
    rw[hG]at h;rcases h with h|h
    ·omega
    exact h.2 rfl)
   have g3:=ChgTo.cell (F:=G) UP3 (fun h=>GX.out h);have bsU:=D.src.lt;clear hU hG;have SD:=Aq (zbg b lo A n c code _ below U.drew (D.src.below (zad (Aw U.heap.size _) 1) bsU) (by omega) (by omega));clear D;go_wp2_with fail
   (refine zc4 G [0,2,3] [1] 4 (.one 4 (.one 5 (.one 6 (.first 7 .rest)))) [8] [8] (by kernel_rfl) (by kernel_rfl) ?_;simp only[zak];simp only[List.filterMap,By,Bg];(repeat (go_big_quiet_step (fail)));refine Cv ?_;(repeat (go_big_quiet_step (fail)));refine Cv ?_)
   refine zai rfl ?_;go_wp2_with fail;refine SD.out.mono ?_;rintro e x5 ⟨f,rfl,hf,s5,m5⟩;have HF:=Aq hf;clear hf;have m5':Mid b (b+1) U x5:=(Mid.of_below (zad (Aw U.heap.size _) 1) b (b+1)).trans m5;have E5:=HD.out.step hbw s5 m5';have lt5:=m5'.size
   have C5:Chg G U x5:=⟨m5'.os,m5'.tape,m5'.output,m5'.size,fun i hi hn=>m5'.block i hi (by
    rw[HG2.out]at hn;rcases Fj i b with h|h
    ·exact .inl h
    exact .inr (by rcases Fj b i with h2|h2;exact h2;exact absurd (.inl (by omega)) hn))⟩
   have HE5:=Aq E5;have q3:=E5.p3;have r3:=E5.q3;have o5:=E5.own;clear E5;go_wp2_with fail;refine⟨⟨⟨x5,C5⟩,rfl⟩,zai rfl ?_⟩;go_wp2_with fail;refine⟨⟨⟨_,C5.trans (Chg.of_below ((Aw _ _).alloc (Aj _) _) _)⟩,rfl⟩,zai rfl ?_⟩;go_wp2_with (at_builtin;refine za8 zbu #[.int .i64 f] rfl _ _ rfl o5 (Fe:=fun _=>False) (y:=f) rfl (fun _ _ h=>h) rfl rfl (by unfold maxLen;omega) (by omega) ?_;intro v6 w6 own6 ch6;obtain⟨A6,c6,e6⟩:=own6.shape;rw[Cw,Dw]at e6;subst e6;have q6:w6.cell? ⟨g,3,none⟩=some (.slice A1 xs.length c1):=(by rw[ch6.cell1 (show g<x5.heap.size by omega) (fun h=>h.2 rfl)];exact q3);have r6:w6.frozen? ⟨g,3,none⟩=false:=(by rw[ch6.frozen1 (show g<x5.heap.size by omega) (fun h=>h.2 rfl)];exact r3));have CG6:Chg G U w6:=C5.trans (ch6.wide (fun z h=>by rw[HG2.out];exact .inr h));refine⟨⟨⟨w6,CG6⟩,rfl⟩,?_⟩
   (refine za6 rfl ?_;(repeat (go_big_quiet_step (fail)));refine Cv ?_)
   refine zbc ?_;have E6:=HE5.out.push hbw own6 ch6;go_wp2_with fail;go_roundw
   case rel=>exact⟨j-1,xs++[f],_,by go_num,by omega,Aq (by have:=hxl.out;simp;omega),Aq (fun x hx=>by
    rcases Gx.1 hx with hx|hx
    ·exact hfr.out x hx
    rw[List.mem_singleton.1 hx];exact HF.out),E6.more (by omega)⟩
   case measure=>simp[intOf];omega
  obtain rfl:j=0:=by omega
  have UX:=D.sz;have UL:=D.lo;have hne:g≠w.heap.size:=by omega
  have hne':w.heap.size≠g:=by omega
  have hlen:=Aq (show xs.length=m by have:=hxl.out;omega)
  by_cases h17:k=17
  ·subst h17;have SP:=Aq (zbg b lo A n c code _ 3 wr D.src (by omega) (by omega));have HD:=Aq D;clear D;go_wp2_with fail;refine SP.out.mono ?_;rintro e w5 ⟨y,rfl,hy,s5,m5⟩;have hy2:0<=y/\y<=2:=(by omega);have D5:=HD.out.step hbw s5 m5;have i2:=D5.p2;have j2:=D5.q2;have D6:=D5.setB hbw (1+y);obtain⟨w6,hw6⟩:∃u,u=w5.setCell ⟨g,2,none⟩ (.int .i64 (1+y)):=⟨_,rfl⟩;rw[<-hw6]at D6;have HW6:=Aq hw6;clear hw6 D5 hy;have a0:=D6.p0;have a1:=D6.p1;have a2:=D6.p2;have a3:=D6.p3;have r0:=D6.e0;have r1:=D6.e1;have r2:=D6.e2;have r3:=D6.e3;have v0:=D6.f0;have v1:=D6.f1;have v2:=D6.f2;have v3:=D6.f3;have FIN:=Aq ((D6.more (K':=K+20) (by omega)).fin hbw (P:=M.nD 17 t below) ⟨rfl,HA.out,fun _=>by simp only;omega,fun e=>absurd rfl e,by simp only;rw[hlen.out,HM.out],hfr.out⟩);clear D6;go_upto_region 8 with fail
   rw[<-HW6.out];go_wp2;refine Cy (v:=.agg #[.int .i64 17,.int .i64 a,.int .i64 (1+y),.slice A1 xs.length c1]) (by simp[results,Tryz.results217,go_sem,r0,r1,r2,r3,v0,v1,v2,v3,hne,hne']) rfl ?_;exact FIN.out
  have a0:=D.p0;have a1:=D.p1;have a2:=D.p2;have a3:=D.p3;have r0:=D.e0;have r1:=D.e1;have r2:=D.e2;have r3:=D.e3;have v0:=D.f0;have v1:=D.f1;have v2:=D.f2;have v3:=D.f3;have FIN:=Aq ((D.more (K':=K+20) (by omega)).fin hbw (P:=M.nD k t below) ⟨rfl,HA.out,fun e=>absurd e h17,fun _=>rfl,by simp only;rw[hlen.out,HM.out],hfr.out⟩);clear D;go_wp2;refine Cy (v:=.agg #[.int .i64 k,.int .i64 a,.int .i64 0,.slice A1 xs.length c1]) (by simp[results,Tryz.results217,go_sem,r0,r1,r2,r3,v0,v1,v2,v3,hne,hne']) rfl ?_;exact FIN.out
end
section
namespace M
end M
end
def zyx (b lo:Nat) (A:Yo) (n c:Nat) (code:List UInt8) (K m:Nat) (w:Yw) (e:Ending) (w':Yw):Prop:=
 ∃v xs,e=.returned v/\OS tI 2 w' (Iv w.heap.size w'.heap.size) v xs/\xs.length<=m/\Hid (∀x∈xs,M.smp x=true)/\Src w' b lo A n c code K/\Mid b (b+1) w w'
theorem Mid.thenB{lo hi:Nat}{a b c:Yw}(h:Mid lo hi a b)(k:Below a.heap.size b c):Mid lo hi a c:=
 ⟨k.os.trans h.os,k.tape.trans h.tape,k.output.trans h.output,Nat.le_trans h.size k.size,fun i hi' hm=>(k.block i hi').trans (h.block i hi' hm)⟩
theorem zpx{x:Int}(h0:-2147483648<=x)(h1:x<=2147483647):M.smp x=true:=by simp[M.smp,M.inn];omega
theorem zyy(b lo:Nat)(A:Yo)(n c:Nat)(code:List UInt8)(K m:Nat)(w:Yw)(h:Src w b lo A n c code K)(hK:K<=1000000)(hm:m<=1000):
 Calls Tryz.prog 160 #[.pointer (some ⟨b,0,none⟩),.int .i64 m] w (zyx b lo A n c code (K+2+6*m) m w):=by
 have hbw:=h.lt;have hB:=(Aw w.heap.size w).alloc (Aj _) (.cells #[] 2);have s0:=h.below hB hbw;have own0:=OS.made0 tI 2 w;have hsz0:(w.alloc (.cells #[] 2)).heap.size=w.heap.size+1:=by simp
 rw[hsz0]at own0;have hsz0':=Aq hsz0;clear hsz0
 go_enter Tryz.func160,Tryz.ntmps160
 go_wp2_with fail;refine(zbg b lo A n c code K ((m:Int)+1) _ s0 (by omega) (by omega)).mono ?_;rintro e w1 ⟨k,rfl,⟨k0,k1⟩,s1,m1⟩;obtain⟨k,rfl⟩:∃j:Nat,k=j:=⟨k.toNat,by omega⟩;have hkm:k<=m:=by omega
 have hs1:w.heap.size+1<=w1.heap.size:=by have h1:=m1.size;rw[hsz0'.out]at h1;exact h1
 have own1:OS tI 2 w1 (Iv w.heap.size w1.heap.size) (.slice (some ⟨w.heap.size,0,none⟩) 0 0) []:=(own0.mid m1 (.inr (by omega)) (by rw[hsz0'.out];exact Aj _)).iv (Aj _) hs1;have M1:Mid b (b+1) w w1:=(Mid.of_below hB _ _).trans m1;clear k1 hB own0 m1;go_wp2_with fail
 go_loopw [5,6] (fun v i wr=>∃(j:Nat) (xs:List Int),i=.int .i64 j/\j<=k/\xs.length+j<=k/\OS tI 2 wr (Iv w.heap.size wr.heap.size) v xs/\Hid (∀x∈xs,M.smp x=true)/\Src wr b lo A n c code (K+2+6*(k-j))/\w.heap.size+1<=wr.heap.size/\Mid b (b+1) w wr)
  (fun _ i _=>(intOf i).toNat)
 case atStart=>exact⟨k,[],rfl,by omega,by simp,own1,Aq (by simp),s1.more (by omega),hs1,M1⟩
 case round=>
  obtain⟨j,xs,rfl,hj,hxj,own,hsm,s2,hsz,M2⟩:=hrel
  by_cases hlt:0<j
  ·go_wp2_with fail;refine(zf8 b lo A n c code (K+2+6*(k-j)) wr s2 (by omega)).mono ?_;rintro e w4 ⟨x,rfl,⟨x0,x1⟩,s4,m4⟩;have own4:=own.mid m4 (.inr (by omega)) (Aj _);have hs4:=m4.size;have hb4:=s4.lt;obtain⟨A0,c0,rfl⟩:=own.shape;go_wp2_with (at_builtin;refine za8 (t:=tI) zbu #[.int .i64 x] rfl _ _ rfl own4 (Fe:=fun _=>False) (y:=x) rfl (fun _ _ h=>h) rfl rfl (by unfold maxLen;omega) (by omega) ?_;intro v5 w5 own5 ch5);go_roundw
   case rel=>
    have hs5:=ch5.size;have hB5:Below w.heap.size w4 w5:=ch5.toBelow (fun b hb=>hb.1) (by omega);refine⟨j-1,xs++[x],by go_num,by omega,by simp;omega,own5.wide ?_,Aq ?_,(s4.below hB5 hbw).more (by omega),by omega,(M2.trans m4).thenB hB5⟩
    ·intro q hq;rcases hq with hq|hq|hq
     ·unfold Iv at *;omega
     ·exact hq.elim
     unfold Iv;omega
    intro y hy;rcases Gx.1 hy with h|h
    ·exact hsm.out y h
    simp only[List.mem_singleton]at h;subst h;exact zpx x0 x1
   case measure=>simp[intOf];omega
  obtain rfl:j=0:=by omega
  go_wp2;go_ret;exact⟨_,_,rfl,own,by omega,hsm,s2.more (by omega),M2⟩
def zyz (b lo:Nat) (A:Yo) (n c:Nat) (code:List UInt8) (K:Nat) (w:Yw) (e:Ending) (w':Yw):Prop:=
 ∃A1 c1 T,e=.returned (.slice A1 (List.length T) c1)/\OS tS 24 w' (Iv w.heap.size w'.heap.size) (.slice A1 T.length c1) T/\Hid (zbr T=true)/\1<=T.length/\T.length<=2/\Hid (∀x∈T,x.length<=8)/\Src w' b lo A n c code K/\Mid b (b+1) w w'
theorem zy0(b lo:Nat)(A:Yo)(n c:Nat)(code:List UInt8)(K:Nat)(w:Yw)(h:Src w b lo A n c code K)(hK:K<=100000):
 Calls Tryz.prog 214 #[.pointer (some ⟨b,0,none⟩)] w (zyz b lo A n c code (K+120) w):=by
 have hbw:=h.lt;obtain⟨W0,hW0⟩:∃W,W=w.alloc (.cells #[] 24):=⟨_,rfl⟩;have B0:Below w.heap.size w W0:=by rw[hW0];exact(Aw _ _).alloc (Aj _) _
 have own0:OS tS 24 W0 (Iv w.heap.size W0.heap.size) (.slice (some ⟨w.heap.size,0,none⟩) 0 0) []:=by rw[hW0];exact OS.made0 tS 24 w
 have s0:=h.below B0 hbw;have HW0:=Aq hW0;clear hW0
 go_enter Tryz.func214,Tryz.ntmps214
 go_wp2_with fail;rw[<-HW0.out];refine(zbg b lo A n c code K 2 _ s0 (by omega) (by omega)).mono ?_;rintro e w1 ⟨k,rfl,hk,s1,m1⟩;have l01:=B0.size;have own1:=(own0.mid m1 (.inr (by omega)) (Aj _)).iv (Aj _) m1.size;have M1:Mid b (b+1) w w1:=(Mid.of_below B0 _ _).trans m1;obtain⟨k,rfl⟩:∃q:Nat,k=q:=⟨k.toNat,by omega⟩;obtain⟨m,hm⟩:∃m:Nat,m=1+k:=⟨_,rfl⟩;have hm2:1<=m/\m<=2:=by omega
 have HM:=Aq (show 1+(k:Int)=(m:Int)by omega);have hk1:k<=1:=by omega
 have hs1:w.heap.size<=w1.heap.size:=Nat.le_trans l01 m1.size;clear hm hk s0 own0 m1;go_wp2_with fail;rw[HM.out];clear hk1
 go_loopw [3,4] (fun v i wr=>∃(j:Nat) (T:List (List Int)) (v0:Value),v=v0/\i=.int .i64 j/\j<=m/\T.length<=m/\Hid (T.length+j=m)/\Hid (∀x∈T,zcw x=true/\x.length<=8)/\OS tS 24 wr (Iv w.heap.size wr.heap.size) v0 T/\Src wr b lo A n c code (K+2+52*(m-j))/\Mid b (b+1) w wr/\w.heap.size<=wr.heap.size)
  (fun _ i _=>(intOf i).toNat)
 case atStart=>exact⟨m,[],_,rfl,rfl,by omega,by simp,Aq (by simp),Aq (fun x hx=>by simp at hx),own1,s1.more (by omega),M1,hs1⟩
 case round=>
  clear own1 s1 M1 hs1;obtain⟨j,T,v0,rfl,rfl,hj,hTm,hTj,hT,own,s,mr,hsz⟩:=hrel;obtain⟨A1,c1,hv⟩:=own.shape;subst hv
  by_cases hlt:0<j
  ·have hlti:(0:Int)<(j:Int):=(by omega);obtain⟨X0,hX0⟩:∃W,W=wr.alloc (.cells #[] 2):=⟨_,rfl⟩;have bX:Below wr.heap.size wr X0:=(by rw[hX0];exact(Aw _ _).alloc (Aj _) _);have ownX:OS tI 2 X0 (Iv wr.heap.size X0.heap.size) (.slice (some ⟨wr.heap.size,0,none⟩) 0 0) []:=(by rw[hX0];exact OS.made0 tI 2 wr);have zX:X0.heap.size=wr.heap.size+1:=(by rw[hX0];simp);have sX:=s.below bX (by omega);have SA0:=ze0 [2,4,8,4] #[.int .i64 2,.int .i64 4,.int .i64 8,.int .i64 4] 4 rfl rfl (by omega) b lo A n c code _ X0 sX (by omega);rw[zX]at SA0;have SA:=Aq SA0;have HX0:=Aq hX0;clear SA0 hX0;go_wp2_with fail;rw[<-HX0.out];refine SA.out.mono ?_;rintro e x1 ⟨u,rfl,hu,s2,m2⟩;have hu2:Hid (u=2\/u=4\/u=8):=Aq (by simp only[List.mem_cons,List.not_mem_nil,or_false]at hu;omega);obtain⟨u,rfl⟩:∃q:Nat,u=q:=⟨u.toNat,by have:=hu2.out;omega⟩;have hu8:u<=8:=(by have:=hu2.out;omega);have ownx:=(ownX.mid m2 (.inr (by omega)) (Aj _)).iv (Aj _) m2.size;have MX:Mid b (b+1) wr x1:=(Mid.of_below bX _ _).trans m2;have lx:wr.heap.size<=x1.heap.size:=MX.size;clear hu ownX bX zX sX m2;go_wp2_with fail;obtain⟨wo,rfl⟩:∃wo:Yw,wo=wr:=⟨_,rfl⟩
   go_loopw [5,6] (fun v i wr=>∃(q:Nat) (xs:List Int) (v1:Value),v=v1/\i=.int .i64 q/\q<=u/\xs.length<=u/\Hid (xs.length+q=u)/\Hid (∀x∈xs,M.smp x=true)/\OS tI 2 wr (Iv wo.heap.size wr.heap.size) v1 xs/\Src wr b lo A n c code (K+2+52*(m-j)+2+6*(u-q))/\Mid b (b+1) wo wr/\wo.heap.size<=wr.heap.size)
    (fun _ i _=>(intOf i).toNat)
   case atStart=>exact⟨u,[],_,rfl,rfl,by omega,by simp,Aq (by simp),Aq (fun x hx=>by simp at hx),ownx,s2.more (by omega),MX,lx⟩
   case round=>
    clear ownx s2 MX lx;obtain⟨q,xs,v1,rfl,rfl,hq,hxu,hxq,hxs,ownr,sr,mx,hsx⟩:=hrel;obtain⟨A2,c2,hv⟩:=ownr.shape;subst hv
    by_cases hlt2:0<q
    ·have hlti2:(0:Int)<(q:Int):=(by omega);go_wp2_with fail;refine(zf8 b lo A n c code _ wr sr (by omega)).mono ?_;rintro e w4 ⟨y,rfl,⟨y0,y1⟩,s4,m4⟩;have own4:=ownr.mid m4 (.inr (by omega)) (Aj _);have hs4:=m4.size;have hb4:=s4.lt;go_wp2_with (at_builtin;refine za8 (t:=tI) zbu #[.int .i64 y] rfl _ _ rfl own4 (Fe:=fun _=>False) (y:=y) rfl (fun _ _ h=>h) rfl rfl (by unfold maxLen;omega) (by omega) ?_;intro v5 w5 own5 ch5);go_roundw
     case rel=>
      have hs5:=ch5.size;have hB5:Below wo.heap.size w4 w5:=ch5.toBelow (fun b hb=>hb.1) (by omega);refine⟨q-1,xs++[y],_,rfl,by go_num,by omega,by have:=hxq.out;simp;omega,Aq (by have:=hxq.out;simp;omega),Aq ?_,own5.wide ?_,(s4.below hB5 (by omega)).more (by omega),(mx.trans m4).thenB hB5,by omega⟩
      ·intro z hz;rcases Gx.1 hz with h|h
       ·exact hxs.out z h
       simp only[List.mem_singleton]at h;subst h;exact zpx y0 y1
      intro z hz;rcases hz with hz|hz|hz
      ·unfold Iv at *;omega
      ·exact hz.elim
      unfold Iv;omega
     case measure=>simp[intOf];omega
    obtain rfl:q=0:=by omega
    have own2:=own.mid mx (.inr (by omega)) (Aj _);have hxl:=hxq.out;go_wp2_with (at_builtin;refine za8 (t:=tS) zke #[.slice A2 xs.length c2] rfl _ _ rfl own2 (Fe:=Iv wo.heap.size wr.heap.size) (y:=xs) (sl_O.2 ownr) (fun z h1 h2=>by have a1:z<wo.heap.size:=h1.2;have a2:wo.heap.size<=z:=h2.1;omega) rfl rfl (by unfold maxLen;omega) (by omega) ?_;intro v6 w6 own6 ch6);go_roundw
    case rel=>
     have hs6:=ch6.size;have hB6:Below w.heap.size wr w6:=ch6.toBelow (fun z hz=>hz.1) (by omega);refine⟨j-1,T++[xs],_,rfl,by go_num,by omega,by have:=hTj.out;simp;omega,Aq (by have:=hTj.out;simp;omega),Aq ?_,own6.wide ?_,(sr.below hB6 hbw).more (by omega),(mr.trans mx).thenB hB6,by omega⟩
     ·intro z hz;rcases Gx.1 hz with h|h
      ·exact hT.out z h
      simp only[List.mem_singleton]at h;subst h;refine⟨?_,by omega⟩;rw[zcw,Cx];refine⟨?_,Ef.2 hxs.out⟩;have:=hu2.out;simp only[Bool.or_eq_true,Dg];omega
     intro z hz;rcases hz with hz|hz|hz
     ·unfold Iv at *;omega
     ·unfold Iv at *;omega
     unfold Iv;omega
    case measure=>simp[intOf];omega
  obtain rfl:j=0:=by omega
  have hl:=hTj.out;go_wp2;go_ret;refine⟨_,_,T,rfl,own,Aq ?_,by omega,by omega,Aq (fun x hx=>(hT.out x hx).2),s.more (by omega),mr⟩;rw[zbr,Cx,Ef];exact⟨fun x hx=>(hT.out x hx).1,by simp;omega⟩
section
def ze1 (lin:Bool):List Int:=if lin then[1,3,4,5,6,7,8,17,1,5,6]else[1,2,3,4,5,6,7,8,9,10,11,12,13,14,15,16,17,1,3,6]
def zik (lin:Bool):Nat:=if lin then 11 else 20
theorem zy1(lin:Bool):(ze1 lin).length=zik lin:=by cases lin <;> rfl
theorem zpy{lin:Bool}{k:Int}(h:k∈ze1 lin):(1<=k/\k<=17)/\(lin=true->zg2 k=true):=by
 cases lin
 ·simp only[ze1,List.mem_cons,List.not_mem_nil,or_false,if_false,Bool.false_eq_true]at h;exact⟨by omega,fun e=>by cases e⟩
 simp only[ze1,List.mem_cons,List.not_mem_nil,or_false,if_true]at h;refine⟨by omega,fun _=>?_⟩;rcases h with rfl|rfl|rfl|rfl|rfl|rfl|rfl|rfl|rfl|rfl|rfl <;> rfl
theorem zy2(lin:Bool)(w:Yw):Calls Tryz.prog 215 #[.bool lin] w fun e w'=>e=.returned (.slice (some ⟨w.heap.size,0,none⟩) (zik lin) (zik lin))/\Hid (∀j x,(ze1 lin)[j]?=some x->w'.cell? ⟨w.heap.size,j,none⟩=some (.int .i64 x))/\Below w.heap.size w w'/\w.heap.size<w'.heap.size:=by
 have key:∀(xs:List Int) (us:Array Value),us.toList=xs.map (.int .i64)->∀j x,xs[j]?=some x->(w.alloc (.cells us 2)).cell? ⟨w.heap.size,j,none⟩=some (.int .i64 x):=fun xs us hus j x hx=>by
  rw[cell_of_row _ w.heap.size j _ 2 (0,0) (Df w _)];have:us.toList[j]?=some (.int .i64 x):=by rw[hus,Fv,hx];rfl
  simpa using this
 have KEY:=Aq key;clear key;cases lin
 ·go_enter Tryz.func215,Tryz.ntmps215
  go_wp2;go_ret;exact⟨rfl,Aq (KEY.out (ze1 false) _ rfl),(Aw _ _).alloc (Aj _) _,by simp⟩
 go_enter Tryz.func215,Tryz.ntmps215
 go_wp2;go_ret;exact⟨rfl,Aq (KEY.out (ze1 true) _ rfl),(Aw _ _).alloc (Aj _) _,by simp⟩
structure FD (w0 g:Nat) (FT FN FO:Nat->Prop):Prop where
 t:∀z,FT z->w0<z/\z≠g
 n:∀z,FN z->w0<z/\z≠g
 o:∀z,FO z->w0<z/\z≠g
 tn:∀z,FT z->¬FN z
 tq:∀z,FT z->¬FO z
 nq:∀z,FN z->¬FO z
structure DP (w:Yw) (b lo:Nat) (A:Yo) (n c:Nat) (code:List UInt8) (g K:Nat) (i:Int) (vT vN vO:Value) (T:List (List Int)) (ns:List Node) (os:List Int) (FT FN FO:Nat->Prop) (wr:Yw):Prop where
 e:∀j,j<4->wr.cell? ⟨w.heap.size,j,none⟩=some (if j=0 then .int .i64 0 else .slice none 0 0)/\wr.frozen? ⟨w.heap.size,j,none⟩=false
 p0:wr.cell? ⟨g,0,none⟩=some (.int .i64 i)
 p1:wr.cell? ⟨g,1,none⟩=some vT
 p2:wr.cell? ⟨g,2,none⟩=some vN
 p3:wr.cell? ⟨g,3,none⟩=some vO
 q:∀j,j<4->wr.frozen? ⟨g,j,none⟩=false
 oT:OS tS 24 wr FT vT T
 oN:OS tN 169 wr FN vN ns
 oO:OS tI 2 wr FO vO os
 fd:FD w.heap.size g FT FN FO
 src:Src wr b lo A n c code K
 mid:Mid b (b+1) w wr
 sz:g<wr.heap.size
 lo:w.heap.size<g
section
variable {w wr w' w4:Yw} {b lo:Nat} {A :Yo} {n c:Nat} {code:List UInt8} {g K K':Nat} {i:Int} {vT vN vO vT' vN' vO':Value} {T T':List (List Int)} {ns ns':List Node} {os os':List Int} {FT FN FO FT' FN' FO':Nat->Prop}
theorem DP.step(h:DP w b lo A n c code g K i vT vN vO T ns os FT FN FO wr)(hb:b<w.heap.size)(hs:Src w' b lo A n c code K')(hm:Mid b (b+1) wr w'):DP w b lo A n c code g K' i vT vN vO T ns os FT FN FO w':=by
 have hz:=h.sz;have hl:=h.lo;have h1:w.heap.size<wr.heap.size:=by omega
 have h2:b<g:=by omega
 have cG:∀{o u},wr.cell? ⟨g,o,none⟩=u->w'.cell? ⟨g,o,none⟩=u:=fun h3=>hm.cellK hz (.inr h2) h3
 exact⟨fun j hj=>⟨hm.cellK h1 (.inr hb) (h.e j hj).1,hm.frozK h1 (.inr hb) (h.e j hj).2⟩,cG h.p0,cG h.p1,cG h.p2,cG h.p3,fun j hj=>hm.frozK hz (.inr h2) (h.q j hj),
  h.oT.chg (Chg.of_mid hm) (fun z h1 h2=>by have:=(h.fd.t z h1).1;omega),h.oN.chg (Chg.of_mid hm) (fun z h1 h2=>by have:=(h.fd.n z h1).1;omega),h.oO.chg (Chg.of_mid hm) (fun z h1 h2=>by have:=(h.fd.o z h1).1;omega),
  h.fd,hs,h.mid.trans hm,Cq hz hm.size,hl⟩
theorem DP.more(h:DP w b lo A n c code g K i vT vN vO T ns os FT FN FO wr)(hK:K<=K'):DP w b lo A n c code g K' i vT vN vO T ns os FT FN FO wr:=
 ⟨h.e,h.p0,h.p1,h.p2,h.p3,h.q,h.oT,h.oN,h.oO,h.fd,h.src.more hK,h.mid,h.sz,h.lo⟩
theorem DP.turn(h:DP w b lo A n c code g K i vT vN vO T ns os FT FN FO wr)(hb:b<w.heap.size){F:Nat->Prop}(hF:∀z,F z->w.heap.size<z/\z≠g)(hc:Chg F wr w4):
 (∀j,j<4->w4.cell? ⟨w.heap.size,j,none⟩=some (if j=0 then .int .i64 0 else .slice none 0 0)/\w4.frozen? ⟨w.heap.size,j,none⟩=false)/\(∀o u,wr.cell? ⟨g,o,none⟩=u->w4.cell? ⟨g,o,none⟩=u)/\(∀j,j<4->w4.frozen? ⟨g,j,none⟩=false)/\Src w4 b lo A n c code K/\Mid b (b+1) w w4/\g<w4.heap.size:=by
 have hz:=h.sz;have hl:=h.lo;have hs4:wr.heap.size<=w4.heap.size:=hc.size;have MB:Below w.heap.size wr w4:=hc.toBelow (fun z h=>by have:=hF z h;omega) (by omega);refine⟨fun j hj=>⟨?_,?_⟩,fun o u hu=>?_,fun j hj=>?_,h.src.below MB hb,h.mid.thenB' MB (Aj _),by omega⟩
 ·rw[hc.cell1 (show w.heap.size<_ by omega) (fun h=>absurd (show w.heap.size<w.heap.size from(hF _ h).1) (by omega))];exact(h.e j hj).1
 ·rw[hc.frozen1 (show w.heap.size<_ by omega) (fun h=>absurd (show w.heap.size<w.heap.size from(hF _ h).1) (by omega))];exact(h.e j hj).2
 ·rw[hc.cell1 hz (fun h=>(hF _ h).2 rfl)];exact hu
 rw[hc.frozen1 hz (fun h=>(hF _ h).2 rfl)];exact h.q j hj
theorem DP.inN(h:DP w b lo A n c code g K i vT vN vO T ns os FT FN FO wr)(hb:b<w.heap.size)(hc:Chg FN wr w4)(oN':OS tN 169 w4 FN vN ns'):DP w b lo A n c code g K i vT vN vO T ns' os FT FN FO w4:=by
 obtain⟨h1,h2,h3,h4,h5,h6⟩:=h.turn hb h.fd.n hc;exact⟨h1,h2 _ _ h.p0,h2 _ _ h.p1,h2 _ _ h.p2,h2 _ _ h.p3,h3,h.oT.chg hc (fun z a b=>h.fd.tn z a b),oN',h.oO.chg hc (fun z a b=>h.fd.nq z b a),h.fd,h4,h5,h6,h.lo⟩
theorem DP.pushN(h:DP w b lo A n c code g K i vT vN vO T ns os FT FN FO wr)(hb:b<w.heap.size)(hc:Chg FN wr w4)(oN':OS tN 169 w4 FN' vN' ns')(fd:FD w.heap.size g FT FN' FO):DP w b lo A n c code g K i vT vN' vO T ns' os FT FN' FO (w4.setCell ⟨g,2,none⟩ vN'):=by
 obtain⟨h1,h2,h3,h4,h5,h6⟩:=h.turn hb h.fd.n hc;have hl:=h.lo;have CB:Chg (fun z=>z=g) w4 (w4.setCell ⟨g,2,none⟩ vN'):=Chg.set w4 g 2 _ rfl;have MB:Below w.heap.size w4 (w4.setCell ⟨g,2,none⟩ vN'):=CB.toBelow (fun z h=>by omega) (by omega)
 refine⟨fun j hj=>⟨?_,(Bf _ _ _ _).trans (h1 j hj).2⟩,(zaf w4 g _ (by decide)).trans (h2 _ _ h.p0),(zaf w4 g _ (by decide)).trans (h2 _ _ h.p1),Dj _ _ _ (h2 _ _ h.p2),(zaf w4 g _ (by decide)).trans (h2 _ _ h.p3),fun j hj=>(Bf _ _ _ _).trans (h3 j hj),
  (h.oT.chg hc (fun z a b=>h.fd.tn z a b)).chg CB (fun z a b=>(h.fd.t z a).2 b),oN'.chg CB (fun z a b=>(fd.n z a).2 b),(h.oO.chg hc (fun z a b=>h.fd.nq z b a)).chg CB (fun z a b=>(h.fd.o z a).2 b),fd,h4.below MB hb,h5.thenB' MB (by have:=h.mid.size;omega),by simpa using h6,hl⟩
 rw[Ek (Fg w4 ⟨g,2,none⟩ w.heap.size _ (by show w.heap.size≠g;omega))];exact(h1 j hj).1
theorem DP.pushO(h:DP w b lo A n c code g K i vT vN vO T ns os FT FN FO wr)(hb:b<w.heap.size)(hc:Chg FO wr w4)(oO':OS tI 2 w4 FO' vO' os')(fd:FD w.heap.size g FT FN FO'):DP w b lo A n c code g K i vT vN vO' T ns os' FT FN FO' (w4.setCell ⟨g,3,none⟩ vO'):=by
 obtain⟨h1,h2,h3,h4,h5,h6⟩:=h.turn hb h.fd.o hc;have hl:=h.lo;have CB:Chg (fun z=>z=g) w4 (w4.setCell ⟨g,3,none⟩ vO'):=Chg.set w4 g 3 _ rfl;have MB:Below w.heap.size w4 (w4.setCell ⟨g,3,none⟩ vO'):=CB.toBelow (fun z h=>by omega) (by omega)
 refine⟨fun j hj=>⟨?_,(Bf _ _ _ _).trans (h1 j hj).2⟩,(zaf w4 g _ (by decide)).trans (h2 _ _ h.p0),(zaf w4 g _ (by decide)).trans (h2 _ _ h.p1),(zaf w4 g _ (by decide)).trans (h2 _ _ h.p2),Dj _ _ _ (h2 _ _ h.p3),fun j hj=>(Bf _ _ _ _).trans (h3 j hj),
  (h.oT.chg hc (fun z a b=>h.fd.tq z a b)).chg CB (fun z a b=>(h.fd.t z a).2 b),(h.oN.chg hc (fun z a b=>h.fd.nq z a b)).chg CB (fun z a b=>(h.fd.n z a).2 b),oO'.chg CB (fun z a b=>(fd.o z a).2 b),fd,h4.below MB hb,h5.thenB' MB (by have:=h.mid.size;omega),by simpa using h6,hl⟩
 rw[Ek (Fg w4 ⟨g,3,none⟩ w.heap.size _ (by show w.heap.size≠g;omega))];exact(h1 j hj).1
theorem DP.setT(h:DP w b lo A n c code g K i vT vN vO T ns os FT FN FO wr)(hb:b<w.heap.size)(oT':OS tS 24 wr FT' vT' T')(fd:FD w.heap.size g FT' FN FO):DP w b lo A n c code g K i vT' vN vO T' ns os FT' FN FO (wr.setCell ⟨g,1,none⟩ vT'):=by
 have hl:=h.lo;have hz:=h.sz;have CB:Chg (fun z=>z=g) wr (wr.setCell ⟨g,1,none⟩ vT'):=Chg.set wr g 1 _ rfl;have MB:Below w.heap.size wr (wr.setCell ⟨g,1,none⟩ vT'):=CB.toBelow (fun z h=>by omega) (by omega)
 refine⟨fun j hj=>⟨?_,(Bf _ _ _ _).trans (h.e j hj).2⟩,(zaf wr g _ (by decide)).trans h.p0,Dj _ _ _ h.p1,(zaf wr g _ (by decide)).trans h.p2,(zaf wr g _ (by decide)).trans h.p3,fun j hj=>(Bf _ _ _ _).trans (h.q j hj),
  oT'.chg CB (fun z a b=>(fd.t z a).2 b),h.oN.chg CB (fun z a b=>(h.fd.n z a).2 b),h.oO.chg CB (fun z a b=>(h.fd.o z a).2 b),fd,h.src.below MB hb,h.mid.thenB' MB (Aj _),by simpa using hz,hl⟩
 rw[Ek (Fg wr ⟨g,1,none⟩ w.heap.size _ (by show w.heap.size≠g;omega))];exact(h.e j hj).1
end
def zjw (b lo:Nat) (A:Yo) (n c:Nat) (code:List UInt8) (K:Nat) (P:zae->Prop) (w:Yw) (e:Ending) (w':Yw):Prop:=
 ∃i A1 n1 c1 A2 n2 c2 A3 n3 c3 x,e=.returned (.agg #[.int .i64 i,.slice A1 n1 c1,.slice A2 n2 c2,.slice A3 n3 c3])/\tP.O w' (Iv w.heap.size w'.heap.size) [.int .i64 i,.slice A1 n1 c1,.slice A2 n2 c2,.slice A3 n3 c3] x/\Hid (P x)/\Src w' b lo A n c code K/\Mid b (b+1) w w'
theorem DP.fin{w wr:Yw}{b lo:Nat}{A:Yo}{n c:Nat}{code:List UInt8}{g K:Nat}{i:Int}{A1 A2 A3:Yo}{n1 c1 n2 c2 n3 c3:Nat}{T:List (List Int)}{ns:List Node}{os:List Int}{FT FN FO:Nat->Prop}
 (h:DP w b lo A n c code g K i (.slice A1 n1 c1) (.slice A2 n2 c2) (.slice A3 n3 c3) T ns os FT FN FO wr) (hb:b<w.heap.size) {P:zae->Prop} (hP:P (i,T,ns,os)) :
 zjw b lo A n c code K P w (.returned (.agg #[.int .i64 i,.slice A1 n1 c1,.slice A2 n2 c2,.slice A3 n3 c3])) ((((wr.setCell ⟨w.heap.size,0,none⟩ (.int .i64 i)).setCell ⟨w.heap.size,1,none⟩ (.slice A1 n1 c1)).setCell ⟨w.heap.size,2,none⟩ (.slice A2 n2 c2)).setCell ⟨w.heap.size,3,none⟩ (.slice A3 n3 c3)):=by
 have hz:=h.sz;have hl:=h.lo;have st:∀(u:Yw) (o:Nat) (x:Value),Chg (fun z=>z=w.heap.size) u (u.setCell ⟨w.heap.size,o,none⟩ x):=fun u o x=>Chg.set u w.heap.size o _ rfl
 have CH:=(((st wr 0 (.int .i64 i)).trans (st _ 1 (.slice A1 n1 c1))).trans (st _ 2 (.slice A2 n2 c2))).trans (st _ 3 (.slice A3 n3 c3));have MB:=CH.toBelow (B:=w.heap.size) (fun z h=>by omega) (by omega);have hs:=CH.size;refine⟨i,A1,n1,c1,A2,n2,c2,A3,n3,c3,(i,T,ns,os),rfl,?_,Aq hP,h.src.below MB hb,h.mid.thenB' MB (Aj _)⟩;have wd:∀{F:Nat->Prop},(∀z,F z->w.heap.size<z/\z≠g)->∀z,(F z/\z<wr.heap.size)->w.heap.size<=z/\z<_:=fun hF z h1=>⟨Nat.le_of_lt (hF z h1.1).1,Cq h1.2 hs⟩
 exact tP_O.2 ⟨A1,n1,c1,A2,n2,c2,A3,n3,c3,_,_,_,rfl,sl_O.2 (h.oT.real.chg CH (fun z h1 h2=>by have:=(h.fd.t z h1.1).1;omega)),sl_O.2 (h.oN.real.chg CH (fun z h1 h2=>by have:=(h.fd.n z h1.1).1;omega)),sl_O.2 (h.oO.real.chg CH (fun z h1 h2=>by have:=(h.fd.o z h1.1).1;omega)),
  wd h.fd.t,wd h.fd.n,wd h.fd.o,fun z a b=>h.fd.tn z a.1 b.1,fun z a b=>h.fd.tq z a.1 b.1,fun z a b=>h.fd.nq z a.1 b.1⟩
end
section
open Go.RowKit Go.Lib
def zpz {α:Type} (xs:List α) (i:Nat) (ys:List α):List α:=xs.take i++ys++xs.drop i
end
def zfh (a:Int) (p:Clip):Bool:=decide (a<p.2.2.2.1)
def zdd (xs:List Clip) (a:Int):Nat:=(xs.findIdx? (zfh a)).getD xs.length
def zcb (xs:List Clip) (x:Clip):List Clip:=zpz xs (zdd xs x.2.2.2.1) [x]
theorem zy3{xs:List Clip}{a:Int}{k:Nat}{y:Clip}(hk:xs[k]?=some y)(hy:a<y.2.2.2.1)(h:∀j,j<k->∀z,xs[j]?=some z->z.2.2.2.1<=a):zdd xs a=k:=by
 unfold zdd;rw[zlw hk (by rw[zfh,decide_eq_true_iff];exact hy) (fun j hj z hz=>by rw[zfh,Fy];have:=h j hj z hz;omega)]
 rfl
theorem zy4{xs:List Clip}{a:Int}(h:∀j,j<xs.length->∀z,xs[j]?=some z->z.2.2.2.1<=a):zdd xs a=xs.length:=by
 unfold zdd;rw[zlx (fun j hj z hz=>by rw[zfh,Fy];have:=h j hj z hz;omega)]
 rfl
def zjx (xs:List Clip):Prop:=∀(i j:Nat) (y z:Clip),i<=j->xs[i]?=some y->xs[j]?=some z->y.2.2.2.1<=z.2.2.2.1
theorem zp0{xs:List Clip}{a:Int}{k:Nat}(hs:zjx xs)(hk:k<=xs.length)(h:∀j,k<=j->∀z,xs[j]?=some z->a<z.2.2.2.1)(h1:0<k->∀z,xs[k-1]?=some z->z.2.2.2.1<=a):zdd xs a=k:=by
 have hlow:∀j,j<k->∀z,xs[j]?=some z->z.2.2.2.1<=a:=by
  intro j hj z hz;have hlt:k-1<xs.length:=by omega
  have h2:=h1 (by omega) _ (Ak hlt);exact Int.le_trans (hs j (k-1) z _ (by omega) hz (Ak hlt)) h2
 rcases Fj k xs.length with hlt|hge
 ·exact zy3 (Ak hlt) (h k (Aj _) _ (Ak hlt)) hlow
 obtain rfl:k=xs.length:=by omega
 exact zy4 hlow
theorem zy5(a:Addr):a.add 0=a:=by
 unfold Addr.add;rcases a with⟨b,o,sp⟩
 cases sp <;> simp
theorem zy6(A:Yo)(n c:Nat)(xs:List Clip)(x0 x1 x2 x3 x4:Int)(w:Yw)(hx:RA cl 5 w w.heap.size A n xs)(hn:n<=100000000)(hc:n<=c)(hm:c<=maxLen)(hso:zjx xs):
 Calls Tryz.prog 243 #[.slice A n c,.agg #[.int .i64 x0,.int .i64 x1,.int .i64 x2,.int .i64 x3,.int .i64 x4]] w fun e w'=>∃v,e=.returned (.tuple #[v,.int .i64 (zdd xs x3)])/\OA cl 165 5 w.heap.size w'.heap.size w' v (zcb xs (x0,x1,x2,x3,x4))/\Below w.heap.size w w':=by
 have hl:=Aq hx.len;unfold maxLen at hm;obtain⟨W0,hW0⟩:∃W0,W0=w.alloc (.cells #[.int .i64 x0,.int .i64 x1,.int .i64 x2,.int .i64 x3,.int .i64 x4] 165):=⟨_,rfl⟩;have hb0:Below w.heap.size w W0:=by rw[hW0];exact(Aw _ _).alloc (Aj _) _
 have hs0:W0.heap.size=w.heap.size+1:=by rw[hW0];simp
 have c10:W0.cell? ⟨w.heap.size,0,none⟩=some (.int .i64 x0):=by rw[hW0,cell_of_row _ w.heap.size 0 _ 165 (0,0) (Df w _)];rfl
 have c11:W0.cell? ⟨w.heap.size,1,none⟩=some (.int .i64 x1):=by rw[hW0,cell_of_row _ w.heap.size 1 _ 165 (0,0) (Df w _)];rfl
 have c12:W0.cell? ⟨w.heap.size,2,none⟩=some (.int .i64 x2):=by rw[hW0,cell_of_row _ w.heap.size 2 _ 165 (0,0) (Df w _)];rfl
 have c13:W0.cell? ⟨w.heap.size,3,none⟩=some (.int .i64 x3):=by rw[hW0,cell_of_row _ w.heap.size 3 _ 165 (0,0) (Df w _)];rfl
 have c14:W0.cell? ⟨w.heap.size,4,none⟩=some (.int .i64 x4):=by rw[hW0,cell_of_row _ w.heap.size 4 _ 165 (0,0) (Df w _)];rfl
 have HW0:=Aq hW0;have HSO:=Aq hso;clear hW0 hso
 go_enter Tryz.func243,Tryz.ntmps243
 go_wp2;rw[<-HW0.out]
 go_loopw [6] (fun i wr=>∃k:Nat,i=.int .i64 k/\k<=n/\Hid (∀j,k<=j->∀z,xs[j]?=some z->x3<z.2.2.2.1)/\Below W0.heap.size W0 wr) (fun i _=>(intOf i).toNat)
 case atStart=>exact⟨n,rfl,Aj _,Aq (fun j hj z hz=>by have:=(Bk.1 hz).1;have:=hl.out;omega),Aw _ _⟩
 case round=>
  obtain⟨k,rfl,hk,H,hb⟩:=hrel;have hbb:Below w.heap.size w wr:=hb0.trans (hb.mono (by omega));have hsz:=hb.size;rw[hs0]at hsz;have d1:wr.cell? ⟨w.heap.size,3,none⟩=some (.int .i64 x3):=by rw[hb.cell (by simp;omega)];exact c13
  by_cases hlt:0<k
  ·obtain⟨b,o,⟨p0,p1,p2,p3,p4⟩,rfl,hab,X,hcc⟩:=(hx.below hbb).at zde (by decide) (k:=k-1) (by omega);have hc3:wr.cell? ⟨b,o+(k-1)*5+3,none⟩=some (.int .i64 p3):=hcc 3 _ rfl;clear hcc;have hkk:IntKind.i64.wrap ((k:Int)-1)=((k-1:Nat):Int):=(by rw[IntWalk.i64_in _ (by omega)];omega);have hbr:b<wr.heap.size:=Cq hab hbb.size;have hd0:decide (0<k)=true:=by simpa using hlt
   by_cases hle:x3<p3
   ·have H2:Hid (∀j,k-1<=j->∀z,xs[j]?=some z->x3<z.2.2.2.1):=fun j hj z hz=>by
     rcases Fj j k with h|h
     ·obtain rfl:j=k-1:=by omega
      rw[X.out]at hz;injection hz with hz
      subst hz;exact hle
     exact H.out j h z hz
    have hd1:decide (x3<p3)=true:=(by simpa using hle);go_wp2
    go_quiet (fail)
    go_wp2;go_roundw
    case rel=>exact⟨k-1,by first|rfl|go_num|(rw[hkk]),by omega,H2,zad hb _⟩
    case measure=>first|go_num|omega|(simp only[intOf];omega)
   have hd1:decide (x3<p3)=false:=(by simpa using hle);have hK:=Aq (zp0 HSO.out (by have:=hl.out;omega) H.out (fun _ z hz=>by rw[X.out]at hz;injection hz with hz;subst hz;exact(by omega:p3<=x3)));clear hkk;go_wp2
   go_quiet (fail)
   obtain⟨wq,hwq⟩:∃wq:Yw,wq=wr.drewN nq:=⟨_,rfl⟩;have bq:Below w.heap.size w wq:=(by rw[hwq];exact zad hbb _);have bq0:Below W0.heap.size W0 wq:=(by rw[hwq];exact zad hb _);have sq:w.heap.size+1<=wq.heap.size:=(by have:=bq0.size;omega);have t10:wq.cell? ⟨w.heap.size,0,none⟩=some (.int .i64 x0):=(by rw[bq0.cell (by simp;omega)];exact c10);have t11:wq.cell? ⟨w.heap.size,1,none⟩=some (.int .i64 x1):=(by rw[bq0.cell (by simp;omega)];exact c11);have t12:wq.cell? ⟨w.heap.size,2,none⟩=some (.int .i64 x2):=(by rw[bq0.cell (by simp;omega)];exact c12);have t13:wq.cell? ⟨w.heap.size,3,none⟩=some (.int .i64 x3):=(by rw[bq0.cell (by simp;omega)];exact c13);have t14:wq.cell? ⟨w.heap.size,4,none⟩=some (.int .i64 x4):=(by rw[bq0.cell (by simp;omega)];exact c14);have hP:=Aq (show zcb xs (x0,x1,x2,x3,x4)=xs.take k++[(x0,x1,x2,x3,x4)]++xs.drop k by rw[zcb,hK.out];rfl);have h0:(wq.alloc (.cells #[] 165)).ownsRow wq.heap.size 165 5 (.slice (some ⟨wq.heap.size,0,none⟩) 0 0) 0 []:=World.ownsRow_made _ _ _ (Aj _) (by simp[maxLen]) rfl;have hba:Below wq.heap.size wq (wq.alloc (.cells #[] 165)):=(Aw _ _).alloc (Aj _) _;have bw0:=zaa bq hba;have r1:=(hx.head zde hk).reads.below bw0;have r2:=(hx.cut zde (k:=k) hk hc).reads
   have fin:∀v (w2:Yw),w2.ownsRow wq.heap.size 165 5 v (k+1+(n-k)) (((xs.take k).flatMap cl++cl (x0,x1,x2,x3,x4))++(xs.drop k).flatMap cl)->OA cl 165 5 w.heap.size w2.heap.size w2 v (zcb xs (x0,x1,x2,x3,x4)):=by
    intro v w2 h;have e1:((xs.take k).flatMap cl++cl (x0,x1,x2,x3,x4))++(xs.drop k).flatMap cl=(zcb xs (x0,x1,x2,x3,x4)).flatMap cl:=(by rw[hP.out,List.flatMap_append,List.flatMap_append,List.flatMap_cons,List.flatMap_nil,List.append_nil]);have e2:(zcb xs (x0,x1,x2,x3,x4)).length=k+1+(n-k):=(by rw[hP.out,Cw,Cw,Ey,List.length_drop,hl.out,Nat.min_eq_left hk];rfl);unfold OA;rw[e2];rw[e1]at h;exact(OX.of_own h).wide (by omega) (Aj _)
   have FIN:=Aq fin;rw[<-hwq];clear fin hwq hP
   by_cases hck:c=k
   ·rw[if_pos hck]at r2;subst hck;obtain rfl:n=c:=by omega
    rw[Nat.sub_self]at r2 FIN;have tok1:True:=trivial;go_wp2_with (first|(at_builtin;have _t:=tok1;refine zcz zc6 rfl _ _ rfl h0 rfl r1 rfl (ze2 _) (by unfold maxLen;omega) (by omega) hba.size ?_;intro v1 w1 own1 gr1 bel1;rw[Nat.zero_add,List.nil_append]at own1;obtain⟨A1,c1',rfl,-⟩:=zb0 own1;have hb1:=hba.trans bel1;have s1:=hb1.size;have k10:w1.cell? ⟨w.heap.size,0,none⟩=some (.int .i64 x0):=(by rw[hb1.cell (by simp;omega)];exact t10);have k11:w1.cell? ⟨w.heap.size,1,none⟩=some (.int .i64 x1):=(by rw[hb1.cell (by simp;omega)];exact t11);have k12:w1.cell? ⟨w.heap.size,2,none⟩=some (.int .i64 x2):=(by rw[hb1.cell (by simp;omega)];exact t12);have k13:w1.cell? ⟨w.heap.size,3,none⟩=some (.int .i64 x3):=(by rw[hb1.cell (by simp;omega)];exact t13);have k14:w1.cell? ⟨w.heap.size,4,none⟩=some (.int .i64 x4):=(by rw[hb1.cell (by simp;omega)];exact t14);clear tok1 _t)|(at_builtin;have _t:=own1;refine zgl zc6 #[.int .i64 x0,.int .i64 x1,.int .i64 x2,.int .i64 x3,.int .i64 x4] rfl _ _ rfl own1 rfl rfl rfl (by simp[Value.oneCell']) (by unfold maxLen;omega) (by omega) hb1.size ?_;intro v2 w2 own2 gr2 bel2;obtain⟨A2,c2',rfl,-⟩:=zb0 own2;have hb2:=hb1.trans bel2;clear own1 _t)|(at_builtin;refine zcz zc6 rfl _ _ rfl own2 rfl (r2.below (zaa bq hb2)) rfl (ze2 _) (by unfold maxLen;omega) (by omega) hb2.size ?_;intro v3 w3 own3 gr3 bel3));refine Cy (v:=.tuple #[v3,.int .i64 n]) (by simp[results,Tryz.results243,go_sem]) rfl ?_;rw[hK.out];exact⟨_,rfl,FIN.out _ _ own3,zaa bq (hb2.trans bel3)⟩
   rw[if_neg hck,Option.map_some,Addr.add_lit]at r2;have tok1:True:=trivial;go_wp2_with (first|(at_builtin;have _t:=tok1;refine zcz zc6 rfl _ _ rfl h0 rfl r1 rfl (ze2 _) (by unfold maxLen;omega) (by omega) hba.size ?_;intro v1 w1 own1 gr1 bel1;rw[Nat.zero_add,List.nil_append]at own1;obtain⟨A1,c1',rfl,-⟩:=zb0 own1;have hb1:=hba.trans bel1;have s1:=hb1.size;have k10:w1.cell? ⟨w.heap.size,0,none⟩=some (.int .i64 x0):=(by rw[hb1.cell (by simp;omega)];exact t10);have k11:w1.cell? ⟨w.heap.size,1,none⟩=some (.int .i64 x1):=(by rw[hb1.cell (by simp;omega)];exact t11);have k12:w1.cell? ⟨w.heap.size,2,none⟩=some (.int .i64 x2):=(by rw[hb1.cell (by simp;omega)];exact t12);have k13:w1.cell? ⟨w.heap.size,3,none⟩=some (.int .i64 x3):=(by rw[hb1.cell (by simp;omega)];exact t13);have k14:w1.cell? ⟨w.heap.size,4,none⟩=some (.int .i64 x4):=(by rw[hb1.cell (by simp;omega)];exact t14);clear tok1 _t)|(at_builtin;have _t:=own1;refine zgl zc6 #[.int .i64 x0,.int .i64 x1,.int .i64 x2,.int .i64 x3,.int .i64 x4] rfl _ _ rfl own1 rfl rfl rfl (by simp[Value.oneCell']) (by unfold maxLen;omega) (by omega) hb1.size ?_;intro v2 w2 own2 gr2 bel2;obtain⟨A2,c2',rfl,-⟩:=zb0 own2;have hb2:=hb1.trans bel2;clear own1 _t)|(at_builtin;refine zcz zc6 rfl _ _ rfl own2 rfl (r2.below (zaa bq hb2)) rfl (ze2 _) (by unfold maxLen;omega) (by omega) hb2.size ?_;intro v3 w3 own3 gr3 bel3));refine Cy (v:=.tuple #[v3,.int .i64 k]) (by simp[results,Tryz.results243,go_sem]) rfl ?_;rw[hK.out];exact⟨_,rfl,FIN.out _ _ own3,zaa bq (hb2.trans bel3)⟩
  have hd0:decide (0<k)=false:=by simpa using hlt
  have hK:=Aq (zp0 HSO.out (by have:=hl.out;omega) H.out (fun h=>absurd h hlt));go_wp2
  go_quiet (fail)
  obtain⟨wq,hwq⟩:∃wq:Yw,wq=wr.drewN nq:=⟨_,rfl⟩;have bq:Below w.heap.size w wq:=by rw[hwq];exact zad hbb _
  have bq0:Below W0.heap.size W0 wq:=by rw[hwq];exact zad hb _
  have sq:w.heap.size+1<=wq.heap.size:=by have:=bq0.size;omega
  have t10:wq.cell? ⟨w.heap.size,0,none⟩=some (.int .i64 x0):=by rw[bq0.cell (by simp;omega)];exact c10
  have t11:wq.cell? ⟨w.heap.size,1,none⟩=some (.int .i64 x1):=by rw[bq0.cell (by simp;omega)];exact c11
  have t12:wq.cell? ⟨w.heap.size,2,none⟩=some (.int .i64 x2):=by rw[bq0.cell (by simp;omega)];exact c12
  have t13:wq.cell? ⟨w.heap.size,3,none⟩=some (.int .i64 x3):=by rw[bq0.cell (by simp;omega)];exact c13
  have t14:wq.cell? ⟨w.heap.size,4,none⟩=some (.int .i64 x4):=by rw[bq0.cell (by simp;omega)];exact c14
  have hP:=Aq (show zcb xs (x0,x1,x2,x3,x4)=xs.take k++[(x0,x1,x2,x3,x4)]++xs.drop k by rw[zcb,hK.out];rfl);have h0:(wq.alloc (.cells #[] 165)).ownsRow wq.heap.size 165 5 (.slice (some ⟨wq.heap.size,0,none⟩) 0 0) 0 []:=World.ownsRow_made _ _ _ (Aj _) (by simp[maxLen]) rfl;have hba:Below wq.heap.size wq (wq.alloc (.cells #[] 165)):=(Aw _ _).alloc (Aj _) _;have bw0:=zaa bq hba;have r1:=(hx.head zde hk).reads.below bw0;have r2:=(hx.cut zde (k:=k) hk hc).reads
  have fin:∀v (w2:Yw),w2.ownsRow wq.heap.size 165 5 v (k+1+(n-k)) (((xs.take k).flatMap cl++cl (x0,x1,x2,x3,x4))++(xs.drop k).flatMap cl)->OA cl 165 5 w.heap.size w2.heap.size w2 v (zcb xs (x0,x1,x2,x3,x4)):=by
   intro v w2 h;have e1:((xs.take k).flatMap cl++cl (x0,x1,x2,x3,x4))++(xs.drop k).flatMap cl=(zcb xs (x0,x1,x2,x3,x4)).flatMap cl:=(by rw[hP.out,List.flatMap_append,List.flatMap_append,List.flatMap_cons,List.flatMap_nil,List.append_nil]);have e2:(zcb xs (x0,x1,x2,x3,x4)).length=k+1+(n-k):=(by rw[hP.out,Cw,Cw,Ey,List.length_drop,hl.out,Nat.min_eq_left hk];rfl);unfold OA;rw[e2];rw[e1]at h;exact(OX.of_own h).wide (by omega) (Aj _)
  have FIN:=Aq fin;rw[<-hwq];clear fin hwq hP;obtain rfl:k=0:=by omega
  rcases A with _|ad
  ·have r2:Reads w w.heap.size 5 none (n-0) ((xs.drop 0).flatMap cl):=(by simpa using r2);have tok1:True:=trivial;go_wp2_with (first|(at_builtin;have _t:=tok1;refine zcz zc6 rfl _ _ rfl h0 rfl r1 rfl (ze2 _) (by unfold maxLen;omega) (by omega) hba.size ?_;intro v1 w1 own1 gr1 bel1;rw[Nat.zero_add,List.nil_append]at own1;obtain⟨A1,c1',rfl,-⟩:=zb0 own1;have hb1:=hba.trans bel1;have s1:=hb1.size;have k10:w1.cell? ⟨w.heap.size,0,none⟩=some (.int .i64 x0):=(by rw[hb1.cell (by simp;omega)];exact t10);have k11:w1.cell? ⟨w.heap.size,1,none⟩=some (.int .i64 x1):=(by rw[hb1.cell (by simp;omega)];exact t11);have k12:w1.cell? ⟨w.heap.size,2,none⟩=some (.int .i64 x2):=(by rw[hb1.cell (by simp;omega)];exact t12);have k13:w1.cell? ⟨w.heap.size,3,none⟩=some (.int .i64 x3):=(by rw[hb1.cell (by simp;omega)];exact t13);have k14:w1.cell? ⟨w.heap.size,4,none⟩=some (.int .i64 x4):=(by rw[hb1.cell (by simp;omega)];exact t14);clear tok1 _t)|(at_builtin;have _t:=own1;refine zgl zc6 #[.int .i64 x0,.int .i64 x1,.int .i64 x2,.int .i64 x3,.int .i64 x4] rfl _ _ rfl own1 rfl rfl rfl (by simp[Value.oneCell']) (by unfold maxLen;omega) (by omega) hb1.size ?_;intro v2 w2 own2 gr2 bel2;obtain⟨A2,c2',rfl,-⟩:=zb0 own2;have hb2:=hb1.trans bel2;clear own1 _t)|(at_builtin;refine zcz zc6 rfl _ _ rfl own2 rfl (r2.below (zaa bq hb2)) rfl (ze2 _) (by unfold maxLen;omega) (by omega) hb2.size ?_;intro v3 w3 own3 gr3 bel3));refine Cy (v:=.tuple #[v3,.int .i64 0]) (by simp[results,Tryz.results243,go_sem]) rfl ?_;rw[hK.out];exact⟨_,rfl,FIN.out _ _ own3,zaa bq (hb2.trans bel3)⟩
  by_cases hck:c=0
  ·rw[if_pos hck]at r2;subst hck;obtain rfl:n=0:=by omega
   rw[Nat.sub_self]at r2 FIN;have tok1:True:=trivial;go_wp2_with (first|(at_builtin;have _t:=tok1;refine zcz zc6 rfl _ _ rfl h0 rfl r1 rfl (ze2 _) (by unfold maxLen;omega) (by omega) hba.size ?_;intro v1 w1 own1 gr1 bel1;rw[Nat.zero_add,List.nil_append]at own1;obtain⟨A1,c1',rfl,-⟩:=zb0 own1;have hb1:=hba.trans bel1;have s1:=hb1.size;have k10:w1.cell? ⟨w.heap.size,0,none⟩=some (.int .i64 x0):=(by rw[hb1.cell (by simp;omega)];exact t10);have k11:w1.cell? ⟨w.heap.size,1,none⟩=some (.int .i64 x1):=(by rw[hb1.cell (by simp;omega)];exact t11);have k12:w1.cell? ⟨w.heap.size,2,none⟩=some (.int .i64 x2):=(by rw[hb1.cell (by simp;omega)];exact t12);have k13:w1.cell? ⟨w.heap.size,3,none⟩=some (.int .i64 x3):=(by rw[hb1.cell (by simp;omega)];exact t13);have k14:w1.cell? ⟨w.heap.size,4,none⟩=some (.int .i64 x4):=(by rw[hb1.cell (by simp;omega)];exact t14);clear tok1 _t)|(at_builtin;have _t:=own1;refine zgl zc6 #[.int .i64 x0,.int .i64 x1,.int .i64 x2,.int .i64 x3,.int .i64 x4] rfl _ _ rfl own1 rfl rfl rfl (by simp[Value.oneCell']) (by unfold maxLen;omega) (by omega) hb1.size ?_;intro v2 w2 own2 gr2 bel2;obtain⟨A2,c2',rfl,-⟩:=zb0 own2;have hb2:=hb1.trans bel2;clear own1 _t)|(at_builtin;refine zcz zc6 rfl _ _ rfl own2 rfl (r2.below (zaa bq hb2)) rfl (ze2 _) (by unfold maxLen;omega) (by omega) hb2.size ?_;intro v3 w3 own3 gr3 bel3));refine Cy (v:=.tuple #[v3,.int .i64 0]) (by simp[results,Tryz.results243,go_sem]) rfl ?_;rw[hK.out];exact⟨_,rfl,FIN.out _ _ own3,zaa bq (hb2.trans bel3)⟩
  rw[if_neg hck,Option.map_some]at r2;have r2:Reads w w.heap.size 5 (some ad) (n-0) ((xs.drop 0).flatMap cl):=by rw[Nat.zero_mul]at r2;rwa [show ad.add 0=ad from zy5 _]at r2
  have tok1:True:=trivial;go_wp2_with (first|(at_builtin;have _t:=tok1;refine zcz zc6 rfl _ _ rfl h0 rfl r1 rfl (ze2 _) (by unfold maxLen;omega) (by omega) hba.size ?_;intro v1 w1 own1 gr1 bel1;rw[Nat.zero_add,List.nil_append]at own1;obtain⟨A1,c1',rfl,-⟩:=zb0 own1;have hb1:=hba.trans bel1;have s1:=hb1.size;have k10:w1.cell? ⟨w.heap.size,0,none⟩=some (.int .i64 x0):=(by rw[hb1.cell (by simp;omega)];exact t10);have k11:w1.cell? ⟨w.heap.size,1,none⟩=some (.int .i64 x1):=(by rw[hb1.cell (by simp;omega)];exact t11);have k12:w1.cell? ⟨w.heap.size,2,none⟩=some (.int .i64 x2):=(by rw[hb1.cell (by simp;omega)];exact t12);have k13:w1.cell? ⟨w.heap.size,3,none⟩=some (.int .i64 x3):=(by rw[hb1.cell (by simp;omega)];exact t13);have k14:w1.cell? ⟨w.heap.size,4,none⟩=some (.int .i64 x4):=(by rw[hb1.cell (by simp;omega)];exact t14);clear tok1 _t)|(at_builtin;have _t:=own1;refine zgl zc6 #[.int .i64 x0,.int .i64 x1,.int .i64 x2,.int .i64 x3,.int .i64 x4] rfl _ _ rfl own1 rfl rfl rfl (by simp[Value.oneCell']) (by unfold maxLen;omega) (by omega) hb1.size ?_;intro v2 w2 own2 gr2 bel2;obtain⟨A2,c2',rfl,-⟩:=zb0 own2;have hb2:=hb1.trans bel2;clear own1 _t)|(at_builtin;refine zcz zc6 rfl _ _ rfl own2 rfl (r2.below (zaa bq hb2)) rfl (ze2 _) (by unfold maxLen;omega) (by omega) hb2.size ?_;intro v3 w3 own3 gr3 bel3));refine Cy (v:=.tuple #[v3,.int .i64 0]) (by simp[results,Tryz.results243,go_sem]) rfl ?_;rw[hK.out];exact⟨_,rfl,FIN.out _ _ own3,zaa bq (hb2.trans bel3)⟩
theorem zy7{xs:List Clip}(h:za1 xs=true){k:Nat}{y z:Clip}(hy:xs[k]?=some y)(hz:xs[k+1]?=some z):y.2.2.2.1<=z.2.2.2.1:=by
 rw[za1,Cx,Ef]at h;have h1:=h.1 (k+1) (Gj.2 (Bk.1 hz).1);rw[zck,Cx]at h1;have h2:=h1.2;rw[zfj,hz,Nat.add_sub_cancel,hy]at h2;simpa using h2
theorem zy8{xs:List Clip}(h:za1 xs=true):zjx xs:=by
 intro i j
 induction j with
 | zero=>
  intro y z hij hy hz;obtain rfl:i=0:=by omega
  rw[hy]at hz;injection hz with hz
  subst hz;exact Int.le_refl _
 | succ j ih=>
  intro y z hij hy hz;rcases Fj i (j+1)with hlt|hge
  ·have hj:j<xs.length:=(by have:=(Bk.1 hz).1;omega);exact Int.le_trans (ih y _ (by omega) hy (Ak hj)) (zy7 h (Ak hj) hz)
  obtain rfl:i=j+1:=by omega
  rw[hy]at hz;injection hz with hz
  subst hz;exact Int.le_refl _
abbrev zgi (y z:Clip):Prop:=y.2.2.2.1<=z.2.2.2.1
theorem zp1(xs:List Clip):zjx xs↔xs.Pairwise zgi:=by
 rw[List.pairwise_iff_getElem];constructor
 ·intro h i j hi hj hij;exact h i j _ _ (by omega) (Ak hi) (Ak hj)
 intro h i j y z hij hy hz;obtain⟨hi,rfl⟩:=Bk.1 hy;obtain⟨hj,rfl⟩:=Bk.1 hz;rcases Fj i j with hlt|hge
 ·exact h i j hi hj hlt
 obtain rfl:i=j:=by omega
 exact Int.le_refl _
theorem zp2(xs:List Clip):za1 xs=true↔(∀c∈xs,zb6 c=true)/\xs.Pairwise zgi/\xs.length<=12:=by
 constructor
 ·intro h;refine⟨fun c hc=>?_,(zp1 xs).1 (zy8 h),zly h⟩;obtain⟨i,hi,rfl⟩:=List.getElem_of_mem hc;exact zj8 h (Ak hi)
 rintro⟨h1,h2,h3⟩;rw[za1,Cx,decide_eq_true_iff,Ef];refine⟨fun k hk=>?_,h3⟩;have hk:=Gj.1 hk;rw[zck,Cx,Ak hk];refine⟨h1 _ (List.getElem_mem hk),?_⟩;rw[zfj,Bool.or_eq_true]
 by_cases h0:k=0
 ·left;simp[h0]
 right
 rw[Ak hk,Ak (by omega)];have:=List.pairwise_iff_getElem.1 h2 (k-1) k (by omega) hk (by omega);simpa using this
theorem zp3(xs:List Clip)(x:Clip):zcb xs x=xs.take (zdd xs x.2.2.2.1)++x::xs.drop (zdd xs x.2.2.2.1):=by
 simp[zcb,zpz]
theorem zy9{xs:List Clip}{a:Int}{y:Clip}(h:y∈xs.take (zdd xs a)):y.2.2.2.1<=a:=by
 obtain⟨i,hi,rfl⟩:=List.getElem_of_mem h;rw[List.getElem_take];rw[Ey]at hi;unfold zdd at hi;cases hf:xs.findIdx? (zfh a)with
 | none=>
  rw[List.findIdx?_eq_none_iff]at hf;have:=hf (xs[i]'(by omega)) (List.getElem_mem _);rw[zfh,Fy]at this;omega
 | some k=>
  rw[hf]at hi;simp only[Option.getD_some]at hi;rw[List.findIdx?_eq_some_iff_getElem]at hf;have:=hf.2.2 i (by omega);rw[zfh,decide_eq_true_iff]at this;omega
theorem zp4{xs:List Clip}{a:Int}{y:Clip}(hs:xs.Pairwise zgi)(h:y∈xs.drop (zdd xs a)):a<y.2.2.2.1:=by
 obtain⟨i,hi,rfl⟩:=List.getElem_of_mem h;rw[List.getElem_drop];rw[List.length_drop]at hi;obtain⟨k,hk⟩:∃k,zdd xs a=k:=⟨_,rfl⟩;simp only[hk]at hi ⊢
 have hf:xs.findIdx? (zfh a)=some k:=by
  unfold zdd at hk;cases hf:xs.findIdx? (zfh a)with
  | none=>rw[hf]at hk;simp at hk;omega
  | some q=>rw[hf]at hk;simp at hk;rw[hk]
 rw[List.findIdx?_eq_some_iff_getElem]at hf;obtain⟨hk2,h1,_⟩:=hf;rw[zfh,decide_eq_true_iff]at h1
 by_cases h0:i=0
 ·subst h0;exact h1
 have:=List.pairwise_iff_getElem.1 hs k (k+i) hk2 (by omega) (by omega);unfold zgi at this;omega
theorem zza{xs:List Clip}(x:Clip)(hs:xs.Pairwise zgi):(zcb xs x).Pairwise zgi:=by
 rw[zp3,List.pairwise_append];refine⟨hs.sublist (List.take_sublist _ _),?_,?_⟩
 ·rw[List.pairwise_cons];exact⟨fun y hy=>Int.le_of_lt (zp4 hs hy),hs.sublist (List.drop_sublist _ _)⟩
 intro y hy z hz;have h1:=zy9 hy;rcases List.mem_cons.1 hz with rfl|hz
 ·exact h1
 have:=zp4 hs hz;unfold zgi;omega
theorem zp5(xs:List Clip)(x:Clip):(zcb xs x).Perm (x::xs):=by
 rw[zp3];refine List.perm_middle.trans (List.Perm.cons _ ?_);rw[List.take_append_drop]
theorem zp6(xs:List Clip)(x:Clip):(zcb xs x).length=xs.length+1:=by rw[(zp5 xs x).length_eq,Dk]
theorem zzb{xs:List Clip}{x y:Clip}:y∈zcb xs x↔y=x\/y∈xs:=by rw[(zp5 xs x).mem_iff,List.mem_cons]
structure DT (w:Yw) (b lo:Nat) (A:Yo) (n c:Nat) (code:List UInt8) (K:Nat) (xs:List Clip) (A1:Yo) (c1:Nat) (wr:Yw):Prop where
 c0:wr.cell? ⟨w.heap.size,0,none⟩=some (.slice none 0 0)
 f0:wr.frozen? ⟨w.heap.size,0,none⟩=false
 own:OA cl 165 5 (w.heap.size+1) wr.heap.size wr (.slice A1 xs.length c1) xs
 src:Src wr b lo A n c code K
 mid:Mid b (b+1) w wr
 sz:w.heap.size+1<=wr.heap.size
theorem DT.step{w wr w':Yw}{b lo:Nat}{A A1:Yo}{n c c1:Nat}{code:List UInt8}{K K':Nat}{xs:List Clip}(h:DT w b lo A n c code K xs A1 c1 wr)(hb:b<w.heap.size)(hs:Src w' b lo A n c code K')(hm:Mid b (b+1) wr w'):DT w b lo A n c code K' xs A1 c1 w':=
 have hz:=h.sz
 ⟨hm.cellK (by omega) (.inr (by omega)) h.c0,hm.frozK (by omega) (.inr (by omega)) h.f0,
  (h.own.mid hm (.inr (by omega)) (Aj _)).wide (Aj _) hm.size,hs,h.mid.trans hm,Nat.le_trans hz hm.size⟩
theorem DT.more{w wr:Yw}{b lo:Nat}{A A1:Yo}{n c c1:Nat}{code:List UInt8}{K K':Nat}{xs:List Clip}(h:DT w b lo A n c code K xs A1 c1 wr)(hK:K<=K'):DT w b lo A n c code K' xs A1 c1 wr:=
 ⟨h.c0,h.f0,h.own,h.src.more hK,h.mid,h.sz⟩
def zf4 (m:Nat) (xs:List Clip):Prop:=(∀c∈xs,zb6 c=true/\0<=c.1/\c.1<m)/\xs.Pairwise zgi
theorem zzc(m:Nat):zf4 m []:=⟨by simp,by simp⟩
theorem zzd{m:Nat}{xs:List Clip}{x:Clip}(h:zf4 m xs)(hx:zb6 x=true/\0<=x.1/\x.1<m):zf4 m (zcb xs x):=
 ⟨fun c hc=>by
  rcases zzb.1 hc with rfl|hc
  ·exact hx
  exact h.1 c hc,zza x h.2⟩
theorem zp7{m:Nat}{xs:List Clip}(h:zf4 m xs)(hl:xs.length<=12):za1 xs=true:=(zp2 xs).2 ⟨fun c hc=>(h.1 c hc).1,h.2,hl⟩
theorem zze{m:Nat}{xs:List Clip}(h:zf4 m xs):zbq xs m=true:=by
 rw[zbq,Ef];intro c hc;have:=(h.1 c hc).2;simp;omega
theorem zzf(A:Yo)(n c:Nat)(xs:List Clip)(p0 p1 p2 p3 p4:Int)(w:Yw)(hx:RA cl 5 w w.heap.size A n xs)(hc:n<=c)(hm:c<=maxLen)(hok:za1 xs=true)(hcl:zb6 (p0,p1,p2,p3,p4)=true)(hn:n<=11):
 Calls Tryz.prog 213 #[.agg #[.slice A n c],.agg #[.int .i64 p0,.int .i64 p1,.int .i64 p2,.int .i64 p3,.int .i64 p4]] w fun e w'=>∃A' c',e=.returned (.tuple #[.agg #[.slice A' (n+1) c'],.int .i64 (zdd xs p3),.int .i64 0])/\OA cl 165 5 w.heap.size w'.heap.size w' (.slice A' (n+1) c') (zcb xs (p0,p1,p2,p3,p4))/\Below w.heap.size w w':=by
 have hl:=Aq hx.len;have hpl:=Aq (show (zcb xs (p0,p1,p2,p3,p4)).length=n+1 by rw[zp6,hl.out]);obtain⟨W,hW⟩:∃W,W=((w.alloc (.cells #[.slice A n c] 98)).alloc (.cells #[.int .i64 p0,.int .i64 p1,.int .i64 p2,.int .i64 p3,.int .i64 p4] 165)).alloc (.cells #[.slice none 0 0] 98):=⟨_,rfl⟩;have B0:Below w.heap.size w W:=by rw[hW];exact(((Aw _ _).alloc (Aj _) _).alloc (by simp) _).alloc (by simp;omega) _
 have z0:w.heap.size+1+1<W.heap.size:=by rw[hW];simp
 have c0:W.cell? ⟨w.heap.size,0,none⟩=some (.slice A n c):=by rw[hW];simp[go_sem]
 have d0:W.cell? ⟨w.heap.size+1,0,none⟩=some (.int .i64 p0):=by rw[hW];simp[go_sem]
 have d1:W.cell? ⟨w.heap.size+1,1,none⟩=some (.int .i64 p1):=by rw[hW];simp[go_sem]
 have d2:W.cell? ⟨w.heap.size+1,2,none⟩=some (.int .i64 p2):=by rw[hW];simp[go_sem]
 have d3:W.cell? ⟨w.heap.size+1,3,none⟩=some (.int .i64 p3):=by rw[hW];simp[go_sem]
 have d4:W.cell? ⟨w.heap.size+1,4,none⟩=some (.int .i64 p4):=by rw[hW];simp[go_sem]
 have q0:W.cell? ⟨w.heap.size+1+1,0,none⟩=some (.slice none 0 0):=by rw[hW];simp[go_sem]
 have f0:W.frozen? ⟨w.heap.size+1+1,0,none⟩=false:=by rw[hW];simp[go_sem]
 have HW:=Aq hW;have OK:=Aq hok;have OC:=Aq hcl;have HSO:=Aq ((zp1 xs).2 ((zp2 xs).1 hok).2.1);clear hW hok hcl;have hx1:=hx.later B0
 go_enter Tryz.func213,Tryz.ntmps213
 go_wp2_with fail;rw[<-HW.out];refine(zlv _ _ _ _ _ W c0 hx1 (by omega)).mono ?_;rw[OK.out];rintro e w2 ⟨rfl,b2⟩;have lk:∀b o u,b<W.heap.size->W.cell? ⟨b,o,none⟩=some u->w2.cell? ⟨b,o,none⟩=some u:=fun b o u h1 h2=>by rw[b2.cell h1];exact h2
 have LK:=Aq lk;clear lk;have g0:=LK.out _ _ _ (by omega) d0;have g1:=LK.out _ _ _ (by omega) d1;have g2:=LK.out _ _ _ (by omega) d2;have g3:=LK.out _ _ _ (by omega) d3;have g4:=LK.out _ _ _ (by omega) d4;have gc:=LK.out _ _ _ (by omega) c0;have gq:=LK.out _ _ _ (by omega) q0;have gf:w2.frozen? ⟨w.heap.size+1+1,0,none⟩=false:=by rw[b2.frozen (by show w.heap.size+1+1<_;omega)];exact f0
 have l2:=Cq z0 b2.size;go_wp2_with fail;refine(zho _ 0 (p0,p1,p2,p3,p4) w2 g0 g1 g2 g3 g4).mono ?_;rw[OC.out];rintro e w3 ⟨rfl,m3,hw3⟩;have b3:Below w2.heap.size w2 w3:=by rw[hw3];exact zad (Aw _ _) _
 clear hw3;have lk:∀b o u,b<w2.heap.size->w2.cell? ⟨b,o,none⟩=some u->w3.cell? ⟨b,o,none⟩=some u:=fun b o u h1 h2=>by rw[b3.cell h1];exact h2
 have LK3:=Aq lk;clear lk;have e0:=LK3.out _ _ _ (by omega) g0;have e1:=LK3.out _ _ _ (by omega) g1;have e2:=LK3.out _ _ _ (by omega) g2;have e3:=LK3.out _ _ _ (by omega) g3;have e4:=LK3.out _ _ _ (by omega) g4;have ec:=LK3.out _ _ _ (by omega) gc;have eq:=LK3.out _ _ _ (by omega) gq;have ef:w3.frozen? ⟨w.heap.size+1+1,0,none⟩=false:=by rw[b3.frozen (by show w.heap.size+1+1<_;omega)];exact gf
 have l3:=Cq l2 b3.size;have B3:=zaa (zaa B0 b2) b3;have hn12:¬12<=(n:Int):=by omega
 clear c0 d0 d1 d2 d3 d4 q0 f0 g0 g1 g2 g3 g4 gc gq gf;go_wp2_with fail;refine(zy6 _ _ _ _ p0 p1 p2 p3 p4 w3 (hx.later B3) (by omega) hc hm HSO.out).mono ?_;rintro e w4 ⟨v4,rfl,own4,b4⟩;obtain⟨A4,c4,rfl,-⟩:=own4.shape;rw[hpl.out]at own4 ⊢;have tq:w4.cell? ⟨w.heap.size+1+1,0,none⟩=some (.slice none 0 0):=by rw[b4.cell l3];exact eq
 have tf:w4.frozen? ⟨w.heap.size+1+1,0,none⟩=false:=by rw[b4.frozen l3];exact ef
 have l4:=Cq l3 b4.size;have s4:=b4.size;have B4:=zaa B3 b4;clear e0 e1 e2 e3 e4 ec eq ef;go_wp2;refine Cy (v:=.tuple #[.agg #[.slice A4 (n+1) c4],.int .i64 (zdd xs p3),.int .i64 0]) (by simp[results,Tryz.results213,go_sem,tq,tf]) rfl ?_;have hm:Mid (w.heap.size+1+1) (w.heap.size+1+1+1) w4 (w4.setCell ⟨w.heap.size+1+1,0,none⟩ (.slice A4 (n+1) c4)):=Mid.cell w4 _ 0 _;exact⟨_,_,rfl,(own4.mid hm (.inr (by omega)) (Aj _)).wide (by omega) hm.size,B4.setCell (by simp;omega) _⟩
section
structure DK (w:Yw) (b lo:Nat) (A:Yo) (n c:Nat) (code:List UInt8) (K:Nat) (xs:List Clip) (A1:Yo) (c1:Nat) (wr:Yw):Prop where
 e0:wr.cell? ⟨w.heap.size,0,none⟩=some (.slice none 0 0)
 g0:wr.frozen? ⟨w.heap.size,0,none⟩=false
 e1:wr.cell? ⟨w.heap.size+1,0,none⟩=some (.slice A1 xs.length c1)
 g1:wr.frozen? ⟨w.heap.size+1,0,none⟩=false
 own:OA cl 165 5 (w.heap.size+2) wr.heap.size wr (.slice A1 xs.length c1) xs
 src:Src wr b lo A n c code K
 mid:Mid b (b+1) w wr
 sz:w.heap.size+2<=wr.heap.size
section
variable {w wr w':Yw} {b lo:Nat} {A A1 :Yo} {n c c1:Nat} {code:List UInt8} {K K':Nat} {xs:List Clip}
theorem DK.step(h:DK w b lo A n c code K xs A1 c1 wr)(hb:b<w.heap.size)(hs:Src w' b lo A n c code K')(hm:Mid b (b+1) wr w'):DK w b lo A n c code K' xs A1 c1 w':=
 have hz:=h.sz
 ⟨hm.cellK (by omega) (.inr (by omega)) h.e0,hm.frozK (by omega) (.inr (by omega)) h.g0,hm.cellK (by omega) (.inr (by omega)) h.e1,hm.frozK (by omega) (.inr (by omega)) h.g1,
  (h.own.mid hm (.inr (by omega)) (Aj _)).wide (Aj _) hm.size,hs,h.mid.trans hm,Nat.le_trans hz hm.size⟩
theorem DK.more(h:DK w b lo A n c code K xs A1 c1 wr)(hK:K<=K'):DK w b lo A n c code K' xs A1 c1 wr:=
 ⟨h.e0,h.g0,h.e1,h.g1,h.own,h.src.more hK,h.mid,h.sz⟩
theorem DK.below{B:Nat}(h:DK w b lo A n c code K xs A1 c1 wr)(hb:b<w.heap.size)(hB:Below B wr w')(hw:wr.heap.size<=B):DK w b lo A n c code K xs A1 c1 w':=
 have hB':=hB.mono hw
 h.step hb (h.src.below hB' h.src.lt) (Mid.of_below hB' _ _)
end
def zp8 (b lo:Nat) (A:Yo) (n c:Nat) (code:List UInt8) (K m:Nat) (w:Yw) (e:Ending) (w':Yw):Prop:=
 ∃A1 c1 xs,e=.returned (.agg #[.slice A1 (List.length xs) c1])/\OA cl 165 5 w.heap.size w'.heap.size w' (.slice A1 xs.length c1) xs/\xs.length<=3/\Hid (zf4 m xs)/\Src w' b lo A n c code K/\Mid b (b+1) w w'
theorem zzg(b lo:Nat)(A:Yo)(n c:Nat)(code:List UInt8)(K:Nat)(w:Yw)(h:Src w b lo A n c code K)(hK:K<=1000000000):
 Calls Tryz.prog 108 #[.pointer (some ⟨b,0,none⟩),.slice (some ⟨w.heap.size,0,none⟩) 6 6] (w.alloc (.cells #[.int .i64 1,.int .i64 1,.int .i64 2,.int .i64 (-1),.int .i64 3,.int .i64 65536] 2)) (Drew b lo A n c code (K+2) (fun v=>-2147483648<=v/\v<=2147483647) w):=by
 have hB:Below w.heap.size w (w.alloc (.cells #[.int .i64 1,.int .i64 1,.int .i64 2,.int .i64 (-1),.int .i64 3,.int .i64 65536] 2)):=(Aw _ _).alloc (Aj _) _;have hb:=h.lt;refine(zgs b lo A n c code K w.heap.size 6 6 [1,1,2,-1,3,65536] _ (h.below hB hb) (by omega) rfl (by omega) (by omega) (by simp) ?_).mono ?_
 ·intro j x hx;rw[cell_of_row _ w.heap.size j _ 2 (0,0) (Df w _)]
  match j,hx with
  | 0,hx=>simp at hx;subst hx;rfl
  | 1,hx=>simp at hx;subst hx;rfl
  | 2,hx=>simp at hx;subst hx;rfl
  | 3,hx=>simp at hx;subst hx;rfl
  | 4,hx=>simp at hx;subst hx;rfl
  | 5,hx=>simp at hx;subst hx;rfl
  | j+6,hx=>simp at hx
 rintro e w2 ⟨x,rfl,hx,s3,m3⟩;exact⟨x,rfl,by simp only[List.mem_cons,List.not_mem_nil,or_false]at hx;omega,s3,(Mid.of_below hB _ _).trans m3⟩
structure CB (g:Nat) (p0 p1 p2 p3 p4:Int) (w:Yw):Prop where
 c0:w.cell? ⟨g,0,none⟩=some (.int .i64 p0)
 c1:w.cell? ⟨g,1,none⟩=some (.int .i64 p1)
 c2:w.cell? ⟨g,2,none⟩=some (.int .i64 p2)
 c3:w.cell? ⟨g,3,none⟩=some (.int .i64 p3)
 c4:w.cell? ⟨g,4,none⟩=some (.int .i64 p4)
 f1:w.frozen? ⟨g,1,none⟩=false
 f2:w.frozen? ⟨g,2,none⟩=false
 f3:w.frozen? ⟨g,3,none⟩=false
 f4:w.frozen? ⟨g,4,none⟩=false
 lt:g<w.heap.size
theorem CB.new(w:Yw)(p0:Int):CB w.heap.size p0 0 0 0 0 (w.alloc (.cells #[.int .i64 p0,.int .i64 0,.int .i64 0,.int .i64 0,.int .i64 0] 165)):=
 ⟨by simp[go_sem],by simp[go_sem],by simp[go_sem],by simp[go_sem],by simp[go_sem],by simp[go_sem],by simp[go_sem],by simp[go_sem],by simp[go_sem],by simp⟩
section
variable {g b:Nat} {p0 p1 p2 p3 p4:Int} {w w':Yw}
theorem CB.mid(h:CB g p0 p1 p2 p3 p4 w)(hm:Mid b (b+1) w w')(hg:g≠b):CB g p0 p1 p2 p3 p4 w':=
 have hl:=h.lt
 ⟨hm.cellK hl (by omega) h.c0,hm.cellK hl (by omega) h.c1,hm.cellK hl (by omega) h.c2,hm.cellK hl (by omega) h.c3,hm.cellK hl (by omega) h.c4,hm.frozK hl (by omega) h.f1,hm.frozK hl (by omega) h.f2,hm.frozK hl (by omega) h.f3,hm.frozK hl (by omega) h.f4,Cq hl hm.size⟩
theorem CB.s1(h:CB g p0 p1 p2 p3 p4 w)(x:Int):CB g p0 x p2 p3 p4 (w.setCell ⟨g,1,none⟩ (.int .i64 x)):=
 ⟨(zaf w g _ (by decide)).trans h.c0,Dj _ _ _ h.c1,(zaf w g _ (by decide)).trans h.c2,(zaf w g _ (by decide)).trans h.c3,(zaf w g _ (by decide)).trans h.c4,(Bf _ _ _ _).trans h.f1,(Bf _ _ _ _).trans h.f2,(Bf _ _ _ _).trans h.f3,(Bf _ _ _ _).trans h.f4,by simpa using h.lt⟩
theorem CB.s2(h:CB g p0 p1 p2 p3 p4 w)(x:Int):CB g p0 p1 x p3 p4 (w.setCell ⟨g,2,none⟩ (.int .i64 x)):=
 ⟨(zaf w g _ (by decide)).trans h.c0,(zaf w g _ (by decide)).trans h.c1,Dj _ _ _ h.c2,(zaf w g _ (by decide)).trans h.c3,(zaf w g _ (by decide)).trans h.c4,(Bf _ _ _ _).trans h.f1,(Bf _ _ _ _).trans h.f2,(Bf _ _ _ _).trans h.f3,(Bf _ _ _ _).trans h.f4,by simpa using h.lt⟩
theorem CB.s3(h:CB g p0 p1 p2 p3 p4 w)(x:Int):CB g p0 p1 p2 x p4 (w.setCell ⟨g,3,none⟩ (.int .i64 x)):=
 ⟨(zaf w g _ (by decide)).trans h.c0,(zaf w g _ (by decide)).trans h.c1,(zaf w g _ (by decide)).trans h.c2,Dj _ _ _ h.c3,(zaf w g _ (by decide)).trans h.c4,(Bf _ _ _ _).trans h.f1,(Bf _ _ _ _).trans h.f2,(Bf _ _ _ _).trans h.f3,(Bf _ _ _ _).trans h.f4,by simpa using h.lt⟩
theorem CB.s4(h:CB g p0 p1 p2 p3 p4 w)(x:Int):CB g p0 p1 p2 p3 x (w.setCell ⟨g,4,none⟩ (.int .i64 x)):=
 ⟨(zaf w g _ (by decide)).trans h.c0,(zaf w g _ (by decide)).trans h.c1,(zaf w g _ (by decide)).trans h.c2,(zaf w g _ (by decide)).trans h.c3,Dj _ _ _ h.c4,(Bf _ _ _ _).trans h.f1,(Bf _ _ _ _).trans h.f2,(Bf _ _ _ _).trans h.f3,(Bf _ _ _ _).trans h.f4,by simpa using h.lt⟩
end
theorem zzh(b lo:Nat)(A:Yo)(n c:Nat)(code:List UInt8)(K:Nat)(A0:Yo)(m c0:Nat)(src:List (List Int))(w:Yw)(h:Src w b lo A n c code K)(hK:K<=100000)(hs:RS tS w w.heap.size (.slice A0 m c0) src)(hm:m<=6)(hl:Hid (∀x∈src,1<=x.length/\x.length<=15))(hnb:Hid (∀w',Mid b (b+1) w w'->RS tS w' w.heap.size (.slice A0 m c0) src)):
 Calls Tryz.prog 163 #[.pointer (some ⟨b,0,none⟩),.slice A0 m c0] w (zp8 b lo A n c code (K+40) m w):=by
 have hbw:=h.lt;have HLS:=Aq hs.cap.1;obtain⟨W0,hW0⟩:∃W,W=(w.alloc (.cells #[.slice none 0 0] 98)).alloc (.cells #[.slice none 0 0] 98):=⟨_,rfl⟩;have B0:Below w.heap.size w W0:=by rw[hW0];exact((Aw _ _).alloc (Aj _) _).alloc (by simp) _
 have d0:DK w b lo A n c code K [] none 0 W0:=by
  refine⟨by rw[hW0];simp[go_sem],by rw[hW0];simp[go_sem],by rw[hW0];simp[go_sem],by rw[hW0];simp[go_sem],OA.nil _,h.below B0 hbw,Mid.of_below B0 _ _,by rw[hW0];simp⟩
 have HW0:=Aq hW0;clear hW0 hs
 go_enter Tryz.func163,Tryz.ntmps163
 go_wp2_with fail;rw[<-HW0.out];refine(zbg b lo A n c code K 4 _ d0.src (by omega) (by omega)).mono ?_;rintro e w1 ⟨k,rfl,⟨k0,k1⟩,s1,m1⟩;have d1:=d0.step hbw s1 m1;clear d0 s1 m1;obtain⟨k,rfl⟩:∃j:Nat,k=j:=⟨k.toNat,by omega⟩;have hkm:k<=3:=by omega
 clear k1 k0;go_wp2_with fail
 go_loopw [6] (fun i wr=>∃(j:Nat) (xs:List Clip) (A1:Yo) (c1:Nat),i=.int .i64 j/\xs.length+j<=3/\Hid (zf4 m xs)/\DK w b lo A n c code (K+2+12*(3-j)) xs A1 c1 wr)
  (fun i _=>(intOf i).toNat)
 case atStart=>exact⟨k,[],_,_,rfl,by simpa using hkm,Aq (zzc m),d1.more (by omega)⟩
 case round=>
  obtain⟨j,xs,A1,c1,rfl,hlj,hdr,D⟩:=hrel;clear d1;have hsz:=D.sz;have hc0:=D.e0;have hf0:=D.g0;have hc1:=D.e1;have HD:=Aq D
  by_cases hlt:0<j/\0<m
  ·obtain⟨hj0,hm0⟩:=hlt;have hj0':(0:Int)<(j:Int):=(by omega);have hm0':(0:Int)<(m:Int):=(by omega);go_wp2_with fail;refine(zbg b lo A n c code _ (m:Int) wr D.src (by omega) (by omega)).mono ?_;rintro e w2 ⟨v0,rfl,⟨v00,v01⟩,s2,m2⟩;have D2:=D.step hbw s2 m2;clear D;obtain⟨v0,rfl⟩:∃q:Nat,v0=q:=⟨v0.toNat,by omega⟩;have hv0:v0<m:=(by omega);have hv0i:(v0:Int)<(m:Int):=(by omega);have hv00:(0:Int)<=(v0:Int):=(by omega);obtain⟨U,hU⟩:∃U,U=w2.alloc (.cells #[.int .i64 (v0:Int),.int .i64 0,.int .i64 0,.int .i64 0,.int .i64 0] 165):=⟨_,rfl⟩;have C1:CB w2.heap.size v0 0 0 0 0 U:=(by rw[hU];exact CB.new w2 v0);have bU:Below w2.heap.size w2 U:=(by rw[hU];exact(Aw _ _).alloc (Aj _) _);have sU:=D2.src.below bU (by have:=D2.src.lt;exact this);have MU:Mid b (b+1) w2 U:=Mid.of_below bU _ _;have HD2:=Aq D2;have HU:=Aq hU;have hR:=hnb.out w2 D2.mid;have hX:=Aq (Ak (l:=src) (i:=v0) (by rw[HLS.out];exact hv0));obtain⟨bb,oo,cc,cs,hv,hbb,-,hE,hcc⟩:=hR.atX hX.out;have hlx:=hl.out _ (Eg hX.out);generalize src[v0]'(by rw[HLS.out];exact hv0)=sx at hX hE hlx;simp only[Cz]at hv;obtain⟨rfl,-,rfl⟩:=hv;obtain⟨vx,rfl,hrx⟩:=hE;obtain⟨Ax,cx,rfl⟩:=hrx.shape;have hbb2:bb<w2.heap.size:=(by have:=D2.mid.size;omega)
   have f0:w2.cell? ⟨bb,oo+v0,none⟩=some (.slice Ax sx.length cx):=by
    have h1:=hcc 0 _ rfl;change w2.cell? ⟨bb,oo+v0*1+0,none⟩=_ at h1;rw[Nat.mul_one,Nat.add_zero]at h1;exact h1
   have hcb:w2.heap.size≠b:=(by have:=m2.size;omega);obtain⟨g,hg⟩:∃g,g=w2.heap.size:=⟨_,rfl⟩;have q0:=C1.c0;have q1:=C1.c1;have lg1:w.heap.size+2<=g:=(by have:=D2.sz;omega);rw[<-hg]at C1 bU hcb q0 q1;have HG:=Aq hg;clear hU hcc hrx hR s2 m2 v01 hg D2;go_wp2_with fail;rw[<-HU.out,<-HG.out];clear f0 hbb2 q0 q1;have lxi:(sx.length:Int)<=15/\1<=(sx.length:Int):=(by omega);have lgU:=C1.lt;refine(zbg b lo A n c code _ (sx.length:Int) U sU (by omega) (by omega)).mono ?_;rintro e w3 ⟨v1,rfl,⟨v10,v11⟩,s3,m3⟩;have C2:=C1.mid m3 hcb;have M3:=MU.trans m3;have b1:Below g w3 (w3.setCell ⟨g,1,none⟩ (.int .i64 v1)):=(Aw g w3).setCell (p:=⟨g,1,none⟩) (Aj _) (.int .i64 v1);have hv1:0<=v1/\v1+1<=(sx.length:Int):=(by omega);have lg3:=C2.lt;have q1:=C2.c1;have qf:=C2.f1;obtain⟨w4,hw4⟩:∃u,u=w3.setCell ⟨g,1,none⟩ (.int .i64 v1):=⟨_,rfl⟩;have C3:=C2.s1 v1;have s4:=s3.below b1 (by omega);have M4:=M3.thenB' b1 (by rw[HG.out];exact Aj _);rw[<-hw4]at C3 s4 M4;have HW4:=Aq hw4;clear hw4 b1 C1 C2 M3 MU m3 s3 sU v10 v11;go_wp2_with fail;rw[<-HW4.out];refine(zkn 1 _ w4).mono ?_;rintro e w4' ⟨rfl,rfl⟩;obtain⟨mx,hmx⟩:∃z,z=max 1 ((sx.length:Int)-v1):=⟨_,rfl⟩;rw[<-hmx];have hmx2:1<=mx/\mx<=15/\mx+v1<=(sx.length:Int):=(by omega);clear hmx;go_wp2_with fail;refine(zbg b lo A n c code _ mx w4 s4 (by omega) (by omega)).mono ?_;rintro e w5 ⟨v2,rfl,⟨v20,v21⟩,s5,m5⟩;have C4:=C3.mid m5 hcb;have M5:=M4.trans m5;have b5:Below g w5 (w5.setCell ⟨g,2,none⟩ (.int .i64 (1+v2))):=(Aw g w5).setCell (p:=⟨g,2,none⟩) (Aj _) _;have hv2:0<=v2/\v2+1<=mx:=(by omega);have lg5:=C4.lt;have q2:=C4.c2;have qf2:=C4.f2;obtain⟨w6,hw6⟩:∃u,u=w5.setCell ⟨g,2,none⟩ (.int .i64 (1+v2)):=⟨_,rfl⟩;have C5:=C4.s2 (1+v2);have s6:=s5.below b5 (by omega);have M6:=M5.thenB' b5 (by rw[HG.out];exact Aj _);rw[<-hw6]at C5 s6 M6;have HW6:=Aq hw6;clear hw6 b5 C3 C4 M4 M5 m5 s5 s4 v20 v21 q1 qf;go_wp2_with fail;rw[<-HW6.out];refine(zbg b lo A n c code _ 24 w6 s6 (by omega) (by omega)).mono ?_;rintro e w7 ⟨v3,rfl,⟨v30,v31⟩,s7,m7⟩;have C6:=C5.mid m7 hcb;have M7:=M6.trans m7;have b7:Below g w7 (w7.setCell ⟨g,3,none⟩ (.int .i64 v3)):=(Aw g w7).setCell (p:=⟨g,3,none⟩) (Aj _) _;have hv3:0<=v3/\v3<=23:=(by omega);have lg7:=C6.lt;have q3:=C6.c3;have qf3:=C6.f3;obtain⟨w8,hw8⟩:∃u,u=w7.setCell ⟨g,3,none⟩ (.int .i64 v3):=⟨_,rfl⟩;have C7:=C6.s3 v3;have s8:=s7.below b7 (by omega);have M8:=M7.thenB' b7 (by rw[HG.out];exact Aj _);rw[<-hw8]at C7 s8 M8;have z8:w8.heap.size=w7.heap.size:=(by rw[hw8];simp);have HW8:=Aq hw8;clear hw8 b7 C5 C6 M6 M7 m7 s7 s6 v30 v31 q2 qf2;have SA0:=zzg b lo A n c code _ w8 s8 (by omega);rw[z8]at SA0;have SA:=Aq SA0;clear SA0 z8;go_wp2_with fail;rw[<-HW8.out];refine SA.out.mono ?_;rintro e w9 ⟨v4,rfl,hv4,s9,m9⟩;have C8:=C7.mid m9 hcb;have M9:=M8.trans m9;have b9:Below g w9 (w9.setCell ⟨g,4,none⟩ (.int .i64 v4)):=(Aw g w9).setCell (p:=⟨g,4,none⟩) (Aj _) _;have lg9:=C8.lt;have q4:=C8.c4;have qf4:=C8.f4;obtain⟨x1,hx1⟩:∃u,u=w9.setCell ⟨g,4,none⟩ (.int .i64 v4):=⟨_,rfl⟩;have C9:=C8.s4 v4;have s10:=s9.below b9 (by omega);have M10:=M9.thenB' b9 (by rw[HG.out];exact Aj _);rw[<-hx1]at C9 s10 M10;have HX1:=Aq hx1;clear hx1 b9 C7 C8 M8 M9 m9 s9 s8 q3 qf3;have D9:=HD2.out.step hbw s10 M10;have t1:=D9.e1;have r0:=C9.c0;have r1:=C9.c1;have r2:=C9.c2;have r3:=C9.c3;have r4:=C9.c4;have hcap:=D9.own.cap;have hok:=hdr.out
   have hcl:zb6 ((v0:Int),v1,1+v2,v3,v4)=true:=by
    simp only[zb6,M.smp,M.inn,Cx,Dg];omega
   have HDP:=Aq (zzd hdr.out (x:=((v0:Int),v1,1+v2,v3,v4)) ⟨hcl,by simp only;omega,by simp only;omega⟩);have ADD:=Aq (zzf A1 xs.length c1 xs (v0:Int) v1 (1+v2) v3 v4 x1 D9.own.ra hcap.1 hcap.2 (zp7 hdr.out (by omega)) hcl (by omega));have HPL:=Aq (show (zcb xs ((v0:Int),v1,1+v2,v3,v4)).length=xs.length+1 from zp6 _ _);have HD9:=Aq D9;clear D9 hcap hok hcl;go_upto_region 11 with fail
   rw[<-HX1.out];go_wp2_with fail;refine ADD.out.mono ?_;rintro e x2 ⟨A2,c2,rfl,own2,b2⟩;have D10:=HD9.out.below hbw b2 (Aj _);have t2:=D10.e1;have tf2:=D10.g1;have lx2:=D10.sz;obtain⟨x3,hx3⟩:∃u,u=(x2.setCell ⟨w.heap.size+1,0,none⟩ (.slice A2 (xs.length+1) c2)).alloc (.cells #[.slice A2 (xs.length+1) c2] 98):=⟨_,rfl⟩
   have E3:DK w b lo A n c code (K+2+12*(3-j)+12) (zcb xs ((v0:Int),v1,1+v2,v3,v4)) A2 c2 x3:=by
    have hx1:w.heap.size+2<=x1.heap.size:=HD9.out.sz;have hz:=D10.sz;have ms:Mid (w.heap.size+1) (w.heap.size+1+1) x2 (x2.setCell ⟨w.heap.size+1,0,none⟩ (.slice A2 (xs.length+1) c2)):=Mid.cell _ _ 0 _;have sz3:=ms.size
    have E2:DK w b lo A n c code (K+2+12*(3-j)+12) (zcb xs ((v0:Int),v1,1+v2,v3,v4)) A2 c2 (x2.setCell ⟨w.heap.size+1,0,none⟩ (.slice A2 (xs.length+1) c2)):=by
     refine⟨ms.cellK (by omega) (.inl (by omega)) D10.e0,ms.frozK (by omega) (.inl (by omega)) D10.g0,?_,?_,?_,(D10.src.mid ms (by omega)).more (by omega),D10.mid.thenB' (ms.toBelow (by omega)) (by omega),by omega⟩
     ·rw[HPL.out];exact Dj _ _ _ D10.e1
     ·exact(Bf _ _ _ _).trans D10.g1
     rw[HPL.out];exact(own2.mid ms (.inr (by omega)) (Aj _)).wide (by omega) (by omega)
    rw[hx3];exact E2.below hbw ((Aw _ _).alloc (Aj _) _) (Aj _)
   have HX3:=Aq hx3;have lt2:w.heap.size+1<x2.heap.size:=(by omega);have ne2:¬w.heap.size+1=x2.heap.size:=(by omega);have ne3:¬x2.heap.size=w.heap.size+1:=(by omega);clear D10 own2 b2 hx3;go_wp2_with fail;go_roundw
   case rel=>exact⟨j-1,_,_,_,by go_num,by rw[HPL.out];omega,HDP,by rw[<-HX3.out];exact E3.more (by omega)⟩
   case measure=>simp[intOf];omega
  have hg1:=D.g1
  have fin:zp8 b lo A n c code (K+40) m w (.returned (.agg #[.slice A1 xs.length c1])) (wr.setCell ⟨w.heap.size,0,none⟩ (.slice A1 xs.length c1)):=by
   have hm:Mid w.heap.size (w.heap.size+1) wr (wr.setCell ⟨w.heap.size,0,none⟩ (.slice A1 xs.length c1)):=Mid.cell wr w.heap.size 0 _;have hz:=D.sz;exact⟨_,_,xs,rfl,(D.own.mid hm (.inr (by omega)) (Aj _)).wide (by omega) hm.size,by omega,hdr,(D.src.mid hm hbw).more (by omega),D.mid.thenB' ((Aw w.heap.size _).setCell (Aj _) _) (Aj _)⟩
  have FIN:=Aq fin;clear fin D HD
  by_cases hj:0<j
  ·have hm0:m=0:=(by omega);subst hm0;have hj0':(0:Int)<(j:Int):=(by omega);go_wp2_with fail;refine Cy (v:=.agg #[.slice A1 xs.length c1]) (by simp[results,Tryz.results163,go_sem,hc0,hf0]) rfl ?_;exact FIN.out
  obtain rfl:j=0:=by omega
  go_wp2_with fail;refine Cy (v:=.agg #[.slice A1 xs.length c1]) (by simp[results,Tryz.results163,go_sem,hc0,hf0]) rfl ?_;exact FIN.out
end
end Go.Proofs.YtifeldeikhmckaaGreat
