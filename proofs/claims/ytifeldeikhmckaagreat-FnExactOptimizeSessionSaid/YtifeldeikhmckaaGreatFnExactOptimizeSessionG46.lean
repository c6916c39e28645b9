import Derived.Test.YtifeldeikhmckaaGreatFnExactOptimizeSessionG45
import Derived.Test.YtifeldeikhmckaaGreatFnExactOptimizeSessionG11
import Derived.Test.YtifeldeikhmckaaGreatFnExactOptimizeSessionG22
import Derived.Deep.DeepCutAuto
import Derived.Test.YtifeldeikhmckaaGreatFnExactOptimizeSessionG15
import Derived.Test.YtifeldeikhmckaaGreatFnExactOptimizeSessionG24
import Derived.Test.YtifeldeikhmckaaGreatFnExactOptimizeSessionG36
import Derived.Test.YtifeldeikhmckaaGreatFnExactOptimizeSessionG44
import Derived.Test.YtifeldeikhmckaaGreatFnExactOptimizeSessionG37
import Derived.Test.YtifeldeikhmckaaGreatFnExactOptimizeSessionG38
set_option linter.unusedVariables false
set_option linter.unusedSimpArgs false
set_option maxRecDepth 100000
set_option maxHeartbeats 4000000
namespace Go.Proofs.YtifeldeikhmckaaGreat
open Go.RowKit Go.Sort
section
structure FZ (w0 g:Nat) (F1 F2 F3 F4 F5:Nat->Prop):Prop where
 o1:∀z,F1 z->w0<z/\z≠g
 o2:∀z,F2 z->w0<z/\z≠g
 o3:∀z,F3 z->w0<z/\z≠g
 o4:∀z,F4 z->w0<z/\z≠g
 o5:∀z,F5 z->w0<z/\z≠g
 a12:∀z,F1 z->¬F2 z
 a13:∀z,F1 z->¬F3 z
 a14:∀z,F1 z->¬F4 z
 a15:∀z,F1 z->¬F5 z
 a23:∀z,F2 z->¬F3 z
 a24:∀z,F2 z->¬F4 z
 a25:∀z,F2 z->¬F5 z
 a34:∀z,F3 z->¬F4 z
 a35:∀z,F3 z->¬F5 z
 a45:∀z,F4 z->¬F5 z
structure DZ (w:Yw) (b lo:Nat) (A:Yo) (n c:Nat) (code:List UInt8) (g K:Nat) (i:Int) (v1 v2 v3 v4 v5:Value) (x1:List (List Int)) (x2:List (List zas)) (x3:List Int) (x4:List zad) (x5:List zag) (F1 F2 F3 F4 F5:Nat->Prop) (wr:Yw):Prop where
 e:∀j,j<6->wr.cell? ⟨w.heap.size,j,none⟩=some (if j=0 then .int .i64 0 else .slice none 0 0)/\wr.frozen? ⟨w.heap.size,j,none⟩=false
 p0:wr.cell? ⟨g,0,none⟩=some (.int .i64 i)
 p1:wr.cell? ⟨g,1,none⟩=some v1
 p2:wr.cell? ⟨g,2,none⟩=some v2
 p3:wr.cell? ⟨g,3,none⟩=some v3
 p4:wr.cell? ⟨g,4,none⟩=some v4
 p5:wr.cell? ⟨g,5,none⟩=some v5
 q:∀j,j<6->wr.frozen? ⟨g,j,none⟩=false
 r1:OS tS 24 wr F1 v1 x1
 r2:OS tT 98 wr F2 v2 x2
 r3:OS tI 2 wr F3 v3 x3
 r4:OS tP 67 wr F4 v4 x4
 r5:OS tSt 117 wr F5 v5 x5
 fd:FZ w.heap.size g F1 F2 F3 F4 F5
 src:Src wr b lo A n c code K
 mid:Mid b (b+1) w wr
 sz:g<wr.heap.size
 lo:w.heap.size<g
section
variable {w wr w' w4:Yw} {b lo:Nat} {A :Yo} {n c:Nat} {code:List UInt8} {g K K':Nat} {i:Int} {v1 v2 v3 v4 v5 v':Value} {x1:List (List Int)} {x2:List (List zas)} {x3:List Int} {x4:List zad} {x5:List zag} {F1 F2 F3 F4 F5 F':Nat->Prop}
theorem DZ.step(h:DZ w b lo A n c code g K i v1 v2 v3 v4 v5 x1 x2 x3 x4 x5 F1 F2 F3 F4 F5 wr)(hb:b<w.heap.size)(hs:Src w' b lo A n c code K')(hm:Mid b (b+1) wr w'):DZ w b lo A n c code g K' i v1 v2 v3 v4 v5 x1 x2 x3 x4 x5 F1 F2 F3 F4 F5 w':=by
 have hz:=h.sz;have hl:=h.lo;have h1:w.heap.size<wr.heap.size:=by omega
 have h2:b<g:=by omega
 have cG:∀{o u},wr.cell? ⟨g,o,none⟩=u->w'.cell? ⟨g,o,none⟩=u:=fun h3=>hm.cellK hz (.inr h2) h3
 exact⟨fun j hj=>⟨hm.cellK h1 (.inr hb) (h.e j hj).1,hm.frozK h1 (.inr hb) (h.e j hj).2⟩,cG h.p0,cG h.p1,cG h.p2,cG h.p3,cG h.p4,cG h.p5,fun j hj=>hm.frozK hz (.inr h2) (h.q j hj),
  h.r1.chg (Chg.of_mid hm) (fun z h1 h2=>by have:=(h.fd.o1 z h1).1;omega),h.r2.chg (Chg.of_mid hm) (fun z h1 h2=>by have:=(h.fd.o2 z h1).1;omega),h.r3.chg (Chg.of_mid hm) (fun z h1 h2=>by have:=(h.fd.o3 z h1).1;omega),h.r4.chg (Chg.of_mid hm) (fun z h1 h2=>by have:=(h.fd.o4 z h1).1;omega),h.r5.chg (Chg.of_mid hm) (fun z h1 h2=>by have:=(h.fd.o5 z h1).1;omega),
  h.fd,hs,h.mid.trans hm,Nat.lt_of_lt_of_le hz hm.size,hl⟩
theorem DZ.more(h:DZ w b lo A n c code g K i v1 v2 v3 v4 v5 x1 x2 x3 x4 x5 F1 F2 F3 F4 F5 wr)(hK:K<=K'):DZ w b lo A n c code g K' i v1 v2 v3 v4 v5 x1 x2 x3 x4 x5 F1 F2 F3 F4 F5 wr:=
 ⟨h.e,h.p0,h.p1,h.p2,h.p3,h.p4,h.p5,h.q,h.r1,h.r2,h.r3,h.r4,h.r5,h.fd,h.src.more hK,h.mid,h.sz,h.lo⟩
theorem DZ.turn(h:DZ w b lo A n c code g K i v1 v2 v3 v4 v5 x1 x2 x3 x4 x5 F1 F2 F3 F4 F5 wr)(hb:b<w.heap.size){F:Nat->Prop}(hF:∀z,F z->w.heap.size<z/\z≠g)(hc:Chg F wr w4):
 (∀j,j<6->w4.cell? ⟨w.heap.size,j,none⟩=some (if j=0 then .int .i64 0 else .slice none 0 0)/\w4.frozen? ⟨w.heap.size,j,none⟩=false)/\(∀o u,wr.cell? ⟨g,o,none⟩=u->w4.cell? ⟨g,o,none⟩=u)/\(∀j,j<6->w4.frozen? ⟨g,j,none⟩=false)/\Src w4 b lo A n c code K/\Mid b (b+1) w w4/\g<w4.heap.size:=by
 have hz:=h.sz;have hl:=h.lo;have hs4:wr.heap.size<=w4.heap.size:=hc.size;have MB:Below w.heap.size wr w4:=hc.toBelow (fun z h=>by have:=hF z h;omega) (by omega);refine⟨fun j hj=>⟨?_,?_⟩,fun o u hu=>?_,fun j hj=>?_,h.src.below MB hb,h.mid.thenB' MB (Nat.le_refl _),by omega⟩
 ·rw[hc.cell1 (show w.heap.size<_ by omega) (fun h=>absurd (show w.heap.size<w.heap.size from(hF _ h).1) (by omega))];exact(h.e j hj).1
 ·rw[hc.frozen1 (show w.heap.size<_ by omega) (fun h=>absurd (show w.heap.size<w.heap.size from(hF _ h).1) (by omega))];exact(h.e j hj).2
 ·rw[hc.cell1 hz (fun h=>(hF _ h).2 rfl)];exact hu
 rw[hc.frozen1 hz (fun h=>(hF _ h).2 rfl)];exact h.q j hj
end
def zom (b lo:Nat) (A:Yo) (n c:Nat) (code:List UInt8) (K:Nat) (P:Sess->Prop) (w:Yw) (e:Ending) (w':Yw):Prop:=
 ∃i A1 n1 c1 A2 n2 c2 A3 n3 c3 A4 n4 c4 A5 n5 c5 x,e=.returned (.agg #[.int .i64 i,.slice A1 n1 c1,.slice A2 n2 c2,.slice A3 n3 c3,.slice A4 n4 c4,.slice A5 n5 c5])/\tZ.O w' (Iv w.heap.size w'.heap.size) [.int .i64 i,.slice A1 n1 c1,.slice A2 n2 c2,.slice A3 n3 c3,.slice A4 n4 c4,.slice A5 n5 c5] x/\Hid (P x)/\Src w' b lo A n c code K/\Mid b (b+1) w w'
theorem DZ.fin{w wr:Yw}{b lo:Nat}{A:Yo}{n c:Nat}{code:List UInt8}{g K:Nat}{i:Int}{A1:Yo}{n1 c1:Nat}{A2:Yo}{n2 c2:Nat}{A3:Yo}{n3 c3:Nat}{A4:Yo}{n4 c4:Nat}{A5:Yo}{n5 c5:Nat}{x1:List (List Int)}{x2:List (List zas)}{x3:List Int}{x4:List zad}{x5:List zag}{F1 F2 F3 F4 F5:Nat->Prop}
 (h:DZ w b lo A n c code g K i (.slice A1 n1 c1) (.slice A2 n2 c2) (.slice A3 n3 c3) (.slice A4 n4 c4) (.slice A5 n5 c5) x1 x2 x3 x4 x5 F1 F2 F3 F4 F5 wr) (hb:b<w.heap.size) {P:Sess->Prop} (hP:P (i,x1,x2,x3,x4,x5)) :
 zom b lo A n c code K P w (.returned (.agg #[.int .i64 i,.slice A1 n1 c1,.slice A2 n2 c2,.slice A3 n3 c3,.slice A4 n4 c4,.slice A5 n5 c5])) ((((((wr.setCell ⟨w.heap.size,0,none⟩ (.int .i64 i)).setCell ⟨w.heap.size,1,none⟩ (.slice A1 n1 c1)).setCell ⟨w.heap.size,2,none⟩ (.slice A2 n2 c2)).setCell ⟨w.heap.size,3,none⟩ (.slice A3 n3 c3)).setCell ⟨w.heap.size,4,none⟩ (.slice A4 n4 c4)).setCell ⟨w.heap.size,5,none⟩ (.slice A5 n5 c5)):=by
 have hz:=h.sz;have hl:=h.lo;have st:∀(u:Yw) (o:Nat) (x:Value),Chg (fun z=>z=w.heap.size) u (u.setCell ⟨w.heap.size,o,none⟩ x):=fun u o x=>Chg.set u w.heap.size o _ rfl
 have CH:=((((((st wr 0 (.int .i64 i)).trans (st _ 1 (.slice A1 n1 c1))).trans (st _ 2 (.slice A2 n2 c2))).trans (st _ 3 (.slice A3 n3 c3))).trans (st _ 4 (.slice A4 n4 c4))).trans (st _ 5 (.slice A5 n5 c5)));have MB:=CH.toBelow (B:=w.heap.size) (fun z h=>by omega) (by omega);have hs:=CH.size;refine⟨i,A1,n1,c1,A2,n2,c2,A3,n3,c3,A4,n4,c4,A5,n5,c5,(i,x1,x2,x3,x4,x5),rfl,?_,Lib.hid hP,h.src.below MB hb,h.mid.thenB' MB (Nat.le_refl _)⟩;have wd:∀{F:Nat->Prop},(∀z,F z->w.heap.size<z/\z≠g)->∀z,(F z/\z<wr.heap.size)->w.heap.size<=z/\z<_:=fun hF z h1=>⟨Nat.le_of_lt (hF z h1.1).1,Nat.lt_of_lt_of_le h1.2 hs⟩
 exact tZ_O.2 ⟨A1,n1,c1,A2,n2,c2,A3,n3,c3,A4,n4,c4,A5,n5,c5,_,_,_,_,_,rfl,sl_O.2 (h.r1.real.chg CH (fun z h1 h2=>by have:=(h.fd.o1 z h1.1).1;omega)),sl_O.2 (h.r2.real.chg CH (fun z h1 h2=>by have:=(h.fd.o2 z h1.1).1;omega)),sl_O.2 (h.r3.real.chg CH (fun z h1 h2=>by have:=(h.fd.o3 z h1.1).1;omega)),sl_O.2 (h.r4.real.chg CH (fun z h1 h2=>by have:=(h.fd.o4 z h1.1).1;omega)),sl_O.2 (h.r5.real.chg CH (fun z h1 h2=>by have:=(h.fd.o5 z h1.1).1;omega)),
  wd h.fd.o1,wd h.fd.o2,wd h.fd.o3,wd h.fd.o4,wd h.fd.o5,fun z a b=>h.fd.a12 z a.1 b.1,fun z a b=>h.fd.a13 z a.1 b.1,fun z a b=>h.fd.a14 z a.1 b.1,fun z a b=>h.fd.a15 z a.1 b.1,fun z a b=>h.fd.a23 z a.1 b.1,fun z a b=>h.fd.a24 z a.1 b.1,fun z a b=>h.fd.a25 z a.1 b.1,fun z a b=>h.fd.a34 z a.1 b.1,fun z a b=>h.fd.a35 z a.1 b.1,fun z a b=>h.fd.a45 z a.1 b.1⟩
def DS (w:Yw) (b lo:Nat) (A:Yo) (n c:Nat) (code:List UInt8) (g K M:Nat) (i:Int) (v1 v2 v3 v4 v5:Value) (x1:List (List Int)) (x2:List (List zas)) (x3:List Int) (x4:List zad) (x5:List zag) (wr:Yw):Prop:=∃F1 F2 F3 F4 F5:Nat->Prop,DZ w b lo A n c code g K i v1 v2 v3 v4 v5 x1 x2 x3 x4 x5 F1 F2 F3 F4 F5 wr/\(∀z,F1 z\/F2 z\/F3 z\/F4 z\/F5 z->z<M)/\M<=wr.heap.size/\g<M
section
variable {w wr w':Yw} {b lo:Nat} {A :Yo} {n c:Nat} {code:List UInt8} {g K K' M:Nat} {i:Int} {v1 v2 v3 v4 v5:Value} {x1:List (List Int)} {x2:List (List zas)} {x3:List Int} {x4:List zad} {x5:List zag}
theorem DS.step(h:DS w b lo A n c code g K M i v1 v2 v3 v4 v5 x1 x2 x3 x4 x5 wr)(hb:b<w.heap.size)(hs:Src w' b lo A n c code K')(hm:Mid b (b+1) wr w'):DS w b lo A n c code g K' M i v1 v2 v3 v4 v5 x1 x2 x3 x4 x5 w':=by
 obtain⟨F1,F2,F3,F4,F5,h,hB,hM,hg⟩:=h;exact⟨F1,F2,F3,F4,F5,h.step hb hs hm,hB,Nat.le_trans hM hm.size,hg⟩
theorem DS.more(h:DS w b lo A n c code g K M i v1 v2 v3 v4 v5 x1 x2 x3 x4 x5 wr)(hK:K<=K'):DS w b lo A n c code g K' M i v1 v2 v3 v4 v5 x1 x2 x3 x4 x5 wr:=by
 obtain⟨F1,F2,F3,F4,F5,h,hB,hM,hg⟩:=h;exact⟨F1,F2,F3,F4,F5,h.more hK,hB,hM,hg⟩
theorem DS.up(h:DS w b lo A n c code g K M i v1 v2 v3 v4 v5 x1 x2 x3 x4 x5 wr):DS w b lo A n c code g K wr.heap.size i v1 v2 v3 v4 v5 x1 x2 x3 x4 x5 wr:=by
 obtain⟨F1,F2,F3,F4,F5,h,hB,hM,hg⟩:=h;exact⟨F1,F2,F3,F4,F5,h,fun z hz=>Nat.lt_of_lt_of_le (hB z hz) hM,Nat.le_refl _,h.sz⟩
theorem DS.src(h:DS w b lo A n c code g K M i v1 v2 v3 v4 v5 x1 x2 x3 x4 x5 wr):Src wr b lo A n c code K:=by obtain⟨F1,F2,F3,F4,F5,h,hB,hM,hg⟩:=h;exact h.src
theorem DS.sz(h:DS w b lo A n c code g K M i v1 v2 v3 v4 v5 x1 x2 x3 x4 x5 wr):g<wr.heap.size/\w.heap.size<g:=by obtain⟨F1,F2,F3,F4,F5,h,hB,hM,hg⟩:=h;exact⟨h.sz,h.lo⟩
theorem DS.mid(h:DS w b lo A n c code g K M i v1 v2 v3 v4 v5 x1 x2 x3 x4 x5 wr):Mid b (b+1) w wr:=by obtain⟨F1,F2,F3,F4,F5,h,hB,hM,hg⟩:=h;exact h.mid
theorem DS.p0(h:DS w b lo A n c code g K M i v1 v2 v3 v4 v5 x1 x2 x3 x4 x5 wr):wr.cell? ⟨g,0,none⟩=some (.int .i64 i):=by obtain⟨F1,F2,F3,F4,F5,h,hB,hM,hg⟩:=h;exact h.p0
theorem DS.p1(h:DS w b lo A n c code g K M i v1 v2 v3 v4 v5 x1 x2 x3 x4 x5 wr):wr.cell? ⟨g,1,none⟩=some v1:=by obtain⟨F1,F2,F3,F4,F5,h,hB,hM,hg⟩:=h;exact h.p1
theorem DS.p2(h:DS w b lo A n c code g K M i v1 v2 v3 v4 v5 x1 x2 x3 x4 x5 wr):wr.cell? ⟨g,2,none⟩=some v2:=by obtain⟨F1,F2,F3,F4,F5,h,hB,hM,hg⟩:=h;exact h.p2
theorem DS.p3(h:DS w b lo A n c code g K M i v1 v2 v3 v4 v5 x1 x2 x3 x4 x5 wr):wr.cell? ⟨g,3,none⟩=some v3:=by obtain⟨F1,F2,F3,F4,F5,h,hB,hM,hg⟩:=h;exact h.p3
theorem DS.p4(h:DS w b lo A n c code g K M i v1 v2 v3 v4 v5 x1 x2 x3 x4 x5 wr):wr.cell? ⟨g,4,none⟩=some v4:=by obtain⟨F1,F2,F3,F4,F5,h,hB,hM,hg⟩:=h;exact h.p4
theorem DS.p5(h:DS w b lo A n c code g K M i v1 v2 v3 v4 v5 x1 x2 x3 x4 x5 wr):wr.cell? ⟨g,5,none⟩=some v5:=by obtain⟨F1,F2,F3,F4,F5,h,hB,hM,hg⟩:=h;exact h.p5
theorem DS.q(h:DS w b lo A n c code g K M i v1 v2 v3 v4 v5 x1 x2 x3 x4 x5 wr):∀j,j<6->wr.frozen? ⟨g,j,none⟩=false:=by obtain⟨F1,F2,F3,F4,F5,h,hB,hM,hg⟩:=h;exact h.q
theorem DS.e(h:DS w b lo A n c code g K M i v1 v2 v3 v4 v5 x1 x2 x3 x4 x5 wr):∀j,j<6->wr.cell? ⟨w.heap.size,j,none⟩=some (if j=0 then .int .i64 0 else .slice none 0 0)/\wr.frozen? ⟨w.heap.size,j,none⟩=false:=by obtain⟨F1,F2,F3,F4,F5,h,hB,hM,hg⟩:=h;exact h.e
end
theorem DS.fin{w wr:Yw}{b lo:Nat}{A:Yo}{n c:Nat}{code:List UInt8}{g K M:Nat}{i:Int}{A1:Yo}{n1 c1:Nat}{A2:Yo}{n2 c2:Nat}{A3:Yo}{n3 c3:Nat}{A4:Yo}{n4 c4:Nat}{A5:Yo}{n5 c5:Nat}{x1:List (List Int)}{x2:List (List zas)}{x3:List Int}{x4:List zad}{x5:List zag}
 (h:DS w b lo A n c code g K M i (.slice A1 n1 c1) (.slice A2 n2 c2) (.slice A3 n3 c3) (.slice A4 n4 c4) (.slice A5 n5 c5) x1 x2 x3 x4 x5 wr) (hb:b<w.heap.size) {P:Sess->Prop} (hP:P (i,x1,x2,x3,x4,x5)) :
 zom b lo A n c code K P w (.returned (.agg #[.int .i64 i,.slice A1 n1 c1,.slice A2 n2 c2,.slice A3 n3 c3,.slice A4 n4 c4,.slice A5 n5 c5])) ((((((wr.setCell ⟨w.heap.size,0,none⟩ (.int .i64 i)).setCell ⟨w.heap.size,1,none⟩ (.slice A1 n1 c1)).setCell ⟨w.heap.size,2,none⟩ (.slice A2 n2 c2)).setCell ⟨w.heap.size,3,none⟩ (.slice A3 n3 c3)).setCell ⟨w.heap.size,4,none⟩ (.slice A4 n4 c4)).setCell ⟨w.heap.size,5,none⟩ (.slice A5 n5 c5)):=by
 obtain⟨F1,F2,F3,F4,F5,h,hB,hM,hg⟩:=h;exact h.fin hb hP
end
section
set_option maxHeartbeats 40000000
structure M.dn (inp tb:Nat) (lin:Bool) (i:Nat) (x:Node):Prop where
 ok:zaj x tb=true
 hi:x.1=1->x.2.1<inp
 fr:∀f∈x.2.2.2,0<=f/\f<i
 hl:lin=true->zir x.1=true
 fl:x.2.2.2.length<=3
structure M.dn3 (inp tb:Nat) (lin:Bool) (n i:Nat) (x:Node):Prop where
 ok:zaj x tb=true
 hi:x.1=1->x.2.1<inp
 fr:∀f∈x.2.2.2,0<=f/\f<n
 wt:∀f∈zau x,0<=f/\f<i
 hl:lin=true->zir x.1=true
 fl:x.2.2.2.length<=3
structure NX (w0:Yw) (b lo:Nat) (A:Yo) (n c:Nat) (code:List UInt8) (h K:Nat) (k a bb:Int) (v:Value) (xs:List Int) (cur:Yw):Prop where
 p0:cur.cell? ⟨h,0,none⟩=some (.int .i64 k)
 p1:cur.cell? ⟨h,1,none⟩=some (.int .i64 a)
 p2:cur.cell? ⟨h,2,none⟩=some (.int .i64 bb)
 p3:cur.cell? ⟨h,3,none⟩=some v
 q:∀j,j<4->cur.frozen? ⟨h,j,none⟩=false
 own:OS tI 2 cur (fun z=>w0.heap.size<=z/\z≠h) v xs
 src:Src cur b lo A n c code K
 mid:Mid b (b+1) w0 cur
 sz:h<cur.heap.size
 lo:w0.heap.size<=h
section
variable {w0 cur w4:Yw} {b lo:Nat} {A :Yo} {n c:Nat} {code:List UInt8} {h K K':Nat} {k a bb k' a' bb':Int} {v v':Value} {xs xs':List Int}
theorem NX.step(x:NX w0 b lo A n c code h K k a bb v xs cur)(hb:b<w0.heap.size)(hs:Src w4 b lo A n c code K')(hm:Mid b (b+1) cur w4):NX w0 b lo A n c code h K' k a bb v xs w4:=by
 have hz:=x.sz;have hl:=x.lo;have h2:b<h:=by omega
 have cG:∀{o u},cur.cell? ⟨h,o,none⟩=u->w4.cell? ⟨h,o,none⟩=u:=fun h3=>hm.cellK hz (.inr h2) h3
 exact⟨cG x.p0,cG x.p1,cG x.p2,cG x.p3,fun j hj=>hm.frozK hz (.inr h2) (x.q j hj),x.own.chg (Chg.of_mid hm) (fun z h1 h2=>by have:=h1.1;omega),hs,x.mid.trans hm,Nat.lt_of_lt_of_le hz hm.size,hl⟩
theorem NX.more(x:NX w0 b lo A n c code h K k a bb v xs cur)(hK:K<=K'):NX w0 b lo A n c code h K' k a bb v xs cur:=⟨x.p0,x.p1,x.p2,x.p3,x.q,x.own,x.src.more hK,x.mid,x.sz,x.lo⟩
theorem NX.all(x:NX w0 b lo A n c code h K k a bb v xs cur)(hb:b<w0.heap.size)(own:OS tI 2 cur (fun z=>w0.heap.size<=z/\z≠h) v' xs'):
 NX w0 b lo A n c code h K k' a' bb' v' xs' ((((cur.setCell ⟨h,0,none⟩ (.int .i64 k')).setCell ⟨h,1,none⟩ (.int .i64 a')).setCell ⟨h,2,none⟩ (.int .i64 bb')).setCell ⟨h,3,none⟩ v'):=by
 have hz:=x.sz;have hl:=x.lo;have st:∀(u:Yw) (o:Nat) (y:Value),Chg (fun z=>z=h) u (u.setCell ⟨h,o,none⟩ y):=fun u o y=>Chg.set u h o _ rfl
 have CH:=(((st cur 0 (.int .i64 k')).trans (st _ 1 (.int .i64 a'))).trans (st _ 2 (.int .i64 bb'))).trans (st _ 3 v');have hs:=x.mid.size;have MB:=CH.toBelow (B:=w0.heap.size) (fun z h=>by omega) hs;have hs2:=CH.size;have c0:(cur.setCell ⟨h,0,none⟩ (.int .i64 k')).cell? ⟨h,0,none⟩=some (.int .i64 k'):=World.cell?_setCell_same _ _ _ x.p0;have c1:((cur.setCell ⟨h,0,none⟩ (.int .i64 k')).setCell ⟨h,1,none⟩ (.int .i64 a')).cell? ⟨h,1,none⟩=some (.int .i64 a'):=World.cell?_setCell_same _ _ _ ((zcu _ h _ (by decide)).trans x.p1);have c2:(((cur.setCell ⟨h,0,none⟩ (.int .i64 k')).setCell ⟨h,1,none⟩ (.int .i64 a')).setCell ⟨h,2,none⟩ (.int .i64 bb')).cell? ⟨h,2,none⟩=some (.int .i64 bb'):=World.cell?_setCell_same _ _ _ ((zcu _ h _ (by decide)).trans ((zcu _ h _ (by decide)).trans x.p2));have c3:((((cur.setCell ⟨h,0,none⟩ (.int .i64 k')).setCell ⟨h,1,none⟩ (.int .i64 a')).setCell ⟨h,2,none⟩ (.int .i64 bb')).setCell ⟨h,3,none⟩ v').cell? ⟨h,3,none⟩=some v':=World.cell?_setCell_same _ _ _ ((zcu _ h _ (by decide)).trans ((zcu _ h _ (by decide)).trans ((zcu _ h _ (by decide)).trans x.p3)))
 refine⟨(zcu _ h _ (by decide)).trans ((zcu _ h _ (by decide)).trans ((zcu _ h _ (by decide)).trans c0)),(zcu _ h _ (by decide)).trans ((zcu _ h _ (by decide)).trans c1),(zcu _ h _ (by decide)).trans c2,c3,fun j hj=>?_,
  own.chg CH (fun z h1 h2=>h1.2 h2),x.src.below MB hb,x.mid.thenB' MB (Nat.le_refl _),by omega,hl⟩
 rw[World.frozen?_setCell,World.frozen?_setCell,World.frozen?_setCell,World.frozen?_setCell];exact x.q j hj
theorem NX.turn(x:NX w0 b lo A n c code h K k a bb v xs cur)(hb:b<w0.heap.size)(hc:Chg (fun z=>w0.heap.size<=z/\z≠h) cur w4)(own:OS tI 2 w4 (fun z=>w0.heap.size<=z/\z≠h) v xs'):NX w0 b lo A n c code h K k a bb v xs' w4:=by
 have hz:=x.sz;have hl:=x.lo;have hs:=x.mid.size;have MB:Below w0.heap.size cur w4:=hc.toBelow (fun z h=>h.1) hs;have cG:∀{o u},cur.cell? ⟨h,o,none⟩=u->w4.cell? ⟨h,o,none⟩=u:=fun h3=>by rw[hc.cell1 hz (fun h=>h.2 rfl)];exact h3
 exact⟨cG x.p0,cG x.p1,cG x.p2,cG x.p3,fun j hj=>by rw[hc.frozen1 hz (fun h=>h.2 rfl)];exact x.q j hj,own,x.src.below MB hb,x.mid.thenB' MB (Nat.le_refl _),Nat.lt_of_lt_of_le hz hc.size,hl⟩
end
structure M.pD (inp outp:Nat) (lin:Bool) (x:zad):Prop where
 ok:zcd x=true
 i:x.1=inp
 o:x.2.2.2.length=outp
 hl:lin=true->∀y∈x.2.2.1,zir y.1=true
 n:1<=x.2.2.1.length/\x.2.2.1.length<=10
 t:x.2.1.length<=2/\∀t∈x.2.1,t.length<=8
 f:∀y∈x.2.2.1,y.2.2.2.length<=3
end
set_option maxHeartbeats 40000000
structure M.zD (lin:Bool) (x:Sess):Prop where
 len:x.1=20\/x.1=32\/x.1=40\/x.1=0\/x.1=7
 sn:1<=x.2.1.length/\x.2.1.length<=3
 sl:∀s∈x.2.1,(1<=s.length/\s.length<=15)/\∀y∈s,M.smp y=true
 tn:x.2.2.1.length<=3
 tk:∀t∈x.2.2.1,t.length<=3/\zjz x.2.1.length t
 fn:x.2.2.2.1.length=x.2.2.1.length
 fd:∀f∈x.2.2.2.1,0<=f/\f<(x.2.2.2.2.2.length:Int)
 en:x.2.2.2.2.1.length=x.2.2.2.2.2.length
 ef:∀p∈x.2.2.2.2.1,p=(0,[],[],[])\/M.pD 1 1 lin p
 mn:1<=x.2.2.2.2.2.length/\x.2.2.2.2.2.length<=6
 mt:M.tiny 4 x.2.2.2.2.2
 mx:zby x.2.2.2.2.2=true
theorem DS.off{w wr w':Yw}{b lo:Nat}{A:Yo}{n c:Nat}{code:List UInt8}{g K M:Nat}{i:Int}{v1 v2 v3 v4 v5:Value}{x1:List (List Int)}{x2:List (List zas)}{x3:List Int}{x4:List zad}{x5:List zag}(h:DS w b lo A n c code g K M i v1 v2 v3 v4 v5 x1 x2 x3 x4 x5 wr)(hb:b<w.heap.size)(hc:Chg (fun z=>M<=z) wr w'):DS w b lo A n c code g K M i v1 v2 v3 v4 v5 x1 x2 x3 x4 x5 w':=by
 obtain⟨F1,F2,F3,F4,F5,h,hB,hM,hg⟩:=h;have hl:=h.lo;obtain⟨h1,h2,h3,h4,h5,h6⟩:=h.turn hb (F:=fun z=>M<=z) (fun z hz=>by omega) hc;exact⟨F1,F2,F3,F4,F5,⟨h1,h2 _ _ h.p0,h2 _ _ h.p1,h2 _ _ h.p2,h2 _ _ h.p3,h2 _ _ h.p4,h2 _ _ h.p5,h3,h.r1.chg hc (fun z a b=>by have:=hB z (by simp[a]);omega),h.r2.chg hc (fun z a b=>by have:=hB z (by simp[a]);omega),h.r3.chg hc (fun z a b=>by have:=hB z (by simp[a]);omega),h.r4.chg hc (fun z a b=>by have:=hB z (by simp[a]);omega),h.r5.chg hc (fun z a b=>by have:=hB z (by simp[a]);omega),h.fd,h4,h5,h6,h.lo⟩,hB,Nat.le_trans hM hc.size,hg⟩
theorem Hs.szL_le{α:Type}(h:Hs α){xs:List α}{B:Nat}(hB:∀x∈xs,h.sz x<=B):h.szL xs<=xs.length*B:=by
 induction xs with
 | nil=>simp[Hs.szL]
 | cons x xs ih=>
  have h1:=hB x (by simp);have h2:=ih (fun y hy=>hB y (by simp[hy]));rw[Hs.szL,List.length_cons,Nat.add_mul];omega
theorem Hs.slsz_le{α:Type}(h:Hs α){xs:List α}{B C:Nat}(hB:∀x∈xs,h.sz x<=B)(hl:xs.length<=C):h.sl.sz xs<=C+C*B:=by
 have h1:=Hs.szL_le h hB;have h2:xs.length*B<=C*B:=Nat.mul_le_mul_right B hl;show xs.length+h.szL xs<=_
 omega
structure M.fewZ (x:Sess):Prop where
 sn:x.2.1.length<=30/\∀s∈x.2.1,s.length<=30
 tn:x.2.2.1.length<=30/\∀t∈x.2.2.1,t.length<=30
 fn:x.2.2.2.1.length<=30
 en:x.2.2.2.2.1.length<=30
 e1:∀p∈x.2.2.2.2.1,p.2.1.length<=30/\∀t∈p.2.1,t.length<=30
 e2:∀p∈x.2.2.2.2.1,p.2.2.1.length<=30/\∀y∈p.2.2.1,y.2.2.2.length<=30
 e3:∀p∈x.2.2.2.2.1,p.2.2.2.length<=30
 mn:x.2.2.2.2.2.length<=8
 mt:M.tiny 10 x.2.2.2.2.2
theorem M.fewZ.sz{x:Sess}(h:M.fewZ x):hZ.sz x<=100000000:=by
 obtain⟨a0,x1,x2,x3,x4,x5⟩:=x;rw[zdi]
 have iS:∀xs:List Int,xs.length<=30->hS.sz xs<=30:=fun xs hl=>by
  have:=Hs.slsz_le hI (xs:=xs) (B:=0) (fun _ _=>Nat.le_refl _) hl;simpa using this
 have i1:hSS.sz x1<=930:=Hs.slsz_le hS (B:=30) (fun s hs=>iS s (h.sn.2 s hs)) h.sn.1
 have i2:hTS.sz x2<=930:=Hs.slsz_le hT (B:=30) (fun t ht=>by
  have:=Hs.slsz_le hCl (xs:=t) (B:=0) (fun _ _=>Nat.le_refl _) (h.tn.2 t ht);simpa using this) h.tn.1
 have i3:hS.sz x3<=30:=iS x3 h.fn
 have i4:hPS.sz x4<=30+30*1890:=Hs.slsz_le hP (B:=1890) (fun p hp=>by
  have q1:hSS.sz p.2.1<=930:=Hs.slsz_le hS (B:=30) (fun s hs=>iS s ((h.e1 p hp).2 s hs)) (h.e1 p hp).1
  have q2:hNS.sz p.2.2.1<=930:=Hs.slsz_le hN (B:=30) (fun y hy=>by
   have:=iS y.2.2.2 ((h.e2 p hp).2 y hy);show 0+(0+(0+hS.sz y.2.2.2))<=30
   omega) (h.e2 p hp).1
  have q3:hS.sz p.2.2.2<=30:=iS _ (h.e3 p hp);show 0+(hSS.sz p.2.1+(hNS.sz p.2.2.1+hS.sz p.2.2.2))<=1890
  omega) h.en
 have i5:hM.sz x5<=100000:=by
  have hf:zjw (List.replicate x5.length (List.replicate 10 0)) x5:=⟨by simp,fun i x L hx hL=>by
   have h1:=h.mt x (List.mem_of_getElem? hx)
   have h2:L=List.replicate 10 0:=by
    have:=List.mem_of_getElem? hL;exact(List.mem_replicate.1 this).2
   rw[h2,List.length_replicate];omega⟩
  have:=zwl hf;have e:((List.replicate x5.length (List.replicate 10 (0:UInt8))).map List.length).sum=x5.length*10:=by simp
  rw[e,List.length_replicate]at this;have h8:x5.length<=8:=h.mn;omega
 omega
theorem M.tiny.up{m k:Nat}{xs:List zag}(h:M.tiny m xs)(hk:m<=k):M.tiny k xs:=fun x hx=>⟨(h x hx).1,Nat.le_trans (h x hx).2 hk⟩
theorem M.zD.ok{lin:Bool}{x:Sess}(h:M.zD lin x){ps:List zad}(hl:ps.length=x.2.2.2.2.2.length)(hp:∀p∈ps,zao p=true):zcl (x.1,x.2.1,x.2.2.1,x.2.2.2.1,ps,x.2.2.2.2.2)=true:=by
 have h1:=h.sn;have h2:=h.tn;have h0:=h.len;rw[zcl];simp only[Bool.and_eq_true,decide_eq_true_eq,List.all_eq_true];refine⟨⟨⟨⟨⟨⟨⟨⟨zbf.2 (by omega),?_⟩,by omega⟩,h.mx⟩,h.fn⟩,fun f hf=>zbf.2 (by have:=h.fd f hf;omega)⟩,hl⟩,fun t ht=>?_⟩,hp⟩
 ·rw[zen,Bool.and_eq_true,decide_eq_true_eq,List.all_eq_true];refine⟨by omega,fun s hs=>?_⟩;have:=h.sl s hs;rw[M.sig,Bool.and_eq_true,decide_eq_true_eq,List.all_eq_true];exact⟨by omega,this.2⟩
 have:=h.tk t ht;exact⟨zwv this.2 (by omega),zww this.2⟩
section
set_option synthInstance.maxSize 2000
set_option synthInstance.maxHeartbeats 400000
section
variable {L:Nat} {src:List (List Int)} {ts:List (List zas)} {fs:List Int} {ps:List zad} {ms:List zag}
end
end
section
theorem zxo{ND:NO->Nat->Bool}{NN:zad->Nat}(hND:∀p j,ND p j=true↔M.Rch p.1 p.2 j)(hNN:∀p:zad,zao p=true->p≠M.p0->zbk ND p.2.1 (zah ND p.2.1 (p.2.2.1,p.2.2.2) (NN p))=none)(p:Int)(A:Yo)(n c:Nat)(Ab:Yo)(nb cb:Nat)(Ac:Yo)(nc cc:Nat)(Ad:Yo)(nd cd:Nat)(Ae:Yo)(ne ce:Nat)(x:Sess)(w:Yw)(hx:tZ.R w w.heap.size [.int .i64 p,.slice A n c,.slice Ab nb cb,.slice Ac nc cc,.slice Ad nd cd,.slice Ae ne ce] x)(hn:hZ.sz x<=100000000):
 Calls Tryz.prog 8 #[.agg #[.int .i64 p,.slice A n c,.slice Ab nb cb,.slice Ac nc cc,.slice Ad nd cd,.slice Ae ne ce]] w fun e w'=>∃p' A' n' c' Ab' nb' cb' Ac' nc' cc' Ad' nd' cd' Ae' ne' ce',e=.returned (.tuple #[.agg #[.int .i64 p',.slice A' n' c',.slice Ab' nb' cb',.slice Ac' nc' cc',.slice Ad' nd' cd',.slice Ae' ne' ce'],.int .i64 (zcb ND NN x).2])/\tZ.O w' (Iv w.heap.size w'.heap.size) [.int .i64 p',.slice A' n' c',.slice Ab' nb' cb',.slice Ac' nc' cc',.slice Ad' nd' cd',.slice Ae' ne' ce'] (zcb ND NN x).1/\Below w.heap.size w w':=by
 obtain⟨a0,x1,x2,x3,x4,x5⟩:=x;obtain⟨A1,n1,c1,A2,n2,c2,A3,n3,c3,A4,n4,c4,A5,n5,c5,hcs,h1,h2,h3,h4,h5⟩:=tZ_R.1 (hx);simp only[List.cons.injEq,Value.int.injEq,Value.slice.injEq,true_and,and_true]at hcs;obtain⟨rfl,⟨rfl,rfl,rfl⟩,⟨rfl,rfl,rfl⟩,⟨rfl,rfl,rfl⟩,⟨rfl,rfl,rfl⟩,⟨rfl,rfl,rfl⟩⟩:=hcs;exact zwk hND hNN _ _ _ _ _ _ _ _ _ _ _ _ _ _ _ _ _ _ _ _ _ _ h1 h2 h3 h4 h5 hn
section
variable {ND:NO->Nat->Bool} {NN:zad->Nat}
theorem zwx(hND:∀p j,ND p j=true↔M.Rch p.1 p.2 j){p:zad}(hp:zao p=true):(zbd ND NN p).2.1=p.2.1/\((zbd ND NN p).2.2.1.length<=24/\∀y∈(zbd ND NN p).2.2.1,y.2.2.2.length<=3)/\(zbd ND NN p).2.2.2.length<=1:=by
 rw[zbd]
 split
 ·rename_i h;rw[h];exact⟨rfl,⟨by simp[M.p0],by simp[M.p0]⟩,by simp[M.p0]⟩
 rename_i h
 obtain⟨k1,k2,k3,k4,k5,k6⟩:=zvl (N:=NN p) hND hp h;obtain⟨R,hW,-⟩:=zjt k1 k2;refine⟨k4,⟨k5,fun y hy=>?_⟩,by omega⟩;obtain⟨i,hi⟩:=List.getElem?_of_mem hy;exact zfy (hW.ok i y hi)
end
end
section
theorem zxp{ND:NO->Nat->Bool}{NN:zad->Nat}(hND:∀p j,ND p j=true↔M.Rch p.1 p.2 j)(hNN:∀p:zad,zao p=true->p≠M.p0->zbk ND p.2.1 (zah ND p.2.1 (p.2.2.1,p.2.2.2) (NN p))=none)(p:Int)(A:Yo)(n c:Nat)(Ab:Yo)(nb cb:Nat)(Ac:Yo)(nc cc:Nat)(Ad:Yo)(nd cd:Nat)(Ae:Yo)(ne ce:Nat)(x:Sess)(w:Yw)(hx:tZ.R w w.heap.size [.int .i64 p,.slice A n c,.slice Ab nb cb,.slice Ac nc cc,.slice Ad nd cd,.slice Ae ne ce] x)(hn:hZ.sz x<=100000000):
 Calls Tryz.prog 6 #[.agg #[.int .i64 p,.slice A n c,.slice Ab nb cb,.slice Ac nc cc,.slice Ad nd cd,.slice Ae ne ce]] w fun e w'=>∃p' A' n' c' Ab' nb' cb' Ac' nc' cc' Ad' nd' cd' Ae' ne' ce',e=.returned (.tuple #[.agg #[.int .i64 p',.slice A' n' c',.slice Ab' nb' cb',.slice Ac' nc' cc',.slice Ad' nd' cd',.slice Ae' ne' ce'],.int .i64 (zcb ND NN x).2])/\tZ.O w' (Iv w.heap.size w'.heap.size) [.int .i64 p',.slice A' n' c',.slice Ab' nb' cb',.slice Ac' nc' cc',.slice Ad' nd' cd',.slice Ae' ne' ce'] (zcb ND NN x).1/\Below w.heap.size w w':=by
 obtain⟨a0,x1,x2,x3,x4,x5⟩:=x;obtain⟨A1,n1,c1,A2,n2,c2,A3,n3,c3,A4,n4,c4,A5,n5,c5,hcs,h1,h2,h3,h4,h5⟩:=tZ_R.1 (hx);simp only[List.cons.injEq,Value.int.injEq,Value.slice.injEq,true_and,and_true]at hcs;obtain⟨rfl,⟨rfl,rfl,rfl⟩,⟨rfl,rfl,rfl⟩,⟨rfl,rfl,rfl⟩,⟨rfl,rfl,rfl⟩,⟨rfl,rfl,rfl⟩⟩:=hcs;exact zwj hND hNN _ _ _ _ _ _ _ _ _ _ _ _ _ _ _ _ _ _ _ _ _ _ h1 h2 h3 h4 h5 hn
section
variable {ND:NO->Nat->Bool} {NN:zad->Nat}
theorem zwy(hND:∀p j,ND p j=true↔M.Rch p.1 p.2 j){p:zad}(hp:zao p=true):hP.sz (zbd ND NN p)<=hP.sz p+100:=by
 obtain⟨h1,⟨h2,h3⟩,h4⟩:=zwx (NN:=NN) hND hp;generalize zbd ND NN p=q at h1 h2 h3 h4 ⊢;obtain⟨a,t,ns,os⟩:=p;obtain⟨a',t',ns',os'⟩:=q;simp only at h1 h2 h3 h4;subst h1;have k1:=zht ns' h3;rw[zco,zco];have e1:hNS.sz ns'=ns'.length+hN.szL ns':=rfl;have e2:hS.sz os'=os'.length:=zbi _;omega
theorem zon(hND:∀p j,ND p j=true↔M.Rch p.1 p.2 j):∀ps:List zad,(∀p∈ps,zao p=true)->hP.szL (ps.map (zbd ND NN))<=hP.szL ps+100*ps.length
 | [],_=>by simp
 | p::ps,h=>by
  have h1:=zwy (NN:=NN) hND (h p (List.mem_cons_self ..));have h2:=zon hND ps (fun q hq=>h q (List.mem_cons_of_mem _ hq));rw[List.map_cons,Hs.szL,Hs.szL,List.length_cons];omega
theorem zxq(hND:∀p j,ND p j=true↔M.Rch p.1 p.2 j)(x:Sess)(h:hZ.sz x<=1048576):hZ.sz (zcb ND NN x).1<=2000000:=by
 rw[zcb];cases ho:zcl x
 ·show (0+(0+0+(0+0+(0+0+(0+0+(0+0))))):Nat)<=_;omega
 rw[if_pos rfl];obtain⟨a0,x1,x2,x3,x4,x5⟩:=x
 have he:∀p∈x4,zao p=true:=by
  rw[zcl]at ho;simp only[Bool.and_eq_true,List.all_eq_true]at ho;exact ho.2
 have hl:x4.length<=8:=by
  rw[zcl]at ho;simp only[Bool.and_eq_true,decide_eq_true_eq]at ho;have h7:=ho.1.1.2;have h4:=ho.1.1.1.1.1.2;rw[zby,Bool.and_eq_true]at h4;have:=zbf.1 h4.1;omega
 have k1:=zon (NN:=NN) hND x4 he;show hZ.sz ((a0,x1,x2,x3,x4.map (zbd ND NN),x5):Sess)<=_
 rw[zdi]at h ⊢;have e1:hPS.sz x4=x4.length+hP.szL x4:=rfl;have e2:hPS.sz (x4.map (zbd ND NN))=(x4.map (zbd ND NN)).length+hP.szL (x4.map (zbd ND NN)):=rfl;rw[List.length_map]at e2;omega
end
end
end Go.Proofs.YtifeldeikhmckaaGreat
