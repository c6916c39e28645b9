import Derived.Test.YtifeldeikhmckaaGreatFnMutedG15
import Derived.Test.YtifeldeikhmckaaGreatFnMutedG14
import Derived.Test.YtifeldeikhmckaaGreatFnMutedG2
import Derived.Test.YtifeldeikhmckaaGreatFnMutedG7
import Derived.Deep.DeepCutAuto
set_option linter.unusedVariables false
set_option linter.unusedSimpArgs false
set_option maxRecDepth 100000
set_option maxHeartbeats 4000000
namespace Go.Proofs.YtifeldeikhmckaaGreat
open Go.RowKit Go.Sort
section
structure FZ (w0 g:Nat) (F1 F2 F3 F4 F5:Nat->Prop):Prop where
 o1:∀z,F1 z->w0<z/\z≠g
 o2:∀z,F2 z->w0<z/\z≠g
 o3:∀z,F3 z->w0<z/\z≠g
 o4:∀z,F4 z->w0<z/\z≠g
 o5:∀z,F5 z->w0<z/\z≠g
 a12:∀z,F1 z->¬F2 z
 a13:∀z,F1 z->¬F3 z
 a14:∀z,F1 z->¬F4 z
 a15:∀z,F1 z->¬F5 z
 a23:∀z,F2 z->¬F3 z
 a24:∀z,F2 z->¬F4 z
 a25:∀z,F2 z->¬F5 z
 a34:∀z,F3 z->¬F4 z
 a35:∀z,F3 z->¬F5 z
 a45:∀z,F4 z->¬F5 z
structure DZ (w:Yw) (b lo:Nat) (A:Yo) (n c:Nat) (code:List UInt8) (g K:Nat) (i:Int) (v1 v2 v3 v4 v5:Value) (x1:List (List Int)) (x2:List (List zap)) (x3:List Int) (x4:List zae) (x5:List zag) (F1 F2 F3 F4 F5:Nat->Prop) (wr:Yw):Prop where
 e:∀j,j<6->wr.cell? ⟨w.heap.size,j,none⟩=some (if j=0 then .int .i64 0 else .slice none 0 0)/\wr.frozen? ⟨w.heap.size,j,none⟩=false
 p0:wr.cell? ⟨g,0,none⟩=some (.int .i64 i)
 p1:wr.cell? ⟨g,1,none⟩=some v1
 p2:wr.cell? ⟨g,2,none⟩=some v2
 p3:wr.cell? ⟨g,3,none⟩=some v3
 p4:wr.cell? ⟨g,4,none⟩=some v4
 p5:wr.cell? ⟨g,5,none⟩=some v5
 q:∀j,j<6->wr.frozen? ⟨g,j,none⟩=false
 r1:OS tS 24 wr F1 v1 x1
 r2:OS tT 98 wr F2 v2 x2
 r3:OS tI 2 wr F3 v3 x3
 r4:OS tP 67 wr F4 v4 x4
 r5:OS tSt 117 wr F5 v5 x5
 fd:FZ w.heap.size g F1 F2 F3 F4 F5
 src:Src wr b lo A n c code K
 mid:Mid b (b+1) w wr
 sz:g<wr.heap.size
 lo:w.heap.size<g
section
variable {w wr w' w4:Yw} {b lo:Nat} {A :Yo} {n c:Nat} {code:List UInt8} {g K K':Nat} {i:Int} {v1 v2 v3 v4 v5 v':Value} {x1:List (List Int)} {x2:List (List zap)} {x3:List Int} {x4:List zae} {x5:List zag} {F1 F2 F3 F4 F5 F':Nat->Prop}
theorem DZ.step(h:DZ w b lo A n c code g K i v1 v2 v3 v4 v5 x1 x2 x3 x4 x5 F1 F2 F3 F4 F5 wr)(hb:b<w.heap.size)(hs:Src w' b lo A n c code K')(hm:Mid b (b+1) wr w'):DZ w b lo A n c code g K' i v1 v2 v3 v4 v5 x1 x2 x3 x4 x5 F1 F2 F3 F4 F5 w':=by
 have hz:=h.sz;have hl:=h.lo;have h1:w.heap.size<wr.heap.size:=by omega
 have h2:b<g:=by omega
 have cG:∀{o u},wr.cell? ⟨g,o,none⟩=u->w'.cell? ⟨g,o,none⟩=u:=fun h3=>hm.cellK hz (.inr h2) h3
 exact⟨fun j hj=>⟨hm.cellK h1 (.inr hb) (h.e j hj).1,hm.frozK h1 (.inr hb) (h.e j hj).2⟩,cG h.p0,cG h.p1,cG h.p2,cG h.p3,cG h.p4,cG h.p5,fun j hj=>hm.frozK hz (.inr h2) (h.q j hj),
  h.r1.chg (Chg.of_mid hm) (fun z h1 h2=>by have:=(h.fd.o1 z h1).1;omega),h.r2.chg (Chg.of_mid hm) (fun z h1 h2=>by have:=(h.fd.o2 z h1).1;omega),h.r3.chg (Chg.of_mid hm) (fun z h1 h2=>by have:=(h.fd.o3 z h1).1;omega),h.r4.chg (Chg.of_mid hm) (fun z h1 h2=>by have:=(h.fd.o4 z h1).1;omega),h.r5.chg (Chg.of_mid hm) (fun z h1 h2=>by have:=(h.fd.o5 z h1).1;omega),
  h.fd,hs,h.mid.trans hm,Cq hz hm.size,hl⟩
theorem DZ.more(h:DZ w b lo A n c code g K i v1 v2 v3 v4 v5 x1 x2 x3 x4 x5 F1 F2 F3 F4 F5 wr)(hK:K<=K'):DZ w b lo A n c code g K' i v1 v2 v3 v4 v5 x1 x2 x3 x4 x5 F1 F2 F3 F4 F5 wr:=
 ⟨h.e,h.p0,h.p1,h.p2,h.p3,h.p4,h.p5,h.q,h.r1,h.r2,h.r3,h.r4,h.r5,h.fd,h.src.more hK,h.mid,h.sz,h.lo⟩
theorem DZ.turn(h:DZ w b lo A n c code g K i v1 v2 v3 v4 v5 x1 x2 x3 x4 x5 F1 F2 F3 F4 F5 wr)(hb:b<w.heap.size){F:Nat->Prop}(hF:∀z,F z->w.heap.size<z/\z≠g)(hc:Chg F wr w4):
 (∀j,j<6->w4.cell? ⟨w.heap.size,j,none⟩=some (if j=0 then .int .i64 0 else .slice none 0 0)/\w4.frozen? ⟨w.heap.size,j,none⟩=false)/\(∀o u,wr.cell? ⟨g,o,none⟩=u->w4.cell? ⟨g,o,none⟩=u)/\(∀j,j<6->w4.frozen? ⟨g,j,none⟩=false)/\Src w4 b lo A n c code K/\Mid b (b+1) w w4/\g<w4.heap.size:=by
 have hz:=h.sz;have hl:=h.lo;have hs4:wr.heap.size<=w4.heap.size:=hc.size;have MB:Below w.heap.size wr w4:=hc.toBelow (fun z h=>by have:=hF z h;omega) (by omega);refine⟨fun j hj=>⟨?_,?_⟩,fun o u hu=>?_,fun j hj=>?_,h.src.below MB hb,h.mid.thenB' MB (Aj _),by omega⟩
 ·rw[hc.cell1 (show w.heap.size<_ by omega) (fun h=>absurd (show w.heap.size<w.heap.size from(hF _ h).1) (by omega))];exact(h.e j hj).1
 ·rw[hc.frozen1 (show w.heap.size<_ by omega) (fun h=>absurd (show w.heap.size<w.heap.size from(hF _ h).1) (by omega))];exact(h.e j hj).2
 ·rw[hc.cell1 hz (fun h=>(hF _ h).2 rfl)];exact hu
 rw[hc.frozen1 hz (fun h=>(hF _ h).2 rfl)];exact h.q j hj
theorem DZ.push1(h:DZ w b lo A n c code g K i v1 v2 v3 v4 v5 x1 x2 x3 x4 x5 F1 F2 F3 F4 F5 wr)(hb:b<w.heap.size)(hc:Chg F1 wr w4){x':List (List Int)}(r':OS tS 24 w4 F' v' x')(fd:FZ w.heap.size g F' F2 F3 F4 F5):DZ w b lo A n c code g K i v' v2 v3 v4 v5 x' x2 x3 x4 x5 F' F2 F3 F4 F5 (w4.setCell ⟨g,1,none⟩ v'):=by
 obtain⟨h1,h2,h3,h4,h5,h6⟩:=h.turn hb h.fd.o1 hc;have hl:=h.lo;have CB:Chg (fun z=>z=g) w4 (w4.setCell ⟨g,1,none⟩ v'):=Chg.set w4 g 1 _ rfl;have MB:Below w.heap.size w4 (w4.setCell ⟨g,1,none⟩ v'):=CB.toBelow (fun z h=>by omega) (by omega)
 refine⟨fun j hj=>⟨?_,(Bf _ _ _ _).trans (h1 j hj).2⟩,(zaf w4 g _ (by decide)).trans (h2 _ _ h.p0),Dj _ _ _ (h2 _ _ h.p1),(zaf w4 g _ (by decide)).trans (h2 _ _ h.p2),(zaf w4 g _ (by decide)).trans (h2 _ _ h.p3),(zaf w4 g _ (by decide)).trans (h2 _ _ h.p4),(zaf w4 g _ (by decide)).trans (h2 _ _ h.p5),fun j hj=>(Bf _ _ _ _).trans (h3 j hj),
  r'.chg CB (fun z a b=>(fd.o1 z a).2 b),(h.r2.chg hc (fun z a b=>h.fd.a12 z b a)).chg CB (fun z a b=>(h.fd.o2 z a).2 b),(h.r3.chg hc (fun z a b=>h.fd.a13 z b a)).chg CB (fun z a b=>(h.fd.o3 z a).2 b),(h.r4.chg hc (fun z a b=>h.fd.a14 z b a)).chg CB (fun z a b=>(h.fd.o4 z a).2 b),(h.r5.chg hc (fun z a b=>h.fd.a15 z b a)).chg CB (fun z a b=>(h.fd.o5 z a).2 b),fd,h4.below MB hb,h5.thenB' MB (by have:=h.mid.size;omega),by simpa using h6,hl⟩
 rw[Ek (Fg w4 ⟨g,1,none⟩ w.heap.size _ (by show w.heap.size≠g;omega))];exact(h1 j hj).1
theorem DZ.push2(h:DZ w b lo A n c code g K i v1 v2 v3 v4 v5 x1 x2 x3 x4 x5 F1 F2 F3 F4 F5 wr)(hb:b<w.heap.size)(hc:Chg F2 wr w4){x':List (List zap)}(r':OS tT 98 w4 F' v' x')(fd:FZ w.heap.size g F1 F' F3 F4 F5):DZ w b lo A n c code g K i v1 v' v3 v4 v5 x1 x' x3 x4 x5 F1 F' F3 F4 F5 (w4.setCell ⟨g,2,none⟩ v'):=by
 obtain⟨h1,h2,h3,h4,h5,h6⟩:=h.turn hb h.fd.o2 hc;have hl:=h.lo;have CB:Chg (fun z=>z=g) w4 (w4.setCell ⟨g,2,none⟩ v'):=Chg.set w4 g 2 _ rfl;have MB:Below w.heap.size w4 (w4.setCell ⟨g,2,none⟩ v'):=CB.toBelow (fun z h=>by omega) (by omega)
 refine⟨fun j hj=>⟨?_,(Bf _ _ _ _).trans (h1 j hj).2⟩,(zaf w4 g _ (by decide)).trans (h2 _ _ h.p0),(zaf w4 g _ (by decide)).trans (h2 _ _ h.p1),Dj _ _ _ (h2 _ _ h.p2),(zaf w4 g _ (by decide)).trans (h2 _ _ h.p3),(zaf w4 g _ (by decide)).trans (h2 _ _ h.p4),(zaf w4 g _ (by decide)).trans (h2 _ _ h.p5),fun j hj=>(Bf _ _ _ _).trans (h3 j hj),
  (h.r1.chg hc (fun z a b=>h.fd.a12 z a b)).chg CB (fun z a b=>(h.fd.o1 z a).2 b),r'.chg CB (fun z a b=>(fd.o2 z a).2 b),(h.r3.chg hc (fun z a b=>h.fd.a23 z b a)).chg CB (fun z a b=>(h.fd.o3 z a).2 b),(h.r4.chg hc (fun z a b=>h.fd.a24 z b a)).chg CB (fun z a b=>(h.fd.o4 z a).2 b),(h.r5.chg hc (fun z a b=>h.fd.a25 z b a)).chg CB (fun z a b=>(h.fd.o5 z a).2 b),fd,h4.below MB hb,h5.thenB' MB (by have:=h.mid.size;omega),by simpa using h6,hl⟩
 rw[Ek (Fg w4 ⟨g,2,none⟩ w.heap.size _ (by show w.heap.size≠g;omega))];exact(h1 j hj).1
theorem DZ.push3(h:DZ w b lo A n c code g K i v1 v2 v3 v4 v5 x1 x2 x3 x4 x5 F1 F2 F3 F4 F5 wr)(hb:b<w.heap.size)(hc:Chg F3 wr w4){x':List Int}(r':OS tI 2 w4 F' v' x')(fd:FZ w.heap.size g F1 F2 F' F4 F5):DZ w b lo A n c code g K i v1 v2 v' v4 v5 x1 x2 x' x4 x5 F1 F2 F' F4 F5 (w4.setCell ⟨g,3,none⟩ v'):=by
 obtain⟨h1,h2,h3,h4,h5,h6⟩:=h.turn hb h.fd.o3 hc;have hl:=h.lo;have CB:Chg (fun z=>z=g) w4 (w4.setCell ⟨g,3,none⟩ v'):=Chg.set w4 g 3 _ rfl;have MB:Below w.heap.size w4 (w4.setCell ⟨g,3,none⟩ v'):=CB.toBelow (fun z h=>by omega) (by omega)
 refine⟨fun j hj=>⟨?_,(Bf _ _ _ _).trans (h1 j hj).2⟩,(zaf w4 g _ (by decide)).trans (h2 _ _ h.p0),(zaf w4 g _ (by decide)).trans (h2 _ _ h.p1),(zaf w4 g _ (by decide)).trans (h2 _ _ h.p2),Dj _ _ _ (h2 _ _ h.p3),(zaf w4 g _ (by decide)).trans (h2 _ _ h.p4),(zaf w4 g _ (by decide)).trans (h2 _ _ h.p5),fun j hj=>(Bf _ _ _ _).trans (h3 j hj),
  (h.r1.chg hc (fun z a b=>h.fd.a13 z a b)).chg CB (fun z a b=>(h.fd.o1 z a).2 b),(h.r2.chg hc (fun z a b=>h.fd.a23 z a b)).chg CB (fun z a b=>(h.fd.o2 z a).2 b),r'.chg CB (fun z a b=>(fd.o3 z a).2 b),(h.r4.chg hc (fun z a b=>h.fd.a34 z b a)).chg CB (fun z a b=>(h.fd.o4 z a).2 b),(h.r5.chg hc (fun z a b=>h.fd.a35 z b a)).chg CB (fun z a b=>(h.fd.o5 z a).2 b),fd,h4.below MB hb,h5.thenB' MB (by have:=h.mid.size;omega),by simpa using h6,hl⟩
 rw[Ek (Fg w4 ⟨g,3,none⟩ w.heap.size _ (by show w.heap.size≠g;omega))];exact(h1 j hj).1
theorem DZ.push4(h:DZ w b lo A n c code g K i v1 v2 v3 v4 v5 x1 x2 x3 x4 x5 F1 F2 F3 F4 F5 wr)(hb:b<w.heap.size)(hc:Chg F4 wr w4){x':List zae}(r':OS tP 67 w4 F' v' x')(fd:FZ w.heap.size g F1 F2 F3 F' F5):DZ w b lo A n c code g K i v1 v2 v3 v' v5 x1 x2 x3 x' x5 F1 F2 F3 F' F5 (w4.setCell ⟨g,4,none⟩ v'):=by
 obtain⟨h1,h2,h3,h4,h5,h6⟩:=h.turn hb h.fd.o4 hc;have hl:=h.lo;have CB:Chg (fun z=>z=g) w4 (w4.setCell ⟨g,4,none⟩ v'):=Chg.set w4 g 4 _ rfl;have MB:Below w.heap.size w4 (w4.setCell ⟨g,4,none⟩ v'):=CB.toBelow (fun z h=>by omega) (by omega)
 refine⟨fun j hj=>⟨?_,(Bf _ _ _ _).trans (h1 j hj).2⟩,(zaf w4 g _ (by decide)).trans (h2 _ _ h.p0),(zaf w4 g _ (by decide)).trans (h2 _ _ h.p1),(zaf w4 g _ (by decide)).trans (h2 _ _ h.p2),(zaf w4 g _ (by decide)).trans (h2 _ _ h.p3),Dj _ _ _ (h2 _ _ h.p4),(zaf w4 g _ (by decide)).trans (h2 _ _ h.p5),fun j hj=>(Bf _ _ _ _).trans (h3 j hj),
  (h.r1.chg hc (fun z a b=>h.fd.a14 z a b)).chg CB (fun z a b=>(h.fd.o1 z a).2 b),(h.r2.chg hc (fun z a b=>h.fd.a24 z a b)).chg CB (fun z a b=>(h.fd.o2 z a).2 b),(h.r3.chg hc (fun z a b=>h.fd.a34 z a b)).chg CB (fun z a b=>(h.fd.o3 z a).2 b),r'.chg CB (fun z a b=>(fd.o4 z a).2 b),(h.r5.chg hc (fun z a b=>h.fd.a45 z b a)).chg CB (fun z a b=>(h.fd.o5 z a).2 b),fd,h4.below MB hb,h5.thenB' MB (by have:=h.mid.size;omega),by simpa using h6,hl⟩
 rw[Ek (Fg w4 ⟨g,4,none⟩ w.heap.size _ (by show w.heap.size≠g;omega))];exact(h1 j hj).1
theorem DZ.push5(h:DZ w b lo A n c code g K i v1 v2 v3 v4 v5 x1 x2 x3 x4 x5 F1 F2 F3 F4 F5 wr)(hb:b<w.heap.size)(hc:Chg F5 wr w4){x':List zag}(r':OS tSt 117 w4 F' v' x')(fd:FZ w.heap.size g F1 F2 F3 F4 F'):DZ w b lo A n c code g K i v1 v2 v3 v4 v' x1 x2 x3 x4 x' F1 F2 F3 F4 F' (w4.setCell ⟨g,5,none⟩ v'):=by
 obtain⟨h1,h2,h3,h4,h5,h6⟩:=h.turn hb h.fd.o5 hc;have hl:=h.lo;have CB:Chg (fun z=>z=g) w4 (w4.setCell ⟨g,5,none⟩ v'):=Chg.set w4 g 5 _ rfl;have MB:Below w.heap.size w4 (w4.setCell ⟨g,5,none⟩ v'):=CB.toBelow (fun z h=>by omega) (by omega)
 refine⟨fun j hj=>⟨?_,(Bf _ _ _ _).trans (h1 j hj).2⟩,(zaf w4 g _ (by decide)).trans (h2 _ _ h.p0),(zaf w4 g _ (by decide)).trans (h2 _ _ h.p1),(zaf w4 g _ (by decide)).trans (h2 _ _ h.p2),(zaf w4 g _ (by decide)).trans (h2 _ _ h.p3),(zaf w4 g _ (by decide)).trans (h2 _ _ h.p4),Dj _ _ _ (h2 _ _ h.p5),fun j hj=>(Bf _ _ _ _).trans (h3 j hj),
  (h.r1.chg hc (fun z a b=>h.fd.a15 z a b)).chg CB (fun z a b=>(h.fd.o1 z a).2 b),(h.r2.chg hc (fun z a b=>h.fd.a25 z a b)).chg CB (fun z a b=>(h.fd.o2 z a).2 b),(h.r3.chg hc (fun z a b=>h.fd.a35 z a b)).chg CB (fun z a b=>(h.fd.o3 z a).2 b),(h.r4.chg hc (fun z a b=>h.fd.a45 z a b)).chg CB (fun z a b=>(h.fd.o4 z a).2 b),r'.chg CB (fun z a b=>(fd.o5 z a).2 b),fd,h4.below MB hb,h5.thenB' MB (by have:=h.mid.size;omega),by simpa using h6,hl⟩
 rw[Ek (Fg w4 ⟨g,5,none⟩ w.heap.size _ (by show w.heap.size≠g;omega))];exact(h1 j hj).1
end
def DrewZ (b lo:Nat) (A:Yo) (n c:Nat) (code:List UInt8) (K:Nat) (P:Sess->Prop) (w:Yw) (e:Ending) (w':Yw):Prop:=
 ∃i A1 n1 c1 A2 n2 c2 A3 n3 c3 A4 n4 c4 A5 n5 c5 x,e=.returned (.agg #[.int .i64 i,.slice A1 n1 c1,.slice A2 n2 c2,.slice A3 n3 c3,.slice A4 n4 c4,.slice A5 n5 c5])/\tZ.O w' (Iv w.heap.size w'.heap.size) [.int .i64 i,.slice A1 n1 c1,.slice A2 n2 c2,.slice A3 n3 c3,.slice A4 n4 c4,.slice A5 n5 c5] x/\Hid (P x)/\Src w' b lo A n c code K/\Mid b (b+1) w w'
theorem DZ.fin{w wr:Yw}{b lo:Nat}{A:Yo}{n c:Nat}{code:List UInt8}{g K:Nat}{i:Int}{A1:Yo}{n1 c1:Nat}{A2:Yo}{n2 c2:Nat}{A3:Yo}{n3 c3:Nat}{A4:Yo}{n4 c4:Nat}{A5:Yo}{n5 c5:Nat}{x1:List (List Int)}{x2:List (List zap)}{x3:List Int}{x4:List zae}{x5:List zag}{F1 F2 F3 F4 F5:Nat->Prop}
 (h:DZ w b lo A n c code g K i (.slice A1 n1 c1) (.slice A2 n2 c2) (.slice A3 n3 c3) (.slice A4 n4 c4) (.slice A5 n5 c5) x1 x2 x3 x4 x5 F1 F2 F3 F4 F5 wr) (hb:b<w.heap.size) {P:Sess->Prop} (hP:P (i,x1,x2,x3,x4,x5)) :
 DrewZ b lo A n c code K P w (.returned (.agg #[.int .i64 i,.slice A1 n1 c1,.slice A2 n2 c2,.slice A3 n3 c3,.slice A4 n4 c4,.slice A5 n5 c5])) ((((((wr.setCell ⟨w.heap.size,0,none⟩ (.int .i64 i)).setCell ⟨w.heap.size,1,none⟩ (.slice A1 n1 c1)).setCell ⟨w.heap.size,2,none⟩ (.slice A2 n2 c2)).setCell ⟨w.heap.size,3,none⟩ (.slice A3 n3 c3)).setCell ⟨w.heap.size,4,none⟩ (.slice A4 n4 c4)).setCell ⟨w.heap.size,5,none⟩ (.slice A5 n5 c5)):=by
 have hz:=h.sz;have hl:=h.lo;have st:∀(u:Yw) (o:Nat) (x:Value),Chg (fun z=>z=w.heap.size) u (u.setCell ⟨w.heap.size,o,none⟩ x):=fun u o x=>Chg.set u w.heap.size o _ rfl
 have CH:=((((((st wr 0 (.int .i64 i)).trans (st _ 1 (.slice A1 n1 c1))).trans (st _ 2 (.slice A2 n2 c2))).trans (st _ 3 (.slice A3 n3 c3))).trans (st _ 4 (.slice A4 n4 c4))).trans (st _ 5 (.slice A5 n5 c5)));have MB:=CH.toBelow (B:=w.heap.size) (fun z h=>by omega) (by omega);have hs:=CH.size;refine⟨i,A1,n1,c1,A2,n2,c2,A3,n3,c3,A4,n4,c4,A5,n5,c5,(i,x1,x2,x3,x4,x5),rfl,?_,Aq hP,h.src.below MB hb,h.mid.thenB' MB (Aj _)⟩;have wd:∀{F:Nat->Prop},(∀z,F z->w.heap.size<z/\z≠g)->∀z,(F z/\z<wr.heap.size)->w.heap.size<=z/\z<_:=fun hF z h1=>⟨Nat.le_of_lt (hF z h1.1).1,Cq h1.2 hs⟩
 exact tZ_O.2 ⟨A1,n1,c1,A2,n2,c2,A3,n3,c3,A4,n4,c4,A5,n5,c5,_,_,_,_,_,rfl,sl_O.2 (h.r1.real.chg CH (fun z h1 h2=>by have:=(h.fd.o1 z h1.1).1;omega)),sl_O.2 (h.r2.real.chg CH (fun z h1 h2=>by have:=(h.fd.o2 z h1.1).1;omega)),sl_O.2 (h.r3.real.chg CH (fun z h1 h2=>by have:=(h.fd.o3 z h1.1).1;omega)),sl_O.2 (h.r4.real.chg CH (fun z h1 h2=>by have:=(h.fd.o4 z h1.1).1;omega)),sl_O.2 (h.r5.real.chg CH (fun z h1 h2=>by have:=(h.fd.o5 z h1.1).1;omega)),
  wd h.fd.o1,wd h.fd.o2,wd h.fd.o3,wd h.fd.o4,wd h.fd.o5,fun z a b=>h.fd.a12 z a.1 b.1,fun z a b=>h.fd.a13 z a.1 b.1,fun z a b=>h.fd.a14 z a.1 b.1,fun z a b=>h.fd.a15 z a.1 b.1,fun z a b=>h.fd.a23 z a.1 b.1,fun z a b=>h.fd.a24 z a.1 b.1,fun z a b=>h.fd.a25 z a.1 b.1,fun z a b=>h.fd.a34 z a.1 b.1,fun z a b=>h.fd.a35 z a.1 b.1,fun z a b=>h.fd.a45 z a.1 b.1⟩
def DS (w:Yw) (b lo:Nat) (A:Yo) (n c:Nat) (code:List UInt8) (g K M:Nat) (i:Int) (v1 v2 v3 v4 v5:Value) (x1:List (List Int)) (x2:List (List zap)) (x3:List Int) (x4:List zae) (x5:List zag) (wr:Yw):Prop:=∃F1 F2 F3 F4 F5:Nat->Prop,DZ w b lo A n c code g K i v1 v2 v3 v4 v5 x1 x2 x3 x4 x5 F1 F2 F3 F4 F5 wr/\(∀z,F1 z\/F2 z\/F3 z\/F4 z\/F5 z->z<M)/\M<=wr.heap.size/\g<M
section
variable {w wr w':Yw} {b lo:Nat} {A :Yo} {n c:Nat} {code:List UInt8} {g K K' M:Nat} {i:Int} {v1 v2 v3 v4 v5:Value} {x1:List (List Int)} {x2:List (List zap)} {x3:List Int} {x4:List zae} {x5:List zag}
theorem DS.step(h:DS w b lo A n c code g K M i v1 v2 v3 v4 v5 x1 x2 x3 x4 x5 wr)(hb:b<w.heap.size)(hs:Src w' b lo A n c code K')(hm:Mid b (b+1) wr w'):DS w b lo A n c code g K' M i v1 v2 v3 v4 v5 x1 x2 x3 x4 x5 w':=by
 obtain⟨F1,F2,F3,F4,F5,h,hB,hM,hg⟩:=h;exact⟨F1,F2,F3,F4,F5,h.step hb hs hm,hB,Nat.le_trans hM hm.size,hg⟩
theorem DS.more(h:DS w b lo A n c code g K M i v1 v2 v3 v4 v5 x1 x2 x3 x4 x5 wr)(hK:K<=K'):DS w b lo A n c code g K' M i v1 v2 v3 v4 v5 x1 x2 x3 x4 x5 wr:=by
 obtain⟨F1,F2,F3,F4,F5,h,hB,hM,hg⟩:=h;exact⟨F1,F2,F3,F4,F5,h.more hK,hB,hM,hg⟩
theorem DS.up(h:DS w b lo A n c code g K M i v1 v2 v3 v4 v5 x1 x2 x3 x4 x5 wr):DS w b lo A n c code g K wr.heap.size i v1 v2 v3 v4 v5 x1 x2 x3 x4 x5 wr:=by
 obtain⟨F1,F2,F3,F4,F5,h,hB,hM,hg⟩:=h;exact⟨F1,F2,F3,F4,F5,h,fun z hz=>Cq (hB z hz) hM,Aj _,h.sz⟩
theorem DS.src(h:DS w b lo A n c code g K M i v1 v2 v3 v4 v5 x1 x2 x3 x4 x5 wr):Src wr b lo A n c code K:=by obtain⟨F1,F2,F3,F4,F5,h,hB,hM,hg⟩:=h;exact h.src
theorem DS.sz(h:DS w b lo A n c code g K M i v1 v2 v3 v4 v5 x1 x2 x3 x4 x5 wr):g<wr.heap.size/\w.heap.size<g:=by obtain⟨F1,F2,F3,F4,F5,h,hB,hM,hg⟩:=h;exact⟨h.sz,h.lo⟩
theorem DS.mid(h:DS w b lo A n c code g K M i v1 v2 v3 v4 v5 x1 x2 x3 x4 x5 wr):Mid b (b+1) w wr:=by obtain⟨F1,F2,F3,F4,F5,h,hB,hM,hg⟩:=h;exact h.mid
theorem DS.p0(h:DS w b lo A n c code g K M i v1 v2 v3 v4 v5 x1 x2 x3 x4 x5 wr):wr.cell? ⟨g,0,none⟩=some (.int .i64 i):=by obtain⟨F1,F2,F3,F4,F5,h,hB,hM,hg⟩:=h;exact h.p0
theorem DS.p1(h:DS w b lo A n c code g K M i v1 v2 v3 v4 v5 x1 x2 x3 x4 x5 wr):wr.cell? ⟨g,1,none⟩=some v1:=by obtain⟨F1,F2,F3,F4,F5,h,hB,hM,hg⟩:=h;exact h.p1
theorem DS.p2(h:DS w b lo A n c code g K M i v1 v2 v3 v4 v5 x1 x2 x3 x4 x5 wr):wr.cell? ⟨g,2,none⟩=some v2:=by obtain⟨F1,F2,F3,F4,F5,h,hB,hM,hg⟩:=h;exact h.p2
theorem DS.p3(h:DS w b lo A n c code g K M i v1 v2 v3 v4 v5 x1 x2 x3 x4 x5 wr):wr.cell? ⟨g,3,none⟩=some v3:=by obtain⟨F1,F2,F3,F4,F5,h,hB,hM,hg⟩:=h;exact h.p3
theorem DS.p4(h:DS w b lo A n c code g K M i v1 v2 v3 v4 v5 x1 x2 x3 x4 x5 wr):wr.cell? ⟨g,4,none⟩=some v4:=by obtain⟨F1,F2,F3,F4,F5,h,hB,hM,hg⟩:=h;exact h.p4
theorem DS.p5(h:DS w b lo A n c code g K M i v1 v2 v3 v4 v5 x1 x2 x3 x4 x5 wr):wr.cell? ⟨g,5,none⟩=some v5:=by obtain⟨F1,F2,F3,F4,F5,h,hB,hM,hg⟩:=h;exact h.p5
theorem DS.q(h:DS w b lo A n c code g K M i v1 v2 v3 v4 v5 x1 x2 x3 x4 x5 wr):∀j,j<6->wr.frozen? ⟨g,j,none⟩=false:=by obtain⟨F1,F2,F3,F4,F5,h,hB,hM,hg⟩:=h;exact h.q
theorem DS.e(h:DS w b lo A n c code g K M i v1 v2 v3 v4 v5 x1 x2 x3 x4 x5 wr):∀j,j<6->wr.cell? ⟨w.heap.size,j,none⟩=some (if j=0 then .int .i64 0 else .slice none 0 0)/\wr.frozen? ⟨w.heap.size,j,none⟩=false:=by obtain⟨F1,F2,F3,F4,F5,h,hB,hM,hg⟩:=h;exact h.e
theorem DS.open1(h:DS w b lo A n c code g K M i v1 v2 v3 v4 v5 x1 x2 x3 x4 x5 wr)(hb:b<w.heap.size):∃F:Nat->Prop,OS tS 24 wr F v1 x1/\(∀z,F z->w.heap.size<z/\z≠g/\z<M)/\∀(w4:Yw) (F':Nat->Prop) (v':Value) (x':List (List Int)),Chg F wr w4->OS tS 24 w4 F' v' x'->(∀z,F' z->F z\/M<=z)->DS w b lo A n c code g K w4.heap.size i v' v2 v3 v4 v5 x' x2 x3 x4 x5  (w4.setCell ⟨g,1,none⟩ v'):=by
 obtain⟨F1,F2,F3,F4,F5,h,hB,hM,hg⟩:=h;refine⟨F1,h.r1,fun z hz=>⟨(h.fd.o1 z hz).1,(h.fd.o1 z hz).2,hB z (by simp[hz])⟩,fun w4 F' v' x' hc r' hF=>?_⟩;have hl:=h.lo;have hz:=h.sz;have hs:=hc.size;have fd:FZ w.heap.size g (fun z=>F' z/\z<w4.heap.size) F2 F3 F4 F5:=⟨fun z a=>by rcases hF z a.1 with a|a;exact h.fd.o1 z a;omega,h.fd.o2,h.fd.o3,h.fd.o4,h.fd.o5,fun z a b=>by rcases hF z a.1 with a|a;exact h.fd.a12 z a b;have:=hB z (by simp[b]);omega,fun z a b=>by rcases hF z a.1 with a|a;exact h.fd.a13 z a b;have:=hB z (by simp[b]);omega,fun z a b=>by rcases hF z a.1 with a|a;exact h.fd.a14 z a b;have:=hB z (by simp[b]);omega,fun z a b=>by rcases hF z a.1 with a|a;exact h.fd.a15 z a b;have:=hB z (by simp[b]);omega,h.fd.a23,h.fd.a24,h.fd.a25,h.fd.a34,h.fd.a35,h.fd.a45⟩;refine⟨_,F2,F3,F4,F5,h.push1 hb hc r'.real fd,fun z hz=>?_,by simp,by omega⟩;rcases hz with hz|hz|hz|hz|hz
 ·exact hz.2
 ·have:=hB z (by simp[hz]);omega
 ·have:=hB z (by simp[hz]);omega
 ·have:=hB z (by simp[hz]);omega
 have:=hB z (by simp[hz]);omega
theorem DS.open2(h:DS w b lo A n c code g K M i v1 v2 v3 v4 v5 x1 x2 x3 x4 x5 wr)(hb:b<w.heap.size):∃F:Nat->Prop,OS tT 98 wr F v2 x2/\(∀z,F z->w.heap.size<z/\z≠g/\z<M)/\∀(w4:Yw) (F':Nat->Prop) (v':Value) (x':List (List zap)),Chg F wr w4->OS tT 98 w4 F' v' x'->(∀z,F' z->F z\/M<=z)->DS w b lo A n c code g K w4.heap.size i v1 v' v3 v4 v5 x1 x' x3 x4 x5  (w4.setCell ⟨g,2,none⟩ v'):=by
 obtain⟨F1,F2,F3,F4,F5,h,hB,hM,hg⟩:=h;refine⟨F2,h.r2,fun z hz=>⟨(h.fd.o2 z hz).1,(h.fd.o2 z hz).2,hB z (by simp[hz])⟩,fun w4 F' v' x' hc r' hF=>?_⟩;have hl:=h.lo;have hz:=h.sz;have hs:=hc.size;have fd:FZ w.heap.size g F1 (fun z=>F' z/\z<w4.heap.size) F3 F4 F5:=⟨h.fd.o1,fun z a=>by rcases hF z a.1 with a|a;exact h.fd.o2 z a;omega,h.fd.o3,h.fd.o4,h.fd.o5,fun z a b=>by rcases hF z b.1 with b|b;exact h.fd.a12 z a b;have:=hB z (by simp[a]);omega,h.fd.a13,h.fd.a14,h.fd.a15,fun z a b=>by rcases hF z a.1 with a|a;exact h.fd.a23 z a b;have:=hB z (by simp[b]);omega,fun z a b=>by rcases hF z a.1 with a|a;exact h.fd.a24 z a b;have:=hB z (by simp[b]);omega,fun z a b=>by rcases hF z a.1 with a|a;exact h.fd.a25 z a b;have:=hB z (by simp[b]);omega,h.fd.a34,h.fd.a35,h.fd.a45⟩;refine⟨F1,_,F3,F4,F5,h.push2 hb hc r'.real fd,fun z hz=>?_,by simp,by omega⟩;rcases hz with hz|hz|hz|hz|hz
 ·have:=hB z (by simp[hz]);omega
 ·exact hz.2
 ·have:=hB z (by simp[hz]);omega
 ·have:=hB z (by simp[hz]);omega
 have:=hB z (by simp[hz]);omega
theorem DS.open3(h:DS w b lo A n c code g K M i v1 v2 v3 v4 v5 x1 x2 x3 x4 x5 wr)(hb:b<w.heap.size):∃F:Nat->Prop,OS tI 2 wr F v3 x3/\(∀z,F z->w.heap.size<z/\z≠g/\z<M)/\∀(w4:Yw) (F':Nat->Prop) (v':Value) (x':List Int),Chg F wr w4->OS tI 2 w4 F' v' x'->(∀z,F' z->F z\/M<=z)->DS w b lo A n c code g K w4.heap.size i v1 v2 v' v4 v5 x1 x2 x' x4 x5  (w4.setCell ⟨g,3,none⟩ v'):=by
 obtain⟨F1,F2,F3,F4,F5,h,hB,hM,hg⟩:=h;refine⟨F3,h.r3,fun z hz=>⟨(h.fd.o3 z hz).1,(h.fd.o3 z hz).2,hB z (by simp[hz])⟩,fun w4 F' v' x' hc r' hF=>?_⟩;have hl:=h.lo;have hz:=h.sz;have hs:=hc.size;have fd:FZ w.heap.size g F1 F2 (fun z=>F' z/\z<w4.heap.size) F4 F5:=⟨h.fd.o1,h.fd.o2,fun z a=>by rcases hF z a.1 with a|a;exact h.fd.o3 z a;omega,h.fd.o4,h.fd.o5,h.fd.a12,fun z a b=>by rcases hF z b.1 with b|b;exact h.fd.a13 z a b;have:=hB z (by simp[a]);omega,h.fd.a14,h.fd.a15,fun z a b=>by rcases hF z b.1 with b|b;exact h.fd.a23 z a b;have:=hB z (by simp[a]);omega,h.fd.a24,h.fd.a25,fun z a b=>by rcases hF z a.1 with a|a;exact h.fd.a34 z a b;have:=hB z (by simp[b]);omega,fun z a b=>by rcases hF z a.1 with a|a;exact h.fd.a35 z a b;have:=hB z (by simp[b]);omega,h.fd.a45⟩;refine⟨F1,F2,_,F4,F5,h.push3 hb hc r'.real fd,fun z hz=>?_,by simp,by omega⟩;rcases hz with hz|hz|hz|hz|hz
 ·have:=hB z (by simp[hz]);omega
 ·have:=hB z (by simp[hz]);omega
 ·exact hz.2
 ·have:=hB z (by simp[hz]);omega
 have:=hB z (by simp[hz]);omega
theorem DS.open4(h:DS w b lo A n c code g K M i v1 v2 v3 v4 v5 x1 x2 x3 x4 x5 wr)(hb:b<w.heap.size):∃F:Nat->Prop,OS tP 67 wr F v4 x4/\(∀z,F z->w.heap.size<z/\z≠g/\z<M)/\∀(w4:Yw) (F':Nat->Prop) (v':Value) (x':List zae),Chg F wr w4->OS tP 67 w4 F' v' x'->(∀z,F' z->F z\/M<=z)->DS w b lo A n c code g K w4.heap.size i v1 v2 v3 v' v5 x1 x2 x3 x' x5  (w4.setCell ⟨g,4,none⟩ v'):=by
 obtain⟨F1,F2,F3,F4,F5,h,hB,hM,hg⟩:=h;refine⟨F4,h.r4,fun z hz=>⟨(h.fd.o4 z hz).1,(h.fd.o4 z hz).2,hB z (by simp[hz])⟩,fun w4 F' v' x' hc r' hF=>?_⟩;have hl:=h.lo;have hz:=h.sz;have hs:=hc.size;have fd:FZ w.heap.size g F1 F2 F3 (fun z=>F' z/\z<w4.heap.size) F5:=⟨h.fd.o1,h.fd.o2,h.fd.o3,fun z a=>by rcases hF z a.1 with a|a;exact h.fd.o4 z a;omega,h.fd.o5,h.fd.a12,h.fd.a13,fun z a b=>by rcases hF z b.1 with b|b;exact h.fd.a14 z a b;have:=hB z (by simp[a]);omega,h.fd.a15,h.fd.a23,fun z a b=>by rcases hF z b.1 with b|b;exact h.fd.a24 z a b;have:=hB z (by simp[a]);omega,h.fd.a25,fun z a b=>by rcases hF z b.1 with b|b;exact h.fd.a34 z a b;have:=hB z (by simp[a]);omega,h.fd.a35,fun z a b=>by rcases hF z a.1 with a|a;exact h.fd.a45 z a b;have:=hB z (by simp[b]);omega⟩;refine⟨F1,F2,F3,_,F5,h.push4 hb hc r'.real fd,fun z hz=>?_,by simp,by omega⟩;rcases hz with hz|hz|hz|hz|hz
 ·have:=hB z (by simp[hz]);omega
 ·have:=hB z (by simp[hz]);omega
 ·have:=hB z (by simp[hz]);omega
 ·exact hz.2
 have:=hB z (by simp[hz]);omega
theorem DS.open5(h:DS w b lo A n c code g K M i v1 v2 v3 v4 v5 x1 x2 x3 x4 x5 wr)(hb:b<w.heap.size):∃F:Nat->Prop,OS tSt 117 wr F v5 x5/\(∀z,F z->w.heap.size<z/\z≠g/\z<M)/\∀(w4:Yw) (F':Nat->Prop) (v':Value) (x':List zag),Chg F wr w4->OS tSt 117 w4 F' v' x'->(∀z,F' z->F z\/M<=z)->DS w b lo A n c code g K w4.heap.size i v1 v2 v3 v4 v' x1 x2 x3 x4 x'  (w4.setCell ⟨g,5,none⟩ v'):=by
 obtain⟨F1,F2,F3,F4,F5,h,hB,hM,hg⟩:=h;refine⟨F5,h.r5,fun z hz=>⟨(h.fd.o5 z hz).1,(h.fd.o5 z hz).2,hB z (by simp[hz])⟩,fun w4 F' v' x' hc r' hF=>?_⟩;have hl:=h.lo;have hz:=h.sz;have hs:=hc.size;have fd:FZ w.heap.size g F1 F2 F3 F4 (fun z=>F' z/\z<w4.heap.size):=⟨h.fd.o1,h.fd.o2,h.fd.o3,h.fd.o4,fun z a=>by rcases hF z a.1 with a|a;exact h.fd.o5 z a;omega,h.fd.a12,h.fd.a13,h.fd.a14,fun z a b=>by rcases hF z b.1 with b|b;exact h.fd.a15 z a b;have:=hB z (by simp[a]);omega,h.fd.a23,h.fd.a24,fun z a b=>by rcases hF z b.1 with b|b;exact h.fd.a25 z a b;have:=hB z (by simp[a]);omega,h.fd.a34,fun z a b=>by rcases hF z b.1 with b|b;exact h.fd.a35 z a b;have:=hB z (by simp[a]);omega,fun z a b=>by rcases hF z b.1 with b|b;exact h.fd.a45 z a b;have:=hB z (by simp[a]);omega⟩;refine⟨F1,F2,F3,F4,_,h.push5 hb hc r'.real fd,fun z hz=>?_,by simp,by omega⟩;rcases hz with hz|hz|hz|hz|hz
 ·have:=hB z (by simp[hz]);omega
 ·have:=hB z (by simp[hz]);omega
 ·have:=hB z (by simp[hz]);omega
 ·have:=hB z (by simp[hz]);omega
 exact hz.2
end
theorem DS.fin{w wr:Yw}{b lo:Nat}{A:Yo}{n c:Nat}{code:List UInt8}{g K M:Nat}{i:Int}{A1:Yo}{n1 c1:Nat}{A2:Yo}{n2 c2:Nat}{A3:Yo}{n3 c3:Nat}{A4:Yo}{n4 c4:Nat}{A5:Yo}{n5 c5:Nat}{x1:List (List Int)}{x2:List (List zap)}{x3:List Int}{x4:List zae}{x5:List zag}
 (h:DS w b lo A n c code g K M i (.slice A1 n1 c1) (.slice A2 n2 c2) (.slice A3 n3 c3) (.slice A4 n4 c4) (.slice A5 n5 c5) x1 x2 x3 x4 x5 wr) (hb:b<w.heap.size) {P:Sess->Prop} (hP:P (i,x1,x2,x3,x4,x5)) :
 DrewZ b lo A n c code K P w (.returned (.agg #[.int .i64 i,.slice A1 n1 c1,.slice A2 n2 c2,.slice A3 n3 c3,.slice A4 n4 c4,.slice A5 n5 c5])) ((((((wr.setCell ⟨w.heap.size,0,none⟩ (.int .i64 i)).setCell ⟨w.heap.size,1,none⟩ (.slice A1 n1 c1)).setCell ⟨w.heap.size,2,none⟩ (.slice A2 n2 c2)).setCell ⟨w.heap.size,3,none⟩ (.slice A3 n3 c3)).setCell ⟨w.heap.size,4,none⟩ (.slice A4 n4 c4)).setCell ⟨w.heap.size,5,none⟩ (.slice A5 n5 c5)):=by
 obtain⟨F1,F2,F3,F4,F5,h,hB,hM,hg⟩:=h;exact h.fin hb hP
theorem DS.shape1{w wr:Yw}{b lo:Nat}{A:Yo}{n c:Nat}{code:List UInt8}{g K M:Nat}{i:Int}{v1 v2 v3 v4 v5:Value}{x1:List (List Int)}{x2:List (List zap)}{x3:List Int}{x4:List zae}{x5:List zag}(h:DS w b lo A n c code g K M i v1 v2 v3 v4 v5 x1 x2 x3 x4 x5 wr):∃A' c',v1=.slice A' x1.length c':=by
 obtain⟨F1,F2,F3,F4,F5,h,hB,hM,hg⟩:=h;exact h.r1.shape
theorem DS.shape2{w wr:Yw}{b lo:Nat}{A:Yo}{n c:Nat}{code:List UInt8}{g K M:Nat}{i:Int}{v1 v2 v3 v4 v5:Value}{x1:List (List Int)}{x2:List (List zap)}{x3:List Int}{x4:List zae}{x5:List zag}(h:DS w b lo A n c code g K M i v1 v2 v3 v4 v5 x1 x2 x3 x4 x5 wr):∃A' c',v2=.slice A' x2.length c':=by
 obtain⟨F1,F2,F3,F4,F5,h,hB,hM,hg⟩:=h;exact h.r2.shape
theorem DS.shape3{w wr:Yw}{b lo:Nat}{A:Yo}{n c:Nat}{code:List UInt8}{g K M:Nat}{i:Int}{v1 v2 v3 v4 v5:Value}{x1:List (List Int)}{x2:List (List zap)}{x3:List Int}{x4:List zae}{x5:List zag}(h:DS w b lo A n c code g K M i v1 v2 v3 v4 v5 x1 x2 x3 x4 x5 wr):∃A' c',v3=.slice A' x3.length c':=by
 obtain⟨F1,F2,F3,F4,F5,h,hB,hM,hg⟩:=h;exact h.r3.shape
theorem DS.shape4{w wr:Yw}{b lo:Nat}{A:Yo}{n c:Nat}{code:List UInt8}{g K M:Nat}{i:Int}{v1 v2 v3 v4 v5:Value}{x1:List (List Int)}{x2:List (List zap)}{x3:List Int}{x4:List zae}{x5:List zag}(h:DS w b lo A n c code g K M i v1 v2 v3 v4 v5 x1 x2 x3 x4 x5 wr):∃A' c',v4=.slice A' x4.length c':=by
 obtain⟨F1,F2,F3,F4,F5,h,hB,hM,hg⟩:=h;exact h.r4.shape
theorem DS.shape5{w wr:Yw}{b lo:Nat}{A:Yo}{n c:Nat}{code:List UInt8}{g K M:Nat}{i:Int}{v1 v2 v3 v4 v5:Value}{x1:List (List Int)}{x2:List (List zap)}{x3:List Int}{x4:List zae}{x5:List zag}(h:DS w b lo A n c code g K M i v1 v2 v3 v4 v5 x1 x2 x3 x4 x5 wr):∃A' c',v5=.slice A' x5.length c':=by
 obtain⟨F1,F2,F3,F4,F5,h,hB,hM,hg⟩:=h;exact h.r5.shape
end
section
set_option maxHeartbeats 40000000
structure M.dn (inp tb:Nat) (lin:Bool) (i:Nat) (x:Node):Prop where
 ok:zaj x tb=true
 hi:x.1=1->x.2.1<inp
 fr:∀f∈x.2.2.2,0<=f/\f<i
 hl:lin=true->zg2 x.1=true
 fl:x.2.2.2.length<=3
theorem zzi{inp tb below:Nat}{lin:Bool}{k a bb:Int}{xs:List Int}(hk:1<=k/\k<=17)(hlin:lin=true->zg2 k=true)(hin:inp<=2)(htb:tb<=2)(h13:k=13->0<tb)(hbe:below<=23)(h1:k=1->0<=a/\a<inp)(hA:k≠1->M.aD k tb a)
 (b17:k=17->1<=bb/\bb<=3) (b0:k≠17->bb=0) (len:(xs.length:Int)=M.ar k.toNat) (fr:∀f∈xs,0<=f/\f<below):M.dn inp tb lin below (k,a,bb,xs):=by
 have har:=zij k hk
 refine⟨zi8 hk (fun e=>by have:=h1 e;omega) (fun e=>by have:=(hA (by omega)).c6 e;omega) (fun e=>by have:=(hA (by omega)).c10 e;omega) (fun e=>by have:=(hA (by omega)).c11 e;omega) (fun e=>by have:=(hA (by omega)).c13 e;have:=h13 e;omega) ?_ ?_ (fun e=>by have:=b17 e;omega) b0 len (fun f hf=>by have:=fr f hf;omega),
  fun e=>(h1 e).2,fr,hlin,by show xs.length<=3;omega⟩
 ·by_cases e:k=1
  ·have:=h1 e;omega
  exact(hA e).cs
 intro e
 by_cases e1:k=1
 ·subst e1;cases e
 exact(hA e1).c0 e
structure M.dn3 (inp tb:Nat) (lin:Bool) (n i:Nat) (x:Node):Prop where
 ok:zaj x tb=true
 hi:x.1=1->x.2.1<inp
 fr:∀f∈x.2.2.2,0<=f/\f<n
 wt:∀f∈zax x,0<=f/\f<i
 hl:lin=true->zg2 x.1=true
 fl:x.2.2.2.length<=3
theorem M.dn.to3{inp tb:Nat}{lin:Bool}{i n:Nat}{x:Node}(h:M.dn inp tb lin i x)(hi:i<n):M.dn3 inp tb lin n i x:=by
 refine⟨h.ok,h.hi,fun f hf=>by have:=h.fr f hf;omega,fun f hf=>?_,h.hl,h.fl⟩;rw[zax]at hf
 split at hf
 ·cases hf
 exact h.fr f hf
theorem M.dn3.delay{inp tb:Nat}{lin:Bool}{i n:Nat}{a bb:Int}{xs:List Int}(h:M.dn3 inp tb lin n i (6,a,bb,xs))(hn:n<=24){f:Int}(hf:0<=f/\f<n):M.dn3 inp tb lin n i (6,a,bb,xs.set 0 f):=by
 have hm:∀y∈xs.set 0 f,0<=y/\y<n:=fun y hy=>by
  rcases List.mem_or_eq_of_mem_set hy with h1|rfl
  ·exact h.fr y h1
  exact hf
 refine⟨?_,h.hi,hm,fun y hy=>(by rw[zax]at hy;cases hy),h.hl,by have:=h.fl;simpa using this⟩;have h0:=h.ok;rw[zaj]at h0 ⊢;simp only[Cx,Ef,Fx]at h0 ⊢;exact⟨h0.1,⟨⟨⟨h0.2.1.1.1,fun y hy=>za3.2 (by have:=hm y hy;omega)⟩,h0.2.1.2⟩,h0.2.2⟩⟩
structure NX (w0:Yw) (b lo:Nat) (A:Yo) (n c:Nat) (code:List UInt8) (h K:Nat) (k a bb:Int) (v:Value) (xs:List Int) (cur:Yw):Prop where
 p0:cur.cell? ⟨h,0,none⟩=some (.int .i64 k)
 p1:cur.cell? ⟨h,1,none⟩=some (.int .i64 a)
 p2:cur.cell? ⟨h,2,none⟩=some (.int .i64 bb)
 p3:cur.cell? ⟨h,3,none⟩=some v
 q:∀j,j<4->cur.frozen? ⟨h,j,none⟩=false
 own:OS tI 2 cur (fun z=>w0.heap.size<=z/\z≠h) v xs
 src:Src cur b lo A n c code K
 mid:Mid b (b+1) w0 cur
 sz:h<cur.heap.size
 lo:w0.heap.size<=h
section
variable {w0 cur w4:Yw} {b lo:Nat} {A :Yo} {n c:Nat} {code:List UInt8} {h K K':Nat} {k a bb k' a' bb':Int} {v v':Value} {xs xs':List Int}
theorem NX.step(x:NX w0 b lo A n c code h K k a bb v xs cur)(hb:b<w0.heap.size)(hs:Src w4 b lo A n c code K')(hm:Mid b (b+1) cur w4):NX w0 b lo A n c code h K' k a bb v xs w4:=by
 have hz:=x.sz;have hl:=x.lo;have h2:b<h:=by omega
 have cG:∀{o u},cur.cell? ⟨h,o,none⟩=u->w4.cell? ⟨h,o,none⟩=u:=fun h3=>hm.cellK hz (.inr h2) h3
 exact⟨cG x.p0,cG x.p1,cG x.p2,cG x.p3,fun j hj=>hm.frozK hz (.inr h2) (x.q j hj),x.own.chg (Chg.of_mid hm) (fun z h1 h2=>by have:=h1.1;omega),hs,x.mid.trans hm,Cq hz hm.size,hl⟩
theorem NX.more(x:NX w0 b lo A n c code h K k a bb v xs cur)(hK:K<=K'):NX w0 b lo A n c code h K' k a bb v xs cur:=⟨x.p0,x.p1,x.p2,x.p3,x.q,x.own,x.src.more hK,x.mid,x.sz,x.lo⟩
theorem NX.setA(x:NX w0 b lo A n c code h K k a bb v xs cur)(hb:b<w0.heap.size)(y:Int):NX w0 b lo A n c code h K k y bb v xs (cur.setCell ⟨h,1,none⟩ (.int .i64 y)):=by
 have hz:=x.sz;have hl:=x.lo;have CB:Chg (fun z=>z=h) cur (cur.setCell ⟨h,1,none⟩ (.int .i64 y)):=Chg.set cur h 1 _ rfl;have hs:=x.mid.size;have MB:Below w0.heap.size cur (cur.setCell ⟨h,1,none⟩ (.int .i64 y)):=CB.toBelow (fun z h=>by omega) hs
 exact⟨(zaf cur h _ (by decide)).trans x.p0,Dj _ _ _ x.p1,(zaf cur h _ (by decide)).trans x.p2,(zaf cur h _ (by decide)).trans x.p3,fun j hj=>(Bf _ _ _ _).trans (x.q j hj),
  x.own.chg CB (fun z h1 h2=>h1.2 h2),x.src.below MB hb,x.mid.thenB' MB (Aj _),by simpa using hz,hl⟩
theorem NX.all(x:NX w0 b lo A n c code h K k a bb v xs cur)(hb:b<w0.heap.size)(own:OS tI 2 cur (fun z=>w0.heap.size<=z/\z≠h) v' xs'):
 NX w0 b lo A n c code h K k' a' bb' v' xs' ((((cur.setCell ⟨h,0,none⟩ (.int .i64 k')).setCell ⟨h,1,none⟩ (.int .i64 a')).setCell ⟨h,2,none⟩ (.int .i64 bb')).setCell ⟨h,3,none⟩ v'):=by
 have hz:=x.sz;have hl:=x.lo;have st:∀(u:Yw) (o:Nat) (y:Value),Chg (fun z=>z=h) u (u.setCell ⟨h,o,none⟩ y):=fun u o y=>Chg.set u h o _ rfl
 have CH:=(((st cur 0 (.int .i64 k')).trans (st _ 1 (.int .i64 a'))).trans (st _ 2 (.int .i64 bb'))).trans (st _ 3 v');have hs:=x.mid.size;have MB:=CH.toBelow (B:=w0.heap.size) (fun z h=>by omega) hs;have hs2:=CH.size;have c0:(cur.setCell ⟨h,0,none⟩ (.int .i64 k')).cell? ⟨h,0,none⟩=some (.int .i64 k'):=Dj _ _ _ x.p0;have c1:((cur.setCell ⟨h,0,none⟩ (.int .i64 k')).setCell ⟨h,1,none⟩ (.int .i64 a')).cell? ⟨h,1,none⟩=some (.int .i64 a'):=Dj _ _ _ ((zaf _ h _ (by decide)).trans x.p1);have c2:(((cur.setCell ⟨h,0,none⟩ (.int .i64 k')).setCell ⟨h,1,none⟩ (.int .i64 a')).setCell ⟨h,2,none⟩ (.int .i64 bb')).cell? ⟨h,2,none⟩=some (.int .i64 bb'):=Dj _ _ _ ((zaf _ h _ (by decide)).trans ((zaf _ h _ (by decide)).trans x.p2));have c3:((((cur.setCell ⟨h,0,none⟩ (.int .i64 k')).setCell ⟨h,1,none⟩ (.int .i64 a')).setCell ⟨h,2,none⟩ (.int .i64 bb')).setCell ⟨h,3,none⟩ v').cell? ⟨h,3,none⟩=some v':=Dj _ _ _ ((zaf _ h _ (by decide)).trans ((zaf _ h _ (by decide)).trans ((zaf _ h _ (by decide)).trans x.p3)))
 refine⟨(zaf _ h _ (by decide)).trans ((zaf _ h _ (by decide)).trans ((zaf _ h _ (by decide)).trans c0)),(zaf _ h _ (by decide)).trans ((zaf _ h _ (by decide)).trans c1),(zaf _ h _ (by decide)).trans c2,c3,fun j hj=>?_,
  own.chg CH (fun z h1 h2=>h1.2 h2),x.src.below MB hb,x.mid.thenB' MB (Aj _),by omega,hl⟩
 rw[Bf,Bf,Bf,Bf];exact x.q j hj
theorem NX.turn(x:NX w0 b lo A n c code h K k a bb v xs cur)(hb:b<w0.heap.size)(hc:Chg (fun z=>w0.heap.size<=z/\z≠h) cur w4)(own:OS tI 2 w4 (fun z=>w0.heap.size<=z/\z≠h) v xs'):NX w0 b lo A n c code h K k a bb v xs' w4:=by
 have hz:=x.sz;have hl:=x.lo;have hs:=x.mid.size;have MB:Below w0.heap.size cur w4:=hc.toBelow (fun z h=>h.1) hs;have cG:∀{o u},cur.cell? ⟨h,o,none⟩=u->w4.cell? ⟨h,o,none⟩=u:=fun h3=>by rw[hc.cell1 hz (fun h=>h.2 rfl)];exact h3
 exact⟨cG x.p0,cG x.p1,cG x.p2,cG x.p3,fun j hj=>by rw[hc.frozen1 hz (fun h=>h.2 rfl)];exact x.q j hj,own,x.src.below MB hb,x.mid.thenB' MB (Aj _),Cq hz hc.size,hl⟩
end
structure M.pD (inp outp:Nat) (lin:Bool) (x:zae):Prop where
 ok:zce x=true
 i:x.1=inp
 o:x.2.2.2.length=outp
 hl:lin=true->∀y∈x.2.2.1,zg2 y.1=true
 n:1<=x.2.2.1.length/\x.2.2.1.length<=10
 t:x.2.1.length<=2/\∀t∈x.2.1,t.length<=8
 f:∀y∈x.2.2.1,y.2.2.2.length<=3
theorem zzj{inp outp:Nat}{lin:Bool}{T:List (List Int)}{ms:List Node}{os:List Int}(hin:inp<=2)(hout:outp<=2)(hT:zbr T=true)(hT2:T.length<=2)(hT8:∀x∈T,x.length<=8)(hn:1<=ms.length/\ms.length<=10)
 (hm:∀(q:Nat) (x:Node),ms[q]?=some x->M.dn3 inp T.length lin ms.length q x) (ho:os.length=outp) (hof:∀f∈os,0<=f/\f<(ms.length:Int)):M.pD inp outp lin ((inp:Int),T,ms,os):=by
 have mem:∀y∈ms,∃q,M.dn3 inp T.length lin ms.length q y:=fun y hy=>by
  obtain⟨q,hq⟩:=List.mem_iff_getElem?.1 hy;exact⟨q,hm q y hq⟩
 refine⟨?_,rfl,ho,fun e y hy=>?_,hn,⟨hT2,hT8⟩,fun y hy=>?_⟩
 ·have hR:zeu ms (fun i=>i):=fun i x hx f hf=>by
   have h1:=(hm i x hx).wt f hf;have h2:=(Bk.1 hx).1;exact⟨by omega,by show f.toNat<i;omega⟩
  show (za4 ((inp:Int),T,ms,os)&&decide ((zbj ms).length=ms.length))=true
  rw[znu hR,Dx rfl,Bool.and_true];show (M.inn (inp:Int) 0 4&&zbr T&&decide (ms.length<=24)&&decide (os.length<=4)&&os.all (za7 ms.length)&&ms.all (zbi T.length ms.length inp))=true
  have e1:os.all (za7 ms.length)=true:=Ef.2 (fun f hf=>by
   have:=hof f hf;show M.inn f 0 ((ms.length:Int)-1)=true
   exact za3.2 (by omega))
  have e2:ms.all (zbi T.length ms.length inp)=true:=Ef.2 (fun y hy=>by
   obtain⟨q,h⟩:=mem y hy
   have e3:y.2.2.2.all (za7 ms.length)=true:=Ef.2 (fun f hf=>by
    have:=h.fr f hf;show M.inn f 0 ((ms.length:Int)-1)=true
    exact za3.2 (by omega))
   rw[zbi,h.ok,e3]
   by_cases h1:y.1=1
   ·have:=h.hi h1;simp[h1];omega
   simp[h1])
  rw[hT,za3.2 (by omega),Dx (by omega:ms.length<=24),Dx (by omega:os.length<=4),e1,e2]
  rfl
 ·obtain⟨q,h⟩:=mem y hy;exact h.hl e
 obtain⟨q,h⟩:=mem y hy;exact h.fl
theorem zjy(b lo:Nat)(A:Yo)(n c:Nat)(code:List UInt8)(K inp outp most:Nat)(lin:Bool)(w:Yw)(h:Src w b lo A n c code K)(hK:K<=60000)(hin:inp<=2)(hout:1<=outp/\outp<=2)(hmost:1<=most/\most<=9)(hl:lin=true->0<inp):
 Calls Tryz.prog 164 #[.pointer (some ⟨b,0,none⟩),.int .i64 inp,.int .i64 outp,.int .i64 most,.bool lin] w (zjw b lo A n c code (K+1500) (M.pD inp outp lin) w):=by
 have hbw:=h.lt;obtain⟨W0,hW0⟩:∃W,W=w.alloc (.cells #[.int .i64 0,.slice none 0 0,.slice none 0 0,.slice none 0 0] 67):=⟨_,rfl⟩;have z0:W0.heap.size=w.heap.size+1:=by rw[hW0];simp
 obtain⟨W1,hW1⟩:∃W,W=W0.alloc (.cells #[] 2):=⟨_,rfl⟩;have z1:W1.heap.size=w.heap.size+1+1:=by rw[hW1];simp;omega
 obtain⟨W2,hW2⟩:∃W,W=W1.alloc (.cells #[.int .i64 inp,.slice none 0 0,.slice none 0 0,.slice (some ⟨w.heap.size+1,0,none⟩) 0 0] 67):=⟨_,rfl⟩;have z2:W2.heap.size=w.heap.size+1+1+1:=by rw[hW2];simp;omega
 have B0:Below w.heap.size w W0:=by rw[hW0];exact(Aw _ _).alloc (Aj _) _
 have BA:Below W0.heap.size W0 W1:=by rw[hW1];exact(Aw _ _).alloc (Aj _) _
 have BB:Below W1.heap.size W1 W2:=by rw[hW2];exact(Aw _ _).alloc (Aj _) _
 have BC:Below w.heap.size w W2:=zaa (zaa B0 BA) BB
 have D0:DP w b lo A n c code (w.heap.size+1+1) K inp (.slice none 0 0) (.slice none 0 0) (.slice (some ⟨w.heap.size+1,0,none⟩) 0 0) [] [] [] (fun _=>False) (fun _=>False) (fun z=>z=w.heap.size+1) W2:=by
  have eW:∀j u,(#[Value.int .i64 0,.slice none 0 0,.slice none 0 0,.slice none 0 0]:Array Value)[j]?=some u->W2.cell? ⟨w.heap.size,j,none⟩=some u/\W2.frozen? ⟨w.heap.size,j,none⟩=false:=fun j u hj=>by
   refine⟨?_,?_⟩
   ·rw[BB.cell (by show w.heap.size<_;omega),BA.cell (by show w.heap.size<_;omega),hW0,cell_of_row _ w.heap.size j _ 67 (0,0) (Df w _)];exact hj
   rw[BB.frozen (by show w.heap.size<_;omega),BA.frozen (by show w.heap.size<_;omega),hW0];simp[go_sem]
  have eP:∀j u,(#[Value.int .i64 inp,.slice none 0 0,.slice none 0 0,.slice (some ⟨w.heap.size+1,0,none⟩) 0 0]:Array Value)[j]?=some u->W2.cell? ⟨w.heap.size+1+1,j,none⟩=some u/\W2.frozen? ⟨w.heap.size+1+1,j,none⟩=false:=fun j u hj=>by
   rw[hW2,<-z1];refine⟨?_,?_⟩
   ·rw[cell_of_row _ W1.heap.size j _ 67 (0,0) (Df W1 _)];exact hj
   simp[go_sem]
  have own0:OS tI 2 W1 (Iv W0.heap.size W1.heap.size) (.slice (some ⟨W0.heap.size,0,none⟩) 0 0) []:=by rw[hW1];exact OS.made0 tI 2 W0
  have own1:=own0.below BB (Aj _);rw[z0]at own1;refine⟨fun j hj=>?_,(eP 0 _ rfl).1,(eP 1 _ rfl).1,(eP 2 _ rfl).1,(eP 3 _ rfl).1,fun j hj=>?_,OS.nil _ _ _ _,OS.nil _ _ _ _,own1.wide (fun z hz=>by have a1:w.heap.size+1<=z:=hz.1;have a2:z<W1.heap.size:=hz.2;omega),⟨fun z h=>h.elim,fun z h=>h.elim,fun z h=>by omega,fun z h=>h.elim,fun z h=>h.elim,fun z h=>h.elim⟩,h.below BC hbw,Mid.of_below BC _ _,by omega,by omega⟩
  ·rcases(show j=0\/j=1\/j=2\/j=3 by omega)with rfl|rfl|rfl|rfl
   ·exact eW 0 _ rfl
   ·exact eW 1 _ rfl
   ·exact eW 2 _ rfl
   exact eW 3 _ rfl
  rcases(show j=0\/j=1\/j=2\/j=3 by omega)with rfl|rfl|rfl|rfl
  ·exact(eP 0 _ rfl).2
  ·exact(eP 1 _ rfl).2
  ·exact(eP 2 _ rfl).2
  exact(eP 3 _ rfl).2
 have HW0:=Aq hW0;have HZ0:=Aq z0;have HW1:=Aq hW1;have HW2:=Aq hW2;have HL:=Aq hl;have lW2:w.heap.size+1+1<W2.heap.size:=by omega
 clear hW0 hW1 hW2 B0 BA BB BC z1 hl;obtain⟨g,hg⟩:∃g,g=w.heap.size+1+1:=⟨_,rfl⟩;rw[<-hg]at D0 lW2 z2;have HG:=Aq hg;have hgl:w.heap.size+1<g:=by omega
 clear z0 hg
 go_enter Tryz.func164,Tryz.ntmps164
 go_upto_if 25 with fail
 rw[<-HW0.out,<-HW1.out,<-HW2.out,<-HG.out]
 go_cut [] (fun wx=>∃(vT:Value) (T:List (List Int)),Hid (zbr T=true/\(lin=true->T=[])/\(lin=false->1<=T.length)/\∀x∈T,x.length<=8)/\T.length<=2/\W2.heap.size<=wx.heap.size/\DP w b lo A n c code g (K+120) inp vT (.slice none 0 0) (.slice (some ⟨w.heap.size+1,0,none⟩) 0 0) T [] [] (Iv W2.heap.size wx.heap.size) (fun _=>False) (fun z=>z=w.heap.size+1) wx)
 case first=>
  have FDx:∀(u:Yw),FD w.heap.size g (Iv W2.heap.size u.heap.size) (fun _=>False) (fun z=>z=w.heap.size+1):=fun u=>⟨fun z hz=>by have a1:W2.heap.size<=z:=hz.1;omega,fun z h=>h.elim,fun z (h:z=w.heap.size+1)=>by omega,fun z _ h=>h,fun z hz (h:z=w.heap.size+1)=>by have a1:W2.heap.size<=z:=hz.1;omega,fun z h=>h.elim⟩
  cases lin
  ·have HD:=Aq D0;have HF:=Aq FDx;have src0:=D0.src;clear D0 FDx;go_wp2_with fail;refine(zy0 b lo A n c code K W2 src0 (by omega)).mono ?_;rintro e x1 ⟨A1,c1,T,rfl,ownT,hT,hT1,hT2,hT8,s1,m1⟩;have D1:=HD.out.step hbw s1 m1;have q1:=D1.p1;have q2:=D1.q 1 (by omega);have lx:=m1.size;have D2:=D1.setT hbw ownT (HF.out x1);obtain⟨x2,hx2⟩:∃u,u=x1.setCell ⟨g,1,none⟩ (.slice A1 T.length c1):=⟨_,rfl⟩;have ex:x2.heap.size=x1.heap.size:=(by rw[hx2];simp);rw[<-hx2,<-ex]at D2;have HX2:=Aq hx2;clear hx2 D1;go_wp2_with fail;rw[<-HX2.out]
   go_meet
   exact⟨_,T,Aq ⟨hT.out,fun e=>(by cases e),fun _=>hT1,hT8.out⟩,hT2,by omega,D2⟩
  go_wp2_with fail
  go_meet
  have D1:DP w b lo A n c code g K inp (.slice none 0 0) (.slice none 0 0) (.slice (some ⟨w.heap.size+1,0,none⟩) 0 0) [] [] [] (Iv W2.heap.size W2.heap.size) (fun _=>False) (fun z=>z=w.heap.size+1) W2:=
   ⟨D0.e,D0.p0,D0.p1,D0.p2,D0.p3,D0.q,OS.nil _ _ _ _,D0.oN,D0.oO,FDx W2,D0.src,D0.mid,D0.sz,D0.lo⟩
  exact⟨_,[],Aq ⟨rfl,fun _=>rfl,fun e=>(by cases e),fun x hx=>by simp at hx⟩,by simp,Aj _,D1.more (by omega)⟩
 case rest=>
  have hcut_:=hcut;clear hcut D0;obtain⟨U1,rfl⟩:∃u_:Yw,u_=wc:=⟨_,rfl⟩;obtain⟨vT,T,hT,hT2,lU1,D1⟩:=hcut_;obtain⟨AT,cT,hvT⟩:=D1.oT.shape;subst hvT;go_wp2_with fail;refine(zy2 lin U1).mono ?_;rintro e U2 ⟨rfl,hKC,bk,lk⟩;have D2:=D1.step hbw (D1.src.below bk D1.src.lt) (Mid.of_below bk _ _);have lgk:g<U1.heap.size:=by have:=D1.sz;omega
  go_wp2_with fail;refine(zbg b lo A n c code _ (most:Int) U2 D2.src (by omega) (by omega)).mono ?_;rintro e U3 ⟨N',rfl,hN,s3,m3⟩;have D3:=D2.step hbw s3 m3;obtain⟨N',rfl⟩:∃q:Nat,N'=q:=⟨N'.toNat,by omega⟩;have hN':N'<=8:=by omega
  obtain⟨N,hNd⟩:∃q:Nat,q=1+N':=⟨_,rfl⟩;have hN1:1<=N/\N<=9:=by omega
  have HN:=Aq (show 1+(N':Int)=(N:Int)by omega);have KC3:Hid (∀j x,(ze1 lin)[j]?=some x->U3.cell? ⟨U1.heap.size,j,none⟩=some (.int .i64 x)):=Aq fun j x hx=>m3.cellK lk (.inr (by have:=D1.lo;omega)) (hKC.out j x hx)
  have lU3:U1.heap.size<U3.heap.size:=Cq lk m3.size
  have FDN:=Aq (show FD w.heap.size g (Iv W2.heap.size U1.heap.size) (fun z=>U3.heap.size<=z) (fun z=>z=w.heap.size+1)from by
   have h1:=D1.fd;have h2:=D1.sz;have h3:U1.heap.size<=U3.heap.size:=(by omega);exact⟨h1.t,fun z (hz:U3.heap.size<=z)=>by omega,h1.o,fun z a (b:U3.heap.size<=z)=>by have a1:z<U1.heap.size:=a.2;omega,h1.tq,fun z (a:U3.heap.size<=z) (b:z=w.heap.size+1)=>by omega⟩)
  have D4:DP w b lo A n c code g (K+122) inp (.slice AT T.length cT) (.slice none 0 0) (.slice (some ⟨w.heap.size+1,0,none⟩) 0 0) T [] [] (Iv W2.heap.size U1.heap.size) (fun z=>U3.heap.size<=z) (fun z=>z=w.heap.size+1) U3:=
   ⟨D3.e,D3.p0,D3.p1,D3.p2,D3.p3,D3.q,D3.oT,OS.nil _ _ _ _,D3.oO,FDN.out,D3.src,D3.mid,D3.sz,D3.lo⟩
  clear D1 D2 D3 bk hKC m3 s3 hNd hN lk;go_wp2_with fail;rw[HN.out];clear hN';clear HW0 HZ0 HW1 HW2 z2
  go_loopw [13] (fun i wr=>∃(j:Nat) (ns:List Node) (vN:Value),i=.int .i64 j/\j<=N/\Hid (ns.length+j=N)/\Hid (∀q x,ns[q]?=some x->M.dn inp T.length lin q x)/\Hid (∀j x,(ze1 lin)[j]?=some x->wr.cell? ⟨U1.heap.size,j,none⟩=some (.int .i64 x))/\DP w b lo A n c code g (K+122+60*(N-j)) inp (.slice AT T.length cT) vN (.slice (some ⟨w.heap.size+1,0,none⟩) 0 0) T ns [] (Iv W2.heap.size U1.heap.size) (fun z=>U3.heap.size<=z) (fun z=>z=w.heap.size+1) wr/\U3.heap.size<=wr.heap.size) (fun i _=>(intOf i).toNat)
  case atStart=>exact⟨N,[],_,rfl,by omega,Aq (by simp),Aq (fun q x hx=>by simp at hx),KC3,D4.more (by omega),Aj _⟩
  case round=>
   clear D4 KC3;obtain⟨j,ns,vN,rfl,hjN,hnj,hdn,KC,D,lwr⟩:=hrel;obtain⟨A2,c2,hvN⟩:=D.oN.shape;subst hvN
   by_cases hlt:0<j
   ·have hlti:(0:Int)<(j:Int):=(by omega);have hnl:ns.length<=8:=(by have:=hnj.out;omega);have HD:=Aq D;have P2:=D.p2;have lgw:=D.sz;have hbg:b<g:=(by omega);have hAM:=Aq (zgs b lo A n c code _ U1.heap.size (zik lin) (zik lin) (ze1 lin) wr D.src (by omega) (zy1 lin) (by cases lin <;> decide) (by omega) (by omega) KC.out);clear D;go_wp2_with fail;refine hAM.out.mono ?_;rintro e x1 ⟨kd,rfl,hkd,s1,m1⟩;have HKD:=Aq (zpy hkd);have hk17:=(zpy hkd).1;have har:=zij kd hk17;have D1:=HD.out.step hbw s1 m1;have HD1:=Aq D1;have lx1:=m1.size;have HM1:=Aq m1;clear hAM hkd D1 s1 m1 P2;go_upto_region 10 with fail
    go_cut [59] (fun q59 wx=>∃bv:Bool,q59=.bool bv/\Hid (bv=true↔((kd=1/\inp=0)\/(ns.length=0/\0<M.ar kd.toNat)))/\Below x1.heap.size x1 wx)
    case first=>
     by_cases c3:ns.length=0
     ·have C3:=Aq c3;have c3b:((ns.length:Int) == 0)=true:=(by simp[c3]);clear c3
      by_cases c1:kd=1
      ·have C1:=Aq c1;have c1b:(kd == 1)=true:=(by simp[c1]);have hA0:¬0<M.ar kd.toNat:=(by rw[c1];decide);clear c1
       by_cases c2:inp=0
       ·have C2:=Aq c2;have c2b:((inp:Int) == 0)=true:=(by simp[c2]);clear c2;go_wp2_with fail
        go_meet
        exact⟨_,rfl,Aq ⟨fun _=>.inl ⟨C1.out,C2.out⟩,fun _=>rfl⟩,Aw _ _⟩
       have C2:=Aq c2;have c2b:((inp:Int) == 0)=false:=(by simp[c2]);clear c2;go_wp2_with fail;refine(zhy kd x1 (by omega)).mono ?_;rintro e x2 ⟨rfl,b2⟩;go_wp2_with fail
       go_meet
       exact⟨_,rfl,Aq (by have h2:=C2.out;have h3:=C3.out;simp[hA0,h2,h3]),b2⟩
      have C1:=Aq c1;have c1b:(kd == 1)=false:=(by simp[c1]);clear c1
      by_cases c4:0<M.ar kd.toNat
      ·go_wp2_with fail;refine(zhy kd x1 (by omega)).mono ?_;rintro e x2 ⟨rfl,b2⟩;go_wp2_with fail
       go_meet
       exact⟨_,rfl,Aq ⟨fun _=>.inr ⟨C3.out,c4⟩,fun _=>by simp⟩,b2⟩
      go_wp2_with fail;refine(zhy kd x1 (by omega)).mono ?_;rintro e x2 ⟨rfl,b2⟩;go_wp2_with fail
      go_meet
      exact⟨_,rfl,Aq (by have h1:=C1.out;have h3:=C3.out;simp[c4,h1,h3]),b2⟩
     have C3:=Aq c3;have c3b:((ns.length:Int) == 0)=false:=(by simp;exact fun e=>c3 (by simp[e]));clear c3
     by_cases c1:kd=1
     ·have C1:=Aq c1;have c1b:(kd == 1)=true:=(by simp[c1]);clear c1
      by_cases c2:inp=0
      ·have C2:=Aq c2;have c2b:((inp:Int) == 0)=true:=(by simp[c2]);clear c2;go_wp2_with fail
       go_meet
       exact⟨_,rfl,Aq ⟨fun _=>.inl ⟨C1.out,C2.out⟩,fun _=>rfl⟩,Aw _ _⟩
      have C2:=Aq c2;have c2b:((inp:Int) == 0)=false:=(by simp[c2]);clear c2;go_wp2_with fail
      go_meet
      exact⟨_,rfl,Aq ⟨fun e=>(by simp at e),fun e=>(by rcases e with e|e;exact absurd e.2 C2.out;exact absurd e.1 C3.out)⟩,Aw _ _⟩
     have C1:=Aq c1;have c1b:(kd == 1)=false:=(by simp[c1]);clear c1;go_wp2_with fail
     go_meet
     exact⟨_,rfl,Aq ⟨fun e=>(by simp at e),fun e=>(by rcases e with e|e;exact absurd e.1 C1.out;exact absurd e.1 C3.out)⟩,Aw _ _⟩
    case rest=>
     have hcut_:=hcut;clear hcut;obtain⟨X2,rfl⟩:∃u_:Yw,u_=wc:=⟨_,rfl⟩;obtain⟨bv,rfl,hbv,bx2⟩:=hcut_;have D2:=HD1.out.step hbw (HD1.out.src.below bx2 HD1.out.src.lt) (Mid.of_below bx2 _ _);have HD2:=Aq D2;have lx2:x1.heap.size<=X2.heap.size:=bx2.size;have HM2:=Aq (HM1.out.trans (Mid.of_below bx2 b (b+1)));clear D2 bx2
     go_upto_if 59 with fail
     go_cut [15] (fun q15 wx=>∃k2:Int,q15=.int .i64 k2/\Hid ((1<=k2/\k2<=17)/\(lin=true->zg2 k2=true)/\(k2=1->0<inp)/\(ns.length=0->M.ar k2.toNat=0)/\(k2=13->0<T.length))/\wx=X2)
     case first=>
      cases bv
      ·go_wp2_with fail
       go_meet
       refine⟨kd,rfl,Aq ⟨hk17,HKD.out.2,fun e=>?_,fun e=>?_,fun e=>?_⟩,rfl⟩
       ·rcases Nat.eq_zero_or_pos inp with h0|h0
        ·exact absurd (hbv.out.2 (.inl ⟨e,h0⟩)) (by simp)
        exact h0
       ·by_cases h0:0<M.ar kd.toNat
        ·exact absurd (hbv.out.2 (.inr ⟨e,h0⟩)) (by simp)
        omega
       have h1:lin=false:=by
        cases lin
        ·rfl
        have:=HKD.out.2 rfl;rw[e]at this;cases this
       have:=hT.out.2.2.1 h1;omega
      cases lin
      ·go_wp2_with fail
       go_meet
       exact⟨2,rfl,Aq ⟨by omega,fun e=>(by cases e),fun e=>(by omega),fun _=>rfl,fun e=>by omega⟩,rfl⟩
      go_wp2_with fail
      go_meet
      exact⟨1,rfl,Aq ⟨by omega,fun _=>by first|trivial|rfl|simp,fun _=>HL.out (by first|trivial|rfl),fun _=>by first|trivial|rfl|simp,fun e=>by omega⟩,rfl⟩
     case rest=>
      have hcut_:=hcut;clear hcut;obtain⟨X3,rfl⟩:∃u_:Yw,u_=wc:=⟨_,rfl⟩;obtain⟨k2,rfl,hk2,hX3⟩:=hcut_;rw[<-hX3]at HD2 lx2 HM2;clear hX3 hbv HD1 HKD hk17 har;have hk17:=hk2.out.1;have har:=zij k2 hk17;have P1:=HD2.out.p1;have lb2:b<X3.heap.size:=HD2.out.src.lt;have hDR:=Aq (zlj b lo A n c code _ k2 (T.length:Int) (ns.length:Int) X3 HD2.out.src (by omega) hk17 (by omega) (by omega));go_wp2_with fail;refine hDR.out.mono ?_;rintro e x3 ⟨k3,a,bb,Ax,nx,cx,xs,rfl,ownx,hnd,s3,m3⟩;obtain rfl:k3=k2:=hnd.out.kd;obtain rfl:xs.length=nx:=ownx.read.cap.1;have lx3:=m3.size;obtain⟨h4,hh4⟩:∃q,q=x3.heap.size:=⟨_,rfl⟩;obtain⟨X4,hX4⟩:∃W,W=x3.alloc (.cells #[.int .i64 k3,.int .i64 a,.int .i64 bb,.slice Ax xs.length cx] 169):=⟨_,rfl⟩;have bX4:Below x3.heap.size x3 X4:=(by rw[hX4];exact(Aw _ _).alloc (Aj _) _)
      have N4:NX wr b lo A n c code h4 (K+122+60*(N-j)+2+20) k3 a bb (.slice Ax xs.length cx) xs X4:=by
       have eP:∀q u,(#[Value.int .i64 k3,.int .i64 a,.int .i64 bb,.slice Ax xs.length cx]:Array Value)[q]?=some u->X4.cell? ⟨h4,q,none⟩=some u/\X4.frozen? ⟨h4,q,none⟩=false:=fun q u hq=>by
        rw[hX4,hh4];refine⟨?_,?_⟩
        ·rw[cell_of_row _ x3.heap.size q _ 169 (0,0) (Df x3 _)];exact hq
        simp[go_sem]
       have mw:Mid b (b+1) wr X3:=HM2.out;refine⟨(eP 0 _ rfl).1,(eP 1 _ rfl).1,(eP 2 _ rfl).1,(eP 3 _ rfl).1,fun q hq=>?_,(ownx.below bX4 (Aj _)).wide (fun z hz=>?_),s3.below bX4 s3.lt,(mw.trans m3).thenB' bX4 (by have:=mw.size;omega),by rw[hh4,hX4];simp,by have:=mw.size;omega⟩
       ·rcases(show q=0\/q=1\/q=2\/q=3 by omega)with rfl|rfl|rfl|rfl
        ·exact(eP 0 _ rfl).2
        ·exact(eP 1 _ rfl).2
        ·exact(eP 2 _ rfl).2
        exact(eP 3 _ rfl).2
       have a1:X3.heap.size<=z:=hz.1;have a2:z<x3.heap.size:=hz.2;have:=mw.size;exact⟨by omega,by omega⟩
      have HN4:=Aq N4;have HX4:=Aq hX4;have HH4:=Aq hh4;have HND:=Aq hnd.out;have l4:=N4.sz;have hlo4:=N4.lo;clear hX4 hh4 N4 bX4 ownx s3 m3 hDR P1 hnd lb2
      go_upto_if 69 with fail
      rw[<-HX4.out,<-HH4.out]
      go_cut [] (fun wx=>∃a':Int,Hid ((k3=1->0<=a'/\a'<inp)/\(k3≠1->M.aD k3 T.length a'))/\NX wr b lo A n c code h4 (K+122+60*(N-j)+24) k3 a' bb (.slice Ax xs.length cx) xs wx)
      case first=>
       by_cases h1:k3=1
       ·have H1:=Aq h1;have h1b:(k3 == 1)=true:=(by simp[h1]);have hi0:=hk2.out.2.2.1 h1;clear h1;have SP:=Aq (zbg b lo A n c code _ (inp:Int) X4 HN4.out.src (by omega) (by omega));go_wp2_with fail;refine SP.out.mono ?_;rintro e x5 ⟨y,rfl,hy,s5,m5⟩;have N5:=HN4.out.step (by omega) s5 m5;have q1:=N5.p1;have f1:=N5.q 1 (by omega);have N6:=N5.setA (by omega) y;obtain⟨x6,hx6⟩:∃u,u=x5.setCell ⟨h4,1,none⟩ (.int .i64 y):=⟨_,rfl⟩;rw[<-hx6]at N6;have HX6:=Aq hx6;have hy2:0<=y/\y<inp:=(by omega);clear hx6 N5 hy;go_wp2_with fail;rw[<-HX6.out]
        go_meet
        exact⟨y,Aq ⟨fun _=>hy2,fun e=>absurd H1.out e⟩,N6.more (by omega)⟩
       have h1b:(k3 == 1)=false:=(by simp[h1]);go_wp2_with fail
       go_meet
       exact⟨a,Aq ⟨fun e=>absurd e h1,fun _=>HND.out.ad⟩,HN4.out.more (by omega)⟩
      case rest=>
       have hcut_:=hcut;clear hcut HN4;obtain⟨X5,rfl⟩:∃u_:Yw,u_=wc:=⟨_,rfl⟩;obtain⟨a1,hA1,N5⟩:=hcut_;have HN5:=Aq N5;have SO:=Aq (zfg b lo A n c code _ 3 X5 N5.src (by omega) (by omega));clear N5;go_upto_region 17 with fail
       go_cut [87] (fun q87 wx=>∃bv:Bool,q87=.bool bv/\Hid (bv=true->0<ns.length/\k3≠1)/\NX wr b lo A n c code h4 (K+122+60*(N-j)+26) k3 a1 bb (.slice Ax xs.length cx) xs wx)
       case first=>
        go_wp2_with fail;refine SO.out.mono ?_;rintro e x6 ⟨r,rfl,s6,m6⟩;have HN6:=Aq (HN5.out.step (by omega) s6 m6);clear s6 m6;cases r
        ·go_wp2_with fail
         go_meet
         exact⟨_,rfl,Aq (by simp),HN6.out⟩
        by_cases c3:0<ns.length
        ·have c3i:(0:Int)<(ns.length:Int):=by omega
         by_cases c1:k3=1
         ·subst c1;go_wp2_with fail
          go_meet
          exact⟨_,rfl,Aq (by simp),HN6.out⟩
         have c1b:(k3 == 1)=false:=by simp[c1]
         by_cases c2:k3=2
         ·subst c2;go_wp2_with fail
          go_meet
          exact⟨_,rfl,Aq (by simp),HN6.out⟩
         have c2b:(k3 == 2)=false:=(by simp[c2]);go_wp2_with fail
         go_meet
         exact⟨_,rfl,Aq (fun _=>⟨c3,c1⟩),HN6.out⟩
        have c3i:¬(0:Int)<(ns.length:Int):=(by omega);go_wp2_with fail
        go_meet
        exact⟨_,rfl,Aq (by simp),HN6.out⟩
       case rest=>
        have hcut_:=hcut;clear hcut HN5 SO;obtain⟨X6,rfl⟩:∃u_:Yw,u_=wc:=⟨_,rfl⟩;obtain⟨bv,rfl,hbv,N6⟩:=hcut_;have HN6:=Aq N6;have D6:=HD.out.step hbw N6.src N6.mid;have P61:=D6.p1;have L6g:=D6.sz;have l6:=N6.sz;have HD6:=Aq D6;have SD:=Aq (zlj b lo A n c code _ k3 (T.length:Int) 1 X6 N6.src (by omega) hk17 (by omega) (by omega))
        have hDN:=Aq (show ∀(y bb2:Int) (zs:List Int),(k3=1->0<=y/\y<inp)->(k3≠1->M.aD k3 T.length y)->(k3=17->1<=bb2/\bb2<=3)->(k3≠17->bb2=0)->(zs.length:Int)=M.ar k3.toNat->(∀f∈zs,0<=f/\f<ns.length)->M.dn inp T.length lin ns.length (k3,y,bb2,zs)from
         fun _ _ _ h1 h2 h3 h4 h5 h6=>zzi hk17 hk2.out.2.1 hin hT2 hk2.out.2.2.2.2 (by omega) h1 h2 h3 h4 h5 h6)
        clear N6 D6
        go_upto_if 87 with fail
        go_cut [17] (fun q17 wx=>∃(uv:Value) (a2 b2:Int) (v2:Value) (xs2:List Int),q17=uv/\Hid (M.dn inp T.length lin ns.length (k3,a2,b2,xs2))/\NX wr b lo A n c code h4 (K+122+60*(N-j)+56) k3 a2 b2 v2 xs2 wx)
        case first=>
         cases bv
         ·have hdn0:=Aq (hDN.out _ _ _ hA1.out.1 hA1.out.2 HND.out.b17 HND.out.b0 HND.out.len (fun f hf=>by
           have h1:=HND.out.fr f hf;have h2:=HND.out.len;simp only at h1 h2 hf;rcases Nat.eq_zero_or_pos ns.length with h0|h0
           ·rw[hk2.out.2.2.2.1 h0]at h2;have:xs=[]:=List.eq_nil_of_length_eq_zero (by omega);rw[this]at hf;cases hf
           omega))
          go_wp2_with fail
          go_meet
          exact⟨_,a1,bb,_,xs,rfl,hdn0,HN6.out.more (by omega)⟩
         have h0:0<ns.length:=(hbv.out rfl).1;have hk31:k3≠1:=(hbv.out rfl).2;go_wp2_with fail;refine SD.out.mono ?_;rintro e x7 ⟨k5,a2,b2,Ay,ny,cy,ys,rfl,owny,hnd2,s7,m7⟩;obtain rfl:k5=k3:=hnd2.out.kd;obtain⟨m,hm⟩:∃q,q=ys.length:=⟨_,rfl⟩;obtain rfl:m=ny:=hm.trans owny.read.cap.1;have N7:=HN6.out.step (by omega) s7 m7;have hs7:=m7.size;have i0:=N7.p0;have i1:=N7.p1;have i2:=N7.p2;have i3:=N7.p3;have j0:=N7.q 0 (by omega);have j1:=N7.q 1 (by omega);have j2:=N7.q 2 (by omega);have j3:=N7.q 3 (by omega);have hsw:=HN6.out.mid.size
         have N8:=N7.all (k':=k5) (a':=a2) (bb':=b2) (v':=.slice Ay m cy) (by omega) (owny.wide (fun z hz=>by
          have a1:X6.heap.size<=z:=hz.1;exact⟨by omega,by omega⟩))
         have hm3:m<=3:=(by have h1:=hnd2.out.len;simp only at h1;omega);have HYL:=Aq (show ys.length=m from hm.symm);have HND2:=Aq hnd2.out;obtain⟨x8,hx8⟩:∃u,u=(((x7.setCell ⟨h4,0,none⟩ (.int .i64 k5)).setCell ⟨h4,1,none⟩ (.int .i64 a2)).setCell ⟨h4,2,none⟩ (.int .i64 b2)).setCell ⟨h4,3,none⟩ (.slice Ay m cy):=⟨_,rfl⟩;rw[<-hx8]at N8;have HX8:=Aq hx8;have HN8:=Aq N8;have l8:=N8.p3;clear hx8 N8 N7 owny s7 m7 hnd2 hm;go_upto_region 19 with fail
         rw[<-HX8.out];clear i0 i1 i2 i3 j0 j1 j2 j3;go_wp2_with fail;obtain⟨wo,rfl⟩:∃wo:Yw,wo=wr:=⟨_,rfl⟩
         go_loopw [17] (fun i wr=>∃(q:Nat) (zs:List Int),i=.int .i64 q/\q<=m/\Hid (zs.length=m)/\Hid (∀f∈zs,0<=f/\f<ns.length)/\NX wo b lo A n c code h4 (K+122+60*(N-j)+46+2*q) k5 a2 b2 (.slice Ay m cy) zs wr) (fun i _=>m-(intOf i).toNat)
         case atStart=>exact⟨0,ys,rfl,by omega,HYL,Aq (fun f hf=>by have h1:=HND2.out.fr f hf;omega),HN8.out.more (by omega)⟩
         case round=>
          clear l8;obtain⟨q,zs,rfl,hqm,hzl,hzs,Nr⟩:=hrel;have l9:=Nr.p3
          by_cases hq:q<m
          ·have hqi:(q:Int)<(m:Int):=(by omega);have hq0:(0:Int)<=(q:Int):=(by omega);obtain⟨U,hU⟩:∃U,U=wr:=⟨_,rfl⟩;rw[<-hU]at Nr l9 ⊢;have HNr:=Aq Nr;have UX:=Nr.sz;have UL:=Nr.lo;have hbo:b<wo.heap.size:=(by omega);have hX:=Aq (Ak (l:=zs) (i:=q) (by rw[hzl.out];exact hq));generalize zs[q]'(by rw[hzl.out];exact hq)=z0 at hX
           obtain⟨gr,hgr⟩:∃gr,Ay=some ⟨gr,0,none⟩:=by
            obtain⟨css,Fs,hole,cs,hcs,hE⟩:=Nr.own.openAt hX.out;obtain⟨gr,e,_⟩:=hole.form (Bk.1 hX.out).1;exact⟨gr,e⟩
           subst hgr;obtain⟨G,hG⟩:∃G:Nat->Prop,G=fun z=>z=b\/(wo.heap.size<=z/\z≠h4):=⟨_,rfl⟩
           have HG2:=Aq hG
           have GX:=Aq (show ¬G h4 from fun h=>by
            rw[hG]at h;rcases h with h|h
            ·omega
            exact h.2 rfl)
           have g3:=ChgTo.cell (F:=G) l9 (fun h=>GX.out h);have bsU:=Nr.src.lt;clear hU hG;have SPk:=Aq (zbg b lo A n c code _ 2 U.drew (Nr.src.below (zad (Aw U.heap.size _) 1) bsU) (by omega) (by omega));clear Nr;go_wp2_with fail
           (refine zc4 G [0,2,3,4,5] [1] 4 (.one 6 (.first 7 (.one 8 (.first 9 .rest)))) [10] [10] (by kernel_rfl) (by kernel_rfl) ?_;simp only[zak];simp only[List.filterMap,By,Bg];(repeat (go_big_quiet_step (fail)));refine Cv ?_;(repeat (go_big_quiet_step (fail)));refine Cv ?_)
           refine zai rfl ?_;go_wp2_with fail;refine SPk.out.mono ?_;rintro e y5 ⟨f,rfl,hf,s5,m5⟩;have hf2:0<=f/\f<=1:=(by omega);have m5':Mid b (b+1) U y5:=(Mid.of_below (zad (Aw U.heap.size _) 1) b (b+1)).trans m5;have E5:=HNr.out.step hbo s5 m5';have lt5:=m5'.size
           have C5:Chg G U y5:=⟨m5'.os,m5'.tape,m5'.output,m5'.size,fun i hi hn=>m5'.block i hi (by
            rw[HG2.out]at hn;rcases Fj i b with h|h
            ·exact .inl h
            exact .inr (by rcases Fj b i with h2|h2;exact h2;exact absurd (.inl (by omega)) hn))⟩
           have HE5:=Aq E5;clear E5 hf;go_wp2_with fail;refine⟨⟨⟨y5,C5⟩,rfl⟩,?_⟩
           (refine za6 rfl ?_;(repeat (go_big_quiet_step (fail)));refine Cv ?_)
           refine zai rfl ?_;go_wp2_with fail;refine(zkn 0 _ y5).mono ?_;rintro e y6 ⟨rfl,rfl⟩;obtain⟨mx,hmx⟩:∃z,z=max 0 ((ns.length:Int)-1-f):=⟨_,rfl⟩;rw[<-hmx];have hmx2:0<=mx/\mx<(ns.length:Int):=(by omega);clear hmx;obtain⟨css,Fs,hole,cs,hcs,hE⟩:=HE5.out.own.openAt hX.out;obtain rfl:cs=[.int .i64 z0]:=hE;obtain⟨gr',eg,hFg,-,hgs,-⟩:=hole.form (Bk.1 hX.out).1;obtain rfl:gr=gr':=by injection eg with eg;injection eg
           have cq:=(hole.cell hcs (j:=0) rfl).1;have fq:=(hole.cell hcs (j:=0) rfl).2;change y5.cell? ⟨gr,q*1+0,none⟩=_ at cq;change y5.frozen? ⟨gr,q*1+0,none⟩=_ at fq;rw[Nat.mul_one,Nat.add_zero]at cq fq;have h1s:=hole.set hcs 0 (by decide) (.int .i64 mx);have own5:=h1s.1.fill h1s.2 (y:=mx) rfl;change OS tI _ (y5.setCell ⟨gr,q*1+0,none⟩ _) _ _ _ at own5;rw[Nat.mul_one,Nat.add_zero]at own5;have CS:Chg (fun z=>wo.heap.size<=z/\z≠h4) y5 (y5.setCell ⟨gr,q,none⟩ (.int .i64 mx)):=Chg.set y5 gr q _ hFg;have N9:=Aq (HE5.out.turn hbo CS own5);clear h1s own5 hole hcs CS;go_wp2_with fail;refine⟨⟨⟨y5,C5⟩,rfl⟩,?_⟩
           (refine za6 rfl ?_;(repeat (go_big_quiet_step (fail)));refine Cv ?_)
           refine zbc ?_;go_wp2_with fail;go_roundw
           case rel=>exact⟨q+1,zs.set q mx,by go_num,by omega,Aq (by rw[Fx];exact hzl.out),Aq (fun x hx=>by
            rcases List.mem_or_eq_of_mem_set hx with hx|rfl
            ·exact hzs.out x hx
            exact hmx2),N9.out.more (by omega)⟩
           case measure=>simp[intOf];omega
          have hdn0:=Aq (hDN.out a2 b2 zs (fun e=>absurd e hk31) (fun _=>HND2.out.ad) HND2.out.b17 HND2.out.b0 (by rw[hzl.out,<-HYL.out];exact HND2.out.len) hzs.out);go_wp2_with fail
          go_meet
          exact⟨_,a2,b2,_,zs,rfl,hdn0,Nr.more (by omega)⟩
        case rest=>
         have hcut_:=hcut;clear hcut HN6 HD6 SD hDN P61 L6g l6 hbv;obtain⟨X7,rfl⟩:∃u_:Yw,u_=wc:=⟨_,rfl⟩;obtain⟨uv,a2,b2,v2,xs2,rfl,hdx,N7⟩:=hcut_;obtain⟨A7,c7,hv7⟩:=N7.own.shape;subst hv7;have D7:=HD.out.step hbw N7.src N7.mid;have oN:=HD.out.oN.real.chg (Chg.of_mid N7.mid) (fun z h1 h2=>by have:=(HD.out.fd.n z h1.1).1;omega);have i0:=N7.p0;have i1:=N7.p1;have i2:=N7.p2;have i3:=N7.p3;have P7:=D7.p2;have Q7:=D7.q 2 (by omega);have l7:=N7.sz;have l7g:=D7.sz;have hsw:=N7.mid.size;have HN7:=Aq N7;have HD7:=Aq D7;have yO:tN.O X7 (fun z=>wr.heap.size<=z) [.int .i64 k3,.int .i64 a2,.int .i64 b2,.slice A7 xs2.length c7] (k3,a2,b2,xs2):=tN_O.2 ⟨A7,xs2.length,c7,_,rfl,sl_O.2 N7.own,fun z h=>h.1⟩;clear N7 D7;go_wp2_with (at_builtin;refine za8 zg1 #[.int .i64 k3,.int .i64 a2,.int .i64 b2,.slice A7 xs2.length c7] rfl _ _ rfl oN yO (fun z h1 h2=>by have:=h1.2;have h3:wr.heap.size<=z:=h2;omega) rfl rfl (by unfold maxLen;omega) (by omega) ?_;intro v8 w8 own8 ch8;obtain⟨A8,c8,e8⟩:=own8.shape;rw[Cw,Dw]at e8;subst e8;have P8:w8.cell? ⟨g,2,none⟩=some (.slice A2 ns.length c2):=(by rw[ch8.cell1 (show g<X7.heap.size by omega) (fun h=>by have h1:U3.heap.size<=g:=h.1;omega)];exact P7);have Q8:w8.frozen? ⟨g,2,none⟩=false:=(by rw[ch8.frozen1 (show g<X7.heap.size by omega) (fun h=>by have h1:U3.heap.size<=g:=h.1;omega)];exact Q7))
         have D8:=HD7.out.pushN hbw (ch8.wide (fun z h=>h.1)) (own8.wide (F':=fun z=>U3.heap.size<=z) (fun z h=>by
          rcases h with h|h|h
          ·exact h.1
          ·show U3.heap.size<=z
           have h3:wr.heap.size<=z:=h;omega
          show U3.heap.size<=z
          have h3:=h.1;omega)) FDN.out
         have KC8:=Aq (show ∀q x,(ze1 lin)[q]?=some x->(w8.setCell ⟨g,2,none⟩ (.slice A8 (ns.length+1) c8)).cell? ⟨U1.heap.size,q,none⟩=some (.int .i64 x)from fun q x hx=>by
          rw[Ek (Fg w8 ⟨g,2,none⟩ U1.heap.size _ (by show U1.heap.size≠g;omega)),ch8.cell1 (show U1.heap.size<X7.heap.size by omega) (fun h=>by have h1:U3.heap.size<=U1.heap.size:=h.1;omega)];exact HN7.out.mid.cellK (by omega) (.inr (by omega)) (KC.out q x hx))
         have s8:U3.heap.size<=(w8.setCell ⟨g,2,none⟩ (.slice A8 (ns.length+1) c8)).heap.size:=(by have:=ch8.size;simp;omega);go_roundw
         case rel=>exact⟨j-1,ns++[(k3,a2,b2,xs2)],_,by go_num,by omega,Aq (by have:=hnj.out;simp;omega),Aq (fun q x hx=>by
          rcases Fj q ns.length with h1|h1
          ·rw[List.getElem?_append_left h1]at hx;exact hdn.out q x hx
          rw[Gz h1]at hx;have h2:=(Bk.1 hx).1;simp only[Dw]at h2;have h3:q=ns.length:=(by omega);rw[show q-ns.length=0 by omega]at hx;simp only[Bg,Dq]at hx;rw[<-hx,h3];exact hdx.out),KC8,D8.more (by omega),s8⟩
         case measure=>simp[intOf];omega
   obtain rfl:j=0:=by omega
   have hnN:ns.length=N:=(by have:=hnj.out;omega);have HNN:=Aq hnN;have hn9:1<=ns.length/\ns.length<=9:=(by omega);have P2:=D.p2;have DD:=Aq (show DP w b lo A n c code g (K+122+60*N) inp (.slice AT T.length cT) (.slice A2 ns.length c2) (.slice (some ⟨w.heap.size+1,0,none⟩) 0 0) T ns [] (Iv W2.heap.size U1.heap.size) (fun z=>U3.heap.size<=z) (fun z=>z=w.heap.size+1) wr from D);clear hnj KC D hnN;obtain⟨Y0,rfl⟩:∃Y:Yw,Y=wr:=⟨_,rfl⟩;go_wp2_with fail
   go_loopw [19] (fun i wr=>∃(t:Nat) (ms:List Node),i=.int .i64 t/\t<=ns.length/\Hid (ms.length=ns.length)/\Hid (∀q x,ms[q]?=some x->M.dn3 inp T.length lin ns.length q x)/\DP w b lo A n c code g (K+122+60*N+4*t) inp (.slice AT T.length cT) (.slice A2 ns.length c2) (.slice (some ⟨w.heap.size+1,0,none⟩) 0 0) T ms [] (Iv W2.heap.size U1.heap.size) (fun z=>U3.heap.size<=z) (fun z=>z=w.heap.size+1) wr/\U3.heap.size<=wr.heap.size) (fun i _=>ns.length-(intOf i).toNat)
   case atStart=>exact⟨0,ns,rfl,by omega,Aq rfl,Aq (fun q x hx=>(hdn.out q x hx).to3 (Bk.1 hx).1),DD.out.more (by omega),lwr⟩
   case round=>
    clear P2;obtain⟨t,ms,rfl,htn,hml,hd3,D,lwt⟩:=hrel;have P2:=D.p2;have lgw:=D.sz;have hbg:b<g:=by omega
    by_cases hlt2:t<ns.length
    ·have hti:(t:Int)<(ns.length:Int):=(by omega);have ht0:(0:Int)<=(t:Int):=(by omega);have hXt:=Aq (Ak (l:=ms) (i:=t) (by rw[hml.out];exact hlt2));generalize ms[t]'(by rw[hml.out];exact hlt2)=x at hXt;obtain⟨k0,a0,b0,xs0⟩:=x;obtain⟨css,Fs,hole,cs,hcs,hE⟩:=D.oN.openAt hXt.out;obtain⟨A0,n0,d0,F0,rfl,hS,hF0⟩:=tN_O.1 hE;have oS:=sl_O.1 hS;obtain rfl:xs0.length=n0:=oS.read.cap.1;obtain⟨gN,rfl,hgF,hgn,hgs,-⟩:=hole.form (Bk.1 hXt.out).1;have e0:wr.cell? ⟨gN,t*4,none⟩=some (.int .i64 k0):=(hole.cell hcs (j:=0) rfl).1;have e3:wr.cell? ⟨gN,t*4+3,none⟩=some (.slice A0 xs0.length d0):=(hole.cell hcs (j:=3) rfl).1;have HD:=Aq D;have hgNb:U3.heap.size<=gN:=hgF
     by_cases h6:k0=6
     ·subst h6;have SO:=Aq (zfg b lo A n c code _ 2 wr D.src (by omega) (by omega));clear D hole hE hS oS;go_wp2_with fail;refine SO.out.mono ?_;rintro e y1 ⟨r,rfl,s1,m1⟩;have D1:=HD.out.step hbw s1 m1;cases r
      ·go_wp2_with fail;go_roundw
       case rel=>
        (repeat apply Exists.intro)
        exact⟨⟨t+1,ms,by go_num,by omega,hml,hd3,D1.more (by omega),by have:=m1.size;omega⟩,rfl⟩
       case measure=>simp[intOf];omega
      obtain⟨css1,Fs1,hole1,cs1,hcs1,hE1⟩:=D1.oN.openAt hXt.out;obtain⟨A1,n1,d1,F1,rfl,hS1,hF1⟩:=tN_O.1 hE1;have oS1:=sl_O.1 hS1;obtain rfl:xs0.length=n1:=oS1.read.cap.1;obtain⟨gN1,eg,hgF1,hgn1,hgs1,-⟩:=hole1.form (Bk.1 hXt.out).1;obtain rfl:gN=gN1:=by injection eg with eg;injection eg
      have u3:y1.cell? ⟨gN,t*4+3,none⟩=some (.slice A1 xs0.length d1):=(hole1.cell hcs1 (j:=3) rfl).1
      have hx1:xs0.length=1:=by
       have h0:=(hd3.out t _ hXt.out).ok;rw[zaj]at h0;simp only[Cx]at h0;have h2:(xs0.length:Int)=1:=of_decide_eq_true h0.2.1.2;omega
      have hX0:=Aq (Ak (l:=xs0) (i:=0) (by omega));generalize xs0[0]'(by omega)=f0 at hX0
      obtain⟨gr,hgr⟩:∃gr,A1=some ⟨gr,0,none⟩:=by
       obtain⟨css,Fs,hole,cs,hcs,hE⟩:=oS1.openAt hX0.out;obtain⟨gr,e,_⟩:=hole.form (Bk.1 hX0.out).1;exact⟨gr,e⟩
      subst hgr;obtain⟨G,hG⟩:∃G:Nat->Prop,G=fun z=>z=b\/Fs1 t z:=⟨_,rfl⟩
      have HG2:=Aq hG;have lb1:=D1.lo
      have GX:=Aq (show ¬G g from fun h=>by
       rw[hG]at h;rcases h with h|h
       ·omega
       exact(D1.fd.n g (hole1.fits g h)).2 rfl)
      have GN:=Aq (show ¬G gN from fun h=>by
       rw[hG]at h;rcases h with h|h
       ·have h1:=(D1.fd.n gN hgF1).1;omega
       exact hgn1 h)
      have P1:=D1.p2;have g2:=ChgTo.cell (F:=G) P1 (fun h=>GX.out h);have g3:=ChgTo.cell (F:=G) u3 (fun h=>GN.out h);have bs1:=D1.src.lt;have SPk:=Aq (zbg b lo A n c code _ (ns.length:Int) y1.drew (D1.src.below (zad (Aw y1.heap.size _) 1) bs1) (by omega) (by omega));have HD1:=Aq D1;have hx0:(0:Int)<(xs0.length:Int):=(by omega);clear hG D1 hole1 hE1 hS1 oS1;go_wp2_with fail
      (refine zc4 G [0,2,6,7] [1,3,4,5] 2 (.one 8 (.first 9 .rest)) [10] [10] (by kernel_rfl) (by kernel_rfl) ?_;simp only[zak];simp only[List.filterMap,By,Bg];(repeat (go_big_quiet_step (fail)));refine Cv ?_;(repeat (go_big_quiet_step (fail)));refine Cv ?_)
      refine zai rfl ?_;go_wp2_with fail;refine SPk.out.mono ?_;rintro e y5 ⟨f,rfl,hf,s5,m5⟩;have hfb:0<=f/\f<(ns.length:Int):=(by omega);have m5':Mid b (b+1) y1 y5:=(Mid.of_below (zad (Aw y1.heap.size _) 1) b (b+1)).trans m5;have D5:=HD1.out.step hbw s5 m5';have lt5:=m5'.size
      have C5:Chg G y1 y5:=⟨m5'.os,m5'.tape,m5'.output,m5'.size,fun i hi hn=>m5'.block i hi (by
       rw[HG2.out]at hn;rcases Fj i b with h|h
       ·exact .inl h
       exact .inr (by rcases Fj b i with h2|h2;exact h2;exact absurd (.inl (by omega)) hn))⟩
      obtain⟨css5,Fs5,hole5,cs5,hcs5,hE5⟩:=D5.oN.openAt hXt.out;obtain⟨A5,n5,d5,F5,hcse,hS5,hF5⟩:=tN_O.1 hE5;subst hcse;obtain⟨gN5,eg,hgF5,hgn5,hgs5,-⟩:=hole5.form (Bk.1 hXt.out).1;obtain rfl:gN=gN5:=by injection eg with eg;injection eg
      have h7:y5.cell? ⟨gN,t*4+3,none⟩=some (.slice A5 n5 d5):=(hole5.cell hcs5 (j:=3) rfl).1;have h8:y5.cell? ⟨gN,t*4+3,none⟩=some (.slice (some ⟨gr,0,none⟩) xs0.length d1):=(by rw[C5.cell1 hgs1 GN.out];exact u3);have h9:=h8.symm.trans h7;simp only[Dq,Cz]at h9;obtain⟨rfl,rfl,rfl⟩:=h9;obtain⟨css6,Fs6,hole6,cs6,hcs6,hE6⟩:=(sl_O.1 hS5).openAt hX0.out;obtain rfl:cs6=[.int .i64 f0]:=hE6;obtain⟨gr',eg,hFg,-,hgs6,-⟩:=hole6.form (Bk.1 hX0.out).1;obtain rfl:gr=gr':=by injection eg with eg;injection eg
      have cq:y5.cell? ⟨gr,0,none⟩=some (.int .i64 f0):=(hole6.cell hcs6 (j:=0) rfl).1;have fq:y5.frozen? ⟨gr,0,none⟩=false:=(hole6.cell hcs6 (j:=0) rfl).2;have h1s:=hole6.set hcs6 0 (by decide) (.int .i64 f);have own5:OS tI 2 (y5.setCell ⟨gr,0,none⟩ (.int .i64 f)) F5 (.slice (some ⟨gr,0,none⟩) xs0.length d1) (xs0.set 0 f):=h1s.1.fill h1s.2 (y:=f) rfl;have CS:Chg (Fs5 t) y5 (y5.setCell ⟨gr,0,none⟩ (.int .i64 f)):=Chg.set y5 gr 0 _ (hF5 gr hFg);have hE7:tN.O (y5.setCell ⟨gr,0,none⟩ (.int .i64 f)) (Fs5 t) [.int .i64 6,.int .i64 a0,.int .i64 b0,.slice (some ⟨gr,0,none⟩) xs0.length d1] (6,a0,b0,xs0.set 0 f):=tN_O.2 ⟨_,_,_,F5,rfl,sl_O.2 own5,hF5⟩;have oN6:=(hole5.chg CS).fill hcs5 hE7;have D6:=Aq (D5.inN hbw (CS.wide (fun z h=>hole5.fits z h)) oN6)
      have sz6:U3.heap.size<=(y5.setCell ⟨gr,0,none⟩ (.int .i64 f)).heap.size:=by
       have:=m1.size;simp;omega
      clear D5 oN6 hE7 CS own5 h1s hole6 hole5 hE5 hS5 h7 h8;go_wp2_with fail;refine⟨⟨⟨y5,C5⟩,rfl⟩,?_⟩
      (refine za6 rfl ?_;(repeat (go_big_quiet_step (fail)));refine Cv ?_)
      refine zbc ?_;go_wp2_with fail;go_roundw
      case rel=>
       (repeat apply Exists.intro)
       exact⟨⟨t+1,ms.set t (6,a0,b0,xs0.set 0 f),by go_num,by omega,Aq (by rw[Fx];exact hml.out),Aq (fun q x hx=>by
        by_cases h:q=t
        ·subst h;rw[List.getElem?_set_self (by rw[hml.out];exact hlt2)]at hx;obtain rfl:=Option.some.inj hx;exact(hd3.out q _ hXt.out).delay (by omega) hfb
        rw[List.getElem?_set_ne (fun e=>h e.symm)]at hx;exact hd3.out q x hx),D6.out.more (by omega),sz6⟩,rfl⟩
      case measure=>simp[intOf];omega
     have h6b:(k0 == 6)=false:=(by simp[h6]);clear D hole hE hS oS;go_wp2_with fail;go_roundw
     case rel=>exact⟨t+1,ms,by go_num,by omega,hml,hd3,HD.out.more (by omega),lwt⟩
     case measure=>simp[intOf];omega
    obtain rfl:t=ns.length:=by omega
    obtain⟨Z,rfl⟩:∃Z:Yw,Z=wr:=⟨_,rfl⟩;have hml2:ms.length=ns.length:=hml.out;have HLW:=Aq (show U1.heap.size<=Z.heap.size by omega)
    have FDQ:=Aq (show FD w.heap.size g (Iv W2.heap.size U1.heap.size) (fun z=>U3.heap.size<=z/\z<Z.heap.size) (fun z=>z=w.heap.size+1\/Z.heap.size<=z)from by
     have h1:=D.fd;have h2:=D.sz;have h3:=D.lo;have h4:=HLW.out
     exact⟨h1.t,fun z hz=>h1.n z hz.1,fun z hz=>by
      rcases hz with hz|hz
      ·exact h1.o z hz
      ·exact⟨by omega,by omega⟩,fun z a b=>h1.tn z a b.1,fun z a b=>by
      rcases b with b|b
      ·exact h1.tq z a b
      ·have a1:z<U1.heap.size:=a.2;omega,fun z a b=>by
      rcases b with b|b
      ·exact h1.nq z a.1 b
      have a1:z<Z.heap.size:=a.2;omega⟩)
    have D9:DP w b lo A n c code g (K+122+60*N+4*ns.length) inp (.slice AT T.length cT) (.slice A2 ns.length c2) (.slice (some ⟨w.heap.size+1,0,none⟩) 0 0) T ms [] (Iv W2.heap.size U1.heap.size) (fun z=>U3.heap.size<=z/\z<Z.heap.size) (fun z=>z=w.heap.size+1\/Z.heap.size<=z) Z:=
     ⟨D.e,D.p0,D.p1,D.p2,D.p3,D.q,D.oT,D.oN.real,D.oO.wide (fun z h=>.inl h),FDQ.out,D.src,D.mid,D.sz,D.lo⟩
    have HD9:=Aq D9;have lgZ:=D.sz;have hwb:=hbw;clear D9 D P2 DD FDN hdn;go_wp2_with fail
    go_loopw [20] (fun i wr=>∃(u:Nat) (os:List Int) (vO:Value),i=.int .i64 u/\u<=outp/\Hid (os.length+u=outp)/\Hid (∀f∈os,0<=f/\f<(ns.length:Int))/\DP w b lo A n c code g (K+122+60*N+4*ns.length+4*(outp-u)) inp (.slice AT T.length cT) (.slice A2 ns.length c2) vO T ms os (Iv W2.heap.size U1.heap.size) (fun z=>U3.heap.size<=z/\z<Z.heap.size) (fun z=>z=w.heap.size+1\/Z.heap.size<=z) wr/\Z.heap.size<=wr.heap.size) (fun i _=>(intOf i).toNat)
    case atStart=>exact⟨outp,[],_,rfl,by omega,Aq (by simp),Aq (fun f hf=>by simp at hf),HD9.out.more (by omega),Aj _⟩
    case round=>
     clear HD9;obtain⟨u,os,vO,rfl,huo,hol,hof,D,lwu⟩:=hrel;obtain⟨AO,cO,hvO⟩:=D.oO.shape;subst hvO
     by_cases hlu:0<u
     ·have hlui:(0:Int)<(u:Int):=(by omega);have hob:os.length<=1:=(by have:=hol.out;omega);obtain⟨U,hU⟩:∃U,U=wr:=⟨_,rfl⟩;rw[<-hU]at D lwu ⊢;have HD:=Aq D;have UP3:=D.p3;have UX:=D.sz;have UL:=D.lo;obtain⟨G,hG⟩:∃G:Nat->Prop,G=fun z=>z=b\/(w.heap.size<z/\z≠g):=⟨_,rfl⟩
      have HG2:=Aq hG
      have GX:=Aq (show ¬G g from fun h=>by
       rw[hG]at h;rcases h with h|h
       ·omega
       exact h.2 rfl)
      have g3:=ChgTo.cell (F:=G) UP3 (fun h=>GX.out h);have bsU:=D.src.lt;clear hU hG;have SD:=Aq (zbg b lo A n c code _ 3 U.drew (D.src.below (zad (Aw U.heap.size _) 1) bsU) (by omega) (by omega));clear D;go_wp2_with fail
      (refine zc4 G [0,2,3,4] [1] 6 (.one 5 (.first 6 (.one 7 (.one 8 (.one 9 (.first 10 .rest)))))) [11] [11] (by kernel_rfl) (by kernel_rfl) ?_;simp only[zak];simp only[List.filterMap,By,Bg];(repeat (go_big_quiet_step (fail)));refine Cv ?_;(repeat (go_big_quiet_step (fail)));refine Cv ?_)
      refine zai rfl ?_;go_wp2_with fail;refine SD.out.mono ?_;rintro e x5 ⟨f,rfl,hf,s5,m5⟩;have hf2:0<=f/\f<=2:=(by omega);have m5':Mid b (b+1) U x5:=(Mid.of_below (zad (Aw U.heap.size _) 1) b (b+1)).trans m5;have E5:=HD.out.step hbw s5 m5';have lt5:=m5'.size
      have C5:Chg G U x5:=⟨m5'.os,m5'.tape,m5'.output,m5'.size,fun i hi hn=>m5'.block i hi (by
       rw[HG2.out]at hn;rcases Fj i b with h|h
       ·exact .inl h
       exact .inr (by rcases Fj b i with h2|h2;exact h2;exact absurd (.inl (by omega)) hn))⟩
      have HE5:=Aq E5;have q3:=E5.p3;have r3:=E5.q 3 (by omega);have o5:=E5.oO;clear E5 hf;go_wp2_with fail;refine⟨⟨⟨x5,C5⟩,rfl⟩,?_⟩
      (refine za6 rfl ?_;(repeat (go_big_quiet_step (fail)));refine Cv ?_)
      refine zai rfl ?_;go_wp2_with fail;refine(zkn 0 _ x5).mono ?_;rintro e x6 ⟨rfl,rfl⟩;obtain⟨mx,hmx⟩:∃z,z=max 0 ((ns.length:Int)-1-f):=⟨_,rfl⟩;rw[<-hmx];have hmx2:0<=mx/\mx<(ns.length:Int):=(by omega);clear hmx;go_wp2_with fail;refine⟨⟨⟨x5,C5⟩,rfl⟩,zai rfl ?_⟩;go_wp2_with fail;refine⟨⟨⟨_,C5.trans (Chg.of_below ((Aw _ _).alloc (Aj _) _) _)⟩,rfl⟩,zai rfl ?_⟩;go_wp2_with (at_builtin;refine za8 zbu #[.int .i64 mx] rfl _ _ rfl o5 (Fe:=fun _=>False) (y:=mx) rfl (fun _ _ h=>h) rfl rfl (by unfold maxLen;omega) (by omega) ?_;intro v6 w6 own6 ch6;obtain⟨A6,c6,e6⟩:=own6.shape;rw[Cw,Dw]at e6;subst e6;have q6:w6.cell? ⟨g,3,none⟩=some (.slice AO os.length cO):=(by rw[ch6.cell1 (show g<x5.heap.size by omega) (fun h=>(FDQ.out.o g h).2 rfl)];exact q3);have r6:w6.frozen? ⟨g,3,none⟩=false:=(by rw[ch6.frozen1 (show g<x5.heap.size by omega) (fun h=>(FDQ.out.o g h).2 rfl)];exact r3));have CG6:Chg G U w6:=C5.trans (ch6.wide (fun z h=>by rw[HG2.out];exact .inr (FDQ.out.o z h)));refine⟨⟨⟨w6,CG6⟩,rfl⟩,?_⟩
      (refine za6 rfl ?_;(repeat (go_big_quiet_step (fail)));refine Cv ?_)
      refine zbc ?_
      have E6:=Aq (HE5.out.pushO hbw ch6 (own6.wide (F':=fun z=>z=w.heap.size+1\/Z.heap.size<=z) (fun z h=>by
       rcases h with h|h|h
       ·exact h
       ·exact h.elim
       have h3:=h.1;exact .inr (by omega))) FDQ.out)
      have l6:Z.heap.size<=(w6.setCell ⟨g,3,none⟩ (.slice A6 (os.length+1) c6)).heap.size:=by
       have:=ch6.size;simp;omega
      go_wp2_with fail;go_roundw
      case rel=>
       (repeat apply Exists.intro)
       exact⟨⟨u-1,os++[mx],_,by go_num,by omega,Aq (by have:=hol.out;simp;omega),Aq (fun x hx=>by
        rcases Gx.1 hx with hx|hx
        ·exact hof.out x hx
        rw[List.mem_singleton.1 hx];exact hmx2),E6.out.more (by omega),l6⟩,rfl⟩
      case measure=>simp[intOf];omega
     obtain rfl:u=0:=by omega
     have PD:=Aq (zzj (inp:=inp) (outp:=outp) (lin:=lin) (T:=T) (ms:=ms) (os:=os) (by omega) (by omega) hT.out.1 hT2 hT.out.2.2.2 (by omega) (fun q x hx=>by rw[hml2];exact hd3.out q x hx) (by have:=hol.out;omega) (fun f hf=>by rw[hml2];exact hof.out f hf));have lgL:=D.lo;have hne:g≠w.heap.size:=(by omega);have hne':w.heap.size≠g:=(by omega);have z0:=D.p0;have z1:=D.p1;have z2:=D.p2;have z3:=D.p3;have r0:=(D.e 0 (by omega)).1;have r1:=(D.e 1 (by omega)).1;have r2:=(D.e 2 (by omega)).1;have r3:=(D.e 3 (by omega)).1;have v0:=(D.e 0 (by omega)).2;have v1:=(D.e 1 (by omega)).2;have v2:=(D.e 2 (by omega)).2;have v3:=(D.e 3 (by omega)).2;rw[if_pos rfl]at r0;rw[if_neg (by decide)]at r1 r2 r3;have FIN:=Aq ((D.more (K':=K+1500) (by omega)).fin hbw PD.out);clear D hd3 hof;go_wp2;refine Cy (v:=.agg #[.int .i64 inp,.slice AT T.length cT,.slice A2 ns.length c2,.slice AO os.length cO]) (by simp[results,Tryz.results164,go_sem,r0,r1,r2,r3,v0,v1,v2,v3,hne,hne']) rfl ?_;exact FIN.out
end
end Go.Proofs.YtifeldeikhmckaaGreat
