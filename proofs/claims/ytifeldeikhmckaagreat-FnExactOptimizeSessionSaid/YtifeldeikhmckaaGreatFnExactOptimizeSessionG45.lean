import Derived.Test.YtifeldeikhmckaaGreatFnExactOptimizeSessionG44
import Derived.Test.YtifeldeikhmckaaGreatFnExactOptimizeSessionG14
import Derived.Test.YtifeldeikhmckaaGreatFnExactOptimizeSessionG15
import Derived.Test.YtifeldeikhmckaaGreatFnExactOptimizeSessionG8
import Derived.Test.YtifeldeikhmckaaGreatFnExactOptimizeSessionG1
import Derived.Test.YtifeldeikhmckaaGreatFnExactOptimizeSessionG12
import Derived.Test.YtifeldeikhmckaaGreatFnExactOptimizeSessionG9
import Derived.Test.YtifeldeikhmckaaGreatFnExactOptimizeSessionG10
import Derived.Test.YtifeldeikhmckaaGreatFnExactOptimizeSessionG5
set_option linter.unusedVariables false
set_option linter.unusedSimpArgs false
set_option maxRecDepth 100000
set_option maxHeartbeats 4000000
namespace Go.Proofs.YtifeldeikhmckaaGreat
open Go.RowKit Go.Sort
def zwn:List ByteArray:=[⟨#[100,114,117,109,115]⟩,⟨#[98,97,115,115]⟩,⟨#[98,117,115]⟩,⟨#[101,99,104,111]⟩,⟨#[107,101,121,115]⟩,⟨#[99,104,111,105,114]⟩]
def zjx (j:Nat):ByteArray:=(zwn[j]?).getD ⟨#[]⟩
def M.usOk (N j t:Nat) (us:List (Int×Int)):Prop:=zb9 N j us=true/\(∀u∈us,u.1<((j+1+t:Nat):Int))/\(j+1+t=N->us.length≠0)
theorem zwo{m:Int}:∀{us:List (Int×Int)} {last:Int} {p g:Int},zb9 m last us=true->(∀u∈us,u.1<p)->last<p->p<=m-1->M.smp g=true->zb9 m last (us++[(p,g)])=true:=by
 intro us
 induction us with
 | nil=>
  intro last p g _ _ h1 h2 h3;rw[List.nil_append,zb9,zb9,Bool.and_true,Bool.and_eq_true];exact⟨zex.2 ⟨by show last+1<=p;omega,h2⟩,h3⟩
 | cons u us ih=>
  intro last p g h0 hu h1 h2 h3;rw[zb9,Bool.and_eq_true]at h0;rw[List.cons_append,zb9,Bool.and_eq_true];exact⟨h0.1,ih h0.2 (fun v hv=>hu v (by simp[hv])) (hu u (by simp)) h2 h3⟩
theorem M.usOk.zero{N j:Nat}(h:j+1<N):M.usOk N j 0 []:=⟨rfl,fun u hu=>by simp at hu,fun e=>absurd e (by omega)⟩
theorem M.usOk.skip{N j t:Nat}{us:List (Int×Int)}(h:M.usOk N j t us)(h2:j+1+t+1<N\/us.length≠0):M.usOk N j (t+1) us:=
 ⟨h.1,fun u hu=>by have:=h.2.1 u hu;omega,fun e=>by omega⟩
theorem M.usOk.push{N j t:Nat}{us:List (Int×Int)}(h:M.usOk N j t us){TT:Nat}(h1:TT=j+1+t)(h2:TT<N){g:Int}(h3:-2147483648<=g/\g<=2147483647):M.usOk N j (t+1) (us++[((TT:Int),g)]):=by
 refine⟨zwo h.1 (fun u hu=>by have:=h.2.1 u hu;omega) (by omega) (by omega) (zex.2 h3),fun u hu=>?_,fun _=>by simp⟩;rcases List.mem_append.1 hu with hu|hu
 ·have:=h.2.1 u hu;omega
 rw[List.mem_singleton.1 hu];show (TT:Int)<_;omega
def M.drawOk (N:Nat) (ms:List zag):Prop:=∀k x,ms[k]?=some x->k+1<N/\x.1=zjx k/\M.inn x.2.1 0 32=true/\zb6 x.2.2 k N=true
theorem M.drawOk.nil(N:Nat):M.drawOk N []:=fun k x hx=>by simp at hx
theorem M.drawOk.push{N j t:Nat}{ms:List zag}(h:M.drawOk N ms)(hl:ms.length=j)(hj:j+1<N){s:ByteArray}(hs:s=zjx j){l:Int}(hlt:0<=l/\l<=32){us:List (Int×Int)}(hus:M.usOk N j t us)(hu4:us.length<=4)(he:N=j+1+t\/4<=us.length):M.drawOk N (ms++[(s,l,us)]):=by
 intro k x hx;rcases Nat.lt_or_ge k ms.length with h1|h1
 ·rw[List.getElem?_append_left h1]at hx;exact h k x hx
 rw[List.getElem?_append_right h1]at hx;have h2:=(List.getElem?_eq_some_iff.1 hx).1;simp only[List.length_singleton]at h2;obtain rfl:k=j:=by omega
 rw[show k-ms.length=0 by omega]at hx;simp only[List.getElem?_cons_zero,Option.some.injEq]at hx;subst hx;refine⟨hj,hs,zex.2 hlt,?_⟩
 have h0:1<=us.length:=by
  rcases he with he|he
  ·have:=hus.2.2 he.symm;omega
  omega
 show zb6 us k N=true
 rw[zb6,hus.1,if_neg (by omega),Bool.true_and];exact zex.2 (by omega)
theorem zcu(w:Yw)(g:Nat)(v:Value){i j:Nat}(h:i≠j):(w.setCell ⟨g,i,none⟩ v).cell? ⟨g,j,none⟩=w.cell? ⟨g,j,none⟩:=World.cell?_setCell_other w ⟨g,i,none⟩ ⟨g,j,none⟩ v (fun e=>h (Addr.mk.inj e).2.1)
structure DM (w:Yw) (b lo:Nat) (A:Yo) (n c:Nat) (code:List UInt8) (NB K:Nat) (ms:List zag) (v:Value) (wr:Yw):Prop where
 c0:wr.cell? ⟨w.heap.size,0,none⟩=some (.slice none 0 0)
 f0:wr.frozen? ⟨w.heap.size,0,none⟩=false
 c1:wr.cell? ⟨w.heap.size+1,0,none⟩=some v
 f1:wr.frozen? ⟨w.heap.size+1,0,none⟩=false
 nm:Hid (∀j,j<6->wr.cell? ⟨NB,j,none⟩=some (.string (zjx j)))
 own:OS tSt 117 wr (Iv (NB+1) wr.heap.size) v ms
 tiny:Hid (M.tiny 4 ms)
 src:Src wr b lo A n c code K
 mid:Mid b (b+1) w wr
 sz:NB+1<=wr.heap.size
 lo:w.heap.size+2<=NB
theorem DM.step{w wr w':Yw}{b lo:Nat}{A:Yo}{n c:Nat}{code:List UInt8}{NB K K':Nat}{ms:List zag}{v:Value}(h:DM w b lo A n c code NB K ms v wr)(hb:b<w.heap.size)(hs:Src w' b lo A n c code K')(hm:Mid b (b+1) wr w'):DM w b lo A n c code NB K' ms v w':=by
 have hz:=h.sz;have hl:=h.lo
 exact⟨hm.cellK (by omega) (.inr (by omega)) h.c0,hm.frozK (by omega) (.inr (by omega)) h.f0,hm.cellK (by omega) (.inr (by omega)) h.c1,hm.frozK (by omega) (.inr (by omega)) h.f1,
  Lib.hid (fun j hj=>hm.cellK (by omega) (.inr (by omega)) (h.nm.out j hj)),
  (h.own.mid hm (.inr (by omega)) (Nat.le_refl _)).iv (Nat.le_refl _) hm.size,h.tiny,hs,h.mid.trans hm,Nat.le_trans hz hm.size,hl⟩
theorem DM.more{w wr:Yw}{b lo:Nat}{A:Yo}{n c:Nat}{code:List UInt8}{NB K K':Nat}{ms:List zag}{v:Value}(h:DM w b lo A n c code NB K ms v wr)(hK:K<=K'):DM w b lo A n c code NB K' ms v wr:=
 ⟨h.c0,h.f0,h.c1,h.f1,h.nm,h.own,h.tiny,h.src.more hK,h.mid,h.sz,h.lo⟩
theorem DM.push{w wr w4:Yw}{b lo:Nat}{A:Yo}{n c:Nat}{code:List UInt8}{NB K:Nat}{ms:List zag}{v v4:Value}{y:zag}{X:Nat}(h:DM w b lo A n c code NB K ms v wr)(hb:b<w.heap.size)
 (own:OS tSt 117 w4 (fun z=>Iv (NB+1) wr.heap.size z\/Iv X wr.heap.size z\/wr.heap.size<z/\z<w4.heap.size) v4 (ms++[y])) (hX:NB+1<=X) (hc:Chg (Iv (NB+1) wr.heap.size) wr w4) (hy:y.1.size<=6/\y.2.2.length<=4) :
 DM w b lo A n c code NB K (ms++[y]) v4 (w4.setCell ⟨w.heap.size+1,0,none⟩ v4):=by
 have hz:=h.sz;have hl:=h.lo;have hbw:=h.src.lt;have hs4:wr.heap.size<=w4.heap.size:=hc.size;have hn:∀k,k<NB+1->¬Iv (NB+1) wr.heap.size k:=fun k hk hi=>by have h1:NB+1<=k:=hi.1;omega
 have C1:∀(k o:Nat) (u:Option Value),k<NB+1->k≠w.heap.size+1->wr.cell? ⟨k,o,none⟩=u->(w4.setCell ⟨w.heap.size+1,0,none⟩ v4).cell? ⟨k,o,none⟩=u:=fun k o u hk hk2 hu=>by
  rw[World.cell?_of_block (heap_setCell_other w4 ⟨w.heap.size+1,0,none⟩ k v4 hk2),hc.cell1 (show k<_ by omega) (hn k hk)];exact hu
 have v0:w4.cell? ⟨w.heap.size+1,0,none⟩=some v:=by rw[hc.cell1 (show w.heap.size+1<_ by omega) (hn _ (by show w.heap.size+1<_;omega))];exact h.c1
 have CB:Chg (fun b=>b=w.heap.size+1) w4 (w4.setCell ⟨w.heap.size+1,0,none⟩ v4):=Chg.set w4 (w.heap.size+1) 0 _ rfl;have e95:(w4.setCell ⟨w.heap.size+1,0,none⟩ v4).heap.size=w4.heap.size:=by simp
 have CG:Chg (fun z=>Iv (NB+1) wr.heap.size z\/z=w.heap.size+1) wr (w4.setCell ⟨w.heap.size+1,0,none⟩ v4):=(hc.wide (fun _ h=>.inl h)).trans (CB.wide (fun _ h=>.inr h))
 have MB:Below w.heap.size wr (w4.setCell ⟨w.heap.size+1,0,none⟩ v4):=CG.toBelow (fun z h=>by
  rcases h with h|h
  ·have h1:NB+1<=z:=h.1;omega
  omega) (by omega)
 refine⟨C1 _ _ _ (by omega) (by omega) h.c0,?_,World.cell?_setCell_same _ _ _ v0,?_,Lib.hid (fun j hj=>?_),?_,Lib.hid (zwm h.tiny.out hy),h.src.below MB hb,?_,by rw[e95];omega,hl⟩
 ·rw[World.frozen?_setCell,hc.frozen1 (by show w.heap.size<_;omega) (hn _ (by show w.heap.size<_;omega))];exact h.f0
 ·rw[World.frozen?_setCell,hc.frozen1 (by show w.heap.size+1<_;omega) (hn _ (by show w.heap.size+1<_;omega))];exact h.f1
 ·exact C1 _ _ _ (by omega) (by omega) (h.nm.out j hj)
 ·rw[e95];refine(own.chg CB (fun z hz' (h':z=w.heap.size+1)=>?_)).wide (fun z hz'=>?_)
  ·rcases hz' with h1|h1|h1
   ·have h2:NB+1<=z:=h1.1;omega
   ·have h2:X<=z:=h1.1;omega
   omega
  rcases hz' with h1|h1|h1
  ·exact⟨h1.1,by have h2:z<wr.heap.size:=h1.2;omega⟩
  ·exact⟨by have h2:X<=z:=h1.1;omega,by have h2:z<wr.heap.size:=h1.2;omega⟩
  exact⟨by omega,by omega⟩
 exact⟨MB.os.trans h.mid.os,MB.tape.trans h.mid.tape,MB.output.trans h.mid.output,Nat.le_trans h.mid.size MB.size,fun i hi' hm=>(MB.block i (by omega)).trans (h.mid.block i hi' hm)⟩
structure DX (w1:Yw) (b lo:Nat) (A:Yo) (n c:Nat) (code:List UInt8) (K:Nat) (s:ByteArray) (l:Int) (us:List (Int×Int)) (v:Value) (wr:Yw):Prop where
 p0:wr.cell? ⟨w1.heap.size,0,none⟩=some (.string s)
 p1:wr.cell? ⟨w1.heap.size,1,none⟩=some (.int .i64 l)
 p2:wr.cell? ⟨w1.heap.size,2,none⟩=some v
 f1:wr.frozen? ⟨w1.heap.size,1,none⟩=false
 f2:wr.frozen? ⟨w1.heap.size,2,none⟩=false
 own:OS tSd 160 wr (Iv (w1.heap.size+1) wr.heap.size) v us
 src:Src wr b lo A n c code K
 mid:Mid b (b+1) w1 wr
 sz:w1.heap.size+1<=wr.heap.size
theorem DX.step{w1 wr w':Yw}{b lo:Nat}{A:Yo}{n c:Nat}{code:List UInt8}{K K':Nat}{s:ByteArray}{l:Int}{us:List (Int×Int)}{v:Value}(h:DX w1 b lo A n c code K s l us v wr)(hb:b<w1.heap.size)(hs:Src w' b lo A n c code K')(hm:Mid b (b+1) wr w'):DX w1 b lo A n c code K' s l us v w':=by
 have hz:=h.sz
 exact⟨hm.cellK (by omega) (.inr (by omega)) h.p0,hm.cellK (by omega) (.inr (by omega)) h.p1,hm.cellK (by omega) (.inr (by omega)) h.p2,hm.frozK (by omega) (.inr (by omega)) h.f1,hm.frozK (by omega) (.inr (by omega)) h.f2,
  (h.own.mid hm (.inr (by omega)) (Nat.le_refl _)).iv (Nat.le_refl _) hm.size,hs,h.mid.trans hm,Nat.le_trans hz hm.size⟩
theorem DX.more{w1 wr:Yw}{b lo:Nat}{A:Yo}{n c:Nat}{code:List UInt8}{K K':Nat}{s:ByteArray}{l:Int}{us:List (Int×Int)}{v:Value}(h:DX w1 b lo A n c code K s l us v wr)(hK:K<=K'):DX w1 b lo A n c code K' s l us v wr:=
 ⟨h.p0,h.p1,h.p2,h.f1,h.f2,h.own,h.src.more hK,h.mid,h.sz⟩
theorem DX.start{w1:Yw}{b lo:Nat}{A:Yo}{n c:Nat}{code:List UInt8}{K:Nat}(s:ByteArray)(h:Src w1 b lo A n c code K):
 DX w1 b lo A n c code K s 0 [] (.slice none 0 0) (w1.alloc (.cells #[.string s,.int .i64 0,.slice none 0 0] 117)):=by
 have hB:Below w1.heap.size w1 (w1.alloc (.cells #[.string s,.int .i64 0,.slice none 0 0] 117)):=(Below.refl _ _).alloc (Nat.le_refl _) _;exact⟨by simp[go_sem],by simp[go_sem],by simp[go_sem],by simp[go_sem],by simp[go_sem],OS.nil _ _ _ _,h.below hB h.lt,Mid.of_below hB _ _,by simp⟩
theorem DX.push{w1 wr w4:Yw}{b lo:Nat}{A:Yo}{n c:Nat}{code:List UInt8}{K:Nat}{s:ByteArray}{l:Int}{us:List (Int×Int)}{v v4:Value}{y:Int×Int}(h:DX w1 b lo A n c code K s l us v wr)(hb:b<w1.heap.size)
 (own:OS tSd 160 w4 (fun z=>Iv (w1.heap.size+1) wr.heap.size z\/False\/wr.heap.size<z/\z<w4.heap.size) v4 (us++[y])) (hc:Chg (Iv (w1.heap.size+1) wr.heap.size) wr w4) :
 DX w1 b lo A n c code K s l (us++[y]) v4 (w4.setCell ⟨w1.heap.size,2,none⟩ v4):=by
 have hz:=h.sz;have hs4:wr.heap.size<=w4.heap.size:=hc.size;have hn:¬Iv (w1.heap.size+1) wr.heap.size w1.heap.size:=fun hi=>by have h1:w1.heap.size+1<=w1.heap.size:=hi.1;omega
 have q0:∀o u,wr.cell? ⟨w1.heap.size,o,none⟩=u->w4.cell? ⟨w1.heap.size,o,none⟩=u:=fun o u hu=>by rw[hc.cell1 (show w1.heap.size<_ by omega) hn];exact hu
 have CB:Chg (fun b=>b=w1.heap.size) w4 (w4.setCell ⟨w1.heap.size,2,none⟩ v4):=Chg.set w4 w1.heap.size 2 _ rfl;have e95:(w4.setCell ⟨w1.heap.size,2,none⟩ v4).heap.size=w4.heap.size:=by simp
 have CG:Chg (fun z=>Iv (w1.heap.size+1) wr.heap.size z\/z=w1.heap.size) wr (w4.setCell ⟨w1.heap.size,2,none⟩ v4):=(hc.wide (fun _ h=>.inl h)).trans (CB.wide (fun _ h=>.inr h))
 have MB:Below w1.heap.size wr (w4.setCell ⟨w1.heap.size,2,none⟩ v4):=CG.toBelow (fun z h=>by
  rcases h with h|h
  ·have h1:w1.heap.size+1<=z:=h.1;omega
  omega) (by omega)
 refine⟨?_,?_,World.cell?_setCell_same _ _ _ (q0 _ _ h.p2),(World.frozen?_setCell _ _ _ _).trans ((hc.frozen1 (by show w1.heap.size<_;omega) hn).trans h.f1),?_,?_,h.src.below MB hb,h.mid.thenB' MB (Nat.le_refl _),by rw[e95];omega⟩
 ·exact(zcu w4 _ _ (by decide)).trans (q0 _ _ h.p0)
 ·exact(zcu w4 _ _ (by decide)).trans (q0 _ _ h.p1)
 ·rw[World.frozen?_setCell,hc.frozen1 (by show w1.heap.size<_;omega) hn];exact h.f2
 rw[e95];refine(own.chg CB (fun z hz' (h':z=w1.heap.size)=>?_)).wide (fun z hz'=>?_)
 ·rcases hz' with h1|h1|h1
  ·have h2:w1.heap.size+1<=z:=h1.1;omega
  ·exact h1
  omega
 rcases hz' with h1|h1|h1
 ·exact⟨h1.1,by have h2:z<wr.heap.size:=h1.2;omega⟩
 ·exact h1.elim
 exact⟨by omega,by omega⟩
structure M.aD (k t a:Int):Prop where
 c1:k=1->0<=a/\a<=1
 c6:k=6->1<=a/\a<=4
 c10:k=10->0<=a/\a<=31
 c11:k=11->0<=a/\a<=2147483647
 c13:k=13->0<=a/\(a<t\/a=0)
 cs:-2147483648<=a/\a<=2147483647
 c0:zdy k=false->a=0
section
structure DN (w:Yw) (b lo:Nat) (A:Yo) (n c:Nat) (code:List UInt8) (g K:Nat) (k a bb:Int) (v:Value) (xs:List Int) (wr:Yw):Prop where
 e0:wr.cell? ⟨w.heap.size,0,none⟩=some (.int .i64 0)
 e1:wr.cell? ⟨w.heap.size,1,none⟩=some (.int .i64 0)
 e2:wr.cell? ⟨w.heap.size,2,none⟩=some (.int .i64 0)
 e3:wr.cell? ⟨w.heap.size,3,none⟩=some (.slice none 0 0)
 f0:wr.frozen? ⟨w.heap.size,0,none⟩=false
 f1:wr.frozen? ⟨w.heap.size,1,none⟩=false
 f2:wr.frozen? ⟨w.heap.size,2,none⟩=false
 f3:wr.frozen? ⟨w.heap.size,3,none⟩=false
 p0:wr.cell? ⟨g,0,none⟩=some (.int .i64 k)
 p1:wr.cell? ⟨g,1,none⟩=some (.int .i64 a)
 p2:wr.cell? ⟨g,2,none⟩=some (.int .i64 bb)
 p3:wr.cell? ⟨g,3,none⟩=some v
 q2:wr.frozen? ⟨g,2,none⟩=false
 q3:wr.frozen? ⟨g,3,none⟩=false
 own:OS tI 2 wr (fun z=>w.heap.size<z/\z≠g) v xs
 src:Src wr b lo A n c code K
 mid:Mid b (b+1) w wr
 sz:g<wr.heap.size
 lo:w.heap.size<g
structure M.nD (k t below:Int) (x:Node):Prop where
 kd:x.1=k
 ad:M.aD k t x.2.1
 b17:k=17->1<=x.2.2.1/\x.2.2.1<=3
 b0:k≠17->x.2.2.1=0
 len:(x.2.2.2.length:Int)=M.ar k.toNat
 fr:∀f∈x.2.2.2,0<=f/\(f<below\/f=0)
def zwp (b lo:Nat) (A:Yo) (n c:Nat) (code:List UInt8) (K:Nat) (P:Node->Prop) (w:Yw) (e:Ending) (w':Yw):Prop:=
 ∃k a bb A1 n1 c1 xs,e=.returned (.agg #[.int .i64 k,.int .i64 a,.int .i64 bb,.slice A1 n1 c1])/\OS tI 2 w' (Iv w.heap.size w'.heap.size) (.slice A1 n1 c1) xs/\Hid (P (k,a,bb,xs))/\Src w' b lo A n c code K/\Mid b (b+1) w w'
section
variable {w wr w':Yw} {b lo:Nat} {A :Yo} {n c:Nat} {code:List UInt8} {g K K':Nat} {k a bb:Int} {v:Value} {xs:List Int}
theorem DN.step(h:DN w b lo A n c code g K k a bb v xs wr)(hb:b<w.heap.size)(hs:Src w' b lo A n c code K')(hm:Mid b (b+1) wr w'):DN w b lo A n c code g K' k a bb v xs w':=by
 have hz:=h.sz;have hl:=h.lo;have cK:∀{z o u},z<wr.heap.size->b<z->wr.cell? ⟨z,o,none⟩=u->w'.cell? ⟨z,o,none⟩=u:=fun h1 h2 h3=>hm.cellK h1 (.inr h2) h3
 have fK:∀{z o u},z<wr.heap.size->b<z->wr.frozen? ⟨z,o,none⟩=u->w'.frozen? ⟨z,o,none⟩=u:=fun h1 h2 h3=>hm.frozK h1 (.inr h2) h3
 have h1:w.heap.size<wr.heap.size:=by omega
 have h2:b<g:=by omega
 exact⟨cK h1 hb h.e0,cK h1 hb h.e1,cK h1 hb h.e2,cK h1 hb h.e3,fK h1 hb h.f0,fK h1 hb h.f1,fK h1 hb h.f2,fK h1 hb h.f3,
  cK hz h2 h.p0,cK hz h2 h.p1,cK hz h2 h.p2,cK hz h2 h.p3,fK hz h2 h.q2,fK hz h2 h.q3,
  h.own.chg (Chg.of_mid hm) (fun z h1 h2=>by have:=h1.1;omega),hs,h.mid.trans hm,Nat.lt_of_lt_of_le hz hm.size,hl⟩
theorem DN.more(h:DN w b lo A n c code g K k a bb v xs wr)(hK:K<=K'):DN w b lo A n c code g K' k a bb v xs wr:=
 ⟨h.e0,h.e1,h.e2,h.e3,h.f0,h.f1,h.f2,h.f3,h.p0,h.p1,h.p2,h.p3,h.q2,h.q3,h.own,h.src.more hK,h.mid,h.sz,h.lo⟩
theorem DN.push{w4:Yw}{v4:Value}{x:Int}(h:DN w b lo A n c code g K k a bb v xs wr)(hb:b<w.heap.size)
 (own:OS tI 2 w4 (fun z=>(w.heap.size<z/\z≠g)\/False\/wr.heap.size<z/\z<w4.heap.size) v4 (xs++[x])) (hc:Chg (fun z=>w.heap.size<z/\z≠g) wr w4) :
 DN w b lo A n c code g K k a bb v4 (xs++[x]) (w4.setCell ⟨g,3,none⟩ v4):=by
 have hz:=h.sz;have hl:=h.lo;have hs4:wr.heap.size<=w4.heap.size:=hc.size
 have cW:∀o u,wr.cell? ⟨w.heap.size,o,none⟩=u->(w4.setCell ⟨g,3,none⟩ v4).cell? ⟨w.heap.size,o,none⟩=u:=fun o u hu=>by
  rw[World.cell?_of_block (heap_setCell_other w4 ⟨g,3,none⟩ w.heap.size v4 (by show w.heap.size≠g;omega)),hc.cell1 (show w.heap.size<_ by omega) (fun h=>absurd (show w.heap.size<w.heap.size from h.1) (by omega))];exact hu
 have fW:∀o u,wr.frozen? ⟨w.heap.size,o,none⟩=u->(w4.setCell ⟨g,3,none⟩ v4).frozen? ⟨w.heap.size,o,none⟩=u:=fun o u hu=>by
  rw[World.frozen?_setCell,hc.frozen1 (show w.heap.size<_ by omega) (fun h=>absurd (show w.heap.size<w.heap.size from h.1) (by omega))];exact hu
 have cG:∀o u,wr.cell? ⟨g,o,none⟩=u->w4.cell? ⟨g,o,none⟩=u:=fun o u hu=>by rw[hc.cell1 hz (fun h=>h.2 rfl)];exact hu
 have fG:∀o u,wr.frozen? ⟨g,o,none⟩=u->(w4.setCell ⟨g,3,none⟩ v4).frozen? ⟨g,o,none⟩=u:=fun o u hu=>by
  rw[World.frozen?_setCell,hc.frozen1 hz (fun h=>h.2 rfl)];exact hu
 have CB:Chg (fun z=>z=g) w4 (w4.setCell ⟨g,3,none⟩ v4):=Chg.set w4 g 3 _ rfl;have MB:Below w.heap.size wr (w4.setCell ⟨g,3,none⟩ v4):=((hc.wide (F':=fun z=>w.heap.size<z) (fun _ h=>h.1)).trans (CB.wide (fun z (h:z=g)=>by omega))).toBelow (fun z h=>by omega) (by omega);have e95:(w4.setCell ⟨g,3,none⟩ v4).heap.size=w4.heap.size:=by simp
 refine⟨cW _ _ h.e0,cW _ _ h.e1,cW _ _ h.e2,cW _ _ h.e3,fW _ _ h.f0,fW _ _ h.f1,fW _ _ h.f2,fW _ _ h.f3,
  (zcu w4 g _ (by decide)).trans (cG _ _ h.p0),(zcu w4 g _ (by decide)).trans (cG _ _ h.p1),(zcu w4 g _ (by decide)).trans (cG _ _ h.p2),World.cell?_setCell_same _ _ _ (cG _ _ h.p3),fG _ _ h.q2,fG _ _ h.q3,?_,
  h.src.below MB hb,h.mid.thenB' MB (Nat.le_refl _),by rw[e95];omega,hl⟩
 refine(own.chg CB (fun z h1 (h2:z=g)=>?_)).wide (fun z h1=>?_)
 ·rcases h1 with h1|h1|h1
  ·exact h1.2 h2
  ·exact h1
  omega
 rcases h1 with h1|h1|h1
 ·exact h1
 ·exact h1.elim
 exact⟨by omega,by omega⟩
theorem DN.fin{A1:Yo}{n1 c1:Nat}(h:DN w b lo A n c code g K k a bb (.slice A1 n1 c1) xs wr)(hb:b<w.heap.size){P:Node->Prop}(hP:P (k,a,bb,xs)):
 zwp b lo A n c code K P w (.returned (.agg #[.int .i64 k,.int .i64 a,.int .i64 bb,.slice A1 n1 c1])) ((((wr.setCell ⟨w.heap.size,0,none⟩ (.int .i64 k)).setCell ⟨w.heap.size,1,none⟩ (.int .i64 a)).setCell ⟨w.heap.size,2,none⟩ (.int .i64 bb)).setCell ⟨w.heap.size,3,none⟩ (.slice A1 n1 c1)):=by
 have hz:=h.sz;have hl:=h.lo;have st:∀(u:Yw) (o:Nat) (x:Value),Chg (fun z=>z=w.heap.size) u (u.setCell ⟨w.heap.size,o,none⟩ x):=fun u o x=>Chg.set u w.heap.size o _ rfl
 have CH:=(((st wr 0 (.int .i64 k)).trans (st _ 1 (.int .i64 a))).trans (st _ 2 (.int .i64 bb))).trans (st _ 3 (.slice A1 n1 c1));have MB:=CH.toBelow (B:=w.heap.size) (fun z h=>by omega) (by omega);have hs:=CH.size;exact⟨k,a,bb,A1,n1,c1,xs,rfl,((h.own.real.chg CH (fun z h1 h2=>by have:=h1.1.1;omega)).wide (fun z h1=>⟨Nat.le_of_lt h1.1.1,Nat.lt_of_lt_of_le h1.2 hs⟩)),Lib.hid hP,h.src.below MB hb,h.mid.thenB' MB (Nat.le_refl _)⟩
end
end
section
namespace M
end M
end
section
structure FD (w0 g:Nat) (FT FN FO:Nat->Prop):Prop where
 t:∀z,FT z->w0<z/\z≠g
 n:∀z,FN z->w0<z/\z≠g
 o:∀z,FO z->w0<z/\z≠g
 tn:∀z,FT z->¬FN z
 tq:∀z,FT z->¬FO z
 nq:∀z,FN z->¬FO z
structure DP (w:Yw) (b lo:Nat) (A:Yo) (n c:Nat) (code:List UInt8) (g K:Nat) (i:Int) (vT vN vO:Value) (T:List (List Int)) (ns:List Node) (os:List Int) (FT FN FO:Nat->Prop) (wr:Yw):Prop where
 e:∀j,j<4->wr.cell? ⟨w.heap.size,j,none⟩=some (if j=0 then .int .i64 0 else .slice none 0 0)/\wr.frozen? ⟨w.heap.size,j,none⟩=false
 p0:wr.cell? ⟨g,0,none⟩=some (.int .i64 i)
 p1:wr.cell? ⟨g,1,none⟩=some vT
 p2:wr.cell? ⟨g,2,none⟩=some vN
 p3:wr.cell? ⟨g,3,none⟩=some vO
 q:∀j,j<4->wr.frozen? ⟨g,j,none⟩=false
 oT:OS tS 24 wr FT vT T
 oN:OS tN 169 wr FN vN ns
 oO:OS tI 2 wr FO vO os
 fd:FD w.heap.size g FT FN FO
 src:Src wr b lo A n c code K
 mid:Mid b (b+1) w wr
 sz:g<wr.heap.size
 lo:w.heap.size<g
section
variable {w wr w' w4:Yw} {b lo:Nat} {A :Yo} {n c:Nat} {code:List UInt8} {g K K':Nat} {i:Int} {vT vN vO vT' vN' vO':Value} {T T':List (List Int)} {ns ns':List Node} {os os':List Int} {FT FN FO FT' FN' FO':Nat->Prop}
theorem DP.step(h:DP w b lo A n c code g K i vT vN vO T ns os FT FN FO wr)(hb:b<w.heap.size)(hs:Src w' b lo A n c code K')(hm:Mid b (b+1) wr w'):DP w b lo A n c code g K' i vT vN vO T ns os FT FN FO w':=by
 have hz:=h.sz;have hl:=h.lo;have h1:w.heap.size<wr.heap.size:=by omega
 have h2:b<g:=by omega
 have cG:∀{o u},wr.cell? ⟨g,o,none⟩=u->w'.cell? ⟨g,o,none⟩=u:=fun h3=>hm.cellK hz (.inr h2) h3
 exact⟨fun j hj=>⟨hm.cellK h1 (.inr hb) (h.e j hj).1,hm.frozK h1 (.inr hb) (h.e j hj).2⟩,cG h.p0,cG h.p1,cG h.p2,cG h.p3,fun j hj=>hm.frozK hz (.inr h2) (h.q j hj),
  h.oT.chg (Chg.of_mid hm) (fun z h1 h2=>by have:=(h.fd.t z h1).1;omega),h.oN.chg (Chg.of_mid hm) (fun z h1 h2=>by have:=(h.fd.n z h1).1;omega),h.oO.chg (Chg.of_mid hm) (fun z h1 h2=>by have:=(h.fd.o z h1).1;omega),
  h.fd,hs,h.mid.trans hm,Nat.lt_of_lt_of_le hz hm.size,hl⟩
theorem DP.more(h:DP w b lo A n c code g K i vT vN vO T ns os FT FN FO wr)(hK:K<=K'):DP w b lo A n c code g K' i vT vN vO T ns os FT FN FO wr:=
 ⟨h.e,h.p0,h.p1,h.p2,h.p3,h.q,h.oT,h.oN,h.oO,h.fd,h.src.more hK,h.mid,h.sz,h.lo⟩
theorem DP.turn(h:DP w b lo A n c code g K i vT vN vO T ns os FT FN FO wr)(hb:b<w.heap.size){F:Nat->Prop}(hF:∀z,F z->w.heap.size<z/\z≠g)(hc:Chg F wr w4):
 (∀j,j<4->w4.cell? ⟨w.heap.size,j,none⟩=some (if j=0 then .int .i64 0 else .slice none 0 0)/\w4.frozen? ⟨w.heap.size,j,none⟩=false)/\(∀o u,wr.cell? ⟨g,o,none⟩=u->w4.cell? ⟨g,o,none⟩=u)/\(∀j,j<4->w4.frozen? ⟨g,j,none⟩=false)/\Src w4 b lo A n c code K/\Mid b (b+1) w w4/\g<w4.heap.size:=by
 have hz:=h.sz;have hl:=h.lo;have hs4:wr.heap.size<=w4.heap.size:=hc.size;have MB:Below w.heap.size wr w4:=hc.toBelow (fun z h=>by have:=hF z h;omega) (by omega);refine⟨fun j hj=>⟨?_,?_⟩,fun o u hu=>?_,fun j hj=>?_,h.src.below MB hb,h.mid.thenB' MB (Nat.le_refl _),by omega⟩
 ·rw[hc.cell1 (show w.heap.size<_ by omega) (fun h=>absurd (show w.heap.size<w.heap.size from(hF _ h).1) (by omega))];exact(h.e j hj).1
 ·rw[hc.frozen1 (show w.heap.size<_ by omega) (fun h=>absurd (show w.heap.size<w.heap.size from(hF _ h).1) (by omega))];exact(h.e j hj).2
 ·rw[hc.cell1 hz (fun h=>(hF _ h).2 rfl)];exact hu
 rw[hc.frozen1 hz (fun h=>(hF _ h).2 rfl)];exact h.q j hj
end
def zwq (b lo:Nat) (A:Yo) (n c:Nat) (code:List UInt8) (K:Nat) (P:zad->Prop) (w:Yw) (e:Ending) (w':Yw):Prop:=
 ∃i A1 n1 c1 A2 n2 c2 A3 n3 c3 x,e=.returned (.agg #[.int .i64 i,.slice A1 n1 c1,.slice A2 n2 c2,.slice A3 n3 c3])/\tP.O w' (Iv w.heap.size w'.heap.size) [.int .i64 i,.slice A1 n1 c1,.slice A2 n2 c2,.slice A3 n3 c3] x/\Hid (P x)/\Src w' b lo A n c code K/\Mid b (b+1) w w'
theorem DP.fin{w wr:Yw}{b lo:Nat}{A:Yo}{n c:Nat}{code:List UInt8}{g K:Nat}{i:Int}{A1 A2 A3:Yo}{n1 c1 n2 c2 n3 c3:Nat}{T:List (List Int)}{ns:List Node}{os:List Int}{FT FN FO:Nat->Prop}
 (h:DP w b lo A n c code g K i (.slice A1 n1 c1) (.slice A2 n2 c2) (.slice A3 n3 c3) T ns os FT FN FO wr) (hb:b<w.heap.size) {P:zad->Prop} (hP:P (i,T,ns,os)) :
 zwq b lo A n c code K P w (.returned (.agg #[.int .i64 i,.slice A1 n1 c1,.slice A2 n2 c2,.slice A3 n3 c3])) ((((wr.setCell ⟨w.heap.size,0,none⟩ (.int .i64 i)).setCell ⟨w.heap.size,1,none⟩ (.slice A1 n1 c1)).setCell ⟨w.heap.size,2,none⟩ (.slice A2 n2 c2)).setCell ⟨w.heap.size,3,none⟩ (.slice A3 n3 c3)):=by
 have hz:=h.sz;have hl:=h.lo;have st:∀(u:Yw) (o:Nat) (x:Value),Chg (fun z=>z=w.heap.size) u (u.setCell ⟨w.heap.size,o,none⟩ x):=fun u o x=>Chg.set u w.heap.size o _ rfl
 have CH:=(((st wr 0 (.int .i64 i)).trans (st _ 1 (.slice A1 n1 c1))).trans (st _ 2 (.slice A2 n2 c2))).trans (st _ 3 (.slice A3 n3 c3));have MB:=CH.toBelow (B:=w.heap.size) (fun z h=>by omega) (by omega);have hs:=CH.size;refine⟨i,A1,n1,c1,A2,n2,c2,A3,n3,c3,(i,T,ns,os),rfl,?_,Lib.hid hP,h.src.below MB hb,h.mid.thenB' MB (Nat.le_refl _)⟩;have wd:∀{F:Nat->Prop},(∀z,F z->w.heap.size<z/\z≠g)->∀z,(F z/\z<wr.heap.size)->w.heap.size<=z/\z<_:=fun hF z h1=>⟨Nat.le_of_lt (hF z h1.1).1,Nat.lt_of_lt_of_le h1.2 hs⟩
 exact tP_O.2 ⟨A1,n1,c1,A2,n2,c2,A3,n3,c3,_,_,_,rfl,sl_O.2 (h.oT.real.chg CH (fun z h1 h2=>by have:=(h.fd.t z h1.1).1;omega)),sl_O.2 (h.oN.real.chg CH (fun z h1 h2=>by have:=(h.fd.n z h1.1).1;omega)),sl_O.2 (h.oO.real.chg CH (fun z h1 h2=>by have:=(h.fd.o z h1.1).1;omega)),
  wd h.fd.t,wd h.fd.n,wd h.fd.o,fun z a b=>h.fd.tn z a.1 b.1,fun z a b=>h.fd.tq z a.1 b.1,fun z a b=>h.fd.nq z a.1 b.1⟩
end
section
open Go.RowKit Go.Lib
end
def zxn (a:Int) (p:Clip):Bool:=decide (a<p.2.2.2.1)
def zol (xs:List Clip):Prop:=∀(i j:Nat) (y z:Clip),i<=j->xs[i]?=some y->xs[j]?=some z->y.2.2.2.1<=z.2.2.2.1
theorem zwr{xs:List Clip}(h:za4 xs=true){k:Nat}{y z:Clip}(hy:xs[k]?=some y)(hz:xs[k+1]?=some z):y.2.2.2.1<=z.2.2.2.1:=by
 rw[za4,Bool.and_eq_true,List.all_eq_true]at h;have h1:=h.1 (k+1) (List.mem_range.2 (List.getElem?_eq_some_iff.1 hz).1);rw[zcf,Bool.and_eq_true]at h1;have h2:=h1.2;rw[zem,hz,Nat.add_sub_cancel,hy]at h2;simpa using h2
theorem zws{xs:List Clip}(h:za4 xs=true):zol xs:=by
 intro i j
 induction j with
 | zero=>
  intro y z hij hy hz;obtain rfl:i=0:=by omega
  rw[hy]at hz;injection hz with hz
  subst hz;exact Int.le_refl _
 | succ j ih=>
  intro y z hij hy hz;rcases Nat.lt_or_ge i (j+1)with hlt|hge
  ·have hj:j<xs.length:=(by have:=(List.getElem?_eq_some_iff.1 hz).1;omega);exact Int.le_trans (ih y _ (by omega) hy (List.getElem?_eq_getElem hj)) (zwr h (List.getElem?_eq_getElem hj) hz)
  obtain rfl:i=j+1:=by omega
  rw[hy]at hz;injection hz with hz
  subst hz;exact Int.le_refl _
abbrev zjy (y z:Clip):Prop:=y.2.2.2.1<=z.2.2.2.1
theorem zwt(xs:List Clip):zol xs↔xs.Pairwise zjy:=by
 rw[List.pairwise_iff_getElem];constructor
 ·intro h i j hi hj hij;exact h i j _ _ (by omega) (List.getElem?_eq_getElem hi) (List.getElem?_eq_getElem hj)
 intro h i j y z hij hy hz;obtain⟨hi,rfl⟩:=List.getElem?_eq_some_iff.1 hy;obtain⟨hj,rfl⟩:=List.getElem?_eq_some_iff.1 hz;rcases Nat.lt_or_ge i j with hlt|hge
 ·exact h i j hi hj hlt
 obtain rfl:i=j:=by omega
 exact Int.le_refl _
theorem zwu(xs:List Clip):za4 xs=true↔(∀c∈xs,zcc c=true)/\xs.Pairwise zjy/\xs.length<=12:=by
 constructor
 ·intro h;refine⟨fun c hc=>?_,(zwt xs).1 (zws h),zph h⟩;obtain⟨i,hi,rfl⟩:=List.getElem_of_mem hc;exact zkg h (List.getElem?_eq_getElem hi)
 rintro⟨h1,h2,h3⟩;rw[za4,Bool.and_eq_true,decide_eq_true_iff,List.all_eq_true];refine⟨fun k hk=>?_,h3⟩;have hk:=List.mem_range.1 hk;rw[zcf,Bool.and_eq_true,List.getElem?_eq_getElem hk];refine⟨h1 _ (List.getElem_mem hk),?_⟩;rw[zem,Bool.or_eq_true]
 by_cases h0:k=0
 ·left;simp[h0]
 right
 rw[List.getElem?_eq_getElem hk,List.getElem?_eq_getElem (by omega)];have:=List.pairwise_iff_getElem.1 h2 (k-1) k (by omega) hk (by omega);simpa using this
structure DT (w:Yw) (b lo:Nat) (A:Yo) (n c:Nat) (code:List UInt8) (K:Nat) (xs:List Clip) (A1:Yo) (c1:Nat) (wr:Yw):Prop where
 c0:wr.cell? ⟨w.heap.size,0,none⟩=some (.slice none 0 0)
 f0:wr.frozen? ⟨w.heap.size,0,none⟩=false
 own:OA cl 165 5 (w.heap.size+1) wr.heap.size wr (.slice A1 xs.length c1) xs
 src:Src wr b lo A n c code K
 mid:Mid b (b+1) w wr
 sz:w.heap.size+1<=wr.heap.size
theorem DT.step{w wr w':Yw}{b lo:Nat}{A A1:Yo}{n c c1:Nat}{code:List UInt8}{K K':Nat}{xs:List Clip}(h:DT w b lo A n c code K xs A1 c1 wr)(hb:b<w.heap.size)(hs:Src w' b lo A n c code K')(hm:Mid b (b+1) wr w'):DT w b lo A n c code K' xs A1 c1 w':=
 have hz:=h.sz
 ⟨hm.cellK (by omega) (.inr (by omega)) h.c0,hm.frozK (by omega) (.inr (by omega)) h.f0,
  (h.own.mid hm (.inr (by omega)) (Nat.le_refl _)).wide (Nat.le_refl _) hm.size,hs,h.mid.trans hm,Nat.le_trans hz hm.size⟩
theorem DT.more{w wr:Yw}{b lo:Nat}{A A1:Yo}{n c c1:Nat}{code:List UInt8}{K K':Nat}{xs:List Clip}(h:DT w b lo A n c code K xs A1 c1 wr)(hK:K<=K'):DT w b lo A n c code K' xs A1 c1 wr:=
 ⟨h.c0,h.f0,h.own,h.src.more hK,h.mid,h.sz⟩
def zjz (m:Nat) (xs:List Clip):Prop:=(∀c∈xs,zcc c=true/\0<=c.1/\c.1<m)/\xs.Pairwise zjy
theorem zwv{m:Nat}{xs:List Clip}(h:zjz m xs)(hl:xs.length<=12):za4 xs=true:=(zwu xs).2 ⟨fun c hc=>(h.1 c hc).1,h.2,hl⟩
theorem zww{m:Nat}{xs:List Clip}(h:zjz m xs):zbp xs m=true:=by
 rw[zbp,List.all_eq_true];intro c hc;have:=(h.1 c hc).2;simp;omega
section
structure DK (w:Yw) (b lo:Nat) (A:Yo) (n c:Nat) (code:List UInt8) (K:Nat) (xs:List Clip) (A1:Yo) (c1:Nat) (wr:Yw):Prop where
 e0:wr.cell? ⟨w.heap.size,0,none⟩=some (.slice none 0 0)
 g0:wr.frozen? ⟨w.heap.size,0,none⟩=false
 e1:wr.cell? ⟨w.heap.size+1,0,none⟩=some (.slice A1 xs.length c1)
 g1:wr.frozen? ⟨w.heap.size+1,0,none⟩=false
 own:OA cl 165 5 (w.heap.size+2) wr.heap.size wr (.slice A1 xs.length c1) xs
 src:Src wr b lo A n c code K
 mid:Mid b (b+1) w wr
 sz:w.heap.size+2<=wr.heap.size
section
variable {w wr w':Yw} {b lo:Nat} {A A1 :Yo} {n c c1:Nat} {code:List UInt8} {K K':Nat} {xs:List Clip}
theorem DK.step(h:DK w b lo A n c code K xs A1 c1 wr)(hb:b<w.heap.size)(hs:Src w' b lo A n c code K')(hm:Mid b (b+1) wr w'):DK w b lo A n c code K' xs A1 c1 w':=
 have hz:=h.sz
 ⟨hm.cellK (by omega) (.inr (by omega)) h.e0,hm.frozK (by omega) (.inr (by omega)) h.g0,hm.cellK (by omega) (.inr (by omega)) h.e1,hm.frozK (by omega) (.inr (by omega)) h.g1,
  (h.own.mid hm (.inr (by omega)) (Nat.le_refl _)).wide (Nat.le_refl _) hm.size,hs,h.mid.trans hm,Nat.le_trans hz hm.size⟩
theorem DK.more(h:DK w b lo A n c code K xs A1 c1 wr)(hK:K<=K'):DK w b lo A n c code K' xs A1 c1 wr:=
 ⟨h.e0,h.g0,h.e1,h.g1,h.own,h.src.more hK,h.mid,h.sz⟩
theorem DK.below{B:Nat}(h:DK w b lo A n c code K xs A1 c1 wr)(hb:b<w.heap.size)(hB:Below B wr w')(hw:wr.heap.size<=B):DK w b lo A n c code K xs A1 c1 w':=
 have hB':=hB.mono hw
 h.step hb (h.src.below hB' h.src.lt) (Mid.of_below hB' _ _)
end
structure CB (g:Nat) (p0 p1 p2 p3 p4:Int) (w:Yw):Prop where
 c0:w.cell? ⟨g,0,none⟩=some (.int .i64 p0)
 c1:w.cell? ⟨g,1,none⟩=some (.int .i64 p1)
 c2:w.cell? ⟨g,2,none⟩=some (.int .i64 p2)
 c3:w.cell? ⟨g,3,none⟩=some (.int .i64 p3)
 c4:w.cell? ⟨g,4,none⟩=some (.int .i64 p4)
 f1:w.frozen? ⟨g,1,none⟩=false
 f2:w.frozen? ⟨g,2,none⟩=false
 f3:w.frozen? ⟨g,3,none⟩=false
 f4:w.frozen? ⟨g,4,none⟩=false
 lt:g<w.heap.size
theorem CB.new(w:Yw)(p0:Int):CB w.heap.size p0 0 0 0 0 (w.alloc (.cells #[.int .i64 p0,.int .i64 0,.int .i64 0,.int .i64 0,.int .i64 0] 165)):=
 ⟨by simp[go_sem],by simp[go_sem],by simp[go_sem],by simp[go_sem],by simp[go_sem],by simp[go_sem],by simp[go_sem],by simp[go_sem],by simp[go_sem],by simp⟩
section
variable {g b:Nat} {p0 p1 p2 p3 p4:Int} {w w':Yw}
theorem CB.mid(h:CB g p0 p1 p2 p3 p4 w)(hm:Mid b (b+1) w w')(hg:g≠b):CB g p0 p1 p2 p3 p4 w':=
 have hl:=h.lt
 ⟨hm.cellK hl (by omega) h.c0,hm.cellK hl (by omega) h.c1,hm.cellK hl (by omega) h.c2,hm.cellK hl (by omega) h.c3,hm.cellK hl (by omega) h.c4,hm.frozK hl (by omega) h.f1,hm.frozK hl (by omega) h.f2,hm.frozK hl (by omega) h.f3,hm.frozK hl (by omega) h.f4,Nat.lt_of_lt_of_le hl hm.size⟩
end
end
end Go.Proofs.YtifeldeikhmckaaGreat
