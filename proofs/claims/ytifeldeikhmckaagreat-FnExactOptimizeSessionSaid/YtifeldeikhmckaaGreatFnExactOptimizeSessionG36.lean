import Derived.Test.YtifeldeikhmckaaGreatFnExactOptimizeSessionG22
import Derived.Test.YtifeldeikhmckaaGreatFnExactOptimizeSessionG24
import Derived.Test.YtifeldeikhmckaaGreatFnExactOptimizeSessionG31
import Derived.Test.YtifeldeikhmckaaGreatFnExactOptimizeSessionG18
import Derived.Test.YtifeldeikhmckaaGreatFnExactOptimizeSessionG15
import Derived.Test.YtifeldeikhmckaaGreatFnExactOptimizeSessionG20
import Derived.Test.YtifeldeikhmckaaGreatFnExactOptimizeSessionG19
import Derived.Test.YtifeldeikhmckaaGreatFnExactOptimizeSessionG23
set_option linter.unusedVariables false
set_option linter.unusedSimpArgs false
set_option maxRecDepth 100000
set_option maxHeartbeats 4000000
namespace Go.Proofs.YtifeldeikhmckaaGreat
open Go.RowKit Go.Sort
section
section
variable {F F':Nat->Prop} {w w':Yw} {A :Yo} {n g k c:Nat} {xs:List Int} {e:TypeId} {base:Nat} {v:Value} {cs:List (List Int)}
def RN (F:Nat->Prop) (w:Yw) (A:Yo) (n:Nat) (xs:List Int):Prop:=RI w w.heap.size A n xs/\∀ad,0<n->A=some ad->¬F ad.block
theorem RN.chg(h:RN F w A n xs)(hc:Chg F w w'):RN F w' A n xs:=by
 refine⟨⟨h.1.1,fun hn=>?_⟩,h.2⟩;obtain⟨ad,e,hb,hk⟩:=h.1.2 hn;refine⟨ad,e,Nat.lt_of_lt_of_le hb hc.size,fun j u hu=>?_⟩;have h2:=h.2 ad hn e;rw[World.cell?_of_block (hc.block (ad.add j).block (by rw[ze4];exact hb) (by rw[ze4];exact h2))];exact hk j u hu
theorem RN.sub(h:RN F w A n xs)(hf:∀k,F' k->F k):RN F' w A n xs:=⟨h.1,fun ad hn e hF=>h.2 ad hn e (hf _ hF)⟩
theorem RN.below(h:RN F w A n xs)(hb:Below w.heap.size w w'):RN F w' A n xs:=h.chg (Chg.of_below hb F)
theorem RN.of_ri{B:Nat}(h:RI w B A n xs)(hB:B<=w.heap.size)(hF:∀k,F k->B<=k):RN F w A n xs:=by
 refine⟨h.more hB,fun ad hn e hf=>?_⟩;obtain⟨ad',e',hb,_⟩:=h.2 hn;rw[e]at e';injection e' with e'
 subst e';have:=hF _ hf;omega
theorem RN.of_oi{B:Nat}(h:OI e B w (.slice A n c) xs)(hF:∀k,F k->k<B):RN F w A n xs:=by
 have hl:xs.length=n:=by
  rcases h.2 with⟨h0,h1⟩|⟨g,cap,cur,h0,_⟩
  ·simp only[Value.slice.injEq]at h0;rw[h0.2.1];exact h1
  simp only[Value.slice.injEq]at h0;exact h0.2.1.symm
 subst hl;refine⟨h.ri,fun ad hn e hf=>?_⟩;obtain⟨g,hA,hB,hg⟩:=h.form' hn;rw[e]at hA;injection hA with hA
 subst hA;have:=hF _ hf;simp only at this;omega
theorem RN.at(h:RN F w A n xs){k:Nat}(hk:k<n):∃b o x,A=some ⟨b,o,none⟩/\b<w.heap.size/\¬F b/\xs[k]?=some x/\w.cell? ⟨b,o+k,none⟩=some (.int .i64 x):=by
 obtain⟨b,o,rfl,hb,hc⟩:=zak h.1 (by omega);have hl:k<xs.length:=by rw[h.1.len];exact hk
 exact⟨b,o,xs[k],rfl,hb,h.2 _ (by omega) rfl,List.getElem?_eq_getElem hl,hc k _ (List.getElem?_eq_getElem hl)⟩
theorem OI.chg{B:Nat}(h:OI e B w v xs)(hc:Chg F w w')(hn:∀k,v.ownBlock=some k->¬F k):OI e B w' v xs:=by
 refine⟨h.1,?_⟩;rcases h.2 with h2|⟨g,cap,cur,rfl,hb,hg,rest⟩
 ·exact .inl h2
 exact .inr ⟨g,cap,cur,rfl,hb,by rw[hc.block g (Array.getElem?_eq_some_iff.1 hg).1 (hn g rfl)];exact hg,rest⟩
def CR (F:Nat->Prop) (e:TypeId) (base:Nat) (w:Yw) (v:Value) (cs:List (List Int)):Prop:=
 ∃us:List Value,w.ownsRow base e 1 v cs.length us/\∀(k:Nat) (x:List Int),cs[k]?=some x->∃A c,us[k]?=some (Value.slice A x.length c)/\x.length<=c/\RN F w A x.length x
theorem CR.form(h:CR F e base w v cs)(hn:0<cs.length):∃g cap,v=.slice (some ⟨g,0,none⟩) cs.length cap/\base<=g/\g<w.heap.size:=by
 obtain⟨us,h1,_⟩:=h;exact World.ownsRow.form h1 hn
theorem CR.lenV{A:Yo}(h:CR F e base w (.slice A n c) cs):n=cs.length:=by
 obtain⟨us,h1,_⟩:=h;rcases h1.2 with⟨h0,h2⟩|⟨g',cap,cur,h0,_⟩
 ·simp only[Value.slice.injEq]at h0;rw[h0.2.1,h2]
 simp only[Value.slice.injEq]at h0;exact h0.2.1
theorem CR.at(h:CR F e base w (.slice (some ⟨g,0,none⟩) n c) cs){k:Nat}(hk:k<n):∃A' c' x,cs[k]?=some x/\x.length<=c'/\RN F w A' x.length x/\w.cell? ⟨g,k,none⟩=some (.slice A' x.length c')/\w.frozen? ⟨g,k,none⟩=false:=by
 have hn:=h.lenV;subst hn;obtain⟨us,h1,h2⟩:=h;obtain⟨A',c',hu,hle,hr⟩:=h2 k _ (List.getElem?_eq_getElem hk);exact⟨A',c',_,List.getElem?_eq_getElem hk,hle,hr,by rw[World.ownsRow.cellAt h1 k (by omega)];exact hu,World.ownsRow.frozenAt h1 k⟩
theorem CR.set(h:CR F e base w (.slice (some ⟨g,0,none⟩) n c) cs)(hg:F g)(k:Nat){A':Yo}{c':Nat}{y:List Int}(hc:y.length<=c')(hr:RN F w A' y.length y):
 CR F e base (w.setCell ⟨g,k,none⟩ (.slice A' y.length c')) (.slice (some ⟨g,0,none⟩) n c) (cs.set k y):=by
 have hn:=h.lenV;subst hn;obtain⟨us,h1,h2⟩:=h;have hch:Chg F w (w.setCell ⟨g,k,none⟩ (.slice A' y.length c')):=Chg.set w g k _ hg;refine⟨us.set k (.slice A' y.length c'),by rw[List.length_set];exact(World.ownsRow.stored h1 k _).1,fun i x hx=>?_⟩
 by_cases hik:k=i
 ·subst hik;have hlt:k<cs.length:=by have:=(List.getElem?_eq_some_iff.1 hx).1;rwa [List.length_set]at this
  rw[List.getElem?_set_self hlt]at hx;injection hx with hx
  subst hx;have hus:us.length=cs.length:=by have:=h1.1;omega
  exact⟨A',c',List.getElem?_set_self (by omega),hc,hr.chg hch⟩
 rw[List.getElem?_set_ne hik]at hx;obtain⟨A2,c2,hu,hle,hr2⟩:=h2 i x hx;exact⟨A2,c2,by rw[List.getElem?_set_ne hik];exact hu,hle,hr2.chg hch⟩
theorem CR.chg(h:CR F e base w v cs)(hc:Chg F' w w')(h1:∀k,F' k->F k)(h2:∀k,v.ownBlock=some k->¬F' k):CR F e base w' v cs:=by
 obtain⟨us,g1,g2⟩:=h;refine⟨us,⟨g1.1,?_⟩,fun i x hx=>?_⟩
 ·rcases g1.2 with hn|⟨g,cap,cur,rfl,hb,hg,rest⟩
  ·exact .inl hn
  exact .inr ⟨g,cap,cur,rfl,hb,by rw[hc.block g (Array.getElem?_eq_some_iff.1 hg).1 (h2 g rfl)];exact hg,rest⟩
 obtain⟨A2,c2,hu,hle,hr2⟩:=g2 i x hx;exact⟨A2,c2,hu,hle,hr2.chg (hc.wide h1)⟩
theorem CR.below(h:CR F e base w v cs)(hb:Below w.heap.size w w'):CR F e base w' v cs:=h.chg (Chg.of_below hb (fun _=>False)) (fun _ h=>h.elim) (fun _ _ h=>h)
theorem RN.more(h:RN F w A n xs)(hF:∀k,F' k->F k\/w.heap.size<=k):RN F' w A n xs:=⟨h.1,fun ad hn e hf=>by
 obtain⟨ad',e',hb,_⟩:=h.1.2 hn;rw[e]at e';injection e' with e'
 subst e';rcases hF _ hf with h2|h2
 ·exact h.2 ad hn e h2
 omega⟩
theorem CR.sub(h:CR F e base w v cs)(hF:∀k,F' k->F k):CR F' e base w v cs:=by
 obtain⟨us,h1,h2⟩:=h;refine⟨us,h1,fun k x hx=>?_⟩;obtain⟨A,c,e1,e2,e3⟩:=h2 k x hx;exact⟨A,c,e1,e2,e3.sub hF⟩
theorem CR.more(h:CR F e base w v cs)(hF:∀k,F' k->F k\/w.heap.size<=k):CR F' e base w v cs:=by
 obtain⟨us,h1,h2⟩:=h;refine⟨us,h1,fun k x hx=>?_⟩;obtain⟨A,c,e1,e2,e3⟩:=h2 k x hx;exact⟨A,c,e1,e2,e3.more hF⟩
def RSN (F:Nat->Prop) (w:Yw) (v:Value) (cs:List (List Int)):Prop:=
 ∃(A:Yo) (c:Nat) (us:List Value),v=.slice A cs.length c/\cs.length<=c/\c<=maxLen/\us.length=cs.length/\Reads w w.heap.size 1 A cs.length us/\(∀ad,0<cs.length->A=some ad->¬F ad.block)/\
  ∀(k:Nat) (x:List Int),cs[k]?=some x->∃A' c',us[k]?=some (Value.slice A' x.length c')/\x.length<=c'/\RN F w A' x.length x
theorem RSN.chg(h:RSN F w v cs)(hc:Chg F w w'):RSN F w' v cs:=by
 obtain⟨A,c,us,rfl,h1,h2,h3,h4,h5,h6⟩:=h;refine⟨A,c,us,rfl,h1,h2,h3,⟨h4.1,fun hn=>?_⟩,h5,fun k x hx=>?_⟩
 ·obtain⟨ad,e,hb,hk⟩:=h4.2 hn;refine⟨ad,e,Nat.lt_of_lt_of_le hb hc.size,fun j u hu=>?_⟩;have h2:=h5 ad hn e;rw[World.cell?_of_block (hc.block (ad.add j).block (by rw[ze4];exact hb) (by rw[ze4];exact h2))];exact hk j u hu
 obtain⟨A',c',e1,e2,e3⟩:=h6 k x hx;exact⟨A',c',e1,e2,e3.chg hc⟩
theorem RSN.below(h:RSN F w v cs)(hb:Below w.heap.size w w'):RSN F w' v cs:=h.chg (Chg.of_below hb F)
theorem RSN.at(h:RSN F w v cs){k:Nat}(hk:k<cs.length):∃b o c A' c' x,v=.slice (some ⟨b,o,none⟩) cs.length c/\b<w.heap.size/\¬F b/\cs[k]?=some x/\x.length<=c'/\RN F w A' x.length x/\w.cell? ⟨b,o+k,none⟩=some (.slice A' x.length c'):=by
 obtain⟨A,c,us,rfl,h1,h2,h3,h4,h5,h6⟩:=h;obtain⟨ad,e,hb,hc⟩:=h4.2 (by omega);subst e;obtain⟨A',c',e1,e2,e3⟩:=h6 k _ (List.getElem?_eq_getElem hk);have h0:0<us.length:=by omega
 have hsp:=zg3 (hc 0 _ (List.getElem?_eq_getElem h0));have hsp':ad=⟨ad.block,ad.off,none⟩:=by simpa [Addr.add]using hsp
 refine⟨ad.block,ad.off,c,A',c',_,by rw[<-hsp'],hb,h5 ad (by omega) rfl,List.getElem?_eq_getElem hk,e2,e3,?_⟩;have:=hc k _ e1;rwa [hsp',Addr.add_lit]at this
theorem RSN.shape(h:RSN F w v cs):∃A c,v=.slice A cs.length c:=by
 obtain⟨A,c,us,rfl,_⟩:=h;exact⟨A,c,rfl⟩
end
end
section
def F2 (bv bc:Nat):Nat->Prop:=fun k=>k=bv\/k=bc
structure Pl (b bv bc L:Nat) (pi:Int) (A1:Yo) (n1 c1:Nat) (A2:Yo) (n2 c2:Nat) (A3:Yo) (n3 c3:Nat) (Ao:Yo) (no co cv cc:Nat) (ns:List Node) (tb:List (List Int)) (outs O:List Int) (w:Yw):Prop where
 p0:w.cell? ⟨b,0,none⟩=some (.int .i64 pi)
 p1:w.cell? ⟨b,1,none⟩=some (.slice A1 n1 c1)
 p2:w.cell? ⟨b,2,none⟩=some (.slice A2 n2 c2)
 p3:w.cell? ⟨b,3,none⟩=some (.slice A3 n3 c3)
 p4:w.cell? ⟨b,4,none⟩=some (.slice Ao no co)
 p5:w.cell? ⟨b,5,none⟩=some (.slice (some ⟨bv,0,none⟩) n2 cv)
 p6:w.cell? ⟨b,6,none⟩=some (.slice (some ⟨bc,0,none⟩) n2 cc)
 h1:RS tS w L (.slice A1 n1 c1) tb
 h2:RS tN w L (.slice A2 n2 c2) ns
 h3:RI w L A3 n3 outs
 h4:RI w L Ao no O
 lv:L<=bv
 lc:L<=bc
 ne:bv≠bc
 nbv:b≠bv
 nbc:b≠bc
 lL:L<=w.heap.size
section
variable {b bv bc L:Nat} {pi:Int} {A1 :Yo} {n1 c1:Nat} {A2 :Yo} {n2 c2:Nat} {A3 :Yo} {n3 c3:Nat} {Ao :Yo} {no co cv cc:Nat} {ns:List Node} {tb:List (List Int)} {outs O:List Int} {w w':Yw}
theorem Pl.chg(h:Pl b bv bc L pi A1 n1 c1 A2 n2 c2 A3 n3 c3 Ao no co cv cc ns tb outs O w)(hc:Chg (F2 bv bc) w w'):Pl b bv bc L pi A1 n1 c1 A2 n2 c2 A3 n3 c3 Ao no co cv cc ns tb outs O w':=by
 have lb:b<w.heap.size:=World.block_lt_of_cell? w _ h.p0;have hn:¬F2 bv bc b:=fun e=>e.elim h.nbv h.nbc
 have hB:Below L w w':=hc.toBelow (fun k hk=>hk.elim (fun e=>e▸h.lv) (fun e=>e▸h.lc)) h.lL;have key:∀j,w'.cell? ⟨b,j,none⟩=w.cell? ⟨b,j,none⟩:=fun j=>hc.cell lb hn
 exact⟨(key 0).trans h.p0,(key 1).trans h.p1,(key 2).trans h.p2,(key 3).trans h.p3,(key 4).trans h.p4,(key 5).trans h.p5,(key 6).trans h.p6,h.h1.below hB,h.h2.below hB,h.h3.below hB,h.h4.below hB,h.lv,h.lc,h.ne,h.nbv,h.nbc,Nat.le_trans h.lL hc.size⟩
end
end
section
section
variable {P:Program} {t e:TypeId} {z:Value} {bytes:Nat}
end
end
theorem OS.one{e:TypeId}{w:Yw}{lo hi:Nat}{v:Value}{x:List Int}(h:OS tS e w (Iv lo hi) v [x]):
 ∃bo cO vo,v=.slice (some ⟨bo,0,none⟩) 1 cO/\lo<=bo/\bo<w.heap.size/\w.cell? ⟨bo,0,none⟩=some vo/\w.frozen? ⟨bo,0,none⟩=false/\OI 2 lo w vo x/\vo.ownBlock≠some bo:=by
 obtain⟨A,c,rfl⟩:=h.shape;obtain⟨css,Fs,hO,cs,hcs,ho⟩:=h.open (k:=0) (by simp);obtain⟨g,rfl,hF,hn,hg,-⟩:=hO.form (by simp);obtain⟨vo,rfl,hvo⟩:=ho;have hc:=hO.cell hcs (j:=0) (u:=vo) rfl;rw[Nat.zero_mul,Nat.add_zero]at hc;refine⟨g,c,vo,rfl,hF.1,hg,hc.1,hc.2,(hvo.wide (F':=Iv lo hi) hO.fits).oi,fun e=>hn (hvo.lt g e).1⟩
theorem RSN.more{F F':Nat->Prop}{w:Yw}{v:Value}{cs:List (List Int)}(h:RSN F w v cs)(hF:∀k,F' k->F k\/w.heap.size<=k):RSN F' w v cs:=by
 obtain⟨A,c,us,rfl,h1,h2,h3,h4,h5,h6⟩:=h;refine⟨A,c,us,rfl,h1,h2,h3,h4,fun ad hn he hf=>?_,fun k x hx=>?_⟩
 ·obtain⟨ad',e',hb,_⟩:=h4.2 hn;rw[he]at e';injection e' with e'
  subst e';rcases hF _ hf with h|h
  ·exact h5 ad hn he h
  omega
 obtain⟨A',c',e1,e2,e3⟩:=h6 k x hx;exact⟨A',c',e1,e2,e3.more hF⟩
def zvb (k:Nat) (l:Int) (acc:List Int) (p:Int×Int):List Int:=acc.set p.1.toNat (max ((acc[p.1.toNat]?).getD 0) ((acc[k]?).getD 0+l))
def zn0 (xs:List zag):Nat->List Int
 | 0=>List.replicate xs.length 0
 | k+1=>((xs[k]?).getD M.sz).2.2.foldl (zvb k ((xs[k]?).getD M.sz).2.1) (zn0 xs k)
def zjo (xs:List zag):List Int:=zn0 xs xs.length
def zvc (xs:List zag):Int:=((zjo xs)[xs.length-1]?).getD 0+((xs[xs.length-1]?).getD M.sz).2.1
def zvd (es:List Int) (k:Nat) (l:Int) (p:Int×Int):Int:=(es[p.1.toNat]?).getD 0-(es[k]?).getD 0-l
def zve (xs:List zag) (k:Nat):List Int:=((xs[k]?).getD M.sz).2.2.map (zvd (zjo xs) k ((xs[k]?).getD M.sz).2.1)
def zvf (xs:List zag):List (List Int):=(List.range xs.length).map (zve xs)
def M.sl (a:List Int) (f:Int) (n:Nat):List Int:=(List.range n).map fun(i:Nat)=>M.at_ a (f+i)
def zjp (a:List Int) (b:Int) (n:Nat):List Int:=(List.range n).map fun(i:Nat)=>M.at_ a ((i:Int)-b)
theorem zvg(a b:List Int)(g:Int):(zgm a b g).all M.smp=true:=by
 rw[zgm,List.all_map,List.all_eq_true];intro i _;exact M.smp_wrap _
theorem OI.take{e:TypeId}{B:Nat}{w:Yw}{A:Yo}{m n c:Nat}{xs:List Int}(h:OI e B w (.slice A m c) xs)(hn:n<=m):OI e B w (.slice A n c) (xs.take n):=by
 have hl:xs.length=m:=by
  rcases h.2 with⟨h0,h1⟩|⟨g,cap,cur,h0,_⟩
  ·simp only[Value.slice.injEq]at h0;rw[h0.2.1];exact h1
  simp only[Value.slice.injEq]at h0;exact h0.2.1.symm
 have hl2:(xs.take n).length=n:=by rw[List.length_take];omega
 refine⟨by simp,?_⟩;rw[hl2];rcases h.2 with⟨h0,h1⟩|⟨g,cap,cur,h0,hb,hg,hnc,hcm,hcs,ht⟩
 ·simp only[Value.slice.injEq]at h0;obtain⟨rfl,rfl,rfl⟩:=h0;obtain rfl:n=0:=by omega
  exact .inl ⟨rfl,rfl⟩
 simp only[Value.slice.injEq]at h0;obtain⟨rfl,-,rfl⟩:=h0;refine .inr ⟨g,c,cur,rfl,hb,hg,by omega,hcm,hcs,?_⟩;rw[List.map_take,<-ht,List.take_take];congr 1;omega
section
set_option synthInstance.maxSize 2000
set_option synthInstance.maxHeartbeats 400000
section
variable (L:Nat) (src:List (List Int)) (ts:List (List zas)) (fs:List Int) (ps:List zad) (ms:List zag)
def M.nT:Nat:=L+(zvc ms).toNat
def zvh (t:Nat):List zas:=(ts[t]?).getD []
def zvi (i:Nat):zad:=(ps[i]?).getD M.p0
def zhz (i:Nat):zag:=(ms[i]?).getD M.sz
def zvj (i:Nat):Int:=M.i_ (zjo ms) i
def zh0 (ins:List (List Int)) (k:Nat) (ys:List Int) (g:Int):List (List Int):=ins.set k (zgm (zbz ins k) ys g)
def zn1:Nat->List (List Int)
 | 0=>List.replicate ms.length (List.replicate (M.nT L ms) 0)
 | t+1=>zh0 (zn1 t) (M.i_ fs t).toNat (zjp (zpk src (zvh ts t) L) (zvj ms (M.i_ fs t).toNat) (M.nT L ms)) 1
def M.fx (p:zad) (xs:List Int) (n:Nat):List Int:=if p=M.p0 then xs else zte p xs n
def zn2 (i:Nat) (ins:List (List Int)):List Int:=zjp (M.fx (zvi ps i) (zbz ins i) (M.nT L ms)) (zhz ms i).2.1 (M.nT L ms)
def zn3 (i:Nat) (out:List Int) (ins:List (List Int)):Nat->List (List Int)
 | 0=>ins
 | j+1=>zh0 (zn3 i out ins j) (((zhz ms i).2.2[j]?).getD (0,0)).1.toNat (zjp out (M.i_ (zbz (zvf ms) i) j) (M.nT L ms)) (((zhz ms i).2.2[j]?).getD (0,0)).2
def zgz:Nat->List (List Int)×List (List Int)
 | 0=>(zn1 L src ts fs ms ts.length,[])
 | i+1=>(zn3 L ms i (zn2 L ps ms i (zgz i).1) (zgz i).1 (zhz ms i).2.2.length,(zgz i).2++[zn2 L ps ms i (zgz i).1])
def zxl:List (List Int):=(zgz L src ts fs ps ms ms.length).2
end
structure M.SO (L:Nat) (src:List (List Int)) (ts:List (List zas)) (fs:List Int) (ps:List zad) (ms:List zag):Prop where
 l:L<=1000
 so:zen src=true
 mix:zby ms=true
 fl:fs.length=ts.length
 tl:ts.length<=6
 fr:∀f∈fs,0<=f/\f<ms.length
 pl:ps.length=ms.length
 tr:∀t∈ts,za4 t=true/\zbp t src.length=true
 ef:∀p∈ps,zao p=true
structure M.JO (m n:Nat) (ins:List (List Int)):Prop where
 len:ins.length=m
 at_:∀x∈ins,x.length=n/\x.all M.smp=true
theorem M.JO.cel{m n:Nat}{ins:List (List Int)}(h:M.JO m n ins){k:Nat}(hk:k<m):(zbz ins k).length=n/\(zbz ins k).all M.smp=true:=by
 have hk2:k<ins.length:=by rw[h.len];exact hk
 have e:zbz ins k=ins[k]:=by rw[zbz,List.getElem?_eq_getElem hk2];rfl
 rw[e];exact h.at_ _ (List.getElem_mem hk2)
theorem M.JO.add{m n:Nat}{ins:List (List Int)}(h:M.JO m n ins){k:Nat}(hk:k<m){ys:List Int}(hy:ys.length=n)(g:Int):M.JO m n (zh0 ins k ys g):=by
 refine⟨by rw[zh0,List.length_set];exact h.len,fun x hx=>?_⟩;rcases List.mem_or_eq_of_mem_set hx with h1|rfl
 ·exact h.at_ x h1
 exact⟨by rw[zrw,(h.cel hk).1,hy,Nat.max_self],zvg _ _ _⟩
section
variable {L:Nat} {src:List (List Int)} {ts:List (List zas)} {fs:List Int} {ps:List zad} {ms:List zag}
theorem zjq{p:zad}(h:zao p=true)(hp:p≠M.p0):zcd p=true/\p.1=1/\p.2.2.2.length=1:=by
 rw[zao]at h;simp only[Bool.or_eq_true,Bool.and_eq_true,decide_eq_true_eq]at h;rcases h with h|h
 ·exact absurd h hp
 exact⟨h.1.1,h.1.2,h.2⟩
end
end
section
set_option synthInstance.maxSize 2000
set_option synthInstance.maxHeartbeats 400000
def zdn (ND:NO->Nat->Bool) (N:Nat) (p:zad):zad:=
 (p.1,p.2.1,(zbo (ND (zah ND p.2.1 (p.2.2.1,p.2.2.2) N)) (zah ND p.2.1 (p.2.2.1,p.2.2.2) N)).1,(zbo (ND (zah ND p.2.1 (p.2.2.1,p.2.2.2) N)) (zah ND p.2.1 (p.2.2.1,p.2.2.2) N)).2)
def zbd (ND:NO->Nat->Bool) (NN:zad->Nat) (p:zad):zad:=if p=M.p0 then M.p0 else zdn ND (NN p) p
theorem zxm{ND:NO->Nat->Bool}(hND:∀p j,ND p j=true↔M.Rch p.1 p.2 j):∃NN:zad->Nat,∀p:zad,zao p=true->p≠M.p0->zbk ND p.2.1 (zah ND p.2.1 (p.2.2.1,p.2.2.2) (NN p))=none:=by
 refine⟨fun p=>Classical.epsilon fun N=>zbk ND p.2.1 (zah ND p.2.1 (p.2.2.1,p.2.2.2) N)=none,fun p hp h0=>?_⟩;obtain⟨h1,h2,h3⟩:=zjq hp h0;obtain⟨R,hW⟩:=zjc (zi2 h1 h2) (zi3 h1);obtain⟨N,hN⟩:=zma hND _ R hW;exact Classical.epsilon_spec (p:=fun N=>zbk ND p.2.1 (zah ND p.2.1 (p.2.2.1,p.2.2.2) N)=none) ⟨N,hN⟩
theorem zvk{tb:List (List Int)}{q:NO}{R:Nat->Nat}(h:M.WP tb q R)(h1:q.2.length=1):zao (1,tb,q.1,q.2)=true:=by
 have hp:zcd (1,tb,q.1,q.2)=true:=by
  rw[zcd,Bool.and_eq_true];refine⟨?_,decide_eq_true (ztj h.rk)⟩;rw[za6];simp only[Bool.and_eq_true,decide_eq_true_eq,List.all_eq_true];refine⟨⟨⟨⟨⟨by decide,h.tabs⟩,h.len⟩,by omega⟩,fun o ho=>zbf.2 (by have:=h.outs o ho;omega)⟩,fun x hx=>?_⟩;obtain⟨i,hi⟩:=List.mem_iff_getElem?.1 hx;rw[zbm,Bool.and_eq_true,Bool.and_eq_true];refine⟨⟨h.ok i x hi,List.all_eq_true.2 fun f hf=>zbf.2 (by have:=h.fr i x hi f hf;omega)⟩,?_⟩
  by_cases hk:x.1=1
  ·rw[h.inp i x hi hk];simp
  simp[hk]
 rw[zao,Bool.or_eq_true,Bool.and_eq_true,Bool.and_eq_true];exact .inr ⟨⟨hp,by simp⟩,by simpa using h1⟩
section
variable {ND:NO->Nat->Bool} {NN:zad->Nat}
theorem zvl(hND:∀p j,ND p j=true↔M.Rch p.1 p.2 j){p:zad}(hp:zao p=true)(h0:p≠M.p0)(N:Nat):zao (zdn ND N p)=true/\zdn ND N p≠M.p0/\(zdn ND N p).1=1/\(zdn ND N p).2.1=p.2.1/\(zdn ND N p).2.2.1.length<=24/\(zdn ND N p).2.2.2.length=1:=by
 obtain⟨h1,h2,h3⟩:=zjq hp h0;obtain⟨R,hW⟩:=zjc (zi2 h1 h2) (zi3 h1);obtain⟨R',w1,w2,w3⟩:=zhp hND hW N;obtain⟨R2,hT⟩:=ztv w1 (hND _)
 have hl:(zbo (ND (zah ND p.2.1 (p.2.2.1,p.2.2.2) N)) (zah ND p.2.1 (p.2.2.1,p.2.2.2) N)).2.length=1:=by
  show (zbc _ _).length=1
  rw[zi0,w3];exact h3
 have he:=zvk hT hl;refine⟨?_,?_,h2,rfl,hT.len,hl⟩
 ·rw[zdn,h2];exact he
 intro e;have e1:(zdn ND N p).2.2.2=M.p0.2.2.2:=by rw[e]
 have e2:(zdn ND N p).2.2.2.length=0:=by rw[e1];rfl
 have:(zdn ND N p).2.2.2.length=1:=hl;omega
end
def zvm (ND:NO->Nat->Bool) (NN:zad->Nat) (x:Sess):Sess:=(x.1,x.2.1,x.2.2.1,x.2.2.2.1,x.2.2.2.2.1.map (zbd ND NN),x.2.2.2.2.2)
end
end Go.Proofs.YtifeldeikhmckaaGreat
