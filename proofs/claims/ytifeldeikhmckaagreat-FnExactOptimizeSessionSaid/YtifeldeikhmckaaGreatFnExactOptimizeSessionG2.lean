import Derived.Test.YtifeldeikhmckaaGreatFnExactOptimizeSessionG1
import Derived.Maps.AppendAt
set_option linter.unusedVariables false
set_option linter.unusedSimpArgs false
set_option maxRecDepth 100000
set_option maxHeartbeats 4000000
namespace Go.Proofs.YtifeldeikhmckaaGreat
open Go.RowKit
section
structure Mid (lo hi:Nat) (w w':Yw):Prop where
 os:w'.os=w.os
 tape:w'.tape=w.tape
 output:w'.output=w.output
 size:w.heap.size<=w'.heap.size
 block:∀k,k<w.heap.size->(k<lo\/hi<=k)->w'.heap[k]?=w.heap[k]?
section
variable {lo hi lo' hi' B:Nat} {a b c w w':Yw}
theorem Mid.refl(lo hi:Nat)(w:Yw):Mid lo hi w w:=⟨rfl,rfl,rfl,Nat.le_refl _,fun _ _ _=>rfl⟩
theorem Mid.trans(h:Mid lo hi a b)(k:Mid lo hi b c):Mid lo hi a c:=
 ⟨k.os.trans h.os,k.tape.trans h.tape,k.output.trans h.output,Nat.le_trans h.size k.size,fun i hi' hm=>(k.block i (Nat.lt_of_lt_of_le hi' h.size) hm).trans (h.block i hi' hm)⟩
theorem Mid.toBelow(h:Mid lo hi a b)(hl:lo<=a.heap.size):Below lo a b:=⟨h.os,h.tape,h.output,h.size,fun k hk=>h.block k (by omega) (.inl hk)⟩
theorem Mid.of_below(h:Below a.heap.size a b)(lo hi:Nat):Mid lo hi a b:=⟨h.os,h.tape,h.output,h.size,fun k hk _=>h.block k hk⟩
theorem Mid.of_grown{row:Option Nat}(h:a.grownBy b row)(hr:∀k,row=some k->lo<=k/\k<hi):Mid lo hi a b:=
 ⟨h.os,h.tape,h.output,h.size,fun k hk hm=>h.block k hk (fun e=>by have:=hr k e.symm;omega)⟩
theorem Mid.wide(h:Mid lo hi a b)(h1:lo'<=lo)(h2:hi<=hi'):Mid lo' hi' a b:=⟨h.os,h.tape,h.output,h.size,fun k hk hm=>h.block k hk (by omega)⟩
end
def OX (e:TypeId) (s lo hi:Nat) (w:Yw) (v:Value) (n:Nat) (cs:List Value):Prop:=w.ownsRow lo e s v n cs/\∀k,v.ownBlock=some k->k<hi
section
variable {e:TypeId} {s lo hi lo' hi' n:Nat} {w w':Yw} {v:Value} {cs:List Value}
theorem OX.of_own(h:w.ownsRow lo e s v n cs):OX e s lo w.heap.size w v n cs:=⟨h,fun k hk=>(h.lt k hk).2⟩
theorem OX.same(h:OX e s lo hi w v n cs)(hk:∀k,lo<=k->k<hi->w'.heap[k]?=w.heap[k]?):OX e s lo hi w' v n cs:=by
 refine⟨⟨h.1.1,?_⟩,h.2⟩;rcases h.1.2 with h2|⟨g,cap,cur,rfl,hg,hh,r⟩
 ·exact .inl h2
 exact .inr ⟨g,cap,cur,rfl,hg,by rw[hk g hg (h.2 g rfl)];exact hh,r⟩
theorem OX.below{B:Nat}(h:OX e s lo hi w v n cs)(hb:Below B w w')(hB:hi<=B):OX e s lo hi w' v n cs:=h.same fun k _ hk=>hb.block k (by omega)
theorem OX.mid{l r:Nat}(h:OX e s lo hi w v n cs)(hm:Mid l r w w')(hd:hi<=l\/r<=lo)(hs:hi<=w.heap.size):OX e s lo hi w' v n cs:=h.same fun k h1 h2=>hm.block k (by omega) (by omega)
theorem OX.wide(h:OX e s lo hi w v n cs)(h1:lo'<=lo)(h2:hi<=hi'):OX e s lo' hi' w v n cs:=⟨zg1 h.1 h1,fun k hk=>Nat.lt_of_lt_of_le (h.2 k hk) h2⟩
theorem OX.nil(e:TypeId)(s lo hi:Nat)(w:Yw):OX e s lo hi w (.slice none 0 0) 0 []:=⟨World.ownsRow_nil _ _ _ _,by simp[Value.ownBlock]⟩
theorem OX.reads{A:Yo}{c:Nat}(h:OX e s lo hi w (.slice A n c) n cs):Reads w w.heap.size s A n cs:=Reads.of_own h.1
theorem OX.shape(h:OX e s lo hi w v n cs):∃A c,v=.slice A n c/\n<=c/\Reads w w.heap.size s A n cs:=by
 obtain⟨A,c,hv,h1,_,hr⟩:=zek h.1;exact⟨A,c,hv,h1,hr⟩
theorem OX.form{A:Yo}{c m:Nat}(h:OX e s lo hi w (.slice A m c) n cs)(hn:0<m):∃g,A=some ⟨g,0,none⟩/\lo<=g/\g<hi/\g<w.heap.size/\m=n:=by
 rcases h.1.2 with⟨h0,_⟩|⟨g,cap,cur,h0,h1,h2,_⟩
 ·simp only[Value.slice.injEq]at h0;omega
 simp only[Value.slice.injEq]at h0;obtain⟨rfl,rfl,rfl⟩:=h0;exact⟨g,rfl,h1,h.2 g rfl,(Array.getElem?_eq_some_iff.1 h2).1,rfl⟩
theorem OX.cell{g c:Nat}(h:OX e s lo hi w (.slice (some ⟨g,0,none⟩) n c) n cs){j:Nat}{u:Value}(hj:cs[j]?=some u):w.cell? ⟨g,j,none⟩=some u/\w.frozen? ⟨g,j,none⟩=false:=by
 obtain⟨hl,_⟩:=List.getElem?_eq_some_iff.1 hj;exact⟨by rw[World.ownsRow.cellAt h.1 j (by rw[<-h.1.1];exact hl)];exact hj,World.ownsRow.frozenAt h.1 j⟩
theorem OX.set{g c:Nat}(h:OX e s lo hi w (.slice (some ⟨g,0,none⟩) n c) n cs)(j:Nat)(u:Value):
 OX e s lo hi (w.setCell ⟨g,j,none⟩ u) (.slice (some ⟨g,0,none⟩) n c) n (cs.set j u)/\Mid lo hi w (w.setCell ⟨g,j,none⟩ u):=by
 have h1:=World.ownsRow.stored h.1 j u;refine⟨⟨h1.1,h.2⟩,Mid.of_grown h1.2 fun k hk=>?_⟩;injection hk with hk
 subst hk;exact⟨(World.ownsRow.lt h.1 g rfl).1,h.2 g rfl⟩
end
def RA {α:Type} (enc:α->List Value) (s:Nat) (w:Yw) (B:Nat) (A:Yo) (n:Nat) (xs:List α):Prop:=xs.length=n/\Reads w B s A n (xs.flatMap enc)
section
variable {α:Type} {enc:α->List Value} {s:Nat} {w w':Yw} {B B' n:Nat} {A :Yo} {xs:List α}
theorem zh7(henc:∀x,(enc x).length=s){xs:List α}{k:Nat}{x:α}(hk:xs[k]?=some x)(j:Nat)(hj:j<s):(xs.flatMap enc)[k*s+j]?=(enc x)[j]?:=by
 induction xs generalizing k with
 | nil=>simp at hk
 | cons y ys ih=>
  cases k with
  | zero=>
   simp only[List.getElem?_cons_zero,Option.some.injEq]at hk;subst hk;rw[List.flatMap_cons,Nat.zero_mul,Nat.zero_add,List.getElem?_append_left (by rw[henc];exact hj)]
  | succ k=>
   simp only[List.getElem?_cons_succ]at hk;rw[List.flatMap_cons,List.getElem?_append_right (by rw[henc,Nat.succ_mul];omega),henc,<-ih hk];congr 1;rw[Nat.succ_mul];omega
theorem zh8(henc:∀x,(enc x).length=s)(xs:List α):(xs.flatMap enc).length=xs.length*s:=by
 induction xs with
 | nil=>simp
 | cons y ys ih=>rw[List.flatMap_cons,List.length_append,henc,ih,List.length_cons,Nat.succ_mul,Nat.add_comm]
theorem zox(henc:∀x,(enc x).length=s){xs:List α}{k:Nat}{x y:α}{j:Nat}{u:Value}(hk:xs[k]?=some x)(hj:j<s)(hy:enc y=(enc x).set j u):(xs.flatMap enc).set (k*s+j) u=(xs.set k y).flatMap enc:=by
 induction xs generalizing k with
 | nil=>simp at hk
 | cons z zs ih=>
  cases k with
  | zero=>
   simp only[List.getElem?_cons_zero,Option.some.injEq]at hk;subst hk;rw[List.flatMap_cons,Nat.zero_mul,Nat.zero_add,List.set_append_left _ _ (by rw[henc];exact hj),List.set_cons_zero,List.flatMap_cons,hy]
  | succ k=>
   simp only[List.getElem?_cons_succ]at hk;rw[List.flatMap_cons,List.set_append_right _ _ (by rw[henc,Nat.succ_mul];omega),henc,List.set_cons_succ,List.flatMap_cons,<-ih hk];congr 2;rw[Nat.succ_mul];omega
theorem RA.len(h:RA enc s w B A n xs):xs.length=n:=h.1
theorem RA.below(h:RA enc s w B A n xs)(hb:Below B w w'):RA enc s w' B A n xs:=⟨h.1,h.2.below hb⟩
theorem RA.later(h:RA enc s w w.heap.size A n xs)(hb:Below w.heap.size w w'):RA enc s w' w'.heap.size A n xs:=⟨h.1,h.2.later hb⟩
theorem RA.more(h:RA enc s w B A n xs)(hB:B<=B'):RA enc s w B' A n xs:=⟨h.1,h.2.more hB⟩
theorem RA.nil(w:Yw)(B:Nat)(A:Yo):RA enc s w B A 0 []:=⟨rfl,Reads.none_⟩
theorem zg3{ad:Addr}{u:Value}(h:w.cell? ad=some u):ad=⟨ad.block,ad.off,none⟩:=by
 cases ad with
 | mk b o sp=>
  cases sp with
  | none=>rfl
  | some x=>
   exfalso
   simp only[World.cell?]at h
   split at h <;> simp at h
theorem RA.at(henc:∀x,(enc x).length=s)(hs:0<s)(h:RA enc s w B A n xs){k:Nat}(hk:k<n):
 ∃b o x,A=some ⟨b,o,none⟩/\b<B/\Hid (xs[k]?=some x)/\∀j u,(enc x)[j]?=some u->w.cell? ⟨b,o+k*s+j,none⟩=some u:=by
 obtain⟨ad,e,hb,hc⟩:=h.2.2 (by omega);have hl:k<xs.length:=by rw[h.1];exact hk
 have h0:0<(xs.flatMap enc).length:=by
  rw[zh8 henc];exact Nat.mul_pos (by omega) hs
 have hsp:=zg3 (hc 0 _ (List.getElem?_eq_getElem h0));have hsp':ad=⟨ad.block,ad.off,none⟩:=by simpa [Addr.add]using hsp
 refine⟨ad.block,ad.off,xs[k],by rw[e,<-hsp'],hb,List.getElem?_eq_getElem hl,fun j u hu=>?_⟩
 have:=hc (k*s+j) u (by
  rw[zh7 henc (List.getElem?_eq_getElem hl) j (by rw[<-henc xs[k]];exact(List.getElem?_eq_some_iff.1 hu).1)];exact hu)
 rw[hsp',Addr.add_lit,<-Nat.add_assoc]at this;exact this
theorem RA.cells{b o:Nat}(henc:∀x,(enc x).length=s)(hs:0<s)(h:RA enc s w B (some ⟨b,o,none⟩) n xs){k:Nat}(hk:k<n):
 ∃x,Hid (xs[k]?=some x)/\∀j u,(enc x)[j]?=some u->w.cell? ⟨b,o+k*s+j,none⟩=some u:=by
 obtain⟨b',o',x,e,_,h1,h2⟩:=h.at henc hs hk;injection e with e
 injection e with e1 e2
 subst e1 e2;exact⟨x,h1,h2⟩
end
def OA {α:Type} (enc:α->List Value) (e:TypeId) (s lo hi:Nat) (w:Yw) (v:Value) (xs:List α):Prop:=OX e s lo hi w v xs.length (xs.flatMap enc)
section
variable {α:Type} {enc:α->List Value} {e:TypeId} {s lo hi lo' hi':Nat} {w w':Yw} {v:Value} {xs:List α}
theorem OA.below{B:Nat}(h:OA enc e s lo hi w v xs)(hb:Below B w w')(hB:hi<=B):OA enc e s lo hi w' v xs:=OX.below h hb hB
theorem OA.mid{l r:Nat}(h:OA enc e s lo hi w v xs)(hm:Mid l r w w')(hd:hi<=l\/r<=lo)(hs:hi<=w.heap.size):OA enc e s lo hi w' v xs:=OX.mid h hm hd hs
theorem OA.wide(h:OA enc e s lo hi w v xs)(h1:lo'<=lo)(h2:hi<=hi'):OA enc e s lo' hi' w v xs:=OX.wide h h1 h2
theorem OA.nil(w:Yw):OA enc e s lo hi w (.slice none 0 0) []:=OX.nil _ _ _ _ _
theorem OA.shape(h:OA enc e s lo hi w v xs):∃A c,v=.slice A xs.length c/\RA enc s w w.heap.size A xs.length xs:=by
 obtain⟨A,c,hv,_,hr⟩:=OX.shape h;exact⟨A,c,hv,rfl,hr⟩
theorem OA.ra{A:Yo}{c:Nat}(h:OA enc e s lo hi w (.slice A xs.length c) xs):RA enc s w w.heap.size A xs.length xs:=⟨rfl,OX.reads h⟩
theorem OX.m_eq{g c m n:Nat}{cs:List Value}(h:OX e s lo hi w (.slice (some ⟨g,0,none⟩) m c) n cs):m=n:=by
 rcases h.1.2 with⟨h0,_⟩|⟨g',cap,cur,h0,_⟩
 ·simp at h0
 simp only[Value.slice.injEq]at h0;exact h0.2.1
theorem OA.set{g c m:Nat}(henc:∀x,(enc x).length=s)(h:OA enc e s lo hi w (.slice (some ⟨g,0,none⟩) m c) xs){k j:Nat}{x y:α}{u:Value}(hk:xs[k]?=some x)(hj:j<s)(hy:enc y=(enc x).set j u):
 OA enc e s lo hi (w.setCell ⟨g,k*s+j,none⟩ u) (.slice (some ⟨g,0,none⟩) m c) (xs.set k y)/\Mid lo hi w (w.setCell ⟨g,k*s+j,none⟩ u):=by
 have hm:=OX.m_eq h;subst hm;have h1:=OX.set h (k*s+j) u;rw[zox henc hk hj hy]at h1;refine⟨?_,h1.2⟩;unfold OA;rw[List.length_set];exact h1.1
theorem OA.cell{g c m:Nat}(henc:∀x,(enc x).length=s)(h:OA enc e s lo hi w (.slice (some ⟨g,0,none⟩) m c) xs){k:Nat}{x:α}(hk:xs[k]?=some x){j:Nat}{u:Value}(hj:(enc x)[j]?=some u):
 w.cell? ⟨g,k*s+j,none⟩=some u/\w.frozen? ⟨g,k*s+j,none⟩=false:=by
 have hm:=OX.m_eq h;subst hm;exact OX.cell h (by rw[zh7 henc hk j (by rw[<-henc x];exact(List.getElem?_eq_some_iff.1 hj).1)];exact hj)
theorem zj5(zs:Array Value)(n:Nat)(x:α)(hz:enc x=zs.toList)(henc:∀x,(enc x).length=s)(hs:0<s):(madeCells zs (n*s)).toList=(List.replicate n x).flatMap enc:=by
 have hzs:zs.size=s:=by have:=henc x;rw[hz]at this;simpa using this
 apply List.ext_getElem?
 intro i
 by_cases hi:i<n*s
 ·have hk:i / s<n:=Nat.div_lt_of_lt_mul (by rw[Nat.mul_comm];exact hi);have hj:i % s<s:=Nat.mod_lt _ hs;have e0:i / s*s+i % s=i:=by rw[Nat.mul_comm];exact Nat.div_add_mod i s
  have h1:=zh7 henc (xs:=List.replicate n x) (k:=i / s) (x:=x) (by simp[hk]) (i % s) hj;rw[e0]at h1;rw[h1,hz];simp[madeCells,hi,hzs,hj]
 rw[List.getElem?_eq_none (by simp[madeCells];omega),List.getElem?_eq_none (by rw[zh8 henc,List.length_replicate];omega)]
theorem OA.made{z:Value}{n:Nat}{x:α}(henc:∀x,(enc x).length=s)(hs:0<s)(hz:enc x=z.cells.toList)(h:w.ownsRow lo e s v n (madeCells z.cells (n*s)).toList)(hv:∀k,v.ownBlock=some k->k<hi):
 OA enc e s lo hi w v (List.replicate n x):=by
 unfold OA;rw[List.length_replicate,<-zj5 z.cells n x hz henc hs];exact⟨h,hv⟩
theorem OA.form{A:Yo}{c m:Nat}(h:OA enc e s lo hi w (.slice A m c) xs)(hn:0<m):∃g,A=some ⟨g,0,none⟩/\lo<=g/\g<hi/\g<w.heap.size/\m=xs.length:=OX.form h hn
theorem OA.push{x:α}(h:w.ownsRow lo e s v (xs.length+1) (xs.flatMap enc++enc x)):OA enc e s lo w.heap.size w v (xs++[x]):=by
 unfold OA;have:=OX.of_own h;simpa [List.flatMap_append]using this
end
end
section
structure Chg (F:Nat->Prop) (w w':Yw):Prop where
 os:w'.os=w.os
 tape:w'.tape=w.tape
 output:w'.output=w.output
 size:w.heap.size<=w'.heap.size
 block:∀k,k<w.heap.size->¬F k->w'.heap[k]?=w.heap[k]?
section
variable {F F':Nat->Prop} {a b c w w':Yw} {lo hi B:Nat}
theorem Chg.refl(F:Nat->Prop)(w:Yw):Chg F w w:=⟨rfl,rfl,rfl,Nat.le_refl _,fun _ _ _=>rfl⟩
theorem Chg.trans(h:Chg F a b)(k:Chg F b c):Chg F a c:=
 ⟨k.os.trans h.os,k.tape.trans h.tape,k.output.trans h.output,Nat.le_trans h.size k.size,fun i hi hm=>(k.block i (Nat.lt_of_lt_of_le hi h.size) hm).trans (h.block i hi hm)⟩
theorem Chg.wide(h:Chg F a b)(hf:∀k,F k->F' k):Chg F' a b:=⟨h.os,h.tape,h.output,h.size,fun k hk hn=>h.block k hk fun hF=>hn (hf k hF)⟩
theorem Chg.of_below(h:Below a.heap.size a b)(F:Nat->Prop):Chg F a b:=⟨h.os,h.tape,h.output,h.size,fun k hk _=>h.block k hk⟩
theorem Chg.of_mid(h:Mid lo hi a b):Chg (fun k=>lo<=k/\k<hi) a b:=⟨h.os,h.tape,h.output,h.size,fun k hk hn=>h.block k hk (by omega)⟩
theorem Chg.of_grown{row:Option Nat}(h:a.grownBy b row)(hr:∀k,row=some k->F k):Chg F a b:=
 ⟨h.os,h.tape,h.output,h.size,fun k hk hn=>h.block k hk fun e=>hn (hr k e.symm)⟩
theorem Chg.toBelow(h:Chg F a b)(hF:∀k,F k->B<=k)(hB:B<=a.heap.size):Below B a b:=⟨h.os,h.tape,h.output,h.size,fun k hk=>h.block k (by omega) fun hk'=>by have:=hF k hk';omega⟩
theorem Chg.set(w:Yw)(g o:Nat)(u:Value)(hF:F g):Chg F w (w.setCell ⟨g,o,none⟩ u):=Chg.of_grown (zaz w g o u) fun k hk=>by injection hk with hk;rw[<-hk];exact hF
end
theorem zh9{s:Nat}{css:List (List Value)}(hs:∀c∈css,c.length=s){k:Nat}{c:List Value}(hk:css[k]?=some c)(j:Nat)(hj:j<s):css.flatten[k*s+j]?=c[j]?:=by
 induction css generalizing k with
 | nil=>simp at hk
 | cons y ys ih=>
  have hy:=hs y (by simp);cases k with
  | zero=>
   simp only[List.getElem?_cons_zero,Option.some.injEq]at hk;subst hk;rw[List.flatten_cons,Nat.zero_mul,Nat.zero_add,List.getElem?_append_left (by omega)]
  | succ k=>
   simp only[List.getElem?_cons_succ]at hk;rw[List.flatten_cons,List.getElem?_append_right (by rw[hy,Nat.succ_mul];omega),hy,<-ih (fun c hc=>hs c (by simp[hc])) hk];congr 1;rw[Nat.succ_mul];omega
theorem zia{s:Nat}{css:List (List Value)}(hs:∀c∈css,c.length=s):css.flatten.length=css.length*s:=by
 induction css with
 | nil=>simp
 | cons y ys ih=>rw[List.flatten_cons,List.length_append,hs y (by simp),ih (fun c hc=>hs c (by simp[hc])),List.length_cons,Nat.succ_mul,Nat.add_comm]
theorem zoy{s:Nat}{css:List (List Value)}(hs:∀c∈css,c.length=s){k j:Nat}{c:List Value}{u:Value}(hk:css[k]?=some c)(hj:j<s):css.flatten.set (k*s+j) u=(css.set k (c.set j u)).flatten:=by
 induction css generalizing k with
 | nil=>simp at hk
 | cons y ys ih=>
  have hy:=hs y (by simp);cases k with
  | zero=>
   simp only[List.getElem?_cons_zero,Option.some.injEq]at hk;subst hk;rw[List.flatten_cons,Nat.zero_mul,Nat.zero_add,List.set_append_left _ _ (by omega),List.set_cons_zero,List.flatten_cons]
  | succ k=>
   simp only[List.getElem?_cons_succ]at hk;rw[List.flatten_cons,List.set_append_right _ _ (by rw[hy,Nat.succ_mul];omega),hy,List.set_cons_succ,List.flatten_cons,<-ih (fun c hc=>hs c (by simp[hc])) hk];congr 2;rw[Nat.succ_mul];omega
structure Ty (α:Type) where
 s:Nat
 pos:0<s
 zero:α
 R:Yw->Nat->List Value->α->Prop
 O:Yw->(Nat->Prop)->List Value->α->Prop
 rlen:∀{w B cs x},R w B cs x->cs.length=s
 keep:∀{w w' B cs x},(∀p:Addr,p.block<B->w'.cell? p=w.cell? p)->R w B cs x->R w' B cs x
 more:∀{w B B' cs x},B<=B'->R w B cs x->R w B' cs x
 read:∀{w F cs x},O w F cs x->R w w.heap.size cs x
 okeep:∀{w w' F cs x},(∀b,F b->w'.heap[b]?=w.heap[b]?)->O w F cs x->O w' F cs x
 owide:∀{w F F' cs x},(∀b,F b->F' b)->O w F cs x->O w F' cs x
 ocells:∀{w F cs x},O w F cs x->∀u∈cs,u.oneCell'=true
 oreal:∀{w F cs x},O w F cs x->O w (fun b=>F b/\b<w.heap.size) cs x
def Ty.flat {α:Type} (s:Nat) (pos:0<s) (zero:α) (enc:α->List Value) (henc:∀x,(enc x).length=s) (h1:∀x,∀u∈enc x,u.oneCell'=true):Ty α where
 s:=s
 pos:=pos
 zero:=zero
 R _ _ cs x:=cs=enc x
 O _ _ cs x:=cs=enc x
 rlen h:=by rw[h];exact henc _
 keep _ h:=h
 more _ h:=h
 read h:=h
 okeep _ h:=h
 owide _ h:=h
 ocells h:=by rw[h];exact h1 _
 oreal h:=h
def tI:Ty Int:=Ty.flat 1 (by decide) 0 (fun x=>[.int .i64 x]) (fun _=>rfl) (by simp[Value.oneCell'])
def Ty.prod {α β:Type} (a:Ty α) (b:Ty β):Ty (α×β) where
 s:=a.s+b.s
 pos:=Nat.add_pos_left a.pos _
 zero:=(a.zero,b.zero)
 R w B cs x:=∃c1 c2,cs=c1++c2/\a.R w B c1 x.1/\b.R w B c2 x.2
 O w F cs x:=∃c1 c2 F1 F2,cs=c1++c2/\a.O w F1 c1 x.1/\b.O w F2 c2 x.2/\(∀k,F1 k->F k)/\(∀k,F2 k->F k)/\(∀k,F1 k->¬F2 k)
 rlen:=by rintro w B cs x ⟨c1,c2,rfl,h1,h2⟩;rw[List.length_append,a.rlen h1,b.rlen h2]
 keep:=by rintro w w' B cs x hk ⟨c1,c2,rfl,h1,h2⟩;exact⟨c1,c2,rfl,a.keep hk h1,b.keep hk h2⟩
 more:=by rintro w B B' cs x hk ⟨c1,c2,rfl,h1,h2⟩;exact⟨c1,c2,rfl,a.more hk h1,b.more hk h2⟩
 read:=by rintro w F cs x ⟨c1,c2,F1,F2,rfl,h1,h2,_⟩;exact⟨c1,c2,rfl,a.read h1,b.read h2⟩
 okeep:=by rintro w w' F cs x hk ⟨c1,c2,F1,F2,rfl,h1,h2,f1,f2,f3⟩;exact⟨c1,c2,F1,F2,rfl,a.okeep (fun b hb=>hk b (f1 b hb)) h1,b.okeep (fun b hb=>hk b (f2 b hb)) h2,f1,f2,f3⟩
 owide:=by rintro w F F' cs x hk ⟨c1,c2,F1,F2,rfl,h1,h2,f1,f2,f3⟩;exact⟨c1,c2,F1,F2,rfl,h1,h2,fun k h=>hk k (f1 k h),fun k h=>hk k (f2 k h),f3⟩
 ocells:=by
  rintro w F cs x ⟨c1,c2,F1,F2,rfl,h1,h2,_⟩ u hu;rcases List.mem_append.1 hu with h|h
  ·exact a.ocells h1 u h
  exact b.ocells h2 u h
 oreal:=by
  rintro w F cs x ⟨c1,c2,F1,F2,rfl,h1,h2,f1,f2,f3⟩;exact⟨c1,c2,_,_,rfl,a.oreal h1,b.oreal h2,fun k h=>⟨f1 k h.1,h.2⟩,fun k h=>⟨f2 k h.1,h.2⟩,fun k h h'=>f3 k h.1 h'.1⟩
section
variable {α:Type} (t:Ty α)
def RS (w:Yw) (B:Nat) (v:Value) (xs:List α):Prop:=
 ∃(A:Yo) (c:Nat) (css:List (List Value)),v=.slice A xs.length c/\xs.length<=c/\c<=maxLen/\css.length=xs.length/\Reads w B t.s A xs.length css.flatten/\∀k (h:k<xs.length) (h':k<css.length),t.R w B css[k] xs[k]
def OS (e:TypeId) (w:Yw) (F:Nat->Prop) (v:Value) (xs:List α):Prop:=
 ∃(css:List (List Value)) (Fs:Nat->Nat->Prop),w.ownsRow 0 e t.s v xs.length css.flatten/\css.length=xs.length/\(∀g,v.ownBlock=some g->F g)/\(∀k b,Fs k b->F b/\v.ownBlock≠some b)/\
  (∀j k b,j≠k->Fs j b->¬Fs k b)/\∀k (h:k<xs.length) (h':k<css.length),t.O w (Fs k) css[k] xs[k]
end
section
variable {α:Type} {t:Ty α} {e:TypeId} {w w':Yw} {F F':Nat->Prop} {B B':Nat} {v:Value} {xs:List α}
theorem RS.keep(hk:∀p:Addr,p.block<B->w'.cell? p=w.cell? p)(h:RS t w B v xs):RS t w' B v xs:=by
 obtain⟨A,c,css,hv,h1,h2,h3,h4,h5⟩:=h;exact⟨A,c,css,hv,h1,h2,h3,h4.keep hk,fun k h h'=>t.keep hk (h5 k h h')⟩
theorem RS.more(hB:B<=B')(h:RS t w B v xs):RS t w B' v xs:=by
 obtain⟨A,c,css,hv,h1,h2,h3,h4,h5⟩:=h;exact⟨A,c,css,hv,h1,h2,h3,h4.more hB,fun k h h'=>t.more hB (h5 k h h')⟩
theorem OS.read(h:OS t e w F v xs):RS t w w.heap.size v xs:=by
 obtain⟨css,Fs,h1,h2,_,_,_,h6⟩:=h;obtain⟨A,c,rfl,hc,hm,hr⟩:=zek h1;exact⟨A,c,css,rfl,hc,hm,h2,hr,fun k h h'=>t.read (h6 k h h')⟩
theorem OS.keep(hk:∀b,F b->w'.heap[b]?=w.heap[b]?)(h:OS t e w F v xs):OS t e w' F v xs:=by
 obtain⟨css,Fs,h1,h2,h3,h4,h5,h6⟩:=h;refine⟨css,Fs,⟨h1.1,?_⟩,h2,h3,h4,h5,fun k h h'=>t.okeep (fun b hb=>hk b (h4 k b hb).1) (h6 k h h')⟩;rcases h1.2 with hn|⟨g,cap,cur,rfl,hb,hg,rest⟩
 ·exact .inl hn
 exact .inr ⟨g,cap,cur,rfl,hb,by rw[hk g (h3 g rfl)];exact hg,rest⟩
theorem OS.wide(hF:∀b,F b->F' b)(h:OS t e w F v xs):OS t e w F' v xs:=by
 obtain⟨css,Fs,h1,h2,h3,h4,h5,h6⟩:=h;exact⟨css,Fs,h1,h2,fun g hg=>hF g (h3 g hg),fun k b hb=>⟨hF b (h4 k b hb).1,(h4 k b hb).2⟩,h5,h6⟩
theorem RS.cap{A:Yo}{n c:Nat}(h:RS t w B (.slice A n c) xs):xs.length=n/\n<=c/\c<=maxLen:=by
 obtain⟨A',c',css,hv,h1,h2,_⟩:=h;simp only[Value.slice.injEq]at hv;obtain⟨rfl,rfl,rfl⟩:=hv;exact⟨rfl,h1,h2⟩
theorem RS.shape(h:RS t w B v xs):∃A c,v=.slice A xs.length c:=by
 obtain⟨A,c,css,hv,_⟩:=h;exact⟨A,c,hv⟩
theorem OS.shape(h:OS t e w F v xs):∃A c,v=.slice A xs.length c:=RS.shape h.read
theorem RS.at(h:RS t w B v xs){k:Nat}(hk:k<xs.length):∃b o c cs,v=.slice (some ⟨b,o,none⟩) xs.length c/\b<B/\cs.length=t.s/\t.R w B cs xs[k]/\∀j u,cs[j]?=some u->w.cell? ⟨b,o+k*t.s+j,none⟩=some u:=by
 obtain⟨A,c,css,rfl,h1,h2,h3,h4,h5⟩:=h;obtain⟨ad,rfl,hb,hc⟩:=h4.2 (by omega)
 have hs:∀c∈css,c.length=t.s:=fun c hc=>by
  obtain⟨i,hi,rfl⟩:=List.getElem_of_mem hc;exact t.rlen (h5 i (by omega) hi)
 have h0:0<css.flatten.length:=by
  rw[zia hs];exact Nat.mul_pos (by omega) t.pos
 have hsp:=zg3 (hc 0 _ (List.getElem?_eq_getElem h0));have hsp':ad=⟨ad.block,ad.off,none⟩:=by simpa [Addr.add]using hsp
 have hr:=h5 k hk (by omega);refine⟨ad.block,ad.off,c,css[k]'(by omega),by rw[<-hsp'],hb,t.rlen hr,hr,fun j u hu=>?_⟩;have hj:j<t.s:=by rw[<-t.rlen hr];exact(List.getElem?_eq_some_iff.1 hu).1
 have:=hc (k*t.s+j) u (by rw[zh9 hs (List.getElem?_eq_getElem (by omega)) j hj];exact hu);rw[hsp',Addr.add_lit,<-Nat.add_assoc]at this;exact this
end
def Ty.sl {α:Type} (t:Ty α) (e:TypeId):Ty (List α) where
 s:=1
 pos:=Nat.one_pos
 zero:=[]
 R w B cs x:=∃v,cs=[v]/\RS t w B v x
 O w F cs x:=∃v,cs=[v]/\OS t e w F v x
 rlen:=by rintro w B cs x ⟨v,rfl,_⟩;rfl
 keep:=by rintro w w' B cs x hk ⟨v,rfl,h⟩;exact⟨v,rfl,h.keep hk⟩
 more:=by rintro w B B' cs x hk ⟨v,rfl,h⟩;exact⟨v,rfl,h.more hk⟩
 read:=by rintro w F cs x ⟨v,rfl,h⟩;exact⟨v,rfl,h.read⟩
 okeep:=by rintro w w' F cs x hk ⟨v,rfl,h⟩;exact⟨v,rfl,h.keep hk⟩
 owide:=by rintro w F F' cs x hk ⟨v,rfl,h⟩;exact⟨v,rfl,h.wide hk⟩
 ocells:=by
  rintro w F cs x ⟨v,rfl,h⟩ u hu;obtain⟨A,c,hv⟩:=h.shape;simp only[List.mem_singleton]at hu;subst hu hv
  rfl
 oreal:=by
  rintro w F cs x ⟨v,rfl,css,Fs,h1,h2,h3,h4,h5,h6⟩;exact⟨v,rfl,css,_,h1,h2,fun g hg=>⟨h3 g hg,(h1.lt g hg).2⟩,fun k b hb=>⟨⟨(h4 k b hb.1).1,hb.2⟩,(h4 k b hb.1).2⟩,fun j k b hne h h'=>h5 j k b hne h.1 h'.1,fun k h h'=>t.oreal (h6 k h h')⟩
section
variable {α:Type} {t:Ty α} {e:TypeId} {w w':Yw} {F F':Nat->Prop} {B B' lo hi:Nat} {v:Value} {xs:List α}
def Iv (lo hi:Nat):Nat->Prop:=fun k=>lo<=k/\k<hi
theorem Iv.mono{lo hi lo' hi':Nat}(h1:lo'<=lo)(h2:hi<=hi'):∀b,Iv lo hi b->Iv lo' hi' b:=fun b ⟨h,h'⟩=>⟨Nat.le_trans h1 h,Nat.lt_of_lt_of_le h' h2⟩
theorem RS.later(h:RS t w w.heap.size v xs)(hb:Below w.heap.size w w'):RS t w' w'.heap.size v xs:=(h.keep fun _ hp=>hb.cell hp).more hb.size
theorem RS.below(h:RS t w B v xs)(hb:Below B w w'):RS t w' B v xs:=h.keep fun _ hp=>hb.cell hp
theorem OS.below(h:OS t e w (Iv lo hi) v xs)(hb:Below B w w')(hB:hi<=B):OS t e w' (Iv lo hi) v xs:=h.keep fun b hF=>hb.block b (Nat.lt_of_lt_of_le hF.2 hB)
theorem OS.mid{l r:Nat}(h:OS t e w (Iv lo hi) v xs)(hm:Mid l r w w')(hd:hi<=l\/r<=lo)(hs:hi<=w.heap.size):OS t e w' (Iv lo hi) v xs:=
 h.keep fun b ⟨h1,h2⟩=>hm.block b (by omega) (by omega)
theorem OS.iv{lo' hi':Nat}(h:OS t e w (Iv lo hi) v xs)(h1:lo'<=lo)(h2:hi<=hi'):OS t e w (Iv lo' hi') v xs:=h.wide (Iv.mono h1 h2)
theorem OS.nil(t:Ty α)(e:TypeId)(w:Yw)(F:Nat->Prop):OS t e w F (.slice none 0 0) []:=
 ⟨[],fun _ _=>False,World.ownsRow_nil _ _ _ _,rfl,by simp[Value.ownBlock],fun _ _ h=>h.elim,fun _ _ _ _ h=>h.elim,fun k h=>by simp at h⟩
theorem RS.nil(t:Ty α)(w:Yw)(B:Nat):RS t w B (.slice none 0 0) []:=⟨none,0,[],rfl,Nat.le_refl _,by simp[maxLen],rfl,Reads.none_,fun k h=>by simp at h⟩
def OH (t:Ty α) (e:TypeId) (w:Yw) (F:Nat->Prop) (v:Value) (xs:List α) (css:List (List Value)) (Fs:Nat->Nat->Prop) (k:Nat):Prop:=
 w.ownsRow 0 e t.s v xs.length css.flatten/\css.length=xs.length/\(∀c∈css,c.length=t.s)/\(∀g,v.ownBlock=some g->F g)/\(∀k b,Fs k b->F b/\v.ownBlock≠some b)/\
  (∀j k b,j≠k->Fs j b->¬Fs k b)/\∀i (h:i<xs.length) (h':i<css.length),i≠k->t.O w (Fs i) css[i] xs[i]
theorem OS.open(h:OS t e w F v xs){k:Nat}(hk:k<xs.length):∃css Fs,OH t e w F v xs css Fs k/\∃cs,css[k]?=some cs/\t.O w (Fs k) cs xs[k]:=by
 obtain⟨css,Fs,h1,h2,h3,h4,h5,h6⟩:=h
 exact⟨css,Fs,⟨h1,h2,fun c hc=>by
  obtain⟨i,hi,rfl⟩:=List.getElem_of_mem hc;exact t.rlen (t.read (h6 i (by omega) hi)),h3,h4,h5,fun i h h' _=>h6 i h h'⟩,css[k]'(by omega),List.getElem?_eq_getElem (by omega),h6 k hk (by omega)⟩
variable {css:List (List Value)} {Fs:Nat->Nat->Prop} {k:Nat}
theorem OH.fits(h:OH t e w F v xs css Fs k):∀b,Fs k b->F b:=fun b hb=>(h.2.2.2.2.1 k b hb).1
theorem OH.form{A:Yo}{m c:Nat}(h:OH t e w F (.slice A m c) xs css Fs k)(hk:k<xs.length):∃g,A=some ⟨g,0,none⟩/\F g/\¬Fs k g/\g<w.heap.size/\m=xs.length:=by
 obtain⟨h1,h2,h3,h4,h5,h6,h7⟩:=h;rcases h1.2 with⟨h0,_⟩|⟨g,cap,cur,h0,hg1,hg2,_⟩
 ·simp only[Value.slice.injEq]at h0;omega
 simp only[Value.slice.injEq]at h0;obtain⟨rfl,rfl,rfl⟩:=h0;exact⟨g,rfl,h4 g rfl,fun hf=>(h5 k g hf).2 rfl,(Array.getElem?_eq_some_iff.1 hg2).1,rfl⟩
theorem OH.cell{g m c:Nat}(h:OH t e w F (.slice (some ⟨g,0,none⟩) m c) xs css Fs k){cs:List Value}(hcs:css[k]?=some cs){j:Nat}{u:Value}(hj:cs[j]?=some u):
 w.cell? ⟨g,k*t.s+j,none⟩=some u/\w.frozen? ⟨g,k*t.s+j,none⟩=false:=by
 obtain⟨h1,h2,h3,_⟩:=h;have hk:k<css.length:=(List.getElem?_eq_some_iff.1 hcs).1
 have hm:m=xs.length:=by
  rcases h1.2 with⟨h0,_⟩|⟨g',cap,cur,h0,_⟩
  ·simp at h0
  simp only[Value.slice.injEq]at h0;exact h0.2.1
 subst hm;have hl:cs.length=t.s:=h3 cs (List.mem_of_getElem? hcs);have hjs:j<t.s:=by rw[<-hl];exact(List.getElem?_eq_some_iff.1 hj).1
 have hf:=zh9 h3 hcs j hjs;rw[hj]at hf;have hlt:=(List.getElem?_eq_some_iff.1 hf).1;exact⟨by rw[World.ownsRow.cellAt h1 _ (by rw[<-h1.1];exact hlt)];exact hf,World.ownsRow.frozenAt h1 _⟩
theorem OH.set{g m c:Nat}(h:OH t e w F (.slice (some ⟨g,0,none⟩) m c) xs css Fs k){cs:List Value}(hcs:css[k]?=some cs)(j:Nat)(hj:j<t.s)(u:Value):
 OH t e (w.setCell ⟨g,k*t.s+j,none⟩ u) F (.slice (some ⟨g,0,none⟩) m c) xs (css.set k (cs.set j u)) Fs k/\(css.set k (cs.set j u))[k]?=some (cs.set j u):=by
 obtain⟨h1,h2,h3,h4,h5,h6,h7⟩:=h;have hk:k<css.length:=(List.getElem?_eq_some_iff.1 hcs).1
 have hm:m=xs.length:=by
  rcases h1.2 with⟨h0,_⟩|⟨g',cap,cur,h0,_⟩
  ·simp at h0
  simp only[Value.slice.injEq]at h0;exact h0.2.1
 subst hm;have hl:cs.length=t.s:=h3 cs (List.mem_of_getElem? hcs);have hst:=(World.ownsRow.stored h1 (k*t.s+j) u).1;rw[zoy h3 hcs hj]at hst;refine⟨⟨hst,by rw[List.length_set];exact h2,fun c hc=>?_,h4,h5,h6,fun i hi hi' hne=>?_⟩,by simp[hk]⟩
 ·rcases List.mem_or_eq_of_mem_set hc with hc|rfl
  ·exact h3 c hc
  rw[List.length_set];exact hl
 rw[List.getElem_set_ne (fun e=>hne e.symm)];refine t.okeep (fun b hb=>?_) (h7 i hi (by rw[List.length_set]at hi';exact hi') hne);exact heap_setCell_other w ⟨g,k*t.s+j,none⟩ b u (fun e=>(h5 i b hb).2 (by rw[e];rfl))
theorem OH.chg(h:OH t e w F v xs css Fs k)(hc:Chg (Fs k) w w'):OH t e w' F v xs css Fs k:=by
 obtain⟨h1,h2,h3,h4,h5,h6,h7⟩:=h;refine⟨⟨h1.1,?_⟩,h2,h3,h4,h5,h6,fun i hi hi' hne=>?_⟩
 ·rcases h1.2 with hn|⟨g,cap,cur,rfl,hb,hg,rest⟩
  ·exact .inl hn
  exact .inr ⟨g,cap,cur,rfl,hb,by rw[hc.block g (Array.getElem?_eq_some_iff.1 hg).1 (fun hf=>(h5 k g hf).2 rfl)];exact hg,rest⟩
 have ho:=h7 i hi hi' hne;exact t.owide (fun b hb=>hb.1) (t.okeep (fun b hb=>hc.block b hb.2 (fun hk=>h6 k i b (fun e=>hne e.symm) hk hb.1)) (t.oreal ho))
theorem OH.keep(h:OH t e w F v xs css Fs k)(hk:∀b,F b->w'.heap[b]?=w.heap[b]?):OH t e w' F v xs css Fs k:=by
 obtain⟨h1,h2,h3,h4,h5,h6,h7⟩:=h;refine⟨⟨h1.1,?_⟩,h2,h3,h4,h5,h6,fun i hi hi' hne=>t.okeep (fun b hb=>hk b (h5 i b hb).1) (h7 i hi hi' hne)⟩;rcases h1.2 with hn|⟨g,cap,cur,rfl,hb,hg,rest⟩
 ·exact .inl hn
 exact .inr ⟨g,cap,cur,rfl,hb,by rw[hk g (h4 g rfl)];exact hg,rest⟩
theorem OH.fill(h:OH t e w F v xs css Fs k){cs:List Value}(hcs:css[k]?=some cs){y:α}(hy:t.O w (Fs k) cs y):OS t e w F v (xs.set k y):=by
 obtain⟨h1,h2,h3,h4,h5,h6,h7⟩:=h;refine⟨css,Fs,by rw[List.length_set];exact h1,by rw[List.length_set];exact h2,h4,h5,h6,fun i hi hi'=>?_⟩
 by_cases hik:i=k
 ·subst hik;rw[List.getElem_set_self];rw[List.getElem?_eq_getElem hi',Option.some.injEq]at hcs;rw[hcs];exact hy
 rw[List.getElem_set_ne (fun e=>hik e.symm)];exact h7 i (by rw[List.length_set]at hi;exact hi) hi' hik
theorem OH.fill'(h:OH t e w F v xs css Fs k){cs:List Value}(hcs:css[k]?=some cs){y:α}{Fe:Nat->Prop}(hy:t.O w Fe cs y)(hd:∀b,Fe b->¬F b):OS t e w (fun b=>F b\/Fe b) v (xs.set k y):=by
 obtain⟨h1,h2,h3,h4,h5,h6,h7⟩:=h;refine⟨css,fun i=>if i=k then Fe else Fs i,by rw[List.length_set];exact h1,by rw[List.length_set];exact h2,fun g hg=>.inl (h4 g hg),fun i b hb=>?_,fun i j b hne hi hj=>?_,fun i hi hi'=>?_⟩
 ·change (if i=k then Fe else Fs i) b at hb
  by_cases hik:i=k
  ·rw[if_pos hik]at hb;exact⟨.inr hb,fun hg=>hd b hb (h4 b hg)⟩
  rw[if_neg hik]at hb;exact⟨.inl (h5 i b hb).1,(h5 i b hb).2⟩
 ·change (if i=k then Fe else Fs i) b at hi;change (if j=k then Fe else Fs j) b at hj
  by_cases hik:i=k
  ·rw[if_pos hik]at hi;rw[if_neg (fun e=>hne (hik.trans e.symm))]at hj;exact hd b hi (h5 j b hj).1
  rw[if_neg hik]at hi
  by_cases hjk:j=k
  ·rw[if_pos hjk]at hj;exact hd b hj (h5 i b hi).1
  rw[if_neg hjk]at hj;exact h6 i j b hne hi hj
 by_cases hik:i=k
 ·subst hik;rw[List.getElem_set_self];rw[List.getElem?_eq_getElem hi',Option.some.injEq]at hcs;rw[hcs];simpa using hy
 rw[List.getElem_set_ne (fun e=>hik e.symm)];simpa [hik]using h7 i (by rw[List.length_set]at hi;exact hi) hi' hik
theorem OS.made{zc:List Value}{n:Nat}{z:Value}{c:Nat}(hz:∀w F,t.O w F zc t.zero)(hzl:z.cells.toList=zc)(hF:F w.heap.size)(h:w'.ownsRow w.heap.size e t.s (.slice (some ⟨w.heap.size,0,none⟩) n c) n (madeCells z.cells (n*t.s)).toList):
 OS t e w' F (.slice (some ⟨w.heap.size,0,none⟩) n c) (List.replicate n t.zero):=by
 have hl:zc.length=t.s:=t.rlen (t.read (hz w F));have hm:=zj5 (enc:=fun _:Unit=>zc) (s:=t.s) z.cells n () hzl.symm (fun _=>hl) t.pos;refine⟨List.replicate n zc,fun _ _=>False,?_,by simp,fun g hg=>?_,fun _ _ h=>h.elim,fun _ _ _ _ h=>h.elim,fun k hk hk'=>by simpa using hz w' _⟩
 ·rw[List.length_replicate];rw[hm]at h
  have e0:(List.replicate n ()).flatMap (fun _=>zc)=(List.replicate n zc).flatten:=by
   rw[List.flatMap_def,List.map_replicate]
  rw[e0]at h;exact zg1 h (Nat.zero_le _)
 simp only[Value.ownBlock,Option.some.injEq]at hg;rw[<-hg];exact hF
theorem OS.lt(h:OS t e w F v xs):∀g,v.ownBlock=some g->F g/\g<w.heap.size:=by
 obtain⟨css,Fs,h1,_,h3,_⟩:=h;exact fun g hg=>⟨h3 g hg,(h1.lt g hg).2⟩
theorem OS.real(h:OS t e w F v xs):OS t e w (fun b=>F b/\b<w.heap.size) v xs:=by
 obtain⟨css,Fs,h1,h2,h3,h4,h5,h6⟩:=h;exact⟨css,_,h1,h2,fun g hg=>⟨h3 g hg,(h1.lt g hg).2⟩,fun k b hb=>⟨⟨(h4 k b hb.1).1,hb.2⟩,(h4 k b hb.1).2⟩,fun j k b hne h h'=>h5 j k b hne h.1 h'.1,fun k h h'=>t.oreal (h6 k h h')⟩
theorem OS.chg(h:OS t e w F v xs)(hc:Chg F' w w')(hd:∀b,F b->¬F' b):OS t e w' F v xs:=
 (h.real.keep fun b hb=>hc.block b hb.2 (hd b hb.1)).wide fun _ hb=>hb.1
end
section
variable {α:Type} {t:Ty α} {P:Program} {T e:TypeId} {z:Value} {bytes:Nat}
theorem zc2(hE:EI P T e z t.s bytes){w:Yw}{ops:Array Oper}{rest:List Oper}{o:Oper}{a:Act}{Q:Exit->Act->Yw->Prop}(us:Array Value)
 (hgd:o.guard=none) (s x:Operand) (ho:o.op=.call { callee:=.builtin .append,args:=#[s,x],argTypes:=#[T,T] })
 {F Fe:Nat->Prop} {v:Value} {xs:List α} {y:α} (hown:OS t e w F v xs) (hy:t.O w Fe us.toList y) (hd:∀b,F b->¬Fe b) (hs:a.eval s=v)
 (hx:a.eval x=.slice (some ⟨w.heap.size,0,none⟩) 1 1)
 (hn:xs.length+1<=maxLen) (hbytes:(xs.length+1)*bytes<=140737488355328)
 (K:∀v' w',OS t e w' (fun b=>F b\/Fe b\/w.heap.size<b/\b<w'.heap.size) v' (xs++[y])->Chg F w w'->wpList P ops Q rest (a.put o.dst v') w') :
 wpList P ops Q (o::rest) a (w.alloc (.cells us e)):=by
 obtain⟨ht,hinfo,hzs,hsz⟩:=hE;obtain⟨i0,hi,hz0,hz1,hz2⟩:=info_parts hinfo;have hown':=hown.real;have hy':=t.oreal hy;obtain⟨css,Fs,h1,h2,h3,h4,h5,h6⟩:=hown';have hus:us.toList.length=t.s:=t.rlen (t.read hy);refine wpList_append_own_at _ hgd s x T ho 0 e i0 z t.s bytes ht hi hz0 hz1 hz2 hzs hsz v xs.length css.flatten hs (h1.alloc _) ⟨w.heap.size,0,none⟩ 1 1 us.toList hx (by rw[hus,Nat.one_mul]) ?_ (t.ocells hy) hn hbytes (Nat.zero_le _) ?_
 ·intro j u hj;have hadd:(⟨w.heap.size,0,none⟩:Addr).add j=⟨w.heap.size,j,none⟩:=by unfold Addr.add;split <;> simp_all
  rw[hadd,cell_of_row _ w.heap.size j us e (0,0) (heap_alloc_new w _)];simpa using hj
 intro v' w' g1 g2 _ g4;have hsz':(w.alloc (.cells us e)).heap.size=w.heap.size+1:=by simp
 have hg:w.grownBy w' v.ownBlock:=by
  have:=World.grownBy_alloc w (.cells us e) none
  exact⟨g2.os.trans this.os,g2.tape.trans this.tape,g2.output.trans this.output,Nat.le_trans this.size g2.size,fun k hk hne=>by
   rw[g2.block k (by simp;omega) hne];exact this.block k hk (by simp)⟩
 have hc:Chg F w w':=Chg.of_grown hg fun k hk=>(h3 k hk).1
 refine K v' w' ⟨css++[us.toList],fun i b=>if i=xs.length then Fe b/\b<w.heap.size else Fs i b,?_,by simp[h2],fun g hgb=>?_,fun i b hb=>?_,fun i j b hne hbi hbj=>?_,fun i hi1 hi2=>?_⟩ hc
 ·rw[List.flatten_append,List.length_append];simpa using g1
 ·rcases g4 with h|h
  ·rw[h]at hgb;exact .inl (h3 g hgb).1
  rw[h,hsz',Option.some.injEq]at hgb;exact .inr (.inr ⟨by omega,(g1.lt g (by rw[h,hsz'];simp;omega)).2⟩)
 ·change (if i=xs.length then Fe b/\b<w.heap.size else Fs i b)at hb
  have hlt:b<w.heap.size:=by
   by_cases hil:i=xs.length
   ·rw[if_pos hil]at hb;exact hb.2
   rw[if_neg hil]at hb;exact(h4 i b hb).1.2
  refine⟨?_,?_⟩
  ·by_cases hil:i=xs.length
   ·rw[if_pos hil]at hb;exact .inr (.inl hb.1)
   rw[if_neg hil]at hb;exact .inl (h4 i b hb).1.1
  rcases g4 with h|h
  ·rw[h]
   by_cases hil:i=xs.length
   ·rw[if_pos hil]at hb;exact fun e=>hd b (h3 b e).1 hb.1
   rw[if_neg hil]at hb;exact(h4 i b hb).2
  rw[h,hsz'];intro e;injection e with e
  omega
 ·change (if i=xs.length then Fe b/\b<w.heap.size else Fs i b)at hbi;change (if j=xs.length then Fe b/\b<w.heap.size else Fs j b)at hbj
  by_cases hil:i=xs.length
  ·rw[if_pos hil]at hbi;rw[if_neg (fun e=>hne (hil.trans e.symm))]at hbj;exact hd b (h4 j b hbj).1.1 hbi.1
  rw[if_neg hil]at hbi
  by_cases hjl:j=xs.length
  ·rw[if_pos hjl]at hbj;exact hd b (h4 i b hbi).1.1 hbj.1
  rw[if_neg hjl]at hbj;exact h5 i j b hne hbi hbj
 by_cases hil:i=xs.length
 ·subst hil;rw[List.getElem_append_right (by omega),List.getElem_append_right (by omega)];simp only[h2,Nat.sub_self,List.getElem_singleton,if_true];exact t.okeep (fun b hb=>hg.block b hb.2 (fun e=>hd b (h3 b e.symm).1 hb.1)) hy'
 have hi':i<xs.length:=by rw[List.length_append]at hi1;simp at hi1;omega
 rw[List.getElem_append_left (by omega),List.getElem_append_left hi'];simp only[if_neg hil];exact t.okeep (fun b hb=>hg.block b (h4 i b hb).1.2 (fun e=>(h4 i b hb).2 e.symm)) (h6 i hi' (by omega))
end
end
end Go.Proofs.YtifeldeikhmckaaGreat
