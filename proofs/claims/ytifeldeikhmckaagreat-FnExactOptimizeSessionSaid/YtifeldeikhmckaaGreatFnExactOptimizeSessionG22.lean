import Derived.Test.YtifeldeikhmckaaGreatFnExactOptimizeSessionG21
import Derived.Test.YtifeldeikhmckaaGreatFnExactOptimizeSessionG12
set_option linter.unusedVariables false
set_option linter.unusedSimpArgs false
set_option maxRecDepth 100000
set_option maxHeartbeats 4000000
namespace Go.Proofs.YtifeldeikhmckaaGreat
open Go.RowKit Go.Sort
section
structure M.PF (ns:List Node) (tb:List (List Int)) (O:List Int):Prop where
 tabs:zbt tb=true
 ok:∀(i:Nat) (x:Node),ns[i]?=some x->zaj x tb.length=true
 fr:∀(i:Nat) (x:Node),ns[i]?=some x->∀f∈x.2.2.2,0<=f/\f<ns.length
 inp:∀(i:Nat) (x:Node),ns[i]?=some x->x.1=1->x.2.1=0
 top:M.Topo ns O
 len:ns.length<=24
structure M.CO (ns:List Node) (cs:List (List Int)):Prop where
 len:cs.length=ns.length
 at_:∀(i:Nat) (x:Node),ns[i]?=some x->(zbz cs i).length=zd8 x/\(zbz cs i).all M.smp=true
theorem zl0{ns:List Node}{i:Nat}{x:Node}(h:ns[i]?=some x):zab ns i=x:=by rw[zab,h];rfl
theorem zcq{ns:List Node}{i:Nat}(h:i<ns.length):ns[i]?=some (zab ns i):=by rw[zab,List.getElem?_eq_getElem h];rfl
theorem zgq{xs:List Int}(h:xs.all M.smp=true)(k:Nat):M.smp (M.i_ xs k)=true:=by
 rw[M.i_];cases e:xs[k]? with
 | none=>rfl
 | some x=>exact List.all_eq_true.1 h x (List.mem_of_getElem? e)
theorem zs6{x:Int}(h:M.smp x=true)(n:Nat):M.smp (x / 2 ^ n)=true:=by
 obtain⟨h1,h2⟩:=smp_bd h;have hp0:(0:Int)<2 ^ n:=Int.pow_pos (by decide);have hp:(1:Int)<=2 ^ n:=by omega
 refine zbf.2 ⟨?_,?_⟩
 ·rw[Int.le_ediv_iff_mul_le (by omega)];have:(-2147483648:Int)*2 ^ n<=(-2147483648:Int)*1:=Int.mul_le_mul_of_nonpos_left (by decide) hp;omega
 rcases Int.lt_or_le x 0 with h0|h0
 ·have:=Int.ediv_neg_of_neg_of_pos h0 (show (0:Int)<2 ^ n by omega);omega
 have:=Int.ediv_le_self (2 ^ n) h0;omega
theorem zs7{t:List Int}(h:t.all M.smp=true)(x:Int):M.smp (zfb t x)=true:=zgq h _
theorem zs8{tb:List (List Int)}(h:zbt tb=true)(k:Nat):(zbz tb k).all M.smp=true:=by
 rw[zbz];cases e:tb[k]? with
 | none=>rfl
 | some t=>exact(zft h e).2.1
theorem zs9{a x:Int}(h:0<=a/\a<=2147483647):M.smp (max (-a) (min a x))=true:=by
 refine zbf.2 ?_;omega
theorem zta{x:Node}{tb:List (List Int)}{ins s:List Int}{t:Int}(hok:zaj x t=true)(ht:zbt tb=true)(hi:ins.all M.smp=true)(hs:s.all M.smp=true):M.smp (zam x tb ins s)=true:=by
 obtain⟨k,a,b,l⟩:=x;obtain⟨hb5,hb10,hb11,hb13,hb17,hb2,hb12,hb14,hb1⟩:=zes hok;have e0:=zgq hi 0;have e1:=zgq hi 1;have e2:=zgq hi 2;have f0:=zgq hs 0;have g2:k=2->M.smp a=true:=fun h=>zbf.2 (hb2 h)
 obtain⟨hk,-,-⟩:=zdj hok;simp only at hk;rcases zgk hk with rfl|rfl|rfl|rfl|rfl|rfl|rfl|rfl|rfl|rfl|rfl|rfl|rfl|rfl|rfl|rfl|rfl
 ·simpa [zam]using e0
 ·simpa [zam]using g2 rfl
 ·simpa [zam]using M.smp_wrap _
 ·simpa [zam]using M.smp_wrap _
 ·simpa [zam]using M.smp_wrap _
 ·simpa [zam]using f0
 ·simpa [zam]using M.smp_wrap _
 ·simpa [zam]using M.smp_wrap _
 ·simpa [zam]using M.smp_wrap _
 ·have:=zs6 e0 a.toNat;simpa [zam]using this
 ·have:=zs9 (x:=M.i_ ins 0) (hb11 rfl);simpa [zam]using this
 ·simpa [zam]using f0
 ·have:=zs7 (zs8 ht a.toNat) (M.i_ ins 0);simpa [zam]using this
 ·simpa [zam]using f0
 ·have:zam (15,a,b,l) tb ins s=if 0<=M.i_ ins 0 then M.i_ ins 1 else M.i_ ins 2:=by simp[zam]
  rw[this]
  split
  ·exact e1
  exact e2
 ·have:zam (16,a,b,l) tb ins s=if 0<M.i_ ins 1 then M.i_ ins 0 else M.i_ s 0:=by simp[zam]
  rw[this]
  split
  ·exact e0
  exact f0
 simpa [zam]using M.smp_wrap _
theorem ztb{x:Node}{t:Int}(hok:zaj x t=true):(zep x).length=zd8 x/\(zep x).all M.smp=true:=by
 obtain⟨k,a,b,l⟩:=x;obtain⟨-,-,-,-,-,-,hb12,hb14,-⟩:=zes hok;rw[zep];dsimp only
 split
 ·rename_i h
  subst h;have g:M.smp a=true:=zbf.2 (hb12 rfl);exact⟨by simp[zd8],by simpa using g⟩
 split
 ·rename_i h
  subst h;have g:M.smp a=true:=zbf.2 (hb14 rfl);exact⟨by simp[zd8],by simpa using g⟩
 refine⟨List.length_replicate,?_⟩;rw[List.all_eq_true];intro z hz;rw[List.eq_of_mem_replicate hz]
 rfl
section
variable {ns:List Node} {tb:List (List Int)} {fr O:List Int}
theorem M.CO.set{cs:List (List Int)}(h:M.CO ns cs){k:Nat}{y:List Int}(hy:∀x,ns[k]?=some x->y.length=zd8 x/\y.all M.smp=true):M.CO ns (cs.set k y):=by
 refine⟨by rw[List.length_set];exact h.len,fun i x hx=>?_⟩
 by_cases hk:k=i
 ·subst hk;rw[zq4 (by rw[h.len];exact(List.getElem?_eq_some_iff.1 hx).1)];exact hy x hx
 rw[zq5 hk];exact h.at_ i x hx
theorem M.CO.start(hp:M.PF ns tb O):M.CO ns (ns.map zep):=by
 refine⟨List.length_map ..,fun i x hx=>?_⟩;have:zbz (ns.map zep) i=zep x:=by simp[zbz,hx]
 rw[this];exact ztb (hp.ok i x hx)
theorem M.PF.ord(hp:M.PF ns tb O){t:Nat}(ht:t<O.length):∃x,ns[zbu O t]?=some x/\zab ns (zbu O t)=x/\M.i_ O t=(zbu O t:Nat)/\zbu O t<ns.length:=by
 have hr:=hp.top.rng t ht;have hi:zbu O t<ns.length:=by show (M.i_ O t).toNat<_;omega
 exact⟨_,zcq hi,rfl,by show _=(((M.i_ O t).toNat:Nat):Int);omega,hi⟩
end
def zl1 (ns:List Node) (tb:List (List Int)) (O xs:List Int):Nat->List (List Int)
 | 0=>ns.map zep
 | t+1=>zq3 ns tb [M.at_ xs (t:Int)] O (zl1 ns tb O xs t)
def ztc (ns:List Node) (tb:List (List Int)) (O xs:List Int) (t:Nat):List Int:=ziv ns tb [M.at_ xs (t:Int)] O (zl1 ns tb O xs t)
def ztd (ns:List Node) (tb:List (List Int)) (O xs:List Int) (o:Int) (n:Nat):List Int:=(List.range n).map fun t=>M.i_ (ztc ns tb O xs t) o.toNat
def zte (p:zad) (xs:List Int) (n:Nat):List Int:=ztd p.2.2.1 p.2.1 (zca p.2.2.1) xs (M.i_ p.2.2.2 0) n
section
variable {ns:List Node} {tb:List (List Int)} {O xs:List Int}
end
theorem zi2{p:zad}(h:zcd p=true)(h1:p.1=1):M.PF p.2.2.1 p.2.1 (zca p.2.2.1):=by
 rw[zcd,Bool.and_eq_true,decide_eq_true_eq]at h;obtain⟨hf,ho⟩:=h;rw[za6]at hf;simp only[Bool.and_eq_true,decide_eq_true_eq]at hf;obtain⟨⟨⟨⟨⟨g0,g1⟩,g2⟩,g3⟩,g4⟩,g5⟩:=hf;have key:∀i x,p.2.2.1[i]?=some x->zbm p.2.1.length p.2.2.1.length p.1 x=true:=fun i x hx=>List.all_eq_true.1 g5 x (List.mem_of_getElem? hx)
 refine⟨g1,fun i x hx=>?_,fun i x hx f hf=>?_,fun i x hx he=>?_,zq9 ho,g2⟩
 ·have:=key i x hx;rw[zbm,Bool.and_eq_true,Bool.and_eq_true]at this;exact this.1.1
 ·have:=key i x hx;rw[zbm,Bool.and_eq_true,Bool.and_eq_true]at this;have:=zbf.1 (List.all_eq_true.1 this.1.2 f hf);omega
 have:=key i x hx;rw[zbm,Bool.and_eq_true,Bool.and_eq_true]at this;have h2:=this.2;have h3:=this.1.1;obtain⟨k,a,b,l⟩:=x;simp only at he;subst he;have h4:=(zes h3).2.2.2.2.2.2.2.2 rfl;simp[h1]at h2;show a=0
 omega
theorem zi3{p:zad}(h:zcd p=true):∀o∈p.2.2.2,0<=o/\o<p.2.2.1.length:=by
 intro o ho;rw[zcd,Bool.and_eq_true,za6]at h;have h:=h.1;simp only[Bool.and_eq_true,decide_eq_true_eq]at h;have:=zbf.1 (List.all_eq_true.1 h.1.2 o ho);omega
end
theorem ztf:∀(n:Nat) (l:List Nat),(∀i,i<n->i∈l)->n<=l.length:=by
 intro n
 induction n with
 | zero=>intro l _;omega
 | succ n ih=>
  intro l h;have h1:=h n (by omega);have h2:=ih (l.erase n) (fun i hi=>(List.mem_erase_of_ne (by omega)).2 (h i (by omega)));rw[List.length_erase_of_mem h1]at h2;have h3:0<l.length:=List.length_pos_of_mem h1;omega
def zet (ns:List Node) (R:Nat->Nat):Prop:=∀(i:Nat) (x:Node),ns[i]?=some x->∀f∈zau x,(0<=f/\f<ns.length)/\R f.toNat<R i
theorem ztg{xs:List Int}{m:Int}:zai xs m=true↔m∈xs:=by
 rw[zai,List.any_eq_true];constructor
 ·rintro⟨x,hx,e⟩;rw[decide_eq_true_eq]at e;rw[<-e];exact hx
 intro h;exact⟨m,h,by simp⟩
theorem zth{ns:List Node}{R:Nat->Nat}(hR:zet ns R){out:List Int}:∀(r i:Nat),R i<=r->i<ns.length->zai out i=false->∃j,j<ns.length/\zdc ns out j=true:=by
 intro r
 induction r using Nat.strongRecOn with
 | _ r ih=>
  intro i hr hi hm;have hx:ns[i]?=some ns[i]:=List.getElem?_eq_getElem hi;generalize ns[i]=x at hx
  by_cases hall:(zau x).all (zai out)=true
  ·exact⟨i,hi,by rw[zit hx,hm,hall];rfl⟩
  rw[Bool.not_eq_true,List.all_eq_false]at hall;obtain⟨f,hf,hfm⟩:=hall;have h1:=hR i x hx f hf;have e:f=(f.toNat:Int):=by omega
  exact ih (R f.toNat) (by omega) f.toNat (Nat.le_refl _) (by omega) (by rw[<-e];simpa using hfm)
theorem zti{ns:List Node}{R:Nat->Nat}(hR:zet ns R):∀t,t<=ns.length->(zaq ns t).length=t:=by
 intro t
 induction t with
 | zero=>intro _;rfl
 | succ t ih=>
  intro ht;have h:=ih (by omega)
  have hmiss:∃i,i<ns.length/\zai (zaq ns t) i=false:=by
   rcases Classical.em (∃i:Nat,i<ns.length/\zai (zaq ns t) i=false)with h1|h1
   ·exact h1
   exfalso
   have:=ztf ns.length ((zaq ns t).map Int.toNat) (fun i hi=>by
    have h2:zai (zaq ns t) i=true:=by
     cases h3:zai (zaq ns t) i
     ·exact absurd ⟨i,hi,h3⟩ h1
     rfl
    exact List.mem_map.2 ⟨(i:Int),ztg.1 h2,by simp⟩)
   rw[List.length_map]at this;omega
  obtain⟨i,hi,hm⟩:=hmiss;obtain⟨j,hj,hr⟩:=zth hR (R i) i (Nat.le_refl _) hi hm;rw[zaq];cases hn:zc3 ns (zaq ns t)with
  | none=>
   rw[zc3,List.find?_eq_none]at hn;have:=hn j (List.mem_range.2 hj);rw[hr]at this;simp at this
  | some i=>
   show (zaq ns t++[(i:Int)]).length=t+1
   rw[List.length_append,h];rfl
theorem ztj{ns:List Node}{R:Nat->Nat}(hR:zet ns R):(zca ns).length=ns.length:=zti hR _ (Nat.le_refl _)
theorem zi4{k a bb:Int}{xs:List Int}{tb:Int}(hk:1<=k/\k<=17)(c1:k=1->0<=a/\a<=3)(c6:k=6->1<=a/\a<=16)(c10:k=10->0<=a/\a<=31)(c11:k=11->0<=a/\a<=2147483647)(c13:k=13->0<=a/\a<=3/\a<tb)(cs:-2147483648<=a/\a<=2147483647)(c0:zdy k=false->a=0)
 (b17:k=17->1<=bb/\bb<=16) (b0:k≠17->bb=0) (len:(xs.length:Int)=M.ar k.toNat) (fr:∀f∈xs,0<=f/\f<=23):zaj (k,a,bb,xs) tb=true:=by
 rw[<-zk0,zdb];simp only[Bool.and_eq_true];refine⟨zbf.2 hk,⟨⟨?_,by simpa using len⟩,List.all_eq_true.2 fun f hf=>zbf.2 (fr f hf)⟩,?_⟩
 ·rw[M.aS]
  split
  ·rename_i h;exact zbf.2 (c1 h)
  split
  ·rename_i h;exact zbf.2 (c6 h)
  split
  ·rename_i h;exact zbf.2 (c10 h)
  split
  ·rename_i h;exact zbf.2 (c11 h)
  split
  ·rename_i h
   have:=c13 h;exact zbf.2 (by omega)
  split
  ·exact zbf.2 cs
  rename_i h
  rw[decide_eq_true_eq];exact c0 (by simpa using h)
 split
 ·rename_i h;exact zbf.2 (b17 h)
 rename_i h;rw[decide_eq_true_eq];exact b0 h
section
inductive M.Rch (ns:List Node) (os:List Int):Nat->Prop where
 | out (i:Nat):(i:Int)∈os->M.Rch ns os i
 | dep (i f:Nat):M.Rch ns os i->(f:Int)∈(zab ns i).2.2.2->M.Rch ns os f
def M.fk (x:Node) (k:Nat):Nat:=(M.i_ x.2.2.2 k).toNat
def zbl (ns:List Node) (f:Nat):Bool:=decide ((zab ns f).1=2)
def zcw (ns:List Node) (f:Nat):Bool:=zbl ns f&&decide ((zab ns f).2.1=0)
def M.k8:List Int:=[3,4,5,9,10,11,13,15]
def zbj (ns:List Node) (x:Node):Bool:=zai M.k8 x.1&&x.2.2.2.all (fun f=>zbl ns f.toNat)
def zc7 (ns:List Node) (x:Node):List Int:=x.2.2.2.map (fun f=>(zab ns f.toNat).2.1)
def zbv (ns:List Node) (x:Node):Bool:=
 if x.1=5\/x.1=11 then decide (x.2.1=0)else if x.1=4 then decide (M.i_ x.2.2.2 0=M.i_ x.2.2.2 1)else
 if x.1=6\/x.1=7\/x.1=8\/x.1=17 then zcw ns (M.fk x 0)else false
def zbb (ns:List Node) (x:Node):Int:=
 if x.1=5 then(if x.2.1=1 then M.i_ x.2.2.2 0 else -1)else
 if x.1=10 then(if x.2.1=0 then M.i_ x.2.2.2 0 else -1)else
 if x.1=3 then(if zcw ns (M.fk x 0)then M.i_ x.2.2.2 1 else if zcw ns (M.fk x 1)then M.i_ x.2.2.2 0 else -1)else
 if x.1=4 then(if zcw ns (M.fk x 1)then M.i_ x.2.2.2 0 else -1)else
 if x.1=16 then(if zbl ns (M.fk x 1)&&decide (0<(zab ns (M.fk x 1)).2.1)then M.i_ x.2.2.2 0 else -1)else
 if x.1=15 then(if zbl ns (M.fk x 0)then(if 0<=(zab ns (M.fk x 0)).2.1 then M.i_ x.2.2.2 1 else M.i_ x.2.2.2 2)else if M.i_ x.2.2.2 1=M.i_ x.2.2.2 2 then M.i_ x.2.2.2 1 else -1)else -1
def zbw (ns:List Node) (x:Node):Bool:=decide (x.1=9)&&(zbl ns (M.fk x 0)||zbl ns (M.fk x 1))
def zdp (ns:List Node) (x:Node):Node:=if zbl ns (M.fk x 0)then(5,(zab ns (M.fk x 0)).2.1,0,[M.i_ x.2.2.2 1])else(5,(zab ns (M.fk x 1)).2.1,0,[M.i_ x.2.2.2 0])
def zb4 (ns:List Node) (x:Node):Bool:=decide (x.1=5)&&decide ((zab ns (M.fk x 0)).1=5)
def zeb (ns:List Node) (x:Node):Node:=(5,wrap32 (x.2.1*(zab ns (M.fk x 0)).2.1),0,(zab ns (M.fk x 0)).2.2.2)
def zbq (ns:List Node) (i:Nat) (x:Node):Bool:=decide (x.1=6)&&!decide (M.i_ x.2.2.2 0=i)&&decide ((zab ns (M.fk x 0)).1=6)&&decide (x.2.1+(zab ns (M.fk x 0)).2.1<=16)
def zec (ns:List Node) (x:Node):Node:=(6,x.2.1+(zab ns (M.fk x 0)).2.1,0,(zab ns (M.fk x 0)).2.2.2)
def zci (nd:Nat->Bool) (ns:List Node) (i:Nat):Option Nat:=(List.range i).find? (fun k=>nd k&&decide (zab ns k=zab ns i))
def zav (nd:Nat->Bool) (ns:List Node) (i:Nat):Int:=
 if nd i=false then 0 else if zbj ns (zab ns i)then 1 else if zbv ns (zab ns i)then 2 else if 0<=zbb ns (zab ns i)then 3 else
 if zbw ns (zab ns i)then 4 else if zb4 ns (zab ns i)then 5 else if zbq ns i (zab ns i)then 6 else if (zci nd ns i).isSome then 7 else 0
def zcx (i b:Int) (l:List Int):List Int:=l.map fun x=>if x=i then b else x
def zcr (i b:Int) (x:Node):Node:=(x.1,x.2.1,x.2.2.1,zcx i b x.2.2.2)
abbrev NO:=List Node×List Int
def za5 (i:Nat) (b:Int) (p:NO):NO:=(p.1.map (zcr i b),zcx i b p.2)
def zbs (nd:Nat->Bool) (tb:List (List Int)) (p:NO) (i:Nat) (r:Int):NO:=
 if r=1 then(p.1.set i (2,zam (zab p.1 i) tb (zc7 p.1 (zab p.1 i)) [],0,[]),p.2)else if r=2 then(p.1.set i (2,0,0,[]),p.2)else
 if r=3 then za5 i (zbb p.1 (zab p.1 i)) p else if r=4 then(p.1.set i (zdp p.1 (zab p.1 i)),p.2)else
 if r=5 then(p.1.set i (zeb p.1 (zab p.1 i)),p.2)else if r=6 then(p.1.set i (zec p.1 (zab p.1 i)),p.2)else
 za5 i (((zci nd p.1 i).getD 0:Nat):Int) p
def zfu (nd:Nat->Bool) (ns:List Node):Option Nat:=(List.range ns.length).find? (fun i=>decide (zav nd ns i≠0))
def zbk (ND:NO->Nat->Bool) (tb:List (List Int)) (p:NO):Option NO:=(zfu (ND p) p.1).map (fun i=>zbs (ND p) tb p i (zav (ND p) p.1 i))
def zah (ND:NO->Nat->Bool) (tb:List (List Int)) (p:NO):Nat->NO
 | 0=>p
 | t+1=>(zbk ND tb (zah ND tb p t)).getD (zah ND tb p t)
structure M.WP (tb:List (List Int)) (p:NO) (R:Nat->Nat):Prop where
 tabs:zbt tb=true
 ok:∀(i:Nat) (x:Node),p.1[i]?=some x->zaj x tb.length=true
 fr:∀(i:Nat) (x:Node),p.1[i]?=some x->∀f∈x.2.2.2,0<=f/\f<p.1.length
 inp:∀(i:Nat) (x:Node),p.1[i]?=some x->x.1=1->x.2.1=0
 rk:zet p.1 R
 len:p.1.length<=24
 outs:∀o∈p.2,0<=o/\o<p.1.length
def zc8 (k:Int):Nat:=if k=2 then 0 else if k=5 then 1 else 2
def zd2 (f:Node->Nat):List Node->Nat
 | []=>0
 | x::l=>f x+zd2 f l
theorem zfv(f:Node->Nat):∀(l:List Node) (i:Nat) (x y:Node),l[i]?=some x->zd2 f (l.set i y)+f x=zd2 f l+f y:=by
 intro l
 induction l with
 | nil=>intro i x y h;simp at h
 | cons z l ih=>
  intro i x y h;cases i with
  | zero=>
   simp at h;subst h;simp only[List.set_cons_zero,zd2];omega
  | succ i=>
   have:=ih i x y (by simpa using h);simp only[List.set_cons_succ,zd2];omega
def zcy (ns:List Node):Nat:=zd2 (fun x=>zc8 x.1) ns
def zc9 (R:Nat->Nat) (ns:List Node):Nat:=zd2 (fun x=>if x.1=5 then R (M.fk x 0)else 0) ns
def zed (ns:List Node):Nat:=zd2 (fun x=>if x.1=6 then 16-x.2.1.toNat else 0) ns
def zal (nd:Nat->Bool) (n:Nat):Nat:=((List.range n).filter nd).length
theorem zi5{a b:Nat->Bool}(h:∀i,a i=true->b i=true)(n:Nat):zal a n<=zal b n:=by
 unfold zal
 induction n with
 | zero=>simp
 | succ n ih=>
  rw[List.range_succ,List.filter_append,List.filter_append,List.length_append,List.length_append]
  have:([n].filter a).length<=([n].filter b).length:=by
   cases e:a n
   ·simp[e]
   simp[e,h n e]
  omega
theorem zi6{a b:Nat->Bool}(h:∀i,a i=true->b i=true){n i:Nat}(hi:i<n)(ha:a i=false)(hb:b i=true):zal a n<zal b n:=by
 induction n with
 | zero=>omega
 | succ n ih=>
  have e:∀c:Nat->Bool,zal c (n+1)=zal c n+(if c n then 1 else 0):=fun c=>by
   unfold zal;rw[List.range_succ,List.filter_append,List.length_append];cases e:c n <;> simp[e]
  rw[e,e];rcases Nat.lt_or_ge i n with h1|h1
  ·have:=ih h1;cases e1:a n
   ·simp;omega
   rw[h n e1];omega
  have h2:i=n:=by omega
  rw[<-h2,ha,hb];have:=zi5 h i;simp;omega
section
variable {tb:List (List Int)} {p:NO} {R:Nat->Nat}
theorem M.WP.node(h:M.WP tb p R){i:Nat}(hi:i<p.1.length):p.1[i]?=some (zab p.1 i)/\zaj (zab p.1 i) tb.length=true:=⟨zcq hi,h.ok _ _ (zcq hi)⟩
theorem ztk(h:M.WP tb p R){i:Nat}(hi:i<p.1.length){k:Nat}(hk:k<(zab p.1 i).2.2.2.length):
 M.i_ (zab p.1 i).2.2.2 k∈(zab p.1 i).2.2.2/\M.fk (zab p.1 i) k<p.1.length/\M.i_ (zab p.1 i).2.2.2 k=(M.fk (zab p.1 i) k:Int):=by
 have h1:(zab p.1 i).2.2.2[k]?=some (zab p.1 i).2.2.2[k]:=List.getElem?_eq_getElem hk;have h2:M.i_ (zab p.1 i).2.2.2 k=(zab p.1 i).2.2.2[k]:=by rw[M.i_,h1];rfl
 have h3:M.i_ (zab p.1 i).2.2.2 k∈(zab p.1 i).2.2.2:=by rw[h2];exact List.getElem_mem hk
 have h4:=h.fr i _ (zcq hi) _ h3;exact⟨h3,by unfold M.fk;omega,by unfold M.fk;omega⟩
theorem zl2{ns:List Node}{i:Nat}(h:(zab ns i).1≠0):i<ns.length:=by
 rcases Nat.lt_or_ge i ns.length with h1|h1
 ·exact h1
 exact absurd (by rw[zab,List.getElem?_eq_none h1];rfl) h
theorem M.Rch.lt(h:M.WP tb p R){i:Nat}(hr:M.Rch p.1 p.2 i):i<p.1.length:=by
 cases hr with
 | out i hi=>have:=h.outs _ hi;omega
 | dep j f hj hf=>
  have hl:j<p.1.length:=by
   rcases Nat.lt_or_ge j p.1.length with h1|h1
   ·exact h1
   rw[zab,List.getElem?_eq_none h1]at hf;simp at hf
  have:=h.fr j _ (zcq hl) _ hf;omega
theorem zl3{ns:List Node}{i:Nat}(hi:i<ns.length)(y:Node)(j:Nat):zab (ns.set i y) j=if j=i then y else zab ns j:=by
 by_cases h:j=i
 ·subst h;simp[zab,hi]
 rw[if_neg h,zab,zab,List.getElem?_set_ne (fun e=>h e.symm)]
theorem M.WP.set(h:M.WP tb p R){i:Nat}(hi:i<p.1.length){y:Node}(hok:zaj y tb.length=true)(hfr:∀f∈y.2.2.2,0<=f/\f<p.1.length)(hin:y.1=1->y.2.1=0)(hrk:∀f∈zau y,R f.toNat<R i):
 M.WP tb (p.1.set i y,p.2) R:=by
 have key:∀(j:Nat) (x:Node),(p.1.set i y)[j]?=some x->(j=i/\x=y)\/(j≠i/\p.1[j]?=some x):=fun j x hx=>by
  by_cases e:j=i
  ·subst e;rw[List.getElem?_set_self hi]at hx;exact .inl ⟨rfl,(Option.some.inj hx).symm⟩
  rw[List.getElem?_set_ne (fun e'=>e e'.symm)]at hx;exact .inr ⟨e,hx⟩
 refine⟨h.tabs,fun j x hx=>?_,fun j x hx f hf=>?_,fun j x hx e=>?_,fun j x hx f hf=>?_,by simpa using h.len,fun o ho=>by simpa using h.outs o ho⟩
 ·rcases key j x hx with⟨_,rfl⟩|⟨_,h1⟩
  ·exact hok
  exact h.ok j x h1
 ·simp only[List.length_set];rcases key j x hx with⟨_,rfl⟩|⟨_,h1⟩
  ·exact hfr f hf
  exact h.fr j x h1 f hf
 ·rcases key j x hx with⟨_,rfl⟩|⟨_,h1⟩
  ·exact hin e
  exact h.inp j x h1 e
 simp only[List.length_set];rcases key j x hx with⟨rfl,rfl⟩|⟨_,h1⟩
 ·exact⟨hfr f (by unfold zau at hf;split at hf;simp at hf;exact hf),hrk f hf⟩
 exact h.rk j x h1 f hf
theorem M.Rch.set{ns:List Node}{os:List Int}{i:Nat}(hi:i<ns.length){y:Node}(hy:∀f:Nat,(f:Int)∈y.2.2.2->M.Rch ns os i->M.Rch ns os f){j:Nat}(h:M.Rch (ns.set i y) os j):M.Rch ns os j:=by
 induction h with
 | out i hi=>exact .out i hi
 | dep j f hj hf ih=>
  rw[zl3 hi]at hf
  split at hf
  ·rename_i e
   subst e;exact hy f hf ih
  exact .dep j f ih hf
theorem zfw{i b x:Int}{l:List Int}(h:x∈zcx i b l):(x∈l/\x≠i)\/(x=b/\i∈l):=by
 rw[zcx,List.mem_map]at h;obtain⟨y,hy,rfl⟩:=h
 by_cases e:y=i
 ·subst e;rw[if_pos rfl];exact .inr ⟨rfl,hy⟩
 rw[if_neg e];exact .inl ⟨hy,e⟩
theorem zl4(i:Nat)(b:Int)(p:NO)(j:Nat):zab (za5 i b p).1 j=zcr i b (zab p.1 j):=by
 simp only[za5,zab,List.getElem?_map];cases p.1[j]? <;> rfl
theorem M.Rch.rpl{i b:Nat}(hb:b≠i)(hy:M.Rch p.1 p.2 i->M.Rch p.1 p.2 b){j:Nat}(h:M.Rch (za5 i b p).1 (za5 i b p).2 j):M.Rch p.1 p.2 j/\j≠i:=by
 induction h with
 | out j hj=>
  rcases zfw hj with⟨h1,h2⟩|⟨h1,h2⟩
  ·exact⟨.out j h1,by omega⟩
  ·have:j=b:=(by omega);subst this;exact⟨hy (.out i h2),hb⟩
 | dep j f hj hf ih=>
  rw[zl4]at hf;rcases zfw hf with⟨h1,h2⟩|⟨h1,h2⟩
  ·exact⟨.dep j f ih.1 h1,by omega⟩
  have:f=b:=by omega
  subst this;exact⟨hy (.dep j i ih.1 h2),hb⟩
theorem ztl{x:Node}{i b t:Int}(h:zaj x t=true)(hb:0<=b/\b<=23):zaj (zcr i b x) t=true:=by
 rw[zaj]at h ⊢;simp only[Bool.and_eq_true]at h ⊢;obtain⟨h1,⟨⟨⟨h2,h3⟩,h4⟩,h5⟩,h6⟩:=h;refine⟨h1,⟨⟨⟨h2,h3⟩,?_⟩,?_⟩,h6⟩
 ·rw[List.all_eq_true]at h4 ⊢;intro f hf;rcases zfw hf with⟨e,_⟩|⟨e,_⟩
  ·exact h4 f e
  rw[e];exact zbf.2 hb
 simpa [zcr,zcx]using h5
theorem M.WP.rpl(h:M.WP tb p R){i b:Nat}(hb:b<p.1.length){R':Nat->Nat}(hR:zet (za5 i b p).1 R'):M.WP tb (za5 i b p) R':=by
 have hl:(za5 i b p).1.length=p.1.length:=by simp[za5]
 have key:∀(j:Nat) (x:Node),(za5 i b p).1[j]?=some x->∃y,p.1[j]?=some y/\x=zcr i b y:=fun j x hx=>by
  simp only[za5,List.getElem?_map,Option.map_eq_some_iff]at hx;obtain⟨y,h1,h2⟩:=hx;exact⟨y,h1,h2.symm⟩
 have hlen:=h.len;refine⟨h.tabs,fun j x hx=>?_,fun j x hx f hf=>?_,fun j x hx e=>?_,hR,by rw[hl];exact h.len,fun o ho=>?_⟩
 ·obtain⟨y,h1,rfl⟩:=key j x hx;exact ztl (h.ok j y h1) (by omega)
 ·obtain⟨y,h1,rfl⟩:=key j x hx;rw[hl];rcases zfw hf with⟨e,_⟩|⟨e,_⟩
  ·exact h.fr j y h1 f e
  omega
 ·obtain⟨y,h1,rfl⟩:=key j x hx;exact h.inp j y h1 e
 rw[hl];rcases zfw ho with⟨e,_⟩|⟨e,_⟩
 ·exact h.outs o e
 omega
theorem zl5{x:Node}{i b f:Int}(h:f∈zau (zcr i b x)):(f∈zau x/\f≠i)\/(f=b/\i∈zau x):=by
 unfold zau at h ⊢;have e:(zcr i b x).1=x.1:=rfl;rw[e]at h
 split at h
 ·simp at h
 rename_i h6
 rw[if_neg h6];exact zfw h
theorem ztm(h:M.WP tb p R){i b:Nat}(hb:b<p.1.length)(hlt:R b<R i):zet (za5 i b p).1 R:=by
 intro j x hx f hf;simp only[za5,List.getElem?_map,Option.map_eq_some_iff]at hx;obtain⟨y,h1,rfl⟩:=hx;have hl:(za5 i b p).1.length=p.1.length:=by simp[za5]
 rw[hl];rcases zl5 hf with⟨e,_⟩|⟨e,e2⟩
 ·exact h.rk j y h1 f e
 have:=(h.rk j y h1 i e2).2;subst e;simp at this ⊢;omega
theorem ztn(h:M.WP tb p R){i b:Nat}(hi:i<p.1.length)(hb:b<p.1.length)(he:zab p.1 b=zab p.1 i):zet (za5 i b p).1 (fun j=>if j=b then min (R b) (R i)else R j):=by
 intro j x hx f hf;simp only[za5,List.getElem?_map,Option.map_eq_some_iff]at hx;obtain⟨y,h1,rfl⟩:=hx;have hl:(za5 i b p).1.length=p.1.length:=by simp[za5]
 rw[hl];have xi:=zcq hi;have xb:=zcq hb;rw[he]at xb;have hw:∀g∈zau y,(0<=g/\g<p.1.length)/\R g.toNat<R j:=h.rk j y h1
 have hjb:j=b->∀g∈zau y,R g.toNat<R i/\R g.toNat<R b:=fun e g hg=>by
  subst e;have:y=zab p.1 i:=by rw[xb]at h1;exact(Option.some.inj h1).symm
  subst this;exact⟨(h.rk i _ xi g hg).2,(h.rk j _ xb g hg).2⟩
 rcases zl5 hf with⟨e,e2⟩|⟨e,e2⟩
 ·have h2:=hw f e;refine⟨h2.1,?_⟩;dsimp only
  by_cases ej:j=b
  ·have h3:=hjb ej f e;rw[if_pos ej]
   split
   ·rename_i e5
    rw[e5]at h3;omega
   omega
  rw[if_neg ej]
  split
  ·rename_i e5
   rw[e5]at h2;omega
  omega
 have h2:=hw i e2;subst e;refine⟨by omega,?_⟩;simp only[Int.toNat_natCast]at h2 ⊢
 try rw[if_pos rfl]
 try rw[if_pos trivial]
 by_cases ej:j=b
 ·have h3:=hjb ej i e2;simp only[Int.toNat_natCast]at h3;rw[if_pos ej];omega
 rw[if_neg ej];omega
end
end
end Go.Proofs.YtifeldeikhmckaaGreat
