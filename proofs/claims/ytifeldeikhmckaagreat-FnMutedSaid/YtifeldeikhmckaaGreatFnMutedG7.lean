import Derived.Test.YtifeldeikhmckaaGreatFnMutedG6
import Derived.Test.YtifeldeikhmckaaGreatFnMutedG3
set_option linter.unusedVariables false
set_option linter.unusedSimpArgs false
set_option maxRecDepth 100000
set_option maxHeartbeats 4000000
namespace Go.Proofs.YtifeldeikhmckaaGreat
open Go.RowKit Go.Sort
section
structure M.PF (ns:List Node) (tb:List (List Int)) (O:List Int):Prop where
 tabs:zbr tb=true
 ok:∀(i:Nat) (x:Node),ns[i]?=some x->zaj x tb.length=true
 fr:∀(i:Nat) (x:Node),ns[i]?=some x->∀f∈x.2.2.2,0<=f/\f<ns.length
 inp:∀(i:Nat) (x:Node),ns[i]?=some x->x.1=1->x.2.1=0
 top:M.Topo ns O
 len:ns.length<=24
structure M.CO (ns:List Node) (cs:List (List Int)):Prop where
 len:cs.length=ns.length
 at_:∀(i:Nat) (x:Node),ns[i]?=some x->(zal cs i).length=zbk x/\(zal cs i).all M.smp=true
theorem zkr{ns:List Node}{i:Nat}{x:Node}(h:ns[i]?=some x):zab ns i=x:=by rw[zab,h];rfl
theorem zcd{ns:List Node}{i:Nat}(h:i<ns.length):ns[i]?=some (zab ns i):=by rw[zab,Ak h];rfl
theorem zd3{xs:List Int}(h:xs.all M.smp=true)(k:Nat):M.smp (M.i_ xs k)=true:=by
 rw[M.i_];cases e:xs[k]? with
 | none=>rfl
 | some x=>exact Ef.1 h x (Eg e)
theorem zks{xs:List Int}(h:xs.all M.smp=true)(k:Nat){y:Int}(hy:M.smp y=true):(xs.set k y).all M.smp=true:=by
 rw[Ef]at *;intro z hz;rcases List.mem_or_eq_of_mem_set hz with h1|rfl
 ·exact h z h1
 exact hy
theorem znn{x:Node}{tb:Int}(h:zaj x tb=true)(fr vs:List Int):(zbf x fr vs).length=zch x.1:=by
 obtain⟨k,a,b,l⟩:=x;rw[zbf]
 split
 ·rename_i h1
  rw[zch,if_pos h1];rfl
 rename_i h1
 rw[Ff];exact zfq h h1
theorem zgt{x:Node}{fr vs:List Int}(hf:fr.all M.smp=true)(hv:vs.all M.smp=true):(zbf x fr vs).all M.smp=true:=by
 rw[zbf]
 split
 ·simp only[Dv,List.all_nil,Bool.and_true];exact zd3 hf _
 rw[List.all_map,Ef];intro f _;exact zd3 hv _
theorem ztg{x:Int}(h:M.smp x=true)(n:Nat):M.smp (x / 2 ^ n)=true:=by
 obtain⟨h1,h2⟩:=smp_bd h;have hp0:(0:Int)<2 ^ n:=Int.pow_pos (by decide);have hp:(1:Int)<=2 ^ n:=by omega
 refine za3.2 ⟨?_,?_⟩
 ·rw[Int.le_ediv_iff_mul_le (by omega)];have:(-2147483648:Int)*2 ^ n<=(-2147483648:Int)*1:=Int.mul_le_mul_of_nonpos_left (by decide) hp;omega
 rcases Int.lt_or_le x 0 with h0|h0
 ·have:=Int.ediv_neg_of_neg_of_pos h0 (show (0:Int)<2 ^ n by omega);omega
 have:=Int.ediv_le_self (2 ^ n) h0;omega
theorem zth{t:List Int}(h:t.all M.smp=true)(x:Int):M.smp (zhu t x)=true:=zd3 h _
theorem zti(s:Int):M.smp (zeo s)=true:=by
 rw[zeo]
 split <;> exact M.smp_wrap _
theorem ztj{tb:List (List Int)}(h:zbr tb=true)(k:Nat):(zal tb k).all M.smp=true:=by
 rw[zal];cases e:tb[k]? with
 | none=>rfl
 | some t=>exact(zg9 h e).2.1
theorem ztk{a x:Int}(h:0<=a/\a<=2147483647):M.smp (max (-a) (min a x))=true:=by
 refine za3.2 ?_;omega
theorem zkt{x:Node}{tb:List (List Int)}{ins s:List Int}{t:Int}(hok:zaj x t=true)(ht:zbr tb=true)(hi:ins.all M.smp=true)(hs:s.all M.smp=true):M.smp (zah x tb ins s)=true:=by
 obtain⟨k,a,b,l⟩:=x;obtain⟨hb5,hb10,hb11,hb13,hb17,hb2,hb12,hb14,hb1⟩:=zfp hok;have e0:=zd3 hi 0;have e1:=zd3 hi 1;have e2:=zd3 hi 2;have f0:=zd3 hs 0;have g2:k=2->M.smp a=true:=fun h=>za3.2 (hb2 h)
 obtain⟨hk,-,-⟩:=zcx hok;simp only at hk;rcases zgp hk with rfl|rfl|rfl|rfl|rfl|rfl|rfl|rfl|rfl|rfl|rfl|rfl|rfl|rfl|rfl|rfl|rfl
 ·simpa [zah]using e0
 ·simpa [zah]using g2 rfl
 ·simpa [zah]using M.smp_wrap _
 ·simpa [zah]using M.smp_wrap _
 ·simpa [zah]using M.smp_wrap _
 ·simpa [zah]using f0
 ·simpa [zah]using M.smp_wrap _
 ·simpa [zah]using M.smp_wrap _
 ·simpa [zah]using M.smp_wrap _
 ·have:=ztg e0 a.toNat;simpa [zah]using this
 ·have:=ztk (x:=M.i_ ins 0) (hb11 rfl);simpa [zah]using this
 ·simpa [zah]using f0
 ·have:=zth (ztj ht a.toNat) (M.i_ ins 0);simpa [zah]using this
 ·simpa [zah]using f0
 ·have:zah (15,a,b,l) tb ins s=if 0<=M.i_ ins 0 then M.i_ ins 1 else M.i_ ins 2:=by simp[zah]
  rw[this]
  split
  ·exact e1
  exact e2
 ·have:zah (16,a,b,l) tb ins s=if 0<M.i_ ins 1 then M.i_ ins 0 else M.i_ s 0:=by simp[zah]
  rw[this]
  split
  ·exact e0
  exact f0
 simpa [zah]using M.smp_wrap _
theorem zku{x:Node}{ins s:List Int}{t out:Int}(hok:zaj x t=true)(hl:s.length=zbk x)(hi:ins.all M.smp=true)(hs:s.all M.smp=true)(ho:M.smp out=true):(zaq x ins s out).length=zbk x/\(zaq x ins s out).all M.smp=true:=by
 obtain⟨k,a,b,l⟩:=x;obtain⟨hk,h6,h17⟩:=zcx hok;have e0:=zd3 hi 0
 have hd:∀y,M.smp y=true->(s.drop 1++[y]).all M.smp=true:=by
  intro y hy;rw[List.all_append];simp only[Dv,List.all_nil,Bool.and_true,Cx];refine⟨?_,hy⟩;rw[Ef]at hs ⊢;exact fun z hz=>hs z (List.mem_of_mem_drop hz)
 simp only at hk h6 h17;rcases zgp hk with rfl|rfl|rfl|rfl|rfl|rfl|rfl|rfl|rfl|rfl|rfl|rfl|rfl|rfl|rfl|rfl|rfl
 case inr.inr.inr.inr.inr.inl=>
  have:=h6 rfl;simp only[zbk,if_true]at hl;refine⟨?_,by simpa [zaq]using hd _ e0⟩;simp[zaq,zbk];omega
 case inr.inr.inr.inr.inr.inr.inr.inr.inr.inr.inr.inr.inr.inr.inr.inr=>
  have:=h17 rfl;have hl2:s.length=b.toNat:=by rw[hl];simp[zbk]
  refine⟨?_,by simpa [zaq]using hd _ ho⟩;simp[zaq,zbk];omega
 all_goals
  refine⟨by simp[zaq,zbk],?_⟩
  first
   | (simp[zaq];done)
   | (simpa [zaq]using ho)
   | (simpa [zaq]using e0)
   | (simpa [zaq]using M.smp_wrap _)
   | (simpa [zaq]using zti _)
theorem zno{x:Node}{t:Int}(hok:zaj x t=true):(zbe x).length=zbk x/\(zbe x).all M.smp=true:=by
 obtain⟨k,a,b,l⟩:=x;obtain⟨-,-,-,-,-,-,hb12,hb14,-⟩:=zfp hok;rw[zbe];dsimp only
 split
 ·rename_i h
  subst h;have g:M.smp a=true:=za3.2 (hb12 rfl);exact⟨by simp[zbk],by simpa using g⟩
 split
 ·rename_i h
  subst h;have g:M.smp a=true:=za3.2 (hb14 rfl);exact⟨by simp[zbk],by simpa using g⟩
 refine⟨Fz,?_⟩;rw[Ef];intro z hz;rw[List.eq_of_mem_replicate hz]
 rfl
section
variable {ns:List Node} {tb:List (List Int)} {fr O:List Int}
theorem M.CO.set{cs:List (List Int)}(h:M.CO ns cs){k:Nat}{y:List Int}(hy:∀x,ns[k]?=some x->y.length=zbk x/\y.all M.smp=true):M.CO ns (cs.set k y):=by
 refine⟨by rw[Fx];exact h.len,fun i x hx=>?_⟩
 by_cases hk:k=i
 ·subst hk;rw[zkj (by rw[h.len];exact(Bk.1 hx).1)];exact hy x hx
 rw[zhw hk];exact h.at_ i x hx
theorem M.CO.start(hp:M.PF ns tb O):M.CO ns (ns.map zbe):=by
 refine⟨Ff ..,fun i x hx=>?_⟩;have:zal (ns.map zbe) i=zbe x:=by simp[zal,hx]
 rw[this];exact zno (hp.ok i x hx)
theorem M.PF.ord(hp:M.PF ns tb O){t:Nat}(ht:t<O.length):∃x,ns[zao O t]?=some x/\zab ns (zao O t)=x/\M.i_ O t=(zao O t:Nat)/\zao O t<ns.length:=by
 have hr:=hp.top.rng t ht;have hi:zao O t<ns.length:=by show (M.i_ O t).toNat<_;omega
 exact⟨_,zcd hi,rfl,by show _=(((M.i_ O t).toNat:Nat):Int);omega,hi⟩
theorem ztl(hp:M.PF ns tb O)(hf:fr.all M.smp=true){cs:List (List Int)}(hc:M.CO ns cs){v0:List Int}(hv:v0.all M.smp=true):∀t,t<=O.length->(zep ns tb fr O cs v0 t).all M.smp=true:=by
 intro t
 induction t with
 | zero=>exact fun _=>hv
 | succ t ih=>
  intro ht;obtain⟨x,hx,e,-,hi⟩:=hp.ord (t:=t) (by omega);rw[zep,e];have hok:=hp.ok _ _ hx;exact zks (ih (by omega)) _ (zkt hok hp.tabs (zgt hf (ih (by omega))) (hc.at_ _ _ hx).2)
theorem znp(hp:M.PF ns tb O)(hf:fr.all M.smp=true){c0:List (List Int)}(hc:M.CO ns c0){v0:List Int}(hv:v0.all M.smp=true):∀t,t<=O.length->(zbl ns tb fr O v0 c0 t).1.all M.smp=true/\M.CO ns (zbl ns tb fr O v0 c0 t).2:=by
 intro t
 induction t with
 | zero=>exact fun _=>⟨hv,hc⟩
 | succ t ih=>
  intro ht;obtain⟨x,hx,e,-,hi⟩:=hp.ord (t:=t) (by omega);obtain⟨i1,i2⟩:=ih (by omega);have hok:=hp.ok _ _ hx;have hcx:=i2.at_ _ _ hx;have ho:=zkt (tb:=tb) hok hp.tabs (zgt (x:=x) hf i1) hcx.2;rw[zbl,e]
  split
  ·exact⟨zks i1 _ (zd3 hcx.2 _),i2⟩
  refine⟨zks i1 _ ho,i2.set fun y hy=>?_⟩;rw[hx]at hy;injection hy with hy
  subst hy;exact zku hok hcx.1 (zgt hf i1) hcx.2 ho
theorem ztm(hp:M.PF ns tb O)(hf:fr.all M.smp=true){c1:List (List Int)}(hc:M.CO ns c1){vs:List Int}(hv:vs.all M.smp=true):∀t,t<=ns.length->M.CO ns (zc8 ns fr vs c1 t):=by
 intro t
 induction t with
 | zero=>exact fun _=>hc
 | succ t ih=>
  intro ht;have hx:=zcd (ns:=ns) (i:=t) (by omega);have i2:=ih (by omega);have hcx:=i2.at_ _ _ hx;rw[zc8]
  split
  ·refine i2.set fun y hy=>?_
   rw[hx]at hy;injection hy with hy
   subst hy;exact zku (hp.ok _ _ hx) hcx.1 (zgt hf hv) hcx.2 rfl
  exact i2
theorem znq(hp:M.PF ns tb O)(hf:fr.all M.smp=true){cs:List (List Int)}(hc:M.CO ns cs):(zcg ns tb fr O cs).all M.smp=true:=by
 refine ztl hp hf hc ?_ _ (Aj _);rw[Ef];intro z hz;rw[List.eq_of_mem_replicate hz]
 rfl
theorem ztn(hp:M.PF ns tb O)(hf:fr.all M.smp=true){cs:List (List Int)}(hc:M.CO ns cs):M.CO ns (zd2 ns tb fr O cs):=by
 refine⟨by rw[zd2,Ff,List.length_range],fun i x hx=>?_⟩;have hi:=(Bk.1 hx).1;have hn:zal (zd2 ns tb fr O cs) i=zaq (zab ns i) (zbf (zab ns i) fr (zcg ns tb fr O cs)) (zal cs i) (M.i_ (zcg ns tb fr O cs) i):=by simp[zd2,zal,hi]
 rw[hn,zkr hx];have hv:=znq (fr:=fr) hp hf hc;exact zku (hp.ok _ _ hx) (hc.at_ _ _ hx).1 (zgt hf hv) (hc.at_ _ _ hx).2 (zd3 hv _)
end
def zed (ns:List Node) (tb:List (List Int)) (O xs:List Int):Nat->List (List Int)
 | 0=>ns.map zbe
 | t+1=>zd2 ns tb [M.at_ xs (t:Int)] O (zed ns tb O xs t)
def zet (ns:List Node) (tb:List (List Int)) (O xs:List Int) (t:Nat):List Int:=zcg ns tb [M.at_ xs (t:Int)] O (zed ns tb O xs t)
def zcl (ns:List Node) (tb:List (List Int)) (O xs:List Int) (o:Int) (n:Nat):List Int:=(List.range n).map fun t=>M.i_ (zet ns tb O xs t) o.toNat
def znr (p:zae) (xs:List Int) (n:Nat):List Int:=zcl p.2.2.1 p.2.1 (zbj p.2.2.1) xs (M.i_ p.2.2.2 0) n
theorem zgb(ns:List Node)(tb:List (List Int))(O xs:List Int)(o:Int)(n:Nat):(zcl ns tb O xs o n).length=n:=by simp[zcl]
theorem zto(ns:List Node)(tb:List (List Int))(O xs:List Int)(o:Int)(k:Nat):zcl ns tb O xs o (k+1)=zcl ns tb O xs o k++[M.i_ (zet ns tb O xs k) o.toNat]:=by simp[zcl,List.range_succ]
theorem zkv{xs:List Int}(h:xs.all M.smp=true)(i:Int):M.smp (M.at_ xs i)=true:=by
 rw[M.at_]
 split
 ·exact zd3 h _
 rfl
section
variable {ns:List Node} {tb:List (List Int)} {O xs:List Int}
theorem zns(h:xs.all M.smp=true)(t:Int):[M.at_ xs t].all M.smp=true:=by
 simp only[Dv,List.all_nil,Bool.and_true];exact zkv h t
theorem znt(hp:M.PF ns tb O)(h:xs.all M.smp=true):∀t,M.CO ns (zed ns tb O xs t):=by
 intro t
 induction t with
 | zero=>exact M.CO.start hp
 | succ t ih=>exact ztn hp (zns h _) ih
theorem zkw(hp:M.PF ns tb O)(h:xs.all M.smp=true)(t:Nat):(zet ns tb O xs t).all M.smp=true:=znq hp (zns h _) (znt hp h t)
theorem ztp(hp:M.PF ns tb O)(h:xs.all M.smp=true)(o:Int)(n:Nat):(zcl ns tb O xs o n).all M.smp=true:=by
 rw[zcl,List.all_map,Ef];intro t _;exact zd3 (zkw hp h t) _
end
theorem zgu{p:zae}(h:zce p=true)(h1:p.1=1):M.PF p.2.2.1 p.2.1 (zbj p.2.2.1):=by
 rw[zce,Cx,Dg]at h;obtain⟨hf,ho⟩:=h;rw[za4]at hf;simp only[Cx,Dg]at hf;obtain⟨⟨⟨⟨⟨g0,g1⟩,g2⟩,g3⟩,g4⟩,g5⟩:=hf;have key:∀i x,p.2.2.1[i]?=some x->zbi p.2.1.length p.2.2.1.length p.1 x=true:=fun i x hx=>Ef.1 g5 x (Eg hx)
 refine⟨g1,fun i x hx=>?_,fun i x hx f hf=>?_,fun i x hx he=>?_,zro ho,g2⟩
 ·have:=key i x hx;rw[zbi,Cx,Cx]at this;exact this.1.1
 ·have:=key i x hx;rw[zbi,Cx,Cx]at this;have:=za3.1 (Ef.1 this.1.2 f hf);omega
 have:=key i x hx;rw[zbi,Cx,Cx]at this;have h2:=this.2;have h3:=this.1.1;obtain⟨k,a,b,l⟩:=x;simp only at he;subst he;have h4:=(zfp h3).2.2.2.2.2.2.2.2 rfl;simp[h1]at h2;show a=0
 omega
theorem zh6{p:zae}(h:zce p=true):∀o∈p.2.2.2,0<=o/\o<p.2.2.1.length:=by
 intro o ho;rw[zce,Cx,za4]at h;have h:=h.1;simp only[Cx,Dg]at h;have:=za3.1 (Ef.1 h.1.2 o ho);omega
end
theorem ztq:∀(n:Nat) (l:List Nat),(∀i,i<n->i∈l)->n<=l.length:=by
 intro n
 induction n with
 | zero=>intro l _;omega
 | succ n ih=>
  intro l h;have h1:=h n (by omega);have h2:=ih (l.erase n) (fun i hi=>(List.mem_erase_of_ne (by omega)).2 (h i (by omega)));rw[List.length_erase_of_mem h1]at h2;have h3:0<l.length:=List.length_pos_of_mem h1;omega
def zeu (ns:List Node) (R:Nat->Nat):Prop:=∀(i:Nat) (x:Node),ns[i]?=some x->∀f∈zax x,(0<=f/\f<ns.length)/\R f.toNat<R i
theorem ztr{xs:List Int}{m:Int}:zam xs m=true↔m∈xs:=by
 rw[zam,List.any_eq_true];constructor
 ·rintro⟨x,hx,e⟩;rw[Dg]at e;rw[<-e];exact hx
 intro h;exact⟨m,h,by simp⟩
theorem zts{ns:List Node}{R:Nat->Nat}(hR:zeu ns R){out:List Int}:∀(r i:Nat),R i<=r->i<ns.length->zam out i=false->∃j,j<ns.length/\zdv ns out j=true:=by
 intro r
 induction r using Nat.strongRecOn with
 | _ r ih=>
  intro i hr hi hm;have hx:ns[i]?=some ns[i]:=Ak hi;generalize ns[i]=x at hx
  by_cases hall:(zax x).all (zam out)=true
  ·exact⟨i,hi,by rw[zkh hx,hm,hall];rfl⟩
  rw[Bool.not_eq_true,List.all_eq_false]at hall;obtain⟨f,hf,hfm⟩:=hall;have h1:=hR i x hx f hf;have e:f=(f.toNat:Int):=by omega
  exact ih (R f.toNat) (by omega) f.toNat (Aj _) (by omega) (by rw[<-e];simpa using hfm)
theorem ztt{ns:List Node}{R:Nat->Nat}(hR:zeu ns R):∀t,t<=ns.length->(zaw ns t).length=t:=by
 intro t
 induction t with
 | zero=>intro _;rfl
 | succ t ih=>
  intro ht;have h:=ih (by omega)
  have hmiss:∃i,i<ns.length/\zam (zaw ns t) i=false:=by
   rcases Classical.em (∃i:Nat,i<ns.length/\zam (zaw ns t) i=false)with h1|h1
   ·exact h1
   exfalso
   have:=ztq ns.length ((zaw ns t).map Int.toNat) (fun i hi=>by
    have h2:zam (zaw ns t) i=true:=by
     cases h3:zam (zaw ns t) i
     ·exact absurd ⟨i,hi,h3⟩ h1
     rfl
    exact List.mem_map.2 ⟨(i:Int),ztr.1 h2,by simp⟩)
   rw[Ff]at this;omega
  obtain⟨i,hi,hm⟩:=hmiss;obtain⟨j,hj,hr⟩:=zts hR (R i) i (Aj _) hi hm;rw[zaw];cases hn:zdf ns (zaw ns t)with
  | none=>
   rw[zdf,List.find?_eq_none]at hn;have:=hn j (Gj.2 hj);rw[hr]at this;simp at this
  | some i=>
   show (zaw ns t++[(i:Int)]).length=t+1
   rw[Cw,h];rfl
theorem znu{ns:List Node}{R:Nat->Nat}(hR:zeu ns R):(zbj ns).length=ns.length:=ztt hR _ (Aj _)
theorem zi8{k a bb:Int}{xs:List Int}{tb:Int}(hk:1<=k/\k<=17)(c1:k=1->0<=a/\a<=3)(c6:k=6->1<=a/\a<=16)(c10:k=10->0<=a/\a<=31)(c11:k=11->0<=a/\a<=2147483647)(c13:k=13->0<=a/\a<=3/\a<tb)(cs:-2147483648<=a/\a<=2147483647)(c0:zd1 k=false->a=0)
 (b17:k=17->1<=bb/\bb<=16) (b0:k≠17->bb=0) (len:(xs.length:Int)=M.ar k.toNat) (fr:∀f∈xs,0<=f/\f<=23):zaj (k,a,bb,xs) tb=true:=by
 rw[<-zme,zdu];simp only[Cx];refine⟨za3.2 hk,⟨⟨?_,by simpa using len⟩,Ef.2 fun f hf=>za3.2 (fr f hf)⟩,?_⟩
 ·rw[M.aS]
  split
  ·rename_i h;exact za3.2 (c1 h)
  split
  ·rename_i h;exact za3.2 (c6 h)
  split
  ·rename_i h;exact za3.2 (c10 h)
  split
  ·rename_i h;exact za3.2 (c11 h)
  split
  ·rename_i h
   have:=c13 h;exact za3.2 (by omega)
  split
  ·exact za3.2 cs
  rename_i h
  rw[Dg];exact c0 (by simpa using h)
 split
 ·rename_i h;exact za3.2 (b17 h)
 rename_i h;rw[Dg];exact b0 h
section
inductive M.Rch (ns:List Node) (os:List Int):Nat->Prop where
 | out (i:Nat):(i:Int)∈os->M.Rch ns os i
 | dep (i f:Nat):M.Rch ns os i->(f:Int)∈(zab ns i).2.2.2->M.Rch ns os f
def M.fk (x:Node) (k:Nat):Nat:=(M.i_ x.2.2.2 k).toNat
def zb8 (ns:List Node) (f:Nat):Bool:=decide ((zab ns f).1=2)
def zdh (ns:List Node) (f:Nat):Bool:=zb8 ns f&&decide ((zab ns f).2.1=0)
def M.k8:List Int:=[3,4,5,9,10,11,13,15]
def zcm (ns:List Node) (x:Node):Bool:=zam M.k8 x.1&&x.2.2.2.all (fun f=>zb8 ns f.toNat)
def zev (ns:List Node) (x:Node):List Int:=x.2.2.2.map (fun f=>(zab ns f.toNat).2.1)
def zcn (ns:List Node) (x:Node):Bool:=
 if x.1=5\/x.1=11 then decide (x.2.1=0)else if x.1=4 then decide (M.i_ x.2.2.2 0=M.i_ x.2.2.2 1)else
 if x.1=6\/x.1=7\/x.1=8\/x.1=17 then zdh ns (M.fk x 0)else false
def zaz (ns:List Node) (x:Node):Int:=
 if x.1=5 then(if x.2.1=1 then M.i_ x.2.2.2 0 else -1)else
 if x.1=10 then(if x.2.1=0 then M.i_ x.2.2.2 0 else -1)else
 if x.1=3 then(if zdh ns (M.fk x 0)then M.i_ x.2.2.2 1 else if zdh ns (M.fk x 1)then M.i_ x.2.2.2 0 else -1)else
 if x.1=4 then(if zdh ns (M.fk x 1)then M.i_ x.2.2.2 0 else -1)else
 if x.1=16 then(if zb8 ns (M.fk x 1)&&decide (0<(zab ns (M.fk x 1)).2.1)then M.i_ x.2.2.2 0 else -1)else
 if x.1=15 then(if zb8 ns (M.fk x 0)then(if 0<=(zab ns (M.fk x 0)).2.1 then M.i_ x.2.2.2 1 else M.i_ x.2.2.2 2)else if M.i_ x.2.2.2 1=M.i_ x.2.2.2 2 then M.i_ x.2.2.2 1 else -1)else -1
def zdi (ns:List Node) (x:Node):Bool:=decide (x.1=9)&&(zb8 ns (M.fk x 0)||zb8 ns (M.fk x 1))
def zfr (ns:List Node) (x:Node):Node:=if zb8 ns (M.fk x 0)then(5,(zab ns (M.fk x 0)).2.1,0,[M.i_ x.2.2.2 1])else(5,(zab ns (M.fk x 1)).2.1,0,[M.i_ x.2.2.2 0])
def zdw (ns:List Node) (x:Node):Bool:=decide (x.1=5)&&decide ((zab ns (M.fk x 0)).1=5)
def zfs (ns:List Node) (x:Node):Node:=(5,wrap32 (x.2.1*(zab ns (M.fk x 0)).2.1),0,(zab ns (M.fk x 0)).2.2.2)
def zdj (ns:List Node) (i:Nat) (x:Node):Bool:=decide (x.1=6)&&!decide (M.i_ x.2.2.2 0=i)&&decide ((zab ns (M.fk x 0)).1=6)&&decide (x.2.1+(zab ns (M.fk x 0)).2.1<=16)
def zft (ns:List Node) (x:Node):Node:=(6,x.2.1+(zab ns (M.fk x 0)).2.1,0,(zab ns (M.fk x 0)).2.2.2)
def zcq (nd:Nat->Bool) (ns:List Node) (i:Nat):Option Nat:=(List.range i).find? (fun k=>nd k&&decide (zab ns k=zab ns i))
def zbb (nd:Nat->Bool) (ns:List Node) (i:Nat):Int:=
 if nd i=false then 0 else if zcm ns (zab ns i)then 1 else if zcn ns (zab ns i)then 2 else if 0<=zaz ns (zab ns i)then 3 else
 if zdi ns (zab ns i)then 4 else if zdw ns (zab ns i)then 5 else if zdj ns i (zab ns i)then 6 else if (zcq nd ns i).isSome then 7 else 0
def zda (i b:Int) (l:List Int):List Int:=l.map fun x=>if x=i then b else x
def zdb (i b:Int) (x:Node):Node:=(x.1,x.2.1,x.2.2.1,zda i b x.2.2.2)
abbrev NO:=List Node×List Int
def za5 (i:Nat) (b:Int) (p:NO):NO:=(p.1.map (zdb i b),zda i b p.2)
def zbz (nd:Nat->Bool) (tb:List (List Int)) (p:NO) (i:Nat) (r:Int):NO:=
 if r=1 then(p.1.set i (2,zah (zab p.1 i) tb (zev p.1 (zab p.1 i)) [],0,[]),p.2)else if r=2 then(p.1.set i (2,0,0,[]),p.2)else
 if r=3 then za5 i (zaz p.1 (zab p.1 i)) p else if r=4 then(p.1.set i (zfr p.1 (zab p.1 i)),p.2)else
 if r=5 then(p.1.set i (zfs p.1 (zab p.1 i)),p.2)else if r=6 then(p.1.set i (zft p.1 (zab p.1 i)),p.2)else
 za5 i (((zcq nd p.1 i).getD 0:Nat):Int) p
def zha (nd:Nat->Bool) (ns:List Node):Option Nat:=(List.range ns.length).find? (fun i=>decide (zbb nd ns i≠0))
def zbs (ND:NO->Nat->Bool) (tb:List (List Int)) (p:NO):Option NO:=(zha (ND p) p.1).map (fun i=>zbz (ND p) tb p i (zbb (ND p) p.1 i))
def zan (ND:NO->Nat->Bool) (tb:List (List Int)) (p:NO):Nat->NO
 | 0=>p
 | t+1=>(zbs ND tb (zan ND tb p t)).getD (zan ND tb p t)
structure M.WP (tb:List (List Int)) (p:NO) (R:Nat->Nat):Prop where
 tabs:zbr tb=true
 ok:∀(i:Nat) (x:Node),p.1[i]?=some x->zaj x tb.length=true
 fr:∀(i:Nat) (x:Node),p.1[i]?=some x->∀f∈x.2.2.2,0<=f/\f<p.1.length
 inp:∀(i:Nat) (x:Node),p.1[i]?=some x->x.1=1->x.2.1=0
 rk:zeu p.1 R
 len:p.1.length<=24
 outs:∀o∈p.2,0<=o/\o<p.1.length
def zdk (k:Int):Nat:=if k=2 then 0 else if k=5 then 1 else 2
def zew (f:Node->Nat):List Node->Nat
 | []=>0
 | x::l=>f x+zew f l
theorem zhb(f:Node->Nat):∀(l:List Node) (i:Nat) (x y:Node),l[i]?=some x->zew f (l.set i y)+f x=zew f l+f y:=by
 intro l
 induction l with
 | nil=>intro i x y h;simp at h
 | cons z l ih=>
  intro i x y h;cases i with
  | zero=>
   simp at h;subst h;simp only[List.set_cons_zero,zew];omega
  | succ i=>
   have:=ih i x y (by simpa using h);simp only[List.set_cons_succ,zew];omega
def zdc (ns:List Node):Nat:=zew (fun x=>zdk x.1) ns
def zdl (R:Nat->Nat) (ns:List Node):Nat:=zew (fun x=>if x.1=5 then R (M.fk x 0)else 0) ns
def ze6 (ns:List Node):Nat:=zew (fun x=>if x.1=6 then 16-x.2.1.toNat else 0) ns
def zat (nd:Nat->Bool) (n:Nat):Nat:=((List.range n).filter nd).length
theorem zkx{a b:Nat->Bool}(h:∀i,a i=true->b i=true)(n:Nat):zat a n<=zat b n:=by
 unfold zat
 induction n with
 | zero=>simp
 | succ n ih=>
  rw[List.range_succ,List.filter_append,List.filter_append,Cw,Cw]
  have:([n].filter a).length<=([n].filter b).length:=by
   cases e:a n
   ·simp[e]
   simp[e,h n e]
  omega
theorem zky{a b:Nat->Bool}(h:∀i,a i=true->b i=true){n i:Nat}(hi:i<n)(ha:a i=false)(hb:b i=true):zat a n<zat b n:=by
 induction n with
 | zero=>omega
 | succ n ih=>
  have e:∀c:Nat->Bool,zat c (n+1)=zat c n+(if c n then 1 else 0):=fun c=>by
   unfold zat;rw[List.range_succ,List.filter_append,Cw];cases e:c n <;> simp[e]
  rw[e,e];rcases Fj i n with h1|h1
  ·have:=ih h1;cases e1:a n
   ·simp;omega
   rw[h n e1];omega
  have h2:i=n:=by omega
  rw[<-h2,ha,hb];have:=zkx h i;simp;omega
section
variable {tb:List (List Int)} {p:NO} {R:Nat->Nat}
theorem M.WP.node(h:M.WP tb p R){i:Nat}(hi:i<p.1.length):p.1[i]?=some (zab p.1 i)/\zaj (zab p.1 i) tb.length=true:=⟨zcd hi,h.ok _ _ (zcd hi)⟩
theorem ztu(h:M.WP tb p R){i:Nat}(hi:i<p.1.length){k:Nat}(hk:k<(zab p.1 i).2.2.2.length):
 M.i_ (zab p.1 i).2.2.2 k∈(zab p.1 i).2.2.2/\M.fk (zab p.1 i) k<p.1.length/\M.i_ (zab p.1 i).2.2.2 k=(M.fk (zab p.1 i) k:Int):=by
 have h1:(zab p.1 i).2.2.2[k]?=some (zab p.1 i).2.2.2[k]:=Ak hk;have h2:M.i_ (zab p.1 i).2.2.2 k=(zab p.1 i).2.2.2[k]:=by rw[M.i_,h1];rfl
 have h3:M.i_ (zab p.1 i).2.2.2 k∈(zab p.1 i).2.2.2:=by rw[h2];exact List.getElem_mem hk
 have h4:=h.fr i _ (zcd hi) _ h3;exact⟨h3,by unfold M.fk;omega,by unfold M.fk;omega⟩
theorem znv{ns:List Node}{i:Nat}(h:(zab ns i).1≠0):i<ns.length:=by
 rcases Fj i ns.length with h1|h1
 ·exact h1
 exact absurd (by rw[zab,List.getElem?_eq_none h1];rfl) h
theorem M.Rch.lt(h:M.WP tb p R){i:Nat}(hr:M.Rch p.1 p.2 i):i<p.1.length:=by
 cases hr with
 | out i hi=>have:=h.outs _ hi;omega
 | dep j f hj hf=>
  have hl:j<p.1.length:=by
   rcases Fj j p.1.length with h1|h1
   ·exact h1
   rw[zab,List.getElem?_eq_none h1]at hf;simp at hf
  have:=h.fr j _ (zcd hl) _ hf;omega
theorem znw{ns:List Node}{i:Nat}(hi:i<ns.length)(y:Node)(j:Nat):zab (ns.set i y) j=if j=i then y else zab ns j:=by
 by_cases h:j=i
 ·subst h;simp[zab,hi]
 rw[if_neg h,zab,zab,List.getElem?_set_ne (fun e=>h e.symm)]
theorem M.WP.set(h:M.WP tb p R){i:Nat}(hi:i<p.1.length){y:Node}(hok:zaj y tb.length=true)(hfr:∀f∈y.2.2.2,0<=f/\f<p.1.length)(hin:y.1=1->y.2.1=0)(hrk:∀f∈zax y,R f.toNat<R i):
 M.WP tb (p.1.set i y,p.2) R:=by
 have key:∀(j:Nat) (x:Node),(p.1.set i y)[j]?=some x->(j=i/\x=y)\/(j≠i/\p.1[j]?=some x):=fun j x hx=>by
  by_cases e:j=i
  ·subst e;rw[List.getElem?_set_self hi]at hx;exact .inl ⟨rfl,(Option.some.inj hx).symm⟩
  rw[List.getElem?_set_ne (fun e'=>e e'.symm)]at hx;exact .inr ⟨e,hx⟩
 refine⟨h.tabs,fun j x hx=>?_,fun j x hx f hf=>?_,fun j x hx e=>?_,fun j x hx f hf=>?_,by simpa using h.len,fun o ho=>by simpa using h.outs o ho⟩
 ·rcases key j x hx with⟨_,rfl⟩|⟨_,h1⟩
  ·exact hok
  exact h.ok j x h1
 ·simp only[Fx];rcases key j x hx with⟨_,rfl⟩|⟨_,h1⟩
  ·exact hfr f hf
  exact h.fr j x h1 f hf
 ·rcases key j x hx with⟨_,rfl⟩|⟨_,h1⟩
  ·exact hin e
  exact h.inp j x h1 e
 simp only[Fx];rcases key j x hx with⟨rfl,rfl⟩|⟨_,h1⟩
 ·exact⟨hfr f (by unfold zax at hf;split at hf;simp at hf;exact hf),hrk f hf⟩
 exact h.rk j x h1 f hf
theorem M.Rch.set{ns:List Node}{os:List Int}{i:Nat}(hi:i<ns.length){y:Node}(hy:∀f:Nat,(f:Int)∈y.2.2.2->M.Rch ns os i->M.Rch ns os f){j:Nat}(h:M.Rch (ns.set i y) os j):M.Rch ns os j:=by
 induction h with
 | out i hi=>exact .out i hi
 | dep j f hj hf ih=>
  rw[znw hi]at hf
  split at hf
  ·rename_i e
   subst e;exact hy f hf ih
  exact .dep j f ih hf
theorem zhc{i b x:Int}{l:List Int}(h:x∈zda i b l):(x∈l/\x≠i)\/(x=b/\i∈l):=by
 rw[zda,List.mem_map]at h;obtain⟨y,hy,rfl⟩:=h
 by_cases e:y=i
 ·subst e;rw[if_pos rfl];exact .inr ⟨rfl,hy⟩
 rw[if_neg e];exact .inl ⟨hy,e⟩
theorem znx(i:Nat)(b:Int)(p:NO)(j:Nat):zab (za5 i b p).1 j=zdb i b (zab p.1 j):=by
 simp only[za5,zab,Fv];cases p.1[j]? <;> rfl
theorem M.Rch.rpl{i b:Nat}(hb:b≠i)(hy:M.Rch p.1 p.2 i->M.Rch p.1 p.2 b){j:Nat}(h:M.Rch (za5 i b p).1 (za5 i b p).2 j):M.Rch p.1 p.2 j/\j≠i:=by
 induction h with
 | out j hj=>
  rcases zhc hj with⟨h1,h2⟩|⟨h1,h2⟩
  ·exact⟨.out j h1,by omega⟩
  ·have:j=b:=(by omega);subst this;exact⟨hy (.out i h2),hb⟩
 | dep j f hj hf ih=>
  rw[znx]at hf;rcases zhc hf with⟨h1,h2⟩|⟨h1,h2⟩
  ·exact⟨.dep j f ih.1 h1,by omega⟩
  have:f=b:=by omega
  subst this;exact⟨hy (.dep j i ih.1 h2),hb⟩
theorem ztv{x:Node}{i b t:Int}(h:zaj x t=true)(hb:0<=b/\b<=23):zaj (zdb i b x) t=true:=by
 rw[zaj]at h ⊢;simp only[Cx]at h ⊢;obtain⟨h1,⟨⟨⟨h2,h3⟩,h4⟩,h5⟩,h6⟩:=h;refine⟨h1,⟨⟨⟨h2,h3⟩,?_⟩,?_⟩,h6⟩
 ·rw[Ef]at h4 ⊢;intro f hf;rcases zhc hf with⟨e,_⟩|⟨e,_⟩
  ·exact h4 f e
  rw[e];exact za3.2 hb
 simpa [zdb,zda]using h5
theorem M.WP.rpl(h:M.WP tb p R){i b:Nat}(hb:b<p.1.length){R':Nat->Nat}(hR:zeu (za5 i b p).1 R'):M.WP tb (za5 i b p) R':=by
 have hl:(za5 i b p).1.length=p.1.length:=by simp[za5]
 have key:∀(j:Nat) (x:Node),(za5 i b p).1[j]?=some x->∃y,p.1[j]?=some y/\x=zdb i b y:=fun j x hx=>by
  simp only[za5,Fv,Option.map_eq_some_iff]at hx;obtain⟨y,h1,h2⟩:=hx;exact⟨y,h1,h2.symm⟩
 have hlen:=h.len;refine⟨h.tabs,fun j x hx=>?_,fun j x hx f hf=>?_,fun j x hx e=>?_,hR,by rw[hl];exact h.len,fun o ho=>?_⟩
 ·obtain⟨y,h1,rfl⟩:=key j x hx;exact ztv (h.ok j y h1) (by omega)
 ·obtain⟨y,h1,rfl⟩:=key j x hx;rw[hl];rcases zhc hf with⟨e,_⟩|⟨e,_⟩
  ·exact h.fr j y h1 f e
  omega
 ·obtain⟨y,h1,rfl⟩:=key j x hx;exact h.inp j y h1 e
 rw[hl];rcases zhc ho with⟨e,_⟩|⟨e,_⟩
 ·exact h.outs o e
 omega
theorem zny{x:Node}{i b f:Int}(h:f∈zax (zdb i b x)):(f∈zax x/\f≠i)\/(f=b/\i∈zax x):=by
 unfold zax at h ⊢;have e:(zdb i b x).1=x.1:=rfl;rw[e]at h
 split at h
 ·simp at h
 rename_i h6
 rw[if_neg h6];exact zhc h
theorem ztw(h:M.WP tb p R){i b:Nat}(hb:b<p.1.length)(hlt:R b<R i):zeu (za5 i b p).1 R:=by
 intro j x hx f hf;simp only[za5,Fv,Option.map_eq_some_iff]at hx;obtain⟨y,h1,rfl⟩:=hx;have hl:(za5 i b p).1.length=p.1.length:=by simp[za5]
 rw[hl];rcases zny hf with⟨e,_⟩|⟨e,e2⟩
 ·exact h.rk j y h1 f e
 have:=(h.rk j y h1 i e2).2;subst e;simp at this ⊢;omega
theorem ztx(h:M.WP tb p R){i b:Nat}(hi:i<p.1.length)(hb:b<p.1.length)(he:zab p.1 b=zab p.1 i):zeu (za5 i b p).1 (fun j=>if j=b then min (R b) (R i)else R j):=by
 intro j x hx f hf;simp only[za5,Fv,Option.map_eq_some_iff]at hx;obtain⟨y,h1,rfl⟩:=hx;have hl:(za5 i b p).1.length=p.1.length:=by simp[za5]
 rw[hl];have xi:=zcd hi;have xb:=zcd hb;rw[he]at xb;have hw:∀g∈zax y,(0<=g/\g<p.1.length)/\R g.toNat<R j:=h.rk j y h1
 have hjb:j=b->∀g∈zax y,R g.toNat<R i/\R g.toNat<R b:=fun e g hg=>by
  subst e;have:y=zab p.1 i:=by rw[xb]at h1;exact(Option.some.inj h1).symm
  subst this;exact⟨(h.rk i _ xi g hg).2,(h.rk j _ xb g hg).2⟩
 rcases zny hf with⟨e,e2⟩|⟨e,e2⟩
 ·have h2:=hw f e;refine⟨h2.1,?_⟩;dsimp only
  by_cases ej:j=b
  ·have h3:=hjb ej f e;rw[if_pos ej]
   split
   ·rename_i e5
    rw[e5]at h3;omega
   omega
  rw[if_neg ej]
  split
  ·rename_i e5
   rw[e5]at h2;omega
  omega
 have h2:=hw i e2;subst e;refine⟨by omega,?_⟩;simp only[Fq]at h2 ⊢
 try rw[if_pos rfl]
 try rw[if_pos trivial]
 by_cases ej:j=b
 ·have h3:=hjb ej i e2;simp only[Fq]at h3;rw[if_pos ej];omega
 rw[if_neg ej];omega
end
end
section
section
variable {tb:List (List Int)} {p:NO} {R:Nat->Nat}
theorem znz{ns:List Node}{f:Nat}:zb8 ns f=true↔(zab ns f).1=2:=by simp[zb8]
theorem zi9{k:Int}(h:zam M.k8 k=true):k=3\/k=4\/k=5\/k=9\/k=10\/k=11\/k=13\/k=15:=by
 simp[zam,M.k8]at h;omega
theorem zty{ns:List Node}{x:Node}(h:zcn ns x=true):x.1=4\/x.1=5\/x.1=6\/x.1=7\/x.1=8\/x.1=11\/x.1=17:=by
 unfold zcn at h
 split at h
 ·omega
 split at h
 ·omega
 split at h
 ·omega
 simp at h
theorem zn0{ns:List Node}{x:Node}(h:0<=zaz ns x):(x.1=3\/x.1=4\/x.1=5\/x.1=10\/x.1=15\/x.1=16)/\∃k,k<zch x.1/\zaz ns x=M.i_ x.2.2.2 k:=by
 obtain⟨k,a,b,l⟩:=x;unfold zaz at h ⊢;dsimp only at h ⊢
 by_cases h5:k=5
 ·subst h5;simp only[if_true]at h ⊢
  split at h
  ·rename_i e;rw[if_pos e];exact⟨by decide,0,by decide,rfl⟩
  simp at h
 rw[if_neg h5]at h ⊢
 by_cases h10:k=10
 ·subst h10;simp only[if_true]at h ⊢
  split at h
  ·rename_i e;rw[if_pos e];exact⟨by decide,0,by decide,rfl⟩
  simp at h
 rw[if_neg h10]at h ⊢
 by_cases h3:k=3
 ·subst h3;simp only[if_true]at h ⊢
  split at h
  ·rename_i e;rw[if_pos e];exact⟨by decide,1,by decide,rfl⟩
  rename_i e
  rw[if_neg e]
  split at h
  ·rename_i e2;rw[if_pos e2];exact⟨by decide,0,by decide,rfl⟩
  simp at h
 rw[if_neg h3]at h ⊢
 by_cases h4:k=4
 ·subst h4;simp only[if_true]at h ⊢
  split at h
  ·rename_i e;rw[if_pos e];exact⟨by decide,0,by decide,rfl⟩
  simp at h
 rw[if_neg h4]at h ⊢
 by_cases h16:k=16
 ·subst h16;simp only[if_true]at h ⊢
  split at h
  ·rename_i e;rw[if_pos e];exact⟨by decide,0,by decide,rfl⟩
  simp at h
 rw[if_neg h16]at h ⊢
 by_cases h15:k=15
 ·subst h15;simp only[if_true]at h ⊢;refine⟨by decide,?_⟩
  split at h
  ·rename_i e
   rw[if_pos e]
   split
   ·exact⟨1,by decide,rfl⟩
   exact⟨2,by decide,rfl⟩
  rename_i e
  rw[if_neg e]
  split at h
  ·rename_i e2;rw[if_pos e2];exact⟨1,by decide,rfl⟩
  simp at h
 rw[if_neg h15]at h;omega
theorem M.WP.flen(h:M.WP tb p R){i:Nat}(hi:i<p.1.length)(h1:(zab p.1 i).1≠1):(zab p.1 i).2.2.2.length=zch (zab p.1 i).1:=zfq (a1:=(zab p.1 i).2.1) (a2:=(zab p.1 i).2.2.1) (h.node hi).2 h1
theorem M.WP.rlt(h:M.WP tb p R){i:Nat}(hi:i<p.1.length)(h6:(zab p.1 i).1≠6){f:Int}(hf:f∈(zab p.1 i).2.2.2):R f.toNat<R i:=(h.rk i _ (zcd hi) f (by rw[zix h6];exact hf)).2
structure M.Falls (tb:List (List Int)) (p p':NO) (R R':Nat->Nat):Prop where
 wp:M.WP tb p' R'
 sub:∀j,M.Rch p'.1 p'.2 j->M.Rch p.1 p.2 j
 low:(∃j,j<p.1.length/\M.Rch p.1 p.2 j/\¬M.Rch p'.1 p'.2 j)\/(R'=R/\(zdc p'.1<zdc p.1\/(zdc p'.1=zdc p.1/\(zdl R p'.1<zdl R p.1\/(zdl R p'.1=zdl R p.1/\ze6 p'.1<ze6 p.1)))))
 len:p'.1.length=p.1.length
 olen:p'.2.length=p.2.length
theorem zn1(h:M.WP tb p R){i:Nat}(hi:i<p.1.length){v:Int}(hv:M.smp v=true)(h2:(zab p.1 i).1≠2):M.Falls tb p (p.1.set i (2,v,0,[]),p.2) R R:=by
 have hb:=smp_bd hv;have hx:=zcd hi;refine⟨h.set hi (zi8 (by decide) (by omega) (by omega) (by omega) (by omega) (by omega) (by omega) (fun e=>by simp[zd1]at e) (by omega) (by omega) (by decide) (by simp)) (by simp) (by simp) (by simp[zax]),fun j hj=>M.Rch.set hi (by simp) hj,.inr ⟨rfl,.inl ?_⟩,by simp,rfl⟩;have e:=zhb (fun x=>zdk x.1) p.1 i _ (2,v,0,[]) hx;have e1:zdk ((2,v,0,[]):Node).1=0:=rfl
 have e2:1<=zdk (zab p.1 i).1:=by
  unfold zdk;rw[if_neg h2]
  split <;> omega
 simp only[zdc]at e ⊢;rw[e1]at e;omega
theorem zgv{k:Int}(h:k=5\/k=6\/k=7\/k=8\/k=10\/k=11\/k=12\/k=13\/k=17):zch k=1:=by
 rcases h with rfl|rfl|rfl|rfl|rfl|rfl|rfl|rfl|rfl <;> rfl
theorem zn2{k:Int}(h:k=3\/k=4\/k=9\/k=16):zch k=2:=by
 rcases h with rfl|rfl|rfl|rfl <;> rfl
theorem M.WP.inp_at(h:M.WP tb p R){i:Nat}(hi:i<p.1.length)(h1:(zab p.1 i).1≠1){k:Nat}(hk:k<zch (zab p.1 i).1):
 M.i_ (zab p.1 i).2.2.2 k∈(zab p.1 i).2.2.2/\M.fk (zab p.1 i) k<p.1.length/\M.i_ (zab p.1 i).2.2.2 k=(M.fk (zab p.1 i) k:Int):=ztu h hi (by rw[h.flen hi h1];exact hk)
theorem M.WP.smpA(h:M.WP tb p R){f:Nat}(hc:zb8 p.1 f=true):M.smp (zab p.1 f).2.1=true:=by
 have hk:=znz.1 hc;have hl:f<p.1.length:=znv (by omega);have:=(zfp (a0:=(zab p.1 f).1) (a1:=(zab p.1 f).2.1) (a2:=(zab p.1 f).2.2.1) (h.node hl).2).2.2.2.2.2.1 hk;exact za3.2 this
theorem zn3(h:M.WP tb p R){x:Node}(hc:zcm p.1 x=true):(zev p.1 x).all M.smp=true:=by
 rw[zcm,Cx]at hc;rw[zev,List.all_map,Ef];intro f hf;exact h.smpA (Ef.1 hc.2 f hf)
theorem zn4(h:M.WP tb p R){i b:Nat}(hi:i<p.1.length)(hb:b<p.1.length)(hne:b≠i)(hr:M.Rch p.1 p.2 i)(hy:M.Rch p.1 p.2 b){R':Nat->Nat}(hR:zeu (za5 i b p).1 R'):M.Falls tb p (za5 i b p) R R':=
 ⟨h.rpl hb hR,fun j hj=>(M.Rch.rpl hne (fun _=>hy) hj).1,.inl ⟨i,hi,hr,fun hj=>(M.Rch.rpl hne (fun _=>hy) hj).2 rfl⟩,by simp[za5],by simp[za5,zda]⟩
theorem zkz(h:M.WP tb p R){i:Nat}(hi:i<p.1.length){v:Int}(hv:M.smp v=true){f:Nat}(hf:f<p.1.length)(hrf:R f<R i)(hre:M.Rch p.1 p.2 i->M.Rch p.1 p.2 f)(hd:(zab p.1 i).1≠6)
 (hm:(zab p.1 i).1≠2/\(zab p.1 i).1≠5\/((zab p.1 i).1=5/\R f<R (M.fk (zab p.1 i) 0))):M.Falls tb p (p.1.set i (5,v,0,[(f:Int)]),p.2) R R:=by
 have hb:=smp_bd hv;have hx:=zcd hi;have hlen:=h.len;refine⟨h.set hi (zi8 (by decide) (by omega) (by omega) (by omega) (by omega) (by omega) (by omega) (fun e=>by simp[zd1]at e) (by omega) (by omega) rfl (by simp;omega)) (by simp;omega) (by simp) (by simp[zax];exact hrf),fun j hj=>M.Rch.set hi (fun g hg=>?_) hj,.inr ⟨rfl,?_⟩,by simp,rfl⟩
 ·simp at hg;have:g=f:=by omega
  subst this;exact hre
 have e:=zhb (fun x=>zdk x.1) p.1 i _ (5,v,0,[(f:Int)]) hx;have g:=zhb (fun x=>if x.1=5 then R (M.fk x 0)else 0) p.1 i _ (5,v,0,[(f:Int)]) hx;have e1:zdk ((5,v,0,[(f:Int)]):Node).1=1:=rfl;have g1:M.fk ((5,v,0,[(f:Int)]):Node) 0=f:=by simp[M.fk,M.i_]
 simp only[zdc,zdl]at e g ⊢;rw[e1]at e;simp only[if_true,g1]at g;rcases hm with⟨h2,h5⟩|⟨h5,hlt⟩
 ·left
  have:zdk (zab p.1 i).1=2:=by
   unfold zdk;rw[if_neg h2,if_neg h5]
  omega
 right
 have:zdk (zab p.1 i).1=1:=by rw[h5];rfl
 rw[if_pos h5]at g;refine⟨by omega,.inl ?_⟩;omega
theorem ztz(h:M.WP tb p R){i:Nat}(hi:i<p.1.length){v:Int}{f:Nat}(hf:f<p.1.length)(hre:M.Rch p.1 p.2 i->M.Rch p.1 p.2 f)(hd:(zab p.1 i).1=6)(hv:(zab p.1 i).2.1<v)(hv16:v<=16)(hp:1<=(zab p.1 i).2.1):M.Falls tb p (p.1.set i (6,v,0,[(f:Int)]),p.2) R R:=by
 have hx:=zcd hi;have hlen:=h.len;refine⟨h.set hi (zi8 (by decide) (by omega) (by omega) (by omega) (by omega) (by omega) (by omega) (fun e=>by simp[zd1]at e) (by omega) (by omega) rfl (by simp;omega)) (by simp;omega) (by simp) (by simp[zax]),fun j hj=>M.Rch.set hi (fun g hg=>?_) hj,.inr ⟨rfl,.inr ?_⟩,by simp,rfl⟩
 ·simp at hg;have:g=f:=by omega
  subst this;exact hre
 have e:=zhb (fun x=>zdk x.1) p.1 i _ (6,v,0,[(f:Int)]) hx;have g:=zhb (fun x=>if x.1=5 then R (M.fk x 0)else 0) p.1 i _ (6,v,0,[(f:Int)]) hx;have d:=zhb (fun x=>if x.1=6 then 16-x.2.1.toNat else 0) p.1 i _ (6,v,0,[(f:Int)]) hx;have e1:zdk ((6,v,0,[(f:Int)]):Node).1=2:=rfl;have e2:zdk (zab p.1 i).1=2:=by rw[hd];rfl
 simp only[zdc,zdl,ze6]at e g d ⊢;rw[e1]at e;rw[if_neg (show ¬(6:Int)=5 by decide),if_neg (by omega)]at g;simp only[if_true,if_pos hd]at d;refine⟨by omega,.inr ⟨by omega,?_⟩⟩;omega
theorem zt0(h:M.WP tb p R){nd:Nat->Bool}(hnd:∀j,nd j=true->M.Rch p.1 p.2 j){i:Nat}(hi:i<p.1.length)(hr:zbb nd p.1 i≠0):∃R',M.Falls tb p (zbz nd tb p i (zbb nd p.1 i)) R R':=by
 have hx:=zcd hi;have hok:=(h.node hi).2;have hko:=(zcx hok).1;have dep:∀f:Nat,(f:Int)∈(zab p.1 i).2.2.2->M.Rch p.1 p.2 i->M.Rch p.1 p.2 f:=fun f hf hr=>.dep i f hr hf
 unfold zbb at hr ⊢
 split at hr
 ·exact absurd rfl hr
 rename_i hn
 have hri:M.Rch p.1 p.2 i:=hnd i (by simpa using hn);rw[if_neg hn]
 split at hr
 ·rename_i h1
  rw[if_pos h1];have hk:=zi9 (by rw[zcm,Cx]at h1;exact h1.1);exact⟨R,zn1 h hi (zkt hok h.tabs (zn3 h h1) (by rfl)) (by omega)⟩
 rename_i h1
 rw[if_neg h1]
 split at hr
 ·rename_i h2
  rw[if_pos h2];have hk:=zty h2;exact⟨R,zn1 h hi (by decide) (by omega)⟩
 rename_i h2
 rw[if_neg h2]
 split at hr
 ·rename_i h3
  rw[if_pos h3];obtain⟨hk,k,hkl,he⟩:=zn0 h3;obtain⟨a1,a2,a3⟩:=h.inp_at hi (by omega) hkl;have hlt:=h.rlt hi (by omega) a1;rw[a3,Fq]at hlt;refine⟨R,?_⟩;show M.Falls tb p (za5 i (zaz p.1 (zab p.1 i)) p) R R
  rw[he,a3];exact zn4 h hi a2 (fun e=>by rw[e]at hlt;omega) hri (dep _ (by rw[<-a3];exact a1) hri) (ztw h a2 hlt)
 rename_i h3
 rw[if_neg h3]
 split at hr
 ·rename_i h4
  rw[if_pos h4];rw[zdi,Cx,Dg,Bool.or_eq_true]at h4;have hl2:zch (zab p.1 i).1=2:=zn2 (by omega);obtain⟨a1,a2,a3⟩:=h.inp_at hi (k:=0) (by omega) (by omega);obtain⟨b1,b2,b3⟩:=h.inp_at hi (k:=1) (by omega) (by omega);have la:=h.rlt hi (by omega) a1;have lb:=h.rlt hi (by omega) b1;rw[a3,Fq]at la;rw[b3,Fq]at lb;refine⟨R,?_⟩;show M.Falls tb p (p.1.set i (zfr p.1 (zab p.1 i)),p.2) R R
  rw[zfr]
  by_cases hc:zb8 p.1 (M.fk (zab p.1 i) 0)=true
  ·rw[if_pos hc,b3];exact zkz h hi (h.smpA hc) b2 lb (dep _ (by rw[<-b3];exact b1)) (by omega) (.inl (by omega))
  rw[if_neg hc,a3];have hc1:=h4.2.resolve_left hc;exact zkz h hi (h.smpA hc1) a2 la (dep _ (by rw[<-a3];exact a1)) (by omega) (.inl (by omega))
 rename_i h4
 rw[if_neg h4]
 split at hr
 ·rename_i h5
  rw[if_pos h5];rw[zdw,Cx,Dg,Dg]at h5;obtain⟨a1,a2,a3⟩:=h.inp_at hi (k:=0) (by omega) (by rw[zgv (by omega)];omega);have hl1:=h.flen a2 (by omega);rw[h5.2,show zch 5=1 from rfl]at hl1;obtain⟨b1,b2,b3⟩:=h.inp_at a2 (k:=0) (by omega) (by rw[h5.2];decide)
  have hfe:(zab p.1 (M.fk (zab p.1 i) 0)).2.2.2=[((M.fk (zab p.1 (M.fk (zab p.1 i) 0)) 0:Nat):Int)]:=by
   obtain⟨u,hu⟩:=List.length_eq_one_iff.1 hl1;rw[<-b3,hu]
   rfl
  have la:=h.rlt hi (by omega) a1;rw[a3,Fq]at la;have lb:=h.rlt a2 (by omega) b1;rw[b3,Fq]at lb;refine⟨R,?_⟩;show M.Falls tb p (p.1.set i (zfs p.1 (zab p.1 i)),p.2) R R
  rw[zfs,hfe];exact zkz h hi (M.smp_wrap _) b2 (by omega) (fun hr=>.dep _ _ (dep _ (by rw[<-a3];exact a1) hr) (by rw[<-b3];exact b1)) (by omega) (.inr ⟨h5.1,lb⟩)
 rename_i h5
 rw[if_neg h5]
 split at hr
 ·rename_i h6
  rw[if_pos h6];rw[zdj]at h6;simp only[Cx,Dg]at h6;obtain⟨⟨⟨g1,g2⟩,g3⟩,g4⟩:=h6;obtain⟨a1,a2,a3⟩:=h.inp_at hi (k:=0) (by omega) (by rw[zgv (by omega)];omega);have hl1:=h.flen a2 (by omega);rw[g3,show zch 6=1 from rfl]at hl1;obtain⟨b1,b2,b3⟩:=h.inp_at a2 (k:=0) (by omega) (by rw[g3];decide)
  have hfe:(zab p.1 (M.fk (zab p.1 i) 0)).2.2.2=[((M.fk (zab p.1 (M.fk (zab p.1 i) 0)) 0:Nat):Int)]:=by
   obtain⟨u,hu⟩:=List.length_eq_one_iff.1 hl1;rw[<-b3,hu]
   rfl
  have q1:=(zcx hok).2.1 g1;have q2:=(zcx (h.node a2).2).2.1 g3;refine⟨R,?_⟩;show M.Falls tb p (p.1.set i (zft p.1 (zab p.1 i)),p.2) R R
  rw[zft,hfe];exact ztz h hi b2 (fun hr=>.dep _ _ (dep _ (by rw[<-a3];exact a1) hr) (by rw[<-b3];exact b1)) g1 (by omega) (by omega) (by omega)
 rename_i h6
 rw[if_neg h6]
 split at hr
 ·rename_i h7
  rw[if_pos h7];obtain⟨k,hk⟩:=Option.isSome_iff_exists.1 h7;have hk2:=hk;rw[zcq,List.find?_range_eq_some]at hk2;obtain⟨q1,q2,q3⟩:=hk2;rw[Cx,Dg]at q1;have q2:=Gj.1 q2;refine⟨fun j=>if j=k then min (R k) (R i)else R j,?_⟩;show M.Falls tb p (za5 i (((zcq nd p.1 i).getD 0:Nat):Int) p) R _
  rw[hk];exact zn4 h hi (show k<p.1.length by omega) (by omega) hri (hnd k q1.1) (ztx h hi (by omega) q1.2)
 exact absurd rfl hr
theorem zk0{ND:NO->Nat->Bool}{p q:NO}(h:zbs ND tb p=some q):∀t,zan ND tb p (t+1)=zan ND tb q t:=by
 intro t
 induction t with
 | zero=>
  show (zbs ND tb p).getD p=q
  rw[h];rfl
 | succ t ih=>rw[zan,ih,<-zan]
theorem zn5{nd:Nat->Bool}{ns:List Node}{i:Nat}(h:zha nd ns=some i):i<ns.length/\zbb nd ns i≠0/\∀j,j<i->zbb nd ns j=0:=by
 rw[zha,List.find?_range_eq_some]at h;obtain⟨h1,h2,h3⟩:=h;exact⟨Gj.1 h2,by simpa using h1,fun j hj=>by simpa using h3 j hj⟩
theorem zk1{ND:NO->Nat->Bool}(hND:∀p j,ND p j=true↔M.Rch p.1 p.2 j){p q:NO}{R:Nat->Nat}(h:M.WP tb p R)(hs:zbs ND tb p=some q):∃R',M.Falls tb p q R R':=by
 rw[zbs,Option.map_eq_some_iff]at hs;obtain⟨i,hi,rfl⟩:=hs;obtain⟨h1,h2,-⟩:=zn5 hi;exact zt0 h (fun j=>(hND p j).1) h1 h2
theorem zn6{ND:NO->Nat->Bool}(hND:∀p j,ND p j=true↔M.Rch p.1 p.2 j)(p:NO)(R:Nat->Nat)(h:M.WP tb p R):∃N,zbs ND tb (zan ND tb p N)=none:=by
 cases hs:zbs ND tb p with
 | none=>exact⟨0,hs⟩
 | some q=>
  obtain⟨R',hf⟩:=zk1 hND h hs;have hlow:=hf.low;have hle:zat (ND q) 24<=zat (ND p) 24:=zkx (fun j hj=>(hND p j).2 (hf.sub j ((hND q j).1 hj))) 24
  have hlt:(∃j,j<p.1.length/\M.Rch p.1 p.2 j/\¬M.Rch q.1 q.2 j)->zat (ND q) 24<zat (ND p) 24:=fun⟨j,h1,h2,h3⟩=>zky (i:=j) (fun j hj=>(hND p j).2 (hf.sub j ((hND q j).1 hj))) (by have:=h.len;omega) (by
   cases e:ND q j
   ·rfl
   exact absurd ((hND q j).1 e) h3) ((hND p j).2 h2)
  have dec:zat (ND q) 24<zat (ND p) 24\/(zat (ND q) 24=zat (ND p) 24/\(zdc q.1<zdc p.1\/(zdc q.1=zdc p.1/\(zdl R' q.1<zdl R p.1\/(zdl R' q.1=zdl R p.1/\ze6 q.1<ze6 p.1))))):=by
   rcases hlow with h1|⟨rfl,h1⟩
   ·exact .inl (hlt h1)
   rcases Nat.lt_or_eq_of_le hle with h2|h2
   ·exact .inl h2
   exact .inr ⟨h2,h1⟩
  obtain⟨N,hN⟩:=zn6 hND q R' hf.wp;exact⟨N+1,by rw[zk0 hs];exact hN⟩
termination_by (zat (ND p) 24,zdc p.1,zdl R p.1,ze6 p.1)
decreasing_by
 rcases dec with h1|⟨h1,h2|⟨h2,h3|⟨h3,h4⟩⟩⟩
 ·exact Prod.Lex.left _ _ h1
 ·rw[h1];exact Prod.Lex.right _ (Prod.Lex.left _ _ h2)
 ·rw[h1,h2];exact Prod.Lex.right _ (Prod.Lex.right _ (Prod.Lex.left _ _ h3))
 rw[h1,h2,h3];exact Prod.Lex.right _ (Prod.Lex.right _ (Prod.Lex.right _ h4))
theorem zja{ND:NO->Nat->Bool}(hND:∀p j,ND p j=true↔M.Rch p.1 p.2 j){p:NO}{R:Nat->Nat}(h:M.WP tb p R):∀t,∃R',M.WP tb (zan ND tb p t) R'/\(zan ND tb p t).1.length=p.1.length/\(zan ND tb p t).2.length=p.2.length:=by
 intro t
 induction t with
 | zero=>exact⟨R,h,rfl,rfl⟩
 | succ t ih=>
  obtain⟨R',h1,h2,h3⟩:=ih;rw[zan];cases hs:zbs ND tb (zan ND tb p t)with
  | none=>exact⟨R',h1,h2,h3⟩
  | some q=>
   obtain⟨R2,hf⟩:=zk1 hND h1 hs;exact⟨R2,hf.wp,hf.len.trans h2,hf.olen.trans h3⟩
theorem zk2{ND:NO->Nat->Bool}{p:NO}{t:Nat}(h:zbs ND tb (zan ND tb p t)=none):∀d,zan ND tb p (t+d)=zan ND tb p t:=by
 intro d
 induction d with
 | zero=>rfl
 | succ d ih=>rw[<-Nat.add_assoc,zan,ih,h];rfl
theorem zt1:∃ND:NO->Nat->Bool,∀p j,ND p j=true↔M.Rch p.1 p.2 j:=by
 refine⟨fun p j=>@decide (M.Rch p.1 p.2 j) (Classical.propDecidable _),fun p j=>?_⟩;exact @decide_eq_true_iff (M.Rch p.1 p.2 j) (Classical.propDecidable _)
theorem zt2{ns:List Node}{O:List Int}(h:M.Topo ns O)(hfr:∀(i:Nat) (x:Node),ns[i]?=some x->∀f∈x.2.2.2,0<=f/\f<ns.length):∃R,zeu ns R:=by
 have hc:∀j:Nat,∃t,j<ns.length->t<O.length/\zao O t=j:=fun j=>by
  by_cases hj:j<ns.length
  ·obtain⟨t,ht⟩:=h.all hj;exact⟨t,fun _=>ht⟩
  exact⟨0,fun e=>absurd e hj⟩
 refine⟨fun j=>Classical.choose (hc j),fun i x hx f hf=>?_⟩;have hi:i<ns.length:=(Bk.1 hx).1;have hx2:=zkr hx;obtain⟨a1,a2⟩:=Classical.choose_spec (hc i) hi;have hff:=hfr i x hx f (by unfold zax at hf;split at hf;simp at hf;exact hf);refine⟨hff,?_⟩;obtain⟨b1,b2⟩:=Classical.choose_spec (hc f.toNat) (by omega);obtain⟨s,hs,he⟩:=h.aft _ a1 f (by rw[a2,hx2];exact hf);have:zao O s=f.toNat:=by rw[zao,<-he]
 rcases Nat.lt_trichotomy (Classical.choose (hc f.toNat)) s with h1|h1|h1
 ·exact absurd (by rw[b2,this]) (h.new _ _ h1 (by omega))
 ·show Classical.choose (hc f.toNat)<Classical.choose (hc i)
  omega
 exact absurd (by rw[b2,this]) (h.new _ _ h1 (by omega))
theorem zjb{ns:List Node}{O os:List Int}(h:M.PF ns tb O)(ho:∀o∈os,0<=o/\o<ns.length):∃R,M.WP tb (ns,os) R:=by
 obtain⟨R,hR⟩:=zt2 h.top h.fr;exact⟨R,h.tabs,h.ok,h.fr,h.inp,hR,h.len,ho⟩
end
end
section
def zbm (xs:List Int) (V:Nat->Nat->Int) (x:Node) (t:Nat):List Int:=if x.1=1 then[M.at_ xs (t:Int)]else x.2.2.2.map fun f=>V f.toNat t
def M.NS (tb:List (List Int)) (x:Node) (I:Nat->List Int) (v:Nat->Int) (s:Nat->List Int):Prop:=
 s 0=zbe x/\∀t,v t=zah x tb (I t) (s t)/\s (t+1)=zaq x (I t) (s t) (v t)
def M.Sol (tb:List (List Int)) (xs:List Int) (ns:List Node) (V:Nat->Nat->Int):Prop:=∀i,i<ns.length->∃s,M.NS tb (zab ns i) (zbm xs V (zab ns i)) (V i) s
theorem M.NS.det{tb:List (List Int)}{x:Node}{I:Nat->List Int}{v v':Nat->Int}{s s':Nat->List Int}(h:M.NS tb x I v s)(h':M.NS tb x I v' s'):∀t,v t=v' t:=by
 have key:∀t,s t=s' t:=by
  intro t
  induction t with
  | zero=>rw[h.1,h'.1]
  | succ t ih=>rw[(h.2 t).2,(h'.2 t).2,(h.2 t).1,(h'.2 t).1,ih]
 intro t;rw[(h.2 t).1,(h'.2 t).1,key t]
section
variable {tb:List (List Int)} {xs:List Int}
theorem M.Sol.det{ns:List Node}{R:Nat->Nat}(hR:zeu ns R)(hfr:∀i,i<ns.length->∀f∈(zab ns i).2.2.2,0<=f/\f<ns.length){V V':Nat->Nat->Int}(h:M.Sol tb xs ns V)(h':M.Sol tb xs ns V'):∀t i,i<ns.length->V i t=V' i t:=by
 have hs:∃S:Nat->Nat->List Int,∀i,i<ns.length->M.NS tb (zab ns i) (zbm xs V (zab ns i)) (V i) (S i):=
  ⟨fun i=>Classical.epsilon (fun s=>M.NS tb (zab ns i) (zbm xs V (zab ns i)) (V i) s),fun i hi=>Classical.epsilon_spec (h i hi)⟩
 have hs':∃S:Nat->Nat->List Int,∀i,i<ns.length->M.NS tb (zab ns i) (zbm xs V' (zab ns i)) (V' i) (S i):=
  ⟨fun i=>Classical.epsilon (fun s=>M.NS tb (zab ns i) (zbm xs V' (zab ns i)) (V' i) s),fun i hi=>Classical.epsilon_spec (h' i hi)⟩
 obtain⟨S,hS⟩:=hs;obtain⟨S',hS'⟩:=hs'
 have key:∀t,(∀i,i<ns.length->S i t=S' i t)->∀r i,R i<=r->i<ns.length->V i t=V' i t:=by
  intro t hE r
  induction r using Nat.strongRecOn with
  | _ r ih=>
   intro i hr hi;rw[((hS i hi).2 t).1,((hS' i hi).2 t).1,hE i hi]
   by_cases h6:(zab ns i).1=6
   ·rw[zhx h6,zhx h6]
   congr 1;unfold zbm
   split
   ·rfl
   refine List.map_congr_left fun f hf=>?_
   have:=hR i _ (zcd hi) f (by rw[zix h6];exact hf);exact ih (R f.toNat) (by omega) f.toNat (Aj _) (by omega)
 have keyS:∀t,∀i,i<ns.length->S i t=S' i t:=by
  intro t
  induction t with
  | zero=>intro i hi;rw[(hS i hi).1,(hS' i hi).1]
  | succ t ih=>
   intro i hi;have hV:∀j,j<ns.length->V j t=V' j t:=fun j hj=>key t ih _ j (Aj _) hj
   rw[((hS i hi).2 t).2,((hS' i hi).2 t).2,ih i hi,hV i hi];congr 1;unfold zbm
   split
   ·rfl
   exact List.map_congr_left fun f hf=>hV f.toNat (by have:=hfr i hi f hf;omega)
 intro t i hi;exact key t (keyS t) _ i (Aj _) hi
def zk3 (n:Nat) (V:Nat->Nat->Int):Prop:=∀i t,i<n->M.smp (V i t)=true
theorem M.WP.frs{p:NO}{R:Nat->Nat}(h:M.WP tb p R):∀i,i<p.1.length->∀f∈(zab p.1 i).2.2.2,0<=f/\f<p.1.length:=fun i hi=>h.fr i _ (zcd hi)
theorem zn7{V:Nat->Nat->Int}{x:Node}(h1:x.1≠1)(t k:Nat)(hk:k<x.2.2.2.length):M.i_ (zbm xs V x t) k=V (M.fk x k) t:=by
 rw[zbm,if_neg h1,M.i_,M.fk,M.i_,Fv,Ak hk]
 rfl
theorem M.Sol.const{p:NO}{V:Nat->Nat->Int}(h:M.Sol tb xs p.1 V){f:Nat}(hc:zb8 p.1 f=true)(t:Nat):V f t=(zab p.1 f).2.1:=by
 have hk:=znz.1 hc;obtain⟨s,hs⟩:=h f (znv (by omega));rw[(hs.2 t).1];simp[zah,hk]
theorem M.Sol.zero{p:NO}{V:Nat->Nat->Int}(h:M.Sol tb xs p.1 V){f:Nat}(hc:zdh p.1 f=true)(t:Nat):V f t=0:=by
 rw[zdh,Cx,Dg]at hc;rw[h.const hc.1 t,hc.2]
theorem M.Sol.set{ns:List Node}{V:Nat->Nat->Int}(h:M.Sol tb xs ns V){i:Nat}(hi:i<ns.length){y:Node}(hy:∃s,M.NS tb y (zbm xs V y) (V i) s):M.Sol tb xs (ns.set i y) V:=by
 intro j hj;rw[Fx]at hj;rw[znw hi]
 split
 ·rename_i e
  rw[e];exact hy
 exact h j hj
theorem M.Sol.rpl{p:NO}{V:Nat->Nat->Int}(h:M.Sol tb xs p.1 V){i b:Nat}(he:∀t,V i t=V b t):M.Sol tb xs (za5 i b p).1 V:=by
 intro j hj;have hl:(za5 i b p).1.length=p.1.length:=by simp[za5]
 rw[hl]at hj;rw[znx];obtain⟨s,hs⟩:=h j hj;refine⟨s,?_⟩
 have e1:zbm xs V (zdb i b (zab p.1 j))=zbm xs V (zab p.1 j):=by
  funext t
  unfold zbm;have:(zdb i b (zab p.1 j)).1=(zab p.1 j).1:=rfl;rw[this]
  split
  ·rfl
  simp only[zdb,zda,List.map_map];refine List.map_congr_left fun f hf=>?_
  simp only[Function.comp]
  split
  ·rename_i e
   rw[e,Fq,Fq];exact(he t).symm
  rfl
 rw[e1];refine⟨hs.1,fun t=>⟨?_,?_⟩⟩
 ·rw[(hs.2 t).1];rfl
 rw[(hs.2 t).2];rfl
theorem M.NS.const(a b:Int)(l:List Int)(I:Nat->List Int):∃s,M.NS tb (2,a,b,l) I (fun _=>a) s:=⟨fun _=>[],by simp[zbe,zbk],fun t=>⟨by simp[zah],by simp[zaq]⟩⟩
theorem M.NS.gain(a b:Int)(l:List Int)(I:Nat->List Int):∃s,M.NS tb (5,a,b,l) I (fun t=>wrap32 (a*M.i_ (I t) 0)) s:=⟨fun _=>[],by simp[zbe,zbk],fun t=>⟨by simp[zah],by simp[zaq]⟩⟩
theorem M.NS.delay(a b:Int)(l:List Int)(ha:1<=a)(I:Nat->List Int):∃s,M.NS tb (6,a,b,l) I (fun t=>if t<a.toNat then 0 else M.i_ (I (t-a.toNat)) 0) s:=by
 refine⟨fun t=>(List.range a.toNat).map fun k=>if t+k<a.toNat then 0 else M.i_ (I (t+k-a.toNat)) 0,?_,fun t=>⟨?_,?_⟩⟩
 ·have:zbe (6,a,b,l)=List.replicate a.toNat 0:=by simp[zbe,zbk]
  rw[this];refine zkk (by simp) fun j hj=>?_
  rw[Ff,List.length_range]at hj;rw[M.i_,M.i_,Fv,List.getElem?_range hj,List.getElem?_replicate,if_pos hj];simp only[Option.map_some,Option.getD_some];rw[if_pos (by omega)]
 ·have h0:0<a.toNat:=by omega
  simp[zah,M.i_,h0]
 have h0:0<a.toNat:=by omega
 have:zaq (6,a,b,l) (I t) ((List.range a.toNat).map fun k=>if t+k<a.toNat then 0 else M.i_ (I (t+k-a.toNat)) 0) (if t<a.toNat then 0 else M.i_ (I (t-a.toNat)) 0)=((List.range a.toNat).map fun k=>if t+k<a.toNat then 0 else M.i_ (I (t+k-a.toNat)) 0).drop 1++[M.i_ (I t) 0]:=by simp[zaq]
 rw[this];refine zkk (by simp;omega) fun j hj=>?_
 rw[Ff,List.length_range]at hj;rw[M.i_,M.i_,Fv,List.getElem?_range hj]
 by_cases hl:j+1<a.toNat
 ·rw[List.getElem?_append_left (by simp;omega),List.getElem?_drop,Fv,List.getElem?_range (by omega)];simp only[Option.map_some,Option.getD_some];rw[show t+1+j=t+(1+j)by omega]
 have e:j=a.toNat-1:=by omega
 rw[Gz (by simp;omega)];simp only[Option.map_some,Option.getD_some,List.length_drop,Ff,List.length_range];rw[show j-(a.toNat-1)=0 by omega,if_neg (by omega),show t+1+j-a.toNat=t by omega]
 rfl
theorem zn8(n:Nat)(h:1<=n):(List.replicate n (0:Int)).drop 1++[0]=List.replicate n 0:=by
 rw[List.drop_replicate];obtain⟨m,rfl⟩:∃m,n=m+1:=⟨n-1,by omega⟩;rw[Nat.add_sub_cancel,<-List.replicate_succ']
theorem M.w0:wrap32 0=0:=by unfold wrap32;omega
theorem M.NS.zeros{x:Node}{t0:Int}(hok:zaj x t0=true){I:Nat->List Int}
 (h:((x.1=5\/x.1=11)/\x.2.1=0)\/(x.1=4/\∀t,M.i_ (I t) 0=M.i_ (I t) 1)\/((x.1=6\/x.1=7\/x.1=8\/x.1=17)/\∀t,M.i_ (I t) 0=0)):∃s,M.NS tb x I (fun _=>0) s:=by
 obtain⟨-,h6,h17⟩:=zcx hok;obtain⟨k,a,b,l⟩:=x;dsimp only at h h6 h17;refine⟨fun _=>List.replicate (zbk (k,a,b,l)) 0,?_,fun t=>?_⟩
 ·have:k≠12/\k≠14:=by omega
  simp[zbe,this.1,this.2]
 rcases h with⟨h1|h1,h2⟩|⟨h1,h2⟩|⟨h1|h1|h1|h1,h2⟩
 ·subst h1;subst h2;simp[zah,zaq,zbk,M.w0]
 ·subst h1;subst h2;refine⟨?_,by simp[zaq,zbk]⟩;simp[zah];omega
 ·subst h1;refine⟨?_,by simp[zaq,zbk]⟩;simp[zah,h2 t,M.w0]
 ·subst h1;have:=h6 rfl;have h0:0<a.toNat:=by omega
  refine⟨by simp[zah,zbk,M.i_,h0],?_⟩;have e:=zn8 a.toNat (by omega);simpa [zaq,zbk,h2 t]using e.symm
 ·subst h1;have e:=h2 t;refine⟨?_,by simp[zaq,zbk]⟩;simp[zah,zbk,e,M.w0];simp[M.i_,M.w0]
 ·subst h1;have e:=h2 t;refine⟨?_,by simp[zaq,zbk,e]⟩;simp[zah,zbk,e,M.w0];simp[M.i_,M.w0]
 subst h1;have:=h17 rfl;have h0:0<b.toNat:=by omega
 refine⟨by simp[zah,zbk,h2 t,M.w0];simp[M.i_,h0,M.w0],?_⟩;have e:=zn8 b.toNat (by omega);simpa [zaq,zbk]using e.symm
end
end
section
section
variable {tb:List (List Int)} {xs:List Int} {p:NO} {R:Nat->Nat} {V:Nat->Nat->Int}
theorem zt3{x:Node}(h:x.1=3\/x.1=4\/x.1=5\/x.1=9\/x.1=10\/x.1=11\/x.1=13\/x.1=15)(ins s:List Int):zah x tb ins s=zah x tb ins []:=by
 obtain⟨k,a,b,l⟩:=x;dsimp only at h;rcases h with rfl|rfl|rfl|rfl|rfl|rfl|rfl|rfl <;> simp[zah]
theorem zt4(a b y:Int):wrap32 (a*wrap32 (b*y))=wrap32 (wrap32 (a*b)*y):=by
 have h1:∃k,wrap32 (b*y)=b*y+4294967296*k:=⟨-((b*y+2147483648) / 4294967296),by unfold wrap32;omega⟩;have h2:∃k,wrap32 (a*b)=a*b+4294967296*k:=⟨-((a*b+2147483648) / 4294967296),by unfold wrap32;omega⟩;obtain⟨k,hk⟩:=h1;obtain⟨l,hl⟩:=h2;rw[hk,hl]
 have e:a*(b*y+4294967296*k)=(a*b+4294967296*l)*y+4294967296*(a*k-l*y):=by
  rw[Int.mul_add,Int.add_mul,Int.mul_sub,Int.mul_assoc a b y];have e1:a*(4294967296*k)=4294967296*(a*k):=by rw[<-Int.mul_assoc,Int.mul_comm a 4294967296,Int.mul_assoc]
  have e2:4294967296*l*y=4294967296*(l*y):=Int.mul_assoc _ _ _;rw[e1,e2];omega
 rw[e];unfold wrap32;omega
theorem M.Sol.eq{ns:List Node}(h:M.Sol tb xs ns V){i:Nat}(hi:i<ns.length){v:Nat->Int}(hv:∃s,M.NS tb (zab ns i) (zbm xs V (zab ns i)) v s):V i=v:=by
 obtain⟨s,hs⟩:=h i hi;obtain⟨s',hs'⟩:=hv;exact funext (hs.det hs')
theorem zt5(h:M.WP tb p R)(hs:M.Sol tb xs p.1 V)(hv:zk3 p.1.length V){i:Nat}(hi:i<p.1.length)(h3:0<=zaz p.1 (zab p.1 i)):∀t,V i t=V (zaz p.1 (zab p.1 i)).toNat t:=by
 intro t;obtain⟨hk,-⟩:=zn0 h3;obtain⟨s,hns⟩:=hs i hi;have h1:(zab p.1 i).1≠1:=by omega
 have hl:=h.flen hi h1
 have iv:∀k,k<zch (zab p.1 i).1->M.i_ (zbm xs V (zab p.1 i) t) k=V (M.fk (zab p.1 i) k) t/\M.smp (V (M.fk (zab p.1 i) k) t)=true/\(M.i_ (zab p.1 i).2.2.2 k).toNat=M.fk (zab p.1 i) k:=fun k hk=>by
  obtain⟨a1,a2,a3⟩:=h.inp_at hi h1 hk;exact⟨zn7 h1 t k (by omega),hv _ _ a2,rfl⟩
 rw[(hns.2 t).1];generalize hg:zab p.1 i=x at *;generalize hI:zbm xs V x t=I at *;rcases hk with hk|hk|hk|hk|hk|hk
 ·rw[hk]at iv;obtain⟨e0,s0,t0⟩:=iv 0 (by decide);obtain⟨e1,s1,t1⟩:=iv 1 (by decide);have eS:zaz p.1 x=if zdh p.1 (M.fk x 0)then M.i_ x.2.2.2 1 else if zdh p.1 (M.fk x 1)then M.i_ x.2.2.2 0 else -1:=by simp[zaz,hk]
  have eO:zah x tb I (s t)=wrap32 (M.i_ I 0+M.i_ I 1):=by simp[zah,hk]
  rw[eS]at h3 ⊢;rw[eO,e0,e1]
  split at h3
  ·rename_i e
   rw[if_pos e,t1,hs.zero e t,Int.zero_add,M.wrap32_of _ s1]
  rename_i e
  rw[if_neg e]
  split at h3
  ·rename_i e'
   rw[if_pos e',t0,hs.zero e' t,Int.add_zero,M.wrap32_of _ s0]
  simp at h3
 ·rw[hk]at iv;obtain⟨e0,s0,t0⟩:=iv 0 (by decide);obtain⟨e1,s1,t1⟩:=iv 1 (by decide);have eS:zaz p.1 x=if zdh p.1 (M.fk x 1)then M.i_ x.2.2.2 0 else -1:=by simp[zaz,hk]
  have eO:zah x tb I (s t)=wrap32 (M.i_ I 0-M.i_ I 1):=by simp[zah,hk]
  rw[eS]at h3 ⊢;rw[eO,e0,e1]
  split at h3
  ·rename_i e
   rw[if_pos e,t0,hs.zero e t,Int.sub_zero,M.wrap32_of _ s0]
  simp at h3
 ·rw[hk]at iv;obtain⟨e0,s0,t0⟩:=iv 0 (by decide);have eS:zaz p.1 x=if x.2.1=1 then M.i_ x.2.2.2 0 else -1:=by simp[zaz,hk]
  have eO:zah x tb I (s t)=wrap32 (x.2.1*M.i_ I 0):=by simp[zah,hk]
  rw[eS]at h3 ⊢;rw[eO,e0]
  split at h3
  ·rename_i e
   rw[if_pos e,t0,e,Int.one_mul,M.wrap32_of _ s0]
  simp at h3
 ·rw[hk]at iv;obtain⟨e0,s0,t0⟩:=iv 0 (by decide);have eS:zaz p.1 x=if x.2.1=0 then M.i_ x.2.2.2 0 else -1:=by simp[zaz,hk]
  have eO:zah x tb I (s t)=M.i_ I 0 / 2 ^ x.2.1.toNat:=by simp[zah,hk]
  rw[eS]at h3 ⊢;rw[eO,e0]
  split at h3
  ·rename_i e
   rw[if_pos e,t0,e];simp
  simp at h3
 ·rw[hk]at iv;obtain⟨e0,s0,t0⟩:=iv 0 (by decide);obtain⟨e1,s1,t1⟩:=iv 1 (by decide);obtain⟨e2,s2,t2⟩:=iv 2 (by decide);have eS:zaz p.1 x=if zb8 p.1 (M.fk x 0)then(if 0<=(zab p.1 (M.fk x 0)).2.1 then M.i_ x.2.2.2 1 else M.i_ x.2.2.2 2)else if M.i_ x.2.2.2 1=M.i_ x.2.2.2 2 then M.i_ x.2.2.2 1 else -1:=by simp[zaz,hk]
  have eO:zah x tb I (s t)=if 0<=M.i_ I 0 then M.i_ I 1 else M.i_ I 2:=by simp[zah,hk]
  rw[eS]at h3 ⊢;rw[eO,e0,e1,e2]
  split at h3
  ·rename_i e
   rw[if_pos e,hs.const e t]
   split
   ·rw[t1]
   rw[t2]
  rename_i e
  rw[if_neg e]
  split at h3
  ·rename_i e'
   rw[if_pos e',t1];have:M.fk x 2=M.fk x 1:=(by unfold M.fk;rw[e']);rw[this]
   split <;> rfl
  simp at h3
 rw[hk]at iv;obtain⟨e0,s0,t0⟩:=iv 0 (by decide);obtain⟨e1,s1,t1⟩:=iv 1 (by decide);have eS:zaz p.1 x=if zb8 p.1 (M.fk x 1)&&decide (0<(zab p.1 (M.fk x 1)).2.1)then M.i_ x.2.2.2 0 else -1:=by simp[zaz,hk]
 have eO:zah x tb I (s t)=if 0<M.i_ I 1 then M.i_ I 0 else M.i_ (s t) 0:=by simp[zah,hk]
 rw[eS]at h3 ⊢;rw[eO,e0,e1]
 split at h3
 ·rename_i e
  rw[if_pos e,t0];rw[Cx,Dg]at e;rw[hs.const e.1 t,if_pos e.2]
 simp at h3
theorem zt6(h:M.WP tb p R)(hs:M.Sol tb xs p.1 V)(hv:zk3 p.1.length V){nd:Nat->Bool}{i:Nat}(hi:i<p.1.length)(hr:zbb nd p.1 i≠0):
 M.Sol tb xs (zbz nd tb p i (zbb nd p.1 i)).1 V/\∀k t,V (M.i_ (zbz nd tb p i (zbb nd p.1 i)).2 k).toNat t=V (M.i_ p.2 k).toNat t:=by
 have hx:=zcd hi;have hok:=(h.node hi).2;obtain⟨s,hns⟩:=hs i hi;have iv:(zab p.1 i).1≠1->∀k t,k<zch (zab p.1 i).1->M.i_ (zbm xs V (zab p.1 i) t) k=V (M.fk (zab p.1 i) k) t:=fun h1 k t hk=>zn7 h1 t k (by rw[h.flen hi h1];exact hk)
 have ivf:∀(y:Node) (f:Nat) (t:Nat),y.1≠1->y.2.2.2=[(f:Int)]->M.i_ (zbm xs V y t) 0=V f t:=fun y f t h1 hy=>by
  rw[zbm,if_neg h1,hy];rfl
 have outs_rpl:∀b:Nat,(∀t,V i t=V b t)->∀k t,V (M.i_ (za5 i b p).2 k).toNat t=V (M.i_ p.2 k).toNat t:=fun b hb k t=>by
  simp only[za5,zda,M.i_,Fv];cases e:p.2[k]? with
  | none=>rfl
  | some o=>
   simp only[Option.map_some,Option.getD_some]
   split
   ·rename_i e2
    rw[e2,Fq,Fq,hb t]
   rfl
 unfold zbb at hr ⊢
 split at hr
 ·exact absurd rfl hr
 rename_i hn
 rw[if_neg hn]
 split at hr
 ·rename_i h1
  rw[if_pos h1];refine⟨?_,fun _ _=>rfl⟩;show M.Sol tb xs (p.1.set i _) V
  refine hs.set hi ?_;have hc:=h1;rw[zcm,Cx]at hc;have hk:=zi9 hc.1
  have:V i=fun _=>zah (zab p.1 i) tb (zev p.1 (zab p.1 i)) []:=by
   funext t
   rw[(hns.2 t).1,zt3 (by omega)];congr 1;rw[zbm,if_neg (by omega),zev];exact List.map_congr_left fun f hf=>hs.const (Ef.1 hc.2 f hf) t
  rw[this];exact M.NS.const _ _ _ _
 rename_i h1
 rw[if_neg h1]
 split at hr
 ·rename_i h2
  rw[if_pos h2];refine⟨?_,fun _ _=>rfl⟩;show M.Sol tb xs (p.1.set i _) V
  refine hs.set hi ?_
  have:V i=fun _=>0:=hs.eq hi (M.NS.zeros hok (by
   unfold zcn at h2
   split at h2
   ·rename_i e;exact .inl ⟨e,of_decide_eq_true h2⟩
   split at h2
   ·rename_i e
    refine .inr (.inl ⟨e,fun t=>?_⟩);rw[iv (by omega) 0 t (by rw[e];decide),iv (by omega) 1 t (by rw[e];decide)];unfold M.fk;rw[of_decide_eq_true h2]
   split at h2
   ·rename_i e
    refine .inr (.inr ⟨e,fun t=>?_⟩);rw[iv (by omega) 0 t (by rw[zgv (by omega)];decide)];exact hs.zero h2 t
   simp at h2))
  rw[this];exact M.NS.const _ _ _ _
 rename_i h2
 rw[if_neg h2]
 split at hr
 ·rename_i h3
  rw[if_pos h3];have he:=zt5 h hs hv hi h3;have e2:zaz p.1 (zab p.1 i)=((zaz p.1 (zab p.1 i)).toNat:Int):=by omega
  show M.Sol tb xs (za5 i (zaz p.1 (zab p.1 i)) p).1 V/\∀k t,V (M.i_ (za5 i (zaz p.1 (zab p.1 i)) p).2 k).toNat t=_
  rw[e2];exact⟨hs.rpl he,outs_rpl _ he⟩
 rename_i h3
 rw[if_neg h3]
 split at hr
 ·rename_i h4
  rw[if_pos h4];refine⟨?_,fun _ _=>rfl⟩;show M.Sol tb xs (p.1.set i (zfr p.1 (zab p.1 i))) V
  refine hs.set hi ?_;rw[zdi,Cx,Dg,Bool.or_eq_true]at h4;have hl2:zch (zab p.1 i).1=2:=zn2 (by omega);obtain⟨a1,a2,a3⟩:=h.inp_at hi (k:=0) (by omega) (by omega);obtain⟨b1,b2,b3⟩:=h.inp_at hi (k:=1) (by omega) (by omega)
  have eO:∀t,V i t=wrap32 (V (M.fk (zab p.1 i) 0) t*V (M.fk (zab p.1 i) 1) t):=fun t=>by
   rw[(hns.2 t).1,<-iv (by omega) 0 t (by omega),<-iv (by omega) 1 t (by omega)];simp[zah,h4.1]
  rw[zfr]
  by_cases hc:zb8 p.1 (M.fk (zab p.1 i) 0)=true
  ·rw[if_pos hc,b3]
   have:V i=fun t=>wrap32 ((zab p.1 (M.fk (zab p.1 i) 0)).2.1*M.i_ (zbm xs V (5,(zab p.1 (M.fk (zab p.1 i) 0)).2.1,0,[((M.fk (zab p.1 i) 1:Nat):Int)]) t) 0):=by
    funext t
    rw[eO,hs.const hc t,ivf _ _ t (show (5:Int)≠1 by decide) rfl]
   rw[this];exact M.NS.gain _ _ _ _
  rw[if_neg hc,a3];have hc1:=h4.2.resolve_left hc
  have:V i=fun t=>wrap32 ((zab p.1 (M.fk (zab p.1 i) 1)).2.1*M.i_ (zbm xs V (5,(zab p.1 (M.fk (zab p.1 i) 1)).2.1,0,[((M.fk (zab p.1 i) 0:Nat):Int)]) t) 0):=by
   funext t
   rw[eO,hs.const hc1 t,ivf _ _ t (show (5:Int)≠1 by decide) rfl,Int.mul_comm]
  rw[this];exact M.NS.gain _ _ _ _
 rename_i h4
 rw[if_neg h4]
 split at hr
 ·rename_i h5
  rw[if_pos h5];refine⟨?_,fun _ _=>rfl⟩;show M.Sol tb xs (p.1.set i (zfs p.1 (zab p.1 i))) V
  refine hs.set hi ?_;rw[zdw,Cx,Dg,Dg]at h5;obtain⟨a1,a2,a3⟩:=h.inp_at hi (k:=0) (by omega) (by rw[zgv (by omega)];omega);have hl1:=h.flen a2 (by omega);rw[h5.2,show zch 5=1 from rfl]at hl1;obtain⟨b1,b2,b3⟩:=h.inp_at a2 (k:=0) (by omega) (by rw[h5.2];decide)
  have hfe:(zab p.1 (M.fk (zab p.1 i) 0)).2.2.2=[((M.fk (zab p.1 (M.fk (zab p.1 i) 0)) 0:Nat):Int)]:=by
   obtain⟨u,hu⟩:=List.length_eq_one_iff.1 hl1;rw[<-b3,hu]
   rfl
  obtain⟨s2,hns2⟩:=hs _ a2;rw[zfs,hfe]
  have:V i=fun t=>wrap32 (wrap32 ((zab p.1 i).2.1*(zab p.1 (M.fk (zab p.1 i) 0)).2.1)*M.i_ (zbm xs V (5,wrap32 ((zab p.1 i).2.1*(zab p.1 (M.fk (zab p.1 i) 0)).2.1),0,[((M.fk (zab p.1 (M.fk (zab p.1 i) 0)) 0:Nat):Int)]) t) 0):=by
   funext t
   have e1:V i t=wrap32 ((zab p.1 i).2.1*V (M.fk (zab p.1 i) 0) t):=by
    rw[(hns.2 t).1,<-iv (by omega) 0 t (by rw[zgv (by omega)];omega)];simp[zah,h5.1]
   have e2:V (M.fk (zab p.1 i) 0) t=wrap32 ((zab p.1 (M.fk (zab p.1 i) 0)).2.1*V (M.fk (zab p.1 (M.fk (zab p.1 i) 0)) 0) t):=by
    rw[(hns2.2 t).1,<-ivf (zab p.1 (M.fk (zab p.1 i) 0)) _ t (by omega) hfe];simp[zah,h5.2]
   rw[e1,e2,zt4,ivf _ _ t (show (5:Int)≠1 by decide) rfl]
  rw[this];exact M.NS.gain _ _ _ _
 rename_i h5
 rw[if_neg h5]
 split at hr
 ·rename_i h6
  rw[if_pos h6];refine⟨?_,fun _ _=>rfl⟩;show M.Sol tb xs (p.1.set i (zft p.1 (zab p.1 i))) V
  refine hs.set hi ?_;rw[zdj]at h6;simp only[Cx,Dg]at h6;obtain⟨⟨⟨g1,g2⟩,g3⟩,g4⟩:=h6;obtain⟨a1,a2,a3⟩:=h.inp_at hi (k:=0) (by omega) (by rw[zgv (by omega)];omega);have hl1:=h.flen a2 (by omega);rw[g3,show zch 6=1 from rfl]at hl1;obtain⟨b1,b2,b3⟩:=h.inp_at a2 (k:=0) (by omega) (by rw[g3];decide)
  have hfe:(zab p.1 (M.fk (zab p.1 i) 0)).2.2.2=[((M.fk (zab p.1 (M.fk (zab p.1 i) 0)) 0:Nat):Int)]:=by
   obtain⟨u,hu⟩:=List.length_eq_one_iff.1 hl1;rw[<-b3,hu]
   rfl
  have q1:=(zcx hok).2.1 g1;have q2:=(zcx (h.node a2).2).2.1 g3
  have E1:V i=fun t=>if t<(zab p.1 i).2.1.toNat then 0 else V (M.fk (zab p.1 i) 0) (t-(zab p.1 i).2.1.toNat):=by
   have hN:zab p.1 i=(6,(zab p.1 i).2.1,(zab p.1 i).2.2.1,(zab p.1 i).2.2.2):=(by rw[<-g1])
   have:=hs.eq hi (v:=fun t=>if t<(zab p.1 i).2.1.toNat then 0 else M.i_ (zbm xs V (zab p.1 i) (t-(zab p.1 i).2.1.toNat)) 0) (by
    have h9:=M.NS.delay (tb:=tb) (zab p.1 i).2.1 (zab p.1 i).2.2.1 (zab p.1 i).2.2.2 q1.1 (zbm xs V (zab p.1 i));rw[<-hN]at h9;exact h9)
   rw[this]
   funext t
   rw[iv (by omega) 0 _ (by rw[zgv (by omega)];omega)]
  have E2:V (M.fk (zab p.1 i) 0)=fun t=>if t<(zab p.1 (M.fk (zab p.1 i) 0)).2.1.toNat then 0 else V (M.fk (zab p.1 (M.fk (zab p.1 i) 0)) 0) (t-(zab p.1 (M.fk (zab p.1 i) 0)).2.1.toNat):=by
   generalize M.fk (zab p.1 i) 0=j at *;have hN:zab p.1 j=(6,(zab p.1 j).2.1,(zab p.1 j).2.2.1,(zab p.1 j).2.2.2):=(by rw[<-g3])
   have:=hs.eq a2 (v:=fun t=>if t<(zab p.1 j).2.1.toNat then 0 else M.i_ (zbm xs V (zab p.1 j) (t-(zab p.1 j).2.1.toNat)) 0) (by
    have h9:=M.NS.delay (tb:=tb) (zab p.1 j).2.1 (zab p.1 j).2.2.1 (zab p.1 j).2.2.2 q2.1 (zbm xs V (zab p.1 j));rw[<-hN]at h9;exact h9)
   rw[this]
   funext t
   rw[ivf (zab p.1 j) _ _ (by omega) hfe]
  rw[zft,hfe];generalize hA:(zab p.1 i).2.1=A at *;generalize hB:(zab p.1 (M.fk (zab p.1 i) 0)).2.1=B at *;generalize hj:M.fk (zab p.1 (M.fk (zab p.1 i) 0)) 0=j at *
  have:V i=fun t=>if t<(A+B).toNat then 0 else M.i_ (zbm xs V (6,A+B,0,[(j:Int)]) (t-(A+B).toNat)) 0:=by
   rw[E1]
   funext t
   rw[ivf _ j _ (show (6:Int)≠1 by decide) rfl]
   by_cases c1:t<A.toNat
   ·rw[if_pos c1,if_pos (by omega)]
   rw[if_neg c1,E2];dsimp only
   by_cases c2:t-A.toNat<B.toNat
   ·rw[if_pos c2,if_pos (by omega)]
   rw[if_neg c2,if_neg (by omega)];congr 1;omega
  rw[this];exact M.NS.delay _ _ _ (by omega) _
 rename_i h6
 rw[if_neg h6]
 split at hr
 ·rename_i h7
  rw[if_pos h7];obtain⟨k,hk⟩:=Option.isSome_iff_exists.1 h7;have hk2:=hk;rw[zcq,List.find?_range_eq_some]at hk2;obtain⟨q1,q2,q3⟩:=hk2;rw[Cx,Dg]at q1;have q2:=Gj.1 q2
  have he:∀t,V i t=V k t:=fun t=>by
   have:=hs.eq hi (v:=V k) (by rw[<-q1.2];exact hs k (by omega));rw[this]
  show M.Sol tb xs (za5 i (((zcq nd p.1 i).getD 0:Nat):Int) p).1 V/\∀k' t,V (M.i_ (za5 i (((zcq nd p.1 i).getD 0:Nat):Int) p).2 k').toNat t=_
  rw[hk];exact⟨hs.rpl he,outs_rpl _ he⟩
 exact absurd rfl hr
end
end
section
def zcr (nd:Nat->Bool) (n:Nat):List Nat:=(List.range n).filter nd
def zb7 (nd:Nat->Bool) (n:Nat):List Int:=(List.range n).map fun j=>if nd j then(zat nd j:Int)else 0
def zex (nd:Nat->Bool) (ns:List Node):List Node:=(zcr nd ns.length).map fun i=>((zab ns i).1,(zab ns i).2.1,(zab ns i).2.2.1,zbh (zab ns i).2.2.2 (zb7 nd ns.length))
def zbw (nd:Nat->Bool) (p:NO):NO:=(zex nd p.1,zbh p.2 (zb7 nd p.1.length))
theorem zn9(nd:Nat->Bool)(n:Nat):(zcr nd n).length=zat nd n:=rfl
theorem zh7(nd:Nat->Bool)(n:Nat):zat nd (n+1)=zat nd n+(if nd n then 1 else 0):=by
 unfold zat;rw[List.range_succ,List.filter_append,Cw];cases e:nd n <;> simp[e]
theorem zjc(nd:Nat->Bool){a b:Nat}(h:a<=b):zat nd a<=zat nd b:=by
 obtain⟨d,rfl⟩:∃d,b=a+d:=⟨b-a,by omega⟩
 induction d with
 | zero=>exact Aj _
 | succ d ih=>
  rw[<-Nat.add_assoc,zh7];have:=ih (by omega);omega
theorem zh8(nd:Nat->Bool)(n:Nat):zat nd n<=n:=by
 unfold zat;exact Nat.le_trans (List.length_filter_le _ _) (by rw[List.length_range];exact Aj _)
theorem zhd(nd:Nat->Bool){n j:Nat}(hj:j<n)(h:nd j=true):(zcr nd n)[zat nd j]?=some j:=by
 induction n with
 | zero=>omega
 | succ n ih=>
  rw[zcr,List.range_succ,List.filter_append];rcases Fj j n with h1|h1
  ·have:=ih h1
   rw[List.getElem?_append_left (by
    have h2:=zjc nd (show j+1<=n by omega);rw[zh7,h]at h2;show _<zat nd n
    simp at h2;omega)]
   exact this
  have e:j=n:=by omega
  subst e;rw[Gz (by show zat nd j<=_;exact Aj _)];show ([j].filter nd)[zat nd j-zat nd j]?=_
  simp[h]
theorem zoa{nd:Nat->Bool}{n k j:Nat}(h:(zcr nd n)[k]?=some j):j<n/\nd j=true:=by
 have:=Eg h;rw[zcr,List.mem_filter,Gj]at this;exact this
theorem zjd(nd:Nat->Bool){n j:Nat}(hj:j<n)(h:nd j=true):M.i_ (zb7 nd n) j=(zat nd j:Int):=by
 rw[M.i_,zb7,Fv,List.getElem?_range hj];simp[h]
section
variable {tb:List (List Int)} {xs:List Int} {p:NO} {R:Nat->Nat}
theorem zh9{nd:Nat->Bool}{ns:List Node}{k:Nat}{x:Node}(h:(zex nd ns)[k]?=some x):∃j,(zcr nd ns.length)[k]?=some j/\j<ns.length/\nd j=true/\x=((zab ns j).1,(zab ns j).2.1,(zab ns j).2.2.1,zbh (zab ns j).2.2.2 (zb7 nd ns.length)):=by
 rw[zex,Fv,Option.map_eq_some_iff]at h;obtain⟨j,h1,h2⟩:=h;obtain⟨h3,h4⟩:=zoa h1;exact⟨j,h1,h3,h4,h2.symm⟩
theorem zk4(nd:Nat->Bool)(ns:List Node):(zex nd ns).length=zat nd ns.length:=by rw[zex,Ff,zn9]
theorem zob(h:M.WP tb p R){nd:Nat->Bool}(hnd:∀j,nd j=true↔M.Rch p.1 p.2 j):∃R',M.WP tb (zbw nd p) R':=by
 have hlen:=h.len;have hc:=zh8 nd p.1.length
 have hfr:∀j,j<p.1.length->nd j=true->∀f∈(zab p.1 j).2.2.2,(f.toNat<p.1.length/\nd f.toNat=true/\(f.toNat:Int)=f):=fun j hj hn f hf=>by
  have h1:=h.frs j hj f hf;refine⟨by omega,(hnd _).2 (.dep j _ ((hnd j).1 hn) (by rw[show ((f.toNat:Nat):Int)=f by omega];exact hf)),by omega⟩
 have htl:∀f,f<p.1.length->nd f=true->0<=M.i_ (zb7 nd p.1.length) f/\M.i_ (zb7 nd p.1.length) f<(zat nd p.1.length:Nat):=fun f h1 h2=>by
  rw[zjd nd h1 h2];have:=zjc nd (show f+1<=p.1.length by omega);rw[zh7,h2]at this;simp at this;omega
 have hl:(zbw nd p).1.length=zat nd p.1.length:=zk4 nd p.1;refine⟨fun k=>R (((zcr nd p.1.length)[k]?).getD 0),h.tabs,fun k x hx=>?_,fun k x hx f hf=>?_,fun k x hx e=>?_,fun k x hx f hf=>?_,by rw[hl];omega,fun o ho=>?_⟩
 ·obtain⟨j,h1,h2,h3,rfl⟩:=zh9 hx;have hok:=(h.node h2).2;rw[zaj]at hok ⊢;simp only[Cx]at hok ⊢;obtain⟨g1,⟨⟨⟨g2,g3⟩,g4⟩,g5⟩,g6⟩:=hok;refine⟨g1,⟨⟨⟨g2,g3⟩,?_⟩,by simpa [zbh]using g5⟩,g6⟩;rw[Ef];intro f hf;rw[zbh,List.mem_map]at hf;obtain⟨g,hg,rfl⟩:=hf;obtain⟨q1,q2,q3⟩:=hfr j h2 h3 g hg;have:=htl _ q1 q2;exact za3.2 (by omega)
 ·obtain⟨j,h1,h2,h3,rfl⟩:=zh9 hx;rw[hl];simp only[zbh,List.mem_map]at hf;obtain⟨g,hg,rfl⟩:=hf;obtain⟨q1,q2,q3⟩:=hfr j h2 h3 g hg;exact htl _ q1 q2
 ·obtain⟨j,h1,h2,h3,rfl⟩:=zh9 hx;exact h.inp j (zab p.1 j) (zcd h2) e
 ·obtain⟨j,h1,h2,h3,rfl⟩:=zh9 hx;rw[hl];unfold zax at hf;dsimp only at hf
  split at hf
  ·simp at hf
  rename_i h6
  rw[zbh,List.mem_map]at hf;obtain⟨g,hg,rfl⟩:=hf;obtain⟨q1,q2,q3⟩:=hfr j h2 h3 g hg;refine⟨htl _ q1 q2,?_⟩;rw[zjd nd q1 q2,Fq,zhd nd q1 q2,h1];exact h.rlt h2 h6 hg
 rw[hl];simp only[zbw,zbh,List.mem_map]at ho;obtain⟨g,hg,rfl⟩:=ho;have h1:=h.outs g hg;exact htl _ (by omega) ((hnd _).2 (.out _ (by rw[show ((g.toNat:Nat):Int)=g by omega];exact hg)))
theorem zt7(h:M.WP tb p R){nd:Nat->Bool}(hnd:∀j,nd j=true↔M.Rch p.1 p.2 j){V:Nat->Nat->Int}(hs:M.Sol tb xs p.1 V):M.Sol tb xs (zbw nd p).1 (fun k t=>V (((zcr nd p.1.length)[k]?).getD 0) t):=by
 intro k hk;obtain⟨j,h1,h2,h3,hx⟩:=zh9 (zcd hk);obtain⟨s,hs⟩:=hs j h2;refine⟨s,?_⟩;have e:zab (zbw nd p).1 k=((zab p.1 j).1,(zab p.1 j).2.1,(zab p.1 j).2.2.1,zbh (zab p.1 j).2.2.2 (zb7 nd p.1.length)):=hx
 have eI:zbm xs (fun k t=>V (((zcr nd p.1.length)[k]?).getD 0) t) (zab (zbw nd p).1 k)=zbm xs V (zab p.1 j):=by
  funext t
  rw[e];unfold zbm;dsimp only
  split
  ·rfl
  rw[zbh,List.map_map];refine List.map_congr_left fun f hf=>?_
  have q:=h.frs j h2 f hf;have qn:nd f.toNat=true:=(hnd _).2 (.dep j _ ((hnd j).1 h3) (by rw[show ((f.toNat:Nat):Int)=f by omega];exact hf));simp only[Function.comp];rw[zjd nd (by omega) qn,Fq,zhd nd (by omega) qn]
  rfl
 rw[eI];show M.NS tb _ _ (fun t=>V (((zcr nd p.1.length)[k]?).getD 0) t) s
 rw[h1];refine⟨?_,fun t=>⟨?_,?_⟩⟩
 ·rw[hs.1,e];rfl
 ·show V j t=_
  rw[(hs.2 t).1,e];rfl
 show s (t+1)=zaq _ _ _ (V j t)
 rw[(hs.2 t).2,e];rfl
theorem zoc{ns:List Node}{O:List Int}(hp:M.PF ns tb O):M.Sol tb xs ns (fun i t=>M.i_ (zet ns tb O xs t) i):=by
 intro i hi;have hx:=zcd hi;obtain⟨t0,ht0,he⟩:=hp.top.all hi
 have eI:∀t:Nat,zbf (zab ns i) [M.at_ xs (t:Int)] (zet ns tb O xs t)=zbm xs (fun i t=>M.i_ (zet ns tb O xs t) i) (zab ns i) t:=fun t=>by
  unfold zbf zbm
  split
  ·rename_i e1
   rw[hp.inp i _ hx e1]
   rfl
  rfl
 refine⟨fun t=>zal (zed ns tb O xs t) i,?_,fun t=>⟨?_,?_⟩⟩
 ·show zal (ns.map zbe) i=_
  simp[zal,hx]
 ·rw[<-eI t];have:=zmn (tb:=tb) (fr:=[M.at_ xs (t:Int)]) hp.top (zed ns tb O xs t) ht0;rw[he]at this;exact this
 rw[<-eI t];show zal (zd2 ns tb [M.at_ xs (t:Int)] O (zed ns tb O xs t)) i=_
 simp[zd2,zal,hi]
 rfl
theorem zt8{ND:NO->Nat->Bool}(hND:∀p j,ND p j=true↔M.Rch p.1 p.2 j)(h:M.WP tb p R){V:Nat->Nat->Int}(hs:M.Sol tb xs p.1 V)(hv:zk3 p.1.length V):
 ∀t,M.Sol tb xs (zan ND tb p t).1 V/\∀k u,V (M.i_ (zan ND tb p t).2 k).toNat u=V (M.i_ p.2 k).toNat u:=by
 intro t
 induction t with
 | zero=>exact⟨hs,fun _ _=>rfl⟩
 | succ t ih=>
  obtain⟨R',h1,h2,h3⟩:=zja hND h t;rw[zan];cases hst:zbs ND tb (zan ND tb p t)with
  | none=>exact ih
  | some q=>
   rw[zbs,Option.map_eq_some_iff]at hst;obtain⟨i,hi,rfl⟩:=hst;obtain⟨g1,g2,-⟩:=zn5 hi;obtain⟨s1,s2⟩:=zt6 h1 ih.1 (by rw[h2];exact hv) g1 g2;exact⟨s1,fun k u=>(s2 k u).trans (ih.2 k u)⟩
theorem zt9{ND:NO->Nat->Bool}(hND:∀p j,ND p j=true↔M.Rch p.1 p.2 j){ns:List Node}{os O O':List Int}(hp:M.PF ns tb O)(ho:∀o∈os,0<=o/\o<ns.length)(hx:xs.all M.smp=true)(h0:0<os.length)(N:Nat)
 (hp':M.PF (zbw (ND (zan ND tb (ns,os) N)) (zan ND tb (ns,os) N)).1 tb O') (n:Nat) :
 zcl (zbw (ND (zan ND tb (ns,os) N)) (zan ND tb (ns,os) N)).1 tb O' xs (M.i_ (zbw (ND (zan ND tb (ns,os) N)) (zan ND tb (ns,os) N)).2 0) n=zcl ns tb O xs (M.i_ os 0) n:=by
 obtain⟨R,h⟩:=zjb hp ho;obtain⟨hs,hk⟩:=zt8 (xs:=xs) hND h (zoc hp) (fun i t _=>zd3 (zkw hp hx t) i) N;obtain⟨R',h1,h2,h3⟩:=zja hND h N;generalize zan ND tb (ns,os) N=q at *;have hnd:=hND q;obtain⟨R2,hw⟩:=zob h1 hnd;have ht:=zt7 h1 hnd hs;have ho1:q.2.length=os.length:=h3;have hq0:q.2[0]?=some q.2[0]:=Ak (by omega);have hq:M.i_ q.2 0=q.2[0]:=by rw[M.i_,hq0];rfl
 have hmem:M.i_ q.2 0∈q.2:=by rw[hq];exact List.getElem_mem _
 have hr:=h1.outs _ hmem;have hn:ND q (M.i_ q.2 0).toNat=true:=(hnd _).2 (.out _ (by rw[show (((M.i_ q.2 0).toNat:Nat):Int)=M.i_ q.2 0 by omega];exact hmem))
 have e0:M.i_ (zbw (ND q) q).2 0=(zat (ND q) (M.i_ q.2 0).toNat:Int):=by
  have:M.i_ (zbh q.2 (zb7 (ND q) q.1.length)) 0=M.i_ (zb7 (ND q) q.1.length) (M.i_ q.2 0).toNat:=by
   simp only[zbh,M.i_,Fv,hq0]
   rfl
  rw[show (zbw (ND q) q).2=zbh q.2 (zb7 (ND q) q.1.length)from rfl,this];exact zjd _ (by omega) hn
 unfold zcl;refine List.map_congr_left fun t _=>?_
 have hlt:zat (ND q) (M.i_ q.2 0).toNat<(zbw (ND q) q).1.length:=by
  rw[show (zbw (ND q) q).1.length=_ from zk4 _ _];have:=zjc (ND q) (show (M.i_ q.2 0).toNat+1<=q.1.length by omega);rw[zh7,hn]at this;simp at this;omega
 have hd:=(zoc (xs:=xs) hp').det hw.rk hw.frs ht t _ hlt;dsimp only at hd;rw[e0,Fq,hd,zhd (ND q) (by omega) hn];exact hk 0 t
end
end
def zfu (l:List Int):Prop:=l.Pairwise (· < ·)
def zia (l:List Int) (n:Int):List Int:=l.filter (fun x=>decide (x<n))++n::l.filter (fun x=>decide (n<x))
theorem zua{l:List Int}{n x:Int}:x∈zia l n↔x∈l\/x=n:=by
 simp only[zia,Gx,List.mem_cons,List.mem_filter,Dg];constructor
 ·rintro(h|h|h)
  ·exact .inl h.1
  ·exact .inr h
  exact .inl h.1
 rintro(h|h)
 ·rcases Int.lt_trichotomy x n with h1|h1|h1
  ·exact .inl ⟨h,h1⟩
  ·exact .inr (.inl h1)
  exact .inr (.inr ⟨h,h1⟩)
 exact .inr (.inl h)
theorem zub{l:List Int}{n:Int}(h:zfu l):zfu (zia l n):=by
 unfold zfu zia at *;rw[List.pairwise_append];refine⟨h.filter _,List.pairwise_cons.2 ⟨fun x hx=>by simpa using (List.mem_filter.1 hx).2,h.filter _⟩,fun a ha b hb=>?_⟩;have h1:a<n:=by simpa using (List.mem_filter.1 ha).2
 rcases List.mem_cons.1 hb with rfl|hb
 ·exact h1
 have h2:n<b:=by simpa using (List.mem_filter.1 hb).2
 omega
theorem zod:∀{a b:List Int},zfu a->zfu b->(∀x,x∈a↔x∈b)->a=b
 | [],[],_,_,_=>rfl
 | [],y::b,_,_,h=>absurd ((h y).2 (List.mem_cons_self ..)) (by simp)
 | x::a,[],_,_,h=>absurd ((h x).1 (List.mem_cons_self ..)) (by simp)
 | x::a,y::b,ha,hb,h=>by
  obtain⟨a1,a2⟩:=List.pairwise_cons.1 ha;obtain⟨b1,b2⟩:=List.pairwise_cons.1 hb
  have e:x=y:=by
   rcases List.mem_cons.1 ((h x).1 (List.mem_cons_self ..))with e|hx
   ·exact e
   rcases List.mem_cons.1 ((h y).2 (List.mem_cons_self ..))with e|hy
   ·exact e.symm
   have:=a1 y hy;have:=b1 x hx;omega
  subst e;rw[zod a2 b2 fun z=>?_];constructor
  ·intro hz;rcases List.mem_cons.1 ((h z).1 (List.mem_cons_of_mem _ hz))with e|hz'
   ·have:=a1 z hz;omega
   exact hz'
  intro hz;rcases List.mem_cons.1 ((h z).2 (List.mem_cons_of_mem _ hz))with e|hz'
  ·have:=b1 z hz;omega
  exact hz'
theorem zoe:∀{l:List Int} {a n:Int},zfu l->a<=n->(∀x∈l,a<=x/\x<n)->(l.length:Int)<=n-a
 | [],a,n,_,h,_=>by simp;omega
 | x::l,a,n,h,ha,hh=>by
  obtain⟨h1,h2⟩:=List.pairwise_cons.1 h;have hx:=hh x (List.mem_cons_self ..);have:=zoe (l:=l) (a:=x+1) (n:=n) h2 (by omega) (fun y hy=>⟨by have:=h1 y hy;omega,(hh y (List.mem_cons_of_mem _ hy)).2⟩);simp only[Dk];omega
structure M.NI (ns:List Node) (os l:List Int):Prop where
 ris:zfu l
 rch:∀x∈l,0<=x/\M.Rch ns os x.toNat
theorem M.NI.nil(ns:List Node)(os:List Int):M.NI ns os []:=⟨List.Pairwise.nil,fun _ h=>by cases h⟩
theorem M.NI.put{ns:List Node}{os l:List Int}{n:Int}(h:M.NI ns os l)(h0:0<=n)(hn:M.Rch ns os n.toNat):M.NI ns os (zia l n):=
 ⟨zub h.ris,fun x hx=>by
  rcases zua.1 hx with h1|rfl
  ·exact h.rch x h1
  exact⟨h0,hn⟩⟩
theorem M.NI.len{tb:List (List Int)}{R:Nat->Nat}{p:NO}{l:List Int}(hp:M.WP tb p R)(h:M.NI p.1 p.2 l):l.length<=p.1.length:=by
 have:=zoe (l:=l) (a:=0) (n:=p.1.length) h.ris (by omega) (fun x hx=>⟨(h.rch x hx).1,by
  have:=M.Rch.lt hp (h.rch x hx).2;have:=(h.rch x hx).1;omega⟩)
 omega
theorem zuc(nd:Nat->Bool)(n:Nat):zfu ((zcr nd n).map Int.ofNat):=by
 unfold zfu zcr;rw[List.pairwise_map];exact(List.Pairwise.imp (fun h=>Int.ofNat_lt.2 h) (List.pairwise_lt_range (n:=n))).filter _
theorem M.NI.whole{tb:List (List Int)}{R:Nat->Nat}{p:NO}{l:List Int}(hp:M.WP tb p R)(h:M.NI p.1 p.2 l)(ho:∀o∈p.2,o∈l)(hc:∀i f:Nat,(i:Int)∈l->(f:Int)∈(zab p.1 i).2.2.2->(f:Int)∈l){nd:Nat->Bool}(hnd:∀j,nd j=true↔M.Rch p.1 p.2 j):
 l=(zcr nd p.1.length).map Int.ofNat:=by
 refine zod h.ris (zuc _ _) fun x=>?_
 constructor
 ·intro hx;obtain⟨h0,hr⟩:=h.rch x hx;refine List.mem_map.2 ⟨x.toNat,List.mem_filter.2 ⟨Gj.2 (M.Rch.lt hp hr),(hnd _).2 hr⟩,Int.toNat_of_nonneg h0⟩
 intro hx;obtain⟨k,hk,rfl⟩:=List.mem_map.1 hx;have hr:=(hnd k).1 (List.mem_filter.1 hk).2;clear hk hx
 induction hr with
 | out i hi=>exact ho _ hi
 | dep i f _ hf ih=>exact hc i f ih hf
structure M.BI (ns:List Node) (os:List Int) (m:List Bool) (q:List Int):Prop where
 len:m.length=ns.length
 qr:∀x∈q,0<=x/\M.Rch ns os x.toNat
 mr:∀j:Nat,m[j]?=some true->M.Rch ns os j
 ou:∀o:Nat,(o:Int)∈os->(o:Int)∈q\/m[o]?=some true
 cl:∀j f:Nat,m[j]?=some true->(f:Int)∈(zab ns j).2.2.2->(f:Int)∈q\/m[f]?=some true
theorem M.BI.start{ns:List Node}{os:List Int}(ho:∀o∈os,0<=o):M.BI ns os (List.replicate ns.length false) os where
 len:=by simp
 qr x hx:=⟨ho x hx,M.Rch.out _ (by rw[Int.toNat_of_nonneg (ho x hx)];exact hx)⟩
 mr j h:=by rw[List.getElem?_replicate]at h;split at h <;> simp at h
 ou o h:=.inl h
 cl j f h:=by rw[List.getElem?_replicate]at h;split at h <;> simp at h
theorem M.BI.skip{ns:List Node}{os:List Int}{m:List Bool}{x:Nat}{q:List Int}(h:M.BI ns os m ((x:Int)::q))(hx:m[x]?=some true):M.BI ns os m q where
 len:=h.len
 qr y hy:=h.qr y (List.mem_cons_of_mem _ hy)
 mr:=h.mr
 ou o ho:=by
  rcases h.ou o ho with h1|h1
  ·rcases List.mem_cons.1 h1 with e|h1
   ·obtain rfl:o=x:=by omega
    exact .inr hx
   exact .inl h1
  exact .inr h1
 cl j f hj hf:=by
  rcases h.cl j f hj hf with h1|h1
  ·rcases List.mem_cons.1 h1 with e|h1
   ·obtain rfl:f=x:=by omega
    exact .inr hx
   exact .inl h1
  exact .inr h1
theorem M.BI.mark{ns:List Node}{os:List Int}{m:List Bool}{x:Nat}{q:List Int}(h:M.BI ns os m ((x:Int)::q))(hx:x<m.length)(hf:∀f∈(zab ns x).2.2.2,0<=f):M.BI ns os (m.set x true) (q++(zab ns x).2.2.2):=by
 have hr:M.Rch ns os x:=(h.qr x (List.mem_cons_self ..)).2
 have hs:∀j:Nat,(m.set x true)[j]?=some true↔j=x\/m[j]?=some true:=fun j=>by
  rw[List.getElem?_set]
  by_cases e:x=j
  ·subst e;simp[hx]
  simp[e,Ne.symm e]
 refine⟨by rw[Fx];exact h.len,fun y hy=>?_,fun j hj=>?_,fun o ho=>?_,fun j f hj hff=>?_⟩
 ·rcases Gx.1 hy with h1|h1
  ·exact h.qr y (List.mem_cons_of_mem _ h1)
  exact⟨hf y h1,M.Rch.dep x _ hr (by rw[Int.toNat_of_nonneg (hf y h1)];exact h1)⟩
 ·rcases(hs j).1 hj with rfl|h1
  ·exact hr
  exact h.mr j h1
 ·rw[hs];rcases h.ou o ho with h1|h1
  ·rcases List.mem_cons.1 h1 with e|h1
   ·exact .inr (.inl (by omega))
   exact .inl (List.mem_append_left _ h1)
  exact .inr (.inr h1)
 rw[hs];rcases(hs j).1 hj with rfl|h0
 ·exact .inl (List.mem_append_right _ hff)
 rcases h.cl j f h0 hff with h1|h1
 ·rcases List.mem_cons.1 h1 with e|h1
  ·exact .inr (.inl (by omega))
  exact .inl (List.mem_append_left _ h1)
 exact .inr (.inr h1)
theorem M.BI.whole{ns:List Node}{os:List Int}{m:List Bool}(h:M.BI ns os m []){nd:Nat->Bool}(hnd:∀j,nd j=true↔M.Rch ns os j):m=(List.range ns.length).map nd:=by
 have key:∀j,M.Rch ns os j->m[j]?=some true:=fun j hr=>by
  induction hr with
  | out i hi=>exact(h.ou i hi).elim (fun e=>by cases e) id
  | dep i f _ hf ih=>exact(h.cl i f ih hf).elim (fun e=>by cases e) id
 apply List.ext_getElem (by simp[h.len]);intro j h1 h2;rw[List.getElem_map,List.getElem_range];cases e:m[j]
 ·cases e2:nd j
  ·rfl
  have:=key j ((hnd j).1 e2);rw[Ak h1,e]at this;cases this
 exact((hnd j).2 (h.mr j (by rw[Ak h1,e]))).symm
def zdx (m:List Bool):Nat:=(m.filter id).length
theorem zud(m:List Bool):zdx m<=m.length:=List.length_filter_le _ _
theorem zof:∀{m:List Bool} {x:Nat},m[x]?=some false->zdx (m.set x true)=zdx m+1
 | [],x,h=>by simp at h
 | b::m,0,h=>by
  obtain rfl:b=false:=by simpa using h
  simp[zdx]
 | b::m,x+1,h=>by
  have ih:=zof (m:=m) (x:=x) (by simpa using h);cases b <;> simp_all [zdx]
section
theorem zje{f:Node->Nat}{m:Nat}:∀l:List Node,(∀x∈l,f x<=m)->zew f l<=l.length*m
 | [],_=>by simp[zew]
 | x::l,h=>by
  have h1:=h x (List.mem_cons_self ..);have h2:=zje l (fun y hy=>h y (List.mem_cons_of_mem _ hy));simp only[zew,Dk,Nat.add_mul,Nat.one_mul];omega
section
variable {tb:List (List Int)} {p:NO} {R:Nat->Nat}
theorem M.WP.norm(h:M.WP tb p R):∃R',M.WP tb p R'/\∀j,R' j<=24:=by
 refine⟨fun j=>zat (fun k=>decide (R k<R j)) p.1.length,⟨h.tabs,h.ok,h.fr,h.inp,fun i x hx f hf=>?_,h.len,h.outs⟩,fun j=>Nat.le_trans (zh8 _ _) h.len⟩;obtain⟨h1,h2⟩:=h.rk i x hx f hf;exact⟨h1,zky (i:=f.toNat) (fun k hk=>by simp at hk ⊢;omega) (by omega) (by simp) (by simpa using h2)⟩
theorem M.WP.csum_le(h:M.WP tb p R):zdc p.1<=48:=by
 have:=zje (f:=fun x=>zdk x.1) (m:=2) p.1 (fun x _=>by unfold zdk;(split;· omega);split <;> omega);have:=h.len;unfold zdc;omega
theorem M.WP.gsum_le(h:M.WP tb p R)(hR:∀j,R j<=24):zdl R p.1<=576:=by
 have:=zje (f:=fun x=>if x.1=5 then R (M.fk x 0)else 0) (m:=24) p.1 (fun x _=>by
  have:=hR (M.fk x 0)
  try dsimp only
  split <;> omega)
 have:=h.len;unfold zdl;omega
theorem M.WP.dsum_le(h:M.WP tb p R):ze6 p.1<=384:=by
 have:=zje (f:=fun x=>if x.1=6 then 16-x.2.1.toNat else 0) (m:=16) p.1 (fun x _=>by
  try dsimp only
  split <;> omega)
 have:=h.len;unfold ze6;omega
theorem zue{ND:NO->Nat->Bool}(hND:∀p j,ND p j=true↔M.Rch p.1 p.2 j):∀(c m:Nat) (p:NO) (R:Nat->Nat),M.WP tb p R->(∀j,R j<=24)->zat (ND p) 24<=c->zdc p.1*250000+zdl R p.1*400+ze6 p.1<=m->
 ∃N,N<=m+1+c*20000000/\zbs ND tb (zan ND tb p N)=none:=by
 intro c
 induction c using Nat.strongRecOn with
 | _ c ihc=>
  intro m
  induction m using Nat.strongRecOn with
  | _ m ihm=>
   intro p R h hR hc hm;cases hs:zbs ND tb p with
   | none=>exact⟨0,by omega,hs⟩
   | some q=>
    obtain⟨R',hf⟩:=zk1 hND h hs;have hle:zat (ND q) 24<=zat (ND p) 24:=zkx (fun j hj=>(hND p j).2 (hf.sub j ((hND q j).1 hj))) 24;rcases hf.low with⟨j,h1,h2,h3⟩|⟨rfl,h1⟩
    ·have hlt:zat (ND q) 24<zat (ND p) 24:=zky (i:=j) (fun j hj=>(hND p j).2 (hf.sub j ((hND q j).1 hj))) (by have:=h.len;omega) (by
      cases e:ND q j
      ·rfl
      exact absurd ((hND q j).1 e) h3) ((hND p j).2 h2)
     obtain⟨R2,w2,b2⟩:=hf.wp.norm;have e1:=w2.csum_le;have e2:=w2.gsum_le b2;have e3:=w2.dsum_le;obtain⟨N,hN1,hN2⟩:=ihc (c-1) (by omega) _ q R2 w2 b2 (by omega) (Aj _);exact⟨N+1,by omega,by rw[zk0 hs];exact hN2⟩
    have e2:=hf.wp.gsum_le hR;have e3:=hf.wp.dsum_le;obtain⟨N,hN1,hN2⟩:=ihm (zdc q.1*250000+zdl R' q.1*400+ze6 q.1) (by omega) q R' hf.wp hR (by omega) (Aj _);exact⟨N+1,by omega,by rw[zk0 hs];exact hN2⟩
theorem zuf{ND:NO->Nat->Bool}(hND:∀p j,ND p j=true↔M.Rch p.1 p.2 j)(h:M.WP tb p R):∃N,N<=1000000000/\zbs ND tb (zan ND tb p N)=none:=by
 obtain⟨R2,w2,b2⟩:=h.norm;have e1:=w2.csum_le;have e2:=w2.gsum_le b2;have e3:=w2.dsum_le;obtain⟨N,h1,h2⟩:=zue hND 24 _ p R2 w2 b2 (zh8 _ _) (Aj _);exact⟨N,by omega,h2⟩
theorem zog{ND:NO->Nat->Bool}{s t:Nat}(hs:zbs ND tb (zan ND tb p s)=none)(ht:zbs ND tb (zan ND tb p t)=none):zan ND tb p s=zan ND tb p t:=by
 rcases Nat.le_total s t with h|h
 ·obtain⟨d,rfl⟩:∃d,t=s+d:=⟨t-s,by omega⟩;rw[zk2 hs]
 obtain⟨d,rfl⟩:∃d,s=t+d:=⟨s-t,by omega⟩;rw[zk2 ht]
theorem zug{ND:NO->Nat->Bool}{s N:Nat}{q:NO}(hN:zbs ND tb (zan ND tb p N)=none)(hs:zbs ND tb (zan ND tb p s)=some q):s<N:=by
 rcases Fj s N with h|h
 ·exact h
 obtain⟨d,rfl⟩:∃d,s=N+d:=⟨s-N,by omega⟩;rw[zk2 hN,hN]at hs;cases hs
end
end
end Go.Proofs.YtifeldeikhmckaaGreat
