import Derived.Test.YtifeldeikhmckaaGreatFnMutedG2
import Derived.StillTail
import Derived.Deep.Quiet
import Derived.BigQuiet
import Derived.Lib.QuietBelow
import Derived.Test.YtifeldeikhmckaaGreatFnMutedG1
import Derived.StillTailTactics
set_option linter.unusedVariables false
set_option linter.unusedSimpArgs false
set_option maxRecDepth 100000
set_option maxHeartbeats 4000000
namespace Go.Proofs.YtifeldeikhmckaaGreat
open Go.RowKit Go.Sort
abbrev Dv := @List.all_cons
abbrev Dg := @decide_eq_true_eq
abbrev Fk := @List.getElem?_of_mem
abbrev Ff := @List.length_map
set_option synthInstance.maxSize 2000
set_option synthInstance.maxHeartbeats 400000
abbrev KD:=Int×Int×Int×Bool×Bool
def zgo:List KD:=[(0,0,3,true,false),(0,-2147483648,2147483647,false,false),(2,1,0,true,false),(2,1,0,true,false),(1,-2147483648,2147483647,true,false),(1,1,16,true,false),(1,1,0,true,false),(1,1,0,true,false),(2,1,0,false,false),(1,0,31,false,false),(1,0,2147483647,false,false),(1,-2147483648,2147483647,false,false),(1,0,3,false,false),(0,-2147483648,2147483647,false,false),(3,1,0,false,false),(2,1,0,false,false),(1,-2147483648,2147483647,true,true)]
def M.kd (j:Nat):KD:=zgo.getD j (0,0,0,false,false)
def M.aI (k:KD) (a:Int):Bool:=if k.2.1<=k.2.2.1 then M.inn a k.2.1 k.2.2.1 else decide (a=0)
def M.bI (k:KD) (b:Int):Bool:=if k.2.2.2.2 then M.inn b 1 16 else decide (b=0)
def za2 (f:Int):Bool:=M.inn f 0 23
def zaj (x:Node) (tb:Int):Bool:=
 M.inn x.1 1 17&&(M.aI (M.kd (x.1.toNat-1)) x.2.1&&M.bI (M.kd (x.1.toNat-1)) x.2.2.1&&x.2.2.2.all za2&&decide ((x.2.2.2.length:Int)=(M.kd (x.1.toNat-1)).1)&&(decide (¬x.1=13)||decide (x.2.1<tb)))
def zd1 (k:Int):Bool:=decide (k=1)||decide (k=2)||decide (k=5)||decide (k=6)||decide (k=10)||decide (k=11)||decide (k=12)||decide (k=13)||decide (k=14)||decide (k=17)
def M.aS (k a tb:Int):Bool:=
 if k=1 then M.inn a 0 3 else if k=6 then M.inn a 1 16 else if k=10 then M.inn a 0 31 else if k=11 then M.inn a 0 2147483647 else if k=13 then M.inn a 0 (min (max tb 0) 4-1)else if zd1 k then M.smp a else decide (a=0)
def ziv:List Int:=[-1,0,0,2,2,1,1,1,1,2,1,1,1,1,0,3,2,1]
def M.ar (k:Nat):Int:=ziv.getD k 0
def zdu (x:Node) (tb:Int):Bool:=
 M.inn x.1 1 17&&(M.aS x.1 x.2.1 tb&&decide ((x.2.2.2.length:Int)=M.ar x.1.toNat)&&x.2.2.2.all za2&&(if x.1=17 then M.inn x.2.2.1 1 16 else decide (x.2.2.1=0)))
def zg2 (k:Int):Bool:=M.inn k 1 17&&(M.kd (k.toNat-1)).2.2.2.1
theorem zgp{k:Int}(h:M.inn k 1 17=true):k=1\/k=2\/k=3\/k=4\/k=5\/k=6\/k=7\/k=8\/k=9\/k=10\/k=11\/k=12\/k=13\/k=14\/k=15\/k=16\/k=17:=by
 have:=za3.1 h;omega
theorem zme(x:Node)(tb:Int):zdu x tb=zaj x tb:=by
 obtain⟨k,a,b,l⟩:=x;cases h:M.inn k 1 17
 ·rw[zdu,zaj,h,Ez,Ez]
 rw[zdu,zaj];simp only[h,Ew];have key:∀A B C D E F:Bool,A=(F&&E)->(A&&C&&B&&D)=(F&&D&&B&&C&&E):=by decide
 rcases zgp h with rfl|rfl|rfl|rfl|rfl|rfl|rfl|rfl|rfl|rfl|rfl|rfl|rfl|rfl|rfl|rfl|rfl
 all_goals
  refine key _ _ _ _ _ _ ?_;rw[Bool.eq_iff_iff];simp[M.aS,M.aI,M.kd,zgo,zd1,M.smp,M.inn,List.getD]
  try omega
def zcw (t:List Int):Bool:=(decide (t.length=2)||decide (t.length=4)||decide (t.length=8)||decide (t.length=16))&&t.all M.smp
def zbr (ts:List (List Int)):Bool:=ts.all zcw&&decide (ts.length<=4)
theorem zre(t:List Int):(decide (t.length=2)||decide (t.length=4)||decide (t.length=8)||decide (t.length=16))=true->M.sig t=t.all M.smp:=by
 intro h;rw[M.sig,show decide (t.length<=4000)=true by simp at h ⊢;omega,Ew]
def za7 (n:Int) (f:Int):Bool:=M.inn f 0 (n-1)
def zbi (tb n inp:Int) (x:Node):Bool:=zaj x tb&&x.2.2.2.all (za7 n)&&!(decide (x.1=1)&&decide (inp<=x.2.1))
def za4 (p:zae):Bool:=
 M.inn p.1 0 4&&zbr p.2.1&&decide (p.2.2.1.length<=24)&&decide (p.2.2.2.length<=4)&&p.2.2.2.all (za7 p.2.2.1.length)&&p.2.2.1.all (zbi p.2.1.length p.2.2.1.length p.1)
def zax (x:Node):List Int:=if x.1=6 then[]else x.2.2.2
def zam (xs:List Int) (m:Int):Bool:=xs.any fun x=>decide (x=m)
theorem ziw(x m:Int)(xs:List Int):zam (x::xs) m=(decide (x=m)||zam xs m):=rfl
theorem zrf(m:Int):zam [] m=false:=rfl
theorem zmf(xs:List Int)(x m:Int):zam (xs++[x]) m=(zam xs m||decide (x=m)):=by
 rw[zam,List.any_append];simp[zam]
def zdv (ns:List Node) (out:List Int) (i:Nat):Bool:=!zam out i&&(zax ((ns[i]?).getD (0,0,0,[]))).all (zam out)
def zdf (ns:List Node) (out:List Int):Option Nat:=(List.range ns.length).find? (zdv ns out)
def zaw (ns:List Node):Nat->List Int
 | 0=>[]
 | t+1=>match zdf ns (zaw ns t)with
  | none=>zaw ns t
  | some i=>zaw ns t++[(i:Int)]
def zbj (ns:List Node):List Int:=zaw ns ns.length
def zce (p:zae):Bool:=za4 p&&decide ((zbj p.2.2.1).length=p.2.2.1.length)
theorem zmg{ns:List Node}{out:List Int}{i:Nat}(hi:i<ns.length)(h:zdv ns out i=true)(hb:∀j,j<i->zdv ns out j=false):zdf ns out=some i:=by
 rw[zdf,List.find?_range_eq_some];exact⟨h,Gj.2 hi,fun j hj=>by rw[hb j hj];rfl⟩
theorem zmh{ns:List Node}{out:List Int}(hb:∀j,j<ns.length->zdv ns out j=false):zdf ns out=none:=by
 rw[zdf,List.find?_eq_none];intro j hj;rw[hb j (Gj.1 hj)];simp
theorem zkg{ns:List Node}{t i:Nat}(h:zdf ns (zaw ns t)=some i):zaw ns (t+1)=zaw ns t++[(i:Int)]:=by rw[zaw,h]
theorem zrg{ns:List Node}{t:Nat}(h:zdf ns (zaw ns t)=none)(d:Nat):zaw ns (t+d)=zaw ns t:=by
 induction d with
 | zero=>rfl
 | succ d ih=>rw[show t+(d+1)=(t+d)+1 from rfl,zaw,ih,h]
theorem zmi{ns:List Node}{t:Nat}(ht:t<=ns.length)(h:zdf ns (zaw ns t)=none):zbj ns=zaw ns t:=by
 rw[zbj,show ns.length=t+(ns.length-t)by omega,zrg h]
theorem zkh{ns:List Node}{out:List Int}{i:Nat}{x:Node}(h:ns[i]?=some x):zdv ns out i=(!zam out i&&(zax x).all (zam out)):=by
 rw[zdv,h];rfl
def M.p0:zae:=(0,[],[],[])
def zas (p:zae):Bool:=decide (p=M.p0)||(zce p&&decide (p.1=1)&&decide (p.2.2.2.length=1))
def zbd (s:Sess):Bool:=
 M.inn s.1 0 1000&&zdz s.2.1&&decide (s.2.2.1.length<=6)&&zay s.2.2.2.2.2&&decide (s.2.2.2.1.length=s.2.2.1.length)&&s.2.2.2.1.all (za7 s.2.2.2.2.2.length)&&decide (s.2.2.2.2.1.length=s.2.2.2.2.2.length)&&s.2.2.1.all (fun t=>za1 t&&zbq t s.2.1.length)&&s.2.2.2.2.1.all zas
section
def M.i_ (l:List Int) (j:Nat):Int:=(l[j]?).getD 0
def zab (ns:List Node) (i:Nat):Node:=(ns[i]?).getD (0,0,0,[])
def zal (cs:List (List Int)) (i:Nat):List Int:=(cs[i]?).getD []
def zhu (t:List Int) (x:Int):Int:=M.i_ t (((t.length:Int)*(x % 4294967296)) / 4294967296).toNat
def zki (x:Int):Int:=_root_.Go.bits .xor .i64 x 2734686208
def zeo (s:Int):Int:=if s % 2=1 then wrap32 (zki (s % 4294967296 / 2))else wrap32 (s % 4294967296 / 2)
def zah (x:Node) (tb:List (List Int)) (ins s:List Int):Int:=
 if x.1=1 then M.i_ ins 0 else if x.1=2 then x.2.1 else if x.1=3 then wrap32 (M.i_ ins 0+M.i_ ins 1)else if x.1=4 then wrap32 (M.i_ ins 0-M.i_ ins 1)else
 if x.1=5 then wrap32 (x.2.1*M.i_ ins 0)else if x.1=6 then M.i_ s 0 else if x.1=7 then wrap32 (M.i_ s 0+M.i_ ins 0)else if x.1=8 then wrap32 (M.i_ ins 0-M.i_ s 0)else
 if x.1=9 then wrap32 (M.i_ ins 0*M.i_ ins 1)else if x.1=10 then M.i_ ins 0 / 2 ^ x.2.1.toNat else if x.1=11 then max (-x.2.1) (min x.2.1 (M.i_ ins 0))else if x.1=12 then M.i_ s 0 else
 if x.1=13 then zhu (zal tb x.2.1.toNat) (M.i_ ins 0)else if x.1=14 then M.i_ s 0 else if x.1=15 then(if 0<=M.i_ ins 0 then M.i_ ins 1 else M.i_ ins 2)else
 if x.1=16 then(if 0<M.i_ ins 1 then M.i_ ins 0 else M.i_ s 0)else wrap32 (M.i_ ins 0+x.2.1*M.i_ s 0)
def zaq (x:Node) (ins s:List Int) (out:Int):List Int:=
 if x.1=6 then s.drop 1++[M.i_ ins 0]else if x.1=17 then s.drop 1++[out]else if x.1=7 then[out]else if x.1=16 then[out]else if x.1=8 then[M.i_ ins 0]else
 if x.1=12 then[wrap32 (M.i_ s 0+M.i_ ins 0)]else if x.1=14 then[zeo (M.i_ s 0)]else[]
def zbk (x:Node):Nat:=if x.1=6 then x.2.1.toNat else if x.1=17 then x.2.2.1.toNat else if x.1=7 then 1 else if x.1=8 then 1 else if x.1=16 then 1 else if x.1=12 then 1 else if x.1=14 then 1 else 0
def zbe (x:Node):List Int:=if x.1=12 then[x.2.1]else if x.1=14 then[x.2.1]else List.replicate (zbk x) 0
def zbf (x:Node) (fr vs:List Int):List Int:=if x.1=1 then[M.i_ fr x.2.1.toNat]else x.2.2.2.map fun f=>M.i_ vs f.toNat
section
variable (ns:List Node) (tb:List (List Int)) (fr O:List Int)
def zao (t:Nat):Nat:=(M.i_ O t).toNat
def zep (cs:List (List Int)) (v0:List Int):Nat->List Int
 | 0=>v0
 | t+1=>(zep cs v0 t).set (zao O t) (zah (zab ns (zao O t)) tb (zbf (zab ns (zao O t)) fr (zep cs v0 t)) (zal cs (zao O t)))
def zbl (v0:List Int) (c0:List (List Int)):Nat->List Int×List (List Int)
 | 0=>(v0,c0)
 | t+1=>
  if (zab ns (zao O t)).1=6 then((zbl v0 c0 t).1.set (zao O t) (M.i_ (zal (zbl v0 c0 t).2 (zao O t)) 0),(zbl v0 c0 t).2)
  else((zbl v0 c0 t).1.set (zao O t) (zah (zab ns (zao O t)) tb (zbf (zab ns (zao O t)) fr (zbl v0 c0 t).1) (zal (zbl v0 c0 t).2 (zao O t))),
   (zbl v0 c0 t).2.set (zao O t) (zaq (zab ns (zao O t)) (zbf (zab ns (zao O t)) fr (zbl v0 c0 t).1) (zal (zbl v0 c0 t).2 (zao O t))
    (zah (zab ns (zao O t)) tb (zbf (zab ns (zao O t)) fr (zbl v0 c0 t).1) (zal (zbl v0 c0 t).2 (zao O t)))))
def zc8 (vs:List Int) (c1:List (List Int)):Nat->List (List Int)
 | 0=>c1
 | t+1=>if (zab ns t).1=6 then(zc8 vs c1 t).set t (zaq (zab ns t) (zbf (zab ns t) fr vs) (zal (zc8 vs c1 t) t) 0)else zc8 vs c1 t
def zcg (cs:List (List Int)):List Int:=zep ns tb fr O cs (List.replicate ns.length 0) O.length
def zd2 (cs:List (List Int)):List (List Int):=(List.range ns.length).map fun i=>zaq (zab ns i) (zbf (zab ns i) fr (zcg ns tb fr O cs)) (zal cs i) (M.i_ (zcg ns tb fr O cs) i)
end
structure M.Topo (ns:List Node) (O:List Int):Prop where
 len:O.length=ns.length
 rng:∀t,t<O.length->0<=M.i_ O t/\M.i_ O t<ns.length
 new:∀s t,s<t->t<O.length->zao O s≠zao O t
 aft:∀t,t<O.length->∀f∈zax (zab ns (zao O t)),∃s,s<t/\f=M.i_ O s
theorem zhv{l:List Int}{k:Nat}(h:k<l.length)(x:Int):M.i_ (l.set k x) k=x:=by simp[M.i_,h]
theorem zg3{l:List Int}{k j:Nat}(h:k≠j)(x:Int):M.i_ (l.set k x) j=M.i_ l j:=by simp[M.i_,List.getElem?_set_ne h]
theorem zkj{l:List (List Int)}{k:Nat}(h:k<l.length)(x:List Int):zal (l.set k x) k=x:=by simp[zal,h]
theorem zhw{l:List (List Int)}{k j:Nat}(h:k≠j)(x:List Int):zal (l.set k x) j=zal l j:=by simp[zal,List.getElem?_set_ne h]
theorem zkk{a b:List Int}(hl:a.length=b.length)(h:∀j,j<a.length->M.i_ a j=M.i_ b j):a=b:=by
 apply List.ext_getElem hl;intro i h1 h2;have:=h i h1;simpa [M.i_,h1,h2]using this
theorem zrh{a b:List (List Int)}(hl:a.length=b.length)(h:∀j,j<a.length->zal a j=zal b j):a=b:=by
 apply List.ext_getElem hl;intro i h1 h2;have:=h i h1;simpa [zal,h1,h2]using this
theorem zmj:∀(n:Nat) (l:List Nat),l.Nodup->(∀x∈l,x<n)->l.length<=n:=by
 intro n
 induction n with
 | zero=>
  intro l _ h;cases l with
  | nil=>simp
  | cons x xs=>exact absurd (h x (List.mem_cons_self ..)) (by omega)
 | succ n ih=>
  intro l hd h
  by_cases hm:n∈l
  ·have h1:=List.length_erase_of_mem hm
   have h2:=ih (l.erase n) (hd.erase n) (fun x hx=>by
    rw[List.Nodup.mem_erase_iff hd]at hx;have:=h x hx.2;omega)
   have h3:0<l.length:=List.length_pos_of_mem hm;omega
  have h2:=ih l hd (fun x hx=>by
   have:=h x hx;rcases Nat.lt_succ_iff_lt_or_eq.1 this with h3|h3
   ·exact h3
   subst h3;exact absurd hx hm)
  omega
section
variable {ns:List Node} {tb:List (List Int)} {fr O:List Int}
theorem M.Topo.all(h:M.Topo ns O){j:Nat}(hj:j<ns.length):∃t,t<O.length/\zao O t=j:=by
 rcases Classical.em (∃t,t<O.length/\zao O t=j)with h1|h1
 ·exact h1
 exfalso
 have hnd:(j::(List.range O.length).map (zao O)).Nodup:=by
  rw[List.nodup_cons];refine⟨fun hm=>?_,?_⟩
  ·obtain⟨t,ht,e⟩:=List.mem_map.1 hm;exact h1 ⟨t,Gj.1 ht,e⟩
  rw[List.nodup_iff_pairwise_ne,List.pairwise_map];refine List.Pairwise.imp_of_mem ?_ (List.pairwise_lt_range (n:=O.length));intro a b _ hb hab;exact h.new a b hab (Gj.1 hb)
 have:=zmj ns.length _ hnd (fun x hx=>by
  rcases List.mem_cons.1 hx with rfl|hx
  ·exact hj
  obtain⟨t,ht,rfl⟩:=List.mem_map.1 hx;have:=h.rng t (Gj.1 ht);show (M.i_ O t).toNat<_
  omega)
 simp[h.len]at this;omega
theorem zmk(cs:List (List Int))(v0:List Int)(t:Nat):(zep ns tb fr O cs v0 t).length=v0.length:=by
 induction t with
 | zero=>rfl
 | succ t ih=>rw[zep,Fx,ih]
theorem zml(h:M.Topo ns O)(cs:List (List Int))(v0:List Int){s t t':Nat}(hs:s<t)(ht:t<=t')(ht':t'<=O.length):
 M.i_ (zep ns tb fr O cs v0 t') (zao O s)=M.i_ (zep ns tb fr O cs v0 t) (zao O s):=by
 induction t' with
 | zero=>
  obtain rfl:t=0:=by omega
  rfl
 | succ q ih=>
  rcases Fj q t with h1|h1
  ·obtain rfl:t=q+1:=by omega
   rfl
  rw[zep,zg3 (fun e=>h.new s q (by omega) (by omega) e.symm)];exact ih h1 (by omega)
theorem zmm{x:Node}{a b:List Int}(h:x.1≠1->∀f∈x.2.2.2,M.i_ a f.toNat=M.i_ b f.toNat):zbf x fr a=zbf x fr b:=by
 rw[zbf,zbf]
 split
 ·rfl
 rename_i h1
 exact List.map_congr_left (h h1)
theorem zix{x:Node}(h:x.1≠6):zax x=x.2.2.2:=by rw[zax,if_neg h]
theorem zhx{x:Node}(h:x.1=6)(tb:List (List Int))(a s:List Int):zah x tb a s=M.i_ s 0:=by simp[zah,h]
theorem zri{x:Node}(h:x.1=6)(a s:List Int)(o o':Int):zaq x a s o=zaq x a s o':=by simp[zaq,h]
theorem zmn(h:M.Topo ns O)(cs:List (List Int)){t:Nat}(ht:t<O.length):
 M.i_ (zcg ns tb fr O cs) (zao O t)=zah (zab ns (zao O t)) tb (zbf (zab ns (zao O t)) fr (zcg ns tb fr O cs)) (zal cs (zao O t)):=by
 have hr:=h.rng t ht;rw[zcg,zml h cs _ (s:=t) (t:=t+1) (by omega) (by omega) (Aj _)];show M.i_ ((zep ns tb fr O cs _ t).set _ _) _=_
 rw[zhv (by rw[zmk,Fz];show (M.i_ O t).toNat<_;omega)]
 by_cases h6:(zab ns (zao O t)).1=6
 ·rw[zhx h6,zhx h6]
 rw[zmm];intro _ f hf;obtain⟨s,hs,rfl⟩:=h.aft t ht f (by rw[zix h6];exact hf);exact(zml h cs _ (s:=s) (t:=t) (t':=O.length) hs (by omega) (Aj _)).symm
theorem zmo(v0:List Int)(c0:List (List Int))(t:Nat):(zbl ns tb fr O v0 c0 t).1.length=v0.length/\(zbl ns tb fr O v0 c0 t).2.length=c0.length:=by
 induction t with
 | zero=>exact⟨rfl,rfl⟩
 | succ t ih=>
  rw[zbl]
  split
  ·exact⟨by rw[Fx];exact ih.1,ih.2⟩
  exact⟨by rw[Fx];exact ih.1,by rw[Fx];exact ih.2⟩
theorem zrj(h:M.Topo ns O)(v0:List Int)(cs:List (List Int))(hv:v0.length=ns.length)(hc:cs.length=ns.length):∀t,t<=O.length->
 (∀s,s<t->M.i_ (zbl ns tb fr O v0 cs t).1 (zao O s)=M.i_ (zcg ns tb fr O cs) (zao O s))/\
 (∀s,s<t->(zab ns (zao O s)).1≠6->zal (zbl ns tb fr O v0 cs t).2 (zao O s)=zaq (zab ns (zao O s)) (zbf (zab ns (zao O s)) fr (zcg ns tb fr O cs)) (zal cs (zao O s)) (M.i_ (zcg ns tb fr O cs) (zao O s)))/\
 (∀j,((∀s,s<t->zao O s≠j)\/(zab ns j).1=6)->zal (zbl ns tb fr O v0 cs t).2 j=zal cs j):=by
 intro t
 induction t with
 | zero=>exact fun _=>⟨fun s hs=>absurd hs (by omega),fun s hs=>absurd hs (by omega),fun _ _=>rfl⟩
 | succ t ih=>
  intro ht;obtain⟨i1,i2,i3⟩:=ih (by omega);obtain⟨l1,l2⟩:=zmo (ns:=ns) (tb:=tb) (fr:=fr) (O:=O) v0 cs t;have hr:=h.rng t (by omega);have hi:zao O t<ns.length:=by show (M.i_ O t).toNat<_;omega
  have hcel:=i3 (zao O t) (.inl fun s hs=>h.new s t hs (by omega));have hva:=zmn (tb:=tb) (fr:=fr) h cs (t:=t) (by omega);rw[zbl]
  by_cases h6:(zab ns (zao O t)).1=6
  ·rw[if_pos h6];refine⟨fun s hs=>?_,fun s hs hn=>?_,fun j hj=>?_⟩
   ·rcases Nat.lt_succ_iff_lt_or_eq.1 hs with h1|rfl
    ·show M.i_ (List.set _ _ _) _=_
     rw[zg3 (fun e=>h.new s t h1 (by omega) e.symm)];exact i1 s h1
    show M.i_ (List.set _ _ _) _=_
    rw[zhv (by omega),hcel,hva,zhx h6]
   ·rcases Nat.lt_succ_iff_lt_or_eq.1 hs with h1|rfl
    ·exact i2 s h1 hn
    exact absurd h6 hn
   exact i3 j (hj.imp (fun h1 s hs=>h1 s (by omega)) id)
  rw[if_neg h6]
  have hins:zbf (zab ns (zao O t)) fr (zbl ns tb fr O v0 cs t).1=zbf (zab ns (zao O t)) fr (zcg ns tb fr O cs):=by
   refine zmm fun _ f hf=>?_
   obtain⟨s,hs,rfl⟩:=h.aft t (by omega) f (by rw[zix h6];exact hf);exact i1 s hs
  refine⟨fun s hs=>?_,fun s hs hn=>?_,fun j hj=>?_⟩
  ·rcases Nat.lt_succ_iff_lt_or_eq.1 hs with h1|rfl
   ·show M.i_ (List.set _ _ _) _=_
    rw[zg3 (fun e=>h.new s t h1 (by omega) e.symm)];exact i1 s h1
   show M.i_ (List.set _ _ _) _=_
   rw[zhv (by omega),hcel,hins,hva]
  ·rcases Nat.lt_succ_iff_lt_or_eq.1 hs with h1|rfl
   ·show zal (List.set _ _ _) _=_
    rw[zhw (fun e=>h.new s t h1 (by omega) e.symm)];exact i2 s h1 hn
   show zal (List.set _ _ _) _=_
   rw[zkj (by omega),hcel,hins,hva]
  show zal (List.set _ _ _) _=_
  rcases hj with h1|h1
  ·rw[zhw (h1 t (by omega))];exact i3 j (.inl fun s hs=>h1 s (by omega))
  rw[zhw (fun e=>h6 (by rw[e];exact h1))];exact i3 j (.inr h1)
theorem zkl(vs:List Int)(c1:List (List Int))(t:Nat):(zc8 ns fr vs c1 t).length=c1.length:=by
 induction t with
 | zero=>rfl
 | succ t ih=>
  rw[zc8]
  split
  ·rw[Fx,ih]
  exact ih
theorem zrk(vs:List Int)(c1:List (List Int)):∀t,t<=c1.length->∀j,zal (zc8 ns fr vs c1 t) j=if j<t/\(zab ns j).1=6 then zaq (zab ns j) (zbf (zab ns j) fr vs) (zal c1 j) 0 else zal c1 j:=by
 intro t
 induction t with
 | zero=>intro _ j;rw[if_neg (by omega)];rfl
 | succ t ih=>
  intro ht j;have hl:=zkl (ns:=ns) (fr:=fr) vs c1 t;rw[zc8]
  split
  ·rename_i h6
   by_cases hj:t=j
   ·subst hj;rw[zkj (by omega),if_pos ⟨by omega,h6⟩,ih (by omega),if_neg (by omega)]
   rw[zhw hj,ih (by omega)]
   by_cases hq:j<t/\(zab ns j).1=6
   ·rw[if_pos hq,if_pos ⟨by omega,hq.2⟩]
   rw[if_neg hq,if_neg (fun e=>hq ⟨by omega,e.2⟩)]
  rename_i h6
  rw[ih (by omega)]
  by_cases hq:j<t/\(zab ns j).1=6
  ·rw[if_pos hq,if_pos ⟨by omega,hq.2⟩]
  rw[if_neg hq,if_neg (fun e=>by
   by_cases hj:j=t
   ·subst hj;exact h6 e.2
   exact hq ⟨by omega,e.2⟩)]
theorem zrl(h:M.Topo ns O)(v0:List Int)(cs:List (List Int))(hv:v0.length=ns.length)(hc:cs.length=ns.length):
 (zbl ns tb fr O v0 cs O.length).1=zcg ns tb fr O cs/\zc8 ns fr (zcg ns tb fr O cs) (zbl ns tb fr O v0 cs O.length).2 ns.length=zd2 ns tb fr O cs:=by
 obtain⟨i1,i2,i3⟩:=zrj (tb:=tb) (fr:=fr) h v0 cs hv hc O.length (Aj _);obtain⟨l1,l2⟩:=zmo (ns:=ns) (tb:=tb) (fr:=fr) (O:=O) v0 cs O.length;refine⟨zkk (by rw[l1,zcg,zmk,Fz,hv]) fun j hj=>?_,zrh (by rw[zkl,l2,zd2,Ff,List.length_range,hc]) fun j hj=>?_⟩
 ·obtain⟨t,ht,rfl⟩:=h.all (j:=j) (by omega);exact i1 t ht
 rw[zkl,l2,hc]at hj;have hn:zal (zd2 ns tb fr O cs) j=zaq (zab ns j) (zbf (zab ns j) fr (zcg ns tb fr O cs)) (zal cs j) (M.i_ (zcg ns tb fr O cs) j):=by simp[zd2,zal,hj]
 rw[hn,zrk _ _ _ (by omega)];obtain⟨t,ht,rfl⟩:=h.all hj
 by_cases h6:(zab ns (zao O t)).1=6
 ·rw[if_pos ⟨hj,h6⟩,i3 _ (.inr h6)];exact zri h6 _ _ _ _
 rw[if_neg (fun e=>h6 e.2)];exact i2 t ht h6
end
theorem zrm{ns:List Node}{out:List Int}{i:Nat}(h:zdf ns out=some i):i<ns.length/\zdv ns out i=true:=by
 rw[zdf,List.find?_range_eq_some]at h;exact⟨Gj.1 h.2.1,h.1⟩
theorem zmp{xs:List Int}{m:Int}:zam xs m=true↔m∈xs:=by
 rw[zam,List.any_eq_true];constructor
 ·rintro⟨x,hx,e⟩;rw[Dg]at e;exact e▸hx
 exact fun h=>⟨m,h,by simp⟩
theorem zmq(ns:List Node):∀t,(zaw ns t).length<=t/\(∀s,s<(zaw ns t).length->0<=M.i_ (zaw ns t) s/\M.i_ (zaw ns t) s<ns.length)/\
 (∀s u,s<u->u<(zaw ns t).length->zao (zaw ns t) s≠zao (zaw ns t) u)/\
 (∀u,u<(zaw ns t).length->∀f∈zax (zab ns (zao (zaw ns t) u)),∃s,s<u/\f=M.i_ (zaw ns t) s):=by
 intro t
 induction t with
 | zero=>exact⟨by simp[zaw],fun s hs=>by simp[zaw]at hs,fun s u _ hu=>by simp[zaw]at hu,fun u hu=>by simp[zaw]at hu⟩
 | succ t ih=>
  obtain⟨j1,j2,j3,j4⟩:=ih;rw[zaw];cases hn:zdf ns (zaw ns t)with
  | none=>exact⟨Nat.le_succ_of_le j1,j2,j3,j4⟩
  | some i=>
   obtain⟨hi,hr⟩:=zrm hn;simp only;generalize hO:zaw ns t=O at *;have ea:∀s,s<O.length->M.i_ (O++[(i:Int)]) s=M.i_ O s:=fun s hs=>by simp[M.i_,List.getElem?_append_left hs]
   have eb:M.i_ (O++[(i:Int)]) O.length=i:=(by simp[M.i_]);have hl:(O++[(i:Int)]).length=O.length+1:=(by simp);rw[zdv,Cx,Bool.not_eq_true']at hr
   have hni:∀s,s<O.length->zao O s≠i:=by
    intro s hs e;have h2:=j2 s hs;have e2:M.i_ O s=(i:Int):=(by have:(M.i_ O s).toNat=i:=e;omega)
    have h3:zam O i=true:=zmp.2 (by
     rw[<-e2];simp only[M.i_,Ak hs,Option.getD_some];exact List.getElem_mem hs)
    rw[hr.1]at h3;cases h3
   refine⟨by rw[hl];omega,fun s hs=>?_,fun s u hsu hu=>?_,fun u hu f hf=>?_⟩
   ·rw[hl]at hs;rcases Nat.lt_succ_iff_lt_or_eq.1 hs with h1|rfl
    ·rw[ea s h1];exact j2 s h1
    rw[eb];omega
   ·rw[hl]at hu;rcases Nat.lt_succ_iff_lt_or_eq.1 hu with h1|rfl
    ·show (M.i_ _ s).toNat≠(M.i_ _ u).toNat
     rw[ea s (by omega),ea u h1];exact j3 s u hsu h1
    show (M.i_ _ s).toNat≠(M.i_ _ _).toNat
    rw[ea s hsu,eb];have:=hni s hsu;exact this
   rw[hl]at hu;rcases Nat.lt_succ_iff_lt_or_eq.1 hu with h1|rfl
   ·rw[show zao (O++[(i:Int)]) u=zao O u by show (M.i_ _ u).toNat=(M.i_ _ u).toNat;rw[ea u h1]]at hf;obtain⟨s,hs,rfl⟩:=j4 u h1 f hf;exact⟨s,hs,(ea s (by omega)).symm⟩
   rw[show zao (O++[(i:Int)]) O.length=i by show (M.i_ _ _).toNat=i;rw[eb];omega]at hf;have h4:=Ef.1 hr.2 f hf;obtain⟨s,hs⟩:=Fk (zmp.1 h4);have hs2:=(Bk.1 hs).1;refine⟨s,hs2,?_⟩;rw[ea s hs2,M.i_,hs]
   rfl
theorem zrn(ns:List Node)(t:Nat):(zaw ns t).length<=ns.length:=by
 obtain⟨_,j2,j3,_⟩:=zmq ns t
 have h:=zmj ns.length ((List.range (zaw ns t).length).map (zao (zaw ns t))) (by
  rw[List.nodup_iff_pairwise_ne,List.pairwise_map];refine List.Pairwise.imp_of_mem ?_ (List.pairwise_lt_range (n:=(zaw ns t).length));intro a b _ hb hab
  exact j3 a b hab (Gj.1 hb)) (fun x hx=>by
   obtain⟨u,hu,rfl⟩:=List.mem_map.1 hx;have:=j2 u (Gj.1 hu);show (M.i_ _ u).toNat<_
   omega)
 simpa using h
theorem zro{ns:List Node}(h:(zbj ns).length=ns.length):M.Topo ns (zbj ns):=by
 obtain⟨_,j2,j3,j4⟩:=zmq ns ns.length;exact⟨h,j2,j3,j4⟩
end
section
open Go
section
variable {P:Program} {ops:Array Oper} {md:Region.Mode} {D:Yw->Prop}
def noX:Exit->Act->Yw->Prop:=fun _ _ _=>False
def zcc (o:Oper):Bool:=
 match o.op with
 | .move _|.assign _|.load .. | .fieldAddr .. | .indexAddr .. | .nilCheck _|.binOp .. | .unOp .. | .pick .. | .slice .. | .convert .. | .extract .. | .field .. | .build ..=>true
 | _=>false
def NE (s:Sem Next):Prop:=∀(P:Program) (w:Yw) (n:Next) (w':Yw),s.run P w=.ok n w'->∃v,n=.value v
theorem NE.bind{α:Type}{s:Sem α}{k:α->Sem Next}(h:∀x,NE (k x)):NE (s >>= k):=by
 intro P w n w' e;rw[Sem.run_bind]at e;cases hs:s.run P w with
 | ok x w2=>rw[hs]at e;exact h x P w2 n w' e
 | halt x w2=>rw[hs]at e;simp[Result.andThen]at e
theorem NE.value(v:Value):NE (pure (.value v)):=by
 intro P w n w' e;rw[Sem.run_pure]at e;injection e with e
 exact⟨v,e.symm⟩
theorem NE.v(s:Sem Value):NE (do pure (Next.value (<-s))):=NE.bind fun _=>NE.value _
theorem zrp{o:Oper}(h:zcc o=true)(ρ:Operand->Value):NE (execOp ρ o):=by
 obtain⟨dst,op,type,pos,after,guard⟩:=o;cases op <;> simp only[zcc,Bool.false_eq_true]at h <;> simp only[execOp]
 case nilCheck x=>
  split
  ·intro P w n w' e;simp[runtimePanic,Sem.run]at e
  ·intro P w n w' e;simp[runtimePanic,Sem.run]at e
  ·intro P w n w' e;simp[runtimePanic,Sem.run]at e
  ·split
   ·intro P w n w' e;simp[runtimePanic,Sem.run]at e
   ·refine NE.bind fun p=>NE.bind fun y=>?_
    split
    ·exact NE.bind fun _=>NE.value _
    exact NE.value _
   exact NE.value _
  exact NE.value _
 case pick c x y=>exact NE.bind fun _=>NE.value _
 all_goals first|exact NE.v _|exact NE.value _
def YieldsD (P:Program) (ops:Array Oper) (D:Yw->Prop) (o:Oper) (v:Value) (a:Act):Prop:=
 (Region.wanted o (yielded ops a.tmps)=true/\∀w,D w->(execOp a.eval o).run P w=.ok (.value v) w)\/
 (Region.wanted o (yielded ops a.tmps)=false/\v=undef)
theorem YieldsD.of_same{o:Oper}{v:Value}{a a':Act}(hy:YieldsD P ops D o v a)(he:execOp a'.eval o=execOp a.eval o)
 (hw:Region.wanted o (yielded ops a'.tmps)=Region.wanted o (yielded ops a.tmps)):YieldsD P ops D o v a':=by
 unfold YieldsD at *;rw[he,hw];exact hy
theorem YieldsD.of_quiet{o:Oper}{a:Act}{v:Value}(hp:zcc o=true)(h:∀w,D w->o.quietAt P a D w v)(w:Yw)(hw:D w):(execOp a.eval o).run P w=.ok (.value v) w:=by
 have h1:=h w hw;have h2:=zrp hp a.eval P w;unfold Oper.quietAt at h1;generalize (execOp a.eval o).run P w=r at h1 h2;cases r with
 | ok n w'=>
  obtain⟨u,rfl⟩:=h2 n w' rfl;simp only[Oper.quietUpon]at h1;obtain⟨e1,e2⟩:=h1;rw[e1,e2]
 | halt x w'=>simp only[Oper.quietUpon]at h1
theorem YieldsD.wpOp{i:Nat}{o:Oper}{v:Value}{a:Act}(hi:ops[i]?=some o)(hy:YieldsD P ops D o v a){K:Act->Yw->Prop}{w:Yw}{Q:Exit->Act->Yw->Prop}(hD:D w)(h:K (a.put o.dst v) w):wpOp P ops Q i K a w:=by
 unfold Go.wpOp;simp only[hi];rcases hy with⟨hw,hv⟩|⟨hw,rfl⟩
 ·simp only[hw,if_true,Oper.wp];rw[hv w hD];exact .inl h
 simp only[hw,Bool.false_eq_true,if_false];exact h
theorem zmr{j:Nat}{oi oj:Oper}{v:Value}(hj:ops[j]?=some oj)(hap:oi.apart ops oj=true)
 (hsi:∀cs b,oi.op≠.select cs b) (hsj:∀cs b,oj.op≠.select cs b) {K:Act->Yw->Prop} {a:Act} {w:Yw}
 (hy:YieldsD P ops D oi v a) (h:wpOp P ops noX j K (a.put oi.dst v) w) :
 wpOp P ops noX j (fun a' w'=>YieldsD P ops D oi v a'/\K (a'.put oi.dst v) w') a w:=by
 obtain⟨h1,h2,h3⟩:=Oper.apart_spec hap
 have keep:∀(a:Act),YieldsD P ops D oi v a->∀u,YieldsD P ops D oi v (a.put oj.dst u):=fun a hy u=>
  hy.of_same (execOp_put oi hsi a oj.dst u h3) (wanted_put oi a oj.dst u h3)
 have keepD:∀d,YieldsD P ops D oi v { a with defers:=d::a.defers }:=fun d=>hy.of_same rfl rfl
 unfold wpOp at *;simp only[hj]at *;rw[wanted_put oj a oi.dst v h1]at h
 split
 ·rename_i hw
  simp only[hw,if_true]at h;rcases h with h|⟨hasks,hlets⟩
  case inr=>exact .inr ⟨by unfold Oper.asks at *;rw[execOp_put oj hsj a oi.dst v h1]at hasks;exact hasks,hlets⟩
  refine .inl ?_;unfold Oper.wp at *;rw[execOp_put oj hsj a oi.dst v h1]at h;generalize (execOp a.eval oj).run P w=r at *;cases r with
  | ok n w'=>
   cases n <;> simp only[Oper.upon]at h ⊢
   case value u=>exact⟨keep a hy u,by rw[<-Act.put_comm a v u h2];exact h⟩
   case skip=>exact⟨keep a hy _,by rw[<-Act.put_comm a v undef h2];exact h⟩
   case defer d=>
    refine⟨keep _ (keepD d) _,?_⟩;rw[<-Act.put_comm _ v undef h2,<-Act.put_defers];exact h
   case enter f args=>
    refine Calls.mono h fun e w'' he=>?_
    cases e with
    | returned u=>exact⟨keep a hy u,by rw[<-Act.put_comm a v u h2];exact he⟩
    | panicked c=>exact he
    | outgrown=>exact he
   case row row args=>exact Rows.mono h fun u w'' he=>⟨keep a hy u,by rw[<-Act.put_comm a v u h2];exact he⟩
  | halt x w'=>
   cases x <;> simp only[Oper.upon]at h ⊢
   case panic u=>exact h
 rename_i hw
 simp only[hw]at h;exact⟨keep a hy _,by rw[<-Act.put_comm a v undef h2];exact h⟩
def upD (P:Program) (md:Region.Mode) (ops:Array Oper) (D:Yw->Prop) (T:Nat->Bool) (L:Array Bool->Act->Yw->Prop):Nat->Array Bool->Act->Yw->Prop
 | 0,listed,a,w=>D w/\L listed a w
 | f+1,listed,a,w=>D w/\Region.ready md ops listed≠[]/\∀i∈Region.ready md ops listed,T i=false/\wpOp P ops noX i (upD P md ops D T L f (listed.setIfInBounds i true)) a w
theorem zms{i:Nat}{K:Act->Yw->Prop}{a:Act}{w:Yw}{Q:Exit->Act->Yw->Prop}(h:wpOp P ops noX i K a w):wpOp P ops Q i K a w:=by
 unfold wpOp at *
 split
 ·rename_i ho;simp only[ho]at h;exact h
 rename_i o ho
 simp only[ho]at h
 split
 ·rename_i hw
  simp only[hw,if_true]at h;rcases h with h|⟨_,a2,w2,hl⟩
  ·refine .inl ?_;unfold Oper.wp at *;generalize (execOp a.eval o).run P w=r at *;cases r with
   | ok n w'=>
    cases n <;> simp only[Oper.upon]at h ⊢
    case value u=>exact h
    case skip=>exact h
    case defer d=>exact h
    case enter f args=>
     refine Calls.mono h fun e w'' he=>?_
     cases e with
     | returned u=>exact he
     | panicked c=>exact he.elim
     | outgrown=>obtain⟨a3,w3,hl⟩:=he;exact hl.elim
    case row row args=>exact h
   | halt x w'=>
    cases x <;> simp only[Oper.upon]at h ⊢
    case panic u=>exact h.elim
  exact hl.elim
 rename_i hw
 simp only[hw]at h;exact h
theorem zrq{T:Nat->Bool}{g:Nat}{L:Array Bool->Act->Yw->Prop}{Q:Exit->Act->Yw->Prop}(hL:∀listed a w,L listed a w->wpAny P md ops Q g listed a w):
 ∀(f:Nat) (listed:Array Bool) (a:Act) (w:Yw),upD P md ops D T L f listed a w->wpAny P md ops Q (f+g) listed a w:=by
 intro f
 induction f with
 | zero=>intro listed a w h;rw[Nat.zero_add];exact hL _ _ _ h.2
 | succ f ih=>
  intro listed a w h;rw[show f+1+g=(f+g)+1 by omega];exact⟨fun h0=>absurd h0 h.2.1,fun i hi=>zms (wpOp_mono (fun a' w' h'=>ih _ a' w' h') (h.2.2 i hi).2)⟩
def zdg (md:Region.Mode) (ops:Array Oper):Nat->Nat->Nat->Bool
 | 0,_,_=>false
 | f+1,t,i=>match ops[t]? with
  | some ot=>ot.after.any fun e=>Region.binds md e&&(e.on == i||zdg md ops f e.on i)
  | none=>false
def Closed (md:Region.Mode) (ops:Array Oper) (listed:Array Bool):Prop:=
 ∀j oj,ops[j]?=some oj->listed.getD j false=true->∀e∈oj.after,Region.binds md e=true->listed.getD e.on false=true
theorem Closed.set{listed:Array Bool}(h:Closed md ops listed){i:Nat}(hi:i∈Region.ready md ops listed):Closed md ops (listed.setIfInBounds i true):=by
 obtain⟨_,oi,hoi,hall⟩:=mem_ready.1 hi;intro j oj hj hl e he hb
 by_cases hij:i=j
 ·subst hij;have:oj=oi:=Option.some.inj (hj.symm.trans hoi);subst this;exact getD_set_true (hall e he hb)
 rw[getD_set_ne false hij]at hl;exact getD_set_true (h j oj hj hl e he hb)
theorem zmt{listed:Array Bool}(hc:Closed md ops listed):∀(f t i:Nat) (ot:Oper),ops[t]?=some ot->(∀e∈ot.after,Region.binds md e=true->listed.getD e.on false=true)->zdg md ops f t i=true->listed.getD i false=true:=by
 intro f
 induction f with
 | zero=>intro t i ot _ _ h;simp[zdg]at h
 | succ f ih=>
  intro t i ot ho hall h;simp only[zdg,ho]at h;obtain⟨e,he,hb⟩:=Array.any_eq_true'.1 h;simp only[Cx,Bool.or_eq_true,beq_iff_eq]at hb;obtain⟨hb1,hb2⟩:=hb;have hl:=hall e he hb1;rcases hb2 with h2|h2
  ·rw[<-h2];exact hl
  cases ho2:ops[e.on]? with
  | none=>
   cases f with
   | zero=>simp[zdg]at h2
   | succ f=>simp[zdg,ho2]at h2
  | some o2=>exact ih e.on i o2 ho2 (fun e2 he2 hb2=>hc e.on o2 ho2 hl e2 he2 hb2) h2
theorem zrr{T:Nat->Bool}{i:Nat}{oi:Oper}{v:Value}{L:Array Bool->Act->Yw->Prop}(hi:ops[i]?=some oi)(hsel:Region.noSelect ops=true)
 (hwait:∀t,T t=true->zdg md ops ops.size t i=true) (hTi:T i=false)
 (hdone:∀listed a w,L listed a w->∀j∈Region.ready md ops listed,T j=true) :
 ∀(f:Nat) (listed:Array Bool) (a:Act) (w:Yw),Closed md ops listed->
  (∀j oj,ops[j]?=some oj->j≠i->listed.getD j true=false->(∀e∈oj.after,Region.binds md e=true->e.on≠i)->oi.apart ops oj=true)->
  i∈Region.ready md ops listed->YieldsD P ops D oi v a->D w->
  upD P md ops D T L f (listed.setIfInBounds i true) (a.put oi.dst v) w->upD P md ops D T L (f+1) listed a w:=by
 have late:∀(listed:Array Bool),Closed md ops listed->listed.getD i true=false->∀j∈Region.ready md ops listed,T j=false:=by
  intro listed hcl hun j hj;cases hT:T j with
  | false=>rfl
  | true=>
   obtain⟨_,oj,hoj,hall⟩:=mem_ready.1 hj;have:=zmt hcl ops.size j i oj hoj hall (hwait j hT);rw[getD_both hun]at this;cases this
 intro f
 induction f with
 | zero=>
  intro listed a w hcl _ hr hy hD H;refine⟨hD,fun h=>(by rw[h]at hr;cases hr),fun j hj=>?_⟩;have hTj:=late listed hcl (mem_ready.1 hr).1 j hj;refine⟨hTj,?_⟩
  by_cases hji:j=i
  ·subst hji;exact hy.wpOp hi hD H
  ·have:=hdone _ _ _ H.2 j (ready_mono hj hji);rw[hTj]at this;cases this
 | succ f ih=>
  intro listed a w hcl hfree hr hy hD H;refine⟨hD,fun h=>(by rw[h]at hr;cases hr),fun j hj=>?_⟩;refine⟨late listed hcl (mem_ready.1 hr).1 j hj,?_⟩
  by_cases hji:j=i
  ·subst hji;exact hy.wpOp hi hD H
  obtain⟨hjun,oj,hoj,hall⟩:=mem_ready.1 hj
  have hnot:∀e∈oj.after,Region.binds md e=true->e.on≠i:=fun e he hb heq=>by
   have h1:=hall e he hb;rw[heq,getD_both (mem_ready.1 hr).1]at h1;cases h1
  have h2:=zmr hoj (hfree j oj hoj hji hjun hnot) (fun cs b=>Region.noSelect_spec hsel i oi cs b hi) (fun cs b=>Region.noSelect_spec hsel j oj cs b hoj) hy (H.2.2 j (ready_mono hj hji)).2;refine wpOp_mono (fun a' w' h3=>?_) h2;obtain⟨h3,h4⟩:=h3
  have hD':D w':=by
   cases f with
   | zero=>exact h4.1
   | succ f=>exact h4.1
  refine ih (listed.setIfInBounds j true) a' w' (hcl.set hj) (fun k ok hk hki hun hno=>hfree k ok hk hki ?_ hno) (ready_mono hr (Ne.symm hji)) h3 hD' ?_
  ·by_cases hjk:j=k
   ·subst hjk;exact hjun
   rwa [getD_set_ne true hjk]at hun
  rw[Array.setIfInBounds_comm _ _ hji];exact h4
def zeq (md:Region.Mode) (ops:Array Oper):List Nat->Array Bool->Bool
 | [],listed=>(Region.ready md ops listed).isEmpty
 | b::bs,listed=>decide (Region.ready md ops listed=[b])&&zeq md ops bs (listed.setIfInBounds b true)
theorem zmu{Q:Exit->Act->Yw->Prop}:∀(B:List Nat) (l:List Oper) (listed:Array Bool) (a:Act) (w:Yw),l.map some=B.map (ops[·]?)->
 zeq md ops B listed=true->wpList P ops Q l a w->wpAny P md ops Q B.length listed a w:=by
 intro B
 induction B with
 | nil=>
  intro l listed a w hl hB h;obtain rfl:l=[]:=by cases l with|nil=>rfl|cons x xs=>simp at hl
  exact⟨by simpa [zeq]using hB,h⟩
 | cons b bs ih=>
  intro l listed a w hl hB h;cases l with
  | nil=>simp at hl
  | cons o l=>
   simp only[List.map_cons,List.cons.injEq]at hl;simp only[zeq,Cx,Dg]at hB;refine⟨fun h1=>(by rw[hB.1]at h1;cases h1),fun i hi=>?_⟩;rw[hB.1]at hi;obtain rfl:i=b:=by simpa using hi
   have hw:wpOp P ops Q i (wpList P ops Q l) a w:=(by unfold wpOp;simp only[<-hl.1];exact h);exact wpOp_mono (fun a' w' h'=>ih l _ a' w' hl.2 hB.2 h') hw
inductive Tr where
 | rest
 | one (b:Nat) (t:Tr)
 | two (b:Nat) (t:Tr) (b':Nat) (t':Tr)
def Tr.inB (l:List Nat):Tr->Bool
 | .rest=>true
 | .one b t=>!l.contains b&&t.inB l
 | .two b t b' t'=>!l.contains b&&!l.contains b'&&t.inB l&&t'.inB l
def zer (md:Region.Mode) (ops:Array Oper) (R:List Nat):Nat->Tr->Array Bool->Bool
 | 0,.rest,listed=>zeq md ops R listed
 | m+1,.one b t,listed=>decide (Region.ready md ops listed=[b])&&zer md ops R m t (listed.setIfInBounds b true)
 | m+1,.two b t b' t',listed=>decide (Region.ready md ops listed=[b,b'])&&zer md ops R m t (listed.setIfInBounds b true)&&zer md ops R m t' (listed.setIfInBounds b' true)
 | _,_,_=>false
def seqT (P:Program) (l:List Oper) (D:Yw->Prop) (Q:Exit->Act->Yw->Prop) (lr:List Oper):Tr->Act->Yw->Prop
 | .rest,a,w=>wpList P l.toArray Q lr a w
 | .one b t,a,w=>match l[b]? with
  | some o=>wpList P l.toArray (fun x a' w'=>x=.normal/\D w'/\seqT P l D Q lr t a' w') [o] a w
  | none=>False
 | .two b t b' t',a,w=>(match l[b]? with
  | some o=>wpList P l.toArray (fun x a' w'=>x=.normal/\D w'/\seqT P l D Q lr t a' w') [o] a w
  | none=>False)/\(match l[b']? with
  | some o=>wpList P l.toArray (fun x a' w'=>x=.normal/\D w'/\seqT P l D Q lr t' a' w') [o] a w
  | none=>False)
theorem zrs{o:Oper}{i:Nat}(hi:ops[i]?=some o){K:Act->Yw->Prop}{a:Act}{w:Yw}(h:wpList P ops (fun x a' w'=>x=.normal/\K a' w') [o] a w):wpOp P ops noX i K a w:=by
 unfold wpOp;simp only[hi];unfold wpList at h
 split
 ·rename_i hw
  simp only[hw,if_true]at h;rcases h with h|⟨_,a2,w2,hl,_⟩
  ·refine .inl ?_;unfold Oper.wp at *;generalize (execOp a.eval o).run P w=r at *;cases r with
   | ok n w'=>
    cases n <;> simp only[Oper.upon]at h ⊢
    case value u=>exact h.2
    case skip=>exact h.2
    case defer d=>exact h.2
    case enter f args=>
     refine Calls.mono h fun e w'' he=>?_
     cases e with
     | returned u=>exact he.2
     | panicked c=>exact absurd he.1 (by simp)
     | outgrown=>obtain⟨a3,w3,hl,_⟩:=he;exact absurd hl (by simp)
    case row row args=>exact Rows.mono h fun u w'' he=>he.2
   | halt x w'=>
    cases x <;> simp only[Oper.upon]at h ⊢
    case panic u=>exact absurd h.1 (by simp)
  exact absurd hl (by simp)
 rename_i hw
 simp only[hw]at h;exact h.2
theorem zg4{l:List Oper}{b:Nat}{K:Act->Yw->Prop}{a:Act}{w:Yw}(h:match l[b]? with
 | some o=>wpList P l.toArray (fun x a' w'=>x=.normal/\K a' w') [o] a w
 | none=>False):wpOp P l.toArray noX b K a w:=by
 cases ho:l[b]? with
 | none=>rw[ho]at h;exact h.elim
 | some o=>rw[ho]at h;exact zrs (ops:=l.toArray) (by simpa using ho) h
theorem zrt{l:List Oper}{T:Nat->Bool}{Q:Exit->Act->Yw->Prop}{R:List Nat}{lr:List Oper}:∀(m:Nat) (t:Tr) (listed:Array Bool) (a:Act) (w:Yw),
 zer md l.toArray R m t listed=true->t.inB R=true->(∀b,T b=R.contains b)->D w->seqT P l D Q lr t a w->
 upD P md l.toArray D T (fun listed' a' w'=>zeq md l.toArray R listed'=true/\wpList P l.toArray Q lr a' w') m listed a w:=by
 intro m
 induction m with
 | zero=>
  intro t listed a w hB _ _ hD h;cases t with
  | rest=>exact⟨hD,by simpa [zer]using hB,h⟩
  | one b t=>simp[zer]at hB
  | two b t b' t'=>simp[zer]at hB
 | succ m ih=>
  intro t listed a w hB hI hT hD h;cases t with
  | rest=>simp[zer]at hB
  | one b t=>
   simp only[zer,Cx,Dg]at hB;simp only[Tr.inB,Cx,Bool.not_eq_true']at hI;refine⟨hD,fun h1=>(by rw[hB.1]at h1;cases h1),fun i hi=>?_⟩;rw[hB.1]at hi;obtain rfl:i=b:=by simpa using hi
   refine⟨by rw[hT];exact hI.1,?_⟩;exact wpOp_mono (fun a' w' h'=>ih t _ a' w' hB.2 hI.2 hT h'.1 h'.2) (zg4 (K:=fun a' w'=>D w'/\seqT P l D Q lr t a' w') h)
  | two b t b' t'=>
   simp only[zer,Cx,Dg]at hB;simp only[Tr.inB,Cx,Bool.not_eq_true']at hI;refine⟨hD,fun h1=>(by rw[hB.1.1]at h1;cases h1),fun i hi=>?_⟩;rw[hB.1.1]at hi;have hi':i=b\/i=b':=(by simpa using hi);rcases hi' with rfl|rfl
   ·refine⟨by rw[hT];exact hI.1.1.1,?_⟩;exact wpOp_mono (fun a' w' h'=>ih t _ a' w' hB.1.2 hI.1.2 hT h'.1 h'.2) (zg4 (K:=fun a' w'=>D w'/\seqT P l D Q lr t a' w') h.1)
   refine⟨by rw[hT];exact hI.1.1.2,?_⟩;exact wpOp_mono (fun a' w' h'=>ih t' _ a' w' hB.2 hI.2 hT h'.1 h'.2) (zg4 (K:=fun a' w'=>D w'/\seqT P l D Q lr t' a' w') h.2)
def ziy (md:Region.Mode) (ops:Array Oper) (R:List Nat) (m:Nat) (t:Tr):List Nat->Array Bool->Bool
 | [],listed=>zer md ops R m t listed
 | i::is,listed=>(Region.ready md ops listed).contains i&&Region.free md ops listed i&&ziy md ops R m t is (listed.setIfInBounds i true)
theorem zru{l:List Oper}{T:Nat->Bool}{Q:Exit->Act->Yw->Prop}{R:List Nat}{lr:List Oper}{m:Nat}{t:Tr}(hsel:Region.noSelect l.toArray=true)(hI:t.inB R=true)(hT:∀b,T b=R.contains b):
 ∀(F:List Nat) (k:List Oper) (listed:Array Bool) (a:Act) (w:Yw),k.map some=F.map (l.toArray[·]?)->k.all zcc=true->Closed md l.toArray listed->ziy md l.toArray R m t F listed=true->
 (∀i∈F,T i=false/\∀t,T t=true->zdg md l.toArray l.toArray.size t i=true)->D w->wpQuiet P l.toArray D (fun a'=>seqT P l D Q lr t a' w) k a->
 upD P md l.toArray D T (fun listed' a' w'=>zeq md l.toArray R listed'=true/\wpList P l.toArray Q lr a' w') (F.length+m) listed a w:=by
 intro F
 induction F with
 | nil=>
  intro k listed a w hk _ hc hB _ hD h;obtain rfl:k=[]:=by cases k with|nil=>rfl|cons x xs=>simp at hk
  simp only[List.length_nil,Nat.zero_add];exact zrt m t listed a w hB hI hT hD h
 | cons i is ih=>
  intro k listed a w hk hp hc hB hW hD h;cases k with
  | nil=>simp at hk
  | cons o k=>
   simp only[List.map_cons,List.cons.injEq]at hk;simp only[Dv,Cx]at hp;simp only[ziy,Cx]at hB;obtain⟨⟨hr,hf⟩,hB2⟩:=hB;have hr':i∈Region.ready md l.toArray listed:=(by simpa using hr);have hq:qOp P l.toArray D i (wpQuiet P l.toArray D (fun a'=>seqT P l D Q lr t a' w) k) a:=(by unfold qOp;simp only[<-hk.1];exact h);obtain⟨v,hy,hK⟩:=yieldsIn_of_qOp hk.1.symm hq
   have hy2:YieldsD P l.toArray D o v a:=by
    rcases hy with⟨hw,h1⟩|⟨hw,rfl⟩
    ·exact .inl ⟨hw,YieldsD.of_quiet hp.1 h1⟩
    exact .inr ⟨hw,rfl⟩
   obtain⟨hTi,hwait⟩:=hW i (by simp);rw[Dk,show is.length+1+m=(is.length+m)+1 by omega];refine zrr hk.1.symm hsel hwait hTi ?_ (is.length+m) listed a w hc (Region.free_spec hk.1.symm hf) hr' hy2 hD (ih k _ _ w hk.2 hp.2 (hc.set hr') hB2 (fun j hj=>hW j (by simp[hj])) hD hK);intro listed' a' w' hL j hj;cases hd:R with
   | nil=>
    rw[hd]at hL;have:=hL.1;simp only[zeq,List.isEmpty_iff]at this;rw[this]at hj;cases hj
   | cons b bs=>
    rw[hd]at hL;have:=hL.1;simp only[zeq,Cx,Dg]at this;rw[this.1]at hj;obtain rfl:j=b:=by simpa using hj
    rw[hT,hd];simp
def ziz (md:Region.Mode) (ops:Array Oper) (F:List Nat) (m:Nat) (t:Tr) (R:List Nat):List Nat->Array Bool->Bool
 | [],listed=>ziy md ops R m t F listed
 | i::is,listed=>(Region.ready md ops listed).contains i&&Region.free md ops listed i&&ziz md ops F m t R is (listed.setIfInBounds i true)
def zkm (md:Region.Mode) (ops:Array Oper) (A F:List Nat) (m:Nat) (t:Tr) (R:List Nat):Bool:=
 Region.noSelect ops&&decide (A.length+F.length+(m+R.length)=ops.size)&&R.all (fun t=>F.all fun i=>zdg md ops ops.size t i)&&F.all (fun i=>!R.contains i)&&t.inB R &&
  ziz md ops F m t R A (Array.replicate ops.size false)
theorem zrv{l:List Oper}{Q:Exit->Act->Yw->Prop}(hsel:Region.noSelect l.toArray=true)(hQ:∀c a w,Q (.panic c) a w->False){F R:List Nat}{m:Nat}{t:Tr}{lf lr:List Oper}(hlr:lr.map some=R.map (l.toArray[·]?))(hlf:lf.map some=F.map (l.toArray[·]?))(hpf:lf.all zcc=true)
 (hreach:∀t∈R,∀i∈F,zdg md l.toArray l.toArray.size t i=true) (hF:∀i∈F,R.contains i=false) (hI:t.inB R=true) :
 ∀(A:List Nat) (la:List Oper) (listed:Array Bool) (a:Act) (w:Yw),la.map some=A.map (l.toArray[·]?)->la.all zcc=true->Closed md l.toArray listed->ziz md l.toArray F m t R A listed=true->
 D w->wpQuiet P l.toArray (fun _=>True) (fun a'=>wpQuiet P l.toArray D (fun a'=>seqT P l D Q lr t a' w) lf a') la a->wpAny P md l.toArray Q (A.length+F.length+(m+R.length)) listed a w:=by
 intro A
 induction A with
 | nil=>
  intro la listed a w hla _ hc hB hD h;obtain rfl:la=[]:=by cases la with|nil=>rfl|cons x xs=>simp at hla
  have h2:=zru (md:=md) (T:=fun t=>R.contains t) (Q:=Q) (lr:=lr) hsel hI (fun b=>rfl) F lf listed a w hlf hpf hc hB (fun i hi=>⟨hF i hi,fun t ht=>hreach t (by simpa using ht) i hi⟩) hD h;have h3:=zrq (Q:=Q) (g:=R.length) (fun listed' a' w' hL=>zmu R lr listed' a' w' hlr hL.1 hL.2) _ _ _ _ h2;rw[List.length_nil,Nat.zero_add,show F.length+(m+R.length)=F.length+m+R.length by omega];exact h3
 | cons i is ih=>
  intro la listed a w hla hp hc hB hD h;cases la with
  | nil=>simp at hla
  | cons o la=>
   simp only[List.map_cons,List.cons.injEq]at hla;simp only[Dv,Cx]at hp;simp only[ziz,Cx]at hB;obtain⟨⟨hr,hf⟩,hB2⟩:=hB;have hr':i∈Region.ready md l.toArray listed:=(by simpa using hr);have hq:qOp P l.toArray (fun _=>True) i (wpQuiet P l.toArray (fun _=>True) (fun a'=>wpQuiet P l.toArray D (fun a'=>seqT P l D Q lr t a' w) lf a') la) a:=(by unfold qOp;simp only[<-hla.1];exact h);obtain⟨v,hy,hK⟩:=yieldsIn_of_qOp hla.1.symm hq;rw[Dk,show is.length+1+F.length+(m+R.length)=(is.length+F.length+(m+R.length))+1 by omega]
   have hy2:Yields P l.toArray o v a:=by
    rcases hy with⟨hw,h1⟩|⟨hw,rfl⟩
    ·exact .inl ⟨hw,fun w=>YieldsD.of_quiet hp.1 h1 w trivial⟩
    exact .inr ⟨hw,rfl⟩
   exact wpAny_first hla.1.symm (Region.noSelect_spec hsel) (fun c a w h=>(hQ c _ w h).elim) _ listed a w (Region.free_spec hla.1.symm hf) hr' hy2 (ih la _ _ w hla.2 hp.2 (hc.set hr') hB2 hD hK)
theorem zrw{i:Nat}{K K':Act->Yw->Prop}{a:Act}{w:Yw}{Q Q':Exit->Act->Yw->Prop}(hK:∀a w,K a w->K' a w)(hQ:∀x a w,Q x a w->Q' x a w)(h:wpOp P ops Q i K a w):wpOp P ops Q' i K' a w:=by
 unfold wpOp at *
 split
 ·rename_i ho;simp only[ho]at h;exact hK _ _ h
 rename_i o ho
 simp only[ho]at h
 split
 ·rename_i hw
  simp only[hw,if_true]at h;rcases h with h|⟨h1,a2,w2,hl⟩
  ·refine .inl ?_;unfold Oper.wp at *;generalize (execOp a.eval o).run P w=r at *;cases r with
   | ok n w'=>
    cases n <;> simp only[Oper.upon]at h ⊢
    case value u=>exact hK _ _ h
    case skip=>exact hK _ _ h
    case defer d=>exact hK _ _ h
    case enter f args=>
     refine Calls.mono h fun e w'' he=>?_
     cases e with
     | returned u=>exact hK _ _ he
     | panicked c=>exact hQ _ _ _ he
     | outgrown=>obtain⟨a3,w3,hl⟩:=he;exact⟨a3,w3,hQ _ _ _ hl⟩
    case row row args=>exact Rows.mono h fun u w'' he=>hK _ _ he
   | halt x w'=>
    cases x <;> simp only[Oper.upon]at h ⊢
    case panic u=>exact hQ _ _ _ h
  exact .inr ⟨h1,a2,w2,hQ _ _ _ hl⟩
 rename_i hw
 simp only[hw]at h;exact hK _ _ h
theorem zmv{Q Q':Exit->Act->Yw->Prop}(hQ:∀x a w,Q x a w->Q' x a w):∀(f:Nat) (listed:Array Bool) (a:Act) (w:Yw),wpAny P md ops Q f listed a w->wpAny P md ops Q' f listed a w:=by
 intro f
 induction f with
 | zero=>intro listed a w h;exact⟨h.1,hQ _ _ _ h.2⟩
 | succ f ih=>intro listed a w h;exact⟨fun h0=>hQ _ _ _ (h.1 h0),fun i hi=>zrw (fun a w h=>ih _ a w h) hQ (h.2 i hi)⟩
def zak (l:List Oper) (is:List Nat):List Oper:=is.filterMap (l[·]?)
theorem zg5{l:List Oper}:∀{is:List Nat},is.all (fun i=>decide (i<l.length))=true->(zak l is).map some=is.map (l.toArray[·]?):=by
 intro is
 induction is with
 | nil=>intro _;rfl
 | cons i is ih=>
  intro h;simp only[Dv,Cx,Dg]at h;have e:l[i]?=some l[i]:=Ak h.1;have e2:zak l (i::is)=l[i]::zak l is:=by simp[zak,e]
  rw[e2,List.map_cons,List.map_cons,ih h.2];congr 1;simp[e]
theorem zrx{id:Nat}{Q:Exit->Act->Yw->Prop}{a:Act}{w:Yw}{l:List Oper}(A F:List Nat)(m:Nat)(t:Tr)(R:List Nat)(hm:P.follows .mixedOrders=true)
 (hB:(zkm .any l.toArray A F m t R&&(A++F++R).all (fun i=>decide (i<l.length))&&(zak l A).all zcc&&(zak l F).all zcc)=true) (hD:D { w with drawn:=w.drawn+1 })
 (h:wpQuiet P l.toArray (fun _=>True) (fun a'=>wpQuiet P l.toArray D (fun a'=>seqT P l D (fun x a w=>x=.normal/\Q .normal a w) (zak l R) t a' { w with drawn:=w.drawn+1 }) (zak l F) a') (zak l A) a) :
 (Code.region id l.toArray true).wp P Q a w:=by
 simp only[Cx,List.all_append]at hB;obtain⟨⟨⟨hP,⟨hA,hF⟩,hBB⟩,hpA⟩,hpF⟩:=hB;simp only[zkm,Cx,Dg]at hP;obtain⟨⟨⟨⟨⟨hsel,hsz⟩,hre⟩,hFn⟩,hI⟩,hgo⟩:=hP;refine wp_region_any hm ?_;have hc:Closed .any l.toArray (Array.replicate l.toArray.size false):=fun j oj _ hl=>(by rw[getD_replicate_false]at hl;cases hl)
 have h2:=zrv (P:=P) (md:=.any) (D:=D) (Q:=fun x a w=>x=.normal/\Q .normal a w) hsel (fun c a w h=>by cases h.1) (F:=F) (R:=R) (m:=m) (zg5 hBB) (zg5 hF) hpF
  (fun t ht i hi=>Ef.1 (Ef.1 hre t ht) i hi) (fun i hi=>by simpa using Ef.1 hFn i hi) hI
  A (zak l A) _ a _ (zg5 hA) hpA hc hgo hD h
 rw[hsz]at h2;exact zmv (fun x a w hx=>by obtain⟨rfl,h⟩:=hx;exact h) _ _ _ _ h2
theorem zec{id:Nat}{Q:Exit->Act->Yw->Prop}{a:Act}{w:Yw}{l:List Oper}(A F:List Nat)(m:Nat)(t:Tr)(R:List Nat)(hm:P.follows .mixedOrders=true)
 (hB:(zkm .any l.toArray A F m t R&&(A++F++R).all (fun i=>decide (i<l.length))&&(zak l A).all zcc&&(zak l F).all zcc)=true)
 (h:wpQuiet P l.toArray (fun _=>True) (fun a'=>wpQuiet P l.toArray (fun w'=>∃p:Regrown,w'=Go.Sort.grow (redrawn w p.d) p.os) (fun a'=>seqT P l (fun w'=>∃p:Regrown,w'=Go.Sort.grow (redrawn w p.d) p.os) (fun x a w=>x=.normal/\Q .normal a w) (zak l R) t a' w.drew) (zak l F) a') (zak l A) a) :
 (Code.region id l.toArray true).wp P Q a w:=
 zrx (D:=fun w'=>∃p:Regrown,w'=Go.Sort.grow (redrawn w p.d) p.os) A F m t R hm hB ⟨⟨w.drawn+1,#[]⟩,by rw[Go.Sort.grow_empty];rfl⟩ h
variable {l:List Oper} {Q:Exit->Act->Yw->Prop} {lr:List Oper} {t t':Tr} {b b':Nat} {o o':Oper} {a:Act} {w:Yw}
theorem za9(h:l[b]?=some o)(k:wpList P l.toArray (fun x a' w'=>x=.normal/\D w'/\seqT P l D Q lr t a' w') [o] a w):seqT P l D Q lr (.one b t) a w:=by
 unfold seqT;rw[h];exact k
theorem zes(h:l[b]?=some o)(h':l[b']?=some o')(k:wpList P l.toArray (fun x a' w'=>x=.normal/\D w'/\seqT P l D Q lr t a' w') [o] a w)
 (k':wpList P l.toArray (fun x a' w'=>x=.normal/\D w'/\seqT P l D Q lr t' a' w') [o'] a w):seqT P l D Q lr (.two b t b' t') a w:=by
 unfold seqT;rw[h,h'];exact⟨k,k'⟩
theorem zb9(k:wpList P l.toArray Q lr a w):seqT P l D Q lr .rest a w:=k
end
end
theorem zf7{w:Yw}{B:Nat}{A:Yo}{n c:Nat}{src:List (List Int)}(hr:RS tS w B (.slice A n c) src)(hb:Hid (∀x∈src,x.length<=1000000000)){k:Nat}(hk:k<n):
 ∃(bb o:Nat) (A1:Yo) (c1:Nat) (x:List Int),A=some ⟨bb,o,none⟩/\bb<B/\Hid (src[k]?=some x)/\w.cell? ⟨bb,o+k,none⟩=some (.slice A1 x.length c1)/\RI w B A1 x.length x/\x.length<=1000000000000:=by
 obtain rfl:src.length=n:=hr.cap.1;have hX:=Ak hk;obtain⟨bb,o,c1,cs,hv,hab,-,hE,hc⟩:=hr.atX hX;simp only[Cz]at hv;obtain⟨rfl,-,rfl⟩:=hv;obtain⟨A1,n1,c2,rfl⟩:=zqq hE;have hR:=tS_R.1 hE;have hcap:=hR.cap;obtain rfl:(src[k]).length=n1:=hcap.1;have h0:w.cell? ⟨bb,o+k*1,none⟩=some (.slice A1 (src[k]).length c2):=hc 0 _ rfl;rw[Nat.mul_one]at h0;exact⟨bb,o,A1,c2,src[k],rfl,hab,Aq hX,h0,hR.ri,by have:=hb.out _ (List.getElem_mem hk);omega⟩
theorem zry(A:Yo)(n c:Nat)(src:List (List Int))(w:Yw)(hx:RS tS w w.heap.size (.slice A n c) src)(hb:Hid (∀x∈src,x.length<=1000000000))(hn:n<=1000000000):
 Calls Tryz.prog 139 #[.slice A n c] w fun e w'=>e=.returned (.bool (src.all M.sig))/\w=w':=by
 have hl:=Aq hx.cap.1
 go_enter Tryz.func139,Tryz.ntmps139
 go_wp2
 go_loop [4,7] (fun _ i=>∃k:Nat,i=.int .i64 k/\k<=n/\Hid (src.all M.sig=(src.drop k).all M.sig)) (fun _ i=>n-(intOf i).toNat)
 case atStart=>exact⟨0,rfl,by omega,Aq (by simp)⟩
 case round=>
  obtain⟨k,rfl,hk,H⟩:=hrel
  by_cases hlt:k<n
  ·obtain⟨bb,o,A1,c1,x,rfl,hbb,X,hc,hri,hxl⟩:=zf7 hx hb hlt;have hd:=Aq (M.drop_at X.out);cases hs:M.sig x
   ·have HS:=Aq hs;clear hs;go_wp2_with fail;refine(zlp _ _ _ _ _ hri hxl).mono ?_;rw[HS.out];rintro e w' ⟨rfl,rfl⟩;go_wp2;go_ret;exact⟨by rw[H.out,hd.out,Dv,HS.out];rfl,rfl⟩
   have HS:=Aq hs;clear hs;go_wp2_with fail;refine(zlp _ _ _ _ _ hri hxl).mono ?_;rw[HS.out];rintro e w' ⟨rfl,rfl⟩;go_wp2;go_round
   case rel=>exact⟨k+1,by go_num,by omega,Aq (by rw[H.out,hd.out,Dv,HS.out,Ew])⟩
   case measure=>simp[intOf];omega
  have h9:=Aq (show src.all M.sig=true by rw[H.out,Ej (by rw[hl.out];omega)];rfl);go_wp2;go_ret;exact⟨zac h9.out.symm,rfl⟩
theorem zgq(A:Yo)(n c:Nat)(src:List (List Int))(w:Yw)(hx:RS tS w w.heap.size (.slice A n c) src)(hb:Hid (∀x∈src,x.length<=1000000000))(hn:n<=1000000000):
 Calls Tryz.prog 82 #[.slice A n c] w fun e w'=>e=.returned (.bool (zdz src))/\w=w':=by
 have hl:=Aq hx.cap.1
 by_cases h:n<=6
 ·go_enter Tryz.func82,Tryz.ntmps82
  go_wp2_with fail;refine(zry _ _ _ _ _ hx hb hn).mono ?_;rintro e w' ⟨rfl,rfl⟩;go_wp2;go_ret;exact⟨zac (by simp[zdz,hl.out,h]),rfl⟩
 go_enter Tryz.func82,Tryz.ntmps82
 go_wp2;go_ret;exact⟨zac (by simp[zdz,hl.out,h]),rfl⟩
theorem zmw(A:Yo)(n c:Nat)(w:Yw):Calls Tryz.prog 88 #[.slice A n c] w fun e w'=>e=.returned (.int .i64 n)/\w=w':=by
 go_enter Tryz.func88,Tryz.ntmps88
 go_wp2;go_ret;exact⟨rfl,rfl⟩
theorem zrz(b:Nat)(m d0 d1 d2 d3 d4:Int)(w:Yw)(g0:w.cell? ⟨b,0,none⟩=some (.int .i64 m)):
 Calls Tryz.prog 144 #[.agg #[.int .i64 d0,.int .i64 d1,.int .i64 d2,.int .i64 d3,.int .i64 d4],.pointer (some ⟨b,0,none⟩)] w fun e w'=>e=.returned (.bool (decide (m<=d0)))/\Below w.heap.size w w':=by
 have hb:b<w.heap.size:=Cj w _ g0;have fin:Below w.heap.size w (w.alloc (.cells #[.int .i64 d0,.int .i64 d1,.int .i64 d2,.int .i64 d3,.int .i64 d4] 165)):=(Aw _ _).alloc (Aj _) _
 go_enter Tryz.func144,Tryz.ntmps144
 go_wp2;go_ret;exact⟨rfl,fin⟩
theorem zr0(bb:Nat)(m:Int)(A:Yo)(n cap:Nat)(xs:List Clip)(w:Yw)(hx:RA cl 5 w w.heap.size A n xs)(hn:n<=1000000000)(hg:w.cell? ⟨bb,0,none⟩=some (.int .i64 m)):
 Calls Tryz.prog 195 #[.slice A n cap,.func (.func 144) #[] #[.pointer (some ⟨bb,0,none⟩)]] w fun e w'=>e=.returned (.int .i64 (zhp (xs.findIdx? fun c=>decide (m<=c.1))))/\Below w.heap.size w w':=by
 have hl:=Aq hx.len;have hbb:bb<w.heap.size:=Cj w _ hg
 go_enter Tryz.func195,Tryz.ntmps195
 go_wp2
 go_loopw [5,8] (fun _ i wr=>∃k:Nat,i=.int .i64 k/\k<=n/\Hid (∀j,j<k->∀y:Clip,xs[j]?=some y->decide (m<=y.1)=false)/\Below w.heap.size w wr) (fun _ i _=>n-(intOf i).toNat)
 case atStart=>exact⟨0,rfl,by omega,Aq (by omega),Aw _ _⟩
 case round=>
  obtain⟨k,rfl,hk,H,hb⟩:=hrel
  by_cases hlt:k<n
  ·obtain⟨b,o,⟨p0,p1,p2,p3,p4⟩,rfl,hab,X,hc⟩:=(hx.below hb).at zde (by decide) hlt;have hc0:wr.cell? ⟨b,o+k*5,none⟩=some (.int .i64 p0):=hc 0 _ rfl;have hc1:wr.cell? ⟨b,o+k*5+1,none⟩=some (.int .i64 p1):=hc 1 _ rfl;have hc2:wr.cell? ⟨b,o+k*5+2,none⟩=some (.int .i64 p2):=hc 2 _ rfl;have hc3:wr.cell? ⟨b,o+k*5+3,none⟩=some (.int .i64 p3):=hc 3 _ rfl;have hc4:wr.cell? ⟨b,o+k*5+4,none⟩=some (.int .i64 p4):=hc 4 _ rfl;clear hc;have hgr:wr.cell? ⟨bb,0,none⟩=some (.int .i64 m):=(by rw[hb.cell (by simpa using hbb)];exact hg);have cP:=Aq (zrz bb m p0 p1 p2 p3 p4 wr hgr);cases hj:decide (m<=p0)
   ·have hj':=Aq hj;clear hj;go_wp2_with (go_at_call 144;refine(cP.out).mono ?_;rw[hj'.out];rintro e w2 ⟨rfl,bel2⟩);go_roundw
    case rel=>exact⟨k+1,by go_num,by omega,Aq (fun j hj y hy=>by rcases Nat.lt_succ_iff_lt_or_eq.1 hj with h|h;exact H.out j h y hy;subst h;rw[X.out]at hy;injection hy with hy;rw[<-hy];exact hj'.out),hb.trans (bel2.mono hb.size)⟩
    case measure=>simp[intOf];omega
   have hf:=Aq (zlw (p:=fun c:Clip=>decide (m<=c.1)) X.out hj H.out);have hj':=Aq hj;clear hj;go_wp2_with (go_at_call 144;refine(cP.out).mono ?_;rw[hj'.out];rintro e w2 ⟨rfl,bel2⟩);go_ret;exact⟨by rw[hf.out];rfl,hb.trans (bel2.mono hb.size)⟩
  have hf:=Aq (zlx (xs:=xs) (p:=fun c:Clip=>decide (m<=c.1)) (fun j hj y hy=>H.out j (by rw[hl.out]at hj;omega) y hy));go_wp2;go_ret;exact⟨by rw[hf.out];rfl,hb⟩
theorem zr1(xs:List Clip)(m:Int):(zhp (xs.findIdx? fun c=>decide (m<=c.1))≥0↔zbq xs m=false):=by
 unfold zbq;cases h:xs.findIdx? fun c=>decide (m<=c.1)with
 | none=>
  rw[List.findIdx?_eq_none_iff]at h;simp only[zhp];constructor
  ·intro h2;omega
  ·intro h2;rw[List.all_eq_false]at h2;obtain⟨x,hx,h3⟩:=h2;have:=h x hx;simp at this h3;omega
 | some i=>
  rw[List.findIdx?_eq_some_iff_getElem]at h;obtain⟨hi,h2,_⟩:=h;simp only[zhp];constructor
  ·intro _;rw[List.all_eq_false];exact⟨_,List.getElem_mem hi,by simp at h2 ⊢;omega⟩
  intro _;omega
theorem zr2(bb:Nat)(m:Int)(A:Yo)(n cap:Nat)(xs:List Clip)(w:Yw)(hx:RA cl 5 w w.heap.size A n xs)(hn:n<=1000000000)(hg:w.cell? ⟨bb,0,none⟩=some (.int .i64 m)):
 Calls Tryz.prog 143 #[.slice A n cap,.func (.func 144) #[] #[.pointer (some ⟨bb,0,none⟩)]] w fun e w'=>e=.returned (.bool (!zbq xs m))/\Below w.heap.size w w':=by
 have hF:=Aq (zr1 xs m);have hI:=Aq (zr0 bb m A n cap xs w hx hn hg);generalize zhp (xs.findIdx? fun c=>decide (m<=c.1))=q at hF hI
 by_cases h:0<=q
 ·have R:=Aq (hF.out.1 h)
  go_enter Tryz.func143,Tryz.ntmps143
  go_wp2_with fail;refine hI.out.mono ?_;rintro e w2 ⟨rfl,bel2⟩;go_wp2;go_ret;exact⟨zac (by rw[R.out];simp),bel2⟩
 have R:=Aq (show zbq xs m=true by
  cases h2:zbq xs m
  ·exact absurd (hF.out.2 h2) h
  rfl)
 go_enter Tryz.func143,Tryz.ntmps143
 go_wp2_with fail;refine hI.out.mono ?_;rintro e w2 ⟨rfl,bel2⟩;go_wp2;go_ret;exact⟨zac (by rw[R.out];simpa using h),bel2⟩
theorem zr3(A:Yo)(n c:Nat)(xs:List Clip)(m:Int)(w:Yw)(hx:RA cl 5 w w.heap.size A n xs)(hn:n<=1000000000):
 Calls Tryz.prog 87 #[.agg #[.slice A n c],.int .i64 m] w fun e w'=>e=.returned (.bool (zbq xs m))/\Below w.heap.size w w':=by
 obtain⟨W,hW⟩:∃W,W=(w.alloc (.cells #[.slice A n c] 98)).alloc (.cells #[.int .i64 m] 2):=⟨_,rfl⟩;have B0:Below w.heap.size w W:=by rw[hW];exact((Aw _ _).alloc (Aj _) _).alloc (by simp) _
 have g0:W.cell? ⟨w.heap.size+1,0,none⟩=some (.int .i64 m):=by rw[hW];simp[go_sem]
 have HW:=Aq hW;clear hW;have hx1:=hx.later B0
 go_enter Tryz.func87,Tryz.ntmps87
 go_wp2_with fail;rw[<-HW.out];refine(zr2 (w.heap.size+1) m _ _ _ _ _ hx1 hn g0).mono ?_;rintro e w2 ⟨rfl,bel2⟩;go_wp2;go_ret;exact⟨zac (by simp),zaa B0 bel2⟩
theorem zi0(w:Yw)(e:TypeId)(xs:List Int)(cur:Array Value)(h:cur.toList=xs.map (.int .i64)):RI (w.alloc (.cells cur e)) (w.heap.size+1) (some ⟨w.heap.size,0,none⟩) xs.length xs:=
 ⟨by simp,fun _=>⟨_,rfl,by simp,fun j u hu=>by
  rw[show (⟨w.heap.size,0,none⟩:Addr).add j=⟨w.heap.size,j,none⟩by simp[Addr.add];omega,cell_of_row _ w.heap.size j cur e (0,0) (Df w _),<-hu,<-h,Array.getElem?_toList]⟩⟩
theorem zg6{P:Program}{f:FuncId}{args:Array Value}{w:Yw}{v:Ending}(h:Calls P f args w fun e w'=>e=v/\w=w'):Calls P f args w fun e w'=>e=v/\Below w.heap.size w w':=
 h.mono fun _ _ ⟨he,hw⟩=>⟨he,hw▸Aw _ _⟩
theorem zr4(a b:Int)(w:Yw):Calls Tryz.prog 247 #[.int .i64 a,.int .i64 b] w fun e w'=>e=.returned (.int .i64 (min a b))/\w=w':=by
 by_cases h:a<b
 all_goals
  go_enter Tryz.func247,Tryz.ntmps247
  go_wp2;go_ret;exact⟨zb1 (by omega),rfl⟩
theorem zr5(a b:Int)(w:Yw):Calls Tryz.prog 212 #[.int .i64 a,.int .i64 b] w fun e w'=>e=.returned (.int .i64 (max a b))/\w=w':=by
 by_cases h:b<a
 all_goals
  go_enter Tryz.func212,Tryz.ntmps212
  go_wp2;go_ret;exact⟨zb1 (by omega),rfl⟩
theorem zfk(A:Yo)(n c:Nat)(xs:List Int)(m:Int)(w:Yw)(hx:RI w w.heap.size A n xs)(hn:n<=1000000000000):
 Calls Tryz.prog 179 #[.slice A n c,.int .i64 m] w fun e w'=>e=.returned (.bool (zam xs m))/\w=w':=by
 go_enter Tryz.func179,Tryz.ntmps179
 go_wp2
 go_loop [5] (fun i=>∃k:Nat,i=.int .i64 k/\k<=n/\Hid (zam xs m=zam (xs.drop k) m)) (fun i=>n-(intOf i).toNat)
 case atStart=>exact⟨0,rfl,by omega,Aq (by simp)⟩
 case round=>
  obtain⟨k,rfl,hk,H⟩:=hrel;have hl:=Aq hx.len
  by_cases hlt:k<n
  ·obtain⟨ad,x,rfl,hab,X,hc⟩:=hx.at hlt;have hd:=Aq (M.drop_at X.out)
   by_cases hs:x=m
   ·have R:=Aq (show zam xs m=true by rw[H.out,hd.out,ziw];simp[hs]);have g:(x == m)=true:=(by simpa using hs);subst hs;go_wp2;go_ret;exact⟨zac (by rw[R.out]),rfl⟩
   have R:=Aq (show zam xs m=zam (xs.drop (k+1)) m by rw[H.out,hd.out,ziw,Dz hs,Bool.false_or]);have g:(x == m)=false:=(by simpa using hs);clear hs;go_wp2;go_round
   case rel=>exact⟨k+1,by go_num,by omega,R⟩
   case measure=>simp[intOf];omega
  have R:=Aq (show zam xs m=false by rw[H.out,Ej (by rw[hl.out];omega)];rfl);go_wp2;go_ret;exact⟨zac (by rw[R.out]),rfl⟩
theorem zr6(k:Int)(w:Yw):Calls Tryz.prog 224 #[.int .i64 k] w fun e w'=>e=.returned (.bool (M.inn k 1 17))/\w=w':=by
 go_enter Tryz.func224,Tryz.ntmps224
 go_wp2_with (go_at_call 67;refine(za0 _ _ _ _).mono ?_;rintro e w' ⟨rfl,rfl⟩);go_ret;exact⟨rfl,rfl⟩
theorem zr7(k:Int):zam [1,2,5,6,10,11,12,13,14,17] k=zd1 k:=by
 rw[Bool.eq_iff_iff];simp only[zam,zd1,List.any_cons,List.any_nil,Bool.or_eq_true,Dg,Bool.false_eq_true,or_false];omega
theorem zi1(k:Int)(w:Yw):Calls Tryz.prog 248 #[.int .i64 k] w fun e w'=>e=.returned (.bool (zd1 k))/\Below w.heap.size w w':=by
 obtain⟨W,hW⟩:∃W,W=w.alloc (.cells #[.int .i64 1,.int .i64 2,.int .i64 5,.int .i64 6,.int .i64 10,.int .i64 11,.int .i64 12,.int .i64 13,.int .i64 14,.int .i64 17] 2):=⟨_,rfl⟩;have B0:Below w.heap.size w W:=by rw[hW];exact(Aw _ _).alloc (Aj _) _
 have hr:RI W W.heap.size (some ⟨w.heap.size,0,none⟩) 10 [1,2,5,6,10,11,12,13,14,17]:=by rw[hW];exact(zi0 w 2 [1,2,5,6,10,11,12,13,14,17] _ rfl).more (by simp)
 have HW:=Aq hW;clear hW
 go_enter Tryz.func248,Tryz.ntmps248
 go_wp2_with fail;rw[<-HW.out];refine(zfk _ _ _ _ _ _ hr (by omega)).mono ?_;rintro e w2 ⟨rfl,rfl⟩;go_wp2;go_ret;exact⟨zac (zr7 k),B0⟩
theorem zhy(k:Int)(w:Yw)(h:0<=k/\k<=17):Calls Tryz.prog 216 #[.int .i64 k] w fun e w'=>e=.returned (.int .i64 (M.ar k.toNat))/\Below w.heap.size w w':=by
 obtain⟨j,rfl⟩:∃j:Nat,k=j:=⟨k.toNat,by omega⟩;obtain⟨W,hW⟩:∃W,W=w.alloc (.cells #[.int .i64 (-1),.int .i64 0,.int .i64 0,.int .i64 2,.int .i64 2,.int .i64 1,.int .i64 1,.int .i64 1,.int .i64 1,.int .i64 2,.int .i64 1,.int .i64 1,.int .i64 1,.int .i64 1,.int .i64 0,.int .i64 3,.int .i64 2,.int .i64 1] 2):=⟨_,rfl⟩;have B0:Below w.heap.size w W:=by rw[hW];exact(Aw _ _).alloc (Aj _) _
 have hr:RI W W.heap.size (some ⟨w.heap.size,0,none⟩) 18 ziv:=by rw[hW];exact(zi0 w 2 ziv _ rfl).more (by simp)
 obtain⟨ad,x,e,-,X,hc⟩:=hr.at (k:=j) (by omega);injection e with e
 subst e;have hR:=Aq (show M.ar j=x by rw[M.ar,List.getD_eq_getElem?_getD,X.out];rfl);have hc2:W.cell? ⟨w.heap.size,j,none⟩=some (.int .i64 x):=by rw[<-hc,show (⟨w.heap.size,0,none⟩:Addr).add j=⟨w.heap.size,j,none⟩by simp[Addr.add];omega]
 rw[hW]at hc2;have hj:j<18:=by omega
 have hj2:(j:Int)<18:=by omega
 clear hc hr X
 go_enter Tryz.func216,Tryz.ntmps216
 go_wp2;go_ret;exact⟨zb1 (by rw[Fq,hR.out]),by rw[<-hW];exact B0⟩
theorem zr8(b o:Nat)(a0 a1 tb:Int)(w:Yw)(p0:w.cell? ⟨b,o,none⟩=some (.int .i64 a0))(p1:w.cell? ⟨b,o+1,none⟩=some (.int .i64 a1))(htb:0<=tb/\tb<=1000000000):
 Calls Tryz.prog 225 #[.pointer (some ⟨b,o,none⟩),.int .i64 tb] w fun e w'=>e=.returned (.bool (M.aS a0 a1 tb))/\Below w.heap.size w w':=by
 by_cases c1:a0=1
 ·have R:=Aq (show M.aS a0 a1 tb=M.inn a1 0 3 by rw[M.aS,if_pos c1]);subst c1
  go_enter Tryz.func225,Tryz.ntmps225
  go_wp2_with (go_at_call 67;refine(za0 _ _ _ _).mono ?_;rintro e w' ⟨rfl,rfl⟩);go_ret;exact⟨zac (by rw[R.out]),Aw _ _⟩
 have g1:(a0 == 1)=false:=by simpa using c1
 by_cases c2:a0=6
 ·have R:=Aq (show M.aS a0 a1 tb=M.inn a1 1 16 by rw[M.aS,if_neg c1,if_pos c2]);subst c2
  go_enter Tryz.func225,Tryz.ntmps225
  go_wp2_with (go_at_call 67;refine(za0 _ _ _ _).mono ?_;rintro e w' ⟨rfl,rfl⟩);go_ret;exact⟨zac (by rw[R.out]),Aw _ _⟩
 have g2:(a0 == 6)=false:=by simpa using c2
 by_cases c3:a0=10
 ·have R:=Aq (show M.aS a0 a1 tb=M.inn a1 0 31 by rw[M.aS,if_neg c1,if_neg c2,if_pos c3]);subst c3
  go_enter Tryz.func225,Tryz.ntmps225
  go_wp2_with (go_at_call 67;refine(za0 _ _ _ _).mono ?_;rintro e w' ⟨rfl,rfl⟩);go_ret;exact⟨zac (by rw[R.out]),Aw _ _⟩
 have g3:(a0 == 10)=false:=by simpa using c3
 by_cases c4:a0=11
 ·have R:=Aq (show M.aS a0 a1 tb=M.inn a1 0 2147483647 by rw[M.aS,if_neg c1,if_neg c2,if_neg c3,if_pos c4]);subst c4
  go_enter Tryz.func225,Tryz.ntmps225
  go_wp2_with (go_at_call 67;refine(za0 _ _ _ _).mono ?_;rintro e w' ⟨rfl,rfl⟩);go_ret;exact⟨zac (by rw[R.out]),Aw _ _⟩
 have g4:(a0 == 11)=false:=by simpa using c4
 by_cases c5:a0=13
 ·have R:=Aq (show M.aS a0 a1 tb=M.inn a1 0 (min (max tb 0) 4-1)by rw[M.aS,if_neg c1,if_neg c2,if_neg c3,if_neg c4,if_pos c5]);have hm1:=fun m=>zbo (zr5 tb 0 (w.drewN m))
  have hm2:=fun m=>zbo (zr4 (max tb 0) 4 (w.drewN m))
  have hs:IntKind.i64.wrap (min (max tb 0) 4-1)=min (max tb 0) 4-1:=IntWalk.i64_in _ (by omega);have hm3:=fun m=>zbo (za0 a1 0 (min (max tb 0) 4-1) (w.drewN m))
  obtain⟨q,hq⟩:∃q,q=max tb 0:=⟨_,rfl⟩;rw[<-hq]at hm1 hm2 hm3 hs R;obtain⟨r,hr⟩:∃r,r=min q 4:=⟨_,rfl⟩;rw[<-hr]at hm2 hm3 hs R;clear hq hr g1 g2 g3 g4 c1 c2 c3 c4;subst c5
  go_enter Tryz.func225,Tryz.ntmps225
  go_wp2
  go_quiet (first|exact hm1 _|exact hm2 _|exact hm3 _)
  go_wp2;go_ret;exact⟨zac (by rw[R.out]),zad (Aw _ _) _⟩
 have g5:(a0 == 13)=false:=by simpa using c5
 have lb:b<w.heap.size:=Cj w _ p0;cases hh:zd1 a0
 ·have R:=Aq (show M.aS a0 a1 tb=decide (a1=0)by rw[M.aS,if_neg c1,if_neg c2,if_neg c3,if_neg c4,if_neg c5,hh];rfl);have HH:=Aq hh;clear c1 c2 c3 c4 c5 hh
  go_enter Tryz.func225,Tryz.ntmps225
  go_wp2_with (go_at_call 248;refine(zi1 _ _).mono ?_;rw[HH.out];rintro e w2 ⟨rfl,bel2⟩;have q1:w2.cell? ⟨b,o+1,none⟩=some (.int .i64 a1):=(by rw[bel2.cell lb];exact p1));go_ret;exact⟨zac (by rw[R.out,Bool.eq_iff_iff];simp),bel2⟩
 have R:=Aq (show M.aS a0 a1 tb=M.smp a1 by rw[M.aS,if_neg c1,if_neg c2,if_neg c3,if_neg c4,if_neg c5,hh];rfl);have HH:=Aq hh;clear c1 c2 c3 c4 c5 hh
 go_enter Tryz.func225,Tryz.ntmps225
 go_wp2_with (first|(go_at_call 248;refine(zi1 _ _).mono ?_;rw[HH.out];rintro e w2 ⟨rfl,bel2⟩;have q1:w2.cell? ⟨b,o+1,none⟩=some (.int .i64 a1):=(by rw[bel2.cell lb];exact p1))|(go_at_call 128;refine(zej _ _).mono ?_;rintro e w' ⟨rfl,rfl⟩));go_ret;exact⟨zac (by rw[R.out]),bel2⟩
theorem zhz(A A':Yo)(n c n' c':Nat)(xs ys:List Int)(w:Yw)(hx:RI w w.heap.size A n xs)(hy:RI w w.heap.size A' n' ys)(hn:n<=1000000000):
 Calls Tryz.prog 148 #[.slice A n c,.slice A' n' c'] w fun e w'=>e=.returned (.bool (decide (xs=ys)))/\Below w.heap.size w w':=by
 have hl:=Aq hx.len;have hl':=Aq hy.len
 by_cases hnn:n=n'
 ·subst hnn
  go_enter Tryz.func148,Tryz.ntmps148
  go_wp2
  go_loop [5,6,14] (fun _ _ i=>∃k:Nat,i=.int .i64 k/\k<=n/\Hid (xs.take k=ys.take k)) (fun _ _ i=>n-(intOf i).toNat)
  case atStart=>exact⟨0,rfl,by omega,Aq (by simp)⟩
  case round=>
   obtain⟨k,rfl,hk,H⟩:=hrel
   by_cases hlt:k<n
   ·obtain⟨ad,x,rfl,hab,X,hc⟩:=hx.at hlt;obtain⟨ad',y,rfl,hab',Y,hc'⟩:=hy.at hlt
    by_cases hxy:x=y
    ·subst hxy;go_wp2;go_round
     case rel=>exact⟨k+1,by go_num,by omega,Aq (by rw[M.take_at X.out,M.take_at Y.out,H.out])⟩
     case measure=>simp[intOf];omega
    have hne:(x != y)=true:=(by simpa using hxy);have hno:=Aq (show ¬xs=ys from fun e=>by have h1:=X.out;rw[e,Y.out]at h1;injection h1 with h1;exact hxy h1.symm);go_wp2;go_ret;exact⟨zac (by simp[hno.out]),Aw _ _⟩
   go_wp2;go_ret;have h1:xs=ys:=(by have:=H.out;rwa [Cg (by rw[hl.out];omega),Cg (by rw[hl'.out];omega)]at this);exact⟨zac (by simp[h1]),Aw _ _⟩
 have hne:=Aq (show ¬xs=ys from fun e=>hnn (by rw[<-hl.out,<-hl'.out,e]))
 go_enter Tryz.func148,Tryz.ntmps148
 go_wp2;go_ret;exact⟨zac (by simp[hne.out]),Aw _ _⟩
theorem zgr(A A':Yo)(n c n' c':Nat)(xs ys:List Int)(w:Yw)(hx:RI w w.heap.size A n xs)(hy:RI w w.heap.size A' n' ys)(hn:n<=1000000000):
 Calls Tryz.prog 60 #[.slice A n c,.slice A' n' c'] w fun e w'=>e=.returned (.bool (decide (xs=ys)))/\Below w.heap.size w w':=by
 have hl:=Aq hx.len;have hl':=Aq hy.len
 by_cases hnn:n=n'
 ·subst hnn
  go_enter Tryz.func60,Tryz.ntmps60
  go_wp2
  go_loopw [5] (fun i wr=>∃k:Nat,i=.int .i64 k/\k<=n/\Hid (xs.take k=ys.take k)/\Below w.heap.size w wr) (fun i _=>n-(intOf i).toNat)
  case atStart=>exact⟨0,rfl,by omega,Aq (by simp),Aw _ _⟩
  case round=>
   obtain⟨k,rfl,hk,H,hb⟩:=hrel
   by_cases hlt:k<n
   ·obtain⟨ad,x,rfl,hab,X,hc⟩:=(hx.below hb).at hlt;obtain⟨ad',y,rfl,hab',Y,hc'⟩:=(hy.below hb).at hlt
    by_cases hxy:x=y
    ·subst hxy;go_wp2
     go_quiet (fail)
     go_wp2;go_roundw
     case rel=>exact⟨k+1,by go_num,by omega,Aq (by rw[M.take_at X.out,M.take_at Y.out,H.out]),zad hb _⟩
     case measure=>simp[intOf];omega
    have hne:(x == y)=false:=(by simpa using hxy);have hno:=Aq (show ¬xs=ys from fun e=>by have h1:=X.out;rw[e,Y.out]at h1;injection h1 with h1;exact hxy h1.symm);go_wp2
    go_quiet (fail)
    go_wp2;go_ret;exact⟨zac (by simp[hno.out]),zad hb _⟩
   go_wp2;go_ret;have h1:xs=ys:=(by have:=H.out;rwa [Cg (by rw[hl.out];omega),Cg (by rw[hl'.out];omega)]at this);exact⟨zac (by simp[h1]),hb⟩
 have hne:=Aq (show ¬xs=ys from fun e=>hnn (by rw[<-hl.out,<-hl'.out,e]))
 go_enter Tryz.func60,Tryz.ntmps60
 go_wp2;go_ret;exact⟨zac (by simp[hne.out]),Aw _ _⟩
theorem zmx(A A':Yo)(n c n' c':Nat)(xs ys:List (List Int))(w:Yw)(hx:tSS.R w w.heap.size [.slice A n c] xs)(hy:tSS.R w w.heap.size [.slice A' n' c'] ys)(hn:hSS.sz xs<=100000000):
 Calls Tryz.prog 147 #[.slice A n c,.slice A' n' c'] w fun e w'=>e=.returned (.bool (decide (xs=ys)))/\Below w.heap.size w w':=by
 have rx:=sl_R.1 hx;have ry:=sl_R.1 hy;have hl:=Aq rx.cap.1;have hl':=Aq ry.cap.1;have hm1:=Aq (show xs.length+hS.szL xs<=100000000 from hn);have hnb:n<=1000000000:=by have:=hm1.out;have:=hl.out;omega
 clear hn hx hy
 by_cases hnn:n=n'
 ·subst hnn
  go_enter Tryz.func147,Tryz.ntmps147
  go_wp2
  go_loopw [5,6,14] (fun _ _ i wr=>∃k:Nat,i=.int .i64 k/\k<=n/\Hid (xs.take k=ys.take k)/\Below w.heap.size w wr) (fun _ _ i _=>n-(intOf i).toNat)
  case atStart=>exact⟨0,rfl,by omega,Aq (by simp),Aw _ _⟩
  case round=>
   obtain⟨k,rfl,hk,H,hb⟩:=hrel
   by_cases hlt:k<n
   ·have hX:=Aq (Ak (l:=xs) (i:=k) (by rw[hl.out];exact hlt));have hY:=Aq (Ak (l:=ys) (i:=k) (by rw[hl'.out];exact hlt));obtain⟨b,o1,cc,cs,hv,hab,-,hE,hcc⟩:=(rx.below hb).atX hX.out;obtain⟨b',o2,cc',cs',hv',hab',-,hE',hdd⟩:=(ry.below hb).atX hY.out;simp only[Cz]at hv hv';obtain⟨rfl,-,rfl⟩:=hv;obtain⟨rfl,-,rfl⟩:=hv';have hU:=hS.szL_at hX.out;generalize xs[k]'(by rw[hl.out];exact hlt)=x at hX hE hU;generalize ys[k]'(by rw[hl'.out];exact hlt)=y at hY hE';obtain⟨A1,n1,c1,rfl⟩:=zbv hE;obtain⟨A2,n2,c2,rfl⟩:=zbv hE';have e0:wr.cell? ⟨b,o1+k*1,none⟩=some (.slice A1 n1 c1):=hcc 0 _ rfl;have f0:wr.cell? ⟨b',o2+k*1,none⟩=some (.slice A2 n2 c2):=hdd 0 _ rfl;rw[Nat.mul_one]at e0 f0;have hF:=(tS_R.1 (tS.more hb.size hE)).ri;have hF':=(tS_R.1 (tS.more hb.size hE')).ri;have n1b:n1<=1000000000:=(by have:=zcu hE;have:=hm1.out;rw[zb3]at hU;omega);clear hcc hdd hU hE hE'
    by_cases hp:x=y
    ·have HD:=Aq (Dx hp);have HP:=Aq hp;clear hp;go_wp2_with (go_at_call 148;refine(zhz _ _ _ _ _ _ _ _ _ hF hF' n1b).mono ?_;rw[HD.out];rintro e w2 ⟨rfl,bel2⟩);go_roundw
     case rel=>exact⟨k+1,by go_num,by omega,Aq (by rw[M.take_at hX.out,M.take_at hY.out,H.out,HP.out]),zaa hb bel2⟩
     case measure=>simp[intOf];omega
    have HD:=Aq (Dz hp)
    have R:=Aq (show decide (xs=ys)=false by
     rw[Fy];intro e;have h1:=hX.out;rw[e,hY.out]at h1;injection h1 with h1
     exact hp h1.symm)
    clear hp;go_wp2_with (go_at_call 148;refine(zhz _ _ _ _ _ _ _ _ _ hF hF' n1b).mono ?_;rw[HD.out];rintro e w2 ⟨rfl,bel2⟩);go_ret;exact⟨zac (by rw[R.out]),zaa hb bel2⟩
   go_wp2;go_ret;have h1:xs=ys:=(by have:=H.out;rwa [Cg (by rw[hl.out];omega),Cg (by rw[hl'.out];omega)]at this);exact⟨zac (by simp[h1]),hb⟩
 have hne:=Aq (show ¬xs=ys from fun e=>hnn (by rw[<-hl.out,<-hl'.out,e]))
 go_enter Tryz.func147,Tryz.ntmps147
 go_wp2;go_ret;exact⟨zac (by simp[hne.out]),Aw _ _⟩
theorem zr9(A A':Yo)(n c n' c':Nat)(xs ys:List Clip)(w:Yw)(hx:RA cl 5 w w.heap.size A n xs)(hy:RA cl 5 w w.heap.size A' n' ys)(hn:n<=1000000000)(hn':n'<=1000000000):
 Calls Tryz.prog 62 #[.agg #[.slice A n c],.agg #[.slice A' n' c']] w fun e w'=>e=.returned (.bool (decide (xs=ys)))/\Below w.heap.size w w':=by
 have hl:=hx.len;have hl':=hy.len;have HL:=Aq hl;have HL':=Aq hl';obtain⟨W,hW⟩:∃W,W=(w.alloc (.cells #[.slice A n c] 98)).alloc (.cells #[.slice A' n' c'] 98):=⟨_,rfl⟩;have B0:Below w.heap.size w W:=by rw[hW];exact((Aw _ _).alloc (Aj _) _).alloc (by simp) _
 have s0:W.cell? ⟨w.heap.size,0,none⟩=some (.slice A n c):=by rw[hW];simp[go_sem]
 have s1:W.cell? ⟨w.heap.size+1,0,none⟩=some (.slice A' n' c'):=by rw[hW];simp[go_sem]
 have lx:w.heap.size+1<W.heap.size:=by rw[hW];simp
 have HW:=Aq hW;clear hW hl hl'
 by_cases hlen:n=n'
 ·subst hlen
  go_enter Tryz.func62,Tryz.ntmps62
  go_wp2;rw[<-HW.out]
  go_loopw [5] (fun i wr=>∃k:Nat,i=.int .i64 k/\k<=n/\Hid (xs.take k=ys.take k)/\Below W.heap.size W wr) (fun i _=>n-(intOf i).toNat)
  case atStart=>exact⟨0,rfl,by omega,Aq (by simp),Aw _ _⟩
  case round=>
   obtain⟨k,rfl,hk,HE,Bw⟩:=hrel;have BW:=zaa B0 Bw;have t0:wr.cell? ⟨w.heap.size,0,none⟩=some (.slice A n c):=(by rw[Bw.cell (show (⟨w.heap.size,0,none⟩:Addr).block<_ by show w.heap.size<W.heap.size;omega)];exact s0);have t1:wr.cell? ⟨w.heap.size+1,0,none⟩=some (.slice A' n c'):=by rw[Bw.cell (show (⟨w.heap.size+1,0,none⟩:Addr).block<_ from lx)];exact s1
   by_cases hlt:k<n
   ·obtain⟨b,o,⟨p0,p1,p2,p3,p4⟩,rfl,hab,X,hc⟩:=(hx.below BW).at zde (by decide) hlt;obtain⟨b',o',⟨q0,q1,q2,q3,q4⟩,rfl,hab',Y,hd⟩:=(hy.below BW).at zde (by decide) hlt;have f0:wr.cell? ⟨b,o+k*5,none⟩=some (.int .i64 p0):=hc 0 _ rfl;have g0:wr.cell? ⟨b',o'+k*5,none⟩=some (.int .i64 q0):=hd 0 _ rfl;have f1:wr.cell? ⟨b,o+k*5+1,none⟩=some (.int .i64 p1):=hc 1 _ rfl;have g1:wr.cell? ⟨b',o'+k*5+1,none⟩=some (.int .i64 q1):=hd 1 _ rfl;have f2:wr.cell? ⟨b,o+k*5+2,none⟩=some (.int .i64 p2):=hc 2 _ rfl;have g2:wr.cell? ⟨b',o'+k*5+2,none⟩=some (.int .i64 q2):=hd 2 _ rfl;have f3:wr.cell? ⟨b,o+k*5+3,none⟩=some (.int .i64 p3):=hc 3 _ rfl;have g3:wr.cell? ⟨b',o'+k*5+3,none⟩=some (.int .i64 q3):=hd 3 _ rfl;have f4:wr.cell? ⟨b,o+k*5+4,none⟩=some (.int .i64 p4):=hc 4 _ rfl;have g4:wr.cell? ⟨b',o'+k*5+4,none⟩=some (.int .i64 q4):=hd 4 _ rfl;have hkn:(k:Int)<(n:Int):=(by omega);clear hc hd
    by_cases he:p0=q0/\p1=q1/\p2=q2/\p3=q3/\p4=q4
    ·obtain⟨rfl,rfl,rfl,rfl,rfl⟩:=he;go_wp2;refine wp_region_still_lit (by kernel_rfl) (by kernel_rfl) ?_
     iterate 11 still_step
     refine wpStill_nil ?_;go_wp2;go_roundw
     case rel=>exact⟨k+1,by go_num,by omega,Aq (by rw[M.take_at X.out,M.take_at Y.out,HE.out]),Bw.drew⟩
     case measure=>simp[intOf];omega
    have hne:=Aq (show decide (xs=ys)=false by
     simp only[Fy];intro h;subst h;have:=X.out.symm.trans Y.out;simp only[Dq,Prod.mk.injEq]at this;exact he this)
    by_cases h0:¬p0=q0
    ·clear he;go_wp2;refine wp_region_still_lit (by kernel_rfl) (by kernel_rfl) ?_
     iterate 11 still_step
     refine wpStill_nil ?_;go_wp2;go_ret;exact⟨zac hne.out.symm,zaa B0 Bw.drew⟩
    replace h0:p0=q0:=Dy.1 h0
    by_cases h1:¬p1=q1
    ·clear he;go_wp2;refine wp_region_still_lit (by kernel_rfl) (by kernel_rfl) ?_
     iterate 11 still_step
     refine wpStill_nil ?_;go_wp2;go_ret;exact⟨zac hne.out.symm,zaa B0 Bw.drew⟩
    replace h1:p1=q1:=Dy.1 h1
    by_cases h2:¬p2=q2
    ·clear he;go_wp2;refine wp_region_still_lit (by kernel_rfl) (by kernel_rfl) ?_
     iterate 11 still_step
     refine wpStill_nil ?_;go_wp2;go_ret;exact⟨zac hne.out.symm,zaa B0 Bw.drew⟩
    replace h2:p2=q2:=Dy.1 h2
    by_cases h3:¬p3=q3
    ·clear he;go_wp2;refine wp_region_still_lit (by kernel_rfl) (by kernel_rfl) ?_
     iterate 11 still_step
     refine wpStill_nil ?_;go_wp2;go_ret;exact⟨zac hne.out.symm,zaa B0 Bw.drew⟩
    replace h3:p3=q3:=Dy.1 h3;have h4:¬p4=q4:=fun h=>he ⟨h0,h1,h2,h3,h⟩
    clear he;go_wp2;refine wp_region_still_lit (by kernel_rfl) (by kernel_rfl) ?_
    iterate 11 still_step
    refine wpStill_nil ?_;go_wp2;go_ret;exact⟨zac hne.out.symm,zaa B0 Bw.drew⟩
   go_wp2;go_ret;have h1:xs=ys:=(by have:=HE.out;rwa [Cg (by rw[HL.out];omega),Cg (by rw[HL'.out];omega)]at this);exact⟨zac (by simp[h1]),BW⟩
 have hne:=Aq (show ¬xs=ys from fun e=>hlen (by rw[<-HL.out,<-HL'.out,e]));have hne2:((n:Int) != (n':Int))=true:=by simp;omega
 go_enter Tryz.func62,Tryz.ntmps62
 go_wp2;rw[<-HW.out];go_ret;exact⟨zac (by simp[hne.out]),B0⟩
theorem zg7{a0 a1 a2 b0 b1 b2:Int}{xs ys:List Int}(h:¬(a0=b0/\a1=b1/\a2=b2)):decide (((a0,a1,a2,xs):Node)=(b0,b1,b2,ys))=false:=by
 rw[Fy];intro e;simp only[Prod.mk.injEq]at e;exact h ⟨e.1,e.2.1,e.2.2.1⟩
theorem zmy(a0 a1 a2:Int)(xs ys:List Int):decide (((a0,a1,a2,xs):Node)=(a0,a1,a2,ys))=decide (xs=ys):=by
 simp
theorem zmz(a0 a1 a2 b0 b1 b2:Int)(A A':Yo)(n c n' c':Nat)(xs ys:List Int)(w:Yw)(hx:RI w w.heap.size A n xs)(hy:RI w w.heap.size A' n' ys)(hn:n<=1000000000):
 Calls Tryz.prog 149 #[.agg #[.int .i64 a0,.int .i64 a1,.int .i64 a2,.slice A n c],.agg #[.int .i64 b0,.int .i64 b1,.int .i64 b2,.slice A' n' c']] w fun e w'=>e=.returned (.bool (decide (((a0,a1,a2,xs):Node)=(b0,b1,b2,ys))))/\Below w.heap.size w w':=by
 obtain⟨W,hW⟩:∃W,W=(w.alloc (.cells #[.int .i64 a0,.int .i64 a1,.int .i64 a2,.slice A n c] 169)).alloc (.cells #[.int .i64 b0,.int .i64 b1,.int .i64 b2,.slice A' n' c'] 169):=⟨_,rfl⟩;have B0:Below w.heap.size w W:=by rw[hW];exact((Aw _ _).alloc (Aj _) _).alloc (by simp) _
 have rx:=hx.later B0;have ry:=hy.later B0;have HW:=Aq hW;clear hW
 by_cases h0:¬a0=b0
 ·have g0:(a0 == b0)=false:=by simpa using h0
  have R:=Aq (zg7 (xs:=xs) (ys:=ys) (a0:=a0) (a1:=a1) (a2:=a2) (b0:=b0) (b1:=b1) (b2:=b2) (fun e=>h0 e.1))
  go_enter Tryz.func149,Tryz.ntmps149
  go_wp2_with fail
  try rw[<-HW.out]
  go_ret;exact⟨zac (by rw[R.out]),B0⟩
 replace h0:a0=b0:=Dy.1 h0;subst h0
 by_cases h1:¬a1=b1
 ·have g1:(a1 == b1)=false:=by simpa using h1
  have R:=Aq (zg7 (xs:=xs) (ys:=ys) (a0:=a0) (a1:=a1) (a2:=a2) (b0:=a0) (b1:=b1) (b2:=b2) (fun e=>h1 e.2.1))
  go_enter Tryz.func149,Tryz.ntmps149
  go_wp2_with fail
  try rw[<-HW.out]
  go_ret;exact⟨zac (by rw[R.out]),B0⟩
 replace h1:a1=b1:=Dy.1 h1;subst h1
 by_cases h2:¬a2=b2
 ·have g2:(a2 == b2)=false:=by simpa using h2
  have R:=Aq (zg7 (xs:=xs) (ys:=ys) (a0:=a0) (a1:=a1) (a2:=a2) (b0:=a0) (b1:=a1) (b2:=b2) (fun e=>h2 e.2.2))
  go_enter Tryz.func149,Tryz.ntmps149
  go_wp2_with fail
  try rw[<-HW.out]
  go_ret;exact⟨zac (by rw[R.out]),B0⟩
 replace h2:a2=b2:=Dy.1 h2;subst h2;rw[zmy]
 go_enter Tryz.func149,Tryz.ntmps149
 go_wp2_with fail;rw[<-HW.out];refine(zhz _ _ _ _ _ _ _ _ _ rx ry hn).mono ?_;rintro e w2 ⟨rfl,bel2⟩;go_wp2;go_ret;exact⟨rfl,zaa B0 bel2⟩
theorem zsa(g o g' o':Nat)(a0 a1 a2 b0 b1 b2:Int)(A A':Yo)(n c n' c':Nat)(xs ys:List Int)(w:Yw)(p0:w.cell? ⟨g,o,none⟩=some (.int .i64 a0))(q0:w.cell? ⟨g',o',none⟩=some (.int .i64 b0))(p1:w.cell? ⟨g,o+1,none⟩=some (.int .i64 a1))(q1:w.cell? ⟨g',o'+1,none⟩=some (.int .i64 b1))(p2:w.cell? ⟨g,o+2,none⟩=some (.int .i64 a2))(q2:w.cell? ⟨g',o'+2,none⟩=some (.int .i64 b2))(p3:w.cell? ⟨g,o+3,none⟩=some (.slice A n c))(q3:w.cell? ⟨g',o'+3,none⟩=some (.slice A' n' c'))(hx:RI w w.heap.size A n xs)(hy:RI w w.heap.size A' n' ys)(hn:n<=1000000000):
 Calls Tryz.prog 123 #[.pointer (some ⟨g,o,none⟩),.pointer (some ⟨g',o',none⟩)] w fun e w'=>e=.returned (.bool (decide (((a0,a1,a2,xs):Node)=(b0,b1,b2,ys))))/\Below w.heap.size w w':=by
 have lx:g<w.heap.size:=Cj w _ p0;have ly:g'<w.heap.size:=Cj w _ q0
 by_cases h0:¬a0=b0
 ·have g0:(a0 == b0)=false:=by simpa using h0
  have R:=Aq (zg7 (xs:=xs) (ys:=ys) (a0:=a0) (a1:=a1) (a2:=a2) (b0:=b0) (b1:=b1) (b2:=b2) (fun e=>h0 e.1))
  go_enter Tryz.func123,Tryz.ntmps123
  go_wp2_with fail
  go_quiet (fail)
  go_wp2_with fail;go_ret;exact⟨zac (by rw[R.out]),zad (Aw _ _) _⟩
 replace h0:a0=b0:=Dy.1 h0;subst h0
 by_cases h1:¬a1=b1
 ·have g1:(a1 == b1)=false:=by simpa using h1
  have R:=Aq (zg7 (xs:=xs) (ys:=ys) (a0:=a0) (a1:=a1) (a2:=a2) (b0:=a0) (b1:=b1) (b2:=b2) (fun e=>h1 e.2.1))
  go_enter Tryz.func123,Tryz.ntmps123
  go_wp2_with fail
  go_quiet (fail)
  go_wp2_with fail;go_ret;exact⟨zac (by rw[R.out]),zad (Aw _ _) _⟩
 replace h1:a1=b1:=Dy.1 h1;subst h1
 by_cases h2:¬a2=b2
 ·have g2:(a2 == b2)=false:=by simpa using h2
  have R:=Aq (zg7 (xs:=xs) (ys:=ys) (a0:=a0) (a1:=a1) (a2:=a2) (b0:=a0) (b1:=a1) (b2:=b2) (fun e=>h2 e.2.2))
  go_enter Tryz.func123,Tryz.ntmps123
  go_wp2_with fail
  go_quiet (fail)
  go_wp2_with fail;go_ret;exact⟨zac (by rw[R.out]),zad (Aw _ _) _⟩
 replace h2:a2=b2:=Dy.1 h2;subst h2;rw[zmy];have cP:∀d os,Calls Tryz.prog 60 #[.slice A n c,.slice A' n' c'] (grow (redrawn w d) os) fun e w''=>e=.returned (.bool (decide (xs=ys)))/\∃p:Regrown,w''=grow (redrawn w p.d) p.os:=fun d os=>Fw (zgr _ _ _ _ _ _ _ _ _ (hx.later (Cf w d os)) (hy.later (Cf w d os)) hn)
 have pp0:=Ag p0;have qq0:=Ag q0;have pp1:=Ag p1;have qq1:=Ag q1;have pp2:=Ag p2;have qq2:=Ag q2;have pp3:=Ag p3;have qq3:=Ag q3;clear p0 p1 p2 p3 q0 q1 q2 q3
 go_enter Tryz.func123,Tryz.ntmps123
 go_wp2_with fail
 (refine Ck (by kernel_rfl) (by kernel_rfl) ?_;(repeat (go_big_quiet_step (exact cP _ _)));refine Cv ?_;intro _ hw';obtain⟨⟨dq,osq⟩,hw''⟩:=hw';subst hw'')
 go_wp2;go_ret;exact⟨rfl,Cf w dq osq⟩
end Go.Proofs.YtifeldeikhmckaaGreat
