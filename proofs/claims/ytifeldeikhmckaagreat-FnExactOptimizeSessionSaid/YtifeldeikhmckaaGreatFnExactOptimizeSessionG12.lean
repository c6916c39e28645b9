import Derived.Test.YtifeldeikhmckaaGreatFnExactOptimizeSessionG5
import Derived.Test.YtifeldeikhmckaaGreatFnExactOptimizeSessionG8
import Derived.Test.YtifeldeikhmckaaGreatFnExactOptimizeSessionG11
set_option linter.unusedVariables false
set_option linter.unusedSimpArgs false
set_option maxRecDepth 100000
set_option maxHeartbeats 4000000
namespace Go.Proofs.YtifeldeikhmckaaGreat
open Go.RowKit Go.Sort
set_option synthInstance.maxSize 2000
set_option synthInstance.maxHeartbeats 400000
abbrev KD:=Int×Int×Int×Bool×Bool
def zfa:List KD:=[(0,0,3,true,false),(0,-2147483648,2147483647,false,false),(2,1,0,true,false),(2,1,0,true,false),(1,-2147483648,2147483647,true,false),(1,1,16,true,false),(1,1,0,true,false),(1,1,0,true,false),(2,1,0,false,false),(1,0,31,false,false),(1,0,2147483647,false,false),(1,-2147483648,2147483647,false,false),(1,0,3,false,false),(0,-2147483648,2147483647,false,false),(3,1,0,false,false),(2,1,0,false,false),(1,-2147483648,2147483647,true,true)]
def M.kd (j:Nat):KD:=zfa.getD j (0,0,0,false,false)
def M.aI (k:KD) (a:Int):Bool:=if k.2.1<=k.2.2.1 then M.inn a k.2.1 k.2.2.1 else decide (a=0)
def M.bI (k:KD) (b:Int):Bool:=if k.2.2.2.2 then M.inn b 1 16 else decide (b=0)
def zax (f:Int):Bool:=M.inn f 0 23
def zaj (x:Node) (tb:Int):Bool:=
 M.inn x.1 1 17&&(M.aI (M.kd (x.1.toNat-1)) x.2.1&&M.bI (M.kd (x.1.toNat-1)) x.2.2.1&&x.2.2.2.all zax&&decide ((x.2.2.2.length:Int)=(M.kd (x.1.toNat-1)).1)&&(decide (¬x.1=13)||decide (x.2.1<tb)))
def zdy (k:Int):Bool:=decide (k=1)||decide (k=2)||decide (k=5)||decide (k=6)||decide (k=10)||decide (k=11)||decide (k=12)||decide (k=13)||decide (k=14)||decide (k=17)
def M.aS (k a tb:Int):Bool:=
 if k=1 then M.inn a 0 3 else if k=6 then M.inn a 1 16 else if k=10 then M.inn a 0 31 else if k=11 then M.inn a 0 2147483647 else if k=13 then M.inn a 0 (min (max tb 0) 4-1)else if zdy k then M.smp a else decide (a=0)
def zhe:List Int:=[-1,0,0,2,2,1,1,1,1,2,1,1,1,1,0,3,2,1]
def M.ar (k:Nat):Int:=zhe.getD k 0
def zdb (x:Node) (tb:Int):Bool:=
 M.inn x.1 1 17&&(M.aS x.1 x.2.1 tb&&decide ((x.2.2.2.length:Int)=M.ar x.1.toNat)&&x.2.2.2.all zax&&(if x.1=17 then M.inn x.2.2.1 1 16 else decide (x.2.2.1=0)))
def zir (k:Int):Bool:=M.inn k 1 17&&(M.kd (k.toNat-1)).2.2.2.1
theorem zgk{k:Int}(h:M.inn k 1 17=true):k=1\/k=2\/k=3\/k=4\/k=5\/k=6\/k=7\/k=8\/k=9\/k=10\/k=11\/k=12\/k=13\/k=14\/k=15\/k=16\/k=17:=by
 have:=zbf.1 h;omega
theorem zk0(x:Node)(tb:Int):zdb x tb=zaj x tb:=by
 obtain⟨k,a,b,l⟩:=x;cases h:M.inn k 1 17
 ·rw[zdb,zaj,h,Bool.false_and,Bool.false_and]
 rw[zdb,zaj];simp only[h,Bool.true_and];have key:∀A B C D E F:Bool,A=(F&&E)->(A&&C&&B&&D)=(F&&D&&B&&C&&E):=by decide
 rcases zgk h with rfl|rfl|rfl|rfl|rfl|rfl|rfl|rfl|rfl|rfl|rfl|rfl|rfl|rfl|rfl|rfl|rfl
 all_goals
  refine key _ _ _ _ _ _ ?_;rw[Bool.eq_iff_iff];simp[M.aS,M.aI,M.kd,zfa,zdy,M.smp,M.inn,List.getD]
  try omega
def zcv (t:List Int):Bool:=(decide (t.length=2)||decide (t.length=4)||decide (t.length=8)||decide (t.length=16))&&t.all M.smp
def zbt (ts:List (List Int)):Bool:=ts.all zcv&&decide (ts.length<=4)
theorem zqy(t:List Int):(decide (t.length=2)||decide (t.length=4)||decide (t.length=8)||decide (t.length=16))=true->M.sig t=t.all M.smp:=by
 intro h;rw[M.sig,show decide (t.length<=4000)=true by simp at h ⊢;omega,Bool.true_and]
def zbh (n:Int) (f:Int):Bool:=M.inn f 0 (n-1)
def zbm (tb n inp:Int) (x:Node):Bool:=zaj x tb&&x.2.2.2.all (zbh n)&&!(decide (x.1=1)&&decide (inp<=x.2.1))
def za6 (p:zad):Bool:=
 M.inn p.1 0 4&&zbt p.2.1&&decide (p.2.2.1.length<=24)&&decide (p.2.2.2.length<=4)&&p.2.2.2.all (zbh p.2.2.1.length)&&p.2.2.1.all (zbm p.2.1.length p.2.2.1.length p.1)
def zau (x:Node):List Int:=if x.1=6 then[]else x.2.2.2
def zai (xs:List Int) (m:Int):Bool:=xs.any fun x=>decide (x=m)
theorem zhf(x m:Int)(xs:List Int):zai (x::xs) m=(decide (x=m)||zai xs m):=rfl
theorem zqz(m:Int):zai [] m=false:=rfl
theorem zk1(xs:List Int)(x m:Int):zai (xs++[x]) m=(zai xs m||decide (x=m)):=by
 rw[zai,List.any_append];simp[zai]
def zdc (ns:List Node) (out:List Int) (i:Nat):Bool:=!zai out i&&(zau ((ns[i]?).getD (0,0,0,[]))).all (zai out)
def zc3 (ns:List Node) (out:List Int):Option Nat:=(List.range ns.length).find? (zdc ns out)
def zaq (ns:List Node):Nat->List Int
 | 0=>[]
 | t+1=>match zc3 ns (zaq ns t)with
  | none=>zaq ns t
  | some i=>zaq ns t++[(i:Int)]
def zca (ns:List Node):List Int:=zaq ns ns.length
def zcd (p:zad):Bool:=za6 p&&decide ((zca p.2.2.1).length=p.2.2.1.length)
theorem zk2{ns:List Node}{out:List Int}{i:Nat}(hi:i<ns.length)(h:zdc ns out i=true)(hb:∀j,j<i->zdc ns out j=false):zc3 ns out=some i:=by
 rw[zc3,List.find?_range_eq_some];exact⟨h,List.mem_range.2 hi,fun j hj=>by rw[hb j hj];rfl⟩
theorem zk3{ns:List Node}{out:List Int}(hb:∀j,j<ns.length->zdc ns out j=false):zc3 ns out=none:=by
 rw[zc3,List.find?_eq_none];intro j hj;rw[hb j (List.mem_range.1 hj)];simp
theorem zis{ns:List Node}{t i:Nat}(h:zc3 ns (zaq ns t)=some i):zaq ns (t+1)=zaq ns t++[(i:Int)]:=by rw[zaq,h]
theorem zq0{ns:List Node}{t:Nat}(h:zc3 ns (zaq ns t)=none)(d:Nat):zaq ns (t+d)=zaq ns t:=by
 induction d with
 | zero=>rfl
 | succ d ih=>rw[show t+(d+1)=(t+d)+1 from rfl,zaq,ih,h]
theorem zk4{ns:List Node}{t:Nat}(ht:t<=ns.length)(h:zc3 ns (zaq ns t)=none):zca ns=zaq ns t:=by
 rw[zca,show ns.length=t+(ns.length-t)by omega,zq0 h]
theorem zit{ns:List Node}{out:List Int}{i:Nat}{x:Node}(h:ns[i]?=some x):zdc ns out i=(!zai out i&&(zau x).all (zai out)):=by
 rw[zdc,h];rfl
def M.p0:zad:=(0,[],[],[])
def zao (p:zad):Bool:=decide (p=M.p0)||(zcd p&&decide (p.1=1)&&decide (p.2.2.2.length=1))
def zcl (s:Sess):Bool:=
 M.inn s.1 0 1000&&zen s.2.1&&decide (s.2.2.1.length<=6)&&zby s.2.2.2.2.2&&decide (s.2.2.2.1.length=s.2.2.1.length)&&s.2.2.2.1.all (zbh s.2.2.2.2.2.length)&&decide (s.2.2.2.2.1.length=s.2.2.2.2.2.length)&&s.2.2.1.all (fun t=>za4 t&&zbp t s.2.1.length)&&s.2.2.2.2.1.all zao
section
def M.i_ (l:List Int) (j:Nat):Int:=(l[j]?).getD 0
def zab (ns:List Node) (i:Nat):Node:=(ns[i]?).getD (0,0,0,[])
def zbz (cs:List (List Int)) (i:Nat):List Int:=(cs[i]?).getD []
def zfb (t:List Int) (x:Int):Int:=M.i_ t (((t.length:Int)*(x % 4294967296)) / 4294967296).toNat
def zq1 (x:Int):Int:=_root_.Go.bits .xor .i64 x 2734686208
def zq2 (s:Int):Int:=if s % 2=1 then wrap32 (zq1 (s % 4294967296 / 2))else wrap32 (s % 4294967296 / 2)
def zam (x:Node) (tb:List (List Int)) (ins s:List Int):Int:=
 if x.1=1 then M.i_ ins 0 else if x.1=2 then x.2.1 else if x.1=3 then wrap32 (M.i_ ins 0+M.i_ ins 1)else if x.1=4 then wrap32 (M.i_ ins 0-M.i_ ins 1)else
 if x.1=5 then wrap32 (x.2.1*M.i_ ins 0)else if x.1=6 then M.i_ s 0 else if x.1=7 then wrap32 (M.i_ s 0+M.i_ ins 0)else if x.1=8 then wrap32 (M.i_ ins 0-M.i_ s 0)else
 if x.1=9 then wrap32 (M.i_ ins 0*M.i_ ins 1)else if x.1=10 then M.i_ ins 0 / 2 ^ x.2.1.toNat else if x.1=11 then max (-x.2.1) (min x.2.1 (M.i_ ins 0))else if x.1=12 then M.i_ s 0 else
 if x.1=13 then zfb (zbz tb x.2.1.toNat) (M.i_ ins 0)else if x.1=14 then M.i_ s 0 else if x.1=15 then(if 0<=M.i_ ins 0 then M.i_ ins 1 else M.i_ ins 2)else
 if x.1=16 then(if 0<M.i_ ins 1 then M.i_ ins 0 else M.i_ s 0)else wrap32 (M.i_ ins 0+x.2.1*M.i_ s 0)
def zcg (x:Node) (ins s:List Int) (out:Int):List Int:=
 if x.1=6 then s.drop 1++[M.i_ ins 0]else if x.1=17 then s.drop 1++[out]else if x.1=7 then[out]else if x.1=16 then[out]else if x.1=8 then[M.i_ ins 0]else
 if x.1=12 then[wrap32 (M.i_ s 0+M.i_ ins 0)]else if x.1=14 then[zq2 (M.i_ s 0)]else[]
def zd8 (x:Node):Nat:=if x.1=6 then x.2.1.toNat else if x.1=17 then x.2.2.1.toNat else if x.1=7 then 1 else if x.1=8 then 1 else if x.1=16 then 1 else if x.1=12 then 1 else if x.1=14 then 1 else 0
def zep (x:Node):List Int:=if x.1=12 then[x.2.1]else if x.1=14 then[x.2.1]else List.replicate (zd8 x) 0
def zk5 (x:Node) (fr vs:List Int):List Int:=if x.1=1 then[M.i_ fr x.2.1.toNat]else x.2.2.2.map fun f=>M.i_ vs f.toNat
section
variable (ns:List Node) (tb:List (List Int)) (fr O:List Int)
def zbu (t:Nat):Nat:=(M.i_ O t).toNat
def ziu (cs:List (List Int)) (v0:List Int):Nat->List Int
 | 0=>v0
 | t+1=>(ziu cs v0 t).set (zbu O t) (zam (zab ns (zbu O t)) tb (zk5 (zab ns (zbu O t)) fr (ziu cs v0 t)) (zbz cs (zbu O t)))
def ziv (cs:List (List Int)):List Int:=ziu ns tb fr O cs (List.replicate ns.length 0) O.length
def zq3 (cs:List (List Int)):List (List Int):=(List.range ns.length).map fun i=>zcg (zab ns i) (zk5 (zab ns i) fr (ziv ns tb fr O cs)) (zbz cs i) (M.i_ (ziv ns tb fr O cs) i)
end
structure M.Topo (ns:List Node) (O:List Int):Prop where
 len:O.length=ns.length
 rng:∀t,t<O.length->0<=M.i_ O t/\M.i_ O t<ns.length
 new:∀s t,s<t->t<O.length->zbu O s≠zbu O t
 aft:∀t,t<O.length->∀f∈zau (zab ns (zbu O t)),∃s,s<t/\f=M.i_ O s
theorem zq4{l:List (List Int)}{k:Nat}(h:k<l.length)(x:List Int):zbz (l.set k x) k=x:=by simp[zbz,h]
theorem zq5{l:List (List Int)}{k j:Nat}(h:k≠j)(x:List Int):zbz (l.set k x) j=zbz l j:=by simp[zbz,List.getElem?_set_ne h]
theorem zk6:∀(n:Nat) (l:List Nat),l.Nodup->(∀x∈l,x<n)->l.length<=n:=by
 intro n
 induction n with
 | zero=>
  intro l _ h;cases l with
  | nil=>simp
  | cons x xs=>exact absurd (h x (List.mem_cons_self ..)) (by omega)
 | succ n ih=>
  intro l hd h
  by_cases hm:n∈l
  ·have h1:=List.length_erase_of_mem hm
   have h2:=ih (l.erase n) (hd.erase n) (fun x hx=>by
    rw[List.Nodup.mem_erase_iff hd]at hx;have:=h x hx.2;omega)
   have h3:0<l.length:=List.length_pos_of_mem hm;omega
  have h2:=ih l hd (fun x hx=>by
   have:=h x hx;rcases Nat.lt_succ_iff_lt_or_eq.1 this with h3|h3
   ·exact h3
   subst h3;exact absurd hx hm)
  omega
section
variable {ns:List Node} {tb:List (List Int)} {fr O:List Int}
theorem M.Topo.all(h:M.Topo ns O){j:Nat}(hj:j<ns.length):∃t,t<O.length/\zbu O t=j:=by
 rcases Classical.em (∃t,t<O.length/\zbu O t=j)with h1|h1
 ·exact h1
 exfalso
 have hnd:(j::(List.range O.length).map (zbu O)).Nodup:=by
  rw[List.nodup_cons];refine⟨fun hm=>?_,?_⟩
  ·obtain⟨t,ht,e⟩:=List.mem_map.1 hm;exact h1 ⟨t,List.mem_range.1 ht,e⟩
  rw[List.nodup_iff_pairwise_ne,List.pairwise_map];refine List.Pairwise.imp_of_mem ?_ (List.pairwise_lt_range (n:=O.length));intro a b _ hb hab;exact h.new a b hab (List.mem_range.1 hb)
 have:=zk6 ns.length _ hnd (fun x hx=>by
  rcases List.mem_cons.1 hx with rfl|hx
  ·exact hj
  obtain⟨t,ht,rfl⟩:=List.mem_map.1 hx;have:=h.rng t (List.mem_range.1 ht);show (M.i_ O t).toNat<_
  omega)
 simp[h.len]at this;omega
theorem zq6{x:Node}(h:x.1≠6):zau x=x.2.2.2:=by rw[zau,if_neg h]
end
theorem zq7{ns:List Node}{out:List Int}{i:Nat}(h:zc3 ns out=some i):i<ns.length/\zdc ns out i=true:=by
 rw[zc3,List.find?_range_eq_some]at h;exact⟨List.mem_range.1 h.2.1,h.1⟩
theorem ziw{xs:List Int}{m:Int}:zai xs m=true↔m∈xs:=by
 rw[zai,List.any_eq_true];constructor
 ·rintro⟨x,hx,e⟩;rw[decide_eq_true_eq]at e;exact e▸hx
 exact fun h=>⟨m,h,by simp⟩
theorem zk7(ns:List Node):∀t,(zaq ns t).length<=t/\(∀s,s<(zaq ns t).length->0<=M.i_ (zaq ns t) s/\M.i_ (zaq ns t) s<ns.length)/\
 (∀s u,s<u->u<(zaq ns t).length->zbu (zaq ns t) s≠zbu (zaq ns t) u)/\
 (∀u,u<(zaq ns t).length->∀f∈zau (zab ns (zbu (zaq ns t) u)),∃s,s<u/\f=M.i_ (zaq ns t) s):=by
 intro t
 induction t with
 | zero=>exact⟨by simp[zaq],fun s hs=>by simp[zaq]at hs,fun s u _ hu=>by simp[zaq]at hu,fun u hu=>by simp[zaq]at hu⟩
 | succ t ih=>
  obtain⟨j1,j2,j3,j4⟩:=ih;rw[zaq];cases hn:zc3 ns (zaq ns t)with
  | none=>exact⟨Nat.le_succ_of_le j1,j2,j3,j4⟩
  | some i=>
   obtain⟨hi,hr⟩:=zq7 hn;simp only;generalize hO:zaq ns t=O at *;have ea:∀s,s<O.length->M.i_ (O++[(i:Int)]) s=M.i_ O s:=fun s hs=>by simp[M.i_,List.getElem?_append_left hs]
   have eb:M.i_ (O++[(i:Int)]) O.length=i:=(by simp[M.i_]);have hl:(O++[(i:Int)]).length=O.length+1:=(by simp);rw[zdc,Bool.and_eq_true,Bool.not_eq_true']at hr
   have hni:∀s,s<O.length->zbu O s≠i:=by
    intro s hs e;have h2:=j2 s hs;have e2:M.i_ O s=(i:Int):=(by have:(M.i_ O s).toNat=i:=e;omega)
    have h3:zai O i=true:=ziw.2 (by
     rw[<-e2];simp only[M.i_,List.getElem?_eq_getElem hs,Option.getD_some];exact List.getElem_mem hs)
    rw[hr.1]at h3;cases h3
   refine⟨by rw[hl];omega,fun s hs=>?_,fun s u hsu hu=>?_,fun u hu f hf=>?_⟩
   ·rw[hl]at hs;rcases Nat.lt_succ_iff_lt_or_eq.1 hs with h1|rfl
    ·rw[ea s h1];exact j2 s h1
    rw[eb];omega
   ·rw[hl]at hu;rcases Nat.lt_succ_iff_lt_or_eq.1 hu with h1|rfl
    ·show (M.i_ _ s).toNat≠(M.i_ _ u).toNat
     rw[ea s (by omega),ea u h1];exact j3 s u hsu h1
    show (M.i_ _ s).toNat≠(M.i_ _ _).toNat
    rw[ea s hsu,eb];have:=hni s hsu;exact this
   rw[hl]at hu;rcases Nat.lt_succ_iff_lt_or_eq.1 hu with h1|rfl
   ·rw[show zbu (O++[(i:Int)]) u=zbu O u by show (M.i_ _ u).toNat=(M.i_ _ u).toNat;rw[ea u h1]]at hf;obtain⟨s,hs,rfl⟩:=j4 u h1 f hf;exact⟨s,hs,(ea s (by omega)).symm⟩
   rw[show zbu (O++[(i:Int)]) O.length=i by show (M.i_ _ _).toNat=i;rw[eb];omega]at hf;have h4:=List.all_eq_true.1 hr.2 f hf;obtain⟨s,hs⟩:=List.getElem?_of_mem (ziw.1 h4);have hs2:=(List.getElem?_eq_some_iff.1 hs).1;refine⟨s,hs2,?_⟩;rw[ea s hs2,M.i_,hs]
   rfl
theorem zq8(ns:List Node)(t:Nat):(zaq ns t).length<=ns.length:=by
 obtain⟨_,j2,j3,_⟩:=zk7 ns t
 have h:=zk6 ns.length ((List.range (zaq ns t).length).map (zbu (zaq ns t))) (by
  rw[List.nodup_iff_pairwise_ne,List.pairwise_map];refine List.Pairwise.imp_of_mem ?_ (List.pairwise_lt_range (n:=(zaq ns t).length));intro a b _ hb hab
  exact j3 a b hab (List.mem_range.1 hb)) (fun x hx=>by
   obtain⟨u,hu,rfl⟩:=List.mem_map.1 hx;have:=j2 u (List.mem_range.1 hu);show (M.i_ _ u).toNat<_
   omega)
 simpa using h
theorem zq9{ns:List Node}(h:(zca ns).length=ns.length):M.Topo ns (zca ns):=by
 obtain⟨_,j2,j3,j4⟩:=zk7 ns ns.length;exact⟨h,j2,j3,j4⟩
end
end Go.Proofs.YtifeldeikhmckaaGreat
