import Derived.Test.YtifeldeikhmckaaGreatFnExactOptimizeSessionG13
import Derived.Test.YtifeldeikhmckaaGreatFnExactOptimizeSessionG30
set_option linter.unusedVariables false
set_option linter.unusedSimpArgs false
set_option maxRecDepth 100000
set_option maxHeartbeats 4000000
namespace Go.Proofs.YtifeldeikhmckaaGreat
open Go.RowKit Go.Sort
section
open Go
section
variable {P:Program} {ops:Array Oper} {md:Region.Mode} {D:Yw->Prop}
inductive Tw where
 | rest
 | one (b:Nat) (t:Tw)
 | two (b:Nat) (t:Tw) (b':Nat) (t':Tw)
 | first (i:Nat) (t:Tw)
 | load (i:Nat) (t:Tw)
def anyD (P:Program) (md:Region.Mode) (ops:Array Oper) (D:Yw->Prop) (T:List Nat) (Q:Exit->Act->Yw->Prop):Nat->Array Bool->Act->Yw->Prop
 | 0,listed,a,w=>D w/\Region.ready md ops listed=[]/\Q .normal a w
 | f+1,listed,a,w=>D w/\Region.ready md ops listed≠[]/\∀i∈Region.ready md ops listed,
  (T.contains i=true->wpOp P ops Q i (wpAny P md ops Q f (listed.setIfInBounds i true)) a w)/\(T.contains i=false->wpOp P ops noX i (anyD P md ops D T Q f (listed.setIfInBounds i true)) a w)
theorem zud{T:List Nat}{Q:Exit->Act->Yw->Prop}:∀{f:Nat} {listed:Array Bool} {a:Act} {w:Yw},anyD P md ops D T Q f listed a w->D w
 | 0,_,_,_,h=>h.1
 | _+1,_,_,_,h=>h.1
theorem zue{T:List Nat}{Q:Exit->Act->Yw->Prop}:∀(f:Nat) (listed:Array Bool) (a:Act) (w:Yw),anyD P md ops D T Q f listed a w->wpAny P md ops Q f listed a w:=by
 intro f
 induction f with
 | zero=>intro listed a w h;exact⟨h.2.1,h.2.2⟩
 | succ f ih=>
  intro listed a w h;refine⟨fun h0=>absurd h0 h.2.1,fun i hi=>?_⟩;cases hT:T.contains i with
  | true=>exact(h.2.2 i hi).1 hT
  | false=>exact zk9 (wpOp_mono (fun a' w' h'=>ih _ a' w' h') ((h.2.2 i hi).2 hT))
theorem zm4{T:List Nat}{Q:Exit->Act->Yw->Prop}{i:Nat}{oi:Oper}{v:Value}(hi:ops[i]?=some oi)(hsel:Region.noSelect ops=true)
 (hwait:∀t,T.contains t=true->zc4 md ops ops.size t i=true) (hTi:T.contains i=false) :
 ∀(f:Nat) (listed:Array Bool) (a:Act) (w:Yw),Closed md ops listed->
  (∀j oj,ops[j]?=some oj->j≠i->listed.getD j true=false->(∀e∈oj.after,Region.binds md e=true->e.on≠i)->oi.apart ops oj=true)->
  i∈Region.ready md ops listed->YieldsD P ops D oi v a->D w->
  anyD P md ops D T Q f (listed.setIfInBounds i true) (a.put oi.dst v) w->anyD P md ops D T Q (f+1) listed a w:=by
 have late:∀(listed:Array Bool),Closed md ops listed->listed.getD i true=false->∀j∈Region.ready md ops listed,T.contains j=false:=by
  intro listed hcl hun j hj;cases hT:T.contains j with
  | false=>rfl
  | true=>
   obtain⟨_,oj,hoj,hall⟩:=mem_ready.1 hj;have:=zla hcl ops.size j i oj hoj hall (hwait j hT);rw[getD_both hun]at this;cases this
 intro f
 induction f with
 | zero=>
  intro listed a w hcl _ hr hy hD H;refine⟨hD,fun h=>(by rw[h]at hr;cases hr),fun j hj=>?_⟩;have hTj:=late listed hcl (mem_ready.1 hr).1 j hj;refine⟨fun h=>(by rw[hTj]at h;cases h),fun _=>?_⟩
  by_cases hji:j=i
  ·subst hji;exact hy.wpOp hi hD H
  ·have:=ready_mono hj hji;rw[H.2.1]at this;cases this
 | succ f ih=>
  intro listed a w hcl hfree hr hy hD H;refine⟨hD,fun h=>(by rw[h]at hr;cases hr),fun j hj=>?_⟩;have hTj:=late listed hcl (mem_ready.1 hr).1 j hj;refine⟨fun h=>(by rw[hTj]at h;cases h),fun _=>?_⟩
  by_cases hji:j=i
  ·subst hji;exact hy.wpOp hi hD H
  obtain⟨hjun,oj,hoj,hall⟩:=mem_ready.1 hj
  have hnot:∀e∈oj.after,Region.binds md e=true->e.on≠i:=fun e he hb heq=>by
   have h1:=hall e he hb;rw[heq,getD_both (mem_ready.1 hr).1]at h1;cases h1
  have h2:=zk8 hoj (hfree j oj hoj hji hjun hnot) (fun cs b=>Region.noSelect_spec hsel i oi cs b hi) (fun cs b=>Region.noSelect_spec hsel j oj cs b hoj) hy ((H.2.2 j (ready_mono hj hji)).2 hTj);refine wpOp_mono (fun a' w' h3=>?_) h2;obtain⟨h3,h4⟩:=h3;refine ih (listed.setIfInBounds j true) a' w' (hcl.set hj) (fun k ok hk hki hun hno=>hfree k ok hk hki ?_ hno) (ready_mono hr (Ne.symm hji)) h3 (zud h4) ?_
  ·by_cases hjk:j=k
   ·subst hjk;exact hjun
   rwa [getD_set_ne true hjk]at hun
  rw[Array.setIfInBounds_comm _ _ hji];exact h4
theorem zm5{T:List Nat}{Q:Exit->Act->Yw->Prop}(hQ:∀c a w,Q (.panic c) a w->False){i:Nat}{oi:Oper}{v:Value}(hi:ops[i]?=some oi)(hsel:Region.noSelect ops=true)(hTi:T.contains i=false):
 ∀(f:Nat) (listed:Array Bool) (a:Act) (w:Yw),
  (∀j oj,ops[j]?=some oj->j≠i->listed.getD j true=false->(∀e∈oj.after,Region.binds md e=true->e.on≠i)->oi.apart ops oj=true)->
  i∈Region.ready md ops listed->Yields P ops oi v a->
  anyD P md ops D T Q f (listed.setIfInBounds i true) (a.put oi.dst v) w->anyD P md ops D T Q (f+1) listed a w:=by
 intro f
 induction f with
 | zero=>
  intro listed a w _ hr hy H;refine⟨H.1,fun h=>(by rw[h]at hr;cases hr),fun j hj=>?_⟩
  by_cases hji:j=i
  ·subst hji;exact⟨fun h=>(by rw[hTi]at h;cases h),fun _=>hy.wpOp hi H⟩
  ·have:=ready_mono hj hji;rw[H.2.1]at this;cases this
 | succ f ih=>
  intro listed a w hfree hr hy H;refine⟨H.1,fun h=>(by rw[h]at hr;cases hr),fun j hj=>?_⟩
  by_cases hji:j=i
  ·subst hji;exact⟨fun h=>(by rw[hTi]at h;cases h),fun _=>hy.wpOp hi H⟩
  obtain⟨hjun,oj,hoj,hall⟩:=mem_ready.1 hj
  have hnot:∀e∈oj.after,Region.binds md e=true->e.on≠i:=fun e he hb heq=>by
   have h1:=hall e he hb;rw[heq,getD_both (mem_ready.1 hr).1]at h1;cases h1
  have hap:=hfree j oj hoj hji hjun hnot
  have hfree2:∀k ok,ops[k]?=some ok->k≠i->(listed.setIfInBounds j true).getD k true=false->(∀e∈ok.after,Region.binds md e=true->e.on≠i)->oi.apart ops ok=true:=fun k ok hk hki hun hno=>hfree k ok hk hki (by
   by_cases hjk:j=k
   ·subst hjk;exact hjun
   rwa [getD_set_ne true hjk]at hun) hno
  have si:=fun cs b=>Region.noSelect_spec hsel i oi cs b hi
  have sj:=fun cs b=>Region.noSelect_spec hsel j oj cs b hoj
  refine⟨fun hTj=>?_,fun hTj=>?_⟩
  ·have h2:=wpOp_put hoj hap si sj (fun c a w h=>(hQ c _ w h).elim) hy ((H.2.2 j (ready_mono hj hji)).1 hTj);refine wpOp_mono (fun a' w' h3=>?_) h2;refine wpAny_first hi (Region.noSelect_spec hsel) (fun c a w h=>(hQ c _ w h).elim) _ _ a' w' hfree2 (ready_mono hr (Ne.symm hji)) h3.1 ?_;rw[Array.setIfInBounds_comm _ _ hji];exact h3.2
  have h2:=wpOp_put (Q:=noX) hoj hap si sj (fun c a w h=>h.elim) hy ((H.2.2 j (ready_mono hj hji)).2 hTj);refine wpOp_mono (fun a' w' h3=>?_) h2;refine ih (listed.setIfInBounds j true) a' w' hfree2 (ready_mono hr (Ne.symm hji)) h3.1 ?_;rw[Array.setIfInBounds_comm _ _ hji];exact h3.2
def zm6 (T R:List Nat):Bool:=match R with
 | []=>true
 | r::_=>T.contains r
def zct (md:Region.Mode) (ops:Array Oper) (T R:List Nat):Nat->Tw->Array Bool->Bool
 | 0,.rest,listed=>zdz md ops R listed&&zm6 T R
 | m+1,.one b t,listed=>decide (Region.ready md ops listed=[b])&&!T.contains b&&zct md ops T R m t (listed.setIfInBounds b true)
 | m+1,.two b t b' t',listed=>decide (Region.ready md ops listed=[b,b'])&&!T.contains b&&!T.contains b'&&zct md ops T R m t (listed.setIfInBounds b true)&&zct md ops T R m t' (listed.setIfInBounds b' true)
 | m+1,.first i t,listed=>(Region.ready md ops listed).contains i&&Region.free md ops listed i&&!T.contains i&&((ops[i]?).map zch).getD false&&zct md ops T R m t (listed.setIfInBounds i true)
 | m+1,.load i t,listed=>(Region.ready md ops listed).contains i&&Region.free md ops listed i&&!T.contains i&&T.all (fun t=>zc4 md ops ops.size t i)&&((ops[i]?).map zch).getD false&&zct md ops T R m t (listed.setIfInBounds i true)
 | _,_,_=>false
def seqW (P:Program) (l:List Oper) (D:Yw->Prop) (Q:Exit->Act->Yw->Prop) (lr:List Oper):Tw->Act->Yw->Prop
 | .rest,a,w=>wpList P l.toArray Q lr a w
 | .one b t,a,w=>match l[b]? with
  | some o=>wpList P l.toArray (fun x a' w'=>x=.normal/\D w'/\seqW P l D Q lr t a' w') [o] a w
  | none=>False
 | .two b t b' t',a,w=>(match l[b]? with
  | some o=>wpList P l.toArray (fun x a' w'=>x=.normal/\D w'/\seqW P l D Q lr t a' w') [o] a w
  | none=>False)/\(match l[b']? with
  | some o=>wpList P l.toArray (fun x a' w'=>x=.normal/\D w'/\seqW P l D Q lr t' a' w') [o] a w
  | none=>False)
 | .first i t,a,w=>match l[i]? with
  | some o=>wpQuiet P l.toArray (fun _=>True) (fun a'=>seqW P l D Q lr t a' w) [o] a
  | none=>False
 | .load i t,a,w=>match l[i]? with
  | some o=>wpQuiet P l.toArray D (fun a'=>seqW P l D Q lr t a' w) [o] a
  | none=>False
theorem zuf{l:List Oper}{i:Nat}{o:Oper}{a:Act}{K:Act->Prop}(hi:l[i]?=some o)(hp:zch o=true)(h:wpQuiet P l.toArray (fun _=>True) K [o] a):∃v,Yields P l.toArray o v a/\K (a.put o.dst v):=by
 have hi':l.toArray[i]?=some o:=by simpa using hi
 have hq:qOp P l.toArray (fun _=>True) i (wpQuiet P l.toArray (fun _=>True) K []) a:=by unfold qOp;simp only[hi'];exact h
 obtain⟨v,hy,hK⟩:=yieldsIn_of_qOp hi' hq;refine⟨v,?_,hK⟩;rcases hy with⟨hw,h1⟩|⟨hw,rfl⟩
 ·exact .inl ⟨hw,fun w=>YieldsD.of_quiet hp h1 w trivial⟩
 exact .inr ⟨hw,rfl⟩
theorem zug{l:List Oper}{T R:List Nat}{lr:List Oper}{Q:Exit->Act->Yw->Prop}(hsel:Region.noSelect l.toArray=true)(hQ:∀c a w,Q (.panic c) a w->False)(hlr:lr.map some=R.map (l.toArray[·]?)):
 ∀(m:Nat) (t:Tw) (listed:Array Bool) (a:Act) (w:Yw),Closed md l.toArray listed->zct md l.toArray T R m t listed=true->D w->seqW P l D Q lr t a w->anyD P md l.toArray D T Q (m+R.length) listed a w:=by
 intro m
 induction m with
 | zero=>
  intro t listed a w hc hB hD h;cases t with
  | rest=>
   simp only[zct,Bool.and_eq_true]at hB;have h2:=zlb R lr listed a w hlr hB.1 h;rw[Nat.zero_add];cases R with
   | nil=>exact⟨hD,h2.1,h2.2⟩
   | cons r rs=>
    have hr:=hB.1;simp only[zdz,Bool.and_eq_true,decide_eq_true_eq]at hr;refine⟨hD,by rw[hr.1];simp,fun i hi=>⟨fun _=>h2.2 i hi,fun hT=>?_⟩⟩;rw[hr.1]at hi;obtain rfl:i=r:=by simpa using hi
    have:=hB.2;simp only[zm6]at this;rw[this]at hT;cases hT
  | one b t=>simp[zct]at hB
  | two b t b' t'=>simp[zct]at hB
  | first i t=>simp[zct]at hB
  | load i t=>simp[zct]at hB
 | succ m ih=>
  intro t listed a w hc hB hD h;rw[show m+1+R.length=(m+R.length)+1 by omega];cases t with
  | rest=>simp[zct]at hB
  | one b t=>
   simp only[zct,Bool.and_eq_true,decide_eq_true_eq,Bool.not_eq_true']at hB;refine⟨hD,by rw[hB.1.1];simp,fun i hi=>?_⟩;have hi0:=hi;rw[hB.1.1]at hi;obtain rfl:i=b:=by simpa using hi
   exact⟨fun hT=>(by rw[hB.1.2]at hT;cases hT),fun _=>wpOp_mono (fun a' w' h'=>ih t _ a' w' (hc.set hi0) hB.2 h'.1 h'.2) (zfm (K:=fun a' w'=>D w'/\seqW P l D Q lr t a' w') h)⟩
  | two b t b' t'=>
   simp only[zct,Bool.and_eq_true,decide_eq_true_eq,Bool.not_eq_true']at hB;obtain⟨⟨⟨⟨g1,g2⟩,g3⟩,g4⟩,g5⟩:=hB;refine⟨hD,by rw[g1];simp,fun i hi=>?_⟩;have hi0:=hi;rw[g1]at hi;have hi':i=b\/i=b':=(by simpa using hi);rcases hi' with rfl|rfl
   ·exact⟨fun hT=>(by rw[g2]at hT;cases hT),fun _=>wpOp_mono (fun a' w' h'=>ih t _ a' w' (hc.set hi0) g4 h'.1 h'.2) (zfm (K:=fun a' w'=>D w'/\seqW P l D Q lr t a' w') h.1)⟩
   ·exact⟨fun hT=>(by rw[g3]at hT;cases hT),fun _=>wpOp_mono (fun a' w' h'=>ih t' _ a' w' (hc.set hi0) g5 h'.1 h'.2) (zfm (K:=fun a' w'=>D w'/\seqW P l D Q lr t' a' w') h.2)⟩
  | first i t=>
   simp only[zct,Bool.and_eq_true,Bool.not_eq_true']at hB;obtain⟨⟨⟨⟨g1,g2⟩,g3⟩,g4⟩,g5⟩:=hB;cases ho:l[i]? with
   | none=>simp[ho]at g4
   | some o=>
    have ho':l.toArray[i]?=some o:=(by simpa using ho);simp only[ho',Option.map_some,Option.getD_some]at g4;simp only[seqW,ho]at h;obtain⟨v,hy,hK⟩:=zuf ho g4 h;exact zm5 hQ ho' hsel g3 _ listed a w (Region.free_spec ho' g2) (by simpa using g1) hy (ih t _ _ w (hc.set (by simpa using g1)) g5 hD hK)
  | load i t=>
   simp only[zct,Bool.and_eq_true,Bool.not_eq_true']at hB;obtain⟨⟨⟨⟨⟨g1,g2⟩,g3⟩,g6⟩,g4⟩,g5⟩:=hB;cases ho:l[i]? with
   | none=>simp[ho]at g4
   | some o=>
    have ho':l.toArray[i]?=some o:=(by simpa using ho);simp only[ho',Option.map_some,Option.getD_some]at g4;simp only[seqW,ho]at h;have hq:qOp P l.toArray D i (wpQuiet P l.toArray D (fun a'=>seqW P l D Q lr t a' w) []) a:=(by unfold qOp;simp only[ho'];exact h);obtain⟨v,hy,hK⟩:=yieldsIn_of_qOp ho' hq
    have hy2:YieldsD P l.toArray D o v a:=by
     rcases hy with⟨hw,h1⟩|⟨hw,rfl⟩
     ·exact .inl ⟨hw,YieldsD.of_quiet g4 h1⟩
     exact .inr ⟨hw,rfl⟩
    have g1':i∈Region.ready md l.toArray listed:=(by simpa using g1);exact zm4 ho' hsel (fun t ht=>List.all_eq_true.1 g6 t (by simpa using ht)) g3 _ listed a w hc (Region.free_spec ho' g2) g1' hy2 hD (ih t _ _ w (hc.set g1') g5 hD hK)
def zhu (md:Region.Mode) (ops:Array Oper) (T R:List Nat) (m:Nat) (t:Tw):List Nat->Array Bool->Bool
 | [],listed=>zct md ops T R m t listed
 | i::is,listed=>(Region.ready md ops listed).contains i&&Region.free md ops listed i&&zhu md ops T R m t is (listed.setIfInBounds i true)
theorem zuh{l:List Oper}{T R:List Nat}{lr:List Oper}{m:Nat}{t:Tw}{Q:Exit->Act->Yw->Prop}(hsel:Region.noSelect l.toArray=true)(hQ:∀c a w,Q (.panic c) a w->False)(hlr:lr.map some=R.map (l.toArray[·]?)):
 ∀(F:List Nat) (k:List Oper) (listed:Array Bool) (a:Act) (w:Yw),k.map some=F.map (l.toArray[·]?)->k.all zch=true->Closed md l.toArray listed->zhu md l.toArray T R m t F listed=true->
 (∀i∈F,T.contains i=false/\∀t,T.contains t=true->zc4 md l.toArray l.toArray.size t i=true)->D w->wpQuiet P l.toArray D (fun a'=>seqW P l D Q lr t a' w) k a->
 anyD P md l.toArray D T Q (F.length+(m+R.length)) listed a w:=by
 intro F
 induction F with
 | nil=>
  intro k listed a w hk _ hc hB _ hD h;obtain rfl:k=[]:=by cases k with|nil=>rfl|cons x xs=>simp at hk
  simp only[List.length_nil,Nat.zero_add];exact zug hsel hQ hlr m t listed a w hc hB hD h
 | cons i is ih=>
  intro k listed a w hk hp hc hB hW hD h;cases k with
  | nil=>simp at hk
  | cons o k=>
   simp only[List.map_cons,List.cons.injEq]at hk;simp only[List.all_cons,Bool.and_eq_true]at hp;simp only[zhu,Bool.and_eq_true]at hB;obtain⟨⟨hr,hf⟩,hB2⟩:=hB;have hr':i∈Region.ready md l.toArray listed:=(by simpa using hr);have hq:qOp P l.toArray D i (wpQuiet P l.toArray D (fun a'=>seqW P l D Q lr t a' w) k) a:=(by unfold qOp;simp only[<-hk.1];exact h);obtain⟨v,hy,hK⟩:=yieldsIn_of_qOp hk.1.symm hq
   have hy2:YieldsD P l.toArray D o v a:=by
    rcases hy with⟨hw,h1⟩|⟨hw,rfl⟩
    ·exact .inl ⟨hw,YieldsD.of_quiet hp.1 h1⟩
    exact .inr ⟨hw,rfl⟩
   obtain⟨hTi,hwait⟩:=hW i (by simp);rw[List.length_cons,show is.length+1+(m+R.length)=(is.length+(m+R.length))+1 by omega];exact zm4 hk.1.symm hsel hwait hTi _ listed a w hc (Region.free_spec hk.1.symm hf) hr' hy2 hD (ih k _ _ w hk.2 hp.2 (hc.set hr') hB2 (fun j hj=>hW j (by simp[hj])) hD hK)
def zhv (md:Region.Mode) (ops:Array Oper) (F:List Nat) (m:Nat) (t:Tw) (T R:List Nat):List Nat->Array Bool->Bool
 | [],listed=>zhu md ops T R m t F listed
 | i::is,listed=>(Region.ready md ops listed).contains i&&Region.free md ops listed i&&!T.contains i&&zhv md ops F m t T R is (listed.setIfInBounds i true)
def zjh (md:Region.Mode) (ops:Array Oper) (A F:List Nat) (m:Nat) (t:Tw) (T R:List Nat):Bool:=
 Region.noSelect ops&&decide (A.length+(F.length+(m+R.length))=ops.size)&&T.all (fun t=>F.all fun i=>zc4 md ops ops.size t i)&&F.all (fun i=>!T.contains i) &&
  zhv md ops F m t T R A (Array.replicate ops.size false)
theorem zui{l:List Oper}{T R:List Nat}{lr:List Oper}{m:Nat}{t:Tw}{Q:Exit->Act->Yw->Prop}(hsel:Region.noSelect l.toArray=true)(hQ:∀c a w,Q (.panic c) a w->False)(hlr:lr.map some=R.map (l.toArray[·]?)){F:List Nat}{lf:List Oper}(hlf:lf.map some=F.map (l.toArray[·]?))(hpf:lf.all zch=true)
 (hW:∀i∈F,T.contains i=false/\∀t,T.contains t=true->zc4 md l.toArray l.toArray.size t i=true) :
 ∀(A:List Nat) (la:List Oper) (listed:Array Bool) (a:Act) (w:Yw),la.map some=A.map (l.toArray[·]?)->la.all zch=true->Closed md l.toArray listed->zhv md l.toArray F m t T R A listed=true->
 D w->wpQuiet P l.toArray (fun _=>True) (fun a'=>wpQuiet P l.toArray D (fun a'=>seqW P l D Q lr t a' w) lf a') la a->anyD P md l.toArray D T Q (A.length+(F.length+(m+R.length))) listed a w:=by
 intro A
 induction A with
 | nil=>
  intro la listed a w hla _ hc hB hD h;obtain rfl:la=[]:=by cases la with|nil=>rfl|cons x xs=>simp at hla
  rw[List.length_nil,Nat.zero_add];exact zuh hsel hQ hlr F lf listed a w hlf hpf hc hB hW hD h
 | cons i is ih=>
  intro la listed a w hla hp hc hB hD h;cases la with
  | nil=>simp at hla
  | cons o la=>
   simp only[List.map_cons,List.cons.injEq]at hla;simp only[List.all_cons,Bool.and_eq_true]at hp;simp only[zhv,Bool.and_eq_true,Bool.not_eq_true']at hB;obtain⟨⟨⟨hr,hf⟩,hTi⟩,hB2⟩:=hB;have hr':i∈Region.ready md l.toArray listed:=(by simpa using hr);have hq:qOp P l.toArray (fun _=>True) i (wpQuiet P l.toArray (fun _=>True) (fun a'=>wpQuiet P l.toArray D (fun a'=>seqW P l D Q lr t a' w) lf a') la) a:=(by unfold qOp;simp only[<-hla.1];exact h);obtain⟨v,hy,hK⟩:=yieldsIn_of_qOp hla.1.symm hq;rw[List.length_cons,show is.length+1+(F.length+(m+R.length))=(is.length+(F.length+(m+R.length)))+1 by omega]
   have hy2:Yields P l.toArray o v a:=by
    rcases hy with⟨hw,h1⟩|⟨hw,rfl⟩
    ·exact .inl ⟨hw,fun w=>YieldsD.of_quiet hp.1 h1 w trivial⟩
    exact .inr ⟨hw,rfl⟩
   exact zm5 hQ hla.1.symm hsel hTi _ listed a w (Region.free_spec hla.1.symm hf) hr' hy2 (ih la _ _ w hla.2 hp.2 (hc.set hr') hB2 hD hK)
theorem zuj{id:Nat}{Q:Exit->Act->Yw->Prop}{a:Act}{w:Yw}{l:List Oper}(A F:List Nat)(m:Nat)(t:Tw)(T R:List Nat)(hm:P.follows .mixedOrders=true)
 (hB:(zjh .any l.toArray A F m t T R&&(A++F++R).all (fun i=>decide (i<l.length))&&(zar l A).all zch&&(zar l F).all zch)=true) (hD:D { w with drawn:=w.drawn+1 })
 (h:wpQuiet P l.toArray (fun _=>True) (fun a'=>wpQuiet P l.toArray D (fun a'=>seqW P l D (fun x a w=>x=.normal/\Q .normal a w) (zar l R) t a' { w with drawn:=w.drawn+1 }) (zar l F) a') (zar l A) a) :
 (Code.region id l.toArray true).wp P Q a w:=by
 simp only[Bool.and_eq_true,List.all_append]at hB;obtain⟨⟨⟨hP,⟨hA,hF⟩,hBB⟩,hpA⟩,hpF⟩:=hB;simp only[zjh,Bool.and_eq_true,decide_eq_true_eq]at hP;obtain⟨⟨⟨⟨hsel,hsz⟩,hre⟩,hFn⟩,hgo⟩:=hP;refine wp_region_any hm ?_;have hc:Closed .any l.toArray (Array.replicate l.toArray.size false):=fun j oj _ hl=>(by rw[getD_replicate_false]at hl;cases hl)
 have h2:=zui (P:=P) (md:=.any) (D:=D) (T:=T) (Q:=fun x a w=>x=.normal/\Q .normal a w) hsel (fun c a w h=>by cases h.1) (R:=R) (m:=m) (F:=F) (zfn hBB) (zfn hF) hpF
  (fun i hi=>⟨by have:=List.all_eq_true.1 hFn i hi;rw[Bool.not_eq_true']at this;exact this,fun t ht=>List.all_eq_true.1 (List.all_eq_true.1 hre t (by simpa using ht)) i hi⟩)
  A (zar l A) _ a _ (zfn hA) hpA hc hgo hD h
 rw[hsz]at h2;exact zlc (fun x a w hx=>by obtain⟨rfl,h⟩:=hx;exact h) _ _ _ _ (zue _ _ _ _ h2)
theorem zf5{id:Nat}{Q:Exit->Act->Yw->Prop}{a:Act}{w:Yw}{l:List Oper}(A F:List Nat)(m:Nat)(t:Tw)(T R:List Nat)(hm:P.follows .mixedOrders=true)
 (hB:(zjh .any l.toArray A F m t T R&&(A++F++R).all (fun i=>decide (i<l.length))&&(zar l A).all zch&&(zar l F).all zch)=true)
 (h:wpQuiet P l.toArray (fun _=>True) (fun a'=>wpQuiet P l.toArray (fun w'=>∃p:Regrown,w'=Go.Sort.grow (redrawn w p.d) p.os) (fun a'=>seqW P l (fun w'=>∃p:Regrown,w'=Go.Sort.grow (redrawn w p.d) p.os) (fun x a w=>x=.normal/\Q .normal a w) (zar l R) t a' w.drew) (zar l F) a') (zar l A) a) :
 (Code.region id l.toArray true).wp P Q a w:=
 zuj (D:=fun w'=>∃p:Regrown,w'=Go.Sort.grow (redrawn w p.d) p.os) A F m t T R hm hB ⟨⟨w.drawn+1,#[]⟩,by rw[Go.Sort.grow_empty];rfl⟩ h
variable {l:List Oper} {Q:Exit->Act->Yw->Prop} {lr:List Oper} {t t':Tw} {b b':Nat} {o o':Oper} {a:Act} {w:Yw}
theorem zdm(h:l[b]?=some o)(k:wpList P l.toArray (fun x a' w'=>x=.normal/\D w'/\seqW P l D Q lr t a' w') [o] a w):seqW P l D Q lr (.one b t) a w:=by
 unfold seqW;rw[h];exact k
theorem zji(h:l[b]?=some o)(h':l[b']?=some o')(k:wpList P l.toArray (fun x a' w'=>x=.normal/\D w'/\seqW P l D Q lr t a' w') [o] a w)
 (k':wpList P l.toArray (fun x a' w'=>x=.normal/\D w'/\seqW P l D Q lr t' a' w') [o'] a w):seqW P l D Q lr (.two b t b' t') a w:=by
 unfold seqW;rw[h,h'];exact⟨k,k'⟩
theorem zdq(h:l[b]?=some o)(k:wpQuiet P l.toArray (fun _=>True) (fun a'=>seqW P l D Q lr t a' w) [o] a):seqW P l D Q lr (.first b t) a w:=by
 unfold seqW;rw[h];exact k
theorem zev(k:wpList P l.toArray Q lr a w):seqW P l D Q lr .rest a w:=k
end
end
section
section
variable {tb:List (List Int)} {p:NO} {R:Nat->Nat} {w:Yw}
theorem zuk{w:Yw}{b:Nat}{x:Int}(h:w.cell? ⟨b,0,none⟩=some (.int .i64 x)):tS.R w w.heap.size [.slice (some ⟨b,0,none⟩) 1 1] [x]:=
 tS_R.2 (RS.of_ri ⟨rfl,fun _=>⟨_,rfl,World.block_lt_of_cell? w _ h,fun j u hj=>by
  match j,hj with
  | 0,hj=>simp at hj;subst hj;exact h⟩⟩ (Nat.le_refl _) (by simp[maxLen]))
theorem zhw{w T:Yw}{b n:Nat}{x:Int}(h:w.cell? ⟨b,0,none⟩=some (.int .i64 x))(hb:n<=b)(hT:Chg (fun b=>b<n) w T):tS.R T T.heap.size [.slice (some ⟨b,0,none⟩) 1 1] [x]:=
 zuk ((hT.cell (World.block_lt_of_cell? w _ h) (fun(e:b<n)=>by omega)).trans h)
theorem zul(h:M.WP tb p R)(a0:Int)(A1:Yo)(n1 c1:Nat)(A2:Yo)(n2 c2:Nat)(A3:Yo)(n3 c3:Nat)(i:Nat)(hr:RS tN w w.heap.size (.slice A2 n2 c2) p.1)(hi:i<n2):
 Calls Tryz.prog 205 #[.agg #[.int .i64 a0,.slice A1 n1 c1,.slice A2 n2 c2,.slice A3 n3 c3],.int .i64 i] w fun e w'=>((zbw p.1 (zab p.1 i)=true/\∃(v x:Int) (A':Yo) (c':Nat),zdp p.1 (zab p.1 i)=(5,v,0,[x])/\e=.returned (.tuple #[.agg #[.int .i64 5,.int .i64 v,.int .i64 0,.slice A' 1 c'],.bool true])/\∀T,Chg (fun b=>b<w.heap.size) w' T->tS.R T T.heap.size [.slice A' 1 c'] [x])\/
  (zbw p.1 (zab p.1 i)=false/\e=.returned (.tuple #[.agg #[.int .i64 0,.int .i64 0,.int .i64 0,.slice none 0 0],.bool false])))/\Below w.heap.size w w':=by
 have hl:=hr.cap.1;have hlen:=h.len;have RF:=zgu;obtain⟨bb,o,k,a,b,A4,c4,fs,hA,hb,X,e0,e1,e2,e3,hr3,hl3⟩:=zbg h hr hi;obtain⟨W,hW,B0,sW,PX,ZX,NX⟩:=zgw w (.int .i64 a0) (.slice A1 n1 c1) (.slice A2 n2 c2) (.slice A3 n3 c3) (.int .i64 0) (.int .i64 0) (.int .i64 0) (.slice none 0 0) (.int .i64 k) (.int .i64 a) (.int .i64 b) (.slice A4 fs.length c4) 67 169 169;have HW:=Lib.hid hW;have hok:=(h.node (i:=i) (by omega)).2;rw[X.out]at hok ⊢;have hi2:(i:Int)<(n2:Int):=by omega
 have hn2:n2<=24:=by omega
 have hrW:=hr.later B0;have hr3W:=hr3.later B0;have lW:w.heap.size+1+1<W.heap.size:=by omega
 have hfl:=zc6 hok;have HLEN:=Lib.hid hl;clear hW sW hok
 have fin:∀w2,Below W.heap.size W w2->∃U,U=(((w2.setCell ⟨w.heap.size+1,0,none⟩ (.int .i64 0)).setCell ⟨w.heap.size+1,1,none⟩ (.int .i64 0)).setCell ⟨w.heap.size+1,2,none⟩ (.int .i64 0)).setCell ⟨w.heap.size+1,3,none⟩ (.slice none 0 0)/\BX w2 (w.heap.size+1) (.int .i64 0) (.int .i64 0) (.int .i64 0) (.slice none 0 0)/\BX U (w.heap.size+1) (.int .i64 0) (.int .i64 0) (.int .i64 0) (.slice none 0 0)/\Below w.heap.size w U:=fun w2 Bw2=>by
  have Z2:=ZX.later Bw2;obtain⟨U,hU,ZU,chU,sU⟩:=Z2.set (.int .i64 0) (.int .i64 0) (.int .i64 0) (.slice none 0 0);have s2:=Bw2.size;exact⟨U,hU,Z2,ZU,(B0.trans (Bw2.mono (by omega))).trans (chU.toBelow (fun b (hb:b=_)=>by omega) (by omega))⟩
 have FIN:=Lib.hid fin;clear fin
 by_cases hk:k=9
 ·subst hk;have hl2:fs.length=2:=hfl (by decide);subst hA;obtain⟨bf,of_,rfl,hbf,hcf⟩:=zak hr3 (by omega);have HCF:=Lib.hid hcf;have lbf:bf<W.heap.size:=by omega
  have n3_:=NX.c3;rw[hl2]at n3_ HW e3;have HL2:=Lib.hid hl2;clear hl2 hfl hcf
  go_enter Tryz.func205,Tryz.ntmps205
  go_wp2_with fail;rw[<-HW.out]
  go_loopw [20] (fun j wr=>∃t:Nat,j=.int .i64 t/\t<=2/\Hid (∀j,j<t->zbl p.1 (M.fk (9,a,b,fs) j)=false)/\Below W.heap.size W wr) (fun j _=>2-(intOf j).toNat)
  case atStart=>exact⟨0,rfl,by omega,Lib.hid (fun j hj=>by omega),Below.refl _ _⟩
  case round=>
   obtain⟨t,rfl,ht,H,Bw⟩:=hrel;have sw:=Bw.size
   by_cases hlt:t<2
   ·have hl2:=HL2.out;generalize hy:zab p.1 (M.fk (9,a,b,fs) t)=y at *;obtain⟨y0,y1,y2,y3⟩:=y;have hisc:=zeg hy;obtain⟨A5,c5,ri5,-,CX⟩:=zef h hrW hi X (j:=t) (by omega) (Lib.hid rfl) (Lib.hid hy) a0 A1 n1 c1 A3 n3 c3;have CX:=Lib.hid CX
    have HX:=Lib.hid (show ∃x,fs[1-t]?=some x/\M.i_ fs (1-t)=x by
     have:=List.getElem?_eq_getElem (show 1-t<fs.length by omega);exact⟨_,this,by rw[M.i_,this];rfl⟩)
    obtain⟨z0,z1,z2,z3,zf,zl⟩:=PX.later Bw;have hlt3:(t:Int)<(2:Int):=(by omega);have hct:((t:Nat):Int)=0\/((t:Nat):Int)=1:=(by omega);have HY:=Lib.hid hy;clear hy HW hl2;cases hz:decide (y0=2)
    ·have HN:=Lib.hid (show ∀j,j<t+1->zbl p.1 (M.fk (9,a,b,fs) j)=false from fun j hj=>by
      rcases Nat.lt_or_eq_of_le (Nat.le_of_lt_succ hj)with h1|rfl
      ·exact H.out j h1
      rw[hisc,hz])
     have IC:=Lib.hid (zeh (a:=y1) (b:=y2) (A:=A5) (n:=y3.length) (c:=c5) hz);clear hz hisc;go_wp2_with fail;refine(CX.out wr Bw).mono ?_;rintro e w1 ⟨rfl,bel⟩;go_wp2_with fail;refine(IC.out _).mono ?_;rintro e w2 ⟨rfl,bel2⟩;go_wp2_with fail;go_roundw
     case rel=>exact⟨t+1,by go_num,by omega,HN,zaa Bw (zaa bel bel2)⟩
     case measure=>simp[intOf];omega
    have IC:=Lib.hid (zeh (a:=y1) (b:=y2) (A:=A5) (n:=y3.length) (c:=c5) hz);obtain⟨xx,hxx,hxi⟩:=HX.out
    have FB:=Lib.hid (show zbw p.1 (9,a,b,fs)=true by
     rw[zbw,Bool.and_eq_true,Bool.or_eq_true];refine⟨by simp,?_⟩;rcases(show t=0\/t=1 by omega)with rfl|rfl
     ·exact .inl (hisc.trans hz)
     exact .inr (hisc.trans hz))
    have FN:=Lib.hid (show zdp p.1 (9,a,b,fs)=(5,y1,0,[xx])by
     rw[zdp];rcases(show t=0\/t=1 by omega)with rfl|rfl
     ·rw[if_pos (hisc.trans hz),HY.out,<-hxi]
     rw[if_neg (by rw[H.out 0 (by omega)];decide),HY.out,<-hxi])
    clear hz hisc hxi;go_wp2_with fail;refine(CX.out wr Bw).mono ?_;rintro e w1 ⟨rfl,bel⟩;go_wp2_with fail;refine(IC.out _).mono ?_;rintro e w2 ⟨rfl,bel2⟩;have B2:=zaa Bw (zaa bel bel2);have PB:=PX.later B2;have NB:=NX.later B2;have ZB:=ZX.later B2;rw[HL2.out]at NB;obtain⟨u,hsub,hu1⟩:∃u:Nat,(1:Int)-(t:Int)=(u:Int)/\1-t=u:=⟨1-t,by omega,rfl⟩;have hu2:(u:Int)<(2:Int):=(by omega);rw[hu1]at hxx;have cu:w2.cell? ⟨bf,of_+u,none⟩=some (.int .i64 xx):=(B2.cell (by exact lbf)).trans ((B0.cell (by exact hbf)).trans (HCF.out u xx hxx));have gy0:=cell_regrown PB.c0;have gy1:=cell_regrown PB.c1;have gy2:=cell_regrown PB.c2;have gy3:=cell_regrown PB.c3;have yn:=cell_regrown NB.c3;have yc:=cell_regrown cu;have D2:Below w2.heap.size w2 w2.drew:=zae (Below.refl _ _) 1;have hd2:w2.drew.heap.size=w2.heap.size:=rfl;clear z0 z1 z2 z3 zf hxx hu1 hct hlt3;go_wp2_with fail
    (refine zf5 [1,2,5,7,8] [0,6,9,10] 4 (.two 3 (.first 4 (.one 11 (.first 12 .rest))) 11 (.one 3 (.first 4 (.first 12 .rest)))) [13] [13,14] (by kernel_rfl) (by kernel_rfl) ?_;simp only[zar];simp only[List.filterMap,List.getElem?_cons_succ,List.getElem?_cons_zero];(repeat (go_big_quiet_step (fail)));refine wpQuiet_nil ?_;(repeat (go_big_quiet_step (fail)));refine wpQuiet_nil ?_)
    refine zji rfl rfl ?_ ?_
    ·go_wp2_with fail;refine(CX.out w2.drew (zaa B2 D2)).mono ?_;rintro e w3 ⟨rfl,bel3⟩;have Bd3:=zaa D2 bel3;go_wp2_with fail;refine⟨regrown_of_below Bd3,?_⟩
     (refine zdq rfl ?_;(repeat (go_big_quiet_step (fail)));refine wpQuiet_nil ?_)
     refine zdm rfl ?_;obtain⟨U,hU,BU,sU,x0,xf⟩:=zjf w3 (.int .i64 xx) 2;have B4:=zaa Bd3 BU;go_wp2_with fail;rw[<-hU];refine⟨regrown_of_below B4,?_⟩
     (refine zdq rfl ?_;(repeat (go_big_quiet_step (fail)));refine wpQuiet_nil ?_)
     refine zev ?_;have Z4:=ZB.later B4;obtain⟨T,hT,ZT,chT,sT⟩:=Z4.set (.int .i64 5) (.int .i64 y1) (.int .i64 0) (.slice (some ⟨w3.heap.size,0,none⟩) 1 1);have B5:=B0.trans ((zaa B2 B4).mono (by omega));have BT:Below w.heap.size w T:=B5.trans (chT.toBelow (fun b (hb:b=_)=>by omega) (by have:=B5.size;omega));have HB_:w.heap.size<=w3.heap.size:=(by have:=bel3.size;have:=B2.size;omega);have hl1:T.cell? ⟨w3.heap.size,0,none⟩=some (.int .i64 xx):=(chT.cell (by show w3.heap.size<U.heap.size;omega) (fun(e:_=_)=>by have:=bel3.size;have:=B2.size;omega)).trans x0;obtain⟨q0,q1,q2,q3,qf,ql⟩:=Z4;obtain⟨d0,d1,d2,d3,df,dl⟩:=ZT;have f0:=df 0;have f1:=df 1;have f2:=df 2;have f3:=df 3;have r0:=qf 0;have r1:=qf 1;have r2:=qf 2;have r3:=qf 3;have HT:=Lib.hid hT;clear gy0 gy1 gy2 gy3 yn yc hT hU sU x0 xf;go_wp2_with fail;rw[<-HT.out];refine bodyPost_ret (v:=.tuple #[.agg #[.int .i64 5,.int .i64 y1,.int .i64 0,.slice (some ⟨w3.heap.size,0,none⟩) 1 1],.bool true]) (by simp[results,Tryz.results205,go_sem,d0,d1,d2,d3,f0,f1,f2,f3]) rfl ?_;exact⟨.inl ⟨FB.out,y1,xx,_,_,FN.out,rfl,fun T_ hT_=>zhw hl1 HB_ hT_⟩,BT⟩
    obtain⟨U,hU,BU,sU,x0,xf⟩:=zjf w2 (.int .i64 xx) 2;have BD:Below w2.heap.size w2 U.drew:=zae BU 1;replace x0:U.drew.cell? ⟨w2.heap.size,0,none⟩=_:=x0;have sD:w2.heap.size<U.drew.heap.size:=(by show w2.heap.size<U.heap.size;omega);obtain⟨V,hV⟩:∃V,V=U.drew:=⟨_,rfl⟩;rw[<-hV]at x0 BD sD;rw[hU]at hV;go_wp2_with fail;rw[<-hV];clear hV hU BU sU xf;refine⟨regrown_of_below BD,zdm rfl ?_⟩;go_wp2_with fail;refine(CX.out V (zaa B2 BD)).mono ?_;rintro e w3 ⟨rfl,bel3⟩;have B4:=zaa BD bel3;go_wp2_with fail;refine⟨regrown_of_below B4,?_⟩
    (refine zdq rfl ?_;(repeat (go_big_quiet_step (fail)));refine wpQuiet_nil ?_)
    (refine zdq rfl ?_;(repeat (go_big_quiet_step (fail)));refine wpQuiet_nil ?_)
    refine zev ?_;have Z4:=ZB.later B4;have sB3:=bel3.size;obtain⟨T,hT,ZT,chT,sT⟩:=Z4.set (.int .i64 5) (.int .i64 y1) (.int .i64 0) (.slice (some ⟨w2.heap.size,0,none⟩) 1 1);have B5:=B0.trans ((zaa B2 B4).mono (by omega));have BT:Below w.heap.size w T:=B5.trans (chT.toBelow (fun b (hb:b=_)=>by omega) (by have:=B5.size;omega));have HB_:w.heap.size<=w2.heap.size:=(by have:=B2.size;omega);have hl1:T.cell? ⟨w2.heap.size,0,none⟩=some (.int .i64 xx):=(chT.cell (by show w2.heap.size<w3.heap.size;omega) (fun(e:_=_)=>by have:=B2.size;omega)).trans ((bel3.cell (by exact sD)).trans x0);obtain⟨q0,q1,q2,q3,qf,ql⟩:=Z4;obtain⟨d0,d1,d2,d3,df,dl⟩:=ZT;have f0:=df 0;have f1:=df 1;have f2:=df 2;have f3:=df 3;have r0:=qf 0;have r1:=qf 1;have r2:=qf 2;have r3:=qf 3;have HT:=Lib.hid hT;clear gy0 gy1 gy2 gy3 yn yc hT x0;go_wp2_with fail;rw[<-HT.out];refine bodyPost_ret (v:=.tuple #[.agg #[.int .i64 5,.int .i64 y1,.int .i64 0,.slice (some ⟨w2.heap.size,0,none⟩) 1 1],.bool true]) (by simp[results,Tryz.results205,go_sem,d0,d1,d2,d3,f0,f1,f2,f3]) rfl ?_;exact⟨.inl ⟨FB.out,y1,xx,_,_,FN.out,rfl,fun T_ hT_=>zhw hl1 HB_ hT_⟩,BT⟩
   obtain rfl:t=2:=by omega
   have FB:=Lib.hid (show zbw p.1 (9,a,b,fs)=false by rw[zbw,H.out 0 (by omega),H.out 1 (by omega)];rfl);obtain⟨U,hU,Z2,ZU,BU⟩:=FIN.out wr Bw;have HU:=Lib.hid hU;obtain⟨q0,q1,q2,q3,qf,ql⟩:=Z2;obtain⟨d0,d1,d2,d3,df,dl⟩:=ZU;have f0:=df 0;have f1:=df 1;have f2:=df 2;have f3:=df 3;have r0:=qf 0;have r1:=qf 1;have r2:=qf 2;have r3:=qf 3;clear hU;go_wp2_with fail;rw[<-HU.out];refine bodyPost_ret (v:=.tuple #[.agg #[.int .i64 0,.int .i64 0,.int .i64 0,.slice none 0 0],.bool false]) (by simp[results,Tryz.results205,go_sem,d0,d1,d2,d3,f0,f1,f2,f3]) rfl ?_;exact⟨.inr ⟨FB.out,rfl⟩,BU⟩
 have FB:=Lib.hid (show zbw p.1 (k,a,b,fs)=false by rw[zbw];simp[hk]);have g:(k == 9)=false:=by simpa using hk
 obtain⟨d0,d1,d2,d3,df,dl⟩:=ZX;have f0:=df 0;have f1:=df 1;have f2:=df 2;have f3:=df 3;clear hfl;subst hA
 go_enter Tryz.func205,Tryz.ntmps205
 go_wp2_with fail;rw[<-HW.out];refine bodyPost_ret (v:=.tuple #[.agg #[.int .i64 0,.int .i64 0,.int .i64 0,.slice none 0 0],.bool false]) (by simp[results,Tryz.results205,go_sem,d0,d1,d2,d3,f0,f1,f2,f3]) rfl ?_;exact⟨.inr ⟨FB.out,rfl⟩,B0⟩
end
end
end Go.Proofs.YtifeldeikhmckaaGreat
