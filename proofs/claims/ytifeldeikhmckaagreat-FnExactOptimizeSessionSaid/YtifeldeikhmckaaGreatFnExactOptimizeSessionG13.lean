import Derived.StillTail
import Derived.Deep.Quiet
import Derived.BigQuiet
import Derived.Lib.QuietBelow
import Derived.Test.YtifeldeikhmckaaGreatFnExactOptimizeSessionG5
import Derived.Test.YtifeldeikhmckaaGreatFnExactOptimizeSessionG3
set_option linter.unusedVariables false
set_option linter.unusedSimpArgs false
set_option maxRecDepth 100000
set_option maxHeartbeats 4000000
namespace Go.Proofs.YtifeldeikhmckaaGreat
open Go.RowKit
section
open Go
section
variable {P:Program} {ops:Array Oper} {md:Region.Mode} {D:Yw->Prop}
def noX:Exit->Act->Yw->Prop:=fun _ _ _=>False
def zch (o:Oper):Bool:=
 match o.op with
 | .move _|.assign _|.load .. | .fieldAddr .. | .indexAddr .. | .nilCheck _|.binOp .. | .unOp .. | .pick .. | .slice .. | .convert .. | .extract .. | .field .. | .build ..=>true
 | _=>false
def NE (s:Sem Next):Prop:=∀(P:Program) (w:Yw) (n:Next) (w':Yw),s.run P w=.ok n w'->∃v,n=.value v
theorem NE.bind{α:Type}{s:Sem α}{k:α->Sem Next}(h:∀x,NE (k x)):NE (s >>= k):=by
 intro P w n w' e;rw[Sem.run_bind]at e;cases hs:s.run P w with
 | ok x w2=>rw[hs]at e;exact h x P w2 n w' e
 | halt x w2=>rw[hs]at e;simp[Result.andThen]at e
theorem NE.value(v:Value):NE (pure (.value v)):=by
 intro P w n w' e;rw[Sem.run_pure]at e;injection e with e
 exact⟨v,e.symm⟩
theorem NE.v(s:Sem Value):NE (do pure (Next.value (<-s))):=NE.bind fun _=>NE.value _
theorem zra{o:Oper}(h:zch o=true)(ρ:Operand->Value):NE (execOp ρ o):=by
 obtain⟨dst,op,type,pos,after,guard⟩:=o;cases op <;> simp only[zch,Bool.false_eq_true]at h <;> simp only[execOp]
 case nilCheck x=>
  split
  ·intro P w n w' e;simp[runtimePanic,Sem.run]at e
  ·intro P w n w' e;simp[runtimePanic,Sem.run]at e
  ·intro P w n w' e;simp[runtimePanic,Sem.run]at e
  ·split
   ·intro P w n w' e;simp[runtimePanic,Sem.run]at e
   ·refine NE.bind fun p=>NE.bind fun y=>?_
    split
    ·exact NE.bind fun _=>NE.value _
    exact NE.value _
   exact NE.value _
  exact NE.value _
 case pick c x y=>exact NE.bind fun _=>NE.value _
 all_goals first|exact NE.v _|exact NE.value _
def YieldsD (P:Program) (ops:Array Oper) (D:Yw->Prop) (o:Oper) (v:Value) (a:Act):Prop:=
 (Region.wanted o (yielded ops a.tmps)=true/\∀w,D w->(execOp a.eval o).run P w=.ok (.value v) w)\/
 (Region.wanted o (yielded ops a.tmps)=false/\v=undef)
theorem YieldsD.of_same{o:Oper}{v:Value}{a a':Act}(hy:YieldsD P ops D o v a)(he:execOp a'.eval o=execOp a.eval o)
 (hw:Region.wanted o (yielded ops a'.tmps)=Region.wanted o (yielded ops a.tmps)):YieldsD P ops D o v a':=by
 unfold YieldsD at *;rw[he,hw];exact hy
theorem YieldsD.of_quiet{o:Oper}{a:Act}{v:Value}(hp:zch o=true)(h:∀w,D w->o.quietAt P a D w v)(w:Yw)(hw:D w):(execOp a.eval o).run P w=.ok (.value v) w:=by
 have h1:=h w hw;have h2:=zra hp a.eval P w;unfold Oper.quietAt at h1;generalize (execOp a.eval o).run P w=r at h1 h2;cases r with
 | ok n w'=>
  obtain⟨u,rfl⟩:=h2 n w' rfl;simp only[Oper.quietUpon]at h1;obtain⟨e1,e2⟩:=h1;rw[e1,e2]
 | halt x w'=>simp only[Oper.quietUpon]at h1
theorem YieldsD.wpOp{i:Nat}{o:Oper}{v:Value}{a:Act}(hi:ops[i]?=some o)(hy:YieldsD P ops D o v a){K:Act->Yw->Prop}{w:Yw}{Q:Exit->Act->Yw->Prop}(hD:D w)(h:K (a.put o.dst v) w):wpOp P ops Q i K a w:=by
 unfold Go.wpOp;simp only[hi];rcases hy with⟨hw,hv⟩|⟨hw,rfl⟩
 ·simp only[hw,if_true,Oper.wp];rw[hv w hD];exact .inl h
 simp only[hw,Bool.false_eq_true,if_false];exact h
theorem zk8{j:Nat}{oi oj:Oper}{v:Value}(hj:ops[j]?=some oj)(hap:oi.apart ops oj=true)
 (hsi:∀cs b,oi.op≠.select cs b) (hsj:∀cs b,oj.op≠.select cs b) {K:Act->Yw->Prop} {a:Act} {w:Yw}
 (hy:YieldsD P ops D oi v a) (h:wpOp P ops noX j K (a.put oi.dst v) w) :
 wpOp P ops noX j (fun a' w'=>YieldsD P ops D oi v a'/\K (a'.put oi.dst v) w') a w:=by
 obtain⟨h1,h2,h3⟩:=Oper.apart_spec hap
 have keep:∀(a:Act),YieldsD P ops D oi v a->∀u,YieldsD P ops D oi v (a.put oj.dst u):=fun a hy u=>
  hy.of_same (execOp_put oi hsi a oj.dst u h3) (wanted_put oi a oj.dst u h3)
 have keepD:∀d,YieldsD P ops D oi v { a with defers:=d::a.defers }:=fun d=>hy.of_same rfl rfl
 unfold wpOp at *;simp only[hj]at *;rw[wanted_put oj a oi.dst v h1]at h
 split
 ·rename_i hw
  simp only[hw,if_true]at h;rcases h with h|⟨hasks,hlets⟩
  case inr=>exact .inr ⟨by unfold Oper.asks at *;rw[execOp_put oj hsj a oi.dst v h1]at hasks;exact hasks,hlets⟩
  refine .inl ?_;unfold Oper.wp at *;rw[execOp_put oj hsj a oi.dst v h1]at h;generalize (execOp a.eval oj).run P w=r at *;cases r with
  | ok n w'=>
   cases n <;> simp only[Oper.upon]at h ⊢
   case value u=>exact⟨keep a hy u,by rw[<-Act.put_comm a v u h2];exact h⟩
   case skip=>exact⟨keep a hy _,by rw[<-Act.put_comm a v undef h2];exact h⟩
   case defer d=>
    refine⟨keep _ (keepD d) _,?_⟩;rw[<-Act.put_comm _ v undef h2,<-Act.put_defers];exact h
   case enter f args=>
    refine Calls.mono h fun e w'' he=>?_
    cases e with
    | returned u=>exact⟨keep a hy u,by rw[<-Act.put_comm a v u h2];exact he⟩
    | panicked c=>exact he
    | outgrown=>exact he
   case row row args=>exact Rows.mono h fun u w'' he=>⟨keep a hy u,by rw[<-Act.put_comm a v u h2];exact he⟩
  | halt x w'=>
   cases x <;> simp only[Oper.upon]at h ⊢
   case panic u=>exact h
 rename_i hw
 simp only[hw]at h;exact⟨keep a hy _,by rw[<-Act.put_comm a v undef h2];exact h⟩
def upD (P:Program) (md:Region.Mode) (ops:Array Oper) (D:Yw->Prop) (T:Nat->Bool) (L:Array Bool->Act->Yw->Prop):Nat->Array Bool->Act->Yw->Prop
 | 0,listed,a,w=>D w/\L listed a w
 | f+1,listed,a,w=>D w/\Region.ready md ops listed≠[]/\∀i∈Region.ready md ops listed,T i=false/\wpOp P ops noX i (upD P md ops D T L f (listed.setIfInBounds i true)) a w
theorem zk9{i:Nat}{K:Act->Yw->Prop}{a:Act}{w:Yw}{Q:Exit->Act->Yw->Prop}(h:wpOp P ops noX i K a w):wpOp P ops Q i K a w:=by
 unfold wpOp at *
 split
 ·rename_i ho;simp only[ho]at h;exact h
 rename_i o ho
 simp only[ho]at h
 split
 ·rename_i hw
  simp only[hw,if_true]at h;rcases h with h|⟨_,a2,w2,hl⟩
  ·refine .inl ?_;unfold Oper.wp at *;generalize (execOp a.eval o).run P w=r at *;cases r with
   | ok n w'=>
    cases n <;> simp only[Oper.upon]at h ⊢
    case value u=>exact h
    case skip=>exact h
    case defer d=>exact h
    case enter f args=>
     refine Calls.mono h fun e w'' he=>?_
     cases e with
     | returned u=>exact he
     | panicked c=>exact he.elim
     | outgrown=>obtain⟨a3,w3,hl⟩:=he;exact hl.elim
    case row row args=>exact h
   | halt x w'=>
    cases x <;> simp only[Oper.upon]at h ⊢
    case panic u=>exact h.elim
  exact hl.elim
 rename_i hw
 simp only[hw]at h;exact h
theorem zrb{T:Nat->Bool}{g:Nat}{L:Array Bool->Act->Yw->Prop}{Q:Exit->Act->Yw->Prop}(hL:∀listed a w,L listed a w->wpAny P md ops Q g listed a w):
 ∀(f:Nat) (listed:Array Bool) (a:Act) (w:Yw),upD P md ops D T L f listed a w->wpAny P md ops Q (f+g) listed a w:=by
 intro f
 induction f with
 | zero=>intro listed a w h;rw[Nat.zero_add];exact hL _ _ _ h.2
 | succ f ih=>
  intro listed a w h;rw[show f+1+g=(f+g)+1 by omega];exact⟨fun h0=>absurd h0 h.2.1,fun i hi=>zk9 (wpOp_mono (fun a' w' h'=>ih _ a' w' h') (h.2.2 i hi).2)⟩
def zc4 (md:Region.Mode) (ops:Array Oper):Nat->Nat->Nat->Bool
 | 0,_,_=>false
 | f+1,t,i=>match ops[t]? with
  | some ot=>ot.after.any fun e=>Region.binds md e&&(e.on == i||zc4 md ops f e.on i)
  | none=>false
def Closed (md:Region.Mode) (ops:Array Oper) (listed:Array Bool):Prop:=
 ∀j oj,ops[j]?=some oj->listed.getD j false=true->∀e∈oj.after,Region.binds md e=true->listed.getD e.on false=true
theorem Closed.set{listed:Array Bool}(h:Closed md ops listed){i:Nat}(hi:i∈Region.ready md ops listed):Closed md ops (listed.setIfInBounds i true):=by
 obtain⟨_,oi,hoi,hall⟩:=mem_ready.1 hi;intro j oj hj hl e he hb
 by_cases hij:i=j
 ·subst hij;have:oj=oi:=Option.some.inj (hj.symm.trans hoi);subst this;exact getD_set_true (hall e he hb)
 rw[getD_set_ne false hij]at hl;exact getD_set_true (h j oj hj hl e he hb)
theorem zla{listed:Array Bool}(hc:Closed md ops listed):∀(f t i:Nat) (ot:Oper),ops[t]?=some ot->(∀e∈ot.after,Region.binds md e=true->listed.getD e.on false=true)->zc4 md ops f t i=true->listed.getD i false=true:=by
 intro f
 induction f with
 | zero=>intro t i ot _ _ h;simp[zc4]at h
 | succ f ih=>
  intro t i ot ho hall h;simp only[zc4,ho]at h;obtain⟨e,he,hb⟩:=Array.any_eq_true'.1 h;simp only[Bool.and_eq_true,Bool.or_eq_true,beq_iff_eq]at hb;obtain⟨hb1,hb2⟩:=hb;have hl:=hall e he hb1;rcases hb2 with h2|h2
  ·rw[<-h2];exact hl
  cases ho2:ops[e.on]? with
  | none=>
   cases f with
   | zero=>simp[zc4]at h2
   | succ f=>simp[zc4,ho2]at h2
  | some o2=>exact ih e.on i o2 ho2 (fun e2 he2 hb2=>hc e.on o2 ho2 hl e2 he2 hb2) h2
theorem zrc{T:Nat->Bool}{i:Nat}{oi:Oper}{v:Value}{L:Array Bool->Act->Yw->Prop}(hi:ops[i]?=some oi)(hsel:Region.noSelect ops=true)
 (hwait:∀t,T t=true->zc4 md ops ops.size t i=true) (hTi:T i=false)
 (hdone:∀listed a w,L listed a w->∀j∈Region.ready md ops listed,T j=true) :
 ∀(f:Nat) (listed:Array Bool) (a:Act) (w:Yw),Closed md ops listed->
  (∀j oj,ops[j]?=some oj->j≠i->listed.getD j true=false->(∀e∈oj.after,Region.binds md e=true->e.on≠i)->oi.apart ops oj=true)->
  i∈Region.ready md ops listed->YieldsD P ops D oi v a->D w->
  upD P md ops D T L f (listed.setIfInBounds i true) (a.put oi.dst v) w->upD P md ops D T L (f+1) listed a w:=by
 have late:∀(listed:Array Bool),Closed md ops listed->listed.getD i true=false->∀j∈Region.ready md ops listed,T j=false:=by
  intro listed hcl hun j hj;cases hT:T j with
  | false=>rfl
  | true=>
   obtain⟨_,oj,hoj,hall⟩:=mem_ready.1 hj;have:=zla hcl ops.size j i oj hoj hall (hwait j hT);rw[getD_both hun]at this;cases this
 intro f
 induction f with
 | zero=>
  intro listed a w hcl _ hr hy hD H;refine⟨hD,fun h=>(by rw[h]at hr;cases hr),fun j hj=>?_⟩;have hTj:=late listed hcl (mem_ready.1 hr).1 j hj;refine⟨hTj,?_⟩
  by_cases hji:j=i
  ·subst hji;exact hy.wpOp hi hD H
  ·have:=hdone _ _ _ H.2 j (ready_mono hj hji);rw[hTj]at this;cases this
 | succ f ih=>
  intro listed a w hcl hfree hr hy hD H;refine⟨hD,fun h=>(by rw[h]at hr;cases hr),fun j hj=>?_⟩;refine⟨late listed hcl (mem_ready.1 hr).1 j hj,?_⟩
  by_cases hji:j=i
  ·subst hji;exact hy.wpOp hi hD H
  obtain⟨hjun,oj,hoj,hall⟩:=mem_ready.1 hj
  have hnot:∀e∈oj.after,Region.binds md e=true->e.on≠i:=fun e he hb heq=>by
   have h1:=hall e he hb;rw[heq,getD_both (mem_ready.1 hr).1]at h1;cases h1
  have h2:=zk8 hoj (hfree j oj hoj hji hjun hnot) (fun cs b=>Region.noSelect_spec hsel i oi cs b hi) (fun cs b=>Region.noSelect_spec hsel j oj cs b hoj) hy (H.2.2 j (ready_mono hj hji)).2;refine wpOp_mono (fun a' w' h3=>?_) h2;obtain⟨h3,h4⟩:=h3
  have hD':D w':=by
   cases f with
   | zero=>exact h4.1
   | succ f=>exact h4.1
  refine ih (listed.setIfInBounds j true) a' w' (hcl.set hj) (fun k ok hk hki hun hno=>hfree k ok hk hki ?_ hno) (ready_mono hr (Ne.symm hji)) h3 hD' ?_
  ·by_cases hjk:j=k
   ·subst hjk;exact hjun
   rwa [getD_set_ne true hjk]at hun
  rw[Array.setIfInBounds_comm _ _ hji];exact h4
def zdz (md:Region.Mode) (ops:Array Oper):List Nat->Array Bool->Bool
 | [],listed=>(Region.ready md ops listed).isEmpty
 | b::bs,listed=>decide (Region.ready md ops listed=[b])&&zdz md ops bs (listed.setIfInBounds b true)
theorem zlb{Q:Exit->Act->Yw->Prop}:∀(B:List Nat) (l:List Oper) (listed:Array Bool) (a:Act) (w:Yw),l.map some=B.map (ops[·]?)->
 zdz md ops B listed=true->wpList P ops Q l a w->wpAny P md ops Q B.length listed a w:=by
 intro B
 induction B with
 | nil=>
  intro l listed a w hl hB h;obtain rfl:l=[]:=by cases l with|nil=>rfl|cons x xs=>simp at hl
  exact⟨by simpa [zdz]using hB,h⟩
 | cons b bs ih=>
  intro l listed a w hl hB h;cases l with
  | nil=>simp at hl
  | cons o l=>
   simp only[List.map_cons,List.cons.injEq]at hl;simp only[zdz,Bool.and_eq_true,decide_eq_true_eq]at hB;refine⟨fun h1=>(by rw[hB.1]at h1;cases h1),fun i hi=>?_⟩;rw[hB.1]at hi;obtain rfl:i=b:=by simpa using hi
   have hw:wpOp P ops Q i (wpList P ops Q l) a w:=(by unfold wpOp;simp only[<-hl.1];exact h);exact wpOp_mono (fun a' w' h'=>ih l _ a' w' hl.2 hB.2 h') hw
inductive Tr where
 | rest
 | one (b:Nat) (t:Tr)
 | two (b:Nat) (t:Tr) (b':Nat) (t':Tr)
def Tr.inB (l:List Nat):Tr->Bool
 | .rest=>true
 | .one b t=>!l.contains b&&t.inB l
 | .two b t b' t'=>!l.contains b&&!l.contains b'&&t.inB l&&t'.inB l
def zd0 (md:Region.Mode) (ops:Array Oper) (R:List Nat):Nat->Tr->Array Bool->Bool
 | 0,.rest,listed=>zdz md ops R listed
 | m+1,.one b t,listed=>decide (Region.ready md ops listed=[b])&&zd0 md ops R m t (listed.setIfInBounds b true)
 | m+1,.two b t b' t',listed=>decide (Region.ready md ops listed=[b,b'])&&zd0 md ops R m t (listed.setIfInBounds b true)&&zd0 md ops R m t' (listed.setIfInBounds b' true)
 | _,_,_=>false
def seqT (P:Program) (l:List Oper) (D:Yw->Prop) (Q:Exit->Act->Yw->Prop) (lr:List Oper):Tr->Act->Yw->Prop
 | .rest,a,w=>wpList P l.toArray Q lr a w
 | .one b t,a,w=>match l[b]? with
  | some o=>wpList P l.toArray (fun x a' w'=>x=.normal/\D w'/\seqT P l D Q lr t a' w') [o] a w
  | none=>False
 | .two b t b' t',a,w=>(match l[b]? with
  | some o=>wpList P l.toArray (fun x a' w'=>x=.normal/\D w'/\seqT P l D Q lr t a' w') [o] a w
  | none=>False)/\(match l[b']? with
  | some o=>wpList P l.toArray (fun x a' w'=>x=.normal/\D w'/\seqT P l D Q lr t' a' w') [o] a w
  | none=>False)
theorem zrd{o:Oper}{i:Nat}(hi:ops[i]?=some o){K:Act->Yw->Prop}{a:Act}{w:Yw}(h:wpList P ops (fun x a' w'=>x=.normal/\K a' w') [o] a w):wpOp P ops noX i K a w:=by
 unfold wpOp;simp only[hi];unfold wpList at h
 split
 ·rename_i hw
  simp only[hw,if_true]at h;rcases h with h|⟨_,a2,w2,hl,_⟩
  ·refine .inl ?_;unfold Oper.wp at *;generalize (execOp a.eval o).run P w=r at *;cases r with
   | ok n w'=>
    cases n <;> simp only[Oper.upon]at h ⊢
    case value u=>exact h.2
    case skip=>exact h.2
    case defer d=>exact h.2
    case enter f args=>
     refine Calls.mono h fun e w'' he=>?_
     cases e with
     | returned u=>exact he.2
     | panicked c=>exact absurd he.1 (by simp)
     | outgrown=>obtain⟨a3,w3,hl,_⟩:=he;exact absurd hl (by simp)
    case row row args=>exact Rows.mono h fun u w'' he=>he.2
   | halt x w'=>
    cases x <;> simp only[Oper.upon]at h ⊢
    case panic u=>exact absurd h.1 (by simp)
  exact absurd hl (by simp)
 rename_i hw
 simp only[hw]at h;exact h.2
theorem zfm{l:List Oper}{b:Nat}{K:Act->Yw->Prop}{a:Act}{w:Yw}(h:match l[b]? with
 | some o=>wpList P l.toArray (fun x a' w'=>x=.normal/\K a' w') [o] a w
 | none=>False):wpOp P l.toArray noX b K a w:=by
 cases ho:l[b]? with
 | none=>rw[ho]at h;exact h.elim
 | some o=>rw[ho]at h;exact zrd (ops:=l.toArray) (by simpa using ho) h
theorem zre{l:List Oper}{T:Nat->Bool}{Q:Exit->Act->Yw->Prop}{R:List Nat}{lr:List Oper}:∀(m:Nat) (t:Tr) (listed:Array Bool) (a:Act) (w:Yw),
 zd0 md l.toArray R m t listed=true->t.inB R=true->(∀b,T b=R.contains b)->D w->seqT P l D Q lr t a w->
 upD P md l.toArray D T (fun listed' a' w'=>zdz md l.toArray R listed'=true/\wpList P l.toArray Q lr a' w') m listed a w:=by
 intro m
 induction m with
 | zero=>
  intro t listed a w hB _ _ hD h;cases t with
  | rest=>exact⟨hD,by simpa [zd0]using hB,h⟩
  | one b t=>simp[zd0]at hB
  | two b t b' t'=>simp[zd0]at hB
 | succ m ih=>
  intro t listed a w hB hI hT hD h;cases t with
  | rest=>simp[zd0]at hB
  | one b t=>
   simp only[zd0,Bool.and_eq_true,decide_eq_true_eq]at hB;simp only[Tr.inB,Bool.and_eq_true,Bool.not_eq_true']at hI;refine⟨hD,fun h1=>(by rw[hB.1]at h1;cases h1),fun i hi=>?_⟩;rw[hB.1]at hi;obtain rfl:i=b:=by simpa using hi
   refine⟨by rw[hT];exact hI.1,?_⟩;exact wpOp_mono (fun a' w' h'=>ih t _ a' w' hB.2 hI.2 hT h'.1 h'.2) (zfm (K:=fun a' w'=>D w'/\seqT P l D Q lr t a' w') h)
  | two b t b' t'=>
   simp only[zd0,Bool.and_eq_true,decide_eq_true_eq]at hB;simp only[Tr.inB,Bool.and_eq_true,Bool.not_eq_true']at hI;refine⟨hD,fun h1=>(by rw[hB.1.1]at h1;cases h1),fun i hi=>?_⟩;rw[hB.1.1]at hi;have hi':i=b\/i=b':=(by simpa using hi);rcases hi' with rfl|rfl
   ·refine⟨by rw[hT];exact hI.1.1.1,?_⟩;exact wpOp_mono (fun a' w' h'=>ih t _ a' w' hB.1.2 hI.1.2 hT h'.1 h'.2) (zfm (K:=fun a' w'=>D w'/\seqT P l D Q lr t a' w') h.1)
   refine⟨by rw[hT];exact hI.1.1.2,?_⟩;exact wpOp_mono (fun a' w' h'=>ih t' _ a' w' hB.2 hI.2 hT h'.1 h'.2) (zfm (K:=fun a' w'=>D w'/\seqT P l D Q lr t' a' w') h.2)
def zhg (md:Region.Mode) (ops:Array Oper) (R:List Nat) (m:Nat) (t:Tr):List Nat->Array Bool->Bool
 | [],listed=>zd0 md ops R m t listed
 | i::is,listed=>(Region.ready md ops listed).contains i&&Region.free md ops listed i&&zhg md ops R m t is (listed.setIfInBounds i true)
theorem zrf{l:List Oper}{T:Nat->Bool}{Q:Exit->Act->Yw->Prop}{R:List Nat}{lr:List Oper}{m:Nat}{t:Tr}(hsel:Region.noSelect l.toArray=true)(hI:t.inB R=true)(hT:∀b,T b=R.contains b):
 ∀(F:List Nat) (k:List Oper) (listed:Array Bool) (a:Act) (w:Yw),k.map some=F.map (l.toArray[·]?)->k.all zch=true->Closed md l.toArray listed->zhg md l.toArray R m t F listed=true->
 (∀i∈F,T i=false/\∀t,T t=true->zc4 md l.toArray l.toArray.size t i=true)->D w->wpQuiet P l.toArray D (fun a'=>seqT P l D Q lr t a' w) k a->
 upD P md l.toArray D T (fun listed' a' w'=>zdz md l.toArray R listed'=true/\wpList P l.toArray Q lr a' w') (F.length+m) listed a w:=by
 intro F
 induction F with
 | nil=>
  intro k listed a w hk _ hc hB _ hD h;obtain rfl:k=[]:=by cases k with|nil=>rfl|cons x xs=>simp at hk
  simp only[List.length_nil,Nat.zero_add];exact zre m t listed a w hB hI hT hD h
 | cons i is ih=>
  intro k listed a w hk hp hc hB hW hD h;cases k with
  | nil=>simp at hk
  | cons o k=>
   simp only[List.map_cons,List.cons.injEq]at hk;simp only[List.all_cons,Bool.and_eq_true]at hp;simp only[zhg,Bool.and_eq_true]at hB;obtain⟨⟨hr,hf⟩,hB2⟩:=hB;have hr':i∈Region.ready md l.toArray listed:=(by simpa using hr);have hq:qOp P l.toArray D i (wpQuiet P l.toArray D (fun a'=>seqT P l D Q lr t a' w) k) a:=(by unfold qOp;simp only[<-hk.1];exact h);obtain⟨v,hy,hK⟩:=yieldsIn_of_qOp hk.1.symm hq
   have hy2:YieldsD P l.toArray D o v a:=by
    rcases hy with⟨hw,h1⟩|⟨hw,rfl⟩
    ·exact .inl ⟨hw,YieldsD.of_quiet hp.1 h1⟩
    exact .inr ⟨hw,rfl⟩
   obtain⟨hTi,hwait⟩:=hW i (by simp);rw[List.length_cons,show is.length+1+m=(is.length+m)+1 by omega];refine zrc hk.1.symm hsel hwait hTi ?_ (is.length+m) listed a w hc (Region.free_spec hk.1.symm hf) hr' hy2 hD (ih k _ _ w hk.2 hp.2 (hc.set hr') hB2 (fun j hj=>hW j (by simp[hj])) hD hK);intro listed' a' w' hL j hj;cases hd:R with
   | nil=>
    rw[hd]at hL;have:=hL.1;simp only[zdz,List.isEmpty_iff]at this;rw[this]at hj;cases hj
   | cons b bs=>
    rw[hd]at hL;have:=hL.1;simp only[zdz,Bool.and_eq_true,decide_eq_true_eq]at this;rw[this.1]at hj;obtain rfl:j=b:=by simpa using hj
    rw[hT,hd];simp
def zhh (md:Region.Mode) (ops:Array Oper) (F:List Nat) (m:Nat) (t:Tr) (R:List Nat):List Nat->Array Bool->Bool
 | [],listed=>zhg md ops R m t F listed
 | i::is,listed=>(Region.ready md ops listed).contains i&&Region.free md ops listed i&&zhh md ops F m t R is (listed.setIfInBounds i true)
def zix (md:Region.Mode) (ops:Array Oper) (A F:List Nat) (m:Nat) (t:Tr) (R:List Nat):Bool:=
 Region.noSelect ops&&decide (A.length+F.length+(m+R.length)=ops.size)&&R.all (fun t=>F.all fun i=>zc4 md ops ops.size t i)&&F.all (fun i=>!R.contains i)&&t.inB R &&
  zhh md ops F m t R A (Array.replicate ops.size false)
theorem zrg{l:List Oper}{Q:Exit->Act->Yw->Prop}(hsel:Region.noSelect l.toArray=true)(hQ:∀c a w,Q (.panic c) a w->False){F R:List Nat}{m:Nat}{t:Tr}{lf lr:List Oper}(hlr:lr.map some=R.map (l.toArray[·]?))(hlf:lf.map some=F.map (l.toArray[·]?))(hpf:lf.all zch=true)
 (hreach:∀t∈R,∀i∈F,zc4 md l.toArray l.toArray.size t i=true) (hF:∀i∈F,R.contains i=false) (hI:t.inB R=true) :
 ∀(A:List Nat) (la:List Oper) (listed:Array Bool) (a:Act) (w:Yw),la.map some=A.map (l.toArray[·]?)->la.all zch=true->Closed md l.toArray listed->zhh md l.toArray F m t R A listed=true->
 D w->wpQuiet P l.toArray (fun _=>True) (fun a'=>wpQuiet P l.toArray D (fun a'=>seqT P l D Q lr t a' w) lf a') la a->wpAny P md l.toArray Q (A.length+F.length+(m+R.length)) listed a w:=by
 intro A
 induction A with
 | nil=>
  intro la listed a w hla _ hc hB hD h;obtain rfl:la=[]:=by cases la with|nil=>rfl|cons x xs=>simp at hla
  have h2:=zrf (md:=md) (T:=fun t=>R.contains t) (Q:=Q) (lr:=lr) hsel hI (fun b=>rfl) F lf listed a w hlf hpf hc hB (fun i hi=>⟨hF i hi,fun t ht=>hreach t (by simpa using ht) i hi⟩) hD h;have h3:=zrb (Q:=Q) (g:=R.length) (fun listed' a' w' hL=>zlb R lr listed' a' w' hlr hL.1 hL.2) _ _ _ _ h2;rw[List.length_nil,Nat.zero_add,show F.length+(m+R.length)=F.length+m+R.length by omega];exact h3
 | cons i is ih=>
  intro la listed a w hla hp hc hB hD h;cases la with
  | nil=>simp at hla
  | cons o la=>
   simp only[List.map_cons,List.cons.injEq]at hla;simp only[List.all_cons,Bool.and_eq_true]at hp;simp only[zhh,Bool.and_eq_true]at hB;obtain⟨⟨hr,hf⟩,hB2⟩:=hB;have hr':i∈Region.ready md l.toArray listed:=(by simpa using hr);have hq:qOp P l.toArray (fun _=>True) i (wpQuiet P l.toArray (fun _=>True) (fun a'=>wpQuiet P l.toArray D (fun a'=>seqT P l D Q lr t a' w) lf a') la) a:=(by unfold qOp;simp only[<-hla.1];exact h);obtain⟨v,hy,hK⟩:=yieldsIn_of_qOp hla.1.symm hq;rw[List.length_cons,show is.length+1+F.length+(m+R.length)=(is.length+F.length+(m+R.length))+1 by omega]
   have hy2:Yields P l.toArray o v a:=by
    rcases hy with⟨hw,h1⟩|⟨hw,rfl⟩
    ·exact .inl ⟨hw,fun w=>YieldsD.of_quiet hp.1 h1 w trivial⟩
    exact .inr ⟨hw,rfl⟩
   exact wpAny_first hla.1.symm (Region.noSelect_spec hsel) (fun c a w h=>(hQ c _ w h).elim) _ listed a w (Region.free_spec hla.1.symm hf) hr' hy2 (ih la _ _ w hla.2 hp.2 (hc.set hr') hB2 hD hK)
theorem zrh{i:Nat}{K K':Act->Yw->Prop}{a:Act}{w:Yw}{Q Q':Exit->Act->Yw->Prop}(hK:∀a w,K a w->K' a w)(hQ:∀x a w,Q x a w->Q' x a w)(h:wpOp P ops Q i K a w):wpOp P ops Q' i K' a w:=by
 unfold wpOp at *
 split
 ·rename_i ho;simp only[ho]at h;exact hK _ _ h
 rename_i o ho
 simp only[ho]at h
 split
 ·rename_i hw
  simp only[hw,if_true]at h;rcases h with h|⟨h1,a2,w2,hl⟩
  ·refine .inl ?_;unfold Oper.wp at *;generalize (execOp a.eval o).run P w=r at *;cases r with
   | ok n w'=>
    cases n <;> simp only[Oper.upon]at h ⊢
    case value u=>exact hK _ _ h
    case skip=>exact hK _ _ h
    case defer d=>exact hK _ _ h
    case enter f args=>
     refine Calls.mono h fun e w'' he=>?_
     cases e with
     | returned u=>exact hK _ _ he
     | panicked c=>exact hQ _ _ _ he
     | outgrown=>obtain⟨a3,w3,hl⟩:=he;exact⟨a3,w3,hQ _ _ _ hl⟩
    case row row args=>exact Rows.mono h fun u w'' he=>hK _ _ he
   | halt x w'=>
    cases x <;> simp only[Oper.upon]at h ⊢
    case panic u=>exact hQ _ _ _ h
  exact .inr ⟨h1,a2,w2,hQ _ _ _ hl⟩
 rename_i hw
 simp only[hw]at h;exact hK _ _ h
theorem zlc{Q Q':Exit->Act->Yw->Prop}(hQ:∀x a w,Q x a w->Q' x a w):∀(f:Nat) (listed:Array Bool) (a:Act) (w:Yw),wpAny P md ops Q f listed a w->wpAny P md ops Q' f listed a w:=by
 intro f
 induction f with
 | zero=>intro listed a w h;exact⟨h.1,hQ _ _ _ h.2⟩
 | succ f ih=>intro listed a w h;exact⟨fun h0=>hQ _ _ _ (h.1 h0),fun i hi=>zrh (fun a w h=>ih _ a w h) hQ (h.2 i hi)⟩
def zar (l:List Oper) (is:List Nat):List Oper:=is.filterMap (l[·]?)
theorem zfn{l:List Oper}:∀{is:List Nat},is.all (fun i=>decide (i<l.length))=true->(zar l is).map some=is.map (l.toArray[·]?):=by
 intro is
 induction is with
 | nil=>intro _;rfl
 | cons i is ih=>
  intro h;simp only[List.all_cons,Bool.and_eq_true,decide_eq_true_eq]at h;have e:l[i]?=some l[i]:=List.getElem?_eq_getElem h.1;have e2:zar l (i::is)=l[i]::zar l is:=by simp[zar,e]
  rw[e2,List.map_cons,List.map_cons,ih h.2];congr 1;simp[e]
theorem zri{id:Nat}{Q:Exit->Act->Yw->Prop}{a:Act}{w:Yw}{l:List Oper}(A F:List Nat)(m:Nat)(t:Tr)(R:List Nat)(hm:P.follows .mixedOrders=true)
 (hB:(zix .any l.toArray A F m t R&&(A++F++R).all (fun i=>decide (i<l.length))&&(zar l A).all zch&&(zar l F).all zch)=true) (hD:D { w with drawn:=w.drawn+1 })
 (h:wpQuiet P l.toArray (fun _=>True) (fun a'=>wpQuiet P l.toArray D (fun a'=>seqT P l D (fun x a w=>x=.normal/\Q .normal a w) (zar l R) t a' { w with drawn:=w.drawn+1 }) (zar l F) a') (zar l A) a) :
 (Code.region id l.toArray true).wp P Q a w:=by
 simp only[Bool.and_eq_true,List.all_append]at hB;obtain⟨⟨⟨hP,⟨hA,hF⟩,hBB⟩,hpA⟩,hpF⟩:=hB;simp only[zix,Bool.and_eq_true,decide_eq_true_eq]at hP;obtain⟨⟨⟨⟨⟨hsel,hsz⟩,hre⟩,hFn⟩,hI⟩,hgo⟩:=hP;refine wp_region_any hm ?_;have hc:Closed .any l.toArray (Array.replicate l.toArray.size false):=fun j oj _ hl=>(by rw[getD_replicate_false]at hl;cases hl)
 have h2:=zrg (P:=P) (md:=.any) (D:=D) (Q:=fun x a w=>x=.normal/\Q .normal a w) hsel (fun c a w h=>by cases h.1) (F:=F) (R:=R) (m:=m) (zfn hBB) (zfn hF) hpF
  (fun t ht i hi=>List.all_eq_true.1 (List.all_eq_true.1 hre t ht) i hi) (fun i hi=>by simpa using List.all_eq_true.1 hFn i hi) hI
  A (zar l A) _ a _ (zfn hA) hpA hc hgo hD h
 rw[hsz]at h2;exact zlc (fun x a w hx=>by obtain⟨rfl,h⟩:=hx;exact h) _ _ _ _ h2
theorem zcp{id:Nat}{Q:Exit->Act->Yw->Prop}{a:Act}{w:Yw}{l:List Oper}(A F:List Nat)(m:Nat)(t:Tr)(R:List Nat)(hm:P.follows .mixedOrders=true)
 (hB:(zix .any l.toArray A F m t R&&(A++F++R).all (fun i=>decide (i<l.length))&&(zar l A).all zch&&(zar l F).all zch)=true)
 (h:wpQuiet P l.toArray (fun _=>True) (fun a'=>wpQuiet P l.toArray (fun w'=>∃p:Regrown,w'=Go.Sort.grow (redrawn w p.d) p.os) (fun a'=>seqT P l (fun w'=>∃p:Regrown,w'=Go.Sort.grow (redrawn w p.d) p.os) (fun x a w=>x=.normal/\Q .normal a w) (zar l R) t a' w.drew) (zar l F) a') (zar l A) a) :
 (Code.region id l.toArray true).wp P Q a w:=
 zri (D:=fun w'=>∃p:Regrown,w'=Go.Sort.grow (redrawn w p.d) p.os) A F m t R hm hB ⟨⟨w.drawn+1,#[]⟩,by rw[Go.Sort.grow_empty];rfl⟩ h
variable {l:List Oper} {Q:Exit->Act->Yw->Prop} {lr:List Oper} {t t':Tr} {b b':Nat} {o o':Oper} {a:Act} {w:Yw}
theorem zat(h:l[b]?=some o)(k:wpList P l.toArray (fun x a' w'=>x=.normal/\D w'/\seqT P l D Q lr t a' w') [o] a w):seqT P l D Q lr (.one b t) a w:=by
 unfold seqT;rw[h];exact k
theorem zd9(h:l[b]?=some o)(h':l[b']?=some o')(k:wpList P l.toArray (fun x a' w'=>x=.normal/\D w'/\seqT P l D Q lr t a' w') [o] a w)
 (k':wpList P l.toArray (fun x a' w'=>x=.normal/\D w'/\seqT P l D Q lr t' a' w') [o'] a w):seqT P l D Q lr (.two b t b' t') a w:=by
 unfold seqT;rw[h,h'];exact⟨k,k'⟩
theorem zbr(k:wpList P l.toArray Q lr a w):seqT P l D Q lr .rest a w:=k
end
end
theorem zeq{w:Yw}{B:Nat}{A:Yo}{n c:Nat}{src:List (List Int)}(hr:RS tS w B (.slice A n c) src)(hb:Hid (∀x∈src,x.length<=1000000000)){k:Nat}(hk:k<n):
 ∃(bb o:Nat) (A1:Yo) (c1:Nat) (x:List Int),A=some ⟨bb,o,none⟩/\bb<B/\Hid (src[k]?=some x)/\w.cell? ⟨bb,o+k,none⟩=some (.slice A1 x.length c1)/\RI w B A1 x.length x/\x.length<=1000000000000:=by
 obtain rfl:src.length=n:=hr.cap.1;have hX:=List.getElem?_eq_getElem hk;obtain⟨bb,o,c1,cs,hv,hab,-,hE,hc⟩:=hr.atX hX;simp only[Value.slice.injEq]at hv;obtain⟨rfl,-,rfl⟩:=hv;obtain⟨A1,n1,c2,rfl⟩:=zf9 hE;have hR:=tS_R.1 hE;have hcap:=hR.cap;obtain rfl:(src[k]).length=n1:=hcap.1;have h0:w.cell? ⟨bb,o+k*1,none⟩=some (.slice A1 (src[k]).length c2):=hc 0 _ rfl;rw[Nat.mul_one]at h0;exact⟨bb,o,A1,c2,src[k],rfl,hab,Lib.hid hX,h0,hR.ri,by have:=hb.out _ (List.getElem_mem hk);omega⟩
theorem zrj(A:Yo)(n c:Nat)(src:List (List Int))(w:Yw)(hx:RS tS w w.heap.size (.slice A n c) src)(hb:Hid (∀x∈src,x.length<=1000000000))(hn:n<=1000000000):
 Calls Tryz.prog 139 #[.slice A n c] w fun e w'=>e=.returned (.bool (src.all M.sig))/\w=w':=by
 have hl:=Lib.hid hx.cap.1
 go_enter Tryz.func139,Tryz.ntmps139
 go_wp2
 go_loop [4,7] (fun _ i=>∃k:Nat,i=.int .i64 k/\k<=n/\Hid (src.all M.sig=(src.drop k).all M.sig)) (fun _ i=>n-(intOf i).toNat)
 case atStart=>exact⟨0,rfl,by omega,Lib.hid (by simp)⟩
 case round=>
  obtain⟨k,rfl,hk,H⟩:=hrel
  by_cases hlt:k<n
  ·obtain⟨bb,o,A1,c1,x,rfl,hbb,X,hc,hri,hxl⟩:=zeq hx hb hlt;have hd:=Lib.hid (M.drop_at X.out);cases hs:M.sig x
   ·have HS:=Lib.hid hs;clear hs;go_wp2_with fail;refine(zj4 _ _ _ _ _ hri hxl).mono ?_;rw[HS.out];rintro e w' ⟨rfl,rfl⟩;go_wp2;go_ret;exact⟨by rw[H.out,hd.out,List.all_cons,HS.out];rfl,rfl⟩
   have HS:=Lib.hid hs;clear hs;go_wp2_with fail;refine(zj4 _ _ _ _ _ hri hxl).mono ?_;rw[HS.out];rintro e w' ⟨rfl,rfl⟩;go_wp2;go_round
   case rel=>exact⟨k+1,by go_num,by omega,Lib.hid (by rw[H.out,hd.out,List.all_cons,HS.out,Bool.true_and])⟩
   case measure=>simp[intOf];omega
  have h9:=Lib.hid (show src.all M.sig=true by rw[H.out,List.drop_eq_nil_of_le (by rw[hl.out];omega)];rfl);go_wp2;go_ret;exact⟨zac h9.out.symm,rfl⟩
theorem zfc(A:Yo)(n c:Nat)(src:List (List Int))(w:Yw)(hx:RS tS w w.heap.size (.slice A n c) src)(hb:Hid (∀x∈src,x.length<=1000000000))(hn:n<=1000000000):
 Calls Tryz.prog 82 #[.slice A n c] w fun e w'=>e=.returned (.bool (zen src))/\w=w':=by
 have hl:=Lib.hid hx.cap.1
 by_cases h:n<=6
 ·go_enter Tryz.func82,Tryz.ntmps82
  go_wp2_with fail;refine(zrj _ _ _ _ _ hx hb hn).mono ?_;rintro e w' ⟨rfl,rfl⟩;go_wp2;go_ret;exact⟨zac (by simp[zen,hl.out,h]),rfl⟩
 go_enter Tryz.func82,Tryz.ntmps82
 go_wp2;go_ret;exact⟨zac (by simp[zen,hl.out,h]),rfl⟩
theorem zld(A:Yo)(n c:Nat)(w:Yw):Calls Tryz.prog 88 #[.slice A n c] w fun e w'=>e=.returned (.int .i64 n)/\w=w':=by
 go_enter Tryz.func88,Tryz.ntmps88
 go_wp2;go_ret;exact⟨rfl,rfl⟩
theorem zrk(b:Nat)(m d0 d1 d2 d3 d4:Int)(w:Yw)(g0:w.cell? ⟨b,0,none⟩=some (.int .i64 m)):
 Calls Tryz.prog 144 #[.agg #[.int .i64 d0,.int .i64 d1,.int .i64 d2,.int .i64 d3,.int .i64 d4],.pointer (some ⟨b,0,none⟩)] w fun e w'=>e=.returned (.bool (decide (m<=d0)))/\Below w.heap.size w w':=by
 have hb:b<w.heap.size:=World.block_lt_of_cell? w _ g0;have fin:Below w.heap.size w (w.alloc (.cells #[.int .i64 d0,.int .i64 d1,.int .i64 d2,.int .i64 d3,.int .i64 d4] 165)):=(Below.refl _ _).alloc (Nat.le_refl _) _
 go_enter Tryz.func144,Tryz.ntmps144
 go_wp2;go_ret;exact⟨rfl,fin⟩
theorem zrl(bb:Nat)(m:Int)(A:Yo)(n cap:Nat)(xs:List Clip)(w:Yw)(hx:RA cl 5 w w.heap.size A n xs)(hn:n<=1000000000)(hg:w.cell? ⟨bb,0,none⟩=some (.int .i64 m)):
 Calls Tryz.prog 195 #[.slice A n cap,.func (.func 144) #[] #[.pointer (some ⟨bb,0,none⟩)]] w fun e w'=>e=.returned (.int .i64 (zga (xs.findIdx? fun c=>decide (m<=c.1))))/\Below w.heap.size w w':=by
 have hl:=Lib.hid hx.len;have hbb:bb<w.heap.size:=World.block_lt_of_cell? w _ hg
 go_enter Tryz.func195,Tryz.ntmps195
 go_wp2
 go_loopw [5,8] (fun _ i wr=>∃k:Nat,i=.int .i64 k/\k<=n/\Hid (∀j,j<k->∀y:Clip,xs[j]?=some y->decide (m<=y.1)=false)/\Below w.heap.size w wr) (fun _ i _=>n-(intOf i).toNat)
 case atStart=>exact⟨0,rfl,by omega,Lib.hid (by omega),Below.refl _ _⟩
 case round=>
  obtain⟨k,rfl,hk,H,hb⟩:=hrel
  by_cases hlt:k<n
  ·obtain⟨b,o,⟨p0,p1,p2,p3,p4⟩,rfl,hab,X,hc⟩:=(hx.below hb).at ze5 (by decide) hlt;have hc0:wr.cell? ⟨b,o+k*5,none⟩=some (.int .i64 p0):=hc 0 _ rfl;have hc1:wr.cell? ⟨b,o+k*5+1,none⟩=some (.int .i64 p1):=hc 1 _ rfl;have hc2:wr.cell? ⟨b,o+k*5+2,none⟩=some (.int .i64 p2):=hc 2 _ rfl;have hc3:wr.cell? ⟨b,o+k*5+3,none⟩=some (.int .i64 p3):=hc 3 _ rfl;have hc4:wr.cell? ⟨b,o+k*5+4,none⟩=some (.int .i64 p4):=hc 4 _ rfl;clear hc;have hgr:wr.cell? ⟨bb,0,none⟩=some (.int .i64 m):=(by rw[hb.cell (by simpa using hbb)];exact hg);have cP:=Lib.hid (zrk bb m p0 p1 p2 p3 p4 wr hgr);cases hj:decide (m<=p0)
   ·have hj':=Lib.hid hj;clear hj;go_wp2_with (go_at_call 144;refine(cP.out).mono ?_;rw[hj'.out];rintro e w2 ⟨rfl,bel2⟩);go_roundw
    case rel=>exact⟨k+1,by go_num,by omega,Lib.hid (fun j hj y hy=>by rcases Nat.lt_succ_iff_lt_or_eq.1 hj with h|h;exact H.out j h y hy;subst h;rw[X.out]at hy;injection hy with hy;rw[<-hy];exact hj'.out),hb.trans (bel2.mono hb.size)⟩
    case measure=>simp[intOf];omega
   have hf:=Lib.hid (zpf (p:=fun c:Clip=>decide (m<=c.1)) X.out hj H.out);have hj':=Lib.hid hj;clear hj;go_wp2_with (go_at_call 144;refine(cP.out).mono ?_;rw[hj'.out];rintro e w2 ⟨rfl,bel2⟩);go_ret;exact⟨by rw[hf.out];rfl,hb.trans (bel2.mono hb.size)⟩
  have hf:=Lib.hid (zpg (xs:=xs) (p:=fun c:Clip=>decide (m<=c.1)) (fun j hj y hy=>H.out j (by rw[hl.out]at hj;omega) y hy));go_wp2;go_ret;exact⟨by rw[hf.out];rfl,hb⟩
theorem zrm(xs:List Clip)(m:Int):(zga (xs.findIdx? fun c=>decide (m<=c.1))≥0↔zbp xs m=false):=by
 unfold zbp;cases h:xs.findIdx? fun c=>decide (m<=c.1)with
 | none=>
  rw[List.findIdx?_eq_none_iff]at h;simp only[zga];constructor
  ·intro h2;omega
  ·intro h2;rw[List.all_eq_false]at h2;obtain⟨x,hx,h3⟩:=h2;have:=h x hx;simp at this h3;omega
 | some i=>
  rw[List.findIdx?_eq_some_iff_getElem]at h;obtain⟨hi,h2,_⟩:=h;simp only[zga];constructor
  ·intro _;rw[List.all_eq_false];exact⟨_,List.getElem_mem hi,by simp at h2 ⊢;omega⟩
  intro _;omega
theorem zrn(bb:Nat)(m:Int)(A:Yo)(n cap:Nat)(xs:List Clip)(w:Yw)(hx:RA cl 5 w w.heap.size A n xs)(hn:n<=1000000000)(hg:w.cell? ⟨bb,0,none⟩=some (.int .i64 m)):
 Calls Tryz.prog 143 #[.slice A n cap,.func (.func 144) #[] #[.pointer (some ⟨bb,0,none⟩)]] w fun e w'=>e=.returned (.bool (!zbp xs m))/\Below w.heap.size w w':=by
 have hF:=Lib.hid (zrm xs m);have hI:=Lib.hid (zrl bb m A n cap xs w hx hn hg);generalize zga (xs.findIdx? fun c=>decide (m<=c.1))=q at hF hI
 by_cases h:0<=q
 ·have R:=Lib.hid (hF.out.1 h)
  go_enter Tryz.func143,Tryz.ntmps143
  go_wp2_with fail;refine hI.out.mono ?_;rintro e w2 ⟨rfl,bel2⟩;go_wp2;go_ret;exact⟨zac (by rw[R.out];simp),bel2⟩
 have R:=Lib.hid (show zbp xs m=true by
  cases h2:zbp xs m
  ·exact absurd (hF.out.2 h2) h
  rfl)
 go_enter Tryz.func143,Tryz.ntmps143
 go_wp2_with fail;refine hI.out.mono ?_;rintro e w2 ⟨rfl,bel2⟩;go_wp2;go_ret;exact⟨zac (by rw[R.out];simpa using h),bel2⟩
theorem zro(A:Yo)(n c:Nat)(xs:List Clip)(m:Int)(w:Yw)(hx:RA cl 5 w w.heap.size A n xs)(hn:n<=1000000000):
 Calls Tryz.prog 87 #[.agg #[.slice A n c],.int .i64 m] w fun e w'=>e=.returned (.bool (zbp xs m))/\Below w.heap.size w w':=by
 obtain⟨W,hW⟩:∃W,W=(w.alloc (.cells #[.slice A n c] 98)).alloc (.cells #[.int .i64 m] 2):=⟨_,rfl⟩;have B0:Below w.heap.size w W:=by rw[hW];exact((Below.refl _ _).alloc (Nat.le_refl _) _).alloc (by simp) _
 have g0:W.cell? ⟨w.heap.size+1,0,none⟩=some (.int .i64 m):=by rw[hW];simp[go_sem]
 have HW:=Lib.hid hW;clear hW;have hx1:=hx.later B0
 go_enter Tryz.func87,Tryz.ntmps87
 go_wp2_with fail;rw[<-HW.out];refine(zrn (w.heap.size+1) m _ _ _ _ _ hx1 hn g0).mono ?_;rintro e w2 ⟨rfl,bel2⟩;go_wp2;go_ret;exact⟨zac (by simp),zaa B0 bel2⟩
end Go.Proofs.YtifeldeikhmckaaGreat
