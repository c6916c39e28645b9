/- FnExactOptimizeSession answers true for every input. Conditions: none. -/
import Derived.Test.YtifeldeikhmckaaGreatRows
import Derived.Test.YtifeldeikhmckaaGreatFnExactOptimizeSessionG47
import Derived.Test.YtifeldeikhmckaaGreatFnExactOptimizeSessionG48
import Derived.Test.YtifeldeikhmckaaGreatF1
import Derived.WalkKit
import Derived.ProofKit
import Derived.OpenShut
import Derived.ShutString
import Derived.ChangeOld
import Derived.Below
namespace Go.Proofs.YtifeldeikhmckaaGreat.fnExactOptimizeSession
open Go.ChangeShapes Go.WideShapes Go.ChangeAt Go.RowKit
open Go.ChangeMaps (open_string shut_string)
set_option linter.unusedVariables false
theorem own:ownKnob Tryz.prog.godebug=none:=by kernel_rfl
theorem laidOut:laidOutB Tryz.prog=true:=by kernel_rfl
theorem walk (p0:Int) (A0:Option Addr) (n0:Nat) (c0:Nat) (Ab0:Option Addr) (nb0:Nat) (cb0:Nat) (Ac0:Option Addr) (nc0:Nat) (cc0:Nat) (Ad0:Option Addr) (nd0:Nat) (cd0:Nat) (Ae0:Option Addr) (ne0:Nat) (ce0:Nat) (x0:Sess) (w:World) (hx0:tZ.R w w.heap.size [.int .i64 p0,.slice A0 n0 c0,.slice Ab0 nb0 cb0,.slice Ac0 nc0 cc0,.slice Ad0 nd0 cd0,.slice Ae0 ne0 ce0] x0) :
    Calls Tryz.prog 3 #[.agg #[.int .i64 p0,.slice A0 n0 c0,.slice Ab0 nb0 cb0,.slice Ac0 nc0 cc0,.slice Ad0 nd0 cd0,.slice Ae0 ne0 ce0]] w fun e w'=>e=.returned (.bool true)∧Below w.heap.size w w':=by
  obtain⟨ND,hND⟩:=zxk
  obtain⟨NN,hNN⟩:=zxm hND
  by_cases hb:hZ.sz x0≤1048576
  · have hz:=zxq (NN:=NN) hND x0 hb
    exact zxr p0 A0 n0 c0 Ab0 nb0 cb0 Ac0 nc0 cc0 Ad0 nd0 cd0 Ae0 ne0 ce0 x0 (zcb ND NN x0).1 (zcb ND NN x0).2 w hx0 (by omega) (by have:=cl_Y (zcb ND NN x0).1;omega)
      (fun p0 A0 n0 c0 Ab0 nb0 cb0 Ac0 nc0 cc0 Ad0 nd0 cd0 Ae0 ne0 ce0 w h0 hs0=>zxp hND hNN _ _ _ _ _ _ _ _ _ _ _ _ _ _ _ _ _ _ h0 (by omega))
      (fun p0 A0 n0 c0 Ab0 nb0 cb0 Ac0 nc0 cc0 Ad0 nd0 cd0 Ae0 ne0 ce0 w h0 hs0=>zxo hND hNN _ _ _ _ _ _ _ _ _ _ _ _ _ _ _ _ _ _ h0 (by omega))
  · have hz:hZ.sz zh3≤100:=by show (0+(0+0+(0+0+(0+0+(0+0+(0+0))))):Nat)≤_;omega
    exact zxr p0 A0 n0 c0 Ab0 nb0 cb0 Ac0 nc0 cc0 Ad0 nd0 cd0 Ae0 ne0 ce0 x0 zh3 0 w hx0 (by omega) (by have:=cl_Y zh3;omega) (by intros;omega) (by intros;omega)
set_option maxHeartbeats 2000000 in
set_option maxRecDepth 100000 in
theorem lifted (os:Os) (started:os.Started) (H:Type) (enc:TypeId×Value→H) :
    ReturnsInHanded {} Tryz.checked os 3 .any (Rows.fnExactOptimizeSessionSpec.pre6 enc Tryz.prog Tryz.f3 Rows.fnExactOptimizeSessionRow.domain false) (Rows.fnExactOptimizeSessionSpec.post enc Tryz.prog Tryz.f3 false true false false):=by
  refine returnsInHanded_of_change (C:=Tryz.checked) own started (by kernel_rfl) Tryz.func3
    (ChangeSpec.witness6 (enc:=enc) (C:=Tryz.checked) false ⟨#[],#[.agg #[.int .i64 0,.slice none 0 0,.slice none 0 0,.slice none 0 0,.slice none 0 0,.slice none 0 0]],[]⟩ 8 (by kernel_rfl) (by kernel_rfl) (by kernel_rfl) (by kernel_rfl)) ?_
  intro W base args ds gs before hval0 hW hcnd _
  have hval : ∀(j:Nat) t v,Tryz.f3.params[j]?=some t→args[j]?=some v→Value.okWide Tryz.prog W .any base t v:=hval0
  have hW':=hW
  obtain⟨p,q,hA0,hV,rfl,hfz,hnd⟩:=hW
  have hA:DataW.TrodAll enc Tryz.prog W 0 (fun _=>true) true Tryz.f3.params.toList args.toList ds p:=hA0
  rw[Tryz.params3]at hA hval
  obtain⟨v0,vs0,d0,ds0,p0,q0,hargs,rfl,rfl,h0,r0⟩:=trodAll_cons hA
  obtain⟨rfl,rfl,rfl⟩:=trodAll_nil r0
  obtain rfl:args=#[v0]:=by cases args;simp_all
  obtain⟨rfl,rfl⟩:=trodVars_none hV
  have k0:=h0
  have lt0 : ∀x∈p0,x.block<W.heap.size:=by obtain⟨m,hm⟩:=k0;exact DataW.trod_lt m _ _ _ hm
  obtain⟨cs0,rfl,hsz0⟩:=okWide_struct Tryz.underlying30 (hval 0 30 v0 rfl rfl)
  obtain⟨x0,w0⟩ : ∃x,tZ.R W W.heap.size cs0.toList x:=by
    obtain⟨fuel,hf⟩:=h0
    exact zxs enc W 0 _ _ fuel _ _ (by simpa [Value.cells]using hf)
  obtain⟨p0,A0,n0,c0,Ab0,nb0,cb0,Ac0,nc0,cc0,Ad0,nd0,cd0,Ae0,ne0,ce0,hcs0⟩:=zxt w0
  obtain rfl:cs0=#[.int .i64 p0,.slice A0 n0 c0,.slice Ab0 nb0 cb0,.slice Ac0 nc0 cc0,.slice Ad0 nd0 cd0,.slice Ae0 ne0 ce0]:=by cases cs0;simp_all
  replace w0:tZ.R W W.heap.size [.int .i64 p0,.slice A0 n0 c0,.slice Ab0 nb0 cb0,.slice Ac0 nc0 cc0,.slice Ad0 nd0 cd0,.slice Ae0 ne0 ce0] x0:=w0
  clear hA0 hval0
  refine(walk p0 A0 n0 c0 Ab0 nb0 cb0 Ac0 nc0 cc0 Ad0 nd0 cd0 Ae0 ne0 ce0 x0 W w0).mono fun e W' ⟨he,bel⟩=>?_
  subst he
  exact⟨_,rfl,_,_,_,[],_,[],hW',trodAll_mk1 (shut_bool Tryz.underlying4 _),(trodAll_cons_mk (Below.trod laidOut (by kernel_rfl) (of_decide_eq_true (by kernel_rfl)) k0 bel lt0) trodAll_mk0),rfl,bel.frame _,fun h=>by cases h⟩
set_option maxRecDepth 100000 in
theorem closed:joinedFacts Tryz.prog 3 Tryz.f3 Rows.fnExactOptimizeSessionSpec Rows.fnExactOptimizeSessionRow=true:=by
  unfold joinedFacts
  simp only[Bool.and_eq_true,and_assoc]
  refine⟨by kernel_rfl,fact_lay,fact_maps,by kernel_rfl,by kernel_rfl,by kernel_rfl,fact_stops,by kernel_rfl,fact_knobs,by kernel_rfl,by kernel_rfl,by kernel_rfl,by kernel_rfl,by kernel_rfl,by kernel_rfl,by kernel_rfl,by kernel_rfl,by kernel_rfl,by kernel_rfl,by kernel_rfl,by kernel_rfl,by kernel_rfl,by kernel_rfl,by kernel_rfl,fact_heard,fact_enter,by rw[fact_final];rfl,by rw[fact_make];rfl,by kernel_rfl,by kernel_rfl,by kernel_rfl,by kernel_rfl⟩
theorem over:Rows.fnExactOptimizeSessionRow.holds Tryz.pinned (OpenSpec.ofChange Rows.fnExactOptimizeSessionSpec):=
  OpenClaim.holds_of_wide 3 Tryz.f3 rfl rfl rfl rfl rfl rfl rfl ⟨rfl,rfl,rfl,rfl,rfl⟩ rfl rfl rfl rfl rfl (by kernel_rfl) Tryz.func3 closed
    (of_decide_eq_true (by kernel_rfl)) (by unfold Func.isWrapper;first|(rw[if_pos (by decide +kernel)];kernel_rfl)|(rw[if_neg (by decide +kernel)];exact⟨rfl,rfl⟩))
    (fun os started H enc _=>lifted os started H enc)
theorem proved:Rows.FnExactOptimizeSessionSaid:=over
#print axioms proved
end Go.Proofs.YtifeldeikhmckaaGreat.fnExactOptimizeSession
