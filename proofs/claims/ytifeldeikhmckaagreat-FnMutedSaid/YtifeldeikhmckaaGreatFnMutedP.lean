/- FnMuted answers true for every input. Conditions: none. -/
import Derived.Test.YtifeldeikhmckaaGreatRows
import Derived.Test.YtifeldeikhmckaaGreatFnMutedG19
import Derived.Test.YtifeldeikhmckaaGreatF1
import Derived.WalkKit
import Derived.ProofKit
import Derived.OpenShut
import Derived.ShutString
import Derived.ChangeOld
import Derived.Below
namespace Go.Proofs.YtifeldeikhmckaaGreat.fnMuted
open Go.ChangeShapes Go.WideShapes Go.ChangeAt Go.RowKit
open Go.ChangeMaps (open_string shut_string)
set_option linter.unusedVariables false
theorem own:ownKnob Tryz.prog.godebug=none:=by kernel_rfl
theorem laidOut:laidOutB Tryz.prog=true:=by kernel_rfl
theorem walk (A0:Option Addr) (n0:Nat) (c0:Nat) (x0:List UInt8) (w:World) (hx0:tU.R w w.heap.size [.slice A0 n0 c0] x0) :
    Calls Tryz.prog 4 #[.slice A0 n0 c0] w fun e w'=>e=.returned (.bool true)∧Below w.heap.size w w':=by
  exact z0j A0 n0 c0 x0 w (sl_R.1 hx0)
set_option maxHeartbeats 2000000 in
set_option maxRecDepth 100000 in
theorem lifted (os:Os) (started:os.Started) (H:Type) (enc:TypeId×Value→H) :
    ReturnsInHanded {} Tryz.checked os 4 .any (Rows.fnMutedSpec.pre6 enc Tryz.prog Tryz.f4 Rows.fnMutedRow.domain false) (Rows.fnMutedSpec.post enc Tryz.prog Tryz.f4 false true false false):=by
  refine returnsInHanded_of_change (C:=Tryz.checked) own started (by kernel_rfl) Tryz.func4
    (ChangeSpec.witness6 (enc:=enc) (C:=Tryz.checked) false ⟨#[],#[.slice none 0 0],[]⟩ 8 (by kernel_rfl) (by kernel_rfl) (by kernel_rfl) (by kernel_rfl)) ?_
  intro W base args ds gs before hval0 hW hcnd _
  have hval : ∀(j:Nat) t v,Tryz.f4.params[j]?=some t→args[j]?=some v→Value.okWide Tryz.prog W .any base t v:=hval0
  have hW':=hW
  obtain⟨p,q,hA0,hV,rfl,hfz,hnd⟩:=hW
  have hA:DataW.TrodAll enc Tryz.prog W 0 (fun _=>true) true Tryz.f4.params.toList args.toList ds p:=hA0
  rw[Tryz.params4]at hA hval
  obtain⟨v0,vs0,d0,ds0,p0,q0,hargs,rfl,rfl,h0,r0⟩:=trodAll_cons hA
  obtain⟨rfl,rfl,rfl⟩:=trodAll_nil r0
  obtain rfl:args=#[v0]:=by cases args;simp_all
  obtain⟨rfl,rfl⟩:=trodVars_none hV
  have k0:=h0
  have lt0 : ∀x∈p0,x.block<W.heap.size:=by obtain⟨m,hm⟩:=k0;exact DataW.trod_lt m _ _ _ hm
  obtain⟨A0,n0,c0,rfl⟩:=okWide_slice Tryz.underlying45 (hval 0 45 v0 rfl rfl)
  obtain⟨x0,w0⟩ : ∃x,tU.R W W.heap.size [.slice A0 n0 c0] x:=by
    obtain⟨fuel,hf⟩:=h0
    exact z0k enc W 0 _ _ fuel _ _ (by simpa [Value.cells]using hf)
  clear hA0 hval0
  refine(walk A0 n0 c0 x0 W w0).mono fun e W' ⟨he,bel⟩=>?_
  subst he
  exact⟨_,rfl,_,_,_,[],_,[],hW',trodAll_mk1 (shut_bool Tryz.underlying4 _),(trodAll_cons_mk (Below.trod laidOut (by kernel_rfl) (of_decide_eq_true (by kernel_rfl)) k0 bel lt0) trodAll_mk0),rfl,bel.frame _,fun h=>by cases h⟩
set_option maxRecDepth 100000 in
theorem closed:joinedFacts Tryz.prog 4 Tryz.f4 Rows.fnMutedSpec Rows.fnMutedRow=true:=by
  unfold joinedFacts
  simp only[Bool.and_eq_true,and_assoc]
  refine⟨by kernel_rfl,fact_lay,fact_maps,by kernel_rfl,by kernel_rfl,by kernel_rfl,fact_stops,by kernel_rfl,fact_knobs,by kernel_rfl,by kernel_rfl,by kernel_rfl,by kernel_rfl,by kernel_rfl,by kernel_rfl,by kernel_rfl,by kernel_rfl,by kernel_rfl,by kernel_rfl,by kernel_rfl,by kernel_rfl,by kernel_rfl,by kernel_rfl,by kernel_rfl,fact_heard,fact_enter,by rw[fact_final];rfl,by rw[fact_make];rfl,by kernel_rfl,by kernel_rfl,by kernel_rfl,by kernel_rfl⟩
theorem over:Rows.fnMutedRow.holds Tryz.pinned (OpenSpec.ofChange Rows.fnMutedSpec):=
  OpenClaim.holds_of_wide 4 Tryz.f4 rfl rfl rfl rfl rfl rfl rfl ⟨rfl,rfl,rfl,rfl,rfl⟩ rfl rfl rfl rfl rfl (by kernel_rfl) Tryz.func4 closed
    (of_decide_eq_true (by kernel_rfl)) (by unfold Func.isWrapper;first|(rw[if_pos (by decide +kernel)];kernel_rfl)|(rw[if_neg (by decide +kernel)];exact⟨rfl,rfl⟩))
    (fun os started H enc _=>lifted os started H enc)
theorem proved:Rows.FnMutedSaid:=over
#print axioms proved
end Go.Proofs.YtifeldeikhmckaaGreat.fnMuted
