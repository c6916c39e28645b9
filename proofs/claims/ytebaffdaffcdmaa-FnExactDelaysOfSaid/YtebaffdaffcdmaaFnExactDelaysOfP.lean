/-
  What is proved: the law FnExactDelaysOf answers true for every input and leaves its arguments as they were. Conditions: none.
  The frame below follows the one that the kit's own skeleton program writes for a law; the walk is mine.
-/
import Derived.Test.YtebaffdaffcdmaaRows
import Derived.Test.YtebaffdaffcdmaaLFnExactDelaysOf
import Derived.Test.YtebaffdaffcdmaaJ7
import Derived.Test.YtebaffdaffcdmaaW9A
import Derived.Test.YtebaffdaffcdmaaF1
import Derived.WalkKit
import Derived.ProofKit
import Derived.OpenShut
import Derived.ShutString
import Derived.ChangeOld
import Derived.Below
namespace Go.Proofs.Ytebaffdaffcdmaa.fnExactDelaysOf
open Go.ChangeShapes Go.WideShapes Go.ChangeAt Go.RowKit
open Go.ChangeMaps (open_string shut_string)
set_option linter.unusedVariables false

theorem own : ownKnob Try.prog.godebug = none := by kernel_rfl
theorem laidOut : laidOutB Try.prog = true := by kernel_rfl

theorem walk (A0 : Option Addr) (n0 : Nat) (c0 : Nat) (x0 : List (ByteArray × Int × List (Int × Int))) (w : World) (hx0 : tM.R w w.heap.size [.slice A0 n0 c0] x0) :
    Calls Try.prog 10 #[.agg #[.slice A0 n0 c0]] w fun e w' => e = .returned (.bool true) ∧ Below w.heap.size w w' := by
  have hz := M.delaysR_sz x0
  have hc := cl_SS (M.delaysR x0).1
  exact core_FnExactDelaysOf A0 n0 c0 x0 (M.delaysR x0).1 (M.delaysR x0).2 w hx0 (by omega) (by omega)
    (fun A n c w h hs => (spec_DelaysOf A n c x0 w h (by omega)).mono fun _ _ h => retSS_nf h)
    (fun A n c w h hs => (impl_DelaysOf A n c x0 w h (by omega)).mono fun _ _ h => retSS_nf h)

set_option maxHeartbeats 2000000 in
set_option maxRecDepth 100000 in
theorem lifted (os : Os) (started : os.Started) (H : Type) (enc : TypeId × Value → H) :
    ReturnsInHanded {} Try.checked os 10 .any (Rows.fnExactDelaysOfSpec.pre6 enc Try.prog Try.f10 Rows.fnExactDelaysOfRow.domain false) (Rows.fnExactDelaysOfSpec.post enc Try.prog Try.f10 false true false false) := by
  refine returnsInHanded_of_change (C := Try.checked) own started (by kernel_rfl) Try.func10
    (ChangeSpec.witness6 (enc := enc) (C := Try.checked) false ⟨#[], #[.agg #[.slice none 0 0]], []⟩ 8 (by kernel_rfl) (by kernel_rfl) (by kernel_rfl) (by kernel_rfl)) ?_
  intro W base args ds gs before hval0 hW hcnd _
  have hval : ∀ (j : Nat) t v, Try.f10.params[j]? = some t → args[j]? = some v → Value.okWide Try.prog W .any base t v := hval0
  have hW' := hW
  obtain ⟨p, q, hA0, hV, rfl, hfz, hnd⟩ := hW
  have hA : DataW.TrodAll enc Try.prog W 0 (fun _ => true) true Try.f10.params.toList args.toList ds p := hA0
  rw [Try.params10] at hA hval
  obtain ⟨v0, vs0, d0, ds0, p0, q0, hargs, rfl, rfl, h0, r0⟩ := trodAll_cons hA
  obtain ⟨rfl, rfl, rfl⟩ := trodAll_nil r0
  obtain rfl : args = #[v0] := by cases args; simp_all
  obtain ⟨rfl, rfl⟩ := trodVars_none hV
  have k0 := h0
  have lt0 : ∀ x ∈ p0, x.block < W.heap.size := by obtain ⟨m, hm⟩ := k0; exact DataW.trod_lt m _ _ _ hm
  obtain ⟨cs0, rfl, hsz0⟩ := okWide_struct Try.underlying24 (hval 0 24 v0 rfl rfl)
  obtain ⟨x0, w0⟩ : ∃ x, tM.R W W.heap.size cs0.toList x := by
    obtain ⟨fuel, hf⟩ := h0
    exact opens_M enc W 0 _ _ fuel _ _ (by simpa [Value.cells] using hf)
  obtain ⟨A0, n0, c0, hcs0⟩ := open_M w0
  obtain rfl : cs0 = #[.slice A0 n0 c0] := by cases cs0; simp_all
  replace w0 : tM.R W W.heap.size [.slice A0 n0 c0] x0 := w0
  clear hA0 hval0
  refine (walk A0 n0 c0 x0 W w0).mono fun e W' ⟨he, bel⟩ => ?_
  subst he
  exact ⟨_, rfl, _, _, _, [], _, [], hW', trodAll_mk1 (shut_bool Try.underlying4 _), (trodAll_cons_mk (Below.trod laidOut (by kernel_rfl) (of_decide_eq_true (by kernel_rfl)) k0 bel lt0) trodAll_mk0), rfl, bel.frame _, fun h => by cases h⟩

set_option maxRecDepth 100000 in
theorem closed : joinedFacts Try.prog 10 Try.f10 Rows.fnExactDelaysOfSpec Rows.fnExactDelaysOfRow = true := by
  unfold joinedFacts
  simp only [Bool.and_eq_true, and_assoc]
  refine ⟨by kernel_rfl, fact_lay, fact_maps, by kernel_rfl, by kernel_rfl, by kernel_rfl, fact_stops, by kernel_rfl, fact_knobs, by kernel_rfl, by kernel_rfl, by kernel_rfl, by kernel_rfl, by kernel_rfl, by kernel_rfl, by kernel_rfl, by kernel_rfl, by kernel_rfl, by kernel_rfl, by kernel_rfl, by kernel_rfl, by kernel_rfl, by kernel_rfl, by kernel_rfl, fact_heard, fact_enter, by rw [fact_final]; rfl, by rw [fact_make]; rfl, by kernel_rfl, by kernel_rfl, by kernel_rfl, by kernel_rfl⟩

theorem over : Rows.fnExactDelaysOfRow.holds Try.pinned (OpenSpec.ofChange Rows.fnExactDelaysOfSpec) :=
  OpenClaim.holds_of_wide 10 Try.f10 rfl rfl rfl rfl rfl rfl rfl ⟨rfl, rfl, rfl, rfl, rfl⟩ rfl rfl rfl rfl rfl (by kernel_rfl) Try.func10 closed
    (of_decide_eq_true (by kernel_rfl)) (by unfold Func.isWrapper; first | (rw [if_pos (by decide +kernel)]; kernel_rfl) | (rw [if_neg (by decide +kernel)]; exact ⟨rfl, rfl⟩))
    (fun os started H enc _ => lifted os started H enc)

theorem proved : Rows.FnExactDelaysOfSaid := over
#print axioms proved
end Go.Proofs.Ytebaffdaffcdmaa.fnExactDelaysOf
