/-
  What is proved: the law FnExactApplyCurve answers true for every input and leaves its arguments as they were. Conditions: none.
  The frame below follows the one that the kit's own skeleton program writes for a law; the walk is mine.
-/
import Derived.Test.YtckihflfjecpbaaRows
import Derived.Test.YtckihflfjecpbaaLFnExactApplyCurve
import Derived.Test.YtckihflfjecpbaaJ3
import Derived.Test.YtckihflfjecpbaaW39
import Derived.Test.YtckihflfjecpbaaF1
import Derived.WalkKit
import Derived.ProofKit
import Derived.OpenShut
import Derived.ShutString
import Derived.ChangeOld
import Derived.Below
namespace Go.Proofs.Ytckihflfjecpbaa.fnExactApplyCurve
open Go.ChangeShapes Go.WideShapes Go.ChangeAt Go.RowKit
open Go.ChangeMaps (open_string shut_string)
set_option linter.unusedVariables false

theorem own : ownKnob Try.prog.godebug = none := by kernel_rfl
theorem laidOut : laidOutB Try.prog = true := by kernel_rfl

theorem walk (A0 : Option Addr) (n0 : Nat) (c0 : Nat) (x0 : List Int) (A1 : Option Addr) (n1 : Nat) (c1 : Nat) (x1 : List (Int × Int)) (w : World) (hx0 : tS.R w w.heap.size [.slice A0 n0 c0] x0) (hx1 : tC.R w w.heap.size [.slice A1 n1 c1] x1) :
    Calls Try.prog 7 #[.slice A0 n0 c0, .agg #[.slice A1 n1 c1]] w fun e w' => e = .returned (.bool true) ∧ Below w.heap.size w w' := by
  have hz : (M.applyR x0 x1).1.length ≤ 4000 := by
    unfold M.applyR
    split
    · rename_i h
      rw [Bool.and_eq_true, M.sig, Bool.and_eq_true, decide_eq_true_iff] at h
      show (M.applyL x0 x1).length ≤ 4000
      rw [M.applyL_len]
      exact h.2.1
    · simp
  exact core_FnExactApplyCurve A0 n0 c0 x0 A1 n1 c1 x1 (M.applyR x0 x1).1 (M.applyR x0 x1).2 w hx0 hx1 (by rw [hS_sz]; omega) (by rw [hS_cnt]; omega)
    (fun A0 n0 c0 A1 n1 c1 w h0 h1 hs0 hs1 => (spec_ApplyCurve A0 A1 n0 c0 n1 c1 x0 x1 w (tS_R.1 h0).ri (tC_ra h1) (by have := (tS_R.1 h0).cap.1; rw [hS_sz] at hs0; omega) (by have := (tC_n h1).1; rw [hC_sz] at hs1; omega)).mono fun _ _ h => ret2_nf h)
    (fun A0 n0 c0 A1 n1 c1 w h0 h1 hs0 hs1 => (impl_ApplyCurve A0 A1 n0 c0 n1 c1 x0 x1 w (tS_R.1 h0).ri (tC_ra h1) (by have := (tS_R.1 h0).cap.1; rw [hS_sz] at hs0; omega) (by have := (tC_n h1).1; rw [hC_sz] at hs1; omega)).mono fun _ _ h => ret2_nf h)

set_option maxHeartbeats 2000000 in
set_option maxRecDepth 100000 in
theorem lifted (os : Os) (started : os.Started) (H : Type) (enc : TypeId × Value → H) :
    ReturnsInHanded {} Try.checked os 7 .any (Rows.fnExactApplyCurveSpec.pre6 enc Try.prog Try.f7 Rows.fnExactApplyCurveRow.domain false) (Rows.fnExactApplyCurveSpec.post enc Try.prog Try.f7 false true false false) := by
  refine returnsInHanded_of_change (C := Try.checked) own started (by kernel_rfl) Try.func7
    (ChangeSpec.witness6 (enc := enc) (C := Try.checked) false ⟨#[], #[.slice none 0 0, .agg #[.slice none 0 0]], []⟩ 8 (by kernel_rfl) (by kernel_rfl) (by kernel_rfl) (by kernel_rfl)) ?_
  intro W base args ds gs before hval0 hW hcnd _
  have hval : ∀ (j : Nat) t v, Try.f7.params[j]? = some t → args[j]? = some v → Value.okWide Try.prog W .any base t v := hval0
  have hW' := hW
  obtain ⟨p, q, hA0, hV, rfl, hfz, hnd⟩ := hW
  have hA : DataW.TrodAll enc Try.prog W 0 (fun _ => true) true Try.f7.params.toList args.toList ds p := hA0
  rw [Try.params7] at hA hval
  obtain ⟨v0, vs0, d0, ds0, p0, q0, hargs, rfl, rfl, h0, r0⟩ := trodAll_cons hA
  obtain ⟨v1, vs1, d1, ds1, p1, q1, rfl, rfl, rfl, h1, r1⟩ := trodAll_cons r0
  obtain ⟨rfl, rfl, rfl⟩ := trodAll_nil r1
  obtain rfl : args = #[v0, v1] := by cases args; simp_all
  obtain ⟨rfl, rfl⟩ := trodVars_none hV
  have k0 := h0
  have lt0 : ∀ x ∈ p0, x.block < W.heap.size := by obtain ⟨m, hm⟩ := k0; exact DataW.trod_lt m _ _ _ hm
  obtain ⟨A0, n0, c0, rfl⟩ := okWide_slice Try.underlying41 (hval 0 41 v0 rfl rfl)
  obtain ⟨x0, w0⟩ : ∃ x, tS.R W W.heap.size [.slice A0 n0 c0] x := by
    obtain ⟨fuel, hf⟩ := h0
    exact opens_S enc W 0 _ _ fuel _ _ (by simpa [Value.cells] using hf)
  have k1 := h1
  have lt1 : ∀ x ∈ p1, x.block < W.heap.size := by obtain ⟨m, hm⟩ := k1; exact DataW.trod_lt m _ _ _ hm
  obtain ⟨cs1, rfl, hsz1⟩ := okWide_struct Try.underlying24 (hval 1 24 v1 rfl rfl)
  obtain ⟨x1, w1⟩ : ∃ x, tC.R W W.heap.size cs1.toList x := by
    obtain ⟨fuel, hf⟩ := h1
    exact opens_C enc W 0 _ _ fuel _ _ (by simpa [Value.cells] using hf)
  obtain ⟨A1, n1, c1, hcs1⟩ := open_C w1
  obtain rfl : cs1 = #[.slice A1 n1 c1] := by cases cs1; simp_all
  replace w1 : tC.R W W.heap.size [.slice A1 n1 c1] x1 := w1
  clear hA0 hval0
  refine (walk A0 n0 c0 x0 A1 n1 c1 x1 W w0 w1).mono fun e W' ⟨he, bel⟩ => ?_
  subst he
  exact ⟨_, rfl, _, _, _, [], _, [], hW', trodAll_mk1 (shut_bool Try.underlying4 _), (trodAll_cons_mk (Below.trod laidOut (by kernel_rfl) (of_decide_eq_true (by kernel_rfl)) k0 bel lt0) (trodAll_cons_mk (Below.trod laidOut (by kernel_rfl) (of_decide_eq_true (by kernel_rfl)) k1 bel lt1) trodAll_mk0)), rfl, bel.frame _, fun h => by cases h⟩

set_option maxRecDepth 100000 in
theorem closed : joinedFacts Try.prog 7 Try.f7 Rows.fnExactApplyCurveSpec Rows.fnExactApplyCurveRow = true := by
  unfold joinedFacts
  simp only [Bool.and_eq_true, and_assoc]
  refine ⟨by kernel_rfl, fact_lay, fact_maps, by kernel_rfl, by kernel_rfl, by kernel_rfl, fact_stops, by kernel_rfl, fact_knobs, by kernel_rfl, by kernel_rfl, by kernel_rfl, by kernel_rfl, by kernel_rfl, by kernel_rfl, by kernel_rfl, by kernel_rfl, by kernel_rfl, by kernel_rfl, by kernel_rfl, by kernel_rfl, by kernel_rfl, by kernel_rfl, by kernel_rfl, fact_heard, fact_enter, by rw [fact_final]; rfl, by rw [fact_make]; rfl, by kernel_rfl, by kernel_rfl, by kernel_rfl, by kernel_rfl⟩

theorem over : Rows.fnExactApplyCurveRow.holds Try.pinned (OpenSpec.ofChange Rows.fnExactApplyCurveSpec) :=
  OpenClaim.holds_of_wide 7 Try.f7 rfl rfl rfl rfl rfl rfl rfl ⟨rfl, rfl, rfl, rfl, rfl⟩ rfl rfl rfl rfl rfl (by kernel_rfl) Try.func7 closed
    (of_decide_eq_true (by kernel_rfl)) (by unfold Func.isWrapper; first | (rw [if_pos (by decide +kernel)]; kernel_rfl) | (rw [if_neg (by decide +kernel)]; exact ⟨rfl, rfl⟩))
    (fun os started H enc _ => lifted os started H enc)

theorem proved : Rows.FnExactApplyCurveSaid := over
#print axioms proved
end Go.Proofs.Ytckihflfjecpbaa.fnExactApplyCurve
