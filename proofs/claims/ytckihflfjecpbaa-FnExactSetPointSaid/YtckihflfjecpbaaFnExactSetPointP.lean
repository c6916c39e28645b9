/-
  What is proved: the law FnExactSetPoint answers true for every input and leaves its arguments as they were. Conditions: none.
  The frame below follows the one that the kit's own skeleton program writes for a law; the walk is mine.
-/
import Derived.Test.YtckihflfjecpbaaRows
import Derived.Test.YtckihflfjecpbaaLFnExactSetPoint2
import Derived.Test.YtckihflfjecpbaaJ3
import Derived.Test.YtckihflfjecpbaaW31
import Derived.Test.YtckihflfjecpbaaF1
import Derived.WalkKit
import Derived.ProofKit
import Derived.OpenShut
import Derived.ShutString
import Derived.ChangeOld
import Derived.Below
namespace Go.Proofs.Ytckihflfjecpbaa.fnExactSetPoint
open Go.ChangeShapes Go.WideShapes Go.ChangeAt Go.RowKit
open Go.ChangeMaps (open_string shut_string)
set_option linter.unusedVariables false

theorem own : ownKnob Try.prog.godebug = none := by kernel_rfl
theorem laidOut : laidOutB Try.prog = true := by kernel_rfl

theorem walk (A0 : Option Addr) (n0 : Nat) (c0 : Nat) (x0 : List (Int × Int)) (a1_0 a1_1 : Int) (w : World) (hx0 : tC.R w w.heap.size [.slice A0 n0 c0] x0) :
    Calls Try.prog 3 #[.agg #[.slice A0 n0 c0], .agg #[.int .i64 a1_0, .int .i64 a1_1]] w fun e w' => e = .returned (.bool true) ∧ Below w.heap.size w w' := by
  have hz : (M.setR x0 (a1_0, a1_1)).1.length ≤ 24 := by
    unfold M.setR
    split
    · split
      · split
        · rename_i h; exact h
        · simp
      · simp
    · simp
  exact core_FnExactSetPoint A0 n0 c0 x0 a1_0 a1_1 (M.setR x0 (a1_0, a1_1)).1 (M.setR x0 (a1_0, a1_1)).2 w hx0 (by rw [hC_sz]; omega) (by rw [hC_cnt]; omega)
    (fun A n c w h hs => (spec_SetPoint A n c x0 a1_0 a1_1 w (tC_ra h) (by have := (tC_n h).1; rw [hC_sz] at hs; omega)).mono fun _ _ h => retC_nf h)
    (fun A n c w h hs => (impl_SetPoint A n c x0 a1_0 a1_1 w (tC_ra h) (by have := (tC_n h).1; rw [hC_sz] at hs; omega)).mono fun _ _ h => retC_nf h)

set_option maxHeartbeats 2000000 in
set_option maxRecDepth 100000 in
theorem lifted (os : Os) (started : os.Started) (H : Type) (enc : TypeId × Value → H) :
    ReturnsInHanded {} Try.checked os 3 .any (Rows.fnExactSetPointSpec.pre6 enc Try.prog Try.f3 Rows.fnExactSetPointRow.domain false) (Rows.fnExactSetPointSpec.post enc Try.prog Try.f3 false true false false) := by
  refine returnsInHanded_of_change (C := Try.checked) own started (by kernel_rfl) Try.func3
    (ChangeSpec.witness6 (enc := enc) (C := Try.checked) false ⟨#[], #[.agg #[.slice none 0 0], .agg #[.int .i64 0, .int .i64 0]], []⟩ 8 (by kernel_rfl) (by kernel_rfl) (by kernel_rfl) (by kernel_rfl)) ?_
  intro W base args ds gs before hval0 hW hcnd _
  have hval : ∀ (j : Nat) t v, Try.f3.params[j]? = some t → args[j]? = some v → Value.okWide Try.prog W .any base t v := hval0
  have hW' := hW
  obtain ⟨p, q, hA0, hV, rfl, hfz, hnd⟩ := hW
  have hA : DataW.TrodAll enc Try.prog W 0 (fun _ => true) true Try.f3.params.toList args.toList ds p := hA0
  rw [Try.params3] at hA hval
  obtain ⟨v0, vs0, d0, ds0, p0, q0, hargs, rfl, rfl, h0, r0⟩ := trodAll_cons hA
  obtain ⟨v1, vs1, d1, ds1, p1, q1, rfl, rfl, rfl, h1, r1⟩ := trodAll_cons r0
  obtain ⟨rfl, rfl, rfl⟩ := trodAll_nil r1
  obtain rfl : args = #[v0, v1] := by cases args; simp_all
  obtain ⟨rfl, rfl⟩ := trodVars_none hV
  have k0 := h0
  have lt0 : ∀ x ∈ p0, x.block < W.heap.size := by obtain ⟨m, hm⟩ := k0; exact DataW.trod_lt m _ _ _ hm
  obtain ⟨cs0, rfl, hsz0⟩ := okWide_struct Try.underlying24 (hval 0 24 v0 rfl rfl)
  obtain ⟨x0, w0⟩ : ∃ x, tC.R W W.heap.size cs0.toList x := by
    obtain ⟨fuel, hf⟩ := h0
    exact opens_C enc W 0 _ _ fuel _ _ (by simpa [Value.cells] using hf)
  obtain ⟨A0, n0, c0, hcs0⟩ := open_C w0
  obtain rfl : cs0 = #[.slice A0 n0 c0] := by cases cs0; simp_all
  replace w0 : tC.R W W.heap.size [.slice A0 n0 c0] x0 := w0
  have k1 := h1
  have lt1 : ∀ x ∈ p1, x.block < W.heap.size := by obtain ⟨m, hm⟩ := k1; exact DataW.trod_lt m _ _ _ hm
  obtain ⟨cs1, rfl, hsz1⟩ := okWide_struct Try.underlying26 (hval 1 26 v1 rfl rfl)
  obtain ⟨x1, w1⟩ : ∃ x, tPt.R W W.heap.size cs1.toList x := by
    obtain ⟨fuel, hf⟩ := h1
    exact opens_P enc W 0 _ _ fuel _ _ (by simpa [Value.cells] using hf)
  obtain ⟨a1_0, a1_1⟩ := x1
  obtain rfl : cs1 = #[.int .i64 a1_0, .int .i64 a1_1] := by have hcs : cs1.toList = [.int .i64 a1_0, .int .i64 a1_1] := w1; cases cs1; simp_all
  clear hA0 hval0
  refine (walk A0 n0 c0 x0 a1_0 a1_1 W w0).mono fun e W' ⟨he, bel⟩ => ?_
  subst he
  exact ⟨_, rfl, _, _, _, [], _, [], hW', trodAll_mk1 (shut_bool Try.underlying4 _), (trodAll_cons_mk (Below.trod laidOut (by kernel_rfl) (of_decide_eq_true (by kernel_rfl)) k0 bel lt0) (trodAll_cons_mk (Below.trod laidOut (by kernel_rfl) (of_decide_eq_true (by kernel_rfl)) k1 bel lt1) trodAll_mk0)), rfl, bel.frame _, fun h => by cases h⟩

set_option maxRecDepth 100000 in
theorem closed : joinedFacts Try.prog 3 Try.f3 Rows.fnExactSetPointSpec Rows.fnExactSetPointRow = true := by
  unfold joinedFacts
  simp only [Bool.and_eq_true, and_assoc]
  refine ⟨by kernel_rfl, fact_lay, fact_maps, by kernel_rfl, by kernel_rfl, by kernel_rfl, fact_stops, by kernel_rfl, fact_knobs, by kernel_rfl, by kernel_rfl, by kernel_rfl, by kernel_rfl, by kernel_rfl, by kernel_rfl, by kernel_rfl, by kernel_rfl, by kernel_rfl, by kernel_rfl, by kernel_rfl, by kernel_rfl, by kernel_rfl, by kernel_rfl, by kernel_rfl, fact_heard, fact_enter, by rw [fact_final]; rfl, by rw [fact_make]; rfl, by kernel_rfl, by kernel_rfl, by kernel_rfl, by kernel_rfl⟩

theorem over : Rows.fnExactSetPointRow.holds Try.pinned (OpenSpec.ofChange Rows.fnExactSetPointSpec) :=
  OpenClaim.holds_of_wide 3 Try.f3 rfl rfl rfl rfl rfl rfl rfl ⟨rfl, rfl, rfl, rfl, rfl⟩ rfl rfl rfl rfl rfl (by kernel_rfl) Try.func3 closed
    (of_decide_eq_true (by kernel_rfl)) (by unfold Func.isWrapper; first | (rw [if_pos (by decide +kernel)]; kernel_rfl) | (rw [if_neg (by decide +kernel)]; exact ⟨rfl, rfl⟩))
    (fun os started H enc _ => lifted os started H enc)

theorem proved : Rows.FnExactSetPointSaid := over
#print axioms proved
end Go.Proofs.Ytckihflfjecpbaa.fnExactSetPoint
