/-
  What is proved: the law FnExactRenderCurve answers true for every input and leaves its arguments as they were. Conditions: none.
  The frame below was written by the kit's own skeleton program for this law; the walk is mine.
-/
import Derived.Test.YtckihflfjecpbaaRows
import Derived.Test.YtckihflfjecpbaaL20
import Derived.Test.YtckihflfjecpbaaJ1
import Derived.Test.YtckihflfjecpbaaF1
import Derived.WalkKit
import Derived.ProofKit
import Derived.OpenShut
import Derived.ShutString
import Derived.ChangeOld
import Derived.Below
namespace Go.Proofs.Ytckihflfjecpbaa.fnExactRenderCurve
open Go.ChangeShapes Go.WideShapes Go.ChangeAt Go.RowKit
open Go.ChangeMaps (open_string shut_string)
set_option linter.unusedVariables false

theorem own : ownKnob Try.prog.godebug = none := by kernel_rfl
theorem laidOut : laidOutB Try.prog = true := by kernel_rfl

theorem arr1 {α : Type} {cs : Array α} (h : cs.size = 1) : ∃ c0, cs = #[c0] := by
  obtain ⟨l⟩ := cs
  match l, h with
  | [c0], _ => exact ⟨c0, rfl⟩
theorem walk (a0 : Option Addr) (len0 cap0 : Nat) (xs : List (Int × Int)) (a1 : Int) (w : World) (hn : len0 ≤ maxLen) (w0 : RA pt 2 w w.heap.size a0 len0 xs) :
    Calls Try.prog 5 #[.agg #[.slice a0 len0 cap0], .int .i64 a1] w fun e w' => e = .returned (.bool true) ∧ Below w.heap.size w w' := by
  have hm : len0 ≤ 9223372036854775807 := by unfold maxLen at hn; omega
  have hz : (M.rendR xs a1).1.length ≤ 100000000 := by
    unfold M.rendR
    split
    · split
      · rename_i h
        have := M.inn_iff.1 h
        rw [M.rend_len]
        omega
      · simp
    · simp
  exact core_FnExactRenderCurve a0 len0 cap0 xs a1 (M.rendR xs a1).1 (M.rendR xs a1).2 w w0 hz
    (fun A n c w h hn => spec_RenderCurve A n c _ _ w h hn) (fun A n c w h hn => impl_RenderCurve A n c _ _ w h hn) hm

/-! ### THE ROW's STEP: WRITTEN OUT: LEAVE IT -/
set_option maxHeartbeats 2000000 in
set_option maxRecDepth 100000 in
theorem lifted (os : Os) (started : os.Started) (H : Type) (enc : TypeId × Value → H) :
    ReturnsInHanded {} Try.checked os 5 .any (Rows.fnExactRenderCurveSpec.pre6 enc Try.prog Try.f5 Rows.fnExactRenderCurveRow.domain false) (Rows.fnExactRenderCurveSpec.post enc Try.prog Try.f5 false true false false) := by
  refine returnsInHanded_of_change (C := Try.checked) own started (by kernel_rfl) Try.func5
    (ChangeSpec.witness6 (enc := enc) (C := Try.checked) false ⟨#[], #[.agg #[.slice none 0 0], .int .i64 0], []⟩ 8 (by kernel_rfl) (by kernel_rfl) (by kernel_rfl) (by kernel_rfl)) ?_
  intro W base args ds gs before hval0 hW hcnd _
  have hval : ∀ (j : Nat) t v, Try.f5.params[j]? = some t → args[j]? = some v → Value.okWide Try.prog W .any base t v := hval0
  have hW' := hW
  obtain ⟨p, q, hA0, hV, rfl, hfz, hnd⟩ := hW
  have hA : DataW.TrodAll enc Try.prog W 0 (fun _ => true) true Try.f5.params.toList args.toList ds p := hA0
  rw [Try.params5] at hA hval
  obtain ⟨v0, vs0, d0, ds0, p0, q0, hargs, rfl, rfl, h0, r0⟩ := trodAll_cons hA
  obtain ⟨v1, vs1, d1, ds1, p1, q1, rfl, rfl, rfl, h1, r1⟩ := trodAll_cons r0
  obtain ⟨rfl, rfl, rfl⟩ := trodAll_nil r1
  obtain rfl : args = #[v0, v1] := by cases args; simp_all
  obtain ⟨rfl, rfl⟩ := trodVars_none hV
  obtain ⟨cs0, rfl, hs0⟩ := okWide_struct Try.underlying24 (hval 0 24 v0 rfl rfl)
  have k0 := h0
  have lt0 : ∀ x ∈ p0, x.block < W.heap.size := by obtain ⟨m, hm⟩ := k0; exact DataW.trod_lt m _ _ _ hm
  have e22 : Try.prog.cellsOf 22 = 1 := by kernel_rfl
  have e24 : Try.prog.cellsOf 24 = 1 := by kernel_rfl
  obtain ⟨u0, rfl⟩ := arr1 (hs0.trans e24)
  obtain ⟨a0, len0, cap0, xs0, rfl, hm0, w0⟩ : ∃ a n c xs, u0 = .slice a n c ∧ n ≤ maxLen ∧ RA pt 2 W W.heap.size a n xs := by
    obtain ⟨fuel, hf⟩ := h0
    obtain ⟨y0, n, _, hlen, t0⟩ := trod_struct1 Try.underlying24 hf
    have t1 : DataW.trod enc Try.prog W 0 (fun _ => true) true n 22 [u0] = some y0 := by simpa [Value.cells, e22] using t0
    obtain ⟨A, n', c, xs, hv, hm, hr⟩ := open_pts (v := u0) Try.underlying22 Try.underlying26 Try.underlying2 Try.underlying2 rfl rfl (by kernel_rfl) (by kernel_rfl) (by kernel_rfl) t1
    exact ⟨A, n', c, xs, hv, hm, hr⟩
  obtain ⟨a1, rfl, rfl, rfl, w1⟩ := open_int Try.underlying2 (hval 1 2 v1 rfl rfl) h1
  clear hA0 hval0
  refine (walk a0 len0 cap0 xs0 a1 W hm0 w0).mono fun e W' ⟨he, bel⟩ => ?_
  subst he
  exact ⟨_, rfl, _, _, _, [], _, [], hW', trodAll_mk1 (shut_bool Try.underlying4 _), (trodAll_cons_mk (Below.trod laidOut (by kernel_rfl) (of_decide_eq_true (by kernel_rfl)) k0 bel lt0) (trodAll_cons_mk (shut_int Try.underlying2 w1) trodAll_mk0)), rfl, bel.frame _, fun h => by cases h⟩

set_option maxRecDepth 100000 in
theorem closed : joinedFacts Try.prog 5 Try.f5 Rows.fnExactRenderCurveSpec Rows.fnExactRenderCurveRow = true := by
  unfold joinedFacts
  simp only [Bool.and_eq_true, and_assoc]
  refine ⟨by kernel_rfl, fact_lay, fact_maps, by kernel_rfl, by kernel_rfl, by kernel_rfl, fact_stops, by kernel_rfl, fact_knobs, by kernel_rfl, by kernel_rfl, by kernel_rfl, by kernel_rfl, by kernel_rfl, by kernel_rfl, by kernel_rfl, by kernel_rfl, by kernel_rfl, by kernel_rfl, by kernel_rfl, by kernel_rfl, by kernel_rfl, by kernel_rfl, by kernel_rfl, fact_heard, fact_enter, by rw [fact_final]; rfl, by rw [fact_make]; rfl, by kernel_rfl, by kernel_rfl, by kernel_rfl, by kernel_rfl⟩

theorem over : Rows.fnExactRenderCurveRow.holds Try.pinned (OpenSpec.ofChange Rows.fnExactRenderCurveSpec) :=
  OpenClaim.holds_of_wide 5 Try.f5 rfl rfl rfl rfl rfl rfl rfl ⟨rfl, rfl, rfl, rfl, rfl⟩ rfl rfl rfl rfl rfl (by kernel_rfl) Try.func5 closed
    (of_decide_eq_true (by kernel_rfl)) (by unfold Func.isWrapper; first | (rw [if_pos (by decide +kernel)]; kernel_rfl) | (rw [if_neg (by decide +kernel)]; exact ⟨rfl, rfl⟩))
    (fun os started H enc _ => lifted os started H enc)

/-- ████ THE STATEMENT ████ -/
theorem proved : Rows.FnExactRenderCurveSaid := over
#print axioms proved
end Go.Proofs.Ytckihflfjecpbaa.fnExactRenderCurve
