/-
  What is proved: the law FnExactTrimClip answers true for every input and leaves its arguments as they were. Conditions: none.
  The frame below follows the one that the kit's own skeleton program writes for a law; the walk is mine.
-/
import Derived.Test.YtckihflfjecpbaaRows
import Derived.Test.YtckihflfjecpbaaLFnExactTrimClip
import Derived.Test.YtckihflfjecpbaaJ5
import Derived.Test.YtckihflfjecpbaaW6E
import Derived.Test.YtckihflfjecpbaaF1
import Derived.WalkKit
import Derived.ProofKit
import Derived.OpenShut
import Derived.ShutString
import Derived.ChangeOld
import Derived.Below
namespace Go.Proofs.Ytckihflfjecpbaa.fnExactTrimClip
open Go.ChangeShapes Go.WideShapes Go.ChangeAt Go.RowKit
open Go.ChangeMaps (open_string shut_string)
set_option linter.unusedVariables false

theorem own : ownKnob Try.prog.godebug = none := by kernel_rfl
theorem laidOut : laidOutB Try.prog = true := by kernel_rfl

theorem walk (A0 : Option Addr) (n0 : Nat) (c0 : Nat) (x0 : List (Int × Int × Int × Int × Int)) (a1 : Int) (a2 : Int) (a3 : Int) (w : World) (hx0 : tT.R w w.heap.size [.slice A0 n0 c0] x0) :
    Calls Try.prog 13 #[.agg #[.slice A0 n0 c0], .int .i64 a1, .int .i64 a2, .int .i64 a3] w fun e w' => e = .returned (.bool true) ∧ Below w.heap.size w w' := by
  have hz := M.trimR_len x0 a1 a2 a3
  exact core_FnExactTrimClip A0 n0 c0 x0 a1 a2 a3 (M.trimR x0 a1 a2 a3).1 (M.trimR x0 a1 a2 a3).2 w hx0 (by rw [hT_sz]; omega) (by rw [hT_cnt]; omega)
    (fun A n c w h hs => (spec_TrimClip A n c x0 a1 a2 a3 w (tT_ra h) (by have := (tT_n h).1; rw [hT_sz] at hs; omega) (tT_n h).2.1 (tT_n h).2.2).mono fun _ _ h => retT_nf h)
    (fun A n c w h hs => (impl_TrimClip A n c x0 a1 a2 a3 w (tT_ra h) (by have := (tT_n h).1; rw [hT_sz] at hs; omega) (tT_n h).2.1 (tT_n h).2.2).mono fun _ _ h => retT_nf h)

set_option maxHeartbeats 2000000 in
set_option maxRecDepth 100000 in
theorem lifted (os : Os) (started : os.Started) (H : Type) (enc : TypeId × Value → H) :
    ReturnsInHanded {} Try.checked os 13 .any (Rows.fnExactTrimClipSpec.pre6 enc Try.prog Try.f13 Rows.fnExactTrimClipRow.domain false) (Rows.fnExactTrimClipSpec.post enc Try.prog Try.f13 false true false false) := by
  refine returnsInHanded_of_change (C := Try.checked) own started (by kernel_rfl) Try.func13
    (ChangeSpec.witness6 (enc := enc) (C := Try.checked) false ⟨#[], #[.agg #[.slice none 0 0], .int .i64 0, .int .i64 0, .int .i64 0], []⟩ 8 (by kernel_rfl) (by kernel_rfl) (by kernel_rfl) (by kernel_rfl)) ?_
  intro W base args ds gs before hval0 hW hcnd _
  have hval : ∀ (j : Nat) t v, Try.f13.params[j]? = some t → args[j]? = some v → Value.okWide Try.prog W .any base t v := hval0
  have hW' := hW
  obtain ⟨p, q, hA0, hV, rfl, hfz, hnd⟩ := hW
  have hA : DataW.TrodAll enc Try.prog W 0 (fun _ => true) true Try.f13.params.toList args.toList ds p := hA0
  rw [Try.params13] at hA hval
  obtain ⟨v0, vs0, d0, ds0, p0, q0, hargs, rfl, rfl, h0, r0⟩ := trodAll_cons hA
  obtain ⟨v1, vs1, d1, ds1, p1, q1, rfl, rfl, rfl, h1, r1⟩ := trodAll_cons r0
  obtain ⟨v2, vs2, d2, ds2, p2, q2, rfl, rfl, rfl, h2, r2⟩ := trodAll_cons r1
  obtain ⟨v3, vs3, d3, ds3, p3, q3, rfl, rfl, rfl, h3, r3⟩ := trodAll_cons r2
  obtain ⟨rfl, rfl, rfl⟩ := trodAll_nil r3
  obtain rfl : args = #[v0, v1, v2, v3] := by cases args; simp_all
  obtain ⟨rfl, rfl⟩ := trodVars_none hV
  have k0 := h0
  have lt0 : ∀ x ∈ p0, x.block < W.heap.size := by obtain ⟨m, hm⟩ := k0; exact DataW.trod_lt m _ _ _ hm
  obtain ⟨cs0, rfl, hsz0⟩ := okWide_struct Try.underlying61 (hval 0 61 v0 rfl rfl)
  obtain ⟨x0, w0⟩ : ∃ x, tT.R W W.heap.size cs0.toList x := by
    obtain ⟨fuel, hf⟩ := h0
    exact opens_T enc W 0 _ _ fuel _ _ (by simpa [Value.cells] using hf)
  obtain ⟨A0, n0, c0, hcs0⟩ := open_T w0
  obtain rfl : cs0 = #[.slice A0 n0 c0] := by cases cs0; simp_all
  replace w0 : tT.R W W.heap.size [.slice A0 n0 c0] x0 := w0
  obtain ⟨a1, rfl, rfl, rfl, w1⟩ := open_int Try.underlying2 (hval 1 2 v1 rfl rfl) h1
  obtain ⟨a2, rfl, rfl, rfl, w2⟩ := open_int Try.underlying2 (hval 2 2 v2 rfl rfl) h2
  obtain ⟨a3, rfl, rfl, rfl, w3⟩ := open_int Try.underlying2 (hval 3 2 v3 rfl rfl) h3
  clear hA0 hval0
  refine (walk A0 n0 c0 x0 a1 a2 a3 W w0).mono fun e W' ⟨he, bel⟩ => ?_
  subst he
  exact ⟨_, rfl, _, _, _, [], _, [], hW', trodAll_mk1 (shut_bool Try.underlying4 _), (trodAll_cons_mk (Below.trod laidOut (by kernel_rfl) (of_decide_eq_true (by kernel_rfl)) k0 bel lt0) (trodAll_cons_mk (shut_int Try.underlying2 w1) (trodAll_cons_mk (shut_int Try.underlying2 w2) (trodAll_cons_mk (shut_int Try.underlying2 w3) trodAll_mk0)))), rfl, bel.frame _, fun h => by cases h⟩

set_option maxRecDepth 100000 in
theorem closed : joinedFacts Try.prog 13 Try.f13 Rows.fnExactTrimClipSpec Rows.fnExactTrimClipRow = true := by
  unfold joinedFacts
  simp only [Bool.and_eq_true, and_assoc]
  refine ⟨by kernel_rfl, fact_lay, fact_maps, by kernel_rfl, by kernel_rfl, by kernel_rfl, fact_stops, by kernel_rfl, fact_knobs, by kernel_rfl, by kernel_rfl, by kernel_rfl, by kernel_rfl, by kernel_rfl, by kernel_rfl, by kernel_rfl, by kernel_rfl, by kernel_rfl, by kernel_rfl, by kernel_rfl, by kernel_rfl, by kernel_rfl, by kernel_rfl, by kernel_rfl, fact_heard, fact_enter, by rw [fact_final]; rfl, by rw [fact_make]; rfl, by kernel_rfl, by kernel_rfl, by kernel_rfl, by kernel_rfl⟩

theorem over : Rows.fnExactTrimClipRow.holds Try.pinned (OpenSpec.ofChange Rows.fnExactTrimClipSpec) :=
  OpenClaim.holds_of_wide 13 Try.f13 rfl rfl rfl rfl rfl rfl rfl ⟨rfl, rfl, rfl, rfl, rfl⟩ rfl rfl rfl rfl rfl (by kernel_rfl) Try.func13 closed
    (of_decide_eq_true (by kernel_rfl)) (by unfold Func.isWrapper; first | (rw [if_pos (by decide +kernel)]; kernel_rfl) | (rw [if_neg (by decide +kernel)]; exact ⟨rfl, rfl⟩))
    (fun os started H enc _ => lifted os started H enc)

theorem proved : Rows.FnExactTrimClipSaid := over
#print axioms proved
end Go.Proofs.Ytckihflfjecpbaa.fnExactTrimClip
