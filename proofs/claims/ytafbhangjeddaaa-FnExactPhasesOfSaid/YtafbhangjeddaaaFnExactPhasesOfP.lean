/-
  What is proved: the law FnExactPhasesOf answers true for every input and leaves its arguments as they were. Conditions: none.
  The frame below follows the one that the kit's own skeleton program writes for a law; the walk is mine.
-/
import Derived.Test.YtafbhangjeddaaaRows
import Derived.Test.YtafbhangjeddaaaLFnExactPhasesOf
import Derived.Test.YtafbhangjeddaaaJ4
import Derived.Test.YtafbhangjeddaaaF1
import Derived.WalkKit
import Derived.ProofKit
import Derived.OpenShut
import Derived.ShutString
import Derived.ChangeOld
import Derived.Below
namespace Go.Proofs.Ytafbhangjeddaaa.fnExactPhasesOf
open Go.ChangeShapes Go.WideShapes Go.ChangeAt Go.RowKit
open Go.ChangeMaps (open_string shut_string)
set_option linter.unusedVariables false

theorem own : ownKnob Try.prog.godebug = none := by kernel_rfl
theorem laidOut : laidOutB Try.prog = true := by kernel_rfl

theorem walk (A0 : Option Addr) (n0 : Nat) (c0 : Nat) (x0 : List Int) (a1 : Int) (w : World) (hx0 : tS.R w w.heap.size [.slice A0 n0 c0] x0) :
    Calls Try.prog 4 #[.slice A0 n0 c0, .int .i64 a1] w fun e w' => e = .returned (.bool true) ∧ Below w.heap.size w w' := by
  have hl := (tS_R.1 hx0).cap.1
  have hz : hSS.sz (M.phasesR x0 a1).1 ≤ 1000 + 16 * x0.length := by
    unfold M.phasesR
    split
    · split
      · rename_i hf
        have hf' : 1 ≤ a1 ∧ a1 ≤ 16 := by simp [M.fac, M.inn] at hf; omega
        show (M.phases x0 a1.toNat).length + hS.szL (M.phases x0 a1.toNat) ≤ _
        have key : ∀ (l : List Nat), hS.szL (l.map fun r => M.decL x0 a1.toNat r) ≤ l.length * x0.length := by
          intro l
          induction l with
          | nil => simp [Hs.szL]
          | cons r l ih =>
            rw [List.map_cons, Hs.szL, hS_sz, List.length_cons, Nat.succ_mul]
            have := M.decL_len x0 a1.toNat r
            omega
        have h1 := key (List.range a1.toNat)
        rw [List.length_range] at h1
        have h2 : a1.toNat * x0.length ≤ 16 * x0.length := Nat.mul_le_mul_right _ (by omega)
        rw [M.phases_len]
        unfold M.phases
        omega
      · simp [Hs.sl, Hs.szL]
    · simp [Hs.sl, Hs.szL]
  by_cases hbig : 1048576 < n0
  · go_enter Try.func4, Try.ntmps4
    go_wp2_with fail
    go_ret
    exact ⟨rfl, Below.refl _ _⟩
  have hc := cl_SS (M.phasesR x0 a1).1
  exact core_FnExactPhasesOf A0 n0 c0 x0 a1 (M.phasesR x0 a1).1 (M.phasesR x0 a1).2 w hx0 (by omega) (by omega)
    (fun A n c w h hs => (spec_PhasesOf A n c x0 a1 w (tS_R.1 h).ri (by have := (tS_R.1 h).cap.1; rw [hS_sz] at hs; omega)).mono fun _ _ h => retSS_nf h)
    (fun A n c w h hs => (impl_PhasesOf A n c x0 a1 w (tS_R.1 h).ri (by have := (tS_R.1 h).cap.1; rw [hS_sz] at hs; omega)).mono fun _ _ h => retSS_nf h)

set_option maxHeartbeats 2000000 in
set_option maxRecDepth 100000 in
theorem lifted (os : Os) (started : os.Started) (H : Type) (enc : TypeId × Value → H) :
    ReturnsInHanded {} Try.checked os 4 .any (Rows.fnExactPhasesOfSpec.pre6 enc Try.prog Try.f4 Rows.fnExactPhasesOfRow.domain false) (Rows.fnExactPhasesOfSpec.post enc Try.prog Try.f4 false true false false) := by
  refine returnsInHanded_of_change (C := Try.checked) own started (by kernel_rfl) Try.func4
    (ChangeSpec.witness6 (enc := enc) (C := Try.checked) false ⟨#[], #[.slice none 0 0, .int .i64 0], []⟩ 8 (by kernel_rfl) (by kernel_rfl) (by kernel_rfl) (by kernel_rfl)) ?_
  intro W base args ds gs before hval0 hW hcnd _
  have hval : ∀ (j : Nat) t v, Try.f4.params[j]? = some t → args[j]? = some v → Value.okWide Try.prog W .any base t v := hval0
  have hW' := hW
  obtain ⟨p, q, hA0, hV, rfl, hfz, hnd⟩ := hW
  have hA : DataW.TrodAll enc Try.prog W 0 (fun _ => true) true Try.f4.params.toList args.toList ds p := hA0
  rw [Try.params4] at hA hval
  obtain ⟨v0, vs0, d0, ds0, p0, q0, hargs, rfl, rfl, h0, r0⟩ := trodAll_cons hA
  obtain ⟨v1, vs1, d1, ds1, p1, q1, rfl, rfl, rfl, h1, r1⟩ := trodAll_cons r0
  obtain ⟨rfl, rfl, rfl⟩ := trodAll_nil r1
  obtain rfl : args = #[v0, v1] := by cases args; simp_all
  obtain ⟨rfl, rfl⟩ := trodVars_none hV
  have k0 := h0
  have lt0 : ∀ x ∈ p0, x.block < W.heap.size := by obtain ⟨m, hm⟩ := k0; exact DataW.trod_lt m _ _ _ hm
  obtain ⟨A0, n0, c0, rfl⟩ := okWide_slice Try.underlying22 (hval 0 22 v0 rfl rfl)
  obtain ⟨x0, w0⟩ : ∃ x, tS.R W W.heap.size [.slice A0 n0 c0] x := by
    obtain ⟨fuel, hf⟩ := h0
    exact opens_S enc W 0 _ _ fuel _ _ (by simpa [Value.cells] using hf)
  obtain ⟨a1, rfl, rfl, rfl, w1⟩ := open_int Try.underlying2 (hval 1 2 v1 rfl rfl) h1
  clear hA0 hval0
  refine (walk A0 n0 c0 x0 a1 W w0).mono fun e W' ⟨he, bel⟩ => ?_
  subst he
  exact ⟨_, rfl, _, _, _, [], _, [], hW', trodAll_mk1 (shut_bool Try.underlying4 _), (trodAll_cons_mk (Below.trod laidOut (by kernel_rfl) (of_decide_eq_true (by kernel_rfl)) k0 bel lt0) (trodAll_cons_mk (shut_int Try.underlying2 w1) trodAll_mk0)), rfl, bel.frame _, fun h => by cases h⟩

set_option maxRecDepth 100000 in
theorem closed : joinedFacts Try.prog 4 Try.f4 Rows.fnExactPhasesOfSpec Rows.fnExactPhasesOfRow = true := by
  unfold joinedFacts
  simp only [Bool.and_eq_true, and_assoc]
  refine ⟨by kernel_rfl, fact_lay, fact_maps, by kernel_rfl, by kernel_rfl, by kernel_rfl, fact_stops, by kernel_rfl, fact_knobs, by kernel_rfl, by kernel_rfl, by kernel_rfl, by kernel_rfl, by kernel_rfl, by kernel_rfl, by kernel_rfl, by kernel_rfl, by kernel_rfl, by kernel_rfl, by kernel_rfl, by kernel_rfl, by kernel_rfl, by kernel_rfl, by kernel_rfl, fact_heard, fact_enter, by rw [fact_final]; rfl, by rw [fact_make]; rfl, by kernel_rfl, by kernel_rfl, by kernel_rfl, by kernel_rfl⟩

theorem over : Rows.fnExactPhasesOfRow.holds Try.pinned (OpenSpec.ofChange Rows.fnExactPhasesOfSpec) :=
  OpenClaim.holds_of_wide 4 Try.f4 rfl rfl rfl rfl rfl rfl rfl ⟨rfl, rfl, rfl, rfl, rfl⟩ rfl rfl rfl rfl rfl (by kernel_rfl) Try.func4 closed
    (of_decide_eq_true (by kernel_rfl)) (by unfold Func.isWrapper; first | (rw [if_pos (by decide +kernel)]; kernel_rfl) | (rw [if_neg (by decide +kernel)]; exact ⟨rfl, rfl⟩))
    (fun os started H enc _ => lifted os started H enc)

theorem proved : Rows.FnExactPhasesOfSaid := over
#print axioms proved
end Go.Proofs.Ytafbhangjeddaaa.fnExactPhasesOf
