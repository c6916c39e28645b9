/-
  What is proved: the law FnExactStemsOf answers true for every input and leaves its arguments as they were. Conditions: none.
  The frame below follows the one that the kit's own skeleton program writes for a law; the walk is mine.
-/
import Derived.Test.YtffhodocjjkkoaaGreatRows
import Derived.Test.YtffhodocjjkkoaaGreatFnExactStemsOfH1
import Derived.Test.YtffhodocjjkkoaaGreatFnExactStemOfG15
import Derived.Test.YtffhodocjjkkoaaGreatF1
import Derived.WalkKit
import Derived.ProofKit
import Derived.OpenShut
import Derived.ShutString
import Derived.ChangeOld
import Derived.Below
namespace Go.Proofs.YtffhodocjjkkoaaGreat.fnExactStemsOf
open Go.ChangeShapes Go.WideShapes Go.ChangeAt Go.RowKit
open Go.ChangeMaps (open_string shut_string)
set_option linter.unusedVariables false

theorem own : ownKnob Tryz.prog.godebug = none := by kernel_rfl
theorem laidOut : laidOutB Tryz.prog = true := by kernel_rfl

theorem walk (p0 : Int) (A0 : Option Addr) (n0 : Nat) (c0 : Nat) (Ab0 : Option Addr) (nb0 : Nat) (cb0 : Nat) (Ac0 : Option Addr) (nc0 : Nat) (cc0 : Nat) (Ad0 : Option Addr) (nd0 : Nat) (cd0 : Nat) (Ae0 : Option Addr) (ne0 : Nat) (ce0 : Nat) (x0 : Sess) (w : World) (hx0 : tZ.R w w.heap.size [.int .i64 p0, .slice A0 n0 c0, .slice Ab0 nb0 cb0, .slice Ac0 nc0 cc0, .slice Ad0 nd0 cd0, .slice Ae0 ne0 ce0] x0) :
    Calls Tryz.prog 7 #[.agg #[.int .i64 p0, .slice A0 n0 c0, .slice Ab0 nb0 cb0, .slice Ac0 nc0 cc0, .slice Ad0 nd0 cd0, .slice Ae0 ne0 ce0]] w fun e w' => e = .returned (.bool true) ∧ Below w.heap.size w w' := by
  have hz := zwg x0
  have hc := zv6 (zez x0).1
  exact zwj p0 A0 n0 c0 Ab0 nb0 cb0 Ac0 nc0 cc0 Ad0 nd0 cd0 Ae0 ne0 ce0 x0 (zez x0).1 (zez x0).2 w hx0 (by omega) (by omega)
    (fun p0 A0 n0 c0 Ab0 nb0 cb0 Ac0 nc0 cc0 Ad0 nd0 cd0 Ae0 ne0 ce0 w h hs => (zwi _ _ _ _ _ _ _ _ _ _ _ _ _ _ _ _ _ _ h (by omega)).mono fun _ _ h => zv7 h)
    (fun p0 A0 n0 c0 Ab0 nb0 cb0 Ac0 nc0 cc0 Ad0 nd0 cd0 Ae0 ne0 ce0 w h hs => (zwh _ _ _ _ _ _ _ _ _ _ _ _ _ _ _ _ _ _ h (by omega)).mono fun _ _ h => zv7 h)

set_option maxHeartbeats 2000000 in
set_option maxRecDepth 100000 in
theorem lifted (os : Os) (started : os.Started) (H : Type) (enc : TypeId × Value → H) :
    ReturnsInHanded {} Tryz.checked os 7 .any (Rows.fnExactStemsOfSpec.pre6 enc Tryz.prog Tryz.f7 Rows.fnExactStemsOfRow.domain false) (Rows.fnExactStemsOfSpec.post enc Tryz.prog Tryz.f7 false true false false) := by
  refine returnsInHanded_of_change (C := Tryz.checked) own started (by kernel_rfl) Tryz.func7
    (ChangeSpec.witness6 (enc := enc) (C := Tryz.checked) false ⟨#[], #[.agg #[.int .i64 0, .slice none 0 0, .slice none 0 0, .slice none 0 0, .slice none 0 0, .slice none 0 0]], []⟩ 8 (by kernel_rfl) (by kernel_rfl) (by kernel_rfl) (by kernel_rfl)) ?_
  intro W base args ds gs before hval0 hW hcnd _
  have hval : ∀ (j : Nat) t v, Tryz.f7.params[j]? = some t → args[j]? = some v → Value.okWide Tryz.prog W .any base t v := hval0
  have hW' := hW
  obtain ⟨p, q, hA0, hV, rfl, hfz, hnd⟩ := hW
  have hA : DataW.TrodAll enc Tryz.prog W 0 (fun _ => true) true Tryz.f7.params.toList args.toList ds p := hA0
  rw [Tryz.params7] at hA hval
  obtain ⟨v0, vs0, d0, ds0, p0, q0, hargs, rfl, rfl, h0, r0⟩ := trodAll_cons hA
  obtain ⟨rfl, rfl, rfl⟩ := trodAll_nil r0
  obtain rfl : args = #[v0] := by cases args; simp_all
  obtain ⟨rfl, rfl⟩ := trodVars_none hV
  have k0 := h0
  have lt0 : ∀ x ∈ p0, x.block < W.heap.size := by obtain ⟨m, hm⟩ := k0; exact DataW.trod_lt m _ _ _ hm
  obtain ⟨cs0, rfl, hsz0⟩ := okWide_struct Tryz.underlying30 (hval 0 30 v0 rfl rfl)
  obtain ⟨x0, w0⟩ : ∃ x, tZ.R W W.heap.size cs0.toList x := by
    obtain ⟨fuel, hf⟩ := h0
    exact zwa enc W 0 _ _ fuel _ _ (by simpa [Value.cells] using hf)
  obtain ⟨p0, A0, n0, c0, Ab0, nb0, cb0, Ac0, nc0, cc0, Ad0, nd0, cd0, Ae0, ne0, ce0, hcs0⟩ := zwb w0
  obtain rfl : cs0 = #[.int .i64 p0, .slice A0 n0 c0, .slice Ab0 nb0 cb0, .slice Ac0 nc0 cc0, .slice Ad0 nd0 cd0, .slice Ae0 ne0 ce0] := by cases cs0; simp_all
  replace w0 : tZ.R W W.heap.size [.int .i64 p0, .slice A0 n0 c0, .slice Ab0 nb0 cb0, .slice Ac0 nc0 cc0, .slice Ad0 nd0 cd0, .slice Ae0 ne0 ce0] x0 := w0
  clear hA0 hval0
  refine (walk p0 A0 n0 c0 Ab0 nb0 cb0 Ac0 nc0 cc0 Ad0 nd0 cd0 Ae0 ne0 ce0 x0 W w0).mono fun e W' ⟨he, bel⟩ => ?_
  subst he
  exact ⟨_, rfl, _, _, _, [], _, [], hW', trodAll_mk1 (shut_bool Tryz.underlying4 _), (trodAll_cons_mk (Below.trod laidOut (by kernel_rfl) (of_decide_eq_true (by kernel_rfl)) k0 bel lt0) trodAll_mk0), rfl, bel.frame _, fun h => by cases h⟩

set_option maxRecDepth 100000 in
theorem closed : joinedFacts Tryz.prog 7 Tryz.f7 Rows.fnExactStemsOfSpec Rows.fnExactStemsOfRow = true := by
  unfold joinedFacts
  simp only [Bool.and_eq_true, and_assoc]
  refine ⟨by kernel_rfl, fact_lay, fact_maps, by kernel_rfl, by kernel_rfl, by kernel_rfl, fact_stops, by kernel_rfl, fact_knobs, by kernel_rfl, by kernel_rfl, by kernel_rfl, by kernel_rfl, by kernel_rfl, by kernel_rfl, by kernel_rfl, by kernel_rfl, by kernel_rfl, by kernel_rfl, by kernel_rfl, by kernel_rfl, by kernel_rfl, by kernel_rfl, by kernel_rfl, fact_heard, fact_enter, by rw [fact_final]; rfl, by rw [fact_make]; rfl, by kernel_rfl, by kernel_rfl, by kernel_rfl, by kernel_rfl⟩

theorem over : Rows.fnExactStemsOfRow.holds Tryz.pinned (OpenSpec.ofChange Rows.fnExactStemsOfSpec) :=
  OpenClaim.holds_of_wide 7 Tryz.f7 rfl rfl rfl rfl rfl rfl rfl ⟨rfl, rfl, rfl, rfl, rfl⟩ rfl rfl rfl rfl rfl (by kernel_rfl) Tryz.func7 closed
    (of_decide_eq_true (by kernel_rfl)) (by unfold Func.isWrapper; first | (rw [if_pos (by decide +kernel)]; kernel_rfl) | (rw [if_neg (by decide +kernel)]; exact ⟨rfl, rfl⟩))
    (fun os started H enc _ => lifted os started H enc)

theorem proved : Rows.FnExactStemsOfSaid := over
#print axioms proved
end Go.Proofs.YtffhodocjjkkoaaGreat.fnExactStemsOf
