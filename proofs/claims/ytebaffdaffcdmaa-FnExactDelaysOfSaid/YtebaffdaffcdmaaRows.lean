/-
  No cell of these rows narrows 'for every input' (looked for: loops, veiled, ifaces, maps, wideKeys, modest, calm, conditions, laid).
  DERIVED. THE GIVEN ROWS OF THIS SEAT. 8 by the template 'for every input the law returns true; each argument reads behind the call as it read before'; 0 by the template 'total and deterministic' (their statements: YtebaffdaffcdmaaTotals.lean).
  GIVEN WITH THE SEED: the statements are not yours to turn. If you find one false, say at which input.
  Laid BY PROGRAM, IN A SANDBOX (cutbox-rows.mjs): the forced cells as the released guide's own fill.sh prints them over the translation 4d433f296de299ab… (all of the seat's roots in one cut). By AI agents, Wed Nov 11 2026. No macro, syntax, notation, axiom, sorry.
-/
import Derived.Test.YtebaffdaffcdmaaChecked
import GoSem.Claim
import GoSem.ClaimJoined
import GoSem.ClaimMapViews
import Derived.JoinedTies
import Derived.KernelRfl
namespace Go.Proofs.Ytebaffdaffcdmaa
/- THE CELL 'sum', in the pinned program and in every row, IS THE sha256 OF THE DUMP (.gsa) THAT YtebaffdaffcdmaaProg.lean LOADS. Nothing in Lean hashes anything: it is a label: what it is worth is what the hold of that sum in a sandbox is worth. -/
noncomputable def Try.pinned : Pinned := { name := "ytebaffdaffcdmaa", sum := "4d433f296de299abb631aceb6352bf4f07edd009acb9dedc2e89bfcde622e8ec", checked := Try.checked }
namespace Rows
def none {H : Type} : Left H := { results := [], args := [] }

/-- 'laws.FnExactSameMixer': WHATEVER THE INPUT: true; the input reads as it did. -/
def fnExactSameMixerSpec : ChangeSpec := { name := "fnExactSameMixer", fn := fun _ => fun
  | [d1, d2] => { results := [.lit (.bool true)], args := [d1, d2] }
  | _ => none }
def fnExactSameMixerRow : OpenClaim := { program := "ytebaffdaffcdmaa", sum := "4d433f296de299abb631aceb6352bf4f07edd009acb9dedc2e89bfcde622e8ec", func := "loop.example/g00903/laws.FnExactSameMixer", spec := "fnExactSameMixer", apart := false }
def FnExactSameMixerSaid : Prop := fnExactSameMixerRow.holds Try.pinned (OpenSpec.ofChange fnExactSameMixerSpec)

/-- ITS FALSE NEIGHBOUR: 'it returns false'. Refute it at one input. -/
def fnExactSameMixerWrong : ChangeSpec := { name := "fnExactSameMixer", fn := fun _ => fun
  | [d1, d2] => { results := [.lit (.bool false)], args := [d1, d2] }
  | _ => none }
def FnExactSameMixerWrongFalsely : Prop := fnExactSameMixerRow.holds Try.pinned (OpenSpec.ofChange fnExactSameMixerWrong)

/-- 'laws.FnExactValidMixer': WHATEVER THE INPUT: true; the input reads as it did. -/
def fnExactValidMixerSpec : ChangeSpec := { name := "fnExactValidMixer", fn := fun _ => fun
  | [d] => { results := [.lit (.bool true)], args := [d] }
  | _ => none }
def fnExactValidMixerRow : OpenClaim := { program := "ytebaffdaffcdmaa", sum := "4d433f296de299abb631aceb6352bf4f07edd009acb9dedc2e89bfcde622e8ec", func := "loop.example/g00903/laws.FnExactValidMixer", spec := "fnExactValidMixer", apart := false }
def FnExactValidMixerSaid : Prop := fnExactValidMixerRow.holds Try.pinned (OpenSpec.ofChange fnExactValidMixerSpec)

/-- ITS FALSE NEIGHBOUR: 'it returns false'. Refute it at one input. -/
def fnExactValidMixerWrong : ChangeSpec := { name := "fnExactValidMixer", fn := fun _ => fun
  | [d] => { results := [.lit (.bool false)], args := [d] }
  | _ => none }
def FnExactValidMixerWrongFalsely : Prop := fnExactValidMixerRow.holds Try.pinned (OpenSpec.ofChange fnExactValidMixerWrong)

/-- 'laws.FnExactStripNamed': WHATEVER THE INPUT: true; the input reads as it did. -/
def fnExactStripNamedSpec : ChangeSpec := { name := "fnExactStripNamed", fn := fun _ => fun
  | [d1, d2] => { results := [.lit (.bool true)], args := [d1, d2] }
  | _ => none }
def fnExactStripNamedRow : OpenClaim := { program := "ytebaffdaffcdmaa", sum := "4d433f296de299abb631aceb6352bf4f07edd009acb9dedc2e89bfcde622e8ec", func := "loop.example/g00903/laws.FnExactStripNamed", spec := "fnExactStripNamed", apart := false }
def FnExactStripNamedSaid : Prop := fnExactStripNamedRow.holds Try.pinned (OpenSpec.ofChange fnExactStripNamedSpec)

/-- ITS FALSE NEIGHBOUR: 'it returns false'. Refute it at one input. -/
def fnExactStripNamedWrong : ChangeSpec := { name := "fnExactStripNamed", fn := fun _ => fun
  | [d1, d2] => { results := [.lit (.bool false)], args := [d1, d2] }
  | _ => none }
def FnExactStripNamedWrongFalsely : Prop := fnExactStripNamedRow.holds Try.pinned (OpenSpec.ofChange fnExactStripNamedWrong)

/-- 'laws.FnExactTotalLatency': WHATEVER THE INPUT: true; the input reads as it did. -/
def fnExactTotalLatencySpec : ChangeSpec := { name := "fnExactTotalLatency", fn := fun _ => fun
  | [d] => { results := [.lit (.bool true)], args := [d] }
  | _ => none }
def fnExactTotalLatencyRow : OpenClaim := { program := "ytebaffdaffcdmaa", sum := "4d433f296de299abb631aceb6352bf4f07edd009acb9dedc2e89bfcde622e8ec", func := "loop.example/g00903/laws.FnExactTotalLatency", spec := "fnExactTotalLatency", apart := false }
def FnExactTotalLatencySaid : Prop := fnExactTotalLatencyRow.holds Try.pinned (OpenSpec.ofChange fnExactTotalLatencySpec)

/-- ITS FALSE NEIGHBOUR: 'it returns false'. Refute it at one input. -/
def fnExactTotalLatencyWrong : ChangeSpec := { name := "fnExactTotalLatency", fn := fun _ => fun
  | [d] => { results := [.lit (.bool false)], args := [d] }
  | _ => none }
def FnExactTotalLatencyWrongFalsely : Prop := fnExactTotalLatencyRow.holds Try.pinned (OpenSpec.ofChange fnExactTotalLatencyWrong)

/-- 'laws.FnExactGainTo': WHATEVER THE INPUT: true; the input reads as it did. -/
def fnExactGainToSpec : ChangeSpec := { name := "fnExactGainTo", fn := fun _ => fun
  | [d1, d2] => { results := [.lit (.bool true)], args := [d1, d2] }
  | _ => none }
def fnExactGainToRow : OpenClaim := { program := "ytebaffdaffcdmaa", sum := "4d433f296de299abb631aceb6352bf4f07edd009acb9dedc2e89bfcde622e8ec", func := "loop.example/g00903/laws.FnExactGainTo", spec := "fnExactGainTo", unfollowed := true, recurses := true, apart := false }
def FnExactGainToSaid : Prop := fnExactGainToRow.holds Try.pinned (OpenSpec.ofChange fnExactGainToSpec)

/-- ITS FALSE NEIGHBOUR: 'it returns false'. Refute it at one input. -/
def fnExactGainToWrong : ChangeSpec := { name := "fnExactGainTo", fn := fun _ => fun
  | [d1, d2] => { results := [.lit (.bool false)], args := [d1, d2] }
  | _ => none }
def FnExactGainToWrongFalsely : Prop := fnExactGainToRow.holds Try.pinned (OpenSpec.ofChange fnExactGainToWrong)

/-- 'laws.FnExactPathsTo': WHATEVER THE INPUT: true; the input reads as it did. -/
def fnExactPathsToSpec : ChangeSpec := { name := "fnExactPathsTo", fn := fun _ => fun
  | [d1, d2] => { results := [.lit (.bool true)], args := [d1, d2] }
  | _ => none }
def fnExactPathsToRow : OpenClaim := { program := "ytebaffdaffcdmaa", sum := "4d433f296de299abb631aceb6352bf4f07edd009acb9dedc2e89bfcde622e8ec", func := "loop.example/g00903/laws.FnExactPathsTo", spec := "fnExactPathsTo", unfollowed := true, recurses := true, apart := false }
def FnExactPathsToSaid : Prop := fnExactPathsToRow.holds Try.pinned (OpenSpec.ofChange fnExactPathsToSpec)

/-- ITS FALSE NEIGHBOUR: 'it returns false'. Refute it at one input. -/
def fnExactPathsToWrong : ChangeSpec := { name := "fnExactPathsTo", fn := fun _ => fun
  | [d1, d2] => { results := [.lit (.bool false)], args := [d1, d2] }
  | _ => none }
def FnExactPathsToWrongFalsely : Prop := fnExactPathsToRow.holds Try.pinned (OpenSpec.ofChange fnExactPathsToWrong)

/-- 'laws.FnExactEntryTimes': WHATEVER THE INPUT: true; the input reads as it did. -/
def fnExactEntryTimesSpec : ChangeSpec := { name := "fnExactEntryTimes", fn := fun _ => fun
  | [d] => { results := [.lit (.bool true)], args := [d] }
  | _ => none }
def fnExactEntryTimesRow : OpenClaim := { program := "ytebaffdaffcdmaa", sum := "4d433f296de299abb631aceb6352bf4f07edd009acb9dedc2e89bfcde622e8ec", func := "loop.example/g00903/laws.FnExactEntryTimes", spec := "fnExactEntryTimes", apart := false }
def FnExactEntryTimesSaid : Prop := fnExactEntryTimesRow.holds Try.pinned (OpenSpec.ofChange fnExactEntryTimesSpec)

/-- ITS FALSE NEIGHBOUR: 'it returns false'. Refute it at one input. -/
def fnExactEntryTimesWrong : ChangeSpec := { name := "fnExactEntryTimes", fn := fun _ => fun
  | [d] => { results := [.lit (.bool false)], args := [d] }
  | _ => none }
def FnExactEntryTimesWrongFalsely : Prop := fnExactEntryTimesRow.holds Try.pinned (OpenSpec.ofChange fnExactEntryTimesWrong)

/-- 'laws.FnExactDelaysOf': WHATEVER THE INPUT: true; the input reads as it did. -/
def fnExactDelaysOfSpec : ChangeSpec := { name := "fnExactDelaysOf", fn := fun _ => fun
  | [d] => { results := [.lit (.bool true)], args := [d] }
  | _ => none }
def fnExactDelaysOfRow : OpenClaim := { program := "ytebaffdaffcdmaa", sum := "4d433f296de299abb631aceb6352bf4f07edd009acb9dedc2e89bfcde622e8ec", func := "loop.example/g00903/laws.FnExactDelaysOf", spec := "fnExactDelaysOf", apart := false }
def FnExactDelaysOfSaid : Prop := fnExactDelaysOfRow.holds Try.pinned (OpenSpec.ofChange fnExactDelaysOfSpec)

/-- ITS FALSE NEIGHBOUR: 'it returns false'. Refute it at one input. -/
def fnExactDelaysOfWrong : ChangeSpec := { name := "fnExactDelaysOf", fn := fun _ => fun
  | [d] => { results := [.lit (.bool false)], args := [d] }
  | _ => none }
def FnExactDelaysOfWrongFalsely : Prop := fnExactDelaysOfRow.holds Try.pinned (OpenSpec.ofChange fnExactDelaysOfWrong)

/- THE SECOND FORM. 'bulk': how many values and letters a reading holds, each counted each time it is reached (what is shared counts as often as it is met; a slice's spare places count too). A statement '..UptoSaid' is the law's where the arguments, and the package variables that the reading takes, are together of bulk at most 1048576: NARROWER than '..Said'. Prove '..Said' where nothing that the law and all that it calls make is longer than what came in: it says more and counts as full. Else prove '..UptoSaid'. A law counts once. -/
mutual
def uptoBulk {H : Type} : DataW H → Nat
  | .lit (.string bytes) => bytes.length + 1
  | .lit _ => 1
  | .nil => 1
  | .ptr d => uptoBulk d + 1
  | .slice elems spare => uptoBulkAll elems + uptoBulkAll spare + 1
  | .agg parts => uptoBulkAll parts + 1
  | .iface _ d => uptoBulk d + 1
  | .map entries => uptoBulkEntries entries + 1
  | .held _ => 1
def uptoBulkAll {H : Type} : List (DataW H) → Nat
  | [] => 0
  | d :: r => uptoBulk d + uptoBulkAll r
def uptoBulkEntries {H : Type} : List (Lit × DataW H) → Nat
  | [] => 0
  | x :: r => uptoBulkEntry x + uptoBulkEntries r
def uptoBulkEntry {H : Type} : Lit × DataW H → Nat
  | (.string bytes, d) => bytes.length + uptoBulk d + 1
  | (_, d) => uptoBulk d + 1
 end
def uptoSmall : (H : Type) → List (DataW H) → Bool := fun _ ds => decide (uptoBulkAll ds ≤ 1048576)
def OpenSpec.upto (s : _root_.Go.ChangeSpec) : _root_.Go.OpenSpec := { _root_.Go.OpenSpec.ofChange s with cond := some uptoSmall }

/-- 'laws.FnExactSameMixer', WHERE WHAT IT READS IS OF BULK AT MOST 1048576: true; the input reads as it did. -/
def fnExactSameMixerUptoRow : OpenClaim := { program := "ytebaffdaffcdmaa", sum := "4d433f296de299abb631aceb6352bf4f07edd009acb9dedc2e89bfcde622e8ec", func := "loop.example/g00903/laws.FnExactSameMixer", spec := "fnExactSameMixer", apart := false, narrowed := true }
def FnExactSameMixerUptoSaid : Prop := fnExactSameMixerUptoRow.holds Try.pinned (OpenSpec.upto fnExactSameMixerSpec)

/-- 'laws.FnExactValidMixer', WHERE WHAT IT READS IS OF BULK AT MOST 1048576: true; the input reads as it did. -/
def fnExactValidMixerUptoRow : OpenClaim := { program := "ytebaffdaffcdmaa", sum := "4d433f296de299abb631aceb6352bf4f07edd009acb9dedc2e89bfcde622e8ec", func := "loop.example/g00903/laws.FnExactValidMixer", spec := "fnExactValidMixer", apart := false, narrowed := true }
def FnExactValidMixerUptoSaid : Prop := fnExactValidMixerUptoRow.holds Try.pinned (OpenSpec.upto fnExactValidMixerSpec)

/-- 'laws.FnExactStripNamed', WHERE WHAT IT READS IS OF BULK AT MOST 1048576: true; the input reads as it did. -/
def fnExactStripNamedUptoRow : OpenClaim := { program := "ytebaffdaffcdmaa", sum := "4d433f296de299abb631aceb6352bf4f07edd009acb9dedc2e89bfcde622e8ec", func := "loop.example/g00903/laws.FnExactStripNamed", spec := "fnExactStripNamed", apart := false, narrowed := true }
def FnExactStripNamedUptoSaid : Prop := fnExactStripNamedUptoRow.holds Try.pinned (OpenSpec.upto fnExactStripNamedSpec)

/-- 'laws.FnExactTotalLatency', WHERE WHAT IT READS IS OF BULK AT MOST 1048576: true; the input reads as it did. -/
def fnExactTotalLatencyUptoRow : OpenClaim := { program := "ytebaffdaffcdmaa", sum := "4d433f296de299abb631aceb6352bf4f07edd009acb9dedc2e89bfcde622e8ec", func := "loop.example/g00903/laws.FnExactTotalLatency", spec := "fnExactTotalLatency", apart := false, narrowed := true }
def FnExactTotalLatencyUptoSaid : Prop := fnExactTotalLatencyUptoRow.holds Try.pinned (OpenSpec.upto fnExactTotalLatencySpec)

/-- 'laws.FnExactGainTo', WHERE WHAT IT READS IS OF BULK AT MOST 1048576: true; the input reads as it did. -/
def fnExactGainToUptoRow : OpenClaim := { program := "ytebaffdaffcdmaa", sum := "4d433f296de299abb631aceb6352bf4f07edd009acb9dedc2e89bfcde622e8ec", func := "loop.example/g00903/laws.FnExactGainTo", spec := "fnExactGainTo", unfollowed := true, recurses := true, apart := false, narrowed := true }
def FnExactGainToUptoSaid : Prop := fnExactGainToUptoRow.holds Try.pinned (OpenSpec.upto fnExactGainToSpec)

/-- 'laws.FnExactPathsTo', WHERE WHAT IT READS IS OF BULK AT MOST 1048576: true; the input reads as it did. -/
def fnExactPathsToUptoRow : OpenClaim := { program := "ytebaffdaffcdmaa", sum := "4d433f296de299abb631aceb6352bf4f07edd009acb9dedc2e89bfcde622e8ec", func := "loop.example/g00903/laws.FnExactPathsTo", spec := "fnExactPathsTo", unfollowed := true, recurses := true, apart := false, narrowed := true }
def FnExactPathsToUptoSaid : Prop := fnExactPathsToUptoRow.holds Try.pinned (OpenSpec.upto fnExactPathsToSpec)

/-- 'laws.FnExactEntryTimes', WHERE WHAT IT READS IS OF BULK AT MOST 1048576: true; the input reads as it did. -/
def fnExactEntryTimesUptoRow : OpenClaim := { program := "ytebaffdaffcdmaa", sum := "4d433f296de299abb631aceb6352bf4f07edd009acb9dedc2e89bfcde622e8ec", func := "loop.example/g00903/laws.FnExactEntryTimes", spec := "fnExactEntryTimes", apart := false, narrowed := true }
def FnExactEntryTimesUptoSaid : Prop := fnExactEntryTimesUptoRow.holds Try.pinned (OpenSpec.upto fnExactEntryTimesSpec)

/-- 'laws.FnExactDelaysOf', WHERE WHAT IT READS IS OF BULK AT MOST 1048576: true; the input reads as it did. -/
def fnExactDelaysOfUptoRow : OpenClaim := { program := "ytebaffdaffcdmaa", sum := "4d433f296de299abb631aceb6352bf4f07edd009acb9dedc2e89bfcde622e8ec", func := "loop.example/g00903/laws.FnExactDelaysOf", spec := "fnExactDelaysOf", apart := false, narrowed := true }
def FnExactDelaysOfUptoSaid : Prop := fnExactDelaysOfUptoRow.holds Try.pinned (OpenSpec.upto fnExactDelaysOfSpec)

end Rows
end Go.Proofs.Ytebaffdaffcdmaa
