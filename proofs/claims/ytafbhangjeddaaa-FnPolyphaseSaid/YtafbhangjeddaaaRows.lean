/-
  No cell of these rows narrows 'for every input' (looked for: loops, veiled, ifaces, maps, wideKeys, modest, calm, conditions, laid).
  DERIVED. THE GIVEN ROWS OF THIS SEAT. 9 by the template 'for every input the law returns true; each argument reads behind the call as it read before'; 0 by the template 'total and deterministic' (their statements: YtafbhangjeddaaaTotals.lean).
  GIVEN WITH THE SEED: the statements are not yours to turn. If you find one false, say at which input.
  Laid BY PROGRAM, IN A SANDBOX (cutbox-rows.mjs): the forced cells as the released guide's own fill.sh prints them over the translation c5d94d3b17a9c1e4… (all of the seat's roots in one cut). By AI agents, Wed Nov 11 2026. No macro, syntax, notation, axiom, sorry.
-/
import Derived.Test.YtafbhangjeddaaaChecked
import GoSem.Claim
import GoSem.ClaimJoined
import GoSem.ClaimMapViews
import Derived.JoinedTies
import Derived.KernelRfl
namespace Go.Proofs.Ytafbhangjeddaaa
/- THE CELL 'sum', in the pinned program and in every row, IS THE sha256 OF THE DUMP (.gsa) THAT YtafbhangjeddaaaProg.lean LOADS. Nothing in Lean hashes anything: it is a label: what it is worth is what the hold of that sum in a sandbox is worth. -/
noncomputable def Try.pinned : Pinned := { name := "ytafbhangjeddaaa", sum := "c5d94d3b17a9c1e416216f8a827f9354ec0e90b60cd12ba569e9cc87cbd6f7f5", checked := Try.checked }
namespace Rows
def none {H : Type} : Left H := { results := [], args := [] }

/-- 'laws.FnExactHoldSignal': WHATEVER THE INPUT: true; the input reads as it did. -/
def fnExactHoldSignalSpec : ChangeSpec := { name := "fnExactHoldSignal", fn := fun _ => fun
  | [d1, d2] => { results := [.lit (.bool true)], args := [d1, d2] }
  | _ => none }
def fnExactHoldSignalRow : OpenClaim := { program := "ytafbhangjeddaaa", sum := "c5d94d3b17a9c1e416216f8a827f9354ec0e90b60cd12ba569e9cc87cbd6f7f5", func := "loop.example/g00903/laws.FnExactHoldSignal", spec := "fnExactHoldSignal", apart := false }
def FnExactHoldSignalSaid : Prop := fnExactHoldSignalRow.holds Try.pinned (OpenSpec.ofChange fnExactHoldSignalSpec)

/-- ITS FALSE NEIGHBOUR: 'it returns false'. Refute it at one input. -/
def fnExactHoldSignalWrong : ChangeSpec := { name := "fnExactHoldSignal", fn := fun _ => fun
  | [d1, d2] => { results := [.lit (.bool false)], args := [d1, d2] }
  | _ => none }
def FnExactHoldSignalWrongFalsely : Prop := fnExactHoldSignalRow.holds Try.pinned (OpenSpec.ofChange fnExactHoldSignalWrong)

/-- 'laws.FnExactPhasesOf': WHATEVER THE INPUT: true; the input reads as it did. -/
def fnExactPhasesOfSpec : ChangeSpec := { name := "fnExactPhasesOf", fn := fun _ => fun
  | [d1, d2] => { results := [.lit (.bool true)], args := [d1, d2] }
  | _ => none }
def fnExactPhasesOfRow : OpenClaim := { program := "ytafbhangjeddaaa", sum := "c5d94d3b17a9c1e416216f8a827f9354ec0e90b60cd12ba569e9cc87cbd6f7f5", func := "loop.example/g00903/laws.FnExactPhasesOf", spec := "fnExactPhasesOf", apart := false }
def FnExactPhasesOfSaid : Prop := fnExactPhasesOfRow.holds Try.pinned (OpenSpec.ofChange fnExactPhasesOfSpec)

/-- ITS FALSE NEIGHBOUR: 'it returns false'. Refute it at one input. -/
def fnExactPhasesOfWrong : ChangeSpec := { name := "fnExactPhasesOf", fn := fun _ => fun
  | [d1, d2] => { results := [.lit (.bool false)], args := [d1, d2] }
  | _ => none }
def FnExactPhasesOfWrongFalsely : Prop := fnExactPhasesOfRow.holds Try.pinned (OpenSpec.ofChange fnExactPhasesOfWrong)

/-- 'laws.FnExactMovingSum': WHATEVER THE INPUT: true; the input reads as it did. -/
def fnExactMovingSumSpec : ChangeSpec := { name := "fnExactMovingSum", fn := fun _ => fun
  | [d1, d2] => { results := [.lit (.bool true)], args := [d1, d2] }
  | _ => none }
def fnExactMovingSumRow : OpenClaim := { program := "ytafbhangjeddaaa", sum := "c5d94d3b17a9c1e416216f8a827f9354ec0e90b60cd12ba569e9cc87cbd6f7f5", func := "loop.example/g00903/laws.FnExactMovingSum", spec := "fnExactMovingSum", apart := false }
def FnExactMovingSumSaid : Prop := fnExactMovingSumRow.holds Try.pinned (OpenSpec.ofChange fnExactMovingSumSpec)

/-- ITS FALSE NEIGHBOUR: 'it returns false'. Refute it at one input. -/
def fnExactMovingSumWrong : ChangeSpec := { name := "fnExactMovingSum", fn := fun _ => fun
  | [d1, d2] => { results := [.lit (.bool false)], args := [d1, d2] }
  | _ => none }
def FnExactMovingSumWrongFalsely : Prop := fnExactMovingSumRow.holds Try.pinned (OpenSpec.ofChange fnExactMovingSumWrong)

/-- 'laws.FnExactCascadeSums': WHATEVER THE INPUT: true; the input reads as it did. -/
def fnExactCascadeSumsSpec : ChangeSpec := { name := "fnExactCascadeSums", fn := fun _ => fun
  | [d1, d2, d3] => { results := [.lit (.bool true)], args := [d1, d2, d3] }
  | _ => none }
def fnExactCascadeSumsRow : OpenClaim := { program := "ytafbhangjeddaaa", sum := "c5d94d3b17a9c1e416216f8a827f9354ec0e90b60cd12ba569e9cc87cbd6f7f5", func := "loop.example/g00903/laws.FnExactCascadeSums", spec := "fnExactCascadeSums", apart := false }
def FnExactCascadeSumsSaid : Prop := fnExactCascadeSumsRow.holds Try.pinned (OpenSpec.ofChange fnExactCascadeSumsSpec)

/-- ITS FALSE NEIGHBOUR: 'it returns false'. Refute it at one input. -/
def fnExactCascadeSumsWrong : ChangeSpec := { name := "fnExactCascadeSums", fn := fun _ => fun
  | [d1, d2, d3] => { results := [.lit (.bool false)], args := [d1, d2, d3] }
  | _ => none }
def FnExactCascadeSumsWrongFalsely : Prop := fnExactCascadeSumsRow.holds Try.pinned (OpenSpec.ofChange fnExactCascadeSumsWrong)

/-- 'laws.FnExactFilterDecimate': WHATEVER THE INPUT: true; the input reads as it did. -/
def fnExactFilterDecimateSpec : ChangeSpec := { name := "fnExactFilterDecimate", fn := fun _ => fun
  | [d1, d2, d3] => { results := [.lit (.bool true)], args := [d1, d2, d3] }
  | _ => none }
def fnExactFilterDecimateRow : OpenClaim := { program := "ytafbhangjeddaaa", sum := "c5d94d3b17a9c1e416216f8a827f9354ec0e90b60cd12ba569e9cc87cbd6f7f5", func := "loop.example/g00903/laws.FnExactFilterDecimate", spec := "fnExactFilterDecimate", apart := false }
def FnExactFilterDecimateSaid : Prop := fnExactFilterDecimateRow.holds Try.pinned (OpenSpec.ofChange fnExactFilterDecimateSpec)

/-- ITS FALSE NEIGHBOUR: 'it returns false'. Refute it at one input. -/
def fnExactFilterDecimateWrong : ChangeSpec := { name := "fnExactFilterDecimate", fn := fun _ => fun
  | [d1, d2, d3] => { results := [.lit (.bool false)], args := [d1, d2, d3] }
  | _ => none }
def FnExactFilterDecimateWrongFalsely : Prop := fnExactFilterDecimateRow.holds Try.pinned (OpenSpec.ofChange fnExactFilterDecimateWrong)

/-- 'laws.FnExactCombCascade': WHATEVER THE INPUT: true; the input reads as it did. -/
def fnExactCombCascadeSpec : ChangeSpec := { name := "fnExactCombCascade", fn := fun _ => fun
  | [d1, d2, d3] => { results := [.lit (.bool true)], args := [d1, d2, d3] }
  | _ => none }
def fnExactCombCascadeRow : OpenClaim := { program := "ytafbhangjeddaaa", sum := "c5d94d3b17a9c1e416216f8a827f9354ec0e90b60cd12ba569e9cc87cbd6f7f5", func := "loop.example/g00903/laws.FnExactCombCascade", spec := "fnExactCombCascade", apart := false }
def FnExactCombCascadeSaid : Prop := fnExactCombCascadeRow.holds Try.pinned (OpenSpec.ofChange fnExactCombCascadeSpec)

/-- ITS FALSE NEIGHBOUR: 'it returns false'. Refute it at one input. -/
def fnExactCombCascadeWrong : ChangeSpec := { name := "fnExactCombCascade", fn := fun _ => fun
  | [d1, d2, d3] => { results := [.lit (.bool false)], args := [d1, d2, d3] }
  | _ => none }
def FnExactCombCascadeWrongFalsely : Prop := fnExactCombCascadeRow.holds Try.pinned (OpenSpec.ofChange fnExactCombCascadeWrong)

/-- 'laws.FnExactFilterExpand': WHATEVER THE INPUT: true; the input reads as it did. -/
def fnExactFilterExpandSpec : ChangeSpec := { name := "fnExactFilterExpand", fn := fun _ => fun
  | [d1, d2, d3] => { results := [.lit (.bool true)], args := [d1, d2, d3] }
  | _ => none }
def fnExactFilterExpandRow : OpenClaim := { program := "ytafbhangjeddaaa", sum := "c5d94d3b17a9c1e416216f8a827f9354ec0e90b60cd12ba569e9cc87cbd6f7f5", func := "loop.example/g00903/laws.FnExactFilterExpand", spec := "fnExactFilterExpand", apart := false }
def FnExactFilterExpandSaid : Prop := fnExactFilterExpandRow.holds Try.pinned (OpenSpec.ofChange fnExactFilterExpandSpec)

/-- ITS FALSE NEIGHBOUR: 'it returns false'. Refute it at one input. -/
def fnExactFilterExpandWrong : ChangeSpec := { name := "fnExactFilterExpand", fn := fun _ => fun
  | [d1, d2, d3] => { results := [.lit (.bool false)], args := [d1, d2, d3] }
  | _ => none }
def FnExactFilterExpandWrongFalsely : Prop := fnExactFilterExpandRow.holds Try.pinned (OpenSpec.ofChange fnExactFilterExpandWrong)

/-- 'laws.FnPolyphase': WHATEVER THE INPUT: true; the input reads as it did. -/
def fnPolyphaseSpec : ChangeSpec := { name := "fnPolyphase", fn := fun _ => fun
  | [d] => { results := [.lit (.bool true)], args := [d] }
  | _ => none }
def fnPolyphaseRow : OpenClaim := { program := "ytafbhangjeddaaa", sum := "c5d94d3b17a9c1e416216f8a827f9354ec0e90b60cd12ba569e9cc87cbd6f7f5", func := "loop.example/g00903/laws.FnPolyphase", spec := "fnPolyphase", apart := false }
def FnPolyphaseSaid : Prop := fnPolyphaseRow.holds Try.pinned (OpenSpec.ofChange fnPolyphaseSpec)

/-- ITS FALSE NEIGHBOUR: 'it returns false'. Refute it at one input. -/
def fnPolyphaseWrong : ChangeSpec := { name := "fnPolyphase", fn := fun _ => fun
  | [d] => { results := [.lit (.bool false)], args := [d] }
  | _ => none }
def FnPolyphaseWrongFalsely : Prop := fnPolyphaseRow.holds Try.pinned (OpenSpec.ofChange fnPolyphaseWrong)

/-- 'laws.FnResample': WHATEVER THE INPUT: true; the input reads as it did. -/
def fnResampleSpec : ChangeSpec := { name := "fnResample", fn := fun _ => fun
  | [d1, d2] => { results := [.lit (.bool true)], args := [d1, d2] }
  | _ => none }
def fnResampleRow : OpenClaim := { program := "ytafbhangjeddaaa", sum := "c5d94d3b17a9c1e416216f8a827f9354ec0e90b60cd12ba569e9cc87cbd6f7f5", func := "loop.example/g00903/laws.FnResample", spec := "fnResample", apart := false }
def FnResampleSaid : Prop := fnResampleRow.holds Try.pinned (OpenSpec.ofChange fnResampleSpec)

/-- ITS FALSE NEIGHBOUR: 'it returns false'. Refute it at one input. -/
def fnResampleWrong : ChangeSpec := { name := "fnResample", fn := fun _ => fun
  | [d1, d2] => { results := [.lit (.bool false)], args := [d1, d2] }
  | _ => none }
def FnResampleWrongFalsely : Prop := fnResampleRow.holds Try.pinned (OpenSpec.ofChange fnResampleWrong)

/- THE SECOND FORM. 'bulk': how many values and letters a reading holds, each counted each time it is reached (what is shared counts as often as it is met; a slice's spare places count too). A statement '..UptoSaid' is the law's where the arguments, and the package variables that the reading takes, are together of bulk at most 1048576: NARROWER than '..Said'. Prove '..Said' where nothing that the law and all that it calls make is longer than what came in: it says more and counts as full. Else prove '..UptoSaid'. A law counts once. -/
mutual
def uptoBulk {H : Type} : DataW H → Nat
  | .lit (.string bytes) => bytes.length + 1
  | .lit _ => 1
  | .nil => 1
  | .ptr d => uptoBulk d + 1
  | .slice elems spare => uptoBulkAll elems + uptoBulkAll spare + 1
  | .agg parts => uptoBulkAll parts + 1
  | .iface _ d => uptoBulk d + 1
  | .map entries => uptoBulkEntries entries + 1
  | .held _ => 1
def uptoBulkAll {H : Type} : List (DataW H) → Nat
  | [] => 0
  | d :: r => uptoBulk d + uptoBulkAll r
def uptoBulkEntries {H : Type} : List (Lit × DataW H) → Nat
  | [] => 0
  | x :: r => uptoBulkEntry x + uptoBulkEntries r
def uptoBulkEntry {H : Type} : Lit × DataW H → Nat
  | (.string bytes, d) => bytes.length + uptoBulk d + 1
  | (_, d) => uptoBulk d + 1
 end
def uptoSmall : (H : Type) → List (DataW H) → Bool := fun _ ds => decide (uptoBulkAll ds ≤ 1048576)
def OpenSpec.upto (s : _root_.Go.ChangeSpec) : _root_.Go.OpenSpec := { _root_.Go.OpenSpec.ofChange s with cond := some uptoSmall }

/-- 'laws.FnExactHoldSignal', WHERE WHAT IT READS IS OF BULK AT MOST 1048576: true; the input reads as it did. -/
def fnExactHoldSignalUptoRow : OpenClaim := { program := "ytafbhangjeddaaa", sum := "c5d94d3b17a9c1e416216f8a827f9354ec0e90b60cd12ba569e9cc87cbd6f7f5", func := "loop.example/g00903/laws.FnExactHoldSignal", spec := "fnExactHoldSignal", apart := false, narrowed := true }
def FnExactHoldSignalUptoSaid : Prop := fnExactHoldSignalUptoRow.holds Try.pinned (OpenSpec.upto fnExactHoldSignalSpec)

/-- 'laws.FnExactPhasesOf', WHERE WHAT IT READS IS OF BULK AT MOST 1048576: true; the input reads as it did. -/
def fnExactPhasesOfUptoRow : OpenClaim := { program := "ytafbhangjeddaaa", sum := "c5d94d3b17a9c1e416216f8a827f9354ec0e90b60cd12ba569e9cc87cbd6f7f5", func := "loop.example/g00903/laws.FnExactPhasesOf", spec := "fnExactPhasesOf", apart := false, narrowed := true }
def FnExactPhasesOfUptoSaid : Prop := fnExactPhasesOfUptoRow.holds Try.pinned (OpenSpec.upto fnExactPhasesOfSpec)

/-- 'laws.FnExactMovingSum', WHERE WHAT IT READS IS OF BULK AT MOST 1048576: true; the input reads as it did. -/
def fnExactMovingSumUptoRow : OpenClaim := { program := "ytafbhangjeddaaa", sum := "c5d94d3b17a9c1e416216f8a827f9354ec0e90b60cd12ba569e9cc87cbd6f7f5", func := "loop.example/g00903/laws.FnExactMovingSum", spec := "fnExactMovingSum", apart := false, narrowed := true }
def FnExactMovingSumUptoSaid : Prop := fnExactMovingSumUptoRow.holds Try.pinned (OpenSpec.upto fnExactMovingSumSpec)

/-- 'laws.FnExactCascadeSums', WHERE WHAT IT READS IS OF BULK AT MOST 1048576: true; the input reads as it did. -/
def fnExactCascadeSumsUptoRow : OpenClaim := { program := "ytafbhangjeddaaa", sum := "c5d94d3b17a9c1e416216f8a827f9354ec0e90b60cd12ba569e9cc87cbd6f7f5", func := "loop.example/g00903/laws.FnExactCascadeSums", spec := "fnExactCascadeSums", apart := false, narrowed := true }
def FnExactCascadeSumsUptoSaid : Prop := fnExactCascadeSumsUptoRow.holds Try.pinned (OpenSpec.upto fnExactCascadeSumsSpec)

/-- 'laws.FnExactFilterDecimate', WHERE WHAT IT READS IS OF BULK AT MOST 1048576: true; the input reads as it did. -/
def fnExactFilterDecimateUptoRow : OpenClaim := { program := "ytafbhangjeddaaa", sum := "c5d94d3b17a9c1e416216f8a827f9354ec0e90b60cd12ba569e9cc87cbd6f7f5", func := "loop.example/g00903/laws.FnExactFilterDecimate", spec := "fnExactFilterDecimate", apart := false, narrowed := true }
def FnExactFilterDecimateUptoSaid : Prop := fnExactFilterDecimateUptoRow.holds Try.pinned (OpenSpec.upto fnExactFilterDecimateSpec)

/-- 'laws.FnExactCombCascade', WHERE WHAT IT READS IS OF BULK AT MOST 1048576: true; the input reads as it did. -/
def fnExactCombCascadeUptoRow : OpenClaim := { program := "ytafbhangjeddaaa", sum := "c5d94d3b17a9c1e416216f8a827f9354ec0e90b60cd12ba569e9cc87cbd6f7f5", func := "loop.example/g00903/laws.FnExactCombCascade", spec := "fnExactCombCascade", apart := false, narrowed := true }
def FnExactCombCascadeUptoSaid : Prop := fnExactCombCascadeUptoRow.holds Try.pinned (OpenSpec.upto fnExactCombCascadeSpec)

/-- 'laws.FnExactFilterExpand', WHERE WHAT IT READS IS OF BULK AT MOST 1048576: true; the input reads as it did. -/
def fnExactFilterExpandUptoRow : OpenClaim := { program := "ytafbhangjeddaaa", sum := "c5d94d3b17a9c1e416216f8a827f9354ec0e90b60cd12ba569e9cc87cbd6f7f5", func := "loop.example/g00903/laws.FnExactFilterExpand", spec := "fnExactFilterExpand", apart := false, narrowed := true }
def FnExactFilterExpandUptoSaid : Prop := fnExactFilterExpandUptoRow.holds Try.pinned (OpenSpec.upto fnExactFilterExpandSpec)

/-- 'laws.FnPolyphase', WHERE WHAT IT READS IS OF BULK AT MOST 1048576: true; the input reads as it did. -/
def fnPolyphaseUptoRow : OpenClaim := { program := "ytafbhangjeddaaa", sum := "c5d94d3b17a9c1e416216f8a827f9354ec0e90b60cd12ba569e9cc87cbd6f7f5", func := "loop.example/g00903/laws.FnPolyphase", spec := "fnPolyphase", apart := false, narrowed := true }
def FnPolyphaseUptoSaid : Prop := fnPolyphaseUptoRow.holds Try.pinned (OpenSpec.upto fnPolyphaseSpec)

/-- 'laws.FnResample', WHERE WHAT IT READS IS OF BULK AT MOST 1048576: true; the input reads as it did. -/
def fnResampleUptoRow : OpenClaim := { program := "ytafbhangjeddaaa", sum := "c5d94d3b17a9c1e416216f8a827f9354ec0e90b60cd12ba569e9cc87cbd6f7f5", func := "loop.example/g00903/laws.FnResample", spec := "fnResample", apart := false, narrowed := true }
def FnResampleUptoSaid : Prop := fnResampleUptoRow.holds Try.pinned (OpenSpec.upto fnResampleSpec)

end Rows
end Go.Proofs.Ytafbhangjeddaaa
