/-
  No cell of these rows narrows 'for every input' (looked for: loops, veiled, ifaces, maps, wideKeys, modest, calm, conditions, laid).
  DERIVED. THE GIVEN ROWS OF THIS SEAT. 10 by the template 'for every input the law returns true; each argument reads behind the call as it read before'; 0 by the template 'total and deterministic' (their statements: YtdllhkfbplpicaaTotals.lean).
  GIVEN WITH THE SEED: the statements are not yours to turn. If you find one false, say at which input.
  Laid BY PROGRAM, IN A SANDBOX (cutbox-rows.mjs): the forced cells as the released guide's own fill.sh prints them over the translation 6c59f6c72a5262fe… (all of the seat's roots in one cut). By AI agents, Wed Nov 11 2026. No macro, syntax, notation, axiom, sorry.
-/
import Derived.Test.YtdllhkfbplpicaaChecked
import GoSem.Claim
import GoSem.ClaimJoined
import GoSem.ClaimMapViews
import Derived.JoinedTies
import Derived.KernelRfl
namespace Go.Proofs.Ytdllhkfbplpicaa
/- THE CELL 'sum', in the pinned program and in every row, IS THE sha256 OF THE DUMP (.gsa) THAT YtdllhkfbplpicaaProg.lean LOADS. Nothing in Lean hashes anything: it is a label: what it is worth is what the hold of that sum in a sandbox is worth. -/
noncomputable def Try.pinned : Pinned := { name := "ytdllhkfbplpicaa", sum := "6c59f6c72a5262fe3cf87e14ce51787d0b91e2568a7aef56d9cedc55916dfa93", checked := Try.checked }
namespace Rows
def none {H : Type} : Left H := { results := [], args := [] }

/-- 'laws.FnExactUnfoldSample': WHATEVER THE INPUT: true; the input reads as it did. -/
def fnExactUnfoldSampleSpec : ChangeSpec := { name := "fnExactUnfoldSample", fn := fun _ => fun
  | [d] => { results := [.lit (.bool true)], args := [d] }
  | _ => none }
def fnExactUnfoldSampleRow : OpenClaim := { program := "ytdllhkfbplpicaa", sum := "6c59f6c72a5262fe3cf87e14ce51787d0b91e2568a7aef56d9cedc55916dfa93", func := "loop.example/g00903/laws.FnExactUnfoldSample", spec := "fnExactUnfoldSample", apart := false }
def FnExactUnfoldSampleSaid : Prop := fnExactUnfoldSampleRow.holds Try.pinned (OpenSpec.ofChange fnExactUnfoldSampleSpec)

/-- ITS FALSE NEIGHBOUR: 'it returns false'. Refute it at one input. -/
def fnExactUnfoldSampleWrong : ChangeSpec := { name := "fnExactUnfoldSample", fn := fun _ => fun
  | [d] => { results := [.lit (.bool false)], args := [d] }
  | _ => none }
def FnExactUnfoldSampleWrongFalsely : Prop := fnExactUnfoldSampleRow.holds Try.pinned (OpenSpec.ofChange fnExactUnfoldSampleWrong)

/-- 'laws.FnExactFoldSample': WHATEVER THE INPUT: true; the input reads as it did. -/
def fnExactFoldSampleSpec : ChangeSpec := { name := "fnExactFoldSample", fn := fun _ => fun
  | [d] => { results := [.lit (.bool true)], args := [d] }
  | _ => none }
def fnExactFoldSampleRow : OpenClaim := { program := "ytdllhkfbplpicaa", sum := "6c59f6c72a5262fe3cf87e14ce51787d0b91e2568a7aef56d9cedc55916dfa93", func := "loop.example/g00903/laws.FnExactFoldSample", spec := "fnExactFoldSample", apart := false }
def FnExactFoldSampleSaid : Prop := fnExactFoldSampleRow.holds Try.pinned (OpenSpec.ofChange fnExactFoldSampleSpec)

/-- ITS FALSE NEIGHBOUR: 'it returns false'. Refute it at one input. -/
def fnExactFoldSampleWrong : ChangeSpec := { name := "fnExactFoldSample", fn := fun _ => fun
  | [d] => { results := [.lit (.bool false)], args := [d] }
  | _ => none }
def FnExactFoldSampleWrongFalsely : Prop := fnExactFoldSampleRow.holds Try.pinned (OpenSpec.ofChange fnExactFoldSampleWrong)

/-- 'laws.FnExactDecimateSignal': WHATEVER THE INPUT: true; the input reads as it did. -/
def fnExactDecimateSignalSpec : ChangeSpec := { name := "fnExactDecimateSignal", fn := fun _ => fun
  | [d1, d2, d3] => { results := [.lit (.bool true)], args := [d1, d2, d3] }
  | _ => none }
def fnExactDecimateSignalRow : OpenClaim := { program := "ytdllhkfbplpicaa", sum := "6c59f6c72a5262fe3cf87e14ce51787d0b91e2568a7aef56d9cedc55916dfa93", func := "loop.example/g00903/laws.FnExactDecimateSignal", spec := "fnExactDecimateSignal", apart := false }
def FnExactDecimateSignalSaid : Prop := fnExactDecimateSignalRow.holds Try.pinned (OpenSpec.ofChange fnExactDecimateSignalSpec)

/-- ITS FALSE NEIGHBOUR: 'it returns false'. Refute it at one input. -/
def fnExactDecimateSignalWrong : ChangeSpec := { name := "fnExactDecimateSignal", fn := fun _ => fun
  | [d1, d2, d3] => { results := [.lit (.bool false)], args := [d1, d2, d3] }
  | _ => none }
def FnExactDecimateSignalWrongFalsely : Prop := fnExactDecimateSignalRow.holds Try.pinned (OpenSpec.ofChange fnExactDecimateSignalWrong)

/-- 'laws.FnExactRiceLength': WHATEVER THE INPUT: true; the input reads as it did. -/
def fnExactRiceLengthSpec : ChangeSpec := { name := "fnExactRiceLength", fn := fun _ => fun
  | [d1, d2] => { results := [.lit (.bool true)], args := [d1, d2] }
  | _ => none }
def fnExactRiceLengthRow : OpenClaim := { program := "ytdllhkfbplpicaa", sum := "6c59f6c72a5262fe3cf87e14ce51787d0b91e2568a7aef56d9cedc55916dfa93", func := "loop.example/g00903/laws.FnExactRiceLength", spec := "fnExactRiceLength", apart := false }
def FnExactRiceLengthSaid : Prop := fnExactRiceLengthRow.holds Try.pinned (OpenSpec.ofChange fnExactRiceLengthSpec)

/-- ITS FALSE NEIGHBOUR: 'it returns false'. Refute it at one input. -/
def fnExactRiceLengthWrong : ChangeSpec := { name := "fnExactRiceLength", fn := fun _ => fun
  | [d1, d2] => { results := [.lit (.bool false)], args := [d1, d2] }
  | _ => none }
def FnExactRiceLengthWrongFalsely : Prop := fnExactRiceLengthRow.holds Try.pinned (OpenSpec.ofChange fnExactRiceLengthWrong)

/-- 'laws.FnExactIntegrateSignal': WHATEVER THE INPUT: true; the input reads as it did. -/
def fnExactIntegrateSignalSpec : ChangeSpec := { name := "fnExactIntegrateSignal", fn := fun _ => fun
  | [d] => { results := [.lit (.bool true)], args := [d] }
  | _ => none }
def fnExactIntegrateSignalRow : OpenClaim := { program := "ytdllhkfbplpicaa", sum := "6c59f6c72a5262fe3cf87e14ce51787d0b91e2568a7aef56d9cedc55916dfa93", func := "loop.example/g00903/laws.FnExactIntegrateSignal", spec := "fnExactIntegrateSignal", apart := false }
def FnExactIntegrateSignalSaid : Prop := fnExactIntegrateSignalRow.holds Try.pinned (OpenSpec.ofChange fnExactIntegrateSignalSpec)

/-- ITS FALSE NEIGHBOUR: 'it returns false'. Refute it at one input. -/
def fnExactIntegrateSignalWrong : ChangeSpec := { name := "fnExactIntegrateSignal", fn := fun _ => fun
  | [d] => { results := [.lit (.bool false)], args := [d] }
  | _ => none }
def FnExactIntegrateSignalWrongFalsely : Prop := fnExactIntegrateSignalRow.holds Try.pinned (OpenSpec.ofChange fnExactIntegrateSignalWrong)

/-- 'laws.FnExactBestRice': WHATEVER THE INPUT: true; the input reads as it did. -/
def fnExactBestRiceSpec : ChangeSpec := { name := "fnExactBestRice", fn := fun _ => fun
  | [d] => { results := [.lit (.bool true)], args := [d] }
  | _ => none }
def fnExactBestRiceRow : OpenClaim := { program := "ytdllhkfbplpicaa", sum := "6c59f6c72a5262fe3cf87e14ce51787d0b91e2568a7aef56d9cedc55916dfa93", func := "loop.example/g00903/laws.FnExactBestRice", spec := "fnExactBestRice", apart := false }
def FnExactBestRiceSaid : Prop := fnExactBestRiceRow.holds Try.pinned (OpenSpec.ofChange fnExactBestRiceSpec)

/-- ITS FALSE NEIGHBOUR: 'it returns false'. Refute it at one input. -/
def fnExactBestRiceWrong : ChangeSpec := { name := "fnExactBestRice", fn := fun _ => fun
  | [d] => { results := [.lit (.bool false)], args := [d] }
  | _ => none }
def FnExactBestRiceWrongFalsely : Prop := fnExactBestRiceRow.holds Try.pinned (OpenSpec.ofChange fnExactBestRiceWrong)

/-- 'laws.FnExactTapSignal': WHATEVER THE INPUT: true; the input reads as it did. -/
def fnExactTapSignalSpec : ChangeSpec := { name := "fnExactTapSignal", fn := fun _ => fun
  | [d1, d2] => { results := [.lit (.bool true)], args := [d1, d2] }
  | _ => none }
def fnExactTapSignalRow : OpenClaim := { program := "ytdllhkfbplpicaa", sum := "6c59f6c72a5262fe3cf87e14ce51787d0b91e2568a7aef56d9cedc55916dfa93", func := "loop.example/g00903/laws.FnExactTapSignal", spec := "fnExactTapSignal", apart := false }
def FnExactTapSignalSaid : Prop := fnExactTapSignalRow.holds Try.pinned (OpenSpec.ofChange fnExactTapSignalSpec)

/-- ITS FALSE NEIGHBOUR: 'it returns false'. Refute it at one input. -/
def fnExactTapSignalWrong : ChangeSpec := { name := "fnExactTapSignal", fn := fun _ => fun
  | [d1, d2] => { results := [.lit (.bool false)], args := [d1, d2] }
  | _ => none }
def FnExactTapSignalWrongFalsely : Prop := fnExactTapSignalRow.holds Try.pinned (OpenSpec.ofChange fnExactTapSignalWrong)

/-- 'laws.FnExactCombSignal': WHATEVER THE INPUT: true; the input reads as it did. -/
def fnExactCombSignalSpec : ChangeSpec := { name := "fnExactCombSignal", fn := fun _ => fun
  | [d1, d2] => { results := [.lit (.bool true)], args := [d1, d2] }
  | _ => none }
def fnExactCombSignalRow : OpenClaim := { program := "ytdllhkfbplpicaa", sum := "6c59f6c72a5262fe3cf87e14ce51787d0b91e2568a7aef56d9cedc55916dfa93", func := "loop.example/g00903/laws.FnExactCombSignal", spec := "fnExactCombSignal", apart := false }
def FnExactCombSignalSaid : Prop := fnExactCombSignalRow.holds Try.pinned (OpenSpec.ofChange fnExactCombSignalSpec)

/-- ITS FALSE NEIGHBOUR: 'it returns false'. Refute it at one input. -/
def fnExactCombSignalWrong : ChangeSpec := { name := "fnExactCombSignal", fn := fun _ => fun
  | [d1, d2] => { results := [.lit (.bool false)], args := [d1, d2] }
  | _ => none }
def FnExactCombSignalWrongFalsely : Prop := fnExactCombSignalRow.holds Try.pinned (OpenSpec.ofChange fnExactCombSignalWrong)

/-- 'laws.FnExactRestoreSignal': WHATEVER THE INPUT: true; the input reads as it did. -/
def fnExactRestoreSignalSpec : ChangeSpec := { name := "fnExactRestoreSignal", fn := fun _ => fun
  | [d1, d2] => { results := [.lit (.bool true)], args := [d1, d2] }
  | _ => none }
def fnExactRestoreSignalRow : OpenClaim := { program := "ytdllhkfbplpicaa", sum := "6c59f6c72a5262fe3cf87e14ce51787d0b91e2568a7aef56d9cedc55916dfa93", func := "loop.example/g00903/laws.FnExactRestoreSignal", spec := "fnExactRestoreSignal", apart := false }
def FnExactRestoreSignalSaid : Prop := fnExactRestoreSignalRow.holds Try.pinned (OpenSpec.ofChange fnExactRestoreSignalSpec)

/-- ITS FALSE NEIGHBOUR: 'it returns false'. Refute it at one input. -/
def fnExactRestoreSignalWrong : ChangeSpec := { name := "fnExactRestoreSignal", fn := fun _ => fun
  | [d1, d2] => { results := [.lit (.bool false)], args := [d1, d2] }
  | _ => none }
def FnExactRestoreSignalWrongFalsely : Prop := fnExactRestoreSignalRow.holds Try.pinned (OpenSpec.ofChange fnExactRestoreSignalWrong)

/-- 'laws.FnExactExpandSignal': WHATEVER THE INPUT: true; the input reads as it did. -/
def fnExactExpandSignalSpec : ChangeSpec := { name := "fnExactExpandSignal", fn := fun _ => fun
  | [d1, d2] => { results := [.lit (.bool true)], args := [d1, d2] }
  | _ => none }
def fnExactExpandSignalRow : OpenClaim := { program := "ytdllhkfbplpicaa", sum := "6c59f6c72a5262fe3cf87e14ce51787d0b91e2568a7aef56d9cedc55916dfa93", func := "loop.example/g00903/laws.FnExactExpandSignal", spec := "fnExactExpandSignal", apart := false }
def FnExactExpandSignalSaid : Prop := fnExactExpandSignalRow.holds Try.pinned (OpenSpec.ofChange fnExactExpandSignalSpec)

/-- ITS FALSE NEIGHBOUR: 'it returns false'. Refute it at one input. -/
def fnExactExpandSignalWrong : ChangeSpec := { name := "fnExactExpandSignal", fn := fun _ => fun
  | [d1, d2] => { results := [.lit (.bool false)], args := [d1, d2] }
  | _ => none }
def FnExactExpandSignalWrongFalsely : Prop := fnExactExpandSignalRow.holds Try.pinned (OpenSpec.ofChange fnExactExpandSignalWrong)

/- THE SECOND FORM. 'bulk': how many values and letters a reading holds, each counted each time it is reached (what is shared counts as often as it is met; a slice's spare places count too). A statement '..UptoSaid' is the law's where the arguments, and the package variables that the reading takes, are together of bulk at most 1048576: NARROWER than '..Said'. Prove '..Said' where nothing that the law and all that it calls make is longer than what came in: it says more and counts as full. Else prove '..UptoSaid'. A law counts once. -/
mutual
def uptoBulk {H : Type} : DataW H → Nat
  | .lit (.string bytes) => bytes.length + 1
  | .lit _ => 1
  | .nil => 1
  | .ptr d => uptoBulk d + 1
  | .slice elems spare => uptoBulkAll elems + uptoBulkAll spare + 1
  | .agg parts => uptoBulkAll parts + 1
  | .iface _ d => uptoBulk d + 1
  | .map entries => uptoBulkEntries entries + 1
  | .held _ => 1
def uptoBulkAll {H : Type} : List (DataW H) → Nat
  | [] => 0
  | d :: r => uptoBulk d + uptoBulkAll r
def uptoBulkEntries {H : Type} : List (Lit × DataW H) → Nat
  | [] => 0
  | x :: r => uptoBulkEntry x + uptoBulkEntries r
def uptoBulkEntry {H : Type} : Lit × DataW H → Nat
  | (.string bytes, d) => bytes.length + uptoBulk d + 1
  | (_, d) => uptoBulk d + 1
 end
def uptoSmall : (H : Type) → List (DataW H) → Bool := fun _ ds => decide (uptoBulkAll ds ≤ 1048576)
def OpenSpec.upto (s : _root_.Go.ChangeSpec) : _root_.Go.OpenSpec := { _root_.Go.OpenSpec.ofChange s with cond := some uptoSmall }

/-- 'laws.FnExactUnfoldSample', WHERE WHAT IT READS IS OF BULK AT MOST 1048576: true; the input reads as it did. -/
def fnExactUnfoldSampleUptoRow : OpenClaim := { program := "ytdllhkfbplpicaa", sum := "6c59f6c72a5262fe3cf87e14ce51787d0b91e2568a7aef56d9cedc55916dfa93", func := "loop.example/g00903/laws.FnExactUnfoldSample", spec := "fnExactUnfoldSample", apart := false, narrowed := true }
def FnExactUnfoldSampleUptoSaid : Prop := fnExactUnfoldSampleUptoRow.holds Try.pinned (OpenSpec.upto fnExactUnfoldSampleSpec)

/-- 'laws.FnExactFoldSample', WHERE WHAT IT READS IS OF BULK AT MOST 1048576: true; the input reads as it did. -/
def fnExactFoldSampleUptoRow : OpenClaim := { program := "ytdllhkfbplpicaa", sum := "6c59f6c72a5262fe3cf87e14ce51787d0b91e2568a7aef56d9cedc55916dfa93", func := "loop.example/g00903/laws.FnExactFoldSample", spec := "fnExactFoldSample", apart := false, narrowed := true }
def FnExactFoldSampleUptoSaid : Prop := fnExactFoldSampleUptoRow.holds Try.pinned (OpenSpec.upto fnExactFoldSampleSpec)

/-- 'laws.FnExactDecimateSignal', WHERE WHAT IT READS IS OF BULK AT MOST 1048576: true; the input reads as it did. -/
def fnExactDecimateSignalUptoRow : OpenClaim := { program := "ytdllhkfbplpicaa", sum := "6c59f6c72a5262fe3cf87e14ce51787d0b91e2568a7aef56d9cedc55916dfa93", func := "loop.example/g00903/laws.FnExactDecimateSignal", spec := "fnExactDecimateSignal", apart := false, narrowed := true }
def FnExactDecimateSignalUptoSaid : Prop := fnExactDecimateSignalUptoRow.holds Try.pinned (OpenSpec.upto fnExactDecimateSignalSpec)

/-- 'laws.FnExactRiceLength', WHERE WHAT IT READS IS OF BULK AT MOST 1048576: true; the input reads as it did. -/
def fnExactRiceLengthUptoRow : OpenClaim := { program := "ytdllhkfbplpicaa", sum := "6c59f6c72a5262fe3cf87e14ce51787d0b91e2568a7aef56d9cedc55916dfa93", func := "loop.example/g00903/laws.FnExactRiceLength", spec := "fnExactRiceLength", apart := false, narrowed := true }
def FnExactRiceLengthUptoSaid : Prop := fnExactRiceLengthUptoRow.holds Try.pinned (OpenSpec.upto fnExactRiceLengthSpec)

/-- 'laws.FnExactIntegrateSignal', WHERE WHAT IT READS IS OF BULK AT MOST 1048576: true; the input reads as it did. -/
def fnExactIntegrateSignalUptoRow : OpenClaim := { program := "ytdllhkfbplpicaa", sum := "6c59f6c72a5262fe3cf87e14ce51787d0b91e2568a7aef56d9cedc55916dfa93", func := "loop.example/g00903/laws.FnExactIntegrateSignal", spec := "fnExactIntegrateSignal", apart := false, narrowed := true }
def FnExactIntegrateSignalUptoSaid : Prop := fnExactIntegrateSignalUptoRow.holds Try.pinned (OpenSpec.upto fnExactIntegrateSignalSpec)

/-- 'laws.FnExactBestRice', WHERE WHAT IT READS IS OF BULK AT MOST 1048576: true; the input reads as it did. -/
def fnExactBestRiceUptoRow : OpenClaim := { program := "ytdllhkfbplpicaa", sum := "6c59f6c72a5262fe3cf87e14ce51787d0b91e2568a7aef56d9cedc55916dfa93", func := "loop.example/g00903/laws.FnExactBestRice", spec := "fnExactBestRice", apart := false, narrowed := true }
def FnExactBestRiceUptoSaid : Prop := fnExactBestRiceUptoRow.holds Try.pinned (OpenSpec.upto fnExactBestRiceSpec)

/-- 'laws.FnExactTapSignal', WHERE WHAT IT READS IS OF BULK AT MOST 1048576: true; the input reads as it did. -/
def fnExactTapSignalUptoRow : OpenClaim := { program := "ytdllhkfbplpicaa", sum := "6c59f6c72a5262fe3cf87e14ce51787d0b91e2568a7aef56d9cedc55916dfa93", func := "loop.example/g00903/laws.FnExactTapSignal", spec := "fnExactTapSignal", apart := false, narrowed := true }
def FnExactTapSignalUptoSaid : Prop := fnExactTapSignalUptoRow.holds Try.pinned (OpenSpec.upto fnExactTapSignalSpec)

/-- 'laws.FnExactCombSignal', WHERE WHAT IT READS IS OF BULK AT MOST 1048576: true; the input reads as it did. -/
def fnExactCombSignalUptoRow : OpenClaim := { program := "ytdllhkfbplpicaa", sum := "6c59f6c72a5262fe3cf87e14ce51787d0b91e2568a7aef56d9cedc55916dfa93", func := "loop.example/g00903/laws.FnExactCombSignal", spec := "fnExactCombSignal", apart := false, narrowed := true }
def FnExactCombSignalUptoSaid : Prop := fnExactCombSignalUptoRow.holds Try.pinned (OpenSpec.upto fnExactCombSignalSpec)

/-- 'laws.FnExactRestoreSignal', WHERE WHAT IT READS IS OF BULK AT MOST 1048576: true; the input reads as it did. -/
def fnExactRestoreSignalUptoRow : OpenClaim := { program := "ytdllhkfbplpicaa", sum := "6c59f6c72a5262fe3cf87e14ce51787d0b91e2568a7aef56d9cedc55916dfa93", func := "loop.example/g00903/laws.FnExactRestoreSignal", spec := "fnExactRestoreSignal", apart := false, narrowed := true }
def FnExactRestoreSignalUptoSaid : Prop := fnExactRestoreSignalUptoRow.holds Try.pinned (OpenSpec.upto fnExactRestoreSignalSpec)

/-- 'laws.FnExactExpandSignal', WHERE WHAT IT READS IS OF BULK AT MOST 1048576: true; the input reads as it did. -/
def fnExactExpandSignalUptoRow : OpenClaim := { program := "ytdllhkfbplpicaa", sum := "6c59f6c72a5262fe3cf87e14ce51787d0b91e2568a7aef56d9cedc55916dfa93", func := "loop.example/g00903/laws.FnExactExpandSignal", spec := "fnExactExpandSignal", apart := false, narrowed := true }
def FnExactExpandSignalUptoSaid : Prop := fnExactExpandSignalUptoRow.holds Try.pinned (OpenSpec.upto fnExactExpandSignalSpec)

end Rows
end Go.Proofs.Ytdllhkfbplpicaa
