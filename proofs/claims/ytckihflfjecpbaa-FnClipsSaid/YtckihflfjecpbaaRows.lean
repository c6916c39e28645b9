/-
  No cell of these rows narrows 'for every input' (looked for: loops, veiled, ifaces, maps, wideKeys, modest, calm, conditions, laid).
  DERIVED. THE GIVEN ROWS OF THIS SEAT. 14 by the template 'for every input the law returns true; each argument reads behind the call as it read before'; 0 by the template 'total and deterministic' (their statements: YtckihflfjecpbaaTotals.lean).
  GIVEN WITH THE SEED: the statements are not yours to turn. If you find one false, say at which input.
  Laid BY PROGRAM, IN A SANDBOX (cutbox-rows.mjs): the forced cells as the released guide's own fill.sh prints them over the translation 32814b89b1debf3d… (all of the seat's roots in one cut). By AI agents, Wed Nov 11 2026. No macro, syntax, notation, axiom, sorry.
-/
import Derived.Test.YtckihflfjecpbaaChecked
import GoSem.Claim
import GoSem.ClaimJoined
import GoSem.ClaimMapViews
import Derived.JoinedTies
import Derived.KernelRfl
namespace Go.Proofs.Ytckihflfjecpbaa
/- THE CELL 'sum', in the pinned program and in every row, IS THE sha256 OF THE DUMP (.gsa) THAT YtckihflfjecpbaaProg.lean LOADS. Nothing in Lean hashes anything: it is a label: what it is worth is what the hold of that sum in a sandbox is worth. -/
noncomputable def Try.pinned : Pinned := { name := "ytckihflfjecpbaa", sum := "32814b89b1debf3d450ce47ef8ebda2d54bed8673684cdd90fd7865b42b173be", checked := Try.checked }
namespace Rows
def none {H : Type} : Left H := { results := [], args := [] }

/-- 'laws.FnExactSetPoint': WHATEVER THE INPUT: true; the input reads as it did. -/
def fnExactSetPointSpec : ChangeSpec := { name := "fnExactSetPoint", fn := fun _ => fun
  | [d1, d2] => { results := [.lit (.bool true)], args := [d1, d2] }
  | _ => none }
def fnExactSetPointRow : OpenClaim := { program := "ytckihflfjecpbaa", sum := "32814b89b1debf3d450ce47ef8ebda2d54bed8673684cdd90fd7865b42b173be", func := "loop.example/g00903/laws.FnExactSetPoint", spec := "fnExactSetPoint", apart := false }
def FnExactSetPointSaid : Prop := fnExactSetPointRow.holds Try.pinned (OpenSpec.ofChange fnExactSetPointSpec)

/-- ITS FALSE NEIGHBOUR: 'it returns false'. Refute it at one input. -/
def fnExactSetPointWrong : ChangeSpec := { name := "fnExactSetPoint", fn := fun _ => fun
  | [d1, d2] => { results := [.lit (.bool false)], args := [d1, d2] }
  | _ => none }
def FnExactSetPointWrongFalsely : Prop := fnExactSetPointRow.holds Try.pinned (OpenSpec.ofChange fnExactSetPointWrong)

/-- 'laws.FnExactDropPoint': WHATEVER THE INPUT: true; the input reads as it did. -/
def fnExactDropPointSpec : ChangeSpec := { name := "fnExactDropPoint", fn := fun _ => fun
  | [d1, d2] => { results := [.lit (.bool true)], args := [d1, d2] }
  | _ => none }
def fnExactDropPointRow : OpenClaim := { program := "ytckihflfjecpbaa", sum := "32814b89b1debf3d450ce47ef8ebda2d54bed8673684cdd90fd7865b42b173be", func := "loop.example/g00903/laws.FnExactDropPoint", spec := "fnExactDropPoint", apart := false }
def FnExactDropPointSaid : Prop := fnExactDropPointRow.holds Try.pinned (OpenSpec.ofChange fnExactDropPointSpec)

/-- ITS FALSE NEIGHBOUR: 'it returns false'. Refute it at one input. -/
def fnExactDropPointWrong : ChangeSpec := { name := "fnExactDropPoint", fn := fun _ => fun
  | [d1, d2] => { results := [.lit (.bool false)], args := [d1, d2] }
  | _ => none }
def FnExactDropPointWrongFalsely : Prop := fnExactDropPointRow.holds Try.pinned (OpenSpec.ofChange fnExactDropPointWrong)

/-- 'laws.FnExactRenderCurve': WHATEVER THE INPUT: true; the input reads as it did. -/
def fnExactRenderCurveSpec : ChangeSpec := { name := "fnExactRenderCurve", fn := fun _ => fun
  | [d1, d2] => { results := [.lit (.bool true)], args := [d1, d2] }
  | _ => none }
def fnExactRenderCurveRow : OpenClaim := { program := "ytckihflfjecpbaa", sum := "32814b89b1debf3d450ce47ef8ebda2d54bed8673684cdd90fd7865b42b173be", func := "loop.example/g00903/laws.FnExactRenderCurve", spec := "fnExactRenderCurve", apart := false }
def FnExactRenderCurveSaid : Prop := fnExactRenderCurveRow.holds Try.pinned (OpenSpec.ofChange fnExactRenderCurveSpec)

/-- ITS FALSE NEIGHBOUR: 'it returns false'. Refute it at one input. -/
def fnExactRenderCurveWrong : ChangeSpec := { name := "fnExactRenderCurve", fn := fun _ => fun
  | [d1, d2] => { results := [.lit (.bool false)], args := [d1, d2] }
  | _ => none }
def FnExactRenderCurveWrongFalsely : Prop := fnExactRenderCurveRow.holds Try.pinned (OpenSpec.ofChange fnExactRenderCurveWrong)

/-- 'laws.FnShifted': WHATEVER THE INPUT: true; the input reads as it did. -/
def fnShiftedSpec : ChangeSpec := { name := "fnShifted", fn := fun _ => fun
  | [d1, d2] => { results := [.lit (.bool true)], args := [d1, d2] }
  | _ => none }
def fnShiftedRow : OpenClaim := { program := "ytckihflfjecpbaa", sum := "32814b89b1debf3d450ce47ef8ebda2d54bed8673684cdd90fd7865b42b173be", func := "loop.example/g00903/laws.FnShifted", spec := "fnShifted", apart := false }
def FnShiftedSaid : Prop := fnShiftedRow.holds Try.pinned (OpenSpec.ofChange fnShiftedSpec)

/-- ITS FALSE NEIGHBOUR: 'it returns false'. Refute it at one input. -/
def fnShiftedWrong : ChangeSpec := { name := "fnShifted", fn := fun _ => fun
  | [d1, d2] => { results := [.lit (.bool false)], args := [d1, d2] }
  | _ => none }
def FnShiftedWrongFalsely : Prop := fnShiftedRow.holds Try.pinned (OpenSpec.ofChange fnShiftedWrong)

/-- 'laws.FnExactApplyCurve': WHATEVER THE INPUT: true; the input reads as it did. -/
def fnExactApplyCurveSpec : ChangeSpec := { name := "fnExactApplyCurve", fn := fun _ => fun
  | [d1, d2] => { results := [.lit (.bool true)], args := [d1, d2] }
  | _ => none }
def fnExactApplyCurveRow : OpenClaim := { program := "ytckihflfjecpbaa", sum := "32814b89b1debf3d450ce47ef8ebda2d54bed8673684cdd90fd7865b42b173be", func := "loop.example/g00903/laws.FnExactApplyCurve", spec := "fnExactApplyCurve", apart := false }
def FnExactApplyCurveSaid : Prop := fnExactApplyCurveRow.holds Try.pinned (OpenSpec.ofChange fnExactApplyCurveSpec)

/-- ITS FALSE NEIGHBOUR: 'it returns false'. Refute it at one input. -/
def fnExactApplyCurveWrong : ChangeSpec := { name := "fnExactApplyCurve", fn := fun _ => fun
  | [d1, d2] => { results := [.lit (.bool false)], args := [d1, d2] }
  | _ => none }
def FnExactApplyCurveWrongFalsely : Prop := fnExactApplyCurveRow.holds Try.pinned (OpenSpec.ofChange fnExactApplyCurveWrong)

/-- 'laws.FnThin': WHATEVER THE INPUT: true; the input reads as it did. -/
def fnThinSpec : ChangeSpec := { name := "fnThin", fn := fun _ => fun
  | [d] => { results := [.lit (.bool true)], args := [d] }
  | _ => none }
def fnThinRow : OpenClaim := { program := "ytckihflfjecpbaa", sum := "32814b89b1debf3d450ce47ef8ebda2d54bed8673684cdd90fd7865b42b173be", func := "loop.example/g00903/laws.FnThin", spec := "fnThin", apart := false }
def FnThinSaid : Prop := fnThinRow.holds Try.pinned (OpenSpec.ofChange fnThinSpec)

/-- ITS FALSE NEIGHBOUR: 'it returns false'. Refute it at one input. -/
def fnThinWrong : ChangeSpec := { name := "fnThin", fn := fun _ => fun
  | [d] => { results := [.lit (.bool false)], args := [d] }
  | _ => none }
def FnThinWrongFalsely : Prop := fnThinRow.holds Try.pinned (OpenSpec.ofChange fnThinWrong)

/-- 'laws.FnExactThinCurve': WHATEVER THE INPUT: true; the input reads as it did. -/
def fnExactThinCurveSpec : ChangeSpec := { name := "fnExactThinCurve", fn := fun _ => fun
  | [d] => { results := [.lit (.bool true)], args := [d] }
  | _ => none }
def fnExactThinCurveRow : OpenClaim := { program := "ytckihflfjecpbaa", sum := "32814b89b1debf3d450ce47ef8ebda2d54bed8673684cdd90fd7865b42b173be", func := "loop.example/g00903/laws.FnExactThinCurve", spec := "fnExactThinCurve", apart := false }
def FnExactThinCurveSaid : Prop := fnExactThinCurveRow.holds Try.pinned (OpenSpec.ofChange fnExactThinCurveSpec)

/-- ITS FALSE NEIGHBOUR: 'it returns false'. Refute it at one input. -/
def fnExactThinCurveWrong : ChangeSpec := { name := "fnExactThinCurve", fn := fun _ => fun
  | [d] => { results := [.lit (.bool false)], args := [d] }
  | _ => none }
def FnExactThinCurveWrongFalsely : Prop := fnExactThinCurveRow.holds Try.pinned (OpenSpec.ofChange fnExactThinCurveWrong)

/-- 'laws.FnExactRemoveClip': WHATEVER THE INPUT: true; the input reads as it did. -/
def fnExactRemoveClipSpec : ChangeSpec := { name := "fnExactRemoveClip", fn := fun _ => fun
  | [d1, d2] => { results := [.lit (.bool true)], args := [d1, d2] }
  | _ => none }
def fnExactRemoveClipRow : OpenClaim := { program := "ytckihflfjecpbaa", sum := "32814b89b1debf3d450ce47ef8ebda2d54bed8673684cdd90fd7865b42b173be", func := "loop.example/g00903/laws.FnExactRemoveClip", spec := "fnExactRemoveClip", apart := false }
def FnExactRemoveClipSaid : Prop := fnExactRemoveClipRow.holds Try.pinned (OpenSpec.ofChange fnExactRemoveClipSpec)

/-- ITS FALSE NEIGHBOUR: 'it returns false'. Refute it at one input. -/
def fnExactRemoveClipWrong : ChangeSpec := { name := "fnExactRemoveClip", fn := fun _ => fun
  | [d1, d2] => { results := [.lit (.bool false)], args := [d1, d2] }
  | _ => none }
def FnExactRemoveClipWrongFalsely : Prop := fnExactRemoveClipRow.holds Try.pinned (OpenSpec.ofChange fnExactRemoveClipWrong)

/-- 'laws.FnExactMergeClips': WHATEVER THE INPUT: true; the input reads as it did. -/
def fnExactMergeClipsSpec : ChangeSpec := { name := "fnExactMergeClips", fn := fun _ => fun
  | [d1, d2] => { results := [.lit (.bool true)], args := [d1, d2] }
  | _ => none }
def fnExactMergeClipsRow : OpenClaim := { program := "ytckihflfjecpbaa", sum := "32814b89b1debf3d450ce47ef8ebda2d54bed8673684cdd90fd7865b42b173be", func := "loop.example/g00903/laws.FnExactMergeClips", spec := "fnExactMergeClips", unfollowed := true, recurses := true, apart := false }
def FnExactMergeClipsSaid : Prop := fnExactMergeClipsRow.holds Try.pinned (OpenSpec.ofChange fnExactMergeClipsSpec)

/-- ITS FALSE NEIGHBOUR: 'it returns false'. Refute it at one input. -/
def fnExactMergeClipsWrong : ChangeSpec := { name := "fnExactMergeClips", fn := fun _ => fun
  | [d1, d2] => { results := [.lit (.bool false)], args := [d1, d2] }
  | _ => none }
def FnExactMergeClipsWrongFalsely : Prop := fnExactMergeClipsRow.holds Try.pinned (OpenSpec.ofChange fnExactMergeClipsWrong)

/-- 'laws.FnExactMoveClip': WHATEVER THE INPUT: true; the input reads as it did. -/
def fnExactMoveClipSpec : ChangeSpec := { name := "fnExactMoveClip", fn := fun _ => fun
  | [d1, d2, d3] => { results := [.lit (.bool true)], args := [d1, d2, d3] }
  | _ => none }
def fnExactMoveClipRow : OpenClaim := { program := "ytckihflfjecpbaa", sum := "32814b89b1debf3d450ce47ef8ebda2d54bed8673684cdd90fd7865b42b173be", func := "loop.example/g00903/laws.FnExactMoveClip", spec := "fnExactMoveClip", inPlace := ["slices.overlaps[loop.example/g00903/impl.Clip]"], apart := false }
def FnExactMoveClipSaid : Prop := fnExactMoveClipRow.holds Try.pinned (OpenSpec.ofChange fnExactMoveClipSpec)

/-- ITS FALSE NEIGHBOUR: 'it returns false'. Refute it at one input. -/
def fnExactMoveClipWrong : ChangeSpec := { name := "fnExactMoveClip", fn := fun _ => fun
  | [d1, d2, d3] => { results := [.lit (.bool false)], args := [d1, d2, d3] }
  | _ => none }
def FnExactMoveClipWrongFalsely : Prop := fnExactMoveClipRow.holds Try.pinned (OpenSpec.ofChange fnExactMoveClipWrong)

/-- 'laws.FnExactTrimClip': WHATEVER THE INPUT: true; the input reads as it did. -/
def fnExactTrimClipSpec : ChangeSpec := { name := "fnExactTrimClip", fn := fun _ => fun
  | [d1, d2, d3, d4] => { results := [.lit (.bool true)], args := [d1, d2, d3, d4] }
  | _ => none }
def fnExactTrimClipRow : OpenClaim := { program := "ytckihflfjecpbaa", sum := "32814b89b1debf3d450ce47ef8ebda2d54bed8673684cdd90fd7865b42b173be", func := "loop.example/g00903/laws.FnExactTrimClip", spec := "fnExactTrimClip", inPlace := ["slices.overlaps[loop.example/g00903/impl.Clip]"], apart := false }
def FnExactTrimClipSaid : Prop := fnExactTrimClipRow.holds Try.pinned (OpenSpec.ofChange fnExactTrimClipSpec)

/-- ITS FALSE NEIGHBOUR: 'it returns false'. Refute it at one input. -/
def fnExactTrimClipWrong : ChangeSpec := { name := "fnExactTrimClip", fn := fun _ => fun
  | [d1, d2, d3, d4] => { results := [.lit (.bool false)], args := [d1, d2, d3, d4] }
  | _ => none }
def FnExactTrimClipWrongFalsely : Prop := fnExactTrimClipRow.holds Try.pinned (OpenSpec.ofChange fnExactTrimClipWrong)

/-- 'laws.FnSplit': WHATEVER THE INPUT: true; the input reads as it did. -/
def fnSplitSpec : ChangeSpec := { name := "fnSplit", fn := fun _ => fun
  | [d1, d2] => { results := [.lit (.bool true)], args := [d1, d2] }
  | _ => none }
def fnSplitRow : OpenClaim := { program := "ytckihflfjecpbaa", sum := "32814b89b1debf3d450ce47ef8ebda2d54bed8673684cdd90fd7865b42b173be", func := "loop.example/g00903/laws.FnSplit", spec := "fnSplit", inPlace := ["slices.overlaps[loop.example/g00903/impl.Clip]"], unfollowed := true, recurses := true, apart := false }
def FnSplitSaid : Prop := fnSplitRow.holds Try.pinned (OpenSpec.ofChange fnSplitSpec)

/-- ITS FALSE NEIGHBOUR: 'it returns false'. Refute it at one input. -/
def fnSplitWrong : ChangeSpec := { name := "fnSplit", fn := fun _ => fun
  | [d1, d2] => { results := [.lit (.bool false)], args := [d1, d2] }
  | _ => none }
def FnSplitWrongFalsely : Prop := fnSplitRow.holds Try.pinned (OpenSpec.ofChange fnSplitWrong)

/-- 'laws.FnMoved': WHATEVER THE INPUT: true; the input reads as it did. -/
def fnMovedSpec : ChangeSpec := { name := "fnMoved", fn := fun _ => fun
  | [d1, d2] => { results := [.lit (.bool true)], args := [d1, d2] }
  | _ => none }
def fnMovedRow : OpenClaim := { program := "ytckihflfjecpbaa", sum := "32814b89b1debf3d450ce47ef8ebda2d54bed8673684cdd90fd7865b42b173be", func := "loop.example/g00903/laws.FnMoved", spec := "fnMoved", inPlace := ["slices.overlaps[loop.example/g00903/impl.Clip]"], unfollowed := true, recurses := true, apart := false }
def FnMovedSaid : Prop := fnMovedRow.holds Try.pinned (OpenSpec.ofChange fnMovedSpec)

/-- ITS FALSE NEIGHBOUR: 'it returns false'. Refute it at one input. -/
def fnMovedWrong : ChangeSpec := { name := "fnMoved", fn := fun _ => fun
  | [d1, d2] => { results := [.lit (.bool false)], args := [d1, d2] }
  | _ => none }
def FnMovedWrongFalsely : Prop := fnMovedRow.holds Try.pinned (OpenSpec.ofChange fnMovedWrong)

/-- 'laws.FnClips': WHATEVER THE INPUT: true; the input reads as it did. -/
def fnClipsSpec : ChangeSpec := { name := "fnClips", fn := fun _ => fun
  | [d1, d2] => { results := [.lit (.bool true)], args := [d1, d2] }
  | _ => none }
def fnClipsRow : OpenClaim := { program := "ytckihflfjecpbaa", sum := "32814b89b1debf3d450ce47ef8ebda2d54bed8673684cdd90fd7865b42b173be", func := "loop.example/g00903/laws.FnClips", spec := "fnClips", inPlace := ["slices.overlaps[loop.example/g00903/impl.Clip]"], unfollowed := true, recurses := true, apart := false }
def FnClipsSaid : Prop := fnClipsRow.holds Try.pinned (OpenSpec.ofChange fnClipsSpec)

/-- ITS FALSE NEIGHBOUR: 'it returns false'. Refute it at one input. -/
def fnClipsWrong : ChangeSpec := { name := "fnClips", fn := fun _ => fun
  | [d1, d2] => { results := [.lit (.bool false)], args := [d1, d2] }
  | _ => none }
def FnClipsWrongFalsely : Prop := fnClipsRow.holds Try.pinned (OpenSpec.ofChange fnClipsWrong)

/- THE SECOND FORM. 'bulk': how many values and letters a reading holds, each counted each time it is reached (what is shared counts as often as it is met; a slice's spare places count too). A statement '..UptoSaid' is the law's where the arguments, and the package variables that the reading takes, are together of bulk at most 1048576: NARROWER than '..Said'. Prove '..Said' where nothing that the law and all that it calls make is longer than what came in: it says more and counts as full. Else prove '..UptoSaid'. A law counts once. -/
mutual
def uptoBulk {H : Type} : DataW H → Nat
  | .lit (.string bytes) => bytes.length + 1
  | .lit _ => 1
  | .nil => 1
  | .ptr d => uptoBulk d + 1
  | .slice elems spare => uptoBulkAll elems + uptoBulkAll spare + 1
  | .agg parts => uptoBulkAll parts + 1
  | .iface _ d => uptoBulk d + 1
  | .map entries => uptoBulkEntries entries + 1
  | .held _ => 1
def uptoBulkAll {H : Type} : List (DataW H) → Nat
  | [] => 0
  | d :: r => uptoBulk d + uptoBulkAll r
def uptoBulkEntries {H : Type} : List (Lit × DataW H) → Nat
  | [] => 0
  | x :: r => uptoBulkEntry x + uptoBulkEntries r
def uptoBulkEntry {H : Type} : Lit × DataW H → Nat
  | (.string bytes, d) => bytes.length + uptoBulk d + 1
  | (_, d) => uptoBulk d + 1
 end
def uptoSmall : (H : Type) → List (DataW H) → Bool := fun _ ds => decide (uptoBulkAll ds ≤ 1048576)
def OpenSpec.upto (s : _root_.Go.ChangeSpec) : _root_.Go.OpenSpec := { _root_.Go.OpenSpec.ofChange s with cond := some uptoSmall }

/-- 'laws.FnExactSetPoint', WHERE WHAT IT READS IS OF BULK AT MOST 1048576: true; the input reads as it did. -/
def fnExactSetPointUptoRow : OpenClaim := { program := "ytckihflfjecpbaa", sum := "32814b89b1debf3d450ce47ef8ebda2d54bed8673684cdd90fd7865b42b173be", func := "loop.example/g00903/laws.FnExactSetPoint", spec := "fnExactSetPoint", apart := false, narrowed := true }
def FnExactSetPointUptoSaid : Prop := fnExactSetPointUptoRow.holds Try.pinned (OpenSpec.upto fnExactSetPointSpec)

/-- 'laws.FnExactDropPoint', WHERE WHAT IT READS IS OF BULK AT MOST 1048576: true; the input reads as it did. -/
def fnExactDropPointUptoRow : OpenClaim := { program := "ytckihflfjecpbaa", sum := "32814b89b1debf3d450ce47ef8ebda2d54bed8673684cdd90fd7865b42b173be", func := "loop.example/g00903/laws.FnExactDropPoint", spec := "fnExactDropPoint", apart := false, narrowed := true }
def FnExactDropPointUptoSaid : Prop := fnExactDropPointUptoRow.holds Try.pinned (OpenSpec.upto fnExactDropPointSpec)

/-- 'laws.FnExactRenderCurve', WHERE WHAT IT READS IS OF BULK AT MOST 1048576: true; the input reads as it did. -/
def fnExactRenderCurveUptoRow : OpenClaim := { program := "ytckihflfjecpbaa", sum := "32814b89b1debf3d450ce47ef8ebda2d54bed8673684cdd90fd7865b42b173be", func := "loop.example/g00903/laws.FnExactRenderCurve", spec := "fnExactRenderCurve", apart := false, narrowed := true }
def FnExactRenderCurveUptoSaid : Prop := fnExactRenderCurveUptoRow.holds Try.pinned (OpenSpec.upto fnExactRenderCurveSpec)

/-- 'laws.FnShifted', WHERE WHAT IT READS IS OF BULK AT MOST 1048576: true; the input reads as it did. -/
def fnShiftedUptoRow : OpenClaim := { program := "ytckihflfjecpbaa", sum := "32814b89b1debf3d450ce47ef8ebda2d54bed8673684cdd90fd7865b42b173be", func := "loop.example/g00903/laws.FnShifted", spec := "fnShifted", apart := false, narrowed := true }
def FnShiftedUptoSaid : Prop := fnShiftedUptoRow.holds Try.pinned (OpenSpec.upto fnShiftedSpec)

/-- 'laws.FnExactApplyCurve', WHERE WHAT IT READS IS OF BULK AT MOST 1048576: true; the input reads as it did. -/
def fnExactApplyCurveUptoRow : OpenClaim := { program := "ytckihflfjecpbaa", sum := "32814b89b1debf3d450ce47ef8ebda2d54bed8673684cdd90fd7865b42b173be", func := "loop.example/g00903/laws.FnExactApplyCurve", spec := "fnExactApplyCurve", apart := false, narrowed := true }
def FnExactApplyCurveUptoSaid : Prop := fnExactApplyCurveUptoRow.holds Try.pinned (OpenSpec.upto fnExactApplyCurveSpec)

/-- 'laws.FnThin', WHERE WHAT IT READS IS OF BULK AT MOST 1048576: true; the input reads as it did. -/
def fnThinUptoRow : OpenClaim := { program := "ytckihflfjecpbaa", sum := "32814b89b1debf3d450ce47ef8ebda2d54bed8673684cdd90fd7865b42b173be", func := "loop.example/g00903/laws.FnThin", spec := "fnThin", apart := false, narrowed := true }
def FnThinUptoSaid : Prop := fnThinUptoRow.holds Try.pinned (OpenSpec.upto fnThinSpec)

/-- 'laws.FnExactThinCurve', WHERE WHAT IT READS IS OF BULK AT MOST 1048576: true; the input reads as it did. -/
def fnExactThinCurveUptoRow : OpenClaim := { program := "ytckihflfjecpbaa", sum := "32814b89b1debf3d450ce47ef8ebda2d54bed8673684cdd90fd7865b42b173be", func := "loop.example/g00903/laws.FnExactThinCurve", spec := "fnExactThinCurve", apart := false, narrowed := true }
def FnExactThinCurveUptoSaid : Prop := fnExactThinCurveUptoRow.holds Try.pinned (OpenSpec.upto fnExactThinCurveSpec)

/-- 'laws.FnExactRemoveClip', WHERE WHAT IT READS IS OF BULK AT MOST 1048576: true; the input reads as it did. -/
def fnExactRemoveClipUptoRow : OpenClaim := { program := "ytckihflfjecpbaa", sum := "32814b89b1debf3d450ce47ef8ebda2d54bed8673684cdd90fd7865b42b173be", func := "loop.example/g00903/laws.FnExactRemoveClip", spec := "fnExactRemoveClip", apart := false, narrowed := true }
def FnExactRemoveClipUptoSaid : Prop := fnExactRemoveClipUptoRow.holds Try.pinned (OpenSpec.upto fnExactRemoveClipSpec)

/-- 'laws.FnExactMergeClips', WHERE WHAT IT READS IS OF BULK AT MOST 1048576: true; the input reads as it did. -/
def fnExactMergeClipsUptoRow : OpenClaim := { program := "ytckihflfjecpbaa", sum := "32814b89b1debf3d450ce47ef8ebda2d54bed8673684cdd90fd7865b42b173be", func := "loop.example/g00903/laws.FnExactMergeClips", spec := "fnExactMergeClips", unfollowed := true, recurses := true, apart := false, narrowed := true }
def FnExactMergeClipsUptoSaid : Prop := fnExactMergeClipsUptoRow.holds Try.pinned (OpenSpec.upto fnExactMergeClipsSpec)

/-- 'laws.FnExactMoveClip', WHERE WHAT IT READS IS OF BULK AT MOST 1048576: true; the input reads as it did. -/
def fnExactMoveClipUptoRow : OpenClaim := { program := "ytckihflfjecpbaa", sum := "32814b89b1debf3d450ce47ef8ebda2d54bed8673684cdd90fd7865b42b173be", func := "loop.example/g00903/laws.FnExactMoveClip", spec := "fnExactMoveClip", inPlace := ["slices.overlaps[loop.example/g00903/impl.Clip]"], apart := false, narrowed := true }
def FnExactMoveClipUptoSaid : Prop := fnExactMoveClipUptoRow.holds Try.pinned (OpenSpec.upto fnExactMoveClipSpec)

/-- 'laws.FnExactTrimClip', WHERE WHAT IT READS IS OF BULK AT MOST 1048576: true; the input reads as it did. -/
def fnExactTrimClipUptoRow : OpenClaim := { program := "ytckihflfjecpbaa", sum := "32814b89b1debf3d450ce47ef8ebda2d54bed8673684cdd90fd7865b42b173be", func := "loop.example/g00903/laws.FnExactTrimClip", spec := "fnExactTrimClip", inPlace := ["slices.overlaps[loop.example/g00903/impl.Clip]"], apart := false, narrowed := true }
def FnExactTrimClipUptoSaid : Prop := fnExactTrimClipUptoRow.holds Try.pinned (OpenSpec.upto fnExactTrimClipSpec)

/-- 'laws.FnSplit', WHERE WHAT IT READS IS OF BULK AT MOST 1048576: true; the input reads as it did. -/
def fnSplitUptoRow : OpenClaim := { program := "ytckihflfjecpbaa", sum := "32814b89b1debf3d450ce47ef8ebda2d54bed8673684cdd90fd7865b42b173be", func := "loop.example/g00903/laws.FnSplit", spec := "fnSplit", inPlace := ["slices.overlaps[loop.example/g00903/impl.Clip]"], unfollowed := true, recurses := true, apart := false, narrowed := true }
def FnSplitUptoSaid : Prop := fnSplitUptoRow.holds Try.pinned (OpenSpec.upto fnSplitSpec)

/-- 'laws.FnMoved', WHERE WHAT IT READS IS OF BULK AT MOST 1048576: true; the input reads as it did. -/
def fnMovedUptoRow : OpenClaim := { program := "ytckihflfjecpbaa", sum := "32814b89b1debf3d450ce47ef8ebda2d54bed8673684cdd90fd7865b42b173be", func := "loop.example/g00903/laws.FnMoved", spec := "fnMoved", inPlace := ["slices.overlaps[loop.example/g00903/impl.Clip]"], unfollowed := true, recurses := true, apart := false, narrowed := true }
def FnMovedUptoSaid : Prop := fnMovedUptoRow.holds Try.pinned (OpenSpec.upto fnMovedSpec)

/-- 'laws.FnClips', WHERE WHAT IT READS IS OF BULK AT MOST 1048576: true; the input reads as it did. -/
def fnClipsUptoRow : OpenClaim := { program := "ytckihflfjecpbaa", sum := "32814b89b1debf3d450ce47ef8ebda2d54bed8673684cdd90fd7865b42b173be", func := "loop.example/g00903/laws.FnClips", spec := "fnClips", inPlace := ["slices.overlaps[loop.example/g00903/impl.Clip]"], unfollowed := true, recurses := true, apart := false, narrowed := true }
def FnClipsUptoSaid : Prop := fnClipsUptoRow.holds Try.pinned (OpenSpec.upto fnClipsSpec)

end Rows
end Go.Proofs.Ytckihflfjecpbaa
