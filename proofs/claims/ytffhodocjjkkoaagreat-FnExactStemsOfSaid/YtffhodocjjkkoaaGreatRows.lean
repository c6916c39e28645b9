/-
  No cell of these rows narrows 'for every input' (looked for: loops, veiled, ifaces, maps, wideKeys, modest, calm, conditions, laid).
  DERIVED. THE GIVEN ROWS OF THIS SEAT. 5 by the template 'for every input the law returns true; each argument reads behind the call as it read before'; 0 by the template 'total and deterministic' (their statements: YtffhodocjjkkoaaGreatTotals.lean).
  GIVEN WITH THE SEED: the statements are not yours to turn. If you find one false, say at which input.
  Laid BY PROGRAM, IN A SANDBOX (cutbox-rows.mjs): the forced cells as the released guide's own fill.sh prints them over the translation 5ec391d5a2a3800f… (all of the seat's roots in one cut). By AI agents, Wed Nov 11 2026. No macro, syntax, notation, axiom, sorry.
-/
import Derived.Test.YtffhodocjjkkoaaGreatChecked
import GoSem.Claim
import GoSem.ClaimJoined
import GoSem.ClaimMapViews
import Derived.JoinedTies
import Derived.KernelRfl
namespace Go.Proofs.YtffhodocjjkkoaaGreat
/- THE CELL 'sum', in the pinned program and in every row, IS THE sha256 OF THE DUMP (.gsa) THAT YtffhodocjjkkoaaGreatProg.lean LOADS. Nothing in Lean hashes anything: it is a label: what it is worth is what the hold of that sum in a sandbox is worth. -/
noncomputable def Tryz.pinned : Pinned := { name := "ytffhodocjjkkoaagreat", sum := "5ec391d5a2a3800f8649051c70990a0b6fe24e7657432be4da9c78326d64ce09", checked := Tryz.checked }
namespace Rows
def none {H : Type} : Left H := { results := [], args := [] }

/-- 'laws.FnExactRenderMix': WHATEVER THE INPUT: true; the input reads as it did. -/
def fnExactRenderMixSpec : ChangeSpec := { name := "fnExactRenderMix", fn := fun _ => fun
  | [d] => { results := [.lit (.bool true)], args := [d] }
  | _ => none }
def fnExactRenderMixRow : OpenClaim := { program := "ytffhodocjjkkoaagreat", sum := "5ec391d5a2a3800f8649051c70990a0b6fe24e7657432be4da9c78326d64ce09", func := "loop.example/g00903/laws.FnExactRenderMix", spec := "fnExactRenderMix", unfollowed := true, recurses := true, apart := false }
def FnExactRenderMixSaid : Prop := fnExactRenderMixRow.holds Tryz.pinned (OpenSpec.ofChange fnExactRenderMixSpec)

/-- ITS FALSE NEIGHBOUR: 'it returns false'. Refute it at one input. -/
def fnExactRenderMixWrong : ChangeSpec := { name := "fnExactRenderMix", fn := fun _ => fun
  | [d] => { results := [.lit (.bool false)], args := [d] }
  | _ => none }
def FnExactRenderMixWrongFalsely : Prop := fnExactRenderMixRow.holds Tryz.pinned (OpenSpec.ofChange fnExactRenderMixWrong)

/-- 'laws.FnExactStripsOf': WHATEVER THE INPUT: true; the input reads as it did. -/
def fnExactStripsOfSpec : ChangeSpec := { name := "fnExactStripsOf", fn := fun _ => fun
  | [d] => { results := [.lit (.bool true)], args := [d] }
  | _ => none }
def fnExactStripsOfRow : OpenClaim := { program := "ytffhodocjjkkoaagreat", sum := "5ec391d5a2a3800f8649051c70990a0b6fe24e7657432be4da9c78326d64ce09", func := "loop.example/g00903/laws.FnExactStripsOf", spec := "fnExactStripsOf", unfollowed := true, recurses := true, apart := false }
def FnExactStripsOfSaid : Prop := fnExactStripsOfRow.holds Tryz.pinned (OpenSpec.ofChange fnExactStripsOfSpec)

/-- ITS FALSE NEIGHBOUR: 'it returns false'. Refute it at one input. -/
def fnExactStripsOfWrong : ChangeSpec := { name := "fnExactStripsOf", fn := fun _ => fun
  | [d] => { results := [.lit (.bool false)], args := [d] }
  | _ => none }
def FnExactStripsOfWrongFalsely : Prop := fnExactStripsOfRow.holds Tryz.pinned (OpenSpec.ofChange fnExactStripsOfWrong)

/-- 'laws.FnExactStemOf': WHATEVER THE INPUT: true; the input reads as it did. -/
def fnExactStemOfSpec : ChangeSpec := { name := "fnExactStemOf", fn := fun _ => fun
  | [d1, d2] => { results := [.lit (.bool true)], args := [d1, d2] }
  | _ => none }
def fnExactStemOfRow : OpenClaim := { program := "ytffhodocjjkkoaagreat", sum := "5ec391d5a2a3800f8649051c70990a0b6fe24e7657432be4da9c78326d64ce09", func := "loop.example/g00903/laws.FnExactStemOf", spec := "fnExactStemOf", unfollowed := true, recurses := true, apart := false }
def FnExactStemOfSaid : Prop := fnExactStemOfRow.holds Tryz.pinned (OpenSpec.ofChange fnExactStemOfSpec)

/-- ITS FALSE NEIGHBOUR: 'it returns false'. Refute it at one input. -/
def fnExactStemOfWrong : ChangeSpec := { name := "fnExactStemOf", fn := fun _ => fun
  | [d1, d2] => { results := [.lit (.bool false)], args := [d1, d2] }
  | _ => none }
def FnExactStemOfWrongFalsely : Prop := fnExactStemOfRow.holds Tryz.pinned (OpenSpec.ofChange fnExactStemOfWrong)

/-- 'laws.FnExactResidualOf': WHATEVER THE INPUT: true; the input reads as it did. -/
def fnExactResidualOfSpec : ChangeSpec := { name := "fnExactResidualOf", fn := fun _ => fun
  | [d] => { results := [.lit (.bool true)], args := [d] }
  | _ => none }
def fnExactResidualOfRow : OpenClaim := { program := "ytffhodocjjkkoaagreat", sum := "5ec391d5a2a3800f8649051c70990a0b6fe24e7657432be4da9c78326d64ce09", func := "loop.example/g00903/laws.FnExactResidualOf", spec := "fnExactResidualOf", unfollowed := true, recurses := true, apart := false }
def FnExactResidualOfSaid : Prop := fnExactResidualOfRow.holds Tryz.pinned (OpenSpec.ofChange fnExactResidualOfSpec)

/-- ITS FALSE NEIGHBOUR: 'it returns false'. Refute it at one input. -/
def fnExactResidualOfWrong : ChangeSpec := { name := "fnExactResidualOf", fn := fun _ => fun
  | [d] => { results := [.lit (.bool false)], args := [d] }
  | _ => none }
def FnExactResidualOfWrongFalsely : Prop := fnExactResidualOfRow.holds Tryz.pinned (OpenSpec.ofChange fnExactResidualOfWrong)

/-- 'laws.FnExactStemsOf': WHATEVER THE INPUT: true; the input reads as it did. -/
def fnExactStemsOfSpec : ChangeSpec := { name := "fnExactStemsOf", fn := fun _ => fun
  | [d] => { results := [.lit (.bool true)], args := [d] }
  | _ => none }
def fnExactStemsOfRow : OpenClaim := { program := "ytffhodocjjkkoaagreat", sum := "5ec391d5a2a3800f8649051c70990a0b6fe24e7657432be4da9c78326d64ce09", func := "loop.example/g00903/laws.FnExactStemsOf", spec := "fnExactStemsOf", unfollowed := true, recurses := true, apart := false }
def FnExactStemsOfSaid : Prop := fnExactStemsOfRow.holds Tryz.pinned (OpenSpec.ofChange fnExactStemsOfSpec)

/-- ITS FALSE NEIGHBOUR: 'it returns false'. Refute it at one input. -/
def fnExactStemsOfWrong : ChangeSpec := { name := "fnExactStemsOf", fn := fun _ => fun
  | [d] => { results := [.lit (.bool false)], args := [d] }
  | _ => none }
def FnExactStemsOfWrongFalsely : Prop := fnExactStemsOfRow.holds Tryz.pinned (OpenSpec.ofChange fnExactStemsOfWrong)

/- THE SECOND FORM. 'bulk': how many values and letters a reading holds, each counted each time it is reached (what is shared counts as often as it is met; a slice's spare places count too). A statement '..UptoSaid' is the law's where the arguments, and the package variables that the reading takes, are together of bulk at most 1048576: NARROWER than '..Said'. Prove '..Said' where nothing that the law and all that it calls make is longer than what came in: it says more and counts as full. Else prove '..UptoSaid'. A law counts once. -/
mutual
def uptoBulk {H : Type} : DataW H → Nat
  | .lit (.string bytes) => bytes.length + 1
  | .lit _ => 1
  | .nil => 1
  | .ptr d => uptoBulk d + 1
  | .slice elems spare => uptoBulkAll elems + uptoBulkAll spare + 1
  | .agg parts => uptoBulkAll parts + 1
  | .iface _ d => uptoBulk d + 1
  | .map entries => uptoBulkEntries entries + 1
  | .held _ => 1
def uptoBulkAll {H : Type} : List (DataW H) → Nat
  | [] => 0
  | d :: r => uptoBulk d + uptoBulkAll r
def uptoBulkEntries {H : Type} : List (Lit × DataW H) → Nat
  | [] => 0
  | x :: r => uptoBulkEntry x + uptoBulkEntries r
def uptoBulkEntry {H : Type} : Lit × DataW H → Nat
  | (.string bytes, d) => bytes.length + uptoBulk d + 1
  | (_, d) => uptoBulk d + 1
 end
def uptoSmall : (H : Type) → List (DataW H) → Bool := fun _ ds => decide (uptoBulkAll ds ≤ 1048576)
def OpenSpec.upto (s : _root_.Go.ChangeSpec) : _root_.Go.OpenSpec := { _root_.Go.OpenSpec.ofChange s with cond := some uptoSmall }

/-- 'laws.FnExactRenderMix', WHERE WHAT IT READS IS OF BULK AT MOST 1048576: true; the input reads as it did. -/
def fnExactRenderMixUptoRow : OpenClaim := { program := "ytffhodocjjkkoaagreat", sum := "5ec391d5a2a3800f8649051c70990a0b6fe24e7657432be4da9c78326d64ce09", func := "loop.example/g00903/laws.FnExactRenderMix", spec := "fnExactRenderMix", unfollowed := true, recurses := true, apart := false, narrowed := true }
def FnExactRenderMixUptoSaid : Prop := fnExactRenderMixUptoRow.holds Tryz.pinned (OpenSpec.upto fnExactRenderMixSpec)

/-- 'laws.FnExactStripsOf', WHERE WHAT IT READS IS OF BULK AT MOST 1048576: true; the input reads as it did. -/
def fnExactStripsOfUptoRow : OpenClaim := { program := "ytffhodocjjkkoaagreat", sum := "5ec391d5a2a3800f8649051c70990a0b6fe24e7657432be4da9c78326d64ce09", func := "loop.example/g00903/laws.FnExactStripsOf", spec := "fnExactStripsOf", unfollowed := true, recurses := true, apart := false, narrowed := true }
def FnExactStripsOfUptoSaid : Prop := fnExactStripsOfUptoRow.holds Tryz.pinned (OpenSpec.upto fnExactStripsOfSpec)

/-- 'laws.FnExactStemOf', WHERE WHAT IT READS IS OF BULK AT MOST 1048576: true; the input reads as it did. -/
def fnExactStemOfUptoRow : OpenClaim := { program := "ytffhodocjjkkoaagreat", sum := "5ec391d5a2a3800f8649051c70990a0b6fe24e7657432be4da9c78326d64ce09", func := "loop.example/g00903/laws.FnExactStemOf", spec := "fnExactStemOf", unfollowed := true, recurses := true, apart := false, narrowed := true }
def FnExactStemOfUptoSaid : Prop := fnExactStemOfUptoRow.holds Tryz.pinned (OpenSpec.upto fnExactStemOfSpec)

/-- 'laws.FnExactResidualOf', WHERE WHAT IT READS IS OF BULK AT MOST 1048576: true; the input reads as it did. -/
def fnExactResidualOfUptoRow : OpenClaim := { program := "ytffhodocjjkkoaagreat", sum := "5ec391d5a2a3800f8649051c70990a0b6fe24e7657432be4da9c78326d64ce09", func := "loop.example/g00903/laws.FnExactResidualOf", spec := "fnExactResidualOf", unfollowed := true, recurses := true, apart := false, narrowed := true }
def FnExactResidualOfUptoSaid : Prop := fnExactResidualOfUptoRow.holds Tryz.pinned (OpenSpec.upto fnExactResidualOfSpec)

/-- 'laws.FnExactStemsOf', WHERE WHAT IT READS IS OF BULK AT MOST 1048576: true; the input reads as it did. -/
def fnExactStemsOfUptoRow : OpenClaim := { program := "ytffhodocjjkkoaagreat", sum := "5ec391d5a2a3800f8649051c70990a0b6fe24e7657432be4da9c78326d64ce09", func := "loop.example/g00903/laws.FnExactStemsOf", spec := "fnExactStemsOf", unfollowed := true, recurses := true, apart := false, narrowed := true }
def FnExactStemsOfUptoSaid : Prop := fnExactStemsOfUptoRow.holds Tryz.pinned (OpenSpec.upto fnExactStemsOfSpec)

end Rows
end Go.Proofs.YtffhodocjjkkoaaGreat
