/-
  No cell of these rows narrows 'for every input' (looked for: loops, veiled, ifaces, maps, wideKeys, modest, calm, conditions, laid).
  DERIVED. THE GIVEN ROWS OF THIS SEAT. 3 by the template 'for every input the law returns true; each argument reads behind the call as it read before'; 0 by the template 'total and deterministic' (their statements: YtacgcagpaecncaaGreatTotals.lean).
  GIVEN WITH THE SEED: the statements are not yours to turn. If you find one false, say at which input.
  Laid BY PROGRAM, IN A SANDBOX (cutbox-rows.mjs): the forced cells as the released guide's own fill.sh prints them over the translation 3127e82f3c0aa90f… (all of the seat's roots in one cut). By AI agents, Wed Nov 11 2026. No macro, syntax, notation, axiom, sorry.
-/
import Derived.Test.YtacgcagpaecncaaGreatChecked
import GoSem.Claim
import GoSem.ClaimJoined
import GoSem.ClaimMapViews
import Derived.JoinedTies
import Derived.KernelRfl
namespace Go.Proofs.YtacgcagpaecncaaGreat
/- THE CELL 'sum', in the pinned program and in every row, IS THE sha256 OF THE DUMP (.gsa) THAT YtacgcagpaecncaaGreatProg.lean LOADS. Nothing in Lean hashes anything: it is a label: what it is worth is what the hold of that sum in a sandbox is worth. -/
noncomputable def Tryz.pinned : Pinned := { name := "ytacgcagpaecncaagreat", sum := "3127e82f3c0aa90fa7dafef2b644a569b5a21d7b3d4bf2a028829d6cb3a976c3", checked := Tryz.checked }
namespace Rows
def none {H : Type} : Left H := { results := [], args := [] }

/-- 'laws.FnExactValidSession': WHATEVER THE INPUT: true; the input reads as it did. -/
def fnExactValidSessionSpec : ChangeSpec := { name := "fnExactValidSession", fn := fun _ => fun
  | [d] => { results := [.lit (.bool true)], args := [d] }
  | _ => none }
def fnExactValidSessionRow : OpenClaim := { program := "ytacgcagpaecncaagreat", sum := "3127e82f3c0aa90fa7dafef2b644a569b5a21d7b3d4bf2a028829d6cb3a976c3", func := "loop.example/g00903/laws.FnExactValidSession", spec := "fnExactValidSession", unfollowed := true, recurses := true, apart := false }
def FnExactValidSessionSaid : Prop := fnExactValidSessionRow.holds Tryz.pinned (OpenSpec.ofChange fnExactValidSessionSpec)

/-- ITS FALSE NEIGHBOUR: 'it returns false'. Refute it at one input. -/
def fnExactValidSessionWrong : ChangeSpec := { name := "fnExactValidSession", fn := fun _ => fun
  | [d] => { results := [.lit (.bool false)], args := [d] }
  | _ => none }
def FnExactValidSessionWrongFalsely : Prop := fnExactValidSessionRow.holds Tryz.pinned (OpenSpec.ofChange fnExactValidSessionWrong)

/-- 'laws.FnExactIsLinearSession': WHATEVER THE INPUT: true; the input reads as it did. -/
def fnExactIsLinearSessionSpec : ChangeSpec := { name := "fnExactIsLinearSession", fn := fun _ => fun
  | [d] => { results := [.lit (.bool true)], args := [d] }
  | _ => none }
def fnExactIsLinearSessionRow : OpenClaim := { program := "ytacgcagpaecncaagreat", sum := "3127e82f3c0aa90fa7dafef2b644a569b5a21d7b3d4bf2a028829d6cb3a976c3", func := "loop.example/g00903/laws.FnExactIsLinearSession", spec := "fnExactIsLinearSession", unfollowed := true, recurses := true, apart := false }
def FnExactIsLinearSessionSaid : Prop := fnExactIsLinearSessionRow.holds Tryz.pinned (OpenSpec.ofChange fnExactIsLinearSessionSpec)

/-- ITS FALSE NEIGHBOUR: 'it returns false'. Refute it at one input. -/
def fnExactIsLinearSessionWrong : ChangeSpec := { name := "fnExactIsLinearSession", fn := fun _ => fun
  | [d] => { results := [.lit (.bool false)], args := [d] }
  | _ => none }
def FnExactIsLinearSessionWrongFalsely : Prop := fnExactIsLinearSessionRow.holds Tryz.pinned (OpenSpec.ofChange fnExactIsLinearSessionWrong)

/-- 'laws.FnExactMuteTracks': WHATEVER THE INPUT: true; the input reads as it did. -/
def fnExactMuteTracksSpec : ChangeSpec := { name := "fnExactMuteTracks", fn := fun _ => fun
  | [d1, d2] => { results := [.lit (.bool true)], args := [d1, d2] }
  | _ => none }
def fnExactMuteTracksRow : OpenClaim := { program := "ytacgcagpaecncaagreat", sum := "3127e82f3c0aa90fa7dafef2b644a569b5a21d7b3d4bf2a028829d6cb3a976c3", func := "loop.example/g00903/laws.FnExactMuteTracks", spec := "fnExactMuteTracks", unfollowed := true, recurses := true, apart := false }
def FnExactMuteTracksSaid : Prop := fnExactMuteTracksRow.holds Tryz.pinned (OpenSpec.ofChange fnExactMuteTracksSpec)

/-- ITS FALSE NEIGHBOUR: 'it returns false'. Refute it at one input. -/
def fnExactMuteTracksWrong : ChangeSpec := { name := "fnExactMuteTracks", fn := fun _ => fun
  | [d1, d2] => { results := [.lit (.bool false)], args := [d1, d2] }
  | _ => none }
def FnExactMuteTracksWrongFalsely : Prop := fnExactMuteTracksRow.holds Tryz.pinned (OpenSpec.ofChange fnExactMuteTracksWrong)

/- THE SECOND FORM. 'bulk': how many values and letters a reading holds, each counted each time it is reached (what is shared counts as often as it is met; a slice's spare places count too). A statement '..UptoSaid' is the law's where the arguments, and the package variables that the reading takes, are together of bulk at most 1048576: NARROWER than '..Said'. Prove '..Said' where nothing that the law and all that it calls make is longer than what came in: it says more and counts as full. Else prove '..UptoSaid'. A law counts once. -/
mutual
def uptoBulk {H : Type} : DataW H → Nat
  | .lit (.string bytes) => bytes.length + 1
  | .lit _ => 1
  | .nil => 1
  | .ptr d => uptoBulk d + 1
  | .slice elems spare => uptoBulkAll elems + uptoBulkAll spare + 1
  | .agg parts => uptoBulkAll parts + 1
  | .iface _ d => uptoBulk d + 1
  | .map entries => uptoBulkEntries entries + 1
  | .held _ => 1
def uptoBulkAll {H : Type} : List (DataW H) → Nat
  | [] => 0
  | d :: r => uptoBulk d + uptoBulkAll r
def uptoBulkEntries {H : Type} : List (Lit × DataW H) → Nat
  | [] => 0
  | x :: r => uptoBulkEntry x + uptoBulkEntries r
def uptoBulkEntry {H : Type} : Lit × DataW H → Nat
  | (.string bytes, d) => bytes.length + uptoBulk d + 1
  | (_, d) => uptoBulk d + 1
 end
def uptoSmall : (H : Type) → List (DataW H) → Bool := fun _ ds => decide (uptoBulkAll ds ≤ 1048576)
def OpenSpec.upto (s : _root_.Go.ChangeSpec) : _root_.Go.OpenSpec := { _root_.Go.OpenSpec.ofChange s with cond := some uptoSmall }

/-- 'laws.FnExactValidSession', WHERE WHAT IT READS IS OF BULK AT MOST 1048576: true; the input reads as it did. -/
def fnExactValidSessionUptoRow : OpenClaim := { program := "ytacgcagpaecncaagreat", sum := "3127e82f3c0aa90fa7dafef2b644a569b5a21d7b3d4bf2a028829d6cb3a976c3", func := "loop.example/g00903/laws.FnExactValidSession", spec := "fnExactValidSession", unfollowed := true, recurses := true, apart := false, narrowed := true }
def FnExactValidSessionUptoSaid : Prop := fnExactValidSessionUptoRow.holds Tryz.pinned (OpenSpec.upto fnExactValidSessionSpec)

/-- 'laws.FnExactIsLinearSession', WHERE WHAT IT READS IS OF BULK AT MOST 1048576: true; the input reads as it did. -/
def fnExactIsLinearSessionUptoRow : OpenClaim := { program := "ytacgcagpaecncaagreat", sum := "3127e82f3c0aa90fa7dafef2b644a569b5a21d7b3d4bf2a028829d6cb3a976c3", func := "loop.example/g00903/laws.FnExactIsLinearSession", spec := "fnExactIsLinearSession", unfollowed := true, recurses := true, apart := false, narrowed := true }
def FnExactIsLinearSessionUptoSaid : Prop := fnExactIsLinearSessionUptoRow.holds Tryz.pinned (OpenSpec.upto fnExactIsLinearSessionSpec)

/-- 'laws.FnExactMuteTracks', WHERE WHAT IT READS IS OF BULK AT MOST 1048576: true; the input reads as it did. -/
def fnExactMuteTracksUptoRow : OpenClaim := { program := "ytacgcagpaecncaagreat", sum := "3127e82f3c0aa90fa7dafef2b644a569b5a21d7b3d4bf2a028829d6cb3a976c3", func := "loop.example/g00903/laws.FnExactMuteTracks", spec := "fnExactMuteTracks", unfollowed := true, recurses := true, apart := false, narrowed := true }
def FnExactMuteTracksUptoSaid : Prop := fnExactMuteTracksUptoRow.holds Tryz.pinned (OpenSpec.upto fnExactMuteTracksSpec)

end Rows
end Go.Proofs.YtacgcagpaecncaaGreat
