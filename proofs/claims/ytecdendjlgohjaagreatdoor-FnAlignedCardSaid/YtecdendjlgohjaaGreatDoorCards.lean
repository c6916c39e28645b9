/-
  DERIVED. GIVEN WITH THE SEED: THE CARDS: each row of YtecdendjlgohjaaGreatDoorRows.lean that lists a variable, with what it lists TIED to the program's text (the seventh form; the later family's looks); each row that meets fmt, with fmt's text TOLD by the authors' own Lean function (tested against real Go, not proved from fmt's source: count such statements apart). THE CARD IS WHAT COUNTS. Prove the row's statement (the work); the ties are given (YtecdendjlgohjaaGreatDoorTie.lean); close each card by the builder's one call (the guide's Derived/Test/ToyasCard.lean, 'card_holds'). Laid BY PROGRAM, IN A SANDBOX (cutbox-door.mjs). By AI agents, Wed Nov 11 2026. No macro, syntax, notation, axiom, sorry.
-/
import Derived.Test.YtecdendjlgohjaaGreatDoorRows
import GoSem.ClaimSeven
namespace Go.Proofs.YtecdendjlgohjaaGreatDoor
namespace Rows

/-- THE TIED CARD OF 'laws.FnExactReadMixer'. -/
def fnExactReadMixerCard : Claim7 := { stood := { row := fnExactReadMixerRow, standIns := [], harness := (true, "91d4d8bace5f6f59afa25852d2b01aeea4848d88732c9d9b029492a6046f99cd"), looks := true }, kinds := [], alts := [], laidByText := true, laidKinds := [.data, .data, .data, .data, .sentinel, .sentinel, .pinned], laidTests := true, laidLooks := .later }
def FnExactReadMixerCardSaid : Prop := Claim7.holds Tryz.pinned (.plain (OpenSpec.ofChange fnExactReadMixerSpec)) fnExactReadMixerCard

/-- THE TIED CARD OF 'laws.FnAligned'. -/
def fnAlignedCard : Claim7 := { stood := { row := fnAlignedRow, standIns := [], harness := (true, "91d4d8bace5f6f59afa25852d2b01aeea4848d88732c9d9b029492a6046f99cd"), looks := true }, kinds := [], alts := [], laidByText := true, laidKinds := [.data, .data, .data, .data, .sentinel, .sentinel, .pinned], laidTests := true, laidLooks := .later }
def FnAlignedCardSaid : Prop := Claim7.holds Tryz.pinned (.plain (OpenSpec.ofChange fnAlignedSpec)) fnAlignedCard

/-- THE SECOND FORM's CARD OF 'laws.FnExactReadMixer'. -/
def fnExactReadMixerUptoCard : Claim7 := { stood := { row := fnExactReadMixerUptoRow, standIns := [], harness := (true, "91d4d8bace5f6f59afa25852d2b01aeea4848d88732c9d9b029492a6046f99cd"), looks := true }, kinds := [], alts := [], laidByText := true, laidKinds := [.data, .data, .data, .data, .sentinel, .sentinel, .pinned], laidTests := true, laidLooks := .later }
def FnExactReadMixerUptoCardSaid : Prop := Claim7.holds Tryz.pinned (.plain (OpenSpec.upto fnExactReadMixerSpec)) fnExactReadMixerUptoCard

/-- THE SECOND FORM's CARD OF 'laws.FnAligned'. -/
def fnAlignedUptoCard : Claim7 := { stood := { row := fnAlignedUptoRow, standIns := [], harness := (true, "91d4d8bace5f6f59afa25852d2b01aeea4848d88732c9d9b029492a6046f99cd"), looks := true }, kinds := [], alts := [], laidByText := true, laidKinds := [.data, .data, .data, .data, .sentinel, .sentinel, .pinned], laidTests := true, laidLooks := .later }
def FnAlignedUptoCardSaid : Prop := Claim7.holds Tryz.pinned (.plain (OpenSpec.upto fnAlignedSpec)) fnAlignedUptoCard
end Rows
end Go.Proofs.YtecdendjlgohjaaGreatDoor
