/-
  DERIVED. GIVEN WITH THE SEED: THE CARDS: each row of YtecdendjlgohjaaDoorRows.lean that lists a variable, with what it lists TIED to the program's text (the seventh form; the later family's looks); each row that meets fmt, with fmt's text TOLD by the authors' own Lean function (tested against real Go, not proved from fmt's source: count such statements apart). THE CARD IS WHAT COUNTS. Prove the row's statement (the work); the ties are given (YtecdendjlgohjaaDoorTie.lean); close each card by the builder's one call (the guide's Derived/Test/ToyasCard.lean, 'card_holds'). Laid BY PROGRAM, IN A SANDBOX (cutbox-door.mjs). By AI agents, Wed Nov 11 2026. No macro, syntax, notation, axiom, sorry.
-/
import Derived.Test.YtecdendjlgohjaaDoorRows
import GoSem.ClaimSeven
namespace Go.Proofs.YtecdendjlgohjaaDoor
namespace Rows

/-- THE TIED CARD OF 'laws.FnExactCurveText'. -/
def fnExactCurveTextCard : Claim7 := { stood := { row := fnExactCurveTextRow, standIns := [], harness := (true, "a29e3ef8ac02445d50863c82c102979645ad1192376b2e96ac162bfe4a2a3d21"), looks := true }, kinds := [], alts := [], laidByText := true, laidKinds := [.data, .data, .data], laidTests := true, laidLooks := .later }
def FnExactCurveTextCardSaid : Prop := Claim7.holds Tryd.pinned (.plain (OpenSpec.ofChange fnExactCurveTextSpec)) fnExactCurveTextCard

/-- THE TIED CARD OF 'laws.FnExactMixerText'. -/
def fnExactMixerTextCard : Claim7 := { stood := { row := fnExactMixerTextRow, standIns := [], harness := (true, "a29e3ef8ac02445d50863c82c102979645ad1192376b2e96ac162bfe4a2a3d21"), looks := true }, kinds := [], alts := [], laidByText := true, laidKinds := [.data, .data, .data], laidTests := true, laidLooks := .later }
def FnExactMixerTextCardSaid : Prop := Claim7.holds Tryd.pinned (.plain (OpenSpec.ofChange fnExactMixerTextSpec)) fnExactMixerTextCard

/-- THE TIED CARD OF 'laws.FnExactReadCurve'. -/
def fnExactReadCurveCard : Claim7 := { stood := { row := fnExactReadCurveRow, standIns := [], harness := (true, "a29e3ef8ac02445d50863c82c102979645ad1192376b2e96ac162bfe4a2a3d21"), looks := true }, kinds := [], alts := [], laidByText := true, laidKinds := [.data, .data, .data, .data, .sentinel, .sentinel, .pinned], laidTests := true, laidLooks := .later }
def FnExactReadCurveCardSaid : Prop := Claim7.holds Tryd.pinned (.plain (OpenSpec.ofChange fnExactReadCurveSpec)) fnExactReadCurveCard

/-- THE TIED CARD OF 'laws.FnLines'. -/
def fnLinesCard : Claim7 := { stood := { row := fnLinesRow, standIns := [], harness := (true, "a29e3ef8ac02445d50863c82c102979645ad1192376b2e96ac162bfe4a2a3d21"), looks := true }, kinds := [], alts := [], laidByText := true, laidKinds := [.data, .data, .data, .data, .sentinel, .sentinel, .pinned], laidTests := true, laidLooks := .later }
def FnLinesCardSaid : Prop := Claim7.holds Tryd.pinned (.plain (OpenSpec.ofChange fnLinesSpec)) fnLinesCard

/-- THE SECOND FORM's CARD OF 'laws.FnExactCurveText'. -/
def fnExactCurveTextUptoCard : Claim7 := { stood := { row := fnExactCurveTextUptoRow, standIns := [], harness := (true, "a29e3ef8ac02445d50863c82c102979645ad1192376b2e96ac162bfe4a2a3d21"), looks := true }, kinds := [], alts := [], laidByText := true, laidKinds := [.data, .data, .data], laidTests := true, laidLooks := .later }
def FnExactCurveTextUptoCardSaid : Prop := Claim7.holds Tryd.pinned (.plain (OpenSpec.upto fnExactCurveTextSpec)) fnExactCurveTextUptoCard

/-- THE SECOND FORM's CARD OF 'laws.FnExactMixerText'. -/
def fnExactMixerTextUptoCard : Claim7 := { stood := { row := fnExactMixerTextUptoRow, standIns := [], harness := (true, "a29e3ef8ac02445d50863c82c102979645ad1192376b2e96ac162bfe4a2a3d21"), looks := true }, kinds := [], alts := [], laidByText := true, laidKinds := [.data, .data, .data], laidTests := true, laidLooks := .later }
def FnExactMixerTextUptoCardSaid : Prop := Claim7.holds Tryd.pinned (.plain (OpenSpec.upto fnExactMixerTextSpec)) fnExactMixerTextUptoCard

/-- THE SECOND FORM's CARD OF 'laws.FnExactReadCurve'. -/
def fnExactReadCurveUptoCard : Claim7 := { stood := { row := fnExactReadCurveUptoRow, standIns := [], harness := (true, "a29e3ef8ac02445d50863c82c102979645ad1192376b2e96ac162bfe4a2a3d21"), looks := true }, kinds := [], alts := [], laidByText := true, laidKinds := [.data, .data, .data, .data, .sentinel, .sentinel, .pinned], laidTests := true, laidLooks := .later }
def FnExactReadCurveUptoCardSaid : Prop := Claim7.holds Tryd.pinned (.plain (OpenSpec.upto fnExactReadCurveSpec)) fnExactReadCurveUptoCard

/-- THE SECOND FORM's CARD OF 'laws.FnLines'. -/
def fnLinesUptoCard : Claim7 := { stood := { row := fnLinesUptoRow, standIns := [], harness := (true, "a29e3ef8ac02445d50863c82c102979645ad1192376b2e96ac162bfe4a2a3d21"), looks := true }, kinds := [], alts := [], laidByText := true, laidKinds := [.data, .data, .data, .data, .sentinel, .sentinel, .pinned], laidTests := true, laidLooks := .later }
def FnLinesUptoCardSaid : Prop := Claim7.holds Tryd.pinned (.plain (OpenSpec.upto fnLinesSpec)) fnLinesUptoCard
end Rows
end Go.Proofs.YtecdendjlgohjaaDoor
