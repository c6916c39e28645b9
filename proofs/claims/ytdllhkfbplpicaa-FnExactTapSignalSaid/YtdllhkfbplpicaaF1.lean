/-
  The closed facts on the program as a whole that every row of this seat asks. Its head is turned into signs once, by a lemma: evaluated as a string, it costs more memory than the bound.
-/
import Derived.Test.YtdllhkfbplpicaaRows
import Derived.JoinedOf
import Derived.KernelRfl
namespace Go.Proofs.Ytdllhkfbplpicaa
open Go
set_option maxRecDepth 100000
theorem strip_cut (rest : List (List Char)) : stripLifts liftWords ("cut".toList :: rest) = ([], "cut".toList :: rest) := by kernel_rfl
theorem lifts_of (P : Program) (rest : List (List Char)) (hw : behindMainWord (wordsSigns P.initOrder.toList) = "cut".toList :: rest) : P.headLifts = [] := by
  unfold Program.headLifts
  rw [hw]
  simp only [strip_cut, ite_self]
theorem make_of (P : Program) (rest : List (List Char)) (hw : behindMainWord (wordsSigns P.initOrder.toList) = "cut".toList :: rest) (h : P.headLifts = []) : P.make = some .cut := by
  unfold Program.make
  rw [hw, h]
  kernel_rfl
theorem final_of (P : Program) (rest : List (List Char)) (hw : behindMainWord (wordsSigns P.initOrder.toList) = "cut".toList :: rest) (h : P.headLifts = []) : P.liftsFinal = false := by
  unfold Program.liftsFinal
  rw [hw, h]
  kernel_rfl
theorem enter_of (P : Program) (rest : List (List Char)) (hw : behindMainWord (wordsSigns P.initOrder.toList) = "cut".toList :: rest) (h1 : P.laysLater = false) (h2 : P.bearsReflect = false) (h3 : P.doorFits [] = true) : P.mayEnter = true := by
  unfold Program.mayEnter
  rw [hw]
  simp only [strip_cut, h1, h2, h3]
  simp
theorem words_of (P : Program) (h : (behindMainWord (wordsSigns P.initOrder.toList)).head? = some "cut".toList) : ∃ rest, behindMainWord (wordsSigns P.initOrder.toList) = "cut".toList :: rest := by
  cases hw : behindMainWord (wordsSigns P.initOrder.toList) with
  | nil => rw [hw] at h; cases h
  | cons c r => rw [hw] at h; injection h with h; exact ⟨r, by rw [h]⟩
def headCodes : List Nat := [104, 97, 114, 110, 101, 115, 115, 32, 57, 101, 57, 97, 98, 102, 49, 99, 57, 100, 99, 50, 52, 99, 49, 57, 56, 53, 99, 50, 51, 101, 102, 100, 102, 97, 98, 97, 50, 51, 54, 102, 101, 57, 56, 98, 51, 50, 102, 98, 101, 101, 101, 98, 51, 98, 56, 100, 97, 51, 49, 98, 48, 55, 56, 99, 49, 55, 51, 99, 49, 100, 57, 50, 32, 99, 117, 116, 32, 97, 116, 32, 108, 111, 111, 112, 46, 101, 120, 97, 109, 112, 108, 101, 47, 103, 48, 48, 57, 48, 51, 47, 108, 97, 119, 115, 46, 70, 110, 69, 120, 97, 99, 116, 85, 110, 102, 111, 108, 100, 83, 97, 109, 112, 108, 101, 32, 108, 111, 111, 112, 46, 101, 120, 97, 109, 112, 108, 101, 47, 103, 48, 48, 57, 48, 51, 47, 108, 97, 119, 115, 46, 70, 110, 69, 120, 97, 99, 116, 70, 111, 108, 100, 83, 97, 109, 112, 108, 101, 32, 108, 111, 111, 112, 46, 101, 120, 97, 109, 112, 108, 101, 47, 103, 48, 48, 57, 48, 51, 47, 108, 97, 119, 115, 46, 70, 110, 69, 120, 97, 99, 116, 68, 101, 99, 105, 109, 97, 116, 101, 83, 105, 103, 110, 97, 108, 32, 108, 111, 111, 112, 46, 101, 120, 97, 109, 112, 108, 101, 47, 103, 48, 48, 57, 48, 51, 47, 108, 97, 119, 115, 46, 70, 110, 69, 120, 97, 99, 116, 82, 105, 99, 101, 76, 101, 110, 103, 116, 104, 32, 108, 111, 111, 112, 46, 101, 120, 97, 109, 112, 108, 101, 47, 103, 48, 48, 57, 48, 51, 47, 108, 97, 119, 115, 46, 70, 110, 69, 120, 97, 99, 116, 73, 110, 116, 101, 103, 114, 97, 116, 101, 83, 105, 103, 110, 97, 108, 32, 108, 111, 111, 112, 46, 101, 120, 97, 109, 112, 108, 101, 47, 103, 48, 48, 57, 48, 51, 47, 108, 97, 119, 115, 46, 70, 110, 69, 120, 97, 99, 116, 66, 101, 115, 116, 82, 105, 99, 101, 32, 108, 111, 111, 112, 46, 101, 120, 97, 109, 112, 108, 101, 47, 103, 48, 48, 57, 48, 51, 47, 108, 97, 119, 115, 46, 70, 110, 69, 120, 97, 99, 116, 84, 97, 112, 83, 105, 103, 110, 97, 108, 32, 108, 111, 111, 112, 46, 101, 120, 97, 109, 112, 108, 101, 47, 103, 48, 48, 57, 48, 51, 47, 108, 97, 119, 115, 46, 70, 110, 69, 120, 97, 99, 116, 67, 111, 109, 98, 83, 105, 103, 110, 97, 108, 32, 108, 111, 111, 112, 46, 101, 120, 97, 109, 112, 108, 101, 47, 103, 48, 48, 57, 48, 51, 47, 108, 97, 119, 115, 46, 70, 110, 69, 120, 97, 99, 116, 82, 101, 115, 116, 111, 114, 101, 83, 105, 103, 110, 97, 108, 32, 108, 111, 111, 112, 46, 101, 120, 97, 109, 112, 108, 101, 47, 103, 48, 48, 57, 48, 51, 47, 108, 97, 119, 115, 46, 70, 110, 69, 120, 97, 99, 116, 69, 120, 112, 97, 110, 100, 83, 105, 103, 110, 97, 108]
theorem head_eq : Try.prog.initOrder = String.ofList (headCodes.map Char.ofNat) := by kernel_rfl
theorem head_signs : Try.prog.initOrder.toList = headCodes.map Char.ofNat := by rw [head_eq, String.toList_ofList]
theorem words_head : (behindMainWord (wordsSigns (headCodes.map Char.ofNat))).head? = some "cut".toList := by kernel_rfl
theorem words_cut : ∃ rest, behindMainWord (wordsSigns Try.prog.initOrder.toList) = "cut".toList :: rest := words_of _ (by rw [head_signs]; exact words_head)
theorem fact_lay : laidOutB Try.prog = true := by kernel_rfl
theorem fact_maps : mapsRowed Try.prog = true := by kernel_rfl
theorem fact_stops : (Try.prog.stops == []) = true := by kernel_rfl
theorem fact_knobs : (Try.prog.stopKnobs == []) = true := by kernel_rfl
theorem fact_heard : Try.prog.stopsHeard = true := by kernel_rfl
theorem fact_later : Try.prog.laysLater = false := by kernel_rfl
theorem fact_reflect : Try.prog.bearsReflect = false := by kernel_rfl
theorem fact_door : Try.prog.doorFits [] = true := by kernel_rfl
theorem head_lifts : Try.prog.headLifts = [] := words_cut.elim fun rest hw => lifts_of _ rest hw
theorem fact_enter : Try.prog.mayEnter = true := words_cut.elim fun rest hw => enter_of _ rest hw fact_later fact_reflect fact_door
theorem fact_final : Try.prog.liftsFinal = false := words_cut.elim fun rest hw => final_of _ rest hw head_lifts
theorem fact_make : Try.prog.make = some .cut := words_cut.elim fun rest hw => make_of _ rest hw head_lifts
end Go.Proofs.Ytdllhkfbplpicaa
