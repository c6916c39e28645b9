/- Closed facts on the program. -/
import Derived.Test.YtifeldeikhmckaaGreatRows
import Derived.JoinedOf
import Derived.KernelRfl
namespace Go.Proofs.YtifeldeikhmckaaGreat
open Go
set_option maxRecDepth 100000
theorem strip_cut (rest : List (List Char)) : stripLifts liftWords ("cut".toList :: rest) = ([], "cut".toList :: rest) := by kernel_rfl
theorem lifts_of (P : Program) (rest : List (List Char)) (hw : behindMainWord (wordsSigns P.initOrder.toList) = "cut".toList :: rest) : P.headLifts = [] := by
  unfold Program.headLifts
  rw[hw]
  simp only[strip_cut,ite_self]
theorem make_of (P : Program) (rest : List (List Char)) (hw : behindMainWord (wordsSigns P.initOrder.toList) = "cut".toList :: rest) (h : P.headLifts = []) : P.make = some .cut := by
  unfold Program.make
  rw[hw,h]
  kernel_rfl
theorem final_of (P : Program) (rest : List (List Char)) (hw : behindMainWord (wordsSigns P.initOrder.toList) = "cut".toList :: rest) (h : P.headLifts = []) : P.liftsFinal = false := by
  unfold Program.liftsFinal
  rw[hw,h]
  kernel_rfl
theorem enter_of (P : Program) (rest : List (List Char)) (hw : behindMainWord (wordsSigns P.initOrder.toList) = "cut".toList :: rest) (h1 : P.laysLater = false) (h2 : P.bearsReflect = false) (h3 : P.doorFits [] = true) : P.mayEnter = true := by
  unfold Program.mayEnter
  rw[hw]
  simp only[strip_cut,h1,h2,h3]
  simp
theorem words_of (P : Program) (h : (behindMainWord (wordsSigns P.initOrder.toList)).head? = some "cut".toList) : ∃ rest, behindMainWord (wordsSigns P.initOrder.toList) = "cut".toList :: rest := by
  cases hw:behindMainWord (wordsSigns P.initOrder.toList)with
  | nil=>rw[hw]at h;cases h
  | cons c r=>rw[hw]at h;injection h with h;exact⟨r,by rw[h]⟩
def headCodes:List Nat:=[104,97,114,110,101,115,115,32,99,100,53,56,51,49,97,102,51,51,56,54,49,49,53,51,54,50,100,55,97,102,56,52,51,51,98,55,54,48,102,57,49,51,57,52,99,50,101,102,102,49,54,102,48,57,99,48,49,50,56,56,100,49,100,57,97,55,99,97,101,52,99,50,32,99,117,116,32,97,116,32,108,111,111,112,46,101,120,97,109,112,108,101,47,103,48,48,57,48,51,47,108,97,119,115,46,70,110,69,120,97,99,116,79,112,116,105,109,105,122,101,83,101,115,115,105,111,110,32,108,111,111,112,46,101,120,97,109,112,108,101,47,103,48,48,57,48,51,47,108,97,119,115,46,70,110,77,117,116,101,100]
theorem head_eq:Tryz.prog.initOrder=String.ofList (headCodes.map Char.ofNat):=by kernel_rfl
theorem head_signs:Tryz.prog.initOrder.toList=headCodes.map Char.ofNat:=by rw[head_eq,String.toList_ofList]
theorem words_head : (behindMainWord (wordsSigns (headCodes.map Char.ofNat))).head? = some "cut".toList := by kernel_rfl
theorem words_cut : ∃ rest, behindMainWord (wordsSigns Tryz.prog.initOrder.toList) = "cut".toList :: rest := words_of _ (by rw [head_signs]; exact words_head)
theorem fact_lay:laidOutB Tryz.prog=true:=by kernel_rfl
theorem fact_maps:mapsRowed Tryz.prog=true:=by kernel_rfl
theorem fact_stops:(Tryz.prog.stops == [])=true:=by kernel_rfl
theorem fact_knobs:(Tryz.prog.stopKnobs == [])=true:=by kernel_rfl
theorem fact_heard:Tryz.prog.stopsHeard=true:=by kernel_rfl
theorem fact_later:Tryz.prog.laysLater=false:=by kernel_rfl
theorem fact_reflect:Tryz.prog.bearsReflect=false:=by kernel_rfl
theorem fact_door:Tryz.prog.doorFits []=true:=by kernel_rfl
theorem head_lifts:Tryz.prog.headLifts=[]:=words_cut.elim fun rest hw=>lifts_of _ rest hw
theorem fact_enter:Tryz.prog.mayEnter=true:=words_cut.elim fun rest hw=>enter_of _ rest hw fact_later fact_reflect fact_door
theorem fact_final:Tryz.prog.liftsFinal=false:=words_cut.elim fun rest hw=>final_of _ rest hw head_lifts
theorem fact_make:Tryz.prog.make=some .cut:=words_cut.elim fun rest hw=>make_of _ rest hw head_lifts
end Go.Proofs.YtifeldeikhmckaaGreat
