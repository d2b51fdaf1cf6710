/- Closed facts of the program that each row of this seat asks: each its own theorem (the -/
import Derived.Test.YtkpnfbdoaljkpaaGreatDoorDOv
namespace Go.Proofs.YtkpnfbdoaljkpaaGreatDoor
open Go.ChangeShapes Go.WideShapes Go.ChangeAt Go.RowKit
set_option maxRecDepth 100000
theorem ai {a b:Bool} (h:a=true) (k:b=true):(a && b)=true:=by rw [h,k];rfl
theorem beqT {a:Bool} (h:a=true):(true == a)=true:=by rw [h];rfl
theorem recurses_of {P:Program} {f g h:FuncId} (h1:(P.closure f).contains g=true) (h2:(((P.funcs[g]?).elim [] P.leadsTo).contains h && (P.closure h).contains g)=true):P.recurses f=true:=by
  unfold Program.recurses
  have e:((P.closure f).any fun g=>((P.funcs[g]?).elim [] P.leadsTo).any fun h=>(P.closure h).contains g)=true:=by
    simp only [Bool.and_eq_true,List.contains_iff_mem] at h1 h2
    exact List.any_eq_true.2 ⟨g,h1,List.any_eq_true.2 ⟨h,h2.1,List.contains_iff_mem.2 h2.2⟩⟩
  rw [e,Bool.or_true]
theorem pMaps:mapsRowed Tryz.prog=true:=by kernel_rfl
theorem pStops:(Tryz.prog.stops == [])=true:=by kernel_rfl
theorem pKnobs:(Tryz.prog.stopKnobs == [])=true:=by kernel_rfl
theorem pKeys:(Rows.fnExactParseValueRow.plainKeys == Tryz.prog.plainKeys)=true:=by kernel_rfl
theorem pHeard:Tryz.prog.stopsHeard=true:=by kernel_rfl
theorem pEnter:Tryz.prog.mayEnter=true:=by kernel_rfl
theorem pLift:(Rows.fnExactParseValueRow.lifted == Tryz.prog.liftsFinal)=true:=by kernel_rfl
theorem pMake:(Tryz.prog.make == some Rows.fnExactParseValueRow.make)=true:=by kernel_rfl
theorem pRec:((((Tryz.prog.funcs[162]?).elim [] Tryz.prog.leadsTo).contains 162) && (Tryz.prog.closure 162).contains 162)=true:=by kernel_rfl
end Go.Proofs.YtkpnfbdoaljkpaaGreatDoor
