/- Closed facts of the program that each row of this seat asks: each its own theorem (the -/
import Derived.Test.YtcllpknipmcolaaGreatDoorCOq
namespace Go.Proofs.YtcllpknipmcolaaGreatDoor
open Go.ChangeShapes Go.WideShapes Go.ChangeAt Go.RowKit
set_option maxRecDepth 100000
theorem ai {a b:Bool} (h:a=true) (k:b=true):(a && b)=true:=by rw [h,k];rfl
theorem beqT {a:Bool} (h:a=true):(true == a)=true:=by rw [h];rfl
theorem oq {P:Program} {f g h:FuncId} (h1:(P.closure f).contains g=true) (h2:(((P.funcs[g]?).elim [] P.leadsTo).contains h && (P.closure h).contains g)=true):P.recurses f=true:=by
 unfold Program.recurses
 have e:((P.closure f).any fun g=>((P.funcs[g]?).elim [] P.leadsTo).any fun h=>(P.closure h).contains g)=true:=by
  simp only [jcx,jdV] at h1 h2
  exact List.any_eq_true.2 ⟨g,h1,List.any_eq_true.2 ⟨h,h2.1,jdV.2 h2.2⟩⟩
 rw [e,jdc]
theorem pMaps:mapsRowed Tryz.prog=true:=by kernel_rfl
theorem jbb:(Tryz.prog.stops == [])=true:=by kernel_rfl
theorem jbc:(Tryz.prog.stopKnobs == [])=true:=by kernel_rfl
theorem pKeys:(Rows.fnRecordsRow.plainKeys == Tryz.prog.plainKeys)=true:=by kernel_rfl
theorem jbd:Tryz.prog.stopsHeard=true:=by kernel_rfl
theorem jbe:Tryz.prog.mayEnter=true:=by kernel_rfl
theorem pLift:(Rows.fnRecordsRow.lifted == Tryz.prog.liftsFinal)=true:=by kernel_rfl
theorem pMake:(Tryz.prog.make == some Rows.fnRecordsRow.make)=true:=by kernel_rfl
theorem pRec:((((Tryz.prog.funcs[58]?).elim [] Tryz.prog.leadsTo).contains 58) && (Tryz.prog.closure 58).contains 58)=true:=by kernel_rfl
end Go.Proofs.YtcllpknipmcolaaGreatDoor
