/- Closed facts of the row of FnExactParseValue. No conditions. -/
import Derived.Test.YtkpnfbdoaljkpaaGreatDoorDOx
import Derived.Test.YtkpnfbdoaljkpaaGreatDoorDOv
import Derived.Test.YtkpnfbdoaljkpaaGreatDoorDTa
namespace Go.Proofs.YtkpnfbdoaljkpaaGreatDoor.fnExactParseValue
open Go.ChangeShapes Go.WideShapes Go.ChangeAt Go.RowKit
set_option linter.unusedVariables false
set_option maxRecDepth 100000
set_option maxRecDepth 100000 in
theorem laid_met (os:Os):laidMet Tryz.prog Rows.fnExactParseValueRow.laid ((laidWorld os).forCall (fun _ _=>0) ⟨#[], #[.string ByteArray.empty],[]⟩).memory :=
  laidMet_of_run' 8 (by kernel_rfl) (by kernel_rfl)
set_option maxRecDepth 100000 in
theorem reads (os:Os) {H:Type} (enc:TypeId × Value→H):∃ places,DataW.whole enc Tryz.prog ((laidWorld os).forCall (fun _ _=>0) ⟨#[], #[.string ByteArray.empty],[]⟩).memory Tryz.f5.params.toList Rows.fnExactParseValueSpec.vars false (#[.string ByteArray.empty]:Array Value).toList 8=some ([.lit (.string [])],[Rows.laid_loop_example_g00510_impl_errorNames],places) :=
  ⟨.cell 0 0 :: (List.range 8).map (fun k=>.cell low k),by kernel_rfl⟩
theorem inPlaceF:(Rows.fnExactParseValueRow.inPlace == Tryz.prog.inPlace 5)=true:=by kernel_rfl
theorem followF:(Rows.fnExactParseValueRow.unfollowed == Tryz.prog.unfollowed 5)=true:=by kernel_rfl
theorem recReach:(Tryz.prog.closure 5).contains 162=true:=by kernel_rfl
theorem namedF:(Rows.fnExactParseValueRow.named == Tryz.prog.varsNamed 5)=true:=by kernel_rfl
theorem closed:joinedFacts Tryz.prog 5 Tryz.f5 (OpenSpec.ofChange Rows.fnExactParseValueSpec).bare Rows.fnExactParseValueRow=true :=
  ai (ai (ai (ai (ai (ai (ai (ai (ai (ai (ai (ai (ai (ai (ai (ai (ai (ai (ai (ai (ai (ai (ai (ai (ai (ai (ai (ai (ai (ai (ai (by kernel_rfl) laidOut) pMaps) (by kernel_rfl)) (by kernel_rfl)) rfl) pStops) rfl) pKnobs) inPlaceF) followF) (beqT (recurses_of recReach pRec))) namedF) (by kernel_rfl)) (by kernel_rfl)) (by kernel_rfl)) (by kernel_rfl)) (by kernel_rfl)) (by kernel_rfl)) (by kernel_rfl)) (by kernel_rfl)) (by kernel_rfl)) pKeys) rfl) pHeard) pEnter) pLift) pMake) (by kernel_rfl)) (by kernel_rfl)) (by kernel_rfl)) (by kernel_rfl)
theorem named:Tryz.pinned.checked.prog.funcNamed Rows.fnExactParseValueRow.func=some 5:=by kernel_rfl
theorem byText:Rows.fnExactParseValueRow.wfByText (OpenSpec.ofChange Rows.fnExactParseValueSpec)=true:=by kernel_rfl
theorem goes:false=Rows.fnExactParseValueRow.goesBy Tryz.pinned.checked.prog:=by kernel_rfl
end Go.Proofs.YtkpnfbdoaljkpaaGreatDoor.fnExactParseValue
