/- Closed facts of this row. -/
import Derived.Test.YtppgalpldaibhaaGreatDoorCOt
namespace Go.Proofs.YtppgalpldaibhaaGreatDoor.fnExactOpenStore
open Go.ChangeShapes Go.WideShapes Go.ChangeAt Go.RowKit
set_option linter.unusedVariables false
set_option maxRecDepth 100000
set_option maxRecDepth 100000 in
theorem laid_met (os:Os):laidMet Tryz.prog Rows.fnExactOpenStoreRow.laid ((laidWorld os).forCall (fun _ _=>0) ⟨#[], #[.string ByteArray.empty],[]⟩).memory :=
  laidMet_of_run' 8 (by kernel_rfl) (by kernel_rfl)
set_option maxRecDepth 100000 in
theorem reads (os:Os) {H:Type} (enc:TypeId × Value→H):∃ places,DataW.whole enc Tryz.prog ((laidWorld os).forCall (fun _ _=>0) ⟨#[], #[.string ByteArray.empty],[]⟩).memory Tryz.f3.params.toList Rows.fnExactOpenStoreSpec.vars false (#[.string ByteArray.empty]:Array Value).toList 8=some ([.lit (.string [])],[Rows.laid_loop_example_g00510_impl_errorNames],places) :=
  ⟨.cell 0 0 :: (List.range 8).map (fun k=>.cell low k),by kernel_rfl⟩
theorem inPlaceF:(Rows.fnExactOpenStoreRow.inPlace == Tryz.prog.inPlace 3)=true:=by kernel_rfl
theorem followF:(Rows.fnExactOpenStoreRow.unfollowed == Tryz.prog.unfollowed 3)=true:=by kernel_rfl
theorem recReach:(Tryz.prog.closure 3).contains 148=true:=by kernel_rfl
theorem namedF:(Rows.fnExactOpenStoreRow.named == Tryz.prog.varsNamed 3)=true:=by kernel_rfl
theorem closed:joinedFacts Tryz.prog 3 Tryz.f3 (OpenSpec.ofChange Rows.fnExactOpenStoreSpec).bare Rows.fnExactOpenStoreRow=true :=
  ai (ai (ai (ai (ai (ai (ai (ai (ai (ai (ai (ai (ai (ai (ai (ai (ai (ai (ai (ai (ai (ai (ai (ai (ai (ai (ai (ai (ai (ai (ai (by kernel_rfl) laidOut) pMaps) (by kernel_rfl)) (by kernel_rfl)) rfl) pStops) rfl) pKnobs) inPlaceF) followF) (beqT (recurses_of recReach pRec))) namedF) (by kernel_rfl)) (by kernel_rfl)) (by kernel_rfl)) (by kernel_rfl)) (by kernel_rfl)) (by kernel_rfl)) (by kernel_rfl)) (by kernel_rfl)) (by kernel_rfl)) pKeys) rfl) pHeard) pEnter) pLift) pMake) (by kernel_rfl)) (by kernel_rfl)) (by kernel_rfl)) (by kernel_rfl)
theorem named:Tryz.pinned.checked.prog.funcNamed Rows.fnExactOpenStoreRow.func=some 3:=by kernel_rfl
theorem plain (f:FuncId) (fn:Func) (hf:Tryz.pinned.checked.prog.funcNamed "loop.example/g00510/laws.FnExactOpenStore" = some f) (hfn:Tryz.pinned.checked.prog.funcs[f]? = some fn) :
    true=Tryz.pinned.checked.prog.looks []∧∀ (j:Nat) t,fn.params[j]? = some t→Tryz.pinned.checked.prog.wantsStandIn t=false:=by
  obtain rfl:f=3:=Option.some.inj ((show Tryz.prog.funcNamed "loop.example/g00510/laws.FnExactOpenStore" = some 3 by kernel_rfl).symm.trans hf) |>.symm
  obtain rfl:fn=Tryz.f3:=(Option.some.inj (Tryz.func3.symm.trans hfn)).symm
  refine ⟨by kernel_rfl,fun j t ht=>?_⟩
  rw [Tryz.params3] at ht
  obtain rfl:t=9:=by simpa using Array.mem_of_getElem? ht
  exact (show Tryz.prog.wantsStandIn 9=false by kernel_rfl)
theorem byText:Rows.fnExactOpenStoreRow.wfByText (OpenSpec.ofChange Rows.fnExactOpenStoreSpec)=true:=by kernel_rfl
theorem goes:false=Rows.fnExactOpenStoreRow.goesBy Tryz.pinned.checked.prog:=by kernel_rfl
end Go.Proofs.YtppgalpldaibhaaGreatDoor.fnExactOpenStore
