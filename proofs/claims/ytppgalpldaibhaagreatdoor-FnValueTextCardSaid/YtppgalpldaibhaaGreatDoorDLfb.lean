/- Closed facts of this row. -/
import Derived.Test.YtppgalpldaibhaaGreatDoorDOv
namespace Go.Proofs.YtppgalpldaibhaaGreatDoor.fnValueText
open Go.ChangeShapes Go.WideShapes Go.ChangeAt Go.RowKit
set_option linter.unusedVariables false
set_option maxRecDepth 100000
set_option maxRecDepth 100000 in
theorem laid_met (os:Os):laidMet Tryz.prog Rows.fnValueTextRow.laid ((laidWorld os).forCall (fun _ _=>0) ⟨#[], #[.slice none 0 0],[]⟩).memory :=
  laidMet_of_run' 8 (by kernel_rfl) (by kernel_rfl)
set_option maxRecDepth 100000 in
theorem reads (os:Os) {H:Type} (enc:TypeId × Value→H):∃ places,DataW.whole enc Tryz.prog ((laidWorld os).forCall (fun _ _=>0) ⟨#[], #[.slice none 0 0],[]⟩).memory Tryz.f4.params.toList Rows.fnValueTextSpec.vars false (#[.slice none 0 0]:Array Value).toList 8=some ([.nil],[Rows.laid_loop_example_g00510_impl_errorNames],places) :=
  ⟨.cell 0 0 :: (List.range 8).map (fun k=>.cell low k),by kernel_rfl⟩
theorem inPlaceF:(Rows.fnValueTextRow.inPlace == Tryz.prog.inPlace 4)=true:=by kernel_rfl
theorem followF:(Rows.fnValueTextRow.unfollowed == Tryz.prog.unfollowed 4)=true:=by kernel_rfl
theorem recReach:(Tryz.prog.closure 4).contains 148=true:=by kernel_rfl
theorem namedF:(Rows.fnValueTextRow.named == Tryz.prog.varsNamed 4)=true:=by kernel_rfl
theorem named:Tryz.pinned.checked.prog.funcNamed Rows.fnValueTextRow.func=some 4:=by kernel_rfl
theorem plain (f:FuncId) (fn:Func) (hf:Tryz.pinned.checked.prog.funcNamed "loop.example/g00510/laws.FnValueText" = some f) (hfn:Tryz.pinned.checked.prog.funcs[f]? = some fn) :
    true=Tryz.pinned.checked.prog.looks []∧∀ (j:Nat) t,fn.params[j]? = some t→Tryz.pinned.checked.prog.wantsStandIn t=false:=by
  obtain rfl:f=4:=Option.some.inj ((show Tryz.prog.funcNamed "loop.example/g00510/laws.FnValueText" = some 4 by kernel_rfl).symm.trans hf) |>.symm
  obtain rfl:fn=Tryz.f4:=(Option.some.inj (Tryz.func4.symm.trans hfn)).symm
  refine ⟨by kernel_rfl,fun j t ht=>?_⟩
  rw [Tryz.params4] at ht
  obtain rfl:t=27:=by simpa using Array.mem_of_getElem? ht
  exact (show Tryz.prog.wantsStandIn 27=false by kernel_rfl)
theorem byText:Rows.fnValueTextRow.wfByText (OpenSpec.ofChange Rows.fnValueTextSpec)=true:=by kernel_rfl
theorem goes:false=Rows.fnValueTextRow.goesBy Tryz.pinned.checked.prog:=by kernel_rfl
end Go.Proofs.YtppgalpldaibhaaGreatDoor.fnValueText
