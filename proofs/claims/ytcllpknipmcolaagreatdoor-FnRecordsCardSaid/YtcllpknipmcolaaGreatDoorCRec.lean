/- The statement on FnRecords, its row and its tied card: for every input the law returns true, and each argument reads as before. No conditions of ours. -/
import Derived.Test.YtcllpknipmcolaaGreatDoorCOt
import Derived.Test.YtcllpknipmcolaaGreatDoorCJl
namespace Go.Proofs.YtcllpknipmcolaaGreatDoor.fnRecords
open Go.ChangeShapes Go.WideShapes Go.ChangeAt Go.RowKit
set_option linter.all false
set_option maxRecDepth 100000
theorem contract (H:Type) (enc:TypeId × Value→H) (W:World) (base:Nat) (args:Array Value) (ds gs:List (DataW H)) (before:List MemPlace)
 (hval:∀ (j:Nat) t v,Tryz.f3.params[j]? = some t→args[j]? = some v→Value.okWide Tryz.prog W .any base t v)
 (hW:DataW.Whole enc Tryz.prog Tryz.f3.params.toList Rows.fnRecordsSpec.vars false W args.toList ds gs before) (hL:laidMetH Tryz.prog Rows.fnRecordsRow.laid W) (hS:W.ShapedOpen Tryz.prog) :
 Calls Tryz.prog 3 args W fun e W' => ∃ v,e=.returned v∧Rows.fnRecordsSpec.post enc Tryz.prog Tryz.f3 false true false false W args v W' := by
 have hW' := hW
 obtain ⟨p,q,hA0,hV,rfl,hfz,hnd⟩:=hW
 have hA:DataW.TrodAll enc Tryz.prog W 0 (fun _=>true) true Tryz.f3.params.toList args.toList ds p:=hA0
 rw [Tryz.params3] at hA hval
 obtain ⟨v0,vs0,d0,ds0,p0,q0,hargs,rfl,rfl,h0,r0⟩:=trodAll_cons hA
 obtain ⟨rfl,rfl,rfl⟩:=trodAll_nil r0
 obtain rfl:args=#[v0]:=by cases args;simp_all
 have hg1:∃ g1,gs=[g1]:=by
  obtain ⟨_,_,_,_,g1,_,e,_⟩:=trodVars_one hV
  exact ⟨g1,e⟩
 obtain ⟨g1,rfl⟩:=hg1
 have lt0:∀ x ∈ p0,x.block < W.heap.size:=by obtain ⟨m,hm⟩:=h0;exact DataW.trod_lt m _ _ _ hm
 refine (ln W (glOf hL hS) (hval 0 22 v0 rfl rfl) h0).mono fun e W' ⟨he,bel⟩=>?_
 subst he
 obtain ⟨q',hq'⟩:=qN hV bel
 exact ⟨_,rfl,_,_,_,[],_,_,hW',trodAll_mk1 (shut_bool Tryz.underlying4 _),(trodAll_cons_mk (Below.trod laidOut (by kernel_rfl) (jck (by kernel_rfl)) h0 bel lt0) trodAll_mk0),hq',bel.frame _,fun h=>by cases h⟩
set_option maxRecDepth 100000 in
theorem laid_met (os:Os):laidMet Tryz.prog Rows.fnRecordsRow.laid ((j4 os).forCall (fun _ _=>0) ⟨#[], #[.slice none 0 0],[]⟩).memory :=
 laidMet_of_run' 8 (by kernel_rfl) (by kernel_rfl)
set_option maxRecDepth 100000 in
theorem reads (os:Os) {H:Type} (enc:TypeId × Value→H):∃ places,DataW.whole enc Tryz.prog ((j4 os).forCall (fun _ _=>0) ⟨#[], #[.slice none 0 0],[]⟩).memory Tryz.f3.params.toList Rows.fnRecordsSpec.vars false (#[.slice none 0 0]:Array Value).toList 8=some ([.nil],[Rows.laid_loop_example_g00510_impl_errorNames],places) :=
 ⟨.cell 0 0 :: (List.range 8).map (fun k=>.cell low k),by kernel_rfl⟩
set_option maxRecDepth 100000 in
theorem lifted (os:Os) (started:os.Started) (H:Type) (enc:TypeId × Value→H) (F:Stop.Interp) :
 ReturnsInHanded {} Tryz.checked os 3 .any ((OpenSpec.ofChange Rows.fnRecordsSpec).preRow enc Tryz.prog Tryz.f3 Rows.fnRecordsRow.domain false Rows.fnRecordsRow.laid) (((OpenSpec.ofChange Rows.fnRecordsSpec).at F).post enc Tryz.prog Tryz.f3 false true false false):=by
 obtain ⟨places,hx⟩:=reads os enc
 refine returnsInHanded_of_row (C:=Tryz.checked) (s:=OpenSpec.ofChange Rows.fnRecordsSpec) own started (by kernel_rfl) Tryz.func3
  (witness_row_atRef (enc:=enc) (C:=Tryz.checked) false (j4 os) #[.slice none 0 0] rfl (by kernel_rfl) (by kernel_rfl) (by kernel_rfl)
    (OpenSpec.preRow_of_cond 8 hx (by kernel_rfl) (fun k hk=>by cases hk) (by kernel_rfl) (laid_met os))) ?_
 intro W base args ds gs before hval hW _ _ _ hL hS _
 exact contract H enc W base args ds gs before hval hW hL hS
theorem inPlaceF:(Rows.fnRecordsRow.inPlace == Tryz.prog.inPlace 3)=true:=by kernel_rfl
theorem followF:(Rows.fnRecordsRow.unfollowed == Tryz.prog.unfollowed 3)=true:=by kernel_rfl
theorem recReach:(Tryz.prog.closure 3).contains 58=true:=by kernel_rfl
theorem namedF:(Rows.fnRecordsRow.named == Tryz.prog.varsNamed 3)=true:=by kernel_rfl
theorem closed:joinedFacts Tryz.prog 3 Tryz.f3 (OpenSpec.ofChange Rows.fnRecordsSpec).bare Rows.fnRecordsRow=true :=
 ai (ai (ai (ai (ai (ai (ai (ai (ai (ai (ai (ai (ai (ai (ai (ai (ai (ai (ai (ai (ai (ai (ai (ai (ai (ai (ai (ai (ai (ai (ai (by kernel_rfl) laidOut) pMaps) (by kernel_rfl)) (by kernel_rfl)) rfl) jbb) rfl) jbc) inPlaceF) followF) (beqT (oq recReach pRec))) namedF) (by kernel_rfl)) (by kernel_rfl)) (by kernel_rfl)) (by kernel_rfl)) (by kernel_rfl)) (by kernel_rfl)) (by kernel_rfl)) (by kernel_rfl)) (by kernel_rfl)) pKeys) rfl) jbd) jbe) pLift) pMake) (by kernel_rfl)) (by kernel_rfl)) (by kernel_rfl)) (by kernel_rfl)
theorem named:Tryz.pinned.checked.prog.funcNamed Rows.fnRecordsRow.func=some 3:=by kernel_rfl
theorem said:Rows.FnRecordsSaid :=
 OpenClaim.holds_of_cond 3 Tryz.f3 rfl rfl rfl rfl rfl rfl rfl ⟨rfl,rfl,rfl,rfl,rfl⟩ rfl rfl rfl rfl rfl named Tryz.func3 closed
  (jck (by kernel_rfl)) (by unfold Func.isWrapper;first|(rw [if_pos (by decide +kernel)];kernel_rfl)|(rw [if_neg (by decide +kernel)];exact ⟨rfl,rfl⟩))
  (fun os started H enc _ F=>by rw [OpenClaim.pre_eq_preRow];exact lifted os started H enc F)
theorem plain (f:FuncId) (fn:Func) (hf:Tryz.pinned.checked.prog.funcNamed "loop.example/g00510/laws.FnRecords" = some f) (hfn:Tryz.pinned.checked.prog.funcs[f]? = some fn) :
 true=Tryz.pinned.checked.prog.looks []∧∀ (j:Nat) t,fn.params[j]? = some t→Tryz.pinned.checked.prog.wantsStandIn t=false:=by
 obtain rfl:f=3:=jcn ((show Tryz.prog.funcNamed "loop.example/g00510/laws.FnRecords" = some 3 by kernel_rfl).symm.trans hf) |>.symm
 obtain rfl:fn=Tryz.f3:=(jcn (Tryz.func3.symm.trans hfn)).symm
 refine ⟨by kernel_rfl,fun j t ht=>?_⟩
 rw [Tryz.params3] at ht
 obtain rfl:t=22:=by simpa using Array.mem_of_getElem? ht
 exact (show Tryz.prog.wantsStandIn 22=false by kernel_rfl)
theorem byText:Rows.fnRecordsRow.wfByText (OpenSpec.ofChange Rows.fnRecordsSpec)=true:=by kernel_rfl
theorem goes:false=Rows.fnRecordsRow.goesBy Tryz.pinned.checked.prog:=by kernel_rfl
theorem card:Rows.FnRecordsCardSaid :=
 Claim7.holds_tied_plain_at .later [] _ _ _ _ said (fun _ h=>by cases h) byText (fun _ h=>by cases h) fnRecords_row_tie rfl ⟨rfl,rfl⟩ (by kernel_rfl) rfl plain goes
end Go.Proofs.YtcllpknipmcolaaGreatDoor.fnRecords
