/- The law FnStored over data, and its walk. The statement on FnStored, its row and its tied card: for every input the law returns true, and each argument reads as before. No conditions of ours. -/
import Derived.Test.YtdkofgjbbdbglaaGreatDoorCOn
import Derived.Test.YtdkofgjbbdbglaaGreatDoorCOq
namespace Go.Proofs.YtdkofgjbbdbglaaGreatDoor
open Go.ChangeShapes Go.WideShapes Go.ChangeAt Go.RowKit Ab
set_option linter.all false
set_option maxRecDepth 100000
theorem law3:FOk Tryz.prog T 3 (Ab.lawB 5) :=
 Ab.core3 Ab.lawS
  (Ab.ok6 (fun a=>recT (aJ a)) (fun a h=>jdd l7 (Nat.add_le_add_right (eY h) 12)) okR16)
  (Ab.ok7 (fun a=>recT (aJ a)) (fun a h=>jdd l7 (Nat.add_le_add_right (eY h) 12)) okR18)
  (Ab.xo8 Ab.rcX Ab.rcX_ok Ab.rcX_s) (Ab.xo9 Ab.rcX Ab.rcX_ok Ab.rcX_i)
theorem flatRecords:[22,5].all (qg Tryz.prog T [22,5])=true:=by kernel_rfl
theorem walkFnStored {H:Type} {enc:TypeId × Value→H} (W:World) {base:Nat} (hL:GlR T W (fun _=>False)) {v0:Value} {d0:DataW H} {p0:List MemPlace} (k0:Value.okWide Tryz.prog W .any base 22 v0) (h0:DataW.Trod enc Tryz.prog W 0 (fun _=>true) true 22 v0 d0 p0) :
 Calls Tryz.prog 3 #[v0] W fun e W' => e=.returned (.bool true)∧Below W.heap.size W W' := by
 obtain ⟨a,n,c,rfl⟩:=okWide_slice Tryz.underlying22 k0
 obtain ⟨m0,t0⟩:=h0
 obtain ⟨ty0,r0,e0,w0⟩:=dT tabT flatRecords m0 22 _ _ (by decide) t0
 obtain rfl:⟨false,[.l 5],_,_,_,_⟩=ty0:=jc9 e0
 have g0:RowR T W (fun _=>False) [.l 5] [.slice a n c] r0:=w0
 refine (law3.ok rfl W (fun _=>False) [argS 5 (r0.getD 0 default).rows] [.slice a n c] (fun b h=>h.elim) (ArgsR.cons g0.argS ArgsR.nil) hL ⟨_,rfl⟩).mono fun e W' ⟨v,bk,he,hb,hr,_⟩=>?_
 obtain ⟨c',hc,hv⟩:=hr
 obtain rfl:CV.b true=c' := by simpa using hc
 subst he
 refine ⟨?_,hb⟩
 have hv:v=.bool true:=hv
 rw [hv]
end Go.Proofs.YtdkofgjbbdbglaaGreatDoor
namespace Go.Proofs.YtdkofgjbbdbglaaGreatDoor.fnStored
open Go.ChangeShapes Go.WideShapes Go.ChangeAt Go.RowKit
set_option linter.all false
set_option maxRecDepth 100000
theorem contract (H:Type) (enc:TypeId × Value→H) (W:World) (base:Nat) (args:Array Value) (ds gs:List (DataW H)) (before:List MemPlace)
 (hval:∀ (j:Nat) t v,Tryz.f3.params[j]? = some t→args[j]? = some v→Value.okWide Tryz.prog W .any base t v)
 (hW:DataW.Whole enc Tryz.prog Tryz.f3.params.toList Rows.fnStoredSpec.vars false W args.toList ds gs before) (hL:laidMetH Tryz.prog Rows.fnStoredRow.laid W) (hS:W.ShapedOpen Tryz.prog) :
 Calls Tryz.prog 3 args W fun e W' => ∃ v,e=.returned v∧Rows.fnStoredSpec.post enc Tryz.prog Tryz.f3 false true false false W args v W' := by
 have hW' := hW
 obtain ⟨p,q,hA0,hV,rfl,hfz,hnd⟩:=hW
 have hA:DataW.TrodAll enc Tryz.prog W 0 (fun _=>true) true Tryz.f3.params.toList args.toList ds p:=hA0
 rw [Tryz.params3] at hA hval
 obtain ⟨v0,vs0,d0,ds0,p0,q0,hargs,rfl,rfl,h0,r0⟩:=trodAll_cons hA
 obtain ⟨rfl,rfl,rfl⟩:=trodAll_nil r0
 obtain rfl:args=#[v0]:=by cases args;simp_all
 have hg1:∃ g1,gs=[g1]:=by
  obtain ⟨_,_,_,_,g1,_,e,_⟩:=trodVars_one hV
  exact ⟨g1,e⟩
 obtain ⟨g1,rfl⟩:=hg1
 have lt0:∀ x ∈ p0,x.block < W.heap.size:=by obtain ⟨m,hm⟩:=h0;exact DataW.trod_lt m _ _ _ hm
 refine (walkFnStored W (glOf hL hS) (hval 0 22 v0 rfl rfl) h0).mono fun e W' ⟨he,bel⟩=>?_
 subst he
 obtain ⟨q',hq'⟩:=qW hV bel
 exact ⟨_,rfl,_,_,_,[],_,_,hW',trodAll_mk1 (shut_bool Tryz.underlying4 _),(trodAll_cons_mk (Below.trod laidOut (by kernel_rfl) (jc6 (by kernel_rfl)) h0 bel lt0) trodAll_mk0),hq',bel.frame _,fun h=>by cases h⟩
set_option maxRecDepth 100000 in
theorem laid_met (os:Os):laidMet Tryz.prog Rows.fnStoredRow.laid ((kd os).forCall (fun _ _=>0) ⟨#[], #[.slice none 0 0],[]⟩).memory :=
 laidMet_of_run' 8 (by kernel_rfl) (by kernel_rfl)
set_option maxRecDepth 100000 in
theorem reads (os:Os) {H:Type} (enc:TypeId × Value→H):∃ places,DataW.whole enc Tryz.prog ((kd os).forCall (fun _ _=>0) ⟨#[], #[.slice none 0 0],[]⟩).memory Tryz.f3.params.toList Rows.fnStoredSpec.vars false (#[.slice none 0 0]:Array Value).toList 8=some ([.nil],[Rows.laid_loop_example_g00510_impl_errorNames],places) :=
 ⟨.cell 1 0 :: (List.range 8).map (fun k=>.cell low k),by kernel_rfl⟩
set_option maxRecDepth 100000 in
theorem lifted (os:Os) (started:os.Started) (H:Type) (enc:TypeId × Value→H) (F:Stop.Interp) :
 ReturnsInHanded {} Tryz.checked os 3 .any ((OpenSpec.ofChange Rows.fnStoredSpec).preRow enc Tryz.prog Tryz.f3 Rows.fnStoredRow.domain false Rows.fnStoredRow.laid) (((OpenSpec.ofChange Rows.fnStoredSpec).at F).post enc Tryz.prog Tryz.f3 false true false false):=by
 obtain ⟨places,hx⟩:=reads os enc
 refine returnsInHanded_of_row (C:=Tryz.checked) (s:=OpenSpec.ofChange Rows.fnStoredSpec) own started (by kernel_rfl) Tryz.func3
  (witness_row_atRef (enc:=enc) (C:=Tryz.checked) false (kd os) #[.slice none 0 0] rfl (by kernel_rfl) (by kernel_rfl) (by kernel_rfl)
    (OpenSpec.preRow_of_cond 8 hx (by kernel_rfl) (fun k hk=>by cases hk) (by kernel_rfl) (laid_met os))) ?_
 intro W base args ds gs before hval hW _ _ _ hL hS _
 exact contract H enc W base args ds gs before hval hW hL hS
theorem inPlaceF:(Rows.fnStoredRow.inPlace == Tryz.prog.inPlace 3)=true:=by kernel_rfl
theorem followF:(Rows.fnStoredRow.unfollowed == Tryz.prog.unfollowed 3)=true:=by kernel_rfl
theorem recReach:(Tryz.prog.closure 3).contains 86=true:=by kernel_rfl
theorem namedF:(Rows.fnStoredRow.named == Tryz.prog.varsNamed 3)=true:=by kernel_rfl
theorem closed:joinedFacts Tryz.prog 3 Tryz.f3 (OpenSpec.ofChange Rows.fnStoredSpec).bare Rows.fnStoredRow=true :=
 ai (ai (ai (ai (ai (ai (ai (ai (ai (ai (ai (ai (ai (ai (ai (ai (ai (ai (ai (ai (ai (ai (ai (ai (ai (ai (ai (ai (ai (ai (ai (by kernel_rfl) laidOut) pMaps) (by kernel_rfl)) (by kernel_rfl)) rfl) jbY) rfl) jbZ) inPlaceF) followF) (beqT (oC recReach pRec))) namedF) (by kernel_rfl)) (by kernel_rfl)) (by kernel_rfl)) (by kernel_rfl)) (by kernel_rfl)) (by kernel_rfl)) (by kernel_rfl)) (by kernel_rfl)) (by kernel_rfl)) pKeys) rfl) jb0) jb1) pLift) pMake) (by kernel_rfl)) (by kernel_rfl)) (by kernel_rfl)) (by kernel_rfl)
theorem named:Tryz.pinned.checked.prog.funcNamed Rows.fnStoredRow.func=some 3:=by kernel_rfl
theorem said:Rows.FnStoredSaid :=
 OpenClaim.holds_of_cond 3 Tryz.f3 rfl rfl rfl rfl rfl rfl rfl ⟨rfl,rfl,rfl,rfl,rfl⟩ rfl rfl rfl rfl rfl named Tryz.func3 closed
  (jc6 (by kernel_rfl)) (by unfold Func.isWrapper;first|(rw [if_pos (by decide +kernel)];kernel_rfl)|(rw [if_neg (by decide +kernel)];exact ⟨rfl,rfl⟩))
  (fun os started H enc _ F=>by rw [OpenClaim.pre_eq_preRow];exact lifted os started H enc F)
theorem plain (f:FuncId) (fn:Func) (hf:Tryz.pinned.checked.prog.funcNamed "loop.example/g00510/laws.FnStored" = some f) (hfn:Tryz.pinned.checked.prog.funcs[f]? = some fn) :
 true=Tryz.pinned.checked.prog.looks []∧∀ (j:Nat) t,fn.params[j]? = some t→Tryz.pinned.checked.prog.wantsStandIn t=false:=by
 obtain rfl:f=3:=jc9 ((show Tryz.prog.funcNamed "loop.example/g00510/laws.FnStored" = some 3 by kernel_rfl).symm.trans hf) |>.symm
 obtain rfl:fn=Tryz.f3:=(jc9 (Tryz.func3.symm.trans hfn)).symm
 refine ⟨by kernel_rfl,fun j t ht=>?_⟩
 rw [Tryz.params3] at ht
 obtain rfl:t=22:=by simpa using Array.mem_of_getElem? ht
 exact (show Tryz.prog.wantsStandIn 22=false by kernel_rfl)
theorem byText:Rows.fnStoredRow.wfByText (OpenSpec.ofChange Rows.fnStoredSpec)=true:=by kernel_rfl
theorem goes:false=Rows.fnStoredRow.goesBy Tryz.pinned.checked.prog:=by kernel_rfl
theorem card:Rows.FnStoredCardSaid :=
 Claim7.holds_tied_plain_at .later [] _ _ _ _ said (fun _ h=>by cases h) byText (fun _ h=>by cases h) fnStored_row_tie rfl ⟨rfl,rfl⟩ (by kernel_rfl) rfl plain goes
end Go.Proofs.YtdkofgjbbdbglaaGreatDoor.fnStored
