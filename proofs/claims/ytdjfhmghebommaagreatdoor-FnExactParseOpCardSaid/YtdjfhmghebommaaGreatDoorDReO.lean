/- Closed facts of the program that each row of this seat asks: each its own theorem (the -/
import Derived.Test.YtdjfhmghebommaaGreatDoorDOq
import Derived.Test.YtdjfhmghebommaaGreatDoorDPv
import Derived.Test.YtdjfhmghebommaaGreatDoorDMz
namespace Go.Proofs.YtdjfhmghebommaaGreatDoor
open Go.ChangeShapes Go.WideShapes Go.ChangeAt Go.RowKit
set_option maxRecDepth 100000
theorem ai {a b:Bool} (h:a=true) (k:b=true):(a && b)=true:=by rw [h,k];rfl
theorem beqT {a:Bool} (h:a=true):(true == a)=true:=by rw [h];rfl
theorem recurses_of {P:Program} {f g h:FuncId} (h1:(P.closure f).contains g=true) (h2:(((P.funcs[g]?).elim [] P.leadsTo).contains h && (P.closure h).contains g)=true):P.recurses f=true:=by
 unfold Program.recurses
 have e:((P.closure f).any fun g=>((P.funcs[g]?).elim [] P.leadsTo).any fun h=>(P.closure h).contains g)=true:=by
  simp only [jb1,jdp] at h1 h2
  exact List.any_eq_true.2 ⟨g,h1,List.any_eq_true.2 ⟨h,h2.1,jdp.2 h2.2⟩⟩
 rw [e,jcG]
theorem pMaps:mapsRowed Tryz.prog=true:=by kernel_rfl
theorem pStops:(Tryz.prog.stops == [])=true:=by kernel_rfl
theorem pKnobs:(Tryz.prog.stopKnobs == [])=true:=by kernel_rfl
theorem pKeys:(Rows.fnExactParseOpRow.plainKeys == Tryz.prog.plainKeys)=true:=by kernel_rfl
theorem pHeard:Tryz.prog.stopsHeard=true:=by kernel_rfl
theorem pEnter:Tryz.prog.mayEnter=true:=by kernel_rfl
theorem pLift:(Rows.fnExactParseOpRow.lifted == Tryz.prog.liftsFinal)=true:=by kernel_rfl
theorem pMake:(Tryz.prog.make == some Rows.fnExactParseOpRow.make)=true:=by kernel_rfl
theorem pRec:((((Tryz.prog.funcs[107]?).elim [] Tryz.prog.leadsTo).contains 107) && (Tryz.prog.closure 107).contains 107)=true:=by kernel_rfl
end Go.Proofs.YtdjfhmghebommaaGreatDoor
namespace Go.Proofs.YtdjfhmghebommaaGreatDoor
open Go.ChangeShapes Go.WideShapes Go.ChangeAt Go.RowKit Ab
set_option linter.all false
set_option maxRecDepth 100000
theorem lawPV_big (s:ByteArray) (hs:¬ s.size≤1048576) (hm:s.size≤9223372036854775807) (W:World):Calls Tryz.prog 3 #[.string s] W fun e W' => e=.returned (.bool true)∧Below W.heap.size W W' := by
 have h:(s.size:Int) > 1048576:=by omega
 go_enter Tryz.func3,Tryz.ntmps3
 go_wp2
 go_ret
 exact ⟨rfl,Below.refl _ _⟩
theorem walkFnExactParseOp {H:Type} {enc:TypeId × Value→H} (W:World) {base:Nat} (hL:GlR T W (fun _=>False)) {v0:Value} {d0:DataW H} {p0:List MemPlace} (k0:Value.okWide Tryz.prog W .any base 9 v0) (h0:DataW.Trod enc Tryz.prog W 0 (fun _=>true) true 9 v0 d0 p0) :
 Calls Tryz.prog 3 #[v0] W fun e W' => e=.returned (.bool true)∧Below W.heap.size W W' := by
 obtain ⟨s,rfl⟩:=okWide_string Tryz.underlying9 k0
 have hs:s.size≤maxLen:=by
  simp only [Value.okWide,Tryz.underlying9,Cell.okWide,Cell.ok] at k0
  simp only [maxLen]
  simp_all
  omega
 by_cases h:s.size≤1048576
 · exact yq _ Ab.ok40 (fun s hs=>(Ab.poY_ok s hs).1) Ab.poY_c Ab.poY_s Ab.poY_i s h W hL
 · exact lawPV_big s h (by simp only [maxLen] at hs;omega) W
end Go.Proofs.YtdjfhmghebommaaGreatDoor
namespace Go.Proofs.YtdjfhmghebommaaGreatDoor.fnExactParseOp
open Go.ChangeShapes Go.WideShapes Go.ChangeAt Go.RowKit
set_option linter.all false
set_option maxRecDepth 100000
theorem contract (H:Type) (enc:TypeId × Value→H) (W:World) (base:Nat) (args:Array Value) (ds gs:List (DataW H)) (before:List MemPlace)
 (hval:∀ (j:Nat) t v,Tryz.f3.params[j]? = some t→args[j]? = some v→Value.okWide Tryz.prog W .any base t v)
 (hW:DataW.Whole enc Tryz.prog Tryz.f3.params.toList Rows.fnExactParseOpSpec.vars false W args.toList ds gs before) (hL:laidMetH Tryz.prog Rows.fnExactParseOpRow.laid W) (hS:W.ShapedOpen Tryz.prog) :
 Calls Tryz.prog 3 args W fun e W' => ∃ v,e=.returned v∧Rows.fnExactParseOpSpec.post enc Tryz.prog Tryz.f3 false true false false W args v W' := by
 have hW' := hW
 obtain ⟨p,q,hA0,hV,rfl,hfz,hnd⟩:=hW
 have hA:DataW.TrodAll enc Tryz.prog W 0 (fun _=>true) true Tryz.f3.params.toList args.toList ds p:=hA0
 rw [Tryz.params3] at hA hval
 obtain ⟨v0,vs0,d0,ds0,p0,q0,hargs,rfl,rfl,h0,r0⟩:=trodAll_cons hA
 obtain ⟨rfl,rfl,rfl⟩:=trodAll_nil r0
 obtain rfl:args=#[v0]:=by cases args;simp_all
 have hg1:∃ g1,gs=[g1]:=by
  obtain ⟨_,_,_,_,g1,_,e,_⟩:=trodVars_one hV
  exact ⟨g1,e⟩
 obtain ⟨g1,rfl⟩:=hg1
 have lt0:∀ x ∈ p0,x.block < W.heap.size:=by obtain ⟨m,hm⟩:=h0;exact DataW.trod_lt m _ _ _ hm
 refine (walkFnExactParseOp W (glOf hL hS) (hval 0 9 v0 rfl rfl) h0).mono fun e W' ⟨he,bel⟩=>?_
 subst he
 obtain ⟨q',hq'⟩:=iE hV bel
 exact ⟨_,rfl,_,_,_,[],_,_,hW',trodAll_mk1 (shut_bool Tryz.underlying4 _),(trodAll_cons_mk (Below.trod laidOut (by kernel_rfl) (jbO (by kernel_rfl)) h0 bel lt0) trodAll_mk0),hq',bel.frame _,fun h=>by cases h⟩
set_option maxRecDepth 100000 in
theorem laid_met (os:Os):laidMet Tryz.prog Rows.fnExactParseOpRow.laid ((co os).forCall (fun _ _=>0) ⟨#[], #[.string ByteArray.empty],[]⟩).memory :=
 laidMet_of_run' 8 (by kernel_rfl) (by kernel_rfl)
set_option maxRecDepth 100000 in
theorem reads (os:Os) {H:Type} (enc:TypeId × Value→H):∃ places,DataW.whole enc Tryz.prog ((co os).forCall (fun _ _=>0) ⟨#[], #[.string ByteArray.empty],[]⟩).memory Tryz.f3.params.toList Rows.fnExactParseOpSpec.vars false (#[.string ByteArray.empty]:Array Value).toList 8=some ([.lit (.string [])],[Rows.laid_loop_example_g00510_impl_errorNames],places) :=
 ⟨.cell 1 0 :: (List.range 8).map (fun k=>.cell low k),by kernel_rfl⟩
set_option maxRecDepth 100000 in
theorem lifted (os:Os) (started:os.Started) (H:Type) (enc:TypeId × Value→H) (F:Stop.Interp) :
 ReturnsInHanded {} Tryz.checked os 3 .any ((OpenSpec.ofChange Rows.fnExactParseOpSpec).preRow enc Tryz.prog Tryz.f3 Rows.fnExactParseOpRow.domain false Rows.fnExactParseOpRow.laid) (((OpenSpec.ofChange Rows.fnExactParseOpSpec).at F).post enc Tryz.prog Tryz.f3 false true false false):=by
 obtain ⟨places,hx⟩:=reads os enc
 refine returnsInHanded_of_row (C:=Tryz.checked) (s:=OpenSpec.ofChange Rows.fnExactParseOpSpec) own started (by kernel_rfl) Tryz.func3
  (witness_row_atRef (enc:=enc) (C:=Tryz.checked) false (co os) #[.string ByteArray.empty] rfl (by kernel_rfl) (by kernel_rfl) (by kernel_rfl)
    (OpenSpec.preRow_of_cond 8 hx (by kernel_rfl) (fun k hk=>by cases hk) (by kernel_rfl) (laid_met os))) ?_
 intro W base args ds gs before hval hW _ _ _ hL hS _
 exact contract H enc W base args ds gs before hval hW hL hS
theorem inPlaceF:(Rows.fnExactParseOpRow.inPlace == Tryz.prog.inPlace 3)=true:=by kernel_rfl
theorem followF:(Rows.fnExactParseOpRow.unfollowed == Tryz.prog.unfollowed 3)=true:=by kernel_rfl
theorem recReach:(Tryz.prog.closure 3).contains 107=true:=by kernel_rfl
theorem namedF:(Rows.fnExactParseOpRow.named == Tryz.prog.varsNamed 3)=true:=by kernel_rfl
theorem closed:joinedFacts Tryz.prog 3 Tryz.f3 (OpenSpec.ofChange Rows.fnExactParseOpSpec).bare Rows.fnExactParseOpRow=true :=
 ai (ai (ai (ai (ai (ai (ai (ai (ai (ai (ai (ai (ai (ai (ai (ai (ai (ai (ai (ai (ai (ai (ai (ai (ai (ai (ai (ai (ai (ai (ai (by kernel_rfl) laidOut) pMaps) (by kernel_rfl)) (by kernel_rfl)) rfl) pStops) rfl) pKnobs) inPlaceF) followF) (beqT (recurses_of recReach pRec))) namedF) (by kernel_rfl)) (by kernel_rfl)) (by kernel_rfl)) (by kernel_rfl)) (by kernel_rfl)) (by kernel_rfl)) (by kernel_rfl)) (by kernel_rfl)) (by kernel_rfl)) pKeys) rfl) pHeard) pEnter) pLift) pMake) (by kernel_rfl)) (by kernel_rfl)) (by kernel_rfl)) (by kernel_rfl)
theorem named:Tryz.pinned.checked.prog.funcNamed Rows.fnExactParseOpRow.func=some 3:=by kernel_rfl
theorem said:Rows.FnExactParseOpSaid :=
 OpenClaim.holds_of_cond 3 Tryz.f3 rfl rfl rfl rfl rfl rfl rfl ⟨rfl,rfl,rfl,rfl,rfl⟩ rfl rfl rfl rfl rfl named Tryz.func3 closed
  (jbO (by kernel_rfl)) (by unfold Func.isWrapper;first|(rw [if_pos (by decide +kernel)];kernel_rfl)|(rw [if_neg (by decide +kernel)];exact ⟨rfl,rfl⟩))
  (fun os started H enc _ F=>by rw [OpenClaim.pre_eq_preRow];exact lifted os started H enc F)
theorem plain (f:FuncId) (fn:Func) (hf:Tryz.pinned.checked.prog.funcNamed "loop.example/g00510/laws.FnExactParseOp" = some f) (hfn:Tryz.pinned.checked.prog.funcs[f]? = some fn) :
 true=Tryz.pinned.checked.prog.looks []∧∀ (j:Nat) t,fn.params[j]? = some t→Tryz.pinned.checked.prog.wantsStandIn t=false:=by
 obtain rfl:f=3:=jbR ((show Tryz.prog.funcNamed "loop.example/g00510/laws.FnExactParseOp" = some 3 by kernel_rfl).symm.trans hf) |>.symm
 obtain rfl:fn=Tryz.f3:=(jbR (Tryz.func3.symm.trans hfn)).symm
 refine ⟨by kernel_rfl,fun j t ht=>?_⟩
 rw [Tryz.params3] at ht
 obtain rfl:t=9:=by simpa using Array.mem_of_getElem? ht
 exact (show Tryz.prog.wantsStandIn 9=false by kernel_rfl)
theorem byText:Rows.fnExactParseOpRow.wfByText (OpenSpec.ofChange Rows.fnExactParseOpSpec)=true:=by kernel_rfl
theorem goes:false=Rows.fnExactParseOpRow.goesBy Tryz.pinned.checked.prog:=by kernel_rfl
theorem card:Rows.FnExactParseOpCardSaid :=
 Claim7.holds_tied_plain_at .later [] _ _ _ _ said (fun _ h=>by cases h) byText (fun _ h=>by cases h) fnExactParseOp_row_tie rfl ⟨rfl,rfl⟩ (by kernel_rfl) rfl plain goes
end Go.Proofs.YtdjfhmghebommaaGreatDoor.fnExactParseOp
