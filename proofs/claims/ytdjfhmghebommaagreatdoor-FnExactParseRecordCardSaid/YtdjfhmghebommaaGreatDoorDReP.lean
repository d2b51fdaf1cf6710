/- Closed facts of the program that each row of this seat asks: each its own theorem (the -/
import Derived.Test.YtdjfhmghebommaaGreatDoorDOq
import Derived.Test.YtdjfhmghebommaaGreatDoorDPr
import Derived.Test.YtdjfhmghebommaaGreatDoorDMzP
namespace Go.Proofs.YtdjfhmghebommaaGreatDoor
open Go.ChangeShapes Go.WideShapes Go.ChangeAt Go.RowKit
set_option maxRecDepth 100000
theorem ai {a b:Bool} (h:a=true) (k:b=true):(a && b)=true:=by rw [h,k];rfl
theorem beqT {a:Bool} (h:a=true):(true == a)=true:=by rw [h];rfl
theorem recurses_of {P:Program} {f g h:FuncId} (h1:(P.closure f).contains g=true) (h2:(((P.funcs[g]?).elim [] P.leadsTo).contains h && (P.closure h).contains g)=true):P.recurses f=true:=by
 unfold Program.recurses
 have e:((P.closure f).any fun g=>((P.funcs[g]?).elim [] P.leadsTo).any fun h=>(P.closure h).contains g)=true:=by
  simp only [jb1,jdp] at h1 h2
  exact List.any_eq_true.2 ⟨g,h1,List.any_eq_true.2 ⟨h,h2.1,jdp.2 h2.2⟩⟩
 rw [e,jcG]
theorem pMaps:mapsRowed Tryz.prog=true:=by kernel_rfl
theorem pStops:(Tryz.prog.stops == [])=true:=by kernel_rfl
theorem pKnobs:(Tryz.prog.stopKnobs == [])=true:=by kernel_rfl
theorem pKeys:(Rows.fnExactParseRecordRow.plainKeys == Tryz.prog.plainKeys)=true:=by kernel_rfl
theorem pHeard:Tryz.prog.stopsHeard=true:=by kernel_rfl
theorem pEnter:Tryz.prog.mayEnter=true:=by kernel_rfl
theorem pLift:(Rows.fnExactParseRecordRow.lifted == Tryz.prog.liftsFinal)=true:=by kernel_rfl
theorem pMake:(Tryz.prog.make == some Rows.fnExactParseRecordRow.make)=true:=by kernel_rfl
theorem pRec:((((Tryz.prog.funcs[107]?).elim [] Tryz.prog.leadsTo).contains 107) && (Tryz.prog.closure 107).contains 107)=true:=by kernel_rfl
end Go.Proofs.YtdjfhmghebommaaGreatDoor
namespace Go.Proofs.YtdjfhmghebommaaGreatDoor
open Go.ChangeShapes Go.WideShapes Go.ChangeAt Go.RowKit Ab
set_option linter.all false
set_option maxRecDepth 100000
theorem lawPV_big (s:ByteArray) (k:Int) (hs:¬ s.size≤1048576) (hm:s.size≤9223372036854775807) (W:World):Calls Tryz.prog 4 #[.string s,.int .i64 k] W fun e W' => e=.returned (.bool true)∧Below W.heap.size W W' := by
 have h:(s.size:Int) > 1048576:=by omega
 go_enter Tryz.func4,Tryz.ntmps4
 go_wp2
 go_ret
 exact ⟨rfl,Below.refl _ _⟩
theorem walkFnExactParseRecord {H:Type} {enc:TypeId × Value→H} (W:World) {base:Nat} (hL:GlR T W (fun _=>False)) {v0 v1:Value} {d0:DataW H} {p0:List MemPlace} {d1:DataW H} {p1:List MemPlace} (k0:Value.okWide Tryz.prog W .any base 9 v0) (h0:DataW.Trod enc Tryz.prog W 0 (fun _=>true) true 9 v0 d0 p0) (k1:Value.okWide Tryz.prog W .any base 3 v1) (h1:DataW.Trod enc Tryz.prog W 0 (fun _=>true) true 3 v1 d1 p1) :
 Calls Tryz.prog 4 #[v0,v1] W fun e W' => e=.returned (.bool true)∧Below W.heap.size W W' := by
 obtain ⟨s,rfl⟩:=okWide_string Tryz.underlying9 k0
 obtain ⟨k,rfl⟩:=okWide_int Tryz.underlying3 k1
 have hk:inK .i64 k:=by
  simp only [Value.okWide,Tryz.underlying3,Cell.okWide,Cell.ok] at k1
  first|exact k1|exact k1.2
 have hs:s.size≤maxLen:=by
  simp only [Value.okWide,Tryz.underlying9,Cell.okWide,Cell.ok] at k0
  simp only [maxLen]
  simp_all
  omega
 by_cases h:s.size≤1048576
 · exact yq _ Ab.ok40 (fun s k hs=>(Ab.rcY_ok s k hs).1) Ab.rcY_c Ab.rcY_s Ab.rcY_i s k h hk W hL
 · exact lawPV_big s k h (by simp only [maxLen] at hs;omega) W
end Go.Proofs.YtdjfhmghebommaaGreatDoor
namespace Go.Proofs.YtdjfhmghebommaaGreatDoor.fnExactParseRecord
open Go.ChangeShapes Go.WideShapes Go.ChangeAt Go.RowKit
set_option linter.all false
set_option maxRecDepth 100000
theorem contract (H:Type) (enc:TypeId × Value→H) (W:World) (base:Nat) (args:Array Value) (ds gs:List (DataW H)) (before:List MemPlace)
 (hval:∀ (j:Nat) t v,Tryz.f4.params[j]? = some t→args[j]? = some v→Value.okWide Tryz.prog W .any base t v)
 (hW:DataW.Whole enc Tryz.prog Tryz.f4.params.toList Rows.fnExactParseRecordSpec.vars false W args.toList ds gs before) (hL:laidMetH Tryz.prog Rows.fnExactParseRecordRow.laid W) (hS:W.ShapedOpen Tryz.prog) :
 Calls Tryz.prog 4 args W fun e W' => ∃ v,e=.returned v∧Rows.fnExactParseRecordSpec.post enc Tryz.prog Tryz.f4 false true false false W args v W' := by
 have hW' := hW
 obtain ⟨p,q,hA0,hV,rfl,hfz,hnd⟩:=hW
 have hA:DataW.TrodAll enc Tryz.prog W 0 (fun _=>true) true Tryz.f4.params.toList args.toList ds p:=hA0
 rw [Tryz.params4] at hA hval
 obtain ⟨v0,vs0,d0,ds0,p0,q0,hargs,rfl,rfl,h0,r0⟩:=trodAll_cons hA
 obtain ⟨v1,vs1,d1,ds1,p1,q1,rfl,rfl,rfl,h1,r1⟩:=trodAll_cons r0
 obtain ⟨rfl,rfl,rfl⟩:=trodAll_nil r1
 obtain rfl:args=#[v0,v1]:=by cases args;simp_all
 have hg1:∃ g1,gs=[g1]:=by
  obtain ⟨_,_,_,_,g1,_,e,_⟩:=trodVars_one hV
  exact ⟨g1,e⟩
 obtain ⟨g1,rfl⟩:=hg1
 have lt0:∀ x ∈ p0,x.block < W.heap.size:=by obtain ⟨m,hm⟩:=h0;exact DataW.trod_lt m _ _ _ hm
 have lt1:∀ x ∈ p1,x.block < W.heap.size:=by obtain ⟨m,hm⟩:=h1;exact DataW.trod_lt m _ _ _ hm
 refine (walkFnExactParseRecord W (glOf hL hS) (hval 0 9 v0 rfl rfl) h0 (hval 1 3 v1 rfl rfl) h1).mono fun e W' ⟨he,bel⟩=>?_
 subst he
 obtain ⟨q',hq'⟩:=iE hV bel
 exact ⟨_,rfl,_,_,_,[],_,_,hW',trodAll_mk1 (shut_bool Tryz.underlying4 _),(trodAll_cons_mk (Below.trod laidOut (by kernel_rfl) (jbO (by kernel_rfl)) h0 bel lt0) (trodAll_cons_mk (Below.trod laidOut (by kernel_rfl) (jbO (by kernel_rfl)) h1 bel lt1) trodAll_mk0)),hq',bel.frame _,fun h=>by cases h⟩
set_option maxRecDepth 100000 in
theorem laid_met (os:Os):laidMet Tryz.prog Rows.fnExactParseRecordRow.laid ((co os).forCall (fun _ _=>0) ⟨#[], #[.string ByteArray.empty,.int .i64 0],[]⟩).memory :=
 laidMet_of_run' 8 (by kernel_rfl) (by kernel_rfl)
set_option maxRecDepth 100000 in
theorem reads (os:Os) {H:Type} (enc:TypeId × Value→H):∃ places,DataW.whole enc Tryz.prog ((co os).forCall (fun _ _=>0) ⟨#[], #[.string ByteArray.empty,.int .i64 0],[]⟩).memory Tryz.f4.params.toList Rows.fnExactParseRecordSpec.vars false (#[.string ByteArray.empty,.int .i64 0]:Array Value).toList 8=some ([.lit (.string []),.lit (.int .i64 0)],[Rows.laid_loop_example_g00510_impl_errorNames],places) :=
 ⟨.cell 1 0 :: (List.range 8).map (fun k=>.cell low k),by kernel_rfl⟩
set_option maxRecDepth 100000 in
theorem lifted (os:Os) (started:os.Started) (H:Type) (enc:TypeId × Value→H) (F:Stop.Interp) :
 ReturnsInHanded {} Tryz.checked os 4 .any ((OpenSpec.ofChange Rows.fnExactParseRecordSpec).preRow enc Tryz.prog Tryz.f4 Rows.fnExactParseRecordRow.domain false Rows.fnExactParseRecordRow.laid) (((OpenSpec.ofChange Rows.fnExactParseRecordSpec).at F).post enc Tryz.prog Tryz.f4 false true false false):=by
 obtain ⟨places,hx⟩:=reads os enc
 refine returnsInHanded_of_row (C:=Tryz.checked) (s:=OpenSpec.ofChange Rows.fnExactParseRecordSpec) own started (by kernel_rfl) Tryz.func4
  (witness_row_atRef (enc:=enc) (C:=Tryz.checked) false (co os) #[.string ByteArray.empty,.int .i64 0] rfl (by kernel_rfl) (by kernel_rfl) (by kernel_rfl)
    (OpenSpec.preRow_of_cond 8 hx (by kernel_rfl) (fun k hk=>by cases hk) (by kernel_rfl) (laid_met os))) ?_
 intro W base args ds gs before hval hW _ _ _ hL hS _
 exact contract H enc W base args ds gs before hval hW hL hS
theorem inPlaceF:(Rows.fnExactParseRecordRow.inPlace == Tryz.prog.inPlace 4)=true:=by kernel_rfl
theorem followF:(Rows.fnExactParseRecordRow.unfollowed == Tryz.prog.unfollowed 4)=true:=by kernel_rfl
theorem recReach:(Tryz.prog.closure 4).contains 107=true:=by kernel_rfl
theorem namedF:(Rows.fnExactParseRecordRow.named == Tryz.prog.varsNamed 4)=true:=by kernel_rfl
theorem closed:joinedFacts Tryz.prog 4 Tryz.f4 (OpenSpec.ofChange Rows.fnExactParseRecordSpec).bare Rows.fnExactParseRecordRow=true :=
 ai (ai (ai (ai (ai (ai (ai (ai (ai (ai (ai (ai (ai (ai (ai (ai (ai (ai (ai (ai (ai (ai (ai (ai (ai (ai (ai (ai (ai (ai (ai (by kernel_rfl) laidOut) pMaps) (by kernel_rfl)) (by kernel_rfl)) rfl) pStops) rfl) pKnobs) inPlaceF) followF) (beqT (recurses_of recReach pRec))) namedF) (by kernel_rfl)) (by kernel_rfl)) (by kernel_rfl)) (by kernel_rfl)) (by kernel_rfl)) (by kernel_rfl)) (by kernel_rfl)) (by kernel_rfl)) (by kernel_rfl)) pKeys) rfl) pHeard) pEnter) pLift) pMake) (by kernel_rfl)) (by kernel_rfl)) (by kernel_rfl)) (by kernel_rfl)
theorem named:Tryz.pinned.checked.prog.funcNamed Rows.fnExactParseRecordRow.func=some 4:=by kernel_rfl
theorem said:Rows.FnExactParseRecordSaid :=
 OpenClaim.holds_of_cond 4 Tryz.f4 rfl rfl rfl rfl rfl rfl rfl ⟨rfl,rfl,rfl,rfl,rfl⟩ rfl rfl rfl rfl rfl named Tryz.func4 closed
  (jbO (by kernel_rfl)) (by unfold Func.isWrapper;first|(rw [if_pos (by decide +kernel)];kernel_rfl)|(rw [if_neg (by decide +kernel)];exact ⟨rfl,rfl⟩))
  (fun os started H enc _ F=>by rw [OpenClaim.pre_eq_preRow];exact lifted os started H enc F)
theorem plain (f:FuncId) (fn:Func) (hf:Tryz.pinned.checked.prog.funcNamed "loop.example/g00510/laws.FnExactParseRecord" = some f) (hfn:Tryz.pinned.checked.prog.funcs[f]? = some fn) :
 true=Tryz.pinned.checked.prog.looks []∧∀ (j:Nat) t,fn.params[j]? = some t→Tryz.pinned.checked.prog.wantsStandIn t=false:=by
 obtain rfl:f=4:=jbR ((show Tryz.prog.funcNamed "loop.example/g00510/laws.FnExactParseRecord" = some 4 by kernel_rfl).symm.trans hf) |>.symm
 obtain rfl:fn=Tryz.f4:=(jbR (Tryz.func4.symm.trans hfn)).symm
 refine ⟨by kernel_rfl,fun j t ht=>?_⟩
 rw [Tryz.params4] at ht
 have hm:t=9∨t=3:=by simpa using Array.mem_of_getElem? ht
 rcases hm with rfl|rfl
 · exact (show Tryz.prog.wantsStandIn 9=false by kernel_rfl)
 · exact (show Tryz.prog.wantsStandIn 3=false by kernel_rfl)
theorem byText:Rows.fnExactParseRecordRow.wfByText (OpenSpec.ofChange Rows.fnExactParseRecordSpec)=true:=by kernel_rfl
theorem goes:false=Rows.fnExactParseRecordRow.goesBy Tryz.pinned.checked.prog:=by kernel_rfl
theorem card:Rows.FnExactParseRecordCardSaid :=
 Claim7.holds_tied_plain_at .later [] _ _ _ _ said (fun _ h=>by cases h) byText (fun _ h=>by cases h) fnExactParseRecord_row_tie rfl ⟨rfl,rfl⟩ (by kernel_rfl) rfl plain goes
end Go.Proofs.YtdjfhmghebommaaGreatDoor.fnExactParseRecord
