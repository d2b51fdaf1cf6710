/- Closed facts of the program that each row of this seat asks: each its own theorem (the -/
import Derived.Test.YtdjfhmghebommaaGreatDoorDOq
import Derived.Test.YtdjfhmghebommaaGreatDoorDPr
import Derived.Test.YtdjfhmghebommaaGreatDoorDMzR
namespace Go.Proofs.YtdjfhmghebommaaGreatDoor
open Go.ChangeShapes Go.WideShapes Go.ChangeAt Go.RowKit
set_option maxRecDepth 100000
theorem ai {a b:Bool} (h:a=true) (k:b=true):(a && b)=true:=by rw [h,k];rfl
theorem beqT {a:Bool} (h:a=true):(true == a)=true:=by rw [h];rfl
theorem recurses_of {P:Program} {f g h:FuncId} (h1:(P.closure f).contains g=true) (h2:(((P.funcs[g]?).elim [] P.leadsTo).contains h && (P.closure h).contains g)=true):P.recurses f=true:=by
 unfold Program.recurses
 have e:((P.closure f).any fun g=>((P.funcs[g]?).elim [] P.leadsTo).any fun h=>(P.closure h).contains g)=true:=by
  simp only [jb1,jdp] at h1 h2
  exact List.any_eq_true.2 ⟨g,h1,List.any_eq_true.2 ⟨h,h2.1,jdp.2 h2.2⟩⟩
 rw [e,jcG]
theorem pMaps:mapsRowed Tryz.prog=true:=by kernel_rfl
theorem pStops:(Tryz.prog.stops == [])=true:=by kernel_rfl
theorem pKnobs:(Tryz.prog.stopKnobs == [])=true:=by kernel_rfl
theorem pKeys:(Rows.fnExactRecoverOpsRow.plainKeys == Tryz.prog.plainKeys)=true:=by kernel_rfl
theorem pHeard:Tryz.prog.stopsHeard=true:=by kernel_rfl
theorem pEnter:Tryz.prog.mayEnter=true:=by kernel_rfl
theorem pLift:(Rows.fnExactRecoverOpsRow.lifted == Tryz.prog.liftsFinal)=true:=by kernel_rfl
theorem pMake:(Tryz.prog.make == some Rows.fnExactRecoverOpsRow.make)=true:=by kernel_rfl
theorem pRec:((((Tryz.prog.funcs[107]?).elim [] Tryz.prog.leadsTo).contains 107) && (Tryz.prog.closure 107).contains 107)=true:=by kernel_rfl
end Go.Proofs.YtdjfhmghebommaaGreatDoor
namespace Go.Proofs.YtdjfhmghebommaaGreatDoor.Ab
open Go.RowKit
set_option linter.all false
set_option maxRecDepth 100000
theorem roY_s:FOk Tryz.prog T 13 (spRO rcY):=xo13 rcY rcY_ok rcY_s
theorem roY_i:FOk Tryz.prog Td 14 (xI rcY):=zo14 rcY rcY_ok rcY_i
theorem cRow_sl:∀ r:List D,cRow r≤cSl r+r.length
 | []=>jb4 _
 | .l x :: r=>by have:=cRow_sl r;simp only [cSl,cRow,cD,jb3];omega
 | .i x :: r=>by have:=cRow_sl r;simp only [cSl,cRow,cD,jb3];omega
 | .s x :: r=>by have:=cRow_sl r;simp only [cSl,cRow,cD,jb3];omega
 | .b x :: r=>by have:=cRow_sl r;simp only [cSl,cRow,cD,jb3];omega
theorem rcF_c {rc:ByteArray→Int→List D × Int} {s:ByteArray} {M:Nat} (h:∀ k,cRow (rc s k).1≤M):∀ (m:Nat) (k:Int) (out:List (List D)),(∀ r ∈ out,cRow r≤M)→out.length≤60→(∀ r ∈ (rcF rc s m k out).1,cRow r≤M)∧(rcF rc s m k out).1.length≤60
 | 0,k,out,h1,h2=>⟨h1,h2⟩
 | m+1,k,out,h1,h2=>by
   rw [rcF]
   split
   · rename_i hc
     refine rcF_c h m _ _ (fun r hr=>?_) (by rw [jbQ];show out.length+1≤60;omega)
     rcases jco.1 hr with hr|hr
     · exact h1 r hr
     · rw [jcF.1 hr];exact h k
   · exact ⟨h1,h2⟩
theorem roY_c (s:ByteArray) (hs:s.size≤1048576):1+(ad (rcA rcY s).1:Int)≤4611686018427387904:=by
 obtain ⟨h1,h2⟩:=rcF_c (rc:=rcY) (s:=s) (M:=140737488355344) (fun k=>by
  have h3:=cRow_sl (rcY s k).1
  have h4:=wk s k hs
  have h5:(rcY s k).1.length=17:=(rcY_ok s k hs).1.1
  omega) 60 0 [] (fun r h=>absurd h jbS) (jbP _)
 have h6:=kG _ h1
 have h7:ad (rcA rcY s).1≤60 * 140737488355344:=jbV h6 (jcg _ h2)
 omega
end Go.Proofs.YtdjfhmghebommaaGreatDoor.Ab
namespace Go.Proofs.YtdjfhmghebommaaGreatDoor
open Go.ChangeShapes Go.WideShapes Go.ChangeAt Go.RowKit Ab
set_option linter.all false
set_option maxRecDepth 100000
theorem lawPV_big (s:ByteArray) (hs:¬ s.size≤1048576) (hm:s.size≤9223372036854775807) (W:World):Calls Tryz.prog 5 #[.string s] W fun e W' => e=.returned (.bool true)∧Below W.heap.size W W' := by
 have h:(s.size:Int) > 1048576:=by omega
 go_enter Tryz.func5,Tryz.ntmps5
 go_wp2
 go_ret
 exact ⟨rfl,Below.refl _ _⟩
theorem walkFnExactRecoverOps {H:Type} {enc:TypeId × Value→H} (W:World) {base:Nat} (hL:GlR T W (fun _=>False)) {v0:Value} {d0:DataW H} {p0:List MemPlace} (k0:Value.okWide Tryz.prog W .any base 9 v0) (h0:DataW.Trod enc Tryz.prog W 0 (fun _=>true) true 9 v0 d0 p0) :
 Calls Tryz.prog 5 #[v0] W fun e W' => e=.returned (.bool true)∧Below W.heap.size W W' := by
 obtain ⟨s,rfl⟩:=okWide_string Tryz.underlying9 k0
 have hs:s.size≤maxLen:=by
  simp only [Value.okWide,Tryz.underlying9,Cell.okWide,Cell.ok] at k0
  simp only [maxLen]
  simp_all
  omega
 by_cases h:s.size≤1048576
 · exact lawRO _ Ab.ok40 Ab.roY_c Ab.roY_s Ab.roY_i s h W hL
 · exact lawPV_big s h (by simp only [maxLen] at hs;omega) W
end Go.Proofs.YtdjfhmghebommaaGreatDoor
namespace Go.Proofs.YtdjfhmghebommaaGreatDoor.fnExactRecoverOps
open Go.ChangeShapes Go.WideShapes Go.ChangeAt Go.RowKit
set_option linter.all false
set_option maxRecDepth 100000
theorem contract (H:Type) (enc:TypeId × Value→H) (W:World) (base:Nat) (args:Array Value) (ds gs:List (DataW H)) (before:List MemPlace)
 (hval:∀ (j:Nat) t v,Tryz.f5.params[j]? = some t→args[j]? = some v→Value.okWide Tryz.prog W .any base t v)
 (hW:DataW.Whole enc Tryz.prog Tryz.f5.params.toList Rows.fnExactRecoverOpsSpec.vars false W args.toList ds gs before) (hL:laidMetH Tryz.prog Rows.fnExactRecoverOpsRow.laid W) (hS:W.ShapedOpen Tryz.prog) :
 Calls Tryz.prog 5 args W fun e W' => ∃ v,e=.returned v∧Rows.fnExactRecoverOpsSpec.post enc Tryz.prog Tryz.f5 false true false false W args v W' := by
 have hW' := hW
 obtain ⟨p,q,hA0,hV,rfl,hfz,hnd⟩:=hW
 have hA:DataW.TrodAll enc Tryz.prog W 0 (fun _=>true) true Tryz.f5.params.toList args.toList ds p:=hA0
 rw [Tryz.params5] at hA hval
 obtain ⟨v0,vs0,d0,ds0,p0,q0,hargs,rfl,rfl,h0,r0⟩:=trodAll_cons hA
 obtain ⟨rfl,rfl,rfl⟩:=trodAll_nil r0
 obtain rfl:args=#[v0]:=by cases args;simp_all
 have hg1:∃ g1,gs=[g1]:=by
  obtain ⟨_,_,_,_,g1,_,e,_⟩:=trodVars_one hV
  exact ⟨g1,e⟩
 obtain ⟨g1,rfl⟩:=hg1
 have lt0:∀ x ∈ p0,x.block < W.heap.size:=by obtain ⟨m,hm⟩:=h0;exact DataW.trod_lt m _ _ _ hm
 refine (walkFnExactRecoverOps W (glOf hL hS) (hval 0 9 v0 rfl rfl) h0).mono fun e W' ⟨he,bel⟩=>?_
 subst he
 obtain ⟨q',hq'⟩:=iE hV bel
 exact ⟨_,rfl,_,_,_,[],_,_,hW',trodAll_mk1 (shut_bool Tryz.underlying4 _),(trodAll_cons_mk (Below.trod laidOut (by kernel_rfl) (jbO (by kernel_rfl)) h0 bel lt0) trodAll_mk0),hq',bel.frame _,fun h=>by cases h⟩
set_option maxRecDepth 100000 in
theorem laid_met (os:Os):laidMet Tryz.prog Rows.fnExactRecoverOpsRow.laid ((co os).forCall (fun _ _=>0) ⟨#[], #[.string ByteArray.empty],[]⟩).memory :=
 laidMet_of_run' 8 (by kernel_rfl) (by kernel_rfl)
set_option maxRecDepth 100000 in
theorem reads (os:Os) {H:Type} (enc:TypeId × Value→H):∃ places,DataW.whole enc Tryz.prog ((co os).forCall (fun _ _=>0) ⟨#[], #[.string ByteArray.empty],[]⟩).memory Tryz.f5.params.toList Rows.fnExactRecoverOpsSpec.vars false (#[.string ByteArray.empty]:Array Value).toList 8=some ([.lit (.string [])],[Rows.laid_loop_example_g00510_impl_errorNames],places) :=
 ⟨.cell 1 0 :: (List.range 8).map (fun k=>.cell low k),by kernel_rfl⟩
set_option maxRecDepth 100000 in
theorem lifted (os:Os) (started:os.Started) (H:Type) (enc:TypeId × Value→H) (F:Stop.Interp) :
 ReturnsInHanded {} Tryz.checked os 5 .any ((OpenSpec.ofChange Rows.fnExactRecoverOpsSpec).preRow enc Tryz.prog Tryz.f5 Rows.fnExactRecoverOpsRow.domain false Rows.fnExactRecoverOpsRow.laid) (((OpenSpec.ofChange Rows.fnExactRecoverOpsSpec).at F).post enc Tryz.prog Tryz.f5 false true false false):=by
 obtain ⟨places,hx⟩:=reads os enc
 refine returnsInHanded_of_row (C:=Tryz.checked) (s:=OpenSpec.ofChange Rows.fnExactRecoverOpsSpec) own started (by kernel_rfl) Tryz.func5
  (witness_row_atRef (enc:=enc) (C:=Tryz.checked) false (co os) #[.string ByteArray.empty] rfl (by kernel_rfl) (by kernel_rfl) (by kernel_rfl)
    (OpenSpec.preRow_of_cond 8 hx (by kernel_rfl) (fun k hk=>by cases hk) (by kernel_rfl) (laid_met os))) ?_
 intro W base args ds gs before hval hW _ _ _ hL hS _
 exact contract H enc W base args ds gs before hval hW hL hS
theorem inPlaceF:(Rows.fnExactRecoverOpsRow.inPlace == Tryz.prog.inPlace 5)=true:=by kernel_rfl
theorem followF:(Rows.fnExactRecoverOpsRow.unfollowed == Tryz.prog.unfollowed 5)=true:=by kernel_rfl
theorem recReach:(Tryz.prog.closure 5).contains 107=true:=by kernel_rfl
theorem namedF:(Rows.fnExactRecoverOpsRow.named == Tryz.prog.varsNamed 5)=true:=by kernel_rfl
theorem closed:joinedFacts Tryz.prog 5 Tryz.f5 (OpenSpec.ofChange Rows.fnExactRecoverOpsSpec).bare Rows.fnExactRecoverOpsRow=true :=
 ai (ai (ai (ai (ai (ai (ai (ai (ai (ai (ai (ai (ai (ai (ai (ai (ai (ai (ai (ai (ai (ai (ai (ai (ai (ai (ai (ai (ai (ai (ai (by kernel_rfl) laidOut) pMaps) (by kernel_rfl)) (by kernel_rfl)) rfl) pStops) rfl) pKnobs) inPlaceF) followF) (beqT (recurses_of recReach pRec))) namedF) (by kernel_rfl)) (by kernel_rfl)) (by kernel_rfl)) (by kernel_rfl)) (by kernel_rfl)) (by kernel_rfl)) (by kernel_rfl)) (by kernel_rfl)) (by kernel_rfl)) pKeys) rfl) pHeard) pEnter) pLift) pMake) (by kernel_rfl)) (by kernel_rfl)) (by kernel_rfl)) (by kernel_rfl)
theorem named:Tryz.pinned.checked.prog.funcNamed Rows.fnExactRecoverOpsRow.func=some 5:=by kernel_rfl
theorem said:Rows.FnExactRecoverOpsSaid :=
 OpenClaim.holds_of_cond 5 Tryz.f5 rfl rfl rfl rfl rfl rfl rfl ⟨rfl,rfl,rfl,rfl,rfl⟩ rfl rfl rfl rfl rfl named Tryz.func5 closed
  (jbO (by kernel_rfl)) (by unfold Func.isWrapper;first|(rw [if_pos (by decide +kernel)];kernel_rfl)|(rw [if_neg (by decide +kernel)];exact ⟨rfl,rfl⟩))
  (fun os started H enc _ F=>by rw [OpenClaim.pre_eq_preRow];exact lifted os started H enc F)
theorem plain (f:FuncId) (fn:Func) (hf:Tryz.pinned.checked.prog.funcNamed "loop.example/g00510/laws.FnExactRecoverOps" = some f) (hfn:Tryz.pinned.checked.prog.funcs[f]? = some fn) :
 true=Tryz.pinned.checked.prog.looks []∧∀ (j:Nat) t,fn.params[j]? = some t→Tryz.pinned.checked.prog.wantsStandIn t=false:=by
 obtain rfl:f=5:=jbR ((show Tryz.prog.funcNamed "loop.example/g00510/laws.FnExactRecoverOps" = some 5 by kernel_rfl).symm.trans hf) |>.symm
 obtain rfl:fn=Tryz.f5:=(jbR (Tryz.func5.symm.trans hfn)).symm
 refine ⟨by kernel_rfl,fun j t ht=>?_⟩
 rw [Tryz.params5] at ht
 obtain rfl:t=9:=by simpa using Array.mem_of_getElem? ht
 exact (show Tryz.prog.wantsStandIn 9=false by kernel_rfl)
theorem byText:Rows.fnExactRecoverOpsRow.wfByText (OpenSpec.ofChange Rows.fnExactRecoverOpsSpec)=true:=by kernel_rfl
theorem goes:false=Rows.fnExactRecoverOpsRow.goesBy Tryz.pinned.checked.prog:=by kernel_rfl
theorem card:Rows.FnExactRecoverOpsCardSaid :=
 Claim7.holds_tied_plain_at .later [] _ _ _ _ said (fun _ h=>by cases h) byText (fun _ h=>by cases h) fnExactRecoverOps_row_tie rfl ⟨rfl,rfl⟩ (by kernel_rfl) rfl plain goes
end Go.Proofs.YtdjfhmghebommaaGreatDoor.fnExactRecoverOps
