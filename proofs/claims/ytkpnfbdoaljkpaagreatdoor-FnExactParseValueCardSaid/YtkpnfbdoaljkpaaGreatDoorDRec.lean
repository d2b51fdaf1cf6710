/- The walk of the law FnExactParseValue. The statement on FnExactParseValue, its row and its tied card: for every input the law returns true, and each argument reads as before. No conditions of ours. -/
import Derived.Test.YtkpnfbdoaljkpaaGreatDoorDRf
import Derived.Test.YtkpnfbdoaljkpaaGreatDoorDPv
import Derived.Test.YtkpnfbdoaljkpaaGreatDoorDMh
import Derived.Test.YtkpnfbdoaljkpaaGreatDoorDMz
import Derived.Test.YtkpnfbdoaljkpaaGreatDoorDTa
import Derived.Test.YtkpnfbdoaljkpaaGreatDoorDOx
import Derived.Test.YtkpnfbdoaljkpaaGreatDoorDOv
namespace Go.Proofs.YtkpnfbdoaljkpaaGreatDoor
open Go.ChangeShapes Go.WideShapes Go.ChangeAt Go.RowKit Ab
set_option linter.unusedVariables false
set_option maxRecDepth 100000
theorem lawPV_big (s:ByteArray) (hs:¬ s.size≤1048576) (hm:s.size≤9223372036854775807) (W:World):Calls Tryz.prog 5 #[.string s] W fun e W' => e=.returned (.bool true)∧Below W.heap.size W W' := by
  have h:(s.size:Int) > 1048576:=by omega
  go_enter Tryz.func5,Tryz.ntmps5
  go_wp2
  go_ret
  exact ⟨rfl,Below.refl _ _⟩
theorem walkFnExactParseValue {H:Type} {enc:TypeId × Value→H} (W:World) {base:Nat} (hL:GlR T W (fun _=>False)) {v0:Value} {d0:DataW H} {p0:List MemPlace} (k0:Value.okWide Tryz.prog W .any base 9 v0) (h0:DataW.Trod enc Tryz.prog W 0 (fun _=>true) true 9 v0 d0 p0) :
    Calls Tryz.prog 5 #[v0] W fun e W' => e=.returned (.bool true)∧Below W.heap.size W W' := by
  obtain ⟨s,rfl⟩:=okWide_string Tryz.underlying9 k0
  have hs:s.size≤maxLen:=by
    simp only [Value.okWide,Tryz.underlying9,Cell.okWide,Cell.ok] at k0
    simp only [maxLen]
    simp_all
    omega
  by_cases h:s.size≤1048576
  · exact lawPV _ Ab.ok81 (fun s hs=>(Ab.pvY_w s hs).1) Ab.pvY_c Ab.pvY_s Ab.pvY_i s h W hL
  · exact lawPV_big s h (by simp only [maxLen] at hs;omega) W
end Go.Proofs.YtkpnfbdoaljkpaaGreatDoor
namespace Go.Proofs.YtkpnfbdoaljkpaaGreatDoor.fnExactParseValue
open Go.ChangeShapes Go.WideShapes Go.ChangeAt Go.RowKit
set_option linter.unusedVariables false
set_option maxRecDepth 100000
theorem contract (H:Type) (enc:TypeId × Value→H) (W:World) (base:Nat) (args:Array Value) (ds gs:List (DataW H)) (before:List MemPlace)
    (hval:∀ (j:Nat) t v,Tryz.f5.params[j]? = some t→args[j]? = some v→Value.okWide Tryz.prog W .any base t v)
    (hW:DataW.Whole enc Tryz.prog Tryz.f5.params.toList Rows.fnExactParseValueSpec.vars false W args.toList ds gs before) (hL:laidMetH Tryz.prog Rows.fnExactParseValueRow.laid W) (hS:W.ShapedOpen Tryz.prog) :
    Calls Tryz.prog 5 args W fun e W' => ∃ v,e=.returned v∧Rows.fnExactParseValueSpec.post enc Tryz.prog Tryz.f5 false true false false W args v W' := by
  have hW' := hW
  obtain ⟨p,q,hA0,hV,rfl,hfz,hnd⟩:=hW
  have hA:DataW.TrodAll enc Tryz.prog W 0 (fun _=>true) true Tryz.f5.params.toList args.toList ds p:=hA0
  rw [Tryz.params5] at hA hval
  obtain ⟨v0,vs0,d0,ds0,p0,q0,hargs,rfl,rfl,h0,r0⟩:=trodAll_cons hA
  obtain ⟨rfl,rfl,rfl⟩:=trodAll_nil r0
  obtain rfl:args=#[v0]:=by cases args;simp_all
  have hg1:∃ g1,gs=[g1]:=by
    obtain ⟨_,_,_,_,g1,_,e,_⟩:=trodVars_one hV
    exact ⟨g1,e⟩
  obtain ⟨g1,rfl⟩:=hg1
  have lt0:∀ x ∈ p0,x.block < W.heap.size:=by obtain ⟨m,hm⟩:=h0;exact DataW.trod_lt m _ _ _ hm
  refine (walkFnExactParseValue W (glOf hL hS) (hval 0 9 v0 rfl rfl) h0).mono fun e W' ⟨he,bel⟩=>?_
  subst he
  obtain ⟨q',hq'⟩:=names_kept hV bel
  exact ⟨_,rfl,_,_,_,[],_,_,hW',trodAll_mk1 (shut_bool Tryz.underlying4 _),(trodAll_cons_mk (Below.trod laidOut (by kernel_rfl) (of_decide_eq_true (by kernel_rfl)) h0 bel lt0) trodAll_mk0),hq',bel.frame _,fun h=>by cases h⟩
set_option maxRecDepth 100000 in
theorem lifted (os:Os) (started:os.Started) (H:Type) (enc:TypeId × Value→H) (F:Stop.Interp) :
    ReturnsInHanded {} Tryz.checked os 5 .any ((OpenSpec.ofChange Rows.fnExactParseValueSpec).preRow enc Tryz.prog Tryz.f5 Rows.fnExactParseValueRow.domain false Rows.fnExactParseValueRow.laid) (((OpenSpec.ofChange Rows.fnExactParseValueSpec).at F).post enc Tryz.prog Tryz.f5 false true false false):=by
  obtain ⟨places,hx⟩:=reads os enc
  refine returnsInHanded_of_row (C:=Tryz.checked) (s:=OpenSpec.ofChange Rows.fnExactParseValueSpec) own started (by kernel_rfl) Tryz.func5
    (witness_row_atRef (enc:=enc) (C:=Tryz.checked) false (laidWorld os) #[.string ByteArray.empty] rfl (by kernel_rfl) (by kernel_rfl) (by kernel_rfl)
      (OpenSpec.preRow_of_cond 8 hx (by kernel_rfl) (fun k hk=>by cases hk) (by kernel_rfl) (laid_met os))) ?_
  intro W base args ds gs before hval hW _ _ _ hL hS _
  exact contract H enc W base args ds gs before hval hW hL hS
theorem said:Rows.FnExactParseValueSaid :=
  OpenClaim.holds_of_cond 5 Tryz.f5 rfl rfl rfl rfl rfl rfl rfl ⟨rfl,rfl,rfl,rfl,rfl⟩ rfl rfl rfl rfl rfl named Tryz.func5 closed
    (of_decide_eq_true (by kernel_rfl)) (by unfold Func.isWrapper;first|(rw [if_pos (by decide +kernel)];kernel_rfl)|(rw [if_neg (by decide +kernel)];exact ⟨rfl,rfl⟩))
    (fun os started H enc _ F=>by rw [OpenClaim.pre_eq_preRow];exact lifted os started H enc F)
theorem plain (f:FuncId) (fn:Func) (hf:Tryz.pinned.checked.prog.funcNamed "loop.example/g00510/laws.FnExactParseValue" = some f) (hfn:Tryz.pinned.checked.prog.funcs[f]? = some fn) :
    true=Tryz.pinned.checked.prog.looks []∧∀ (j:Nat) t,fn.params[j]? = some t→Tryz.pinned.checked.prog.wantsStandIn t=false:=by
  obtain rfl:f=5:=Option.some.inj ((show Tryz.prog.funcNamed "loop.example/g00510/laws.FnExactParseValue" = some 5 by kernel_rfl).symm.trans hf) |>.symm
  obtain rfl:fn=Tryz.f5:=(Option.some.inj (Tryz.func5.symm.trans hfn)).symm
  refine ⟨by kernel_rfl,fun j t ht=>?_⟩
  rw [Tryz.params5] at ht
  obtain rfl:t=9:=by simpa using Array.mem_of_getElem? ht
  exact (show Tryz.prog.wantsStandIn 9=false by kernel_rfl)
theorem card:Rows.FnExactParseValueCardSaid :=
  Claim7.holds_tied_plain_at .later [] _ _ _ _ said (fun _ h=>by cases h) byText (fun _ h=>by cases h) fnExactParseValue_row_tie rfl ⟨rfl,rfl⟩ (by kernel_rfl) rfl plain goes
end Go.Proofs.YtkpnfbdoaljkpaaGreatDoor.fnExactParseValue
