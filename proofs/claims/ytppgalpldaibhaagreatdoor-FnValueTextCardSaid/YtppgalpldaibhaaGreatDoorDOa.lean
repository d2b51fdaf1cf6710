/- Operations read from words, in plain Lean: what the reference and the program read. No program in sight. And what belongs to it. -/
import Derived.Test.YtppgalpldaibhaaGreatDoorDYf
import Derived.Test.YtppgalpldaibhaaGreatDoorDZa
import Derived.Test.YtppgalpldaibhaaGreatDoorDLx
import Derived.Test.YtppgalpldaibhaaGreatDoorDUe
import Derived.Test.YtppgalpldaibhaaGreatDoorDUg
import Derived.Test.YtppgalpldaibhaaGreatDoorDYz
import Derived.Test.YtppgalpldaibhaaGreatDoorDYo
import Derived.Test.YtppgalpldaibhaaGreatDoorDTa
namespace Go.Proofs.YtppgalpldaibhaaGreatDoor.Ab
open Go.RowKit
set_option linter.unusedVariables false
variable {T:Tab}
section
variable (pv:ByteArray→List D × Bool) (rows:List (List D))
noncomputable def ok1 (r:List (List D)) (b:Bool):Bool:=okW r b && (numI' r).2
def ok2 (r:List (List D)) (b:Bool):Bool:=okW r b && (decT (hdW r)).2
end
def spPV2 (cts:List CT) (pv:ByteArray→List D × Bool):FSpec where
  pre args:=∃ s:ByteArray,s.size≤1048576∧args=[sArg s]
  res args:=match args with
    | [.val _ [.s s]]=>.tup [(true,rowC cts (pv s).1),(false,[.b (pv s).2])]
    | _=>.none
theorem FOk.pv2 {P:Program} {f:FuncId} {cts:List CT} {n:Nat} {pv:ByteArray→List D × Bool} (hn:1048577≤n) (h:FOk P T f (spPV cts n pv)):FOk P T f (spPV2 cts pv):=by
  refine ⟨h.call,fun hb=>(by cases hb),fun _ w X args vals a1 a2 a3 hpre=>?_,fun hb=>(by cases hb)⟩
  obtain ⟨s,hs,he⟩:=hpre
  exact h.ok rfl w X args vals a1 a2 a3 ⟨s,hs,by omega,he⟩
end Go.Proofs.YtppgalpldaibhaaGreatDoor.Ab
namespace Go.Proofs.YtppgalpldaibhaaGreatDoor.Ab
open Go.RowKit
set_option linter.unusedVariables false
def spBig (e:TypeId):FSpec where
  pre args:=∃ rows:List (List D),args=[argS e rows]
  res args:=match args with
    | [.val _ [.sl _ _ rows]]=>.val false [.b (decide ((rows.length:Int) > 1048576))]
    | _=>.none
def lawB (e:TypeId):FSpec where
  pre args:=∃ rows:List (List D),args=[argS e rows]
  res _:=.val false [.b true]
def RdV (pv:ByteArray→List D × Bool):Prop:=∀ s:ByteArray,s.size≤1048576→WfRow T cV (pv s).1∧wRow (pv s).1≤WM∧((pv s).2=true→fmtO (pv s).1=s)
theorem pvI_rd:RdV pvI:=by
  intro s hs
  cases h:(pvI s).2 with
  | true =>
    obtain ⟨_,ho,hse,he⟩:=pvOf_T (show (pvOf (wholeI s).1 ((wholeI s).2.2 && (wholeI s).2.1 == (s.size:Int)) s).2=true from h)
    have e:(pvI s).1=(wholeI s).1:=congrArg Prod.fst he
    refine ⟨by rw [e];exact wf_whole hs,by rw [e];exact whole_w hs,fun _=>?_⟩
    rw [e,fmtO_yes ho]
    apply ByteArray.ext
    apply Array.ext'
    exact hse.symm
  | false =>
    have e:(pvI s).1=vNil:=congrArg Prod.fst (pvOf_F (show (pvOf (wholeI s).1 ((wholeI s).2.2 && (wholeI s).2.1 == (s.size:Int)) s).2=false from h))
    exact ⟨by rw [e];exact wfNil,by rw [e];decide,fun h=>by cases h⟩
theorem pvS_eq:pvS 1048577=pvI:=funext fun s=>pv_same (by decide) s
theorem fmt_is {cs:List CV} {v:List D × Bool} {s:ByteArray} (w7:csD cs=v.1) (wf:v.2=true→fmtO v.1=s) (h:(!v.2)=false):((fmtO (csD cs)).toList == s.toList)=true:=by
  rw [w7,wf (by simpa using h),beq_self_eq_true]
theorem no_beq {b:Bool} {p:Prop} (h:(b == b)=false):p:=by simp at h
theorem no_dec {a:List D} {p:Prop} (h:decide (a=a)=false):p:=by simp at h
end Go.Proofs.YtppgalpldaibhaaGreatDoor.Ab
namespace Go.Proofs.YtppgalpldaibhaaGreatDoor.Ab
open Go.RowKit
set_option linter.unusedVariables false
set_option linter.unusedSimpArgs false
set_option maxRecDepth 100000
set_option maxHeartbeats 2000000
theorem ok18:FOk Tryz.prog T 18 (spBig 5):=by
  refine fok (env:=envL []) (N:=6) tabT envL_nil mixed Tryz.func18 rfl Tryz.call18 Tryz.ntmps18 ?_
  rintro args ⟨rows,rfl⟩ hwf
  clear hwf
  refine ⟨by simp,?_⟩
  rw [Tryz.results18]
  repeat' first
    | (refine And.intro ?_ ?_)
    | (intro h;simp only [reduceCtorEq] at h;done)
    | (intro h;rw [h])
    | (intro h)
  all_goals first
    | (show lowEdges _=true;kernel_rfl)|(show logOk _ _=true;kernel_rfl)|exact True.intro|exact Or.inr rfl|exact Or.inl rfl
    | rfl
    | skip
theorem core5 {pv:ByteArray→List D × Bool} (F:RdV pv) (h1:FOk Tryz.prog T 21 (spPV2 [.i .i64,.i .i64,.i .i64,.s,.l 33,.l 9,.l 91] pv)) (h2:FOk Tryz.prog T 27 (spPV2 [.i .i64,.i .i64,.i .i64,.s,.l 33,.l 9,.l 91] pv)):FOk Tryz.prog T 5 (lawB 5):=by
  obtain ⟨g,k,q⟩:=any26
  refine fok (env:=envL [(18,(spBig 5)),(26, { pre:=fun a=>∃ rows:List (List D),rows.length≤1048576∧a=[argS 5 rows],res:=fun a=>(fun (x:ByteArray)=>.val false [.s x]) (g a) }),(21,(spPV2 [.i .i64,.i .i64,.i .i64,.s,.l 33,.l 9,.l 91] pv)),(27,(spPV2 [.i .i64,.i .i64,.i .i64,.s,.l 33,.l 9,.l 91] pv)),(28,(eqG [.i .i64,.i .i64,.i .i64,.s,.l 33,.l 9,.l 91])),(20,(spGT T [.i .i64,.i .i64,.i .i64,.s,.l 33,.l 9,.l 91] SmM fmtO))]) (N:=40) tabT (envL_cons ok18 (envL_cons k (envL_cons h1 (envL_cons h2 (envL_cons ok28 (envL_cons xk20 envL_nil)))))) mixed Tryz.func5 rfl Tryz.call5 Tryz.ntmps5 ?_
  rintro args ⟨rows,rfl⟩ hwf
  refine ⟨by simp,?_⟩
  rw [Tryz.results5]
  by_cases hbig:(rows.length:Int) > 1048576
  · clear hwf q
    repeat' first
      | (refine And.intro ?_ ?_)
      | (intro h;exact absurd hbig (of_decide_eq_false h))
      | (intro h)
    all_goals first
      | (show lowEdges _=true;kernel_rfl)|(show logOk _ _=true;kernel_rfl)|exact True.intro|exact Or.inr rfl|exact Or.inl rfl
      | exact ⟨_,rfl⟩
      | rfl
  have hr:rows.length≤1048576:=by omega
  have hz:(g [argS 5 rows]).size≤4020:=q [argS 5 rows] ⟨rows,hr,rfl⟩ hwf
  clear hwf q
  obtain ⟨w,wm,wf⟩:=F (g [argS 5 rows]) (Nat.le_trans hz (by decide))
  have w7:csD (rowC [.i .i64,.i .i64,.i .i64,.s,.l 33,.l 9,.l 91] (pv (g [argS 5 rows])).1)=(pv (g [argS 5 rows])).1:=csD_rowC w
  repeat' first
    | (refine And.intro ?_ ?_)
    | (intro h;simp only [reduceCtorEq] at h;done)
    | (intro h;rw [h])
    | (intro h)
  all_goals first
    | (show lowEdges _=true;kernel_rfl)|(show logOk _ _=true;kernel_rfl)|exact True.intro|exact Or.inr rfl|exact Or.inl rfl
    | exact ⟨_,rfl⟩
    | exact ⟨_,hr,rfl⟩
    | exact ⟨_,Nat.le_trans hz (by decide),rfl⟩
    | exact ⟨_,_,w,w,rfl⟩
    | exact ⟨_,w,wm,rfl⟩
    | ((with_reducible show [CV.b true]=[CV.b true]);rfl)
    | exact no_beq (b:=(pv (g [argS 5 rows])).2) (by assumption)
    | exact no_dec (a:=csD (rowC [.i .i64,.i .i64,.i .i64,.s,.l 33,.l 9,.l 91] (pv (g [argS 5 rows])).1)) (by assumption)
    | exact congrArg (fun b=>[CV.b b]) (fmt_is w7 wf (by assumption))
    | skip
theorem law5:FOk Tryz.prog T 5 (lawB 5):=core5 pvI_rd (FOk.pv2 (Nat.le_refl _) (xk21 1048577)) (by have h:=FOk.pv2 (Nat.le_refl _) (xk27 1048577);rw [pvS_eq] at h;exact h)
end Go.Proofs.YtppgalpldaibhaaGreatDoor.Ab
namespace Go.Proofs.YtppgalpldaibhaaGreatDoor
open Go.ChangeShapes Go.WideShapes Go.ChangeAt Go.RowKit Ab
set_option linter.unusedVariables false
set_option maxRecDepth 100000
theorem flatParsedValue:[27,5].all (flatOk Tryz.prog T [27,5])=true:=by kernel_rfl
theorem walkFnParsedValue {H:Type} {enc:TypeId × Value→H} (W:World) {base:Nat} (hL:GlR T W (fun _=>False)) {v0:Value} {d0:DataW H} {p0:List MemPlace} (k0:Value.okWide Tryz.prog W .any base 27 v0) (h0:DataW.Trod enc Tryz.prog W 0 (fun _=>true) true 27 v0 d0 p0) :
    Calls Tryz.prog 5 #[v0] W fun e W' => e=.returned (.bool true)∧Below W.heap.size W W' := by
  obtain ⟨a,n,c,rfl⟩:=okWide_slice Tryz.underlying27 k0
  obtain ⟨m0,t0⟩:=h0
  obtain ⟨ty0,r0,e0,w0⟩:=row_of_trod tabT flatParsedValue m0 27 _ _ (by decide) t0
  obtain rfl:⟨false,[.l 5],_,_,_,_⟩=ty0:=Option.some.inj e0
  have g0:RowR T W (fun _=>False) [.l 5] [.slice a n c] r0:=w0
  refine (law5.ok rfl W (fun _=>False) [argS 5 (r0.getD 0 default).rows] [.slice a n c] (fun b h=>h.elim) (ArgsR.cons g0.argS ArgsR.nil) hL ⟨_,rfl⟩).mono fun e W' ⟨v,bk,he,hb,hr,_⟩=>?_
  obtain ⟨c',hc,hv⟩:=hr
  obtain rfl:CV.b true=c' := by simpa using hc
  subst he
  refine ⟨?_,hb⟩
  have hv:v=.bool true:=hv
  rw [hv]
end Go.Proofs.YtppgalpldaibhaaGreatDoor
