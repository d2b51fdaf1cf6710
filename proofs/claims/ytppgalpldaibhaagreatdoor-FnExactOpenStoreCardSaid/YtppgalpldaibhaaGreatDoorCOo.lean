/- The law of opened stores over data, with no premise. The walk of the law of opened stores, from its description over data. -/
import Derived.Test.YtppgalpldaibhaaGreatDoorCOg
import Derived.Test.YtppgalpldaibhaaGreatDoorCOi
import Derived.Test.YtppgalpldaibhaaGreatDoorCOh
import Derived.Test.YtppgalpldaibhaaGreatDoorCOd
import Derived.Test.YtppgalpldaibhaaGreatDoorCTa
namespace Go.Proofs.YtppgalpldaibhaaGreatDoor.Ab
open Go.RowKit
set_option linter.unusedVariables false
set_option maxRecDepth 100000
noncomputable def pvX:ByteArray→List D × Bool:=pvS 1048577
theorem pvX_w (t:ByteArray) (ht:t.size≤1048576):WfRow T cV (pvX t).1∧wRow (pvX t).1≤2097152:=by
  have h0:=wf_par ht 1048577 0 (Int.le_refl _) (Int.natCast_nonneg _)
  have h1:=parF_pos t 1048577 0 (Int.le_refl _) (Int.natCast_nonneg _)
  unfold pvX pvS pvOf
  split
  · refine ⟨h0,?_⟩
    show wRow (parF t 1048577 0).1≤2097152
    unfold Pos at h1
    omega
  · refine ⟨?_,by decide⟩
    have z:inK .i64 0:=k0 0 (by decide) (by decide)
    have h2:=wf_par ht 0 0 (Int.le_refl _) (Int.natCast_nonneg _)
    exact h2
theorem pvX_s:FOk Tryz.prog T 27 (spPV2 cV pvX):=FOk.pv2 (n:=1048577) (Nat.le_refl _) (xk27 1048577)
theorem pvX_i:FOk Tryz.prog T 21 (spPV2 cV pvX):=by
  have h:FOk Tryz.prog T 21 (spPV2 cV pvI):=FOk.pv2 (n:=1048577) (Nat.le_refl _) (xk21 1048577)
  exact FOk.po_same (fun s _=>(pv_same (n:=1048577) (by decide) s).symm) h
noncomputable def poX:ByteArray→List D × Bool:=poS pvX
theorem poX_ok:PoOk poX:=poS_ok pvX_w
theorem poX_s:FOk Tryz.prog T 32 (spPV2 cO poX):=xo32 pvX pvX_w pvX_s
theorem poX_i:FOk Tryz.prog T 33 (spPV2 cO poX) :=
  FOk.po_same (po' := poI pvX) (fun s hs=>(po_same (pvS_ok 1048577) hs).symm) (xo33 pvX pvX_w pvX_i)
noncomputable def rcX:ByteArray→Int→List D × Int:=recS poX
theorem rcX_ok:RcOk rcX:=recS_rc poX_ok
theorem rcX_s:FOk Tryz.prog T 37 (spPR cO rcX):=xo37 poX poX_ok poX_s
theorem rcX_i:FOk Tryz.prog T 38 (spPR cO rcX) :=
  FOk.rc_same (rc' := recI poX) (fun s k _=>(rec_same poX s k).symm) (xo38 poX poX_ok poX_i)
theorem lawOpenStore:FOk Tryz.prog T 3 spLaw1 :=
  xo3 (fun s=>(rcA rcX s).2) (xo15 rcX rcX_ok (xo39 rcX rcX_ok rcX_s)) (xo16 rcX rcX_ok (xo40 rcX rcX_ok rcX_i))
end Go.Proofs.YtppgalpldaibhaaGreatDoor.Ab
namespace Go.Proofs.YtppgalpldaibhaaGreatDoor
open Go.ChangeShapes Go.WideShapes Go.ChangeAt Go.RowKit Ab
set_option linter.unusedVariables false
set_option maxRecDepth 100000
theorem walkFnExactOpenStore {H:Type} {enc:TypeId × Value→H} (W:World) {base:Nat} (hL:GlR T W (fun _=>False)) {v0:Value} {d0:DataW H} {p0:List MemPlace} (k0:Value.okWide Tryz.prog W .any base 9 v0) (h0:DataW.Trod enc Tryz.prog W 0 (fun _=>true) true 9 v0 d0 p0) :
    Calls Tryz.prog 3 #[v0] W fun e W' => e=.returned (.bool true)∧Below W.heap.size W W' := by
  obtain ⟨s,rfl⟩:=okWide_string Tryz.underlying9 k0
  have hs:s.size≤maxLen:=by
    simp only [Value.okWide,Tryz.underlying9,Cell.okWide,Cell.ok] at k0
    simp only [maxLen]
    simp_all
    omega
  have ga:ArgR T W (fun _=>False) (.string s) (sArg s):=⟨_,rfl,rfl,hs⟩
  refine (lawOpenStore.ok rfl W (fun _=>False) [sArg s] [.string s] (fun b h=>h.elim) (ArgsR.cons ga ArgsR.nil) hL ⟨s,rfl⟩).mono fun e W' ⟨v,bk,he,hb,hr,_⟩=>?_
  obtain ⟨c,hc,hv⟩:=hr
  obtain rfl:CV.b true=c:=by simpa using hc
  subst he
  refine ⟨?_,hb⟩
  have hv:v=.bool true:=hv
  rw [hv]
end Go.Proofs.YtppgalpldaibhaaGreatDoor
