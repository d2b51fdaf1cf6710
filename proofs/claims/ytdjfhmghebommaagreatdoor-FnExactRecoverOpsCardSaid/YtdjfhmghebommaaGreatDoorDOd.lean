/- A part. -/
import Derived.Test.YtdjfhmghebommaaGreatDoorDOb
namespace Go.Proofs.YtdjfhmghebommaaGreatDoor.Ab
open Go.RowKit
set_option linter.all false
set_option maxRecDepth 100000
set_option maxHeartbeats 2000000
theorem cM (r:List (List D)):inK .i64 (gP r).1:=jaA _
theorem jl (rows:List (List D)) (i:Nat):(ix rows i).length=i∧∀ r ∈ ix rows i,WfRow T [.i .i64] r:=by
 unfold ix
 refine ⟨by simp,fun r hr=>?_⟩
 obtain ⟨j,_,rfl⟩:=jcw.1 hr
 exact .cons (.int _ _ (cM _)) .nil
theorem jaP {rows:List (List D)} (hs:SmW rows) {rd:List (List D)} (hr:rd.length≤1048576) (hrd:∀ r ∈ rd,RdOk r):WfRow T cO (opI rows rd)∧SmO (opI rows rd) :=
 xn (cM _) (cM _) (cM _) (by rw [(jl rows 3).1];exact jb4 _) (jl rows 3).2 (cM _) (cM _) (cM _) (cM _) (cM _) (dy (hs.dr _)) (dy (hs.dr _)) (cM _) (dy (hs.dr _)) (dy (hs.dr _)) (cM _) (cM _) hr hrd
theorem sD {r:List (List D)} (hs:SmW r) {pv:ByteArray→List D × Bool} (hw:∀ t,t.size≤1048576→WfRow T cV (pv t).1∧wRow (pv t).1≤2097152):RdOk (rowI pv r) :=
 jax (cM _) (cM _) (cM _) (dy (hs.dr _)) (hw _ (dy (hs.dr _))).1 (hw _ (dy (hs.dr _))).2
end Go.Proofs.YtdjfhmghebommaaGreatDoor.Ab
