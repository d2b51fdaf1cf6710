/- A part. -/
import Derived.Test.YtdjfhmghebommaaGreatDoorDPv
import Derived.Test.YtdjfhmghebommaaGreatDoorDWr
namespace Go.Proofs.YtdjfhmghebommaaGreatDoor.Ab
open Go.RowKit
set_option linter.all false
set_option maxRecDepth 100000
theorem FOk.rc_sameO {P:Program} {T:Tab} {f:FuncId} {cts:List CT} {rc rc' : ByteArray→Int→List D × Int} (he:∀ s k,s.size≤1048576→rc' s k=rc s k) (h:FOk P T f (lQ cts rc')):FOk P T f (lQ cts rc):=by
 refine ⟨h.call,fun hb=>(by cases hb),fun _ w X args vals a1 a2 a3 hpre=>?_,fun hb=>(by cases hb)⟩
 obtain ⟨s,k,hs,rfl⟩:=hpre
 have:=h.ok rfl w X _ vals a1 a2 a3 ⟨s,k,hs,rfl⟩
 show Calls P f vals.toArray w _
 have e:(lQ cts rc').res [sArg s,iArg k]=(lQ cts rc).res [sArg s,iArg k]:=by
  show SV.tup [(true,rowO cts (rc' s k).1),(false,[.i .i64 (rc' s k).2])]=SV.tup [(true,rowO cts (rc s k).1),(false,[.i .i64 (rc s k).2])]
  rw [he s k hs]
 rw [e] at this
 exact this
noncomputable def rcY:ByteArray→Int→List D × Int:=recS poY
theorem rcY_ok:RcOk rcY:=xT poY_ok
theorem rcY_s:FOk Tryz.prog T 11 (spPR cO rcY):=xo11 poY poY_ok poY_s
theorem rcY_i:FOk Tryz.prog Td 12 (lQ cO rcY) :=
 FOk.rc_sameO (rc' := recI poY) (fun s k _=>(uX poY s k).symm) (zo12 poY poY_ok poY_i)
theorem jao {po:ByteArray→List D × Bool} {M:Nat} (hp:∀ t:ByteArray,t.size≤1048576→cSl (po t).1≤M) {s:ByteArray} (hs:s.size≤1048576) (k:Int):cSl (recS po s k).1≤M:=by
 unfold recS
 split
 · unfold recN
   split
   · exact jbP _
   · split
     · exact hp _ (by rw [jcd];omega)
     · exact jbP _
 · exact jbP _
theorem wk (s:ByteArray) (k:Int) (hs:s.size≤1048576):cSl (rcY s k).1≤140737488355327:=jao (fun t ht=>jaG sT ht) hs k
theorem rcY_c (s:ByteArray) (k:Int) (hs:s.size≤1048576):1+(cSl (rcY s k).1:Int)≤4611686018427387904:=by
 have:=wk s k hs
 omega
end Go.Proofs.YtdjfhmghebommaaGreatDoor.Ab
