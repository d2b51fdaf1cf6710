/- The smallness of operations from their weight; texts of structures. No program in sight. And what belongs to it. -/
import Derived.Test.YtppgalpldaibhaaGreatDoorDFd
import Derived.Test.YtppgalpldaibhaaGreatDoorDFa
import Derived.Test.YtppgalpldaibhaaGreatDoorDPB
import Derived.IntWalk
import Derived.Test.YtppgalpldaibhaaGreatDoorDVc
import Derived.Test.YtppgalpldaibhaaGreatDoorDSh
import Derived.Lib.HexFns
import Derived.Lib.ConvBytes
import Derived.Laws.IdiomStrings
import Derived.Deep.RegionHeld3
import Derived.Deep.AppendLies
import Derived.StillTactics
import Derived.OwnWalk
import Derived.Test.YtppgalpldaibhaaGreatDoorDYa
import Derived.WalkLawsBesides
namespace Go.Proofs.YtppgalpldaibhaaGreatDoor.Ab
open Go.RowKit
set_option linter.unusedVariables false
variable {T:Tab}
end Go.Proofs.YtppgalpldaibhaaGreatDoor.Ab
namespace Go.Proofs.YtppgalpldaibhaaGreatDoor
open Go.ChangeShapes Go.WideShapes Go.ChangeAt Go.RowKit
end Go.Proofs.YtppgalpldaibhaaGreatDoor
namespace Go.Proofs.YtppgalpldaibhaaGreatDoor.Ab
open Go.RowKit
set_option linter.unusedVariables false
section
variable {P:Program} {T:Tab} {f:FuncId}
end
end Go.Proofs.YtppgalpldaibhaaGreatDoor.Ab
namespace Go.Proofs.YtppgalpldaibhaaGreatDoor.Ab
open Go.RowKit
set_option linter.unusedVariables false
set_option linter.unusedSimpArgs false
set_option maxRecDepth 100000
set_option maxHeartbeats 1000000
end Go.Proofs.YtppgalpldaibhaaGreatDoor.Ab
namespace Go.Proofs.YtppgalpldaibhaaGreatDoor
open Go.ChangeShapes Go.WideShapes Go.ChangeAt Go.RowKit
theorem bytesW_below (w:World) (e:TypeId) (s:ByteArray):Below w.heap.size w (Lib.bytesWorld w e s) :=
  ⟨rfl,rfl,rfl,by rw [Lib.bytesWorld_size];omega,fun k hk=>Lib.bytesWorld_at_old w e s k hk⟩
end Go.Proofs.YtppgalpldaibhaaGreatDoor
namespace Go.Proofs.YtppgalpldaibhaaGreatDoor
set_option maxRecDepth 200000
open Go.ChangeShapes Go.WideShapes Go.ChangeAt Go.RowKit
end Go.Proofs.YtppgalpldaibhaaGreatDoor
namespace Go.Proofs.YtppgalpldaibhaaGreatDoor.Ab
open Go.RowKit
set_option linter.unusedVariables false
set_option linter.unusedSimpArgs false
set_option maxRecDepth 100000
theorem ok237:FOk Tryz.prog T 237 spRead:=by
  refine fok (env:=envL [(117,spItoa)]) (N:=63) tabT (envL_cons ok117 envL_nil) mixed Tryz.func237 rfl Tryz.call237 Tryz.ntmps237 ?_
  rintro args ⟨s,rfl⟩ hwf
  have hs:s.size≤maxLen:=hwf _ (List.mem_cons_self ..) _ (List.mem_singleton_self _)
  clear hwf
  refine ⟨by simp,?_⟩
  rw [Tryz.results237]
  repeat' first
    | (refine And.intro ?_ ?_)
    | (intro h;simp only [reduceCtorEq] at h;done)
    | (intro h;rw [h])
    | (intro h)
  all_goals first
    | (show lowEdges _=true;kernel_rfl)|(show logOk _ _=true;kernel_rfl)|exact True.intro|exact Or.inr rfl|exact Or.inl rfl
    | (with_reducible refine of_decide_eq_true (p:=(0:Int) < _) ?_;assumption)
    | (with_reducible refine of_decide_eq_true (p:=_ > (0:Int)) ?_;assumption)
    | (have hh:=head_is (s:=s) (by with_reducible assumption) (by with_reducible assumption)
       with_reducible first
         | exact resP (read_short (tl_is hh) (.inl (by with_reducible assumption)))
         | exact resP (read_short (tl_is hh) (.inr (by with_reducible assumption))))
    | (have hh:=head_isnt (s:=s) (by with_reducible assumption) (by with_reducible assumption)
       with_reducible first
         | exact resP (read_short (tl_isnt hh) (.inl (by with_reducible assumption)))
         | exact resP (read_short (tl_isnt hh) (.inr (by with_reducible assumption))))
    | (have hh:=head_none (s:=s) (by with_reducible assumption)
       with_reducible first
         | exact resP (read_short (tl_isnt hh) (.inl (by with_reducible assumption)))
         | exact resP (read_short (tl_isnt hh) (.inr (by with_reducible assumption))))
    | (exfalso;have h1:=of_decide_eq_false (show decide ((s.size:Int) > 0)=false by with_reducible assumption);have h2:=of_decide_eq_false (show decide ((s.size:Int) < 1)=false by with_reducible assumption);omega)
    | (have:=of_decide_eq_true (show decide ((s.size:Int) > 0)=true by with_reducible assumption);omega)
    | skip
  · have h45:=head_is (s:=s) (by with_reducible assumption) (by with_reducible assumption)
    have htl:=tl_is h45
    have ht12:(s.extract (Int.toNat 1) (s.size:Int).toNat).size≤12:=by have:=of_decide_eq_false (show decide (((s.extract (Int.toNat 1) (s.size:Int).toNat).size:Int) > 12)=false by with_reducible assumption);omega
    clear hs
    refine awp_loop (Q:=_) [0,1,6,7,8,9] [] (fun n st=>∃ N i:Nat,st=([sArg s,iArg 12,.val false [.b true],sArg (s.extract (Int.toNat 1) (s.size:Int).toNat),iArg (N:Int),iArg (i:Int)],[])∧RI (s.extract (Int.toNat 1) (s.size:Int).toNat) N i∧n=(s.extract (Int.toNat 1) (s.size:Int).toNat).size - i) ?_ ?_
    · exact ⟨rfl,(s.extract (Int.toNat 1) (s.size:Int).toNat).size,0,0,rfl,RI.zero _,rfl⟩
    rintro n st ⟨N,i,rfl,hI,rfl⟩
    repeat' first
      | (refine And.intro ?_ ?_)
      | (intro h;simp only [reduceCtorEq] at h;done)
      | (intro h;rw [h])
      | (intro h)
    all_goals first
      | (show lowEdges _=true;kernel_rfl)|(show logOk _ _=true;kernel_rfl)|exact True.intro|exact Or.inr rfl|exact Or.inl rfl
      | exact ⟨_,rfl⟩
      | with_reducible exact Int.natCast_nonneg _
      | (have hi' : decide ((i:Int) < ((s.extract (Int.toNat 1) (s.size:Int).toNat).size:Int))=true:=by with_reducible assumption
         have hi:i < (s.extract (Int.toNat 1) (s.size:Int).toNat).size:=by have:=of_decide_eq_true hi';omega
         first
           | with_reducible exact of_decide_eq_true hi'
           | (show Alive [] _;exact rfl)
           | (refine resP (read_less htl hi (.inl (by with_reducible assumption)) _ _))
           | (refine resP (read_less htl hi (.inr (by with_reducible assumption)) _ _))
           | (have hd:=dig_of (t:=(s.extract (Int.toNat 1) (s.size:Int).toNat)) (i:=i) (by with_reducible assumption) (by with_reducible assumption)
              refine ⟨(s.extract (Int.toNat 1) (s.size:Int).toNat).size - (i+1),by omega,N * 10+(((s.extract (Int.toNat 1) (s.size:Int).toNat).data.getD i 0).toNat - 48),i+1,?_,hI.next hi hd.1 hd.2,rfl⟩
              exact snapI (f:=fun x z=>(([sArg s,iArg 12,.val false [.b true],sArg (s.extract (Int.toNat 1) (s.size:Int).toNat),iArg x,iArg z],[]):Snap)) (hI.num hi ht12 hd.1 hd.2) (IntWalk.i64_in _ (by omega))))
      | (have hi' : decide ((i:Int) < ((s.extract (Int.toNat 1) (s.size:Int).toNat).size:Int))=false:=by with_reducible assumption
         have hi:¬ i < (s.extract (Int.toNat 1) (s.size:Int).toNat).size:=by have:=of_decide_eq_false hi';omega
         have hN:=hI.small ht12
         have hd:=read_same (n:=-(N:Int)) N hN (htl ▸ hI.all hi) (by rw [if_pos h45])
         have hn:IntKind.i64.wrap (0 - (N:Int)) = -(N:Int):=(IntWalk.i64_in _ (by omega)).trans (by omega)
         first
           | exact resP (read_endT hn hd (by with_reducible assumption))
           | exact resP (read_endF hn hd (by with_reducible assumption)))
      | skip
  · have h45:=head_isnt (s:=s) (by with_reducible assumption) (by with_reducible assumption)
    have htl:=tl_isnt h45
    have ht12:s.size≤12:=by have:=of_decide_eq_false (show decide ((s.size:Int) > 12)=false by with_reducible assumption);omega
    clear hs
    refine awp_loop (Q:=_) [0,1,6,7,8,9] [] (fun n st=>∃ N i:Nat,st=([sArg s,iArg 12,.val false [.b false],sArg s,iArg (N:Int),iArg (i:Int)],[])∧RI s N i∧n=s.size - i) ?_ ?_
    · exact ⟨rfl,s.size,0,0,rfl,RI.zero _,rfl⟩
    rintro n st ⟨N,i,rfl,hI,rfl⟩
    repeat' first
      | (refine And.intro ?_ ?_)
      | (intro h;simp only [reduceCtorEq] at h;done)
      | (intro h;rw [h])
      | (intro h)
    all_goals first
      | (show lowEdges _=true;kernel_rfl)|(show logOk _ _=true;kernel_rfl)|exact True.intro|exact Or.inr rfl|exact Or.inl rfl
      | exact ⟨_,rfl⟩
      | with_reducible exact Int.natCast_nonneg _
      | (have hi' : decide ((i:Int) < (s.size:Int))=true:=by with_reducible assumption
         have hi:i < s.size:=by have:=of_decide_eq_true hi';omega
         first
           | with_reducible exact of_decide_eq_true hi'
           | (show Alive [] _;exact rfl)
           | (refine resP (read_less htl hi (.inl (by with_reducible assumption)) _ _))
           | (refine resP (read_less htl hi (.inr (by with_reducible assumption)) _ _))
           | (have hd:=dig_of (t:=s) (i:=i) (by with_reducible assumption) (by with_reducible assumption)
              refine ⟨s.size - (i+1),by omega,N * 10+((s.data.getD i 0).toNat - 48),i+1,?_,hI.next hi hd.1 hd.2,rfl⟩
              exact snapI (f:=fun x z=>(([sArg s,iArg 12,.val false [.b false],sArg s,iArg x,iArg z],[]):Snap)) (hI.num hi ht12 hd.1 hd.2) (IntWalk.i64_in _ (by omega))))
      | (have hi' : decide ((i:Int) < (s.size:Int))=false:=by with_reducible assumption
         have hi:¬ i < s.size:=by have:=of_decide_eq_false hi';omega
         have hN:=hI.small ht12
         have hd:=read_same (n:=(N:Int)) N hN (htl ▸ hI.all hi) (by rw [if_neg h45])
         have hn:(N:Int)=(N:Int):=rfl
         first
           | exact resP (read_endT hn hd (by with_reducible assumption))
           | exact resP (read_endF hn hd (by with_reducible assumption)))
      | skip
end Go.Proofs.YtppgalpldaibhaaGreatDoor.Ab
