/- The program's record at a place, exactly: printed by a program of this claim. -/
import Derived.Test.YtppgalpldaibhaaGreatDoorCOh
namespace Go.Proofs.YtppgalpldaibhaaGreatDoor.Ab
open Go.RowKit
set_option linter.unusedVariables false
set_option linter.unusedSimpArgs false
set_option maxRecDepth 100000
set_option maxHeartbeats 2000000
section
variable {po:ByteArray→List D × Bool} {s t x y:ByteArray} {n:Nat} {k j:Int}
theorem recI_1 (h:decide (k < 0)=true):recI po s k=(zeroOp,0):=if_pos (.inl (of_decide_eq_true h))
theorem recI_2 (h:decide (k ≥ (s.size:Int))=true):recI po s k=(zeroOp,0):=if_pos (.inr (of_decide_eq_true h))
theorem recI_nat (h:decide (k < 0)=false) (h2:decide (k ≥ (s.size:Int))=false):∃ n:Nat,k=n∧n < s.size:=by
  have:=of_decide_eq_false h
  have:=of_decide_eq_false h2
  exact ⟨k.toNat,by omega,by omega⟩
theorem recI_in (hn:n < s.size) (ht:t=s.extract n s.size):recI po s (n:Int)=lineI po (cutL t) (cutF t) (Lib.lastIndexByte (cutL t) 32):=by
  unfold recI
  rw [if_neg (by omega),Int.toNat_natCast,ht]
theorem lineI_1 {f:Bool} (h:(!f)=true):lineI po x f j=(zeroOp,0):=if_pos (.inl (of_notT h))
theorem lineI_2 {f:Bool} (h:decide (j < 0)=true):lineI po x f j=(zeroOp,0):=if_pos (.inr (of_decide_eq_true h))
theorem lineI_3 {f:Bool} (hy:y=x.extract 0 j.toNat) (h:(!(po y).2)=true):lineI po x f j=(zeroOp,0):=by
  unfold lineI
  rw [← hy]
  split
  · rfl
  · rw [if_neg (fun c=>by rw [c.1] at h;cases h)]
theorem lineI_4 {f:Bool} (hy:y=x.extract 0 j.toNat) (h:(!(recT (opText (po y).1)).toList == (x++NL).toList)=true):lineI po x f j=(zeroOp,0):=by
  unfold lineI
  rw [← hy]
  split
  · rfl
  · rw [if_neg (fun c=>by rw [c.2] at h;simp at h)]
theorem lineI_5 {f:Bool} (h1:(!f)=false) (h2:decide (j < 0)=false) (hy:y=x.extract 0 j.toNat) (h3:(!(po y).2)=false) (h:(!(recT (opText (po y).1)).toList == (x++NL).toList)=false):lineI po x f j=((po y).1,((x.size+1:Nat):Int)):=by
  unfold lineI
  rw [← hy]
  have a1:=of_notF h1
  have a2:=of_decide_eq_false h2
  rw [if_neg (by rw [a1];simp;omega),if_pos ⟨of_notF h3,(str_inj _ _).mp (eq_of_beq (of_notF h))⟩]
end
theorem preCut {t:ByteArray} (h:t.size≤1048576):spCut.pre [.val false [.s t],.val false [.s NL]]:=⟨t,h,rfl⟩
theorem preLast {t:ByteArray} (h:t.size≤1048576):spLast.pre [.val false [.s t],.val false [.i .u8 32]]:=⟨t,h,rfl⟩
theorem prePo {cts:List CT} {po:ByteArray→List D × Bool} {t:ByteArray} (h:t.size≤1048576):(spPV2 cts po).pre [.val false [.s t]]:=⟨t,h,rfl⟩
set_option maxHeartbeats 8000000 in
theorem xo38 (po:ByteArray→List D × Bool) (hw:PoOk po) (hpo:FOk Tryz.prog T 33 (spPV2 cO po)):FOk Tryz.prog T 38 (spPR cO (recI po)):=by
  refine fok (env:=envL [(112,spCut),(113,spLast),(33,(spPV2 cO po)),(45,spRecT)]) (N:=59) tabT (envL_cons okCut (envL_cons okLast (envL_cons hpo (envL_cons okR45 envL_nil)))) mixed Tryz.func38 rfl Tryz.call38 Tryz.ntmps38 ?_
  rintro args ⟨s,k,hs,rfl⟩ hwf'
  clear hwf'
  refine ⟨by simp,?_⟩
  rw [Tryz.results38]
  repeat' first
    | (refine And.intro ?_ ?_)
    | (intro h;simp only [reduceCtorEq] at h;done)
    | (intro h;rw [h])
    | (intro h)
  all_goals first
    | (show lowEdges _=true;kernel_rfl)|(show logOk _ _=true;kernel_rfl)|exact True.intro|exact Or.inr rfl|exact Or.inl rfl
    | exact rfl
    | exact resVP (p:=(zeroOp,0)) (recI_1 (by with_reducible assumption)) rfl rfl
    | exact resVP (p:=(zeroOp,0)) (recI_2 (by with_reducible assumption)) rfl rfl
    | (obtain ⟨n, rfl, hn⟩:=recI_nat (k:=k) (s:=s) (by with_reducible assumption) (by with_reducible assumption)
       first
         | with_reducible exact Int.natCast_nonneg _
         | omega
         | (have hts : (s.extract (Int.toNat (n:Int)) (Int.toNat (s.size:Int))).size≤1048576:=by rw [ByteArray.size_extract];omega
            generalize hT:s.extract (Int.toNat (n:Int)) (Int.toNat (s.size:Int))=t at *
            have hI:recI po s (n:Int)=lineI po (cutL t) (cutF t) (Lib.lastIndexByte (cutL t) 32):=recI_in hn hT.symm
            have hcl:=cutL_size t
            first
              | with_reducible exact preCut hts
              | with_reducible exact preLast (Nat.le_trans hcl hts)
              | exact resVP (hI.trans (lineI_1 (by with_reducible assumption))) rfl rfl
              | exact resVP (hI.trans (lineI_2 (by with_reducible assumption))) rfl rfl
              | (have hj:decide (Lib.lastIndexByte (cutL t) 32 < 0)=false:=by with_reducible assumption
                 have hj2:=of_decide_eq_false hj
                 have hli:=last_in (cutL t)
                 first
                   | omega
                   | (show (cutL t).size+1≤maxLen;simp only [maxLen];omega)
                   | (have hxs:((cutL t).extract (Int.toNat 0) (Int.toNat (Lib.lastIndexByte (cutL t) 32))).size≤1048576:=by rw [ByteArray.size_extract];omega
                      generalize hX:(cutL t).extract (Int.toNat 0) (Int.toNat (Lib.lastIndexByte (cutL t) 32))=x at *
                      obtain ⟨wo,so⟩:=hw x hxs
                      have w7:csD (rowC cO (po x).1)=(po x).1:=csD_rowC wo
                      first
                        | with_reducible exact prePo hxs
                        | exact ⟨_,wo,so,rfl⟩
                        | exact resVP (hI.trans (lineI_3 hX.symm (by with_reducible assumption))) rfl rfl
                        | (have hz:(!(recT (opText (po x).1)).toList == (cutL t++NL).toList)=true:=by rw [← w7];assumption
                           exact resVP (hI.trans (lineI_4 hX.symm hz)) rfl rfl)
                        | (have hz:(!(recT (opText (po x).1)).toList == (cutL t++NL).toList)=false:=by rw [← w7];assumption
                           exact resVP (hI.trans (lineI_5 (by with_reducible assumption) hj hX.symm (by with_reducible assumption) hz)) rfl (wrap1 (by omega)))))))
    | skip
end Go.Proofs.YtppgalpldaibhaaGreatDoor.Ab
