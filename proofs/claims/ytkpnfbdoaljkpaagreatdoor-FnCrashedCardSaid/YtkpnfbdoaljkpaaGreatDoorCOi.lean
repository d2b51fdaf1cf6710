/- Records read at a place by both, exactly: printed by a program of this -/
import Derived.Test.YtkpnfbdoaljkpaaGreatDoorCOg
namespace Go.Proofs.YtkpnfbdoaljkpaaGreatDoor.Ab
open Go.RowKit
set_option linter.all false
set_option maxRecDepth 100000
set_option maxHeartbeats 2000000
noncomputable abbrev qK:FSpec:=spTx T cO SmO (fun a=>recT (ba a))
theorem okR43:FOk Tryz.prog T 43 qK:=ok43 ba (fun a h=>jt h) ok67
theorem okR42:FOk Tryz.prog T 42 qK:=ok42 ba (fun a h=>jt h) ok71
section
variable {po:ByteArray→List D × Bool} {s t x y:ByteArray} {n:Nat} {k j:Int}
theorem zp (h:decide (k < 0)=true):recI po s k=(bV,0):=if_pos (.inl (jaT h))
theorem zo (h:decide (k ≥ (s.size:Int))=true):recI po s k=(bV,0):=if_pos (.inr (jaT h))
theorem tO (h:decide (k < 0)=false) (h2:decide (k ≥ (s.size:Int))=false):∃ n:Nat,k=n∧n < s.size:=by
 have:=ja4 h
 have:=ja4 h2
 exact ⟨k.toNat,by omega,by omega⟩
theorem wU (hn:n < s.size) (ht:t=s.extract n s.size):recI po s (n:Int)=gW po (cutL t) (cutF t) (Lib.lastIndexByte (cutL t) 32):=by
 unfold recI
 rw [if_neg (by omega),jbf,ht]
theorem xo {f:Bool} (h:(!f)=true):gW po x f j=(bV,0):=if_pos (.inl (cG h))
theorem xm {f:Bool} (h:decide (j < 0)=true):gW po x f j=(bV,0):=if_pos (.inr (jaT h))
theorem xl {f:Bool} (hy:y=x.extract 0 j.toNat) (h:(!(po y).2)=true):gW po x f j=(bV,0):=by
 unfold gW
 rw [← hy]
 split
 · rfl
 · rw [if_neg (fun c=>by rw [c.1] at h;cases h)]
theorem xj {f:Bool} (hy:y=x.extract 0 j.toNat) (h:(!(recT (ba (po y).1)).toList == (x++NL).toList)=true):gW po x f j=(bV,0):=by
 unfold gW
 rw [← hy]
 split
 · rfl
 · rw [if_neg (fun c=>by rw [c.2] at h;simp at h)]
theorem xh {f:Bool} (h1:(!f)=false) (h2:decide (j < 0)=false) (hy:y=x.extract 0 j.toNat) (h3:(!(po y).2)=false) (h:(!(recT (ba (po y).1)).toList == (x++NL).toList)=false):gW po x f j=((po y).1,((x.size+1:Nat):Int)):=by
 unfold gW
 rw [← hy]
 have a1:=bw h1
 have a2:=ja4 h2
 rw [if_neg (by rw [a1];simp;omega),if_pos ⟨bw h3,(aF _ _).mp (eq_of_beq (bw h))⟩]
end
theorem zz {t:ByteArray} (h:t.size≤1048576):spCut.pre [.val false [.s t],.val false [.s NL]]:=⟨t,h,rfl⟩
theorem wW {t:ByteArray} (h:t.size≤1048576):spLast.pre [.val false [.s t],.val false [.i .u8 32]]:=⟨t,h,rfl⟩
theorem prePo {cts:List CT} {po:ByteArray→List D × Bool} {t:ByteArray} (h:t.size≤1048576):(fV cts po).pre [.val false [.s t]]:=⟨t,h,rfl⟩
set_option maxHeartbeats 8000000 in
theorem xo35 (po:ByteArray→List D × Bool) (hw:PoOk po) (hpo:FOk Tryz.prog T 30 (fV cO po)):FOk Tryz.prog T 35 (spPR cO (recI po)):=by
 refine fok (env:=envL [(79,spCut),(80,spLast),(30,(fV cO po)),(42,qK)]) (N:=59) tabT (aa okCut (aa okLast (aa hpo (aa okR42 ae)))) mixed Tryz.func35 rfl Tryz.call35 Tryz.ntmps35 ?_
 rintro args ⟨s,k,hs,rfl⟩ hwf'
 clear hwf'
 refine ⟨by simp,?_⟩
 rw [Tryz.results35]
 repeat' first
  | (refine And.intro ?_ ?_)
  | (intro h;simp only [reduceCtorEq] at h;done)
  | (intro h;rw [h])
  | (intro h)
 all_goals first
  | (show ac _=true;kernel_rfl)|(show aj _ _=true;kernel_rfl)|exact True.intro|exact Or.inr rfl|exact Or.inl rfl
  | exact rfl
  | exact nA (p:=(bV,0)) (zp (by with_reducible assumption)) rfl rfl
  | exact nA (p:=(bV,0)) (zo (by with_reducible assumption)) rfl rfl
  | (obtain ⟨n, rfl, hn⟩:=tO (k:=k) (s:=s) (by with_reducible assumption) (by with_reducible assumption)
     first
      | with_reducible exact ja7 _
      | omega
      | (have hts : (s.extract (Int.toNat (n:Int)) (Int.toNat (s.size:Int))).size≤1048576:=by rw [jbi];omega
         generalize hT:s.extract (Int.toNat (n:Int)) (Int.toNat (s.size:Int))=t at *
         have hI:recI po s (n:Int)=gW po (cutL t) (cutF t) (Lib.lastIndexByte (cutL t) 32):=wU hn hT.symm
         have hcl:=mV t
         first
          | with_reducible exact zz hts
          | with_reducible exact wW (ja0 hcl hts)
          | exact nA (hI.trans (xo (by with_reducible assumption))) rfl rfl
          | exact nA (hI.trans (xm (by with_reducible assumption))) rfl rfl
          | (have hj:decide (Lib.lastIndexByte (cutL t) 32 < 0)=false:=by with_reducible assumption
             have hj2:=ja4 hj
             have hli:=rR (cutL t)
             first
              | omega
              | (show (cutL t).size+1≤maxLen;simp only [maxLen];omega)
              | (have hxs:((cutL t).extract (Int.toNat 0) (Int.toNat (Lib.lastIndexByte (cutL t) 32))).size≤1048576:=by rw [jbi];omega
                 generalize hX:(cutL t).extract (Int.toNat 0) (Int.toNat (Lib.lastIndexByte (cutL t) 32))=x at *
                 obtain ⟨wo,so⟩:=hw x hxs
                 have w7:csD (rowC cO (po x).1)=(po x).1:=aC wo
                 first
                  | with_reducible exact prePo hxs
                  | exact ⟨_,wo,so,rfl⟩
                  | exact nA (hI.trans (xl hX.symm (by with_reducible assumption))) rfl rfl
                  | (have hz:(!(recT (ba (po x).1)).toList == (cutL t++NL).toList)=true:=by rw [← w7];assumption
                     exact nA (hI.trans (xj hX.symm hz)) rfl rfl)
                  | (have hz:(!(recT (ba (po x).1)).toList == (cutL t++NL).toList)=false:=by rw [← w7];assumption
                     exact nA (hI.trans (xh (by with_reducible assumption) hj hX.symm (by with_reducible assumption) hz)) rfl (wrap1 (by omega)))))))
  | skip
end Go.Proofs.YtkpnfbdoaljkpaaGreatDoor.Ab
