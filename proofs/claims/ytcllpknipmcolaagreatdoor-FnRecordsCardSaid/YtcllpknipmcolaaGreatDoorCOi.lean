/- Records read at a place by both, exactly: printed by a program of this -/
import Derived.Test.YtcllpknipmcolaaGreatDoorCOg
namespace Go.Proofs.YtcllpknipmcolaaGreatDoor.Ab
open Go.RowKit
set_option linter.all false
set_option maxRecDepth 100000
set_option maxHeartbeats 2000000
noncomputable abbrev rM:FSpec:=spTx T cO SmO (fun a=>recT (aL a))
theorem okR7:FOk Tryz.prog T 7 rM:=ok7 aL (fun a h=>m9 h) ok19
theorem okR6:FOk Tryz.prog T 6 rM:=ok6 aL (fun a h=>m9 h) ok8
section
variable {po:ByteArray→List D × Bool} {s t x y:ByteArray} {n:Nat} {k j:Int}
theorem jaT (h:decide (k < 0)=true):recI po s k=(bS,0):=if_pos (.inl (jck h))
theorem jaS (h:decide (k ≥ (s.size:Int))=true):recI po s k=(bS,0):=if_pos (.inr (jck h))
theorem vi (h:decide (k < 0)=false) (h2:decide (k ≥ (s.size:Int))=false):∃ n:Nat,k=n∧n < s.size:=by
 have:=jcv h
 have:=jcv h2
 exact ⟨k.toNat,by omega,by omega⟩
theorem yr (hn:n < s.size) (ht:t=s.extract n s.size):recI po s (n:Int)=iq po (cutL t) (cutF t) (Lib.lastIndexByte (cutL t) 32):=by
 unfold recI
 rw [if_neg (by omega),jcG,ht]
theorem yR {f:Bool} (h:(!f)=true):iq po x f j=(bS,0):=if_pos (.inl (bm h))
theorem yQ {f:Bool} (h:decide (j < 0)=true):iq po x f j=(bS,0):=if_pos (.inr (jck h))
theorem yP {f:Bool} (hy:y=x.extract 0 j.toNat) (h:(!(po y).2)=true):iq po x f j=(bS,0):=by
 unfold iq
 rw [← hy]
 split
 · rfl
 · rw [if_neg (fun c=>by rw [c.1] at h;cases h)]
theorem yO {f:Bool} (hy:y=x.extract 0 j.toNat) (h:(!(recT (aL (po y).1)).toList == (x++NL).toList)=true):iq po x f j=(bS,0):=by
 unfold iq
 rw [← hy]
 split
 · rfl
 · rw [if_neg (fun c=>by rw [c.2] at h;simp at h)]
theorem yN {f:Bool} (h1:(!f)=false) (h2:decide (j < 0)=false) (hy:y=x.extract 0 j.toNat) (h3:(!(po y).2)=false) (h:(!(recT (aL (po y).1)).toList == (x++NL).toList)=false):iq po x f j=((po y).1,((x.size+1:Nat):Int)):=by
 unfold iq
 rw [← hy]
 have a1:=aI h1
 have a2:=jcv h2
 rw [if_neg (by rw [a1];simp;omega),if_pos ⟨aI h3,(aZ _ _).mp (eq_of_beq (aI h))⟩]
end
theorem jaY {t:ByteArray} (h:t.size≤1048576):spCut.pre [.val false [.s t],.val false [.s NL]]:=⟨t,h,rfl⟩
theorem yx {t:ByteArray} (h:t.size≤1048576):spLast.pre [.val false [.s t],.val false [.i .u8 32]]:=⟨t,h,rfl⟩
theorem prePo {cts:List CT} {po:ByteArray→List D × Bool} {t:ByteArray} (h:t.size≤1048576):(cZ cts po).pre [.val false [.s t]]:=⟨t,h,rfl⟩
set_option maxHeartbeats 8000000 in
theorem xo9 (po:ByteArray→List D × Bool) (hw:PoOk po) (hpo:FOk Tryz.prog T 12 (cZ cO po)):FOk Tryz.prog T 9 (spPR cO (recI po)):=by
 refine fok (env:=envL [(28,spCut),(29,spLast),(12,(cZ cO po)),(6,rM)]) (N:=59) tabT (aa okCut (aa okLast (aa hpo (aa okR6 ae)))) mixed Tryz.func9 rfl Tryz.call9 Tryz.ntmps9 ?_
 rintro args ⟨s,k,hs,rfl⟩ hwf'
 clear hwf'
 refine ⟨by simp,?_⟩
 rw [Tryz.results9]
 repeat' first
  | (refine And.intro ?_ ?_)
  | (intro h;simp only [reduceCtorEq] at h;done)
  | (intro h;rw [h])
  | (intro h)
 all_goals first
  | (show av _=true;kernel_rfl)|(show aX _ _=true;kernel_rfl)|exact True.intro|exact Or.inr rfl|exact Or.inl rfl
  | exact rfl
  | exact om (p:=(bS,0)) (jaT (by with_reducible assumption)) rfl rfl
  | exact om (p:=(bS,0)) (jaS (by with_reducible assumption)) rfl rfl
  | (obtain ⟨n, rfl, hn⟩:=vi (k:=k) (s:=s) (by with_reducible assumption) (by with_reducible assumption)
     first
      | with_reducible exact jcy _
      | omega
      | (have hts : (s.extract (Int.toNat (n:Int)) (Int.toNat (s.size:Int))).size≤1048576:=by rw [jcJ];omega
         generalize hT:s.extract (Int.toNat (n:Int)) (Int.toNat (s.size:Int))=t at *
         have hI:recI po s (n:Int)=iq po (cutL t) (cutF t) (Lib.lastIndexByte (cutL t) 32):=yr hn hT.symm
         have hcl:=nJ t
         first
          | with_reducible exact jaY hts
          | with_reducible exact yx (jcr hcl hts)
          | exact om (hI.trans (yR (by with_reducible assumption))) rfl rfl
          | exact om (hI.trans (yQ (by with_reducible assumption))) rfl rfl
          | (have hj:decide (Lib.lastIndexByte (cutL t) 32 < 0)=false:=by with_reducible assumption
             have hj2:=jcv hj
             have hli:=tm (cutL t)
             first
              | omega
              | (show (cutL t).size+1≤maxLen;simp only [maxLen];omega)
              | (have hxs:((cutL t).extract (Int.toNat 0) (Int.toNat (Lib.lastIndexByte (cutL t) 32))).size≤1048576:=by rw [jcJ];omega
                 generalize hX:(cutL t).extract (Int.toNat 0) (Int.toNat (Lib.lastIndexByte (cutL t) 32))=x at *
                 obtain ⟨wo,so⟩:=hw x hxs
                 have w7:csD (rowC cO (po x).1)=(po x).1:=aw wo
                 first
                  | with_reducible exact prePo hxs
                  | exact ⟨_,wo,so,rfl⟩
                  | exact om (hI.trans (yP hX.symm (by with_reducible assumption))) rfl rfl
                  | (have hz:(!(recT (aL (po x).1)).toList == (cutL t++NL).toList)=true:=by rw [← w7];assumption
                     exact om (hI.trans (yO hX.symm hz)) rfl rfl)
                  | (have hz:(!(recT (aL (po x).1)).toList == (cutL t++NL).toList)=false:=by rw [← w7];assumption
                     exact om (hI.trans (yN (by with_reducible assumption) hj hX.symm (by with_reducible assumption) hz)) rfl (wrap1 (by omega)))))))
  | skip
end Go.Proofs.YtcllpknipmcolaaGreatDoor.Ab
namespace Go.Proofs.YtcllpknipmcolaaGreatDoor.Ab
open Go.RowKit
set_option linter.all false
set_option maxRecDepth 100000
set_option maxHeartbeats 2000000
theorem cL (r:List (List D)):inK .i64 (gJ r).1:=jaW _
theorem jb (rows:List (List D)) (i:Nat):(ig rows i).length=i∧∀ r ∈ ig rows i,WfRow T [.i .i64] r:=by
 unfold ig
 refine ⟨by simp,fun r hr=>?_⟩
 obtain ⟨j,_,rfl⟩:=jc2.1 hr
 exact .cons (.int _ _ (cL _)) .nil
theorem jbf {rows:List (List D)} (hs:SmW rows) {rd:List (List D)} (hr:rd.length≤1048576) (hrd:∀ r ∈ rd,RdOk r):WfRow T cO (opI rows rd)∧SmO (opI rows rd) :=
 xJ (cL _) (cL _) (cL _) (by rw [(jb rows 3).1];exact jcA _) (jb rows 3).2 (cL _) (cL _) (cL _) (cL _) (cL _) (dq (hs.dr _)) (dq (hs.dr _)) (cL _) (dq (hs.dr _)) (dq (hs.dr _)) (cL _) (cL _) hr hrd
theorem sg {r:List (List D)} (hs:SmW r) {pv:ByteArray→List D × Bool} (hw:∀ t,t.size≤1048576→WfRow T cV (pv t).1∧wRow (pv t).1≤2097152):RdOk (rowI pv r) :=
 jaV (cL _) (cL _) (cL _) (dq (hs.dr _)) (hw _ (dq (hs.dr _))).1 (hw _ (dq (hs.dr _))).2
set_option maxHeartbeats 8000000 in
theorem xo12 (pv:ByteArray→List D × Bool) (hw:∀ t,t.size≤1048576→WfRow T cV (pv t).1∧wRow (pv t).1≤2097152) (hpv:FOk Tryz.prog T 39 (cZ cV pv)):FOk Tryz.prog T 12 (cZ cO (poI pv)):=by
 refine fok (env:=envL [(36,(fS false)),(37,wF),(38,wy),(39,(cZ cV pv)),(8,(rQ T cO))]) (N:=145) tabT (aa ok36 (aa ok37 (aa ok38 (aa hpv (aa ok8 ae))))) mixed Tryz.func12 rfl Tryz.call12 Tryz.ntmps12 ?_
 rintro args ⟨s,hs,rfl⟩ hwf'
 clear hwf'
 have sm:=smW s hs
 have hlen:=lM s hs
 refine ⟨by simp,?_⟩
 rw [Tryz.results12]
 repeat' first
  | (refine And.intro ?_ ?_)
  | (intro h;simp only [reduceCtorEq] at h;done)
  | (intro h;rw [h])
  | (intro h)
 all_goals first
  | (show av _=true;kernel_rfl)|(show aX _ _=true;kernel_rfl)|exact True.intro|exact Or.inr rfl|exact Or.inl rfl
  | exact rfl
  | exact ⟨_,hs,rfl⟩
  | exact ⟨_,_,sm,rfl⟩
  | exact ⟨_,_,sm.dr 1,rfl⟩
  | exact ⟨_,_,sm.dr 2,rfl⟩
  | skip
 refine am (Q:=_) [0,2,4,5,6] [2,13,5] (fun m st=>∃ i:Nat,st=([sArg s,.ptr 2 1 0,.ptr 13 1 0,.ptr 5 1 0,iArg (i:Int)],[(1,[.val false [.i .i64 0],.val false [.i .i64 0],.val false [.i .i64 0],.val false [.sl true 3 []],.val false [.i .i64 0],.val false [.i .i64 0],.val false [.i .i64 0],.val false [.i .i64 0],.val false [.i .i64 0],.val false [.s ByteArray.empty],.val false [.s ByteArray.empty],.val false [.i .i64 0],.val false [.s ByteArray.empty],.val false [.s ByteArray.empty],.val false [.i .i64 0],.val false [.i .i64 0],.val false [.sl true 59 []]]),(1,[.val false [.sl false 9 (dr (3+i) (ac (ah s)))],.val false [.b (okN (ac (ah s)) (3+i))]]),(1,[.val false [.i .i64 (numi (ac (ah s)) 0)],.val false [.i .i64 (numi (ac (ah s)) 1)],.val false [.i .i64 (numi (ac (ah s)) 2)],.val false [.sl true 3 (ig (ac (ah s)) i)],.val false [.i .i64 0],.val false [.i .i64 0],.val false [.i .i64 0],.val false [.i .i64 0],.val false [.i .i64 0],.val false [.s ByteArray.empty],.val false [.s ByteArray.empty],.val false [.i .i64 0],.val false [.s ByteArray.empty],.val false [.s ByteArray.empty],.val false [.i .i64 0],.val false [.i .i64 0],.val false [.sl true 59 []]])])∧i≤3∧m=3 - i) ?_ ?_
 · exact ⟨rfl,3,0,rfl,by decide,rfl⟩
 rintro m st ⟨i,rfl,hi,rfl⟩
 repeat' first
  | (refine And.intro ?_ ?_)
  | (intro h;simp only [reduceCtorEq] at h;done)
  | (intro h;rw [h])
  | (intro h)
 all_goals first
  | (show av _=true;kernel_rfl)|(show aX _ _=true;kernel_rfl)|exact True.intro|exact Or.inr rfl|exact Or.inl rfl
  | exact rfl
  | (have h3:i < 3:=by have:=jck (show decide ((i:Int) < 3)=true by assumption);omega
     first
      | exact ⟨_,_,sm.dr (3+i),rfl⟩
      | exact cL _
      | (show (ig (ac (ah s)) i).length+1≤maxLen;rw [(jb (ac (ah s)) i).1];simp only [maxLen];omega)
      | (show ((ig (ac (ah s)) i).length+1) * 8≤_;rw [(jb (ac (ah s)) i).1];omega)
      | (show aV _ _;exact rfl)
      | (refine ⟨3 - (i+1),by omega,i+1,?_,by omega,rfl⟩
         exact jaH (f:=fun r q b z=>(([sArg s,.ptr 2 1 0,.ptr 13 1 0,.ptr 5 1 0,iArg z],[(1,[.val false [.i .i64 0],.val false [.i .i64 0],.val false [.i .i64 0],.val false [.sl true 3 []],.val false [.i .i64 0],.val false [.i .i64 0],.val false [.i .i64 0],.val false [.i .i64 0],.val false [.i .i64 0],.val false [.s ByteArray.empty],.val false [.s ByteArray.empty],.val false [.i .i64 0],.val false [.s ByteArray.empty],.val false [.s ByteArray.empty],.val false [.i .i64 0],.val false [.i .i64 0],.val false [.sl true 59 []]]),(1,[.val false [.sl false 9 q],.val false [.b b]]),(1,[.val false [.i .i64 (numi (ac (ah s)) 0)],.val false [.i .i64 (numi (ac (ah s)) 1)],.val false [.i .i64 (numi (ac (ah s)) 2)],.val false [.sl true 3 r],.val false [.i .i64 0],.val false [.i .i64 0],.val false [.i .i64 0],.val false [.i .i64 0],.val false [.i .i64 0],.val false [.s ByteArray.empty],.val false [.s ByteArray.empty],.val false [.i .i64 0],.val false [.s ByteArray.empty],.val false [.s ByteArray.empty],.val false [.i .i64 0],.val false [.i .i64 0],.val false [.sl true 59 []]])]):Snap)) (qu (ac (ah s)) i) rfl (okN_num (r:=(ac (ah s))) (j:=3+i) (by omega)).symm (wrapN h3 (by decide))))
  | (refine ⟨_,_,?_,rfl⟩;exact sm.dr _)
  | exact ⟨_,_,(sm.dr (3+i)).dr 0,rfl⟩
  | exact ⟨_,_,(sm.dr (3+i)).dr 1,rfl⟩
  | exact ⟨_,_,(sm.dr (3+i)).dr 2,rfl⟩
  | exact ⟨_,_,(sm.dr (3+i)).dr 3,rfl⟩
  | exact ⟨_,_,(sm.dr (3+i)).dr 4,rfl⟩
  | exact ⟨_,_,(sm.dr (3+i)).dr 5,rfl⟩
  | exact ⟨_,_,(sm.dr (3+i)).dr 6,rfl⟩
  | exact ⟨_,_,(sm.dr (3+i)).dr 7,rfl⟩
  | exact ⟨_,_,(sm.dr (3+i)).dr 8,rfl⟩
  | exact ⟨_,_,(sm.dr (3+i)).dr 9,rfl⟩
  | exact ⟨_,_,(sm.dr (3+i)).dr 10,rfl⟩
  | exact ⟨_,_,(sm.dr (3+i)).dr 11,rfl⟩
  | exact ⟨_,_,(sm.dr (3+i)).dr 12,rfl⟩
  | skip
 obtain rfl:i=3:=by have:=jcv (show decide ((i:Int) < 3)=false by assumption);omega
 refine am (Q:=_) [0,2,4,5,7,8] [2,13,5] (fun m st=>∃ (i:Nat) (o r:List (List D)) (b:Bool),st=([sArg s,.ptr 2 1 0,.ptr 13 1 0,.ptr 5 1 0,iArg (numi (ac (ah s)) 18),iArg (i:Int)],[(1,[.val false [.i .i64 0],.val false [.i .i64 0],.val false [.i .i64 0],.val false [.sl true 3 []],.val false [.i .i64 0],.val false [.i .i64 0],.val false [.i .i64 0],.val false [.i .i64 0],.val false [.i .i64 0],.val false [.s ByteArray.empty],.val false [.s ByteArray.empty],.val false [.i .i64 0],.val false [.s ByteArray.empty],.val false [.s ByteArray.empty],.val false [.i .i64 0],.val false [.i .i64 0],.val false [.sl true 59 []]]),(1,[.val false [.sl false 9 r],.val false [.b b]]),(1,[.val false [.i .i64 (numi (ac (ah s)) 0)],.val false [.i .i64 (numi (ac (ah s)) 1)],.val false [.i .i64 (numi (ac (ah s)) 2)],.val false [.sl true 3 (ig (ac (ah s)) 3)],.val false [.i .i64 (numi (ac (ah s)) 6)],.val false [.i .i64 (numi (ac (ah s)) 7)],.val false [.i .i64 (numi (ac (ah s)) 8)],.val false [.i .i64 (numi (ac (ah s)) 9)],.val false [.i .i64 (numi (ac (ah s)) 10)],.val false [.s (txti (ac (ah s)) 12)],.val false [.s (txti (ac (ah s)) 13)],.val false [.i .i64 (numi (ac (ah s)) 11)],.val false [.s (txti (ac (ah s)) 14)],.val false [.s (txti (ac (ah s)) 15)],.val false [.i .i64 (numi (ac (ah s)) 16)],.val false [.i .i64 (numi (ac (ah s)) 17)],.val false [.sl true 59 o]])])∧o.length=i∧5 * i≤(ac (ah s)).length+5∧SmW r∧r.length≤(ac (ah s)).length∧(b=true→r.length+5 * i≤(ac (ah s)).length)∧(∀ r ∈ o,RdOk r)∧rdsI pv (numi (ac (ah s)) 18) m i r b o=rdsI pv (numi (ac (ah s)) 18) ((ac (ah s)).length+2) 0 (dr 19 (ac (ah s))) (okN (ac (ah s)) 19) []∧1≤m∧(b=true→r.length+2≤m)) ?_ ?_
 · refine ⟨rfl,(ac (ah s)).length+2,0,[],dr 19 (ac (ah s)),okN (ac (ah s)) 19,rfl,rfl,jcl _,sm.dr 19,by rw [iO];omega,fun _=>by rw [iO];omega,fun r h=>absurd h (jco),rfl,by omega,fun _=>by rw [iO];omega⟩
 rintro m st ⟨i,o,r,b,rfl,hol,hi,sr,hrl,hb,ho,hE,hm1,hm2⟩
 generalize hRW:(ac (ah s))=rw_ at *
 have ow:=jbf sm (rd:=o) (by omega) ho
 have w7o:=aw ow.1
 repeat' first
  | (refine And.intro ?_ ?_)
  | (intro h;simp only [reduceCtorEq] at h;done)
  | (intro h;rw [h])
  | (intro h)
 all_goals first
  | (show av _=true;kernel_rfl)|(show aX _ _=true;kernel_rfl)|exact True.intro|exact Or.inr rfl|exact Or.inl rfl
  | exact rfl
  | exact ⟨_,_,sr,rfl⟩
  | exact ⟨_,_,sr.dr 1,rfl⟩
  | exact ⟨_,_,sr.dr 2,rfl⟩
  | exact ⟨_,_,sr.dr 3,rfl⟩
  | exact ⟨_,_,sr.dr 4,rfl⟩
  | exact ⟨_,dq (sr.dr 4),rfl⟩
  | exact ⟨_,ow.1,ow.2,rfl⟩
  | exact absurd (show (!false)=false by with_reducible assumption) (by decide)
  | exact absurd (show (!true)=true by with_reducible assumption) (by decide)
  | (have g1:(i:Int) < numi rw_ 18:=jck (by assumption)
     have gb:b=true:=by assumption
     subst gb
     have hb:=hb rfl
     have hm2:=hm2 rfl
     have hrow:csD (rowC cRd (rowI pv r))=rowI pv r:=aw (sg sr hw).1
     first
      | (show o.length+1≤maxLen;simp only [maxLen];omega)
      | (show (o.length+1) * 152≤_;omega)
      | (show aV _ _;exact rfl)
      | (obtain ⟨m,rfl⟩:∃ m',m=m' + 1:=⟨m - 1,by omega⟩
         refine ⟨m,jdk _,i+1,o++[rowI pv r],dr 5 r,ok5 r true,?_,by rw [jcm,hol];rfl,by omega,sr.dr 5,by rw [iO];omega,?_,?_,?_,by omega,?_⟩
         · exact jaH (f:=fun x q b z=>(([sArg s,.ptr 2 1 0,.ptr 13 1 0,.ptr 5 1 0,iArg (numi rw_ 18),iArg z],[(1,[.val false [.i .i64 0],.val false [.i .i64 0],.val false [.i .i64 0],.val false [.sl true 3 []],.val false [.i .i64 0],.val false [.i .i64 0],.val false [.i .i64 0],.val false [.i .i64 0],.val false [.i .i64 0],.val false [.s ByteArray.empty],.val false [.s ByteArray.empty],.val false [.i .i64 0],.val false [.s ByteArray.empty],.val false [.s ByteArray.empty],.val false [.i .i64 0],.val false [.i .i64 0],.val false [.sl true 59 []]]),(1,[.val false [.sl false 9 q],.val false [.b b]]),(1,[.val false [.i .i64 (numi rw_ 0)],.val false [.i .i64 (numi rw_ 1)],.val false [.i .i64 (numi rw_ 2)],.val false [.sl true 3 (ig rw_ 3)],.val false [.i .i64 (numi rw_ 6)],.val false [.i .i64 (numi rw_ 7)],.val false [.i .i64 (numi rw_ 8)],.val false [.i .i64 (numi rw_ 9)],.val false [.i .i64 (numi rw_ 10)],.val false [.s (txti rw_ 12)],.val false [.s (txti rw_ 13)],.val false [.i .i64 (numi rw_ 11)],.val false [.s (txti rw_ 14)],.val false [.s (txti rw_ 15)],.val false [.i .i64 (numi rw_ 16)],.val false [.i .i64 (numi rw_ 17)],.val false [.sl true 59 x]])]):Snap)) (congrArg (fun r=>o++[r]) hrow) rfl rfl (wrapN (n:=rw_.length+1) (by omega) (by simp only [maxLen];omega))
         · intro h5
           have:=(ok5_T h5).1
           rw [iO];omega
         · intro x hx
           rcases jcU.1 hx with h|h
           · exact ho x h
           · rw [jdb.1 h];exact sg sr hw
         · rw [← hE,sG g1]
         · intro h5
           have:=(ok5_T h5).1
           rw [iO];omega))
  | (have hT:rdsI pv (numi rw_ 18) (rw_.length+2) 0 (dr 19 rw_) (okN rw_ 19) []=(r,b,o):=by
      refine hE.symm.trans (mY ?_)
      rintro ⟨a1,a2⟩
      first
       | exact absurd a1 (jcv (by assumption))
       | exact absurd (a2.symm.trans (by assumption:b=false)) Bool.noConfusion
     have hP:poI pv s=poOf (opI rw_ o) (b && (r.length == 0)) s:=by rw [ja3 hRW,hT]
     first
      | (have hbF:b=false:=by first|assumption|exact bm (by assumption)
         exact fu (hP.trans (sT (by rw [hbF];rfl))) rfl rfl)
      | (have hbT:b=true:=by first|assumption|exact aI (by assumption)
         first
          | (have hq:decide ((r.length:Int) > 0)=true:=by assumption
             have hq2:(r.length == 0)=false:=by have:=jck hq;rw [beq_eq_false_iff_ne];omega
             exact fu (hP.trans (sT (by rw [hq2];simp))) rfl rfl)
          | (have hq:decide ((r.length:Int) > 0)=false:=by assumption
             have hq2:(r.length == 0)=true:=by have:=jcv hq;rw [beq_iff_eq];omega
             first
              | (have hz:(!(aL (opI rw_ o)).toList == s.toList)=true:=by rw [← w7o];assumption
                 exact fu (hP.trans (wV hz)) rfl rfl)
              | (have hz:(!(aL (opI rw_ o)).toList == s.toList)=false:=by rw [← w7o];assumption
                 exact fu (hP.trans (wT (by rw [hbT,hq2];rfl) hz)) rfl rfl))))
  | skip
noncomputable def pvX:ByteArray→List D × Bool:=pvS 1048577
theorem yw (t:ByteArray) (ht:t.size≤1048576):WfRow T cV (pvX t).1∧wRow (pvX t).1≤2097152:=by
 have h0:=kH ht 1048577 0 (jc5 _) (jcy _)
 have h1:=dj t 1048577 0 (jc5 _) (jcy _)
 unfold pvX pvS pvOf
 split
 · refine ⟨h0,?_⟩
   show wRow (parF t 1048577 0).1≤2097152
   unfold Pos at h1
   omega
 · refine ⟨?_,by decide⟩
   have z:inK .i64 0:=k0 0 (by decide) (by decide)
   have h2:=kH ht 0 0 (jc5 _) (jcy _)
   exact h2
theorem pvX_s:FOk Tryz.prog T 43 (cZ cV pvX):=FOk.pv2 (n:=1048577) (jcA _) (xk43 1048577)
theorem pvX_i:FOk Tryz.prog T 39 (cZ cV pvX):=by
 have h:FOk Tryz.prog T 39 (cZ cV pvI):=FOk.pv2 (n:=1048577) (jcA _) (xk39 1048577)
 exact FOk.po_same (fun s _=>(yv (n:=1048577) (by decide) s).symm) h
noncomputable def poX:ByteArray→List D × Bool:=poS pvX
theorem pL:PoOk poX:=ja0 yw
theorem poX_s:FOk Tryz.prog T 13 (cZ cO poX):=xo13 pvX yw pvX_s
theorem poX_i:FOk Tryz.prog T 12 (cZ cO poX) :=
 FOk.po_same (po' := poI pvX) (fun s hs=>(po_same (wQ 1048577) hs).symm) (xo12 pvX yw pvX_i)
noncomputable def rcX:ByteArray→Int→List D × Int:=recS poX
theorem wP:RcOk rcX:=yp pL
theorem rcX_i:FOk Tryz.prog T 9 (spPR cO rcX) :=
 FOk.rc_same (rc' := recI poX) (fun s k _=>(vg poX s k).symm) (xo9 poX pL poX_i)
end Go.Proofs.YtcllpknipmcolaaGreatDoor.Ab
