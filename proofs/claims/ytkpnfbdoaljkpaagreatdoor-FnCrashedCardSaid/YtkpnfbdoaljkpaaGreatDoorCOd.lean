/- The program's ParseOp, exactly: printed by a program of this -/
import Derived.Test.YtkpnfbdoaljkpaaGreatDoorCOg
namespace Go.Proofs.YtkpnfbdoaljkpaaGreatDoor.Ab
open Go.RowKit
set_option linter.all false
set_option maxRecDepth 100000
set_option maxHeartbeats 2000000
theorem cI (r:List (List D)):inK .i64 (gj r).1:=zx _
theorem iF (rows:List (List D)) (i:Nat):(gQ rows i).length=i∧∀ r ∈ gQ rows i,WfRow T [.i .i64] r:=by
 unfold gQ
 refine ⟨by simp,fun r hr=>?_⟩
 obtain ⟨j,_,rfl⟩:=jbB.1 hr
 exact .cons (.int _ _ (cI _)) .nil
theorem zM {rows:List (List D)} (hs:SmW rows) {rd:List (List D)} (hr:rd.length≤1048576) (hrd:∀ r ∈ rd,RdOk r):WfRow T cO (opI rows rd)∧SmO (opI rows rd) :=
 vN (cI _) (cI _) (cI _) (by rw [(iF rows 3).1];exact ja9 _) (iF rows 3).2 (cI _) (cI _) (cI _) (cI _) (cI _) (dn (hs.dr _)) (dn (hs.dr _)) (cI _) (dn (hs.dr _)) (dn (hs.dr _)) (cI _) (cI _) hr hrd
theorem qY {r:List (List D)} (hs:SmW r) {pv:ByteArray→List D × Bool} (hw:∀ t,t.size≤1048576→WfRow T cV (pv t).1∧wRow (pv t).1≤2097152):RdOk (rowI pv r) :=
 zt (cI _) (cI _) (cI _) (dn (hs.dr _)) (hw _ (dn (hs.dr _))).1 (hw _ (dn (hs.dr _))).2
set_option maxHeartbeats 8000000 in
theorem xo30 (pv:ByteArray→List D × Bool) (hw:∀ t,t.size≤1048576→WfRow T cV (pv t).1∧wRow (pv t).1≤2097152) (hpv:FOk Tryz.prog T 25 (fV cV pv)):FOk Tryz.prog T 30 (fV cO (poI pv)):=by
 refine fok (env:=envL [(68,(jf false)),(69,uR),(70,uP),(25,(fV cV pv)),(71,(wn T cO))]) (N:=145) tabT (aa ok68 (aa ok69 (aa ok70 (aa hpv (aa ok71 ae))))) mixed Tryz.func30 rfl Tryz.call30 Tryz.ntmps30 ?_
 rintro args ⟨s,hs,rfl⟩ hwf'
 clear hwf'
 have sm:=smW s hs
 have hlen:=nx s hs
 refine ⟨by simp,?_⟩
 rw [Tryz.results30]
 repeat' first
  | (refine And.intro ?_ ?_)
  | (intro h;simp only [reduceCtorEq] at h;done)
  | (intro h;rw [h])
  | (intro h)
 all_goals first
  | (show ac _=true;kernel_rfl)|(show aj _ _=true;kernel_rfl)|exact True.intro|exact Or.inr rfl|exact Or.inl rfl
  | exact rfl
  | exact ⟨_,hs,rfl⟩
  | exact ⟨_,_,sm,rfl⟩
  | exact ⟨_,_,sm.dr 1,rfl⟩
  | exact ⟨_,_,sm.dr 2,rfl⟩
  | skip
 refine ar (Q:=_) [0,2,4,5,6] [2,13,5] (fun m st=>∃ i:Nat,st=([sArg s,.ptr 2 1 0,.ptr 13 1 0,.ptr 5 1 0,iArg (i:Int)],[(1,[.val false [.i .i64 0],.val false [.i .i64 0],.val false [.i .i64 0],.val false [.sl true 3 []],.val false [.i .i64 0],.val false [.i .i64 0],.val false [.i .i64 0],.val false [.i .i64 0],.val false [.i .i64 0],.val false [.s ByteArray.empty],.val false [.s ByteArray.empty],.val false [.i .i64 0],.val false [.s ByteArray.empty],.val false [.s ByteArray.empty],.val false [.i .i64 0],.val false [.i .i64 0],.val false [.sl true 96 []]]),(1,[.val false [.sl false 9 (dr (3+i) (af (ao s)))],.val false [.b (okN (af (ao s)) (3+i))]]),(1,[.val false [.i .i64 (numi (af (ao s)) 0)],.val false [.i .i64 (numi (af (ao s)) 1)],.val false [.i .i64 (numi (af (ao s)) 2)],.val false [.sl true 3 (gQ (af (ao s)) i)],.val false [.i .i64 0],.val false [.i .i64 0],.val false [.i .i64 0],.val false [.i .i64 0],.val false [.i .i64 0],.val false [.s ByteArray.empty],.val false [.s ByteArray.empty],.val false [.i .i64 0],.val false [.s ByteArray.empty],.val false [.s ByteArray.empty],.val false [.i .i64 0],.val false [.i .i64 0],.val false [.sl true 96 []]])])∧i≤3∧m=3 - i) ?_ ?_
 · exact ⟨rfl,3,0,rfl,by decide,rfl⟩
 rintro m st ⟨i,rfl,hi,rfl⟩
 repeat' first
  | (refine And.intro ?_ ?_)
  | (intro h;simp only [reduceCtorEq] at h;done)
  | (intro h;rw [h])
  | (intro h)
 all_goals first
  | (show ac _=true;kernel_rfl)|(show aj _ _=true;kernel_rfl)|exact True.intro|exact Or.inr rfl|exact Or.inl rfl
  | exact rfl
  | (have h3:i < 3:=by have:=jaT (show decide ((i:Int) < 3)=true by assumption);omega
     first
      | exact ⟨_,_,sm.dr (3+i),rfl⟩
      | exact cI _
      | (show (gQ (af (ao s)) i).length+1≤maxLen;rw [(iF (af (ao s)) i).1];simp only [maxLen];omega)
      | (show ((gQ (af (ao s)) i).length+1) * 8≤_;rw [(iF (af (ao s)) i).1];omega)
      | (show aL _ _;exact rfl)
      | (refine ⟨3 - (i+1),by omega,i+1,?_,by omega,rfl⟩
         exact zf (f:=fun r q b z=>(([sArg s,.ptr 2 1 0,.ptr 13 1 0,.ptr 5 1 0,iArg z],[(1,[.val false [.i .i64 0],.val false [.i .i64 0],.val false [.i .i64 0],.val false [.sl true 3 []],.val false [.i .i64 0],.val false [.i .i64 0],.val false [.i .i64 0],.val false [.i .i64 0],.val false [.i .i64 0],.val false [.s ByteArray.empty],.val false [.s ByteArray.empty],.val false [.i .i64 0],.val false [.s ByteArray.empty],.val false [.s ByteArray.empty],.val false [.i .i64 0],.val false [.i .i64 0],.val false [.sl true 96 []]]),(1,[.val false [.sl false 9 q],.val false [.b b]]),(1,[.val false [.i .i64 (numi (af (ao s)) 0)],.val false [.i .i64 (numi (af (ao s)) 1)],.val false [.i .i64 (numi (af (ao s)) 2)],.val false [.sl true 3 r],.val false [.i .i64 0],.val false [.i .i64 0],.val false [.i .i64 0],.val false [.i .i64 0],.val false [.i .i64 0],.val false [.s ByteArray.empty],.val false [.s ByteArray.empty],.val false [.i .i64 0],.val false [.s ByteArray.empty],.val false [.s ByteArray.empty],.val false [.i .i64 0],.val false [.i .i64 0],.val false [.sl true 96 []]])]):Snap)) (pC (af (ao s)) i) rfl (okN_num (r:=(af (ao s))) (j:=3+i) (by omega)).symm (wrapN h3 (by decide))))
  | (refine ⟨_,_,?_,rfl⟩;exact sm.dr _)
  | exact ⟨_,_,(sm.dr (3+i)).dr 0,rfl⟩
  | exact ⟨_,_,(sm.dr (3+i)).dr 1,rfl⟩
  | exact ⟨_,_,(sm.dr (3+i)).dr 2,rfl⟩
  | exact ⟨_,_,(sm.dr (3+i)).dr 3,rfl⟩
  | exact ⟨_,_,(sm.dr (3+i)).dr 4,rfl⟩
  | exact ⟨_,_,(sm.dr (3+i)).dr 5,rfl⟩
  | exact ⟨_,_,(sm.dr (3+i)).dr 6,rfl⟩
  | exact ⟨_,_,(sm.dr (3+i)).dr 7,rfl⟩
  | exact ⟨_,_,(sm.dr (3+i)).dr 8,rfl⟩
  | exact ⟨_,_,(sm.dr (3+i)).dr 9,rfl⟩
  | exact ⟨_,_,(sm.dr (3+i)).dr 10,rfl⟩
  | exact ⟨_,_,(sm.dr (3+i)).dr 11,rfl⟩
  | exact ⟨_,_,(sm.dr (3+i)).dr 12,rfl⟩
  | skip
 obtain rfl:i=3:=by have:=ja4 (show decide ((i:Int) < 3)=false by assumption);omega
 refine ar (Q:=_) [0,2,4,5,7,8] [2,13,5] (fun m st=>∃ (i:Nat) (o r:List (List D)) (b:Bool),st=([sArg s,.ptr 2 1 0,.ptr 13 1 0,.ptr 5 1 0,iArg (numi (af (ao s)) 18),iArg (i:Int)],[(1,[.val false [.i .i64 0],.val false [.i .i64 0],.val false [.i .i64 0],.val false [.sl true 3 []],.val false [.i .i64 0],.val false [.i .i64 0],.val false [.i .i64 0],.val false [.i .i64 0],.val false [.i .i64 0],.val false [.s ByteArray.empty],.val false [.s ByteArray.empty],.val false [.i .i64 0],.val false [.s ByteArray.empty],.val false [.s ByteArray.empty],.val false [.i .i64 0],.val false [.i .i64 0],.val false [.sl true 96 []]]),(1,[.val false [.sl false 9 r],.val false [.b b]]),(1,[.val false [.i .i64 (numi (af (ao s)) 0)],.val false [.i .i64 (numi (af (ao s)) 1)],.val false [.i .i64 (numi (af (ao s)) 2)],.val false [.sl true 3 (gQ (af (ao s)) 3)],.val false [.i .i64 (numi (af (ao s)) 6)],.val false [.i .i64 (numi (af (ao s)) 7)],.val false [.i .i64 (numi (af (ao s)) 8)],.val false [.i .i64 (numi (af (ao s)) 9)],.val false [.i .i64 (numi (af (ao s)) 10)],.val false [.s (txti (af (ao s)) 12)],.val false [.s (txti (af (ao s)) 13)],.val false [.i .i64 (numi (af (ao s)) 11)],.val false [.s (txti (af (ao s)) 14)],.val false [.s (txti (af (ao s)) 15)],.val false [.i .i64 (numi (af (ao s)) 16)],.val false [.i .i64 (numi (af (ao s)) 17)],.val false [.sl true 96 o]])])∧o.length=i∧5 * i≤(af (ao s)).length+5∧SmW r∧r.length≤(af (ao s)).length∧(b=true→r.length+5 * i≤(af (ao s)).length)∧(∀ r ∈ o,RdOk r)∧rdsI pv (numi (af (ao s)) 18) m i r b o=rdsI pv (numi (af (ao s)) 18) ((af (ao s)).length+2) 0 (dr 19 (af (ao s))) (okN (af (ao s)) 19) []∧1≤m∧(b=true→r.length+2≤m)) ?_ ?_
 · refine ⟨rfl,(af (ao s)).length+2,0,[],dr 19 (af (ao s)),okN (af (ao s)) 19,rfl,rfl,jaU _,sm.dr 19,by rw [iq];omega,fun _=>by rw [iq];omega,fun r h=>absurd h (jaX),rfl,by omega,fun _=>by rw [iq];omega⟩
 rintro m st ⟨i,o,r,b,rfl,hol,hi,sr,hrl,hb,ho,hE,hm1,hm2⟩
 generalize hRW:(af (ao s))=rw_ at *
 have ow:=zM sm (rd:=o) (by omega) ho
 have w7o:=aC ow.1
 repeat' first
  | (refine And.intro ?_ ?_)
  | (intro h;simp only [reduceCtorEq] at h;done)
  | (intro h;rw [h])
  | (intro h)
 all_goals first
  | (show ac _=true;kernel_rfl)|(show aj _ _=true;kernel_rfl)|exact True.intro|exact Or.inr rfl|exact Or.inl rfl
  | exact rfl
  | exact ⟨_,_,sr,rfl⟩
  | exact ⟨_,_,sr.dr 1,rfl⟩
  | exact ⟨_,_,sr.dr 2,rfl⟩
  | exact ⟨_,_,sr.dr 3,rfl⟩
  | exact ⟨_,_,sr.dr 4,rfl⟩
  | exact ⟨_,dn (sr.dr 4),rfl⟩
  | exact ⟨_,ow.1,ow.2,rfl⟩
  | exact absurd (show (!false)=false by with_reducible assumption) (by decide)
  | exact absurd (show (!true)=true by with_reducible assumption) (by decide)
  | (have g1:(i:Int) < numi rw_ 18:=jaT (by assumption)
     have gb:b=true:=by assumption
     subst gb
     have hb:=hb rfl
     have hm2:=hm2 rfl
     have hrow:csD (rowC cRd (rowI pv r))=rowI pv r:=aC (qY sr hw).1
     first
      | (show o.length+1≤maxLen;simp only [maxLen];omega)
      | (show (o.length+1) * 152≤_;omega)
      | (show aL _ _;exact rfl)
      | (obtain ⟨m,rfl⟩:∃ m',m=m' + 1:=⟨m - 1,by omega⟩
         refine ⟨m,jbT _,i+1,o++[rowI pv r],dr 5 r,ok5 r true,?_,by rw [jaV,hol];rfl,by omega,sr.dr 5,by rw [iq];omega,?_,?_,?_,by omega,?_⟩
         · exact zf (f:=fun x q b z=>(([sArg s,.ptr 2 1 0,.ptr 13 1 0,.ptr 5 1 0,iArg (numi rw_ 18),iArg z],[(1,[.val false [.i .i64 0],.val false [.i .i64 0],.val false [.i .i64 0],.val false [.sl true 3 []],.val false [.i .i64 0],.val false [.i .i64 0],.val false [.i .i64 0],.val false [.i .i64 0],.val false [.i .i64 0],.val false [.s ByteArray.empty],.val false [.s ByteArray.empty],.val false [.i .i64 0],.val false [.s ByteArray.empty],.val false [.s ByteArray.empty],.val false [.i .i64 0],.val false [.i .i64 0],.val false [.sl true 96 []]]),(1,[.val false [.sl false 9 q],.val false [.b b]]),(1,[.val false [.i .i64 (numi rw_ 0)],.val false [.i .i64 (numi rw_ 1)],.val false [.i .i64 (numi rw_ 2)],.val false [.sl true 3 (gQ rw_ 3)],.val false [.i .i64 (numi rw_ 6)],.val false [.i .i64 (numi rw_ 7)],.val false [.i .i64 (numi rw_ 8)],.val false [.i .i64 (numi rw_ 9)],.val false [.i .i64 (numi rw_ 10)],.val false [.s (txti rw_ 12)],.val false [.s (txti rw_ 13)],.val false [.i .i64 (numi rw_ 11)],.val false [.s (txti rw_ 14)],.val false [.s (txti rw_ 15)],.val false [.i .i64 (numi rw_ 16)],.val false [.i .i64 (numi rw_ 17)],.val false [.sl true 96 x]])]):Snap)) (congrArg (fun r=>o++[r]) hrow) rfl rfl (wrapN (n:=rw_.length+1) (by omega) (by simp only [maxLen];omega))
         · intro h5
           have:=(ok5_T h5).1
           rw [iq];omega
         · intro x hx
           rcases jbt.1 hx with h|h
           · exact ho x h
           · rw [jbK.1 h];exact qY sr hw
         · rw [← hE,rl g1]
         · intro h5
           have:=(ok5_T h5).1
           rw [iq];omega))
  | (have hT:rdsI pv (numi rw_ 18) (rw_.length+2) 0 (dr 19 rw_) (okN rw_ 19) []=(r,b,o):=by
      refine hE.symm.trans (mg ?_)
      rintro ⟨a1,a2⟩
      first
       | exact absurd a1 (ja4 (by assumption))
       | exact absurd (a2.symm.trans (by assumption:b=false)) Bool.noConfusion
     have hP:poI pv s=poOf (opI rw_ o) (b && (r.length == 0)) s:=by rw [zG hRW,hT]
     first
      | (have hbF:b=false:=by first|assumption|exact cG (by assumption)
         exact kW (hP.trans (vj (by rw [hbF];rfl))) rfl rfl)
      | (have hbT:b=true:=by first|assumption|exact bw (by assumption)
         first
          | (have hq:decide ((r.length:Int) > 0)=true:=by assumption
             have hq2:(r.length == 0)=false:=by have:=jaT hq;rw [beq_eq_false_iff_ne];omega
             exact kW (hP.trans (vj (by rw [hq2];simp))) rfl rfl)
          | (have hq:decide ((r.length:Int) > 0)=false:=by assumption
             have hq2:(r.length == 0)=true:=by have:=ja4 hq;rw [beq_iff_eq];omega
             first
              | (have hz:(!(ba (opI rw_ o)).toList == s.toList)=true:=by rw [← w7o];assumption
                 exact kW (hP.trans (zC hz)) rfl rfl)
              | (have hz:(!(ba (opI rw_ o)).toList == s.toList)=false:=by rw [← w7o];assumption
                 exact kW (hP.trans (zB (by rw [hbT,hq2];rfl) hz)) rfl rfl))))
  | skip
end Go.Proofs.YtkpnfbdoaljkpaaGreatDoor.Ab
