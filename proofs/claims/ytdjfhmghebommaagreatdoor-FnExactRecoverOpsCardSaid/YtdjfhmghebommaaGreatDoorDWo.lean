/- A part. -/
import Derived.Test.YtdjfhmghebommaaGreatDoorDWw
import Derived.Test.YtdjfhmghebommaaGreatDoorDOd
namespace Go.Proofs.YtdjfhmghebommaaGreatDoor.Ab
open Go.RowKit
set_option linter.all false
set_option maxRecDepth 100000
set_option maxHeartbeats 8000000
theorem zd23:FOk Tryz.prog Td 23 (dT false):=FOk.on true ok23 (fun args h=>by obtain ⟨s,_,rfl⟩:=h;rfl) (fun hb=>by cases hb)
theorem zd24:FOk Tryz.prog Td 24 rY:=FOk.on true ok24 (fun args h=>by obtain ⟨r,b,_,rfl⟩:=h;rfl) (fun _ cs args h=>by obtain ⟨r,b,_,he⟩:=h;simp only [scn,jce,SV.tup.injEq,jci,true_and,and_true] at he;obtain ⟨rfl,rfl⟩:=he;exact ⟨rfl,rfl⟩)
theorem zd25:FOk Tryz.prog Td 25 rR:=FOk.on true ok25 (fun args h=>by obtain ⟨r,b,_,rfl⟩:=h;rfl) (fun _ cs args h=>by obtain ⟨r,b,_,he⟩:=h;simp only [scn,jce,SV.tup.injEq,jci,true_and,and_true] at he;obtain ⟨rfl,rfl⟩:=he;exact ⟨rfl,rfl⟩)
theorem zd27:FOk Tryz.prog Td 27 { (rW T cO) with nr:=true }:=(FOk.on true ok27 (fun args h=>by obtain ⟨a,_,_,rfl⟩:=h;rfl) (fun hb=>by cases hb)).lends
theorem zo7 (pv:ByteArray→List D × Bool) (hw:∀ t,t.size≤1048576→WfRow T cV (pv t).1∧wRow (pv t).1≤2097152) (hpv:FOk Tryz.prog Td 26 (dt cV pv)):FOk Tryz.prog Td 7 (dt cO (poI pv)):=by
 refine fok (env:=envL [(23,(dT false)),(24,rY),(25,rR),(26,(dt cV pv)),(27, { (rW T cO) with nr:=true })]) (N:=145) il (ay zd23 (ay zd24 (ay zd25 (ay hpv (ay zd27 bU))))) mixed Tryz.func7 rfl Tryz.call7 Tryz.ntmps7 ?_
 rintro args ⟨s,hs,rfl⟩ hwf'
 clear hwf'
 have sm:=smW s hs
 have hlen:=j4 s hs
 refine ⟨by simp,?_⟩
 rw [Tryz.results7]
 repeat' first
  | refine And.intro ?_ ?_
  | (intro h;simp only [reduceCtorEq] at h;done)
  | (intro h;rw [h])
  | intro h
 all_goals first
  | (show aa _=true;kernel_rfl)|(show am _ _=true;kernel_rfl)|exact True.intro|exact Or.inr rfl|exact Or.inl rfl
  | exact rfl
  | exact ⟨_,hs,rfl⟩
  | exact ⟨_,_,sm,rfl⟩
  | exact ⟨_,_,sm.dr 1,rfl⟩
  | exact ⟨_,_,sm.dr 2,rfl⟩
  | skip
 refine ap (Q:=_) [0,2,4,5,6] [2,13,5] (fun m st=>∃ i:Nat,st=([sArg s,.ptr 2 1 0,.ptr 13 1 0,.ptr 5 1 0,iArg (i:Int)],[(1,[.val false [.i .i64 0],.val false [.i .i64 0],.val false [.i .i64 0],.val false [.sl true 3 []],.val false [.i .i64 0],.val false [.i .i64 0],.val false [.i .i64 0],.val false [.i .i64 0],.val false [.i .i64 0],.val false [.s ByteArray.empty],.val false [.s ByteArray.empty],.val false [.i .i64 0],.val false [.s ByteArray.empty],.val false [.s ByteArray.empty],.val false [.i .i64 0],.val false [.i .i64 0],.val false [.sl true 55 []]]),(1,[.val false [.sl false 9 (dr (3+i) (ae (aj s)))],.val false [.b (okN (ae (aj s)) (3+i))]]),(1,[.val false [.i .i64 (numi (ae (aj s)) 0)],.val false [.i .i64 (numi (ae (aj s)) 1)],.val false [.i .i64 (numi (ae (aj s)) 2)],.val false [.sl true 3 (ix (ae (aj s)) i)],.val false [.i .i64 0],.val false [.i .i64 0],.val false [.i .i64 0],.val false [.i .i64 0],.val false [.i .i64 0],.val false [.s ByteArray.empty],.val false [.s ByteArray.empty],.val false [.i .i64 0],.val false [.s ByteArray.empty],.val false [.s ByteArray.empty],.val false [.i .i64 0],.val false [.i .i64 0],.val false [.sl true 55 []]])])∧i≤3∧m=3 - i) ?_ ?_
 · exact ⟨rfl,3,0,rfl,by decide,rfl⟩
 rintro m st ⟨i,rfl,hi,rfl⟩
 repeat' first
  | refine And.intro ?_ ?_
  | (intro h;simp only [reduceCtorEq] at h;done)
  | (intro h;rw [h])
  | intro h
 all_goals first
  | (show aa _=true;kernel_rfl)|(show am _ _=true;kernel_rfl)|exact True.intro|exact Or.inr rfl|exact Or.inl rfl
  | exact rfl
  | (have h3:i < 3:=by have:=jbO (show decide ((i:Int) < 3)=true by assumption);omega
     first
      | exact ⟨_,_,sm.dr (3+i),rfl⟩
      | exact cM _
      | (show (ix (ae (aj s)) i).length+1≤maxLen;rw [(jl (ae (aj s)) i).1];simp only [maxLen];omega)
      | (show ((ix (ae (aj s)) i).length+1) * 8≤_;rw [(jl (ae (aj s)) i).1];omega)
      | (show aT _ _;exact rfl)
      | (refine ⟨3 - (i+1),by omega,i+1,?_,by omega,rfl⟩
         exact jaf (f:=fun r q b z=>(([sArg s,.ptr 2 1 0,.ptr 13 1 0,.ptr 5 1 0,iArg z],[(1,[.val false [.i .i64 0],.val false [.i .i64 0],.val false [.i .i64 0],.val false [.sl true 3 []],.val false [.i .i64 0],.val false [.i .i64 0],.val false [.i .i64 0],.val false [.i .i64 0],.val false [.i .i64 0],.val false [.s ByteArray.empty],.val false [.s ByteArray.empty],.val false [.i .i64 0],.val false [.s ByteArray.empty],.val false [.s ByteArray.empty],.val false [.i .i64 0],.val false [.i .i64 0],.val false [.sl true 55 []]]),(1,[.val false [.sl false 9 q],.val false [.b b]]),(1,[.val false [.i .i64 (numi (ae (aj s)) 0)],.val false [.i .i64 (numi (ae (aj s)) 1)],.val false [.i .i64 (numi (ae (aj s)) 2)],.val false [.sl true 3 r],.val false [.i .i64 0],.val false [.i .i64 0],.val false [.i .i64 0],.val false [.i .i64 0],.val false [.i .i64 0],.val false [.s ByteArray.empty],.val false [.s ByteArray.empty],.val false [.i .i64 0],.val false [.s ByteArray.empty],.val false [.s ByteArray.empty],.val false [.i .i64 0],.val false [.i .i64 0],.val false [.sl true 55 []]])]):Snap)) (qF (ae (aj s)) i) rfl (okN_num (r:=(ae (aj s))) (j:=3+i) (by omega)).symm (wrapN h3 (by decide))))
  | (refine ⟨_,_,?_,rfl⟩;exact sm.dr _)
  | exact ⟨_,_,(sm.dr (3+i)).dr 0,rfl⟩
  | exact ⟨_,_,(sm.dr (3+i)).dr 1,rfl⟩
  | exact ⟨_,_,(sm.dr (3+i)).dr 2,rfl⟩
  | exact ⟨_,_,(sm.dr (3+i)).dr 3,rfl⟩
  | exact ⟨_,_,(sm.dr (3+i)).dr 4,rfl⟩
  | exact ⟨_,_,(sm.dr (3+i)).dr 5,rfl⟩
  | exact ⟨_,_,(sm.dr (3+i)).dr 6,rfl⟩
  | exact ⟨_,_,(sm.dr (3+i)).dr 7,rfl⟩
  | exact ⟨_,_,(sm.dr (3+i)).dr 8,rfl⟩
  | exact ⟨_,_,(sm.dr (3+i)).dr 9,rfl⟩
  | exact ⟨_,_,(sm.dr (3+i)).dr 10,rfl⟩
  | exact ⟨_,_,(sm.dr (3+i)).dr 11,rfl⟩
  | exact ⟨_,_,(sm.dr (3+i)).dr 12,rfl⟩
  | skip
 obtain rfl:i=3:=by have:=jbZ (show decide ((i:Int) < 3)=false by assumption);omega
 refine ap (Q:=_) [0,2,4,5,7,8] [2,13,5] (fun m st=>∃ (i:Nat) (o r:List (List D)) (b:Bool),st=([sArg s,.ptr 2 1 0,.ptr 13 1 0,.ptr 5 1 0,iArg (numi (ae (aj s)) 18),iArg (i:Int)],[(1,[.val false [.i .i64 0],.val false [.i .i64 0],.val false [.i .i64 0],.val false [.sl true 3 []],.val false [.i .i64 0],.val false [.i .i64 0],.val false [.i .i64 0],.val false [.i .i64 0],.val false [.i .i64 0],.val false [.s ByteArray.empty],.val false [.s ByteArray.empty],.val false [.i .i64 0],.val false [.s ByteArray.empty],.val false [.s ByteArray.empty],.val false [.i .i64 0],.val false [.i .i64 0],.val false [.sl true 55 []]]),(1,[.val false [.sl false 9 r],.val false [.b b]]),(1,[.val false [.i .i64 (numi (ae (aj s)) 0)],.val false [.i .i64 (numi (ae (aj s)) 1)],.val false [.i .i64 (numi (ae (aj s)) 2)],.val false [.sl true 3 (ix (ae (aj s)) 3)],.val false [.i .i64 (numi (ae (aj s)) 6)],.val false [.i .i64 (numi (ae (aj s)) 7)],.val false [.i .i64 (numi (ae (aj s)) 8)],.val false [.i .i64 (numi (ae (aj s)) 9)],.val false [.i .i64 (numi (ae (aj s)) 10)],.val false [.s (txti (ae (aj s)) 12)],.val false [.s (txti (ae (aj s)) 13)],.val false [.i .i64 (numi (ae (aj s)) 11)],.val false [.s (txti (ae (aj s)) 14)],.val false [.s (txti (ae (aj s)) 15)],.val false [.i .i64 (numi (ae (aj s)) 16)],.val false [.i .i64 (numi (ae (aj s)) 17)],.val false [.sl true 55 o]])])∧o.length=i∧5 * i≤(ae (aj s)).length+5∧SmW r∧r.length≤(ae (aj s)).length∧(b=true→r.length+5 * i≤(ae (aj s)).length)∧(∀ r ∈ o,RdOk r)∧rdsI pv (numi (ae (aj s)) 18) m i r b o=rdsI pv (numi (ae (aj s)) 18) ((ae (aj s)).length+2) 0 (dr 19 (ae (aj s))) (okN (ae (aj s)) 19) []∧1≤m∧(b=true→r.length+2≤m)) ?_ ?_
 · refine ⟨rfl,(ae (aj s)).length+2,0,[],dr 19 (ae (aj s)),okN (ae (aj s)) 19,rfl,rfl,jbP _,sm.dr 19,by rw [i7];omega,fun _=>by rw [i7];omega,fun r h=>absurd h (jbS),rfl,by omega,fun _=>by rw [i7];omega⟩
 rintro m st ⟨i,o,r,b,rfl,hol,hi,sr,hrl,hb,ho,hE,hm1,hm2⟩
 generalize hRW:(ae (aj s))=rw_ at *
 have ow:=jaP sm (rd:=o) (by omega) ho
 have w7o:=au ow.1
 repeat' first
  | refine And.intro ?_ ?_
  | (intro h;simp only [reduceCtorEq] at h;done)
  | (intro h;rw [h])
  | intro h
 all_goals first
  | (show aa _=true;kernel_rfl)|(show am _ _=true;kernel_rfl)|exact True.intro|exact Or.inr rfl|exact Or.inl rfl
  | exact rfl
  | exact ⟨_,_,sr,rfl⟩
  | exact ⟨_,_,sr.dr 1,rfl⟩
  | exact ⟨_,_,sr.dr 2,rfl⟩
  | exact ⟨_,_,sr.dr 3,rfl⟩
  | exact ⟨_,_,sr.dr 4,rfl⟩
  | exact ⟨_,dy (sr.dr 4),rfl⟩
  | exact ⟨_,ow.1,ow.2,rfl⟩
  | exact absurd (show (!false)=false by with_reducible assumption) (by decide)
  | exact absurd (show (!true)=true by with_reducible assumption) (by decide)
  | (have g1:(i:Int) < numi rw_ 18:=jbO (by assumption)
     have gb:b=true:=by assumption
     subst gb
     have hb:=hb rfl
     have hm2:=hm2 rfl
     have hrow:csD (rowC cRd (rowI pv r))=rowI pv r:=au (sD sr hw).1
     first
      | (show o.length+1≤maxLen;simp only [maxLen];omega)
      | (show (o.length+1) * 152≤_;omega)
      | (show aT _ _;exact rfl)
      | (obtain ⟨m,rfl⟩:∃ m',m=m' + 1:=⟨m - 1,by omega⟩
         refine ⟨m,jcO _,i+1,o++[rowI pv r],dr 5 r,ok5 r true,?_,by rw [jbQ,hol];rfl,by omega,sr.dr 5,by rw [i7];omega,?_,?_,?_,by omega,?_⟩
         · exact jaf (f:=fun x q b z=>(([sArg s,.ptr 2 1 0,.ptr 13 1 0,.ptr 5 1 0,iArg (numi rw_ 18),iArg z],[(1,[.val false [.i .i64 0],.val false [.i .i64 0],.val false [.i .i64 0],.val false [.sl true 3 []],.val false [.i .i64 0],.val false [.i .i64 0],.val false [.i .i64 0],.val false [.i .i64 0],.val false [.i .i64 0],.val false [.s ByteArray.empty],.val false [.s ByteArray.empty],.val false [.i .i64 0],.val false [.s ByteArray.empty],.val false [.s ByteArray.empty],.val false [.i .i64 0],.val false [.i .i64 0],.val false [.sl true 55 []]]),(1,[.val false [.sl false 9 q],.val false [.b b]]),(1,[.val false [.i .i64 (numi rw_ 0)],.val false [.i .i64 (numi rw_ 1)],.val false [.i .i64 (numi rw_ 2)],.val false [.sl true 3 (ix rw_ 3)],.val false [.i .i64 (numi rw_ 6)],.val false [.i .i64 (numi rw_ 7)],.val false [.i .i64 (numi rw_ 8)],.val false [.i .i64 (numi rw_ 9)],.val false [.i .i64 (numi rw_ 10)],.val false [.s (txti rw_ 12)],.val false [.s (txti rw_ 13)],.val false [.i .i64 (numi rw_ 11)],.val false [.s (txti rw_ 14)],.val false [.s (txti rw_ 15)],.val false [.i .i64 (numi rw_ 16)],.val false [.i .i64 (numi rw_ 17)],.val false [.sl true 55 x]])]):Snap)) (congrArg (fun r=>o++[r]) hrow) rfl rfl (wrapN (n:=rw_.length+1) (by omega) (by simp only [maxLen];omega))
         · intro h5
           have:=(ok5_T h5).1
           rw [i7];omega
         · intro x hx
           rcases jco.1 hx with h|h
           · exact ho x h
           · rw [jcF.1 h];exact sD sr hw
         · rw [← hE,sO g1]
         · intro h5
           have:=(ok5_T h5).1
           rw [i7];omega))
  | (have hT:rdsI pv (numi rw_ 18) (rw_.length+2) 0 (dr 19 rw_) (okN rw_ 19) []=(r,b,o):=by
      refine hE.symm.trans (m7 ?_)
      rintro ⟨a1,a2⟩
      first
       | exact absurd a1 (jbZ (by assumption))
       | exact absurd (a2.symm.trans (by assumption:b=false)) Bool.noConfusion
     have hP:poI pv s=poOf (opI rw_ o) (b && (r.length == 0)) s:=by rw [jaH hRW,hT]
     first
      | (have hbF:b=false:=by first|assumption|exact aY (by assumption)
         exact gJ (hP.trans (s4 (by rw [hbF];rfl))) rfl rfl)
      | (have hbT:b=true:=by first|assumption|exact aA (by assumption)
         first
          | (have hq:decide ((r.length:Int) > 0)=true:=by assumption
             have hq2:(r.length == 0)=false:=by have:=jbO hq;rw [beq_eq_false_iff_ne];omega
             exact gJ (hP.trans (s4 (by rw [hq2];simp))) rfl rfl)
          | (have hq:decide ((r.length:Int) > 0)=false:=by assumption
             have hq2:(r.length == 0)=true:=by have:=jbZ hq;rw [beq_iff_eq];omega
             first
              | (have hz:(!(aZ (opI rw_ o)).toList == s.toList)=true:=by rw [← w7o];assumption
                 exact gJ (hP.trans (ww hz)) rfl rfl)
              | (have hz:(!(aZ (opI rw_ o)).toList == s.toList)=false:=by rw [← w7o];assumption
                 exact gJ (hP.trans (wn (by rw [hbT,hq2];rfl) hz)) rfl rfl))))
  | (rw [jcF.1 h];exact True.intro)
  | exact (show (7:Nat)≤1024 by decide)
  | exact (show (17:Nat)≤1024 by decide)
  | skip
end Go.Proofs.YtdjfhmghebommaaGreatDoor.Ab
