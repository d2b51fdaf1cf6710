/- The reference's readers of values, exactly: printed by a program of this -/
import Derived.Test.YtcllpknipmcolaaGreatDoorCYj
import Derived.Test.YtcllpknipmcolaaGreatDoorCPa
namespace Go.Proofs.YtcllpknipmcolaaGreatDoor.Ab
open Go.RowKit
set_option linter.all false
set_option maxRecDepth 100000
set_option maxHeartbeats 2000000
theorem ri:FOk Tryz.prog T 113 fm:=by
 refine fok (env:=envL []) (N:=25) tabT ae mixed Tryz.func113 rfl Tryz.call113 Tryz.ntmps113 ?_
 rintro args ⟨s,w,k,hp,hw,rfl⟩ hwf
 have hx:IntKind.i64.wrap ((s.size:Int) - k)=(s.size:Int) - k:=by obtain ⟨a,b,d⟩:=hp;exact wr64 (by omega) (by omega)
 have hy:=posK hp (w.size:Int) (by omega) (by omega)
 refine ⟨by simp,?_⟩
 clear hwf
 rw [Tryz.results113]
 repeat' first
  | (refine And.intro ?_ ?_)
  | (intro h;simp only [reduceCtorEq] at h;done)
  | (intro h;rw [h])
  | (intro h)
 all_goals first
  | exact True.intro
  | exact Or.inr rfl
  | exact resB (st_F hx (by assumption))
  | exact resB (st_T hx hy (by assumption))
  | (have h:=jck (by assumption:decide (IntKind.i64.wrap ((s.size:Int) - k) ≥ (w.size:Int))=true);obtain ⟨a,b,d⟩:=hp;first|(show (0:Int)≤k;omega)|(show k≤IntKind.i64.wrap (k+(w.size:Int));omega)|(show IntKind.i64.wrap (k+(w.size:Int))≤(s.size:Int);omega))
theorem xk98:FOk Tryz.prog T 98 (mN cV vNum):=by
 refine fok (env:=envL []) (N:=5) tabT ae mixed Tryz.func98 rfl Tryz.call98 Tryz.ntmps98 ?_
 rintro args ⟨n,rfl⟩ hwf
 refine ⟨by simp,?_⟩
 clear hwf
 rw [Tryz.results98]
 repeat' first
  | (refine And.intro ?_ ?_)
  | (intro h;simp only [reduceCtorEq] at h;done)
  | (intro h;rw [h])
  | (intro h)
 all_goals first
  | exact True.intro
  | exact Or.inr rfl
  | exact rfl
theorem xk119:FOk Tryz.prog T 119 (mN cV vErr):=by
 refine fok (env:=envL []) (N:=5) tabT ae mixed Tryz.func119 rfl Tryz.call119 Tryz.ntmps119 ?_
 rintro args ⟨n,rfl⟩ hwf
 refine ⟨by simp,?_⟩
 clear hwf
 rw [Tryz.results119]
 repeat' first
  | (refine And.intro ?_ ?_)
  | (intro h;simp only [reduceCtorEq] at h;done)
  | (intro h;rw [h])
  | (intro h)
 all_goals first
  | exact True.intro
  | exact Or.inr rfl
  | exact rfl
theorem xk115:FOk Tryz.prog T 115 (rS cV vTxt):=by
 refine fok (env:=envL []) (N:=5) tabT ae mixed Tryz.func115 rfl Tryz.call115 Tryz.ntmps115 ?_
 rintro args ⟨t,rfl⟩ hwf
 refine ⟨by simp,?_⟩
 clear hwf
 rw [Tryz.results115]
 repeat' first
  | (refine And.intro ?_ ?_)
  | (intro h;simp only [reduceCtorEq] at h;done)
  | (intro h;rw [h])
  | (intro h)
 all_goals first
  | exact True.intro
  | exact Or.inr rfl
  | exact rfl
theorem xk159:FOk Tryz.prog T 159 (uW cV vStr):=by
 refine fok (env:=envL []) (N:=8) tabT ae mixed Tryz.func159 rfl Tryz.call159 Tryz.ntmps159 ?_
 rintro args ⟨n,m,rfl⟩ hwf
 refine ⟨by simp,?_⟩
 clear hwf
 rw [Tryz.results159]
 repeat' first
  | (refine And.intro ?_ ?_)
  | (intro h;simp only [reduceCtorEq] at h;done)
  | (intro h;rw [h])
  | (intro h)
 all_goals first
  | exact True.intro
  | exact Or.inr rfl
  | exact rfl
theorem zF:FOk Tryz.prog T 121 rU:=by
 refine fok (env:=envL [(78,(rP (-999999999999) 999999999999))]) (N:=52) tabT (aa ok78 ae) mixed Tryz.func121 rfl Tryz.call121 Tryz.ntmps121 ?_
 rintro args ⟨s,k,hp,rfl⟩ hwf
 obtain ⟨hz,h0,h1⟩:=id hp
 obtain ⟨k,rfl⟩:=jdl h0
 have hk:k≤s.size:=by omega
 refine ⟨by simp,?_⟩
 clear hwf
 rw [Tryz.results121]
 repeat' first
  | (refine And.intro ?_ ?_)
  | (intro h;simp only [reduceCtorEq] at h;done)
  | (intro h;rw [h])
  | (intro h)
 all_goals first
  | with_reducible exact jcy _
  | with_reducible exact jck (by with_reducible assumption)
  | skip
 all_goals (
  refine am (Q:=_) [0,1,6] [] (fun m st=>∃ j:Nat,st=([sArg s,iArg (k:Int),iArg (j:Int)],[])∧k≤j∧j≤s.size∧runB digB s j=numE s k∧m=s.size - j) ?_ ?_
  · first
     | (have hlt:=ltN (i:=k) (n:=s.size) (by with_reducible assumption)
        have h45:=(by assumption:(bAt s k == 45)=true)
        refine ⟨rfl,s.size - (k+1),k+1,?_,by omega,by omega,by unfold numE;rw [sgn_y hlt h45],rfl⟩
        exact congrArg (fun z:Int=>(([sArg s,iArg (k:Int),iArg z],[]):Snap)) (posK hp 1 (by decide) (by decide)))
     | exact ⟨rfl,s.size - k,k,rfl,jcA _,hk,by unfold numE;rw [jaL (by assumption)],rfl⟩
     | exact ⟨rfl,s.size - k,k,rfl,jcA _,hk,by unfold numE;rw [jaM (nltN (by with_reducible assumption))],rfl⟩
  rintro m st ⟨j,rfl,j0,j1,jr,rfl⟩
  repeat' first
   | (refine And.intro ?_ ?_)
   | (intro h;simp only [reduceCtorEq] at h;done)
   | (intro h;rw [h])
   | (intro h)
  all_goals first
   | exact True.intro
   | exact Or.inr rfl
   | with_reducible exact jcy _
   | with_reducible exact jck (by with_reducible assumption)
   | (show aV _ _;exact rfl)
   | (have hj:j < s.size:=ltN (by with_reducible assumption)
      refine ⟨s.size - (j+1),by omega,j+1,?_,by omega,by omega,(lK hj (dig_y (by assumption) (by assumption))).symm.trans jr,rfl⟩
      exact congrArg (fun z:Int=>(([sArg s,iArg (k:Int),iArg z],[]):Snap)) (wrapN hj (by simp only [maxLen];omega)))
   | (have je:j=numE s k:=by
       rw [← jr]
       first
        | exact (lL (nltN (by with_reducible assumption))).symm
        | exact (eK (ltN (by with_reducible assumption)) (jbX (by assumption))).symm
        | exact (eK (ltN (by with_reducible assumption)) (jbW (by assumption))).symm
      subst je
      first
       | (show (k:Int)≤(numE s k:Int);omega)
       | (show (numE s k:Int)≤(s.size:Int);omega)
       | (refine ⟨_,?_,rfl⟩;show (s.extract k (numE s k)).size≤_;rw [jcJ];omega)
       | exact jaO (jbx (s:=s) (k:=(k:Int)) (by assumption)) rfl rfl
       | exact jaO (yX (s:=s) (k:=(k:Int)) (by assumption)) rfl rfl))
theorem zG:FOk Tryz.prog T 114 rO:=by
 refine fok (env:=envL [(113,fm)]) (N:=36) tabT (aa ri ae) mixed Tryz.func114 rfl Tryz.call114 Tryz.ntmps114 ?_
 rintro args ⟨s,k,hp,rfl⟩ hwf
 obtain ⟨hz,h0,h1⟩:=id hp
 obtain ⟨k,rfl⟩:=jdl h0
 have hk:k≤s.size:=by omega
 refine ⟨by simp,?_⟩
 clear hwf
 rw [Tryz.results114]
 repeat' first
  | (refine And.intro ?_ ?_)
  | (intro h;simp only [reduceCtorEq] at h;done)
  | (intro h;rw [h])
  | (intro h)
 all_goals first
  | exact True.intro
  | exact Or.inr rfl
  | exact ⟨_,_,_,hp,by decide,rfl⟩
  | exact yn (quo_1 (by assumption)) rfl rfl
  | skip
 have hq:=by assumption
 have hq:(!stB s (k:Int) QUO)=false:=hq
 have hb:=bp (aI hq)
 have hq1:(QUO.size:Int)=1:=rfl
 refine am (Q:=_) [0,1,6] [] (fun m st=>∃ j:Nat,st=([sArg s,iArg (k:Int),iArg (j:Int)],[])∧k+1≤j∧j≤s.size∧runB (fun b=>b != 34) s j=quoE s (k:Int)∧m=s.size - j) ?_ ?_
 · refine ⟨rfl,s.size - (k+1),k+1,?_,by omega,by omega,rfl,rfl⟩
   exact congrArg (fun z:Int=>(([sArg s,iArg (k:Int),iArg z],[]):Snap)) (posK hp 1 (by decide) (by decide))
 rintro m st ⟨j,rfl,j0,j1,jr,rfl⟩
 repeat' first
  | (refine And.intro ?_ ?_)
  | (intro h;simp only [reduceCtorEq] at h;done)
  | (intro h;rw [h])
  | (intro h)
 all_goals first
  | exact True.intro
  | exact Or.inr rfl
  | with_reducible exact jcy _
  | with_reducible exact jck (by with_reducible assumption)
  | (show aV _ _;exact rfl)
  | (have hj:j < s.size:=ltN (by with_reducible assumption)
     refine ⟨s.size - (j+1),by omega,j+1,?_,by omega,by omega,(lK (P:=fun b=>b != 34) hj (by assumption:(bAt s j != 34)=true)).symm.trans jr,rfl⟩
     exact congrArg (fun z:Int=>(([sArg s,iArg (k:Int),iArg z],[]):Snap)) (wrapN hj (by simp only [maxLen];omega)))
  | (have je:j=quoE s (k:Int):=by
      rw [← jr]
      first
       | exact (lL (nltN (by with_reducible assumption))).symm
       | exact (eK (P:=fun b=>b != 34) (ltN (by with_reducible assumption)) (by assumption:(bAt s j != 34)=false)).symm
     subst je
     have hw:=posK hp 1 (by decide) (by decide)
     have hw2:IntKind.i64.wrap ((quoE s (k:Int):Int)+1)=(quoE s (k:Int):Int)+1:=wr64 (by omega) (by omega)
     first
      | (rw [hw];omega)
      | (show (quoE s (k:Int):Int)≤(s.size:Int);omega)
      | exact yn (quo_2 (k:=(k:Int)) hq (by assumption)) rfl rfl
      | (refine yn (quo_3 (k:=(k:Int)) hq (by assumption)) ?_ hw2;rw [hw];rfl))
theorem xk117:FOk Tryz.prog T 117 (spVP cV (fun _ _=>True) strP):=by
 refine fok (env:=envL [(121,rU),(113,fm),(159,(uW cV vStr))]) (N:=46) tabT (aa zF (aa ri (aa xk159 ae))) mixed Tryz.func117 rfl Tryz.call117 Tryz.ntmps117 ?_
 rintro args ⟨s,k,hp,_,rfl⟩ hwf
 refine ⟨by simp,?_⟩
 clear hwf
 rw [Tryz.results117]
 repeat' first
  | (refine And.intro ?_ ?_)
  | (intro h;simp only [reduceCtorEq] at h;done)
  | (intro h;rw [h])
  | (intro h)
 all_goals first
  | exact True.intro
  | exact Or.inr rfl
  | exact ⟨_,_,hp,rfl⟩
  | exact ⟨_,_,rfl⟩
  | exact resV (jan (by assumption)) rfl rfl
  | exact resV (jam (by assumption) (by assumption)) rfl rfl
  | exact ⟨_,_,_,pW hp (by assumption),by decide,rfl⟩
  | (have h0:=(by assumption:decide ((intP s k).2 < 0)=false)
     have h1:=(by assumption:(!stB s (intP s k).2 COMMA)=false)
     have hc:=posC (pW hp h0) (w:=COMMA) (by decide) (aI h1)
     have hw:IntKind.i64.wrap ((intP s k).2+2)=(intP s k).2+2:=hc.1
     have hp2:PosIn s (IntKind.i64.wrap ((intP s k).2+2)):=by rw [hw];exact hc.2
     first
      | exact ⟨_,_,hp2,rfl⟩
      | exact ⟨_,_,_,pW hp2 (by assumption),by decide,rfl⟩
      | exact resV (jal hw h0 h1 (by assumption)) rfl rfl
      | exact resV (jak hw h0 h1 (by assumption) (by assumption)) rfl rfl
      | (have h3:=(by assumption:decide ((intP s (IntKind.i64.wrap ((intP s k).2+2))).2 < 0)=false)
         have h4:=(by assumption:(!stB s (intP s (IntKind.i64.wrap ((intP s k).2+2))).2 RPA)=false)
         exact resV (wm hw h0 h1 h3 h4) rfl (posC (pW hp2 h3) (w:=RPA) (by decide) (aI h4)).1))
theorem xk120:FOk Tryz.prog T 120 wI:=by
 refine fok (env:=envL [(161,rW),(160,(rL idxT)),(94,rT)]) (N:=9) tabT (aa ok161 (aa xk160 (aa xk94 ae))) mixed Tryz.func120 rfl Tryz.call120 Tryz.ntmps120 ?_
 rintro args ⟨t,rfl⟩ hwf
 refine ⟨by simp,?_⟩
 clear hwf
 rw [Tryz.results120]
 repeat' first
  | (refine And.intro ?_ ?_)
  | (intro h;simp only [reduceCtorEq] at h;done)
  | (intro h;rw [h])
  | (intro h)
 all_goals first
  | exact True.intro
  | exact Or.inr rfl
  | exact rfl
  | exact ⟨_,_,rfl⟩
  | exact resI (err_0 (by assumption))
  | exact resI (err_1 (by assumption))
theorem WfD.of_rows {e:TypeId} {te:Ty} {rows:List (List D)} (he:T e=some te) (hl:rows.length≤maxLen) (h:∀ r ∈ rows,WfRow T te.cts r):WfD T (.l e) (.l rows) :=
 .sl e te rows he hl (fun k row hk=>(h row (jcE hk)).1) (fun k j ct d row hk hj hd=>(h row (jcE hk)).2 j ct d hj hd)
theorem WfRow.cons {ct:CT} {cts:List CT} {d:D} {r:List D} (h:WfD T ct d) (hr:WfRow T cts r):WfRow T (ct :: cts) (d :: r):=by
 refine ⟨by simp [hr.1],fun j ct' d' h1 h2=>?_⟩
 cases j with
 | zero=>cases h1;cases h2;exact h
 | succ j=>exact hr.2 j ct' d' h1 h2
theorem WfRow.nil:WfRow T [] []:=⟨rfl,fun j ct d h _=>by simp at h⟩
abbrev cR:List CT:=[.l 3,.l 126]
theorem wf7 {k n st:Int} {tx:ByteArray} {l4 l5 l6:List (List D)} (hk:inK .i64 k) (hn:inK .i64 n) (hs:inK .i64 st) (ht:tx.size≤maxLen) (h4:WfD T (.l 57) (.l l4)) (h5:WfD T (.l 9) (.l l5)) (h6:WfD T (.l 101) (.l l6)):WfRow T cV (val7 k n st tx l4 l5 l6) :=
 .cons (.int _ _ hk) (.cons (.int _ _ hn) (.cons (.int _ _ hs) (.cons (.str _ ht) (.cons h4 (.cons h5 (.cons h6 .nil))))))
theorem k0 (c:Int) (h0:-100≤c) (h1:c≤100):inK .i64 c:=by
 have e1:IntKind.i64.min = -9223372036854775808:=by decide
 have e2:IntKind.i64.max=9223372036854775807:=by decide
 rw [inK,e1,e2];omega
theorem nQ:WfRow T cV vNil:=wf7 (k0 0 (by decide) (by decide)) (k0 0 (by decide) (by decide)) (k0 0 (by decide) (by decide)) (by decide) (.nil _) (.nil _) (.nil _)
theorem zL {n:Int} (h:inK .i64 n):WfRow T cV (vNum n):=wf7 (k0 1 (by decide) (by decide)) h (k0 0 (by decide) (by decide)) (by decide) (.nil _) (.nil _) (.nil _)
theorem zN {n:Int} (h:inK .i64 n):WfRow T cV (vErr n):=wf7 (k0 6 (by decide) (by decide)) h (k0 0 (by decide) (by decide)) (by decide) (.nil _) (.nil _) (.nil _)
theorem zI {t:ByteArray} (h:t.size≤maxLen):WfRow T cV (vTxt t):=wf7 (k0 2 (by decide) (by decide)) (k0 0 (by decide) (by decide)) (k0 0 (by decide) (by decide)) h (.nil _) (.nil _) (.nil _)
theorem zK {n st:Int} (h:inK .i64 n) (h2:inK .i64 st):WfRow T cV (vStr n st):=wf7 (k0 4 (by decide) (by decide)) h h2 (by decide) (.nil _) (.nil _) (.nil _)
theorem xK {l:List (List D)} (hl:l.length≤maxLen) (h:∀ r ∈ l,WfRow T cV r):WfRow T cV (vLst l):=wf7 (k0 3 (by decide) (by decide)) (k0 0 (by decide) (by decide)) (k0 0 (by decide) (by decide)) (by decide) (WfD.of_rows (show T 57=some _ from rfl) hl h) (.nil _) (.nil _)
theorem rm {v:List D} (h:WfRow T cV v) {y:List D} (hy:y ∈ lst v):WfRow T cV y:=by
 obtain ⟨i,hi,rfl⟩:=dH [] hy
 exact (h.rows (j:=4) rfl).row rfl hi
theorem rn {v:List D} (h:WfRow T cV v):inK .i64 (iAt v 1):=by
 obtain ⟨d0,r0,rfl,w0,h⟩:=h.cons'
 obtain ⟨d1,r1,rfl,w1,h⟩:=h.cons'
 obtain ⟨n1,rfl,h1⟩:=w1.int'
 exact h1
theorem uI {v:List D} (h:WfRow T cV v):WfRow T cR (aH v):=by
 refine .cons (WfD.of_rows (show T 3=some _ from rfl) ?_ ?_) (.cons (.nil _) .nil)
 · rw [jcw];exact (h.rows (j:=4) rfl).len
 · intro r hr
   obtain ⟨y,hy,rfl⟩:=jc2.1 hr
   exact .cons (.int _ _ (rn (rm h hy))) .nil
theorem zJ {t:ByteArray} {l:List (List D)} (ht:t.size≤1048576) (hl:l.length≤maxLen) (h:∀ r ∈ l,WfRow T cV r):WfRow T cV (vTbl (ac (ah t)) (l.map aH)):=by
 refine wf7 (k0 5 (by decide) (by decide)) (k0 0 (by decide) (by decide)) (k0 0 (by decide) (by decide)) (by decide) (.nil _) (WfD.of_rows (show T 9=some _ from rfl) ?_ ?_) (WfD.of_rows (show T 101=some _ from rfl) ?_ ?_)
 · rw [aG];have:=dN t;simp only [maxLen];omega
 · intro r hr
   obtain ⟨x,hx,rfl⟩:=jc2.1 hr
   exact .cons (.str _ (jcr (fI hx) (by simp only [maxLen];omega))) .nil
 · rw [jcw];exact hl
 · intro r hr
   obtain ⟨v,hv,rfl⟩:=jc2.1 hr
   exact uI (h v hv)
theorem tT (t:ByteArray):inK .i64 (errC t):=by
 have e1:IntKind.i64.min = -9223372036854775808:=by decide
 have e2:IntKind.i64.max=9223372036854775807:=by decide
 have hl:(ac errs).length=9:=rfl
 unfold errC
 split
 · exact k0 0 (by decide) (by decide)
 · rcases dt (ac errs).length (isAt (ac errs) t) with ⟨h,_⟩|⟨i,hi,h,_⟩
   · unfold idxT
     rw [h,inK,e1,e2];decide
   · unfold idxT
     rw [h,inK,e1,e2]
     omega
theorem pd {par:Int→List D × Int} {s:ByteArray} {k0:Int} (hp:∀ k,k0≤k→k≤s.size→Pos s k (wRow (par k).1) (par k).2) (hw:∀ k,k0≤k→k≤s.size→WfRow T cV (par k).1) :
 ∀ (m:Nat) (k:Int) (out:List (List D)),k0≤k→k≤s.size→out.length+m=64→(∀ r ∈ out,WfRow T cV r)→(bv par s m k out).1.length≤64∧∀ r ∈ (bv par s m k out).1,WfRow T cV r
 | 0,_,_,_,_,_,_=>⟨jcl _,fun r hr=>absurd hr (jco)⟩
 | m + 1, k,out,h0,h,hm,ho=>by
   have a:=hp k h0 h
   have w:=hw k h0 h
   have ho' : ∀ r ∈ out++[(par k).1],WfRow T cV r:=by
    intro r hr
    rcases jcU.1 hr with h|h
    · exact ho r h
    · rw [jdb.1 h];exact w
   unfold bv
   split
   · exact ⟨jcl _,fun r hr=>absurd hr (jco)⟩
   · rename_i h1
     rcases a with ⟨a,_⟩|⟨a1,a2,a3⟩
     · omega
     split
     · exact ⟨by show (out++[(par k).1]).length≤64;rw [jcm,jdw];omega,ho'⟩
     · split
       · exact ⟨jcl _,fun r hr=>absurd hr (jco)⟩
       · rename_i h2 h3
         have b:=bp (by simpa using h3)
         have e:(COMMA.size:Int)=2:=rfl
         exact pd hp hw m _ _ (by omega) (by omega) (by rw [jcm,jdw];omega) ho'
theorem wc {par:Int→List D × Int} {s:ByteArray} {k0:Int} (hp:∀ k,k0≤k→k≤s.size→Pos s k (wRow (par k).1) (par k).2) (hw:∀ k,k0≤k→k≤s.size→WfRow T cV (par k).1) (h:k0≤s.size):(itmP par s k0).1.length≤64∧∀ r ∈ (itmP par s k0).1,WfRow T cV r:=by
 unfold itmP
 split
 · exact ⟨jcl _,fun r hr=>absurd hr (jco)⟩
 · exact pd hp hw 64 k0 [] (jc5 _) h rfl (fun r hr=>absurd hr (jco))
theorem kH {s:ByteArray} (hs:s.size≤1048576):∀ (n:Nat) (k:Int),0≤k→k≤s.size→WfRow T cV (parF s n k).1
 | 0,_,_,_=>nQ
 | n+1,k,h0,h=>by
   have itm:∀ k0,0≤k0→k0≤(s.size:Int)→_:=fun k0 h0 h=>wc (par:=parF s n) (s:=s) (k0:=k0) (fun k hk hs=>dj s n k (by omega) hs) (fun k hk hk2=>kH hs n k (by omega) hk2) h
   show WfRow T cV (parP (itmP (parF s n) s) s k).1
   unfold parP
   split
   · refine zI ?_
     rcases cA h0 h with ⟨h1,h2⟩|⟨h1,h2,h3⟩
     · rw [h2];decide
     · simp only [maxLen];omega
   split
   · rename_i h1
     have b:=bp h1
     have e:(LBR.size:Int)=1:=rfl
     have q:=itm (k+1) (by omega) (by omega)
     exact xK (jcr q.1 (by decide)) q.2
   split
   · unfold strP
     repeat' split
     all_goals first
      | exact nQ
      | exact zK (oJ _ _) (oJ _ _)
   split
   · rename_i h1
     have b:=bp h1
     have e:(TBO.size:Int)=6:=rfl
     unfold tabP
     rcases cA (s:=s) (k:=k+6) (by omega) (by omega) with ⟨q1,q2⟩|⟨q1,q2,q3⟩
     · rw [if_pos (by omega)];exact nQ
     rw [if_neg (by omega)]
     split
     · exact nQ
     rename_i c1
     have c2:=bp (by simpa using c1)
     have e3:(CLB.size:Int)=3:=rfl
     have q:=itm ((quoP s (k+6)).2+3) (by omega) (by omega)
     split
     · exact nQ
     split
     · exact nQ
     exact zJ (by omega) (jcr q.1 (by decide)) q.2
   split
   · exact zN (tT _)
   · exact zL (oJ _ _)
theorem xi116 (n:Nat) (hn:FOk Tryz.prog T 80 (spVP cV (Fu n) (fun s k=>parF s n k))):FOk Tryz.prog T 116 (spLP 57 (Fu n) (fun s k=>itmP (parF s n) s k)):=by
 refine fok (env:=envL [(113,fm),(80,(spVP cV (Fu n) (fun s k=>parF s n k)))]) (N:=47) tabT (aa ri (aa hn ae)) mixed Tryz.func116 rfl Tryz.call116 Tryz.ntmps116 ?_
 rintro args ⟨s,k,hp,hf,rfl⟩ hwf
 refine ⟨by simp,?_⟩
 clear hwf
 rw [Tryz.results116]
 repeat' first
  | (refine And.intro ?_ ?_)
  | (intro h;simp only [reduceCtorEq] at h;done)
  | (intro h;rw [h])
  | (intro h)
 all_goals first
  | exact True.intro
  | exact Or.inr rfl
  | exact ⟨_,_,_,hp,by decide,rfl⟩
  | exact resL (jbr (by assumption)) rfl (posC hp (w:=RBR) (by decide) (by assumption)).1
  | skip
 have hr:stB s k RBR=false:=by assumption
 refine am (Q:=_) [0,1,6] [] (fun m st=>∃ (j:Int) (out:List (List D)),st=([sArg s,iArg j,.val false [.sl true 57 out]],[])∧k≤j∧PosIn s j∧out.length+m=64∧bv (parF s n) s m j out=itmP (parF s n) s k) ?_ ?_
 · exact ⟨rfl,64,k,[],rfl,jc5 _,hp,rfl,(jbq hr).symm⟩
 rintro m st ⟨j,out,rfl,hj,pj,hm,hI⟩
 repeat' first
  | (refine And.intro ?_ ?_)
  | (intro h;simp only [reduceCtorEq] at h;done)
  | (intro h;rw [h])
  | (intro h)
 all_goals first
  | exact True.intro
  | exact Or.inr rfl
  | exact ⟨_,_,pj,hf.of hj,rfl⟩
  | (have h0:decide (j ≥ 0)=false:=by assumption
     exact absurd pj.2.1 (by have:=jcv h0;omega))
  | exact resL (hI.symm.trans (itF_0 hm (by assumption))) rfl rfl
  | (obtain ⟨m, rfl⟩:=itF_s hm (by assumption)
     first
      | exact resL (hI.symm.trans (itF_1 (by assumption))) rfl rfl
      | (have hn0:decide ((parF s n j).2 < 0)=false:=by assumption
         have pin:=ja4 pj hn0
         have w7:csD (rowC cV (parF s n j).1)=(parF s n j).1:=aw (kH pj.1 n j pj.2.1 pj.2.2)
         first
          | exact ⟨_,_,_,pin.1,by decide,rfl⟩
          | (show out.length+1≤maxLen;simp only [maxLen];omega)
          | (show (out.length+1) * 112≤_;omega)
          | (refine resL (hI.symm.trans (jbw hn0 (by assumption))) ?_ (posC pin.1 (w:=RBR) (by decide) (by assumption)).1
             show out++([]++[csD (rowC cV (parF s n j).1)])=out++[(parF s n j).1]
             rw [w7];rfl)
          | exact resL (hI.symm.trans (itF_3 hn0 (by assumption) (by assumption))) rfl rfl
          | (show aV _ _;exact rfl)
          | (have hc:=(by assumption:(!stB s (parF s n j).2 COMMA)=false)
             have hq:=posC pin.1 (w:=COMMA) (by decide) (aI hc)
             have hq1:IntKind.i64.wrap ((parF s n j).2+2)=(parF s n j).2+2:=hq.1
             refine ⟨m,jdk _,(parF s n j).2+2,out++[(parF s n j).1],?_,by omega,hq.2,by rw [jcm,jdw];omega,(jbv hn0 (by assumption) hc).symm.trans hI⟩
             refine ef (f:=fun r z=>(([sArg s,iArg z,.val false [.sl true 57 r]],[]):Snap)) (a:=IntKind.i64.wrap ((parF s n j).2+2)) (r:=out++([]++[csD (rowC cV (parF s n j).1)])) ?_ hq1
             rw [w7];rfl)))
theorem xp80 (n:Nat) (hi:FOk Tryz.prog T 116 (spLP 57 (Fu n) (fun s k=>itmP (parF s n) s k))) (ht:FOk Tryz.prog T 118 (spVP cV (Fu n) (fun s k=>tabP (itmP (parF s n) s) s k))):FOk Tryz.prog T 80 (spVP cV (Fu (n+1)) (fun s k=>parF s (n+1) k)):=by
 refine fok (env:=envL [(113,fm),(114,rO),(115,(rS cV vTxt)),(116,(spLP 57 (Fu n) (fun s k=>itmP (parF s n) s k))),(117,(spVP cV (fun _ _=>True) strP)),(118,(spVP cV (Fu n) (fun s k=>tabP (itmP (parF s n) s) s k))),(120,wI),(119,(mN cV vErr)),(121,rU),(98,(mN cV vNum))]) (N:=80) tabT (aa ri (aa zG (aa xk115 (aa hi (aa xk117 (aa ht (aa xk120 (aa xk119 (aa zF (aa xk98 ae)))))))))) mixed Tryz.func80 rfl Tryz.call80 Tryz.ntmps80 ?_
 rintro args ⟨s,k,hp,hf,rfl⟩ hwf
 refine ⟨by simp,?_⟩
 clear hwf
 rw [Tryz.results80]
 repeat' first
  | (refine And.intro ?_ ?_)
  | (intro h;simp only [reduceCtorEq] at h;done)
  | (intro h;rw [h])
  | (intro h)
 all_goals first
  | exact True.intro
  | exact Or.inr rfl
  | exact ⟨_,_,_,hp,by decide,rfl⟩
  | exact ⟨_,_,hp,rfl⟩
  | exact ⟨_,rfl⟩
  | exact resV (jba (by assumption)) rfl rfl
  | exact resV (ja5 (by assumption:stB s k QUO=false) (by assumption:stB s k LBR=false) (by assumption:stB s k RNG=false) (by assumption:stB s k TBO=false) (by assumption:stB s k ERR=false)) rfl rfl
  | (have hy:=(by assumption:stB s k LBR=true)
     have hq:=posC hp (w:=LBR) (by decide) hy
     have hq1:IntKind.i64.wrap (k+1)=k+1:=hq.1
     have hq2:PosIn s (IntKind.i64.wrap (k+1)):=by rw [hq1];exact hq.2
     first
      | exact ⟨_,_,hq2,hf.less (by rw [hq1];exact jc5 _),rfl⟩
      | exact resV (ja9 hq1 (by assumption:stB s k QUO=false) hy) rfl rfl)
  | (have hy:=(by assumption:stB s k RNG=true)
     have hq:=posC hp (w:=RNG) (by decide) hy
     have hq1:IntKind.i64.wrap (k+6)=k+6:=hq.1
     have hq2:PosIn s (IntKind.i64.wrap (k+6)):=by rw [hq1];exact hq.2
     first
      | exact ⟨_,_,hq2,trivial,rfl⟩
      | exact resV (ja8 hq1 (by assumption:stB s k QUO=false) (by assumption:stB s k LBR=false) hy) rfl rfl)
  | (have hy:=(by assumption:stB s k TBO=true)
     have hq:=posC hp (w:=TBO) (by decide) hy
     have hq1:IntKind.i64.wrap (k+6)=k+6:=hq.1
     have hq2:PosIn s (IntKind.i64.wrap (k+6)):=by rw [hq1];exact hq.2
     first
      | exact ⟨_,_,hq2,hf.less (by rw [hq1];omega),rfl⟩
      | exact resV (ja7 hq1 (by assumption:stB s k QUO=false) (by assumption:stB s k LBR=false) (by assumption:stB s k RNG=false) hy) rfl rfl)
  | (have hy:=(by assumption:stB s k ERR=true)
     have hq:=posC hp (w:=ERR) (by decide) hy
     have hq1:IntKind.i64.wrap (k+6)=k+6:=hq.1
     have hq2:PosIn s (IntKind.i64.wrap (k+6)):=by rw [hq1];exact hq.2
     first
      | exact hq2.2.1
      | exact hq2.2.2
      | exact jc5 _
      | (refine resV (ja6 hq1 (by assumption:stB s k QUO=false) (by assumption:stB s k LBR=false) (by assumption:stB s k RNG=false) (by assumption:stB s k TBO=false) hy) ?_ rfl;rfl))
end Go.Proofs.YtcllpknipmcolaaGreatDoor.Ab
