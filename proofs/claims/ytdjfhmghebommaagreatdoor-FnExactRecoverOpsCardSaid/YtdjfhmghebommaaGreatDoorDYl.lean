/- A part. -/
import Derived.Test.YtdjfhmghebommaaGreatDoorDYj
import Derived.Test.YtdjfhmghebommaaGreatDoorDPa
namespace Go.Proofs.YtdjfhmghebommaaGreatDoor.Ab
open Go.RowKit
set_option linter.all false
set_option maxRecDepth 100000
set_option maxHeartbeats 2000000
theorem xk76:FOk Tryz.prog T 76 fp:=by
 refine fok (env:=envL []) (N:=25) tabT af mixed Tryz.func76 rfl Tryz.call76 Tryz.ntmps76 ?_
 rintro args ⟨s,w,k,hp,hw,rfl⟩ hwf
 have hx:IntKind.i64.wrap ((s.size:Int) - k)=(s.size:Int) - k:=by obtain ⟨a,b,d⟩:=hp;exact wr64 (by omega) (by omega)
 have hy:=posK hp (w.size:Int) (by omega) (by omega)
 refine ⟨by simp,?_⟩
 clear hwf
 rw [Tryz.results76]
 repeat' first
  | refine And.intro ?_ ?_
  | (intro h;simp only [reduceCtorEq] at h;done)
  | (intro h;rw [h])
  | intro h
 all_goals first
  | (show aa _=true;kernel_rfl)|(show am _ _=true;kernel_rfl)|exact True.intro|exact Or.inr rfl|exact Or.inl rfl
  | exact resB (st_F hx (by assumption))
  | exact resB (st_T hx hy (by assumption))
  | (have h:=jbO (by assumption:decide (IntKind.i64.wrap ((s.size:Int) - k) ≥ (w.size:Int))=true);obtain ⟨a,b,d⟩:=hp;first|(show (0:Int)≤k;omega)|(show k≤IntKind.i64.wrap (k+(w.size:Int));omega)|(show IntKind.i64.wrap (k+(w.size:Int))≤(s.size:Int);omega))
  | skip
theorem xk85:FOk Tryz.prog T 85 (qB cV vNum):=by
 refine fok (env:=envL []) (N:=5) tabT af mixed Tryz.func85 rfl Tryz.call85 Tryz.ntmps85 ?_
 rintro args ⟨n,rfl⟩ hwf
 refine ⟨by simp,?_⟩
 clear hwf
 rw [Tryz.results85]
 repeat' first
  | refine And.intro ?_ ?_
  | (intro h;simp only [reduceCtorEq] at h;done)
  | (intro h;rw [h])
  | intro h
 all_goals first
  | (show aa _=true;kernel_rfl)|(show am _ _=true;kernel_rfl)|exact True.intro|exact Or.inr rfl|exact Or.inl rfl
  | exact rfl
  | skip
theorem xk82:FOk Tryz.prog T 82 (qB cV vErr):=by
 refine fok (env:=envL []) (N:=5) tabT af mixed Tryz.func82 rfl Tryz.call82 Tryz.ntmps82 ?_
 rintro args ⟨n,rfl⟩ hwf
 refine ⟨by simp,?_⟩
 clear hwf
 rw [Tryz.results82]
 repeat' first
  | refine And.intro ?_ ?_
  | (intro h;simp only [reduceCtorEq] at h;done)
  | (intro h;rw [h])
  | intro h
 all_goals first
  | (show aa _=true;kernel_rfl)|(show am _ _=true;kernel_rfl)|exact True.intro|exact Or.inr rfl|exact Or.inl rfl
  | exact rfl
  | skip
theorem xk78:FOk Tryz.prog T 78 (sa cV vTxt):=by
 refine fok (env:=envL []) (N:=5) tabT af mixed Tryz.func78 rfl Tryz.call78 Tryz.ntmps78 ?_
 rintro args ⟨t,rfl⟩ hwf
 refine ⟨by simp,?_⟩
 clear hwf
 rw [Tryz.results78]
 repeat' first
  | refine And.intro ?_ ?_
  | (intro h;simp only [reduceCtorEq] at h;done)
  | (intro h;rw [h])
  | intro h
 all_goals first
  | (show aa _=true;kernel_rfl)|(show am _ _=true;kernel_rfl)|exact True.intro|exact Or.inr rfl|exact Or.inl rfl
  | exact rfl
  | skip
theorem xk113:FOk Tryz.prog T 113 (zP cV vStr):=by
 refine fok (env:=envL []) (N:=8) tabT af mixed Tryz.func113 rfl Tryz.call113 Tryz.ntmps113 ?_
 rintro args ⟨n,m,rfl⟩ hwf
 refine ⟨by simp,?_⟩
 clear hwf
 rw [Tryz.results113]
 repeat' first
  | refine And.intro ?_ ?_
  | (intro h;simp only [reduceCtorEq] at h;done)
  | (intro h;rw [h])
  | intro h
 all_goals first
  | (show aa _=true;kernel_rfl)|(show am _ _=true;kernel_rfl)|exact True.intro|exact Or.inr rfl|exact Or.inl rfl
  | exact rfl
  | skip
theorem xk84:FOk Tryz.prog T 84 sb:=by
 refine fok (env:=envL [(41,(ou (-999999999999) 999999999999))]) (N:=52) tabT (ac ok41 af) mixed Tryz.func84 rfl Tryz.call84 Tryz.ntmps84 ?_
 rintro args ⟨s,k,hp,rfl⟩ hwf
 obtain ⟨hz,h0,h1⟩:=id hp
 obtain ⟨k,rfl⟩:=jcP h0
 have hk:k≤s.size:=by omega
 refine ⟨by simp,?_⟩
 clear hwf
 rw [Tryz.results84]
 repeat' first
  | refine And.intro ?_ ?_
  | (intro h;simp only [reduceCtorEq] at h;done)
  | (intro h;rw [h])
  | intro h
 all_goals first
  | (show aa _=true;kernel_rfl)|(show am _ _=true;kernel_rfl)|exact True.intro|exact Or.inr rfl|exact Or.inl rfl
  | with_reducible exact jb2 _
  | with_reducible exact jbO (by with_reducible assumption)
  | skip
 all_goals (
  refine ap (Q:=_) [0,1,6] [] (fun m st=>∃ j:Nat,st=([sArg s,iArg (k:Int),iArg (j:Int)],[])∧k≤j∧j≤s.size∧runB digB s j=numE s k∧m=s.size - j) ?_ ?_
  · first
     | (have hlt:=ltN (i:=k) (n:=s.size) (by with_reducible assumption)
        have h45:=(by assumption:(bAt s k == 45)=true)
        refine ⟨rfl,s.size - (k+1),k+1,?_,by omega,by omega,by unfold numE;rw [sgn_y hlt h45],rfl⟩
        exact congrArg (fun z:Int=>(([sArg s,iArg (k:Int),iArg z],[]):Snap)) (posK hp 1 (by decide) (by decide)))
     | exact ⟨rfl,s.size - k,k,rfl,jb4 _,hk,by unfold numE;rw [jag (by assumption)],rfl⟩
     | exact ⟨rfl,s.size - k,k,rfl,jb4 _,hk,by unfold numE;rw [jah (nltN (by with_reducible assumption))],rfl⟩
  rintro m st ⟨j,rfl,j0,j1,jr,rfl⟩
  repeat' first
   | refine And.intro ?_ ?_
   | (intro h;simp only [reduceCtorEq] at h;done)
   | (intro h;rw [h])
   | intro h
  all_goals first
   | (show aa _=true;kernel_rfl)|(show am _ _=true;kernel_rfl)|exact True.intro|exact Or.inr rfl|exact Or.inl rfl
   | with_reducible exact jb2 _
   | with_reducible exact jbO (by with_reducible assumption)
   | (show aT _ _;exact rfl)
   | (have hj:j < s.size:=ltN (by with_reducible assumption)
      refine ⟨s.size - (j+1),by omega,j+1,?_,by omega,by omega,(jm hj (dig_y (by assumption) (by assumption))).symm.trans jr,rfl⟩
      exact congrArg (fun z:Int=>(([sArg s,iArg (k:Int),iArg z],[]):Snap)) (wrapN hj (by simp only [maxLen];omega)))
   | (have je:j=numE s k:=by
       rw [← jr]
       first
        | exact (jo (nltN (by with_reducible assumption))).symm
        | exact (dc (ltN (by with_reducible assumption)) (jbA (by assumption))).symm
        | exact (dc (ltN (by with_reducible assumption)) (jbz (by assumption))).symm
      subst je
      first
       | (show (k:Int)≤(numE s k:Int);omega)
       | (show (numE s k:Int)≤(s.size:Int);omega)
       | (refine ⟨_,?_,rfl⟩;show (s.extract k (numE s k)).size≤_;rw [jcd];omega)
       | exact jak (jbb (s:=s) (k:=(k:Int)) (by assumption)) rfl rfl
       | exact jak (yy (s:=s) (k:=(k:Int)) (by assumption)) rfl rfl)
   | skip)
theorem xk77:FOk Tryz.prog T 77 rV:=by
 refine fok (env:=envL [(76,fp)]) (N:=36) tabT (ac xk76 af) mixed Tryz.func77 rfl Tryz.call77 Tryz.ntmps77 ?_
 rintro args ⟨s,k,hp,rfl⟩ hwf
 obtain ⟨hz,h0,h1⟩:=id hp
 obtain ⟨k,rfl⟩:=jcP h0
 have hk:k≤s.size:=by omega
 refine ⟨by simp,?_⟩
 clear hwf
 rw [Tryz.results77]
 repeat' first
  | refine And.intro ?_ ?_
  | (intro h;simp only [reduceCtorEq] at h;done)
  | (intro h;rw [h])
  | intro h
 all_goals first
  | (show aa _=true;kernel_rfl)|(show am _ _=true;kernel_rfl)|exact True.intro|exact Or.inr rfl|exact Or.inl rfl
  | exact ⟨_,_,_,hp,by decide,rfl⟩
  | exact xS (quo_1 (by assumption)) rfl rfl
  | skip
 have hq:=by assumption
 have hq:(!stB s (k:Int) QUO)=false:=hq
 have hb:=bi (aA hq)
 have hq1:(QUO.size:Int)=1:=rfl
 refine ap (Q:=_) [0,1,6] [] (fun m st=>∃ j:Nat,st=([sArg s,iArg (k:Int),iArg (j:Int)],[])∧k+1≤j∧j≤s.size∧runB (fun b=>b != 34) s j=quoE s (k:Int)∧m=s.size - j) ?_ ?_
 · refine ⟨rfl,s.size - (k+1),k+1,?_,by omega,by omega,rfl,rfl⟩
   exact congrArg (fun z:Int=>(([sArg s,iArg (k:Int),iArg z],[]):Snap)) (posK hp 1 (by decide) (by decide))
 rintro m st ⟨j,rfl,j0,j1,jr,rfl⟩
 repeat' first
  | refine And.intro ?_ ?_
  | (intro h;simp only [reduceCtorEq] at h;done)
  | (intro h;rw [h])
  | intro h
 all_goals first
  | (show aa _=true;kernel_rfl)|(show am _ _=true;kernel_rfl)|exact True.intro|exact Or.inr rfl|exact Or.inl rfl
  | with_reducible exact jb2 _
  | with_reducible exact jbO (by with_reducible assumption)
  | (show aT _ _;exact rfl)
  | (have hj:j < s.size:=ltN (by with_reducible assumption)
     refine ⟨s.size - (j+1),by omega,j+1,?_,by omega,by omega,(jm (P:=fun b=>b != 34) hj (by assumption:(bAt s j != 34)=true)).symm.trans jr,rfl⟩
     exact congrArg (fun z:Int=>(([sArg s,iArg (k:Int),iArg z],[]):Snap)) (wrapN hj (by simp only [maxLen];omega)))
  | (have je:j=quoE s (k:Int):=by
      rw [← jr]
      first
       | exact (jo (nltN (by with_reducible assumption))).symm
       | exact (dc (P:=fun b=>b != 34) (ltN (by with_reducible assumption)) (by assumption:(bAt s j != 34)=false)).symm
     subst je
     have hw:=posK hp 1 (by decide) (by decide)
     have hw2:IntKind.i64.wrap ((quoE s (k:Int):Int)+1)=(quoE s (k:Int):Int)+1:=wr64 (by omega) (by omega)
     first
      | (rw [hw];omega)
      | (show (quoE s (k:Int):Int)≤(s.size:Int);omega)
      | exact xS (quo_2 (k:=(k:Int)) hq (by assumption)) rfl rfl
      | (refine xS (quo_3 (k:=(k:Int)) hq (by assumption)) ?_ hw2;rw [hw];rfl))
  | skip
theorem xk80:FOk Tryz.prog T 80 (spVP cV (fun _ _=>True) strP):=by
 refine fok (env:=envL [(84,sb),(76,fp),(113,(zP cV vStr))]) (N:=46) tabT (ac xk84 (ac xk76 (ac xk113 af))) mixed Tryz.func80 rfl Tryz.call80 Tryz.ntmps80 ?_
 rintro args ⟨s,k,hp,_,rfl⟩ hwf
 refine ⟨by simp,?_⟩
 clear hwf
 rw [Tryz.results80]
 repeat' first
  | refine And.intro ?_ ?_
  | (intro h;simp only [reduceCtorEq] at h;done)
  | (intro h;rw [h])
  | intro h
 all_goals first
  | (show aa _=true;kernel_rfl)|(show am _ _=true;kernel_rfl)|exact True.intro|exact Or.inr rfl|exact Or.inl rfl
  | exact ⟨_,_,hp,rfl⟩
  | exact ⟨_,_,rfl⟩
  | exact resV (zL (by assumption)) rfl rfl
  | exact resV (zK (by assumption) (by assumption)) rfl rfl
  | exact ⟨_,_,_,qc hp (by assumption),by decide,rfl⟩
  | (have h0:=(by assumption:decide ((intP s k).2 < 0)=false)
     have h1:=(by assumption:(!stB s (intP s k).2 COMMA)=false)
     have hc:=posC (qc hp h0) (w:=COMMA) (by decide) (aA h1)
     have hw:IntKind.i64.wrap ((intP s k).2+2)=(intP s k).2+2:=hc.1
     have hp2:PosIn s (IntKind.i64.wrap ((intP s k).2+2)):=by rw [hw];exact hc.2
     first
      | exact ⟨_,_,hp2,rfl⟩
      | exact ⟨_,_,_,qc hp2 (by assumption),by decide,rfl⟩
      | exact resV (zJ hw h0 h1 (by assumption)) rfl rfl
      | exact resV (zI hw h0 h1 (by assumption) (by assumption)) rfl rfl
      | (have h3:=(by assumption:decide ((intP s (IntKind.i64.wrap ((intP s k).2+2))).2 < 0)=false)
         have h4:=(by assumption:(!stB s (intP s (IntKind.i64.wrap ((intP s k).2+2))).2 RPA)=false)
         exact resV (vS hw h0 h1 h3 h4) rfl (posC (qc hp2 h3) (w:=RPA) (by decide) (aA h4)).1))
  | skip
theorem xk83:FOk Tryz.prog T 83 v7:=by
 refine fok (env:=envL [(116,se),(115,(rT idxT)),(114,xL)]) (N:=9) tabT (ac ok116 (ac xk115 (ac yY af))) mixed Tryz.func83 rfl Tryz.call83 Tryz.ntmps83 ?_
 rintro args ⟨t,rfl⟩ hwf
 refine ⟨by simp,?_⟩
 clear hwf
 rw [Tryz.results83]
 repeat' first
  | refine And.intro ?_ ?_
  | (intro h;simp only [reduceCtorEq] at h;done)
  | (intro h;rw [h])
  | intro h
 all_goals first
  | (show aa _=true;kernel_rfl)|(show am _ _=true;kernel_rfl)|exact True.intro|exact Or.inr rfl|exact Or.inl rfl
  | exact rfl
  | exact ⟨_,_,rfl⟩
  | exact resI (err_0 (by assumption))
  | exact resI (err_1 (by assumption))
  | skip
theorem WfD.of_rows {e:TypeId} {te:Ty} {rows:List (List D)} (he:T e=some te) (hl:rows.length≤maxLen) (h:∀ r ∈ rows,WfRow T te.cts r):WfD T (.l e) (.l rows) :=
 .sl e te rows he hl (fun k row hk=>(h row (jb8 hk)).1) (fun k j ct d row hk hj hd=>(h row (jb8 hk)).2 j ct d hj hd)
theorem WfRow.cons {ct:CT} {cts:List CT} {d:D} {r:List D} (h:WfD T ct d) (hr:WfRow T cts r):WfRow T (ct :: cts) (d :: r):=by
 refine ⟨by simp [hr.1],fun j ct' d' h1 h2=>?_⟩
 cases j with
 | zero=>cases h1;cases h2;exact h
 | succ j=>exact hr.2 j ct' d' h1 h2
theorem WfRow.nil:WfRow T [] []:=⟨rfl,fun j ct d h _=>by simp at h⟩
abbrev cR:List CT:=[.l 3,.l 147]
theorem wf7 {k n st:Int} {tx:ByteArray} {l4 l5 l6:List (List D)} (hk:inK .i64 k) (hn:inK .i64 n) (hs:inK .i64 st) (ht:tx.size≤maxLen) (h4:WfD T (.l 53) (.l l4)) (h5:WfD T (.l 9) (.l l5)) (h6:WfD T (.l 126) (.l l6)):WfRow T cV (val7 k n st tx l4 l5 l6) :=
 .cons (.int _ _ hk) (.cons (.int _ _ hn) (.cons (.int _ _ hs) (.cons (.str _ ht) (.cons h4 (.cons h5 (.cons h6 .nil))))))
theorem k0 (c:Int) (h0:-100≤c) (h1:c≤100):inK .i64 c:=by
 have e1:IntKind.i64.min = -9223372036854775808:=by decide
 have e2:IntKind.i64.max=9223372036854775807:=by decide
 rw [inK,e1,e2];omega
theorem nY:WfRow T cV vNil:=wf7 (k0 0 (by decide) (by decide)) (k0 0 (by decide) (by decide)) (k0 0 (by decide) (by decide)) (by decide) (.nil _) (.nil _) (.nil _)
theorem zh {n:Int} (h:inK .i64 n):WfRow T cV (vNum n):=wf7 (k0 1 (by decide) (by decide)) h (k0 0 (by decide) (by decide)) (by decide) (.nil _) (.nil _) (.nil _)
theorem zi {n:Int} (h:inK .i64 n):WfRow T cV (vErr n):=wf7 (k0 6 (by decide) (by decide)) h (k0 0 (by decide) (by decide)) (by decide) (.nil _) (.nil _) (.nil _)
theorem zd {t:ByteArray} (h:t.size≤maxLen):WfRow T cV (vTxt t):=wf7 (k0 2 (by decide) (by decide)) (k0 0 (by decide) (by decide)) (k0 0 (by decide) (by decide)) h (.nil _) (.nil _) (.nil _)
theorem zg {n st:Int} (h:inK .i64 n) (h2:inK .i64 st):WfRow T cV (vStr n st):=wf7 (k0 4 (by decide) (by decide)) h h2 (by decide) (.nil _) (.nil _) (.nil _)
theorem xo {l:List (List D)} (hl:l.length≤maxLen) (h:∀ r ∈ l,WfRow T cV r):WfRow T cV (vLst l):=wf7 (k0 3 (by decide) (by decide)) (k0 0 (by decide) (by decide)) (k0 0 (by decide) (by decide)) (by decide) (WfD.of_rows (show T 53=some _ from rfl) hl h) (.nil _) (.nil _)
theorem mK {v:List D} (h:WfRow T cV v) {y:List D} (hy:y ∈ lst v):WfRow T cV y:=by
 obtain ⟨i,hi,rfl⟩:=dJ [] hy
 exact (h.rows (j:=4) rfl).row rfl hi
theorem mL {v:List D} (h:WfRow T cV v):inK .i64 (iAt v 1):=by
 obtain ⟨d0,r0,rfl,w0,h⟩:=h.cons'
 obtain ⟨d1,r1,rfl,w1,h⟩:=h.cons'
 obtain ⟨n1,rfl,h1⟩:=w1.int'
 exact h1
theorem uE {v:List D} (h:WfRow T cV v):WfRow T cR (aD v):=by
 refine .cons (WfD.of_rows (show T 3=some _ from rfl) ?_ ?_) (.cons (.nil _) .nil)
 · rw [jb0];exact (h.rows (j:=4) rfl).len
 · intro r hr
   obtain ⟨y,hy,rfl⟩:=jcw.1 hr
   exact .cons (.int _ _ (mL (mK h hy))) .nil
theorem zf {t:ByteArray} {l:List (List D)} (ht:t.size≤1048576) (hl:l.length≤maxLen) (h:∀ r ∈ l,WfRow T cV r):WfRow T cV (vTbl (ae (aj t)) (l.map aD)):=by
 refine wf7 (k0 5 (by decide) (by decide)) (k0 0 (by decide) (by decide)) (k0 0 (by decide) (by decide)) (by decide) (.nil _) (WfD.of_rows (show T 9=some _ from rfl) ?_ ?_) (WfD.of_rows (show T 126=some _ from rfl) ?_ ?_)
 · rw [aB];have:=gj t;simp only [maxLen];omega
 · intro r hr
   obtain ⟨x,hx,rfl⟩:=jcw.1 hr
   exact .cons (.str _ (jbV (dO hx) (by simp only [maxLen];omega))) .nil
 · rw [jb0];exact hl
 · intro r hr
   obtain ⟨v,hv,rfl⟩:=jcw.1 hr
   exact uE (h v hv)
theorem tU (t:ByteArray):inK .i64 (errC t):=by
 have e1:IntKind.i64.min = -9223372036854775808:=by decide
 have e2:IntKind.i64.max=9223372036854775807:=by decide
 have hl:(ae errs).length=9:=rfl
 unfold errC
 split
 · exact k0 0 (by decide) (by decide)
 · rcases dz (ae errs).length (isAt (ae errs) t) with ⟨h,_⟩|⟨i,hi,h,_⟩
   · unfold idxT
     rw [h,inK,e1,e2];decide
   · unfold idxT
     rw [h,inK,e1,e2]
     omega
theorem pk {par:Int→List D × Int} {s:ByteArray} {k0:Int} (hp:∀ k,k0≤k→k≤s.size→Pos s k (wRow (par k).1) (par k).2) (hw:∀ k,k0≤k→k≤s.size→WfRow T cV (par k).1) :
 ∀ (m:Nat) (k:Int) (out:List (List D)),k0≤k→k≤s.size→out.length+m=64→(∀ r ∈ out,WfRow T cV r)→(bo par s m k out).1.length≤64∧∀ r ∈ (bo par s m k out).1,WfRow T cV r
 | 0,_,_,_,_,_,_=>⟨jbP _,fun r hr=>absurd hr (jbS)⟩
 | m + 1, k,out,h0,h,hm,ho=>by
   have a:=hp k h0 h
   have w:=hw k h0 h
   have ho' : ∀ r ∈ out++[(par k).1],WfRow T cV r:=by
    intro r hr
    rcases jco.1 hr with h|h
    · exact ho r h
    · rw [jcF.1 h];exact w
   unfold bo
   split
   · exact ⟨jbP _,fun r hr=>absurd hr (jbS)⟩
   · rename_i h1
     rcases a with ⟨a,_⟩|⟨a1,a2,a3⟩
     · omega
     split
     · exact ⟨by show (out++[(par k).1]).length≤64;rw [jbQ,jc0];omega,ho'⟩
     · split
       · exact ⟨jbP _,fun r hr=>absurd hr (jbS)⟩
       · rename_i h2 h3
         have b:=bi (by simpa using h3)
         have e:(COMMA.size:Int)=2:=rfl
         exact pk hp hw m _ _ (by omega) (by omega) (by rw [jbQ,jc0];omega) ho'
theorem vN {par:Int→List D × Int} {s:ByteArray} {k0:Int} (hp:∀ k,k0≤k→k≤s.size→Pos s k (wRow (par k).1) (par k).2) (hw:∀ k,k0≤k→k≤s.size→WfRow T cV (par k).1) (h:k0≤s.size):(itmP par s k0).1.length≤64∧∀ r ∈ (itmP par s k0).1,WfRow T cV r:=by
 unfold itmP
 split
 · exact ⟨jbP _,fun r hr=>absurd hr (jbS)⟩
 · exact pk hp hw 64 k0 [] (jcz _) h rfl (fun r hr=>absurd hr (jbS))
theorem k7 {s:ByteArray} (hs:s.size≤1048576):∀ (n:Nat) (k:Int),0≤k→k≤s.size→WfRow T cV (parF s n k).1
 | 0,_,_,_=>nY
 | n+1,k,h0,h=>by
   have itm:∀ k0,0≤k0→k0≤(s.size:Int)→_:=fun k0 h0 h=>vN (par:=parF s n) (s:=s) (k0:=k0) (fun k hk hs=>dv s n k (by omega) hs) (fun k hk hk2=>k7 hs n k (by omega) hk2) h
   show WfRow T cV (parP (itmP (parF s n) s) s k).1
   unfold parP
   split
   · refine zd ?_
     rcases cB h0 h with ⟨h1,h2⟩|⟨h1,h2,h3⟩
     · rw [h2];decide
     · simp only [maxLen];omega
   split
   · rename_i h1
     have b:=bi h1
     have e:(LBR.size:Int)=1:=rfl
     have q:=itm (k+1) (by omega) (by omega)
     exact xo (jbV q.1 (by decide)) q.2
   split
   · unfold strP
     repeat' split
     all_goals first
      | exact nY
      | exact zg (oQ _ _) (oQ _ _)
   split
   · rename_i h1
     have b:=bi h1
     have e:(TBO.size:Int)=6:=rfl
     unfold tabP
     rcases cB (s:=s) (k:=k+6) (by omega) (by omega) with ⟨q1,q2⟩|⟨q1,q2,q3⟩
     · rw [if_pos (by omega)];exact nY
     rw [if_neg (by omega)]
     split
     · exact nY
     rename_i c1
     have c2:=bi (by simpa using c1)
     have e3:(CLB.size:Int)=3:=rfl
     have q:=itm ((quoP s (k+6)).2+3) (by omega) (by omega)
     split
     · exact nY
     split
     · exact nY
     exact zf (by omega) (jbV q.1 (by decide)) q.2
   split
   · exact zi (tU _)
   · exact zh (oQ _ _)
theorem xi79 (n:Nat) (hn:FOk Tryz.prog T 43 (spVP cV (Fu n) (fun s k=>parF s n k))):FOk Tryz.prog T 79 (spLP 53 (Fu n) (fun s k=>itmP (parF s n) s k)):=by
 refine fok (env:=envL [(76,fp),(43,(spVP cV (Fu n) (fun s k=>parF s n k)))]) (N:=47) tabT (ac xk76 (ac hn af)) mixed Tryz.func79 rfl Tryz.call79 Tryz.ntmps79 ?_
 rintro args ⟨s,k,hp,hf,rfl⟩ hwf
 refine ⟨by simp,?_⟩
 clear hwf
 rw [Tryz.results79]
 repeat' first
  | refine And.intro ?_ ?_
  | (intro h;simp only [reduceCtorEq] at h;done)
  | (intro h;rw [h])
  | intro h
 all_goals first
  | (show aa _=true;kernel_rfl)|(show am _ _=true;kernel_rfl)|exact True.intro|exact Or.inr rfl|exact Or.inl rfl
  | exact ⟨_,_,_,hp,by decide,rfl⟩
  | exact resL (ja7 (by assumption)) rfl (posC hp (w:=RBR) (by decide) (by assumption)).1
  | skip
 have hr:stB s k RBR=false:=by assumption
 refine ap (Q:=_) [0,1,6] [] (fun m st=>∃ (j:Int) (out:List (List D)),st=([sArg s,iArg j,.val false [.sl true 53 out]],[])∧k≤j∧PosIn s j∧out.length+m=64∧bo (parF s n) s m j out=itmP (parF s n) s k) ?_ ?_
 · exact ⟨rfl,64,k,[],rfl,jcz _,hp,rfl,(ja6 hr).symm⟩
 rintro m st ⟨j,out,rfl,hj,pj,hm,hI⟩
 repeat' first
  | refine And.intro ?_ ?_
  | (intro h;simp only [reduceCtorEq] at h;done)
  | (intro h;rw [h])
  | intro h
 all_goals first
  | (show aa _=true;kernel_rfl)|(show am _ _=true;kernel_rfl)|exact True.intro|exact Or.inr rfl|exact Or.inl rfl
  | exact ⟨_,_,pj,hf.of hj,rfl⟩
  | (have h0:decide (j ≥ 0)=false:=by assumption
     exact absurd pj.2.1 (by have:=jbZ h0;omega))
  | exact resL (hI.symm.trans (itF_0 hm (by assumption))) rfl rfl
  | (obtain ⟨m, rfl⟩:=itF_s hm (by assumption)
     first
      | exact resL (hI.symm.trans (itF_1 (by assumption))) rfl rfl
      | (have hn0:decide ((parF s n j).2 < 0)=false:=by assumption
         have pin:=jaI pj hn0
         have w7:csD (rowC cV (parF s n j).1)=(parF s n j).1:=au (k7 pj.1 n j pj.2.1 pj.2.2)
         first
          | exact ⟨_,_,_,pin.1,by decide,rfl⟩
          | (show out.length+1≤maxLen;simp only [maxLen];omega)
          | (show (out.length+1) * 112≤_;omega)
          | (refine resL (hI.symm.trans (jba hn0 (by assumption))) ?_ (posC pin.1 (w:=RBR) (by decide) (by assumption)).1
             show out++([]++[csD (rowC cV (parF s n j).1)])=out++[(parF s n j).1]
             rw [w7];rfl)
          | exact resL (hI.symm.trans (itF_3 hn0 (by assumption) (by assumption))) rfl rfl
          | (show aT _ _;exact rfl)
          | (have hc:=(by assumption:(!stB s (parF s n j).2 COMMA)=false)
             have hq:=posC pin.1 (w:=COMMA) (by decide) (aA hc)
             have hq1:IntKind.i64.wrap ((parF s n j).2+2)=(parF s n j).2+2:=hq.1
             refine ⟨m,jcO _,(parF s n j).2+2,out++[(parF s n j).1],?_,by omega,hq.2,by rw [jbQ,jc0];omega,(ja9 hn0 (by assumption) hc).symm.trans hI⟩
             refine eA (f:=fun r z=>(([sArg s,iArg z,.val false [.sl true 53 r]],[]):Snap)) (a:=IntKind.i64.wrap ((parF s n j).2+2)) (r:=out++([]++[csD (rowC cV (parF s n j).1)])) ?_ hq1
             rw [w7];rfl)))
  | skip
theorem xp43 (n:Nat) (hi:FOk Tryz.prog T 79 (spLP 53 (Fu n) (fun s k=>itmP (parF s n) s k))) (ht:FOk Tryz.prog T 81 (spVP cV (Fu n) (fun s k=>tabP (itmP (parF s n) s) s k))):FOk Tryz.prog T 43 (spVP cV (Fu (n+1)) (fun s k=>parF s (n+1) k)):=by
 refine fok (env:=envL [(76,fp),(77,rV),(78,(sa cV vTxt)),(79,(spLP 53 (Fu n) (fun s k=>itmP (parF s n) s k))),(80,(spVP cV (fun _ _=>True) strP)),(81,(spVP cV (Fu n) (fun s k=>tabP (itmP (parF s n) s) s k))),(83,v7),(82,(qB cV vErr)),(84,sb),(85,(qB cV vNum))]) (N:=80) tabT (ac xk76 (ac xk77 (ac xk78 (ac hi (ac xk80 (ac ht (ac xk83 (ac xk82 (ac xk84 (ac xk85 af)))))))))) mixed Tryz.func43 rfl Tryz.call43 Tryz.ntmps43 ?_
 rintro args ⟨s,k,hp,hf,rfl⟩ hwf
 refine ⟨by simp,?_⟩
 clear hwf
 rw [Tryz.results43]
 repeat' first
  | refine And.intro ?_ ?_
  | (intro h;simp only [reduceCtorEq] at h;done)
  | (intro h;rw [h])
  | intro h
 all_goals first
  | (show aa _=true;kernel_rfl)|(show am _ _=true;kernel_rfl)|exact True.intro|exact Or.inr rfl|exact Or.inl rfl
  | exact ⟨_,_,_,hp,by decide,rfl⟩
  | exact ⟨_,_,hp,rfl⟩
  | exact ⟨_,rfl⟩
  | exact ⟨_,_,rfl⟩
  | exact resV (jaO (by assumption)) rfl rfl
  | exact resV (jaJ (by assumption:stB s k QUO=false) (by assumption:stB s k LBR=false) (by assumption:stB s k RNG=false) (by assumption:stB s k TBO=false) (by assumption:stB s k ERR=false)) rfl rfl
  | (have hy:=(by assumption:stB s k LBR=true)
     have hq:=posC hp (w:=LBR) (by decide) hy
     have hq1:IntKind.i64.wrap (k+1)=k+1:=hq.1
     have hq2:PosIn s (IntKind.i64.wrap (k+1)):=by rw [hq1];exact hq.2
     first
      | exact ⟨_,_,hq2,hf.less (by rw [hq1];exact jcz _),rfl⟩
      | exact resV (jaN hq1 (by assumption:stB s k QUO=false) hy) rfl rfl)
  | (have hy:=(by assumption:stB s k RNG=true)
     have hq:=posC hp (w:=RNG) (by decide) hy
     have hq1:IntKind.i64.wrap (k+6)=k+6:=hq.1
     have hq2:PosIn s (IntKind.i64.wrap (k+6)):=by rw [hq1];exact hq.2
     first
      | exact ⟨_,_,hq2,trivial,rfl⟩
      | exact resV (jaM hq1 (by assumption:stB s k QUO=false) (by assumption:stB s k LBR=false) hy) rfl rfl)
  | (have hy:=(by assumption:stB s k TBO=true)
     have hq:=posC hp (w:=TBO) (by decide) hy
     have hq1:IntKind.i64.wrap (k+6)=k+6:=hq.1
     have hq2:PosIn s (IntKind.i64.wrap (k+6)):=by rw [hq1];exact hq.2
     first
      | exact ⟨_,_,hq2,hf.less (by rw [hq1];omega),rfl⟩
      | exact resV (jaL hq1 (by assumption:stB s k QUO=false) (by assumption:stB s k LBR=false) (by assumption:stB s k RNG=false) hy) rfl rfl)
  | (have hy:=(by assumption:stB s k ERR=true)
     have hq:=posC hp (w:=ERR) (by decide) hy
     have hq1:IntKind.i64.wrap (k+6)=k+6:=hq.1
     have hq2:PosIn s (IntKind.i64.wrap (k+6)):=by rw [hq1];exact hq.2
     first
      | exact hq2.2.1
      | exact hq2.2.2
      | exact jcz _
      | (refine resV (jaK hq1 (by assumption:stB s k QUO=false) (by assumption:stB s k LBR=false) (by assumption:stB s k RNG=false) (by assumption:stB s k TBO=false) hy) ?_ rfl;rfl))
  | skip
theorem xt81 (n:Nat) (itm:ByteArray→Int→List (List D) × Int) (hpos:∀ s k,PosIn s k→(itm s k).2 = -1∨(k < (itm s k).2∧(itm s k).2≤s.size)) (hwt:∀ s k,PosIn s k→aO (itm s k).1≤4194304) (hwf:∀ s k,PosIn s k→(itm s k).1.length≤64∧∀ r ∈ (itm s k).1,WfRow T cV r) (hi:FOk Tryz.prog T 79 (spLP 53 (Fu n) itm)):FOk Tryz.prog T 81 (spVP cV (Fu n) (fun s k=>tabP (itm s) s k)):=by
 refine fok (env:=envL [(77,rV),(76,fp),(79,(spLP 53 (Fu n) itm)),(18,(dT true))]) (N:=88) tabT (ac xk77 (ac xk76 (ac hi (ac ok18 af)))) mixed Tryz.func81 rfl Tryz.call81 Tryz.ntmps81 ?_
 rintro args ⟨s,k,hp,hf,rfl⟩ hwf'
 clear hwf'
 refine ⟨by simp,?_⟩
 rw [Tryz.results81]
 repeat' first
  | refine And.intro ?_ ?_
  | (intro h;simp only [reduceCtorEq] at h;done)
  | (intro h;rw [h])
  | intro h
 all_goals first
  | (show aa _=true;kernel_rfl)|(show am _ _=true;kernel_rfl)|exact True.intro|exact Or.inr rfl|exact Or.inl rfl
  | exact ⟨_,_,hp,rfl⟩
  | exact resV (tab_1 (by assumption)) rfl rfl
  | exact resV (tab_2 (by assumption) (by assumption)) rfl rfl
  | exact ⟨_,_,_,sS hp (by assumption),by decide,rfl⟩
  | (have c0:decide ((quoP s k).2 < 0)=false:=by assumption
     have c1:(!stB s (quoP s k).2 CLB)=false:=by assumption
     have hq:=posC (sS hp c0) (w:=CLB) (by decide) (aA c1)
     have hy:(IntKind.i64.wrap ((quoP s k).2+3))=(quoP s k).2+3:=hq.1
     have py:PosIn s (IntKind.i64.wrap ((quoP s k).2+3)):=by rw [hy];exact hq.2
     have gk:k≤(IntKind.i64.wrap ((quoP s k).2+3)):=by
      rw [hy]
      rcases cB hp.2.1 hp.2.2 with h|h
      · have:=jbZ c0;omega
      · omega
     first
      | exact ⟨_,_,py,hf.of gk,rfl⟩
      | exact resV (tab_3 hy c0 c1 (by assumption)) rfl rfl
      | exact resV (tab_4 hy c0 c1 (by assumption) (by assumption)) rfl rfl
      | (have c2:decide ((itm s (IntKind.i64.wrap ((quoP s k).2+3))).2 < 0)=false:=by assumption
         have pin:PosIn s (itm s (IntKind.i64.wrap ((quoP s k).2+3))).2:=by
          rcases hpos s (IntKind.i64.wrap ((quoP s k).2+3)) py with h|h
          · have:=jbZ c2;omega
          · exact ⟨py.1,by have:=py.2.1;omega,h.2⟩
         first
          | exact ⟨_,_,_,pin,by decide,rfl⟩
          | (refine ⟨_,?_,rfl⟩
             rcases cB hp.2.1 hp.2.2 with h|h
             · rw [h.2];decide
             · have:=hp.1;have:=hp.2.1;omega)))
  | skip
 have c0:decide ((quoP s k).2 < 0)=false:=by assumption
 have c1:(!stB s (quoP s k).2 CLB)=false:=by assumption
 have c2:decide ((itm s (IntKind.i64.wrap ((quoP s k).2+3))).2 < 0)=false:=by assumption
 have c3:(!stB s (itm s (IntKind.i64.wrap ((quoP s k).2+3))).2 RPA)=false:=by assumption
 have hq:=posC (sS hp c0) (w:=CLB) (by decide) (aA c1)
 have hy:(IntKind.i64.wrap ((quoP s k).2+3))=(quoP s k).2+3:=hq.1
 have py:PosIn s (IntKind.i64.wrap ((quoP s k).2+3)):=by rw [hy];exact hq.2
 have pin:PosIn s (itm s (IntKind.i64.wrap ((quoP s k).2+3))).2:=by
  rcases hpos s (IntKind.i64.wrap ((quoP s k).2+3)) py with h|h
  · have:=jbZ c2;omega
  · exact ⟨py.1,by have:=py.2.1;omega,h.2⟩
 have hz:=(posC pin (w:=RPA) (by decide) (aA c3)).1
 have hw:=hwf s (IntKind.i64.wrap ((quoP s k).2+3)) py
 have hwr:=hwt s (IntKind.i64.wrap ((quoP s k).2+3)) py
 generalize hR:itm s (IntKind.i64.wrap ((quoP s k).2+3))=R at *
 have hl:R.1.length≤64:=hw.1
 have hl' : R.1.length≤maxLen:=jbV hl (by decide)
 refine ap (Q:=_) [4,8,9,10,11] [4,10] (fun m st=>∃ i:Nat,st=([.ptr 4 1 0,argS 53 R.1,iArg R.2,.ptr 10 1 0,iArg (i:Int)],[(1,[.val false [.i .i64 0],.val false [.i .i64 0],.val false [.i .i64 0],.val false [.s ByteArray.empty],.val false [.sl true 53 []],.val false [.sl true 9 []],.val false [.sl true 126 []]]),(1,[.val false [.i .i64 5],.val false [.i .i64 0],.val false [.i .i64 0],.val false [.s ByteArray.empty],.val false [.sl true 53 []],.val false [.sl true 9 (ae (aj (quoP s k).1))],.val false [.sl true 126 ((R.1.take i).map aD)]])])∧i≤R.1.length∧m=R.1.length - i) ?_ ?_
 · exact ⟨rfl,R.1.length,0,rfl,jbP _,rfl⟩
 rintro m st ⟨i,rfl,hle,rfl⟩
 repeat' first
  | refine And.intro ?_ ?_
  | (intro h;simp only [reduceCtorEq] at h;done)
  | (intro h;rw [h])
  | intro h
 all_goals first
  | (show aa _=true;kernel_rfl)|(show am _ _=true;kernel_rfl)|exact True.intro|exact Or.inr rfl|exact Or.inl rfl
  | (have hi:¬ i < R.1.length:=nltN (by assumption)
     refine resV (zG (itm:=itm s) (y:=(IntKind.i64.wrap ((quoP s k).2+3))) hy c0 c1 (by rw [hR];exact c2) (by rw [hR];exact c3)) ?_ (by rw [hR];exact hz)
     rw [hR]
     rw [cA hi]
     rfl)
  | skip
 have hi:i < R.1.length:=ltN (by assumption)
 have wv:WfRow T cV (rAt R.1 i):=by
  refine hw.2 _ ?_
  show R.1.getD i [] ∈ R.1
  rw [jbT,jbN hi]
  exact jde hi
 have wl:=(wv.rows (j:=4) rfl).len
 have wl' : (lst (rAt R.1 i)).length≤maxLen:=wl
 have wvl:(lst (rAt R.1 i)).length≤4194304:=by
  have h1:=nZ hi
  have h2:=cT (rAt R.1 i) 4
  have h3:wRow (rAt R.1 i)≤aO R.1:=h1
  show ((rAt R.1 i).getD 4 default).rows.length≤_
  omega
 refine ap (Q:=_) [4,8,9,10,11,12,13] [4,10,12] (fun m st=>∃ k' : Nat,st=([.ptr 4 1 0,argS 53 R.1,iArg R.2,.ptr 10 1 0,iArg (i:Int),.ptr 12 1 0,iArg (k' : Int)],[(1,[.val false [.i .i64 0],.val false [.i .i64 0],.val false [.i .i64 0],.val false [.s ByteArray.empty],.val false [.sl true 53 []],.val false [.sl true 9 []],.val false [.sl true 126 []]]),(1,[.val false [.i .i64 5],.val false [.i .i64 0],.val false [.i .i64 0],.val false [.s ByteArray.empty],.val false [.sl true 53 []],.val false [.sl true 9 (ae (aj (quoP s k).1))],.val false [.sl true 126 ((R.1.take i).map aD)]]),(1,[.val false [.sl true 3 (((lst (rAt R.1 i)).take k').map fun y=>[D.i (iAt y 1)])],.val false [.sl true 147 []]])])∧k' ≤ (lst (rAt R.1 i)).length∧m=(lst (rAt R.1 i)).length - k') ?_ ?_
 · exact ⟨rfl,(lst (rAt R.1 i)).length,0,rfl,jbP _,rfl⟩
 rintro m st ⟨k',rfl,kle,rfl⟩
 repeat' first
  | refine And.intro ?_ ?_
  | (intro h;simp only [reduceCtorEq] at h;done)
  | (intro h;rw [h])
  | intro h
 all_goals first
  | (show aa _=true;kernel_rfl)|(show am _ _=true;kernel_rfl)|exact True.intro|exact Or.inr rfl|exact Or.inl rfl
  | with_reducible exact jb2 _
  | (show (i:Int) < _;omega)
  | (show (Int.toNat (i:Int)) < _;rw [jca];exact hi)
  | (have hk:k' < (lst (rAt R.1 i)).length:=ltN (by assumption)
     first
      | (show (k' : Int) < ((lst (rAt R.1 i)).length:Int);omega)
      | (show (Int.toNat (k' : Int)) < _;rw [jca];exact hk)
      | exact mL (mK wv (by show (lst (rAt R.1 i)).getD k' [] ∈ _;rw [jbT,jbN hk];exact jde hk))
      | (show (((lst (rAt R.1 i)).take k').map _).length+1≤maxLen;rw [jb0,jb7];omega)
      | (show ((((lst (rAt R.1 i)).take k').map _).length+1) * 8≤_;rw [jb0,jb7];omega)
      | (show aT _ _;exact rfl)
      | (refine ⟨(lst (rAt R.1 i)).length - (k' + 1),by omega,k' + 1,?_,by omega,rfl⟩
         exact eA (f:=fun r z=>(([.ptr 4 1 0,argS 53 R.1,iArg R.2,.ptr 10 1 0,iArg (i:Int),.ptr 12 1 0,iArg z],[(1,[.val false [.i .i64 0],.val false [.i .i64 0],.val false [.i .i64 0],.val false [.s ByteArray.empty],.val false [.sl true 53 []],.val false [.sl true 9 []],.val false [.sl true 126 []]]),(1,[.val false [.i .i64 5],.val false [.i .i64 0],.val false [.i .i64 0],.val false [.s ByteArray.empty],.val false [.sl true 53 []],.val false [.sl true 9 (ae (aj (quoP s k).1))],.val false [.sl true 126 ((R.1.take i).map aD)]]),(1,[.val false [.sl true 3 r],.val false [.sl true 147 []]])]):Snap)) (eS (fun y=>[D.i (iAt y 1)]) hk) (wrapN hk wl')))
  | (have hk:¬ k' < (lst (rAt R.1 i)).length:=nltN (by assumption)
     first
      | (show ((R.1.take i).map aD).length+1≤maxLen;rw [jb0,jb7];simp only [maxLen];omega)
      | (show (((R.1.take i).map aD).length+1) * 48≤_;rw [jb0,jb7];omega)
      | (show aT _ _;exact rfl)
      | (refine ⟨R.1.length - (i+1),by omega,i+1,?_,by omega,rfl⟩
         refine eA (f:=fun r z=>(([.ptr 4 1 0,argS 53 R.1,iArg R.2,.ptr 10 1 0,iArg z],[(1,[.val false [.i .i64 0],.val false [.i .i64 0],.val false [.i .i64 0],.val false [.s ByteArray.empty],.val false [.sl true 53 []],.val false [.sl true 9 []],.val false [.sl true 126 []]]),(1,[.val false [.i .i64 5],.val false [.i .i64 0],.val false [.i .i64 0],.val false [.s ByteArray.empty],.val false [.sl true 53 []],.val false [.sl true 9 (ae (aj (quoP s k).1))],.val false [.sl true 126 r]])]):Snap)) ?_ (wrapN hi hl')
         refine jdk ?_ (eS aD hi)
         rw [cA hk]
         rfl))
  | skip
theorem yU:∀ n,FOk Tryz.prog T 43 (spVP cV (Fu n) (fun s k=>parF s n k)):=by
 intro n
 induction n with
 | zero =>
   exact fok (env:=envL []) (N:=80) tabT af mixed Tryz.func43 rfl Tryz.call43 Tryz.ntmps43 fun args h=>by
    obtain ⟨s,k,hp,hf,rfl⟩:=h
    have:=hp.2.2
    unfold Fu at hf
    omega
 | succ n ih =>
   have hi:FOk Tryz.prog T 79 (spLP 53 (Fu n) (fun s k=>itmP (parF s n) s k)):=xi79 n ih
   exact xp43 n hi (xt81 n (fun s k=>itmP (parF s n) s k) (fun s k hp=>by
    rcases mh (par:=parF s n) (s:=s) (k0:=k) (fun j hk hs=>dv s n j (by have:=hp.2.1;omega) hs) hp.2.2 with h|h
    · exact .inl h.1
    · exact .inr ⟨h.1,h.2.1⟩) (fun s k hp=>by
    rcases mh (par:=parF s n) (s:=s) (k0:=k) (fun j hk hs=>dv s n j (by have:=hp.2.1;omega) hs) hp.2.2 with h|h
    · show aO (itmP (parF s n) s k).1≤_
      rw [h.2];exact jbP _
    · have:=hp.1;have:=hp.2.1
      show aO (itmP (parF s n) s k).1≤_
      omega) (fun s k hp=>vN (par:=parF s n) (s:=s) (k0:=k) (fun j hk hs=>dv s n j (by have:=hp.2.1;omega) hs) (fun j hk hs=>k7 hp.1 n j (by have:=hp.2.1;omega) hs) hp.2.2) hi)
theorem xv21 (n:Nat) (par:ByteArray→Int→List D × Int) (hwf:∀ s,s.size≤1048576→WfRow T cV (par s 0).1) (hwt:∀ s,s.size≤1048576→wRow (par s 0).1≤WM) (hp:FOk Tryz.prog T 43 (spVP cV (Fu n) par)):FOk Tryz.prog T 21 (spPV cV n (fun s=>pvOf (par s 0).1 ((par s 0).2 == (s.size:Int)) s)):=by
 refine fok (env:=envL [(43,(spVP cV (Fu n) par)),(44,(spGT T cV SmM fmtO))]) (N:=27) tabT (ac hp (ac xk44 af)) mixed Tryz.func21 rfl Tryz.call21 Tryz.ntmps21 ?_
 rintro args ⟨s,hs,hn,rfl⟩ hwf'
 clear hwf'
 have w:=hwf s hs
 have wt:=hwt s hs
 have w7:csD (rowC cV (par s 0).1)=(par s 0).1:=au w
 refine ⟨by simp,?_⟩
 rw [Tryz.results21]
 repeat' first
  | refine And.intro ?_ ?_
  | (intro h;simp only [reduceCtorEq] at h;done)
  | (intro h;rw [h])
  | intro h
 all_goals first
  | (show aa _=true;kernel_rfl)|(show am _ _=true;kernel_rfl)|exact True.intro|exact Or.inr rfl|exact Or.inl rfl
  | exact ⟨_,_,⟨hs,jcz _,jb2 _⟩,(by unfold Fu;omega),rfl⟩
  | exact ⟨_,w,wt,rfl⟩
  | exact oE (pv_1 (jbG (by assumption))) rfl rfl
  | (have hz:(!(fmtO (par s 0).1).toList == s.toList)=true:=(by rw [← w7];assumption)
     exact oE (pv_2 hz) rfl rfl)
  | exact oE (pv_3 (by assumption)) rfl rfl
  | (have hz:(!(fmtO (par s 0).1).toList == s.toList)=false:=(by rw [← w7];assumption)
     exact oE (pv_4 (jbH (by assumption)) hz (by assumption)) rfl rfl)
  | skip
theorem xk21 (n:Nat):FOk Tryz.prog T 21 (spPV cV n (pvS n)) :=
 xv21 n (fun s k=>parF s n k) (fun s hs=>k7 hs n 0 (jcz _) (by omega)) (fun s hs=>by
  have h:=dv s n 0 (jcz _) (by omega)
  show wRow (parF s n 0).1≤1099511627776
  rcases h with h|h
  · omega
  · omega) (yU n)
end Go.Proofs.YtdjfhmghebommaaGreatDoor.Ab
