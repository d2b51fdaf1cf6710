/- A part. -/
import Derived.Test.YtdkofgjbbdbglaaGreatDoorCYj
import Derived.Test.YtdkofgjbbdbglaaGreatDoorCPa
namespace Go.Proofs.YtdkofgjbbdbglaaGreatDoor.Ab
open Go.RowKit
set_option linter.all false
set_option maxRecDepth 100000
set_option maxHeartbeats 2000000
theorem rr:FOk Tryz.prog T 125 ft:=by
 refine fok (env:=envL []) (N:=25) tabT ae mixed Tryz.func125 rfl Tryz.call125 Tryz.ntmps125 ?_
 rintro args ⟨s,w,k,hp,hw,rfl⟩ hwf
 have hx:IntKind.i64.wrap ((s.size:Int) - k)=(s.size:Int) - k:=by obtain ⟨a,b,d⟩:=hp;exact wr64 (by omega) (by omega)
 have hy:=posK hp (w.size:Int) (by omega) (by omega)
 refine ⟨by simp,?_⟩
 clear hwf
 rw [Tryz.results125]
 repeat' first
  | refine And.intro ?_ ?_
  | (intro h;simp only [reduceCtorEq] at h;done)
  | (intro h;rw [h])
  | intro h
 all_goals first
  | exact True.intro
  | exact Or.inr rfl
  | exact resB (st_F hx (by assumption))
  | exact resB (st_T hx hy (by assumption))
  | (have h:=jc6 (by assumption:decide (IntKind.i64.wrap ((s.size:Int) - k) ≥ (w.size:Int))=true);obtain ⟨a,b,d⟩:=hp;first|(show (0:Int)≤k;omega)|(show k≤IntKind.i64.wrap (k+(w.size:Int));omega)|(show IntKind.i64.wrap (k+(w.size:Int))≤(s.size:Int);omega))
theorem xk81:FOk Tryz.prog T 81 (mT cV vNum):=by
 refine fok (env:=envL []) (N:=5) tabT ae mixed Tryz.func81 rfl Tryz.call81 Tryz.ntmps81 ?_
 rintro args ⟨n,rfl⟩ hwf
 refine ⟨by simp,?_⟩
 clear hwf
 rw [Tryz.results81]
 repeat' first
  | refine And.intro ?_ ?_
  | (intro h;simp only [reduceCtorEq] at h;done)
  | (intro h;rw [h])
  | intro h
 all_goals first
  | exact True.intro
  | exact Or.inr rfl
  | exact rfl
theorem xk131:FOk Tryz.prog T 131 (mT cV vErr):=by
 refine fok (env:=envL []) (N:=5) tabT ae mixed Tryz.func131 rfl Tryz.call131 Tryz.ntmps131 ?_
 rintro args ⟨n,rfl⟩ hwf
 refine ⟨by simp,?_⟩
 clear hwf
 rw [Tryz.results131]
 repeat' first
  | refine And.intro ?_ ?_
  | (intro h;simp only [reduceCtorEq] at h;done)
  | (intro h;rw [h])
  | intro h
 all_goals first
  | exact True.intro
  | exact Or.inr rfl
  | exact rfl
theorem xk127:FOk Tryz.prog T 127 (r9 cV vTxt):=by
 refine fok (env:=envL []) (N:=5) tabT ae mixed Tryz.func127 rfl Tryz.call127 Tryz.ntmps127 ?_
 rintro args ⟨t,rfl⟩ hwf
 refine ⟨by simp,?_⟩
 clear hwf
 rw [Tryz.results127]
 repeat' first
  | refine And.intro ?_ ?_
  | (intro h;simp only [reduceCtorEq] at h;done)
  | (intro h;rw [h])
  | intro h
 all_goals first
  | exact True.intro
  | exact Or.inr rfl
  | exact rfl
theorem xk174:FOk Tryz.prog T 174 (vu cV vStr):=by
 refine fok (env:=envL []) (N:=8) tabT ae mixed Tryz.func174 rfl Tryz.call174 Tryz.ntmps174 ?_
 rintro args ⟨n,m,rfl⟩ hwf
 refine ⟨by simp,?_⟩
 clear hwf
 rw [Tryz.results174]
 repeat' first
  | refine And.intro ?_ ?_
  | (intro h;simp only [reduceCtorEq] at h;done)
  | (intro h;rw [h])
  | intro h
 all_goals first
  | exact True.intro
  | exact Or.inr rfl
  | exact rfl
theorem jai:FOk Tryz.prog T 133 sb:=by
 refine fok (env:=envL [(95,(rZ (-999999999999) 999999999999))]) (N:=52) tabT (aa ok95 ae) mixed Tryz.func133 rfl Tryz.call133 Tryz.ntmps133 ?_
 rintro args ⟨s,k,hp,rfl⟩ hwf
 obtain ⟨hz,h0,h1⟩:=id hp
 obtain ⟨k,rfl⟩:=jd7 h0
 have hk:k≤s.size:=by omega
 refine ⟨by simp,?_⟩
 clear hwf
 rw [Tryz.results133]
 repeat' first
  | refine And.intro ?_ ?_
  | (intro h;simp only [reduceCtorEq] at h;done)
  | (intro h;rw [h])
  | intro h
 all_goals first
  | with_reducible exact jdk _
  | with_reducible exact jc6 (by with_reducible assumption)
  | skip
 all_goals (
  refine aj (Q:=_) [0,1,6] [] (fun m st=>∃ j:Nat,st=([sArg s,iArg (k:Int),iArg (j:Int)],[])∧k≤j∧j≤s.size∧runB digB s j=numE s k∧m=s.size - j) ?_ ?_
  · first
     | (have hlt:=ltN (i:=k) (n:=s.size) (by with_reducible assumption)
        have h45:=(by assumption:(bAt s k == 45)=true)
        refine ⟨rfl,s.size - (k+1),k+1,?_,by omega,by omega,by unfold numE;rw [sgn_y hlt h45],rfl⟩
        exact congrArg (fun z:Int=>(([sArg s,iArg (k:Int),iArg z],[]):Snap)) (posK hp 1 (by decide) (by decide)))
     | exact ⟨rfl,s.size - k,k,rfl,jdm _,hk,by unfold numE;rw [jbs (by assumption)],rfl⟩
     | exact ⟨rfl,s.size - k,k,rfl,jdm _,hk,by unfold numE;rw [jbt (nltN (by with_reducible assumption))],rfl⟩
  rintro m st ⟨j,rfl,j0,j1,jr,rfl⟩
  repeat' first
   | refine And.intro ?_ ?_
   | (intro h;simp only [reduceCtorEq] at h;done)
   | (intro h;rw [h])
   | intro h
  all_goals first
   | exact True.intro
   | exact Or.inr rfl
   | with_reducible exact jdk _
   | with_reducible exact jc6 (by with_reducible assumption)
   | (show aX _ _;exact rfl)
   | (have hj:j < s.size:=ltN (by with_reducible assumption)
      refine ⟨s.size - (j+1),by omega,j+1,?_,by omega,by omega,(lT hj (dig_y (by assumption) (by assumption))).symm.trans jr,rfl⟩
      exact congrArg (fun z:Int=>(([sArg s,iArg (k:Int),iArg z],[]):Snap)) (wrapN hj (by simp only [maxLen];omega)))
   | (have je:j=numE s k:=by
       rw [← jr]
       first
        | exact (lU (nltN (by with_reducible assumption))).symm
        | exact (eO (ltN (by with_reducible assumption)) (jcJ (by assumption))).symm
        | exact (eO (ltN (by with_reducible assumption)) (jcI (by assumption))).symm
      subst je
      first
       | (show (k:Int)≤(numE s k:Int);omega)
       | (show (numE s k:Int)≤(s.size:Int);omega)
       | (refine ⟨_,?_,rfl⟩;show (s.extract k (numE s k)).size≤_;rw [jdv];omega)
       | exact jbv (jck (s:=s) (k:=(k:Int)) (by assumption)) rfl rfl
       | exact jbv (zC (s:=s) (k:=(k:Int)) (by assumption)) rfl rfl))
theorem jaj:FOk Tryz.prog T 126 rY:=by
 refine fok (env:=envL [(125,ft)]) (N:=36) tabT (aa rr ae) mixed Tryz.func126 rfl Tryz.call126 Tryz.ntmps126 ?_
 rintro args ⟨s,k,hp,rfl⟩ hwf
 obtain ⟨hz,h0,h1⟩:=id hp
 obtain ⟨k,rfl⟩:=jd7 h0
 have hk:k≤s.size:=by omega
 refine ⟨by simp,?_⟩
 clear hwf
 rw [Tryz.results126]
 repeat' first
  | refine And.intro ?_ ?_
  | (intro h;simp only [reduceCtorEq] at h;done)
  | (intro h;rw [h])
  | intro h
 all_goals first
  | exact True.intro
  | exact Or.inr rfl
  | exact ⟨_,_,_,hp,by decide,rfl⟩
  | exact yT (quo_1 (by assumption)) rfl rfl
  | skip
 have hq:=by assumption
 have hq:(!stB s (k:Int) QUO)=false:=hq
 have hb:=bp (aE hq)
 have hq1:(QUO.size:Int)=1:=rfl
 refine aj (Q:=_) [0,1,6] [] (fun m st=>∃ j:Nat,st=([sArg s,iArg (k:Int),iArg (j:Int)],[])∧k+1≤j∧j≤s.size∧runB (fun b=>b != 34) s j=quoE s (k:Int)∧m=s.size - j) ?_ ?_
 · refine ⟨rfl,s.size - (k+1),k+1,?_,by omega,by omega,rfl,rfl⟩
   exact congrArg (fun z:Int=>(([sArg s,iArg (k:Int),iArg z],[]):Snap)) (posK hp 1 (by decide) (by decide))
 rintro m st ⟨j,rfl,j0,j1,jr,rfl⟩
 repeat' first
  | refine And.intro ?_ ?_
  | (intro h;simp only [reduceCtorEq] at h;done)
  | (intro h;rw [h])
  | intro h
 all_goals first
  | exact True.intro
  | exact Or.inr rfl
  | with_reducible exact jdk _
  | with_reducible exact jc6 (by with_reducible assumption)
  | (show aX _ _;exact rfl)
  | (have hj:j < s.size:=ltN (by with_reducible assumption)
     refine ⟨s.size - (j+1),by omega,j+1,?_,by omega,by omega,(lT (P:=fun b=>b != 34) hj (by assumption:(bAt s j != 34)=true)).symm.trans jr,rfl⟩
     exact congrArg (fun z:Int=>(([sArg s,iArg (k:Int),iArg z],[]):Snap)) (wrapN hj (by simp only [maxLen];omega)))
  | (have je:j=quoE s (k:Int):=by
      rw [← jr]
      first
       | exact (lU (nltN (by with_reducible assumption))).symm
       | exact (eO (P:=fun b=>b != 34) (ltN (by with_reducible assumption)) (by assumption:(bAt s j != 34)=false)).symm
     subst je
     have hw:=posK hp 1 (by decide) (by decide)
     have hw2:IntKind.i64.wrap ((quoE s (k:Int):Int)+1)=(quoE s (k:Int):Int)+1:=wr64 (by omega) (by omega)
     first
      | (rw [hw];omega)
      | (show (quoE s (k:Int):Int)≤(s.size:Int);omega)
      | exact yT (quo_2 (k:=(k:Int)) hq (by assumption)) rfl rfl
      | (refine yT (quo_3 (k:=(k:Int)) hq (by assumption)) ?_ hw2;rw [hw];rfl))
theorem xk129:FOk Tryz.prog T 129 (spVP cV (fun _ _=>True) strP):=by
 refine fok (env:=envL [(133,sb),(125,ft),(174,(vu cV vStr))]) (N:=46) tabT (aa jai (aa rr (aa xk174 ae))) mixed Tryz.func129 rfl Tryz.call129 Tryz.ntmps129 ?_
 rintro args ⟨s,k,hp,_,rfl⟩ hwf
 refine ⟨by simp,?_⟩
 clear hwf
 rw [Tryz.results129]
 repeat' first
  | refine And.intro ?_ ?_
  | (intro h;simp only [reduceCtorEq] at h;done)
  | (intro h;rw [h])
  | intro h
 all_goals first
  | exact True.intro
  | exact Or.inr rfl
  | exact ⟨_,_,hp,rfl⟩
  | exact ⟨_,_,rfl⟩
  | exact resV (ja1 (by assumption)) rfl rfl
  | exact resV (ja0 (by assumption) (by assumption)) rfl rfl
  | exact ⟨_,_,_,qd hp (by assumption),by decide,rfl⟩
  | (have h0:=(by assumption:decide ((intP s k).2 < 0)=false)
     have h1:=(by assumption:(!stB s (intP s k).2 COMMA)=false)
     have hc:=posC (qd hp h0) (w:=COMMA) (by decide) (aE h1)
     have hw:IntKind.i64.wrap ((intP s k).2+2)=(intP s k).2+2:=hc.1
     have hp2:PosIn s (IntKind.i64.wrap ((intP s k).2+2)):=by rw [hw];exact hc.2
     first
      | exact ⟨_,_,hp2,rfl⟩
      | exact ⟨_,_,_,qd hp2 (by assumption),by decide,rfl⟩
      | exact resV (jaZ hw h0 h1 (by assumption)) rfl rfl
      | exact resV (jaY hw h0 h1 (by assumption) (by assumption)) rfl rfl
      | (have h3:=(by assumption:decide ((intP s (IntKind.i64.wrap ((intP s k).2+2))).2 < 0)=false)
         have h4:=(by assumption:(!stB s (intP s (IntKind.i64.wrap ((intP s k).2+2))).2 RPA)=false)
         exact resV (wX hw h0 h1 h3 h4) rfl (posC (qd hp2 h3) (w:=RPA) (by decide) (aE h4)).1))
theorem xk132:FOk Tryz.prog T 132 xh:=by
 refine fok (env:=envL [(173,se),(175,(rW idxT)),(77,sa)]) (N:=9) tabT (aa ok173 (aa xk175 (aa xk77 ae))) mixed Tryz.func132 rfl Tryz.call132 Tryz.ntmps132 ?_
 rintro args ⟨t,rfl⟩ hwf
 refine ⟨by simp,?_⟩
 clear hwf
 rw [Tryz.results132]
 repeat' first
  | refine And.intro ?_ ?_
  | (intro h;simp only [reduceCtorEq] at h;done)
  | (intro h;rw [h])
  | intro h
 all_goals first
  | exact True.intro
  | exact Or.inr rfl
  | exact rfl
  | exact ⟨_,_,rfl⟩
  | exact resI (err_0 (by assumption))
  | exact resI (err_1 (by assumption))
theorem WfD.of_rows {e:TypeId} {te:Ty} {rows:List (List D)} (he:T e=some te) (hl:rows.length≤maxLen) (h:∀ r ∈ rows,WfRow T te.cts r):WfD T (.l e) (.l rows) :=
 .sl e te rows he hl (fun k row hk=>(h row (jdq hk)).1) (fun k j ct d row hk hj hd=>(h row (jdq hk)).2 j ct d hj hd)
theorem WfRow.cons {ct:CT} {cts:List CT} {d:D} {r:List D} (h:WfD T ct d) (hr:WfRow T cts r):WfRow T (ct :: cts) (d :: r):=by
 refine ⟨by simp [hr.1],fun j ct' d' h1 h2=>?_⟩
 cases j with
 | zero=>cases h1;cases h2;exact h
 | succ j=>exact hr.2 j ct' d' h1 h2
theorem WfRow.nil:WfRow T [] []:=⟨rfl,fun j ct d h _=>by simp at h⟩
abbrev cR:List CT:=[.l 3,.l 150]
theorem wf7 {k n st:Int} {tx:ByteArray} {l4 l5 l6:List (List D)} (hk:inK .i64 k) (hn:inK .i64 n) (hs:inK .i64 st) (ht:tx.size≤maxLen) (h4:WfD T (.l 74) (.l l4)) (h5:WfD T (.l 9) (.l l5)) (h6:WfD T (.l 124) (.l l6)):WfRow T cV (val7 k n st tx l4 l5 l6) :=
 .cons (.int _ _ hk) (.cons (.int _ _ hn) (.cons (.int _ _ hs) (.cons (.str _ ht) (.cons h4 (.cons h5 (.cons h6 .nil))))))
theorem k0 (c:Int) (h0:-100≤c) (h1:c≤100):inK .i64 c:=by
 have e1:IntKind.i64.min = -9223372036854775808:=by decide
 have e2:IntKind.i64.max=9223372036854775807:=by decide
 rw [inK,e1,e2];omega
theorem nY:WfRow T cV vNil:=wf7 (k0 0 (by decide) (by decide)) (k0 0 (by decide) (by decide)) (k0 0 (by decide) (by decide)) (by decide) (.nil _) (.nil _) (.nil _)
theorem jas {n:Int} (h:inK .i64 n):WfRow T cV (vNum n):=wf7 (k0 1 (by decide) (by decide)) h (k0 0 (by decide) (by decide)) (by decide) (.nil _) (.nil _) (.nil _)
theorem jau {n:Int} (h:inK .i64 n):WfRow T cV (vErr n):=wf7 (k0 6 (by decide) (by decide)) h (k0 0 (by decide) (by decide)) (by decide) (.nil _) (.nil _) (.nil _)
theorem jao {t:ByteArray} (h:t.size≤maxLen):WfRow T cV (vTxt t):=wf7 (k0 2 (by decide) (by decide)) (k0 0 (by decide) (by decide)) (k0 0 (by decide) (by decide)) h (.nil _) (.nil _) (.nil _)
theorem jaq {n st:Int} (h:inK .i64 n) (h2:inK .i64 st):WfRow T cV (vStr n st):=wf7 (k0 4 (by decide) (by decide)) h h2 (by decide) (.nil _) (.nil _) (.nil _)
theorem yp {l:List (List D)} (hl:l.length≤maxLen) (h:∀ r ∈ l,WfRow T cV r):WfRow T cV (vLst l):=wf7 (k0 3 (by decide) (by decide)) (k0 0 (by decide) (by decide)) (k0 0 (by decide) (by decide)) (by decide) (WfD.of_rows (show T 74=some _ from rfl) hl h) (.nil _) (.nil _)
theorem rA {v:List D} (h:WfRow T cV v) {y:List D} (hy:y ∈ lst v):WfRow T cV y:=by
 obtain ⟨i,hi,rfl⟩:=dK [] hy
 exact (h.rows (j:=4) rfl).row rfl hi
theorem rB {v:List D} (h:WfRow T cV v):inK .i64 (iAt v 1):=by
 obtain ⟨d0,r0,rfl,w0,h⟩:=h.cons'
 obtain ⟨d1,r1,rfl,w1,h⟩:=h.cons'
 obtain ⟨n1,rfl,h1⟩:=w1.int'
 exact h1
theorem uZ {v:List D} (h:WfRow T cV v):WfRow T cR (aI v):=by
 refine .cons (WfD.of_rows (show T 3=some _ from rfl) ?_ ?_) (.cons (.nil _) .nil)
 · rw [jdi];exact (h.rows (j:=4) rfl).len
 · intro r hr
   obtain ⟨y,hy,rfl⟩:=jdO.1 hr
   exact .cons (.int _ _ (rB (rA h hy))) .nil
theorem jap {t:ByteArray} {l:List (List D)} (ht:t.size≤1048576) (hl:l.length≤maxLen) (h:∀ r ∈ l,WfRow T cV r):WfRow T cV (vTbl (ac (ah t)) (l.map aI)):=by
 refine wf7 (k0 5 (by decide) (by decide)) (k0 0 (by decide) (by decide)) (k0 0 (by decide) (by decide)) (by decide) (.nil _) (WfD.of_rows (show T 9=some _ from rfl) ?_ ?_) (WfD.of_rows (show T 124=some _ from rfl) ?_ ?_)
 · rw [aH];have:=dQ t;simp only [maxLen];omega
 · intro r hr
   obtain ⟨x,hx,rfl⟩:=jdO.1 hr
   exact .cons (.str _ (jdd (fM hx) (by simp only [maxLen];omega))) .nil
 · rw [jdi];exact hl
 · intro r hr
   obtain ⟨v,hv,rfl⟩:=jdO.1 hr
   exact uZ (h v hv)
theorem uj (t:ByteArray):inK .i64 (errC t):=by
 have e1:IntKind.i64.min = -9223372036854775808:=by decide
 have e2:IntKind.i64.max=9223372036854775807:=by decide
 have hl:(ac errs).length=9:=rfl
 unfold errC
 split
 · exact k0 0 (by decide) (by decide)
 · rcases dv (ac errs).length (isAt (ac errs) t) with ⟨h,_⟩|⟨i,hi,h,_⟩
   · unfold idxT
     rw [h,inK,e1,e2];decide
   · unfold idxT
     rw [h,inK,e1,e2]
     omega
theorem pt {par:Int→List D × Int} {s:ByteArray} {k0:Int} (hp:∀ k,k0≤k→k≤s.size→Pos s k (wRow (par k).1) (par k).2) (hw:∀ k,k0≤k→k≤s.size→WfRow T cV (par k).1) :
 ∀ (m:Nat) (k:Int) (out:List (List D)),k0≤k→k≤s.size→out.length+m=64→(∀ r ∈ out,WfRow T cV r)→(bv par s m k out).1.length≤64∧∀ r ∈ (bv par s m k out).1,WfRow T cV r
 | 0,_,_,_,_,_,_=>⟨jc7 _,fun r hr=>absurd hr (jda)⟩
 | m + 1, k,out,h0,h,hm,ho=>by
   have a:=hp k h0 h
   have w:=hw k h0 h
   have ho' : ∀ r ∈ out++[(par k).1],WfRow T cV r:=by
    intro r hr
    rcases jdG.1 hr with h|h
    · exact ho r h
    · rw [jdX.1 h];exact w
   unfold bv
   split
   · exact ⟨jc7 _,fun r hr=>absurd hr (jda)⟩
   · rename_i h1
     rcases a with ⟨a,_⟩|⟨a1,a2,a3⟩
     · omega
     split
     · exact ⟨by show (out++[(par k).1]).length≤64;rw [jc8,jei];omega,ho'⟩
     · split
       · exact ⟨jc7 _,fun r hr=>absurd hr (jda)⟩
       · rename_i h2 h3
         have b:=bp (by simpa using h3)
         have e:(COMMA.size:Int)=2:=rfl
         exact pt hp hw m _ _ (by omega) (by omega) (by rw [jc8,jei];omega) ho'
theorem wP {par:Int→List D × Int} {s:ByteArray} {k0:Int} (hp:∀ k,k0≤k→k≤s.size→Pos s k (wRow (par k).1) (par k).2) (hw:∀ k,k0≤k→k≤s.size→WfRow T cV (par k).1) (h:k0≤s.size):(itmP par s k0).1.length≤64∧∀ r ∈ (itmP par s k0).1,WfRow T cV r:=by
 unfold itmP
 split
 · exact ⟨jc7 _,fun r hr=>absurd hr (jda)⟩
 · exact pt hp hw 64 k0 [] (jdR _) h rfl (fun r hr=>absurd hr (jda))
theorem kS {s:ByteArray} (hs:s.size≤1048576):∀ (n:Nat) (k:Int),0≤k→k≤s.size→WfRow T cV (parF s n k).1
 | 0,_,_,_=>nY
 | n+1,k,h0,h=>by
   have itm:∀ k0,0≤k0→k0≤(s.size:Int)→_:=fun k0 h0 h=>wP (par:=parF s n) (s:=s) (k0:=k0) (fun k hk hs=>dl s n k (by omega) hs) (fun k hk hk2=>kS hs n k (by omega) hk2) h
   show WfRow T cV (parP (itmP (parF s n) s) s k).1
   unfold parP
   split
   · refine jao ?_
     rcases cC h0 h with ⟨h1,h2⟩|⟨h1,h2,h3⟩
     · rw [h2];decide
     · simp only [maxLen];omega
   split
   · rename_i h1
     have b:=bp h1
     have e:(LBR.size:Int)=1:=rfl
     have q:=itm (k+1) (by omega) (by omega)
     exact yp (jdd q.1 (by decide)) q.2
   split
   · unfold strP
     repeat' split
     all_goals first
      | exact nY
      | exact jaq (oV _ _) (oV _ _)
   split
   · rename_i h1
     have b:=bp h1
     have e:(TBO.size:Int)=6:=rfl
     unfold tabP
     rcases cC (s:=s) (k:=k+6) (by omega) (by omega) with ⟨q1,q2⟩|⟨q1,q2,q3⟩
     · rw [if_pos (by omega)];exact nY
     rw [if_neg (by omega)]
     split
     · exact nY
     rename_i c1
     have c2:=bp (by simpa using c1)
     have e3:(CLB.size:Int)=3:=rfl
     have q:=itm ((quoP s (k+6)).2+3) (by omega) (by omega)
     split
     · exact nY
     split
     · exact nY
     exact jap (by omega) (jdd q.1 (by decide)) q.2
   split
   · exact jau (uj _)
   · exact jas (oV _ _)
theorem xi128 (n:Nat) (hn:FOk Tryz.prog T 97 (spVP cV (Fu n) (fun s k=>parF s n k))):FOk Tryz.prog T 128 (spLP 74 (Fu n) (fun s k=>itmP (parF s n) s k)):=by
 refine fok (env:=envL [(125,ft),(97,(spVP cV (Fu n) (fun s k=>parF s n k)))]) (N:=47) tabT (aa rr (aa hn ae)) mixed Tryz.func128 rfl Tryz.call128 Tryz.ntmps128 ?_
 rintro args ⟨s,k,hp,hf,rfl⟩ hwf
 refine ⟨by simp,?_⟩
 clear hwf
 rw [Tryz.results128]
 repeat' first
  | refine And.intro ?_ ?_
  | (intro h;simp only [reduceCtorEq] at h;done)
  | (intro h;rw [h])
  | intro h
 all_goals first
  | exact True.intro
  | exact Or.inr rfl
  | exact ⟨_,_,_,hp,by decide,rfl⟩
  | exact resL (jce (by assumption)) rfl (posC hp (w:=RBR) (by decide) (by assumption)).1
  | skip
 have hr:stB s k RBR=false:=by assumption
 refine aj (Q:=_) [0,1,6] [] (fun m st=>∃ (j:Int) (out:List (List D)),st=([sArg s,iArg j,.val false [.sl true 74 out]],[])∧k≤j∧PosIn s j∧out.length+m=64∧bv (parF s n) s m j out=itmP (parF s n) s k) ?_ ?_
 · exact ⟨rfl,64,k,[],rfl,jdR _,hp,rfl,(jcd hr).symm⟩
 rintro m st ⟨j,out,rfl,hj,pj,hm,hI⟩
 repeat' first
  | refine And.intro ?_ ?_
  | (intro h;simp only [reduceCtorEq] at h;done)
  | (intro h;rw [h])
  | intro h
 all_goals first
  | exact True.intro
  | exact Or.inr rfl
  | exact ⟨_,_,pj,hf.of hj,rfl⟩
  | (have h0:decide (j ≥ 0)=false:=by assumption
     exact absurd pj.2.1 (by have:=jdh h0;omega))
  | exact resL (hI.symm.trans (itF_0 hm (by assumption))) rfl rfl
  | (obtain ⟨m, rfl⟩:=itF_s hm (by assumption)
     first
      | exact resL (hI.symm.trans (itF_1 (by assumption))) rfl rfl
      | (have hn0:decide ((parF s n j).2 < 0)=false:=by assumption
         have pin:=jbR pj hn0
         have w7:csD (rowC cV (parF s n j).1)=(parF s n j).1:=aw (kS pj.1 n j pj.2.1 pj.2.2)
         first
          | exact ⟨_,_,_,pin.1,by decide,rfl⟩
          | (show out.length+1≤maxLen;simp only [maxLen];omega)
          | (show (out.length+1) * 112≤_;omega)
          | (refine resL (hI.symm.trans (jcj hn0 (by assumption))) ?_ (posC pin.1 (w:=RBR) (by decide) (by assumption)).1
             show out++([]++[csD (rowC cV (parF s n j).1)])=out++[(parF s n j).1]
             rw [w7];rfl)
          | exact resL (hI.symm.trans (itF_3 hn0 (by assumption) (by assumption))) rfl rfl
          | (show aX _ _;exact rfl)
          | (have hc:=(by assumption:(!stB s (parF s n j).2 COMMA)=false)
             have hq:=posC pin.1 (w:=COMMA) (by decide) (aE hc)
             have hq1:IntKind.i64.wrap ((parF s n j).2+2)=(parF s n j).2+2:=hq.1
             refine ⟨m,jd6 _,(parF s n j).2+2,out++[(parF s n j).1],?_,by omega,hq.2,by rw [jc8,jei];omega,(jci hn0 (by assumption) hc).symm.trans hI⟩
             refine ej (f:=fun r z=>(([sArg s,iArg z,.val false [.sl true 74 r]],[]):Snap)) (a:=IntKind.i64.wrap ((parF s n j).2+2)) (r:=out++([]++[csD (rowC cV (parF s n j).1)])) ?_ hq1
             rw [w7];rfl)))
theorem xp97 (n:Nat) (hi:FOk Tryz.prog T 128 (spLP 74 (Fu n) (fun s k=>itmP (parF s n) s k))) (ht:FOk Tryz.prog T 130 (spVP cV (Fu n) (fun s k=>tabP (itmP (parF s n) s) s k))):FOk Tryz.prog T 97 (spVP cV (Fu (n+1)) (fun s k=>parF s (n+1) k)):=by
 refine fok (env:=envL [(125,ft),(126,rY),(127,(r9 cV vTxt)),(128,(spLP 74 (Fu n) (fun s k=>itmP (parF s n) s k))),(129,(spVP cV (fun _ _=>True) strP)),(130,(spVP cV (Fu n) (fun s k=>tabP (itmP (parF s n) s) s k))),(132,xh),(131,(mT cV vErr)),(133,sb),(81,(mT cV vNum))]) (N:=80) tabT (aa rr (aa jaj (aa xk127 (aa hi (aa xk129 (aa ht (aa xk132 (aa xk131 (aa jai (aa xk81 ae)))))))))) mixed Tryz.func97 rfl Tryz.call97 Tryz.ntmps97 ?_
 rintro args ⟨s,k,hp,hf,rfl⟩ hwf
 refine ⟨by simp,?_⟩
 clear hwf
 rw [Tryz.results97]
 repeat' first
  | refine And.intro ?_ ?_
  | (intro h;simp only [reduceCtorEq] at h;done)
  | (intro h;rw [h])
  | intro h
 all_goals first
  | exact True.intro
  | exact Or.inr rfl
  | exact ⟨_,_,_,hp,by decide,rfl⟩
  | exact ⟨_,_,hp,rfl⟩
  | exact ⟨_,rfl⟩
  | exact resV (jbX (by assumption)) rfl rfl
  | exact resV (jbS (by assumption:stB s k QUO=false) (by assumption:stB s k LBR=false) (by assumption:stB s k RNG=false) (by assumption:stB s k TBO=false) (by assumption:stB s k ERR=false)) rfl rfl
  | (have hy:=(by assumption:stB s k LBR=true)
     have hq:=posC hp (w:=LBR) (by decide) hy
     have hq1:IntKind.i64.wrap (k+1)=k+1:=hq.1
     have hq2:PosIn s (IntKind.i64.wrap (k+1)):=by rw [hq1];exact hq.2
     first
      | exact ⟨_,_,hq2,hf.less (by rw [hq1];exact jdR _),rfl⟩
      | exact resV (jbW hq1 (by assumption:stB s k QUO=false) hy) rfl rfl)
  | (have hy:=(by assumption:stB s k RNG=true)
     have hq:=posC hp (w:=RNG) (by decide) hy
     have hq1:IntKind.i64.wrap (k+6)=k+6:=hq.1
     have hq2:PosIn s (IntKind.i64.wrap (k+6)):=by rw [hq1];exact hq.2
     first
      | exact ⟨_,_,hq2,trivial,rfl⟩
      | exact resV (jbV hq1 (by assumption:stB s k QUO=false) (by assumption:stB s k LBR=false) hy) rfl rfl)
  | (have hy:=(by assumption:stB s k TBO=true)
     have hq:=posC hp (w:=TBO) (by decide) hy
     have hq1:IntKind.i64.wrap (k+6)=k+6:=hq.1
     have hq2:PosIn s (IntKind.i64.wrap (k+6)):=by rw [hq1];exact hq.2
     first
      | exact ⟨_,_,hq2,hf.less (by rw [hq1];omega),rfl⟩
      | exact resV (jbU hq1 (by assumption:stB s k QUO=false) (by assumption:stB s k LBR=false) (by assumption:stB s k RNG=false) hy) rfl rfl)
  | (have hy:=(by assumption:stB s k ERR=true)
     have hq:=posC hp (w:=ERR) (by decide) hy
     have hq1:IntKind.i64.wrap (k+6)=k+6:=hq.1
     have hq2:PosIn s (IntKind.i64.wrap (k+6)):=by rw [hq1];exact hq.2
     first
      | exact hq2.2.1
      | exact hq2.2.2
      | exact jdR _
      | (refine resV (jbT hq1 (by assumption:stB s k QUO=false) (by assumption:stB s k LBR=false) (by assumption:stB s k RNG=false) (by assumption:stB s k TBO=false) hy) ?_ rfl;rfl))
theorem xt130 (n:Nat) (itm:ByteArray→Int→List (List D) × Int) (hpos:∀ s k,PosIn s k→(itm s k).2 = -1∨(k < (itm s k).2∧(itm s k).2≤s.size)) (hwt:∀ s k,PosIn s k→aO (itm s k).1≤4194304) (hwf:∀ s k,PosIn s k→(itm s k).1.length≤64∧∀ r ∈ (itm s k).1,WfRow T cV r) (hi:FOk Tryz.prog T 128 (spLP 74 (Fu n) itm)):FOk Tryz.prog T 130 (spVP cV (Fu n) (fun s k=>tabP (itm s) s k)):=by
 refine fok (env:=envL [(126,rY),(125,ft),(128,(spLP 74 (Fu n) itm)),(63,(fW true))]) (N:=88) tabT (aa jaj (aa rr (aa hi (aa ok63 ae)))) mixed Tryz.func130 rfl Tryz.call130 Tryz.ntmps130 ?_
 rintro args ⟨s,k,hp,hf,rfl⟩ hwf'
 clear hwf'
 refine ⟨by simp,?_⟩
 rw [Tryz.results130]
 repeat' first
  | refine And.intro ?_ ?_
  | (intro h;simp only [reduceCtorEq] at h;done)
  | (intro h;rw [h])
  | intro h
 all_goals first
  | exact True.intro
  | exact Or.inr rfl
  | exact ⟨_,_,hp,rfl⟩
  | exact resV (tab_1 (by assumption)) rfl rfl
  | exact resV (tab_2 (by assumption) (by assumption)) rfl rfl
  | exact ⟨_,_,_,s4 hp (by assumption),by decide,rfl⟩
  | (have c0:decide ((quoP s k).2 < 0)=false:=by assumption
     have c1:(!stB s (quoP s k).2 CLB)=false:=by assumption
     have hq:=posC (s4 hp c0) (w:=CLB) (by decide) (aE c1)
     have hy:(IntKind.i64.wrap ((quoP s k).2+3))=(quoP s k).2+3:=hq.1
     have py:PosIn s (IntKind.i64.wrap ((quoP s k).2+3)):=by rw [hy];exact hq.2
     have gk:k≤(IntKind.i64.wrap ((quoP s k).2+3)):=by
      rw [hy]
      rcases cC hp.2.1 hp.2.2 with h|h
      · have:=jdh c0;omega
      · omega
     first
      | exact ⟨_,_,py,hf.of gk,rfl⟩
      | exact resV (tab_3 hy c0 c1 (by assumption)) rfl rfl
      | exact resV (tab_4 hy c0 c1 (by assumption) (by assumption)) rfl rfl
      | (have c2:decide ((itm s (IntKind.i64.wrap ((quoP s k).2+3))).2 < 0)=false:=by assumption
         have pin:PosIn s (itm s (IntKind.i64.wrap ((quoP s k).2+3))).2:=by
          rcases hpos s (IntKind.i64.wrap ((quoP s k).2+3)) py with h|h
          · have:=jdh c2;omega
          · exact ⟨py.1,by have:=py.2.1;omega,h.2⟩
         first
          | exact ⟨_,_,_,pin,by decide,rfl⟩
          | (refine ⟨_,?_,rfl⟩
             rcases cC hp.2.1 hp.2.2 with h|h
             · rw [h.2];decide
             · have:=hp.1;have:=hp.2.1;omega)))
  | skip
 have c0:decide ((quoP s k).2 < 0)=false:=by assumption
 have c1:(!stB s (quoP s k).2 CLB)=false:=by assumption
 have c2:decide ((itm s (IntKind.i64.wrap ((quoP s k).2+3))).2 < 0)=false:=by assumption
 have c3:(!stB s (itm s (IntKind.i64.wrap ((quoP s k).2+3))).2 RPA)=false:=by assumption
 have hq:=posC (s4 hp c0) (w:=CLB) (by decide) (aE c1)
 have hy:(IntKind.i64.wrap ((quoP s k).2+3))=(quoP s k).2+3:=hq.1
 have py:PosIn s (IntKind.i64.wrap ((quoP s k).2+3)):=by rw [hy];exact hq.2
 have pin:PosIn s (itm s (IntKind.i64.wrap ((quoP s k).2+3))).2:=by
  rcases hpos s (IntKind.i64.wrap ((quoP s k).2+3)) py with h|h
  · have:=jdh c2;omega
  · exact ⟨py.1,by have:=py.2.1;omega,h.2⟩
 have hz:=(posC pin (w:=RPA) (by decide) (aE c3)).1
 have hw:=hwf s (IntKind.i64.wrap ((quoP s k).2+3)) py
 have hwr:=hwt s (IntKind.i64.wrap ((quoP s k).2+3)) py
 generalize hR:itm s (IntKind.i64.wrap ((quoP s k).2+3))=R at *
 have hl:R.1.length≤64:=hw.1
 have hl' : R.1.length≤maxLen:=jdd hl (by decide)
 refine aj (Q:=_) [4,8,9,10,11] [4,10] (fun m st=>∃ i:Nat,st=([.ptr 4 1 0,argS 74 R.1,iArg R.2,.ptr 10 1 0,iArg (i:Int)],[(1,[.val false [.i .i64 0],.val false [.i .i64 0],.val false [.i .i64 0],.val false [.s ByteArray.empty],.val false [.sl true 74 []],.val false [.sl true 9 []],.val false [.sl true 124 []]]),(1,[.val false [.i .i64 5],.val false [.i .i64 0],.val false [.i .i64 0],.val false [.s ByteArray.empty],.val false [.sl true 74 []],.val false [.sl true 9 (ac (ah (quoP s k).1))],.val false [.sl true 124 ((R.1.take i).map aI)]])])∧i≤R.1.length∧m=R.1.length - i) ?_ ?_
 · exact ⟨rfl,R.1.length,0,rfl,jc7 _,rfl⟩
 rintro m st ⟨i,rfl,hle,rfl⟩
 repeat' first
  | refine And.intro ?_ ?_
  | (intro h;simp only [reduceCtorEq] at h;done)
  | (intro h;rw [h])
  | intro h
 all_goals first
  | exact True.intro
  | exact Or.inr rfl
  | (have hi:¬ i < R.1.length:=nltN (by assumption)
     refine resV (jaX (itm:=itm s) (y:=(IntKind.i64.wrap ((quoP s k).2+3))) hy c0 c1 (by rw [hR];exact c2) (by rw [hR];exact c3)) ?_ (by rw [hR];exact hz)
     rw [hR]
     rw [cB hi]
     rfl)
  | skip
 have hi:i < R.1.length:=ltN (by assumption)
 have wv:WfRow T cV (rAt R.1 i):=by
  refine hw.2 _ ?_
  show R.1.getD i [] ∈ R.1
  rw [jdb,jc5 hi]
  exact jew hi
 have wl:=(wv.rows (j:=4) rfl).len
 have wl' : (lst (rAt R.1 i)).length≤maxLen:=wl
 have wvl:(lst (rAt R.1 i)).length≤4194304:=by
  have h1:=hU hi
  have h2:=cv (rAt R.1 i) 4
  have h3:wRow (rAt R.1 i)≤aO R.1:=h1
  show ((rAt R.1 i).getD 4 default).rows.length≤_
  omega
 refine aj (Q:=_) [4,8,9,10,11,12,13] [4,10,12] (fun m st=>∃ k' : Nat,st=([.ptr 4 1 0,argS 74 R.1,iArg R.2,.ptr 10 1 0,iArg (i:Int),.ptr 12 1 0,iArg (k' : Int)],[(1,[.val false [.i .i64 0],.val false [.i .i64 0],.val false [.i .i64 0],.val false [.s ByteArray.empty],.val false [.sl true 74 []],.val false [.sl true 9 []],.val false [.sl true 124 []]]),(1,[.val false [.i .i64 5],.val false [.i .i64 0],.val false [.i .i64 0],.val false [.s ByteArray.empty],.val false [.sl true 74 []],.val false [.sl true 9 (ac (ah (quoP s k).1))],.val false [.sl true 124 ((R.1.take i).map aI)]]),(1,[.val false [.sl true 3 (((lst (rAt R.1 i)).take k').map fun y=>[D.i (iAt y 1)])],.val false [.sl true 150 []]])])∧k' ≤ (lst (rAt R.1 i)).length∧m=(lst (rAt R.1 i)).length - k') ?_ ?_
 · exact ⟨rfl,(lst (rAt R.1 i)).length,0,rfl,jc7 _,rfl⟩
 rintro m st ⟨k',rfl,kle,rfl⟩
 repeat' first
  | refine And.intro ?_ ?_
  | (intro h;simp only [reduceCtorEq] at h;done)
  | (intro h;rw [h])
  | intro h
 all_goals first
  | (show av _=true;kernel_rfl)
  | (show ba _ _=true;kernel_rfl)
  | with_reducible exact jdk _
  | (show (i:Int) < _;omega)
  | (have hk:k' < (lst (rAt R.1 i)).length:=ltN (by assumption)
     first
      | (show (k' : Int) < ((lst (rAt R.1 i)).length:Int);omega)
      | (show (((lst (rAt R.1 i)).take k').map _).length+1≤maxLen;rw [jdi,jdp];omega)
      | (show ((((lst (rAt R.1 i)).take k').map _).length+1) * 8≤_;rw [jdi,jdp];omega)
      | (show aX _ _;exact rfl)
      | (refine ⟨(lst (rAt R.1 i)).length - (k' + 1),by omega,k' + 1,?_,by omega,rfl⟩
         exact ej (f:=fun r z=>(([.ptr 4 1 0,argS 74 R.1,iArg R.2,.ptr 10 1 0,iArg (i:Int),.ptr 12 1 0,iArg z],[(1,[.val false [.i .i64 0],.val false [.i .i64 0],.val false [.i .i64 0],.val false [.s ByteArray.empty],.val false [.sl true 74 []],.val false [.sl true 9 []],.val false [.sl true 124 []]]),(1,[.val false [.i .i64 5],.val false [.i .i64 0],.val false [.i .i64 0],.val false [.s ByteArray.empty],.val false [.sl true 74 []],.val false [.sl true 9 (ac (ah (quoP s k).1))],.val false [.sl true 124 ((R.1.take i).map aI)]]),(1,[.val false [.sl true 3 r],.val false [.sl true 150 []]])]):Snap)) (eQ (fun y=>[D.i (iAt y 1)]) hk) (wrapN hk wl')))
  | (have hk:¬ k' < (lst (rAt R.1 i)).length:=nltN (by assumption)
     first
      | (show ((R.1.take i).map aI).length+1≤maxLen;rw [jdi,jdp];simp only [maxLen];omega)
      | (show (((R.1.take i).map aI).length+1) * 48≤_;rw [jdi,jdp];omega)
      | (show aX _ _;exact rfl)
      | (refine ⟨R.1.length - (i+1),by omega,i+1,?_,by omega,rfl⟩
         refine ej (f:=fun r z=>(([.ptr 4 1 0,argS 74 R.1,iArg R.2,.ptr 10 1 0,iArg z],[(1,[.val false [.i .i64 0],.val false [.i .i64 0],.val false [.i .i64 0],.val false [.s ByteArray.empty],.val false [.sl true 74 []],.val false [.sl true 9 []],.val false [.sl true 124 []]]),(1,[.val false [.i .i64 5],.val false [.i .i64 0],.val false [.i .i64 0],.val false [.s ByteArray.empty],.val false [.sl true 74 []],.val false [.sl true 9 (ac (ah (quoP s k).1))],.val false [.sl true 124 r]])]):Snap)) ?_ (wrapN hi hl')
         refine jeC ?_ (eQ aI hi)
         rw [cB hk]
         rfl))
theorem jac:∀ n,FOk Tryz.prog T 97 (spVP cV (Fu n) (fun s k=>parF s n k)):=by
 intro n
 induction n with
 | zero =>
   exact fok (env:=envL []) (N:=80) tabT ae mixed Tryz.func97 rfl Tryz.call97 Tryz.ntmps97 fun args h=>by
    obtain ⟨s,k,hp,hf,rfl⟩:=h
    have:=hp.2.2
    unfold Fu at hf
    omega
 | succ n ih =>
   have hi:FOk Tryz.prog T 128 (spLP 74 (Fu n) (fun s k=>itmP (parF s n) s k)):=xi128 n ih
   exact xp97 n hi (xt130 n (fun s k=>itmP (parF s n) s k) (fun s k hp=>by
    rcases mr (par:=parF s n) (s:=s) (k0:=k) (fun j hk hs=>dl s n j (by have:=hp.2.1;omega) hs) hp.2.2 with h|h
    · exact .inl h.1
    · exact .inr ⟨h.1,h.2.1⟩) (fun s k hp=>by
    rcases mr (par:=parF s n) (s:=s) (k0:=k) (fun j hk hs=>dl s n j (by have:=hp.2.1;omega) hs) hp.2.2 with h|h
    · show aO (itmP (parF s n) s k).1≤_
      rw [h.2];exact jc7 _
    · have:=hp.1;have:=hp.2.1
      show aO (itmP (parF s n) s k).1≤_
      omega) (fun s k hp=>wP (par:=parF s n) (s:=s) (k0:=k) (fun j hk hs=>dl s n j (by have:=hp.2.1;omega) hs) (fun j hk hs=>kS hp.1 n j (by have:=hp.2.1;omega) hs) hp.2.2) hi)
theorem xv66 (n:Nat) (par:ByteArray→Int→List D × Int) (hwf:∀ s,s.size≤1048576→WfRow T cV (par s 0).1) (hwt:∀ s,s.size≤1048576→wRow (par s 0).1≤WM) (hp:FOk Tryz.prog T 97 (spVP cV (Fu n) par)):FOk Tryz.prog T 66 (spPV cV n (fun s=>pvOf (par s 0).1 ((par s 0).2 == (s.size:Int)) s)):=by
 refine fok (env:=envL [(97,(spVP cV (Fu n) par)),(61,(spGT T cV SmM fmtO))]) (N:=27) tabT (aa hp (aa xk61 ae)) mixed Tryz.func66 rfl Tryz.call66 Tryz.ntmps66 ?_
 rintro args ⟨s,hs,hn,rfl⟩ hwf'
 clear hwf'
 have w:=hwf s hs
 have wt:=hwt s hs
 have w7:csD (rowC cV (par s 0).1)=(par s 0).1:=aw w
 refine ⟨by simp,?_⟩
 rw [Tryz.results66]
 repeat' first
  | refine And.intro ?_ ?_
  | (intro h;simp only [reduceCtorEq] at h;done)
  | (intro h;rw [h])
  | intro h
 all_goals first
  | (show av _=true;kernel_rfl)|(show ba _ _=true;kernel_rfl)|exact True.intro|exact Or.inr rfl|exact Or.inl rfl
  | exact ⟨_,_,⟨hs,jdR _,jdk _⟩,(by unfold Fu;omega),rfl⟩
  | exact ⟨_,w,wt,rfl⟩
  | exact fA (pv_1 (jcP (by assumption))) rfl rfl
  | (have hz:(!(fmtO (par s 0).1).toList == s.toList)=true:=(by rw [← w7];assumption)
     exact fA (pv_2 hz) rfl rfl)
  | exact fA (pv_3 (by assumption)) rfl rfl
  | (have hz:(!(fmtO (par s 0).1).toList == s.toList)=false:=(by rw [← w7];assumption)
     exact fA (pv_4 (jcQ (by assumption)) hz (by assumption)) rfl rfl)
  | skip
theorem xk66 (n:Nat):FOk Tryz.prog T 66 (spPV cV n (pvS n)) :=
 xv66 n (fun s k=>parF s n k) (fun s hs=>kS hs n 0 (jdR _) (by omega)) (fun s hs=>by
  have h:=dl s n 0 (jdR _) (by omega)
  show wRow (parF s n 0).1≤1099511627776
  rcases h with h|h
  · omega
  · omega) (jac n)
end Go.Proofs.YtdkofgjbbdbglaaGreatDoor.Ab
