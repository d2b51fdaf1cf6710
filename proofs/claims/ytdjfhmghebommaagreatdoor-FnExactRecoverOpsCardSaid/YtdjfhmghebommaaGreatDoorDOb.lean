/- A part. -/
import Derived.Test.YtdjfhmghebommaaGreatDoorDYl
namespace Go.Proofs.YtdjfhmghebommaaGreatDoor.Ab
open Go.RowKit
set_option linter.all false
set_option maxRecDepth 100000
set_option maxHeartbeats 2000000
abbrev cRd:List CT:=[.i .i64,.i .i64,.i .i64,.s,.i .i64,.i .i64,.i .i64,.s,.l 53,.l 9,.l 126]
def RdOk (r:List D):Prop:=WfRow T cRd r∧(r.getD 3 default).str.size≤1048576∧(r.getD 9 default).rows.length+(r.getD 10 default).rows.length≤2097152
theorem WfRow.app {c1 c2:List CT} {r1 r2:List D} (h1:WfRow T c1 r1) (h2:WfRow T c2 r2):WfRow T (c1++c2) (r1++r2):=by
 induction c1 generalizing r1 with
 | nil=>obtain rfl:=h1.nil';exact h2
 | cons c c1 ih =>
   obtain ⟨d,r,rfl,hd,hr⟩:=h1.cons'
   exact .cons hd (ih hr)
theorem jax {a b c:Int} {t:ByteArray} {v:List D} (ha:inK .i64 a) (hb:inK .i64 b) (hc:inK .i64 c) (ht:t.size≤1048576) (hv:WfRow T cV v) (hw:wRow v≤2097152):RdOk ([.i a,.i b,.i c,.s t]++v):=by
 refine ⟨WfRow.app (c1:=[.i .i64,.i .i64,.i .i64,.s]) (.cons (.int _ _ ha) (.cons (.int _ _ hb) (.cons (.int _ _ hc) (.cons (.str _ (jbV ht (by decide))) .nil)))) hv,ht,?_⟩
 have e1:([D.i a,D.i b,D.i c,D.s t]++v).getD 9 default=v.getD 5 default:=rfl
 have e2:([D.i a,D.i b,D.i c,D.s t]++v).getD 10 default=v.getD 6 default:=rfl
 rw [e1,e2]
 obtain ⟨d0,r0,rfl,w0,hv⟩:=hv.cons'
 obtain ⟨d1,r1,rfl,w1,hv⟩:=hv.cons'
 obtain ⟨d2,r2,rfl,w2,hv⟩:=hv.cons'
 obtain ⟨d3,r3,rfl,w3,hv⟩:=hv.cons'
 obtain ⟨d4,r4,rfl,w4,hv⟩:=hv.cons'
 obtain ⟨d5,r5,rfl,w5,hv⟩:=hv.cons'
 obtain ⟨d6,r6,rfl,w6,hv⟩:=hv.cons'
 obtain rfl:=hv.nil'
 have h5:=oa d5
 have h6:=oa d6
 simp only [wRow] at hw
 show d5.rows.length+d6.rows.length≤_
 omega
theorem xn {a0 a1 a2 e0 e1 c0 c1 c2 cn ce ve:Int} {seen rd:List (List D)} {nm cd fr tt:ByteArray} (h0:inK .i64 a0) (h1:inK .i64 a1) (h2:inK .i64 a2) (hs:seen.length≤3) (hsw:∀ r ∈ seen,WfRow T [.i .i64] r) (h4:inK .i64 e0) (h5:inK .i64 e1) (h6:inK .i64 c0) (h7:inK .i64 c1) (h8:inK .i64 c2)
 (hn:nm.size≤1048576) (hd:cd.size≤1048576) (h11:inK .i64 cn) (hf:fr.size≤1048576) (ht:tt.size≤1048576) (h14:inK .i64 ce) (h15:inK .i64 ve) (hr:rd.length≤1048576) (hrd:∀ r ∈ rd,RdOk r) :
 WfRow T cO (opOf a0 a1 a2 seen e0 e1 c0 c1 c2 nm cd cn fr tt ce ve rd)∧SmO (opOf a0 a1 a2 seen e0 e1 c0 c1 c2 nm cd cn fr tt ce ve rd):=by
 have tx:∀ {t:ByteArray},t.size≤1048576→WfD T .s (.s t):=fun h=>.str _ (jbV h (by decide))
 refine ⟨.cons (.int _ _ h0) (.cons (.int _ _ h1) (.cons (.int _ _ h2) (.cons (WfD.of_rows (show T 3=some _ from rfl) (jbV hs (by decide)) hsw) (.cons (.int _ _ h4) (.cons (.int _ _ h5) (.cons (.int _ _ h6) (.cons (.int _ _ h7) (.cons (.int _ _ h8)
  (.cons (tx hn) (.cons (tx hd) (.cons (.int _ _ h11) (.cons (tx hf) (.cons (tx ht) (.cons (.int _ _ h14) (.cons (.int _ _ h15) (.cons (WfD.of_rows (show T 55=some _ from rfl) (jbV hr (by decide)) fun r h=>(hrd r h).1) .nil)))))))))))))))),?_⟩
 refine ⟨jbV hs (by decide),hr,⟨hn,hd,hf,ht⟩,fun i hi=>?_⟩
 have:=hrd (rd.getD i []) (by have hi' : i < rd.length:=hi;rw [jbT,jbN hi'];exact jde hi')
 exact this.2
theorem prs_k (s:ByteArray):inK .i64 (prs (-999999999999) 999999999999 s).1:=by
 have e1:IntKind.i64.min = -9223372036854775808:=by decide
 have e2:IntKind.i64.max=9223372036854775807:=by decide
 have:-999999999999≤(prs (-999999999999) 999999999999 s).1∧(prs (-999999999999) 999999999999 s).1≤999999999999:=pT (by decide) (by decide)
 rw [inK,e1,e2];omega
theorem jaA (s:ByteArray):inK .i64 (prs (-1000000000) 1000000000 s).1:=by
 have e1:IntKind.i64.min = -9223372036854775808:=by decide
 have e2:IntKind.i64.max=9223372036854775807:=by decide
 have:-1000000000≤(prs (-1000000000) 1000000000 s).1∧(prs (-1000000000) 1000000000 s).1≤1000000000:=pT (by decide) (by decide)
 rw [inK,e1,e2];omega
theorem cN (rows:List (List D)) (k:Nat):inK .i64 (numS rows k):=by
 unfold numS
 split
 · exact prs_k _
 · exact k0 0 (by decide) (by decide)
theorem jk (rows:List (List D)) (i:Nat):(fy rows i).length=i∧∀ r ∈ fy rows i,WfRow T [.i .i64] r:=by
 unfold fy
 refine ⟨by simp,fun r hr=>?_⟩
 obtain ⟨j,_,rfl⟩:=jcw.1 hr
 exact .cons (.int _ _ (cN _ _)) .nil
theorem wE {rows:List (List D)} (hs:SmW rows) {rd:List (List D)} (hr:rd.length≤1048576) (hrd:∀ r ∈ rd,RdOk r):WfRow T cO (opS rows rd)∧SmO (opS rows rd) :=
 xn (cN _ _) (cN _ _) (cN _ _) (by rw [(jk rows 3).1];exact jb4 _) (jk rows 3).2 (cN _ _) (cN _ _) (cN _ _) (cN _ _) (cN _ _) (ci hs _) (ci hs _) (cN _ _) (ci hs _) (ci hs _) (cN _ _) (cN _ _) hr hrd
theorem oC {rows:List (List D)} (hs:SmW rows) {pv:ByteArray→List D × Bool} (hw:∀ t,t.size≤1048576→WfRow T cV (pv t).1∧wRow (pv t).1≤2097152) (k:Nat):RdOk (rowS pv rows k) :=
 jax (cN _ _) (cN _ _) (cN _ _) (ci hs _) (hw _ (ci hs _)).1 (hw _ (ci hs _)).2
theorem sM {pv:ByteArray→List D × Bool} {rows:List (List D)} {c:Int} {m i:Nat} {out:List (List D)} (h:¬ ((i:Int) < c∧19+5 * i < rows.length)):rdsS pv rows c m i out=out:=by
 cases m with
 | zero=>rfl
 | succ m=>rw [rdsS,if_neg h]
theorem xW {pv:ByteArray→List D × Bool} {rows:List (List D)} {c:Int} {m i:Nat} {out:List (List D)} (h1:(i:Int) < c) (h2:19+5 * i < rows.length):rdsS pv rows c (m+1) i out=rdsS pv rows c m (i+1) (out++[rowS pv rows (19+5 * i)]):=by
 rw [rdsS,if_pos ⟨h1,h2⟩]
set_option maxHeartbeats 8000000 in
theorem xo6 (pv:ByteArray→List D × Bool) (hw:∀ t,t.size≤1048576→WfRow T cV (pv t).1∧wRow (pv t).1≤2097152) (hpv:FOk Tryz.prog T 21 (iv cV pv)):FOk Tryz.prog T 6 (iv cO (poS pv)):=by
 refine fok (env:=envL [(18,(dT true)),(19,zN),(20,zM),(21,(iv cV pv)),(22,(rW T cO))]) (N:=133) tabT (ac ok18 (ac (FOk.wi2 ok19) (ac (FOk.wt2 ok20) (ac hpv (ac ok22 af))))) mixed Tryz.func6 rfl Tryz.call6 Tryz.ntmps6 ?_
 rintro args ⟨s,hs,rfl⟩ hwf'
 clear hwf'
 have sm:=smW s hs
 have hlen:=j4 s hs
 refine ⟨by simp,?_⟩
 rw [Tryz.results6]
 repeat' first
  | refine And.intro ?_ ?_
  | (intro h;simp only [reduceCtorEq] at h;done)
  | (intro h;rw [h])
  | intro h
 all_goals first
  | (show aa _=true;kernel_rfl)|(show am _ _=true;kernel_rfl)|exact True.intro|exact Or.inr rfl|exact Or.inl rfl
  | exact rfl
  | exact ⟨_,hs,rfl⟩
  | exact ⟨_,_,by decide,by decide,sm,rfl⟩
  | skip
 refine ap (Q:=_) [0,2,4,5,6] [2,13,5] (fun m st=>∃ i:Nat,st=([sArg s,.ptr 2 1 0,.ptr 13 1 0,.ptr 5 1 0,iArg (i:Int)],[(1,[.val false [.i .i64 0],.val false [.i .i64 0],.val false [.i .i64 0],.val false [.sl true 3 []],.val false [.i .i64 0],.val false [.i .i64 0],.val false [.i .i64 0],.val false [.i .i64 0],.val false [.i .i64 0],.val false [.s ByteArray.empty],.val false [.s ByteArray.empty],.val false [.i .i64 0],.val false [.s ByteArray.empty],.val false [.s ByteArray.empty],.val false [.i .i64 0],.val false [.i .i64 0],.val false [.sl true 55 []]]),(1,[.val false [.sl true 9 (ae (aj s))],.val false [.i .i64 ((3+i:Nat):Int)]]),(1,[.val false [.i .i64 (numS (ae (aj s)) 0)],.val false [.i .i64 (numS (ae (aj s)) 1)],.val false [.i .i64 (numS (ae (aj s)) 2)],.val false [.sl true 3 (fy (ae (aj s)) i)],.val false [.i .i64 0],.val false [.i .i64 0],.val false [.i .i64 0],.val false [.i .i64 0],.val false [.i .i64 0],.val false [.s ByteArray.empty],.val false [.s ByteArray.empty],.val false [.i .i64 0],.val false [.s ByteArray.empty],.val false [.s ByteArray.empty],.val false [.i .i64 0],.val false [.i .i64 0],.val false [.sl true 55 []]])])∧i≤3∧m=3 - i) ?_ ?_
 · exact ⟨rfl,3,0,rfl,by decide,rfl⟩
 rintro m st ⟨i,rfl,hi,rfl⟩
 repeat' first
  | refine And.intro ?_ ?_
  | (intro h;simp only [reduceCtorEq] at h;done)
  | (intro h;rw [h])
  | intro h
 all_goals first
  | (show aa _=true;kernel_rfl)|(show am _ _=true;kernel_rfl)|exact True.intro|exact Or.inr rfl|exact Or.inl rfl
  | exact rfl
  | (refine ⟨_,_,?_,?_,sm,rfl⟩ <;> omega)
  | (have h3:i < 3:=by have:=jbO (show decide ((i:Int) < 3)=true by assumption);omega
     first
      | exact cN _ _
      | (show (fy (ae (aj s)) i).length+1≤maxLen;rw [(jk (ae (aj s)) i).1];simp only [maxLen];omega)
      | (show ((fy (ae (aj s)) i).length+1) * 8≤_;rw [(jk (ae (aj s)) i).1];omega)
      | (show aT _ _;exact rfl)
      | (refine ⟨3 - (i+1),by omega,i+1,?_,by omega,rfl⟩
         exact eA (f:=fun r z=>(([sArg s,.ptr 2 1 0,.ptr 13 1 0,.ptr 5 1 0,iArg z],[(1,[.val false [.i .i64 0],.val false [.i .i64 0],.val false [.i .i64 0],.val false [.sl true 3 []],.val false [.i .i64 0],.val false [.i .i64 0],.val false [.i .i64 0],.val false [.i .i64 0],.val false [.i .i64 0],.val false [.s ByteArray.empty],.val false [.s ByteArray.empty],.val false [.i .i64 0],.val false [.s ByteArray.empty],.val false [.s ByteArray.empty],.val false [.i .i64 0],.val false [.i .i64 0],.val false [.sl true 55 []]]),(1,[.val false [.sl true 9 (ae (aj s))],.val false [.i .i64 ((3+(i+1):Nat):Int)]]),(1,[.val false [.i .i64 (numS (ae (aj s)) 0)],.val false [.i .i64 (numS (ae (aj s)) 1)],.val false [.i .i64 (numS (ae (aj s)) 2)],.val false [.sl true 3 r],.val false [.i .i64 0],.val false [.i .i64 0],.val false [.i .i64 0],.val false [.i .i64 0],.val false [.i .i64 0],.val false [.s ByteArray.empty],.val false [.s ByteArray.empty],.val false [.i .i64 0],.val false [.s ByteArray.empty],.val false [.s ByteArray.empty],.val false [.i .i64 0],.val false [.i .i64 0],.val false [.sl true 55 []]])]):Snap)) (qE (ae (aj s)) i) (wrapN h3 (by decide))))
  | skip
 obtain rfl:i=3:=by have:=jbZ (show decide ((i:Int) < 3)=false by assumption);omega
 refine ap (Q:=_) [0,2,4,5,7,8] [2,13,5] (fun m st=>∃ (i:Nat) (o:List (List D)),st=([sArg s,.ptr 2 1 0,.ptr 13 1 0,.ptr 5 1 0,iArg (numS (ae (aj s)) 18),iArg (i:Int)],[(1,[.val false [.i .i64 0],.val false [.i .i64 0],.val false [.i .i64 0],.val false [.sl true 3 []],.val false [.i .i64 0],.val false [.i .i64 0],.val false [.i .i64 0],.val false [.i .i64 0],.val false [.i .i64 0],.val false [.s ByteArray.empty],.val false [.s ByteArray.empty],.val false [.i .i64 0],.val false [.s ByteArray.empty],.val false [.s ByteArray.empty],.val false [.i .i64 0],.val false [.i .i64 0],.val false [.sl true 55 []]]),(1,[.val false [.sl true 9 (ae (aj s))],.val false [.i .i64 ((19+5 * i:Nat):Int)]]),(1,[.val false [.i .i64 (numS (ae (aj s)) 0)],.val false [.i .i64 (numS (ae (aj s)) 1)],.val false [.i .i64 (numS (ae (aj s)) 2)],.val false [.sl true 3 (fy (ae (aj s)) 3)],.val false [.i .i64 (numS (ae (aj s)) 6)],.val false [.i .i64 (numS (ae (aj s)) 7)],.val false [.i .i64 (numS (ae (aj s)) 8)],.val false [.i .i64 (numS (ae (aj s)) 9)],.val false [.i .i64 (numS (ae (aj s)) 10)],.val false [.s (txtS (ae (aj s)) 12)],.val false [.s (txtS (ae (aj s)) 13)],.val false [.i .i64 (numS (ae (aj s)) 11)],.val false [.s (txtS (ae (aj s)) 14)],.val false [.s (txtS (ae (aj s)) 15)],.val false [.i .i64 (numS (ae (aj s)) 16)],.val false [.i .i64 (numS (ae (aj s)) 17)],.val false [.sl true 55 o]])])∧o.length=i∧5 * i≤(ae (aj s)).length∧(∀ r ∈ o,RdOk r)∧rdsS pv (ae (aj s)) (numS (ae (aj s)) 18) m i o=rdsS pv (ae (aj s)) (numS (ae (aj s)) 18) ((ae (aj s)).length+1) 0 []∧m=(ae (aj s)).length+1 - i) ?_ ?_
 · exact ⟨rfl,(ae (aj s)).length+1,0,[],rfl,rfl,jbP _,fun r h=>absurd h (jbS),rfl,rfl⟩
 rintro m st ⟨i,o,rfl,hol,hi,ho,hE,hm⟩
 generalize hRW:(ae (aj s))=rw_ at *
 have ow:=wE sm (rd:=o) (by omega) ho
 have w7o:=au ow.1
 repeat' first
  | refine And.intro ?_ ?_
  | (intro h;simp only [reduceCtorEq] at h;done)
  | (intro h;rw [h])
  | intro h
 all_goals first
  | (show aa _=true;kernel_rfl)|(show am _ _=true;kernel_rfl)|exact True.intro|exact Or.inr rfl|exact Or.inl rfl
  | exact rfl
  | (refine ⟨_,_,?_,?_,sm,rfl⟩ <;> omega)
  | exact ⟨_,ci sm _,rfl⟩
  | exact ⟨_,ow.1,ow.2,rfl⟩
  | (have g1:(i:Int) < numS rw_ 18:=jbO (by assumption)
     have g2:19+5 * i < rw_.length:=by have:=jbO (show decide (((19+5 * i:Nat):Int) < (rw_.length:Int))=true by assumption);omega
     have hrow:csD (rowC cRd (rowS pv rw_ (19+5 * i)))=rowS pv rw_ (19+5 * i):=au (oC sm hw _).1
     first
      | (show o.length+1≤maxLen;simp only [maxLen];omega)
      | (show (o.length+1) * 152≤_;omega)
      | (show aT _ _;exact rfl)
      | (refine ⟨rw_.length+1 - (i+1),by omega,i+1,o++[rowS pv rw_ (19+5 * i)],?_,by rw [jbQ,hol];rfl,by omega,?_,?_,rfl⟩
         · exact uU (f:=fun r k z=>(([sArg s,.ptr 2 1 0,.ptr 13 1 0,.ptr 5 1 0,iArg (numS rw_ 18),iArg z],[(1,[.val false [.i .i64 0],.val false [.i .i64 0],.val false [.i .i64 0],.val false [.sl true 3 []],.val false [.i .i64 0],.val false [.i .i64 0],.val false [.i .i64 0],.val false [.i .i64 0],.val false [.i .i64 0],.val false [.s ByteArray.empty],.val false [.s ByteArray.empty],.val false [.i .i64 0],.val false [.s ByteArray.empty],.val false [.s ByteArray.empty],.val false [.i .i64 0],.val false [.i .i64 0],.val false [.sl true 55 []]]),(1,[.val false [.sl true 9 rw_],.val false [.i .i64 k]]),(1,[.val false [.i .i64 (numS rw_ 0)],.val false [.i .i64 (numS rw_ 1)],.val false [.i .i64 (numS rw_ 2)],.val false [.sl true 3 (fy rw_ 3)],.val false [.i .i64 (numS rw_ 6)],.val false [.i .i64 (numS rw_ 7)],.val false [.i .i64 (numS rw_ 8)],.val false [.i .i64 (numS rw_ 9)],.val false [.i .i64 (numS rw_ 10)],.val false [.s (txtS rw_ 12)],.val false [.s (txtS rw_ 13)],.val false [.i .i64 (numS rw_ 11)],.val false [.s (txtS rw_ 14)],.val false [.s (txtS rw_ 15)],.val false [.i .i64 (numS rw_ 16)],.val false [.i .i64 (numS rw_ 17)],.val false [.sl true 55 r]])]):Snap)) (congrArg (fun r=>o++[r]) hrow) (by omega) (wrapN (n:=rw_.length) (by omega) (by simp only [maxLen];omega))
         · intro r hr
           rcases jco.1 hr with h|h
           · exact ho r h
           · rw [jcF.1 h];exact oC sm hw _
         · rw [← hE,hm,show rw_.length+1 - i=(rw_.length+1 - (i+1))+1 by omega,xW g1 g2]))
  | (have hO:rdsS pv rw_ (numS rw_ 18) (rw_.length+1) 0 []=o:=by
      refine hE.symm.trans (sM ?_)
      rintro ⟨a1,a2⟩
      first
       | exact absurd a1 (jbZ (by assumption))
       | (have:=jbZ (show decide (((19+5 * i:Nat):Int) < (rw_.length:Int))=false by assumption);omega)
     have hP:poS pv s=poOf (opS rw_ o) (!(s.toList == [])) s:=by rw [jaF hRW,hO]
     first
      | (have hz:(s.toList == [])=true:=by rw [← bc];assumption
         exact oE (hP.trans (s4 (by rw [hz];rfl))) rfl rfl)
      | (have hz:(!(aZ (opS rw_ o)).toList == s.toList)=true:=by rw [← w7o];assumption
         exact oE (hP.trans (ww hz)) rfl rfl)
      | (have hz:(!(aZ (opS rw_ o)).toList == s.toList)=false:=by rw [← w7o];assumption
         have hy:(s.toList == [])=false:=by rw [← bc];assumption
         exact oE (hP.trans (wn (by rw [hy];rfl) hz)) rfl rfl))
  | skip
theorem rb (w:World) (n:Nat):Below w.heap.size w (w.drewN n):=⟨rfl,rfl,rfl,jb4 _,fun _ _=>rfl⟩
theorem okCut:FOk Tryz.prog T 37 spCut:=by
 refine ⟨Tryz.call37,fun hb=>(by cases hb),fun _ w X args vals hX hargs hgl hpre=>?_,fun hb=>(by cases hb)⟩
 obtain ⟨s,hs,rfl⟩:=hpre
 obtain ⟨v,u,rfl,⟨rfl,_⟩,⟨rfl,_⟩⟩:=hargs.two_
 obtain ⟨_,_,u,hm,m,rfl⟩:=hgl.2 (0,false) (by decide)
 refine (Tryz.strings_Cut s NL m w (by omega) hm).mono ?_
 rintro e w' ⟨he,n,hw⟩
 refine ⟨_,fun _=>noB,he,?_,?_,(fun j b h=>by cases h),(fun j j2 b h=>by cases h)⟩
 · rw [hw];exact rb w n
 · refine ⟨[.string (cutL s),.string (cutR s),.bool (cutF s)],rfl,rfl,fun j p x hp hx=>?_⟩
   match j with
   | 0 =>
     obtain rfl:=jbR hp
     obtain rfl:=jbR hx
     exact TupR.of_arg ⟨_,rfl,rfl,jbV (nO s) (jbV hs (by decide))⟩
   | 1 =>
     obtain rfl:=jbR hp
     obtain rfl:=jbR hx
     exact TupR.of_arg ⟨_,rfl,rfl,jbV (ui s) (jbV hs (by decide))⟩
   | 2 =>
     obtain rfl:=jbR hp
     obtain rfl:=jbR hx
     exact TupR.of_arg ⟨_,rfl,rfl⟩
   | j+3=>simp at hp
theorem okLast:FOk Tryz.prog T 38 spLast:=by
 refine ⟨Tryz.call38,fun hb=>(by cases hb),fun _ w X args vals hX hargs hgl hpre=>?_,fun hb=>(by cases hb)⟩
 obtain ⟨s,hs,rfl⟩:=hpre
 obtain ⟨v,u,rfl,⟨rfl,_⟩,⟨rfl,_⟩⟩:=hargs.two_
 refine (Tryz.strings_LastIndexByte s 32 (by omega) w).mono ?_
 rintro e w' ⟨he,hw⟩
 have h1:IntKind.i64.min = -9223372036854775808:=by decide
 have h2:IntKind.i64.max=9223372036854775807:=by decide
 have hl:=tu s
 exact ⟨_,fun _=>noB,he,hw ▸ Below.refl _ _,⟨_,rfl,rfl,by rw [inK,h1,h2];omega⟩,(fun j b h=>by cases h),(fun j j2 b h=>by cases h)⟩
def PoOk (po:ByteArray→List D × Bool):Prop:=∀ t,t.size≤1048576→WfRow T cO (po t).1∧SmO (po t).1
theorem zero_ok:WfRow T cO bw∧SmO bw:=by
 have z:inK .i64 0:=k0 0 (by decide) (by decide)
 exact xn z z z (jbP _) (fun r h=>absurd h jbS) z z z z z (jbP _) (jbP _) z (jbP _) (jbP _) z z (jbP _) (fun r h=>absurd h jbS)
theorem oF {pv:ByteArray→List D × Bool} (hw:∀ t,t.size≤1048576→WfRow T cV (pv t).1∧wRow (pv t).1≤2097152) {rows:List (List D)} (hs:SmW rows) {c:Int}:∀ (m i:Nat) (out:List (List D)),(∀ r ∈ out,RdOk r)→out.length=i→5 * i≤rows.length →
 (∀ r ∈ rdsS pv rows c m i out,RdOk r)∧5 * (rdsS pv rows c m i out).length≤rows.length
 | 0,i,out,h,hl,hi=>⟨h,by rw [rdsS,hl];exact hi⟩
 | m+1,i,out,h,hl,hi=>by
   rw [rdsS]
   split
   · rename_i hc
     refine oF hw hs m (i+1) _ (fun r hr=>?_) (by rw [jbQ,hl];rfl) (by omega)
     rcases jco.1 hr with hr|hr
     · exact h r hr
     · rw [jcF.1 hr];exact oC hs hw _
   · exact ⟨h,by rw [hl];exact hi⟩
theorem wx (o:List D) (e:Bool) (s:ByteArray):(poOf o e s).1=o∨(poOf o e s).1=bw:=by
 unfold poOf
 split
 · exact .inl rfl
 · exact .inr rfl
theorem jaE {pv:ByteArray→List D × Bool} (hw:∀ t,t.size≤1048576→WfRow T cV (pv t).1∧wRow (pv t).1≤2097152):PoOk (poS pv):=by
 intro t ht
 have sm:=smW t ht
 have hl:=j4 t ht
 obtain ⟨h1,h2⟩:=oF (c:=numS (ae (aj t)) 18) hw sm ((ae (aj t)).length+1) 0 [] (fun r h=>absurd h jbS) rfl (jbP _)
 unfold poS
 rcases wx (opS (ae (aj t)) (rdsS pv (ae (aj t)) (numS (ae (aj t)) 18) ((ae (aj t)).length+1) 0 [])) (!(t.toList == [])) t with e|e
 · rw [e];exact wE sm (by omega) h1
 · rw [e];exact zero_ok
theorem FOk.po_same {P:Program} {f:FuncId} {cts:List CT} {po po' : ByteArray→List D × Bool} (he:∀ s,s.size≤1048576→po' s=po s) (h:FOk P T f (iv cts po')):FOk P T f (iv cts po):=by
 refine ⟨h.call,fun hb=>(by cases hb),fun _ w X args vals a1 a2 a3 hpre=>?_,fun hb=>(by cases hb)⟩
 obtain ⟨s,hs,rfl⟩:=hpre
 have:=h.ok rfl w X _ vals a1 a2 a3 ⟨s,hs,rfl⟩
 show Calls P f vals.toArray w _
 have e:(iv cts po').res [sArg s]=(iv cts po).res [sArg s]:=by
  show SV.tup [(true,rowC cts (po' s).1),(false,[.b (po' s).2])]=SV.tup [(true,rowC cts (po s).1),(false,[.b (po s).2])]
  rw [he s hs]
 rw [e] at this
 exact this
theorem jan {po:ByteArray→List D × Bool} (hp:PoOk po) {s:ByteArray} (hs:s.size≤1048576) (k:Int):WfRow T cO (recS po s k).1∧SmO (recS po s k).1∧0≤(recS po s k).2∧(0≤k→k≤s.size→k+(recS po s k).2≤s.size):=by
 unfold recS
 split
 · rename_i hk
   obtain ⟨n,rfl⟩:=jcP hk.1
   rw [jca]
   have hn:n≤s.size:=by omega
   obtain ⟨a,b,c,d⟩:=kx (s:=s) s.size n hn (by omega)
   have a' : n≤eolK s n:=a
   have b' : eolK s n≤s.size:=b
   unfold recN
   split
   · exact ⟨zero_ok.1,zero_ok.2,jcz _,fun _ h=>by simpa using h⟩
   · rename_i he
     split
     · have:=hp (s.extract n (spK s n - 1)) (by rw [jcd];omega)
       exact ⟨this.1,this.2,jb2 _,fun _ _=>by show (n:Int)+((eolK s n+1 - n:Nat):Int)≤_;omega⟩
     · exact ⟨zero_ok.1,zero_ok.2,jcz _,fun _ h=>by simpa using h⟩
 · exact ⟨zero_ok.1,zero_ok.2,jcz _,fun _ h=>by simpa using h⟩
theorem qJ {cts:List CT} {p q:List D × Int} {cs:List CV} {e:Int} (h:q=p) (hc:cs=rowC cts p.1) (he:e=p.2):[(true,cs),(false,[CV.i .i64 e])]=[(true,rowC cts q.1),(false,[CV.i .i64 q.2])]:=by
 subst h hc he;rfl
theorem uY {po:ByteArray→List D × Bool} {s:ByteArray} {k:Int} (h:(!inR k 0 (s.size:Int))=true):recS po s k=(bw,0):=by
 have:=aY h
 unfold inR at this
 unfold recS
 rw [if_neg]
 rintro ⟨a,b⟩
 rw [Bool.and_eq_false_iff,decide_eq_false_iff_not,decide_eq_false_iff_not] at this
 omega
theorem yz {k:Int} {n:Nat} (h:(!inR k 0 (n:Int))=false):∃ j:Nat,k=j∧j≤n:=by
 have:=aA h
 unfold inR at this
 rw [jb1,decide_eq_true_eq,decide_eq_true_eq] at this
 exact ⟨k.toNat,by omega,by omega⟩
theorem tV {s:ByteArray} {f e:Nat} (h:¬ (e < s.size∧byt s e ≠ 10)):eolN s f e=e:=by
 cases f with
 | zero=>rfl
 | succ f=>rw [eolN,if_neg h]
theorem yH {s:ByteArray} {f e:Nat} (h:e < s.size) (h2:byt s e ≠ 10) (hf:s.size≤e+f):∃ g,f=g+1∧eolN s f e=eolN s g (e+1):=by
 obtain ⟨g,rfl⟩:∃ g,f=g+1:=⟨f - 1,by omega⟩
 exact ⟨g,rfl,by rw [eolN,if_pos ⟨h,h2⟩]⟩
theorem uQ {s:ByteArray} {k p:Nat} (hk:k≤p) (h:¬ (k < p∧byt s (p - 1) ≠ 32)):spN s k p=p:=by
 cases p with
 | zero=>rfl
 | succ p=>rw [spN];exact if_neg h
theorem zO {s:ByteArray} {k p:Nat} (h1:k < p) (h2:byt s (p - 1) ≠ 32):spN s k p=spN s k (p - 1):=by
 obtain ⟨q,rfl⟩:∃ q,p=q+1:=⟨p - 1,by omega⟩
 rw [spN]
 exact if_pos ⟨h1,h2⟩
theorem xU {po:ByteArray→List D × Bool} {s:ByteArray} {n e p:Nat} (hn:n≤s.size) (he:eolK s n=e) (hp:spK s n=p):recS po s (n:Int)=recN po s n e p:=by
 unfold recS
 rw [if_pos ⟨jb2 _,by omega⟩,jca,he,hp]
theorem jab {f:Int→Snap} {a b:Int} (h:a=b):f a=f b:=by rw [h]
theorem ne10 {s:ByteArray} {e:Nat} (h:(((s.data.getD (Int.toNat (e:Int)) 0).toNat:Int) != 10)=true):byt s e ≠ 10:=by
 intro h2
 rw [bne_iff_ne] at h
 apply h
 show ((byt s e:Nat):Int)=10
 rw [h2];rfl
theorem is10 {s:ByteArray} {e:Nat} (h:(((s.data.getD (Int.toNat (e:Int)) 0).toNat:Int) != 10)=false):byt s e=10:=by
 have h2:=bne_eq_false_iff_eq.1 h
 exact_mod_cast h2
theorem qt {n p:Nat} (h:n < p) (hp:p≤1048576):IntKind.i64.wrap ((p:Int) - 1)=((p - 1:Nat):Int):=by
 rw [IntKind.wrap_i64];omega
theorem ne32 {s:ByteArray} {n p:Nat} (h0:n < p) (hp:p≤1048576) (h:(((s.data.getD (Int.toNat (IntKind.i64.wrap ((p:Int) - 1))) 0).toNat:Int) != 32)=true):byt s (p - 1) ≠ 32:=by
 rw [qt h0 hp] at h
 intro h2
 rw [bne_iff_ne] at h
 apply h
 show ((byt s (p - 1):Nat):Int)=32
 rw [h2];rfl
theorem is32 {s:ByteArray} {n p:Nat} (h0:n < p) (hp:p≤1048576) (h:(((s.data.getD (Int.toNat (IntKind.i64.wrap ((p:Int) - 1))) 0).toNat:Int) != 32)=false):byt s (p - 1)=32:=by
 rw [qt h0 hp] at h
 have h2:=bne_eq_false_iff_eq.1 h
 exact_mod_cast h2
section
variable {po:ByteArray→List D × Bool} {s x y:ByteArray} {n e p:Nat}
theorem jat (h:((e:Int) == (s.size:Int))=true):recN po s n e p=(bw,0):=by
 unfold recN
 rw [if_pos (.inl (by have:=eq_of_beq h;omega))]
theorem jas (h:((p:Int) == (n:Int))=true):recN po s n e p=(bw,0):=by
 unfold recN
 rw [if_pos (.inr (by have:=eq_of_beq h;omega))]
theorem jar (hx:x=s.extract n (p - 1)) (h:(!(po x).2)=true):recN po s n e p=(bw,0):=by
 unfold recN
 rw [← hx]
 split
 · rfl
 · rw [if_neg (fun c=>by rw [c.1] at h;cases h)]
theorem jaq (hx:x=s.extract n (p - 1)) (hy:y=s.extract n (e+1)) (h:(!(recT (aZ (po x).1)).toList == y.toList)=true):recN po s n e p=(bw,0):=by
 unfold recN
 rw [← hx, ← hy]
 split
 · rfl
 · rw [if_neg (fun c=>by rw [c.2] at h;simp at h)]
theorem jap (h1:((e:Int) == (s.size:Int))=false) (h2:((p:Int) == (n:Int))=false) (hx:x=s.extract n (p - 1)) (hy:y=s.extract n (e+1)) (h3:(!(po x).2)=false) (h:(!(recT (aZ (po x).1)).toList == y.toList)=false):recN po s n e p=((po x).1,((e+1 - n:Nat):Int)):=by
 unfold recN
 rw [← hx, ← hy]
 rw [beq_eq_false_iff_ne] at h1 h2
 rw [if_neg (by omega),if_pos ⟨aA h3,(aS _ _).mp (eq_of_beq (aA h))⟩]
end
theorem wrapE {e n:Nat} (h:n≤e) (he:e≤1048576):IntKind.i64.wrap (IntKind.i64.wrap ((e:Int)+1) - (n:Int))=((e+1 - n:Nat):Int):=by
 rw [IntKind.wrap_i64,IntKind.wrap_i64];omega
theorem xl {e:Nat} (he:e≤1048576):IntKind.i64.wrap ((e:Int)+1)=((e+1:Nat):Int):=by
 rw [IntKind.wrap_i64];omega
section
variable (rc:ByteArray→Int→List D × Int) (s:ByteArray)
def rcF:Nat→Int→List (List D)→List (List D) × Int
 | 0,k,out=>(out,k)
 | m+1,k,out=>if out.length < 60∧(rc s k).2 ≠ 0 then rcF m (k+(rc s k).2) (out++[(rc s k).1]) else (out,k)
def rcA:List (List D) × Int:=rcF rc s 60 0 []
end
def RcOk (rc:ByteArray→Int→List D × Int):Prop:=∀ s k,s.size≤1048576→WfRow T cO (rc s k).1∧SmO (rc s k).1∧0≤(rc s k).2∧(0≤k→k≤s.size→k+(rc s k).2≤s.size)
theorem xT {po:ByteArray→List D × Bool} (hp:PoOk po):RcOk (recS po):=fun s k hs=>jan hp hs k
theorem wm {rc:ByteArray→Int→List D × Int} {s:ByteArray} {m:Nat} {k:Int} {out:List (List D)} (h:out.length < 60) (h2:((rc s k).2 == 0)=false) (hm:60≤m+out.length):∃ g,m=g+1∧rcF rc s m k out=rcF rc s g (k+(rc s k).2) (out++[(rc s k).1]):=by
 obtain ⟨g,rfl⟩:∃ g,m=g+1:=⟨m - 1,by omega⟩
 exact ⟨g,rfl,by rw [rcF,if_pos ⟨h,beq_eq_false_iff_ne.1 h2⟩]⟩
theorem jp {rc:ByteArray→Int→List D × Int} {s:ByteArray} {m:Nat} {k:Int} {out:List (List D)} (h:¬ (out.length < 60∧(rc s k).2 ≠ 0)):rcF rc s m k out=(out,k):=by
 cases m with
 | zero=>rfl
 | succ m=>rw [rcF,if_neg h]
theorem za {k r:Int} {n:Nat} (h0:0≤k) (h1:0≤r) (h:k+r≤n) (hn:n≤1048576):IntKind.i64.wrap (k+r)=k+r:=by
 rw [IntKind.wrap_i64];omega
theorem wc {f:List (List D)→Int→Snap} {r r' : List (List D)} {a a' : Int} (h:r=r') (h2:a=a'):f r a=f r' a' := by rw [h,h2]
end Go.Proofs.YtdjfhmghebommaaGreatDoor.Ab
