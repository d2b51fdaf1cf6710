/- The program's ParseValue, exactly: printed by a program of this -/
import Derived.Test.YtcllpknipmcolaaGreatDoorCYy
namespace Go.Proofs.YtcllpknipmcolaaGreatDoor.Ab
open Go.RowKit
set_option linter.all false
set_option maxRecDepth 100000
set_option maxHeartbeats 2000000
theorem uH {s:ByteArray} (hs:s.size≤1048576):WfRow T cV (bQ s).1:=by
 have hp:∀ k:Int,0≤k→k≤s.size→PosIn s k:=fun k h0 h=>⟨hs,h0,h⟩
 unfold bQ
 split
 · refine zN ?_
   rw [tS];exact tT _
 split
 · exact zK (rn (pc _ _ _)) (rn (pc _ _ _))
 split
 · rename_i hb
   have hb:=bp hb
   have e:(TBO.size:Int)=6:=rfl
   have p6:PosIn s 6:=hp 6 (by decide) (by omega)
   have pb:=(ph (b:=true) 0 p6).andK (valI s 0 6 true).2.2 COMMA
   have w2:=kG hs 2 (by decide) _ (andB s (valI s 0 6 true).2.1 (valI s 0 6 true).2.2 COMMA) pb.2.1 pb.2.2
   refine zJ (rr p6) (w2.rows (j:=4) rfl).len fun r hr=>rm w2 hr
 · exact kG hs 3 (by decide) 0 true (jc5 _) (jcy _)
theorem xk77:FOk Tryz.prog T 77 (uV cV bQ) :=
 xw77 bn (fun s k b=>valI s 0 k b) (fun s k b=>valI s 2 k b) (fun s k b=>valI s 3 k b) (fun s k b h=>jbg h) (fun s k b h=>ph 0 h) (fun s k b h=>ph 2 h)
  (fun s k b h=>⟨kG h.1 0 (by decide) k b h.2.1 h.2.2,uL 0 (by decide) h⟩) (fun s k b h=>⟨kG h.1 2 (by decide) k b h.2.1 h.2.2,uL 2 (by decide) h⟩) (fun s k b h=>rr h) xE
  (FOk.rd2 (ll 0 (by decide)) (ll 2 (by decide)) (ll 3 (by decide)))
theorem xv39 (n:Nat) (wh:ByteArray→Rd3) (hwf:∀ s,s.size≤1048576→WfRow T cV (wh s).1) (hwt:∀ s,s.size≤1048576→wRow (wh s).1≤WM) (hp:FOk Tryz.prog T 77 (uV cV wh)):FOk Tryz.prog T 39 (spPV cV n (fun s=>pvOf (wh s).1 ((wh s).2.2 && (wh s).2.1 == (s.size:Int)) s)):=by
 refine fok (env:=envL [(77,(uV cV wh)),(26,(spGT T cV SmM fmtO))]) (N:=37) tabT (aa hp (aa xk26 ae)) mixed Tryz.func39 rfl Tryz.call39 Tryz.ntmps39 ?_
 rintro args ⟨s,hs,hn,rfl⟩ hwf'
 clear hwf'
 have w:=hwf s hs
 have wt:=hwt s hs
 have w7:csD (rowC cV (wh s).1)=(wh s).1:=aw w
 refine ⟨by simp,?_⟩
 rw [Tryz.results39]
 repeat' first
  | (refine And.intro ?_ ?_)
  | (intro h;simp only [reduceCtorEq] at h;done)
  | (intro h;rw [h])
  | (intro h)
 all_goals first
  | (show av _=true;kernel_rfl)|(show aX _ _=true;kernel_rfl)|exact True.intro|exact Or.inr rfl|exact Or.inl rfl
  | exact rfl
  | exact ⟨_,hs,rfl⟩
  | exact ⟨_,w,wt,rfl⟩
  | exact fu (pv_1 (by rw [bm (show (!(wh s).2.2)=true by assumption)];rfl)) rfl rfl
  | (have hok:(wh s).2.2=true:=aI (by assumption)
     first
      | exact fu (pv_1 (by rw [hok,jb3 (show ((wh s).2.1 != (s.size:Int))=true by assumption)];rfl)) rfl rfl
      | (have hat:((wh s).2.1 == (s.size:Int))=true:=jb4 (by assumption)
         first
          | exact fu (pv_3 (by assumption)) rfl rfl
          | (have hz:(!(fmtO (wh s).1).toList == s.toList)=true:=(by rw [← w7];assumption)
             exact fu (pv_2 hz) rfl rfl)
          | (have hz:(!(fmtO (wh s).1).toList == s.toList)=false:=(by rw [← w7];assumption)
             exact fu (pv_4 (by rw [hok,hat];rfl) hz (by assumption)) rfl rfl)))
  | skip
theorem xk39 (n:Nat):FOk Tryz.prog T 39 (spPV cV n pvI):=xv39 n bQ (fun s hs=>uH hs) (fun s hs=>xI hs) xk77
abbrev cRd:List CT:=[.i .i64,.i .i64,.i .i64,.s,.i .i64,.i .i64,.i .i64,.s,.l 57,.l 9,.l 101]
def RdOk (r:List D):Prop:=WfRow T cRd r∧(r.getD 3 default).str.size≤1048576∧(r.getD 9 default).rows.length+(r.getD 10 default).rows.length≤2097152
theorem WfRow.app {c1 c2:List CT} {r1 r2:List D} (h1:WfRow T c1 r1) (h2:WfRow T c2 r2):WfRow T (c1++c2) (r1++r2):=by
 induction c1 generalizing r1 with
 | nil=>obtain rfl:=h1.nil';exact h2
 | cons c c1 ih =>
   obtain ⟨d,r,rfl,hd,hr⟩:=h1.cons'
   exact .cons hd (ih hr)
theorem jaV {a b c:Int} {t:ByteArray} {v:List D} (ha:inK .i64 a) (hb:inK .i64 b) (hc:inK .i64 c) (ht:t.size≤1048576) (hv:WfRow T cV v) (hw:wRow v≤2097152):RdOk ([.i a,.i b,.i c,.s t]++v):=by
 refine ⟨WfRow.app (c1:=[.i .i64,.i .i64,.i .i64,.s]) (.cons (.int _ _ ha) (.cons (.int _ _ hb) (.cons (.int _ _ hc) (.cons (.str _ (jcr ht (by decide))) .nil)))) hv,ht,?_⟩
 have e1:([D.i a,D.i b,D.i c,D.s t]++v).getD 9 default=v.getD 5 default:=rfl
 have e2:([D.i a,D.i b,D.i c,D.s t]++v).getD 10 default=v.getD 6 default:=rfl
 rw [e1,e2]
 obtain ⟨d0,r0,rfl,w0,hv⟩:=hv.cons'
 obtain ⟨d1,r1,rfl,w1,hv⟩:=hv.cons'
 obtain ⟨d2,r2,rfl,w2,hv⟩:=hv.cons'
 obtain ⟨d3,r3,rfl,w3,hv⟩:=hv.cons'
 obtain ⟨d4,r4,rfl,w4,hv⟩:=hv.cons'
 obtain ⟨d5,r5,rfl,w5,hv⟩:=hv.cons'
 obtain ⟨d6,r6,rfl,w6,hv⟩:=hv.cons'
 obtain rfl:=hv.nil'
 have h5:=nR d5
 have h6:=nR d6
 simp only [wRow] at hw
 show d5.rows.length+d6.rows.length≤_
 omega
theorem xJ {a0 a1 a2 e0 e1 c0 c1 c2 cn ce ve:Int} {seen rd:List (List D)} {nm cd fr tt:ByteArray} (h0:inK .i64 a0) (h1:inK .i64 a1) (h2:inK .i64 a2) (hs:seen.length≤3) (hsw:∀ r ∈ seen,WfRow T [.i .i64] r) (h4:inK .i64 e0) (h5:inK .i64 e1) (h6:inK .i64 c0) (h7:inK .i64 c1) (h8:inK .i64 c2)
 (hn:nm.size≤1048576) (hd:cd.size≤1048576) (h11:inK .i64 cn) (hf:fr.size≤1048576) (ht:tt.size≤1048576) (h14:inK .i64 ce) (h15:inK .i64 ve) (hr:rd.length≤1048576) (hrd:∀ r ∈ rd,RdOk r) :
 WfRow T cO (opOf a0 a1 a2 seen e0 e1 c0 c1 c2 nm cd cn fr tt ce ve rd)∧SmO (opOf a0 a1 a2 seen e0 e1 c0 c1 c2 nm cd cn fr tt ce ve rd):=by
 have tx:∀ {t:ByteArray},t.size≤1048576→WfD T .s (.s t):=fun h=>.str _ (jcr h (by decide))
 refine ⟨.cons (.int _ _ h0) (.cons (.int _ _ h1) (.cons (.int _ _ h2) (.cons (WfD.of_rows (show T 3=some _ from rfl) (jcr hs (by decide)) hsw) (.cons (.int _ _ h4) (.cons (.int _ _ h5) (.cons (.int _ _ h6) (.cons (.int _ _ h7) (.cons (.int _ _ h8)
  (.cons (tx hn) (.cons (tx hd) (.cons (.int _ _ h11) (.cons (tx hf) (.cons (tx ht) (.cons (.int _ _ h14) (.cons (.int _ _ h15) (.cons (WfD.of_rows (show T 59=some _ from rfl) (jcr hr (by decide)) fun r h=>(hrd r h).1) .nil)))))))))))))))),?_⟩
 refine ⟨jcr hs (by decide),hr,⟨hn,hd,hf,ht⟩,fun i hi=>?_⟩
 have:=hrd (rd.getD i []) (by have hi' : i < rd.length:=hi;rw [jcp,jcj hi'];exact jdK hi')
 exact this.2
theorem prs_k (s:ByteArray):inK .i64 (prs (-999999999999) 999999999999 s).1:=by
 have e1:IntKind.i64.min = -9223372036854775808:=by decide
 have e2:IntKind.i64.max=9223372036854775807:=by decide
 have:-999999999999≤(prs (-999999999999) 999999999999 s).1∧(prs (-999999999999) 999999999999 s).1≤999999999999:=pK (by decide) (by decide)
 rw [inK,e1,e2];omega
theorem jaW (s:ByteArray):inK .i64 (prs (-1000000000) 1000000000 s).1:=by
 have e1:IntKind.i64.min = -9223372036854775808:=by decide
 have e2:IntKind.i64.max=9223372036854775807:=by decide
 have:-1000000000≤(prs (-1000000000) 1000000000 s).1∧(prs (-1000000000) 1000000000 s).1≤1000000000:=pK (by decide) (by decide)
 rw [inK,e1,e2];omega
theorem c8 (rows:List (List D)) (k:Nat):inK .i64 (numS rows k):=by
 unfold numS
 split
 · exact prs_k _
 · exact k0 0 (by decide) (by decide)
theorem ja (rows:List (List D)) (i:Nat):(ie rows i).length=i∧∀ r ∈ ie rows i,WfRow T [.i .i64] r:=by
 unfold ie
 refine ⟨by simp,fun r hr=>?_⟩
 obtain ⟨j,_,rfl⟩:=jc2.1 hr
 exact .cons (.int _ _ (c8 _ _)) .nil
theorem wY {rows:List (List D)} (hs:SmW rows) {rd:List (List D)} (hr:rd.length≤1048576) (hrd:∀ r ∈ rd,RdOk r):WfRow T cO (opS rows rd)∧SmO (opS rows rd) :=
 xJ (c8 _ _) (c8 _ _) (c8 _ _) (by rw [(ja rows 3).1];exact jcA _) (ja rows 3).2 (c8 _ _) (c8 _ _) (c8 _ _) (c8 _ _) (c8 _ _) (cF hs _) (cF hs _) (c8 _ _) (cF hs _) (cF hs _) (c8 _ _) (c8 _ _) hr hrd
theorem oj {rows:List (List D)} (hs:SmW rows) {pv:ByteArray→List D × Bool} (hw:∀ t,t.size≤1048576→WfRow T cV (pv t).1∧wRow (pv t).1≤2097152) (k:Nat):RdOk (rowS pv rows k) :=
 jaV (c8 _ _) (c8 _ _) (c8 _ _) (cF hs _) (hw _ (cF hs _)).1 (hw _ (cF hs _)).2
theorem sB {pv:ByteArray→List D × Bool} {rows:List (List D)} {c:Int} {m i:Nat} {out:List (List D)} (h:¬ ((i:Int) < c∧19+5 * i < rows.length)):rdsS pv rows c m i out=out:=by
 cases m with
 | zero=>rfl
 | succ m=>rw [rdsS,if_neg h]
theorem yt {pv:ByteArray→List D × Bool} {rows:List (List D)} {c:Int} {m i:Nat} {out:List (List D)} (h1:(i:Int) < c) (h2:19+5 * i < rows.length):rdsS pv rows c (m+1) i out=rdsS pv rows c m (i+1) (out++[rowS pv rows (19+5 * i)]):=by
 rw [rdsS,if_pos ⟨h1,h2⟩]
set_option maxHeartbeats 8000000 in
theorem xo13 (pv:ByteArray→List D × Bool) (hw:∀ t,t.size≤1048576→WfRow T cV (pv t).1∧wRow (pv t).1≤2097152) (hpv:FOk Tryz.prog T 43 (cZ cV pv)):FOk Tryz.prog T 13 (cZ cO (poS pv)):=by
 refine fok (env:=envL [(40,(fS true)),(41,jaq),(42,jap),(43,(cZ cV pv)),(19,(rQ T cO))]) (N:=133) tabT (aa ok40 (aa (FOk.wi2 ok41) (aa (FOk.wt2 ok42) (aa hpv (aa ok19 ae))))) mixed Tryz.func13 rfl Tryz.call13 Tryz.ntmps13 ?_
 rintro args ⟨s,hs,rfl⟩ hwf'
 clear hwf'
 have sm:=smW s hs
 have hlen:=lM s hs
 refine ⟨by simp,?_⟩
 rw [Tryz.results13]
 repeat' first
  | (refine And.intro ?_ ?_)
  | (intro h;simp only [reduceCtorEq] at h;done)
  | (intro h;rw [h])
  | (intro h)
 all_goals first
  | exact rfl
  | exact ⟨_,hs,rfl⟩
  | exact ⟨_,_,by decide,by decide,sm,rfl⟩
  | skip
 refine am (Q:=_) [0,2,4,5,6] [2,13,5] (fun m st=>∃ i:Nat,st=([sArg s,.ptr 2 1 0,.ptr 13 1 0,.ptr 5 1 0,iArg (i:Int)],[(1,[.val false [.i .i64 0],.val false [.i .i64 0],.val false [.i .i64 0],.val false [.sl true 3 []],.val false [.i .i64 0],.val false [.i .i64 0],.val false [.i .i64 0],.val false [.i .i64 0],.val false [.i .i64 0],.val false [.s ByteArray.empty],.val false [.s ByteArray.empty],.val false [.i .i64 0],.val false [.s ByteArray.empty],.val false [.s ByteArray.empty],.val false [.i .i64 0],.val false [.i .i64 0],.val false [.sl true 59 []]]),(1,[.val false [.sl true 9 (ac (ah s))],.val false [.i .i64 ((3+i:Nat):Int)]]),(1,[.val false [.i .i64 (numS (ac (ah s)) 0)],.val false [.i .i64 (numS (ac (ah s)) 1)],.val false [.i .i64 (numS (ac (ah s)) 2)],.val false [.sl true 3 (ie (ac (ah s)) i)],.val false [.i .i64 0],.val false [.i .i64 0],.val false [.i .i64 0],.val false [.i .i64 0],.val false [.i .i64 0],.val false [.s ByteArray.empty],.val false [.s ByteArray.empty],.val false [.i .i64 0],.val false [.s ByteArray.empty],.val false [.s ByteArray.empty],.val false [.i .i64 0],.val false [.i .i64 0],.val false [.sl true 59 []]])])∧i≤3∧m=3 - i) ?_ ?_
 · exact ⟨rfl,3,0,rfl,by decide,rfl⟩
 rintro m st ⟨i,rfl,hi,rfl⟩
 repeat' first
  | (refine And.intro ?_ ?_)
  | (intro h;simp only [reduceCtorEq] at h;done)
  | (intro h;rw [h])
  | (intro h)
 all_goals first
  | (show av _=true;kernel_rfl)
  | (show aX _ _=true;kernel_rfl)
  | exact rfl
  | (refine ⟨_,_,?_,?_,sm,rfl⟩ <;> omega)
  | (have h3:i < 3:=by have:=jck (show decide ((i:Int) < 3)=true by assumption);omega
     first
      | (show (ie (ac (ah s)) i).length+1≤maxLen;rw [(ja (ac (ah s)) i).1];simp only [maxLen];omega)
      | (show ((ie (ac (ah s)) i).length+1) * 8≤_;rw [(ja (ac (ah s)) i).1];omega)
      | (refine ⟨3 - (i+1),by omega,i+1,?_,by omega,rfl⟩
         exact ef (f:=fun r z=>(([sArg s,.ptr 2 1 0,.ptr 13 1 0,.ptr 5 1 0,iArg z],[(1,[.val false [.i .i64 0],.val false [.i .i64 0],.val false [.i .i64 0],.val false [.sl true 3 []],.val false [.i .i64 0],.val false [.i .i64 0],.val false [.i .i64 0],.val false [.i .i64 0],.val false [.i .i64 0],.val false [.s ByteArray.empty],.val false [.s ByteArray.empty],.val false [.i .i64 0],.val false [.s ByteArray.empty],.val false [.s ByteArray.empty],.val false [.i .i64 0],.val false [.i .i64 0],.val false [.sl true 59 []]]),(1,[.val false [.sl true 9 (ac (ah s))],.val false [.i .i64 ((3+(i+1):Nat):Int)]]),(1,[.val false [.i .i64 (numS (ac (ah s)) 0)],.val false [.i .i64 (numS (ac (ah s)) 1)],.val false [.i .i64 (numS (ac (ah s)) 2)],.val false [.sl true 3 r],.val false [.i .i64 0],.val false [.i .i64 0],.val false [.i .i64 0],.val false [.i .i64 0],.val false [.i .i64 0],.val false [.s ByteArray.empty],.val false [.s ByteArray.empty],.val false [.i .i64 0],.val false [.s ByteArray.empty],.val false [.s ByteArray.empty],.val false [.i .i64 0],.val false [.i .i64 0],.val false [.sl true 59 []]])]):Snap)) (qs (ac (ah s)) i) (wrapN h3 (by decide))))
  | skip
 obtain rfl:i=3:=by have:=jcv (show decide ((i:Int) < 3)=false by assumption);omega
 refine am (Q:=_) [0,2,4,5,7,8] [2,13,5] (fun m st=>∃ (i:Nat) (o:List (List D)),st=([sArg s,.ptr 2 1 0,.ptr 13 1 0,.ptr 5 1 0,iArg (numS (ac (ah s)) 18),iArg (i:Int)],[(1,[.val false [.i .i64 0],.val false [.i .i64 0],.val false [.i .i64 0],.val false [.sl true 3 []],.val false [.i .i64 0],.val false [.i .i64 0],.val false [.i .i64 0],.val false [.i .i64 0],.val false [.i .i64 0],.val false [.s ByteArray.empty],.val false [.s ByteArray.empty],.val false [.i .i64 0],.val false [.s ByteArray.empty],.val false [.s ByteArray.empty],.val false [.i .i64 0],.val false [.i .i64 0],.val false [.sl true 59 []]]),(1,[.val false [.sl true 9 (ac (ah s))],.val false [.i .i64 ((19+5 * i:Nat):Int)]]),(1,[.val false [.i .i64 (numS (ac (ah s)) 0)],.val false [.i .i64 (numS (ac (ah s)) 1)],.val false [.i .i64 (numS (ac (ah s)) 2)],.val false [.sl true 3 (ie (ac (ah s)) 3)],.val false [.i .i64 (numS (ac (ah s)) 6)],.val false [.i .i64 (numS (ac (ah s)) 7)],.val false [.i .i64 (numS (ac (ah s)) 8)],.val false [.i .i64 (numS (ac (ah s)) 9)],.val false [.i .i64 (numS (ac (ah s)) 10)],.val false [.s (txtS (ac (ah s)) 12)],.val false [.s (txtS (ac (ah s)) 13)],.val false [.i .i64 (numS (ac (ah s)) 11)],.val false [.s (txtS (ac (ah s)) 14)],.val false [.s (txtS (ac (ah s)) 15)],.val false [.i .i64 (numS (ac (ah s)) 16)],.val false [.i .i64 (numS (ac (ah s)) 17)],.val false [.sl true 59 o]])])∧o.length=i∧5 * i≤(ac (ah s)).length∧(∀ r ∈ o,RdOk r)∧rdsS pv (ac (ah s)) (numS (ac (ah s)) 18) m i o=rdsS pv (ac (ah s)) (numS (ac (ah s)) 18) ((ac (ah s)).length+1) 0 []∧m=(ac (ah s)).length+1 - i) ?_ ?_
 · exact ⟨rfl,(ac (ah s)).length+1,0,[],rfl,rfl,jcl _,fun r h=>absurd h (jco),rfl,rfl⟩
 rintro m st ⟨i,o,rfl,hol,hi,ho,hE,hm⟩
 generalize hRW:(ac (ah s))=rw_ at *
 have ow:=wY sm (rd:=o) (by omega) ho
 have w7o:=aw ow.1
 repeat' first
  | (refine And.intro ?_ ?_)
  | (intro h;simp only [reduceCtorEq] at h;done)
  | (intro h;rw [h])
  | (intro h)
 all_goals first
  | (show av _=true;kernel_rfl)
  | (show aX _ _=true;kernel_rfl)
  | exact True.intro
  | exact Or.inr rfl
  | exact rfl
  | (refine ⟨_,_,?_,?_,sm,rfl⟩ <;> omega)
  | exact ⟨_,cF sm _,rfl⟩
  | exact ⟨_,ow.1,ow.2,rfl⟩
  | (have g1:(i:Int) < numS rw_ 18:=jck (by assumption)
     have g2:19+5 * i < rw_.length:=by have:=jck (show decide (((19+5 * i:Nat):Int) < (rw_.length:Int))=true by assumption);omega
     have hrow:csD (rowC cRd (rowS pv rw_ (19+5 * i)))=rowS pv rw_ (19+5 * i):=aw (oj sm hw _).1
     first
      | (show o.length+1≤maxLen;simp only [maxLen];omega)
      | (show (o.length+1) * 152≤_;omega)
      | (refine ⟨rw_.length+1 - (i+1),by omega,i+1,o++[rowS pv rw_ (19+5 * i)],?_,by rw [jcm,hol];rfl,by omega,?_,?_,rfl⟩
         · exact u5 (f:=fun r k z=>(([sArg s,.ptr 2 1 0,.ptr 13 1 0,.ptr 5 1 0,iArg (numS rw_ 18),iArg z],[(1,[.val false [.i .i64 0],.val false [.i .i64 0],.val false [.i .i64 0],.val false [.sl true 3 []],.val false [.i .i64 0],.val false [.i .i64 0],.val false [.i .i64 0],.val false [.i .i64 0],.val false [.i .i64 0],.val false [.s ByteArray.empty],.val false [.s ByteArray.empty],.val false [.i .i64 0],.val false [.s ByteArray.empty],.val false [.s ByteArray.empty],.val false [.i .i64 0],.val false [.i .i64 0],.val false [.sl true 59 []]]),(1,[.val false [.sl true 9 rw_],.val false [.i .i64 k]]),(1,[.val false [.i .i64 (numS rw_ 0)],.val false [.i .i64 (numS rw_ 1)],.val false [.i .i64 (numS rw_ 2)],.val false [.sl true 3 (ie rw_ 3)],.val false [.i .i64 (numS rw_ 6)],.val false [.i .i64 (numS rw_ 7)],.val false [.i .i64 (numS rw_ 8)],.val false [.i .i64 (numS rw_ 9)],.val false [.i .i64 (numS rw_ 10)],.val false [.s (txtS rw_ 12)],.val false [.s (txtS rw_ 13)],.val false [.i .i64 (numS rw_ 11)],.val false [.s (txtS rw_ 14)],.val false [.s (txtS rw_ 15)],.val false [.i .i64 (numS rw_ 16)],.val false [.i .i64 (numS rw_ 17)],.val false [.sl true 59 r]])]):Snap)) (congrArg (fun r=>o++[r]) hrow) (by omega) (wrapN (n:=rw_.length) (by omega) (by simp only [maxLen];omega))
         · intro r hr
           rcases jcU.1 hr with h|h
           · exact ho r h
           · rw [jdb.1 h];exact oj sm hw _
         · rw [← hE,hm,show rw_.length+1 - i=(rw_.length+1 - (i+1))+1 by omega,yt g1 g2]))
  | (have hO:rdsS pv rw_ (numS rw_ 18) (rw_.length+1) 0 []=o:=by
      refine hE.symm.trans (sB ?_)
      rintro ⟨a1,a2⟩
      first
       | exact absurd a1 (jcv (by assumption))
       | (have:=jcv (show decide (((19+5 * i:Nat):Int) < (rw_.length:Int))=false by assumption);omega)
     have hP:poS pv s=poOf (opS rw_ o) (!(s.toList == [])) s:=by rw [ja1 hRW,hO]
     first
      | (have hz:(s.toList == [])=true:=by rw [← nil_toList];assumption
         exact fu (hP.trans (sT (by rw [hz];rfl))) rfl rfl)
      | (have hz:(!(aL (opS rw_ o)).toList == s.toList)=true:=by rw [← w7o];assumption
         exact fu (hP.trans (wV hz)) rfl rfl)
      | (have hz:(!(aL (opS rw_ o)).toList == s.toList)=false:=by rw [← w7o];assumption
         have hy:(s.toList == [])=false:=by rw [← nil_toList];assumption
         exact fu (hP.trans (wT (by rw [hy];rfl) hz)) rfl rfl))
end Go.Proofs.YtcllpknipmcolaaGreatDoor.Ab
