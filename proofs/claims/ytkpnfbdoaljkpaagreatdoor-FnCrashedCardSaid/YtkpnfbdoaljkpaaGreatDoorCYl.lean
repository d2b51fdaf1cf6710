/- The reference's readers of values, exactly: printed by a program of this -/
import Derived.Test.YtkpnfbdoaljkpaaGreatDoorCYj
import Derived.Test.YtkpnfbdoaljkpaaGreatDoorCPa
namespace Go.Proofs.YtkpnfbdoaljkpaaGreatDoor.Ab
open Go.RowKit
set_option linter.all false
set_option maxRecDepth 100000
set_option maxHeartbeats 2000000
theorem WfD.of_rows {e:TypeId} {te:Ty} {rows:List (List D)} (he:T e=some te) (hl:rows.length≤maxLen) (h:∀ r ∈ rows,WfRow T te.cts r):WfD T (.l e) (.l rows) :=
 .sl e te rows he hl (fun k row hk=>(h row (jbd hk)).1) (fun k j ct d row hk hj hd=>(h row (jbd hk)).2 j ct d hj hd)
theorem WfRow.cons {ct:CT} {cts:List CT} {d:D} {r:List D} (h:WfD T ct d) (hr:WfRow T cts r):WfRow T (ct :: cts) (d :: r):=by
 refine ⟨by simp [hr.1],fun j ct' d' h1 h2=>?_⟩
 cases j with
 | zero=>cases h1;cases h2;exact h
 | succ j=>exact hr.2 j ct' d' h1 h2
theorem WfRow.nil:WfRow T [] []:=⟨rfl,fun j ct d h _=>by simp at h⟩
abbrev cR:List CT:=[.l 3,.l 167]
theorem wf7 {k n st:Int} {tx:ByteArray} {l4 l5 l6:List (List D)} (hk:inK .i64 k) (hn:inK .i64 n) (hs:inK .i64 st) (ht:tx.size≤maxLen) (h4:WfD T (.l 53) (.l l4)) (h5:WfD T (.l 9) (.l l5)) (h6:WfD T (.l 131) (.l l6)):WfRow T cV (val7 k n st tx l4 l5 l6) :=
 .cons (.int _ _ hk) (.cons (.int _ _ hn) (.cons (.int _ _ hs) (.cons (.str _ ht) (.cons h4 (.cons h5 (.cons h6 .nil))))))
theorem k0 (c:Int) (h0:-100≤c) (h1:c≤100):inK .i64 c:=by
 have e1:IntKind.i64.min = -9223372036854775808:=by decide
 have e2:IntKind.i64.max=9223372036854775807:=by decide
 rw [inK,e1,e2];omega
theorem m9:WfRow T cV vNil:=wf7 (k0 0 (by decide) (by decide)) (k0 0 (by decide) (by decide)) (k0 0 (by decide) (by decide)) (by decide) (.nil _) (.nil _) (.nil _)
theorem yc {n:Int} (h:inK .i64 n):WfRow T cV (vNum n):=wf7 (k0 1 (by decide) (by decide)) h (k0 0 (by decide) (by decide)) (by decide) (.nil _) (.nil _) (.nil _)
theorem ye {n:Int} (h:inK .i64 n):WfRow T cV (vErr n):=wf7 (k0 6 (by decide) (by decide)) h (k0 0 (by decide) (by decide)) (by decide) (.nil _) (.nil _) (.nil _)
theorem x8 {t:ByteArray} (h:t.size≤maxLen):WfRow T cV (vTxt t):=wf7 (k0 2 (by decide) (by decide)) (k0 0 (by decide) (by decide)) (k0 0 (by decide) (by decide)) h (.nil _) (.nil _) (.nil _)
theorem ya {n st:Int} (h:inK .i64 n) (h2:inK .i64 st):WfRow T cV (vStr n st):=wf7 (k0 4 (by decide) (by decide)) h h2 (by decide) (.nil _) (.nil _) (.nil _)
theorem vP {l:List (List D)} (hl:l.length≤maxLen) (h:∀ r ∈ l,WfRow T cV r):WfRow T cV (vLst l):=wf7 (k0 3 (by decide) (by decide)) (k0 0 (by decide) (by decide)) (k0 0 (by decide) (by decide)) (by decide) (WfD.of_rows (show T 53=some _ from rfl) hl h) (.nil _) (.nil _)
theorem oo {v:List D} (h:WfRow T cV v) {y:List D} (hy:y ∈ lst v):WfRow T cV y:=by
 obtain ⟨i,hi,rfl⟩:=dX [] hy
 exact (h.rows (j:=4) rfl).row rfl hi
theorem ot {v:List D} (h:WfRow T cV v):inK .i64 (iAt v 1):=by
 obtain ⟨d0,r0,rfl,w0,h⟩:=h.cons'
 obtain ⟨d1,r1,rfl,w1,h⟩:=h.cons'
 obtain ⟨n1,rfl,h1⟩:=w1.int'
 exact h1
theorem tn {v:List D} (h:WfRow T cV v):WfRow T cR (aJ v):=by
 refine .cons (WfD.of_rows (show T 3=some _ from rfl) ?_ ?_) (.cons (.nil _) .nil)
 · rw [ja5];exact (h.rows (j:=4) rfl).len
 · intro r hr
   obtain ⟨y,hy,rfl⟩:=jbB.1 hr
   exact .cons (.int _ _ (ot (oo h hy))) .nil
theorem x9 {t:ByteArray} {l:List (List D)} (ht:t.size≤1048576) (hl:l.length≤maxLen) (h:∀ r ∈ l,WfRow T cV r):WfRow T cV (vTbl (af (ao t)) (l.map aJ)):=by
 refine wf7 (k0 5 (by decide) (by decide)) (k0 0 (by decide) (by decide)) (k0 0 (by decide) (by decide)) (by decide) (.nil _) (WfD.of_rows (show T 9=some _ from rfl) ?_ ?_) (WfD.of_rows (show T 131=some _ from rfl) ?_ ?_)
 · rw [aR];have:=dH t;simp only [maxLen];omega
 · intro r hr
   obtain ⟨x,hx,rfl⟩:=jbB.1 hr
   exact .cons (.str _ (ja0 (fo hx) (by simp only [maxLen];omega))) .nil
 · rw [ja5];exact hl
 · intro r hr
   obtain ⟨v,hv,rfl⟩:=jbB.1 hr
   exact tn (h v hv)
theorem sG (t:ByteArray):inK .i64 (errC t):=by
 have e1:IntKind.i64.min = -9223372036854775808:=by decide
 have e2:IntKind.i64.max=9223372036854775807:=by decide
 have hl:(af errs).length=9:=rfl
 unfold errC
 split
 · exact k0 0 (by decide) (by decide)
 · rcases dq (af errs).length (isAt (af errs) t) with ⟨h,_⟩|⟨i,hi,h,_⟩
   · unfold idxT
     rw [h,inK,e1,e2];decide
   · unfold idxT
     rw [h,inK,e1,e2]
     omega
theorem oq {par:Int→List D × Int} {s:ByteArray} {k0:Int} (hp:∀ k,k0≤k→k≤s.size→Pos s k (wRow (par k).1) (par k).2) (hw:∀ k,k0≤k→k≤s.size→WfRow T cV (par k).1) :
 ∀ (m:Nat) (k:Int) (out:List (List D)),k0≤k→k≤s.size→out.length+m=64→(∀ r ∈ out,WfRow T cV r)→(bO par s m k out).1.length≤64∧∀ r ∈ (bO par s m k out).1,WfRow T cV r
 | 0,_,_,_,_,_,_=>⟨jaU _,fun r hr=>absurd hr (jaX)⟩
 | m + 1, k,out,h0,h,hm,ho=>by
   have a:=hp k h0 h
   have w:=hw k h0 h
   have ho' : ∀ r ∈ out++[(par k).1],WfRow T cV r:=by
    intro r hr
    rcases jbt.1 hr with h|h
    · exact ho r h
    · rw [jbK.1 h];exact w
   unfold bO
   split
   · exact ⟨jaU _,fun r hr=>absurd hr (jaX)⟩
   · rename_i h1
     rcases a with ⟨a,_⟩|⟨a1,a2,a3⟩
     · omega
     split
     · exact ⟨by show (out++[(par k).1]).length≤64;rw [jaV,jb5];omega,ho'⟩
     · split
       · exact ⟨jaU _,fun r hr=>absurd hr (jaX)⟩
       · rename_i h2 h3
         have b:=bu (by simpa using h3)
         have e:(COMMA.size:Int)=2:=rfl
         exact oq hp hw m _ _ (by omega) (by omega) (by rw [jaV,jb5];omega) ho'
theorem xZ {par:Int→List D × Int} {s:ByteArray} {k0:Int} (hp:∀ k,k0≤k→k≤s.size→Pos s k (wRow (par k).1) (par k).2) (hw:∀ k,k0≤k→k≤s.size→WfRow T cV (par k).1) (h:k0≤s.size):(itmP par s k0).1.length≤64∧∀ r ∈ (itmP par s k0).1,WfRow T cV r:=by
 unfold itmP
 split
 · exact ⟨jaU _,fun r hr=>absurd hr (jaX)⟩
 · exact oq hp hw 64 k0 [] (jbE _) h rfl (fun r hr=>absurd hr (jaX))
theorem qm {s:ByteArray} (hs:s.size≤1048576):∀ (n:Nat) (k:Int),0≤k→k≤s.size→WfRow T cV (parF s n k).1
 | 0,_,_,_=>m9
 | n+1,k,h0,h=>by
   have itm:∀ k0,0≤k0→k0≤(s.size:Int)→_:=fun k0 h0 h=>xZ (par:=parF s n) (s:=s) (k0:=k0) (fun k hk hs=>k7 s n k (by omega) hs) (fun k hk hk2=>qm hs n k (by omega) hk2) h
   show WfRow T cV (parP (itmP (parF s n) s) s k).1
   unfold parP
   split
   · refine x8 ?_
     rcases dL h0 h with ⟨h1,h2⟩|⟨h1,h2,h3⟩
     · rw [h2];decide
     · simp only [maxLen];omega
   split
   · rename_i h1
     have b:=bu h1
     have e:(LBR.size:Int)=1:=rfl
     have q:=itm (k+1) (by omega) (by omega)
     exact vP (ja0 q.1 (by decide)) q.2
   split
   · unfold strP
     repeat' split
     all_goals first
      | exact m9
      | exact ya (nP _ _) (nP _ _)
   split
   · rename_i h1
     have b:=bu h1
     have e:(TBO.size:Int)=6:=rfl
     unfold tabP
     rcases dL (s:=s) (k:=k+6) (by omega) (by omega) with ⟨q1,q2⟩|⟨q1,q2,q3⟩
     · rw [if_pos (by omega)];exact m9
     rw [if_neg (by omega)]
     split
     · exact m9
     rename_i c1
     have c2:=bu (by simpa using c1)
     have e3:(CLB.size:Int)=3:=rfl
     have q:=itm ((quoP s (k+6)).2+3) (by omega) (by omega)
     split
     · exact m9
     split
     · exact m9
     exact x9 (by omega) (ja0 q.1 (by decide)) q.2
   split
   · exact ye (sG _)
   · exact yc (nP _ _)
end Go.Proofs.YtkpnfbdoaljkpaaGreatDoor.Ab
