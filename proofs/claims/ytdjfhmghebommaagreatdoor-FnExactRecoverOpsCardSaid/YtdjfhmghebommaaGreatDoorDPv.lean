/- A part. -/
import Derived.Test.YtdjfhmghebommaaGreatDoorDWo
namespace Go.Proofs.YtdjfhmghebommaaGreatDoor.Ab
open Go.RowKit
set_option linter.all false
set_option maxRecDepth 100000
noncomputable def pvY:ByteArray→List D × Bool:=pvS 1048577
theorem sT (t:ByteArray) (ht:t.size≤1048576):WfRow T cV (pvY t).1∧wRow (pvY t).1≤2097152:=by
 have h0:=k7 ht 1048577 0 (jcz _) (jb2 _)
 have h1:=dv t 1048577 0 (jcz _) (jb2 _)
 unfold pvY pvS pvOf
 split
 · refine ⟨h0,?_⟩
   show wRow (parF t 1048577 0).1≤2097152
   unfold Pos at h1
   omega
 · refine ⟨?_,by decide⟩
   have z:inK .i64 0:=k0 0 (by decide) (by decide)
   have h2:=k7 ht 0 0 (jcz _) (jb2 _)
   exact h2
theorem pvY_s:FOk Tryz.prog T 21 (iv cV pvY):=FOk.pv2 (n:=1048577) (jb4 _) (xk21 1048577)
theorem jay:pvI=pvY:=funext fun s=>(xX (n:=1048577) (by decide) s).symm
theorem pvY_i:FOk Tryz.prog Td 26 (dt cV pvY):=by
 rw [← jay]
 exact FOk.pv2O (xd26 1048577)
theorem rG:∀ (e:TypeId) (ty:Ty),T e=some ty→ty.cts.length≤64:=by
 intro e ty h
 have hp:∀ p ∈ tab,p.2.cts.length≤64:=by decide
 have h' : (tab.find? (·.1 == e)).map (·.2)=some ty:=h
 cases hf:tab.find? (·.1 == e) with
 | none=>rw [hf] at h';cases h'
 | some p =>
   rw [hf] at h'
   obtain rfl:=jbR h'
   exact hp p (List.mem_of_find?_eq_some hf)
theorem o6:∀ (r:List D),(∀ d ∈ r,cD d≤64 * wD d+1)→cRow r≤64 * wRow r+r.length
 | [],_=>jb4 _
 | d :: r,h=>by
   have h1:=h d (jcj ..)
   have h2:=o6 r fun x hx=>h x (jcx _ hx)
   simp only [cRow,wRow,jb3]
   omega
theorem nR:∀ (l:List (List D)),(∀ r ∈ l,r.length≤64∧∀ d ∈ r,cD d≤64 * wD d+1)→ad l≤64 * (l.length+aO l)
 | [],_=>jbP _
 | r :: l,h=>by
   obtain ⟨h0,h1⟩:=h r (jcj ..)
   have h2:=o6 r h1
   have h3:=nR l fun x hx=>h x (jcx _ hx)
   simp only [ad,aO,jb3]
   omega
theorem cD_le {ct:CT} {d:D} (h:WfD T ct d):cD d≤64 * wD d+1:=by
 induction h with
 | int k n hn=>simp [cD]
 | bool x=>simp [cD]
 | str x hx=>simp [cD]
 | nil e=>simp [cD,ad]
 | sl e ty rows h1 h2 h3 h4 ih =>
   have h:=nR rows fun r hr=>by
    obtain ⟨k,hk,rfl⟩:=List.getElem_of_mem hr
    have hl:=h3 k _ (jbN hk)
    have hs:=rG e ty h1
    refine ⟨by omega,fun d hd=>?_⟩
    obtain ⟨j,hj,rfl⟩:=List.getElem_of_mem hd
    exact ih k j _ _ _ (jbN hk) (jbN (by omega)) (jbN hj)
   simp only [cD,wD]
   omega
theorem FOk.po_sameO {P:Program} {T:Tab} {f:FuncId} {cts:List CT} {po po' : ByteArray→List D × Bool} (he:∀ s,s.size≤1048576→po' s=po s) (h:FOk P T f (dt cts po')):FOk P T f (dt cts po):=by
 refine ⟨h.call,fun hb=>(by cases hb),fun _ w X args vals a1 a2 a3 hpre=>?_,fun hb=>(by cases hb)⟩
 obtain ⟨s,hs,rfl⟩:=hpre
 have:=h.ok rfl w X _ vals a1 a2 a3 ⟨s,hs,rfl⟩
 show Calls P f vals.toArray w _
 have e:(dt cts po').res [sArg s]=(dt cts po).res [sArg s]:=by
  show SV.tup [(true,rowO cts (po' s).1),(false,[.b (po' s).2])]=SV.tup [(true,rowO cts (po s).1),(false,[.b (po s).2])]
  rw [he s hs]
 rw [e] at this
 exact this
noncomputable def poY:ByteArray→List D × Bool:=poS pvY
theorem poY_ok:PoOk poY:=jaE sT
theorem poY_s:FOk Tryz.prog T 6 (iv cO poY):=xo6 pvY sT pvY_s
theorem poY_i:FOk Tryz.prog Td 7 (dt cO poY) :=
 FOk.po_sameO (po' := poI pvY) (fun s hs=>(po_same (jaz 1048577) hs).symm) (zo7 pvY sT pvY_i)
theorem qo:∀ a b:List D,cRow (a++b)=cRow a+cRow b
 | [],b=>by simp [cRow]
 | d :: a,b=>by simp only [jbU,cRow,qo a b];omega
theorem yO {cts:List CT} {r:List D} (h:WfRow T cts r):cRow r≤64 * wRow r+cts.length:=by
 rw [← h.1]
 refine o6 r fun d hd=>?_
 obtain ⟨j,hj,rfl⟩:=List.getElem_of_mem hd
 have hl:=h.1
 exact cD_le (h.2 j _ _ (jbN (by omega)) (jbN hj))
theorem kG {M:Nat}:∀ l:List (List D),(∀ r ∈ l,cRow r≤M)→ad l≤l.length * M
 | [],_=>jbP _
 | r :: l,h=>by
   have h1:=h r (jcj ..)
   have h2:=kG l fun x hx=>h x (jcx _ hx)
   rw [jb3,jc4]
   show cRow r+ad l≤_
   omega
theorem jai {pv:ByteArray→List D × Bool} (hw:∀ t,t.size≤1048576→WfRow T cV (pv t).1∧wRow (pv t).1≤2097152) {rows:List (List D)} (hs:SmW rows) (k:Nat):cRow (rowS pv rows k)≤134217739:=by
 obtain ⟨w1,w2⟩:=hw _ (ci hs (k+4))
 have h3:=yO w1
 have h4:cV.length=7:=rfl
 have h5:cRow (rowS pv rows k)=4+cRow (pv (txtS rows (k+4))).1:=by unfold rowS;rw [qo];rfl
 omega
theorem wj {pv:ByteArray→List D × Bool} (hw:∀ t,t.size≤1048576→WfRow T cV (pv t).1∧wRow (pv t).1≤2097152) {rows:List (List D)} (hs:SmW rows) {c:Int}:∀ (m i:Nat) (out:List (List D)),(∀ r ∈ out,cRow r≤134217739)→∀ r ∈ rdsS pv rows c m i out,cRow r≤134217739
 | 0,i,out,h,r,hr=>h r hr
 | m+1,i,out,h,r,hr=>by
   rw [rdsS] at hr
   split at hr
   · refine wj hw hs m (i+1) _ (fun x hx=>?_) r hr
     rcases jco.1 hx with hx|hx
     · exact h x hx
     · rw [jcF.1 hx]
       exact jai hw hs _
   · exact h r hr
theorem xQ (rows:List (List D)):ad (fy rows 3)=3:=by
 unfold fy
 simp [List.range,List.range.loop,ad,cRow,cD]
theorem jaG {pv:ByteArray→List D × Bool} (hw:∀ t,t.size≤1048576→WfRow T cV (pv t).1∧wRow (pv t).1≤2097152) {t:ByteArray} (ht:t.size≤1048576):cSl (poS pv t).1≤140737488355327:=by
 have sm:=smW t ht
 have hl:=j4 t ht
 obtain ⟨-,h2⟩:=oF (c:=numS (ae (aj t)) 18) hw sm ((ae (aj t)).length+1) 0 [] (fun r h=>absurd h jbS) rfl (jbP _)
 have h3:=kG _ (wj (c:=numS (ae (aj t)) 18) hw sm ((ae (aj t)).length+1) 0 [] (fun r h=>absurd h jbS))
 have h6:ad (rdsS pv (ae (aj t)) (numS (ae (aj t)) 18) ((ae (aj t)).length+1) 0 [])≤1048577 * 134217739:=jbV h3 (jcg _ (by omega))
 have h7:=xQ (ae (aj t))
 unfold poS
 rcases wx (opS (ae (aj t)) (rdsS pv (ae (aj t)) (numS (ae (aj t)) 18) ((ae (aj t)).length+1) 0 [])) (!(t.toList == [])) t with e|e
 · rw [e]
   show ad (fy (ae (aj t)) 3)+(ad (rdsS pv (ae (aj t)) (numS (ae (aj t)) 18) ((ae (aj t)).length+1) 0 [])+0)≤_
   omega
 · rw [e];exact jbP _
theorem poY_c (s:ByteArray) (hs:s.size≤1048576):1+(cSl (poY s).1:Int)≤4611686018427387904:=by
 have:=jaG sT hs
 unfold poY
 omega
end Go.Proofs.YtdjfhmghebommaaGreatDoor.Ab
